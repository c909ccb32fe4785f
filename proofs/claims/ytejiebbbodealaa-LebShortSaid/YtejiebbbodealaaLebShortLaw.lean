/- Proved: for all numbers v and w, the call of cloakroomlaw1.LebShort returns true and leaves its arguments alone. Condition: none. -/
import Derived.Test.YtejiebbbodealaaLeb4
import Derived.Test.YtejiebbbodealaaLebLaws
import Derived.Test.YtejiebbbodealaaEngS31
import Derived.Test.YtejiebbbodealaaRows
import Derived.WalkKit
import Derived.ProofKit
import Derived.OpenShut
import Derived.ShutString
import Derived.ChangeOld
import Derived.Below
import Derived.SizedLaws
import Derived.Carry
import Derived.ChangeSlices
namespace Go.Proofs.Ytejiebbbodealaa.lebShort
open Go.ChangeShapes Go.WideShapes Go.ChangeAt Go.RowKit
open Go.ChangeMaps (open_string shut_string)
open Eng
set_option linter.unusedVariables false
set_option linter.unusedSimpArgs false

noncomputable def lp1C : AC := (.seq (.seq (.region [⟨(some 19), .q (.move (.tmp 7)), none⟩, ⟨(some 20), .q (.bin .geq (.tmp 19) (.const (AV.int .u64 (Int.ofNat 128)))), none⟩]) (.cond (.tmp 20) .skip (.exit 0))) (.seq (.block 1 (.region [⟨(some 23), .q (.move (.tmp 5)), none⟩, ⟨(some 24), .q (.bin .add (.tmp 23) (.const (AV.int .i64 (Int.ofNat 1)))), none⟩, ⟨(some 5), .q (.move (.tmp 24)), none⟩])) (.region [⟨(some 21), .q (.move (.tmp 7)), none⟩, ⟨(some 22), .q (.bin .quo (.tmp 21) (.const (AV.int .u64 (Int.ofNat 128)))), none⟩, ⟨(some 7), .q (.move (.tmp 22)), none⟩])))
theorem lp1_body {call : CallT} {N : Nat} {t : T} {h : Hp} {v : Nat} {w : Int} (h0 : Hp) {n : Nat} {x : Nat} (hi : (fun (z : Nat × Nat) (h' : Hp) => z.1 + (lebH z.2).length = 1 + (lebH v).length ∧ z.2 < 18446744073709551616 ∧ z.1 ≤ 100 ∧ z.1 + (lebH z.2).length ≤ 100 ∧ h0 = h') (n, x) h)
    : ∃ s, evC call N lp1C (ovT [(0, (AV.int .u64 (Int.ofNat v))), (1, (AV.int .i64 w)), (5, (AV.int .i64 (Int.ofNat n))), (6, (AV.int .i64 (Int.ofNat 1))), (7, (AV.int .u64 (Int.ofNat x)))] t) h = s ∧ obsS [0, 1, 5, 6, 7] (fun ls h' => ∃ y, ls = ((fun (z : Nat × Nat) => [(0, (AV.int .u64 (Int.ofNat v))), (1, (AV.int .i64 w)), (5, (AV.int .i64 (Int.ofNat z.1))), (6, (AV.int .i64 (Int.ofNat 1))), (7, (AV.int .u64 (Int.ofNat z.2)))]) y).map (fun p => some p.2) ∧ (fun (z : Nat × Nat) (h' : Hp) => z.1 + (lebH z.2).length = 1 + (lebH v).length ∧ z.2 < 18446744073709551616 ∧ z.1 ≤ 100 ∧ z.1 + (lebH z.2).length ≤ 100 ∧ h0 = h') y h' ∧ (fun (z : Nat × Nat) => (lebH z.2).length) y < (fun (z : Nat × Nat) => (lebH z.2).length) (n, x)) (fun i ls h' => ∃ y, ls = ((fun (z : Nat × Nat) => [(0, (AV.int .u64 (Int.ofNat v))), (1, (AV.int .i64 w)), (5, (AV.int .i64 (Int.ofNat z.1))), (6, (AV.int .i64 (Int.ofNat 1))), (7, (AV.int .u64 (Int.ofNat z.2)))]) y).map (fun p => some p.2) ∧ (fun (i : Nat) (z : Nat × Nat) (h' : Hp) => (i = 0) ∧ (i = 0 → z.1 = 1 + (lebH v).length ∧ h0 = h')) i y h') (fun ls h' => (fun (ls : List (Option AV)) (h' : Hp) => False) ls h') s := by
  try dsimp only at hi
  obtain ⟨i1, hx, i3, i4, i5⟩ := hi
  refine walk_ok (o := (.fork 1 (.tell 1 (AV.int .i64 (Int.ofNat (n + 1))) (.tell 2 (AV.int .u64 (Int.ofNat (x / 128))) .fin)) .fin)) (p := ((notB (ltI (Int.ofNat x) (Int.ofNat 128)) = true → (evQ (.bin .add (.const (AV.int .i64 (Int.ofNat n))) (.const (AV.int .i64 (Int.ofNat 1)))) .lf H0 = .ok (AV.int .i64 (Int.ofNat (n + 1))) ∧ (evQ (.bin .quo (.const (AV.int .u64 (Int.ofNat x))) (.const (AV.int .u64 (Int.ofNat 128)))) .lf H0 = .ok (AV.int .u64 (Int.ofNat (x / 128))) ∧ ((fun ls h' => ∃ y, ls = ((fun (z : Nat × Nat) => [(0, (AV.int .u64 (Int.ofNat v))), (1, (AV.int .i64 w)), (5, (AV.int .i64 (Int.ofNat z.1))), (6, (AV.int .i64 (Int.ofNat 1))), (7, (AV.int .u64 (Int.ofNat z.2)))]) y).map (fun p => some p.2) ∧ (fun (z : Nat × Nat) (h' : Hp) => z.1 + (lebH z.2).length = 1 + (lebH v).length ∧ z.2 < 18446744073709551616 ∧ z.1 ≤ 100 ∧ z.1 + (lebH z.2).length ≤ 100 ∧ h0 = h') y h' ∧ (fun (z : Nat × Nat) => (lebH z.2).length) y < (fun (z : Nat × Nat) => (lebH z.2).length) (n, x)) : List (Option AV) → Hp → Prop) [some (AV.int .u64 (Int.ofNat v)), some (AV.int .i64 w), some (AV.int .i64 (Int.ofNat (n + 1))), some (AV.int .i64 (Int.ofNat 1)), some (AV.int .u64 (Int.ofNat (x / 128)))] h))) ∧ (notB (ltI (Int.ofNat x) (Int.ofNat 128)) = false → ((fun i ls h' => ∃ y, ls = ((fun (z : Nat × Nat) => [(0, (AV.int .u64 (Int.ofNat v))), (1, (AV.int .i64 w)), (5, (AV.int .i64 (Int.ofNat z.1))), (6, (AV.int .i64 (Int.ofNat 1))), (7, (AV.int .u64 (Int.ofNat z.2)))]) y).map (fun p => some p.2) ∧ (fun (i : Nat) (z : Nat × Nat) (h' : Hp) => (i = 0) ∧ (i = 0 → z.1 = 1 + (lebH v).length ∧ h0 = h')) i y h') : Nat → List (Option AV) → Hp → Prop) 0 [some (AV.int .u64 (Int.ofNat v)), some (AV.int .i64 w), some (AV.int .i64 (Int.ofNat n)), some (AV.int .i64 (Int.ofNat 1)), some (AV.int .u64 (Int.ofNat x))] h))) (by kernel_rfl) ?_
  refine ⟨fun c1 => ?_, fun c1 => ?_⟩
  · have rc1 := c1
    replace c1 : 128 ≤ x := ltI_f (notB_t c1)
    refine ⟨q_add (by omega), ?_⟩
    refine ⟨q_quo rfl (by decide) hx, ?_⟩
    have g2 : x / 128 < 18446744073709551616 := Nat.lt_of_le_of_lt (Nat.div_le_self _ _) hx
    rw [lebH_hi c1, List.length_cons] at i1 i4
    refine ⟨(n + 1, x / 128), rfl, ?_, ?_⟩
    · dsimp only; exact ⟨by omega, by omega, by omega, by omega, i5⟩
    · dsimp only; rw [lebH_hi c1, List.length_cons]; omega
  · have rc1 := c1
    replace c1 : x < 128 := ltI_t (notB_f c1)
    refine ⟨(n, x), rfl, rfl, fun _ => ?_⟩
    dsimp only
    rw [lebH_lo (by omega)] at i1
    exact ⟨by simpa using i1, i5⟩
theorem lp1 {call : CallT} {N : Nat} {v : Nat} {w : Int} (h0 : Hp) {n : Nat} {x : Nat} {h : Hp} (hi : (fun (z : Nat × Nat) (h' : Hp) => z.1 + (lebH z.2).length = 1 + (lebH v).length ∧ z.2 < 18446744073709551616 ∧ z.1 ≤ 100 ∧ z.1 + (lebH z.2).length ≤ 100 ∧ h0 = h') (n, x) h) (hN : (lebH x).length < N) {t : T} (ht : Has ((fun (z : Nat × Nat) => [(0, (AV.int .u64 (Int.ofNat v))), (1, (AV.int .i64 w)), (5, (AV.int .i64 (Int.ofNat z.1))), (6, (AV.int .i64 (Int.ofNat 1))), (7, (AV.int .u64 (Int.ofNat z.2)))]) (n, x)) t) :
    (∃ i y t' h', evC call N (.loop lp1C) t h = .exit i t' h' ∧ Has ((fun (z : Nat × Nat) => [(0, (AV.int .u64 (Int.ofNat v))), (1, (AV.int .i64 w)), (5, (AV.int .i64 (Int.ofNat z.1))), (6, (AV.int .i64 (Int.ofNat 1))), (7, (AV.int .u64 (Int.ofNat z.2)))]) y) t' ∧ (fun (i : Nat) (z : Nat × Nat) (h' : Hp) => (i = 0) ∧ (i = 0 → z.1 = 1 + (lebH v).length ∧ h0 = h')) i y h') ∨ (∃ t' h', evC call N (.loop lp1C) t h = .ret t' h' ∧ (fun (ls : List (Option AV)) (h' : Hp) => False) (slots [0, 1, 5, 6, 7] t') h') :=
  loop_st (fun (z : Nat × Nat) => [(0, (AV.int .u64 (Int.ofNat v))), (1, (AV.int .i64 w)), (5, (AV.int .i64 (Int.ofNat z.1))), (6, (AV.int .i64 (Int.ofNat 1))), (7, (AV.int .u64 (Int.ofNat z.2)))]) [0, 1, 5, 6, 7] (fun _ => rfl) (fun (z : Nat × Nat) (h' : Hp) => z.1 + (lebH z.2).length = 1 + (lebH v).length ∧ z.2 < 18446744073709551616 ∧ z.1 ≤ 100 ∧ z.1 + (lebH z.2).length ≤ 100 ∧ h0 = h') (fun (z : Nat × Nat) => (lebH z.2).length) (fun (i : Nat) (z : Nat × Nat) (h' : Hp) => (i = 0) ∧ (i = 0 → z.1 = 1 + (lebH v).length ∧ h0 = h')) (fun (ls : List (Option AV)) (h' : Hp) => False) (fun ⟨n, x⟩ t h hi => lp1_body h0 hi) (n, x) h hi hN t ht
theorem lp1_x {call : CallT} {N : Nat} {v : Nat} {w : Int} (h0 : Hp) {n : Nat} {x : Nat} {h : Hp} (hi : n + (lebH x).length = 1 + (lebH v).length ∧ x < 18446744073709551616 ∧ n ≤ 100 ∧ n + (lebH x).length ≤ 100 ∧ h0 = h) (hN : (lebH x).length < N) {t : T} (ht : slots [0, 1, 5, 6, 7] t = [some (AV.int .u64 (Int.ofNat v)), some (AV.int .i64 w), some (AV.int .i64 (Int.ofNat n)), some (AV.int .i64 (Int.ofNat 1)), some (AV.int .u64 (Int.ofNat x))]) :
    ∃ (n1 : Nat) (x1 : Nat) (t' : T) (h' : Hp), evC call N (.loop lp1C) t h = .exit 0 t' h' ∧ slots [0, 1, 5, 6, 7] t' = [some (AV.int .u64 (Int.ofNat v)), some (AV.int .i64 w), some (AV.int .i64 (Int.ofNat n1)), some (AV.int .i64 (Int.ofNat 1)), some (AV.int .u64 (Int.ofNat x1))] ∧ (n1 = 1 + (lebH v).length ∧ h0 = h') := by
  rcases lp1 h0 hi hN ht with ⟨i, y, t', h', q, w, e⟩ | ⟨t', h', q, e⟩
  · obtain ⟨e1, e2⟩ := e
    subst e1
    exact ⟨y.1, y.2, t', h', q, w, e2 rfl⟩
  · exact e.elim
noncomputable def lp2C : AC := (.seq (.seq (.region [⟨(some 25), .q (.move (.tmp 6)), none⟩, ⟨(some 26), .q (.bin .lss (.tmp 25) (.const (AV.int .i64 (Int.ofNat 10)))), none⟩, ⟨(some 27), .q (.move (.tmp 26)), none⟩, ⟨(some 28), .q (.move (.tmp 1)), (some (27, true))⟩, ⟨(some 29), .q (.move (.tmp 8)), (some (27, true))⟩, ⟨(some 30), .q (.bin .lss (.tmp 28) (.tmp 29)), (some (27, true))⟩, ⟨(some 31), .q (.move (.tmp 30)), (some (27, true))⟩, ⟨(some 32), .q (.move (.tmp 1)), (some (31, false))⟩, ⟨(some 33), .q (.move (.tmp 9)), (some (31, false))⟩, ⟨(some 34), .q (.bin .gtr (.tmp 32) (.tmp 33)), (some (31, false))⟩, ⟨(some 35), .q (.pick (.tmp 31) (.const (AV.bool true)) (.tmp 34)), (some (27, true))⟩, ⟨(some 36), .q (.pick (.tmp 27) (.tmp 35) (.const (AV.bool false))), none⟩]) (.cond (.tmp 36) .skip (.exit 2))) (.seq (.block 3 (.region [⟨(some 39), .q (.move (.tmp 8)), none⟩, ⟨(some 40), .q (.bin .mul (.tmp 39) (.const (AV.int .i64 (Int.ofNat 128)))), none⟩, ⟨(some 41), .q (.move (.tmp 9)), none⟩, ⟨(some 42), .q (.bin .mul (.tmp 41) (.const (AV.int .i64 (Int.ofNat 128)))), none⟩, ⟨(some 43), .q (.bin .add (.tmp 42) (.const (AV.int .i64 (Int.ofNat 127)))), none⟩, ⟨(some 8), .q (.move (.tmp 40)), none⟩, ⟨(some 9), .q (.move (.tmp 43)), none⟩])) (.region [⟨(some 37), .q (.move (.tmp 6)), none⟩, ⟨(some 38), .q (.bin .add (.tmp 37) (.const (AV.int .i64 (Int.ofNat 1)))), none⟩, ⟨(some 6), .q (.move (.tmp 38)), none⟩])))
theorem lp2_body {call : CallT} {N : Nat} {t : T} {h : Hp} {v nn : Nat} {w : Int} {k : Nat} (h0 : Hp) (kin : -(64 * 128 ^ k) ≤ w ∧ w < 64 * 128 ^ k) (kmin : ∀ j : Nat, -(64 * 128 ^ j) ≤ w ∧ w < 64 * 128 ^ j → k ≤ j) (k9 : k ≤ 9) {m : Nat} {lo : Int} {up : Int} (hi : (fun (z : Nat × Int × Int) (h' : Hp) => 1 ≤ z.1 ∧ z.1 ≤ k + 1 ∧ (z.1 ≤ 9 → z.2.1 = -(64 * 128 ^ (z.1 - 1)) ∧ z.2.2 = 64 * 128 ^ (z.1 - 1) - 1) ∧ h0 = h') (m, lo, up) h)
    : ∃ s, evC call N lp2C (ovT [(0, (AV.int .u64 (Int.ofNat v))), (1, (AV.int .i64 w)), (5, (AV.int .i64 (Int.ofNat nn))), (6, (AV.int .i64 (Int.ofNat m))), (8, (AV.int .i64 lo)), (9, (AV.int .i64 up))] t) h = s ∧ obsS [0, 1, 5, 6, 8, 9] (fun ls h' => ∃ y, ls = ((fun (z : Nat × Int × Int) => [(0, (AV.int .u64 (Int.ofNat v))), (1, (AV.int .i64 w)), (5, (AV.int .i64 (Int.ofNat nn))), (6, (AV.int .i64 (Int.ofNat z.1))), (8, (AV.int .i64 z.2.1)), (9, (AV.int .i64 z.2.2))]) y).map (fun p => some p.2) ∧ (fun (z : Nat × Int × Int) (h' : Hp) => 1 ≤ z.1 ∧ z.1 ≤ k + 1 ∧ (z.1 ≤ 9 → z.2.1 = -(64 * 128 ^ (z.1 - 1)) ∧ z.2.2 = 64 * 128 ^ (z.1 - 1) - 1) ∧ h0 = h') y h' ∧ (fun (z : Nat × Int × Int) => 10 - z.1) y < (fun (z : Nat × Int × Int) => 10 - z.1) (m, lo, up)) (fun i ls h' => ∃ y, ls = ((fun (z : Nat × Int × Int) => [(0, (AV.int .u64 (Int.ofNat v))), (1, (AV.int .i64 w)), (5, (AV.int .i64 (Int.ofNat nn))), (6, (AV.int .i64 (Int.ofNat z.1))), (8, (AV.int .i64 z.2.1)), (9, (AV.int .i64 z.2.2))]) y).map (fun p => some p.2) ∧ (fun (i : Nat) (z : Nat × Int × Int) (h' : Hp) => (i = 2) ∧ (i = 2 → z.1 = k + 1 ∧ h0 = h')) i y h') (fun ls h' => (fun (ls : List (Option AV)) (h' : Hp) => False) ls h') s := by
  try dsimp only at hi
  obtain ⟨i1, i2, i3, i4⟩ := hi
  refine walk_ok (o := (.fork 2 (.fork 3 (.tell 10 (AV.int .i64 (Int.ofNat (m + 1))) .fin) (.fork 4 (.tell 8 (AV.int .i64 (Int.ofNat (m + 1))) .fin) .fin)) .fin)) (p := ((ltI (Int.ofNat m) (Int.ofNat 10) = true → ((ltI w lo = true → (evQ (.bin .add (.const (AV.int .i64 (Int.ofNat m))) (.const (AV.int .i64 (Int.ofNat 1)))) .lf H0 = .ok (AV.int .i64 (Int.ofNat (m + 1))) ∧ ((fun ls h' => ∃ y, ls = ((fun (z : Nat × Int × Int) => [(0, (AV.int .u64 (Int.ofNat v))), (1, (AV.int .i64 w)), (5, (AV.int .i64 (Int.ofNat nn))), (6, (AV.int .i64 (Int.ofNat z.1))), (8, (AV.int .i64 z.2.1)), (9, (AV.int .i64 z.2.2))]) y).map (fun p => some p.2) ∧ (fun (z : Nat × Int × Int) (h' : Hp) => 1 ≤ z.1 ∧ z.1 ≤ k + 1 ∧ (z.1 ≤ 9 → z.2.1 = -(64 * 128 ^ (z.1 - 1)) ∧ z.2.2 = 64 * 128 ^ (z.1 - 1) - 1) ∧ h0 = h') y h' ∧ (fun (z : Nat × Int × Int) => 10 - z.1) y < (fun (z : Nat × Int × Int) => 10 - z.1) (m, lo, up)) : List (Option AV) → Hp → Prop) [some (AV.int .u64 (Int.ofNat v)), some (AV.int .i64 w), some (AV.int .i64 (Int.ofNat nn)), some (AV.int .i64 (Int.ofNat (m + 1))), some (AV.int .i64 (wrapA .i64 (Int.mul lo (Int.ofNat 128)))), some (AV.int .i64 (wrapA .i64 (Int.add (wrapA .i64 (Int.mul up (Int.ofNat 128))) (Int.ofNat 127))))] h)) ∧ (ltI w lo = false → ((ltI up w = true → (evQ (.bin .add (.const (AV.int .i64 (Int.ofNat m))) (.const (AV.int .i64 (Int.ofNat 1)))) .lf H0 = .ok (AV.int .i64 (Int.ofNat (m + 1))) ∧ ((fun ls h' => ∃ y, ls = ((fun (z : Nat × Int × Int) => [(0, (AV.int .u64 (Int.ofNat v))), (1, (AV.int .i64 w)), (5, (AV.int .i64 (Int.ofNat nn))), (6, (AV.int .i64 (Int.ofNat z.1))), (8, (AV.int .i64 z.2.1)), (9, (AV.int .i64 z.2.2))]) y).map (fun p => some p.2) ∧ (fun (z : Nat × Int × Int) (h' : Hp) => 1 ≤ z.1 ∧ z.1 ≤ k + 1 ∧ (z.1 ≤ 9 → z.2.1 = -(64 * 128 ^ (z.1 - 1)) ∧ z.2.2 = 64 * 128 ^ (z.1 - 1) - 1) ∧ h0 = h') y h' ∧ (fun (z : Nat × Int × Int) => 10 - z.1) y < (fun (z : Nat × Int × Int) => 10 - z.1) (m, lo, up)) : List (Option AV) → Hp → Prop) [some (AV.int .u64 (Int.ofNat v)), some (AV.int .i64 w), some (AV.int .i64 (Int.ofNat nn)), some (AV.int .i64 (Int.ofNat (m + 1))), some (AV.int .i64 (wrapA .i64 (Int.mul lo (Int.ofNat 128)))), some (AV.int .i64 (wrapA .i64 (Int.add (wrapA .i64 (Int.mul up (Int.ofNat 128))) (Int.ofNat 127))))] h)) ∧ (ltI up w = false → ((fun i ls h' => ∃ y, ls = ((fun (z : Nat × Int × Int) => [(0, (AV.int .u64 (Int.ofNat v))), (1, (AV.int .i64 w)), (5, (AV.int .i64 (Int.ofNat nn))), (6, (AV.int .i64 (Int.ofNat z.1))), (8, (AV.int .i64 z.2.1)), (9, (AV.int .i64 z.2.2))]) y).map (fun p => some p.2) ∧ (fun (i : Nat) (z : Nat × Int × Int) (h' : Hp) => (i = 2) ∧ (i = 2 → z.1 = k + 1 ∧ h0 = h')) i y h') : Nat → List (Option AV) → Hp → Prop) 2 [some (AV.int .u64 (Int.ofNat v)), some (AV.int .i64 w), some (AV.int .i64 (Int.ofNat nn)), some (AV.int .i64 (Int.ofNat m)), some (AV.int .i64 lo), some (AV.int .i64 up)] h))))) ∧ (ltI (Int.ofNat m) (Int.ofNat 10) = false → ((fun i ls h' => ∃ y, ls = ((fun (z : Nat × Int × Int) => [(0, (AV.int .u64 (Int.ofNat v))), (1, (AV.int .i64 w)), (5, (AV.int .i64 (Int.ofNat nn))), (6, (AV.int .i64 (Int.ofNat z.1))), (8, (AV.int .i64 z.2.1)), (9, (AV.int .i64 z.2.2))]) y).map (fun p => some p.2) ∧ (fun (i : Nat) (z : Nat × Int × Int) (h' : Hp) => (i = 2) ∧ (i = 2 → z.1 = k + 1 ∧ h0 = h')) i y h') : Nat → List (Option AV) → Hp → Prop) 2 [some (AV.int .u64 (Int.ofNat v)), some (AV.int .i64 w), some (AV.int .i64 (Int.ofNat nn)), some (AV.int .i64 (Int.ofNat m)), some (AV.int .i64 lo), some (AV.int .i64 up)] h))) (by kernel_rfl) ?_
  refine ⟨fun c1 => ?_, fun c1 => ?_⟩
  · have rc1 := c1
    replace c1 : m < 10 := ltI_t c1
    refine ⟨fun c2 => ?_, fun c2 => ?_⟩
    · have rc2 := c2
      replace c2 : w < lo := ltI_T c2
      refine ⟨q_add (by omega), ?_⟩
      obtain ⟨e1, e2⟩ := i3 (by omega)
      have hmk : m ≠ k + 1 := fun e => by subst e; rw [Nat.add_sub_cancel] at e1 e2; omega
      refine ⟨(m + 1, wrapA .i64 (Int.mul lo (Int.ofNat 128)), wrapA .i64 (Int.add (wrapA .i64 (Int.mul up (Int.ofNat 128))) (Int.ofNat 127))), rfl, ?_, ?_⟩
      · dsimp only
        refine ⟨by omega, by omega, fun h9 => ?_, i4⟩
        have hp : (128 : Int) ^ m = 128 ^ (m - 1) * 128 := by have h : (128 : Int) ^ (m - 1 + 1) = 128 ^ (m - 1) * 128 := Int.pow_succ _ _; rwa [Nat.sub_add_cancel i1] at h
        have hb : (128 : Int) ^ (m - 1) ≤ 128 ^ 7 := by have h := Nat.pow_le_pow_right (n := 128) (by decide) (show m - 1 ≤ 7 by omega); have h2 := Int.ofNat_le.2 h; simpa using h2
        have hq : (0 : Int) < 128 ^ (m - 1) := Int.pow_pos (by decide)
        have h7 : (128 : Int) ^ 7 = 562949953421312 := by decide
        rw [h7] at hb
        have m1 : Int.mul lo (Int.ofNat 128) = lo * 128 := rfl
        have m2 : Int.mul up (Int.ofNat 128) = up * 128 := rfl
        rw [m1, m2, wrap_i64z (x := lo * 128) (by constructor <;> omega), wrap_i64z (x := up * 128) (by constructor <;> omega)]
        have m3 : Int.add (up * 128) (Int.ofNat 127) = up * 128 + 127 := rfl
        rw [m3, wrap_i64z (by constructor <;> omega), Nat.add_sub_cancel, hp]
        constructor <;> omega
      · dsimp only; omega
    · have rc2 := c2
      replace c2 : lo ≤ w := ltI_F c2
      refine ⟨fun c3 => ?_, fun c3 => ?_⟩
      · have rc3 := c3
        replace c3 : up < w := ltI_T c3
        refine ⟨q_add (by omega), ?_⟩
        obtain ⟨e1, e2⟩ := i3 (by omega)
        have hmk : m ≠ k + 1 := fun e => by subst e; rw [Nat.add_sub_cancel] at e1 e2; omega
        refine ⟨(m + 1, wrapA .i64 (Int.mul lo (Int.ofNat 128)), wrapA .i64 (Int.add (wrapA .i64 (Int.mul up (Int.ofNat 128))) (Int.ofNat 127))), rfl, ?_, ?_⟩
        · dsimp only
          refine ⟨by omega, by omega, fun h9 => ?_, i4⟩
          have hp : (128 : Int) ^ m = 128 ^ (m - 1) * 128 := by have h : (128 : Int) ^ (m - 1 + 1) = 128 ^ (m - 1) * 128 := Int.pow_succ _ _; rwa [Nat.sub_add_cancel i1] at h
          have hb : (128 : Int) ^ (m - 1) ≤ 128 ^ 7 := by have h := Nat.pow_le_pow_right (n := 128) (by decide) (show m - 1 ≤ 7 by omega); have h2 := Int.ofNat_le.2 h; simpa using h2
          have hq : (0 : Int) < 128 ^ (m - 1) := Int.pow_pos (by decide)
          have h7 : (128 : Int) ^ 7 = 562949953421312 := by decide
          rw [h7] at hb
          have m1 : Int.mul lo (Int.ofNat 128) = lo * 128 := rfl
          have m2 : Int.mul up (Int.ofNat 128) = up * 128 := rfl
          rw [m1, m2, wrap_i64z (x := lo * 128) (by constructor <;> omega), wrap_i64z (x := up * 128) (by constructor <;> omega)]
          have m3 : Int.add (up * 128) (Int.ofNat 127) = up * 128 + 127 := rfl
          rw [m3, wrap_i64z (by constructor <;> omega), Nat.add_sub_cancel, hp]
          constructor <;> omega
        · dsimp only; omega
      · have rc3 := c3
        replace c3 : w ≤ up := ltI_F c3
        refine ⟨(m, lo, up), rfl, rfl, fun _ => ?_⟩
        dsimp only
        obtain ⟨e1, e2⟩ := i3 (by omega)
        have := kmin (m - 1) (by omega)
        exact ⟨by omega, i4⟩
  · have rc1 := c1
    replace c1 : 10 ≤ m := ltI_f c1
    refine ⟨(m, lo, up), rfl, rfl, fun _ => ?_⟩
    dsimp only
    exact ⟨by omega, i4⟩
theorem lp2 {call : CallT} {N : Nat} {v nn : Nat} {w : Int} {k : Nat} (h0 : Hp) (kin : -(64 * 128 ^ k) ≤ w ∧ w < 64 * 128 ^ k) (kmin : ∀ j : Nat, -(64 * 128 ^ j) ≤ w ∧ w < 64 * 128 ^ j → k ≤ j) (k9 : k ≤ 9) {m : Nat} {lo : Int} {up : Int} {h : Hp} (hi : (fun (z : Nat × Int × Int) (h' : Hp) => 1 ≤ z.1 ∧ z.1 ≤ k + 1 ∧ (z.1 ≤ 9 → z.2.1 = -(64 * 128 ^ (z.1 - 1)) ∧ z.2.2 = 64 * 128 ^ (z.1 - 1) - 1) ∧ h0 = h') (m, lo, up) h) (hN : 10 - m < N) {t : T} (ht : Has ((fun (z : Nat × Int × Int) => [(0, (AV.int .u64 (Int.ofNat v))), (1, (AV.int .i64 w)), (5, (AV.int .i64 (Int.ofNat nn))), (6, (AV.int .i64 (Int.ofNat z.1))), (8, (AV.int .i64 z.2.1)), (9, (AV.int .i64 z.2.2))]) (m, lo, up)) t) :
    (∃ i y t' h', evC call N (.loop lp2C) t h = .exit i t' h' ∧ Has ((fun (z : Nat × Int × Int) => [(0, (AV.int .u64 (Int.ofNat v))), (1, (AV.int .i64 w)), (5, (AV.int .i64 (Int.ofNat nn))), (6, (AV.int .i64 (Int.ofNat z.1))), (8, (AV.int .i64 z.2.1)), (9, (AV.int .i64 z.2.2))]) y) t' ∧ (fun (i : Nat) (z : Nat × Int × Int) (h' : Hp) => (i = 2) ∧ (i = 2 → z.1 = k + 1 ∧ h0 = h')) i y h') ∨ (∃ t' h', evC call N (.loop lp2C) t h = .ret t' h' ∧ (fun (ls : List (Option AV)) (h' : Hp) => False) (slots [0, 1, 5, 6, 8, 9] t') h') :=
  loop_st (fun (z : Nat × Int × Int) => [(0, (AV.int .u64 (Int.ofNat v))), (1, (AV.int .i64 w)), (5, (AV.int .i64 (Int.ofNat nn))), (6, (AV.int .i64 (Int.ofNat z.1))), (8, (AV.int .i64 z.2.1)), (9, (AV.int .i64 z.2.2))]) [0, 1, 5, 6, 8, 9] (fun _ => rfl) (fun (z : Nat × Int × Int) (h' : Hp) => 1 ≤ z.1 ∧ z.1 ≤ k + 1 ∧ (z.1 ≤ 9 → z.2.1 = -(64 * 128 ^ (z.1 - 1)) ∧ z.2.2 = 64 * 128 ^ (z.1 - 1) - 1) ∧ h0 = h') (fun (z : Nat × Int × Int) => 10 - z.1) (fun (i : Nat) (z : Nat × Int × Int) (h' : Hp) => (i = 2) ∧ (i = 2 → z.1 = k + 1 ∧ h0 = h')) (fun (ls : List (Option AV)) (h' : Hp) => False) (fun ⟨m, lo, up⟩ t h hi => lp2_body h0 kin kmin k9 hi) (m, lo, up) h hi hN t ht
theorem lp2_x {call : CallT} {N : Nat} {v nn : Nat} {w : Int} {k : Nat} (h0 : Hp) (kin : -(64 * 128 ^ k) ≤ w ∧ w < 64 * 128 ^ k) (kmin : ∀ j : Nat, -(64 * 128 ^ j) ≤ w ∧ w < 64 * 128 ^ j → k ≤ j) (k9 : k ≤ 9) {m : Nat} {lo : Int} {up : Int} {h : Hp} (hi : 1 ≤ m ∧ m ≤ k + 1 ∧ (m ≤ 9 → lo = -(64 * 128 ^ (m - 1)) ∧ up = 64 * 128 ^ (m - 1) - 1) ∧ h0 = h) (hN : 10 - m < N) {t : T} (ht : slots [0, 1, 5, 6, 8, 9] t = [some (AV.int .u64 (Int.ofNat v)), some (AV.int .i64 w), some (AV.int .i64 (Int.ofNat nn)), some (AV.int .i64 (Int.ofNat m)), some (AV.int .i64 lo), some (AV.int .i64 up)]) :
    ∃ (m1 : Nat) (lo1 : Int) (up1 : Int) (t' : T) (h' : Hp), evC call N (.loop lp2C) t h = .exit 2 t' h' ∧ slots [0, 1, 5, 6, 8, 9] t' = [some (AV.int .u64 (Int.ofNat v)), some (AV.int .i64 w), some (AV.int .i64 (Int.ofNat nn)), some (AV.int .i64 (Int.ofNat m1)), some (AV.int .i64 lo1), some (AV.int .i64 up1)] ∧ (m1 = k + 1 ∧ h0 = h') := by
  rcases lp2 h0 kin kmin k9 hi hN ht with ⟨i, y, t', h', q, w, e⟩ | ⟨t', h', q, e⟩
  · obtain ⟨e1, e2⟩ := e
    subst e1
    exact ⟨y.1, y.2.1, y.2.2, t', h', q, w, e2 rfl⟩
  · exact e.elim
noncomputable def lp3C : AC := (.seq (.seq (.region [⟨(some 48), .q (.move (.tmp 12)), none⟩, ⟨(some 49), .q (.move (.tmp 10)), none⟩, ⟨(some 50), .q (.lenL (.tmp 49)), none⟩, ⟨(some 51), .q (.bin .lss (.tmp 48) (.tmp 50)), none⟩]) (.cond (.tmp 51) .skip (.exit 4))) (.seq (.block 5 (.seq (.region [⟨(some 54), .q (.move (.tmp 10)), none⟩, ⟨(some 55), .q (.move (.tmp 12)), none⟩, ⟨(some 56), .q (.idxAddrSl 1 (.tmp 54) (.tmp 55)), none⟩, ⟨(some 57), .q (.loadS (.tmp 56)), none⟩, ⟨(some 58), .q (.bin .geq (.tmp 57) (.const (AV.int .u8 (Int.ofNat 128)))), none⟩, ⟨(some 59), .q (.move (.tmp 12)), none⟩, ⟨(some 60), .q (.move (.tmp 10)), none⟩, ⟨(some 61), .q (.lenL (.tmp 60)), none⟩, ⟨(some 62), .q (.bin .sub (.tmp 61) (.const (AV.int .i64 (Int.ofNat 1)))), none⟩, ⟨(some 63), .q (.bin .lss (.tmp 59) (.tmp 62)), none⟩, ⟨(some 64), .q (.eq .bool true (.tmp 58) (.tmp 63)), none⟩]) (.cond (.tmp 64) (.seq (.region [⟨(some 4), .q (.move (.const (AV.bool false))), none⟩]) .ret) .skip))) (.region [⟨(some 52), .q (.move (.tmp 12)), none⟩, ⟨(some 53), .q (.bin .add (.tmp 52) (.const (AV.int .i64 (Int.ofNat 1)))), none⟩, ⟨(some 12), .q (.move (.tmp 53)), none⟩])))
theorem lp3_body {call : CallT} {N : Nat} {t : T} {h : Hp} {v nn mm C : Nat} {va vc : AV} (h0 : Hp) (hv : v < 18446744073709551616) (hb : Bytes C h0 va (lebU v)) {i : Nat} (hi : (fun (z : Nat) (h' : Hp) => z ≤ (lebU v).length ∧ h0 = h') i h)
    : ∃ s, evC call N lp3C (ovT [(5, (AV.int .i64 (Int.ofNat nn))), (6, (AV.int .i64 (Int.ofNat mm))), (10, va), (11, vc), (12, (AV.int .i64 (Int.ofNat i)))] t) h = s ∧ obsS [5, 6, 10, 11, 12] (fun ls h' => ∃ y, ls = ((fun (z : Nat) => [(5, (AV.int .i64 (Int.ofNat nn))), (6, (AV.int .i64 (Int.ofNat mm))), (10, va), (11, vc), (12, (AV.int .i64 (Int.ofNat z)))]) y).map (fun p => some p.2) ∧ (fun (z : Nat) (h' : Hp) => z ≤ (lebU v).length ∧ h0 = h') y h' ∧ (fun (z : Nat) => (lebU v).length - z) y < (fun (z : Nat) => (lebU v).length - z) i) (fun i ls h' => ∃ y, ls = ((fun (z : Nat) => [(5, (AV.int .i64 (Int.ofNat nn))), (6, (AV.int .i64 (Int.ofNat mm))), (10, va), (11, vc), (12, (AV.int .i64 (Int.ofNat z)))]) y).map (fun p => some p.2) ∧ (fun (i : Nat) (z : Nat) (h' : Hp) => (i = 4) ∧ (i = 4 → h0 = h')) i y h') (fun ls h' => (fun (ls : List (Option AV)) (h' : Hp) => False) ls h') s := by
  try dsimp only at hi
  obtain ⟨i1, i2⟩ := hi
  have hb : Bytes C h va (lebU v) := i2 ▸ hb
  have hlen := lebU_len' hv
  refine walk_ok (o := (.tell 2 (AV.int .i64 (Int.ofNat ((lebU v).length))) (.fork 0 (.tell 2 (elemP va i 1) (.tell 0 (AV.int .u8 (Int.ofNat ((lebU v).getD i 0))) (.fork 0 (.tell 2 (AV.int .i64 (Int.ofNat ((lebU v).length))) (.tell 0 (AV.int .i64 (Int.ofNat (((lebU v).length) - 1))) (.fork 0 (.tell 2 (AV.int .i64 (Int.ofNat (i + 1))) .fin) .fin))) (.tell 2 (AV.int .i64 (Int.ofNat ((lebU v).length))) (.tell 0 (AV.int .i64 (Int.ofNat (((lebU v).length) - 1))) (.fork 0 .fin (.tell 2 (AV.int .i64 (Int.ofNat (i + 1))) .fin))))))) .fin))) (p := (evQ (.lenL (.const va)) .lf H0 = .ok (AV.int .i64 (Int.ofNat ((lebU v).length))) ∧ ((ltI (Int.ofNat i) (Int.ofNat ((lebU v).length)) = true → (evQ (.idxAddrSl 1 (.const va) (.const (AV.int .i64 (Int.ofNat i)))) .lf H0 = .ok (elemP va i 1) ∧ (evQ (.loadS (.const (elemP va i 1))) .lf h = .ok (AV.int .u8 (Int.ofNat ((lebU v).getD i 0))) ∧ ((notB (ltI (Int.ofNat ((lebU v).getD i 0)) (Int.ofNat 128)) = true → (evQ (.lenL (.const va)) .lf H0 = .ok (AV.int .i64 (Int.ofNat ((lebU v).length))) ∧ (evQ (.bin .sub (.const (AV.int .i64 (Int.ofNat ((lebU v).length)))) (.const (AV.int .i64 (Int.ofNat 1)))) .lf H0 = .ok (AV.int .i64 (Int.ofNat (((lebU v).length) - 1))) ∧ ((ltI (Int.ofNat i) (Int.ofNat (((lebU v).length) - 1)) = true → (evQ (.bin .add (.const (AV.int .i64 (Int.ofNat i))) (.const (AV.int .i64 (Int.ofNat 1)))) .lf H0 = .ok (AV.int .i64 (Int.ofNat (i + 1))) ∧ ((fun ls h' => ∃ y, ls = ((fun (z : Nat) => [(5, (AV.int .i64 (Int.ofNat nn))), (6, (AV.int .i64 (Int.ofNat mm))), (10, va), (11, vc), (12, (AV.int .i64 (Int.ofNat z)))]) y).map (fun p => some p.2) ∧ (fun (z : Nat) (h' : Hp) => z ≤ (lebU v).length ∧ h0 = h') y h' ∧ (fun (z : Nat) => (lebU v).length - z) y < (fun (z : Nat) => (lebU v).length - z) i) : List (Option AV) → Hp → Prop) [some (AV.int .i64 (Int.ofNat nn)), some (AV.int .i64 (Int.ofNat mm)), some va, some vc, some (AV.int .i64 (Int.ofNat (i + 1)))] h)) ∧ (ltI (Int.ofNat i) (Int.ofNat (((lebU v).length) - 1)) = false → ((fun ls h' => (fun (ls : List (Option AV)) (h' : Hp) => False) ls h') : List (Option AV) → Hp → Prop) [some (AV.int .i64 (Int.ofNat nn)), some (AV.int .i64 (Int.ofNat mm)), some va, some vc, some (AV.int .i64 (Int.ofNat i))] h))))) ∧ (notB (ltI (Int.ofNat ((lebU v).getD i 0)) (Int.ofNat 128)) = false → (evQ (.lenL (.const va)) .lf H0 = .ok (AV.int .i64 (Int.ofNat ((lebU v).length))) ∧ (evQ (.bin .sub (.const (AV.int .i64 (Int.ofNat ((lebU v).length)))) (.const (AV.int .i64 (Int.ofNat 1)))) .lf H0 = .ok (AV.int .i64 (Int.ofNat (((lebU v).length) - 1))) ∧ ((ltI (Int.ofNat i) (Int.ofNat (((lebU v).length) - 1)) = true → ((fun ls h' => (fun (ls : List (Option AV)) (h' : Hp) => False) ls h') : List (Option AV) → Hp → Prop) [some (AV.int .i64 (Int.ofNat nn)), some (AV.int .i64 (Int.ofNat mm)), some va, some vc, some (AV.int .i64 (Int.ofNat i))] h) ∧ (ltI (Int.ofNat i) (Int.ofNat (((lebU v).length) - 1)) = false → (evQ (.bin .add (.const (AV.int .i64 (Int.ofNat i))) (.const (AV.int .i64 (Int.ofNat 1)))) .lf H0 = .ok (AV.int .i64 (Int.ofNat (i + 1))) ∧ ((fun ls h' => ∃ y, ls = ((fun (z : Nat) => [(5, (AV.int .i64 (Int.ofNat nn))), (6, (AV.int .i64 (Int.ofNat mm))), (10, va), (11, vc), (12, (AV.int .i64 (Int.ofNat z)))]) y).map (fun p => some p.2) ∧ (fun (z : Nat) (h' : Hp) => z ≤ (lebU v).length ∧ h0 = h') y h' ∧ (fun (z : Nat) => (lebU v).length - z) y < (fun (z : Nat) => (lebU v).length - z) i) : List (Option AV) → Hp → Prop) [some (AV.int .i64 (Int.ofNat nn)), some (AV.int .i64 (Int.ofNat mm)), some va, some vc, some (AV.int .i64 (Int.ofNat (i + 1)))] h)))))))))) ∧ (ltI (Int.ofNat i) (Int.ofNat ((lebU v).length)) = false → ((fun i ls h' => ∃ y, ls = ((fun (z : Nat) => [(5, (AV.int .i64 (Int.ofNat nn))), (6, (AV.int .i64 (Int.ofNat mm))), (10, va), (11, vc), (12, (AV.int .i64 (Int.ofNat z)))]) y).map (fun p => some p.2) ∧ (fun (i : Nat) (z : Nat) (h' : Hp) => (i = 4) ∧ (i = 4 → h0 = h')) i y h') : Nat → List (Option AV) → Hp → Prop) 4 [some (AV.int .i64 (Int.ofNat nn)), some (AV.int .i64 (Int.ofNat mm)), some va, some vc, some (AV.int .i64 (Int.ofNat i))] h)))) (by kernel_rfl) ?_
  refine ⟨q_len hb, ?_⟩
  refine ⟨fun c1 => ?_, fun c1 => ?_⟩
  · have rc1 := c1
    replace c1 : i < (lebU v).length := ltI_t c1
    refine ⟨q_idxB hb (by omega), ?_⟩
    refine ⟨q_byte hb (by omega), ?_⟩
    have x2 : (lebU v).getD i 0 < 256 := getD_lt hb.lt i
    refine ⟨fun c3 => ?_, fun c3 => ?_⟩
    · have rc3 := c3
      replace c3 : 128 ≤ (lebU v).getD i 0 := ltI_f (notB_t c3)
      refine ⟨q_len hb, ?_⟩
      refine ⟨q_sub (by omega) (by omega), ?_⟩
      refine ⟨fun c4 => ?_, fun c4 => ?_⟩
      · have rc4 := c4
        replace c4 : i < ((lebU v).length) - 1 := ltI_t c4
        refine ⟨q_add (by omega), ?_⟩
        exact ⟨i + 1, rfl, ⟨by omega, i2⟩, by dsimp only; omega⟩
      · have rc4 := c4
        replace c4 : ((lebU v).length) - 1 ≤ i := ltI_f c4
        have := lebU_at (v := v) (i := i) c1
        exact absurd this (by omega)
    · have rc3 := c3
      replace c3 : (lebU v).getD i 0 < 128 := ltI_t (notB_f c3)
      refine ⟨q_len hb, ?_⟩
      refine ⟨q_sub (by omega) (by omega), ?_⟩
      refine ⟨fun c4 => ?_, fun c4 => ?_⟩
      · have rc4 := c4
        replace c4 : i < ((lebU v).length) - 1 := ltI_t c4
        have := lebU_at (v := v) (i := i) c1
        exact absurd this (by omega)
      · have rc4 := c4
        replace c4 : ((lebU v).length) - 1 ≤ i := ltI_f c4
        refine ⟨q_add (by omega), ?_⟩
        exact ⟨i + 1, rfl, ⟨by omega, i2⟩, by dsimp only; omega⟩
  · have rc1 := c1
    replace c1 : (lebU v).length ≤ i := ltI_f c1
    exact ⟨i, rfl, rfl, fun _ => i2⟩
theorem lp3 {call : CallT} {N : Nat} {v nn mm C : Nat} {va vc : AV} (h0 : Hp) (hv : v < 18446744073709551616) (hb : Bytes C h0 va (lebU v)) {i : Nat} {h : Hp} (hi : (fun (z : Nat) (h' : Hp) => z ≤ (lebU v).length ∧ h0 = h') i h) (hN : (lebU v).length - i < N) {t : T} (ht : Has ((fun (z : Nat) => [(5, (AV.int .i64 (Int.ofNat nn))), (6, (AV.int .i64 (Int.ofNat mm))), (10, va), (11, vc), (12, (AV.int .i64 (Int.ofNat z)))]) i) t) :
    (∃ i y t' h', evC call N (.loop lp3C) t h = .exit i t' h' ∧ Has ((fun (z : Nat) => [(5, (AV.int .i64 (Int.ofNat nn))), (6, (AV.int .i64 (Int.ofNat mm))), (10, va), (11, vc), (12, (AV.int .i64 (Int.ofNat z)))]) y) t' ∧ (fun (i : Nat) (z : Nat) (h' : Hp) => (i = 4) ∧ (i = 4 → h0 = h')) i y h') ∨ (∃ t' h', evC call N (.loop lp3C) t h = .ret t' h' ∧ (fun (ls : List (Option AV)) (h' : Hp) => False) (slots [5, 6, 10, 11, 12] t') h') :=
  loop_st (fun (z : Nat) => [(5, (AV.int .i64 (Int.ofNat nn))), (6, (AV.int .i64 (Int.ofNat mm))), (10, va), (11, vc), (12, (AV.int .i64 (Int.ofNat z)))]) [5, 6, 10, 11, 12] (fun _ => rfl) (fun (z : Nat) (h' : Hp) => z ≤ (lebU v).length ∧ h0 = h') (fun (z : Nat) => (lebU v).length - z) (fun (i : Nat) (z : Nat) (h' : Hp) => (i = 4) ∧ (i = 4 → h0 = h')) (fun (ls : List (Option AV)) (h' : Hp) => False) (fun i t h hi => lp3_body h0 hv hb hi) i h hi hN t ht
theorem lp3_x {call : CallT} {N : Nat} {v nn mm C : Nat} {va vc : AV} (h0 : Hp) (hv : v < 18446744073709551616) (hb : Bytes C h0 va (lebU v)) {i : Nat} {h : Hp} (hi : i ≤ (lebU v).length ∧ h0 = h) (hN : (lebU v).length - i < N) {t : T} (ht : slots [5, 6, 10, 11, 12] t = [some (AV.int .i64 (Int.ofNat nn)), some (AV.int .i64 (Int.ofNat mm)), some va, some vc, some (AV.int .i64 (Int.ofNat i))]) :
    ∃ (i1 : Nat) (t' : T) (h' : Hp), evC call N (.loop lp3C) t h = .exit 4 t' h' ∧ slots [5, 6, 10, 11, 12] t' = [some (AV.int .i64 (Int.ofNat nn)), some (AV.int .i64 (Int.ofNat mm)), some va, some vc, some (AV.int .i64 (Int.ofNat i1))] ∧ (h0 = h') := by
  rcases lp3 h0 hv hb hi hN ht with ⟨i, y, t', h', q, w, e⟩ | ⟨t', h', q, e⟩
  · obtain ⟨e1, e2⟩ := e
    subst e1
    exact ⟨y, t', h', q, w, e2 rfl⟩
  · exact e.elim
theorem law_walk {call : CallT} {N : Nat} {h : Hp} {v : Nat} {w : Int} (hv : v < 18446744073709551616) (hw : -9223372036854775808 ≤ w ∧ w < 9223372036854775808) (hbegun : TrueS call 15) (hPutU : PutUS call 16) (hPutS : PutSS call 18) (hS64 : NumS call 20 64 true .i64 (sInt .i64)) (hN : 1000 < N)
    : ∃ rv rh, evF1 (progS Try.prog (compDrawn Try.prog)) N call 4 [(AV.int .u64 (Int.ofNat v)), (AV.int .i64 w)] h = .ok rv rh ∧ (fun (v : AV) (_ : Hp) => v = .bool true) rv rh := by
  have hl1 := lebU_len' hv
  have hl2 := lebS_len' hw
  have hl3 := lebH_lenU v
  obtain ⟨k, hk, kin, kmin⟩ := lebS_lenD w
  have k9 : k ≤ 9 := by omega
  have hrd : (sInt .i64 (readG 64 true (lebS w) 0 0 0).1, (readG 64 true (lebS w) 0 0 0).2.1, (readG 64 true (lebS w) 0 0 0).2.2) = (w, (lebS w).length, 0) := by
    have := readG_lebS (size := 64) (by decide) (w := w) []
    rw [List.append_nil, if_pos (by simpa using hw)] at this
    rw [this]
    exact congrArg (fun x => (x, (lebS w).length, 0)) (sInt_back hw)
  have hrd1 : sInt .i64 (readG 64 true (lebS w) 0 0 0).1 = w := congrArg (fun p => p.1) hrd
  have hrd2 : (readG 64 true (lebS w) 0 0 0).2.1 = (lebS w).length := congrArg (fun p => p.2.1) hrd
  have hrd3 : (readG 64 true (lebS w) 0 0 0).2.2 = 0 := congrArg (fun p => p.2.2) hrd
  clear hrd
  refine fwalk_ok (o := (.eff 1 (AV.bool true) h (.lpx 5 (fun e1 => (.exit 0 (ovT [(0, (AV.int .u64 (Int.ofNat v))), (1, (AV.int .i64 w)), (5, (AV.int .i64 (Int.ofNat (1 + (lebH v).length)))), (6, (AV.int .i64 (Int.ofNat 1)))] e1.t) h)) (fun e1 => (.lpx 2 (fun e2 => (.exit 2 (ovT [(0, (AV.int .u64 (Int.ofNat v))), (1, (AV.int .i64 w)), (5, (AV.int .i64 (Int.ofNat (1 + (lebH v).length)))), (6, (AV.int .i64 (Int.ofNat ((lebS w).length))))] e2.t) h)) (fun e2 => (.effx 1 (fun e3 => e3.v) (fun e3 => (.effx 1 (fun e4 => e4.v) (fun e4 => (.lpx 3 (fun e5 => (.exit 4 (ovT [(5, (AV.int .i64 (Int.ofNat (1 + (lebH v).length)))), (6, (AV.int .i64 (Int.ofNat ((lebS w).length)))), (10, e3.v), (11, e4.v)] e5.t) e4.h)) (fun e5 => (.eff 1 (AV.tuple [(AV.int .i64 w), (AV.int .i64 (Int.ofNat ((lebS w).length))), (AV.int .i64 (Int.ofNat 0))]) e4.h (.tell 8 (AV.int .i64 (Int.ofNat ((lebU v).length))) (.fork 2 (.tell 1 (AV.int .i64 (Int.ofNat ((lebS w).length))) (.fork 3 (.tell 8 (AV.bool true) .fin) .fin)) .fin))))))))))))))) (p := (call 15 [] h = .ok (AV.bool true) h ∧ (∃ e1 : Ev, evC call N (.loop lp1C) (ovT [(0, (AV.int .u64 (Int.ofNat v))), (1, (AV.int .i64 w)), (4, (AV.bool false)), (5, (AV.int .i64 (Int.ofNat 1))), (6, (AV.int .i64 (Int.ofNat 1))), (7, (AV.int .u64 (Int.ofNat v))), (16, (AV.bool true)), (17, (AV.bool false)), (18, (AV.int .u64 (Int.ofNat v)))] .lf) h = (.exit 0 (ovT [(0, (AV.int .u64 (Int.ofNat v))), (1, (AV.int .i64 w)), (5, (AV.int .i64 (Int.ofNat (1 + (lebH v).length)))), (6, (AV.int .i64 (Int.ofNat 1)))] e1.t) h) ∧ True ∧ (∃ e2 : Ev, evC call N (.loop lp2C) (ovT [(0, (AV.int .u64 (Int.ofNat v))), (1, (AV.int .i64 w)), (5, (AV.int .i64 (Int.ofNat (1 + (lebH v).length)))), (6, (AV.int .i64 (Int.ofNat 1))), (8, (AV.int .i64 (Int.negSucc 63))), (9, (AV.int .i64 (Int.ofNat 63)))] e1.t) h = (.exit 2 (ovT [(0, (AV.int .u64 (Int.ofNat v))), (1, (AV.int .i64 w)), (5, (AV.int .i64 (Int.ofNat (1 + (lebH v).length)))), (6, (AV.int .i64 (Int.ofNat ((lebS w).length))))] e2.t) h) ∧ True ∧ (∃ e3 : Ev, call 16 [AV.nilSlice, (AV.int .u64 (Int.ofNat v))] h = .ok e3.v e3.h ∧ (∃ e4 : Ev, call 18 [AV.nilSlice, (AV.int .i64 w)] e3.h = .ok e4.v e4.h ∧ (∃ e5 : Ev, evC call N (.loop lp3C) (ovT [(0, (AV.int .u64 (Int.ofNat v))), (1, (AV.int .i64 w)), (5, (AV.int .i64 (Int.ofNat (1 + (lebH v).length)))), (6, (AV.int .i64 (Int.ofNat ((lebS w).length)))), (10, e3.v), (11, e4.v), (12, (AV.int .i64 (Int.ofNat 0))), (44, (AV.int .u64 (Int.ofNat v))), (45, e3.v), (46, (AV.int .i64 w)), (47, e4.v)] e2.t) e4.h = (.exit 4 (ovT [(5, (AV.int .i64 (Int.ofNat (1 + (lebH v).length)))), (6, (AV.int .i64 (Int.ofNat ((lebS w).length)))), (10, e3.v), (11, e4.v)] e5.t) e4.h) ∧ True ∧ (call 20 [e4.v] e4.h = .ok (AV.tuple [(AV.int .i64 w), (AV.int .i64 (Int.ofNat ((lebS w).length))), (AV.int .i64 (Int.ofNat 0))]) e4.h ∧ (evQ (.lenL (.const e3.v)) .lf H0 = .ok (AV.int .i64 (Int.ofNat ((lebU v).length))) ∧ ((eqI (Int.ofNat ((lebU v).length)) (Int.ofNat (1 + (lebH v).length)) = true → (evQ (.lenL (.const e4.v)) .lf H0 = .ok (AV.int .i64 (Int.ofNat ((lebS w).length))) ∧ ((eqI (Int.ofNat ((lebS w).length)) (Int.ofNat ((lebS w).length)) = true → (evQ (.move (.const (AV.bool (eqI (Int.ofNat ((lebS w).length)) (Int.ofNat ((lebS w).length)))))) .lf H0 = .ok (AV.bool true) ∧ (fun (v : AV) (_ : Hp) => v = .bool true) (AV.bool true) e4.h)) ∧ (eqI (Int.ofNat ((lebS w).length)) (Int.ofNat ((lebS w).length)) = false → (fun (v : AV) (_ : Hp) => v = .bool true) (AV.bool false) e4.h)))) ∧ (eqI (Int.ofNat ((lebU v).length)) (Int.ofNat (1 + (lebH v).length)) = false → (fun (v : AV) (_ : Hp) => v = .bool true) (AV.bool false) e4.h))))))))))) (by kernel_rfl) ?_
  refine ⟨hbegun _, ?_⟩
  obtain ⟨ne1, xe1, te1, he1, qe1, we1, xe1⟩ := lp1_x (N := N) (call := call) (v := v) (w := w) h (n := 1) (x := v) ⟨rfl, hv, by omega, by omega, rfl⟩ (by omega) (t := ovT [(0, (AV.int .u64 (Int.ofNat v))), (1, (AV.int .i64 w)), (4, (AV.bool false)), (5, (AV.int .i64 (Int.ofNat 1))), (6, (AV.int .i64 (Int.ofNat 1))), (7, (AV.int .u64 (Int.ofNat v))), (16, (AV.bool true)), (17, (AV.bool false)), (18, (AV.int .u64 (Int.ofNat v)))] .lf) (by kernel_rfl)
  obtain ⟨rfl, rfl⟩ := xe1
  have we1 : [tget (pathOf 0) te1, tget (pathOf 1) te1, tget (pathOf 5) te1, tget (pathOf 6) te1, tget (pathOf 7) te1] = _ := we1
  simp only [List.cons.injEq] at we1
  obtain ⟨ge1_0, ge1_1, ge1_5, ge1_6, ge1_7, -⟩ := we1
  obtain ⟨e1, rfl⟩ : ∃ e : Ev, te1 = e.t := ⟨⟨.nilPtr, te1, H0⟩, rfl⟩
  refine ⟨e1, (by rw [qe1]; exact congrArg (fun t => RS.exit 0 t _) (ovT_eq (l := [(0, (AV.int .u64 (Int.ofNat v))), (1, (AV.int .i64 w)), (5, (AV.int .i64 (Int.ofNat (1 + (lebH v).length)))), (6, (AV.int .i64 (Int.ofNat 1)))]) (by show [tget (pathOf 0) e1.t, tget (pathOf 1) e1.t, tget (pathOf 5) e1.t, tget (pathOf 6) e1.t] = _; rw [ge1_0, ge1_1, ge1_5, ge1_6]; rfl)).symm), trivial, ?_⟩
  obtain ⟨me2, loe2, upe2, te2, he2, qe2, we2, xe2⟩ := lp2_x (N := N) (call := call) (v := v) (w := w) (nn := 1 + (lebH v).length) h kin kmin k9 (m := 1) (lo := -64) (up := 63) ⟨by omega, by omega, fun _ => ⟨rfl, rfl⟩, rfl⟩ (by omega) (t := ovT [(0, (AV.int .u64 (Int.ofNat v))), (1, (AV.int .i64 w)), (5, (AV.int .i64 (Int.ofNat (1 + (lebH v).length)))), (6, (AV.int .i64 (Int.ofNat 1))), (8, (AV.int .i64 (Int.negSucc 63))), (9, (AV.int .i64 (Int.ofNat 63)))] e1.t) (by kernel_rfl)
  obtain ⟨rfl, rfl⟩ := xe2
  rw [← hk] at we2
  have we2 : [tget (pathOf 0) te2, tget (pathOf 1) te2, tget (pathOf 5) te2, tget (pathOf 6) te2, tget (pathOf 8) te2, tget (pathOf 9) te2] = _ := we2
  simp only [List.cons.injEq] at we2
  obtain ⟨ge2_0, ge2_1, ge2_5, ge2_6, ge2_8, ge2_9, -⟩ := we2
  obtain ⟨e2, rfl⟩ : ∃ e : Ev, te2 = e.t := ⟨⟨.nilPtr, te2, H0⟩, rfl⟩
  refine ⟨e2, (by rw [qe2]; exact congrArg (fun t => RS.exit 2 t _) (ovT_eq (l := [(0, (AV.int .u64 (Int.ofNat v))), (1, (AV.int .i64 w)), (5, (AV.int .i64 (Int.ofNat (1 + (lebH v).length)))), (6, (AV.int .i64 (Int.ofNat ((lebS w).length))))]) (by show [tget (pathOf 0) e2.t, tget (pathOf 1) e2.t, tget (pathOf 5) e2.t, tget (pathOf 6) e2.t] = _; rw [ge2_0, ge2_1, ge2_5, ge2_6]; rfl)).symm), trivial, ?_⟩
  obtain ⟨ve3, he3, qe3, oe3, pe3, ne3⟩ := put_nil (hPutU (B := h.next) (l := []) (Nat.le_refl _) Bytes.nil (by first | omega | decide) hv)
  obtain ⟨e3, rfl, rfl⟩ : ∃ e : Ev, ve3 = e.v ∧ he3 = e.h := ⟨⟨ve3, .lf, he3⟩, rfl, rfl⟩
  refine ⟨e3, qe3, ?_⟩
  obtain ⟨ve4, he4, qe4, oe4, pe4, ne4⟩ := put_nil (hPutS (B := e3.h.next) (l := []) (Nat.le_refl _) Bytes.nil (by first | omega | decide) (by omega))
  obtain ⟨e4, rfl, rfl⟩ : ∃ e : Ev, ve4 = e.v ∧ he4 = e.h := ⟨⟨ve4, .lf, he4⟩, rfl, rfl⟩
  refine ⟨e4, qe4, ?_⟩
  obtain ⟨ie5, te5, he5, qe5, we5, xe5⟩ := lp3_x (N := N) (call := call) (v := v) (nn := 1 + (lebH v).length) (mm := (lebS w).length) (C := e4.h.next) e4.h hv (Owned.bytes ((oe3.low (Nat.le_refl _)).old pe4 (Nat.le_refl _)) (lebU_all hv) (Nat.le_refl _)) (i := 0) ⟨Nat.zero_le _, rfl⟩ (by omega) (t := ovT [(0, (AV.int .u64 (Int.ofNat v))), (1, (AV.int .i64 w)), (5, (AV.int .i64 (Int.ofNat (1 + (lebH v).length)))), (6, (AV.int .i64 (Int.ofNat ((lebS w).length)))), (10, e3.v), (11, e4.v), (12, (AV.int .i64 (Int.ofNat 0))), (44, (AV.int .u64 (Int.ofNat v))), (45, e3.v), (46, (AV.int .i64 w)), (47, e4.v)] e2.t) (by kernel_rfl)
  obtain rfl := xe5
  have we5 : [tget (pathOf 5) te5, tget (pathOf 6) te5, tget (pathOf 10) te5, tget (pathOf 11) te5, tget (pathOf 12) te5] = _ := we5
  simp only [List.cons.injEq] at we5
  obtain ⟨ge5_5, ge5_6, ge5_10, ge5_11, ge5_12, -⟩ := we5
  obtain ⟨e5, rfl⟩ : ∃ e : Ev, te5 = e.t := ⟨⟨.nilPtr, te5, H0⟩, rfl⟩
  refine ⟨e5, (by rw [qe5]; exact congrArg (fun t => RS.exit 4 t _) (ovT_eq (l := [(5, (AV.int .i64 (Int.ofNat (1 + (lebH v).length)))), (6, (AV.int .i64 (Int.ofNat ((lebS w).length)))), (10, e3.v), (11, e4.v)]) (by show [tget (pathOf 5) e5.t, tget (pathOf 6) e5.t, tget (pathOf 10) e5.t, tget (pathOf 11) e5.t] = _; rw [ge5_5, ge5_6, ge5_10, ge5_11]; rfl)).symm), trivial, ?_⟩
  refine ⟨(hS64 (Owned.bytes (oe4.low (Nat.le_trans (Nat.le_refl _) pe3.next)) (lebS_all (by omega)) (Nat.le_refl _)) (by omega)).trans (by rw [hrd1, hrd2, hrd3]), ?_⟩
  refine ⟨q_lenO ((oe3.low (Nat.le_refl _)).old pe4 (Nat.le_refl _)), ?_⟩
  refine ⟨fun c6 => ?_, fun c6 => ?_⟩
  · have rc6 := c6
    replace c6 : (lebU v).length = 1 + (lebH v).length := eqI_t c6
    refine ⟨q_lenO (oe4.low (Nat.le_trans (Nat.le_refl _) pe3.next)), ?_⟩
    refine ⟨fun c7 => ?_, fun c7 => ?_⟩
    · have rc7 := c7
      replace c7 : (lebS w).length = (lebS w).length := eqI_t c7
      refine ⟨congrArg (fun z => OV.ok (AV.bool z)) (rc7), ?_⟩
      exact rfl
    · have rc7 := c7
      replace c7 : (lebS w).length ≠ (lebS w).length := eqI_f c7
      first | exact rfl | (exfalso; omega)
  · have rc6 := c6
    replace c6 : (lebU v).length ≠ 1 + (lebH v).length := eqI_f c6
    first | exact rfl | (exfalso; omega)
theorem walk (x0 : Nat) (x1 : Int) (W : World) (f0 : x0 < 18446744073709551616) (f1 : -9223372036854775808 ≤ x1 ∧ x1 < 9223372036854775808) :
    Calls Try.prog 4 #[.int .u64 (.ofNat x0), .int .i64 x1] W fun e W' => e = .returned (.bool true) ∧ Below W.heap.size W W' := by
  obtain ⟨μ, h, vs, hs, hm, hn, hvs, _⟩ := start_bytes (w := W) [] (by simp)
  obtain ⟨rv, rh, e, hr⟩ := law_walk (call := CC 10) (N := 100000) (h := h) f0 f1 (evF_sum (by decide)) (s_putU 7) (s_putS 7) (s_S64 7) (by decide)
  have hr : rv = .bool true := hr
  subst hr
  refine start_law compDrawn_ok (sumT_ok trues) (N := 100000) (d := 11) hs hm (args := [.int .u64 (.ofNat x0), .int .i64 x1]) ?_ (by rw [evF_at (sumT_none rfl)]; exact e)
  rw [VRs_cons]; refine ⟨_, _, rfl, (by rw [VR_int]), ?_⟩
  rw [VRs_cons]; exact ⟨_, _, rfl, (by rw [VR_int]), by rw [VRs_nil]⟩
theorem own : ownKnob Try.prog.godebug = none := by kernel_rfl
theorem laidOut : laidOutB Try.prog = true := by kernel_rfl
set_option maxRecDepth 100000 in
set_option maxHeartbeats 1000000 in
theorem lifted (os : Os) (started : os.Started) (H : Type) (enc : TypeId × Value → H) :
    ReturnsInHanded {} Try.checked os 4 .any (Rows.lebShortSpec.pre6 enc Try.prog Try.f4 Rows.lebShortRow.domain false) (Rows.lebShortSpec.post enc Try.prog Try.f4 false true false false) := by
  refine returnsInHanded_of_change_sized (C := Try.checked) own started (by kernel_rfl) Try.func4
    (ChangeSpec.witness6 (enc := enc) (C := Try.checked) false ⟨#[], #[.int .u64 0, .int .i64 0], []⟩ 8 (by kernel_rfl) (by kernel_rfl) (by kernel_rfl) (by kernel_rfl)) ?_
  intro W base args ds gs before hval0 hW hcnd hsz0 _
  have hval : ∀ (j : Nat) t v, Try.f4.params[j]? = some t → args[j]? = some v → Value.okWide Try.prog W .any base t v := hval0
  have hW' := hW
  obtain ⟨p, q, hA0, hV, rfl, hfz, hnd⟩ := hW
  have hA : DataW.TrodAll enc Try.prog W 0 (fun _ => true) true Try.f4.params.toList args.toList ds p := hA0
  rw [Try.params4] at hA hval
  obtain ⟨rfl, rfl⟩ := trodVars_none hV
  simp only [List.append_nil] at hW'
  obtain ⟨v0, vs0, d0, ds0, p0, q0, hargs, rfl, rfl, h0, r0⟩ := trodAll_cons hA
  obtain ⟨v1, vs1, d1, ds1, p1, q1, rfl, rfl, rfl, h1, r1⟩ := trodAll_cons r0
  obtain ⟨rfl, rfl, rfl⟩ := trodAll_nil r1
  obtain rfl : args = #[v0, v1] := by cases args; simp_all
  have hlt : ∀ x ∈ p0 ++ p1, x.block < W.heap.size := fun x hx => by simpa using hW'.lt x (by simpa using hx)
  obtain ⟨y0, rfl, rfl, rfl, w0⟩ := open_int Try.underlying23 (hval 0 23 v0 rfl rfl) h0
  obtain ⟨x0, rfl, f0⟩ := u64_wf w0
  obtain ⟨y1, rfl, rfl, rfl, w1⟩ := open_int Try.underlying2 (hval 1 2 v1 rfl rfl) h1
  refine (walk x0 y1 W f0 (i64_wf w1)).mono fun e W' ⟨he, bel⟩ => ?_
  subst he
  exact ⟨_, rfl, _, _, _, [], _, [], hW', trodAll_mk1 (shut_bool Try.underlying4 _), (trodAll_cons_mk (shut_int Try.underlying23 w0) (trodAll_cons_mk (shut_int Try.underlying2 w1) trodAll_mk0)), rfl, bel.frame _, fun h => by cases h⟩
theorem over : Rows.lebShortRow.holds Try.pinned (OpenSpec.ofChange Rows.lebShortSpec) :=
  OpenClaim.holds_of_wide 4 Try.f4 rfl rfl rfl rfl rfl rfl rfl ⟨rfl, rfl, rfl, rfl, rfl⟩ rfl rfl rfl rfl rfl (by kernel_rfl) Try.func4 (by kernel_rfl)
    (of_decide_eq_true (by kernel_rfl)) (by unfold Func.isWrapper; first | (rw [if_pos (by decide +kernel)]; kernel_rfl) | (rw [if_neg (by decide +kernel)]; exact ⟨rfl, rfl⟩))
    (fun os started H enc _ => lifted os started H enc)
theorem proved : Rows.LebShortSaid := over
end Go.Proofs.Ytejiebbbodealaa.lebShort
