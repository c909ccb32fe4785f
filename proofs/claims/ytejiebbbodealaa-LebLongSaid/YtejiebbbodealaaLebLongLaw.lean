/- Proved: for all numbers v, w and n, the call of cloakroomlaw1.LebLong returns true and leaves its arguments alone. Condition: none. -/
import Derived.Test.YtejiebbbodealaaLeb4
import Derived.Test.YtejiebbbodealaaLebLaws
import Derived.Test.YtejiebbbodealaaEngS31
import Derived.Test.YtejiebbbodealaaRows
import Derived.WalkKit
import Derived.ProofKit
import Derived.OpenShut
import Derived.ShutString
import Derived.ChangeOld
import Derived.Below
import Derived.SizedLaws
import Derived.Carry
import Derived.ChangeSlices
namespace Go.Proofs.Ytejiebbbodealaa.lebLong
open Go.ChangeShapes Go.WideShapes Go.ChangeAt Go.RowKit
open Go.ChangeMaps (open_string shut_string)
open Eng
set_option linter.unusedVariables false
set_option linter.unusedSimpArgs false

noncomputable def lgC : AC := (.seq (.seq (.region [⟨(some 12), .q (.move (.tmp 8)), none⟩, ⟨(some 13), .q (.move (.tmp 1)), none⟩, ⟨(some 14), .q (.bin .lss (.tmp 12) (.tmp 13)), none⟩]) (.cond (.tmp 14) .skip (.exit 0))) (.seq (.block 1 (.seq (.region [⟨(some 17), .q (.move (.tmp 7)), none⟩, ⟨(some 18), .q (.move (.tmp 7)), none⟩, ⟨(some 19), .q (.lenL (.tmp 18)), none⟩, ⟨(some 20), .q (.bin .sub (.tmp 19) (.const (AV.int .i64 (Int.ofNat 1)))), none⟩, ⟨(some 21), .q (.idxAddrSl 1 (.tmp 17) (.tmp 20)), none⟩, ⟨(some 22), .q (.loadS (.tmp 21)), none⟩, ⟨(some 23), .q (.bin .or (.tmp 22) (.const (AV.int .u8 (Int.ofNat 128)))), none⟩, ⟨(some 24), .q (.idxAddrSl 1 (.tmp 17) (.tmp 20)), none⟩, ⟨none, .e (.store 1 (.tmp 24) (.tmp 23)), none⟩]) (.region [⟨(some 25), .q (.move (.tmp 7)), none⟩, ⟨(some 26), .q (.move (.tmp 2)), none⟩, ⟨(some 27), .l (.buildSlice 1 1 [(AV.int .u8 (Int.ofNat 0))] [(0, 1, (.tmp 26))]), none⟩, ⟨(some 28), .e (.append 1 1 (.tmp 25) (.tmp 27)), none⟩, ⟨(some 7), .q (.move (.tmp 28)), none⟩]))) (.region [⟨(some 15), .q (.move (.tmp 8)), none⟩, ⟨(some 16), .q (.bin .add (.tmp 15) (.const (AV.int .i64 (Int.ofNat 1)))), none⟩, ⟨(some 8), .q (.move (.tmp 16)), none⟩])))
theorem lg_body {call : CallT} {N : Nat} {t : T} {h : Hp} {B k e : Nat} {l : List Nat} (h0 : Hp) (hk : k ≤ 7) (he : e < 256) (hl1 : 1 ≤ l.length) (hl2 : l.length ≤ 100) {vs : AV} {i : Nat} {pre : List Nat} (hi : (fun (z : AV × Nat × List Nat) (h' : Hp) => z.2.1 ≤ k ∧ z.2.2.length = l.length + z.2.1 ∧ longerL e (k - z.2.1) z.2.2 = longerL e k l ∧ Owned 1 B h' z.1 (l.length + z.2.1) (u8s z.2.2) ∧ (∀ x ∈ z.2.2, x < 256) ∧ Old B h0 h' ∧ B ≤ h'.next) (vs, i, pre) h)
    : ∃ s, evC call N lgC (ovT [(1, (AV.int .i64 (Int.ofNat k))), (2, (AV.int .u8 (Int.ofNat e))), (7, vs), (8, (AV.int .i64 (Int.ofNat i)))] t) h = s ∧ obsS [1, 2, 7, 8] (fun ls h' => ∃ y, ls = ((fun (z : AV × Nat × List Nat) => [(1, (AV.int .i64 (Int.ofNat k))), (2, (AV.int .u8 (Int.ofNat e))), (7, z.1), (8, (AV.int .i64 (Int.ofNat z.2.1)))]) y).map (fun p => some p.2) ∧ (fun (z : AV × Nat × List Nat) (h' : Hp) => z.2.1 ≤ k ∧ z.2.2.length = l.length + z.2.1 ∧ longerL e (k - z.2.1) z.2.2 = longerL e k l ∧ Owned 1 B h' z.1 (l.length + z.2.1) (u8s z.2.2) ∧ (∀ x ∈ z.2.2, x < 256) ∧ Old B h0 h' ∧ B ≤ h'.next) y h' ∧ (fun (z : AV × Nat × List Nat) => k - z.2.1) y < (fun (z : AV × Nat × List Nat) => k - z.2.1) (vs, i, pre)) (fun i ls h' => ∃ y, ls = ((fun (z : AV × Nat × List Nat) => [(1, (AV.int .i64 (Int.ofNat k))), (2, (AV.int .u8 (Int.ofNat e))), (7, z.1), (8, (AV.int .i64 (Int.ofNat z.2.1)))]) y).map (fun p => some p.2) ∧ (fun (i : Nat) (z : AV × Nat × List Nat) (h' : Hp) => (i = 0) ∧ (i = 0 → Owned 1 B h' z.1 (l.length + k) (u8s (longerL e k l)) ∧ Old B h0 h' ∧ B ≤ h'.next)) i y h') (fun ls h' => (fun (ls : List (Option AV)) (h' : Hp) => False) ls h') s := by
  try dsimp only at hi
  obtain ⟨i1, i2, i3, i4, i5, i6, i7⟩ := hi
  obtain ⟨ln, hln⟩ : ∃ ln, ln = l.length + i := ⟨_, rfl⟩
  rw [← hln] at i4
  refine walk_ok (o := (.fork 2 (.tell 2 (AV.int .i64 (Int.ofNat ln)) (.tell 0 (AV.int .i64 (Int.ofNat (ln - 1))) (.tell 0 (elemP vs (ln - 1) 1) (.tell 0 (AV.int .u8 (Int.ofNat (pre.getD (ln - 1) 0))) (.tell 0 (AV.int .u8 (Int.ofNat ((pre.getD (ln - 1) 0) ||| 128))) (.tell 0 (elemP vs (ln - 1) 1) (.effx 0 (fun e4 => (AV.tuple [])) (fun e4 => (.effx 2 (fun e5 => e5.v) (fun e5 => (.tell 2 (AV.int .i64 (Int.ofNat (i + 1))) .fin))))))))))) .fin)) (p := ((ltI (Int.ofNat i) (Int.ofNat k) = true → (evQ (.lenL (.const vs)) .lf H0 = .ok (AV.int .i64 (Int.ofNat ln)) ∧ (evQ (.bin .sub (.const (AV.int .i64 (Int.ofNat ln))) (.const (AV.int .i64 (Int.ofNat 1)))) .lf H0 = .ok (AV.int .i64 (Int.ofNat (ln - 1))) ∧ (evQ (.idxAddrSl 1 (.const vs) (.const (AV.int .i64 (Int.ofNat (ln - 1))))) .lf H0 = .ok (elemP vs (ln - 1) 1) ∧ (evQ (.loadS (.const (elemP vs (ln - 1) 1))) .lf h = .ok (AV.int .u8 (Int.ofNat (pre.getD (ln - 1) 0))) ∧ (evQ (.bin .or (.const (AV.int .u8 (Int.ofNat (pre.getD (ln - 1) 0)))) (.const (AV.int .u8 (Int.ofNat 128)))) .lf H0 = .ok (AV.int .u8 (Int.ofNat ((pre.getD (ln - 1) 0) ||| 128))) ∧ (evQ (.idxAddrSl 1 (.const vs) (.const (AV.int .i64 (Int.ofNat (ln - 1))))) .lf H0 = .ok (elemP vs (ln - 1) 1) ∧ (∃ e4 : Ev, evE (.store 1 (.const (elemP vs (ln - 1) 1)) (.const (AV.int .u8 (Int.ofNat ((pre.getD (ln - 1) 0) ||| 128))))) call .lf h = .ok (AV.tuple []) e4.h ∧ (∃ e5 : Ev, evE (.append 1 1 (.const vs) (.const (AV.slice (Hp.next e4.h) 0 1 1 1 true))) call .lf (hpush e4.h (mkCells [(AV.int .u8 (Int.ofNat e))] 1)) = .ok e5.v e5.h ∧ (evQ (.bin .add (.const (AV.int .i64 (Int.ofNat i))) (.const (AV.int .i64 (Int.ofNat 1)))) .lf H0 = .ok (AV.int .i64 (Int.ofNat (i + 1))) ∧ ((fun ls h' => ∃ y, ls = ((fun (z : AV × Nat × List Nat) => [(1, (AV.int .i64 (Int.ofNat k))), (2, (AV.int .u8 (Int.ofNat e))), (7, z.1), (8, (AV.int .i64 (Int.ofNat z.2.1)))]) y).map (fun p => some p.2) ∧ (fun (z : AV × Nat × List Nat) (h' : Hp) => z.2.1 ≤ k ∧ z.2.2.length = l.length + z.2.1 ∧ longerL e (k - z.2.1) z.2.2 = longerL e k l ∧ Owned 1 B h' z.1 (l.length + z.2.1) (u8s z.2.2) ∧ (∀ x ∈ z.2.2, x < 256) ∧ Old B h0 h' ∧ B ≤ h'.next) y h' ∧ (fun (z : AV × Nat × List Nat) => k - z.2.1) y < (fun (z : AV × Nat × List Nat) => k - z.2.1) (vs, i, pre)) : List (Option AV) → Hp → Prop) [some (AV.int .i64 (Int.ofNat k)), some (AV.int .u8 (Int.ofNat e)), some e5.v, some (AV.int .i64 (Int.ofNat (i + 1)))] e5.h)))))))))) ∧ (ltI (Int.ofNat i) (Int.ofNat k) = false → ((fun i ls h' => ∃ y, ls = ((fun (z : AV × Nat × List Nat) => [(1, (AV.int .i64 (Int.ofNat k))), (2, (AV.int .u8 (Int.ofNat e))), (7, z.1), (8, (AV.int .i64 (Int.ofNat z.2.1)))]) y).map (fun p => some p.2) ∧ (fun (i : Nat) (z : AV × Nat × List Nat) (h' : Hp) => (i = 0) ∧ (i = 0 → Owned 1 B h' z.1 (l.length + k) (u8s (longerL e k l)) ∧ Old B h0 h' ∧ B ≤ h'.next)) i y h') : Nat → List (Option AV) → Hp → Prop) 0 [some (AV.int .i64 (Int.ofNat k)), some (AV.int .u8 (Int.ofNat e)), some vs, some (AV.int .i64 (Int.ofNat i))] h))) (by kernel_rfl) ?_
  refine ⟨fun c1 => ?_, fun c1 => ?_⟩
  · have rc1 := c1
    replace c1 : i < k := ltI_t c1
    refine ⟨q_lenO i4, ?_⟩
    refine ⟨q_sub (by omega) (by omega), ?_⟩
    refine ⟨q_idxB (Owned.bytes i4 i5 (Nat.le_refl _)) (by omega), ?_⟩
    refine ⟨q_byte (Owned.bytes i4 i5 (Nat.le_refl _)) (by omega), ?_⟩
    have x2 : pre.getD (ln - 1) 0 < 256 := getD_lt (Owned.bytes i4 i5 (Nat.le_refl _)).lt (ln - 1)
    refine ⟨u_or rfl x2 (by decide), ?_⟩
    have g3 : (pre.getD (ln - 1) 0) ||| 128 < 256 := Nat.or_lt_two_pow (n := 8) x2 (by decide)
    refine ⟨q_idxB (Owned.bytes i4 i5 (Nat.le_refl _)) (by omega), ?_⟩
    obtain ⟨e4, qe4, oe4, pe4, ne4⟩ := store_ev (n := ln) (L := u8s pre) (k := ln - 1) (x := (AV.int .u8 (Int.ofNat ((pre.getD (ln - 1) 0) ||| 128)))) call i7 i4 (by omega) rfl
    rw [u8s_set] at oe4
    refine ⟨e4, qe4, ?_⟩
    obtain ⟨e5, qe5, oe5, pe5, ne5⟩ := append_ev (sz := 1) (bytes := 1) (n := ln) (L := u8s (pre.set (ln - 1) ((pre.getD (ln - 1) 0) ||| 128))) (m := 1) (xs := [(AV.int .u8 (Int.ofNat e))]) call (Nat.le_succ_of_le ne4) (oe4.push _) (fun z k => src_owned (own_lit (sz := 1) (n := 1) ne4 rfl)) ((own_lit (sz := 1) (n := 1) ne4 rfl).len) (by omega) (by omega)
    refine ⟨e5, qe5, ?_⟩
    refine ⟨q_add (by omega), ?_⟩
    have hst : (pre.set (ln - 1) ((pre.getD (ln - 1) 0) ||| 128)) ++ [e] = stepL pre e := by unfold stepL; rw [i2, hln]
    refine ⟨(e5.v, i + 1, stepL pre e), rfl, ?_, by dsimp only; omega⟩
    dsimp only
    refine ⟨by omega, by rw [stepL_len, i2]; omega, ?_, ?_, stepL_lt i5 he, i6.trans ((((Old.refl B h).trans pe4).trans (Old.push ne4 _)).trans pe5), ne5⟩
    · have e1 : k - i = (k - (i + 1)) + 1 := by omega
      rw [e1] at i3
      exact i3
    · have ho := (app_text (l := pre.set (ln - 1) ((pre.getD (ln - 1) 0) ||| 128)) (m := [e]) oe5)
      rw [hst, hln] at ho
      simpa [Nat.add_assoc] using ho
  · have rc1 := c1
    replace c1 : k ≤ i := ltI_f c1
    obtain rfl : i = k := by omega
    rw [hln] at i4
    rw [Nat.sub_self] at i3
    have i3 : pre = longerL e i l := i3
    exact ⟨(vs, i, pre), rfl, rfl, fun _ => by dsimp only; exact ⟨i3 ▸ i4, i6, i7⟩⟩
theorem lg {call : CallT} {N : Nat} {B k e : Nat} {l : List Nat} (h0 : Hp) (hk : k ≤ 7) (he : e < 256) (hl1 : 1 ≤ l.length) (hl2 : l.length ≤ 100) {vs : AV} {i : Nat} {pre : List Nat} {h : Hp} (hi : (fun (z : AV × Nat × List Nat) (h' : Hp) => z.2.1 ≤ k ∧ z.2.2.length = l.length + z.2.1 ∧ longerL e (k - z.2.1) z.2.2 = longerL e k l ∧ Owned 1 B h' z.1 (l.length + z.2.1) (u8s z.2.2) ∧ (∀ x ∈ z.2.2, x < 256) ∧ Old B h0 h' ∧ B ≤ h'.next) (vs, i, pre) h) (hN : k - i < N) {t : T} (ht : Has ((fun (z : AV × Nat × List Nat) => [(1, (AV.int .i64 (Int.ofNat k))), (2, (AV.int .u8 (Int.ofNat e))), (7, z.1), (8, (AV.int .i64 (Int.ofNat z.2.1)))]) (vs, i, pre)) t) :
    (∃ i y t' h', evC call N (.loop lgC) t h = .exit i t' h' ∧ Has ((fun (z : AV × Nat × List Nat) => [(1, (AV.int .i64 (Int.ofNat k))), (2, (AV.int .u8 (Int.ofNat e))), (7, z.1), (8, (AV.int .i64 (Int.ofNat z.2.1)))]) y) t' ∧ (fun (i : Nat) (z : AV × Nat × List Nat) (h' : Hp) => (i = 0) ∧ (i = 0 → Owned 1 B h' z.1 (l.length + k) (u8s (longerL e k l)) ∧ Old B h0 h' ∧ B ≤ h'.next)) i y h') ∨ (∃ t' h', evC call N (.loop lgC) t h = .ret t' h' ∧ (fun (ls : List (Option AV)) (h' : Hp) => False) (slots [1, 2, 7, 8] t') h') :=
  loop_st (fun (z : AV × Nat × List Nat) => [(1, (AV.int .i64 (Int.ofNat k))), (2, (AV.int .u8 (Int.ofNat e))), (7, z.1), (8, (AV.int .i64 (Int.ofNat z.2.1)))]) [1, 2, 7, 8] (fun _ => rfl) (fun (z : AV × Nat × List Nat) (h' : Hp) => z.2.1 ≤ k ∧ z.2.2.length = l.length + z.2.1 ∧ longerL e (k - z.2.1) z.2.2 = longerL e k l ∧ Owned 1 B h' z.1 (l.length + z.2.1) (u8s z.2.2) ∧ (∀ x ∈ z.2.2, x < 256) ∧ Old B h0 h' ∧ B ≤ h'.next) (fun (z : AV × Nat × List Nat) => k - z.2.1) (fun (i : Nat) (z : AV × Nat × List Nat) (h' : Hp) => (i = 0) ∧ (i = 0 → Owned 1 B h' z.1 (l.length + k) (u8s (longerL e k l)) ∧ Old B h0 h' ∧ B ≤ h'.next)) (fun (ls : List (Option AV)) (h' : Hp) => False) (fun ⟨vs, i, pre⟩ t h hi => lg_body h0 hk he hl1 hl2 hi) (vs, i, pre) h hi hN t ht
theorem lg_x {call : CallT} {N : Nat} {B k e : Nat} {l : List Nat} (h0 : Hp) (hk : k ≤ 7) (he : e < 256) (hl1 : 1 ≤ l.length) (hl2 : l.length ≤ 100) {vs : AV} {i : Nat} {pre : List Nat} {h : Hp} (hi : i ≤ k ∧ pre.length = l.length + i ∧ longerL e (k - i) pre = longerL e k l ∧ Owned 1 B h vs (l.length + i) (u8s pre) ∧ (∀ x ∈ pre, x < 256) ∧ Old B h0 h ∧ B ≤ h.next) (hN : k - i < N) {t : T} (ht : slots [1, 2, 7, 8] t = [some (AV.int .i64 (Int.ofNat k)), some (AV.int .u8 (Int.ofNat e)), some vs, some (AV.int .i64 (Int.ofNat i))]) :
    ∃ (vs1 : AV) (i1 : Nat) (pre1 : List Nat) (t' : T) (h' : Hp), evC call N (.loop lgC) t h = .exit 0 t' h' ∧ slots [1, 2, 7, 8] t' = [some (AV.int .i64 (Int.ofNat k)), some (AV.int .u8 (Int.ofNat e)), some vs1, some (AV.int .i64 (Int.ofNat i1))] ∧ (Owned 1 B h' vs1 (l.length + k) (u8s (longerL e k l)) ∧ Old B h0 h' ∧ B ≤ h'.next) := by
  rcases lg h0 hk he hl1 hl2 hi hN ht with ⟨i, y, t', h', q, w, e⟩ | ⟨t', h', q, e⟩
  · obtain ⟨e1, e2⟩ := e
    subst e1
    exact ⟨y.1, y.2.1, y.2.2, t', h', q, w, e2 rfl⟩
  · exact e.elim
theorem longer_walk {call : CallT} {N : Nat} {h : Hp} {B k e : Nat} {vb : AV} {l : List Nat} (hB : B ≤ h.next) (hb : Bytes B h vb l) (hl1 : 1 ≤ l.length) (hl2 : l.length ≤ 100) (hk : k ≤ 7) (he : e < 256) (hN : 10 < N)
    : ∃ rv rh, evF1 (progS Try.prog (compDrawn Try.prog)) N call 21 [vb, (AV.int .i64 (Int.ofNat k)), (AV.int .u8 (Int.ofNat e))] h = .ok rv rh ∧ (fun (v : AV) (h' : Hp) => Owned 1 B h' v (l.length + k) (u8s (longerL e k l)) ∧ Old B h h' ∧ B ≤ h'.next) rv rh := by
  refine fwalk_ok (o := (.effx 2 (fun e1 => e1.v) (fun e1 => (.lpx 2 (fun e2 => (.exit 0 (ovT [(1, (AV.int .i64 (Int.ofNat k))), (2, (AV.int .u8 (Int.ofNat e))), (7, e2.v)] e2.t) e2.h)) (fun e2 => .fin))))) (p := (∃ e1 : Ev, evE (.append 1 1 (.const (AV.slice (Hp.next h) 0 0 0 1 true)) (.const vb)) call .lf (hpush h (mkCells [] 0)) = .ok e1.v e1.h ∧ (∃ e2 : Ev, evC call N (.loop lgC) (ovT [(0, vb), (1, (AV.int .i64 (Int.ofNat k))), (2, (AV.int .u8 (Int.ofNat e))), (6, AV.nilSlice), (7, e1.v), (8, (AV.int .i64 (Int.ofNat 0))), (9, (AV.slice (Hp.next h) 0 0 0 1 true)), (10, vb), (11, e1.v)] .lf) e1.h = (.exit 0 (ovT [(1, (AV.int .i64 (Int.ofNat k))), (2, (AV.int .u8 (Int.ofNat e))), (7, e2.v)] e2.t) e2.h) ∧ True ∧ (fun (v : AV) (h' : Hp) => Owned 1 B h' v (l.length + k) (u8s (longerL e k l)) ∧ Old B h h' ∧ B ≤ h'.next) e2.v e2.h))) (by kernel_rfl) ?_
  obtain ⟨e1, qe1, oe1, pe1, ne1⟩ := append_ev (sz := 1) (bytes := 1) (n := 0) (L := []) (m := l.length) (xs := u8s l) call (Nat.le_succ_of_le hB) (own_lit (sz := 1) (n := 0) hB rfl) (fun z k => src_bytes (hb.old (Old.push hB _)) z k) (u8s_len1 _) (by omega) (by omega)
  refine ⟨e1, qe1, ?_⟩
  obtain ⟨ve2, ie2, pe2, te2, he2, qe2, we2, xe2⟩ := lg_x (N := N) (call := call) (B := B) (l := l) e1.h hk he hl1 hl2 (vs := e1.v) (i := 0) (pre := l) ⟨Nat.zero_le _, rfl, rfl, (by simpa using (app_text (l := []) (m := l) oe1)), hb.lt, Old.refl _ _, ne1⟩ (by omega) (t := ovT [(0, vb), (1, (AV.int .i64 (Int.ofNat k))), (2, (AV.int .u8 (Int.ofNat e))), (6, AV.nilSlice), (7, e1.v), (8, (AV.int .i64 (Int.ofNat 0))), (9, (AV.slice (Hp.next h) 0 0 0 1 true)), (10, vb), (11, e1.v)] .lf) (by kernel_rfl)
  obtain ⟨oe2, p2e2, ne2⟩ := xe2
  have we2 : [tget (pathOf 1) te2, tget (pathOf 2) te2, tget (pathOf 7) te2, tget (pathOf 8) te2] = _ := we2
  simp only [List.cons.injEq] at we2
  obtain ⟨ge2_1, ge2_2, ge2_7, ge2_8, -⟩ := we2
  obtain ⟨e2, rfl, rfl, rfl⟩ : ∃ e : Ev, te2 = e.t ∧ he2 = e.h ∧ ve2 = e.v := ⟨⟨ve2, te2, he2⟩, rfl, rfl, rfl⟩
  refine ⟨e2, (by rw [qe2]; exact congrArg (fun t => RS.exit 0 t _) (ovT_eq (l := [(1, (AV.int .i64 (Int.ofNat k))), (2, (AV.int .u8 (Int.ofNat e))), (7, e2.v)]) (by show [tget (pathOf 1) e2.t, tget (pathOf 2) e2.t, tget (pathOf 7) e2.t] = _; rw [ge2_1, ge2_2, ge2_7]; rfl)).symm), trivial, ?_⟩
  exact ⟨oe2, (((Old.refl B h).trans (Old.push hB _)).trans pe1).trans p2e2, ne2⟩
theorem s_longer (d : Nat) : LongerS (CC (d + 1)) 21 := fun {B h vb l k e} hB hb h1 h2 hk he => by
  rw [CC, evF_at (sumT_none rfl)]
  exact longer_walk (call := CC d) (N := 100000) hB hb h1 h2 hk he (by decide)
theorem law_walk {call : CallT} {N : Nat} {h : Hp} {v n : Nat} {w : Int} (hv : v < 4294967296) (hw : -2147483648 ≤ w ∧ w < 2147483648) (hn : n < 256) (hbegun : TrueS call 15) (hPutU : PutUS call 16) (hPutS : PutSS call 18) (hlonger : LongerS call 21) (hU32 : NumS call 22 32 false .u32 fun n => .ofNat (n % 4294967296)) (hS32 : NumS call 23 32 true .i32 (sInt .i32))
    : ∃ rv rh, evF1 (progS Try.prog (compDrawn Try.prog)) N call 5 [(AV.int .u32 (Int.ofNat v)), (AV.int .i32 w), (AV.int .u8 (Int.ofNat n))] h = .ok rv rh ∧ (fun (v : AV) (_ : Hp) => v = .bool true) rv rh := by
  have hl1 := lebU_len' (v := v) (by omega)
  have hl2 := lebS_len' (v := w) (by omega)
  obtain ⟨nu, du, ru, lu, mu⟩ := lebU_dig v
  obtain ⟨nw, dw, rw', mw⟩ := lebS_dig _ w (Nat.le_refl _)
  have lw : (lebS w).length = nw + 1 := by rw [dw, digS_len]
  obtain ⟨sgn, hsg, hsg2⟩ : ∃ sgn : Nat, (sgn : Int) = (if w < 0 then 127 else 0) ∧ sgn < 256 := by by_cases h : w < 0; exact ⟨127, by rw [if_pos h]; rfl, by decide⟩; exact ⟨0, by rw [if_neg h]; rfl, by decide⟩
  obtain ⟨x1, hx1⟩ : ∃ x1, x1 = (readG 32 false (longerL 0 (n % 8) (lebU v)) 0 0 0).1 % 4294967296 := ⟨_, rfl⟩
  obtain ⟨x2, hx2⟩ : ∃ x2, x2 = (readG 32 false (longerL 0 (n % 8) (lebU v)) 0 0 0).2.1 := ⟨_, rfl⟩
  obtain ⟨x3, hx3⟩ : ∃ x3, x3 = (readG 32 false (longerL 0 (n % 8) (lebU v)) 0 0 0).2.2 := ⟨_, rfl⟩
  obtain ⟨y1, hy1⟩ : ∃ y1, y1 = sInt .i32 (readG 32 true (longerL sgn (n % 8) (lebS w)) 0 0 0).1 := ⟨_, rfl⟩
  obtain ⟨y2, hy2⟩ : ∃ y2, y2 = (readG 32 true (longerL sgn (n % 8) (lebS w)) 0 0 0).2.1 := ⟨_, rfl⟩
  obtain ⟨y3, hy3⟩ : ∃ y3, y3 = (readG 32 true (longerL sgn (n % 8) (lebS w)) 0 0 0).2.2 := ⟨_, rfl⟩
  have hX : (nu + n % 8 < 5 ∧ x1 = v ∧ x2 = nu + n % 8 + 1 ∧ x3 = 0) ∨ (5 ≤ nu + n % 8 ∧ x3 = 2) := by
    have hr := readG_digU0 (size := 32) (by decide) (by decide) (nu + n % 8) v (Nat.lt_of_lt_of_le ru (Nat.pow_le_pow_right (by decide) (by omega))) []
    rw [List.append_nil, ← longerL_digU _ _ _ ru, ← du] at hr
    rw [hr] at hx1 hx2 hx3
    by_cases hc : nu + n % 8 < 5
    · rw [if_pos ⟨by omega, by simpa using hv⟩] at hx1 hx2 hx3; dsimp only at hx1 hx2 hx3; left; exact ⟨hc, by omega, hx2, hx3⟩
    · rw [if_neg (by omega)] at hx3; right; exact ⟨by omega, hx3⟩
  have hY : (nw + n % 8 < 5 ∧ y1 = w ∧ y2 = nw + n % 8 + 1 ∧ y3 = 0) ∨ (5 ≤ nw + n % 8 ∧ y3 = 2) := by
    have hpw : (128 : Int) ^ nw ≤ 128 ^ (nw + n % 8) := by have h := Nat.pow_le_pow_right (n := 128) (by decide) (show nw ≤ nw + n % 8 by omega); have h2 := Int.ofNat_le.2 h; simpa using h2
    have hr := readG_digS0 (size := 32) (by decide) (nw + n % 8) w (by omega) []
    rw [List.append_nil, ← longerL_digS _ _ _ rw' hsg, ← dw] at hr
    rw [hr] at hy1 hy2 hy3
    by_cases hc : nw + n % 8 < 5
    · rw [if_pos ⟨by omega, by simpa using hw⟩] at hy1 hy2 hy3; dsimp only at hy1 hy2 hy3; left; exact ⟨hc, by rw [hy1]; exact sInt_back32 hw, hy2, hy3⟩
    · rw [if_neg (by omega)] at hy3; right; exact ⟨by omega, hy3⟩
  have l1 := longerL_len 0 (n % 8) (lebU v)
  have l2 := longerL_len sgn (n % 8) (lebS w)
  refine fwalk_ok (o := (.eff 1 (AV.bool true) h (.tell 2 (AV.int .u64 (Int.ofNat v)) (.effx 0 (fun e2 => e2.v) (fun e2 => (.tell 1 (AV.int .i64 w) (.effx 0 (fun e3 => e3.v) (fun e3 => (.tell 3 (AV.int .i64 (Int.ofNat ((lebU v).length))) (.fork 1 .fin (.tell 1 (AV.int .i64 (Int.ofNat ((lebS w).length))) (.fork 1 .fin (.tell 1 (AV.int .u8 (Int.ofNat (n % 8))) (.tell 0 (AV.int .i64 (Int.ofNat (n % 8))) (.fork 3 (.effx 3 (fun e8 => e8.v) (fun e8 => (.effx 3 (fun e9 => e9.v) (fun e9 => (.eff 3 (AV.tuple [(AV.int .u32 (Int.ofNat x1)), (AV.int .i64 (Int.ofNat x2)), (AV.int .i64 (Int.ofNat x3))]) e9.h (.eff 8 (AV.tuple [(AV.int .i32 y1), (AV.int .i64 (Int.ofNat y2)), (AV.int .i64 (Int.ofNat y3))]) e9.h (.fork 8 (.tell 1 (AV.int .i64 (Int.ofNat ((lebU v).length + (n % 8)))) (.fork 0 (.tell 4 (AV.bool true) (.fork 3 .fin (.tell 2 (AV.int .i64 (Int.ofNat ((lebU v).length + (n % 8)))) (.fork 3 .fin (.fork 1 (.tell 1 (AV.int .i64 (Int.ofNat ((lebS w).length + (n % 8)))) (.fork 0 (.tell 4 (AV.bool false) (.fork 3 (.tell 2 (AV.int .i64 (Int.ofNat ((lebS w).length + (n % 8)))) (.fork 4 .fin .fin)) .fin)) .fin)) (.tell 1 (AV.int .i64 (Int.ofNat ((lebS w).length + (n % 8)))) (.fork 0 .fin (.tell 4 (AV.bool true) .fin)))))))) .fin)) (.tell 1 (AV.int .i64 (Int.ofNat ((lebU v).length + (n % 8)))) (.fork 0 .fin (.tell 4 (AV.bool false) (.fork 3 (.tell 1 (AV.int .i64 (Int.ofNat ((lebS w).length + (n % 8)))) (.fork 0 (.tell 4 (AV.bool false) (.fork 3 (.tell 2 (AV.int .i64 (Int.ofNat ((lebS w).length + (n % 8)))) (.fork 4 .fin .fin)) .fin)) .fin)) (.tell 1 (AV.int .i64 (Int.ofNat ((lebS w).length + (n % 8)))) (.fork 0 .fin (.tell 4 (AV.bool true) .fin)))))))))))))) (.effx 2 (fun e8 => e8.v) (fun e8 => (.effx 3 (fun e9 => e9.v) (fun e9 => (.eff 3 (AV.tuple [(AV.int .u32 (Int.ofNat x1)), (AV.int .i64 (Int.ofNat x2)), (AV.int .i64 (Int.ofNat x3))]) e9.h (.eff 8 (AV.tuple [(AV.int .i32 y1), (AV.int .i64 (Int.ofNat y2)), (AV.int .i64 (Int.ofNat y3))]) e9.h (.fork 8 (.tell 1 (AV.int .i64 (Int.ofNat ((lebU v).length + (n % 8)))) (.fork 0 (.tell 4 (AV.bool true) (.fork 3 .fin (.tell 2 (AV.int .i64 (Int.ofNat ((lebU v).length + (n % 8)))) (.fork 3 .fin (.fork 1 (.tell 1 (AV.int .i64 (Int.ofNat ((lebS w).length + (n % 8)))) (.fork 0 (.tell 4 (AV.bool false) (.fork 3 (.tell 2 (AV.int .i64 (Int.ofNat ((lebS w).length + (n % 8)))) (.fork 4 .fin .fin)) .fin)) .fin)) (.tell 1 (AV.int .i64 (Int.ofNat ((lebS w).length + (n % 8)))) (.fork 0 .fin (.tell 4 (AV.bool true) .fin)))))))) .fin)) (.tell 1 (AV.int .i64 (Int.ofNat ((lebU v).length + (n % 8)))) (.fork 0 .fin (.tell 4 (AV.bool false) (.fork 3 (.tell 1 (AV.int .i64 (Int.ofNat ((lebS w).length + (n % 8)))) (.fork 0 (.tell 4 (AV.bool false) (.fork 3 (.tell 2 (AV.int .i64 (Int.ofNat ((lebS w).length + (n % 8)))) (.fork 4 .fin .fin)) .fin)) .fin)) (.tell 1 (AV.int .i64 (Int.ofNat ((lebS w).length + (n % 8)))) (.fork 0 .fin (.tell 4 (AV.bool true) .fin))))))))))))))))))))))))))))) (p := (call 15 [] h = .ok (AV.bool true) h ∧ (evQ (.toInt .u64 (.const (AV.int .u32 (Int.ofNat v)))) .lf H0 = .ok (AV.int .u64 (Int.ofNat v)) ∧ (∃ e2 : Ev, call 16 [AV.nilSlice, (AV.int .u64 (Int.ofNat v))] h = .ok e2.v e2.h ∧ (evQ (.toInt .i64 (.const (AV.int .i32 w))) .lf H0 = .ok (AV.int .i64 w) ∧ (∃ e3 : Ev, call 18 [AV.nilSlice, (AV.int .i64 w)] e2.h = .ok e3.v e3.h ∧ (evQ (.lenL (.const e2.v)) .lf H0 = .ok (AV.int .i64 (Int.ofNat ((lebU v).length))) ∧ ((eqI (Int.ofNat ((lebU v).length)) (Int.ofNat 0) = true → (fun (v : AV) (_ : Hp) => v = .bool true) (AV.bool false) e3.h) ∧ (eqI (Int.ofNat ((lebU v).length)) (Int.ofNat 0) = false → (evQ (.lenL (.const e3.v)) .lf H0 = .ok (AV.int .i64 (Int.ofNat ((lebS w).length))) ∧ ((eqI (Int.ofNat ((lebS w).length)) (Int.ofNat 0) = true → (fun (v : AV) (_ : Hp) => v = .bool true) (AV.bool false) e3.h) ∧ (eqI (Int.ofNat ((lebS w).length)) (Int.ofNat 0) = false → (evQ (.bin .rem (.const (AV.int .u8 (Int.ofNat n))) (.const (AV.int .u8 (Int.ofNat 8)))) .lf H0 = .ok (AV.int .u8 (Int.ofNat (n % 8))) ∧ (evQ (.toInt .i64 (.const (AV.int .u8 (Int.ofNat (n % 8))))) .lf H0 = .ok (AV.int .i64 (Int.ofNat (n % 8))) ∧ ((ltI w (Int.ofNat 0) = true → (∃ e8 : Ev, call 21 [e2.v, (AV.int .i64 (Int.ofNat (n % 8))), (AV.int .u8 (Int.ofNat 0))] e3.h = .ok e8.v e8.h ∧ (∃ e9 : Ev, call 21 [e3.v, (AV.int .i64 (Int.ofNat (n % 8))), (AV.int .u8 (Int.ofNat 127))] e8.h = .ok e9.v e9.h ∧ (call 22 [e8.v] e9.h = .ok (AV.tuple [(AV.int .u32 (Int.ofNat x1)), (AV.int .i64 (Int.ofNat x2)), (AV.int .i64 (Int.ofNat x3))]) e9.h ∧ (call 23 [e9.v] e9.h = .ok (AV.tuple [(AV.int .i32 y1), (AV.int .i64 (Int.ofNat y2)), (AV.int .i64 (Int.ofNat y3))]) e9.h ∧ ((eqI (Int.ofNat x3) (Int.ofNat 0) = true → (evQ (.lenL (.const e8.v)) .lf H0 = .ok (AV.int .i64 (Int.ofNat ((lebU v).length + (n % 8)))) ∧ ((notB (ltI (Int.ofNat 5) (Int.ofNat ((lebU v).length + (n % 8)))) = true → (evQ (.move (.const (AV.bool (eqI (Int.ofNat x3) (Int.ofNat 0))))) .lf H0 = .ok (AV.bool true) ∧ ((notB (eqI (Int.ofNat x1) (Int.ofNat v)) = true → (fun (v : AV) (_ : Hp) => v = .bool true) (AV.bool false) e9.h) ∧ (notB (eqI (Int.ofNat x1) (Int.ofNat v)) = false → (evQ (.lenL (.const e8.v)) .lf H0 = .ok (AV.int .i64 (Int.ofNat ((lebU v).length + (n % 8)))) ∧ ((notB (eqI (Int.ofNat x2) (Int.ofNat ((lebU v).length + (n % 8)))) = true → (fun (v : AV) (_ : Hp) => v = .bool true) (AV.bool false) e9.h) ∧ (notB (eqI (Int.ofNat x2) (Int.ofNat ((lebU v).length + (n % 8)))) = false → ((eqI (Int.ofNat y3) (Int.ofNat 0) = true → (evQ (.lenL (.const e9.v)) .lf H0 = .ok (AV.int .i64 (Int.ofNat ((lebS w).length + (n % 8)))) ∧ ((notB (ltI (Int.ofNat 5) (Int.ofNat ((lebS w).length + (n % 8)))) = true → (evQ (.move (.const (AV.bool (notB (eqI (Int.ofNat y3) (Int.ofNat 0)))))) .lf H0 = .ok (AV.bool false) ∧ ((eqI y1 w = true → (evQ (.lenL (.const e9.v)) .lf H0 = .ok (AV.int .i64 (Int.ofNat ((lebS w).length + (n % 8)))) ∧ ((eqI (Int.ofNat y2) (Int.ofNat ((lebS w).length + (n % 8))) = true → (fun (v : AV) (_ : Hp) => v = .bool true) (AV.bool true) e9.h) ∧ (eqI (Int.ofNat y2) (Int.ofNat ((lebS w).length + (n % 8))) = false → (fun (v : AV) (_ : Hp) => v = .bool true) (AV.bool false) e9.h)))) ∧ (eqI y1 w = false → (fun (v : AV) (_ : Hp) => v = .bool true) (AV.bool false) e9.h)))) ∧ (notB (ltI (Int.ofNat 5) (Int.ofNat ((lebS w).length + (n % 8)))) = false → (fun (v : AV) (_ : Hp) => v = .bool true) (AV.bool false) e9.h)))) ∧ (eqI (Int.ofNat y3) (Int.ofNat 0) = false → (evQ (.lenL (.const e9.v)) .lf H0 = .ok (AV.int .i64 (Int.ofNat ((lebS w).length + (n % 8)))) ∧ ((notB (ltI (Int.ofNat 5) (Int.ofNat ((lebS w).length + (n % 8)))) = true → (fun (v : AV) (_ : Hp) => v = .bool true) (AV.bool false) e9.h) ∧ (notB (ltI (Int.ofNat 5) (Int.ofNat ((lebS w).length + (n % 8)))) = false → (evQ (.move (.const (AV.bool (notB (eqI (Int.ofNat y3) (Int.ofNat 0)))))) .lf H0 = .ok (AV.bool true) ∧ (fun (v : AV) (_ : Hp) => v = .bool true) (AV.bool true) e9.h))))))))))))) ∧ (notB (ltI (Int.ofNat 5) (Int.ofNat ((lebU v).length + (n % 8)))) = false → (fun (v : AV) (_ : Hp) => v = .bool true) (AV.bool false) e9.h)))) ∧ (eqI (Int.ofNat x3) (Int.ofNat 0) = false → (evQ (.lenL (.const e8.v)) .lf H0 = .ok (AV.int .i64 (Int.ofNat ((lebU v).length + (n % 8)))) ∧ ((notB (ltI (Int.ofNat 5) (Int.ofNat ((lebU v).length + (n % 8)))) = true → (fun (v : AV) (_ : Hp) => v = .bool true) (AV.bool false) e9.h) ∧ (notB (ltI (Int.ofNat 5) (Int.ofNat ((lebU v).length + (n % 8)))) = false → (evQ (.move (.const (AV.bool (eqI (Int.ofNat x3) (Int.ofNat 0))))) .lf H0 = .ok (AV.bool false) ∧ ((eqI (Int.ofNat y3) (Int.ofNat 0) = true → (evQ (.lenL (.const e9.v)) .lf H0 = .ok (AV.int .i64 (Int.ofNat ((lebS w).length + (n % 8)))) ∧ ((notB (ltI (Int.ofNat 5) (Int.ofNat ((lebS w).length + (n % 8)))) = true → (evQ (.move (.const (AV.bool (notB (eqI (Int.ofNat y3) (Int.ofNat 0)))))) .lf H0 = .ok (AV.bool false) ∧ ((eqI y1 w = true → (evQ (.lenL (.const e9.v)) .lf H0 = .ok (AV.int .i64 (Int.ofNat ((lebS w).length + (n % 8)))) ∧ ((eqI (Int.ofNat y2) (Int.ofNat ((lebS w).length + (n % 8))) = true → (fun (v : AV) (_ : Hp) => v = .bool true) (AV.bool true) e9.h) ∧ (eqI (Int.ofNat y2) (Int.ofNat ((lebS w).length + (n % 8))) = false → (fun (v : AV) (_ : Hp) => v = .bool true) (AV.bool false) e9.h)))) ∧ (eqI y1 w = false → (fun (v : AV) (_ : Hp) => v = .bool true) (AV.bool false) e9.h)))) ∧ (notB (ltI (Int.ofNat 5) (Int.ofNat ((lebS w).length + (n % 8)))) = false → (fun (v : AV) (_ : Hp) => v = .bool true) (AV.bool false) e9.h)))) ∧ (eqI (Int.ofNat y3) (Int.ofNat 0) = false → (evQ (.lenL (.const e9.v)) .lf H0 = .ok (AV.int .i64 (Int.ofNat ((lebS w).length + (n % 8)))) ∧ ((notB (ltI (Int.ofNat 5) (Int.ofNat ((lebS w).length + (n % 8)))) = true → (fun (v : AV) (_ : Hp) => v = .bool true) (AV.bool false) e9.h) ∧ (notB (ltI (Int.ofNat 5) (Int.ofNat ((lebS w).length + (n % 8)))) = false → (evQ (.move (.const (AV.bool (notB (eqI (Int.ofNat y3) (Int.ofNat 0)))))) .lf H0 = .ok (AV.bool true) ∧ (fun (v : AV) (_ : Hp) => v = .bool true) (AV.bool true) e9.h))))))))))))))))) ∧ (ltI w (Int.ofNat 0) = false → (∃ e8 : Ev, call 21 [e2.v, (AV.int .i64 (Int.ofNat (n % 8))), (AV.int .u8 (Int.ofNat 0))] e3.h = .ok e8.v e8.h ∧ (∃ e9 : Ev, call 21 [e3.v, (AV.int .i64 (Int.ofNat (n % 8))), (AV.int .u8 (Int.ofNat 0))] e8.h = .ok e9.v e9.h ∧ (call 22 [e8.v] e9.h = .ok (AV.tuple [(AV.int .u32 (Int.ofNat x1)), (AV.int .i64 (Int.ofNat x2)), (AV.int .i64 (Int.ofNat x3))]) e9.h ∧ (call 23 [e9.v] e9.h = .ok (AV.tuple [(AV.int .i32 y1), (AV.int .i64 (Int.ofNat y2)), (AV.int .i64 (Int.ofNat y3))]) e9.h ∧ ((eqI (Int.ofNat x3) (Int.ofNat 0) = true → (evQ (.lenL (.const e8.v)) .lf H0 = .ok (AV.int .i64 (Int.ofNat ((lebU v).length + (n % 8)))) ∧ ((notB (ltI (Int.ofNat 5) (Int.ofNat ((lebU v).length + (n % 8)))) = true → (evQ (.move (.const (AV.bool (eqI (Int.ofNat x3) (Int.ofNat 0))))) .lf H0 = .ok (AV.bool true) ∧ ((notB (eqI (Int.ofNat x1) (Int.ofNat v)) = true → (fun (v : AV) (_ : Hp) => v = .bool true) (AV.bool false) e9.h) ∧ (notB (eqI (Int.ofNat x1) (Int.ofNat v)) = false → (evQ (.lenL (.const e8.v)) .lf H0 = .ok (AV.int .i64 (Int.ofNat ((lebU v).length + (n % 8)))) ∧ ((notB (eqI (Int.ofNat x2) (Int.ofNat ((lebU v).length + (n % 8)))) = true → (fun (v : AV) (_ : Hp) => v = .bool true) (AV.bool false) e9.h) ∧ (notB (eqI (Int.ofNat x2) (Int.ofNat ((lebU v).length + (n % 8)))) = false → ((eqI (Int.ofNat y3) (Int.ofNat 0) = true → (evQ (.lenL (.const e9.v)) .lf H0 = .ok (AV.int .i64 (Int.ofNat ((lebS w).length + (n % 8)))) ∧ ((notB (ltI (Int.ofNat 5) (Int.ofNat ((lebS w).length + (n % 8)))) = true → (evQ (.move (.const (AV.bool (notB (eqI (Int.ofNat y3) (Int.ofNat 0)))))) .lf H0 = .ok (AV.bool false) ∧ ((eqI y1 w = true → (evQ (.lenL (.const e9.v)) .lf H0 = .ok (AV.int .i64 (Int.ofNat ((lebS w).length + (n % 8)))) ∧ ((eqI (Int.ofNat y2) (Int.ofNat ((lebS w).length + (n % 8))) = true → (fun (v : AV) (_ : Hp) => v = .bool true) (AV.bool true) e9.h) ∧ (eqI (Int.ofNat y2) (Int.ofNat ((lebS w).length + (n % 8))) = false → (fun (v : AV) (_ : Hp) => v = .bool true) (AV.bool false) e9.h)))) ∧ (eqI y1 w = false → (fun (v : AV) (_ : Hp) => v = .bool true) (AV.bool false) e9.h)))) ∧ (notB (ltI (Int.ofNat 5) (Int.ofNat ((lebS w).length + (n % 8)))) = false → (fun (v : AV) (_ : Hp) => v = .bool true) (AV.bool false) e9.h)))) ∧ (eqI (Int.ofNat y3) (Int.ofNat 0) = false → (evQ (.lenL (.const e9.v)) .lf H0 = .ok (AV.int .i64 (Int.ofNat ((lebS w).length + (n % 8)))) ∧ ((notB (ltI (Int.ofNat 5) (Int.ofNat ((lebS w).length + (n % 8)))) = true → (fun (v : AV) (_ : Hp) => v = .bool true) (AV.bool false) e9.h) ∧ (notB (ltI (Int.ofNat 5) (Int.ofNat ((lebS w).length + (n % 8)))) = false → (evQ (.move (.const (AV.bool (notB (eqI (Int.ofNat y3) (Int.ofNat 0)))))) .lf H0 = .ok (AV.bool true) ∧ (fun (v : AV) (_ : Hp) => v = .bool true) (AV.bool true) e9.h))))))))))))) ∧ (notB (ltI (Int.ofNat 5) (Int.ofNat ((lebU v).length + (n % 8)))) = false → (fun (v : AV) (_ : Hp) => v = .bool true) (AV.bool false) e9.h)))) ∧ (eqI (Int.ofNat x3) (Int.ofNat 0) = false → (evQ (.lenL (.const e8.v)) .lf H0 = .ok (AV.int .i64 (Int.ofNat ((lebU v).length + (n % 8)))) ∧ ((notB (ltI (Int.ofNat 5) (Int.ofNat ((lebU v).length + (n % 8)))) = true → (fun (v : AV) (_ : Hp) => v = .bool true) (AV.bool false) e9.h) ∧ (notB (ltI (Int.ofNat 5) (Int.ofNat ((lebU v).length + (n % 8)))) = false → (evQ (.move (.const (AV.bool (eqI (Int.ofNat x3) (Int.ofNat 0))))) .lf H0 = .ok (AV.bool false) ∧ ((eqI (Int.ofNat y3) (Int.ofNat 0) = true → (evQ (.lenL (.const e9.v)) .lf H0 = .ok (AV.int .i64 (Int.ofNat ((lebS w).length + (n % 8)))) ∧ ((notB (ltI (Int.ofNat 5) (Int.ofNat ((lebS w).length + (n % 8)))) = true → (evQ (.move (.const (AV.bool (notB (eqI (Int.ofNat y3) (Int.ofNat 0)))))) .lf H0 = .ok (AV.bool false) ∧ ((eqI y1 w = true → (evQ (.lenL (.const e9.v)) .lf H0 = .ok (AV.int .i64 (Int.ofNat ((lebS w).length + (n % 8)))) ∧ ((eqI (Int.ofNat y2) (Int.ofNat ((lebS w).length + (n % 8))) = true → (fun (v : AV) (_ : Hp) => v = .bool true) (AV.bool true) e9.h) ∧ (eqI (Int.ofNat y2) (Int.ofNat ((lebS w).length + (n % 8))) = false → (fun (v : AV) (_ : Hp) => v = .bool true) (AV.bool false) e9.h)))) ∧ (eqI y1 w = false → (fun (v : AV) (_ : Hp) => v = .bool true) (AV.bool false) e9.h)))) ∧ (notB (ltI (Int.ofNat 5) (Int.ofNat ((lebS w).length + (n % 8)))) = false → (fun (v : AV) (_ : Hp) => v = .bool true) (AV.bool false) e9.h)))) ∧ (eqI (Int.ofNat y3) (Int.ofNat 0) = false → (evQ (.lenL (.const e9.v)) .lf H0 = .ok (AV.int .i64 (Int.ofNat ((lebS w).length + (n % 8)))) ∧ ((notB (ltI (Int.ofNat 5) (Int.ofNat ((lebS w).length + (n % 8)))) = true → (fun (v : AV) (_ : Hp) => v = .bool true) (AV.bool false) e9.h) ∧ (notB (ltI (Int.ofNat 5) (Int.ofNat ((lebS w).length + (n % 8)))) = false → (evQ (.move (.const (AV.bool (notB (eqI (Int.ofNat y3) (Int.ofNat 0)))))) .lf H0 = .ok (AV.bool true) ∧ (fun (v : AV) (_ : Hp) => v = .bool true) (AV.bool true) e9.h)))))))))))))))))))))))))))))))) (by kernel_rfl) ?_
  refine ⟨hbegun _, ?_⟩
  refine ⟨u_conv' rfl (Nat.lt_of_lt_of_le hv (by decide)), ?_⟩
  have g1 : v < 18446744073709551616 := Nat.lt_of_lt_of_le hv (by decide)
  obtain ⟨ve2, he2, qe2, oe2, pe2, ne2⟩ := put_nil (hPutU (B := h.next) (l := []) (v := v) (Nat.le_refl _) Bytes.nil (by first | omega | decide) g1)
  obtain ⟨e2, rfl, rfl⟩ : ∃ e : Ev, ve2 = e.v ∧ he2 = e.h := ⟨⟨ve2, .lf, he2⟩, rfl, rfl⟩
  refine ⟨e2, qe2, ?_⟩
  refine ⟨s_conv64 (by omega), ?_⟩
  obtain ⟨ve3, he3, qe3, oe3, pe3, ne3⟩ := put_nil (hPutS (B := e2.h.next) (l := []) (v := w) (Nat.le_refl _) Bytes.nil (by first | omega | decide) (by omega))
  obtain ⟨e3, rfl, rfl⟩ : ∃ e : Ev, ve3 = e.v ∧ he3 = e.h := ⟨⟨ve3, .lf, he3⟩, rfl, rfl⟩
  refine ⟨e3, qe3, ?_⟩
  refine ⟨q_lenO ((oe2.low (Nat.le_refl _)).old pe3 (Nat.le_refl _)), ?_⟩
  refine ⟨fun c4 => ?_, fun c4 => ?_⟩
  · have rc4 := c4
    replace c4 : (lebU v).length = 0 := eqI_t c4
    first | exact rfl | (exfalso; omega)
  · have rc4 := c4
    replace c4 : (lebU v).length ≠ 0 := eqI_f c4
    refine ⟨q_lenO (oe3.low (Nat.le_trans (Nat.le_refl _) pe2.next)), ?_⟩
    refine ⟨fun c5 => ?_, fun c5 => ?_⟩
    · have rc5 := c5
      replace c5 : (lebS w).length = 0 := eqI_t c5
      first | exact rfl | (exfalso; omega)
    · have rc5 := c5
      replace c5 : (lebS w).length ≠ 0 := eqI_f c5
      refine ⟨q_rem (by decide), ?_⟩
      have g6 : n % 8 < 256 := Nat.lt_of_le_of_lt (Nat.mod_le _ _) hn
      refine ⟨i_conv (Nat.lt_of_lt_of_le g6 (by decide)), ?_⟩
      refine ⟨fun c7 => ?_, fun c7 => ?_⟩
      · have rc7 := c7
        replace c7 : w < 0 := ltI_T c7
        obtain ⟨ve8, he8, qe8, oe8, pe8, ne8⟩ := hlonger (B := e3.h.next) (l := lebU v) (k := n % 8) (e := 0) (Nat.le_refl _) (Owned.bytes ((oe2.low (Nat.le_refl _)).old pe3 (Nat.le_refl _)) (lebU_all g1) (Nat.le_refl _)) (by omega) (by omega) (by omega) (by decide)
        obtain ⟨e8, rfl, rfl⟩ : ∃ e : Ev, ve8 = e.v ∧ he8 = e.h := ⟨⟨ve8, .lf, he8⟩, rfl, rfl⟩
        refine ⟨e8, qe8, ?_⟩
        obtain ⟨ve9, he9, qe9, oe9, pe9, ne9⟩ := hlonger (B := e8.h.next) (l := lebS w) (k := n % 8) (e := 127) (Nat.le_refl _) (Owned.bytes ((oe3.low (Nat.le_trans (Nat.le_refl _) pe2.next)).old pe8 (Nat.le_refl _)) (lebS_all (by omega)) (Nat.le_refl _)) (by omega) (by omega) (by omega) (by decide)
        obtain ⟨e9, rfl, rfl⟩ : ∃ e : Ev, ve9 = e.v ∧ he9 = e.h := ⟨⟨ve9, .lf, he9⟩, rfl, rfl⟩
        refine ⟨e9, qe9, ?_⟩
        refine ⟨(hU32 (Owned.bytes ((oe8.low (Nat.le_trans (Nat.le_trans (Nat.le_refl _) pe2.next) pe3.next)).old pe9 (Nat.le_refl _)) (longerL_lt (by decide) _ _ (Owned.bytes ((oe2.low (Nat.le_refl _)).old pe3 (Nat.le_refl _)) (lebU_all g1) (Nat.le_refl _)).lt) (Nat.le_refl _)) (by rw [longerL_len]; omega)).trans (by rw [hx1, hx2, hx3]), ?_⟩
        refine ⟨(hS32 (Owned.bytes (oe9.low (Nat.le_trans (Nat.le_trans (Nat.le_trans (Nat.le_refl _) pe2.next) pe3.next) pe8.next)) (longerL_lt (by decide) _ _ (Owned.bytes ((oe3.low (Nat.le_trans (Nat.le_refl _) pe2.next)).old pe8 (Nat.le_refl _)) (lebS_all (by omega)) (Nat.le_refl _)).lt) (Nat.le_refl _)) (by rw [longerL_len]; omega)).trans (by rw [hy1, hy2, hy3, show sgn = 127 by have h := hsg; split at h <;> omega]), ?_⟩
        refine ⟨fun c10 => ?_, fun c10 => ?_⟩
        · have rc10 := c10
          replace c10 : x3 = 0 := eqI_t c10
          refine ⟨q_lenO ((oe8.low (Nat.le_trans (Nat.le_trans (Nat.le_refl _) pe2.next) pe3.next)).old pe9 (Nat.le_refl _)), ?_⟩
          refine ⟨fun c11 => ?_, fun c11 => ?_⟩
          · have rc11 := c11
            replace c11 : (lebU v).length + (n % 8) ≤ 5 := ltI_f (notB_t c11)
            refine ⟨congrArg (fun z => OV.ok (AV.bool z)) (rc10), ?_⟩
            refine ⟨fun c12 => ?_, fun c12 => ?_⟩
            · have rc12 := c12
              replace c12 : x1 ≠ v := eqI_f (notB_t c12)
              first | exact rfl | (exfalso; omega)
            · have rc12 := c12
              replace c12 : x1 = v := eqI_t (notB_f c12)
              refine ⟨q_lenO ((oe8.low (Nat.le_trans (Nat.le_trans (Nat.le_refl _) pe2.next) pe3.next)).old pe9 (Nat.le_refl _)), ?_⟩
              refine ⟨fun c13 => ?_, fun c13 => ?_⟩
              · have rc13 := c13
                replace c13 : x2 ≠ (lebU v).length + (n % 8) := eqI_f (notB_t c13)
                first | exact rfl | (exfalso; omega)
              · have rc13 := c13
                replace c13 : x2 = (lebU v).length + (n % 8) := eqI_t (notB_f c13)
                refine ⟨fun c14 => ?_, fun c14 => ?_⟩
                · have rc14 := c14
                  replace c14 : y3 = 0 := eqI_t c14
                  refine ⟨q_lenO (oe9.low (Nat.le_trans (Nat.le_trans (Nat.le_trans (Nat.le_refl _) pe2.next) pe3.next) pe8.next)), ?_⟩
                  refine ⟨fun c15 => ?_, fun c15 => ?_⟩
                  · have rc15 := c15
                    replace c15 : (lebS w).length + (n % 8) ≤ 5 := ltI_f (notB_t c15)
                    refine ⟨congrArg (fun z => OV.ok (AV.bool (notB z))) (rc14), ?_⟩
                    refine ⟨fun c16 => ?_, fun c16 => ?_⟩
                    · have rc16 := c16
                      replace c16 : y1 = w := eqI_T c16
                      refine ⟨q_lenO (oe9.low (Nat.le_trans (Nat.le_trans (Nat.le_trans (Nat.le_refl _) pe2.next) pe3.next) pe8.next)), ?_⟩
                      refine ⟨fun c17 => ?_, fun c17 => ?_⟩
                      · have rc17 := c17
                        replace c17 : y2 = (lebS w).length + (n % 8) := eqI_t c17
                        first | exact rfl | (exfalso; omega)
                      · have rc17 := c17
                        replace c17 : y2 ≠ (lebS w).length + (n % 8) := eqI_f c17
                        first | exact rfl | (exfalso; omega)
                    · have rc16 := c16
                      replace c16 : y1 ≠ w := eqI_F c16
                      first | exact rfl | (exfalso; omega)
                  · have rc15 := c15
                    replace c15 : 5 < (lebS w).length + (n % 8) := ltI_t (notB_f c15)
                    first | exact rfl | (exfalso; omega)
                · have rc14 := c14
                  replace c14 : y3 ≠ 0 := eqI_f c14
                  refine ⟨q_lenO (oe9.low (Nat.le_trans (Nat.le_trans (Nat.le_trans (Nat.le_refl _) pe2.next) pe3.next) pe8.next)), ?_⟩
                  refine ⟨fun c15 => ?_, fun c15 => ?_⟩
                  · have rc15 := c15
                    replace c15 : (lebS w).length + (n % 8) ≤ 5 := ltI_f (notB_t c15)
                    first | exact rfl | (exfalso; omega)
                  · have rc15 := c15
                    replace c15 : 5 < (lebS w).length + (n % 8) := ltI_t (notB_f c15)
                    refine ⟨congrArg (fun z => OV.ok (AV.bool (notB z))) (rc14), ?_⟩
                    first | exact rfl | (exfalso; omega)
          · have rc11 := c11
            replace c11 : 5 < (lebU v).length + (n % 8) := ltI_t (notB_f c11)
            first | exact rfl | (exfalso; omega)
        · have rc10 := c10
          replace c10 : x3 ≠ 0 := eqI_f c10
          refine ⟨q_lenO ((oe8.low (Nat.le_trans (Nat.le_trans (Nat.le_refl _) pe2.next) pe3.next)).old pe9 (Nat.le_refl _)), ?_⟩
          refine ⟨fun c11 => ?_, fun c11 => ?_⟩
          · have rc11 := c11
            replace c11 : (lebU v).length + (n % 8) ≤ 5 := ltI_f (notB_t c11)
            first | exact rfl | (exfalso; omega)
          · have rc11 := c11
            replace c11 : 5 < (lebU v).length + (n % 8) := ltI_t (notB_f c11)
            refine ⟨congrArg (fun z => OV.ok (AV.bool z)) (rc10), ?_⟩
            refine ⟨fun c12 => ?_, fun c12 => ?_⟩
            · have rc12 := c12
              replace c12 : y3 = 0 := eqI_t c12
              refine ⟨q_lenO (oe9.low (Nat.le_trans (Nat.le_trans (Nat.le_trans (Nat.le_refl _) pe2.next) pe3.next) pe8.next)), ?_⟩
              refine ⟨fun c13 => ?_, fun c13 => ?_⟩
              · have rc13 := c13
                replace c13 : (lebS w).length + (n % 8) ≤ 5 := ltI_f (notB_t c13)
                refine ⟨congrArg (fun z => OV.ok (AV.bool (notB z))) (rc12), ?_⟩
                refine ⟨fun c14 => ?_, fun c14 => ?_⟩
                · have rc14 := c14
                  replace c14 : y1 = w := eqI_T c14
                  refine ⟨q_lenO (oe9.low (Nat.le_trans (Nat.le_trans (Nat.le_trans (Nat.le_refl _) pe2.next) pe3.next) pe8.next)), ?_⟩
                  refine ⟨fun c15 => ?_, fun c15 => ?_⟩
                  · have rc15 := c15
                    replace c15 : y2 = (lebS w).length + (n % 8) := eqI_t c15
                    first | exact rfl | (exfalso; omega)
                  · have rc15 := c15
                    replace c15 : y2 ≠ (lebS w).length + (n % 8) := eqI_f c15
                    first | exact rfl | (exfalso; omega)
                · have rc14 := c14
                  replace c14 : y1 ≠ w := eqI_F c14
                  first | exact rfl | (exfalso; omega)
              · have rc13 := c13
                replace c13 : 5 < (lebS w).length + (n % 8) := ltI_t (notB_f c13)
                first | exact rfl | (exfalso; omega)
            · have rc12 := c12
              replace c12 : y3 ≠ 0 := eqI_f c12
              refine ⟨q_lenO (oe9.low (Nat.le_trans (Nat.le_trans (Nat.le_trans (Nat.le_refl _) pe2.next) pe3.next) pe8.next)), ?_⟩
              refine ⟨fun c13 => ?_, fun c13 => ?_⟩
              · have rc13 := c13
                replace c13 : (lebS w).length + (n % 8) ≤ 5 := ltI_f (notB_t c13)
                first | exact rfl | (exfalso; omega)
              · have rc13 := c13
                replace c13 : 5 < (lebS w).length + (n % 8) := ltI_t (notB_f c13)
                refine ⟨congrArg (fun z => OV.ok (AV.bool (notB z))) (rc12), ?_⟩
                first | exact rfl | (exfalso; omega)
      · have rc7 := c7
        replace c7 : 0 ≤ w := ltI_F c7
        obtain ⟨ve8, he8, qe8, oe8, pe8, ne8⟩ := hlonger (B := e3.h.next) (l := lebU v) (k := n % 8) (e := 0) (Nat.le_refl _) (Owned.bytes ((oe2.low (Nat.le_refl _)).old pe3 (Nat.le_refl _)) (lebU_all g1) (Nat.le_refl _)) (by omega) (by omega) (by omega) (by decide)
        obtain ⟨e8, rfl, rfl⟩ : ∃ e : Ev, ve8 = e.v ∧ he8 = e.h := ⟨⟨ve8, .lf, he8⟩, rfl, rfl⟩
        refine ⟨e8, qe8, ?_⟩
        obtain ⟨ve9, he9, qe9, oe9, pe9, ne9⟩ := hlonger (B := e8.h.next) (l := lebS w) (k := n % 8) (e := 0) (Nat.le_refl _) (Owned.bytes ((oe3.low (Nat.le_trans (Nat.le_refl _) pe2.next)).old pe8 (Nat.le_refl _)) (lebS_all (by omega)) (Nat.le_refl _)) (by omega) (by omega) (by omega) (by decide)
        obtain ⟨e9, rfl, rfl⟩ : ∃ e : Ev, ve9 = e.v ∧ he9 = e.h := ⟨⟨ve9, .lf, he9⟩, rfl, rfl⟩
        refine ⟨e9, qe9, ?_⟩
        refine ⟨(hU32 (Owned.bytes ((oe8.low (Nat.le_trans (Nat.le_trans (Nat.le_refl _) pe2.next) pe3.next)).old pe9 (Nat.le_refl _)) (longerL_lt (by decide) _ _ (Owned.bytes ((oe2.low (Nat.le_refl _)).old pe3 (Nat.le_refl _)) (lebU_all g1) (Nat.le_refl _)).lt) (Nat.le_refl _)) (by rw [longerL_len]; omega)).trans (by rw [hx1, hx2, hx3]), ?_⟩
        refine ⟨(hS32 (Owned.bytes (oe9.low (Nat.le_trans (Nat.le_trans (Nat.le_trans (Nat.le_refl _) pe2.next) pe3.next) pe8.next)) (longerL_lt (by decide) _ _ (Owned.bytes ((oe3.low (Nat.le_trans (Nat.le_refl _) pe2.next)).old pe8 (Nat.le_refl _)) (lebS_all (by omega)) (Nat.le_refl _)).lt) (Nat.le_refl _)) (by rw [longerL_len]; omega)).trans (by rw [hy1, hy2, hy3, show sgn = 0 by have h := hsg; split at h <;> omega]), ?_⟩
        refine ⟨fun c10 => ?_, fun c10 => ?_⟩
        · have rc10 := c10
          replace c10 : x3 = 0 := eqI_t c10
          refine ⟨q_lenO ((oe8.low (Nat.le_trans (Nat.le_trans (Nat.le_refl _) pe2.next) pe3.next)).old pe9 (Nat.le_refl _)), ?_⟩
          refine ⟨fun c11 => ?_, fun c11 => ?_⟩
          · have rc11 := c11
            replace c11 : (lebU v).length + (n % 8) ≤ 5 := ltI_f (notB_t c11)
            refine ⟨congrArg (fun z => OV.ok (AV.bool z)) (rc10), ?_⟩
            refine ⟨fun c12 => ?_, fun c12 => ?_⟩
            · have rc12 := c12
              replace c12 : x1 ≠ v := eqI_f (notB_t c12)
              first | exact rfl | (exfalso; omega)
            · have rc12 := c12
              replace c12 : x1 = v := eqI_t (notB_f c12)
              refine ⟨q_lenO ((oe8.low (Nat.le_trans (Nat.le_trans (Nat.le_refl _) pe2.next) pe3.next)).old pe9 (Nat.le_refl _)), ?_⟩
              refine ⟨fun c13 => ?_, fun c13 => ?_⟩
              · have rc13 := c13
                replace c13 : x2 ≠ (lebU v).length + (n % 8) := eqI_f (notB_t c13)
                first | exact rfl | (exfalso; omega)
              · have rc13 := c13
                replace c13 : x2 = (lebU v).length + (n % 8) := eqI_t (notB_f c13)
                refine ⟨fun c14 => ?_, fun c14 => ?_⟩
                · have rc14 := c14
                  replace c14 : y3 = 0 := eqI_t c14
                  refine ⟨q_lenO (oe9.low (Nat.le_trans (Nat.le_trans (Nat.le_trans (Nat.le_refl _) pe2.next) pe3.next) pe8.next)), ?_⟩
                  refine ⟨fun c15 => ?_, fun c15 => ?_⟩
                  · have rc15 := c15
                    replace c15 : (lebS w).length + (n % 8) ≤ 5 := ltI_f (notB_t c15)
                    refine ⟨congrArg (fun z => OV.ok (AV.bool (notB z))) (rc14), ?_⟩
                    refine ⟨fun c16 => ?_, fun c16 => ?_⟩
                    · have rc16 := c16
                      replace c16 : y1 = w := eqI_T c16
                      refine ⟨q_lenO (oe9.low (Nat.le_trans (Nat.le_trans (Nat.le_trans (Nat.le_refl _) pe2.next) pe3.next) pe8.next)), ?_⟩
                      refine ⟨fun c17 => ?_, fun c17 => ?_⟩
                      · have rc17 := c17
                        replace c17 : y2 = (lebS w).length + (n % 8) := eqI_t c17
                        first | exact rfl | (exfalso; omega)
                      · have rc17 := c17
                        replace c17 : y2 ≠ (lebS w).length + (n % 8) := eqI_f c17
                        first | exact rfl | (exfalso; omega)
                    · have rc16 := c16
                      replace c16 : y1 ≠ w := eqI_F c16
                      first | exact rfl | (exfalso; omega)
                  · have rc15 := c15
                    replace c15 : 5 < (lebS w).length + (n % 8) := ltI_t (notB_f c15)
                    first | exact rfl | (exfalso; omega)
                · have rc14 := c14
                  replace c14 : y3 ≠ 0 := eqI_f c14
                  refine ⟨q_lenO (oe9.low (Nat.le_trans (Nat.le_trans (Nat.le_trans (Nat.le_refl _) pe2.next) pe3.next) pe8.next)), ?_⟩
                  refine ⟨fun c15 => ?_, fun c15 => ?_⟩
                  · have rc15 := c15
                    replace c15 : (lebS w).length + (n % 8) ≤ 5 := ltI_f (notB_t c15)
                    first | exact rfl | (exfalso; omega)
                  · have rc15 := c15
                    replace c15 : 5 < (lebS w).length + (n % 8) := ltI_t (notB_f c15)
                    refine ⟨congrArg (fun z => OV.ok (AV.bool (notB z))) (rc14), ?_⟩
                    first | exact rfl | (exfalso; omega)
          · have rc11 := c11
            replace c11 : 5 < (lebU v).length + (n % 8) := ltI_t (notB_f c11)
            first | exact rfl | (exfalso; omega)
        · have rc10 := c10
          replace c10 : x3 ≠ 0 := eqI_f c10
          refine ⟨q_lenO ((oe8.low (Nat.le_trans (Nat.le_trans (Nat.le_refl _) pe2.next) pe3.next)).old pe9 (Nat.le_refl _)), ?_⟩
          refine ⟨fun c11 => ?_, fun c11 => ?_⟩
          · have rc11 := c11
            replace c11 : (lebU v).length + (n % 8) ≤ 5 := ltI_f (notB_t c11)
            first | exact rfl | (exfalso; omega)
          · have rc11 := c11
            replace c11 : 5 < (lebU v).length + (n % 8) := ltI_t (notB_f c11)
            refine ⟨congrArg (fun z => OV.ok (AV.bool z)) (rc10), ?_⟩
            refine ⟨fun c12 => ?_, fun c12 => ?_⟩
            · have rc12 := c12
              replace c12 : y3 = 0 := eqI_t c12
              refine ⟨q_lenO (oe9.low (Nat.le_trans (Nat.le_trans (Nat.le_trans (Nat.le_refl _) pe2.next) pe3.next) pe8.next)), ?_⟩
              refine ⟨fun c13 => ?_, fun c13 => ?_⟩
              · have rc13 := c13
                replace c13 : (lebS w).length + (n % 8) ≤ 5 := ltI_f (notB_t c13)
                refine ⟨congrArg (fun z => OV.ok (AV.bool (notB z))) (rc12), ?_⟩
                refine ⟨fun c14 => ?_, fun c14 => ?_⟩
                · have rc14 := c14
                  replace c14 : y1 = w := eqI_T c14
                  refine ⟨q_lenO (oe9.low (Nat.le_trans (Nat.le_trans (Nat.le_trans (Nat.le_refl _) pe2.next) pe3.next) pe8.next)), ?_⟩
                  refine ⟨fun c15 => ?_, fun c15 => ?_⟩
                  · have rc15 := c15
                    replace c15 : y2 = (lebS w).length + (n % 8) := eqI_t c15
                    first | exact rfl | (exfalso; omega)
                  · have rc15 := c15
                    replace c15 : y2 ≠ (lebS w).length + (n % 8) := eqI_f c15
                    first | exact rfl | (exfalso; omega)
                · have rc14 := c14
                  replace c14 : y1 ≠ w := eqI_F c14
                  first | exact rfl | (exfalso; omega)
              · have rc13 := c13
                replace c13 : 5 < (lebS w).length + (n % 8) := ltI_t (notB_f c13)
                first | exact rfl | (exfalso; omega)
            · have rc12 := c12
              replace c12 : y3 ≠ 0 := eqI_f c12
              refine ⟨q_lenO (oe9.low (Nat.le_trans (Nat.le_trans (Nat.le_trans (Nat.le_refl _) pe2.next) pe3.next) pe8.next)), ?_⟩
              refine ⟨fun c13 => ?_, fun c13 => ?_⟩
              · have rc13 := c13
                replace c13 : (lebS w).length + (n % 8) ≤ 5 := ltI_f (notB_t c13)
                first | exact rfl | (exfalso; omega)
              · have rc13 := c13
                replace c13 : 5 < (lebS w).length + (n % 8) := ltI_t (notB_f c13)
                refine ⟨congrArg (fun z => OV.ok (AV.bool (notB z))) (rc12), ?_⟩
                first | exact rfl | (exfalso; omega)
theorem walk (x0 : Nat) (x1 : Int) (x2 : Nat) (W : World) (f0 : x0 < 4294967296) (f1 : -2147483648 ≤ x1 ∧ x1 < 2147483648) (f2 : x2 < 256) :
    Calls Try.prog 5 #[.int .u32 (.ofNat x0), .int .i32 x1, .int .u8 (.ofNat x2)] W fun e W' => e = .returned (.bool true) ∧ Below W.heap.size W W' := by
  obtain ⟨μ, h, vs, hs, hm, hn, hvs, _⟩ := start_bytes (w := W) [] (by simp)
  obtain ⟨rv, rh, e, hr⟩ := law_walk (call := CC 10) (N := 100000) (h := h) f0 f1 f2 (evF_sum (by decide)) (s_putU 7) (s_putS 7) (s_longer 9) (s_U32 7) (s_S32 7)
  have hr : rv = .bool true := hr
  subst hr
  refine start_law compDrawn_ok (sumT_ok trues) (N := 100000) (d := 11) hs hm (args := [.int .u32 (.ofNat x0), .int .i32 x1, .int .u8 (.ofNat x2)]) ?_ (by rw [evF_at (sumT_none rfl)]; exact e)
  rw [VRs_cons]; refine ⟨_, _, rfl, (by rw [VR_int]), ?_⟩
  rw [VRs_cons]; refine ⟨_, _, rfl, (by rw [VR_int]), ?_⟩
  rw [VRs_cons]; exact ⟨_, _, rfl, (by rw [VR_int]), by rw [VRs_nil]⟩
theorem own : ownKnob Try.prog.godebug = none := by kernel_rfl
theorem laidOut : laidOutB Try.prog = true := by kernel_rfl
set_option maxRecDepth 100000 in
set_option maxHeartbeats 1000000 in
theorem lifted (os : Os) (started : os.Started) (H : Type) (enc : TypeId × Value → H) :
    ReturnsInHanded {} Try.checked os 5 .any (Rows.lebLongSpec.pre6 enc Try.prog Try.f5 Rows.lebLongRow.domain false) (Rows.lebLongSpec.post enc Try.prog Try.f5 false true false false) := by
  refine returnsInHanded_of_change_sized (C := Try.checked) own started (by kernel_rfl) Try.func5
    (ChangeSpec.witness6 (enc := enc) (C := Try.checked) false ⟨#[], #[.int .u32 0, .int .i32 0, .int .u8 0], []⟩ 8 (by kernel_rfl) (by kernel_rfl) (by kernel_rfl) (by kernel_rfl)) ?_
  intro W base args ds gs before hval0 hW hcnd hsz0 _
  have hval : ∀ (j : Nat) t v, Try.f5.params[j]? = some t → args[j]? = some v → Value.okWide Try.prog W .any base t v := hval0
  have hW' := hW
  obtain ⟨p, q, hA0, hV, rfl, hfz, hnd⟩ := hW
  have hA : DataW.TrodAll enc Try.prog W 0 (fun _ => true) true Try.f5.params.toList args.toList ds p := hA0
  rw [Try.params5] at hA hval
  obtain ⟨rfl, rfl⟩ := trodVars_none hV
  simp only [List.append_nil] at hW'
  obtain ⟨v0, vs0, d0, ds0, p0, q0, hargs, rfl, rfl, h0, r0⟩ := trodAll_cons hA
  obtain ⟨v1, vs1, d1, ds1, p1, q1, rfl, rfl, rfl, h1, r1⟩ := trodAll_cons r0
  obtain ⟨v2, vs2, d2, ds2, p2, q2, rfl, rfl, rfl, h2, r2⟩ := trodAll_cons r1
  obtain ⟨rfl, rfl, rfl⟩ := trodAll_nil r2
  obtain rfl : args = #[v0, v1, v2] := by cases args; simp_all
  have hlt : ∀ x ∈ p0 ++ p1 ++ p2, x.block < W.heap.size := fun x hx => by simpa using hW'.lt x (by simpa using hx)
  obtain ⟨y0, rfl, rfl, rfl, w0⟩ := open_int Try.underlying32 (hval 0 32 v0 rfl rfl) h0
  obtain ⟨x0, rfl, f0⟩ := u32_wf w0
  obtain ⟨y1, rfl, rfl, rfl, w1⟩ := open_int Try.underlying21 (hval 1 21 v1 rfl rfl) h1
  obtain ⟨y2, rfl, rfl, rfl, w2⟩ := open_int Try.underlying5 (hval 2 5 v2 rfl rfl) h2
  obtain ⟨x2, rfl, f2⟩ := u8_wf w2
  refine (walk x0 y1 x2 W f0 (i32_wf w1) f2).mono fun e W' ⟨he, bel⟩ => ?_
  subst he
  exact ⟨_, rfl, _, _, _, [], _, [], hW', trodAll_mk1 (shut_bool Try.underlying4 _), (trodAll_cons_mk (shut_int Try.underlying32 w0) (trodAll_cons_mk (shut_int Try.underlying21 w1) (trodAll_cons_mk (shut_int Try.underlying5 w2) trodAll_mk0))), rfl, bel.frame _, fun h => by cases h⟩
theorem over : Rows.lebLongRow.holds Try.pinned (OpenSpec.ofChange Rows.lebLongSpec) :=
  OpenClaim.holds_of_wide 5 Try.f5 rfl rfl rfl rfl rfl rfl rfl ⟨rfl, rfl, rfl, rfl, rfl⟩ rfl rfl rfl rfl rfl (by kernel_rfl) Try.func5 (by kernel_rfl)
    (of_decide_eq_true (by kernel_rfl)) (by unfold Func.isWrapper; first | (rw [if_pos (by decide +kernel)]; kernel_rfl) | (rw [if_neg (by decide +kernel)]; exact ⟨rfl, rfl⟩))
    (fun os started H enc _ => lifted os started H enc)
theorem proved : Rows.LebLongSaid := over
end Go.Proofs.Ytejiebbbodealaa.lebLong
