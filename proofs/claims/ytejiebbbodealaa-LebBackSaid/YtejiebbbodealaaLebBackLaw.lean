/- Proved: for all numbers v, w, bytes more and numbers cut, the call of cloakroomlaw1.LebBack returns true and leaves its arguments alone. Condition: none. -/
import Derived.Test.YtejiebbbodealaaLeb4
import Derived.Test.YtejiebbbodealaaLebLaws
import Derived.Test.YtejiebbbodealaaEngS31
import Derived.Test.YtejiebbbodealaaRows
import Derived.WalkKit
import Derived.ProofKit
import Derived.OpenShut
import Derived.ShutString
import Derived.ChangeOld
import Derived.Below
import Derived.SizedLaws
import Derived.Carry
import Derived.ChangeSlices
namespace Go.Proofs.Ytejiebbbodealaa.lebBack
open Go.ChangeShapes Go.WideShapes Go.ChangeAt Go.RowKit
open Go.ChangeMaps (open_string shut_string)
open Eng
set_option linter.unusedVariables false
set_option linter.unusedSimpArgs false

theorem place_walk {call : CallT} {N : Nat} {h : Hp} {c : Int} {n : Nat} (h1 : 1 ≤ n) (h2 : n < 4611686018427387904)
    : ∃ rv rh, evF1 (progS Try.prog (compDrawn Try.prog)) N call 33 [(AV.int .i64 c), (AV.int .i64 (Int.ofNat n))] h = .ok rv rh ∧ (fun (v : AV) (h' : Hp) => h' = h ∧ v = .int .i64 (.ofNat (placeN c n))) rv rh := by
  refine fwalk_ok (o := (.fork 2 .fin (.tell 2 (AV.int .i64 (Int.tmod c n)) (.fork 2 .fin .fin)))) (p := ((ltI (Int.ofNat n) (Int.ofNat 1) = true → (fun (v : AV) (h' : Hp) => h' = h ∧ v = .int .i64 (.ofNat (placeN c n))) (AV.int .i64 (Int.ofNat 0)) h) ∧ (ltI (Int.ofNat n) (Int.ofNat 1) = false → (evQ (.bin .rem (.const (AV.int .i64 c)) (.const (AV.int .i64 (Int.ofNat n)))) .lf H0 = .ok (AV.int .i64 (Int.tmod c n)) ∧ ((ltI (Int.tmod c n) (Int.ofNat 0) = true → (fun (v : AV) (h' : Hp) => h' = h ∧ v = .int .i64 (.ofNat (placeN c n))) (AV.int .i64 (wrapA .i64 (Int.add (Int.tmod c n) (Int.ofNat n)))) h) ∧ (ltI (Int.tmod c n) (Int.ofNat 0) = false → (fun (v : AV) (h' : Hp) => h' = h ∧ v = .int .i64 (.ofNat (placeN c n))) (AV.int .i64 (Int.tmod c n)) h)))))) (by kernel_rfl) ?_
  refine ⟨fun c1 => ?_, fun c1 => ?_⟩
  · have rc1 := c1
    replace c1 : n < 1 := ltI_t c1
    exact absurd c1 (by omega)
  · have rc1 := c1
    replace c1 : 1 ≤ n := ltI_f c1
    refine ⟨q_remz (by omega), ?_⟩
    refine ⟨fun c2 => ?_, fun c2 => ?_⟩
    · have rc2 := c2
      replace c2 : Int.tmod c n < 0 := ltI_T c2
      exact ⟨rfl, congrArg (AV.int .i64) (place_neg h1 h2 c2)⟩
    · have rc2 := c2
      replace c2 : 0 ≤ Int.tmod c n := ltI_F c2
      exact ⟨rfl, congrArg (AV.int .i64) (place_pos h1 c2)⟩
theorem s_place (d : Nat) : PlaceS (CC (d + 1)) 33 := fun c n h _ h1 h2 => by
  rw [CC, evF_at (sumT_none rfl)]
  obtain ⟨v, h', e, rfl, rfl⟩ := place_walk (call := CC d) (N := 100000) (h := h) (c := c) h1 h2
  exact e
theorem sInt32_in (x : Nat) : -2147483648 ≤ sInt .i32 x ∧ sInt .i32 x < 2147483648 := by
  have e : sInt .i32 x = wrapS 2147483648 (2 * 2147483648) (.ofNat x) := rfl
  rw [e, wrapS_eq _ (by decide)]
  split <;> omega
theorem wrap32_in (x : Int) : -2147483648 ≤ wrapA .i32 x ∧ wrapA .i32 x < 2147483648 ∧ (-2147483648 ≤ x ∧ x < 2147483648 → wrapA .i32 x = x) := by
  have e : wrapA .i32 x = wrapS 2147483648 (2 * 2147483648) x := rfl
  rw [e, wrapS_eq _ (by decide)]
  split <;> omega
theorem law_walk {call : CallT} {N : Nat} {h : Hp} {v : Nat} {w c : Int} {vb : AV} {l : List Nat} (hv : v < 18446744073709551616) (hw : -9223372036854775808 ≤ w ∧ w < 9223372036854775808) (hb : Bytes h.next h vb l) (hc : -9223372036854775808 ≤ c ∧ c < 9223372036854775808) (hbegun : TrueS call 15) (hPutU : PutUS call 16) (hPutS : PutSS call 18) (hplace : PlaceS call 33) (hU64 : NumS call 26 64 false .u64 fun n => .ofNat n) (hS64 : NumS call 20 64 true .i64 (sInt .i64)) (hU32 : NumS call 22 32 false .u32 fun n => .ofNat (n % 4294967296)) (hS32 : NumS call 23 32 true .i32 (sInt .i32)) (hS33 : NumS call 29 33 true .i64 (sInt .i64))
    : ∃ rv rh, evF1 (progS Try.prog (compDrawn Try.prog)) N call 7 [(AV.int .u64 (Int.ofNat v)), (AV.int .i64 w), vb, (AV.int .i64 c)] h = .ok rv rh ∧ (fun (v : AV) (_ : Hp) => v = .bool true) rv rh := by
  have hl1 := lebU_len' hv
  have hl2 := lebS_len' hw
  have hl0 := lebH_lenU v
  obtain ⟨nw, hnw, -⟩ := lebS_lenD w
  have hA : readG 64 false (([] ++ (lebU v)) ++ l) 0 0 0 = (v, (lebU v).length, 0) := readG_lebU hv l
  have hB : readG 64 true (([] ++ (lebS w)) ++ l) 0 0 0 = ((w % 18446744073709551616).toNat, (lebS w).length, 0) := by have := readG_lebS (size := 64) (by decide) (w := w) l; rw [if_pos (by simpa using hw)] at this; exact this
  have hC : readG 64 false ((lebU v).take (placeN c (lebU v).length)) 0 0 0 = (0, 0, 3) := lebU_cut hv (placeN_lt (by omega))
  have hD : readG 64 true ((lebS w).take (placeN c (lebS w).length)) 0 0 0 = (0, 0, 3) := lebS_cut hw (placeN_lt (by omega))
  obtain ⟨a1, ea1⟩ : ∃ x, (readG 32 false (lebU v) 0 0 0).1 % 4294967296 = x := ⟨_, rfl⟩
  obtain ⟨a2, ea2⟩ : ∃ x, (readG 32 false (lebU v) 0 0 0).2.1 = x := ⟨_, rfl⟩
  obtain ⟨a3, ea3⟩ : ∃ x, (readG 32 false (lebU v) 0 0 0).2.2 = x := ⟨_, rfl⟩
  obtain ⟨b1, eb1⟩ : ∃ x, sInt .i32 (readG 32 true (lebS w) 0 0 0).1 = x := ⟨_, rfl⟩
  obtain ⟨b2, eb2⟩ : ∃ x, (readG 32 true (lebS w) 0 0 0).2.1 = x := ⟨_, rfl⟩
  obtain ⟨b3, eb3⟩ : ∃ x, (readG 32 true (lebS w) 0 0 0).2.2 = x := ⟨_, rfl⟩
  obtain ⟨s1, es1⟩ : ∃ x, sInt .i64 (readG 33 true (lebS w) 0 0 0).1 = x := ⟨_, rfl⟩
  obtain ⟨s2, es2⟩ : ∃ x, (readG 33 true (lebS w) 0 0 0).2.1 = x := ⟨_, rfl⟩
  obtain ⟨s3, es3⟩ : ∃ x, (readG 33 true (lebS w) 0 0 0).2.2 = x := ⟨_, rfl⟩
  have ha1 : a1 < 4294967296 := by omega
  have hb1 := sInt32_in (readG 32 true (lebS w) 0 0 0).1
  rw [eb1] at hb1
  have hw32 := wrap32_in w
  have Ha : (v < 4294967296 ∧ a1 = v ∧ a3 = 0) ∨ (4294967296 ≤ v ∧ a3 = 2) := by
    have hr := readG_lebU32 hv []
    rw [List.append_nil] at hr
    by_cases hcc : v < 4294967296
    · rw [if_pos hcc] at hr; rw [hr] at ea1 ea3; dsimp only at ea1 ea3; left; omega
    · rw [if_neg hcc] at hr; rw [hr] at ea3; dsimp only at ea3; right; omega
  have Hb : ((-2147483648 ≤ w ∧ w < 2147483648) ∧ b1 = w ∧ b3 = 0) ∨ (¬ (-2147483648 ≤ w ∧ w < 2147483648) ∧ b3 = 2) := by
    have hr := readG_lebS (size := 32) (by decide) (w := w) []
    rw [List.append_nil] at hr
    by_cases hcc : -2147483648 ≤ w ∧ w < 2147483648
    · rw [if_pos (by simpa using hcc)] at hr; rw [hr] at eb1 eb3; dsimp only at eb1 eb3; left; exact ⟨hcc, by rw [← eb1]; exact sInt_back32 hcc, eb3.symm⟩
    · rw [if_neg (by simpa using hcc)] at hr; rw [hr] at eb3; dsimp only at eb3; right; exact ⟨hcc, eb3.symm⟩
  have Hc : ((-4294967296 ≤ w ∧ w < 4294967296) ∧ s1 = w ∧ s3 = 0) ∨ (¬ (-4294967296 ≤ w ∧ w < 4294967296) ∧ s3 = 2) := by
    have hr := readG_lebS (size := 33) (by decide) (w := w) []
    rw [List.append_nil] at hr
    by_cases hcc : -4294967296 ≤ w ∧ w < 4294967296
    · rw [if_pos (by simpa using hcc)] at hr; rw [hr] at es1 es3; dsimp only at es1 es3; left; exact ⟨hcc, by rw [← es1]; exact sInt_back hw, es3.symm⟩
    · rw [if_neg (by simpa using hcc)] at hr; rw [hr] at es3; dsimp only at es3; right; exact ⟨hcc, es3.symm⟩
  refine fwalk_ok (o := (.eff 1 (AV.bool true) h (.tell 2 (AV.int .i64 (Int.ofNat l.length)) (.fork 0 .fin (.effx 1 (fun e2 => e2.v) (fun e2 => (.effx 1 (fun e6 => e6.v) (fun e6 => (.effx 3 (fun e21 => e21.v) (fun e21 => (.effx 1 (fun e31 => e31.v) (fun e31 => (.eff 0 (AV.tuple [(AV.int .u64 (Int.ofNat v)), (AV.int .i64 (Int.ofNat ((lebU v).length))), (AV.int .i64 (Int.ofNat 0))]) e31.h (.effx 8 (fun e55 => e55.v) (fun e55 => (.effx 1 (fun e69 => e69.v) (fun e69 => (.eff 0 (AV.tuple [(AV.int .i64 w), (AV.int .i64 (Int.ofNat ((lebS w).length))), (AV.int .i64 (Int.ofNat 0))]) e69.h (.tell 10 (AV.int .i64 (Int.ofNat ((lebU v).length))) (.eff 0 (AV.int .i64 (Int.ofNat (placeN c ((lebU v).length)))) e69.h (.tell 0 (partS e2.v 0 (placeN c ((lebU v).length))) (.eff 0 (AV.tuple [(AV.int .u64 (Int.ofNat 0)), (AV.int .i64 (Int.ofNat 0)), (AV.int .i64 (Int.ofNat 3))]) e69.h (.tell 10 (AV.int .i64 (Int.ofNat ((lebS w).length))) (.eff 0 (AV.int .i64 (Int.ofNat (placeN c ((lebS w).length)))) e69.h (.tell 0 (partS e6.v 0 (placeN c ((lebS w).length))) (.eff 0 (AV.tuple [(AV.int .i64 (Int.ofNat 0)), (AV.int .i64 (Int.ofNat 0)), (AV.int .i64 (Int.ofNat 3))]) e69.h (.eff 8 (AV.tuple [(AV.int .u32 (Int.ofNat a1)), (AV.int .i64 (Int.ofNat a2)), (AV.int .i64 (Int.ofNat a3))]) e69.h (.eff 8 (AV.tuple [(AV.int .i32 b1), (AV.int .i64 (Int.ofNat b2)), (AV.int .i64 (Int.ofNat b3))]) e69.h (.eff 8 (AV.tuple [(AV.int .i64 s1), (AV.int .i64 (Int.ofNat s2)), (AV.int .i64 (Int.ofNat s3))]) e69.h (.fork 14 .fin (.tell 2 (AV.int .i64 (Int.ofNat ((lebU v).length))) (.fork 2 .fin (.fork 8 .fin (.tell 2 (AV.int .i64 (Int.ofNat ((lebS w).length))) (.fork 2 .fin (.fork 8 (.fork 1 (.tell 4 (AV.bool true) (.tell 1 (AV.int .u64 (Int.ofNat a1)) (.fork 4 .fin (.fork 1 (.tell 3 (AV.int .i64 (wrapA .i32 w)) (.fork 0 (.tell 5 (AV.bool true) (.tell 1 (AV.int .i64 b1) (.fork 3 .fin (.fork 1 (.fork 2 (.fork 2 (.tell 4 (AV.bool false) (.fork 5 .fin .fin)) .fin) .fin) (.fork 2 (.fork 2 .fin (.tell 4 (AV.bool true) .fin)) (.tell 5 (AV.bool true) .fin)))))) .fin)) (.tell 3 (AV.int .i64 (wrapA .i32 w)) (.fork 0 .fin (.tell 5 (AV.bool false) (.fork 3 (.fork 2 (.fork 2 (.tell 4 (AV.bool false) (.fork 5 .fin .fin)) .fin) .fin) (.fork 2 (.fork 2 .fin (.tell 4 (AV.bool true) .fin)) (.tell 5 (AV.bool true) .fin)))))))))) .fin) (.fork 1 .fin (.tell 4 (AV.bool false) (.fork 4 (.tell 3 (AV.int .i64 (wrapA .i32 w)) (.fork 0 (.tell 5 (AV.bool true) (.tell 1 (AV.int .i64 b1) (.fork 3 .fin (.fork 1 (.fork 2 (.fork 2 (.tell 4 (AV.bool false) (.fork 5 .fin .fin)) .fin) .fin) (.fork 2 (.fork 2 .fin (.tell 4 (AV.bool true) .fin)) (.tell 5 (AV.bool true) .fin)))))) .fin)) (.tell 3 (AV.int .i64 (wrapA .i32 w)) (.fork 0 .fin (.tell 5 (AV.bool false) (.fork 3 (.fork 2 (.fork 2 (.tell 4 (AV.bool false) (.fork 5 .fin .fin)) .fin) .fin) (.fork 2 (.fork 2 .fin (.tell 4 (AV.bool true) .fin)) (.tell 5 (AV.bool true) .fin))))))))))))))))))))))))))))))))))))))))))))) (p := (call 15 [] h = .ok (AV.bool true) h ∧ (evQ (.lenL (.const vb)) .lf H0 = .ok (AV.int .i64 (Int.ofNat l.length)) ∧ ((ltI (Int.ofNat 10) (Int.ofNat l.length) = true → (fun (v : AV) (_ : Hp) => v = .bool true) (AV.bool true) h) ∧ (ltI (Int.ofNat 10) (Int.ofNat l.length) = false → (∃ e2 : Ev, call 16 [AV.nilSlice, (AV.int .u64 (Int.ofNat v))] h = .ok e2.v e2.h ∧ (∃ e6 : Ev, call 18 [AV.nilSlice, (AV.int .i64 w)] e2.h = .ok e6.v e6.h ∧ (∃ e21 : Ev, evE (.append 1 1 (.const (AV.slice (Hp.next e6.h) 0 0 0 1 true)) (.const e2.v)) call .lf (hpush e6.h (mkCells [] 0)) = .ok e21.v e21.h ∧ (∃ e31 : Ev, evE (.append 1 1 (.const e21.v) (.const vb)) call .lf e21.h = .ok e31.v e31.h ∧ (call 26 [e31.v] e31.h = .ok (AV.tuple [(AV.int .u64 (Int.ofNat v)), (AV.int .i64 (Int.ofNat ((lebU v).length))), (AV.int .i64 (Int.ofNat 0))]) e31.h ∧ (∃ e55 : Ev, evE (.append 1 1 (.const (AV.slice (Hp.next e31.h) 0 0 0 1 true)) (.const e6.v)) call .lf (hpush e31.h (mkCells [] 0)) = .ok e55.v e55.h ∧ (∃ e69 : Ev, evE (.append 1 1 (.const e55.v) (.const vb)) call .lf e55.h = .ok e69.v e69.h ∧ (call 20 [e69.v] e69.h = .ok (AV.tuple [(AV.int .i64 w), (AV.int .i64 (Int.ofNat ((lebS w).length))), (AV.int .i64 (Int.ofNat 0))]) e69.h ∧ (evQ (.lenL (.const e2.v)) .lf H0 = .ok (AV.int .i64 (Int.ofNat ((lebU v).length))) ∧ (call 33 [(AV.int .i64 c), (AV.int .i64 (Int.ofNat ((lebU v).length)))] e69.h = .ok (AV.int .i64 (Int.ofNat (placeN c ((lebU v).length)))) e69.h ∧ (evQ (.sliceSl 1 (.const e2.v) none (some (.const (AV.int .i64 (Int.ofNat (placeN c ((lebU v).length)))))) none) .lf H0 = .ok (partS e2.v 0 (placeN c ((lebU v).length))) ∧ (call 26 [(partS e2.v 0 (placeN c ((lebU v).length)))] e69.h = .ok (AV.tuple [(AV.int .u64 (Int.ofNat 0)), (AV.int .i64 (Int.ofNat 0)), (AV.int .i64 (Int.ofNat 3))]) e69.h ∧ (evQ (.lenL (.const e6.v)) .lf H0 = .ok (AV.int .i64 (Int.ofNat ((lebS w).length))) ∧ (call 33 [(AV.int .i64 c), (AV.int .i64 (Int.ofNat ((lebS w).length)))] e69.h = .ok (AV.int .i64 (Int.ofNat (placeN c ((lebS w).length)))) e69.h ∧ (evQ (.sliceSl 1 (.const e6.v) none (some (.const (AV.int .i64 (Int.ofNat (placeN c ((lebS w).length)))))) none) .lf H0 = .ok (partS e6.v 0 (placeN c ((lebS w).length))) ∧ (call 20 [(partS e6.v 0 (placeN c ((lebS w).length)))] e69.h = .ok (AV.tuple [(AV.int .i64 (Int.ofNat 0)), (AV.int .i64 (Int.ofNat 0)), (AV.int .i64 (Int.ofNat 3))]) e69.h ∧ (call 22 [e2.v] e69.h = .ok (AV.tuple [(AV.int .u32 (Int.ofNat a1)), (AV.int .i64 (Int.ofNat a2)), (AV.int .i64 (Int.ofNat a3))]) e69.h ∧ (call 23 [e6.v] e69.h = .ok (AV.tuple [(AV.int .i32 b1), (AV.int .i64 (Int.ofNat b2)), (AV.int .i64 (Int.ofNat b3))]) e69.h ∧ (call 29 [e6.v] e69.h = .ok (AV.tuple [(AV.int .i64 s1), (AV.int .i64 (Int.ofNat s2)), (AV.int .i64 (Int.ofNat s3))]) e69.h ∧ ((notB (eqI (Int.ofNat v) (Int.ofNat v)) = true → (fun (v : AV) (_ : Hp) => v = .bool true) (AV.bool false) e69.h) ∧ (notB (eqI (Int.ofNat v) (Int.ofNat v)) = false → (evQ (.lenL (.const e2.v)) .lf H0 = .ok (AV.int .i64 (Int.ofNat ((lebU v).length))) ∧ ((notB (eqI (Int.ofNat ((lebU v).length)) (Int.ofNat ((lebU v).length))) = true → (fun (v : AV) (_ : Hp) => v = .bool true) (AV.bool false) e69.h) ∧ (notB (eqI (Int.ofNat ((lebU v).length)) (Int.ofNat ((lebU v).length))) = false → ((notB (eqI w w) = true → (fun (v : AV) (_ : Hp) => v = .bool true) (AV.bool false) e69.h) ∧ (notB (eqI w w) = false → (evQ (.lenL (.const e6.v)) .lf H0 = .ok (AV.int .i64 (Int.ofNat ((lebS w).length))) ∧ ((notB (eqI (Int.ofNat ((lebS w).length)) (Int.ofNat ((lebS w).length))) = true → (fun (v : AV) (_ : Hp) => v = .bool true) (AV.bool false) e69.h) ∧ (notB (eqI (Int.ofNat ((lebS w).length)) (Int.ofNat ((lebS w).length))) = false → ((eqI (Int.ofNat a3) (Int.ofNat 0) = true → ((ltI (Int.ofNat v) (Int.ofNat 4294967296) = true → (evQ (.move (.const (AV.bool (eqI (Int.ofNat a3) (Int.ofNat 0))))) .lf H0 = .ok (AV.bool true) ∧ (evQ (.toInt .u64 (.const (AV.int .u32 (Int.ofNat a1)))) .lf H0 = .ok (AV.int .u64 (Int.ofNat a1)) ∧ ((notB (eqI (Int.ofNat a1) (Int.ofNat v)) = true → (fun (v : AV) (_ : Hp) => v = .bool true) (AV.bool false) e69.h) ∧ (notB (eqI (Int.ofNat a1) (Int.ofNat v)) = false → ((eqI (Int.ofNat b3) (Int.ofNat 0) = true → (evQ (.toInt .i64 (.const (AV.int .i32 (wrapA .i32 w)))) .lf H0 = .ok (AV.int .i64 (wrapA .i32 w)) ∧ ((eqI w (wrapA .i32 w) = true → (evQ (.move (.const (AV.bool (eqI (Int.ofNat b3) (Int.ofNat 0))))) .lf H0 = .ok (AV.bool true) ∧ (evQ (.toInt .i64 (.const (AV.int .i32 b1))) .lf H0 = .ok (AV.int .i64 b1) ∧ ((notB (eqI b1 w) = true → (fun (v : AV) (_ : Hp) => v = .bool true) (AV.bool false) e69.h) ∧ (notB (eqI b1 w) = false → ((eqI (Int.ofNat s3) (Int.ofNat 0) = true → ((notB (ltI w (Int.negSucc 4294967295)) = true → ((ltI w (Int.ofNat 4294967296) = true → (evQ (.move (.const (AV.bool (notB (eqI (Int.ofNat s3) (Int.ofNat 0)))))) .lf H0 = .ok (AV.bool false) ∧ ((eqI s1 w = true → (fun (v : AV) (_ : Hp) => v = .bool true) (AV.bool true) e69.h) ∧ (eqI s1 w = false → (fun (v : AV) (_ : Hp) => v = .bool true) (AV.bool false) e69.h)))) ∧ (ltI w (Int.ofNat 4294967296) = false → (fun (v : AV) (_ : Hp) => v = .bool true) (AV.bool false) e69.h))) ∧ (notB (ltI w (Int.negSucc 4294967295)) = false → (fun (v : AV) (_ : Hp) => v = .bool true) (AV.bool false) e69.h))) ∧ (eqI (Int.ofNat s3) (Int.ofNat 0) = false → ((notB (ltI w (Int.negSucc 4294967295)) = true → ((ltI w (Int.ofNat 4294967296) = true → (fun (v : AV) (_ : Hp) => v = .bool true) (AV.bool false) e69.h) ∧ (ltI w (Int.ofNat 4294967296) = false → (evQ (.move (.const (AV.bool (notB (eqI (Int.ofNat s3) (Int.ofNat 0)))))) .lf H0 = .ok (AV.bool true) ∧ (fun (v : AV) (_ : Hp) => v = .bool true) (AV.bool true) e69.h)))) ∧ (notB (ltI w (Int.negSucc 4294967295)) = false → (evQ (.move (.const (AV.bool (notB (eqI (Int.ofNat s3) (Int.ofNat 0)))))) .lf H0 = .ok (AV.bool true) ∧ (fun (v : AV) (_ : Hp) => v = .bool true) (AV.bool true) e69.h)))))))))) ∧ (eqI w (wrapA .i32 w) = false → (fun (v : AV) (_ : Hp) => v = .bool true) (AV.bool false) e69.h)))) ∧ (eqI (Int.ofNat b3) (Int.ofNat 0) = false → (evQ (.toInt .i64 (.const (AV.int .i32 (wrapA .i32 w)))) .lf H0 = .ok (AV.int .i64 (wrapA .i32 w)) ∧ ((eqI w (wrapA .i32 w) = true → (fun (v : AV) (_ : Hp) => v = .bool true) (AV.bool false) e69.h) ∧ (eqI w (wrapA .i32 w) = false → (evQ (.move (.const (AV.bool (eqI (Int.ofNat b3) (Int.ofNat 0))))) .lf H0 = .ok (AV.bool false) ∧ ((eqI (Int.ofNat s3) (Int.ofNat 0) = true → ((notB (ltI w (Int.negSucc 4294967295)) = true → ((ltI w (Int.ofNat 4294967296) = true → (evQ (.move (.const (AV.bool (notB (eqI (Int.ofNat s3) (Int.ofNat 0)))))) .lf H0 = .ok (AV.bool false) ∧ ((eqI s1 w = true → (fun (v : AV) (_ : Hp) => v = .bool true) (AV.bool true) e69.h) ∧ (eqI s1 w = false → (fun (v : AV) (_ : Hp) => v = .bool true) (AV.bool false) e69.h)))) ∧ (ltI w (Int.ofNat 4294967296) = false → (fun (v : AV) (_ : Hp) => v = .bool true) (AV.bool false) e69.h))) ∧ (notB (ltI w (Int.negSucc 4294967295)) = false → (fun (v : AV) (_ : Hp) => v = .bool true) (AV.bool false) e69.h))) ∧ (eqI (Int.ofNat s3) (Int.ofNat 0) = false → ((notB (ltI w (Int.negSucc 4294967295)) = true → ((ltI w (Int.ofNat 4294967296) = true → (fun (v : AV) (_ : Hp) => v = .bool true) (AV.bool false) e69.h) ∧ (ltI w (Int.ofNat 4294967296) = false → (evQ (.move (.const (AV.bool (notB (eqI (Int.ofNat s3) (Int.ofNat 0)))))) .lf H0 = .ok (AV.bool true) ∧ (fun (v : AV) (_ : Hp) => v = .bool true) (AV.bool true) e69.h)))) ∧ (notB (ltI w (Int.negSucc 4294967295)) = false → (evQ (.move (.const (AV.bool (notB (eqI (Int.ofNat s3) (Int.ofNat 0)))))) .lf H0 = .ok (AV.bool true) ∧ (fun (v : AV) (_ : Hp) => v = .bool true) (AV.bool true) e69.h)))))))))))))))) ∧ (ltI (Int.ofNat v) (Int.ofNat 4294967296) = false → (fun (v : AV) (_ : Hp) => v = .bool true) (AV.bool false) e69.h))) ∧ (eqI (Int.ofNat a3) (Int.ofNat 0) = false → ((ltI (Int.ofNat v) (Int.ofNat 4294967296) = true → (fun (v : AV) (_ : Hp) => v = .bool true) (AV.bool false) e69.h) ∧ (ltI (Int.ofNat v) (Int.ofNat 4294967296) = false → (evQ (.move (.const (AV.bool (eqI (Int.ofNat a3) (Int.ofNat 0))))) .lf H0 = .ok (AV.bool false) ∧ ((eqI (Int.ofNat b3) (Int.ofNat 0) = true → (evQ (.toInt .i64 (.const (AV.int .i32 (wrapA .i32 w)))) .lf H0 = .ok (AV.int .i64 (wrapA .i32 w)) ∧ ((eqI w (wrapA .i32 w) = true → (evQ (.move (.const (AV.bool (eqI (Int.ofNat b3) (Int.ofNat 0))))) .lf H0 = .ok (AV.bool true) ∧ (evQ (.toInt .i64 (.const (AV.int .i32 b1))) .lf H0 = .ok (AV.int .i64 b1) ∧ ((notB (eqI b1 w) = true → (fun (v : AV) (_ : Hp) => v = .bool true) (AV.bool false) e69.h) ∧ (notB (eqI b1 w) = false → ((eqI (Int.ofNat s3) (Int.ofNat 0) = true → ((notB (ltI w (Int.negSucc 4294967295)) = true → ((ltI w (Int.ofNat 4294967296) = true → (evQ (.move (.const (AV.bool (notB (eqI (Int.ofNat s3) (Int.ofNat 0)))))) .lf H0 = .ok (AV.bool false) ∧ ((eqI s1 w = true → (fun (v : AV) (_ : Hp) => v = .bool true) (AV.bool true) e69.h) ∧ (eqI s1 w = false → (fun (v : AV) (_ : Hp) => v = .bool true) (AV.bool false) e69.h)))) ∧ (ltI w (Int.ofNat 4294967296) = false → (fun (v : AV) (_ : Hp) => v = .bool true) (AV.bool false) e69.h))) ∧ (notB (ltI w (Int.negSucc 4294967295)) = false → (fun (v : AV) (_ : Hp) => v = .bool true) (AV.bool false) e69.h))) ∧ (eqI (Int.ofNat s3) (Int.ofNat 0) = false → ((notB (ltI w (Int.negSucc 4294967295)) = true → ((ltI w (Int.ofNat 4294967296) = true → (fun (v : AV) (_ : Hp) => v = .bool true) (AV.bool false) e69.h) ∧ (ltI w (Int.ofNat 4294967296) = false → (evQ (.move (.const (AV.bool (notB (eqI (Int.ofNat s3) (Int.ofNat 0)))))) .lf H0 = .ok (AV.bool true) ∧ (fun (v : AV) (_ : Hp) => v = .bool true) (AV.bool true) e69.h)))) ∧ (notB (ltI w (Int.negSucc 4294967295)) = false → (evQ (.move (.const (AV.bool (notB (eqI (Int.ofNat s3) (Int.ofNat 0)))))) .lf H0 = .ok (AV.bool true) ∧ (fun (v : AV) (_ : Hp) => v = .bool true) (AV.bool true) e69.h)))))))))) ∧ (eqI w (wrapA .i32 w) = false → (fun (v : AV) (_ : Hp) => v = .bool true) (AV.bool false) e69.h)))) ∧ (eqI (Int.ofNat b3) (Int.ofNat 0) = false → (evQ (.toInt .i64 (.const (AV.int .i32 (wrapA .i32 w)))) .lf H0 = .ok (AV.int .i64 (wrapA .i32 w)) ∧ ((eqI w (wrapA .i32 w) = true → (fun (v : AV) (_ : Hp) => v = .bool true) (AV.bool false) e69.h) ∧ (eqI w (wrapA .i32 w) = false → (evQ (.move (.const (AV.bool (eqI (Int.ofNat b3) (Int.ofNat 0))))) .lf H0 = .ok (AV.bool false) ∧ ((eqI (Int.ofNat s3) (Int.ofNat 0) = true → ((notB (ltI w (Int.negSucc 4294967295)) = true → ((ltI w (Int.ofNat 4294967296) = true → (evQ (.move (.const (AV.bool (notB (eqI (Int.ofNat s3) (Int.ofNat 0)))))) .lf H0 = .ok (AV.bool false) ∧ ((eqI s1 w = true → (fun (v : AV) (_ : Hp) => v = .bool true) (AV.bool true) e69.h) ∧ (eqI s1 w = false → (fun (v : AV) (_ : Hp) => v = .bool true) (AV.bool false) e69.h)))) ∧ (ltI w (Int.ofNat 4294967296) = false → (fun (v : AV) (_ : Hp) => v = .bool true) (AV.bool false) e69.h))) ∧ (notB (ltI w (Int.negSucc 4294967295)) = false → (fun (v : AV) (_ : Hp) => v = .bool true) (AV.bool false) e69.h))) ∧ (eqI (Int.ofNat s3) (Int.ofNat 0) = false → ((notB (ltI w (Int.negSucc 4294967295)) = true → ((ltI w (Int.ofNat 4294967296) = true → (fun (v : AV) (_ : Hp) => v = .bool true) (AV.bool false) e69.h) ∧ (ltI w (Int.ofNat 4294967296) = false → (evQ (.move (.const (AV.bool (notB (eqI (Int.ofNat s3) (Int.ofNat 0)))))) .lf H0 = .ok (AV.bool true) ∧ (fun (v : AV) (_ : Hp) => v = .bool true) (AV.bool true) e69.h)))) ∧ (notB (ltI w (Int.negSucc 4294967295)) = false → (evQ (.move (.const (AV.bool (notB (eqI (Int.ofNat s3) (Int.ofNat 0)))))) .lf H0 = .ok (AV.bool true) ∧ (fun (v : AV) (_ : Hp) => v = .bool true) (AV.bool true) e69.h)))))))))))))))))))))))))))))))))))))))))))))))))) (by kernel_rfl) ?_
  refine ⟨hbegun _, ?_⟩
  refine ⟨q_len hb, ?_⟩
  refine ⟨fun c1 => ?_, fun c1 => ?_⟩
  · have rc1 := c1
    replace c1 : 10 < l.length := ltI_t c1
    first | exact rfl | (exfalso; omega)
  · have rc1 := c1
    replace c1 : l.length ≤ 10 := ltI_f c1
    obtain ⟨ve2, he2, qe2, oe2, pe2, ne2⟩ := put_nil (hPutU (B := h.next) (l := []) (v := v) (Nat.le_refl _) Bytes.nil (by first | omega | decide) hv)
    obtain ⟨e2, rfl, rfl⟩ : ∃ e : Ev, ve2 = e.v ∧ he2 = e.h := ⟨⟨ve2, .lf, he2⟩, rfl, rfl⟩
    refine ⟨e2, qe2, ?_⟩
    have f3 := (hb.old (pe2.le (Nat.le_refl _)))
    have l4 : h.next ≤ e2.h.next := (Nat.le_trans (Nat.le_refl _) pe2.next)
    have d5 := ((Old.refl h.next h).trans (pe2.le (Nat.le_refl _)))
    obtain ⟨ve6, he6, qe6, oe6, pe6, ne6⟩ := put_nil (hPutS (B := e2.h.next) (l := []) (v := w) (Nat.le_refl _) Bytes.nil (by first | omega | decide) (by omega))
    obtain ⟨e6, rfl, rfl⟩ : ∃ e : Ev, ve6 = e.v ∧ he6 = e.h := ⟨⟨ve6, .lf, he6⟩, rfl, rfl⟩
    refine ⟨e6, qe6, ?_⟩
    have f7 := (oe2.old pe6 (Nat.le_refl _))
    have f8 := (f3.old (pe6.le l4))
    have l9 : h.next ≤ e6.h.next := (Nat.le_trans ne2 pe6.next)
    have l10 : h.next ≤ e6.h.next := (Nat.le_trans l4 pe6.next)
    have d11 := (d5.trans (pe6.le l4))
    have f12 := (f7.push (mkCells [] 0))
    have f13 := (oe6.push (mkCells [] 0))
    have f14 := (own_lit (sz := 1) (B := e6.h.next) (n := 0) (h := e6.h) (xs := []) (Nat.le_refl _) rfl)
    have f15 := (f8.old (Old.push l10 (mkCells [] 0)))
    have l16 : h.next ≤ (hpush e6.h (mkCells [] 0)).next := (Nat.le_succ_of_le l9)
    have l17 : e2.h.next ≤ (hpush e6.h (mkCells [] 0)).next := (Nat.le_succ_of_le ne6)
    have l18 : e6.h.next ≤ (hpush e6.h (mkCells [] 0)).next := (Nat.le_succ_of_le (Nat.le_refl _))
    have l19 : h.next ≤ (hpush e6.h (mkCells [] 0)).next := (Nat.le_succ_of_le l10)
    have d20 := (d11.trans (Old.push l10 (mkCells [] 0)))
    obtain ⟨e21, qe21, oe21, pe21, ne21⟩ := append_ev (sz := 1) (bytes := 1) (B := e6.h.next) (n := 0) (L := []) (m := (lebU v).length) (xs := u8s (lebU v)) call l18 f14 (fun z k => src_owned f12) (f12.len) (by omega) (by omega)
    refine ⟨e21, qe21, ?_⟩
    have f22 := (f12.keep f7.blk pe21)
    have f23 := (f13.keep oe6.blk pe21)
    have f24 := (app_text (l := []) (m := lebU v) oe21)
    have f25 := (f15.old (pe21.le l10))
    have l26 : h.next ≤ e21.h.next := (Nat.le_trans l16 pe21.next)
    have l27 : e2.h.next ≤ e21.h.next := (Nat.le_trans l17 pe21.next)
    have l28 : e6.h.next ≤ e21.h.next := (Nat.le_trans l18 pe21.next)
    have l29 : h.next ≤ e21.h.next := (Nat.le_trans l19 pe21.next)
    have d30 := (d20.trans (pe21.le l10))
    obtain ⟨e31, qe31, oe31, pe31, ne31⟩ := append_ev (sz := 1) (bytes := 1) (B := e6.h.next) (n := 0 + ((lebU v).length)) (L := u8s ([] ++ (lebU v))) (m := l.length) (xs := u8s l) call ne21 f24 (fun z k => src_bytes f25 z k) (u8s_len1 _) (by omega) (by omega)
    refine ⟨e31, qe31, ?_⟩
    have f32 := (f22.keep f7.blk pe31)
    have f33 := (f23.keep oe6.blk pe31)
    have f34 := (app_text (l := [] ++ (lebU v)) (m := l) oe31)
    have f35 := (f25.old (pe31.le l10))
    have l36 : h.next ≤ e31.h.next := (Nat.le_trans l26 pe31.next)
    have l37 : e2.h.next ≤ e31.h.next := (Nat.le_trans l27 pe31.next)
    have l38 : e6.h.next ≤ e31.h.next := (Nat.le_trans l28 pe31.next)
    have l39 : e6.h.next ≤ e31.h.next := (Nat.le_trans ne21 pe31.next)
    have l40 : h.next ≤ e31.h.next := (Nat.le_trans l29 pe31.next)
    have d41 := (d30.trans (pe31.le l10))
    refine ⟨(hU64 (Owned.bytes f34 (put_lt (put_lt nil_lt (lebU_all hv)) f25.lt) (Nat.le_refl _)) (by first | omega | (simp only [List.nil_append, List.length_append, List.length_take]; omega))).trans (by rw [hA]), ?_⟩
    have f42 := (f32.push (mkCells [] 0))
    have f43 := (f33.push (mkCells [] 0))
    have f44 := (f34.push (mkCells [] 0))
    have f45 := (own_lit (sz := 1) (B := e31.h.next) (n := 0) (h := e31.h) (xs := []) (Nat.le_refl _) rfl)
    have f46 := (f35.old (Old.push l40 (mkCells [] 0)))
    have l47 : h.next ≤ (hpush e31.h (mkCells [] 0)).next := (Nat.le_succ_of_le l36)
    have l48 : e2.h.next ≤ (hpush e31.h (mkCells [] 0)).next := (Nat.le_succ_of_le l37)
    have l49 : e6.h.next ≤ (hpush e31.h (mkCells [] 0)).next := (Nat.le_succ_of_le l38)
    have l50 : e6.h.next ≤ (hpush e31.h (mkCells [] 0)).next := (Nat.le_succ_of_le l39)
    have l51 : e6.h.next ≤ (hpush e31.h (mkCells [] 0)).next := (Nat.le_succ_of_le ne31)
    have l52 : e31.h.next ≤ (hpush e31.h (mkCells [] 0)).next := (Nat.le_succ_of_le (Nat.le_refl _))
    have l53 : h.next ≤ (hpush e31.h (mkCells [] 0)).next := (Nat.le_succ_of_le l40)
    have d54 := (d41.trans (Old.push l40 (mkCells [] 0)))
    obtain ⟨e55, qe55, oe55, pe55, ne55⟩ := append_ev (sz := 1) (bytes := 1) (B := e31.h.next) (n := 0) (L := []) (m := (lebS w).length) (xs := u8s (lebS w)) call l52 f45 (fun z k => src_owned f43) (f43.len) (by omega) (by omega)
    refine ⟨e55, qe55, ?_⟩
    have f56 := (f42.keep f32.blk pe55)
    have f57 := (f43.keep f33.blk pe55)
    have f58 := (f44.keep f34.blk pe55)
    have f59 := (app_text (l := []) (m := lebS w) oe55)
    have f60 := (f46.old (pe55.le l40))
    have l61 : h.next ≤ e55.h.next := (Nat.le_trans l47 pe55.next)
    have l62 : e2.h.next ≤ e55.h.next := (Nat.le_trans l48 pe55.next)
    have l63 : e6.h.next ≤ e55.h.next := (Nat.le_trans l49 pe55.next)
    have l64 : e6.h.next ≤ e55.h.next := (Nat.le_trans l50 pe55.next)
    have l65 : e6.h.next ≤ e55.h.next := (Nat.le_trans l51 pe55.next)
    have l66 : e31.h.next ≤ e55.h.next := (Nat.le_trans l52 pe55.next)
    have l67 : h.next ≤ e55.h.next := (Nat.le_trans l53 pe55.next)
    have d68 := (d54.trans (pe55.le l40))
    obtain ⟨e69, qe69, oe69, pe69, ne69⟩ := append_ev (sz := 1) (bytes := 1) (B := e31.h.next) (n := 0 + ((lebS w).length)) (L := u8s ([] ++ (lebS w))) (m := l.length) (xs := u8s l) call ne55 f59 (fun z k => src_bytes f60 z k) (u8s_len1 _) (by omega) (by omega)
    refine ⟨e69, qe69, ?_⟩
    have f70 := (f56.keep f32.blk pe69)
    have f71 := (f57.keep f33.blk pe69)
    have f72 := (f58.keep f34.blk pe69)
    have f73 := (app_text (l := [] ++ (lebS w)) (m := l) oe69)
    have f74 := (f60.old (pe69.le l40))
    have l75 : h.next ≤ e69.h.next := (Nat.le_trans l61 pe69.next)
    have l76 : e2.h.next ≤ e69.h.next := (Nat.le_trans l62 pe69.next)
    have l77 : e6.h.next ≤ e69.h.next := (Nat.le_trans l63 pe69.next)
    have l78 : e6.h.next ≤ e69.h.next := (Nat.le_trans l64 pe69.next)
    have l79 : e6.h.next ≤ e69.h.next := (Nat.le_trans l65 pe69.next)
    have l80 : e31.h.next ≤ e69.h.next := (Nat.le_trans l66 pe69.next)
    have l81 : e31.h.next ≤ e69.h.next := (Nat.le_trans ne55 pe69.next)
    have l82 : h.next ≤ e69.h.next := (Nat.le_trans l67 pe69.next)
    have d83 := (d68.trans (pe69.le l40))
    refine ⟨(hS64 (Owned.bytes f73 (put_lt (put_lt nil_lt (lebS_all (by omega))) f60.lt) (Nat.le_refl _)) (by first | omega | (simp only [List.nil_append, List.length_append, List.length_take]; omega))).trans (by rw [hB, sInt_back hw]), ?_⟩
    refine ⟨q_lenO f70, ?_⟩
    refine ⟨hplace c ((lebU v).length) _ hc (by omega) (by omega), ?_⟩
    have hp83 := placeN_lt (c := c) (n := (lebU v).length) (by omega)
    refine ⟨q_sliceTo (l := lebU v) (Owned.bytes f70 (lebU_all hv) (Nat.le_refl _)) (by omega), ?_⟩
    have b84 := (part_to (l := lebU v) (hi := placeN c ((lebU v).length)) (Owned.bytes f70 (lebU_all hv) (Nat.le_refl _)) (by omega))
    refine ⟨(hU64 (part_to (l := lebU v) (hi := placeN c ((lebU v).length)) (Owned.bytes f70 (lebU_all hv) (Nat.le_refl _)) (by omega)) (by first | omega | (simp only [List.nil_append, List.length_append, List.length_take]; omega))).trans (by rw [hC]), ?_⟩
    refine ⟨q_lenO f71, ?_⟩
    refine ⟨hplace c ((lebS w).length) _ hc (by omega) (by omega), ?_⟩
    have hp84 := placeN_lt (c := c) (n := (lebS w).length) (by omega)
    refine ⟨q_sliceTo (l := lebS w) (Owned.bytes f71 (lebS_all (by omega)) (Nat.le_refl _)) (by omega), ?_⟩
    have b85 := (part_to (l := lebS w) (hi := placeN c ((lebS w).length)) (Owned.bytes f71 (lebS_all (by omega)) (Nat.le_refl _)) (by omega))
    refine ⟨(hS64 (part_to (l := lebS w) (hi := placeN c ((lebS w).length)) (Owned.bytes f71 (lebS_all (by omega)) (Nat.le_refl _)) (by omega)) (by first | omega | (simp only [List.nil_append, List.length_append, List.length_take]; omega))).trans (by rw [hD]; rfl), ?_⟩
    refine ⟨(hU32 (Owned.bytes f70 (lebU_all hv) (Nat.le_refl _)) (by first | omega | (simp only [List.nil_append, List.length_append, List.length_take]; omega))).trans (by dsimp only; rw [ea1, ea2, ea3]), ?_⟩
    refine ⟨(hS32 (Owned.bytes f71 (lebS_all (by omega)) (Nat.le_refl _)) (by first | omega | (simp only [List.nil_append, List.length_append, List.length_take]; omega))).trans (by rw [eb1, eb2, eb3]), ?_⟩
    refine ⟨(hS33 (Owned.bytes f71 (lebS_all (by omega)) (Nat.le_refl _)) (by first | omega | (simp only [List.nil_append, List.length_append, List.length_take]; omega))).trans (by rw [es1, es2, es3]), ?_⟩
    refine ⟨fun c86 => ?_, fun c86 => ?_⟩
    · have rc86 := c86
      replace c86 : v ≠ v := eqI_f (notB_t c86)
      first | exact rfl | (exfalso; omega)
    · have rc86 := c86
      replace c86 : v = v := eqI_t (notB_f c86)
      refine ⟨q_lenO f70, ?_⟩
      refine ⟨fun c87 => ?_, fun c87 => ?_⟩
      · have rc87 := c87
        replace c87 : (lebU v).length ≠ (lebU v).length := eqI_f (notB_t c87)
        first | exact rfl | (exfalso; omega)
      · have rc87 := c87
        replace c87 : (lebU v).length = (lebU v).length := eqI_t (notB_f c87)
        refine ⟨fun c88 => ?_, fun c88 => ?_⟩
        · have rc88 := c88
          replace c88 : w ≠ w := eqI_F (notB_t c88)
          first | exact rfl | (exfalso; omega)
        · have rc88 := c88
          replace c88 : w = w := eqI_T (notB_f c88)
          refine ⟨q_lenO f71, ?_⟩
          refine ⟨fun c89 => ?_, fun c89 => ?_⟩
          · have rc89 := c89
            replace c89 : (lebS w).length ≠ (lebS w).length := eqI_f (notB_t c89)
            first | exact rfl | (exfalso; omega)
          · have rc89 := c89
            replace c89 : (lebS w).length = (lebS w).length := eqI_t (notB_f c89)
            refine ⟨fun c90 => ?_, fun c90 => ?_⟩
            · have rc90 := c90
              replace c90 : a3 = 0 := eqI_t c90
              refine ⟨fun c91 => ?_, fun c91 => ?_⟩
              · have rc91 := c91
                replace c91 : v < 4294967296 := ltI_t c91
                refine ⟨congrArg (fun z => OV.ok (AV.bool z)) (rc90), ?_⟩
                refine ⟨u_conv' rfl (Nat.lt_of_lt_of_le ha1 (by decide)), ?_⟩
                have g92 : a1 < 18446744073709551616 := Nat.lt_of_lt_of_le ha1 (by decide)
                refine ⟨fun c93 => ?_, fun c93 => ?_⟩
                · have rc93 := c93
                  replace c93 : a1 ≠ v := eqI_f (notB_t c93)
                  first | exact rfl | (exfalso; omega)
                · have rc93 := c93
                  replace c93 : a1 = v := eqI_t (notB_f c93)
                  refine ⟨fun c94 => ?_, fun c94 => ?_⟩
                  · have rc94 := c94
                    replace c94 : b3 = 0 := eqI_t c94
                    refine ⟨s_conv64 (by omega), ?_⟩
                    refine ⟨fun c95 => ?_, fun c95 => ?_⟩
                    · have rc95 := c95
                      replace c95 : w = wrapA .i32 w := eqI_T c95
                      refine ⟨congrArg (fun z => OV.ok (AV.bool z)) (rc94), ?_⟩
                      refine ⟨s_conv64 (by omega), ?_⟩
                      refine ⟨fun c96 => ?_, fun c96 => ?_⟩
                      · have rc96 := c96
                        replace c96 : b1 ≠ w := eqI_F (notB_t c96)
                        first | exact rfl | (exfalso; omega)
                      · have rc96 := c96
                        replace c96 : b1 = w := eqI_T (notB_f c96)
                        refine ⟨fun c97 => ?_, fun c97 => ?_⟩
                        · have rc97 := c97
                          replace c97 : s3 = 0 := eqI_t c97
                          refine ⟨fun c98 => ?_, fun c98 => ?_⟩
                          · have rc98 := c98
                            replace c98 : -4294967296 ≤ w := ltI_F (notB_t c98)
                            refine ⟨fun c99 => ?_, fun c99 => ?_⟩
                            · have rc99 := c99
                              replace c99 : w < 4294967296 := ltI_T c99
                              refine ⟨congrArg (fun z => OV.ok (AV.bool (notB z))) (rc97), ?_⟩
                              refine ⟨fun c100 => ?_, fun c100 => ?_⟩
                              · have rc100 := c100
                                replace c100 : s1 = w := eqI_T c100
                                first | exact rfl | (exfalso; omega)
                              · have rc100 := c100
                                replace c100 : s1 ≠ w := eqI_F c100
                                first | exact rfl | (exfalso; omega)
                            · have rc99 := c99
                              replace c99 : 4294967296 ≤ w := ltI_F c99
                              first | exact rfl | (exfalso; omega)
                          · have rc98 := c98
                            replace c98 : w < -4294967296 := ltI_T (notB_f c98)
                            first | exact rfl | (exfalso; omega)
                        · have rc97 := c97
                          replace c97 : s3 ≠ 0 := eqI_f c97
                          refine ⟨fun c98 => ?_, fun c98 => ?_⟩
                          · have rc98 := c98
                            replace c98 : -4294967296 ≤ w := ltI_F (notB_t c98)
                            refine ⟨fun c99 => ?_, fun c99 => ?_⟩
                            · have rc99 := c99
                              replace c99 : w < 4294967296 := ltI_T c99
                              first | exact rfl | (exfalso; omega)
                            · have rc99 := c99
                              replace c99 : 4294967296 ≤ w := ltI_F c99
                              refine ⟨congrArg (fun z => OV.ok (AV.bool (notB z))) (rc97), ?_⟩
                              first | exact rfl | (exfalso; omega)
                          · have rc98 := c98
                            replace c98 : w < -4294967296 := ltI_T (notB_f c98)
                            refine ⟨congrArg (fun z => OV.ok (AV.bool (notB z))) (rc97), ?_⟩
                            first | exact rfl | (exfalso; omega)
                    · have rc95 := c95
                      replace c95 : w ≠ wrapA .i32 w := eqI_F c95
                      first | exact rfl | (exfalso; omega)
                  · have rc94 := c94
                    replace c94 : b3 ≠ 0 := eqI_f c94
                    refine ⟨s_conv64 (by omega), ?_⟩
                    refine ⟨fun c95 => ?_, fun c95 => ?_⟩
                    · have rc95 := c95
                      replace c95 : w = wrapA .i32 w := eqI_T c95
                      first | exact rfl | (exfalso; omega)
                    · have rc95 := c95
                      replace c95 : w ≠ wrapA .i32 w := eqI_F c95
                      refine ⟨congrArg (fun z => OV.ok (AV.bool z)) (rc94), ?_⟩
                      refine ⟨fun c96 => ?_, fun c96 => ?_⟩
                      · have rc96 := c96
                        replace c96 : s3 = 0 := eqI_t c96
                        refine ⟨fun c97 => ?_, fun c97 => ?_⟩
                        · have rc97 := c97
                          replace c97 : -4294967296 ≤ w := ltI_F (notB_t c97)
                          refine ⟨fun c98 => ?_, fun c98 => ?_⟩
                          · have rc98 := c98
                            replace c98 : w < 4294967296 := ltI_T c98
                            refine ⟨congrArg (fun z => OV.ok (AV.bool (notB z))) (rc96), ?_⟩
                            refine ⟨fun c99 => ?_, fun c99 => ?_⟩
                            · have rc99 := c99
                              replace c99 : s1 = w := eqI_T c99
                              first | exact rfl | (exfalso; omega)
                            · have rc99 := c99
                              replace c99 : s1 ≠ w := eqI_F c99
                              first | exact rfl | (exfalso; omega)
                          · have rc98 := c98
                            replace c98 : 4294967296 ≤ w := ltI_F c98
                            first | exact rfl | (exfalso; omega)
                        · have rc97 := c97
                          replace c97 : w < -4294967296 := ltI_T (notB_f c97)
                          first | exact rfl | (exfalso; omega)
                      · have rc96 := c96
                        replace c96 : s3 ≠ 0 := eqI_f c96
                        refine ⟨fun c97 => ?_, fun c97 => ?_⟩
                        · have rc97 := c97
                          replace c97 : -4294967296 ≤ w := ltI_F (notB_t c97)
                          refine ⟨fun c98 => ?_, fun c98 => ?_⟩
                          · have rc98 := c98
                            replace c98 : w < 4294967296 := ltI_T c98
                            first | exact rfl | (exfalso; omega)
                          · have rc98 := c98
                            replace c98 : 4294967296 ≤ w := ltI_F c98
                            refine ⟨congrArg (fun z => OV.ok (AV.bool (notB z))) (rc96), ?_⟩
                            first | exact rfl | (exfalso; omega)
                        · have rc97 := c97
                          replace c97 : w < -4294967296 := ltI_T (notB_f c97)
                          refine ⟨congrArg (fun z => OV.ok (AV.bool (notB z))) (rc96), ?_⟩
                          first | exact rfl | (exfalso; omega)
              · have rc91 := c91
                replace c91 : 4294967296 ≤ v := ltI_f c91
                first | exact rfl | (exfalso; omega)
            · have rc90 := c90
              replace c90 : a3 ≠ 0 := eqI_f c90
              refine ⟨fun c91 => ?_, fun c91 => ?_⟩
              · have rc91 := c91
                replace c91 : v < 4294967296 := ltI_t c91
                first | exact rfl | (exfalso; omega)
              · have rc91 := c91
                replace c91 : 4294967296 ≤ v := ltI_f c91
                refine ⟨congrArg (fun z => OV.ok (AV.bool z)) (rc90), ?_⟩
                refine ⟨fun c92 => ?_, fun c92 => ?_⟩
                · have rc92 := c92
                  replace c92 : b3 = 0 := eqI_t c92
                  refine ⟨s_conv64 (by omega), ?_⟩
                  refine ⟨fun c93 => ?_, fun c93 => ?_⟩
                  · have rc93 := c93
                    replace c93 : w = wrapA .i32 w := eqI_T c93
                    refine ⟨congrArg (fun z => OV.ok (AV.bool z)) (rc92), ?_⟩
                    refine ⟨s_conv64 (by omega), ?_⟩
                    refine ⟨fun c94 => ?_, fun c94 => ?_⟩
                    · have rc94 := c94
                      replace c94 : b1 ≠ w := eqI_F (notB_t c94)
                      first | exact rfl | (exfalso; omega)
                    · have rc94 := c94
                      replace c94 : b1 = w := eqI_T (notB_f c94)
                      refine ⟨fun c95 => ?_, fun c95 => ?_⟩
                      · have rc95 := c95
                        replace c95 : s3 = 0 := eqI_t c95
                        refine ⟨fun c96 => ?_, fun c96 => ?_⟩
                        · have rc96 := c96
                          replace c96 : -4294967296 ≤ w := ltI_F (notB_t c96)
                          refine ⟨fun c97 => ?_, fun c97 => ?_⟩
                          · have rc97 := c97
                            replace c97 : w < 4294967296 := ltI_T c97
                            refine ⟨congrArg (fun z => OV.ok (AV.bool (notB z))) (rc95), ?_⟩
                            refine ⟨fun c98 => ?_, fun c98 => ?_⟩
                            · have rc98 := c98
                              replace c98 : s1 = w := eqI_T c98
                              first | exact rfl | (exfalso; omega)
                            · have rc98 := c98
                              replace c98 : s1 ≠ w := eqI_F c98
                              first | exact rfl | (exfalso; omega)
                          · have rc97 := c97
                            replace c97 : 4294967296 ≤ w := ltI_F c97
                            first | exact rfl | (exfalso; omega)
                        · have rc96 := c96
                          replace c96 : w < -4294967296 := ltI_T (notB_f c96)
                          first | exact rfl | (exfalso; omega)
                      · have rc95 := c95
                        replace c95 : s3 ≠ 0 := eqI_f c95
                        refine ⟨fun c96 => ?_, fun c96 => ?_⟩
                        · have rc96 := c96
                          replace c96 : -4294967296 ≤ w := ltI_F (notB_t c96)
                          refine ⟨fun c97 => ?_, fun c97 => ?_⟩
                          · have rc97 := c97
                            replace c97 : w < 4294967296 := ltI_T c97
                            first | exact rfl | (exfalso; omega)
                          · have rc97 := c97
                            replace c97 : 4294967296 ≤ w := ltI_F c97
                            refine ⟨congrArg (fun z => OV.ok (AV.bool (notB z))) (rc95), ?_⟩
                            first | exact rfl | (exfalso; omega)
                        · have rc96 := c96
                          replace c96 : w < -4294967296 := ltI_T (notB_f c96)
                          refine ⟨congrArg (fun z => OV.ok (AV.bool (notB z))) (rc95), ?_⟩
                          first | exact rfl | (exfalso; omega)
                  · have rc93 := c93
                    replace c93 : w ≠ wrapA .i32 w := eqI_F c93
                    first | exact rfl | (exfalso; omega)
                · have rc92 := c92
                  replace c92 : b3 ≠ 0 := eqI_f c92
                  refine ⟨s_conv64 (by omega), ?_⟩
                  refine ⟨fun c93 => ?_, fun c93 => ?_⟩
                  · have rc93 := c93
                    replace c93 : w = wrapA .i32 w := eqI_T c93
                    first | exact rfl | (exfalso; omega)
                  · have rc93 := c93
                    replace c93 : w ≠ wrapA .i32 w := eqI_F c93
                    refine ⟨congrArg (fun z => OV.ok (AV.bool z)) (rc92), ?_⟩
                    refine ⟨fun c94 => ?_, fun c94 => ?_⟩
                    · have rc94 := c94
                      replace c94 : s3 = 0 := eqI_t c94
                      refine ⟨fun c95 => ?_, fun c95 => ?_⟩
                      · have rc95 := c95
                        replace c95 : -4294967296 ≤ w := ltI_F (notB_t c95)
                        refine ⟨fun c96 => ?_, fun c96 => ?_⟩
                        · have rc96 := c96
                          replace c96 : w < 4294967296 := ltI_T c96
                          refine ⟨congrArg (fun z => OV.ok (AV.bool (notB z))) (rc94), ?_⟩
                          refine ⟨fun c97 => ?_, fun c97 => ?_⟩
                          · have rc97 := c97
                            replace c97 : s1 = w := eqI_T c97
                            first | exact rfl | (exfalso; omega)
                          · have rc97 := c97
                            replace c97 : s1 ≠ w := eqI_F c97
                            first | exact rfl | (exfalso; omega)
                        · have rc96 := c96
                          replace c96 : 4294967296 ≤ w := ltI_F c96
                          first | exact rfl | (exfalso; omega)
                      · have rc95 := c95
                        replace c95 : w < -4294967296 := ltI_T (notB_f c95)
                        first | exact rfl | (exfalso; omega)
                    · have rc94 := c94
                      replace c94 : s3 ≠ 0 := eqI_f c94
                      refine ⟨fun c95 => ?_, fun c95 => ?_⟩
                      · have rc95 := c95
                        replace c95 : -4294967296 ≤ w := ltI_F (notB_t c95)
                        refine ⟨fun c96 => ?_, fun c96 => ?_⟩
                        · have rc96 := c96
                          replace c96 : w < 4294967296 := ltI_T c96
                          first | exact rfl | (exfalso; omega)
                        · have rc96 := c96
                          replace c96 : 4294967296 ≤ w := ltI_F c96
                          refine ⟨congrArg (fun z => OV.ok (AV.bool (notB z))) (rc94), ?_⟩
                          first | exact rfl | (exfalso; omega)
                      · have rc95 := c95
                        replace c95 : w < -4294967296 := ltI_T (notB_f c95)
                        refine ⟨congrArg (fun z => OV.ok (AV.bool (notB z))) (rc94), ?_⟩
                        first | exact rfl | (exfalso; omega)
theorem walk (x0 : Nat) (x1 : Int) (a2 : BArg) (x3 : Int) (W : World) (f0 : x0 < 18446744073709551616) (f1 : -9223372036854775808 ≤ x1 ∧ x1 < 9223372036854775808) (l2 : a2.lies W) (f3 : -9223372036854775808 ≤ x3 ∧ x3 < 9223372036854775808) :
    Calls Try.prog 7 #[.int .u64 (.ofNat x0), .int .i64 x1, a2.v, .int .i64 x3] W fun e W' => e = .returned (.bool true) ∧ Below W.heap.size W W' := by
  obtain ⟨μ, h, vs, hs, hm, hn, hvs, _⟩ := start_bytes (w := W) [a2] (by simp only [List.mem_cons, List.not_mem_nil, or_false]; rintro a (rfl) <;> assumption)
  obtain ⟨vb2, rfl⟩ : ∃ vb2, vs = [vb2] := by
    match vs, hn with
    | [vb2], _ => exact ⟨vb2, rfl⟩
  obtain ⟨r2, b2⟩ := hvs 0 vb2 a2 rfl rfl
  obtain ⟨rv, rh, e, hr⟩ := law_walk (call := CC 10) (N := 100000) (h := h) f0 f1 b2 f3 (evF_sum (by decide)) (s_putU 7) (s_putS 7) (s_place 9) (s_U64 7) (s_S64 7) (s_U32 7) (s_S32 7) (s_S33 7)
  have hr : rv = .bool true := hr
  subst hr
  refine start_law compDrawn_ok (sumT_ok trues) (N := 100000) (d := 11) hs hm (args := [.int .u64 (.ofNat x0), .int .i64 x1, vb2, .int .i64 x3]) ?_ (by rw [evF_at (sumT_none rfl)]; exact e)
  rw [VRs_cons]; refine ⟨_, _, rfl, (by rw [VR_int]), ?_⟩
  rw [VRs_cons]; refine ⟨_, _, rfl, (by rw [VR_int]), ?_⟩
  rw [VRs_cons]; refine ⟨_, _, rfl, r2, ?_⟩
  rw [VRs_cons]; exact ⟨_, _, rfl, (by rw [VR_int]), by rw [VRs_nil]⟩
theorem own : ownKnob Try.prog.godebug = none := by kernel_rfl
theorem laidOut : laidOutB Try.prog = true := by kernel_rfl
set_option maxRecDepth 100000 in
set_option maxHeartbeats 1000000 in
theorem lifted (os : Os) (started : os.Started) (H : Type) (enc : TypeId × Value → H) :
    ReturnsInHanded {} Try.checked os 7 .any (Rows.lebBackSpec.pre6 enc Try.prog Try.f7 Rows.lebBackRow.domain false) (Rows.lebBackSpec.post enc Try.prog Try.f7 false true false false) := by
  refine returnsInHanded_of_change_sized (C := Try.checked) own started (by kernel_rfl) Try.func7
    (ChangeSpec.witness6 (enc := enc) (C := Try.checked) false ⟨#[], #[.int .u64 0, .int .i64 0, .slice none 0 0, .int .i64 0], []⟩ 8 (by kernel_rfl) (by kernel_rfl) (by kernel_rfl) (by kernel_rfl)) ?_
  intro W base args ds gs before hval0 hW hcnd hsz0 _
  have hval : ∀ (j : Nat) t v, Try.f7.params[j]? = some t → args[j]? = some v → Value.okWide Try.prog W .any base t v := hval0
  have hW' := hW
  obtain ⟨p, q, hA0, hV, rfl, hfz, hnd⟩ := hW
  have hA : DataW.TrodAll enc Try.prog W 0 (fun _ => true) true Try.f7.params.toList args.toList ds p := hA0
  rw [Try.params7] at hA hval
  obtain ⟨rfl, rfl⟩ := trodVars_none hV
  simp only [List.append_nil] at hW'
  obtain ⟨v0, vs0, d0, ds0, p0, q0, hargs, rfl, rfl, h0, r0⟩ := trodAll_cons hA
  obtain ⟨v1, vs1, d1, ds1, p1, q1, rfl, rfl, rfl, h1, r1⟩ := trodAll_cons r0
  obtain ⟨v2, vs2, d2, ds2, p2, q2, rfl, rfl, rfl, h2, r2⟩ := trodAll_cons r1
  obtain ⟨v3, vs3, d3, ds3, p3, q3, rfl, rfl, rfl, h3, r3⟩ := trodAll_cons r2
  obtain ⟨rfl, rfl, rfl⟩ := trodAll_nil r3
  obtain rfl : args = #[v0, v1, v2, v3] := by cases args; simp_all
  have hlt : ∀ x ∈ p0 ++ p1 ++ p2 ++ p3, x.block < W.heap.size := fun x hx => by simpa using hW'.lt x (by simpa using hx)
  obtain ⟨y0, rfl, rfl, rfl, w0⟩ := open_int Try.underlying23 (hval 0 23 v0 rfl rfl) h0
  obtain ⟨x0, rfl, f0⟩ := u64_wf w0
  obtain ⟨y1, rfl, rfl, rfl, w1⟩ := open_int Try.underlying2 (hval 1 2 v1 rfl rfl) h1
  obtain ⟨a2, rfl, l2, _⟩ := bytes_arg Try.underlying22 Try.underlying5 (by kernel_rfl) h2 (hval 2 22 _ rfl rfl)
  obtain ⟨y3, rfl, rfl, rfl, w3⟩ := open_int Try.underlying3 (hval 3 3 v3 rfl rfl) h3
  refine (walk x0 y1 a2 y3 W f0 (i64_wf w1) l2 (i64_wf w3)).mono fun e W' ⟨he, bel⟩ => ?_
  subst he
  have t2 := Below.trod laidOut (by kernel_rfl) (of_decide_eq_true (by kernel_rfl)) h2 bel (fun x hx => hlt x (by simp [hx]))
  exact ⟨_, rfl, _, _, _, [], _, [], hW', trodAll_mk1 (shut_bool Try.underlying4 _), (trodAll_cons_mk (shut_int Try.underlying23 w0) (trodAll_cons_mk (shut_int Try.underlying2 w1) (trodAll_cons_mk t2 (trodAll_cons_mk (shut_int Try.underlying3 w3) trodAll_mk0)))), rfl, bel.frame _, fun h => by cases h⟩
theorem over : Rows.lebBackRow.holds Try.pinned (OpenSpec.ofChange Rows.lebBackSpec) :=
  OpenClaim.holds_of_wide 7 Try.f7 rfl rfl rfl rfl rfl rfl rfl ⟨rfl, rfl, rfl, rfl, rfl⟩ rfl rfl rfl rfl rfl (by kernel_rfl) Try.func7 (by kernel_rfl)
    (of_decide_eq_true (by kernel_rfl)) (by unfold Func.isWrapper; first | (rw [if_pos (by decide +kernel)]; kernel_rfl) | (rw [if_neg (by decide +kernel)]; exact ⟨rfl, rfl⟩))
    (fun os started H enc _ => lifted os started H enc)
theorem proved : Rows.LebBackSaid := over
end Go.Proofs.Ytejiebbbodealaa.lebBack
