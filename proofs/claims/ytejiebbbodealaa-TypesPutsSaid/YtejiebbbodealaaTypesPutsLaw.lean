/- Proved: for all functions' types t and u, limits l and bytes b, the call of cloakroomlaw4.TypesPuts returns true and leaves its arguments alone. Condition: none. -/
import Derived.Test.YtejiebbbodealaaB4
import Derived.Test.YtejiebbbodealaaRows
import Derived.WalkKit
import Derived.ProofKit
import Derived.OpenShut
import Derived.ShutString
import Derived.ChangeOld
import Derived.Below
import Derived.SizedLaws
import Derived.Carry
import Derived.ChangeSlices
namespace Go.Proofs.Ytejiebbbodealaa.typesPuts
open Go.ChangeShapes Go.WideShapes Go.ChangeAt Go.RowKit
open Go.ChangeMaps (open_string shut_string)
open Eng
set_option linter.unusedVariables false
set_option linter.unusedSimpArgs false

theorem putFL_lt {l l1 l2 : List Nat} (h : ∀ x ∈ l, x < 256) (h1 : ∀ x ∈ l1, x < 256) (h2 : ∀ x ∈ l2, x < 256) (k1 : l1.length < 1000) (k2 : l2.length < 1000) : ∀ x ∈ putFL l l1 l2, x < 256 :=
  put_lt (put_lt (put_lt (put_lt (put_lt h (one_lt (by decide))) (lebU_all (by omega))) h1) (lebU_all (by omega))) h2
theorem putLL_lt {l : List Nat} {a c : Nat} {has : Bool} (h : ∀ x ∈ l, x < 256) (ha : a < 4294967296) (hc : c < 4294967296) : ∀ x ∈ putLL l a c has, x < 256 := by
  cases has with
  | true => exact put_lt (put_lt (put_lt h (one_lt (by decide))) (lebU_all (by omega))) (lebU_all (by omega))
  | false => exact put_lt (put_lt h (one_lt (by decide))) (lebU_all (by omega))
set_option maxHeartbeats 1600000 in
theorem law_walk {call : CallT} {N : Nat} {h : Hp} {vb p q p' q' : AV} {l l1 l2 m1 m2 : List Nat} {a c : Nat} {has : Bool} (hb : Bytes h.next h vb l) (hb1 : Bytes h.next h p l1) (hb2 : Bytes h.next h q l2) (hb3 : Bytes h.next h p' m1) (hb4 : Bytes h.next h q' m2) (ha : a < 4294967296) (hc : c < 4294967296) (z0 : l.length ≤ 140737488351232) (z1 : l1.length ≤ 140737488351232) (z2 : l2.length ≤ 140737488351232) (z3 : m1.length ≤ 140737488351232) (z4 : m2.length ≤ 140737488351232) (hbegun : TrueS call 40) (hpf : PutFS call 50) (hrpf : PutFS call 51) (hpl : PutLS call 52) (hrpl : PutLS call 53) (hsame : SameS call 54) (hrsame : SameS call 49)
    : ∃ rv rh, evF1 (progS Try.prog (compDrawn Try.prog)) N call 12 [(AV.agg [p, q]), (AV.agg [p', q']), (AV.agg [(AV.int .u32 (Int.ofNat a)), (AV.int .u32 (Int.ofNat c)), (AV.bool has)]), vb] h = .ok rv rh ∧ (fun (v : AV) (_ : Hp) => v = .bool true) rv rh := by
  have S0 := Sep.start h
  have P := BIn.of hb
  have P1 := BIn.of hb1
  have P2 := BIn.of hb2
  have P3 := BIn.of hb3
  have P4 := BIn.of hb4
  refine fwalk_ok (K := fun (v : AV) (_ : Hp) => v = .bool true) (o := (.ell 0 .ptr (mkCells [p, q] 2) (.ell 0 .ptr (mkCells [p', q'] 2) (.eff 2 (AV.bool true) (hpush (hpush (hpush h (mkCells [p, q] 2)) (mkCells [p', q'] 2)) (mkCells [(AV.int .u32 (Int.ofNat a)), (AV.int .u32 (Int.ofNat c)), (AV.bool has)] 3)) (.tell 2 p (.tell 0 (AV.int .i64 (Int.ofNat l1.length)) (.tell 1 q (.tell 0 (AV.int .i64 (Int.ofNat l2.length)) (.tell 0 (AV.int .i64 (Int.ofNat (l1.length + l2.length))) (.tell 1 p' (.tell 0 (AV.int .i64 (Int.ofNat m1.length)) (.tell 0 (AV.int .i64 (Int.ofNat ((l1.length + l2.length) + m1.length))) (.tell 1 q' (.tell 0 (AV.int .i64 (Int.ofNat m2.length)) (.tell 0 (AV.int .i64 (Int.ofNat (((l1.length + l2.length) + m1.length) + m2.length))) (.fork 1 .fin (.tell 1 (AV.int .i64 (Int.ofNat l.length)) (.fork 1 .fin (.tell 1 (AV.agg [p, q]) (.tell 1 (AV.agg [p, q]) (.again 0 (.effx 0 (fun e7 => e7.v) (fun e7 => (.tell 0 (AV.str (putFL l l1 l2)) (.again 0 (.effx 0 (fun e10 => e10.v) (fun e10 => (.tell 0 (AV.str (putFL l l1 l2)) (.tell 0 (AV.bool true) (.tell 2 (AV.agg [(AV.int .u32 (Int.ofNat a)), (AV.int .u32 (Int.ofNat c)), (AV.bool has)]) (.tell 1 (AV.agg [(AV.int .u32 (Int.ofNat a)), (AV.int .u32 (Int.ofNat c)), (AV.bool has)]) (.again 0 (.effx 0 (fun e13 => e13.v) (fun e13 => (.tell 0 (AV.str (putLL l a c has)) (.again 0 (.effx 0 (fun e16 => e16.v) (fun e16 => (.tell 0 (AV.str (putLL l a c has)) (.tell 0 (AV.bool true) (.tell 2 (AV.agg [p, q]) (.tell 0 (AV.agg [p', q']) (.tell 0 (AV.agg [p, q]) (.tell 0 (AV.agg [p', q']) (.again 0 (.effx 0 (fun e18 => (AV.bool (decide (l1 = m1 ∧ l2 = m2)))) (fun e18 => (.again 0 (.effx 0 (fun e20 => (AV.bool (decide (l1 = m1 ∧ l2 = m2)))) (fun e20 => (.tell 0 (AV.bool true) (.again 2 .fin)))))))))))))))))))))))))))))))))))))))))))))))))))) (p := (evL (.box (.const (AV.agg [p, q]))) .lf = .ok .ptr (mkCells [p, q] 2) ∧ (evL (.box (.const (AV.agg [p', q']))) .lf = .ok .ptr (mkCells [p', q'] 2) ∧ (call 40 [] (hpush (hpush (hpush h (mkCells [p, q] 2)) (mkCells [p', q'] 2)) (mkCells [(AV.int .u32 (Int.ofNat a)), (AV.int .u32 (Int.ofNat c)), (AV.bool has)] 3)) = .ok (AV.bool true) (hpush (hpush (hpush h (mkCells [p, q] 2)) (mkCells [p', q'] 2)) (mkCells [(AV.int .u32 (Int.ofNat a)), (AV.int .u32 (Int.ofNat c)), (AV.bool has)] 3)) ∧ (evQ (.loadS (.const (AV.ptr (Hp.next h) 0))) .lf (hpush (hpush (hpush h (mkCells [p, q] 2)) (mkCells [p', q'] 2)) (mkCells [(AV.int .u32 (Int.ofNat a)), (AV.int .u32 (Int.ofNat c)), (AV.bool has)] 3)) = .ok p ∧ (evQ (.lenL (.const p)) .lf H0 = .ok (AV.int .i64 (Int.ofNat l1.length)) ∧ (evQ (.loadS (.const (AV.ptr (Hp.next h) 1))) .lf (hpush (hpush (hpush h (mkCells [p, q] 2)) (mkCells [p', q'] 2)) (mkCells [(AV.int .u32 (Int.ofNat a)), (AV.int .u32 (Int.ofNat c)), (AV.bool has)] 3)) = .ok q ∧ (evQ (.lenL (.const q)) .lf H0 = .ok (AV.int .i64 (Int.ofNat l2.length)) ∧ (evQ (.bin .add (.const (AV.int .i64 (Int.ofNat l1.length))) (.const (AV.int .i64 (Int.ofNat l2.length)))) .lf H0 = .ok (AV.int .i64 (Int.ofNat (l1.length + l2.length))) ∧ (evQ (.loadS (.const (AV.ptr (Hp.next (hpush h (mkCells [p, q] 2))) 0))) .lf (hpush (hpush (hpush h (mkCells [p, q] 2)) (mkCells [p', q'] 2)) (mkCells [(AV.int .u32 (Int.ofNat a)), (AV.int .u32 (Int.ofNat c)), (AV.bool has)] 3)) = .ok p' ∧ (evQ (.lenL (.const p')) .lf H0 = .ok (AV.int .i64 (Int.ofNat m1.length)) ∧ (evQ (.bin .add (.const (AV.int .i64 (Int.ofNat (l1.length + l2.length)))) (.const (AV.int .i64 (Int.ofNat m1.length)))) .lf H0 = .ok (AV.int .i64 (Int.ofNat ((l1.length + l2.length) + m1.length))) ∧ (evQ (.loadS (.const (AV.ptr (Hp.next (hpush h (mkCells [p, q] 2))) 1))) .lf (hpush (hpush (hpush h (mkCells [p, q] 2)) (mkCells [p', q'] 2)) (mkCells [(AV.int .u32 (Int.ofNat a)), (AV.int .u32 (Int.ofNat c)), (AV.bool has)] 3)) = .ok q' ∧ (evQ (.lenL (.const q')) .lf H0 = .ok (AV.int .i64 (Int.ofNat m2.length)) ∧ (evQ (.bin .add (.const (AV.int .i64 (Int.ofNat ((l1.length + l2.length) + m1.length)))) (.const (AV.int .i64 (Int.ofNat m2.length)))) .lf H0 = .ok (AV.int .i64 (Int.ofNat (((l1.length + l2.length) + m1.length) + m2.length))) ∧ ((ltI (Int.ofNat 40) (Int.ofNat (((l1.length + l2.length) + m1.length) + m2.length)) = true → (fun (v : AV) (_ : Hp) => v = .bool true) (AV.bool true) (hpush (hpush (hpush h (mkCells [p, q] 2)) (mkCells [p', q'] 2)) (mkCells [(AV.int .u32 (Int.ofNat a)), (AV.int .u32 (Int.ofNat c)), (AV.bool has)] 3))) ∧ (ltI (Int.ofNat 40) (Int.ofNat (((l1.length + l2.length) + m1.length) + m2.length)) = false → (evQ (.lenL (.const vb)) .lf H0 = .ok (AV.int .i64 (Int.ofNat l.length)) ∧ ((ltI (Int.ofNat 20) (Int.ofNat l.length) = true → (fun (v : AV) (_ : Hp) => v = .bool true) (AV.bool true) (hpush (hpush (hpush h (mkCells [p, q] 2)) (mkCells [p', q'] 2)) (mkCells [(AV.int .u32 (Int.ofNat a)), (AV.int .u32 (Int.ofNat c)), (AV.bool has)] 3))) ∧ (ltI (Int.ofNat 20) (Int.ofNat l.length) = false → (evQ (.loadA 2 (.const (AV.ptr (Hp.next h) 0))) .lf (hpush (hpush (hpush h (mkCells [p, q] 2)) (mkCells [p', q'] 2)) (mkCells [(AV.int .u32 (Int.ofNat a)), (AV.int .u32 (Int.ofNat c)), (AV.bool has)] 3)) = .ok (AV.agg [p, q]) ∧ (evQ (.loadA 2 (.const (AV.ptr (Hp.next h) 0))) .lf (hpush (hpush (hpush h (mkCells [p, q] 2)) (mkCells [p', q'] 2)) (mkCells [(AV.int .u32 (Int.ofNat a)), (AV.int .u32 (Int.ofNat c)), (AV.bool has)] 3)) = .ok (AV.agg [p, q]) ∧ ((again (.loadA 2 (.const (AV.ptr (Hp.next h) 0))) .lf (AV.agg [p, q]) (hpush (hpush (hpush h (mkCells [p, q] 2)) (mkCells [p', q'] 2)) (mkCells [(AV.int .u32 (Int.ofNat a)), (AV.int .u32 (Int.ofNat c)), (AV.bool has)] 3)) = true ∧ again (.move (.const vb)) .lf vb (hpush (hpush (hpush h (mkCells [p, q] 2)) (mkCells [p', q'] 2)) (mkCells [(AV.int .u32 (Int.ofNat a)), (AV.int .u32 (Int.ofNat c)), (AV.bool has)] 3)) = true ∧ again (.loadA 2 (.const (AV.ptr (Hp.next h) 0))) .lf (AV.agg [p, q]) (hpush (hpush (hpush h (mkCells [p, q] 2)) (mkCells [p', q'] 2)) (mkCells [(AV.int .u32 (Int.ofNat a)), (AV.int .u32 (Int.ofNat c)), (AV.bool has)] 3)) = true ∧ again (.move (.const vb)) .lf vb (hpush (hpush (hpush h (mkCells [p, q] 2)) (mkCells [p', q'] 2)) (mkCells [(AV.int .u32 (Int.ofNat a)), (AV.int .u32 (Int.ofNat c)), (AV.bool has)] 3)) = true ∧ True) ∧ (∃ e7 : Ev, call 50 [vb, (AV.agg [p, q])] (hpush (hpush (hpush h (mkCells [p, q] 2)) (mkCells [p', q'] 2)) (mkCells [(AV.int .u32 (Int.ofNat a)), (AV.int .u32 (Int.ofNat c)), (AV.bool has)] 3)) = .ok e7.v e7.h ∧ (evQ (.toStr (.const e7.v)) .lf e7.h = .ok (AV.str (putFL l l1 l2)) ∧ ((again (.toStr (.const e7.v)) .lf (AV.str (putFL l l1 l2)) e7.h = true ∧ again (.loadA 2 (.const (AV.ptr (Hp.next h) 0))) .lf (AV.agg [p, q]) e7.h = true ∧ again (.move (.const vb)) .lf vb e7.h = true ∧ True) ∧ (∃ e10 : Ev, call 51 [vb, (AV.agg [p, q])] e7.h = .ok e10.v e10.h ∧ (evQ (.toStr (.const e10.v)) .lf e10.h = .ok (AV.str (putFL l l1 l2)) ∧ (evQ (.eq .str false (.const (AV.str (putFL l l1 l2))) (.const (AV.str (putFL l l1 l2)))) .lf H0 = .ok (AV.bool true) ∧ (evQ (.loadA 3 (.const (AV.ptr (Hp.next (hpush (hpush h (mkCells [p, q] 2)) (mkCells [p', q'] 2))) 0))) .lf e10.h = .ok (AV.agg [(AV.int .u32 (Int.ofNat a)), (AV.int .u32 (Int.ofNat c)), (AV.bool has)]) ∧ (evQ (.loadA 3 (.const (AV.ptr (Hp.next (hpush (hpush h (mkCells [p, q] 2)) (mkCells [p', q'] 2))) 0))) .lf e10.h = .ok (AV.agg [(AV.int .u32 (Int.ofNat a)), (AV.int .u32 (Int.ofNat c)), (AV.bool has)]) ∧ ((again (.loadA 3 (.const (AV.ptr (Hp.next (hpush (hpush h (mkCells [p, q] 2)) (mkCells [p', q'] 2))) 0))) .lf (AV.agg [(AV.int .u32 (Int.ofNat a)), (AV.int .u32 (Int.ofNat c)), (AV.bool has)]) e10.h = true ∧ again (.move (.const vb)) .lf vb e10.h = true ∧ again (.loadA 3 (.const (AV.ptr (Hp.next (hpush (hpush h (mkCells [p, q] 2)) (mkCells [p', q'] 2))) 0))) .lf (AV.agg [(AV.int .u32 (Int.ofNat a)), (AV.int .u32 (Int.ofNat c)), (AV.bool has)]) e10.h = true ∧ again (.move (.const vb)) .lf vb e10.h = true ∧ again (.move (.const (AV.bool true))) .lf (AV.bool true) e10.h = true ∧ again (.eq .str false (.const (AV.str (putFL l l1 l2))) (.const (AV.str (putFL l l1 l2)))) .lf (AV.bool true) e10.h = true ∧ again (.toStr (.const e10.v)) .lf (AV.str (putFL l l1 l2)) e10.h = true ∧ again (.toStr (.const e7.v)) .lf (AV.str (putFL l l1 l2)) e10.h = true ∧ True) ∧ (∃ e13 : Ev, call 52 [vb, (AV.agg [(AV.int .u32 (Int.ofNat a)), (AV.int .u32 (Int.ofNat c)), (AV.bool has)])] e10.h = .ok e13.v e13.h ∧ (evQ (.toStr (.const e13.v)) .lf e13.h = .ok (AV.str (putLL l a c has)) ∧ ((again (.toStr (.const e13.v)) .lf (AV.str (putLL l a c has)) e13.h = true ∧ again (.loadA 3 (.const (AV.ptr (Hp.next (hpush (hpush h (mkCells [p, q] 2)) (mkCells [p', q'] 2))) 0))) .lf (AV.agg [(AV.int .u32 (Int.ofNat a)), (AV.int .u32 (Int.ofNat c)), (AV.bool has)]) e13.h = true ∧ again (.move (.const vb)) .lf vb e13.h = true ∧ True) ∧ (∃ e16 : Ev, call 53 [vb, (AV.agg [(AV.int .u32 (Int.ofNat a)), (AV.int .u32 (Int.ofNat c)), (AV.bool has)])] e13.h = .ok e16.v e16.h ∧ (evQ (.toStr (.const e16.v)) .lf e16.h = .ok (AV.str (putLL l a c has)) ∧ (evQ (.eq .str false (.const (AV.str (putLL l a c has))) (.const (AV.str (putLL l a c has)))) .lf H0 = .ok (AV.bool true) ∧ (evQ (.loadA 2 (.const (AV.ptr (Hp.next h) 0))) .lf e16.h = .ok (AV.agg [p, q]) ∧ (evQ (.loadA 2 (.const (AV.ptr (Hp.next (hpush h (mkCells [p, q] 2))) 0))) .lf e16.h = .ok (AV.agg [p', q']) ∧ (evQ (.loadA 2 (.const (AV.ptr (Hp.next h) 0))) .lf e16.h = .ok (AV.agg [p, q]) ∧ (evQ (.loadA 2 (.const (AV.ptr (Hp.next (hpush h (mkCells [p, q] 2))) 0))) .lf e16.h = .ok (AV.agg [p', q']) ∧ ((again (.loadA 2 (.const (AV.ptr (Hp.next (hpush h (mkCells [p, q] 2))) 0))) .lf (AV.agg [p', q']) e16.h = true ∧ again (.loadA 2 (.const (AV.ptr (Hp.next h) 0))) .lf (AV.agg [p, q]) e16.h = true ∧ again (.loadA 2 (.const (AV.ptr (Hp.next (hpush h (mkCells [p, q] 2))) 0))) .lf (AV.agg [p', q']) e16.h = true ∧ again (.loadA 2 (.const (AV.ptr (Hp.next h) 0))) .lf (AV.agg [p, q]) e16.h = true ∧ again (.move (.const (AV.bool true))) .lf (AV.bool true) e16.h = true ∧ again (.pick (.const (AV.bool true)) (.const (AV.bool true)) (.const (AV.bool false))) .lf (AV.bool true) e16.h = true ∧ again (.eq .str false (.const (AV.str (putLL l a c has))) (.const (AV.str (putLL l a c has)))) .lf (AV.bool true) e16.h = true ∧ again (.toStr (.const e16.v)) .lf (AV.str (putLL l a c has)) e16.h = true ∧ again (.toStr (.const e13.v)) .lf (AV.str (putLL l a c has)) e16.h = true ∧ True) ∧ (∃ e18 : Ev, call 54 [(AV.agg [p, q]), (AV.agg [p', q'])] e16.h = .ok (AV.bool (decide (l1 = m1 ∧ l2 = m2))) e18.h ∧ ((again (.loadA 2 (.const (AV.ptr (Hp.next (hpush h (mkCells [p, q] 2))) 0))) .lf (AV.agg [p', q']) e18.h = true ∧ again (.loadA 2 (.const (AV.ptr (Hp.next h) 0))) .lf (AV.agg [p, q]) e18.h = true ∧ True) ∧ (∃ e20 : Ev, call 49 [(AV.agg [p, q]), (AV.agg [p', q'])] e18.h = .ok (AV.bool (decide (l1 = m1 ∧ l2 = m2))) e20.h ∧ (evQ (.eq .bool false (.const (AV.bool (decide (l1 = m1 ∧ l2 = m2)))) (.const (AV.bool (decide (l1 = m1 ∧ l2 = m2))))) .lf H0 = .ok (AV.bool true) ∧ ((again (.move (.const (AV.bool true))) .lf (AV.bool true) e20.h = true ∧ again (.pick (.const (AV.bool true)) (.const (AV.bool true)) (.const (AV.bool false))) .lf (AV.bool true) e20.h = true ∧ again (.eq .bool false (.const (AV.bool (decide (l1 = m1 ∧ l2 = m2)))) (.const (AV.bool (decide (l1 = m1 ∧ l2 = m2))))) .lf (AV.bool true) e20.h = true ∧ True) ∧ (fun (v : AV) (_ : Hp) => v = .bool true) (AV.bool true) e20.h)))))))))))))))))))))))))))))))))))))))))))))))) (by kernel_rfl) ?_
  refine ⟨box_told rfl rfl (all_cell (BIn.cell P1) (all_cell (BIn.cell P2) all_cell0)), ?_⟩
  have S1 : Sep [Cel (Hp.next h) [p, q], Frz (fun k => k < h.next) h] (hpush h (mkCells [p, q] 2)) := cel_new S0 [p, q] rfl
  refine ⟨box_told rfl rfl (all_cell (BIn.cell P3) (all_cell (BIn.cell P4) all_cell0)), ?_⟩
  have S2 : Sep [Cel (Hp.next (hpush h (mkCells [p, q] 2))) [p', q'], Cel (Hp.next h) [p, q], Frz (fun k => k < h.next) h] (hpush (hpush h (mkCells [p, q] 2)) (mkCells [p', q'] 2)) := cel_new S1 [p', q'] rfl
  have S3 : Sep [Cel (Hp.next (hpush (hpush h (mkCells [p, q] 2)) (mkCells [p', q'] 2))) [(AV.int .u32 (Int.ofNat a)), (AV.int .u32 (Int.ofNat c)), (AV.bool has)], Cel (Hp.next (hpush h (mkCells [p, q] 2))) [p', q'], Cel (Hp.next h) [p, q], Frz (fun k => k < h.next) h] (hpush (hpush (hpush h (mkCells [p, q] 2)) (mkCells [p', q'] 2)) (mkCells [(AV.int .u32 (Int.ofNat a)), (AV.int .u32 (Int.ofNat c)), (AV.bool has)] 3)) := cel_new S2 [(AV.int .u32 (Int.ofNat a)), (AV.int .u32 (Int.ofNat c)), (AV.bool has)] rfl
  refine ⟨hbegun _, ?_⟩
  refine ⟨cel_load S3 (i := 2) rfl rfl, ?_⟩
  refine ⟨q_len (BIn.now S3 (i := 3) rfl P1), ?_⟩
  refine ⟨cel_load S3 (i := 2) rfl rfl, ?_⟩
  refine ⟨q_len (BIn.now S3 (i := 3) rfl P2), ?_⟩
  refine ⟨q_add (by omega), ?_⟩
  refine ⟨cel_load S3 (i := 1) rfl rfl, ?_⟩
  refine ⟨q_len (BIn.now S3 (i := 3) rfl P3), ?_⟩
  refine ⟨q_add (by omega), ?_⟩
  refine ⟨cel_load S3 (i := 1) rfl rfl, ?_⟩
  refine ⟨q_len (BIn.now S3 (i := 3) rfl P4), ?_⟩
  refine ⟨q_add (by omega), ?_⟩
  refine ⟨fun c4 => ?_, fun c4 => ?_⟩
  · have rc4 := c4
    replace c4 : 40 < ((l1.length + l2.length) + m1.length) + m2.length := ltI_t c4
    exact rfl
  · have rc4 := c4
    replace c4 : ((l1.length + l2.length) + m1.length) + m2.length ≤ 40 := ltI_f c4
    refine ⟨q_len (BIn.now S3 (i := 3) rfl P), ?_⟩
    refine ⟨fun c5 => ?_, fun c5 => ?_⟩
    · have rc5 := c5
      replace c5 : 20 < l.length := ltI_t c5
      exact rfl
    · have rc5 := c5
      replace c5 : l.length ≤ 20 := ltI_f c5
      refine ⟨cel_loadA S3 (i := 2) (o := 0) (n := 2) rfl (by first | decide | (simp; done) | (simp only [List.length_cons, List.length_nil]; omega)), ?_⟩
      refine ⟨cel_loadA S3 (i := 2) (o := 0) (n := 2) rfl (by first | decide | (simp; done) | (simp only [List.length_cons, List.length_nil]; omega)), ?_⟩
      refine ⟨⟨again_of (cel_loadA S3 (i := 2) (o := 0) (n := 2) rfl (by first | decide | (simp; done) | (simp only [List.length_cons, List.length_nil]; omega))) (avEq_agg1 (BIn.same P1) (avEq_agg1 (BIn.same P2) rfl)), again_of (rfl) (BIn.same P), again_of (cel_loadA S3 (i := 2) (o := 0) (n := 2) rfl (by first | decide | (simp; done) | (simp only [List.length_cons, List.length_nil]; omega))) (avEq_agg1 (BIn.same P1) (avEq_agg1 (BIn.same P2) rfl)), again_of (rfl) (BIn.same P), trivial⟩, ?_⟩
      have S6 : Sep [Frz (fun k => k < h.next) h, Cel (Hp.next (hpush (hpush h (mkCells [p, q] 2)) (mkCells [p', q'] 2))) [(AV.int .u32 (Int.ofNat a)), (AV.int .u32 (Int.ofNat c)), (AV.bool has)], Cel (Hp.next (hpush h (mkCells [p, q] 2))) [p', q'], Cel (Hp.next h) [p, q]] (hpush (hpush (hpush h (mkCells [p, q] 2)) (mkCells [p', q'] 2)) (mkCells [(AV.int .u32 (Int.ofNat a)), (AV.int .u32 (Int.ofNat c)), (AV.bool has)] 3)) := S3.front 3 rfl
      obtain ⟨ve7, he7, ne7, qe7, se7⟩ := hpf P P1 P2 (by first | omega | decide) (by first | omega | decide) (by first | omega | decide) S6
      obtain ⟨e7, rfl, rfl⟩ : ∃ e : Ev, ve7 = e.v ∧ he7 = e.h := ⟨⟨ve7, .lf, he7⟩, rfl, rfl⟩
      have S8 : Sep [OwnO 1 e7.v ne7 (u8s (putFL l l1 l2)), Frz (fun k => k < h.next) h, Cel (Hp.next (hpush (hpush h (mkCells [p, q] 2)) (mkCells [p', q'] 2))) [(AV.int .u32 (Int.ofNat a)), (AV.int .u32 (Int.ofNat c)), (AV.bool has)], Cel (Hp.next (hpush h (mkCells [p, q] 2))) [p', q'], Cel (Hp.next h) [p, q]] e7.h := se7
      refine ⟨e7, qe7, ?_⟩
      refine ⟨q_toStr (own_bytes S8 (i := 0) rfl (putFL_lt (BIn.lt P) (BIn.lt P1) (BIn.lt P2) (by omega) (by omega))), ?_⟩
      refine ⟨⟨again_of (q_toStr (own_bytes S8 (i := 0) rfl (putFL_lt (BIn.lt P) (BIn.lt P1) (BIn.lt P2) (by omega) (by omega)))) (avEq_str _), again_of (cel_loadA S8 (i := 4) (o := 0) (n := 2) rfl (by first | decide | (simp; done) | (simp only [List.length_cons, List.length_nil]; omega))) (avEq_agg1 (BIn.same P1) (avEq_agg1 (BIn.same P2) rfl)), again_of (rfl) (BIn.same P), trivial⟩, ?_⟩
      have S9 : Sep [Frz (fun k => k < h.next) h, OwnO 1 e7.v ne7 (u8s (putFL l l1 l2)), Cel (Hp.next (hpush (hpush h (mkCells [p, q] 2)) (mkCells [p', q'] 2))) [(AV.int .u32 (Int.ofNat a)), (AV.int .u32 (Int.ofNat c)), (AV.bool has)], Cel (Hp.next (hpush h (mkCells [p, q] 2))) [p', q'], Cel (Hp.next h) [p, q]] e7.h := S8.front 1 rfl
      obtain ⟨ve10, he10, ne10, qe10, se10⟩ := hrpf P P1 P2 (by first | omega | decide) (by first | omega | decide) (by first | omega | decide) S9
      obtain ⟨e10, rfl, rfl⟩ : ∃ e : Ev, ve10 = e.v ∧ he10 = e.h := ⟨⟨ve10, .lf, he10⟩, rfl, rfl⟩
      have S11 : Sep [OwnO 1 e10.v ne10 (u8s (putFL l l1 l2)), Frz (fun k => k < h.next) h, OwnO 1 e7.v ne7 (u8s (putFL l l1 l2)), Cel (Hp.next (hpush (hpush h (mkCells [p, q] 2)) (mkCells [p', q'] 2))) [(AV.int .u32 (Int.ofNat a)), (AV.int .u32 (Int.ofNat c)), (AV.bool has)], Cel (Hp.next (hpush h (mkCells [p, q] 2))) [p', q'], Cel (Hp.next h) [p, q]] e10.h := se10
      refine ⟨e10, qe10, ?_⟩
      refine ⟨q_toStr (own_bytes S11 (i := 0) rfl (putFL_lt (BIn.lt P) (BIn.lt P1) (BIn.lt P2) (by omega) (by omega))), ?_⟩
      refine ⟨eqStr_same _, ?_⟩
      refine ⟨cel_loadA S11 (i := 3) (o := 0) (n := 3) rfl (by first | decide | (simp; done) | (simp only [List.length_cons, List.length_nil]; omega)), ?_⟩
      refine ⟨cel_loadA S11 (i := 3) (o := 0) (n := 3) rfl (by first | decide | (simp; done) | (simp only [List.length_cons, List.length_nil]; omega)), ?_⟩
      refine ⟨⟨again_of (cel_loadA S11 (i := 3) (o := 0) (n := 3) rfl (by first | decide | (simp; done) | (simp only [List.length_cons, List.length_nil]; omega))) (avEq_agg1 (avEq_int _ _) (avEq_agg1 (avEq_int _ _) (avEq_agg1 (avEq_bool _) rfl))), again_of (rfl) (BIn.same P), again_of (cel_loadA S11 (i := 3) (o := 0) (n := 3) rfl (by first | decide | (simp; done) | (simp only [List.length_cons, List.length_nil]; omega))) (avEq_agg1 (avEq_int _ _) (avEq_agg1 (avEq_int _ _) (avEq_agg1 (avEq_bool _) rfl))), again_of (rfl) (BIn.same P), again_of (rfl) (avEq_bool _), again_of (eqStr_same _) (avEq_bool _), again_of (q_toStr (own_bytes S11 (i := 0) rfl (putFL_lt (BIn.lt P) (BIn.lt P1) (BIn.lt P2) (by omega) (by omega)))) (avEq_str _), again_of (q_toStr (own_bytes S11 (i := 2) rfl (putFL_lt (BIn.lt P) (BIn.lt P1) (BIn.lt P2) (by omega) (by omega)))) (avEq_str _), trivial⟩, ?_⟩
      have S12 : Sep [Frz (fun k => k < h.next) h, OwnO 1 e10.v ne10 (u8s (putFL l l1 l2)), OwnO 1 e7.v ne7 (u8s (putFL l l1 l2)), Cel (Hp.next (hpush (hpush h (mkCells [p, q] 2)) (mkCells [p', q'] 2))) [(AV.int .u32 (Int.ofNat a)), (AV.int .u32 (Int.ofNat c)), (AV.bool has)], Cel (Hp.next (hpush h (mkCells [p, q] 2))) [p', q'], Cel (Hp.next h) [p, q]] e10.h := S11.front 1 rfl
      obtain ⟨ve13, he13, ne13, qe13, se13⟩ := hpl ha hc P (by first | omega | decide) S12
      obtain ⟨e13, rfl, rfl⟩ : ∃ e : Ev, ve13 = e.v ∧ he13 = e.h := ⟨⟨ve13, .lf, he13⟩, rfl, rfl⟩
      have S14 : Sep [OwnO 1 e13.v ne13 (u8s (putLL l a c has)), Frz (fun k => k < h.next) h, OwnO 1 e10.v ne10 (u8s (putFL l l1 l2)), OwnO 1 e7.v ne7 (u8s (putFL l l1 l2)), Cel (Hp.next (hpush (hpush h (mkCells [p, q] 2)) (mkCells [p', q'] 2))) [(AV.int .u32 (Int.ofNat a)), (AV.int .u32 (Int.ofNat c)), (AV.bool has)], Cel (Hp.next (hpush h (mkCells [p, q] 2))) [p', q'], Cel (Hp.next h) [p, q]] e13.h := se13
      refine ⟨e13, qe13, ?_⟩
      refine ⟨q_toStr (own_bytes S14 (i := 0) rfl (putLL_lt (BIn.lt P) (by first | omega | assumption) (by first | omega | assumption))), ?_⟩
      refine ⟨⟨again_of (q_toStr (own_bytes S14 (i := 0) rfl (putLL_lt (BIn.lt P) (by first | omega | assumption) (by first | omega | assumption)))) (avEq_str _), again_of (cel_loadA S14 (i := 4) (o := 0) (n := 3) rfl (by first | decide | (simp; done) | (simp only [List.length_cons, List.length_nil]; omega))) (avEq_agg1 (avEq_int _ _) (avEq_agg1 (avEq_int _ _) (avEq_agg1 (avEq_bool _) rfl))), again_of (rfl) (BIn.same P), trivial⟩, ?_⟩
      have S15 : Sep [Frz (fun k => k < h.next) h, OwnO 1 e13.v ne13 (u8s (putLL l a c has)), OwnO 1 e10.v ne10 (u8s (putFL l l1 l2)), OwnO 1 e7.v ne7 (u8s (putFL l l1 l2)), Cel (Hp.next (hpush (hpush h (mkCells [p, q] 2)) (mkCells [p', q'] 2))) [(AV.int .u32 (Int.ofNat a)), (AV.int .u32 (Int.ofNat c)), (AV.bool has)], Cel (Hp.next (hpush h (mkCells [p, q] 2))) [p', q'], Cel (Hp.next h) [p, q]] e13.h := S14.front 1 rfl
      obtain ⟨ve16, he16, ne16, qe16, se16⟩ := hrpl ha hc P (by first | omega | decide) S15
      obtain ⟨e16, rfl, rfl⟩ : ∃ e : Ev, ve16 = e.v ∧ he16 = e.h := ⟨⟨ve16, .lf, he16⟩, rfl, rfl⟩
      have S17 : Sep [OwnO 1 e16.v ne16 (u8s (putLL l a c has)), Frz (fun k => k < h.next) h, OwnO 1 e13.v ne13 (u8s (putLL l a c has)), OwnO 1 e10.v ne10 (u8s (putFL l l1 l2)), OwnO 1 e7.v ne7 (u8s (putFL l l1 l2)), Cel (Hp.next (hpush (hpush h (mkCells [p, q] 2)) (mkCells [p', q'] 2))) [(AV.int .u32 (Int.ofNat a)), (AV.int .u32 (Int.ofNat c)), (AV.bool has)], Cel (Hp.next (hpush h (mkCells [p, q] 2))) [p', q'], Cel (Hp.next h) [p, q]] e16.h := se16
      refine ⟨e16, qe16, ?_⟩
      refine ⟨q_toStr (own_bytes S17 (i := 0) rfl (putLL_lt (BIn.lt P) (by first | omega | assumption) (by first | omega | assumption))), ?_⟩
      refine ⟨eqStr_same _, ?_⟩
      refine ⟨cel_loadA S17 (i := 7) (o := 0) (n := 2) rfl (by first | decide | (simp; done) | (simp only [List.length_cons, List.length_nil]; omega)), ?_⟩
      refine ⟨cel_loadA S17 (i := 6) (o := 0) (n := 2) rfl (by first | decide | (simp; done) | (simp only [List.length_cons, List.length_nil]; omega)), ?_⟩
      refine ⟨cel_loadA S17 (i := 7) (o := 0) (n := 2) rfl (by first | decide | (simp; done) | (simp only [List.length_cons, List.length_nil]; omega)), ?_⟩
      refine ⟨cel_loadA S17 (i := 6) (o := 0) (n := 2) rfl (by first | decide | (simp; done) | (simp only [List.length_cons, List.length_nil]; omega)), ?_⟩
      refine ⟨⟨again_of (cel_loadA S17 (i := 6) (o := 0) (n := 2) rfl (by first | decide | (simp; done) | (simp only [List.length_cons, List.length_nil]; omega))) (avEq_agg1 (BIn.same P3) (avEq_agg1 (BIn.same P4) rfl)), again_of (cel_loadA S17 (i := 7) (o := 0) (n := 2) rfl (by first | decide | (simp; done) | (simp only [List.length_cons, List.length_nil]; omega))) (avEq_agg1 (BIn.same P1) (avEq_agg1 (BIn.same P2) rfl)), again_of (cel_loadA S17 (i := 6) (o := 0) (n := 2) rfl (by first | decide | (simp; done) | (simp only [List.length_cons, List.length_nil]; omega))) (avEq_agg1 (BIn.same P3) (avEq_agg1 (BIn.same P4) rfl)), again_of (cel_loadA S17 (i := 7) (o := 0) (n := 2) rfl (by first | decide | (simp; done) | (simp only [List.length_cons, List.length_nil]; omega))) (avEq_agg1 (BIn.same P1) (avEq_agg1 (BIn.same P2) rfl)), again_of (rfl) (avEq_bool _), again_of (rfl) (avEq_bool _), again_of (eqStr_same _) (avEq_bool _), again_of (q_toStr (own_bytes S17 (i := 0) rfl (putLL_lt (BIn.lt P) (by first | omega | assumption) (by first | omega | assumption)))) (avEq_str _), again_of (q_toStr (own_bytes S17 (i := 2) rfl (putLL_lt (BIn.lt P) (by first | omega | assumption) (by first | omega | assumption)))) (avEq_str _), trivial⟩, ?_⟩
      obtain ⟨he18, qe18, oe18⟩ := hsame (BIn.now S17 (i := 1) rfl P1) (BIn.now S17 (i := 1) rfl P2) (BIn.now S17 (i := 1) rfl P3) (BIn.now S17 (i := 1) rfl P4) (by omega) (by omega)
      obtain ⟨e18, rfl⟩ : ∃ e : Ev, he18 = e.h := ⟨⟨.nilPtr, .lf, he18⟩, rfl⟩
      have S19 : Sep [OwnO 1 e16.v ne16 (u8s (putLL l a c has)), Frz (fun k => k < h.next) h, OwnO 1 e13.v ne13 (u8s (putLL l a c has)), OwnO 1 e10.v ne10 (u8s (putFL l l1 l2)), OwnO 1 e7.v ne7 (u8s (putFL l l1 l2)), Cel (Hp.next (hpush (hpush h (mkCells [p, q] 2)) (mkCells [p', q'] 2))) [(AV.int .u32 (Int.ofNat a)), (AV.int .u32 (Int.ofNat c)), (AV.bool has)], Cel (Hp.next (hpush h (mkCells [p, q] 2))) [p', q'], Cel (Hp.next h) [p, q]] e18.h := Sep.on S17 oe18.next oe18.get
      refine ⟨e18, qe18, ?_⟩
      refine ⟨⟨again_of (cel_loadA S19 (i := 6) (o := 0) (n := 2) rfl (by first | decide | (simp; done) | (simp only [List.length_cons, List.length_nil]; omega))) (avEq_agg1 (BIn.same P3) (avEq_agg1 (BIn.same P4) rfl)), again_of (cel_loadA S19 (i := 7) (o := 0) (n := 2) rfl (by first | decide | (simp; done) | (simp only [List.length_cons, List.length_nil]; omega))) (avEq_agg1 (BIn.same P1) (avEq_agg1 (BIn.same P2) rfl)), trivial⟩, ?_⟩
      obtain ⟨he20, qe20, oe20⟩ := hrsame (BIn.now S19 (i := 1) rfl P1) (BIn.now S19 (i := 1) rfl P2) (BIn.now S19 (i := 1) rfl P3) (BIn.now S19 (i := 1) rfl P4) (by omega) (by omega)
      obtain ⟨e20, rfl⟩ : ∃ e : Ev, he20 = e.h := ⟨⟨.nilPtr, .lf, he20⟩, rfl⟩
      have S21 : Sep [OwnO 1 e16.v ne16 (u8s (putLL l a c has)), Frz (fun k => k < h.next) h, OwnO 1 e13.v ne13 (u8s (putLL l a c has)), OwnO 1 e10.v ne10 (u8s (putFL l l1 l2)), OwnO 1 e7.v ne7 (u8s (putFL l l1 l2)), Cel (Hp.next (hpush (hpush h (mkCells [p, q] 2)) (mkCells [p', q'] 2))) [(AV.int .u32 (Int.ofNat a)), (AV.int .u32 (Int.ofNat c)), (AV.bool has)], Cel (Hp.next (hpush h (mkCells [p, q] 2))) [p', q'], Cel (Hp.next h) [p, q]] e20.h := Sep.on S19 oe20.next oe20.get
      refine ⟨e20, qe20, ?_⟩
      refine ⟨eqBool_same _, ?_⟩
      refine ⟨⟨again_of (rfl) (avEq_bool _), again_of (rfl) (avEq_bool _), again_of (eqBool_same _) (avEq_bool _), trivial⟩, ?_⟩
      exact rfl
theorem walk (a0p a0q : BArg) (a1p a1q : BArg) (x2 y2 : Nat) (z2 : Bool) (a3 : BArg) (W : World) (l0p : a0p.lies W) (l0q : a0q.lies W) (n0p : a0p.l.length ≤ 140737488351232) (n0q : a0q.l.length ≤ 140737488351232) (l1p : a1p.lies W) (l1q : a1q.lies W) (n1p : a1p.l.length ≤ 140737488351232) (n1q : a1q.l.length ≤ 140737488351232) (f2 : x2 < 4294967296) (g2 : y2 < 4294967296) (l3 : a3.lies W) (n3 : a3.l.length ≤ 140737488351232) :
    Calls Try.prog 12 #[.agg #[a0p.v, a0q.v], .agg #[a1p.v, a1q.v], .agg #[.int .u32 (.ofNat x2), .int .u32 (.ofNat y2), .bool z2], a3.v] W fun e W' => e = .returned (.bool true) ∧ Below W.heap.size W W' := by
  obtain ⟨μ, h, vs, hs, hm, hn, hvs, _⟩ := start_bytes (w := W) [a0p, a0q, a1p, a1q, a3] (by simp only [List.mem_cons, List.not_mem_nil, or_false]; rintro a (rfl | rfl | rfl | rfl | rfl) <;> assumption)
  obtain ⟨vb0p, vb0q, vb1p, vb1q, vb3, rfl⟩ : ∃ vb0p vb0q vb1p vb1q vb3, vs = [vb0p, vb0q, vb1p, vb1q, vb3] := by
    match vs, hn with
    | [vb0p, vb0q, vb1p, vb1q, vb3], _ => exact ⟨vb0p, vb0q, vb1p, vb1q, vb3, rfl⟩
  obtain ⟨r0p, b0p⟩ := hvs 0 vb0p a0p rfl rfl
  obtain ⟨r0q, b0q⟩ := hvs 1 vb0q a0q rfl rfl
  obtain ⟨r1p, b1p⟩ := hvs 2 vb1p a1p rfl rfl
  obtain ⟨r1q, b1q⟩ := hvs 3 vb1q a1q rfl rfl
  obtain ⟨r3, b3⟩ := hvs 4 vb3 a3 rfl rfl
  obtain ⟨rv, rh, e, hr⟩ := law_walk (call := CC 10) (N := 100000) (h := h) b3 b0p b0q b1p b1q f2 g2 n3 n0p n0q n1p n1q (evF_sum (by decide)) (s_putF 5) (s_rputF 8) (s_putL 6) (s_rputL 8) (s_same 8) (s_rsame 9)
  have hr : rv = .bool true := hr
  subst hr
  refine start_law compDrawn_ok (sumT_ok trues) (N := 100000) (d := 11) hs hm (args := [.agg [vb0p, vb0q], .agg [vb1p, vb1q], .agg [.int .u32 (.ofNat x2), .int .u32 (.ofNat y2), .bool z2], vb3]) ?_ (by rw [evF_at (sumT_none rfl)]; exact e)
  rw [VRs_cons]; refine ⟨_, _, rfl, (VR_pair r0p r0q), ?_⟩
  rw [VRs_cons]; refine ⟨_, _, rfl, (VR_pair r1p r1q), ?_⟩
  rw [VRs_cons]; refine ⟨_, _, rfl, VR_lim, ?_⟩
  rw [VRs_cons]; exact ⟨_, _, rfl, r3, by rw [VRs_nil]⟩
theorem own : ownKnob Try.prog.godebug = none := by kernel_rfl
theorem laidOut : laidOutB Try.prog = true := by kernel_rfl
set_option maxRecDepth 100000 in
set_option maxHeartbeats 1000000 in
theorem lifted (os : Os) (started : os.Started) (H : Type) (enc : TypeId × Value → H) :
    ReturnsInHanded {} Try.checked os 12 .any (Rows.typesPutsSpec.pre6 enc Try.prog Try.f12 Rows.typesPutsRow.domain false) (Rows.typesPutsSpec.post enc Try.prog Try.f12 false true false false) := by
  refine returnsInHanded_of_change_sized (C := Try.checked) own started (by kernel_rfl) Try.func12
    (ChangeSpec.witness6 (enc := enc) (C := Try.checked) false ⟨#[], #[.agg #[.slice none 0 0, .slice none 0 0], .agg #[.slice none 0 0, .slice none 0 0], .agg #[.int .u32 0, .int .u32 0, .bool false], .slice none 0 0], []⟩ 8 (by kernel_rfl) (by kernel_rfl) (by kernel_rfl) (by kernel_rfl)) ?_
  intro W base args ds gs before hval0 hW hcnd hsz0 _
  have hval : ∀ (j : Nat) t v, Try.f12.params[j]? = some t → args[j]? = some v → Value.okWide Try.prog W .any base t v := hval0
  have hW' := hW
  obtain ⟨p, q, hA0, hV, rfl, hfz, hnd⟩ := hW
  have hA : DataW.TrodAll enc Try.prog W 0 (fun _ => true) true Try.f12.params.toList args.toList ds p := hA0
  rw [Try.params12] at hA hval
  obtain ⟨rfl, rfl⟩ := trodVars_none hV
  simp only [List.append_nil] at hW'
  obtain ⟨v0, vs0, d0, ds0, p0, q0, hargs, rfl, rfl, h0, r0⟩ := trodAll_cons hA
  obtain ⟨v1, vs1, d1, ds1, p1, q1, rfl, rfl, rfl, h1, r1⟩ := trodAll_cons r0
  obtain ⟨v2, vs2, d2, ds2, p2, q2, rfl, rfl, rfl, h2, r2⟩ := trodAll_cons r1
  obtain ⟨v3, vs3, d3, ds3, p3, q3, rfl, rfl, rfl, h3, r3⟩ := trodAll_cons r2
  obtain ⟨rfl, rfl, rfl⟩ := trodAll_nil r3
  obtain rfl : args = #[v0, v1, v2, v3] := by cases args; simp_all
  have hlt : ∀ x ∈ p0 ++ p1 ++ p2 ++ p3, x.block < W.heap.size := fun x hx => by simpa using hW'.lt x (by simpa using hx)
  have hwt : ∀ (j : Nat) t d, (Try.f12.params.toList)[j]? = some t → ([d0, d1, d2, d3])[j]? = some d → ∀ n ∈ d.weights Try.prog t, n ≤ reachBytes := fun j t d e1 e2 n hn => by
    have := List.all_eq_true.1 hsz0 _ (DataW.weights_mem_each (P := Try.prog) (ts := Try.f12.params.toList ++ _) (j := j) (t := t) (d := d) (by rw [List.getElem?_append_left (List.getElem?_eq_some_iff.1 e1).1]; exact e1) (by rw [List.getElem?_append_left (List.getElem?_eq_some_iff.1 e2).1]; exact e2) n hn)
    simpa using this
  obtain ⟨a0p, a0q, rfl, l0p, l0q, n0p, n0q⟩ := pair_arg Try.underlying63 (show Try.prog.cellTypes Try.prog.depth 63 = some [22, 22] by kernel_rfl) rfl rfl rfl rfl (by kernel_rfl) (by kernel_rfl) Try.underlying22 Try.underlying5 (by kernel_rfl) (by kernel_rfl) (hwt 0 _ _ (by kernel_rfl) rfl) h0 (hval 0 63 _ rfl rfl)
  obtain ⟨a1p, a1q, rfl, l1p, l1q, n1p, n1q⟩ := pair_arg Try.underlying63 (show Try.prog.cellTypes Try.prog.depth 63 = some [22, 22] by kernel_rfl) rfl rfl rfl rfl (by kernel_rfl) (by kernel_rfl) Try.underlying22 Try.underlying5 (by kernel_rfl) (by kernel_rfl) (hwt 1 _ _ (by kernel_rfl) rfl) h1 (hval 1 63 _ rfl rfl)
  obtain ⟨x2, y2, z2, rfl, f2, g2⟩ := lim_arg Try.underlying67 (show Try.prog.cellTypes Try.prog.depth 67 = some [32, 32, 4] by kernel_rfl) (by kernel_rfl) Try.underlying32 Try.underlying4 (hval 2 67 _ rfl rfl)
  obtain ⟨a3, rfl, l3, n3⟩ := bytes_argW Try.underlying22 Try.underlying5 (by kernel_rfl) (by kernel_rfl) (hwt 3 _ _ (by kernel_rfl) rfl) h3 (hval 3 22 _ rfl rfl)
  refine (walk a0p a0q a1p a1q x2 y2 z2 a3 W l0p l0q n0p n0q l1p l1q n1p n1q f2 g2 l3 n3).mono fun e W' ⟨he, bel⟩ => ?_
  subst he
  have t0 := Below.trod laidOut (by kernel_rfl) (of_decide_eq_true (by kernel_rfl)) h0 bel (fun x hx => hlt x (by simp [hx]))
  have t1 := Below.trod laidOut (by kernel_rfl) (of_decide_eq_true (by kernel_rfl)) h1 bel (fun x hx => hlt x (by simp [hx]))
  have t2 := Below.trod laidOut (by kernel_rfl) (of_decide_eq_true (by kernel_rfl)) h2 bel (fun x hx => hlt x (by simp [hx]))
  have t3 := Below.trod laidOut (by kernel_rfl) (of_decide_eq_true (by kernel_rfl)) h3 bel (fun x hx => hlt x (by simp [hx]))
  exact ⟨_, rfl, _, _, _, [], _, [], hW', trodAll_mk1 (shut_bool Try.underlying4 _), (trodAll_cons_mk t0 (trodAll_cons_mk t1 (trodAll_cons_mk t2 (trodAll_cons_mk t3 trodAll_mk0)))), rfl, bel.frame _, fun h => by cases h⟩
theorem over : Rows.typesPutsRow.holds Try.pinned (OpenSpec.ofChange Rows.typesPutsSpec) :=
  OpenClaim.holds_of_wide 12 Try.f12 rfl rfl rfl rfl rfl rfl rfl ⟨rfl, rfl, rfl, rfl, rfl⟩ rfl rfl rfl rfl rfl (by kernel_rfl) Try.func12 (by kernel_rfl)
    (of_decide_eq_true (by kernel_rfl)) (by unfold Func.isWrapper; first | (rw [if_pos (by decide +kernel)]; kernel_rfl) | (rw [if_neg (by decide +kernel)]; exact ⟨rfl, rfl⟩))
    (fun os started H enc _ => lifted os started H enc)
theorem proved : Rows.TypesPutsSaid := over
end Go.Proofs.Ytejiebbbodealaa.typesPuts
