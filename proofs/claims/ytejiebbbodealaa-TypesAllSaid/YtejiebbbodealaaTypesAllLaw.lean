/- Proved: for all bytes b and each byte c, the call of cloakroomlaw4.TypesAll returns true and leaves its arguments alone. Condition: none. -/
import Derived.Test.YtejiebbbodealaaTy3
import Derived.Test.YtejiebbbodealaaTypesEq
import Derived.Test.YtejiebbbodealaaEngS31
import Derived.Test.YtejiebbbodealaaRows
import Derived.WalkKit
import Derived.ProofKit
import Derived.OpenShut
import Derived.ShutString
import Derived.ChangeOld
import Derived.Below
import Derived.SizedLaws
import Derived.Carry
import Derived.ChangeSlices
namespace Go.Proofs.Ytejiebbbodealaa.typesAll
open Go.ChangeShapes Go.WideShapes Go.ChangeAt Go.RowKit
open Go.ChangeMaps (open_string shut_string)
open Eng
set_option linter.unusedVariables false
set_option linter.unusedSimpArgs false

set_option maxHeartbeats 1600000 in
theorem law_walk {call : CallT} {N : Nat} {h : Hp} {vb : AV} {l : List Nat} {x : Nat} (hb : Bytes h.next h vb l) (hx : x < 256) (hbegun : TrueS call 40) (hval : ValS call 41) (hrv : ValS call 42) (htf : TakeFS call 43 takeF) (hrtf : TakeFS call 44 takeF) (htl : TakeLS call 45 takeL) (hrtl : TakeLS call 46 takeL) (href : RefS call 47) (hrref : RefS call 48) (hsame : SameS call 49)
    : ∃ rv rh, evF1 (progS Try.prog (compDrawn Try.prog)) N call 11 [vb, (AV.int .u8 (Int.ofNat x))] h = .ok rv rh ∧ (fun (v : AV) (_ : Hp) => v = .bool true) rv rh := by
  have S0 := Sep.start h
  have P := BIn.of hb
  refine fwalk_ok (K := fun (v : AV) (_ : Hp) => v = .bool true) (o := (.eff 1 (AV.bool true) h (.tell 2 (AV.int .i64 (Int.ofNat l.length)) (.fork 0 .fin (.eff 1 (AV.tuple [(AV.bool ((tyV x).1)), (AV.int .i64 (Int.ofNat ((tyV x).2)))]) h (.eff 6 (AV.tuple [(AV.bool ((tyV x).1)), (AV.int .i64 (Int.ofNat ((tyV x).2)))]) h (.effx 6 (fun e2 => (AV.tuple [(AV.agg [(avN 0 e2.v), (avN 1 e2.v)]), (AV.int .i64 (Int.ofNat ((takeF l).2.1))), (AV.int .i64 (Int.ofNat ((takeF l).2.2)))])) (fun e2 => (.effx 5 (fun e5 => (AV.tuple [])) (fun e5 => (.effx 3 (fun e8 => (AV.tuple [(AV.agg [(avN 0 e8.v), (avN 1 e8.v)]), (AV.int .i64 (Int.ofNat ((takeF l).2.1))), (AV.int .i64 (Int.ofNat ((takeF l).2.2)))])) (fun e8 => (.effx 5 (fun e11 => (AV.tuple [])) (fun e11 => (.effx 3 (fun e14 => (AV.tuple [(AV.agg [(AV.int .u32 (Int.ofNat ((takeL l).1.1))), (AV.int .u32 (Int.ofNat ((takeL l).1.2.1))), (AV.bool ((takeL l).1.2.2))]), (AV.int .i64 (Int.ofNat ((takeL l).2.1))), (AV.int .i64 (Int.ofNat ((takeL l).2.2)))])) (fun e14 => (.effx 5 (fun e17 => (AV.tuple [])) (fun e17 => (.effx 3 (fun e20 => (AV.tuple [(AV.agg [(AV.int .u32 (Int.ofNat ((takeL l).1.1))), (AV.int .u32 (Int.ofNat ((takeL l).1.2.1))), (AV.bool ((takeL l).1.2.2))]), (AV.int .i64 (Int.ofNat ((takeL l).2.1))), (AV.int .i64 (Int.ofNat ((takeL l).2.2)))])) (fun e20 => (.effx 5 (fun e23 => (AV.tuple [])) (fun e23 => (.fork 2 (.tell 0 (AV.bool true) (.tell 4 (AV.bool true) (.eff 3 (AV.bool (refV x)) e23.h (.eff 1 (AV.bool (refV x)) e23.h (.tell 0 (AV.bool true) (.tell 2 (AV.agg [(avN 0 e2.v), (avN 1 e2.v)]) (.tell 0 (AV.agg [(avN 0 e8.v), (avN 1 e8.v)]) (.effx 0 (fun e26 => (AV.bool true)) (fun e26 => (.tell 4 (AV.bool true) (.tell 4 (AV.bool true) (.tell 2 (AV.agg [(AV.int .u32 (Int.ofNat ((takeL l).1.1))), (AV.int .u32 (Int.ofNat ((takeL l).1.2.1))), (AV.bool ((takeL l).1.2.2))]) (.tell 0 (AV.agg [(AV.int .u32 (Int.ofNat ((takeL l).1.1))), (AV.int .u32 (Int.ofNat ((takeL l).1.2.1))), (AV.bool ((takeL l).1.2.2))]) (.tell 0 (AV.bool true) (.tell 4 (AV.bool true) (.tell 4 (AV.bool true) .fin)))))))))))))))) (.tell 0 (AV.bool false) (.tell 4 (AV.bool true) (.eff 3 (AV.bool (refV x)) e23.h (.eff 1 (AV.bool (refV x)) e23.h (.tell 0 (AV.bool true) (.tell 2 (AV.agg [(avN 0 e2.v), (avN 1 e2.v)]) (.tell 0 (AV.agg [(avN 0 e8.v), (avN 1 e8.v)]) (.effx 0 (fun e26 => (AV.bool true)) (fun e26 => (.tell 4 (AV.bool true) (.tell 4 (AV.bool true) (.tell 2 (AV.agg [(AV.int .u32 (Int.ofNat ((takeL l).1.1))), (AV.int .u32 (Int.ofNat ((takeL l).1.2.1))), (AV.bool ((takeL l).1.2.2))]) (.tell 0 (AV.agg [(AV.int .u32 (Int.ofNat ((takeL l).1.1))), (AV.int .u32 (Int.ofNat ((takeL l).1.2.1))), (AV.bool ((takeL l).1.2.2))]) (.tell 0 (AV.bool true) (.tell 4 (AV.bool true) (.tell 4 (AV.bool true) .fin))))))))))))))))))))))))))))))))))))))) (p := (call 40 [] h = .ok (AV.bool true) h ∧ (evQ (.lenL (.const vb)) .lf H0 = .ok (AV.int .i64 (Int.ofNat l.length)) ∧ ((ltI (Int.ofNat 40) (Int.ofNat l.length) = true → (fun (v : AV) (_ : Hp) => v = .bool true) (AV.bool true) h) ∧ (ltI (Int.ofNat 40) (Int.ofNat l.length) = false → (call 41 [(AV.int .u8 (Int.ofNat x))] h = .ok (AV.tuple [(AV.bool ((tyV x).1)), (AV.int .i64 (Int.ofNat ((tyV x).2)))]) h ∧ (call 42 [(AV.int .u8 (Int.ofNat x))] h = .ok (AV.tuple [(AV.bool ((tyV x).1)), (AV.int .i64 (Int.ofNat ((tyV x).2)))]) h ∧ (∃ e2 : Ev, call 43 [vb] h = .ok (AV.tuple [(AV.agg [(avN 0 e2.v), (avN 1 e2.v)]), (AV.int .i64 (Int.ofNat ((takeF l).2.1))), (AV.int .i64 (Int.ofNat ((takeF l).2.2)))]) e2.h ∧ (∃ e5 : Ev, evE (.store 2 (.const (AV.ptr (Hp.next e2.h) 0)) (.const (AV.agg [(avN 0 e2.v), (avN 1 e2.v)]))) call .lf (hpush e2.h (mkCells [AV.nilSlice, AV.nilSlice] 2)) = .ok (AV.tuple []) e5.h ∧ (∃ e8 : Ev, call 44 [vb] e5.h = .ok (AV.tuple [(AV.agg [(avN 0 e8.v), (avN 1 e8.v)]), (AV.int .i64 (Int.ofNat ((takeF l).2.1))), (AV.int .i64 (Int.ofNat ((takeF l).2.2)))]) e8.h ∧ (∃ e11 : Ev, evE (.store 2 (.const (AV.ptr (Hp.next e8.h) 0)) (.const (AV.agg [(avN 0 e8.v), (avN 1 e8.v)]))) call .lf (hpush e8.h (mkCells [AV.nilSlice, AV.nilSlice] 2)) = .ok (AV.tuple []) e11.h ∧ (∃ e14 : Ev, call 45 [vb] e11.h = .ok (AV.tuple [(AV.agg [(AV.int .u32 (Int.ofNat ((takeL l).1.1))), (AV.int .u32 (Int.ofNat ((takeL l).1.2.1))), (AV.bool ((takeL l).1.2.2))]), (AV.int .i64 (Int.ofNat ((takeL l).2.1))), (AV.int .i64 (Int.ofNat ((takeL l).2.2)))]) e14.h ∧ (∃ e17 : Ev, evE (.store 3 (.const (AV.ptr (Hp.next e14.h) 0)) (.const (AV.agg [(AV.int .u32 (Int.ofNat ((takeL l).1.1))), (AV.int .u32 (Int.ofNat ((takeL l).1.2.1))), (AV.bool ((takeL l).1.2.2))]))) call .lf (hpush e14.h (mkCells [(AV.int .u32 (Int.ofNat 0)), (AV.int .u32 (Int.ofNat 0)), (AV.bool false)] 3)) = .ok (AV.tuple []) e17.h ∧ (∃ e20 : Ev, call 46 [vb] e17.h = .ok (AV.tuple [(AV.agg [(AV.int .u32 (Int.ofNat ((takeL l).1.1))), (AV.int .u32 (Int.ofNat ((takeL l).1.2.1))), (AV.bool ((takeL l).1.2.2))]), (AV.int .i64 (Int.ofNat ((takeL l).2.1))), (AV.int .i64 (Int.ofNat ((takeL l).2.2)))]) e20.h ∧ (∃ e23 : Ev, evE (.store 3 (.const (AV.ptr (Hp.next e20.h) 0)) (.const (AV.agg [(AV.int .u32 (Int.ofNat ((takeL l).1.1))), (AV.int .u32 (Int.ofNat ((takeL l).1.2.1))), (AV.bool ((takeL l).1.2.2))]))) call .lf (hpush e20.h (mkCells [(AV.int .u32 (Int.ofNat 0)), (AV.int .u32 (Int.ofNat 0)), (AV.bool false)] 3)) = .ok (AV.tuple []) e23.h ∧ (((tyV x).1 = true → (evQ (.move (.const (AV.bool ((tyV x).1)))) .lf H0 = .ok (AV.bool true) ∧ (evQ (.eq .int false (.const (AV.int .i64 (Int.ofNat ((tyV x).2)))) (.const (AV.int .i64 (Int.ofNat ((tyV x).2))))) .lf H0 = .ok (AV.bool true) ∧ (call 47 [(AV.int .u8 (Int.ofNat x))] e23.h = .ok (AV.bool (refV x)) e23.h ∧ (call 48 [(AV.int .u8 (Int.ofNat x))] e23.h = .ok (AV.bool (refV x)) e23.h ∧ (evQ (.eq .bool false (.const (AV.bool (refV x))) (.const (AV.bool (refV x)))) .lf H0 = .ok (AV.bool true) ∧ (evQ (.loadA 2 (.const (AV.ptr (Hp.next e2.h) 0))) .lf e23.h = .ok (AV.agg [(avN 0 e2.v), (avN 1 e2.v)]) ∧ (evQ (.loadA 2 (.const (AV.ptr (Hp.next e8.h) 0))) .lf e23.h = .ok (AV.agg [(avN 0 e8.v), (avN 1 e8.v)]) ∧ (∃ e26 : Ev, call 49 [(AV.agg [(avN 0 e2.v), (avN 1 e2.v)]), (AV.agg [(avN 0 e8.v), (avN 1 e8.v)])] e23.h = .ok (AV.bool true) e26.h ∧ (evQ (.eq .int false (.const (AV.int .i64 (Int.ofNat ((takeF l).2.1)))) (.const (AV.int .i64 (Int.ofNat ((takeF l).2.1))))) .lf H0 = .ok (AV.bool true) ∧ (evQ (.eq .int false (.const (AV.int .i64 (Int.ofNat ((takeF l).2.2)))) (.const (AV.int .i64 (Int.ofNat ((takeF l).2.2))))) .lf H0 = .ok (AV.bool true) ∧ (evQ (.loadA 3 (.const (AV.ptr (Hp.next e14.h) 0))) .lf e26.h = .ok (AV.agg [(AV.int .u32 (Int.ofNat ((takeL l).1.1))), (AV.int .u32 (Int.ofNat ((takeL l).1.2.1))), (AV.bool ((takeL l).1.2.2))]) ∧ (evQ (.loadA 3 (.const (AV.ptr (Hp.next e20.h) 0))) .lf e26.h = .ok (AV.agg [(AV.int .u32 (Int.ofNat ((takeL l).1.1))), (AV.int .u32 (Int.ofNat ((takeL l).1.2.1))), (AV.bool ((takeL l).1.2.2))]) ∧ (evQ (.eqs [(0, .int), (1, .int), (2, .bool)] false (.const (AV.agg [(AV.int .u32 (Int.ofNat ((takeL l).1.1))), (AV.int .u32 (Int.ofNat ((takeL l).1.2.1))), (AV.bool ((takeL l).1.2.2))])) (.const (AV.agg [(AV.int .u32 (Int.ofNat ((takeL l).1.1))), (AV.int .u32 (Int.ofNat ((takeL l).1.2.1))), (AV.bool ((takeL l).1.2.2))]))) .lf H0 = .ok (AV.bool true) ∧ (evQ (.eq .int false (.const (AV.int .i64 (Int.ofNat ((takeL l).2.1)))) (.const (AV.int .i64 (Int.ofNat ((takeL l).2.1))))) .lf H0 = .ok (AV.bool true) ∧ (evQ (.eq .int false (.const (AV.int .i64 (Int.ofNat ((takeL l).2.2)))) (.const (AV.int .i64 (Int.ofNat ((takeL l).2.2))))) .lf H0 = .ok (AV.bool true) ∧ (fun (v : AV) (_ : Hp) => v = .bool true) (AV.bool true) e26.h)))))))))))))))) ∧ ((tyV x).1 = false → (evQ (.move (.const (AV.bool ((tyV x).1)))) .lf H0 = .ok (AV.bool false) ∧ (evQ (.eq .int false (.const (AV.int .i64 (Int.ofNat ((tyV x).2)))) (.const (AV.int .i64 (Int.ofNat ((tyV x).2))))) .lf H0 = .ok (AV.bool true) ∧ (call 47 [(AV.int .u8 (Int.ofNat x))] e23.h = .ok (AV.bool (refV x)) e23.h ∧ (call 48 [(AV.int .u8 (Int.ofNat x))] e23.h = .ok (AV.bool (refV x)) e23.h ∧ (evQ (.eq .bool false (.const (AV.bool (refV x))) (.const (AV.bool (refV x)))) .lf H0 = .ok (AV.bool true) ∧ (evQ (.loadA 2 (.const (AV.ptr (Hp.next e2.h) 0))) .lf e23.h = .ok (AV.agg [(avN 0 e2.v), (avN 1 e2.v)]) ∧ (evQ (.loadA 2 (.const (AV.ptr (Hp.next e8.h) 0))) .lf e23.h = .ok (AV.agg [(avN 0 e8.v), (avN 1 e8.v)]) ∧ (∃ e26 : Ev, call 49 [(AV.agg [(avN 0 e2.v), (avN 1 e2.v)]), (AV.agg [(avN 0 e8.v), (avN 1 e8.v)])] e23.h = .ok (AV.bool true) e26.h ∧ (evQ (.eq .int false (.const (AV.int .i64 (Int.ofNat ((takeF l).2.1)))) (.const (AV.int .i64 (Int.ofNat ((takeF l).2.1))))) .lf H0 = .ok (AV.bool true) ∧ (evQ (.eq .int false (.const (AV.int .i64 (Int.ofNat ((takeF l).2.2)))) (.const (AV.int .i64 (Int.ofNat ((takeF l).2.2))))) .lf H0 = .ok (AV.bool true) ∧ (evQ (.loadA 3 (.const (AV.ptr (Hp.next e14.h) 0))) .lf e26.h = .ok (AV.agg [(AV.int .u32 (Int.ofNat ((takeL l).1.1))), (AV.int .u32 (Int.ofNat ((takeL l).1.2.1))), (AV.bool ((takeL l).1.2.2))]) ∧ (evQ (.loadA 3 (.const (AV.ptr (Hp.next e20.h) 0))) .lf e26.h = .ok (AV.agg [(AV.int .u32 (Int.ofNat ((takeL l).1.1))), (AV.int .u32 (Int.ofNat ((takeL l).1.2.1))), (AV.bool ((takeL l).1.2.2))]) ∧ (evQ (.eqs [(0, .int), (1, .int), (2, .bool)] false (.const (AV.agg [(AV.int .u32 (Int.ofNat ((takeL l).1.1))), (AV.int .u32 (Int.ofNat ((takeL l).1.2.1))), (AV.bool ((takeL l).1.2.2))])) (.const (AV.agg [(AV.int .u32 (Int.ofNat ((takeL l).1.1))), (AV.int .u32 (Int.ofNat ((takeL l).1.2.1))), (AV.bool ((takeL l).1.2.2))]))) .lf H0 = .ok (AV.bool true) ∧ (evQ (.eq .int false (.const (AV.int .i64 (Int.ofNat ((takeL l).2.1)))) (.const (AV.int .i64 (Int.ofNat ((takeL l).2.1))))) .lf H0 = .ok (AV.bool true) ∧ (evQ (.eq .int false (.const (AV.int .i64 (Int.ofNat ((takeL l).2.2)))) (.const (AV.int .i64 (Int.ofNat ((takeL l).2.2))))) .lf H0 = .ok (AV.bool true) ∧ (fun (v : AV) (_ : Hp) => v = .bool true) (AV.bool true) e26.h)))))))))))))))))))))))))))))))) (by kernel_rfl) ?_
  refine ⟨hbegun _, ?_⟩
  refine ⟨q_len (BIn.now S0 (i := 0) rfl P), ?_⟩
  refine ⟨fun c1 => ?_, fun c1 => ?_⟩
  · have rc1 := c1
    replace c1 : 40 < l.length := ltI_t c1
    exact rfl
  · have rc1 := c1
    replace c1 : l.length ≤ 40 := ltI_f c1
    refine ⟨hval _ _ hx, ?_⟩
    refine ⟨hrv _ _ hx, ?_⟩
    obtain ⟨xe2, ye2, he2, qe2, se2⟩ := htf l P (by omega) S0
    obtain ⟨e2, rfl, rfl, rfl⟩ : ∃ e : Ev, xe2 = avN 0 e.v ∧ ye2 = avN 1 e.v ∧ he2 = e.h := ⟨⟨.tuple [xe2, ye2], .lf, he2⟩, rfl, rfl, rfl⟩
    have S3 : Sep [OwnO 1 (avN 0 e2.v) ((takeF l).1.1.length) (u8s (takeF l).1.1), OwnO 1 (avN 1 e2.v) ((takeF l).1.2.length) (u8s (takeF l).1.2), Frz (fun k => k < h.next) h] e2.h := se2
    refine ⟨e2, qe2, ?_⟩
    have S4 : Sep [Cel (Hp.next e2.h) [AV.nilSlice, AV.nilSlice], OwnO 1 (avN 0 e2.v) ((takeF l).1.1.length) (u8s (takeF l).1.1), OwnO 1 (avN 1 e2.v) ((takeF l).1.2.length) (u8s (takeF l).1.2), Frz (fun k => k < h.next) h] (hpush e2.h (mkCells [AV.nilSlice, AV.nilSlice] 2)) := cel_new S3 [AV.nilSlice, AV.nilSlice] rfl
    obtain ⟨e5, qe5, se5⟩ := cel_storeN call S4 (i := 0) (o := 0) (n := 2) (xs := [(avN 0 e2.v), (avN 1 e2.v)]) rfl (by first | decide | (simp; done) | (simp only [List.length_cons, List.length_nil]; omega)) rfl (by decide) (all_cell (own_cell S4 (i := 1) rfl) (all_cell (own_cell S4 (i := 2) rfl) all_cell0))
    have S6 : Sep [Cel (Hp.next e2.h) [(avN 0 e2.v), (avN 1 e2.v)], OwnO 1 (avN 0 e2.v) ((takeF l).1.1.length) (u8s (takeF l).1.1), OwnO 1 (avN 1 e2.v) ((takeF l).1.2.length) (u8s (takeF l).1.2), Frz (fun k => k < h.next) h] e5.h := se5
    refine ⟨e5, qe5, ?_⟩
    have S7 : Sep [Frz (fun k => k < h.next) h, Cel (Hp.next e2.h) [(avN 0 e2.v), (avN 1 e2.v)], OwnO 1 (avN 0 e2.v) ((takeF l).1.1.length) (u8s (takeF l).1.1), OwnO 1 (avN 1 e2.v) ((takeF l).1.2.length) (u8s (takeF l).1.2)] e5.h := S6.front 3 rfl
    obtain ⟨xe8, ye8, he8, qe8, se8⟩ := hrtf l P (by omega) S7
    obtain ⟨e8, rfl, rfl, rfl⟩ : ∃ e : Ev, xe8 = avN 0 e.v ∧ ye8 = avN 1 e.v ∧ he8 = e.h := ⟨⟨.tuple [xe8, ye8], .lf, he8⟩, rfl, rfl, rfl⟩
    have S9 : Sep [OwnO 1 (avN 0 e8.v) ((takeF l).1.1.length) (u8s (takeF l).1.1), OwnO 1 (avN 1 e8.v) ((takeF l).1.2.length) (u8s (takeF l).1.2), Frz (fun k => k < h.next) h, Cel (Hp.next e2.h) [(avN 0 e2.v), (avN 1 e2.v)], OwnO 1 (avN 0 e2.v) ((takeF l).1.1.length) (u8s (takeF l).1.1), OwnO 1 (avN 1 e2.v) ((takeF l).1.2.length) (u8s (takeF l).1.2)] e8.h := se8
    refine ⟨e8, qe8, ?_⟩
    have S10 : Sep [Cel (Hp.next e8.h) [AV.nilSlice, AV.nilSlice], OwnO 1 (avN 0 e8.v) ((takeF l).1.1.length) (u8s (takeF l).1.1), OwnO 1 (avN 1 e8.v) ((takeF l).1.2.length) (u8s (takeF l).1.2), Frz (fun k => k < h.next) h, Cel (Hp.next e2.h) [(avN 0 e2.v), (avN 1 e2.v)], OwnO 1 (avN 0 e2.v) ((takeF l).1.1.length) (u8s (takeF l).1.1), OwnO 1 (avN 1 e2.v) ((takeF l).1.2.length) (u8s (takeF l).1.2)] (hpush e8.h (mkCells [AV.nilSlice, AV.nilSlice] 2)) := cel_new S9 [AV.nilSlice, AV.nilSlice] rfl
    obtain ⟨e11, qe11, se11⟩ := cel_storeN call S10 (i := 0) (o := 0) (n := 2) (xs := [(avN 0 e8.v), (avN 1 e8.v)]) rfl (by first | decide | (simp; done) | (simp only [List.length_cons, List.length_nil]; omega)) rfl (by decide) (all_cell (own_cell S10 (i := 1) rfl) (all_cell (own_cell S10 (i := 2) rfl) all_cell0))
    have S12 : Sep [Cel (Hp.next e8.h) [(avN 0 e8.v), (avN 1 e8.v)], OwnO 1 (avN 0 e8.v) ((takeF l).1.1.length) (u8s (takeF l).1.1), OwnO 1 (avN 1 e8.v) ((takeF l).1.2.length) (u8s (takeF l).1.2), Frz (fun k => k < h.next) h, Cel (Hp.next e2.h) [(avN 0 e2.v), (avN 1 e2.v)], OwnO 1 (avN 0 e2.v) ((takeF l).1.1.length) (u8s (takeF l).1.1), OwnO 1 (avN 1 e2.v) ((takeF l).1.2.length) (u8s (takeF l).1.2)] e11.h := se11
    refine ⟨e11, qe11, ?_⟩
    have S13 : Sep [Frz (fun k => k < h.next) h, Cel (Hp.next e8.h) [(avN 0 e8.v), (avN 1 e8.v)], OwnO 1 (avN 0 e8.v) ((takeF l).1.1.length) (u8s (takeF l).1.1), OwnO 1 (avN 1 e8.v) ((takeF l).1.2.length) (u8s (takeF l).1.2), Cel (Hp.next e2.h) [(avN 0 e2.v), (avN 1 e2.v)], OwnO 1 (avN 0 e2.v) ((takeF l).1.1.length) (u8s (takeF l).1.1), OwnO 1 (avN 1 e2.v) ((takeF l).1.2.length) (u8s (takeF l).1.2)] e11.h := S12.front 3 rfl
    obtain ⟨he14, qe14, se14⟩ := htl l P (by omega) S13
    obtain ⟨e14, rfl⟩ : ∃ e : Ev, he14 = e.h := ⟨⟨.nilPtr, .lf, he14⟩, rfl⟩
    have S15 : Sep [Frz (fun k => k < h.next) h, Cel (Hp.next e8.h) [(avN 0 e8.v), (avN 1 e8.v)], OwnO 1 (avN 0 e8.v) ((takeF l).1.1.length) (u8s (takeF l).1.1), OwnO 1 (avN 1 e8.v) ((takeF l).1.2.length) (u8s (takeF l).1.2), Cel (Hp.next e2.h) [(avN 0 e2.v), (avN 1 e2.v)], OwnO 1 (avN 0 e2.v) ((takeF l).1.1.length) (u8s (takeF l).1.1), OwnO 1 (avN 1 e2.v) ((takeF l).1.2.length) (u8s (takeF l).1.2)] e14.h := se14
    refine ⟨e14, qe14, ?_⟩
    have S16 : Sep [Cel (Hp.next e14.h) [(AV.int .u32 (Int.ofNat 0)), (AV.int .u32 (Int.ofNat 0)), (AV.bool false)], Frz (fun k => k < h.next) h, Cel (Hp.next e8.h) [(avN 0 e8.v), (avN 1 e8.v)], OwnO 1 (avN 0 e8.v) ((takeF l).1.1.length) (u8s (takeF l).1.1), OwnO 1 (avN 1 e8.v) ((takeF l).1.2.length) (u8s (takeF l).1.2), Cel (Hp.next e2.h) [(avN 0 e2.v), (avN 1 e2.v)], OwnO 1 (avN 0 e2.v) ((takeF l).1.1.length) (u8s (takeF l).1.1), OwnO 1 (avN 1 e2.v) ((takeF l).1.2.length) (u8s (takeF l).1.2)] (hpush e14.h (mkCells [(AV.int .u32 (Int.ofNat 0)), (AV.int .u32 (Int.ofNat 0)), (AV.bool false)] 3)) := cel_new S15 [(AV.int .u32 (Int.ofNat 0)), (AV.int .u32 (Int.ofNat 0)), (AV.bool false)] rfl
    obtain ⟨e17, qe17, se17⟩ := cel_storeN call S16 (i := 0) (o := 0) (n := 3) (xs := [(AV.int .u32 (Int.ofNat ((takeL l).1.1))), (AV.int .u32 (Int.ofNat ((takeL l).1.2.1))), (AV.bool ((takeL l).1.2.2))]) rfl (by first | decide | (simp; done) | (simp only [List.length_cons, List.length_nil]; omega)) rfl (by decide) (all_cell rfl (all_cell rfl (all_cell rfl all_cell0)))
    have S18 : Sep [Cel (Hp.next e14.h) [(AV.int .u32 (Int.ofNat ((takeL l).1.1))), (AV.int .u32 (Int.ofNat ((takeL l).1.2.1))), (AV.bool ((takeL l).1.2.2))], Frz (fun k => k < h.next) h, Cel (Hp.next e8.h) [(avN 0 e8.v), (avN 1 e8.v)], OwnO 1 (avN 0 e8.v) ((takeF l).1.1.length) (u8s (takeF l).1.1), OwnO 1 (avN 1 e8.v) ((takeF l).1.2.length) (u8s (takeF l).1.2), Cel (Hp.next e2.h) [(avN 0 e2.v), (avN 1 e2.v)], OwnO 1 (avN 0 e2.v) ((takeF l).1.1.length) (u8s (takeF l).1.1), OwnO 1 (avN 1 e2.v) ((takeF l).1.2.length) (u8s (takeF l).1.2)] e17.h := se17
    refine ⟨e17, qe17, ?_⟩
    have S19 : Sep [Frz (fun k => k < h.next) h, Cel (Hp.next e14.h) [(AV.int .u32 (Int.ofNat ((takeL l).1.1))), (AV.int .u32 (Int.ofNat ((takeL l).1.2.1))), (AV.bool ((takeL l).1.2.2))], Cel (Hp.next e8.h) [(avN 0 e8.v), (avN 1 e8.v)], OwnO 1 (avN 0 e8.v) ((takeF l).1.1.length) (u8s (takeF l).1.1), OwnO 1 (avN 1 e8.v) ((takeF l).1.2.length) (u8s (takeF l).1.2), Cel (Hp.next e2.h) [(avN 0 e2.v), (avN 1 e2.v)], OwnO 1 (avN 0 e2.v) ((takeF l).1.1.length) (u8s (takeF l).1.1), OwnO 1 (avN 1 e2.v) ((takeF l).1.2.length) (u8s (takeF l).1.2)] e17.h := S18.front 1 rfl
    obtain ⟨he20, qe20, se20⟩ := hrtl l P (by omega) S19
    obtain ⟨e20, rfl⟩ : ∃ e : Ev, he20 = e.h := ⟨⟨.nilPtr, .lf, he20⟩, rfl⟩
    have S21 : Sep [Frz (fun k => k < h.next) h, Cel (Hp.next e14.h) [(AV.int .u32 (Int.ofNat ((takeL l).1.1))), (AV.int .u32 (Int.ofNat ((takeL l).1.2.1))), (AV.bool ((takeL l).1.2.2))], Cel (Hp.next e8.h) [(avN 0 e8.v), (avN 1 e8.v)], OwnO 1 (avN 0 e8.v) ((takeF l).1.1.length) (u8s (takeF l).1.1), OwnO 1 (avN 1 e8.v) ((takeF l).1.2.length) (u8s (takeF l).1.2), Cel (Hp.next e2.h) [(avN 0 e2.v), (avN 1 e2.v)], OwnO 1 (avN 0 e2.v) ((takeF l).1.1.length) (u8s (takeF l).1.1), OwnO 1 (avN 1 e2.v) ((takeF l).1.2.length) (u8s (takeF l).1.2)] e20.h := se20
    refine ⟨e20, qe20, ?_⟩
    have S22 : Sep [Cel (Hp.next e20.h) [(AV.int .u32 (Int.ofNat 0)), (AV.int .u32 (Int.ofNat 0)), (AV.bool false)], Frz (fun k => k < h.next) h, Cel (Hp.next e14.h) [(AV.int .u32 (Int.ofNat ((takeL l).1.1))), (AV.int .u32 (Int.ofNat ((takeL l).1.2.1))), (AV.bool ((takeL l).1.2.2))], Cel (Hp.next e8.h) [(avN 0 e8.v), (avN 1 e8.v)], OwnO 1 (avN 0 e8.v) ((takeF l).1.1.length) (u8s (takeF l).1.1), OwnO 1 (avN 1 e8.v) ((takeF l).1.2.length) (u8s (takeF l).1.2), Cel (Hp.next e2.h) [(avN 0 e2.v), (avN 1 e2.v)], OwnO 1 (avN 0 e2.v) ((takeF l).1.1.length) (u8s (takeF l).1.1), OwnO 1 (avN 1 e2.v) ((takeF l).1.2.length) (u8s (takeF l).1.2)] (hpush e20.h (mkCells [(AV.int .u32 (Int.ofNat 0)), (AV.int .u32 (Int.ofNat 0)), (AV.bool false)] 3)) := cel_new S21 [(AV.int .u32 (Int.ofNat 0)), (AV.int .u32 (Int.ofNat 0)), (AV.bool false)] rfl
    obtain ⟨e23, qe23, se23⟩ := cel_storeN call S22 (i := 0) (o := 0) (n := 3) (xs := [(AV.int .u32 (Int.ofNat ((takeL l).1.1))), (AV.int .u32 (Int.ofNat ((takeL l).1.2.1))), (AV.bool ((takeL l).1.2.2))]) rfl (by first | decide | (simp; done) | (simp only [List.length_cons, List.length_nil]; omega)) rfl (by decide) (all_cell rfl (all_cell rfl (all_cell rfl all_cell0)))
    have S24 : Sep [Cel (Hp.next e20.h) [(AV.int .u32 (Int.ofNat ((takeL l).1.1))), (AV.int .u32 (Int.ofNat ((takeL l).1.2.1))), (AV.bool ((takeL l).1.2.2))], Frz (fun k => k < h.next) h, Cel (Hp.next e14.h) [(AV.int .u32 (Int.ofNat ((takeL l).1.1))), (AV.int .u32 (Int.ofNat ((takeL l).1.2.1))), (AV.bool ((takeL l).1.2.2))], Cel (Hp.next e8.h) [(avN 0 e8.v), (avN 1 e8.v)], OwnO 1 (avN 0 e8.v) ((takeF l).1.1.length) (u8s (takeF l).1.1), OwnO 1 (avN 1 e8.v) ((takeF l).1.2.length) (u8s (takeF l).1.2), Cel (Hp.next e2.h) [(avN 0 e2.v), (avN 1 e2.v)], OwnO 1 (avN 0 e2.v) ((takeF l).1.1.length) (u8s (takeF l).1.1), OwnO 1 (avN 1 e2.v) ((takeF l).1.2.length) (u8s (takeF l).1.2)] e23.h := se23
    refine ⟨e23, qe23, ?_⟩
    refine ⟨fun c25 => ?_, fun c25 => ?_⟩
    · have rc25 := c25
      refine ⟨congrArg (fun z => OV.ok (AV.bool z)) (rc25), ?_⟩
      refine ⟨congrArg (fun z => OV.ok (AV.bool z)) (eqI_self (Int.ofNat ((tyV x).2))), ?_⟩
      refine ⟨href _ _ hx, ?_⟩
      refine ⟨hrref _ _ hx, ?_⟩
      refine ⟨eqBool_same _, ?_⟩
      refine ⟨cel_loadA S24 (i := 6) (o := 0) (n := 2) rfl (by first | decide | (simp; done) | (simp only [List.length_cons, List.length_nil]; omega)), ?_⟩
      refine ⟨cel_loadA S24 (i := 3) (o := 0) (n := 2) rfl (by first | decide | (simp; done) | (simp only [List.length_cons, List.length_nil]; omega)), ?_⟩
      have tle26 := takeF_len l
      obtain ⟨he26, qe26, oe26⟩ := hsame (own_bytes S24 (i := 7) rfl (takeF_lt (BIn.lt P)).1) (own_bytes S24 (i := 8) rfl (takeF_lt (BIn.lt P)).2) (own_bytes S24 (i := 4) rfl (takeF_lt (BIn.lt P)).1) (own_bytes S24 (i := 5) rfl (takeF_lt (BIn.lt P)).2) (by omega) (by omega)
      rw [show decide ((takeF l).1.1 = (takeF l).1.1 ∧ (takeF l).1.2 = (takeF l).1.2) = true from decide_eq_true ⟨rfl, rfl⟩] at qe26
      obtain ⟨e26, rfl⟩ : ∃ e : Ev, he26 = e.h := ⟨⟨.nilPtr, .lf, he26⟩, rfl⟩
      have S27 : Sep [Cel (Hp.next e20.h) [(AV.int .u32 (Int.ofNat ((takeL l).1.1))), (AV.int .u32 (Int.ofNat ((takeL l).1.2.1))), (AV.bool ((takeL l).1.2.2))], Frz (fun k => k < h.next) h, Cel (Hp.next e14.h) [(AV.int .u32 (Int.ofNat ((takeL l).1.1))), (AV.int .u32 (Int.ofNat ((takeL l).1.2.1))), (AV.bool ((takeL l).1.2.2))], Cel (Hp.next e8.h) [(avN 0 e8.v), (avN 1 e8.v)], OwnO 1 (avN 0 e8.v) ((takeF l).1.1.length) (u8s (takeF l).1.1), OwnO 1 (avN 1 e8.v) ((takeF l).1.2.length) (u8s (takeF l).1.2), Cel (Hp.next e2.h) [(avN 0 e2.v), (avN 1 e2.v)], OwnO 1 (avN 0 e2.v) ((takeF l).1.1.length) (u8s (takeF l).1.1), OwnO 1 (avN 1 e2.v) ((takeF l).1.2.length) (u8s (takeF l).1.2)] e26.h := Sep.on S24 oe26.next oe26.get
      refine ⟨e26, qe26, ?_⟩
      refine ⟨congrArg (fun z => OV.ok (AV.bool z)) (eqI_self (Int.ofNat ((takeF l).2.1))), ?_⟩
      refine ⟨congrArg (fun z => OV.ok (AV.bool z)) (eqI_self (Int.ofNat ((takeF l).2.2))), ?_⟩
      refine ⟨cel_loadA S27 (i := 2) (o := 0) (n := 3) rfl (by first | decide | (simp; done) | (simp only [List.length_cons, List.length_nil]; omega)), ?_⟩
      refine ⟨cel_loadA S27 (i := 0) (o := 0) (n := 3) rfl (by first | decide | (simp; done) | (simp only [List.length_cons, List.length_nil]; omega)), ?_⟩
      refine ⟨eqs_lim _ _ _ _, ?_⟩
      refine ⟨congrArg (fun z => OV.ok (AV.bool z)) (eqI_self (Int.ofNat ((takeL l).2.1))), ?_⟩
      refine ⟨congrArg (fun z => OV.ok (AV.bool z)) (eqI_self (Int.ofNat ((takeL l).2.2))), ?_⟩
      exact rfl
    · have rc25 := c25
      refine ⟨congrArg (fun z => OV.ok (AV.bool z)) (rc25), ?_⟩
      refine ⟨congrArg (fun z => OV.ok (AV.bool z)) (eqI_self (Int.ofNat ((tyV x).2))), ?_⟩
      refine ⟨href _ _ hx, ?_⟩
      refine ⟨hrref _ _ hx, ?_⟩
      refine ⟨eqBool_same _, ?_⟩
      refine ⟨cel_loadA S24 (i := 6) (o := 0) (n := 2) rfl (by first | decide | (simp; done) | (simp only [List.length_cons, List.length_nil]; omega)), ?_⟩
      refine ⟨cel_loadA S24 (i := 3) (o := 0) (n := 2) rfl (by first | decide | (simp; done) | (simp only [List.length_cons, List.length_nil]; omega)), ?_⟩
      have tle26 := takeF_len l
      obtain ⟨he26, qe26, oe26⟩ := hsame (own_bytes S24 (i := 7) rfl (takeF_lt (BIn.lt P)).1) (own_bytes S24 (i := 8) rfl (takeF_lt (BIn.lt P)).2) (own_bytes S24 (i := 4) rfl (takeF_lt (BIn.lt P)).1) (own_bytes S24 (i := 5) rfl (takeF_lt (BIn.lt P)).2) (by omega) (by omega)
      rw [show decide ((takeF l).1.1 = (takeF l).1.1 ∧ (takeF l).1.2 = (takeF l).1.2) = true from decide_eq_true ⟨rfl, rfl⟩] at qe26
      obtain ⟨e26, rfl⟩ : ∃ e : Ev, he26 = e.h := ⟨⟨.nilPtr, .lf, he26⟩, rfl⟩
      have S27 : Sep [Cel (Hp.next e20.h) [(AV.int .u32 (Int.ofNat ((takeL l).1.1))), (AV.int .u32 (Int.ofNat ((takeL l).1.2.1))), (AV.bool ((takeL l).1.2.2))], Frz (fun k => k < h.next) h, Cel (Hp.next e14.h) [(AV.int .u32 (Int.ofNat ((takeL l).1.1))), (AV.int .u32 (Int.ofNat ((takeL l).1.2.1))), (AV.bool ((takeL l).1.2.2))], Cel (Hp.next e8.h) [(avN 0 e8.v), (avN 1 e8.v)], OwnO 1 (avN 0 e8.v) ((takeF l).1.1.length) (u8s (takeF l).1.1), OwnO 1 (avN 1 e8.v) ((takeF l).1.2.length) (u8s (takeF l).1.2), Cel (Hp.next e2.h) [(avN 0 e2.v), (avN 1 e2.v)], OwnO 1 (avN 0 e2.v) ((takeF l).1.1.length) (u8s (takeF l).1.1), OwnO 1 (avN 1 e2.v) ((takeF l).1.2.length) (u8s (takeF l).1.2)] e26.h := Sep.on S24 oe26.next oe26.get
      refine ⟨e26, qe26, ?_⟩
      refine ⟨congrArg (fun z => OV.ok (AV.bool z)) (eqI_self (Int.ofNat ((takeF l).2.1))), ?_⟩
      refine ⟨congrArg (fun z => OV.ok (AV.bool z)) (eqI_self (Int.ofNat ((takeF l).2.2))), ?_⟩
      refine ⟨cel_loadA S27 (i := 2) (o := 0) (n := 3) rfl (by first | decide | (simp; done) | (simp only [List.length_cons, List.length_nil]; omega)), ?_⟩
      refine ⟨cel_loadA S27 (i := 0) (o := 0) (n := 3) rfl (by first | decide | (simp; done) | (simp only [List.length_cons, List.length_nil]; omega)), ?_⟩
      refine ⟨eqs_lim _ _ _ _, ?_⟩
      refine ⟨congrArg (fun z => OV.ok (AV.bool z)) (eqI_self (Int.ofNat ((takeL l).2.1))), ?_⟩
      refine ⟨congrArg (fun z => OV.ok (AV.bool z)) (eqI_self (Int.ofNat ((takeL l).2.2))), ?_⟩
      exact rfl
theorem walk (a0 : BArg) (x1 : Nat) (W : World) (l0 : a0.lies W) (f1 : x1 < 256) :
    Calls Try.prog 11 #[a0.v, .int .u8 (.ofNat x1)] W fun e W' => e = .returned (.bool true) ∧ Below W.heap.size W W' := by
  obtain ⟨μ, h, vs, hs, hm, hn, hvs, _⟩ := start_bytes (w := W) [a0] (by simp only [List.mem_cons, List.not_mem_nil, or_false]; rintro a (rfl) <;> assumption)
  obtain ⟨vb0, rfl⟩ : ∃ vb0, vs = [vb0] := by
    match vs, hn with
    | [vb0], _ => exact ⟨vb0, rfl⟩
  obtain ⟨r0, b0⟩ := hvs 0 vb0 a0 rfl rfl
  obtain ⟨rv, rh, e, hr⟩ := law_walk (call := CC 10) (N := 100000) (h := h) b0 f1 (evF_sum (by decide)) (s_val 9) (s_rval 9) (s_takeF 4) (s_rtakeF' 4) (s_takeL 5) (s_rtakeL' 5) (s_ref 9) (s_rref 9) (s_rsame 9)
  have hr : rv = .bool true := hr
  subst hr
  refine start_law compDrawn_ok (sumT_ok trues) (N := 100000) (d := 11) hs hm (args := [vb0, .int .u8 (.ofNat x1)]) ?_ (by rw [evF_at (sumT_none rfl)]; exact e)
  rw [VRs_cons]; refine ⟨_, _, rfl, r0, ?_⟩
  rw [VRs_cons]; exact ⟨_, _, rfl, (by rw [VR_int]), by rw [VRs_nil]⟩
theorem own : ownKnob Try.prog.godebug = none := by kernel_rfl
theorem laidOut : laidOutB Try.prog = true := by kernel_rfl
set_option maxRecDepth 100000 in
set_option maxHeartbeats 1000000 in
theorem lifted (os : Os) (started : os.Started) (H : Type) (enc : TypeId × Value → H) :
    ReturnsInHanded {} Try.checked os 11 .any (Rows.typesAllSpec.pre6 enc Try.prog Try.f11 Rows.typesAllRow.domain false) (Rows.typesAllSpec.post enc Try.prog Try.f11 false true false false) := by
  refine returnsInHanded_of_change_sized (C := Try.checked) own started (by kernel_rfl) Try.func11
    (ChangeSpec.witness6 (enc := enc) (C := Try.checked) false ⟨#[], #[.slice none 0 0, .int .u8 0], []⟩ 8 (by kernel_rfl) (by kernel_rfl) (by kernel_rfl) (by kernel_rfl)) ?_
  intro W base args ds gs before hval0 hW hcnd hsz0 _
  have hval : ∀ (j : Nat) t v, Try.f11.params[j]? = some t → args[j]? = some v → Value.okWide Try.prog W .any base t v := hval0
  have hW' := hW
  obtain ⟨p, q, hA0, hV, rfl, hfz, hnd⟩ := hW
  have hA : DataW.TrodAll enc Try.prog W 0 (fun _ => true) true Try.f11.params.toList args.toList ds p := hA0
  rw [Try.params11] at hA hval
  obtain ⟨rfl, rfl⟩ := trodVars_none hV
  simp only [List.append_nil] at hW'
  obtain ⟨v0, vs0, d0, ds0, p0, q0, hargs, rfl, rfl, h0, r0⟩ := trodAll_cons hA
  obtain ⟨v1, vs1, d1, ds1, p1, q1, rfl, rfl, rfl, h1, r1⟩ := trodAll_cons r0
  obtain ⟨rfl, rfl, rfl⟩ := trodAll_nil r1
  obtain rfl : args = #[v0, v1] := by cases args; simp_all
  have hlt : ∀ x ∈ p0 ++ p1, x.block < W.heap.size := fun x hx => by simpa using hW'.lt x (by simpa using hx)
  obtain ⟨a0, rfl, l0, _⟩ := bytes_arg Try.underlying22 Try.underlying5 (by kernel_rfl) h0 (hval 0 22 _ rfl rfl)
  obtain ⟨y1, rfl, rfl, rfl, w1⟩ := open_int Try.underlying5 (hval 1 5 v1 rfl rfl) h1
  obtain ⟨x1, rfl, f1⟩ := u8_wf w1
  refine (walk a0 x1 W l0 f1).mono fun e W' ⟨he, bel⟩ => ?_
  subst he
  have t0 := Below.trod laidOut (by kernel_rfl) (of_decide_eq_true (by kernel_rfl)) h0 bel (fun x hx => hlt x (by simp [hx]))
  exact ⟨_, rfl, _, _, _, [], _, [], hW', trodAll_mk1 (shut_bool Try.underlying4 _), (trodAll_cons_mk t0 (trodAll_cons_mk (shut_int Try.underlying5 w1) trodAll_mk0)), rfl, bel.frame _, fun h => by cases h⟩
theorem over : Rows.typesAllRow.holds Try.pinned (OpenSpec.ofChange Rows.typesAllSpec) :=
  OpenClaim.holds_of_wide 11 Try.f11 rfl rfl rfl rfl rfl rfl rfl ⟨rfl, rfl, rfl, rfl, rfl⟩ rfl rfl rfl rfl rfl (by kernel_rfl) Try.func11 (by kernel_rfl)
    (of_decide_eq_true (by kernel_rfl)) (by unfold Func.isWrapper; first | (rw [if_pos (by decide +kernel)]; kernel_rfl) | (rw [if_neg (by decide +kernel)]; exact ⟨rfl, rfl⟩))
    (fun os started H enc _ => lifted os started H enc)
theorem proved : Rows.TypesAllSaid := over
end Go.Proofs.Ytejiebbbodealaa.typesAll
