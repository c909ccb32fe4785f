/- Functions' types that are the same. -/
import Derived.Test.YtejiebbbodealaaTy2
import Derived.Test.YtejiebbbodealaaTypesEq
set_option linter.unusedVariables false
set_option linter.unusedSimpArgs false
namespace Go.Proofs.Ytejiebbbodealaa
open Go Eng
theorem rsame_walk {call : CallT} {N : Nat} {h : Hp} {p q p' q' : AV} {l1 l2 m1 m2 : List Nat} (P : Bytes h.next h p l1) (Q : Bytes h.next h q l2) (P' : Bytes h.next h p' m1) (Q' : Bytes h.next h q' m2)
    : ∃ rv rh, evF1 (progS Try.prog (compDrawn Try.prog)) N call 49 [(AV.agg [p, q]), (AV.agg [p', q'])] h = .ok rv rh ∧ (fun (v : AV) (h' : Hp) => v = .bool (decide (l1 = m1 ∧ l2 = m2)) ∧ Old h.next h h') rv rh := by
  refine fwalk_ok (K := fun (v : AV) (h' : Hp) => v = .bool (decide (l1 = m1 ∧ l2 = m2)) ∧ Old h.next h h') (o := (.ell 0 .ptr (mkCells [p, q] 2) (.ell 0 .ptr (mkCells [p', q'] 2) (.tell 2 p (.tell 0 (AV.str l1) (.tell 1 p' (.tell 0 (AV.str m1) (.fork 1 (.tell 1 q (.tell 0 (AV.str l2) (.tell 1 q' (.tell 0 (AV.str m2) (.fork 2 .fin .fin))))) .fin)))))))) (p := (evL (.box (.const (AV.agg [p, q]))) .lf = .ok .ptr (mkCells [p, q] 2) ∧ (evL (.box (.const (AV.agg [p', q']))) .lf = .ok .ptr (mkCells [p', q'] 2) ∧ (evQ (.loadS (.const (AV.ptr (Hp.next h) 0))) .lf (hpush (hpush h (mkCells [p, q] 2)) (mkCells [p', q'] 2)) = .ok p ∧ (evQ (.toStr (.const p)) .lf (hpush (hpush h (mkCells [p, q] 2)) (mkCells [p', q'] 2)) = .ok (AV.str l1) ∧ (evQ (.loadS (.const (AV.ptr (Hp.next (hpush h (mkCells [p, q] 2))) 0))) .lf (hpush (hpush h (mkCells [p, q] 2)) (mkCells [p', q'] 2)) = .ok p' ∧ (evQ (.toStr (.const p')) .lf (hpush (hpush h (mkCells [p, q] 2)) (mkCells [p', q'] 2)) = .ok (AV.str m1) ∧ ((strEq l1 m1 = true → (evQ (.loadS (.const (AV.ptr (Hp.next h) 1))) .lf (hpush (hpush h (mkCells [p, q] 2)) (mkCells [p', q'] 2)) = .ok q ∧ (evQ (.toStr (.const q)) .lf (hpush (hpush h (mkCells [p, q] 2)) (mkCells [p', q'] 2)) = .ok (AV.str l2) ∧ (evQ (.loadS (.const (AV.ptr (Hp.next (hpush h (mkCells [p, q] 2))) 1))) .lf (hpush (hpush h (mkCells [p, q] 2)) (mkCells [p', q'] 2)) = .ok q' ∧ (evQ (.toStr (.const q')) .lf (hpush (hpush h (mkCells [p, q] 2)) (mkCells [p', q'] 2)) = .ok (AV.str m2) ∧ ((strEq l2 m2 = true → (fun (v : AV) (h' : Hp) => v = .bool (decide (l1 = m1 ∧ l2 = m2)) ∧ Old h.next h h') (AV.bool true) (hpush (hpush h (mkCells [p, q] 2)) (mkCells [p', q'] 2))) ∧ (strEq l2 m2 = false → (fun (v : AV) (h' : Hp) => v = .bool (decide (l1 = m1 ∧ l2 = m2)) ∧ Old h.next h h') (AV.bool false) (hpush (hpush h (mkCells [p, q] 2)) (mkCells [p', q'] 2))))))))) ∧ (strEq l1 m1 = false → (fun (v : AV) (h' : Hp) => v = .bool (decide (l1 = m1 ∧ l2 = m2)) ∧ Old h.next h h') (AV.bool false) (hpush (hpush h (mkCells [p, q] 2)) (mkCells [p', q'] 2))))))))))) (by kernel_rfl) ?_
  refine ⟨box_told rfl rfl (all_cell (Bytes.cell P) (all_cell (Bytes.cell Q) all_cell0)), ?_⟩
  have S1 : Sep [Cel (Hp.next h) [p, q]] (hpush h (mkCells [p, q] 2)) := cel_new (Sep.nil h) [p, q] rfl
  refine ⟨box_told rfl rfl (all_cell (Bytes.cell P') (all_cell (Bytes.cell Q') all_cell0)), ?_⟩
  have S2 : Sep [Cel (Hp.next (hpush h (mkCells [p, q] 2))) [p', q'], Cel (Hp.next h) [p, q]] (hpush (hpush h (mkCells [p, q] 2)) (mkCells [p', q'] 2)) := cel_new S1 [p', q'] rfl
  refine ⟨cel_load S2 (i := 1) rfl rfl, ?_⟩
  refine ⟨q_toStr (P.push2 _ _), ?_⟩
  refine ⟨cel_load S2 (i := 0) rfl rfl, ?_⟩
  refine ⟨q_toStr (P'.push2 _ _), ?_⟩
  refine ⟨fun c3 => ?_, fun c3 => ?_⟩
  · have rc3 := c3
    replace c3 : l1 = m1 := strEq_t c3
    refine ⟨cel_load S2 (i := 1) rfl rfl, ?_⟩
    refine ⟨q_toStr (Q.push2 _ _), ?_⟩
    refine ⟨cel_load S2 (i := 0) rfl rfl, ?_⟩
    refine ⟨q_toStr (Q'.push2 _ _), ?_⟩
    refine ⟨fun c4 => ?_, fun c4 => ?_⟩
    · have rc4 := c4
      replace c4 : l2 = m2 := strEq_t c4
      refine ⟨congrArg AV.bool ?_, Old.push2 _ _ _⟩
      simp_all
    · have rc4 := c4
      replace c4 : l2 ≠ m2 := strEq_f c4
      refine ⟨congrArg AV.bool ?_, Old.push2 _ _ _⟩
      simp_all
  · have rc3 := c3
    replace c3 : l1 ≠ m1 := strEq_f c3
    refine ⟨congrArg AV.bool ?_, Old.push2 _ _ _⟩
    simp_all
theorem s_rsame (d : Nat) : SameS (CC (d + 1)) 49 := fun {h p q p' q' l1 l2 m1 m2} P Q P' Q' _ _ => by
  rw [CC, evF_at (sumT_none rfl)]
  obtain ⟨rv, rh, e, rfl, o⟩ := rsame_walk (call := CC d) (N := 100000) P Q P' Q'
  exact ⟨rh, e, o⟩
theorem s_rtakeF' (d : Nat) : TakeFS (CC (d + 6)) 44 takeF := takeFr_eq ▸ s_rtakeF d
theorem s_rtakeL' (d : Nat) : TakeLS (CC (d + 5)) 46 takeL := takeLr_eq ▸ s_rtakeL d
end Go.Proofs.Ytejiebbbodealaa
