/- The readers of package types and of the reference come to the same. -/
import Derived.Test.YtejiebbbodealaaTypesPure
set_option linter.unusedVariables false
set_option linter.unusedSimpArgs false
namespace Eng
open Go Go.RowKit
theorem cuOne_sum (s : Cu) : (cuOne s).2.1.length + (cuOne s).2.2.1 = s.1.length + s.2.1 := by
  unfold cuOne
  split
  · split
    · rename_i h; rw [h]
    · rename_i h; rw [h]; simp only [List.length_cons]; omega
  · rfl
theorem cuNum_sum (s : Cu) : (cuNum s).2.1.length + (cuNum s).2.2.1 = s.1.length + s.2.1 := by
  unfold cuNum
  split
  · have := readG_len (size := 32) (sg := false) s.1 0 0 0
    simp only [List.length_drop]; omega
  · rfl
theorem cuFail_sum (is : Bool) (e : Nat) (s : Cu) : (cuFail is e s).1.length + (cuFail is e s).2.1 = s.1.length + s.2.1 := by
  have h := cuFail_bd is e s
  rw [h.1, h.2.1]
theorem cuValsL_sum : ∀ (k : Nat) (acc : List Nat) (s : Cu), (cuValsL k acc s).2.1.length + (cuValsL k acc s).2.2.1 = s.1.length + s.2.1
  | 0, acc, s => by unfold cuValsL; rfl
  | k + 1, acc, s => by
    unfold cuValsL
    split
    · have h4 : (cuVal s).2 = cuFail (notB (tyV (cuOne s).1).1) (tyV (cuOne s).1).2 (cuOne s).2 := rfl
      rw [cuValsL_sum k, h4, cuFail_sum, cuOne_sum]
    · rfl
theorem cuVals_sum (s : Cu) : (cuVals s).2.1.length + (cuVals s).2.2.1 = s.1.length + s.2.1 := by
  unfold cuVals
  rw [cuValsL_sum, cuFail_sum, cuNum_sum]
theorem notB_eqI (a b : Nat) : notB (eqI (.ofNat a) (.ofNat b)) = decide (a ≠ b) := by
  by_cases h : a = b
  · subst h; rw [eqI_self]; simp; rfl
  · have : eqI (.ofNat a) (.ofNat b) = false := by rw [eqI_eq]; simp; omega
    rw [this]; simp [h]; rfl
theorem fS_eq (l : List Nat) : rfS (l, 0) = cu (fS l) := by
  have h := cu_one (l, 0, 0)
  have h1 : cu (l, 0, 0) = (l, 0) := rfl
  rw [h1] at h
  unfold rfS fS
  rw [cu_fail, h.1, h.2, notB_eqI]
  by_cases h0 : (cuOne (l, 0, 0)).1 = 96
  · rw [if_pos h0]; simp [h0]
  · rw [if_neg h0]; simp [h0]
theorem lS_eq (l : List Nat) : rlS (l, 0) = cu (lS l) := by
  have h := cu_one (l, 0, 0)
  have h1 : cu (l, 0, 0) = (l, 0) := rfl
  rw [h1] at h
  unfold rlS lS
  rw [cu_fail, h.1, h.2]
  by_cases h0 : 1 < (cuOne (l, 0, 0)).1
  · rw [if_pos h0, if_pos ((ltN_iff _ _).2 h0)]
  · rw [if_neg h0, if_neg (fun hh => h0 ((ltN_iff _ _).1 hh))]
theorem takeFr_eq : takeFr = takeF := by
  funext l
  have a := cu_vals (fS l)
  have b := cu_vals (cuVals (fS l)).2
  have hsum : (cuVals (cuVals (fS l)).2).2.1.length + (cuVals (cuVals (fS l)).2).2.2.1 = l.length := by
    rw [cuVals_sum, cuVals_sum]
    show (fS l).1.length + (fS l).2.1 = l.length
    unfold fS
    rw [cuFail_sum, cuOne_sum]; rfl
  have h : rFT (l, 0) = (((cuVals (fS l)).1, (cuVals (cuVals (fS l)).2).1), cu (cuVals (cuVals (fS l)).2).2) := by
    unfold rFT
    rw [fS_eq, a.1, a.2, b.1, b.2]
  unfold takeFr takeF
  rw [h]
  show (if (cuVals (cuVals (fS l)).2).2.2.2 = 0 then _ else _) = _
  split
  · show (_, l.length - (cuVals (cuVals (fS l)).2).2.1.length, 0) = _
    rw [show l.length - (cuVals (cuVals (fS l)).2).2.1.length = (cuVals (cuVals (fS l)).2).2.2.1 by omega]
  · rfl
theorem takeLr_eq : takeLr = takeL := by
  funext l
  have h0 := cu_one (l, 0, 0)
  have a := cu_num (lS l)
  have b := cu_num (cuNum (lS l)).2
  have hl : (lS l).1.length + (lS l).2.1 = l.length := by unfold lS; rw [cuFail_sum, cuOne_sum]; rfl
  have s1 := cuNum_sum (lS l)
  have s2 := cuNum_sum (cuNum (lS l)).2
  have hx : (rByte (l, 0)).1 = (cuOne (l, 0, 0)).1 := h0.1
  unfold takeLr takeL rLm
  rw [lS_eq, hx, a.1, a.2, b.1, b.2]
  split
  · show (if (cuNum (cuNum (lS l)).2).2.2.2 = 0 then _ else _) = _
    split
    · show (_, l.length - (cuNum (cuNum (lS l)).2).2.1.length, 0) = _
      rw [show l.length - (cuNum (cuNum (lS l)).2).2.1.length = (cuNum (cuNum (lS l)).2).2.2.1 by omega]
    · rfl
  · show (if (cuNum (lS l)).2.2.2 = 0 then _ else _) = _
    split
    · show (_, l.length - (cuNum (lS l)).2.1.length, 0) = _
      rw [show l.length - (cuNum (lS l)).2.1.length = (cuNum (lS l)).2.2.1 by omega]
    · rfl
theorem eqBool_same (b : Bool) : evQ (.eq .bool false (.const (.bool b)) (.const (.bool b))) .lf H0 = .ok (.bool true) := by cases b <;> rfl
theorem eqs_lim (k : IntKind) (a b : Int) (c : Bool) : evQ (.eqs [(0, .int), (1, .int), (2, .bool)] false (.const (.agg [.int k a, .int k b, .bool c])) (.const (.agg [.int k a, .int k b, .bool c]))) .lf H0 = .ok (.bool true) := by
  have h1 : ikEq k k = true := ikEq_self k
  have h2 : eqI a a = true := by rw [eqI_eq]; simp
  have h3 : eqI b b = true := by rw [eqI_eq]; simp
  have e1 : ∀ (x : Int) (z : OV) (f : Bool → OV), eqI x x = true → eqAV .int (.int k x) (.int k x) z f = f true := fun x z f hx => by
    show bc (ikEq k k) (f (eqI x x)) z = _
    rw [h1, hx]; rfl
  show eqAV .int (.int k a) (.int k a) OV.no (fun r => bc r (eqAV .int (.int k b) (.int k b) OV.no fun r => bc r (eqAV .bool (.bool c) (.bool c) OV.no fun r => bc r (okB (bc false (notB true) true)) (okB (bc false (notB false) false))) (okB (bc false (notB false) false))) (okB (bc false (notB false) false))) = _
  rw [e1 a _ _ h2]
  show eqAV .int (.int k b) (.int k b) OV.no (fun r => bc r (eqAV .bool (.bool c) (.bool c) OV.no fun r => bc r (okB (bc false (notB true) true)) (okB (bc false (notB false) false))) (okB (bc false (notB false) false))) = _
  rw [e1 b _ _ h3]
  cases c <;> rfl
theorem cuValsL_len : ∀ (k : Nat) (acc : List Nat) (s : Cu), (cuValsL k acc s).1.length ≤ acc.length + (if s.2.2 = 0 then k else 0)
  | 0, acc, s => by unfold cuValsL; exact Nat.le_add_right _ _
  | k + 1, acc, s => by
    unfold cuValsL
    split
    · have := cuValsL_len k (acc ++ [(cuVal s).1]) (cuVal s).2
      rw [List.length_append, List.length_singleton] at this
      split at this <;> omega
    · exact Nat.le_add_right _ _
theorem cuVals_len (s : Cu) : (cuVals s).1.length ≤ 8 := by
  have h3 : (cuFail (ltI (.ofNat 8) (.ofNat (cuNum s).1)) 4 (cuNum s).2).2.2 = 0 → (cuNum s).1 ≤ 8 := fun h0 => by
    by_cases h8 : 8 < (cuNum s).1
    · exfalso
      unfold cuFail at h0
      by_cases hz : (cuNum s).2.2.2 = 0
      · rw [if_pos ⟨(ltN_iff _ _).2 h8, hz⟩] at h0; cases h0
      · rw [if_neg (fun hh => hz hh.2)] at h0; exact hz h0
    · omega
  have h := cuValsL_len (cuNum s).1 [] (cuFail (ltI (.ofNat 8) (.ofNat (cuNum s).1)) 4 (cuNum s).2)
  unfold cuVals
  rw [List.length_nil] at h
  split at h
  · have := h3 ‹_›; omega
  · omega
theorem takeF_len (l : List Nat) : (takeF l).1.1.length ≤ 8 ∧ (takeF l).1.2.length ≤ 8 := by
  unfold takeF
  split
  · exact ⟨cuVals_len _, cuVals_len _⟩
  · simp
def SameS (call : CallT) (f : Nat) : Prop := ∀ {h : Hp} {p q p' q' : AV} {l1 l2 m1 m2 : List Nat}, Bytes h.next h p l1 → Bytes h.next h q l2 → Bytes h.next h p' m1 → Bytes h.next h q' m2 → l1.length < 80000 → l2.length < 80000 →
  ∃ h', call f [.agg [p, q], .agg [p', q']] h = .ok (.bool (decide (l1 = m1 ∧ l2 = m2))) h' ∧ Old h.next h h'
def EqS (call : CallT) (f : Nat) : Prop := ∀ {B : Nat} {h : Hp} {va vb : AV} {l m : List Nat}, Bytes B h va l → Bytes B h vb m → l.length < 90000 → call f [va, vb] h = .ok (.bool (decide (l = m))) h
theorem Bytes.cell {B : Nat} {h : Hp} {v : AV} {l : List Nat} (P : Bytes B h v l) : isCell v = true := by cases P <;> rfl
theorem Bytes.cells {B : Nat} {h : Hp} {v : AV} {l : List Nat} (P : Bytes B h v l) : cellsOf v = [v] := by cases P <;> rfl
theorem Bytes.push1 {h : Hp} {v : AV} {l : List Nat} (P : Bytes h.next h v l) (x : Blk) : Bytes h.next (hpush h x) v l := P.old (.push (Nat.le_refl _) _)
theorem Bytes.push2 {h : Hp} {v : AV} {l : List Nat} (P : Bytes h.next h v l) (x y : Blk) : Bytes h.next (hpush (hpush h x) y) v l := P.old ((Old.push (Nat.le_refl _) _).trans (Old.push (Nat.le_succ _) _))
theorem Old.push2 (h : Hp) (x y : Blk) : Old h.next h (hpush (hpush h x) y) := (Old.push (Nat.le_refl _) _).trans (Old.push (Nat.le_succ _) _)
theorem take_succ_eq {l m : List Nat} {i : Nat} (h : l.take i = m.take i) (h1 : i < l.length) (h2 : i < m.length) (he : l.getD i 0 = m.getD i 0) : l.take (i + 1) = m.take (i + 1) := by
  rw [List.take_add_one, List.take_add_one, h]
  rw [List.getD_eq_getElem?_getD, List.getD_eq_getElem?_getD, List.getElem?_eq_getElem h1, List.getElem?_eq_getElem h2] at he
  rw [List.getElem?_eq_getElem h1, List.getElem?_eq_getElem h2]
  simp only [Option.getD_some] at he
  rw [he]
theorem cuOne_sub (s : Cu) : ∀ x ∈ (cuOne s).2.1, x ∈ s.1 := by
  intro x hx
  unfold cuOne at hx
  split at hx
  · split at hx
    · cases hx
    · rename_i h; rw [h]; exact List.mem_cons_of_mem _ hx
  · exact hx
theorem cuFail_sub (is : Bool) (e : Nat) (s : Cu) : ∀ x ∈ (cuFail is e s).1, x ∈ s.1 := by rw [(cuFail_bd is e s).1]; exact fun x h => h
theorem cuNum_sub (s : Cu) : ∀ x ∈ (cuNum s).2.1, x ∈ s.1 := by
  intro x hx
  unfold cuNum at hx
  split at hx
  · exact List.mem_of_mem_drop hx
  · exact hx
theorem cuValsL_lt : ∀ (k : Nat) (acc : List Nat) (s : Cu), (∀ x ∈ acc, x < 256) → (∀ x ∈ s.1, x < 256) → (∀ x ∈ (cuValsL k acc s).1, x < 256) ∧ ∀ x ∈ (cuValsL k acc s).2.1, x < 256
  | 0, acc, s, h1, h2 => by unfold cuValsL; exact ⟨h1, h2⟩
  | k + 1, acc, s, h1, h2 => by
    unfold cuValsL
    split
    · refine cuValsL_lt k _ _ (put_lt h1 (one_lt (cuOne_lt h2))) fun x hx => h2 x ?_
      exact cuOne_sub s x (cuFail_sub _ _ _ x hx)
    · exact ⟨h1, h2⟩
theorem cuVals_lt (s : Cu) (h : ∀ x ∈ s.1, x < 256) : (∀ x ∈ (cuVals s).1, x < 256) ∧ ∀ x ∈ (cuVals s).2.1, x < 256 := by
  unfold cuVals
  exact cuValsL_lt _ _ _ nil_lt fun x hx => h x (cuNum_sub s x (cuFail_sub _ _ _ x hx))
theorem takeF_lt {l : List Nat} (h : ∀ x ∈ l, x < 256) : (∀ x ∈ (takeF l).1.1, x < 256) ∧ ∀ x ∈ (takeF l).1.2, x < 256 := by
  have h1 : ∀ x ∈ (fS l).1, x < 256 := fun x hx => h x (cuOne_sub (l, 0, 0) x (cuFail_sub _ _ _ x hx))
  have a := cuVals_lt (fS l) h1
  have b := cuVals_lt (cuVals (fS l)).2 a.2
  unfold takeF
  split
  · exact ⟨a.1, b.1⟩
  · exact ⟨nil_lt, nil_lt⟩
theorem takeL_lt (l : List Nat) : (takeL l).1.1 < 4294967296 ∧ (takeL l).1.2.1 < 4294967296 := by
  have a := cuNum_bd (lS l)
  have b := cuNum_bd (cuNum (lS l)).2
  unfold takeL
  split <;> split <;> simp only <;> omega
end Eng
