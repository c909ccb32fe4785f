/- The engine's soundness, part 20: statements that draw their order: the static part. -/
import Derived.Test.YtejiebbbodealaaEngS19
import Derived.Orders
set_option linter.unusedVariables false
set_option linter.unusedSimpArgs false
namespace Eng
open Go Go.RowKit
def count (l : Array Bool) : Nat := (l.toList.filter id).length
theorem count_set {l : Array Bool} {i : Nat} (h : l.getD i true = false) : count (l.setIfInBounds i true) = count l + 1 := by
  unfold count
  rw [Array.toList_setIfInBounds]
  have hlt : i < l.toList.length := by
    rcases Nat.lt_or_ge i l.size with h' | h'
    · simpa using h'
    · simp [Array.getElem?_eq_none h'] at h
  have hi : l.toList[i]? = some false := by
    rw [Array.getElem?_toList, Array.getElem?_eq_getElem (by simpa using hlt)]
    have : l[i]'(by simpa using hlt) = false := by simpa [Array.getElem?_eq_getElem (by simpa using hlt : i < l.size)] using h
    rw [this]
  generalize l.toList = m at *
  clear h
  induction m generalizing i with
  | nil => simp at hi
  | cons b m ih =>
    cases i with
    | zero => simp at hi; subst hi; simp
    | succ i =>
      simp at hi
      have := ih (by simpa using hlt) hi
      cases b <;> simp [this]
theorem count_le (l : Array Bool) : count l ≤ l.size := by
  unfold count
  have := List.length_filter_le (id : Bool → Bool) l.toList
  simpa using this
theorem count_full {l : Array Bool} (h : count l = l.size) (i : Nat) : l.getD i true = true := by
  unfold count at h
  have h' : (l.toList.filter id).length = l.toList.length := by simpa using h
  have := List.filter_eq_self.1 (List.Sublist.eq_of_length List.filter_sublist h')
  rcases Nat.lt_or_ge i l.size with hlt | hge
  · have hm := this (l[i]) (by simp)
    simp [Array.getElem?_eq_getElem hlt]; simpa using hm
  · simp [Array.getElem?_eq_none hge]
section
variable {P : Program} {md : Region.Mode} {ops : Array Oper}
def Ends (md : Region.Mode) (ops : Array Oper) : Prop := ∀ listed : Array Bool, listed.size = ops.size → Region.ready md ops listed = [] → ∀ i, listed.getD i true = true
theorem go_count (listed : Array Bool) (hs : listed.size = ops.size) (hstuck : Region.ready md ops listed = []) : ∀ (fuel t : Nat) (l : Array Bool), l.size = ops.size → (∀ i, l.getD i false = true → listed.getD i false = true) →
    (Region.linearise.go md ops fuel t l []).length + count l ≤ count listed
  | 0, t, l, hl, hle => by
    simp only [Region.linearise.go, List.reverse_nil, List.length_nil, Nat.zero_add]
    unfold count
    have key : ∀ (a b : List Bool), a.length = b.length → (∀ i : Nat, a[i]? = some true → b[i]? = some true) → (a.filter id).length ≤ (b.filter id).length := by
      intro a
      induction a with
      | nil => intro b _ _; simp
      | cons x a ih =>
        intro b hlen hb
        cases b with
        | nil => simp at hlen
        | cons y b =>
          have h1 := ih b (by simpa using hlen) (fun i hi => by simpa using hb (i + 1) (by simpa using hi))
          have h2 := hb 0
          cases x <;> cases y <;> simp at h2 ⊢ <;> omega
    refine key _ _ (by simp [hl, hs]) fun i hi => ?_
    have := hle i (by rw [Array.getElem?_toList] at hi; simp [hi])
    rw [Array.getElem?_toList]
    cases hg : listed[i]? with
    | none => simp [hg] at this
    | some b => simp [hg] at this; rw [this]
  | fuel + 1, t, l, hl, hle => by
    simp only [Region.linearise.go]
    change (match (Region.ready md ops l)[t % (Region.ready md ops l).length]? with
      | some i => Region.linearise.go md ops fuel (t / (Region.ready md ops l).length) (l.setIfInBounds i true) [i]
      | none => [].reverse).length + count l ≤ count listed
    cases hi : (Region.ready md ops l)[t % (Region.ready md ops l).length]? with
    | none => have := go_count listed hs hstuck 0 t l hl hle; simpa [Region.linearise.go] using this
    | some i =>
      simp only []
      have hr := List.mem_of_getElem? hi
      obtain ⟨h0, o, ho, hall⟩ := mem_ready.1 hr
      have hin : listed.getD i false = true := by
        by_cases hc : listed.getD i true = false
        · exfalso
          have : i ∈ Region.ready md ops listed := mem_ready.2 ⟨hc, o, ho, fun e he hb => hle _ (hall e he hb)⟩
          rw [hstuck] at this; cases this
        · have hlt : i < listed.size := by rw [hs]; exact (Array.getElem?_eq_some_iff.1 ho).1
          simp [Array.getElem?_eq_getElem hlt] at hc ⊢
          exact hc
      rw [linearise_go_acc]
      have := go_count listed hs hstuck fuel (t / (Region.ready md ops l).length) (l.setIfInBounds i true) (by simpa using hl) (fun j hj => by
        by_cases hij : i = j
        · subst hij; exact hin
        · rw [getD_set_ne false hij] at hj; exact hle j hj)
      rw [count_set h0] at this
      simp only [List.reverse_singleton, List.length_append, List.length_singleton]
      omega
theorem ends_gc (h : (Region.linearise .gc ops 0).length = ops.size) : Ends .gc ops := fun listed hs hstuck => by
  have := go_count (md := .gc) listed hs hstuck ops.size 0 (Array.replicate ops.size false) (by simp) (fun i hi => by
    rw [Array.getD_eq_getD_getElem?, Array.getElem?_replicate] at hi
    split at hi <;> simp at hi)
  have h2 : (Region.linearise.go .gc ops ops.size 0 (Array.replicate ops.size false) []).length = ops.size := h
  have h3 := count_le listed
  exact count_full (by omega)
theorem forward_spec : ∀ {os : List Oper} {k : Nat}, forward os k = true → ∀ (j : Nat) (o : Oper), os[j]? = some o → ∀ e ∈ o.after, Region.binds .text e = true → e.on < k + j
  | [], k, _, j, o, ho => by simp at ho
  | o0 :: os, k, h, j, o, ho => by
    simp only [forward, Bool.and_eq_true, List.all_eq_true] at h
    cases j with
    | zero =>
      simp at ho; subst ho
      intro e he hb
      have := h.1 e (by simpa using he)
      rw [hb] at this
      simp at this
      have h2 : Nat.blt e.on k = true := by simpa using this
      have := Nat.le_of_ble_eq_true (show Nat.ble (e.on + 1) k = true from h2)
      omega
    | succ j =>
      intro e he hb
      have := forward_spec h.2 j o (by simpa using ho) e he hb
      omega
theorem binds_any_text {e : Edge} (h : Region.binds .any e = true) : Region.binds .text e = true := by
  unfold Region.binds at *; split <;> simp_all
theorem binds_any_gc {e : Edge} (h : Region.binds .any e = true) : Region.binds .gc e = true := by
  unfold Region.binds at *; split <;> simp_all
theorem ends_forward (hf : forward ops.toList 0 = true) (hm : ∀ e, Region.binds md e = true → Region.binds .text e = true) : Ends md ops := fun listed hs hstuck => by
  have key : ∀ n i, i < n → listed.getD i true = true := by
    intro n
    induction n with
    | zero => intro i hi; omega
    | succ n ih =>
      intro i hi
      by_cases hin : i < n
      · exact ih i hin
      · obtain rfl : i = n := by omega
        by_cases hc : listed.getD i true = false
        · exfalso
          have hlt : i < ops.size := by
            rcases Nat.lt_or_ge i listed.size with h' | h'
            · omega
            · simp [Array.getElem?_eq_none h'] at hc
          have : i ∈ Region.ready md ops listed := mem_ready.2 ⟨hc, ops[i], Array.getElem?_eq_getElem hlt, fun e he hb => by
            have h1 := forward_spec hf i ops[i] (by rw [Array.getElem?_toList, Array.getElem?_eq_getElem hlt]) e he (hm e hb)
            have h2 := ih e.on (by omega)
            have h3 : e.on < listed.size := by omega
            simp [Array.getElem?_eq_getElem h3] at h2 ⊢
            exact h2⟩
          rw [hstuck] at this; cases this
        · simpa using hc
  exact fun i => key (i + 1) i (by omega)
theorem wp_drawn {id : Nat} {Q : Exit → Act → World → Prop} {a : Act} {w : World} (hf : forward ops.toList 0 = true) (he : endsOk ops = true)
    (h : ∀ md, Ends md ops → wpAny P md ops Q ops.size (Array.replicate ops.size false) a { w with drawn := w.drawn + 1 }) : (Code.region id ops true).wp P Q a w := by
  refine wp_region_draw fun t => ?_
  have hany : Ends .any ops := ends_forward hf fun e => binds_any_text
  have htext : Ends .text ops := ends_forward hf fun e h => h
  unfold Region.schedule
  split
  · exact wpAny_sound ops.size t _ a _ (h .any hany)
  · rename_i hd
    split
    · exact wpAny_sound ops.size _ _ a _ (h .text htext)
    · refine wpAny_sound ops.size _ _ a _ (h .gc (ends_gc ?_))
      unfold endsOk at he
      simp only [Bool.or_eq_true, Bool.not_eq_true'] at hd he
      rcases he with he | he
      · exact absurd (Or.inr he) hd
      · exact Nat.eq_of_beq_eq_true he
theorem ancs_go : ∀ (os : List Oper) (acc : List Nat), (ancs os acc).length = acc.length + os.length ∧ (∀ i, i < acc.length → (ancs os acc).getD i 0 = acc.getD i 0) ∧
    ∀ (j : Nat) (o : Oper), os[j]? = some o → ∀ l, ((ancs os acc).getD (acc.length + j) 0).testBit l = true → ∃ e ∈ o.after, Region.binds .any e = true ∧ (l = e.on ∨ ((ancs os acc).getD e.on 0).testBit l = true)
  | [], acc => ⟨by simp [ancs], fun _ _ => rfl, fun j o ho => by simp at ho⟩
  | o0 :: os, acc => by
    obtain ⟨h1, h2, h3⟩ := ancs_go os (acc ++ [o0.after.toList.foldl (fun s e => if Region.binds .any e then s ||| 2 ^ e.on ||| acc.getD e.on 0 else s) 0])
    have hunf : ancs (o0 :: os) acc = ancs os (acc ++ [o0.after.toList.foldl (fun s e => if Region.binds .any e then s ||| 2 ^ e.on ||| acc.getD e.on 0 else s) 0]) := rfl
    rw [hunf]
    have hpre : ∀ i, i < acc.length → (ancs os (acc ++ [o0.after.toList.foldl (fun s e => if Region.binds .any e then s ||| 2 ^ e.on ||| acc.getD e.on 0 else s) 0])).getD i 0 = acc.getD i 0 := fun i hi => by
      rw [h2 i (by simp; omega)]
      simp [List.getElem?_append_left hi]
    refine ⟨by rw [h1]; simp; omega, hpre, fun j o ho l hl => ?_⟩
    cases j with
    | zero =>
      simp at ho; subst ho
      rw [Nat.add_zero, h2 acc.length (by simp)] at hl
      have hfold : ∀ (es : List Edge) (s : Nat), (es.foldl (fun s e => if Region.binds .any e then s ||| 2 ^ e.on ||| acc.getD e.on 0 else s) s).testBit l = true →
          s.testBit l = true ∨ ∃ e ∈ es, Region.binds .any e = true ∧ (l = e.on ∨ (acc.getD e.on 0).testBit l = true) := by
        intro es
        induction es with
        | nil => intro s hs; exact .inl hs
        | cons e es ih =>
          intro s hs
          rw [List.foldl_cons] at hs
          rcases ih _ hs with h | ⟨e', he', hb, hh⟩
          · split at h
            · rename_i hb
              rw [Nat.testBit_or, Nat.testBit_or] at h
              simp only [Bool.or_eq_true] at h
              rcases h with (h | h) | h
              · exact .inl h
              · refine .inr ⟨e, by simp, hb, .inl ?_⟩
                rw [Nat.testBit_two_pow] at h
                simpa using (of_decide_eq_true h).symm
              · exact .inr ⟨e, by simp, hb, .inr h⟩
            · exact .inl h
          · exact .inr ⟨e', by simp [he'], hb, hh⟩
      have hl : (o0.after.toList.foldl (fun s e => if Region.binds .any e then s ||| 2 ^ e.on ||| acc.getD e.on 0 else s) 0).testBit l = true := by
        rw [List.getD_eq_getElem?_getD, List.getElem?_append_right (Nat.le_refl _)] at hl
        simpa only [Nat.sub_self, List.getElem?_cons_zero, Option.getD_some] using hl
      rcases hfold _ _ hl with h | ⟨e, he, hb, hh⟩
      · simp at h
      · refine ⟨e, by simpa using he, hb, ?_⟩
        rcases hh with hh | hh
        · exact .inl hh
        · right
          have hlt : e.on < acc.length := by
            rcases Nat.lt_or_ge e.on acc.length with h' | h'
            · exact h'
            · simp [List.getElem?_eq_none h'] at hh
          rw [hpre _ hlt]; exact hh
    | succ j =>
      have := h3 j o (by simpa using ho) l (by
        have : (acc ++ [o0.after.toList.foldl (fun s e => if Region.binds .any e then s ||| 2 ^ e.on ||| acc.getD e.on 0 else s) 0]).length + j = acc.length + (j + 1) := by simp; omega
        rw [this]; exact hl)
      exact this
theorem numbered_mem {n : Nat} : ∀ {os : List Oper} {as : List Nat} {k : Nat} {x : NO}, x ∈ numbered P n ops os as k → ∃ j o, os[j]? = some o ∧ j < as.length ∧ x = ⟨k + j, compO P n ops o, as.getD j 0, o⟩
  | [], as, k, x, h => by simp [numbered] at h
  | o :: os, [], k, x, h => by simp [numbered] at h
  | o :: os, a :: as, k, x, h => by
    rw [show numbered P n ops (o :: os) (a :: as) k = ⟨k, compO P n ops o, a, o⟩ :: numbered P n ops os as (k + 1) from rfl, List.mem_cons] at h
    rcases h with rfl | h
    · exact ⟨0, o, rfl, by simp, by simp⟩
    · obtain ⟨j, o', h1, h2, rfl⟩ := numbered_mem h
      exact ⟨j + 1, o', by simpa using h1, by simpa using h2, by simp; omega⟩
theorem numbered_get {n : Nat} : ∀ {os : List Oper} {as : List Nat} {k : Nat} (j : Nat) (o : Oper), os[j]? = some o → j < as.length → (⟨k + j, compO P n ops o, as.getD j 0, o⟩ : NO) ∈ numbered P n ops os as k
  | [], as, k, j, o, h, _ => by simp at h
  | o :: os, [], k, j, _, _, h => by simp at h
  | o0 :: os, a :: as, k, j, o, h, hlt => by
    rw [show numbered P n ops (o0 :: os) (a :: as) k = ⟨k, compO P n ops o0, a, o0⟩ :: numbered P n ops os as (k + 1) from rfl, List.mem_cons]
    cases j with
    | zero => simp at h; subst h; left; simp
    | succ j =>
      right
      have := numbered_get (n := n) (k := k + 1) (as := as) j o (by simpa using h) (by simpa using hlt)
      have e : k + 1 + j = k + (j + 1) := by omega
      rw [e] at this
      simpa using this
end
end Eng
