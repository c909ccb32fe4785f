/- The engine, part 33: objects of the heap that lie apart. -/
import Derived.Test.YtejiebbbodealaaEngS32
set_option linter.unusedVariables false
set_option linter.unusedSimpArgs false
namespace Eng
open Go Go.RowKit
structure AObj where
  p : Hp → (Nat → Prop) → Prop
  loc : ∀ {h h' : Hp} {G : Nat → Prop}, (∀ k, G k → hget h' k = hget h k) → p h G → p h' G
def Sep (os : List AObj) (h : Hp) : Prop :=
  ∃ g : Nat → Nat → Prop, (∀ (i : Nat) (o : AObj), os[i]? = some o → o.p h (g i)) ∧ (∀ i k, g i k → k < h.next) ∧ ∀ i j k, g i k → g j k → i = j
theorem Sep.nil (h : Hp) : Sep [] h := by
  refine ⟨fun _ _ => False, fun i o e => ?_, fun i k e => e.elim, fun i j k e _ => e.elim⟩
  cases e
theorem Sep.at {os : List AObj} {h : Hp} (S : Sep os h) {i : Nat} {o : AObj} (hi : os[i]? = some o) : ∃ G : Nat → Prop, o.p h G ∧ (∀ k, G k → k < h.next) ∧
    ∀ (h' : Hp) (o' : AObj) (G' : Nat → Prop), h.next ≤ h'.next → o'.p h' G' → (∀ k, G' k → G k ∨ (h.next ≤ k ∧ k < h'.next)) → (∀ k, k < h.next → ¬ G k → hget h' k = hget h k) → Sep (os.set i o') h' := by
  obtain ⟨g, g1, g2, g3⟩ := S
  have hil : i < os.length := (List.getElem?_eq_some_iff.1 hi).1
  refine ⟨g i, g1 i o hi, g2 i, fun h' o' G' hn ho hG hf => ⟨fun j k => (j = i ∧ G' k) ∨ (j ≠ i ∧ g j k), fun j x hj => ?_, fun j k hk => ?_, fun j1 j2 k h1 h2 => ?_⟩⟩
  · by_cases e : j = i
    · subst e
      rw [List.getElem?_set_self hil] at hj
      cases hj
      have : (fun k => (j = j ∧ G' k) ∨ (j ≠ j ∧ g j k)) = G' := by funext k; simp
      show o'.p h' (fun k => (j = j ∧ G' k) ∨ (j ≠ j ∧ g j k))
      rw [this]; exact ho
    · rw [List.getElem?_set_ne (Ne.symm e)] at hj
      have : (fun k => (j = i ∧ G' k) ∨ (j ≠ i ∧ g j k)) = g j := by funext k; simp [e]
      show x.p h' (fun k => (j = i ∧ G' k) ∨ (j ≠ i ∧ g j k))
      rw [this]
      exact x.loc (fun k hk => hf k (g2 j k hk) fun hc => e (g3 j i k hk hc)) (g1 j x hj)
  · rcases hk with ⟨_, hk⟩ | ⟨_, hk⟩
    · rcases hG k hk with hk | ⟨_, hk⟩
      · have := g2 i k hk; omega
      · exact hk
    · have := g2 j k hk; omega
  · rcases h1 with ⟨e1, h1⟩ | ⟨e1, h1⟩ <;> rcases h2 with ⟨e2, h2⟩ | ⟨e2, h2⟩
    · rw [e1, e2]
    · rcases hG k h1 with h1 | ⟨h1, _⟩
      · exact absurd (g3 i j2 k h1 h2) (Ne.symm e2)
      · have := g2 j2 k h2; omega
    · rcases hG k h2 with h2 | ⟨h2, _⟩
      · exact absurd (g3 i j1 k h2 h1) (Ne.symm e1)
      · have := g2 j1 k h1; omega
    · exact g3 j1 j2 k h1 h2
theorem Sep.add {os : List AObj} {h : Hp} (S : Sep os h) {h' : Hp} {o : AObj} (G : Nat → Prop) (hn : h.next ≤ h'.next) (ho : o.p h' G) (hG : ∀ k, G k → h.next ≤ k ∧ k < h'.next) (hf : ∀ k, k < h.next → hget h' k = hget h k) : Sep (o :: os) h' := by
  obtain ⟨g, g1, g2, g3⟩ := S
  refine ⟨fun j => Nat.casesOn j G g, fun j x hj => ?_, fun j k hk => ?_, fun j1 j2 k h1 h2 => ?_⟩
  · cases j with
    | zero => cases hj; exact ho
    | succ j => exact x.loc (fun k hk => hf k (g2 j k hk)) (g1 j x hj)
  · cases j with
    | zero => exact (hG k hk).2
    | succ j => have := g2 j k hk; omega
  · cases j1 with
    | zero =>
      cases j2 with
      | zero => rfl
      | succ j2 => have a := hG k h1; have b := g2 j2 k h2; omega
    | succ j1 =>
      cases j2 with
      | zero => have a := hG k h2; have b := g2 j1 k h1; omega
      | succ j2 => rw [g3 j1 j2 k h1 h2]
theorem Sep.on {os : List AObj} {h h' : Hp} (S : Sep os h) (hn : h.next ≤ h'.next) (hf : ∀ k, k < h.next → hget h' k = hget h k) : Sep os h' := by
  obtain ⟨g, g1, g2, g3⟩ := S
  exact ⟨g, fun j x hj => x.loc (fun k hk => hf k (g2 j k hk)) (g1 j x hj), fun j k hk => by have := g2 j k hk; omega, g3⟩
theorem Sep.tail {o : AObj} {os : List AObj} {h : Hp} (S : Sep (o :: os) h) : Sep os h := by
  obtain ⟨g, g1, g2, g3⟩ := S
  exact ⟨fun j => g (j + 1), fun j x hj => g1 (j + 1) x hj, fun j k hk => g2 (j + 1) k hk, fun j1 j2 k h1 h2 => by have := g3 _ _ k h1 h2; omega⟩
theorem Sep.front {os : List AObj} {h : Hp} (S : Sep os h) (i : Nat) {o : AObj} (hi : os[i]? = some o) : Sep (o :: os.eraseIdx i) h := by
  obtain ⟨g, g1, g2, g3⟩ := S
  refine ⟨fun j => Nat.casesOn j (g i) (fun j => g (if j < i then j else j + 1)), fun j x hj => ?_, fun j k hk => ?_, fun j1 j2 k h1 h2 => ?_⟩
  · cases j with
    | zero => cases hj; exact g1 i o hi
    | succ j =>
      have hj : (os.eraseIdx i)[j]? = some x := hj
      rw [List.getElem?_eraseIdx] at hj
      show x.p h (g (if j < i then j else j + 1))
      split at hj
      · rw [if_pos ‹_›]; exact g1 _ _ hj
      · rw [if_neg ‹_›]; exact g1 _ _ hj
  · cases j with
    | zero => exact g2 i k hk
    | succ j => exact g2 _ k hk
  · cases j1 with
    | zero =>
      cases j2 with
      | zero => rfl
      | succ j2 => have a := g3 i _ k h1 h2; split at a <;> omega
    | succ j1 =>
      cases j2 with
      | zero => have a := g3 _ i k h1 h2; split at a <;> omega
      | succ j2 => have a := g3 _ _ k h1 h2; split at a <;> split at a <;> omega
theorem Sep.turn {os : List AObj} {h : Hp} (S : Sep os h) {i : Nat} {o o' : AObj} (hi : os[i]? = some o) (f : ∀ G, (∀ k, G k → k < h.next) → o.p h G → o'.p h G) : Sep (os.set i o') h := by
  obtain ⟨G, hp, hb, go⟩ := S.at hi
  exact go h o' G (Nat.le_refl _) (f G hb hp) (fun k hk => .inl hk) fun k hk hn => rfl
def Frz (G0 : Nat → Prop) (h0 : Hp) : AObj where
  p h G := (∀ k, G0 k → G k) ∧ ∀ k, G0 k → hget h k = hget h0 k
  loc := fun hf ⟨h1, h2⟩ => ⟨h1, fun k hk => (hf k (h1 k hk)).trans (h2 k hk)⟩
theorem Sep.freeze {os : List AObj} {h : Hp} (S : Sep os h) {i : Nat} {o : AObj} (hi : os[i]? = some o) : ∃ G : Nat → Prop, o.p h G ∧ (∀ k, G k → k < h.next) ∧ Sep (os.set i (Frz G h)) h := by
  obtain ⟨G, hp, hb, go⟩ := S.at hi
  exact ⟨G, hp, hb, go h _ G (Nat.le_refl _) ⟨fun k hk => hk, fun _ _ => rfl⟩ (fun k hk => .inl hk) fun k hk hn => rfl⟩
theorem Sep.start (h : Hp) : Sep [Frz (fun k => k < h.next) h] h :=
by
  refine ⟨fun i k => i = 0 ∧ k < h.next, fun i o hi => ?_, fun i k hk => hk.2, fun i j k h1 h2 => h1.1.trans h2.1.symm⟩
  cases i with
  | zero => cases hi; exact ⟨fun k hk => ⟨rfl, hk⟩, fun _ _ => rfl⟩
  | succ i => cases hi
theorem Sep.frozen {os : List AObj} {h : Hp} (S : Sep os h) {i : Nat} {G : Nat → Prop} {h0 : Hp} (hi : os[i]? = some (Frz G h0)) {k : Nat} (hk : G k) : k < h.next ∧ hget h k = hget h0 k := by
  obtain ⟨G', hp, hb, go⟩ := S.at hi
  exact ⟨hb k (hp.1 k hk), hp.2 k hk⟩
def blkOf : AV → Option Nat
  | .slice b _ _ _ _ _ => some b
  | _ => none
def BIn (G : Nat → Prop) (h : Hp) (v : AV) (l : List Nat) : Prop := (∃ B, Bytes B h v l) ∧ ∀ b, blkOf v = some b → G b
theorem BIn.nil {G : Nat → Prop} {h : Hp} : BIn G h .nilSlice [] := ⟨⟨0, .nil⟩, fun b e => by cases e⟩
theorem BIn.lt {G : Nat → Prop} {h : Hp} {v : AV} {l : List Nat} (P : BIn G h v l) : ∀ x ∈ l, x < 256 := by
  obtain ⟨⟨B, P⟩, _⟩ := P; exact P.lt
theorem BIn.of {B : Nat} {h : Hp} {v : AV} {l : List Nat} (P : Bytes B h v l) : BIn (fun k => k < B) h v l := by
  refine ⟨⟨B, P⟩, fun b e => ?_⟩
  cases P with
  | nil => cases e
  | sl hB hg hcl hl hm hc hb => cases e; exact hB
theorem BIn.now {os : List AObj} {h : Hp} (S : Sep os h) {i : Nat} {G : Nat → Prop} {h0 : Hp} (hi : os[i]? = some (Frz G h0)) {v : AV} {l : List Nat} (P : BIn G h0 v l) : Bytes h.next h v l := by
  obtain ⟨⟨B, P⟩, hG⟩ := P
  cases P with
  | nil => exact .nil
  | sl hB hg hcl hl hm hc hb =>
    obtain ⟨h1, h2⟩ := S.frozen hi (hG _ rfl)
    exact .sl h1 (h2.trans hg) hcl hl hm hc hb
theorem blkOf_part (v : AV) (lo hi : Nat) : blkOf (partS v lo hi) = blkOf v := by cases v <;> rfl
theorem BIn.part {G : Nat → Prop} {h : Hp} {v : AV} {l : List Nat} (P : BIn G h v l) {lo hi : Nat} (h1 : lo ≤ hi) (h2 : hi ≤ l.length) : BIn G h (partS v lo hi) ((l.take hi).drop lo) := by
  obtain ⟨⟨B, P⟩, hG⟩ := P
  exact ⟨⟨B, P.part h1 h2⟩, fun b e => hG b (by rwa [blkOf_part] at e)⟩
theorem BIn.from {G : Nat → Prop} {h : Hp} {v : AV} {l : List Nat} (P : BIn G h v l) {lo : Nat} (h1 : lo ≤ l.length) : BIn G h (partS v lo l.length) (l.drop lo) := by
  obtain ⟨⟨B, P⟩, hG⟩ := P
  exact ⟨⟨B, part_from P h1⟩, fun b e => hG b (by rwa [blkOf_part] at e)⟩
theorem BIn.to {G : Nat → Prop} {h : Hp} {v : AV} {l : List Nat} (P : BIn G h v l) {hi : Nat} (h1 : hi ≤ l.length) : BIn G h (partS v 0 hi) (l.take hi) := by
  obtain ⟨⟨B, P⟩, hG⟩ := P
  exact ⟨⟨B, part_to P h1⟩, fun b e => hG b (by rwa [blkOf_part] at e)⟩
def Cel (b : Nat) (cs : List AV) : AObj where
  p h G := G b ∧ hget h b = some (.cells cs cs.length .solo)
  loc := fun hf ⟨h1, h2⟩ => ⟨h1, (hf _ h1).trans h2⟩
theorem cel_get {os : List AObj} {h : Hp} (S : Sep os h) {i b : Nat} {cs : List AV} (hi : os[i]? = some (Cel b cs)) : hget h b = some (.cells cs cs.length .solo) := by
  obtain ⟨G, hp, _⟩ := S.at hi; exact hp.2
theorem cel_load {os : List AObj} {h : Hp} (S : Sep os h) {i b o : Nat} {cs : List AV} (hi : os[i]? = some (Cel b cs)) {x : AV} (hx : cs[o]? = some x) : evQ (.loadS (.const (.ptr b o))) .lf h = .ok x :=
  q_load (cel_get S hi) hx
theorem cel_loadA {os : List AObj} {h : Hp} (S : Sep os h) {i b o n : Nat} {cs : List AV} (hi : os[i]? = some (Cel b cs)) (hx : o + n ≤ cs.length) : evQ (.loadA n (.const (.ptr b o))) .lf h = .ok (.agg ((cs.drop o).take n)) := by
  show rdN h b o n OV.no (fun l => .ok (.agg l)) = _
  rw [rdN_of (cel_get S hi) hx rfl]
theorem cel_new {os : List AObj} {h : Hp} (S : Sep os h) (cs : List AV) {n : Nat} (hn : cs.length = n) : Sep (Cel h.next cs :: os) (hpush h (mkCells cs n)) := by
  subst hn
  exact S.add (fun k => k = h.next) (Nat.le_succ _) ⟨rfl, hget_hpush h _⟩ (fun k hk => by subst hk; exact ⟨Nat.le_refl _, Nat.lt_succ_self _⟩) fun k hk => hget_hpush_ne h _ (by omega)
theorem cel_put {os : List AObj} {h : Hp} (S : Sep os h) {i b : Nat} {cs cs' : List AV} (hi : os[i]? = some (Cel b cs)) (hl : cs'.length = cs.length) : Sep (os.set i (Cel b cs')) (hset h b (.cells cs' cs.length .solo)) := by
  obtain ⟨G, hp, hb, go⟩ := S.at hi
  exact go _ _ G (Nat.le_refl _) ⟨hp.1, by rw [hget_hset, hl]⟩ (fun k hk => .inl hk) fun k hk hn => hget_hset_ne h _ fun e => hn (e ▸ hp.1)
theorem cel_store {os : List AObj} {h : Hp} (call : CallT) (S : Sep os h) {i b o : Nat} {cs : List AV} (hi : os[i]? = some (Cel b cs)) (ho : o < cs.length) {x : AV} (hx : isCell x = true) :
    ∃ e : Ev, evE (.store 1 (.const (.ptr b o)) (.const x)) call .lf h = .ok undef e.h ∧ Sep (os.set i (Cel b (cs.set o x))) e.h := by
  refine ⟨⟨.nilPtr, .lf, _⟩, ?_, cel_put S hi (List.length_set ..)⟩
  show oStore 1 (.const (.ptr b o)) (.const x) .lf h = _
  unfold oStore
  have e1 : Nat.beq 1 1 = true := rfl
  rw [e1, bc_eq, if_pos rfl]
  show bc (isCell x) (oStore1 (.const (.ptr b o)) (.const x) .lf h) _ = _
  rw [hx, bc_eq, if_pos rfl]
  show bc (isCell x) (wr1 h b o x) RV.no = _
  rw [hx]
  show hcells h b RV.no _ = _
  unfold hcells
  rw [cel_get S hi]
  show bc (Nat.blt o cs.length) (put h b (upd x cs o) cs.length .solo undef) .no = _
  rw [blt_dec, decide_eq_true ho, upd_eq]; rfl
theorem cel_storeN {os : List AObj} {h : Hp} (call : CallT) (S : Sep os h) {i b o n : Nat} {cs xs : List AV} (hi : os[i]? = some (Cel b cs)) (ho : o + n ≤ cs.length) (hn : xs.length = n) (h1 : n ≠ 1) (hx : ∀ x ∈ xs, isCell x = true) :
    ∃ e : Ev, evE (.store n (.const (.ptr b o)) (.const (.agg xs))) call .lf h = .ok undef e.h ∧ Sep (os.set i (Cel b (over xs cs o))) e.h := by
  subst hn
  have hl : (over xs cs o).length = cs.length := by
    rw [over_eq _ _ _ (by omega), List.length_append, List.length_append, List.length_take, List.length_drop]; omega
  refine ⟨⟨.nilPtr, .lf, _⟩, ?_, cel_put S hi hl⟩
  show oStore xs.length (.const (.ptr b o)) (.const (.agg xs)) .lf h = _
  unfold oStore
  rw [beqF h1, bc_eq, if_neg (by decide)]
  show bc (Nat.beq (len xs) xs.length) (bc (lall isCell xs) (wrN h b o xs xs.length undef) .no) RV.no = _
  rw [len_eq, Nat.beq_refl, lall_iff.2 hx]
  show hcells h b RV.no _ = _
  unfold hcells
  rw [cel_get S hi]
  show bc (Nat.ble (o + xs.length) cs.length) (put h b (over xs cs o) cs.length .solo undef) .no = _
  rw [ble_dec, decide_eq_true ho]; rfl
end Eng
