/- The engine's soundness, part 23: statements that draw their order: all of it. -/
import Derived.Test.YtejiebbbodealaaEngS22
set_option linter.unusedVariables false
set_option linter.unusedSimpArgs false
namespace Eng
open Go Go.RowKit
section
variable {P : Program} {n : Nat} {ops : Array Oper} {A : Nat → Nat} {es : List NO} {μ0 : Mp} {h0 : Hp} {w0 : World} {t0 : T} {s : Nat} {fr : Nat → T} {v : Nat → AV} {bk : Nat → Nat} {al : Nat → Bool} {t t' t1 : T} {h h' h1 : Hp} {ps : List PD}
  {D : Nat → Prop} {μ : Mp} {a : Act} {w : World}
structure IsNO (P : Program) (n : Nat) (ops : Array Oper) (A : Nat → Nat) (q : NO) : Prop where
  op : ops[q.i]? = some q.p
  o : q.o = compO P n ops q.p
  a : q.a = A q.i
theorem IsNO.same {q e : NO} (hq : IsNO P n ops A q) (he : IsNO P n ops A e) (h : q.i = e.i) : q.o = e.o := by
  have h1 := hq.op
  rw [h, he.op] at h1
  rw [hq.o, he.o, Option.some.inj h1]
def FineIt (P : Program) (n : Nat) (ops : Array Oper) (A : Nat → Nat) : It → Prop
  | .op _ _ q => IsNO P n ops A q ∧ isE q.o.op = false
  | .eff _ e => IsNO P n ops A e ∧ isE e.o.op = true
  | .last _ => True
theorem itOk_op {k hi m : Nat} {q : NO} {r : List It} (e : itOk es m (.op k hi q :: r) s = true) : q.a &&& s = q.a ∧ s.testBit q.i = false ∧ behind es q k = true ∧ ahead es q hi = true ∧ itOk es m r (s ||| 2 ^ q.i) = true := by
  simp only [itOk, Bool.and_eq_true, Bool.not_eq_true'] at e
  obtain ⟨⟨⟨⟨h1, h2⟩, h3⟩, h4⟩, h5⟩ := e
  exact ⟨Nat.eq_of_beq_eq_true h1, h2, h3, h4, h5⟩
theorem itOk_eff {k m : Nat} {q : NO} {r : List It} (e : itOk es m (.eff k q :: r) s = true) : q.a &&& s = q.a ∧ s.testBit q.i = false ∧ behind es q k = true ∧ (∃ e', es[k]? = some e' ∧ e'.i = q.i) ∧ itOk es m r (s ||| 2 ^ q.i) = true := by
  simp only [itOk, Bool.and_eq_true, Bool.not_eq_true'] at e
  obtain ⟨⟨⟨⟨h1, h2⟩, h3⟩, h4⟩, h5⟩ := e
  refine ⟨Nat.eq_of_beq_eq_true h1, h2, h3, ?_, h5⟩
  split at h4
  · rename_i e' he; exact ⟨e', he, Nat.eq_of_beq_eq_true h4⟩
  · cases h4
theorem itOk_cover {m : Nat} : ∀ {its : List It} {s : Nat}, itOk es m its s = true → ∀ i, m.testBit i = true →
    s.testBit i = true ∨ (∃ k hi q, It.op k hi q ∈ its ∧ q.i = i ∧ behind es q k = true) ∨ ∃ k q, It.eff k q ∈ its ∧ q.i = i ∧ behind es q k = true
  | [], s, e, i, hi => by cases e
  | .op k hi q :: r, s, e, i, hm => by
    obtain ⟨_, _, h3, _, h5⟩ := itOk_op e
    rcases itOk_cover h5 i hm with h | ⟨k', hi', q', h6, h7⟩ | ⟨k', q', h6, h7⟩
    · rcases bit_or.1 h with h | rfl
      · exact .inl h
      · exact .inr (.inl ⟨k, hi, q, List.mem_cons_self, rfl, h3⟩)
    · exact .inr (.inl ⟨k', hi', q', List.mem_cons_of_mem _ h6, h7⟩)
    · exact .inr (.inr ⟨k', q', List.mem_cons_of_mem _ h6, h7⟩)
  | .eff k q :: r, s, e, i, hm => by
    obtain ⟨_, _, h3, _, h5⟩ := itOk_eff e
    rcases itOk_cover h5 i hm with h | ⟨k', hi', q', h6, h7⟩ | ⟨k', q', h6, h7⟩
    · rcases bit_or.1 h with h | rfl
      · exact .inl h
      · exact .inr (.inr ⟨k, q, List.mem_cons_self, rfl, h3⟩)
    · exact .inr (.inl ⟨k', hi', q', List.mem_cons_of_mem _ h6, h7⟩)
    · exact .inr (.inr ⟨k', q', List.mem_cons_of_mem _ h6, h7⟩)
  | .last k :: r, s, e, i, hm => by
    have : s = m := Nat.eq_of_beq_eq_true (show Nat.beq s m = true from e)
    rw [this]; exact .inl hm
theorem flat_ge : ∀ (st : List (List (NO × Nat) × Option NO)) (k : Nat), (∀ j hi q, It.op j hi q ∈ flat k st → k ≤ j) ∧ ∀ j q, It.eff j q ∈ flat k st → k ≤ j
  | [], k => ⟨fun _ _ _ h => by simp [flat] at h, fun _ _ h => by simp [flat] at h⟩
  | (qs, some e) :: r, k => by
    obtain ⟨h1, h2⟩ := flat_ge r (k + 1)
    refine ⟨fun j hi q h => ?_, fun j q h => ?_⟩
    · simp only [flat, List.mem_append, List.mem_map, List.mem_cons] at h
      rcases h with ⟨x, _, hx⟩ | hx | hx
      · cases hx; exact Nat.le_refl _
      · cases hx
      · have := h1 j hi q hx; omega
    · simp only [flat, List.mem_append, List.mem_map, List.mem_cons] at h
      rcases h with ⟨x, _, hx⟩ | hx | hx
      · cases hx
      · cases hx; exact Nat.le_refl _
      · have := h2 j q hx; omega
  | (qs, none) :: r, k => by
    refine ⟨fun j hi q h => ?_, fun j q h => ?_⟩
    · simp only [flat, List.mem_append, List.mem_map, List.mem_singleton] at h
      rcases h with ⟨x, _, hx⟩ | hx
      · cases hx; exact Nat.le_refl _
      · cases hx
    · simp only [flat, List.mem_append, List.mem_map, List.mem_singleton] at h
      rcases h with ⟨x, _, hx⟩ | hx
      · cases hx
      · cases hx
theorem absorb_all (st : Static P n ops A) (hes0 : ∀ e ∈ es, IsNO P n ops A e ∧ isE e.o.op = true) {call : CallT} {k m : Nat} {tail : List It} : ∀ (qs : List (NO × Nat)) {s : Nat} {fr : Nat → T} {v : Nat → AV} {bk : Nat → Nat} {al : Nat → Bool} {t : T} {h : Hp} {ps : List PD},
    Mid P n ops A es μ0 h0 w0 t0 s fr v bk al t h ps D μ a w → Tra call (qs.map (fun q => It.op k q.2 q.1) ++ tail) t h ps t' h' → itOk es m (qs.map (fun q => It.op k q.2 q.1) ++ tail) s = true →
    (∀ it ∈ qs.map (fun q => It.op k q.2 q.1) ++ tail, FineIt P n ops A it) → (∀ j e, es[j]? = some e → s.testBit e.i = true → j < k) →
    ∃ s' fr' v' bk' al' t1 h1 ps1, Mid P n ops A es μ0 h0 w0 t0 s' fr' v' bk' al' t1 h1 ps1 D μ a w ∧ Tra call tail t1 h1 ps1 t' h' ∧ itOk es m tail s' = true ∧ (∀ j e, es[j]? = some e → s'.testBit e.i = true → j < k)
  | [], s, fr, v, bk, al, t, h, ps, md, tr, ok, fine, hes => ⟨s, fr, v, bk, al, t, h, ps, md, tr, ok, hes⟩
  | q :: qs, s, fr, v, bk, al, t, h, ps, md, tr, ok, fine, hes => by
    obtain ⟨h1, h2, _, h4, h5⟩ := itOk_op (show itOk es m (It.op k q.2 q.1 :: (qs.map (fun q => It.op k q.2 q.1) ++ tail)) s = true from ok)
    obtain ⟨hno, hne⟩ : IsNO P n ops A q.1 ∧ isE q.1.o.op = false := fine (.op k q.2 q.1) (by simp)
    rw [hno.a] at h1
    obtain ⟨fr', v', bk', al', t1, h1', ps1, tr1, md1⟩ := absorb st md (show Tra call (It.op k q.2 q.1 :: (qs.map (fun q => It.op k q.2 q.1) ++ tail)) t h ps t' h' from tr) hno.op hno.o h1 h2 (fun e he => by
      have hh : (match es[q.2]? with | some e => e.a.testBit q.1.i | none => true) = true := h4
      rw [he] at hh
      rw [← (hes0 e (List.mem_of_getElem? he)).1.a]; exact hh)
    refine absorb_all st hes0 qs md1 tr1 h5 (fun it hit => fine it (List.mem_cons_of_mem _ hit)) fun j e he hb => ?_
    rcases bit_or.1 hb with hb | hb
    · exact hes j e he hb
    · obtain ⟨he1, he2⟩ := hes0 e (List.mem_of_getElem? he)
      rw [he1.same hno hb, hne] at he2; cases he2
theorem behind_inv {q : NO} {k : Nat} (h : behind es q k = true) : k = 0 ∨ ∃ j e, k = j + 1 ∧ es[j]? = some e ∧ q.a.testBit e.i = true := by
  cases k with
  | zero => exact .inl rfl
  | succ j =>
    right
    have h : (match es[j]? with | some e => q.a.testBit e.i | none => false) = true := h
    split at h
    · rename_i e he; exact ⟨j, e, rfl, he, h⟩
    · cases h
theorem drawn_go {md : Region.Mode} (st : Static P n ops A) (ends : Ends md ops) (hes0 : ∀ e ∈ es, IsNO P n ops A e ∧ isE e.o.op = true) (hnd : ∀ (j k : Nat) (e f : NO), es[j]? = some e → es[k]? = some f → e.i = f.i → j = k) {call : CallT} (good : Good P call)
    {Q : Exit → Act → World → Prop} (hQ : ∀ a w μ, TR μ t' a.tmps → Sim μ h' w → Goes μ0 h0 w0 μ h' w → a.defers = [] → a.tmps.size = n → Q .normal a w) :
    ∀ (fuel : Nat) (listed : Array Bool) (k : Nat) (its : List It) (s : Nat) (fr : Nat → T) (v : Nat → AV) (bk : Nat → Nat) (al : Nat → Bool) (t : T) (h : Hp) (ps : List PD) (μ : Mp) (a : Act) (w : World),
      listed.size = ops.size → fuel + count listed = ops.size → Mid P n ops A es μ0 h0 w0 t0 s fr v bk al t h ps (fun i => listed.getD i false = true) μ a w → Tra call its t h ps t' h' → itOk es (2 ^ ops.size - 1) its s = true →
      (∀ it ∈ its, FineIt P n ops A it) → ((∃ e st', its = .eff k e :: flat (k + 1) st') ∨ ∃ r, its = .last k :: r) → (∀ j e, es[j]? = some e → (listed.getD e.i false = true ↔ j < k)) →
      (∀ j e, es[j]? = some e → s.testBit e.i = true → j < k) → k ≤ es.length → wpAny P md ops Q fuel listed a w := by
  intro fuel
  have last : ∀ (listed : Array Bool) (k : Nat) (its : List It) (s : Nat) (fr : Nat → T) (v : Nat → AV) (bk : Nat → Nat) (al : Nat → Bool) (t : T) (h : Hp) (ps : List PD) (μ : Mp) (a : Act) (w : World),
      listed.size = ops.size → Mid P n ops A es μ0 h0 w0 t0 s fr v bk al t h ps (fun i => listed.getD i false = true) μ a w → Tra call its t h ps t' h' → itOk es (2 ^ ops.size - 1) its s = true →
      (∀ it ∈ its, FineIt P n ops A it) → ((∃ e st', its = .eff k e :: flat (k + 1) st') ∨ ∃ r, its = .last k :: r) → (∀ i, listed.getD i true = true) → Q .normal a w := by
    intro listed k its s fr v bk al t h ps μ a w hsz m tr ok fine hits hall
    have hD : ∀ i, i < ops.size → listed.getD i false = true := fun i hi => by
      have := hall i
      have hlt : i < listed.size := by omega
      simp [Array.getElem?_eq_getElem hlt] at this ⊢
      exact this
    rcases hits with ⟨e, st', rfl⟩ | ⟨r, rfl⟩
    · exfalso
      obtain ⟨_, h2, _⟩ := itOk_eff ok
      have hno : IsNO P n ops A e := (fine (.eff k e) List.mem_cons_self).1
      have := m.sub e.i (hD e.i (Array.getElem?_eq_some_iff.1 hno.op).1)
      rw [h2] at this; cases this
    · cases tr
      refine hQ a w μ (fun d => m.done d fun j hj => ?_) m.sim m.goes m.defers m.size
      obtain ⟨o, ho, _⟩ := hj
      exact hD j (Array.getElem?_eq_some_iff.1 ho).1
  induction fuel with
  | zero =>
    intro listed k its s fr v bk al t h ps μ a w hsz hcnt m tr ok fine hits hdone hes hk
    have hall : ∀ i, listed.getD i true = true := count_full (by omega)
    refine ⟨?_, last listed k its s fr v bk al t h ps μ a w hsz m tr ok fine hits hall⟩
    rw [List.eq_nil_iff_forall_not_mem]
    intro i hi
    have := (mem_ready.1 hi).1
    rw [hall i] at this; cases this
  | succ fuel ih =>
    intro listed k its s fr v bk al t h ps μ a w hsz hcnt m tr ok fine hits hdone hes hk
    refine ⟨fun hr => last listed k its s fr v bk al t h ps μ a w hsz m tr ok fine hits (ends listed hsz hr), fun i hi => ?_⟩
    obtain ⟨hnl, o, ho, hall⟩ := mem_ready.1 hi
    have hlt : i < ops.size := (Array.getElem?_eq_some_iff.1 ho).1
    have hDi : ¬ listed.getD i false = true := fun hh => by
      have hlt' : i < listed.size := by omega
      simp [Array.getElem?_eq_getElem hlt'] at hh hnl
      rw [hh] at hnl; cases hnl
    have hready : ∀ l, (A i).testBit l = true → listed.getD l false = true := fun l hl => by
      obtain ⟨e, he, hb, hor⟩ := st.anc i o l ho hl
      have hbm : Region.binds md e = true := by
        cases md with
        | text => exact binds_any_text hb
        | gc => exact binds_any_gc hb
        | any => exact hb
      have := hall e he hbm
      rcases hor with rfl | hor
      · exact this
      · exact m.down e.on this l hor
    have hD' : (fun j => listed.getD j false = true ∨ j = i) = fun j => (listed.setIfInBounds i true).getD j false = true := by
      funext j
      apply propext
      by_cases hji : j = i
      · subst hji
        have hlt' : j < listed.size := by omega
        simp [hlt']
      · rw [getD_set_ne false (fun e => hji e.symm)]
        simp [hji]
    have hcnt' : fuel + count (listed.setIfInBounds i true) = ops.size := by rw [count_set hnl]; omega
    have hsz' : (listed.setIfInBounds i true).size = ops.size := by simpa using hsz
    have hrd : readAgain ps k h = true := by
      rcases hits with ⟨e, st', rfl⟩ | ⟨r, rfl⟩
      · cases tr; assumption
      · cases tr; assumption
    by_cases hsi : s.testBit i = true
    · -- one that stands ahead
      refine pend_ok st m hrd hk (fun j e he hj => (hdone j e he).2 hj) hsi hDi hready fun a' w' μ' m' => ?_
      rw [hD'] at m'
      refine ih _ k its s fr v bk al t h ps μ' a' w' hsz' hcnt' m' tr ok fine hits (fun j e he => ?_) hes hk
      rw [← hdone j e he]
      by_cases hei : e.i = i
      · have hjk := hes j e he (by rw [hei]; exact hsi)
        have := (hdone j e he).2 hjk
        rw [hei] at this
        exact absurd this hDi
      · rw [getD_set_ne false (fun e => hei e.symm)]
    · -- it is the next effect
      have hbit : (2 ^ ops.size - 1).testBit i = true := by rw [Nat.testBit_two_pow_sub_one]; simpa using hlt
      have hnot : ∀ (q : NO) (kk : Nat), IsNO P n ops A q → q.i = i → behind es q kk = true → kk ≤ k := fun q kk hno hqi hbh => by
        rcases behind_inv hbh with rfl | ⟨j, e, rfl, he, hb⟩
        · omega
        · rw [hno.a, hqi] at hb
          exact (hdone j e he).1 (hready _ hb)
      obtain ⟨e, st', rfl, hei⟩ : ∃ e st', its = .eff k e :: flat (k + 1) st' ∧ e.i = i := by
        rcases hits with ⟨e, st', rfl⟩ | ⟨r, rfl⟩
        · refine ⟨e, st', rfl, ?_⟩
          rcases itOk_cover ok i hbit with hh | ⟨kk, hi', q, hq, hqi, hbh⟩ | ⟨kk, q, hq, hqi, hbh⟩
          · exact absurd hh hsi
          · exfalso
            have := hnot q kk (fine _ hq).1 hqi hbh
            rcases List.mem_cons.1 hq with hq | hq
            · cases hq
            · have := (flat_ge st' (k + 1)).1 _ _ _ hq
              omega
          · have := hnot q kk (fine _ hq).1 hqi hbh
            rcases List.mem_cons.1 hq with hq | hq
            · cases hq; exact hqi
            · have := (flat_ge st' (k + 1)).2 _ _ hq
              omega
        · exfalso
          have : s = 2 ^ ops.size - 1 := Nat.eq_of_beq_eq_true (show Nat.beq s (2 ^ ops.size - 1) = true from ok)
          rw [this] at hsi; exact hsi hbit
      obtain ⟨hno, hise⟩ : IsNO P n ops A e ∧ isE e.o.op = true := fine (.eff k e) List.mem_cons_self
      obtain ⟨h1, h2, h3, ⟨e', he', hee⟩, h5⟩ := itOk_eff ok
      rw [hno.a] at h1
      cases tr with
      | eff _ ev tr =>
        rename_i t1 h1'
        subst hei
        refine eff_ok st m good hno.op hno.o hise h1 h2 hready ev fun a' w' μ' m' => ?_
        rw [hD'] at m'
        have hkl : k + 1 ≤ es.length := (List.getElem?_eq_some_iff.1 he').1
        have hdone' : ∀ j f, es[j]? = some f → ((listed.setIfInBounds e.i true).getD f.i false = true ↔ j < k + 1) := fun j f hf => by
          by_cases hfe : f.i = e.i
          · have hjk : j = k := hnd j k f e' hf he' (hfe.trans hee.symm)
            subst hjk
            rw [hfe]
            have hlt' : e.i < listed.size := by omega
            simp [hlt']
          · rw [getD_set_ne false (fun e => hfe e.symm), hdone j f hf]
            constructor
            · intro hh; omega
            · intro hh
              rcases Nat.lt_or_ge j k with hjk | hjk
              · exact hjk
              · obtain rfl : j = k := by omega
                rw [hf] at he'; cases he'
                exact absurd hee hfe
        have hes' : ∀ j f, es[j]? = some f → (s ||| 2 ^ e.i).testBit f.i = true → j < k + 1 := fun j f hf hb => by
          rcases bit_or.1 hb with hb | hb
          · have := hes j f hf hb; omega
          · have := hnd j k f e' hf he' (hb.trans hee.symm)
            omega
        cases st' with
        | nil => cases tr
        | cons sg st' =>
          obtain ⟨qs, eo⟩ := sg
          have fine' : ∀ it ∈ flat (k + 1) ((qs, eo) :: st'), FineIt P n ops A it := fun it hit => fine it (List.mem_cons_of_mem _ hit)
          cases eo with
          | none =>
            obtain ⟨s', fr', v', bk', al', t2, h2', ps2, m2, tr2, ok2, hes2⟩ := absorb_all st hes0 (k := k + 1) (m := 2 ^ ops.size - 1) (tail := [It.last (k + 1)]) qs m' tr h5 fine' hes'
            exact ih _ (k + 1) [It.last (k + 1)] s' fr' v' bk' al' t2 h2' ps2 μ' a' w' hsz' hcnt' m2 tr2 ok2 (fun it hit => fine' it (List.mem_append_right _ hit)) (.inr ⟨[], rfl⟩) hdone' hes2 hkl
          | some f =>
            obtain ⟨s', fr', v', bk', al', t2, h2', ps2, m2, tr2, ok2, hes2⟩ := absorb_all st hes0 (k := k + 1) (m := 2 ^ ops.size - 1) (tail := It.eff (k + 1) f :: flat (k + 1 + 1) st') qs m' tr h5 fine' hes'
            exact ih _ (k + 1) _ s' fr' v' bk' al' t2 h2' ps2 μ' a' w' hsz' hcnt' m2 tr2 ok2 (fun it hit => fine' it (List.mem_append_right _ hit)) (.inl ⟨f, st', rfl⟩) hdone' hes2 hkl
theorem stagesFrom_mem {qs es0 : List NO} : ∀ (rest : List NO) (k j : Nat), (∀ kk hi q, It.op kk hi q ∈ flat j (stagesFrom qs es0 rest k) → q ∈ qs) ∧ ∀ kk q, It.eff kk q ∈ flat j (stagesFrom qs es0 rest k) → q ∈ rest
  | [], k, j => by
    refine ⟨fun kk hi q h => ?_, fun kk q h => ?_⟩
    · simp only [stagesFrom, flat, List.mem_append, List.mem_map, List.mem_singleton] at h
      rcases h with ⟨x, ⟨y, hy, rfl⟩, hx⟩ | hx
      · cases hx; exact (List.mem_filter.1 hy).1
      · cases hx
    · simp only [stagesFrom, flat, List.mem_append, List.mem_map, List.mem_singleton] at h
      rcases h with ⟨x, _, hx⟩ | hx <;> cases hx
  | e :: rest, k, j => by
    obtain ⟨h1, h2⟩ := stagesFrom_mem (qs := qs) (es0 := es0) rest (k + 1) (j + 1)
    refine ⟨fun kk hi q h => ?_, fun kk q h => ?_⟩
    · simp only [stagesFrom, flat, List.mem_append, List.mem_map, List.mem_cons] at h
      rcases h with ⟨x, ⟨y, hy, rfl⟩, hx⟩ | hx | hx
      · cases hx; exact (List.mem_filter.1 hy).1
      · cases hx
      · exact h1 kk hi q hx
    · simp only [stagesFrom, flat, List.mem_append, List.mem_map, List.mem_cons] at h
      rcases h with ⟨x, _, hx⟩ | hx | hx
      · cases hx
      · cases hx; exact List.mem_cons_self
      · exact List.mem_cons_of_mem _ (h2 kk q hx)
theorem numbered_sorted {n : Nat} : ∀ {os : List Oper} {as : List Nat} {k : Nat}, (numbered P n ops os as k).Pairwise (fun x y => x.i < y.i)
  | [], as, k => by simp [numbered]
  | o :: os, [], k => by simp [numbered]
  | o :: os, a :: as, k => by
    rw [show numbered P n ops (o :: os) (a :: as) k = ⟨k, compO P n ops o, a, o⟩ :: numbered P n ops os as (k + 1) from rfl, List.pairwise_cons]
    refine ⟨fun y hy => ?_, numbered_sorted⟩
    obtain ⟨j, o', _, _, rfl⟩ := numbered_mem hy
    show k < k + 1 + j
    omega
theorem readsT_any {d : Nat} {l : List Operand} (h : Operand.tmp d ∈ l) : l.any (readsT d) = true := by
  rw [List.any_eq_true]
  refine ⟨_, h, ?_⟩
  show Nat.beq d d = true
  exact Nat.beq_refl d
theorem compDrawn_ok : DrawOk P (compDrawn P) := fun call N n id ops μ0 h0 w0 Q t h a w good hp st => by
  unfold compDrawn at hp
  simp only [] at hp
  generalize hA : ancs ops.toList [] = as at hp
  generalize hnos : numbered P n ops ops.toList as 0 = nos at hp
  generalize hes : (nos.filter fun n => isE n.o.op) = es at hp
  split at hp
  · rename_i hchk
    simp only [Bool.and_eq_true] at hchk
    obtain ⟨⟨⟨hwd, hfw⟩, hends⟩, hit⟩ := hchk
    obtain ⟨hlen, _, hanc⟩ := ancs_go ops.toList []
    rw [hA] at hlen hanc
    simp at hlen
    have hno : ∀ q ∈ nos, IsNO P n ops (fun i => as.getD i 0) q := fun q hq => by
      rw [← hnos] at hq
      obtain ⟨j, o, h1, h2, rfl⟩ := numbered_mem hq
      rw [Nat.zero_add]
      exact ⟨by rw [← Array.getElem?_toList]; exact h1, rfl, rfl⟩
    have hget : ∀ (i : Nat) (o : Oper), ops[i]? = some o → (⟨i, compO P n ops o, as.getD i 0, o⟩ : NO) ∈ nos := fun i o ho => by
      rw [← hnos]
      have hlt := (Array.getElem?_eq_some_iff.1 ho).1
      have := numbered_get (P := P) (n := n) (ops := ops) (os := ops.toList) (as := as) (k := 0) i o (by rw [Array.getElem?_toList]; exact ho) (by omega)
      rw [Nat.zero_add] at this
      exact this
    have wd : ∀ x ∈ nos, (∀ y ∈ nos, x.i ≠ y.i → ∀ d, y.p.dst = some d → x.p.dst ≠ some d ∧ (Operand.tmp d ∈ x.p.op.operands.toList → x.a.testBit y.i = true ∨ y.a.testBit x.i = true)) ∧
        (∀ d, x.p.dst = some d → Operand.tmp d ∉ x.p.op.operands.toList) ∧ ∀ j want, x.p.guard = some (j, want) → x.a.testBit j = true := fun x hx => by
      unfold wellDrawn at hwd
      have h1 := List.all_eq_true.1 hwd x hx
      simp only [Bool.and_eq_true, List.all_eq_true] at h1
      obtain ⟨⟨h2, h3⟩, h4⟩ := h1
      refine ⟨fun y hy hne d hd => ?_, fun d hd hr => ?_, fun j want hg => ?_⟩
      · have h5 := h2 y hy
        rw [hd] at h5
        simp only [Bool.or_eq_true, Bool.and_eq_true] at h5
        rcases h5 with h5 | ⟨h5, h6⟩
        · exact absurd (Nat.eq_of_beq_eq_true h5) hne
        · refine ⟨fun hxd => ?_, fun hr => ?_⟩
          · rw [hxd] at h5
            simp at h5
          · rw [readsT_any hr] at h6
            simpa using h6
      · rw [hd] at h3
        simp only [] at h3
        rw [readsT_any hr] at h3
        cases h3
      · rw [hg] at h4; exact h4
    have stat : Static P n ops (fun i => as.getD i 0) := by
      refine ⟨fun i j d hi hj => ?_, fun i j d o ho hr hj => ?_, fun i o g want ho hg => ?_, fun i o l ho hl => ?_⟩
      · obtain ⟨oi, hoi, hdi⟩ := hi
        obtain ⟨oj, hoj, hdj⟩ := hj
        by_cases hij : i = j
        · exact hij
        · exact absurd hdi ((wd _ (hget i oi hoi)).1 _ (hget j oj hoj) hij d hdj).1
      · obtain ⟨oj, hoj, hdj⟩ := hj
        by_cases hij : i = j
        · subst hij
          rw [ho] at hoj; cases hoj
          exact absurd hr ((wd _ (hget i o ho)).2.1 d hdj)
        · exact ⟨hij, ((wd _ (hget i o ho)).1 _ (hget j oj hoj) hij d hdj).2 hr⟩
      · exact (wd _ (hget i o ho)).2.2 g want hg
      · have := hanc i o (by rw [Array.getElem?_toList]; exact ho) l (by rw [List.length_nil, Nat.zero_add]; exact hl)
        exact this
    have hes0 : ∀ e ∈ es, IsNO P n ops (fun i => as.getD i 0) e ∧ isE e.o.op = true := fun e he => by
      rw [← hes] at he
      obtain ⟨h1, h2⟩ := List.mem_filter.1 he
      exact ⟨hno e h1, h2⟩
    have hnd : ∀ (j k : Nat) (e f : NO), es[j]? = some e → es[k]? = some f → e.i = f.i → j = k := fun j k e f he hf hef => by
      have hsort : es.Pairwise (fun x y => x.i < y.i) := by
        rw [← hes, ← hnos]; exact numbered_sorted.filter _
      obtain ⟨hj, hje⟩ := List.getElem?_eq_some_iff.1 he
      obtain ⟨hk, hke⟩ := List.getElem?_eq_some_iff.1 hf
      rw [List.pairwise_iff_getElem] at hsort
      rcases Nat.lt_trichotomy j k with hlt | heq | hgt
      · have := hsort j k hj hk hlt
        rw [hje, hke] at this; omega
      · exact heq
      · have := hsort k j hk hj hgt
        rw [hje, hke] at this; omega
    obtain ⟨⟨μ, r, hs, g⟩, hdef, hsize⟩ := st
    have hp : Post μ0 h0 w0 n Q ((evDs call ((stagesFrom (nos.filter fun n => !isE n.o.op) es es 0).map fun s => ⟨s.1.map fun q => (q.1.o, q.2), s.2.map (·.o)⟩) 0 t h []).done) := hp
    cases hev : evDs call ((stagesFrom (nos.filter fun n => !isE n.o.op) es es 0).map fun s => ⟨s.1.map fun q => (q.1.o, q.2), s.2.map (·.o)⟩) 0 t h [] with
    | no => rw [hev] at hp; exact hp.elim
    | ok t' h' =>
      rw [hev] at hp
      have hp : ∀ a w, At μ0 h0 w0 n t' h' a w → Q .normal a w := hp
      have tr := evDs_tra _ _ _ _ _ hev
      have fine : ∀ it ∈ flat 0 (stagesFrom (nos.filter fun n => !isE n.o.op) es es 0), FineIt P n ops (fun i => as.getD i 0) it := fun it hin => by
        obtain ⟨k1, k2⟩ := stagesFrom_mem (qs := nos.filter fun n => !isE n.o.op) (es0 := es) es 0 0
        cases it with
        | op kk hi q =>
          obtain ⟨h1, h2⟩ := List.mem_filter.1 (k1 kk hi q hin)
          exact ⟨hno q h1, by simpa using h2⟩
        | eff kk q => exact hes0 q (k2 kk q hin)
        | last kk => trivial
      refine wp_drawn hfw hends fun md ends => ?_
      have hs2 : Sim μ h { w with drawn := w.drawn + 1 } := hs.drawn
      have mid0 : Mid P n ops (fun i => as.getD i 0) es μ h { w with drawn := w.drawn + 1 } t 0 (fun _ => t) (fun _ => undef) (fun _ => 0) (fun _ => false) t h [] (fun i => (Array.replicate ops.size false).getD i false = true) μ a { w with drawn := w.drawn + 1 } := by
        have hD : ∀ i, ¬ (Array.replicate ops.size false).getD i false = true := fun i hi => by
          rw [Array.getD_eq_getD_getElem?, Array.getElem?_replicate] at hi
          split at hi <;> simp at hi
        have hz : ∀ i, ¬ (0 : Nat).testBit i = true := fun i => by simp
        exact ⟨fun i hi => absurd hi (hD i), fun i hi => absurd hi (hD i), fun i hi => absurd hi (hz i), fun d j _ _ => r d, fun d _ => r d, fun _ _ => rfl, fun i hi => absurd hi (hz i), fun i j hi => absurd hi (hz i), fun i hi => absurd hi (hz i), hs2, .refl hs2, hdef, hsize⟩
      have hcnt : count (Array.replicate ops.size false) = 0 := by unfold count; simp
      have hQ : ∀ (a : Act) (w' : World) (μ' : Mp), TR μ' t' a.tmps → Sim μ' h' w' → Goes μ h { w with drawn := w.drawn + 1 } μ' h' w' → a.defers = [] → a.tmps.size = n → Q .normal a w' := fun a w' μ' r' hs' g' hd hz => by
        refine hp a w' ⟨⟨μ', r', hs', ?_⟩, hd, hz⟩
        have gd : Goes μ h w μ h { w with drawn := w.drawn + 1 } := ⟨Nat.le_refl _, fun _ _ => rfl, fun _ _ => rfl, fun _ _ => rfl, Nat.le_refl _, fun _ _ _ => rfl, fun _ _ _ => rfl, rfl, rfl, rfl⟩
        exact (g.trans gd).trans g'
      have hdone0 : ∀ (j : Nat) (e : NO), es[j]? = some e → ((Array.replicate ops.size false).getD e.i false = true ↔ j < 0) := fun j e he => by
        constructor
        · intro hi
          rw [Array.getD_eq_getD_getElem?, Array.getElem?_replicate] at hi
          split at hi <;> simp at hi
        · intro hj; omega
      have hes00 : ∀ (j : Nat) (e : NO), es[j]? = some e → (0 : Nat).testBit e.i = true → j < 0 := fun j e he hb => by simp at hb
      generalize hst : stagesFrom (nos.filter fun n => !isE n.o.op) es es 0 = stg at tr fine hit
      cases stg with
      | nil => cases tr
      | cons sg st' =>
        obtain ⟨qs, eo⟩ := sg
        cases eo with
        | none =>
          obtain ⟨s', fr', v', bk', al', t2, h2', ps2, m2, tr2, ok2, hes2⟩ := absorb_all stat hes0 (k := 0) (m := 2 ^ ops.size - 1) (tail := [It.last 0]) qs mid0 tr hit fine hes00
          exact drawn_go stat ends hes0 hnd good hQ ops.size _ 0 _ s' fr' v' bk' al' t2 h2' ps2 μ a _ (by simp) (by rw [hcnt]; rfl) m2 tr2 ok2 (fun it hin => fine it (List.mem_append_right _ hin)) (.inr ⟨[], rfl⟩) hdone0 hes2 (Nat.zero_le _)
        | some f =>
          obtain ⟨s', fr', v', bk', al', t2, h2', ps2, m2, tr2, ok2, hes2⟩ := absorb_all stat hes0 (k := 0) (m := 2 ^ ops.size - 1) (tail := It.eff 0 f :: flat (0 + 1) st') qs mid0 tr hit fine hes00
          exact drawn_go stat ends hes0 hnd good hQ ops.size _ 0 _ s' fr' v' bk' al' t2 h2' ps2 μ a _ (by simp) (by rw [hcnt]; rfl) m2 tr2 ok2 (fun it hin => fine it (List.mem_append_right _ hin)) (.inl ⟨f, st', rfl⟩) hdone0 hes2 (Nat.zero_le _)
  · exact hp.elim
end
end Eng
