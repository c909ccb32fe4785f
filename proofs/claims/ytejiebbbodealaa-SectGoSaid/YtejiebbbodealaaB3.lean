import Derived.Test.YtejiebbbodealaaB2
import Derived.ChangeSlices
import Derived.WideShapes
import Derived.SizedLaws
import Derived.Test.YtejiebbbodealaaRows
import Derived.WalkKit
section
set_option linter.unusedVariables false
set_option linter.unusedSimpArgs false
namespace Eng
open Go Go.RowKit
section
variable {P : Program} {n : Nat} {ops : Array Oper} {A : Nat → Nat} {es : List NO} {μ0 : Mp} {h0 : Hp} {w0 : World} {t0 : T} {s : Nat} {fr : Nat → T} {v : Nat → AV} {bk : Nat → Nat} {al : Nat → Bool} {t t' t1 : T} {h h' h1 : Hp} {ps : List PD}
  {D : Nat → Prop} {μ : Mp} {a : Act} {w : World}
structure IsNO (P : Program) (n : Nat) (ops : Array Oper) (A : Nat → Nat) (q : NO) : Prop where
  op : ops[q.i]? = some q.p
  o : q.o = compO P n ops q.p
  a : q.a = A q.i
theorem IsNO.same {q e : NO} (hq : IsNO P n ops A q) (he : IsNO P n ops A e) (h : q.i = e.i) : q.o = e.o := by
  have h1 := hq.op
  rw [h, he.op] at h1
  rw [hq.o, he.o, Option.some.inj h1]
def FineIt (P : Program) (n : Nat) (ops : Array Oper) (A : Nat → Nat) : It → Prop
  | .op _ _ q => IsNO P n ops A q ∧ isE q.o.op = false
  | .eff _ e => IsNO P n ops A e ∧ isE e.o.op = true
  | .last _ => True
theorem itOk_op {k hi m : Nat} {q : NO} {r : List It} (e : itOk es m (.op k hi q :: r) s = true) : q.a &&& s = q.a ∧ s.testBit q.i = false ∧ behind es q k = true ∧ ahead es q hi = true ∧ itOk es m r (s ||| 2 ^ q.i) = true := by
  simp only [itOk, Bool.and_eq_true, Bool.not_eq_true'] at e
  obtain ⟨⟨⟨⟨h1, h2⟩, h3⟩, h4⟩, h5⟩ := e
  exact ⟨Nat.eq_of_beq_eq_true h1, h2, h3, h4, h5⟩
theorem itOk_eff {k m : Nat} {q : NO} {r : List It} (e : itOk es m (.eff k q :: r) s = true) : q.a &&& s = q.a ∧ s.testBit q.i = false ∧ behind es q k = true ∧ (∃ e', es[k]? = some e' ∧ e'.i = q.i) ∧ itOk es m r (s ||| 2 ^ q.i) = true := by
  simp only [itOk, Bool.and_eq_true, Bool.not_eq_true'] at e
  obtain ⟨⟨⟨⟨h1, h2⟩, h3⟩, h4⟩, h5⟩ := e
  refine ⟨Nat.eq_of_beq_eq_true h1, h2, h3, ?_, h5⟩
  split at h4
  · rename_i e' he; exact ⟨e', he, Nat.eq_of_beq_eq_true h4⟩
  · cases h4
theorem itOk_cover {m : Nat} : ∀ {its : List It} {s : Nat}, itOk es m its s = true → ∀ i, m.testBit i = true →
    s.testBit i = true ∨ (∃ k hi q, It.op k hi q ∈ its ∧ q.i = i ∧ behind es q k = true) ∨ ∃ k q, It.eff k q ∈ its ∧ q.i = i ∧ behind es q k = true
  | [], s, e, i, hi => by cases e
  | .op k hi q :: r, s, e, i, hm => by
    obtain ⟨_, _, h3, _, h5⟩ := itOk_op e
    rcases itOk_cover h5 i hm with h | ⟨k', hi', q', h6, h7⟩ | ⟨k', q', h6, h7⟩
    · rcases bit_or.1 h with h | rfl
      · exact .inl h
      · exact .inr (.inl ⟨k, hi, q, List.mem_cons_self, rfl, h3⟩)
    · exact .inr (.inl ⟨k', hi', q', List.mem_cons_of_mem _ h6, h7⟩)
    · exact .inr (.inr ⟨k', q', List.mem_cons_of_mem _ h6, h7⟩)
  | .eff k q :: r, s, e, i, hm => by
    obtain ⟨_, _, h3, _, h5⟩ := itOk_eff e
    rcases itOk_cover h5 i hm with h | ⟨k', hi', q', h6, h7⟩ | ⟨k', q', h6, h7⟩
    · rcases bit_or.1 h with h | rfl
      · exact .inl h
      · exact .inr (.inr ⟨k, q, List.mem_cons_self, rfl, h3⟩)
    · exact .inr (.inl ⟨k', hi', q', List.mem_cons_of_mem _ h6, h7⟩)
    · exact .inr (.inr ⟨k', q', List.mem_cons_of_mem _ h6, h7⟩)
  | .last k :: r, s, e, i, hm => by
    have : s = m := Nat.eq_of_beq_eq_true (show Nat.beq s m = true from e)
    rw [this]; exact .inl hm
theorem flat_ge : ∀ (st : List (List (NO × Nat) × Option NO)) (k : Nat), (∀ j hi q, It.op j hi q ∈ flat k st → k ≤ j) ∧ ∀ j q, It.eff j q ∈ flat k st → k ≤ j
  | [], k => ⟨fun _ _ _ h => by simp [flat] at h, fun _ _ h => by simp [flat] at h⟩
  | (qs, some e) :: r, k => by
    obtain ⟨h1, h2⟩ := flat_ge r (k + 1)
    refine ⟨fun j hi q h => ?_, fun j q h => ?_⟩
    · simp only [flat, List.mem_append, List.mem_map, List.mem_cons] at h
      rcases h with ⟨x, _, hx⟩ | hx | hx
      · cases hx; exact Nat.le_refl _
      · cases hx
      · have := h1 j hi q hx; omega
    · simp only [flat, List.mem_append, List.mem_map, List.mem_cons] at h
      rcases h with ⟨x, _, hx⟩ | hx | hx
      · cases hx
      · cases hx; exact Nat.le_refl _
      · have := h2 j q hx; omega
  | (qs, none) :: r, k => by
    refine ⟨fun j hi q h => ?_, fun j q h => ?_⟩
    · simp only [flat, List.mem_append, List.mem_map, List.mem_singleton] at h
      rcases h with ⟨x, _, hx⟩ | hx
      · cases hx; exact Nat.le_refl _
      · cases hx
    · simp only [flat, List.mem_append, List.mem_map, List.mem_singleton] at h
      rcases h with ⟨x, _, hx⟩ | hx
      · cases hx
      · cases hx
theorem absorb_all (st : Static P n ops A) (hes0 : ∀ e ∈ es, IsNO P n ops A e ∧ isE e.o.op = true) {call : CallT} {k m : Nat} {tail : List It} : ∀ (qs : List (NO × Nat)) {s : Nat} {fr : Nat → T} {v : Nat → AV} {bk : Nat → Nat} {al : Nat → Bool} {t : T} {h : Hp} {ps : List PD},
    Mid P n ops A es μ0 h0 w0 t0 s fr v bk al t h ps D μ a w → Tra call (qs.map (fun q => It.op k q.2 q.1) ++ tail) t h ps t' h' → itOk es m (qs.map (fun q => It.op k q.2 q.1) ++ tail) s = true →
    (∀ it ∈ qs.map (fun q => It.op k q.2 q.1) ++ tail, FineIt P n ops A it) → (∀ j e, es[j]? = some e → s.testBit e.i = true → j < k) →
    ∃ s' fr' v' bk' al' t1 h1 ps1, Mid P n ops A es μ0 h0 w0 t0 s' fr' v' bk' al' t1 h1 ps1 D μ a w ∧ Tra call tail t1 h1 ps1 t' h' ∧ itOk es m tail s' = true ∧ (∀ j e, es[j]? = some e → s'.testBit e.i = true → j < k)
  | [], s, fr, v, bk, al, t, h, ps, md, tr, ok, fine, hes => ⟨s, fr, v, bk, al, t, h, ps, md, tr, ok, hes⟩
  | q :: qs, s, fr, v, bk, al, t, h, ps, md, tr, ok, fine, hes => by
    obtain ⟨h1, h2, _, h4, h5⟩ := itOk_op (show itOk es m (It.op k q.2 q.1 :: (qs.map (fun q => It.op k q.2 q.1) ++ tail)) s = true from ok)
    obtain ⟨hno, hne⟩ : IsNO P n ops A q.1 ∧ isE q.1.o.op = false := fine (.op k q.2 q.1) (by simp)
    rw [hno.a] at h1
    obtain ⟨fr', v', bk', al', t1, h1', ps1, tr1, md1⟩ := absorb st md (show Tra call (It.op k q.2 q.1 :: (qs.map (fun q => It.op k q.2 q.1) ++ tail)) t h ps t' h' from tr) hno.op hno.o h1 h2 (fun e he => by
      have hh : (match es[q.2]? with | some e => e.a.testBit q.1.i | none => true) = true := h4
      rw [he] at hh
      rw [← (hes0 e (List.mem_of_getElem? he)).1.a]; exact hh)
    refine absorb_all st hes0 qs md1 tr1 h5 (fun it hit => fine it (List.mem_cons_of_mem _ hit)) fun j e he hb => ?_
    rcases bit_or.1 hb with hb | hb
    · exact hes j e he hb
    · obtain ⟨he1, he2⟩ := hes0 e (List.mem_of_getElem? he)
      rw [he1.same hno hb, hne] at he2; cases he2
theorem behind_inv {q : NO} {k : Nat} (h : behind es q k = true) : k = 0 ∨ ∃ j e, k = j + 1 ∧ es[j]? = some e ∧ q.a.testBit e.i = true := by
  cases k with
  | zero => exact .inl rfl
  | succ j =>
    right
    have h : (match es[j]? with | some e => q.a.testBit e.i | none => false) = true := h
    split at h
    · rename_i e he; exact ⟨j, e, rfl, he, h⟩
    · cases h
theorem drawn_go {md : Region.Mode} (st : Static P n ops A) (ends : Ends md ops) (hes0 : ∀ e ∈ es, IsNO P n ops A e ∧ isE e.o.op = true) (hnd : ∀ (j k : Nat) (e f : NO), es[j]? = some e → es[k]? = some f → e.i = f.i → j = k) {call : CallT} (good : Good P call)
    {Q : Exit → Act → World → Prop} (hQ : ∀ a w μ, TR μ t' a.tmps → Sim μ h' w → Goes μ0 h0 w0 μ h' w → a.defers = [] → a.tmps.size = n → Q .normal a w) :
    ∀ (fuel : Nat) (listed : Array Bool) (k : Nat) (its : List It) (s : Nat) (fr : Nat → T) (v : Nat → AV) (bk : Nat → Nat) (al : Nat → Bool) (t : T) (h : Hp) (ps : List PD) (μ : Mp) (a : Act) (w : World),
      listed.size = ops.size → fuel + count listed = ops.size → Mid P n ops A es μ0 h0 w0 t0 s fr v bk al t h ps (fun i => listed.getD i false = true) μ a w → Tra call its t h ps t' h' → itOk es (2 ^ ops.size - 1) its s = true →
      (∀ it ∈ its, FineIt P n ops A it) → ((∃ e st', its = .eff k e :: flat (k + 1) st') ∨ ∃ r, its = .last k :: r) → (∀ j e, es[j]? = some e → (listed.getD e.i false = true ↔ j < k)) →
      (∀ j e, es[j]? = some e → s.testBit e.i = true → j < k) → k ≤ es.length → wpAny P md ops Q fuel listed a w := by
  intro fuel
  have last : ∀ (listed : Array Bool) (k : Nat) (its : List It) (s : Nat) (fr : Nat → T) (v : Nat → AV) (bk : Nat → Nat) (al : Nat → Bool) (t : T) (h : Hp) (ps : List PD) (μ : Mp) (a : Act) (w : World),
      listed.size = ops.size → Mid P n ops A es μ0 h0 w0 t0 s fr v bk al t h ps (fun i => listed.getD i false = true) μ a w → Tra call its t h ps t' h' → itOk es (2 ^ ops.size - 1) its s = true →
      (∀ it ∈ its, FineIt P n ops A it) → ((∃ e st', its = .eff k e :: flat (k + 1) st') ∨ ∃ r, its = .last k :: r) → (∀ i, listed.getD i true = true) → Q .normal a w := by
    intro listed k its s fr v bk al t h ps μ a w hsz m tr ok fine hits hall
    have hD : ∀ i, i < ops.size → listed.getD i false = true := fun i hi => by
      have := hall i
      have hlt : i < listed.size := by omega
      simp [Array.getElem?_eq_getElem hlt] at this ⊢
      exact this
    rcases hits with ⟨e, st', rfl⟩ | ⟨r, rfl⟩
    · exfalso
      obtain ⟨_, h2, _⟩ := itOk_eff ok
      have hno : IsNO P n ops A e := (fine (.eff k e) List.mem_cons_self).1
      have := m.sub e.i (hD e.i (Array.getElem?_eq_some_iff.1 hno.op).1)
      rw [h2] at this; cases this
    · cases tr
      refine hQ a w μ (fun d => m.done d fun j hj => ?_) m.sim m.goes m.defers m.size
      obtain ⟨o, ho, _⟩ := hj
      exact hD j (Array.getElem?_eq_some_iff.1 ho).1
  induction fuel with
  | zero =>
    intro listed k its s fr v bk al t h ps μ a w hsz hcnt m tr ok fine hits hdone hes hk
    have hall : ∀ i, listed.getD i true = true := count_full (by omega)
    refine ⟨?_, last listed k its s fr v bk al t h ps μ a w hsz m tr ok fine hits hall⟩
    rw [List.eq_nil_iff_forall_not_mem]
    intro i hi
    have := (mem_ready.1 hi).1
    rw [hall i] at this; cases this
  | succ fuel ih =>
    intro listed k its s fr v bk al t h ps μ a w hsz hcnt m tr ok fine hits hdone hes hk
    refine ⟨fun hr => last listed k its s fr v bk al t h ps μ a w hsz m tr ok fine hits (ends listed hsz hr), fun i hi => ?_⟩
    obtain ⟨hnl, o, ho, hall⟩ := mem_ready.1 hi
    have hlt : i < ops.size := (Array.getElem?_eq_some_iff.1 ho).1
    have hDi : ¬ listed.getD i false = true := fun hh => by
      have hlt' : i < listed.size := by omega
      simp [Array.getElem?_eq_getElem hlt'] at hh hnl
      rw [hh] at hnl; cases hnl
    have hready : ∀ l, (A i).testBit l = true → listed.getD l false = true := fun l hl => by
      obtain ⟨e, he, hb, hor⟩ := st.anc i o l ho hl
      have hbm : Region.binds md e = true := by
        cases md with
        | text => exact binds_any_text hb
        | gc => exact binds_any_gc hb
        | any => exact hb
      have := hall e he hbm
      rcases hor with rfl | hor
      · exact this
      · exact m.down e.on this l hor
    have hD' : (fun j => listed.getD j false = true ∨ j = i) = fun j => (listed.setIfInBounds i true).getD j false = true := by
      funext j
      apply propext
      by_cases hji : j = i
      · subst hji
        have hlt' : j < listed.size := by omega
        simp [hlt']
      · rw [getD_set_ne false (fun e => hji e.symm)]
        simp [hji]
    have hcnt' : fuel + count (listed.setIfInBounds i true) = ops.size := by rw [count_set hnl]; omega
    have hsz' : (listed.setIfInBounds i true).size = ops.size := by simpa using hsz
    have hrd : readAgain ps k h = true := by
      rcases hits with ⟨e, st', rfl⟩ | ⟨r, rfl⟩
      · cases tr; assumption
      · cases tr; assumption
    by_cases hsi : s.testBit i = true
    · -- one that stands ahead
      refine pend_ok st m hrd hk (fun j e he hj => (hdone j e he).2 hj) hsi hDi hready fun a' w' μ' m' => ?_
      rw [hD'] at m'
      refine ih _ k its s fr v bk al t h ps μ' a' w' hsz' hcnt' m' tr ok fine hits (fun j e he => ?_) hes hk
      rw [← hdone j e he]
      by_cases hei : e.i = i
      · have hjk := hes j e he (by rw [hei]; exact hsi)
        have := (hdone j e he).2 hjk
        rw [hei] at this
        exact absurd this hDi
      · rw [getD_set_ne false (fun e => hei e.symm)]
    · -- it is the next effect
      have hbit : (2 ^ ops.size - 1).testBit i = true := by rw [Nat.testBit_two_pow_sub_one]; simpa using hlt
      have hnot : ∀ (q : NO) (kk : Nat), IsNO P n ops A q → q.i = i → behind es q kk = true → kk ≤ k := fun q kk hno hqi hbh => by
        rcases behind_inv hbh with rfl | ⟨j, e, rfl, he, hb⟩
        · omega
        · rw [hno.a, hqi] at hb
          exact (hdone j e he).1 (hready _ hb)
      obtain ⟨e, st', rfl, hei⟩ : ∃ e st', its = .eff k e :: flat (k + 1) st' ∧ e.i = i := by
        rcases hits with ⟨e, st', rfl⟩ | ⟨r, rfl⟩
        · refine ⟨e, st', rfl, ?_⟩
          rcases itOk_cover ok i hbit with hh | ⟨kk, hi', q, hq, hqi, hbh⟩ | ⟨kk, q, hq, hqi, hbh⟩
          · exact absurd hh hsi
          · exfalso
            have := hnot q kk (fine _ hq).1 hqi hbh
            rcases List.mem_cons.1 hq with hq | hq
            · cases hq
            · have := (flat_ge st' (k + 1)).1 _ _ _ hq
              omega
          · have := hnot q kk (fine _ hq).1 hqi hbh
            rcases List.mem_cons.1 hq with hq | hq
            · cases hq; exact hqi
            · have := (flat_ge st' (k + 1)).2 _ _ hq
              omega
        · exfalso
          have : s = 2 ^ ops.size - 1 := Nat.eq_of_beq_eq_true (show Nat.beq s (2 ^ ops.size - 1) = true from ok)
          rw [this] at hsi; exact hsi hbit
      obtain ⟨hno, hise⟩ : IsNO P n ops A e ∧ isE e.o.op = true := fine (.eff k e) List.mem_cons_self
      obtain ⟨h1, h2, h3, ⟨e', he', hee⟩, h5⟩ := itOk_eff ok
      rw [hno.a] at h1
      cases tr with
      | eff _ ev tr =>
        rename_i t1 h1'
        subst hei
        refine eff_ok st m good hno.op hno.o hise h1 h2 hready ev fun a' w' μ' m' => ?_
        rw [hD'] at m'
        have hkl : k + 1 ≤ es.length := (List.getElem?_eq_some_iff.1 he').1
        have hdone' : ∀ j f, es[j]? = some f → ((listed.setIfInBounds e.i true).getD f.i false = true ↔ j < k + 1) := fun j f hf => by
          by_cases hfe : f.i = e.i
          · have hjk : j = k := hnd j k f e' hf he' (hfe.trans hee.symm)
            subst hjk
            rw [hfe]
            have hlt' : e.i < listed.size := by omega
            simp [hlt']
          · rw [getD_set_ne false (fun e => hfe e.symm), hdone j f hf]
            constructor
            · intro hh; omega
            · intro hh
              rcases Nat.lt_or_ge j k with hjk | hjk
              · exact hjk
              · obtain rfl : j = k := by omega
                rw [hf] at he'; cases he'
                exact absurd hee hfe
        have hes' : ∀ j f, es[j]? = some f → (s ||| 2 ^ e.i).testBit f.i = true → j < k + 1 := fun j f hf hb => by
          rcases bit_or.1 hb with hb | hb
          · have := hes j f hf hb; omega
          · have := hnd j k f e' hf he' (hb.trans hee.symm)
            omega
        cases st' with
        | nil => cases tr
        | cons sg st' =>
          obtain ⟨qs, eo⟩ := sg
          have fine' : ∀ it ∈ flat (k + 1) ((qs, eo) :: st'), FineIt P n ops A it := fun it hit => fine it (List.mem_cons_of_mem _ hit)
          cases eo with
          | none =>
            obtain ⟨s', fr', v', bk', al', t2, h2', ps2, m2, tr2, ok2, hes2⟩ := absorb_all st hes0 (k := k + 1) (m := 2 ^ ops.size - 1) (tail := [It.last (k + 1)]) qs m' tr h5 fine' hes'
            exact ih _ (k + 1) [It.last (k + 1)] s' fr' v' bk' al' t2 h2' ps2 μ' a' w' hsz' hcnt' m2 tr2 ok2 (fun it hit => fine' it (List.mem_append_right _ hit)) (.inr ⟨[], rfl⟩) hdone' hes2 hkl
          | some f =>
            obtain ⟨s', fr', v', bk', al', t2, h2', ps2, m2, tr2, ok2, hes2⟩ := absorb_all st hes0 (k := k + 1) (m := 2 ^ ops.size - 1) (tail := It.eff (k + 1) f :: flat (k + 1 + 1) st') qs m' tr h5 fine' hes'
            exact ih _ (k + 1) _ s' fr' v' bk' al' t2 h2' ps2 μ' a' w' hsz' hcnt' m2 tr2 ok2 (fun it hit => fine' it (List.mem_append_right _ hit)) (.inl ⟨f, st', rfl⟩) hdone' hes2 hkl
theorem stagesFrom_mem {qs es0 : List NO} : ∀ (rest : List NO) (k j : Nat), (∀ kk hi q, It.op kk hi q ∈ flat j (stagesFrom qs es0 rest k) → q ∈ qs) ∧ ∀ kk q, It.eff kk q ∈ flat j (stagesFrom qs es0 rest k) → q ∈ rest
  | [], k, j => by
    refine ⟨fun kk hi q h => ?_, fun kk q h => ?_⟩
    · simp only [stagesFrom, flat, List.mem_append, List.mem_map, List.mem_singleton] at h
      rcases h with ⟨x, ⟨y, hy, rfl⟩, hx⟩ | hx
      · cases hx; exact (List.mem_filter.1 hy).1
      · cases hx
    · simp only [stagesFrom, flat, List.mem_append, List.mem_map, List.mem_singleton] at h
      rcases h with ⟨x, _, hx⟩ | hx <;> cases hx
  | e :: rest, k, j => by
    obtain ⟨h1, h2⟩ := stagesFrom_mem (qs := qs) (es0 := es0) rest (k + 1) (j + 1)
    refine ⟨fun kk hi q h => ?_, fun kk q h => ?_⟩
    · simp only [stagesFrom, flat, List.mem_append, List.mem_map, List.mem_cons] at h
      rcases h with ⟨x, ⟨y, hy, rfl⟩, hx⟩ | hx | hx
      · cases hx; exact (List.mem_filter.1 hy).1
      · cases hx
      · exact h1 kk hi q hx
    · simp only [stagesFrom, flat, List.mem_append, List.mem_map, List.mem_cons] at h
      rcases h with ⟨x, _, hx⟩ | hx | hx
      · cases hx
      · cases hx; exact List.mem_cons_self
      · exact List.mem_cons_of_mem _ (h2 kk q hx)
theorem numbered_sorted {n : Nat} : ∀ {os : List Oper} {asq : List Nat} {k : Nat}, (numbered P n ops os asq k).Pairwise (fun x y => x.i < y.i)
  | [], asq, k => by simp [numbered]
  | o :: os, [], k => by simp [numbered]
  | o :: os, a :: asq, k => by
    rw [show numbered P n ops (o :: os) (a :: asq) k = ⟨k, compO P n ops o, a, o⟩ :: numbered P n ops os asq (k + 1) from rfl, List.pairwise_cons]
    refine ⟨fun y hy => ?_, numbered_sorted⟩
    obtain ⟨j, o', _, _, rfl⟩ := numbered_mem hy
    show k < k + 1 + j
    omega
theorem readsT_any {d : Nat} {l : List Operand} (h : Operand.tmp d ∈ l) : l.any (readsT d) = true := by
  rw [List.any_eq_true]
  refine ⟨_, h, ?_⟩
  show Nat.beq d d = true
  exact Nat.beq_refl d
theorem compDrawn_ok : DrawOk P (compDrawn P) := fun call N n id ops μ0 h0 w0 Q t h a w good hp st => by
  unfold compDrawn at hp
  simp only [] at hp
  generalize hA : ancs ops.toList [] = asq at hp
  generalize hnos : numbered P n ops ops.toList asq 0 = nos at hp
  generalize hes : (nos.filter fun n => isE n.o.op) = es at hp
  split at hp
  · rename_i hchk
    simp only [Bool.and_eq_true] at hchk
    obtain ⟨⟨⟨hwd, hfw⟩, hends⟩, hit⟩ := hchk
    obtain ⟨hlen, _, hanc⟩ := ancs_go ops.toList []
    rw [hA] at hlen hanc
    simp at hlen
    have hno : ∀ q ∈ nos, IsNO P n ops (fun i => asq.getD i 0) q := fun q hq => by
      rw [← hnos] at hq
      obtain ⟨j, o, h1, h2, rfl⟩ := numbered_mem hq
      rw [Nat.zero_add]
      exact ⟨by rw [← Array.getElem?_toList]; exact h1, rfl, rfl⟩
    have hget : ∀ (i : Nat) (o : Oper), ops[i]? = some o → (⟨i, compO P n ops o, asq.getD i 0, o⟩ : NO) ∈ nos := fun i o ho => by
      rw [← hnos]
      have hlt := (Array.getElem?_eq_some_iff.1 ho).1
      have := numbered_get (P := P) (n := n) (ops := ops) (os := ops.toList) (asq := asq) (k := 0) i o (by rw [Array.getElem?_toList]; exact ho) (by omega)
      rw [Nat.zero_add] at this
      exact this
    have wd : ∀ x ∈ nos, (∀ y ∈ nos, x.i ≠ y.i → ∀ d, y.p.dst = some d → x.p.dst ≠ some d ∧ (Operand.tmp d ∈ x.p.op.operands.toList → x.a.testBit y.i = true ∨ y.a.testBit x.i = true)) ∧
        (∀ d, x.p.dst = some d → Operand.tmp d ∉ x.p.op.operands.toList) ∧ ∀ j want, x.p.guard = some (j, want) → x.a.testBit j = true := fun x hx => by
      unfold wellDrawn at hwd
      have h1 := List.all_eq_true.1 hwd x hx
      simp only [Bool.and_eq_true, List.all_eq_true] at h1
      obtain ⟨⟨h2, h3⟩, h4⟩ := h1
      refine ⟨fun y hy hne d hd => ?_, fun d hd hr => ?_, fun j want hg => ?_⟩
      · have h5 := h2 y hy
        rw [hd] at h5
        simp only [Bool.or_eq_true, Bool.and_eq_true] at h5
        rcases h5 with h5 | ⟨h5, h6⟩
        · exact absurd (Nat.eq_of_beq_eq_true h5) hne
        · refine ⟨fun hxd => ?_, fun hr => ?_⟩
          · rw [hxd] at h5
            simp at h5
          · rw [readsT_any hr] at h6
            simpa using h6
      · rw [hd] at h3
        simp only [] at h3
        rw [readsT_any hr] at h3
        cases h3
      · rw [hg] at h4; exact h4
    have stat : Static P n ops (fun i => asq.getD i 0) := by
      refine ⟨fun i j d hi hj => ?_, fun i j d o ho hr hj => ?_, fun i o g want ho hg => ?_, fun i o l ho hl => ?_⟩
      · obtain ⟨oi, hoi, hdi⟩ := hi
        obtain ⟨oj, hoj, hdj⟩ := hj
        by_cases hij : i = j
        · exact hij
        · exact absurd hdi ((wd _ (hget i oi hoi)).1 _ (hget j oj hoj) hij d hdj).1
      · obtain ⟨oj, hoj, hdj⟩ := hj
        by_cases hij : i = j
        · subst hij
          rw [ho] at hoj; cases hoj
          exact absurd hr ((wd _ (hget i o ho)).2.1 d hdj)
        · exact ⟨hij, ((wd _ (hget i o ho)).1 _ (hget j oj hoj) hij d hdj).2 hr⟩
      · exact (wd _ (hget i o ho)).2.2 g want hg
      · have := hanc i o (by rw [Array.getElem?_toList]; exact ho) l (by rw [List.length_nil, Nat.zero_add]; exact hl)
        exact this
    have hes0 : ∀ e ∈ es, IsNO P n ops (fun i => asq.getD i 0) e ∧ isE e.o.op = true := fun e he => by
      rw [← hes] at he
      obtain ⟨h1, h2⟩ := List.mem_filter.1 he
      exact ⟨hno e h1, h2⟩
    have hnd : ∀ (j k : Nat) (e f : NO), es[j]? = some e → es[k]? = some f → e.i = f.i → j = k := fun j k e f he hf hef => by
      have hsort : es.Pairwise (fun x y => x.i < y.i) := by
        rw [← hes, ← hnos]; exact numbered_sorted.filter _
      obtain ⟨hj, hje⟩ := List.getElem?_eq_some_iff.1 he
      obtain ⟨hk, hke⟩ := List.getElem?_eq_some_iff.1 hf
      rw [List.pairwise_iff_getElem] at hsort
      rcases Nat.lt_trichotomy j k with hlt | heq | hgt
      · have := hsort j k hj hk hlt
        rw [hje, hke] at this; omega
      · exact heq
      · have := hsort k j hk hj hgt
        rw [hje, hke] at this; omega
    obtain ⟨⟨μ, r, hs, g⟩, hdef, hsize⟩ := st
    have hp : Post μ0 h0 w0 n Q ((evDs call ((stagesFrom (nos.filter fun n => !isE n.o.op) es es 0).map fun s => ⟨s.1.map fun q => (q.1.o, q.2), s.2.map (·.o)⟩) 0 t h []).done) := hp
    cases hev : evDs call ((stagesFrom (nos.filter fun n => !isE n.o.op) es es 0).map fun s => ⟨s.1.map fun q => (q.1.o, q.2), s.2.map (·.o)⟩) 0 t h [] with
    | no => rw [hev] at hp; exact hp.elim
    | ok t' h' =>
      rw [hev] at hp
      have hp : ∀ a w, At μ0 h0 w0 n t' h' a w → Q .normal a w := hp
      have tr := evDs_tra _ _ _ _ _ hev
      have fine : ∀ it ∈ flat 0 (stagesFrom (nos.filter fun n => !isE n.o.op) es es 0), FineIt P n ops (fun i => asq.getD i 0) it := fun it hin => by
        obtain ⟨k1, k2⟩ := stagesFrom_mem (qs := nos.filter fun n => !isE n.o.op) (es0 := es) es 0 0
        cases it with
        | op kk hi q =>
          obtain ⟨h1, h2⟩ := List.mem_filter.1 (k1 kk hi q hin)
          exact ⟨hno q h1, by simpa using h2⟩
        | eff kk q => exact hes0 q (k2 kk q hin)
        | last kk => trivial
      refine wp_drawn hfw hends fun md ends => ?_
      have hs2 : Sim μ h { w with drawn := w.drawn + 1 } := hs.drawn
      have mid0 : Mid P n ops (fun i => asq.getD i 0) es μ h { w with drawn := w.drawn + 1 } t 0 (fun _ => t) (fun _ => undef) (fun _ => 0) (fun _ => false) t h [] (fun i => (Array.replicate ops.size false).getD i false = true) μ a { w with drawn := w.drawn + 1 } := by
        have hD : ∀ i, ¬ (Array.replicate ops.size false).getD i false = true := fun i hi => by
          rw [Array.getD_eq_getD_getElem?, Array.getElem?_replicate] at hi
          split at hi <;> simp at hi
        have hz : ∀ i, ¬ (0 : Nat).testBit i = true := fun i => by simp
        exact ⟨fun i hi => absurd hi (hD i), fun i hi => absurd hi (hD i), fun i hi => absurd hi (hz i), fun d j _ _ => r d, fun d _ => r d, fun _ _ => rfl, fun i hi => absurd hi (hz i), fun i j hi => absurd hi (hz i), fun i hi => absurd hi (hz i), hs2, .refl hs2, hdef, hsize⟩
      have hcnt : count (Array.replicate ops.size false) = 0 := by unfold count; simp
      have hQ : ∀ (a : Act) (w' : World) (μ' : Mp), TR μ' t' a.tmps → Sim μ' h' w' → Goes μ h { w with drawn := w.drawn + 1 } μ' h' w' → a.defers = [] → a.tmps.size = n → Q .normal a w' := fun a w' μ' r' hs' g' hd hz => by
        refine hp a w' ⟨⟨μ', r', hs', ?_⟩, hd, hz⟩
        have gd : Goes μ h w μ h { w with drawn := w.drawn + 1 } := ⟨Nat.le_refl _, fun _ _ => rfl, fun _ _ => rfl, fun _ _ => rfl, Nat.le_refl _, fun _ _ _ => rfl, fun _ _ _ => rfl, rfl, rfl, rfl⟩
        exact (g.trans gd).trans g'
      have hdone0 : ∀ (j : Nat) (e : NO), es[j]? = some e → ((Array.replicate ops.size false).getD e.i false = true ↔ j < 0) := fun j e he => by
        constructor
        · intro hi
          rw [Array.getD_eq_getD_getElem?, Array.getElem?_replicate] at hi
          split at hi <;> simp at hi
        · intro hj; omega
      have hes00 : ∀ (j : Nat) (e : NO), es[j]? = some e → (0 : Nat).testBit e.i = true → j < 0 := fun j e he hb => by simp at hb
      generalize hst : stagesFrom (nos.filter fun n => !isE n.o.op) es es 0 = stg at tr fine hit
      cases stg with
      | nil => cases tr
      | cons sg st' =>
        obtain ⟨qs, eo⟩ := sg
        cases eo with
        | none =>
          obtain ⟨s', fr', v', bk', al', t2, h2', ps2, m2, tr2, ok2, hes2⟩ := absorb_all stat hes0 (k := 0) (m := 2 ^ ops.size - 1) (tail := [It.last 0]) qs mid0 tr hit fine hes00
          exact drawn_go stat ends hes0 hnd good hQ ops.size _ 0 _ s' fr' v' bk' al' t2 h2' ps2 μ a _ (by simp) (by rw [hcnt]; rfl) m2 tr2 ok2 (fun it hin => fine it (List.mem_append_right _ hin)) (.inr ⟨[], rfl⟩) hdone0 hes2 (Nat.zero_le _)
        | some f =>
          obtain ⟨s', fr', v', bk', al', t2, h2', ps2, m2, tr2, ok2, hes2⟩ := absorb_all stat hes0 (k := 0) (m := 2 ^ ops.size - 1) (tail := It.eff 0 f :: flat (0 + 1) st') qs mid0 tr hit fine hes00
          exact drawn_go stat ends hes0 hnd good hQ ops.size _ 0 _ s' fr' v' bk' al' t2 h2' ps2 μ a _ (by simp) (by rw [hcnt]; rfl) m2 tr2 ok2 (fun it hin => fine it (List.mem_append_right _ hin)) (.inl ⟨f, st', rfl⟩) hdone0 hes2 (Nat.zero_le _)
  · exact hp.elim
end
end Eng
end
section
set_option linter.unusedVariables false
set_option linter.unusedSimpArgs false
namespace Eng
open Go Go.RowKit
noncomputable def specO (σ : AO → AO → Option AV) (p : Option AO) (o : AO) : AO :=
  ocase o (fun p => o.op.cs (fun q => ocase o (fun x => ⟨o.dst, .q (.move (.const x)), o.guard⟩) (σ p o)) (fun _ => o) (fun _ => o)) p
noncomputable def specOs (σ : AO → AO → Option AV) (os : List AO) : Option AO → List AO := lrec (fun _ => []) (fun o _ ih p => specO σ p o :: ih (some o)) os
noncomputable def specC (σ : AO → AO → Option AV) (c : AC) : AC :=
  AC.rec (motive := fun _ => AC) .skip (fun os => .region (specOs σ os none)) (fun l => .drawn l) (fun _ _ x y => .seq x y) (fun c _ _ x y => .cond c x y) (fun i _ x => .block i x) (fun _ x => .loop x)
    (fun i => .exit i) .ret (fun w => .fail w) c
noncomputable def dstNot (d : Nat) (o : Option Nat) : Bool := ocase true (fun i => notB (Nat.beq i d)) o
noncomputable def dstNots (L : List (Nat × AV)) (o : Option Nat) : Bool := lall (fun p => dstNot p.1 o) L
def Holds (L : List (Nat × AV)) (t : T) : Prop := ∀ p ∈ L, evX (.tmp p.1) t = p.2
noncomputable def keepsC (L : List (Nat × AV)) (c : AC) : Bool :=
  AC.rec (motive := fun _ => Bool) true (fun os => lall (fun o => dstNots L o.dst) os) (fun l => lall (fun s => bc (lall (fun o => dstNots L o.1.dst) s.os) (ocase true (fun e => dstNots L e.dst) s.e) false) l)
    (fun _ _ x y => bc x y false) (fun _ _ _ x y => bc x y false) (fun _ _ x => x) (fun _ x => x) (fun _ => true) true (fun _ => true) c
section
variable {σ : AO → AO → Option AV} {L : List (Nat × AV)} {call : CallT} {N : Nat}
def Tells (σ : AO → AO → Option AV) (L : List (Nat × AV)) : Prop :=
  ∀ p o x f, σ p o = some x → o.op = .q f → ∀ call t0 h0 t h, Holds L t0 → evO call p t0 h0 = .ok t h → evQ f t h = .ok x
def KeepT (L : List (Nat × AV)) : RT → Prop
  | .no => True
  | .ok t _ => Holds L t
def KeepS (L : List (Nat × AV)) : RS → Prop
  | .no => True
  | .nor t _ => Holds L t
  | .exit _ t _ => Holds L t
  | .ret t _ => Holds L t
noncomputable def evSpec (σ : AO → AO → Option AV) (L : List (Nat × AV)) (S : Nat → Option AF) (N : Nat) (call : CallT) (f : Nat) (args : List AV) (h : Hp) : RV :=
  ocase .no (fun fn => bc (Nat.ble (len args) fn.ntmps) (bc (keepsC L fn.body) (finish fn.results (evC call N (specC σ fn.body) (frame0 args) h)) .no) .no) (S f)
end
end Eng
end
section
set_option linter.unusedVariables false
set_option linter.unusedSimpArgs false
namespace Eng
open Go Go.RowKit
section
variable {P : Program} {μ : Mp} {h : Hp} {w w' : World}
theorem Sim.below (hs : Sim μ h w) (b : Below w.heap.size w w') : Sim μ h w' :=
  ⟨hs.lt, hs.fresh, fun b' c s e => Nat.lt_of_lt_of_le (hs.old b' c s e) b.size, fun b' c s x e g => (hs.blk b' c s x e g).mono (Mp.Le.refl μ) (b.block c (hs.old b' c s e)) rfl rfl, hs.apart, hs.peer⟩
theorem Goes.ofBelow (b : Below w.heap.size w w') : Goes μ h w μ h w' :=
  ⟨Nat.le_refl _, fun _ _ => rfl, fun _ _ => rfl, fun _ _ => rfl, b.size, fun c hc _ => b.block c hc, fun _ _ _ => rfl, b.os, b.tape, b.output⟩
def Trues (P : Program) (l : List Nat) : Prop := ∀ f ∈ l, Enters P f ∧ ∀ w, Calls P f #[] w fun e w' => e = .returned (.bool true) ∧ Below w.heap.size w w'
noncomputable def sumT (l : List Nat) (f : Nat) : Option (List AV → Hp → RV) :=
  bc (lall (fun g => notB (Nat.beq g f)) l) none (some fun args h => lcase (.ok (.bool true) h) (fun _ _ => .no) args)
theorem sumT_ok {l : List Nat} (ht : Trues P l) : Good P fun f args h => ocase .no (fun m => m args h) (sumT l f) := fun f args h v h' μ w cargs e hs r => by
  have e : ocase RV.no (fun m => m args h) (bc (lall (fun g => notB (Nat.beq g f)) l) none (some fun args h => lcase (.ok (.bool true) h) (fun _ _ => .no) args)) = .ok v h' := e
  by_cases hm : f ∈ l
  · have hb : lall (fun g => notB (Nat.beq g f)) l = false := by
      cases hh : lall (fun g => notB (Nat.beq g f)) l with
      | false => rfl
      | true =>
        have := lall_iff.1 hh f hm
        rw [Nat.beq_refl] at this; cases this
    rw [hb] at e
    cases args with
    | cons a args => cases e
    | nil =>
      cases e
      obtain ⟨h1, h2⟩ := ht f hm
      rw [VRs_nil] at r
      obtain rfl : cargs = #[] := Array.toList_eq_nil_iff.1 r
      refine ⟨h1, (h2 w).mono fun e w' ⟨he, hb⟩ => ?_⟩
      exact ⟨μ, _, he, by rw [VR_bool], hs.below hb, .ofBelow hb⟩
  · have hb : lall (fun g => notB (Nat.beq g f)) l = true := lall_iff.2 fun g hg => by
      have : g ≠ f := fun e => hm (e ▸ hg)
      rw [beqF this]; rfl
    rw [hb] at e; cases e
theorem trues_one {D : Nat → Array Oper → AC} (hD : DrawOk P D) {M : Nat → Option (List AV → Hp → RV)} (hM : Good P fun f args h => ocase .no (fun m => m args h) (M f)) {N d f : Nat} (e : isTrue (evF M (progS P D) N d f [] H0) = true) :
    Enters P f ∧ ∀ w, Calls P f #[] w fun e w' => e = .returned (.bool true) ∧ Below w.heap.size w w' := by
  obtain ⟨h', e1⟩ := isTrue_inv e
  exact ⟨(evF_ok hD hM N d f [] H0 _ h' Mp.none default #[] e1 (.none default) (VRs_nil.2 rfl)).1, fun w => closed_law hD hM N d f w [] #[] (VRs_nil.2 rfl) e⟩
noncomputable def remIs (k : Nat) (i : IntKind) (b m : Nat) (p o : AO) : Option AV := match p, o with
  | ⟨some d, .q (.move (.tmp k')), none⟩, ⟨_, .q (.bin .rem (.tmp d') (.const (.int j (.ofNat c)))), _⟩ =>
    bc (Nat.beq k' k) (bc (Nat.beq d' d) (bc (ikEq i j) (bc (Nat.beq c b) (some (.int i (.ofNat m))) none) none) none) none
  | _, _ => none
noncomputable def orQ (a b : AO → AO → Option AV) (p o : AO) : Option AV := ocase (b p o) some (a p o)
end
end Eng
end
section
set_option linter.unusedVariables false
set_option linter.unusedSimpArgs false
namespace Eng
open Go Go.RowKit
structure Ev where
  v : AV
  t : T
  h : Hp
inductive Orc where
  | fin
  | tell (n : Nat) (x : AV) (r : Orc)
  | fork (n : Nat) (a b : Orc)
  | eff (n : Nat) (x : AV) (h : Hp) (r : Orc)
  | lp (n : Nat) (s : RS) (r : Orc)
  | again (n : Nat) (r : Orc)
  | goal (n : Nat) (r : Orc)
  | effx (n : Nat) (x : Ev → AV) (r : Ev → Orc)
  | lpx (n : Nat) (s : Ev → RS) (r : Ev → Orc)
  | ell (n : Nat) (m : MK) (x : Blk) (r : Orc)
  | agn (n : Nat) (r : Orc)
  | exi (n : Nat) {α : Type} (f : α → Orc)
  | dis (n : Nat) (a b : Orc)
  deriving Inhabited
noncomputable section
@[reducible] def lrec1 {α : Type} {β : Type 1} (z : β) (f : α → List α → β → β) (l : List α) : β := List.rec (motive := fun _ => β) z f l
def Orc.n (o : Orc) : Nat := Orc.rec (motive := fun _ => Nat) 0 (fun n _ _ _ => n) (fun n _ _ _ _ => n) (fun n _ _ _ _ => n) (fun n _ _ _ => n) (fun n _ _ => n) (fun n _ _ => n) (fun n _ _ _ => n) (fun n _ _ _ => n) (fun n _ _ _ _ => n) (fun n _ _ => n) (fun n _ _ _ => n) (fun n _ _ _ _ => n) o
def Orc.cs {β : Type} (o : Orc) (fin : β) (tell : AV → Orc → β) (fork : Orc → Orc → β) (eff : AV → Hp → Orc → β) (lp : RS → Orc → β) (again : Orc → β) (goal : Orc → β) (effx : (Ev → AV) → (Ev → Orc) → β) (lpx : (Ev → RS) → (Ev → Orc) → β) (ell : MK → Blk → Orc → β) (agn : Orc → β) : β :=
  Orc.rec (motive := fun _ => β) fin (fun _ x r _ => tell x r) (fun _ a b _ _ => fork a b) (fun _ x h r _ => eff x h r) (fun _ s r _ => lp s r) (fun _ r _ => again r) (fun _ r _ => goal r) (fun _ x r _ => effx x r) (fun _ s r _ => lpx s r) (fun _ m x r _ => ell m x r) (fun _ r _ => agn r) (fun _ _ _ _ => fin) (fun _ _ _ _ _ => fin) o
def peel (o : Orc) (K : Orc → Prop) : Prop :=
  Orc.rec (motive := fun _ => Prop) (K .fin) (fun n x r _ => K (.tell n x r)) (fun n a b _ _ => K (.fork n a b)) (fun n x h r _ => K (.eff n x h r)) (fun n s r _ => K (.lp n s r)) (fun n r _ => K (.again n r)) (fun n r _ => K (.goal n r)) (fun n x r _ => K (.effx n x r)) (fun n s r _ => K (.lpx n s r)) (fun n m x r _ => K (.ell n m x r)) (fun n r _ => K (.agn n r)) (fun _ _ _ ih => ∃ x, ih x) (fun _ _ _ i j => i ∨ j) o
def avC (v : AV) : AV → Prop → Prop := AV.rec (motive_1 := fun _ => AV → Prop → Prop) (motive_2 := fun _ => List AV → Prop → Prop)
  (fun b y K => y.asBool False fun c => bc (bc b c (notB c)) K False)
  (fun k n y K => y.asInt False fun k' m => bc (ikEq k k') (n = m ∧ K) False)
  (fun s y K => y.asStr False fun r => s = r ∧ K)
  (fun y K => (avP y).cs False K (fun _ _ => False))
  (fun b o y K => (avP y).cs False False (fun b' o' => bc (Nat.beq b b') (bc (Nat.beq o o') K False) False))
  (fun y K => (avS y).cs False K (fun _ _ _ _ _ _ => False))
  (fun b o l c s e y K => (avS y).cs False False (fun b' o' l' c' s' e' => bc (Nat.beq b b') (bc (Nat.beq o o') (bc (Nat.beq l l') (bc (Nat.beq c c') (bc (Nat.beq s s') (bc (bc e e' (notB e')) K False) False) False) False) False) False))
  (fun y K => (avM y).cs False K (fun _ => False))
  (fun b y K => (avM y).cs False False (fun b' => bc (Nat.beq b b') K False))
  (fun f a b ia ib y K => (fnView f a b).cs False False (fun f _ _ => (avF y).cs False False (fun f' a' b' => bc (Nat.beq f f') (ia a' (ib b' K)) False) False) False)
  (fun y K => (avF y).cs False K (fun _ _ _ => False) False)
  (fun t _ ih y K => (avIf y).cs False False (fun t' w => bc (Nat.beq t t') (ih w K) False))
  (fun y K => (avIf y).cs False K (fun _ _ => False))
  (fun _ ih y K => y.asAgg False fun l => ih l K)
  (fun _ ih y K => y.asTuple False fun l => ih l K)
  (fun l K => lcase K (fun _ _ => False) l)
  (fun _ _ i j l K => lcase False (fun a m => i a (j m K)) l) v
def avCs (l m : List AV) (K : Prop) : Prop := avC (.agg l) (.agg m) K
def agnP (ps : List PD) (n : Nat) (h : Hp) (K : Prop) : Prop := lrec K (fun p _ ih => bc (Nat.blt p.hi n) ih ((evQ p.o p.t h).cs False fun v => avC p.v v ih)) ps
abbrev KV := AV → Nat → Orc → Prop
abbrev KR := AV → Hp → Nat → Orc → Prop
abbrev KT := T → Hp → Nat → Orc → Prop
abbrev KS := RS → Nat → Orc → Prop
abbrev CallW := Nat → List AV → Hp → Nat → Orc → KR → Prop
abbrev CodeW := T → Hp → Nat → Orc → KS → Prop
def step (c : Nat) (r : Orc) (now : Orc → Prop) (go : Nat → Orc → Prop) : Prop := Nat.rec (motive := fun _ => Prop) (peel r now) (fun m _ => go m r) c
def qW (o : QOp) (t : T) (h : Hp) (c : Nat) (r : Orc) (k : KV) : Prop :=
  step c r
    (fun r => r.cs ((evQ o t h).cs False fun v => k v 0 .fin)
      (fun x r => evQ o t h = .ok x ∧ k x r.n r)
      (fun a b => (evQ o t h).cs False fun v => (avB v).cs False fun b' => (b' = true → k (.bool true) a.n a) ∧ (b' = false → k (.bool false) b.n b))
      (fun _ _ _ => False) (fun _ _ => False) (fun _ => False)
      (fun r => (evQ o t h).cs False fun v => (avB v).cs False fun b' => b' = true ∧ k (.bool true) r.n r) (fun _ _ => False) (fun _ _ => False) (fun _ _ _ => False) (fun _ => False))
    (fun c r => (evQ o t h).cs False fun v => k v c r)
def goE (callW : CallW) (o : EOp) (t : T) (h : Hp) (k : KR) (c : Nat) (r : Orc) : Prop :=
  EOp.rec (motive := fun _ => Prop) (fun n a x => (oStore n a x t h).cs False fun v h => k v h c r) (fun s m kk v => (oMapUpdate s m kk v t h).cs False fun v h => k v h c r)
      (fun sz bytes s x => (oAppend sz bytes s x t h).cs False fun v h => k v h c r) (fun sz bytes z s n => (oAppendZ sz bytes z s n t h).cs False fun v h => k v h c r) (fun sz d s => (oCopy sz d s t h).cs False fun v h => k v h c r)
      (fun s m kk => (oDelete s m kk t h).cs False fun v h => k v h c r) (fun z x => (oClear z x t h).cs False fun v h => k v h c r) (fun x => (oMark x t h).cs False fun v h => k v h c r)
      (fun f xs => (evX f t).asFunc False fun g a b => callW g (app a (app (evXs xs t) b)) h c r k) o
def eW (call : CallT) (callW : CallW) (o : EOp) (t : T) (h : Hp) (c : Nat) (r : Orc) (k : KR) : Prop :=
  step c r
    (fun r => r.cs (goE callW o t h k 0 .fin) (fun _ _ => False) (fun _ _ => False) (fun x h' r => evE o call t h = .ok x h' ∧ k x h' r.n r) (fun _ _ => False) (fun _ => False) (fun _ => False)
      (fun x r => ∃ e : Ev, evE o call t h = .ok (x e) e.h ∧ k (x e) e.h (r e).n (r e)) (fun _ _ => False) (fun _ _ _ => False) (fun _ => False))
    (goE callW o t h k)
abbrev KL := MK → Blk → Nat → Orc → Prop
def lW (o : LOp) (t : T) (c : Nat) (r : Orc) (k : KL) : Prop :=
  step c r
    (fun r => r.cs ((evL o t).cs False fun m x => k m x 0 .fin) (fun _ _ => False) (fun _ _ => False) (fun _ _ _ => False) (fun _ _ => False) (fun _ => False) (fun _ => False) (fun _ _ => False) (fun _ _ => False)
      (fun m x r => evL o t = .ok m x ∧ k m x r.n r) (fun _ => False))
    (fun c r => (evL o t).cs False fun m x => k m x c r)
def runW (call : CallT) (callW : CallW) (op : AOp) (d : Option Nat) (t : T) (h : Hp) (c : Nat) (r : Orc) (k : KT) : Prop := op.cs
  (fun o => qW o t h c r fun v c r => k (putT d v t) h c r)
  (fun o => lW o t c r fun m x c r => k (putT d (mkAt m h.next) t) (hpush h x) c r)
  (fun o => eW call callW o t h c r fun v h c r => k (putT d v t) h c r)
def oW (call : CallT) (callW : CallW) (o : AO) (t : T) (h : Hp) (c : Nat) (r : Orc) (k : KT) : Prop :=
  ocase (runW call callW o.op o.dst t h c r k) (fun _ => bc (wanted o.guard t) (runW call callW o.op o.dst t h c r k) (k (putT o.dst undef t) h c r)) o.guard
def osW (call : CallT) (callW : CallW) (os : List AO) : T → Hp → Nat → Orc → KT → Prop :=
  lrec1 (fun t h c r k => k t h c r) (fun o _ ih t h c r k => oW call callW o t h c r fun t h c r => ih t h c r k) os
abbrev KP := T → Hp → List PD → Nat → Orc → Prop
def stageW (o : AO) (hi : Nat) (t : T) (h : Hp) (ps : List PD) (c : Nat) (r : Orc) (k : KP) : Prop :=
  bc (wanted o.guard t) (o.op.cs
    (fun q => qW q t h c r fun v c r => k (putT o.dst v t) h (⟨q, t, v, hi⟩ :: ps) c r)
    (fun l => lW l t c r fun m x c r => k (putT o.dst (mkAt m h.next) t) (hpush h x) ps c r)
    (fun _ => False)) (k (putT o.dst undef t) h ps c r)
def stagesW (os : List (AO × Nat)) : T → Hp → List PD → Nat → Orc → KP → Prop :=
  lrec1 (fun t h ps c r k => k t h ps c r) (fun o _ ih t h ps c r k => stageW o.1 o.2 t h ps c r fun t h ps c r => ih t h ps c r k) os
def againW (ps : List PD) (n : Nat) (h : Hp) : Prop := lrec True (fun p _ ih => bc (Nat.blt p.hi n) ih (again p.o p.t p.v h = true ∧ ih)) ps
def dsW (call : CallT) (callW : CallW) (l : List DS) : Nat → T → Hp → List PD → Nat → Orc → KT → Prop :=
  lrec1 (fun _ _ _ _ _ _ _ => False) (fun s _ ih n t h ps c r k => stagesW s.os t h ps c r fun t h ps c r =>
    step c r
      (fun r => r.cs (bc (readAgain ps n h) (ocase (k t h 0 .fin) (fun e => oW call callW e t h 0 .fin fun t h c r => ih (Nat.succ n) t h ps c r k) s.e) False) (fun _ _ => False) (fun _ _ => False) (fun _ _ _ => False) (fun _ _ => False)
        (fun r => againW ps n h ∧ ocase (k t h r.n r) (fun e => oW call callW e t h r.n r fun t h c r => ih (Nat.succ n) t h ps c r k) s.e) (fun _ => False) (fun _ _ => False) (fun _ _ => False) (fun _ _ _ => False) (fun r => agnP ps n h (ocase (k t h r.n r) (fun e => oW call callW e t h r.n r fun t h c r => ih (Nat.succ n) t h ps c r k) s.e)))
      (fun c r => bc (readAgain ps n h) (ocase (k t h c r) (fun e => oW call callW e t h c r fun t h c r => ih (Nat.succ n) t h ps c r k) s.e) False)) l
def goL (f : CodeW) (N : Nat) (k : KS) (t : T) (h : Hp) (c : Nat) (r : Orc) : Prop :=
  Nat.rec (motive := fun _ => T → Hp → Nat → Orc → Prop) (fun _ _ _ _ => False)
        (fun _ ih t h c r => f t h c r fun s c r => s.cs False (fun t h => ih t h c r) (fun i t h => k (.exit i t h) c r) (fun t h => k (.ret t h) c r)) N t h c r
def cW (call : CallT) (callW : CallW) (N : Nat) (c : AC) : CodeW :=
  AC.rec (motive := fun _ => CodeW)
    (fun t h c r k => k (.nor t h) c r)
    (fun os t h c r k => osW call callW os t h c r fun t h c r => k (.nor t h) c r)
    (fun l t h c r k => dsW call callW l 0 t h [] c r fun t h c r => k (.nor t h) c r)
    (fun _ _ f g t h c r k => f t h c r fun s c r => s.cs False (fun t h => g t h c r k) (fun i t h => k (.exit i t h) c r) (fun t h => k (.ret t h) c r))
    (fun x _ _ f g t h c r k => (evX x t).asBool False fun b => bc b (f t h c r k) (g t h c r k))
    (fun i _ f t h c r k => f t h c r fun s c r => s.cs False (fun t h => k (.nor t h) c r) (fun j t h => bc (Nat.beq j i) (k (.nor t h) c r) (k (.exit j t h) c r)) (fun t h => k (.ret t h) c r))
    (fun body f t h c r k =>
      step c r (fun r => r.cs (goL f N k t h 0 .fin) (fun _ _ => False) (fun _ _ => False) (fun _ _ _ => False) (fun s r => evC call N (.loop body) t h = s ∧ s.cs False (fun _ _ => True) (fun _ _ _ => True) (fun _ _ => True) ∧ k s r.n r) (fun _ => False) (fun _ => False) (fun _ _ => False)
        (fun s r => ∃ e : Ev, evC call N (.loop body) t h = s e ∧ (s e).cs False (fun _ _ => True) (fun _ _ _ => True) (fun _ _ => True) ∧ k (s e) (r e).n (r e)) (fun _ _ _ => False) (fun _ => False)) (goL f N k t h))
    (fun i t h c r k => k (.exit i t h) c r)
    (fun t h c r k => k (.ret t h) c r)
    (fun _ _ _ _ _ _ => False) c
def resW (rs : List ARes) (t : T) (h : Hp) (c : Nat) (r : Orc) (k : KR) : Prop := (results rs t h).cs False fun v h => k v h c r
def f1W (S : Nat → Option AF) (N : Nat) (call : CallT) (callW : CallW) (f : Nat) (args : List AV) (h : Hp) (c : Nat) (r : Orc) (k : KR) : Prop :=
  ocase False (fun fn => bc (Nat.ble (len args) fn.ntmps) (cW call callW N fn.body (frame0 args) h c r fun s c r => s.cs False (fun t h => resW fn.results t h c r k) (fun _ _ _ => False) (fun t h => resW fn.results t h c r k)) False) (S f)
def evFW (M : Nat → Option (List AV → Hp → RV)) (S : Nat → Option AF) (N : Nat) (d : Nat) : CallW :=
  Nat.rec (motive := fun _ => CallW) (fun _ _ _ _ _ _ => False) (fun d' ih f args h c r k =>
    ocase (f1W S N (evF M S N d') ih f args h c r k) (fun m => (m args h).cs False fun v h => k v h c r) (M f)) d
end
end Eng
end
section
set_option linter.unusedVariables false
set_option linter.unusedSimpArgs false
namespace Eng
open Go Go.RowKit
section
variable {call : CallT} {callW : CallW} {N : Nat}
theorem peel_ok : ∀ {r : Orc} {K : Orc → Prop}, peel r K → ∃ r', K r' := by
  intro r K
  induction r with
  | exi n f ih => intro h; obtain ⟨x, h⟩ := (show ∃ x, peel (f x) K from h); exact ih x h
  | dis n a b ia ib =>
    intro h
    rcases (show peel a K ∨ peel b K from h) with h | h
    · exact ia h
    · exact ib h
  | _ => exact fun h => ⟨_, h⟩
theorem step_ok {c : Nat} {r : Orc} {now : Orc → Prop} {go : Nat → Orc → Prop} (h : step c r now go) : (∃ r', now r') ∨ ∃ m, go m r := by
  cases c with
  | zero => exact .inl (peel_ok h)
  | succ m => exact .inr ⟨m, h⟩
theorem okv {o : OV} {k : AV → Prop} (h : o.cs False k) : ∃ v, o = .ok v ∧ k v := by
  cases o with
  | no => exact h.elim
  | ok v => exact ⟨v, rfl, h⟩
theorem okr {o : RV} {k : AV → Hp → Prop} (h : o.cs False k) : ∃ v h', o = .ok v h' ∧ k v h' := by
  cases o with
  | no => exact h.elim
  | ok v h' => exact ⟨v, h', rfl, h⟩
theorem okb {v : AV} {k : Bool → Prop} (h : (avB v).cs False k) : ∃ b, v = .bool b ∧ k b := by
  cases v <;> first | exact h.elim | exact ⟨_, rfl, h⟩
theorem qW_ok {o : QOp} {t : T} {h : Hp} {c : Nat} {r : Orc} {k : KV} (e : qW o t h c r k) : ∃ v c' r', evQ o t h = .ok v ∧ k v c' r' := by
  rcases step_ok e with ⟨r, e⟩ | ⟨m, e⟩
  · cases r with
    | fin => obtain ⟨v, h1, h2⟩ := okv e; exact ⟨v, _, _, h1, h2⟩
    | tell n x r => exact ⟨x, _, _, e.1, e.2⟩
    | fork n a b =>
      obtain ⟨v, h1, h2⟩ := okv (show (evQ o t h).cs False (fun v => (avB v).cs False fun b' => (b' = true → k (.bool true) a.n a) ∧ (b' = false → k (.bool false) b.n b)) from e)
      obtain ⟨b', rfl, h3⟩ := okb h2
      cases b' with
      | true => exact ⟨_, _, _, h1, h3.1 rfl⟩
      | false => exact ⟨_, _, _, h1, h3.2 rfl⟩
    | eff n x h r => exact False.elim e
    | lp n s r => exact False.elim e
    | again n r => exact False.elim e
    | goal n r =>
      obtain ⟨v, h1, h2⟩ := okv (show (evQ o t h).cs False (fun v => (avB v).cs False fun b' => b' = true ∧ k (.bool true) r.n r) from e)
      obtain ⟨b', rfl, rfl, h3⟩ := okb h2
      exact ⟨_, _, _, h1, h3⟩
    | effx n x r => exact False.elim e
    | lpx n x r => exact False.elim e
    | ell n m x r => exact False.elim e
    | agn n r => exact False.elim e
    | exi n f => obtain ⟨v, h1, h2⟩ := okv e; exact ⟨v, _, _, h1, h2⟩
    | dis n a b => obtain ⟨v, h1, h2⟩ := okv e; exact ⟨v, _, _, h1, h2⟩
  · obtain ⟨v, h1, h2⟩ := okv e; exact ⟨v, _, _, h1, h2⟩
def CallOk (call : CallT) (callW : CallW) : Prop := ∀ g args h c r k, callW g args h c r k → ∃ v h' c' r', call g args h = .ok v h' ∧ k v h' c' r'
theorem eW_ok (hc : CallOk call callW) {o : EOp} {t : T} {h : Hp} {c : Nat} {r : Orc} {k : KR} (e : eW call callW o t h c r k) : ∃ v h' c' r', evE o call t h = .ok v h' ∧ k v h' c' r' := by
  have go : ∀ c r, goE callW o t h k c r → ∃ v h' c' r', evE o call t h = .ok v h' ∧ k v h' c' r' := by
    intro c r e
    cases o with
    | call f xs =>
      show ∃ v h' c' r', ((evX f t).asFunc RV.no fun g a b => call g (app a (app (evXs xs t) b)) h) = .ok v h' ∧ k v h' c' r'
      have e : (evX f t).asFunc False fun g a b => callW g (app a (app (evXs xs t) b)) h c r k := e
      unfold AV.asFunc at e ⊢
      cases hf : avF (evX f t) with
      | no => rw [hf] at e; exact e.elim
      | nil => rw [hf] at e; exact e.elim
      | other => rw [hf] at e; exact e.elim
      | fn g a b => rw [hf] at e; exact hc _ _ _ _ _ _ e
    | _ => obtain ⟨v, h', h1, h2⟩ := okr e; exact ⟨v, h', _, _, h1, h2⟩
  rcases step_ok (show step c r _ _ from e) with ⟨r, e⟩ | ⟨m, e⟩
  · cases r with
    | fin => exact go _ _ e
    | exi n f => exact go _ _ e
    | dis n a b => exact go _ _ e
    | eff n x h' r => exact ⟨x, h', _, _, e.1, e.2⟩
    | effx n x r => obtain ⟨w, h1, h2⟩ := e; exact ⟨x w, w.h, _, _, h1, h2⟩
    | _ => exact False.elim e
  · exact go _ _ e
theorem lW_ok {o : LOp} {t : T} {c : Nat} {r : Orc} {k : KL} (e : lW o t c r k) : ∃ m x c' r', evL o t = .ok m x ∧ k m x c' r' := by
  have go : ∀ c r, ((evL o t).cs False fun m x => k m x c r) → ∃ m x c' r', evL o t = .ok m x ∧ k m x c' r' := fun c r e => by
    cases hl : evL o t with
    | no => rw [hl] at e; exact e.elim
    | ok m x => rw [hl] at e; exact ⟨m, x, _, _, rfl, e⟩
  rcases step_ok (show step c r _ _ from e) with ⟨r, e⟩ | ⟨m, e⟩
  · cases r with
    | fin => exact go _ _ e
    | exi n f => exact go _ _ e
    | dis n a b => exact go _ _ e
    | ell n m x r => exact ⟨m, x, _, _, e.1, e.2⟩
    | _ => exact False.elim e
  · exact go _ _ e
theorem runW_ok (hc : CallOk call callW) {op : AOp} {d : Option Nat} {t : T} {h : Hp} {c : Nat} {r : Orc} {k : KT} (e : runW call callW op d t h c r k) : ∃ t' h' c' r', runA op d call t h = .ok t' h' ∧ k t' h' c' r' := by
  cases op with
  | q o =>
    obtain ⟨v, c', r', h1, h2⟩ := qW_ok (show qW o t h c r _ from e)
    refine ⟨_, _, c', r', ?_, h2⟩
    show (evQ o t h).then _ = _
    rw [h1]; rfl
  | l o =>
    obtain ⟨m, x, c', r', h1, h2⟩ := lW_ok (show lW o t c r _ from e)
    show ∃ t' h' c' r', ((evL o t).then fun m x => .ok (putT d (mkAt m h.next) t) (hpush h x)) = _ ∧ _
    rw [h1]; exact ⟨_, _, _, _, rfl, h2⟩
  | e o =>
    obtain ⟨v, h', c', r', h1, h2⟩ := eW_ok hc (show eW call callW o t h c r _ from e)
    refine ⟨_, _, c', r', ?_, h2⟩
    show (evE o call t h).then _ = _
    rw [h1]; rfl
theorem oW_ok (hc : CallOk call callW) {o : AO} {t : T} {h : Hp} {c : Nat} {r : Orc} {k : KT} (e : oW call callW o t h c r k) : ∃ t' h' c' r', evO call o t h = .ok t' h' ∧ k t' h' c' r' := by
  obtain ⟨dst, op, g⟩ := o
  cases g with
  | none => exact runW_ok hc e
  | some g =>
    have e : bc (wanted (some g) t) (runW call callW op dst t h c r k) (k (putT dst undef t) h c r) := e
    show ∃ t' h' c' r', bc (wanted (some g) t) (runA op dst call t h) (.ok (putT dst undef t) h) = .ok t' h' ∧ _
    cases hw : wanted (some g) t with
    | true => rw [hw] at e; exact runW_ok hc e
    | false => rw [hw] at e; exact ⟨_, _, _, _, rfl, e⟩
theorem osW_ok (hc : CallOk call callW) : ∀ (os : List AO) {t : T} {h : Hp} {c : Nat} {r : Orc} {k : KT}, osW call callW os t h c r k → ∃ t' h' c' r', evOs call os t h = .ok t' h' ∧ k t' h' c' r'
  | [], t, h, c, r, k, e => ⟨_, _, _, _, rfl, e⟩
  | o :: os, t, h, c, r, k, e => by
    obtain ⟨t1, h1, c1, r1, e1, e2⟩ := oW_ok hc (show oW call callW o t h c r (fun t h c r => osW call callW os t h c r k) from e)
    obtain ⟨t2, h2, c2, r2, e3, e4⟩ := osW_ok hc os e2
    refine ⟨t2, h2, c2, r2, ?_, e4⟩
    show (evO call o t h).then (evOs call os) = _
    rw [e1]; exact e3
theorem stageW_ok {o : AO} {hi : Nat} {t : T} {h : Hp} {ps : List PD} {c : Nat} {r : Orc} {k : KP} (e : stageW o hi t h ps c r k) :
    ∃ t' h' ps' c' r', (∀ kk : T → Hp → List PD → RT, stageO o hi t h ps kk = kk t' h' ps') ∧ k t' h' ps' c' r' := by
  unfold stageW at e
  unfold stageO
  cases hw : wanted o.guard t with
  | false => rw [hw] at e; exact ⟨_, _, _, _, _, fun _ => rfl, e⟩
  | true =>
    rw [hw] at e
    obtain ⟨dst, op, g⟩ := o
    cases op with
    | q f =>
      obtain ⟨v, c', r', h1, h2⟩ := qW_ok (show qW f t h c r _ from e)
      refine ⟨_, _, _, c', r', fun kk => ?_, h2⟩
      show (evQ f t h).then _ = _
      rw [h1]; rfl
    | l f =>
      obtain ⟨m, x, c', r', h1, h2⟩ := lW_ok (show lW f t c r _ from e)
      show ∃ t' h' ps' c' r', (∀ kk : T → Hp → List PD → RT, ((evL f t).then fun m x => kk (putT dst (mkAt m h.next) t) (hpush h x) ps) = kk t' h' ps') ∧ _
      rw [h1]; exact ⟨_, _, _, _, _, fun _ => rfl, h2⟩
    | e f => exact False.elim e
theorem stagesW_ok : ∀ (os : List (AO × Nat)) {t : T} {h : Hp} {ps : List PD} {c : Nat} {r : Orc} {k : KP}, stagesW os t h ps c r k →
    ∃ t' h' ps' c' r', (∀ kk : T → Hp → List PD → RT, stageOs os t h ps kk = kk t' h' ps') ∧ k t' h' ps' c' r'
  | [], t, h, ps, c, r, k, e => ⟨_, _, _, _, _, fun _ => rfl, e⟩
  | o :: os, t, h, ps, c, r, k, e => by
    obtain ⟨t1, h1, ps1, c1, r1, e1, e2⟩ := stageW_ok (show stageW o.1 o.2 t h ps c r (fun t h ps c r => stagesW os t h ps c r k) from e)
    obtain ⟨t2, h2, ps2, c2, r2, e3, e4⟩ := stagesW_ok os e2
    refine ⟨t2, h2, ps2, c2, r2, fun kk => ?_, e4⟩
    show stageO o.1 o.2 t h ps (fun t h ps => stageOs os t h ps kk) = _
    rw [e1, e3]
theorem bcF {b : Bool} {K : Prop} (h : bc b K False) : b = true ∧ K := by
  cases b with
  | true => exact ⟨rfl, h⟩
  | false => exact h.elim
mutual
theorem avC_ok : ∀ (v u : AV) {K : Prop}, avC v u K → avEq v u = true ∧ K
  | .bool b, u, K, e => by
    cases u <;> first | exact False.elim e | skip
    exact bcF e
  | .int k n, u, K, e => by
    cases u <;> first | exact False.elim e | skip
    rename_i k' m
    obtain ⟨h1, rfl, h3⟩ := bcF (show bc (ikEq k k') (n = m ∧ K) False from e)
    refine ⟨?_, h3⟩
    show bc (ikEq k k') (eqI n n) false = true
    rw [h1, eqI_eq]; simp
  | .str s, u, K, e => by
    cases u <;> first | exact False.elim e | skip
    obtain ⟨rfl, h⟩ := (show s = _ ∧ K from e)
    refine ⟨?_, h⟩
    show strEq s s = true
    rw [strEq_iff]; simp
  | .nilPtr, u, K, e => by cases u <;> first | exact ⟨rfl, e⟩ | exact False.elim e
  | .ptr b o, u, K, e => by
    cases u <;> first | exact False.elim e | skip
    rename_i b' o'
    obtain ⟨h1, e⟩ := bcF (show bc (Nat.beq b b') (bc (Nat.beq o o') K False) False from e)
    obtain ⟨h2, e⟩ := bcF e
    refine ⟨?_, e⟩
    show bc (Nat.beq b b') (Nat.beq o o') false = true
    rw [h1, h2]; rfl
  | .nilSlice, u, K, e => by cases u <;> first | exact ⟨rfl, e⟩ | exact False.elim e
  | .slice b o l c s x, u, K, e => by
    cases u <;> first | exact False.elim e | skip
    rename_i b' o' l' c' s' x'
    obtain ⟨h1, e⟩ := bcF (show bc (Nat.beq b b') (bc (Nat.beq o o') (bc (Nat.beq l l') (bc (Nat.beq c c') (bc (Nat.beq s s') (bc (bc x x' (notB x')) K False) False) False) False) False) False from e)
    obtain ⟨h2, e⟩ := bcF e
    obtain ⟨h3, e⟩ := bcF e
    obtain ⟨h4, e⟩ := bcF e
    obtain ⟨h5, e⟩ := bcF e
    obtain ⟨h6, e⟩ := bcF e
    refine ⟨?_, e⟩
    show bc (Nat.beq b b') (bc (Nat.beq o o') (bc (Nat.beq l l') (bc (Nat.beq c c') (bc (Nat.beq s s') (bc x x' (notB x')) false) false) false) false) false = true
    rw [h1, h2, h3, h4, h5, h6]; rfl
  | .nilMap, u, K, e => by cases u <;> first | exact ⟨rfl, e⟩ | exact False.elim e
  | .map b, u, K, e => by
    cases u <;> first | exact False.elim e | skip
    exact bcF e
  | .func fn a b, u, K, e => by
    have e : (fnView fn a b).cs False False (fun f _ _ => (avF u).cs False False (fun f' a' b' => bc (Nat.beq f f') (avCs a a' (avCs b b' K)) False) False) False := e
    show (fnView fn a b).cs false false (fun f _ _ => (avF u).cs false false (fun f' a' b' => bc (Nat.beq f f') (bc (avEqs a a') (avEqs b b') false) false) false) false = true ∧ K
    cases hf : fnView fn a b with
    | no => rw [hf] at e; exact False.elim e
    | nil => rw [hf] at e; exact False.elim e
    | other => rw [hf] at e; exact False.elim e
    | fn f x y =>
      rw [hf] at e
      cases hu : avF u with
      | no => rw [hu] at e; exact False.elim e
      | nil => rw [hu] at e; exact False.elim e
      | other => rw [hu] at e; exact False.elim e
      | fn f' a' b' =>
        rw [hu] at e
        obtain ⟨h1, e⟩ := bcF (show bc (Nat.beq f f') (avCs a a' (avCs b b' K)) False from e)
        obtain ⟨h2, e⟩ := avCs_ok a a' e
        obtain ⟨h3, e⟩ := avCs_ok b b' e
        refine ⟨?_, e⟩
        show bc (Nat.beq f f') (bc (avEqs a a') (avEqs b b') false) false = true
        rw [h1, h2, h3]; rfl
  | .nilFunc, u, K, e => by
    have e : (avF u).cs False K (fun _ _ _ => False) False := e
    show (avF u).cs false true (fun _ _ _ => false) false = true ∧ K
    cases hu : avF u with
    | nil => rw [hu] at e; exact ⟨rfl, e⟩
    | _ => rw [hu] at e; exact False.elim e
  | .iface t v, u, K, e => by
    cases u <;> first | exact False.elim e | skip
    rename_i t' w
    obtain ⟨h1, e⟩ := bcF (show bc (Nat.beq t t') (avC v w K) False from e)
    obtain ⟨h2, e⟩ := avC_ok v w e
    refine ⟨?_, e⟩
    show bc (Nat.beq t t') (avEq v w) false = true
    rw [h1, h2]; rfl
  | .nilIface, u, K, e => by cases u <;> first | exact ⟨rfl, e⟩ | exact False.elim e
  | .agg l, u, K, e => by
    cases u <;> first | exact False.elim e | skip
    exact avCs_ok l _ e
  | .tuple l, u, K, e => by
    cases u <;> first | exact False.elim e | skip
    exact avCs_ok l _ e
theorem avCs_ok : ∀ (l m : List AV) {K : Prop}, avCs l m K → avEqs l m = true ∧ K
  | [], m, K, e => by
    cases m with
    | nil => exact ⟨rfl, e⟩
    | cons _ _ => exact False.elim e
  | a :: l, m, K, e => by
    cases m with
    | nil => exact False.elim e
    | cons b m =>
      obtain ⟨h1, e⟩ := avC_ok a b (show avC a b (avCs l m K) from e)
      obtain ⟨h2, e⟩ := avCs_ok l m e
      refine ⟨?_, e⟩
      show bc (avEq a b) (avEqs l m) false = true
      rw [h1, h2]; rfl
end
theorem agnP_ok : ∀ {ps : List PD} {n : Nat} {h : Hp} {K : Prop}, agnP ps n h K → readAgain ps n h = true ∧ K
  | [], n, h, K, e => ⟨rfl, e⟩
  | p :: ps, n, h, K, e => by
    have e : bc (Nat.blt p.hi n) (agnP ps n h K) ((evQ p.o p.t h).cs False fun v => avC p.v v (agnP ps n h K)) := e
    show bc (bc (Nat.blt p.hi n) true (again p.o p.t p.v h)) (readAgain ps n h) false = true ∧ K
    cases hb : Nat.blt p.hi n with
    | true => rw [hb] at e; exact agnP_ok e
    | false =>
      rw [hb] at e
      obtain ⟨v, h1, h2⟩ := okv (show (evQ p.o p.t h).cs False (fun v => avC p.v v (agnP ps n h K)) from e)
      obtain ⟨h3, h4⟩ := avC_ok _ _ h2
      obtain ⟨h5, h6⟩ := agnP_ok h4
      refine ⟨?_, h6⟩
      show bc ((evQ p.o p.t h).cs false fun v' => avEq p.v v') (readAgain ps n h) false = true
      rw [h1]
      show bc (avEq p.v v) (readAgain ps n h) false = true
      rw [h3, h5]; rfl
theorem againW_ok : ∀ {ps : List PD} {n : Nat} {h : Hp}, againW ps n h → readAgain ps n h = true
  | [], n, h, _ => rfl
  | p :: ps, n, h, e => by
    have e : bc (Nat.blt p.hi n) (againW ps n h) (again p.o p.t p.v h = true ∧ againW ps n h) := e
    show bc (bc (Nat.blt p.hi n) true (again p.o p.t p.v h)) (readAgain ps n h) false = true
    cases hb : Nat.blt p.hi n with
    | true => rw [hb] at e; exact againW_ok e
    | false =>
      rw [hb] at e
      show bc (again p.o p.t p.v h) (readAgain ps n h) false = true
      rw [e.1]; exact againW_ok e.2
theorem dsW_ok (hc : CallOk call callW) : ∀ (l : List DS) {n : Nat} {t : T} {h : Hp} {ps : List PD} {c : Nat} {r : Orc} {k : KT}, dsW call callW l n t h ps c r k →
    ∃ t' h' c' r', evDs call l n t h ps = .ok t' h' ∧ k t' h' c' r'
  | [], n, t, h, ps, c, r, k, e => False.elim e
  | s :: l, n, t, h, ps, c, r, k, e => by
    obtain ⟨t1, h1, ps1, c1, r1, e1, e2⟩ := stagesW_ok s.os (show stagesW s.os t h ps c r _ from e)
    have go : ∀ c r, readAgain ps1 n h1 = true → (ocase (k t1 h1 c r) (fun e => oW call callW e t1 h1 c r fun t h c r => dsW call callW l (Nat.succ n) t h ps1 c r k) s.e : Prop) →
        ∃ t' h' c' r', evDs call (s :: l) n t h ps = .ok t' h' ∧ k t' h' c' r' := by
      intro c r hr e
      have key : evDs call (s :: l) n t h ps = ocase (.ok t1 h1) (fun e => (evO call e t1 h1).then fun t h => evDs call l (Nat.succ n) t h ps1) s.e := by
        show stageOs s.os t h ps _ = _
        rw [e1]
        show bc (readAgain ps1 n h1) _ _ = _
        rw [hr]; rfl
      rw [key]
      cases hs : s.e with
      | none => rw [hs] at e; exact ⟨_, _, _, _, rfl, e⟩
      | some e' =>
        rw [hs] at e
        obtain ⟨t2, h2, c2, r2, e3, e4⟩ := oW_ok hc (show oW call callW e' t1 h1 c r _ from e)
        obtain ⟨t3, h3, c3, r3, e5, e6⟩ := dsW_ok hc l e4
        refine ⟨t3, h3, c3, r3, ?_, e6⟩
        show (evO call e' t1 h1).then _ = _
        rw [e3]; exact e5
    have hbc : ∀ {b : Bool} {p : Prop}, bc b p False → b = true ∧ p := by
      intro b p e
      cases b with
      | true => exact ⟨rfl, e⟩
      | false => exact False.elim e
    rcases step_ok e2 with ⟨r1, e2⟩ | ⟨m, e2⟩
    · cases r1 with
      | fin => obtain ⟨hr, e3⟩ := hbc e2; exact go _ _ hr e3
      | exi n f => obtain ⟨hr, e3⟩ := hbc e2; exact go _ _ hr e3
      | dis n a b => obtain ⟨hr, e3⟩ := hbc e2; exact go _ _ hr e3
      | again n' r' => exact go _ _ (againW_ok e2.1) e2.2
      | agn n' r' => exact go _ _ (agnP_ok e2).1 (agnP_ok e2).2
      | _ => exact False.elim e2
    · obtain ⟨hr, e3⟩ := hbc e2; exact go _ _ hr e3
theorem oks {s : RS} {a : T → Hp → Prop} {b : Nat → T → Hp → Prop} {d : T → Hp → Prop} (e : s.cs False a b d) : s ≠ .no := by
  rintro rfl; exact e
def CodeOk (res : T → Hp → RS) (w : CodeW) : Prop := ∀ t h c r k, w t h c r k → ∃ s c' r', res t h = s ∧ s ≠ .no ∧ k s c' r'
theorem cW_ok (hc : CallOk call callW) : ∀ (a : AC), CodeOk (evC call N a) (cW call callW N a)
  | .skip => fun t h c r k e => ⟨_, c, r, rfl, nofun, e⟩
  | .region os => fun t h c r k e => by
    obtain ⟨t1, h1, c1, r1, e1, e2⟩ := osW_ok hc os (show osW call callW os t h c r _ from e)
    refine ⟨.nor t1 h1, c1, r1, ?_, nofun, e2⟩
    show (evOs call os t h).done = _
    rw [e1]; rfl
  | .drawn l => fun t h c r k e => by
    obtain ⟨t1, h1, c1, r1, e1, e2⟩ := dsW_ok hc l (show dsW call callW l 0 t h [] c r _ from e)
    refine ⟨.nor t1 h1, c1, r1, ?_, nofun, e2⟩
    show (evDs call l 0 t h []).done = _
    rw [e1]; rfl
  | .seq a b => fun t h c r k e => by
    obtain ⟨s, c1, r1, e1, e2, e3⟩ := cW_ok hc a t h c r _ (show cW call callW N a t h c r (fun s c r => s.cs False (fun t h => cW call callW N b t h c r k) (fun i t h => k (.exit i t h) c r) (fun t h => k (.ret t h) c r)) from e)
    show ∃ s c' r', (evC call N a t h).then (evC call N b) = s ∧ _
    rw [e1]
    cases s with
    | no => exact False.elim e3
    | nor t1 h1 => exact cW_ok hc b t1 h1 c1 r1 k e3
    | exit i t1 h1 => exact ⟨_, c1, r1, rfl, nofun, e3⟩
    | ret t1 h1 => exact ⟨_, c1, r1, rfl, nofun, e3⟩
  | .cond x a b => fun t h c r k e => by
    obtain ⟨v, hv, e1⟩ := okb (show (avB (evX x t)).cs False (fun b' => bc b' (cW call callW N a t h c r k) (cW call callW N b t h c r k)) from e)
    show ∃ s c' r', (evX x t).asBool RS.no (fun b' => bc b' (evC call N a t h) (evC call N b t h)) = s ∧ _
    rw [hv]
    cases v with
    | true => exact cW_ok hc a t h c r k e1
    | false => exact cW_ok hc b t h c r k e1
  | .block i a => fun t h c r k e => by
    obtain ⟨s, c1, r1, e1, e2, e3⟩ := cW_ok hc a t h c r _ (show cW call callW N a t h c r _ from e)
    show ∃ s c' r', (evC call N a t h).block i = s ∧ _
    rw [e1]
    cases s with
    | no => exact False.elim e3
    | nor t1 h1 => exact ⟨_, c1, r1, rfl, nofun, e3⟩
    | ret t1 h1 => exact ⟨_, c1, r1, rfl, nofun, e3⟩
    | exit j t1 h1 =>
      have e3 : bc (Nat.beq j i) (k (.nor t1 h1) c1 r1) (k (.exit j t1 h1) c1 r1) := e3
      show ∃ s c' r', bc (Nat.beq j i) (RS.nor t1 h1) (.exit j t1 h1) = s ∧ _
      cases hb : Nat.beq j i with
      | true => rw [hb] at e3; exact ⟨_, c1, r1, rfl, nofun, e3⟩
      | false => rw [hb] at e3; exact ⟨_, c1, r1, rfl, nofun, e3⟩
  | .loop a => fun t h c r k e => by
    have go : ∀ c r, goL (cW call callW N a) N k t h c r → ∃ s c' r', evC call N (.loop a) t h = s ∧ s ≠ .no ∧ k s c' r' := by
      intro c r e
      show ∃ s c' r', rounds (fun _ _ => RS.no) (fun again t h => (evC call N a t h).then again) N t h = s ∧ _
      have key : ∀ (j : Nat) (t : T) (h : Hp) (c : Nat) (r : Orc), goL (cW call callW N a) j k t h c r →
        ∃ s c' r', rounds (fun _ _ => RS.no) (fun again t h => (evC call N a t h).then again) j t h = s ∧ s ≠ .no ∧ k s c' r' := by
        intro j
        induction j with
        | zero => exact fun t h c r e => False.elim e
        | succ j ih =>
          intro t h c r e
          obtain ⟨s, c1, r1, e1, e2, e3⟩ := cW_ok hc a t h c r _ (show cW call callW N a t h c r _ from e)
          show ∃ s c' r', (evC call N a t h).then (rounds (fun _ _ => RS.no) (fun again t h => (evC call N a t h).then again) j) = s ∧ _
          rw [e1]
          cases s with
          | no => exact False.elim e3
          | nor t1 h1 => exact ih t1 h1 c1 r1 e3
          | exit i t1 h1 => exact ⟨_, c1, r1, rfl, nofun, e3⟩
          | ret t1 h1 => exact ⟨_, c1, r1, rfl, nofun, e3⟩
      exact key N t h c r e
    rcases step_ok (show step c r _ _ from e) with ⟨r, e⟩ | ⟨m, e⟩
    · cases r with
      | fin => exact go _ _ e
      | exi n f => exact go _ _ e
      | dis n a b => exact go _ _ e
      | lp n s r => exact ⟨s, _, _, e.1, oks e.2.1, e.2.2⟩
      | lpx n s r => obtain ⟨w, h1, h2, h3⟩ := e; exact ⟨s w, _, _, h1, oks h2, h3⟩
      | _ => exact False.elim e
    · exact go _ _ e
  | .exit i => fun t h c r k e => ⟨_, c, r, rfl, nofun, e⟩
  | .ret => fun t h c r k e => ⟨_, c, r, rfl, nofun, e⟩
  | .fail w => fun t h c r k e => False.elim e
theorem f1W_ok (hc : CallOk call callW) {S : Nat → Option AF} : CallOk (evF1 S N call) (f1W S N call callW) := fun f args h c r k e => by
  have e : (ocase False (fun fn => bc (Nat.ble (len args) fn.ntmps) (cW call callW N fn.body (frame0 args) h c r fun s c r => s.cs False (fun t h => resW fn.results t h c r k) (fun _ _ _ => False) (fun t h => resW fn.results t h c r k)) False) (S f) : Prop) := e
  show ∃ v h' c' r', ocase RV.no (fun fn => bc (Nat.ble (len args) fn.ntmps) (finish fn.results (evC call N fn.body (frame0 args) h)) .no) (S f) = .ok v h' ∧ _
  cases hf : S f with
  | none => rw [hf] at e; exact False.elim e
  | some fn =>
    rw [hf] at e
    have e : bc (Nat.ble (len args) fn.ntmps) (cW call callW N fn.body (frame0 args) h c r fun s c r => s.cs False (fun t h => resW fn.results t h c r k) (fun _ _ _ => False) (fun t h => resW fn.results t h c r k)) False := e
    show ∃ v h' c' r', bc (Nat.ble (len args) fn.ntmps) (finish fn.results (evC call N fn.body (frame0 args) h)) .no = .ok v h' ∧ _
    cases hb : Nat.ble (len args) fn.ntmps with
    | false => rw [hb] at e; exact False.elim e
    | true =>
      rw [hb] at e
      obtain ⟨s, c1, r1, e1, e2, e3⟩ := cW_ok hc fn.body (frame0 args) h c r _ e
      show ∃ v h' c' r', finish fn.results (evC call N fn.body (frame0 args) h) = .ok v h' ∧ _
      rw [e1]
      cases s with
      | no => exact False.elim e3
      | exit i t1 h1 => exact False.elim e3
      | nor t1 h1 => obtain ⟨v, h', h2, h3⟩ := okr e3; exact ⟨v, h', _, _, h2, h3⟩
      | ret t1 h1 => obtain ⟨v, h', h2, h3⟩ := okr e3; exact ⟨v, h', _, _, h2, h3⟩
end
section
variable {P : Program}
end
end Eng
end
section
set_option linter.unusedVariables false
set_option linter.unusedSimpArgs false
namespace Eng
open Go Go.RowKit
noncomputable def ovT (l : List (Nat × AV)) (t : T) : T := lrec t (fun p _ ih => tset (pathOf p.1) p.2 ih) l
noncomputable def slots (L : List Nat) (t : T) : List (Option AV) := lmap (fun i => tget (pathOf i) t) L
def Has (l : List (Nat × AV)) (t : T) : Prop := slots (l.map (·.1)) t = l.map fun p => some p.2
theorem tset_same {α : Type} : ∀ {p : Pth} {v : α} {t : Tr α}, tget p t = some v → tset p v t = t
  | .e, v, t, h => by
    cases t with
    | lf => cases h
    | nd a l r =>
      have h : a = some v := h
      subst h; rfl
  | .l p, v, t, h => by
    cases t with
    | lf =>
      have h : tget p (.lf : Tr α) = some v := h
      rw [tget_lf] at h; cases h
    | nd a l r =>
      show Tr.nd a (tset p v l) r = _
      rw [tset_same (show tget p l = some v from h)]
  | .r p, v, t, h => by
    cases t with
    | lf =>
      have h : tget p (.lf : Tr α) = some v := h
      rw [tget_lf] at h; cases h
    | nd a l r =>
      show Tr.nd a l (tset p v r) = _
      rw [tset_same (show tget p r = some v from h)]
theorem ovT_eq : ∀ {l : List (Nat × AV)} {t : T}, Has l t → ovT l t = t
  | [], t, _ => rfl
  | p :: l, t, h => by
    obtain ⟨h1, h2⟩ := List.cons.inj (show tget (pathOf p.1) t :: slots (l.map (·.1)) t = some p.2 :: l.map (fun p => some p.2) from h)
    show tset (pathOf p.1) p.2 (ovT l t) = t
    rw [ovT_eq (show Has l t from h2)]
    exact tset_same h1
noncomputable def obsS (L : List Nat) (Kn : List (Option AV) → Hp → Prop) (Ke : Nat → List (Option AV) → Hp → Prop) (Kr : List (Option AV) → Hp → Prop) (s : RS) : Prop :=
  s.cs False (fun t h => Kn (slots L t) h) (fun i t h => Ke i (slots L t) h) (fun t h => Kr (slots L t) h)
theorem CallOk.none (call : CallT) : CallOk call (fun _ _ _ _ _ _ => False) := fun _ _ _ _ _ _ h => h.elim
theorem walk_ok {call : CallT} {N : Nat} {c : AC} {t : T} {h : Hp} {o : Orc} {L : List Nat} {Kn : List (Option AV) → Hp → Prop} {Ke : Nat → List (Option AV) → Hp → Prop} {Kr : List (Option AV) → Hp → Prop} {p : Prop}
    (e : cW call (fun _ _ _ _ _ _ => False) N c t h o.n o (fun s _ _ => obsS L Kn Ke Kr s) = p) (hp : p) : ∃ s, evC call N c t h = s ∧ obsS L Kn Ke Kr s := by
  rw [← e] at hp
  obtain ⟨s, _, _, h1, _, h3⟩ := cW_ok (CallOk.none call) c t h _ _ _ hp
  exact ⟨s, h1, h3⟩
theorem fwalk_ok {call : CallT} {S : Nat → Option AF} {N : Nat} {f : Nat} {args : List AV} {h : Hp} {o : Orc} {K : AV → Hp → Prop} {p : Prop}
    (e : f1W S N call (fun _ _ _ _ _ _ => False) f args h o.n o (fun v h _ _ => K v h) = p) (hp : p) : ∃ v h', evF1 S N call f args h = .ok v h' ∧ K v h' := by
  rw [← e] at hp
  obtain ⟨v, h', _, _, h1, h3⟩ := f1W_ok (CallOk.none call) f args h _ _ _ hp
  exact ⟨v, h', h1, h3⟩
theorem loop_ok {call : CallT} {N : Nat} {body : AC} (L : List Nat) (Inv : Nat → List (Option AV) → Hp → Prop) (Ke : Nat → List (Option AV) → Hp → Prop) (Kr : List (Option AV) → Hp → Prop)
    (step : ∀ n t h, Inv n (slots L t) h → ∃ s, evC call N body t h = s ∧ obsS L (fun l h' => ∃ m, m < n ∧ Inv m l h') Ke Kr s) (n : Nat) (hn : n < N) (t : T) (h : Hp) (h0 : Inv n (slots L t) h) :
    ∃ s, evC call N (.loop body) t h = s ∧ obsS L (fun _ _ => False) Ke Kr s := by
  show ∃ s, rounds (fun _ _ => RS.no) (fun again t h => (evC call N body t h).then again) N t h = s ∧ obsS L (fun _ _ => False) Ke Kr s
  have key : ∀ (j n : Nat), n < j → ∀ t h, Inv n (slots L t) h → ∃ s, rounds (fun _ _ => RS.no) (fun again t h => (evC call N body t h).then again) j t h = s ∧ obsS L (fun _ _ => False) Ke Kr s := by
    intro j
    induction j with
    | zero => exact fun n hn => absurd hn (Nat.not_lt_zero _)
    | succ j ih =>
      intro n hn t h hi
      obtain ⟨s, e, hs⟩ := step n t h hi
      show ∃ s, (evC call N body t h).then (rounds (fun _ _ => RS.no) (fun again t h => (evC call N body t h).then again) j) = s ∧ _
      rw [e]
      cases s with
      | no => exact hs.elim
      | nor t' h' =>
        obtain ⟨m, hm, hi'⟩ := (show ∃ m, m < n ∧ Inv m (slots L t') h' from hs)
        exact ih m (by omega) t' h' hi'
      | exit i t' h' => exact ⟨_, rfl, hs⟩
      | ret t' h' => exact ⟨_, rfl, hs⟩
  exact key N n hn t h h0
theorem ltI_t {a b : Nat} (h : ltI (.ofNat a) (.ofNat b) = true) : a < b := by rw [ltI_eq] at h; simpa using h
theorem ltI_f {a b : Nat} (h : ltI (.ofNat a) (.ofNat b) = false) : b ≤ a := by rw [ltI_eq] at h; simpa using h
theorem eqI_t {a b : Nat} (h : eqI (.ofNat a) (.ofNat b) = true) : a = b := by rw [eqI_eq] at h; have h := eq_of_beq h; exact Int.ofNat.inj h
theorem eqI_f {a b : Nat} (h : eqI (.ofNat a) (.ofNat b) = false) : a ≠ b := fun e => by subst e; rw [eqI_eq] at h; simp at h
theorem notB_t {b : Bool} (h : notB b = true) : b = false := by cases b <;> first | rfl | cases h
theorem notB_f {b : Bool} (h : notB b = false) : b = true := by cases b <;> first | rfl | cases h
theorem wrap_i64 {n : Nat} (h : n < 9223372036854775808) : wrapA .i64 (.ofNat n) = .ofNat n := by
  show bc (Nat.blt n 9223372036854775808) (Int.ofNat n) _ = _
  rw [blt_dec, decide_eq_true h]; rfl
theorem wrapU_nat (m n : Nat) : wrapU m (.ofNat n) = .ofNat (n % m) := by
  show bc (Nat.blt n m) (Int.ofNat n) (.ofNat (Nat.mod n m)) = _
  rw [bc_blt]
  split
  · rw [Nat.mod_eq_of_lt ‹_›]
  · rfl
def uns (k : IntKind) : Bool := match k with | .u8 | .u16 | .u32 | .u64 => true | _ => false
theorem wrap_u {k : IntKind} (hk : uns k = true) (n : Nat) : wrapA k (.ofNat n) = .ofNat (n % modK k) := by
  cases k <;> first | exact wrapU_nat _ _ | cases hk
theorem ikEq_self (k : IntKind) : ikEq k k = true := by cases k <;> rfl
theorem q_add {a b : Nat} (h : a + b < 9223372036854775808) : evQ (.bin .add (.const (.int .i64 (.ofNat a))) (.const (.int .i64 (.ofNat b)))) .lf H0 = .ok (.int .i64 (.ofNat (a + b))) := by
  show OV.ok (.int .i64 (wrapA .i64 (.ofNat (a + b)))) = _
  rw [wrap_i64 h]
theorem u_and {k : IntKind} (hk : uns k = true) {a b : Nat} (ha : a < modK k) (hb : b < modK k) : evQ (.bin .and (.const (.int k (.ofNat a))) (.const (.int k (.ofNat b)))) .lf H0 = .ok (.int k (.ofNat (a &&& b))) := by
  show bc (ikEq k k) (okI k (.ofNat (Nat.land (a % modK k) (b % modK k)))) .no = _
  rw [ikEq_self, Nat.mod_eq_of_lt ha, Nat.mod_eq_of_lt hb]; show OV.ok (.int k (wrapA k (.ofNat (a &&& b)))) = _
  rw [wrap_u hk, Nat.mod_eq_of_lt (Nat.lt_of_le_of_lt Nat.and_le_left ha)]
noncomputable def elemP (v : AV) (k sz : Nat) : AV := v.asSlice .nilPtr .nilPtr fun b o _ _ _ _ => .ptr b (o + k * sz)
noncomputable def partS (v : AV) (lo hi : Nat) : AV := v.asSlice v v fun b o _ c s e => .slice b (o + lo * s) (hi - lo) (c - lo) s e
theorem q_idx {b o n c sz k : Nat} {ex : Bool} (h : k < n) : evQ (.idxAddrSl sz (.const (.slice b o n c sz ex)) (.const (.int .i64 (.ofNat k)))) .lf H0 = .ok (.ptr b (o + k * sz)) := by
  show bc (Nat.beq sz sz) (bc (Nat.blt k n) (OV.ok (.ptr b (o + k * sz))) .no) .no = _
  rw [Nat.beq_refl, blt_dec, decide_eq_true h]; rfl
theorem q_load {h : Hp} {b o : Nat} {cs : List AV} {m : Nat} {w : Own} (hg : hget h b = some (.cells cs m w)) {v : AV} (hv : cs[o]? = some v) : evQ (.loadS (.const (.ptr b o))) .lf h = .ok v := by
  show hcells h b OV.no (fun cs _ _ => ocase .no .ok (nth? cs o)) = _
  unfold hcells
  rw [hg]
  show ocase OV.no .ok (nth? cs o) = _
  rw [nth_eq, hv]; rfl
theorem u8s_eq (l : List Nat) : u8s l = l.map fun n => AV.int .u8 (.ofNat n) := lmap_eq _ _
abbrev vi (n : Nat) : AV := .int .i64 (.ofNat n)
abbrev vb8 (n : Nat) : AV := .int .u8 (.ofNat n)
abbrev vw (n : Nat) : AV := .int .u32 (.ofNat n)
abbrev vq (n : Nat) : AV := .int .u64 (.ofNat n)
end Eng
end
section
set_option linter.unusedVariables false
set_option linter.unusedSimpArgs false
namespace Eng
open Go Go.RowKit
structure Old (B : Nat) (h h' : Hp) : Prop where
  next : h.next ≤ h'.next
  get : ∀ b, b < B → hget h' b = hget h b
theorem Old.refl (B : Nat) (h : Hp) : Old B h h := ⟨Nat.le_refl _, fun _ _ => rfl⟩
theorem Old.trans {B : Nat} {h h' h'' : Hp} (a : Old B h h') (b : Old B h' h'') : Old B h h'' := ⟨Nat.le_trans a.next b.next, fun k hk => (b.get k hk).trans (a.get k hk)⟩
theorem Old.le {B C : Nat} {h h' : Hp} (a : Old B h h') (hc : C ≤ B) : Old C h h' := ⟨a.next, fun k hk => a.get k (by omega)⟩
theorem Old.push {B : Nat} {h : Hp} (hB : B ≤ h.next) (x : Blk) : Old B h (hpush h x) := ⟨Nat.le_succ _, fun k hk => hget_hpush_ne h x (by omega)⟩
theorem Old.set {B b : Nat} {h : Hp} (hB : B ≤ b) (x : Blk) : Old B h (hset h b x) := ⟨Nat.le_refl _, fun k hk => hget_hset_ne h x (by omega)⟩
inductive Owned (sz B : Nat) (h : Hp) : AV → Nat → List AV → Prop
  | nil : Owned sz B h .nilSlice 0 []
  | sl {b n : Nat} {ex : Bool} {w : Own} {L : List AV} (hB : B ≤ b) (hb : b < h.next) (hg : hget h b = some (.cells L (n * sz) w)) (hl : L.length = n * sz) (hw : w = .solo ∨ ∃ p, w = .pair p ∧ (B ≤ p ∧ p < h.next) ∧ p ≠ b) :
    Owned sz B h (.slice b 0 n n sz ex) n L
theorem Owned.push {sz B : Nat} {h : Hp} {s : AV} {n : Nat} {L : List AV} (o : Owned sz B h s n L) (x : Blk) : Owned sz B (hpush h x) s n L := by
  cases o with
  | nil => exact .nil
  | sl hB hb hg hl hw => exact .sl hB (by rw [hpush_next]; omega) (by rw [hget_hpush_ne h x (by omega)]; exact hg) hl (hw.imp id fun ⟨p, h1, h2, h3⟩ => ⟨p, h1, ⟨h2.1, by rw [hpush_next]; omega⟩, h3⟩)
theorem Owned.low {sz B C : Nat} {h : Hp} {s : AV} {n : Nat} {L : List AV} (o : Owned sz B h s n L) (hc : C ≤ B) : Owned sz C h s n L := by
  cases o with
  | nil => exact .nil
  | sl hB hb hg hl hw => exact .sl (by omega) hb hg hl (by rcases hw with h | ⟨p, h1, h2, h3⟩; exact .inl h; exact .inr ⟨p, h1, by omega, h3⟩)
theorem Owned.old {sz B C : Nat} {h h' : Hp} {s : AV} {n : Nat} {L : List AV} (o : Owned sz B h s n L) (a : Old C h h') (hc : h.next ≤ C) : Owned sz B h' s n L := by
  cases o with
  | nil => exact .nil
  | sl hB hb hg hl hw => exact .sl hB (by have := a.next; omega) (by rw [a.get _ (by omega)]; exact hg) hl (hw.imp id fun ⟨p, h1, h2, h3⟩ => ⟨p, h1, ⟨h2.1, by have := a.next; omega⟩, h3⟩)
theorem Owned.blk {sz B : Nat} {h : Hp} {s : AV} {n : Nat} {L : List AV} (o : Owned sz B h s n L) : ∀ b o' l c z ex, s = .slice b o' l c z ex → b < h.next := by
  cases o with
  | nil => intro b o' l c z ex e; cases e
  | sl hB hb hg hl hw => intro b o' l c z ex e; cases e; exact hb
theorem Owned.len {sz B n : Nat} {h : Hp} {v : AV} {L : List AV} (o : Owned sz B h v n L) : L.length = n * sz := by
  cases o with
  | nil => simp
  | sl hB hb hg hl hw => exact hl
theorem rdN_of {β : Type} {h : Hp} {b o n m : Nat} {cs : List AV} {w : Own} {z : β} {k : List AV → β} (hg : hget h b = some (.cells cs m w)) (hm : o + n ≤ m) (hc : cs.length = m) : rdN h b o n z k = k ((cs.drop o).take n) := by
  show hcells h b z _ = _
  unfold hcells
  rw [hg]
  show bc (Nat.ble (o + n) m) (k (part cs m o n)) z = _
  rw [ble_dec, decide_eq_true hm, part_eq hc hm]; rfl
theorem bytesAV_u8s : ∀ {l : List Nat}, (∀ x ∈ l, x < 256) → bytesAV (u8s l) = some l
  | [], _ => rfl
  | x :: l, h => by
    show bc (Nat.blt x 256) (ocase none (fun s => some (x :: s)) (bytesAV (u8s l))) none = some (x :: l)
    rw [blt_dec, decide_eq_true (h x (by simp)), bytesAV_u8s fun y hy => h y (by simp [hy])]; rfl
inductive Bytes (B : Nat) (h : Hp) : AV → List Nat → Prop
  | nil : Bytes B h .nilSlice []
  | sl {b o c : Nat} {ex : Bool} {cs : List AV} {m : Nat} {w : Own} {l : List Nat} (hB : b < B) (hg : hget h b = some (.cells cs m w)) (hcl : cs.length = m) (hl : (cs.drop o).take l.length = u8s l) (hm : o + l.length ≤ m) (hc : l.length ≤ c) (hb : ∀ x ∈ l, x < 256) :
    Bytes B h (.slice b o l.length c 1 ex) l
theorem Bytes.lt {B : Nat} {h : Hp} {v : AV} {l : List Nat} (o : Bytes B h v l) : ∀ x ∈ l, x < 256 := by
  cases o with
  | nil => simp
  | sl hB hg hcl hl hm hc hb => exact hb
theorem q_toStr {B : Nat} {h : Hp} {v : AV} {l : List Nat} (o : Bytes B h v l) : evQ (.toStr (.const v)) .lf h = .ok (.str l) := by
  cases o with
  | nil => rfl
  | @sl b o c ex cs m w l hB hg hcl hl hm hc hb =>
    show bc (Nat.beq 1 1) (rdN h b o l.length OV.no fun cs => ocase .no (fun s => .ok (.str s)) (bytesAV2 l.length cs)) .no = _
    have e : Nat.beq 1 1 = true := rfl
    rw [e, bc_eq, if_pos rfl, rdN_of hg hm hcl, hl, bytesAV2_eq, bytesAV_u8s hb]; rfl
theorem q_len {B : Nat} {h : Hp} {v : AV} {l : List Nat} (o : Bytes B h v l) : evQ (.lenL (.const v)) .lf H0 = .ok (.int .i64 (.ofNat l.length)) := by
  cases o <;> rfl
theorem q_idxB {B : Nat} {h : Hp} {v : AV} {l : List Nat} (o : Bytes B h v l) {k : Nat} (hk : k < l.length) : evQ (.idxAddrSl 1 (.const v) (.const (.int .i64 (.ofNat k)))) .lf H0 = .ok (elemP v k 1) := by
  cases o with
  | nil => exact absurd hk (Nat.not_lt_zero _)
  | sl hB hg hcl hl hm hc hb => exact q_idx hk
theorem q_byte {B : Nat} {h : Hp} {v : AV} {l : List Nat} (o : Bytes B h v l) {k : Nat} (hk : k < l.length) : evQ (.loadS (.const (elemP v k 1))) .lf h = .ok (.int .u8 (.ofNat (l.getD k 0))) := by
  cases o with
  | nil => exact absurd hk (Nat.not_lt_zero _)
  | @sl b o c ex cs m w l hB hg hcl hl hm hc hb =>
    refine q_load hg ?_
    have h1 : ((cs.drop o).take l.length)[k]? = (u8s l)[k]? := by rw [hl]
    rw [List.getElem?_take_of_lt hk, List.getElem?_drop, u8s_eq, List.getElem?_map] at h1
    rw [Nat.mul_one, h1, List.getElem?_eq_getElem hk]
    simp [List.getD_eq_getElem?_getD, List.getElem?_eq_getElem hk]
theorem Owned.bytes {B C : Nat} {h : Hp} {s : AV} {n : Nat} {l : List Nat} (o : Owned 1 B h s n (u8s l)) (hb : ∀ x ∈ l, x < 256) (hC : h.next ≤ C) : Bytes C h s l := by
  generalize hL : u8s l = L at o
  cases o with
  | nil =>
    cases l with
    | nil => exact .nil
    | cons x l => cases hL
  | @sl b n ex w L hB hb' hg hl hw =>
    subst hL
    have hn : l.length = n := by rw [u8s_length] at hl; omega
    subst hn
    exact .sl (by omega) hg hl (by rw [List.drop_zero, List.take_of_length_le (by rw [u8s_length]; omega)]) (by omega) (Nat.le_refl _) hb
theorem Bytes.old {B : Nat} {h h' : Hp} {v : AV} {l : List Nat} (o : Bytes B h v l) (a : Old B h h') : Bytes B h' v l := by
  cases o with
  | nil => exact .nil
  | sl hB hg hcl hl hm hc hb => exact .sl hB (by rw [a.get _ hB]; exact hg) hcl hl hm hc hb
theorem Bytes.up {B C : Nat} {h : Hp} {v : AV} {l : List Nat} (o : Bytes B h v l) (hC : B ≤ C) : Bytes C h v l := by
  cases o with
  | nil => exact .nil
  | sl hB hg hcl hl hm hc hb => exact .sl (by omega) hg hcl hl hm hc hb
theorem Bytes.part {B : Nat} {h : Hp} {v : AV} {l : List Nat} (o : Bytes B h v l) {lo hi : Nat} (h1 : lo ≤ hi) (h2 : hi ≤ l.length) : Bytes B h (partS v lo hi) ((l.take hi).drop lo) := by
  cases o with
  | nil =>
    have : hi = 0 := Nat.le_zero.1 h2
    subst this
    obtain rfl : lo = 0 := Nat.le_zero.1 h1
    exact .nil
  | @sl b o c ex cs m w l hB hg hcl hl hm hc hb =>
    have hlen : ((l.take hi).drop lo).length = hi - lo := by rw [List.length_drop, List.length_take]; omega
    have key : partS (.slice b o l.length c 1 ex) lo hi = .slice b (o + lo) ((l.take hi).drop lo).length (c - lo) 1 ex := by
      rw [hlen]
      show AV.slice b (o + lo * 1) (hi - lo) (c - lo) 1 ex = _
      rw [Nat.mul_one]
    rw [key]
    refine .sl hB hg hcl ?_ (by rw [hlen]; omega) (by rw [hlen]; omega) (fun x hx => hb x (List.mem_of_mem_take (List.mem_of_mem_drop hx)))
    rw [hlen]
    have e1 : (cs.drop (o + lo)).take (hi - lo) = (((cs.drop o).take l.length).take hi).drop lo := by
      rw [List.take_take, List.drop_take, List.drop_drop, Nat.min_eq_left h2]
    rw [e1, hl, u8s_eq, u8s_eq, ← List.map_take, ← List.map_drop]
theorem q_slice {B : Nat} {h : Hp} {v : AV} {l : List Nat} (o : Bytes B h v l) {lo hi : Nat} (h1 : lo ≤ hi) (h2 : hi ≤ l.length) :
    evQ (.sliceSl 1 (.const v) (some (.const (.int .i64 (.ofNat lo)))) (some (.const (.int .i64 (.ofNat hi)))) none) .lf H0 = .ok (partS v lo hi) := by
  cases o with
  | nil =>
    have : hi = 0 := Nat.le_zero.1 h2
    subst this
    obtain rfl : lo = 0 := Nat.le_zero.1 h1
    rfl
  | @sl b o c ex cs m w l hB hg hcl hl hm hc hb =>
    show bc (Nat.beq 1 1) (bc (Nat.ble hi c) (bc (Nat.ble lo hi) (OV.ok (.slice b (o + lo * 1) (hi - lo) (c - lo) 1 (ocase ex (fun _ => true) (none : Option AX)))) .no) .no) .no = _
    rw [ble_dec, ble_dec, decide_eq_true (by omega), decide_eq_true h1]; rfl
theorem q_sliceFrom {B : Nat} {h : Hp} {v : AV} {l : List Nat} (o : Bytes B h v l) {lo : Nat} (h1 : lo ≤ l.length) :
    evQ (.sliceSl 1 (.const v) (some (.const (.int .i64 (.ofNat lo)))) none none) .lf H0 = .ok (partS v lo l.length) := by
  cases o with
  | nil =>
    obtain rfl : lo = 0 := Nat.le_zero.1 h1
    rfl
  | @sl b o c ex cs m w l hB hg hcl hl hm hc hb =>
    show bc (Nat.beq 1 1) (bc (Nat.ble lo l.length) (OV.ok (.slice b (o + lo * 1) (l.length - lo) (c - lo) 1 (ocase ex (fun _ => true) (none : Option AX)))) .no) .no = _
    rw [ble_dec, decide_eq_true h1]; rfl
end Eng
namespace Eng
open Go Go.RowKit
end Eng
namespace Eng
open Go Go.RowKit
theorem part_from {B : Nat} {h : Hp} {v : AV} {l : List Nat} (o : Bytes B h v l) {lo : Nat} (h1 : lo ≤ l.length) : Bytes B h (partS v lo l.length) (l.drop lo) := by
  have := o.part h1 (Nat.le_refl _)
  rwa [List.take_of_length_le (Nat.le_refl _)] at this
theorem part_to {B : Nat} {h : Hp} {v : AV} {l : List Nat} (o : Bytes B h v l) {hi : Nat} (h1 : hi ≤ l.length) : Bytes B h (partS v 0 hi) (l.take hi) := by
  have := o.part (Nat.zero_le hi) h1
  rwa [List.drop_zero] at this
end Eng
namespace Eng
open Go Go.RowKit
end Eng
end
section
set_option linter.unusedVariables false
set_option linter.unusedSimpArgs false
namespace Eng
open Go Go.RowKit
theorem heap_of : ∀ (n : Nat) (f : Nat → Blk), ∃ h : Hp, h.next = n ∧ (∀ b, b < n → hget h b = some (f b)) ∧ ∀ b, n ≤ b → hget h b = none
  | 0, f => ⟨⟨0, .lf⟩, rfl, fun b hb => absurd hb (Nat.not_lt_zero _), fun b _ => tget_lf _⟩
  | n + 1, f => by
    obtain ⟨h, h1, h2, h3⟩ := heap_of n f
    refine ⟨hpush h (f n), by rw [hpush_next, h1], fun b hb => ?_, fun b hb => ?_⟩
    · by_cases e : b = n
      · subst e; rw [← h1, hget_hpush, h1]
      · rw [hget_hpush_ne _ _ (by omega)]; exact h2 b (by omega)
    · rw [hget_hpush_ne _ _ (by omega)]; exact h3 b (by omega)
def startM (n : Nat) (f : Nat → Nat × Nat) (w : World) : Mp := ⟨fun b => if b < n then some (f b) else none, fun _ => false, fun c => match w.heap[c]? with | some (.cells arr _ _) => arr.size | _ => 0⟩
theorem start_ok {n : Nat} {f : Nat → Nat × Nat} {g : Nat → List AV} {w : World} (hf : ∀ b, b < n → ∃ arr e fr, w.heap[(f b).1]? = some (.cells arr e fr) ∧ (∀ v ∈ g b, isCell v = true) ∧ ∀ (i : Nat) (v : AV), (g b)[i]? = some v → ∃ x, arr[(f b).2 + i]? = some x ∧ VR (startM n f w) v x) :
    ∃ h : Hp, h.next = n ∧ (∀ b, b < n → hget h b = some (.cells (g b) (g b).length .ro)) ∧ Sim (startM n f w) h w := by
  obtain ⟨h, h1, h2, h3⟩ := heap_of n fun b => .cells (g b) (g b).length .ro
  have hat : ∀ b c s, (startM n f w).at_ b = some (c, s) → b < n ∧ f b = (c, s) := fun b c s e => by
    have e : (if b < n then some (f b) else none) = some (c, s) := e
    split at e
    · exact ⟨‹_›, Option.some.inj e⟩
    · cases e
  refine ⟨h, h1, h2, ?_, fun b hb => h3 b (by omega), ?_, ?_, ?_, ?_⟩
  · intro b hb
    show (if b < n then some (f b) else none) = none
    rw [if_neg (by omega)]
  · intro b c s e
    obtain ⟨hb, he⟩ := hat b c s e
    obtain ⟨arr, e', fr, hh, _⟩ := hf b hb
    rw [he] at hh
    exact (Array.getElem?_eq_some_iff.1 hh).1
  · intro b c s x e hg
    obtain ⟨hb, he⟩ := hat b c s e
    rw [h2 b hb] at hg
    cases hg
    obtain ⟨arr, e', fr, hh, hc, hv⟩ := hf b hb
    rw [he] at hh hv
    refine ⟨rfl, hc, ⟨fun h => (by cases h), fun h => absurd rfl h⟩, arr, e', fr, hh, ?_, fun h => (by cases h), hv⟩
    show arr.size = match w.heap[c]? with | some (.cells arr _ _) => arr.size | _ => 0
    rw [hh]
  · intro b b' c s s' x x' _ _ _ ho
    cases ho
  · intro b c s cs m p e hg
    obtain ⟨hb, he⟩ := hat b c s e
    rw [h2 b hb] at hg
    cases hg
theorem Goes.below' {μ μ' : Mp} {h h' : Hp} {w w' : World} (hm : ∀ c, μ.own c = false) (g : Goes μ h w μ' h' w') : Below w.heap.size w w' := ⟨g.os, g.tape, g.output, g.heap, fun k hk => g.kept k hk (hm k)⟩
theorem start_law {P : Program} {D : Nat → Array Oper → AC} (hD : DrawOk P D) {M : Nat → Option (List AV → Hp → RV)} (hM : Good P fun f args h => ocase .no (fun m => m args h) (M f)) {N d f : Nat} {w : World} {μ : Mp} {h h' : Hp} (hs : Sim μ h w) (hm : ∀ c, μ.own c = false)
    {args : List AV} {cargs : Array Value} (r : VRs μ args cargs.toList) (e : evF M (progS P D) N d f args h = .ok (.bool true) h') : Calls P f cargs w fun e w' => e = .returned (.bool true) ∧ Below w.heap.size w w' := by
  refine (evF_ok hD hM N d f args h _ h' μ w cargs e hs r).2.mono fun e w' hR => ?_
  obtain ⟨μ', y, rfl, ry, hs', g⟩ := hR
  rw [VR_bool] at ry
  subst ry
  exact ⟨rfl, g.below' hm⟩
structure BArg where
  v : Value
  c : Nat
  s : Nat
  l : List Nat
def BArg.lies (w : World) (a : BArg) : Prop := (∀ x ∈ a.l, x < 256) ∧ ((a.v = .slice none 0 0 ∧ a.l = []) ∨ ∃ cap arr e fr, a.v = .slice (some ⟨a.c, a.s, none⟩) a.l.length cap ∧ w.heap[a.c]? = some (.cells arr e fr) ∧ a.l.length ≤ cap ∧ (cap ≠ 0 → a.s + cap ≤ arr.size) ∧
  ∀ (i : Nat) (x : Nat), a.l[i]? = some x → arr[a.s + i]? = some (.int .u8 (.ofNat x)))
theorem u8s_at {l : List Nat} {i : Nat} {v : AV} (h : (u8s l)[i]? = some v) : ∃ x, l[i]? = some x ∧ v = .int .u8 (.ofNat x) := by
  rw [u8s_eq, List.getElem?_map] at h
  cases hl : l[i]? with
  | none => rw [hl] at h; cases h
  | some x => rw [hl] at h; cases h; exact ⟨x, rfl, rfl⟩
theorem start_bytes {w : World} (bys : List BArg) (ha : ∀ a ∈ bys, a.lies w) : ∃ (μ : Mp) (h : Hp) (vs : List AV), Sim μ h w ∧ (∀ c, μ.own c = false) ∧ vs.length = bys.length ∧
    (∀ (i : Nat) (v : AV) (a : BArg), vs[i]? = some v → bys[i]? = some a → VR μ v a.v ∧ Bytes h.next h v a.l) ∧ h.next ≤ bys.length := by
  classical
  have key : ∀ (n : Nat) (bs : List BArg), bs.length = n → (∀ a ∈ bs, a.lies w ∧ a.v ≠ .slice none 0 0) → ∃ (μ : Mp) (h : Hp), Sim μ h w ∧ (∀ c, μ.own c = false) ∧ h.next = n ∧ ∀ (i : Nat) (a : BArg), bs[i]? = some a → ∃ v, VR μ v a.v ∧ Bytes h.next h v a.l := by
    intro n bs hn hbs
    let f : Nat → Nat × Nat := fun b => match bs[b]? with | some a => (a.c, a.s) | none => (0, 0)
    let g : Nat → List AV := fun b => match bs[b]? with | some a => u8s a.l | none => []
    have hfb : ∀ b a, bs[b]? = some a → f b = (a.c, a.s) := fun b a h => by show (match bs[b]? with | some a => (a.c, a.s) | none => (0, 0)) = _; rw [h]
    have hgb : ∀ b a, bs[b]? = some a → g b = u8s a.l := fun b a h => by show (match bs[b]? with | some a => u8s a.l | none => []) = _; rw [h]
    have hsome : ∀ b, b < n → ∃ a, bs[b]? = some a := fun b hb => ⟨bs[b], List.getElem?_eq_getElem (by omega)⟩
    obtain ⟨h, h1, h2, h3⟩ := start_ok (n := n) (f := f) (g := g) (w := w) fun b hb => by
      obtain ⟨a, ha⟩ := hsome b hb
      rw [hfb b a ha, hgb b a ha]
      obtain ⟨⟨hlt, hl⟩, hne⟩ := hbs a (List.mem_of_getElem? ha)
      rcases hl with ⟨h0, _⟩ | ⟨cap, arr, e, fr, hv, hh, hc, hs, hx⟩
      · exact absurd h0 hne
      · refine ⟨arr, e, fr, hh, fun v hv => ?_, fun i v hv => ?_⟩
        · obtain ⟨i, hi⟩ := List.getElem?_of_mem hv
          obtain ⟨x, _, rfl⟩ := u8s_at hi; rfl
        · obtain ⟨x, h1, rfl⟩ := u8s_at hv
          exact ⟨_, hx i x h1, by rw [VR_int]⟩
    refine ⟨_, h, h3, fun _ => rfl, h1, fun i a hi => ?_⟩
    have hin : i < n := by have := (List.getElem?_eq_some_iff.1 hi).1; omega
    obtain ⟨⟨hlt, hl⟩, hne⟩ := hbs a (List.mem_of_getElem? hi)
    rcases hl with ⟨h0, _⟩ | ⟨cap, arr, e, fr, hv, hh, hc, hs, hx⟩
    · exact absurd h0 hne
    · refine ⟨.slice i 0 a.l.length cap 1 true, ?_, ?_⟩
      · rw [hv]
        unfold VR
        refine ⟨a.c, a.s, ⟨a.c, a.s, none⟩, cap, ?_, rfl, hc, Nat.le_refl _, fun _ => rfl, fun h0 => ⟨rfl, ?_⟩⟩
        · show (if i < n then some (f i) else none) = _
          rw [if_pos hin, hfb i a hi]
        · show a.s + 0 + cap * 1 ≤ match w.heap[a.c]? with | some (.cells arr _ _) => arr.size | _ => 0
          rw [hh]
          have := hs h0
          show a.s + 0 + cap * 1 ≤ arr.size
          omega
      · have hg2 := h2 i hin
        rw [hgb i a hi] at hg2
        exact .sl (by omega) hg2 rfl (by rw [List.drop_zero, List.take_of_length_le (by rw [u8s_length]; exact Nat.le_refl _)]) (by rw [u8s_length]; omega) hc hlt
  let bs := bys.filter fun a => decide (a.v ≠ .slice none 0 0)
  obtain ⟨μ, h, hs, hm, hn, hv⟩ := key bs.length bs rfl fun a h => by
    have := List.mem_filter.1 h
    exact ⟨ha a this.1, by simpa using this.2⟩
  have each : ∀ a ∈ bys, ∃ v, VR μ v a.v ∧ Bytes h.next h v a.l := fun a hm' => by
    by_cases h0 : a.v = .slice none 0 0
    · rcases (ha a hm').2 with ⟨_, hl⟩ | ⟨cap, arr, e, fr, hv', _⟩
      · refine ⟨.nilSlice, ?_, ?_⟩
        · rw [h0]; unfold VR; rfl
        · rw [hl]; exact .nil
      · rw [hv'] at h0; cases h0
    · have : a ∈ bs := List.mem_filter.2 ⟨hm', by simpa using h0⟩
      obtain ⟨i, hi⟩ := List.getElem?_of_mem this
      exact hv i a hi
  refine ⟨μ, h, bys.attach.map fun a => (each a.1 a.2).choose, hs, hm, by simp, fun i v a hvi hai => ?_, ?_⟩
  · rw [List.getElem?_map] at hvi
    cases hat : bys.attach[i]? with
    | none => rw [hat] at hvi; cases hvi
    | some a' =>
      rw [hat] at hvi
      cases hvi
      have : a'.1 = a := by
        have h2 : bys.attach[i]?.map (·.1) = bys[i]? := by rw [← List.getElem?_map, List.attach_map_subtype_val]
        rw [hat, hai] at h2
        exact Option.some.inj h2
      subst this
      exact (each a'.1 a'.2).choose_spec
  · rw [hn]; exact List.length_filter_le _ _
end Eng
namespace Eng
open Go Go.RowKit Go.ChangeShapes Go.WideShapes
theorem bytes_arg {H : Type} {enc : TypeId × Value → H} {P : Program} {W : World} {t e : TypeId} {v : Value} {d : DataW H} {p : List MemPlace} {base : Nat} (ht : P.underlying t = some (.slice e)) (he : P.underlying e = some (.int .u8)) (hc : P.cellsOf e = 1)
    (h0 : DataW.Trod enc P W 0 (fun _ => true) true t v d p) (hv : Value.okWide P W .any base t v)   : ∃ a : BArg, a.v = v ∧ a.lies W ∧ a.l.length ≤ maxLen ∧ (a.l = [] ∨ ∃ es sp, d = .slice es sp ∧ es.length = a.l.length) := by
  obtain ⟨a0, len, cap, rfl⟩ := okWide_slice ht hv
  obtain ⟨fuel, hf⟩ := h0
  rcases open_ints ht he hc hf with ⟨hcs, _⟩ | ⟨a, len', cap', zs, hcs, _, hl, hm, hz, hd, hcell, hwf⟩
  · simp [Value.cells] at hcs
    obtain ⟨rfl, rfl, rfl⟩ := hcs
    exact ⟨⟨.slice none 0 0, 0, 0, []⟩, rfl, ⟨by simp, .inl ⟨rfl, rfl⟩⟩, Nat.zero_le _, .inl rfl⟩
  · simp [Value.cells] at hcs
    obtain ⟨rfl, rfl, rfl⟩ := hcs
    simp only [if_true] at hz
    have hhas : W.has P .any base a e cap := by
      unfold Value.okWide Cell.okWide Cell.ok at hv
      rw [ht] at hv
      exact hv.2.2
    obtain ⟨_, hsp, row, cells, hsh, _⟩ := hhas
    obtain ⟨b, o, sp⟩ := a
    have hsp : sp = none := hsp
    subst hsp
    have hh : ∃ arr e' fr, W.heap[b]? = some (.cells arr e' fr) := by
      have hsh : W.shape? b = some (row, cells) := hsh
      unfold World.shape? at hsh
      split at hsh
      · rename_i c el fr h; exact ⟨c, el, fr, h⟩
      · cases hsh
    obtain ⟨arr, e', fr, hh⟩ := hh
    have hat : ∀ i, i < cap → arr[o + i]? = some (.int .u8 (zs.getD i 0)) := fun i hi => by
      have := hcell i (by omega)
      rw [addr_add] at this
      unfold World.cell? at this
      simpa [hh] using this
    have hbyte : ∀ z ∈ zs, 0 ≤ z ∧ z < 256 := fun z hz' => by
      have h := hwf z hz'
      have h1 : IntKind.u8.min = 0 := rfl
      have h2 : IntKind.u8.max = 255 := rfl
      simp only [Lit.wf, Bool.and_eq_true, decide_eq_true_eq] at h
      omega
    have hlen : ((zs.take len).map Int.toNat).length = len := by simp; omega
    refine ⟨⟨.slice (some ⟨b, o, none⟩) len cap, b, o, (zs.take len).map Int.toNat⟩, rfl, ⟨?_, .inr ⟨cap, arr, e', fr, by rw [hlen], hh, by rw [hlen]; exact hl, fun h0 => ?_, fun i x hx => ?_⟩⟩, by rw [hlen]; omega, .inr ⟨_, _, congrArg Prod.fst hd, by rw [hlen]; simp [lits]; omega⟩⟩
    · intro x hx
      obtain ⟨z, hz', rfl⟩ := List.mem_map.1 hx
      have := hbyte z (List.mem_of_mem_take hz')
      omega
    · have := hat (cap - 1) (by omega)
      have := (Array.getElem?_eq_some_iff.1 this).1
      show o + cap ≤ arr.size
      omega
    · have hx : ((zs.take len).map Int.toNat)[i]? = some x := hx
      have hi : i < len := by have := (List.getElem?_eq_some_iff.1 hx).1; omega
      rw [List.getElem?_map, List.getElem?_take_of_lt hi] at hx
      show arr[o + i]? = some (.int .u8 (.ofNat x))
      rw [hat i (by omega), List.getD_eq_getElem?_getD]
      cases hz' : zs[i]? with
      | none => rw [hz'] at hx; cases hx
      | some z =>
        rw [hz'] at hx
        cases hx
        have := hbyte z (List.mem_of_getElem? hz')
        simp only [Option.getD_some]
        rw [show (Int.ofNat z.toNat) = z by simp; omega]
end Eng
end
section
set_option linter.unusedVariables false
namespace Eng
open Go
theorem loop_st {call : CallT} {N : Nat} {body : AC} {σ : Type} (fr : σ → List (Nat × AV)) (L : List Nat) (hL : ∀ x, (fr x).map (·.1) = L) (Inv : σ → Hp → Prop) (meas : σ → Nat) (E : Nat → σ → Hp → Prop) (R : List (Option AV) → Hp → Prop)
    (step : ∀ x t h, Inv x h → ∃ s, evC call N body (ovT (fr x) t) h = s ∧ obsS L (fun ls h' => ∃ y, ls = (fr y).map (fun p => some p.2) ∧ Inv y h' ∧ meas y < meas x) (fun i ls h' => ∃ y, ls = (fr y).map (fun p => some p.2) ∧ E i y h') R s)
    (x0 : σ) (h : Hp) (hx : Inv x0 h) (hN : meas x0 < N) (t : T) (ht : Has (fr x0) t) :
    (∃ i y t' h', evC call N (.loop body) t h = .exit i t' h' ∧ Has (fr y) t' ∧ E i y h') ∨ (∃ t' h', evC call N (.loop body) t h = .ret t' h' ∧ R (slots L t') h') := by
  obtain ⟨s, e, hs⟩ := loop_ok (call := call) (N := N) (body := body) L (fun n ls h' => ∃ y, ls = (fr y).map (fun p => some p.2) ∧ Inv y h' ∧ meas y = n) (fun i ls h' => ∃ y, ls = (fr y).map (fun p => some p.2) ∧ E i y h') R
    (fun n t h ⟨y, hy, hi, hn⟩ => by
      have hh : Has (fr y) t := by unfold Has; rw [hL]; exact hy
      obtain ⟨s, e, hs⟩ := step y t h hi
      rw [ovT_eq hh] at e
      refine ⟨s, e, ?_⟩
      cases s with
      | no => exact hs
      | nor t' h' =>
        obtain ⟨z, h1, h2, h3⟩ := (show ∃ z, slots L t' = (fr z).map (fun p => some p.2) ∧ Inv z h' ∧ meas z < meas y from hs)
        exact (show ∃ m, m < n ∧ ∃ y, slots L t' = (fr y).map (fun p => some p.2) ∧ Inv y h' ∧ meas y = m from ⟨meas z, by omega, z, h1, h2, rfl⟩)
      | exit i t' h' => exact hs
      | ret t' h' => exact hs)
    (meas x0) hN t h ⟨x0, by unfold Has at ht; rw [hL] at ht; exact ht, hx, rfl⟩
  cases s with
  | no => exact hs.elim
  | nor t' h' => exact hs.elim
  | exit i t' h' =>
    obtain ⟨y, h1, h2⟩ := (show ∃ y, slots L t' = (fr y).map (fun p => some p.2) ∧ E i y h' from hs)
    exact .inl ⟨i, y, t', h', e, by unfold Has; rw [hL]; exact h1, h2⟩
  | ret t' h' => exact .inr ⟨t', h', e, hs⟩
end Eng
end
section
set_option linter.unusedVariables false
set_option linter.unusedSimpArgs false
namespace Eng
open Go Go.RowKit
def TwinAt (h : Hp) (v : AV) (l : List Nat) : Prop := ∃ b w, v = .slice b 0 l.length (l.length + 3) 1 true ∧ b < h.next ∧ hget h b = some (.cells (u8s (l ++ [229, 229, 229])) (l.length + 3) w) ∧ ∀ x ∈ l, x < 256
theorem TwinAt.bytes {h : Hp} {v : AV} {l : List Nat} (o : TwinAt h v l) : Bytes h.next h v l := by
  obtain ⟨b, w, rfl, hb, hg, hl⟩ := o
  refine .sl hb hg (by rw [u8s_length]; simp) ?_ (by omega) (by omega) hl
  rw [List.drop_zero, u8s_eq, u8s_eq, ← List.map_take, List.take_left' rfl]
def TwinS (call : CallT) (f : Nat) : Prop := ∀ {B : Nat} {h : Hp} {vb : AV} {l : List Nat}, B ≤ h.next → Bytes B h vb l → l.length ≤ 1099511627776 → ∃ rv rh, call f [vb] h = .ok rv rh ∧ TwinAt rh rv l ∧ Old B h rh ∧ B ≤ rh.next
def KeptS (call : CallT) (f : Nat) : Prop := ∀ {h : Hp} {vb vt : AV} {l : List Nat}, TwinAt h vt l → Bytes h.next h vb l → l.length ≤ 1099511627776 → call f [vt, vb] h = .ok (.bool true) h
end Eng
namespace Eng
open Go
end Eng
namespace Eng
open Go
end Eng
namespace Eng
open Go
end Eng
namespace Eng
end Eng
end
section
set_option linter.unusedVariables false
set_option linter.unusedSimpArgs false
namespace Eng
open Go Go.RowKit
structure AObj where
  p : Hp → (Nat → Prop) → Prop
  loc : ∀ {h h' : Hp} {G : Nat → Prop}, (∀ k, G k → hget h' k = hget h k) → p h G → p h' G
def Sep (os : List AObj) (h : Hp) : Prop :=
  ∃ g : Nat → Nat → Prop, (∀ (i : Nat) (o : AObj), os[i]? = some o → o.p h (g i)) ∧ (∀ i k, g i k → k < h.next) ∧ ∀ i j k, g i k → g j k → i = j
theorem Sep.nil (h : Hp) : Sep [] h := by
  refine ⟨fun _ _ => False, fun i o e => ?_, fun i k e => e.elim, fun i j k e _ => e.elim⟩
  cases e
theorem Sep.at {os : List AObj} {h : Hp} (S : Sep os h) {i : Nat} {o : AObj} (hi : os[i]? = some o) : ∃ G : Nat → Prop, o.p h G ∧ (∀ k, G k → k < h.next) ∧
    ∀ (h' : Hp) (o' : AObj) (G' : Nat → Prop), h.next ≤ h'.next → o'.p h' G' → (∀ k, G' k → G k ∨ (h.next ≤ k ∧ k < h'.next)) → (∀ k, k < h.next → ¬ G k → hget h' k = hget h k) → Sep (os.set i o') h' := by
  obtain ⟨g, g1, g2, g3⟩ := S
  have hil : i < os.length := (List.getElem?_eq_some_iff.1 hi).1
  refine ⟨g i, g1 i o hi, g2 i, fun h' o' G' hn ho hG hf => ⟨fun j k => (j = i ∧ G' k) ∨ (j ≠ i ∧ g j k), fun j x hj => ?_, fun j k hk => ?_, fun j1 j2 k h1 h2 => ?_⟩⟩
  · by_cases e : j = i
    · subst e
      rw [List.getElem?_set_self hil] at hj
      cases hj
      have : (fun k => (j = j ∧ G' k) ∨ (j ≠ j ∧ g j k)) = G' := by funext k; simp
      show o'.p h' (fun k => (j = j ∧ G' k) ∨ (j ≠ j ∧ g j k))
      rw [this]; exact ho
    · rw [List.getElem?_set_ne (Ne.symm e)] at hj
      have : (fun k => (j = i ∧ G' k) ∨ (j ≠ i ∧ g j k)) = g j := by funext k; simp [e]
      show x.p h' (fun k => (j = i ∧ G' k) ∨ (j ≠ i ∧ g j k))
      rw [this]
      exact x.loc (fun k hk => hf k (g2 j k hk) fun hc => e (g3 j i k hk hc)) (g1 j x hj)
  · rcases hk with ⟨_, hk⟩ | ⟨_, hk⟩
    · rcases hG k hk with hk | ⟨_, hk⟩
      · have := g2 i k hk; omega
      · exact hk
    · have := g2 j k hk; omega
  · rcases h1 with ⟨e1, h1⟩ | ⟨e1, h1⟩ <;> rcases h2 with ⟨e2, h2⟩ | ⟨e2, h2⟩
    · rw [e1, e2]
    · rcases hG k h1 with h1 | ⟨h1, _⟩
      · exact absurd (g3 i j2 k h1 h2) (Ne.symm e2)
      · have := g2 j2 k h2; omega
    · rcases hG k h2 with h2 | ⟨h2, _⟩
      · exact absurd (g3 i j1 k h2 h1) (Ne.symm e1)
      · have := g2 j1 k h1; omega
    · exact g3 j1 j2 k h1 h2
theorem Sep.add {os : List AObj} {h : Hp} (S : Sep os h) {h' : Hp} {o : AObj} (G : Nat → Prop) (hn : h.next ≤ h'.next) (ho : o.p h' G) (hG : ∀ k, G k → h.next ≤ k ∧ k < h'.next) (hf : ∀ k, k < h.next → hget h' k = hget h k) : Sep (o :: os) h' := by
  obtain ⟨g, g1, g2, g3⟩ := S
  refine ⟨fun j => Nat.casesOn j G g, fun j x hj => ?_, fun j k hk => ?_, fun j1 j2 k h1 h2 => ?_⟩
  · cases j with
    | zero => cases hj; exact ho
    | succ j => exact x.loc (fun k hk => hf k (g2 j k hk)) (g1 j x hj)
  · cases j with
    | zero => exact (hG k hk).2
    | succ j => have := g2 j k hk; omega
  · cases j1 with
    | zero =>
      cases j2 with
      | zero => rfl
      | succ j2 => have a := hG k h1; have b := g2 j2 k h2; omega
    | succ j1 =>
      cases j2 with
      | zero => have a := hG k h2; have b := g2 j1 k h1; omega
      | succ j2 => rw [g3 j1 j2 k h1 h2]
theorem Sep.on {os : List AObj} {h h' : Hp} (S : Sep os h) (hn : h.next ≤ h'.next) (hf : ∀ k, k < h.next → hget h' k = hget h k) : Sep os h' := by
  obtain ⟨g, g1, g2, g3⟩ := S
  exact ⟨g, fun j x hj => x.loc (fun k hk => hf k (g2 j k hk)) (g1 j x hj), fun j k hk => by have := g2 j k hk; omega, g3⟩
theorem Sep.tail {o : AObj} {os : List AObj} {h : Hp} (S : Sep (o :: os) h) : Sep os h := by
  obtain ⟨g, g1, g2, g3⟩ := S
  exact ⟨fun j => g (j + 1), fun j x hj => g1 (j + 1) x hj, fun j k hk => g2 (j + 1) k hk, fun j1 j2 k h1 h2 => by have := g3 _ _ k h1 h2; omega⟩
theorem Sep.turn {os : List AObj} {h : Hp} (S : Sep os h) {i : Nat} {o o' : AObj} (hi : os[i]? = some o) (f : ∀ G, (∀ k, G k → k < h.next) → o.p h G → o'.p h G) : Sep (os.set i o') h := by
  obtain ⟨G, hp, hb, go⟩ := S.at hi
  exact go h o' G (Nat.le_refl _) (f G hb hp) (fun k hk => .inl hk) fun k hk hn => rfl
def Frz (G0 : Nat → Prop) (h0 : Hp) : AObj where
  p h G := (∀ k, G0 k → G k) ∧ ∀ k, G0 k → hget h k = hget h0 k
  loc := fun hf ⟨h1, h2⟩ => ⟨h1, fun k hk => (hf k (h1 k hk)).trans (h2 k hk)⟩
theorem Sep.freeze {os : List AObj} {h : Hp} (S : Sep os h) {i : Nat} {o : AObj} (hi : os[i]? = some o) : ∃ G : Nat → Prop, o.p h G ∧ (∀ k, G k → k < h.next) ∧ Sep (os.set i (Frz G h)) h := by
  obtain ⟨G, hp, hb, go⟩ := S.at hi
  exact ⟨G, hp, hb, go h _ G (Nat.le_refl _) ⟨fun k hk => hk, fun _ _ => rfl⟩ (fun k hk => .inl hk) fun k hk hn => rfl⟩
theorem Sep.start (h : Hp) : Sep [Frz (fun k => k < h.next) h] h :=
by
  refine ⟨fun i k => i = 0 ∧ k < h.next, fun i o hi => ?_, fun i k hk => hk.2, fun i j k h1 h2 => h1.1.trans h2.1.symm⟩
  cases i with
  | zero => cases hi; exact ⟨fun k hk => ⟨rfl, hk⟩, fun _ _ => rfl⟩
  | succ i => cases hi
theorem Sep.frozen {os : List AObj} {h : Hp} (S : Sep os h) {i : Nat} {G : Nat → Prop} {h0 : Hp} (hi : os[i]? = some (Frz G h0)) {k : Nat} (hk : G k) : k < h.next ∧ hget h k = hget h0 k := by
  obtain ⟨G', hp, hb, go⟩ := S.at hi
  exact ⟨hb k (hp.1 k hk), hp.2 k hk⟩
def blkOf : AV → Option Nat
  | .slice b _ _ _ _ _ => some b
  | _ => none
def BIn (G : Nat → Prop) (h : Hp) (v : AV) (l : List Nat) : Prop := (∃ B, Bytes B h v l) ∧ ∀ b, blkOf v = some b → G b
theorem BIn.nil {G : Nat → Prop} {h : Hp} : BIn G h .nilSlice [] := ⟨⟨0, .nil⟩, fun b e => by cases e⟩
theorem BIn.lt {G : Nat → Prop} {h : Hp} {v : AV} {l : List Nat} (P : BIn G h v l) : ∀ x ∈ l, x < 256 := by
  obtain ⟨⟨B, P⟩, _⟩ := P; exact P.lt
theorem BIn.of {B : Nat} {h : Hp} {v : AV} {l : List Nat} (P : Bytes B h v l) : BIn (fun k => k < B) h v l := by
  refine ⟨⟨B, P⟩, fun b e => ?_⟩
  cases P with
  | nil => cases e
  | sl hB hg hcl hl hm hc hb => cases e; exact hB
theorem BIn.now {os : List AObj} {h : Hp} (S : Sep os h) {i : Nat} {G : Nat → Prop} {h0 : Hp} (hi : os[i]? = some (Frz G h0)) {v : AV} {l : List Nat} (P : BIn G h0 v l) : Bytes h.next h v l := by
  obtain ⟨⟨B, P⟩, hG⟩ := P
  cases P with
  | nil => exact .nil
  | sl hB hg hcl hl hm hc hb =>
    obtain ⟨h1, h2⟩ := S.frozen hi (hG _ rfl)
    exact .sl h1 (h2.trans hg) hcl hl hm hc hb
theorem blkOf_part (v : AV) (lo hi : Nat) : blkOf (partS v lo hi) = blkOf v := by cases v <;> rfl
theorem BIn.part {G : Nat → Prop} {h : Hp} {v : AV} {l : List Nat} (P : BIn G h v l) {lo hi : Nat} (h1 : lo ≤ hi) (h2 : hi ≤ l.length) : BIn G h (partS v lo hi) ((l.take hi).drop lo) := by
  obtain ⟨⟨B, P⟩, hG⟩ := P
  exact ⟨⟨B, P.part h1 h2⟩, fun b e => hG b (by rwa [blkOf_part] at e)⟩
theorem BIn.from {G : Nat → Prop} {h : Hp} {v : AV} {l : List Nat} (P : BIn G h v l) {lo : Nat} (h1 : lo ≤ l.length) : BIn G h (partS v lo l.length) (l.drop lo) := by
  obtain ⟨⟨B, P⟩, hG⟩ := P
  exact ⟨⟨B, part_from P h1⟩, fun b e => hG b (by rwa [blkOf_part] at e)⟩
theorem BIn.to {G : Nat → Prop} {h : Hp} {v : AV} {l : List Nat} (P : BIn G h v l) {hi : Nat} (h1 : hi ≤ l.length) : BIn G h (partS v 0 hi) (l.take hi) := by
  obtain ⟨⟨B, P⟩, hG⟩ := P
  exact ⟨⟨B, part_to P h1⟩, fun b e => hG b (by rwa [blkOf_part] at e)⟩
def Cel (b : Nat) (cs : List AV) : AObj where
  p h G := G b ∧ hget h b = some (.cells cs cs.length .solo)
  loc := fun hf ⟨h1, h2⟩ => ⟨h1, (hf _ h1).trans h2⟩
end Eng
end
section
set_option linter.unusedVariables false
set_option linter.unusedSimpArgs false
namespace Eng
open Go Go.RowKit
inductive OwnI (sz : Nat) (h : Hp) (G : Nat → Prop) : AV → Nat → List AV → Prop
  | nil : OwnI sz h G .nilSlice 0 []
  | sl {b n c : Nat} {ex : Bool} {w : Own} {Lc L : List AV} (hG : G b) (hg : hget h b = some (.cells Lc (c * sz) w)) (hl : Lc.length = c * sz) (hn : n ≤ c) (hL : Lc.take (n * sz) = L)
      (hw : w = .solo ∨ ∃ p, w = .pair p ∧ G p ∧ p ≠ b) : OwnI sz h G (.slice b 0 n c sz ex) n L
theorem OwnI.len {sz : Nat} {h : Hp} {G : Nat → Prop} {v : AV} {n : Nat} {L : List AV} (o : OwnI sz h G v n L) : L.length = n * sz := by
  cases o with
  | nil => simp
  | @sl b n c ex w Lc L hG hg hl hn hL hw =>
    have := Nat.mul_le_mul_right sz hn
    rw [← hL, List.length_take, hl]; omega
def OwnO (sz : Nat) (v : AV) (n : Nat) (L : List AV) : AObj where
  p h G := OwnI sz h G v n L
  loc := fun hf o => by
    cases o with
    | nil => exact .nil
    | sl hG hg hl hn hL hw => exact .sl hG ((hf _ hG).trans hg) hl hn hL hw
theorem own_get {os : List AObj} {h : Hp} (S : Sep os h) {i sz n : Nat} {v : AV} {L : List AV} (hi : os[i]? = some (OwnO sz v n L)) : ∃ G, OwnI sz h G v n L := by
  obtain ⟨G, hp, _⟩ := S.at hi; exact ⟨G, hp⟩
theorem own_new {os : List AObj} {h : Hp} (S : Sep os h) (sz n : Nat) (L : List AV) (ex : Bool) (hl : L.length = n * sz) : Sep (OwnO sz (.slice h.next 0 n n sz ex) n L :: os) (hpush h (mkCells L (n * sz))) :=
  S.add (fun k => k = h.next) (Nat.le_succ _) (.sl rfl (hget_hpush h _) hl (Nat.le_refl _) (List.take_of_length_le (by omega)) (.inl rfl)) (fun k hk => by subst hk; exact ⟨Nat.le_refl _, Nat.lt_succ_self _⟩) fun k hk => hget_hpush_ne h _ (by omega)
theorem OwnI.bytes {h : Hp} {G : Nat → Prop} {s : AV} {n : Nat} {l : List Nat} (o : OwnI 1 h G s n (u8s l)) (hb : ∀ x ∈ l, x < 256) : BIn G h s l := by
  generalize hL : u8s l = L at o
  cases o with
  | nil =>
    cases l with
    | nil => exact .nil
    | cons x l => cases hL
  | @sl b n c ex w Lc L hG hg hl hn hLc hw =>
    subst hL
    have h1 := congrArg List.length hLc
    rw [u8s_length, List.length_take, hl] at h1
    have hnl : l.length = n := by omega
    subst hnl
    exact ⟨⟨b + 1, .sl (Nat.lt_succ_self _) hg hl (by rw [List.drop_zero, ← hLc, Nat.mul_one]) (by omega) hn hb⟩, fun b' e => by cases e; exact hG⟩
end Eng
end
section
set_option linter.unusedVariables false
namespace Eng
open Go
def lastB (x left : Nat) (sg : Bool) : Bool :=
  if x &&& 128 ≠ 0 then false else if sg = false then decide (x / 2 ^ left = 0) else if x / 2 ^ (left - 1) = 0 then true else decide (x / 2 ^ (left - 1) = 127 / 2 ^ (left - 1))
def readG (size : Nat) (sg : Bool) : List Nat → Nat → Nat → Nat → Nat × Nat × Nat
  | [], _, _, _ => (0, 0, 3)
  | x :: l, a, n, v =>
    if size - a ≤ 7 ∧ lastB x (size - a) sg = false then (0, 0, 2)
    else if x &&& 128 ≠ 0 then readG size sg l (a + 7) (n + 1) (v ||| ((x &&& 127) * 2 ^ a % 18446744073709551616))
    else if sg = true ∧ x &&& 64 ≠ 0 ∧ a + 7 < 64 then (v ||| ((x &&& 127) * 2 ^ a % 18446744073709551616) ||| (18446744073709551615 * 2 ^ (a + 7) % 18446744073709551616), n + 1, 0)
    else (v ||| ((x &&& 127) * 2 ^ a % 18446744073709551616), n + 1, 0)
theorem getD_lt {l : List Nat} (hb : ∀ x ∈ l, x < 256) (k : Nat) : l.getD k 0 < 256 := by
  by_cases h : k < l.length
  · rw [List.getD_eq_getElem?_getD, List.getElem?_eq_getElem h]; exact hb _ (List.getElem_mem _)
  · rw [List.getD_eq_getElem?_getD, List.getElem?_eq_none (by omega)]; decide
end Eng
namespace Eng
end Eng
namespace Eng
open Go
def lebU (v : Nat) : List Nat := if h : v < 128 then [v] else (v % 256 ||| 128) :: lebU (v / 128)
termination_by v
decreasing_by omega
end Eng
namespace Eng
open Go
def lebH (v : Nat) : List Nat := if h : v < 128 then [] else (v % 256 ||| 128) :: lebH (v / 128)
termination_by v
decreasing_by omega
def lebL (v : Nat) : Nat := if h : v < 128 then v else lebL (v / 128)
termination_by v
decreasing_by omega
def sIn (w : Int) : Prop := -64 ≤ w ∧ w < 64
instance (w : Int) : Decidable (sIn w) := inferInstanceAs (Decidable (_ ∧ _))
def sebH (w : Int) : List Nat := if h : sIn w then [] else ((w % 256).toNat ||| 128) :: sebH (w / 128)
termination_by w.natAbs
decreasing_by unfold sIn at h; omega
def sebL (w : Int) : Int := if h : sIn w then w else sebL (w / 128)
termination_by w.natAbs
decreasing_by unfold sIn at h; omega
def lebS (w : Int) : List Nat := sebH w ++ [(sebL w % 256).toNat &&& 127]
end Eng
namespace Eng
open Go
def LastS (call : CallT) (f : Nat) : Prop := ∀ (x left : Nat) (s : Bool) (h : Hp), x < 256 → 1 ≤ left → left ≤ 64 → call f [.int .u8 (.ofNat x), .int .i64 (.ofNat left), .bool s] h = .ok (.bool (lastB x left s)) h
def numT (k : IntKind) (r : Nat × Nat × Nat) : AV := .tuple [.int k (.ofNat r.1), .int .i64 (.ofNat r.2.1), .int .i64 (.ofNat r.2.2)]
def ReadS (call : CallT) (f : Nat) (g : Nat → Bool → List Nat → Nat × Nat × Nat) : Prop := ∀ (B : Nat) (h : Hp) (vb : AV) (l : List Nat) (size : Nat) (sg : Bool), Bytes B h vb l → l.length < 90000 → size = 32 ∨ size = 33 ∨ size = 64 →
  call f [vb, .int .i64 (.ofNat size), .bool sg] h = .ok (numT .u64 (g size sg l)) h
def CloneS (call : CallT) (f : Nat) : Prop := ∀ {B : Nat} {h : Hp} {vb : AV} {l : List Nat}, B ≤ h.next → l.length ≤ 1099511627776 → Bytes B h vb l → ∃ v h', call f [vb] h = .ok v h' ∧ Owned 1 B h' v l.length (u8s l) ∧ Old B h h' ∧ B ≤ h'.next
def JoinS (call : CallT) (f : Nat) : Prop := ∀ {B : Nat} {h : Hp} {vb vl : AV} {l m : List Nat}, B ≤ h.next → Bytes B h vb l → Bytes B h vl m → l.length ≤ 1099511627776 → m.length ≤ 1099511627776 →
  ∃ v h', call f [vb, vl] h = .ok v h' ∧ Owned 1 B h' v (l.length + m.length) (u8s (l ++ m)) ∧ Old B h h' ∧ B ≤ h'.next
def PutUS (call : CallT) (f : Nat) : Prop := ∀ {B : Nat} {h : Hp} {vb : AV} {l : List Nat} {v : Nat}, B ≤ h.next → Bytes B h vb l → l.length ≤ 1099511627776 → v < 18446744073709551616 →
  ∃ rv rh, call f [vb, .int .u64 (.ofNat v)] h = .ok rv rh ∧ Owned 1 B rh rv (l.length + (lebU v).length) (u8s (l ++ lebU v)) ∧ Old B h rh ∧ B ≤ rh.next
def PutSS (call : CallT) (f : Nat) : Prop := ∀ {B : Nat} {h : Hp} {vb : AV} {l : List Nat} {v : Int}, B ≤ h.next → Bytes B h vb l → l.length ≤ 1099511627776 → (-9223372036854775808 ≤ v ∧ v < 9223372036854775808) →
  ∃ rv rh, call f [vb, .int .i64 v] h = .ok rv rh ∧ Owned 1 B rh rv (l.length + (lebS v).length) (u8s (l ++ lebS v)) ∧ Old B h rh ∧ B ≤ rh.next
def TrueS (call : CallT) (f : Nat) : Prop := ∀ h : Hp, call f [] h = .ok (.bool true) h
theorem again_of {o : QOp} {h : Hp} {v : AV} (e : evQ o .lf h = .ok v) (r : avEq v v = true) : again o .lf v h = true := by
  show (evQ o .lf h).cs false (fun v' => avEq v v') = true
  rw [e]; exact r
theorem strEq_self (s : List Nat) : strEq s s = true := by rw [strEq_iff]; simp
theorem avEq_str (s : List Nat) : avEq (.str s) (.str s) = true := strEq_self s
theorem avEq_bool (b : Bool) : avEq (.bool b) (.bool b) = true := by cases b <;> rfl
theorem beq_self (n : Nat) : Nat.beq n n = true := Nat.beq_refl n
theorem avEq_slice (b o l c s : Nat) (e : Bool) : avEq (.slice b o l c s e) (.slice b o l c s e) = true := by
  show bc (Nat.beq b b) (bc (Nat.beq o o) (bc (Nat.beq l l) (bc (Nat.beq c c) (bc (Nat.beq s s) (bc e e (notB e)) false) false) false) false) false = true
  simp only [beq_self, bc_eq, if_true]
  cases e <;> rfl
theorem Owned.same {sz B n : Nat} {h : Hp} {v : AV} {L : List AV} (o : Owned sz B h v n L) : avEq v v = true := by
  cases o with
  | nil => rfl
  | sl => exact avEq_slice ..
theorem Bytes.same {B : Nat} {h : Hp} {v : AV} {l : List Nat} (o : Bytes B h v l) : avEq v v = true := by
  cases o with
  | nil => rfl
  | sl => exact avEq_slice ..
theorem evF_at {M : Nat → Option (List AV → Hp → RV)} {S : Nat → Option AF} {N d f : Nat} (hM : M f = none) (args : List AV) (h : Hp) : evF M S N (d + 1) f args h = evF1 S N (evF M S N d) f args h := by
  show ocase (evF1 S N (evF M S N d) f args h) (fun m => m args h) (M f) = _
  rw [hM]; rfl
theorem evF_sum {S : Nat → Option AF} {N d : Nat} {l : List Nat} {f : Nat} (hf : f ∈ l) : TrueS (evF (sumT l) S N (d + 1)) f := fun h => by
  show ocase (evF1 S N (evF (sumT l) S N d) f [] h) (fun m => m [] h) (bc (lall (fun g => notB (Nat.beq g f)) l) none (some fun args h => lcase (RV.ok (.bool true) h) (fun _ _ => RV.no) args)) = _
  have hb : lall (fun g => notB (Nat.beq g f)) l = false := by
    cases hh : lall (fun g => notB (Nat.beq g f)) l with
    | false => rfl
    | true =>
      have := lall_iff.1 hh f hf
      rw [Nat.beq_refl] at this; cases this
  rw [hb]; rfl
theorem sumT_none {l : List Nat} {f : Nat} (hf : lall (fun g => notB (Nat.beq g f)) l = true) : sumT l f = none := by unfold sumT; rw [hf]; rfl
end Eng
namespace Eng
theorem strEq_t {a b : List Nat} (h : strEq a b = true) : a = b := by rw [strEq_iff] at h; simpa using h
theorem strEq_f {a b : List Nat} (h : strEq a b = false) : a ≠ b := by rw [strEq_iff] at h; simpa using h
end Eng
namespace Eng
open Go
end Eng
namespace Eng
open Go
noncomputable def sInt (k : IntKind) (n : Nat) : Int := wrapA k (.ofNat n)
def NumS (call : CallT) (f : Nat) (size : Nat) (sg : Bool) (k : IntKind) (v : Nat → Int) : Prop := ∀ {B : Nat} {h : Hp} {vb : AV} {l : List Nat}, Bytes B h vb l → l.length < 90000 →
  call f [vb] h = .ok (.tuple [.int k (v (readG size sg l 0 0 0).1), .int .i64 (.ofNat (readG size sg l 0 0 0).2.1), .int .i64 (.ofNat (readG size sg l 0 0 0).2.2)]) h
end Eng
end
section
set_option linter.unusedVariables false
set_option linter.unusedSimpArgs false
namespace Eng
open Go Go.RowKit
theorem BIn.cell {G : Nat → Prop} {h : Hp} {v : AV} {l : List Nat} (P : BIn G h v l) : isCell v = true := by
  obtain ⟨⟨B, P⟩, _⟩ := P; cases P <;> rfl
theorem BIn.cells {G : Nat → Prop} {h : Hp} {v : AV} {l : List Nat} (P : BIn G h v l) : cellsOf v = [v] := by
  obtain ⟨⟨B, P⟩, _⟩ := P; cases P <;> rfl
theorem BIn.same {G : Nat → Prop} {h : Hp} {v : AV} {l : List Nat} (P : BIn G h v l) : avEq v v = true := by
  obtain ⟨⟨B, P⟩, _⟩ := P; exact P.same
theorem all_cell {x : AV} {l : List AV} (h1 : isCell x = true) (h2 : ∀ y ∈ l, isCell y = true) : ∀ y ∈ x :: l, isCell y = true := fun y hy => by
  rcases List.mem_cons.1 hy with e | e
  · rw [e]; exact h1
  · exact h2 y e
theorem all_cell0 : ∀ y ∈ ([] : List AV), isCell y = true := fun y hy => by cases hy
def avN (i : Nat) : AV → AV
  | .tuple l => l.getD i .nilPtr
  | v => v
end Eng
end
section
set_option linter.unusedVariables false
set_option linter.unusedSimpArgs false
namespace Eng
open Go Go.RowKit Go.ChangeShapes Go.WideShapes
section
variable {H : Type} {enc : TypeId × Value → H} {P : Program} {W : World}
theorem bytes_argW {t e : TypeId} {v : Value} {d : DataW H} {p : List MemPlace} {base : Nat} (ht : P.underlying t = some (.slice e)) (he : P.underlying e = some (.int .u8)) (hc : P.cellsOf e = 1) (hb : P.bytesOf e = 1)
    (hw : ∀ n ∈ d.weights P t, n ≤ reachBytes) (h0 : DataW.Trod enc P W 0 (fun _ => true) true t v d p) (hv : Value.okWide P W .any base t v) : ∃ a : BArg, a.v = v ∧ a.lies W ∧ a.l.length ≤ 140737488351232 := by
  obtain ⟨a, h1, h2, h3, h4⟩ := bytes_arg ht he hc h0 hv
  refine ⟨a, h1, h2, ?_⟩
  rcases h4 with h4 | ⟨es, sp, rfl, h4⟩
  · rw [h4]; exact Nat.zero_le _
  · have := hw ((es.length + sp.length) * P.bytesOf e) (by simp [DataW.weights, ht])
    rw [hb] at this
    have h5 : reachBytes = 140737488351232 := rfl
    omega
end
end Eng
end
section
set_option linter.unusedVariables false
set_option linter.unusedSimpArgs false
namespace Eng
open Go Go.RowKit
def gd {α : Type} (p : Prop) [Decidable p] (o : Option α) : Option α := if p then o else none
theorem gd_inv {α : Type} {p : Prop} [Decidable p] {o : Option α} {r : α} (h : gd p o = some r) : p ∧ o = some r := by
  unfold gd at h
  split at h
  · exact ⟨‹_›, h⟩
  · cases h
theorem gd_t {α : Type} {p : Prop} [Decidable p] {o : Option α} (h : p) : gd p o = o := if_pos h
def ob {α β : Type} (o : Option α) (f : α → Option β) : Option β := match o with | none => none | some x => f x
theorem ob_inv {α β : Type} {o : Option α} {f : α → Option β} {r : β} (h : ob o f = some r) : ∃ x, o = some x ∧ f x = some r := by
  cases o with
  | none => cases h
  | some x => exact ⟨x, rfl, h⟩
theorem ob_some {α β : Type} {x : α} {f : α → Option β} : ob (some x) f = f x := rfl
theorem ob_of {α β : Type} {o : Option α} {x : α} {f : α → Option β} (h : o = some x) : ob o f = f x := by rw [h]; rfl
inductive LO (S R : Type) where
  | ex (s : S)
  | rt (r : R)
def LO.on {S R β : Type} (o : LO S R) (f : S → β) (g : R → β) : β := match o with | .ex s => f s | .rt r => g r
theorem LO.on_ex {S R β : Type} {s : S} {f : S → β} {g : R → β} : (LO.ex s : LO S R).on f g = f s := rfl
theorem LO.on_rt {S R β : Type} {r : R} {f : S → β} {g : R → β} : (LO.rt r : LO S R).on f g = g r := rfl
theorem ift {α : Type} {p : Prop} [Decidable p] {a b : Option α} {r : α} (h : (if p then a else b) = some r) (c : p) : a = some r := by rwa [if_pos c] at h
theorem iff0 {α : Type} {p : Prop} [Decidable p] {a b : Option α} {r : α} (h : (if p then a else b) = some r) (c : ¬ p) : b = some r := by rwa [if_neg c] at h
theorem nltO {a b : Nat} (h : b ≤ a) : ¬ a < b := Nat.not_lt.2 h
theorem nleO {a b : Nat} (h : b < a) : ¬ a ≤ b := Nat.not_le.2 h
theorem nneO {α : Sort _} {a b : α} (h : a = b) : ¬ a ≠ b := fun g => g h
abbrev Up (G : Nat → Prop) (h : Hp) (G' : Nat → Prop) (h' : Hp) : Prop := ∀ k, G k → G' k ∧ hget h' k = hget h k
abbrev Low (h : Hp) : Nat → Prop := fun k => k < h.next
theorem Up.refl (G : Nat → Prop) (h : Hp) : Up G h G h := fun k hk => ⟨hk, rfl⟩
theorem Up.trans {G G' G'' : Nat → Prop} {h h' h'' : Hp} (a : Up G h G' h') (b : Up G' h' G'' h'') : Up G h G'' h'' := fun k hk => ⟨(b k (a k hk).1).1, (b k (a k hk).1).2.trans (a k hk).2⟩
theorem Sep.low {os : List AObj} {h : Hp} (S : Sep os h) {i : Nat} {G : Nat → Prop} {h0 : Hp} (hi : os[i]? = some (Frz G h0)) : Up G h0 (Low h) h := fun k hk => S.frozen hi hk
theorem BIn.up {G G' : Nat → Prop} {h h' : Hp} {v : AV} {l : List Nat} (u : Up G h G' h') (P : BIn G h v l) : BIn G' h' v l := by
  obtain ⟨⟨B, P⟩, hG⟩ := P
  cases P with
  | nil => exact .nil
  | sl hB hg hcl hl hm hc hb =>
    obtain ⟨h1, h2⟩ := u _ (hG _ rfl)
    exact ⟨⟨_, .sl (Nat.lt_succ_self _) (h2.trans hg) hcl hl hm hc hb⟩, fun b e => by cases e; exact h1⟩
theorem Sep.empty {os : List AObj} {h : Hp} (S : Sep os h) : Sep (Frz (fun _ => False) h :: os) h :=
  S.add (fun _ => False) (Nat.le_refl _) ⟨fun _ e => e, fun _ e => e.elim⟩ (fun _ e => e.elim) fun _ _ => rfl
theorem Sep.call {os news : List AObj} {h rh : Hp} (S : Sep os h) (S' : Sep (news ++ [Frz (Low h) h]) rh) : Sep (news ++ os) rh := by
  have hi : (news ++ [Frz (Low h) h])[news.length]? = some (Frz (Low h) h) := by simp
  have fz : ∀ k, k < h.next → k < rh.next ∧ hget rh k = hget h k := fun k hk => S'.frozen hi hk
  obtain ⟨g, g1, g2, g3⟩ := S
  obtain ⟨f, f1, f2, f3⟩ := S'
  have fn : ∀ k, k < h.next → f news.length k := (f1 _ _ hi).1
  have fne : ∀ i k, i < news.length → f i k → ¬ k < h.next := fun i k hi' hf hk => by have := f3 _ _ k hf (fn k hk); omega
  refine ⟨fun j => if j < news.length then f j else g (j - news.length), fun j x hj => ?_, fun j k hk => ?_, fun j1 j2 k a b => ?_⟩
  · by_cases hlt : j < news.length
    · show x.p rh (if j < news.length then f j else g (j - news.length))
      rw [if_pos hlt]
      exact f1 j x (by rw [List.getElem?_append_left hlt] at hj ⊢; exact hj)
    · show x.p rh (if j < news.length then f j else g (j - news.length))
      rw [if_neg hlt]
      rw [List.getElem?_append_right (Nat.not_lt.1 hlt)] at hj
      exact x.loc (fun k hk => (fz k (g2 _ k hk)).2) (g1 _ x hj)
  · by_cases hlt : j < news.length
    · have hk : (if j < news.length then f j else g (j - news.length)) k := hk
      rw [if_pos hlt] at hk; exact f2 j k hk
    · have hk : (if j < news.length then f j else g (j - news.length)) k := hk
      rw [if_neg hlt] at hk; exact (fz k (g2 _ k hk)).1
  · have a : (if j1 < news.length then f j1 else g (j1 - news.length)) k := a
    have b : (if j2 < news.length then f j2 else g (j2 - news.length)) k := b
    by_cases h1 : j1 < news.length
    · rw [if_pos h1] at a
      by_cases h2 : j2 < news.length
      · rw [if_pos h2] at b; exact f3 _ _ k a b
      · rw [if_neg h2] at b; exact absurd (g2 _ k b) (fne _ k h1 a)
    · rw [if_neg h1] at a
      by_cases h2 : j2 < news.length
      · rw [if_pos h2] at b; exact absurd (g2 _ k a) (fne _ k h2 b)
      · rw [if_neg h2] at b; have := g3 _ _ k a b; omega
structure Rep (α : Type) where
  sz : Nat
  rep : (Nat → Prop) → Hp → List AV → α → Prop
  len : ∀ {G h cs x}, rep G h cs x → cs.length = sz
  cell : ∀ {G h cs x}, rep G h cs x → ∀ c ∈ cs, isCell c = true
  up : ∀ {G h G' h' cs x}, Up G h G' h' → rep G h cs x → rep G' h' cs x
def rU (k : IntKind) : Rep Nat where
  sz := 1
  rep _ _ cs x := cs = [.int k (.ofNat x)] ∧ x < modK k
  len := fun ⟨e, _⟩ => by rw [e]; rfl
  cell := fun ⟨e, _⟩ => by rw [e]; exact all_cell rfl all_cell0
  up := fun _ e => e
def rN (k : IntKind) : Rep Nat where
  sz := 1
  rep _ _ cs x := cs = [.int k (.ofNat x)] ∧ x < 9223372036854775808
  len := fun ⟨e, _⟩ => by rw [e]; rfl
  cell := fun ⟨e, _⟩ => by rw [e]; exact all_cell rfl all_cell0
  up := fun _ e => e
def rZ (k : IntKind) : Rep Int where
  sz := 1
  rep _ _ cs x := cs = [.int k x]
  len := fun e => by rw [e]; rfl
  cell := fun e => by rw [e]; exact all_cell rfl all_cell0
  up := fun _ e => e
def rN0 (k : IntKind) : Rep Nat where
  sz := 1
  rep _ _ cs x := cs = [.int k (.ofNat x)]
  len := fun e => by rw [e]; rfl
  cell := fun e => by rw [e]; exact all_cell rfl all_cell0
  up := fun _ e => e
def rB : Rep Bool where
  sz := 1
  rep _ _ cs x := cs = [.bool x]
  len := fun e => by rw [e]; rfl
  cell := fun e => by rw [e]; exact all_cell rfl all_cell0
  up := fun _ e => e
def rS : Rep (List Nat) where
  sz := 1
  rep _ _ cs x := cs = [.str x]
  len := fun e => by rw [e]; rfl
  cell := fun e => by rw [e]; exact all_cell rfl all_cell0
  up := fun _ e => e
def rY : Rep (List Nat) where
  sz := 1
  rep G h cs x := ∃ v, cs = [v] ∧ BIn G h v x
  len := fun ⟨v, e, _⟩ => by rw [e]; rfl
  cell := fun ⟨v, e, p⟩ => by rw [e]; exact all_cell p.cell all_cell0
  up := fun u ⟨v, e, p⟩ => ⟨v, e, p.up u⟩
def rP {α β : Type} (a : Rep α) (b : Rep β) : Rep (α × β) where
  sz := a.sz + b.sz
  rep G h cs x := ∃ c d, cs = c ++ d ∧ a.rep G h c x.1 ∧ b.rep G h d x.2
  len := fun ⟨c, d, e, p, q⟩ => by rw [e, List.length_append, a.len p, b.len q]
  cell := fun ⟨c, d, e, p, q⟩ => by
    rw [e]; intro x hx
    rcases List.mem_append.1 hx with hx | hx
    · exact a.cell p x hx
    · exact b.cell q x hx
  up := fun u ⟨c, d, e, p, q⟩ => ⟨c, d, e, a.up u p, b.up u q⟩
def Rows {α : Type} (a : Rep α) (G : Nat → Prop) (h : Hp) : List AV → List α → Prop
  | L, [] => L = []
  | L, x :: xs => ∃ c M, L = c ++ M ∧ a.rep G h c x ∧ Rows a G h M xs
theorem Rows.len {α : Type} {a : Rep α} {G : Nat → Prop} {h : Hp} : ∀ {xs : List α} {L : List AV}, Rows a G h L xs → L.length = xs.length * a.sz
  | [], L, e => by rw [show L = [] from e]; simp
  | x :: xs, L, ⟨c, M, e, p, q⟩ => by rw [e, List.length_append, a.len p, Rows.len q, List.length_cons, Nat.succ_mul]; omega
theorem Rows.cell {α : Type} {a : Rep α} {G : Nat → Prop} {h : Hp} : ∀ {xs : List α} {L : List AV}, Rows a G h L xs → ∀ c ∈ L, isCell c = true
  | [], L, e => by rw [show L = [] from e]; exact all_cell0
  | x :: xs, L, ⟨c, M, e, p, q⟩ => by
    rw [e]; intro y hy
    rcases List.mem_append.1 hy with hy | hy
    · exact a.cell p y hy
    · exact Rows.cell q y hy
theorem Rows.up {α : Type} {a : Rep α} {G G' : Nat → Prop} {h h' : Hp} (u : Up G h G' h') : ∀ {xs : List α} {L : List AV}, Rows a G h L xs → Rows a G' h' L xs
  | [], L, e => e
  | x :: xs, L, ⟨c, M, e, p, q⟩ => ⟨c, M, e, a.up u p, Rows.up u q⟩
theorem Rows.append {α : Type} {a : Rep α} {G : Nat → Prop} {h : Hp} : ∀ {xs ys : List α} {L M : List AV}, Rows a G h L xs → Rows a G h M ys → Rows a G h (L ++ M) (xs ++ ys)
  | [], ys, L, M, e, q => by rw [show L = [] from e]; exact q
  | x :: xs, ys, L, M, ⟨c, N, e, p, q⟩, r => ⟨c, N ++ M, by rw [e, List.append_assoc], p, Rows.append q r⟩
theorem Rows.one {α : Type} {a : Rep α} {G : Nat → Prop} {h : Hp} {x : α} {c : List AV} (p : a.rep G h c x) : Rows a G h c [x] := ⟨c, [], (List.append_nil c).symm, p, rfl⟩
theorem Rows.get {α : Type} [Inhabited α] {a : Rep α} {G : Nat → Prop} {h : Hp} : ∀ {xs : List α} {L : List AV} {k : Nat}, Rows a G h L xs → k < xs.length → a.rep G h ((L.drop (k * a.sz)).take a.sz) (xs.getD k default)
  | [], L, k, _, hk => absurd hk (Nat.not_lt_zero _)
  | x :: xs, L, 0, ⟨c, M, e, p, q⟩, hk => by
    rw [Nat.zero_mul, List.drop_zero, e, List.take_append_of_le_length (by rw [a.len p]; exact Nat.le_refl _), List.take_of_length_le (by rw [a.len p]; exact Nat.le_refl _)]
    exact p
  | x :: xs, L, k + 1, ⟨c, M, e, p, q⟩, hk => by
    have hd : L.drop ((k + 1) * a.sz) = M.drop (k * a.sz) := by
      rw [e, List.drop_append, List.drop_of_length_le (by rw [a.len p, Nat.succ_mul]; omega), List.nil_append, a.len p]
      congr 1; rw [Nat.succ_mul]; omega
    rw [hd]
    exact Rows.get q (by simpa using hk)
inductive SIn {α : Type} (a : Rep α) (G : Nat → Prop) (h : Hp) : AV → List α → Prop
  | nil : SIn a G h .nilSlice []
  | sl {b o c : Nat} {ex : Bool} {cs : List AV} {m : Nat} {w : Own} {xs : List α} (hG : G b) (hg : hget h b = some (.cells cs m w)) (hcl : cs.length = m) (hm : o + xs.length * a.sz ≤ m) (hc : xs.length ≤ c)
      (hr : Rows a G h ((cs.drop o).take (xs.length * a.sz)) xs) : SIn a G h (.slice b o xs.length c a.sz ex) xs
theorem SIn.up {α : Type} {a : Rep α} {G G' : Nat → Prop} {h h' : Hp} {v : AV} {xs : List α} (u : Up G h G' h') (P : SIn a G h v xs) : SIn a G' h' v xs := by
  cases P with
  | nil => exact .nil
  | sl hG hg hcl hm hc hr => exact .sl (u _ hG).1 ((u _ hG).2.trans hg) hcl hm hc (hr.up u)
theorem SIn.cell {α : Type} {a : Rep α} {G : Nat → Prop} {h : Hp} {v : AV} {xs : List α} (P : SIn a G h v xs) : isCell v = true := by cases P <;> rfl
theorem SIn.cells {α : Type} {a : Rep α} {G : Nat → Prop} {h : Hp} {v : AV} {xs : List α} (P : SIn a G h v xs) : cellsOf v = [v] := by cases P <;> rfl
theorem SIn.same {α : Type} {a : Rep α} {G : Nat → Prop} {h : Hp} {v : AV} {xs : List α} (P : SIn a G h v xs) : avEq v v = true := by
  cases P with
  | nil => rfl
  | sl => exact avEq_slice ..
def rL {α : Type} (a : Rep α) : Rep (List α) where
  sz := 1
  rep G h cs x := ∃ v, cs = [v] ∧ SIn a G h v x
  len := fun ⟨v, e, _⟩ => by rw [e]; rfl
  cell := fun ⟨v, e, p⟩ => by rw [e]; exact all_cell p.cell all_cell0
  up := fun u ⟨v, e, p⟩ => ⟨v, e, p.up u⟩
noncomputable def elemO (v : AV) (k sz off : Nat) : AV := v.asSlice .nilPtr .nilPtr fun b o _ _ _ _ => .ptr b (o + k * sz + off)
def RowAt (G : Nat → Prop) (h : Hp) (v : AV) (k sz : Nat) (cs : List AV) : Prop :=
  ∃ b o n c ex L m w, v = .slice b o n c sz ex ∧ G b ∧ hget h b = some (.cells L m w) ∧ L.length = m ∧ o + k * sz + sz ≤ m ∧ (L.drop (o + k * sz)).take sz = cs
end Eng
end
section
set_option linter.unusedVariables false
set_option linter.unusedSimpArgs false
namespace Eng
open Go Go.RowKit
theorem cut_shl (a n b : Nat) (h : a * 2 ^ n < 2 ^ (b - 1)) (hb : 0 < b) : a * 2 ^ cut n b = a * 2 ^ n := by
  rw [cut_eq]
  rcases Nat.le_total n b with hn | hn
  · rw [Nat.min_eq_left hn]
  · rw [Nat.min_eq_right hn]
    cases a with
    | zero => simp
    | succ a =>
      exfalso
      have h1 : 2 ^ b ≤ 2 ^ n := Nat.pow_le_pow_right (by decide) hn
      have h2 : 2 ^ (b - 1) ≤ 2 ^ b := Nat.pow_le_pow_right (by decide) (by omega)
      have h3 : 2 ^ n ≤ (a + 1) * 2 ^ n := Nat.le_mul_of_pos_left _ (Nat.succ_pos _)
      omega
theorem wrap_i32 {n : Nat} (h : n < 2147483648) : wrapA .i32 (.ofNat n) = .ofNat n := by
  show bc (Nat.blt n 2147483648) (Int.ofNat n) _ = _
  rw [blt_dec, decide_eq_true h]; rfl
theorem i32_shl {j : IntKind} {a n : Nat} (h : a * 2 ^ n < 2147483648) : evQ (.bin .shl (.const (.int .i32 (.ofNat a))) (.const (.int j (.ofNat n)))) .lf H0 = .ok (.int .i32 (.ofNat (a * 2 ^ n))) := by
  show OV.ok (.int .i32 (wrapA .i32 (.ofNat (a * 2 ^ cut n 32)))) = _
  rw [cut_shl a n 32 h (by decide), wrap_i32 h]
theorem i32_and {a b : Nat} (ha : a < 2147483648) (hb : b < 2147483648) : evQ (.bin .and (.const (.int .i32 (.ofNat a))) (.const (.int .i32 (.ofNat b)))) .lf H0 = .ok (.int .i32 (.ofNat (a &&& b))) := by
  show OV.ok (.int .i32 (wrapA .i32 (.ofNat (Nat.land (a % 4294967296) (b % 4294967296))))) = _
  rw [Nat.mod_eq_of_lt (by omega), Nat.mod_eq_of_lt (by omega)]
  show OV.ok (.int .i32 (wrapA .i32 (.ofNat (a &&& b)))) = _
  rw [wrap_i32 (Nat.lt_of_le_of_lt Nat.and_le_left ha)]
theorem i32_or {a b : Nat} (ha : a < 2147483648) (hb : b < 2147483648) : evQ (.bin .or (.const (.int .i32 (.ofNat a))) (.const (.int .i32 (.ofNat b)))) .lf H0 = .ok (.int .i32 (.ofNat (a ||| b))) := by
  show OV.ok (.int .i32 (wrapA .i32 (.ofNat (Nat.lor (a % 4294967296) (b % 4294967296))))) = _
  rw [Nat.mod_eq_of_lt (by omega), Nat.mod_eq_of_lt (by omega)]
  show OV.ok (.int .i32 (wrapA .i32 (.ofNat (a ||| b)))) = _
  rw [wrap_i32 (Nat.or_lt_two_pow (n := 31) ha hb)]
theorem i32_conv {j : IntKind} {a : Nat} (ha : a < 2147483648) : evQ (.toInt .i32 (.const (.int j (.ofNat a)))) .lf H0 = .ok (.int .i32 (.ofNat a)) := by
  show OV.ok (.int .i32 (wrapA .i32 (.ofNat a))) = _
  rw [wrap_i32 ha]
theorem eqB_t {a b : Bool} (h : bc a b (notB b) = true) : a = b := by cases a <;> cases b <;> first | rfl | cases h
theorem eqB_f {a b : Bool} (h : bc a b (notB b) = false) : a ≠ b := by cases a <;> cases b <;> first | decide | cases h
theorem RowAt.up {G G' : Nat → Prop} {h h' : Hp} {v : AV} {k sz : Nat} {cs : List AV} (u : Up G h G' h') (R : RowAt G h v k sz cs) : RowAt G' h' v k sz cs := by
  obtain ⟨b, o, n, c, ex, L, m, w, e, hG, hg, r⟩ := R
  exact ⟨b, o, n, c, ex, L, m, w, e, (u b hG).1, ((u b hG).2).trans hg, r⟩
end Eng
end
section
set_option linter.unusedVariables false
set_option linter.unusedSimpArgs false
namespace Eng
open Go Go.RowKit
theorem Rows.take1 {α : Type} {a : Rep α} {G : Nat → Prop} {h : Hp} : ∀ {xs : List α} {L : List AV} (k : Nat), Rows a G h L xs → Rows a G h (L.take (k * a.sz)) (xs.take k)
  | [], L, k, r => by rw [show L = [] from r]; simp; exact rfl
  | z :: xs, L, 0, _ => by simp; exact rfl
  | z :: xs, L, k + 1, ⟨c, M, e, p, q⟩ => by
    subst e
    refine ⟨c, M.take (k * a.sz), ?_, p, Rows.take1 k q⟩
    rw [List.take_append, List.take_of_length_le (by rw [a.len p, Nat.succ_mul]; omega), a.len p]
    congr 2; rw [Nat.succ_mul]; omega
end Eng
namespace Eng
open Go Go.RowKit
end Eng
namespace Eng
open Go Go.RowKit
theorem TwinAt.now {os : List AObj} {h h0 : Hp} {v : AV} {l : List Nat} (S : Sep os h) {i : Nat} (hi : os[i]? = some (Frz (Low h0) h0)) (t : TwinAt h0 v l) : TwinAt h v l := by
  obtain ⟨b, w, e, hb, hg, hl⟩ := t
  obtain ⟨h1, h2⟩ := S.frozen hi hb
  exact ⟨b, w, e, h1, h2.trans hg, hl⟩
end Eng
end
section
set_option linter.unusedVariables false
set_option linter.unusedSimpArgs false
namespace Eng
open Go Go.RowKit
theorem runes_told {l : List Nat} (h : l.length ≤ 70368744177664) : evL (.runes (.const (.str l))) .lf = .ok (.sl (decs l.length l).length (decs l.length l).length 1 false) (mkCells (i32s (decs l.length l)) (decs l.length l).length) := by
  show bc (Nat.ble (len l) 70368744177664) (OL.ok (.sl (len (decs (len l) l)) (len (decs (len l) l)) 1 false) (mkCells (i32s (decs (len l) l)) (len (decs (len l) l)))) .no = _
  have : Nat.ble (len l) 70368744177664 = true := by rw [len_eq, ble_dec]; simpa using h
  rw [this, len_eq, len_eq]; rfl
theorem i32s_length (rs : List Nat) : (i32s rs).length = rs.length := by rw [i32s_eq, List.length_map]
theorem runes_new {os : List AObj} {h : Hp} (S : Sep os h) (rs : List Nat) : Sep (OwnO 1 (.slice h.next 0 rs.length rs.length 1 false) rs.length (i32s rs) :: os) (hpush h (mkCells (i32s rs) rs.length)) := by
  have := own_new S 1 rs.length (i32s rs) false (by rw [i32s_length, Nat.mul_one])
  rw [Nat.mul_one] at this
  exact this
theorem isR_of {n : Nat} (h : okC n) : isR (.int .i32 (.ofNat n)) = true := by
  show bc (Nat.blt n 55296) true (bc (Nat.ble 57344 n) (Nat.ble n 1114111) false) = true
  unfold okC at h
  by_cases h1 : n < 55296
  · rw [show Nat.blt n 55296 = true by rw [blt_dec]; simpa using h1]; rfl
  · rw [show Nat.blt n 55296 = false by rw [blt_dec]; simpa using h1, show Nat.ble 57344 n = true by rw [ble_dec]; simp; omega, show Nat.ble n 1114111 = true by rw [ble_dec]; simp; omega]; rfl
theorem lall_runes : ∀ {rs : List Nat}, (∀ c ∈ rs, okC c) → lall isR (i32s rs) = true
  | [], _ => rfl
  | c :: rs, h => by
    show bc (isR (.int .i32 (.ofNat c))) (lall isR (i32s rs)) false = true
    rw [isR_of (h c (by simp)), lall_runes fun x hx => h x (by simp [hx])]; rfl
theorem lmap_runes (rs : List Nat) : lmap rOf (i32s rs) = rs := by
  rw [lmap_eq, i32s_eq, List.map_map]
  have : (rOf ∘ fun n => AV.int .i32 (.ofNat n)) = id := rfl
  rw [this, List.map_id]
theorem own_ofRunes {os : List AObj} {h : Hp} (S : Sep os h) {i n : Nat} {v : AV} {rs : List Nat} (hi : os[i]? = some (OwnO 1 v n (i32s rs))) (ok : ∀ c ∈ rs, okC c) : evQ (.ofRunes (.const v)) .lf h = .ok (.str (rs.flatMap encL)) := by
  obtain ⟨G, o⟩ := own_get S hi
  generalize hL : i32s rs = L at o
  cases o with
  | nil =>
    have : rs = [] := by
      cases rs with
      | nil => rfl
      | cons a l => cases hL
    subst this; rfl
  | @sl b n c ex w Lc L hG hg hl hn hLc hw =>
    show bc (Nat.beq 1 1) (rdN h b 0 n OV.no fun cs => bc (lall isR cs) (.ok (.str ((lmap rOf cs).flatMap encL))) .no) .no = _
    rw [rdN_of hg (by omega) hl, List.drop_zero]
    rw [Nat.mul_one] at hLc
    rw [hLc, ← hL, lall_runes ok, lmap_runes]; rfl
end Eng
end
section
set_option linter.unusedVariables false
set_option linter.unusedSimpArgs false
namespace Eng
open Go
def digU : Nat → Nat → List Nat
  | 0, v => [v % 128]
  | n + 1, v => (v % 128 ||| 128) :: digU n (v / 128)
def digS : Nat → Int → List Nat
  | 0, w => [(w % 128).toNat]
  | n + 1, w => ((w % 128).toNat ||| 128) :: digS n (w / 128)
end Eng
namespace Eng
open Go
end Eng
namespace Eng
open Go
end Eng
namespace Eng
open Go
end Eng
namespace Eng
open Go
def stepL (l : List Nat) (e : Nat) : List Nat := l.set (l.length - 1) (l.getD (l.length - 1) 0 ||| 128) ++ [e]
def longerL (e : Nat) : Nat → List Nat → List Nat
  | 0, l => l
  | k + 1, l => longerL e k (stepL l e)
def LongerS (call : CallT) (f : Nat) : Prop := ∀ {B : Nat} {h : Hp} {vb : AV} {l : List Nat} {k e : Nat}, B ≤ h.next → Bytes B h vb l → 1 ≤ l.length → l.length ≤ 100 → k ≤ 7 → e < 256 →
  ∃ rv rh, call f [vb, .int .i64 (.ofNat k), .int .u8 (.ofNat e)] h = .ok rv rh ∧ Owned 1 B rh rv (l.length + k) (u8s (longerL e k l)) ∧ Old B h rh ∧ B ≤ rh.next
end Eng
namespace Eng
open Go
end Eng
namespace Eng
open Go
end Eng
namespace Eng
open Go
def placeN (c : Int) (n : Nat) : Nat := (c % (n : Int)).toNat
def PlaceS (call : CallT) (f : Nat) : Prop := ∀ (c : Int) (n : Nat) (h : Hp), -9223372036854775808 ≤ c ∧ c < 9223372036854775808 → 1 ≤ n → n < 4611686018427387904 → call f [.int .i64 c, .int .i64 (.ofNat n)] h = .ok (.int .i64 (.ofNat (placeN c n))) h
end Eng
end
section
set_option linter.unusedVariables false
namespace Go.Proofs.Ytejiebbbodealaa
open Go Eng
noncomputable def readC : AC := (.seq (.block 1 (.seq (.seq (.region [⟨(some 14), .q (.move (.tmp 7)), none⟩, ⟨(some 15), .q (.move (.tmp 0)), none⟩, ⟨(some 16), .q (.lenL (.tmp 15)), none⟩, ⟨(some 17), .q (.eq .int false (.tmp 14) (.tmp 16)), none⟩]) (.cond (.tmp 17) (.seq (.region [⟨(some 6), .q (.move (.const (AV.int .u64 (Int.ofNat 0)))), none⟩, ⟨(some 7), .q (.move (.const (AV.int .i64 (Int.ofNat 0)))), none⟩, ⟨(some 8), .q (.move (.const (AV.int .i64 (Int.ofNat 3)))), none⟩]) .ret) .skip)) (.seq (.region [⟨(some 18), .q (.move (.tmp 0)), none⟩, ⟨(some 19), .q (.move (.tmp 7)), none⟩, ⟨(some 20), .q (.idxAddrSl 1 (.tmp 18) (.tmp 19)), none⟩, ⟨(some 21), .q (.loadS (.tmp 20)), none⟩, ⟨(some 10), .q (.move (.tmp 21)), none⟩]) (.seq (.region [⟨(some 22), .q (.move (.tmp 7)), none⟩, ⟨(some 23), .q (.bin .add (.tmp 22) (.const (AV.int .i64 (Int.ofNat 1)))), none⟩, ⟨(some 7), .q (.move (.tmp 23)), none⟩]) (.seq (.seq (.region [⟨(some 24), .q (.move (.tmp 1)), none⟩, ⟨(some 25), .q (.move (.tmp 9)), none⟩, ⟨(some 26), .q (.bin .sub (.tmp 24) (.tmp 25)), none⟩, ⟨(some 11), .q (.move (.tmp 26)), none⟩]) (.seq (.region [⟨(some 27), .q (.move (.tmp 11)), none⟩, ⟨(some 28), .q (.bin .leq (.tmp 27) (.const (AV.int .i64 (Int.ofNat 7)))), none⟩, ⟨(some 29), .q (.move (.tmp 28)), none⟩, ⟨(some 30), .q (.move (.tmp 10)), (some (29, true))⟩, ⟨(some 31), .q (.move (.tmp 11)), (some (29, true))⟩, ⟨(some 32), .q (.move (.tmp 2)), (some (29, true))⟩, ⟨(some 33), .e (.call (.const (AV.func (.func 75) [] [])) [(.tmp 30), (.tmp 31), (.tmp 32)]), (some (29, true))⟩, ⟨(some 34), .q (.un .not (.tmp 33)), (some (29, true))⟩, ⟨(some 35), .q (.pick (.tmp 29) (.tmp 34) (.const (AV.bool false))), none⟩]) (.cond (.tmp 35) (.seq (.region [⟨(some 6), .q (.move (.const (AV.int .u64 (Int.ofNat 0)))), none⟩, ⟨(some 7), .q (.move (.const (AV.int .i64 (Int.ofNat 0)))), none⟩, ⟨(some 8), .q (.move (.const (AV.int .i64 (Int.ofNat 2)))), none⟩]) .ret) .skip))) (.seq (.region [⟨(some 36), .q (.move (.tmp 6)), none⟩, ⟨(some 37), .q (.move (.tmp 10)), none⟩, ⟨(some 38), .q (.bin .and (.tmp 37) (.const (AV.int .u8 (Int.ofNat 127)))), none⟩, ⟨(some 39), .q (.toInt .u64 (.tmp 38)), none⟩, ⟨(some 40), .q (.move (.tmp 9)), none⟩, ⟨(some 41), .q (.bin .shl (.tmp 39) (.tmp 40)), none⟩, ⟨(some 42), .q (.bin .or (.tmp 36) (.tmp 41)), none⟩, ⟨(some 6), .q (.move (.tmp 42)), none⟩]) (.seq (.seq (.region [⟨(some 43), .q (.move (.tmp 10)), none⟩, ⟨(some 44), .q (.bin .and (.tmp 43) (.const (AV.int .u8 (Int.ofNat 128)))), none⟩, ⟨(some 45), .q (.eq .int true (.tmp 44) (.const (AV.int .u8 (Int.ofNat 0)))), none⟩]) (.cond (.tmp 45) (.exit 1) .skip)) (.seq (.seq (.region [⟨(some 46), .q (.move (.tmp 2)), none⟩, ⟨(some 47), .q (.move (.tmp 46)), none⟩, ⟨(some 48), .q (.move (.tmp 10)), (some (47, true))⟩, ⟨(some 49), .q (.bin .and (.tmp 48) (.const (AV.int .u8 (Int.ofNat 64)))), (some (47, true))⟩, ⟨(some 50), .q (.eq .int true (.tmp 49) (.const (AV.int .u8 (Int.ofNat 0)))), (some (47, true))⟩, ⟨(some 51), .q (.pick (.tmp 47) (.tmp 50) (.const (AV.bool false))), none⟩, ⟨(some 52), .q (.move (.tmp 51)), none⟩, ⟨(some 53), .q (.move (.tmp 9)), (some (52, true))⟩, ⟨(some 54), .q (.bin .add (.tmp 53) (.const (AV.int .i64 (Int.ofNat 7)))), (some (52, true))⟩, ⟨(some 55), .q (.bin .lss (.tmp 54) (.const (AV.int .i64 (Int.ofNat 64)))), (some (52, true))⟩, ⟨(some 56), .q (.pick (.tmp 52) (.tmp 55) (.const (AV.bool false))), none⟩]) (.cond (.tmp 56) (.region [⟨(some 57), .q (.move (.tmp 6)), none⟩, ⟨(some 58), .q (.move (.tmp 9)), none⟩, ⟨(some 59), .q (.bin .add (.tmp 58) (.const (AV.int .i64 (Int.ofNat 7)))), none⟩, ⟨(some 60), .q (.bin .shl (.const (AV.int .u64 (Int.ofNat 18446744073709551615))) (.tmp 59)), none⟩, ⟨(some 61), .q (.bin .or (.tmp 57) (.tmp 60)), none⟩, ⟨(some 6), .q (.move (.tmp 61)), none⟩]) .skip)) (.seq (.region [⟨(some 62), .q (.move (.tmp 6)), none⟩, ⟨(some 63), .q (.move (.tmp 7)), none⟩, ⟨(some 6), .q (.move (.tmp 62)), none⟩, ⟨(some 7), .q (.move (.tmp 63)), none⟩, ⟨(some 8), .q (.move (.const (AV.int .i64 (Int.ofNat 0)))), none⟩]) .ret))))))))) (.region [⟨(some 12), .q (.move (.tmp 9)), none⟩, ⟨(some 13), .q (.bin .add (.tmp 12) (.const (AV.int .i64 (Int.ofNat 7)))), none⟩, ⟨(some 9), .q (.move (.tmp 13)), none⟩]))
noncomputable def putUC : AC := (.seq (.seq (.region [⟨(some 6), .q (.move (.tmp 1)), none⟩, ⟨(some 7), .q (.bin .gtr (.tmp 6) (.const (AV.int .u64 (Int.ofNat 127)))), none⟩]) (.cond (.tmp 7) .skip (.exit 0))) (.block 1 (.seq (.region [⟨(some 8), .q (.move (.tmp 5)), none⟩, ⟨(some 9), .q (.move (.tmp 1)), none⟩, ⟨(some 10), .q (.toInt .u8 (.tmp 9)), none⟩, ⟨(some 11), .q (.bin .or (.tmp 10) (.const (AV.int .u8 (Int.ofNat 128)))), none⟩, ⟨(some 12), .l (.buildSlice 1 1 [(AV.int .u8 (Int.ofNat 0))] [(0, 1, (.tmp 11))]), none⟩, ⟨(some 13), .e (.append 1 1 (.tmp 8) (.tmp 12)), none⟩, ⟨(some 5), .q (.move (.tmp 13)), none⟩]) (.region [⟨(some 14), .q (.move (.tmp 1)), none⟩, ⟨(some 15), .q (.bin .shr (.tmp 14) (.const (AV.int .u64 (Int.ofNat 7)))), none⟩, ⟨(some 1), .q (.move (.tmp 15)), none⟩]))))
noncomputable def rputUC : AC := (.seq (.seq (.region [⟨(some 9), .q (.move (.tmp 1)), none⟩, ⟨(some 10), .q (.bin .geq (.tmp 9) (.const (AV.int .u64 (Int.ofNat 128)))), none⟩]) (.cond (.tmp 10) .skip (.exit 0))) (.block 1 (.seq (.region [⟨(some 11), .q (.move (.tmp 5)), none⟩, ⟨(some 12), .q (.move (.tmp 1)), none⟩, ⟨(some 13), .q (.toInt .u8 (.tmp 12)), none⟩, ⟨(some 14), .q (.bin .or (.tmp 13) (.const (AV.int .u8 (Int.ofNat 128)))), none⟩, ⟨(some 15), .l (.buildSlice 1 1 [(AV.int .u8 (Int.ofNat 0))] [(0, 1, (.tmp 14))]), none⟩, ⟨(some 16), .e (.append 1 1 (.tmp 11) (.tmp 15)), none⟩, ⟨(some 5), .q (.move (.tmp 16)), none⟩]) (.region [⟨(some 17), .q (.move (.tmp 1)), none⟩, ⟨(some 18), .q (.bin .shr (.tmp 17) (.const (AV.int .u64 (Int.ofNat 7)))), none⟩, ⟨(some 1), .q (.move (.tmp 18)), none⟩]))))
noncomputable def putSC : AC := (.seq (.seq (.region [⟨(some 6), .q (.move (.tmp 1)), none⟩, ⟨(some 7), .q (.bin .lss (.tmp 6) (.const (AV.int .i64 (Int.negSucc 63)))), none⟩, ⟨(some 8), .q (.move (.tmp 7)), none⟩, ⟨(some 9), .q (.move (.tmp 1)), (some (8, false))⟩, ⟨(some 10), .q (.bin .geq (.tmp 9) (.const (AV.int .i64 (Int.ofNat 64)))), (some (8, false))⟩, ⟨(some 11), .q (.pick (.tmp 8) (.const (AV.bool true)) (.tmp 10)), none⟩]) (.cond (.tmp 11) .skip (.exit 0))) (.block 1 (.seq (.region [⟨(some 12), .q (.move (.tmp 5)), none⟩, ⟨(some 13), .q (.move (.tmp 1)), none⟩, ⟨(some 14), .q (.toInt .u8 (.tmp 13)), none⟩, ⟨(some 15), .q (.bin .or (.tmp 14) (.const (AV.int .u8 (Int.ofNat 128)))), none⟩, ⟨(some 16), .l (.buildSlice 1 1 [(AV.int .u8 (Int.ofNat 0))] [(0, 1, (.tmp 15))]), none⟩, ⟨(some 17), .e (.append 1 1 (.tmp 12) (.tmp 16)), none⟩, ⟨(some 5), .q (.move (.tmp 17)), none⟩]) (.region [⟨(some 18), .q (.move (.tmp 1)), none⟩, ⟨(some 19), .q (.bin .shr (.tmp 18) (.const (AV.int .u64 (Int.ofNat 7)))), none⟩, ⟨(some 1), .q (.move (.tmp 19)), none⟩]))))
noncomputable def rputSC : AC := (.seq (.seq (.region [⟨(some 9), .q (.move (.tmp 1)), none⟩, ⟨(some 10), .q (.bin .lss (.tmp 9) (.const (AV.int .i64 (Int.negSucc 63)))), none⟩, ⟨(some 11), .q (.move (.tmp 10)), none⟩, ⟨(some 12), .q (.move (.tmp 1)), (some (11, false))⟩, ⟨(some 13), .q (.bin .gtr (.tmp 12) (.const (AV.int .i64 (Int.ofNat 63)))), (some (11, false))⟩, ⟨(some 14), .q (.pick (.tmp 11) (.const (AV.bool true)) (.tmp 13)), none⟩]) (.cond (.tmp 14) .skip (.exit 0))) (.block 1 (.seq (.region [⟨(some 15), .q (.move (.tmp 5)), none⟩, ⟨(some 16), .q (.move (.tmp 1)), none⟩, ⟨(some 17), .q (.toInt .u8 (.tmp 16)), none⟩, ⟨(some 18), .q (.bin .or (.tmp 17) (.const (AV.int .u8 (Int.ofNat 128)))), none⟩, ⟨(some 19), .l (.buildSlice 1 1 [(AV.int .u8 (Int.ofNat 0))] [(0, 1, (.tmp 18))]), none⟩, ⟨(some 20), .e (.append 1 1 (.tmp 15) (.tmp 19)), none⟩, ⟨(some 5), .q (.move (.tmp 20)), none⟩]) (.region [⟨(some 21), .q (.move (.tmp 1)), none⟩, ⟨(some 22), .q (.bin .shr (.tmp 21) (.const (AV.int .u64 (Int.ofNat 7)))), none⟩, ⟨(some 1), .q (.move (.tmp 22)), none⟩]))))
end Go.Proofs.Ytejiebbbodealaa
end
section
set_option linter.unusedVariables false
namespace Go.Proofs.Ytejiebbbodealaa
set_option linter.unusedVariables false
open Go Eng
noncomputable def numC : AC := (.seq (.seq (.region [⟨(some 20), .q (.move (.tmp 11)), none⟩, ⟨(some 21), .q (.move (.tmp 10)), none⟩, ⟨(some 22), .q (.bin .lss (.tmp 20) (.tmp 21)), none⟩]) (.cond (.tmp 22) .skip (.exit 0))) (.seq (.block 1 (.seq (.seq (.region [⟨(some 25), .q (.move (.tmp 11)), none⟩, ⟨(some 26), .q (.move (.tmp 0)), none⟩, ⟨(some 27), .q (.lenL (.tmp 26)), none⟩, ⟨(some 28), .q (.bin .geq (.tmp 25) (.tmp 27)), none⟩]) (.cond (.tmp 28) (.seq (.region [⟨(some 6), .q (.move (.const (AV.int .u64 (Int.ofNat 0)))), none⟩, ⟨(some 7), .q (.move (.const (AV.int .i64 (Int.ofNat 0)))), none⟩, ⟨(some 8), .q (.move (.const (AV.int .i64 (Int.ofNat 3)))), none⟩]) .ret) .skip)) (.seq (.region [⟨(some 29), .q (.move (.tmp 0)), none⟩, ⟨(some 30), .q (.move (.tmp 11)), none⟩, ⟨(some 31), .q (.idxAddrSl 1 (.tmp 29) (.tmp 30)), none⟩, ⟨(some 32), .q (.loadS (.tmp 31)), none⟩, ⟨(some 12), .q (.move (.tmp 32)), none⟩]) (.seq (.region [⟨(some 33), .q (.move (.tmp 12)), none⟩, ⟨(some 34), .q (.bin .and (.tmp 33) (.const (AV.int .u8 (Int.ofNat 127)))), none⟩, ⟨(some 35), .q (.toInt .u64 (.tmp 34)), none⟩, ⟨(some 13), .q (.move (.tmp 35)), none⟩]) (.seq (.seq (.region [⟨(some 36), .q (.move (.tmp 11)), none⟩, ⟨(some 37), .q (.move (.tmp 10)), none⟩, ⟨(some 38), .q (.bin .sub (.tmp 37) (.const (AV.int .i64 (Int.ofNat 1)))), none⟩, ⟨(some 39), .q (.eq .int false (.tmp 36) (.tmp 38)), none⟩]) (.cond (.tmp 39) (.seq (.region [⟨(some 40), .q (.move (.tmp 1)), none⟩, ⟨(some 41), .q (.move (.tmp 11)), none⟩, ⟨(some 42), .q (.bin .mul (.const (AV.int .i64 (Int.ofNat 7))) (.tmp 41)), none⟩, ⟨(some 43), .q (.bin .sub (.tmp 40) (.tmp 42)), none⟩, ⟨(some 14), .q (.move (.tmp 43)), none⟩]) (.seq (.region [⟨(some 44), .q (.move (.tmp 13)), none⟩, ⟨(some 45), .q (.move (.tmp 14)), none⟩, ⟨(some 46), .q (.bin .shr (.tmp 44) (.tmp 45)), none⟩, ⟨(some 15), .q (.move (.tmp 46)), none⟩]) (.seq (.seq (.region [⟨(some 47), .q (.move (.tmp 2)), none⟩]) (.cond (.tmp 47) (.region [⟨(some 48), .q (.move (.tmp 13)), none⟩, ⟨(some 49), .q (.move (.tmp 14)), none⟩, ⟨(some 50), .q (.bin .sub (.tmp 49) (.const (AV.int .i64 (Int.ofNat 1)))), none⟩, ⟨(some 51), .q (.bin .shr (.tmp 48) (.tmp 50)), none⟩, ⟨(some 15), .q (.move (.tmp 51)), none⟩]) .skip)) (.seq (.region [⟨(some 52), .q (.move (.tmp 14)), none⟩, ⟨(some 53), .q (.bin .shr (.const (AV.int .u64 (Int.ofNat 127))) (.tmp 52)), none⟩, ⟨(some 16), .q (.move (.tmp 53)), none⟩]) (.seq (.seq (.region [⟨(some 54), .q (.move (.tmp 2)), none⟩]) (.cond (.tmp 54) (.region [⟨(some 55), .q (.move (.tmp 14)), none⟩, ⟨(some 56), .q (.bin .sub (.tmp 55) (.const (AV.int .i64 (Int.ofNat 1)))), none⟩, ⟨(some 57), .q (.bin .shr (.const (AV.int .u64 (Int.ofNat 127))) (.tmp 56)), none⟩, ⟨(some 16), .q (.move (.tmp 57)), none⟩]) .skip)) (.seq (.region [⟨(some 58), .q (.move (.tmp 12)), none⟩, ⟨(some 59), .q (.bin .geq (.tmp 58) (.const (AV.int .u8 (Int.ofNat 128)))), none⟩, ⟨(some 60), .q (.move (.tmp 59)), none⟩, ⟨(some 61), .q (.move (.tmp 15)), (some (60, false))⟩, ⟨(some 62), .q (.eq .int true (.tmp 61) (.const (AV.int .u64 (Int.ofNat 0)))), (some (60, false))⟩, ⟨(some 63), .q (.move (.tmp 62)), (some (60, false))⟩, ⟨(some 64), .q (.move (.tmp 2)), (some (63, true))⟩, ⟨(some 65), .q (.un .not (.tmp 64)), (some (63, true))⟩, ⟨(some 66), .q (.move (.tmp 65)), (some (63, true))⟩, ⟨(some 67), .q (.move (.tmp 15)), (some (66, false))⟩, ⟨(some 68), .q (.move (.tmp 16)), (some (66, false))⟩, ⟨(some 69), .q (.eq .int true (.tmp 67) (.tmp 68)), (some (66, false))⟩, ⟨(some 70), .q (.pick (.tmp 66) (.const (AV.bool true)) (.tmp 69)), (some (63, true))⟩, ⟨(some 71), .q (.pick (.tmp 63) (.tmp 70) (.const (AV.bool false))), (some (60, false))⟩, ⟨(some 72), .q (.pick (.tmp 60) (.const (AV.bool true)) (.tmp 71)), none⟩]) (.cond (.tmp 72) (.seq (.region [⟨(some 6), .q (.move (.const (AV.int .u64 (Int.ofNat 0)))), none⟩, ⟨(some 7), .q (.move (.const (AV.int .i64 (Int.ofNat 0)))), none⟩, ⟨(some 8), .q (.move (.const (AV.int .i64 (Int.ofNat 2)))), none⟩]) .ret) .skip))))))) .skip)) (.seq (.region [⟨(some 73), .q (.move (.tmp 9)), none⟩, ⟨(some 74), .q (.move (.tmp 13)), none⟩, ⟨(some 75), .q (.move (.tmp 11)), none⟩, ⟨(some 76), .q (.bin .mul (.const (AV.int .i64 (Int.ofNat 7))) (.tmp 75)), none⟩, ⟨(some 77), .q (.bin .shl (.tmp 74) (.tmp 76)), none⟩, ⟨(some 78), .q (.bin .or (.tmp 73) (.tmp 77)), none⟩, ⟨(some 9), .q (.move (.tmp 78)), none⟩]) (.seq (.region [⟨(some 79), .q (.move (.tmp 12)), none⟩, ⟨(some 80), .q (.bin .lss (.tmp 79) (.const (AV.int .u8 (Int.ofNat 128)))), none⟩]) (.cond (.tmp 80) (.seq (.seq (.region [⟨(some 81), .q (.move (.tmp 2)), none⟩, ⟨(some 82), .q (.move (.tmp 81)), none⟩, ⟨(some 83), .q (.move (.tmp 12)), (some (82, true))⟩, ⟨(some 84), .q (.bin .and (.tmp 83) (.const (AV.int .u8 (Int.ofNat 64)))), (some (82, true))⟩, ⟨(some 85), .q (.eq .int true (.tmp 84) (.const (AV.int .u8 (Int.ofNat 0)))), (some (82, true))⟩, ⟨(some 86), .q (.pick (.tmp 82) (.tmp 85) (.const (AV.bool false))), none⟩, ⟨(some 87), .q (.move (.tmp 86)), none⟩, ⟨(some 88), .q (.move (.tmp 11)), (some (87, true))⟩, ⟨(some 89), .q (.bin .mul (.const (AV.int .i64 (Int.ofNat 7))) (.tmp 88)), (some (87, true))⟩, ⟨(some 90), .q (.bin .add (.tmp 89) (.const (AV.int .i64 (Int.ofNat 7)))), (some (87, true))⟩, ⟨(some 91), .q (.bin .lss (.tmp 90) (.const (AV.int .i64 (Int.ofNat 64)))), (some (87, true))⟩, ⟨(some 92), .q (.pick (.tmp 87) (.tmp 91) (.const (AV.bool false))), none⟩]) (.cond (.tmp 92) (.region [⟨(some 93), .q (.move (.tmp 9)), none⟩, ⟨(some 94), .q (.move (.tmp 11)), none⟩, ⟨(some 95), .q (.bin .mul (.const (AV.int .i64 (Int.ofNat 7))) (.tmp 94)), none⟩, ⟨(some 96), .q (.bin .add (.tmp 95) (.const (AV.int .i64 (Int.ofNat 7)))), none⟩, ⟨(some 97), .q (.bin .shl (.const (AV.int .u64 (Int.ofNat 18446744073709551615))) (.tmp 96)), none⟩, ⟨(some 98), .q (.bin .or (.tmp 93) (.tmp 97)), none⟩, ⟨(some 9), .q (.move (.tmp 98)), none⟩]) .skip)) (.seq (.region [⟨(some 99), .q (.move (.tmp 9)), none⟩, ⟨(some 100), .q (.move (.tmp 11)), none⟩, ⟨(some 101), .q (.bin .add (.tmp 100) (.const (AV.int .i64 (Int.ofNat 1)))), none⟩, ⟨(some 6), .q (.move (.tmp 99)), none⟩, ⟨(some 7), .q (.move (.tmp 101)), none⟩, ⟨(some 8), .q (.move (.const (AV.int .i64 (Int.ofNat 0)))), none⟩]) .ret)) .skip)))))))) (.region [⟨(some 23), .q (.move (.tmp 11)), none⟩, ⟨(some 24), .q (.bin .add (.tmp 23) (.const (AV.int .i64 (Int.ofNat 1)))), none⟩, ⟨(some 11), .q (.move (.tmp 24)), none⟩])))
end Go.Proofs.Ytejiebbbodealaa
end
section
set_option linter.unusedVariables false
namespace Go.Proofs.Ytejiebbbodealaa
set_option linter.unusedVariables false
open Go Eng
end Go.Proofs.Ytejiebbbodealaa
end
section
set_option linter.unusedVariables false
namespace Go.Proofs.Ytejiebbbodealaa
set_option linter.unusedVariables false
open Go Eng
noncomputable abbrev CC (d : Nat) : CallT := evF (sumT [15, 34, 40]) (progS Try.prog (compDrawn Try.prog)) 100000 d
theorem begun15 : Eng.isTrue (Eng.evF Eng.noM (progS Try.prog (compDrawn Try.prog)) 1000 40 15 [] Eng.H0) = true := by kernel_rfl
theorem begun34 : Eng.isTrue (Eng.evF Eng.noM (progS Try.prog (compDrawn Try.prog)) 1000 40 34 [] Eng.H0) = true := by kernel_rfl
theorem begun40 : Eng.isTrue (Eng.evF Eng.noM (progS Try.prog (compDrawn Try.prog)) 1000 40 40 [] Eng.H0) = true := by kernel_rfl
theorem trues : Eng.Trues Try.prog [15, 34, 40] := fun f hf => by
  simp only [List.mem_cons, List.not_mem_nil, or_false] at hf
  rcases hf with rfl | rfl | rfl
  · exact Eng.trues_one Eng.compDrawn_ok Eng.noM_ok begun15
  · exact Eng.trues_one Eng.compDrawn_ok Eng.noM_ok begun34
  · exact Eng.trues_one Eng.compDrawn_ok Eng.noM_ok begun40
end Go.Proofs.Ytejiebbbodealaa
end
section
set_option linter.unusedVariables false
set_option linter.unusedSimpArgs false
namespace Eng
open Go Go.RowKit
abbrev Cu := List Nat × Nat × Nat
abbrev Rd := List Nat × Nat
def tyV (x : Nat) : Bool × Nat := if x = 127 ∨ x = 126 ∨ x = 112 ∨ x = 111 then (true, 0) else if x = 125 ∨ x = 124 ∨ x = 123 then (false, 5) else (false, 2)
def refV (x : Nat) : Bool := decide (x = 112 ∨ x = 111)
def cuSkip (k : Nat) (s : Cu) : Cu := (s.1.drop k, s.2.1 + k, s.2.2)
def cuOne (s : Cu) : Nat × Cu := if s.2.2 = 0 then (match s.1 with | [] => (0, ([], s.2.1, 3)) | x :: l => (x, (l, s.2.1 + 1, 0))) else (0, s)
def cuNum (s : Cu) : Nat × Cu := if s.2.2 = 0 then ((readG 32 false s.1 0 0 0).1 % 4294967296, (s.1.drop (readG 32 false s.1 0 0 0).2.1, s.2.1 + (readG 32 false s.1 0 0 0).2.1, (readG 32 false s.1 0 0 0).2.2)) else (0, s)
def cuFail (is : Bool) (e : Nat) (s : Cu) : Cu := if is = true ∧ s.2.2 = 0 then (s.1, s.2.1, e) else s
noncomputable def cuVal (s : Cu) : Nat × Cu := ((cuOne s).1, cuFail (notB (tyV (cuOne s).1).1) (tyV (cuOne s).1).2 (cuOne s).2)
noncomputable def cuValsL : Nat → List Nat → Cu → List Nat × Cu
  | 0, acc, s => (acc, s)
  | k + 1, acc, s => if s.2.2 = 0 then cuValsL k (acc ++ [(cuVal s).1]) (cuVal s).2 else (acc, s)
noncomputable def cuVals (s : Cu) : List Nat × Cu := cuValsL (cuNum s).1 [] (cuFail (ltI (.ofNat 8) (.ofNat (cuNum s).1)) 4 (cuNum s).2)
def rByte (s : Rd) : Nat × Rd := if s.2 = 0 then (match s.1 with | [] => (0, ([], 3)) | x :: l => (x, (l, 0))) else (0, s)
def rFail (e : Nat) (s : Rd) : Rd := if s.2 = 0 then (s.1, e) else s
def rNum (size : Nat) (sg : Bool) (s : Rd) : Nat × Rd := if s.2 = 0 then ((readG size sg s.1 0 0 0).1, (s.1.drop (readG size sg s.1 0 0 0).2.1, (readG size sg s.1 0 0 0).2.2)) else (0, s)
def rVal (s : Rd) : Nat × Rd := ((rByte s).1, if (rByte s).2.2 = 0 then rFail (tyV (rByte s).1).2 (rByte s).2 else (rByte s).2)
def rValsL : Nat → List Nat → Rd → List Nat × Rd
  | 0, acc, s => (acc, s)
  | k + 1, acc, s => if s.2 = 0 then rValsL k (acc ++ [(rVal s).1]) (rVal s).2 else (acc, s)
def rU32 (s : Rd) : Nat × Rd := ((rNum 32 false s).1 % 4294967296, (rNum 32 false s).2)
def rVals (s : Rd) : List Nat × Rd := rValsL (rU32 s).1 [] (if 8 < (rU32 s).1 then rFail 4 (rU32 s).2 else (rU32 s).2)
abbrev cuC (vb : AV) (s : Cu) (rest : List AV) : List AV := vb :: .int .i64 (.ofNat s.2.1) :: .int .i64 (.ofNat s.2.2) :: rest
def CuM (call : CallT) (f : Nat) (args : List AV) (res : Cu → AV) (st : Cu → Cu) : Prop := ∀ {h h0 : Hp} {G : Nat → Prop} {R : List AObj} {b : Nat} {vb : AV} (s : Cu) (rest : List AV), BIn G h0 vb s.1 → s.1.length + s.2.1 < 80000 → s.2.2 < 64 → Sep (Cel b (cuC vb s rest) :: Frz G h0 :: R) h →
  ∃ v' h', call f (.ptr b 0 :: args) h = .ok (res s) h' ∧ BIn G h0 v' (st s).1 ∧ Sep (Cel b (cuC v' (st s) rest) :: Frz G h0 :: R) h'
def CuV (call : CallT) (f : Nat) (res : Cu → List Nat) (st : Cu → Cu) : Prop := ∀ {h h0 : Hp} {G : Nat → Prop} {R : List AObj} {b : Nat} {vb : AV} (s : Cu) (rest : List AV), BIn G h0 vb s.1 → s.1.length + s.2.1 < 80000 → s.2.2 < 64 → Sep (Cel b (cuC vb s rest) :: Frz G h0 :: R) h →
  ∃ w v' h', call f [.ptr b 0] h = .ok w h' ∧ BIn G h0 v' (st s).1 ∧ Sep (OwnO 1 w (res s).length (u8s (res s)) :: Cel b (cuC v' (st s) rest) :: Frz G h0 :: R) h'
abbrev rdC (vb : AV) (s : Rd) (rest : List AV) : List AV := vb :: .int .i64 (.ofNat s.2) :: rest
def RdM (call : CallT) (f : Nat) (args : List AV) (res : Rd → AV) (st : Rd → Rd) : Prop := ∀ {h h0 : Hp} {G : Nat → Prop} {R : List AObj} {b : Nat} {vb : AV} (s : Rd) (rest : List AV), BIn G h0 vb s.1 → s.1.length < 80000 → s.2 < 64 → Sep (Cel b (rdC vb s rest) :: Frz G h0 :: R) h →
  ∃ v' h', call f (.ptr b 0 :: args) h = .ok (res s) h' ∧ BIn G h0 v' (st s).1 ∧ Sep (Cel b (rdC v' (st s) rest) :: Frz G h0 :: R) h'
def RdV (call : CallT) (f : Nat) (res : Rd → List Nat) (st : Rd → Rd) : Prop := ∀ {h h0 : Hp} {G : Nat → Prop} {R : List AObj} {b : Nat} {vb : AV} (s : Rd) (rest : List AV), BIn G h0 vb s.1 → s.1.length < 80000 → s.2 < 64 → Sep (Cel b (rdC vb s rest) :: Frz G h0 :: R) h →
  ∃ w v' h', call f [.ptr b 0] h = .ok w h' ∧ BIn G h0 v' (st s).1 ∧ Sep (OwnO 1 w (res s).length (u8s (res s)) :: Cel b (rdC v' (st s) rest) :: Frz G h0 :: R) h'
def ValS (call : CallT) (f : Nat) : Prop := ∀ (x : Nat) (h : Hp), x < 256 → call f [.int .u8 (.ofNat x)] h = .ok (.tuple [.bool (tyV x).1, .int .i64 (.ofNat (tyV x).2)]) h
def RefS (call : CallT) (f : Nat) : Prop := ∀ (x : Nat) (h : Hp), x < 256 → call f [.int .u8 (.ofNat x)] h = .ok (.bool (refV x)) h
noncomputable def fS (l : List Nat) : Cu := cuFail (notB (eqI (.ofNat (cuOne (l, 0, 0)).1) (.ofNat 96))) 2 (cuOne (l, 0, 0)).2
noncomputable def takeF (l : List Nat) : (List Nat × List Nat) × Nat × Nat :=
  if (cuVals (cuVals (fS l)).2).2.2.2 = 0 then (((cuVals (fS l)).1, (cuVals (cuVals (fS l)).2).1), (cuVals (cuVals (fS l)).2).2.2.1, 0) else (([], []), 0, (cuVals (cuVals (fS l)).2).2.2.2)
noncomputable def lS (l : List Nat) : Cu := cuFail (ltI (.ofNat 1) (.ofNat (cuOne (l, 0, 0)).1)) 2 (cuOne (l, 0, 0)).2
noncomputable def takeL (l : List Nat) : (Nat × Nat × Bool) × Nat × Nat :=
  if (cuOne (l, 0, 0)).1 = 1 then (if (cuNum (cuNum (lS l)).2).2.2.2 = 0 then (((cuNum (lS l)).1, (cuNum (cuNum (lS l)).2).1, true), (cuNum (cuNum (lS l)).2).2.2.1, 0) else ((0, 0, false), 0, (cuNum (cuNum (lS l)).2).2.2.2))
  else (if (cuNum (lS l)).2.2.2 = 0 then (((cuNum (lS l)).1, 0, false), (cuNum (lS l)).2.2.1, 0) else ((0, 0, false), 0, (cuNum (lS l)).2.2.2))
def TakeFS (call : CallT) (f : Nat) (g : List Nat → (List Nat × List Nat) × Nat × Nat) : Prop := ∀ {h h0 : Hp} {G : Nat → Prop} {R : List AObj} {vb : AV} (l : List Nat), BIn G h0 vb l → l.length < 70000 → Sep (Frz G h0 :: R) h →
  ∃ p q h', call f [vb] h = .ok (.tuple [.agg [p, q], .int .i64 (.ofNat (g l).2.1), .int .i64 (.ofNat (g l).2.2)]) h' ∧ Sep (OwnO 1 p (g l).1.1.length (u8s (g l).1.1) :: OwnO 1 q (g l).1.2.length (u8s (g l).1.2) :: Frz G h0 :: R) h'
def TakeLS (call : CallT) (f : Nat) (g : List Nat → (Nat × Nat × Bool) × Nat × Nat) : Prop := ∀ {h h0 : Hp} {G : Nat → Prop} {R : List AObj} {vb : AV} (l : List Nat), BIn G h0 vb l → l.length < 70000 → Sep (Frz G h0 :: R) h →
  ∃ h', call f [vb] h = .ok (.tuple [.agg [.int .u32 (.ofNat (g l).1.1), .int .u32 (.ofNat (g l).1.2.1), .bool (g l).1.2.2], .int .i64 (.ofNat (g l).2.1), .int .i64 (.ofNat (g l).2.2)]) h' ∧ Sep (Frz G h0 :: R) h'
noncomputable def rfS (s : Rd) : Rd := if (rByte s).1 = 96 then (rByte s).2 else rFail 2 (rByte s).2
noncomputable def rFT (s : Rd) : (List Nat × List Nat) × Rd := (((rVals (rfS s)).1, (rVals (rVals (rfS s)).2).1), (rVals (rVals (rfS s)).2).2)
noncomputable def rlS (s : Rd) : Rd := if 1 < (rByte s).1 then rFail 2 (rByte s).2 else (rByte s).2
noncomputable def rLm (s : Rd) : (Nat × Nat × Bool) × Rd := if (rByte s).1 = 1 then (((rU32 (rlS s)).1, (rU32 (rU32 (rlS s)).2).1, true), (rU32 (rU32 (rlS s)).2).2) else (((rU32 (rlS s)).1, 0, false), (rU32 (rlS s)).2)
noncomputable def takeFr (l : List Nat) : (List Nat × List Nat) × Nat × Nat := if (rFT (l, 0)).2.2 = 0 then ((rFT (l, 0)).1, l.length - (rFT (l, 0)).2.1.length, 0) else (([], []), 0, (rFT (l, 0)).2.2)
noncomputable def takeLr (l : List Nat) : (Nat × Nat × Bool) × Nat × Nat := if (rLm (l, 0)).2.2 = 0 then ((rLm (l, 0)).1, l.length - (rLm (l, 0)).2.1.length, 0) else ((0, 0, false), 0, (rLm (l, 0)).2.2)
def RdF (call : CallT) (f : Nat) : Prop := ∀ {h h0 : Hp} {G : Nat → Prop} {R : List AObj} {b : Nat} {vb : AV} (s : Rd) (rest : List AV), BIn G h0 vb s.1 → s.1.length < 80000 → s.2 < 64 → Sep (Cel b (rdC vb s rest) :: Frz G h0 :: R) h →
  ∃ p q v' h', call f [.ptr b 0] h = .ok (.agg [p, q]) h' ∧ BIn G h0 v' (rFT s).2.1 ∧ Sep (OwnO 1 p (rFT s).1.1.length (u8s (rFT s).1.1) :: OwnO 1 q (rFT s).1.2.length (u8s (rFT s).1.2) :: Cel b (rdC v' (rFT s).2 rest) :: Frz G h0 :: R) h'
def cu (s : Cu) : Rd := (s.1, s.2.2)
end Eng
end
