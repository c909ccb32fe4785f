import Derived.Test.YtfcljjhlijolgaaGreatDoorB2
import Derived.ChangeSlices
import Derived.WideShapes
import Derived.SizedLaws
import Derived.Sort.MapsRangeIn
import Derived.Sort.KeysCollected
import Derived.Maps.Range
import Derived.Test.YtfcljjhlijolgaaGreatDoorChecked
import Derived.Shelf.SlIter.Collect
import Derived.RangeFuncGives
import Derived.Maps.AppendAt
import Derived.WalkKit
import Derived.OwnWalkIn
import Derived.TacticsInMore
import Derived.RegionIn
import Derived.LoopNIn
import Derived.LoopIn
section
set_option linter.unusedVariables false
set_option linter.unusedSimpArgs false
namespace Eng
open Go Go.RowKit
section
variable {P : Program} {n : Nat} {ops : Array Oper} {A : Nat → Nat} {es : List NO} {μ0 : Mp} {h0 : Hp} {w0 : World} {t0 : T} {s : Nat} {fr : Nat → T} {v : Nat → AV} {bk : Nat → Nat} {al : Nat → Bool} {t t' t1 : T} {h h' h1 : Hp} {ps : List PD}
  {D : Nat → Prop} {μ : Mp} {a : Act} {w : World}
structure IsNO (P : Program) (n : Nat) (ops : Array Oper) (A : Nat → Nat) (q : NO) : Prop where
  op : ops[q.i]? = some q.p
  o : q.o = compO P n ops q.p
  a : q.a = A q.i
theorem IsNO.same {q e : NO} (hq : IsNO P n ops A q) (he : IsNO P n ops A e) (h : q.i = e.i) : q.o = e.o := by
  have h1 := hq.op
  rw [h, he.op] at h1
  rw [hq.o, he.o, Option.some.inj h1]
def FineIt (P : Program) (n : Nat) (ops : Array Oper) (A : Nat → Nat) : It → Prop
  | .op _ _ q => IsNO P n ops A q ∧ isE q.o.op = false
  | .eff _ e => IsNO P n ops A e ∧ isE e.o.op = true
  | .last _ => True
theorem itOk_op {k hi m : Nat} {q : NO} {r : List It} (e : itOk es m (.op k hi q :: r) s = true) : q.a &&& s = q.a ∧ s.testBit q.i = false ∧ behind es q k = true ∧ ahead es q hi = true ∧ itOk es m r (s ||| 2 ^ q.i) = true := by
  simp only [itOk, Bool.and_eq_true, Bool.not_eq_true'] at e
  obtain ⟨⟨⟨⟨h1, h2⟩, h3⟩, h4⟩, h5⟩ := e
  exact ⟨Nat.eq_of_beq_eq_true h1, h2, h3, h4, h5⟩
theorem itOk_eff {k m : Nat} {q : NO} {r : List It} (e : itOk es m (.eff k q :: r) s = true) : q.a &&& s = q.a ∧ s.testBit q.i = false ∧ behind es q k = true ∧ (∃ e', es[k]? = some e' ∧ e'.i = q.i) ∧ itOk es m r (s ||| 2 ^ q.i) = true := by
  simp only [itOk, Bool.and_eq_true, Bool.not_eq_true'] at e
  obtain ⟨⟨⟨⟨h1, h2⟩, h3⟩, h4⟩, h5⟩ := e
  refine ⟨Nat.eq_of_beq_eq_true h1, h2, h3, ?_, h5⟩
  split at h4
  · rename_i e' he; exact ⟨e', he, Nat.eq_of_beq_eq_true h4⟩
  · cases h4
theorem itOk_cover {m : Nat} : ∀ {its : List It} {s : Nat}, itOk es m its s = true → ∀ i, m.testBit i = true →
    s.testBit i = true ∨ (∃ k hi q, It.op k hi q ∈ its ∧ q.i = i ∧ behind es q k = true) ∨ ∃ k q, It.eff k q ∈ its ∧ q.i = i ∧ behind es q k = true
  | [], s, e, i, hi => by cases e
  | .op k hi q :: r, s, e, i, hm => by
    obtain ⟨_, _, h3, _, h5⟩ := itOk_op e
    rcases itOk_cover h5 i hm with h | ⟨k', hi', q', h6, h7⟩ | ⟨k', q', h6, h7⟩
    · rcases bit_or.1 h with h | rfl
      · exact .inl h
      · exact .inr (.inl ⟨k, hi, q, List.mem_cons_self, rfl, h3⟩)
    · exact .inr (.inl ⟨k', hi', q', List.mem_cons_of_mem _ h6, h7⟩)
    · exact .inr (.inr ⟨k', q', List.mem_cons_of_mem _ h6, h7⟩)
  | .eff k q :: r, s, e, i, hm => by
    obtain ⟨_, _, h3, _, h5⟩ := itOk_eff e
    rcases itOk_cover h5 i hm with h | ⟨k', hi', q', h6, h7⟩ | ⟨k', q', h6, h7⟩
    · rcases bit_or.1 h with h | rfl
      · exact .inl h
      · exact .inr (.inr ⟨k, q, List.mem_cons_self, rfl, h3⟩)
    · exact .inr (.inl ⟨k', hi', q', List.mem_cons_of_mem _ h6, h7⟩)
    · exact .inr (.inr ⟨k', q', List.mem_cons_of_mem _ h6, h7⟩)
  | .last k :: r, s, e, i, hm => by
    have : s = m := Nat.eq_of_beq_eq_true (show Nat.beq s m = true from e)
    rw [this]; exact .inl hm
theorem flat_ge : ∀ (st : List (List (NO × Nat) × Option NO)) (k : Nat), (∀ j hi q, It.op j hi q ∈ flat k st → k ≤ j) ∧ ∀ j q, It.eff j q ∈ flat k st → k ≤ j
  | [], k => ⟨fun _ _ _ h => by simp [flat] at h, fun _ _ h => by simp [flat] at h⟩
  | (qs, some e) :: r, k => by
    obtain ⟨h1, h2⟩ := flat_ge r (k + 1)
    refine ⟨fun j hi q h => ?_, fun j q h => ?_⟩
    · simp only [flat, List.mem_append, List.mem_map, List.mem_cons] at h
      rcases h with ⟨x, _, hx⟩ | hx | hx
      · cases hx; exact Nat.le_refl _
      · cases hx
      · have := h1 j hi q hx; omega
    · simp only [flat, List.mem_append, List.mem_map, List.mem_cons] at h
      rcases h with ⟨x, _, hx⟩ | hx | hx
      · cases hx
      · cases hx; exact Nat.le_refl _
      · have := h2 j q hx; omega
  | (qs, none) :: r, k => by
    refine ⟨fun j hi q h => ?_, fun j q h => ?_⟩
    · simp only [flat, List.mem_append, List.mem_map, List.mem_singleton] at h
      rcases h with ⟨x, _, hx⟩ | hx
      · cases hx; exact Nat.le_refl _
      · cases hx
    · simp only [flat, List.mem_append, List.mem_map, List.mem_singleton] at h
      rcases h with ⟨x, _, hx⟩ | hx
      · cases hx
      · cases hx
theorem absorb_all (st : Static P n ops A) (hes0 : ∀ e ∈ es, IsNO P n ops A e ∧ isE e.o.op = true) {call : CallT} {k m : Nat} {tail : List It} : ∀ (qs : List (NO × Nat)) {s : Nat} {fr : Nat → T} {v : Nat → AV} {bk : Nat → Nat} {al : Nat → Bool} {t : T} {h : Hp} {ps : List PD},
    Mid P n ops A es μ0 h0 w0 t0 s fr v bk al t h ps D μ a w → Tra call (qs.map (fun q => It.op k q.2 q.1) ++ tail) t h ps t' h' → itOk es m (qs.map (fun q => It.op k q.2 q.1) ++ tail) s = true →
    (∀ it ∈ qs.map (fun q => It.op k q.2 q.1) ++ tail, FineIt P n ops A it) → (∀ j e, es[j]? = some e → s.testBit e.i = true → j < k) →
    ∃ s' fr' v' bk' al' t1 h1 ps1, Mid P n ops A es μ0 h0 w0 t0 s' fr' v' bk' al' t1 h1 ps1 D μ a w ∧ Tra call tail t1 h1 ps1 t' h' ∧ itOk es m tail s' = true ∧ (∀ j e, es[j]? = some e → s'.testBit e.i = true → j < k)
  | [], s, fr, v, bk, al, t, h, ps, md, tr, ok, fine, hes => ⟨s, fr, v, bk, al, t, h, ps, md, tr, ok, hes⟩
  | q :: qs, s, fr, v, bk, al, t, h, ps, md, tr, ok, fine, hes => by
    obtain ⟨h1, h2, _, h4, h5⟩ := itOk_op (show itOk es m (It.op k q.2 q.1 :: (qs.map (fun q => It.op k q.2 q.1) ++ tail)) s = true from ok)
    obtain ⟨hno, hne⟩ : IsNO P n ops A q.1 ∧ isE q.1.o.op = false := fine (.op k q.2 q.1) (by simp)
    rw [hno.a] at h1
    obtain ⟨fr', v', bk', al', t1, h1', ps1, tr1, md1⟩ := absorb st md (show Tra call (It.op k q.2 q.1 :: (qs.map (fun q => It.op k q.2 q.1) ++ tail)) t h ps t' h' from tr) hno.op hno.o h1 h2 (fun e he => by
      have hh : (match es[q.2]? with | some e => e.a.testBit q.1.i | none => true) = true := h4
      rw [he] at hh
      rw [← (hes0 e (List.mem_of_getElem? he)).1.a]; exact hh)
    refine absorb_all st hes0 qs md1 tr1 h5 (fun it hit => fine it (List.mem_cons_of_mem _ hit)) fun j e he hb => ?_
    rcases bit_or.1 hb with hb | hb
    · exact hes j e he hb
    · obtain ⟨he1, he2⟩ := hes0 e (List.mem_of_getElem? he)
      rw [he1.same hno hb, hne] at he2; cases he2
theorem behind_inv {q : NO} {k : Nat} (h : behind es q k = true) : k = 0 ∨ ∃ j e, k = j + 1 ∧ es[j]? = some e ∧ q.a.testBit e.i = true := by
  cases k with
  | zero => exact .inl rfl
  | succ j =>
    right
    have h : (match es[j]? with | some e => q.a.testBit e.i | none => false) = true := h
    split at h
    · rename_i e he; exact ⟨j, e, rfl, he, h⟩
    · cases h
theorem drawn_go {md : Region.Mode} (st : Static P n ops A) (ends : Ends md ops) (hes0 : ∀ e ∈ es, IsNO P n ops A e ∧ isE e.o.op = true) (hnd : ∀ (j k : Nat) (e f : NO), es[j]? = some e → es[k]? = some f → e.i = f.i → j = k) {call : CallT} (good : Good P call)
    {Q : Exit → Act → World → Prop} (hQ : ∀ a w μ, TR μ t' a.tmps → Sim μ h' w → Goes μ0 h0 w0 μ h' w → a.defers = [] → a.tmps.size = n → Q .normal a w) :
    ∀ (fuel : Nat) (listed : Array Bool) (k : Nat) (its : List It) (s : Nat) (fr : Nat → T) (v : Nat → AV) (bk : Nat → Nat) (al : Nat → Bool) (t : T) (h : Hp) (ps : List PD) (μ : Mp) (a : Act) (w : World),
      listed.size = ops.size → fuel + count listed = ops.size → Mid P n ops A es μ0 h0 w0 t0 s fr v bk al t h ps (fun i => listed.getD i false = true) μ a w → Tra call its t h ps t' h' → itOk es (2 ^ ops.size - 1) its s = true →
      (∀ it ∈ its, FineIt P n ops A it) → ((∃ e st', its = .eff k e :: flat (k + 1) st') ∨ ∃ r, its = .last k :: r) → (∀ j e, es[j]? = some e → (listed.getD e.i false = true ↔ j < k)) →
      (∀ j e, es[j]? = some e → s.testBit e.i = true → j < k) → k ≤ es.length → wpAny P md ops Q fuel listed a w := by
  intro fuel
  have last : ∀ (listed : Array Bool) (k : Nat) (its : List It) (s : Nat) (fr : Nat → T) (v : Nat → AV) (bk : Nat → Nat) (al : Nat → Bool) (t : T) (h : Hp) (ps : List PD) (μ : Mp) (a : Act) (w : World),
      listed.size = ops.size → Mid P n ops A es μ0 h0 w0 t0 s fr v bk al t h ps (fun i => listed.getD i false = true) μ a w → Tra call its t h ps t' h' → itOk es (2 ^ ops.size - 1) its s = true →
      (∀ it ∈ its, FineIt P n ops A it) → ((∃ e st', its = .eff k e :: flat (k + 1) st') ∨ ∃ r, its = .last k :: r) → (∀ i, listed.getD i true = true) → Q .normal a w := by
    intro listed k its s fr v bk al t h ps μ a w hsz m tr ok fine hits hall
    have hD : ∀ i, i < ops.size → listed.getD i false = true := fun i hi => by
      have := hall i
      have hlt : i < listed.size := by omega
      simp [Array.getElem?_eq_getElem hlt] at this ⊢
      exact this
    rcases hits with ⟨e, st', rfl⟩ | ⟨r, rfl⟩
    · exfalso
      obtain ⟨_, h2, _⟩ := itOk_eff ok
      have hno : IsNO P n ops A e := (fine (.eff k e) List.mem_cons_self).1
      have := m.sub e.i (hD e.i (Array.getElem?_eq_some_iff.1 hno.op).1)
      rw [h2] at this; cases this
    · cases tr
      refine hQ a w μ (fun d => m.done d fun j hj => ?_) m.sim m.goes m.defers m.size
      obtain ⟨o, ho, _⟩ := hj
      exact hD j (Array.getElem?_eq_some_iff.1 ho).1
  induction fuel with
  | zero =>
    intro listed k its s fr v bk al t h ps μ a w hsz hcnt m tr ok fine hits hdone hes hk
    have hall : ∀ i, listed.getD i true = true := count_full (by omega)
    refine ⟨?_, last listed k its s fr v bk al t h ps μ a w hsz m tr ok fine hits hall⟩
    rw [List.eq_nil_iff_forall_not_mem]
    intro i hi
    have := (mem_ready.1 hi).1
    rw [hall i] at this; cases this
  | succ fuel ih =>
    intro listed k its s fr v bk al t h ps μ a w hsz hcnt m tr ok fine hits hdone hes hk
    refine ⟨fun hr => last listed k its s fr v bk al t h ps μ a w hsz m tr ok fine hits (ends listed hsz hr), fun i hi => ?_⟩
    obtain ⟨hnl, o, ho, hall⟩ := mem_ready.1 hi
    have hlt : i < ops.size := (Array.getElem?_eq_some_iff.1 ho).1
    have hDi : ¬ listed.getD i false = true := fun hh => by
      have hlt' : i < listed.size := by omega
      simp [Array.getElem?_eq_getElem hlt'] at hh hnl
      rw [hh] at hnl; cases hnl
    have hready : ∀ l, (A i).testBit l = true → listed.getD l false = true := fun l hl => by
      obtain ⟨e, he, hb, hor⟩ := st.anc i o l ho hl
      have hbm : Region.binds md e = true := by
        cases md with
        | text => exact binds_any_text hb
        | gc => exact binds_any_gc hb
        | any => exact hb
      have := hall e he hbm
      rcases hor with rfl | hor
      · exact this
      · exact m.down e.on this l hor
    have hD' : (fun j => listed.getD j false = true ∨ j = i) = fun j => (listed.setIfInBounds i true).getD j false = true := by
      funext j
      apply propext
      by_cases hji : j = i
      · subst hji
        have hlt' : j < listed.size := by omega
        simp [hlt']
      · rw [getD_set_ne false (fun e => hji e.symm)]
        simp [hji]
    have hcnt' : fuel + count (listed.setIfInBounds i true) = ops.size := by rw [count_set hnl]; omega
    have hsz' : (listed.setIfInBounds i true).size = ops.size := by simpa using hsz
    have hrd : readAgain ps k h = true := by
      rcases hits with ⟨e, st', rfl⟩ | ⟨r, rfl⟩
      · cases tr; assumption
      · cases tr; assumption
    by_cases hsi : s.testBit i = true
    · -- one that stands ahead
      refine pend_ok st m hrd hk (fun j e he hj => (hdone j e he).2 hj) hsi hDi hready fun a' w' μ' m' => ?_
      rw [hD'] at m'
      refine ih _ k its s fr v bk al t h ps μ' a' w' hsz' hcnt' m' tr ok fine hits (fun j e he => ?_) hes hk
      rw [← hdone j e he]
      by_cases hei : e.i = i
      · have hjk := hes j e he (by rw [hei]; exact hsi)
        have := (hdone j e he).2 hjk
        rw [hei] at this
        exact absurd this hDi
      · rw [getD_set_ne false (fun e => hei e.symm)]
    · -- it is the next effect
      have hbit : (2 ^ ops.size - 1).testBit i = true := by rw [Nat.testBit_two_pow_sub_one]; simpa using hlt
      have hnot : ∀ (q : NO) (kk : Nat), IsNO P n ops A q → q.i = i → behind es q kk = true → kk ≤ k := fun q kk hno hqi hbh => by
        rcases behind_inv hbh with rfl | ⟨j, e, rfl, he, hb⟩
        · omega
        · rw [hno.a, hqi] at hb
          exact (hdone j e he).1 (hready _ hb)
      obtain ⟨e, st', rfl, hei⟩ : ∃ e st', its = .eff k e :: flat (k + 1) st' ∧ e.i = i := by
        rcases hits with ⟨e, st', rfl⟩ | ⟨r, rfl⟩
        · refine ⟨e, st', rfl, ?_⟩
          rcases itOk_cover ok i hbit with hh | ⟨kk, hi', q, hq, hqi, hbh⟩ | ⟨kk, q, hq, hqi, hbh⟩
          · exact absurd hh hsi
          · exfalso
            have := hnot q kk (fine _ hq).1 hqi hbh
            rcases List.mem_cons.1 hq with hq | hq
            · cases hq
            · have := (flat_ge st' (k + 1)).1 _ _ _ hq
              omega
          · have := hnot q kk (fine _ hq).1 hqi hbh
            rcases List.mem_cons.1 hq with hq | hq
            · cases hq; exact hqi
            · have := (flat_ge st' (k + 1)).2 _ _ hq
              omega
        · exfalso
          have : s = 2 ^ ops.size - 1 := Nat.eq_of_beq_eq_true (show Nat.beq s (2 ^ ops.size - 1) = true from ok)
          rw [this] at hsi; exact hsi hbit
      obtain ⟨hno, hise⟩ : IsNO P n ops A e ∧ isE e.o.op = true := fine (.eff k e) List.mem_cons_self
      obtain ⟨h1, h2, h3, ⟨e', he', hee⟩, h5⟩ := itOk_eff ok
      rw [hno.a] at h1
      cases tr with
      | eff _ ev tr =>
        rename_i t1 h1'
        subst hei
        refine eff_ok st m good hno.op hno.o hise h1 h2 hready ev fun a' w' μ' m' => ?_
        rw [hD'] at m'
        have hkl : k + 1 ≤ es.length := (List.getElem?_eq_some_iff.1 he').1
        have hdone' : ∀ j f, es[j]? = some f → ((listed.setIfInBounds e.i true).getD f.i false = true ↔ j < k + 1) := fun j f hf => by
          by_cases hfe : f.i = e.i
          · have hjk : j = k := hnd j k f e' hf he' (hfe.trans hee.symm)
            subst hjk
            rw [hfe]
            have hlt' : e.i < listed.size := by omega
            simp [hlt']
          · rw [getD_set_ne false (fun e => hfe e.symm), hdone j f hf]
            constructor
            · intro hh; omega
            · intro hh
              rcases Nat.lt_or_ge j k with hjk | hjk
              · exact hjk
              · obtain rfl : j = k := by omega
                rw [hf] at he'; cases he'
                exact absurd hee hfe
        have hes' : ∀ j f, es[j]? = some f → (s ||| 2 ^ e.i).testBit f.i = true → j < k + 1 := fun j f hf hb => by
          rcases bit_or.1 hb with hb | hb
          · have := hes j f hf hb; omega
          · have := hnd j k f e' hf he' (hb.trans hee.symm)
            omega
        cases st' with
        | nil => cases tr
        | cons sg st' =>
          obtain ⟨qs, eo⟩ := sg
          have fine' : ∀ it ∈ flat (k + 1) ((qs, eo) :: st'), FineIt P n ops A it := fun it hit => fine it (List.mem_cons_of_mem _ hit)
          cases eo with
          | none =>
            obtain ⟨s', fr', v', bk', al', t2, h2', ps2, m2, tr2, ok2, hes2⟩ := absorb_all st hes0 (k := k + 1) (m := 2 ^ ops.size - 1) (tail := [It.last (k + 1)]) qs m' tr h5 fine' hes'
            exact ih _ (k + 1) [It.last (k + 1)] s' fr' v' bk' al' t2 h2' ps2 μ' a' w' hsz' hcnt' m2 tr2 ok2 (fun it hit => fine' it (List.mem_append_right _ hit)) (.inr ⟨[], rfl⟩) hdone' hes2 hkl
          | some f =>
            obtain ⟨s', fr', v', bk', al', t2, h2', ps2, m2, tr2, ok2, hes2⟩ := absorb_all st hes0 (k := k + 1) (m := 2 ^ ops.size - 1) (tail := It.eff (k + 1) f :: flat (k + 1 + 1) st') qs m' tr h5 fine' hes'
            exact ih _ (k + 1) _ s' fr' v' bk' al' t2 h2' ps2 μ' a' w' hsz' hcnt' m2 tr2 ok2 (fun it hit => fine' it (List.mem_append_right _ hit)) (.inl ⟨f, st', rfl⟩) hdone' hes2 hkl
theorem stagesFrom_mem {qs es0 : List NO} : ∀ (rest : List NO) (k j : Nat), (∀ kk hi q, It.op kk hi q ∈ flat j (stagesFrom qs es0 rest k) → q ∈ qs) ∧ ∀ kk q, It.eff kk q ∈ flat j (stagesFrom qs es0 rest k) → q ∈ rest
  | [], k, j => by
    refine ⟨fun kk hi q h => ?_, fun kk q h => ?_⟩
    · simp only [stagesFrom, flat, List.mem_append, List.mem_map, List.mem_singleton] at h
      rcases h with ⟨x, ⟨y, hy, rfl⟩, hx⟩ | hx
      · cases hx; exact (List.mem_filter.1 hy).1
      · cases hx
    · simp only [stagesFrom, flat, List.mem_append, List.mem_map, List.mem_singleton] at h
      rcases h with ⟨x, _, hx⟩ | hx <;> cases hx
  | e :: rest, k, j => by
    obtain ⟨h1, h2⟩ := stagesFrom_mem (qs := qs) (es0 := es0) rest (k + 1) (j + 1)
    refine ⟨fun kk hi q h => ?_, fun kk q h => ?_⟩
    · simp only [stagesFrom, flat, List.mem_append, List.mem_map, List.mem_cons] at h
      rcases h with ⟨x, ⟨y, hy, rfl⟩, hx⟩ | hx | hx
      · cases hx; exact (List.mem_filter.1 hy).1
      · cases hx
      · exact h1 kk hi q hx
    · simp only [stagesFrom, flat, List.mem_append, List.mem_map, List.mem_cons] at h
      rcases h with ⟨x, _, hx⟩ | hx | hx
      · cases hx
      · cases hx; exact List.mem_cons_self
      · exact List.mem_cons_of_mem _ (h2 kk q hx)
theorem numbered_sorted {n : Nat} : ∀ {os : List Oper} {asq : List Nat} {k : Nat}, (numbered P n ops os asq k).Pairwise (fun x y => x.i < y.i)
  | [], asq, k => by simp [numbered]
  | o :: os, [], k => by simp [numbered]
  | o :: os, a :: asq, k => by
    rw [show numbered P n ops (o :: os) (a :: asq) k = ⟨k, compO P n ops o, a, o⟩ :: numbered P n ops os asq (k + 1) from rfl, List.pairwise_cons]
    refine ⟨fun y hy => ?_, numbered_sorted⟩
    obtain ⟨j, o', _, _, rfl⟩ := numbered_mem hy
    show k < k + 1 + j
    omega
theorem readsT_any {d : Nat} {l : List Operand} (h : Operand.tmp d ∈ l) : l.any (readsT d) = true := by
  rw [List.any_eq_true]
  refine ⟨_, h, ?_⟩
  show Nat.beq d d = true
  exact Nat.beq_refl d
theorem compDrawn_ok : DrawOk P (compDrawn P) := fun call N n id ops μ0 h0 w0 Q t h a w good hp st => by
  unfold compDrawn at hp
  simp only [] at hp
  generalize hA : ancs ops.toList [] = asq at hp
  generalize hnos : numbered P n ops ops.toList asq 0 = nos at hp
  generalize hes : (nos.filter fun n => isE n.o.op) = es at hp
  split at hp
  · rename_i hchk
    simp only [Bool.and_eq_true] at hchk
    obtain ⟨⟨⟨hwd, hfw⟩, hends⟩, hit⟩ := hchk
    obtain ⟨hlen, _, hanc⟩ := ancs_go ops.toList []
    rw [hA] at hlen hanc
    simp at hlen
    have hno : ∀ q ∈ nos, IsNO P n ops (fun i => asq.getD i 0) q := fun q hq => by
      rw [← hnos] at hq
      obtain ⟨j, o, h1, h2, rfl⟩ := numbered_mem hq
      rw [Nat.zero_add]
      exact ⟨by rw [← Array.getElem?_toList]; exact h1, rfl, rfl⟩
    have hget : ∀ (i : Nat) (o : Oper), ops[i]? = some o → (⟨i, compO P n ops o, asq.getD i 0, o⟩ : NO) ∈ nos := fun i o ho => by
      rw [← hnos]
      have hlt := (Array.getElem?_eq_some_iff.1 ho).1
      have := numbered_get (P := P) (n := n) (ops := ops) (os := ops.toList) (asq := asq) (k := 0) i o (by rw [Array.getElem?_toList]; exact ho) (by omega)
      rw [Nat.zero_add] at this
      exact this
    have wd : ∀ x ∈ nos, (∀ y ∈ nos, x.i ≠ y.i → ∀ d, y.p.dst = some d → x.p.dst ≠ some d ∧ (Operand.tmp d ∈ x.p.op.operands.toList → x.a.testBit y.i = true ∨ y.a.testBit x.i = true)) ∧
        (∀ d, x.p.dst = some d → Operand.tmp d ∉ x.p.op.operands.toList) ∧ ∀ j want, x.p.guard = some (j, want) → x.a.testBit j = true := fun x hx => by
      unfold wellDrawn at hwd
      have h1 := List.all_eq_true.1 hwd x hx
      simp only [Bool.and_eq_true, List.all_eq_true] at h1
      obtain ⟨⟨h2, h3⟩, h4⟩ := h1
      refine ⟨fun y hy hne d hd => ?_, fun d hd hr => ?_, fun j want hg => ?_⟩
      · have h5 := h2 y hy
        rw [hd] at h5
        simp only [Bool.or_eq_true, Bool.and_eq_true] at h5
        rcases h5 with h5 | ⟨h5, h6⟩
        · exact absurd (Nat.eq_of_beq_eq_true h5) hne
        · refine ⟨fun hxd => ?_, fun hr => ?_⟩
          · rw [hxd] at h5
            simp at h5
          · rw [readsT_any hr] at h6
            simpa using h6
      · rw [hd] at h3
        simp only [] at h3
        rw [readsT_any hr] at h3
        cases h3
      · rw [hg] at h4; exact h4
    have stat : Static P n ops (fun i => asq.getD i 0) := by
      refine ⟨fun i j d hi hj => ?_, fun i j d o ho hr hj => ?_, fun i o g want ho hg => ?_, fun i o l ho hl => ?_⟩
      · obtain ⟨oi, hoi, hdi⟩ := hi
        obtain ⟨oj, hoj, hdj⟩ := hj
        by_cases hij : i = j
        · exact hij
        · exact absurd hdi ((wd _ (hget i oi hoi)).1 _ (hget j oj hoj) hij d hdj).1
      · obtain ⟨oj, hoj, hdj⟩ := hj
        by_cases hij : i = j
        · subst hij
          rw [ho] at hoj; cases hoj
          exact absurd hr ((wd _ (hget i o ho)).2.1 d hdj)
        · exact ⟨hij, ((wd _ (hget i o ho)).1 _ (hget j oj hoj) hij d hdj).2 hr⟩
      · exact (wd _ (hget i o ho)).2.2 g want hg
      · have := hanc i o (by rw [Array.getElem?_toList]; exact ho) l (by rw [List.length_nil, Nat.zero_add]; exact hl)
        exact this
    have hes0 : ∀ e ∈ es, IsNO P n ops (fun i => asq.getD i 0) e ∧ isE e.o.op = true := fun e he => by
      rw [← hes] at he
      obtain ⟨h1, h2⟩ := List.mem_filter.1 he
      exact ⟨hno e h1, h2⟩
    have hnd : ∀ (j k : Nat) (e f : NO), es[j]? = some e → es[k]? = some f → e.i = f.i → j = k := fun j k e f he hf hef => by
      have hsort : es.Pairwise (fun x y => x.i < y.i) := by
        rw [← hes, ← hnos]; exact numbered_sorted.filter _
      obtain ⟨hj, hje⟩ := List.getElem?_eq_some_iff.1 he
      obtain ⟨hk, hke⟩ := List.getElem?_eq_some_iff.1 hf
      rw [List.pairwise_iff_getElem] at hsort
      rcases Nat.lt_trichotomy j k with hlt | heq | hgt
      · have := hsort j k hj hk hlt
        rw [hje, hke] at this; omega
      · exact heq
      · have := hsort k j hk hj hgt
        rw [hje, hke] at this; omega
    obtain ⟨⟨μ, r, hs, g⟩, hdef, hsize⟩ := st
    have hp : Post μ0 h0 w0 n Q ((evDs call ((stagesFrom (nos.filter fun n => !isE n.o.op) es es 0).map fun s => ⟨s.1.map fun q => (q.1.o, q.2), s.2.map (·.o)⟩) 0 t h []).done) := hp
    cases hev : evDs call ((stagesFrom (nos.filter fun n => !isE n.o.op) es es 0).map fun s => ⟨s.1.map fun q => (q.1.o, q.2), s.2.map (·.o)⟩) 0 t h [] with
    | no => rw [hev] at hp; exact hp.elim
    | ok t' h' =>
      rw [hev] at hp
      have hp : ∀ a w, At μ0 h0 w0 n t' h' a w → Q .normal a w := hp
      have tr := evDs_tra _ _ _ _ _ hev
      have fine : ∀ it ∈ flat 0 (stagesFrom (nos.filter fun n => !isE n.o.op) es es 0), FineIt P n ops (fun i => asq.getD i 0) it := fun it hin => by
        obtain ⟨k1, k2⟩ := stagesFrom_mem (qs := nos.filter fun n => !isE n.o.op) (es0 := es) es 0 0
        cases it with
        | op kk hi q =>
          obtain ⟨h1, h2⟩ := List.mem_filter.1 (k1 kk hi q hin)
          exact ⟨hno q h1, by simpa using h2⟩
        | eff kk q => exact hes0 q (k2 kk q hin)
        | last kk => trivial
      refine wp_drawn hfw hends fun md ends => ?_
      have hs2 : Sim μ h { w with drawn := w.drawn + 1 } := hs.drawn
      have mid0 : Mid P n ops (fun i => asq.getD i 0) es μ h { w with drawn := w.drawn + 1 } t 0 (fun _ => t) (fun _ => undef) (fun _ => 0) (fun _ => false) t h [] (fun i => (Array.replicate ops.size false).getD i false = true) μ a { w with drawn := w.drawn + 1 } := by
        have hD : ∀ i, ¬ (Array.replicate ops.size false).getD i false = true := fun i hi => by
          rw [Array.getD_eq_getD_getElem?, Array.getElem?_replicate] at hi
          split at hi <;> simp at hi
        have hz : ∀ i, ¬ (0 : Nat).testBit i = true := fun i => by simp
        exact ⟨fun i hi => absurd hi (hD i), fun i hi => absurd hi (hD i), fun i hi => absurd hi (hz i), fun d j _ _ => r d, fun d _ => r d, fun _ _ => rfl, fun i hi => absurd hi (hz i), fun i j hi => absurd hi (hz i), fun i hi => absurd hi (hz i), hs2, .refl hs2, hdef, hsize⟩
      have hcnt : count (Array.replicate ops.size false) = 0 := by unfold count; simp
      have hQ : ∀ (a : Act) (w' : World) (μ' : Mp), TR μ' t' a.tmps → Sim μ' h' w' → Goes μ h { w with drawn := w.drawn + 1 } μ' h' w' → a.defers = [] → a.tmps.size = n → Q .normal a w' := fun a w' μ' r' hs' g' hd hz => by
        refine hp a w' ⟨⟨μ', r', hs', ?_⟩, hd, hz⟩
        have gd : Goes μ h w μ h { w with drawn := w.drawn + 1 } := ⟨Nat.le_refl _, fun _ _ => rfl, fun _ _ => rfl, fun _ _ => rfl, Nat.le_refl _, fun _ _ _ => rfl, fun _ _ _ => .inl rfl, rfl, rfl, rfl⟩
        exact (g.trans gd).trans g'
      have hdone0 : ∀ (j : Nat) (e : NO), es[j]? = some e → ((Array.replicate ops.size false).getD e.i false = true ↔ j < 0) := fun j e he => by
        constructor
        · intro hi
          rw [Array.getD_eq_getD_getElem?, Array.getElem?_replicate] at hi
          split at hi <;> simp at hi
        · intro hj; omega
      have hes00 : ∀ (j : Nat) (e : NO), es[j]? = some e → (0 : Nat).testBit e.i = true → j < 0 := fun j e he hb => by simp at hb
      generalize hst : stagesFrom (nos.filter fun n => !isE n.o.op) es es 0 = stg at tr fine hit
      cases stg with
      | nil => cases tr
      | cons sg st' =>
        obtain ⟨qs, eo⟩ := sg
        cases eo with
        | none =>
          obtain ⟨s', fr', v', bk', al', t2, h2', ps2, m2, tr2, ok2, hes2⟩ := absorb_all stat hes0 (k := 0) (m := 2 ^ ops.size - 1) (tail := [It.last 0]) qs mid0 tr hit fine hes00
          exact drawn_go stat ends hes0 hnd good hQ ops.size _ 0 _ s' fr' v' bk' al' t2 h2' ps2 μ a _ (by simp) (by rw [hcnt]; rfl) m2 tr2 ok2 (fun it hin => fine it (List.mem_append_right _ hin)) (.inr ⟨[], rfl⟩) hdone0 hes2 (Nat.zero_le _)
        | some f =>
          obtain ⟨s', fr', v', bk', al', t2, h2', ps2, m2, tr2, ok2, hes2⟩ := absorb_all stat hes0 (k := 0) (m := 2 ^ ops.size - 1) (tail := It.eff 0 f :: flat (0 + 1) st') qs mid0 tr hit fine hes00
          exact drawn_go stat ends hes0 hnd good hQ ops.size _ 0 _ s' fr' v' bk' al' t2 h2' ps2 μ a _ (by simp) (by rw [hcnt]; rfl) m2 tr2 ok2 (fun it hin => fine it (List.mem_append_right _ hin)) (.inl ⟨f, st', rfl⟩) hdone0 hes2 (Nat.zero_le _)
  · exact hp.elim
end
end Eng
end
section
set_option linter.unusedVariables false
set_option linter.unusedSimpArgs false
namespace Eng
open Go Go.RowKit
noncomputable def specO (σ : AO → AO → Option AV) (p : Option AO) (o : AO) : AO :=
  ocase o (fun p => o.op.cs (fun q => ocase o (fun x => ⟨o.dst, .q (.move (.const x)), o.guard⟩) (σ p o)) (fun _ => o) (fun _ => o)) p
noncomputable def specOs (σ : AO → AO → Option AV) (os : List AO) : Option AO → List AO := lrec (fun _ => []) (fun o _ ih p => specO σ p o :: ih (some o)) os
noncomputable def specC (σ : AO → AO → Option AV) (c : AC) : AC :=
  AC.rec (motive := fun _ => AC) .skip (fun os => .region (specOs σ os none)) (fun l => .drawn l) (fun _ _ x y => .seq x y) (fun c _ _ x y => .cond c x y) (fun i _ x => .block i x) (fun _ x => .loop x)
    (fun i => .exit i) .ret (fun w => .fail w) c
noncomputable def dstNot (d : Nat) (o : Option Nat) : Bool := ocase true (fun i => notB (Nat.beq i d)) o
noncomputable def dstNots (L : List (Nat × AV)) (o : Option Nat) : Bool := lall (fun p => dstNot p.1 o) L
def Holds (L : List (Nat × AV)) (t : T) : Prop := ∀ p ∈ L, evX (.tmp p.1) t = p.2
noncomputable def keepsC (L : List (Nat × AV)) (c : AC) : Bool :=
  AC.rec (motive := fun _ => Bool) true (fun os => lall (fun o => dstNots L o.dst) os) (fun l => lall (fun s => bc (lall (fun o => dstNots L o.1.dst) s.os) (ocase true (fun e => dstNots L e.dst) s.e) false) l)
    (fun _ _ x y => bc x y false) (fun _ _ _ x y => bc x y false) (fun _ _ x => x) (fun _ x => x) (fun _ => true) true (fun _ => true) c
section
variable {σ : AO → AO → Option AV} {L : List (Nat × AV)} {call : CallT} {N : Nat}
def Tells (σ : AO → AO → Option AV) (L : List (Nat × AV)) : Prop :=
  ∀ p o x f, σ p o = some x → o.op = .q f → ∀ call t0 h0 t h, Holds L t0 → evO call p t0 h0 = .ok t h → evQ f t h = .ok x
def KeepT (L : List (Nat × AV)) : RT → Prop
  | .no => True
  | .ok t _ => Holds L t
def KeepS (L : List (Nat × AV)) : RS → Prop
  | .no => True
  | .nor t _ => Holds L t
  | .exit _ t _ => Holds L t
  | .ret t _ => Holds L t
noncomputable def evSpec (σ : AO → AO → Option AV) (L : List (Nat × AV)) (S : Nat → Option AF) (N : Nat) (call : CallT) (f : Nat) (args : List AV) (h : Hp) : RV :=
  ocase .no (fun fn => bc (Nat.ble (len args) fn.ntmps) (bc (keepsC L fn.body) (finish fn.results (evC call N (specC σ fn.body) (frame0 args) h)) .no) .no) (S f)
end
end Eng
end
section
set_option linter.unusedVariables false
set_option linter.unusedSimpArgs false
namespace Eng
open Go Go.RowKit
section
variable {P : Program} {μ : Mp} {h : Hp} {w w' : World}
theorem Sim.below (hs : Sim μ h w) (b : Below w.heap.size w w') : Sim μ h w' :=
  ⟨hs.lt, hs.fresh, fun b' c s e => Nat.lt_of_lt_of_le (hs.old b' c s e) b.size, fun b' c s x e g => (hs.blk b' c s x e g).mono (Mp.Le.refl μ) (b.block c (hs.old b' c s e)) rfl rfl, hs.apart, hs.peer⟩
theorem Goes.ofBelow (b : Below w.heap.size w w') : Goes μ h w μ h w' :=
  ⟨Nat.le_refl _, fun _ _ => rfl, fun _ _ => rfl, fun _ _ => rfl, b.size, fun c hc _ => b.block c hc, fun _ _ _ => .inl rfl, b.os, b.tape, b.output⟩
def Trues (P : Program) (l : List Nat) : Prop := ∀ f ∈ l, Enters P f ∧ ∀ w, Calls P f #[] w fun e w' => e = .returned (.bool true) ∧ Below w.heap.size w w'
noncomputable def sumT (l : List Nat) (f : Nat) : Option (List AV → Hp → RV) :=
  bc (lall (fun g => notB (Nat.beq g f)) l) none (some fun args h => lcase (.ok (.bool true) h) (fun _ _ => .no) args)
theorem sumT_ok {l : List Nat} (ht : Trues P l) : Good P fun f args h => ocase .no (fun m => m args h) (sumT l f) := fun f args h v h' μ w cargs e hs r => by
  have e : ocase RV.no (fun m => m args h) (bc (lall (fun g => notB (Nat.beq g f)) l) none (some fun args h => lcase (.ok (.bool true) h) (fun _ _ => .no) args)) = .ok v h' := e
  by_cases hm : f ∈ l
  · have hb : lall (fun g => notB (Nat.beq g f)) l = false := by
      cases hh : lall (fun g => notB (Nat.beq g f)) l with
      | false => rfl
      | true =>
        have := lall_iff.1 hh f hm
        rw [Nat.beq_refl] at this; cases this
    rw [hb] at e
    cases args with
    | cons a args => cases e
    | nil =>
      cases e
      obtain ⟨h1, h2⟩ := ht f hm
      rw [VRs_nil] at r
      obtain rfl : cargs = #[] := Array.toList_eq_nil_iff.1 r
      refine ⟨h1, (h2 w).mono fun e w' ⟨he, hb⟩ => ?_⟩
      exact ⟨μ, _, he, by rw [VR_bool], hs.below hb, .ofBelow hb⟩
  · have hb : lall (fun g => notB (Nat.beq g f)) l = true := lall_iff.2 fun g hg => by
      have : g ≠ f := fun e => hm (e ▸ hg)
      rw [beqF this]; rfl
    rw [hb] at e; cases e
theorem trues_one {D : Nat → Array Oper → AC} (hD : DrawOk P D) {M : Nat → Option (List AV → Hp → RV)} (hM : Good P fun f args h => ocase .no (fun m => m args h) (M f)) {N d f : Nat} (e : isTrue (evF M (progS P D) N d f [] H0) = true) :
    Enters P f ∧ ∀ w, Calls P f #[] w fun e w' => e = .returned (.bool true) ∧ Below w.heap.size w w' := by
  obtain ⟨h', e1⟩ := isTrue_inv e
  exact ⟨(evF_ok hD hM N d f [] H0 _ h' Mp.none default #[] e1 (.none default) (VRs_nil.2 rfl)).1, fun w => closed_law hD hM N d f w [] #[] (VRs_nil.2 rfl) e⟩
noncomputable def remIs (k : Nat) (i : IntKind) (b m : Nat) (p o : AO) : Option AV := match p, o with
  | ⟨some d, .q (.move (.tmp k')), none⟩, ⟨_, .q (.bin .rem (.tmp d') (.const (.int j (.ofNat c)))), _⟩ =>
    bc (Nat.beq k' k) (bc (Nat.beq d' d) (bc (ikEq i j) (bc (Nat.beq c b) (some (.int i (.ofNat m))) none) none) none) none
  | _, _ => none
noncomputable def orQ (a b : AO → AO → Option AV) (p o : AO) : Option AV := ocase (b p o) some (a p o)
end
end Eng
end
section
set_option linter.unusedVariables false
set_option linter.unusedSimpArgs false
namespace Eng
open Go Go.RowKit
structure Ev where
  v : AV
  t : T
  h : Hp
inductive Orc where
  | fin
  | tell (n : Nat) (x : AV) (r : Orc)
  | fork (n : Nat) (a b : Orc)
  | eff (n : Nat) (x : AV) (h : Hp) (r : Orc)
  | lp (n : Nat) (s : RS) (r : Orc)
  | again (n : Nat) (r : Orc)
  | goal (n : Nat) (r : Orc)
  | effx (n : Nat) (x : Ev → AV) (r : Ev → Orc)
  | lpx (n : Nat) (s : Ev → RS) (r : Ev → Orc)
  | ell (n : Nat) (m : MK) (x : Blk) (r : Orc)
  | agn (n : Nat) (r : Orc)
  | exi (n : Nat) {α : Type} (f : α → Orc)
  | dis (n : Nat) (a b : Orc)
  deriving Inhabited
noncomputable section
@[reducible] def lrec1 {α : Type} {β : Type 1} (z : β) (f : α → List α → β → β) (l : List α) : β := List.rec (motive := fun _ => β) z f l
def Orc.n (o : Orc) : Nat := Orc.rec (motive := fun _ => Nat) 0 (fun n _ _ _ => n) (fun n _ _ _ _ => n) (fun n _ _ _ _ => n) (fun n _ _ _ => n) (fun n _ _ => n) (fun n _ _ => n) (fun n _ _ _ => n) (fun n _ _ _ => n) (fun n _ _ _ _ => n) (fun n _ _ => n) (fun n _ _ _ => n) (fun n _ _ _ _ => n) o
def Orc.cs {β : Type} (o : Orc) (fin : β) (tell : AV → Orc → β) (fork : Orc → Orc → β) (eff : AV → Hp → Orc → β) (lp : RS → Orc → β) (again : Orc → β) (goal : Orc → β) (effx : (Ev → AV) → (Ev → Orc) → β) (lpx : (Ev → RS) → (Ev → Orc) → β) (ell : MK → Blk → Orc → β) (agn : Orc → β) : β :=
  Orc.rec (motive := fun _ => β) fin (fun _ x r _ => tell x r) (fun _ a b _ _ => fork a b) (fun _ x h r _ => eff x h r) (fun _ s r _ => lp s r) (fun _ r _ => again r) (fun _ r _ => goal r) (fun _ x r _ => effx x r) (fun _ s r _ => lpx s r) (fun _ m x r _ => ell m x r) (fun _ r _ => agn r) (fun _ _ _ _ => fin) (fun _ _ _ _ _ => fin) o
def peel (o : Orc) (K : Orc → Prop) : Prop :=
  Orc.rec (motive := fun _ => Prop) (K .fin) (fun n x r _ => K (.tell n x r)) (fun n a b _ _ => K (.fork n a b)) (fun n x h r _ => K (.eff n x h r)) (fun n s r _ => K (.lp n s r)) (fun n r _ => K (.again n r)) (fun n r _ => K (.goal n r)) (fun n x r _ => K (.effx n x r)) (fun n s r _ => K (.lpx n s r)) (fun n m x r _ => K (.ell n m x r)) (fun n r _ => K (.agn n r)) (fun _ _ _ ih => ∃ x, ih x) (fun _ _ _ i j => i ∨ j) o
def avC (v : AV) : AV → Prop → Prop := AV.rec (motive_1 := fun _ => AV → Prop → Prop) (motive_2 := fun _ => List AV → Prop → Prop)
  (fun b y K => y.asBool False fun c => b = c ∧ K)
  (fun k n y K => y.asInt False fun k' m => bc (ikEq k k') (n = m ∧ K) False)
  (fun s y K => y.asStr False fun r => s = r ∧ K)
  (fun y K => (avP y).cs False K (fun _ _ => False))
  (fun b o y K => (avP y).cs False False (fun b' o' => bc (Nat.beq b b') (bc (Nat.beq o o') K False) False))
  (fun y K => (avS y).cs False K (fun _ _ _ _ _ _ => False))
  (fun b o l c s e y K => (avS y).cs False False (fun b' o' l' c' s' e' => bc (Nat.beq b b') (bc (Nat.beq o o') (bc (Nat.beq l l') (bc (Nat.beq c c') (bc (Nat.beq s s') (bc (bc e e' (notB e')) K False) False) False) False) False) False))
  (fun y K => (avM y).cs False K (fun _ => False))
  (fun b y K => (avM y).cs False False (fun b' => bc (Nat.beq b b') K False))
  (fun f a b ia ib y K => (fnView f a b).cs False False (fun f _ _ => (avF y).cs False False (fun f' a' b' => bc (Nat.beq f f') (ia a' (ib b' K)) False) False) False)
  (fun y K => (avF y).cs False K (fun _ _ _ => False) False)
  (fun t _ ih y K => (avIf y).cs False False (fun t' w => bc (Nat.beq t t') (ih w K) False))
  (fun y K => (avIf y).cs False K (fun _ _ => False))
  (fun _ ih y K => y.asAgg False fun l => ih l K)
  (fun _ ih y K => y.asTuple False fun l => ih l K)
  (fun l K => lcase K (fun _ _ => False) l)
  (fun _ _ i j l K => lcase False (fun a m => i a (j m K)) l) v
def avCs (l m : List AV) (K : Prop) : Prop := avC (.agg l) (.agg m) K
def agnP (ps : List PD) (n : Nat) (h : Hp) (K : Prop) : Prop := lrec K (fun p _ ih => bc (Nat.blt p.hi n) ih ((evQ p.o p.t h).cs False fun v => avC p.v v ih)) ps
def isSl (o : QOp) : Bool := match o with | .sliceSl _ _ _ _ _ => true | _ => false
def agnP2 (ps : List PD) (n : Nat) (h : Hp) (K : Prop) : Prop := lrec K (fun p _ ih => bc (Nat.blt p.hi n) ih (bc (isSl p.o) (p.v.asSlice False (evQ p.o p.t h = .ok p.v ∧ ih) (fun _ _ _ _ _ _ => evQ p.o p.t h = .ok p.v ∧ ih)) ((evQ p.o p.t h).cs False fun v => avC p.v v ih))) ps
abbrev KV := AV → Nat → Orc → Prop
abbrev KR := AV → Hp → Nat → Orc → Prop
abbrev KT := T → Hp → Nat → Orc → Prop
abbrev KS := RS → Nat → Orc → Prop
abbrev CallW := Nat → List AV → Hp → Nat → Orc → KR → Prop
abbrev CodeW := T → Hp → Nat → Orc → KS → Prop
def step (c : Nat) (r : Orc) (now : Orc → Prop) (go : Nat → Orc → Prop) : Prop := Nat.rec (motive := fun _ => Prop) (peel r now) (fun m _ => go m r) c
def charsP (l : List AV) : (List Nat → Prop) → Prop := lrec (fun K => K []) (fun v _ ih K => v.asInt False fun k n => bc (ikEq k .u8) (natOf n False fun m => m < 256 ∧ ih fun s => K (m :: s)) False) l
def tellX (r : Orc) (K : AV → Orc → Prop) : Prop := r.cs False (fun x r => K x r) (fun _ _ => False) (fun _ _ _ => False) (fun _ _ => False) (fun _ => False) (fun _ => False) (fun _ _ => False) (fun _ _ => False) (fun _ _ _ => False) (fun _ => False)
def strW (o : QOp) (t : T) (h : Hp) (r : Orc) (K : AV → Orc → Prop) : Prop := match o with
  | .toStr x => (evX x t).asSlice False False fun b o l _ s _ => bc (Nat.beq s 1) (rdN h b o l False fun cs => charsP cs fun s => K (.str s) r) False
  | .loadS x => (evX x t).asPtr False fun b o => hcells h b False fun cs _ _ => tellX r fun v r => nth? cs o = some v ∧ K v r
  | _ => False
def setA (cs : List AV) (o : Nat) (v : AV) : List AV := upd v cs o
def soloP (w : Own) (K : Prop) : Prop := Own.rec (motive := fun _ => Prop) False K (fun _ => False) w
def memW (o : EOp) (t : T) (h : Hp) (r : Orc) (k : KR) : Prop := match o with
  | .store n a x => bc (Nat.beq n 1) ((evX a t).asPtr False fun b o => bc (isCell (evX x t)) (hcells h b False fun cs n w => o < n ∧ soloP w (k undef (hset h b (.cells (setA cs o (evX x t)) n .solo)) r.n r)) False) False
  | .append sz bytes s x => bc (Nat.beq sz 1) ((evX x t).asSlice False False fun b o n _ z _ => bc (Nat.beq z 1) (bc (Nat.beq n 1) (hcells h b False fun cs len _ => bc (Nat.beq len 1) False
      (tellX r fun v r => o < len ∧ nth? cs o = some v ∧ (appendTo h sz bytes (evX s t) 1 [v]).cs False fun v h => k v h r.n r)) False) False) False
  | _ => False
def qW (o : QOp) (t : T) (h : Hp) (c : Nat) (r : Orc) (k : KV) : Prop :=
  step c r
    (fun r => r.cs ((evQ o t h).cs False fun v => k v 0 .fin)
      (fun x r => evQ o t h = .ok x ∧ k x r.n r)
      (fun a b => (evQ o t h).cs False fun v => (avB v).cs False fun b' => (b' = true → k (.bool true) a.n a) ∧ (b' = false → k (.bool false) b.n b))
      (fun _ _ _ => False) (fun _ _ => False) (fun _ => False)
      (fun r => (evQ o t h).cs False fun v => (avB v).cs False fun b' => b' = true ∧ k (.bool true) r.n r) (fun _ _ => False) (fun _ _ => False) (fun _ _ _ => False) (fun r => strW o t h r fun v r => k v r.n r))
    (fun c r => (evQ o t h).cs False fun v => k v c r)
def goE (callW : CallW) (o : EOp) (t : T) (h : Hp) (k : KR) (c : Nat) (r : Orc) : Prop :=
  EOp.rec (motive := fun _ => Prop) (fun n a x => (oStore n a x t h).cs False fun v h => k v h c r) (fun s m kk v => (oMapUpdate s m kk v t h).cs False fun v h => k v h c r)
      (fun sz bytes s x => (oAppend sz bytes s x t h).cs False fun v h => k v h c r) (fun sz bytes z s n => (oAppendZ sz bytes z s n t h).cs False fun v h => k v h c r) (fun sz d s => (oCopy sz d s t h).cs False fun v h => k v h c r)
      (fun s m kk => (oDelete s m kk t h).cs False fun v h => k v h c r) (fun z x => (oClear z x t h).cs False fun v h => k v h c r) (fun x => (oMark x t h).cs False fun v h => k v h c r)
      (fun f xs => (evX f t).asFunc False fun g a b => callW g (app a (app (evXs xs t) b)) h c r k) o
def eW (call : CallT) (callW : CallW) (o : EOp) (t : T) (h : Hp) (c : Nat) (r : Orc) (k : KR) : Prop :=
  step c r
    (fun r => r.cs (goE callW o t h k 0 .fin) (fun _ _ => False) (fun _ _ => False) (fun x h' r => evE o call t h = .ok x h' ∧ k x h' r.n r) (fun _ _ => False) (fun _ => False) (fun _ => False)
      (fun x r => ∃ e : Ev, evE o call t h = .ok (x e) e.h ∧ k (x e) e.h (r e).n (r e)) (fun _ _ => False) (fun _ _ _ => False) (fun r => memW o t h r k))
    (goE callW o t h k)
abbrev KL := MK → Blk → Nat → Orc → Prop
def lW (o : LOp) (t : T) (c : Nat) (r : Orc) (k : KL) : Prop :=
  step c r
    (fun r => r.cs ((evL o t).cs False fun m x => k m x 0 .fin) (fun _ _ => False) (fun _ _ => False) (fun _ _ _ => False) (fun _ _ => False) (fun _ => False) (fun _ => False) (fun _ _ => False) (fun _ _ => False)
      (fun m x r => evL o t = .ok m x ∧ k m x r.n r) (fun _ => False))
    (fun c r => (evL o t).cs False fun m x => k m x c r)
def runW (call : CallT) (callW : CallW) (op : AOp) (d : Option Nat) (t : T) (h : Hp) (c : Nat) (r : Orc) (k : KT) : Prop := op.cs
  (fun o => qW o t h c r fun v c r => k (putT d v t) h c r)
  (fun o => lW o t c r fun m x c r => k (putT d (mkAt m h.next) t) (hpush h x) c r)
  (fun o => eW call callW o t h c r fun v h c r => k (putT d v t) h c r)
def oW (call : CallT) (callW : CallW) (o : AO) (t : T) (h : Hp) (c : Nat) (r : Orc) (k : KT) : Prop :=
  ocase (runW call callW o.op o.dst t h c r k) (fun _ => bc (wanted o.guard t) (runW call callW o.op o.dst t h c r k) (k (putT o.dst undef t) h c r)) o.guard
def osW (call : CallT) (callW : CallW) (os : List AO) : T → Hp → Nat → Orc → KT → Prop :=
  lrec1 (fun t h c r k => k t h c r) (fun o _ ih t h c r k => oW call callW o t h c r fun t h c r => ih t h c r k) os
abbrev KP := T → Hp → List PD → Nat → Orc → Prop
def stageW (o : AO) (hi : Nat) (t : T) (h : Hp) (ps : List PD) (c : Nat) (r : Orc) (k : KP) : Prop :=
  bc (wanted o.guard t) (o.op.cs
    (fun q => qW q t h c r fun v c r => k (putT o.dst v t) h (⟨q, t, v, hi⟩ :: ps) c r)
    (fun l => lW l t c r fun m x c r => k (putT o.dst (mkAt m h.next) t) (hpush h x) ps c r)
    (fun _ => False)) (k (putT o.dst undef t) h ps c r)
def stagesW (os : List (AO × Nat)) : T → Hp → List PD → Nat → Orc → KP → Prop :=
  lrec1 (fun t h ps c r k => k t h ps c r) (fun o _ ih t h ps c r k => stageW o.1 o.2 t h ps c r fun t h ps c r => ih t h ps c r k) os
def againW (ps : List PD) (n : Nat) (h : Hp) : Prop := lrec True (fun p _ ih => bc (Nat.blt p.hi n) ih (again p.o p.t p.v h = true ∧ ih)) ps
def dsW (call : CallT) (callW : CallW) (l : List DS) : Nat → T → Hp → List PD → Nat → Orc → KT → Prop :=
  lrec1 (fun _ _ _ _ _ _ _ => False) (fun s _ ih n t h ps c r k => stagesW s.os t h ps c r fun t h ps c r =>
    step c r
      (fun r => r.cs (bc (readAgain ps n h) (ocase (k t h 0 .fin) (fun e => oW call callW e t h 0 .fin fun t h c r => ih (Nat.succ n) t h ps c r k) s.e) False) (fun _ _ => False) (fun _ _ => False) (fun _ _ _ => False) (fun _ _ => False)
        (fun r => againW ps n h ∧ ocase (k t h r.n r) (fun e => oW call callW e t h r.n r fun t h c r => ih (Nat.succ n) t h ps c r k) s.e) (fun r => agnP2 ps n h (ocase (k t h r.n r) (fun e => oW call callW e t h r.n r fun t h c r => ih (Nat.succ n) t h ps c r k) s.e)) (fun _ _ => False) (fun _ _ => False) (fun _ _ _ => False) (fun r => agnP ps n h (ocase (k t h r.n r) (fun e => oW call callW e t h r.n r fun t h c r => ih (Nat.succ n) t h ps c r k) s.e)))
      (fun c r => bc (readAgain ps n h) (ocase (k t h c r) (fun e => oW call callW e t h c r fun t h c r => ih (Nat.succ n) t h ps c r k) s.e) False)) l
def goL (f : CodeW) (N : Nat) (k : KS) (t : T) (h : Hp) (c : Nat) (r : Orc) : Prop :=
  Nat.rec (motive := fun _ => T → Hp → Nat → Orc → Prop) (fun _ _ _ _ => False)
        (fun _ ih t h c r => f t h c r fun s c r => s.cs False (fun t h => ih t h c r) (fun i t h => k (.exit i t h) c r) (fun t h => k (.ret t h) c r)) N t h c r
def cW (call : CallT) (callW : CallW) (N : Nat) (c : AC) : CodeW :=
  AC.rec (motive := fun _ => CodeW)
    (fun t h c r k => k (.nor t h) c r)
    (fun os t h c r k => osW call callW os t h c r fun t h c r => k (.nor t h) c r)
    (fun l t h c r k => dsW call callW l 0 t h [] c r fun t h c r => k (.nor t h) c r)
    (fun _ _ f g t h c r k => f t h c r fun s c r => s.cs False (fun t h => g t h c r k) (fun i t h => k (.exit i t h) c r) (fun t h => k (.ret t h) c r))
    (fun x _ _ f g t h c r k => (evX x t).asBool False fun b => bc b (f t h c r k) (g t h c r k))
    (fun i _ f t h c r k => f t h c r fun s c r => s.cs False (fun t h => k (.nor t h) c r) (fun j t h => bc (Nat.beq j i) (k (.nor t h) c r) (k (.exit j t h) c r)) (fun t h => k (.ret t h) c r))
    (fun body f t h c r k =>
      step c r (fun r => r.cs (goL f N k t h 0 .fin) (fun _ _ => False) (fun _ _ => False) (fun _ _ _ => False) (fun s r => evC call N (.loop body) t h = s ∧ s.cs False (fun _ _ => True) (fun _ _ _ => True) (fun _ _ => True) ∧ k s r.n r) (fun _ => False) (fun _ => False) (fun _ _ => False)
        (fun s r => ∃ e : Ev, evC call N (.loop body) t h = s e ∧ (s e).cs False (fun _ _ => True) (fun _ _ _ => True) (fun _ _ => True) ∧ k (s e) (r e).n (r e)) (fun _ _ _ => False) (fun _ => False)) (goL f N k t h))
    (fun i t h c r k => k (.exit i t h) c r)
    (fun t h c r k => k (.ret t h) c r)
    (fun _ _ _ _ _ _ => False) c
def resW (rs : List ARes) (t : T) (h : Hp) (c : Nat) (r : Orc) (k : KR) : Prop := (results rs t h).cs False fun v h => k v h c r
def f1W (S : Nat → Option AF) (N : Nat) (call : CallT) (callW : CallW) (f : Nat) (args : List AV) (h : Hp) (c : Nat) (r : Orc) (k : KR) : Prop :=
  ocase False (fun fn => bc (Nat.ble (len args) fn.ntmps) (cW call callW N fn.body (frame0 args) h c r fun s c r => s.cs False (fun t h => resW fn.results t h c r k) (fun _ _ _ => False) (fun t h => resW fn.results t h c r k)) False) (S f)
def evFW (M : Nat → Option (List AV → Hp → RV)) (S : Nat → Option AF) (N : Nat) (d : Nat) : CallW :=
  Nat.rec (motive := fun _ => CallW) (fun _ _ _ _ _ _ => False) (fun d' ih f args h c r k =>
    ocase (f1W S N (evF M S N d') ih f args h c r k) (fun m => (m args h).cs False fun v h => k v h c r) (M f)) d
end
end Eng
end
section
set_option linter.unusedVariables false
set_option linter.unusedSimpArgs false
namespace Eng
open Go Go.RowKit
section
variable {call : CallT} {callW : CallW} {N : Nat}
theorem peel_ok : ∀ {r : Orc} {K : Orc → Prop}, peel r K → ∃ r', K r' := by
  intro r K
  induction r with
  | exi n f ih => intro h; obtain ⟨x, h⟩ := (show ∃ x, peel (f x) K from h); exact ih x h
  | dis n a b ia ib =>
    intro h
    rcases (show peel a K ∨ peel b K from h) with h | h
    · exact ia h
    · exact ib h
  | _ => exact fun h => ⟨_, h⟩
theorem step_ok {c : Nat} {r : Orc} {now : Orc → Prop} {go : Nat → Orc → Prop} (h : step c r now go) : (∃ r', now r') ∨ ∃ m, go m r := by
  cases c with
  | zero => exact .inl (peel_ok h)
  | succ m => exact .inr ⟨m, h⟩
theorem okv {o : OV} {k : AV → Prop} (h : o.cs False k) : ∃ v, o = .ok v ∧ k v := by
  cases o with
  | no => exact h.elim
  | ok v => exact ⟨v, rfl, h⟩
theorem okr {o : RV} {k : AV → Hp → Prop} (h : o.cs False k) : ∃ v h', o = .ok v h' ∧ k v h' := by
  cases o with
  | no => exact h.elim
  | ok v h' => exact ⟨v, h', rfl, h⟩
theorem okb {v : AV} {k : Bool → Prop} (h : (avB v).cs False k) : ∃ b, v = .bool b ∧ k b := by
  cases v <;> first | exact h.elim | exact ⟨_, rfl, h⟩
theorem charsP_ok : ∀ {l : List AV} {K : List Nat → Prop}, charsP l K → ∃ s, bytesAV l = some s ∧ K s
  | [], K, e => ⟨[], rfl, e⟩
  | v :: l, K, e => by
    have e : v.asInt False fun k n => bc (ikEq k .u8) (natOf n False fun m => m < 256 ∧ charsP l fun s => K (m :: s)) False := e
    cases v with
    | int k n =>
      have e : bc (ikEq k .u8) (natOf n False fun m => m < 256 ∧ charsP l fun s => K (m :: s)) False := e
      cases hk : ikEq k .u8 with
      | false => rw [hk] at e; exact e.elim
      | true =>
        rw [hk] at e
        have e : natOf n False fun m => m < 256 ∧ charsP l fun s => K (m :: s) := e
        cases n with
        | negSucc m => exact e.elim
        | ofNat m =>
          obtain ⟨hm, e2⟩ := (show m < 256 ∧ charsP l fun s => K (m :: s) from e)
          obtain ⟨s, h1, h2⟩ := charsP_ok e2
          refine ⟨m :: s, ?_, h2⟩
          show u8Of (.int k (.ofNat m)) none (fun n => ocase none (fun s => some (n :: s)) (bytesAV l)) = _
          rw [h1]
          show bc (ikEq k .u8) (bc (Nat.blt m 256) (some (m :: s)) none) none = _
          rw [hk, show Nat.blt m 256 = true by rw [blt_dec]; simpa using hm]; rfl
    | _ => exact e.elim
theorem tellX_ok {r : Orc} {K : AV → Orc → Prop} (e : tellX r K) : ∃ v r2, K v r2 := by
  cases r with
  | tell n x r => exact ⟨x, r, e⟩
  | _ => exact e.elim
theorem strW_ok {o : QOp} {t : T} {h : Hp} {r : Orc} {K : AV → Orc → Prop} (e : strW o t h r K) : ∃ v r, evQ o t h = .ok v ∧ K v r := by
  cases o with
  | toStr x =>
    have e : (evX x t).asSlice False False fun b o l _ s _ => bc (Nat.beq s 1) (rdN h b o l False fun cs => charsP cs fun s => K (.str s) r) False := e
    show ∃ v r, (evX x t).asSlice OV.no (OV.ok (.str [])) (fun b o l _ s _ => bc (Nat.beq s 1) (rdN h b o l OV.no fun cs => ocase OV.no (fun s => OV.ok (.str s)) (bytesAV2 l cs)) OV.no) = .ok v ∧ K v r
    cases hx : evX x t with
    | slice b o l cp s ex =>
      rw [hx] at e
      have e : bc (Nat.beq s 1) (rdN h b o l False fun cs => charsP cs fun s => K (.str s) r) False := e
      show ∃ v r, bc (Nat.beq s 1) (rdN h b o l OV.no fun cs => ocase OV.no (fun s => OV.ok (.str s)) (bytesAV2 l cs)) OV.no = .ok v ∧ K v r
      cases hs : Nat.beq s 1 with
      | false => rw [hs] at e; exact e.elim
      | true =>
        rw [hs] at e
        have e : rdN h b o l False fun cs => charsP cs fun s => K (.str s) r := e
        show ∃ v r, rdN h b o l OV.no (fun cs => ocase OV.no (fun s => OV.ok (.str s)) (bytesAV2 l cs)) = .ok v ∧ K v r
        unfold rdN hcells at e ⊢
        cases hb : hget h b with
        | none => rw [hb] at e; exact e.elim
        | some y =>
          rw [hb] at e
          cases y with
          | cells cs n w =>
            revert e
            show (bc (Nat.ble (Nat.add o l) n) (charsP (part cs n o l) fun s => K (.str s) r) False) → ∃ v r, (bc (Nat.ble (Nat.add o l) n) (ocase OV.no (fun s => OV.ok (.str s)) (bytesAV2 l (part cs n o l))) OV.no) = .ok v ∧ K v r
            intro e
            cases hn : Nat.ble (Nat.add o l) n with
            | false => rw [hn] at e; exact e.elim
            | true =>
              rw [hn] at e
              obtain ⟨s, h1, h2⟩ := charsP_ok (show charsP (part cs n o l) (fun s => K (.str s) r) from e)
              refine ⟨_, _, ?_, h2⟩
              show ocase OV.no (fun s => OV.ok (.str s)) (bytesAV2 l (part cs n o l)) = _
              rw [bytesAV2_eq, h1]; rfl
          | _ => exact e.elim
    | _ => rw [hx] at e; exact e.elim
  | loadS x =>
    have e : (evX x t).asPtr False fun b o => hcells h b False fun cs _ _ => tellX r fun v r => nth? cs o = some v ∧ K v r := e
    show ∃ v r, (evX x t).asPtr OV.no (fun b o => rd h b o) = .ok v ∧ K v r
    cases hx : evX x t with
    | ptr b o =>
      rw [hx] at e
      have e : hcells h b False fun cs _ _ => tellX r fun v r => nth? cs o = some v ∧ K v r := e
      show ∃ v r, rd h b o = .ok v ∧ K v r
      unfold rd
      unfold hcells at e ⊢
      cases hb : hget h b with
      | none => rw [hb] at e; exact e.elim
      | some y =>
        rw [hb] at e
        cases y with
        | cells cs n w =>
          obtain ⟨v, r2, h1, h2⟩ := tellX_ok (show tellX r (fun v r => nth? cs o = some v ∧ K v r) from e)
          refine ⟨v, r2, ?_, h2⟩
          show ocase OV.no OV.ok (nth? cs o) = _
          rw [h1]; rfl
        | _ => exact e.elim
    | _ => rw [hx] at e; exact e.elim
  | _ => exact e.elim
theorem qW_ok {o : QOp} {t : T} {h : Hp} {c : Nat} {r : Orc} {k : KV} (e : qW o t h c r k) : ∃ v c' r', evQ o t h = .ok v ∧ k v c' r' := by
  rcases step_ok e with ⟨r, e⟩ | ⟨m, e⟩
  · cases r with
    | fin => obtain ⟨v, h1, h2⟩ := okv e; exact ⟨v, _, _, h1, h2⟩
    | tell n x r => exact ⟨x, _, _, e.1, e.2⟩
    | fork n a b =>
      obtain ⟨v, h1, h2⟩ := okv (show (evQ o t h).cs False (fun v => (avB v).cs False fun b' => (b' = true → k (.bool true) a.n a) ∧ (b' = false → k (.bool false) b.n b)) from e)
      obtain ⟨b', rfl, h3⟩ := okb h2
      cases b' with
      | true => exact ⟨_, _, _, h1, h3.1 rfl⟩
      | false => exact ⟨_, _, _, h1, h3.2 rfl⟩
    | eff n x h r => exact False.elim e
    | lp n s r => exact False.elim e
    | again n r => exact False.elim e
    | goal n r =>
      obtain ⟨v, h1, h2⟩ := okv (show (evQ o t h).cs False (fun v => (avB v).cs False fun b' => b' = true ∧ k (.bool true) r.n r) from e)
      obtain ⟨b', rfl, rfl, h3⟩ := okb h2
      exact ⟨_, _, _, h1, h3⟩
    | effx n x r => exact False.elim e
    | lpx n x r => exact False.elim e
    | ell n m x r => exact False.elim e
    | agn n r => obtain ⟨v, r2, h1, h2⟩ := strW_ok (show strW o t h r (fun v r => k v r.n r) from e); exact ⟨v, _, _, h1, h2⟩
    | exi n f => obtain ⟨v, h1, h2⟩ := okv e; exact ⟨v, _, _, h1, h2⟩
    | dis n a b => obtain ⟨v, h1, h2⟩ := okv e; exact ⟨v, _, _, h1, h2⟩
  · obtain ⟨v, h1, h2⟩ := okv e; exact ⟨v, _, _, h1, h2⟩
def CallOk (call : CallT) (callW : CallW) : Prop := ∀ g args h c r k, callW g args h c r k → ∃ v h' c' r', call g args h = .ok v h' ∧ k v h' c' r'
theorem memW_ok {o : EOp} {t : T} {h : Hp} {r : Orc} {k : KR} (e : memW o t h r k) : ∃ v h' c' r', evE o call t h = .ok v h' ∧ k v h' c' r' := by
  cases o with
  | store n a x =>
    have e : bc (Nat.beq n 1) ((evX a t).asPtr False fun b o => bc (isCell (evX x t)) (hcells h b False fun cs n w => o < n ∧ soloP w (k undef (hset h b (.cells (setA cs o (evX x t)) n .solo)) r.n r)) False) False := e
    show ∃ v h' c' r', (bc (Nat.beq n 1) (fun t h => bc (isCell (evX x t)) (oStore1 a x t h) (oStoreN n a x t h)) (oStoreN n a x)) t h = .ok v h' ∧ k v h' c' r'
    cases hn : Nat.beq n 1 with
    | false => rw [hn] at e; exact e.elim
    | true =>
      rw [hn] at e
      have e : (evX a t).asPtr False fun b o => bc (isCell (evX x t)) (hcells h b False fun cs n w => o < n ∧ soloP w (k undef (hset h b (.cells (setA cs o (evX x t)) n .solo)) r.n r)) False := e
      show ∃ v h' c' r', bc (isCell (evX x t)) ((evX a t).asPtr RV.no fun b o => bc (isCell (evX x t)) (wr1 h b o (evX x t)) RV.no) (oStoreN n a x t h) = .ok v h' ∧ k v h' c' r'
      cases ha : evX a t with
      | ptr b o =>
        rw [ha] at e
        have e : bc (isCell (evX x t)) (hcells h b False fun cs n w => o < n ∧ soloP w (k undef (hset h b (.cells (setA cs o (evX x t)) n .solo)) r.n r)) False := e
        cases hc : isCell (evX x t) with
        | false => rw [hc] at e; exact e.elim
        | true =>
          rw [hc] at e
          have e : hcells h b False fun cs n w => o < n ∧ soloP w (k undef (hset h b (.cells (setA cs o (evX x t)) n .solo)) r.n r) := e
          show ∃ v h' c' r', wr1 h b o (evX x t) = .ok v h' ∧ k v h' c' r'
          unfold wr1
          unfold hcells at e ⊢
          cases hb : hget h b with
          | none => rw [hb] at e; exact e.elim
          | some y =>
            rw [hb] at e
            cases y with
            | cells cs n w =>
              obtain ⟨h1, h2⟩ := (show o < n ∧ soloP w (k undef (hset h b (.cells (setA cs o (evX x t)) n .solo)) r.n r) from e)
              cases w with
              | solo =>
                refine ⟨_, _, _, _, ?_, h2⟩
                show bc (Nat.blt o n) (RV.ok undef (hset h b (.cells (upd (evX x t) cs o) n .solo))) RV.no = _
                rw [show Nat.blt o n = true by rw [blt_dec]; simpa using h1]; rfl
              | _ => exact h2.elim
            | _ => exact e.elim
      | _ => rw [ha] at e; exact e.elim
  | append sz bytes s x =>
    have e : bc (Nat.beq sz 1) ((evX x t).asSlice False False fun b o n _ z _ => bc (Nat.beq z 1) (bc (Nat.beq n 1) (hcells h b False fun cs len _ => bc (Nat.beq len 1) False
      (tellX r fun v r => o < len ∧ nth? cs o = some v ∧ (appendTo h sz bytes (evX s t) 1 [v]).cs False fun v h => k v h r.n r)) False) False) False := e
    show ∃ v h' c' r', src h sz (evX x t) RV.no (fun m xs => appendTo h sz bytes (evX s t) m xs) = .ok v h' ∧ k v h' c' r'
    cases hz : Nat.beq sz 1 with
    | false => rw [hz] at e; exact e.elim
    | true =>
      rw [hz] at e
      cases hx : evX x t with
      | slice b o n cp z ex =>
        rw [hx] at e
        have e : bc (Nat.beq z 1) (bc (Nat.beq n 1) (hcells h b False fun cs len _ => bc (Nat.beq len 1) False
          (tellX r fun v r => o < len ∧ nth? cs o = some v ∧ (appendTo h sz bytes (evX s t) 1 [v]).cs False fun v h => k v h r.n r)) False) False := e
        cases hz2 : Nat.beq z 1 with
        | false => rw [hz2] at e; exact e.elim
        | true =>
          rw [hz2] at e
          cases hn : Nat.beq n 1 with
          | false => rw [hn] at e; exact e.elim
          | true =>
            rw [hn] at e
            obtain rfl := Nat.eq_of_beq_eq_true hz
            obtain rfl := Nat.eq_of_beq_eq_true hz2
            obtain rfl := Nat.eq_of_beq_eq_true hn
            have e : hcells h b False fun cs len _ => bc (Nat.beq len 1) False (tellX r fun v r => o < len ∧ nth? cs o = some v ∧ (appendTo h 1 bytes (evX s t) 1 [v]).cs False fun v h => k v h r.n r) := e
            show ∃ v h' c' r', rdN h b o 1 RV.no (fun l => appendTo h 1 bytes (evX s t) 1 l) = .ok v h' ∧ k v h' c' r'
            unfold rdN
            unfold hcells at e ⊢
            cases hb : hget h b with
            | none => rw [hb] at e; exact e.elim
            | some y =>
              rw [hb] at e
              cases y with
              | cells cs len w =>
                have e : bc (Nat.beq len 1) False (tellX r fun v r => o < len ∧ nth? cs o = some v ∧ (appendTo h 1 bytes (evX s t) 1 [v]).cs False fun v h => k v h r.n r) := e
                cases hl : Nat.beq len 1 with
                | true => rw [hl] at e; exact e.elim
                | false =>
                  rw [hl] at e
                  obtain ⟨v, r2, h1, h2, h3⟩ := tellX_ok e
                  obtain ⟨v', h', h4, h5⟩ := okr h3
                  refine ⟨v', h', _, _, ?_, h5⟩
                  show bc (Nat.ble (Nat.add o 1) len) (appendTo h 1 bytes (evX s t) 1 (part cs len o 1)) RV.no = _
                  have hp : part cs len o 1 = [v] := by
                    have k1 : take (drop cs o) 1 = [v] := by
                      rw [nth_eq] at h2
                      rw [take_eq, drop_eq]
                      obtain ⟨k2, k3⟩ := List.getElem?_eq_some_iff.1 h2
                      rw [List.drop_eq_getElem_cons k2, k3]; rfl
                    unfold part
                    rw [show Nat.beq 1 len = false from beqF fun e1 => by rw [← e1] at hl; cases hl]
                    cases ho : Nat.beq o 0 with
                    | false => exact k1
                    | true =>
                      obtain rfl := Nat.eq_of_beq_eq_true ho
                      show take cs 1 = [v]
                      rw [← k1]; rw [take_eq, take_eq, drop_eq]; rfl
                  rw [hp, show Nat.ble (Nat.add o 1) len = true by rw [ble_dec]; exact decide_eq_true (show o + 1 ≤ len by omega)]
                  exact h4
              | _ => exact e.elim
      | _ => rw [hx] at e; exact e.elim
  | _ => exact e.elim
theorem eW_ok (hc : CallOk call callW) {o : EOp} {t : T} {h : Hp} {c : Nat} {r : Orc} {k : KR} (e : eW call callW o t h c r k) : ∃ v h' c' r', evE o call t h = .ok v h' ∧ k v h' c' r' := by
  have go : ∀ c r, goE callW o t h k c r → ∃ v h' c' r', evE o call t h = .ok v h' ∧ k v h' c' r' := by
    intro c r e
    cases o with
    | call f xs =>
      show ∃ v h' c' r', ((evX f t).asFunc RV.no fun g a b => call g (app a (app (evXs xs t) b)) h) = .ok v h' ∧ k v h' c' r'
      have e : (evX f t).asFunc False fun g a b => callW g (app a (app (evXs xs t) b)) h c r k := e
      unfold AV.asFunc at e ⊢
      cases hf : avF (evX f t) with
      | no => rw [hf] at e; exact e.elim
      | nil => rw [hf] at e; exact e.elim
      | other => rw [hf] at e; exact e.elim
      | fn g a b => rw [hf] at e; exact hc _ _ _ _ _ _ e
    | _ => obtain ⟨v, h', h1, h2⟩ := okr e; exact ⟨v, h', _, _, h1, h2⟩
  rcases step_ok (show step c r _ _ from e) with ⟨r, e⟩ | ⟨m, e⟩
  · cases r with
    | fin => exact go _ _ e
    | exi n f => exact go _ _ e
    | dis n a b => exact go _ _ e
    | eff n x h' r => exact ⟨x, h', _, _, e.1, e.2⟩
    | effx n x r => obtain ⟨w, h1, h2⟩ := e; exact ⟨x w, w.h, _, _, h1, h2⟩
    | agn n r => exact memW_ok (show memW o t h r k from e)
    | _ => exact False.elim e
  · exact go _ _ e
theorem lW_ok {o : LOp} {t : T} {c : Nat} {r : Orc} {k : KL} (e : lW o t c r k) : ∃ m x c' r', evL o t = .ok m x ∧ k m x c' r' := by
  have go : ∀ c r, ((evL o t).cs False fun m x => k m x c r) → ∃ m x c' r', evL o t = .ok m x ∧ k m x c' r' := fun c r e => by
    cases hl : evL o t with
    | no => rw [hl] at e; exact e.elim
    | ok m x => rw [hl] at e; exact ⟨m, x, _, _, rfl, e⟩
  rcases step_ok (show step c r _ _ from e) with ⟨r, e⟩ | ⟨m, e⟩
  · cases r with
    | fin => exact go _ _ e
    | exi n f => exact go _ _ e
    | dis n a b => exact go _ _ e
    | ell n m x r => exact ⟨m, x, _, _, e.1, e.2⟩
    | _ => exact False.elim e
  · exact go _ _ e
theorem runW_ok (hc : CallOk call callW) {op : AOp} {d : Option Nat} {t : T} {h : Hp} {c : Nat} {r : Orc} {k : KT} (e : runW call callW op d t h c r k) : ∃ t' h' c' r', runA op d call t h = .ok t' h' ∧ k t' h' c' r' := by
  cases op with
  | q o =>
    obtain ⟨v, c', r', h1, h2⟩ := qW_ok (show qW o t h c r _ from e)
    refine ⟨_, _, c', r', ?_, h2⟩
    show (evQ o t h).then _ = _
    rw [h1]; rfl
  | l o =>
    obtain ⟨m, x, c', r', h1, h2⟩ := lW_ok (show lW o t c r _ from e)
    show ∃ t' h' c' r', ((evL o t).then fun m x => .ok (putT d (mkAt m h.next) t) (hpush h x)) = _ ∧ _
    rw [h1]; exact ⟨_, _, _, _, rfl, h2⟩
  | e o =>
    obtain ⟨v, h', c', r', h1, h2⟩ := eW_ok hc (show eW call callW o t h c r _ from e)
    refine ⟨_, _, c', r', ?_, h2⟩
    show (evE o call t h).then _ = _
    rw [h1]; rfl
theorem oW_ok (hc : CallOk call callW) {o : AO} {t : T} {h : Hp} {c : Nat} {r : Orc} {k : KT} (e : oW call callW o t h c r k) : ∃ t' h' c' r', evO call o t h = .ok t' h' ∧ k t' h' c' r' := by
  obtain ⟨dst, op, g⟩ := o
  cases g with
  | none => exact runW_ok hc e
  | some g =>
    have e : bc (wanted (some g) t) (runW call callW op dst t h c r k) (k (putT dst undef t) h c r) := e
    show ∃ t' h' c' r', bc (wanted (some g) t) (runA op dst call t h) (.ok (putT dst undef t) h) = .ok t' h' ∧ _
    cases hw : wanted (some g) t with
    | true => rw [hw] at e; exact runW_ok hc e
    | false => rw [hw] at e; exact ⟨_, _, _, _, rfl, e⟩
theorem osW_ok (hc : CallOk call callW) : ∀ (os : List AO) {t : T} {h : Hp} {c : Nat} {r : Orc} {k : KT}, osW call callW os t h c r k → ∃ t' h' c' r', evOs call os t h = .ok t' h' ∧ k t' h' c' r'
  | [], t, h, c, r, k, e => ⟨_, _, _, _, rfl, e⟩
  | o :: os, t, h, c, r, k, e => by
    obtain ⟨t1, h1, c1, r1, e1, e2⟩ := oW_ok hc (show oW call callW o t h c r (fun t h c r => osW call callW os t h c r k) from e)
    obtain ⟨t2, h2, c2, r2, e3, e4⟩ := osW_ok hc os e2
    refine ⟨t2, h2, c2, r2, ?_, e4⟩
    show (evO call o t h).then (evOs call os) = _
    rw [e1]; exact e3
theorem stageW_ok {o : AO} {hi : Nat} {t : T} {h : Hp} {ps : List PD} {c : Nat} {r : Orc} {k : KP} (e : stageW o hi t h ps c r k) :
    ∃ t' h' ps' c' r', (∀ kk : T → Hp → List PD → RT, stageO o hi t h ps kk = kk t' h' ps') ∧ k t' h' ps' c' r' := by
  unfold stageW at e
  unfold stageO
  cases hw : wanted o.guard t with
  | false => rw [hw] at e; exact ⟨_, _, _, _, _, fun _ => rfl, e⟩
  | true =>
    rw [hw] at e
    obtain ⟨dst, op, g⟩ := o
    cases op with
    | q f =>
      obtain ⟨v, c', r', h1, h2⟩ := qW_ok (show qW f t h c r _ from e)
      refine ⟨_, _, _, c', r', fun kk => ?_, h2⟩
      show (evQ f t h).then _ = _
      rw [h1]; rfl
    | l f =>
      obtain ⟨m, x, c', r', h1, h2⟩ := lW_ok (show lW f t c r _ from e)
      show ∃ t' h' ps' c' r', (∀ kk : T → Hp → List PD → RT, ((evL f t).then fun m x => kk (putT dst (mkAt m h.next) t) (hpush h x) ps) = kk t' h' ps') ∧ _
      rw [h1]; exact ⟨_, _, _, _, _, fun _ => rfl, h2⟩
    | e f => exact False.elim e
theorem stagesW_ok : ∀ (os : List (AO × Nat)) {t : T} {h : Hp} {ps : List PD} {c : Nat} {r : Orc} {k : KP}, stagesW os t h ps c r k →
    ∃ t' h' ps' c' r', (∀ kk : T → Hp → List PD → RT, stageOs os t h ps kk = kk t' h' ps') ∧ k t' h' ps' c' r'
  | [], t, h, ps, c, r, k, e => ⟨_, _, _, _, _, fun _ => rfl, e⟩
  | o :: os, t, h, ps, c, r, k, e => by
    obtain ⟨t1, h1, ps1, c1, r1, e1, e2⟩ := stageW_ok (show stageW o.1 o.2 t h ps c r (fun t h ps c r => stagesW os t h ps c r k) from e)
    obtain ⟨t2, h2, ps2, c2, r2, e3, e4⟩ := stagesW_ok os e2
    refine ⟨t2, h2, ps2, c2, r2, fun kk => ?_, e4⟩
    show stageO o.1 o.2 t h ps (fun t h ps => stageOs os t h ps kk) = _
    rw [e1, e3]
theorem bcF {b : Bool} {K : Prop} (h : bc b K False) : b = true ∧ K := by
  cases b with
  | true => exact ⟨rfl, h⟩
  | false => exact h.elim
mutual
theorem avC_ok : ∀ (v u : AV) {K : Prop}, avC v u K → avEq v u = true ∧ K
  | .bool b, u, K, e => by
    cases u <;> first | exact False.elim e | skip
    obtain ⟨rfl, h⟩ := (show b = _ ∧ K from e)
    refine ⟨?_, h⟩
    show bc b b (notB b) = true
    cases b <;> rfl
  | .int k n, u, K, e => by
    cases u <;> first | exact False.elim e | skip
    rename_i k' m
    obtain ⟨h1, rfl, h3⟩ := bcF (show bc (ikEq k k') (n = m ∧ K) False from e)
    refine ⟨?_, h3⟩
    show bc (ikEq k k') (eqI n n) false = true
    rw [h1, eqI_eq]; simp
  | .str s, u, K, e => by
    cases u <;> first | exact False.elim e | skip
    obtain ⟨rfl, h⟩ := (show s = _ ∧ K from e)
    refine ⟨?_, h⟩
    show strEq s s = true
    rw [strEq_iff]; simp
  | .nilPtr, u, K, e => by cases u <;> first | exact ⟨rfl, e⟩ | exact False.elim e
  | .ptr b o, u, K, e => by
    cases u <;> first | exact False.elim e | skip
    rename_i b' o'
    obtain ⟨h1, e⟩ := bcF (show bc (Nat.beq b b') (bc (Nat.beq o o') K False) False from e)
    obtain ⟨h2, e⟩ := bcF e
    refine ⟨?_, e⟩
    show bc (Nat.beq b b') (Nat.beq o o') false = true
    rw [h1, h2]; rfl
  | .nilSlice, u, K, e => by cases u <;> first | exact ⟨rfl, e⟩ | exact False.elim e
  | .slice b o l c s x, u, K, e => by
    cases u <;> first | exact False.elim e | skip
    rename_i b' o' l' c' s' x'
    obtain ⟨h1, e⟩ := bcF (show bc (Nat.beq b b') (bc (Nat.beq o o') (bc (Nat.beq l l') (bc (Nat.beq c c') (bc (Nat.beq s s') (bc (bc x x' (notB x')) K False) False) False) False) False) False from e)
    obtain ⟨h2, e⟩ := bcF e
    obtain ⟨h3, e⟩ := bcF e
    obtain ⟨h4, e⟩ := bcF e
    obtain ⟨h5, e⟩ := bcF e
    obtain ⟨h6, e⟩ := bcF e
    refine ⟨?_, e⟩
    show bc (Nat.beq b b') (bc (Nat.beq o o') (bc (Nat.beq l l') (bc (Nat.beq c c') (bc (Nat.beq s s') (bc x x' (notB x')) false) false) false) false) false = true
    rw [h1, h2, h3, h4, h5, h6]; rfl
  | .nilMap, u, K, e => by cases u <;> first | exact ⟨rfl, e⟩ | exact False.elim e
  | .map b, u, K, e => by
    cases u <;> first | exact False.elim e | skip
    exact bcF e
  | .func fn a b, u, K, e => by
    have e : (fnView fn a b).cs False False (fun f _ _ => (avF u).cs False False (fun f' a' b' => bc (Nat.beq f f') (avCs a a' (avCs b b' K)) False) False) False := e
    show (fnView fn a b).cs false false (fun f _ _ => (avF u).cs false false (fun f' a' b' => bc (Nat.beq f f') (bc (avEqs a a') (avEqs b b') false) false) false) false = true ∧ K
    cases hf : fnView fn a b with
    | no => rw [hf] at e; exact False.elim e
    | nil => rw [hf] at e; exact False.elim e
    | other => rw [hf] at e; exact False.elim e
    | fn f x y =>
      rw [hf] at e
      cases hu : avF u with
      | no => rw [hu] at e; exact False.elim e
      | nil => rw [hu] at e; exact False.elim e
      | other => rw [hu] at e; exact False.elim e
      | fn f' a' b' =>
        rw [hu] at e
        obtain ⟨h1, e⟩ := bcF (show bc (Nat.beq f f') (avCs a a' (avCs b b' K)) False from e)
        obtain ⟨h2, e⟩ := avCs_ok a a' e
        obtain ⟨h3, e⟩ := avCs_ok b b' e
        refine ⟨?_, e⟩
        show bc (Nat.beq f f') (bc (avEqs a a') (avEqs b b') false) false = true
        rw [h1, h2, h3]; rfl
  | .nilFunc, u, K, e => by
    have e : (avF u).cs False K (fun _ _ _ => False) False := e
    show (avF u).cs false true (fun _ _ _ => false) false = true ∧ K
    cases hu : avF u with
    | nil => rw [hu] at e; exact ⟨rfl, e⟩
    | _ => rw [hu] at e; exact False.elim e
  | .iface t v, u, K, e => by
    cases u <;> first | exact False.elim e | skip
    rename_i t' w
    obtain ⟨h1, e⟩ := bcF (show bc (Nat.beq t t') (avC v w K) False from e)
    obtain ⟨h2, e⟩ := avC_ok v w e
    refine ⟨?_, e⟩
    show bc (Nat.beq t t') (avEq v w) false = true
    rw [h1, h2]; rfl
  | .nilIface, u, K, e => by cases u <;> first | exact ⟨rfl, e⟩ | exact False.elim e
  | .agg l, u, K, e => by
    cases u <;> first | exact False.elim e | skip
    exact avCs_ok l _ e
  | .tuple l, u, K, e => by
    cases u <;> first | exact False.elim e | skip
    exact avCs_ok l _ e
theorem avCs_ok : ∀ (l m : List AV) {K : Prop}, avCs l m K → avEqs l m = true ∧ K
  | [], m, K, e => by
    cases m with
    | nil => exact ⟨rfl, e⟩
    | cons _ _ => exact False.elim e
  | a :: l, m, K, e => by
    cases m with
    | nil => exact False.elim e
    | cons b m =>
      obtain ⟨h1, e⟩ := avC_ok a b (show avC a b (avCs l m K) from e)
      obtain ⟨h2, e⟩ := avCs_ok l m e
      refine ⟨?_, e⟩
      show bc (avEq a b) (avEqs l m) false = true
      rw [h1, h2]; rfl
end
theorem agnP_ok : ∀ {ps : List PD} {n : Nat} {h : Hp} {K : Prop}, agnP ps n h K → readAgain ps n h = true ∧ K
  | [], n, h, K, e => ⟨rfl, e⟩
  | p :: ps, n, h, K, e => by
    have e : bc (Nat.blt p.hi n) (agnP ps n h K) ((evQ p.o p.t h).cs False fun v => avC p.v v (agnP ps n h K)) := e
    show bc (bc (Nat.blt p.hi n) true (again p.o p.t p.v h)) (readAgain ps n h) false = true ∧ K
    cases hb : Nat.blt p.hi n with
    | true => rw [hb] at e; exact agnP_ok e
    | false =>
      rw [hb] at e
      obtain ⟨v, h1, h2⟩ := okv (show (evQ p.o p.t h).cs False (fun v => avC p.v v (agnP ps n h K)) from e)
      obtain ⟨h3, h4⟩ := avC_ok _ _ h2
      obtain ⟨h5, h6⟩ := agnP_ok h4
      refine ⟨?_, h6⟩
      show bc ((evQ p.o p.t h).cs false fun v' => avEq p.v v') (readAgain ps n h) false = true
      rw [h1]
      show bc (avEq p.v v) (readAgain ps n h) false = true
      rw [h3, h5]; rfl
theorem sl_refl {v : AV} {K : Prop} (e : v.asSlice False K (fun _ _ _ _ _ _ => K)) : avEq v v = true ∧ K := by
  cases v with
  | nilSlice => exact ⟨rfl, e⟩
  | slice b o l c s x =>
    refine ⟨?_, e⟩
    show bc (Nat.beq b b) (bc (Nat.beq o o) (bc (Nat.beq l l) (bc (Nat.beq c c) (bc (Nat.beq s s) (bc x x (notB x)) false) false) false) false) false = true
    rw [Nat.beq_refl, Nat.beq_refl, Nat.beq_refl, Nat.beq_refl, Nat.beq_refl]
    cases x <;> rfl
  | _ => exact e.elim
theorem agnP2_ok : ∀ {ps : List PD} {n : Nat} {h : Hp} {K : Prop}, agnP2 ps n h K → readAgain ps n h = true ∧ K
  | [], n, h, K, e => ⟨rfl, e⟩
  | p :: ps, n, h, K, e => by
    have e : bc (Nat.blt p.hi n) (agnP2 ps n h K) (bc (isSl p.o) (p.v.asSlice False (evQ p.o p.t h = .ok p.v ∧ agnP2 ps n h K) (fun _ _ _ _ _ _ => evQ p.o p.t h = .ok p.v ∧ agnP2 ps n h K)) ((evQ p.o p.t h).cs False fun v => avC p.v v (agnP2 ps n h K))) := e
    show bc (bc (Nat.blt p.hi n) true (again p.o p.t p.v h)) (readAgain ps n h) false = true ∧ K
    cases hb : Nat.blt p.hi n with
    | true => rw [hb] at e; exact agnP2_ok e
    | false =>
      rw [hb] at e
      have e : bc (isSl p.o) (p.v.asSlice False (evQ p.o p.t h = .ok p.v ∧ agnP2 ps n h K) (fun _ _ _ _ _ _ => evQ p.o p.t h = .ok p.v ∧ agnP2 ps n h K)) ((evQ p.o p.t h).cs False fun v => avC p.v v (agnP2 ps n h K)) := e
      have key : (∃ v, evQ p.o p.t h = .ok v ∧ avEq p.v v = true) ∧ agnP2 ps n h K := by
        cases hs : isSl p.o with
        | true =>
          rw [hs] at e
          obtain ⟨h1, h2, h3⟩ := sl_refl (show p.v.asSlice False (evQ p.o p.t h = .ok p.v ∧ agnP2 ps n h K) (fun _ _ _ _ _ _ => evQ p.o p.t h = .ok p.v ∧ agnP2 ps n h K) from e)
          exact ⟨⟨_, h2, h1⟩, h3⟩
        | false =>
          rw [hs] at e
          obtain ⟨v, h1, h2⟩ := okv (show (evQ p.o p.t h).cs False (fun v => avC p.v v (agnP2 ps n h K)) from e)
          obtain ⟨h3, h4⟩ := avC_ok _ _ h2
          exact ⟨⟨v, h1, h3⟩, h4⟩
      obtain ⟨⟨v, h1, h3⟩, h4⟩ := key
      obtain ⟨h5, h6⟩ := agnP2_ok h4
      refine ⟨?_, h6⟩
      show bc ((evQ p.o p.t h).cs false fun v' => avEq p.v v') (readAgain ps n h) false = true
      rw [h1]
      show bc (avEq p.v v) (readAgain ps n h) false = true
      rw [h3, h5]; rfl
theorem againW_ok : ∀ {ps : List PD} {n : Nat} {h : Hp}, againW ps n h → readAgain ps n h = true
  | [], n, h, _ => rfl
  | p :: ps, n, h, e => by
    have e : bc (Nat.blt p.hi n) (againW ps n h) (again p.o p.t p.v h = true ∧ againW ps n h) := e
    show bc (bc (Nat.blt p.hi n) true (again p.o p.t p.v h)) (readAgain ps n h) false = true
    cases hb : Nat.blt p.hi n with
    | true => rw [hb] at e; exact againW_ok e
    | false =>
      rw [hb] at e
      show bc (again p.o p.t p.v h) (readAgain ps n h) false = true
      rw [e.1]; exact againW_ok e.2
theorem dsW_ok (hc : CallOk call callW) : ∀ (l : List DS) {n : Nat} {t : T} {h : Hp} {ps : List PD} {c : Nat} {r : Orc} {k : KT}, dsW call callW l n t h ps c r k →
    ∃ t' h' c' r', evDs call l n t h ps = .ok t' h' ∧ k t' h' c' r'
  | [], n, t, h, ps, c, r, k, e => False.elim e
  | s :: l, n, t, h, ps, c, r, k, e => by
    obtain ⟨t1, h1, ps1, c1, r1, e1, e2⟩ := stagesW_ok s.os (show stagesW s.os t h ps c r _ from e)
    have go : ∀ c r, readAgain ps1 n h1 = true → (ocase (k t1 h1 c r) (fun e => oW call callW e t1 h1 c r fun t h c r => dsW call callW l (Nat.succ n) t h ps1 c r k) s.e : Prop) →
        ∃ t' h' c' r', evDs call (s :: l) n t h ps = .ok t' h' ∧ k t' h' c' r' := by
      intro c r hr e
      have key : evDs call (s :: l) n t h ps = ocase (.ok t1 h1) (fun e => (evO call e t1 h1).then fun t h => evDs call l (Nat.succ n) t h ps1) s.e := by
        show stageOs s.os t h ps _ = _
        rw [e1]
        show bc (readAgain ps1 n h1) _ _ = _
        rw [hr]; rfl
      rw [key]
      cases hs : s.e with
      | none => rw [hs] at e; exact ⟨_, _, _, _, rfl, e⟩
      | some e' =>
        rw [hs] at e
        obtain ⟨t2, h2, c2, r2, e3, e4⟩ := oW_ok hc (show oW call callW e' t1 h1 c r _ from e)
        obtain ⟨t3, h3, c3, r3, e5, e6⟩ := dsW_ok hc l e4
        refine ⟨t3, h3, c3, r3, ?_, e6⟩
        show (evO call e' t1 h1).then _ = _
        rw [e3]; exact e5
    have hbc : ∀ {b : Bool} {p : Prop}, bc b p False → b = true ∧ p := by
      intro b p e
      cases b with
      | true => exact ⟨rfl, e⟩
      | false => exact False.elim e
    rcases step_ok e2 with ⟨r1, e2⟩ | ⟨m, e2⟩
    · cases r1 with
      | fin => obtain ⟨hr, e3⟩ := hbc e2; exact go _ _ hr e3
      | exi n f => obtain ⟨hr, e3⟩ := hbc e2; exact go _ _ hr e3
      | dis n a b => obtain ⟨hr, e3⟩ := hbc e2; exact go _ _ hr e3
      | again n' r' => exact go _ _ (againW_ok e2.1) e2.2
      | agn n' r' => exact go _ _ (agnP_ok e2).1 (agnP_ok e2).2
      | goal n' r' => exact go _ _ (agnP2_ok e2).1 (agnP2_ok e2).2
      | _ => exact False.elim e2
    · obtain ⟨hr, e3⟩ := hbc e2; exact go _ _ hr e3
theorem oks {s : RS} {a : T → Hp → Prop} {b : Nat → T → Hp → Prop} {d : T → Hp → Prop} (e : s.cs False a b d) : s ≠ .no := by
  rintro rfl; exact e
def CodeOk (res : T → Hp → RS) (w : CodeW) : Prop := ∀ t h c r k, w t h c r k → ∃ s c' r', res t h = s ∧ s ≠ .no ∧ k s c' r'
theorem cW_ok (hc : CallOk call callW) : ∀ (a : AC), CodeOk (evC call N a) (cW call callW N a)
  | .skip => fun t h c r k e => ⟨_, c, r, rfl, nofun, e⟩
  | .region os => fun t h c r k e => by
    obtain ⟨t1, h1, c1, r1, e1, e2⟩ := osW_ok hc os (show osW call callW os t h c r _ from e)
    refine ⟨.nor t1 h1, c1, r1, ?_, nofun, e2⟩
    show (evOs call os t h).done = _
    rw [e1]; rfl
  | .drawn l => fun t h c r k e => by
    obtain ⟨t1, h1, c1, r1, e1, e2⟩ := dsW_ok hc l (show dsW call callW l 0 t h [] c r _ from e)
    refine ⟨.nor t1 h1, c1, r1, ?_, nofun, e2⟩
    show (evDs call l 0 t h []).done = _
    rw [e1]; rfl
  | .seq a b => fun t h c r k e => by
    obtain ⟨s, c1, r1, e1, e2, e3⟩ := cW_ok hc a t h c r _ (show cW call callW N a t h c r (fun s c r => s.cs False (fun t h => cW call callW N b t h c r k) (fun i t h => k (.exit i t h) c r) (fun t h => k (.ret t h) c r)) from e)
    show ∃ s c' r', (evC call N a t h).then (evC call N b) = s ∧ _
    rw [e1]
    cases s with
    | no => exact False.elim e3
    | nor t1 h1 => exact cW_ok hc b t1 h1 c1 r1 k e3
    | exit i t1 h1 => exact ⟨_, c1, r1, rfl, nofun, e3⟩
    | ret t1 h1 => exact ⟨_, c1, r1, rfl, nofun, e3⟩
  | .cond x a b => fun t h c r k e => by
    obtain ⟨v, hv, e1⟩ := okb (show (avB (evX x t)).cs False (fun b' => bc b' (cW call callW N a t h c r k) (cW call callW N b t h c r k)) from e)
    show ∃ s c' r', (evX x t).asBool RS.no (fun b' => bc b' (evC call N a t h) (evC call N b t h)) = s ∧ _
    rw [hv]
    cases v with
    | true => exact cW_ok hc a t h c r k e1
    | false => exact cW_ok hc b t h c r k e1
  | .block i a => fun t h c r k e => by
    obtain ⟨s, c1, r1, e1, e2, e3⟩ := cW_ok hc a t h c r _ (show cW call callW N a t h c r _ from e)
    show ∃ s c' r', (evC call N a t h).block i = s ∧ _
    rw [e1]
    cases s with
    | no => exact False.elim e3
    | nor t1 h1 => exact ⟨_, c1, r1, rfl, nofun, e3⟩
    | ret t1 h1 => exact ⟨_, c1, r1, rfl, nofun, e3⟩
    | exit j t1 h1 =>
      have e3 : bc (Nat.beq j i) (k (.nor t1 h1) c1 r1) (k (.exit j t1 h1) c1 r1) := e3
      show ∃ s c' r', bc (Nat.beq j i) (RS.nor t1 h1) (.exit j t1 h1) = s ∧ _
      cases hb : Nat.beq j i with
      | true => rw [hb] at e3; exact ⟨_, c1, r1, rfl, nofun, e3⟩
      | false => rw [hb] at e3; exact ⟨_, c1, r1, rfl, nofun, e3⟩
  | .loop a => fun t h c r k e => by
    have go : ∀ c r, goL (cW call callW N a) N k t h c r → ∃ s c' r', evC call N (.loop a) t h = s ∧ s ≠ .no ∧ k s c' r' := by
      intro c r e
      show ∃ s c' r', rounds (fun _ _ => RS.no) (fun again t h => (evC call N a t h).then again) N t h = s ∧ _
      have key : ∀ (j : Nat) (t : T) (h : Hp) (c : Nat) (r : Orc), goL (cW call callW N a) j k t h c r →
        ∃ s c' r', rounds (fun _ _ => RS.no) (fun again t h => (evC call N a t h).then again) j t h = s ∧ s ≠ .no ∧ k s c' r' := by
        intro j
        induction j with
        | zero => exact fun t h c r e => False.elim e
        | succ j ih =>
          intro t h c r e
          obtain ⟨s, c1, r1, e1, e2, e3⟩ := cW_ok hc a t h c r _ (show cW call callW N a t h c r _ from e)
          show ∃ s c' r', (evC call N a t h).then (rounds (fun _ _ => RS.no) (fun again t h => (evC call N a t h).then again) j) = s ∧ _
          rw [e1]
          cases s with
          | no => exact False.elim e3
          | nor t1 h1 => exact ih t1 h1 c1 r1 e3
          | exit i t1 h1 => exact ⟨_, c1, r1, rfl, nofun, e3⟩
          | ret t1 h1 => exact ⟨_, c1, r1, rfl, nofun, e3⟩
      exact key N t h c r e
    rcases step_ok (show step c r _ _ from e) with ⟨r, e⟩ | ⟨m, e⟩
    · cases r with
      | fin => exact go _ _ e
      | exi n f => exact go _ _ e
      | dis n a b => exact go _ _ e
      | lp n s r => exact ⟨s, _, _, e.1, oks e.2.1, e.2.2⟩
      | lpx n s r => obtain ⟨w, h1, h2, h3⟩ := e; exact ⟨s w, _, _, h1, oks h2, h3⟩
      | _ => exact False.elim e
    · exact go _ _ e
  | .exit i => fun t h c r k e => ⟨_, c, r, rfl, nofun, e⟩
  | .ret => fun t h c r k e => ⟨_, c, r, rfl, nofun, e⟩
  | .fail w => fun t h c r k e => False.elim e
theorem f1W_ok (hc : CallOk call callW) {S : Nat → Option AF} : CallOk (evF1 S N call) (f1W S N call callW) := fun f args h c r k e => by
  have e : (ocase False (fun fn => bc (Nat.ble (len args) fn.ntmps) (cW call callW N fn.body (frame0 args) h c r fun s c r => s.cs False (fun t h => resW fn.results t h c r k) (fun _ _ _ => False) (fun t h => resW fn.results t h c r k)) False) (S f) : Prop) := e
  show ∃ v h' c' r', ocase RV.no (fun fn => bc (Nat.ble (len args) fn.ntmps) (finish fn.results (evC call N fn.body (frame0 args) h)) .no) (S f) = .ok v h' ∧ _
  cases hf : S f with
  | none => rw [hf] at e; exact False.elim e
  | some fn =>
    rw [hf] at e
    have e : bc (Nat.ble (len args) fn.ntmps) (cW call callW N fn.body (frame0 args) h c r fun s c r => s.cs False (fun t h => resW fn.results t h c r k) (fun _ _ _ => False) (fun t h => resW fn.results t h c r k)) False := e
    show ∃ v h' c' r', bc (Nat.ble (len args) fn.ntmps) (finish fn.results (evC call N fn.body (frame0 args) h)) .no = .ok v h' ∧ _
    cases hb : Nat.ble (len args) fn.ntmps with
    | false => rw [hb] at e; exact False.elim e
    | true =>
      rw [hb] at e
      obtain ⟨s, c1, r1, e1, e2, e3⟩ := cW_ok hc fn.body (frame0 args) h c r _ e
      show ∃ v h' c' r', finish fn.results (evC call N fn.body (frame0 args) h) = .ok v h' ∧ _
      rw [e1]
      cases s with
      | no => exact False.elim e3
      | exit i t1 h1 => exact False.elim e3
      | nor t1 h1 => obtain ⟨v, h', h2, h3⟩ := okr e3; exact ⟨v, h', _, _, h2, h3⟩
      | ret t1 h1 => obtain ⟨v, h', h2, h3⟩ := okr e3; exact ⟨v, h', _, _, h2, h3⟩
end
section
variable {P : Program}
end
end Eng
end
section
set_option linter.unusedVariables false
set_option linter.unusedSimpArgs false
namespace Eng
open Go Go.RowKit
noncomputable def ovT (l : List (Nat × AV)) (t : T) : T := lrec t (fun p _ ih => tset (pathOf p.1) p.2 ih) l
noncomputable def slots (L : List Nat) (t : T) : List (Option AV) := lmap (fun i => tget (pathOf i) t) L
def Has (l : List (Nat × AV)) (t : T) : Prop := slots (l.map (·.1)) t = l.map fun p => some p.2
theorem tset_same {α : Type} : ∀ {p : Pth} {v : α} {t : Tr α}, tget p t = some v → tset p v t = t
  | .e, v, t, h => by
    cases t with
    | lf => cases h
    | nd a l r =>
      have h : a = some v := h
      subst h; rfl
  | .l p, v, t, h => by
    cases t with
    | lf =>
      have h : tget p (.lf : Tr α) = some v := h
      rw [tget_lf] at h; cases h
    | nd a l r =>
      show Tr.nd a (tset p v l) r = _
      rw [tset_same (show tget p l = some v from h)]
  | .r p, v, t, h => by
    cases t with
    | lf =>
      have h : tget p (.lf : Tr α) = some v := h
      rw [tget_lf] at h; cases h
    | nd a l r =>
      show Tr.nd a l (tset p v r) = _
      rw [tset_same (show tget p r = some v from h)]
theorem ovT_eq : ∀ {l : List (Nat × AV)} {t : T}, Has l t → ovT l t = t
  | [], t, _ => rfl
  | p :: l, t, h => by
    obtain ⟨h1, h2⟩ := List.cons.inj (show tget (pathOf p.1) t :: slots (l.map (·.1)) t = some p.2 :: l.map (fun p => some p.2) from h)
    show tset (pathOf p.1) p.2 (ovT l t) = t
    rw [ovT_eq (show Has l t from h2)]
    exact tset_same h1
noncomputable def obsS (L : List Nat) (Kn : List (Option AV) → Hp → Prop) (Ke : Nat → List (Option AV) → Hp → Prop) (Kr : List (Option AV) → Hp → Prop) (s : RS) : Prop :=
  s.cs False (fun t h => Kn (slots L t) h) (fun i t h => Ke i (slots L t) h) (fun t h => Kr (slots L t) h)
theorem CallOk.none (call : CallT) : CallOk call (fun _ _ _ _ _ _ => False) := fun _ _ _ _ _ _ h => h.elim
theorem walk_ok {call : CallT} {N : Nat} {c : AC} {t : T} {h : Hp} {o : Orc} {L : List Nat} {Kn : List (Option AV) → Hp → Prop} {Ke : Nat → List (Option AV) → Hp → Prop} {Kr : List (Option AV) → Hp → Prop} {p : Prop}
    (e : cW call (fun _ _ _ _ _ _ => False) N c t h o.n o (fun s _ _ => obsS L Kn Ke Kr s) = p) (hp : p) : ∃ s, evC call N c t h = s ∧ obsS L Kn Ke Kr s := by
  rw [← e] at hp
  obtain ⟨s, _, _, h1, _, h3⟩ := cW_ok (CallOk.none call) c t h _ _ _ hp
  exact ⟨s, h1, h3⟩
theorem fwalk_ok {call : CallT} {S : Nat → Option AF} {N : Nat} {f : Nat} {args : List AV} {h : Hp} {o : Orc} {K : AV → Hp → Prop} {p : Prop}
    (e : f1W S N call (fun _ _ _ _ _ _ => False) f args h o.n o (fun v h _ _ => K v h) = p) (hp : p) : ∃ v h', evF1 S N call f args h = .ok v h' ∧ K v h' := by
  rw [← e] at hp
  obtain ⟨v, h', _, _, h1, h3⟩ := f1W_ok (CallOk.none call) f args h _ _ _ hp
  exact ⟨v, h', h1, h3⟩
theorem loop_ok {call : CallT} {N : Nat} {body : AC} (L : List Nat) (Inv : Nat → List (Option AV) → Hp → Prop) (Ke : Nat → List (Option AV) → Hp → Prop) (Kr : List (Option AV) → Hp → Prop)
    (step : ∀ n t h, Inv n (slots L t) h → ∃ s, evC call N body t h = s ∧ obsS L (fun l h' => ∃ m, m < n ∧ Inv m l h') Ke Kr s) (n : Nat) (hn : n < N) (t : T) (h : Hp) (h0 : Inv n (slots L t) h) :
    ∃ s, evC call N (.loop body) t h = s ∧ obsS L (fun _ _ => False) Ke Kr s := by
  show ∃ s, rounds (fun _ _ => RS.no) (fun again t h => (evC call N body t h).then again) N t h = s ∧ obsS L (fun _ _ => False) Ke Kr s
  have key : ∀ (j n : Nat), n < j → ∀ t h, Inv n (slots L t) h → ∃ s, rounds (fun _ _ => RS.no) (fun again t h => (evC call N body t h).then again) j t h = s ∧ obsS L (fun _ _ => False) Ke Kr s := by
    intro j
    induction j with
    | zero => exact fun n hn => absurd hn (Nat.not_lt_zero _)
    | succ j ih =>
      intro n hn t h hi
      obtain ⟨s, e, hs⟩ := step n t h hi
      show ∃ s, (evC call N body t h).then (rounds (fun _ _ => RS.no) (fun again t h => (evC call N body t h).then again) j) = s ∧ _
      rw [e]
      cases s with
      | no => exact hs.elim
      | nor t' h' =>
        obtain ⟨m, hm, hi'⟩ := (show ∃ m, m < n ∧ Inv m (slots L t') h' from hs)
        exact ih m (by omega) t' h' hi'
      | exit i t' h' => exact ⟨_, rfl, hs⟩
      | ret t' h' => exact ⟨_, rfl, hs⟩
  exact key N n hn t h h0
theorem ltI_t {a b : Nat} (h : ltI (.ofNat a) (.ofNat b) = true) : a < b := by rw [ltI_eq] at h; simpa using h
theorem ltI_f {a b : Nat} (h : ltI (.ofNat a) (.ofNat b) = false) : b ≤ a := by rw [ltI_eq] at h; simpa using h
theorem wrap_i64 {n : Nat} (h : n < 9223372036854775808) : wrapA .i64 (.ofNat n) = .ofNat n := by
  show bc (Nat.blt n 9223372036854775808) (Int.ofNat n) _ = _
  rw [blt_dec, decide_eq_true h]; rfl
theorem wrapU_nat (m n : Nat) : wrapU m (.ofNat n) = .ofNat (n % m) := by
  show bc (Nat.blt n m) (Int.ofNat n) (.ofNat (Nat.mod n m)) = _
  rw [bc_blt]
  split
  · rw [Nat.mod_eq_of_lt ‹_›]
  · rfl
def uns (k : IntKind) : Bool := match k with | .u8 | .u16 | .u32 | .u64 => true | _ => false
theorem wrap_u {k : IntKind} (hk : uns k = true) (n : Nat) : wrapA k (.ofNat n) = .ofNat (n % modK k) := by
  cases k <;> first | exact wrapU_nat _ _ | cases hk
theorem ikEq_self (k : IntKind) : ikEq k k = true := by cases k <;> rfl
theorem q_add {a b : Nat} (h : a + b < 9223372036854775808) : evQ (.bin .add (.const (.int .i64 (.ofNat a))) (.const (.int .i64 (.ofNat b)))) .lf H0 = .ok (.int .i64 (.ofNat (a + b))) := by
  show OV.ok (.int .i64 (wrapA .i64 (.ofNat (a + b)))) = _
  rw [wrap_i64 h]
theorem sub_nat {a b : Nat} (h : b ≤ a) : Int.sub (.ofNat a) (.ofNat b) = .ofNat (a - b) := by
  show (Int.ofNat a - Int.ofNat b : Int) = _
  simp only [Int.ofNat_eq_natCast]; omega
theorem q_sub {a b : Nat} (h : b ≤ a) (ha : a < 9223372036854775808) : evQ (.bin .sub (.const (.int .i64 (.ofNat a))) (.const (.int .i64 (.ofNat b)))) .lf H0 = .ok (.int .i64 (.ofNat (a - b))) := by
  show OV.ok (.int .i64 (wrapA .i64 (Int.sub (.ofNat a) (.ofNat b)))) = _
  rw [sub_nat h, wrap_i64 (by omega)]
theorem u_add {k : IntKind} (hk : uns k = true) {a b : Nat} : evQ (.bin .add (.const (.int k (.ofNat a))) (.const (.int k (.ofNat b)))) .lf H0 = .ok (.int k (.ofNat ((a + b) % modK k))) := by
  show bc (ikEq k k) (okI k (.ofNat (a + b))) .no = _
  rw [ikEq_self]; show OV.ok (.int k (wrapA k (.ofNat (a + b)))) = _
  rw [wrap_u hk]
theorem u_and {k : IntKind} (hk : uns k = true) {a b : Nat} (ha : a < modK k) (hb : b < modK k) : evQ (.bin .and (.const (.int k (.ofNat a))) (.const (.int k (.ofNat b)))) .lf H0 = .ok (.int k (.ofNat (a &&& b))) := by
  show bc (ikEq k k) (okI k (.ofNat (Nat.land (a % modK k) (b % modK k)))) .no = _
  rw [ikEq_self, Nat.mod_eq_of_lt ha, Nat.mod_eq_of_lt hb]; show OV.ok (.int k (wrapA k (.ofNat (a &&& b)))) = _
  rw [wrap_u hk, Nat.mod_eq_of_lt (Nat.lt_of_le_of_lt Nat.and_le_left ha)]
theorem u_or {k : IntKind} (hk : uns k = true) {a b : Nat} (ha : a < modK k) (hb : b < modK k) : evQ (.bin .or (.const (.int k (.ofNat a))) (.const (.int k (.ofNat b)))) .lf H0 = .ok (.int k (.ofNat (a ||| b))) := by
  show bc (ikEq k k) (okI k (.ofNat (Nat.lor (a % modK k) (b % modK k)))) .no = _
  rw [ikEq_self, Nat.mod_eq_of_lt ha, Nat.mod_eq_of_lt hb]; show OV.ok (.int k (wrapA k (.ofNat (a ||| b)))) = _
  have hp : modK k = 2 ^ k.bits := modK_eq k
  rw [wrap_u hk, Nat.mod_eq_of_lt (by rw [hp] at ha hb ⊢; exact Nat.or_lt_two_pow ha hb)]
theorem u_shl {k : IntKind} (hk : uns k = true) {j : IntKind} {a n : Nat} : evQ (.bin .shl (.const (.int k (.ofNat a))) (.const (.int j (.ofNat n)))) .lf H0 = .ok (.int k (.ofNat (a * 2 ^ n % modK k))) := by
  show OV.ok (.int k (wrapA k (.ofNat (a * 2 ^ cut n (bitsK k))))) = _
  rw [wrap_u hk, cut_eq, bitsK_eq, modK_eq]
  rcases Nat.le_total n k.bits with hn | hn
  · rw [Nat.min_eq_left hn]
  · rw [Nat.min_eq_right hn]
    have : a * 2 ^ n % 2 ^ k.bits = 0 := by
      rw [show n = k.bits + (n - k.bits) by omega, Nat.pow_add, ← Nat.mul_assoc, Nat.mul_right_comm]
      exact Nat.mul_mod_left _ _
    rw [this, Nat.mul_mod_left]
theorem u_shr {k : IntKind} (hk : uns k = true) {j : IntKind} {a n : Nat} (ha : a < modK k) : evQ (.bin .shr (.const (.int k (.ofNat a))) (.const (.int j (.ofNat n)))) .lf H0 = .ok (.int k (.ofNat (a / 2 ^ n))) := by
  show OV.ok (.int k (.ofNat (a / 2 ^ cut n (bitsK k)))) = _
  rw [cut_eq, bitsK_eq]
  rw [modK_eq] at ha
  rcases Nat.le_total n k.bits with hn | hn
  · rw [Nat.min_eq_left hn]
  · rw [Nat.min_eq_right hn, Nat.div_eq_of_lt ha, Nat.div_eq_of_lt (Nat.lt_of_lt_of_le ha (Nat.pow_le_pow_right (by decide) hn))]
theorem u_conv {k : IntKind} (hk : uns k = true) {j : IntKind} {a : Nat} : evQ (.toInt k (.const (.int j (.ofNat a)))) .lf H0 = .ok (.int k (.ofNat (a % modK k))) := by
  show OV.ok (.int k (wrapA k (.ofNat a))) = _
  rw [wrap_u hk]
theorem i_conv {j : IntKind} {a : Nat} (ha : a < 9223372036854775808) : evQ (.toInt .i64 (.const (.int j (.ofNat a)))) .lf H0 = .ok (.int .i64 (.ofNat a)) := by
  show OV.ok (.int .i64 (wrapA .i64 (.ofNat a))) = _
  rw [wrap_i64 ha]
noncomputable def elemP (v : AV) (k sz : Nat) : AV := v.asSlice .nilPtr .nilPtr fun b o _ _ _ _ => .ptr b (o + k * sz)
noncomputable def partS (v : AV) (lo hi : Nat) : AV := v.asSlice v v fun b o _ c s e => .slice b (o + lo * s) (hi - lo) (c - lo) s e
theorem q_idx {b o n c sz k : Nat} {ex : Bool} (h : k < n) : evQ (.idxAddrSl sz (.const (.slice b o n c sz ex)) (.const (.int .i64 (.ofNat k)))) .lf H0 = .ok (.ptr b (o + k * sz)) := by
  show bc (Nat.beq sz sz) (bc (Nat.blt k n) (OV.ok (.ptr b (o + k * sz))) .no) .no = _
  rw [Nat.beq_refl, blt_dec, decide_eq_true h]; rfl
theorem u8s_eq (l : List Nat) : u8s l = l.map fun n => AV.int .u8 (.ofNat n) := lmap_eq _ _
abbrev vi (n : Nat) : AV := .int .i64 (.ofNat n)
abbrev vb8 (n : Nat) : AV := .int .u8 (.ofNat n)
abbrev vw (n : Nat) : AV := .int .u32 (.ofNat n)
abbrev vq (n : Nat) : AV := .int .u64 (.ofNat n)
end Eng
end
section
set_option linter.unusedVariables false
set_option linter.unusedSimpArgs false
namespace Eng
open Go Go.RowKit
structure Old (B : Nat) (h h' : Hp) : Prop where
  next : h.next ≤ h'.next
  get : ∀ b, b < B → hget h' b = hget h b
theorem Old.refl (B : Nat) (h : Hp) : Old B h h := ⟨Nat.le_refl _, fun _ _ => rfl⟩
theorem Old.trans {B : Nat} {h h' h'' : Hp} (a : Old B h h') (b : Old B h' h'') : Old B h h'' := ⟨Nat.le_trans a.next b.next, fun k hk => (b.get k hk).trans (a.get k hk)⟩
theorem Old.le {B C : Nat} {h h' : Hp} (a : Old B h h') (hc : C ≤ B) : Old C h h' := ⟨a.next, fun k hk => a.get k (by omega)⟩
theorem Old.push {B : Nat} {h : Hp} (hB : B ≤ h.next) (x : Blk) : Old B h (hpush h x) := ⟨Nat.le_succ _, fun k hk => hget_hpush_ne h x (by omega)⟩
theorem Old.set {B b : Nat} {h : Hp} (hB : B ≤ b) (x : Blk) : Old B h (hset h b x) := ⟨Nat.le_refl _, fun k hk => hget_hset_ne h x (by omega)⟩
inductive Owned (sz B : Nat) (h : Hp) : AV → Nat → List AV → Prop
  | nil : Owned sz B h .nilSlice 0 []
  | sl {b n : Nat} {ex : Bool} {w : Own} {L : List AV} (hB : B ≤ b) (hb : b < h.next) (hg : hget h b = some (.cells L (n * sz) w)) (hl : L.length = n * sz) (hw : w = .solo ∨ ∃ p, w = .pair p ∧ (B ≤ p ∧ p < h.next) ∧ p ≠ b) :
    Owned sz B h (.slice b 0 n n sz ex) n L
theorem Owned.push {sz B : Nat} {h : Hp} {s : AV} {n : Nat} {L : List AV} (o : Owned sz B h s n L) (x : Blk) : Owned sz B (hpush h x) s n L := by
  cases o with
  | nil => exact .nil
  | sl hB hb hg hl hw => exact .sl hB (by rw [hpush_next]; omega) (by rw [hget_hpush_ne h x (by omega)]; exact hg) hl (hw.imp id fun ⟨p, h1, h2, h3⟩ => ⟨p, h1, ⟨h2.1, by rw [hpush_next]; omega⟩, h3⟩)
theorem Owned.low {sz B C : Nat} {h : Hp} {s : AV} {n : Nat} {L : List AV} (o : Owned sz B h s n L) (hc : C ≤ B) : Owned sz C h s n L := by
  cases o with
  | nil => exact .nil
  | sl hB hb hg hl hw => exact .sl (by omega) hb hg hl (by rcases hw with h | ⟨p, h1, h2, h3⟩; exact .inl h; exact .inr ⟨p, h1, by omega, h3⟩)
theorem Owned.old {sz B C : Nat} {h h' : Hp} {s : AV} {n : Nat} {L : List AV} (o : Owned sz B h s n L) (a : Old C h h') (hc : h.next ≤ C) : Owned sz B h' s n L := by
  cases o with
  | nil => exact .nil
  | sl hB hb hg hl hw => exact .sl hB (by have := a.next; omega) (by rw [a.get _ (by omega)]; exact hg) hl (hw.imp id fun ⟨p, h1, h2, h3⟩ => ⟨p, h1, ⟨h2.1, by have := a.next; omega⟩, h3⟩)
theorem Owned.blk {sz B : Nat} {h : Hp} {s : AV} {n : Nat} {L : List AV} (o : Owned sz B h s n L) : ∀ b o' l c z ex, s = .slice b o' l c z ex → b < h.next := by
  cases o with
  | nil => intro b o' l c z ex e; cases e
  | sl hB hb hg hl hw => intro b o' l c z ex e; cases e; exact hb
theorem Owned.len {sz B n : Nat} {h : Hp} {v : AV} {L : List AV} (o : Owned sz B h v n L) : L.length = n * sz := by
  cases o with
  | nil => simp
  | sl hB hb hg hl hw => exact hl
inductive Bytes (B : Nat) (h : Hp) : AV → List Nat → Prop
  | nil : Bytes B h .nilSlice []
  | sl {b o c : Nat} {ex : Bool} {cs : List AV} {m : Nat} {w : Own} {l : List Nat} (hB : b < B) (hg : hget h b = some (.cells cs m w)) (hcl : cs.length = m) (hl : (cs.drop o).take l.length = u8s l) (hm : o + l.length ≤ m) (hc : l.length ≤ c) (hb : ∀ x ∈ l, x < 256) :
    Bytes B h (.slice b o l.length c 1 ex) l
theorem Bytes.lt {B : Nat} {h : Hp} {v : AV} {l : List Nat} (o : Bytes B h v l) : ∀ x ∈ l, x < 256 := by
  cases o with
  | nil => simp
  | sl hB hg hcl hl hm hc hb => exact hb
theorem Owned.bytes {B C : Nat} {h : Hp} {s : AV} {n : Nat} {l : List Nat} (o : Owned 1 B h s n (u8s l)) (hb : ∀ x ∈ l, x < 256) (hC : h.next ≤ C) : Bytes C h s l := by
  generalize hL : u8s l = L at o
  cases o with
  | nil =>
    cases l with
    | nil => exact .nil
    | cons x l => cases hL
  | @sl b n ex w L hB hb' hg hl hw =>
    subst hL
    have hn : l.length = n := by rw [u8s_length] at hl; omega
    subst hn
    exact .sl (by omega) hg hl (by rw [List.drop_zero, List.take_of_length_le (by rw [u8s_length]; omega)]) (by omega) (Nat.le_refl _) hb
theorem Bytes.old {B : Nat} {h h' : Hp} {v : AV} {l : List Nat} (o : Bytes B h v l) (a : Old B h h') : Bytes B h' v l := by
  cases o with
  | nil => exact .nil
  | sl hB hg hcl hl hm hc hb => exact .sl hB (by rw [a.get _ hB]; exact hg) hcl hl hm hc hb
theorem Bytes.up {B C : Nat} {h : Hp} {v : AV} {l : List Nat} (o : Bytes B h v l) (hC : B ≤ C) : Bytes C h v l := by
  cases o with
  | nil => exact .nil
  | sl hB hg hcl hl hm hc hb => exact .sl (by omega) hg hcl hl hm hc hb
theorem Bytes.part {B : Nat} {h : Hp} {v : AV} {l : List Nat} (o : Bytes B h v l) {lo hi : Nat} (h1 : lo ≤ hi) (h2 : hi ≤ l.length) : Bytes B h (partS v lo hi) ((l.take hi).drop lo) := by
  cases o with
  | nil =>
    have : hi = 0 := Nat.le_zero.1 h2
    subst this
    obtain rfl : lo = 0 := Nat.le_zero.1 h1
    exact .nil
  | @sl b o c ex cs m w l hB hg hcl hl hm hc hb =>
    have hlen : ((l.take hi).drop lo).length = hi - lo := by rw [List.length_drop, List.length_take]; omega
    have key : partS (.slice b o l.length c 1 ex) lo hi = .slice b (o + lo) ((l.take hi).drop lo).length (c - lo) 1 ex := by
      rw [hlen]
      show AV.slice b (o + lo * 1) (hi - lo) (c - lo) 1 ex = _
      rw [Nat.mul_one]
    rw [key]
    refine .sl hB hg hcl ?_ (by rw [hlen]; omega) (by rw [hlen]; omega) (fun x hx => hb x (List.mem_of_mem_take (List.mem_of_mem_drop hx)))
    rw [hlen]
    have e1 : (cs.drop (o + lo)).take (hi - lo) = (((cs.drop o).take l.length).take hi).drop lo := by
      rw [List.take_take, List.drop_take, List.drop_drop, Nat.min_eq_left h2]
    rw [e1, hl, u8s_eq, u8s_eq, ← List.map_take, ← List.map_drop]
end Eng
namespace Eng
open Go Go.RowKit
end Eng
namespace Eng
open Go Go.RowKit
theorem part_from {B : Nat} {h : Hp} {v : AV} {l : List Nat} (o : Bytes B h v l) {lo : Nat} (h1 : lo ≤ l.length) : Bytes B h (partS v lo l.length) (l.drop lo) := by
  have := o.part h1 (Nat.le_refl _)
  rwa [List.take_of_length_le (Nat.le_refl _)] at this
theorem part_to {B : Nat} {h : Hp} {v : AV} {l : List Nat} (o : Bytes B h v l) {hi : Nat} (h1 : hi ≤ l.length) : Bytes B h (partS v 0 hi) (l.take hi) := by
  have := o.part (Nat.zero_le hi) h1
  rwa [List.drop_zero] at this
end Eng
namespace Eng
open Go Go.RowKit
end Eng
end
section
set_option linter.unusedVariables false
set_option linter.unusedSimpArgs false
namespace Eng
open Go Go.RowKit
def startM (n : Nat) (f : Nat → Nat × Nat) (w : World) : Mp := ⟨fun b => if b < n then some (f b) else none, fun _ => false, fun c => match w.heap[c]? with | some (.cells arr _ _) => arr.size | _ => 0⟩
theorem Goes.below' {μ μ' : Mp} {h h' : Hp} {w w' : World} (hm : ∀ c, μ.own c = false) (g : Goes μ h w μ' h' w') : Below w.heap.size w w' := ⟨g.os, g.tape, g.output, g.heap, fun k hk => g.kept k hk (hm k)⟩
structure BArg where
  v : Value
  c : Nat
  s : Nat
  l : List Nat
def BArg.lies (w : World) (a : BArg) : Prop := (∀ x ∈ a.l, x < 256) ∧ ((a.v = .slice none 0 0 ∧ a.l = []) ∨ ∃ cap arr e fr, a.v = .slice (some ⟨a.c, a.s, none⟩) a.l.length cap ∧ w.heap[a.c]? = some (.cells arr e fr) ∧ a.l.length ≤ cap ∧ (cap ≠ 0 → a.s + cap ≤ arr.size) ∧
  ∀ (i : Nat) (x : Nat), a.l[i]? = some x → arr[a.s + i]? = some (.int .u8 (.ofNat x)))
theorem u8s_at {l : List Nat} {i : Nat} {v : AV} (h : (u8s l)[i]? = some v) : ∃ x, l[i]? = some x ∧ v = .int .u8 (.ofNat x) := by
  rw [u8s_eq, List.getElem?_map] at h
  cases hl : l[i]? with
  | none => rw [hl] at h; cases h
  | some x => rw [hl] at h; cases h; exact ⟨x, rfl, rfl⟩
end Eng
namespace Eng
open Go Go.RowKit Go.ChangeShapes Go.WideShapes
theorem u8_wf {x : Int} (h : (Lit.int .u8 x).wf = true) : ∃ n : Nat, x = .ofNat n ∧ n < 256 := by
  have h1 : IntKind.u8.min = 0 := rfl
  have h2 : IntKind.u8.max = 255 := rfl
  simp only [Lit.wf, Bool.and_eq_true, decide_eq_true_eq] at h
  exact ⟨x.toNat, by simp; omega, by omega⟩
end Eng
end
section
set_option linter.unusedVariables false
namespace Eng
open Go
theorem loop_st {call : CallT} {N : Nat} {body : AC} {σ : Type} (fr : σ → List (Nat × AV)) (L : List Nat) (hL : ∀ x, (fr x).map (·.1) = L) (Inv : σ → Hp → Prop) (meas : σ → Nat) (E : Nat → σ → Hp → Prop) (R : List (Option AV) → Hp → Prop)
    (step : ∀ x t h, Inv x h → ∃ s, evC call N body (ovT (fr x) t) h = s ∧ obsS L (fun ls h' => ∃ y, ls = (fr y).map (fun p => some p.2) ∧ Inv y h' ∧ meas y < meas x) (fun i ls h' => ∃ y, ls = (fr y).map (fun p => some p.2) ∧ E i y h') R s)
    (x0 : σ) (h : Hp) (hx : Inv x0 h) (hN : meas x0 < N) (t : T) (ht : Has (fr x0) t) :
    (∃ i y t' h', evC call N (.loop body) t h = .exit i t' h' ∧ Has (fr y) t' ∧ E i y h') ∨ (∃ t' h', evC call N (.loop body) t h = .ret t' h' ∧ R (slots L t') h') := by
  obtain ⟨s, e, hs⟩ := loop_ok (call := call) (N := N) (body := body) L (fun n ls h' => ∃ y, ls = (fr y).map (fun p => some p.2) ∧ Inv y h' ∧ meas y = n) (fun i ls h' => ∃ y, ls = (fr y).map (fun p => some p.2) ∧ E i y h') R
    (fun n t h ⟨y, hy, hi, hn⟩ => by
      have hh : Has (fr y) t := by unfold Has; rw [hL]; exact hy
      obtain ⟨s, e, hs⟩ := step y t h hi
      rw [ovT_eq hh] at e
      refine ⟨s, e, ?_⟩
      cases s with
      | no => exact hs
      | nor t' h' =>
        obtain ⟨z, h1, h2, h3⟩ := (show ∃ z, slots L t' = (fr z).map (fun p => some p.2) ∧ Inv z h' ∧ meas z < meas y from hs)
        exact (show ∃ m, m < n ∧ ∃ y, slots L t' = (fr y).map (fun p => some p.2) ∧ Inv y h' ∧ meas y = m from ⟨meas z, by omega, z, h1, h2, rfl⟩)
      | exit i t' h' => exact hs
      | ret t' h' => exact hs)
    (meas x0) hN t h ⟨x0, by unfold Has at ht; rw [hL] at ht; exact ht, hx, rfl⟩
  cases s with
  | no => exact hs.elim
  | nor t' h' => exact hs.elim
  | exit i t' h' =>
    obtain ⟨y, h1, h2⟩ := (show ∃ y, slots L t' = (fr y).map (fun p => some p.2) ∧ E i y h' from hs)
    exact .inl ⟨i, y, t', h', e, by unfold Has; rw [hL]; exact h1, h2⟩
  | ret t' h' => exact .inr ⟨t', h', e, hs⟩
end Eng
end
section
set_option linter.unusedVariables false
set_option linter.unusedSimpArgs false
namespace Eng
open Go Go.RowKit
def TwinAt (h : Hp) (v : AV) (l : List Nat) : Prop := ∃ b w, v = .slice b 0 l.length (l.length + 3) 1 true ∧ b < h.next ∧ hget h b = some (.cells (u8s (l ++ [229, 229, 229])) (l.length + 3) w) ∧ ∀ x ∈ l, x < 256
theorem TwinAt.bytes {h : Hp} {v : AV} {l : List Nat} (o : TwinAt h v l) : Bytes h.next h v l := by
  obtain ⟨b, w, rfl, hb, hg, hl⟩ := o
  refine .sl hb hg (by rw [u8s_length]; simp) ?_ (by omega) (by omega) hl
  rw [List.drop_zero, u8s_eq, u8s_eq, ← List.map_take, List.take_left' rfl]
def TwinS (call : CallT) (f : Nat) : Prop := ∀ {B : Nat} {h : Hp} {vb : AV} {l : List Nat}, B ≤ h.next → Bytes B h vb l → l.length ≤ 1099511627776 → ∃ rv rh, call f [vb] h = .ok rv rh ∧ TwinAt rh rv l ∧ Old B h rh ∧ B ≤ rh.next
def KeptS (call : CallT) (f : Nat) : Prop := ∀ {h : Hp} {vb vt : AV} {l : List Nat}, TwinAt h vt l → Bytes h.next h vb l → l.length ≤ 1099511627776 → call f [vt, vb] h = .ok (.bool true) h
theorem ltI_true {a b : Nat} (h : a < b) : ltI (.ofNat a) (.ofNat b) = true := by rw [ltI_eq]; simpa using h
theorem ltI_false {a b : Nat} (h : b ≤ a) : ltI (.ofNat a) (.ofNat b) = false := by rw [ltI_eq]; simpa using h
end Eng
namespace Eng
open Go
end Eng
namespace Eng
open Go
end Eng
namespace Eng
open Go
end Eng
namespace Eng
theorem eqI_self (n : Int) : eqI n n = true := by rw [eqI_eq]; simp
end Eng
end
section
set_option linter.unusedVariables false
set_option linter.unusedSimpArgs false
namespace Eng
open Go Go.RowKit
structure AObj where
  p : Hp → (Nat → Prop) → Prop
  loc : ∀ {h h' : Hp} {G : Nat → Prop}, (∀ k, G k → hget h' k = hget h k) → p h G → p h' G
def Sep (os : List AObj) (h : Hp) : Prop :=
  ∃ g : Nat → Nat → Prop, (∀ (i : Nat) (o : AObj), os[i]? = some o → o.p h (g i)) ∧ (∀ i k, g i k → k < h.next) ∧ ∀ i j k, g i k → g j k → i = j
theorem Sep.nil (h : Hp) : Sep [] h := by
  refine ⟨fun _ _ => False, fun i o e => ?_, fun i k e => e.elim, fun i j k e _ => e.elim⟩
  cases e
theorem Sep.at {os : List AObj} {h : Hp} (S : Sep os h) {i : Nat} {o : AObj} (hi : os[i]? = some o) : ∃ G : Nat → Prop, o.p h G ∧ (∀ k, G k → k < h.next) ∧
    ∀ (h' : Hp) (o' : AObj) (G' : Nat → Prop), h.next ≤ h'.next → o'.p h' G' → (∀ k, G' k → G k ∨ (h.next ≤ k ∧ k < h'.next)) → (∀ k, k < h.next → ¬ G k → hget h' k = hget h k) → Sep (os.set i o') h' := by
  obtain ⟨g, g1, g2, g3⟩ := S
  have hil : i < os.length := (List.getElem?_eq_some_iff.1 hi).1
  refine ⟨g i, g1 i o hi, g2 i, fun h' o' G' hn ho hG hf => ⟨fun j k => (j = i ∧ G' k) ∨ (j ≠ i ∧ g j k), fun j x hj => ?_, fun j k hk => ?_, fun j1 j2 k h1 h2 => ?_⟩⟩
  · by_cases e : j = i
    · subst e
      rw [List.getElem?_set_self hil] at hj
      cases hj
      have : (fun k => (j = j ∧ G' k) ∨ (j ≠ j ∧ g j k)) = G' := by funext k; simp
      show o'.p h' (fun k => (j = j ∧ G' k) ∨ (j ≠ j ∧ g j k))
      rw [this]; exact ho
    · rw [List.getElem?_set_ne (Ne.symm e)] at hj
      have : (fun k => (j = i ∧ G' k) ∨ (j ≠ i ∧ g j k)) = g j := by funext k; simp [e]
      show x.p h' (fun k => (j = i ∧ G' k) ∨ (j ≠ i ∧ g j k))
      rw [this]
      exact x.loc (fun k hk => hf k (g2 j k hk) fun hc => e (g3 j i k hk hc)) (g1 j x hj)
  · rcases hk with ⟨_, hk⟩ | ⟨_, hk⟩
    · rcases hG k hk with hk | ⟨_, hk⟩
      · have := g2 i k hk; omega
      · exact hk
    · have := g2 j k hk; omega
  · rcases h1 with ⟨e1, h1⟩ | ⟨e1, h1⟩ <;> rcases h2 with ⟨e2, h2⟩ | ⟨e2, h2⟩
    · rw [e1, e2]
    · rcases hG k h1 with h1 | ⟨h1, _⟩
      · exact absurd (g3 i j2 k h1 h2) (Ne.symm e2)
      · have := g2 j2 k h2; omega
    · rcases hG k h2 with h2 | ⟨h2, _⟩
      · exact absurd (g3 i j1 k h2 h1) (Ne.symm e1)
      · have := g2 j1 k h1; omega
    · exact g3 j1 j2 k h1 h2
theorem Sep.add {os : List AObj} {h : Hp} (S : Sep os h) {h' : Hp} {o : AObj} (G : Nat → Prop) (hn : h.next ≤ h'.next) (ho : o.p h' G) (hG : ∀ k, G k → h.next ≤ k ∧ k < h'.next) (hf : ∀ k, k < h.next → hget h' k = hget h k) : Sep (o :: os) h' := by
  obtain ⟨g, g1, g2, g3⟩ := S
  refine ⟨fun j => Nat.casesOn j G g, fun j x hj => ?_, fun j k hk => ?_, fun j1 j2 k h1 h2 => ?_⟩
  · cases j with
    | zero => cases hj; exact ho
    | succ j => exact x.loc (fun k hk => hf k (g2 j k hk)) (g1 j x hj)
  · cases j with
    | zero => exact (hG k hk).2
    | succ j => have := g2 j k hk; omega
  · cases j1 with
    | zero =>
      cases j2 with
      | zero => rfl
      | succ j2 => have a := hG k h1; have b := g2 j2 k h2; omega
    | succ j1 =>
      cases j2 with
      | zero => have a := hG k h2; have b := g2 j1 k h1; omega
      | succ j2 => rw [g3 j1 j2 k h1 h2]
theorem Sep.on {os : List AObj} {h h' : Hp} (S : Sep os h) (hn : h.next ≤ h'.next) (hf : ∀ k, k < h.next → hget h' k = hget h k) : Sep os h' := by
  obtain ⟨g, g1, g2, g3⟩ := S
  exact ⟨g, fun j x hj => x.loc (fun k hk => hf k (g2 j k hk)) (g1 j x hj), fun j k hk => by have := g2 j k hk; omega, g3⟩
theorem Sep.tail {o : AObj} {os : List AObj} {h : Hp} (S : Sep (o :: os) h) : Sep os h := by
  obtain ⟨g, g1, g2, g3⟩ := S
  exact ⟨fun j => g (j + 1), fun j x hj => g1 (j + 1) x hj, fun j k hk => g2 (j + 1) k hk, fun j1 j2 k h1 h2 => by have := g3 _ _ k h1 h2; omega⟩
theorem Sep.turn {os : List AObj} {h : Hp} (S : Sep os h) {i : Nat} {o o' : AObj} (hi : os[i]? = some o) (f : ∀ G, (∀ k, G k → k < h.next) → o.p h G → o'.p h G) : Sep (os.set i o') h := by
  obtain ⟨G, hp, hb, go⟩ := S.at hi
  exact go h o' G (Nat.le_refl _) (f G hb hp) (fun k hk => .inl hk) fun k hk hn => rfl
def Frz (G0 : Nat → Prop) (h0 : Hp) : AObj where
  p h G := (∀ k, G0 k → G k) ∧ ∀ k, G0 k → hget h k = hget h0 k
  loc := fun hf ⟨h1, h2⟩ => ⟨h1, fun k hk => (hf k (h1 k hk)).trans (h2 k hk)⟩
theorem Sep.freeze {os : List AObj} {h : Hp} (S : Sep os h) {i : Nat} {o : AObj} (hi : os[i]? = some o) : ∃ G : Nat → Prop, o.p h G ∧ (∀ k, G k → k < h.next) ∧ Sep (os.set i (Frz G h)) h := by
  obtain ⟨G, hp, hb, go⟩ := S.at hi
  exact ⟨G, hp, hb, go h _ G (Nat.le_refl _) ⟨fun k hk => hk, fun _ _ => rfl⟩ (fun k hk => .inl hk) fun k hk hn => rfl⟩
theorem Sep.start (h : Hp) : Sep [Frz (fun k => k < h.next) h] h :=
by
  refine ⟨fun i k => i = 0 ∧ k < h.next, fun i o hi => ?_, fun i k hk => hk.2, fun i j k h1 h2 => h1.1.trans h2.1.symm⟩
  cases i with
  | zero => cases hi; exact ⟨fun k hk => ⟨rfl, hk⟩, fun _ _ => rfl⟩
  | succ i => cases hi
theorem Sep.frozen {os : List AObj} {h : Hp} (S : Sep os h) {i : Nat} {G : Nat → Prop} {h0 : Hp} (hi : os[i]? = some (Frz G h0)) {k : Nat} (hk : G k) : k < h.next ∧ hget h k = hget h0 k := by
  obtain ⟨G', hp, hb, go⟩ := S.at hi
  exact ⟨hb k (hp.1 k hk), hp.2 k hk⟩
def blkOf : AV → Option Nat
  | .slice b _ _ _ _ _ => some b
  | _ => none
def BIn (G : Nat → Prop) (h : Hp) (v : AV) (l : List Nat) : Prop := (∃ B, Bytes B h v l) ∧ ∀ b, blkOf v = some b → G b
theorem BIn.nil {G : Nat → Prop} {h : Hp} : BIn G h .nilSlice [] := ⟨⟨0, .nil⟩, fun b e => by cases e⟩
theorem BIn.lt {G : Nat → Prop} {h : Hp} {v : AV} {l : List Nat} (P : BIn G h v l) : ∀ x ∈ l, x < 256 := by
  obtain ⟨⟨B, P⟩, _⟩ := P; exact P.lt
theorem BIn.of {B : Nat} {h : Hp} {v : AV} {l : List Nat} (P : Bytes B h v l) : BIn (fun k => k < B) h v l := by
  refine ⟨⟨B, P⟩, fun b e => ?_⟩
  cases P with
  | nil => cases e
  | sl hB hg hcl hl hm hc hb => cases e; exact hB
theorem BIn.now {os : List AObj} {h : Hp} (S : Sep os h) {i : Nat} {G : Nat → Prop} {h0 : Hp} (hi : os[i]? = some (Frz G h0)) {v : AV} {l : List Nat} (P : BIn G h0 v l) : Bytes h.next h v l := by
  obtain ⟨⟨B, P⟩, hG⟩ := P
  cases P with
  | nil => exact .nil
  | sl hB hg hcl hl hm hc hb =>
    obtain ⟨h1, h2⟩ := S.frozen hi (hG _ rfl)
    exact .sl h1 (h2.trans hg) hcl hl hm hc hb
theorem blkOf_part (v : AV) (lo hi : Nat) : blkOf (partS v lo hi) = blkOf v := by cases v <;> rfl
theorem BIn.part {G : Nat → Prop} {h : Hp} {v : AV} {l : List Nat} (P : BIn G h v l) {lo hi : Nat} (h1 : lo ≤ hi) (h2 : hi ≤ l.length) : BIn G h (partS v lo hi) ((l.take hi).drop lo) := by
  obtain ⟨⟨B, P⟩, hG⟩ := P
  exact ⟨⟨B, P.part h1 h2⟩, fun b e => hG b (by rwa [blkOf_part] at e)⟩
theorem BIn.from {G : Nat → Prop} {h : Hp} {v : AV} {l : List Nat} (P : BIn G h v l) {lo : Nat} (h1 : lo ≤ l.length) : BIn G h (partS v lo l.length) (l.drop lo) := by
  obtain ⟨⟨B, P⟩, hG⟩ := P
  exact ⟨⟨B, part_from P h1⟩, fun b e => hG b (by rwa [blkOf_part] at e)⟩
theorem BIn.to {G : Nat → Prop} {h : Hp} {v : AV} {l : List Nat} (P : BIn G h v l) {hi : Nat} (h1 : hi ≤ l.length) : BIn G h (partS v 0 hi) (l.take hi) := by
  obtain ⟨⟨B, P⟩, hG⟩ := P
  exact ⟨⟨B, part_to P h1⟩, fun b e => hG b (by rwa [blkOf_part] at e)⟩
def Cel (b : Nat) (cs : List AV) : AObj where
  p h G := G b ∧ hget h b = some (.cells cs cs.length .solo)
  loc := fun hf ⟨h1, h2⟩ => ⟨h1, (hf _ h1).trans h2⟩
end Eng
end
section
set_option linter.unusedVariables false
set_option linter.unusedSimpArgs false
namespace Eng
open Go Go.RowKit
inductive OwnI (sz : Nat) (h : Hp) (G : Nat → Prop) : AV → Nat → List AV → Prop
  | nil : OwnI sz h G .nilSlice 0 []
  | sl {b n c : Nat} {ex : Bool} {w : Own} {Lc L : List AV} (hG : G b) (hg : hget h b = some (.cells Lc (c * sz) w)) (hl : Lc.length = c * sz) (hn : n ≤ c) (hL : Lc.take (n * sz) = L)
      (hw : w = .solo ∨ ∃ p, w = .pair p ∧ G p ∧ p ≠ b) : OwnI sz h G (.slice b 0 n c sz ex) n L
theorem OwnI.len {sz : Nat} {h : Hp} {G : Nat → Prop} {v : AV} {n : Nat} {L : List AV} (o : OwnI sz h G v n L) : L.length = n * sz := by
  cases o with
  | nil => simp
  | @sl b n c ex w Lc L hG hg hl hn hL hw =>
    have := Nat.mul_le_mul_right sz hn
    rw [← hL, List.length_take, hl]; omega
def OwnO (sz : Nat) (v : AV) (n : Nat) (L : List AV) : AObj where
  p h G := OwnI sz h G v n L
  loc := fun hf o => by
    cases o with
    | nil => exact .nil
    | sl hG hg hl hn hL hw => exact .sl hG ((hf _ hG).trans hg) hl hn hL hw
theorem OwnI.bytes {h : Hp} {G : Nat → Prop} {s : AV} {n : Nat} {l : List Nat} (o : OwnI 1 h G s n (u8s l)) (hb : ∀ x ∈ l, x < 256) : BIn G h s l := by
  generalize hL : u8s l = L at o
  cases o with
  | nil =>
    cases l with
    | nil => exact .nil
    | cons x l => cases hL
  | @sl b n c ex w Lc L hG hg hl hn hLc hw =>
    subst hL
    have h1 := congrArg List.length hLc
    rw [u8s_length, List.length_take, hl] at h1
    have hnl : l.length = n := by omega
    subst hnl
    exact ⟨⟨b + 1, .sl (Nat.lt_succ_self _) hg hl (by rw [List.drop_zero, ← hLc, Nat.mul_one]) (by omega) hn hb⟩, fun b' e => by cases e; exact hG⟩
end Eng
end
section
set_option linter.unusedVariables false
namespace Eng
open Go
def lastB (x left : Nat) (sg : Bool) : Bool :=
  if x &&& 128 ≠ 0 then false else if sg = false then decide (x / 2 ^ left = 0) else if x / 2 ^ (left - 1) = 0 then true else decide (x / 2 ^ (left - 1) = 127 / 2 ^ (left - 1))
def readG (size : Nat) (sg : Bool) : List Nat → Nat → Nat → Nat → Nat × Nat × Nat
  | [], _, _, _ => (0, 0, 3)
  | x :: l, a, n, v =>
    if size - a ≤ 7 ∧ lastB x (size - a) sg = false then (0, 0, 2)
    else if x &&& 128 ≠ 0 then readG size sg l (a + 7) (n + 1) (v ||| ((x &&& 127) * 2 ^ a % 18446744073709551616))
    else if sg = true ∧ x &&& 64 ≠ 0 ∧ a + 7 < 64 then (v ||| ((x &&& 127) * 2 ^ a % 18446744073709551616) ||| (18446744073709551615 * 2 ^ (a + 7) % 18446744073709551616), n + 1, 0)
    else (v ||| ((x &&& 127) * 2 ^ a % 18446744073709551616), n + 1, 0)
end Eng
namespace Eng
end Eng
namespace Eng
open Go
def lebU (v : Nat) : List Nat := if h : v < 128 then [v] else (v % 256 ||| 128) :: lebU (v / 128)
termination_by v
decreasing_by omega
end Eng
namespace Eng
open Go
def lebH (v : Nat) : List Nat := if h : v < 128 then [] else (v % 256 ||| 128) :: lebH (v / 128)
termination_by v
decreasing_by omega
def lebL (v : Nat) : Nat := if h : v < 128 then v else lebL (v / 128)
termination_by v
decreasing_by omega
def sIn (w : Int) : Prop := -64 ≤ w ∧ w < 64
instance (w : Int) : Decidable (sIn w) := inferInstanceAs (Decidable (_ ∧ _))
def sebH (w : Int) : List Nat := if h : sIn w then [] else ((w % 256).toNat ||| 128) :: sebH (w / 128)
termination_by w.natAbs
decreasing_by unfold sIn at h; omega
def sebL (w : Int) : Int := if h : sIn w then w else sebL (w / 128)
termination_by w.natAbs
decreasing_by unfold sIn at h; omega
def lebS (w : Int) : List Nat := sebH w ++ [(sebL w % 256).toNat &&& 127]
theorem ltI_T {a b : Int} (h : ltI a b = true) : a < b := by rw [ltI_eq] at h; simpa using h
theorem ltI_F {a b : Int} (h : ltI a b = false) : b ≤ a := by rw [ltI_eq] at h; simpa using h
end Eng
namespace Eng
open Go
def LastS (call : CallT) (f : Nat) : Prop := ∀ (x left : Nat) (s : Bool) (h : Hp), x < 256 → 1 ≤ left → left ≤ 64 → call f [.int .u8 (.ofNat x), .int .i64 (.ofNat left), .bool s] h = .ok (.bool (lastB x left s)) h
def numT (k : IntKind) (r : Nat × Nat × Nat) : AV := .tuple [.int k (.ofNat r.1), .int .i64 (.ofNat r.2.1), .int .i64 (.ofNat r.2.2)]
def ReadS (call : CallT) (f : Nat) (g : Nat → Bool → List Nat → Nat × Nat × Nat) : Prop := ∀ (B : Nat) (h : Hp) (vb : AV) (l : List Nat) (size : Nat) (sg : Bool), Bytes B h vb l → l.length < 90000 → size = 32 ∨ size = 33 ∨ size = 64 →
  call f [vb, .int .i64 (.ofNat size), .bool sg] h = .ok (numT .u64 (g size sg l)) h
def CloneS (call : CallT) (f : Nat) : Prop := ∀ {B : Nat} {h : Hp} {vb : AV} {l : List Nat}, B ≤ h.next → l.length ≤ 1099511627776 → Bytes B h vb l → ∃ v h', call f [vb] h = .ok v h' ∧ Owned 1 B h' v l.length (u8s l) ∧ Old B h h' ∧ B ≤ h'.next
def JoinS (call : CallT) (f : Nat) : Prop := ∀ {B : Nat} {h : Hp} {vb vl : AV} {l m : List Nat}, B ≤ h.next → Bytes B h vb l → Bytes B h vl m → l.length ≤ 1099511627776 → m.length ≤ 1099511627776 →
  ∃ v h', call f [vb, vl] h = .ok v h' ∧ Owned 1 B h' v (l.length + m.length) (u8s (l ++ m)) ∧ Old B h h' ∧ B ≤ h'.next
def PutUS (call : CallT) (f : Nat) : Prop := ∀ {B : Nat} {h : Hp} {vb : AV} {l : List Nat} {v : Nat}, B ≤ h.next → Bytes B h vb l → l.length ≤ 1099511627776 → v < 18446744073709551616 →
  ∃ rv rh, call f [vb, .int .u64 (.ofNat v)] h = .ok rv rh ∧ Owned 1 B rh rv (l.length + (lebU v).length) (u8s (l ++ lebU v)) ∧ Old B h rh ∧ B ≤ rh.next
def PutSS (call : CallT) (f : Nat) : Prop := ∀ {B : Nat} {h : Hp} {vb : AV} {l : List Nat} {v : Int}, B ≤ h.next → Bytes B h vb l → l.length ≤ 1099511627776 → (-9223372036854775808 ≤ v ∧ v < 9223372036854775808) →
  ∃ rv rh, call f [vb, .int .i64 v] h = .ok rv rh ∧ Owned 1 B rh rv (l.length + (lebS v).length) (u8s (l ++ lebS v)) ∧ Old B h rh ∧ B ≤ rh.next
def TrueS (call : CallT) (f : Nat) : Prop := ∀ h : Hp, call f [] h = .ok (.bool true) h
theorem again_of {o : QOp} {h : Hp} {v : AV} (e : evQ o .lf h = .ok v) (r : avEq v v = true) : again o .lf v h = true := by
  show (evQ o .lf h).cs false (fun v' => avEq v v') = true
  rw [e]; exact r
theorem avEq_int (k : IntKind) (n : Int) : avEq (.int k n) (.int k n) = true := by
  show bc (ikEq k k) (eqI n n) false = true
  rw [ikEq_self, eqI_eq]; simp [bc]
theorem avEq_bool (b : Bool) : avEq (.bool b) (.bool b) = true := by cases b <;> rfl
theorem beq_self (n : Nat) : Nat.beq n n = true := Nat.beq_refl n
theorem avEq_slice (b o l c s : Nat) (e : Bool) : avEq (.slice b o l c s e) (.slice b o l c s e) = true := by
  show bc (Nat.beq b b) (bc (Nat.beq o o) (bc (Nat.beq l l) (bc (Nat.beq c c) (bc (Nat.beq s s) (bc e e (notB e)) false) false) false) false) false = true
  simp only [beq_self, bc_eq, if_true]
  cases e <;> rfl
theorem avEq_ptr (b o : Nat) : avEq (.ptr b o) (.ptr b o) = true := by
  show bc (Nat.beq b b) (Nat.beq o o) false = true
  simp only [beq_self, bc_eq, if_true]
theorem Owned.same {sz B n : Nat} {h : Hp} {v : AV} {L : List AV} (o : Owned sz B h v n L) : avEq v v = true := by
  cases o with
  | nil => rfl
  | sl => exact avEq_slice ..
theorem Bytes.same {B : Nat} {h : Hp} {v : AV} {l : List Nat} (o : Bytes B h v l) : avEq v v = true := by
  cases o with
  | nil => rfl
  | sl => exact avEq_slice ..
theorem evF_at {M : Nat → Option (List AV → Hp → RV)} {S : Nat → Option AF} {N d f : Nat} (hM : M f = none) (args : List AV) (h : Hp) : evF M S N (d + 1) f args h = evF1 S N (evF M S N d) f args h := by
  show ocase (evF1 S N (evF M S N d) f args h) (fun m => m args h) (M f) = _
  rw [hM]; rfl
end Eng
namespace Eng
end Eng
namespace Eng
open Go
end Eng
namespace Eng
open Go
noncomputable def sInt (k : IntKind) (n : Nat) : Int := wrapA k (.ofNat n)
def NumS (call : CallT) (f : Nat) (size : Nat) (sg : Bool) (k : IntKind) (v : Nat → Int) : Prop := ∀ {B : Nat} {h : Hp} {vb : AV} {l : List Nat}, Bytes B h vb l → l.length < 90000 →
  call f [vb] h = .ok (.tuple [.int k (v (readG size sg l 0 0 0).1), .int .i64 (.ofNat (readG size sg l 0 0 0).2.1), .int .i64 (.ofNat (readG size sg l 0 0 0).2.2)]) h
end Eng
end
section
set_option linter.unusedVariables false
set_option linter.unusedSimpArgs false
namespace Eng
open Go Go.RowKit
theorem BIn.cell {G : Nat → Prop} {h : Hp} {v : AV} {l : List Nat} (P : BIn G h v l) : isCell v = true := by
  obtain ⟨⟨B, P⟩, _⟩ := P; cases P <;> rfl
theorem BIn.cells {G : Nat → Prop} {h : Hp} {v : AV} {l : List Nat} (P : BIn G h v l) : cellsOf v = [v] := by
  obtain ⟨⟨B, P⟩, _⟩ := P; cases P <;> rfl
theorem BIn.same {G : Nat → Prop} {h : Hp} {v : AV} {l : List Nat} (P : BIn G h v l) : avEq v v = true := by
  obtain ⟨⟨B, P⟩, _⟩ := P; exact P.same
theorem all_cell {x : AV} {l : List AV} (h1 : isCell x = true) (h2 : ∀ y ∈ l, isCell y = true) : ∀ y ∈ x :: l, isCell y = true := fun y hy => by
  rcases List.mem_cons.1 hy with e | e
  · rw [e]; exact h1
  · exact h2 y e
theorem all_cell0 : ∀ y ∈ ([] : List AV), isCell y = true := fun y hy => by cases hy
def avN (i : Nat) : AV → AV
  | .tuple l => l.getD i .nilPtr
  | v => v
end Eng
end
section
set_option linter.unusedVariables false
set_option linter.unusedSimpArgs false
namespace Eng
open Go Go.RowKit Go.ChangeShapes Go.WideShapes
section
variable {H : Type} {enc : TypeId × Value → H} {P : Program} {W : World}
end
end Eng
end
section
set_option linter.unusedVariables false
set_option linter.unusedSimpArgs false
namespace Eng
open Go
def digU : Nat → Nat → List Nat
  | 0, v => [v % 128]
  | n + 1, v => (v % 128 ||| 128) :: digU n (v / 128)
def digS : Nat → Int → List Nat
  | 0, w => [(w % 128).toNat]
  | n + 1, w => ((w % 128).toNat ||| 128) :: digS n (w / 128)
end Eng
namespace Eng
open Go
end Eng
namespace Eng
open Go
end Eng
namespace Eng
open Go
end Eng
namespace Eng
open Go
def stepL (l : List Nat) (e : Nat) : List Nat := l.set (l.length - 1) (l.getD (l.length - 1) 0 ||| 128) ++ [e]
def longerL (e : Nat) : Nat → List Nat → List Nat
  | 0, l => l
  | k + 1, l => longerL e k (stepL l e)
def LongerS (call : CallT) (f : Nat) : Prop := ∀ {B : Nat} {h : Hp} {vb : AV} {l : List Nat} {k e : Nat}, B ≤ h.next → Bytes B h vb l → 1 ≤ l.length → l.length ≤ 100 → k ≤ 7 → e < 256 →
  ∃ rv rh, call f [vb, .int .i64 (.ofNat k), .int .u8 (.ofNat e)] h = .ok rv rh ∧ Owned 1 B rh rv (l.length + k) (u8s (longerL e k l)) ∧ Old B h rh ∧ B ≤ rh.next
end Eng
namespace Eng
open Go
end Eng
namespace Eng
open Go
end Eng
namespace Eng
open Go
def placeN (c : Int) (n : Nat) : Nat := (c % (n : Int)).toNat
def PlaceS (call : CallT) (f : Nat) : Prop := ∀ (c : Int) (n : Nat) (h : Hp), -9223372036854775808 ≤ c ∧ c < 9223372036854775808 → 1 ≤ n → n < 4611686018427387904 → call f [.int .i64 c, .int .i64 (.ofNat n)] h = .ok (.int .i64 (.ofNat (placeN c n))) h
end Eng
end
section
set_option linter.unusedVariables false
set_option linter.unusedSimpArgs false
namespace Eng
open Go Go.RowKit Go.Maps Go.WideElems Go.MapKept Go.WideShapes
abbrev enQ (q : IntKind) : Int → Value := Value.int q
theorem enQ_inj {q : IntKind} {x y : Int} (h : enQ q x = enQ q y) : x = y := by simpa [enQ] using h
def numL : Lit → Int
  | .int _ a => a
  | _ => 0
def keysD {H : Type} : DataW H → List Int
  | .map es => es.map fun p => numL p.1
  | _ => []
theorem keyOf_q {P : Program} {k : TypeId} {q : IntKind} (hk : P.underlying k = some (.int q)) {key : Value} {kl : Lit} (h : keyOf P k key = some kl) : ∃ x : Int, key = enQ q x ∧ kl = .int q x ∧ (Lit.int q x).wf = true := by
  cases key <;> simp [keyOf, hk, mapKey] at h
  rename_i q' a
  obtain ⟨⟨rfl, hw⟩, rfl⟩ := h
  exact ⟨a, rfl, rfl, hw⟩
def Came {H : Type} (q : IntKind) (D0 : DataW H) (left : Lit → Bool) (ss : List Int) : Prop := ss.Nodup ∧ ∀ x, x ∈ ss ↔ (has D0 (.int q x) = true ∧ left (.int q x) = false)
section
variable {H : Type} {D0 : DataW H} {left : Lit → Bool} {ss : List Int} {q : IntKind}
theorem Came.start (D0 : DataW H) : Came q D0 (has D0) [] := ⟨List.nodup_nil, fun x => by cases has D0 (.int q x) <;> simp⟩
theorem sameKey_int (x y : Int) : (Lit.int q x).sameKey (.int q y) = decide (x = y) := by simp [Lit.sameKey]
theorem Came.step (h : Came q D0 left ss) {x : Int} {y : DataW H} (hlk : left (.int q x) = true) (hat : ∀ zd, D0.atKey (.int q x) zd = y) : Came q D0 (fun z => left z && !z.sameKey (.int q x)) (ss ++ [x]) := by
  have hhas : has D0 (.int q x) = true := has_true_of_atKey hat
  have hnew : x ∉ ss := fun hx => by have := ((h.2 x).1 hx).2; rw [hlk] at this; cases this
  refine ⟨List.nodup_append.2 ⟨h.1, by simp, fun a ha b hb => by simp at hb; subst hb; exact fun e => hnew (e ▸ ha)⟩, fun y => ?_⟩
  by_cases hy : y = x
  · subst hy; simp [hhas, sameKey_int]
  · simp [h.2 y, hy, sameKey_int]
theorem Came.all {P : Program} {k : TypeId} {R : Value → Option (DataW H × List MemPlace)} {w : World} {b n : Nat} (h : Came q D0 left ss) (hown : w.ownsMap P k R b n D0) (hk : P.underlying k = some (.int q)) (hl : ∀ kl, left kl = false) :
    ss.Perm (keysD D0) := by
  obtain ⟨es, hD, hpw, _⟩ := hown.entries (int_keyed hk)
  obtain ⟨es', hD', hko⟩ := hown.keysOf
  obtain rfl : es = es' := by rw [hD] at hD'; simpa using hD'
  subst hD
  have hint : ∀ p ∈ es, ∃ x, p.1 = .int q x := fun p hp => by obtain ⟨v, hv⟩ := hko p hp; obtain ⟨x, _, hx, _⟩ := keyOf_q hk hv; exact ⟨x, hx⟩
  refine (List.perm_ext_iff_of_nodup h.1 ?_).2 fun x => ?_
  · show (es.map fun p => numL p.1).Nodup
    refine List.pairwise_map.2 (hpw.imp_of_mem fun {p r} hp' hr' hne e => hne ?_)
    obtain ⟨a, ha⟩ := hint p hp'
    obtain ⟨b, hb⟩ := hint r hr'
    rw [ha, hb] at e ⊢
    exact congrArg _ e
  · rw [h.2 x, hl, has_eq, List.any_eq_true]
    show _ ↔ x ∈ es.map fun p => numL p.1
    rw [List.mem_map]
    constructor
    · rintro ⟨⟨p, hp', hs⟩, -⟩
      obtain ⟨a, ha⟩ := hint p hp'
      rw [ha, sameKey_int] at hs
      exact ⟨p, hp', by rw [ha]; simpa [numL] using hs⟩
    · rintro ⟨p, hp', rfl⟩
      obtain ⟨a, ha⟩ := hint p hp'
      exact ⟨⟨p, hp', by rw [ha, sameKey_int]; simp [numL]⟩, rfl⟩
end
noncomputable def keyN (q : IntKind) (v : AV) : Option Int := v.asInt none fun k n => bc (ikEq k q) (bc (leI q.min n) (bc (leI n q.max) (some n) none) none) none
noncomputable def keysN (q : IntKind) (es : List (AV × AV × Nat)) : Option (List Int) :=
  lrec (some []) (fun e _ ih => ocase none (fun n => ocase none (fun l => some (n :: l)) ih) (keyN q e.1)) es
noncomputable def newN (l : List Nat) : Bool := lrec true (fun a l ih => bc (lall (fun b => notB (Nat.beq a b)) l) ih false) l
noncomputable def newI (l : List Int) : Bool := lrec true (fun a l ih => bc (lall (fun b => notB (eqI a b)) l) ih false) l
noncomputable def bornOk (ck : Nat) (es : List (AV × AV × Nat)) : Bool := bc (lall (fun e => Nat.blt e.2.2 ck) es) (newN (lmap (fun e => e.2.2) es)) false
noncomputable def keysOf (q : IntKind) (es : List (AV × AV × Nat)) (n ck : Nat) : Option (List Int) :=
  ocase none (fun l => bc (newI l) (bc (bornOk ck es) (bc (Nat.ble n 12) (some l) none) none) none) (keysN q es)
theorem newN_iff : ∀ {l : List Nat}, newN l = true ↔ l.Nodup
  | [] => by simp [newN]
  | a :: l => by
    show bc (lall (fun b => notB (Nat.beq a b)) l) (newN l) false = true ↔ _
    rw [List.nodup_cons, ← newN_iff (l := l), bc_eq]
    have : lall (fun b => notB (Nat.beq a b)) l = true ↔ a ∉ l := by
      rw [lall_iff]
      constructor
      · intro h hm
        have := h a hm
        rw [Nat.beq_refl] at this; cases this
      · intro h b hb
        have hne : a ≠ b := fun e => h (by rw [e]; exact hb)
        rw [beqF hne]; rfl
    rw [← this]
    cases lall (fun b => notB (Nat.beq a b)) l <;> simp
theorem newI_iff : ∀ {l : List Int}, newI l = true ↔ l.Nodup
  | [] => by simp [newI]
  | a :: l => by
    show bc (lall (fun b => notB (eqI a b)) l) (newI l) false = true ↔ _
    rw [List.nodup_cons, ← newI_iff (l := l), bc_eq]
    have : lall (fun b => notB (eqI a b)) l = true ↔ a ∉ l := by
      rw [lall_iff]
      constructor
      · intro h hm
        have := h a hm
        rw [eqI_eq] at this; simp [notB] at this
      · intro h b hb
        have hne : a ≠ b := fun e => h (e ▸ hb)
        rw [eqI_eq, show (a == b) = false by simpa using hne]; rfl
    rw [← this]
    cases lall (fun b => notB (eqI a b)) l <;> simp
theorem keyN_inv {q : IntKind} {v : AV} {n : Int} (h : keyN q v = some n) : v = .int q n ∧ q.min ≤ n ∧ n ≤ q.max := by
  unfold keyN AV.asInt at h
  cases v <;> try cases h
  rename_i k m
  have h : bc (ikEq k q) (bc (leI q.min m) (bc (leI m q.max) (some m) none) none) none = some n := h
  obtain ⟨rfl, h1⟩ := ikEq_inv h nofun
  cases h2 : leI k.min m with
  | false => rw [h2] at h1; cases h1
  | true =>
    rw [h2] at h1
    cases h3 : leI m k.max with
    | false => rw [h3] at h1; cases h1
    | true =>
      rw [h3] at h1
      obtain rfl := Option.some.inj (show some m = some n from h1)
      have e2 : notB (ltI m k.min) = true := h2
      have e3 : notB (ltI k.max m) = true := h3
      rw [ltI_eq] at e2 e3
      refine ⟨rfl, ?_, ?_⟩
      · by_cases hh : m < k.min
        · simp [hh, notB] at e2
        · omega
      · by_cases hh : k.max < m
        · simp [hh, notB] at e3
        · omega
theorem keysN_inv {q : IntKind} : ∀ {es : List (AV × AV × Nat)} {l : List Int}, keysN q es = some l → l.length = es.length ∧ ∀ (i : Nat) (k v : AV) (n : Nat), es[i]? = some (k, v, n) → ∃ x, l[i]? = some x ∧ k = .int q x ∧ q.min ≤ x ∧ x ≤ q.max
  | [], l, h => by
    obtain rfl := Option.some.inj (show some [] = some l from h)
    exact ⟨rfl, fun i k v n hi => by simp at hi⟩
  | e :: es, l, h => by
    have h : ocase none (fun n => ocase none (fun l => some (n :: l)) (keysN q es)) (keyN q e.1) = some l := h
    cases h1 : keyN q e.1 with
    | none => rw [h1] at h; cases h
    | some x =>
      rw [h1] at h
      cases h2 : keysN q es with
      | none => rw [h2] at h; cases h
      | some m =>
        rw [h2] at h
        obtain rfl := Option.some.inj (show some (x :: m) = some l from h)
        obtain ⟨i1, i2⟩ := keysN_inv h2
        obtain ⟨k1, k2, k3⟩ := keyN_inv h1
        refine ⟨by simp [i1], fun i k v n hi => ?_⟩
        cases i with
        | zero => simp at hi; subst hi; exact ⟨x, rfl, k1, k2, k3⟩
        | succ i => simp at hi; simpa using i2 i k v n hi
theorem wf_q {q : IntKind} {x : Int} (h1 : q.min ≤ x) (h2 : x ≤ q.max) : (Lit.int q x).wf = true := by simp [Lit.wf, h1, h2]
theorem owns_blk {μ : Mp} {w : World} {c s : Nat} {es : List (AV × AV × Nat)} {n ck : Nat} {P : Program} {k : TypeId} {q : IntKind} {l : List Int} (hk : P.underlying k = some (.int q)) (hb : BlkR μ w c s (.mp es n ck)) (hl : keysOf q es n ck = some l) :
    ∃ D0 : DataW Unit, w.ownsMap P k (fun _ => some (.nil, [])) c n D0 ∧ (keysD D0).Perm l ∧ Maps.size D0 = l.length ∧ l.length ≤ 12 := by
  obtain ⟨hn, rfl, hown, es', hh, hes⟩ := hb
  unfold keysOf at hl
  cases h1 : keysN q es with
  | none => rw [h1] at hl; cases hl
  | some m =>
    rw [h1] at hl
    have hl : bc (newI m) (bc (bornOk ck es) (bc (Nat.ble n 12) (some m) none) none) none = some l := hl
    cases h2 : newI m with
    | false => rw [h2] at hl; cases hl
    | true =>
      rw [h2] at hl
      cases h3 : bornOk ck es with
      | false => rw [h3] at hl; cases hl
      | true =>
        rw [h3] at hl
        cases h4 : Nat.ble n 12 with
        | false => rw [h4] at hl; cases hl
        | true =>
          rw [h4] at hl
          obtain rfl := Option.some.inj (show some m = some l from hl)
          obtain ⟨k1, k2⟩ := keysN_inv h1
          have hnd := newI_iff.1 h2
          have h12 : n ≤ 12 := by rw [ble_dec] at h4; simpa using h4
          have hent : ∀ i, i < es'.toList.length → ∃ (x : Int) (b : Nat) (v : AV), m[i]? = some x ∧ es[i]? = some (.int q x, v, b) ∧ ∃ e, es'.toList[i]? = some e ∧ e.key = .int q x ∧ e.born = b ∧ q.min ≤ x ∧ x ≤ q.max := fun i hi => by
            have hi' : i < es.length := by rw [← hes.1]; exact hi
            obtain ⟨k, v, b, he'⟩ : ∃ k v b, es[i]? = some (k, v, b) := ⟨es[i].1, es[i].2.1, es[i].2.2, List.getElem?_eq_getElem hi'⟩
            obtain ⟨x, hx, rfl, hx1, hx2⟩ := k2 i k v b he'
            obtain ⟨_, e, h5, h6, _, h8⟩ := hes.2 i _ v b he'
            rw [VR_int] at h6
            exact ⟨x, b, v, hx, he', e, h5, h6, h8, hx1, hx2⟩
          have hbo : (∀ e ∈ es, e.2.2 < ck) ∧ (es.map fun e => e.2.2).Nodup := by
            have h3 : bc (lall (fun e => Nat.blt e.2.2 ck) es) (newN (lmap (fun e => e.2.2) es)) false = true := h3
            cases h5 : lall (fun e => Nat.blt e.2.2 ck) es with
            | false => rw [h5] at h3; cases h3
            | true =>
              rw [h5] at h3
              refine ⟨fun e he => ?_, ?_⟩
              · have := lall_iff.1 h5 e he
                rw [blt_dec] at this; simpa using this
              · rw [← lmap_eq]; exact newN_iff.1 h3
          have hkeys : es'.toList.map (·.key) = m.map (Value.int q) := by
            apply List.ext_getElem?
            intro i
            rw [List.getElem?_map, List.getElem?_map]
            by_cases hi : i < es'.toList.length
            · obtain ⟨x, b, v, h5, _, e, h7, h8, _⟩ := hent i hi
              rw [h5, h7]; simp [h8]
            · rw [List.getElem?_eq_none (by omega), List.getElem?_eq_none (by rw [k1, ← hes.1]; omega)]; rfl
          have hborn : es'.toList.map (·.born) = es.map fun e => e.2.2 := by
            apply List.ext_getElem?
            intro i
            rw [List.getElem?_map, List.getElem?_map]
            by_cases hi : i < es'.toList.length
            · obtain ⟨x, b, v, _, h6, e, h7, _, h9, _⟩ := hent i hi
              rw [h6, h7]; simp [h9]
            · rw [List.getElem?_eq_none (by omega), List.getElem?_eq_none (by rw [← hes.1]; omega)]; rfl
          have hst : Stamped es' ck := by
            refine ⟨fun x hx => ?_, by rw [hborn]; exact hbo.2, ?_⟩
            · have : x.born ∈ es'.toList.map (·.born) := List.mem_map_of_mem hx
              rw [hborn] at this
              obtain ⟨e, he, he2⟩ := List.mem_map.1 this
              rw [← he2]; exact hbo.1 e he
            · rw [hkeys]
              exact List.pairwise_map.2 (hnd.imp fun hne e => hne (by simpa using e))
          have hrd : ∀ x ∈ es'.toList, ∃ a : Int, x.key = .int q a ∧ Go.WideElems.rd (H := Unit) P k (fun _ => some (.nil, [])) x = some (.int q a, .nil) := fun x hx => by
            obtain ⟨i, hi⟩ := List.getElem?_of_mem hx
            have hlt := (List.getElem?_eq_some_iff.1 hi).1
            obtain ⟨a, b, v, _, _, e, h7, h8, _, h10, h11⟩ := hent i hlt
            rw [hi] at h7
            obtain rfl := Option.some.inj h7
            refine ⟨a, h8, ?_⟩
            obtain ⟨key, val, born⟩ := x
            have h8 : key = .int q a := h8
            subst h8
            exact rd_mk (R := fun _ => some (DataW.nil, [])) (yv := (DataW.nil, [])) (keyOf_int_mk hk (wf_q h10 h11)) rfl
          have hF : Fit (H := Unit) P k (fun _ => some (.nil, [])) es' ck := by
            refine ⟨?_, hst, fun x hx => ?_⟩
            · have : es'.toList.length = es.length := hes.1
              have h20 : es'.size ≤ 12 := by rw [← Array.length_toList]; omega
              exact Nat.le_trans h20 (by decide)
            · obtain ⟨a, _, h⟩ := hrd x hx
              exact ⟨_, h⟩
          refine ⟨_, ⟨es', ck, hh, hF, ?_, rfl⟩, ?_, ?_, by omega⟩
          · have : es'.toList.length = es.length := hes.1
            rw [← Array.length_toList]; omega
          · show (((es'.toList.map (rg P k (fun _ => some (DataW.nil, [])))).foldr DataW.insert []).map fun p => numL p.1).Perm m
            refine ((sorted_perm _).map _).trans (.of_eq ?_)
            rw [List.map_map]
            have e1 : ∀ x ∈ es'.toList, ((fun p : Lit × DataW Unit => numL p.1) ∘ rg P k (fun _ => some (DataW.nil, []))) x = (match x.key with | .int _ a => a | _ => 0) := fun x hx => by
              obtain ⟨a, h5, h6⟩ := hrd x hx
              show numL (rg P k (fun _ => some (DataW.nil, [])) x).1 = _
              rw [rg_of h6, h5]; rfl
            rw [List.map_congr_left e1]
            have e2 : es'.toList.map (fun x => match x.key with | .int _ a => a | _ => (0 : Int)) = (es'.toList.map (·.key)).map fun v => match v with | .int _ a => a | _ => (0 : Int) := by rw [List.map_map]; rfl
            rw [e2, hkeys, List.map_map]
            exact List.map_id m
          · show (((es'.toList.map (rg P k (fun _ => some (DataW.nil, [])))).foldr DataW.insert [])).length = m.length
            rw [(sorted_perm _).length_eq, List.length_map, k1, ← hes.1]
end Eng
end
section
set_option linter.unusedVariables false
set_option linter.unusedSimpArgs false
namespace Eng
open Go Go.RowKit
def swapL (L : List Int) (j : Nat) : List Int := (L.set (j + 1) (L.getD j 0)).set j (L.getD (j + 1) 0)
def sink : List Int → Nat → List Int
  | L, 0 => L
  | L, j + 1 => if L.getD (j + 1) 0 < L.getD j 0 then sink (swapL L j) j else L
def outerL : Nat → Nat → List Int → List Int
  | 0, _, L => L
  | k + 1, i, L => outerL k (i + 1) (sink L i)
def isort (L : List Int) : List Int := outerL (L.length - 1) 1 L
theorem getD_set (L : List Int) (k m : Nat) (x : Int) (h : k < L.length) : (L.set k x).getD m 0 = if m = k then x else L.getD m 0 := by
  rw [List.getD_eq_getElem?_getD, List.getD_eq_getElem?_getD, List.getElem?_set]
  by_cases e : k = m
  · subst e; simp [h]
  · rw [if_neg e, if_neg (fun h => e h.symm)]
theorem swapL_len (L : List Int) (j : Nat) : (swapL L j).length = L.length := by simp [swapL]
theorem swapL_getD {L : List Int} {j : Nat} (h : j + 1 < L.length) (m : Nat) : (swapL L j).getD m 0 = if m = j then L.getD (j + 1) 0 else if m = j + 1 then L.getD j 0 else L.getD m 0 := by
  unfold swapL
  rw [getD_set _ _ _ _ (by simp; omega), getD_set _ _ _ _ h]
theorem sink_len : ∀ (j : Nat) (L : List Int), (sink L j).length = L.length
  | 0, L => rfl
  | j + 1, L => by
    unfold sink
    split
    · rw [sink_len j, swapL_len]
    · rfl
theorem outerL_len : ∀ (k i : Nat) (L : List Int), (outerL k i L).length = L.length
  | 0, i, L => rfl
  | k + 1, i, L => by unfold outerL; rw [outerL_len k, sink_len]
theorem isort_len (L : List Int) : (isort L).length = L.length := outerL_len _ _ _
theorem swap_perm : ∀ (j : Nat) (L : List Int), j + 1 < L.length → (swapL L j).Perm L
  | 0, a :: b :: L, _ => by
    show (b :: a :: L).Perm (a :: b :: L)
    exact List.Perm.swap a b L
  | j + 1, a :: L, h => by
    have : swapL (a :: L) (j + 1) = a :: swapL L j := by simp [swapL]
    rw [this]
    exact (swap_perm j L (by simpa using h)).cons a
  | 0, [], h => by simp at h
  | 0, [a], h => by simp at h
  | j + 1, [], h => by simp at h
theorem sink_perm : ∀ (j : Nat) (L : List Int), j < L.length → (sink L j).Perm L
  | 0, L, _ => .refl _
  | j + 1, L, h => by
    unfold sink
    split
    · exact (sink_perm j _ (by rw [swapL_len]; omega)).trans (swap_perm j L h)
    · exact .refl _
theorem outerL_perm : ∀ (k i : Nat) (L : List Int), i + k ≤ L.length → (outerL k i L).Perm L
  | 0, i, L, _ => .refl _
  | k + 1, i, L, h => by
    unfold outerL
    exact (outerL_perm k (i + 1) _ (by rw [sink_len]; omega)).trans (sink_perm i L (by omega))
theorem isort_perm (L : List Int) : (isort L).Perm L := by
  cases L with
  | nil => exact .refl _
  | cons a L => exact outerL_perm _ _ _ (by simp; omega)
def SinkI (L : List Int) (i j : Nat) : Prop := (∀ a b, a < b → b ≤ i → a ≠ j → b ≠ j → L.getD a 0 ≤ L.getD b 0) ∧ ∀ b, j < b → b ≤ i → L.getD j 0 ≤ L.getD b 0
theorem sink_sorted : ∀ (j : Nat) (L : List Int) (i : Nat), i < L.length → j ≤ i → SinkI L i j → ∀ a b, a < b → b ≤ i → (sink L j).getD a 0 ≤ (sink L j).getD b 0
  | 0, L, i, hi, hj, ⟨h1, h2⟩, a, b, hab, hb => by
    show L.getD a 0 ≤ L.getD b 0
    by_cases ha : a = 0
    · subst ha; exact h2 b hab hb
    · exact h1 a b hab hb ha (by omega)
  | j + 1, L, i, hi, hj, ⟨h1, h2⟩, a, b, hab, hb => by
    unfold sink
    split
    · rename_i hlt
      have hj1 : j + 1 < L.length := by omega
      refine sink_sorted j (swapL L j) i (by rw [swapL_len]; exact hi) (by omega) ⟨fun a b hab hb ha hb' => ?_, fun b hjb hb => ?_⟩ a b hab hb
      · rw [swapL_getD hj1, swapL_getD hj1, if_neg ha, if_neg hb']
        by_cases ea : a = j + 1
        · rw [if_pos ea, if_neg (by omega)]
          exact h1 j b (by omega) hb (by omega) (by omega)
        · rw [if_neg ea]
          by_cases eb : b = j + 1
          · rw [if_pos eb]; exact h1 a j (by omega) (by omega) (by omega) (by omega)
          · rw [if_neg eb]; exact h1 a b hab hb (by omega) (by omega)
      · rw [swapL_getD hj1, swapL_getD hj1, if_pos rfl, if_neg (by omega)]
        by_cases eb : b = j + 1
        · rw [if_pos eb]; omega
        · rw [if_neg eb]; exact h2 b (by omega) hb
    · rename_i hlt
      by_cases ea : a = j + 1
      · rw [ea]; exact h2 b (by omega) hb
      · by_cases eb : b = j + 1
        · rw [eb]
          by_cases ej : a = j
          · rw [ej]; omega
          · exact Int.le_trans (h1 a j (by omega) (by omega) (by omega) (by omega)) (by omega)
        · exact h1 a b hab hb ea eb
theorem outerL_sorted : ∀ (k i : Nat) (L : List Int), 1 ≤ i → i + k = L.length → (∀ a b, a < b → b < i → L.getD a 0 ≤ L.getD b 0) → ∀ a b, a < b → b < L.length → (outerL k i L).getD a 0 ≤ (outerL k i L).getD b 0
  | 0, i, L, _, hi, h => fun a b hab hb => h a b hab (by omega)
  | k + 1, i, L, h1, hi, h => by
    unfold outerL
    have := outerL_sorted k (i + 1) (sink L i) (by omega) (by rw [sink_len]; omega) fun a b hab hb =>
      sink_sorted i L i (by omega) (Nat.le_refl _) ⟨fun a b hab hb ha hb' => h a b hab (by omega), fun b hb hb' => by omega⟩ a b hab (by omega)
    rwa [sink_len] at this
theorem isort_sorted (L : List Int) : (isort L).Pairwise (· ≤ ·) := by
  rw [List.pairwise_iff_getElem]
  intro a b ha hb hab
  rw [isort_len] at ha hb
  have key : (isort L).getD a 0 ≤ (isort L).getD b 0 := by
    have h0 : 1 ≤ L.length := by omega
    exact outerL_sorted (L.length - 1) 1 L (Nat.le_refl _) (by omega) (fun a b hab hb => by omega) a b hab hb
  rw [List.getD_eq_getElem?_getD, List.getD_eq_getElem?_getD, List.getElem?_eq_getElem (by rw [isort_len]; exact ha), List.getElem?_eq_getElem (by rw [isort_len]; exact hb)] at key
  exact key
theorem sorted_unique {l m : List Int} (h1 : l.Pairwise (· ≤ ·)) (h2 : m.Pairwise (· ≤ ·)) (hp : l.Perm m) : l = m :=
  List.Perm.eq_of_pairwise (le := (· ≤ ·)) (fun a b _ _ => Int.le_antisymm) h1 h2 hp
theorem isort_of_perm {l m : List Int} (h : l.Perm m) : isort l = isort m := sorted_unique (isort_sorted l) (isort_sorted m) (((isort_perm l).trans h).trans (isort_perm m).symm)
noncomputable def insK (x : Int) (l : List Int) : List Int := lrec [x] (fun a t ih => bc (leI x a) (x :: a :: t) (a :: ih)) l
noncomputable def sortK (l : List Int) : List Int := lrec [] (fun a _ ih => insK a ih) l
theorem leI_iff (a b : Int) : leI a b = true ↔ a ≤ b := by
  show notB (ltI b a) = true ↔ _
  rw [ltI_eq]
  by_cases h : b < a
  · simp [h, notB]; try omega
  · simp [h, notB]; try omega
theorem insK_perm (x : Int) : ∀ l, (insK x l).Perm (x :: l)
  | [] => .refl _
  | a :: l => by
    show (bc (leI x a) (x :: a :: l) (a :: insK x l)).Perm _
    cases leI x a with
    | true => exact .refl _
    | false => exact ((insK_perm x l).cons a).trans (.swap x a l)
theorem insK_sorted (x : Int) : ∀ l, l.Pairwise (· ≤ ·) → (insK x l).Pairwise (· ≤ ·)
  | [], _ => by simp [insK]
  | a :: l, h => by
    obtain ⟨h1, h2⟩ := List.pairwise_cons.1 h
    show (bc (leI x a) (x :: a :: l) (a :: insK x l)).Pairwise _
    cases hx : leI x a with
    | true =>
      have hxa := (leI_iff x a).1 hx
      refine List.pairwise_cons.2 ⟨fun b hb => ?_, h⟩
      rcases List.mem_cons.1 hb with rfl | hb
      · exact hxa
      · exact Int.le_trans hxa (h1 b hb)
    | false =>
      have hxa : a ≤ x := by
        by_cases hh : x ≤ a
        · rw [(leI_iff x a).2 hh] at hx; cases hx
        · omega
      refine List.pairwise_cons.2 ⟨fun b hb => ?_, insK_sorted x l h2⟩
      rcases List.mem_cons.1 ((insK_perm x l).mem_iff.1 hb) with rfl | hb
      · exact hxa
      · exact h1 b hb
theorem sortK_perm : ∀ l, (sortK l).Perm l
  | [] => .refl _
  | a :: l => (insK_perm a (sortK l)).trans ((sortK_perm l).cons a)
theorem sortK_sorted : ∀ l, (sortK l).Pairwise (· ≤ ·)
  | [] => by simp [sortK]
  | a :: l => insK_sorted a _ (sortK_sorted l)
theorem isort_eq (l : List Int) : isort l = sortK l := sorted_unique (isort_sorted l) (sortK_sorted l) ((isort_perm l).trans (sortK_perm l).symm)
def intsQ (q : IntKind) (L : List Int) : List AV := L.map (AV.int q)
noncomputable def hS (q : IntKind) (L : List Int) : Hp := ⟨1, tset (pathOf 0) (.cells (intsQ q L) L.length .solo) .lf⟩
theorem hS_get (q : IntKind) (L : List Int) : hget (hS q L) 0 = some (.cells (intsQ q L) L.length .solo) := tget_tset _ _ _
theorem ld_ok {q : IntKind} {L : List Int} {k : Nat} (h : k < L.length) : evQ (.loadS (.const (.ptr 0 (0 + k * 1)))) .lf (hS q L) = .ok (.int q (L.getD k 0)) := by
  show hcells (hS q L) 0 OV.no (fun cs _ _ => ocase .no .ok (nth? cs (0 + k * 1))) = _
  unfold hcells
  rw [hS_get]
  show ocase OV.no .ok (nth? (intsQ q L) (0 + k * 1)) = _
  rw [nth_eq, Nat.zero_add, Nat.mul_one, intsQ, List.getElem?_map, List.getD_eq_getElem?_getD, List.getElem?_eq_getElem h]
  rfl
theorem st_ok {q : IntKind} {L : List Int} {k : Nat} {x : Int} (call : CallT) (h : k < L.length) : evE (.store 1 (.const (.ptr 0 (0 + k * 1))) (.const (.int q x))) call .lf (hS q L) = .ok undef (hS q (L.set k x)) := by
  show oStore 1 (.const (.ptr 0 (0 + k * 1))) (.const (.int q x)) .lf (hS q L) = _
  show wr1 (hS q L) 0 (0 + k * 1) (.int q x) = _
  unfold wr1 hcells
  rw [hS_get]
  show bc (Nat.blt (0 + k * 1) L.length) (put (hS q L) 0 (upd (.int q x) (intsQ q L) (0 + k * 1)) L.length .solo undef) .no = _
  rw [blt_dec, Nat.zero_add, Nat.mul_one, decide_eq_true h, upd_eq]
  have e : (intsQ q L).set k (.int q x) = intsQ q (L.set k x) := by unfold intsQ; rw [List.map_set]
  rw [e]
  show RV.ok undef (hset (hS q L) 0 (.cells (intsQ q (L.set k x)) L.length .solo)) = _
  unfold hS hset
  have e2 : ∀ (x y : Blk), tset (pathOf 0) x (tset (pathOf 0) y Tr.lf) = tset (pathOf 0) x Tr.lf := fun x y => rfl
  rw [List.length_set, e2]
def mpS (g cap : Nat) : Mp := ⟨fun b => if b = 0 then some (g, 0) else none, fun c => decide (c = g), fun _ => cap⟩
theorem sim_row {q : IntKind} {L : List Int} {W : World} {g : Nat} {cur : Array Value} {e : TypeId} (hg : W.heap[g]? = some (.cells cur e (0, 0))) (ht : cur.toList.take L.length = L.map (Value.int q)) (hL : L.length ≤ cur.size) : Sim (mpS g cur.size) (hS q L) W := by
  have hat : ∀ b c s, (mpS g cur.size).at_ b = some (c, s) → b = 0 ∧ c = g ∧ s = 0 := fun b c s h => by
    have h : (if b = 0 then some (g, 0) else none) = some (c, s) := h
    split at h
    · cases h; exact ⟨‹_›, rfl, rfl⟩
    · cases h
  have hget0 : ∀ b, b ≠ 0 → hget (hS q L) b = none := fun b hb => by
    show tget (pathOf b) (tset (pathOf 0) _ .lf) = none
    rw [tget_tset_ne _ _ _ _ (fun e => hb (pathOf_inj e)), tget_lf]
  refine ⟨fun b hb => ?_, fun b hb => hget0 b (by have : (hS q L).next = 1 := rfl; omega), fun b c s h => ?_, fun b c s x h hx => ?_, fun b b' c s s' x x' hne h h' => ?_, fun b c s cs n p h hx => ?_⟩
  · have : (hS q L).next = 1 := rfl
    show (if b = 0 then some (g, 0) else none) = none
    rw [if_neg (by omega)]
  · obtain ⟨_, rfl, _⟩ := hat b c s h; exact (Array.getElem?_eq_some_iff.1 hg).1
  · obtain ⟨rfl, rfl, rfl⟩ := hat b c s h
    rw [hS_get] at hx
    cases hx
    refine ⟨by simp [intsQ], fun v hv => ?_, ⟨fun _ => nofun, fun _ => by simp [mpS]⟩, cur, e, (0, 0), hg, rfl, fun _ => .inl rfl, fun i v hv => ?_⟩
    · obtain ⟨z, _, rfl⟩ := List.mem_map.1 hv; rfl
    · rw [intsQ, List.getElem?_map] at hv
      cases hz : L[i]? with
      | none => rw [hz] at hv; cases hv
      | some z =>
        rw [hz] at hv
        cases hv
        have hi : i < L.length := (List.getElem?_eq_some_iff.1 hz).1
        have h1 : (cur.toList.take L.length)[i]? = (L.map (Value.int q))[i]? := by rw [ht]
        rw [List.getElem?_take_of_lt hi, List.getElem?_map, hz] at h1
        refine ⟨.int q z, ?_, by rw [VR_int]⟩
        rw [Nat.zero_add, ← Array.getElem?_toList, h1]; rfl
  · obtain ⟨h1, _⟩ := hat b c s h
    obtain ⟨h2, _⟩ := hat b' c s' h'
    exact absurd (h1.trans h2.symm) hne
  · obtain ⟨rfl, _, _⟩ := hat b c s h
    rw [hS_get] at hx; cases hx
theorem row_after {q : IntKind} {L M : List Int} {W W' : World} {g cap : Nat} {u : AV} {e : Ending} (hg : g < W.heap.size) (r : CallR (mpS g cap) (hS q L) W u (hS q M) e W') :
    ∃ arr el fr, W'.heap[g]? = some (.cells arr el fr) ∧ arr.size = cap ∧ Unmarked arr.size fr ∧ (∀ (i : Nat) (z : Int), M[i]? = some z → arr[i]? = some (.int q z)) ∧ (∀ base, base ≤ g → Below base W W') := by
  obtain ⟨μ', y, _, _, hs, gs⟩ := r
  have hat : μ'.at_ 0 = some (g, 0) := by rw [gs.at_ 0 (by show 0 < 1; decide)]; rfl
  have hown : μ'.own g = true := by rw [gs.own g hg]; simp [mpS]
  have hsz : μ'.size g = cap := gs.size g hg
  obtain ⟨_, _, _, arr, el, fr, h1, h2, h3, h4⟩ := hs.blk 0 g 0 _ hat (hS_get q M)
  refine ⟨arr, el, fr, h1, by rw [h2, hsz], h3 hown, fun i z hz => ?_, fun base hb => ⟨gs.os, gs.tape, gs.output, gs.heap, fun k hk => ?_⟩⟩
  · obtain ⟨x, hx, hv⟩ := h4 i (.int q z) (by rw [intsQ, List.getElem?_map, hz]; rfl)
    rw [VR_int] at hv
    rw [← hv]; simpa using hx
  · refine gs.kept k (by omega) ?_
    show decide (k = g) = false
    simp; omega
theorem told_row {q : IntKind} {M : List Int} {μ : Mp} {h : Hp} {w w' : World} {g cap : Nat} {arr : Array Value} {el : TypeId} {fr : Nat × Nat} (hs : Sim μ h w) (hb : Below w.heap.size w w') (hg : w.heap.size ≤ g)
    (h1 : w'.heap[g]? = some (.cells arr el fr)) (h2 : arr.size = cap) (h3 : Unmarked arr.size fr) (h4 : ∀ (i : Nat) (z : Int), M[i]? = some z → arr[i]? = some (.int q z)) (h5 : M.length ≤ cap) :
    CallR μ h w (.slice h.next 0 M.length M.length 1 false) (hpush h (mkCells (intsQ q M) M.length)) (.returned (.slice (some ⟨g, 0, none⟩) M.length cap)) w' := by
  obtain ⟨μ', hμ⟩ : ∃ μ' : Mp, μ' = ⟨fun b => if b = h.next then some (g, 0) else μ.at_ b, fun c => if c < w.heap.size then μ.own c else decide (c = g), fun c => if c < w.heap.size then μ.size c else cap⟩ := ⟨_, rfl⟩
  have hn : μ.at_ h.next = none := hs.lt _ (Nat.le_refl _)
  have hat : ∀ b, μ'.at_ b = if b = h.next then some (g, 0) else μ.at_ b := fun b => by rw [hμ]
  have hlt : ∀ b c s, μ.at_ b = some (c, s) → b < h.next ∧ c < w.heap.size := fun b c s e => by
    refine ⟨?_, hs.old b c s e⟩
    rcases Nat.lt_or_ge b h.next with hb | hb
    · exact hb
    · rw [hs.lt b hb] at e; cases e
  have ho : ∀ c, c < w.heap.size → μ'.own c = μ.own c := fun c hc => by rw [hμ]; simp [hc]
  have hz : ∀ c, c < w.heap.size → μ'.size c = μ.size c := fun c hc => by rw [hμ]; simp [hc]
  have hog : μ'.own g = true := by rw [hμ]; simp [Nat.not_lt.2 hg]
  have hzg : μ'.size g = cap := by rw [hμ]; simp [Nat.not_lt.2 hg]
  have hle : μ.Le μ' := fun b c s e => by
    obtain ⟨h6, h7⟩ := hlt b c s e
    exact ⟨by rw [hat, if_neg (by omega)]; exact e, hz c h7, ho c h7⟩
  have hgl : g < w'.heap.size := (Array.getElem?_eq_some_iff.1 h1).1
  have hcs : ∀ (i : Nat) (v : AV), (intsQ q M)[i]? = some v → ∃ z, M[i]? = some z ∧ v = .int q z := fun i v hv => by
    rw [intsQ, List.getElem?_map] at hv
    cases hz : M[i]? with
    | none => rw [hz] at hv; cases hv
    | some z => rw [hz] at hv; cases hv; exact ⟨z, rfl, rfl⟩
  have hget : ∀ b, hget (hpush h (mkCells (intsQ q M) M.length)) b = if b = h.next then some (mkCells (intsQ q M) M.length) else Eng.hget h b := fun b => by
    split
    · subst b; exact hget_hpush _ _
    · exact hget_hpush_ne _ _ (by assumption)
  have hsplit : ∀ b c s, μ'.at_ b = some (c, s) → (b = h.next ∧ c = g ∧ s = 0) ∨ (b ≠ h.next ∧ μ.at_ b = some (c, s)) := fun b c s e => by
    rw [hat] at e
    split at e
    · cases e; exact .inl ⟨‹_›, rfl, rfl⟩
    · exact .inr ⟨‹_›, e⟩
  refine ⟨μ', _, rfl, ?_, ⟨fun b hb' => ?_, fun b hb' => ?_, fun b c s e => ?_, fun b c s x e hx => ?_, fun b b' c s s' x x' hne e e' hown hx hx' hd hd' => ?_, fun b c s cs n p e hx => ?_⟩,
    ⟨Nat.le_succ _, fun b hb' => by rw [hat, if_neg (by omega)], ho, hz, hb.size, fun c hc _ => hb.block c hc, fun b hb' _ => .inl (by rw [hget, if_neg (by omega)]), hb.os, hb.tape, hb.output⟩⟩
  · unfold VR
    refine ⟨g, 0, ⟨g, 0, none⟩, cap, by rw [hat, if_pos rfl], rfl, Nat.le_refl _, h5, (fun h => by cases h), fun _ => ⟨rfl, ?_⟩⟩
    rw [hzg]; omega
  · have hb' : h.next + 1 ≤ b := hb'
    rw [hat, if_neg (by omega)]; exact hs.lt b (by omega)
  · have hb' : h.next + 1 ≤ b := hb'
    rw [hget, if_neg (by omega)]; exact hs.fresh b (by omega)
  · rcases hsplit b c s e with ⟨_, rfl, _⟩ | ⟨_, e⟩
    · exact hgl
    · exact Nat.lt_of_lt_of_le (hs.old b c s e) hb.size
  · rcases hsplit b c s e with ⟨rfl, rfl, rfl⟩ | ⟨hne, e⟩
    · rw [hget, if_pos rfl] at hx
      cases hx
      refine ⟨by simp [intsQ], fun v hv => ?_, ⟨fun _ => nofun, fun _ => hog⟩, arr, el, fr, h1, by rw [h2, hzg], fun _ => h3, fun i v hv => ?_⟩
      · obtain ⟨z, _, rfl⟩ := List.mem_map.1 hv; rfl
      · obtain ⟨z, h6, rfl⟩ := hcs i v hv
        exact ⟨_, by rw [Nat.zero_add]; exact h4 i z h6, by rw [VR_int]⟩
    · rw [hget, if_neg hne] at hx
      have hc := (hlt b c s e).2
      exact (hs.blk b c s x e hx).mono hle (hb.block c hc) (ho c hc) (hz c hc)
  · rcases hsplit b c s e with ⟨rfl, rfl, rfl⟩ | ⟨hn1, e⟩
    · rcases hsplit b' c s' e' with ⟨rfl, _, _⟩ | ⟨hn2, e'⟩
      · exact absurd rfl hne
      · exact absurd (hlt b' c s' e').2 (by omega)
    · rcases hsplit b' c s' e' with ⟨rfl, rfl, _⟩ | ⟨hn2, e'⟩
      · exact absurd (hlt b c s e).2 (by omega)
      · rw [hget, if_neg hn1] at hx
        rw [hget, if_neg hn2] at hx'
        exact hs.apart b b' c s s' x x' hne e e' (by rw [← ho c (hlt b c s e).2]; exact hown) hx hx' hd hd'
  · rcases hsplit b c s e with ⟨rfl, _, _⟩ | ⟨hn1, e⟩
    · rw [hget, if_pos rfl] at hx; cases hx
    · rw [hget, if_neg hn1] at hx
      obtain ⟨y, hy⟩ := hs.peer b c s cs n p e hx
      exact ⟨y, by rw [hat, if_neg (by have := (hlt p y.1 y.2 hy).1; omega)]; exact hy⟩
theorem told_nil {μ : Mp} {h : Hp} {w w' : World} (hs : Sim μ h w) (hb : Below w.heap.size w w') : CallR μ h w .nilSlice h (.returned (.slice none 0 0)) w' :=
  ⟨μ, _, rfl, by unfold VR; rfl, hs.below hb, .ofBelow hb⟩
theorem bc_inv' {b : Bool} {x : RV} {v : AV} {h : Hp} (e : bc b RV.no x = .ok v h) : b = false ∧ x = .ok v h := by
  cases b with
  | true => cases e
  | false => exact ⟨rfl, e⟩
noncomputable def orM (a b : Nat → Option (List AV → Hp → RV)) (f : Nat) : Option (List AV → Hp → RV) := ocase (b f) some (a f)
theorem orM_ok {P : Program} {a b : Nat → Option (List AV → Hp → RV)} (ha : Good P fun f args h => ocase .no (fun m => m args h) (a f)) (hb : Good P fun f args h => ocase .no (fun m => m args h) (b f)) :
    Good P fun f args h => ocase .no (fun m => m args h) (orM a b f) := fun f args h v h' μ w cargs e hs r => by
  have e : ocase RV.no (fun m => m args h) (ocase (b f) some (a f)) = .ok v h' := e
  cases ha' : a f with
  | none => rw [ha'] at e; exact hb f args h v h' μ w cargs e hs r
  | some m =>
    rw [ha'] at e
    exact ha f args h v h' μ w cargs (show ocase RV.no (fun m => m args h) (a f) = .ok v h' by rw [ha']; exact e) hs r
end Eng
end
section
set_option linter.unusedVariables false
set_option linter.unusedSimpArgs false
namespace Eng
open Go Go.RowKit
theorem lb {n m : Nat} (h : Nat.ble n m = true) : n ≤ m := Nat.le_of_ble_eq_true h
def gd {α : Type} (p : Prop) [Decidable p] (o : Option α) : Option α := if p then o else none
def ob {α β : Type} (o : Option α) (f : α → Option β) : Option β := match o with | none => none | some x => f x
inductive LO (S R : Type) where
  | ex (s : S)
  | rt (r : R)
def LO.on {S R β : Type} (o : LO S R) (f : S → β) (g : R → β) : β := match o with | .ex s => f s | .rt r => g r
abbrev Up (G : Nat → Prop) (h : Hp) (G' : Nat → Prop) (h' : Hp) : Prop := ∀ k, G k → G' k ∧ hget h' k = hget h k
abbrev Low (h : Hp) : Nat → Prop := fun k => k < h.next
theorem Up.refl (G : Nat → Prop) (h : Hp) : Up G h G h := fun k hk => ⟨hk, rfl⟩
theorem Up.trans {G G' G'' : Nat → Prop} {h h' h'' : Hp} (a : Up G h G' h') (b : Up G' h' G'' h'') : Up G h G'' h'' := fun k hk => ⟨(b k (a k hk).1).1, (b k (a k hk).1).2.trans (a k hk).2⟩
theorem Sep.low {os : List AObj} {h : Hp} (S : Sep os h) {i : Nat} {G : Nat → Prop} {h0 : Hp} (hi : os[i]? = some (Frz G h0)) : Up G h0 (Low h) h := fun k hk => S.frozen hi hk
theorem BIn.up {G G' : Nat → Prop} {h h' : Hp} {v : AV} {l : List Nat} (u : Up G h G' h') (P : BIn G h v l) : BIn G' h' v l := by
  obtain ⟨⟨B, P⟩, hG⟩ := P
  cases P with
  | nil => exact .nil
  | sl hB hg hcl hl hm hc hb =>
    obtain ⟨h1, h2⟩ := u _ (hG _ rfl)
    exact ⟨⟨_, .sl (Nat.lt_succ_self _) (h2.trans hg) hcl hl hm hc hb⟩, fun b e => by cases e; exact h1⟩
theorem Sep.empty {os : List AObj} {h : Hp} (S : Sep os h) : Sep (Frz (fun _ => False) h :: os) h :=
  S.add (fun _ => False) (Nat.le_refl _) ⟨fun _ e => e, fun _ e => e.elim⟩ (fun _ e => e.elim) fun _ _ => rfl
theorem Sep.call {os news : List AObj} {h rh : Hp} (S : Sep os h) (S' : Sep (news ++ [Frz (Low h) h]) rh) : Sep (news ++ os) rh := by
  have hi : (news ++ [Frz (Low h) h])[news.length]? = some (Frz (Low h) h) := by simp
  have fz : ∀ k, k < h.next → k < rh.next ∧ hget rh k = hget h k := fun k hk => S'.frozen hi hk
  obtain ⟨g, g1, g2, g3⟩ := S
  obtain ⟨f, f1, f2, f3⟩ := S'
  have fn : ∀ k, k < h.next → f news.length k := (f1 _ _ hi).1
  have fne : ∀ i k, i < news.length → f i k → ¬ k < h.next := fun i k hi' hf hk => by have := f3 _ _ k hf (fn k hk); omega
  refine ⟨fun j => if j < news.length then f j else g (j - news.length), fun j x hj => ?_, fun j k hk => ?_, fun j1 j2 k a b => ?_⟩
  · by_cases hlt : j < news.length
    · show x.p rh (if j < news.length then f j else g (j - news.length))
      rw [if_pos hlt]
      exact f1 j x (by rw [List.getElem?_append_left hlt] at hj ⊢; exact hj)
    · show x.p rh (if j < news.length then f j else g (j - news.length))
      rw [if_neg hlt]
      rw [List.getElem?_append_right (Nat.not_lt.1 hlt)] at hj
      exact x.loc (fun k hk => (fz k (g2 _ k hk)).2) (g1 _ x hj)
  · by_cases hlt : j < news.length
    · have hk : (if j < news.length then f j else g (j - news.length)) k := hk
      rw [if_pos hlt] at hk; exact f2 j k hk
    · have hk : (if j < news.length then f j else g (j - news.length)) k := hk
      rw [if_neg hlt] at hk; exact (fz k (g2 _ k hk)).1
  · have a : (if j1 < news.length then f j1 else g (j1 - news.length)) k := a
    have b : (if j2 < news.length then f j2 else g (j2 - news.length)) k := b
    by_cases h1 : j1 < news.length
    · rw [if_pos h1] at a
      by_cases h2 : j2 < news.length
      · rw [if_pos h2] at b; exact f3 _ _ k a b
      · rw [if_neg h2] at b; exact absurd (g2 _ k b) (fne _ k h1 a)
    · rw [if_neg h1] at a
      by_cases h2 : j2 < news.length
      · rw [if_pos h2] at b; exact absurd (g2 _ k a) (fne _ k h2 b)
      · rw [if_neg h2] at b; have := g3 _ _ k a b; omega
structure Rep (α : Type) where
  sz : Nat
  rep : (Nat → Prop) → Hp → List AV → α → Prop
  len : ∀ {G h cs x}, rep G h cs x → cs.length = sz
  cell : ∀ {G h cs x}, rep G h cs x → ∀ c ∈ cs, isCell c = true
  up : ∀ {G h G' h' cs x}, Up G h G' h' → rep G h cs x → rep G' h' cs x
def rU (k : IntKind) : Rep Nat where
  sz := 1
  rep _ _ cs x := cs = [.int k (.ofNat x)] ∧ x < modK k
  len := fun ⟨e, _⟩ => by rw [e]; rfl
  cell := fun ⟨e, _⟩ => by rw [e]; exact all_cell rfl all_cell0
  up := fun _ e => e
def rN (k : IntKind) : Rep Nat where
  sz := 1
  rep _ _ cs x := cs = [.int k (.ofNat x)] ∧ x < 9223372036854775808
  len := fun ⟨e, _⟩ => by rw [e]; rfl
  cell := fun ⟨e, _⟩ => by rw [e]; exact all_cell rfl all_cell0
  up := fun _ e => e
def rZ (k : IntKind) : Rep Int where
  sz := 1
  rep _ _ cs x := cs = [.int k x]
  len := fun e => by rw [e]; rfl
  cell := fun e => by rw [e]; exact all_cell rfl all_cell0
  up := fun _ e => e
def rN0 (k : IntKind) : Rep Nat where
  sz := 1
  rep _ _ cs x := cs = [.int k (.ofNat x)]
  len := fun e => by rw [e]; rfl
  cell := fun e => by rw [e]; exact all_cell rfl all_cell0
  up := fun _ e => e
def rB : Rep Bool where
  sz := 1
  rep _ _ cs x := cs = [.bool x]
  len := fun e => by rw [e]; rfl
  cell := fun e => by rw [e]; exact all_cell rfl all_cell0
  up := fun _ e => e
def rS : Rep (List Nat) where
  sz := 1
  rep _ _ cs x := cs = [.str x]
  len := fun e => by rw [e]; rfl
  cell := fun e => by rw [e]; exact all_cell rfl all_cell0
  up := fun _ e => e
def rY : Rep (List Nat) where
  sz := 1
  rep G h cs x := ∃ v, cs = [v] ∧ BIn G h v x
  len := fun ⟨v, e, _⟩ => by rw [e]; rfl
  cell := fun ⟨v, e, p⟩ => by rw [e]; exact all_cell p.cell all_cell0
  up := fun u ⟨v, e, p⟩ => ⟨v, e, p.up u⟩
def rP {α β : Type} (a : Rep α) (b : Rep β) : Rep (α × β) where
  sz := a.sz + b.sz
  rep G h cs x := ∃ c d, cs = c ++ d ∧ a.rep G h c x.1 ∧ b.rep G h d x.2
  len := fun ⟨c, d, e, p, q⟩ => by rw [e, List.length_append, a.len p, b.len q]
  cell := fun ⟨c, d, e, p, q⟩ => by
    rw [e]; intro x hx
    rcases List.mem_append.1 hx with hx | hx
    · exact a.cell p x hx
    · exact b.cell q x hx
  up := fun u ⟨c, d, e, p, q⟩ => ⟨c, d, e, a.up u p, b.up u q⟩
def Rows {α : Type} (a : Rep α) (G : Nat → Prop) (h : Hp) : List AV → List α → Prop
  | L, [] => L = []
  | L, x :: xs => ∃ c M, L = c ++ M ∧ a.rep G h c x ∧ Rows a G h M xs
theorem Rows.len {α : Type} {a : Rep α} {G : Nat → Prop} {h : Hp} : ∀ {xs : List α} {L : List AV}, Rows a G h L xs → L.length = xs.length * a.sz
  | [], L, e => by rw [show L = [] from e]; simp
  | x :: xs, L, ⟨c, M, e, p, q⟩ => by rw [e, List.length_append, a.len p, Rows.len q, List.length_cons, Nat.succ_mul]; omega
theorem Rows.cell {α : Type} {a : Rep α} {G : Nat → Prop} {h : Hp} : ∀ {xs : List α} {L : List AV}, Rows a G h L xs → ∀ c ∈ L, isCell c = true
  | [], L, e => by rw [show L = [] from e]; exact all_cell0
  | x :: xs, L, ⟨c, M, e, p, q⟩ => by
    rw [e]; intro y hy
    rcases List.mem_append.1 hy with hy | hy
    · exact a.cell p y hy
    · exact Rows.cell q y hy
theorem Rows.up {α : Type} {a : Rep α} {G G' : Nat → Prop} {h h' : Hp} (u : Up G h G' h') : ∀ {xs : List α} {L : List AV}, Rows a G h L xs → Rows a G' h' L xs
  | [], L, e => e
  | x :: xs, L, ⟨c, M, e, p, q⟩ => ⟨c, M, e, a.up u p, Rows.up u q⟩
theorem Rows.append {α : Type} {a : Rep α} {G : Nat → Prop} {h : Hp} : ∀ {xs ys : List α} {L M : List AV}, Rows a G h L xs → Rows a G h M ys → Rows a G h (L ++ M) (xs ++ ys)
  | [], ys, L, M, e, q => by rw [show L = [] from e]; exact q
  | x :: xs, ys, L, M, ⟨c, N, e, p, q⟩, r => ⟨c, N ++ M, by rw [e, List.append_assoc], p, Rows.append q r⟩
theorem Rows.one {α : Type} {a : Rep α} {G : Nat → Prop} {h : Hp} {x : α} {c : List AV} (p : a.rep G h c x) : Rows a G h c [x] := ⟨c, [], (List.append_nil c).symm, p, rfl⟩
theorem Rows.get {α : Type} [Inhabited α] {a : Rep α} {G : Nat → Prop} {h : Hp} : ∀ {xs : List α} {L : List AV} {k : Nat}, Rows a G h L xs → k < xs.length → a.rep G h ((L.drop (k * a.sz)).take a.sz) (xs.getD k default)
  | [], L, k, _, hk => absurd hk (Nat.not_lt_zero _)
  | x :: xs, L, 0, ⟨c, M, e, p, q⟩, hk => by
    rw [Nat.zero_mul, List.drop_zero, e, List.take_append_of_le_length (by rw [a.len p]; exact Nat.le_refl _), List.take_of_length_le (by rw [a.len p]; exact Nat.le_refl _)]
    exact p
  | x :: xs, L, k + 1, ⟨c, M, e, p, q⟩, hk => by
    have hd : L.drop ((k + 1) * a.sz) = M.drop (k * a.sz) := by
      rw [e, List.drop_append, List.drop_of_length_le (by rw [a.len p, Nat.succ_mul]; omega), List.nil_append, a.len p]
      congr 1; rw [Nat.succ_mul]; omega
    rw [hd]
    exact Rows.get q (by simpa using hk)
inductive SIn {α : Type} (a : Rep α) (G : Nat → Prop) (h : Hp) : AV → List α → Prop
  | nil : SIn a G h .nilSlice []
  | sl {b o c : Nat} {ex : Bool} {cs : List AV} {m : Nat} {w : Own} {xs : List α} (hG : G b) (hg : hget h b = some (.cells cs m w)) (hcl : cs.length = m) (hm : o + xs.length * a.sz ≤ m) (hc : xs.length ≤ c)
      (hr : Rows a G h ((cs.drop o).take (xs.length * a.sz)) xs) : SIn a G h (.slice b o xs.length c a.sz ex) xs
theorem SIn.up {α : Type} {a : Rep α} {G G' : Nat → Prop} {h h' : Hp} {v : AV} {xs : List α} (u : Up G h G' h') (P : SIn a G h v xs) : SIn a G' h' v xs := by
  cases P with
  | nil => exact .nil
  | sl hG hg hcl hm hc hr => exact .sl (u _ hG).1 ((u _ hG).2.trans hg) hcl hm hc (hr.up u)
theorem SIn.cell {α : Type} {a : Rep α} {G : Nat → Prop} {h : Hp} {v : AV} {xs : List α} (P : SIn a G h v xs) : isCell v = true := by cases P <;> rfl
theorem SIn.cells {α : Type} {a : Rep α} {G : Nat → Prop} {h : Hp} {v : AV} {xs : List α} (P : SIn a G h v xs) : cellsOf v = [v] := by cases P <;> rfl
theorem SIn.same {α : Type} {a : Rep α} {G : Nat → Prop} {h : Hp} {v : AV} {xs : List α} (P : SIn a G h v xs) : avEq v v = true := by
  cases P with
  | nil => rfl
  | sl => exact avEq_slice ..
def rL {α : Type} (a : Rep α) : Rep (List α) where
  sz := 1
  rep G h cs x := ∃ v, cs = [v] ∧ SIn a G h v x
  len := fun ⟨v, e, _⟩ => by rw [e]; rfl
  cell := fun ⟨v, e, p⟩ => by rw [e]; exact all_cell p.cell all_cell0
  up := fun u ⟨v, e, p⟩ => ⟨v, e, p.up u⟩
noncomputable def elemO (v : AV) (k sz off : Nat) : AV := v.asSlice .nilPtr .nilPtr fun b o _ _ _ _ => .ptr b (o + k * sz + off)
def RowAt (G : Nat → Prop) (h : Hp) (v : AV) (k sz : Nat) (cs : List AV) : Prop :=
  ∃ b o n c ex L m w, v = .slice b o n c sz ex ∧ G b ∧ hget h b = some (.cells L m w) ∧ L.length = m ∧ o + k * sz + sz ≤ m ∧ (L.drop (o + k * sz)).take sz = cs
end Eng
end
section
set_option linter.unusedVariables false
set_option linter.unusedSimpArgs false
namespace Eng
open Go Go.RowKit
theorem RowAt.up {G G' : Nat → Prop} {h h' : Hp} {v : AV} {k sz : Nat} {cs : List AV} (u : Up G h G' h') (R : RowAt G h v k sz cs) : RowAt G' h' v k sz cs := by
  obtain ⟨b, o, n, c, ex, L, m, w, e, hG, hg, r⟩ := R
  exact ⟨b, o, n, c, ex, L, m, w, e, (u b hG).1, ((u b hG).2).trans hg, r⟩
end Eng
end
section
set_option linter.unusedVariables false
set_option linter.unusedSimpArgs false
namespace Go.Proofs.YtfcljjhlijolgaaGreatDoor
open Go Go.RowKit Go.Maps Go.Sort Go.Shelf Eng
set_option maxRecDepth 100000 in
set_option maxHeartbeats 1000000 in
theorem keys1_134 (F : Fence) (n : Nat) (h10 : F.fn 134) (hro : F.round = none) (hn : 1 ≤ n) (l Bm ko b nn : Nat) (D0 : DataW Unit) (R : Value → Option (DataW Unit × List MemPlace)) (J : List Int → World → Prop)
    (hY : ∀ pre x W, J pre W → pre.length < Maps.size D0 → YieldAt F (n - 1) Tryz.prog l #[enQ .u64 x] W fun e W' => e = .returned (.bool true) ∧ J (pre ++ [x]) W' ∧ KeepsWalks W W')
    (W : World) (hJ : AbidesFrom W.heap.size J) (hm : W.cell? ⟨Bm, ko, none⟩ = some (.map (some b))) (hown : W.ownsMap Tryz.prog 31 R b nn D0) (h0 : J [] W) :
    CallsIn F n Tryz.prog 134 #[.func (.yield l) #[] #[], .pointer (some ⟨Bm, ko, none⟩)] W fun e W' => (∃ v, e = .returned v) ∧ ∃ ss : List Int, ss.Perm (keysD D0) ∧ J ss W' := by
  refine callsIn_of_wp Tryz.func134 rfl h10 ?_ hro
  simp only [Tryz.ntmps134, List.size_toArray, List.length_cons, List.length_nil, Nat.reduceAdd, Nat.reduceSub, Array.replicate_succ, Array.replicate_zero, List.push_toArray, List.append_toArray, List.nil_append, List.cons_append]
  gi_wp2_with (first
    | (gi_at_range; refine wpListIn_range_own _ rfl _ 217 rfl 31 3 (int_keyed Tryz.underlying31) Tryz.underlying217 _ b nn _ rfl hown ?_; intro w0 hrg0 hg0 hs0)
    | gi_in)
  go_frame
  gi_loopw [3] (fun _ wr => ∃ (left : Lit → Bool) (cnt : Nat) (ss : List Int), wr.ranges Tryz.prog 31 R b W.heap.size nn D0 left cnt ∧ ss.length + cnt ≤ Maps.size D0 ∧ Came .u64 D0 left ss ∧ J ss wr)
    (fun _ wr => wr.rangeLeft b W.heap.size)
  case atStart =>
    exact ⟨_, _, [], hrg0, by simp, Came.start D0, hJ [] W w0 none h0 hg0 (fun r e => by cases e)⟩
  case round =>
    obtain ⟨left, cnt, ss, hrg, hcs, hC, hJs⟩ := hrel
    gi_wp2_with (first
      | (gi_at_next; refine wpListIn_next_ranges _ rfl _ rfl 31 (int_keyed Tryz.underlying31) R (enQ .u64) id (fun key kl hk => by obtain ⟨x, hx, _⟩ := keyOf_q Tryz.underlying31 hk; exact ⟨x, hx⟩) (fun v _ _ => ⟨v, rfl⟩) b W.heap.size nn _ _ _ rfl hrg ?_ ?_)
      | gi_in)
    · intro hc0 hl0
      gi_wp2
      go_end0
      exact ⟨⟨_, rfl⟩, ss, hC.all hown Tryz.underlying31 hl0, hJs⟩
    · intro x c kl yd yp w2 cnt2 hkey hlk hv hat hrg2 hlt hg2 hs2 hen
      obtain ⟨x', ex, rfl, _⟩ := keyOf_q Tryz.underlying31 hkey
      obtain rfl : x = x' := enQ_inj ex
      have hJ2 : J ss w2 := hJ ss wr w2 (some W.heap.size) hJs hg2 (fun r e => by cases e; exact ⟨Nat.le_refl _, hrg.iter_walk⟩)
      obtain ⟨fn, tmps, assign, body, hy, hR⟩ := hY ss x w2 hJ2 (by omega)
      clear hs2
      gi_wp2
      refine hR.mono ?_
      rintro e W3 ⟨rfl, hJ3, hk3⟩
      gi_wp2
      have hrg3 := hrg2.of_walks hk3
      go_roundw
      case rel => exact ⟨_, cnt2, ss ++ [x], hrg3, by simp; omega, hC.step hlk hat, hJ3⟩
      case measure => rw [hrg3.left_eq, hrg.left_eq]; exact hlt
theorem gives_134 (F : Fence) (n : Nat) (h10 : F.fn 134) (hro : F.round = none) (hn : 1 ≤ n) (Bm ko b nn : Nat) (D0 : DataW Unit) (R : Value → Option (DataW Unit × List MemPlace)) (w : World) (hBm : Bm < w.heap.size)
    (hm : w.cell? ⟨Bm, ko, none⟩ = some (.map (some b))) (hown : w.ownsMap Tryz.prog 31 R b nn D0) :
    SeqGives F n Tryz.prog 134 #[.pointer (some ⟨Bm, ko, none⟩)] (enQ .u64) (fun ss => ss.Perm (keysD D0)) (Maps.size D0) w := fun l J W hW hJ hY h0 => by
  have hown' : W.ownsMap Tryz.prog 31 R b nn D0 := by
    have hbl := hown.lt
    obtain ⟨es, clock, hb, Ft, hs, hD⟩ := hown
    exact ⟨es, clock, (hW.block b hbl).trans hb, Ft, hs, hD⟩
  exact keys1_134 F n h10 hro hn l Bm ko b nn D0 R J hY W hJ ((hW.cell (p := ⟨Bm, ko, none⟩) hBm).trans hm) hown' h0
set_option maxRecDepth 100000 in
set_option maxHeartbeats 1000000 in
theorem keys1_357 (F : Fence) (n : Nat) (h10 : F.fn 357) (hro : F.round = none) (hn : 1 ≤ n) (l Bm ko b nn : Nat) (D0 : DataW Unit) (R : Value → Option (DataW Unit × List MemPlace)) (J : List Int → World → Prop)
    (hY : ∀ pre x W, J pre W → pre.length < Maps.size D0 → YieldAt F (n - 1) Tryz.prog l #[enQ .u64 x] W fun e W' => e = .returned (.bool true) ∧ J (pre ++ [x]) W' ∧ KeepsWalks W W')
    (W : World) (hJ : AbidesFrom W.heap.size J) (hm : W.cell? ⟨Bm, ko, none⟩ = some (.map (some b))) (hown : W.ownsMap Tryz.prog 31 R b nn D0) (h0 : J [] W) :
    CallsIn F n Tryz.prog 357 #[.func (.yield l) #[] #[], .pointer (some ⟨Bm, ko, none⟩)] W fun e W' => (∃ v, e = .returned v) ∧ ∃ ss : List Int, ss.Perm (keysD D0) ∧ J ss W' := by
  refine callsIn_of_wp Tryz.func357 rfl h10 ?_ hro
  simp only [Tryz.ntmps357, List.size_toArray, List.length_cons, List.length_nil, Nat.reduceAdd, Nat.reduceSub, Array.replicate_succ, Array.replicate_zero, List.push_toArray, List.append_toArray, List.nil_append, List.cons_append]
  gi_wp2_with (first
    | (gi_at_range; refine wpListIn_range_own _ rfl _ 93 rfl 31 147 (int_keyed Tryz.underlying31) Tryz.underlying93 _ b nn _ rfl hown ?_; intro w0 hrg0 hg0 hs0)
    | gi_in)
  go_frame
  gi_loopw [3] (fun _ wr => ∃ (left : Lit → Bool) (cnt : Nat) (ss : List Int), wr.ranges Tryz.prog 31 R b W.heap.size nn D0 left cnt ∧ ss.length + cnt ≤ Maps.size D0 ∧ Came .u64 D0 left ss ∧ J ss wr)
    (fun _ wr => wr.rangeLeft b W.heap.size)
  case atStart =>
    exact ⟨_, _, [], hrg0, by simp, Came.start D0, hJ [] W w0 none h0 hg0 (fun r e => by cases e)⟩
  case round =>
    obtain ⟨left, cnt, ss, hrg, hcs, hC, hJs⟩ := hrel
    gi_wp2_with (first
      | (gi_at_next; refine wpListIn_next_ranges _ rfl _ rfl 31 (int_keyed Tryz.underlying31) R (enQ .u64) id (fun key kl hk => by obtain ⟨x, hx, _⟩ := keyOf_q Tryz.underlying31 hk; exact ⟨x, hx⟩) (fun v _ _ => ⟨v, rfl⟩) b W.heap.size nn _ _ _ rfl hrg ?_ ?_)
      | gi_in)
    · intro hc0 hl0
      gi_wp2
      go_end0
      exact ⟨⟨_, rfl⟩, ss, hC.all hown Tryz.underlying31 hl0, hJs⟩
    · intro x c kl yd yp w2 cnt2 hkey hlk hv hat hrg2 hlt hg2 hs2 hen
      obtain ⟨x', ex, rfl, _⟩ := keyOf_q Tryz.underlying31 hkey
      obtain rfl : x = x' := enQ_inj ex
      have hJ2 : J ss w2 := hJ ss wr w2 (some W.heap.size) hJs hg2 (fun r e => by cases e; exact ⟨Nat.le_refl _, hrg.iter_walk⟩)
      obtain ⟨fn, tmps, assign, body, hy, hR⟩ := hY ss x w2 hJ2 (by omega)
      clear hs2
      gi_wp2
      refine hR.mono ?_
      rintro e W3 ⟨rfl, hJ3, hk3⟩
      gi_wp2
      have hrg3 := hrg2.of_walks hk3
      go_roundw
      case rel => exact ⟨_, cnt2, ss ++ [x], hrg3, by simp; omega, hC.step hlk hat, hJ3⟩
      case measure => rw [hrg3.left_eq, hrg.left_eq]; exact hlt
theorem gives_357 (F : Fence) (n : Nat) (h10 : F.fn 357) (hro : F.round = none) (hn : 1 ≤ n) (Bm ko b nn : Nat) (D0 : DataW Unit) (R : Value → Option (DataW Unit × List MemPlace)) (w : World) (hBm : Bm < w.heap.size)
    (hm : w.cell? ⟨Bm, ko, none⟩ = some (.map (some b))) (hown : w.ownsMap Tryz.prog 31 R b nn D0) :
    SeqGives F n Tryz.prog 357 #[.pointer (some ⟨Bm, ko, none⟩)] (enQ .u64) (fun ss => ss.Perm (keysD D0)) (Maps.size D0) w := fun l J W hW hJ hY h0 => by
  have hown' : W.ownsMap Tryz.prog 31 R b nn D0 := by
    have hbl := hown.lt
    obtain ⟨es, clock, hb, Ft, hs, hD⟩ := hown
    exact ⟨es, clock, (hW.block b hbl).trans hb, Ft, hs, hD⟩
  exact keys1_357 F n h10 hro hn l Bm ko b nn D0 R J hY W hJ ((hW.cell (p := ⟨Bm, ko, none⟩) hBm).trans hm) hown' h0
def apAssign : Code := (Code.region 2 #[{ dst := some 5, op := Op.assign (Operand.tmp 7), type := 31, pos := "iter.go:51", after := #[], guard := none }] false)
def apBody : Code := (Code.block 1 (Code.region 3 #[{ dst := some 8, op := Op.load 32 (Operand.tmp 2), type := 32, pos := "iter.go:52", after := #[], guard := none }, { dst := some 9, op := Op.move (Operand.tmp 5), type := 31, pos := "iter.go:52", after := #[], guard := none }, { dst := some 10, op := Op.buildSlice 32 1 #[(0, Operand.tmp 9)], type := 32, pos := "iter.go:52", after := #[{ on := 1, ground := Ground.data }], guard := none }, { dst := some 11, op := Op.call { callee := Callee.builtin Builtin.append, args := #[Operand.tmp 8, Operand.tmp 10], argTypes := #[32, 32] }, type := 32, pos := "iter.go:52", after := #[{ on := 0, ground := Ground.data }, { on := 2, ground := Ground.data }], guard := none }, { dst := none, op := Op.store 32 (Operand.tmp 2) (Operand.tmp 11), type := 0, pos := "iter.go:52", after := #[{ on := 3, ground := Ground.data }, { on := 3, ground := Ground.chain }, { on := 0, ground := Ground.phase }, { on := 1, ground := Ground.phase }, { on := 2, ground := Ground.phase }, { on := 3, ground := Ground.phase }], guard := none }] false))
def apRec (fn : FuncId) (sv : Value) (Bs D : Nat) (st : LoopState) (pend : Option Code) : Loop :=
  { state := st, pending := pend, fn, tmps := #[.slice none 0 0, sv, .pointer (some ⟨Bs, 0, none⟩), undef, .slice none 0 0, undef, sv, undef, undef, undef, undef, undef, undef], params := #[7], assign := apAssign, body := apBody, defers := D }
structure ApAt (w0 : World) (fn : FuncId) (sv : Value) (Bs l D : Nat) (ss : List Int) (W : World) : Prop where
  box : ∃ v, W.heap[Bs]? = some (.cells #[v] 32 (0, 0)) ∧ W.ownsRow w0.heap.size 31 1 v ss.length (ss.map (enQ .u64)) ∧ (v = .slice none 0 0 ↔ ss = [])
  L : W.heap[l]? = some (.loop (apRec fn sv Bs D .ready none))
  K : W.heap[D]? = some (.deferred (some []))
  below : Below w0.heap.size w0 W
theorem ap_abides (w0 : World) (fn : FuncId) (sv : Value) (Bs l D B : Nat) (hB : w0.heap.size ≤ B) : AbidesFrom B (ApAt w0 fn sv Bs l D) := fun s W W' row h hg hrow => by
  have hrow' : ∀ r, row = some r → ∃ o : Obj, W.heap[r]? = some o ∧ o.isWalk = true := fun r e => (hrow r e).2
  obtain ⟨v, hv, hr, hn⟩ := h.box
  exact ⟨⟨v, (grownBy_keeps hg hrow' hv rfl).trans hv, ownsRow_abides_a hr hg hrow', hn⟩, (grownBy_keeps hg hrow' h.L rfl).trans h.L, (grownBy_keeps hg hrow' h.K rfl).trans h.K,
    h.below.grown hg h.below.size (fun k e => Nat.le_trans hB (hrow k e).1)⟩
theorem apInfo : (Tryz.prog.info? 31).map (fun i => (i.zero, i.size, i.bytes)) = some (some (.int .u64 0), 1, 8) := by kernel_rfl
set_option maxRecDepth 100000 in
set_option maxHeartbeats 2000000 in
theorem apYield (F : Fence) (m : Nat) (w0 : World) (fn : FuncId) (hfn : F.fn fn) (sv : Value) (Bs l D : Nat) (hBl : Bs ≠ l) (hDl : D ≠ l) (hDB : D ≠ Bs) (h0B : w0.heap.size ≤ Bs) (h0l : w0.heap.size ≤ l)
    (N : Nat) (hN : N ≤ maxLen) (hNb : N * 8 ≤ 140737488355328) (ss : List Int) (x : Int) (W : World) (h : ApAt w0 fn sv Bs l D ss W) (hlen : ss.length < N) :
    YieldAt F m Tryz.prog l #[enQ .u64 x] W fun e W' => e = .returned (.bool true) ∧ ApAt w0 fn sv Bs l D (ss ++ [x]) W' ∧ KeepsWalks W W' := by
  obtain ⟨i0, hi, hz0, hz1, hz2⟩ := info_parts apInfo
  obtain ⟨v, hv, hrow, _⟩ := h.box
  refine ⟨fn, #[.slice none 0 0, sv, .pointer (some ⟨Bs, 0, none⟩), undef, .slice none 0 0, undef, sv, enQ .u64 x, undef, undef, undef, undef, undef], apAssign, apBody, by simpa [apRec] using run_yield (P := Tryz.prog) (args := #[enQ .u64 x]) h.L rfl, roundIn_of_wpIn hfn ?_⟩
  have hl : l < W.heap.size := (Array.getElem?_eq_some_iff.1 h.L).1
  have hbr := run_beginRound (P := Tryz.prog) h.L rfl
  obtain ⟨W2, hW2⟩ : ∃ W2, W.putObj l (.loop { apRec fn sv Bs D .ready none with state := .busy }) = W2 := ⟨_, rfl⟩
  rw [hW2] at hbr
  have hg2 : W.grownBy W2 (some l) := by rw [← hW2]; exact grownBy_putObj_a _ _ _
  have hk2 : KeepsWalks W W2 := by rw [← hW2]; exact KeepsWalks.putObj _ h.L rfl
  have hv2 : W2.heap[Bs]? = some (.cells #[v] 32 (0, 0)) := by rw [← hW2]; exact (World.putObj_heap_other hBl).trans hv
  have hK2 : W2.heap[D]? = some (.deferred (some [])) := by rw [← hW2]; exact (World.putObj_heap_other hDl).trans h.K
  have hL2 : W2.heap[l]? = some (.loop { apRec fn sv Bs D .ready none with state := .busy }) := by rw [← hW2]; exact World.putObj_heap_same hl
  have hrow2 : W2.ownsRow w0.heap.size 31 1 v ss.length (ss.map (enQ .u64)) := hrow.kept hg2 (ownsRow_ne_a hrow h.L (fun cur e => by cases e))
  have hb2 : Below w0.heap.size w0 W2 := h.below.grown hg2 h.below.size (fun k e => by cases e; exact h0l)
  obtain ⟨hc2, hf2⟩ := cell_of_box_a hv2
  have hBlt : Bs < W2.heap.size := (Array.getElem?_eq_some_iff.1 hv2).1
  have hl2 : l < W2.heap.size := (Array.getElem?_eq_some_iff.1 hL2).1
  have hDlt : D < W2.heap.size := (Array.getElem?_eq_some_iff.1 hK2).1
  have ne_of : ∀ {j : Nat} {o : Obj}, W2.heap[j]? = some o → (∀ cur, o ≠ .cells cur 31 (0, 0)) → some j ≠ v.ownBlock := fun hj hno => by
    rcases ownsRow_ne_a hrow2 hj hno with e | e
    · rw [e]; simp
    · exact fun e' => e e'.symm
  clear hW2
  unfold apAssign
  gi_wp2_with (rw [Oper.semAt_eq _ _ _ (fun c h => by cases h)]; go_simp; try go_bits)
  unfold apBody
  gi_wp2_with (first
    | (gi_at_builtin; refine wpListIn_append_own _ rfl _ _ 32 rfl w0.heap.size 31 i0 (.int .u64 0) 1 8 Tryz.underlying32 hi hz0 hz1 hz2 rfl (by decide) _ _ _ rfl (hrow2.alloc _) ⟨W2.heap.size, 0, none⟩ 1 1 [enQ .u64 x] rfl rfl (cell_one_new _ _ _) (by simp [Value.oneCell', enQ]) (by omega) (by omega) (by have := hb2.size; simp; omega) ?_; intro v' w3 hown' hg3 hnil3
       have hv3 : w3.heap[Bs]? = some (.cells #[v] 32 (0, 0)) := (hg3.block Bs (by simp; omega) (ne_of hv2 (fun cur e => by cases e))).trans ((Below.heap_alloc _ _ Bs hBlt).trans hv2)
       obtain ⟨hc3, hf3⟩ := cell_of_box_a hv3
       obtain ⟨g', cap', cur', rfl, hbase', hgb', hr1, hr2, hr3, hr4⟩ : ∃ g' cap' cur', v' = .slice (some ⟨g', 0, none⟩) (ss.length + 1) cap' ∧ w0.heap.size ≤ g' ∧ w3.heap[g']? = some (.cells cur' 31 (0, 0)) ∧ ss.length + 1 ≤ cap' ∧ cap' ≤ maxLen ∧ cur'.size = cap' * 1 ∧ cur'.toList.take ((ss.length + 1) * 1) = ss.map (enQ .u64) ++ [enQ .u64 x] := by
         rcases hown'.2 with ⟨_, h0⟩ | h'
         · exact absurd h0 (by omega)
         · exact h'
       go_frame)
    | (rw [Oper.semAt_eq _ _ _ (fun c h => by cases h)]; go_simp; try go_bits))
  have hg3' : (W2.alloc (.cells #[enQ .u64 x] 31)).grownBy w3 v.ownBlock := hg3
  have hL3 : w3.heap[l]? = some (.loop { apRec fn sv Bs D .ready none with state := .busy }) := (hg3'.block l (by simp; omega) (ne_of hL2 (fun cur e => by cases e))).trans ((Below.heap_alloc _ _ l hl2).trans hL2)
  have hK3 : w3.heap[D]? = some (.deferred (some [])) := (hg3'.block D (by simp; omega) (ne_of hK2 (fun cur e => by cases e))).trans ((Below.heap_alloc _ _ D hDlt).trans hK2)
  obtain ⟨w4, hw4⟩ : ∃ w4, w3.setCell ⟨Bs, 0, none⟩ (.slice (some ⟨g', 0, none⟩) (ss.length + 1) cap') = w4 := ⟨_, rfl⟩
  rw [hw4]
  have hg4 : w3.grownBy w4 (some Bs) := by rw [← hw4]; exact grownBy_setCell0_a _ _ _
  have hv4 : w4.heap[Bs]? = some (.cells #[.slice (some ⟨g', 0, none⟩) (ss.length + 1) cap'] 32 (0, 0)) := by rw [← hw4]; exact heap_setCell_box_a _ hv3
  have hL4 : w4.heap[l]? = some (.loop { apRec fn sv Bs D .ready none with state := .busy }) := (hg4.block l (Array.getElem?_eq_some_iff.1 hL3).1 (fun e => hBl (by cases e; rfl))).trans hL3
  have hK4 : w4.heap[D]? = some (.deferred (some [])) := (hg4.block D (Array.getElem?_eq_some_iff.1 hK3).1 (fun e => hDB (by cases e; rfl))).trans hK3
  have hrow4 := hown'.kept hg4 (ownsRow_ne_a hown' hv3 (fun cur e => by cases e))
  have hl4 : l < w4.heap.size := (Array.getElem?_eq_some_iff.1 hL4).1
  have hb3 : Below w0.heap.size w0 w3 := (hb2.alloc hb2.size _).grown hg3' (by have := hb2.size; simp; omega) (fun k e => (hrow2.lt k e).1)
  have hb4 : Below w0.heap.size w0 w4 := hb3.grown hg4 hb3.size (fun k e => by cases e; exact h0B)
  have hk4 : KeepsWalks W w4 := ((hk2.trans (KeepsWalks.alloc _ _)).trans (KeepsWalks.of_grownBy hg3' (ownsRow_not_walk_a (hrow2.alloc _)))).trans (by rw [← hw4]; exact KeepsWalks.setCell _ _ _)
  clear hw4
  refine ⟨_, _, run_endRound none hL4, rfl, ⟨⟨_, (World.putObj_heap_other hBl).trans hv4, ?_, by simp⟩, World.putObj_heap_same hl4, (World.putObj_heap_other hDl).trans hK4, hb4.grown (grownBy_putObj_a _ _ _) hb4.size (fun k e => by cases e; exact h0l)⟩, hk4.trans (KeepsWalks.putObj _ hL4 rfl)⟩
  have := hrow4.kept (grownBy_putObj_a w4 l (.loop { { apRec fn sv Bs D .ready none with state := .busy } with state := if (none : Option Code).isNone then .ready else .done, pending := none })) (ownsRow_ne_a hrow4 hL4 (fun cur e => by cases e))
  simpa using this
set_option maxRecDepth 100000 in
set_option maxHeartbeats 2000000 in
theorem appendSeq_in (F : Fence) (n : Nat) (h11 : F.fn 173) (hro : F.round = none) (hn : 2 ≤ n) (g : Nat) (lb : Array Value) (hFg : F.fn g) (eg : ∀ args w, (callFunc g args).run Tryz.prog w = .ok (.enter g args) w)
    (S : List Int → Prop) (N : Nat) (hN : N ≤ maxLen) (hNb : N * 8 ≤ 140737488355328) (w : World) (hseq : SeqGives F (n - 1) Tryz.prog g lb (enQ .u64) S N w) :
    CallsIn F n Tryz.prog 173 #[.slice none 0 0, .func (.func g) #[] lb] w fun e w' => ∃ (v : Value) (ss : List Int), e = .returned v ∧ S ss ∧ w'.ownsRow w.heap.size 31 1 v ss.length (ss.map (enQ .u64)) ∧ (v = .slice none 0 0 ↔ ss = []) ∧ Below w.heap.size w w' := by
  have h1 : 1 ≤ n := by omega
  refine callsIn_of_wp_marks Tryz.func173 rfl h11 ?_ hro
  simp only [Tryz.ntmps173, List.size_toArray, List.length_cons, List.length_nil, Nat.reduceAdd, Nat.reduceSub, Array.replicate_succ, Array.replicate_zero, List.push_toArray, List.append_toArray, List.nil_append, List.cons_append]
  gi_wp2
  refine wpIn_rangeFunc ?_
  intro fn hfn
  rw [hro]
  obtain ⟨W0, hW0⟩ : ∃ W0, w.alloc (.cells #[.slice none 0 0] 32) = W0 := ⟨_, rfl⟩
  have hs0 : W0.heap.size = w.heap.size + 1 := by rw [← hW0]; simp
  have hv0 : W0.heap[w.heap.size]? = some (.cells #[.slice none 0 0] 32 (0, 0)) := by rw [← hW0]; exact World.alloc_heap_new w _
  have hb0 : Below w.heap.size w W0 := by rw [← hW0]; exact (Below.refl _ w).alloc (Nat.le_refl _) _
  rw [hW0]
  obtain ⟨W1, hW1⟩ : ∃ W1, (W0.alloc (.deferred (some []))).alloc (.loop (apRec fn (.func (.func g) #[] lb) w.heap.size W0.heap.size .ready none)) = W1 := ⟨_, rfl⟩
  have hold : ∀ k, k < W0.heap.size → W1.heap[k]? = W0.heap[k]? := fun k hk => by
    rw [← hW1]; exact (Below.heap_alloc _ _ k (by simp; omega)).trans (Below.heap_alloc _ _ k hk)
  have hb1 : Below w.heap.size w W1 := by rw [← hW1]; exact (hb0.alloc hb0.size _).alloc (by have := hb0.size; simp; omega) _
  have hs1 : W1.heap.size = W0.heap.size + 2 := by rw [← hW1]; simp
  have hM : ApAt w fn (.func (.func g) #[] lb) w.heap.size (W0.heap.size + 1) W0.heap.size [] W1 :=
    ⟨⟨_, (hold w.heap.size (by omega)).trans hv0, ⟨rfl, .inl ⟨rfl, rfl⟩⟩, by simp⟩,
     by rw [← hW1]; have := World.alloc_heap_new (W0.alloc (.deferred (some []))) (.loop (apRec fn (.func (.func g) #[] lb) w.heap.size W0.heap.size .ready none)); rwa [World.size_alloc] at this,
     by rw [← hW1]; exact (Below.heap_alloc _ _ _ (by simp)).trans (World.alloc_heap_new W0 _), hb1⟩
  refine ⟨W0.heap.size + 1, [{ target := .collected W0.heap.size, args := #[] }], W1, { target := .fn (.func g) lb, args := #[.func (.yield (W0.heap.size + 1)) #[] #[]] }, W1, g,
    #[.func (.yield (W0.heap.size + 1)) #[] #[]] ++ lb, W1, ?_, ?_, ?_, ?_, fun _ => h1, ?_⟩
  · rw [← hW1]; exact run_enterLoop_outer _ _ _ _ _
  · simp [resolve, go_sem]
  · intro f' hf'; simp [Target.leads] at hf'; subst hf'; exact hFg
  · simp [invoke, go_sem, eg]
  · refine (hseq (W0.heap.size + 1) (ApAt w fn (.func (.func g) #[] lb) w.heap.size (W0.heap.size + 1) W0.heap.size) W1 hb1 (ap_abides _ _ _ _ _ _ _ hb1.size)
      (fun pre x W hJ hl => apYield F (n - 1 - 1) w fn hfn _ w.heap.size (W0.heap.size + 1) W0.heap.size (by omega) (by omega) (by omega) (Nat.le_refl _) (by omega) N hN hNb pre x W hJ hl) hM).mono ?_
    rintro e W2 ⟨⟨v0, rfl⟩, ss, hS, h2⟩
    obtain ⟨v, hv, hrow, hnil⟩ := h2.box
    have hend := run_endLoop (P := Tryz.prog) h2.L (by simp [apRec])
    obtain ⟨W3, hW3⟩ : ∃ W3, W2.putObj (W0.heap.size + 1) (.loop { apRec fn (.func (.func g) #[] lb) w.heap.size W0.heap.size .ready none with state := .exhausted }) = W3 := ⟨_, rfl⟩
    rw [hW3] at hend
    have hg3 : W2.grownBy W3 (some (W0.heap.size + 1)) := by rw [← hW3]; exact grownBy_putObj_a _ _ _
    have hv3 : W3.heap[w.heap.size]? = some (.cells #[v] 32 (0, 0)) := by rw [← hW3]; exact (World.putObj_heap_other (by omega)).trans hv
    have hK3 : W3.heap[W0.heap.size]? = some (.deferred (some [])) := by rw [← hW3]; exact (World.putObj_heap_other (by omega)).trans h2.K
    have hrow3 := hrow.kept hg3 (ownsRow_ne_a hrow h2.L (fun cur e => by cases e))
    have hb3 : Below w.heap.size w W3 := h2.below.grown hg3 h2.below.size (fun k e => by cases e; omega)
    obtain ⟨hc3, hf3⟩ := cell_of_box_a hv3
    clear hW3
    refine ⟨none, W3, hend, ?_⟩
    gi_wp2
    rw [← hs0]
    refine ⟨by simp, .inl ⟨_, _, rfl, run_takeDeferred hK3, ?_⟩⟩
    exact ⟨_, results_tmp rfl _ _ _, v, ss, rfl, hS, hrow3.kept (grownBy_putObj_a _ _ _) (ownsRow_ne_a hrow3 hK3 (fun cur e => by cases e)), hnil, hb3.grown (grownBy_putObj_a _ _ _) hb3.size (fun k e => by cases e; omega)⟩
set_option maxHeartbeats 1000000 in
theorem collect_in (F : Fence) (n : Nat) (h8 : F.fn 132) (h11 : F.fn 173) (hro : F.round = none) (hn : 3 ≤ n) (g : Nat) (lb : Array Value) (hFg : F.fn g) (eg : ∀ args w, (callFunc g args).run Tryz.prog w = .ok (.enter g args) w)
    (S : List Int → Prop) (N : Nat) (hN : N ≤ maxLen) (hNb : N * 8 ≤ 140737488355328) (w : World) (hseq : SeqGives F (n - 1 - 1) Tryz.prog g lb (enQ .u64) S N w) :
    CallsIn F n Tryz.prog 132 #[.func (.func g) #[] lb] w fun e w' => ∃ (v : Value) (ss : List Int), e = .returned v ∧ S ss ∧ w'.ownsRow w.heap.size 31 1 v ss.length (ss.map (enQ .u64)) ∧ (v = .slice none 0 0 ↔ ss = []) ∧ Below w.heap.size w w' := by
  have h1 : 1 ≤ n := by omega
  refine callsIn_of_wp Tryz.func132 rfl h8 ?_ hro
  simp only [Tryz.ntmps132, List.size_toArray, List.length_cons, List.length_nil, Nat.reduceAdd, Nat.reduceSub, Array.replicate_succ, Array.replicate_zero, List.push_toArray, List.append_toArray, List.nil_append, List.cons_append]
  gi_wp2_with (gi_at_call 173; refine (appendSeq_in F (n - 1) h11 hro (by omega) g lb hFg eg S N hN hNb _ hseq).mono ?_; rintro e w' ⟨v, ss, rfl, hS, hrow, hnil, hb⟩)
  go_ret
  exact ⟨v, ss, rfl, hS, hrow, hnil, hb⟩
end Go.Proofs.YtfcljjhlijolgaaGreatDoor
end
