/- The engine's soundness, part 22: statements that draw their order: one step. -/
import Derived.Test.YtejiebbbodealaaEngS21
set_option linter.unusedVariables false
set_option linter.unusedSimpArgs false
namespace Eng
open Go Go.RowKit
theorem fnView_fn {fn : Fn} {a b : List AV} {f : Nat} {x y : List AV} (e : fnView fn a b = .fn f x y) : fn = .func f ∧ x = a ∧ y = b := by
  cases fn <;> first | (cases e; done) | skip
  rename_i g
  have e : VF.fn g a b = .fn f x y := e
  cases e; exact ⟨rfl, rfl, rfl⟩
noncomputable def avEqs (l m : List AV) : Bool := avEq (.agg l) (.agg m)
theorem bc_and {b c : Bool} : bc b c false = true ↔ b = true ∧ c = true := by cases b <;> simp [bc]
theorem bc_iff {b c : Bool} : bc b c (notB c) = true ↔ b = c := by cases b <;> cases c <;> simp [bc, notB]
mutual
theorem avEq_eq : ∀ (v u : AV), avEq v u = true → v = u
  | .bool b, u, e => by
    have e : u.asBool false (fun c => bc b c (notB c)) = true := e
    obtain ⟨c, rfl, e⟩ := asBool_inv e nofun
    rw [bc_iff.1 e]
  | .int k n, u, e => by
    have e : u.asInt false (fun k' m => bc (ikEq k k') (eqI n m) false) = true := e
    obtain ⟨k', m, rfl, e1⟩ := asInt_inv e nofun
    obtain ⟨rfl, e2⟩ := ikEq_inv e1 nofun
    rw [eqI_eq] at e2
    rw [eq_of_beq e2]
  | .str s, u, e => by
    have e : u.asStr false (fun r => strEq s r) = true := e
    obtain ⟨r, rfl, e1⟩ := asStr_inv e nofun
    rw [strEq_iff] at e1
    rw [of_decide_eq_true e1]
  | .nilPtr, u, e => by
    have e : (avP u).cs false true (fun _ _ => false) = true := e
    cases u <;> first | rfl | (cases e; done)
  | .ptr b o, u, e => by
    have e : (avP u).cs false false (fun b' o' => bc (Nat.beq b b') (Nat.beq o o') false) = true := e
    cases u <;> first | (cases e; done) | skip
    obtain ⟨h1, h2⟩ := bc_and.1 e
    rw [Nat.eq_of_beq_eq_true h1, Nat.eq_of_beq_eq_true h2]
  | .nilSlice, u, e => by
    have e : (avS u).cs false true (fun _ _ _ _ _ _ => false) = true := e
    cases u <;> first | rfl | (cases e; done)
  | .slice b o l c s x, u, e => by
    have e : (avS u).cs false false (fun b' o' l' c' s' e' => bc (Nat.beq b b') (bc (Nat.beq o o') (bc (Nat.beq l l') (bc (Nat.beq c c') (bc (Nat.beq s s') (bc x e' (notB e')) false) false) false) false) false) = true := e
    cases u <;> first | (cases e; done) | skip
    obtain ⟨h1, e⟩ := bc_and.1 e
    obtain ⟨h2, e⟩ := bc_and.1 e
    obtain ⟨h3, e⟩ := bc_and.1 e
    obtain ⟨h4, e⟩ := bc_and.1 e
    obtain ⟨h5, e⟩ := bc_and.1 e
    rw [Nat.eq_of_beq_eq_true h1, Nat.eq_of_beq_eq_true h2, Nat.eq_of_beq_eq_true h3, Nat.eq_of_beq_eq_true h4, Nat.eq_of_beq_eq_true h5, bc_iff.1 e]
  | .nilMap, u, e => by
    have e : (avM u).cs false true (fun _ => false) = true := e
    cases u <;> first | rfl | (cases e; done)
  | .map b, u, e => by
    have e : (avM u).cs false false (fun b' => Nat.beq b b') = true := e
    cases u <;> first | (cases e; done) | skip
    rw [Nat.eq_of_beq_eq_true e]
  | .func fn a b, u, e => by
    have e1 : (fnView fn a b).cs false false (fun f _ _ => (avF u).cs false false (fun f' a' b' => bc (Nat.beq f f') (bc (avEqs a a') (avEqs b b') false) false) false) false = true := e
    clear e
    cases fn <;> first | (cases e1; done) | skip
    rename_i f
    have e2 : (avF u).cs false false (fun f' a' b' => bc (Nat.beq f f') (bc (avEqs a a') (avEqs b b') false) false) false = true := e1
    clear e1
    cases u <;> first | (cases e2; done) | skip
    rename_i fn' a' b'
    cases fn' <;> first | (cases e2; done) | skip
    rename_i f'
    obtain ⟨h1, e3⟩ := bc_and.1 (show bc (Nat.beq f f') (bc (avEqs a a') (avEqs b b') false) false = true from e2)
    obtain ⟨h2, h3⟩ := bc_and.1 e3
    rw [Nat.eq_of_beq_eq_true h1, avEqs_eq a a' h2, avEqs_eq b b' h3]
  | .nilFunc, u, e => by
    have e1 : (avF u).cs false true (fun _ _ _ => false) false = true := e
    clear e
    cases u <;> first | rfl | (cases e1; done) | skip
    rename_i fn _ _
    cases fn <;> (cases e1; done)
  | .iface t x, u, e => by
    have e1 : (avIf u).cs false false (fun t' y => bc (Nat.beq t t') (avEq x y) false) = true := e
    clear e
    cases u <;> first | (cases e1; done) | skip
    rename_i t' y
    obtain ⟨h1, h2⟩ := bc_and.1 (show bc (Nat.beq t t') (avEq x y) false = true from e1)
    rw [Nat.eq_of_beq_eq_true h1, avEq_eq x y h2]
  | .nilIface, u, e => by
    have e : (avIf u).cs false true (fun _ _ => false) = true := e
    cases u <;> first | rfl | (cases e; done)
  | .agg l, u, e => by
    have e : u.asAgg false (avEqs l) = true := e
    obtain ⟨m, rfl, e1⟩ := asAgg_inv e nofun
    rw [avEqs_eq l m e1]
  | .tuple l, u, e => by
    have e : u.asTuple false (avEqs l) = true := e
    obtain ⟨m, rfl, e1⟩ := asTuple_inv e nofun
    rw [avEqs_eq l m e1]
theorem avEqs_eq : ∀ (l m : List AV), avEqs l m = true → l = m
  | [], [], _ => rfl
  | [], _ :: _, e => by cases e
  | _ :: _, [], e => by cases e
  | a :: l, b :: m, e => by
    obtain ⟨h1, h2⟩ := bc_and.1 (show bc (avEq a b) (avEqs l m) false = true from e)
    rw [avEq_eq a b h1, avEqs_eq l m h2]
end
section
variable {P : Program} {n : Nat} {ops : Array Oper} {A : Nat → Nat} {es : List NO} {μ0 : Mp} {h0 : Hp} {w0 : World} {t0 : T} {s : Nat} {fr : Nat → T} {v : Nat → AV} {bk : Nat → Nat} {al : Nat → Bool} {t t' t1 : T} {h h' h1 : Hp} {ps : List PD}
  {D : Nat → Prop} {μ : Mp} {a : Act} {w : World}
theorem again_ok {f : QOp} {u : AV} (e : again f t u h = true) : evQ f t h = .ok u := by
  unfold again at e
  cases hq : evQ f t h with
  | no => rw [hq] at e; cases e
  | ok x =>
    rw [hq] at e
    rw [avEq_eq u x e]
theorem getD_put {d : Option Nat} {y : Value} {i : Nat} (hd : d ≠ some i) : (a.put d y).tmps.getD i Go.undef = a.tmps.getD i Go.undef := by
  cases d with
  | none => rfl
  | some d => simp [Act.put, Array.getElem?_setIfInBounds_ne (fun e => hd (congrArg some e))]
theorem getD_put_self {y : Value} {i : Nat} (hi : i < a.tmps.size) : (a.put (some i) y).tmps.getD i Go.undef = y := by
  simp [Act.put, hi]
theorem eff_run {call : CallT} (good : Good P call) {o : Oper} {q : EOp} {u : AV} {h2 : Hp} (hs : Sim μ h w) (hx : Opnds μ t a.eval o.op.operands.toList) (hc : compOp P o.op = .e q) (hv : evE q call t h = .ok u h2)
    {next : Act → World → Prop} {Q : Exit → Act → World → Prop} (hn : ∀ μ' w' y, VR μ' u y → Sim μ' h2 w' → Goes μ h w μ' h2 w' → next (a.put o.dst y) w') : o.wp P a w next Q := by
  unfold Oper.wp
  by_cases hcall : ∃ f xs, q = .call f xs
  · obtain ⟨f, xs, rfl⟩ := hcall
    obtain ⟨c, g0, ho, hcal, hf, hxs⟩ := call_inv hc
    obtain ⟨fid, as, bs, hfv, e2⟩ := asFunc_inv (show ((evX f t).asFunc RV.no fun g a b => call g (app a (app (evXs xs t) b)) h) = .ok u h2 from hv) nofun
    have rf := hx g0 (by rw [ho]; simp [Op.operands, Call.operands, hcal]) f hf
    rw [hfv, VR_func] at rf
    obtain ⟨as', bs', hg0, ra, rb⟩ := rf
    have rxs := compXs_map hxs hx (fun x hm => by rw [ho]; simp [Op.operands, Call.operands, hcal]; right; simpa using hm)
    rw [app_eq, app_eq] at e2
    have rall : VRs μ (as ++ (evXs xs t ++ bs)) ((as' ++ c.args.map a.eval) ++ bs').toList := by
      rw [Array.toList_append, Array.toList_append, List.append_assoc]
      exact ra.append (rxs.append rb)
    obtain ⟨hent, hcalls⟩ := good fid _ h u h2 μ w _ e2 hs rall
    have hrun : (execOp a.eval o).run P w = .ok (.enter fid ((as' ++ c.args.map a.eval) ++ bs')) w := by
      unfold execOp
      rw [ho]
      simp only [resolve, hcal, hg0, Deferred.ofValue, Sem.run_bind, Sem.run_pure, Result.andThen_ok, invoke]
      exact run_callFunc hent _
    rw [hrun, Oper.upon_enter]
    refine hcalls.mono fun e w' hR => ?_
    obtain ⟨μ', y, rfl, ry, hs', g'⟩ := hR
    exact hn _ _ _ ry hs' g'
  · obtain ⟨μ', w', nx, hrun, g', hs', hval⟩ := effect_ok hs hc (fun f xs hh => hcall ⟨f, xs, hh⟩) hx hv
    rw [hrun]
    rcases hval with ⟨y, rfl, ry⟩ | ⟨rfl, rfl⟩
    · exact hn _ _ _ ry hs' g'
    · exact hn _ _ _ VR_undef hs' g'
theorem pend_ok (st : Static P n ops A) (m : Mid P n ops A es μ0 h0 w0 t0 s fr v bk al t h ps D μ a w) {k : Nat} (hread : readAgain ps k h = true) (hkl : k ≤ es.length) (hdone : ∀ j e, es[j]? = some e → j < k → D e.i)
    {i : Nat} (hsi : s.testBit i = true) (hDi : ¬ D i) (hready : ∀ l, (A i).testBit l = true → D l) {K : Act → World → Prop} {Q : Exit → Act → World → Prop}
    (hK : ∀ a' w' μ', Mid P n ops A es μ0 h0 w0 t0 s fr v bk al t h ps (fun j => D j ∨ j = i) μ' a' w' → K a' w') : wpOp P ops Q i K a w := by
  obtain ⟨o, g, r⟩ := m.recs i hsi hDi
  have hwi : ∀ d, Wr ops i d → o.dst = some d := fun d ⟨o', h1, h2⟩ => by rw [r.op] at h1; cases h1; exact h2
  have fin : ∀ (μ' : Mp) (w' : World) (y : Value), μ.Le μ' → Sim μ' h w' → Goes μ0 h0 w0 μ' h w' → (∀ j, s.testBit j = true → ¬ D j → j ≠ i → al j = true → μ.at_ (bk j) = Option.none → μ'.at_ (bk j) = Option.none) → VR μ' (v i) y → K (a.put o.dst y) w' := fun μ' w' y hle hs' g' hpend ry => by
    refine hK _ _ μ' ⟨fun j hj => hj.elim (m.sub j) (fun e => e ▸ hsi), fun j hj l hl => .inl (hj.elim (fun hj => m.down j hj l hl) (fun e => hready l (e ▸ hl))), m.sdown, fun d j hw hnd => ?_, fun d hd => ?_, m.same, fun j hj hnd => ?_,
      fun j j' hj hnd hj' hnd' => m.apart j j' hj (fun h => hnd (.inl h)) hj' (fun h => hnd' (.inl h)), fun j hj hnd => m.bkl j hj (fun h => hnd (.inl h)), hs', g', by rw [put_defers]; exact m.defers, by rw [put_size]; exact m.size⟩
    · have hne : j ≠ i := fun e => hnd (.inr e)
      rw [getD_put (fun hh => hne (st.uniq _ _ _ hw ⟨o, r.op, hh⟩))]
      exact (m.late d j hw fun h => hnd (.inl h)).mono hle _ _
    · by_cases hod : o.dst = some d
      · rw [r.dst d hod, hod, getD_put_self (by rw [m.size]; exact r.lt d hod)]
        exact ry
      · rw [getD_put hod]
        exact (m.done d fun j hj => (hd j hj).resolve_right fun e => hod (hwi d (e ▸ hj))).mono hle _ _
    · have hne : j ≠ i := fun e => hnd (.inr e)
      obtain ⟨o', g'', r'⟩ := m.recs j hj fun h => hnd (.inl h)
      refine ⟨o', g'', r'.op, r'.grd, r'.lt, r'.dst, r'.fr1, r'.fr2, r'.fr3, ?_⟩
      rcases r'.kind with k | ⟨k1, k2 | ⟨f, mk, y, k2, k3, k4, k5, k6, k7, k8, k9⟩⟩
      · exact .inl k
      · exact .inr ⟨k1, .inl k2⟩
      · exact .inr ⟨k1, .inr ⟨f, mk, y, k2, k3, k4, hpend j hj (fun h => hnd (.inl h)) hne k9 k5, k6, k7, k8, k9⟩⟩
  have hwant : wanted g (fr i) = Region.wanted o (yielded ops a.tmps) := wanted_at (μ := μ) r.grd fun j want d hgd hjd => by
    have hw : Wr ops j d := by
      cases hj : ops[j]? with
      | none => rw [hj] at hjd; cases hjd
      | some oj => rw [hj] at hjd; exact ⟨oj, hj, hjd⟩
    have hb := st.guard i o j want r.op hgd
    rw [r.fr1 d j hw hb]
    exact m.done d fun j' hj' => by rw [st.uniq _ _ _ hj' hw]; exact hready j hb
  have hx : Opnds μ (fr i) a.eval o.op.operands.toList := opnds_at fun d hrd => by
    by_cases hex : ∃ j, Wr ops j d
    · obtain ⟨j, hw⟩ := hex
      cases hb : (A i).testBit j with
      | true =>
        rw [r.fr1 d j hw hb]
        exact m.done d fun j' hj' => by rw [st.uniq _ _ _ hj' hw]; exact hready j hb
      | false =>
        rw [r.fr2 d j hrd hw hb]
        obtain ⟨_, hor⟩ := st.order i j d o r.op hrd hw
        exact m.late d j hw fun hDj => hDi (m.down j hDj i (hor.resolve_left (by rw [hb]; nofun)))
    · have hnw : ∀ j, ¬ Wr ops j d := fun j hj => hex ⟨j, hj⟩
      rw [r.fr3 d hnw, ← m.same d fun j hj => absurd hj (hnw j)]
      exact m.done d fun j hj => absurd hj (hnw j)
  unfold wpOp
  rw [r.op]
  simp only []
  rw [← hwant]
  rcases r.kind with ⟨k1, k2⟩ | ⟨k1, ⟨f, hi, k2, k3, k4⟩ | ⟨f, mk, x, k2, k3, k4, k5, k6, k7, k8, k9⟩⟩
  · rw [k1, if_neg (by nofun)]
    exact fin μ w _ (.refl μ) m.sim m.goes (fun _ _ _ _ _ h => h) (by rw [k2]; exact VR_undef)
  · rw [k1, if_pos rfl]
    have hhi : ¬ hi < k := fun hlt => by
      have hle : hi < es.length := by omega
      exact hDi (m.down _ (hdone hi es[hi] (List.getElem?_eq_getElem hle) hlt) i (k4 _ (List.getElem?_eq_getElem hle)))
    have hag := (lall_iff.1 hread) _ k3
    have hag : bc (Nat.blt hi k) true (again f (fr i) (v i) h) = true := hag
    rw [bc_blt, if_neg hhi] at hag
    obtain ⟨y, hy, ry⟩ := quiet_ok m.sim k2 hx (again_ok hag)
    refine .inl ?_
    unfold Oper.wp
    rw [hy]
    exact fin μ w y (.refl μ) m.sim m.goes (fun _ _ _ _ _ h => h) ry
  · rw [k1, if_pos rfl]
    obtain ⟨y, w', ob, kk, hrun, hp, hmk⟩ := makes_ok (w := w) k2 hx k3
    have hle := ext_le (n := kk) m.sim k5
    obtain ⟨ry, hblk⟩ := hmk (μ.ext (bk i) w.heap.size 0 kk) (bk i) hle (if_pos rfl) (if_pos rfl) (if_pos rfl)
    refine .inl ?_
    unfold Oper.wp
    rw [hrun]
    refine fin (μ.ext (bk i) w.heap.size 0 kk) w' y hle (m.sim.mapNew k5 hp k6 (fun _ _ => rfl) k7 (Nat.le_refl _) (evL_solo k3) hblk) ?_ (fun j hj hnd hne aj hn => ?_) (by rw [k4]; exact ry)
    · have G := m.goes
      refine ⟨G.next, fun b hb => ?_, fun c hc => ?_, fun c hc => ?_, by rw [hp.size]; have := G.heap; omega, fun c hc ho => ?_, G.ghost, hp.os.trans G.os, hp.tape.trans G.tape, hp.output.trans G.output⟩
      · show (if b = bk i then _ else _) = _
        rw [if_neg (by omega)]; exact G.at_ b hb
      · have := G.heap
        show (if c = w.heap.size then _ else _) = _
        rw [if_neg (by omega)]; exact G.own c hc
      · have := G.heap
        show (if c = w.heap.size then _ else _) = _
        rw [if_neg (by omega)]; exact G.size c hc
      · have := G.heap
        rw [hp.old (by omega)]; exact G.kept c hc ho
    · show (if bk j = bk i then _ else _) = _
      rw [if_neg (m.apart j i hj hnd hsi hDi aj k9 hne)]; exact hn
theorem eff_ok (st : Static P n ops A) (m : Mid P n ops A es μ0 h0 w0 t0 s fr v bk al t h ps D μ a w) {call : CallT} (good : Good P call) {e : NO} (hop : ops[e.i]? = some e.p) (hqo : e.o = compO P n ops e.p) (hise : isE e.o.op = true)
    (hsub : A e.i &&& s = A e.i) (hnew : s.testBit e.i = false) (hready : ∀ l, (A e.i).testBit l = true → D l) (ev : evO call e.o t h = .ok t1 h1) {K : Act → World → Prop} {Q : Exit → Act → World → Prop}
    (hK : ∀ a' w' μ', Mid P n ops A es μ0 h0 w0 t0 (s ||| 2 ^ e.i) fr v bk al t1 h1 ps (fun j => D j ∨ j = e.i) μ' a' w' → K a' w') : wpOp P ops Q e.i K a w := by
  have hDe : ¬ D e.i := fun hd => by rw [m.sub _ hd] at hnew; cases hnew
  obtain ⟨g, hq, hg, hlt⟩ : ∃ g, e.o = ⟨e.p.dst, compOp P e.p.op, g⟩ ∧ compGuard ops e.p.guard = some g ∧ ∀ i, e.p.dst = some i → i < n := by
    rcases compO_inv (P := P) (n := n) (ops := ops) (o := e.p) with ⟨g, k1, k2, k3⟩ | k1
    · exact ⟨g, hqo.trans k1, k2, k3⟩
    · rw [hqo, k1] at hise; cases hise
  have hwr : ∀ d, e.p.dst = some d → Wr ops e.i d := fun d hd => ⟨e.p, hop, hd⟩
  have hwi : ∀ d, Wr ops e.i d → e.p.dst = some d := fun d ⟨o', k1, k2⟩ => by rw [hop] at k1; cases k1; exact k2
  have fin : ∀ (u : AV) (h2 : Hp) (μ' : Mp) (w' : World) (y : Value), t1 = putT e.p.dst u t → h1 = h2 → Sim μ' h2 w' → Goes μ h w μ' h2 w' → VR μ' u y → K (a.put e.p.dst y) w' := fun u h2 μ' w' y ht hh hs' g' ry => by
    subst ht; subst hh
    have hle := g'.le m.sim
    refine hK _ _ μ' ⟨fun j hj => bit_or.2 (hj.imp (m.sub j) id), fun j hj l hl => .inl (hj.elim (fun hj => m.down j hj l hl) (fun e => hready l (e ▸ hl))), fun j hj l hl => ?_, fun d j hw hnd => ?_, fun d hd => ?_, fun d hd => ?_, fun j hj hnd => ?_,
      fun j j' hj hnd hj' hnd' => m.apart j j' ((bit_or.1 hj).resolve_right fun e => hnd (.inr e)) (fun h => hnd (.inl h)) ((bit_or.1 hj').resolve_right fun e => hnd' (.inr e)) (fun h => hnd' (.inl h)),
      fun j hj hnd aj => Nat.lt_of_lt_of_le (m.bkl j ((bit_or.1 hj).resolve_right fun e => hnd (.inr e)) (fun h => hnd (.inl h)) aj) g'.next, hs', m.goes.trans g', by rw [put_defers]; exact m.defers, by rw [put_size]; exact m.size⟩
    · rcases bit_or.1 hj with hj | rfl
      · exact bit_or.2 (.inl (m.sdown j hj l hl))
      · exact bit_or.2 (.inl (bits_sub hsub hl))
    · have hne : j ≠ e.i := fun e => hnd (.inr e)
      rw [getD_put (fun hh => hne (st.uniq _ _ _ hw (hwr d hh)))]
      exact (m.late d j hw fun h => hnd (.inl h)).mono hle _ _
    · by_cases hod : e.p.dst = some d
      · rw [hod, evX_put_self, getD_put_self (by rw [m.size]; exact hlt d hod)]
        exact ry
      · rw [evX_put hod, getD_put hod]
        exact (m.done d fun j hj => (hd j hj).resolve_right fun e' => hod (hwi d (e' ▸ hj))).mono hle _ _
    · rw [evX_put (fun hh => by
        have := hd _ (hwr d hh)
        rw [bit_or.2 (.inr rfl)] at this; cases this)]
      refine m.same d fun j hj => ?_
      have := hd j hj
      cases hb : s.testBit j with
      | false => rfl
      | true => rw [bit_or.2 (.inl hb)] at this; cases this
    · have hne : j ≠ e.i := fun e => hnd (.inr e)
      have hj := (bit_or.1 hj).resolve_right hne
      obtain ⟨o', g'', r⟩ := m.recs j hj fun h => hnd (.inl h)
      refine ⟨o', g'', r.op, r.grd, r.lt, fun d hd => ?_, fun d j' hw hb => ?_, r.fr2, r.fr3, ?_⟩
      · rw [evX_put (fun hh => hne (st.uniq _ _ _ ⟨o', r.op, hd⟩ (hwr d hh)))]; exact r.dst d hd
      · rw [evX_put (fun hh => by
          obtain rfl := st.uniq _ _ _ hw (hwr d hh)
          have := m.sdown j hj _ hb
          rw [hnew] at this; cases this)]
        exact r.fr1 d j' hw hb
      · rcases r.kind with k | ⟨k1, k2 | ⟨f, mk, y, k2, k3, k4, k5, k6, k7, k8, k9⟩⟩
        · exact .inl k
        · exact .inr ⟨k1, .inl k2⟩
        · exact .inr ⟨k1, .inr ⟨f, mk, y, k2, k3, k4, by rw [g'.at_ _ k7]; exact k5, by rw [g'.ghost _ k7 k5]; exact k6, Nat.lt_of_lt_of_le k7 g'.next, k8, k9⟩⟩
  have hwant : wanted g t = Region.wanted e.p (yielded ops a.tmps) := wanted_at (μ := μ) hg fun j want d hgd hjd => by
    have hw : Wr ops j d := by
      cases hj : ops[j]? with
      | none => rw [hj] at hjd; cases hjd
      | some oj => rw [hj] at hjd; exact ⟨oj, hj, hjd⟩
    have hb := st.guard e.i e.p j want hop hgd
    exact m.done d fun j' hj' => by rw [st.uniq _ _ _ hj' hw]; exact hready j hb
  have hx : Opnds μ t a.eval e.p.op.operands.toList := opnds_at fun d hrd => by
    by_cases hex : ∃ j, Wr ops j d
    · obtain ⟨j, hw⟩ := hex
      cases hb : (A e.i).testBit j with
      | true => exact m.done d fun j' hj' => by rw [st.uniq _ _ _ hj' hw]; exact hready j hb
      | false =>
        obtain ⟨_, hor⟩ := st.order e.i j d e.p hop hrd hw
        have hje : (A j).testBit e.i = true := hor.resolve_left (by rw [hb]; nofun)
        rw [m.same d fun j' hj' => by
          obtain rfl := st.uniq _ _ _ hj' hw
          cases hsj : s.testBit j' with
          | false => rfl
          | true => have := m.sdown _ hsj _ hje; rw [hnew] at this; cases this]
        exact m.late d j hw fun hDj => hDe (m.down j hDj _ hje)
    · exact m.done d fun j hj => absurd ⟨j, hj⟩ hex
  rw [evO_eq, hq] at ev
  simp only [] at ev
  unfold wpOp
  rw [hop]
  simp only []
  rw [← hwant]
  split at ev
  · rename_i hw
    rw [hw, if_pos rfl]
    refine .inl ?_
    rw [hq] at hise
    cases hc : compOp P e.p.op with
    | q f => rw [hc] at hise; cases hise
    | l f => rw [hc] at hise; cases hise
    | e f =>
      rw [hc] at ev
      obtain ⟨u, h2, hu, e1⟩ := rv_then (show (evE f call t h).then (fun v h => .ok (putT e.p.dst v t) h) = .ok t1 h1 from ev)
      cases e1
      exact eff_run good m.sim hx hc hu fun μ' w' y ry hs' g' => fin u _ μ' w' y rfl rfl hs' g' ry
  · rename_i hw
    rw [if_neg hw]
    cases ev
    exact fin undef h μ w _ rfl rfl m.sim (.refl m.sim) VR_undef
end
end Eng
