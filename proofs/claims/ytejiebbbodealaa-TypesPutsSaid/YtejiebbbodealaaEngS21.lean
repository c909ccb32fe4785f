/- The engine's soundness, part 21: statements that draw their order: the run. -/
import Derived.Test.YtejiebbbodealaaEngS20
set_option linter.unusedVariables false
set_option linter.unusedSimpArgs false
namespace Eng
open Go Go.RowKit
inductive Tra (call : CallT) : List It → T → Hp → List PD → T → Hp → Prop
  | last {n t h ps r} : readAgain ps n h = true → Tra call (.last n :: r) t h ps t h
  | skip {n hi q r t h ps t' h'} : wanted q.o.guard t = false → Tra call r (putT q.o.dst undef t) h ps t' h' → Tra call (.op n hi q :: r) t h ps t' h'
  | quiet {n hi q r t h ps t' h' f v} : wanted q.o.guard t = true → q.o.op = .q f → evQ f t h = .ok v → Tra call r (putT q.o.dst v t) h (⟨f, t, v, hi⟩ :: ps) t' h' → Tra call (.op n hi q :: r) t h ps t' h'
  | alloc {n hi q r t h ps t' h' f m x} : wanted q.o.guard t = true → q.o.op = .l f → evL f t = .ok m x → Tra call r (putT q.o.dst (mkAt m h.next) t) (hpush h x) ps t' h' → Tra call (.op n hi q :: r) t h ps t' h'
  | eff {n e r t h ps t1 h1 t' h'} : readAgain ps n h = true → evO call e.o t h = .ok t1 h1 → Tra call r t1 h1 ps t' h' → Tra call (.eff n e :: r) t h ps t' h'
theorem stageOs_tra {call : CallT} {t' : T} {h' : Hp} {n : Nat} {tail : List It} {k : T → Hp → List PD → RT} (hk : ∀ t1 h1 ps1, k t1 h1 ps1 = .ok t' h' → Tra call tail t1 h1 ps1 t' h') :
    ∀ (qs : List (NO × Nat)) (t : T) (h : Hp) (ps : List PD), stageOs (qs.map fun q => (q.1.o, q.2)) t h ps k = .ok t' h' → Tra call (qs.map (fun q => It.op n q.2 q.1) ++ tail) t h ps t' h'
  | [], t, h, ps, e => hk t h ps e
  | q :: qs, t, h, ps, e => by
    have e : bc (wanted q.1.o.guard t) (q.1.o.op.cs
      (fun f => quietO f q.1.o.dst q.2 t h ps fun t h ps => stageOs (qs.map fun q => (q.1.o, q.2)) t h ps k)
      (fun l => (evL l t).then fun m x => stageOs (qs.map fun q => (q.1.o, q.2)) (putT q.1.o.dst (mkAt m h.next) t) (hpush h x) ps k)
      (fun _ => .no)) (stageOs (qs.map fun q => (q.1.o, q.2)) (putT q.1.o.dst undef t) h ps k) = .ok t' h' := e
    show Tra call (It.op n q.2 q.1 :: (qs.map (fun q => It.op n q.2 q.1) ++ tail)) t h ps t' h'
    cases hw : wanted q.1.o.guard t with
    | false =>
      rw [hw] at e
      exact .skip hw (stageOs_tra hk qs _ _ _ e)
    | true =>
      rw [hw] at e
      cases ho : q.1.o.op with
      | q f =>
        rw [ho] at e
        obtain ⟨v, hv, e1⟩ := ov_then (show (evQ f t h).then (fun v => stageOs (qs.map fun q => (q.1.o, q.2)) (putT q.1.o.dst v t) h (⟨f, t, v, q.2⟩ :: ps) k) = .ok t' h' from e)
        exact .quiet hw ho hv (stageOs_tra hk qs _ _ _ e1)
      | l f =>
        rw [ho] at e
        obtain ⟨m, x, hm, e1⟩ := ol_then (show (evL f t).then (fun m x => stageOs (qs.map fun q => (q.1.o, q.2)) (putT q.1.o.dst (mkAt m h.next) t) (hpush h x) ps k) = .ok t' h' from e)
        exact .alloc hw ho hm (stageOs_tra hk qs _ _ _ e1)
      | e f => rw [ho] at e; cases e
theorem evDs_tra {call : CallT} {t' : T} {h' : Hp} : ∀ (st : List (List (NO × Nat) × Option NO)) (n : Nat) (t : T) (h : Hp) (ps : List PD),
    evDs call (st.map fun s => ⟨s.1.map fun q => (q.1.o, q.2), s.2.map (·.o)⟩) n t h ps = .ok t' h' → Tra call (flat n st) t h ps t' h'
  | [], n, t, h, ps, e => by cases e
  | (qs, eo) :: st, n, t, h, ps, e => by
    have e : stageOs (qs.map fun q => (q.1.o, q.2)) t h ps (fun t h ps =>
      bc (readAgain ps n h) (ocase (.ok t h) (fun e => (evO call e t h).then fun t h => evDs call (st.map fun s => ⟨s.1.map fun q => (q.1.o, q.2), s.2.map (·.o)⟩) (Nat.succ n) t h ps) (eo.map (·.o))) .no) = .ok t' h' := e
    cases eo with
    | none =>
      refine stageOs_tra (tail := [It.last n]) (fun t1 h1 ps1 e1 => ?_) qs t h ps e
      obtain ⟨hr, e2⟩ := bc_inv e1 nofun
      cases e2
      exact .last hr
    | some x =>
      refine stageOs_tra (tail := It.eff n x :: flat (n + 1) st) (fun t1 h1 ps1 e1 => ?_) qs t h ps e
      obtain ⟨hr, e2⟩ := bc_inv e1 nofun
      obtain ⟨t2, h2, e3, e4⟩ := rt_then (show (evO call x.o t1 h1).then (fun t h => evDs call (st.map fun s => ⟨s.1.map fun q => (q.1.o, q.2), s.2.map (·.o)⟩) (Nat.succ n) t h ps1) = .ok t' h' from e2)
      exact .eff hr e3 (evDs_tra st (n + 1) t2 h2 ps1 e4)
def Wr (ops : Array Oper) (j d : Nat) : Prop := ∃ o, ops[j]? = some o ∧ o.dst = some d
structure Static (P : Program) (n : Nat) (ops : Array Oper) (A : Nat → Nat) : Prop where
  uniq : ∀ i j d, Wr ops i d → Wr ops j d → i = j
  order : ∀ i j d o, ops[i]? = some o → Operand.tmp d ∈ o.op.operands.toList → Wr ops j d → i ≠ j ∧ ((A i).testBit j = true ∨ (A j).testBit i = true)
  guard : ∀ i o g want, ops[i]? = some o → o.guard = some (g, want) → (A i).testBit g = true
  anc : ∀ i o l, ops[i]? = some o → (A i).testBit l = true → ∃ e ∈ o.after, Region.binds .any e = true ∧ (l = e.on ∨ (A e.on).testBit l = true)
structure Rec (P : Program) (n : Nat) (ops : Array Oper) (A : Nat → Nat) (es : List NO) (h0 : Hp) (t0 : T) (fr : T) (v : AV) (b : Nat) (al : Bool) (t : T) (h : Hp) (ps : List PD) (μ : Mp) (i : Nat) (o : Oper) (g : Option (Nat × Bool)) : Prop where
  op : ops[i]? = some o
  grd : compGuard ops o.guard = some g
  lt : ∀ d, o.dst = some d → d < n
  dst : ∀ d, o.dst = some d → evX (.tmp d) t = v
  fr1 : ∀ d j, Wr ops j d → (A i).testBit j = true → evX (.tmp d) fr = evX (.tmp d) t
  fr2 : ∀ d j, Operand.tmp d ∈ o.op.operands.toList → Wr ops j d → (A i).testBit j = false → evX (.tmp d) fr = evX (.tmp d) t0
  fr3 : ∀ d, (∀ j, ¬ Wr ops j d) → evX (.tmp d) fr = evX (.tmp d) t0
  kind : (wanted g fr = false ∧ v = undef) ∨ (wanted g fr = true ∧
    ((∃ f hi, compOp P o.op = .q f ∧ (⟨f, fr, v, hi⟩ : PD) ∈ ps ∧ ∀ e, es[hi]? = some e → (A e.i).testBit i = true) ∨
     (∃ f m x, compOp P o.op = .l f ∧ evL f fr = .ok m x ∧ v = mkAt m b ∧ μ.at_ b = none ∧ hget h b = some x ∧ b < h.next ∧ h0.next ≤ b ∧ al = true)))
structure Mid (P : Program) (n : Nat) (ops : Array Oper) (A : Nat → Nat) (es : List NO) (μ0 : Mp) (h0 : Hp) (w0 : World) (t0 : T) (s : Nat) (fr : Nat → T) (v : Nat → AV) (bk : Nat → Nat) (al : Nat → Bool) (t : T) (h : Hp) (ps : List PD)
    (D : Nat → Prop) (μ : Mp) (a : Act) (w : World) : Prop where
  sub : ∀ i, D i → s.testBit i = true
  down : ∀ i, D i → ∀ l, (A i).testBit l = true → D l
  sdown : ∀ i, s.testBit i = true → ∀ l, (A i).testBit l = true → s.testBit l = true
  late : ∀ d j, Wr ops j d → ¬ D j → VR μ (evX (.tmp d) t0) (a.tmps.getD d Go.undef)
  done : ∀ d, (∀ j, Wr ops j d → D j) → VR μ (evX (.tmp d) t) (a.tmps.getD d Go.undef)
  same : ∀ d, (∀ j, Wr ops j d → s.testBit j = false) → evX (.tmp d) t = evX (.tmp d) t0
  recs : ∀ i, s.testBit i = true → ¬ D i → ∃ o g, Rec P n ops A es h0 t0 (fr i) (v i) (bk i) (al i) t h ps μ i o g
  apart : ∀ i j, s.testBit i = true → ¬ D i → s.testBit j = true → ¬ D j → al i = true → al j = true → i ≠ j → bk i ≠ bk j
  bkl : ∀ i, s.testBit i = true → ¬ D i → al i = true → bk i < h.next
  sim : Sim μ h w
  goes : Goes μ0 h0 w0 μ h w
  defers : a.defers = []
  size : a.tmps.size = n
section
variable {P : Program} {n : Nat} {ops : Array Oper} {A : Nat → Nat} {es : List NO} {μ0 : Mp} {h0 : Hp} {w0 : World} {t0 : T} {s : Nat} {fr : Nat → T} {v : Nat → AV} {bk : Nat → Nat} {al : Nat → Bool} {t t' : T} {h h' : Hp} {ps : List PD}
  {D : Nat → Prop} {μ : Mp} {a : Act} {w : World}
noncomputable def laid (x : Option Blk) (h : Hp) : Hp := match x with
  | some y => hpush h y
  | none => h
theorem evX_put {d : Option Nat} {u : AV} {i : Nat} (hd : d ≠ some i) : evX (.tmp i) (putT d u t) = evX (.tmp i) t := by
  cases d with
  | none => rfl
  | some d =>
    show evX (.tmp i) (tset (pathOf d) u t) = _
    rw [evX_tmp, evX_tmp, tget_tset_ne _ _ _ _ (fun e => hd (congrArg some (pathOf_inj e.symm)))]
theorem evX_put_self {i : Nat} {u : AV} : evX (.tmp i) (putT (some i) u t) = u := by
  show evX (.tmp i) (tset (pathOf i) u t) = _
  rw [evX_tmp, tget_tset]; rfl
theorem bit_or {s i j : Nat} : (s ||| 2 ^ i).testBit j = true ↔ s.testBit j = true ∨ j = i := by
  rw [Nat.testBit_or, Nat.testBit_two_pow, Bool.or_eq_true, decide_eq_true_eq]
  exact ⟨fun h => h.imp id Eq.symm, fun h => h.imp id Eq.symm⟩
theorem bits_sub {a s : Nat} (h : a &&& s = a) {l : Nat} (hl : a.testBit l = true) : s.testBit l = true := by
  rw [← h, Nat.testBit_and, Bool.and_eq_true] at hl
  exact hl.2
theorem Sim.ghost (hs : Sim μ h w) (x : Blk) : Sim μ (hpush h x) w := by
  have hnone : ∀ b, μ.at_ b ≠ Option.none → b ≠ h.next := fun b hb e => hb (by rw [e]; exact hs.lt _ (Nat.le_refl _))
  refine ⟨fun b hb => hs.lt b (Nat.le_of_succ_le hb), fun b hb => ?_, hs.old, fun b c s y e g => ?_, fun b b' c s s' y y' hne e e' ho g g' => ?_, fun b c s cs n p e g => ?_⟩
  · have hb : h.next + 1 ≤ b := hb
    rw [hget_hpush_ne _ _ (by omega)]; exact hs.fresh b (by omega)
  · rw [hget_hpush_ne _ _ (hnone b (by rw [e]; nofun))] at g; exact hs.blk b c s y e g
  · rw [hget_hpush_ne _ _ (hnone b (by rw [e]; nofun))] at g
    rw [hget_hpush_ne _ _ (hnone b' (by rw [e']; nofun))] at g'
    exact hs.apart b b' c s s' y y' hne e e' ho g g'
  · rw [hget_hpush_ne _ _ (hnone b (by rw [e]; nofun))] at g; exact hs.peer b c s cs n p e g
theorem Goes.ghosts (g : Goes μ0 h0 w0 μ h w) (x : Blk) : Goes μ0 h0 w0 μ (hpush h x) w :=
  ⟨Nat.le_succ_of_le g.next, g.at_, g.own, g.size, g.heap, g.kept, fun b hb hn => by
    have := g.next
    rw [hget_hpush_ne _ _ (by omega)]; exact g.ghost b hb hn, g.os, g.tape, g.output⟩
theorem absorb (st : Static P n ops A) (m : Mid P n ops A es μ0 h0 w0 t0 s fr v bk al t h ps D μ a w) {call : CallT} {k hi : Nat} {q : NO} {tail : List It} (tr : Tra call (.op k hi q :: tail) t h ps t' h')
    (hop : ops[q.i]? = some q.p) (hqo : q.o = compO P n ops q.p) (hsub : A q.i &&& s = A q.i) (hnew : s.testBit q.i = false) (hah : ∀ e, es[hi]? = some e → (A e.i).testBit q.i = true) :
    ∃ fr' v' bk' al' t1 h1 ps1, Tra call tail t1 h1 ps1 t' h' ∧ Mid P n ops A es μ0 h0 w0 t0 (s ||| 2 ^ q.i) fr' v' bk' al' t1 h1 ps1 D μ a w := by
  have hD : ¬ D q.i := fun hd => by rw [m.sub _ hd] at hnew; cases hnew
  have proper : q.o ≠ ⟨none, no, none⟩ → ∃ g, q.o = ⟨q.p.dst, compOp P q.p.op, g⟩ ∧ compGuard ops q.p.guard = some g ∧ ∀ i, q.p.dst = some i → i < n := fun hne => by
    rcases compO_inv (P := P) (n := n) (ops := ops) (o := q.p) with ⟨g, h1, h2, h3⟩ | h1
    · exact ⟨g, hqo.trans h1, h2, h3⟩
    · exact absurd (hqo.trans h1) hne
  have go : ∀ (g : Option (Nat × Bool)) (u : AV) (x : Option Blk) (ps1 : List PD), q.o = ⟨q.p.dst, compOp P q.p.op, g⟩ → compGuard ops q.p.guard = some g → (∀ i, q.p.dst = some i → i < n) → (∀ p ∈ ps, p ∈ ps1) →
      ((wanted g t = false ∧ u = undef ∧ x = none) ∨ (wanted g t = true ∧ ((∃ f hi, compOp P q.p.op = .q f ∧ (⟨f, t, u, hi⟩ : PD) ∈ ps1 ∧ (∀ e, es[hi]? = some e → (A e.i).testBit q.i = true) ∧ x = none) ∨
        ∃ f mk y, compOp P q.p.op = .l f ∧ evL f t = .ok mk y ∧ u = mkAt mk h.next ∧ x = some y))) →
      Mid P n ops A es μ0 h0 w0 t0 (s ||| 2 ^ q.i) (fun j => if j = q.i then t else fr j) (fun j => if j = q.i then u else v j) (fun j => if j = q.i then h.next else bk j) (fun j => if j = q.i then x.isSome else al j)
        (putT q.p.dst u t) (laid x h) ps1 D μ a w := fun g u x ps1 hq hg hlt hps hkind => by
    have hnext : h.next ≤ (laid x h).next := by cases x with | none => exact Nat.le_refl _ | some y => exact Nat.le_succ _
    have hold : ∀ b, b < h.next → hget (laid x h) b = hget h b := fun b hb => by
      cases x with
      | none => rfl
      | some y => exact hget_hpush_ne _ _ (by omega)
    have hwr : ∀ d, q.p.dst = some d → Wr ops q.i d := fun d hd => ⟨q.p, hop, hd⟩
    have hput : ∀ d j, Wr ops j d → j ≠ q.i → evX (.tmp d) (putT q.p.dst u t) = evX (.tmp d) t := fun d j hw hne => evX_put fun hd => hne (st.uniq _ _ _ hw (hwr d hd))
    refine ⟨fun i hi => bit_or.2 (.inl (m.sub i hi)), m.down, fun i hi l hl => ?_, m.late, fun d hd => ?_, fun d hd => ?_, fun i hi hDi => ?_, fun i j hi hDi hj hDj ai aj hne => ?_, fun i hi hDi ai => ?_, ?_, ?_, m.defers, m.size⟩
    · rcases bit_or.1 hi with hi | rfl
      · exact bit_or.2 (.inl (m.sdown i hi l hl))
      · exact bit_or.2 (.inl (bits_sub hsub hl))
    · rw [evX_put (fun hh => hD (hd _ (hwr d hh)))]
      exact m.done d hd
    · rw [evX_put (fun hh => by
        have := hd _ (hwr d hh)
        rw [bit_or.2 (.inr rfl)] at this; cases this)]
      refine m.same d fun j hj => ?_
      have := hd j hj
      cases hb : s.testBit j with
      | false => rfl
      | true => rw [bit_or.2 (.inl hb)] at this; cases this
    · by_cases hiq : i = q.i
      · subst hiq
        refine ⟨q.p, g, ?_⟩
        simp only [if_pos]
        refine ⟨hop, hg, hlt, fun d hd => by rw [hd]; exact evX_put_self, fun d j hw hb => ?_, fun d j hrd hw hb => ?_, fun d hnw => ?_, ?_⟩
        · have hne : j ≠ q.i := fun e => by
            subst e
            have := bits_sub hsub hb
            rw [hnew] at this; cases this
          exact (hput d j hw hne).symm
        · obtain ⟨hne, hor⟩ := st.order _ _ _ _ hop hrd hw
          have hji : (A j).testBit q.i = true := hor.resolve_left (by rw [hb]; nofun)
          refine m.same d fun j' hj' => ?_
          obtain rfl := st.uniq _ _ _ hj' hw
          cases hsj : s.testBit j' with
          | false => rfl
          | true => have := m.sdown _ hsj _ hji; rw [hnew] at this; cases this
        · exact m.same d fun j hj => absurd hj (hnw j)
        · rcases hkind with ⟨k1, k2, _⟩ | ⟨k1, ⟨f, hi, k2, k3, k4, _⟩ | ⟨f, mk, y, k2, k3, k4, k5⟩⟩
          · exact .inl ⟨k1, k2⟩
          · exact .inr ⟨k1, .inl ⟨f, hi, k2, k3, k4⟩⟩
          · subst k5
            exact .inr ⟨k1, .inr ⟨f, mk, y, k2, k3, k4, m.sim.lt _ (Nat.le_refl _), hget_hpush _ _, Nat.lt_succ_self _, m.goes.next, rfl⟩⟩
      · simp only [if_neg hiq]
        have hi := (bit_or.1 hi).resolve_right hiq
        obtain ⟨o, g', r⟩ := m.recs i hi hDi
        refine ⟨o, g', r.op, r.grd, r.lt, fun d hd => ?_, fun d j hw hb => ?_, r.fr2, r.fr3, ?_⟩
        · rw [hput d i ⟨o, r.op, hd⟩ hiq]; exact r.dst d hd
        · have hne : j ≠ q.i := fun e => by
            subst e
            have := m.sdown i hi _ hb
            rw [hnew] at this; cases this
          rw [hput d j hw hne]; exact r.fr1 d j hw hb
        · rcases r.kind with k | ⟨k1, ⟨f, hi, k2, k3, k4⟩ | ⟨f, mk, y, k2, k3, k4, k5, k6, k7, k8, k9⟩⟩
          · exact .inl k
          · exact .inr ⟨k1, .inl ⟨f, hi, k2, hps _ k3, k4⟩⟩
          · exact .inr ⟨k1, .inr ⟨f, mk, y, k2, k3, k4, k5, by rw [hold _ k7]; exact k6, Nat.lt_of_lt_of_le k7 hnext, k8, k9⟩⟩
    · by_cases hiq : i = q.i
      · subst hiq
        have hjq : j ≠ q.i := fun e => hne e.symm
        simp only [if_pos, if_neg hjq] at aj ⊢
        have := m.bkl j ((bit_or.1 hj).resolve_right hjq) hDj aj
        omega
      · by_cases hjq : j = q.i
        · subst hjq
          simp only [if_pos, if_neg hiq] at ai ⊢
          have := m.bkl i ((bit_or.1 hi).resolve_right hiq) hDi ai
          omega
        · simp only [if_neg hiq, if_neg hjq] at ai aj ⊢
          exact m.apart i j ((bit_or.1 hi).resolve_right hiq) hDi ((bit_or.1 hj).resolve_right hjq) hDj ai aj hne
    · by_cases hiq : i = q.i
      · subst hiq
        simp only [if_pos] at ai ⊢
        cases x with
        | none => cases ai
        | some y => exact Nat.lt_succ_self _
      · simp only [if_neg hiq] at ai ⊢
        exact Nat.lt_of_lt_of_le (m.bkl i ((bit_or.1 hi).resolve_right hiq) hDi ai) hnext
    · cases x with
      | none => exact m.sim
      | some y => exact m.sim.ghost y
    · cases x with
      | none => exact m.goes
      | some y => exact m.goes.ghosts y
  cases tr with
  | skip hw tr =>
    obtain ⟨g, hq, hg, hlt⟩ := proper (fun e => by rw [e] at hw; cases hw)
    rw [hq] at hw tr
    exact ⟨_, _, _, _, _, _, _, tr, go g undef none ps hq hg hlt (fun _ h => h) (.inl ⟨hw, rfl, rfl⟩)⟩
  | quiet hw hf hv tr =>
    rename_i f u
    obtain ⟨g, hq, hg, hlt⟩ := proper (fun e => by rw [e] at hf; cases hf; cases hv)
    rw [hq] at hw hf tr
    exact ⟨_, _, _, _, _, _, _, tr, go g u none _ hq hg hlt (fun _ h => List.mem_cons_of_mem _ h) (.inr ⟨hw, .inl ⟨f, hi, hf, List.mem_cons_self, hah, rfl⟩⟩)⟩
  | alloc hw hf hv tr =>
    rename_i f mk y
    obtain ⟨g, hq, hg, hlt⟩ := proper (fun e => by rw [e] at hf; cases hf)
    rw [hq] at hw hf tr
    exact ⟨_, _, _, _, _, _, _, tr, go g _ (some y) ps hq hg hlt (fun _ h => h) (.inr ⟨hw, .inr ⟨f, mk, y, hf, hv, rfl, rfl⟩⟩)⟩
end
end Eng
