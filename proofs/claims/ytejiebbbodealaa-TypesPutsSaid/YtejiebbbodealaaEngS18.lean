/- The engine's soundness, part 18: frames, plain regions, code. -/
import Derived.Test.YtejiebbbodealaaEngS17
set_option linter.unusedVariables false
set_option linter.unusedSimpArgs false
namespace Eng
open Go Go.RowKit
def TR (μ : Mp) (t : T) (tmps : Array Value) : Prop := ∀ i, VR μ (evX (.tmp i) t) (tmps.getD i Go.undef)
section
variable {P : Program} {μ μ' : Mp} {h h' : Hp} {w w' : World} {t t' : T} {a : Act}
theorem VR_undef : VR μ undef Go.undef := by
  show VR μ (.tuple []) (.tuple #[])
  rw [VR_tuple]; exact ⟨#[], rfl, by rw [VRs_nil]⟩
theorem TR.mono (r : TR μ t a.tmps) (hle : μ.Le μ') : TR μ' t a.tmps := fun i => (r i).mono hle
theorem TR.put (r : TR μ t a.tmps) {d : Option Nat} {v : AV} {y : Value} (rv : VR μ v y) (hd : ∀ i, d = some i → i < a.tmps.size) : TR μ (putT d v t) (a.put d y).tmps := by
  cases d with
  | none => exact r
  | some d =>
    intro i
    have hlt := hd d rfl
    show VR μ (evX (.tmp i) (tset (pathOf d) v t)) ((a.tmps.setIfInBounds d y).getD i Go.undef)
    rw [evX_tmp]
    by_cases hi : i = d
    · subst hi
      rw [tget_tset]
      have : (a.tmps.setIfInBounds i y).getD i Go.undef = y := by
        rw [Array.getD_eq_getD_getElem?, Array.getElem?_setIfInBounds_self_of_lt hlt]; rfl
      rw [this]; exact rv
    · rw [tget_tset_ne _ _ _ _ (fun e => hi (pathOf_inj e)), ← evX_tmp]
      have : (a.tmps.setIfInBounds d y).getD i Go.undef = a.tmps.getD i Go.undef := by
        rw [Array.getD_eq_getD_getElem?, Array.getD_eq_getD_getElem?, Array.getElem?_setIfInBounds_ne (fun e => hi e.symm)]
      rw [this]; exact r i
theorem put_size {d : Option Nat} {y : Value} : (a.put d y).tmps.size = a.tmps.size := by cases d <;> simp [Act.put]
theorem put_defers {d : Option Nat} {y : Value} : (a.put d y).defers = a.defers := by cases d <;> rfl
theorem opnds_at {l : List Operand} (r : ∀ d, Operand.tmp d ∈ l → VR μ (evX (.tmp d) t) (a.tmps.getD d Go.undef)) : Opnds μ t a.eval l := fun x hm ax hx => by
  cases x with
  | tmp i => cases hx; exact r i hm
  | const v =>
    have hx : (constAV v).map AX.const = some ax := hx
    cases hc : constAV v with
    | none => rw [hc] at hx; cases hx
    | some c => rw [hc] at hx; cases hx; exact (constAV_ok hc).1
  | func f =>
    cases hx
    rw [evX_const, VR_func]
    exact ⟨#[], #[], rfl, by rw [VRs_nil], by rw [VRs_nil]⟩
  | global g => cases hx
theorem TR.opnds (r : TR μ t a.tmps) (l : List Operand) : Opnds μ t a.eval l := opnds_at fun d _ => r d
structure At (μ0 : Mp) (h0 : Hp) (w0 : World) (n : Nat) (t : T) (h : Hp) (a : Act) (w : World) : Prop where
  ex : ∃ μ, TR μ t a.tmps ∧ Sim μ h w ∧ Goes μ0 h0 w0 μ h w
  defers : a.defers = []
  size : a.tmps.size = n
def CallR (μ : Mp) (h : Hp) (w : World) (v : AV) (h' : Hp) : Ending → World → Prop := fun e w' => ∃ μ' y, e = .returned y ∧ VR μ' v y ∧ Sim μ' h' w' ∧ Goes μ h w μ' h' w'
def Enters (P : Program) (f : Nat) : Prop := ∃ fn c, P.funcs[f]? = some fn ∧ fn.name ≠ "runtime.NumGoroutine" ∧ fn.body = some c
def Good (P : Program) (call : CallT) : Prop := ∀ f args h v h' μ w (cargs : Array Value), call f args h = .ok v h' → Sim μ h w → VRs μ args cargs.toList → Enters P f ∧ Calls P f cargs w (CallR μ h w v h')
theorem run_callFunc {f : Nat} (he : Enters P f) (args : Array Value) : (callFunc f args).run P w = .ok (.enter f args) w := by
  obtain ⟨fn, c, h1, h2, h3⟩ := he
  simp [callFunc, run_program, h1, h2, h3]
theorem rv_then {r : RV} {k : AV → Hp → RT} {t' : T} (e : r.then k = .ok t' h') : ∃ v h1, r = .ok v h1 ∧ k v h1 = .ok t' h' := by
  cases r with
  | no => cases e
  | ok v h1 => exact ⟨v, h1, rfl, e⟩
theorem ov_then {r : OV} {k : AV → RT} {t' : T} (e : r.then k = .ok t' h') : ∃ v, r = .ok v ∧ k v = .ok t' h' := by
  cases r with
  | no => cases e
  | ok v => exact ⟨v, rfl, e⟩
theorem ol_then {r : OL} {k : MK → Blk → RT} {t' : T} (e : r.then k = .ok t' h') : ∃ m x, r = .ok m x ∧ k m x = .ok t' h' := by
  cases r with
  | no => cases e
  | ok m x => exact ⟨m, x, rfl, e⟩
theorem rt_then {r : RT} {k : T → Hp → RT} {t' : T} (e : r.then k = .ok t' h') : ∃ t1 h1, r = .ok t1 h1 ∧ k t1 h1 = .ok t' h' := by
  cases r with
  | no => cases e
  | ok t1 h1 => exact ⟨t1, h1, rfl, e⟩
theorem evL_solo {l : LOp} {k : MK} {x : Blk} (e : evL l t = .ok k x) : ∀ cs n p, x ≠ .cells cs n (.pair p) := by
  have hm : ∀ {cs : List AV} {n : Nat}, ∀ cs' n' p, mkCells cs n ≠ .cells cs' n' (.pair p) := fun cs' n' p hh => by cases hh
  cases l with
  | alloc z => obtain ⟨_, e1⟩ := bc_inv (show bc (lall isCell z) (OL.ok .ptr (mkCells z (len z))) .no = .ok k x from e) nofun; cases e1; exact hm
  | box a => obtain ⟨_, e1⟩ := bc_inv (show bc (lall isCell (cellsOf (evX a t))) (OL.ok .ptr (mkCells (cellsOf (evX a t)) (len (cellsOf (evX a t))))) .no = .ok k x from e) nofun; cases e1; exact hm
  | buildSlice sz n z ps =>
    obtain ⟨cs, _, e1⟩ := ocase_inv (show ocase OL.no (fun cs => bc (lall isCell cs) (OL.ok (.sl n n sz true) (mkCells cs (Nat.mul n sz))) .no) (fillParts ps t (Nat.mul n sz) (lrep z n)) = .ok k x from e) nofun
    obtain ⟨_, e2⟩ := bc_inv e1 nofun; cases e2; exact hm
  | toBytes a => obtain ⟨s, _, e1⟩ := asStr_inv (show ((evX a t).asStr OL.no fun s => .ok (.sl (len s) (len s) 1 false) (mkCells (u8s s) (len s))) = .ok k x from e) nofun; cases e1; exact hm
  | makeMap => cases e; intro _ _ _ hh; cases hh
  | makeSlice sz by_ z l c =>
    obtain ⟨_, _, _, e1⟩ := asInt_inv (show ((evX l t).asInt OL.no fun _ l => (evX c t).asInt .no fun _ c => natOf l .no fun l => natOf c .no fun c =>
      bc (lall isCell z) (bc (Nat.ble l c) (bc (Nat.ble (Nat.mul c by_) 70368744177664) (bc (Nat.ble c 70368744177664)
        (.ok (.sl l c sz true) (mkCells (lrep z c) (Nat.mul c sz))) .no) .no) .no) .no) = .ok k x from e) nofun
    obtain ⟨_, _, _, e2⟩ := asInt_inv e1 nofun
    obtain ⟨_, _, e3⟩ := natOf_inv e2 nofun
    obtain ⟨_, _, e4⟩ := natOf_inv e3 nofun
    obtain ⟨_, e5⟩ := bc_inv e4 nofun
    obtain ⟨_, e6⟩ := bc_inv e5 nofun
    obtain ⟨_, e7⟩ := bc_inv e6 nofun
    obtain ⟨_, e8⟩ := bc_inv e7 nofun
    cases e8; exact hm
theorem op_ok {call : CallT} (good : Good P call) {μ0 : Mp} {h0 : Hp} {w0 : World} {n : Nat} {o : Oper} (hd : ∀ i, o.dst = some i → i < n) {t1 : T} {h1 : Hp} (e : runA (compOp P o.op) o.dst call t h = .ok t1 h1)
    (st : At μ0 h0 w0 n t h a w) {next : Act → World → Prop} {Q : Exit → Act → World → Prop} (hn : ∀ a' w', At μ0 h0 w0 n t1 h1 a' w' → next a' w') : o.wp P a w next Q := by
  obtain ⟨⟨μ, r, hs, g⟩, hdef, hsz⟩ := st
  have hd' : ∀ i, o.dst = some i → i < a.tmps.size := fun i hi => by rw [hsz]; exact hd i hi
  unfold Oper.wp
  cases hc : compOp P o.op with
  | q q =>
    rw [hc] at e
    obtain ⟨v, hv, e1⟩ := ov_then (show (evQ q t h).then (fun v => .ok (putT o.dst v t) h) = .ok t1 h1 from e)
    cases e1
    obtain ⟨x, hx, rx⟩ := quiet_ok hs hc (r.opnds _) hv
    rw [hx]
    exact hn _ _ ⟨⟨μ, r.put rx hd', hs, g⟩, by rw [put_defers]; exact hdef, by rw [put_size]; exact hsz⟩
  | l l =>
    rw [hc] at e
    obtain ⟨m, x, hm, e1⟩ := ol_then (show (evL l t).then (fun k x => .ok (putT o.dst (mkAt k h.next) t) (hpush h x)) = .ok t1 h1 from e)
    cases e1
    obtain ⟨y, w', ob, k, hrun, hp, hmk⟩ := makes_ok hc (r.opnds _) hm
    have hnone : μ.at_ h.next = none := hs.lt _ (Nat.le_refl _)
    have hle := ext_le (n := k) hs hnone
    obtain ⟨ry, hblk⟩ := hmk (μ.ext h.next w.heap.size 0 k) h.next hle (if_pos rfl) (if_pos rfl) (if_pos rfl)
    obtain ⟨hs', g'⟩ := hs.push hp (evL_solo hm) hblk
    rw [hrun]
    exact hn _ _ ⟨⟨_, (r.mono hle).put ry hd', hs', g.trans g'⟩, by rw [put_defers]; exact hdef, by rw [put_size]; exact hsz⟩
  | e q =>
    rw [hc] at e
    obtain ⟨v, h2, hv, e1⟩ := rv_then (show (evE q call t h).then (fun v h => .ok (putT o.dst v t) h) = .ok t1 h1 from e)
    cases e1
    by_cases hcall : ∃ f xs, q = .call f xs
    · obtain ⟨f, xs, rfl⟩ := hcall
      obtain ⟨c, g0, ho, hcal, hf, hxs⟩ := call_inv hc
      have hops := r.opnds o.op.operands.toList
      obtain ⟨fid, as, bs, hfv, e2⟩ := asFunc_inv (show ((evX f t).asFunc RV.no fun g a b => call g (app a (app (evXs xs t) b)) h) = .ok v _ from hv) nofun
      have rf := r.opnds [g0] g0 (by simp) f hf
      rw [hfv, VR_func] at rf
      obtain ⟨as', bs', hg0, ra, rb⟩ := rf
      have rxs := compXs_map hxs (r.opnds c.args.toList) (fun x hx => hx)
      rw [app_eq, app_eq] at e2
      have rall : VRs μ (as ++ (evXs xs t ++ bs)) ((as' ++ c.args.map a.eval) ++ bs').toList := by
        rw [Array.toList_append, Array.toList_append, List.append_assoc]
        exact ra.append (rxs.append rb)
      obtain ⟨hent, hcalls⟩ := good fid _ h v _ μ w _ e2 hs rall
      have hrun : (execOp a.eval o).run P w = .ok (.enter fid ((as' ++ c.args.map a.eval) ++ bs')) w := by
        unfold execOp
        rw [ho]
        simp only [resolve, hcal, hg0, Deferred.ofValue, Sem.run_bind, Sem.run_pure, Result.andThen_ok, invoke]
        exact run_callFunc hent _
      rw [hrun, Oper.upon_enter]
      refine hcalls.mono fun e w' hR => ?_
      obtain ⟨μ', y, rfl, ry, hs', g'⟩ := hR
      exact hn _ _ ⟨⟨μ', (r.mono (g'.le hs)).put ry hd', hs', g.trans g'⟩, by rw [put_defers]; exact hdef, by rw [put_size]; exact hsz⟩
    · obtain ⟨μ', w', nx, hrun, g', hs', hval⟩ := effect_ok hs hc (fun f xs hh => hcall ⟨f, xs, hh⟩) (r.opnds _) hv
      rw [hrun]
      rcases hval with ⟨y, rfl, ry⟩ | ⟨rfl, rfl⟩
      · exact hn _ _ ⟨⟨μ', (r.mono (g'.le hs)).put ry hd', hs', g.trans g'⟩, by rw [put_defers]; exact hdef, by rw [put_size]; exact hsz⟩
      · exact hn _ _ ⟨⟨μ', (r.mono (g'.le hs)).put VR_undef hd', hs', g.trans g'⟩, by rw [put_defers]; exact hdef, by rw [put_size]; exact hsz⟩
theorem wanted_at {ops : Array Oper} {o : Oper} {g : Option (Nat × Bool)} (hg : compGuard ops o.guard = some g)
    (r : ∀ j want d, o.guard = some (j, want) → (ops[j]?).bind (·.dst) = some d → VR μ (evX (.tmp d) t) (a.tmps.getD d Go.undef)) : wanted g t = Region.wanted o (yielded ops a.tmps) := by
  unfold compGuard at hg
  unfold Region.wanted
  cases ho : o.guard with
  | none => rw [ho] at hg; cases hg; rfl
  | some p =>
    obtain ⟨j, want⟩ := p
    rw [ho] at hg
    simp only [] at hg
    cases hj : (ops[j]?).bind (·.dst) with
    | none => rw [hj] at hg; cases hg
    | some d =>
      rw [hj] at hg; cases hg
      show ocase false (fun v => v.asBool false fun c => bc want c (notB c)) (tget (pathOf d) t) = (yielded ops a.tmps j == some want)
      have hy : yielded ops a.tmps j = match a.tmps[d]? with | some (.bool b) => some b | _ => none := by
        unfold yielded; rw [hj]; rfl
      have hl : ocase false (fun v => v.asBool false fun c => bc want c (notB c)) (tget (pathOf d) t) = (evX (.tmp d) t).asBool false fun c => bc want c (notB c) := by
        rw [evX_tmp]
        cases tget (pathOf d) t <;> rfl
      rw [hl, hy]
      have rd := r j want d ho hj
      generalize evX (.tmp d) t = v at rd
      rw [Array.getD_eq_getD_getElem?] at rd
      by_cases hv : ∃ c, v = .bool c
      · obtain ⟨c, rfl⟩ := hv
        rw [VR_bool] at rd
        cases ht : a.tmps[d]? with
        | none => rw [ht] at rd; cases rd
        | some x =>
          rw [ht] at rd
          have rd : x = .bool c := rd
          subst rd
          show bc want c (notB c) = (some c == some want)
          cases want <;> cases c <;> rfl
      · have h1 : v.asBool false (fun c => bc want c (notB c)) = false := by
          cases v <;> first | rfl | exact absurd ⟨_, rfl⟩ hv
        rw [h1]
        cases ht : a.tmps[d]? with
        | none => rfl
        | some x =>
          rw [ht] at rd
          have rd : VR μ v x := rd
          cases x <;> first | rfl | skip
          rename_i b
          exfalso
          cases v <;> simp at rd
          · exact hv ⟨_, rfl⟩
theorem wanted_ok {ops : Array Oper} {o : Oper} {g : Option (Nat × Bool)} (hg : compGuard ops o.guard = some g) (r : TR μ t a.tmps) : wanted g t = Region.wanted o (yielded ops a.tmps) :=
  wanted_at hg fun _ _ d _ _ => r d
theorem evO_eq (call : CallT) (o : AO) (t : T) (h : Hp) : evO call o t h = if wanted o.guard t = true then runA o.op o.dst call t h else .ok (putT o.dst undef t) h := by
  unfold evO
  cases hg : o.guard with
  | none => rfl
  | some g => show bc (wanted (some g) t) _ _ = _; rw [bc_eq]
theorem compO_inv {n : Nat} {ops : Array Oper} {o : Oper} : (∃ g, compO P n ops o = ⟨o.dst, compOp P o.op, g⟩ ∧ compGuard ops o.guard = some g ∧ ∀ i, o.dst = some i → i < n) ∨ compO P n ops o = ⟨none, no, none⟩ := by
  unfold compO
  split
  · rename_i g hg hd
    refine .inl ⟨g, rfl, hg, fun i hi => ?_⟩
    rw [hi] at hd
    exact Nat.le_of_ble_eq_true hd
  · exact .inr rfl
theorem region_ok {call : CallT} (good : Good P call) {μ0 : Mp} {h0 : Hp} {w0 : World} {n : Nat} {ops : Array Oper} {Q : Exit → Act → World → Prop} {t1 : T} {h1 : Hp} (hQ : ∀ a' w', At μ0 h0 w0 n t1 h1 a' w' → Q .normal a' w') :
    ∀ (l : List Nat) (os : List Oper) (t : T) (h : Hp) (a : Act) (w : World), l.map (ops[·]?) = os.map some → evOs call (os.map (compO P n ops)) t h = .ok t1 h1 → At μ0 h0 w0 n t h a w → wpOps P ops Q l a w
  | [], os, t, h, a, w, hl, e, st => by
    have : os = [] := by cases os with | nil => rfl | cons o os => cases hl
    subst this
    cases e
    exact hQ a w st
  | i :: l, [], t, h, a, w, hl, e, st => by cases hl
  | i :: l, o :: os, t, h, a, w, hl, e, st => by
    simp only [List.map_cons, List.cons.injEq] at hl
    obtain ⟨hi, hl⟩ := hl
    obtain ⟨t2, h2, e1, e2⟩ := rt_then (show (evO call (compO P n ops o) t h).then (evOs call (os.map (compO P n ops))) = .ok t1 h1 from e)
    unfold wpOps
    rw [hi]
    simp only []
    rw [evO_eq] at e1
    rcases compO_inv (P := P) (n := n) (ops := ops) (o := o) with ⟨g, ho, hg, hd⟩ | ho
    · rw [ho] at e1
      simp only [] at e1
      obtain ⟨μ, r, hs, gs⟩ := st.ex
      rw [wanted_ok hg r] at e1
      split at e1
      · rename_i hw
        rw [if_pos hw]
        exact .inl (op_ok good hd e1 st fun a' w' st' => region_ok good hQ l os t2 h2 a' w' hl e2 st')
      · rename_i hw
        rw [if_neg hw]
        cases e1
        refine region_ok good hQ l os _ _ _ _ hl e2 ⟨⟨μ, r.put VR_undef fun i hi => by rw [st.size]; exact hd i hi, hs, gs⟩, by rw [put_defers]; exact st.defers, by rw [put_size]; exact st.size⟩
    · rw [ho] at e1
      cases e1
def Post (μ0 : Mp) (h0 : Hp) (w0 : World) (n : Nat) (Q : Exit → Act → World → Prop) : RS → Prop
  | .no => False
  | .nor t h => ∀ a w, At μ0 h0 w0 n t h a w → Q .normal a w
  | .exit i t h => ∀ a w, At μ0 h0 w0 n t h a w → Q (.exit i) a w
  | .ret t h => ∀ a w, At μ0 h0 w0 n t h a w → Q .ret a w
theorem wp_loop_fuel {c : Code} {Q : Exit → Act → World → Prop} (J : Nat → Act → World → Prop) (zero : ∀ a w, ¬ J 0 a w)
    (round : ∀ n a w, J (n + 1) a w → c.wp P (Exit.then (J n) Q) a w) {n : Nat} (h0 : J n a w) : (Code.loop c).wp P Q a w := by
  intro b k cs
  have key : ∀ n a w, J n a w → ∃ e a' w', Q e a' w' ∧ Arrives P (lone (b.at a (.code c :: .inLoop c :: k)) cs w) b k cs e a' w' := by
    intro n
    induction n with
    | zero => exact fun a w hJ => absurd hJ (zero a w)
    | succ n ih =>
      intro a w hJ
      obtain ⟨e, a1, w1, hq, harr⟩ := round n a w hJ b (.inLoop c :: k) cs
      cases e with
      | normal =>
        obtain ⟨e2, a2, w2, hq2, harr2⟩ := ih a1 w1 hq
        exact ⟨e2, a2, w2, hq2, .of_steps (Steps.trans harr (.one step_inLoop)) harr2⟩
      | exit id => exact ⟨_, a1, w1, hq, .pass (x := .inLoop c) rfl (fun _ _ => .inl (by simp)) harr⟩
      | goto l => exact ⟨_, a1, w1, hq, .pass (x := .inLoop c) rfl (fun _ _ => .inl (by simp)) harr⟩
      | ret => exact ⟨_, a1, w1, hq, .pass (x := .inLoop c) rfl (fun _ _ => .inl (by simp)) harr⟩
      | panic ch => exact ⟨_, a1, w1, hq, .pass (x := .inLoop c) rfl (fun _ _ => .inl (by simp)) harr⟩
      | outgrown => exact ⟨_, a1, w1, hq, .pass (x := .inLoop c) rfl (fun _ _ => .inl (by simp)) harr⟩
  obtain ⟨e, a', w', hq, harr⟩ := key n a w h0
  exact ⟨e, a', w', hq, .of_steps (.one step_loop) harr⟩
def DrawOk (P : Program) (D : Nat → Array Oper → AC) : Prop := ∀ (call : CallT) (N n id : Nat) (ops : Array Oper) (μ0 : Mp) (h0 : Hp) (w0 : World) (Q : Exit → Act → World → Prop) (t : T) (h : Hp) (a : Act) (w : World),
  Good P call → Post μ0 h0 w0 n Q (evC call N (D n ops) t h) → At μ0 h0 w0 n t h a w → (Code.region id ops true).wp P Q a w
theorem noDraw_ok : DrawOk P noDraw := fun call N n id ops μ0 h0 w0 Q t h a w good hp st => hp.elim
theorem code_ok {D : Nat → Array Oper → AC} (hD : DrawOk P D) {call : CallT} (good : Good P call) {N n : Nat} {μ0 : Mp} {h0 : Hp} {w0 : World} :
    ∀ (c : Code) (Q : Exit → Act → World → Prop) (t : T) (h : Hp) (a : Act) (w : World), Post μ0 h0 w0 n Q (evC call N (compC P D n c) t h) → At μ0 h0 w0 n t h a w → c.wp P Q a w
  | .skip, Q, t, h, a, w, hp, st => wp_skip (hp a w st)
  | .label _, Q, t, h, a, w, hp, st => wp_label (hp a w st)
  | .region id ops draw, Q, t, h, a, w, hp, st => by
    cases draw with
    | true => exact hD call N n id ops μ0 h0 w0 Q t h a w good hp st
    | false =>
      have hp : Post μ0 h0 w0 n Q ((evOs call (ops.toList.map (compO P n ops)) t h).done) := hp
      cases e : evOs call (ops.toList.map (compO P n ops)) t h with
      | no => rw [e] at hp; exact hp.elim
      | ok t1 h1 =>
        rw [e] at hp
        refine wp_region (region_ok good hp (List.range ops.size) ops.toList t h a w ?_ e st)
        apply List.ext_getElem
        · simp
        · intro i h1 h2
          simp at h1
          simp [h1]
  | .seq x y, Q, t, h, a, w, hp, st => by
    have hp : Post μ0 h0 w0 n Q ((evC call N (compC P D n x) t h).then (evC call N (compC P D n y))) := hp
    refine wp_seq (code_ok (N := N) hD good x _ t h a w ?_ st)
    cases e : evC call N (compC P D n x) t h with
    | no => rw [e] at hp; exact hp
    | nor t1 h1 => rw [e] at hp; exact fun a' w' st' => code_ok (N := N) hD good y Q t1 h1 a' w' hp st'
    | exit i t1 h1 => rw [e] at hp; exact hp
    | ret t1 h1 => rw [e] at hp; exact hp
  | .cond c x y, Q, t, h, a, w, hp, st => by
    have hp : Post μ0 h0 w0 n Q (evC call N (match compX c with | some z => AC.cond z (compC P D n x) (compC P D n y) | none => .fail "cond") t h) := hp
    cases hc : compX c with
    | none => rw [hc] at hp; exact hp.elim
    | some z =>
      rw [hc] at hp
      have hp : Post μ0 h0 w0 n Q ((evX z t).asBool .no fun b => bc b (evC call N (compC P D n x) t h) (evC call N (compC P D n y) t h)) := hp
      obtain ⟨μ, r, hs, g⟩ := st.ex
      have rc := r.opnds [c] c (by simp) z hc
      by_cases hb : ∃ b, evX z t = .bool b
      · obtain ⟨b, hb⟩ := hb
        rw [hb, VR_bool] at rc
        rw [hb] at hp
        have hp : Post μ0 h0 w0 n Q (bc b (evC call N (compC P D n x) t h) (evC call N (compC P D n y) t h)) := hp
        refine wp_cond_split rc (fun hh => ?_) (fun hh => ?_)
        · subst hh; exact code_ok (N := N) hD good x Q t h a w hp st
        · subst hh; exact code_ok (N := N) hD good y Q t h a w hp st
      · exfalso
        generalize evX z t = v at *
        cases v <;> first | exact hp | exact hb ⟨_, rfl⟩
  | .block i x, Q, t, h, a, w, hp, st => by
    have hp : Post μ0 h0 w0 n Q ((evC call N (compC P D n x) t h).block i) := hp
    refine wp_block (code_ok (N := N) hD good x _ t h a w ?_ st)
    cases e : evC call N (compC P D n x) t h with
    | no => rw [e] at hp; exact hp
    | nor t1 h1 => rw [e] at hp; exact hp
    | exit j t1 h1 =>
      rw [e] at hp
      have hp : Post μ0 h0 w0 n Q (bc (Nat.beq j i) (.nor t1 h1) (.exit j t1 h1)) := hp
      intro a' w' st'
      show if j = i then Q .normal a' w' else Q (.exit j) a' w'
      rw [bc_beq] at hp
      split
      · rename_i hji; rw [if_pos hji] at hp; exact hp a' w' st'
      · rename_i hji; rw [if_neg hji] at hp; exact hp a' w' st'
    | ret t1 h1 => rw [e] at hp; exact hp
  | .loop x, Q, t, h, a, w, hp, st => by
    let R : Nat → T → Hp → RS := fun k => rounds (fun _ _ => .no) (fun again t h => (evC call N (compC P D n x) t h).then again) k
    refine wp_loop_fuel (fun k a w => ∃ t h, Post μ0 h0 w0 n Q (R k t h) ∧ At μ0 h0 w0 n t h a w) ?_ ?_ (n := N) ⟨t, h, hp, st⟩
    · rintro a w ⟨t, h, hp, _⟩; exact hp
    · rintro k a w ⟨t, h, hp, st⟩
      have hp : Post μ0 h0 w0 n Q ((evC call N (compC P D n x) t h).then (R k)) := hp
      refine code_ok (N := N) hD good x _ t h a w ?_ st
      cases e : evC call N (compC P D n x) t h with
      | no => rw [e] at hp; exact hp
      | nor t1 h1 => rw [e] at hp; exact fun a' w' st' => ⟨t1, h1, hp, st'⟩
      | exit j t1 h1 => rw [e] at hp; exact hp
      | ret t1 h1 => rw [e] at hp; exact hp
  | .exit i, Q, t, h, a, w, hp, st => wp_exit (hp a w st)
  | .ret, Q, t, h, a, w, hp, st => wp_ret (hp a w st)
  | .scope _, Q, t, h, a, w, hp, st => hp.elim
  | .goto _, Q, t, h, a, w, hp, st => hp.elim
  | .rangeFunc _ _ _ _, Q, t, h, a, w, hp, st => hp.elim
  | .refuse _, Q, t, h, a, w, hp, st => hp.elim
def resOf (tmps : Array Value) : ResultVar → Sem Value
  | .tmp t => pure (tmps.getD t Go.undef)
  | .cell c t => do loadVar t (← asAddr (tmps.getD c Go.undef))
theorem results_ok {rs : List ResultVar} (hs : Sim μ h w) (r : TR μ t a.tmps) : ∀ {l : List ARes} {β : Type} {z q : β} {k : List AV → β}, compRs P rs = some l → evRs l t h z k = q → z ≠ q →
    ∃ vs xs, k vs = q ∧ VRs μ vs xs ∧ (rs.mapM (resOf a.tmps)).run P w = .ok xs w := by
  induction rs with
  | nil => intro l β z q k hc e hz; cases hc; exact ⟨[], [], e, by rw [VRs_nil], rfl⟩
  | cons x rs ih =>
    intro l β z q k hc e hz
    unfold compRs at hc
    cases h1 : compR P x with
    | none => rw [h1] at hc; cases hc
    | some b =>
      cases h2 : compRs P rs with
      | none => rw [h1, h2] at hc; cases hc
      | some bs =>
        rw [h1, h2] at hc
        cases hc
        cases x with
        | tmp i =>
          cases h1
          have e : evRs bs t h z (fun vs => k (evX (.tmp i) t :: vs)) = q := e
          obtain ⟨vs, xs, h3, h4, h5⟩ := ih h2 e hz
          refine ⟨_, _ :: xs, h3, by rw [VRs_cons]; exact ⟨_, _, rfl, r i, h4⟩, ?_⟩
          rw [List.mapM_cons]
          simp only [resOf, Sem.run_bind, Sem.run_pure, Result.andThen_ok, h5]
        | cell c ty =>
          have h1 : (match aggT P ty, szOf P ty with
            | some true, some n => some (ARes.cellA c n)
            | some false, some _ => some (.cellS c)
            | _, _ => none) = some b := h1
          split at h1
          · rename_i n ha hn
            cases h1
            have e : ((evX (.tmp c) t).asPtr z fun b o => rdN h b o n z fun l => evRs bs t h z fun vs => k (.agg l :: vs)) = q := e
            obtain ⟨b, o, hp, e1⟩ := asPtr_inv e hz
            have rc := r c
            rw [hp, VR_ptr] at rc
            obtain ⟨c0, s0, hb, hx⟩ := rc
            obtain ⟨l, ys, e2, r2, hlen, _, hy⟩ := rdN_ok hs hb e1 hz
            obtain ⟨vs, xs, h3, h4, h5⟩ := ih h2 e2 hz
            refine ⟨_, .agg ys.toArray :: xs, h3, by rw [VRs_cons]; exact ⟨_, _, rfl, by rw [VR_agg]; exact ⟨_, rfl, r2⟩, h4⟩, ?_⟩
            rw [List.mapM_cons]
            simp only [resOf, hx, asAddr, Sem.run_bind, Sem.run_pure, Result.andThen_ok, loadVar, run_isAgg ha, run_sizeOf hn, if_true, run_loadCells_of hlen hy, h5]
          · rename_i n ha hn
            cases h1
            have e : ((evX (.tmp c) t).asPtr z fun b o => hcells h b z fun cs _ _ => ocase z (fun v => evRs bs t h z fun vs => k (v :: vs)) (nth? cs o)) = q := e
            obtain ⟨b, o, hp, e1⟩ := asPtr_inv e hz
            have rc := r c
            rw [hp, VR_ptr] at rc
            obtain ⟨c0, s0, hb, hx⟩ := rc
            obtain ⟨cs, k0, ow, hg, e2⟩ := hcells_inv e1 hz
            obtain ⟨v, hv, e3⟩ := ocase_inv e2 hz
            rw [nth_eq] at hv
            obtain ⟨y, hy, ry⟩ := hs.cell hb hg hv
            obtain ⟨vs, xs, h3, h4, h5⟩ := ih h2 e3 hz
            refine ⟨_, y :: xs, h3, by rw [VRs_cons]; exact ⟨_, _, rfl, ry, h4⟩, ?_⟩
            rw [List.mapM_cons]
            simp only [resOf, hx, asAddr, Sem.run_bind, Sem.run_pure, Result.andThen_ok, loadVar, run_isAgg ha, Bool.false_eq_true, if_false, run_load_cell hy, h5]
          · cases h1
noncomputable def frameGo (l : List AV) (k : Nat) (t : T) : T := lrec (fun (_ : Nat) (t : T) => t) (fun v _ ih i t => ih (Nat.succ i) (tset (pathOf i) v t)) l k t
theorem frameGo_ok : ∀ (l : List AV) (ys : List Value) (k : Nat) (t : T), VRs μ l ys →
    (∀ i, i < k ∨ k + ys.length ≤ i → evX (.tmp i) (frameGo l k t) = evX (.tmp i) t) ∧ ∀ i, i < ys.length → VR μ (evX (.tmp (k + i)) (frameGo l k t)) (ys.getD i Go.undef)
  | [], ys, k, t, r => by
    rw [VRs_nil] at r; subst r
    exact ⟨fun _ _ => rfl, fun i hi => absurd hi (by simp)⟩
  | v :: l, ys, k, t, r => by
    rw [VRs_cons] at r
    obtain ⟨y, ys, rfl, ry, rl⟩ := r
    obtain ⟨h1, h2⟩ := frameGo_ok l ys (k + 1) (tset (pathOf k) v t) rl
    have hf : frameGo (v :: l) k t = frameGo l (k + 1) (tset (pathOf k) v t) := rfl
    have hset : ∀ j, j ≠ k → evX (.tmp j) (tset (pathOf k) v t) = evX (.tmp j) t := fun j hj => by
      rw [evX_tmp, evX_tmp, tget_tset_ne _ _ _ _ (fun e => hj (pathOf_inj e))]
    have hself : evX (.tmp k) (tset (pathOf k) v t) = v := by rw [evX_tmp, tget_tset]; rfl
    refine ⟨fun i hi => ?_, fun i hi => ?_⟩
    · simp at hi
      rw [hf, h1 i (by omega), hset i (by omega)]
    · rw [hf]
      cases i with
      | zero => rw [h1 (k + 0) (by omega)]; rw [Nat.add_zero, hself]; simpa using ry
      | succ i =>
        have := h2 i (by simp at hi; omega)
        rw [show k + (i + 1) = k + 1 + i by omega]
        simpa using this
theorem frame0_ok {args : List AV} {xs : Array Value} (r : VRs μ args xs.toList) (k : Nat) : TR μ (frame0 args) (xs ++ Array.replicate k Go.undef) := fun i => by
  obtain ⟨h1, h2⟩ := frameGo_ok args xs.toList 0 .lf r
  have hf : frame0 args = frameGo args 0 .lf := rfl
  rw [hf]
  by_cases hi : i < xs.size
  · have := h2 i (by simpa using hi)
    rw [Nat.zero_add] at this
    have e1 : (xs ++ Array.replicate k Go.undef).getD i Go.undef = xs.toList.getD i Go.undef := by
      rw [Array.getD_eq_getD_getElem?, Array.getElem?_append_left hi]; simp
    rw [e1]; exact this
  · rw [h1 i (.inr (by simp; omega)), evX_tmp, tget_lf]
    have e1 : (xs ++ Array.replicate k Go.undef).getD i Go.undef = Go.undef := by
      rw [Array.getD_eq_getD_getElem?, Array.getElem?_append_right (by omega), Array.getElem?_replicate]
      split <;> rfl
    rw [e1]; exact VR_undef
theorem retOf_ok {vs : List AV} {xs : List Value} (r : VRs μ vs xs) : VR μ (retOf vs) (if h : xs.toArray.size = 1 then xs.toArray[0] else .tuple xs.toArray) := by
  have hl := r.length
  cases vs with
  | nil =>
    rw [VRs_nil] at r; subst r
    show VR μ (.tuple []) (.tuple #[])
    exact VR_undef
  | cons v vs =>
    cases vs with
    | nil =>
      obtain ⟨x, rfl, rx⟩ := r.one
      exact rx
    | cons u us =>
      have : ¬ xs.toArray.size = 1 := by simp at hl ⊢; omega
      rw [dif_neg this]
      show VR μ (.tuple (v :: u :: us)) _
      rw [VR_tuple]; exact ⟨_, rfl, r⟩
theorem evF1_ok {D : Nat → Array Oper → AC} (hD : DrawOk P D) {call : CallT} (good : Good P call) (N : Nat) : Good P (evF1 (progS P D) N call) := fun f args h v h' μ w cargs e hs r => by
  obtain ⟨af, hf, e1⟩ := ocase_inv (show ocase RV.no (fun fn => bc (Nat.ble (len args) fn.ntmps) (finish fn.results (evC call N fn.body (frame0 args) h)) .no) (progS P D f) = .ok v h' from e) nofun
  obtain ⟨hle, e2⟩ := ble_inv e1 nofun
  unfold progS at hf
  cases hfn : P.funcs[f]? with
  | none => rw [hfn] at hf; cases hf
  | some fn =>
    rw [hfn] at hf
    have hf : compF P D fn = some af := hf
    unfold compF at hf
    split at hf
    · cases hf
    rename_i hname
    split at hf
    · rename_i c rs hb hrs
      cases hf
      refine ⟨⟨fn, c, hfn, hname, hb⟩, calls_of_wp hfn hb ?_⟩
      have hlen : cargs.size = args.length := by have := r.length; simpa using this
      have hle : args.length ≤ fn.ntmps := by rw [len_eq] at hle; exact hle
      have st : At μ h w fn.ntmps (frame0 args) h { tmps := cargs ++ Array.replicate (fn.ntmps - cargs.size) Go.undef, defers := [] } w :=
        ⟨⟨μ, frame0_ok r _, hs, .refl hs⟩, rfl, by simp; omega⟩
      have fin : ∀ (t1 : T) (h1 : Hp), results rs t1 h1 = .ok v h' → ∀ a1 w1, At μ h w fn.ntmps t1 h1 a1 w1 → a1.defers = [] ∧ ∃ y, (Go.results fn a1.tmps).run P w1 = .ok y w1 ∧ CallR μ h w v h' (.returned y) w1 := fun t1 h1 er a1 w1 st1 => by
        obtain ⟨μ1, r1, hs1, g1⟩ := st1.ex
        obtain ⟨vs, xs, h3, h4, h5⟩ := results_ok (P := P) hs1 r1 hrs (show evRs rs t1 h1 RV.no (fun vs => .ok (retOf vs) h1) = .ok v h' from er) nofun
        cases h3
        refine ⟨st1.defers, _, ?_, μ1, _, rfl, retOf_ok h4, hs1, g1⟩
        have hm : (fn.results.mapM (resOf a1.tmps)).run P w1 = .ok xs.toArray w1 := run_mapM_array _ _ _ h5
        have hdef : Go.results fn a1.tmps = (do let vs ← fn.results.mapM (resOf a1.tmps); pure (if h : vs.size = 1 then vs[0] else .tuple vs)) := rfl
        rw [hdef]
        simp only [Sem.run_bind, hm, Result.andThen_ok, Sem.run_pure]
      refine code_ok hD good c _ _ h _ w (N := N) (n := fn.ntmps) (μ0 := μ) (h0 := h) (w0 := w) ?_ st
      show Post μ h w fn.ntmps _ (evC call N (compC P D fn.ntmps c) (frame0 args) h)
      have e2 : finish rs (evC call N (compC P D fn.ntmps c) (frame0 args) h) = .ok v h' := e2
      cases e3 : evC call N (compC P D fn.ntmps c) (frame0 args) h with
      | no => rw [e3] at e2; cases e2
      | nor t1 h1 => rw [e3] at e2; exact fun a1 w1 st1 => fin t1 h1 e2 a1 w1 st1
      | exit i t1 h1 => rw [e3] at e2; cases e2
      | ret t1 h1 => rw [e3] at e2; exact fun a1 w1 st1 => fin t1 h1 e2 a1 w1 st1
    · cases hf
theorem evF_ok {D : Nat → Array Oper → AC} (hD : DrawOk P D) {M : Nat → Option (List AV → Hp → RV)} (hM : Good P fun f args h => ocase .no (fun m => m args h) (M f)) (N : Nat) : ∀ d, Good P (evF M (progS P D) N d)
  | 0 => fun f args h v h' μ w cargs e hs r => by cases e
  | d + 1 => fun f args h v h' μ w cargs e hs r => by
    have e : ocase (evF1 (progS P D) N (evF M (progS P D) N d) f args h) (fun m => m args h) (M f) = .ok v h' := e
    cases hm : M f with
    | none =>
      rw [hm] at e
      exact evF1_ok hD (evF_ok hD hM N d) N f args h v h' μ w cargs e hs r
    | some m =>
      rw [hm] at e
      exact hM f args h v h' μ w cargs (show ocase RV.no (fun m => m args h) (M f) = .ok v h' by rw [hm]; exact e) hs r
end
end Eng
