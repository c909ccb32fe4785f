/- The engine's soundness, part 14: appends. -/
import Derived.Test.YtejiebbbodealaaEngS13
set_option linter.unusedVariables false
set_option linter.unusedSimpArgs false
namespace Eng
open Go Go.RowKit
section
variable {P : Program} {μ μ' : Mp} {h h' : Hp} {w w' : World} {t : T} {ρ : Operand → Value} {ty : TypeId}
theorem growBy_le (n : Nat) : ∀ (r c : Nat), Builtin.growBy n r c ≤ max c (n + (n + 768) / 4)
  | 0, c => by simp [Builtin.growBy]; omega
  | r + 1, c => by
    unfold Builtin.growBy
    split
    · omega
    · have := growBy_le n r (c + (c + 768) / 4)
      omega
theorem nextcap_le {n c : Nat} (h : c < n) : Builtin.nextslicecap n c ≤ 3 * n := by
  unfold Builtin.nextslicecap
  split
  · omega
  · split
    · omega
    · have := growBy_le n 4 c
      omega
inductive Takes (P : Program) (w : World) (el xt : TypeId) (sz m : Nat) (x : Value) (xs : List Value) : Prop where
  | cells (d : TypeDesc) (hx : P.underlying xt = some d) (hd : ∀ k, d ≠ .int k) (hlen : ∀ w, (Builtin.lenOf x).run P w = .ok m w)
      (hf : ∀ w1 : World, w1.heap = w.heap → (Builtin.firstCells sz m x).run P w1 = .ok xs.toArray w1)
  | zeros (k k' : IntKind) (by_ : Nat) (z : Value) (hx : P.underlying xt = some (.int k)) (hv : x = .int k' m) (hm : m ≤ 70368744177664) (hby : bytesOf P el = some by_) (hmb : m * by_ ≤ 70368744177664)
      (hz : ∀ w, (zeroValue el).run P w = .ok z w) (h0 : m = 0 → xs = []) (hxs : m ≠ 0 → Builtin.zeroCells z.cells m = xs.toArray)
theorem bytesOf_info {el : TypeId} {by_ : Nat} (hby : bytesOf P el = some by_) (w : World) : ∃ i, P.info? el = some i ∧ i.bytes = by_ ∧ (typeInfo el).run P w = .ok i w := by
  unfold bytesOf at hby
  cases hi : P.info? el with
  | none => rw [hi] at hby; cases hby
  | some i => rw [hi] at hby; exact ⟨i, rfl, Option.some.inj hby, by simp [typeInfo, hi]⟩
theorem wrap_nat {m : Nat} (hm : m ≤ 70368744177664) : IntKind.i64.wrap (m : Int) = m := by
  rw [← wrapA_eq]
  show bc (Nat.blt m 9223372036854775808) (Int.ofNat m) _ = _
  rw [bc_blt, if_pos (by omega)]; rfl
theorem run_append_fits {st xt ret el : TypeId} {sz : Nat} {base : Option Addr} {sLen sCap m : Nat} {x : Value} {xs : List Value} (hsz : sz ≠ 0)
    (hu : P.underlying st = some (.slice el)) (hn : szOf P el = some sz) (ht : Takes P w el xt sz m x xs) (hfit : sLen + m ≤ sCap)
    (hst : match base with | some a => (storeCells (a.add (sLen * sz)) xs).run P w = .ok () w' | none => w' = w) :
    (Builtin.append_ #[st, xt] ret #[.slice base sLen sCap, x]).run P w = .ok (.slice base (sLen + m) sCap) w' := by
  cases ht with
  | cells d hx hd hlen hf =>
    have hdm : (d matches .int _) = false := by cases d <;> first | rfl | exact absurd rfl (hd _)
    simp only [Builtin.append_, Sem.run_bind, run_underlying hu, run_underlying hx, run_sizeOf hn, Result.andThen_ok, List.getElem?_toArray, List.getElem?_cons_zero, List.getElem?_cons_succ, Sem.run_pure, hdm, hlen,
      Bool.false_eq_true, if_false, Sem.run_ite, if_pos hfit, Bool.not_false, if_true, hf w rfl]
    cases base with
    | none => subst hst; simp
    | some a => simp only [Sem.run_bind, hst, Result.andThen_ok, Sem.run_pure]
  | zeros k k' by_ z hx hv hm hby hmb hz h0 hxs =>
    subst hv
    obtain ⟨i, hi, hbi, hti⟩ := bytesOf_info hby w
    have hneg : ¬ ((m : Int) < 0) := by omega
    have hbig : ¬ ((m : Int) * (i.bytes : Int) > 2 ^ 48) := by
      rw [hbi]
      have : ((m : Int) * (by_ : Int)) = ((m * by_ : Nat) : Int) := by simp
      rw [this]; omega
    have happ : (if m * sz = 0 then (Result.ok #[] w : Result (Array Value)) else ((zeroValue el).run P w).andThen fun a w' => .ok (Builtin.zeroCells a.cells m) w') = .ok xs.toArray w := by
      by_cases hm0 : m = 0
      · subst hm0; rw [if_pos (Nat.zero_mul sz), h0 rfl]
      · rw [if_neg (Nat.mul_ne_zero hm0 hsz), hz, Result.andThen_ok, hxs hm0]
    simp only [Builtin.append_, Sem.run_bind, run_underlying hu, run_underlying hx, run_sizeOf hn, Result.andThen_ok, List.getElem?_toArray, List.getElem?_cons_zero, List.getElem?_cons_succ, Sem.run_pure,
      if_true, Sem.run_ite, asInt, asIntOf, wrap_nat hm, if_neg hneg, hti, if_neg hbig, Int.toNat_natCast, if_pos hfit, Bool.not_true, Bool.false_eq_true, if_false, happ]
    cases base with
    | none => subst hst; simp
    | some a => simp only [Sem.run_bind, hst, Result.andThen_ok, Sem.run_pure]
theorem run_append_grows {st xt ret el : TypeId} {sz by_ : Nat} {base : Option Addr} {sLen sCap m : Nat} {x z : Value} {xs old : List Value} (hsz : sz ≠ 0)
    (hu : P.underlying st = some (.slice el)) (hn : szOf P el = some sz) (hby : bytesOf P el = some by_) (hz : ∀ w, (zeroValue el).run P w = .ok z w) (ht : Takes P w el xt sz m x xs) (hgrow : sCap < sLen + m)
    (hb1 : (sLen + m) * by_ ≤ 70368744177664) (hb2 : sLen + m ≤ 70368744177664)
    (hold : ∀ w1 : World, w1.heap = w.heap → (Builtin.firstCells sz sLen (.slice base sLen sCap)).run P w1 = .ok old.toArray w1) :
    ∃ cap, sLen + m ≤ cap ∧ (Builtin.append_ #[st, xt] ret #[.slice base sLen sCap, x]).run P w =
      .ok (.slice (some ⟨w.heap.size, 0, none⟩) (sLen + m) cap) { w with drawn := w.drawn + 1, heap := w.heap.push (.cells (old.toArray ++ xs.toArray ++ Builtin.zeroCells z.cells (cap - (sLen + m))) el) } := by
  obtain ⟨i, hi, hbi, _⟩ := bytesOf_info hby w
  have hti : ∀ w, (typeInfo el).run P w = .ok i w := fun w => by simp [typeInfo, hi]
  have hfit : ¬ (sLen + m ≤ sCap) := by omega
  have hmax : ¬ (((sLen + m : Nat) : Int) > IntKind.i64.max) := by
    have : IntKind.i64.max = 9223372036854775807 := rfl
    rw [this]; omega
  have hcap : ¬ (Builtin.nextslicecap (sLen + m) sCap * i.bytes > 2 ^ 48) := by
    have h1 := nextcap_le hgrow
    have h2 : Builtin.nextslicecap (sLen + m) sCap * i.bytes ≤ 3 * (sLen + m) * i.bytes := Nat.mul_le_mul_right _ h1
    rw [hbi] at *
    have h3 : 3 * (sLen + m) * by_ = 3 * ((sLen + m) * by_) := Nat.mul_assoc _ _ _
    omega
  obtain ⟨cap, hc1, hc2⟩ : ∃ cap, sLen + m ≤ cap ∧ (choose (.appendCap (sLen + m) sCap el)).run P w = .ok cap { w with drawn := w.drawn + 1 } :=
    ⟨_, Nat.le_add_right _ _, by simp only [run_choose]; rfl⟩
  refine ⟨cap, hc1, ?_⟩
  have hold' := hold { w with drawn := w.drawn + 1 } rfl
  cases ht with
  | cells d hx hd hlen hf =>
    have hdm : (d matches .int _) = false := by cases d <;> first | rfl | exact absurd rfl (hd _)
    have hf' := hf { w with drawn := w.drawn + 1 } rfl
    have hb : ¬ (((sLen + m : Nat) : Int) > IntKind.i64.max ∧ (False ∨ i.bytes = 0)) := fun h => hmax h.1
    simp only [Builtin.append_, Sem.run_bind, run_underlying hu, run_underlying hx, run_sizeOf hn, Result.andThen_ok, List.getElem?_toArray, List.getElem?_cons_zero, List.getElem?_cons_succ, Sem.run_pure, hdm, hlen,
      Bool.false_eq_true, if_false, Sem.run_ite, if_neg hfit, Bool.not_false, if_true, hti, if_neg hb, if_neg hcap, hc2, run_askRoom, hold', hf', hz, run_newRow]
  | zeros k k' by2 z2 hx hv hm hby2 hmb hz2 h0 hxs =>
    subst hv
    have hneg : ¬ ((m : Int) < 0) := by omega
    have hbig : ¬ ((m : Int) * (i.bytes : Int) > 2 ^ 48) := by
      rw [hby] at hby2; cases hby2
      rw [hbi]
      have : ((m : Int) * (by_ : Int)) = ((m * by_ : Nat) : Int) := by simp
      rw [this]; omega
    have hzz : z2 = z := by
      have h1 := hz2 w
      rw [hz w] at h1
      cases h1; rfl
    subst hzz
    have happ : (if m * sz = 0 then (Result.ok #[] { w with drawn := w.drawn + 1 } : Result (Array Value)) else .ok (Builtin.zeroCells z2.cells m) { w with drawn := w.drawn + 1 }) =
        .ok xs.toArray { w with drawn := w.drawn + 1 } := by
      by_cases hm0 : m = 0
      · subst hm0; rw [if_pos (Nat.zero_mul sz), h0 rfl]
      · rw [if_neg (Nat.mul_ne_zero hm0 hsz), hxs hm0]
    have hb : ¬ (((sLen + m : Nat) : Int) > IntKind.i64.max ∧ (True ∨ i.bytes = 0)) := fun h => hmax h.1
    simp only [Builtin.append_, Sem.run_bind, run_underlying hu, run_underlying hx, run_sizeOf hn, Result.andThen_ok, List.getElem?_toArray, List.getElem?_cons_zero, List.getElem?_cons_succ, Sem.run_pure,
      if_true, Sem.run_ite, asInt, asIntOf, wrap_nat hm, if_neg hneg, hti, if_neg hbig, Int.toNat_natCast, if_neg hfit, Bool.not_true, Bool.false_eq_true, if_false, if_neg hb, if_neg hcap, hc2, run_askRoom, hold', hz, happ, run_newRow]
theorem Sim.drawn (hs : Sim μ h w) {n : Nat} : Sim μ h { w with drawn := n } :=
  ⟨hs.lt, hs.fresh, hs.old, fun b c s x e g => (hs.blk b c s x e g).mono (Mp.Le.refl μ) rfl rfl rfl, hs.apart, hs.peer⟩
theorem Sim.kill (hs : Sim μ h w) {b : Nat} (hb : ∃ y, μ.at_ b = some y) : Sim μ (hset h b .dead) w := by
  have hget : ∀ b' x, hget (hset h b .dead) b' = some x → x ≠ .dead → hget h b' = some x := fun b' x hx hd => by
    rw [hget_if] at hx
    split at hx
    · cases hx; exact absurd rfl hd
    · exact hx
  refine ⟨hs.lt, fun b' hb' => ?_, hs.old, fun b' c s x e hx => ?_, fun b1 b2 c s1 s2 x1 x2 hne e1 e2 ho g1 g2 d1 d2 => hs.apart b1 b2 c s1 s2 x1 x2 hne e1 e2 ho (hget _ _ g1 d1) (hget _ _ g2 d2) d1 d2,
    fun b' c s cs n p e g => hs.peer b' c s cs n p e (hget _ _ g nofun)⟩
  · rw [hget_if, if_neg ?_]
    · exact hs.fresh b' hb'
    · intro e; subst e
      obtain ⟨y, hy⟩ := hb
      rw [hs.lt b' hb'] at hy; cases hy
  · by_cases hd : x = .dead
    · subst hd; trivial
    · exact hs.blk b' c s x e (hget _ _ hx hd)
theorem Goes.kill (hs : Sim μ h w) {b : Nat} (hb : ∃ y, μ.at_ b = some y) : Goes μ h w μ (hset h b .dead) w :=
  ⟨Nat.le_refl _, fun _ _ => rfl, fun _ _ => rfl, fun _ _ => rfl, Nat.le_refl _, fun _ _ _ => rfl, (fun b' _ hn => by
    rw [hget_if, if_neg]
    intro e; subst e
    obtain ⟨y, hy⟩ := hb
    rw [hn] at hy; cases hy), rfl, rfl, rfl⟩
theorem Sim.push (hs : Sim μ h w) {o : Obj} {x : Blk} {n : Nat} (p : Pushed w o w') (hsolo : ∀ cs n p, x ≠ .cells cs n (.pair p)) (hblk : BlkR (μ.ext h.next w.heap.size 0 n) w' w.heap.size 0 x) :
    Sim (μ.ext h.next w.heap.size 0 n) (hpush h x) w' ∧ Goes μ h w (μ.ext h.next w.heap.size 0 n) (hpush h x) w' := by
  have hnone : μ.at_ h.next = none := hs.lt _ (Nat.le_refl _)
  refine ⟨hs.mapNew hnone p (hget_hpush _ _) (fun b' hb' => hget_hpush_ne _ _ hb') (Nat.lt_succ_self _) (Nat.le_succ _) hsolo hblk, ?_⟩
  refine ⟨Nat.le_succ _, fun b' hb' => ?_, fun c hc => ?_, fun c hc => ?_, by rw [p.size]; omega, fun c hc _ => p.old hc, fun b' hb' _ => hget_hpush_ne _ _ (by omega), p.os, p.tape, p.output⟩
  · show (if b' = h.next then _ else _) = _; rw [if_neg (by omega)]
  · show (if c = w.heap.size then _ else _) = _; rw [if_neg (by omega)]
  · show (if c = w.heap.size then _ else _) = _; rw [if_neg (by omega)]
theorem grown_ok (hs : Sim μ h w) {el : TypeId} {need sz cap : Nat} {cs : List AV} {xs rest : List Value} {v : AV} (r : VRs μ cs xs) (hc : ∀ v ∈ cs, isCell v = true) (hl : cs.length = need * sz) (hcap : need ≤ cap)
    (hrest : rest.length = (cap - need) * sz) (e : grown h need sz cs = .ok v h') :
    ∃ μ', Goes μ h w μ' h' { w with drawn := w.drawn + 1, heap := w.heap.push (.cells (xs ++ rest).toArray el) } ∧ Sim μ' h' { w with drawn := w.drawn + 1, heap := w.heap.push (.cells (xs ++ rest).toArray el) } ∧
      VR μ' v (.slice (some ⟨w.heap.size, 0, none⟩) need cap) := by
  cases e
  have hp : Pushed w (.cells (xs ++ rest).toArray el) { w with drawn := w.drawn + 1, heap := w.heap.push (.cells (xs ++ rest).toArray el) } := ⟨rfl, rfl, rfl, rfl⟩
  have hlx := r.length
  have hsize : (xs ++ rest).toArray.size = cap * sz := by
    simp [hlx, hl, hrest, ← Nat.add_mul]; congr 1; omega
  have hle := ext_le (n := cap * sz) hs (hs.lt h.next (Nat.le_refl _))
  have hown : (μ.ext h.next w.heap.size 0 (cap * sz)).own w.heap.size = true := by show (if _ then _ else _) = _; rw [if_pos rfl]
  have hsz2 : (μ.ext h.next w.heap.size 0 (cap * sz)).size w.heap.size = cap * sz := by show (if _ then _ else _) = _; rw [if_pos rfl]
  have hat : (μ.ext h.next w.heap.size 0 (cap * sz)).at_ h.next = some (w.heap.size, 0) := by show (if _ then _ else _) = _; rw [if_pos rfl]
  obtain ⟨h1, h2⟩ := hs.push (x := mkCells cs (Nat.mul need sz)) (n := cap * sz) hp (fun _ _ _ e => by cases e) (cells_blk hl hc hp (unmarked_zero _) (fun i v hv => by
      obtain ⟨x, hx, rx⟩ := r.get i v hv
      refine ⟨x, ?_, rx⟩
      have : i < xs.length := (List.getElem?_eq_some_iff.1 hx).1
      simp [List.getElem?_append_left this, hx]) _ hle hown (by rw [hsz2, hsize]))
  exact ⟨_, h2, h1, sl_VR hat (Nat.le_refl _) hcap nofun hsz2 (Nat.le_refl _)⟩
theorem Sim.share (hs : Sim μ h w) {b c s k n : Nat} {old cs : List AV} {ow : Own} (hb : μ.at_ b = some (c, s)) (hg : hget h b = some (.cells old k ow)) (hro : ow ≠ .ro)
    (halone : ∀ b' s' x, b' ≠ b → μ.at_ b' = some (c, s') → hget h b' = some x → x = .dead)
    {c' s' : Nat} (hat : ∀ b', μ'.at_ b' = if b' = h.next then some (c', s') else μ.at_ b') (hle : μ.Le μ') (hc' : c' = c ∨ w.heap.size ≤ c')
    (hold : ∀ b0 c0 s0 x0, μ.at_ b0 = some (c0, s0) → hget h b0 = some x0 → BlkR μ' w' c0 s0 x0) (hnew : BlkR μ' w' c' s' (.cells cs n (.pair b))) (hsize : w.heap.size ≤ w'.heap.size) (hlt : c' < w'.heap.size) :
    Sim μ' (hset (hpush h (.cells cs n (.pair b))) b (.cells old k (.pair h.next))) w' := by
  have hbn : b ≠ h.next := fun e => by rw [e, hs.lt _ (Nat.le_refl _)] at hb; cases hb
  have hbl : b < h.next := by
    rcases Nat.lt_or_ge b h.next with hh | hh
    · exact hh
    · rw [hs.lt b hh] at hb; cases hb
  have g1 : hget (hset (hpush h (.cells cs n (.pair b))) b (.cells old k (.pair h.next))) b = some (.cells old k (.pair h.next)) := hget_hset _ _ _
  have g2 : hget (hset (hpush h (.cells cs n (.pair b))) b (.cells old k (.pair h.next))) h.next = some (.cells cs n (.pair b)) := by
    rw [hget_hset_ne _ _ hbn.symm, hget_hpush]
  have g3 : ∀ b', b' ≠ b → b' ≠ h.next → hget (hset (hpush h (.cells cs n (.pair b))) b (.cells old k (.pair h.next))) b' = hget h b' := fun b' h1 h2 => by
    rw [hget_hset_ne _ _ h1, hget_hpush_ne _ _ h2]
  have hatb : μ'.at_ b = some (c, s) := by rw [hat, if_neg hbn]; exact hb
  have hatn : μ'.at_ h.next = some (c', s') := by rw [hat, if_pos rfl]
  have hato : ∀ b' y, b' ≠ h.next → (μ'.at_ b' = some y ↔ μ.at_ b' = some y) := fun b' y hn => by rw [hat, if_neg hn]
  refine ⟨fun b' hb' => ?_, fun b' hb' => ?_, fun b' c0 s0 e => ?_, fun b' c0 s0 x e hx => ?_, fun B1 B2 C0 S1 S2 X1 X2 Hne E1 E2 Ho K1 K2 D1 D2 => ?_, fun b' c0 s0 cs0 n0 p e g => ?_⟩
  · have hb' : h.next + 1 ≤ b' := hb'
    rw [hat, if_neg (by omega)]; exact hs.lt b' (by omega)
  · have hb' : h.next + 1 ≤ b' := hb'
    rw [g3 b' (by omega) (by omega)]; exact hs.fresh b' (by omega)
  · by_cases hn : b' = h.next
    · subst hn; rw [hatn] at e; cases e; exact hlt
    · have := hs.old b' c0 s0 ((hato b' _ hn).1 e); omega
  · by_cases hn : b' = h.next
    · subst hn; rw [hatn] at e; cases e; rw [g2] at hx; cases hx; exact hnew
    · have e' := (hato b' _ hn).1 e
      by_cases hbb : b' = b
      · subst hbb
        rw [g1] at hx; cases hx
        rw [hb] at e'; cases e'
        obtain ⟨h1, h2, h3, h4⟩ := hold b' c s _ hb hg
        exact ⟨h1, h2, ⟨fun _ => nofun, fun _ => h3.2 hro⟩, h4⟩
      · rw [g3 b' hbb hn] at hx
        exact hold b' c0 s0 x e' hx
  · -- who shares memory
    have key : ∀ b1 b2 c0 s1 s2 x1 x2, b1 ≠ b2 → b1 ≠ h.next → b1 ≠ b → μ'.at_ b1 = some (c0, s1) → μ'.at_ b2 = some (c0, s2) → μ'.own c0 = true →
        hget (hset (hpush h (.cells cs n (.pair b))) b (.cells old k (.pair h.next))) b1 = some x1 → hget (hset (hpush h (.cells cs n (.pair b))) b (.cells old k (.pair h.next))) b2 = some x2 → x1 ≠ .dead → x2 ≠ .dead →
        ∃ cs n cs' n', x1 = .cells cs n (.pair b2) ∧ x2 = .cells cs' n' (.pair b1) := by
      intro b1 b2 c0 s1 s2 x1 x2 hne hn1 hb1 e1 e2 ho k1 k2 d1 d2
      have e1' := (hato b1 _ hn1).1 e1
      rw [g3 b1 hb1 hn1] at k1
      by_cases hn2 : b2 = h.next
      · subst hn2
        rw [hatn] at e2; cases e2
        rcases hc' with rfl | hc'
        · exact absurd (halone b1 s1 x1 hb1 e1' k1) d1
        · have := hs.old b1 _ _ e1'; omega
      · have e2' := (hato b2 _ hn2).1 e2
        by_cases hb2 : b2 = b
        · subst hb2
          rw [hb] at e2'; cases e2'
          exact absurd (halone b1 s1 x1 hb1 e1' k1) d1
        · rw [g3 b2 hb2 hn2] at k2
          have ho' : μ.own c0 = true := by rw [← (hle b1 c0 s1 e1').2.2]; exact ho
          exact hs.apart b1 b2 c0 s1 s2 x1 x2 hne e1' e2' ho' k1 k2 d1 d2
    by_cases hn1 : B1 = h.next
    · subst hn1
      by_cases hb2 : B2 = b
      · subst hb2
        rw [g2] at K1; rw [g1] at K2; cases K1; cases K2
        exact ⟨_, _, _, _, rfl, rfl⟩
      · obtain ⟨_, _, _, _, h1, h2⟩ := key B2 h.next C0 S2 S1 X2 X1 Hne.symm Hne.symm hb2 E2 E1 Ho K2 K1 D2 D1
        exact ⟨_, _, _, _, h2, h1⟩
    · by_cases hb1 : B1 = b
      · subst hb1
        by_cases hn2 : B2 = h.next
        · subst hn2
          rw [g1] at K1; rw [g2] at K2; cases K1; cases K2
          exact ⟨_, _, _, _, rfl, rfl⟩
        · obtain ⟨_, _, _, _, h1, h2⟩ := key B2 B1 C0 S2 S1 X2 X1 Hne.symm hn2 Hne.symm E2 E1 Ho K2 K1 D2 D1
          exact ⟨_, _, _, _, h2, h1⟩
      · exact key B1 B2 C0 S1 S2 X1 X2 Hne hn1 hb1 E1 E2 Ho K1 K2 D1 D2
  · by_cases hn : b' = h.next
    · subst hn; rw [g2] at g; cases g; exact ⟨_, hatb⟩
    · by_cases hbb : b' = b
      · subst hbb; rw [g1] at g; cases g; exact ⟨_, hatn⟩
      · rw [g3 b' hbb hn] at g
        obtain ⟨y, hy⟩ := hs.peer b' c0 s0 cs0 n0 p ((hato b' _ hn).1 e) g
        exact ⟨y, (hle p y.1 y.2 hy).1⟩
theorem Goes.share {b c s k n : Nat} {old cs : List AV} (hs : Sim μ h w) (hb : μ.at_ b = some (c, s)) {c' s' : Nat} (hat : ∀ b', μ'.at_ b' = if b' = h.next then some (c', s') else μ.at_ b')
    (hown : ∀ c, c < w.heap.size → μ'.own c = μ.own c) (hsz : ∀ c, c < w.heap.size → μ'.size c = μ.size c) (hsize : w.heap.size ≤ w'.heap.size)
    (hkept : ∀ c, c < w.heap.size → μ.own c = false → w'.heap[c]? = w.heap[c]?) (hos : w'.os = w.os) (ht : w'.tape = w.tape) (ho : w'.output = w.output) :
    Goes μ h w μ' (hset (hpush h (.cells cs n (.pair b))) b (.cells old k (.pair h.next))) w' := by
  refine ⟨Nat.le_succ _, fun b' hb' => by rw [hat, if_neg (by omega)], hown, hsz, hsize, hkept, fun b' hb' hn => ?_, hos, ht, ho⟩
  rw [hget_hset_ne _ _ (fun e => by subst e; rw [hn] at hb; cases hb), hget_hpush_ne _ _ (by omega)]
end
end Eng
