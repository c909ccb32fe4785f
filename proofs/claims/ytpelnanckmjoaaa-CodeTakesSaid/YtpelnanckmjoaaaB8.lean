import Derived.Test.YtpelnanckmjoaaaB7
section
set_option linter.unusedVariables false
set_option linter.unusedSimpArgs false
namespace Go.Proofs.Ytpelnanckmjoaaa
open Go Eng
variable {T : Nat} {s : St}
theorem closes_err {l : List Nat} {n e : Nat} {rl : SLT} {ro : List Bool} {x : Nat} (he : e ≠ 0) (hr : ro.length ≤ 100) : ∃ r, closes_p l n e rl ro x = some r ∧ r.2.2.1 = e := by
  unfold closes_p
  rw [gd_t (by omega)]
  have hf : ∀ b, fails_p l n e b 2 = some (l, n, e) := by
    intro b; unfold fails_p; rw [if_neg he]; split <;> rfl
  split
  · split
    · split
      · rw [hf, ob_some]; exact ⟨_, rfl, rfl⟩
      · rw [gd_t (by omega)]
        split
        · rw [hf, ob_some]; exact ⟨_, rfl, rfl⟩
        · exact ⟨_, rfl, rfl⟩
    · split
      · split
        · rw [gd_t (by omega)]; exact ⟨_, rfl, rfl⟩
        · exact ⟨_, rfl, rfl⟩
      · exact ⟨_, rfl, rfl⟩
  · split
    · rw [hf, ob_some]; exact ⟨_, rfl, rfl⟩
    · split
      · exact ⟨_, rfl, rfl⟩
      · exact ⟨_, rfl, rfl⟩
theorem closes_no {l : List Nat} {n e : Nat} {rl : SLT} {ro : List Bool} {x : Nat} (hr : ro.length ≤ 100) (h5 : x ≠ 5) (h11 : x ≠ 11) : closes_p l n e rl ro x = some (l, n, e, rl, ro, false) := by
  unfold closes_p
  rw [gd_t (by omega), if_neg h5, if_neg h11, if_neg h5, if_neg h11]
  split <;> rfl
theorem closes_5n {l : List Nat} {n : Nat} {rl : SLT} : closes_p l n 0 rl [] 5 = some (l, n, 2, rl, [], false) := rfl
theorem closes_11n {l : List Nat} {n : Nat} {rl : SLT} : closes_p l n 0 rl [] 11 = some (l, n, 0, rl, [], true) := rfl
theorem getD_last {α : Type} (ys : List α) (y d : α) : (ys ++ [y]).getD ys.length d = y := by simp
theorem closes_5f {l : List Nat} {n : Nat} {rl : SLT} {ys : List Bool} (hr : ys.length ≤ 100) : closes_p l n 0 rl (ys ++ [false]) 5 = some (l, n, 2, rl, ys ++ [false], false) := by
  have hl : (ys ++ [false]).length = ys.length + 1 := by simp
  unfold closes_p
  rw [hl, gd_t (by omega), if_pos (by omega), if_pos rfl, if_neg (by omega), gd_t (by omega), show ys.length + 1 - 1 = ys.length by omega, getD_last, if_pos rfl]
  rfl
theorem closes_5t {l : List Nat} {n : Nat} {rl : SLT} {ys : List Bool} (hr : ys.length ≤ 100) : closes_p l n 0 rl (ys ++ [true]) 5 = some (l, n, 0, rl, ys ++ [false], false) := by
  have hl : (ys ++ [true]).length = ys.length + 1 := by simp
  unfold closes_p
  rw [hl, gd_t (by omega), if_pos (by omega), if_pos rfl, if_neg (by omega), gd_t (by omega), show ys.length + 1 - 1 = ys.length by omega, getD_last, if_neg (by decide)]
  simp
theorem closes_11 {l : List Nat} {n : Nat} {rl : SLT} {ys : List Bool} {y : Bool} (hr : ys.length ≤ 100) : closes_p l n 0 rl (ys ++ [y]) 11 = some (l, n, 0, rl, ys, false) := by
  have hl : (ys ++ [y]).length = ys.length + 1 := by simp
  unfold closes_p
  rw [hl, gd_t (by omega), if_pos (by omega), if_neg (by decide), if_pos rfl, if_pos (by omega), gd_t (by omega), show ys.length + 1 - 1 = ys.length by omega]
  simp
theorem byteS_err (h : s.2 ≠ 0) : byteS s = (0, s) := by unfold byteS; rw [if_neg h]
theorem stP_err (h : s.2 ≠ 0) : stP s = s := by
  unfold stP stO
  rw [byteS_err h]
  rw [if_neg (show ¬ (0 : Nat) = 253 by decide), if_neg (show ¬ (0 : Nat) = 252 by decide)]
theorem next_full (h : Sm T s) (h0 : s.2 = 0) {rl : SLT} (hl : 600 ≤ rl.length) (ro : List Bool) : ∃ r, next_p s.1 (T - s.1.length) s.2 rl ro = some r ∧ r.2.2.1 = 4 ∧ r.2.2.2.2.2 = false := by
  unfold next_p
  have hb : notB (ltI (Int.ofNat rl.length) (Int.ofNat 600)) = true ↔ True := by
    have : ltI (Int.ofNat rl.length) (Int.ofNat 600) = false := by
      rw [ltI_eq]; simp; omega
    rw [this]; simp [notB, bc]
  rw [fails_q hb, ob_some, failI_T]
  dsimp only
  have e4 : (failS 4 s).2 = 4 := by unfold failS; rw [if_pos h0]
  have hne : (failS 4 s).2 ≠ 0 := by rw [e4]; decide
  rw [op_q (failS_sm h 4), ob_some]
  dsimp only
  rw [stP_err hne, if_pos hne]
  exact ⟨_, rfl, e4, rfl⟩
theorem kF253 : kF 253 = (0, 5) := by decide +kernel
theorem insS_253 (h0 : s.2 = 0) (h : (byteS s).1 = 253) : (insS s).1.2 = 5 ∧ (stP s).2 = 5 := by
  have hb : (byteS s).2.2 = 0 := by
    revert h; unfold byteS
    rw [if_pos h0]
    split
    · intro h; exact absurd h (show ¬ (0 : Nat) = 253 by decide)
    · intro _; rfl
  have hO : stO s = (byteS s).2 := by unfold stO; rw [if_neg (by rw [h]; decide)]
  have hv : vO s = 253 := by unfold vO; rw [if_neg (by rw [h]; decide), h]
  constructor
  · unfold insS
    rw [hv, kF253, hO, if_neg (not_not_intro hb), if_pos (show (5 : Nat) ≠ 0 by decide)]
    dsimp only
    unfold failS; rw [if_pos hb]
  · unfold stP
    rw [if_pos h, hO]
    unfold failS; rw [if_pos hb]
theorem next_a (h : Sm T s) (h0 : s.2 = 0) {rl : SLT} (hl : rl.length < 600) (ro : List Bool) :
    ((insS s).1.2 ≠ 0 ∧ ∃ r, next_p s.1 (T - s.1.length) s.2 rl ro = some r ∧ r.2.2.1 = (insS s).1.2) ∨
    ((stO s).2 = 0 ∧ (kF (vO s)).2 = 0 ∧ insS s = ((immS (vO s) (kF (vO s)).1 (stO s)).1, vO s, (immS (vO s) (kF (vO s)).1 (stO s)).2) ∧
     next_p s.1 (T - s.1.length) s.2 rl ro = ob (behind_p (stO s).1 (T - (stO s).1.length) (stO s).2 rl ro (vO s) 0 0 0 [] 0 (kF (vO s)).1) fun x50 =>
      (gd ((x50.2.2.2.1.length + 1) * 56 ≤ 70368744177664) (ob (closes_p x50.1 x50.2.1 x50.2.2.1 (x50.2.2.2.1 ++ [(x50.2.2.2.2.2.1, x50.2.2.2.2.2.2.1, x50.2.2.2.2.2.2.2.1, x50.2.2.2.2.2.2.2.2.1, x50.2.2.2.2.2.2.2.2.2.1, x50.2.2.2.2.2.2.2.2.2.2)]) x50.2.2.2.2.1 x50.2.2.2.2.2.1) fun x94 =>
    (if x94.2.2.2.2.2 = true then (some (x94.1, x94.2.1, x94.2.2.1, x94.2.2.2.1, x94.2.2.2.2.1, true)) else
    (some (x94.1, x94.2.1, x94.2.2.1, x94.2.2.2.1, x94.2.2.2.2.1, false)))))) := by
  unfold next_p
  have hb : notB (ltI (Int.ofNat rl.length) (Int.ofNat 600)) = true ↔ False := by
    have : ltI (Int.ofNat rl.length) (Int.ofNat 600) = true := (ltN_iff _ _).2 hl
    rw [this]; simp [notB, bc]
  rw [fails_q hb, ob_some, failI_f (fun h => h)]
  dsimp only
  rw [op_q h, ob_some]
  dsimp only
  by_cases hP : (stP s).2 ≠ 0
  · rw [if_pos hP]
    left
    by_cases h2 : (byteS s).1 = 253
    · have := insS_253 h0 h2
      refine ⟨by rw [this.1]; decide, _, rfl, ?_⟩
      rw [this.1, this.2]
    · have e : stP s = stO s := by unfold stP; rw [if_neg h2]
      rw [e] at hP ⊢
      have e2 : (insS s).1 = stO s := by unfold insS; rw [if_pos hP]
      rw [e2]
      exact ⟨hP, _, rfl, rfl⟩
  · rw [if_neg hP]
    have hP := Decidable.not_not.1 hP
    obtain ⟨ev, hO, _, eP⟩ := vP_eq hP
    rw [ev, eP, gd_t (vO_ok h hO)]
    by_cases hk : (kF (vO s)).2 ≠ 0
    · rw [if_pos hk]
      left
      have e2 : (insS s).1.2 = (kF (vO s)).2 := by
        unfold insS
        rw [if_neg (not_not_intro hO), if_pos hk]
        dsimp only
        unfold failS; rw [if_pos hO]
      rw [e2]
      exact ⟨hk, _, rfl, rfl⟩
    · rw [if_neg hk]
      have hk0 := Decidable.not_not.1 hk
      refine .inr ⟨hO, hk0, ?_, ?_⟩
      · unfold insS; rw [if_neg (not_not_intro hO), if_neg hk]
      · rw [hk0, hO]
theorem next_err (h : Sm T s) (h0 : s.2 = 0) {rl : SLT} (hl : rl.length < 600) {ro : List Bool} (hr : ro.length ≤ 32) (he : (insS s).1.2 ≠ 0) :
    ∃ r, next_p s.1 (T - s.1.length) s.2 rl ro = some r ∧ r.2.2.1 = (insS s).1.2 := by
  rcases next_a h h0 hl ro with ⟨_, h2⟩ | ⟨hO, hk, eI, eN⟩
  · exact h2
  rw [eN]
  have K := kf (vO_ok h hO)
  have hs := stO_sm h
  rw [eI] at he ⊢
  dsimp only at he ⊢
  generalize hp : kF (vO s) = p at *
  obtain ⟨k, e⟩ := p
  dsimp only at hk he K ⊢
  subst hk
  have fin : ∀ {l : List Nat} {n : Nat} {e : Nat} {ro : List Bool} {i : InsT}, e ≠ 0 → ro.length ≤ 100 → ∃ r, (ob (closes_p l n e (rl ++ [i]) ro (vO s)) fun x94 =>
    (if x94.2.2.2.2.2 = true then (some (x94.1, x94.2.1, x94.2.2.1, x94.2.2.2.1, x94.2.2.2.2.1, true)) else
    (some (x94.1, x94.2.1, x94.2.2.1, x94.2.2.2.1, x94.2.2.2.2.1, false)))) = some r ∧ r.2.2.1 = e := by
    intro l n e ro i he hr
    obtain ⟨r, e1, e2⟩ := closes_err (l := l) (n := n) (rl := rl ++ [i]) (x := vO s) he hr
    rw [e1, ob_some]
    split
    · exact ⟨_, rfl, e2⟩
    · exact ⟨_, rfl, e2⟩
  by_cases h6 : k = 6
  · subst h6
    have ei : immS (vO s) 6 (stO s) = ((blockS (stO s)).2, 0, 0, 0, [], (blockS (stO s)).1) := by unfold immS; simp only [reduceIte, Nat.reduceEqDiff]
    rw [ei] at he ⊢
    dsimp only at he ⊢
    unfold behind_p
    simp only [reduceIte, Nat.reduceEqDiff]
    rw [block_q hs, ob_some]
    dsimp only
    unfold opens_p
    rw [fails_eq, ob_some, gd_t (by omega), ob_some, ob_some]
    dsimp only
    rw [gd_t (by omega)]
    have : ∀ b : Bool, (if b = true then (failS 4 ((blockS (stO s)).2.1, (blockS (stO s)).2.2)).2 else (blockS (stO s)).2.2) = (blockS (stO s)).2.2 := by
      intro b; unfold failS; rw [if_neg he]; split <;> rfl
    rw [this]
    exact fin he (by rw [List.length_append]; simp; omega)
  · rw [behind_q K hs h6, ob_some]
    dsimp only
    rw [gd_t (by omega)]
    exact fin he (by omega)
theorem next_ok (h : Sm T s) (h0 : s.2 = 0) {rl : SLT} (hl : rl.length < 600) {ro : List Bool} (hr : ro.length ≤ 32) (he : (insS s).1.2 = 0) (h6 : ¬ (2 ≤ (insS s).2.1 ∧ (insS s).2.1 ≤ 4)) :
    next_p s.1 (T - s.1.length) s.2 rl ro = ob (closes_p (insS s).1.1 (T - (insS s).1.1.length) 0 (rl ++ [(insS s).2]) ro (insS s).2.1) fun x94 =>
    (if x94.2.2.2.2.2 = true then (some (x94.1, x94.2.1, x94.2.2.1, x94.2.2.2.1, x94.2.2.2.2.1, true)) else
    (some (x94.1, x94.2.1, x94.2.2.1, x94.2.2.2.1, x94.2.2.2.2.1, false))) := by
  rcases next_a h h0 hl ro with ⟨h2, _⟩ | ⟨hO, hk, eI, eN⟩
  · exact absurd he h2
  rw [eN]
  have K := kf (vO_ok h hO)
  have hs := stO_sm h
  rw [eI] at he h6 ⊢
  dsimp only at he h6 ⊢
  generalize hp : kF (vO s) = p at *
  obtain ⟨k, e⟩ := p
  dsimp only at hk he K ⊢
  subst hk
  have K6 := K.o
  dsimp only at K6
  have h6' : k ≠ 6 := fun hh => h6 (K6.1 hh)
  rw [behind_q K hs h6', ob_some]
  dsimp only
  rw [gd_t (by omega), he]
theorem next_open (h : Sm T s) (h0 : s.2 = 0) {rl : SLT} (hl : rl.length < 600) {ro : List Bool} (hr : ro.length ≤ 32) (he : (insS s).1.2 = 0) (h6 : 2 ≤ (insS s).2.1 ∧ (insS s).2.1 ≤ 4) :
    next_p s.1 (T - s.1.length) s.2 rl ro = some ((insS s).1.1, T - (insS s).1.1.length, if 32 ≤ ro.length then 4 else 0, rl ++ [(insS s).2], ro ++ [decide ((insS s).2.1 = 4)], false) := by
  rcases next_a h h0 hl ro with ⟨h2, _⟩ | ⟨hO, hk, eI, eN⟩
  · exact absurd he h2
  rw [eN]
  have K := kf (vO_ok h hO)
  have hs := stO_sm h
  rw [eI] at he h6 ⊢
  dsimp only at he h6 ⊢
  generalize hp : kF (vO s) = p at *
  obtain ⟨k, e⟩ := p
  dsimp only at hk he K h6 ⊢
  subst hk
  have K6 := K.o
  dsimp only at K6
  have h6' := K6.2 h6
  subst h6'
  have ei : immS (vO s) 6 (stO s) = ((blockS (stO s)).2, 0, 0, 0, [], (blockS (stO s)).1) := by unfold immS; simp only [reduceIte, Nat.reduceEqDiff]
  rw [ei] at he ⊢
  dsimp only at he ⊢
  unfold behind_p
  simp only [reduceIte, Nat.reduceEqDiff]
  rw [block_q hs, ob_some]
  dsimp only
  unfold opens_p
  have hb : notB (ltI (Int.ofNat ro.length) (Int.ofNat 32)) = true ↔ 32 ≤ ro.length := by
    by_cases hh : ro.length < 32
    · rw [(ltN_iff _ _).2 hh]
      exact ⟨fun h => absurd h (by decide), fun h => absurd hh (by omega)⟩
    · rw [Bool.eq_false_iff.2 (fun h => hh ((ltN_iff _ _).1 h))]
      exact ⟨fun _ => by omega, fun _ => rfl⟩
  rw [fails_q hb, ob_some, gd_t (by omega), ob_some, ob_some]
  dsimp only
  rw [gd_t (by omega), closes_no (by rw [List.length_append]; simp; omega) (by omega) (by omega), ob_some, failI_1, eqI_nat]
  dsimp only
  have : (failI (32 ≤ ro.length) 4 (blockS (stO s)).2).2 = if 32 ≤ ro.length then 4 else 0 := by
    unfold failI
    split
    · unfold failS; rw [if_pos he]
    · exact he
  rw [this]
  rfl
abbrev ResT := SLT × Nat × Nat
abbrev PL := LO (List Nat × Nat × Nat × List Nat × Nat × Nat × SLT × List Bool) ResT
noncomputable def fP (o10 : PL) : Option ResT :=
  (LO.on o10 (fun s_o10 => (if s_o10.2.2.2.2.2.1 ≠ 0 then (some ([], 0, s_o10.2.2.2.2.2.1)) else
    (some (s_o10.2.2.2.2.2.2.1, s_o10.2.2.2.2.1, 0)))) (fun y17 =>
    (some y17)))
theorem take_f (b : List Nat) : take_p b = ob (take_l1 90000 [] 0 0 b 0 0 [] []) fP := rfl
abbrev RL := LO (List Nat × SLT × List Nat × List Nat × Nat) (List Nat × Nat × SLT)
noncomputable def fR (T : Nat) (o11 : RL) : Option ResT :=
  ob (LO.on o11 (fun s_o11 => (some (s_o11.2.2.2.1, s_o11.2.2.2.2, s_o11.2.1))) (fun y18 => (some y18))) fun x2 =>
    (if x2.2.1 ≠ 0 then (some ([], 0, x2.2.1)) else
    (gd (x2.1.length ≤ T) (gd (T < 9223372036854775808) (some (x2.2.2, T - x2.1.length, 0)))))
theorem ob_ob {α β γ : Type} (o : Option α) (f : α → Option β) (g : β → Option γ) : ob (ob o f) g = ob o fun x => ob (f x) g := by cases o <;> rfl
theorem rBody_f (b : List Nat) : rBody_p b = ob (rbody_l1 90000 [] [] [] b 0) (fR b.length) := by
  unfold rBody_p rbody_p
  rw [ob_ob]; rfl
def Agree (T : Nat) (a : Option PL) (b : Option RL) : Prop := ∃ r, ob a fP = some r ∧ ob b (fR T) = some r ∧ r.1.length ≤ 601 ∧ ∀ i ∈ r.1, i.2.2.2.2.1.length ≤ 600
theorem fR_err {l : List Nat} {e : Nat} {rl : SLT} (h : e ≠ 0) : fR T (.rt (l, e, rl)) = some ([], 0, e) := by
  unfold fR
  rw [LO.on_rt, ob_some, if_pos h]
theorem fR_exerr {l : List Nat} {e : Nat} {rl : SLT} {a b} (h : e ≠ 0) : fR T (.ex (a, rl, b, l, e)) = some ([], 0, e) := by
  unfold fR
  rw [LO.on_ex, ob_some, if_pos h]
theorem fR_ok {l : List Nat} {rl : SLT} (h : l.length ≤ T) (hT : T ≤ 2000) : fR T (.rt (l, 0, rl)) = some (rl, T - l.length, 0) := by
  unfold fR
  rw [LO.on_rt, ob_some]
  dsimp only
  rw [if_neg (show ¬ (0 : Nat) ≠ 0 by decide), gd_t h, gd_t (by omega)]
theorem agree_err {a : Option PL} {b : Option RL} {e : Nat} (ha : ob a fP = some ([], 0, e)) (hb : ob b (fR T) = some ([], 0, e)) : Agree T a b := ⟨_, ha, hb, Nat.zero_le _, fun i hi => by cases hi⟩
theorem take_step {m x1 x2 : Nat} {x0 : List Nat} {l : List Nat} {n e : Nat} {rl : SLT} {ro : List Bool} {r} (h : next_p l n e rl ro = some r) (he : r.2.2.1 ≠ 0) :
    ob (take_l1 (m + 1) x0 x1 x2 l n e rl ro) fP = some ([], 0, r.2.2.1) := by
  rw [take_l1, h, ob_some]
  by_cases hd : r.2.2.2.2.2 = false
  · rw [if_pos hd, if_pos he, ob_some]; rfl
  · rw [if_neg hd, ob_some]
    show (if _ then _ else _) = _
    rw [if_pos he]
theorem map_len {A4 : List Nat} : (A4.map fun k => decide (k = 4)).length = A4.length := by simp
theorem rbody_stop {m : Nat} {A2 A4 l : List Nat} {rl : SLT} {e : Nat} (h : e ≠ 0) : ob (rbody_l1 (m + 1) A2 rl A4 l e) (fR T) = some ([], 0, e) := by
  rw [rbody_l1, if_neg h, ob_some, fR_exerr h]
theorem loops : ∀ (m : Nat) (s : St) (rl : SLT) (A4 A2 x0 : List Nat) (x1 x2 : Nat), Sm T s → s.2 = 0 → rl.length ≤ 600 → 601 ≤ m + rl.length → A4.length ≤ 32 → (∀ i ∈ rl, i.2.2.2.2.1.length ≤ 600) →
    Agree T (take_l1 m x0 x1 x2 s.1 (T - s.1.length) s.2 rl (A4.map fun k => decide (k = 4))) (rbody_l1 m A2 rl A4 s.1 s.2)
  | 0, s, rl, A4, A2, x0, x1, x2, h, h0, hl, hm, hA, hi => by omega
  | m + 1, s, rl, A4, A2, x0, x1, x2, h, h0, hl, hm, hA, hi => by
    have hro : (A4.map fun k => decide (k = 4)).length ≤ 32 := by rw [map_len]; exact hA
    by_cases hf : 600 ≤ rl.length
    · obtain ⟨r, e1, e2, e3⟩ := next_full h h0 hf (A4.map fun k => decide (k = 4))
      refine agree_err (e := 4) ?_ ?_
      · rw [take_step e1 (by rw [e2]; decide), e2]
      · rw [rbody_l1, if_pos h0, if_pos hf, rfail_q, ob_some, ob_some]
        have : (failS 4 s).2 = 4 := by unfold failS; rw [if_pos h0]
        dsimp only
        rw [this, fR_err (by decide)]
    · have hf' : rl.length < 600 := by omega
      by_cases he : (insS s).1.2 ≠ 0
      · obtain ⟨r, e1, e2⟩ := next_err h h0 hf' hro he
        refine agree_err (e := (insS s).1.2) ?_ ?_
        · rw [take_step e1 (by rw [e2]; exact he), e2]
        · rw [rbody_l1, if_pos h0, if_neg hf, rinstr_q h, ob_some, if_pos he, ob_some, fR_err he]
      · have he0 := Decidable.not_not.1 he
        have hs := insS_sm h
        have hi' : ∀ i ∈ rl ++ [(insS s).2], i.2.2.2.2.1.length ≤ 600 := by
          intro i hi2
          rcases List.mem_append.1 hi2 with h3 | h3
          · exact hi i h3
          · rw [List.mem_singleton.1 h3]; exact hs.2
        have hl' : (rl ++ [(insS s).2]).length = rl.length + 1 := by simp
        by_cases h6 : 2 ≤ (insS s).2.1 ∧ (insS s).2.1 ≤ 4
        · have eN := next_open h h0 hf' hro he0 h6
          rw [map_len] at eN
          have eR : rbody_l1 (m + 1) A2 rl A4 s.1 s.2 = (if 32 < A4.length + 1 then rbody_l1 m A2 (rl ++ [(insS s).2]) (A4 ++ [(insS s).2.1]) (insS s).1.1 4 else rbody_l1 m A2 (rl ++ [(insS s).2]) (A4 ++ [(insS s).2.1]) (insS s).1.1 (insS s).1.2) := by
            rw [rbody_l1, if_pos h0, if_neg hf, rinstr_q h, ob_some, if_neg he, gd_t (by omega)]
            dsimp only
            have h5 : (insS s).2.1 ≠ 5 := by omega
            have h11 : (insS s).2.1 ≠ 11 := by omega
            rw [if_pos h6.1, if_pos h6.2, gd_t (by omega), show (A4 ++ [(insS s).2.1]).length = A4.length + 1 by simp, rfail_q, ob_some]
            have : (failS 4 (insS s).1).2 = 4 := by unfold failS; rw [if_pos he0]
            rw [this, failS_1]
          rw [eR]
          by_cases h32 : 32 ≤ A4.length
          · rw [if_pos h32] at eN
            rw [if_pos (by omega)]
            obtain ⟨m', rfl⟩ : ∃ m', m = m' + 1 := ⟨m - 1, by omega⟩
            exact agree_err (e := 4) (take_step eN (show (4 : Nat) ≠ 0 by decide)) (rbody_stop (by decide))
          · rw [if_neg h32] at eN
            rw [if_neg (by omega)]
            rw [take_l1, eN, ob_some]
            dsimp only
            rw [if_pos rfl, if_neg (by decide)]
            have := loops m (insS s).1 (rl ++ [(insS s).2]) (A4 ++ [(insS s).2.1]) A2 x0 x1 x2 hs.1 he0 (by omega) (by omega) (by simp; omega) hi'
            rw [he0] at this ⊢
            rw [List.map_append] at this
            exact this
        · have eN := next_ok h h0 hf' hro he0 h6
          have eR : ∀ {o}, (if (insS s).2.1 = 5 then (if A4.length = 0 then some (LO.rt ((insS s).1.1, 2, rl ++ [(insS s).2])) else
              if A4.getD (A4.length - 1) default ≠ 4 then some (LO.rt ((insS s).1.1, 2, rl ++ [(insS s).2])) else
              rbody_l1 m A2 (rl ++ [(insS s).2]) (A4.set (A4.length - 1) 5) (insS s).1.1 (insS s).1.2) else
            if (insS s).2.1 = 11 then (if A4.length = 0 then some (LO.rt ((insS s).1.1, (insS s).1.2, rl ++ [(insS s).2])) else
              rbody_l1 m A2 (rl ++ [(insS s).2]) (A4.take (A4.length - 1)) (insS s).1.1 (insS s).1.2) else
            rbody_l1 m A2 (rl ++ [(insS s).2]) A4 (insS s).1.1 (insS s).1.2) = o → rbody_l1 (m + 1) A2 rl A4 s.1 s.2 = o := by
            rintro o rfl
            have e2 : (failS 2 (insS s).1).2 = 2 := by unfold failS; rw [if_pos he0]
            rw [rbody_l1, if_pos h0, if_neg hf, rinstr_q h, ob_some, if_neg he, gd_t (by omega)]
            dsimp only
            by_cases ha : 2 ≤ (insS s).2.1
            · rw [if_pos ha, if_neg (fun hb => h6 ⟨ha, hb⟩)]
              split
              · split
                · rw [rfail_q, ob_some, e2, failS_1]
                · rw [gd_t (by omega), gd_t (by omega), gd_t (by omega), rfail_q, ob_some, e2, failS_1]
              · split
                · split
                  · rfl
                  · rw [gd_t (by omega), gd_t (by omega), gd_t (by omega)]
                · rfl
            · rw [if_neg ha]
              split
              · split
                · rw [rfail_q, ob_some, e2, failS_1]
                · rw [gd_t (by omega), gd_t (by omega), gd_t (by omega), rfail_q, ob_some, e2, failS_1]
              · split
                · split
                  · rfl
                  · rw [gd_t (by omega), gd_t (by omega), gd_t (by omega)]
                · rfl
          rw [eR rfl]
          clear eR
          have stop : Agree T (take_l1 (m + 1) x0 x1 x2 s.1 (T - s.1.length) s.2 rl (A4.map fun k => decide (k = 4))) (some (LO.rt ((insS s).1.1, 2, rl ++ [(insS s).2]))) ∨ True := .inr trivial
          have more : ∀ (A : List Nat), A.length ≤ 32 → next_p s.1 (T - s.1.length) s.2 rl (A4.map fun k => decide (k = 4)) = some ((insS s).1.1, T - (insS s).1.1.length, 0, rl ++ [(insS s).2], A.map fun k => decide (k = 4), false) →
              Agree T (take_l1 (m + 1) x0 x1 x2 s.1 (T - s.1.length) s.2 rl (A4.map fun k => decide (k = 4))) (rbody_l1 m A2 (rl ++ [(insS s).2]) A (insS s).1.1 (insS s).1.2) := by
            intro A hA e
            rw [take_l1, e, ob_some]
            dsimp only
            rw [if_pos rfl, if_neg (by decide)]
            have := loops m (insS s).1 (rl ++ [(insS s).2]) A A2 x0 x1 x2 hs.1 he0 (by omega) (by omega) hA hi'
            rw [he0] at this ⊢
            exact this
          by_cases h5 : (insS s).2.1 = 5
          · rw [if_pos h5]
            rw [h5] at eN
            rcases List.eq_nil_or_concat A4 with rfl | ⟨ys, y, rfl⟩
            · rw [if_pos (show ([] : List Nat).length = 0 from rfl)]
              rw [List.map_nil, closes_5n, ob_some] at eN
              dsimp only at eN
              rw [if_neg (by decide)] at eN
              refine agree_err (e := 2) (take_step eN (show (2 : Nat) ≠ 0 by decide)) ?_
              rw [ob_some, fR_err (by decide)]
            · rw [List.concat_eq_append] at *
              have hy : (ys ++ [y]).length = ys.length + 1 := by simp
              rw [hy, if_neg (by omega), show ys.length + 1 - 1 = ys.length by omega, getD_last]
              rw [List.map_append] at eN
              by_cases hy4 : y = 4
              · rw [if_neg (not_not_intro hy4)]
                subst hy4
                have : ([4] : List Nat).map (fun k => decide (k = 4)) = [true] := rfl
                rw [this, closes_5t (by rw [map_len]; omega), ob_some] at eN
                dsimp only at eN
                rw [if_neg (by decide)] at eN
                have e5 : (ys ++ [4]).set ys.length 5 = ys ++ [5] := by simp
                rw [e5]
                have e6 : (ys ++ [5]).length = ys.length + 1 := by simp
                refine more (ys ++ [5]) (by omega) ?_
                rw [List.map_append, List.map_append]
                exact eN
              · rw [if_pos hy4]
                have : ([y] : List Nat).map (fun k => decide (k = 4)) = [false] := by simp [hy4]
                rw [this, closes_5f (by rw [map_len]; omega), ob_some] at eN
                dsimp only at eN
                rw [if_neg (by decide)] at eN
                rw [List.map_append, this]
                refine agree_err (e := 2) (take_step eN (show (2 : Nat) ≠ 0 by decide)) ?_
                rw [ob_some, fR_err (by decide)]
          · rw [if_neg h5]
            by_cases h11 : (insS s).2.1 = 11
            · rw [if_pos h11]
              rw [h11] at eN
              rcases List.eq_nil_or_concat A4 with rfl | ⟨ys, y, rfl⟩
              · rw [if_pos (show ([] : List Nat).length = 0 from rfl)]
                rw [List.map_nil, closes_11n, ob_some] at eN
                dsimp only at eN
                rw [if_pos rfl] at eN
                rw [take_l1, List.map_nil, eN, ob_some]
                dsimp only
                rw [if_neg (by decide)]
                refine ⟨(rl ++ [(insS s).2], T - (insS s).1.1.length, 0), rfl, ?_, by dsimp only; omega, hi'⟩
                rw [ob_some, he0, fR_ok hs.1.1 hs.1.2.1]
              · rw [List.concat_eq_append] at *
                have hy : (ys ++ [y]).length = ys.length + 1 := by simp
                rw [hy, if_neg (by omega), show ys.length + 1 - 1 = ys.length by omega]
                have ht : (ys ++ [y]).take ys.length = ys := by simp
                rw [ht]
                refine more _ (by omega) ?_
                rw [eN, List.map_append]
                have : ([y] : List Nat).map (fun k => decide (k = 4)) = [decide (y = 4)] := rfl
                rw [this, closes_11 (by rw [map_len]; omega), ob_some]
                rfl
            · rw [if_neg h11]
              refine more _ hA ?_
              rw [eN, closes_no (by omega) h5 h11, ob_some]
              rfl
theorem sameI_l1 (o o2 : InsT) (h : o.2.2.2.2.1 = o2.2.2.2.2.1) (hl : o.2.2.2.2.1.length ≤ 600) : ∀ (k m A5 : Nat) (A4 : Bool), A5 + k = o.2.2.2.2.1.length → k < m →
    ∃ z, sameInstr_l1 m A4 A5 o2.1 o2.2.1 o2.2.2.1 o2.2.2.2.1 o2.2.2.2.2.1 o2.2.2.2.2.2 o.1 o.2.1 o.2.2.1 o.2.2.2.1 o.2.2.2.2.1 o.2.2.2.2.2 = some (LO.ex z)
  | 0, m + 1, A5, A4, hA, hm => by
    rw [sameInstr_l1, if_neg (by omega)]; exact ⟨_, rfl⟩
  | k + 1, m + 1, A5, A4, hA, hm => by
    rw [sameInstr_l1, if_pos (by omega), gd_t (by rw [← h]; omega), if_neg (by rw [h]; exact fun hh => hh rfl), gd_t (by omega)]
    exact sameI_l1 o o2 h hl k m (A5 + 1) A4 (by omega) (by omega)
theorem sameI (o : InsT) (hl : o.2.2.2.2.1.length ≤ 600) : sameInstr_p o o = some true := by
  unfold sameInstr_p
  rw [if_neg (fun h => h rfl), if_neg (fun h => h rfl), if_neg (fun h => h rfl), if_neg (fun h => h rfl), if_neg (fun h => h rfl), if_neg (fun h => h rfl)]
  obtain ⟨z, e⟩ := sameI_l1 o o rfl hl o.2.2.2.2.1.length 90000 0 false (by omega) (by omega)
  rw [e, ob_some, LO.on_ex]
theorem sameB_l1 (l : SLT) (hl : l.length ≤ 601) (hi : ∀ i ∈ l, i.2.2.2.2.1.length ≤ 600) : ∀ (k m A5 : Nat) (A4 : Bool), A5 + k = l.length → k < m → ∃ z, sameBody_l1 l l m A4 A5 = some (LO.ex z)
  | 0, m + 1, A5, A4, hA, hm => by
    rw [sameBody_l1, if_neg (by omega)]; exact ⟨_, rfl⟩
  | k + 1, m + 1, A5, A4, hA, hm => by
    have hin : l.getD A5 default ∈ l := by
      rw [List.getD_eq_getElem?_getD, List.getElem?_eq_getElem (by omega : A5 < l.length)]
      exact List.getElem_mem _
    rw [sameBody_l1, if_pos (by omega), gd_t (by omega)]
    have e : sameInstr_p ((l.getD A5 default).1, (l.getD A5 default).2.1, (l.getD A5 default).2.2.1, (l.getD A5 default).2.2.2.1, (l.getD A5 default).2.2.2.2.1, (l.getD A5 default).2.2.2.2.2) ((l.getD A5 default).1, (l.getD A5 default).2.1, (l.getD A5 default).2.2.1, (l.getD A5 default).2.2.2.1, (l.getD A5 default).2.2.2.2.1, (l.getD A5 default).2.2.2.2.2) = some true := sameI (l.getD A5 default) (hi _ hin)
    rw [e, ob_some, if_neg (by decide), gd_t (by omega)]
    exact sameB_l1 l hl hi k m (A5 + 1) A4 (by omega) (by omega)
theorem sameB (l : SLT) (hl : l.length ≤ 601) (hi : ∀ i ∈ l, i.2.2.2.2.1.length ≤ 600) : sameBody_p l l = some true := by
  unfold sameBody_p
  rw [if_neg (fun h => h rfl)]
  obtain ⟨z, e⟩ := sameB_l1 l hl hi l.length 90000 0 false (by omega) (by omega)
  rw [e, ob_some, LO.on_ex]
theorem take_same (b : List Nat) (hb : b.length ≤ 2000) (h8 : ∀ x ∈ b, x < 256) : ∃ r, take_p b = some r ∧ rBody_p b = some r ∧ sameBody_p r.1 r.1 = some true := by
  have := loops (T := b.length) 90000 (b, 0) [] [] [] [] 0 0 ⟨Nat.le_refl _, hb, h8⟩ rfl (by simp) (by simp) (by simp) (by simp)
  obtain ⟨r, e1, e2, e3, e4⟩ := this
  refine ⟨r, ?_, ?_, sameB r.1 e3 e4⟩
  · rw [take_f, ← e1]
    dsimp only
    rw [Nat.sub_self]; rfl
  · rw [rBody_f]; exact e2
theorem lawtakes_t (b : List Nat) (h8 : ∀ x ∈ b, x < 256) : lawtakes_p b = some true := by
  unfold lawtakes_p
  by_cases h : 400 < b.length
  · rw [if_pos h]
  · obtain ⟨r, e1, e2, e3⟩ := take_same b (by omega) h8
    rw [if_neg h, gd_t (by omega), e1, ob_some, e2, ob_some, if_pos rfl, if_pos rfl, e3, ob_some, if_pos rfl]
end Go.Proofs.Ytpelnanckmjoaaa
end
section
namespace Go.Proofs.Ytpelnanckmjoaaa
open Go Eng
theorem twin_walk {call : CallT} {N : Nat} {h : Hp} {B : Nat} {vb : AV} {l : List Nat} (hB : B ≤ h.next) (hb : Bytes B h vb l) (hlen : l.length ≤ 1099511627776)
    : ∃ rv rh, evF1 (progS Try.prog (compDrawn Try.prog)) (N + 5) call 12 [vb] h = .ok rv rh ∧ (fun (v : AV) (h' : Hp) => TwinAt h' v l ∧ Old B h h' ∧ B ≤ h'.next) rv rh := by
  refine fwalk_ok (o := (.tell 2 (vi l.length) (.tell 0 (vi (l.length + 3)) (.ell 0 (.sl (l.length + 3) (l.length + 3) 1 true) (mkCells (u8s (List.replicate (l.length + 3) 0)) ((l.length + 3) * 1)) (.effx 3 (fun e6 => (vi l.length)) (fun e6 => (.tell 1 (vi l.length) (.tell 5 (AV.bool true) (.tell 2 (elemP (AV.slice h.next 0 (l.length + 3) (l.length + 3) 1 true) l.length 1) (.effx 0 (fun e10 => (AV.tuple [])) (fun e10 => (.tell 1 (vi (l.length + 1)) (.tell 4 (AV.bool true) (.tell 2 (elemP (AV.slice h.next 0 (l.length + 3) (l.length + 3) 1 true) (l.length + 1) 1) (.effx 0 (fun e14 => (AV.tuple [])) (fun e14 => (.tell 1 (vi ((l.length + 1) + 1)) (.tell 4 (AV.bool true) (.tell 2 (elemP (AV.slice h.next 0 (l.length + 3) (l.length + 3) 1 true) ((l.length + 1) + 1) 1) (.effx 0 (fun e18 => (AV.tuple [])) (fun e18 => (.tell 1 (vi (((l.length + 1) + 1) + 1)) (.tell 4 (AV.bool false) (.tell 2 (vi l.length) (.tell 0 (AV.slice h.next 0 l.length (l.length + 3) 1 true) .fin))))))))))))))))))))))))) (p := (evQ (.lenL (.const vb)) .lf H0 = .ok (vi l.length) ∧ (evQ (.bin .add (.const (vi l.length)) (.const (vi 3))) .lf H0 = .ok (vi (l.length + 3)) ∧ (evL (.makeSlice 1 1 [AV.int .u8 (Int.ofNat 0)] (.const (vi (l.length + 3))) (.const (vi (l.length + 3)))) .lf = .ok (.sl (l.length + 3) (l.length + 3) 1 true) (mkCells (u8s (List.replicate (l.length + 3) 0)) ((l.length + 3) * 1)) ∧ (∃ e6 : Ev, evE (.copy 1 (.const (AV.slice h.next 0 (l.length + 3) (l.length + 3) 1 true)) (.const vb)) call .lf (hpush h (mkCells (u8s (List.replicate (l.length + 3) 0)) ((l.length + 3) * 1))) = .ok (vi l.length) e6.h ∧ (evQ (.lenL (.const vb)) .lf H0 = .ok (vi l.length) ∧ (evQ (.bin .lss (.const (vi l.length)) (.const (vi (l.length + 3)))) .lf H0 = .ok (AV.bool true) ∧ (evQ (.idxAddrSl 1 (.const (AV.slice h.next 0 (l.length + 3) (l.length + 3) 1 true)) (.const (vi l.length))) .lf H0 = .ok (elemP (AV.slice h.next 0 (l.length + 3) (l.length + 3) 1 true) l.length 1) ∧ (∃ e10 : Ev, evE (.store 1 (.const (elemP (AV.slice h.next 0 (l.length + 3) (l.length + 3) 1 true) l.length 1)) (.const (vb8 229))) call .lf e6.h = .ok (AV.tuple []) e10.h ∧ (evQ (.bin .add (.const (vi l.length)) (.const (vi 1))) .lf H0 = .ok (vi (l.length + 1)) ∧ (evQ (.bin .lss (.const (vi (l.length + 1))) (.const (vi (l.length + 3)))) .lf H0 = .ok (AV.bool true) ∧ (evQ (.idxAddrSl 1 (.const (AV.slice h.next 0 (l.length + 3) (l.length + 3) 1 true)) (.const (vi (l.length + 1)))) .lf H0 = .ok (elemP (AV.slice h.next 0 (l.length + 3) (l.length + 3) 1 true) (l.length + 1) 1) ∧ (∃ e14 : Ev, evE (.store 1 (.const (elemP (AV.slice h.next 0 (l.length + 3) (l.length + 3) 1 true) (l.length + 1) 1)) (.const (vb8 229))) call .lf e10.h = .ok (AV.tuple []) e14.h ∧ (evQ (.bin .add (.const (vi (l.length + 1))) (.const (vi 1))) .lf H0 = .ok (vi ((l.length + 1) + 1)) ∧ (evQ (.bin .lss (.const (vi ((l.length + 1) + 1))) (.const (vi (l.length + 3)))) .lf H0 = .ok (AV.bool true) ∧ (evQ (.idxAddrSl 1 (.const (AV.slice h.next 0 (l.length + 3) (l.length + 3) 1 true)) (.const (vi ((l.length + 1) + 1)))) .lf H0 = .ok (elemP (AV.slice h.next 0 (l.length + 3) (l.length + 3) 1 true) ((l.length + 1) + 1) 1) ∧ (∃ e18 : Ev, evE (.store 1 (.const (elemP (AV.slice h.next 0 (l.length + 3) (l.length + 3) 1 true) ((l.length + 1) + 1) 1)) (.const (vb8 229))) call .lf e14.h = .ok (AV.tuple []) e18.h ∧ (evQ (.bin .add (.const (vi ((l.length + 1) + 1))) (.const (vi 1))) .lf H0 = .ok (vi (((l.length + 1) + 1) + 1)) ∧ (evQ (.bin .lss (.const (vi (((l.length + 1) + 1) + 1))) (.const (vi (l.length + 3)))) .lf H0 = .ok (AV.bool false) ∧ (evQ (.lenL (.const vb)) .lf H0 = .ok (vi l.length) ∧ (evQ (.sliceSl 1 (.const (AV.slice h.next 0 (l.length + 3) (l.length + 3) 1 true)) none (some (.const (vi l.length))) none) .lf H0 = .ok (AV.slice h.next 0 l.length (l.length + 3) 1 true) ∧ (fun (v : AV) (h' : Hp) => TwinAt h' v l ∧ Old B h h' ∧ B ≤ h'.next) (AV.slice h.next 0 l.length (l.length + 3) 1 true) e18.h))))))))))))))))))))) (by kernel_rfl) ?_
  refine ⟨q_len hb, ?_⟩
  refine ⟨q_add (by omega), ?_⟩
  refine ⟨make_bytes (by omega), ?_⟩
  have f1 := (own_lit (sz := 1) (B := h.next) (n := l.length + 3) (h := h) (xs := u8s (List.replicate (l.length + 3) 0)) (Nat.le_refl _) (by rw [u8s_len1, List.length_replicate]))
  have f2 := (hb.old (Old.push hB (mkCells (u8s (List.replicate (l.length + 3) 0)) ((l.length + 3) * 1))))
  have l3 : h.next ≤ (hpush h (mkCells (u8s (List.replicate (l.length + 3) 0)) ((l.length + 3) * 1))).next := (Nat.le_succ_of_le (Nat.le_refl _))
  have l4 : B ≤ (hpush h (mkCells (u8s (List.replicate (l.length + 3) 0)) ((l.length + 3) * 1))).next := (Nat.le_succ_of_le hB)
  have d5 := ((Old.refl B h).trans (Old.push hB (mkCells (u8s (List.replicate (l.length + 3) 0)) ((l.length + 3) * 1))))
  obtain ⟨e6, qe6, oe6, pe6, ne6⟩ := copy_ev (B := h.next) (n := l.length + 3) (D := List.replicate (l.length + 3) 0) (l := l) call l3 f1 (fun z k => src_bytes f2 z k) (by omega)
  refine ⟨e6, qe6, ?_⟩
  have f7 := (f2.old (pe6.le hB))
  have l8 : B ≤ e6.h.next := (Nat.le_trans l4 pe6.next)
  have d9 := (d5.trans (pe6.le hB))
  refine ⟨q_len f7, ?_⟩
  refine ⟨congrArg (fun z => OV.ok (AV.bool z)) (ltI_true (a := l.length) (b := l.length + 3) (by omega)), ?_⟩
  refine ⟨q_idxO oe6 (by omega), ?_⟩
  obtain ⟨e10, qe10, oe10, pe10, ne10⟩ := store_ev (B := h.next) (n := l.length + 3) (L := u8s (l ++ (List.replicate (l.length + 3) 0).drop l.length)) (k := l.length) (x := (vb8 229)) call ne6 oe6 (by omega) rfl
  rw [u8s_set] at oe10
  refine ⟨e10, qe10, ?_⟩
  have f11 := (f7.old (pe10.le hB))
  have l12 : B ≤ e10.h.next := (Nat.le_trans l8 pe10.next)
  have d13 := (d9.trans (pe10.le hB))
  refine ⟨q_add (by omega), ?_⟩
  refine ⟨congrArg (fun z => OV.ok (AV.bool z)) (ltI_true (a := l.length + 1) (b := l.length + 3) (by omega)), ?_⟩
  refine ⟨q_idxO oe10 (by omega), ?_⟩
  obtain ⟨e14, qe14, oe14, pe14, ne14⟩ := store_ev (B := h.next) (n := l.length + 3) (L := u8s ((l ++ (List.replicate (l.length + 3) 0).drop l.length).set l.length 229)) (k := l.length + 1) (x := (vb8 229)) call ne10 oe10 (by omega) rfl
  rw [u8s_set] at oe14
  refine ⟨e14, qe14, ?_⟩
  have f15 := (f11.old (pe14.le hB))
  have l16 : B ≤ e14.h.next := (Nat.le_trans l12 pe14.next)
  have d17 := (d13.trans (pe14.le hB))
  refine ⟨q_add (by omega), ?_⟩
  refine ⟨congrArg (fun z => OV.ok (AV.bool z)) (ltI_true (a := (l.length + 1) + 1) (b := l.length + 3) (by omega)), ?_⟩
  refine ⟨q_idxO oe14 (by omega), ?_⟩
  obtain ⟨e18, qe18, oe18, pe18, ne18⟩ := store_ev (B := h.next) (n := l.length + 3) (L := u8s (((l ++ (List.replicate (l.length + 3) 0).drop l.length).set l.length 229).set (l.length + 1) 229)) (k := (l.length + 1) + 1) (x := (vb8 229)) call ne14 oe14 (by omega) rfl
  rw [u8s_set] at oe18
  refine ⟨e18, qe18, ?_⟩
  have f19 := (f15.old (pe18.le hB))
  have l20 : B ≤ e18.h.next := (Nat.le_trans l16 pe18.next)
  have d21 := (d17.trans (pe18.le hB))
  refine ⟨q_add (by omega), ?_⟩
  refine ⟨congrArg (fun z => OV.ok (AV.bool z)) (ltI_false (a := ((l.length + 1) + 1) + 1) (b := l.length + 3) (by omega)), ?_⟩
  refine ⟨q_len f19, ?_⟩
  refine ⟨q_sliceOwn (by omega), ?_⟩
  have ht := oe18
  have hx : (((l ++ (List.replicate (l.length + 3) 0).drop l.length).set l.length 229).set (l.length + 1) 229).set ((l.length + 1) + 1) 229 = l ++ [229, 229, 229] := twin_text l
  rw [hx] at ht
  exact ⟨twin_of ht hb.lt, d21, l20⟩
theorem kept_walk {call : CallT} {N : Nat} {h : Hp} {B : Nat} {vb : AV} {l : List Nat} {b : Nat} (ht : TwinAt h (AV.slice b 0 l.length (l.length + 3) 1 true) l) (hy : Bytes h.next h (AV.slice b 0 (l.length + 3) (l.length + 3) 1 true) (l ++ [229, 229, 229])) (hb : Bytes B h vb l) (hB : B ≤ h.next) (hlen : l.length ≤ 1099511627776)
    : ∃ rv rh, evF1 (progS Try.prog (compDrawn Try.prog)) (N + 5) call 16 [(AV.slice b 0 l.length (l.length + 3) 1 true), vb] h = .ok rv rh ∧ (fun (v : AV) (h' : Hp) => h' = h ∧ v = .bool true) rv rh := by
  refine fwalk_ok (o := (.tell 4 (AV.slice b 0 (l.length + 3) (l.length + 3) 1 true) (.tell 2 (AV.str l) (.tell 1 (AV.str l) (.tell 0 (AV.bool false) (.tell 4 (vi l.length) (.tell 0 (vi (l.length + 3)) (.tell 0 (AV.bool false) (.tell 2 (vi l.length) (.tell 4 (vi l.length) (.tell 0 (vi (l.length + 3)) (.tell 0 (AV.bool true) (.tell 2 (elemP (AV.slice b 0 (l.length + 3) (l.length + 3) 1 true) l.length 1) (.tell 0 (vb8 229) (.tell 2 (vi (l.length + 1)) (.tell 3 (vi l.length) (.tell 0 (vi (l.length + 3)) (.tell 0 (AV.bool true) (.tell 2 (elemP (AV.slice b 0 (l.length + 3) (l.length + 3) 1 true) (l.length + 1) 1) (.tell 0 (vb8 229) (.tell 2 (vi ((l.length + 1) + 1)) (.tell 3 (vi l.length) (.tell 0 (vi (l.length + 3)) (.tell 0 (AV.bool true) (.tell 2 (elemP (AV.slice b 0 (l.length + 3) (l.length + 3) 1 true) ((l.length + 1) + 1) 1) (.tell 0 (vb8 229) (.tell 2 (vi (((l.length + 1) + 1) + 1)) (.tell 3 (vi l.length) (.tell 0 (vi (l.length + 3)) (.tell 0 (AV.bool false) .fin)))))))))))))))))))))))))))))) (p := (evQ (.sliceSl 1 (.const (AV.slice b 0 l.length (l.length + 3) 1 true)) none (some (.const (vi (l.length + 3)))) none) .lf H0 = .ok (AV.slice b 0 (l.length + 3) (l.length + 3) 1 true) ∧ (evQ (.toStr (.const (AV.slice b 0 l.length (l.length + 3) 1 true))) .lf h = .ok (AV.str l) ∧ (evQ (.toStr (.const vb)) .lf h = .ok (AV.str l) ∧ (evQ (.eq .str true (.const (AV.str l)) (.const (AV.str l))) .lf H0 = .ok (AV.bool false) ∧ (evQ (.lenL (.const vb)) .lf H0 = .ok (vi l.length) ∧ (evQ (.bin .add (.const (vi l.length)) (.const (vi 3))) .lf H0 = .ok (vi (l.length + 3)) ∧ (evQ (.bin .lss (.const (vi (l.length + 3))) (.const (vi (l.length + 3)))) .lf H0 = .ok (AV.bool false) ∧ (evQ (.lenL (.const vb)) .lf H0 = .ok (vi l.length) ∧ (evQ (.lenL (.const vb)) .lf H0 = .ok (vi l.length) ∧ (evQ (.bin .add (.const (vi l.length)) (.const (vi 3))) .lf H0 = .ok (vi (l.length + 3)) ∧ (evQ (.bin .lss (.const (vi l.length)) (.const (vi (l.length + 3)))) .lf H0 = .ok (AV.bool true) ∧ (evQ (.idxAddrSl 1 (.const (AV.slice b 0 (l.length + 3) (l.length + 3) 1 true)) (.const (vi l.length))) .lf H0 = .ok (elemP (AV.slice b 0 (l.length + 3) (l.length + 3) 1 true) l.length 1) ∧ (evQ (.loadS (.const (elemP (AV.slice b 0 (l.length + 3) (l.length + 3) 1 true) l.length 1))) .lf h = .ok (vb8 229) ∧ (evQ (.bin .add (.const (vi l.length)) (.const (vi 1))) .lf H0 = .ok (vi (l.length + 1)) ∧ (evQ (.lenL (.const vb)) .lf H0 = .ok (vi l.length) ∧ (evQ (.bin .add (.const (vi l.length)) (.const (vi 3))) .lf H0 = .ok (vi (l.length + 3)) ∧ (evQ (.bin .lss (.const (vi (l.length + 1))) (.const (vi (l.length + 3)))) .lf H0 = .ok (AV.bool true) ∧ (evQ (.idxAddrSl 1 (.const (AV.slice b 0 (l.length + 3) (l.length + 3) 1 true)) (.const (vi (l.length + 1)))) .lf H0 = .ok (elemP (AV.slice b 0 (l.length + 3) (l.length + 3) 1 true) (l.length + 1) 1) ∧ (evQ (.loadS (.const (elemP (AV.slice b 0 (l.length + 3) (l.length + 3) 1 true) (l.length + 1) 1))) .lf h = .ok (vb8 229) ∧ (evQ (.bin .add (.const (vi (l.length + 1))) (.const (vi 1))) .lf H0 = .ok (vi ((l.length + 1) + 1)) ∧ (evQ (.lenL (.const vb)) .lf H0 = .ok (vi l.length) ∧ (evQ (.bin .add (.const (vi l.length)) (.const (vi 3))) .lf H0 = .ok (vi (l.length + 3)) ∧ (evQ (.bin .lss (.const (vi ((l.length + 1) + 1))) (.const (vi (l.length + 3)))) .lf H0 = .ok (AV.bool true) ∧ (evQ (.idxAddrSl 1 (.const (AV.slice b 0 (l.length + 3) (l.length + 3) 1 true)) (.const (vi ((l.length + 1) + 1)))) .lf H0 = .ok (elemP (AV.slice b 0 (l.length + 3) (l.length + 3) 1 true) ((l.length + 1) + 1) 1) ∧ (evQ (.loadS (.const (elemP (AV.slice b 0 (l.length + 3) (l.length + 3) 1 true) ((l.length + 1) + 1) 1))) .lf h = .ok (vb8 229) ∧ (evQ (.bin .add (.const (vi ((l.length + 1) + 1))) (.const (vi 1))) .lf H0 = .ok (vi (((l.length + 1) + 1) + 1)) ∧ (evQ (.lenL (.const vb)) .lf H0 = .ok (vi l.length) ∧ (evQ (.bin .add (.const (vi l.length)) (.const (vi 3))) .lf H0 = .ok (vi (l.length + 3)) ∧ (evQ (.bin .lss (.const (vi (((l.length + 1) + 1) + 1))) (.const (vi (l.length + 3)))) .lf H0 = .ok (AV.bool false) ∧ (fun (v : AV) (h' : Hp) => h' = h ∧ v = .bool true) (AV.bool true) h)))))))))))))))))))))))))))))) (by kernel_rfl) ?_
  refine ⟨q_sliceOwn (by omega), ?_⟩
  refine ⟨q_toStr ht.bytes, ?_⟩
  refine ⟨q_toStr hb, ?_⟩
  refine ⟨eqStr_sameN _, ?_⟩
  refine ⟨q_len hb, ?_⟩
  refine ⟨q_add (by omega), ?_⟩
  refine ⟨congrArg (fun z => OV.ok (AV.bool z)) (ltI_false (a := l.length + 3) (b := l.length + 3) (by omega)), ?_⟩
  refine ⟨q_len hb, ?_⟩
  refine ⟨q_len hb, ?_⟩
  refine ⟨q_add (by omega), ?_⟩
  refine ⟨congrArg (fun z => OV.ok (AV.bool z)) (ltI_true (a := l.length) (b := l.length + 3) (by omega)), ?_⟩
  refine ⟨q_idxB hy (by first | (simp; done) | (simp; omega)), ?_⟩
  refine ⟨(q_byte hy (by first | (simp; done) | (simp; omega))).trans (by rw [show l.length = l.length + 0 by omega, spare_at l (by decide)]), ?_⟩
  refine ⟨q_add (by omega), ?_⟩
  refine ⟨q_len hb, ?_⟩
  refine ⟨q_add (by omega), ?_⟩
  refine ⟨congrArg (fun z => OV.ok (AV.bool z)) (ltI_true (a := l.length + 1) (b := l.length + 3) (by omega)), ?_⟩
  refine ⟨q_idxB hy (by first | (simp; done) | (simp; omega)), ?_⟩
  refine ⟨(q_byte hy (by first | (simp; done) | (simp; omega))).trans (by rw [show l.length + 1 = l.length + 1 by omega, spare_at l (by decide)]), ?_⟩
  refine ⟨q_add (by omega), ?_⟩
  refine ⟨q_len hb, ?_⟩
  refine ⟨q_add (by omega), ?_⟩
  refine ⟨congrArg (fun z => OV.ok (AV.bool z)) (ltI_true (a := (l.length + 1) + 1) (b := l.length + 3) (by omega)), ?_⟩
  refine ⟨q_idxB hy (by first | (simp; done) | (simp; omega)), ?_⟩
  refine ⟨(q_byte hy (by first | (simp; done) | (simp; omega))).trans (by rw [show (l.length + 1) + 1 = l.length + 2 by omega, spare_at l (by decide)]), ?_⟩
  refine ⟨q_add (by omega), ?_⟩
  refine ⟨q_len hb, ?_⟩
  refine ⟨q_add (by omega), ?_⟩
  refine ⟨congrArg (fun z => OV.ok (AV.bool z)) (ltI_false (a := ((l.length + 1) + 1) + 1) (b := l.length + 3) (by omega)), ?_⟩
  exact ⟨rfl, rfl⟩
theorem s_twin (d : Nat) : TwinS (CC (d + 1)) 12 := fun {B h vb l} hB hb hl => by
  rw [CC, evF_at (sumT_none rfl)]
  exact twin_walk (call := CC d) (N := 99995) hB hb hl
theorem s_kept (d : Nat) : KeptS (CC (d + 1)) 16 := fun {h vb vt l} ht hb hl => by
  rw [CC, evF_at (sumT_none rfl)]
  have ht' := ht
  obtain ⟨b, w, rfl, hb', hg, hlt⟩ := ht'
  have hy : Bytes h.next h (.slice b 0 (l.length + 3) (l.length + 3) 1 true) (l ++ [229, 229, 229]) := by
    have e : l.length + 3 = (l ++ [229, 229, 229]).length := by simp
    rw [e] at hg ⊢
    exact .sl hb' hg (by rw [u8s_length]) (by rw [List.drop_zero, List.take_of_length_le (by rw [u8s_length]; exact Nat.le_refl _)]) (by omega) (Nat.le_refl _) (put_lt hlt (by decide))
  obtain ⟨v, h', e, rfl, rfl⟩ := kept_walk (call := CC d) (N := 99995) ht hy hb (Nat.le_refl _) hl
  exact e
end Go.Proofs.Ytpelnanckmjoaaa
end
