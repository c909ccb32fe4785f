/- The engine, part 28: words for walks: frames, loops, numbers, bytes. -/
import Derived.Test.YtejiebbbodealaaEngS27
set_option linter.unusedVariables false
set_option linter.unusedSimpArgs false
namespace Eng
open Go Go.RowKit
noncomputable def ovT (l : List (Nat × AV)) (t : T) : T := lrec t (fun p _ ih => tset (pathOf p.1) p.2 ih) l
noncomputable def slots (L : List Nat) (t : T) : List (Option AV) := lmap (fun i => tget (pathOf i) t) L
def Has (l : List (Nat × AV)) (t : T) : Prop := slots (l.map (·.1)) t = l.map fun p => some p.2
theorem tset_same {α : Type} : ∀ {p : Pth} {v : α} {t : Tr α}, tget p t = some v → tset p v t = t
  | .e, v, t, h => by
    cases t with
    | lf => cases h
    | nd a l r =>
      have h : a = some v := h
      subst h; rfl
  | .l p, v, t, h => by
    cases t with
    | lf =>
      have h : tget p (.lf : Tr α) = some v := h
      rw [tget_lf] at h; cases h
    | nd a l r =>
      show Tr.nd a (tset p v l) r = _
      rw [tset_same (show tget p l = some v from h)]
  | .r p, v, t, h => by
    cases t with
    | lf =>
      have h : tget p (.lf : Tr α) = some v := h
      rw [tget_lf] at h; cases h
    | nd a l r =>
      show Tr.nd a l (tset p v r) = _
      rw [tset_same (show tget p r = some v from h)]
theorem ovT_eq : ∀ {l : List (Nat × AV)} {t : T}, Has l t → ovT l t = t
  | [], t, _ => rfl
  | p :: l, t, h => by
    obtain ⟨h1, h2⟩ := List.cons.inj (show tget (pathOf p.1) t :: slots (l.map (·.1)) t = some p.2 :: l.map (fun p => some p.2) from h)
    show tset (pathOf p.1) p.2 (ovT l t) = t
    rw [ovT_eq (show Has l t from h2)]
    exact tset_same h1
noncomputable def obsS (L : List Nat) (Kn : List (Option AV) → Hp → Prop) (Ke : Nat → List (Option AV) → Hp → Prop) (Kr : List (Option AV) → Hp → Prop) (s : RS) : Prop :=
  s.cs False (fun t h => Kn (slots L t) h) (fun i t h => Ke i (slots L t) h) (fun t h => Kr (slots L t) h)
theorem CallOk.none (call : CallT) : CallOk call (fun _ _ _ _ _ _ => False) := fun _ _ _ _ _ _ h => h.elim
theorem walk_ok {call : CallT} {N : Nat} {c : AC} {t : T} {h : Hp} {o : Orc} {L : List Nat} {Kn : List (Option AV) → Hp → Prop} {Ke : Nat → List (Option AV) → Hp → Prop} {Kr : List (Option AV) → Hp → Prop} {p : Prop}
    (e : cW call (fun _ _ _ _ _ _ => False) N c t h o.n o (fun s _ _ => obsS L Kn Ke Kr s) = p) (hp : p) : ∃ s, evC call N c t h = s ∧ obsS L Kn Ke Kr s := by
  rw [← e] at hp
  obtain ⟨s, _, _, h1, _, h3⟩ := cW_ok (CallOk.none call) c t h _ _ _ hp
  exact ⟨s, h1, h3⟩
theorem fwalk_ok {call : CallT} {S : Nat → Option AF} {N : Nat} {f : Nat} {args : List AV} {h : Hp} {o : Orc} {K : AV → Hp → Prop} {p : Prop}
    (e : f1W S N call (fun _ _ _ _ _ _ => False) f args h o.n o (fun v h _ _ => K v h) = p) (hp : p) : ∃ v h', evF1 S N call f args h = .ok v h' ∧ K v h' := by
  rw [← e] at hp
  obtain ⟨v, h', _, _, h1, h3⟩ := f1W_ok (CallOk.none call) f args h _ _ _ hp
  exact ⟨v, h', h1, h3⟩
theorem loop_ok {call : CallT} {N : Nat} {body : AC} (L : List Nat) (Inv : Nat → List (Option AV) → Hp → Prop) (Ke : Nat → List (Option AV) → Hp → Prop) (Kr : List (Option AV) → Hp → Prop)
    (step : ∀ n t h, Inv n (slots L t) h → ∃ s, evC call N body t h = s ∧ obsS L (fun l h' => ∃ m, m < n ∧ Inv m l h') Ke Kr s) (n : Nat) (hn : n < N) (t : T) (h : Hp) (h0 : Inv n (slots L t) h) :
    ∃ s, evC call N (.loop body) t h = s ∧ obsS L (fun _ _ => False) Ke Kr s := by
  show ∃ s, rounds (fun _ _ => RS.no) (fun again t h => (evC call N body t h).then again) N t h = s ∧ obsS L (fun _ _ => False) Ke Kr s
  have key : ∀ (j n : Nat), n < j → ∀ t h, Inv n (slots L t) h → ∃ s, rounds (fun _ _ => RS.no) (fun again t h => (evC call N body t h).then again) j t h = s ∧ obsS L (fun _ _ => False) Ke Kr s := by
    intro j
    induction j with
    | zero => exact fun n hn => absurd hn (Nat.not_lt_zero _)
    | succ j ih =>
      intro n hn t h hi
      obtain ⟨s, e, hs⟩ := step n t h hi
      show ∃ s, (evC call N body t h).then (rounds (fun _ _ => RS.no) (fun again t h => (evC call N body t h).then again) j) = s ∧ _
      rw [e]
      cases s with
      | no => exact hs.elim
      | nor t' h' =>
        obtain ⟨m, hm, hi'⟩ := (show ∃ m, m < n ∧ Inv m (slots L t') h' from hs)
        exact ih m (by omega) t' h' hi'
      | exit i t' h' => exact ⟨_, rfl, hs⟩
      | ret t' h' => exact ⟨_, rfl, hs⟩
  exact key N n hn t h h0
theorem ltI_t {a b : Nat} (h : ltI (.ofNat a) (.ofNat b) = true) : a < b := by rw [ltI_eq] at h; simpa using h
theorem ltI_f {a b : Nat} (h : ltI (.ofNat a) (.ofNat b) = false) : b ≤ a := by rw [ltI_eq] at h; simpa using h
theorem eqI_t {a b : Nat} (h : eqI (.ofNat a) (.ofNat b) = true) : a = b := by rw [eqI_eq] at h; have h := eq_of_beq h; exact Int.ofNat.inj h
theorem eqI_f {a b : Nat} (h : eqI (.ofNat a) (.ofNat b) = false) : a ≠ b := fun e => by subst e; rw [eqI_eq] at h; simp at h
theorem notB_t {b : Bool} (h : notB b = true) : b = false := by cases b <;> first | rfl | cases h
theorem notB_f {b : Bool} (h : notB b = false) : b = true := by cases b <;> first | rfl | cases h
theorem wrap_i64 {n : Nat} (h : n < 9223372036854775808) : wrapA .i64 (.ofNat n) = .ofNat n := by
  show bc (Nat.blt n 9223372036854775808) (Int.ofNat n) _ = _
  rw [blt_dec, decide_eq_true h]; rfl
theorem wrapU_nat (m n : Nat) : wrapU m (.ofNat n) = .ofNat (n % m) := by
  show bc (Nat.blt n m) (Int.ofNat n) (.ofNat (Nat.mod n m)) = _
  rw [bc_blt]
  split
  · rw [Nat.mod_eq_of_lt ‹_›]
  · rfl
def uns (k : IntKind) : Bool := match k with | .u8 | .u16 | .u32 | .u64 => true | _ => false
theorem wrap_u {k : IntKind} (hk : uns k = true) (n : Nat) : wrapA k (.ofNat n) = .ofNat (n % modK k) := by
  cases k <;> first | exact wrapU_nat _ _ | cases hk
theorem toU_nat (k : IntKind) (n : Nat) : toU k (.ofNat n) = n % modK k := rfl
theorem ikEq_self (k : IntKind) : ikEq k k = true := by cases k <;> rfl
theorem q_bin {k : IntKind} {op : BinOp} {x y : Int} : evQ (.bin op (.const (.int k x)) (.const (.int k y))) .lf H0 = binIK op k k x y := rfl
theorem q_add {a b : Nat} (h : a + b < 9223372036854775808) : evQ (.bin .add (.const (.int .i64 (.ofNat a))) (.const (.int .i64 (.ofNat b)))) .lf H0 = .ok (.int .i64 (.ofNat (a + b))) := by
  show OV.ok (.int .i64 (wrapA .i64 (.ofNat (a + b)))) = _
  rw [wrap_i64 h]
theorem q_mul {a b : Nat} (h : a * b < 9223372036854775808) : evQ (.bin .mul (.const (.int .i64 (.ofNat a))) (.const (.int .i64 (.ofNat b)))) .lf H0 = .ok (.int .i64 (.ofNat (a * b))) := by
  show OV.ok (.int .i64 (wrapA .i64 (.ofNat (a * b)))) = _
  rw [wrap_i64 h]
theorem sub_nat {a b : Nat} (h : b ≤ a) : Int.sub (.ofNat a) (.ofNat b) = .ofNat (a - b) := by
  show (Int.ofNat a - Int.ofNat b : Int) = _
  simp only [Int.ofNat_eq_natCast]; omega
theorem q_sub {a b : Nat} (h : b ≤ a) (ha : a < 9223372036854775808) : evQ (.bin .sub (.const (.int .i64 (.ofNat a))) (.const (.int .i64 (.ofNat b)))) .lf H0 = .ok (.int .i64 (.ofNat (a - b))) := by
  show OV.ok (.int .i64 (wrapA .i64 (Int.sub (.ofNat a) (.ofNat b)))) = _
  rw [sub_nat h, wrap_i64 (by omega)]
theorem q_rem {k : IntKind} {a b : Nat} (h : b ≠ 0) : evQ (.bin .rem (.const (.int k (.ofNat a))) (.const (.int k (.ofNat b)))) .lf H0 = .ok (.int k (.ofNat (a % b))) := by
  show bc (ikEq k k) (bc (eqI (.ofNat b) 0) OV.no (.ok (.int k (modA (.ofNat a) (.ofNat b))))) .no = _
  have h5 : eqI (.ofNat b) 0 = false := by rw [eqI_eq]; simp; omega
  rw [ikEq_self, h5]; rfl
theorem q_quo {k : IntKind} (hk : uns k = true) {a b : Nat} (h : b ≠ 0) (ha : a < modK k) : evQ (.bin .quo (.const (.int k (.ofNat a))) (.const (.int k (.ofNat b)))) .lf H0 = .ok (.int k (.ofNat (a / b))) := by
  show bc (ikEq k k) (bc (eqI (.ofNat b) 0) OV.no (okI k (divA (.ofNat a) (.ofNat b)))) .no = _
  have h5 : eqI (.ofNat b) 0 = false := by rw [eqI_eq]; simp; omega
  rw [ikEq_self, h5]
  show okI k (.ofNat (a / b)) = _
  unfold okI
  rw [wrap_u hk, Nat.mod_eq_of_lt (Nat.lt_of_le_of_lt (Nat.div_le_self _ _) ha)]
theorem u_add {k : IntKind} (hk : uns k = true) {a b : Nat} : evQ (.bin .add (.const (.int k (.ofNat a))) (.const (.int k (.ofNat b)))) .lf H0 = .ok (.int k (.ofNat ((a + b) % modK k))) := by
  show bc (ikEq k k) (okI k (.ofNat (a + b))) .no = _
  rw [ikEq_self]; show OV.ok (.int k (wrapA k (.ofNat (a + b)))) = _
  rw [wrap_u hk]
theorem modK_pos (k : IntKind) : 0 < modK k := by cases k <;> exact Nat.zero_lt_succ _
theorem u_and {k : IntKind} (hk : uns k = true) {a b : Nat} (ha : a < modK k) (hb : b < modK k) : evQ (.bin .and (.const (.int k (.ofNat a))) (.const (.int k (.ofNat b)))) .lf H0 = .ok (.int k (.ofNat (a &&& b))) := by
  show bc (ikEq k k) (okI k (.ofNat (Nat.land (a % modK k) (b % modK k)))) .no = _
  rw [ikEq_self, Nat.mod_eq_of_lt ha, Nat.mod_eq_of_lt hb]; show OV.ok (.int k (wrapA k (.ofNat (a &&& b)))) = _
  rw [wrap_u hk, Nat.mod_eq_of_lt (Nat.lt_of_le_of_lt Nat.and_le_left ha)]
theorem u_or {k : IntKind} (hk : uns k = true) {a b : Nat} (ha : a < modK k) (hb : b < modK k) : evQ (.bin .or (.const (.int k (.ofNat a))) (.const (.int k (.ofNat b)))) .lf H0 = .ok (.int k (.ofNat (a ||| b))) := by
  show bc (ikEq k k) (okI k (.ofNat (Nat.lor (a % modK k) (b % modK k)))) .no = _
  rw [ikEq_self, Nat.mod_eq_of_lt ha, Nat.mod_eq_of_lt hb]; show OV.ok (.int k (wrapA k (.ofNat (a ||| b)))) = _
  have hp : modK k = 2 ^ k.bits := modK_eq k
  rw [wrap_u hk, Nat.mod_eq_of_lt (by rw [hp] at ha hb ⊢; exact Nat.or_lt_two_pow ha hb)]
theorem u_shl {k : IntKind} (hk : uns k = true) {j : IntKind} {a n : Nat} : evQ (.bin .shl (.const (.int k (.ofNat a))) (.const (.int j (.ofNat n)))) .lf H0 = .ok (.int k (.ofNat (a * 2 ^ n % modK k))) := by
  show OV.ok (.int k (wrapA k (.ofNat (a * 2 ^ cut n (bitsK k))))) = _
  rw [wrap_u hk, cut_eq, bitsK_eq, modK_eq]
  rcases Nat.le_total n k.bits with hn | hn
  · rw [Nat.min_eq_left hn]
  · rw [Nat.min_eq_right hn]
    have : a * 2 ^ n % 2 ^ k.bits = 0 := by
      rw [show n = k.bits + (n - k.bits) by omega, Nat.pow_add, ← Nat.mul_assoc, Nat.mul_right_comm]
      exact Nat.mul_mod_left _ _
    rw [this, Nat.mul_mod_left]
theorem u_shr {k : IntKind} (hk : uns k = true) {j : IntKind} {a n : Nat} (ha : a < modK k) : evQ (.bin .shr (.const (.int k (.ofNat a))) (.const (.int j (.ofNat n)))) .lf H0 = .ok (.int k (.ofNat (a / 2 ^ n))) := by
  show OV.ok (.int k (.ofNat (a / 2 ^ cut n (bitsK k)))) = _
  rw [cut_eq, bitsK_eq]
  rw [modK_eq] at ha
  rcases Nat.le_total n k.bits with hn | hn
  · rw [Nat.min_eq_left hn]
  · rw [Nat.min_eq_right hn, Nat.div_eq_of_lt ha, Nat.div_eq_of_lt (Nat.lt_of_lt_of_le ha (Nat.pow_le_pow_right (by decide) hn))]
theorem u_conv {k : IntKind} (hk : uns k = true) {j : IntKind} {a : Nat} : evQ (.toInt k (.const (.int j (.ofNat a)))) .lf H0 = .ok (.int k (.ofNat (a % modK k))) := by
  show OV.ok (.int k (wrapA k (.ofNat a))) = _
  rw [wrap_u hk]
theorem u_conv' {k : IntKind} (hk : uns k = true) {j : IntKind} {a : Nat} (ha : a < modK k) : evQ (.toInt k (.const (.int j (.ofNat a)))) .lf H0 = .ok (.int k (.ofNat a)) := by
  rw [u_conv hk, Nat.mod_eq_of_lt ha]
theorem i_conv {j : IntKind} {a : Nat} (ha : a < 9223372036854775808) : evQ (.toInt .i64 (.const (.int j (.ofNat a)))) .lf H0 = .ok (.int .i64 (.ofNat a)) := by
  show OV.ok (.int .i64 (wrapA .i64 (.ofNat a))) = _
  rw [wrap_i64 ha]
noncomputable def elemP (v : AV) (k sz : Nat) : AV := v.asSlice .nilPtr .nilPtr fun b o _ _ _ _ => .ptr b (o + k * sz)
noncomputable def partS (v : AV) (lo hi : Nat) : AV := v.asSlice v v fun b o _ c s e => .slice b (o + lo * s) (hi - lo) (c - lo) s e
theorem q_idx {b o n c sz k : Nat} {ex : Bool} (h : k < n) : evQ (.idxAddrSl sz (.const (.slice b o n c sz ex)) (.const (.int .i64 (.ofNat k)))) .lf H0 = .ok (.ptr b (o + k * sz)) := by
  show bc (Nat.beq sz sz) (bc (Nat.blt k n) (OV.ok (.ptr b (o + k * sz))) .no) .no = _
  rw [Nat.beq_refl, blt_dec, decide_eq_true h]; rfl
theorem q_load {h : Hp} {b o : Nat} {cs : List AV} {m : Nat} {w : Own} (hg : hget h b = some (.cells cs m w)) {v : AV} (hv : cs[o]? = some v) : evQ (.loadS (.const (.ptr b o))) .lf h = .ok v := by
  show hcells h b OV.no (fun cs _ _ => ocase .no .ok (nth? cs o)) = _
  unfold hcells
  rw [hg]
  show ocase OV.no .ok (nth? cs o) = _
  rw [nth_eq, hv]; rfl
theorem u8s_eq (l : List Nat) : u8s l = l.map fun n => AV.int .u8 (.ofNat n) := lmap_eq _ _
end Eng
