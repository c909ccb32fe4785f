/- The engine's soundness, part 7: the rest of the quiet operations. -/
import Derived.Test.YtejiebbbodealaaEngS6
set_option linter.unusedVariables false
set_option linter.unusedSimpArgs false
namespace Eng
open Go Go.RowKit
section
variable {P : Program} {μ : Mp} {h : Hp} {w : World} {t : T} {ρ : Operand → Value} {ty : TypeId}
theorem bound_ok {β : Type} {a : AV} {x : Value} {m : Nat} {z r : β} {k : Nat → β} (rx : VR μ a x) (e : bound a m z k = r) (hz : z ≠ r) :
    ∃ n, n ≤ m ∧ k n = r ∧ ∀ (w : World) (c : BoundsCode), (Instr.sliceBound x m c).run P w = .ok n w := by
  obtain ⟨i, n, rfl, e1⟩ := asInt_inv e hz
  obtain ⟨n, rfl, e2⟩ := natOf_inv e1 hz
  obtain ⟨hle, e3⟩ := ble_inv e2 hz
  rw [VR_int] at rx; subst rx
  refine ⟨n, hle, e3, fun w c => ?_⟩
  have h1 : (0 : Int) ≤ n ∧ (n : Int) ≤ m := ⟨by omega, by omega⟩
  simp [Instr.sliceBound, asIntOf, h1]
theorem bound_ok' {β : Type} {a : AV} {x : Value} {m m' : Nat} {z r : β} {k : Nat → β} (hm : m ≤ m') (rx : VR μ a x) (e : bound a m z k = r) (hz : z ≠ r) :
    ∃ n, n ≤ m ∧ k n = r ∧ ∀ (w : World) (c : BoundsCode), (Instr.sliceBound x m' c).run P w = .ok n w := by
  obtain ⟨i, n, rfl, e1⟩ := asInt_inv e hz
  obtain ⟨n, rfl, e2⟩ := natOf_inv e1 hz
  obtain ⟨hle, e3⟩ := ble_inv e2 hz
  rw [VR_int] at rx; subst rx
  refine ⟨n, hle, e3, fun w c => ?_⟩
  have h1 : (0 : Int) ≤ n ∧ (n : Int) ≤ m' := ⟨by omega, by omega⟩
  simp [Instr.sliceBound, asIntOf, h1]
def OX (μ : Mp) (t : T) (o : Option AX) (x : Option Value) : Prop := match o, x with
  | none, none => True
  | some a, some v => VR μ (evX a t) v
  | _, _ => False
theorem compOX_ok {o : Option Operand} {a : Option AX} (e : compOX o = some a) {l : List Operand} (hx : Opnds μ t ρ l) (hm : ∀ x, o = some x → x ∈ l) : OX μ t a (o.map ρ) := by
  cases o with
  | none => cases e; trivial
  | some x =>
    have e : (compX x).map some = some a := e
    cases hc : compX x with
    | none => rw [hc] at e; cases e
    | some b => rw [hc] at e; cases e; exact hx x (hm x rfl) b hc
theorem low_ok {β : Type} {lo : Option AX} {x : Option Value} {z r : β} {k : Nat → Nat → Nat → β} {hh m : Nat} (ro : OX μ t lo x) (e : low lo t z k hh m = r) (hz : z ≠ r) :
    ∃ l, l ≤ hh ∧ k l hh m = r ∧ ∀ (w : World) (c : BoundsCode), (match x with | some v => Instr.sliceBound v hh c | none => pure 0).run P w = .ok l w := by
  cases lo with
  | none =>
    cases x with
    | none => exact ⟨0, Nat.zero_le _, e, fun _ _ => rfl⟩
    | some v => exact ro.elim
  | some a =>
    cases x with
    | none => exact ro.elim
    | some v =>
      obtain ⟨n, hn, e1, hr⟩ := bound_ok (P := P) (show VR μ (evX a t) v from ro) (show bound (evX a t) hh z (fun l => k l hh m) = r from e) hz
      exact ⟨n, hn, e1, hr⟩
theorem bounds_ok {β : Type} {n c c' : Nat} {lo hi mx : Option AX} {xl xh xm : Option Value} {z r : β} {k : Nat → Nat → Nat → β} (isl : Bool) (hnc : n ≤ c) (hcc : c ≤ c')
    (rl : OX μ t lo xl) (rh : OX μ t hi xh) (rm : OX μ t mx xm) (e : bounds n c lo hi mx t z k = r) (hz : z ≠ r) :
    ∃ l hh m m', l ≤ hh ∧ hh ≤ m ∧ m ≤ c ∧ k l hh m = r ∧ (mx = none → m = c ∧ m' = c') ∧ (mx.isSome = true → m' = m) ∧ ∀ w, (Instr.sliceBounds isl n c' xl xh xm).run P w = .ok (l, hh, m') w := by
  cases mx with
  | none =>
    cases xm with
    | some v => exact rm.elim
    | none =>
      cases hi with
      | none =>
        cases xh with
        | some v => exact rh.elim
        | none =>
          obtain ⟨l, hl, e1, hr⟩ := low_ok (P := P) rl (show low lo t z k n c = r from e) hz
          refine ⟨l, n, c, c', hl, hnc, Nat.le_refl _, e1, fun _ => ⟨rfl, rfl⟩, nofun, fun w => ?_⟩
          have hr := hr w (if (none : Option Value).isSome = true then .slice3C else .sliceB)
          cases xl with
          | none => simp at hr; simp [Instr.sliceBounds, hr]
          | some v => simp at hr; simp [Instr.sliceBounds, hr]
      | some b =>
        cases xh with
        | none => exact rh.elim
        | some v =>
          obtain ⟨hh, hle, e1, hr1⟩ := bound_ok' (P := P) hcc (show VR μ (evX b t) v from rh) (show bound (evX b t) c z (fun h => low lo t z k h c) = r from e) hz
          obtain ⟨l, hl, e2, hr⟩ := low_ok (P := P) rl e1 hz
          refine ⟨l, hh, c, c', hl, hle, Nat.le_refl _, e2, fun _ => ⟨rfl, rfl⟩, nofun, fun w => ?_⟩
          have hr := hr w (if (none : Option Value).isSome = true then .slice3C else .sliceB)
          have hr1 := fun c => hr1 w c
          cases xl with
          | none => simp at hr; simp [Instr.sliceBounds, hr, hr1]
          | some v => simp at hr; simp [Instr.sliceBounds, hr, hr1]
  | some a =>
    cases xm with
    | none => exact rm.elim
    | some vm =>
      obtain ⟨m, hm, e1, hrm⟩ := bound_ok' (P := P) hcc (show VR μ (evX a t) vm from rm) (show bound (evX a t) c z (fun m => evOX hi t z fun v => bound v m z fun h => low lo t z k h m) = r from e) hz
      cases hi with
      | none => exact absurd e1 hz
      | some b =>
        cases xh with
        | none => exact rh.elim
        | some v =>
          obtain ⟨hh, hle, e2, hr1⟩ := bound_ok (P := P) (show VR μ (evX b t) v from rh) (show bound (evX b t) m z (fun h => low lo t z k h m) = r from e1) hz
          obtain ⟨l, hl, e3, hr⟩ := low_ok (P := P) rl e2 hz
          refine ⟨l, hh, m, m, hl, hle, hm, e3, nofun, fun _ => rfl, fun w => ?_⟩
          have hr := hr w (if (some vm).isSome = true then .slice3C else .sliceB)
          have hr1 := fun c => hr1 w c
          have hrm := fun c => hrm w c
          cases xl with
          | none => simp at hr; simp [Instr.sliceBounds, hr, hr1, hrm]
          | some v => simp at hr; simp [Instr.sliceBounds, hr, hr1, hrm]
theorem sliceStr_ok {a : AV} {x : Value} {lo hi : Option AX} {xl xh : Option Value} {v : AV} (hu : P.underlying ty = some .string) (rx : VR μ a x) (rl : OX μ t lo xl) (rh : OX μ t hi xh)
    (e : (a.asStr .no fun s => bounds (len s) (len s) lo hi none t .no fun l r _ => OV.ok (.str (drop (take s r) l))) = .ok v) : Gives P μ w (Instr.sliceAt ty x xl xh none) v := by
  obtain ⟨s, rfl, e1⟩ := asStr_inv e nofun
  rw [VR_str] at rx
  obtain ⟨s', rfl, rfl⟩ := rx
  rw [len_eq, byteList_length] at e1
  obtain ⟨l, hh, m, m', h1, h2, h3, e2, _, _, hr⟩ := bounds_ok (P := P) false (Nat.le_refl _) (Nat.le_refl _) rl rh (show OX μ t none none from trivial) e1 nofun
  cases e2
  refine ⟨.string (s'.extract l hh), ?_, ?_⟩
  · simp [Instr.sliceAt, run_underlying hu, Instr.slice, hr]
  · rw [VR_str]
    refine ⟨_, rfl, ?_⟩
    rw [drop_eq, take_eq]
    unfold byteList
    rw [ByteArray.data_extract, Array.toList_extract, List.extract_eq_take_drop, List.map_take, List.map_drop, List.drop_take]
theorem slice_VR {b o s s0 cp' sz l hh m m' : Nat} {ex : Bool} {c0 : Nat} (hb : μ.at_ b = some (c0, s0)) (h1 : l ≤ hh) (h2 : hh ≤ m) (h3 : m ≤ m') (h4 : m' ≤ cp') (hs : cp' ≠ 0 → s = s0 + o ∧ s0 + o + cp' * sz ≤ μ.size c0)
    (hex : ex = true → m' = m) :
    VR μ (.slice b (base o l sz) (hh - l) (m - l) sz ex) (.slice (if m' = l then some ⟨c0, s, none⟩ else (some (⟨c0, s, none⟩ : Addr)).map (·.add (l * sz))) (hh - l) (m' - l)) := by
  rw [VR_slice]
  by_cases hm : m' = l
  · rw [if_pos hm]
    exact ⟨c0, s0, s, m' - l, hb, rfl, by omega, by omega, fun h => by rw [hex h], fun h => by omega⟩
  · rw [if_neg hm, Option.map_some, addr_add]
    obtain ⟨h5, h6⟩ := hs (by omega)
    refine ⟨c0, s0, s + l * sz, m' - l, hb, rfl, by omega, by omega, fun h => by rw [hex h], fun _ => ⟨by unfold base; show _ = s0 + (o + l * sz); omega, ?_⟩⟩
    unfold base
    show s0 + (o + l * sz) + (m' - l) * sz ≤ _
    have : (m' - l) * sz + l * sz ≤ cp' * sz := by rw [← Nat.add_mul]; exact Nat.mul_le_mul_right _ (by omega)
    omega
theorem sliceSl_ok {el : TypeId} {sz : Nat} {a : AV} {x : Value} {lo hi mx : Option AX} {xl xh xm : Option Value} {v : AV} (hu : P.underlying ty = some (.slice el)) (hn : szOf P el = some sz)
    (rx : VR μ a x) (rl : OX μ t lo xl) (rh : OX μ t hi xh) (rm : OX μ t mx xm)
    (e : (a.asSlice .no (bounds 0 0 lo hi mx t .no fun _ _ _ => OV.ok .nilSlice) fun b o n c s e =>
      bc (Nat.beq s sz) (bounds n c lo hi mx t .no fun l r m => .ok (.slice b (base o l sz) (Nat.sub r l) (Nat.sub m l) sz (ocase e (fun _ => true) mx))) .no) = .ok v) :
    Gives P μ w (Instr.sliceAt ty x xl xh xm) v := by
  rcases asSlice_inv e nofun with ⟨rfl, e1⟩ | ⟨b, o, n, c, s, ex, rfl, e1⟩
  · rw [VR_nilSlice] at rx; subst rx
    obtain ⟨l, hh, m, m', h1, h2, h3, e2, h5, h6, hr⟩ := bounds_ok (P := P) true (Nat.le_refl _) (Nat.le_refl _) rl rh rm e1 nofun
    cases e2
    obtain rfl : m = 0 := by omega
    obtain rfl : hh = 0 := by omega
    obtain rfl : l = 0 := by omega
    obtain rfl : m' = 0 := by
      cases mx with
      | none => exact (h5 rfl).2
      | some _ => exact h6 rfl
    exact ⟨.slice none 0 0, by simp [Instr.sliceAt, run_underlying hu, Instr.slice, hr, run_sizeOf hn], by simp⟩
  · obtain ⟨rfl, e2⟩ := beq_inv e1 nofun
    rw [VR_slice] at rx
    obtain ⟨c0, s0, s', cp', hb, rfl, h1, h2, h3, h4⟩ := rx
    obtain ⟨l, hh, m, m', g1, g2, g3, e3, g5, g6, hr⟩ := bounds_ok (P := P) true h1 h2 rl rh rm e2 nofun
    cases e3
    refine ⟨_, by simp only [Instr.sliceAt, run_underlying hu, Instr.slice, Sem.run_bind, hr, run_sizeOf hn, Result.andThen_ok, Sem.run_pure]; rfl, ?_⟩
    refine slice_VR (μ := μ) hb g1 g2 ?_ ?_ h4 fun hx => ?_
    · cases mx with
      | none => obtain ⟨rfl, rfl⟩ := g5 rfl; exact h2
      | some _ => rw [g6 rfl]; exact Nat.le_refl _
    · cases mx with
      | none => obtain ⟨rfl, rfl⟩ := g5 rfl; exact Nat.le_refl _
      | some _ => rw [g6 rfl]; omega
    · cases mx with
      | none => obtain ⟨rfl, rfl⟩ := g5 rfl; exact h3 hx
      | some _ => exact g6 rfl
theorem Sim.room (hs : Sim μ h w) {b c s : Nat} (hb : μ.at_ b = some (c, s)) {cs : List AV} {n : Nat} {ow : Own} (hg : hget h b = some (.cells cs n ow)) (hn : n ≠ 0) : s + n ≤ μ.size c := by
  obtain ⟨hl, _, _, arr, e, fr, ha, hsz, _, hc⟩ := hs.blk b c s _ hb hg
  obtain ⟨v, hv⟩ : ∃ v, cs[n - 1]? = some v := ⟨_, List.getElem?_eq_getElem (by omega)⟩
  obtain ⟨x, hx, _⟩ := hc _ _ hv
  have := (Array.getElem?_eq_some_iff.1 hx).1
  omega
theorem sliceArr_ok (hs : Sim μ h w) {el : TypeId} {sz n : Nat} {a : AV} {x : Value} {lo hi mx : Option AX} {xl xh xm : Option Value} {v : AV} (hu : P.underlying ty = some (.array n el)) (hn : szOf P el = some sz)
    (rx : VR μ a x) (rl : OX μ t lo xl) (rh : OX μ t hi xh) (rm : OX μ t mx xm)
    (e : (a.asPtr .no fun b o => hcells h b .no fun _ k _ => bc (Nat.blt o k) (bc (Nat.ble (Nat.add o (Nat.mul n sz)) k)
      (bounds n n lo hi mx t .no fun l r m => OV.ok (.slice b (base o l sz) (Nat.sub r l) (Nat.sub m l) sz true)) .no) .no) = .ok v) :
    Gives P μ w (Instr.sliceAt ty x xl xh xm) v := by
  obtain ⟨b, o, rfl, e0⟩ := asPtr_inv e nofun
  obtain ⟨cs, k, ow, hg, e00⟩ := hcells_inv e0 nofun
  obtain ⟨hk0, e01⟩ := blt_inv e00 nofun
  obtain ⟨hle, e1⟩ := ble_inv e01 nofun
  have hle : o + n * sz ≤ k := hle
  rw [VR_ptr] at rx
  obtain ⟨c0, s0, hb, rfl⟩ := rx
  obtain ⟨l, hh, m, m', g1, g2, g3, e3, g5, g6, hr⟩ := bounds_ok (P := P) false (Nat.le_refl _) (Nat.le_refl _) rl rh rm e1 nofun
  cases e3
  have hm : m' = m := by
    cases mx with
    | none => obtain ⟨rfl, rfl⟩ := g5 rfl; rfl
    | some _ => exact g6 rfl
  subst hm
  refine ⟨_, by simp only [Instr.sliceAt, run_underlying hu, Instr.sureAddr, Sem.run_bind, hr, run_sizeOf hn, Result.andThen_ok, Sem.run_pure]; rfl, ?_⟩
  have := slice_VR (μ := μ) (b := b) (o := o) (s := s0 + o) (s0 := s0) (cp' := m') (sz := sz) (ex := true) (c0 := c0) hb g1 g2 (Nat.le_refl m') (Nat.le_refl m') (fun h => ⟨rfl, by
      have := hs.room hb hg (by omega)
      have hz' : m' * sz ≤ n * sz := Nat.mul_le_mul_right _ g3
      omega⟩) (fun _ => rfl)
  by_cases hml : m' = l
  · rw [if_pos hml] at this ⊢; exact this
  · rw [if_neg hml] at this ⊢; exact this
end
end Eng
