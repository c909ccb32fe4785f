/- The engine's soundness, part 3: what an evaluation that comes to an end tells of its parts; and the quiet operations. -/
import Derived.Test.YtejiebbbodealaaEngS2
import Derived.Laws.Cells
import Derived.Laws.IdiomCopy
set_option linter.unusedVariables false
set_option linter.unusedSimpArgs false
namespace Eng
open Go Go.RowKit
section
variable {β : Type} {v : AV} {z r : β}
theorem asInt_inv {k : IntKind → Int → β} (h : v.asInt z k = r) (hz : z ≠ r) : ∃ i n, v = .int i n ∧ k i n = r := by
  cases v <;> first | exact ⟨_, _, rfl, h⟩ | exact absurd h hz
theorem asBool_inv {k : Bool → β} (h : v.asBool z k = r) (hz : z ≠ r) : ∃ b, v = .bool b ∧ k b = r := by
  cases v <;> first | exact ⟨_, rfl, h⟩ | exact absurd h hz
theorem asStr_inv {k : List Nat → β} (h : v.asStr z k = r) (hz : z ≠ r) : ∃ s, v = .str s ∧ k s = r := by
  cases v <;> first | exact ⟨_, rfl, h⟩ | exact absurd h hz
theorem asPtr_inv {k : Nat → Nat → β} (h : v.asPtr z k = r) (hz : z ≠ r) : ∃ b o, v = .ptr b o ∧ k b o = r := by
  cases v <;> first | exact ⟨_, _, rfl, h⟩ | exact absurd h hz
theorem asSlice_inv {nil : β} {k : Nat → Nat → Nat → Nat → Nat → Bool → β} (h : v.asSlice z nil k = r) (hz : z ≠ r) :
    (v = .nilSlice ∧ nil = r) ∨ ∃ b o l c s e, v = .slice b o l c s e ∧ k b o l c s e = r := by
  cases v <;> first | exact .inl ⟨rfl, h⟩ | exact .inr ⟨_, _, _, _, _, _, rfl, h⟩ | exact absurd h hz
theorem asMap_inv {nil : β} {k : Nat → β} (h : v.asMap z nil k = r) (hz : z ≠ r) : (v = .nilMap ∧ nil = r) ∨ ∃ b, v = .map b ∧ k b = r := by
  cases v <;> first | exact .inl ⟨rfl, h⟩ | exact .inr ⟨_, rfl, h⟩ | exact absurd h hz
theorem asAgg_inv {k : List AV → β} (h : v.asAgg z k = r) (hz : z ≠ r) : ∃ l, v = .agg l ∧ k l = r := by
  cases v <;> first | exact ⟨_, rfl, h⟩ | exact absurd h hz
theorem asTuple_inv {k : List AV → β} (h : v.asTuple z k = r) (hz : z ≠ r) : ∃ l, v = .tuple l ∧ k l = r := by
  cases v <;> first | exact ⟨_, rfl, h⟩ | exact absurd h hz
theorem asFunc_inv {k : Nat → List AV → List AV → β} (h : v.asFunc z k = r) (hz : z ≠ r) : ∃ f a b, v = .func (.func f) a b ∧ k f a b = r := by
  cases v with
  | func fn a b => cases fn <;> first | exact ⟨_, _, _, rfl, h⟩ | exact absurd h hz
  | _ => exact absurd h hz
theorem natOf_inv {x : Int} {k : Nat → β} (h : natOf x z k = r) (hz : z ≠ r) : ∃ n : Nat, x = n ∧ k n = r := by
  cases x with
  | ofNat n => exact ⟨n, rfl, h⟩
  | negSucc n => exact absurd h hz
theorem ocase_inv {α : Type} {o : Option α} {k : α → β} (h : ocase z k o = r) (hz : z ≠ r) : ∃ a, o = some a ∧ k a = r := by
  cases o with
  | none => exact absurd h hz
  | some a => exact ⟨a, rfl, h⟩
theorem bc_inv {b : Bool} {x : β} (h : bc b x z = r) (hz : z ≠ r) : b = true ∧ x = r := by
  cases b with
  | true => exact ⟨rfl, h⟩
  | false => exact absurd h hz
theorem beq_inv {a b : Nat} {x : β} (h : bc (Nat.beq a b) x z = r) (hz : z ≠ r) : a = b ∧ x = r := by
  obtain ⟨h1, h2⟩ := bc_inv h hz
  exact ⟨Nat.eq_of_beq_eq_true h1, h2⟩
theorem ble_inv {a b : Nat} {x : β} (h : bc (Nat.ble a b) x z = r) (hz : z ≠ r) : a ≤ b ∧ x = r := by
  obtain ⟨h1, h2⟩ := bc_inv h hz
  exact ⟨Nat.le_of_ble_eq_true h1, h2⟩
theorem blt_inv {a b : Nat} {x : β} (h : bc (Nat.blt a b) x z = r) (hz : z ≠ r) : a < b ∧ x = r := by
  obtain ⟨h1, h2⟩ := bc_inv h hz
  exact ⟨Nat.le_of_ble_eq_true h1, h2⟩
theorem hcells_inv {h : Hp} {b : Nat} {k : List AV → Nat → Own → β} (e : hcells h b z k = r) (hz : z ≠ r) : ∃ cs n w, hget h b = some (.cells cs n w) ∧ k cs n w = r := by
  obtain ⟨x, h1, h2⟩ := ocase_inv e hz
  cases x with
  | cells cs n w => exact ⟨_, _, _, h1, h2⟩
  | mp => exact absurd h2 hz
  | dead => exact absurd h2 hz
theorem hmap_inv {h : Hp} {b : Nat} {k : List (AV × AV × Nat) → Nat → Nat → β} (e : hmap h b z k = r) (hz : z ≠ r) : ∃ es n c, hget h b = some (.mp es n c) ∧ k es n c = r := by
  obtain ⟨x, h1, h2⟩ := ocase_inv e hz
  cases x with
  | mp es n c => exact ⟨_, _, _, h1, h2⟩
  | cells => exact absurd h2 hz
  | dead => exact absurd h2 hz
end
theorem ikNo_inj {a b : IntKind} (h : ikNo a = ikNo b) : a = b := by cases a <;> cases b <;> first | rfl | exact absurd h (by decide)
theorem ikEq_inv {β : Type} {a b : IntKind} {x z r : β} (h : bc (ikEq a b) x z = r) (hz : z ≠ r) : a = b ∧ x = r := by
  obtain ⟨h1, h2⟩ := beq_inv h hz
  exact ⟨ikNo_inj h1, h2⟩
theorem part_eq {cs : List AV} {len o n : Nat} (hl : cs.length = len) (hn : o + n ≤ len) : part cs len o n = (cs.drop o).take n := by
  unfold part
  rw [bc_beq, bc_beq, take_eq, take_eq, drop_eq]
  split
  · subst o
    split
    · subst n; rw [List.drop_zero, List.take_of_length_le (by omega)]
    · rw [List.drop_zero]
  · rfl
section
variable {P : Program} {μ : Mp} {h : Hp} {w : World}
theorem addr_add (c s n : Nat) : (⟨c, s, none⟩ : Addr).add n = ⟨c, s + n, none⟩ := by
  unfold Addr.add
  split
  · subst n; rfl
  · rfl
theorem Sim.cell (hs : Sim μ h w) {b c s o : Nat} (hb : μ.at_ b = some (c, s)) {cs : List AV} {n : Nat} {ow : Own} (hg : hget h b = some (.cells cs n ow)) {v : AV}
    (hv : cs[o]? = some v) : ∃ x, w.cell? ⟨c, s + o, none⟩ = some x ∧ VR μ v x := by
  obtain ⟨_, _, _, arr, e, fr, ha, _, _, hc⟩ := hs.blk b c s _ hb hg
  obtain ⟨x, hx, hr⟩ := hc o v hv
  exact ⟨x, by simp [World.cell?, ha, hx], hr⟩
theorem rd_ok (hs : Sim μ h w) {b c s o : Nat} (hb : μ.at_ b = some (c, s)) {v : AV} (e : rd h b o = .ok v) :
    ∃ x, w.cell? ⟨c, s + o, none⟩ = some x ∧ VR μ v x ∧ isCell v = true := by
  obtain ⟨cs, n, ow, hg, e⟩ := hcells_inv e nofun
  obtain ⟨a, ha, e⟩ := ocase_inv e nofun
  cases e
  rw [nth_eq] at ha
  obtain ⟨x, hx, hr⟩ := hs.cell hb hg ha
  obtain ⟨_, hcell, _⟩ := hs.blk b c s _ hb hg
  exact ⟨x, hx, hr, hcell _ (List.mem_of_getElem? ha)⟩
theorem rdN_ok {β : Type} {z r : β} (hs : Sim μ h w) {b c s o n : Nat} (hb : μ.at_ b = some (c, s)) {k : List AV → β} (e : rdN h b o n z k = r) (hz : z ≠ r) :
    ∃ l xs, k l = r ∧ VRs μ l xs ∧ xs.length = n ∧ (∀ v ∈ l, isCell v = true) ∧ ∀ j x, xs[j]? = some x → w.cell? ⟨c, s + o + j, none⟩ = some x := by
  obtain ⟨cs, len, ow, hg, e⟩ := hcells_inv e hz
  obtain ⟨hle, e⟩ := ble_inv e hz
  have hle : o + n ≤ len := hle
  obtain ⟨hl, hcell, _, arr, el, fr, ha, _, _, hc⟩ := hs.blk b c s _ hb hg
  rw [part_eq hl hle] at e
  by_cases h0 : n = 0
  · subst h0
    exact ⟨_, [], e, by rw [List.take_zero, VRs_nil], rfl, fun v hv => by simp at hv, fun j x hx => by simp at hx⟩
  have hlen : s + o + n ≤ arr.size := by
    have : (cs[o + n - 1]?).isSome := by rw [List.getElem?_eq_getElem (by omega)]; rfl
    obtain ⟨v, hv⟩ := Option.isSome_iff_exists.1 this
    obtain ⟨x, hx, _⟩ := hc _ _ hv
    have := (Array.getElem?_eq_some_iff.1 hx).1
    omega
  refine ⟨_, (arr.toList.drop (s + o)).take n, e, ?_, ?_, fun v hv => hcell v (List.mem_of_mem_drop (List.mem_of_mem_take hv)), ?_⟩
  · refine .of_get ?_ fun i v hv => ?_
    · simp; omega
    · rw [List.getElem?_take] at hv
      split at hv
      · rw [List.getElem?_drop] at hv
        obtain ⟨x, hx, hr⟩ := hc _ _ hv
        refine ⟨x, ?_, hr⟩
        rw [List.getElem?_take, if_pos (by assumption), List.getElem?_drop, Array.getElem?_toList, ← hx]
        congr 1; omega
      · cases hv
  · simp; omega
  · intro j x hx
    rw [List.getElem?_take] at hx
    split at hx
    · rw [List.getElem?_drop, Array.getElem?_toList] at hx
      simp [World.cell?, ha, hx]
    · cases hx
theorem szOf_some {t : TypeId} {n : Nat} (e : szOf P t = some n) : ∃ i, P.info? t = some i ∧ i.size = n := by
  unfold szOf at e
  cases hi : P.info? t with
  | none => rw [hi] at e; cases e
  | some i => rw [hi] at e; exact ⟨i, rfl, Option.some.inj e⟩
theorem run_sizeOf {t : TypeId} {n : Nat} (e : szOf P t = some n) (w : World) : (Go.sizeOf t).run P w = .ok n w := by
  obtain ⟨i, hi, hn⟩ := szOf_some e
  simp [Go.sizeOf, typeInfo, hi, hn]
theorem run_isAgg {t : TypeId} {b : Bool} (e : aggT P t = some b) (w : World) : (isAgg t).run P w = .ok b w := by
  unfold aggT at e
  cases hu : P.underlying t with
  | none => rw [hu] at e; cases e
  | some d =>
    rw [hu] at e
    simp only [isAgg, Sem.run_bind, run_underlying hu, Result.andThen_ok]
    cases d <;> simp at e <;> subst e <;> rfl
theorem VRs_nil' {l : List Value} : VRs μ [] l ↔ l = [] := VRs_nil
theorem scalarAV_ok : ∀ {x : Value} {v : AV}, scalarAV x = some v → VR μ v x ∧ isCell v = true
  | .bool b, v, e => by cases e; exact ⟨by simp, rfl⟩
  | .int k n, v, e => by cases e; exact ⟨by simp, rfl⟩
  | .string s, v, e => by cases e; exact ⟨by simp, rfl⟩
  | .pointer none, v, e => by cases e; exact ⟨by simp, rfl⟩
  | .slice none 0 0, v, e => by cases e; exact ⟨by simp, rfl⟩
  | .map none, v, e => by cases e; exact ⟨by simp, rfl⟩
  | .nilFunc, v, e => by cases e; exact ⟨by simp, rfl⟩
  | .nilIface, v, e => by cases e; exact ⟨by simp, rfl⟩
  | .pointer (some _), v, e => by cases e
  | .slice (some _) _ _, v, e => by cases e
  | .slice none (_ + 1) _, v, e => by cases e
  | .slice none 0 (_ + 1), v, e => by cases e
  | .map (some _), v, e => by cases e
  | .float _ _, v, e => by cases e
  | .complex _ _ _, v, e => by cases e
  | .chan _, v, e => by cases e
  | .func _ _ _, v, e => by cases e
  | .iface _ _, v, e => by cases e
  | .agg _, v, e => by cases e
  | .tuple _, v, e => by cases e
theorem scalarsAV_ok : ∀ {xs : List Value} {l : List AV}, scalarsAV xs = some l → VRs μ l xs ∧ ∀ v ∈ l, isCell v = true
  | [], l, e => by cases e; exact ⟨by rw [VRs_nil], fun v hv => by cases hv⟩
  | x :: xs, l, e => by
    unfold scalarsAV at e
    cases h1 : scalarAV x with
    | none => rw [h1] at e; cases e
    | some a =>
      cases h2 : scalarsAV xs with
      | none => rw [h1, h2] at e; cases e
      | some as =>
        rw [h1, h2] at e
        cases e
        obtain ⟨r1, c1⟩ := scalarAV_ok (μ := μ) h1
        obtain ⟨r2, c2⟩ := scalarsAV_ok h2
        refine ⟨by rw [VRs_cons]; exact ⟨x, xs, rfl, r1, r2⟩, fun v hv => ?_⟩
        cases hv with
        | head => exact c1
        | tail _ hv => exact c2 v hv
theorem constAV_ok {x : Value} {v : AV} (e : constAV x = some v) : VR μ v x ∧ ∀ u ∈ cellsC v, isCell u = true ∨ ∃ l, u = .tuple l ∨ ∃ a b c, u = .func a b c := by
  unfold constAV at e
  split at e
  · rename_i cs
    cases hc : scalarsAV cs.toList with
    | none => rw [hc] at e; cases e
    | some l =>
      rw [hc] at e
      cases e
      obtain ⟨r, c⟩ := scalarsAV_ok (μ := μ) hc
      exact ⟨by rw [VR_agg]; exact ⟨cs, rfl, r⟩, fun u hu => .inl (c u hu)⟩
  · rename_i vs
    split at e
    · cases e
      rename_i h0
      have : vs = #[] := Array.eq_empty_of_size_eq_zero h0
      subst this
      exact ⟨by rw [VR_tuple]; exact ⟨#[], rfl, by rw [VRs_nil]⟩, fun u hu => .inr ⟨[], .inl (by simpa [cellsC] using hu)⟩⟩
    · cases e
  · rename_i f fi ca
    split at e
    · rename_i h0
      cases e
      simp only [Bool.and_eq_true, decide_eq_true_eq, beq_iff_eq] at h0
      have h1 : fi = #[] := Array.eq_empty_of_size_eq_zero (by simpa using h0.1)
      have h2 : ca = #[] := Array.eq_empty_of_size_eq_zero (by simpa using h0.2)
      subst h1; subst h2
      exact ⟨by rw [VR_func]; exact ⟨#[], #[], rfl, by rw [VRs_nil], by rw [VRs_nil]⟩, fun u hu => .inr ⟨[], .inr ⟨_, _, _, by simpa [cellsC] using hu⟩⟩⟩
    · cases e
  · obtain ⟨r, c⟩ := scalarAV_ok (μ := μ) e
    refine ⟨r, fun u hu => .inl ?_⟩
    have : cellsC v = [v] := by cases v <;> first | rfl | cases c
    rw [this] at hu
    simp at hu
    rw [hu]; exact c
theorem cellsC_eq (v : AV) : cellsC v = cellsOf v := by cases v <;> rfl
end
end Eng
