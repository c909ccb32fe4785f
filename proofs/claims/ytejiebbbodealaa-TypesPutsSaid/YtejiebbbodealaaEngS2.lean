/- The engine's soundness, part 2: what abstract values and heaps stand for. -/
import Derived.Test.YtejiebbbodealaaEngS1
import Derived.Below
namespace Eng
open Go Go.RowKit
structure Mp where
  at_ : Nat → Option (Nat × Nat)
  own : Nat → Bool
  size : Nat → Nat
mutual
def VR (μ : Mp) : AV → Value → Prop
  | .bool b, x => x = .bool b
  | .int k n, x => x = .int k n
  | .str s, x => ∃ s', x = .string s' ∧ byteList s' = s
  | .nilPtr, x => x = .pointer none
  | .ptr b o, x => ∃ c s, μ.at_ b = some (c, s) ∧ x = .pointer (some ⟨c, s + o, none⟩)
  | .nilSlice, x => x = .slice none 0 0
  | .slice b o l cp sz ex, x => ∃ c s s' cp', μ.at_ b = some (c, s) ∧ x = .slice (some ⟨c, s', none⟩) l cp' ∧ l ≤ cp ∧ cp ≤ cp' ∧ (ex = true → cp' = cp) ∧
      (cp' ≠ 0 → s' = s + o ∧ s + o + cp' * sz ≤ μ.size c)
  | .nilMap, x => x = .map none
  | .map b, x => ∃ c s, μ.at_ b = some (c, s) ∧ x = .map (some c)
  | .func fn a b, x => ∃ a' b', x = .func fn a' b' ∧ VRs μ a a'.toList ∧ VRs μ b b'.toList
  | .nilFunc, x => x = .nilFunc
  | .iface t v, x => ∃ v', x = .iface t v' ∧ VR μ v v'
  | .nilIface, x => x = .nilIface
  | .agg l, x => ∃ l', x = .agg l' ∧ VRs μ l l'.toList
  | .tuple l, x => ∃ l', x = .tuple l' ∧ VRs μ l l'.toList
def VRs (μ : Mp) : List AV → List Value → Prop
  | [], l => l = []
  | v :: vs, l => ∃ x xs, l = x :: xs ∧ VR μ v x ∧ VRs μ vs xs
end
def Mp.Le (μ μ' : Mp) : Prop := ∀ b c s, μ.at_ b = some (c, s) → μ'.at_ b = some (c, s) ∧ μ'.size c = μ.size c ∧ μ'.own c = μ.own c
theorem Mp.Le.refl (μ : Mp) : μ.Le μ := fun _ _ _ h => ⟨h, rfl, rfl⟩
theorem Mp.Le.trans {a b c : Mp} (h : a.Le b) (k : b.Le c) : a.Le c := fun x y z e =>
  have ⟨p, q, r⟩ := h x y z e
  have ⟨p', q', r'⟩ := k x y z p
  ⟨p', q'.trans q, r'.trans r⟩
mutual
theorem VR.mono {μ μ' : Mp} (h : μ.Le μ') : ∀ (v : AV) (x : Value), VR μ v x → VR μ' v x
  | .bool _, _, r => by unfold VR at *; exact r
  | .int _ _, _, r => by unfold VR at *; exact r
  | .str _, _, r => by unfold VR at *; exact r
  | .nilPtr, _, r => by unfold VR at *; exact r
  | .ptr b o, _, r => by
    unfold VR at *
    obtain ⟨c, s, hb, hx⟩ := r
    exact ⟨c, s, (h _ _ _ hb).1, hx⟩
  | .nilSlice, _, r => by unfold VR at *; exact r
  | .slice b o l cp sz ex, _, r => by
    unfold VR at *
    obtain ⟨c, s, s', cp', hb, hx, h1, h2, h3, h4⟩ := r
    exact ⟨c, s, s', cp', (h _ _ _ hb).1, hx, h1, h2, h3, by rw [(h _ _ _ hb).2.1]; exact h4⟩
  | .nilMap, _, r => by unfold VR at *; exact r
  | .map b, _, r => by
    unfold VR at *
    obtain ⟨c, s, hb, hx⟩ := r
    exact ⟨c, s, (h _ _ _ hb).1, hx⟩
  | .func fn a b, _, r => by
    unfold VR at *
    obtain ⟨a', b', hx, ha, hb⟩ := r
    exact ⟨a', b', hx, VRs.mono h a _ ha, VRs.mono h b _ hb⟩
  | .nilFunc, _, r => by unfold VR at *; exact r
  | .iface t v, _, r => by
    unfold VR at *
    obtain ⟨v', hx, hv⟩ := r
    exact ⟨v', hx, VR.mono h v _ hv⟩
  | .nilIface, _, r => by unfold VR at *; exact r
  | .agg l, _, r => by
    unfold VR at *
    obtain ⟨l', hx, hl⟩ := r
    exact ⟨l', hx, VRs.mono h l _ hl⟩
  | .tuple l, _, r => by
    unfold VR at *
    obtain ⟨l', hx, hl⟩ := r
    exact ⟨l', hx, VRs.mono h l _ hl⟩
theorem VRs.mono {μ μ' : Mp} (h : μ.Le μ') : ∀ (l : List AV) (xs : List Value), VRs μ l xs → VRs μ' l xs
  | [], _, r => by unfold VRs at *; exact r
  | v :: vs, _, r => by
    unfold VRs at *
    obtain ⟨x, xs, hx, h1, h2⟩ := r
    exact ⟨x, xs, hx, VR.mono h v _ h1, VRs.mono h vs _ h2⟩
end
section
variable {μ : Mp}
@[simp] theorem VR_bool {b : Bool} {x : Value} : VR μ (.bool b) x ↔ x = .bool b := by unfold VR; rfl
@[simp] theorem VR_int {k : IntKind} {n : Int} {x : Value} : VR μ (.int k n) x ↔ x = .int k n := by unfold VR; rfl
@[simp] theorem VR_str {s : List Nat} {x : Value} : VR μ (.str s) x ↔ ∃ s', x = .string s' ∧ byteList s' = s := by unfold VR; rfl
@[simp] theorem VR_nilPtr {x : Value} : VR μ .nilPtr x ↔ x = .pointer none := by unfold VR; rfl
@[simp] theorem VR_ptr {b o : Nat} {x : Value} : VR μ (.ptr b o) x ↔ ∃ c s, μ.at_ b = some (c, s) ∧ x = .pointer (some ⟨c, s + o, none⟩) := by unfold VR; rfl
@[simp] theorem VR_nilSlice {x : Value} : VR μ .nilSlice x ↔ x = .slice none 0 0 := by unfold VR; rfl
@[simp] theorem VR_slice {b o l cp sz : Nat} {ex : Bool} {x : Value} : VR μ (.slice b o l cp sz ex) x ↔
    ∃ c s s' cp', μ.at_ b = some (c, s) ∧ x = .slice (some ⟨c, s', none⟩) l cp' ∧ l ≤ cp ∧ cp ≤ cp' ∧ (ex = true → cp' = cp) ∧ (cp' ≠ 0 → s' = s + o ∧ s + o + cp' * sz ≤ μ.size c) := by unfold VR; rfl
@[simp] theorem VR_nilMap {x : Value} : VR μ .nilMap x ↔ x = .map none := by unfold VR; rfl
@[simp] theorem VR_map {b : Nat} {x : Value} : VR μ (.map b) x ↔ ∃ c s, μ.at_ b = some (c, s) ∧ x = .map (some c) := by unfold VR; rfl
@[simp] theorem VR_func {fn : Fn} {a b : List AV} {x : Value} : VR μ (.func fn a b) x ↔ ∃ a' b', x = .func fn a' b' ∧ VRs μ a a'.toList ∧ VRs μ b b'.toList := by unfold VR; rfl
@[simp] theorem VR_nilFunc {x : Value} : VR μ .nilFunc x ↔ x = .nilFunc := by unfold VR; rfl
@[simp] theorem VR_iface {t : Nat} {v : AV} {x : Value} : VR μ (.iface t v) x ↔ ∃ v', x = .iface t v' ∧ VR μ v v' := by
  constructor <;> intro h
  · unfold VR at h; exact h
  · unfold VR; exact h
@[simp] theorem VR_nilIface {x : Value} : VR μ .nilIface x ↔ x = .nilIface := by unfold VR; rfl
@[simp] theorem VR_agg {l : List AV} {x : Value} : VR μ (.agg l) x ↔ ∃ l', x = .agg l' ∧ VRs μ l l'.toList := by unfold VR; rfl
@[simp] theorem VR_tuple {l : List AV} {x : Value} : VR μ (.tuple l) x ↔ ∃ l', x = .tuple l' ∧ VRs μ l l'.toList := by unfold VR; rfl
theorem VRs_nil {l : List Value} : VRs μ [] l ↔ l = [] := by unfold VRs; rfl
theorem VRs_cons {v : AV} {vs : List AV} {l : List Value} : VRs μ (v :: vs) l ↔ ∃ x xs, l = x :: xs ∧ VR μ v x ∧ VRs μ vs xs := by
  constructor
  · intro h; unfold VRs at h; exact h
  · intro h; unfold VRs; exact h
end
theorem VRs.length {μ : Mp} : ∀ {l : List AV} {xs : List Value}, VRs μ l xs → xs.length = l.length
  | [], _, h => by rw [VRs_nil] at h; simp [h]
  | _ :: l, _, h => by
    rw [VRs_cons] at h
    obtain ⟨x, xs, rfl, _, h2⟩ := h
    simp [VRs.length h2]
theorem VRs.get {μ : Mp} : ∀ {l : List AV} {xs : List Value}, VRs μ l xs → ∀ (i : Nat) (v : AV), l[i]? = some v → ∃ x, xs[i]? = some x ∧ VR μ v x
  | [], _, _, i, v, hv => by simp at hv
  | a :: l, _, h, i, v, hv => by
    rw [VRs_cons] at h
    obtain ⟨x, xs, rfl, h1, h2⟩ := h
    cases i with
    | zero => simp at hv; subst hv; exact ⟨x, rfl, h1⟩
    | succ i => simp at hv; simpa using VRs.get h2 i v hv
theorem VRs.of_get {μ : Mp} : ∀ {l : List AV} {xs : List Value}, xs.length = l.length → (∀ (i : Nat) (v : AV), l[i]? = some v → ∃ x, xs[i]? = some x ∧ VR μ v x) → VRs μ l xs
  | [], xs, hl, _ => by rw [VRs_nil]; simpa using hl
  | a :: l, [], hl, _ => by simp at hl
  | a :: l, x :: xs, hl, h => by
    rw [VRs_cons]
    obtain ⟨y, hy, hr⟩ := h 0 a rfl
    simp at hy; subst hy
    exact ⟨x, xs, rfl, hr, VRs.of_get (by simpa using hl) fun i v hv => by simpa using h (i + 1) v (by simpa using hv)⟩
theorem VRs.append {μ : Mp} {l m : List AV} {xs ys : List Value} (h : VRs μ l xs) (k : VRs μ m ys) : VRs μ (l ++ m) (xs ++ ys) := by
  induction l generalizing xs with
  | nil => rw [VRs_nil] at h; subst h; simpa using k
  | cons a l ih =>
    rw [VRs_cons] at h
    obtain ⟨x, xs, rfl, h1, h2⟩ := h
    rw [List.cons_append, List.cons_append, VRs_cons]
    exact ⟨x, _, rfl, h1, ih h2⟩
theorem VRs.take {μ : Mp} {l : List AV} {xs : List Value} (h : VRs μ l xs) (n : Nat) : VRs μ (l.take n) (xs.take n) :=
  .of_get (by have := h.length; simp [this]) fun i v hv => by
    rw [List.getElem?_take] at hv ⊢
    split at hv
    · rw [if_pos (by assumption)]; exact h.get i v hv
    · cases hv
theorem VRs.drop {μ : Mp} {l : List AV} {xs : List Value} (h : VRs μ l xs) (n : Nat) : VRs μ (l.drop n) (xs.drop n) :=
  .of_get (by have := h.length; simp [this]) fun i v hv => by
    rw [List.getElem?_drop] at hv ⊢
    exact h.get _ v hv
theorem VRs.cell {μ : Mp} {v : AV} {x : Value} (h : VR μ v x) : VRs μ [v] [x] := by
  rw [VRs_cons]; exact ⟨x, [], rfl, h, by rw [VRs_nil]⟩
theorem VR.oneCell {μ : Mp} {v : AV} {x : Value} (h : VR μ v x) (hc : isCell v = true) : x.oneCell' = true := by
  cases v <;> simp at h
  case agg => cases hc
  case tuple => cases hc
  all_goals first
    | (subst h; rfl)
    | (obtain ⟨_, rfl, _⟩ := h; rfl)
    | (obtain ⟨_, _, _, rfl⟩ := h; rfl)
    | (obtain ⟨_, _, rfl, _⟩ := h; rfl)
    | (obtain ⟨_, _, _, _, rfl, _⟩ := h; rfl)
    | (obtain ⟨_, _, _, _, _, rfl, _⟩ := h; rfl)
    | (obtain ⟨_, h⟩ := h; first | (subst h; rfl) | (obtain ⟨_, h⟩ := h; first | (obtain ⟨rfl, _⟩ := h; rfl) | (obtain ⟨_, h⟩ := h; first | (obtain ⟨rfl, _⟩ := h; rfl) | (obtain ⟨_, rfl⟩ := h; rfl) | (obtain ⟨_, rfl, _⟩ := h; rfl))))
theorem cellsOf_agg (l : List AV) : cellsOf (.agg l) = l := rfl
theorem cellsOf_cell {v : AV} (h : ∀ l, v ≠ .agg l) : cellsOf v = [v] := by
  cases v <;> first | rfl | exact absurd rfl (h _)
theorem VR.cells {μ : Mp} {v : AV} {x : Value} (h : VR μ v x) : VRs μ (cellsOf v) x.cells.toList := by
  by_cases hl : ∃ l, v = .agg l
  · obtain ⟨l, rfl⟩ := hl
    rw [VR_agg] at h
    obtain ⟨l', rfl, h⟩ := h
    exact h
  · rw [cellsOf_cell (fun l e => hl ⟨l, e⟩)]
    have : x.cells = #[x] := by
      cases v <;> simp at h
      case agg => exact absurd ⟨_, rfl⟩ hl
      all_goals first
        | (subst h; rfl)
        | (obtain ⟨_, rfl, _⟩ := h; rfl)
        | (obtain ⟨_, _, _, rfl⟩ := h; rfl)
        | (obtain ⟨_, _, rfl, _⟩ := h; rfl)
        | (obtain ⟨_, _, _, _, rfl, _⟩ := h; rfl)
        | (obtain ⟨_, _, _, _, _, rfl, _⟩ := h; rfl)
        | (obtain ⟨_, h⟩ := h; obtain ⟨_, h⟩ := h; first | (obtain ⟨rfl, _⟩ := h; rfl) | (obtain ⟨_, rfl⟩ := h; rfl) | (obtain ⟨_, h⟩ := h; first | (obtain ⟨_, rfl⟩ := h; rfl) | (obtain ⟨_, rfl, _⟩ := h; rfl)))
    rw [this]
    exact VRs.cell h
def Unmarked (n : Nat) (fr : Nat × Nat) : Prop := fr.1 = fr.2 ∨ n ≤ fr.1
def EntriesR (μ : Mp) (es : List (AV × AV × Nat)) (es' : List MapEntry) : Prop :=
  es'.length = es.length ∧ ∀ (i : Nat) (k v : AV) (n : Nat), es[i]? = some (k, v, n) → isKey k = true ∧ ∃ e, es'[i]? = some e ∧ VR μ k e.key ∧ VR μ v e.val ∧ e.born = n
def BlkR (μ : Mp) (w : World) (c s : Nat) : Blk → Prop
  | .cells cs n ow => cs.length = n ∧ (∀ v ∈ cs, isCell v = true) ∧ (μ.own c = true ↔ ow ≠ .ro) ∧
      ∃ arr e fr, w.heap[c]? = some (.cells arr e fr) ∧ arr.size = μ.size c ∧ (μ.own c = true → Unmarked arr.size fr) ∧
        ∀ (i : Nat) (v : AV), cs[i]? = some v → ∃ x, arr[s + i]? = some x ∧ VR μ v x
  | .mp es n ck => es.length = n ∧ s = 0 ∧ μ.own c = true ∧ ∃ es', w.heap[c]? = some (.map es' ck) ∧ EntriesR μ es es'.toList
  | .dead => True
structure Sim (μ : Mp) (h : Hp) (w : World) : Prop where
  lt : ∀ b, h.next ≤ b → μ.at_ b = none
  fresh : ∀ b, h.next ≤ b → hget h b = none
  old : ∀ b c s, μ.at_ b = some (c, s) → c < w.heap.size
  blk : ∀ b c s x, μ.at_ b = some (c, s) → hget h b = some x → BlkR μ w c s x
  apart : ∀ b b' c s s' x x', b ≠ b' → μ.at_ b = some (c, s) → μ.at_ b' = some (c, s') → μ.own c = true → hget h b = some x → hget h b' = some x' → x ≠ .dead → x' ≠ .dead →
    ∃ cs n cs' n', x = .cells cs n (.pair b') ∧ x' = .cells cs' n' (.pair b)
  peer : ∀ b c s cs n p, μ.at_ b = some (c, s) → hget h b = some (.cells cs n (.pair p)) → ∃ y, μ.at_ p = some y
structure Goes (μ : Mp) (h : Hp) (w : World) (μ' : Mp) (h' : Hp) (w' : World) : Prop where
  next : h.next ≤ h'.next
  at_ : ∀ b, b < h.next → μ'.at_ b = μ.at_ b
  own : ∀ c, c < w.heap.size → μ'.own c = μ.own c
  size : ∀ c, c < w.heap.size → μ'.size c = μ.size c
  heap : w.heap.size ≤ w'.heap.size
  kept : ∀ c, c < w.heap.size → μ.own c = false → w'.heap[c]? = w.heap[c]?
  ghost : ∀ b, b < h.next → μ.at_ b = none → hget h' b = hget h b
  os : w'.os = w.os
  tape : w'.tape = w.tape
  output : w'.output = w.output
theorem Goes.refl {μ : Mp} {h : Hp} {w : World} (_ : Sim μ h w) : Goes μ h w μ h w :=
  ⟨Nat.le_refl _, fun _ _ => rfl, fun _ _ => rfl, fun _ _ => rfl, Nat.le_refl _, fun _ _ _ => rfl, fun _ _ _ => rfl, rfl, rfl, rfl⟩
theorem Unmarked.at_ {n : Nat} {fr : Nat × Nat} (h : Unmarked n fr) (i : Nat) (hi : i < n) : (fr.1 ≤ i && i < fr.2) = false := by
  simp only [Bool.and_eq_false_iff, decide_eq_false_iff_not]
  rcases h with h | h <;> omega
theorem Goes.le {μ μ' : Mp} {h h' : Hp} {w w' : World} (hs : Sim μ h w) (g : Goes μ h w μ' h' w') : μ.Le μ' := fun b c s e => by
  have hc := hs.old b c s e
  have hb : b < h.next := by
    rcases Nat.lt_or_ge b h.next with hb | hb
    · exact hb
    · rw [hs.lt b hb] at e; cases e
  exact ⟨by rw [g.at_ b hb]; exact e, g.size c hc, g.own c hc⟩
theorem Goes.trans {μ μ' μ'' : Mp} {h h' h'' : Hp} {w w' w'' : World} (g : Goes μ h w μ' h' w') (k : Goes μ' h' w' μ'' h'' w'') : Goes μ h w μ'' h'' w'' where
  next := Nat.le_trans g.next k.next
  at_ := fun b hb => (k.at_ b (Nat.lt_of_lt_of_le hb g.next)).trans (g.at_ b hb)
  own := fun c hc => (k.own c (Nat.lt_of_lt_of_le hc g.heap)).trans (g.own c hc)
  size := fun c hc => (k.size c (Nat.lt_of_lt_of_le hc g.heap)).trans (g.size c hc)
  heap := Nat.le_trans g.heap k.heap
  kept := fun c hc ho => (k.kept c (Nat.lt_of_lt_of_le hc g.heap) (by rw [g.own c hc]; exact ho)).trans (g.kept c hc ho)
  ghost := fun b hb he => (k.ghost b (Nat.lt_of_lt_of_le hb g.next) (by rw [g.at_ b hb]; exact he)).trans (g.ghost b hb he)
  os := k.os.trans g.os
  tape := k.tape.trans g.tape
  output := k.output.trans g.output
end Eng
