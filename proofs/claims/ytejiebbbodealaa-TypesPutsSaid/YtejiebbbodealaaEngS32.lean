/- The engine, part 32: words for walks: slices that are made, copies, twins. -/
import Derived.Test.YtejiebbbodealaaEngS31
set_option linter.unusedVariables false
set_option linter.unusedSimpArgs false
namespace Eng
open Go Go.RowKit
theorem lrep_one {α : Type} (a : α) (n : Nat) : lrep [a] n = List.replicate n a := by
  induction n with
  | zero => rfl
  | succ n ih =>
    show app [a] (lrep [a] n) = _
    rw [ih, app_eq, List.replicate_succ]; rfl
theorem u8s_zeros (n : Nat) : u8s (List.replicate n 0) = List.replicate n (.int .u8 (.ofNat 0)) := by rw [u8s_eq, List.map_replicate]
theorem zeros_lt (n : Nat) : ∀ x ∈ List.replicate n 0, x < 256 := fun x hx => by rw [(List.mem_replicate.1 hx).2]; decide
theorem make_bytes {n : Nat} (hn : n ≤ 70368744177664) : evL (.makeSlice 1 1 [.int .u8 (.ofNat 0)] (.const (.int .i64 (.ofNat n))) (.const (.int .i64 (.ofNat n)))) .lf = .ok (.sl n n 1 true) (mkCells (u8s (List.replicate n 0)) (n * 1)) := by
  show bc (lall isCell [AV.int .u8 (.ofNat 0)]) (bc (Nat.ble n n) (bc (Nat.ble (n * 1) 70368744177664) (bc (Nat.ble n 70368744177664) (OL.ok (.sl n n 1 true) (mkCells (lrep [.int .u8 (.ofNat 0)] n) (n * 1))) .no) .no) .no) .no = _
  have e1 : lall isCell [AV.int .u8 (.ofNat 0)] = true := rfl
  rw [e1, ble_dec, ble_dec, ble_dec, decide_eq_true (Nat.le_refl n), decide_eq_true (by omega), decide_eq_true hn, lrep_one, u8s_zeros]; rfl
theorem over_text (l m : List Nat) (hl : l.length ≤ m.length) : over (u8s l) (u8s m) 0 = u8s (l ++ m.drop l.length) := by
  rw [over_eq _ _ _ (Nat.zero_le _), u8s_length, List.take_zero, List.nil_append, Nat.zero_add, u8s_eq, u8s_eq, u8s_eq, List.map_append, List.map_drop]
theorem copy_ev {B : Nat} {h : Hp} {s : AV} {n : Nat} {D : List Nat} (call : CallT) (hBh : B ≤ h.next) (o : Owned 1 B h s n (u8s D)) {x : AV} {l : List Nat} (hs : ∀ {β : Type} (z : β) (k : Nat → List AV → β), src h 1 x z k = k l.length (u8s l)) (hl : l.length ≤ n) :
    ∃ e : Ev, evE (.copy 1 (.const s) (.const x)) call .lf h = .ok (.int .i64 (.ofNat l.length)) e.h ∧ Owned 1 B e.h s n (u8s (l ++ D.drop l.length)) ∧ Old B h e.h ∧ B ≤ e.h.next := by
  generalize hDD : u8s D = L at o
  cases o with
  | nil =>
    obtain rfl : l = [] := List.eq_nil_of_length_eq_zero (by omega)
    refine ⟨⟨.nilPtr, .lf, h⟩, ?_, ?_, .refl B h, hBh⟩
    · show oCopy 1 (.const .nilSlice) (.const x) .lf h = _
      unfold oCopy
      rw [evX_const, hs]; rfl
    · have : D = [] := by cases D with
        | nil => rfl
        | cons y D => cases hDD
      subst this; exact .nil
  | @sl b n ex w L hB hb hg hL hw =>
    subst hDD
    have hD : D.length = n := by rw [u8s_length] at hL; omega
    have key : evE (.copy 1 (.const (.slice b 0 n n 1 ex)) (.const x)) call .lf h = bc (Nat.beq (cut l.length n) 0) (rvN 0 h) (wrN h b 0 (bc (Nat.ble l.length n) (u8s l) (take (u8s l) (n * 1))) (cut l.length n * 1) (.int .i64 (.ofNat (cut l.length n)))) := by
      show oCopy 1 (.const (.slice b 0 n n 1 ex)) (.const x) .lf h = _
      unfold oCopy
      rw [evX_const, hs]; rfl
    have hc : cut l.length n = l.length := by rw [cut_eq]; omega
    rw [hc, ble_dec, decide_eq_true hl, bc_eq (b := true), if_pos rfl] at key
    by_cases h0 : l.length = 0
    · obtain rfl : l = [] := List.eq_nil_of_length_eq_zero h0
      refine ⟨⟨.nilPtr, .lf, h⟩, key, ?_, .refl B h, hBh⟩
      exact .sl hB hb hg hL hw
    · rw [beqF h0, bc_eq, if_neg (by decide)] at key
      have hw2 : wrN h b 0 (u8s l) (l.length * 1) (.int .i64 (.ofNat l.length)) = put h b (u8s (l ++ D.drop l.length)) n w (.int .i64 (.ofNat l.length)) := by
        show hcells h b RV.no _ = _
        unfold hcells
        rw [hg]
        show bc (Nat.ble (0 + l.length * 1) (n * 1)) (put h b (over (u8s l) (u8s D) 0) (n * 1) w _) .no = _
        rw [ble_dec, decide_eq_true (by omega), over_text l D (by omega), Nat.mul_one]; rfl
      rw [hw2] at key
      have hlen : (u8s (l ++ D.drop l.length)).length = n * 1 := by rw [u8s_length, List.length_append, List.length_drop]; omega
      have fin : ∀ g : Hp, g.next = h.next → (∀ j, j < B → hget g j = hget h j) → Owned 1 B (hset g b (.cells (u8s (l ++ D.drop l.length)) n .solo)) (.slice b 0 n n 1 ex) n (u8s (l ++ D.drop l.length)) ∧ Old B h (hset g b (.cells (u8s (l ++ D.drop l.length)) n .solo)) ∧ B ≤ (hset g b (.cells (u8s (l ++ D.drop l.length)) n .solo)).next := fun g hgn hgo =>
        ⟨.sl hB (by rw [hset_next, hgn]; exact hb) (by rw [hget_hset, Nat.mul_one]) hlen (.inl rfl), ⟨by rw [hset_next, hgn]; exact Nat.le_refl _, fun j hj => by rw [hget_hset_ne _ _ (by omega), hgo j hj]⟩, by rw [hset_next, hgn]; exact hBh⟩
      rcases hw with hw | ⟨p, hw, hp1, hp2⟩
      · subst hw
        exact ⟨⟨.nilPtr, .lf, _⟩, key, fin h rfl fun _ _ => rfl⟩
      · subst hw
        exact ⟨⟨.nilPtr, .lf, _⟩, key, fin (hset h p .dead) rfl fun j hj => hget_hset_ne h _ (by omega)⟩
def TwinAt (h : Hp) (v : AV) (l : List Nat) : Prop := ∃ b w, v = .slice b 0 l.length (l.length + 3) 1 true ∧ b < h.next ∧ hget h b = some (.cells (u8s (l ++ [229, 229, 229])) (l.length + 3) w) ∧ ∀ x ∈ l, x < 256
theorem TwinAt.bytes {h : Hp} {v : AV} {l : List Nat} (o : TwinAt h v l) : Bytes h.next h v l := by
  obtain ⟨b, w, rfl, hb, hg, hl⟩ := o
  refine .sl hb hg (by rw [u8s_length]; simp) ?_ (by omega) (by omega) hl
  rw [List.drop_zero, u8s_eq, u8s_eq, ← List.map_take, List.take_left' rfl]
theorem q_sliceOwn {b n c k : Nat} {ex : Bool} (hk : k ≤ c) : evQ (.sliceSl 1 (.const (.slice b 0 n c 1 ex)) none (some (.const (.int .i64 (.ofNat k)))) none) .lf H0 = .ok (.slice b 0 k c 1 ex) := by
  show bc (Nat.beq 1 1) (bc (Nat.ble k c) (OV.ok (.slice b (0 + 0 * 1) (k - 0) (c - 0) 1 (ocase ex (fun _ => true) (none : Option AX)))) .no) .no = _
  rw [ble_dec, decide_eq_true hk]; rfl
def TwinS (call : CallT) (f : Nat) : Prop := ∀ {B : Nat} {h : Hp} {vb : AV} {l : List Nat}, B ≤ h.next → Bytes B h vb l → l.length ≤ 1099511627776 → ∃ rv rh, call f [vb] h = .ok rv rh ∧ TwinAt rh rv l ∧ Old B h rh ∧ B ≤ rh.next
def KeptS (call : CallT) (f : Nat) : Prop := ∀ {h : Hp} {vb vt : AV} {l : List Nat}, TwinAt h vt l → Bytes h.next h vb l → l.length ≤ 1099511627776 → call f [vt, vb] h = .ok (.bool true) h
theorem ltI_true {a b : Nat} (h : a < b) : ltI (.ofNat a) (.ofNat b) = true := by rw [ltI_eq]; simpa using h
theorem ltI_false {a b : Nat} (h : b ≤ a) : ltI (.ofNat a) (.ofNat b) = false := by rw [ltI_eq]; simpa using h
theorem eqI_true {a b : Nat} (h : a = b) : eqI (.ofNat a) (.ofNat b) = true := by rw [eqI_eq, h]; simp
theorem eqI_false {a b : Nat} (h : a ≠ b) : eqI (.ofNat a) (.ofNat b) = false := by
  cases e : eqI (.ofNat a) (.ofNat b) with
  | false => rfl
  | true => rw [eqI_eq] at e; have := eq_of_beq e; exact absurd (Int.ofNat.inj this) h
theorem twin_text (l : List Nat) : (((l ++ (List.replicate (l.length + 3) 0).drop l.length).set l.length 229).set (l.length + 1) 229).set (l.length + 1 + 1) 229 = l ++ [229, 229, 229] := by
  have e : (List.replicate (l.length + 3) 0).drop l.length = [0, 0, 0] := by rw [List.drop_replicate, show l.length + 3 - l.length = 3 by omega]; rfl
  rw [e, List.set_append_right _ _ (Nat.le_refl _), List.set_append_right _ _ (by omega), List.set_append_right _ _ (by omega), Nat.sub_self, show l.length + 1 - l.length = 1 by omega, show l.length + 1 + 1 - l.length = 2 by omega]
  rfl
theorem spare_at (l : List Nat) {j : Nat} (hj : j < 3) : (l ++ [229, 229, 229]).getD (l.length + j) 0 = 229 := by
  rw [List.getD_eq_getElem?_getD, List.getElem?_append_right (by omega), show l.length + j - l.length = j by omega]
  have : j = 0 ∨ j = 1 ∨ j = 2 := by omega
  rcases this with rfl | rfl | rfl <;> rfl
end Eng
namespace Eng
open Go
theorem eqStr_sameN (s : List Nat) : evQ (.eq .str true (.const (.str s)) (.const (.str s))) .lf H0 = .ok (.bool false) := by
  show OV.ok (.bool (notB (strEq s s))) = _
  rw [strEq_iff]; simp; rfl
theorem copy_lt {l m : List Nat} {k : Nat} (hl : ∀ x ∈ l, x < 256) (hm : ∀ x ∈ m, x < 256) : ∀ x ∈ l ++ m.drop k, x < 256 := fun x hx => by
  rcases List.mem_append.1 hx with h | h
  · exact hl x h
  · exact hm x (List.mem_of_mem_drop h)
end Eng
namespace Eng
open Go
theorem twin_of {C : Nat} {h : Hp} {b : Nat} {l : List Nat} (o : Owned 1 C h (.slice b 0 (l.length + 3) (l.length + 3) 1 true) (l.length + 3) (u8s (l ++ [229, 229, 229]))) (hl : ∀ x ∈ l, x < 256) : TwinAt h (.slice b 0 l.length (l.length + 3) 1 true) l := by
  generalize hv : AV.slice b 0 (l.length + 3) (l.length + 3) 1 true = v at o
  generalize hL : u8s (l ++ [229, 229, 229]) = L at o
  generalize hn : l.length + 3 = n at o
  cases o with
  | nil => cases hv
  | sl hB hb hg hl' hw =>
    cases hv
    subst hL
    exact ⟨_, _, by rw [hn], hb, by rw [hn, ← Nat.mul_one (l.length + 3), hn] at *; simpa using hg, hl⟩
end Eng
namespace Eng
open Go
theorem q_idxO {B : Nat} {h : Hp} {v : AV} {n : Nat} {L : List AV} (o : Owned 1 B h v n L) {k : Nat} (hk : k < n) : evQ (.idxAddrSl 1 (.const v) (.const (.int .i64 (.ofNat k)))) .lf H0 = .ok (elemP v k 1) := by
  cases o with
  | nil => exact absurd hk (Nat.not_lt_zero _)
  | sl => exact q_idx hk
end Eng
namespace Eng
theorem eqI_self (n : Int) : eqI n n = true := by rw [eqI_eq]; simp
end Eng
