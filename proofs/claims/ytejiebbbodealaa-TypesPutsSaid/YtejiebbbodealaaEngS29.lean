/- The engine, part 29: words for walks: slices that a call owns, appends. -/
import Derived.Test.YtejiebbbodealaaEngS28
set_option linter.unusedVariables false
set_option linter.unusedSimpArgs false
namespace Eng
open Go Go.RowKit
structure Old (B : Nat) (h h' : Hp) : Prop where
  next : h.next ≤ h'.next
  get : ∀ b, b < B → hget h' b = hget h b
theorem Old.refl (B : Nat) (h : Hp) : Old B h h := ⟨Nat.le_refl _, fun _ _ => rfl⟩
theorem Old.trans {B : Nat} {h h' h'' : Hp} (a : Old B h h') (b : Old B h' h'') : Old B h h'' := ⟨Nat.le_trans a.next b.next, fun k hk => (b.get k hk).trans (a.get k hk)⟩
theorem Old.le {B C : Nat} {h h' : Hp} (a : Old B h h') (hc : C ≤ B) : Old C h h' := ⟨a.next, fun k hk => a.get k (by omega)⟩
theorem Old.push {B : Nat} {h : Hp} (hB : B ≤ h.next) (x : Blk) : Old B h (hpush h x) := ⟨Nat.le_succ _, fun k hk => hget_hpush_ne h x (by omega)⟩
theorem Old.set {B b : Nat} {h : Hp} (hB : B ≤ b) (x : Blk) : Old B h (hset h b x) := ⟨Nat.le_refl _, fun k hk => hget_hset_ne h x (by omega)⟩
inductive Owned (sz B : Nat) (h : Hp) : AV → Nat → List AV → Prop
  | nil : Owned sz B h .nilSlice 0 []
  | sl {b n : Nat} {ex : Bool} {w : Own} {L : List AV} (hB : B ≤ b) (hb : b < h.next) (hg : hget h b = some (.cells L (n * sz) w)) (hl : L.length = n * sz) (hw : w = .solo ∨ ∃ p, w = .pair p ∧ (B ≤ p ∧ p < h.next) ∧ p ≠ b) :
    Owned sz B h (.slice b 0 n n sz ex) n L
theorem Owned.push {sz B : Nat} {h : Hp} {s : AV} {n : Nat} {L : List AV} (o : Owned sz B h s n L) (x : Blk) : Owned sz B (hpush h x) s n L := by
  cases o with
  | nil => exact .nil
  | sl hB hb hg hl hw => exact .sl hB (by rw [hpush_next]; omega) (by rw [hget_hpush_ne h x (by omega)]; exact hg) hl (hw.imp id fun ⟨p, h1, h2, h3⟩ => ⟨p, h1, ⟨h2.1, by rw [hpush_next]; omega⟩, h3⟩)
theorem Owned.low {sz B C : Nat} {h : Hp} {s : AV} {n : Nat} {L : List AV} (o : Owned sz B h s n L) (hc : C ≤ B) : Owned sz C h s n L := by
  cases o with
  | nil => exact .nil
  | sl hB hb hg hl hw => exact .sl (by omega) hb hg hl (by rcases hw with h | ⟨p, h1, h2, h3⟩; exact .inl h; exact .inr ⟨p, h1, by omega, h3⟩)
theorem Owned.old {sz B C : Nat} {h h' : Hp} {s : AV} {n : Nat} {L : List AV} (o : Owned sz B h s n L) (a : Old C h h') (hc : h.next ≤ C) : Owned sz B h' s n L := by
  cases o with
  | nil => exact .nil
  | sl hB hb hg hl hw => exact .sl hB (by have := a.next; omega) (by rw [a.get _ (by omega)]; exact hg) hl (hw.imp id fun ⟨p, h1, h2, h3⟩ => ⟨p, h1, ⟨h2.1, by have := a.next; omega⟩, h3⟩)
theorem Owned.blk {sz B : Nat} {h : Hp} {s : AV} {n : Nat} {L : List AV} (o : Owned sz B h s n L) : ∀ b o' l c z ex, s = .slice b o' l c z ex → b < h.next := by
  cases o with
  | nil => intro b o' l c z ex e; cases e
  | sl hB hb hg hl hw => intro b o' l c z ex e; cases e; exact hb
theorem Owned.keep {sz B C : Nat} {h h' : Hp} {s : AV} {n : Nat} {L : List AV} (o : Owned sz B h s n L) (hs : ∀ b o' l c z ex, s = .slice b o' l c z ex → b < C) (a : Old C h h') : Owned sz B h' s n L := by
  cases o with
  | nil => exact .nil
  | sl hB hb hg hl hw => exact .sl hB (by have := a.next; omega) (by rw [a.get _ (hs _ _ _ _ _ _ rfl)]; exact hg) hl (hw.imp id fun ⟨p, h1, h2, h3⟩ => ⟨p, h1, ⟨h2.1, by have := a.next; omega⟩, h3⟩)
theorem part_all (cs : List AV) (n : Nat) : part cs n 0 n = cs := by
  unfold part
  rw [Nat.beq_refl]
  show bc (Nat.beq n n) cs _ = cs
  rw [Nat.beq_refl]; rfl
theorem appendTo_own {sz bytes B : Nat} {h : Hp} {s : AV} {n : Nat} {L : List AV} (hBh : B ≤ h.next) (o : Owned sz B h s n L) {m : Nat} {xs : List AV} (hx : xs.length = m * sz) (hm : 0 < m)
    (h1 : (n + m) * bytes ≤ 70368744177664) (h2 : n + m ≤ 70368744177664) :
    ∃ h', appendTo h sz bytes s m xs = .ok (.slice h.next 0 (n + m) (n + m) sz false) h' ∧ Owned sz B h' (.slice h.next 0 (n + m) (n + m) sz false) (n + m) (L ++ xs) ∧ Old B h h' ∧ h'.next = h.next + 1 := by
  have hm0 : Nat.beq m 0 = false := beqF (by omega)
  cases o with
  | nil =>
    refine ⟨hpush h (mkCells xs (m * sz)), ?_, ?_, .push hBh _, rfl⟩
    · show bc (Nat.beq m 0) (RV.ok .nilSlice h) (bc (Nat.ble (Nat.mul m bytes) 70368744177664) (bc (Nat.ble m 70368744177664) (grown h m sz xs) .no) .no) = _
      rw [hm0, ble_dec, ble_dec, decide_eq_true (by simpa using h1), decide_eq_true (by simpa using h2)]
      rw [Nat.zero_add]; rfl
    · rw [Nat.zero_add, List.nil_append]
      exact .sl hBh (Nat.lt_succ_self _) (hget_hpush h _) hx (.inl rfl)
  | @sl b n ex w L hB hb hg hl hw =>
    have hnm : Nat.ble (n + m) n = false := by rw [ble_dec]; exact decide_eq_false (by omega)
    have key : appendTo h sz bytes (.slice b 0 n n sz ex) m xs = more h b 0 n sz m ex xs := by
      show bc (Nat.beq sz sz) (bc (Nat.ble (n + m) n) _ (bc (Nat.ble ((n + m) * bytes) 70368744177664) (bc (Nat.ble (n + m) 70368744177664) (more h b 0 n sz m ex xs) .no) .no)) RV.no = _
      rw [Nat.beq_refl, hnm, ble_dec, ble_dec, decide_eq_true h1, decide_eq_true h2]; rfl
    have hmul : Nat.mul n sz = n * sz := rfl
    have e0 : Nat.add 0 (Nat.mul n sz) = n * sz := Nat.zero_add _
    have key2 : more h b 0 n sz m ex xs = bc ex (grown h (n + m) sz (app L xs))
        (w.peer .no (shared h b (n + m) sz L (n * sz) (app L xs)) fun p => bc (Nat.beq p b) .no (shared (hset h p .dead) b (n + m) sz L (n * sz) (app L xs))) := by
      show hcells h b RV.no _ = _
      unfold hcells
      rw [hg]
      show bc (Nat.ble (Nat.add 0 (Nat.mul n sz)) (n * sz)) (bc ex (grown h (Nat.add n m) sz (app (part L (n * sz) 0 (Nat.mul n sz)) xs)) (bc (Nat.beq (Nat.add 0 (Nat.mul n sz)) (n * sz)) _ _)) RV.no = _
      rw [e0, hmul, part_all, Nat.beq_refl, ble_dec, decide_eq_true (Nat.le_refl _)]; rfl
    rw [key, key2, app_eq]
    have hlen : (L ++ xs).length = (n + m) * sz := by rw [List.length_append, hl, hx, Nat.add_mul]
    cases ex with
    | true =>
      exact ⟨hpush h (mkCells (L ++ xs) ((n + m) * sz)), rfl, .sl hBh (Nat.lt_succ_self _) (hget_hpush h _) hlen (.inl rfl), .push hBh _, rfl⟩
    | false =>
      have fin : ∀ g : Hp, g.next = h.next → (∀ k, k < B → hget g k = hget h k) → ∃ h', shared g b (n + m) sz L (n * sz) (L ++ xs) = .ok (.slice h.next 0 (n + m) (n + m) sz false) h' ∧ Owned sz B h' (.slice h.next 0 (n + m) (n + m) sz false) (n + m) (L ++ xs) ∧ Old B h h' ∧ h'.next = h.next + 1 := by
        intro g hgn hgo
        refine ⟨hset (hpush g (.cells (L ++ xs) ((n + m) * sz) (.pair b))) b (.cells L (n * sz) (.pair g.next)), ?_, ?_, ?_, ?_⟩
        · show RV.ok (.slice g.next 0 (n + m) (n + m) sz false) _ = _
          rw [hgn]
          rfl
        · refine .sl hBh (by rw [hset_next, hpush_next, hgn]; omega) (w := .pair b) ?_ hlen (.inr ⟨b, rfl, ⟨hB, by rw [hset_next, hpush_next, hgn]; omega⟩, by omega⟩)
          rw [hget_hset_ne _ _ (by omega), ← hgn, hget_hpush]
        · refine ⟨by rw [hset_next, hpush_next, hgn]; omega, fun k hk => ?_⟩
          rw [hget_hset_ne _ _ (by omega), hget_hpush_ne _ _ (by omega), hgo k hk]
        · rw [hset_next, hpush_next, hgn]
      show ∃ h', (w.peer RV.no (shared h b (n + m) sz L (n * sz) (L ++ xs)) fun p => bc (Nat.beq p b) .no (shared (hset h p .dead) b (n + m) sz L (n * sz) (L ++ xs))) = _ ∧ _
      rcases hw with hw | ⟨p, hw, hp1, hp2⟩
      · subst hw; exact fin h rfl fun _ _ => rfl
      · subst hw
        show ∃ h', bc (Nat.beq p b) RV.no (shared (hset h p .dead) b (n + m) sz L (n * sz) (L ++ xs)) = _ ∧ _
        rw [beqF hp2]
        exact fin (hset h p .dead) rfl fun k hk => hget_hset_ne h _ (by omega)
theorem own_lit {sz B n : Nat} {h : Hp} (hB : B ≤ h.next) {xs : List AV} (hx : xs.length = n * sz) : Owned sz B (hpush h (mkCells xs (n * sz))) (.slice h.next 0 n n sz true) n xs :=
  .sl hB (Nat.lt_succ_self _) (hget_hpush h _) hx (.inl rfl)
theorem Owned.len {sz B n : Nat} {h : Hp} {v : AV} {L : List AV} (o : Owned sz B h v n L) : L.length = n * sz := by
  cases o with
  | nil => simp
  | sl hB hb hg hl hw => exact hl
theorem appendTo_none {sz bytes : Nat} {h : Hp} {s : AV} {n B : Nat} {L : List AV} (o : Owned sz B h s n L) : appendTo h sz bytes s 0 [] = .ok s h := by
  cases o with
  | nil => rfl
  | @sl b n ex w L hB hb hg hl hw =>
    show bc (Nat.beq sz sz) (bc (Nat.ble (n + 0) n) (RV.ok (.slice b 0 n n sz ex) h) _) RV.no = _
    rw [Nat.beq_refl, ble_dec, decide_eq_true (by omega)]; rfl
theorem src_lit {β : Type} {h : Hp} {sz b m : Nat} {ex : Bool} {xs : List AV} {w : Own} {z : β} {k : Nat → List AV → β} (hg : hget h b = some (.cells xs (m * sz) w)) : src h sz (.slice b 0 m m sz ex) z k = k m xs := by
  show bc (Nat.beq sz sz) (rdN h b 0 (Nat.mul m sz) z fun l => k m l) z = _
  rw [Nat.beq_refl]
  show hcells h b z _ = _
  unfold hcells
  rw [hg]
  show bc (Nat.ble (Nat.add 0 (m * sz)) (m * sz)) (k m (part xs (m * sz) 0 (m * sz))) z = _
  have e0 : Nat.add 0 (m * sz) = m * sz := Nat.zero_add _
  rw [e0, part_all, ble_dec, decide_eq_true (Nat.le_refl _)]; rfl
theorem src_nil {β : Type} {h : Hp} {sz : Nat} {z : β} {k : Nat → List AV → β} : src h sz .nilSlice z k = k 0 [] := rfl
theorem src_str {β : Type} {h : Hp} {s : List Nat} {z : β} {k : Nat → List AV → β} : src h 1 (.str s) z k = k s.length (u8s s) := by
  show bc (Nat.beq 1 1) (k (len s) (u8s s)) z = _
  rw [Nat.beq_refl, len_eq]; rfl
theorem src_owned {β : Type} {h : Hp} {sz B : Nat} {s : AV} {n : Nat} {L : List AV} (o : Owned sz B h s n L) {z : β} {k : Nat → List AV → β} : src h sz s z k = k n L := by
  cases o with
  | nil => rfl
  | sl hB hb hg hl hw => exact src_lit hg
theorem rdN_of {β : Type} {h : Hp} {b o n m : Nat} {cs : List AV} {w : Own} {z : β} {k : List AV → β} (hg : hget h b = some (.cells cs m w)) (hm : o + n ≤ m) (hc : cs.length = m) : rdN h b o n z k = k ((cs.drop o).take n) := by
  show hcells h b z _ = _
  unfold hcells
  rw [hg]
  show bc (Nat.ble (o + n) m) (k (part cs m o n)) z = _
  rw [ble_dec, decide_eq_true hm, part_eq hc hm]; rfl
theorem bytesAV_u8s : ∀ {l : List Nat}, (∀ x ∈ l, x < 256) → bytesAV (u8s l) = some l
  | [], _ => rfl
  | x :: l, h => by
    show bc (Nat.blt x 256) (ocase none (fun s => some (x :: s)) (bytesAV (u8s l))) none = some (x :: l)
    rw [blt_dec, decide_eq_true (h x (by simp)), bytesAV_u8s fun y hy => h y (by simp [hy])]; rfl
inductive Bytes (B : Nat) (h : Hp) : AV → List Nat → Prop
  | nil : Bytes B h .nilSlice []
  | sl {b o c : Nat} {ex : Bool} {cs : List AV} {m : Nat} {w : Own} {l : List Nat} (hB : b < B) (hg : hget h b = some (.cells cs m w)) (hcl : cs.length = m) (hl : (cs.drop o).take l.length = u8s l) (hm : o + l.length ≤ m) (hc : l.length ≤ c) (hb : ∀ x ∈ l, x < 256) :
    Bytes B h (.slice b o l.length c 1 ex) l
theorem Bytes.lt {B : Nat} {h : Hp} {v : AV} {l : List Nat} (o : Bytes B h v l) : ∀ x ∈ l, x < 256 := by
  cases o with
  | nil => simp
  | sl hB hg hcl hl hm hc hb => exact hb
theorem u8s_len1 (l : List Nat) : (u8s l).length = l.length * 1 := by rw [u8s_length, Nat.mul_one]
theorem src_bytes {B : Nat} {h : Hp} {v : AV} {l : List Nat} (o : Bytes B h v l) {β : Type} (z : β) (k : Nat → List AV → β) : src h 1 v z k = k l.length (u8s l) := by
  cases o with
  | nil => rfl
  | @sl b o c ex cs m w l hB hg hcl hl hm hc hb =>
    show bc (Nat.beq 1 1) (rdN h b o (Nat.mul l.length 1) z fun l' => k l.length l') z = _
    rw [Nat.beq_refl]
    show rdN h b o (l.length * 1) z _ = _
    rw [Nat.mul_one, rdN_of hg hm hcl, hl]
theorem q_toStr {B : Nat} {h : Hp} {v : AV} {l : List Nat} (o : Bytes B h v l) : evQ (.toStr (.const v)) .lf h = .ok (.str l) := by
  cases o with
  | nil => rfl
  | @sl b o c ex cs m w l hB hg hcl hl hm hc hb =>
    show bc (Nat.beq 1 1) (rdN h b o l.length OV.no fun cs => ocase .no (fun s => .ok (.str s)) (bytesAV cs)) .no = _
    have e : Nat.beq 1 1 = true := rfl
    rw [e, bc_eq, if_pos rfl, rdN_of hg hm hcl, hl, bytesAV_u8s hb]; rfl
theorem q_len {B : Nat} {h : Hp} {v : AV} {l : List Nat} (o : Bytes B h v l) : evQ (.lenL (.const v)) .lf H0 = .ok (.int .i64 (.ofNat l.length)) := by
  cases o <;> rfl
theorem q_lenO {sz B : Nat} {h : Hp} {v : AV} {n : Nat} {L : List AV} (o : Owned sz B h v n L) : evQ (.lenL (.const v)) .lf H0 = .ok (.int .i64 (.ofNat n)) := by
  cases o <;> rfl
theorem q_idxB {B : Nat} {h : Hp} {v : AV} {l : List Nat} (o : Bytes B h v l) {k : Nat} (hk : k < l.length) : evQ (.idxAddrSl 1 (.const v) (.const (.int .i64 (.ofNat k)))) .lf H0 = .ok (elemP v k 1) := by
  cases o with
  | nil => exact absurd hk (Nat.not_lt_zero _)
  | sl hB hg hcl hl hm hc hb => exact q_idx hk
theorem q_byte {B : Nat} {h : Hp} {v : AV} {l : List Nat} (o : Bytes B h v l) {k : Nat} (hk : k < l.length) : evQ (.loadS (.const (elemP v k 1))) .lf h = .ok (.int .u8 (.ofNat (l.getD k 0))) := by
  cases o with
  | nil => exact absurd hk (Nat.not_lt_zero _)
  | @sl b o c ex cs m w l hB hg hcl hl hm hc hb =>
    refine q_load hg ?_
    have h1 : ((cs.drop o).take l.length)[k]? = (u8s l)[k]? := by rw [hl]
    rw [List.getElem?_take_of_lt hk, List.getElem?_drop, u8s_eq, List.getElem?_map] at h1
    rw [Nat.mul_one, h1, List.getElem?_eq_getElem hk]
    simp [List.getD_eq_getElem?_getD, List.getElem?_eq_getElem hk]
theorem Owned.bytes {B C : Nat} {h : Hp} {s : AV} {n : Nat} {l : List Nat} (o : Owned 1 B h s n (u8s l)) (hb : ∀ x ∈ l, x < 256) (hC : h.next ≤ C) : Bytes C h s l := by
  generalize hL : u8s l = L at o
  cases o with
  | nil =>
    cases l with
    | nil => exact .nil
    | cons x l => cases hL
  | @sl b n ex w L hB hb' hg hl hw =>
    subst hL
    have hn : l.length = n := by rw [u8s_length] at hl; omega
    subst hn
    exact .sl (by omega) hg hl (by rw [List.drop_zero, List.take_of_length_le (by rw [u8s_length]; omega)]) (by omega) (Nat.le_refl _) hb
theorem Bytes.old {B : Nat} {h h' : Hp} {v : AV} {l : List Nat} (o : Bytes B h v l) (a : Old B h h') : Bytes B h' v l := by
  cases o with
  | nil => exact .nil
  | sl hB hg hcl hl hm hc hb => exact .sl hB (by rw [a.get _ hB]; exact hg) hcl hl hm hc hb
theorem Bytes.up {B C : Nat} {h : Hp} {v : AV} {l : List Nat} (o : Bytes B h v l) (hC : B ≤ C) : Bytes C h v l := by
  cases o with
  | nil => exact .nil
  | sl hB hg hcl hl hm hc hb => exact .sl (by omega) hg hcl hl hm hc hb
theorem Bytes.part {B : Nat} {h : Hp} {v : AV} {l : List Nat} (o : Bytes B h v l) {lo hi : Nat} (h1 : lo ≤ hi) (h2 : hi ≤ l.length) : Bytes B h (partS v lo hi) ((l.take hi).drop lo) := by
  cases o with
  | nil =>
    have : hi = 0 := Nat.le_zero.1 h2
    subst this
    obtain rfl : lo = 0 := Nat.le_zero.1 h1
    exact .nil
  | @sl b o c ex cs m w l hB hg hcl hl hm hc hb =>
    have hlen : ((l.take hi).drop lo).length = hi - lo := by rw [List.length_drop, List.length_take]; omega
    have key : partS (.slice b o l.length c 1 ex) lo hi = .slice b (o + lo) ((l.take hi).drop lo).length (c - lo) 1 ex := by
      rw [hlen]
      show AV.slice b (o + lo * 1) (hi - lo) (c - lo) 1 ex = _
      rw [Nat.mul_one]
    rw [key]
    refine .sl hB hg hcl ?_ (by rw [hlen]; omega) (by rw [hlen]; omega) (fun x hx => hb x (List.mem_of_mem_take (List.mem_of_mem_drop hx)))
    rw [hlen]
    have e1 : (cs.drop (o + lo)).take (hi - lo) = (((cs.drop o).take l.length).take hi).drop lo := by
      rw [List.take_take, List.drop_take, List.drop_drop, Nat.min_eq_left h2]
    rw [e1, hl, u8s_eq, u8s_eq, ← List.map_take, ← List.map_drop]
theorem q_slice {B : Nat} {h : Hp} {v : AV} {l : List Nat} (o : Bytes B h v l) {lo hi : Nat} (h1 : lo ≤ hi) (h2 : hi ≤ l.length) :
    evQ (.sliceSl 1 (.const v) (some (.const (.int .i64 (.ofNat lo)))) (some (.const (.int .i64 (.ofNat hi)))) none) .lf H0 = .ok (partS v lo hi) := by
  cases o with
  | nil =>
    have : hi = 0 := Nat.le_zero.1 h2
    subst this
    obtain rfl : lo = 0 := Nat.le_zero.1 h1
    rfl
  | @sl b o c ex cs m w l hB hg hcl hl hm hc hb =>
    show bc (Nat.beq 1 1) (bc (Nat.ble hi c) (bc (Nat.ble lo hi) (OV.ok (.slice b (o + lo * 1) (hi - lo) (c - lo) 1 (ocase ex (fun _ => true) (none : Option AX)))) .no) .no) .no = _
    rw [ble_dec, ble_dec, decide_eq_true (by omega), decide_eq_true h1]; rfl
theorem q_sliceFrom {B : Nat} {h : Hp} {v : AV} {l : List Nat} (o : Bytes B h v l) {lo : Nat} (h1 : lo ≤ l.length) :
    evQ (.sliceSl 1 (.const v) (some (.const (.int .i64 (.ofNat lo)))) none none) .lf H0 = .ok (partS v lo l.length) := by
  cases o with
  | nil =>
    obtain rfl : lo = 0 := Nat.le_zero.1 h1
    rfl
  | @sl b o c ex cs m w l hB hg hcl hl hm hc hb =>
    show bc (Nat.beq 1 1) (bc (Nat.ble lo l.length) (OV.ok (.slice b (o + lo * 1) (l.length - lo) (c - lo) 1 (ocase ex (fun _ => true) (none : Option AX)))) .no) .no = _
    rw [ble_dec, decide_eq_true h1]; rfl
end Eng
namespace Eng
open Go Go.RowKit
theorem append_ev {sz bytes B : Nat} {h : Hp} {s : AV} {n : Nat} {L : List AV} (call : CallT) (hBh : B ≤ h.next) (o : Owned sz B h s n L) {x : AV} {m : Nat} {xs : List AV} (hs : ∀ {β : Type} (z : β) (k : Nat → List AV → β), src h sz x z k = k m xs)
    (hx : xs.length = m * sz) (h1 : (n + m) * bytes ≤ 70368744177664) (h2 : n + m ≤ 70368744177664) :
    ∃ e : Ev, evE (.append sz bytes (.const s) (.const x)) call .lf h = .ok e.v e.h ∧ Owned sz B e.h e.v (n + m) (L ++ xs) ∧ Old B h e.h ∧ B ≤ e.h.next := by
  rcases Nat.eq_zero_or_pos m with hm | hm
  · subst hm
    obtain rfl : xs = [] := List.eq_nil_of_length_eq_zero (by omega)
    refine ⟨⟨s, .lf, h⟩, ?_, by simpa using o, .refl B h, hBh⟩
    show src h sz x RV.no (fun m xs => appendTo h sz bytes s m xs) = _
    rw [hs]; exact appendTo_none o
  · obtain ⟨h', e1, o1, p1, n1⟩ := appendTo_own (bytes := bytes) hBh o hx hm h1 h2
    refine ⟨⟨_, .lf, h'⟩, ?_, o1, p1, by show B ≤ h'.next; omega⟩
    show src h sz x RV.no (fun m xs => appendTo h sz bytes s m xs) = _
    rw [hs]; exact e1
end Eng
namespace Eng
open Go Go.RowKit
theorem part_from {B : Nat} {h : Hp} {v : AV} {l : List Nat} (o : Bytes B h v l) {lo : Nat} (h1 : lo ≤ l.length) : Bytes B h (partS v lo l.length) (l.drop lo) := by
  have := o.part h1 (Nat.le_refl _)
  rwa [List.take_of_length_le (Nat.le_refl _)] at this
theorem part_to {B : Nat} {h : Hp} {v : AV} {l : List Nat} (o : Bytes B h v l) {hi : Nat} (h1 : hi ≤ l.length) : Bytes B h (partS v 0 hi) (l.take hi) := by
  have := o.part (Nat.zero_le hi) h1
  rwa [List.drop_zero] at this
theorem q_sliceTo {B : Nat} {h : Hp} {v : AV} {l : List Nat} (o : Bytes B h v l) {hi : Nat} (h2 : hi ≤ l.length) :
    evQ (.sliceSl 1 (.const v) none (some (.const (.int .i64 (.ofNat hi)))) none) .lf H0 = .ok (partS v 0 hi) := by
  cases o with
  | nil =>
    have : hi = 0 := Nat.le_zero.1 h2
    subst this
    rfl
  | @sl b o c ex cs m w l hB hg hcl hl hm hc hb =>
    show bc (Nat.beq 1 1) (bc (Nat.ble hi c) (OV.ok (.slice b (o + 0 * 1) (hi - 0) (c - 0) 1 (ocase ex (fun _ => true) (none : Option AX)))) .no) .no = _
    rw [ble_dec, decide_eq_true (by omega)]; rfl
end Eng
namespace Eng
open Go Go.RowKit
theorem store_ev {B : Nat} {h : Hp} {s : AV} {n : Nat} {L : List AV} (call : CallT) (hBh : B ≤ h.next) (o : Owned 1 B h s n L) {k : Nat} (hk : k < n) {x : AV} (hx : isCell x = true) :
    ∃ e : Ev, evE (.store 1 (.const (elemP s k 1)) (.const x)) call .lf h = .ok undef e.h ∧ Owned 1 B e.h s n (L.set k x) ∧ Old B h e.h ∧ B ≤ e.h.next := by
  cases o with
  | nil => exact absurd hk (Nat.not_lt_zero _)
  | @sl b n ex w L hB hb hg hl hw =>
    have hlt : Nat.blt (0 + k * 1) (n * 1) = true := by rw [blt_dec]; exact decide_eq_true (by omega)
    have key : ∀ g : Hp, evE (.store 1 (.const (elemP (.slice b 0 n n 1 ex) k 1)) (.const x)) call .lf h = put h b (upd x L (0 + k * 1)) (n * 1) w undef := fun _ => by
      show oStore 1 (.const (.ptr b (0 + k * 1))) (.const x) .lf h = _
      unfold oStore
      have e1 : Nat.beq 1 1 = true := rfl
      rw [e1, bc_eq, if_pos rfl]
      show bc (isCell x) (oStore1 (.const (.ptr b (0 + k * 1))) (.const x) .lf h) _ = _
      rw [hx, bc_eq, if_pos rfl]
      show bc (isCell x) (wr1 h b (0 + k * 1) x) RV.no = _
      rw [hx]
      show hcells h b RV.no _ = _
      unfold hcells
      rw [hg]
      show bc (Nat.blt (0 + k * 1) (n * 1)) (put h b (upd x L (0 + k * 1)) (n * 1) w undef) .no = _
      rw [hlt]; rfl
    rw [upd_eq, Nat.zero_add, Nat.mul_one, Nat.mul_one] at key
    have hlen : (L.set k x).length = n * 1 := by rw [List.length_set]; exact hl
    have fin : ∀ g : Hp, g.next = h.next → (∀ j, j < B → hget g j = hget h j) → Owned 1 B (hset g b (.cells (L.set k x) n .solo)) (.slice b 0 n n 1 ex) n (L.set k x) ∧ Old B h (hset g b (.cells (L.set k x) n .solo)) ∧ B ≤ (hset g b (.cells (L.set k x) n .solo)).next := fun g hgn hgo =>
      ⟨.sl hB (by rw [hset_next, hgn]; exact hb) (by rw [hget_hset, Nat.mul_one]) hlen (.inl rfl), ⟨by rw [hset_next, hgn]; exact Nat.le_refl _, fun j hj => by rw [hget_hset_ne _ _ (by omega), hgo j hj]⟩, by rw [hset_next, hgn]; exact hBh⟩
    rcases hw with hw | ⟨p, hw, hp1, hp2⟩
    · subst hw
      exact ⟨⟨.nilPtr, .lf, _⟩, key h, fin h rfl fun _ _ => rfl⟩
    · subst hw
      exact ⟨⟨.nilPtr, .lf, _⟩, key h, fin (hset h p .dead) rfl fun j hj => hget_hset_ne h _ (by omega)⟩
theorem u8s_set (l : List Nat) (k x : Nat) : (u8s l).set k (.int .u8 (.ofNat x)) = u8s (l.set k x) := by rw [u8s_eq, u8s_eq, List.map_set]
end Eng
