/- The engine, part 34: slices of a call's own, apart from others. -/
import Derived.Test.YtejiebbbodealaaEngS33
set_option linter.unusedVariables false
set_option linter.unusedSimpArgs false
namespace Eng
open Go Go.RowKit
inductive OwnI (sz : Nat) (h : Hp) (G : Nat → Prop) : AV → Nat → List AV → Prop
  | nil : OwnI sz h G .nilSlice 0 []
  | sl {b n c : Nat} {ex : Bool} {w : Own} {Lc L : List AV} (hG : G b) (hg : hget h b = some (.cells Lc (c * sz) w)) (hl : Lc.length = c * sz) (hn : n ≤ c) (hL : Lc.take (n * sz) = L)
      (hw : w = .solo ∨ ∃ p, w = .pair p ∧ G p ∧ p ≠ b) : OwnI sz h G (.slice b 0 n c sz ex) n L
theorem OwnI.len {sz : Nat} {h : Hp} {G : Nat → Prop} {v : AV} {n : Nat} {L : List AV} (o : OwnI sz h G v n L) : L.length = n * sz := by
  cases o with
  | nil => simp
  | @sl b n c ex w Lc L hG hg hl hn hL hw =>
    have := Nat.mul_le_mul_right sz hn
    rw [← hL, List.length_take, hl]; omega
def OwnO (sz : Nat) (v : AV) (n : Nat) (L : List AV) : AObj where
  p h G := OwnI sz h G v n L
  loc := fun hf o => by
    cases o with
    | nil => exact .nil
    | sl hG hg hl hn hL hw => exact .sl hG ((hf _ hG).trans hg) hl hn hL hw
theorem own_get {os : List AObj} {h : Hp} (S : Sep os h) {i sz n : Nat} {v : AV} {L : List AV} (hi : os[i]? = some (OwnO sz v n L)) : ∃ G, OwnI sz h G v n L := by
  obtain ⟨G, hp, _⟩ := S.at hi; exact ⟨G, hp⟩
theorem own_nil {os : List AObj} {h : Hp} (S : Sep os h) (sz : Nat) : Sep (OwnO sz .nilSlice 0 [] :: os) h :=
  S.add (fun _ => False) (Nat.le_refl _) .nil (fun k hk => hk.elim) fun k hk => rfl
theorem own_new {os : List AObj} {h : Hp} (S : Sep os h) (sz n : Nat) (L : List AV) (ex : Bool) (hl : L.length = n * sz) : Sep (OwnO sz (.slice h.next 0 n n sz ex) n L :: os) (hpush h (mkCells L (n * sz))) :=
  S.add (fun k => k = h.next) (Nat.le_succ _) (.sl rfl (hget_hpush h _) hl (Nat.le_refl _) (List.take_of_length_le (by omega)) (.inl rfl)) (fun k hk => by subst hk; exact ⟨Nat.le_refl _, Nat.lt_succ_self _⟩) fun k hk => hget_hpush_ne h _ (by omega)
theorem Sep.owned {os : List AObj} {h h' : Hp} (S : Sep os h) {sz n : Nat} {v : AV} {L : List AV} (o : Owned sz h.next h' v n L) (a : Old h.next h h') : Sep (OwnO sz v n L :: os) h' := by
  refine S.add (fun k => h.next ≤ k ∧ k < h'.next) a.next ?_ (fun k hk => hk) a.get
  cases o with
  | nil => exact .nil
  | sl hB hb hg hl hw => exact .sl ⟨hB, hb⟩ hg hl (Nat.le_refl _) (List.take_of_length_le (by omega)) (hw.imp id fun ⟨p, h1, h2, h3⟩ => ⟨p, h1, h2, h3⟩)
theorem src_own {β : Type} {h : Hp} {sz : Nat} {G : Nat → Prop} {s : AV} {n : Nat} {L : List AV} (o : OwnI sz h G s n L) (z : β) (k : Nat → List AV → β) : src h sz s z k = k n L := by
  cases o with
  | nil => rfl
  | @sl b n c ex w Lc L hG hg hl hn hL hw =>
    have := Nat.mul_le_mul_right sz hn
    show bc (Nat.beq sz sz) (rdN h b 0 (Nat.mul n sz) z fun l => k n l) z = _
    rw [Nat.beq_refl]
    show rdN h b 0 (n * sz) z _ = _
    rw [rdN_of hg (by omega) hl, List.drop_zero, hL]
theorem q_lenI {sz : Nat} {h : Hp} {G : Nat → Prop} {v : AV} {n : Nat} {L : List AV} (o : OwnI sz h G v n L) : evQ (.lenL (.const v)) .lf H0 = .ok (.int .i64 (.ofNat n)) := by
  cases o <;> rfl
theorem own_len {os : List AObj} {h : Hp} (S : Sep os h) {i sz n : Nat} {v : AV} {L : List AV} (hi : os[i]? = some (OwnO sz v n L)) : evQ (.lenL (.const v)) .lf H0 = .ok (.int .i64 (.ofNat n)) := by
  obtain ⟨G, o⟩ := own_get S hi; exact q_lenI o
theorem own_src {os : List AObj} {h : Hp} (S : Sep os h) {i sz n : Nat} {v : AV} {L : List AV} (hi : os[i]? = some (OwnO sz v n L)) {β : Type} (z : β) (k : Nat → List AV → β) : src h sz v z k = k n L := by
  obtain ⟨G, o⟩ := own_get S hi; exact src_own o z k
theorem OwnI.bytes {h : Hp} {G : Nat → Prop} {s : AV} {n : Nat} {l : List Nat} (o : OwnI 1 h G s n (u8s l)) (hb : ∀ x ∈ l, x < 256) : BIn G h s l := by
  generalize hL : u8s l = L at o
  cases o with
  | nil =>
    cases l with
    | nil => exact .nil
    | cons x l => cases hL
  | @sl b n c ex w Lc L hG hg hl hn hLc hw =>
    subst hL
    have h1 := congrArg List.length hLc
    rw [u8s_length, List.length_take, hl] at h1
    have hnl : l.length = n := by omega
    subst hnl
    exact ⟨⟨b + 1, .sl (Nat.lt_succ_self _) hg hl (by rw [List.drop_zero, ← hLc, Nat.mul_one]) (by omega) hn hb⟩, fun b' e => by cases e; exact hG⟩
theorem own_freeze {os : List AObj} {h : Hp} (S : Sep os h) {i n : Nat} {v : AV} {l : List Nat} (hi : os[i]? = some (OwnO 1 v n (u8s l))) (hb : ∀ x ∈ l, x < 256) : ∃ G : Nat → Prop, BIn G h v l ∧ Sep (os.set i (Frz G h)) h := by
  obtain ⟨G, o, _, S'⟩ := S.freeze hi
  exact ⟨G, OwnI.bytes o hb, S'⟩
theorem own_append {os : List AObj} {h : Hp} (call : CallT) (S : Sep os h) {i sz bytes n : Nat} {s : AV} {L : List AV} (hi : os[i]? = some (OwnO sz s n L)) {x : AV} {m : Nat} {xs : List AV} (hs : ∀ {β : Type} (z : β) (k : Nat → List AV → β), src h sz x z k = k m xs)
    (hx : xs.length = m * sz) (hc : ∀ x ∈ xs, isCell x = true) (h1 : (n + m) * bytes ≤ 70368744177664) (h2 : n + m ≤ 70368744177664) :
    ∃ e : Ev, evE (.append sz bytes (.const s) (.const x)) call .lf h = .ok e.v e.h ∧ Sep (os.set i (OwnO sz e.v (n + m) (L ++ xs))) e.h := by
  obtain ⟨G, o, hGb, go⟩ := S.at hi
  have ev : evE (.append sz bytes (.const s) (.const x)) call .lf h = appendTo h sz bytes s m xs := by
    show src h sz x RV.no (fun m xs => appendTo h sz bytes s m xs) = _
    rw [hs]
  rw [ev]
  have same : m = 0 → appendTo h sz bytes s m xs = .ok s h → ∃ e : Ev, appendTo h sz bytes s m xs = .ok e.v e.h ∧ Sep (os.set i (OwnO sz e.v (n + m) (L ++ xs))) e.h := by
    intro hm e
    subst hm
    obtain rfl : xs = [] := List.eq_nil_of_length_eq_zero (by omega)
    refine ⟨⟨s, .lf, h⟩, e, ?_⟩
    rw [List.append_nil]
    exact go h _ G (Nat.le_refl _) o (fun k hk => .inl hk) fun k hk hn => rfl
  have fresh : ∀ (g : Hp) (L' : List AV), g.next = h.next → (∀ k, k < h.next → ¬ G k → hget g k = hget h k) → L' = L ++ xs → appendTo h sz bytes s m xs = grown g (n + m) sz L' →
      ∃ e : Ev, appendTo h sz bytes s m xs = .ok e.v e.h ∧ Sep (os.set i (OwnO sz e.v (n + m) (L ++ xs))) e.h := by
    intro g L' hgn hgo hL e
    subst hL
    refine ⟨⟨.slice g.next 0 (n + m) (n + m) sz false, .lf, hpush g (mkCells (L ++ xs) ((n + m) * sz))⟩, e, ?_⟩
    have hlen : (L ++ xs).length = (n + m) * sz := by rw [List.length_append, OwnI.len o, hx, Nat.add_mul]
    refine go _ _ (fun k => k = h.next) (by show h.next ≤ (hpush g _).next; rw [hpush_next, hgn]; omega) ?_ (fun k hk => .inr ⟨by omega, by show k < (hpush g _).next; rw [hpush_next, hgn]; omega⟩) fun k hk hn => by
      show hget (hpush g _) k = _
      rw [hget_hpush_ne _ _ (by omega), hgo k hk hn]
    exact .sl hgn (hget_hpush g _) hlen (Nat.le_refl _) (List.take_of_length_le (by omega)) (.inl rfl)
  rcases Nat.eq_zero_or_pos m with hm | hm
  · refine same hm ?_
    subst hm
    obtain rfl : xs = [] := List.eq_nil_of_length_eq_zero (by omega)
    cases o with
    | nil => rfl
    | @sl b n c ex w Lc L hG hg hl hn hL hw =>
      show bc (Nat.beq sz sz) (bc (Nat.ble (n + 0) c) (bc (Nat.beq 0 0) (RV.ok (.slice b 0 n c sz ex) h) _) _) RV.no = _
      rw [Nat.beq_refl, ble_dec, decide_eq_true (by omega)]; rfl
  · have hm0 : Nat.beq m 0 = false := beqF (by omega)
    cases o with
    | nil =>
      refine fresh h xs rfl (fun k hk hn => rfl) rfl ?_
      show bc (Nat.beq m 0) (RV.ok .nilSlice h) (bc (Nat.ble (Nat.mul m bytes) 70368744177664) (bc (Nat.ble m 70368744177664) (grown h m sz xs) .no) .no) = _
      rw [hm0, ble_dec, ble_dec, decide_eq_true (by simpa using h1), decide_eq_true (by simpa using h2), Nat.zero_add]; rfl
    | @sl b n c ex w Lc L hG hg hl hn hL hw =>
      have hbn := hGb _ hG
      have hmul : n * sz ≤ c * sz := Nat.mul_le_mul_right sz hn
      have hlen : L.length = n * sz := by rw [← hL, List.length_take, hl]; omega
      have key : appendTo h sz bytes (.slice b 0 n c sz ex) m xs = bc (Nat.ble (n + m) c) (wrN h b (0 + n * sz) xs (m * sz) (.slice b 0 (n + m) c sz ex)) (more h b 0 n sz m ex xs) := by
        show bc (Nat.beq sz sz) (bc (Nat.ble (n + m) c) (bc (Nat.beq m 0) _ _) (bc (Nat.ble ((n + m) * bytes) 70368744177664) (bc (Nat.ble (n + m) 70368744177664) (more h b 0 n sz m ex xs) .no) .no)) RV.no = _
        rw [Nat.beq_refl, hm0, ble_dec (a := (n + m) * bytes), ble_dec (a := n + m) (b := 70368744177664), decide_eq_true h1, decide_eq_true h2]; rfl
      by_cases hcap : n + m ≤ c
      · rw [ble_dec (a := n + m) (b := c), decide_eq_true hcap] at key
        have hcs : (n + m) * sz ≤ c * sz := Nat.mul_le_mul_right sz hcap
        rw [Nat.add_mul] at hcs
        have hw2 : wrN h b (0 + n * sz) xs (m * sz) (.slice b 0 (n + m) c sz ex) = put h b (over xs Lc (0 + n * sz)) (c * sz) w (.slice b 0 (n + m) c sz ex) := by
          show hcells h b RV.no _ = _
          unfold hcells
          rw [hg]
          show bc (Nat.ble (0 + n * sz + m * sz) (c * sz)) (put h b (over xs Lc (0 + n * sz)) (c * sz) w _) .no = _
          rw [ble_dec, decide_eq_true (by omega)]; rfl
        have hov : over xs Lc (0 + n * sz) = L ++ xs ++ Lc.drop (n * sz + m * sz) := by
          rw [Nat.zero_add, over_eq _ _ _ (by omega), hL, hx]
        rw [hw2, hov] at key
        have hl2 : (L ++ xs ++ Lc.drop (n * sz + m * sz)).length = c * sz := by rw [List.length_append, List.length_append, List.length_drop]; omega
        have fin : ∀ g : Hp, g.next = h.next → (∀ k, k < h.next → ¬ G k → hget g k = hget h k) → Sep (os.set i (OwnO sz (.slice b 0 (n + m) c sz ex) (n + m) (L ++ xs))) (hset g b (.cells (L ++ xs ++ Lc.drop (n * sz + m * sz)) (c * sz) .solo)) := fun g hgn hgo => by
          refine go _ _ G (by rw [hset_next, hgn]; exact Nat.le_refl _) (.sl hG (hget_hset _ _ _) hl2 hcap ?_ (.inl rfl)) (fun k hk => .inl hk) fun k hk hn => ?_
          · rw [List.take_append_of_le_length (by rw [List.length_append, Nat.add_mul]; omega), List.take_of_length_le (by rw [List.length_append, Nat.add_mul]; omega)]
          · rw [hget_hset_ne _ _ (fun (e : k = b) => hn (e ▸ hG)), hgo k hk hn]
        rcases hw with hw | ⟨p, hw, hp1, hp2⟩
        · subst hw
          exact ⟨⟨_, .lf, _⟩, key, fin h rfl fun _ _ _ => rfl⟩
        · subst hw
          exact ⟨⟨_, .lf, _⟩, key, fin (hset h p .dead) rfl fun k hk hn => hget_hset_ne h _ fun (e : k = p) => hn (e ▸ hp1)⟩
      · rw [ble_dec, decide_eq_false hcap] at key
        have e0 : Nat.add 0 (Nat.mul n sz) = n * sz := Nat.zero_add _
        have hpart : part Lc (c * sz) 0 (n * sz) = L := by rw [part_eq hl (by omega), List.drop_zero, hL]
        have key2 : more h b 0 n sz m ex xs = bc ex (grown h (n + m) sz (L ++ xs))
            (bc (Nat.beq (n * sz) (c * sz)) (w.peer .no (shared h b (n + m) sz Lc (c * sz) (L ++ xs)) fun p => bc (Nat.beq p b) .no (shared (hset h p .dead) b (n + m) sz Lc (c * sz) (L ++ xs)))
              (w.peer .no (grown (hset h b .dead) (n + m) sz (L ++ xs)) fun p => grown (hset (hset h p .dead) b .dead) (n + m) sz (L ++ xs))) := by
          show hcells h b RV.no _ = _
          unfold hcells
          rw [hg]
          show bc (Nat.ble (Nat.add 0 (Nat.mul n sz)) (c * sz)) (bc ex (grown h (n + m) sz (app (part Lc (c * sz) 0 (n * sz)) xs))
            (bc (Nat.beq (Nat.add 0 (Nat.mul n sz)) (c * sz)) (w.peer RV.no (shared h b (n + m) sz Lc (c * sz) (app (part Lc (c * sz) 0 (n * sz)) xs)) fun p => bc (Nat.beq p b) .no (shared (hset h p .dead) b (n + m) sz Lc (c * sz) (app (part Lc (c * sz) 0 (n * sz)) xs)))
              (w.peer RV.no (grown (hset h b .dead) (n + m) sz (app (part Lc (c * sz) 0 (n * sz)) xs)) fun p => grown (hset (hset h p .dead) b .dead) (n + m) sz (app (part Lc (c * sz) 0 (n * sz)) xs)))) RV.no = _
          rw [e0, hpart, app_eq, ble_dec, decide_eq_true hmul]; rfl
        have key : appendTo h sz bytes (.slice b 0 n c sz ex) m xs = _ := key.trans key2
        cases ex with
        | true => exact fresh h _ rfl (fun k hk hn => rfl) rfl key
        | false =>
          have key : appendTo h sz bytes (.slice b 0 n c sz false) m xs = bc (Nat.beq (n * sz) (c * sz)) (w.peer .no (shared h b (n + m) sz Lc (c * sz) (L ++ xs)) fun p => bc (Nat.beq p b) .no (shared (hset h p .dead) b (n + m) sz Lc (c * sz) (L ++ xs)))
              (w.peer .no (grown (hset h b .dead) (n + m) sz (L ++ xs)) fun p => grown (hset (hset h p .dead) b .dead) (n + m) sz (L ++ xs)) := key
          have hlen2 : (L ++ xs).length = (n + m) * sz := by rw [List.length_append, hlen, hx, Nat.add_mul]
          by_cases heq : n * sz = c * sz
          · have hb1 : Nat.beq (n * sz) (c * sz) = true := by rw [heq, Nat.beq_refl]
            rw [hb1] at key
            have fin : ∀ g : Hp, g.next = h.next → (∀ k, k < h.next → ¬ G k → hget g k = hget h k) → appendTo h sz bytes (.slice b 0 n c sz false) m xs = shared g b (n + m) sz Lc (c * sz) (L ++ xs) →
                ∃ e : Ev, appendTo h sz bytes (.slice b 0 n c sz false) m xs = .ok e.v e.h ∧ Sep (os.set i (OwnO sz e.v (n + m) (L ++ xs))) e.h := by
              intro g hgn hgo e
              refine ⟨⟨.slice g.next 0 (n + m) (n + m) sz false, .lf, hset (hpush g (.cells (L ++ xs) ((n + m) * sz) (.pair b))) b (.cells Lc (c * sz) (.pair g.next))⟩, e, ?_⟩
              refine go _ _ (fun k => G k ∨ k = h.next) (by show h.next ≤ (hset (hpush g _) b _).next; rw [hset_next, hpush_next, hgn]; omega) ?_ (fun k hk => hk.imp id fun hk => ⟨by omega, by show k < (hset (hpush g _) b _).next; rw [hset_next, hpush_next, hgn]; omega⟩) fun k hk hn => ?_
              · refine .sl (.inr hgn) (w := .pair b) ?_ hlen2 (Nat.le_refl _) (List.take_of_length_le (by omega)) (.inr ⟨b, rfl, .inl hG, by omega⟩)
                show hget (hset (hpush g _) b _) g.next = _
                rw [hget_hset_ne _ _ (by omega), hget_hpush]
              · show hget (hset (hpush g _) b _) k = _
                rw [hget_hset_ne _ _ (fun (e : k = b) => hn (e ▸ hG)), hget_hpush_ne _ _ (by omega), hgo k hk hn]
            rcases hw with hw | ⟨p, hw, hp1, hp2⟩
            · subst hw; exact fin h rfl (fun _ _ _ => rfl) key
            · subst hw
              have key : appendTo h sz bytes (.slice b 0 n c sz false) m xs = bc (Nat.beq p b) .no (shared (hset h p .dead) b (n + m) sz Lc (c * sz) (L ++ xs)) := key
              rw [beqF hp2] at key
              exact fin (hset h p .dead) rfl (fun k hk hn => hget_hset_ne h _ fun (e : k = p) => hn (e ▸ hp1)) key
          · rw [beqF heq] at key
            rcases hw with hw | ⟨p, hw, hp1, hp2⟩
            · subst hw
              exact fresh (hset h b .dead) _ rfl (fun k hk hn => hget_hset_ne h _ fun (e : k = b) => hn (e ▸ hG)) rfl key
            · subst hw
              exact fresh (hset (hset h p .dead) b .dead) _ rfl (fun k hk hn => by rw [hget_hset_ne _ _ (fun (e : k = b) => hn (e ▸ hG)), hget_hset_ne _ _ (fun (e : k = p) => hn (e ▸ hp1))]) rfl key
end Eng
