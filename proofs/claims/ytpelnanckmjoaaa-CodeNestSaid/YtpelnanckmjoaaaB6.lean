import Derived.Test.YtpelnanckmjoaaaB5
section
set_option linter.unusedVariables false
namespace Go.Proofs.Ytpelnanckmjoaaa
set_option linter.unusedVariables false
set_option linter.unusedSimpArgs false
open Go Eng
noncomputable def lawtakes_p (b : List Nat) : Option (Bool) :=
  (if 400 < b.length then (some true) else
    (gd (b.length ≤ 1099511627776) (ob (take_p b) fun x11 =>
    (ob (rBody_p b) fun x25 =>
    (if x11.2.2 = x25.2.2 then (if x11.2.1 = x25.2.1 then (ob (sameBody_p x11.1 x25.1) fun x47 =>
    (if x47 = true then (some true) else
    (some false))) else
    (some false)) else
    (some false))))))
noncomputable def lawnest_l1 (B5 : Nat) (B6 : Nat) (B8 : List Nat) : Nat → List Nat → Nat → Option (List Nat × Nat)
  | 0, _, _ => none
  | m + 1, A7, A9 =>
    (if A9 < B5 then (gd (A7.length + 2 ≤ 70368744177664) (gd (A9 + 1 < 9223372036854775808) (lawnest_l1 B5 B6 B8 m (A7 ++ [2, 64]) (A9 + 1)))) else
    (some ((A7, A9))))
noncomputable def lawnest_l1C : AC := (.seq (.seq (.region [⟨(some 26), .q (.move (.tmp 9)), none⟩, ⟨(some 27), .q (.move (.tmp 5)), none⟩, ⟨(some 28), .q (.bin .lss (.tmp 26) (.tmp 27)), none⟩]) (.cond (.tmp 28) .skip (.exit 0))) (.seq (.block 1 (.region [⟨(some 31), .q (.move (.tmp 7)), none⟩, ⟨(some 32), .l (.buildSlice 1 2 [(vb8 0)] [(0, 1, (.const (vb8 2))), (1, 1, (.const (vb8 64)))]), none⟩, ⟨(some 33), .e (.append 1 1 (.tmp 31) (.tmp 32)), none⟩, ⟨(some 7), .q (.move (.tmp 33)), none⟩])) (.region [⟨(some 29), .q (.move (.tmp 9)), none⟩, ⟨(some 30), .q (.bin .add (.tmp 29) (.const (vi 1))), none⟩, ⟨(some 9), .q (.move (.tmp 30)), none⟩])))
theorem lawnest_l1_body {call : CallT} {N : Nat} {t : T} {h : Hp} {wB8 : AV} {G : Nat → Prop} {h0 : Hp} {B5 : Nat} {B6 : Nat} {B8 : List Nat} (fB8 : ∀ x ∈ B8, x < 256) (h_begun : TrueS call 11) (h_take : C_take call) {o : List Nat × Nat} {n : Nat} {A7 : List Nat} {A9 : Nat} {wA7 : AV} (hN : 90000 < N) (hi : (fun (z : Nat × List Nat × Nat × AV) (h' : Hp) => lawnest_l1 B5 B6 B8 z.1 z.2.1 z.2.2.1 = some o ∧ (∀ x ∈ z.2.1, x < 256) ∧ Eng.Sep [OwnO 1 z.2.2.2 z.2.1.length (u8s z.2.1), OwnO 1 wB8 B8.length (u8s B8), Frz G h0] h') (n, A7, A9, wA7) h)
    : ∃ s, evC call N lawnest_l1C (ovT [(4, (AV.bool false)), (5, (vi B5)), (6, (vi B6)), (7, wA7), (8, wB8), (9, (vi A9))] t) h = s ∧ obsS [4, 5, 6, 7, 8, 9] (fun ls h' => ∃ y, ls = ((fun (z : Nat × List Nat × Nat × AV) => [(4, (AV.bool false)), (5, (vi B5)), (6, (vi B6)), (7, z.2.2.2), (8, wB8), (9, (vi z.2.2.1))]) y).map (fun p => some p.2) ∧ (fun (z : Nat × List Nat × Nat × AV) (h' : Hp) => lawnest_l1 B5 B6 B8 z.1 z.2.1 z.2.2.1 = some o ∧ (∀ x ∈ z.2.1, x < 256) ∧ Eng.Sep [OwnO 1 z.2.2.2 z.2.1.length (u8s z.2.1), OwnO 1 wB8 B8.length (u8s B8), Frz G h0] h') y h' ∧ (fun (z : Nat × List Nat × Nat × AV) => z.1) y < (fun (z : Nat × List Nat × Nat × AV) => z.1) (n, A7, A9, wA7)) (fun i ls h' => ∃ y, ls = ((fun (z : Nat × List Nat × Nat × AV) => [(4, (AV.bool false)), (5, (vi B5)), (6, (vi B6)), (7, z.2.2.2), (8, wB8), (9, (vi z.2.2.1))]) y).map (fun p => some p.2) ∧ (fun (i : Nat) (z : Nat × List Nat × Nat × AV) (h' : Hp) => (i = 0) ∧ (i = 0 → o = (z.2.1, z.2.2.1) ∧ (∀ x ∈ z.2.1, x < 256) ∧ Eng.Sep [OwnO 1 z.2.2.2 z.2.1.length (u8s z.2.1), OwnO 1 wB8 B8.length (u8s B8), Frz G h0] h')) i y h') (fun ls h' => (fun (ls : List (Option AV)) (h' : Hp) => False) ls h') s := by
  have hi : lawnest_l1 B5 B6 B8 n A7 A9 = some o ∧ (∀ x ∈ A7, x < 256) ∧ Eng.Sep [OwnO 1 wA7 A7.length (u8s A7), OwnO 1 wB8 B8.length (u8s B8), Frz G h0] h := hi
  obtain ⟨hp, fA7, S⟩ := hi
  obtain ⟨m, hm⟩ : ∃ m, n = m + 1 := by
    cases n with
    | zero => first | cases hp | (unfold lawnest_l1 at hp; cases hp) | (simp [lawnest_l1] at hp)
    | succ m => exact ⟨m, rfl⟩
  rw [hm] at hp
  unfold lawnest_l1 at hp
  refine walk_ok (o := (.fork 2 (.effx 2 (fun e3 => e3.v) (fun e3 => (.tell 2 (vi (A9 + 1)) .fin))) .fin)) (p := (fun (KN : List (Option AV) → Hp → Prop) (KE : Nat → List (Option AV) → Hp → Prop) (KR : List (Option AV) → Hp → Prop) => ((ltI (Int.ofNat A9) (Int.ofNat B5) = true → (∃ e3 : Ev, evE (.append 1 1 (.const wA7) (.const (AV.slice (Hp.next h) 0 2 2 1 true))) call .lf (hpush h (mkCells [(vb8 2), (vb8 64)] 2)) = .ok e3.v e3.h ∧ ((evQ (.bin .add (.const (vi A9)) (.const (vi 1))) .lf H0 = .ok (vi (A9 + 1)) ∧ KN [some (AV.bool false), some (vi B5), some (vi B6), some e3.v, some wB8, some (vi (A9 + 1))] e3.h)))) ∧ (ltI (Int.ofNat A9) (Int.ofNat B5) = false → KE 0 [some (AV.bool false), some (vi B5), some (vi B6), some wA7, some wB8, some (vi A9)] h))) (fun ls h' => ∃ y, ls = ((fun (z : Nat × List Nat × Nat × AV) => [(4, (AV.bool false)), (5, (vi B5)), (6, (vi B6)), (7, z.2.2.2), (8, wB8), (9, (vi z.2.2.1))]) y).map (fun p => some p.2) ∧ (fun (z : Nat × List Nat × Nat × AV) (h' : Hp) => lawnest_l1 B5 B6 B8 z.1 z.2.1 z.2.2.1 = some o ∧ (∀ x ∈ z.2.1, x < 256) ∧ Eng.Sep [OwnO 1 z.2.2.2 z.2.1.length (u8s z.2.1), OwnO 1 wB8 B8.length (u8s B8), Frz G h0] h') y h' ∧ (fun (z : Nat × List Nat × Nat × AV) => z.1) y < (fun (z : Nat × List Nat × Nat × AV) => z.1) (n, A7, A9, wA7)) (fun i ls h' => ∃ y, ls = ((fun (z : Nat × List Nat × Nat × AV) => [(4, (AV.bool false)), (5, (vi B5)), (6, (vi B6)), (7, z.2.2.2), (8, wB8), (9, (vi z.2.2.1))]) y).map (fun p => some p.2) ∧ (fun (i : Nat) (z : Nat × List Nat × Nat × AV) (h' : Hp) => (i = 0) ∧ (i = 0 → o = (z.2.1, z.2.2.1) ∧ (∀ x ∈ z.2.1, x < 256) ∧ Eng.Sep [OwnO 1 z.2.2.2 z.2.1.length (u8s z.2.1), OwnO 1 wB8 B8.length (u8s B8), Frz G h0] h')) i y h') (fun ls h' => (fun (ls : List (Option AV)) (h' : Hp) => False) ls h')) (by kernel_rfl) ?_
  refine ⟨fun c1 => ?_, fun c1 => ?_⟩
  · replace c1 := ltI_t c1
    replace hp := ift hp c1
    have S2 := own_new S 1 2 [(vb8 2), (vb8 64)] true rfl
    have ⟨g4, hp⟩ := gd_inv hp
    obtain ⟨e3, qe3, se3⟩ := own_append (bytes := 1) call S2 (i := 1) rfl (x := (AV.slice (Hp.next h) 0 2 2 1 true)) (m := 2) (xs := u8s [2, 64]) (fun z k => own_src S2 (i := 0) rfl z k) (own_L S2 (i := 0) rfl) (u8s_cells _) (show (A7.length + 2) * 1 ≤ 70368744177664 by omega) g4
    have S6 : Sep [OwnO 1 (AV.slice (Hp.next h) 0 2 2 1 true) 2 (u8s [2, 64]), OwnO 1 e3.v ((A7 ++ [2, 64]).length) (u8s (A7 ++ [2, 64])), OwnO 1 wB8 B8.length (u8s B8), Frz G h0] e3.h := (by have z := se3; rw [show u8s (A7 ++ [2, 64]) = u8s A7 ++ u8s [2, 64] from by simp [u8s_eq], show (A7 ++ [2, 64] : List Nat).length = A7.length + 2 from by simp]; exact z)
    have S7 := S6.tail
    refine ⟨e3, qe3, ?_⟩
    have ⟨g8, hp⟩ := gd_inv hp
    refine ⟨q_add g8, ?_⟩
    refine ⟨(m, A7 ++ [2, 64], A9 + 1, e3.v), rfl, ⟨hp, (put_lt fA7 (cons_lt (show 2 < 256 by decide) (cons_lt (show 64 < 256 by decide) nil_lt))), S7⟩, by show m < n; omega⟩
  replace c1 := ltI_f c1
  replace hp := iff0 hp (nltO c1)
  refine ⟨(m, A7, A9, wA7), rfl, rfl, fun _ => ⟨(Option.some.inj hp).symm, fA7, S⟩⟩
theorem lawnest_l1_t {call : CallT} {N : Nat} {wB8 : AV} {G : Nat → Prop} {h0 : Hp} {B5 : Nat} {B6 : Nat} {B8 : List Nat} (fB8 : ∀ x ∈ B8, x < 256) (h_begun : TrueS call 11) (h_take : C_take call) {o : List Nat × Nat} {n : Nat} {A7 : List Nat} {A9 : Nat} {wA7 : AV} {h : Hp} (hi : (fun (z : Nat × List Nat × Nat × AV) (h' : Hp) => lawnest_l1 B5 B6 B8 z.1 z.2.1 z.2.2.1 = some o ∧ (∀ x ∈ z.2.1, x < 256) ∧ Eng.Sep [OwnO 1 z.2.2.2 z.2.1.length (u8s z.2.1), OwnO 1 wB8 B8.length (u8s B8), Frz G h0] h') (n, A7, A9, wA7) h) (hN : n < N) (hN' : 90000 < N) {t : T} (ht : Has ((fun (z : Nat × List Nat × Nat × AV) => [(4, (AV.bool false)), (5, (vi B5)), (6, (vi B6)), (7, z.2.2.2), (8, wB8), (9, (vi z.2.2.1))]) (n, A7, A9, wA7)) t) :
    (∃ i y t' h', evC call N (.loop lawnest_l1C) t h = .exit i t' h' ∧ Has ((fun (z : Nat × List Nat × Nat × AV) => [(4, (AV.bool false)), (5, (vi B5)), (6, (vi B6)), (7, z.2.2.2), (8, wB8), (9, (vi z.2.2.1))]) y) t' ∧ (fun (i : Nat) (z : Nat × List Nat × Nat × AV) (h' : Hp) => (i = 0) ∧ (i = 0 → o = (z.2.1, z.2.2.1) ∧ (∀ x ∈ z.2.1, x < 256) ∧ Eng.Sep [OwnO 1 z.2.2.2 z.2.1.length (u8s z.2.1), OwnO 1 wB8 B8.length (u8s B8), Frz G h0] h')) i y h') ∨ (∃ t' h', evC call N (.loop lawnest_l1C) t h = .ret t' h' ∧ (fun (ls : List (Option AV)) (h' : Hp) => False) (slots [4, 5, 6, 7, 8, 9] t') h') :=
  loop_st (fun (z : Nat × List Nat × Nat × AV) => [(4, (AV.bool false)), (5, (vi B5)), (6, (vi B6)), (7, z.2.2.2), (8, wB8), (9, (vi z.2.2.1))]) [4, 5, 6, 7, 8, 9] (fun _ => rfl) (fun (z : Nat × List Nat × Nat × AV) (h' : Hp) => lawnest_l1 B5 B6 B8 z.1 z.2.1 z.2.2.1 = some o ∧ (∀ x ∈ z.2.1, x < 256) ∧ Eng.Sep [OwnO 1 z.2.2.2 z.2.1.length (u8s z.2.1), OwnO 1 wB8 B8.length (u8s B8), Frz G h0] h') (fun (z : Nat × List Nat × Nat × AV) => z.1) (fun (i : Nat) (z : Nat × List Nat × Nat × AV) (h' : Hp) => (i = 0) ∧ (i = 0 → o = (z.2.1, z.2.2.1) ∧ (∀ x ∈ z.2.1, x < 256) ∧ Eng.Sep [OwnO 1 z.2.2.2 z.2.1.length (u8s z.2.1), OwnO 1 wB8 B8.length (u8s B8), Frz G h0] h')) (fun (ls : List (Option AV)) (h' : Hp) => False) (fun ⟨n, A7, A9, wA7⟩ t h hi => lawnest_l1_body fB8 h_begun h_take hN' hi) (n, A7, A9, wA7) h hi hN t ht
noncomputable def lawnest_l2 (B5 : Nat) (B6 : Nat) (B8 : List Nat) : Nat → List Nat → Nat → Option (List Nat × Nat)
  | 0, _, _ => none
  | m + 1, A7, A10 =>
    (if A10 ≤ B5 then (gd (A7.length + 1 ≤ 70368744177664) (gd (A10 + 1 < 9223372036854775808) (lawnest_l2 B5 B6 B8 m (A7 ++ [11]) (A10 + 1)))) else
    (some ((A7, A10))))
noncomputable def lawnest_l2C : AC := (.seq (.seq (.region [⟨(some 34), .q (.move (.tmp 10)), none⟩, ⟨(some 35), .q (.move (.tmp 5)), none⟩, ⟨(some 36), .q (.bin .leq (.tmp 34) (.tmp 35)), none⟩]) (.cond (.tmp 36) .skip (.exit 2))) (.seq (.block 3 (.region [⟨(some 39), .q (.move (.tmp 7)), none⟩, ⟨(some 40), .l (.buildSlice 1 1 [(vb8 0)] [(0, 1, (.const (vb8 11)))]), none⟩, ⟨(some 41), .e (.append 1 1 (.tmp 39) (.tmp 40)), none⟩, ⟨(some 7), .q (.move (.tmp 41)), none⟩])) (.region [⟨(some 37), .q (.move (.tmp 10)), none⟩, ⟨(some 38), .q (.bin .add (.tmp 37) (.const (vi 1))), none⟩, ⟨(some 10), .q (.move (.tmp 38)), none⟩])))
theorem lawnest_l2_body {call : CallT} {N : Nat} {t : T} {h : Hp} {wB8 : AV} {G : Nat → Prop} {h0 : Hp} {B5 : Nat} {B6 : Nat} {B8 : List Nat} (fB8 : ∀ x ∈ B8, x < 256) (h_begun : TrueS call 11) (h_take : C_take call) {o : List Nat × Nat} {n : Nat} {A7 : List Nat} {A10 : Nat} {wA7 : AV} (hN : 90000 < N) (hi : (fun (z : Nat × List Nat × Nat × AV) (h' : Hp) => lawnest_l2 B5 B6 B8 z.1 z.2.1 z.2.2.1 = some o ∧ (∀ x ∈ z.2.1, x < 256) ∧ Eng.Sep [OwnO 1 z.2.2.2 z.2.1.length (u8s z.2.1), OwnO 1 wB8 B8.length (u8s B8), Frz G h0] h') (n, A7, A10, wA7) h)
    : ∃ s, evC call N lawnest_l2C (ovT [(4, (AV.bool false)), (5, (vi B5)), (6, (vi B6)), (7, wA7), (8, wB8), (10, (vi A10))] t) h = s ∧ obsS [4, 5, 6, 7, 8, 10] (fun ls h' => ∃ y, ls = ((fun (z : Nat × List Nat × Nat × AV) => [(4, (AV.bool false)), (5, (vi B5)), (6, (vi B6)), (7, z.2.2.2), (8, wB8), (10, (vi z.2.2.1))]) y).map (fun p => some p.2) ∧ (fun (z : Nat × List Nat × Nat × AV) (h' : Hp) => lawnest_l2 B5 B6 B8 z.1 z.2.1 z.2.2.1 = some o ∧ (∀ x ∈ z.2.1, x < 256) ∧ Eng.Sep [OwnO 1 z.2.2.2 z.2.1.length (u8s z.2.1), OwnO 1 wB8 B8.length (u8s B8), Frz G h0] h') y h' ∧ (fun (z : Nat × List Nat × Nat × AV) => z.1) y < (fun (z : Nat × List Nat × Nat × AV) => z.1) (n, A7, A10, wA7)) (fun i ls h' => ∃ y, ls = ((fun (z : Nat × List Nat × Nat × AV) => [(4, (AV.bool false)), (5, (vi B5)), (6, (vi B6)), (7, z.2.2.2), (8, wB8), (10, (vi z.2.2.1))]) y).map (fun p => some p.2) ∧ (fun (i : Nat) (z : Nat × List Nat × Nat × AV) (h' : Hp) => (i = 2) ∧ (i = 2 → o = (z.2.1, z.2.2.1) ∧ (∀ x ∈ z.2.1, x < 256) ∧ Eng.Sep [OwnO 1 z.2.2.2 z.2.1.length (u8s z.2.1), OwnO 1 wB8 B8.length (u8s B8), Frz G h0] h')) i y h') (fun ls h' => (fun (ls : List (Option AV)) (h' : Hp) => False) ls h') s := by
  have hi : lawnest_l2 B5 B6 B8 n A7 A10 = some o ∧ (∀ x ∈ A7, x < 256) ∧ Eng.Sep [OwnO 1 wA7 A7.length (u8s A7), OwnO 1 wB8 B8.length (u8s B8), Frz G h0] h := hi
  obtain ⟨hp, fA7, S⟩ := hi
  obtain ⟨m, hm⟩ : ∃ m, n = m + 1 := by
    cases n with
    | zero => first | cases hp | (unfold lawnest_l2 at hp; cases hp) | (simp [lawnest_l2] at hp)
    | succ m => exact ⟨m, rfl⟩
  rw [hm] at hp
  unfold lawnest_l2 at hp
  refine walk_ok (o := (.fork 2 (.effx 2 (fun e3 => e3.v) (fun e3 => (.tell 2 (vi (A10 + 1)) .fin))) .fin)) (p := (fun (KN : List (Option AV) → Hp → Prop) (KE : Nat → List (Option AV) → Hp → Prop) (KR : List (Option AV) → Hp → Prop) => ((notB (ltI (Int.ofNat B5) (Int.ofNat A10)) = true → (∃ e3 : Ev, evE (.append 1 1 (.const wA7) (.const (AV.slice (Hp.next h) 0 1 1 1 true))) call .lf (hpush h (mkCells [(vb8 11)] 1)) = .ok e3.v e3.h ∧ ((evQ (.bin .add (.const (vi A10)) (.const (vi 1))) .lf H0 = .ok (vi (A10 + 1)) ∧ KN [some (AV.bool false), some (vi B5), some (vi B6), some e3.v, some wB8, some (vi (A10 + 1))] e3.h)))) ∧ (notB (ltI (Int.ofNat B5) (Int.ofNat A10)) = false → KE 2 [some (AV.bool false), some (vi B5), some (vi B6), some wA7, some wB8, some (vi A10)] h))) (fun ls h' => ∃ y, ls = ((fun (z : Nat × List Nat × Nat × AV) => [(4, (AV.bool false)), (5, (vi B5)), (6, (vi B6)), (7, z.2.2.2), (8, wB8), (10, (vi z.2.2.1))]) y).map (fun p => some p.2) ∧ (fun (z : Nat × List Nat × Nat × AV) (h' : Hp) => lawnest_l2 B5 B6 B8 z.1 z.2.1 z.2.2.1 = some o ∧ (∀ x ∈ z.2.1, x < 256) ∧ Eng.Sep [OwnO 1 z.2.2.2 z.2.1.length (u8s z.2.1), OwnO 1 wB8 B8.length (u8s B8), Frz G h0] h') y h' ∧ (fun (z : Nat × List Nat × Nat × AV) => z.1) y < (fun (z : Nat × List Nat × Nat × AV) => z.1) (n, A7, A10, wA7)) (fun i ls h' => ∃ y, ls = ((fun (z : Nat × List Nat × Nat × AV) => [(4, (AV.bool false)), (5, (vi B5)), (6, (vi B6)), (7, z.2.2.2), (8, wB8), (10, (vi z.2.2.1))]) y).map (fun p => some p.2) ∧ (fun (i : Nat) (z : Nat × List Nat × Nat × AV) (h' : Hp) => (i = 2) ∧ (i = 2 → o = (z.2.1, z.2.2.1) ∧ (∀ x ∈ z.2.1, x < 256) ∧ Eng.Sep [OwnO 1 z.2.2.2 z.2.1.length (u8s z.2.1), OwnO 1 wB8 B8.length (u8s B8), Frz G h0] h')) i y h') (fun ls h' => (fun (ls : List (Option AV)) (h' : Hp) => False) ls h')) (by kernel_rfl) ?_
  refine ⟨fun c1 => ?_, fun c1 => ?_⟩
  · replace c1 := ltI_f (notB_t c1)
    replace hp := ift hp c1
    have S2 := own_new S 1 1 [(vb8 11)] true rfl
    have ⟨g4, hp⟩ := gd_inv hp
    obtain ⟨e3, qe3, se3⟩ := own_append (bytes := 1) call S2 (i := 1) rfl (x := (AV.slice (Hp.next h) 0 1 1 1 true)) (m := 1) (xs := u8s [11]) (fun z k => own_src S2 (i := 0) rfl z k) (own_L S2 (i := 0) rfl) (u8s_cells _) (show (A7.length + 1) * 1 ≤ 70368744177664 by omega) g4
    have S6 : Sep [OwnO 1 (AV.slice (Hp.next h) 0 1 1 1 true) 1 (u8s [11]), OwnO 1 e3.v ((A7 ++ [11]).length) (u8s (A7 ++ [11])), OwnO 1 wB8 B8.length (u8s B8), Frz G h0] e3.h := (by have z := se3; rw [show u8s (A7 ++ [11]) = u8s A7 ++ u8s [11] from by simp [u8s_eq], show (A7 ++ [11] : List Nat).length = A7.length + 1 from by simp]; exact z)
    have S7 := S6.tail
    refine ⟨e3, qe3, ?_⟩
    have ⟨g8, hp⟩ := gd_inv hp
    refine ⟨q_add g8, ?_⟩
    refine ⟨(m, A7 ++ [11], A10 + 1, e3.v), rfl, ⟨hp, (put_lt fA7 (cons_lt (show 11 < 256 by decide) nil_lt)), S7⟩, by show m < n; omega⟩
  replace c1 := ltI_t (notB_f c1)
  replace hp := iff0 hp (nleO c1)
  refine ⟨(m, A7, A10, wA7), rfl, rfl, fun _ => ⟨(Option.some.inj hp).symm, fA7, S⟩⟩
theorem lawnest_l2_t {call : CallT} {N : Nat} {wB8 : AV} {G : Nat → Prop} {h0 : Hp} {B5 : Nat} {B6 : Nat} {B8 : List Nat} (fB8 : ∀ x ∈ B8, x < 256) (h_begun : TrueS call 11) (h_take : C_take call) {o : List Nat × Nat} {n : Nat} {A7 : List Nat} {A10 : Nat} {wA7 : AV} {h : Hp} (hi : (fun (z : Nat × List Nat × Nat × AV) (h' : Hp) => lawnest_l2 B5 B6 B8 z.1 z.2.1 z.2.2.1 = some o ∧ (∀ x ∈ z.2.1, x < 256) ∧ Eng.Sep [OwnO 1 z.2.2.2 z.2.1.length (u8s z.2.1), OwnO 1 wB8 B8.length (u8s B8), Frz G h0] h') (n, A7, A10, wA7) h) (hN : n < N) (hN' : 90000 < N) {t : T} (ht : Has ((fun (z : Nat × List Nat × Nat × AV) => [(4, (AV.bool false)), (5, (vi B5)), (6, (vi B6)), (7, z.2.2.2), (8, wB8), (10, (vi z.2.2.1))]) (n, A7, A10, wA7)) t) :
    (∃ i y t' h', evC call N (.loop lawnest_l2C) t h = .exit i t' h' ∧ Has ((fun (z : Nat × List Nat × Nat × AV) => [(4, (AV.bool false)), (5, (vi B5)), (6, (vi B6)), (7, z.2.2.2), (8, wB8), (10, (vi z.2.2.1))]) y) t' ∧ (fun (i : Nat) (z : Nat × List Nat × Nat × AV) (h' : Hp) => (i = 2) ∧ (i = 2 → o = (z.2.1, z.2.2.1) ∧ (∀ x ∈ z.2.1, x < 256) ∧ Eng.Sep [OwnO 1 z.2.2.2 z.2.1.length (u8s z.2.1), OwnO 1 wB8 B8.length (u8s B8), Frz G h0] h')) i y h') ∨ (∃ t' h', evC call N (.loop lawnest_l2C) t h = .ret t' h' ∧ (fun (ls : List (Option AV)) (h' : Hp) => False) (slots [4, 5, 6, 7, 8, 10] t') h') :=
  loop_st (fun (z : Nat × List Nat × Nat × AV) => [(4, (AV.bool false)), (5, (vi B5)), (6, (vi B6)), (7, z.2.2.2), (8, wB8), (10, (vi z.2.2.1))]) [4, 5, 6, 7, 8, 10] (fun _ => rfl) (fun (z : Nat × List Nat × Nat × AV) (h' : Hp) => lawnest_l2 B5 B6 B8 z.1 z.2.1 z.2.2.1 = some o ∧ (∀ x ∈ z.2.1, x < 256) ∧ Eng.Sep [OwnO 1 z.2.2.2 z.2.1.length (u8s z.2.1), OwnO 1 wB8 B8.length (u8s B8), Frz G h0] h') (fun (z : Nat × List Nat × Nat × AV) => z.1) (fun (i : Nat) (z : Nat × List Nat × Nat × AV) (h' : Hp) => (i = 2) ∧ (i = 2 → o = (z.2.1, z.2.2.1) ∧ (∀ x ∈ z.2.1, x < 256) ∧ Eng.Sep [OwnO 1 z.2.2.2 z.2.1.length (u8s z.2.1), OwnO 1 wB8 B8.length (u8s B8), Frz G h0] h')) (fun (ls : List (Option AV)) (h' : Hp) => False) (fun ⟨n, A7, A10, wA7⟩ t h hi => lawnest_l2_body fB8 h_begun h_take hN' hi) (n, A7, A10, wA7) h hi hN t ht
noncomputable def lawnest_l3 (B5 : Nat) (B6 : Nat) (B7 : List Nat) : Nat → List Nat → Nat → Option (List Nat × Nat)
  | 0, _, _ => none
  | m + 1, A8, A11 =>
    (if A11 < B6 then (gd (A8.length + 1 ≤ 70368744177664) (gd (A11 + 1 < 9223372036854775808) (lawnest_l3 B5 B6 B7 m (A8 ++ [1]) (A11 + 1)))) else
    (some ((A8, A11))))
noncomputable def lawnest_l3C : AC := (.seq (.seq (.region [⟨(some 42), .q (.move (.tmp 11)), none⟩, ⟨(some 43), .q (.move (.tmp 6)), none⟩, ⟨(some 44), .q (.bin .lss (.tmp 42) (.tmp 43)), none⟩]) (.cond (.tmp 44) .skip (.exit 4))) (.seq (.block 5 (.region [⟨(some 47), .q (.move (.tmp 8)), none⟩, ⟨(some 48), .l (.buildSlice 1 1 [(vb8 0)] [(0, 1, (.const (vb8 1)))]), none⟩, ⟨(some 49), .e (.append 1 1 (.tmp 47) (.tmp 48)), none⟩, ⟨(some 8), .q (.move (.tmp 49)), none⟩])) (.region [⟨(some 45), .q (.move (.tmp 11)), none⟩, ⟨(some 46), .q (.bin .add (.tmp 45) (.const (vi 1))), none⟩, ⟨(some 11), .q (.move (.tmp 46)), none⟩])))
theorem lawnest_l3_body {call : CallT} {N : Nat} {t : T} {h : Hp} {wB7 : AV} {G : Nat → Prop} {h0 : Hp} {B5 : Nat} {B6 : Nat} {B7 : List Nat} (fB7 : ∀ x ∈ B7, x < 256) (h_begun : TrueS call 11) (h_take : C_take call) {o : List Nat × Nat} {n : Nat} {A8 : List Nat} {A11 : Nat} {wA8 : AV} (hN : 90000 < N) (hi : (fun (z : Nat × List Nat × Nat × AV) (h' : Hp) => lawnest_l3 B5 B6 B7 z.1 z.2.1 z.2.2.1 = some o ∧ (∀ x ∈ z.2.1, x < 256) ∧ Eng.Sep [OwnO 1 wB7 B7.length (u8s B7), OwnO 1 z.2.2.2 z.2.1.length (u8s z.2.1), Frz G h0] h') (n, A8, A11, wA8) h)
    : ∃ s, evC call N lawnest_l3C (ovT [(4, (AV.bool false)), (5, (vi B5)), (6, (vi B6)), (7, wB7), (8, wA8), (11, (vi A11))] t) h = s ∧ obsS [4, 5, 6, 7, 8, 11] (fun ls h' => ∃ y, ls = ((fun (z : Nat × List Nat × Nat × AV) => [(4, (AV.bool false)), (5, (vi B5)), (6, (vi B6)), (7, wB7), (8, z.2.2.2), (11, (vi z.2.2.1))]) y).map (fun p => some p.2) ∧ (fun (z : Nat × List Nat × Nat × AV) (h' : Hp) => lawnest_l3 B5 B6 B7 z.1 z.2.1 z.2.2.1 = some o ∧ (∀ x ∈ z.2.1, x < 256) ∧ Eng.Sep [OwnO 1 wB7 B7.length (u8s B7), OwnO 1 z.2.2.2 z.2.1.length (u8s z.2.1), Frz G h0] h') y h' ∧ (fun (z : Nat × List Nat × Nat × AV) => z.1) y < (fun (z : Nat × List Nat × Nat × AV) => z.1) (n, A8, A11, wA8)) (fun i ls h' => ∃ y, ls = ((fun (z : Nat × List Nat × Nat × AV) => [(4, (AV.bool false)), (5, (vi B5)), (6, (vi B6)), (7, wB7), (8, z.2.2.2), (11, (vi z.2.2.1))]) y).map (fun p => some p.2) ∧ (fun (i : Nat) (z : Nat × List Nat × Nat × AV) (h' : Hp) => (i = 4) ∧ (i = 4 → o = (z.2.1, z.2.2.1) ∧ (∀ x ∈ z.2.1, x < 256) ∧ Eng.Sep [OwnO 1 wB7 B7.length (u8s B7), OwnO 1 z.2.2.2 z.2.1.length (u8s z.2.1), Frz G h0] h')) i y h') (fun ls h' => (fun (ls : List (Option AV)) (h' : Hp) => False) ls h') s := by
  have hi : lawnest_l3 B5 B6 B7 n A8 A11 = some o ∧ (∀ x ∈ A8, x < 256) ∧ Eng.Sep [OwnO 1 wB7 B7.length (u8s B7), OwnO 1 wA8 A8.length (u8s A8), Frz G h0] h := hi
  obtain ⟨hp, fA8, S⟩ := hi
  obtain ⟨m, hm⟩ : ∃ m, n = m + 1 := by
    cases n with
    | zero => first | cases hp | (unfold lawnest_l3 at hp; cases hp) | (simp [lawnest_l3] at hp)
    | succ m => exact ⟨m, rfl⟩
  rw [hm] at hp
  unfold lawnest_l3 at hp
  refine walk_ok (o := (.fork 2 (.effx 2 (fun e3 => e3.v) (fun e3 => (.tell 2 (vi (A11 + 1)) .fin))) .fin)) (p := (fun (KN : List (Option AV) → Hp → Prop) (KE : Nat → List (Option AV) → Hp → Prop) (KR : List (Option AV) → Hp → Prop) => ((ltI (Int.ofNat A11) (Int.ofNat B6) = true → (∃ e3 : Ev, evE (.append 1 1 (.const wA8) (.const (AV.slice (Hp.next h) 0 1 1 1 true))) call .lf (hpush h (mkCells [(vb8 1)] 1)) = .ok e3.v e3.h ∧ ((evQ (.bin .add (.const (vi A11)) (.const (vi 1))) .lf H0 = .ok (vi (A11 + 1)) ∧ KN [some (AV.bool false), some (vi B5), some (vi B6), some wB7, some e3.v, some (vi (A11 + 1))] e3.h)))) ∧ (ltI (Int.ofNat A11) (Int.ofNat B6) = false → KE 4 [some (AV.bool false), some (vi B5), some (vi B6), some wB7, some wA8, some (vi A11)] h))) (fun ls h' => ∃ y, ls = ((fun (z : Nat × List Nat × Nat × AV) => [(4, (AV.bool false)), (5, (vi B5)), (6, (vi B6)), (7, wB7), (8, z.2.2.2), (11, (vi z.2.2.1))]) y).map (fun p => some p.2) ∧ (fun (z : Nat × List Nat × Nat × AV) (h' : Hp) => lawnest_l3 B5 B6 B7 z.1 z.2.1 z.2.2.1 = some o ∧ (∀ x ∈ z.2.1, x < 256) ∧ Eng.Sep [OwnO 1 wB7 B7.length (u8s B7), OwnO 1 z.2.2.2 z.2.1.length (u8s z.2.1), Frz G h0] h') y h' ∧ (fun (z : Nat × List Nat × Nat × AV) => z.1) y < (fun (z : Nat × List Nat × Nat × AV) => z.1) (n, A8, A11, wA8)) (fun i ls h' => ∃ y, ls = ((fun (z : Nat × List Nat × Nat × AV) => [(4, (AV.bool false)), (5, (vi B5)), (6, (vi B6)), (7, wB7), (8, z.2.2.2), (11, (vi z.2.2.1))]) y).map (fun p => some p.2) ∧ (fun (i : Nat) (z : Nat × List Nat × Nat × AV) (h' : Hp) => (i = 4) ∧ (i = 4 → o = (z.2.1, z.2.2.1) ∧ (∀ x ∈ z.2.1, x < 256) ∧ Eng.Sep [OwnO 1 wB7 B7.length (u8s B7), OwnO 1 z.2.2.2 z.2.1.length (u8s z.2.1), Frz G h0] h')) i y h') (fun ls h' => (fun (ls : List (Option AV)) (h' : Hp) => False) ls h')) (by kernel_rfl) ?_
  refine ⟨fun c1 => ?_, fun c1 => ?_⟩
  · replace c1 := ltI_t c1
    replace hp := ift hp c1
    have S2 := own_new S 1 1 [(vb8 1)] true rfl
    have ⟨g4, hp⟩ := gd_inv hp
    obtain ⟨e3, qe3, se3⟩ := own_append (bytes := 1) call S2 (i := 2) rfl (x := (AV.slice (Hp.next h) 0 1 1 1 true)) (m := 1) (xs := u8s [1]) (fun z k => own_src S2 (i := 0) rfl z k) (own_L S2 (i := 0) rfl) (u8s_cells _) (show (A8.length + 1) * 1 ≤ 70368744177664 by omega) g4
    have S6 : Sep [OwnO 1 (AV.slice (Hp.next h) 0 1 1 1 true) 1 (u8s [1]), OwnO 1 wB7 B7.length (u8s B7), OwnO 1 e3.v ((A8 ++ [1]).length) (u8s (A8 ++ [1])), Frz G h0] e3.h := (by have z := se3; rw [show u8s (A8 ++ [1]) = u8s A8 ++ u8s [1] from by simp [u8s_eq], show (A8 ++ [1] : List Nat).length = A8.length + 1 from by simp]; exact z)
    have S7 := S6.tail
    refine ⟨e3, qe3, ?_⟩
    have ⟨g8, hp⟩ := gd_inv hp
    refine ⟨q_add g8, ?_⟩
    refine ⟨(m, A8 ++ [1], A11 + 1, e3.v), rfl, ⟨hp, (put_lt fA8 (cons_lt (show 1 < 256 by decide) nil_lt)), S7⟩, by show m < n; omega⟩
  replace c1 := ltI_f c1
  replace hp := iff0 hp (nltO c1)
  refine ⟨(m, A8, A11, wA8), rfl, rfl, fun _ => ⟨(Option.some.inj hp).symm, fA8, S⟩⟩
theorem lawnest_l3_t {call : CallT} {N : Nat} {wB7 : AV} {G : Nat → Prop} {h0 : Hp} {B5 : Nat} {B6 : Nat} {B7 : List Nat} (fB7 : ∀ x ∈ B7, x < 256) (h_begun : TrueS call 11) (h_take : C_take call) {o : List Nat × Nat} {n : Nat} {A8 : List Nat} {A11 : Nat} {wA8 : AV} {h : Hp} (hi : (fun (z : Nat × List Nat × Nat × AV) (h' : Hp) => lawnest_l3 B5 B6 B7 z.1 z.2.1 z.2.2.1 = some o ∧ (∀ x ∈ z.2.1, x < 256) ∧ Eng.Sep [OwnO 1 wB7 B7.length (u8s B7), OwnO 1 z.2.2.2 z.2.1.length (u8s z.2.1), Frz G h0] h') (n, A8, A11, wA8) h) (hN : n < N) (hN' : 90000 < N) {t : T} (ht : Has ((fun (z : Nat × List Nat × Nat × AV) => [(4, (AV.bool false)), (5, (vi B5)), (6, (vi B6)), (7, wB7), (8, z.2.2.2), (11, (vi z.2.2.1))]) (n, A8, A11, wA8)) t) :
    (∃ i y t' h', evC call N (.loop lawnest_l3C) t h = .exit i t' h' ∧ Has ((fun (z : Nat × List Nat × Nat × AV) => [(4, (AV.bool false)), (5, (vi B5)), (6, (vi B6)), (7, wB7), (8, z.2.2.2), (11, (vi z.2.2.1))]) y) t' ∧ (fun (i : Nat) (z : Nat × List Nat × Nat × AV) (h' : Hp) => (i = 4) ∧ (i = 4 → o = (z.2.1, z.2.2.1) ∧ (∀ x ∈ z.2.1, x < 256) ∧ Eng.Sep [OwnO 1 wB7 B7.length (u8s B7), OwnO 1 z.2.2.2 z.2.1.length (u8s z.2.1), Frz G h0] h')) i y h') ∨ (∃ t' h', evC call N (.loop lawnest_l3C) t h = .ret t' h' ∧ (fun (ls : List (Option AV)) (h' : Hp) => False) (slots [4, 5, 6, 7, 8, 11] t') h') :=
  loop_st (fun (z : Nat × List Nat × Nat × AV) => [(4, (AV.bool false)), (5, (vi B5)), (6, (vi B6)), (7, wB7), (8, z.2.2.2), (11, (vi z.2.2.1))]) [4, 5, 6, 7, 8, 11] (fun _ => rfl) (fun (z : Nat × List Nat × Nat × AV) (h' : Hp) => lawnest_l3 B5 B6 B7 z.1 z.2.1 z.2.2.1 = some o ∧ (∀ x ∈ z.2.1, x < 256) ∧ Eng.Sep [OwnO 1 wB7 B7.length (u8s B7), OwnO 1 z.2.2.2 z.2.1.length (u8s z.2.1), Frz G h0] h') (fun (z : Nat × List Nat × Nat × AV) => z.1) (fun (i : Nat) (z : Nat × List Nat × Nat × AV) (h' : Hp) => (i = 4) ∧ (i = 4 → o = (z.2.1, z.2.2.1) ∧ (∀ x ∈ z.2.1, x < 256) ∧ Eng.Sep [OwnO 1 wB7 B7.length (u8s B7), OwnO 1 z.2.2.2 z.2.1.length (u8s z.2.1), Frz G h0] h')) (fun (ls : List (Option AV)) (h' : Hp) => False) (fun ⟨n, A8, A11, wA8⟩ t h hi => lawnest_l3_body fB7 h_begun h_take hN' hi) (n, A8, A11, wA8) h hi hN t ht
noncomputable def lawnest_p (n : Nat) (long : Nat) : Option (Bool) :=
  (ob (lawnest_l1 (n % 50) (long % 700) [] 90000 [] 0) fun o8 =>
    (ob (lawnest_l2 (n % 50) (long % 700) [] 90000 o8.1 0) fun o16 =>
    (ob (lawnest_l3 (n % 50) (long % 700) o16.1 90000 [] 0) fun o24 =>
    (gd (o24.1.length + 1 ≤ 70368744177664) (ob (take_p o16.1) fun x38 =>
    (ob (take_p (o24.1 ++ [11])) fun x52 =>
    (if 32 < (n % 50) then (if x38.2.2 ≠ 4 then (some false) else
    (if 600 ≤ (long % 700) then (if x52.2.2 = 4 then (some true) else
    (some false)) else
    (if x52.2.2 = 0 then (gd ((long % 700) + 1 < 9223372036854775808) (if x52.1.length = (long % 700) + 1 then (some true) else
    (some false))) else
    (some false)))) else
    (if x38.2.2 ≠ 0 then (some false) else
    (gd (2 * (n % 50) < 9223372036854775808) (gd ((2 * (n % 50)) + 1 < 9223372036854775808) (if x38.1.length ≠ (2 * (n % 50)) + 1 then (some false) else
    (if 600 ≤ (long % 700) then (if x52.2.2 = 4 then (some true) else
    (some false)) else
    (if x52.2.2 = 0 then (gd ((long % 700) + 1 < 9223372036854775808) (if x52.1.length = (long % 700) + 1 then (some true) else
    (some false))) else
    (some false))))))))))))))
theorem lawnest_w {call : CallT} {N : Nat} {h : Hp} {n : Nat} {long : Nat} (fn_1 : n < 256) (flong_1 : long < 65536) (h_begun : TrueS call 11) (h_take : C_take call) (hN : 90000 < N) {r : Bool} (hp : lawnest_p n long = some r) :
    ∃ rv rh, evF1 (progS Try.prog (compDrawn Try.prog)) N call 6 [(vb8 n), (AV.int .u16 (Int.ofNat long))] h = .ok rv rh ∧ (fun (rv : AV) (rh : Hp) => rv = (AV.bool r)) rv rh := by
  have S : Eng.Sep [Frz (Low h) h] h := Sep.start h
  unfold lawnest_p at hp
  refine fwalk_ok (K := (fun (rv : AV) (rh : Hp) => rv = (AV.bool r))) (o := (.eff 1 (AV.bool true) h (.tell 2 (vb8 (n % 50)) (.tell 0 (vi (n % 50)) (.tell 1 (AV.int .u16 (Int.ofNat (long % 700))) (.tell 0 (vi (long % 700)) (.exi 5 fun (A7o8 : List Nat) => (.exi 0 fun (A9o8 : Nat) => (.exi 0 fun (wA7o8 : AV) => (.exi 0 fun (t11 : T) => (.exi 0 fun (h12 : Hp) => (.lp 0 (.exit 0 (ovT [(4, (AV.bool false)), (5, (vi (n % 50))), (6, (vi (long % 700))), (7, wA7o8), (8, AV.nilSlice), (9, (vi A9o8))] t11) h12) (.exi 1 fun (A7o16 : List Nat) => (.exi 0 fun (A10o16 : Nat) => (.exi 0 fun (wA7o16 : AV) => (.exi 0 fun (t19 : T) => (.exi 0 fun (h20 : Hp) => (.lp 0 (.exit 2 (ovT [(4, (AV.bool false)), (5, (vi (n % 50))), (6, (vi (long % 700))), (7, wA7o16), (8, AV.nilSlice), (10, (vi A10o16))] t19) h20) (.exi 1 fun (A8o24 : List Nat) => (.exi 0 fun (A11o24 : Nat) => (.exi 0 fun (wA8o24 : AV) => (.exi 0 fun (t27 : T) => (.exi 0 fun (h28 : Hp) => (.lp 0 (.exit 4 (ovT [(4, (AV.bool false)), (5, (vi (n % 50))), (6, (vi (long % 700))), (7, wA7o16), (8, wA8o24), (11, (vi A11o24))] t27) h28) (.effx 2 (fun e33 => e33.v) (fun e33 => (.exi 2 fun (x38 : List (Nat × Nat × Nat × Nat × List Nat × Int) × Nat × Nat) => (.exi 0 fun (w42 : AV) => (.exi 0 fun (h46 : Hp) => (.eff 0 (AV.tuple [w42, (vi x38.2.1), (vi x38.2.2)]) h46 (.exi 8 fun (x52 : List (Nat × Nat × Nat × Nat × List Nat × Int) × Nat × Nat) => (.exi 0 fun (w56 : AV) => (.exi 0 fun (h60 : Hp) => (.eff 0 (AV.tuple [w56, (vi x52.2.1), (vi x52.2.2)]) h60 (.fork 8 (.fork 1 .fin (.fork 1 (.fork 2 .fin .fin) (.fork 2 (.tell 1 (vi x52.1.length) (.tell 1 (vi ((long % 700) + 1)) (.fork 2 .fin .fin))) .fin))) (.fork 2 .fin (.tell 1 (vi x38.1.length) (.tell 1 (vi (2 * (n % 50))) (.tell 0 (vi ((2 * (n % 50)) + 1)) (.fork 1 .fin (.fork 1 (.fork 2 .fin .fin) (.fork 2 (.tell 1 (vi x52.1.length) (.tell 1 (vi ((long % 700) + 1)) (.fork 2 .fin .fin))) .fin)))))))))))))))))))))))))))))))))))))))))) (p := (fun (KK : AV → Hp → Prop) => (call 11 [] h = .ok (AV.bool true) h ∧ ((evQ (.bin .rem (.const (vb8 n)) (.const (vb8 50))) .lf H0 = .ok (vb8 (n % 50)) ∧ ((evQ (.toInt .i64 (.const (vb8 (n % 50)))) .lf H0 = .ok (vi (n % 50)) ∧ ((evQ (.bin .rem (.const (AV.int .u16 (Int.ofNat long))) (.const (AV.int .u16 (Int.ofNat 700)))) .lf H0 = .ok (AV.int .u16 (Int.ofNat (long % 700))) ∧ ((evQ (.toInt .i64 (.const (AV.int .u16 (Int.ofNat (long % 700))))) .lf H0 = .ok (vi (long % 700)) ∧ (∃ A7o8 : List Nat, ∃ A9o8 : Nat, ∃ wA7o8 : AV, ∃ t11 : T, ∃ h12 : Hp, (evC call N (.loop lawnest_l1C) (ovT [(0, (vb8 n)), (1, (AV.int .u16 (Int.ofNat long))), (4, (AV.bool false)), (5, (vi (n % 50))), (6, (vi (long % 700))), (7, AV.nilSlice), (8, AV.nilSlice), (9, (vi 0)), (18, (AV.bool true)), (19, (AV.bool false)), (20, (vb8 n)), (21, (vb8 (n % 50))), (22, (vi (n % 50))), (23, (AV.int .u16 (Int.ofNat long))), (24, (AV.int .u16 (Int.ofNat (long % 700)))), (25, (vi (long % 700)))] .lf) h = (.exit 0 (ovT [(4, (AV.bool false)), (5, (vi (n % 50))), (6, (vi (long % 700))), (7, wA7o8), (8, AV.nilSlice), (9, (vi A9o8))] t11) h12) ∧ True ∧ (∃ A7o16 : List Nat, ∃ A10o16 : Nat, ∃ wA7o16 : AV, ∃ t19 : T, ∃ h20 : Hp, (evC call N (.loop lawnest_l2C) (ovT [(4, (AV.bool false)), (5, (vi (n % 50))), (6, (vi (long % 700))), (7, wA7o8), (8, AV.nilSlice), (9, (vi A9o8)), (10, (vi 0))] t11) h12 = (.exit 2 (ovT [(4, (AV.bool false)), (5, (vi (n % 50))), (6, (vi (long % 700))), (7, wA7o16), (8, AV.nilSlice), (10, (vi A10o16))] t19) h20) ∧ True ∧ (∃ A8o24 : List Nat, ∃ A11o24 : Nat, ∃ wA8o24 : AV, ∃ t27 : T, ∃ h28 : Hp, (evC call N (.loop lawnest_l3C) (ovT [(4, (AV.bool false)), (5, (vi (n % 50))), (6, (vi (long % 700))), (7, wA7o16), (8, AV.nilSlice), (10, (vi A10o16)), (11, (vi 0))] t19) h20 = (.exit 4 (ovT [(4, (AV.bool false)), (5, (vi (n % 50))), (6, (vi (long % 700))), (7, wA7o16), (8, wA8o24), (11, (vi A11o24))] t27) h28) ∧ True ∧ (∃ e33 : Ev, evE (.append 1 1 (.const wA8o24) (.const (AV.slice (Hp.next h28) 0 1 1 1 true))) call .lf (hpush h28 (mkCells [(vb8 11)] 1)) = .ok e33.v e33.h ∧ (∃ x38 : List (Nat × Nat × Nat × Nat × List Nat × Int) × Nat × Nat, ∃ w42 : AV, ∃ h46 : Hp, (call 13 [wA7o16] e33.h = .ok (AV.tuple [w42, (vi x38.2.1), (vi x38.2.2)]) h46 ∧ (∃ x52 : List (Nat × Nat × Nat × Nat × List Nat × Int) × Nat × Nat, ∃ w56 : AV, ∃ h60 : Hp, (call 13 [e33.v] h46 = .ok (AV.tuple [w56, (vi x52.2.1), (vi x52.2.2)]) h60 ∧ ((ltI (Int.ofNat 32) (Int.ofNat (n % 50)) = true → ((notB (eqI (Int.ofNat x38.2.2) (Int.ofNat 4)) = true → KK (AV.bool false) h60) ∧ (notB (eqI (Int.ofNat x38.2.2) (Int.ofNat 4)) = false → ((notB (ltI (Int.ofNat (long % 700)) (Int.ofNat 600)) = true → ((eqI (Int.ofNat x52.2.2) (Int.ofNat 4) = true → KK (AV.bool true) h60) ∧ (eqI (Int.ofNat x52.2.2) (Int.ofNat 4) = false → KK (AV.bool false) h60))) ∧ (notB (ltI (Int.ofNat (long % 700)) (Int.ofNat 600)) = false → ((eqI (Int.ofNat x52.2.2) (Int.ofNat 0) = true → ((evQ (.lenL (.const w56)) .lf H0 = .ok (vi x52.1.length) ∧ ((evQ (.bin .add (.const (vi (long % 700))) (.const (vi 1))) .lf H0 = .ok (vi ((long % 700) + 1)) ∧ ((eqI (Int.ofNat x52.1.length) (Int.ofNat ((long % 700) + 1)) = true → KK (AV.bool true) h60) ∧ (eqI (Int.ofNat x52.1.length) (Int.ofNat ((long % 700) + 1)) = false → KK (AV.bool false) h60))))))) ∧ (eqI (Int.ofNat x52.2.2) (Int.ofNat 0) = false → KK (AV.bool false) h60))))))) ∧ (ltI (Int.ofNat 32) (Int.ofNat (n % 50)) = false → ((notB (eqI (Int.ofNat x38.2.2) (Int.ofNat 0)) = true → KK (AV.bool false) h60) ∧ (notB (eqI (Int.ofNat x38.2.2) (Int.ofNat 0)) = false → ((evQ (.lenL (.const w42)) .lf H0 = .ok (vi x38.1.length) ∧ ((evQ (.bin .mul (.const (vi 2)) (.const (vi (n % 50)))) .lf H0 = .ok (vi (2 * (n % 50))) ∧ ((evQ (.bin .add (.const (vi (2 * (n % 50)))) (.const (vi 1))) .lf H0 = .ok (vi ((2 * (n % 50)) + 1)) ∧ ((notB (eqI (Int.ofNat x38.1.length) (Int.ofNat ((2 * (n % 50)) + 1))) = true → KK (AV.bool false) h60) ∧ (notB (eqI (Int.ofNat x38.1.length) (Int.ofNat ((2 * (n % 50)) + 1))) = false → ((notB (ltI (Int.ofNat (long % 700)) (Int.ofNat 600)) = true → ((eqI (Int.ofNat x52.2.2) (Int.ofNat 4) = true → KK (AV.bool true) h60) ∧ (eqI (Int.ofNat x52.2.2) (Int.ofNat 4) = false → KK (AV.bool false) h60))) ∧ (notB (ltI (Int.ofNat (long % 700)) (Int.ofNat 600)) = false → ((eqI (Int.ofNat x52.2.2) (Int.ofNat 0) = true → ((evQ (.lenL (.const w56)) .lf H0 = .ok (vi x52.1.length) ∧ ((evQ (.bin .add (.const (vi (long % 700))) (.const (vi 1))) .lf H0 = .ok (vi ((long % 700) + 1)) ∧ ((eqI (Int.ofNat x52.1.length) (Int.ofNat ((long % 700) + 1)) = true → KK (AV.bool true) h60) ∧ (eqI (Int.ofNat x52.1.length) (Int.ofNat ((long % 700) + 1)) = false → KK (AV.bool false) h60))))))) ∧ (eqI (Int.ofNat x52.2.2) (Int.ofNat 0) = false → KK (AV.bool false) h60))))))))))))))))))))))))))))))))))))) (fun (rv : AV) (rh : Hp) => rv = (AV.bool r))) (by kernel_rfl) ?_
  refine ⟨h_begun _, ?_⟩
  refine ⟨q_rem (by decide), ?_⟩
  have g1 : n % 50 < 256 := Nat.lt_of_le_of_lt (Nat.mod_le _ _) fn_1
  refine ⟨i_conv (Nat.lt_of_lt_of_le g1 (by decide)), ?_⟩
  refine ⟨q_rem (by decide), ?_⟩
  have g2 : long % 700 < 65536 := Nat.lt_of_le_of_lt (Nat.mod_le _ _) flong_1
  refine ⟨i_conv (Nat.lt_of_lt_of_le g2 (by decide)), ?_⟩
  have S3 := own_nil S 1
  have S5 := own_nil S3 1
  have S7 : Sep [OwnO 1 AV.nilSlice (([] : List Nat).length) (u8s []), OwnO 1 AV.nilSlice (([] : List Nat).length) (u8s []), Frz (Low h) h] h := S5.sel [1, 0, 2] (by decide) rfl
  have ⟨o8, hb9, hp⟩ := ob_inv hp
  rcases lawnest_l1_t nil_lt h_begun h_take (o := o8) (B5 := n % 50) (B6 := long % 700) (B8 := []) (n := 90000) (A7 := []) (A9 := 0) (wA7 := AV.nilSlice) ⟨hb9, nil_lt, S7⟩ hN hN (t := (ovT [(0, (vb8 n)), (1, (AV.int .u16 (Int.ofNat long))), (4, (AV.bool false)), (5, (vi (n % 50))), (6, (vi (long % 700))), (7, AV.nilSlice), (8, AV.nilSlice), (9, (vi 0)), (18, (AV.bool true)), (19, (AV.bool false)), (20, (vb8 n)), (21, (vb8 (n % 50))), (22, (vi (n % 50))), (23, (AV.int .u16 (Int.ofNat long))), (24, (AV.int .u16 (Int.ofNat (long % 700)))), (25, (vi (long % 700)))] .lf)) (show slots [4, 5, 6, 7, 8, 9] _ = [some (AV.bool false), some (vi (n % 50)), some (vi (long % 700)), some AV.nilSlice, some AV.nilSlice, some (vi 0)] by kernel_rfl) with ⟨io8, ⟨_, A7o8, A9o8, wA7o8⟩, t11, h12, qo8, wo8, zo8⟩ | ⟨_, _, _, zo8⟩
  rotate_left
  · exact zo8.elim
  obtain ⟨jo8, zo8⟩ := zo8
  subst jo8
  replace zo8 := zo8 rfl
  obtain ⟨uo8, fA7o8, So8⟩ := zo8
  replace uo8 := uo8.symm
  subst uo8
  try dsimp only at hp
  refine ⟨A7o8, A9o8, wA7o8, t11, h12, (qo8.trans (congrArg (fun t => RS.exit 0 t h12) (ovT_eq wo8).symm)), trivial, ?_⟩
  have ⟨o16, hb17, hp⟩ := ob_inv hp
  rcases lawnest_l2_t nil_lt h_begun h_take (o := o16) (B5 := (n % 50)) (B6 := (long % 700)) (B8 := []) (n := 90000) (A7 := A7o8) (A10 := 0) (wA7 := wA7o8) ⟨hb17, fA7o8, So8⟩ hN hN (t := (ovT [(4, (AV.bool false)), (5, (vi (n % 50))), (6, (vi (long % 700))), (7, wA7o8), (8, AV.nilSlice), (9, (vi A9o8)), (10, (vi 0))] t11)) (show slots [4, 5, 6, 7, 8, 10] _ = [some (AV.bool false), some (vi (n % 50)), some (vi (long % 700)), some wA7o8, some AV.nilSlice, some (vi 0)] by kernel_rfl) with ⟨io16, ⟨_, A7o16, A10o16, wA7o16⟩, t19, h20, qo16, wo16, zo16⟩ | ⟨_, _, _, zo16⟩
  rotate_left
  · exact zo16.elim
  obtain ⟨jo16, zo16⟩ := zo16
  subst jo16
  replace zo16 := zo16 rfl
  obtain ⟨uo16, fA7o16, So16⟩ := zo16
  replace uo16 := uo16.symm
  subst uo16
  try dsimp only at hp
  refine ⟨A7o16, A10o16, wA7o16, t19, h20, (qo16.trans (congrArg (fun t => RS.exit 2 t h20) (ovT_eq wo16).symm)), trivial, ?_⟩
  have ⟨o24, hb25, hp⟩ := ob_inv hp
  rcases lawnest_l3_t fA7o16 h_begun h_take (o := o24) (B5 := (n % 50)) (B6 := (long % 700)) (B7 := A7o16) (n := 90000) (A8 := []) (A11 := 0) (wA8 := AV.nilSlice) ⟨hb25, nil_lt, So16⟩ hN hN (t := (ovT [(4, (AV.bool false)), (5, (vi (n % 50))), (6, (vi (long % 700))), (7, wA7o16), (8, AV.nilSlice), (10, (vi A10o16)), (11, (vi 0))] t19)) (show slots [4, 5, 6, 7, 8, 11] _ = [some (AV.bool false), some (vi (n % 50)), some (vi (long % 700)), some wA7o16, some AV.nilSlice, some (vi 0)] by kernel_rfl) with ⟨io24, ⟨_, A8o24, A11o24, wA8o24⟩, t27, h28, qo24, wo24, zo24⟩ | ⟨_, _, _, zo24⟩
  rotate_left
  · exact zo24.elim
  obtain ⟨jo24, zo24⟩ := zo24
  subst jo24
  replace zo24 := zo24 rfl
  obtain ⟨uo24, fA8o24, So24⟩ := zo24
  replace uo24 := uo24.symm
  subst uo24
  try dsimp only at hp
  refine ⟨A8o24, A11o24, wA8o24, t27, h28, (qo24.trans (congrArg (fun t => RS.exit 4 t h28) (ovT_eq wo24).symm)), trivial, ?_⟩
  have S32 := own_new So24 1 1 [(vb8 11)] true rfl
  have ⟨g34, hp⟩ := gd_inv hp
  obtain ⟨e33, qe33, se33⟩ := own_append (bytes := 1) call S32 (i := 2) rfl (x := (AV.slice (Hp.next h28) 0 1 1 1 true)) (m := 1) (xs := u8s [11]) (fun z k => own_src S32 (i := 0) rfl z k) (own_L S32 (i := 0) rfl) (u8s_cells _) (show (A8o24.length + 1) * 1 ≤ 70368744177664 by omega) g34
  have S36 : Sep [OwnO 1 (AV.slice (Hp.next h28) 0 1 1 1 true) 1 (u8s [11]), OwnO 1 wA7o16 A7o16.length (u8s A7o16), OwnO 1 e33.v ((A8o24 ++ [11]).length) (u8s (A8o24 ++ [11])), Frz (Low h) h] e33.h := (by have z := se33; rw [show u8s (A8o24 ++ [11]) = u8s A8o24 ++ u8s [11] from by simp [u8s_eq], show (A8o24 ++ [11] : List Nat).length = A8o24.length + 1 from by simp]; exact z)
  have S37 := S36.tail
  refine ⟨e33, qe33, ?_⟩
  have ⟨x38, hb39, hp⟩ := ob_inv hp
  obtain ⟨v45, h46, q47, w42, L44, G40, k41, e48, f43, S49⟩ := h_take (own_bin S37 (i := 0) rfl fA7o16) hb39
  replace e48 := e48.symm
  subst e48
  have S51 := Sep.call S37 (news := [OwnO 6 w42 x38.1.length L44, Frz G40 k41]) S49
  refine ⟨x38, w42, h46, q47, ?_⟩
  have ⟨x52, hb53, hp⟩ := ob_inv hp
  obtain ⟨v59, h60, q61, w56, L58, G54, k55, e62, f57, S63⟩ := h_take (own_bin S51 (i := 3) rfl (put_lt fA8o24 (cons_lt (show 11 < 256 by decide) nil_lt))) hb53
  replace e62 := e62.symm
  subst e62
  have S65 := Sep.call S51 (news := [OwnO 6 w56 x52.1.length L58, Frz G54 k55]) S63
  refine ⟨x52, w56, h60, q61, ?_⟩
  refine ⟨fun c66 => ?_, fun c66 => ?_⟩
  · replace c66 := ltI_t c66
    replace hp := ift hp c66
    refine ⟨fun c67 => ?_, fun c67 => ?_⟩
    · replace c67 := eqI_f (notB_t c67)
      replace hp := ift hp c67
      obtain rfl := Option.some.inj hp
      exact rfl
    replace c67 := eqI_t (notB_f c67)
    replace hp := iff0 hp (nneO c67)
    refine ⟨fun c68 => ?_, fun c68 => ?_⟩
    · replace c68 := ltI_f (notB_t c68)
      replace hp := ift hp c68
      refine ⟨fun c69 => ?_, fun c69 => ?_⟩
      · replace c69 := eqI_t c69
        replace hp := ift hp c69
        obtain rfl := Option.some.inj hp
        exact rfl
      replace c69 := eqI_f c69
      replace hp := iff0 hp (c69)
      obtain rfl := Option.some.inj hp
      exact rfl
    replace c68 := ltI_t (notB_f c68)
    replace hp := iff0 hp (nleO c68)
    refine ⟨fun c69 => ?_, fun c69 => ?_⟩
    · replace c69 := eqI_t c69
      replace hp := ift hp c69
      refine ⟨own_len S65 (i := 0) rfl, ?_⟩
      have ⟨g70, hp⟩ := gd_inv hp
      refine ⟨q_add g70, ?_⟩
      refine ⟨fun c71 => ?_, fun c71 => ?_⟩
      · replace c71 := eqI_t c71
        replace hp := ift hp c71
        obtain rfl := Option.some.inj hp
        exact rfl
      replace c71 := eqI_f c71
      replace hp := iff0 hp (c71)
      obtain rfl := Option.some.inj hp
      exact rfl
    replace c69 := eqI_f c69
    replace hp := iff0 hp (c69)
    obtain rfl := Option.some.inj hp
    exact rfl
  replace c66 := ltI_f c66
  replace hp := iff0 hp (nltO c66)
  refine ⟨fun c67 => ?_, fun c67 => ?_⟩
  · replace c67 := eqI_f (notB_t c67)
    replace hp := ift hp c67
    obtain rfl := Option.some.inj hp
    exact rfl
  replace c67 := eqI_t (notB_f c67)
  replace hp := iff0 hp (nneO c67)
  refine ⟨own_len S65 (i := 2) rfl, ?_⟩
  have ⟨g68, hp⟩ := gd_inv hp
  refine ⟨q_mul g68, ?_⟩
  have ⟨g69, hp⟩ := gd_inv hp
  refine ⟨q_add g69, ?_⟩
  refine ⟨fun c70 => ?_, fun c70 => ?_⟩
  · replace c70 := eqI_f (notB_t c70)
    replace hp := ift hp c70
    obtain rfl := Option.some.inj hp
    exact rfl
  replace c70 := eqI_t (notB_f c70)
  replace hp := iff0 hp (nneO c70)
  refine ⟨fun c71 => ?_, fun c71 => ?_⟩
  · replace c71 := ltI_f (notB_t c71)
    replace hp := ift hp c71
    refine ⟨fun c72 => ?_, fun c72 => ?_⟩
    · replace c72 := eqI_t c72
      replace hp := ift hp c72
      obtain rfl := Option.some.inj hp
      exact rfl
    replace c72 := eqI_f c72
    replace hp := iff0 hp (c72)
    obtain rfl := Option.some.inj hp
    exact rfl
  replace c71 := ltI_t (notB_f c71)
  replace hp := iff0 hp (nleO c71)
  refine ⟨fun c72 => ?_, fun c72 => ?_⟩
  · replace c72 := eqI_t c72
    replace hp := ift hp c72
    refine ⟨own_len S65 (i := 0) rfl, ?_⟩
    have ⟨g73, hp⟩ := gd_inv hp
    refine ⟨q_add g73, ?_⟩
    refine ⟨fun c74 => ?_, fun c74 => ?_⟩
    · replace c74 := eqI_t c74
      replace hp := ift hp c74
      obtain rfl := Option.some.inj hp
      exact rfl
    replace c74 := eqI_f c74
    replace hp := iff0 hp (c74)
    obtain rfl := Option.some.inj hp
    exact rfl
  replace c72 := eqI_f c72
  replace hp := iff0 hp (c72)
  obtain rfl := Option.some.inj hp
  exact rfl
end Go.Proofs.Ytpelnanckmjoaaa
end
section
set_option linter.unusedVariables false
set_option linter.unusedSimpArgs false
namespace Go.Proofs.Ytpelnanckmjoaaa
open Go Eng
abbrev St := List Nat × Nat
def Sm (T : Nat) (s : St) : Prop := s.1.length ≤ T ∧ T ≤ 2000 ∧ ∀ x ∈ s.1, x < 256
theorem Sm.drop {T : Nat} {l : List Nat} {e : Nat} (h : Sm T (l, e)) (n e' : Nat) : Sm T (l.drop n, e') := ⟨by have := h.1; dsimp only at *; rw [List.length_drop]; omega, h.2.1, fun x hx => h.2.2 x (List.mem_of_mem_drop hx)⟩
theorem Sm.le {T : Nat} {s : St} (h : Sm T s) : s.1.length ≤ 2000 := Nat.le_trans h.1 h.2.1
def failS (e : Nat) (s : St) : St := if s.2 = 0 then (s.1, e) else s
def byteS (s : St) : Nat × St := if s.2 = 0 then (if s.1.length = 0 then (0, s.1, 3) else (s.1.getD 0 0, s.1.drop 1, 0)) else (0, s)
def u32S (s : St) : Nat × St := if s.2 = 0 then ((readG 32 false s.1 0 0 0).1 % 4294967296, s.1.drop (readG 32 false s.1 0 0 0).2.1, (readG 32 false s.1 0 0 0).2.2) else (0, s)
def s32S (s : St) : Nat × St := if s.2 = 0 then ((readG 32 true s.1 0 0 0).1 % 4294967296, s.1.drop (readG 32 true s.1 0 0 0).2.1, (readG 32 true s.1 0 0 0).2.2) else (0, s)
def s64S (s : St) : Nat × St := if s.2 = 0 then ((readG 64 true s.1 0 0 0).1, s.1.drop (readG 64 true s.1 0 0 0).2.1, (readG 64 true s.1 0 0 0).2.2) else (0, s)
def zeroS (s : St) : St := if (byteS s).1 ≠ 0 then failS 2 (byteS s).2 else (byteS s).2
noncomputable def tvF (x : Nat) : Bool × Nat := (tvalue_p x).getD (false, 0)
noncomputable def valueS (s : St) : Nat × St := ((byteS s).1, if (byteS s).2.2 = 0 then failS (tvF (byteS s).1).2 (byteS s).2 else (byteS s).2)
theorem tv_eq (x : Nat) : tvalue_p x = some (tvF x) ∧ ((tvF x).1 = true ↔ (tvF x).2 = 0) := by
  unfold tvF tvalue_p
  repeat' split
  all_goals exact ⟨rfl, by decide⟩
theorem rtv_eq (x : Nat) : rvalue0_p x = some (tvF x) := by rw [← (tv_eq x).1]; rfl
theorem tref_eq (x : Nat) : ∃ b, tref_p x = some b ∧ rref_p x = some b := by
  unfold tref_p rref_p
  repeat' split
  all_goals exact ⟨_, rfl, rfl⟩
noncomputable def refF (x : Nat) : Bool := (tref_p x).getD false
theorem tr_eq (x : Nat) : tref_p x = some (refF x) := by
  obtain ⟨b, h, _⟩ := tref_eq x
  unfold refF; rw [h]; rfl
theorem rr_eq (x : Nat) : rref_p x = some (refF x) := by
  obtain ⟨b, h, h2⟩ := tref_eq x
  unfold refF; rw [h, h2]; rfl
theorem failS_sm {T : Nat} {s : St} (h : Sm T s) (e : Nat) : Sm T (failS e s) := by unfold failS; split <;> exact h
theorem byteS_sm {T : Nat} {s : St} (h : Sm T s) : Sm T (byteS s).2 ∧ (byteS s).1 < 256 := by
  unfold byteS
  split
  · split
    · exact ⟨h, (show 0 < 256 by decide)⟩
    · exact ⟨h.drop 1 0, getD_lt h.2.2 0⟩
  · exact ⟨h, (show 0 < 256 by decide)⟩
theorem u32S_sm {T : Nat} {s : St} (h : Sm T s) : Sm T (u32S s).2 := by unfold u32S; split <;> first | exact h.drop _ _ | exact h
theorem s32S_sm {T : Nat} {s : St} (h : Sm T s) : Sm T (s32S s).2 := by unfold s32S; split <;> first | exact h.drop _ _ | exact h
theorem s64S_sm {T : Nat} {s : St} (h : Sm T s) : Sm T (s64S s).2 := by unfold s64S; split <;> first | exact h.drop _ _ | exact h
theorem zeroS_sm {T : Nat} {s : St} (h : Sm T s) : Sm T (zeroS s) := by unfold zeroS; split <;> first | exact failS_sm (byteS_sm h).1 _ | exact (byteS_sm h).1
theorem valueS_sm {T : Nat} {s : St} (h : Sm T s) : Sm T (valueS s).2 := by
  unfold valueS
  dsimp only
  split <;> first | exact failS_sm (byteS_sm h).1 _ | exact (byteS_sm h).1
theorem rfail_eq (l : List Nat) (e f : Nat) : rfail_p l e f = some ((failS f (l, e)).1, (failS f (l, e)).2) := by
  unfold rfail_p failS; split <;> rfl
theorem rbyte_eq (l : List Nat) (e : Nat) : rbyte_p l e = some ((byteS (l, e)).2.1, (byteS (l, e)).2.2, (byteS (l, e)).1) := by
  unfold rbyte_p byteS
  by_cases h : e = 0
  · subst h
    rw [if_pos rfl, if_pos rfl]
    by_cases h2 : l.length = 0
    · rw [if_pos h2, if_pos h2]
    · rw [if_neg h2, if_neg h2, gd_t (by omega), gd_t (by omega)]
  · rw [if_neg h, if_neg h]
theorem ru32_eq {T : Nat} {l : List Nat} {e : Nat} (h : Sm T (l, e)) : ru32_p l e = some ((u32S (l, e)).2.1, (u32S (l, e)).2.2, (u32S (l, e)).1) := by
  have h1 := (readG_len (size := 32) (sg := false) l 0 0 0).1
  have h0 := h.le
  dsimp only at h0
  unfold ru32_p rnum32_p u32S
  by_cases he : e = 0
  · subst he
    rw [if_neg (by decide), gd_t (by omega), ob_some, gd_t (by omega), ob_some, if_pos rfl]
  · rw [if_pos he, if_neg he]; rfl
theorem and32 (n : Nat) : n &&& 4294967295 = n % 4294967296 := Nat.and_two_pow_sub_one_eq_mod n 32
theorem rs32_eq {T : Nat} {l : List Nat} {e : Nat} (h : Sm T (l, e)) : rs32_p l e = some ((s32S (l, e)).2.1, (s32S (l, e)).2.2, (s32S (l, e)).1) := by
  have h1 := (readG_len (size := 32) (sg := true) l 0 0 0).1
  have h0 := h.le
  dsimp only at h0
  unfold rs32_p rnum32s_p s32S
  by_cases he : e = 0
  · subst he
    rw [if_neg (by decide), gd_t (by omega), ob_some, gd_t (by omega), ob_some, if_pos rfl, and32]
  · rw [if_pos he, if_neg he]; simp [ob_some]
theorem rs64_eq {T : Nat} {l : List Nat} {e : Nat} (h : Sm T (l, e)) : rs64_p l e = some ((s64S (l, e)).2.1, (s64S (l, e)).2.2, (s64S (l, e)).1) := by
  have h1 := (readG_len (size := 64) (sg := true) l 0 0 0).1
  have h0 := h.le
  dsimp only at h0
  unfold rs64_p rnum64s_p s64S
  by_cases he : e = 0
  · subst he
    rw [if_neg (by decide), gd_t (by omega), ob_some, gd_t (by omega), ob_some, if_pos rfl]
  · rw [if_pos he, if_neg he]; rfl
theorem rzero_eq (l : List Nat) (e : Nat) : rzero_p l e = some ((zeroS (l, e)).1, (zeroS (l, e)).2) := by
  unfold rzero_p zeroS
  rw [rbyte_eq, ob_some]
  dsimp only
  split
  · rw [rfail_eq, ob_some]
  · rfl
theorem rvalue_eq (l : List Nat) (e : Nat) : rvalue_p l e = some ((valueS (l, e)).2.1, (valueS (l, e)).2.2, (valueS (l, e)).1) := by
  unfold rvalue_p valueS
  rw [rbyte_eq, ob_some]
  dsimp only
  split
  · rw [rtv_eq, ob_some, rfail_eq, ob_some]
  · rfl
noncomputable def blockS (s : St) : Int × St :=
  if s.2 = 0 then if s.1.length = 0 then (0, s.1, 3)
    else if s.1.getD 0 0 = 64 ∨ (tvF (s.1.getD 0 0)).1 = true then (wrapA .i64 (Int.sub (Int.ofNat (s.1.getD 0 0)) (Int.ofNat 128)), s.1.drop 1, 0)
    else if (tvF (s.1.getD 0 0)).2 = 5 then (0, s.1, 5)
    else (sInt .i64 (readG 33 true s.1 0 0 0).1, if sInt .i64 (readG 33 true s.1 0 0 0).1 < 0 then failS 2 (s.1.drop (readG 33 true s.1 0 0 0).2.1, (readG 33 true s.1 0 0 0).2.2) else (s.1.drop (readG 33 true s.1 0 0 0).2.1, (readG 33 true s.1 0 0 0).2.2))
  else (0, s)
theorem blockS_sm {T : Nat} {s : St} (h : Sm T s) : Sm T (blockS s).2 := by
  unfold blockS
  split
  · split
    · exact h
    · split
      · exact h.drop 1 0
      · split
        · exact h
        · dsimp only
          split
          · exact failS_sm (h.drop _ _) _
          · exact h.drop _ _
  · exact h
theorem rblock_eq {T : Nat} {l : List Nat} {e : Nat} (h : Sm T (l, e)) : rblock_p l e = some ((blockS (l, e)).2.1, (blockS (l, e)).2.2, (blockS (l, e)).1) := by
  have h1 := (readG_len (size := 33) (sg := true) l 0 0 0).1
  have h0 := h.le
  dsimp only at h0
  unfold rblock_p blockS
  by_cases he : e = 0
  · subst he
    rw [if_pos rfl, if_pos rfl]
    by_cases h2 : l.length = 0
    · rw [if_pos h2, if_pos h2, rfail_eq, ob_some]; rfl
    · rw [if_neg h2, if_neg h2, gd_t (by omega), rtv_eq, ob_some]
      dsimp only
      have hby : rbyte_p l 0 = some (l.drop 1, 0, l.getD 0 0) := by rw [rbyte_eq]; unfold byteS; rw [if_pos rfl, if_neg h2]
      rw [hby]
      by_cases h3 : l.getD 0 0 = 64
      · rw [if_pos h3, if_pos (.inl h3), ob_some]
      · rw [if_neg h3]
        by_cases h4 : (tvF (l.getD 0 0)).1 = true
        · rw [if_pos h4, if_pos (.inr h4), ob_some]
        · rw [if_neg h4, if_neg (show ¬ (l.getD 0 0 = 64 ∨ (tvF (l.getD 0 0)).1 = true) from fun h => h.elim h3 h4)]
          by_cases h5 : (tvF (l.getD 0 0)).2 = 5
          · rw [if_pos h5, if_pos h5, h5, rfail_eq, ob_some]; rfl
          · rw [if_neg h5, if_neg h5]
            unfold rs33_p rnum33s_p
            rw [if_neg (by decide), gd_t (by omega), ob_some, gd_t (by omega), ob_some, ob_some]
            dsimp only
            show (if sInt .i64 (readG 33 true l 0 0 0).1 < 0 then _ else _) = _
            by_cases h6 : sInt .i64 (readG 33 true l 0 0 0).1 < 0
            · rw [if_pos h6, if_pos h6, rfail_eq, ob_some]; rfl
            · rw [if_neg h6, if_neg h6]; rfl
  · rw [if_neg he, if_neg he]
abbrev PT (T : Nat) (s : St) : List Nat × Nat × Nat := (s.1, T - s.1.length, s.2)
theorem skip_eq {l : List Nat} {n e k T : Nat} (hT : n + l.length = T) (hT2 : T < 100000) (hk : k ≤ l.length) : skip_p l n e k = some (l.drop k, T - (l.drop k).length, e) := by
  unfold skip_p
  rw [gd_t hk, gd_t (by omega), List.length_drop]
  congr 3; omega
theorem fails_eq (l : List Nat) (n e f : Nat) (b : Bool) : fails_p l n e b f = some (l, n, if b = true then (failS f (l, e)).2 else e) := by
  unfold fails_p failS
  cases b
  · rfl
  · by_cases h : e = 0
    · simp [h]
    · simp [h]
theorem failS_1 (f : Nat) (s : St) : (failS f s).1 = s.1 := by unfold failS; split <;> rfl
theorem byte_eq {l : List Nat} {n e T : Nat} (hT : n + l.length = T) (hT2 : T < 100000) : byte_p l n e = some ((byteS (l, e)).2.1, T - (byteS (l, e)).2.1.length, (byteS (l, e)).2.2, (byteS (l, e)).1) := by
  unfold byte_p byteS
  rw [fails_eq, ob_some]
  dsimp only
  by_cases h : e = 0
  · subst h
    by_cases h2 : l.length = 0
    · rw [if_pos rfl, if_pos h2]
      have : eqI (Int.ofNat l.length) (Int.ofNat 0) = true := by rw [h2]; rfl
      rw [if_pos this]
      show (if (failS 3 (l, 0)).2 = 0 then _ else _) = _
      rw [show (failS 3 (l, 0)).2 = 3 from rfl, if_neg (show ¬ (3 : Nat) = 0 by decide)]
      congr 3
      dsimp only; omega
    · rw [if_pos rfl, if_neg h2]
      have : ¬ eqI (Int.ofNat l.length) (Int.ofNat 0) = true := by rw [eqI_nat]; simp; intro h; exact h2 (by rw [h]; rfl)
      rw [if_neg this, if_pos rfl, gd_t (by omega), skip_eq hT hT2 (by omega), ob_some]
  · rw [if_neg h]
    have : (if eqI (Int.ofNat l.length) (Int.ofNat 0) = true then (failS 3 (l, e)).2 else e) = e := by
      split
      · unfold failS; rw [if_neg h]
      · rfl
    rw [this, if_neg h]
    congr 3
    dsimp only; omega
theorem cnum_eq {l : List Nat} {n e T : Nat} (h : Sm T (l, e)) (hT : n + l.length = T) (hT2 : T < 100000) : cnum_p l n e = some ((u32S (l, e)).2.1, T - (u32S (l, e)).2.1.length, (u32S (l, e)).2.2, (u32S (l, e)).1) := by
  have h1 := (readG_len (size := 32) (sg := false) l 0 0 0).1
  have h0 := h.le
  dsimp only at h0
  unfold cnum_p u32S
  by_cases he : e = 0
  · subst he
    rw [if_neg (by decide), gd_t (by omega), ob_some, skip_eq hT hT2 (by omega), ob_some, if_pos rfl]
  · rw [if_pos he, if_neg he]
    congr 3
    dsimp only; omega
theorem nought_eq {l : List Nat} {n e T : Nat} (hT : n + l.length = T) (hT2 : T < 100000) : nought_p l n e = some (PT T (zeroS (l, e))) := by
  unfold nought_p zeroS
  rw [byte_eq hT hT2, ob_some]
  dsimp only
  rw [fails_eq, ob_some]
  dsimp only
  by_cases h : (byteS (l, e)).1 = 0
  · have : ¬ notB (eqI (Int.ofNat (byteS (l, e)).1) (Int.ofNat 0)) = true := by rw [h]; decide
    rw [if_neg this, if_neg (by simpa using h)]
  · have : notB (eqI (Int.ofNat (byteS (l, e)).1) (Int.ofNat 0)) = true := by rw [eqI_nat]; simp [notB, h]
    rw [if_pos this, if_pos h]; unfold PT; rw [failS_1]
theorem value_eq {l : List Nat} {n e T : Nat} (hT : n + l.length = T) (hT2 : T < 100000) : value_p l n e = some ((valueS (l, e)).2.1, T - (valueS (l, e)).2.1.length, (valueS (l, e)).2.2, (valueS (l, e)).1) := by
  unfold value_p valueS
  rw [byte_eq hT hT2, ob_some]
  dsimp only
  by_cases h : (byteS (l, e)).2.2 = 0
  · rw [if_pos h, if_pos h, (tv_eq _).1, ob_some, failS_1]
    have : (failS (tvF (byteS (l, e)).1).2 (byteS (l, e)).2).2 = (tvF (byteS (l, e)).1).2 := by unfold failS; rw [if_pos h]
    rw [this]
  · rw [if_neg h, if_neg h]
theorem block_eq {l : List Nat} {n e T : Nat} (h : Sm T (l, e)) (hT : n + l.length = T) (hT2 : T < 100000) : blockType_p l n e = some ((blockS (l, e)).2.1, T - (blockS (l, e)).2.1.length, (blockS (l, e)).2.2, (blockS (l, e)).1) := by
  have h1 := (readG_len (size := 33) (sg := true) l 0 0 0).1
  have h0 := h.le
  dsimp only at h0
  unfold blockType_p blockS
  rw [fails_eq, ob_some]
  by_cases he : e = 0
  · subst he
    by_cases h2 : l.length = 0
    · have : eqI (Int.ofNat l.length) (Int.ofNat 0) = true := by rw [h2]; rfl
      rw [if_pos rfl, if_pos h2, if_pos this]
      have e2 : (failS 3 (l, 0)).2 = 3 := rfl
      dsimp only
      rw [e2, if_pos (by decide)]
      congr 3
      omega
    · have : ¬ eqI (Int.ofNat l.length) (Int.ofNat 0) = true := by rw [eqI_nat]; simp; intro h; exact h2 (by rw [h]; rfl)
      rw [if_pos rfl, if_neg h2, if_neg this]
      dsimp only
      rw [if_neg (show ¬ (0 : Nat) ≠ 0 by decide), gd_t (show 0 < l.length by omega)]
      rw [(tv_eq _).1, ob_some]
      by_cases h3 : l.getD 0 0 = 64
      · rw [if_pos h3, if_pos (.inl h3), skip_eq hT hT2 (by omega), ob_some]
      · rw [if_neg h3]
        by_cases h4 : (tvF (l.getD 0 0)).1 = true
        · rw [if_pos ((tv_eq _).2.1 h4), if_pos (.inr h4), skip_eq hT hT2 (by omega), ob_some]
        · have h4' : ¬ (tvF (l.getD 0 0)).2 = 0 := fun h => h4 ((tv_eq _).2.2 h)
          rw [if_neg h4', if_neg (show ¬ (l.getD 0 0 = 64 ∨ (tvF (l.getD 0 0)).1 = true) from fun h => h.elim h3 h4), fails_eq, ob_some]
          dsimp only
          by_cases h5 : (tvF (l.getD 0 0)).2 = 5
          · have : eqI (Int.ofNat (tvF (l.getD 0 0)).2) (Int.ofNat 5) = true := by rw [h5]; rfl
            have e2 : (failS (tvF (l.getD 0 0)).2 (l, 0)).2 = 5 := by rw [h5]; rfl
            rw [if_pos h5, if_pos this, e2, if_pos (by decide)]
            congr 3
            dsimp only; omega
          · have : ¬ eqI (Int.ofNat (tvF (l.getD 0 0)).2) (Int.ofNat 5) = true := by rw [eqI_nat]; simpa using h5
            rw [if_neg h5, if_neg this, if_neg (by decide), gd_t (by omega), ob_some, skip_eq hT hT2 (by omega), ob_some, fails_eq, ob_some]
            dsimp only
            by_cases h6 : sInt .i64 (readG 33 true l 0 0 0).1 < 0
            · have : ltI (sInt .i64 (readG 33 true l 0 0 0).1) (Int.ofNat 0) = true := by rw [ltI_eq]; simpa using h6
              rw [if_pos this, if_pos h6, failS_1]
            · have : ¬ ltI (sInt .i64 (readG 33 true l 0 0 0).1) (Int.ofNat 0) = true := by rw [ltI_eq]; simpa using h6
              rw [if_neg this, if_neg h6]
  · have : (if eqI (Int.ofNat l.length) (Int.ofNat 0) = true then (failS 3 (l, e)).2 else e) = e := by
      split
      · unfold failS; rw [if_neg he]
      · rfl
    rw [this, if_pos he, if_neg he]
    congr 3
    dsimp only; omega
end Go.Proofs.Ytpelnanckmjoaaa
end
section
set_option linter.unusedVariables false
set_option linter.unusedSimpArgs false
namespace Go.Proofs.Ytpelnanckmjoaaa
open Go Eng
variable {T : Nat} {s : St}
def failI (p : Prop) [Decidable p] (f : Nat) (s : St) : St := if p then failS f s else s
theorem failI_t {p : Prop} [Decidable p] (h : p) (f : Nat) (s : St) : failI p f s = failS f s := if_pos h
theorem failI_f {p : Prop} [Decidable p] (h : ¬ p) (f : Nat) (s : St) : failI p f s = s := if_neg h
theorem failI_sm (h : Sm T s) (p : Prop) [Decidable p] (f : Nat) : Sm T (failI p f s) := by unfold failI; split <;> first | exact failS_sm h f | exact h
theorem failI_1 (p : Prop) [Decidable p] (f : Nat) (s : St) : (failI p f s).1 = s.1 := by unfold failI; split <;> first | exact failS_1 f s | rfl
theorem Sm.at (h : Sm T s) : (T - s.1.length) + s.1.length = T := by have := h.1; omega
theorem Sm.up (h : Sm T s) : T < 100000 := by have := h.2.1; omega
theorem byte_q (h : Sm T s) : byte_p s.1 (T - s.1.length) s.2 = some ((byteS s).2.1, T - (byteS s).2.1.length, (byteS s).2.2, (byteS s).1) := byte_eq h.at h.up
theorem cnum_q (h : Sm T s) : cnum_p s.1 (T - s.1.length) s.2 = some ((u32S s).2.1, T - (u32S s).2.1.length, (u32S s).2.2, (u32S s).1) := cnum_eq h h.at h.up
theorem nought_q (h : Sm T s) : nought_p s.1 (T - s.1.length) s.2 = some ((zeroS s).1, T - (zeroS s).1.length, (zeroS s).2) := nought_eq h.at h.up
theorem value_q (h : Sm T s) : value_p s.1 (T - s.1.length) s.2 = some ((valueS s).2.1, T - (valueS s).2.1.length, (valueS s).2.2, (valueS s).1) := value_eq h.at h.up
theorem block_q (h : Sm T s) : blockType_p s.1 (T - s.1.length) s.2 = some ((blockS s).2.1, T - (blockS s).2.1.length, (blockS s).2.2, (blockS s).1) := block_eq h h.at h.up
theorem fails_q {b : Bool} {p : Prop} [Decidable p] (hb : b = true ↔ p) (f : Nat) : fails_p s.1 (T - s.1.length) s.2 b f = some ((failI p f s).1, T - (failI p f s).1.length, (failI p f s).2) := by
  rw [fails_eq, failI_1]
  unfold failI
  by_cases h : p
  · rw [if_pos (hb.2 h), if_pos h]
  · rw [if_neg (fun h2 => h (hb.1 h2)), if_neg h]
theorem rbyte_q : rbyte_p s.1 s.2 = some ((byteS s).2.1, (byteS s).2.2, (byteS s).1) := rbyte_eq _ _
theorem ru32_q (h : Sm T s) : ru32_p s.1 s.2 = some ((u32S s).2.1, (u32S s).2.2, (u32S s).1) := ru32_eq h
theorem rs32_q (h : Sm T s) : rs32_p s.1 s.2 = some ((s32S s).2.1, (s32S s).2.2, (s32S s).1) := rs32_eq h
theorem rs64_q (h : Sm T s) : rs64_p s.1 s.2 = some ((s64S s).2.1, (s64S s).2.2, (s64S s).1) := rs64_eq h
theorem rzero_q : rzero_p s.1 s.2 = some ((zeroS s).1, (zeroS s).2) := rzero_eq _ _
theorem rvalue_q : rvalue_p s.1 s.2 = some ((valueS s).2.1, (valueS s).2.2, (valueS s).1) := rvalue_eq _ _
theorem rblock_q (h : Sm T s) : rblock_p s.1 s.2 = some ((blockS s).2.1, (blockS s).2.2, (blockS s).1) := rblock_eq h
theorem rfail_q (f : Nat) : rfail_p s.1 s.2 f = some ((failS f s).1, (failS f s).2) := rfail_eq _ _ _
theorem s32_mod (v : Nat) : ((sInt .i32 v) % 4294967296).toNat = v % 4294967296 := by
  unfold sInt; rw [wrapA_eq]
  show ((IntKind.i32.wrap (.ofNat v)) % 4294967296).toNat = _
  simp only [IntKind.wrap, IntKind.signed, IntKind.bits]
  simp
  omega
theorem s64_mod (v : Nat) (h : v < 18446744073709551616) : ((sInt .i64 v) % 18446744073709551616).toNat = v := by
  unfold sInt; rw [wrapA_eq]
  show ((IntKind.i64.wrap (.ofNat v)) % 18446744073709551616).toNat = _
  simp only [IntKind.wrap, IntKind.signed, IntKind.bits]
  simp
  omega
theorem const3_q (h : Sm T s) : constant_p s.1 (T - s.1.length) s.2 3 = some ((s32S s).2.1, T - (s32S s).2.1.length, (s32S s).2.2, (s32S s).1) := by
  obtain ⟨l, e⟩ := s
  have h1 := (readG_len (size := 32) (sg := true) l 0 0 0).1
  have h0 := h.le
  dsimp only at h0 ⊢
  unfold constant_p s32S
  by_cases he : e = 0
  · subst he
    rw [if_neg (by decide), if_pos rfl, gd_t (by omega), ob_some, skip_eq h.at h.up (by dsimp only; omega), ob_some, if_pos rfl, s32_mod]
  · rw [if_pos he, if_neg he]
theorem const4_q (h : Sm T s) : constant_p s.1 (T - s.1.length) s.2 4 = some ((s64S s).2.1, T - (s64S s).2.1.length, (s64S s).2.2, (s64S s).1) := by
  obtain ⟨l, e⟩ := s
  have h1 := (readG_len (size := 64) (sg := true) l 0 0 0).1
  have h0 := h.le
  dsimp only at h0 ⊢
  unfold constant_p s64S
  by_cases he : e = 0
  · subst he
    rw [if_neg (by decide), if_neg (by decide), gd_t (by omega), ob_some, skip_eq h.at h.up (by dsimp only; omega), ob_some, if_pos rfl, s64_mod _ (readG_lt l 0 0 0 (by decide))]
  · rw [if_pos he, if_neg he]
noncomputable def stO (s : St) : St := if (byteS s).1 = 252 then failI (255 < (u32S (byteS s).2).1) 2 (u32S (byteS s).2).2 else (byteS s).2
noncomputable def vO (s : St) : Nat := if (byteS s).1 = 252 then 64512 + (u32S (byteS s).2).1 else (byteS s).1
theorem u32S_lt (s : St) : (u32S s).1 < 4294967296 := by unfold u32S; split <;> first | exact Nat.mod_lt _ (by decide) | exact (show 0 < 4294967296 by decide)
theorem stO_sm (h : Sm T s) : Sm T (stO s) := by
  unfold stO; split
  · exact failI_sm (u32S_sm (byteS_sm h).1) _ _
  · exact (byteS_sm h).1
theorem byteS_252 (h : (byteS s).1 = 252) : (byteS s).2.2 = 0 := by
  revert h; unfold byteS
  split
  · split
    · intro h; exact absurd h (show ¬ (0 : Nat) = 252 by decide)
    · intro _; rfl
  · intro h; exact absurd h (show ¬ (0 : Nat) = 252 by decide)
theorem rop_q (h : Sm T s) : rop_p s.1 s.2 = some ((stO s).1, (stO s).2, vO s) := by
  unfold rop_p
  rw [rbyte_q, ob_some]
  dsimp only
  unfold stO vO
  by_cases h1 : (byteS s).1 = 252
  · have hu := u32S_lt (byteS s).2
    rw [if_pos h1, if_pos h1, if_pos h1, if_pos (byteS_252 h1), ru32_q (byteS_sm h).1, ob_some]
    dsimp only
    by_cases h2 : 255 < (u32S (byteS s).2).1
    · rw [if_pos h2, failI_t h2, rfail_q, ob_some, gd_t (by omega)]
    · rw [if_neg h2, failI_f h2, gd_t (by omega)]
  · rw [if_neg h1, if_neg h1, if_neg h1]
noncomputable def stP (s : St) : St := if (byteS s).1 = 253 then failS 5 (stO s) else stO s
noncomputable def vP (s : St) : Nat := if (byteS s).1 = 252 then 64512 + ((u32S (byteS s).2).1 &&& 255) else (byteS s).1
theorem failS_ne {f : Nat} (hf : f ≠ 0) (s : St) : (failS f s).2 ≠ 0 := by unfold failS; split <;> assumption
theorem failI_T (f : Nat) (s : St) : failI True f s = failS f s := if_pos trivial
theorem op_q (h : Sm T s) : op_p s.1 (T - s.1.length) s.2 = some ((stP s).1, T - (stP s).1.length, (stP s).2, vP s) := by
  unfold op_p
  rw [byte_q h, ob_some]
  dsimp only
  unfold stP stO vP
  by_cases h1 : (byteS s).1 = 252
  · have hu := u32S_lt (byteS s).2
    have ha : (u32S (byteS s).2).1 &&& 255 ≤ 255 := Nat.and_le_right
    rw [if_pos h1, if_pos h1, if_pos h1, if_neg (by rw [h1]; decide), cnum_q (byteS_sm h).1, ob_some]
    dsimp only
    rw [fails_q (p := 255 < (u32S (byteS s).2).1) (ltN_iff _ _), ob_some, gd_t (by omega)]
  · rw [if_neg h1, if_neg h1]
    by_cases h2 : (byteS s).1 = 253
    · rw [if_pos h2, if_pos h2, if_neg h1, fails_q (p := True) (by simp), ob_some, failI_T]
    · rw [if_neg h2, if_neg h2, if_neg h1]
theorem and255 (n : Nat) : n &&& 255 = n % 256 := Nat.and_two_pow_sub_one_eq_mod n 8
theorem vP_eq (h : (stP s).2 = 0) : vP s = vO s ∧ (stO s).2 = 0 ∧ (byteS s).1 ≠ 253 ∧ stP s = stO s := by
  by_cases h2 : (byteS s).1 = 253
  · exfalso
    revert h
    unfold stP; rw [if_pos h2]
    exact failS_ne (by decide) _
  · have he : stP s = stO s := by unfold stP; rw [if_neg h2]
    rw [he] at h
    refine ⟨?_, h, h2, he⟩
    unfold vP vO
    by_cases h1 : (byteS s).1 = 252
    · rw [if_pos h1, if_pos h1]
      have : (u32S (byteS s).2).1 ≤ 255 := by
        refine Nat.le_of_not_lt fun hlt => ?_
        revert h
        unfold stO; rw [if_pos h1, failI_t hlt]
        exact failS_ne (by decide) _
      rw [and255, Nat.mod_eq_of_lt (by omega)]
    · rw [if_neg h1, if_neg h1]
theorem vO_ok (h : Sm T s) (h0 : (stO s).2 = 0) : OpOk (vO s) := by
  unfold vO
  by_cases h1 : (byteS s).1 = 252
  · rw [if_pos h1]
    have : (u32S (byteS s).2).1 ≤ 255 := by
      refine Nat.le_of_not_lt fun hlt => ?_
      revert h0
      unfold stO; rw [if_pos h1, failI_t hlt]
      exact failS_ne (by decide) _
    exact .inr (by omega)
  · rw [if_neg h1]
    exact .inl (byteS_sm h).2
def kC (x : Nat) (p : Nat × Nat) : Bool :=
  (decide (p.2 = 0) || decide (p.1 = 0)) && decide (p.1 ≤ 8) &&
  (!decide (x = 63) || decide (p.1 = 1)) && (!decide (x = 64) || decide (p.1 = 1)) && (!decide (x = 64523) || decide (p.1 = 1)) &&
  (!decide (x = 64522) || decide (p.1 = 2)) && (!decide (x = 64520) || decide (p.1 = 2)) &&
  (!decide (p.1 = 8) || decide (x = 28) || decide (x = 208)) &&
  (decide (p.1 = 6) == (decide (2 ≤ x) && decide (x ≤ 4))) && (!decide (x = 5 ∨ x = 11) || decide (p.1 = 0))
theorem kC_all : ∀ x, OpOk x → kC x (kF x) = true := by
  have ht : ∀ x < 256, kC x (kT.getD x (0, 0)) = true := by decide +kernel
  have hu : ∀ x < 256, kC (64512 + x) (kU.getD x (0, 0)) = true := by decide +kernel
  intro x hx
  unfold kF
  by_cases h : x < 256
  · rw [if_pos h]; exact ht x h
  · rw [if_neg h]
    rcases hx with hx | hx
    · exact absurd hx h
    · have := hu (x - 64512) (by omega)
      rwa [show 64512 + (x - 64512) = x by omega] at this
structure KF (x : Nat) (p : Nat × Nat) : Prop where
  e : p.2 ≠ 0 → p.1 = 0
  k : p.1 ≤ 8
  a : x = 63 → p.1 = 1
  b : x = 64 → p.1 = 1
  c : x = 64523 → p.1 = 1
  d : x = 64522 → p.1 = 2
  f : x = 64520 → p.1 = 2
  g : p.1 = 8 → x = 28 ∨ x = 208
  o : p.1 = 6 ↔ 2 ≤ x ∧ x ≤ 4
theorem kf {x : Nat} (h : OpOk x) : KF x (kF x) := by
  have := kC_all x h
  generalize kF x = p at *
  unfold kC at this
  simp at this
  obtain ⟨⟨⟨⟨⟨⟨⟨⟨⟨h1, h2⟩, h3⟩, h4⟩, h5⟩, h6⟩, h7⟩, h8⟩, h9⟩, h10⟩ := this
  refine ⟨fun h => ?_, h2, fun h => ?_, fun h => ?_, fun h => ?_, fun h => ?_, fun h => ?_, fun h => ?_, ?_⟩
  all_goals first | omega | skip
  · have := congrArg (· = true) h9
    simpa using this
end Go.Proofs.Ytpelnanckmjoaaa
end
section
set_option linter.unusedVariables false
set_option linter.unusedSimpArgs false
namespace Go.Proofs.Ytpelnanckmjoaaa
open Go Eng
variable {T : Nat} {s : St}
abbrev InsT := Nat × Nat × Nat × Nat × List Nat × Int
noncomputable def labS : Nat → St → List Nat → St × List Nat
  | 0, s, l => (s, l)
  | k + 1, s, l => if s.2 = 0 then labS k (u32S s).2 (l ++ [(u32S s).1]) else (s, l)
theorem labS_err (k : Nat) (h : s.2 ≠ 0) (l : List Nat) : labS k s l = (s, l) := by
  cases k with
  | zero => rfl
  | succ k => show (if _ then _ else _) = _; rw [if_neg h]
theorem labS_t {k : Nat} {l : List Nat} (h : s.2 = 0) : labS (k + 1) s l = labS k (u32S s).2 (l ++ [(u32S s).1]) := if_pos h
theorem labS_sm : ∀ (k : Nat) (s : St) (l : List Nat), Sm T s → Sm T (labS k s l).1 ∧ (labS k s l).2.length ≤ l.length + k
  | 0, s, l, h => ⟨h, Nat.le_refl _⟩
  | k + 1, s, l, h => by
    show Sm T (ite _ _ _ : St × List Nat).1 ∧ (ite _ _ _ : St × List Nat).2.length ≤ _
    split
    · have := labS_sm k _ (l ++ [(u32S s).1]) (u32S_sm h)
      refine ⟨this.1, Nat.le_trans this.2 ?_⟩
      rw [List.length_append]; simp; omega
    · exact ⟨h, by dsimp only; omega⟩
theorem lab_err {m k : Nat} (h : s.2 ≠ 0) (o a b n : Nat) (l : List Nat) (t : Int) : labels_l1 (m + 1) k s.1 (T - s.1.length) s.2 o a b n l t = some (k, s.1, T - s.1.length, s.2, o, a, b, n, l, t) := by
  rw [labels_l1, if_neg h]
  split <;> rfl
theorem lab_q : ∀ (k m : Nat) (s : St) (l : List Nat) (o a b n : Nat) (t : Int), k < m → Sm T s → l.length + k ≤ 1000 →
    ∃ k', labels_l1 m k s.1 (T - s.1.length) s.2 o a b n l t = some (k', (labS k s l).1.1, T - (labS k s l).1.1.length, (labS k s l).1.2, o, a, b, n, (labS k s l).2, t)
  | 0, m + 1, s, l, o, a, b, n, t, hm, h, hl => ⟨0, by
    rw [labels_l1, if_neg (Nat.lt_irrefl 0)]; rfl⟩
  | k + 1, m + 1, s, l, o, a, b, n, t, hm, h, hl => by
    by_cases h0 : s.2 = 0
    · obtain ⟨k', e⟩ := lab_q k m (u32S s).2 (l ++ [(u32S s).1]) o a b n t (by omega) (u32S_sm h) (by rw [List.length_append]; simp; omega)
      refine ⟨k', ?_⟩
      rw [labels_l1, if_pos (Nat.succ_pos k), if_pos h0, cnum_q h, ob_some, gd_t (by omega), gd_t (by omega), labS_t h0]
      exact e
    · exact ⟨k + 1, by rw [lab_err h0, labS_err _ h0]⟩
theorem rlab_err {B6 B29 m A : Nat} (h : s.2 ≠ 0) (o a b n : Nat) (l : List Nat) (t q1 q2 q3 q4 : Nat) (ql : List Nat) (q5 : Nat) :
    rinstr_l1 B6 B29 (m + 1) A s.1 s.2 o a b n l t q1 q2 q3 q4 ql q5 = some (A, s.1, s.2, o, a, b, n, l, t, q1, q2, q3, q4, ql, q5) := by
  rw [rinstr_l1, if_neg h]
  split <;> rfl
theorem rlab_q {B6 B29 : Nat} (hB : B6 ≤ 600) : ∀ (k m : Nat) (s : St) (l : List Nat) (A o a b n t q1 q2 q3 q4 : Nat) (ql : List Nat) (q5 : Nat), k < m → Sm T s → l.length + k ≤ 1000 → A + k = B6 →
    ∃ k', rinstr_l1 B6 B29 m A s.1 s.2 o a b n l t q1 q2 q3 q4 ql q5 = some (k', (labS k s l).1.1, (labS k s l).1.2, o, a, b, n, (labS k s l).2, t, q1, q2, q3, q4, ql, q5)
  | 0, m + 1, s, l, A, o, a, b, n, t, q1, q2, q3, q4, ql, q5, hm, h, hl, hA => ⟨A, by
    rw [rinstr_l1, if_neg (by omega)]; rfl⟩
  | k + 1, m + 1, s, l, A, o, a, b, n, t, q1, q2, q3, q4, ql, q5, hm, h, hl, hA => by
    by_cases h0 : s.2 = 0
    · obtain ⟨k', e⟩ := rlab_q (B29 := B29) hB k m (u32S s).2 (l ++ [(u32S s).1]) (A + 1) o a b n t q1 q2 q3 q4 ql q5 (by omega) (u32S_sm h) (by rw [List.length_append]; simp; omega) (by omega)
      refine ⟨k', ?_⟩
      rw [rinstr_l1, if_pos (by omega), if_pos h0, ru32_q h, ob_some, gd_t (by omega), Nat.mod_eq_of_lt (by omega), labS_t h0]
      exact e
    · exact ⟨A, by rw [rlab_err h0, labS_err _ h0]⟩
noncomputable def midL (s : St) : St := failI (600 < (u32S s).1) 4 (u32S s).2
noncomputable def labR (s : St) : St × List Nat := labS (u32S s).1 (midL s) []
theorem midL_sm (h : Sm T s) : Sm T (midL s) := failI_sm (u32S_sm h) _ _
theorem midL_n (h : (midL s).2 = 0) : (u32S s).1 ≤ 600 := by
  refine Nat.le_of_not_lt fun hlt => ?_
  revert h
  unfold midL; rw [failI_t hlt]
  exact failS_ne (by decide) _
theorem labR_sm (h : Sm T s) : Sm T (labR s).1 ∧ (labR s).2.length ≤ 600 := by
  unfold labR
  by_cases h0 : (midL s).2 = 0
  · have := labS_sm (u32S s).1 (midL s) [] (midL_sm h)
    exact ⟨this.1, by have h2 := this.2; have := midL_n h0; simp at h2; omega⟩
  · rw [labS_err _ h0]; exact ⟨midL_sm h, Nat.zero_le _⟩
theorem labels_q (h : Sm T s) (op : Nat) : labels_p s.1 (T - s.1.length) s.2 op 0 0 0 [] 0 =
    some ((u32S (labR s).1).2.1, T - (u32S (labR s).1).2.1.length, (u32S (labR s).1).2.2, op, (u32S (labR s).1).1, 0, 0, (labR s).2, 0) := by
  unfold labels_p
  rw [cnum_q h, ob_some]
  dsimp only
  rw [fails_q (p := 600 < (u32S s).1) (ltN_iff _ _), ob_some]
  dsimp only
  show ob (labels_l1 90000 _ (midL s).1 (T - (midL s).1.length) (midL s).2 _ _ _ _ _ _) _ = _
  by_cases h0 : (midL s).2 = 0
  · obtain ⟨k', e⟩ := lab_q (T := T) (u32S s).1 90000 (midL s) [] op 0 0 0 0 (by have := midL_n h0; omega) (midL_sm h) (by have := midL_n h0; simp; omega)
    rw [e, ob_some]
    dsimp only
    show ob (cnum_p (labR s).1.1 (T - (labR s).1.1.length) (labR s).1.2) _ = _
    rw [cnum_q (labR_sm h).1, ob_some]
    rfl
  · rw [lab_err h0, ob_some]
    have e : labR s = (midL s, []) := labS_err _ h0 []
    rw [e]
    dsimp only
    rw [cnum_q (midL_sm h), ob_some]
noncomputable def immS (op k : Nat) (s : St) : St × Nat × Nat × Nat × List Nat × Int :=
  if k = 1 then (if op = 63 ∨ op = 64 ∨ op = 64523 then (zeroS s, 0, 0, 0, [], 0) else ((u32S s).2, (u32S s).1, 0, 0, [], 0))
  else if k = 2 then (if op = 64522 then (zeroS (zeroS s), 0, 0, 0, [], 0) else if op = 64520 then (zeroS (u32S s).2, (u32S s).1, 0, 0, [], 0) else ((u32S (u32S s).2).2, (u32S s).1, (u32S (u32S s).2).1, 0, [], 0))
  else if k = 3 then ((s32S s).2, 0, 0, (s32S s).1, [], 0)
  else if k = 4 then ((s64S s).2, 0, 0, (s64S s).1, [], 0)
  else if k = 5 then ((u32S (failI (31 < (u32S s).1) 2 (u32S s).2)).2, (u32S s).1, (u32S (failI (31 < (u32S s).1) 2 (u32S s).2)).1, 0, [], 0)
  else if k = 6 then ((blockS s).2, 0, 0, 0, [], (blockS s).1)
  else if k = 7 then ((u32S (labR s).1).2, (u32S (labR s).1).1, 0, 0, (labR s).2, 0)
  else if k = 8 then (if op = 28 then ((valueS (failI ((u32S s).1 ≠ 1) 2 (u32S s).2)).2, (valueS (failI ((u32S s).1 ≠ 1) 2 (u32S s).2)).1, 0, 0, [], 0)
    else (failI (refF ((valueS s).1 % 256) = false) 2 (valueS s).2, (valueS s).1, 0, 0, [], 0))
  else (s, 0, 0, 0, [], 0)
theorem immS_sm (h : Sm T s) (op k : Nat) : Sm T (immS op k s).1 ∧ (immS op k s).2.2.2.2.1.length ≤ 600 := by
  unfold immS
  repeat' split
  all_goals refine ⟨?_, ?_⟩
  all_goals first
    | exact Nat.zero_le _
    | exact zeroS_sm h
    | exact zeroS_sm (zeroS_sm h)
    | exact zeroS_sm (u32S_sm h)
    | exact u32S_sm h
    | exact u32S_sm (u32S_sm h)
    | exact s32S_sm h
    | exact s64S_sm h
    | exact u32S_sm (failI_sm (u32S_sm h) _ _)
    | exact blockS_sm h
    | exact u32S_sm (labR_sm h).1
    | exact (labR_sm h).2
    | exact valueS_sm (failI_sm (u32S_sm h) _ _)
    | exact failI_sm (valueS_sm h) _ _
    | exact h
noncomputable def insS (s : St) : St × InsT :=
  if (stO s).2 ≠ 0 then (stO s, vO s, 0, 0, 0, [], 0)
  else if (kF (vO s)).2 ≠ 0 then (failS (kF (vO s)).2 (stO s), vO s, 0, 0, 0, [], 0)
  else ((immS (vO s) (kF (vO s)).1 (stO s)).1, vO s, (immS (vO s) (kF (vO s)).1 (stO s)).2)
theorem insS_sm (h : Sm T s) : Sm T (insS s).1 ∧ (insS s).2.2.2.2.2.1.length ≤ 600 := by
  unfold insS
  repeat' split
  · exact ⟨stO_sm h, Nat.zero_le _⟩
  · exact ⟨failS_sm (stO_sm h) _, Nat.zero_le _⟩
  · exact immS_sm (stO_sm h) _ _
theorem failS_0 (h : s.2 = 0) : failS 0 s = s := by
  unfold failS; rw [if_pos h, ← h]
theorem names_q {op k : Nat} (K : KF op (k, 0)) (h : Sm T s) (hk : k = 1 ∨ k = 2 ∨ k = 5) : names_p s.1 (T - s.1.length) s.2 op 0 0 0 [] 0 k =
    some ((immS op k s).1.1, T - (immS op k s).1.1.length, (immS op k s).1.2, op, (immS op k s).2) := by
  have Ka := K.a; have Kb := K.b; have Kc := K.c; have Kd := K.d; have Kf := K.f
  dsimp only at Ka Kb Kc Kd Kf
  unfold names_p immS
  rcases hk with rfl | rfl | rfl
  · simp only [reduceIte, Nat.reduceEqDiff]
    by_cases h1 : op = 63
    · rw [if_pos h1, if_pos (.inl h1), nought_q h, ob_some]
    by_cases h2 : op = 64
    · rw [if_neg h1, if_pos h2, if_pos (.inr (.inl h2)), nought_q h, ob_some]
    by_cases h3 : op = 64523
    · rw [if_neg h1, if_neg h2, if_pos h3, if_pos (.inr (.inr h3)), nought_q h, ob_some]
    rw [if_neg h1, if_neg h2, if_neg h3, if_neg (fun hh => absurd (Kd hh) (by decide)), if_neg (fun hh => absurd (Kf hh) (by decide)), if_neg (show ¬ (op = 63 ∨ op = 64 ∨ op = 64523) from by omega), cnum_q h, ob_some]
  · simp only [reduceIte, Nat.reduceEqDiff]
    rw [if_neg (fun hh => absurd (Ka hh) (by decide)), if_neg (fun hh => absurd (Kb hh) (by decide)), if_neg (fun hh => absurd (Kc hh) (by decide))]
    by_cases h1 : op = 64522
    · rw [if_pos h1, if_pos h1, nought_q h, ob_some]
      dsimp only
      rw [nought_q (zeroS_sm h), ob_some]
    by_cases h2 : op = 64520
    · rw [if_neg h1, if_pos h2, if_neg h1, if_pos h2, cnum_q h, ob_some]
      dsimp only
      rw [nought_q (u32S_sm h), ob_some]
    rw [if_neg h1, if_neg h2, if_neg h1, if_neg h2, cnum_q h, ob_some]
    dsimp only
    rw [fails_q (p := False) (by simp), ob_some, failI_f (fun h => h)]
    dsimp only
    rw [cnum_q (u32S_sm h), ob_some]
  · simp only [reduceIte, Nat.reduceEqDiff]
    rw [if_neg (fun hh => absurd (Ka hh) (by decide)), if_neg (fun hh => absurd (Kb hh) (by decide)), if_neg (fun hh => absurd (Kc hh) (by decide)), if_neg (fun hh => absurd (Kd hh) (by decide)), if_neg (fun hh => absurd (Kf hh) (by decide)), cnum_q h, ob_some]
    dsimp only
    rw [fails_q (p := 31 < (u32S s).1) (ltN_iff _ _), ob_some]
    dsimp only
    rw [cnum_q (failI_sm (u32S_sm h) _ _), ob_some]
abbrev SLT := List InsT
theorem behind_q {op k : Nat} (K : KF op (k, 0)) (h : Sm T s) (h6 : k ≠ 6) (rl : SLT) (ro : List Bool) : behind_p s.1 (T - s.1.length) s.2 rl ro op 0 0 0 [] 0 k =
    some ((immS op k s).1.1, T - (immS op k s).1.1.length, (immS op k s).1.2, rl, ro, op, (immS op k s).2) := by
  have Kk := K.k
  dsimp only at Kk
  unfold behind_p
  by_cases h1 : k = 1
  · rw [if_pos h1, names_q K h (.inl h1), ob_some]
  by_cases h2 : k = 2
  · rw [if_neg h1, if_pos h2, names_q K h (.inr (.inl h2)), ob_some]
  by_cases h5 : k = 5
  · rw [if_neg h1, if_neg h2, if_pos h5, names_q K h (.inr (.inr h5)), ob_some]
  rw [if_neg h1, if_neg h2, if_neg h5]
  rcases (by omega : k = 0 ∨ k = 3 ∨ k = 4 ∨ k = 7 ∨ k = 8) with rfl | rfl | rfl | rfl | rfl
  · unfold immS; simp only [reduceIte, Nat.reduceEqDiff]
  · unfold immS; simp only [reduceIte, Nat.reduceEqDiff]
    rw [const3_q h, ob_some]
  · unfold immS; simp only [reduceIte, Nat.reduceEqDiff]
    rw [const4_q h, ob_some]
  · unfold immS; simp only [reduceIte, Nat.reduceEqDiff]
    rw [labels_q h, ob_some]
  · unfold immS; simp only [reduceIte, Nat.reduceEqDiff]
    by_cases h8 : op = 28
    · rw [if_pos h8, if_pos h8, cnum_q h, ob_some]
      dsimp only
      rw [fails_q (p := (u32S s).1 ≠ 1) (by rw [eqI_nat]; by_cases hh : (u32S s).1 = 1 <;> simp [hh, notB, bc]), ob_some]
      dsimp only
      rw [value_q (failI_sm (u32S_sm h) _ _), ob_some]
      dsimp only
      rw [fails_q (p := False) (by simp), ob_some, failI_f (fun h => h)]
    · rw [if_neg h8, if_neg h8, fails_q (p := False) (by simp), ob_some, failI_f (fun h => h)]
      dsimp only
      rw [value_q h, ob_some]
      dsimp only
      rw [tr_eq, ob_some, fails_q (p := refF ((valueS s).1 % 256) = false) (by cases refF ((valueS s).1 % 256) <;> simp [notB]), ob_some]
theorem rinstr_q (h : Sm T s) : rinstr_p s.1 s.2 = some ((insS s).1.1, (insS s).1.2, (insS s).2) := by
  unfold rinstr_p insS
  rw [rop_q h, ob_some]
  dsimp only
  by_cases h0 : (stO s).2 ≠ 0
  · rw [if_pos h0, if_pos h0]
  have h0 := Decidable.not_not.1 h0
  have hO := vO_ok h h0
  have K := kf hO
  have hs := stO_sm h
  rw [if_neg (not_not_intro h0), if_neg (not_not_intro h0), gd_t hO, rfail_q, ob_some]
  dsimp only
  by_cases h1 : (kF (vO s)).2 ≠ 0
  · rw [if_pos h1]
    have := K.e h1
    rw [this]
    simp only [reduceIte, Nat.reduceEqDiff]
  have h1 := Decidable.not_not.1 h1
  rw [if_neg (not_not_intro h1)]
  generalize kF (vO s) = p at *
  generalize vO s = op at *
  generalize stO s = u at *
  obtain ⟨k, e⟩ := p
  dsimp only at h1 ⊢
  subst h1
  rw [failS_0 h0]
  have Kk := K.k
  dsimp only at Kk
  rcases (by omega : k = 0 ∨ k = 1 ∨ k = 2 ∨ k = 3 ∨ k = 4 ∨ k = 5 ∨ k = 6 ∨ k = 7 ∨ k = 8) with rfl | rfl | rfl | rfl | rfl | rfl | rfl | rfl | rfl
  all_goals (unfold immS; simp only [reduceIte, Nat.reduceEqDiff])
  · by_cases h1 : op = 63
    · rw [if_pos h1, if_pos (.inl h1), rzero_q, ob_some]
    by_cases h2 : op = 64
    · rw [if_neg h1, if_pos h2, if_pos (.inr (.inl h2)), rzero_q, ob_some]
    by_cases h3 : op = 64523
    · rw [if_neg h1, if_neg h2, if_pos h3, if_pos (.inr (.inr h3)), rzero_q, ob_some]
    rw [if_neg h1, if_neg h2, if_neg h3, if_neg (show ¬ (op = 63 ∨ op = 64 ∨ op = 64523) from by omega), ru32_q hs, ob_some]
  · by_cases h1 : op = 64522
    · rw [if_pos h1, if_pos h1, rzero_q, ob_some]
      dsimp only
      rw [rzero_q, ob_some]
    rw [if_neg h1, if_neg h1, ru32_q hs, ob_some]
    dsimp only
    by_cases h2 : op = 64520
    · rw [if_pos h2, if_pos h2, rzero_q, ob_some]
    rw [if_neg h2, if_neg h2, ru32_q (u32S_sm hs), ob_some]
  · rw [rs32_q hs, ob_some]
  · rw [rs64_q hs, ob_some]
  · rw [ru32_q hs, ob_some]
    dsimp only
    by_cases h1 : 31 < (u32S u).1
    · rw [if_pos h1, failI_t h1, rfail_q, ob_some]
      dsimp only
      rw [ru32_q (failS_sm (u32S_sm hs) _), ob_some]
    · rw [if_neg h1, failI_f h1, ru32_q (u32S_sm hs), ob_some]
  · rw [rblock_q hs, ob_some]
  · rw [ru32_q hs, ob_some]
    dsimp only
    have key : ∀ (hm : Sm T (midL u)), (ob (rinstr_l1 (u32S u).1 7 90000 0 (midL u).1 (midL u).2 op 0 0 0 ([] : List Nat) 0 0 0 0 0 ([] : List Nat) 0) fun o84 =>
        (ob (ru32_p o84.2.1 o84.2.2.1) fun x94 => (some (x94.1, x94.2.1, ((o84.2.2.2.1, x94.2.2, o84.2.2.2.2.2.1, o84.2.2.2.2.2.2.1, o84.2.2.2.2.2.2.2.1, ((o84.2.2.2.2.2.2.2.2.1 : Nat) : Int)) : InsT))))) =
        some ((u32S (labR u).1).2.1, (u32S (labR u).1).2.2, op, (u32S (labR u).1).1, 0, 0, (labR u).2, 0) := by
      intro hm
      by_cases h0 : (midL u).2 = 0
      · have hn := midL_n h0
        obtain ⟨k', e⟩ := rlab_q (T := T) (B29 := 7) hn (u32S u).1 90000 (midL u) [] 0 op 0 0 0 0 0 0 0 0 [] 0 (by omega) hm (by simp; omega) (by omega)
        rw [e, ob_some]
        dsimp only
        show ob (ru32_p (labR u).1.1 (labR u).1.2) _ = _
        rw [ru32_q (labR_sm hs).1, ob_some]
        rfl
      · rw [rlab_err h0, ob_some]
        have e : labR u = (midL u, []) := labS_err _ h0 []
        rw [e]
        dsimp only
        rw [ru32_q hm, ob_some]
        rfl
    have km := key (midL_sm hs)
    by_cases h1 : 600 < (u32S u).1
    · rw [if_pos h1, rfail_q, ob_some]
      dsimp only
      unfold midL at km
      rw [failI_t h1] at km
      exact km
    · rw [if_neg h1]
      unfold midL at km
      rw [failI_f h1] at km
      exact km
  · by_cases h8 : op = 28
    · subst h8
      rw [if_pos rfl, if_pos rfl, ru32_q hs, ob_some]
      dsimp only
      by_cases h1 : (u32S u).1 ≠ 1
      · rw [if_pos h1, failI_t h1, rfail_q, ob_some]
        dsimp only
        rw [rvalue_q, ob_some]
        simp only [reduceIte, Nat.reduceEqDiff]
      · rw [if_neg h1, failI_f h1, rvalue_q, ob_some]
        simp only [reduceIte, Nat.reduceEqDiff]
    · have h2 : op = 208 := (K.g rfl).resolve_left h8
      rw [if_neg h8, if_neg h8, rvalue_q, ob_some]
      dsimp only
      rw [if_pos h2, rr_eq, ob_some]
      by_cases h1 : refF ((valueS u).1 % 256) = false
      · rw [if_pos h1, failI_t h1, rfail_q, ob_some]
      · rw [if_neg h1, failI_f h1]
end Go.Proofs.Ytpelnanckmjoaaa
end
section
set_option linter.unusedVariables false
set_option linter.unusedSimpArgs false
namespace Go.Proofs.Ytpelnanckmjoaaa
open Go Eng
variable {T : Nat} {s : St}
theorem closes_err {l : List Nat} {n e : Nat} {rl : SLT} {ro : List Bool} {x : Nat} (he : e ≠ 0) (hr : ro.length ≤ 100) : ∃ r, closes_p l n e rl ro x = some r ∧ r.2.2.1 = e := by
  unfold closes_p
  rw [gd_t (by omega)]
  have hf : ∀ b, fails_p l n e b 2 = some (l, n, e) := by
    intro b; unfold fails_p; rw [if_neg he]; split <;> rfl
  split
  · split
    · split
      · rw [hf, ob_some]; exact ⟨_, rfl, rfl⟩
      · rw [gd_t (by omega)]
        split
        · rw [hf, ob_some]; exact ⟨_, rfl, rfl⟩
        · exact ⟨_, rfl, rfl⟩
    · split
      · split
        · rw [gd_t (by omega)]; exact ⟨_, rfl, rfl⟩
        · exact ⟨_, rfl, rfl⟩
      · exact ⟨_, rfl, rfl⟩
  · split
    · rw [hf, ob_some]; exact ⟨_, rfl, rfl⟩
    · split
      · exact ⟨_, rfl, rfl⟩
      · exact ⟨_, rfl, rfl⟩
theorem closes_no {l : List Nat} {n e : Nat} {rl : SLT} {ro : List Bool} {x : Nat} (hr : ro.length ≤ 100) (h5 : x ≠ 5) (h11 : x ≠ 11) : closes_p l n e rl ro x = some (l, n, e, rl, ro, false) := by
  unfold closes_p
  rw [gd_t (by omega), if_neg h5, if_neg h11, if_neg h5, if_neg h11]
  split <;> rfl
theorem closes_5n {l : List Nat} {n : Nat} {rl : SLT} : closes_p l n 0 rl [] 5 = some (l, n, 2, rl, [], false) := rfl
theorem closes_11n {l : List Nat} {n : Nat} {rl : SLT} : closes_p l n 0 rl [] 11 = some (l, n, 0, rl, [], true) := rfl
theorem getD_last {α : Type} (ys : List α) (y d : α) : (ys ++ [y]).getD ys.length d = y := by simp
theorem closes_5f {l : List Nat} {n : Nat} {rl : SLT} {ys : List Bool} (hr : ys.length ≤ 100) : closes_p l n 0 rl (ys ++ [false]) 5 = some (l, n, 2, rl, ys ++ [false], false) := by
  have hl : (ys ++ [false]).length = ys.length + 1 := by simp
  unfold closes_p
  rw [hl, gd_t (by omega), if_pos (by omega), if_pos rfl, if_neg (by omega), gd_t (by omega), show ys.length + 1 - 1 = ys.length by omega, getD_last, if_pos rfl]
  rfl
theorem closes_5t {l : List Nat} {n : Nat} {rl : SLT} {ys : List Bool} (hr : ys.length ≤ 100) : closes_p l n 0 rl (ys ++ [true]) 5 = some (l, n, 0, rl, ys ++ [false], false) := by
  have hl : (ys ++ [true]).length = ys.length + 1 := by simp
  unfold closes_p
  rw [hl, gd_t (by omega), if_pos (by omega), if_pos rfl, if_neg (by omega), gd_t (by omega), show ys.length + 1 - 1 = ys.length by omega, getD_last, if_neg (by decide)]
  simp
theorem closes_11 {l : List Nat} {n : Nat} {rl : SLT} {ys : List Bool} {y : Bool} (hr : ys.length ≤ 100) : closes_p l n 0 rl (ys ++ [y]) 11 = some (l, n, 0, rl, ys, false) := by
  have hl : (ys ++ [y]).length = ys.length + 1 := by simp
  unfold closes_p
  rw [hl, gd_t (by omega), if_pos (by omega), if_neg (by decide), if_pos rfl, if_pos (by omega), gd_t (by omega), show ys.length + 1 - 1 = ys.length by omega]
  simp
theorem byteS_err (h : s.2 ≠ 0) : byteS s = (0, s) := by unfold byteS; rw [if_neg h]
theorem stP_err (h : s.2 ≠ 0) : stP s = s := by
  unfold stP stO
  rw [byteS_err h]
  rw [if_neg (show ¬ (0 : Nat) = 253 by decide), if_neg (show ¬ (0 : Nat) = 252 by decide)]
theorem next_full (h : Sm T s) (h0 : s.2 = 0) {rl : SLT} (hl : 600 ≤ rl.length) (ro : List Bool) : ∃ r, next_p s.1 (T - s.1.length) s.2 rl ro = some r ∧ r.2.2.1 = 4 ∧ r.2.2.2.2.2 = false := by
  unfold next_p
  have hb : notB (ltI (Int.ofNat rl.length) (Int.ofNat 600)) = true ↔ True := by
    have : ltI (Int.ofNat rl.length) (Int.ofNat 600) = false := by
      rw [ltI_eq]; simp; omega
    rw [this]; simp [notB, bc]
  rw [fails_q hb, ob_some, failI_T]
  dsimp only
  have e4 : (failS 4 s).2 = 4 := by unfold failS; rw [if_pos h0]
  have hne : (failS 4 s).2 ≠ 0 := by rw [e4]; decide
  rw [op_q (failS_sm h 4), ob_some]
  dsimp only
  rw [stP_err hne, if_pos hne]
  exact ⟨_, rfl, e4, rfl⟩
theorem kF253 : kF 253 = (0, 5) := by decide +kernel
theorem insS_253 (h0 : s.2 = 0) (h : (byteS s).1 = 253) : (insS s).1.2 = 5 ∧ (stP s).2 = 5 := by
  have hb : (byteS s).2.2 = 0 := by
    revert h; unfold byteS
    rw [if_pos h0]
    split
    · intro h; exact absurd h (show ¬ (0 : Nat) = 253 by decide)
    · intro _; rfl
  have hO : stO s = (byteS s).2 := by unfold stO; rw [if_neg (by rw [h]; decide)]
  have hv : vO s = 253 := by unfold vO; rw [if_neg (by rw [h]; decide), h]
  constructor
  · unfold insS
    rw [hv, kF253, hO, if_neg (not_not_intro hb), if_pos (show (5 : Nat) ≠ 0 by decide)]
    dsimp only
    unfold failS; rw [if_pos hb]
  · unfold stP
    rw [if_pos h, hO]
    unfold failS; rw [if_pos hb]
theorem next_a (h : Sm T s) (h0 : s.2 = 0) {rl : SLT} (hl : rl.length < 600) (ro : List Bool) :
    ((insS s).1.2 ≠ 0 ∧ ∃ r, next_p s.1 (T - s.1.length) s.2 rl ro = some r ∧ r.2.2.1 = (insS s).1.2) ∨
    ((stO s).2 = 0 ∧ (kF (vO s)).2 = 0 ∧ insS s = ((immS (vO s) (kF (vO s)).1 (stO s)).1, vO s, (immS (vO s) (kF (vO s)).1 (stO s)).2) ∧
     next_p s.1 (T - s.1.length) s.2 rl ro = ob (behind_p (stO s).1 (T - (stO s).1.length) (stO s).2 rl ro (vO s) 0 0 0 [] 0 (kF (vO s)).1) fun x50 =>
      (gd ((x50.2.2.2.1.length + 1) * 56 ≤ 70368744177664) (ob (closes_p x50.1 x50.2.1 x50.2.2.1 (x50.2.2.2.1 ++ [(x50.2.2.2.2.2.1, x50.2.2.2.2.2.2.1, x50.2.2.2.2.2.2.2.1, x50.2.2.2.2.2.2.2.2.1, x50.2.2.2.2.2.2.2.2.2.1, x50.2.2.2.2.2.2.2.2.2.2)]) x50.2.2.2.2.1 x50.2.2.2.2.2.1) fun x94 =>
    (if x94.2.2.2.2.2 = true then (some (x94.1, x94.2.1, x94.2.2.1, x94.2.2.2.1, x94.2.2.2.2.1, true)) else
    (some (x94.1, x94.2.1, x94.2.2.1, x94.2.2.2.1, x94.2.2.2.2.1, false)))))) := by
  unfold next_p
  have hb : notB (ltI (Int.ofNat rl.length) (Int.ofNat 600)) = true ↔ False := by
    have : ltI (Int.ofNat rl.length) (Int.ofNat 600) = true := (ltN_iff _ _).2 hl
    rw [this]; simp [notB, bc]
  rw [fails_q hb, ob_some, failI_f (fun h => h)]
  dsimp only
  rw [op_q h, ob_some]
  dsimp only
  by_cases hP : (stP s).2 ≠ 0
  · rw [if_pos hP]
    left
    by_cases h2 : (byteS s).1 = 253
    · have := insS_253 h0 h2
      refine ⟨by rw [this.1]; decide, _, rfl, ?_⟩
      rw [this.1, this.2]
    · have e : stP s = stO s := by unfold stP; rw [if_neg h2]
      rw [e] at hP ⊢
      have e2 : (insS s).1 = stO s := by unfold insS; rw [if_pos hP]
      rw [e2]
      exact ⟨hP, _, rfl, rfl⟩
  · rw [if_neg hP]
    have hP := Decidable.not_not.1 hP
    obtain ⟨ev, hO, _, eP⟩ := vP_eq hP
    rw [ev, eP, gd_t (vO_ok h hO)]
    by_cases hk : (kF (vO s)).2 ≠ 0
    · rw [if_pos hk]
      left
      have e2 : (insS s).1.2 = (kF (vO s)).2 := by
        unfold insS
        rw [if_neg (not_not_intro hO), if_pos hk]
        dsimp only
        unfold failS; rw [if_pos hO]
      rw [e2]
      exact ⟨hk, _, rfl, rfl⟩
    · rw [if_neg hk]
      have hk0 := Decidable.not_not.1 hk
      refine .inr ⟨hO, hk0, ?_, ?_⟩
      · unfold insS; rw [if_neg (not_not_intro hO), if_neg hk]
      · rw [hk0, hO]
theorem next_err (h : Sm T s) (h0 : s.2 = 0) {rl : SLT} (hl : rl.length < 600) {ro : List Bool} (hr : ro.length ≤ 32) (he : (insS s).1.2 ≠ 0) :
    ∃ r, next_p s.1 (T - s.1.length) s.2 rl ro = some r ∧ r.2.2.1 = (insS s).1.2 := by
  rcases next_a h h0 hl ro with ⟨_, h2⟩ | ⟨hO, hk, eI, eN⟩
  · exact h2
  rw [eN]
  have K := kf (vO_ok h hO)
  have hs := stO_sm h
  rw [eI] at he ⊢
  dsimp only at he ⊢
  generalize hp : kF (vO s) = p at *
  obtain ⟨k, e⟩ := p
  dsimp only at hk he K ⊢
  subst hk
  have fin : ∀ {l : List Nat} {n : Nat} {e : Nat} {ro : List Bool} {i : InsT}, e ≠ 0 → ro.length ≤ 100 → ∃ r, (ob (closes_p l n e (rl ++ [i]) ro (vO s)) fun x94 =>
    (if x94.2.2.2.2.2 = true then (some (x94.1, x94.2.1, x94.2.2.1, x94.2.2.2.1, x94.2.2.2.2.1, true)) else
    (some (x94.1, x94.2.1, x94.2.2.1, x94.2.2.2.1, x94.2.2.2.2.1, false)))) = some r ∧ r.2.2.1 = e := by
    intro l n e ro i he hr
    obtain ⟨r, e1, e2⟩ := closes_err (l := l) (n := n) (rl := rl ++ [i]) (x := vO s) he hr
    rw [e1, ob_some]
    split
    · exact ⟨_, rfl, e2⟩
    · exact ⟨_, rfl, e2⟩
  by_cases h6 : k = 6
  · subst h6
    have ei : immS (vO s) 6 (stO s) = ((blockS (stO s)).2, 0, 0, 0, [], (blockS (stO s)).1) := by unfold immS; simp only [reduceIte, Nat.reduceEqDiff]
    rw [ei] at he ⊢
    dsimp only at he ⊢
    unfold behind_p
    simp only [reduceIte, Nat.reduceEqDiff]
    rw [block_q hs, ob_some]
    dsimp only
    unfold opens_p
    rw [fails_eq, ob_some, gd_t (by omega), ob_some, ob_some]
    dsimp only
    rw [gd_t (by omega)]
    have : ∀ b : Bool, (if b = true then (failS 4 ((blockS (stO s)).2.1, (blockS (stO s)).2.2)).2 else (blockS (stO s)).2.2) = (blockS (stO s)).2.2 := by
      intro b; unfold failS; rw [if_neg he]; split <;> rfl
    rw [this]
    exact fin he (by rw [List.length_append]; simp; omega)
  · rw [behind_q K hs h6, ob_some]
    dsimp only
    rw [gd_t (by omega)]
    exact fin he (by omega)
theorem next_ok (h : Sm T s) (h0 : s.2 = 0) {rl : SLT} (hl : rl.length < 600) {ro : List Bool} (hr : ro.length ≤ 32) (he : (insS s).1.2 = 0) (h6 : ¬ (2 ≤ (insS s).2.1 ∧ (insS s).2.1 ≤ 4)) :
    next_p s.1 (T - s.1.length) s.2 rl ro = ob (closes_p (insS s).1.1 (T - (insS s).1.1.length) 0 (rl ++ [(insS s).2]) ro (insS s).2.1) fun x94 =>
    (if x94.2.2.2.2.2 = true then (some (x94.1, x94.2.1, x94.2.2.1, x94.2.2.2.1, x94.2.2.2.2.1, true)) else
    (some (x94.1, x94.2.1, x94.2.2.1, x94.2.2.2.1, x94.2.2.2.2.1, false))) := by
  rcases next_a h h0 hl ro with ⟨h2, _⟩ | ⟨hO, hk, eI, eN⟩
  · exact absurd he h2
  rw [eN]
  have K := kf (vO_ok h hO)
  have hs := stO_sm h
  rw [eI] at he h6 ⊢
  dsimp only at he h6 ⊢
  generalize hp : kF (vO s) = p at *
  obtain ⟨k, e⟩ := p
  dsimp only at hk he K ⊢
  subst hk
  have K6 := K.o
  dsimp only at K6
  have h6' : k ≠ 6 := fun hh => h6 (K6.1 hh)
  rw [behind_q K hs h6', ob_some]
  dsimp only
  rw [gd_t (by omega), he]
theorem next_open (h : Sm T s) (h0 : s.2 = 0) {rl : SLT} (hl : rl.length < 600) {ro : List Bool} (hr : ro.length ≤ 32) (he : (insS s).1.2 = 0) (h6 : 2 ≤ (insS s).2.1 ∧ (insS s).2.1 ≤ 4) :
    next_p s.1 (T - s.1.length) s.2 rl ro = some ((insS s).1.1, T - (insS s).1.1.length, if 32 ≤ ro.length then 4 else 0, rl ++ [(insS s).2], ro ++ [decide ((insS s).2.1 = 4)], false) := by
  rcases next_a h h0 hl ro with ⟨h2, _⟩ | ⟨hO, hk, eI, eN⟩
  · exact absurd he h2
  rw [eN]
  have K := kf (vO_ok h hO)
  have hs := stO_sm h
  rw [eI] at he h6 ⊢
  dsimp only at he h6 ⊢
  generalize hp : kF (vO s) = p at *
  obtain ⟨k, e⟩ := p
  dsimp only at hk he K h6 ⊢
  subst hk
  have K6 := K.o
  dsimp only at K6
  have h6' := K6.2 h6
  subst h6'
  have ei : immS (vO s) 6 (stO s) = ((blockS (stO s)).2, 0, 0, 0, [], (blockS (stO s)).1) := by unfold immS; simp only [reduceIte, Nat.reduceEqDiff]
  rw [ei] at he ⊢
  dsimp only at he ⊢
  unfold behind_p
  simp only [reduceIte, Nat.reduceEqDiff]
  rw [block_q hs, ob_some]
  dsimp only
  unfold opens_p
  have hb : notB (ltI (Int.ofNat ro.length) (Int.ofNat 32)) = true ↔ 32 ≤ ro.length := by
    by_cases hh : ro.length < 32
    · rw [(ltN_iff _ _).2 hh]
      exact ⟨fun h => absurd h (by decide), fun h => absurd hh (by omega)⟩
    · rw [Bool.eq_false_iff.2 (fun h => hh ((ltN_iff _ _).1 h))]
      exact ⟨fun _ => by omega, fun _ => rfl⟩
  rw [fails_q hb, ob_some, gd_t (by omega), ob_some, ob_some]
  dsimp only
  rw [gd_t (by omega), closes_no (by rw [List.length_append]; simp; omega) (by omega) (by omega), ob_some, failI_1, eqI_nat]
  dsimp only
  have : (failI (32 ≤ ro.length) 4 (blockS (stO s)).2).2 = if 32 ≤ ro.length then 4 else 0 := by
    unfold failI
    split
    · unfold failS; rw [if_pos he]
    · exact he
  rw [this]
  rfl
abbrev ResT := SLT × Nat × Nat
abbrev PL := LO (List Nat × Nat × Nat × List Nat × Nat × Nat × SLT × List Bool) ResT
noncomputable def fP (o10 : PL) : Option ResT :=
  (LO.on o10 (fun s_o10 => (if s_o10.2.2.2.2.2.1 ≠ 0 then (some ([], 0, s_o10.2.2.2.2.2.1)) else
    (some (s_o10.2.2.2.2.2.2.1, s_o10.2.2.2.2.1, 0)))) (fun y17 =>
    (some y17)))
theorem take_f (b : List Nat) : take_p b = ob (take_l1 90000 [] 0 0 b 0 0 [] []) fP := rfl
abbrev RL := LO (List Nat × SLT × List Nat × List Nat × Nat) (List Nat × Nat × SLT)
noncomputable def fR (T : Nat) (o11 : RL) : Option ResT :=
  ob (LO.on o11 (fun s_o11 => (some (s_o11.2.2.2.1, s_o11.2.2.2.2, s_o11.2.1))) (fun y18 => (some y18))) fun x2 =>
    (if x2.2.1 ≠ 0 then (some ([], 0, x2.2.1)) else
    (gd (x2.1.length ≤ T) (gd (T < 9223372036854775808) (some (x2.2.2, T - x2.1.length, 0)))))
def Agree (T : Nat) (a : Option PL) (b : Option RL) : Prop := ∃ r, ob a fP = some r ∧ ob b (fR T) = some r ∧ r.1.length ≤ 601 ∧ ∀ i ∈ r.1, i.2.2.2.2.1.length ≤ 600
theorem fR_err {l : List Nat} {e : Nat} {rl : SLT} (h : e ≠ 0) : fR T (.rt (l, e, rl)) = some ([], 0, e) := by
  unfold fR
  rw [LO.on_rt, ob_some, if_pos h]
theorem fR_exerr {l : List Nat} {e : Nat} {rl : SLT} {a b} (h : e ≠ 0) : fR T (.ex (a, rl, b, l, e)) = some ([], 0, e) := by
  unfold fR
  rw [LO.on_ex, ob_some, if_pos h]
theorem fR_ok {l : List Nat} {rl : SLT} (h : l.length ≤ T) (hT : T ≤ 2000) : fR T (.rt (l, 0, rl)) = some (rl, T - l.length, 0) := by
  unfold fR
  rw [LO.on_rt, ob_some]
  dsimp only
  rw [if_neg (show ¬ (0 : Nat) ≠ 0 by decide), gd_t h, gd_t (by omega)]
theorem agree_err {a : Option PL} {b : Option RL} {e : Nat} (ha : ob a fP = some ([], 0, e)) (hb : ob b (fR T) = some ([], 0, e)) : Agree T a b := ⟨_, ha, hb, Nat.zero_le _, fun i hi => by cases hi⟩
theorem take_step {m x1 x2 : Nat} {x0 : List Nat} {l : List Nat} {n e : Nat} {rl : SLT} {ro : List Bool} {r} (h : next_p l n e rl ro = some r) (he : r.2.2.1 ≠ 0) :
    ob (take_l1 (m + 1) x0 x1 x2 l n e rl ro) fP = some ([], 0, r.2.2.1) := by
  rw [take_l1, h, ob_some]
  by_cases hd : r.2.2.2.2.2 = false
  · rw [if_pos hd, if_pos he, ob_some]; rfl
  · rw [if_neg hd, ob_some]
    show (if _ then _ else _) = _
    rw [if_pos he]
theorem map_len {A4 : List Nat} : (A4.map fun k => decide (k = 4)).length = A4.length := by simp
theorem rbody_stop {m : Nat} {A2 A4 l : List Nat} {rl : SLT} {e : Nat} (h : e ≠ 0) : ob (rbody_l1 (m + 1) A2 rl A4 l e) (fR T) = some ([], 0, e) := by
  rw [rbody_l1, if_neg h, ob_some, fR_exerr h]
theorem loops : ∀ (m : Nat) (s : St) (rl : SLT) (A4 A2 x0 : List Nat) (x1 x2 : Nat), Sm T s → s.2 = 0 → rl.length ≤ 600 → 601 ≤ m + rl.length → A4.length ≤ 32 → (∀ i ∈ rl, i.2.2.2.2.1.length ≤ 600) →
    Agree T (take_l1 m x0 x1 x2 s.1 (T - s.1.length) s.2 rl (A4.map fun k => decide (k = 4))) (rbody_l1 m A2 rl A4 s.1 s.2)
  | 0, s, rl, A4, A2, x0, x1, x2, h, h0, hl, hm, hA, hi => by omega
  | m + 1, s, rl, A4, A2, x0, x1, x2, h, h0, hl, hm, hA, hi => by
    have hro : (A4.map fun k => decide (k = 4)).length ≤ 32 := by rw [map_len]; exact hA
    by_cases hf : 600 ≤ rl.length
    · obtain ⟨r, e1, e2, e3⟩ := next_full h h0 hf (A4.map fun k => decide (k = 4))
      refine agree_err (e := 4) ?_ ?_
      · rw [take_step e1 (by rw [e2]; decide), e2]
      · rw [rbody_l1, if_pos h0, if_pos hf, rfail_q, ob_some, ob_some]
        have : (failS 4 s).2 = 4 := by unfold failS; rw [if_pos h0]
        dsimp only
        rw [this, fR_err (by decide)]
    · have hf' : rl.length < 600 := by omega
      by_cases he : (insS s).1.2 ≠ 0
      · obtain ⟨r, e1, e2⟩ := next_err h h0 hf' hro he
        refine agree_err (e := (insS s).1.2) ?_ ?_
        · rw [take_step e1 (by rw [e2]; exact he), e2]
        · rw [rbody_l1, if_pos h0, if_neg hf, rinstr_q h, ob_some, if_pos he, ob_some, fR_err he]
      · have he0 := Decidable.not_not.1 he
        have hs := insS_sm h
        have hi' : ∀ i ∈ rl ++ [(insS s).2], i.2.2.2.2.1.length ≤ 600 := by
          intro i hi2
          rcases List.mem_append.1 hi2 with h3 | h3
          · exact hi i h3
          · rw [List.mem_singleton.1 h3]; exact hs.2
        have hl' : (rl ++ [(insS s).2]).length = rl.length + 1 := by simp
        by_cases h6 : 2 ≤ (insS s).2.1 ∧ (insS s).2.1 ≤ 4
        · have eN := next_open h h0 hf' hro he0 h6
          rw [map_len] at eN
          have eR : rbody_l1 (m + 1) A2 rl A4 s.1 s.2 = (if 32 < A4.length + 1 then rbody_l1 m A2 (rl ++ [(insS s).2]) (A4 ++ [(insS s).2.1]) (insS s).1.1 4 else rbody_l1 m A2 (rl ++ [(insS s).2]) (A4 ++ [(insS s).2.1]) (insS s).1.1 (insS s).1.2) := by
            rw [rbody_l1, if_pos h0, if_neg hf, rinstr_q h, ob_some, if_neg he, gd_t (by omega)]
            dsimp only
            have h5 : (insS s).2.1 ≠ 5 := by omega
            have h11 : (insS s).2.1 ≠ 11 := by omega
            rw [if_pos h6.1, if_pos h6.2, gd_t (by omega), show (A4 ++ [(insS s).2.1]).length = A4.length + 1 by simp, rfail_q, ob_some]
            have : (failS 4 (insS s).1).2 = 4 := by unfold failS; rw [if_pos he0]
            rw [this, failS_1]
          rw [eR]
          by_cases h32 : 32 ≤ A4.length
          · rw [if_pos h32] at eN
            rw [if_pos (by omega)]
            obtain ⟨m', rfl⟩ : ∃ m', m = m' + 1 := ⟨m - 1, by omega⟩
            exact agree_err (e := 4) (take_step eN (show (4 : Nat) ≠ 0 by decide)) (rbody_stop (by decide))
          · rw [if_neg h32] at eN
            rw [if_neg (by omega)]
            rw [take_l1, eN, ob_some]
            dsimp only
            rw [if_pos rfl, if_neg (by decide)]
            have := loops m (insS s).1 (rl ++ [(insS s).2]) (A4 ++ [(insS s).2.1]) A2 x0 x1 x2 hs.1 he0 (by omega) (by omega) (by simp; omega) hi'
            rw [he0] at this ⊢
            rw [List.map_append] at this
            exact this
        · have eN := next_ok h h0 hf' hro he0 h6
          have eR : ∀ {o}, (if (insS s).2.1 = 5 then (if A4.length = 0 then some (LO.rt ((insS s).1.1, 2, rl ++ [(insS s).2])) else
              if A4.getD (A4.length - 1) default ≠ 4 then some (LO.rt ((insS s).1.1, 2, rl ++ [(insS s).2])) else
              rbody_l1 m A2 (rl ++ [(insS s).2]) (A4.set (A4.length - 1) 5) (insS s).1.1 (insS s).1.2) else
            if (insS s).2.1 = 11 then (if A4.length = 0 then some (LO.rt ((insS s).1.1, (insS s).1.2, rl ++ [(insS s).2])) else
              rbody_l1 m A2 (rl ++ [(insS s).2]) (A4.take (A4.length - 1)) (insS s).1.1 (insS s).1.2) else
            rbody_l1 m A2 (rl ++ [(insS s).2]) A4 (insS s).1.1 (insS s).1.2) = o → rbody_l1 (m + 1) A2 rl A4 s.1 s.2 = o := by
            rintro o rfl
            have e2 : (failS 2 (insS s).1).2 = 2 := by unfold failS; rw [if_pos he0]
            rw [rbody_l1, if_pos h0, if_neg hf, rinstr_q h, ob_some, if_neg he, gd_t (by omega)]
            dsimp only
            by_cases ha : 2 ≤ (insS s).2.1
            · rw [if_pos ha, if_neg (fun hb => h6 ⟨ha, hb⟩)]
              split
              · split
                · rw [rfail_q, ob_some, e2, failS_1]
                · rw [gd_t (by omega), gd_t (by omega), gd_t (by omega), rfail_q, ob_some, e2, failS_1]
              · split
                · split
                  · rfl
                  · rw [gd_t (by omega), gd_t (by omega), gd_t (by omega)]
                · rfl
            · rw [if_neg ha]
              split
              · split
                · rw [rfail_q, ob_some, e2, failS_1]
                · rw [gd_t (by omega), gd_t (by omega), gd_t (by omega), rfail_q, ob_some, e2, failS_1]
              · split
                · split
                  · rfl
                  · rw [gd_t (by omega), gd_t (by omega), gd_t (by omega)]
                · rfl
          rw [eR rfl]
          clear eR
          have stop : Agree T (take_l1 (m + 1) x0 x1 x2 s.1 (T - s.1.length) s.2 rl (A4.map fun k => decide (k = 4))) (some (LO.rt ((insS s).1.1, 2, rl ++ [(insS s).2]))) ∨ True := .inr trivial
          have more : ∀ (A : List Nat), A.length ≤ 32 → next_p s.1 (T - s.1.length) s.2 rl (A4.map fun k => decide (k = 4)) = some ((insS s).1.1, T - (insS s).1.1.length, 0, rl ++ [(insS s).2], A.map fun k => decide (k = 4), false) →
              Agree T (take_l1 (m + 1) x0 x1 x2 s.1 (T - s.1.length) s.2 rl (A4.map fun k => decide (k = 4))) (rbody_l1 m A2 (rl ++ [(insS s).2]) A (insS s).1.1 (insS s).1.2) := by
            intro A hA e
            rw [take_l1, e, ob_some]
            dsimp only
            rw [if_pos rfl, if_neg (by decide)]
            have := loops m (insS s).1 (rl ++ [(insS s).2]) A A2 x0 x1 x2 hs.1 he0 (by omega) (by omega) hA hi'
            rw [he0] at this ⊢
            exact this
          by_cases h5 : (insS s).2.1 = 5
          · rw [if_pos h5]
            rw [h5] at eN
            rcases List.eq_nil_or_concat A4 with rfl | ⟨ys, y, rfl⟩
            · rw [if_pos (show ([] : List Nat).length = 0 from rfl)]
              rw [List.map_nil, closes_5n, ob_some] at eN
              dsimp only at eN
              rw [if_neg (by decide)] at eN
              refine agree_err (e := 2) (take_step eN (show (2 : Nat) ≠ 0 by decide)) ?_
              rw [ob_some, fR_err (by decide)]
            · rw [List.concat_eq_append] at *
              have hy : (ys ++ [y]).length = ys.length + 1 := by simp
              rw [hy, if_neg (by omega), show ys.length + 1 - 1 = ys.length by omega, getD_last]
              rw [List.map_append] at eN
              by_cases hy4 : y = 4
              · rw [if_neg (not_not_intro hy4)]
                subst hy4
                have : ([4] : List Nat).map (fun k => decide (k = 4)) = [true] := rfl
                rw [this, closes_5t (by rw [map_len]; omega), ob_some] at eN
                dsimp only at eN
                rw [if_neg (by decide)] at eN
                have e5 : (ys ++ [4]).set ys.length 5 = ys ++ [5] := by simp
                rw [e5]
                have e6 : (ys ++ [5]).length = ys.length + 1 := by simp
                refine more (ys ++ [5]) (by omega) ?_
                rw [List.map_append, List.map_append]
                exact eN
              · rw [if_pos hy4]
                have : ([y] : List Nat).map (fun k => decide (k = 4)) = [false] := by simp [hy4]
                rw [this, closes_5f (by rw [map_len]; omega), ob_some] at eN
                dsimp only at eN
                rw [if_neg (by decide)] at eN
                rw [List.map_append, this]
                refine agree_err (e := 2) (take_step eN (show (2 : Nat) ≠ 0 by decide)) ?_
                rw [ob_some, fR_err (by decide)]
          · rw [if_neg h5]
            by_cases h11 : (insS s).2.1 = 11
            · rw [if_pos h11]
              rw [h11] at eN
              rcases List.eq_nil_or_concat A4 with rfl | ⟨ys, y, rfl⟩
              · rw [if_pos (show ([] : List Nat).length = 0 from rfl)]
                rw [List.map_nil, closes_11n, ob_some] at eN
                dsimp only at eN
                rw [if_pos rfl] at eN
                rw [take_l1, List.map_nil, eN, ob_some]
                dsimp only
                rw [if_neg (by decide)]
                refine ⟨(rl ++ [(insS s).2], T - (insS s).1.1.length, 0), rfl, ?_, by dsimp only; omega, hi'⟩
                rw [ob_some, he0, fR_ok hs.1.1 hs.1.2.1]
              · rw [List.concat_eq_append] at *
                have hy : (ys ++ [y]).length = ys.length + 1 := by simp
                rw [hy, if_neg (by omega), show ys.length + 1 - 1 = ys.length by omega]
                have ht : (ys ++ [y]).take ys.length = ys := by simp
                rw [ht]
                refine more _ (by omega) ?_
                rw [eN, List.map_append]
                have : ([y] : List Nat).map (fun k => decide (k = 4)) = [decide (y = 4)] := rfl
                rw [this, closes_11 (by rw [map_len]; omega), ob_some]
                rfl
            · rw [if_neg h11]
              refine more _ hA ?_
              rw [eN, closes_no (by omega) h5 h11, ob_some]
              rfl
end Go.Proofs.Ytpelnanckmjoaaa
end
section
set_option linter.unusedVariables false
set_option linter.unusedSimpArgs false
namespace Go.Proofs.Ytpelnanckmjoaaa
open Go Eng
variable {T : Nat}
def nb : Nat → List Nat
  | 0 => []
  | k + 1 => 2 :: 64 :: nb k
theorem nb_len : ∀ k, (nb k).length = 2 * k
  | 0 => rfl
  | k + 1 => by show (nb k).length + 1 + 1 = _; rw [nb_len k]; omega
theorem nb_lt : ∀ k, ∀ x ∈ nb k, x < 256
  | 0 => by simp [nb]
  | k + 1 => fun x hx => by
    rcases List.mem_cons.1 hx with rfl | hx
    · decide
    · rcases List.mem_cons.1 hx with rfl | hx
      · decide
      · exact nb_lt k x hx
theorem nb_snoc : ∀ k, nb (k + 1) = nb k ++ [2, 64]
  | 0 => rfl
  | k + 1 => by
    show 2 :: 64 :: nb (k + 1) = 2 :: 64 :: (nb k ++ [2, 64])
    rw [nb_snoc k]
theorem byteS_cons (x : Nat) (l : List Nat) : byteS (x :: l, 0) = (x, l, 0) := by
  unfold byteS
  simp
theorem stO_of {x : Nat} {l : List Nat} (h : x ≠ 252) : stO (x :: l, 0) = (l, 0) ∧ vO (x :: l, 0) = x := by
  unfold stO vO
  rw [byteS_cons]
  dsimp only
  rw [if_neg h, if_neg h]
  exact ⟨rfl, rfl⟩
theorem ins_of {x k : Nat} {l : List Nat} (h : x ≠ 252) (hk : kF x = (k, 0)) : insS (x :: l, 0) = ((immS x k (l, 0)).1, x, (immS x k (l, 0)).2) := by
  unfold insS
  rw [(stO_of h).1, (stO_of h).2, hk]
  dsimp only
  rw [if_neg (by decide), if_neg (by decide)]
theorem kF2 : kF 2 = (6, 0) := by decide +kernel
theorem kF1 : kF 1 = (0, 0) := by decide +kernel
theorem kF11 : kF 11 = (0, 0) := by decide +kernel
theorem ins_2 (l : List Nat) : (insS (2 :: 64 :: l, 0)).1 = (l, 0) ∧ (insS (2 :: 64 :: l, 0)).2.1 = 2 := by
  rw [ins_of (by decide) kF2]
  refine ⟨?_, rfl⟩
  unfold immS
  simp only [reduceIte, Nat.reduceEqDiff]
  unfold blockS
  simp
theorem ins_n {x : Nat} (h : x ≠ 252) (hk : kF x = (0, 0)) (l : List Nat) : (insS (x :: l, 0)).1 = (l, 0) ∧ (insS (x :: l, 0)).2.1 = x := by
  rw [ins_of h hk]
  refine ⟨?_, rfl⟩
  unfold immS
  simp only [reduceIte, Nat.reduceEqDiff]
theorem take_more {m x1 x2 : Nat} {x0 : List Nat} {l : List Nat} {n e : Nat} {rl : SLT} {ro : List Bool} {l' n' rl' ro'} (h : next_p l n e rl ro = some (l', n', 0, rl', ro', false)) :
    take_l1 (m + 1) x0 x1 x2 l n e rl ro = take_l1 m x0 x1 x2 l' n' 0 rl' ro' := by
  rw [take_l1, h, ob_some]
  dsimp only
  rw [if_pos rfl, if_neg (by decide)]
theorem take_done {m x1 x2 : Nat} {x0 : List Nat} {l : List Nat} {n e : Nat} {rl : SLT} {ro : List Bool} {l' n' rl' ro'} (h : next_p l n e rl ro = some (l', n', 0, rl', ro', true)) :
    ob (take_l1 (m + 1) x0 x1 x2 l n e rl ro) fP = some (rl', n', 0) := by
  rw [take_l1, h, ob_some]
  rfl
theorem rep_snoc {α : Type} (x : α) (j : Nat) : List.replicate (j + 1) x = List.replicate j x ++ [x] := by rw [List.replicate_succ']
theorem step_11 {l : List Nat} {rl : SLT} {ro : List Bool} (h : Sm T (11 :: l, 0)) (hl : rl.length < 600) (hr : ro.length ≤ 32) :
    ∃ i, next_p (11 :: l) (T - (11 :: l).length) 0 rl ro = ob (closes_p l (T - l.length) 0 (rl ++ [i]) ro 11) fun x94 =>
    (if x94.2.2.2.2.2 = true then (some (x94.1, x94.2.1, x94.2.2.1, x94.2.2.2.1, x94.2.2.2.2.1, true)) else
    (some (x94.1, x94.2.1, x94.2.2.1, x94.2.2.2.1, x94.2.2.2.2.1, false))) := by
  obtain ⟨e1, e2⟩ := ins_n (show (11 : Nat) ≠ 252 by decide) kF11 l
  have := next_ok h rfl hl hr (by rw [e1]) (by rw [e2]; decide)
  rw [e1, e2] at this
  exact ⟨_, this⟩
theorem ends : ∀ (j m : Nat) (rl : SLT) (x0 : List Nat) (x1 x2 : Nat), j < m → j ≤ 32 → rl.length + j < 600 → j + 1 ≤ T → T ≤ 2000 →
    ∃ L c, ob (take_l1 m x0 x1 x2 (List.replicate (j + 1) 11) (T - (List.replicate (j + 1) 11).length) 0 rl (List.replicate j false)) fP = some (L, c, 0) ∧ L.length = rl.length + j + 1
  | 0, m + 1, rl, x0, x1, x2, hm, hj, hl, hT, hT2 => by
    obtain ⟨i, e⟩ := step_11 (T := T) (l := []) (rl := rl) (ro := []) ⟨hT, hT2, by simp⟩ (by omega) (by simp)
    rw [closes_11n, ob_some] at e
    exact ⟨_, _, take_done e, by simp⟩
  | j + 1, m + 1, rl, x0, x1, x2, hm, hj, hl, hT, hT2 => by
    have hS : Sm T (11 :: List.replicate (j + 1) 11, 0) := by
      refine ⟨by simp; omega, hT2, fun x hx => ?_⟩
      rcases List.mem_cons.1 hx with rfl | hx
      · decide
      · rw [List.eq_of_mem_replicate hx]; decide
    obtain ⟨i, e⟩ := step_11 (T := T) (l := List.replicate (j + 1) 11) (rl := rl) (ro := List.replicate (j + 1) false) hS (by omega) (by simp; omega)
    rw [rep_snoc false j, closes_11 (by simp; omega), ob_some] at e
    obtain ⟨L, c, e2, e3⟩ := ends j m (rl ++ [i]) x0 x1 x2 (by omega) (by omega) (by simp; omega) (by omega) hT2
    refine ⟨L, c, ?_, by rw [e3]; simp; omega⟩
    rw [List.replicate_succ (n := j + 1) (a := 11), rep_snoc false j, take_more e]
    exact e2
theorem nest : ∀ (k i m N : Nat) (rl : SLT) (x0 : List Nat) (x1 x2 : Nat), k + i = N → i ≤ 32 → N < 50 → rl.length = i → 2 * k + N + 2 < m → 2 * k + N + 1 ≤ T → T ≤ 2000 →
    ∃ L c e, ob (take_l1 m x0 x1 x2 (nb k ++ List.replicate (N + 1) 11) (T - (nb k ++ List.replicate (N + 1) 11).length) 0 rl (List.replicate i false)) fP = some (L, c, e) ∧
      (32 < N → e = 4) ∧ (N ≤ 32 → e = 0 ∧ L.length = i + k + N + 1)
  | 0, i, m, N, rl, x0, x1, x2, hN, hi, h50, hl, hm, hT, hT2 => by
    have hN : i = N := by omega
    subst hN
    obtain ⟨L, c, e2, e3⟩ := ends (T := T) i m rl x0 x1 x2 (by omega) hi (by omega) (by omega) hT2
    exact ⟨L, c, 0, e2, fun h => by omega, fun _ => ⟨rfl, by omega⟩⟩
  | k + 1, i, m + 1, N, rl, x0, x1, x2, hN, hi, h50, hl, hm, hT, hT2 => by
    have hlen : (2 :: 64 :: (nb k ++ List.replicate (N + 1) 11)).length = 2 * k + N + 3 := by
      simp [nb_len]; omega
    have hS : Sm T (2 :: 64 :: (nb k ++ List.replicate (N + 1) 11), 0) := by
      refine ⟨by dsimp only; rw [hlen]; omega, hT2, fun x hx => ?_⟩
      rcases List.mem_cons.1 hx with rfl | hx
      · decide
      rcases List.mem_cons.1 hx with rfl | hx
      · decide
      rcases List.mem_append.1 hx with hx | hx
      · exact nb_lt k x hx
      · rw [List.eq_of_mem_replicate hx]; decide
    obtain ⟨e1, e2⟩ := ins_2 (nb k ++ List.replicate (N + 1) 11)
    have hr : (List.replicate i false).length ≤ 32 := by simp; exact hi
    have := next_open hS rfl (rl := rl) (by omega) hr (by rw [e1]) (by rw [e2]; decide)
    rw [e1, e2, List.length_replicate] at this
    by_cases h32 : 32 ≤ i
    · rw [if_pos h32] at this
      exact ⟨_, _, _, take_step this (show (4 : Nat) ≠ 0 by decide), fun _ => rfl, fun h => by omega⟩
    · rw [if_neg h32] at this
      have hro : List.replicate i false ++ [decide ((2 : Nat) = 4)] = List.replicate (i + 1) false := by rw [rep_snoc]; rfl
      rw [hro] at this
      obtain ⟨L, c, e, h1, h2, h3⟩ := nest k (i + 1) m N (rl ++ [(insS (2 :: 64 :: (nb k ++ List.replicate (N + 1) 11), 0)).2]) x0 x1 x2 (by omega) (by omega) h50 (by simp; omega) (by omega) (by omega) hT2
      refine ⟨L, c, e, ?_, h2, fun h => ⟨(h3 h).1, by rw [(h3 h).2]; omega⟩⟩
      have tm := take_more (m := m) (x0 := x0) (x1 := x1) (x2 := x2) this
      rw [← h1, ← tm]; rfl
theorem long_l : ∀ (k m N : Nat) (rl : SLT) (x0 : List Nat) (x1 x2 : Nat), rl.length + k = N → rl.length ≤ 600 → N < 700 → k + 1 < m → k + 1 ≤ T → T ≤ 2000 →
    ∃ L c e, ob (take_l1 m x0 x1 x2 (List.replicate k 1 ++ [11]) (T - (List.replicate k 1 ++ [11]).length) 0 rl []) fP = some (L, c, e) ∧ (600 ≤ N → e = 4) ∧ (N < 600 → e = 0 ∧ L.length = N + 1)
  | k, 0, N, rl, x0, x1, x2, hN, hl, h7, hm, hT, hT2 => by omega
  | k, m + 1, N, rl, x0, x1, x2, hN, hl, h7, hm, hT, hT2 => by
    have hS : Sm T (List.replicate k 1 ++ [11], 0) := by
      refine ⟨by simp; omega, hT2, fun x hx => ?_⟩
      rcases List.mem_append.1 hx with hx | hx
      · rw [List.eq_of_mem_replicate hx]; decide
      · rw [List.mem_singleton.1 hx]; decide
    by_cases hf : 600 ≤ rl.length
    · obtain ⟨r, e1, e2, e3⟩ := next_full hS rfl hf []
      exact ⟨_, _, _, take_step e1 (by rw [e2]; decide), fun _ => e2, fun h => by omega⟩
    · cases k with
      | zero =>
        obtain ⟨i, e⟩ := step_11 (T := T) (l := []) (rl := rl) (ro := []) hS (by omega) (by simp)
        rw [closes_11n, ob_some] at e
        exact ⟨_, _, _, take_done e, fun h => by omega, fun _ => ⟨rfl, by simp; omega⟩⟩
      | succ k =>
        obtain ⟨e1, e2⟩ := ins_n (show (1 : Nat) ≠ 252 by decide) kF1 (List.replicate k 1 ++ [11])
        have := next_ok (s := (1 :: (List.replicate k 1 ++ [11]), 0)) hS rfl (rl := rl) (ro := []) (by omega) (by simp) (by rw [e1]) (by rw [e2]; decide)
        rw [e1, e2, closes_no (by simp) (by decide) (by decide), ob_some] at this
        obtain ⟨L, c, e, h1, h2, h3⟩ := long_l k m N (rl ++ [(insS (1 :: (List.replicate k 1 ++ [11]), 0)).2]) x0 x1 x2 (by simp; omega) (by simp; omega) h7 (by omega) (by omega) hT2
        refine ⟨L, c, e, ?_, h2, h3⟩
        have tm := take_more (m := m) (x0 := x0) (x1 := x1) (x2 := x2) this
        rw [← h1, ← tm]; rfl
theorem lay1 (B5 B6 : Nat) (B8 : List Nat) (hB : B5 < 50) : ∀ (k m i : Nat), i + k = B5 → k < m → lawnest_l1 B5 B6 B8 m (nb i) i = some (nb B5, B5)
  | 0, m + 1, i, hi, hm => by
    rw [lawnest_l1, if_neg (by omega)]
    have : i = B5 := by omega
    rw [this]
  | k + 1, m + 1, i, hi, hm => by
    rw [lawnest_l1, if_pos (by omega), gd_t (by rw [nb_len]; omega), gd_t (by omega), ← nb_snoc]
    exact lay1 B5 B6 B8 hB k m (i + 1) (by omega) (by omega)
theorem lay2 (B5 B6 : Nat) (B8 A : List Nat) (hB : B5 < 50) (hA : A.length ≤ 200) : ∀ (k m i : Nat), i + k = B5 + 1 → k < m → lawnest_l2 B5 B6 B8 m (A ++ List.replicate i 11) i = some (A ++ List.replicate (B5 + 1) 11, B5 + 1)
  | 0, m + 1, i, hi, hm => by
    rw [lawnest_l2, if_neg (by omega)]
    have : i = B5 + 1 := by omega
    rw [this]
  | k + 1, m + 1, i, hi, hm => by
    rw [lawnest_l2, if_pos (by omega), gd_t (by simp; omega), gd_t (by omega), List.append_assoc, ← rep_snoc]
    exact lay2 B5 B6 B8 A hB hA k m (i + 1) (by omega) (by omega)
theorem lay3 (B5 B6 : Nat) (B7 : List Nat) (hB : B6 < 700) : ∀ (k m i : Nat), i + k = B6 → k < m → lawnest_l3 B5 B6 B7 m (List.replicate i 1) i = some (List.replicate B6 1, B6)
  | 0, m + 1, i, hi, hm => by
    rw [lawnest_l3, if_neg (by omega)]
    have : i = B6 := by omega
    rw [this]
  | k + 1, m + 1, i, hi, hm => by
    rw [lawnest_l3, if_pos (by omega), gd_t (by simp; omega), gd_t (by omega), ← rep_snoc]
    exact lay3 B5 B6 B7 hB k m (i + 1) (by omega) (by omega)
theorem lawnest_t (n long : Nat) : lawnest_p n long = some true := by
  unfold lawnest_p
  have hn : n % 50 < 50 := Nat.mod_lt _ (by decide)
  have hl : long % 700 < 700 := Nat.mod_lt _ (by decide)
  generalize n % 50 = N at *
  generalize long % 700 = L at *
  have e1 := lay1 N L [] hn N 90000 0 (by omega) (by omega)
  rw [show nb 0 = [] from rfl] at e1
  rw [e1, ob_some]
  dsimp only
  have e2 := lay2 N L [] (nb N) hn (by rw [nb_len]; omega) (N + 1) 90000 0 (by omega) (by omega)
  rw [show List.replicate 0 11 = ([] : List Nat) from rfl, List.append_nil] at e2
  rw [e2, ob_some]
  dsimp only
  have e3 := lay3 N L (nb N ++ List.replicate (N + 1) 11) hl L 90000 0 (by omega) (by omega)
  rw [show List.replicate 0 1 = ([] : List Nat) from rfl] at e3
  rw [e3, ob_some]
  dsimp only
  rw [gd_t (by simp; omega)]
  have len1 : (nb N ++ List.replicate (N + 1) 11).length = 3 * N + 1 := by simp [nb_len]; omega
  have len2 : (List.replicate L 1 ++ [11]).length = L + 1 := by simp
  obtain ⟨La, ca, ea, ha, ha1, ha2⟩ := nest (T := (nb N ++ List.replicate (N + 1) 11).length) N 0 90000 N [] [] 0 0 (by omega) (by omega) hn rfl (by omega) (by rw [len1]; omega) (by rw [len1]; omega)
  obtain ⟨Lb, cb, eb, hb, hb1, hb2⟩ := long_l (T := (List.replicate L 1 ++ [11]).length) L 90000 L [] [] 0 0 (by simp) (by simp) hl (by omega) (by rw [len2]; omega) (by rw [len2]; omega)
  rw [Nat.sub_self] at ha hb
  rw [take_f]
  rw [show (List.replicate 0 false) = ([] : List Bool) from rfl] at ha
  rw [ha, ob_some, take_f, hb, ob_some]
  dsimp only
  by_cases h32 : 32 < N
  · rw [if_pos h32, ha1 h32, if_neg (by decide)]
    by_cases h6 : 600 ≤ L
    · rw [if_pos h6, if_pos (hb1 h6)]
    · have := hb2 (by omega)
      rw [if_neg h6, if_pos this.1, gd_t (by omega), if_pos this.2]
  · have hA := ha2 (by omega)
    rw [if_neg h32, hA.1, if_neg (by decide), gd_t (by omega), gd_t (by omega), if_neg (by rw [hA.2]; omega)]
    by_cases h6 : 600 ≤ L
    · rw [if_pos h6, if_pos (hb1 h6)]
    · have := hb2 (by omega)
      rw [if_neg h6, if_pos this.1, gd_t (by omega), if_pos this.2]
end Go.Proofs.Ytpelnanckmjoaaa
end
