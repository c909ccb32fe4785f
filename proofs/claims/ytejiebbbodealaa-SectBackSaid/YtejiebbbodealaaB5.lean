import Derived.Test.YtejiebbbodealaaB4
section
set_option linter.unusedVariables false
namespace Go.Proofs.Ytejiebbbodealaa
set_option linter.unusedVariables false
set_option linter.unusedSimpArgs false
open Go Eng
noncomputable def join_l1 (B8 : List (Nat × List Nat)) (B9 : Nat) : Nat → List Nat → Nat → Option (List Nat × Nat)
  | 0, _, _ => none
  | m + 1, A3, A10 =>
    (if A10 < B9 then (gd (A10 < B8.length) (gd (((B8.getD A10 default).2).length < 9223372036854775808) (gd (A3.length + 1 ≤ 70368744177664) (gd ((A3 ++ [(B8.getD A10 default).1]).length ≤ 1099511627776) (gd ((((A3 ++ [(B8.getD A10 default).1]) ++ lebU (((B8.getD A10 default).2).length)).length) + (((B8.getD A10 default).2).length) ≤ 70368744177664) (gd (A10 + 1 < 9223372036854775808) (join_l1 B8 B9 m (((A3 ++ [(B8.getD A10 default).1]) ++ lebU (((B8.getD A10 default).2).length)) ++ ((B8.getD A10 default).2)) (A10 + 1)))))))) else
    (some ((A3, A10))))
noncomputable def join_l1C : AC := (.seq (.region [⟨(some 11), .q (.bin .lss (.tmp 10) (.tmp 9)), none⟩]) (.seq (.cond (.tmp 11) .skip (.exit 0)) (.seq (.block 1 (.seq (.region [⟨(some 12), .q (.idxAddrSl 2 (.tmp 8) (.tmp 10)), none⟩, ⟨(some 13), .q (.loadA 2 (.tmp 12)), none⟩, ⟨(some 5), .l (.alloc [(vb8 0), AV.nilSlice]), none⟩, ⟨none, .e (.store 2 (.tmp 5) (.tmp 13)), none⟩]) (.drawn [⟨[(⟨(some 14), .q (.move (.tmp 3)), none⟩, 0), (⟨(some 15), .q (.fieldAddr 0 (.tmp 5)), none⟩, 0), (⟨(some 16), .q (.loadS (.tmp 15)), none⟩, 0), (⟨(some 17), .l (.buildSlice 1 1 [(vb8 0)] [(0, 1, (.tmp 16))]), none⟩, 0), (⟨(some 19), .q (.fieldAddr 1 (.tmp 5)), none⟩, 1), (⟨(some 20), .q (.loadS (.tmp 19)), none⟩, 1), (⟨(some 21), .q (.lenL (.tmp 20)), none⟩, 1), (⟨(some 22), .q (.toInt .u64 (.tmp 21)), none⟩, 1), (⟨(some 24), .q (.fieldAddr 1 (.tmp 5)), none⟩, 2), (⟨(some 25), .q (.loadS (.tmp 24)), none⟩, 2)], (some ⟨(some 18), .e (.append 1 1 (.tmp 14) (.tmp 17)), none⟩)⟩, ⟨[], (some ⟨(some 23), .e (.call (.const (AV.func (.func 16) [] [])) [(.tmp 18), (.tmp 22)]), none⟩)⟩, ⟨[], (some ⟨(some 26), .e (.append 1 1 (.tmp 23) (.tmp 25)), none⟩)⟩, ⟨[(⟨(some 3), .q (.move (.tmp 26)), none⟩, 3)], none⟩]))) (.region [⟨(some 27), .q (.bin .add (.tmp 10) (.const (vi 1))), none⟩, ⟨(some 10), .q (.move (.tmp 27)), none⟩]))))
theorem join_l1_body {call : CallT} {N : Nat} {t : T} {h : Hp} {wB8_1 : AV} {G : Nat → Prop} {h0 : Hp} {B8 : List (Nat × List Nat)} {B9 : Nat} (fB8_2 : SIn (rP (rU .u8) rY) G h0 wB8_1 B8) (h_putU : PutUS call 16) {o : List Nat × Nat} {n : Nat} {A3 : List Nat} {A10 : Nat} {wA3 : AV} (hN : 90000 < N) (hi : (fun (z : Nat × List Nat × Nat × AV) (h' : Hp) => join_l1 B8 B9 z.1 z.2.1 z.2.2.1 = some o ∧ (∀ x ∈ z.2.1, x < 256) ∧ Eng.Sep [OwnO 1 z.2.2.2 z.2.1.length (u8s z.2.1), Frz G h0] h') (n, A3, A10, wA3) h)
    : ∃ s, evC call N join_l1C (ovT [(2, AV.nilSlice), (3, wA3), (8, wB8_1), (9, (vi B9)), (10, (vi A10))] t) h = s ∧ obsS [2, 3, 8, 9, 10] (fun ls h' => ∃ y, ls = ((fun (z : Nat × List Nat × Nat × AV) => [(2, AV.nilSlice), (3, z.2.2.2), (8, wB8_1), (9, (vi B9)), (10, (vi z.2.2.1))]) y).map (fun p => some p.2) ∧ (fun (z : Nat × List Nat × Nat × AV) (h' : Hp) => join_l1 B8 B9 z.1 z.2.1 z.2.2.1 = some o ∧ (∀ x ∈ z.2.1, x < 256) ∧ Eng.Sep [OwnO 1 z.2.2.2 z.2.1.length (u8s z.2.1), Frz G h0] h') y h' ∧ (fun (z : Nat × List Nat × Nat × AV) => z.1) y < (fun (z : Nat × List Nat × Nat × AV) => z.1) (n, A3, A10, wA3)) (fun i ls h' => ∃ y, ls = ((fun (z : Nat × List Nat × Nat × AV) => [(2, AV.nilSlice), (3, z.2.2.2), (8, wB8_1), (9, (vi B9)), (10, (vi z.2.2.1))]) y).map (fun p => some p.2) ∧ (fun (i : Nat) (z : Nat × List Nat × Nat × AV) (h' : Hp) => (i = 0) ∧ (i = 0 → o = (z.2.1, z.2.2.1) ∧ (∀ x ∈ z.2.1, x < 256) ∧ Eng.Sep [OwnO 1 z.2.2.2 z.2.1.length (u8s z.2.1), Frz G h0] h')) i y h') (fun ls h' => (fun (ls : List (Option AV)) (h' : Hp) => False) ls h') s := by
  have hi : join_l1 B8 B9 n A3 A10 = some o ∧ (∀ x ∈ A3, x < 256) ∧ Eng.Sep [OwnO 1 wA3 A3.length (u8s A3), Frz G h0] h := hi
  obtain ⟨hp, fA3, S⟩ := hi
  obtain ⟨m, hm⟩ : ∃ m, n = m + 1 := by
    cases n with
    | zero => first | cases hp | (unfold join_l1 at hp; cases hp) | (simp [join_l1] at hp)
    | succ m => exact ⟨m, rfl⟩
  rw [hm] at hp
  unfold join_l1 at hp
  refine walk_ok (o := (.fork 0 (.exi 0 fun (w4 : AV) => (.tell 0 (elemP wB8_1 A10 2) (.tell 0 (AV.agg [(vb8 ((B8.getD A10 default).1)), w4]) (.effx 1 (fun e8 => (AV.tuple [])) (fun e8 => (.tell 2 (vb8 ((B8.getD A10 default).1)) (.tell 2 w4 (.tell 0 (vi (((B8.getD A10 default).2).length)) (.tell 0 (vq (((B8.getD A10 default).2).length)) (.tell 1 w4 (.again 0 (.effx 0 (fun e13 => e13.v) (fun e13 => (.again 0 (.effx 0 (fun e20 => e20.v) (fun e20 => (.again 0 (.effx 0 (fun e22 => e22.v) (fun e22 => (.again 1 (.tell 0 (vi (A10 + 1)) .fin))))))))))))))))))))) .fin)) (p := (fun (KN : List (Option AV) → Hp → Prop) (KE : Nat → List (Option AV) → Hp → Prop) (KR : List (Option AV) → Hp → Prop) => ((ltI (Int.ofNat A10) (Int.ofNat B9) = true → (∃ w4 : AV, (evQ (.idxAddrSl 2 (.const wB8_1) (.const (vi A10))) .lf H0 = .ok (elemP wB8_1 A10 2) ∧ ((evQ (.loadA 2 (.const (elemP wB8_1 A10 2))) .lf h = .ok (AV.agg [(vb8 ((B8.getD A10 default).1)), w4]) ∧ (∃ e8 : Ev, evE (.store 2 (.const (AV.ptr (Hp.next h) 0)) (.const (AV.agg [(vb8 ((B8.getD A10 default).1)), w4]))) call .lf (hpush h (mkCells [(vb8 0), AV.nilSlice] 2)) = .ok (AV.tuple []) e8.h ∧ ((evQ (.loadS (.const (AV.ptr (Hp.next h) 0))) .lf e8.h = .ok (vb8 ((B8.getD A10 default).1)) ∧ ((evQ (.loadS (.const (AV.ptr (Hp.next h) 1))) .lf (hpush e8.h (mkCells [(vb8 ((B8.getD A10 default).1))] 1)) = .ok w4 ∧ ((evQ (.lenL (.const w4)) .lf H0 = .ok (vi (((B8.getD A10 default).2).length)) ∧ ((evQ (.toInt .u64 (.const (vi (((B8.getD A10 default).2).length)))) .lf H0 = .ok (vq (((B8.getD A10 default).2).length)) ∧ ((evQ (.loadS (.const (AV.ptr (Hp.next h) 1))) .lf (hpush e8.h (mkCells [(vb8 ((B8.getD A10 default).1))] 1)) = .ok w4 ∧ ((again (.loadS (.const (AV.ptr (Hp.next h) 1))) .lf w4 (hpush e8.h (mkCells [(vb8 ((B8.getD A10 default).1))] 1)) = true ∧ again (.fieldAddr 1 (.const (AV.ptr (Hp.next h) 0))) .lf (AV.ptr (Hp.next h) 1) (hpush e8.h (mkCells [(vb8 ((B8.getD A10 default).1))] 1)) = true ∧ again (.toInt .u64 (.const (vi (((B8.getD A10 default).2).length)))) .lf (vq (((B8.getD A10 default).2).length)) (hpush e8.h (mkCells [(vb8 ((B8.getD A10 default).1))] 1)) = true ∧ again (.lenL (.const w4)) .lf (vi (((B8.getD A10 default).2).length)) (hpush e8.h (mkCells [(vb8 ((B8.getD A10 default).1))] 1)) = true ∧ again (.loadS (.const (AV.ptr (Hp.next h) 1))) .lf w4 (hpush e8.h (mkCells [(vb8 ((B8.getD A10 default).1))] 1)) = true ∧ again (.fieldAddr 1 (.const (AV.ptr (Hp.next h) 0))) .lf (AV.ptr (Hp.next h) 1) (hpush e8.h (mkCells [(vb8 ((B8.getD A10 default).1))] 1)) = true ∧ again (.loadS (.const (AV.ptr (Hp.next h) 0))) .lf (vb8 ((B8.getD A10 default).1)) (hpush e8.h (mkCells [(vb8 ((B8.getD A10 default).1))] 1)) = true ∧ again (.fieldAddr 0 (.const (AV.ptr (Hp.next h) 0))) .lf (AV.ptr (Hp.next h) 0) (hpush e8.h (mkCells [(vb8 ((B8.getD A10 default).1))] 1)) = true ∧ again (.move (.const wA3)) .lf wA3 (hpush e8.h (mkCells [(vb8 ((B8.getD A10 default).1))] 1)) = true ∧ True) ∧ (∃ e13 : Ev, evE (.append 1 1 (.const wA3) (.const (AV.slice (Hp.next e8.h) 0 1 1 1 true))) call .lf (hpush e8.h (mkCells [(vb8 ((B8.getD A10 default).1))] 1)) = .ok e13.v e13.h ∧ ((again (.loadS (.const (AV.ptr (Hp.next h) 1))) .lf w4 e13.h = true ∧ again (.fieldAddr 1 (.const (AV.ptr (Hp.next h) 0))) .lf (AV.ptr (Hp.next h) 1) e13.h = true ∧ again (.toInt .u64 (.const (vi (((B8.getD A10 default).2).length)))) .lf (vq (((B8.getD A10 default).2).length)) e13.h = true ∧ again (.lenL (.const w4)) .lf (vi (((B8.getD A10 default).2).length)) e13.h = true ∧ again (.loadS (.const (AV.ptr (Hp.next h) 1))) .lf w4 e13.h = true ∧ again (.fieldAddr 1 (.const (AV.ptr (Hp.next h) 0))) .lf (AV.ptr (Hp.next h) 1) e13.h = true ∧ True) ∧ (∃ e20 : Ev, call 16 [e13.v, (vq (((B8.getD A10 default).2).length))] e13.h = .ok e20.v e20.h ∧ ((again (.loadS (.const (AV.ptr (Hp.next h) 1))) .lf w4 e20.h = true ∧ again (.fieldAddr 1 (.const (AV.ptr (Hp.next h) 0))) .lf (AV.ptr (Hp.next h) 1) e20.h = true ∧ True) ∧ (∃ e22 : Ev, evE (.append 1 1 (.const e20.v) (.const w4)) call .lf e20.h = .ok e22.v e22.h ∧ ((again (.move (.const e22.v)) .lf e22.v e22.h = true ∧ True) ∧ ((evQ (.bin .add (.const (vi A10)) (.const (vi 1))) .lf H0 = .ok (vi (A10 + 1)) ∧ KN [some AV.nilSlice, some e22.v, some wB8_1, some (vi B9), some (vi (A10 + 1))] e22.h))))))))))))))))))))))))) ∧ (ltI (Int.ofNat A10) (Int.ofNat B9) = false → KE 0 [some AV.nilSlice, some wA3, some wB8_1, some (vi B9), some (vi A10)] h))) (fun ls h' => ∃ y, ls = ((fun (z : Nat × List Nat × Nat × AV) => [(2, AV.nilSlice), (3, z.2.2.2), (8, wB8_1), (9, (vi B9)), (10, (vi z.2.2.1))]) y).map (fun p => some p.2) ∧ (fun (z : Nat × List Nat × Nat × AV) (h' : Hp) => join_l1 B8 B9 z.1 z.2.1 z.2.2.1 = some o ∧ (∀ x ∈ z.2.1, x < 256) ∧ Eng.Sep [OwnO 1 z.2.2.2 z.2.1.length (u8s z.2.1), Frz G h0] h') y h' ∧ (fun (z : Nat × List Nat × Nat × AV) => z.1) y < (fun (z : Nat × List Nat × Nat × AV) => z.1) (n, A3, A10, wA3)) (fun i ls h' => ∃ y, ls = ((fun (z : Nat × List Nat × Nat × AV) => [(2, AV.nilSlice), (3, z.2.2.2), (8, wB8_1), (9, (vi B9)), (10, (vi z.2.2.1))]) y).map (fun p => some p.2) ∧ (fun (i : Nat) (z : Nat × List Nat × Nat × AV) (h' : Hp) => (i = 0) ∧ (i = 0 → o = (z.2.1, z.2.2.1) ∧ (∀ x ∈ z.2.1, x < 256) ∧ Eng.Sep [OwnO 1 z.2.2.2 z.2.1.length (u8s z.2.1), Frz G h0] h')) i y h') (fun ls h' => (fun (ls : List (Option AV)) (h' : Hp) => False) ls h')) (by kernel_rfl) ?_
  refine ⟨fun c1 => ?_, fun c1 => ?_⟩
  · replace c1 := ltI_t c1
    replace hp := ift hp c1
    have ⟨g2, hp⟩ := gd_inv hp
    obtain ⟨csR6, hcR6, R6⟩ := sin_row fB8_2 g2
    obtain ⟨_, _, rfl, ⟨rfl, f3⟩, ⟨w4, rfl, f5⟩⟩ := hcR6
    refine ⟨w4, sin_idx fB8_2 g2, ?_⟩
    refine ⟨row_loadA S (i := 1) rfl R6 (by simp), ?_⟩
    have S7 := cel_new S [(vb8 0), AV.nilSlice] rfl
    obtain ⟨e8, qe8, se8⟩ := cel_storeN call S7 (i := 0) (o := 0) (n := 2) (xs := [(vb8 ((B8.getD A10 default).1)), w4]) rfl (lb rfl) rfl (by decide) (all_cell rfl (all_cell (BIn.cell f5) all_cell0))
    refine ⟨e8, qe8, ?_⟩
    refine ⟨cel_load se8 (i := 0) rfl rfl, ?_⟩
    have S10 := own_new se8 1 1 [(vb8 ((B8.getD A10 default).1))] true rfl
    refine ⟨cel_load S10 (i := 1) rfl rfl, ?_⟩
    refine ⟨q_len (BIn.now S10 (i := 3) rfl f5), ?_⟩
    have ⟨g12, hp⟩ := gd_inv hp
    refine ⟨u_conv' rfl (Nat.lt_of_lt_of_le g12 (by decide)), ?_⟩
    have g11 : ((B8.getD A10 default).2).length < 18446744073709551616 := Nat.lt_of_lt_of_le g12 (by decide)
    refine ⟨cel_load S10 (i := 1) rfl rfl, ?_⟩
    refine ⟨⟨again_of (cel_load S10 (i := 1) rfl rfl) (BIn.same f5), again_of (rfl) (avEq_ptr _ _), again_of (u_conv' rfl (Nat.lt_of_lt_of_le g12 (by decide))) (avEq_int _ _), again_of (q_len (BIn.now S10 (i := 3) rfl f5)) (avEq_int _ _), again_of (cel_load S10 (i := 1) rfl rfl) (BIn.same f5), again_of (rfl) (avEq_ptr _ _), again_of (cel_load S10 (i := 1) rfl rfl) (avEq_int _ _), again_of (rfl) (avEq_ptr _ _), again_of (rfl) (own_same S10 (i := 2) rfl), trivial⟩, ?_⟩
    have ⟨g14, hp⟩ := gd_inv hp
    obtain ⟨e13, qe13, se13⟩ := own_append (bytes := 1) call S10 (i := 2) rfl (x := (AV.slice (Hp.next e8.h) 0 1 1 1 true)) (m := 1) (xs := u8s [(B8.getD A10 default).1]) (fun z k => own_src S10 (i := 0) rfl z k) (own_L S10 (i := 0) rfl) (u8s_cells _) (show (A3.length + 1) * 1 ≤ 70368744177664 by omega) g14
    have S16 : Sep [OwnO 1 (AV.slice (Hp.next e8.h) 0 1 1 1 true) 1 (u8s [(B8.getD A10 default).1]), Cel (Hp.next h) [(vb8 ((B8.getD A10 default).1)), w4], OwnO 1 e13.v ((A3 ++ [(B8.getD A10 default).1]).length) (u8s (A3 ++ [(B8.getD A10 default).1])), Frz G h0] e13.h := (by have z := se13; first | (rw [show u8s (A3 ++ [(B8.getD A10 default).1]) = u8s A3 ++ u8s [(B8.getD A10 default).1] from by simp [u8s_eq], show (A3 ++ [(B8.getD A10 default).1] : List Nat).length = A3.length + 1 from by first | (simp; done) | (simp; omega)]; exact z) | (rw [show (A3.length + 1 : Nat) = (A3 ++ [(B8.getD A10 default).1] : List Nat).length from by first | (simp; done) | (simp; omega), show (u8s A3 ++ (u8s [(B8.getD A10 default).1]) : List AV) = u8s (A3 ++ [(B8.getD A10 default).1]) from by simp [u8s_eq]] at z; exact z))
    have S17 := S16.tail
    refine ⟨e13, qe13, ?_⟩
    refine ⟨⟨again_of (cel_load S17 (i := 0) rfl rfl) (BIn.same f5), again_of (rfl) (avEq_ptr _ _), again_of (u_conv' rfl (Nat.lt_of_lt_of_le g12 (by decide))) (avEq_int _ _), again_of (q_len (BIn.now S10 (i := 3) rfl f5)) (avEq_int _ _), again_of (cel_load S17 (i := 0) rfl rfl) (BIn.same f5), again_of (rfl) (avEq_ptr _ _), trivial⟩, ?_⟩
    have ⟨g18, hp⟩ := gd_inv hp
    have z19 := h_putU (B := e13.h.next) (l := A3 ++ [(B8.getD A10 default).1]) (v := ((B8.getD A10 default).2).length) (Nat.le_refl _) (own_bytes S17 (i := 1) rfl (put_lt fA3 (cons_lt f3 nil_lt))) g18 g11
    rw [show (A3 ++ [(B8.getD A10 default).1]).length + (lebU (((B8.getD A10 default).2).length)).length = ((A3 ++ [(B8.getD A10 default).1]) ++ lebU (((B8.getD A10 default).2).length)).length from by first | (simp; done) | (simp; omega)] at z19
    obtain ⟨ve20, he20, qe20, oe20, pe20, ne20⟩ := z19
    have Se20 := Sep.owned S17 oe20 pe20
    obtain ⟨e20, rfl, rfl⟩ : ∃ e : Ev, ve20 = e.v ∧ he20 = e.h := ⟨⟨ve20, .lf, he20⟩, rfl, rfl⟩
    refine ⟨e20, qe20, ?_⟩
    refine ⟨⟨again_of (cel_load Se20 (i := 1) rfl rfl) (BIn.same f5), again_of (rfl) (avEq_ptr _ _), trivial⟩, ?_⟩
    have ⟨g23, hp⟩ := gd_inv hp
    obtain ⟨e22, qe22, se22⟩ := own_append (bytes := 1) call Se20 (i := 0) rfl (x := w4) (m := ((B8.getD A10 default).2).length) (xs := u8s ((B8.getD A10 default).2)) (fun z k => src_bytes (BIn.now Se20 (i := 3) rfl f5) z k) (u8s_len1 _) (u8s_cells _) (show ((((A3 ++ [(B8.getD A10 default).1]) ++ lebU (((B8.getD A10 default).2).length)).length) + (((B8.getD A10 default).2).length)) * 1 ≤ 70368744177664 by omega) g23
    have S25 : Sep [OwnO 1 e22.v ((((A3 ++ [(B8.getD A10 default).1]) ++ lebU (((B8.getD A10 default).2).length)) ++ ((B8.getD A10 default).2)).length) (u8s (((A3 ++ [(B8.getD A10 default).1]) ++ lebU (((B8.getD A10 default).2).length)) ++ ((B8.getD A10 default).2))), Cel (Hp.next h) [(vb8 ((B8.getD A10 default).1)), w4], OwnO 1 e13.v ((A3 ++ [(B8.getD A10 default).1]).length) (u8s (A3 ++ [(B8.getD A10 default).1])), Frz G h0] e22.h := (by have z := se22; first | (rw [show u8s (((A3 ++ [(B8.getD A10 default).1]) ++ lebU (((B8.getD A10 default).2).length)) ++ ((B8.getD A10 default).2)) = u8s ((A3 ++ [(B8.getD A10 default).1]) ++ lebU (((B8.getD A10 default).2).length)) ++ u8s ((B8.getD A10 default).2) from by simp [u8s_eq], show (((A3 ++ [(B8.getD A10 default).1]) ++ lebU (((B8.getD A10 default).2).length)) ++ ((B8.getD A10 default).2) : List Nat).length = (((A3 ++ [(B8.getD A10 default).1]) ++ lebU (((B8.getD A10 default).2).length)).length) + (((B8.getD A10 default).2).length) from by first | (simp; done) | (simp; omega)]; exact z) | (rw [show ((((A3 ++ [(B8.getD A10 default).1]) ++ lebU (((B8.getD A10 default).2).length)).length) + (((B8.getD A10 default).2).length) : Nat) = (((A3 ++ [(B8.getD A10 default).1]) ++ lebU (((B8.getD A10 default).2).length)) ++ ((B8.getD A10 default).2) : List Nat).length from by first | (simp; done) | (simp; omega), show (u8s ((A3 ++ [(B8.getD A10 default).1]) ++ lebU (((B8.getD A10 default).2).length)) ++ (u8s ((B8.getD A10 default).2)) : List AV) = u8s (((A3 ++ [(B8.getD A10 default).1]) ++ lebU (((B8.getD A10 default).2).length)) ++ ((B8.getD A10 default).2)) from by simp [u8s_eq]] at z; exact z))
    refine ⟨e22, qe22, ?_⟩
    refine ⟨⟨again_of (rfl) (own_same S25 (i := 0) rfl), trivial⟩, ?_⟩
    have ⟨g26, hp⟩ := gd_inv hp
    refine ⟨q_add g26, ?_⟩
    have S27 : Sep [OwnO 1 e22.v ((((A3 ++ [(B8.getD A10 default).1]) ++ lebU (((B8.getD A10 default).2).length)) ++ ((B8.getD A10 default).2)).length) (u8s (((A3 ++ [(B8.getD A10 default).1]) ++ lebU (((B8.getD A10 default).2).length)) ++ ((B8.getD A10 default).2))), Frz G h0] e22.h := S25.sel [0, 3] (by decide) rfl
    refine ⟨(m, ((A3 ++ [(B8.getD A10 default).1]) ++ lebU (((B8.getD A10 default).2).length)) ++ ((B8.getD A10 default).2), A10 + 1, e22.v), rfl, ⟨hp, (put_lt (put_lt (put_lt fA3 (cons_lt f3 nil_lt)) (lebU_all g11)) (BIn.now Se20 (i := 3) rfl f5).lt), S27⟩, by show m < n; omega⟩
  replace c1 := ltI_f c1
  replace hp := iff0 hp (nltO c1)
  refine ⟨(m, A3, A10, wA3), rfl, rfl, fun _ => ⟨(Option.some.inj hp).symm, fA3, S⟩⟩
theorem join_l1_t {call : CallT} {N : Nat} {wB8_1 : AV} {G : Nat → Prop} {h0 : Hp} {B8 : List (Nat × List Nat)} {B9 : Nat} (fB8_2 : SIn (rP (rU .u8) rY) G h0 wB8_1 B8) (h_putU : PutUS call 16) {o : List Nat × Nat} {n : Nat} {A3 : List Nat} {A10 : Nat} {wA3 : AV} {h : Hp} (hi : (fun (z : Nat × List Nat × Nat × AV) (h' : Hp) => join_l1 B8 B9 z.1 z.2.1 z.2.2.1 = some o ∧ (∀ x ∈ z.2.1, x < 256) ∧ Eng.Sep [OwnO 1 z.2.2.2 z.2.1.length (u8s z.2.1), Frz G h0] h') (n, A3, A10, wA3) h) (hN : n < N) (hN' : 90000 < N) {t : T} (ht : Has ((fun (z : Nat × List Nat × Nat × AV) => [(2, AV.nilSlice), (3, z.2.2.2), (8, wB8_1), (9, (vi B9)), (10, (vi z.2.2.1))]) (n, A3, A10, wA3)) t) :
    (∃ i y t' h', evC call N (.loop join_l1C) t h = .exit i t' h' ∧ Has ((fun (z : Nat × List Nat × Nat × AV) => [(2, AV.nilSlice), (3, z.2.2.2), (8, wB8_1), (9, (vi B9)), (10, (vi z.2.2.1))]) y) t' ∧ (fun (i : Nat) (z : Nat × List Nat × Nat × AV) (h' : Hp) => (i = 0) ∧ (i = 0 → o = (z.2.1, z.2.2.1) ∧ (∀ x ∈ z.2.1, x < 256) ∧ Eng.Sep [OwnO 1 z.2.2.2 z.2.1.length (u8s z.2.1), Frz G h0] h')) i y h') ∨ (∃ t' h', evC call N (.loop join_l1C) t h = .ret t' h' ∧ (fun (ls : List (Option AV)) (h' : Hp) => False) (slots [2, 3, 8, 9, 10] t') h') :=
  loop_st (fun (z : Nat × List Nat × Nat × AV) => [(2, AV.nilSlice), (3, z.2.2.2), (8, wB8_1), (9, (vi B9)), (10, (vi z.2.2.1))]) [2, 3, 8, 9, 10] (fun _ => rfl) (fun (z : Nat × List Nat × Nat × AV) (h' : Hp) => join_l1 B8 B9 z.1 z.2.1 z.2.2.1 = some o ∧ (∀ x ∈ z.2.1, x < 256) ∧ Eng.Sep [OwnO 1 z.2.2.2 z.2.1.length (u8s z.2.1), Frz G h0] h') (fun (z : Nat × List Nat × Nat × AV) => z.1) (fun (i : Nat) (z : Nat × List Nat × Nat × AV) (h' : Hp) => (i = 0) ∧ (i = 0 → o = (z.2.1, z.2.2.1) ∧ (∀ x ∈ z.2.1, x < 256) ∧ Eng.Sep [OwnO 1 z.2.2.2 z.2.1.length (u8s z.2.1), Frz G h0] h')) (fun (ls : List (Option AV)) (h' : Hp) => False) (fun ⟨n, A3, A10, wA3⟩ t h hi => join_l1_body fB8_2 h_putU hN' hi) (n, A3, A10, wA3) h hi hN t ht
noncomputable def join_p (l : List (Nat × List Nat)) : Option (List Nat) :=
  (ob (join_l1 l l.length 90000 [0, 97, 115, 109, 1, 0, 0, 0] 0) fun o2 =>
    (some o2.1))
theorem join_w {call : CallT} {N : Nat} {h : Hp} {wl_1 : AV} {l : List (Nat × List Nat)} (fl_2 : SIn (rP (rU .u8) rY) (Low h) h wl_1 l) (h_putU : PutUS call 16) (hN : 90000 < N) {r : List Nat} (hp : join_p l = some r) :
    ∃ rv rh, evF1 (progS Try.prog (compDrawn Try.prog)) N call 39 [wl_1] h = .ok rv rh ∧ (fun (rv : AV) (rh : Hp) => ∃ wk1 : AV, rv = wk1 ∧ (∀ x ∈ r, x < 256) ∧ Eng.Sep (OwnO 1 wk1 r.length (u8s r) :: Frz (Low h) h :: []) rh) rv rh := by
  have S : Eng.Sep [Frz (Low h) h] h := Sep.start h
  unfold join_p at hp
  refine fwalk_ok (K := (fun (rv : AV) (rh : Hp) => ∃ wk1 : AV, rv = wk1 ∧ (∀ x ∈ r, x < 256) ∧ Eng.Sep (OwnO 1 wk1 r.length (u8s r) :: Frz (Low h) h :: []) rh)) (o := (.eff 2 (AV.slice (Hp.next h) 0 8 8 1 true) (hpush h (mkCells [(vb8 0), (vb8 97), (vb8 115), (vb8 109), (vb8 1), (vb8 0), (vb8 0), (vb8 0)] 8)) (.tell 2 (vi l.length) (.exi 1 fun (A3o2 : List Nat) => (.exi 0 fun (A10o2 : Nat) => (.exi 0 fun (wA3o2 : AV) => (.exi 0 fun (t5 : T) => (.exi 0 fun (h6 : Hp) => (.lp 0 (.exit 0 (ovT [(2, AV.nilSlice), (3, wA3o2), (8, wl_1), (9, (vi l.length)), (10, (vi A10o2))] t5) h6) .fin))))))))) (p := (fun (KK : AV → Hp → Prop) => (evE (.mark (.const (AV.slice (Hp.next h) 0 8 8 1 true))) call .lf (hpush h (mkCells [(vb8 0), (vb8 97), (vb8 115), (vb8 109), (vb8 1), (vb8 0), (vb8 0), (vb8 0)] 8)) = .ok (AV.slice (Hp.next h) 0 8 8 1 true) (hpush h (mkCells [(vb8 0), (vb8 97), (vb8 115), (vb8 109), (vb8 1), (vb8 0), (vb8 0), (vb8 0)] 8)) ∧ ((evQ (.lenL (.const wl_1)) .lf H0 = .ok (vi l.length) ∧ (∃ A3o2 : List Nat, ∃ A10o2 : Nat, ∃ wA3o2 : AV, ∃ t5 : T, ∃ h6 : Hp, (evC call N (.loop join_l1C) (ovT [(0, wl_1), (2, AV.nilSlice), (3, (AV.slice (Hp.next h) 0 8 8 1 true)), (6, (AV.slice (Hp.next h) 0 8 8 1 true)), (7, (AV.slice (Hp.next h) 0 8 8 1 true)), (8, wl_1), (9, (vi l.length)), (10, (vi 0))] .lf) (hpush h (mkCells [(vb8 0), (vb8 97), (vb8 115), (vb8 109), (vb8 1), (vb8 0), (vb8 0), (vb8 0)] 8)) = (.exit 0 (ovT [(2, AV.nilSlice), (3, wA3o2), (8, wl_1), (9, (vi l.length)), (10, (vi A10o2))] t5) h6) ∧ True ∧ KK wA3o2 h6)))))) (fun (rv : AV) (rh : Hp) => ∃ wk1 : AV, rv = wk1 ∧ (∀ x ∈ r, x < 256) ∧ Eng.Sep (OwnO 1 wk1 r.length (u8s r) :: Frz (Low h) h :: []) rh)) (by kernel_rfl) ?_
  have S1 := own_new S 1 8 [(vb8 0), (vb8 97), (vb8 115), (vb8 109), (vb8 1), (vb8 0), (vb8 0), (vb8 0)] true rfl
  refine ⟨own_mark call S1 (i := 0) rfl (by decide), ?_⟩
  refine ⟨sin_len fl_2, ?_⟩
  have ⟨o2, hb3, hp⟩ := ob_inv hp
  rcases join_l1_t fl_2 h_putU (o := o2) (B8 := l) (B9 := l.length) (n := 90000) (A3 := [0, 97, 115, 109, 1, 0, 0, 0]) (A10 := 0) (wA3 := (AV.slice (Hp.next h) 0 8 8 1 true)) ⟨hb3, (cons_lt (show 0 < 256 by decide) (cons_lt (show 97 < 256 by decide) (cons_lt (show 115 < 256 by decide) (cons_lt (show 109 < 256 by decide) (cons_lt (show 1 < 256 by decide) (cons_lt (show 0 < 256 by decide) (cons_lt (show 0 < 256 by decide) (cons_lt (show 0 < 256 by decide) nil_lt)))))))), S1⟩ hN hN (t := (ovT [(0, wl_1), (2, AV.nilSlice), (3, (AV.slice (Hp.next h) 0 8 8 1 true)), (6, (AV.slice (Hp.next h) 0 8 8 1 true)), (7, (AV.slice (Hp.next h) 0 8 8 1 true)), (8, wl_1), (9, (vi l.length)), (10, (vi 0))] .lf)) (show slots [2, 3, 8, 9, 10] _ = [some AV.nilSlice, some (AV.slice (Hp.next h) 0 8 8 1 true), some wl_1, some (vi l.length), some (vi 0)] by kernel_rfl) with ⟨io2, ⟨_, A3o2, A10o2, wA3o2⟩, t5, h6, qo2, wo2, zo2⟩ | ⟨_, _, _, zo2⟩
  rotate_left
  · exact zo2.elim
  obtain ⟨jo2, zo2⟩ := zo2
  subst jo2
  replace zo2 := zo2 rfl
  obtain ⟨uo2, fA3o2, So2⟩ := zo2
  replace uo2 := uo2.symm
  subst uo2
  try dsimp only at hp
  refine ⟨A3o2, A10o2, wA3o2, t5, h6, (qo2.trans (congrArg (fun t => RS.exit 0 t h6) (ovT_eq wo2).symm)), trivial, ?_⟩
  obtain rfl := Option.some.inj hp
  exact ⟨wA3o2, rfl, fA3o2, So2⟩
def C_join (call : CallT) : Prop := ∀ {h : Hp} {wl_1 : AV} {l : List (Nat × List Nat)} (fl_2 : SIn (rP (rU .u8) rY) (Low h) h wl_1 l) {r : List Nat}, join_p l = some r → ∃ rv rh, call 39 [wl_1] h = .ok rv rh ∧ ∃ wk1 : AV, rv = wk1 ∧ (∀ x ∈ r, x < 256) ∧ Eng.Sep (OwnO 1 wk1 r.length (u8s r) :: Frz (Low h) h :: []) rh
theorem s_join (d : Nat) : C_join (CC (d + 4)) := by
  intro h wl_1 l fl_2 r hp
  rw [CC, evF_at (sumT_none rfl)]
  exact join_w (call := CC (d + 3)) (N := 100000) fl_2 (s_putU (d + 0)) (by decide) hp
end Go.Proofs.Ytejiebbbodealaa
end
section
set_option linter.unusedVariables false
namespace Go.Proofs.Ytejiebbbodealaa
set_option linter.unusedVariables false
set_option linter.unusedSimpArgs false
open Go Eng
noncomputable def lawback_l2 (B0 : List (Nat × List Nat)) (B2 : Bool) (B3 : List (Nat × List Nat)) (B4 : Int) (B5 : Bool) (B6 : List Nat) (B7 : Nat) : Nat → Int → Nat → Nat → List Nat → Option (Int × Nat × Nat × List Nat)
  | 0, _, _, _, _ => none
  | m + 1, A9, A10, Q1001_0, Q1001_1 =>
    (if A10 < B6.length then (if B6.getD A10 0 = Q1001_0 then (gd (A10 + 1 < 9223372036854775808) (lawback_l2 B0 B2 B3 B4 B5 B6 B7 m ((A10 : Nat) : Int) (A10 + 1) Q1001_0 Q1001_1)) else
    (gd (A10 + 1 < 9223372036854775808) (lawback_l2 B0 B2 B3 B4 B5 B6 B7 m A9 (A10 + 1) Q1001_0 Q1001_1))) else
    (some ((A9, A10, Q1001_0, Q1001_1))))
noncomputable def lawback_l2C : AC := (.seq (.seq (.region [⟨(some 52), .q (.move (.tmp 10)), none⟩, ⟨(some 53), .q (.move (.tmp 6)), none⟩, ⟨(some 54), .q (.lenL (.tmp 53)), none⟩, ⟨(some 55), .q (.bin .lss (.tmp 52) (.tmp 54)), none⟩]) (.cond (.tmp 55) .skip (.exit 2))) (.seq (.block 3 (.seq (.drawn [⟨[(⟨(some 58), .q (.move (.tmp 6)), none⟩, 0), (⟨(some 59), .q (.move (.tmp 10)), none⟩, 0), (⟨(some 60), .q (.idxAddrSl 1 (.tmp 58) (.tmp 59)), none⟩, 0), (⟨(some 61), .q (.loadS (.tmp 60)), none⟩, 0), (⟨(some 62), .q (.fieldAddr 0 (.tmp 8)), none⟩, 0), (⟨(some 63), .q (.loadS (.tmp 62)), none⟩, 0), (⟨(some 64), .q (.eq .int false (.tmp 61) (.tmp 63)), none⟩, 0)], none⟩]) (.cond (.tmp 64) (.region [⟨(some 65), .q (.move (.tmp 10)), none⟩, ⟨(some 9), .q (.move (.tmp 65)), none⟩]) .skip))) (.region [⟨(some 56), .q (.move (.tmp 10)), none⟩, ⟨(some 57), .q (.bin .add (.tmp 56) (.const (vi 1))), none⟩, ⟨(some 10), .q (.move (.tmp 57)), none⟩])))
theorem lawback_l2_body {call : CallT} {N : Nat} {t : T} {h : Hp} {wB0_1 : AV} {wB3 : AV} {LB3 : List AV} {wB6 : AV} {b1001 : Nat} {G_102 : Nat → Prop} {k_102 : Hp} {B0 : List (Nat × List Nat)} {B2 : Bool} {B3 : List (Nat × List Nat)} {B4 : Int} {B5 : Bool} {B6 : List Nat} {B7 : Nat} (fB0_2 : SIn (rP (rU .u8) rY) G_102 k_102 wB0_1 B0) (fB3 : Eng.Rows (rP (rU .u8) rY) G_102 k_102 LB3 B3) (fB6 : ∀ x ∈ B6, x < 256) (h_begun : TrueS call 34) (h_split : C_split call) (h_join : C_join call) {o : Int × Nat × Nat × List Nat} {n : Nat} {A9 : Int} {A10 : Nat} {Q1001_0 : Nat} {Q1001_1 : List Nat} {wQ1001_1_1 : AV} (hN : 90000 < N) (hi : (fun (z : Nat × Int × Nat × Nat × List Nat × AV) (h' : Hp) => lawback_l2 B0 B2 B3 B4 B5 B6 B7 z.1 z.2.1 z.2.2.1 z.2.2.2.1 z.2.2.2.2.1 = some o ∧ (z.2.2.2.1 < 256) ∧ (BIn G_102 k_102 z.2.2.2.2.2 z.2.2.2.2.1) ∧ Eng.Sep [OwnO 2 wB3 B3.length LB3, OwnO 1 wB6 B6.length (u8s B6), Cel b1001 [(vb8 z.2.2.2.1), z.2.2.2.2.2], Frz G_102 k_102] h') (n, A9, A10, Q1001_0, Q1001_1, wQ1001_1_1) h)
    : ∃ s, evC call N lawback_l2C (ovT [(0, wB0_1), (2, (AV.bool B2)), (3, wB3), (4, (AV.int .i64 B4)), (5, (AV.bool B5)), (6, wB6), (7, (vi B7)), (8, (AV.ptr b1001 0)), (9, (AV.int .i64 A9)), (10, (vi A10))] t) h = s ∧ obsS [0, 2, 3, 4, 5, 6, 7, 8, 9, 10] (fun ls h' => ∃ y, ls = ((fun (z : Nat × Int × Nat × Nat × List Nat × AV) => [(0, wB0_1), (2, (AV.bool B2)), (3, wB3), (4, (AV.int .i64 B4)), (5, (AV.bool B5)), (6, wB6), (7, (vi B7)), (8, (AV.ptr b1001 0)), (9, (AV.int .i64 z.2.1)), (10, (vi z.2.2.1))]) y).map (fun p => some p.2) ∧ (fun (z : Nat × Int × Nat × Nat × List Nat × AV) (h' : Hp) => lawback_l2 B0 B2 B3 B4 B5 B6 B7 z.1 z.2.1 z.2.2.1 z.2.2.2.1 z.2.2.2.2.1 = some o ∧ (z.2.2.2.1 < 256) ∧ (BIn G_102 k_102 z.2.2.2.2.2 z.2.2.2.2.1) ∧ Eng.Sep [OwnO 2 wB3 B3.length LB3, OwnO 1 wB6 B6.length (u8s B6), Cel b1001 [(vb8 z.2.2.2.1), z.2.2.2.2.2], Frz G_102 k_102] h') y h' ∧ (fun (z : Nat × Int × Nat × Nat × List Nat × AV) => z.1) y < (fun (z : Nat × Int × Nat × Nat × List Nat × AV) => z.1) (n, A9, A10, Q1001_0, Q1001_1, wQ1001_1_1)) (fun i ls h' => ∃ y, ls = ((fun (z : Nat × Int × Nat × Nat × List Nat × AV) => [(0, wB0_1), (2, (AV.bool B2)), (3, wB3), (4, (AV.int .i64 B4)), (5, (AV.bool B5)), (6, wB6), (7, (vi B7)), (8, (AV.ptr b1001 0)), (9, (AV.int .i64 z.2.1)), (10, (vi z.2.2.1))]) y).map (fun p => some p.2) ∧ (fun (i : Nat) (z : Nat × Int × Nat × Nat × List Nat × AV) (h' : Hp) => (i = 2) ∧ (i = 2 → o = (z.2.1, z.2.2.1, z.2.2.2.1, z.2.2.2.2.1) ∧ (z.2.2.2.1 < 256) ∧ (BIn G_102 k_102 z.2.2.2.2.2 z.2.2.2.2.1) ∧ Eng.Sep [OwnO 2 wB3 B3.length LB3, OwnO 1 wB6 B6.length (u8s B6), Cel b1001 [(vb8 z.2.2.2.1), z.2.2.2.2.2], Frz G_102 k_102] h')) i y h') (fun ls h' => (fun (ls : List (Option AV)) (h' : Hp) => False) ls h') s := by
  have hi : lawback_l2 B0 B2 B3 B4 B5 B6 B7 n A9 A10 Q1001_0 Q1001_1 = some o ∧ (Q1001_0 < 256) ∧ (BIn G_102 k_102 wQ1001_1_1 Q1001_1) ∧ Eng.Sep [OwnO 2 wB3 B3.length LB3, OwnO 1 wB6 B6.length (u8s B6), Cel b1001 [(vb8 Q1001_0), wQ1001_1_1], Frz G_102 k_102] h := hi
  obtain ⟨hp, fQ1001_0_1, fQ1001_1_2, S⟩ := hi
  obtain ⟨m, hm⟩ : ∃ m, n = m + 1 := by
    cases n with
    | zero => first | cases hp | (unfold lawback_l2 at hp; cases hp) | (simp [lawback_l2] at hp)
    | succ m => exact ⟨m, rfl⟩
  rw [hm] at hp
  unfold lawback_l2 at hp
  refine walk_ok (o := (.tell 2 (vi B6.length) (.fork 0 (.tell 2 (elemP wB6 A10 1) (.tell 0 (vb8 (B6.getD A10 0)) (.tell 1 (vb8 Q1001_0) (.fork 0 (.again 0 (.tell 3 (vi (A10 + 1)) .fin)) (.again 0 (.tell 1 (vi (A10 + 1)) .fin)))))) .fin))) (p := (fun (KN : List (Option AV) → Hp → Prop) (KE : Nat → List (Option AV) → Hp → Prop) (KR : List (Option AV) → Hp → Prop) => ((evQ (.lenL (.const wB6)) .lf H0 = .ok (vi B6.length) ∧ ((ltI (Int.ofNat A10) (Int.ofNat B6.length) = true → ((evQ (.idxAddrSl 1 (.const wB6) (.const (vi A10))) .lf H0 = .ok (elemP wB6 A10 1) ∧ ((evQ (.loadS (.const (elemP wB6 A10 1))) .lf h = .ok (vb8 (B6.getD A10 0)) ∧ ((evQ (.loadS (.const (AV.ptr b1001 0))) .lf h = .ok (vb8 Q1001_0) ∧ ((eqI (Int.ofNat (B6.getD A10 0)) (Int.ofNat Q1001_0) = true → ((again (.eq .int false (.const (vb8 (B6.getD A10 0))) (.const (vb8 Q1001_0))) .lf (AV.bool true) h = true ∧ again (.loadS (.const (AV.ptr b1001 0))) .lf (vb8 Q1001_0) h = true ∧ again (.fieldAddr 0 (.const (AV.ptr b1001 0))) .lf (AV.ptr b1001 0) h = true ∧ again (.loadS (.const (elemP wB6 A10 1))) .lf (vb8 (B6.getD A10 0)) h = true ∧ again (.idxAddrSl 1 (.const wB6) (.const (vi A10))) .lf (elemP wB6 A10 1) h = true ∧ again (.move (.const (vi A10))) .lf (vi A10) h = true ∧ again (.move (.const wB6)) .lf wB6 h = true ∧ True) ∧ ((evQ (.bin .add (.const (vi A10)) (.const (vi 1))) .lf H0 = .ok (vi (A10 + 1)) ∧ KN [some wB0_1, some (AV.bool B2), some wB3, some (AV.int .i64 B4), some (AV.bool B5), some wB6, some (vi B7), some (AV.ptr b1001 0), some (vi A10), some (vi (A10 + 1))] h)))) ∧ (eqI (Int.ofNat (B6.getD A10 0)) (Int.ofNat Q1001_0) = false → ((again (.eq .int false (.const (vb8 (B6.getD A10 0))) (.const (vb8 Q1001_0))) .lf (AV.bool false) h = true ∧ again (.loadS (.const (AV.ptr b1001 0))) .lf (vb8 Q1001_0) h = true ∧ again (.fieldAddr 0 (.const (AV.ptr b1001 0))) .lf (AV.ptr b1001 0) h = true ∧ again (.loadS (.const (elemP wB6 A10 1))) .lf (vb8 (B6.getD A10 0)) h = true ∧ again (.idxAddrSl 1 (.const wB6) (.const (vi A10))) .lf (elemP wB6 A10 1) h = true ∧ again (.move (.const (vi A10))) .lf (vi A10) h = true ∧ again (.move (.const wB6)) .lf wB6 h = true ∧ True) ∧ ((evQ (.bin .add (.const (vi A10)) (.const (vi 1))) .lf H0 = .ok (vi (A10 + 1)) ∧ KN [some wB0_1, some (AV.bool B2), some wB3, some (AV.int .i64 B4), some (AV.bool B5), some wB6, some (vi B7), some (AV.ptr b1001 0), some (AV.int .i64 A9), some (vi (A10 + 1))] h)))))))))))) ∧ (ltI (Int.ofNat A10) (Int.ofNat B6.length) = false → KE 2 [some wB0_1, some (AV.bool B2), some wB3, some (AV.int .i64 B4), some (AV.bool B5), some wB6, some (vi B7), some (AV.ptr b1001 0), some (AV.int .i64 A9), some (vi A10)] h))))) (fun ls h' => ∃ y, ls = ((fun (z : Nat × Int × Nat × Nat × List Nat × AV) => [(0, wB0_1), (2, (AV.bool B2)), (3, wB3), (4, (AV.int .i64 B4)), (5, (AV.bool B5)), (6, wB6), (7, (vi B7)), (8, (AV.ptr b1001 0)), (9, (AV.int .i64 z.2.1)), (10, (vi z.2.2.1))]) y).map (fun p => some p.2) ∧ (fun (z : Nat × Int × Nat × Nat × List Nat × AV) (h' : Hp) => lawback_l2 B0 B2 B3 B4 B5 B6 B7 z.1 z.2.1 z.2.2.1 z.2.2.2.1 z.2.2.2.2.1 = some o ∧ (z.2.2.2.1 < 256) ∧ (BIn G_102 k_102 z.2.2.2.2.2 z.2.2.2.2.1) ∧ Eng.Sep [OwnO 2 wB3 B3.length LB3, OwnO 1 wB6 B6.length (u8s B6), Cel b1001 [(vb8 z.2.2.2.1), z.2.2.2.2.2], Frz G_102 k_102] h') y h' ∧ (fun (z : Nat × Int × Nat × Nat × List Nat × AV) => z.1) y < (fun (z : Nat × Int × Nat × Nat × List Nat × AV) => z.1) (n, A9, A10, Q1001_0, Q1001_1, wQ1001_1_1)) (fun i ls h' => ∃ y, ls = ((fun (z : Nat × Int × Nat × Nat × List Nat × AV) => [(0, wB0_1), (2, (AV.bool B2)), (3, wB3), (4, (AV.int .i64 B4)), (5, (AV.bool B5)), (6, wB6), (7, (vi B7)), (8, (AV.ptr b1001 0)), (9, (AV.int .i64 z.2.1)), (10, (vi z.2.2.1))]) y).map (fun p => some p.2) ∧ (fun (i : Nat) (z : Nat × Int × Nat × Nat × List Nat × AV) (h' : Hp) => (i = 2) ∧ (i = 2 → o = (z.2.1, z.2.2.1, z.2.2.2.1, z.2.2.2.2.1) ∧ (z.2.2.2.1 < 256) ∧ (BIn G_102 k_102 z.2.2.2.2.2 z.2.2.2.2.1) ∧ Eng.Sep [OwnO 2 wB3 B3.length LB3, OwnO 1 wB6 B6.length (u8s B6), Cel b1001 [(vb8 z.2.2.2.1), z.2.2.2.2.2], Frz G_102 k_102] h')) i y h') (fun ls h' => (fun (ls : List (Option AV)) (h' : Hp) => False) ls h')) (by kernel_rfl) ?_
  refine ⟨own_len S (i := 1) rfl, ?_⟩
  refine ⟨fun c1 => ?_, fun c1 => ?_⟩
  · replace c1 := ltI_t c1
    replace hp := ift hp c1
    refine ⟨q_idxB (l := B6) (own_bytes S (i := 1) rfl fB6) c1, ?_⟩
    refine ⟨q_byte (l := B6) (own_bytes S (i := 1) rfl fB6) c1, ?_⟩
    refine ⟨cel_load S (i := 2) rfl rfl, ?_⟩
    refine ⟨fun c3 => ?_, fun c3 => ?_⟩
    · have rc3 := c3
      replace c3 := eqI_t c3
      replace hp := ift hp c3
      refine ⟨⟨again_of (congrArg (fun b => OV.ok (AV.bool b)) rc3) (avEq_bool _), again_of (cel_load S (i := 2) rfl rfl) (avEq_int _ _), again_of (rfl) (avEq_ptr _ _), again_of (q_byte (l := B6) (own_bytes S (i := 1) rfl fB6) c1) (avEq_int _ _), again_of (q_idxB (l := B6) (own_bytes S (i := 1) rfl fB6) c1) (elemP_same _ _ _), again_of (rfl) (avEq_int _ _), again_of (rfl) (own_same S (i := 1) rfl), trivial⟩, ?_⟩
      have ⟨g4, hp⟩ := gd_inv hp
      refine ⟨q_add g4, ?_⟩
      refine ⟨(m, ((A10 : Nat) : Int), A10 + 1, Q1001_0, Q1001_1, wQ1001_1_1), rfl, ⟨hp, fQ1001_0_1, fQ1001_1_2, S⟩, by show m < n; omega⟩
    have rc3 := c3
    replace c3 := eqI_f c3
    replace hp := iff0 hp (c3)
    refine ⟨⟨again_of (congrArg (fun b => OV.ok (AV.bool b)) rc3) (avEq_bool _), again_of (cel_load S (i := 2) rfl rfl) (avEq_int _ _), again_of (rfl) (avEq_ptr _ _), again_of (q_byte (l := B6) (own_bytes S (i := 1) rfl fB6) c1) (avEq_int _ _), again_of (q_idxB (l := B6) (own_bytes S (i := 1) rfl fB6) c1) (elemP_same _ _ _), again_of (rfl) (avEq_int _ _), again_of (rfl) (own_same S (i := 1) rfl), trivial⟩, ?_⟩
    have ⟨g4, hp⟩ := gd_inv hp
    refine ⟨q_add g4, ?_⟩
    refine ⟨(m, A9, A10 + 1, Q1001_0, Q1001_1, wQ1001_1_1), rfl, ⟨hp, fQ1001_0_1, fQ1001_1_2, S⟩, by show m < n; omega⟩
  replace c1 := ltI_f c1
  replace hp := iff0 hp (nltO c1)
  refine ⟨(m, A9, A10, Q1001_0, Q1001_1, wQ1001_1_1), rfl, rfl, fun _ => ⟨(Option.some.inj hp).symm, fQ1001_0_1, fQ1001_1_2, S⟩⟩
theorem lawback_l2_t {call : CallT} {N : Nat} {wB0_1 : AV} {wB3 : AV} {LB3 : List AV} {wB6 : AV} {b1001 : Nat} {G_102 : Nat → Prop} {k_102 : Hp} {B0 : List (Nat × List Nat)} {B2 : Bool} {B3 : List (Nat × List Nat)} {B4 : Int} {B5 : Bool} {B6 : List Nat} {B7 : Nat} (fB0_2 : SIn (rP (rU .u8) rY) G_102 k_102 wB0_1 B0) (fB3 : Eng.Rows (rP (rU .u8) rY) G_102 k_102 LB3 B3) (fB6 : ∀ x ∈ B6, x < 256) (h_begun : TrueS call 34) (h_split : C_split call) (h_join : C_join call) {o : Int × Nat × Nat × List Nat} {n : Nat} {A9 : Int} {A10 : Nat} {Q1001_0 : Nat} {Q1001_1 : List Nat} {wQ1001_1_1 : AV} {h : Hp} (hi : (fun (z : Nat × Int × Nat × Nat × List Nat × AV) (h' : Hp) => lawback_l2 B0 B2 B3 B4 B5 B6 B7 z.1 z.2.1 z.2.2.1 z.2.2.2.1 z.2.2.2.2.1 = some o ∧ (z.2.2.2.1 < 256) ∧ (BIn G_102 k_102 z.2.2.2.2.2 z.2.2.2.2.1) ∧ Eng.Sep [OwnO 2 wB3 B3.length LB3, OwnO 1 wB6 B6.length (u8s B6), Cel b1001 [(vb8 z.2.2.2.1), z.2.2.2.2.2], Frz G_102 k_102] h') (n, A9, A10, Q1001_0, Q1001_1, wQ1001_1_1) h) (hN : n < N) (hN' : 90000 < N) {t : T} (ht : Has ((fun (z : Nat × Int × Nat × Nat × List Nat × AV) => [(0, wB0_1), (2, (AV.bool B2)), (3, wB3), (4, (AV.int .i64 B4)), (5, (AV.bool B5)), (6, wB6), (7, (vi B7)), (8, (AV.ptr b1001 0)), (9, (AV.int .i64 z.2.1)), (10, (vi z.2.2.1))]) (n, A9, A10, Q1001_0, Q1001_1, wQ1001_1_1)) t) :
    (∃ i y t' h', evC call N (.loop lawback_l2C) t h = .exit i t' h' ∧ Has ((fun (z : Nat × Int × Nat × Nat × List Nat × AV) => [(0, wB0_1), (2, (AV.bool B2)), (3, wB3), (4, (AV.int .i64 B4)), (5, (AV.bool B5)), (6, wB6), (7, (vi B7)), (8, (AV.ptr b1001 0)), (9, (AV.int .i64 z.2.1)), (10, (vi z.2.2.1))]) y) t' ∧ (fun (i : Nat) (z : Nat × Int × Nat × Nat × List Nat × AV) (h' : Hp) => (i = 2) ∧ (i = 2 → o = (z.2.1, z.2.2.1, z.2.2.2.1, z.2.2.2.2.1) ∧ (z.2.2.2.1 < 256) ∧ (BIn G_102 k_102 z.2.2.2.2.2 z.2.2.2.2.1) ∧ Eng.Sep [OwnO 2 wB3 B3.length LB3, OwnO 1 wB6 B6.length (u8s B6), Cel b1001 [(vb8 z.2.2.2.1), z.2.2.2.2.2], Frz G_102 k_102] h')) i y h') ∨ (∃ t' h', evC call N (.loop lawback_l2C) t h = .ret t' h' ∧ (fun (ls : List (Option AV)) (h' : Hp) => False) (slots [0, 2, 3, 4, 5, 6, 7, 8, 9, 10] t') h') :=
  loop_st (fun (z : Nat × Int × Nat × Nat × List Nat × AV) => [(0, wB0_1), (2, (AV.bool B2)), (3, wB3), (4, (AV.int .i64 B4)), (5, (AV.bool B5)), (6, wB6), (7, (vi B7)), (8, (AV.ptr b1001 0)), (9, (AV.int .i64 z.2.1)), (10, (vi z.2.2.1))]) [0, 2, 3, 4, 5, 6, 7, 8, 9, 10] (fun _ => rfl) (fun (z : Nat × Int × Nat × Nat × List Nat × AV) (h' : Hp) => lawback_l2 B0 B2 B3 B4 B5 B6 B7 z.1 z.2.1 z.2.2.1 z.2.2.2.1 z.2.2.2.2.1 = some o ∧ (z.2.2.2.1 < 256) ∧ (BIn G_102 k_102 z.2.2.2.2.2 z.2.2.2.2.1) ∧ Eng.Sep [OwnO 2 wB3 B3.length LB3, OwnO 1 wB6 B6.length (u8s B6), Cel b1001 [(vb8 z.2.2.2.1), z.2.2.2.2.2], Frz G_102 k_102] h') (fun (z : Nat × Int × Nat × Nat × List Nat × AV) => z.1) (fun (i : Nat) (z : Nat × Int × Nat × Nat × List Nat × AV) (h' : Hp) => (i = 2) ∧ (i = 2 → o = (z.2.1, z.2.2.1, z.2.2.2.1, z.2.2.2.2.1) ∧ (z.2.2.2.1 < 256) ∧ (BIn G_102 k_102 z.2.2.2.2.2 z.2.2.2.2.1) ∧ Eng.Sep [OwnO 2 wB3 B3.length LB3, OwnO 1 wB6 B6.length (u8s B6), Cel b1001 [(vb8 z.2.2.2.1), z.2.2.2.2.2], Frz G_102 k_102] h')) (fun (ls : List (Option AV)) (h' : Hp) => False) (fun ⟨n, A9, A10, Q1001_0, Q1001_1, wQ1001_1_1⟩ t h hi => lawback_l2_body fB0_2 fB3 fB6 h_begun h_split h_join hN' hi) (n, A9, A10, Q1001_0, Q1001_1, wQ1001_1_1) h hi hN t ht
noncomputable def lawback_l1 (B0 : List (Nat × List Nat)) (B6 : List Nat) : Nat → Bool → List (Nat × List Nat) → Int → Bool → Nat → Option (LO (Bool × List (Nat × List Nat) × Int × Bool × Nat) (Bool))
  | 0, _, _, _, _, _ => none
  | m + 1, A2, A3, A4, A5, A7 =>
    (if A7 < B0.length then (if 30 < ((B0.getD A7 default).2).length then (some (LO.rt true)) else
    (if (B0.getD A7 default).1 = 0 then (gd (2 + (((B0.getD A7 default).2).length) ≤ 70368744177664) (gd ((A3.length + 1) * 32 ≤ 70368744177664) (gd (A7 + 1 < 9223372036854775808) (lawback_l1 B0 B6 m A2 (A3 ++ [((B0.getD A7 default).1, [1, 97] ++ ((B0.getD A7 default).2))]) A4 A5 (A7 + 1))))) else
    (ob (lawback_l2 B0 A2 A3 A4 A5 B6 A7 90000 (-1 : Int) 0 ((B0.getD A7 default).1) ((B0.getD A7 default).2)) fun o12 =>
    (if A5 = true then (gd ((A3.length + 1) * 32 ≤ 70368744177664) (gd (A7 + 1 < 9223372036854775808) (lawback_l1 B0 B6 m A2 (A3 ++ [(o12.2.2.1, o12.2.2.2)]) (max A4 o12.1) (ltI A4 o12.1) (A7 + 1)))) else
    (gd ((A3.length + 1) * 32 ≤ 70368744177664) (gd (A7 + 1 < 9223372036854775808) (lawback_l1 B0 B6 m A2 (A3 ++ [(o12.2.2.1, o12.2.2.2)]) (max A4 o12.1) false (A7 + 1)))))))) else
    (some (LO.ex (A2, A3, A4, A5, A7))))
noncomputable def lawback_l1C : AC := (.seq (.seq (.region [⟨(some 20), .q (.move (.tmp 7)), none⟩, ⟨(some 21), .q (.move (.tmp 0)), none⟩, ⟨(some 22), .q (.lenL (.tmp 21)), none⟩, ⟨(some 23), .q (.bin .lss (.tmp 20) (.tmp 22)), none⟩]) (.cond (.tmp 23) .skip (.exit 0))) (.seq (.block 1 (.seq (.seq (.region [⟨(some 26), .q (.move (.tmp 0)), none⟩, ⟨(some 27), .q (.move (.tmp 7)), none⟩, ⟨(some 28), .q (.idxAddrSl 2 (.tmp 26) (.tmp 27)), none⟩, ⟨(some 29), .q (.fieldAddr 1 (.tmp 28)), none⟩, ⟨(some 30), .q (.loadS (.tmp 29)), none⟩, ⟨(some 31), .q (.lenL (.tmp 30)), none⟩, ⟨(some 32), .q (.bin .gtr (.tmp 31) (.const (vi 30))), none⟩]) (.cond (.tmp 32) (.seq (.region [⟨(some 2), .q (.move (.const (AV.bool true))), none⟩]) .ret) .skip)) (.seq (.drawn [⟨[(⟨(some 33), .q (.move (.tmp 0)), none⟩, 0), (⟨(some 34), .q (.move (.tmp 7)), none⟩, 0), (⟨(some 35), .q (.idxAddrSl 2 (.tmp 33) (.tmp 34)), none⟩, 0), (⟨(some 36), .q (.fieldAddr 0 (.tmp 35)), none⟩, 0), (⟨(some 37), .q (.loadS (.tmp 36)), none⟩, 0), (⟨(some 38), .q (.move (.tmp 0)), none⟩, 0), (⟨(some 39), .q (.move (.tmp 7)), none⟩, 0), (⟨(some 40), .q (.idxAddrSl 2 (.tmp 38) (.tmp 39)), none⟩, 0), (⟨(some 41), .q (.fieldAddr 1 (.tmp 40)), none⟩, 0), (⟨(some 42), .q (.loadS (.tmp 41)), none⟩, 0), (⟨(some 43), .q (.build [(vb8 0), AV.nilSlice] [(0, 1, (.tmp 37)), (1, 1, (.tmp 42))]), none⟩, 0), (⟨(some 8), .l (.alloc [(vb8 0), AV.nilSlice]), none⟩, 0)], (some ⟨none, .e (.store 2 (.tmp 8) (.tmp 43)), none⟩)⟩, ⟨[], none⟩]) (.seq (.seq (.region [⟨(some 44), .q (.fieldAddr 0 (.tmp 8)), none⟩, ⟨(some 45), .q (.loadS (.tmp 44)), none⟩, ⟨(some 46), .q (.eq .int false (.tmp 45) (.const (vb8 0))), none⟩]) (.cond (.tmp 46) (.region [⟨(some 47), .l (.buildSlice 1 2 [(vb8 0)] [(0, 1, (.const (vb8 1))), (1, 1, (.const (vb8 97)))]), none⟩, ⟨(some 48), .q (.fieldAddr 1 (.tmp 8)), none⟩, ⟨(some 49), .q (.loadS (.tmp 48)), none⟩, ⟨(some 50), .e (.append 1 1 (.tmp 47) (.tmp 49)), none⟩, ⟨(some 51), .q (.fieldAddr 1 (.tmp 8)), none⟩, ⟨none, .e (.store 1 (.tmp 51) (.tmp 50)), none⟩]) (.seq (.region [⟨(some 9), .q (.move (.const (AV.int .i64 (Int.negSucc 0)))), none⟩]) (.seq (.seq (.region [⟨(some 10), .q (.move (.const (vi 0))), none⟩]) (.block 2 (.loop (.seq (.seq (.region [⟨(some 52), .q (.move (.tmp 10)), none⟩, ⟨(some 53), .q (.move (.tmp 6)), none⟩, ⟨(some 54), .q (.lenL (.tmp 53)), none⟩, ⟨(some 55), .q (.bin .lss (.tmp 52) (.tmp 54)), none⟩]) (.cond (.tmp 55) .skip (.exit 2))) (.seq (.block 3 (.seq (.drawn [⟨[(⟨(some 58), .q (.move (.tmp 6)), none⟩, 0), (⟨(some 59), .q (.move (.tmp 10)), none⟩, 0), (⟨(some 60), .q (.idxAddrSl 1 (.tmp 58) (.tmp 59)), none⟩, 0), (⟨(some 61), .q (.loadS (.tmp 60)), none⟩, 0), (⟨(some 62), .q (.fieldAddr 0 (.tmp 8)), none⟩, 0), (⟨(some 63), .q (.loadS (.tmp 62)), none⟩, 0), (⟨(some 64), .q (.eq .int false (.tmp 61) (.tmp 63)), none⟩, 0)], none⟩]) (.cond (.tmp 64) (.region [⟨(some 65), .q (.move (.tmp 10)), none⟩, ⟨(some 9), .q (.move (.tmp 65)), none⟩]) .skip))) (.region [⟨(some 56), .q (.move (.tmp 10)), none⟩, ⟨(some 57), .q (.bin .add (.tmp 56) (.const (vi 1))), none⟩, ⟨(some 10), .q (.move (.tmp 57)), none⟩])))))) (.seq (.region [⟨(some 66), .q (.move (.tmp 5)), none⟩, ⟨(some 67), .q (.move (.tmp 66)), none⟩, ⟨(some 68), .q (.move (.tmp 9)), (some (67, true))⟩, ⟨(some 69), .q (.move (.tmp 4)), (some (67, true))⟩, ⟨(some 70), .q (.bin .gtr (.tmp 68) (.tmp 69)), (some (67, true))⟩, ⟨(some 71), .q (.pick (.tmp 67) (.tmp 70) (.const (AV.bool false))), none⟩, ⟨(some 5), .q (.move (.tmp 71)), none⟩]) (.region [⟨(some 72), .q (.move (.tmp 4)), none⟩, ⟨(some 73), .q (.move (.tmp 9)), none⟩, ⟨(some 74), .q (.mx [(.tmp 72), (.tmp 73)]), none⟩, ⟨(some 4), .q (.move (.tmp 74)), none⟩])))))) (.region [⟨(some 75), .q (.move (.tmp 3)), none⟩, ⟨(some 76), .q (.loadA 2 (.tmp 8)), none⟩, ⟨(some 77), .l (.buildSlice 2 1 [(vb8 0), AV.nilSlice] [(0, 2, (.tmp 76))]), none⟩, ⟨(some 78), .e (.append 2 32 (.tmp 75) (.tmp 77)), none⟩, ⟨(some 3), .q (.move (.tmp 78)), none⟩]))))) (.region [⟨(some 24), .q (.move (.tmp 7)), none⟩, ⟨(some 25), .q (.bin .add (.tmp 24) (.const (vi 1))), none⟩, ⟨(some 7), .q (.move (.tmp 25)), none⟩])))
theorem lawback_l1_body {call : CallT} {N : Nat} {t : T} {h : Hp} {wB0_1 : AV} {wB6 : AV} {ZG_102 : Nat → Prop} {Zk_102 : Hp} {B0 : List (Nat × List Nat)} {B6 : List Nat} (fB0_2 : SIn (rP (rU .u8) rY) ZG_102 Zk_102 wB0_1 B0) (fB6 : ∀ x ∈ B6, x < 256) (h_begun : TrueS call 34) (h_split : C_split call) (h_join : C_join call) {o : LO (Bool × List (Nat × List Nat) × Int × Bool × Nat) (Bool)} {n : Nat} {A2 : Bool} {A3 : List (Nat × List Nat)} {A4 : Int} {A5 : Bool} {A7 : Nat} {wA3 : AV} {LA3 : List AV} {G_102 : Nat → Prop} {k_102 : Hp} (hN : 90000 < N) (hi : (fun (z : Nat × Bool × List (Nat × List Nat) × Int × Bool × Nat × AV × List AV × (Nat → Prop) × Hp) (h' : Hp) => lawback_l1 B0 B6 z.1 z.2.1 z.2.2.1 z.2.2.2.1 z.2.2.2.2.1 z.2.2.2.2.2.1 = some o ∧ (Eng.Rows (rP (rU .u8) rY) z.2.2.2.2.2.2.2.2.1 z.2.2.2.2.2.2.2.2.2 z.2.2.2.2.2.2.2.1 z.2.2.1) ∧ (Up ZG_102 Zk_102 z.2.2.2.2.2.2.2.2.1 z.2.2.2.2.2.2.2.2.2) ∧ Eng.Sep [OwnO 2 z.2.2.2.2.2.2.1 z.2.2.1.length z.2.2.2.2.2.2.2.1, OwnO 1 wB6 B6.length (u8s B6), Frz z.2.2.2.2.2.2.2.2.1 z.2.2.2.2.2.2.2.2.2] h') (n, A2, A3, A4, A5, A7, wA3, LA3, G_102, k_102) h)
    : ∃ s, evC call N lawback_l1C (ovT [(0, wB0_1), (2, (AV.bool A2)), (3, wA3), (4, (AV.int .i64 A4)), (5, (AV.bool A5)), (6, wB6), (7, (vi A7))] t) h = s ∧ obsS [0, 2, 3, 4, 5, 6, 7] (fun ls h' => ∃ y, ls = ((fun (z : Nat × Bool × List (Nat × List Nat) × Int × Bool × Nat × AV × List AV × (Nat → Prop) × Hp) => [(0, wB0_1), (2, (AV.bool z.2.1)), (3, z.2.2.2.2.2.2.1), (4, (AV.int .i64 z.2.2.2.1)), (5, (AV.bool z.2.2.2.2.1)), (6, wB6), (7, (vi z.2.2.2.2.2.1))]) y).map (fun p => some p.2) ∧ (fun (z : Nat × Bool × List (Nat × List Nat) × Int × Bool × Nat × AV × List AV × (Nat → Prop) × Hp) (h' : Hp) => lawback_l1 B0 B6 z.1 z.2.1 z.2.2.1 z.2.2.2.1 z.2.2.2.2.1 z.2.2.2.2.2.1 = some o ∧ (Eng.Rows (rP (rU .u8) rY) z.2.2.2.2.2.2.2.2.1 z.2.2.2.2.2.2.2.2.2 z.2.2.2.2.2.2.2.1 z.2.2.1) ∧ (Up ZG_102 Zk_102 z.2.2.2.2.2.2.2.2.1 z.2.2.2.2.2.2.2.2.2) ∧ Eng.Sep [OwnO 2 z.2.2.2.2.2.2.1 z.2.2.1.length z.2.2.2.2.2.2.2.1, OwnO 1 wB6 B6.length (u8s B6), Frz z.2.2.2.2.2.2.2.2.1 z.2.2.2.2.2.2.2.2.2] h') y h' ∧ (fun (z : Nat × Bool × List (Nat × List Nat) × Int × Bool × Nat × AV × List AV × (Nat → Prop) × Hp) => z.1) y < (fun (z : Nat × Bool × List (Nat × List Nat) × Int × Bool × Nat × AV × List AV × (Nat → Prop) × Hp) => z.1) (n, A2, A3, A4, A5, A7, wA3, LA3, G_102, k_102)) (fun i ls h' => ∃ y, ls = ((fun (z : Nat × Bool × List (Nat × List Nat) × Int × Bool × Nat × AV × List AV × (Nat → Prop) × Hp) => [(0, wB0_1), (2, (AV.bool z.2.1)), (3, z.2.2.2.2.2.2.1), (4, (AV.int .i64 z.2.2.2.1)), (5, (AV.bool z.2.2.2.2.1)), (6, wB6), (7, (vi z.2.2.2.2.2.1))]) y).map (fun p => some p.2) ∧ (fun (i : Nat) (z : Nat × Bool × List (Nat × List Nat) × Int × Bool × Nat × AV × List AV × (Nat → Prop) × Hp) (h' : Hp) => (i = 0) ∧ (i = 0 → o = LO.ex (z.2.1, z.2.2.1, z.2.2.2.1, z.2.2.2.2.1, z.2.2.2.2.2.1) ∧ (Eng.Rows (rP (rU .u8) rY) z.2.2.2.2.2.2.2.2.1 z.2.2.2.2.2.2.2.2.2 z.2.2.2.2.2.2.2.1 z.2.2.1) ∧ (Up ZG_102 Zk_102 z.2.2.2.2.2.2.2.2.1 z.2.2.2.2.2.2.2.2.2) ∧ Eng.Sep [OwnO 2 z.2.2.2.2.2.2.1 z.2.2.1.length z.2.2.2.2.2.2.2.1, OwnO 1 wB6 B6.length (u8s B6), Frz z.2.2.2.2.2.2.2.2.1 z.2.2.2.2.2.2.2.2.2] h')) i y h') (fun ls h' => (fun (ls : List (Option AV)) (h' : Hp) => ∃ (rt : Bool) (v2 : AV), o = LO.rt rt ∧ ls[1]? = some (some v2) ∧ (v2 = (AV.bool rt))) ls h') s := by
  have hi : lawback_l1 B0 B6 n A2 A3 A4 A5 A7 = some o ∧ (Eng.Rows (rP (rU .u8) rY) G_102 k_102 LA3 A3) ∧ (Up ZG_102 Zk_102 G_102 k_102) ∧ Eng.Sep [OwnO 2 wA3 A3.length LA3, OwnO 1 wB6 B6.length (u8s B6), Frz G_102 k_102] h := hi
  obtain ⟨hp, fA3, fU_102, S⟩ := hi
  obtain ⟨m, hm⟩ : ∃ m, n = m + 1 := by
    cases n with
    | zero => first | cases hp | (unfold lawback_l1 at hp; cases hp) | (simp [lawback_l1] at hp)
    | succ m => exact ⟨m, rfl⟩
  rw [hm] at hp
  unfold lawback_l1 at hp
  refine walk_ok (o := (.tell 2 (vi B0.length) (.fork 0 (.exi 2 fun (w3 : AV) => (.tell 0 (elemP wB0_1 A7 2) (.tell 0 (elemO wB0_1 A7 2 1) (.tell 0 w3 (.tell 0 (vi (((B0.getD A7 default).2).length)) (.fork 0 .fin (.tell 2 (elemP wB0_1 A7 2) (.tell 0 (elemO wB0_1 A7 2 0) (.tell 0 (vb8 ((B0.getD A7 default).1)) (.tell 2 (elemP wB0_1 A7 2) (.tell 0 (elemO wB0_1 A7 2 1) (.tell 0 w3 (.tell 0 (AV.agg [(vb8 ((B0.getD A7 default).1)), w3]) (.again 1 (.effx 0 (fun e8 => (AV.tuple [])) (fun e8 => (.tell 2 (vb8 ((B0.getD A7 default).1)) (.fork 0 (.tell 2 w3 (.effx 0 (fun e12 => e12.v) (fun e12 => (.effx 1 (fun e16 => (AV.tuple [])) (fun e16 => (.tell 1 (AV.agg [(vb8 ((B0.getD A7 default).1)), e12.v]) (.ell 0 (.sl 1 1 2 true) (mkCells [(vb8 ((B0.getD A7 default).1)), e12.v] 2) (.effx 0 (fun e19 => e19.v) (fun e19 => (.tell 2 (vi (A7 + 1)) .fin)))))))))) (.exi 2 fun (A9o12 : Int) => (.exi 0 fun (A10o12 : Nat) => (.exi 0 fun (Q1001_0o12 : Nat) => (.exi 0 fun (Q1001_1o12 : List Nat) => (.exi 0 fun (wQ1001_1_1o12 : AV) => (.exi 0 fun (t15 : T) => (.exi 0 fun (h16 : Hp) => (.lp 0 (.exit 2 (ovT [(0, wB0_1), (2, (AV.bool A2)), (3, wA3), (4, (AV.int .i64 A4)), (5, (AV.bool A5)), (6, wB6), (7, (vi A7)), (8, (AV.ptr (Hp.next h) 0)), (9, (AV.int .i64 A9o12)), (10, (vi A10o12))] t15) h16) (.fork 1 (.tell 7 (AV.int .i64 (max A4 A9o12)) (.tell 2 (AV.agg [(vb8 Q1001_0o12), wQ1001_1_1o12]) (.ell 0 (.sl 1 1 2 true) (mkCells [(vb8 Q1001_0o12), wQ1001_1_1o12] 2) (.effx 0 (fun e22 => e22.v) (fun e22 => (.tell 2 (vi (A7 + 1)) .fin)))))) (.tell 4 (AV.int .i64 (max A4 A9o12)) (.tell 2 (AV.agg [(vb8 Q1001_0o12), wQ1001_1_1o12]) (.ell 0 (.sl 1 1 2 true) (mkCells [(vb8 Q1001_0o12), wQ1001_1_1o12] 2) (.effx 0 (fun e22 => e22.v) (fun e22 => (.tell 2 (vi (A7 + 1)) .fin))))))))))))))))))))))))))))))))) .fin))) (p := (fun (KN : List (Option AV) → Hp → Prop) (KE : Nat → List (Option AV) → Hp → Prop) (KR : List (Option AV) → Hp → Prop) => ((evQ (.lenL (.const wB0_1)) .lf H0 = .ok (vi B0.length) ∧ ((ltI (Int.ofNat A7) (Int.ofNat B0.length) = true → (∃ w3 : AV, (evQ (.idxAddrSl 2 (.const wB0_1) (.const (vi A7))) .lf H0 = .ok (elemP wB0_1 A7 2) ∧ ((evQ (.fieldAddr 1 (.const (elemP wB0_1 A7 2))) .lf H0 = .ok (elemO wB0_1 A7 2 1) ∧ ((evQ (.loadS (.const (elemO wB0_1 A7 2 1))) .lf h = .ok w3 ∧ ((evQ (.lenL (.const w3)) .lf H0 = .ok (vi (((B0.getD A7 default).2).length)) ∧ ((ltI (Int.ofNat 30) (Int.ofNat (((B0.getD A7 default).2).length)) = true → KR [some wB0_1, some (AV.bool true), some wA3, some (AV.int .i64 A4), some (AV.bool A5), some wB6, some (vi A7)] h) ∧ (ltI (Int.ofNat 30) (Int.ofNat (((B0.getD A7 default).2).length)) = false → ((evQ (.idxAddrSl 2 (.const wB0_1) (.const (vi A7))) .lf H0 = .ok (elemP wB0_1 A7 2) ∧ ((evQ (.fieldAddr 0 (.const (elemP wB0_1 A7 2))) .lf H0 = .ok (elemO wB0_1 A7 2 0) ∧ ((evQ (.loadS (.const (elemO wB0_1 A7 2 0))) .lf h = .ok (vb8 ((B0.getD A7 default).1)) ∧ ((evQ (.idxAddrSl 2 (.const wB0_1) (.const (vi A7))) .lf H0 = .ok (elemP wB0_1 A7 2) ∧ ((evQ (.fieldAddr 1 (.const (elemP wB0_1 A7 2))) .lf H0 = .ok (elemO wB0_1 A7 2 1) ∧ ((evQ (.loadS (.const (elemO wB0_1 A7 2 1))) .lf h = .ok w3 ∧ ((evQ (.build [(vb8 0), AV.nilSlice] [(0, 1, (.const (vb8 ((B0.getD A7 default).1)))), (1, 1, (.const w3))]) .lf H0 = .ok (AV.agg [(vb8 ((B0.getD A7 default).1)), w3]) ∧ ((again (.build [(vb8 0), AV.nilSlice] [(0, 1, (.const (vb8 ((B0.getD A7 default).1)))), (1, 1, (.const w3))]) .lf (AV.agg [(vb8 ((B0.getD A7 default).1)), w3]) (hpush h (mkCells [(vb8 0), AV.nilSlice] 2)) = true ∧ again (.loadS (.const (elemO wB0_1 A7 2 1))) .lf w3 (hpush h (mkCells [(vb8 0), AV.nilSlice] 2)) = true ∧ again (.fieldAddr 1 (.const (elemP wB0_1 A7 2))) .lf (elemO wB0_1 A7 2 1) (hpush h (mkCells [(vb8 0), AV.nilSlice] 2)) = true ∧ again (.idxAddrSl 2 (.const wB0_1) (.const (vi A7))) .lf (elemP wB0_1 A7 2) (hpush h (mkCells [(vb8 0), AV.nilSlice] 2)) = true ∧ again (.move (.const (vi A7))) .lf (vi A7) (hpush h (mkCells [(vb8 0), AV.nilSlice] 2)) = true ∧ again (.move (.const wB0_1)) .lf wB0_1 (hpush h (mkCells [(vb8 0), AV.nilSlice] 2)) = true ∧ again (.loadS (.const (elemO wB0_1 A7 2 0))) .lf (vb8 ((B0.getD A7 default).1)) (hpush h (mkCells [(vb8 0), AV.nilSlice] 2)) = true ∧ again (.fieldAddr 0 (.const (elemP wB0_1 A7 2))) .lf (elemO wB0_1 A7 2 0) (hpush h (mkCells [(vb8 0), AV.nilSlice] 2)) = true ∧ again (.idxAddrSl 2 (.const wB0_1) (.const (vi A7))) .lf (elemP wB0_1 A7 2) (hpush h (mkCells [(vb8 0), AV.nilSlice] 2)) = true ∧ again (.move (.const (vi A7))) .lf (vi A7) (hpush h (mkCells [(vb8 0), AV.nilSlice] 2)) = true ∧ again (.move (.const wB0_1)) .lf wB0_1 (hpush h (mkCells [(vb8 0), AV.nilSlice] 2)) = true ∧ True) ∧ (∃ e8 : Ev, evE (.store 2 (.const (AV.ptr (Hp.next h) 0)) (.const (AV.agg [(vb8 ((B0.getD A7 default).1)), w3]))) call .lf (hpush h (mkCells [(vb8 0), AV.nilSlice] 2)) = .ok (AV.tuple []) e8.h ∧ ((evQ (.loadS (.const (AV.ptr (Hp.next h) 0))) .lf e8.h = .ok (vb8 ((B0.getD A7 default).1)) ∧ ((eqI (Int.ofNat ((B0.getD A7 default).1)) (Int.ofNat 0) = true → ((evQ (.loadS (.const (AV.ptr (Hp.next h) 1))) .lf (hpush e8.h (mkCells [(vb8 1), (vb8 97)] 2)) = .ok w3 ∧ (∃ e12 : Ev, evE (.append 1 1 (.const (AV.slice (Hp.next e8.h) 0 2 2 1 true)) (.const w3)) call .lf (hpush e8.h (mkCells [(vb8 1), (vb8 97)] 2)) = .ok e12.v e12.h ∧ (∃ e16 : Ev, evE (.store 1 (.const (AV.ptr (Hp.next h) 1)) (.const e12.v)) call .lf e12.h = .ok (AV.tuple []) e16.h ∧ ((evQ (.loadA 2 (.const (AV.ptr (Hp.next h) 0))) .lf e16.h = .ok (AV.agg [(vb8 ((B0.getD A7 default).1)), e12.v]) ∧ (evL (.buildSlice 2 1 [(vb8 0), AV.nilSlice] [(0, 2, (.const (AV.agg [(vb8 ((B0.getD A7 default).1)), e12.v])))]) .lf = .ok (.sl 1 1 2 true) (mkCells [(vb8 ((B0.getD A7 default).1)), e12.v] 2) ∧ (∃ e19 : Ev, evE (.append 2 32 (.const wA3) (.const (AV.slice (Hp.next e16.h) 0 1 1 2 true))) call .lf (hpush e16.h (mkCells [(vb8 ((B0.getD A7 default).1)), e12.v] 2)) = .ok e19.v e19.h ∧ ((evQ (.bin .add (.const (vi A7)) (.const (vi 1))) .lf H0 = .ok (vi (A7 + 1)) ∧ KN [some wB0_1, some (AV.bool A2), some e19.v, some (AV.int .i64 A4), some (AV.bool A5), some wB6, some (vi (A7 + 1))] e19.h))))))))))) ∧ (eqI (Int.ofNat ((B0.getD A7 default).1)) (Int.ofNat 0) = false → (∃ A9o12 : Int, ∃ A10o12 : Nat, ∃ Q1001_0o12 : Nat, ∃ Q1001_1o12 : List Nat, ∃ wQ1001_1_1o12 : AV, ∃ t15 : T, ∃ h16 : Hp, (evC call N (.loop lawback_l2C) (ovT [(0, wB0_1), (2, (AV.bool A2)), (3, wA3), (4, (AV.int .i64 A4)), (5, (AV.bool A5)), (6, wB6), (7, (vi A7)), (8, (AV.ptr (Hp.next h) 0)), (9, (AV.int .i64 (Int.negSucc 0))), (10, (vi 0)), (20, (vi A7)), (21, wB0_1), (22, (vi B0.length)), (23, (AV.bool true)), (26, wB0_1), (27, (vi A7)), (28, (elemP wB0_1 A7 2)), (29, (elemO wB0_1 A7 2 1)), (30, w3), (31, (vi (((B0.getD A7 default).2).length))), (32, (AV.bool false)), (33, wB0_1), (34, (vi A7)), (35, (elemP wB0_1 A7 2)), (36, (elemO wB0_1 A7 2 0)), (37, (vb8 ((B0.getD A7 default).1))), (38, wB0_1), (39, (vi A7)), (40, (elemP wB0_1 A7 2)), (41, (elemO wB0_1 A7 2 1)), (42, w3), (43, (AV.agg [(vb8 ((B0.getD A7 default).1)), w3])), (44, (AV.ptr (Hp.next h) 0)), (45, (vb8 ((B0.getD A7 default).1))), (46, (AV.bool false))] t) e8.h = (.exit 2 (ovT [(0, wB0_1), (2, (AV.bool A2)), (3, wA3), (4, (AV.int .i64 A4)), (5, (AV.bool A5)), (6, wB6), (7, (vi A7)), (8, (AV.ptr (Hp.next h) 0)), (9, (AV.int .i64 A9o12)), (10, (vi A10o12))] t15) h16) ∧ True ∧ ((A5 = true → ((evQ (.mx [.const (AV.int .i64 A4), .const (AV.int .i64 A9o12)]) .lf H0 = .ok (AV.int .i64 (max A4 A9o12)) ∧ ((evQ (.loadA 2 (.const (AV.ptr (Hp.next h) 0))) .lf h16 = .ok (AV.agg [(vb8 Q1001_0o12), wQ1001_1_1o12]) ∧ (evL (.buildSlice 2 1 [(vb8 0), AV.nilSlice] [(0, 2, (.const (AV.agg [(vb8 Q1001_0o12), wQ1001_1_1o12])))]) .lf = .ok (.sl 1 1 2 true) (mkCells [(vb8 Q1001_0o12), wQ1001_1_1o12] 2) ∧ (∃ e22 : Ev, evE (.append 2 32 (.const wA3) (.const (AV.slice (Hp.next h16) 0 1 1 2 true))) call .lf (hpush h16 (mkCells [(vb8 Q1001_0o12), wQ1001_1_1o12] 2)) = .ok e22.v e22.h ∧ ((evQ (.bin .add (.const (vi A7)) (.const (vi 1))) .lf H0 = .ok (vi (A7 + 1)) ∧ KN [some wB0_1, some (AV.bool A2), some e22.v, some (AV.int .i64 (max A4 A9o12)), some (AV.bool (ltI A4 A9o12)), some wB6, some (vi (A7 + 1))] e22.h))))))))) ∧ (A5 = false → ((evQ (.mx [.const (AV.int .i64 A4), .const (AV.int .i64 A9o12)]) .lf H0 = .ok (AV.int .i64 (max A4 A9o12)) ∧ ((evQ (.loadA 2 (.const (AV.ptr (Hp.next h) 0))) .lf h16 = .ok (AV.agg [(vb8 Q1001_0o12), wQ1001_1_1o12]) ∧ (evL (.buildSlice 2 1 [(vb8 0), AV.nilSlice] [(0, 2, (.const (AV.agg [(vb8 Q1001_0o12), wQ1001_1_1o12])))]) .lf = .ok (.sl 1 1 2 true) (mkCells [(vb8 Q1001_0o12), wQ1001_1_1o12] 2) ∧ (∃ e22 : Ev, evE (.append 2 32 (.const wA3) (.const (AV.slice (Hp.next h16) 0 1 1 2 true))) call .lf (hpush h16 (mkCells [(vb8 Q1001_0o12), wQ1001_1_1o12] 2)) = .ok e22.v e22.h ∧ ((evQ (.bin .add (.const (vi A7)) (.const (vi 1))) .lf H0 = .ok (vi (A7 + 1)) ∧ KN [some wB0_1, some (AV.bool A2), some e22.v, some (AV.int .i64 (max A4 A9o12)), some (AV.bool false), some wB6, some (vi (A7 + 1))] e22.h))))))))))))))))))))))))))))))))))))))))))) ∧ (ltI (Int.ofNat A7) (Int.ofNat B0.length) = false → KE 0 [some wB0_1, some (AV.bool A2), some wA3, some (AV.int .i64 A4), some (AV.bool A5), some wB6, some (vi A7)] h))))) (fun ls h' => ∃ y, ls = ((fun (z : Nat × Bool × List (Nat × List Nat) × Int × Bool × Nat × AV × List AV × (Nat → Prop) × Hp) => [(0, wB0_1), (2, (AV.bool z.2.1)), (3, z.2.2.2.2.2.2.1), (4, (AV.int .i64 z.2.2.2.1)), (5, (AV.bool z.2.2.2.2.1)), (6, wB6), (7, (vi z.2.2.2.2.2.1))]) y).map (fun p => some p.2) ∧ (fun (z : Nat × Bool × List (Nat × List Nat) × Int × Bool × Nat × AV × List AV × (Nat → Prop) × Hp) (h' : Hp) => lawback_l1 B0 B6 z.1 z.2.1 z.2.2.1 z.2.2.2.1 z.2.2.2.2.1 z.2.2.2.2.2.1 = some o ∧ (Eng.Rows (rP (rU .u8) rY) z.2.2.2.2.2.2.2.2.1 z.2.2.2.2.2.2.2.2.2 z.2.2.2.2.2.2.2.1 z.2.2.1) ∧ (Up ZG_102 Zk_102 z.2.2.2.2.2.2.2.2.1 z.2.2.2.2.2.2.2.2.2) ∧ Eng.Sep [OwnO 2 z.2.2.2.2.2.2.1 z.2.2.1.length z.2.2.2.2.2.2.2.1, OwnO 1 wB6 B6.length (u8s B6), Frz z.2.2.2.2.2.2.2.2.1 z.2.2.2.2.2.2.2.2.2] h') y h' ∧ (fun (z : Nat × Bool × List (Nat × List Nat) × Int × Bool × Nat × AV × List AV × (Nat → Prop) × Hp) => z.1) y < (fun (z : Nat × Bool × List (Nat × List Nat) × Int × Bool × Nat × AV × List AV × (Nat → Prop) × Hp) => z.1) (n, A2, A3, A4, A5, A7, wA3, LA3, G_102, k_102)) (fun i ls h' => ∃ y, ls = ((fun (z : Nat × Bool × List (Nat × List Nat) × Int × Bool × Nat × AV × List AV × (Nat → Prop) × Hp) => [(0, wB0_1), (2, (AV.bool z.2.1)), (3, z.2.2.2.2.2.2.1), (4, (AV.int .i64 z.2.2.2.1)), (5, (AV.bool z.2.2.2.2.1)), (6, wB6), (7, (vi z.2.2.2.2.2.1))]) y).map (fun p => some p.2) ∧ (fun (i : Nat) (z : Nat × Bool × List (Nat × List Nat) × Int × Bool × Nat × AV × List AV × (Nat → Prop) × Hp) (h' : Hp) => (i = 0) ∧ (i = 0 → o = LO.ex (z.2.1, z.2.2.1, z.2.2.2.1, z.2.2.2.2.1, z.2.2.2.2.2.1) ∧ (Eng.Rows (rP (rU .u8) rY) z.2.2.2.2.2.2.2.2.1 z.2.2.2.2.2.2.2.2.2 z.2.2.2.2.2.2.2.1 z.2.2.1) ∧ (Up ZG_102 Zk_102 z.2.2.2.2.2.2.2.2.1 z.2.2.2.2.2.2.2.2.2) ∧ Eng.Sep [OwnO 2 z.2.2.2.2.2.2.1 z.2.2.1.length z.2.2.2.2.2.2.2.1, OwnO 1 wB6 B6.length (u8s B6), Frz z.2.2.2.2.2.2.2.2.1 z.2.2.2.2.2.2.2.2.2] h')) i y h') (fun ls h' => (fun (ls : List (Option AV)) (h' : Hp) => ∃ (rt : Bool) (v2 : AV), o = LO.rt rt ∧ ls[1]? = some (some v2) ∧ (v2 = (AV.bool rt))) ls h')) (by kernel_rfl) ?_
  refine ⟨sin_len (SIn.up fU_102 fB0_2), ?_⟩
  refine ⟨fun c1 => ?_, fun c1 => ?_⟩
  · replace c1 := ltI_t c1
    replace hp := ift hp c1
    obtain ⟨csR5, hcR5, R5⟩ := sin_row (SIn.up fU_102 fB0_2) c1
    obtain ⟨_, _, rfl, ⟨rfl, f2⟩, ⟨w3, rfl, f4⟩⟩ := hcR5
    refine ⟨w3, sin_idx (SIn.up fU_102 fB0_2) c1, ?_⟩
    refine ⟨row_addr R5, ?_⟩
    refine ⟨row_loadO S (i := 2) rfl R5 rfl, ?_⟩
    refine ⟨q_len (BIn.now S (i := 2) rfl f4), ?_⟩
    refine ⟨fun c6 => ?_, fun c6 => ?_⟩
    · replace c6 := ltI_t c6
      replace hp := ift hp c6
      refine ⟨_, (AV.bool true), (Option.some.inj hp).symm, rfl, ?_⟩
      exact rfl
    replace c6 := ltI_f c6
    replace hp := iff0 hp (nltO c6)
    refine ⟨sin_idx (SIn.up fU_102 fB0_2) c1, ?_⟩
    refine ⟨row_addr R5, ?_⟩
    refine ⟨row_loadO S (i := 2) rfl R5 rfl, ?_⟩
    refine ⟨sin_idx (SIn.up fU_102 fB0_2) c1, ?_⟩
    refine ⟨row_addr R5, ?_⟩
    refine ⟨row_loadO S (i := 2) rfl R5 rfl, ?_⟩
    refine ⟨build_told (by show fillParts [(0, 1, (.const (vb8 ((B0.getD A7 default).1)))), (1, 1, (.const w3))] .lf 2 [(vb8 0), AV.nilSlice] = _; rw [fill_cons (o := 0) (k := 1) (n := 2) rfl rfl (by decide), fill_cons (o := 1) (k := 1) (n := 2) (BIn.cells f4) rfl (by decide)]; rfl), ?_⟩
    have S7 := cel_new S [(vb8 0), AV.nilSlice] rfl
    refine ⟨⟨again_of (build_told (by show fillParts [(0, 1, (.const (vb8 ((B0.getD A7 default).1)))), (1, 1, (.const w3))] .lf 2 [(vb8 0), AV.nilSlice] = _; rw [fill_cons (o := 0) (k := 1) (n := 2) rfl rfl (by decide), fill_cons (o := 1) (k := 1) (n := 2) (BIn.cells f4) rfl (by decide)]; rfl)) (avEq_agg1 (avEq_int _ _) (avEq_agg1 (BIn.same f4) rfl)), again_of (row_loadO S7 (i := 3) rfl R5 rfl) (BIn.same f4), again_of (row_addr R5) (elemO_same _ _ _ _), again_of (sin_idx (SIn.up fU_102 fB0_2) c1) (elemP_same _ _ _), again_of (rfl) (avEq_int _ _), again_of (rfl) (SIn.same (SIn.up fU_102 fB0_2)), again_of (row_loadO S7 (i := 3) rfl R5 rfl) (avEq_int _ _), again_of (row_addr R5) (elemO_same _ _ _ _), again_of (sin_idx (SIn.up fU_102 fB0_2) c1) (elemP_same _ _ _), again_of (rfl) (avEq_int _ _), again_of (rfl) (SIn.same (SIn.up fU_102 fB0_2)), trivial⟩, ?_⟩
    obtain ⟨e8, qe8, se8⟩ := cel_storeN call S7 (i := 0) (o := 0) (n := 2) (xs := [(vb8 ((B0.getD A7 default).1)), w3]) rfl (lb rfl) rfl (by decide) (all_cell rfl (all_cell (BIn.cell f4) all_cell0))
    refine ⟨e8, qe8, ?_⟩
    refine ⟨cel_load se8 (i := 0) rfl rfl, ?_⟩
    refine ⟨fun c10 => ?_, fun c10 => ?_⟩
    · replace c10 := eqI_t c10
      replace hp := ift hp c10
      have S11 := own_new se8 1 2 [(vb8 1), (vb8 97)] true rfl
      refine ⟨cel_load S11 (i := 1) rfl rfl, ?_⟩
      have ⟨g13, hp⟩ := gd_inv hp
      obtain ⟨e12, qe12, se12⟩ := own_append (bytes := 1) call S11 (i := 0) rfl (x := w3) (m := ((B0.getD A7 default).2).length) (xs := u8s ((B0.getD A7 default).2)) (fun z k => src_bytes (BIn.now S11 (i := 4) rfl f4) z k) (u8s_len1 _) (u8s_cells _) (show (2 + (((B0.getD A7 default).2).length)) * 1 ≤ 70368744177664 by omega) g13
      have S15 : Sep [OwnO 1 e12.v (([1, 97] ++ ((B0.getD A7 default).2)).length) (u8s ([1, 97] ++ ((B0.getD A7 default).2))), Cel (Hp.next h) [(vb8 ((B0.getD A7 default).1)), w3], OwnO 2 wA3 A3.length LA3, OwnO 1 wB6 B6.length (u8s B6), Frz G_102 k_102] e12.h := (by have z := se12; first | (rw [show u8s ([1, 97] ++ ((B0.getD A7 default).2)) = u8s [1, 97] ++ u8s ((B0.getD A7 default).2) from by simp [u8s_eq], show ([1, 97] ++ ((B0.getD A7 default).2) : List Nat).length = 2 + (((B0.getD A7 default).2).length) from by first | (simp; done) | (simp; omega)]; exact z) | (rw [show (2 + (((B0.getD A7 default).2).length) : Nat) = ([1, 97] ++ ((B0.getD A7 default).2) : List Nat).length from by first | (simp; done) | (simp; omega), show (u8s [1, 97] ++ (u8s ((B0.getD A7 default).2)) : List AV) = u8s ([1, 97] ++ ((B0.getD A7 default).2)) from by simp [u8s_eq]] at z; exact z))
      refine ⟨e12, qe12, ?_⟩
      obtain ⟨e16, qe16, se16⟩ := cel_store call S15 (i := 1) (o := 1) (x := e12.v) rfl (lb rfl) (own_cell S15 (i := 0) rfl)
      refine ⟨e16, qe16, ?_⟩
      refine ⟨cel_loadA se16 (i := 1) (o := 0) (n := 2) rfl (lb rfl), ?_⟩
      refine ⟨lit_told (n := 2) (by show fillParts _ _ 2 [(vb8 0), AV.nilSlice] = _; rw [fill_cons (o := 0) (k := 2) (n := 2) rfl rfl (by decide)]; rfl) (all_cell rfl (all_cell (own_cell se16 (i := 0) rfl) all_cell0)) rfl, ?_⟩
      have S18 := own_new se16 2 1 [(vb8 ((B0.getD A7 default).1)), e12.v] true rfl
      obtain ⟨G20, pG20, sG20⟩ := own_freeze S18 (i := 1) rfl (put_lt (cons_lt (show 1 < 256 by decide) (cons_lt (show 97 < 256 by decide) nil_lt)) (BIn.now S11 (i := 4) rfl f4).lt)
      have S22 : Sep [Frz G_102 k_102, Frz G20 (hpush e16.h (mkCells [(vb8 ((B0.getD A7 default).1)), e12.v] 2)), OwnO 2 (AV.slice (Hp.next e16.h) 0 1 1 2 true) 1 [(vb8 ((B0.getD A7 default).1)), e12.v], Cel (Hp.next h) [(vb8 ((B0.getD A7 default).1)), e12.v], OwnO 2 wA3 A3.length LA3, OwnO 1 wB6 B6.length (u8s B6)] (hpush e16.h (mkCells [(vb8 ((B0.getD A7 default).1)), e12.v] 2)) := sG20.sel [5, 1, 0, 2, 3, 4] (by decide) rfl
      obtain ⟨G23, uG23, vG23, sG23⟩ := Sep.mergeX S22
      have ⟨g25, hp⟩ := gd_inv hp
      obtain ⟨e19, qe19, se19⟩ := own_append (bytes := 32) call sG23 (i := 3) rfl (x := (AV.slice (Hp.next e16.h) 0 1 1 2 true)) (m := 1) (xs := [(vb8 ((B0.getD A7 default).1)), e12.v]) (fun z k => own_src sG23 (i := 1) rfl z k) (own_L sG23 (i := 1) rfl) (all_cell rfl (all_cell (BIn.cell (BIn.up vG23 pG20)) all_cell0)) g25 (by omega)
      obtain ⟨L26, rL26, eL26⟩ : ∃ L, Eng.Rows (rP (rU .u8) rY) G23 (hpush e16.h (mkCells [(vb8 ((B0.getD A7 default).1)), e12.v] 2)) L (A3 ++ [((B0.getD A7 default).1, [1, 97] ++ ((B0.getD A7 default).2))]) ∧ LA3 ++ [(vb8 ((B0.getD A7 default).1)), e12.v] = L := ⟨_, (Rows.snoc (Rows.up uG23 fA3) (a := (rP (rU .u8) rY)) (x := ((B0.getD A7 default).1, [1, 97] ++ ((B0.getD A7 default).2))) ⟨_, _, rfl, ⟨rfl, f2⟩, ⟨e12.v, rfl, (BIn.up vG23 pG20)⟩⟩), rfl⟩
      have S28 : Sep [Frz G23 (hpush e16.h (mkCells [(vb8 ((B0.getD A7 default).1)), e12.v] 2)), OwnO 2 (AV.slice (Hp.next e16.h) 0 1 1 2 true) 1 [(vb8 ((B0.getD A7 default).1)), e12.v], Cel (Hp.next h) [(vb8 ((B0.getD A7 default).1)), e12.v], OwnO 2 e19.v ((A3 ++ [((B0.getD A7 default).1, [1, 97] ++ ((B0.getD A7 default).2))]).length) L26, OwnO 1 wB6 B6.length (u8s B6)] e19.h := (by have z := se19; rw [eL26, show A3.length + 1 = (A3 ++ [((B0.getD A7 default).1, [1, 97] ++ ((B0.getD A7 default).2))]).length from by first | (simp; done) | (simp; omega)] at z; exact z)
      have S29 : Sep [OwnO 2 (AV.slice (Hp.next e16.h) 0 1 1 2 true) 1 [(vb8 ((B0.getD A7 default).1)), e12.v], Frz G23 (hpush e16.h (mkCells [(vb8 ((B0.getD A7 default).1)), e12.v] 2)), Cel (Hp.next h) [(vb8 ((B0.getD A7 default).1)), e12.v], OwnO 2 e19.v ((A3 ++ [((B0.getD A7 default).1, [1, 97] ++ ((B0.getD A7 default).2))]).length) L26, OwnO 1 wB6 B6.length (u8s B6)] e19.h := S28.sel [1, 0, 2, 3, 4] (by decide) rfl
      have S30 := S29.tail
      refine ⟨e19, qe19, ?_⟩
      have ⟨g31, hp⟩ := gd_inv hp
      refine ⟨q_add g31, ?_⟩
      have S32 : Sep [OwnO 2 e19.v ((A3 ++ [((B0.getD A7 default).1, [1, 97] ++ ((B0.getD A7 default).2))]).length) L26, OwnO 1 wB6 B6.length (u8s B6), Frz G23 (hpush e16.h (mkCells [(vb8 ((B0.getD A7 default).1)), e12.v] 2))] e19.h := S30.sel [2, 3, 0] (by decide) rfl
      refine ⟨(m, A2, A3 ++ [((B0.getD A7 default).1, [1, 97] ++ ((B0.getD A7 default).2))], A4, A5, A7 + 1, e19.v, L26, G23, hpush e16.h (mkCells [(vb8 ((B0.getD A7 default).1)), e12.v] 2)), rfl, ⟨hp, rL26, (Up.trans fU_102 uG23), S32⟩, by show m < n; omega⟩
    replace c10 := eqI_f c10
    replace hp := iff0 hp (c10)
    have S11 : Sep [OwnO 2 wA3 A3.length LA3, OwnO 1 wB6 B6.length (u8s B6), Cel (Hp.next h) [(vb8 ((B0.getD A7 default).1)), w3], Frz G_102 k_102] e8.h := se8.sel [1, 2, 0, 3] (by decide) rfl
    have ⟨o12, hb13, hp⟩ := ob_inv hp
    rcases lawback_l2_t (SIn.up fU_102 fB0_2) fA3 fB6 h_begun h_split h_join (o := o12) (B0 := B0) (B2 := A2) (B3 := A3) (B4 := A4) (B5 := A5) (B6 := B6) (B7 := A7) (n := 90000) (A9 := (-1 : Int)) (A10 := 0) (Q1001_0 := (B0.getD A7 default).1) (Q1001_1 := (B0.getD A7 default).2) (wQ1001_1_1 := w3) ⟨hb13, f2, f4, S11⟩ hN hN (t := (ovT [(0, wB0_1), (2, (AV.bool A2)), (3, wA3), (4, (AV.int .i64 A4)), (5, (AV.bool A5)), (6, wB6), (7, (vi A7)), (8, (AV.ptr (Hp.next h) 0)), (9, (AV.int .i64 (Int.negSucc 0))), (10, (vi 0)), (20, (vi A7)), (21, wB0_1), (22, (vi B0.length)), (23, (AV.bool true)), (26, wB0_1), (27, (vi A7)), (28, (elemP wB0_1 A7 2)), (29, (elemO wB0_1 A7 2 1)), (30, w3), (31, (vi (((B0.getD A7 default).2).length))), (32, (AV.bool false)), (33, wB0_1), (34, (vi A7)), (35, (elemP wB0_1 A7 2)), (36, (elemO wB0_1 A7 2 0)), (37, (vb8 ((B0.getD A7 default).1))), (38, wB0_1), (39, (vi A7)), (40, (elemP wB0_1 A7 2)), (41, (elemO wB0_1 A7 2 1)), (42, w3), (43, (AV.agg [(vb8 ((B0.getD A7 default).1)), w3])), (44, (AV.ptr (Hp.next h) 0)), (45, (vb8 ((B0.getD A7 default).1))), (46, (AV.bool false))] t)) (show slots [0, 2, 3, 4, 5, 6, 7, 8, 9, 10] _ = [some wB0_1, some (AV.bool A2), some wA3, some (AV.int .i64 A4), some (AV.bool A5), some wB6, some (vi A7), some (AV.ptr (Hp.next h) 0), some (AV.int .i64 (Int.negSucc 0)), some (vi 0)] by kernel_rfl) with ⟨io12, ⟨_, A9o12, A10o12, Q1001_0o12, Q1001_1o12, wQ1001_1_1o12⟩, t15, h16, qo12, wo12, zo12⟩ | ⟨_, _, _, zo12⟩
    rotate_left
    · exact zo12.elim
    obtain ⟨jo12, zo12⟩ := zo12
    subst jo12
    replace zo12 := zo12 rfl
    obtain ⟨uo12, fQ1001_0_1o12, fQ1001_1_2o12, So12⟩ := zo12
    replace uo12 := uo12.symm
    subst uo12
    try dsimp only at hp
    refine ⟨A9o12, A10o12, Q1001_0o12, Q1001_1o12, wQ1001_1_1o12, t15, h16, (qo12.trans (congrArg (fun t => RS.exit 2 t h16) (ovT_eq wo12).symm)), trivial, ?_⟩
    refine ⟨fun c20 => ?_, fun c20 => ?_⟩
    · replace hp := ift hp c20
      refine ⟨q_max _ _, ?_⟩
      refine ⟨cel_loadA So12 (i := 2) (o := 0) (n := 2) rfl (lb rfl), ?_⟩
      refine ⟨lit_told (n := 2) (by show fillParts _ _ 2 [(vb8 0), AV.nilSlice] = _; rw [fill_cons (o := 0) (k := 2) (n := 2) rfl rfl (by decide)]; rfl) (all_cell rfl (all_cell (BIn.cell fQ1001_1_2o12) all_cell0)) rfl, ?_⟩
      have S21 := own_new So12 2 1 [(vb8 Q1001_0o12), wQ1001_1_1o12] true rfl
      have ⟨g23, hp⟩ := gd_inv hp
      obtain ⟨e22, qe22, se22⟩ := own_append (bytes := 32) call S21 (i := 1) rfl (x := (AV.slice (Hp.next h16) 0 1 1 2 true)) (m := 1) (xs := [(vb8 Q1001_0o12), wQ1001_1_1o12]) (fun z k => own_src S21 (i := 0) rfl z k) (own_L S21 (i := 0) rfl) (all_cell rfl (all_cell (BIn.cell fQ1001_1_2o12) all_cell0)) g23 (by omega)
      obtain ⟨L24, rL24, eL24⟩ : ∃ L, Eng.Rows (rP (rU .u8) rY) G_102 k_102 L (A3 ++ [(Q1001_0o12, Q1001_1o12)]) ∧ LA3 ++ [(vb8 Q1001_0o12), wQ1001_1_1o12] = L := ⟨_, (Rows.snoc fA3 (a := (rP (rU .u8) rY)) (x := (Q1001_0o12, Q1001_1o12)) ⟨_, _, rfl, ⟨rfl, fQ1001_0_1o12⟩, ⟨wQ1001_1_1o12, rfl, fQ1001_1_2o12⟩⟩), rfl⟩
      have S26 : Sep [OwnO 2 (AV.slice (Hp.next h16) 0 1 1 2 true) 1 [(vb8 Q1001_0o12), wQ1001_1_1o12], OwnO 2 e22.v ((A3 ++ [(Q1001_0o12, Q1001_1o12)]).length) L24, OwnO 1 wB6 B6.length (u8s B6), Cel (Hp.next h) [(vb8 Q1001_0o12), wQ1001_1_1o12], Frz G_102 k_102] e22.h := (by have z := se22; rw [eL24, show A3.length + 1 = (A3 ++ [(Q1001_0o12, Q1001_1o12)]).length from by first | (simp; done) | (simp; omega)] at z; exact z)
      have S27 := S26.tail
      refine ⟨e22, qe22, ?_⟩
      have ⟨g28, hp⟩ := gd_inv hp
      refine ⟨q_add g28, ?_⟩
      have S29 : Sep [OwnO 2 e22.v ((A3 ++ [(Q1001_0o12, Q1001_1o12)]).length) L24, OwnO 1 wB6 B6.length (u8s B6), Frz G_102 k_102] e22.h := S27.sel [0, 1, 3] (by decide) rfl
      refine ⟨(m, A2, A3 ++ [(Q1001_0o12, Q1001_1o12)], max A4 A9o12, (ltI A4 A9o12), A7 + 1, e22.v, L24, G_102, k_102), rfl, ⟨hp, rL24, fU_102, S29⟩, by show m < n; omega⟩
    replace hp := iff0 hp (nbF c20)
    refine ⟨q_max _ _, ?_⟩
    refine ⟨cel_loadA So12 (i := 2) (o := 0) (n := 2) rfl (lb rfl), ?_⟩
    refine ⟨lit_told (n := 2) (by show fillParts _ _ 2 [(vb8 0), AV.nilSlice] = _; rw [fill_cons (o := 0) (k := 2) (n := 2) rfl rfl (by decide)]; rfl) (all_cell rfl (all_cell (BIn.cell fQ1001_1_2o12) all_cell0)) rfl, ?_⟩
    have S21 := own_new So12 2 1 [(vb8 Q1001_0o12), wQ1001_1_1o12] true rfl
    have ⟨g23, hp⟩ := gd_inv hp
    obtain ⟨e22, qe22, se22⟩ := own_append (bytes := 32) call S21 (i := 1) rfl (x := (AV.slice (Hp.next h16) 0 1 1 2 true)) (m := 1) (xs := [(vb8 Q1001_0o12), wQ1001_1_1o12]) (fun z k => own_src S21 (i := 0) rfl z k) (own_L S21 (i := 0) rfl) (all_cell rfl (all_cell (BIn.cell fQ1001_1_2o12) all_cell0)) g23 (by omega)
    obtain ⟨L24, rL24, eL24⟩ : ∃ L, Eng.Rows (rP (rU .u8) rY) G_102 k_102 L (A3 ++ [(Q1001_0o12, Q1001_1o12)]) ∧ LA3 ++ [(vb8 Q1001_0o12), wQ1001_1_1o12] = L := ⟨_, (Rows.snoc fA3 (a := (rP (rU .u8) rY)) (x := (Q1001_0o12, Q1001_1o12)) ⟨_, _, rfl, ⟨rfl, fQ1001_0_1o12⟩, ⟨wQ1001_1_1o12, rfl, fQ1001_1_2o12⟩⟩), rfl⟩
    have S26 : Sep [OwnO 2 (AV.slice (Hp.next h16) 0 1 1 2 true) 1 [(vb8 Q1001_0o12), wQ1001_1_1o12], OwnO 2 e22.v ((A3 ++ [(Q1001_0o12, Q1001_1o12)]).length) L24, OwnO 1 wB6 B6.length (u8s B6), Cel (Hp.next h) [(vb8 Q1001_0o12), wQ1001_1_1o12], Frz G_102 k_102] e22.h := (by have z := se22; rw [eL24, show A3.length + 1 = (A3 ++ [(Q1001_0o12, Q1001_1o12)]).length from by first | (simp; done) | (simp; omega)] at z; exact z)
    have S27 := S26.tail
    refine ⟨e22, qe22, ?_⟩
    have ⟨g28, hp⟩ := gd_inv hp
    refine ⟨q_add g28, ?_⟩
    have S29 : Sep [OwnO 2 e22.v ((A3 ++ [(Q1001_0o12, Q1001_1o12)]).length) L24, OwnO 1 wB6 B6.length (u8s B6), Frz G_102 k_102] e22.h := S27.sel [0, 1, 3] (by decide) rfl
    refine ⟨(m, A2, A3 ++ [(Q1001_0o12, Q1001_1o12)], max A4 A9o12, false, A7 + 1, e22.v, L24, G_102, k_102), rfl, ⟨hp, rL24, fU_102, S29⟩, by show m < n; omega⟩
  replace c1 := ltI_f c1
  replace hp := iff0 hp (nltO c1)
  refine ⟨(m, A2, A3, A4, A5, A7, wA3, LA3, G_102, k_102), rfl, rfl, fun _ => ⟨(Option.some.inj hp).symm, fA3, fU_102, S⟩⟩
theorem lawback_l1_t {call : CallT} {N : Nat} {wB0_1 : AV} {wB6 : AV} {ZG_102 : Nat → Prop} {Zk_102 : Hp} {B0 : List (Nat × List Nat)} {B6 : List Nat} (fB0_2 : SIn (rP (rU .u8) rY) ZG_102 Zk_102 wB0_1 B0) (fB6 : ∀ x ∈ B6, x < 256) (h_begun : TrueS call 34) (h_split : C_split call) (h_join : C_join call) {o : LO (Bool × List (Nat × List Nat) × Int × Bool × Nat) (Bool)} {n : Nat} {A2 : Bool} {A3 : List (Nat × List Nat)} {A4 : Int} {A5 : Bool} {A7 : Nat} {wA3 : AV} {LA3 : List AV} {G_102 : Nat → Prop} {k_102 : Hp} {h : Hp} (hi : (fun (z : Nat × Bool × List (Nat × List Nat) × Int × Bool × Nat × AV × List AV × (Nat → Prop) × Hp) (h' : Hp) => lawback_l1 B0 B6 z.1 z.2.1 z.2.2.1 z.2.2.2.1 z.2.2.2.2.1 z.2.2.2.2.2.1 = some o ∧ (Eng.Rows (rP (rU .u8) rY) z.2.2.2.2.2.2.2.2.1 z.2.2.2.2.2.2.2.2.2 z.2.2.2.2.2.2.2.1 z.2.2.1) ∧ (Up ZG_102 Zk_102 z.2.2.2.2.2.2.2.2.1 z.2.2.2.2.2.2.2.2.2) ∧ Eng.Sep [OwnO 2 z.2.2.2.2.2.2.1 z.2.2.1.length z.2.2.2.2.2.2.2.1, OwnO 1 wB6 B6.length (u8s B6), Frz z.2.2.2.2.2.2.2.2.1 z.2.2.2.2.2.2.2.2.2] h') (n, A2, A3, A4, A5, A7, wA3, LA3, G_102, k_102) h) (hN : n < N) (hN' : 90000 < N) {t : T} (ht : Has ((fun (z : Nat × Bool × List (Nat × List Nat) × Int × Bool × Nat × AV × List AV × (Nat → Prop) × Hp) => [(0, wB0_1), (2, (AV.bool z.2.1)), (3, z.2.2.2.2.2.2.1), (4, (AV.int .i64 z.2.2.2.1)), (5, (AV.bool z.2.2.2.2.1)), (6, wB6), (7, (vi z.2.2.2.2.2.1))]) (n, A2, A3, A4, A5, A7, wA3, LA3, G_102, k_102)) t) :
    (∃ i y t' h', evC call N (.loop lawback_l1C) t h = .exit i t' h' ∧ Has ((fun (z : Nat × Bool × List (Nat × List Nat) × Int × Bool × Nat × AV × List AV × (Nat → Prop) × Hp) => [(0, wB0_1), (2, (AV.bool z.2.1)), (3, z.2.2.2.2.2.2.1), (4, (AV.int .i64 z.2.2.2.1)), (5, (AV.bool z.2.2.2.2.1)), (6, wB6), (7, (vi z.2.2.2.2.2.1))]) y) t' ∧ (fun (i : Nat) (z : Nat × Bool × List (Nat × List Nat) × Int × Bool × Nat × AV × List AV × (Nat → Prop) × Hp) (h' : Hp) => (i = 0) ∧ (i = 0 → o = LO.ex (z.2.1, z.2.2.1, z.2.2.2.1, z.2.2.2.2.1, z.2.2.2.2.2.1) ∧ (Eng.Rows (rP (rU .u8) rY) z.2.2.2.2.2.2.2.2.1 z.2.2.2.2.2.2.2.2.2 z.2.2.2.2.2.2.2.1 z.2.2.1) ∧ (Up ZG_102 Zk_102 z.2.2.2.2.2.2.2.2.1 z.2.2.2.2.2.2.2.2.2) ∧ Eng.Sep [OwnO 2 z.2.2.2.2.2.2.1 z.2.2.1.length z.2.2.2.2.2.2.2.1, OwnO 1 wB6 B6.length (u8s B6), Frz z.2.2.2.2.2.2.2.2.1 z.2.2.2.2.2.2.2.2.2] h')) i y h') ∨ (∃ t' h', evC call N (.loop lawback_l1C) t h = .ret t' h' ∧ (fun (ls : List (Option AV)) (h' : Hp) => ∃ (rt : Bool) (v2 : AV), o = LO.rt rt ∧ ls[1]? = some (some v2) ∧ (v2 = (AV.bool rt))) (slots [0, 2, 3, 4, 5, 6, 7] t') h') :=
  loop_st (fun (z : Nat × Bool × List (Nat × List Nat) × Int × Bool × Nat × AV × List AV × (Nat → Prop) × Hp) => [(0, wB0_1), (2, (AV.bool z.2.1)), (3, z.2.2.2.2.2.2.1), (4, (AV.int .i64 z.2.2.2.1)), (5, (AV.bool z.2.2.2.2.1)), (6, wB6), (7, (vi z.2.2.2.2.2.1))]) [0, 2, 3, 4, 5, 6, 7] (fun _ => rfl) (fun (z : Nat × Bool × List (Nat × List Nat) × Int × Bool × Nat × AV × List AV × (Nat → Prop) × Hp) (h' : Hp) => lawback_l1 B0 B6 z.1 z.2.1 z.2.2.1 z.2.2.2.1 z.2.2.2.2.1 z.2.2.2.2.2.1 = some o ∧ (Eng.Rows (rP (rU .u8) rY) z.2.2.2.2.2.2.2.2.1 z.2.2.2.2.2.2.2.2.2 z.2.2.2.2.2.2.2.1 z.2.2.1) ∧ (Up ZG_102 Zk_102 z.2.2.2.2.2.2.2.2.1 z.2.2.2.2.2.2.2.2.2) ∧ Eng.Sep [OwnO 2 z.2.2.2.2.2.2.1 z.2.2.1.length z.2.2.2.2.2.2.2.1, OwnO 1 wB6 B6.length (u8s B6), Frz z.2.2.2.2.2.2.2.2.1 z.2.2.2.2.2.2.2.2.2] h') (fun (z : Nat × Bool × List (Nat × List Nat) × Int × Bool × Nat × AV × List AV × (Nat → Prop) × Hp) => z.1) (fun (i : Nat) (z : Nat × Bool × List (Nat × List Nat) × Int × Bool × Nat × AV × List AV × (Nat → Prop) × Hp) (h' : Hp) => (i = 0) ∧ (i = 0 → o = LO.ex (z.2.1, z.2.2.1, z.2.2.2.1, z.2.2.2.2.1, z.2.2.2.2.2.1) ∧ (Eng.Rows (rP (rU .u8) rY) z.2.2.2.2.2.2.2.2.1 z.2.2.2.2.2.2.2.2.2 z.2.2.2.2.2.2.2.1 z.2.2.1) ∧ (Up ZG_102 Zk_102 z.2.2.2.2.2.2.2.2.1 z.2.2.2.2.2.2.2.2.2) ∧ Eng.Sep [OwnO 2 z.2.2.2.2.2.2.1 z.2.2.1.length z.2.2.2.2.2.2.2.1, OwnO 1 wB6 B6.length (u8s B6), Frz z.2.2.2.2.2.2.2.2.1 z.2.2.2.2.2.2.2.2.2] h')) (fun (ls : List (Option AV)) (h' : Hp) => ∃ (rt : Bool) (v2 : AV), o = LO.rt rt ∧ ls[1]? = some (some v2) ∧ (v2 = (AV.bool rt))) (fun ⟨n, A2, A3, A4, A5, A7, wA3, LA3, G_102, k_102⟩ t h hi => lawback_l1_body fB0_2 fB6 h_begun h_split h_join hN' hi) (n, A2, A3, A4, A5, A7, wA3, LA3, G_102, k_102) h hi hN t ht
noncomputable def lawback_l3 (B3 : List (Nat × List Nat)) (B11 : List (Nat × List Nat)) : Nat → Bool → Nat → Option (LO (Bool × Nat) (Bool))
  | 0, _, _ => none
  | m + 1, A2, A13 =>
    (if A13 < B3.length then (gd (A13 < B11.length) (if (B11.getD A13 default).1 ≠ (B3.getD A13 default).1 then (some (LO.rt false)) else
    (if ((B11.getD A13 default).2) ≠ ((B3.getD A13 default).2) then (some (LO.rt false)) else
    (gd (A13 + 1 < 9223372036854775808) (lawback_l3 B3 B11 m A2 (A13 + 1)))))) else
    (some (LO.ex (A2, A13))))
noncomputable def lawback_l3C : AC := (.seq (.seq (.region [⟨(some 103), .q (.move (.tmp 13)), none⟩, ⟨(some 104), .q (.move (.tmp 3)), none⟩, ⟨(some 105), .q (.lenL (.tmp 104)), none⟩, ⟨(some 106), .q (.bin .lss (.tmp 103) (.tmp 105)), none⟩]) (.cond (.tmp 106) .skip (.exit 4))) (.seq (.block 5 (.seq (.drawn [⟨[(⟨(some 109), .q (.move (.tmp 11)), none⟩, 0), (⟨(some 110), .q (.move (.tmp 13)), none⟩, 0), (⟨(some 111), .q (.idxAddrSl 2 (.tmp 109) (.tmp 110)), none⟩, 0), (⟨(some 112), .q (.fieldAddr 0 (.tmp 111)), none⟩, 0), (⟨(some 113), .q (.loadS (.tmp 112)), none⟩, 0), (⟨(some 114), .q (.move (.tmp 3)), none⟩, 0), (⟨(some 115), .q (.move (.tmp 13)), none⟩, 0), (⟨(some 116), .q (.idxAddrSl 2 (.tmp 114) (.tmp 115)), none⟩, 0), (⟨(some 117), .q (.fieldAddr 0 (.tmp 116)), none⟩, 0), (⟨(some 118), .q (.loadS (.tmp 117)), none⟩, 0), (⟨(some 119), .q (.eq .int true (.tmp 113) (.tmp 118)), none⟩, 0), (⟨(some 120), .q (.move (.tmp 119)), none⟩, 0), (⟨(some 121), .q (.move (.tmp 11)), (some (120, false))⟩, 0), (⟨(some 122), .q (.move (.tmp 13)), (some (120, false))⟩, 0), (⟨(some 123), .q (.idxAddrSl 2 (.tmp 121) (.tmp 122)), (some (120, false))⟩, 0), (⟨(some 124), .q (.fieldAddr 1 (.tmp 123)), (some (120, false))⟩, 0), (⟨(some 125), .q (.loadS (.tmp 124)), (some (120, false))⟩, 0), (⟨(some 126), .q (.toStr (.tmp 125)), (some (120, false))⟩, 0), (⟨(some 127), .q (.move (.tmp 3)), (some (120, false))⟩, 0), (⟨(some 128), .q (.move (.tmp 13)), (some (120, false))⟩, 0), (⟨(some 129), .q (.idxAddrSl 2 (.tmp 127) (.tmp 128)), (some (120, false))⟩, 0), (⟨(some 130), .q (.fieldAddr 1 (.tmp 129)), (some (120, false))⟩, 0), (⟨(some 131), .q (.loadS (.tmp 130)), (some (120, false))⟩, 0), (⟨(some 132), .q (.toStr (.tmp 131)), (some (120, false))⟩, 0), (⟨(some 133), .q (.eq .str true (.tmp 126) (.tmp 132)), (some (120, false))⟩, 0), (⟨(some 134), .q (.pick (.tmp 120) (.const (AV.bool true)) (.tmp 133)), none⟩, 0)], none⟩]) (.cond (.tmp 134) (.seq (.region [⟨(some 2), .q (.move (.const (AV.bool false))), none⟩]) .ret) .skip))) (.region [⟨(some 107), .q (.move (.tmp 13)), none⟩, ⟨(some 108), .q (.bin .add (.tmp 107) (.const (vi 1))), none⟩, ⟨(some 13), .q (.move (.tmp 108)), none⟩])))
theorem lawback_l3_body {call : CallT} {N : Nat} {t : T} {h : Hp} {wB3_1 : AV} {wB11_1 : AV} {G_105 : Nat → Prop} {k_105 : Hp} {G_102 : Nat → Prop} {k_102 : Hp} {B3 : List (Nat × List Nat)} {B11 : List (Nat × List Nat)} (fB3_2 : SIn (rP (rU .u8) rY) G_102 k_102 wB3_1 B3) (fB11_2 : SIn (rP (rU .u8) rY) G_105 k_105 wB11_1 B11) (h_begun : TrueS call 34) (h_split : C_split call) (h_join : C_join call) {o : LO (Bool × Nat) (Bool)} {n : Nat} {A2 : Bool} {A13 : Nat} (hN : 90000 < N) (hi : (fun (z : Nat × Bool × Nat) (h' : Hp) => lawback_l3 B3 B11 z.1 z.2.1 z.2.2 = some o ∧ Eng.Sep [Frz G_105 k_105, Frz G_102 k_102] h') (n, A2, A13) h)
    : ∃ s, evC call N lawback_l3C (ovT [(2, (AV.bool A2)), (3, wB3_1), (11, wB11_1), (13, (vi A13))] t) h = s ∧ obsS [2, 3, 11, 13] (fun ls h' => ∃ y, ls = ((fun (z : Nat × Bool × Nat) => [(2, (AV.bool z.2.1)), (3, wB3_1), (11, wB11_1), (13, (vi z.2.2))]) y).map (fun p => some p.2) ∧ (fun (z : Nat × Bool × Nat) (h' : Hp) => lawback_l3 B3 B11 z.1 z.2.1 z.2.2 = some o ∧ Eng.Sep [Frz G_105 k_105, Frz G_102 k_102] h') y h' ∧ (fun (z : Nat × Bool × Nat) => z.1) y < (fun (z : Nat × Bool × Nat) => z.1) (n, A2, A13)) (fun i ls h' => ∃ y, ls = ((fun (z : Nat × Bool × Nat) => [(2, (AV.bool z.2.1)), (3, wB3_1), (11, wB11_1), (13, (vi z.2.2))]) y).map (fun p => some p.2) ∧ (fun (i : Nat) (z : Nat × Bool × Nat) (h' : Hp) => (i = 4) ∧ (i = 4 → o = LO.ex (z.2.1, z.2.2) ∧ Eng.Sep [Frz G_105 k_105, Frz G_102 k_102] h')) i y h') (fun ls h' => (fun (ls : List (Option AV)) (h' : Hp) => ∃ (rt : Bool) (v2 : AV), o = LO.rt rt ∧ ls[0]? = some (some v2) ∧ (v2 = (AV.bool rt))) ls h') s := by
  have hi : lawback_l3 B3 B11 n A2 A13 = some o ∧ Eng.Sep [Frz G_105 k_105, Frz G_102 k_102] h := hi
  obtain ⟨hp, S⟩ := hi
  obtain ⟨m, hm⟩ : ∃ m, n = m + 1 := by
    cases n with
    | zero => first | cases hp | (unfold lawback_l3 at hp; cases hp) | (simp [lawback_l3] at hp)
    | succ m => exact ⟨m, rfl⟩
  rw [hm] at hp
  unfold lawback_l3 at hp
  refine walk_ok (o := (.tell 2 (vi B3.length) (.fork 0 (.exi 2 fun (w4 : AV) => (.tell 0 (elemP wB11_1 A13 2) (.tell 0 (elemO wB11_1 A13 2 0) (.tell 0 (vb8 ((B11.getD A13 default).1)) (.exi 2 fun (w8 : AV) => (.tell 0 (elemP wB3_1 A13 2) (.tell 0 (elemO wB3_1 A13 2 0) (.tell 0 (vb8 ((B3.getD A13 default).1)) (.fork 1 (.again 1 .fin) (.tell 2 (elemP wB11_1 A13 2) (.tell 0 (elemO wB11_1 A13 2 1) (.tell 0 w4 (.tell 0 (AV.str ((B11.getD A13 default).2)) (.tell 2 (elemP wB3_1 A13 2) (.tell 0 (elemO wB3_1 A13 2 1) (.tell 0 w8 (.tell 0 (AV.str ((B3.getD A13 default).2)) (.fork 1 (.again 0 .fin) (.again 0 (.tell 1 (vi (A13 + 1)) .fin)))))))))))))))))))) .fin))) (p := (fun (KN : List (Option AV) → Hp → Prop) (KE : Nat → List (Option AV) → Hp → Prop) (KR : List (Option AV) → Hp → Prop) => ((evQ (.lenL (.const wB3_1)) .lf H0 = .ok (vi B3.length) ∧ ((ltI (Int.ofNat A13) (Int.ofNat B3.length) = true → (∃ w4 : AV, (evQ (.idxAddrSl 2 (.const wB11_1) (.const (vi A13))) .lf H0 = .ok (elemP wB11_1 A13 2) ∧ ((evQ (.fieldAddr 0 (.const (elemP wB11_1 A13 2))) .lf H0 = .ok (elemO wB11_1 A13 2 0) ∧ ((evQ (.loadS (.const (elemO wB11_1 A13 2 0))) .lf h = .ok (vb8 ((B11.getD A13 default).1)) ∧ (∃ w8 : AV, (evQ (.idxAddrSl 2 (.const wB3_1) (.const (vi A13))) .lf H0 = .ok (elemP wB3_1 A13 2) ∧ ((evQ (.fieldAddr 0 (.const (elemP wB3_1 A13 2))) .lf H0 = .ok (elemO wB3_1 A13 2 0) ∧ ((evQ (.loadS (.const (elemO wB3_1 A13 2 0))) .lf h = .ok (vb8 ((B3.getD A13 default).1)) ∧ ((notB (eqI (Int.ofNat ((B11.getD A13 default).1)) (Int.ofNat ((B3.getD A13 default).1))) = true → ((again (.pick (.const (AV.bool true)) (.const (AV.bool true)) (.const (AV.tuple []))) .lf (AV.bool true) h = true ∧ again (.move (.const (AV.bool (notB (eqI (Int.ofNat ((B11.getD A13 default).1)) (Int.ofNat ((B3.getD A13 default).1))))))) .lf (AV.bool true) h = true ∧ again (.eq .int true (.const (vb8 ((B11.getD A13 default).1))) (.const (vb8 ((B3.getD A13 default).1)))) .lf (AV.bool (notB (eqI (Int.ofNat ((B11.getD A13 default).1)) (Int.ofNat ((B3.getD A13 default).1))))) h = true ∧ again (.loadS (.const (elemO wB3_1 A13 2 0))) .lf (vb8 ((B3.getD A13 default).1)) h = true ∧ again (.fieldAddr 0 (.const (elemP wB3_1 A13 2))) .lf (elemO wB3_1 A13 2 0) h = true ∧ again (.idxAddrSl 2 (.const wB3_1) (.const (vi A13))) .lf (elemP wB3_1 A13 2) h = true ∧ again (.move (.const (vi A13))) .lf (vi A13) h = true ∧ again (.move (.const wB3_1)) .lf wB3_1 h = true ∧ again (.loadS (.const (elemO wB11_1 A13 2 0))) .lf (vb8 ((B11.getD A13 default).1)) h = true ∧ again (.fieldAddr 0 (.const (elemP wB11_1 A13 2))) .lf (elemO wB11_1 A13 2 0) h = true ∧ again (.idxAddrSl 2 (.const wB11_1) (.const (vi A13))) .lf (elemP wB11_1 A13 2) h = true ∧ again (.move (.const (vi A13))) .lf (vi A13) h = true ∧ again (.move (.const wB11_1)) .lf wB11_1 h = true ∧ True) ∧ KR [some (AV.bool false), some wB3_1, some wB11_1, some (vi A13)] h)) ∧ (notB (eqI (Int.ofNat ((B11.getD A13 default).1)) (Int.ofNat ((B3.getD A13 default).1))) = false → ((evQ (.idxAddrSl 2 (.const wB11_1) (.const (vi A13))) .lf H0 = .ok (elemP wB11_1 A13 2) ∧ ((evQ (.fieldAddr 1 (.const (elemP wB11_1 A13 2))) .lf H0 = .ok (elemO wB11_1 A13 2 1) ∧ ((evQ (.loadS (.const (elemO wB11_1 A13 2 1))) .lf h = .ok w4 ∧ ((evQ (.toStr (.const w4)) .lf h = .ok (AV.str ((B11.getD A13 default).2)) ∧ ((evQ (.idxAddrSl 2 (.const wB3_1) (.const (vi A13))) .lf H0 = .ok (elemP wB3_1 A13 2) ∧ ((evQ (.fieldAddr 1 (.const (elemP wB3_1 A13 2))) .lf H0 = .ok (elemO wB3_1 A13 2 1) ∧ ((evQ (.loadS (.const (elemO wB3_1 A13 2 1))) .lf h = .ok w8 ∧ ((evQ (.toStr (.const w8)) .lf h = .ok (AV.str ((B3.getD A13 default).2)) ∧ ((notB (strEq ((B11.getD A13 default).2) ((B3.getD A13 default).2)) = true → ((again (.pick (.const (AV.bool false)) (.const (AV.bool true)) (.const (AV.bool (notB (strEq ((B11.getD A13 default).2) ((B3.getD A13 default).2)))))) .lf (AV.bool true) h = true ∧ again (.eq .str true (.const (AV.str ((B11.getD A13 default).2))) (.const (AV.str ((B3.getD A13 default).2)))) .lf (AV.bool (notB (strEq ((B11.getD A13 default).2) ((B3.getD A13 default).2)))) h = true ∧ again (.toStr (.const w8)) .lf (AV.str ((B3.getD A13 default).2)) h = true ∧ again (.loadS (.const (elemO wB3_1 A13 2 1))) .lf w8 h = true ∧ again (.fieldAddr 1 (.const (elemP wB3_1 A13 2))) .lf (elemO wB3_1 A13 2 1) h = true ∧ again (.idxAddrSl 2 (.const wB3_1) (.const (vi A13))) .lf (elemP wB3_1 A13 2) h = true ∧ again (.move (.const (vi A13))) .lf (vi A13) h = true ∧ again (.move (.const wB3_1)) .lf wB3_1 h = true ∧ again (.toStr (.const w4)) .lf (AV.str ((B11.getD A13 default).2)) h = true ∧ again (.loadS (.const (elemO wB11_1 A13 2 1))) .lf w4 h = true ∧ again (.fieldAddr 1 (.const (elemP wB11_1 A13 2))) .lf (elemO wB11_1 A13 2 1) h = true ∧ again (.idxAddrSl 2 (.const wB11_1) (.const (vi A13))) .lf (elemP wB11_1 A13 2) h = true ∧ again (.move (.const (vi A13))) .lf (vi A13) h = true ∧ again (.move (.const wB11_1)) .lf wB11_1 h = true ∧ again (.move (.const (AV.bool (notB (eqI (Int.ofNat ((B11.getD A13 default).1)) (Int.ofNat ((B3.getD A13 default).1))))))) .lf (AV.bool false) h = true ∧ again (.eq .int true (.const (vb8 ((B11.getD A13 default).1))) (.const (vb8 ((B3.getD A13 default).1)))) .lf (AV.bool (notB (eqI (Int.ofNat ((B11.getD A13 default).1)) (Int.ofNat ((B3.getD A13 default).1))))) h = true ∧ again (.loadS (.const (elemO wB3_1 A13 2 0))) .lf (vb8 ((B3.getD A13 default).1)) h = true ∧ again (.fieldAddr 0 (.const (elemP wB3_1 A13 2))) .lf (elemO wB3_1 A13 2 0) h = true ∧ again (.idxAddrSl 2 (.const wB3_1) (.const (vi A13))) .lf (elemP wB3_1 A13 2) h = true ∧ again (.move (.const (vi A13))) .lf (vi A13) h = true ∧ again (.move (.const wB3_1)) .lf wB3_1 h = true ∧ again (.loadS (.const (elemO wB11_1 A13 2 0))) .lf (vb8 ((B11.getD A13 default).1)) h = true ∧ again (.fieldAddr 0 (.const (elemP wB11_1 A13 2))) .lf (elemO wB11_1 A13 2 0) h = true ∧ again (.idxAddrSl 2 (.const wB11_1) (.const (vi A13))) .lf (elemP wB11_1 A13 2) h = true ∧ again (.move (.const (vi A13))) .lf (vi A13) h = true ∧ again (.move (.const wB11_1)) .lf wB11_1 h = true ∧ True) ∧ KR [some (AV.bool false), some wB3_1, some wB11_1, some (vi A13)] h)) ∧ (notB (strEq ((B11.getD A13 default).2) ((B3.getD A13 default).2)) = false → ((again (.pick (.const (AV.bool false)) (.const (AV.bool true)) (.const (AV.bool (notB (strEq ((B11.getD A13 default).2) ((B3.getD A13 default).2)))))) .lf (AV.bool false) h = true ∧ again (.eq .str true (.const (AV.str ((B11.getD A13 default).2))) (.const (AV.str ((B3.getD A13 default).2)))) .lf (AV.bool (notB (strEq ((B11.getD A13 default).2) ((B3.getD A13 default).2)))) h = true ∧ again (.toStr (.const w8)) .lf (AV.str ((B3.getD A13 default).2)) h = true ∧ again (.loadS (.const (elemO wB3_1 A13 2 1))) .lf w8 h = true ∧ again (.fieldAddr 1 (.const (elemP wB3_1 A13 2))) .lf (elemO wB3_1 A13 2 1) h = true ∧ again (.idxAddrSl 2 (.const wB3_1) (.const (vi A13))) .lf (elemP wB3_1 A13 2) h = true ∧ again (.move (.const (vi A13))) .lf (vi A13) h = true ∧ again (.move (.const wB3_1)) .lf wB3_1 h = true ∧ again (.toStr (.const w4)) .lf (AV.str ((B11.getD A13 default).2)) h = true ∧ again (.loadS (.const (elemO wB11_1 A13 2 1))) .lf w4 h = true ∧ again (.fieldAddr 1 (.const (elemP wB11_1 A13 2))) .lf (elemO wB11_1 A13 2 1) h = true ∧ again (.idxAddrSl 2 (.const wB11_1) (.const (vi A13))) .lf (elemP wB11_1 A13 2) h = true ∧ again (.move (.const (vi A13))) .lf (vi A13) h = true ∧ again (.move (.const wB11_1)) .lf wB11_1 h = true ∧ again (.move (.const (AV.bool (notB (eqI (Int.ofNat ((B11.getD A13 default).1)) (Int.ofNat ((B3.getD A13 default).1))))))) .lf (AV.bool false) h = true ∧ again (.eq .int true (.const (vb8 ((B11.getD A13 default).1))) (.const (vb8 ((B3.getD A13 default).1)))) .lf (AV.bool (notB (eqI (Int.ofNat ((B11.getD A13 default).1)) (Int.ofNat ((B3.getD A13 default).1))))) h = true ∧ again (.loadS (.const (elemO wB3_1 A13 2 0))) .lf (vb8 ((B3.getD A13 default).1)) h = true ∧ again (.fieldAddr 0 (.const (elemP wB3_1 A13 2))) .lf (elemO wB3_1 A13 2 0) h = true ∧ again (.idxAddrSl 2 (.const wB3_1) (.const (vi A13))) .lf (elemP wB3_1 A13 2) h = true ∧ again (.move (.const (vi A13))) .lf (vi A13) h = true ∧ again (.move (.const wB3_1)) .lf wB3_1 h = true ∧ again (.loadS (.const (elemO wB11_1 A13 2 0))) .lf (vb8 ((B11.getD A13 default).1)) h = true ∧ again (.fieldAddr 0 (.const (elemP wB11_1 A13 2))) .lf (elemO wB11_1 A13 2 0) h = true ∧ again (.idxAddrSl 2 (.const wB11_1) (.const (vi A13))) .lf (elemP wB11_1 A13 2) h = true ∧ again (.move (.const (vi A13))) .lf (vi A13) h = true ∧ again (.move (.const wB11_1)) .lf wB11_1 h = true ∧ True) ∧ ((evQ (.bin .add (.const (vi A13)) (.const (vi 1))) .lf H0 = .ok (vi (A13 + 1)) ∧ KN [some (AV.bool A2), some wB3_1, some wB11_1, some (vi (A13 + 1))] h)))))))))))))))))))))))))))))))))))) ∧ (ltI (Int.ofNat A13) (Int.ofNat B3.length) = false → KE 4 [some (AV.bool A2), some wB3_1, some wB11_1, some (vi A13)] h))))) (fun ls h' => ∃ y, ls = ((fun (z : Nat × Bool × Nat) => [(2, (AV.bool z.2.1)), (3, wB3_1), (11, wB11_1), (13, (vi z.2.2))]) y).map (fun p => some p.2) ∧ (fun (z : Nat × Bool × Nat) (h' : Hp) => lawback_l3 B3 B11 z.1 z.2.1 z.2.2 = some o ∧ Eng.Sep [Frz G_105 k_105, Frz G_102 k_102] h') y h' ∧ (fun (z : Nat × Bool × Nat) => z.1) y < (fun (z : Nat × Bool × Nat) => z.1) (n, A2, A13)) (fun i ls h' => ∃ y, ls = ((fun (z : Nat × Bool × Nat) => [(2, (AV.bool z.2.1)), (3, wB3_1), (11, wB11_1), (13, (vi z.2.2))]) y).map (fun p => some p.2) ∧ (fun (i : Nat) (z : Nat × Bool × Nat) (h' : Hp) => (i = 4) ∧ (i = 4 → o = LO.ex (z.2.1, z.2.2) ∧ Eng.Sep [Frz G_105 k_105, Frz G_102 k_102] h')) i y h') (fun ls h' => (fun (ls : List (Option AV)) (h' : Hp) => ∃ (rt : Bool) (v2 : AV), o = LO.rt rt ∧ ls[0]? = some (some v2) ∧ (v2 = (AV.bool rt))) ls h')) (by kernel_rfl) ?_
  refine ⟨sin_len fB3_2, ?_⟩
  refine ⟨fun c1 => ?_, fun c1 => ?_⟩
  · replace c1 := ltI_t c1
    replace hp := ift hp c1
    have ⟨g2, hp⟩ := gd_inv hp
    obtain ⟨csR6, hcR6, R6⟩ := sin_row fB11_2 g2
    obtain ⟨_, _, rfl, ⟨rfl, f3⟩, ⟨w4, rfl, f5⟩⟩ := hcR6
    refine ⟨w4, sin_idx fB11_2 g2, ?_⟩
    refine ⟨row_addr R6, ?_⟩
    refine ⟨row_loadO S (i := 0) rfl R6 rfl, ?_⟩
    obtain ⟨csR10, hcR10, R10⟩ := sin_row fB3_2 c1
    obtain ⟨_, _, rfl, ⟨rfl, f7⟩, ⟨w8, rfl, f9⟩⟩ := hcR10
    refine ⟨w8, sin_idx fB3_2 c1, ?_⟩
    refine ⟨row_addr R10, ?_⟩
    refine ⟨row_loadO S (i := 1) rfl R10 rfl, ?_⟩
    refine ⟨fun c11 => ?_, fun c11 => ?_⟩
    · have rc11 := c11
      replace c11 := eqI_f (notB_t c11)
      replace hp := ift hp c11
      refine ⟨⟨again_of (rfl) (avEq_bool _), again_of (congrArg (fun b => OV.ok (AV.bool b)) rc11) (avEq_bool _), again_of (rfl) (avEq_bool _), again_of (row_loadO S (i := 1) rfl R10 rfl) (avEq_int _ _), again_of (row_addr R10) (elemO_same _ _ _ _), again_of (sin_idx fB3_2 c1) (elemP_same _ _ _), again_of (rfl) (avEq_int _ _), again_of (rfl) (SIn.same fB3_2), again_of (row_loadO S (i := 0) rfl R6 rfl) (avEq_int _ _), again_of (row_addr R6) (elemO_same _ _ _ _), again_of (sin_idx fB11_2 g2) (elemP_same _ _ _), again_of (rfl) (avEq_int _ _), again_of (rfl) (SIn.same fB11_2), trivial⟩, ?_⟩
      refine ⟨_, (AV.bool false), (Option.some.inj hp).symm, rfl, ?_⟩
      exact rfl
    have rc11 := c11
    replace c11 := eqI_t (notB_f c11)
    replace hp := iff0 hp (nneO c11)
    refine ⟨sin_idx fB11_2 g2, ?_⟩
    refine ⟨row_addr R6, ?_⟩
    refine ⟨row_loadO S (i := 0) rfl R6 rfl, ?_⟩
    refine ⟨q_toStr (BIn.now S (i := 0) rfl f5), ?_⟩
    refine ⟨sin_idx fB3_2 c1, ?_⟩
    refine ⟨row_addr R10, ?_⟩
    refine ⟨row_loadO S (i := 1) rfl R10 rfl, ?_⟩
    refine ⟨q_toStr (BIn.now S (i := 1) rfl f9), ?_⟩
    refine ⟨fun c12 => ?_, fun c12 => ?_⟩
    · have rc12 := c12
      replace c12 := strEq_f (notB_t c12)
      replace hp := ift hp c12
      refine ⟨⟨again_of (congrArg (fun b => OV.ok (AV.bool b)) rc12) (avEq_bool _), again_of (rfl) (avEq_bool _), again_of (q_toStr (BIn.now S (i := 1) rfl f9)) (avEq_str _), again_of (row_loadO S (i := 1) rfl R10 rfl) (BIn.same f9), again_of (row_addr R10) (elemO_same _ _ _ _), again_of (sin_idx fB3_2 c1) (elemP_same _ _ _), again_of (rfl) (avEq_int _ _), again_of (rfl) (SIn.same fB3_2), again_of (q_toStr (BIn.now S (i := 0) rfl f5)) (avEq_str _), again_of (row_loadO S (i := 0) rfl R6 rfl) (BIn.same f5), again_of (row_addr R6) (elemO_same _ _ _ _), again_of (sin_idx fB11_2 g2) (elemP_same _ _ _), again_of (rfl) (avEq_int _ _), again_of (rfl) (SIn.same fB11_2), again_of (congrArg (fun b => OV.ok (AV.bool b)) rc11) (avEq_bool _), again_of (rfl) (avEq_bool _), again_of (row_loadO S (i := 1) rfl R10 rfl) (avEq_int _ _), again_of (row_addr R10) (elemO_same _ _ _ _), again_of (sin_idx fB3_2 c1) (elemP_same _ _ _), again_of (rfl) (avEq_int _ _), again_of (rfl) (SIn.same fB3_2), again_of (row_loadO S (i := 0) rfl R6 rfl) (avEq_int _ _), again_of (row_addr R6) (elemO_same _ _ _ _), again_of (sin_idx fB11_2 g2) (elemP_same _ _ _), again_of (rfl) (avEq_int _ _), again_of (rfl) (SIn.same fB11_2), trivial⟩, ?_⟩
      refine ⟨_, (AV.bool false), (Option.some.inj hp).symm, rfl, ?_⟩
      exact rfl
    have rc12 := c12
    replace c12 := strEq_t (notB_f c12)
    replace hp := iff0 hp (nneO c12)
    refine ⟨⟨again_of (congrArg (fun b => OV.ok (AV.bool b)) rc12) (avEq_bool _), again_of (rfl) (avEq_bool _), again_of (q_toStr (BIn.now S (i := 1) rfl f9)) (avEq_str _), again_of (row_loadO S (i := 1) rfl R10 rfl) (BIn.same f9), again_of (row_addr R10) (elemO_same _ _ _ _), again_of (sin_idx fB3_2 c1) (elemP_same _ _ _), again_of (rfl) (avEq_int _ _), again_of (rfl) (SIn.same fB3_2), again_of (q_toStr (BIn.now S (i := 0) rfl f5)) (avEq_str _), again_of (row_loadO S (i := 0) rfl R6 rfl) (BIn.same f5), again_of (row_addr R6) (elemO_same _ _ _ _), again_of (sin_idx fB11_2 g2) (elemP_same _ _ _), again_of (rfl) (avEq_int _ _), again_of (rfl) (SIn.same fB11_2), again_of (congrArg (fun b => OV.ok (AV.bool b)) rc11) (avEq_bool _), again_of (rfl) (avEq_bool _), again_of (row_loadO S (i := 1) rfl R10 rfl) (avEq_int _ _), again_of (row_addr R10) (elemO_same _ _ _ _), again_of (sin_idx fB3_2 c1) (elemP_same _ _ _), again_of (rfl) (avEq_int _ _), again_of (rfl) (SIn.same fB3_2), again_of (row_loadO S (i := 0) rfl R6 rfl) (avEq_int _ _), again_of (row_addr R6) (elemO_same _ _ _ _), again_of (sin_idx fB11_2 g2) (elemP_same _ _ _), again_of (rfl) (avEq_int _ _), again_of (rfl) (SIn.same fB11_2), trivial⟩, ?_⟩
    have ⟨g13, hp⟩ := gd_inv hp
    refine ⟨q_add g13, ?_⟩
    refine ⟨(m, A2, A13 + 1), rfl, ⟨hp, S⟩, by show m < n; omega⟩
  replace c1 := ltI_f c1
  replace hp := iff0 hp (nltO c1)
  refine ⟨(m, A2, A13), rfl, rfl, fun _ => ⟨(Option.some.inj hp).symm, S⟩⟩
theorem lawback_l3_t {call : CallT} {N : Nat} {wB3_1 : AV} {wB11_1 : AV} {G_105 : Nat → Prop} {k_105 : Hp} {G_102 : Nat → Prop} {k_102 : Hp} {B3 : List (Nat × List Nat)} {B11 : List (Nat × List Nat)} (fB3_2 : SIn (rP (rU .u8) rY) G_102 k_102 wB3_1 B3) (fB11_2 : SIn (rP (rU .u8) rY) G_105 k_105 wB11_1 B11) (h_begun : TrueS call 34) (h_split : C_split call) (h_join : C_join call) {o : LO (Bool × Nat) (Bool)} {n : Nat} {A2 : Bool} {A13 : Nat} {h : Hp} (hi : (fun (z : Nat × Bool × Nat) (h' : Hp) => lawback_l3 B3 B11 z.1 z.2.1 z.2.2 = some o ∧ Eng.Sep [Frz G_105 k_105, Frz G_102 k_102] h') (n, A2, A13) h) (hN : n < N) (hN' : 90000 < N) {t : T} (ht : Has ((fun (z : Nat × Bool × Nat) => [(2, (AV.bool z.2.1)), (3, wB3_1), (11, wB11_1), (13, (vi z.2.2))]) (n, A2, A13)) t) :
    (∃ i y t' h', evC call N (.loop lawback_l3C) t h = .exit i t' h' ∧ Has ((fun (z : Nat × Bool × Nat) => [(2, (AV.bool z.2.1)), (3, wB3_1), (11, wB11_1), (13, (vi z.2.2))]) y) t' ∧ (fun (i : Nat) (z : Nat × Bool × Nat) (h' : Hp) => (i = 4) ∧ (i = 4 → o = LO.ex (z.2.1, z.2.2) ∧ Eng.Sep [Frz G_105 k_105, Frz G_102 k_102] h')) i y h') ∨ (∃ t' h', evC call N (.loop lawback_l3C) t h = .ret t' h' ∧ (fun (ls : List (Option AV)) (h' : Hp) => ∃ (rt : Bool) (v2 : AV), o = LO.rt rt ∧ ls[0]? = some (some v2) ∧ (v2 = (AV.bool rt))) (slots [2, 3, 11, 13] t') h') :=
  loop_st (fun (z : Nat × Bool × Nat) => [(2, (AV.bool z.2.1)), (3, wB3_1), (11, wB11_1), (13, (vi z.2.2))]) [2, 3, 11, 13] (fun _ => rfl) (fun (z : Nat × Bool × Nat) (h' : Hp) => lawback_l3 B3 B11 z.1 z.2.1 z.2.2 = some o ∧ Eng.Sep [Frz G_105 k_105, Frz G_102 k_102] h') (fun (z : Nat × Bool × Nat) => z.1) (fun (i : Nat) (z : Nat × Bool × Nat) (h' : Hp) => (i = 4) ∧ (i = 4 → o = LO.ex (z.2.1, z.2.2) ∧ Eng.Sep [Frz G_105 k_105, Frz G_102 k_102] h')) (fun (ls : List (Option AV)) (h' : Hp) => ∃ (rt : Bool) (v2 : AV), o = LO.rt rt ∧ ls[0]? = some (some v2) ∧ (v2 = (AV.bool rt))) (fun ⟨n, A2, A13⟩ t h hi => lawback_l3_body fB3_2 fB11_2 h_begun h_split h_join hN' hi) (n, A2, A13) h hi hN t ht
noncomputable def lawback_p (l : List (Nat × List Nat)) : Option (Bool) :=
  (if 10 < l.length then (some true) else
    (ob (lawback_l1 l [1, 2, 3, 4, 5, 6, 7, 8, 9, 12, 10, 11] 90000 false ([] : List (Nat × List Nat)) (-1 : Int) true 0) fun o9 =>
    (LO.on o9 (fun s_o9 => (ob (join_p s_o9.2.1) fun x20 =>
    (ob (split_p x20) fun x33 =>
    (if s_o9.2.2.2.1 = false then (if x33.2 = 2 then (if x33.1.length = 0 then (some true) else
    (some false)) else
    (some false)) else
    (if x33.2 ≠ 0 then (some false) else
    (if x33.1.length ≠ s_o9.2.1.length then (some false) else
    (ob (lawback_l3 s_o9.2.1 x33.1 90000 s_o9.1 0) fun o53 =>
    (LO.on o53 (fun s_o53 => (some true)) (fun y60 =>
    (some y60)))))))))) (fun y16 =>
    (some y16)))))
theorem lawback_w {call : CallT} {N : Nat} {h : Hp} {wl_1 : AV} {l : List (Nat × List Nat)} (fl_2 : SIn (rP (rU .u8) rY) (Low h) h wl_1 l) (h_begun : TrueS call 34) (h_split : C_split call) (h_join : C_join call) (hN : 90000 < N) {r : Bool} (hp : lawback_p l = some r) :
    ∃ rv rh, evF1 (progS Try.prog (compDrawn Try.prog)) N call 9 [wl_1] h = .ok rv rh ∧ (fun (rv : AV) (rh : Hp) => rv = (AV.bool r)) rv rh := by
  have S : Eng.Sep [Frz (Low h) h] h := Sep.start h
  unfold lawback_p at hp
  refine fwalk_ok (K := (fun (rv : AV) (rh : Hp) => rv = (AV.bool r))) (o := (.eff 1 (AV.bool true) h (.tell 2 (vi l.length) (.fork 0 .fin (.dis 6 (.exi 0 fun (A2o9 : Bool) => (.exi 0 fun (A3o9 : List (Nat × List Nat)) => (.exi 0 fun (A4o9 : Int) => (.exi 0 fun (A5o9 : Bool) => (.exi 0 fun (A7o9 : Nat) => (.exi 0 fun (wA3o9 : AV) => (.exi 0 fun (t12 : T) => (.exi 0 fun (h13 : Hp) => (.lp 0 (.exit 0 (ovT [(0, wl_1), (2, (AV.bool A2o9)), (3, wA3o9), (4, (AV.int .i64 A4o9)), (5, (AV.bool A5o9)), (6, (AV.slice (Hp.next h) 0 12 12 1 true)), (7, (vi A7o9))] t12) h13) (.exi 1 fun (x20 : List Nat) => (.exi 0 fun (w24 : AV) => (.exi 0 fun (h27 : Hp) => (.eff 0 w24 h27 (.exi 0 fun (x33 : List (Nat × List Nat) × Nat) => (.exi 0 fun (w37 : AV) => (.exi 0 fun (h41 : Hp) => (.eff 0 (AV.tuple [w37, (vi x33.2)]) h41 (.fork 6 (.fork 2 (.tell 1 (vi x33.1.length) (.fork 2 .fin .fin)) .fin) (.fork 2 .fin (.tell 1 (vi x33.1.length) (.tell 1 (vi A3o9.length) (.fork 1 .fin (.dis 1 (.exi 0 fun (A2o53 : Bool) => (.exi 0 fun (A13o53 : Nat) => (.exi 0 fun (t56 : T) => (.exi 0 fun (h57 : Hp) => (.lp 0 (.exit 4 (ovT [(2, (AV.bool A2o53)), (3, wA3o9), (11, w37), (13, (vi A13o53))] t56) h57) .fin))))) (.exi 0 fun (y60 : Bool) => (.exi 0 fun (v2o53 : AV) => (.exi 0 fun (t58 : T) => (.exi 0 fun (h59 : Hp) => (.lp 0 (.ret (ovT [(2, v2o53)] t58) h59) .fin)))))))))))))))))))))))))))) (.exi 0 fun (y16 : Bool) => (.exi 0 fun (v2o9 : AV) => (.exi 0 fun (t14 : T) => (.exi 0 fun (h15 : Hp) => (.lp 0 (.ret (ovT [(2, v2o9)] t14) h15) .fin)))))))))) (p := (fun (KK : AV → Hp → Prop) => (call 34 [] h = .ok (AV.bool true) h ∧ ((evQ (.lenL (.const wl_1)) .lf H0 = .ok (vi l.length) ∧ ((ltI (Int.ofNat 10) (Int.ofNat l.length) = true → KK (AV.bool true) h) ∧ (ltI (Int.ofNat 10) (Int.ofNat l.length) = false → ((∃ A2o9 : Bool, ∃ A3o9 : List (Nat × List Nat), ∃ A4o9 : Int, ∃ A5o9 : Bool, ∃ A7o9 : Nat, ∃ wA3o9 : AV, ∃ t12 : T, ∃ h13 : Hp, (evC call N (.loop lawback_l1C) (ovT [(0, wl_1), (2, (AV.bool false)), (3, AV.nilSlice), (4, (AV.int .i64 (Int.negSucc 0))), (5, (AV.bool true)), (6, (AV.slice (Hp.next h) 0 12 12 1 true)), (7, (vi 0)), (14, (AV.bool true)), (15, (AV.bool false)), (16, wl_1), (17, (vi l.length)), (18, (AV.bool false)), (19, (AV.slice (Hp.next h) 0 12 12 1 true))] .lf) (hpush h (mkCells [(vb8 1), (vb8 2), (vb8 3), (vb8 4), (vb8 5), (vb8 6), (vb8 7), (vb8 8), (vb8 9), (vb8 12), (vb8 10), (vb8 11)] 12)) = (.exit 0 (ovT [(0, wl_1), (2, (AV.bool A2o9)), (3, wA3o9), (4, (AV.int .i64 A4o9)), (5, (AV.bool A5o9)), (6, (AV.slice (Hp.next h) 0 12 12 1 true)), (7, (vi A7o9))] t12) h13) ∧ True ∧ (∃ x20 : List Nat, ∃ w24 : AV, ∃ h27 : Hp, (call 39 [wA3o9] h13 = .ok w24 h27 ∧ (∃ x33 : List (Nat × List Nat) × Nat, ∃ w37 : AV, ∃ h41 : Hp, (call 35 [w24] h27 = .ok (AV.tuple [w37, (vi x33.2)]) h41 ∧ ((notB A5o9 = true → ((eqI (Int.ofNat x33.2) (Int.ofNat 2) = true → ((evQ (.lenL (.const w37)) .lf H0 = .ok (vi x33.1.length) ∧ ((eqI (Int.ofNat x33.1.length) (Int.ofNat 0) = true → KK (AV.bool true) h41) ∧ (eqI (Int.ofNat x33.1.length) (Int.ofNat 0) = false → KK (AV.bool false) h41))))) ∧ (eqI (Int.ofNat x33.2) (Int.ofNat 2) = false → KK (AV.bool false) h41))) ∧ (notB A5o9 = false → ((notB (eqI (Int.ofNat x33.2) (Int.ofNat 0)) = true → KK (AV.bool false) h41) ∧ (notB (eqI (Int.ofNat x33.2) (Int.ofNat 0)) = false → ((evQ (.lenL (.const w37)) .lf H0 = .ok (vi x33.1.length) ∧ ((evQ (.lenL (.const wA3o9)) .lf H0 = .ok (vi A3o9.length) ∧ ((notB (eqI (Int.ofNat x33.1.length) (Int.ofNat A3o9.length)) = true → KK (AV.bool false) h41) ∧ (notB (eqI (Int.ofNat x33.1.length) (Int.ofNat A3o9.length)) = false → ((∃ A2o53 : Bool, ∃ A13o53 : Nat, ∃ t56 : T, ∃ h57 : Hp, (evC call N (.loop lawback_l3C) (ovT [(0, wl_1), (2, (AV.bool A2o9)), (3, wA3o9), (4, (AV.int .i64 A4o9)), (5, (AV.bool A5o9)), (6, (AV.slice (Hp.next h) 0 12 12 1 true)), (7, (vi A7o9)), (11, w37), (12, (vi x33.2)), (13, (vi 0)), (79, (AV.tuple [w37, (vi x33.2)])), (80, wA3o9), (81, w24), (82, (AV.tuple [w37, (vi x33.2)])), (83, w37), (84, (vi x33.2)), (85, (AV.bool A5o9)), (86, (AV.bool false)), (94, (vi x33.2)), (95, (AV.bool (notB (eqI (Int.ofNat x33.2) (Int.ofNat 0))))), (96, (AV.bool false)), (97, w37), (98, (vi x33.1.length)), (99, wA3o9), (100, (vi A3o9.length)), (101, (AV.bool (notB (eqI (Int.ofNat x33.1.length) (Int.ofNat A3o9.length))))), (102, (AV.bool false))] t12) h41 = (.exit 4 (ovT [(2, (AV.bool A2o53)), (3, wA3o9), (11, w37), (13, (vi A13o53))] t56) h57) ∧ True ∧ KK (AV.bool true) h57)) ∨ (∃ y60 : Bool, ∃ v2o53 : AV, ∃ t58 : T, ∃ h59 : Hp, (evC call N (.loop lawback_l3C) (ovT [(0, wl_1), (2, (AV.bool A2o9)), (3, wA3o9), (4, (AV.int .i64 A4o9)), (5, (AV.bool A5o9)), (6, (AV.slice (Hp.next h) 0 12 12 1 true)), (7, (vi A7o9)), (11, w37), (12, (vi x33.2)), (13, (vi 0)), (79, (AV.tuple [w37, (vi x33.2)])), (80, wA3o9), (81, w24), (82, (AV.tuple [w37, (vi x33.2)])), (83, w37), (84, (vi x33.2)), (85, (AV.bool A5o9)), (86, (AV.bool false)), (94, (vi x33.2)), (95, (AV.bool (notB (eqI (Int.ofNat x33.2) (Int.ofNat 0))))), (96, (AV.bool false)), (97, w37), (98, (vi x33.1.length)), (99, wA3o9), (100, (vi A3o9.length)), (101, (AV.bool (notB (eqI (Int.ofNat x33.1.length) (Int.ofNat A3o9.length))))), (102, (AV.bool false))] t12) h41 = (.ret (ovT [(2, v2o53)] t58) h59) ∧ True ∧ KK v2o53 h59))))))))))))))))))) ∨ (∃ y16 : Bool, ∃ v2o9 : AV, ∃ t14 : T, ∃ h15 : Hp, (evC call N (.loop lawback_l1C) (ovT [(0, wl_1), (2, (AV.bool false)), (3, AV.nilSlice), (4, (AV.int .i64 (Int.negSucc 0))), (5, (AV.bool true)), (6, (AV.slice (Hp.next h) 0 12 12 1 true)), (7, (vi 0)), (14, (AV.bool true)), (15, (AV.bool false)), (16, wl_1), (17, (vi l.length)), (18, (AV.bool false)), (19, (AV.slice (Hp.next h) 0 12 12 1 true))] .lf) (hpush h (mkCells [(vb8 1), (vb8 2), (vb8 3), (vb8 4), (vb8 5), (vb8 6), (vb8 7), (vb8 8), (vb8 9), (vb8 12), (vb8 10), (vb8 11)] 12)) = (.ret (ovT [(2, v2o9)] t14) h15) ∧ True ∧ KK v2o9 h15))))))))) (fun (rv : AV) (rh : Hp) => rv = (AV.bool r))) (by kernel_rfl) ?_
  refine ⟨h_begun _, ?_⟩
  refine ⟨sin_len fl_2, ?_⟩
  refine ⟨fun c1 => ?_, fun c1 => ?_⟩
  · replace c1 := ltI_t c1
    replace hp := ift hp c1
    obtain rfl := Option.some.inj hp
    exact rfl
  replace c1 := ltI_f c1
  replace hp := iff0 hp (nltO c1)
  have S2 := own_new S 1 12 [(vb8 1), (vb8 2), (vb8 3), (vb8 4), (vb8 5), (vb8 6), (vb8 7), (vb8 8), (vb8 9), (vb8 12), (vb8 10), (vb8 11)] true rfl
  have S3 := S2.empty
  have S4 := own_nil S3 2
  have S5 : Sep [Frz (fun _ => False) (hpush h (mkCells [(vb8 1), (vb8 2), (vb8 3), (vb8 4), (vb8 5), (vb8 6), (vb8 7), (vb8 8), (vb8 9), (vb8 12), (vb8 10), (vb8 11)] 12)), Frz (Low h) h, OwnO 2 AV.nilSlice (([] : List (Nat × List Nat)).length) [], OwnO 1 (AV.slice (Hp.next h) 0 12 12 1 true) 12 (u8s [1, 2, 3, 4, 5, 6, 7, 8, 9, 12, 10, 11])] (hpush h (mkCells [(vb8 1), (vb8 2), (vb8 3), (vb8 4), (vb8 5), (vb8 6), (vb8 7), (vb8 8), (vb8 9), (vb8 12), (vb8 10), (vb8 11)] 12)) := S4.sel [1, 3, 0, 2] (by decide) rfl
  obtain ⟨G6, uG6, vG6, sG6⟩ := Sep.mergeX S5
  have S8 : Sep [OwnO 2 AV.nilSlice (([] : List (Nat × List Nat)).length) [], OwnO 1 (AV.slice (Hp.next h) 0 12 12 1 true) 12 (u8s [1, 2, 3, 4, 5, 6, 7, 8, 9, 12, 10, 11]), Frz G6 (hpush h (mkCells [(vb8 1), (vb8 2), (vb8 3), (vb8 4), (vb8 5), (vb8 6), (vb8 7), (vb8 8), (vb8 9), (vb8 12), (vb8 10), (vb8 11)] 12))] (hpush h (mkCells [(vb8 1), (vb8 2), (vb8 3), (vb8 4), (vb8 5), (vb8 6), (vb8 7), (vb8 8), (vb8 9), (vb8 12), (vb8 10), (vb8 11)] 12)) := sG6.sel [1, 2, 0] (by decide) rfl
  have ⟨o9, hb10, hp⟩ := ob_inv hp
  rcases lawback_l1_t (SIn.up vG6 fl_2) (cons_lt (show 1 < 256 by decide) (cons_lt (show 2 < 256 by decide) (cons_lt (show 3 < 256 by decide) (cons_lt (show 4 < 256 by decide) (cons_lt (show 5 < 256 by decide) (cons_lt (show 6 < 256 by decide) (cons_lt (show 7 < 256 by decide) (cons_lt (show 8 < 256 by decide) (cons_lt (show 9 < 256 by decide) (cons_lt (show 12 < 256 by decide) (cons_lt (show 10 < 256 by decide) (cons_lt (show 11 < 256 by decide) nil_lt)))))))))))) h_begun h_split h_join (o := o9) (B0 := l) (B6 := [1, 2, 3, 4, 5, 6, 7, 8, 9, 12, 10, 11]) (n := 90000) (A2 := false) (A3 := ([] : List (Nat × List Nat))) (A4 := (-1 : Int)) (A5 := true) (A7 := 0) (wA3 := AV.nilSlice) (LA3 := []) (G_102 := G6) (k_102 := hpush h (mkCells [(vb8 1), (vb8 2), (vb8 3), (vb8 4), (vb8 5), (vb8 6), (vb8 7), (vb8 8), (vb8 9), (vb8 12), (vb8 10), (vb8 11)] 12)) ⟨hb10, (Rows.up uG6 (own_rows_nil _ _ _)), (Up.refl _ _), S8⟩ hN hN (t := (ovT [(0, wl_1), (2, (AV.bool false)), (3, AV.nilSlice), (4, (AV.int .i64 (Int.negSucc 0))), (5, (AV.bool true)), (6, (AV.slice (Hp.next h) 0 12 12 1 true)), (7, (vi 0)), (14, (AV.bool true)), (15, (AV.bool false)), (16, wl_1), (17, (vi l.length)), (18, (AV.bool false)), (19, (AV.slice (Hp.next h) 0 12 12 1 true))] .lf)) (show slots [0, 2, 3, 4, 5, 6, 7] _ = [some wl_1, some (AV.bool false), some AV.nilSlice, some (AV.int .i64 (Int.negSucc 0)), some (AV.bool true), some (AV.slice (Hp.next h) 0 12 12 1 true), some (vi 0)] by kernel_rfl) with ⟨io9, ⟨_, A2o9, A3o9, A4o9, A5o9, A7o9, wA3o9, LA3o9, G_102o9, k_102o9⟩, t12, h13, qo9, wo9, zo9⟩ | ⟨t14, h15, qo9, zo9⟩
  · obtain ⟨jo9, zo9⟩ := zo9
    subst jo9
    replace zo9 := zo9 rfl
    obtain ⟨uo9, fA3o9, fU_102o9, So9⟩ := zo9
    replace uo9 := uo9.symm
    subst uo9
    replace hp := LO.on_ex.symm.trans hp
    try dsimp only at hp
    refine Or.inl ⟨A2o9, A3o9, A4o9, A5o9, A7o9, wA3o9, t12, h13, (qo9.trans (congrArg (fun t => RS.exit 0 t h13) (ovT_eq wo9).symm)), trivial, ?_⟩
    have S17 : Sep [OwnO 2 wA3o9 A3o9.length LA3o9, Frz G_102o9 k_102o9, OwnO 1 (AV.slice (Hp.next h) 0 12 12 1 true) ([1, 2, 3, 4, 5, 6, 7, 8, 9, 12, 10, 11].length) (u8s [1, 2, 3, 4, 5, 6, 7, 8, 9, 12, 10, 11])] h13 := So9.sel [0, 2, 1] (by decide) rfl
    obtain ⟨G18, pG18, uG18, sG18⟩ := own_freezeR (a := (rP (rU .u8) rY)) S17 fA3o9 rfl
    have ⟨x20, hb21, hp⟩ := ob_inv hp
    obtain ⟨v26, h27, q28, w24, e29, f25, S30⟩ := h_join (SIn.up (Sep.low sG18 (i := 0) rfl) pG18) hb21
    replace e29 := e29.symm
    subst e29
    have S32 := Sep.call sG18 (news := [OwnO 1 w24 x20.length (u8s x20)]) S30
    refine ⟨x20, w24, h27, q28, ?_⟩
    have ⟨x33, hb34, hp⟩ := ob_inv hp
    obtain ⟨v40, h41, q42, w37, L39, G35, k36, e43, f38, S44⟩ := h_split (own_bin S32 (i := 0) rfl f25) hb34
    replace e43 := e43.symm
    subst e43
    have S46 := Sep.call S32 (news := [OwnO 2 w37 x33.1.length L39, Frz G35 k36]) S44
    refine ⟨x33, w37, h41, q42, ?_⟩
    refine ⟨fun c47 => ?_, fun c47 => ?_⟩
    · replace c47 := notB_t c47
      replace hp := ift hp c47
      refine ⟨fun c48 => ?_, fun c48 => ?_⟩
      · replace c48 := eqI_t c48
        replace hp := ift hp c48
        refine ⟨own_len S46 (i := 0) rfl, ?_⟩
        refine ⟨fun c49 => ?_, fun c49 => ?_⟩
        · replace c49 := eqI_t c49
          replace hp := ift hp c49
          obtain rfl := Option.some.inj hp
          exact rfl
        replace c49 := eqI_f c49
        replace hp := iff0 hp (c49)
        obtain rfl := Option.some.inj hp
        exact rfl
      replace c48 := eqI_f c48
      replace hp := iff0 hp (c48)
      obtain rfl := Option.some.inj hp
      exact rfl
    replace c47 := notB_f c47
    replace hp := iff0 hp (nbT c47)
    refine ⟨fun c48 => ?_, fun c48 => ?_⟩
    · replace c48 := eqI_f (notB_t c48)
      replace hp := ift hp c48
      obtain rfl := Option.some.inj hp
      exact rfl
    replace c48 := eqI_t (notB_f c48)
    replace hp := iff0 hp (nneO c48)
    refine ⟨own_len S46 (i := 0) rfl, ?_⟩
    refine ⟨sin_len pG18, ?_⟩
    refine ⟨fun c49 => ?_, fun c49 => ?_⟩
    · replace c49 := eqI_f (notB_t c49)
      replace hp := ift hp c49
      obtain rfl := Option.some.inj hp
      exact rfl
    replace c49 := eqI_t (notB_f c49)
    replace hp := iff0 hp (nneO c49)
    obtain ⟨G50, pG50, uG50, sG50⟩ := own_freezeR (a := (rP (rU .u8) rY)) S46 f38 rfl
    have S52 : Sep [Frz G50 h41, Frz G18 h13] h41 := sG50.sel [0, 2] (by decide) rfl
    have ⟨o53, hb54, hp⟩ := ob_inv hp
    rcases lawback_l3_t pG18 pG50 h_begun h_split h_join (o := o53) (B3 := A3o9) (B11 := x33.1) (n := 90000) (A2 := A2o9) (A13 := 0) ⟨hb54, S52⟩ hN hN (t := (ovT [(0, wl_1), (2, (AV.bool A2o9)), (3, wA3o9), (4, (AV.int .i64 A4o9)), (5, (AV.bool A5o9)), (6, (AV.slice (Hp.next h) 0 12 12 1 true)), (7, (vi A7o9)), (11, w37), (12, (vi x33.2)), (13, (vi 0)), (79, (AV.tuple [w37, (vi x33.2)])), (80, wA3o9), (81, w24), (82, (AV.tuple [w37, (vi x33.2)])), (83, w37), (84, (vi x33.2)), (85, (AV.bool A5o9)), (86, (AV.bool false)), (94, (vi x33.2)), (95, (AV.bool (notB (eqI (Int.ofNat x33.2) (Int.ofNat 0))))), (96, (AV.bool false)), (97, w37), (98, (vi x33.1.length)), (99, wA3o9), (100, (vi A3o9.length)), (101, (AV.bool (notB (eqI (Int.ofNat x33.1.length) (Int.ofNat A3o9.length))))), (102, (AV.bool false))] t12)) (show slots [2, 3, 11, 13] _ = [some (AV.bool A2o9), some wA3o9, some w37, some (vi 0)] by kernel_rfl) with ⟨io53, ⟨_, A2o53, A13o53⟩, t56, h57, qo53, wo53, zo53⟩ | ⟨t58, h59, qo53, zo53⟩
    · obtain ⟨jo53, zo53⟩ := zo53
      subst jo53
      replace zo53 := zo53 rfl
      obtain ⟨uo53, So53⟩ := zo53
      replace uo53 := uo53.symm
      subst uo53
      replace hp := LO.on_ex.symm.trans hp
      try dsimp only at hp
      refine Or.inl ⟨A2o53, A13o53, t56, h57, (qo53.trans (congrArg (fun t => RS.exit 4 t h57) (ovT_eq wo53).symm)), trivial, ?_⟩
      obtain rfl := Option.some.inj hp
      exact rfl
    obtain ⟨y60, v2o53, uo53, go53_2, Ko53⟩ := zo53
    replace uo53 := uo53.symm
    subst uo53
    replace go53_2 : tget (pathOf 2) t58 = some v2o53 := Option.some.inj go53_2
    replace hp := LO.on_rt.symm.trans hp
    try dsimp only at hp
    refine Or.inr ⟨y60, v2o53, t58, h59, (qo53.trans (congrArg (fun t => RS.ret t h59) (ovT_eq (l := [(2, v2o53)]) (by show [tget (pathOf 2) t58] = _; rw [go53_2]; rfl)).symm)), trivial, ?_⟩
    obtain rfl := Option.some.inj hp
    exact Ko53
  obtain ⟨y16, v2o9, uo9, go9_2, Ko9⟩ := zo9
  replace uo9 := uo9.symm
  subst uo9
  replace go9_2 : tget (pathOf 2) t14 = some v2o9 := Option.some.inj go9_2
  replace hp := LO.on_rt.symm.trans hp
  try dsimp only at hp
  refine Or.inr ⟨y16, v2o9, t14, h15, (qo9.trans (congrArg (fun t => RS.ret t h15) (ovT_eq (l := [(2, v2o9)]) (by show [tget (pathOf 2) t14] = _; rw [go9_2]; rfl)).symm)), trivial, ?_⟩
  obtain rfl := Option.some.inj hp
  exact Ko9
end Go.Proofs.Ytejiebbbodealaa
end
section
set_option linter.unusedVariables false
set_option linter.unusedSimpArgs false
namespace Go.Proofs.Ytejiebbbodealaa
open Go Eng
abbrev Sc := Nat × List Nat
abbrev ord : List Nat := [1, 2, 3, 4, 5, 6, 7, 8, 9, 12, 10, 11]
def fin (x : Nat) : Nat → Nat → Int → Int
  | 0, _, a => a
  | k + 1, i, a => fin x k (i + 1) (if ord.getD i 0 = x then ((i : Nat) : Int) else a)
def pl (x : Nat) : Int := fin x 12 0 (-1)
theorem place_eq : ∀ x < 256, place_p x = some (pl x) := by decide +kernel
theorem pl_ge : ∀ x < 256, -1 ≤ pl x := by decide +kernel
theorem pl_0 : pl 0 = -1 := by decide +kernel
theorem pl_big : ∀ x < 256, 12 < x → pl x = -1 := by decide +kernel
theorem l2_eq {B0 : List Sc} {B2 : Bool} {B3 : List Sc} {B4 : Int} {B5 : Bool} {B7 : Nat} (x : Nat) (y : List Nat) : ∀ (k m i : Nat) (a : Int), i + k = 12 → k < m → lawback_l2 B0 B2 B3 B4 B5 ord B7 m a i x y = some (fin x k i a, 12, x, y)
  | 0, m + 1, i, a, hi, hm => by
    rw [lawback_l2, if_neg (show ¬ i < ord.length by show ¬ i < 12; omega)]
    obtain rfl : i = 12 := by omega
    rfl
  | k + 1, m + 1, i, a, hi, hm => by
    rw [lawback_l2, if_pos (show i < ord.length by show i < 12; omega)]
    by_cases h : ord.getD i 0 = x
    · rw [if_pos h, gd_t (by omega), l2_eq x y k m (i + 1) _ (by omega) (by omega)]
      show _ = some (fin x k (i + 1) (if ord.getD i 0 = x then ((i : Nat) : Int) else a), 12, x, y)
      rw [if_pos h]
    · rw [if_neg h, gd_t (by omega), l2_eq x y k m (i + 1) _ (by omega) (by omega)]
      show _ = some (fin x k (i + 1) (if ord.getD i 0 = x then ((i : Nat) : Int) else a), 12, x, y)
      rw [if_neg h]
def fS (s : Sc) : Sc := if s.1 = 0 then (0, [1, 97] ++ s.2) else s
def lst : Int → List Sc → Int
  | a, [] => a
  | a, s :: r => lst (if s.1 = 0 then a else max a (pl s.1)) r
def rg : Int → List Sc → Bool
  | _, [] => true
  | a, s :: r => if s.1 = 0 then rg a r else decide (a < pl s.1) && rg (max a (pl s.1)) r
theorem get_of {l : List Sc} {i : Nat} (h : i < l.length) : l.getD i default = l[i] := by rw [List.getD_eq_getElem?_getD, List.getElem?_eq_getElem h]; rfl
theorem l1_eq (l : List Sc) (hl : l.length ≤ 10) : ∀ (k m i : Nat) (A2 : Bool) (A3 : List Sc) (A4 : Int) (A5 : Bool), i + k = l.length → k < m → A3.length + k ≤ 10 →
    ∃ o, lawback_l1 l ord m A2 A3 A4 A5 i = some o ∧ (o = LO.rt true ∨ (o = LO.ex (A2, A3 ++ (l.drop i).map fS, lst A4 (l.drop i), A5 && rg A4 (l.drop i), l.length) ∧ ∀ s ∈ l.drop i, s.2.length ≤ 30))
  | 0, m + 1, i, A2, A3, A4, A5, hi, hm, hA => by
    obtain rfl : i = l.length := by omega
    rw [lawback_l1, if_neg (Nat.lt_irrefl _)]
    exact ⟨_, rfl, .inr ⟨by rw [List.drop_length]; simp [lst, rg], by rw [List.drop_length]; simp⟩⟩
  | k + 1, m + 1, i, A2, A3, A4, A5, hi, hm, hA => by
    have h : i < l.length := by omega
    have hd : l.drop i = l[i] :: l.drop (i + 1) := List.drop_eq_getElem_cons h
    rw [lawback_l1, if_pos h, get_of h]
    by_cases hb : 30 < l[i].2.length
    · rw [if_pos hb]; exact ⟨_, rfl, .inl rfl⟩
    rw [if_neg hb]
    have more : ∀ (s : Sc) (a : Int) (b : Bool), fS l[i] = s → lst a (l.drop (i + 1)) = lst A4 (l.drop i) → (b && rg a (l.drop (i + 1))) = (A5 && rg A4 (l.drop i)) →
        ∃ o, lawback_l1 l ord m A2 (A3 ++ [s]) a b (i + 1) = some o ∧ (o = LO.rt true ∨ (o = LO.ex (A2, A3 ++ (l.drop i).map fS, lst A4 (l.drop i), A5 && rg A4 (l.drop i), l.length) ∧ ∀ s ∈ l.drop i, s.2.length ≤ 30)) := by
      intro s a b h1 h2 h3
      obtain ⟨o, e1, e2⟩ := l1_eq l hl k m (i + 1) A2 (A3 ++ [s]) a b (by omega) (by omega) (by simp; omega)
      refine ⟨o, e1, e2.imp id fun ⟨e3, e4⟩ => ⟨?_, ?_⟩⟩
      · rw [e3, h2, h3, hd, List.map_cons, h1, List.append_assoc]; rfl
      · intro s hs
        rw [hd] at hs
        rcases List.mem_cons.1 hs with rfl | hs
        · omega
        · exact e4 s hs
    by_cases h0 : l[i].1 = 0
    · rw [if_pos h0, gd_t (by omega), gd_t (by omega), gd_t (by omega)]
      refine more _ _ _ ?_ ?_ ?_
      · unfold fS; rw [if_pos h0, h0]
      · rw [hd]; show _ = lst (if l[i].1 = 0 then A4 else _) _; rw [if_pos h0]
      · rw [hd]; show _ = (A5 && if l[i].1 = 0 then rg A4 _ else _); rw [if_pos h0]
    · rw [if_neg h0, l2_eq (l[i].1) (l[i].2) 12 90000 0 (-1) (by omega) (by omega), ob_some]
      have e1 : fS l[i] = (l[i].1, l[i].2) := by unfold fS; rw [if_neg h0]
      have e2 : lst (max A4 (pl l[i].1)) (l.drop (i + 1)) = lst A4 (l.drop i) := by rw [hd]; show _ = lst (if l[i].1 = 0 then A4 else _) _; rw [if_neg h0]
      have e3 : (A5 && rg A4 (l.drop i)) = (A5 && (decide (A4 < pl l[i].1) && rg (max A4 (pl l[i].1)) (l.drop (i + 1)))) := by rw [hd]; show (A5 && if l[i].1 = 0 then _ else _) = _; rw [if_neg h0]
      dsimp only
      by_cases h5 : A5 = true
      · rw [if_pos h5, gd_t (by omega), gd_t (by omega)]
        refine more _ _ _ e1 e2 ?_
        rw [e3, h5, ltI_eq, Bool.true_and]
        rfl
      · rw [if_neg h5, gd_t (by omega), gd_t (by omega)]
        refine more _ _ _ e1 e2 ?_
        rw [e3, Bool.eq_false_iff.2 h5]
        simp
def encS (s : Sc) : List Nat := s.1 :: s.2.length :: s.2
def front : List Nat := [0, 97, 115, 109, 1, 0, 0, 0]
theorem encS_len (l : List Sc) (h : ∀ s ∈ l, s.2.length ≤ 32) : (l.flatMap encS).length ≤ l.length * 34 := by
  induction l with
  | nil => simp
  | cons s l ih =>
    have h1 := h s (by simp)
    have h2 := ih fun s hs => h s (by simp [hs])
    have h3 : (encS s).length = s.2.length + 2 := rfl
    rw [List.flatMap_cons, List.length_append, List.length_cons, Nat.succ_mul]; omega
theorem join_l (l : List Sc) (hl : l.length ≤ 10) (h : ∀ s ∈ l, s.2.length ≤ 32) : ∀ (k m i : Nat) (acc : List Nat), i + k = l.length → k < m → acc.length + k * 34 ≤ 1000 → join_l1 l l.length m acc i = some (acc ++ (l.drop i).flatMap encS, l.length)
  | 0, m + 1, i, acc, hi, hm, ha => by
    obtain rfl : i = l.length := by omega
    rw [join_l1, if_neg (Nat.lt_irrefl _), List.drop_length]
    simp
  | k + 1, m + 1, i, acc, hi, hm, ha => by
    have hlt : i < l.length := by omega
    have hd : l.drop i = l[i] :: l.drop (i + 1) := List.drop_eq_getElem_cons hlt
    have hs := h l[i] (List.getElem_mem hlt)
    rw [join_l1, if_pos hlt, get_of hlt, gd_t hlt, lebU_lo (by omega), gd_t (by omega), gd_t (by omega), gd_t (by simp; omega), gd_t (by simp; omega), gd_t (by omega)]
    rw [join_l l hl h k m (i + 1) _ (by omega) (by omega) (by simp; omega)]
    rw [hd, List.flatMap_cons]
    simp only [encS, List.append_assoc, List.cons_append, List.nil_append]
theorem join_eq (l : List Sc) (hl : l.length ≤ 10) (h : ∀ s ∈ l, s.2.length ≤ 32) : join_p l = some (front ++ l.flatMap encS) := by
  unfold join_p
  rw [join_l l hl h l.length 90000 0 _ (by omega) (by omega) (by simp; omega), ob_some]
  rfl
theorem read1 {n : Nat} {l : List Nat} (h : n < 128) : readG 32 false (n :: l) 0 0 0 = (n, 1, 0) := by
  have := readG_u (size := 32) (i := 0) (v := 0) (x := n) (l := l) (by omega) (by decide)
  rw [Nat.mul_zero] at this
  rw [this, if_neg (by intro h; have := h.1; omega), if_pos h, (bits8 n (by omega)).2 h]
  simp
  try omega
def okS (s : Sc) : Prop := s.1 < 256 ∧ s.2.length ≤ 32 ∧ (s.1 = 0 → ∃ t, s.2 = 1 :: 97 :: t)
theorem utf8_a : utf8_p [97] = some true := by decide +kernel
theorem named_t {t : List Nat} (h : t.length ≤ 30) : named_p (1 :: 97 :: t) = some true := by
  unfold named_p
  rw [gd_t (by simp; omega), read1 (by decide), ob_some]
  dsimp only
  rw [if_pos rfl, gd_t (by simp), gd_t (by simp; omega), if_pos (by simp), gd_t (by decide), gd_t (by simp), gd_t (by decide)]
  have : ((1 :: 97 :: t).take (1 + 1 % 4294967296)).drop 1 = [97] := rfl
  rw [this, utf8_a, ob_some, if_pos rfl]
theorem split_l : ∀ (l acc : List Sc) (m : Nat) (A2 : List Nat) (A3 : Nat) (a : Int), l.length < m → (∀ s ∈ l, okS s) → acc.length + l.length ≤ 20 → -1 ≤ a → l.length ≤ 10 →
    ∃ o, split_l1 m (l.flatMap encS) A2 A3 acc a = some o ∧ (rg a l = true → o = LO.ex ([], A2, A3, acc ++ l, lst a l)) ∧ (rg a l = false → o = LO.rt ([], 2))
  | [], acc, m + 1, A2, A3, a, hm, hs, hl, ha, h10 => by
    rw [split_l1, if_neg (by simp)]
    exact ⟨_, rfl, fun _ => (by simp [lst]), fun h => (by simp [rg] at h)⟩
  | s :: l, acc, m + 1, A2, A3, a, hm, hs, hl, ha, h10 => by
    obtain ⟨k1, k2, k3⟩ := hs s (by simp)
    have hs' : ∀ s ∈ l, okS s := fun s h => hs s (by simp [h])
    have hrest := encS_len l fun s h => (hs' s h).2.1
    have h10' : l.length ≤ 9 := by simp at h10; omega
    have e0 : (s :: l).flatMap encS = s.1 :: s.2.length :: (s.2 ++ l.flatMap encS) := by rw [List.flatMap_cons]; rfl
    have e1 : (s.1 :: s.2.length :: (s.2 ++ l.flatMap encS)).getD 0 0 = s.1 := rfl
    have e2 : (s.1 :: s.2.length :: (s.2 ++ l.flatMap encS)).drop 1 = s.2.length :: (s.2 ++ l.flatMap encS) := rfl
    have e3 : (s.1 :: s.2.length :: (s.2 ++ l.flatMap encS)).drop (1 + 1) = s.2 ++ l.flatMap encS := rfl
    have hmod : s.2.length % 4294967296 = s.2.length := Nat.mod_eq_of_lt (by omega)
    have e4 : (s.2 ++ l.flatMap encS).take s.2.length = s.2 := by simp
    have e5 : (s.2 ++ l.flatMap encS).drop s.2.length = l.flatMap encS := by simp
    have hpl := pl_ge s.1 k1
    have stop12 : 12 < s.1 → rg a (s :: l) = false := fun h => by
      show (if s.1 = 0 then _ else decide (a < pl s.1) && _) = false
      rw [if_neg (by omega), pl_big s.1 k1 h, decide_eq_false (by omega)]; rfl
    have hlen : s.2.length ≤ (s.2 ++ l.flatMap encS).length := by simp
    have hlen2 : (s.2 ++ l.flatMap encS).length ≤ 1000 := by rw [List.length_append]; omega
    rw [e0, split_l1, if_pos (by simp), e1]
    by_cases hbig : 12 < s.1
    · rw [if_pos hbig]
      exact ⟨_, rfl, fun h => (by rw [stop12 hbig] at h; cases h), fun _ => rfl⟩
    rw [if_neg hbig]
    by_cases h0 : 0 < s.1
    · have hne : ¬ s.1 = 0 := by omega
      have er : rg a (s :: l) = (decide (a < pl s.1) && rg (max a (pl s.1)) l) := by show (if s.1 = 0 then _ else _) = _; rw [if_neg hne]
      have el : lst a (s :: l) = lst (max a (pl s.1)) l := by show lst (if s.1 = 0 then _ else _) _ = _; rw [if_neg hne]
      rw [if_pos h0, place_eq s.1 k1, ob_some]
      by_cases hp : pl s.1 ≤ a
      · rw [if_pos hp]
        refine ⟨_, rfl, fun h => ?_, fun _ => rfl⟩
        rw [er, decide_eq_false (by omega)] at h
        cases h
      · obtain ⟨o, o1, o2, o3⟩ := split_l l (acc ++ [s]) m A2 A3 (max a (pl s.1)) (by simp at hm; omega) hs' (by simp at hl ⊢; omega) (by omega) (by omega)
        rw [if_neg hp, gd_t (by simp), e2, gd_t (by rw [List.length_cons]; omega), read1 (by omega), ob_some]
        dsimp only
        rw [if_neg (by decide), gd_t (by decide), gd_t (by simp), e3, gd_t (by omega), hmod, if_neg (by omega), e4, gd_t (by omega), if_neg hne, ob_some, gd_t (by omega), e5]
        refine ⟨o, o1, fun h => ?_, fun h => ?_⟩
        · rw [er, decide_eq_true (by omega)] at h
          rw [o2 (by simpa using h), el, List.append_assoc]; rfl
        · rw [er, decide_eq_true (by omega)] at h
          exact o3 (by simpa using h)
    · have h0' : s.1 = 0 := by omega
      obtain ⟨t, ht⟩ := k3 h0'
      have er : rg a (s :: l) = rg a l := by show (if s.1 = 0 then _ else _) = _; rw [if_pos h0']
      have el : lst a (s :: l) = lst a l := by show lst (if s.1 = 0 then _ else _) _ = _; rw [if_pos h0']
      obtain ⟨o, o1, o2, o3⟩ := split_l l (acc ++ [s]) m A2 A3 a (by simp at hm; omega) hs' (by simp at hl ⊢; omega) ha (by omega)
      have hn : named_p s.2 = some true := by rw [ht]; exact named_t (by have := k2; rw [ht] at this; simp at this; omega)
      rw [if_neg h0, gd_t (by simp), e2, gd_t (by rw [List.length_cons]; omega), read1 (by omega), ob_some]
      dsimp only
      rw [if_neg (by decide), gd_t (by decide), gd_t (by simp), e3, gd_t (by omega), hmod, if_neg (by omega), e4, gd_t (by omega), if_pos h0', hn, ob_some, if_neg (by decide), place_eq s.1 k1, ob_some, gd_t (by omega), e5]
      rw [h0', pl_0, show max a (-1) = a by omega, ← h0']
      refine ⟨o, o1, fun h => ?_, fun h => ?_⟩
      · rw [er] at h
        rw [o2 h, el, List.append_assoc]; rfl
      · rw [er] at h
        exact o3 h
theorem l3_eq (l : List Sc) (hl : l.length ≤ 10) : ∀ (k m i : Nat) (A2 : Bool), i + k = l.length → k < m → lawback_l3 l l m A2 i = some (LO.ex (A2, l.length))
  | 0, m + 1, i, A2, hi, hm => by
    obtain rfl : i = l.length := by omega
    rw [lawback_l3, if_neg (Nat.lt_irrefl _)]
  | k + 1, m + 1, i, A2, hi, hm => by
    rw [lawback_l3, if_pos (by omega), gd_t (by omega), if_neg (fun h => h rfl), if_neg (fun h => h rfl), gd_t (by omega)]
    exact l3_eq l hl k m (i + 1) A2 (by omega) (by omega)
theorem rg_map : ∀ (l : List Sc) (a : Int), rg a (l.map fS) = rg a l
  | [], a => rfl
  | s :: l, a => by
    have h1 : (fS s).1 = s.1 := by
      unfold fS
      split
      · rename_i h; exact h.symm
      · rfl
    show (if (fS s).1 = 0 then rg a (l.map fS) else decide (a < pl (fS s).1) && rg (max a (pl (fS s).1)) (l.map fS)) = if s.1 = 0 then rg a l else decide (a < pl s.1) && rg (max a (pl s.1)) l
    rw [h1, rg_map l a, rg_map l]
theorem lawback_t (l : List Sc) (hl : ∀ s ∈ l, s.1 < 256) : lawback_p l = some true := by
  unfold lawback_p
  by_cases h10 : 10 < l.length
  · rw [if_pos h10]
  have h10 : l.length ≤ 10 := by omega
  rw [if_neg (by omega)]
  obtain ⟨o, o1, o2⟩ := l1_eq l h10 l.length 90000 0 false [] (-1) true (by omega) (by omega) (by simp; omega)
  rw [o1, ob_some]
  rcases o2 with rfl | ⟨rfl, o3⟩
  · rw [LO.on_rt]
  rw [LO.on_ex, List.drop_zero] at *
  dsimp only
  rw [List.nil_append, Bool.true_and]
  have hlen : (l.map fS).length = l.length := List.length_map _
  have ok : ∀ s ∈ l.map fS, okS s := fun s hs => by
    obtain ⟨t, ht, rfl⟩ := List.mem_map.1 hs
    have h1 := hl t ht
    have h2 := o3 t ht
    unfold fS
    by_cases h0 : t.1 = 0
    · rw [if_pos h0]
      exact ⟨(show 0 < 256 by decide), by simp; omega, fun _ => ⟨t.2, rfl⟩⟩
    · rw [if_neg h0]
      exact ⟨h1, by omega, fun h => absurd h h0⟩
  rw [join_eq _ (by omega) fun s hs => (ok s hs).2.1, ob_some]
  obtain ⟨p, p1, p2, p3⟩ := split_l (l.map fS) [] 90000 [] 0 (-1) (by omega) ok (by simp; omega) (by omega) (by omega)
  have hsp : split_p (front ++ (l.map fS).flatMap encS) = ob (split_l1 90000 ((l.map fS).flatMap encS) [] 0 [] (-1)) fun o7 => (LO.on o7 (fun s_o7 => (some (s_o7.2.2.2.1, 0))) (fun y14 => (some y14))) := by
    unfold split_p
    rw [if_neg (by simp [front]), if_neg (by simp [front])]
    rfl
  rw [hsp, p1, ob_some]
  cases hr : rg (-1) l with
  | true =>
    rw [p2 (by rw [rg_map]; exact hr), LO.on_ex, ob_some]
    dsimp only
    rw [if_neg (by decide), if_neg (by decide), List.nil_append, if_neg (fun h => h rfl), l3_eq _ (by omega) (l.map fS).length 90000 0 _ (by omega) (by omega), ob_some, LO.on_ex]
  | false =>
    rw [p3 (by rw [rg_map]; exact hr), LO.on_rt, ob_some]
    dsimp only
    rw [if_pos rfl, if_pos rfl]
    rfl
end Go.Proofs.Ytejiebbbodealaa
end
