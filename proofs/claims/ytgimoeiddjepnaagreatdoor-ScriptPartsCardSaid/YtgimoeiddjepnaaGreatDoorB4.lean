import Derived.Test.YtgimoeiddjepnaaGreatDoorB3
import Derived.KernelRfl
section
set_option linter.unusedVariables false
namespace Go.Proofs.YtgimoeiddjepnaaGreatDoor
set_option linter.unusedVariables false
set_option linter.unusedSimpArgs false
open Go Eng
noncomputable def decode_l1  : Nat → List (Int × Int × Int × Int × List Nat) → List Nat → Bool → Option (List (Int × Int × Int × Int × List Nat) × List Nat × Bool)
  | 0, _, _, _ => none
  | m + 1, A4, Q101_0, Q101_1 =>
    (if 0 < Q101_0.length then (ob (step_p Q101_0 Q101_1) fun x3 =>
    (if x3.2.1 = false then (some ((A4, x3.1, x3.2.1))) else
    (gd ((A4.length + 1) * 56 ≤ 70368744177664) (decode_l1  m (A4 ++ [(x3.2.2.1, x3.2.2.2.1, x3.2.2.2.2.1, x3.2.2.2.2.2.1, x3.2.2.2.2.2.2)]) x3.1 x3.2.1)))) else
    (some ((A4, Q101_0, Q101_1))))
noncomputable def decode_l1C : AC := (.seq (.seq (.region [⟨(some 10), .q (.move (.tmp 3)), none⟩, ⟨(some 11), .q (.nilCheck (.tmp 10)), none⟩, ⟨(some 12), .q (.fieldAddr 0 (.tmp 11)), none⟩, ⟨(some 13), .q (.fieldAddr 0 (.tmp 12)), none⟩, ⟨(some 14), .q (.loadS (.tmp 13)), none⟩, ⟨(some 15), .q (.lenL (.tmp 14)), none⟩, ⟨(some 16), .q (.bin .gtr (.tmp 15) (.const (vi 0))), none⟩]) (.cond (.tmp 16) .skip (.exit 0))) (.block 1 (.seq (.region [⟨(some 17), .q (.move (.tmp 3)), none⟩, ⟨(some 18), .e (.call (.const (AV.func (.func 11) [] [])) [(.tmp 17)]), none⟩, ⟨(some 5), .l (.alloc [(vi 0), (vi 0), (vi 0), (vi 0), AV.nilSlice]), none⟩, ⟨none, .e (.store 5 (.tmp 5) (.tmp 18)), none⟩]) (.seq (.seq (.region [⟨(some 19), .q (.move (.tmp 3)), none⟩, ⟨(some 20), .q (.nilCheck (.tmp 19)), none⟩, ⟨(some 21), .q (.fieldAddr 0 (.tmp 20)), none⟩, ⟨(some 22), .q (.fieldAddr 1 (.tmp 21)), none⟩, ⟨(some 23), .q (.loadS (.tmp 22)), none⟩, ⟨(some 24), .q (.un .not (.tmp 23)), none⟩]) (.cond (.tmp 24) (.exit 0) .skip)) (.region [⟨(some 25), .q (.move (.tmp 4)), none⟩, ⟨(some 26), .q (.loadA 5 (.tmp 5)), none⟩, ⟨(some 27), .l (.buildSlice 5 1 [(vi 0), (vi 0), (vi 0), (vi 0), AV.nilSlice] [(0, 5, (.tmp 26))]), none⟩, ⟨(some 28), .e (.append 5 56 (.tmp 25) (.tmp 27)), none⟩, ⟨(some 4), .q (.move (.tmp 28)), none⟩])))))
theorem decode_l1_body {call : CallT} {N : Nat} {t : T} {h : Hp} {b101 : Nat} {ZG_102 : Nat → Prop} {Zk_102 : Hp} {G : Nat → Prop} {h0 : Hp}   (h_step : C_step call) {o : List (Int × Int × Int × Int × List Nat) × List Nat × Bool} {n : Nat} {A4 : List (Int × Int × Int × Int × List Nat)} {Q101_0 : List Nat} {Q101_1 : Bool} {wA4 : AV} {LA4 : List AV} {wQ101_0_1 : AV} {G_102 : Nat → Prop} {k_102 : Hp} (hN : 90000 < N) (hi : (fun (z : Nat × List (Int × Int × Int × Int × List Nat) × List Nat × Bool × AV × List AV × AV × (Nat → Prop) × Hp) (h' : Hp) => decode_l1  z.1 z.2.1 z.2.2.1 z.2.2.2.1 = some o ∧ (Eng.Rows (rP (rZ .i64) (rP (rZ .i64) (rP (rZ .i64) (rP (rZ .i64) rY)))) z.2.2.2.2.2.2.2.1 z.2.2.2.2.2.2.2.2 z.2.2.2.2.2.1 z.2.1) ∧ (BIn G h0 z.2.2.2.2.2.2.1 z.2.2.1) ∧ (Up ZG_102 Zk_102 z.2.2.2.2.2.2.2.1 z.2.2.2.2.2.2.2.2) ∧ Eng.Sep [OwnO 5 z.2.2.2.2.1 z.2.1.length z.2.2.2.2.2.1, Cel b101 [z.2.2.2.2.2.2.1, (AV.bool z.2.2.2.1)], Frz z.2.2.2.2.2.2.2.1 z.2.2.2.2.2.2.2.2, Frz G h0] h') (n, A4, Q101_0, Q101_1, wA4, LA4, wQ101_0_1, G_102, k_102) h)
    : ∃ s, evC call N decode_l1C (ovT [(2, AV.nilSlice), (3, (AV.ptr b101 0)), (4, wA4)] t) h = s ∧ obsS [2, 3, 4] (fun ls h' => ∃ y, ls = ((fun (z : Nat × List (Int × Int × Int × Int × List Nat) × List Nat × Bool × AV × List AV × AV × (Nat → Prop) × Hp) => [(2, AV.nilSlice), (3, (AV.ptr b101 0)), (4, z.2.2.2.2.1)]) y).map (fun p => some p.2) ∧ (fun (z : Nat × List (Int × Int × Int × Int × List Nat) × List Nat × Bool × AV × List AV × AV × (Nat → Prop) × Hp) (h' : Hp) => decode_l1  z.1 z.2.1 z.2.2.1 z.2.2.2.1 = some o ∧ (Eng.Rows (rP (rZ .i64) (rP (rZ .i64) (rP (rZ .i64) (rP (rZ .i64) rY)))) z.2.2.2.2.2.2.2.1 z.2.2.2.2.2.2.2.2 z.2.2.2.2.2.1 z.2.1) ∧ (BIn G h0 z.2.2.2.2.2.2.1 z.2.2.1) ∧ (Up ZG_102 Zk_102 z.2.2.2.2.2.2.2.1 z.2.2.2.2.2.2.2.2) ∧ Eng.Sep [OwnO 5 z.2.2.2.2.1 z.2.1.length z.2.2.2.2.2.1, Cel b101 [z.2.2.2.2.2.2.1, (AV.bool z.2.2.2.1)], Frz z.2.2.2.2.2.2.2.1 z.2.2.2.2.2.2.2.2, Frz G h0] h') y h' ∧ (fun (z : Nat × List (Int × Int × Int × Int × List Nat) × List Nat × Bool × AV × List AV × AV × (Nat → Prop) × Hp) => z.1) y < (fun (z : Nat × List (Int × Int × Int × Int × List Nat) × List Nat × Bool × AV × List AV × AV × (Nat → Prop) × Hp) => z.1) (n, A4, Q101_0, Q101_1, wA4, LA4, wQ101_0_1, G_102, k_102)) (fun i ls h' => ∃ y, ls = ((fun (z : Nat × List (Int × Int × Int × Int × List Nat) × List Nat × Bool × AV × List AV × AV × (Nat → Prop) × Hp) => [(2, AV.nilSlice), (3, (AV.ptr b101 0)), (4, z.2.2.2.2.1)]) y).map (fun p => some p.2) ∧ (fun (i : Nat) (z : Nat × List (Int × Int × Int × Int × List Nat) × List Nat × Bool × AV × List AV × AV × (Nat → Prop) × Hp) (h' : Hp) => (i = 0) ∧ (i = 0 → o = (z.2.1, z.2.2.1, z.2.2.2.1) ∧ (Eng.Rows (rP (rZ .i64) (rP (rZ .i64) (rP (rZ .i64) (rP (rZ .i64) rY)))) z.2.2.2.2.2.2.2.1 z.2.2.2.2.2.2.2.2 z.2.2.2.2.2.1 z.2.1) ∧ (BIn G h0 z.2.2.2.2.2.2.1 z.2.2.1) ∧ (Up ZG_102 Zk_102 z.2.2.2.2.2.2.2.1 z.2.2.2.2.2.2.2.2) ∧ Eng.Sep [OwnO 5 z.2.2.2.2.1 z.2.1.length z.2.2.2.2.2.1, Cel b101 [z.2.2.2.2.2.2.1, (AV.bool z.2.2.2.1)], Frz z.2.2.2.2.2.2.2.1 z.2.2.2.2.2.2.2.2, Frz G h0] h')) i y h') (fun ls h' => (fun (ls : List (Option AV)) (h' : Hp) => False) ls h') s := by
  have hi : decode_l1  n A4 Q101_0 Q101_1 = some o ∧ (Eng.Rows (rP (rZ .i64) (rP (rZ .i64) (rP (rZ .i64) (rP (rZ .i64) rY)))) G_102 k_102 LA4 A4) ∧ (BIn G h0 wQ101_0_1 Q101_0) ∧ (Up ZG_102 Zk_102 G_102 k_102) ∧ Eng.Sep [OwnO 5 wA4 A4.length LA4, Cel b101 [wQ101_0_1, (AV.bool Q101_1)], Frz G_102 k_102, Frz G h0] h := hi
  obtain ⟨hp, fA4, fQ101_0_2, fU_102, S⟩ := hi
  obtain ⟨m, hm⟩ : ∃ m, n = m + 1 := by
    cases n with
    | zero => first | cases hp | (unfold decode_l1 at hp; cases hp) | (simp [decode_l1] at hp)
    | succ m => exact ⟨m, rfl⟩
  rw [hm] at hp
  unfold decode_l1 at hp
  refine walk_ok (o := (.tell 4 wQ101_0_1 (.tell 0 (vi Q101_0.length) (.fork 0 (.exi 1 fun (x3 : List Nat × Bool × (Int × Int × Int × Int × List Nat)) => (.exi 0 fun (w7 : AV) => (.exi 0 fun (w14 : AV) => (.exi 0 fun (h10 : Hp) => (.eff 0 (AV.agg [(AV.int .i64 x3.2.2.1), (AV.int .i64 x3.2.2.2.1), (AV.int .i64 x3.2.2.2.2.1), (AV.int .i64 x3.2.2.2.2.2.1), w7]) h10 (.effx 1 (fun e19 => (AV.tuple [])) (fun e19 => (.tell 4 (AV.bool x3.2.1) (.fork 0 .fin (.tell 1 (AV.agg [(AV.int .i64 x3.2.2.1), (AV.int .i64 x3.2.2.2.1), (AV.int .i64 x3.2.2.2.2.1), (AV.int .i64 x3.2.2.2.2.2.1), w7]) (.ell 0 (.sl 1 1 5 true) (mkCells [(AV.int .i64 x3.2.2.1), (AV.int .i64 x3.2.2.2.1), (AV.int .i64 x3.2.2.2.2.1), (AV.int .i64 x3.2.2.2.2.2.1), w7] 5) (.effx 0 (fun e23 => e23.v) (fun e23 => .fin))))))))))))) .fin)))) (p := (fun (KN : List (Option AV) → Hp → Prop) (KE : Nat → List (Option AV) → Hp → Prop) (KR : List (Option AV) → Hp → Prop) => ((evQ (.loadS (.const (AV.ptr b101 0))) .lf h = .ok wQ101_0_1 ∧ ((evQ (.lenL (.const wQ101_0_1)) .lf H0 = .ok (vi Q101_0.length) ∧ ((ltI (Int.ofNat 0) (Int.ofNat Q101_0.length) = true → (∃ x3 : List Nat × Bool × (Int × Int × Int × Int × List Nat), ∃ w7 : AV, ∃ w14 : AV, ∃ h10 : Hp, (call 11 [(AV.ptr b101 0)] h = .ok (AV.agg [(AV.int .i64 x3.2.2.1), (AV.int .i64 x3.2.2.2.1), (AV.int .i64 x3.2.2.2.2.1), (AV.int .i64 x3.2.2.2.2.2.1), w7]) h10 ∧ (∃ e19 : Ev, evE (.store 5 (.const (AV.ptr (Hp.next h10) 0)) (.const (AV.agg [(AV.int .i64 x3.2.2.1), (AV.int .i64 x3.2.2.2.1), (AV.int .i64 x3.2.2.2.2.1), (AV.int .i64 x3.2.2.2.2.2.1), w7]))) call .lf (hpush h10 (mkCells [(vi 0), (vi 0), (vi 0), (vi 0), AV.nilSlice] 5)) = .ok (AV.tuple []) e19.h ∧ ((evQ (.loadS (.const (AV.ptr b101 1))) .lf e19.h = .ok (AV.bool x3.2.1) ∧ ((notB x3.2.1 = true → KE 0 [some AV.nilSlice, some (AV.ptr b101 0), some wA4] e19.h) ∧ (notB x3.2.1 = false → ((evQ (.loadA 5 (.const (AV.ptr (Hp.next h10) 0))) .lf e19.h = .ok (AV.agg [(AV.int .i64 x3.2.2.1), (AV.int .i64 x3.2.2.2.1), (AV.int .i64 x3.2.2.2.2.1), (AV.int .i64 x3.2.2.2.2.2.1), w7]) ∧ (evL (.buildSlice 5 1 [(vi 0), (vi 0), (vi 0), (vi 0), AV.nilSlice] [(0, 5, (.const (AV.agg [(AV.int .i64 x3.2.2.1), (AV.int .i64 x3.2.2.2.1), (AV.int .i64 x3.2.2.2.2.1), (AV.int .i64 x3.2.2.2.2.2.1), w7])))]) .lf = .ok (.sl 1 1 5 true) (mkCells [(AV.int .i64 x3.2.2.1), (AV.int .i64 x3.2.2.2.1), (AV.int .i64 x3.2.2.2.2.1), (AV.int .i64 x3.2.2.2.2.2.1), w7] 5) ∧ (∃ e23 : Ev, evE (.append 5 56 (.const wA4) (.const (AV.slice (Hp.next e19.h) 0 1 1 5 true))) call .lf (hpush e19.h (mkCells [(AV.int .i64 x3.2.2.1), (AV.int .i64 x3.2.2.2.1), (AV.int .i64 x3.2.2.2.2.1), (AV.int .i64 x3.2.2.2.2.2.1), w7] 5)) = .ok e23.v e23.h ∧ KN [some AV.nilSlice, some (AV.ptr b101 0), some e23.v] e23.h)))))))))))) ∧ (ltI (Int.ofNat 0) (Int.ofNat Q101_0.length) = false → KE 0 [some AV.nilSlice, some (AV.ptr b101 0), some wA4] h))))))) (fun ls h' => ∃ y, ls = ((fun (z : Nat × List (Int × Int × Int × Int × List Nat) × List Nat × Bool × AV × List AV × AV × (Nat → Prop) × Hp) => [(2, AV.nilSlice), (3, (AV.ptr b101 0)), (4, z.2.2.2.2.1)]) y).map (fun p => some p.2) ∧ (fun (z : Nat × List (Int × Int × Int × Int × List Nat) × List Nat × Bool × AV × List AV × AV × (Nat → Prop) × Hp) (h' : Hp) => decode_l1  z.1 z.2.1 z.2.2.1 z.2.2.2.1 = some o ∧ (Eng.Rows (rP (rZ .i64) (rP (rZ .i64) (rP (rZ .i64) (rP (rZ .i64) rY)))) z.2.2.2.2.2.2.2.1 z.2.2.2.2.2.2.2.2 z.2.2.2.2.2.1 z.2.1) ∧ (BIn G h0 z.2.2.2.2.2.2.1 z.2.2.1) ∧ (Up ZG_102 Zk_102 z.2.2.2.2.2.2.2.1 z.2.2.2.2.2.2.2.2) ∧ Eng.Sep [OwnO 5 z.2.2.2.2.1 z.2.1.length z.2.2.2.2.2.1, Cel b101 [z.2.2.2.2.2.2.1, (AV.bool z.2.2.2.1)], Frz z.2.2.2.2.2.2.2.1 z.2.2.2.2.2.2.2.2, Frz G h0] h') y h' ∧ (fun (z : Nat × List (Int × Int × Int × Int × List Nat) × List Nat × Bool × AV × List AV × AV × (Nat → Prop) × Hp) => z.1) y < (fun (z : Nat × List (Int × Int × Int × Int × List Nat) × List Nat × Bool × AV × List AV × AV × (Nat → Prop) × Hp) => z.1) (n, A4, Q101_0, Q101_1, wA4, LA4, wQ101_0_1, G_102, k_102)) (fun i ls h' => ∃ y, ls = ((fun (z : Nat × List (Int × Int × Int × Int × List Nat) × List Nat × Bool × AV × List AV × AV × (Nat → Prop) × Hp) => [(2, AV.nilSlice), (3, (AV.ptr b101 0)), (4, z.2.2.2.2.1)]) y).map (fun p => some p.2) ∧ (fun (i : Nat) (z : Nat × List (Int × Int × Int × Int × List Nat) × List Nat × Bool × AV × List AV × AV × (Nat → Prop) × Hp) (h' : Hp) => (i = 0) ∧ (i = 0 → o = (z.2.1, z.2.2.1, z.2.2.2.1) ∧ (Eng.Rows (rP (rZ .i64) (rP (rZ .i64) (rP (rZ .i64) (rP (rZ .i64) rY)))) z.2.2.2.2.2.2.2.1 z.2.2.2.2.2.2.2.2 z.2.2.2.2.2.1 z.2.1) ∧ (BIn G h0 z.2.2.2.2.2.2.1 z.2.2.1) ∧ (Up ZG_102 Zk_102 z.2.2.2.2.2.2.2.1 z.2.2.2.2.2.2.2.2) ∧ Eng.Sep [OwnO 5 z.2.2.2.2.1 z.2.1.length z.2.2.2.2.2.1, Cel b101 [z.2.2.2.2.2.2.1, (AV.bool z.2.2.2.1)], Frz z.2.2.2.2.2.2.2.1 z.2.2.2.2.2.2.2.2, Frz G h0] h')) i y h') (fun ls h' => (fun (ls : List (Option AV)) (h' : Hp) => False) ls h')) (by kernel_rfl) ?_
  refine ⟨cel_load S (i := 1) rfl rfl, ?_⟩
  refine ⟨q_len (BIn.now S (i := 3) rfl fQ101_0_2), ?_⟩
  refine ⟨fun c1 => ?_, fun c1 => ?_⟩
  · replace c1 := ltI_t c1
    replace hp := ift hp c1
    have S2 : Sep [Cel b101 [wQ101_0_1, (AV.bool Q101_1)], Frz G h0, OwnO 5 wA4 A4.length LA4, Frz G_102 k_102] h := S.sel [1, 3, 0, 2] (by decide) rfl
    have ⟨x3, hb4, hp⟩ := ob_inv hp
    obtain ⟨v9, h10, q11, w7, w14, G5, k6, e12, f8, f15, S13⟩ := h_step fQ101_0_2 hb4 S2
    replace e12 := e12.symm
    subst e12
    refine ⟨x3, w7, w14, h10, q11, ?_⟩
    have S18 := cel_new S13 [(vi 0), (vi 0), (vi 0), (vi 0), AV.nilSlice] rfl
    obtain ⟨e19, qe19, se19⟩ := cel_storeN call S18 (i := 0) (o := 0) (n := 5) (xs := [(AV.int .i64 x3.2.2.1), (AV.int .i64 x3.2.2.2.1), (AV.int .i64 x3.2.2.2.2.1), (AV.int .i64 x3.2.2.2.2.2.1), w7]) rfl (lb rfl) rfl (by decide) (all_cell rfl (all_cell rfl (all_cell rfl (all_cell rfl (all_cell (BIn.cell f8) all_cell0)))))
    refine ⟨e19, qe19, ?_⟩
    refine ⟨cel_load se19 (i := 1) rfl rfl, ?_⟩
    refine ⟨fun c21 => ?_, fun c21 => ?_⟩
    · replace c21 := notB_t c21
      replace hp := ift hp c21
      have S22 : Sep [OwnO 5 wA4 A4.length LA4, Cel b101 [w14, (AV.bool x3.2.1)], Frz G_102 k_102, Frz G h0] e19.h := se19.sel [4, 1, 5, 3] (by decide) rfl
      refine ⟨(m, A4, x3.1, x3.2.1, wA4, LA4, w14, G_102, k_102), rfl, rfl, fun _ => ⟨(Option.some.inj hp).symm, fA4, f15, fU_102, S22⟩⟩
    replace c21 := notB_f c21
    replace hp := iff0 hp (nbT c21)
    refine ⟨cel_loadA se19 (i := 0) (o := 0) (n := 5) rfl (lb rfl), ?_⟩
    refine ⟨lit_told (n := 5) (by show fillParts _ _ 5 [(vi 0), (vi 0), (vi 0), (vi 0), AV.nilSlice] = _; rw [fill_cons (o := 0) (k := 5) (n := 5) rfl rfl (by decide)]; rfl) (all_cell rfl (all_cell rfl (all_cell rfl (all_cell rfl (all_cell (BIn.cell f8) all_cell0))))) rfl, ?_⟩
    have S22 := own_new se19 5 1 [(AV.int .i64 x3.2.2.1), (AV.int .i64 x3.2.2.2.1), (AV.int .i64 x3.2.2.2.2.1), (AV.int .i64 x3.2.2.2.2.2.1), w7] true rfl
    have S24 : Sep [Frz G_102 k_102, Frz G5 k6, OwnO 5 (AV.slice (Hp.next e19.h) 0 1 1 5 true) 1 [(AV.int .i64 x3.2.2.1), (AV.int .i64 x3.2.2.2.1), (AV.int .i64 x3.2.2.2.2.1), (AV.int .i64 x3.2.2.2.2.2.1), w7], Cel (Hp.next h10) [(AV.int .i64 x3.2.2.1), (AV.int .i64 x3.2.2.2.1), (AV.int .i64 x3.2.2.2.2.1), (AV.int .i64 x3.2.2.2.2.2.1), w7], Cel b101 [w14, (AV.bool x3.2.1)], Frz G h0, OwnO 5 wA4 A4.length LA4] (hpush e19.h (mkCells [(AV.int .i64 x3.2.2.1), (AV.int .i64 x3.2.2.2.1), (AV.int .i64 x3.2.2.2.2.1), (AV.int .i64 x3.2.2.2.2.2.1), w7] 5)) := S22.sel [6, 3, 0, 1, 2, 4, 5] (by decide) rfl
    obtain ⟨G25, uG25, vG25, sG25⟩ := Sep.mergeX S24
    have ⟨g27, hp⟩ := gd_inv hp
    obtain ⟨e23, qe23, se23⟩ := own_append (bytes := 56) call sG25 (i := 5) rfl (x := (AV.slice (Hp.next e19.h) 0 1 1 5 true)) (m := 1) (xs := [(AV.int .i64 x3.2.2.1), (AV.int .i64 x3.2.2.2.1), (AV.int .i64 x3.2.2.2.2.1), (AV.int .i64 x3.2.2.2.2.2.1), w7]) (fun z k => own_src sG25 (i := 1) rfl z k) (own_L sG25 (i := 1) rfl) (all_cell rfl (all_cell rfl (all_cell rfl (all_cell rfl (all_cell (BIn.cell (BIn.up vG25 f8)) all_cell0))))) g27 (by omega)
    obtain ⟨L28, rL28, eL28⟩ : ∃ L, Eng.Rows (rP (rZ .i64) (rP (rZ .i64) (rP (rZ .i64) (rP (rZ .i64) rY)))) G25 (hpush e19.h (mkCells [(AV.int .i64 x3.2.2.1), (AV.int .i64 x3.2.2.2.1), (AV.int .i64 x3.2.2.2.2.1), (AV.int .i64 x3.2.2.2.2.2.1), w7] 5)) L (A4 ++ [(x3.2.2.1, x3.2.2.2.1, x3.2.2.2.2.1, x3.2.2.2.2.2.1, x3.2.2.2.2.2.2)]) ∧ LA4 ++ [(AV.int .i64 x3.2.2.1), (AV.int .i64 x3.2.2.2.1), (AV.int .i64 x3.2.2.2.2.1), (AV.int .i64 x3.2.2.2.2.2.1), w7] = L := ⟨_, (Rows.snoc (Rows.up uG25 fA4) (a := (rP (rZ .i64) (rP (rZ .i64) (rP (rZ .i64) (rP (rZ .i64) rY))))) (x := (x3.2.2.1, x3.2.2.2.1, x3.2.2.2.2.1, x3.2.2.2.2.2.1, x3.2.2.2.2.2.2)) ⟨_, _, rfl, rfl, ⟨_, _, rfl, rfl, ⟨_, _, rfl, rfl, ⟨_, _, rfl, rfl, ⟨w7, rfl, (BIn.up vG25 f8)⟩⟩⟩⟩⟩), rfl⟩
    have S30 : Sep [Frz G25 (hpush e19.h (mkCells [(AV.int .i64 x3.2.2.1), (AV.int .i64 x3.2.2.2.1), (AV.int .i64 x3.2.2.2.2.1), (AV.int .i64 x3.2.2.2.2.2.1), w7] 5)), OwnO 5 (AV.slice (Hp.next e19.h) 0 1 1 5 true) 1 [(AV.int .i64 x3.2.2.1), (AV.int .i64 x3.2.2.2.1), (AV.int .i64 x3.2.2.2.2.1), (AV.int .i64 x3.2.2.2.2.2.1), w7], Cel (Hp.next h10) [(AV.int .i64 x3.2.2.1), (AV.int .i64 x3.2.2.2.1), (AV.int .i64 x3.2.2.2.2.1), (AV.int .i64 x3.2.2.2.2.2.1), w7], Cel b101 [w14, (AV.bool x3.2.1)], Frz G h0, OwnO 5 e23.v ((A4 ++ [(x3.2.2.1, x3.2.2.2.1, x3.2.2.2.2.1, x3.2.2.2.2.2.1, x3.2.2.2.2.2.2)]).length) L28] e23.h := (by have z := se23; rw [eL28, show A4.length + 1 = (A4 ++ [(x3.2.2.1, x3.2.2.2.1, x3.2.2.2.2.1, x3.2.2.2.2.2.1, x3.2.2.2.2.2.2)]).length from by simp] at z; exact z)
    have S31 : Sep [OwnO 5 (AV.slice (Hp.next e19.h) 0 1 1 5 true) 1 [(AV.int .i64 x3.2.2.1), (AV.int .i64 x3.2.2.2.1), (AV.int .i64 x3.2.2.2.2.1), (AV.int .i64 x3.2.2.2.2.2.1), w7], Frz G25 (hpush e19.h (mkCells [(AV.int .i64 x3.2.2.1), (AV.int .i64 x3.2.2.2.1), (AV.int .i64 x3.2.2.2.2.1), (AV.int .i64 x3.2.2.2.2.2.1), w7] 5)), Cel (Hp.next h10) [(AV.int .i64 x3.2.2.1), (AV.int .i64 x3.2.2.2.1), (AV.int .i64 x3.2.2.2.2.1), (AV.int .i64 x3.2.2.2.2.2.1), w7], Cel b101 [w14, (AV.bool x3.2.1)], Frz G h0, OwnO 5 e23.v ((A4 ++ [(x3.2.2.1, x3.2.2.2.1, x3.2.2.2.2.1, x3.2.2.2.2.2.1, x3.2.2.2.2.2.2)]).length) L28] e23.h := S30.sel [1, 0, 2, 3, 4, 5] (by decide) rfl
    have S32 := S31.tail
    refine ⟨e23, qe23, ?_⟩
    have S33 : Sep [OwnO 5 e23.v ((A4 ++ [(x3.2.2.1, x3.2.2.2.1, x3.2.2.2.2.1, x3.2.2.2.2.2.1, x3.2.2.2.2.2.2)]).length) L28, Cel b101 [w14, (AV.bool x3.2.1)], Frz G25 (hpush e19.h (mkCells [(AV.int .i64 x3.2.2.1), (AV.int .i64 x3.2.2.2.1), (AV.int .i64 x3.2.2.2.2.1), (AV.int .i64 x3.2.2.2.2.2.1), w7] 5)), Frz G h0] e23.h := S32.sel [4, 2, 0, 3] (by decide) rfl
    refine ⟨(m, A4 ++ [(x3.2.2.1, x3.2.2.2.1, x3.2.2.2.2.1, x3.2.2.2.2.2.1, x3.2.2.2.2.2.2)], x3.1, x3.2.1, e23.v, L28, w14, G25, hpush e19.h (mkCells [(AV.int .i64 x3.2.2.1), (AV.int .i64 x3.2.2.2.1), (AV.int .i64 x3.2.2.2.2.1), (AV.int .i64 x3.2.2.2.2.2.1), w7] 5)), rfl, ⟨hp, rL28, f15, (Up.trans fU_102 uG25), S33⟩, by show m < n; omega⟩
  replace c1 := ltI_f c1
  replace hp := iff0 hp (nltO c1)
  refine ⟨(m, A4, Q101_0, Q101_1, wA4, LA4, wQ101_0_1, G_102, k_102), rfl, rfl, fun _ => ⟨(Option.some.inj hp).symm, fA4, fQ101_0_2, fU_102, S⟩⟩
theorem decode_l1_t {call : CallT} {N : Nat} {b101 : Nat} {ZG_102 : Nat → Prop} {Zk_102 : Hp} {G : Nat → Prop} {h0 : Hp}   (h_step : C_step call) {o : List (Int × Int × Int × Int × List Nat) × List Nat × Bool} {n : Nat} {A4 : List (Int × Int × Int × Int × List Nat)} {Q101_0 : List Nat} {Q101_1 : Bool} {wA4 : AV} {LA4 : List AV} {wQ101_0_1 : AV} {G_102 : Nat → Prop} {k_102 : Hp} {h : Hp} (hi : (fun (z : Nat × List (Int × Int × Int × Int × List Nat) × List Nat × Bool × AV × List AV × AV × (Nat → Prop) × Hp) (h' : Hp) => decode_l1  z.1 z.2.1 z.2.2.1 z.2.2.2.1 = some o ∧ (Eng.Rows (rP (rZ .i64) (rP (rZ .i64) (rP (rZ .i64) (rP (rZ .i64) rY)))) z.2.2.2.2.2.2.2.1 z.2.2.2.2.2.2.2.2 z.2.2.2.2.2.1 z.2.1) ∧ (BIn G h0 z.2.2.2.2.2.2.1 z.2.2.1) ∧ (Up ZG_102 Zk_102 z.2.2.2.2.2.2.2.1 z.2.2.2.2.2.2.2.2) ∧ Eng.Sep [OwnO 5 z.2.2.2.2.1 z.2.1.length z.2.2.2.2.2.1, Cel b101 [z.2.2.2.2.2.2.1, (AV.bool z.2.2.2.1)], Frz z.2.2.2.2.2.2.2.1 z.2.2.2.2.2.2.2.2, Frz G h0] h') (n, A4, Q101_0, Q101_1, wA4, LA4, wQ101_0_1, G_102, k_102) h) (hN : n < N) (hN' : 90000 < N) {t : T} (ht : Has ((fun (z : Nat × List (Int × Int × Int × Int × List Nat) × List Nat × Bool × AV × List AV × AV × (Nat → Prop) × Hp) => [(2, AV.nilSlice), (3, (AV.ptr b101 0)), (4, z.2.2.2.2.1)]) (n, A4, Q101_0, Q101_1, wA4, LA4, wQ101_0_1, G_102, k_102)) t) :
    (∃ i y t' h', evC call N (.loop decode_l1C) t h = .exit i t' h' ∧ Has ((fun (z : Nat × List (Int × Int × Int × Int × List Nat) × List Nat × Bool × AV × List AV × AV × (Nat → Prop) × Hp) => [(2, AV.nilSlice), (3, (AV.ptr b101 0)), (4, z.2.2.2.2.1)]) y) t' ∧ (fun (i : Nat) (z : Nat × List (Int × Int × Int × Int × List Nat) × List Nat × Bool × AV × List AV × AV × (Nat → Prop) × Hp) (h' : Hp) => (i = 0) ∧ (i = 0 → o = (z.2.1, z.2.2.1, z.2.2.2.1) ∧ (Eng.Rows (rP (rZ .i64) (rP (rZ .i64) (rP (rZ .i64) (rP (rZ .i64) rY)))) z.2.2.2.2.2.2.2.1 z.2.2.2.2.2.2.2.2 z.2.2.2.2.2.1 z.2.1) ∧ (BIn G h0 z.2.2.2.2.2.2.1 z.2.2.1) ∧ (Up ZG_102 Zk_102 z.2.2.2.2.2.2.2.1 z.2.2.2.2.2.2.2.2) ∧ Eng.Sep [OwnO 5 z.2.2.2.2.1 z.2.1.length z.2.2.2.2.2.1, Cel b101 [z.2.2.2.2.2.2.1, (AV.bool z.2.2.2.1)], Frz z.2.2.2.2.2.2.2.1 z.2.2.2.2.2.2.2.2, Frz G h0] h')) i y h') ∨ (∃ t' h', evC call N (.loop decode_l1C) t h = .ret t' h' ∧ (fun (ls : List (Option AV)) (h' : Hp) => False) (slots [2, 3, 4] t') h') :=
  loop_st (fun (z : Nat × List (Int × Int × Int × Int × List Nat) × List Nat × Bool × AV × List AV × AV × (Nat → Prop) × Hp) => [(2, AV.nilSlice), (3, (AV.ptr b101 0)), (4, z.2.2.2.2.1)]) [2, 3, 4] (fun _ => rfl) (fun (z : Nat × List (Int × Int × Int × Int × List Nat) × List Nat × Bool × AV × List AV × AV × (Nat → Prop) × Hp) (h' : Hp) => decode_l1  z.1 z.2.1 z.2.2.1 z.2.2.2.1 = some o ∧ (Eng.Rows (rP (rZ .i64) (rP (rZ .i64) (rP (rZ .i64) (rP (rZ .i64) rY)))) z.2.2.2.2.2.2.2.1 z.2.2.2.2.2.2.2.2 z.2.2.2.2.2.1 z.2.1) ∧ (BIn G h0 z.2.2.2.2.2.2.1 z.2.2.1) ∧ (Up ZG_102 Zk_102 z.2.2.2.2.2.2.2.1 z.2.2.2.2.2.2.2.2) ∧ Eng.Sep [OwnO 5 z.2.2.2.2.1 z.2.1.length z.2.2.2.2.2.1, Cel b101 [z.2.2.2.2.2.2.1, (AV.bool z.2.2.2.1)], Frz z.2.2.2.2.2.2.2.1 z.2.2.2.2.2.2.2.2, Frz G h0] h') (fun (z : Nat × List (Int × Int × Int × Int × List Nat) × List Nat × Bool × AV × List AV × AV × (Nat → Prop) × Hp) => z.1) (fun (i : Nat) (z : Nat × List (Int × Int × Int × Int × List Nat) × List Nat × Bool × AV × List AV × AV × (Nat → Prop) × Hp) (h' : Hp) => (i = 0) ∧ (i = 0 → o = (z.2.1, z.2.2.1, z.2.2.2.1) ∧ (Eng.Rows (rP (rZ .i64) (rP (rZ .i64) (rP (rZ .i64) (rP (rZ .i64) rY)))) z.2.2.2.2.2.2.2.1 z.2.2.2.2.2.2.2.2 z.2.2.2.2.2.1 z.2.1) ∧ (BIn G h0 z.2.2.2.2.2.2.1 z.2.2.1) ∧ (Up ZG_102 Zk_102 z.2.2.2.2.2.2.2.1 z.2.2.2.2.2.2.2.2) ∧ Eng.Sep [OwnO 5 z.2.2.2.2.1 z.2.1.length z.2.2.2.2.2.1, Cel b101 [z.2.2.2.2.2.2.1, (AV.bool z.2.2.2.1)], Frz z.2.2.2.2.2.2.2.1 z.2.2.2.2.2.2.2.2, Frz G h0] h')) (fun (ls : List (Option AV)) (h' : Hp) => False) (fun ⟨n, A4, Q101_0, Q101_1, wA4, LA4, wQ101_0_1, G_102, k_102⟩ t h hi => decode_l1_body h_step hN' hi) (n, A4, Q101_0, Q101_1, wA4, LA4, wQ101_0_1, G_102, k_102) h hi hN t ht
noncomputable def decode_p (l : List Nat) : Option (List (Int × Int × Int × Int × List Nat)) :=
  (ob (decode_l1  90000 ([] : List (Int × Int × Int × Int × List Nat)) l true) fun o5 =>
    (some o5.1))
theorem decode_w {call : CallT} {N : Nat} {h : Hp} {wl_1 : AV} {l : List Nat} (fl_2 : BIn (Low h) h wl_1 l) (h_step : C_step call) (hN : 90000 < N) {r : List (Int × Int × Int × Int × List Nat)} (hp : decode_p l = some r) :
    ∃ rv rh, evF1 (progS Tryz.prog (compDrawn Tryz.prog)) N call 6 [wl_1] h = .ok rv rh ∧ (fun (rv : AV) (rh : Hp) => ∃ wk1 : AV, ∃ Lk3 : List AV, ∃ Gk : Nat → Prop, ∃ kk : Hp, rv = wk1 ∧ (Eng.Rows (rP (rZ .i64) (rP (rZ .i64) (rP (rZ .i64) (rP (rZ .i64) rY)))) Gk kk Lk3 r) ∧ Eng.Sep (OwnO 5 wk1 r.length Lk3 :: Frz Gk kk :: Frz (Low h) h :: []) rh) rv rh := by
  have S : Eng.Sep [Frz (Low h) h] h := Sep.start h
  unfold decode_p at hp
  refine fwalk_ok (K := (fun (rv : AV) (rh : Hp) => ∃ wk1 : AV, ∃ Lk3 : List AV, ∃ Gk : Nat → Prop, ∃ kk : Hp, rv = wk1 ∧ (Eng.Rows (rP (rZ .i64) (rP (rZ .i64) (rP (rZ .i64) (rP (rZ .i64) rY)))) Gk kk Lk3 r) ∧ Eng.Sep (OwnO 5 wk1 r.length Lk3 :: Frz Gk kk :: Frz (Low h) h :: []) rh)) (o := (.tell 2 (AV.agg [wl_1, (AV.bool true)]) (.ell 1 .ptr (mkCells [wl_1, (AV.bool true)] 2) (.exi 2 fun (A4o5 : List (Int × Int × Int × Int × List Nat)) => (.exi 0 fun (Q101_0o5 : List Nat) => (.exi 0 fun (Q101_1o5 : Bool) => (.exi 0 fun (wA4o5 : AV) => (.exi 0 fun (wQ101_0_1o5 : AV) => (.exi 0 fun (t8 : T) => (.exi 0 fun (h9 : Hp) => (.lp 0 (.exit 0 (ovT [(2, AV.nilSlice), (3, (AV.ptr (Hp.next h) 0)), (4, wA4o5)] t8) h9) .fin))))))))))) (p := (fun (KK : AV → Hp → Prop) => ((evQ (.build [AV.nilSlice, (AV.bool false)] [(0, 1, (.const wl_1)), (1, 1, (.const (AV.bool true)))]) .lf H0 = .ok (AV.agg [wl_1, (AV.bool true)]) ∧ (evL (.box (.const (AV.agg [wl_1, (AV.bool true)]))) .lf = .ok .ptr (mkCells [wl_1, (AV.bool true)] 2) ∧ (∃ A4o5 : List (Int × Int × Int × Int × List Nat), ∃ Q101_0o5 : List Nat, ∃ Q101_1o5 : Bool, ∃ wA4o5 : AV, ∃ wQ101_0_1o5 : AV, ∃ t8 : T, ∃ h9 : Hp, (evC call N (.loop decode_l1C) (ovT [(0, wl_1), (2, AV.nilSlice), (3, (AV.ptr (Hp.next h) 0)), (4, AV.nilSlice), (6, wl_1), (7, (AV.agg [wl_1, (AV.bool true)])), (8, (AV.agg [wl_1, (AV.bool true)])), (9, (AV.ptr (Hp.next h) 0))] .lf) (hpush h (mkCells [wl_1, (AV.bool true)] 2)) = (.exit 0 (ovT [(2, AV.nilSlice), (3, (AV.ptr (Hp.next h) 0)), (4, wA4o5)] t8) h9) ∧ True ∧ KK wA4o5 h9)))))) (fun (rv : AV) (rh : Hp) => ∃ wk1 : AV, ∃ Lk3 : List AV, ∃ Gk : Nat → Prop, ∃ kk : Hp, rv = wk1 ∧ (Eng.Rows (rP (rZ .i64) (rP (rZ .i64) (rP (rZ .i64) (rP (rZ .i64) rY)))) Gk kk Lk3 r) ∧ Eng.Sep (OwnO 5 wk1 r.length Lk3 :: Frz Gk kk :: Frz (Low h) h :: []) rh)) (by kernel_rfl) ?_
  refine ⟨build_told (by show fillParts [(0, 1, (.const wl_1)), (1, 1, (.const (AV.bool true)))] .lf 2 [AV.nilSlice, (AV.bool false)] = _; rw [fill_cons (o := 0) (k := 1) (n := 2) (BIn.cells fl_2) rfl (by decide), fill_cons (o := 1) (k := 1) (n := 2) rfl rfl (by decide)]; rfl), ?_⟩
  refine ⟨box_told rfl rfl (all_cell (BIn.cell fl_2) (all_cell rfl all_cell0)), ?_⟩
  have S1 := cel_new S [wl_1, (AV.bool true)] rfl
  have S2 := S1.empty
  have S3 := own_nil S2 5
  have S4 : Sep [OwnO 5 AV.nilSlice (([] : List (Int × Int × Int × Int × List Nat)).length) [], Cel (Hp.next h) [wl_1, (AV.bool true)], Frz (fun _ => False) (hpush h (mkCells [wl_1, (AV.bool true)] 2)), Frz (Low h) h] (hpush h (mkCells [wl_1, (AV.bool true)] 2)) := S3.sel [0, 2, 1, 3] (by decide) rfl
  have ⟨o5, hb6, hp⟩ := ob_inv hp
  rcases decode_l1_t  h_step (o := o5) (n := 90000) (A4 := ([] : List (Int × Int × Int × Int × List Nat))) (Q101_0 := l) (Q101_1 := true) (wA4 := AV.nilSlice) (LA4 := []) (wQ101_0_1 := wl_1) (G_102 := (fun _ => False)) (k_102 := hpush h (mkCells [wl_1, (AV.bool true)] 2)) ⟨hb6, (own_rows_nil _ _ _), fl_2, (Up.refl _ _), S4⟩ hN hN (t := (ovT [(0, wl_1), (2, AV.nilSlice), (3, (AV.ptr (Hp.next h) 0)), (4, AV.nilSlice), (6, wl_1), (7, (AV.agg [wl_1, (AV.bool true)])), (8, (AV.agg [wl_1, (AV.bool true)])), (9, (AV.ptr (Hp.next h) 0))] .lf)) (show slots [2, 3, 4] _ = [some AV.nilSlice, some (AV.ptr (Hp.next h) 0), some AV.nilSlice] by kernel_rfl) with ⟨io5, ⟨_, A4o5, Q101_0o5, Q101_1o5, wA4o5, LA4o5, wQ101_0_1o5, G_102o5, k_102o5⟩, t8, h9, qo5, wo5, zo5⟩ | ⟨_, _, _, zo5⟩
  rotate_left
  · exact zo5.elim
  obtain ⟨jo5, zo5⟩ := zo5
  subst jo5
  replace zo5 := zo5 rfl
  obtain ⟨uo5, fA4o5, fQ101_0_2o5, fU_102o5, So5⟩ := zo5
  replace uo5 := uo5.symm
  subst uo5
  try dsimp only at hp
  refine ⟨A4o5, Q101_0o5, Q101_1o5, wA4o5, wQ101_0_1o5, t8, h9, (qo5.trans (congrArg (fun t => RS.exit 0 t h9) (ovT_eq wo5).symm)), trivial, ?_⟩
  have S13 : Sep [OwnO 5 wA4o5 A4o5.length LA4o5, Frz G_102o5 k_102o5, Frz (Low h) h] h9 := So5.sel [0, 2, 3] (by decide) rfl
  obtain rfl := Option.some.inj hp
  exact ⟨wA4o5, LA4o5, G_102o5, k_102o5, rfl, fA4o5, S13⟩
def C_decode (call : CallT) : Prop := ∀ {h : Hp} {wl_1 : AV} {l : List Nat} (fl_2 : BIn (Low h) h wl_1 l) {r : List (Int × Int × Int × Int × List Nat)}, decode_p l = some r → ∃ rv rh, call 6 [wl_1] h = .ok rv rh ∧ ∃ wk1 : AV, ∃ Lk3 : List AV, ∃ Gk : Nat → Prop, ∃ kk : Hp, rv = wk1 ∧ (Eng.Rows (rP (rZ .i64) (rP (rZ .i64) (rP (rZ .i64) (rP (rZ .i64) rY)))) Gk kk Lk3 r) ∧ Eng.Sep (OwnO 5 wk1 r.length Lk3 :: Frz Gk kk :: Frz (Low h) h :: []) rh
theorem s_decode (K d : Nat) : C_decode (CC K (d + 5)) := by
  intro h wl_1 l fl_2 r hp
  rw [CC, evF_at (sumT_none rfl)]
  exact decode_w (call := CC K (d + 4)) (N := 100000 + K) fl_2 (s_step K (d + 0)) (by omega) hp
noncomputable def same_p (a : (Int × Int × Int × Int × List Nat)) (b : (Int × Int × Int × Int × List Nat)) : Option (Bool) :=
  (if a.1 = b.1 then (if a.2.1 = b.2.1 then (if a.2.2.1 = b.2.2.1 then (if a.2.2.2.1 = b.2.2.2.1 then (ob (equal_p a.2.2.2.2 b.2.2.2.2) fun x7 =>
    (if x7 = true then (some true) else
    (some false))) else
    (some false)) else
    (some false)) else
    (some false)) else
    (some false))
theorem same_w {call : CallT} {N : Nat} {h : Hp} {wa_1 : AV} {wb_1 : AV} {a : (Int × Int × Int × Int × List Nat)} {b : (Int × Int × Int × Int × List Nat)} (fa_2 : BIn (Low h) h wa_1 a.2.2.2.2) (fb_2 : BIn (Low h) h wb_1 b.2.2.2.2) (h_equal : C_equal call) {r : Bool} (hp : same_p a b = some r) :
    ∃ rv rh, evF1 (progS Tryz.prog (compDrawn Tryz.prog)) N call 13 [(AV.agg [(AV.int .i64 a.1), (AV.int .i64 a.2.1), (AV.int .i64 a.2.2.1), (AV.int .i64 a.2.2.2.1), wa_1]), (AV.agg [(AV.int .i64 b.1), (AV.int .i64 b.2.1), (AV.int .i64 b.2.2.1), (AV.int .i64 b.2.2.2.1), wb_1])] h = .ok rv rh ∧ (fun (rv : AV) (rh : Hp) => rv = (AV.bool r) ∧ Eng.Sep (Frz (Low h) h :: []) rh) rv rh := by
  have S : Eng.Sep [Frz (Low h) h] h := Sep.start h
  unfold same_p at hp
  refine fwalk_ok (K := (fun (rv : AV) (rh : Hp) => rv = (AV.bool r) ∧ Eng.Sep (Frz (Low h) h :: []) rh)) (o := (.ell 0 .ptr (mkCells [(AV.int .i64 a.1), (AV.int .i64 a.2.1), (AV.int .i64 a.2.2.1), (AV.int .i64 a.2.2.2.1), wa_1] 5) (.ell 0 .ptr (mkCells [(AV.int .i64 b.1), (AV.int .i64 b.2.1), (AV.int .i64 b.2.2.1), (AV.int .i64 b.2.2.2.1), wb_1] 5) (.tell 2 (AV.int .i64 a.1) (.tell 1 (AV.int .i64 b.1) (.fork 1 (.tell 1 (AV.int .i64 a.2.1) (.tell 1 (AV.int .i64 b.2.1) (.fork 2 (.tell 1 (AV.int .i64 a.2.2.1) (.tell 1 (AV.int .i64 b.2.2.1) (.fork 2 (.tell 1 (AV.int .i64 a.2.2.2.1) (.tell 1 (AV.int .i64 b.2.2.2.1) (.fork 2 (.tell 1 wa_1 (.tell 1 wb_1 (.exi 0 fun (x7 : Bool) => (.exi 0 fun (h12 : Hp) => (.eff 0 (AV.bool x7) h12 (.fork 1 .fin .fin)))))) .fin))) .fin))) .fin))) .fin)))))) (p := (fun (KK : AV → Hp → Prop) => (evL (.box (.const (AV.agg [(AV.int .i64 a.1), (AV.int .i64 a.2.1), (AV.int .i64 a.2.2.1), (AV.int .i64 a.2.2.2.1), wa_1]))) .lf = .ok .ptr (mkCells [(AV.int .i64 a.1), (AV.int .i64 a.2.1), (AV.int .i64 a.2.2.1), (AV.int .i64 a.2.2.2.1), wa_1] 5) ∧ (evL (.box (.const (AV.agg [(AV.int .i64 b.1), (AV.int .i64 b.2.1), (AV.int .i64 b.2.2.1), (AV.int .i64 b.2.2.2.1), wb_1]))) .lf = .ok .ptr (mkCells [(AV.int .i64 b.1), (AV.int .i64 b.2.1), (AV.int .i64 b.2.2.1), (AV.int .i64 b.2.2.2.1), wb_1] 5) ∧ ((evQ (.loadS (.const (AV.ptr (Hp.next h) 0))) .lf (hpush (hpush h (mkCells [(AV.int .i64 a.1), (AV.int .i64 a.2.1), (AV.int .i64 a.2.2.1), (AV.int .i64 a.2.2.2.1), wa_1] 5)) (mkCells [(AV.int .i64 b.1), (AV.int .i64 b.2.1), (AV.int .i64 b.2.2.1), (AV.int .i64 b.2.2.2.1), wb_1] 5)) = .ok (AV.int .i64 a.1) ∧ ((evQ (.loadS (.const (AV.ptr (Hp.next (hpush h (mkCells [(AV.int .i64 a.1), (AV.int .i64 a.2.1), (AV.int .i64 a.2.2.1), (AV.int .i64 a.2.2.2.1), wa_1] 5))) 0))) .lf (hpush (hpush h (mkCells [(AV.int .i64 a.1), (AV.int .i64 a.2.1), (AV.int .i64 a.2.2.1), (AV.int .i64 a.2.2.2.1), wa_1] 5)) (mkCells [(AV.int .i64 b.1), (AV.int .i64 b.2.1), (AV.int .i64 b.2.2.1), (AV.int .i64 b.2.2.2.1), wb_1] 5)) = .ok (AV.int .i64 b.1) ∧ ((eqI a.1 b.1 = true → ((evQ (.loadS (.const (AV.ptr (Hp.next h) 1))) .lf (hpush (hpush h (mkCells [(AV.int .i64 a.1), (AV.int .i64 a.2.1), (AV.int .i64 a.2.2.1), (AV.int .i64 a.2.2.2.1), wa_1] 5)) (mkCells [(AV.int .i64 b.1), (AV.int .i64 b.2.1), (AV.int .i64 b.2.2.1), (AV.int .i64 b.2.2.2.1), wb_1] 5)) = .ok (AV.int .i64 a.2.1) ∧ ((evQ (.loadS (.const (AV.ptr (Hp.next (hpush h (mkCells [(AV.int .i64 a.1), (AV.int .i64 a.2.1), (AV.int .i64 a.2.2.1), (AV.int .i64 a.2.2.2.1), wa_1] 5))) 1))) .lf (hpush (hpush h (mkCells [(AV.int .i64 a.1), (AV.int .i64 a.2.1), (AV.int .i64 a.2.2.1), (AV.int .i64 a.2.2.2.1), wa_1] 5)) (mkCells [(AV.int .i64 b.1), (AV.int .i64 b.2.1), (AV.int .i64 b.2.2.1), (AV.int .i64 b.2.2.2.1), wb_1] 5)) = .ok (AV.int .i64 b.2.1) ∧ ((eqI a.2.1 b.2.1 = true → ((evQ (.loadS (.const (AV.ptr (Hp.next h) 2))) .lf (hpush (hpush h (mkCells [(AV.int .i64 a.1), (AV.int .i64 a.2.1), (AV.int .i64 a.2.2.1), (AV.int .i64 a.2.2.2.1), wa_1] 5)) (mkCells [(AV.int .i64 b.1), (AV.int .i64 b.2.1), (AV.int .i64 b.2.2.1), (AV.int .i64 b.2.2.2.1), wb_1] 5)) = .ok (AV.int .i64 a.2.2.1) ∧ ((evQ (.loadS (.const (AV.ptr (Hp.next (hpush h (mkCells [(AV.int .i64 a.1), (AV.int .i64 a.2.1), (AV.int .i64 a.2.2.1), (AV.int .i64 a.2.2.2.1), wa_1] 5))) 2))) .lf (hpush (hpush h (mkCells [(AV.int .i64 a.1), (AV.int .i64 a.2.1), (AV.int .i64 a.2.2.1), (AV.int .i64 a.2.2.2.1), wa_1] 5)) (mkCells [(AV.int .i64 b.1), (AV.int .i64 b.2.1), (AV.int .i64 b.2.2.1), (AV.int .i64 b.2.2.2.1), wb_1] 5)) = .ok (AV.int .i64 b.2.2.1) ∧ ((eqI a.2.2.1 b.2.2.1 = true → ((evQ (.loadS (.const (AV.ptr (Hp.next h) 3))) .lf (hpush (hpush h (mkCells [(AV.int .i64 a.1), (AV.int .i64 a.2.1), (AV.int .i64 a.2.2.1), (AV.int .i64 a.2.2.2.1), wa_1] 5)) (mkCells [(AV.int .i64 b.1), (AV.int .i64 b.2.1), (AV.int .i64 b.2.2.1), (AV.int .i64 b.2.2.2.1), wb_1] 5)) = .ok (AV.int .i64 a.2.2.2.1) ∧ ((evQ (.loadS (.const (AV.ptr (Hp.next (hpush h (mkCells [(AV.int .i64 a.1), (AV.int .i64 a.2.1), (AV.int .i64 a.2.2.1), (AV.int .i64 a.2.2.2.1), wa_1] 5))) 3))) .lf (hpush (hpush h (mkCells [(AV.int .i64 a.1), (AV.int .i64 a.2.1), (AV.int .i64 a.2.2.1), (AV.int .i64 a.2.2.2.1), wa_1] 5)) (mkCells [(AV.int .i64 b.1), (AV.int .i64 b.2.1), (AV.int .i64 b.2.2.1), (AV.int .i64 b.2.2.2.1), wb_1] 5)) = .ok (AV.int .i64 b.2.2.2.1) ∧ ((eqI a.2.2.2.1 b.2.2.2.1 = true → ((evQ (.loadS (.const (AV.ptr (Hp.next h) 4))) .lf (hpush (hpush h (mkCells [(AV.int .i64 a.1), (AV.int .i64 a.2.1), (AV.int .i64 a.2.2.1), (AV.int .i64 a.2.2.2.1), wa_1] 5)) (mkCells [(AV.int .i64 b.1), (AV.int .i64 b.2.1), (AV.int .i64 b.2.2.1), (AV.int .i64 b.2.2.2.1), wb_1] 5)) = .ok wa_1 ∧ ((evQ (.loadS (.const (AV.ptr (Hp.next (hpush h (mkCells [(AV.int .i64 a.1), (AV.int .i64 a.2.1), (AV.int .i64 a.2.2.1), (AV.int .i64 a.2.2.2.1), wa_1] 5))) 4))) .lf (hpush (hpush h (mkCells [(AV.int .i64 a.1), (AV.int .i64 a.2.1), (AV.int .i64 a.2.2.1), (AV.int .i64 a.2.2.2.1), wa_1] 5)) (mkCells [(AV.int .i64 b.1), (AV.int .i64 b.2.1), (AV.int .i64 b.2.2.1), (AV.int .i64 b.2.2.2.1), wb_1] 5)) = .ok wb_1 ∧ (∃ x7 : Bool, ∃ h12 : Hp, (call 19 [wa_1, wb_1] (hpush (hpush h (mkCells [(AV.int .i64 a.1), (AV.int .i64 a.2.1), (AV.int .i64 a.2.2.1), (AV.int .i64 a.2.2.2.1), wa_1] 5)) (mkCells [(AV.int .i64 b.1), (AV.int .i64 b.2.1), (AV.int .i64 b.2.2.1), (AV.int .i64 b.2.2.2.1), wb_1] 5)) = .ok (AV.bool x7) h12 ∧ ((x7 = true → KK (AV.bool true) h12) ∧ (x7 = false → KK (AV.bool false) h12))))))))) ∧ (eqI a.2.2.2.1 b.2.2.2.1 = false → KK (AV.bool false) (hpush (hpush h (mkCells [(AV.int .i64 a.1), (AV.int .i64 a.2.1), (AV.int .i64 a.2.2.1), (AV.int .i64 a.2.2.2.1), wa_1] 5)) (mkCells [(AV.int .i64 b.1), (AV.int .i64 b.2.1), (AV.int .i64 b.2.2.1), (AV.int .i64 b.2.2.2.1), wb_1] 5))))))))) ∧ (eqI a.2.2.1 b.2.2.1 = false → KK (AV.bool false) (hpush (hpush h (mkCells [(AV.int .i64 a.1), (AV.int .i64 a.2.1), (AV.int .i64 a.2.2.1), (AV.int .i64 a.2.2.2.1), wa_1] 5)) (mkCells [(AV.int .i64 b.1), (AV.int .i64 b.2.1), (AV.int .i64 b.2.2.1), (AV.int .i64 b.2.2.2.1), wb_1] 5))))))))) ∧ (eqI a.2.1 b.2.1 = false → KK (AV.bool false) (hpush (hpush h (mkCells [(AV.int .i64 a.1), (AV.int .i64 a.2.1), (AV.int .i64 a.2.2.1), (AV.int .i64 a.2.2.2.1), wa_1] 5)) (mkCells [(AV.int .i64 b.1), (AV.int .i64 b.2.1), (AV.int .i64 b.2.2.1), (AV.int .i64 b.2.2.2.1), wb_1] 5))))))))) ∧ (eqI a.1 b.1 = false → KK (AV.bool false) (hpush (hpush h (mkCells [(AV.int .i64 a.1), (AV.int .i64 a.2.1), (AV.int .i64 a.2.2.1), (AV.int .i64 a.2.2.2.1), wa_1] 5)) (mkCells [(AV.int .i64 b.1), (AV.int .i64 b.2.1), (AV.int .i64 b.2.2.1), (AV.int .i64 b.2.2.2.1), wb_1] 5))))))))))) (fun (rv : AV) (rh : Hp) => rv = (AV.bool r) ∧ Eng.Sep (Frz (Low h) h :: []) rh)) (by kernel_rfl) ?_
  refine ⟨box_told rfl rfl (all_cell rfl (all_cell rfl (all_cell rfl (all_cell rfl (all_cell (BIn.cell fa_2) all_cell0))))), ?_⟩
  have S1 := cel_new S [(AV.int .i64 a.1), (AV.int .i64 a.2.1), (AV.int .i64 a.2.2.1), (AV.int .i64 a.2.2.2.1), wa_1] rfl
  refine ⟨box_told rfl rfl (all_cell rfl (all_cell rfl (all_cell rfl (all_cell rfl (all_cell (BIn.cell fb_2) all_cell0))))), ?_⟩
  have S2 := cel_new S1 [(AV.int .i64 b.1), (AV.int .i64 b.2.1), (AV.int .i64 b.2.2.1), (AV.int .i64 b.2.2.2.1), wb_1] rfl
  refine ⟨cel_load S2 (i := 1) rfl rfl, ?_⟩
  refine ⟨cel_load S2 (i := 0) rfl rfl, ?_⟩
  refine ⟨fun c3 => ?_, fun c3 => ?_⟩
  · replace c3 : a.1 = b.1 := eqI_T c3
    replace hp := ift hp c3
    refine ⟨cel_load S2 (i := 1) rfl rfl, ?_⟩
    refine ⟨cel_load S2 (i := 0) rfl rfl, ?_⟩
    refine ⟨fun c4 => ?_, fun c4 => ?_⟩
    · replace c4 : a.2.1 = b.2.1 := eqI_T c4
      replace hp := ift hp c4
      refine ⟨cel_load S2 (i := 1) rfl rfl, ?_⟩
      refine ⟨cel_load S2 (i := 0) rfl rfl, ?_⟩
      refine ⟨fun c5 => ?_, fun c5 => ?_⟩
      · replace c5 : a.2.2.1 = b.2.2.1 := eqI_T c5
        replace hp := ift hp c5
        refine ⟨cel_load S2 (i := 1) rfl rfl, ?_⟩
        refine ⟨cel_load S2 (i := 0) rfl rfl, ?_⟩
        refine ⟨fun c6 => ?_, fun c6 => ?_⟩
        · replace c6 : a.2.2.2.1 = b.2.2.2.1 := eqI_T c6
          replace hp := ift hp c6
          refine ⟨cel_load S2 (i := 1) rfl rfl, ?_⟩
          refine ⟨cel_load S2 (i := 0) rfl rfl, ?_⟩
          have ⟨x7, hb8, hp⟩ := ob_inv hp
          obtain ⟨v11, h12, q13, e14, S15⟩ := h_equal (BIn.up (Sep.low S2 (i := 2) rfl) fa_2) (BIn.up (Sep.low S2 (i := 2) rfl) fb_2) hb8
          replace e14 := e14.symm
          subst e14
          have S17 := Sep.call S2 (news := []) S15
          refine ⟨x7, h12, q13, ?_⟩
          refine ⟨fun c18 => ?_, fun c18 => ?_⟩
          · replace hp := ift hp c18
            have S19 : Sep [Frz (Low h) h] h12 := S17.sel [2] (by decide) rfl
            obtain rfl := Option.some.inj hp
            exact ⟨rfl, S19⟩
          replace hp := iff0 hp (nbF c18)
          have S19 : Sep [Frz (Low h) h] h12 := S17.sel [2] (by decide) rfl
          obtain rfl := Option.some.inj hp
          exact ⟨rfl, S19⟩
        replace c6 : a.2.2.2.1 ≠ b.2.2.2.1 := eqI_F c6
        replace hp := iff0 hp (c6)
        have S7 : Sep [Frz (Low h) h] (hpush (hpush h (mkCells [(AV.int .i64 a.1), (AV.int .i64 a.2.1), (AV.int .i64 a.2.2.1), (AV.int .i64 a.2.2.2.1), wa_1] 5)) (mkCells [(AV.int .i64 b.1), (AV.int .i64 b.2.1), (AV.int .i64 b.2.2.1), (AV.int .i64 b.2.2.2.1), wb_1] 5)) := S2.sel [2] (by decide) rfl
        obtain rfl := Option.some.inj hp
        exact ⟨rfl, S7⟩
      replace c5 : a.2.2.1 ≠ b.2.2.1 := eqI_F c5
      replace hp := iff0 hp (c5)
      have S6 : Sep [Frz (Low h) h] (hpush (hpush h (mkCells [(AV.int .i64 a.1), (AV.int .i64 a.2.1), (AV.int .i64 a.2.2.1), (AV.int .i64 a.2.2.2.1), wa_1] 5)) (mkCells [(AV.int .i64 b.1), (AV.int .i64 b.2.1), (AV.int .i64 b.2.2.1), (AV.int .i64 b.2.2.2.1), wb_1] 5)) := S2.sel [2] (by decide) rfl
      obtain rfl := Option.some.inj hp
      exact ⟨rfl, S6⟩
    replace c4 : a.2.1 ≠ b.2.1 := eqI_F c4
    replace hp := iff0 hp (c4)
    have S5 : Sep [Frz (Low h) h] (hpush (hpush h (mkCells [(AV.int .i64 a.1), (AV.int .i64 a.2.1), (AV.int .i64 a.2.2.1), (AV.int .i64 a.2.2.2.1), wa_1] 5)) (mkCells [(AV.int .i64 b.1), (AV.int .i64 b.2.1), (AV.int .i64 b.2.2.1), (AV.int .i64 b.2.2.2.1), wb_1] 5)) := S2.sel [2] (by decide) rfl
    obtain rfl := Option.some.inj hp
    exact ⟨rfl, S5⟩
  replace c3 : a.1 ≠ b.1 := eqI_F c3
  replace hp := iff0 hp (c3)
  have S4 : Sep [Frz (Low h) h] (hpush (hpush h (mkCells [(AV.int .i64 a.1), (AV.int .i64 a.2.1), (AV.int .i64 a.2.2.1), (AV.int .i64 a.2.2.2.1), wa_1] 5)) (mkCells [(AV.int .i64 b.1), (AV.int .i64 b.2.1), (AV.int .i64 b.2.2.1), (AV.int .i64 b.2.2.2.1), wb_1] 5)) := S2.sel [2] (by decide) rfl
  obtain rfl := Option.some.inj hp
  exact ⟨rfl, S4⟩
def C_same (call : CallT) : Prop := ∀ {h : Hp} {wa_1 : AV} {wb_1 : AV} {a : (Int × Int × Int × Int × List Nat)} {b : (Int × Int × Int × Int × List Nat)} (fa_2 : BIn (Low h) h wa_1 a.2.2.2.2) (fb_2 : BIn (Low h) h wb_1 b.2.2.2.2) {r : Bool}, same_p a b = some r → ∃ rv rh, call 13 [(AV.agg [(AV.int .i64 a.1), (AV.int .i64 a.2.1), (AV.int .i64 a.2.2.1), (AV.int .i64 a.2.2.2.1), wa_1]), (AV.agg [(AV.int .i64 b.1), (AV.int .i64 b.2.1), (AV.int .i64 b.2.2.1), (AV.int .i64 b.2.2.2.1), wb_1])] h = .ok rv rh ∧ rv = (AV.bool r) ∧ Eng.Sep (Frz (Low h) h :: []) rh
theorem s_same (K d : Nat) : C_same (CC K (d + 2)) := by
  intro h wa_1 wb_1 a b fa_2 fb_2 r hp
  rw [CC, evF_at (sumT_none rfl)]
  exact same_w (call := CC K (d + 1)) (N := 100000 + K) fa_2 fb_2 (s_equal K (d + 0)) hp
noncomputable def num2_p (l : List Nat) (n : Int) : Option (List Nat) :=
  (gd (l.length + 2 ≤ 70368744177664) (some (l ++ [((n / 256) % 256).toNat, (n % 256).toNat])))
theorem num2_w {call : CallT} {N : Nat} {h : Hp} {h0 : Hp} {G : Nat → Prop} {R : List AObj} {wl_1 : AV} {l : List Nat} {n : Int} (fl_2 : ∀ x ∈ l, x < 256)  {r : List Nat} (hp : num2_p l n = some r) (S : Eng.Sep (OwnO 1 wl_1 l.length (u8s l) :: Frz G h0 :: R) h) :
    ∃ rv rh, evF1 (progS Tryz.prog (compDrawn Tryz.prog)) N call 18 [wl_1, (AV.int .i64 n)] h = .ok rv rh ∧ (fun (rv : AV) (rh : Hp) => ∃ wk1 : AV, rv = wk1 ∧ (∀ x ∈ r, x < 256) ∧ Eng.Sep (OwnO 1 wk1 r.length (u8s r) :: Frz G h0 :: R) rh) rv rh := by
  unfold num2_p at hp
  refine fwalk_ok (K := (fun (rv : AV) (rh : Hp) => ∃ wk1 : AV, rv = wk1 ∧ (∀ x ∈ r, x < 256) ∧ Eng.Sep (OwnO 1 wk1 r.length (u8s r) :: Frz G h0 :: R) rh)) (o := (.tell 3 (AV.int .i64 (n / 256)) (.tell 0 (vb8 (((n / 256) % 256).toNat)) (.tell 1 (vb8 ((n % 256).toNat)) (.effx 1 (fun e4 => e4.v) (fun e4 => .fin)))))) (p := (fun (KK : AV → Hp → Prop) => ((evQ (.bin .shr (.const (AV.int .i64 n)) (.const (vq 8))) .lf H0 = .ok (AV.int .i64 (n / 256)) ∧ ((evQ (.toInt .u8 (.const (AV.int .i64 (n / 256)))) .lf H0 = .ok (vb8 (((n / 256) % 256).toNat)) ∧ ((evQ (.toInt .u8 (.const (AV.int .i64 n))) .lf H0 = .ok (vb8 ((n % 256).toNat)) ∧ (∃ e4 : Ev, evE (.append 1 1 (.const wl_1) (.const (AV.slice (Hp.next h) 0 2 2 1 true))) call .lf (hpush h (mkCells [(vb8 (((n / 256) % 256).toNat)), (vb8 ((n % 256).toNat))] 2)) = .ok e4.v e4.h ∧ KK e4.v e4.h)))))))) (fun (rv : AV) (rh : Hp) => ∃ wk1 : AV, rv = wk1 ∧ (∀ x ∈ r, x < 256) ∧ Eng.Sep (OwnO 1 wk1 r.length (u8s r) :: Frz G h0 :: R) rh)) (by kernel_rfl) ?_
  refine ⟨i_shr (by decide), ?_⟩
  refine ⟨s_conv rfl, ?_⟩
  have g1 : ((n / 256) % 256).toNat < 256 := by omega
  refine ⟨s_conv rfl, ?_⟩
  have g2 : (n % 256).toNat < 256 := by omega
  have S3 := own_new S 1 2 [(vb8 (((n / 256) % 256).toNat)), (vb8 ((n % 256).toNat))] true rfl
  have ⟨g5, hp⟩ := gd_inv hp
  obtain ⟨e4, qe4, se4⟩ := own_append (bytes := 1) call S3 (i := 1) rfl (x := (AV.slice (Hp.next h) 0 2 2 1 true)) (m := 2) (xs := u8s [((n / 256) % 256).toNat, (n % 256).toNat]) (fun z k => own_src S3 (i := 0) rfl z k) (own_L S3 (i := 0) rfl) (u8s_cells _) (show (l.length + 2) * 1 ≤ 70368744177664 by omega) g5
  have S7 : Sep (OwnO 1 (AV.slice (Hp.next h) 0 2 2 1 true) 2 (u8s [((n / 256) % 256).toNat, (n % 256).toNat]) :: OwnO 1 e4.v ((l ++ [((n / 256) % 256).toNat, (n % 256).toNat]).length) (u8s (l ++ [((n / 256) % 256).toNat, (n % 256).toNat])) :: Frz G h0 :: R) e4.h := (by have z := se4; first | (rw [show u8s (l ++ [((n / 256) % 256).toNat, (n % 256).toNat]) = u8s l ++ u8s [((n / 256) % 256).toNat, (n % 256).toNat] from by simp [u8s_eq], show (l ++ [((n / 256) % 256).toNat, (n % 256).toNat] : List Nat).length = l.length + 2 from by simp]; exact z) | (rw [show (l.length + 2 : Nat) = (l ++ [((n / 256) % 256).toNat, (n % 256).toNat] : List Nat).length from by simp, show (u8s l ++ (u8s [((n / 256) % 256).toNat, (n % 256).toNat]) : List AV) = u8s (l ++ [((n / 256) % 256).toNat, (n % 256).toNat]) from by simp [u8s_eq]] at z; exact z))
  have S8 := S7.tail
  refine ⟨e4, qe4, ?_⟩
  obtain rfl := Option.some.inj hp
  exact ⟨e4.v, rfl, (put_lt fl_2 (cons_lt g1 (cons_lt g2 nil_lt))), S8⟩
def C_num2 (call : CallT) : Prop := ∀ {h : Hp} {h0 : Hp} {G : Nat → Prop} {R : List AObj} {wl_1 : AV} {l : List Nat} {n : Int} (fl_2 : ∀ x ∈ l, x < 256) {r : List Nat}, num2_p l n = some r → Eng.Sep (OwnO 1 wl_1 l.length (u8s l) :: Frz G h0 :: R) h → ∃ rv rh, call 18 [wl_1, (AV.int .i64 n)] h = .ok rv rh ∧ ∃ wk1 : AV, rv = wk1 ∧ (∀ x ∈ r, x < 256) ∧ Eng.Sep (OwnO 1 wk1 r.length (u8s r) :: Frz G h0 :: R) rh
theorem s_num2 (K d : Nat) : C_num2 (CC K (d + 1)) := by
  intro h h0 G R wl_1 l n fl_2 r hp S
  rw [CC, evF_at (sumT_none rfl)]
  exact num2_w (call := CC K (d + 0)) (N := 100000 + K) fl_2  hp S
noncomputable def one_p (x : (Int × Int × Int × Int × List Nat)) : Option (List Nat) :=
  (if x.1 = 1 then (ob (num2_p [((wrapA .i64 (Int.mul (Int.ofNat 3) x.2.1)) % 256).toNat] ((x.2.2.2.2.length : Nat) : Int)) fun x7 =>
    (gd (x7.length + x.2.2.2.2.length ≤ 70368744177664) (some (x7 ++ x.2.2.2.2)))) else
    (if x.1 = 2 then (ob (num2_p [((wrapA .i64 (Int.add (wrapA .i64 (Int.mul (Int.ofNat 3) x.2.2.1)) (Int.ofNat 1))) % 256).toNat] x.2.2.2.1) fun x8 =>
    (some x8)) else
    (if x.1 = 3 then (some [2]) else
    (some []))))
theorem one_w {call : CallT} {N : Nat} {h : Hp} {wx_1 : AV} {x : (Int × Int × Int × Int × List Nat)} (fx_2 : BIn (Low h) h wx_1 x.2.2.2.2) (h_num2 : C_num2 call) {r : List Nat} (hp : one_p x = some r) :
    ∃ rv rh, evF1 (progS Tryz.prog (compDrawn Tryz.prog)) N call 12 [(AV.agg [(AV.int .i64 x.1), (AV.int .i64 x.2.1), (AV.int .i64 x.2.2.1), (AV.int .i64 x.2.2.2.1), wx_1])] h = .ok rv rh ∧ (fun (rv : AV) (rh : Hp) => ∃ wk1 : AV, rv = wk1 ∧ (∀ x ∈ r, x < 256) ∧ Eng.Sep (OwnO 1 wk1 r.length (u8s r) :: Frz (Low h) h :: []) rh) rv rh := by
  have S : Eng.Sep [Frz (Low h) h] h := Sep.start h
  unfold one_p at hp
  refine fwalk_ok (K := (fun (rv : AV) (rh : Hp) => ∃ wk1 : AV, rv = wk1 ∧ (∀ x ∈ r, x < 256) ∧ Eng.Sep (OwnO 1 wk1 r.length (u8s r) :: Frz (Low h) h :: []) rh)) (o := (.ell 0 .ptr (mkCells [(AV.int .i64 x.1), (AV.int .i64 x.2.1), (AV.int .i64 x.2.2.1), (AV.int .i64 x.2.2.2.1), wx_1] 5) (.tell 2 (AV.int .i64 x.1) (.fork 1 (.tell 1 (AV.int .i64 x.2.1) (.tell 1 (vb8 (((wrapA .i64 (Int.mul (Int.ofNat 3) x.2.1)) % 256).toNat)) (.tell 2 wx_1 (.tell 0 (vi x.2.2.2.2.length) (.tell 1 wx_1 (.again 0 (.exi 0 fun (x7 : List Nat) => (.exi 0 fun (w11 : AV) => (.exi 0 fun (h14 : Hp) => (.eff 0 w11 h14 (.again 0 (.effx 0 (fun e20 => e20.v) (fun e20 => (.again 1 .fin)))))))))))))) (.fork 1 (.tell 1 (AV.int .i64 x.2.2.1) (.tell 2 (vb8 (((wrapA .i64 (Int.add (wrapA .i64 (Int.mul (Int.ofNat 3) x.2.2.1)) (Int.ofNat 1))) % 256).toNat)) (.tell 2 (AV.int .i64 x.2.2.2.1) (.exi 0 fun (x8 : List Nat) => (.exi 0 fun (w12 : AV) => (.exi 0 fun (h15 : Hp) => (.eff 0 w12 h15 .fin))))))) (.fork 1 .fin .fin)))))) (p := (fun (KK : AV → Hp → Prop) => (evL (.box (.const (AV.agg [(AV.int .i64 x.1), (AV.int .i64 x.2.1), (AV.int .i64 x.2.2.1), (AV.int .i64 x.2.2.2.1), wx_1]))) .lf = .ok .ptr (mkCells [(AV.int .i64 x.1), (AV.int .i64 x.2.1), (AV.int .i64 x.2.2.1), (AV.int .i64 x.2.2.2.1), wx_1] 5) ∧ ((evQ (.loadS (.const (AV.ptr (Hp.next h) 0))) .lf (hpush h (mkCells [(AV.int .i64 x.1), (AV.int .i64 x.2.1), (AV.int .i64 x.2.2.1), (AV.int .i64 x.2.2.2.1), wx_1] 5)) = .ok (AV.int .i64 x.1) ∧ ((eqI x.1 (Int.ofNat 1) = true → ((evQ (.loadS (.const (AV.ptr (Hp.next h) 1))) .lf (hpush h (mkCells [(AV.int .i64 x.1), (AV.int .i64 x.2.1), (AV.int .i64 x.2.2.1), (AV.int .i64 x.2.2.2.1), wx_1] 5)) = .ok (AV.int .i64 x.2.1) ∧ ((evQ (.toInt .u8 (.const (AV.int .i64 (wrapA .i64 (Int.mul (Int.ofNat 3) x.2.1))))) .lf H0 = .ok (vb8 (((wrapA .i64 (Int.mul (Int.ofNat 3) x.2.1)) % 256).toNat)) ∧ ((evQ (.loadS (.const (AV.ptr (Hp.next h) 4))) .lf (hpush (hpush h (mkCells [(AV.int .i64 x.1), (AV.int .i64 x.2.1), (AV.int .i64 x.2.2.1), (AV.int .i64 x.2.2.2.1), wx_1] 5)) (mkCells [(vb8 (((wrapA .i64 (Int.mul (Int.ofNat 3) x.2.1)) % 256).toNat))] 1)) = .ok wx_1 ∧ ((evQ (.lenL (.const wx_1)) .lf H0 = .ok (vi x.2.2.2.2.length) ∧ ((evQ (.loadS (.const (AV.ptr (Hp.next h) 4))) .lf (hpush (hpush h (mkCells [(AV.int .i64 x.1), (AV.int .i64 x.2.1), (AV.int .i64 x.2.2.1), (AV.int .i64 x.2.2.2.1), wx_1] 5)) (mkCells [(vb8 (((wrapA .i64 (Int.mul (Int.ofNat 3) x.2.1)) % 256).toNat))] 1)) = .ok wx_1 ∧ ((again (.loadS (.const (AV.ptr (Hp.next h) 4))) .lf wx_1 (hpush (hpush h (mkCells [(AV.int .i64 x.1), (AV.int .i64 x.2.1), (AV.int .i64 x.2.2.1), (AV.int .i64 x.2.2.2.1), wx_1] 5)) (mkCells [(vb8 (((wrapA .i64 (Int.mul (Int.ofNat 3) x.2.1)) % 256).toNat))] 1)) = true ∧ again (.fieldAddr 4 (.const (AV.ptr (Hp.next h) 0))) .lf (AV.ptr (Hp.next h) 4) (hpush (hpush h (mkCells [(AV.int .i64 x.1), (AV.int .i64 x.2.1), (AV.int .i64 x.2.2.1), (AV.int .i64 x.2.2.2.1), wx_1] 5)) (mkCells [(vb8 (((wrapA .i64 (Int.mul (Int.ofNat 3) x.2.1)) % 256).toNat))] 1)) = true ∧ again (.lenL (.const wx_1)) .lf (vi x.2.2.2.2.length) (hpush (hpush h (mkCells [(AV.int .i64 x.1), (AV.int .i64 x.2.1), (AV.int .i64 x.2.2.1), (AV.int .i64 x.2.2.2.1), wx_1] 5)) (mkCells [(vb8 (((wrapA .i64 (Int.mul (Int.ofNat 3) x.2.1)) % 256).toNat))] 1)) = true ∧ again (.loadS (.const (AV.ptr (Hp.next h) 4))) .lf wx_1 (hpush (hpush h (mkCells [(AV.int .i64 x.1), (AV.int .i64 x.2.1), (AV.int .i64 x.2.2.1), (AV.int .i64 x.2.2.2.1), wx_1] 5)) (mkCells [(vb8 (((wrapA .i64 (Int.mul (Int.ofNat 3) x.2.1)) % 256).toNat))] 1)) = true ∧ again (.fieldAddr 4 (.const (AV.ptr (Hp.next h) 0))) .lf (AV.ptr (Hp.next h) 4) (hpush (hpush h (mkCells [(AV.int .i64 x.1), (AV.int .i64 x.2.1), (AV.int .i64 x.2.2.1), (AV.int .i64 x.2.2.2.1), wx_1] 5)) (mkCells [(vb8 (((wrapA .i64 (Int.mul (Int.ofNat 3) x.2.1)) % 256).toNat))] 1)) = true ∧ again (.toInt .u8 (.const (AV.int .i64 (wrapA .i64 (Int.mul (Int.ofNat 3) x.2.1))))) .lf (vb8 (((wrapA .i64 (Int.mul (Int.ofNat 3) x.2.1)) % 256).toNat)) (hpush (hpush h (mkCells [(AV.int .i64 x.1), (AV.int .i64 x.2.1), (AV.int .i64 x.2.2.1), (AV.int .i64 x.2.2.2.1), wx_1] 5)) (mkCells [(vb8 (((wrapA .i64 (Int.mul (Int.ofNat 3) x.2.1)) % 256).toNat))] 1)) = true ∧ again (.bin .mul (.const (vi 3)) (.const (AV.int .i64 x.2.1))) .lf (AV.int .i64 (wrapA .i64 (Int.mul (Int.ofNat 3) x.2.1))) (hpush (hpush h (mkCells [(AV.int .i64 x.1), (AV.int .i64 x.2.1), (AV.int .i64 x.2.2.1), (AV.int .i64 x.2.2.2.1), wx_1] 5)) (mkCells [(vb8 (((wrapA .i64 (Int.mul (Int.ofNat 3) x.2.1)) % 256).toNat))] 1)) = true ∧ again (.loadS (.const (AV.ptr (Hp.next h) 1))) .lf (AV.int .i64 x.2.1) (hpush (hpush h (mkCells [(AV.int .i64 x.1), (AV.int .i64 x.2.1), (AV.int .i64 x.2.2.1), (AV.int .i64 x.2.2.2.1), wx_1] 5)) (mkCells [(vb8 (((wrapA .i64 (Int.mul (Int.ofNat 3) x.2.1)) % 256).toNat))] 1)) = true ∧ again (.fieldAddr 1 (.const (AV.ptr (Hp.next h) 0))) .lf (AV.ptr (Hp.next h) 1) (hpush (hpush h (mkCells [(AV.int .i64 x.1), (AV.int .i64 x.2.1), (AV.int .i64 x.2.2.1), (AV.int .i64 x.2.2.2.1), wx_1] 5)) (mkCells [(vb8 (((wrapA .i64 (Int.mul (Int.ofNat 3) x.2.1)) % 256).toNat))] 1)) = true ∧ True) ∧ (∃ x7 : List Nat, ∃ w11 : AV, ∃ h14 : Hp, (call 18 [(AV.slice (Hp.next (hpush h (mkCells [(AV.int .i64 x.1), (AV.int .i64 x.2.1), (AV.int .i64 x.2.2.1), (AV.int .i64 x.2.2.2.1), wx_1] 5))) 0 1 1 1 true), (vi x.2.2.2.2.length)] (hpush (hpush h (mkCells [(AV.int .i64 x.1), (AV.int .i64 x.2.1), (AV.int .i64 x.2.2.1), (AV.int .i64 x.2.2.2.1), wx_1] 5)) (mkCells [(vb8 (((wrapA .i64 (Int.mul (Int.ofNat 3) x.2.1)) % 256).toNat))] 1)) = .ok w11 h14 ∧ ((again (.loadS (.const (AV.ptr (Hp.next h) 4))) .lf wx_1 h14 = true ∧ again (.fieldAddr 4 (.const (AV.ptr (Hp.next h) 0))) .lf (AV.ptr (Hp.next h) 4) h14 = true ∧ True) ∧ (∃ e20 : Ev, evE (.append 1 1 (.const w11) (.const wx_1)) call .lf h14 = .ok e20.v e20.h ∧ ((again (.move (.const e20.v)) .lf e20.v e20.h = true ∧ True) ∧ KK e20.v e20.h))))))))))))))))) ∧ (eqI x.1 (Int.ofNat 1) = false → ((eqI x.1 (Int.ofNat 2) = true → ((evQ (.loadS (.const (AV.ptr (Hp.next h) 2))) .lf (hpush h (mkCells [(AV.int .i64 x.1), (AV.int .i64 x.2.1), (AV.int .i64 x.2.2.1), (AV.int .i64 x.2.2.2.1), wx_1] 5)) = .ok (AV.int .i64 x.2.2.1) ∧ ((evQ (.toInt .u8 (.const (AV.int .i64 (wrapA .i64 (Int.add (wrapA .i64 (Int.mul (Int.ofNat 3) x.2.2.1)) (Int.ofNat 1)))))) .lf H0 = .ok (vb8 (((wrapA .i64 (Int.add (wrapA .i64 (Int.mul (Int.ofNat 3) x.2.2.1)) (Int.ofNat 1))) % 256).toNat)) ∧ ((evQ (.loadS (.const (AV.ptr (Hp.next h) 3))) .lf (hpush (hpush h (mkCells [(AV.int .i64 x.1), (AV.int .i64 x.2.1), (AV.int .i64 x.2.2.1), (AV.int .i64 x.2.2.2.1), wx_1] 5)) (mkCells [(vb8 (((wrapA .i64 (Int.add (wrapA .i64 (Int.mul (Int.ofNat 3) x.2.2.1)) (Int.ofNat 1))) % 256).toNat))] 1)) = .ok (AV.int .i64 x.2.2.2.1) ∧ (∃ x8 : List Nat, ∃ w12 : AV, ∃ h15 : Hp, (call 18 [(AV.slice (Hp.next (hpush h (mkCells [(AV.int .i64 x.1), (AV.int .i64 x.2.1), (AV.int .i64 x.2.2.1), (AV.int .i64 x.2.2.2.1), wx_1] 5))) 0 1 1 1 true), (AV.int .i64 x.2.2.2.1)] (hpush (hpush h (mkCells [(AV.int .i64 x.1), (AV.int .i64 x.2.1), (AV.int .i64 x.2.2.1), (AV.int .i64 x.2.2.2.1), wx_1] 5)) (mkCells [(vb8 (((wrapA .i64 (Int.add (wrapA .i64 (Int.mul (Int.ofNat 3) x.2.2.1)) (Int.ofNat 1))) % 256).toNat))] 1)) = .ok w12 h15 ∧ KK w12 h15))))))))) ∧ (eqI x.1 (Int.ofNat 2) = false → ((eqI x.1 (Int.ofNat 3) = true → KK (AV.slice (Hp.next (hpush h (mkCells [(AV.int .i64 x.1), (AV.int .i64 x.2.1), (AV.int .i64 x.2.2.1), (AV.int .i64 x.2.2.2.1), wx_1] 5))) 0 1 1 1 true) (hpush (hpush h (mkCells [(AV.int .i64 x.1), (AV.int .i64 x.2.1), (AV.int .i64 x.2.2.1), (AV.int .i64 x.2.2.2.1), wx_1] 5)) (mkCells [(vb8 2)] 1))) ∧ (eqI x.1 (Int.ofNat 3) = false → KK AV.nilSlice (hpush h (mkCells [(AV.int .i64 x.1), (AV.int .i64 x.2.1), (AV.int .i64 x.2.2.1), (AV.int .i64 x.2.2.2.1), wx_1] 5)))))))))))) (fun (rv : AV) (rh : Hp) => ∃ wk1 : AV, rv = wk1 ∧ (∀ x ∈ r, x < 256) ∧ Eng.Sep (OwnO 1 wk1 r.length (u8s r) :: Frz (Low h) h :: []) rh)) (by kernel_rfl) ?_
  refine ⟨box_told rfl rfl (all_cell rfl (all_cell rfl (all_cell rfl (all_cell rfl (all_cell (BIn.cell fx_2) all_cell0))))), ?_⟩
  have S1 := cel_new S [(AV.int .i64 x.1), (AV.int .i64 x.2.1), (AV.int .i64 x.2.2.1), (AV.int .i64 x.2.2.2.1), wx_1] rfl
  refine ⟨cel_load S1 (i := 0) rfl rfl, ?_⟩
  refine ⟨fun c2 => ?_, fun c2 => ?_⟩
  · replace c2 : x.1 = 1 := eqI_T c2
    replace hp := ift hp c2
    refine ⟨cel_load S1 (i := 0) rfl rfl, ?_⟩
    refine ⟨s_conv rfl, ?_⟩
    have g3 : ((wrapA .i64 (Int.mul (Int.ofNat 3) x.2.1)) % 256).toNat < 256 := by omega
    have S4 := own_new S1 1 1 [(vb8 (((wrapA .i64 (Int.mul (Int.ofNat 3) x.2.1)) % 256).toNat))] true rfl
    refine ⟨cel_load S4 (i := 1) rfl rfl, ?_⟩
    refine ⟨q_len (BIn.now S4 (i := 2) rfl fx_2), ?_⟩
    refine ⟨cel_load S4 (i := 1) rfl rfl, ?_⟩
    refine ⟨⟨again_of (cel_load S4 (i := 1) rfl rfl) (BIn.same fx_2), again_of (rfl) (avEq_ptr _ _), again_of (q_len (BIn.now S4 (i := 2) rfl fx_2)) (avEq_int _ _), again_of (cel_load S4 (i := 1) rfl rfl) (BIn.same fx_2), again_of (rfl) (avEq_ptr _ _), again_of (s_conv rfl) (avEq_int _ _), again_of (rfl) (avEq_int _ _), again_of (cel_load S4 (i := 1) rfl rfl) (avEq_int _ _), again_of (rfl) (avEq_ptr _ _), trivial⟩, ?_⟩
    have S5 : Sep [OwnO 1 (AV.slice (Hp.next (hpush h (mkCells [(AV.int .i64 x.1), (AV.int .i64 x.2.1), (AV.int .i64 x.2.2.1), (AV.int .i64 x.2.2.2.1), wx_1] 5))) 0 1 1 1 true) ([((wrapA .i64 (Int.mul (Int.ofNat 3) x.2.1)) % 256).toNat].length) (u8s [((wrapA .i64 (Int.mul (Int.ofNat 3) x.2.1)) % 256).toNat]), Cel (Hp.next h) [(AV.int .i64 x.1), (AV.int .i64 x.2.1), (AV.int .i64 x.2.2.1), (AV.int .i64 x.2.2.2.1), wx_1], Frz (Low h) h] (hpush (hpush h (mkCells [(AV.int .i64 x.1), (AV.int .i64 x.2.1), (AV.int .i64 x.2.2.1), (AV.int .i64 x.2.2.2.1), wx_1] 5)) (mkCells [(vb8 (((wrapA .i64 (Int.mul (Int.ofNat 3) x.2.1)) % 256).toNat))] 1)) := (by have z := S4; rw [show 1 = [((wrapA .i64 (Int.mul (Int.ofNat 3) x.2.1)) % 256).toNat].length from rfl] at z; exact z)
    have S6 : Sep [OwnO 1 (AV.slice (Hp.next (hpush h (mkCells [(AV.int .i64 x.1), (AV.int .i64 x.2.1), (AV.int .i64 x.2.2.1), (AV.int .i64 x.2.2.2.1), wx_1] 5))) 0 1 1 1 true) ([((wrapA .i64 (Int.mul (Int.ofNat 3) x.2.1)) % 256).toNat].length) (u8s [((wrapA .i64 (Int.mul (Int.ofNat 3) x.2.1)) % 256).toNat]), Frz (Low h) h, Cel (Hp.next h) [(AV.int .i64 x.1), (AV.int .i64 x.2.1), (AV.int .i64 x.2.2.1), (AV.int .i64 x.2.2.2.1), wx_1]] (hpush (hpush h (mkCells [(AV.int .i64 x.1), (AV.int .i64 x.2.1), (AV.int .i64 x.2.2.1), (AV.int .i64 x.2.2.2.1), wx_1] 5)) (mkCells [(vb8 (((wrapA .i64 (Int.mul (Int.ofNat 3) x.2.1)) % 256).toNat))] 1)) := S5.sel [0, 2, 1] (by decide) rfl
    have ⟨x7, hb8, hp⟩ := ob_inv hp
    obtain ⟨v13, h14, q15, w11, e16, f12, S17⟩ := h_num2 (cons_lt g3 nil_lt) hb8 S6
    replace e16 := e16.symm
    subst e16
    refine ⟨x7, w11, h14, q15, ?_⟩
    refine ⟨⟨again_of (cel_load S17 (i := 2) rfl rfl) (BIn.same fx_2), again_of (rfl) (avEq_ptr _ _), trivial⟩, ?_⟩
    have ⟨g21, hp⟩ := gd_inv hp
    obtain ⟨e20, qe20, se20⟩ := own_append (bytes := 1) call S17 (i := 0) rfl (x := wx_1) (m := x.2.2.2.2.length) (xs := u8s x.2.2.2.2) (fun z k => src_bytes (BIn.now S17 (i := 1) rfl fx_2) z k) (u8s_len1 _) (u8s_cells _) (show (x7.length + x.2.2.2.2.length) * 1 ≤ 70368744177664 by omega) g21
    have S23 : Sep [OwnO 1 e20.v ((x7 ++ x.2.2.2.2).length) (u8s (x7 ++ x.2.2.2.2)), Frz (Low h) h, Cel (Hp.next h) [(AV.int .i64 x.1), (AV.int .i64 x.2.1), (AV.int .i64 x.2.2.1), (AV.int .i64 x.2.2.2.1), wx_1]] e20.h := (by have z := se20; first | (rw [show u8s (x7 ++ x.2.2.2.2) = u8s x7 ++ u8s x.2.2.2.2 from by simp [u8s_eq], show (x7 ++ x.2.2.2.2 : List Nat).length = x7.length + x.2.2.2.2.length from by simp]; exact z) | (rw [show (x7.length + x.2.2.2.2.length : Nat) = (x7 ++ x.2.2.2.2 : List Nat).length from by simp, show (u8s x7 ++ (u8s x.2.2.2.2) : List AV) = u8s (x7 ++ x.2.2.2.2) from by simp [u8s_eq]] at z; exact z))
    refine ⟨e20, qe20, ?_⟩
    refine ⟨⟨again_of (rfl) (own_same S23 (i := 0) rfl), trivial⟩, ?_⟩
    have S24 : Sep [OwnO 1 e20.v ((x7 ++ x.2.2.2.2).length) (u8s (x7 ++ x.2.2.2.2)), Frz (Low h) h] e20.h := S23.sel [0, 1] (by decide) rfl
    obtain rfl := Option.some.inj hp
    exact ⟨e20.v, rfl, (put_lt f12 (BIn.now S17 (i := 1) rfl fx_2).lt), S24⟩
  replace c2 : x.1 ≠ 1 := eqI_F c2
  replace hp := iff0 hp (c2)
  refine ⟨fun c3 => ?_, fun c3 => ?_⟩
  · replace c3 : x.1 = 2 := eqI_T c3
    replace hp := ift hp c3
    refine ⟨cel_load S1 (i := 0) rfl rfl, ?_⟩
    refine ⟨s_conv rfl, ?_⟩
    have g4 : ((wrapA .i64 (Int.add (wrapA .i64 (Int.mul (Int.ofNat 3) x.2.2.1)) (Int.ofNat 1))) % 256).toNat < 256 := by omega
    have S5 := own_new S1 1 1 [(vb8 (((wrapA .i64 (Int.add (wrapA .i64 (Int.mul (Int.ofNat 3) x.2.2.1)) (Int.ofNat 1))) % 256).toNat))] true rfl
    refine ⟨cel_load S5 (i := 1) rfl rfl, ?_⟩
    have S6 : Sep [OwnO 1 (AV.slice (Hp.next (hpush h (mkCells [(AV.int .i64 x.1), (AV.int .i64 x.2.1), (AV.int .i64 x.2.2.1), (AV.int .i64 x.2.2.2.1), wx_1] 5))) 0 1 1 1 true) ([((wrapA .i64 (Int.add (wrapA .i64 (Int.mul (Int.ofNat 3) x.2.2.1)) (Int.ofNat 1))) % 256).toNat].length) (u8s [((wrapA .i64 (Int.add (wrapA .i64 (Int.mul (Int.ofNat 3) x.2.2.1)) (Int.ofNat 1))) % 256).toNat]), Cel (Hp.next h) [(AV.int .i64 x.1), (AV.int .i64 x.2.1), (AV.int .i64 x.2.2.1), (AV.int .i64 x.2.2.2.1), wx_1], Frz (Low h) h] (hpush (hpush h (mkCells [(AV.int .i64 x.1), (AV.int .i64 x.2.1), (AV.int .i64 x.2.2.1), (AV.int .i64 x.2.2.2.1), wx_1] 5)) (mkCells [(vb8 (((wrapA .i64 (Int.add (wrapA .i64 (Int.mul (Int.ofNat 3) x.2.2.1)) (Int.ofNat 1))) % 256).toNat))] 1)) := (by have z := S5; rw [show 1 = [((wrapA .i64 (Int.add (wrapA .i64 (Int.mul (Int.ofNat 3) x.2.2.1)) (Int.ofNat 1))) % 256).toNat].length from rfl] at z; exact z)
    have S7 : Sep [OwnO 1 (AV.slice (Hp.next (hpush h (mkCells [(AV.int .i64 x.1), (AV.int .i64 x.2.1), (AV.int .i64 x.2.2.1), (AV.int .i64 x.2.2.2.1), wx_1] 5))) 0 1 1 1 true) ([((wrapA .i64 (Int.add (wrapA .i64 (Int.mul (Int.ofNat 3) x.2.2.1)) (Int.ofNat 1))) % 256).toNat].length) (u8s [((wrapA .i64 (Int.add (wrapA .i64 (Int.mul (Int.ofNat 3) x.2.2.1)) (Int.ofNat 1))) % 256).toNat]), Frz (Low h) h, Cel (Hp.next h) [(AV.int .i64 x.1), (AV.int .i64 x.2.1), (AV.int .i64 x.2.2.1), (AV.int .i64 x.2.2.2.1), wx_1]] (hpush (hpush h (mkCells [(AV.int .i64 x.1), (AV.int .i64 x.2.1), (AV.int .i64 x.2.2.1), (AV.int .i64 x.2.2.2.1), wx_1] 5)) (mkCells [(vb8 (((wrapA .i64 (Int.add (wrapA .i64 (Int.mul (Int.ofNat 3) x.2.2.1)) (Int.ofNat 1))) % 256).toNat))] 1)) := S6.sel [0, 2, 1] (by decide) rfl
    have ⟨x8, hb9, hp⟩ := ob_inv hp
    obtain ⟨v14, h15, q16, w12, e17, f13, S18⟩ := h_num2 (cons_lt g4 nil_lt) hb9 S7
    replace e17 := e17.symm
    subst e17
    refine ⟨x8, w12, h15, q16, ?_⟩
    have S21 : Sep [OwnO 1 w12 x8.length (u8s x8), Frz (Low h) h] h15 := S18.sel [0, 1] (by decide) rfl
    obtain rfl := Option.some.inj hp
    exact ⟨w12, rfl, f13, S21⟩
  replace c3 : x.1 ≠ 2 := eqI_F c3
  replace hp := iff0 hp (c3)
  refine ⟨fun c4 => ?_, fun c4 => ?_⟩
  · replace c4 : x.1 = 3 := eqI_T c4
    replace hp := ift hp c4
    have S5 := own_new S1 1 1 [(vb8 2)] true rfl
    have S6 : Sep [OwnO 1 (AV.slice (Hp.next (hpush h (mkCells [(AV.int .i64 x.1), (AV.int .i64 x.2.1), (AV.int .i64 x.2.2.1), (AV.int .i64 x.2.2.2.1), wx_1] 5))) 0 1 1 1 true) 1 (u8s [2]), Frz (Low h) h] (hpush (hpush h (mkCells [(AV.int .i64 x.1), (AV.int .i64 x.2.1), (AV.int .i64 x.2.2.1), (AV.int .i64 x.2.2.2.1), wx_1] 5)) (mkCells [(vb8 2)] 1)) := S5.sel [0, 2] (by decide) rfl
    obtain rfl := Option.some.inj hp
    exact ⟨(AV.slice (Hp.next (hpush h (mkCells [(AV.int .i64 x.1), (AV.int .i64 x.2.1), (AV.int .i64 x.2.2.1), (AV.int .i64 x.2.2.2.1), wx_1] 5))) 0 1 1 1 true), rfl, (cons_lt (show 2 < 256 by decide) nil_lt), S6⟩
  replace c4 : x.1 ≠ 3 := eqI_F c4
  replace hp := iff0 hp (c4)
  have S5 := own_nil S1 1
  have S6 : Sep [OwnO 1 AV.nilSlice (([] : List Nat).length) (u8s []), Frz (Low h) h] (hpush h (mkCells [(AV.int .i64 x.1), (AV.int .i64 x.2.1), (AV.int .i64 x.2.2.1), (AV.int .i64 x.2.2.2.1), wx_1] 5)) := S5.sel [0, 2] (by decide) rfl
  obtain rfl := Option.some.inj hp
  exact ⟨AV.nilSlice, rfl, nil_lt, S6⟩
def C_one (call : CallT) : Prop := ∀ {h : Hp} {wx_1 : AV} {x : (Int × Int × Int × Int × List Nat)} (fx_2 : BIn (Low h) h wx_1 x.2.2.2.2) {r : List Nat}, one_p x = some r → ∃ rv rh, call 12 [(AV.agg [(AV.int .i64 x.1), (AV.int .i64 x.2.1), (AV.int .i64 x.2.2.1), (AV.int .i64 x.2.2.2.1), wx_1])] h = .ok rv rh ∧ ∃ wk1 : AV, rv = wk1 ∧ (∀ x ∈ r, x < 256) ∧ Eng.Sep (OwnO 1 wk1 r.length (u8s r) :: Frz (Low h) h :: []) rh
theorem s_one (K d : Nat) : C_one (CC K (d + 2)) := by
  intro h wx_1 x fx_2 r hp
  rw [CC, evF_at (sumT_none rfl)]
  exact one_w (call := CC K (d + 1)) (N := 100000 + K) fx_2 (s_num2 K (d + 0)) hp
noncomputable def encode_l1 (B8 : List (Int × Int × Int × Int × List Nat)) (B9 : Nat) : Nat → List Nat → Nat → Option (List Nat × Nat)
  | 0, _, _ => none
  | m + 1, A3, A10 =>
    (if A10 < B9 then (gd (A10 < B8.length) (if 65535 < ((B8.getD A10 default).2.2.2.2).length then (gd (A10 + 1 < 9223372036854775808) (encode_l1 B8 B9 m A3 (A10 + 1))) else
    (ob (one_p ((B8.getD A10 default).1, (B8.getD A10 default).2.1, (B8.getD A10 default).2.2.1, (B8.getD A10 default).2.2.2.1, (B8.getD A10 default).2.2.2.2)) fun x10 =>
    (ob (decode_p x10) fun x23 =>
    (if x23.length = 1 then (gd (0 < x23.length) (ob (same_p ((x23.getD 0 default).1, (x23.getD 0 default).2.1, (x23.getD 0 default).2.2.1, (x23.getD 0 default).2.2.2.1, (x23.getD 0 default).2.2.2.2) ((B8.getD A10 default).1, (B8.getD A10 default).2.1, (B8.getD A10 default).2.2.1, (B8.getD A10 default).2.2.2.1, (B8.getD A10 default).2.2.2.2)) fun x44 =>
    (if x44 = true then (gd (A3.length + x10.length ≤ 70368744177664) (gd (A10 + 1 < 9223372036854775808) (encode_l1 B8 B9 m (A3 ++ x10) (A10 + 1)))) else
    (gd (A10 + 1 < 9223372036854775808) (encode_l1 B8 B9 m A3 (A10 + 1)))))) else
    (gd (A10 + 1 < 9223372036854775808) (encode_l1 B8 B9 m A3 (A10 + 1)))))))) else
    (some ((A3, A10))))
noncomputable def encode_l1C : AC := (.seq (.region [⟨(some 11), .q (.bin .lss (.tmp 10) (.tmp 9)), none⟩]) (.seq (.cond (.tmp 11) .skip (.exit 0)) (.seq (.block 1 (.seq (.region [⟨(some 12), .q (.idxAddrSl 5 (.tmp 8) (.tmp 10)), none⟩, ⟨(some 13), .q (.loadA 5 (.tmp 12)), none⟩, ⟨(some 5), .l (.alloc [(vi 0), (vi 0), (vi 0), (vi 0), AV.nilSlice]), none⟩, ⟨none, .e (.store 5 (.tmp 5) (.tmp 13)), none⟩]) (.seq (.seq (.region [⟨(some 14), .q (.fieldAddr 4 (.tmp 5)), none⟩, ⟨(some 15), .q (.loadS (.tmp 14)), none⟩, ⟨(some 16), .q (.lenL (.tmp 15)), none⟩, ⟨(some 17), .q (.bin .gtr (.tmp 16) (.const (vi 65535))), none⟩]) (.cond (.tmp 17) (.exit 1) .skip)) (.seq (.region [⟨(some 18), .q (.loadA 5 (.tmp 5)), none⟩, ⟨(some 19), .e (.call (.const (AV.func (.func 12) [] [])) [(.tmp 18)]), none⟩, ⟨(some 6), .q (.move (.tmp 19)), none⟩]) (.seq (.region [⟨(some 20), .q (.move (.tmp 6)), none⟩, ⟨(some 21), .e (.call (.const (AV.func (.func 6) [] [])) [(.tmp 20)]), none⟩, ⟨(some 7), .q (.move (.tmp 21)), none⟩]) (.seq (.drawn [⟨[(⟨(some 22), .q (.move (.tmp 7)), none⟩, 0), (⟨(some 23), .q (.lenL (.tmp 22)), none⟩, 0), (⟨(some 24), .q (.eq .int false (.tmp 23) (.const (vi 1))), none⟩, 0), (⟨(some 25), .q (.move (.tmp 24)), none⟩, 0), (⟨(some 26), .q (.move (.tmp 7)), (some (25, true))⟩, 0), (⟨(some 27), .q (.idxAddrSl 5 (.tmp 26) (.const (vi 0))), (some (25, true))⟩, 0), (⟨(some 28), .q (.loadA 5 (.tmp 27)), (some (25, true))⟩, 0), (⟨(some 29), .q (.loadA 5 (.tmp 5)), (some (25, true))⟩, 0)], (some ⟨(some 30), .e (.call (.const (AV.func (.func 13) [] [])) [(.tmp 28), (.tmp 29)]), (some (25, true))⟩)⟩, ⟨[(⟨(some 31), .q (.pick (.tmp 25) (.tmp 30) (.const (AV.bool false))), none⟩, 1)], none⟩]) (.cond (.tmp 31) (.region [⟨(some 32), .q (.move (.tmp 3)), none⟩, ⟨(some 33), .q (.move (.tmp 6)), none⟩, ⟨(some 34), .e (.append 1 1 (.tmp 32) (.tmp 33)), none⟩, ⟨(some 3), .q (.move (.tmp 34)), none⟩]) .skip))))))) (.region [⟨(some 35), .q (.bin .add (.tmp 10) (.const (vi 1))), none⟩, ⟨(some 10), .q (.move (.tmp 35)), none⟩]))))
theorem encode_l1_body {call : CallT} {N : Nat} {t : T} {h : Hp} {wB8_1 : AV} {G : Nat → Prop} {h0 : Hp} {B8 : List (Int × Int × Int × Int × List Nat)} {B9 : Nat} (fB8_2 : SIn (rP (rZ .i64) (rP (rZ .i64) (rP (rZ .i64) (rP (rZ .i64) rY)))) G h0 wB8_1 B8) (h_decode : C_decode call) (h_one : C_one call) (h_same : C_same call) {o : List Nat × Nat} {n : Nat} {A3 : List Nat} {A10 : Nat} {wA3 : AV} (hN : 90000 < N) (hi : (fun (z : Nat × List Nat × Nat × AV) (h' : Hp) => encode_l1 B8 B9 z.1 z.2.1 z.2.2.1 = some o ∧ (∀ x ∈ z.2.1, x < 256) ∧ Eng.Sep [OwnO 1 z.2.2.2 z.2.1.length (u8s z.2.1), Frz G h0] h') (n, A3, A10, wA3) h)
    : ∃ s, evC call N encode_l1C (ovT [(2, AV.nilSlice), (3, wA3), (8, wB8_1), (9, (vi B9)), (10, (vi A10))] t) h = s ∧ obsS [2, 3, 8, 9, 10] (fun ls h' => ∃ y, ls = ((fun (z : Nat × List Nat × Nat × AV) => [(2, AV.nilSlice), (3, z.2.2.2), (8, wB8_1), (9, (vi B9)), (10, (vi z.2.2.1))]) y).map (fun p => some p.2) ∧ (fun (z : Nat × List Nat × Nat × AV) (h' : Hp) => encode_l1 B8 B9 z.1 z.2.1 z.2.2.1 = some o ∧ (∀ x ∈ z.2.1, x < 256) ∧ Eng.Sep [OwnO 1 z.2.2.2 z.2.1.length (u8s z.2.1), Frz G h0] h') y h' ∧ (fun (z : Nat × List Nat × Nat × AV) => z.1) y < (fun (z : Nat × List Nat × Nat × AV) => z.1) (n, A3, A10, wA3)) (fun i ls h' => ∃ y, ls = ((fun (z : Nat × List Nat × Nat × AV) => [(2, AV.nilSlice), (3, z.2.2.2), (8, wB8_1), (9, (vi B9)), (10, (vi z.2.2.1))]) y).map (fun p => some p.2) ∧ (fun (i : Nat) (z : Nat × List Nat × Nat × AV) (h' : Hp) => (i = 0) ∧ (i = 0 → o = (z.2.1, z.2.2.1) ∧ (∀ x ∈ z.2.1, x < 256) ∧ Eng.Sep [OwnO 1 z.2.2.2 z.2.1.length (u8s z.2.1), Frz G h0] h')) i y h') (fun ls h' => (fun (ls : List (Option AV)) (h' : Hp) => False) ls h') s := by
  have hi : encode_l1 B8 B9 n A3 A10 = some o ∧ (∀ x ∈ A3, x < 256) ∧ Eng.Sep [OwnO 1 wA3 A3.length (u8s A3), Frz G h0] h := hi
  obtain ⟨hp, fA3, S⟩ := hi
  obtain ⟨m, hm⟩ : ∃ m, n = m + 1 := by
    cases n with
    | zero => first | cases hp | (unfold encode_l1 at hp; cases hp) | (simp [encode_l1] at hp)
    | succ m => exact ⟨m, rfl⟩
  rw [hm] at hp
  unfold encode_l1 at hp
  refine walk_ok (o := (.fork 0 (.exi 0 fun (w3 : AV) => (.tell 0 (elemP wB8_1 A10 5) (.tell 0 (AV.agg [(AV.int .i64 ((B8.getD A10 default).1)), (AV.int .i64 ((B8.getD A10 default).2.1)), (AV.int .i64 ((B8.getD A10 default).2.2.1)), (AV.int .i64 ((B8.getD A10 default).2.2.2.1)), w3]) (.effx 1 (fun e7 => (AV.tuple [])) (fun e7 => (.tell 1 w3 (.tell 0 (vi (((B8.getD A10 default).2.2.2.2).length)) (.fork 0 (.tell 0 (vi (A10 + 1)) .fin) (.tell 0 (AV.agg [(AV.int .i64 ((B8.getD A10 default).1)), (AV.int .i64 ((B8.getD A10 default).2.1)), (AV.int .i64 ((B8.getD A10 default).2.2.1)), (AV.int .i64 ((B8.getD A10 default).2.2.2.1)), w3]) (.exi 0 fun (x10 : List Nat) => (.exi 0 fun (w14 : AV) => (.exi 0 fun (h17 : Hp) => (.eff 0 w14 h17 (.exi 2 fun (x23 : List (Int × Int × Int × Int × List Nat)) => (.exi 0 fun (w27 : AV) => (.exi 0 fun (h31 : Hp) => (.eff 0 w27 h31 (.tell 2 (vi x23.length) (.fork 1 (.exi 1 fun (w41 : AV) => (.tell 0 (elemP w27 0 5) (.tell 0 (AV.agg [(AV.int .i64 ((x23.getD 0 default).1)), (AV.int .i64 ((x23.getD 0 default).2.1)), (AV.int .i64 ((x23.getD 0 default).2.2.1)), (AV.int .i64 ((x23.getD 0 default).2.2.2.1)), w41]) (.tell 0 (AV.agg [(AV.int .i64 ((B8.getD A10 default).1)), (AV.int .i64 ((B8.getD A10 default).2.1)), (AV.int .i64 ((B8.getD A10 default).2.2.1)), (AV.int .i64 ((B8.getD A10 default).2.2.2.1)), w3]) (.again 0 (.exi 0 fun (x44 : Bool) => (.exi 0 fun (h49 : Hp) => (.eff 0 (AV.bool x44) h49 (.fork 0 (.again 0 (.effx 2 (fun e56 => e56.v) (fun e56 => (.tell 1 (vi (A10 + 1)) .fin)))) (.again 0 (.tell 0 (vi (A10 + 1)) .fin))))))))))) (.again 0 (.tell 2 (vi (A10 + 1)) .fin))))))))))))))))))))) .fin)) (p := (fun (KN : List (Option AV) → Hp → Prop) (KE : Nat → List (Option AV) → Hp → Prop) (KR : List (Option AV) → Hp → Prop) => ((ltI (Int.ofNat A10) (Int.ofNat B9) = true → (∃ w3 : AV, (evQ (.idxAddrSl 5 (.const wB8_1) (.const (vi A10))) .lf H0 = .ok (elemP wB8_1 A10 5) ∧ ((evQ (.loadA 5 (.const (elemP wB8_1 A10 5))) .lf h = .ok (AV.agg [(AV.int .i64 ((B8.getD A10 default).1)), (AV.int .i64 ((B8.getD A10 default).2.1)), (AV.int .i64 ((B8.getD A10 default).2.2.1)), (AV.int .i64 ((B8.getD A10 default).2.2.2.1)), w3]) ∧ (∃ e7 : Ev, evE (.store 5 (.const (AV.ptr (Hp.next h) 0)) (.const (AV.agg [(AV.int .i64 ((B8.getD A10 default).1)), (AV.int .i64 ((B8.getD A10 default).2.1)), (AV.int .i64 ((B8.getD A10 default).2.2.1)), (AV.int .i64 ((B8.getD A10 default).2.2.2.1)), w3]))) call .lf (hpush h (mkCells [(vi 0), (vi 0), (vi 0), (vi 0), AV.nilSlice] 5)) = .ok (AV.tuple []) e7.h ∧ ((evQ (.loadS (.const (AV.ptr (Hp.next h) 4))) .lf e7.h = .ok w3 ∧ ((evQ (.lenL (.const w3)) .lf H0 = .ok (vi (((B8.getD A10 default).2.2.2.2).length)) ∧ ((ltI (Int.ofNat 65535) (Int.ofNat (((B8.getD A10 default).2.2.2.2).length)) = true → ((evQ (.bin .add (.const (vi A10)) (.const (vi 1))) .lf H0 = .ok (vi (A10 + 1)) ∧ KN [some AV.nilSlice, some wA3, some wB8_1, some (vi B9), some (vi (A10 + 1))] e7.h))) ∧ (ltI (Int.ofNat 65535) (Int.ofNat (((B8.getD A10 default).2.2.2.2).length)) = false → ((evQ (.loadA 5 (.const (AV.ptr (Hp.next h) 0))) .lf e7.h = .ok (AV.agg [(AV.int .i64 ((B8.getD A10 default).1)), (AV.int .i64 ((B8.getD A10 default).2.1)), (AV.int .i64 ((B8.getD A10 default).2.2.1)), (AV.int .i64 ((B8.getD A10 default).2.2.2.1)), w3]) ∧ (∃ x10 : List Nat, ∃ w14 : AV, ∃ h17 : Hp, (call 12 [(AV.agg [(AV.int .i64 ((B8.getD A10 default).1)), (AV.int .i64 ((B8.getD A10 default).2.1)), (AV.int .i64 ((B8.getD A10 default).2.2.1)), (AV.int .i64 ((B8.getD A10 default).2.2.2.1)), w3])] e7.h = .ok w14 h17 ∧ (∃ x23 : List (Int × Int × Int × Int × List Nat), ∃ w27 : AV, ∃ h31 : Hp, (call 6 [w14] h17 = .ok w27 h31 ∧ ((evQ (.lenL (.const w27)) .lf H0 = .ok (vi x23.length) ∧ ((eqI (Int.ofNat x23.length) (Int.ofNat 1) = true → (∃ w41 : AV, (evQ (.idxAddrSl 5 (.const w27) (.const (vi 0))) .lf H0 = .ok (elemP w27 0 5) ∧ ((evQ (.loadA 5 (.const (elemP w27 0 5))) .lf h31 = .ok (AV.agg [(AV.int .i64 ((x23.getD 0 default).1)), (AV.int .i64 ((x23.getD 0 default).2.1)), (AV.int .i64 ((x23.getD 0 default).2.2.1)), (AV.int .i64 ((x23.getD 0 default).2.2.2.1)), w41]) ∧ ((evQ (.loadA 5 (.const (AV.ptr (Hp.next h) 0))) .lf h31 = .ok (AV.agg [(AV.int .i64 ((B8.getD A10 default).1)), (AV.int .i64 ((B8.getD A10 default).2.1)), (AV.int .i64 ((B8.getD A10 default).2.2.1)), (AV.int .i64 ((B8.getD A10 default).2.2.2.1)), w3]) ∧ ((again (.loadA 5 (.const (AV.ptr (Hp.next h) 0))) .lf (AV.agg [(AV.int .i64 ((B8.getD A10 default).1)), (AV.int .i64 ((B8.getD A10 default).2.1)), (AV.int .i64 ((B8.getD A10 default).2.2.1)), (AV.int .i64 ((B8.getD A10 default).2.2.2.1)), w3]) h31 = true ∧ again (.loadA 5 (.const (elemP w27 0 5))) .lf (AV.agg [(AV.int .i64 ((x23.getD 0 default).1)), (AV.int .i64 ((x23.getD 0 default).2.1)), (AV.int .i64 ((x23.getD 0 default).2.2.1)), (AV.int .i64 ((x23.getD 0 default).2.2.2.1)), w41]) h31 = true ∧ again (.idxAddrSl 5 (.const w27) (.const (vi 0))) .lf (elemP w27 0 5) h31 = true ∧ again (.move (.const w27)) .lf w27 h31 = true ∧ again (.move (.const (AV.bool (eqI (Int.ofNat x23.length) (Int.ofNat 1))))) .lf (AV.bool true) h31 = true ∧ again (.eq .int false (.const (vi x23.length)) (.const (vi 1))) .lf (AV.bool (eqI (Int.ofNat x23.length) (Int.ofNat 1))) h31 = true ∧ again (.lenL (.const w27)) .lf (vi x23.length) h31 = true ∧ again (.move (.const w27)) .lf w27 h31 = true ∧ True) ∧ (∃ x44 : Bool, ∃ h49 : Hp, (call 13 [(AV.agg [(AV.int .i64 ((x23.getD 0 default).1)), (AV.int .i64 ((x23.getD 0 default).2.1)), (AV.int .i64 ((x23.getD 0 default).2.2.1)), (AV.int .i64 ((x23.getD 0 default).2.2.2.1)), w41]), (AV.agg [(AV.int .i64 ((B8.getD A10 default).1)), (AV.int .i64 ((B8.getD A10 default).2.1)), (AV.int .i64 ((B8.getD A10 default).2.2.1)), (AV.int .i64 ((B8.getD A10 default).2.2.2.1)), w3])] h31 = .ok (AV.bool x44) h49 ∧ ((x44 = true → ((again (.pick (.const (AV.bool true)) (.const (AV.bool x44)) (.const (AV.bool false))) .lf (AV.bool true) h49 = true ∧ True) ∧ (∃ e56 : Ev, evE (.append 1 1 (.const wA3) (.const w14)) call .lf h49 = .ok e56.v e56.h ∧ ((evQ (.bin .add (.const (vi A10)) (.const (vi 1))) .lf H0 = .ok (vi (A10 + 1)) ∧ KN [some AV.nilSlice, some e56.v, some wB8_1, some (vi B9), some (vi (A10 + 1))] e56.h))))) ∧ (x44 = false → ((again (.pick (.const (AV.bool true)) (.const (AV.bool x44)) (.const (AV.bool false))) .lf (AV.bool false) h49 = true ∧ True) ∧ ((evQ (.bin .add (.const (vi A10)) (.const (vi 1))) .lf H0 = .ok (vi (A10 + 1)) ∧ KN [some AV.nilSlice, some wA3, some wB8_1, some (vi B9), some (vi (A10 + 1))] h49))))))))))))))) ∧ (eqI (Int.ofNat x23.length) (Int.ofNat 1) = false → ((again (.move (.const (AV.bool (eqI (Int.ofNat x23.length) (Int.ofNat 1))))) .lf (AV.bool false) h31 = true ∧ again (.eq .int false (.const (vi x23.length)) (.const (vi 1))) .lf (AV.bool (eqI (Int.ofNat x23.length) (Int.ofNat 1))) h31 = true ∧ again (.lenL (.const w27)) .lf (vi x23.length) h31 = true ∧ again (.move (.const w27)) .lf w27 h31 = true ∧ True) ∧ ((evQ (.bin .add (.const (vi A10)) (.const (vi 1))) .lf H0 = .ok (vi (A10 + 1)) ∧ KN [some AV.nilSlice, some wA3, some wB8_1, some (vi B9), some (vi (A10 + 1))] h31))))))))))))))))))))))))) ∧ (ltI (Int.ofNat A10) (Int.ofNat B9) = false → KE 0 [some AV.nilSlice, some wA3, some wB8_1, some (vi B9), some (vi A10)] h))) (fun ls h' => ∃ y, ls = ((fun (z : Nat × List Nat × Nat × AV) => [(2, AV.nilSlice), (3, z.2.2.2), (8, wB8_1), (9, (vi B9)), (10, (vi z.2.2.1))]) y).map (fun p => some p.2) ∧ (fun (z : Nat × List Nat × Nat × AV) (h' : Hp) => encode_l1 B8 B9 z.1 z.2.1 z.2.2.1 = some o ∧ (∀ x ∈ z.2.1, x < 256) ∧ Eng.Sep [OwnO 1 z.2.2.2 z.2.1.length (u8s z.2.1), Frz G h0] h') y h' ∧ (fun (z : Nat × List Nat × Nat × AV) => z.1) y < (fun (z : Nat × List Nat × Nat × AV) => z.1) (n, A3, A10, wA3)) (fun i ls h' => ∃ y, ls = ((fun (z : Nat × List Nat × Nat × AV) => [(2, AV.nilSlice), (3, z.2.2.2), (8, wB8_1), (9, (vi B9)), (10, (vi z.2.2.1))]) y).map (fun p => some p.2) ∧ (fun (i : Nat) (z : Nat × List Nat × Nat × AV) (h' : Hp) => (i = 0) ∧ (i = 0 → o = (z.2.1, z.2.2.1) ∧ (∀ x ∈ z.2.1, x < 256) ∧ Eng.Sep [OwnO 1 z.2.2.2 z.2.1.length (u8s z.2.1), Frz G h0] h')) i y h') (fun ls h' => (fun (ls : List (Option AV)) (h' : Hp) => False) ls h')) (by kernel_rfl) ?_
  refine ⟨fun c1 => ?_, fun c1 => ?_⟩
  · replace c1 := ltI_t c1
    replace hp := ift hp c1
    have ⟨g2, hp⟩ := gd_inv hp
    obtain ⟨csR5, hcR5, R5⟩ := sin_row fB8_2 g2
    obtain ⟨_, _, rfl, rfl, ⟨_, _, rfl, rfl, ⟨_, _, rfl, rfl, ⟨_, _, rfl, rfl, ⟨w3, rfl, f4⟩⟩⟩⟩⟩ := hcR5
    refine ⟨w3, sin_idx fB8_2 g2, ?_⟩
    refine ⟨row_loadA S (i := 1) rfl R5 (by simp), ?_⟩
    have S6 := cel_new S [(vi 0), (vi 0), (vi 0), (vi 0), AV.nilSlice] rfl
    obtain ⟨e7, qe7, se7⟩ := cel_storeN call S6 (i := 0) (o := 0) (n := 5) (xs := [(AV.int .i64 ((B8.getD A10 default).1)), (AV.int .i64 ((B8.getD A10 default).2.1)), (AV.int .i64 ((B8.getD A10 default).2.2.1)), (AV.int .i64 ((B8.getD A10 default).2.2.2.1)), w3]) rfl (lb rfl) rfl (by decide) (all_cell rfl (all_cell rfl (all_cell rfl (all_cell rfl (all_cell (BIn.cell f4) all_cell0)))))
    refine ⟨e7, qe7, ?_⟩
    refine ⟨cel_load se7 (i := 0) rfl rfl, ?_⟩
    refine ⟨q_len (BIn.now se7 (i := 2) rfl f4), ?_⟩
    refine ⟨fun c9 => ?_, fun c9 => ?_⟩
    · replace c9 := ltI_t c9
      replace hp := ift hp c9
      have ⟨g10, hp⟩ := gd_inv hp
      refine ⟨q_add g10, ?_⟩
      have S11 : Sep [OwnO 1 wA3 A3.length (u8s A3), Frz G h0] e7.h := se7.sel [1, 2] (by decide) rfl
      refine ⟨(m, A3, A10 + 1, wA3), rfl, ⟨hp, fA3, S11⟩, by show m < n; omega⟩
    replace c9 := ltI_f c9
    replace hp := iff0 hp (nltO c9)
    refine ⟨cel_loadA se7 (i := 0) (o := 0) (n := 5) rfl (lb rfl), ?_⟩
    have ⟨x10, hb11, hp⟩ := ob_inv hp
    obtain ⟨v16, h17, q18, w14, e19, f15, S20⟩ := h_one (BIn.up (Sep.low se7 (i := 2) rfl) f4) hb11
    replace e19 := e19.symm
    subst e19
    have S22 := Sep.call se7 (news := [OwnO 1 w14 x10.length (u8s x10)]) S20
    refine ⟨x10, w14, h17, q18, ?_⟩
    have ⟨x23, hb24, hp⟩ := ob_inv hp
    obtain ⟨v30, h31, q32, w27, L29, G25, k26, e33, f28, S34⟩ := h_decode (own_bin S22 (i := 0) rfl f15) hb24
    replace e33 := e33.symm
    subst e33
    have S36 := Sep.call S22 (news := [OwnO 5 w27 x23.length L29, Frz G25 k26]) S34
    refine ⟨x23, w27, h31, q32, ?_⟩
    refine ⟨own_len S36 (i := 0) rfl, ?_⟩
    refine ⟨fun c37 => ?_, fun c37 => ?_⟩
    · have rc37 := c37
      replace c37 := eqI_t c37
      replace hp := ift hp c37
      obtain ⟨G38, pG38, uG38, sG38⟩ := own_freezeR (a := (rP (rZ .i64) (rP (rZ .i64) (rP (rZ .i64) (rP (rZ .i64) rY))))) S36 f28 rfl
      have ⟨g40, hp⟩ := gd_inv hp
      obtain ⟨csR43, hcR43, R43⟩ := sin_row pG38 g40
      obtain ⟨_, _, rfl, rfl, ⟨_, _, rfl, rfl, ⟨_, _, rfl, rfl, ⟨_, _, rfl, rfl, ⟨w41, rfl, f42⟩⟩⟩⟩⟩ := hcR43
      refine ⟨w41, sin_idx pG38 g40, ?_⟩
      refine ⟨row_loadA sG38 (i := 0) rfl R43 (by simp), ?_⟩
      refine ⟨cel_loadA sG38 (i := 2) (o := 0) (n := 5) rfl (lb rfl), ?_⟩
      refine ⟨⟨again_of (cel_loadA sG38 (i := 2) (o := 0) (n := 5) rfl (lb rfl)) (avEq_agg1 (avEq_int _ _) (avEq_agg1 (avEq_int _ _) (avEq_agg1 (avEq_int _ _) (avEq_agg1 (avEq_int _ _) (avEq_agg1 (BIn.same f4) rfl))))), again_of (row_loadA sG38 (i := 0) rfl R43 (by simp)) (avEq_agg1 (avEq_int _ _) (avEq_agg1 (avEq_int _ _) (avEq_agg1 (avEq_int _ _) (avEq_agg1 (avEq_int _ _) (avEq_agg1 (BIn.same f42) rfl))))), again_of (sin_idx pG38 g40) (elemP_same _ _ _), again_of (rfl) (SIn.same pG38), again_of (congrArg (fun b => OV.ok (AV.bool b)) rc37) (avEq_bool _), again_of (rfl) (avEq_bool _), again_of (own_len S36 (i := 0) rfl) (avEq_int _ _), again_of (rfl) (SIn.same pG38), trivial⟩, ?_⟩
      have ⟨x44, hb45, hp⟩ := ob_inv hp
      obtain ⟨v48, h49, q50, e51, S52⟩ := h_same (BIn.up (Sep.low sG38 (i := 0) rfl) f42) (BIn.up (Sep.low sG38 (i := 4) rfl) f4) hb45
      replace e51 := e51.symm
      subst e51
      have S54 := Sep.call sG38 (news := []) S52
      refine ⟨x44, h49, q50, ?_⟩
      refine ⟨fun c55 => ?_, fun c55 => ?_⟩
      · have rc55 := c55
        replace hp := ift hp c55
        refine ⟨⟨again_of (congrArg (fun b => OV.ok (AV.bool b)) rc55) (avEq_bool _), trivial⟩, ?_⟩
        have ⟨g57, hp⟩ := gd_inv hp
        obtain ⟨e56, qe56, se56⟩ := own_append (bytes := 1) call S54 (i := 3) rfl (x := w14) (m := x10.length) (xs := u8s x10) (fun z k => own_src S54 (i := 1) rfl z k) (own_L S54 (i := 1) rfl) (u8s_cells _) (show (A3.length + x10.length) * 1 ≤ 70368744177664 by omega) g57
        have S59 : Sep [Frz G38 h31, OwnO 1 w14 x10.length (u8s x10), Cel (Hp.next h) [(AV.int .i64 ((B8.getD A10 default).1)), (AV.int .i64 ((B8.getD A10 default).2.1)), (AV.int .i64 ((B8.getD A10 default).2.2.1)), (AV.int .i64 ((B8.getD A10 default).2.2.2.1)), w3], OwnO 1 e56.v ((A3 ++ x10).length) (u8s (A3 ++ x10)), Frz G h0] e56.h := (by have z := se56; first | (rw [show u8s (A3 ++ x10) = u8s A3 ++ u8s x10 from by simp [u8s_eq], show (A3 ++ x10 : List Nat).length = A3.length + x10.length from by simp]; exact z) | (rw [show (A3.length + x10.length : Nat) = (A3 ++ x10 : List Nat).length from by simp, show (u8s A3 ++ (u8s x10) : List AV) = u8s (A3 ++ x10) from by simp [u8s_eq]] at z; exact z))
        refine ⟨e56, qe56, ?_⟩
        have ⟨g60, hp⟩ := gd_inv hp
        refine ⟨q_add g60, ?_⟩
        have S61 : Sep [OwnO 1 e56.v ((A3 ++ x10).length) (u8s (A3 ++ x10)), Frz G h0] e56.h := S59.sel [3, 4] (by decide) rfl
        refine ⟨(m, A3 ++ x10, A10 + 1, e56.v), rfl, ⟨hp, (put_lt fA3 f15), S61⟩, by show m < n; omega⟩
      have rc55 := c55
      replace hp := iff0 hp (nbF c55)
      refine ⟨⟨again_of (congrArg (fun b => OV.ok (AV.bool b)) rc55) (avEq_bool _), trivial⟩, ?_⟩
      have ⟨g56, hp⟩ := gd_inv hp
      refine ⟨q_add g56, ?_⟩
      have S57 : Sep [OwnO 1 wA3 A3.length (u8s A3), Frz G h0] h49 := S54.sel [3, 4] (by decide) rfl
      refine ⟨(m, A3, A10 + 1, wA3), rfl, ⟨hp, fA3, S57⟩, by show m < n; omega⟩
    have rc37 := c37
    replace c37 := eqI_f c37
    replace hp := iff0 hp (c37)
    refine ⟨⟨again_of (congrArg (fun b => OV.ok (AV.bool b)) rc37) (avEq_bool _), again_of (rfl) (avEq_bool _), again_of (own_len S36 (i := 0) rfl) (avEq_int _ _), again_of (rfl) (own_same S36 (i := 0) rfl), trivial⟩, ?_⟩
    have ⟨g38, hp⟩ := gd_inv hp
    refine ⟨q_add g38, ?_⟩
    have S39 : Sep [OwnO 1 wA3 A3.length (u8s A3), Frz G h0] h31 := S36.sel [4, 5] (by decide) rfl
    refine ⟨(m, A3, A10 + 1, wA3), rfl, ⟨hp, fA3, S39⟩, by show m < n; omega⟩
  replace c1 := ltI_f c1
  replace hp := iff0 hp (nltO c1)
  refine ⟨(m, A3, A10, wA3), rfl, rfl, fun _ => ⟨(Option.some.inj hp).symm, fA3, S⟩⟩
theorem encode_l1_t {call : CallT} {N : Nat} {wB8_1 : AV} {G : Nat → Prop} {h0 : Hp} {B8 : List (Int × Int × Int × Int × List Nat)} {B9 : Nat} (fB8_2 : SIn (rP (rZ .i64) (rP (rZ .i64) (rP (rZ .i64) (rP (rZ .i64) rY)))) G h0 wB8_1 B8) (h_decode : C_decode call) (h_one : C_one call) (h_same : C_same call) {o : List Nat × Nat} {n : Nat} {A3 : List Nat} {A10 : Nat} {wA3 : AV} {h : Hp} (hi : (fun (z : Nat × List Nat × Nat × AV) (h' : Hp) => encode_l1 B8 B9 z.1 z.2.1 z.2.2.1 = some o ∧ (∀ x ∈ z.2.1, x < 256) ∧ Eng.Sep [OwnO 1 z.2.2.2 z.2.1.length (u8s z.2.1), Frz G h0] h') (n, A3, A10, wA3) h) (hN : n < N) (hN' : 90000 < N) {t : T} (ht : Has ((fun (z : Nat × List Nat × Nat × AV) => [(2, AV.nilSlice), (3, z.2.2.2), (8, wB8_1), (9, (vi B9)), (10, (vi z.2.2.1))]) (n, A3, A10, wA3)) t) :
    (∃ i y t' h', evC call N (.loop encode_l1C) t h = .exit i t' h' ∧ Has ((fun (z : Nat × List Nat × Nat × AV) => [(2, AV.nilSlice), (3, z.2.2.2), (8, wB8_1), (9, (vi B9)), (10, (vi z.2.2.1))]) y) t' ∧ (fun (i : Nat) (z : Nat × List Nat × Nat × AV) (h' : Hp) => (i = 0) ∧ (i = 0 → o = (z.2.1, z.2.2.1) ∧ (∀ x ∈ z.2.1, x < 256) ∧ Eng.Sep [OwnO 1 z.2.2.2 z.2.1.length (u8s z.2.1), Frz G h0] h')) i y h') ∨ (∃ t' h', evC call N (.loop encode_l1C) t h = .ret t' h' ∧ (fun (ls : List (Option AV)) (h' : Hp) => False) (slots [2, 3, 8, 9, 10] t') h') :=
  loop_st (fun (z : Nat × List Nat × Nat × AV) => [(2, AV.nilSlice), (3, z.2.2.2), (8, wB8_1), (9, (vi B9)), (10, (vi z.2.2.1))]) [2, 3, 8, 9, 10] (fun _ => rfl) (fun (z : Nat × List Nat × Nat × AV) (h' : Hp) => encode_l1 B8 B9 z.1 z.2.1 z.2.2.1 = some o ∧ (∀ x ∈ z.2.1, x < 256) ∧ Eng.Sep [OwnO 1 z.2.2.2 z.2.1.length (u8s z.2.1), Frz G h0] h') (fun (z : Nat × List Nat × Nat × AV) => z.1) (fun (i : Nat) (z : Nat × List Nat × Nat × AV) (h' : Hp) => (i = 0) ∧ (i = 0 → o = (z.2.1, z.2.2.1) ∧ (∀ x ∈ z.2.1, x < 256) ∧ Eng.Sep [OwnO 1 z.2.2.2 z.2.1.length (u8s z.2.1), Frz G h0] h')) (fun (ls : List (Option AV)) (h' : Hp) => False) (fun ⟨n, A3, A10, wA3⟩ t h hi => encode_l1_body fB8_2 h_decode h_one h_same hN' hi) (n, A3, A10, wA3) h hi hN t ht
noncomputable def encode_p (l : List (Int × Int × Int × Int × List Nat)) : Option (List Nat) :=
  (ob (encode_l1 l l.length 90000 [] 0) fun o3 =>
    (some o3.1))
theorem encode_w {call : CallT} {N : Nat} {h : Hp} {wl_1 : AV} {l : List (Int × Int × Int × Int × List Nat)} (fl_2 : SIn (rP (rZ .i64) (rP (rZ .i64) (rP (rZ .i64) (rP (rZ .i64) rY)))) (Low h) h wl_1 l) (h_decode : C_decode call) (h_one : C_one call) (h_same : C_same call) (hN : 90000 < N) {r : List Nat} (hp : encode_p l = some r) :
    ∃ rv rh, evF1 (progS Tryz.prog (compDrawn Tryz.prog)) N call 7 [wl_1] h = .ok rv rh ∧ (fun (rv : AV) (rh : Hp) => ∃ wk1 : AV, rv = wk1 ∧ (∀ x ∈ r, x < 256) ∧ Eng.Sep (OwnO 1 wk1 r.length (u8s r) :: Frz (Low h) h :: []) rh) rv rh := by
  have S : Eng.Sep [Frz (Low h) h] h := Sep.start h
  unfold encode_p at hp
  refine fwalk_ok (K := (fun (rv : AV) (rh : Hp) => ∃ wk1 : AV, rv = wk1 ∧ (∀ x ∈ r, x < 256) ∧ Eng.Sep (OwnO 1 wk1 r.length (u8s r) :: Frz (Low h) h :: []) rh)) (o := (.tell 3 (vi l.length) (.exi 1 fun (A3o3 : List Nat) => (.exi 0 fun (A10o3 : Nat) => (.exi 0 fun (wA3o3 : AV) => (.exi 0 fun (t6 : T) => (.exi 0 fun (h7 : Hp) => (.lp 0 (.exit 0 (ovT [(2, AV.nilSlice), (3, wA3o3), (8, wl_1), (9, (vi l.length)), (10, (vi A10o3))] t6) h7) .fin)))))))) (p := (fun (KK : AV → Hp → Prop) => ((evQ (.lenL (.const wl_1)) .lf H0 = .ok (vi l.length) ∧ (∃ A3o3 : List Nat, ∃ A10o3 : Nat, ∃ wA3o3 : AV, ∃ t6 : T, ∃ h7 : Hp, (evC call N (.loop encode_l1C) (ovT [(0, wl_1), (2, AV.nilSlice), (3, AV.nilSlice), (8, wl_1), (9, (vi l.length)), (10, (vi 0))] .lf) h = (.exit 0 (ovT [(2, AV.nilSlice), (3, wA3o3), (8, wl_1), (9, (vi l.length)), (10, (vi A10o3))] t6) h7) ∧ True ∧ KK wA3o3 h7))))) (fun (rv : AV) (rh : Hp) => ∃ wk1 : AV, rv = wk1 ∧ (∀ x ∈ r, x < 256) ∧ Eng.Sep (OwnO 1 wk1 r.length (u8s r) :: Frz (Low h) h :: []) rh)) (by kernel_rfl) ?_
  refine ⟨sin_len fl_2, ?_⟩
  have S1 := own_nil S 1
  have ⟨o3, hb4, hp⟩ := ob_inv hp
  rcases encode_l1_t fl_2 h_decode h_one h_same (o := o3) (B8 := l) (B9 := l.length) (n := 90000) (A3 := []) (A10 := 0) (wA3 := AV.nilSlice) ⟨hb4, nil_lt, S1⟩ hN hN (t := (ovT [(0, wl_1), (2, AV.nilSlice), (3, AV.nilSlice), (8, wl_1), (9, (vi l.length)), (10, (vi 0))] .lf)) (show slots [2, 3, 8, 9, 10] _ = [some AV.nilSlice, some AV.nilSlice, some wl_1, some (vi l.length), some (vi 0)] by kernel_rfl) with ⟨io3, ⟨_, A3o3, A10o3, wA3o3⟩, t6, h7, qo3, wo3, zo3⟩ | ⟨_, _, _, zo3⟩
  rotate_left
  · exact zo3.elim
  obtain ⟨jo3, zo3⟩ := zo3
  subst jo3
  replace zo3 := zo3 rfl
  obtain ⟨uo3, fA3o3, So3⟩ := zo3
  replace uo3 := uo3.symm
  subst uo3
  try dsimp only at hp
  refine ⟨A3o3, A10o3, wA3o3, t6, h7, (qo3.trans (congrArg (fun t => RS.exit 0 t h7) (ovT_eq wo3).symm)), trivial, ?_⟩
  obtain rfl := Option.some.inj hp
  exact ⟨wA3o3, rfl, fA3o3, So3⟩
def C_encode (call : CallT) : Prop := ∀ {h : Hp} {wl_1 : AV} {l : List (Int × Int × Int × Int × List Nat)} (fl_2 : SIn (rP (rZ .i64) (rP (rZ .i64) (rP (rZ .i64) (rP (rZ .i64) rY)))) (Low h) h wl_1 l) {r : List Nat}, encode_p l = some r → ∃ rv rh, call 7 [wl_1] h = .ok rv rh ∧ ∃ wk1 : AV, rv = wk1 ∧ (∀ x ∈ r, x < 256) ∧ Eng.Sep (OwnO 1 wk1 r.length (u8s r) :: Frz (Low h) h :: []) rh
theorem s_encode (K d : Nat) : C_encode (CC K (d + 6)) := by
  intro h wl_1 l fl_2 r hp
  rw [CC, evF_at (sumT_none rfl)]
  exact encode_w (call := CC K (d + 5)) (N := 100000 + K) fl_2 (s_decode K (d + 0)) (s_one K (d + 3)) (s_same K (d + 3)) (by omega) hp
end Go.Proofs.YtgimoeiddjepnaaGreatDoor
end
section
set_option linter.unusedVariables false
namespace Go.Proofs.YtgimoeiddjepnaaGreatDoor
set_option linter.unusedVariables false
set_option linter.unusedSimpArgs false
open Go Eng
noncomputable def samesteps_l1 (B0 : List (Int × Int × Int × Int × List Nat)) (B1 : List (Int × Int × Int × Int × List Nat)) : Nat → Bool → Nat → Option (LO (Bool × Nat) (Bool))
  | 0, _, _ => none
  | m + 1, A4, A5 =>
    (if A5 < B0.length then (gd (A5 < B1.length) (if (B0.getD A5 default).1 ≠ (B1.getD A5 default).1 then (some (LO.rt false)) else
    (if (B0.getD A5 default).2.1 ≠ (B1.getD A5 default).2.1 then (some (LO.rt false)) else
    (if (B0.getD A5 default).2.2.1 ≠ (B1.getD A5 default).2.2.1 then (some (LO.rt false)) else
    (if (B0.getD A5 default).2.2.2.1 ≠ (B1.getD A5 default).2.2.2.1 then (some (LO.rt false)) else
    (if ((B0.getD A5 default).2.2.2.2) ≠ ((B1.getD A5 default).2.2.2.2) then (some (LO.rt false)) else
    (gd (A5 + 1 < 9223372036854775808) (samesteps_l1 B0 B1 m A4 (A5 + 1))))))))) else
    (some (LO.ex (A4, A5))))
noncomputable def samesteps_l1C : AC := (.seq (.seq (.region [⟨(some 11), .q (.move (.tmp 5)), none⟩, ⟨(some 12), .q (.move (.tmp 0)), none⟩, ⟨(some 13), .q (.lenL (.tmp 12)), none⟩, ⟨(some 14), .q (.bin .lss (.tmp 11) (.tmp 13)), none⟩]) (.cond (.tmp 14) .skip (.exit 0))) (.seq (.block 1 (.seq (.drawn [⟨[(⟨(some 17), .q (.move (.tmp 0)), none⟩, 0), (⟨(some 18), .q (.move (.tmp 5)), none⟩, 0), (⟨(some 19), .q (.idxAddrSl 5 (.tmp 17) (.tmp 18)), none⟩, 0), (⟨(some 20), .q (.fieldAddr 0 (.tmp 19)), none⟩, 0), (⟨(some 21), .q (.loadS (.tmp 20)), none⟩, 0), (⟨(some 22), .q (.move (.tmp 1)), none⟩, 0), (⟨(some 23), .q (.move (.tmp 5)), none⟩, 0), (⟨(some 24), .q (.idxAddrSl 5 (.tmp 22) (.tmp 23)), none⟩, 0), (⟨(some 25), .q (.fieldAddr 0 (.tmp 24)), none⟩, 0), (⟨(some 26), .q (.loadS (.tmp 25)), none⟩, 0), (⟨(some 27), .q (.eq .int true (.tmp 21) (.tmp 26)), none⟩, 0), (⟨(some 28), .q (.move (.tmp 27)), none⟩, 0), (⟨(some 29), .q (.move (.tmp 0)), (some (28, false))⟩, 0), (⟨(some 30), .q (.move (.tmp 5)), (some (28, false))⟩, 0), (⟨(some 31), .q (.idxAddrSl 5 (.tmp 29) (.tmp 30)), (some (28, false))⟩, 0), (⟨(some 32), .q (.fieldAddr 1 (.tmp 31)), (some (28, false))⟩, 0), (⟨(some 33), .q (.loadS (.tmp 32)), (some (28, false))⟩, 0), (⟨(some 34), .q (.move (.tmp 1)), (some (28, false))⟩, 0), (⟨(some 35), .q (.move (.tmp 5)), (some (28, false))⟩, 0), (⟨(some 36), .q (.idxAddrSl 5 (.tmp 34) (.tmp 35)), (some (28, false))⟩, 0), (⟨(some 37), .q (.fieldAddr 1 (.tmp 36)), (some (28, false))⟩, 0), (⟨(some 38), .q (.loadS (.tmp 37)), (some (28, false))⟩, 0), (⟨(some 39), .q (.eq .int true (.tmp 33) (.tmp 38)), (some (28, false))⟩, 0), (⟨(some 40), .q (.pick (.tmp 28) (.const (AV.bool true)) (.tmp 39)), none⟩, 0), (⟨(some 41), .q (.move (.tmp 40)), none⟩, 0), (⟨(some 42), .q (.move (.tmp 0)), (some (41, false))⟩, 0), (⟨(some 43), .q (.move (.tmp 5)), (some (41, false))⟩, 0), (⟨(some 44), .q (.idxAddrSl 5 (.tmp 42) (.tmp 43)), (some (41, false))⟩, 0), (⟨(some 45), .q (.fieldAddr 2 (.tmp 44)), (some (41, false))⟩, 0), (⟨(some 46), .q (.loadS (.tmp 45)), (some (41, false))⟩, 0), (⟨(some 47), .q (.move (.tmp 1)), (some (41, false))⟩, 0), (⟨(some 48), .q (.move (.tmp 5)), (some (41, false))⟩, 0), (⟨(some 49), .q (.idxAddrSl 5 (.tmp 47) (.tmp 48)), (some (41, false))⟩, 0), (⟨(some 50), .q (.fieldAddr 2 (.tmp 49)), (some (41, false))⟩, 0), (⟨(some 51), .q (.loadS (.tmp 50)), (some (41, false))⟩, 0), (⟨(some 52), .q (.eq .int true (.tmp 46) (.tmp 51)), (some (41, false))⟩, 0), (⟨(some 53), .q (.pick (.tmp 41) (.const (AV.bool true)) (.tmp 52)), none⟩, 0), (⟨(some 54), .q (.move (.tmp 53)), none⟩, 0), (⟨(some 55), .q (.move (.tmp 0)), (some (54, false))⟩, 0), (⟨(some 56), .q (.move (.tmp 5)), (some (54, false))⟩, 0), (⟨(some 57), .q (.idxAddrSl 5 (.tmp 55) (.tmp 56)), (some (54, false))⟩, 0), (⟨(some 58), .q (.fieldAddr 3 (.tmp 57)), (some (54, false))⟩, 0), (⟨(some 59), .q (.loadS (.tmp 58)), (some (54, false))⟩, 0), (⟨(some 60), .q (.move (.tmp 1)), (some (54, false))⟩, 0), (⟨(some 61), .q (.move (.tmp 5)), (some (54, false))⟩, 0), (⟨(some 62), .q (.idxAddrSl 5 (.tmp 60) (.tmp 61)), (some (54, false))⟩, 0), (⟨(some 63), .q (.fieldAddr 3 (.tmp 62)), (some (54, false))⟩, 0), (⟨(some 64), .q (.loadS (.tmp 63)), (some (54, false))⟩, 0), (⟨(some 65), .q (.eq .int true (.tmp 59) (.tmp 64)), (some (54, false))⟩, 0), (⟨(some 66), .q (.pick (.tmp 54) (.const (AV.bool true)) (.tmp 65)), none⟩, 0), (⟨(some 67), .q (.move (.tmp 66)), none⟩, 0), (⟨(some 68), .q (.move (.tmp 0)), (some (67, false))⟩, 0), (⟨(some 69), .q (.move (.tmp 5)), (some (67, false))⟩, 0), (⟨(some 70), .q (.idxAddrSl 5 (.tmp 68) (.tmp 69)), (some (67, false))⟩, 0), (⟨(some 71), .q (.fieldAddr 4 (.tmp 70)), (some (67, false))⟩, 0), (⟨(some 72), .q (.loadS (.tmp 71)), (some (67, false))⟩, 0), (⟨(some 73), .q (.toStr (.tmp 72)), (some (67, false))⟩, 0), (⟨(some 74), .q (.move (.tmp 1)), (some (67, false))⟩, 0), (⟨(some 75), .q (.move (.tmp 5)), (some (67, false))⟩, 0), (⟨(some 76), .q (.idxAddrSl 5 (.tmp 74) (.tmp 75)), (some (67, false))⟩, 0), (⟨(some 77), .q (.fieldAddr 4 (.tmp 76)), (some (67, false))⟩, 0), (⟨(some 78), .q (.loadS (.tmp 77)), (some (67, false))⟩, 0), (⟨(some 79), .q (.toStr (.tmp 78)), (some (67, false))⟩, 0), (⟨(some 80), .q (.eq .str true (.tmp 73) (.tmp 79)), (some (67, false))⟩, 0), (⟨(some 81), .q (.pick (.tmp 67) (.const (AV.bool true)) (.tmp 80)), none⟩, 0)], none⟩]) (.cond (.tmp 81) (.seq (.region [⟨(some 4), .q (.move (.const (AV.bool false))), none⟩]) .ret) .skip))) (.region [⟨(some 15), .q (.move (.tmp 5)), none⟩, ⟨(some 16), .q (.bin .add (.tmp 15) (.const (vi 1))), none⟩, ⟨(some 5), .q (.move (.tmp 16)), none⟩])))
theorem samesteps_l1_body {call : CallT} {N : Nat} {t : T} {h : Hp} {wB0_1 : AV} {wB1_1 : AV} {G : Nat → Prop} {h0 : Hp} {B0 : List (Int × Int × Int × Int × List Nat)} {B1 : List (Int × Int × Int × Int × List Nat)} (fB0_2 : SIn (rP (rZ .i64) (rP (rZ .i64) (rP (rZ .i64) (rP (rZ .i64) rY)))) G h0 wB0_1 B0) (fB1_2 : SIn (rP (rZ .i64) (rP (rZ .i64) (rP (rZ .i64) (rP (rZ .i64) rY)))) G h0 wB1_1 B1)  {o : LO (Bool × Nat) (Bool)} {n : Nat} {A4 : Bool} {A5 : Nat} (hN : 90000 < N) (hi : (fun (z : Nat × Bool × Nat) (h' : Hp) => samesteps_l1 B0 B1 z.1 z.2.1 z.2.2 = some o ∧ Eng.Sep [Frz G h0] h') (n, A4, A5) h)
    : ∃ s, evC call N samesteps_l1C (ovT [(0, wB0_1), (1, wB1_1), (4, (AV.bool A4)), (5, (vi A5))] t) h = s ∧ obsS [0, 1, 4, 5] (fun ls h' => ∃ y, ls = ((fun (z : Nat × Bool × Nat) => [(0, wB0_1), (1, wB1_1), (4, (AV.bool z.2.1)), (5, (vi z.2.2))]) y).map (fun p => some p.2) ∧ (fun (z : Nat × Bool × Nat) (h' : Hp) => samesteps_l1 B0 B1 z.1 z.2.1 z.2.2 = some o ∧ Eng.Sep [Frz G h0] h') y h' ∧ (fun (z : Nat × Bool × Nat) => z.1) y < (fun (z : Nat × Bool × Nat) => z.1) (n, A4, A5)) (fun i ls h' => ∃ y, ls = ((fun (z : Nat × Bool × Nat) => [(0, wB0_1), (1, wB1_1), (4, (AV.bool z.2.1)), (5, (vi z.2.2))]) y).map (fun p => some p.2) ∧ (fun (i : Nat) (z : Nat × Bool × Nat) (h' : Hp) => (i = 0) ∧ (i = 0 → o = LO.ex (z.2.1, z.2.2) ∧ Eng.Sep [Frz G h0] h')) i y h') (fun ls h' => (fun (ls : List (Option AV)) (h' : Hp) => ∃ (rt : Bool) (v4 : AV), o = LO.rt rt ∧ ls[2]? = some (some v4) ∧ (v4 = (AV.bool rt) ∧ Eng.Sep (Frz G h0 :: []) h')) ls h') s := by
  have hi : samesteps_l1 B0 B1 n A4 A5 = some o ∧ Eng.Sep [Frz G h0] h := hi
  obtain ⟨hp, S⟩ := hi
  obtain ⟨m, hm⟩ : ∃ m, n = m + 1 := by
    cases n with
    | zero => first | cases hp | (unfold samesteps_l1 at hp; cases hp) | (simp [samesteps_l1] at hp)
    | succ m => exact ⟨m, rfl⟩
  rw [hm] at hp
  unfold samesteps_l1 at hp
  refine walk_ok (o := (.tell 2 (vi B0.length) (.fork 0 (.exi 2 fun (w2 : AV) => (.tell 0 (elemP wB0_1 A5 5) (.tell 0 (elemO wB0_1 A5 5 0) (.tell 0 (AV.int .i64 ((B0.getD A5 default).1)) (.exi 2 fun (w6 : AV) => (.tell 0 (elemP wB1_1 A5 5) (.tell 0 (elemO wB1_1 A5 5 0) (.tell 0 (AV.int .i64 ((B1.getD A5 default).1)) (.fork 1 (.again 7 .fin) (.tell 2 (elemP wB0_1 A5 5) (.tell 0 (elemO wB0_1 A5 5 1) (.tell 0 (AV.int .i64 ((B0.getD A5 default).2.1)) (.tell 2 (elemP wB1_1 A5 5) (.tell 0 (elemO wB1_1 A5 5 1) (.tell 0 (AV.int .i64 ((B1.getD A5 default).2.1)) (.fork 2 (.again 5 .fin) (.tell 2 (elemP wB0_1 A5 5) (.tell 0 (elemO wB0_1 A5 5 2) (.tell 0 (AV.int .i64 ((B0.getD A5 default).2.2.1)) (.tell 2 (elemP wB1_1 A5 5) (.tell 0 (elemO wB1_1 A5 5 2) (.tell 0 (AV.int .i64 ((B1.getD A5 default).2.2.1)) (.fork 2 (.again 3 .fin) (.tell 2 (elemP wB0_1 A5 5) (.tell 0 (elemO wB0_1 A5 5 3) (.tell 0 (AV.int .i64 ((B0.getD A5 default).2.2.2.1)) (.tell 2 (elemP wB1_1 A5 5) (.tell 0 (elemO wB1_1 A5 5 3) (.tell 0 (AV.int .i64 ((B1.getD A5 default).2.2.2.1)) (.fork 2 (.again 1 .fin) (.tell 2 (elemP wB0_1 A5 5) (.tell 0 (elemO wB0_1 A5 5 4) (.tell 0 w2 (.tell 0 (AV.str ((B0.getD A5 default).2.2.2.2)) (.tell 2 (elemP wB1_1 A5 5) (.tell 0 (elemO wB1_1 A5 5 4) (.tell 0 w6 (.tell 0 (AV.str ((B1.getD A5 default).2.2.2.2)) (.fork 1 (.again 0 .fin) (.again 0 (.tell 1 (vi (A5 + 1)) .fin))))))))))))))))))))))))))))))))))))))))) .fin))) (p := (fun (KN : List (Option AV) → Hp → Prop) (KE : Nat → List (Option AV) → Hp → Prop) (KR : List (Option AV) → Hp → Prop) => ((evQ (.lenL (.const wB0_1)) .lf H0 = .ok (vi B0.length) ∧ ((ltI (Int.ofNat A5) (Int.ofNat B0.length) = true → (∃ w2 : AV, (evQ (.idxAddrSl 5 (.const wB0_1) (.const (vi A5))) .lf H0 = .ok (elemP wB0_1 A5 5) ∧ ((evQ (.fieldAddr 0 (.const (elemP wB0_1 A5 5))) .lf H0 = .ok (elemO wB0_1 A5 5 0) ∧ ((evQ (.loadS (.const (elemO wB0_1 A5 5 0))) .lf h = .ok (AV.int .i64 ((B0.getD A5 default).1)) ∧ (∃ w6 : AV, (evQ (.idxAddrSl 5 (.const wB1_1) (.const (vi A5))) .lf H0 = .ok (elemP wB1_1 A5 5) ∧ ((evQ (.fieldAddr 0 (.const (elemP wB1_1 A5 5))) .lf H0 = .ok (elemO wB1_1 A5 5 0) ∧ ((evQ (.loadS (.const (elemO wB1_1 A5 5 0))) .lf h = .ok (AV.int .i64 ((B1.getD A5 default).1)) ∧ ((notB (eqI ((B0.getD A5 default).1) ((B1.getD A5 default).1)) = true → ((again (.pick (.const (AV.bool true)) (.const (AV.bool true)) (.const (AV.tuple []))) .lf (AV.bool true) h = true ∧ again (.move (.const (AV.bool true))) .lf (AV.bool true) h = true ∧ again (.pick (.const (AV.bool true)) (.const (AV.bool true)) (.const (AV.tuple []))) .lf (AV.bool true) h = true ∧ again (.move (.const (AV.bool true))) .lf (AV.bool true) h = true ∧ again (.pick (.const (AV.bool true)) (.const (AV.bool true)) (.const (AV.tuple []))) .lf (AV.bool true) h = true ∧ again (.move (.const (AV.bool true))) .lf (AV.bool true) h = true ∧ again (.pick (.const (AV.bool true)) (.const (AV.bool true)) (.const (AV.tuple []))) .lf (AV.bool true) h = true ∧ again (.move (.const (AV.bool (notB (eqI ((B0.getD A5 default).1) ((B1.getD A5 default).1)))))) .lf (AV.bool true) h = true ∧ again (.eq .int true (.const (AV.int .i64 ((B0.getD A5 default).1))) (.const (AV.int .i64 ((B1.getD A5 default).1)))) .lf (AV.bool (notB (eqI ((B0.getD A5 default).1) ((B1.getD A5 default).1)))) h = true ∧ again (.loadS (.const (elemO wB1_1 A5 5 0))) .lf (AV.int .i64 ((B1.getD A5 default).1)) h = true ∧ again (.fieldAddr 0 (.const (elemP wB1_1 A5 5))) .lf (elemO wB1_1 A5 5 0) h = true ∧ again (.idxAddrSl 5 (.const wB1_1) (.const (vi A5))) .lf (elemP wB1_1 A5 5) h = true ∧ again (.move (.const (vi A5))) .lf (vi A5) h = true ∧ again (.move (.const wB1_1)) .lf wB1_1 h = true ∧ again (.loadS (.const (elemO wB0_1 A5 5 0))) .lf (AV.int .i64 ((B0.getD A5 default).1)) h = true ∧ again (.fieldAddr 0 (.const (elemP wB0_1 A5 5))) .lf (elemO wB0_1 A5 5 0) h = true ∧ again (.idxAddrSl 5 (.const wB0_1) (.const (vi A5))) .lf (elemP wB0_1 A5 5) h = true ∧ again (.move (.const (vi A5))) .lf (vi A5) h = true ∧ again (.move (.const wB0_1)) .lf wB0_1 h = true ∧ True) ∧ KR [some wB0_1, some wB1_1, some (AV.bool false), some (vi A5)] h)) ∧ (notB (eqI ((B0.getD A5 default).1) ((B1.getD A5 default).1)) = false → ((evQ (.idxAddrSl 5 (.const wB0_1) (.const (vi A5))) .lf H0 = .ok (elemP wB0_1 A5 5) ∧ ((evQ (.fieldAddr 1 (.const (elemP wB0_1 A5 5))) .lf H0 = .ok (elemO wB0_1 A5 5 1) ∧ ((evQ (.loadS (.const (elemO wB0_1 A5 5 1))) .lf h = .ok (AV.int .i64 ((B0.getD A5 default).2.1)) ∧ ((evQ (.idxAddrSl 5 (.const wB1_1) (.const (vi A5))) .lf H0 = .ok (elemP wB1_1 A5 5) ∧ ((evQ (.fieldAddr 1 (.const (elemP wB1_1 A5 5))) .lf H0 = .ok (elemO wB1_1 A5 5 1) ∧ ((evQ (.loadS (.const (elemO wB1_1 A5 5 1))) .lf h = .ok (AV.int .i64 ((B1.getD A5 default).2.1)) ∧ ((notB (eqI ((B0.getD A5 default).2.1) ((B1.getD A5 default).2.1)) = true → ((again (.pick (.const (AV.bool true)) (.const (AV.bool true)) (.const (AV.tuple []))) .lf (AV.bool true) h = true ∧ again (.move (.const (AV.bool true))) .lf (AV.bool true) h = true ∧ again (.pick (.const (AV.bool true)) (.const (AV.bool true)) (.const (AV.tuple []))) .lf (AV.bool true) h = true ∧ again (.move (.const (AV.bool true))) .lf (AV.bool true) h = true ∧ again (.pick (.const (AV.bool true)) (.const (AV.bool true)) (.const (AV.tuple []))) .lf (AV.bool true) h = true ∧ again (.move (.const (AV.bool (notB (eqI ((B0.getD A5 default).2.1) ((B1.getD A5 default).2.1)))))) .lf (AV.bool true) h = true ∧ again (.pick (.const (AV.bool false)) (.const (AV.bool true)) (.const (AV.bool (notB (eqI ((B0.getD A5 default).2.1) ((B1.getD A5 default).2.1)))))) .lf (AV.bool (notB (eqI ((B0.getD A5 default).2.1) ((B1.getD A5 default).2.1)))) h = true ∧ again (.eq .int true (.const (AV.int .i64 ((B0.getD A5 default).2.1))) (.const (AV.int .i64 ((B1.getD A5 default).2.1)))) .lf (AV.bool (notB (eqI ((B0.getD A5 default).2.1) ((B1.getD A5 default).2.1)))) h = true ∧ again (.loadS (.const (elemO wB1_1 A5 5 1))) .lf (AV.int .i64 ((B1.getD A5 default).2.1)) h = true ∧ again (.fieldAddr 1 (.const (elemP wB1_1 A5 5))) .lf (elemO wB1_1 A5 5 1) h = true ∧ again (.idxAddrSl 5 (.const wB1_1) (.const (vi A5))) .lf (elemP wB1_1 A5 5) h = true ∧ again (.move (.const (vi A5))) .lf (vi A5) h = true ∧ again (.move (.const wB1_1)) .lf wB1_1 h = true ∧ again (.loadS (.const (elemO wB0_1 A5 5 1))) .lf (AV.int .i64 ((B0.getD A5 default).2.1)) h = true ∧ again (.fieldAddr 1 (.const (elemP wB0_1 A5 5))) .lf (elemO wB0_1 A5 5 1) h = true ∧ again (.idxAddrSl 5 (.const wB0_1) (.const (vi A5))) .lf (elemP wB0_1 A5 5) h = true ∧ again (.move (.const (vi A5))) .lf (vi A5) h = true ∧ again (.move (.const wB0_1)) .lf wB0_1 h = true ∧ again (.move (.const (AV.bool (notB (eqI ((B0.getD A5 default).1) ((B1.getD A5 default).1)))))) .lf (AV.bool false) h = true ∧ again (.eq .int true (.const (AV.int .i64 ((B0.getD A5 default).1))) (.const (AV.int .i64 ((B1.getD A5 default).1)))) .lf (AV.bool (notB (eqI ((B0.getD A5 default).1) ((B1.getD A5 default).1)))) h = true ∧ again (.loadS (.const (elemO wB1_1 A5 5 0))) .lf (AV.int .i64 ((B1.getD A5 default).1)) h = true ∧ again (.fieldAddr 0 (.const (elemP wB1_1 A5 5))) .lf (elemO wB1_1 A5 5 0) h = true ∧ again (.idxAddrSl 5 (.const wB1_1) (.const (vi A5))) .lf (elemP wB1_1 A5 5) h = true ∧ again (.move (.const (vi A5))) .lf (vi A5) h = true ∧ again (.move (.const wB1_1)) .lf wB1_1 h = true ∧ again (.loadS (.const (elemO wB0_1 A5 5 0))) .lf (AV.int .i64 ((B0.getD A5 default).1)) h = true ∧ again (.fieldAddr 0 (.const (elemP wB0_1 A5 5))) .lf (elemO wB0_1 A5 5 0) h = true ∧ again (.idxAddrSl 5 (.const wB0_1) (.const (vi A5))) .lf (elemP wB0_1 A5 5) h = true ∧ again (.move (.const (vi A5))) .lf (vi A5) h = true ∧ again (.move (.const wB0_1)) .lf wB0_1 h = true ∧ True) ∧ KR [some wB0_1, some wB1_1, some (AV.bool false), some (vi A5)] h)) ∧ (notB (eqI ((B0.getD A5 default).2.1) ((B1.getD A5 default).2.1)) = false → ((evQ (.idxAddrSl 5 (.const wB0_1) (.const (vi A5))) .lf H0 = .ok (elemP wB0_1 A5 5) ∧ ((evQ (.fieldAddr 2 (.const (elemP wB0_1 A5 5))) .lf H0 = .ok (elemO wB0_1 A5 5 2) ∧ ((evQ (.loadS (.const (elemO wB0_1 A5 5 2))) .lf h = .ok (AV.int .i64 ((B0.getD A5 default).2.2.1)) ∧ ((evQ (.idxAddrSl 5 (.const wB1_1) (.const (vi A5))) .lf H0 = .ok (elemP wB1_1 A5 5) ∧ ((evQ (.fieldAddr 2 (.const (elemP wB1_1 A5 5))) .lf H0 = .ok (elemO wB1_1 A5 5 2) ∧ ((evQ (.loadS (.const (elemO wB1_1 A5 5 2))) .lf h = .ok (AV.int .i64 ((B1.getD A5 default).2.2.1)) ∧ ((notB (eqI ((B0.getD A5 default).2.2.1) ((B1.getD A5 default).2.2.1)) = true → ((again (.pick (.const (AV.bool true)) (.const (AV.bool true)) (.const (AV.tuple []))) .lf (AV.bool true) h = true ∧ again (.move (.const (AV.bool true))) .lf (AV.bool true) h = true ∧ again (.pick (.const (AV.bool true)) (.const (AV.bool true)) (.const (AV.tuple []))) .lf (AV.bool true) h = true ∧ again (.move (.const (AV.bool (notB (eqI ((B0.getD A5 default).2.2.1) ((B1.getD A5 default).2.2.1)))))) .lf (AV.bool true) h = true ∧ again (.pick (.const (AV.bool false)) (.const (AV.bool true)) (.const (AV.bool (notB (eqI ((B0.getD A5 default).2.2.1) ((B1.getD A5 default).2.2.1)))))) .lf (AV.bool (notB (eqI ((B0.getD A5 default).2.2.1) ((B1.getD A5 default).2.2.1)))) h = true ∧ again (.eq .int true (.const (AV.int .i64 ((B0.getD A5 default).2.2.1))) (.const (AV.int .i64 ((B1.getD A5 default).2.2.1)))) .lf (AV.bool (notB (eqI ((B0.getD A5 default).2.2.1) ((B1.getD A5 default).2.2.1)))) h = true ∧ again (.loadS (.const (elemO wB1_1 A5 5 2))) .lf (AV.int .i64 ((B1.getD A5 default).2.2.1)) h = true ∧ again (.fieldAddr 2 (.const (elemP wB1_1 A5 5))) .lf (elemO wB1_1 A5 5 2) h = true ∧ again (.idxAddrSl 5 (.const wB1_1) (.const (vi A5))) .lf (elemP wB1_1 A5 5) h = true ∧ again (.move (.const (vi A5))) .lf (vi A5) h = true ∧ again (.move (.const wB1_1)) .lf wB1_1 h = true ∧ again (.loadS (.const (elemO wB0_1 A5 5 2))) .lf (AV.int .i64 ((B0.getD A5 default).2.2.1)) h = true ∧ again (.fieldAddr 2 (.const (elemP wB0_1 A5 5))) .lf (elemO wB0_1 A5 5 2) h = true ∧ again (.idxAddrSl 5 (.const wB0_1) (.const (vi A5))) .lf (elemP wB0_1 A5 5) h = true ∧ again (.move (.const (vi A5))) .lf (vi A5) h = true ∧ again (.move (.const wB0_1)) .lf wB0_1 h = true ∧ again (.move (.const (AV.bool (notB (eqI ((B0.getD A5 default).2.1) ((B1.getD A5 default).2.1)))))) .lf (AV.bool false) h = true ∧ again (.pick (.const (AV.bool false)) (.const (AV.bool true)) (.const (AV.bool (notB (eqI ((B0.getD A5 default).2.1) ((B1.getD A5 default).2.1)))))) .lf (AV.bool (notB (eqI ((B0.getD A5 default).2.1) ((B1.getD A5 default).2.1)))) h = true ∧ again (.eq .int true (.const (AV.int .i64 ((B0.getD A5 default).2.1))) (.const (AV.int .i64 ((B1.getD A5 default).2.1)))) .lf (AV.bool (notB (eqI ((B0.getD A5 default).2.1) ((B1.getD A5 default).2.1)))) h = true ∧ again (.loadS (.const (elemO wB1_1 A5 5 1))) .lf (AV.int .i64 ((B1.getD A5 default).2.1)) h = true ∧ again (.fieldAddr 1 (.const (elemP wB1_1 A5 5))) .lf (elemO wB1_1 A5 5 1) h = true ∧ again (.idxAddrSl 5 (.const wB1_1) (.const (vi A5))) .lf (elemP wB1_1 A5 5) h = true ∧ again (.move (.const (vi A5))) .lf (vi A5) h = true ∧ again (.move (.const wB1_1)) .lf wB1_1 h = true ∧ again (.loadS (.const (elemO wB0_1 A5 5 1))) .lf (AV.int .i64 ((B0.getD A5 default).2.1)) h = true ∧ again (.fieldAddr 1 (.const (elemP wB0_1 A5 5))) .lf (elemO wB0_1 A5 5 1) h = true ∧ again (.idxAddrSl 5 (.const wB0_1) (.const (vi A5))) .lf (elemP wB0_1 A5 5) h = true ∧ again (.move (.const (vi A5))) .lf (vi A5) h = true ∧ again (.move (.const wB0_1)) .lf wB0_1 h = true ∧ again (.move (.const (AV.bool (notB (eqI ((B0.getD A5 default).1) ((B1.getD A5 default).1)))))) .lf (AV.bool false) h = true ∧ again (.eq .int true (.const (AV.int .i64 ((B0.getD A5 default).1))) (.const (AV.int .i64 ((B1.getD A5 default).1)))) .lf (AV.bool (notB (eqI ((B0.getD A5 default).1) ((B1.getD A5 default).1)))) h = true ∧ again (.loadS (.const (elemO wB1_1 A5 5 0))) .lf (AV.int .i64 ((B1.getD A5 default).1)) h = true ∧ again (.fieldAddr 0 (.const (elemP wB1_1 A5 5))) .lf (elemO wB1_1 A5 5 0) h = true ∧ again (.idxAddrSl 5 (.const wB1_1) (.const (vi A5))) .lf (elemP wB1_1 A5 5) h = true ∧ again (.move (.const (vi A5))) .lf (vi A5) h = true ∧ again (.move (.const wB1_1)) .lf wB1_1 h = true ∧ again (.loadS (.const (elemO wB0_1 A5 5 0))) .lf (AV.int .i64 ((B0.getD A5 default).1)) h = true ∧ again (.fieldAddr 0 (.const (elemP wB0_1 A5 5))) .lf (elemO wB0_1 A5 5 0) h = true ∧ again (.idxAddrSl 5 (.const wB0_1) (.const (vi A5))) .lf (elemP wB0_1 A5 5) h = true ∧ again (.move (.const (vi A5))) .lf (vi A5) h = true ∧ again (.move (.const wB0_1)) .lf wB0_1 h = true ∧ True) ∧ KR [some wB0_1, some wB1_1, some (AV.bool false), some (vi A5)] h)) ∧ (notB (eqI ((B0.getD A5 default).2.2.1) ((B1.getD A5 default).2.2.1)) = false → ((evQ (.idxAddrSl 5 (.const wB0_1) (.const (vi A5))) .lf H0 = .ok (elemP wB0_1 A5 5) ∧ ((evQ (.fieldAddr 3 (.const (elemP wB0_1 A5 5))) .lf H0 = .ok (elemO wB0_1 A5 5 3) ∧ ((evQ (.loadS (.const (elemO wB0_1 A5 5 3))) .lf h = .ok (AV.int .i64 ((B0.getD A5 default).2.2.2.1)) ∧ ((evQ (.idxAddrSl 5 (.const wB1_1) (.const (vi A5))) .lf H0 = .ok (elemP wB1_1 A5 5) ∧ ((evQ (.fieldAddr 3 (.const (elemP wB1_1 A5 5))) .lf H0 = .ok (elemO wB1_1 A5 5 3) ∧ ((evQ (.loadS (.const (elemO wB1_1 A5 5 3))) .lf h = .ok (AV.int .i64 ((B1.getD A5 default).2.2.2.1)) ∧ ((notB (eqI ((B0.getD A5 default).2.2.2.1) ((B1.getD A5 default).2.2.2.1)) = true → ((again (.pick (.const (AV.bool true)) (.const (AV.bool true)) (.const (AV.tuple []))) .lf (AV.bool true) h = true ∧ again (.move (.const (AV.bool (notB (eqI ((B0.getD A5 default).2.2.2.1) ((B1.getD A5 default).2.2.2.1)))))) .lf (AV.bool true) h = true ∧ again (.pick (.const (AV.bool false)) (.const (AV.bool true)) (.const (AV.bool (notB (eqI ((B0.getD A5 default).2.2.2.1) ((B1.getD A5 default).2.2.2.1)))))) .lf (AV.bool (notB (eqI ((B0.getD A5 default).2.2.2.1) ((B1.getD A5 default).2.2.2.1)))) h = true ∧ again (.eq .int true (.const (AV.int .i64 ((B0.getD A5 default).2.2.2.1))) (.const (AV.int .i64 ((B1.getD A5 default).2.2.2.1)))) .lf (AV.bool (notB (eqI ((B0.getD A5 default).2.2.2.1) ((B1.getD A5 default).2.2.2.1)))) h = true ∧ again (.loadS (.const (elemO wB1_1 A5 5 3))) .lf (AV.int .i64 ((B1.getD A5 default).2.2.2.1)) h = true ∧ again (.fieldAddr 3 (.const (elemP wB1_1 A5 5))) .lf (elemO wB1_1 A5 5 3) h = true ∧ again (.idxAddrSl 5 (.const wB1_1) (.const (vi A5))) .lf (elemP wB1_1 A5 5) h = true ∧ again (.move (.const (vi A5))) .lf (vi A5) h = true ∧ again (.move (.const wB1_1)) .lf wB1_1 h = true ∧ again (.loadS (.const (elemO wB0_1 A5 5 3))) .lf (AV.int .i64 ((B0.getD A5 default).2.2.2.1)) h = true ∧ again (.fieldAddr 3 (.const (elemP wB0_1 A5 5))) .lf (elemO wB0_1 A5 5 3) h = true ∧ again (.idxAddrSl 5 (.const wB0_1) (.const (vi A5))) .lf (elemP wB0_1 A5 5) h = true ∧ again (.move (.const (vi A5))) .lf (vi A5) h = true ∧ again (.move (.const wB0_1)) .lf wB0_1 h = true ∧ again (.move (.const (AV.bool (notB (eqI ((B0.getD A5 default).2.2.1) ((B1.getD A5 default).2.2.1)))))) .lf (AV.bool false) h = true ∧ again (.pick (.const (AV.bool false)) (.const (AV.bool true)) (.const (AV.bool (notB (eqI ((B0.getD A5 default).2.2.1) ((B1.getD A5 default).2.2.1)))))) .lf (AV.bool (notB (eqI ((B0.getD A5 default).2.2.1) ((B1.getD A5 default).2.2.1)))) h = true ∧ again (.eq .int true (.const (AV.int .i64 ((B0.getD A5 default).2.2.1))) (.const (AV.int .i64 ((B1.getD A5 default).2.2.1)))) .lf (AV.bool (notB (eqI ((B0.getD A5 default).2.2.1) ((B1.getD A5 default).2.2.1)))) h = true ∧ again (.loadS (.const (elemO wB1_1 A5 5 2))) .lf (AV.int .i64 ((B1.getD A5 default).2.2.1)) h = true ∧ again (.fieldAddr 2 (.const (elemP wB1_1 A5 5))) .lf (elemO wB1_1 A5 5 2) h = true ∧ again (.idxAddrSl 5 (.const wB1_1) (.const (vi A5))) .lf (elemP wB1_1 A5 5) h = true ∧ again (.move (.const (vi A5))) .lf (vi A5) h = true ∧ again (.move (.const wB1_1)) .lf wB1_1 h = true ∧ again (.loadS (.const (elemO wB0_1 A5 5 2))) .lf (AV.int .i64 ((B0.getD A5 default).2.2.1)) h = true ∧ again (.fieldAddr 2 (.const (elemP wB0_1 A5 5))) .lf (elemO wB0_1 A5 5 2) h = true ∧ again (.idxAddrSl 5 (.const wB0_1) (.const (vi A5))) .lf (elemP wB0_1 A5 5) h = true ∧ again (.move (.const (vi A5))) .lf (vi A5) h = true ∧ again (.move (.const wB0_1)) .lf wB0_1 h = true ∧ again (.move (.const (AV.bool (notB (eqI ((B0.getD A5 default).2.1) ((B1.getD A5 default).2.1)))))) .lf (AV.bool false) h = true ∧ again (.pick (.const (AV.bool false)) (.const (AV.bool true)) (.const (AV.bool (notB (eqI ((B0.getD A5 default).2.1) ((B1.getD A5 default).2.1)))))) .lf (AV.bool (notB (eqI ((B0.getD A5 default).2.1) ((B1.getD A5 default).2.1)))) h = true ∧ again (.eq .int true (.const (AV.int .i64 ((B0.getD A5 default).2.1))) (.const (AV.int .i64 ((B1.getD A5 default).2.1)))) .lf (AV.bool (notB (eqI ((B0.getD A5 default).2.1) ((B1.getD A5 default).2.1)))) h = true ∧ again (.loadS (.const (elemO wB1_1 A5 5 1))) .lf (AV.int .i64 ((B1.getD A5 default).2.1)) h = true ∧ again (.fieldAddr 1 (.const (elemP wB1_1 A5 5))) .lf (elemO wB1_1 A5 5 1) h = true ∧ again (.idxAddrSl 5 (.const wB1_1) (.const (vi A5))) .lf (elemP wB1_1 A5 5) h = true ∧ again (.move (.const (vi A5))) .lf (vi A5) h = true ∧ again (.move (.const wB1_1)) .lf wB1_1 h = true ∧ again (.loadS (.const (elemO wB0_1 A5 5 1))) .lf (AV.int .i64 ((B0.getD A5 default).2.1)) h = true ∧ again (.fieldAddr 1 (.const (elemP wB0_1 A5 5))) .lf (elemO wB0_1 A5 5 1) h = true ∧ again (.idxAddrSl 5 (.const wB0_1) (.const (vi A5))) .lf (elemP wB0_1 A5 5) h = true ∧ again (.move (.const (vi A5))) .lf (vi A5) h = true ∧ again (.move (.const wB0_1)) .lf wB0_1 h = true ∧ again (.move (.const (AV.bool (notB (eqI ((B0.getD A5 default).1) ((B1.getD A5 default).1)))))) .lf (AV.bool false) h = true ∧ again (.eq .int true (.const (AV.int .i64 ((B0.getD A5 default).1))) (.const (AV.int .i64 ((B1.getD A5 default).1)))) .lf (AV.bool (notB (eqI ((B0.getD A5 default).1) ((B1.getD A5 default).1)))) h = true ∧ again (.loadS (.const (elemO wB1_1 A5 5 0))) .lf (AV.int .i64 ((B1.getD A5 default).1)) h = true ∧ again (.fieldAddr 0 (.const (elemP wB1_1 A5 5))) .lf (elemO wB1_1 A5 5 0) h = true ∧ again (.idxAddrSl 5 (.const wB1_1) (.const (vi A5))) .lf (elemP wB1_1 A5 5) h = true ∧ again (.move (.const (vi A5))) .lf (vi A5) h = true ∧ again (.move (.const wB1_1)) .lf wB1_1 h = true ∧ again (.loadS (.const (elemO wB0_1 A5 5 0))) .lf (AV.int .i64 ((B0.getD A5 default).1)) h = true ∧ again (.fieldAddr 0 (.const (elemP wB0_1 A5 5))) .lf (elemO wB0_1 A5 5 0) h = true ∧ again (.idxAddrSl 5 (.const wB0_1) (.const (vi A5))) .lf (elemP wB0_1 A5 5) h = true ∧ again (.move (.const (vi A5))) .lf (vi A5) h = true ∧ again (.move (.const wB0_1)) .lf wB0_1 h = true ∧ True) ∧ KR [some wB0_1, some wB1_1, some (AV.bool false), some (vi A5)] h)) ∧ (notB (eqI ((B0.getD A5 default).2.2.2.1) ((B1.getD A5 default).2.2.2.1)) = false → ((evQ (.idxAddrSl 5 (.const wB0_1) (.const (vi A5))) .lf H0 = .ok (elemP wB0_1 A5 5) ∧ ((evQ (.fieldAddr 4 (.const (elemP wB0_1 A5 5))) .lf H0 = .ok (elemO wB0_1 A5 5 4) ∧ ((evQ (.loadS (.const (elemO wB0_1 A5 5 4))) .lf h = .ok w2 ∧ ((evQ (.toStr (.const w2)) .lf h = .ok (AV.str ((B0.getD A5 default).2.2.2.2)) ∧ ((evQ (.idxAddrSl 5 (.const wB1_1) (.const (vi A5))) .lf H0 = .ok (elemP wB1_1 A5 5) ∧ ((evQ (.fieldAddr 4 (.const (elemP wB1_1 A5 5))) .lf H0 = .ok (elemO wB1_1 A5 5 4) ∧ ((evQ (.loadS (.const (elemO wB1_1 A5 5 4))) .lf h = .ok w6 ∧ ((evQ (.toStr (.const w6)) .lf h = .ok (AV.str ((B1.getD A5 default).2.2.2.2)) ∧ ((notB (strEq ((B0.getD A5 default).2.2.2.2) ((B1.getD A5 default).2.2.2.2)) = true → ((again (.pick (.const (AV.bool false)) (.const (AV.bool true)) (.const (AV.bool (notB (strEq ((B0.getD A5 default).2.2.2.2) ((B1.getD A5 default).2.2.2.2)))))) .lf (AV.bool true) h = true ∧ again (.eq .str true (.const (AV.str ((B0.getD A5 default).2.2.2.2))) (.const (AV.str ((B1.getD A5 default).2.2.2.2)))) .lf (AV.bool (notB (strEq ((B0.getD A5 default).2.2.2.2) ((B1.getD A5 default).2.2.2.2)))) h = true ∧ again (.toStr (.const w6)) .lf (AV.str ((B1.getD A5 default).2.2.2.2)) h = true ∧ again (.loadS (.const (elemO wB1_1 A5 5 4))) .lf w6 h = true ∧ again (.fieldAddr 4 (.const (elemP wB1_1 A5 5))) .lf (elemO wB1_1 A5 5 4) h = true ∧ again (.idxAddrSl 5 (.const wB1_1) (.const (vi A5))) .lf (elemP wB1_1 A5 5) h = true ∧ again (.move (.const (vi A5))) .lf (vi A5) h = true ∧ again (.move (.const wB1_1)) .lf wB1_1 h = true ∧ again (.toStr (.const w2)) .lf (AV.str ((B0.getD A5 default).2.2.2.2)) h = true ∧ again (.loadS (.const (elemO wB0_1 A5 5 4))) .lf w2 h = true ∧ again (.fieldAddr 4 (.const (elemP wB0_1 A5 5))) .lf (elemO wB0_1 A5 5 4) h = true ∧ again (.idxAddrSl 5 (.const wB0_1) (.const (vi A5))) .lf (elemP wB0_1 A5 5) h = true ∧ again (.move (.const (vi A5))) .lf (vi A5) h = true ∧ again (.move (.const wB0_1)) .lf wB0_1 h = true ∧ again (.move (.const (AV.bool (notB (eqI ((B0.getD A5 default).2.2.2.1) ((B1.getD A5 default).2.2.2.1)))))) .lf (AV.bool false) h = true ∧ again (.pick (.const (AV.bool false)) (.const (AV.bool true)) (.const (AV.bool (notB (eqI ((B0.getD A5 default).2.2.2.1) ((B1.getD A5 default).2.2.2.1)))))) .lf (AV.bool (notB (eqI ((B0.getD A5 default).2.2.2.1) ((B1.getD A5 default).2.2.2.1)))) h = true ∧ again (.eq .int true (.const (AV.int .i64 ((B0.getD A5 default).2.2.2.1))) (.const (AV.int .i64 ((B1.getD A5 default).2.2.2.1)))) .lf (AV.bool (notB (eqI ((B0.getD A5 default).2.2.2.1) ((B1.getD A5 default).2.2.2.1)))) h = true ∧ again (.loadS (.const (elemO wB1_1 A5 5 3))) .lf (AV.int .i64 ((B1.getD A5 default).2.2.2.1)) h = true ∧ again (.fieldAddr 3 (.const (elemP wB1_1 A5 5))) .lf (elemO wB1_1 A5 5 3) h = true ∧ again (.idxAddrSl 5 (.const wB1_1) (.const (vi A5))) .lf (elemP wB1_1 A5 5) h = true ∧ again (.move (.const (vi A5))) .lf (vi A5) h = true ∧ again (.move (.const wB1_1)) .lf wB1_1 h = true ∧ again (.loadS (.const (elemO wB0_1 A5 5 3))) .lf (AV.int .i64 ((B0.getD A5 default).2.2.2.1)) h = true ∧ again (.fieldAddr 3 (.const (elemP wB0_1 A5 5))) .lf (elemO wB0_1 A5 5 3) h = true ∧ again (.idxAddrSl 5 (.const wB0_1) (.const (vi A5))) .lf (elemP wB0_1 A5 5) h = true ∧ again (.move (.const (vi A5))) .lf (vi A5) h = true ∧ again (.move (.const wB0_1)) .lf wB0_1 h = true ∧ again (.move (.const (AV.bool (notB (eqI ((B0.getD A5 default).2.2.1) ((B1.getD A5 default).2.2.1)))))) .lf (AV.bool false) h = true ∧ again (.pick (.const (AV.bool false)) (.const (AV.bool true)) (.const (AV.bool (notB (eqI ((B0.getD A5 default).2.2.1) ((B1.getD A5 default).2.2.1)))))) .lf (AV.bool (notB (eqI ((B0.getD A5 default).2.2.1) ((B1.getD A5 default).2.2.1)))) h = true ∧ again (.eq .int true (.const (AV.int .i64 ((B0.getD A5 default).2.2.1))) (.const (AV.int .i64 ((B1.getD A5 default).2.2.1)))) .lf (AV.bool (notB (eqI ((B0.getD A5 default).2.2.1) ((B1.getD A5 default).2.2.1)))) h = true ∧ again (.loadS (.const (elemO wB1_1 A5 5 2))) .lf (AV.int .i64 ((B1.getD A5 default).2.2.1)) h = true ∧ again (.fieldAddr 2 (.const (elemP wB1_1 A5 5))) .lf (elemO wB1_1 A5 5 2) h = true ∧ again (.idxAddrSl 5 (.const wB1_1) (.const (vi A5))) .lf (elemP wB1_1 A5 5) h = true ∧ again (.move (.const (vi A5))) .lf (vi A5) h = true ∧ again (.move (.const wB1_1)) .lf wB1_1 h = true ∧ again (.loadS (.const (elemO wB0_1 A5 5 2))) .lf (AV.int .i64 ((B0.getD A5 default).2.2.1)) h = true ∧ again (.fieldAddr 2 (.const (elemP wB0_1 A5 5))) .lf (elemO wB0_1 A5 5 2) h = true ∧ again (.idxAddrSl 5 (.const wB0_1) (.const (vi A5))) .lf (elemP wB0_1 A5 5) h = true ∧ again (.move (.const (vi A5))) .lf (vi A5) h = true ∧ again (.move (.const wB0_1)) .lf wB0_1 h = true ∧ again (.move (.const (AV.bool (notB (eqI ((B0.getD A5 default).2.1) ((B1.getD A5 default).2.1)))))) .lf (AV.bool false) h = true ∧ again (.pick (.const (AV.bool false)) (.const (AV.bool true)) (.const (AV.bool (notB (eqI ((B0.getD A5 default).2.1) ((B1.getD A5 default).2.1)))))) .lf (AV.bool (notB (eqI ((B0.getD A5 default).2.1) ((B1.getD A5 default).2.1)))) h = true ∧ again (.eq .int true (.const (AV.int .i64 ((B0.getD A5 default).2.1))) (.const (AV.int .i64 ((B1.getD A5 default).2.1)))) .lf (AV.bool (notB (eqI ((B0.getD A5 default).2.1) ((B1.getD A5 default).2.1)))) h = true ∧ again (.loadS (.const (elemO wB1_1 A5 5 1))) .lf (AV.int .i64 ((B1.getD A5 default).2.1)) h = true ∧ again (.fieldAddr 1 (.const (elemP wB1_1 A5 5))) .lf (elemO wB1_1 A5 5 1) h = true ∧ again (.idxAddrSl 5 (.const wB1_1) (.const (vi A5))) .lf (elemP wB1_1 A5 5) h = true ∧ again (.move (.const (vi A5))) .lf (vi A5) h = true ∧ again (.move (.const wB1_1)) .lf wB1_1 h = true ∧ again (.loadS (.const (elemO wB0_1 A5 5 1))) .lf (AV.int .i64 ((B0.getD A5 default).2.1)) h = true ∧ again (.fieldAddr 1 (.const (elemP wB0_1 A5 5))) .lf (elemO wB0_1 A5 5 1) h = true ∧ again (.idxAddrSl 5 (.const wB0_1) (.const (vi A5))) .lf (elemP wB0_1 A5 5) h = true ∧ again (.move (.const (vi A5))) .lf (vi A5) h = true ∧ again (.move (.const wB0_1)) .lf wB0_1 h = true ∧ again (.move (.const (AV.bool (notB (eqI ((B0.getD A5 default).1) ((B1.getD A5 default).1)))))) .lf (AV.bool false) h = true ∧ again (.eq .int true (.const (AV.int .i64 ((B0.getD A5 default).1))) (.const (AV.int .i64 ((B1.getD A5 default).1)))) .lf (AV.bool (notB (eqI ((B0.getD A5 default).1) ((B1.getD A5 default).1)))) h = true ∧ again (.loadS (.const (elemO wB1_1 A5 5 0))) .lf (AV.int .i64 ((B1.getD A5 default).1)) h = true ∧ again (.fieldAddr 0 (.const (elemP wB1_1 A5 5))) .lf (elemO wB1_1 A5 5 0) h = true ∧ again (.idxAddrSl 5 (.const wB1_1) (.const (vi A5))) .lf (elemP wB1_1 A5 5) h = true ∧ again (.move (.const (vi A5))) .lf (vi A5) h = true ∧ again (.move (.const wB1_1)) .lf wB1_1 h = true ∧ again (.loadS (.const (elemO wB0_1 A5 5 0))) .lf (AV.int .i64 ((B0.getD A5 default).1)) h = true ∧ again (.fieldAddr 0 (.const (elemP wB0_1 A5 5))) .lf (elemO wB0_1 A5 5 0) h = true ∧ again (.idxAddrSl 5 (.const wB0_1) (.const (vi A5))) .lf (elemP wB0_1 A5 5) h = true ∧ again (.move (.const (vi A5))) .lf (vi A5) h = true ∧ again (.move (.const wB0_1)) .lf wB0_1 h = true ∧ True) ∧ KR [some wB0_1, some wB1_1, some (AV.bool false), some (vi A5)] h)) ∧ (notB (strEq ((B0.getD A5 default).2.2.2.2) ((B1.getD A5 default).2.2.2.2)) = false → ((again (.pick (.const (AV.bool false)) (.const (AV.bool true)) (.const (AV.bool (notB (strEq ((B0.getD A5 default).2.2.2.2) ((B1.getD A5 default).2.2.2.2)))))) .lf (AV.bool false) h = true ∧ again (.eq .str true (.const (AV.str ((B0.getD A5 default).2.2.2.2))) (.const (AV.str ((B1.getD A5 default).2.2.2.2)))) .lf (AV.bool (notB (strEq ((B0.getD A5 default).2.2.2.2) ((B1.getD A5 default).2.2.2.2)))) h = true ∧ again (.toStr (.const w6)) .lf (AV.str ((B1.getD A5 default).2.2.2.2)) h = true ∧ again (.loadS (.const (elemO wB1_1 A5 5 4))) .lf w6 h = true ∧ again (.fieldAddr 4 (.const (elemP wB1_1 A5 5))) .lf (elemO wB1_1 A5 5 4) h = true ∧ again (.idxAddrSl 5 (.const wB1_1) (.const (vi A5))) .lf (elemP wB1_1 A5 5) h = true ∧ again (.move (.const (vi A5))) .lf (vi A5) h = true ∧ again (.move (.const wB1_1)) .lf wB1_1 h = true ∧ again (.toStr (.const w2)) .lf (AV.str ((B0.getD A5 default).2.2.2.2)) h = true ∧ again (.loadS (.const (elemO wB0_1 A5 5 4))) .lf w2 h = true ∧ again (.fieldAddr 4 (.const (elemP wB0_1 A5 5))) .lf (elemO wB0_1 A5 5 4) h = true ∧ again (.idxAddrSl 5 (.const wB0_1) (.const (vi A5))) .lf (elemP wB0_1 A5 5) h = true ∧ again (.move (.const (vi A5))) .lf (vi A5) h = true ∧ again (.move (.const wB0_1)) .lf wB0_1 h = true ∧ again (.move (.const (AV.bool (notB (eqI ((B0.getD A5 default).2.2.2.1) ((B1.getD A5 default).2.2.2.1)))))) .lf (AV.bool false) h = true ∧ again (.pick (.const (AV.bool false)) (.const (AV.bool true)) (.const (AV.bool (notB (eqI ((B0.getD A5 default).2.2.2.1) ((B1.getD A5 default).2.2.2.1)))))) .lf (AV.bool (notB (eqI ((B0.getD A5 default).2.2.2.1) ((B1.getD A5 default).2.2.2.1)))) h = true ∧ again (.eq .int true (.const (AV.int .i64 ((B0.getD A5 default).2.2.2.1))) (.const (AV.int .i64 ((B1.getD A5 default).2.2.2.1)))) .lf (AV.bool (notB (eqI ((B0.getD A5 default).2.2.2.1) ((B1.getD A5 default).2.2.2.1)))) h = true ∧ again (.loadS (.const (elemO wB1_1 A5 5 3))) .lf (AV.int .i64 ((B1.getD A5 default).2.2.2.1)) h = true ∧ again (.fieldAddr 3 (.const (elemP wB1_1 A5 5))) .lf (elemO wB1_1 A5 5 3) h = true ∧ again (.idxAddrSl 5 (.const wB1_1) (.const (vi A5))) .lf (elemP wB1_1 A5 5) h = true ∧ again (.move (.const (vi A5))) .lf (vi A5) h = true ∧ again (.move (.const wB1_1)) .lf wB1_1 h = true ∧ again (.loadS (.const (elemO wB0_1 A5 5 3))) .lf (AV.int .i64 ((B0.getD A5 default).2.2.2.1)) h = true ∧ again (.fieldAddr 3 (.const (elemP wB0_1 A5 5))) .lf (elemO wB0_1 A5 5 3) h = true ∧ again (.idxAddrSl 5 (.const wB0_1) (.const (vi A5))) .lf (elemP wB0_1 A5 5) h = true ∧ again (.move (.const (vi A5))) .lf (vi A5) h = true ∧ again (.move (.const wB0_1)) .lf wB0_1 h = true ∧ again (.move (.const (AV.bool (notB (eqI ((B0.getD A5 default).2.2.1) ((B1.getD A5 default).2.2.1)))))) .lf (AV.bool false) h = true ∧ again (.pick (.const (AV.bool false)) (.const (AV.bool true)) (.const (AV.bool (notB (eqI ((B0.getD A5 default).2.2.1) ((B1.getD A5 default).2.2.1)))))) .lf (AV.bool (notB (eqI ((B0.getD A5 default).2.2.1) ((B1.getD A5 default).2.2.1)))) h = true ∧ again (.eq .int true (.const (AV.int .i64 ((B0.getD A5 default).2.2.1))) (.const (AV.int .i64 ((B1.getD A5 default).2.2.1)))) .lf (AV.bool (notB (eqI ((B0.getD A5 default).2.2.1) ((B1.getD A5 default).2.2.1)))) h = true ∧ again (.loadS (.const (elemO wB1_1 A5 5 2))) .lf (AV.int .i64 ((B1.getD A5 default).2.2.1)) h = true ∧ again (.fieldAddr 2 (.const (elemP wB1_1 A5 5))) .lf (elemO wB1_1 A5 5 2) h = true ∧ again (.idxAddrSl 5 (.const wB1_1) (.const (vi A5))) .lf (elemP wB1_1 A5 5) h = true ∧ again (.move (.const (vi A5))) .lf (vi A5) h = true ∧ again (.move (.const wB1_1)) .lf wB1_1 h = true ∧ again (.loadS (.const (elemO wB0_1 A5 5 2))) .lf (AV.int .i64 ((B0.getD A5 default).2.2.1)) h = true ∧ again (.fieldAddr 2 (.const (elemP wB0_1 A5 5))) .lf (elemO wB0_1 A5 5 2) h = true ∧ again (.idxAddrSl 5 (.const wB0_1) (.const (vi A5))) .lf (elemP wB0_1 A5 5) h = true ∧ again (.move (.const (vi A5))) .lf (vi A5) h = true ∧ again (.move (.const wB0_1)) .lf wB0_1 h = true ∧ again (.move (.const (AV.bool (notB (eqI ((B0.getD A5 default).2.1) ((B1.getD A5 default).2.1)))))) .lf (AV.bool false) h = true ∧ again (.pick (.const (AV.bool false)) (.const (AV.bool true)) (.const (AV.bool (notB (eqI ((B0.getD A5 default).2.1) ((B1.getD A5 default).2.1)))))) .lf (AV.bool (notB (eqI ((B0.getD A5 default).2.1) ((B1.getD A5 default).2.1)))) h = true ∧ again (.eq .int true (.const (AV.int .i64 ((B0.getD A5 default).2.1))) (.const (AV.int .i64 ((B1.getD A5 default).2.1)))) .lf (AV.bool (notB (eqI ((B0.getD A5 default).2.1) ((B1.getD A5 default).2.1)))) h = true ∧ again (.loadS (.const (elemO wB1_1 A5 5 1))) .lf (AV.int .i64 ((B1.getD A5 default).2.1)) h = true ∧ again (.fieldAddr 1 (.const (elemP wB1_1 A5 5))) .lf (elemO wB1_1 A5 5 1) h = true ∧ again (.idxAddrSl 5 (.const wB1_1) (.const (vi A5))) .lf (elemP wB1_1 A5 5) h = true ∧ again (.move (.const (vi A5))) .lf (vi A5) h = true ∧ again (.move (.const wB1_1)) .lf wB1_1 h = true ∧ again (.loadS (.const (elemO wB0_1 A5 5 1))) .lf (AV.int .i64 ((B0.getD A5 default).2.1)) h = true ∧ again (.fieldAddr 1 (.const (elemP wB0_1 A5 5))) .lf (elemO wB0_1 A5 5 1) h = true ∧ again (.idxAddrSl 5 (.const wB0_1) (.const (vi A5))) .lf (elemP wB0_1 A5 5) h = true ∧ again (.move (.const (vi A5))) .lf (vi A5) h = true ∧ again (.move (.const wB0_1)) .lf wB0_1 h = true ∧ again (.move (.const (AV.bool (notB (eqI ((B0.getD A5 default).1) ((B1.getD A5 default).1)))))) .lf (AV.bool false) h = true ∧ again (.eq .int true (.const (AV.int .i64 ((B0.getD A5 default).1))) (.const (AV.int .i64 ((B1.getD A5 default).1)))) .lf (AV.bool (notB (eqI ((B0.getD A5 default).1) ((B1.getD A5 default).1)))) h = true ∧ again (.loadS (.const (elemO wB1_1 A5 5 0))) .lf (AV.int .i64 ((B1.getD A5 default).1)) h = true ∧ again (.fieldAddr 0 (.const (elemP wB1_1 A5 5))) .lf (elemO wB1_1 A5 5 0) h = true ∧ again (.idxAddrSl 5 (.const wB1_1) (.const (vi A5))) .lf (elemP wB1_1 A5 5) h = true ∧ again (.move (.const (vi A5))) .lf (vi A5) h = true ∧ again (.move (.const wB1_1)) .lf wB1_1 h = true ∧ again (.loadS (.const (elemO wB0_1 A5 5 0))) .lf (AV.int .i64 ((B0.getD A5 default).1)) h = true ∧ again (.fieldAddr 0 (.const (elemP wB0_1 A5 5))) .lf (elemO wB0_1 A5 5 0) h = true ∧ again (.idxAddrSl 5 (.const wB0_1) (.const (vi A5))) .lf (elemP wB0_1 A5 5) h = true ∧ again (.move (.const (vi A5))) .lf (vi A5) h = true ∧ again (.move (.const wB0_1)) .lf wB0_1 h = true ∧ True) ∧ ((evQ (.bin .add (.const (vi A5)) (.const (vi 1))) .lf H0 = .ok (vi (A5 + 1)) ∧ KN [some wB0_1, some wB1_1, some (AV.bool A4), some (vi (A5 + 1))] h)))))))))))))))))))))))))))))))))))))))))))))))))))))))))))))))))))))))))))))) ∧ (ltI (Int.ofNat A5) (Int.ofNat B0.length) = false → KE 0 [some wB0_1, some wB1_1, some (AV.bool A4), some (vi A5)] h))))) (fun ls h' => ∃ y, ls = ((fun (z : Nat × Bool × Nat) => [(0, wB0_1), (1, wB1_1), (4, (AV.bool z.2.1)), (5, (vi z.2.2))]) y).map (fun p => some p.2) ∧ (fun (z : Nat × Bool × Nat) (h' : Hp) => samesteps_l1 B0 B1 z.1 z.2.1 z.2.2 = some o ∧ Eng.Sep [Frz G h0] h') y h' ∧ (fun (z : Nat × Bool × Nat) => z.1) y < (fun (z : Nat × Bool × Nat) => z.1) (n, A4, A5)) (fun i ls h' => ∃ y, ls = ((fun (z : Nat × Bool × Nat) => [(0, wB0_1), (1, wB1_1), (4, (AV.bool z.2.1)), (5, (vi z.2.2))]) y).map (fun p => some p.2) ∧ (fun (i : Nat) (z : Nat × Bool × Nat) (h' : Hp) => (i = 0) ∧ (i = 0 → o = LO.ex (z.2.1, z.2.2) ∧ Eng.Sep [Frz G h0] h')) i y h') (fun ls h' => (fun (ls : List (Option AV)) (h' : Hp) => ∃ (rt : Bool) (v4 : AV), o = LO.rt rt ∧ ls[2]? = some (some v4) ∧ (v4 = (AV.bool rt) ∧ Eng.Sep (Frz G h0 :: []) h')) ls h')) (by kernel_rfl) ?_
  refine ⟨sin_len fB0_2, ?_⟩
  refine ⟨fun c1 => ?_, fun c1 => ?_⟩
  · replace c1 := ltI_t c1
    replace hp := ift hp c1
    obtain ⟨csR4, hcR4, R4⟩ := sin_row fB0_2 c1
    obtain ⟨_, _, rfl, rfl, ⟨_, _, rfl, rfl, ⟨_, _, rfl, rfl, ⟨_, _, rfl, rfl, ⟨w2, rfl, f3⟩⟩⟩⟩⟩ := hcR4
    refine ⟨w2, sin_idx fB0_2 c1, ?_⟩
    refine ⟨row_addr R4, ?_⟩
    refine ⟨row_loadO S (i := 0) rfl R4 rfl, ?_⟩
    have ⟨g5, hp⟩ := gd_inv hp
    obtain ⟨csR8, hcR8, R8⟩ := sin_row fB1_2 g5
    obtain ⟨_, _, rfl, rfl, ⟨_, _, rfl, rfl, ⟨_, _, rfl, rfl, ⟨_, _, rfl, rfl, ⟨w6, rfl, f7⟩⟩⟩⟩⟩ := hcR8
    refine ⟨w6, sin_idx fB1_2 g5, ?_⟩
    refine ⟨row_addr R8, ?_⟩
    refine ⟨row_loadO S (i := 0) rfl R8 rfl, ?_⟩
    refine ⟨fun c9 => ?_, fun c9 => ?_⟩
    · have rc9 := c9
      replace c9 : (B0.getD A5 default).1 ≠ (B1.getD A5 default).1 := eqI_F (notB_t c9)
      replace hp := ift hp c9
      refine ⟨⟨again_of (rfl) (avEq_bool _), again_of (rfl) (avEq_bool _), again_of (rfl) (avEq_bool _), again_of (rfl) (avEq_bool _), again_of (rfl) (avEq_bool _), again_of (rfl) (avEq_bool _), again_of (rfl) (avEq_bool _), again_of (congrArg (fun b => OV.ok (AV.bool b)) rc9) (avEq_bool _), again_of (rfl) (avEq_bool _), again_of (row_loadO S (i := 0) rfl R8 rfl) (avEq_int _ _), again_of (row_addr R8) (elemO_same _ _ _ _), again_of (sin_idx fB1_2 g5) (elemP_same _ _ _), again_of (rfl) (avEq_int _ _), again_of (rfl) (SIn.same fB1_2), again_of (row_loadO S (i := 0) rfl R4 rfl) (avEq_int _ _), again_of (row_addr R4) (elemO_same _ _ _ _), again_of (sin_idx fB0_2 c1) (elemP_same _ _ _), again_of (rfl) (avEq_int _ _), again_of (rfl) (SIn.same fB0_2), trivial⟩, ?_⟩
      refine ⟨_, (AV.bool false), (Option.some.inj hp).symm, rfl, ?_⟩
      exact ⟨rfl, S⟩
    have rc9 := c9
    replace c9 : (B0.getD A5 default).1 = (B1.getD A5 default).1 := eqI_T (notB_f c9)
    replace hp := iff0 hp (nneO c9)
    refine ⟨sin_idx fB0_2 c1, ?_⟩
    refine ⟨row_addr R4, ?_⟩
    refine ⟨row_loadO S (i := 0) rfl R4 rfl, ?_⟩
    refine ⟨sin_idx fB1_2 g5, ?_⟩
    refine ⟨row_addr R8, ?_⟩
    refine ⟨row_loadO S (i := 0) rfl R8 rfl, ?_⟩
    refine ⟨fun c10 => ?_, fun c10 => ?_⟩
    · have rc10 := c10
      replace c10 : (B0.getD A5 default).2.1 ≠ (B1.getD A5 default).2.1 := eqI_F (notB_t c10)
      replace hp := ift hp c10
      refine ⟨⟨again_of (rfl) (avEq_bool _), again_of (rfl) (avEq_bool _), again_of (rfl) (avEq_bool _), again_of (rfl) (avEq_bool _), again_of (rfl) (avEq_bool _), again_of (congrArg (fun b => OV.ok (AV.bool b)) rc10) (avEq_bool _), again_of (rfl) (avEq_bool _), again_of (rfl) (avEq_bool _), again_of (row_loadO S (i := 0) rfl R8 rfl) (avEq_int _ _), again_of (row_addr R8) (elemO_same _ _ _ _), again_of (sin_idx fB1_2 g5) (elemP_same _ _ _), again_of (rfl) (avEq_int _ _), again_of (rfl) (SIn.same fB1_2), again_of (row_loadO S (i := 0) rfl R4 rfl) (avEq_int _ _), again_of (row_addr R4) (elemO_same _ _ _ _), again_of (sin_idx fB0_2 c1) (elemP_same _ _ _), again_of (rfl) (avEq_int _ _), again_of (rfl) (SIn.same fB0_2), again_of (congrArg (fun b => OV.ok (AV.bool b)) rc9) (avEq_bool _), again_of (rfl) (avEq_bool _), again_of (row_loadO S (i := 0) rfl R8 rfl) (avEq_int _ _), again_of (row_addr R8) (elemO_same _ _ _ _), again_of (sin_idx fB1_2 g5) (elemP_same _ _ _), again_of (rfl) (avEq_int _ _), again_of (rfl) (SIn.same fB1_2), again_of (row_loadO S (i := 0) rfl R4 rfl) (avEq_int _ _), again_of (row_addr R4) (elemO_same _ _ _ _), again_of (sin_idx fB0_2 c1) (elemP_same _ _ _), again_of (rfl) (avEq_int _ _), again_of (rfl) (SIn.same fB0_2), trivial⟩, ?_⟩
      refine ⟨_, (AV.bool false), (Option.some.inj hp).symm, rfl, ?_⟩
      exact ⟨rfl, S⟩
    have rc10 := c10
    replace c10 : (B0.getD A5 default).2.1 = (B1.getD A5 default).2.1 := eqI_T (notB_f c10)
    replace hp := iff0 hp (nneO c10)
    refine ⟨sin_idx fB0_2 c1, ?_⟩
    refine ⟨row_addr R4, ?_⟩
    refine ⟨row_loadO S (i := 0) rfl R4 rfl, ?_⟩
    refine ⟨sin_idx fB1_2 g5, ?_⟩
    refine ⟨row_addr R8, ?_⟩
    refine ⟨row_loadO S (i := 0) rfl R8 rfl, ?_⟩
    refine ⟨fun c11 => ?_, fun c11 => ?_⟩
    · have rc11 := c11
      replace c11 : (B0.getD A5 default).2.2.1 ≠ (B1.getD A5 default).2.2.1 := eqI_F (notB_t c11)
      replace hp := ift hp c11
      refine ⟨⟨again_of (rfl) (avEq_bool _), again_of (rfl) (avEq_bool _), again_of (rfl) (avEq_bool _), again_of (congrArg (fun b => OV.ok (AV.bool b)) rc11) (avEq_bool _), again_of (rfl) (avEq_bool _), again_of (rfl) (avEq_bool _), again_of (row_loadO S (i := 0) rfl R8 rfl) (avEq_int _ _), again_of (row_addr R8) (elemO_same _ _ _ _), again_of (sin_idx fB1_2 g5) (elemP_same _ _ _), again_of (rfl) (avEq_int _ _), again_of (rfl) (SIn.same fB1_2), again_of (row_loadO S (i := 0) rfl R4 rfl) (avEq_int _ _), again_of (row_addr R4) (elemO_same _ _ _ _), again_of (sin_idx fB0_2 c1) (elemP_same _ _ _), again_of (rfl) (avEq_int _ _), again_of (rfl) (SIn.same fB0_2), again_of (congrArg (fun b => OV.ok (AV.bool b)) rc10) (avEq_bool _), again_of (rfl) (avEq_bool _), again_of (rfl) (avEq_bool _), again_of (row_loadO S (i := 0) rfl R8 rfl) (avEq_int _ _), again_of (row_addr R8) (elemO_same _ _ _ _), again_of (sin_idx fB1_2 g5) (elemP_same _ _ _), again_of (rfl) (avEq_int _ _), again_of (rfl) (SIn.same fB1_2), again_of (row_loadO S (i := 0) rfl R4 rfl) (avEq_int _ _), again_of (row_addr R4) (elemO_same _ _ _ _), again_of (sin_idx fB0_2 c1) (elemP_same _ _ _), again_of (rfl) (avEq_int _ _), again_of (rfl) (SIn.same fB0_2), again_of (congrArg (fun b => OV.ok (AV.bool b)) rc9) (avEq_bool _), again_of (rfl) (avEq_bool _), again_of (row_loadO S (i := 0) rfl R8 rfl) (avEq_int _ _), again_of (row_addr R8) (elemO_same _ _ _ _), again_of (sin_idx fB1_2 g5) (elemP_same _ _ _), again_of (rfl) (avEq_int _ _), again_of (rfl) (SIn.same fB1_2), again_of (row_loadO S (i := 0) rfl R4 rfl) (avEq_int _ _), again_of (row_addr R4) (elemO_same _ _ _ _), again_of (sin_idx fB0_2 c1) (elemP_same _ _ _), again_of (rfl) (avEq_int _ _), again_of (rfl) (SIn.same fB0_2), trivial⟩, ?_⟩
      refine ⟨_, (AV.bool false), (Option.some.inj hp).symm, rfl, ?_⟩
      exact ⟨rfl, S⟩
    have rc11 := c11
    replace c11 : (B0.getD A5 default).2.2.1 = (B1.getD A5 default).2.2.1 := eqI_T (notB_f c11)
    replace hp := iff0 hp (nneO c11)
    refine ⟨sin_idx fB0_2 c1, ?_⟩
    refine ⟨row_addr R4, ?_⟩
    refine ⟨row_loadO S (i := 0) rfl R4 rfl, ?_⟩
    refine ⟨sin_idx fB1_2 g5, ?_⟩
    refine ⟨row_addr R8, ?_⟩
    refine ⟨row_loadO S (i := 0) rfl R8 rfl, ?_⟩
    refine ⟨fun c12 => ?_, fun c12 => ?_⟩
    · have rc12 := c12
      replace c12 : (B0.getD A5 default).2.2.2.1 ≠ (B1.getD A5 default).2.2.2.1 := eqI_F (notB_t c12)
      replace hp := ift hp c12
      refine ⟨⟨again_of (rfl) (avEq_bool _), again_of (congrArg (fun b => OV.ok (AV.bool b)) rc12) (avEq_bool _), again_of (rfl) (avEq_bool _), again_of (rfl) (avEq_bool _), again_of (row_loadO S (i := 0) rfl R8 rfl) (avEq_int _ _), again_of (row_addr R8) (elemO_same _ _ _ _), again_of (sin_idx fB1_2 g5) (elemP_same _ _ _), again_of (rfl) (avEq_int _ _), again_of (rfl) (SIn.same fB1_2), again_of (row_loadO S (i := 0) rfl R4 rfl) (avEq_int _ _), again_of (row_addr R4) (elemO_same _ _ _ _), again_of (sin_idx fB0_2 c1) (elemP_same _ _ _), again_of (rfl) (avEq_int _ _), again_of (rfl) (SIn.same fB0_2), again_of (congrArg (fun b => OV.ok (AV.bool b)) rc11) (avEq_bool _), again_of (rfl) (avEq_bool _), again_of (rfl) (avEq_bool _), again_of (row_loadO S (i := 0) rfl R8 rfl) (avEq_int _ _), again_of (row_addr R8) (elemO_same _ _ _ _), again_of (sin_idx fB1_2 g5) (elemP_same _ _ _), again_of (rfl) (avEq_int _ _), again_of (rfl) (SIn.same fB1_2), again_of (row_loadO S (i := 0) rfl R4 rfl) (avEq_int _ _), again_of (row_addr R4) (elemO_same _ _ _ _), again_of (sin_idx fB0_2 c1) (elemP_same _ _ _), again_of (rfl) (avEq_int _ _), again_of (rfl) (SIn.same fB0_2), again_of (congrArg (fun b => OV.ok (AV.bool b)) rc10) (avEq_bool _), again_of (rfl) (avEq_bool _), again_of (rfl) (avEq_bool _), again_of (row_loadO S (i := 0) rfl R8 rfl) (avEq_int _ _), again_of (row_addr R8) (elemO_same _ _ _ _), again_of (sin_idx fB1_2 g5) (elemP_same _ _ _), again_of (rfl) (avEq_int _ _), again_of (rfl) (SIn.same fB1_2), again_of (row_loadO S (i := 0) rfl R4 rfl) (avEq_int _ _), again_of (row_addr R4) (elemO_same _ _ _ _), again_of (sin_idx fB0_2 c1) (elemP_same _ _ _), again_of (rfl) (avEq_int _ _), again_of (rfl) (SIn.same fB0_2), again_of (congrArg (fun b => OV.ok (AV.bool b)) rc9) (avEq_bool _), again_of (rfl) (avEq_bool _), again_of (row_loadO S (i := 0) rfl R8 rfl) (avEq_int _ _), again_of (row_addr R8) (elemO_same _ _ _ _), again_of (sin_idx fB1_2 g5) (elemP_same _ _ _), again_of (rfl) (avEq_int _ _), again_of (rfl) (SIn.same fB1_2), again_of (row_loadO S (i := 0) rfl R4 rfl) (avEq_int _ _), again_of (row_addr R4) (elemO_same _ _ _ _), again_of (sin_idx fB0_2 c1) (elemP_same _ _ _), again_of (rfl) (avEq_int _ _), again_of (rfl) (SIn.same fB0_2), trivial⟩, ?_⟩
      refine ⟨_, (AV.bool false), (Option.some.inj hp).symm, rfl, ?_⟩
      exact ⟨rfl, S⟩
    have rc12 := c12
    replace c12 : (B0.getD A5 default).2.2.2.1 = (B1.getD A5 default).2.2.2.1 := eqI_T (notB_f c12)
    replace hp := iff0 hp (nneO c12)
    refine ⟨sin_idx fB0_2 c1, ?_⟩
    refine ⟨row_addr R4, ?_⟩
    refine ⟨row_loadO S (i := 0) rfl R4 rfl, ?_⟩
    refine ⟨q_toStr (BIn.now S (i := 0) rfl f3), ?_⟩
    refine ⟨sin_idx fB1_2 g5, ?_⟩
    refine ⟨row_addr R8, ?_⟩
    refine ⟨row_loadO S (i := 0) rfl R8 rfl, ?_⟩
    refine ⟨q_toStr (BIn.now S (i := 0) rfl f7), ?_⟩
    refine ⟨fun c13 => ?_, fun c13 => ?_⟩
    · have rc13 := c13
      replace c13 := strEq_f (notB_t c13)
      replace hp := ift hp c13
      refine ⟨⟨again_of (congrArg (fun b => OV.ok (AV.bool b)) rc13) (avEq_bool _), again_of (rfl) (avEq_bool _), again_of (q_toStr (BIn.now S (i := 0) rfl f7)) (avEq_str _), again_of (row_loadO S (i := 0) rfl R8 rfl) (BIn.same f7), again_of (row_addr R8) (elemO_same _ _ _ _), again_of (sin_idx fB1_2 g5) (elemP_same _ _ _), again_of (rfl) (avEq_int _ _), again_of (rfl) (SIn.same fB1_2), again_of (q_toStr (BIn.now S (i := 0) rfl f3)) (avEq_str _), again_of (row_loadO S (i := 0) rfl R4 rfl) (BIn.same f3), again_of (row_addr R4) (elemO_same _ _ _ _), again_of (sin_idx fB0_2 c1) (elemP_same _ _ _), again_of (rfl) (avEq_int _ _), again_of (rfl) (SIn.same fB0_2), again_of (congrArg (fun b => OV.ok (AV.bool b)) rc12) (avEq_bool _), again_of (rfl) (avEq_bool _), again_of (rfl) (avEq_bool _), again_of (row_loadO S (i := 0) rfl R8 rfl) (avEq_int _ _), again_of (row_addr R8) (elemO_same _ _ _ _), again_of (sin_idx fB1_2 g5) (elemP_same _ _ _), again_of (rfl) (avEq_int _ _), again_of (rfl) (SIn.same fB1_2), again_of (row_loadO S (i := 0) rfl R4 rfl) (avEq_int _ _), again_of (row_addr R4) (elemO_same _ _ _ _), again_of (sin_idx fB0_2 c1) (elemP_same _ _ _), again_of (rfl) (avEq_int _ _), again_of (rfl) (SIn.same fB0_2), again_of (congrArg (fun b => OV.ok (AV.bool b)) rc11) (avEq_bool _), again_of (rfl) (avEq_bool _), again_of (rfl) (avEq_bool _), again_of (row_loadO S (i := 0) rfl R8 rfl) (avEq_int _ _), again_of (row_addr R8) (elemO_same _ _ _ _), again_of (sin_idx fB1_2 g5) (elemP_same _ _ _), again_of (rfl) (avEq_int _ _), again_of (rfl) (SIn.same fB1_2), again_of (row_loadO S (i := 0) rfl R4 rfl) (avEq_int _ _), again_of (row_addr R4) (elemO_same _ _ _ _), again_of (sin_idx fB0_2 c1) (elemP_same _ _ _), again_of (rfl) (avEq_int _ _), again_of (rfl) (SIn.same fB0_2), again_of (congrArg (fun b => OV.ok (AV.bool b)) rc10) (avEq_bool _), again_of (rfl) (avEq_bool _), again_of (rfl) (avEq_bool _), again_of (row_loadO S (i := 0) rfl R8 rfl) (avEq_int _ _), again_of (row_addr R8) (elemO_same _ _ _ _), again_of (sin_idx fB1_2 g5) (elemP_same _ _ _), again_of (rfl) (avEq_int _ _), again_of (rfl) (SIn.same fB1_2), again_of (row_loadO S (i := 0) rfl R4 rfl) (avEq_int _ _), again_of (row_addr R4) (elemO_same _ _ _ _), again_of (sin_idx fB0_2 c1) (elemP_same _ _ _), again_of (rfl) (avEq_int _ _), again_of (rfl) (SIn.same fB0_2), again_of (congrArg (fun b => OV.ok (AV.bool b)) rc9) (avEq_bool _), again_of (rfl) (avEq_bool _), again_of (row_loadO S (i := 0) rfl R8 rfl) (avEq_int _ _), again_of (row_addr R8) (elemO_same _ _ _ _), again_of (sin_idx fB1_2 g5) (elemP_same _ _ _), again_of (rfl) (avEq_int _ _), again_of (rfl) (SIn.same fB1_2), again_of (row_loadO S (i := 0) rfl R4 rfl) (avEq_int _ _), again_of (row_addr R4) (elemO_same _ _ _ _), again_of (sin_idx fB0_2 c1) (elemP_same _ _ _), again_of (rfl) (avEq_int _ _), again_of (rfl) (SIn.same fB0_2), trivial⟩, ?_⟩
      refine ⟨_, (AV.bool false), (Option.some.inj hp).symm, rfl, ?_⟩
      exact ⟨rfl, S⟩
    have rc13 := c13
    replace c13 := strEq_t (notB_f c13)
    replace hp := iff0 hp (nneO c13)
    refine ⟨⟨again_of (congrArg (fun b => OV.ok (AV.bool b)) rc13) (avEq_bool _), again_of (rfl) (avEq_bool _), again_of (q_toStr (BIn.now S (i := 0) rfl f7)) (avEq_str _), again_of (row_loadO S (i := 0) rfl R8 rfl) (BIn.same f7), again_of (row_addr R8) (elemO_same _ _ _ _), again_of (sin_idx fB1_2 g5) (elemP_same _ _ _), again_of (rfl) (avEq_int _ _), again_of (rfl) (SIn.same fB1_2), again_of (q_toStr (BIn.now S (i := 0) rfl f3)) (avEq_str _), again_of (row_loadO S (i := 0) rfl R4 rfl) (BIn.same f3), again_of (row_addr R4) (elemO_same _ _ _ _), again_of (sin_idx fB0_2 c1) (elemP_same _ _ _), again_of (rfl) (avEq_int _ _), again_of (rfl) (SIn.same fB0_2), again_of (congrArg (fun b => OV.ok (AV.bool b)) rc12) (avEq_bool _), again_of (rfl) (avEq_bool _), again_of (rfl) (avEq_bool _), again_of (row_loadO S (i := 0) rfl R8 rfl) (avEq_int _ _), again_of (row_addr R8) (elemO_same _ _ _ _), again_of (sin_idx fB1_2 g5) (elemP_same _ _ _), again_of (rfl) (avEq_int _ _), again_of (rfl) (SIn.same fB1_2), again_of (row_loadO S (i := 0) rfl R4 rfl) (avEq_int _ _), again_of (row_addr R4) (elemO_same _ _ _ _), again_of (sin_idx fB0_2 c1) (elemP_same _ _ _), again_of (rfl) (avEq_int _ _), again_of (rfl) (SIn.same fB0_2), again_of (congrArg (fun b => OV.ok (AV.bool b)) rc11) (avEq_bool _), again_of (rfl) (avEq_bool _), again_of (rfl) (avEq_bool _), again_of (row_loadO S (i := 0) rfl R8 rfl) (avEq_int _ _), again_of (row_addr R8) (elemO_same _ _ _ _), again_of (sin_idx fB1_2 g5) (elemP_same _ _ _), again_of (rfl) (avEq_int _ _), again_of (rfl) (SIn.same fB1_2), again_of (row_loadO S (i := 0) rfl R4 rfl) (avEq_int _ _), again_of (row_addr R4) (elemO_same _ _ _ _), again_of (sin_idx fB0_2 c1) (elemP_same _ _ _), again_of (rfl) (avEq_int _ _), again_of (rfl) (SIn.same fB0_2), again_of (congrArg (fun b => OV.ok (AV.bool b)) rc10) (avEq_bool _), again_of (rfl) (avEq_bool _), again_of (rfl) (avEq_bool _), again_of (row_loadO S (i := 0) rfl R8 rfl) (avEq_int _ _), again_of (row_addr R8) (elemO_same _ _ _ _), again_of (sin_idx fB1_2 g5) (elemP_same _ _ _), again_of (rfl) (avEq_int _ _), again_of (rfl) (SIn.same fB1_2), again_of (row_loadO S (i := 0) rfl R4 rfl) (avEq_int _ _), again_of (row_addr R4) (elemO_same _ _ _ _), again_of (sin_idx fB0_2 c1) (elemP_same _ _ _), again_of (rfl) (avEq_int _ _), again_of (rfl) (SIn.same fB0_2), again_of (congrArg (fun b => OV.ok (AV.bool b)) rc9) (avEq_bool _), again_of (rfl) (avEq_bool _), again_of (row_loadO S (i := 0) rfl R8 rfl) (avEq_int _ _), again_of (row_addr R8) (elemO_same _ _ _ _), again_of (sin_idx fB1_2 g5) (elemP_same _ _ _), again_of (rfl) (avEq_int _ _), again_of (rfl) (SIn.same fB1_2), again_of (row_loadO S (i := 0) rfl R4 rfl) (avEq_int _ _), again_of (row_addr R4) (elemO_same _ _ _ _), again_of (sin_idx fB0_2 c1) (elemP_same _ _ _), again_of (rfl) (avEq_int _ _), again_of (rfl) (SIn.same fB0_2), trivial⟩, ?_⟩
    have ⟨g14, hp⟩ := gd_inv hp
    refine ⟨q_add g14, ?_⟩
    refine ⟨(m, A4, A5 + 1), rfl, ⟨hp, S⟩, by show m < n; omega⟩
  replace c1 := ltI_f c1
  replace hp := iff0 hp (nltO c1)
  refine ⟨(m, A4, A5), rfl, rfl, fun _ => ⟨(Option.some.inj hp).symm, S⟩⟩
theorem samesteps_l1_t {call : CallT} {N : Nat} {wB0_1 : AV} {wB1_1 : AV} {G : Nat → Prop} {h0 : Hp} {B0 : List (Int × Int × Int × Int × List Nat)} {B1 : List (Int × Int × Int × Int × List Nat)} (fB0_2 : SIn (rP (rZ .i64) (rP (rZ .i64) (rP (rZ .i64) (rP (rZ .i64) rY)))) G h0 wB0_1 B0) (fB1_2 : SIn (rP (rZ .i64) (rP (rZ .i64) (rP (rZ .i64) (rP (rZ .i64) rY)))) G h0 wB1_1 B1)  {o : LO (Bool × Nat) (Bool)} {n : Nat} {A4 : Bool} {A5 : Nat} {h : Hp} (hi : (fun (z : Nat × Bool × Nat) (h' : Hp) => samesteps_l1 B0 B1 z.1 z.2.1 z.2.2 = some o ∧ Eng.Sep [Frz G h0] h') (n, A4, A5) h) (hN : n < N) (hN' : 90000 < N) {t : T} (ht : Has ((fun (z : Nat × Bool × Nat) => [(0, wB0_1), (1, wB1_1), (4, (AV.bool z.2.1)), (5, (vi z.2.2))]) (n, A4, A5)) t) :
    (∃ i y t' h', evC call N (.loop samesteps_l1C) t h = .exit i t' h' ∧ Has ((fun (z : Nat × Bool × Nat) => [(0, wB0_1), (1, wB1_1), (4, (AV.bool z.2.1)), (5, (vi z.2.2))]) y) t' ∧ (fun (i : Nat) (z : Nat × Bool × Nat) (h' : Hp) => (i = 0) ∧ (i = 0 → o = LO.ex (z.2.1, z.2.2) ∧ Eng.Sep [Frz G h0] h')) i y h') ∨ (∃ t' h', evC call N (.loop samesteps_l1C) t h = .ret t' h' ∧ (fun (ls : List (Option AV)) (h' : Hp) => ∃ (rt : Bool) (v4 : AV), o = LO.rt rt ∧ ls[2]? = some (some v4) ∧ (v4 = (AV.bool rt) ∧ Eng.Sep (Frz G h0 :: []) h')) (slots [0, 1, 4, 5] t') h') :=
  loop_st (fun (z : Nat × Bool × Nat) => [(0, wB0_1), (1, wB1_1), (4, (AV.bool z.2.1)), (5, (vi z.2.2))]) [0, 1, 4, 5] (fun _ => rfl) (fun (z : Nat × Bool × Nat) (h' : Hp) => samesteps_l1 B0 B1 z.1 z.2.1 z.2.2 = some o ∧ Eng.Sep [Frz G h0] h') (fun (z : Nat × Bool × Nat) => z.1) (fun (i : Nat) (z : Nat × Bool × Nat) (h' : Hp) => (i = 0) ∧ (i = 0 → o = LO.ex (z.2.1, z.2.2) ∧ Eng.Sep [Frz G h0] h')) (fun (ls : List (Option AV)) (h' : Hp) => ∃ (rt : Bool) (v4 : AV), o = LO.rt rt ∧ ls[2]? = some (some v4) ∧ (v4 = (AV.bool rt) ∧ Eng.Sep (Frz G h0 :: []) h')) (fun ⟨n, A4, A5⟩ t h hi => samesteps_l1_body fB0_2 fB1_2 hN' hi) (n, A4, A5) h hi hN t ht
noncomputable def samesteps_p (a : List (Int × Int × Int × Int × List Nat)) (b : List (Int × Int × Int × Int × List Nat)) : Option (Bool) :=
  (if a.length ≠ b.length then (some false) else
    (ob (samesteps_l1 a b 90000 false 0) fun o2 =>
    (LO.on o2 (fun s_o2 => (some true)) (fun y9 =>
    (some y9)))))
theorem samesteps_w {call : CallT} {N : Nat} {h : Hp} {wa_1 : AV} {wb_1 : AV} {a : List (Int × Int × Int × Int × List Nat)} {b : List (Int × Int × Int × Int × List Nat)} (fa_2 : SIn (rP (rZ .i64) (rP (rZ .i64) (rP (rZ .i64) (rP (rZ .i64) rY)))) (Low h) h wa_1 a) (fb_2 : SIn (rP (rZ .i64) (rP (rZ .i64) (rP (rZ .i64) (rP (rZ .i64) rY)))) (Low h) h wb_1 b)  (hN : 90000 < N) {r : Bool} (hp : samesteps_p a b = some r) :
    ∃ rv rh, evF1 (progS Tryz.prog (compDrawn Tryz.prog)) N call 8 [wa_1, wb_1] h = .ok rv rh ∧ (fun (rv : AV) (rh : Hp) => rv = (AV.bool r) ∧ Eng.Sep (Frz (Low h) h :: []) rh) rv rh := by
  have S : Eng.Sep [Frz (Low h) h] h := Sep.start h
  unfold samesteps_p at hp
  refine fwalk_ok (K := (fun (rv : AV) (rh : Hp) => rv = (AV.bool r) ∧ Eng.Sep (Frz (Low h) h :: []) rh)) (o := (.tell 2 (vi a.length) (.tell 1 (vi b.length) (.fork 0 .fin (.dis 1 (.exi 0 fun (A4o2 : Bool) => (.exi 0 fun (A5o2 : Nat) => (.exi 0 fun (t5 : T) => (.exi 0 fun (h6 : Hp) => (.lp 0 (.exit 0 (ovT [(0, wa_1), (1, wb_1), (4, (AV.bool A4o2)), (5, (vi A5o2))] t5) h6) .fin))))) (.exi 0 fun (y9 : Bool) => (.exi 0 fun (v4o2 : AV) => (.exi 0 fun (t7 : T) => (.exi 0 fun (h8 : Hp) => (.lp 0 (.ret (ovT [(4, v4o2)] t7) h8) .fin)))))))))) (p := (fun (KK : AV → Hp → Prop) => ((evQ (.lenL (.const wa_1)) .lf H0 = .ok (vi a.length) ∧ ((evQ (.lenL (.const wb_1)) .lf H0 = .ok (vi b.length) ∧ ((notB (eqI (Int.ofNat a.length) (Int.ofNat b.length)) = true → KK (AV.bool false) h) ∧ (notB (eqI (Int.ofNat a.length) (Int.ofNat b.length)) = false → ((∃ A4o2 : Bool, ∃ A5o2 : Nat, ∃ t5 : T, ∃ h6 : Hp, (evC call N (.loop samesteps_l1C) (ovT [(0, wa_1), (1, wb_1), (4, (AV.bool false)), (5, (vi 0)), (6, wa_1), (7, (vi a.length)), (8, wb_1), (9, (vi b.length)), (10, (AV.bool false))] .lf) h = (.exit 0 (ovT [(0, wa_1), (1, wb_1), (4, (AV.bool A4o2)), (5, (vi A5o2))] t5) h6) ∧ True ∧ KK (AV.bool true) h6)) ∨ (∃ y9 : Bool, ∃ v4o2 : AV, ∃ t7 : T, ∃ h8 : Hp, (evC call N (.loop samesteps_l1C) (ovT [(0, wa_1), (1, wb_1), (4, (AV.bool false)), (5, (vi 0)), (6, wa_1), (7, (vi a.length)), (8, wb_1), (9, (vi b.length)), (10, (AV.bool false))] .lf) h = (.ret (ovT [(4, v4o2)] t7) h8) ∧ True ∧ KK v4o2 h8)))))))))) (fun (rv : AV) (rh : Hp) => rv = (AV.bool r) ∧ Eng.Sep (Frz (Low h) h :: []) rh)) (by kernel_rfl) ?_
  refine ⟨sin_len fa_2, ?_⟩
  refine ⟨sin_len fb_2, ?_⟩
  refine ⟨fun c1 => ?_, fun c1 => ?_⟩
  · replace c1 := eqI_f (notB_t c1)
    replace hp := ift hp c1
    obtain rfl := Option.some.inj hp
    exact ⟨rfl, S⟩
  replace c1 := eqI_t (notB_f c1)
  replace hp := iff0 hp (nneO c1)
  have ⟨o2, hb3, hp⟩ := ob_inv hp
  rcases samesteps_l1_t fa_2 fb_2  (o := o2) (B0 := a) (B1 := b) (n := 90000) (A4 := false) (A5 := 0) ⟨hb3, S⟩ hN hN (t := (ovT [(0, wa_1), (1, wb_1), (4, (AV.bool false)), (5, (vi 0)), (6, wa_1), (7, (vi a.length)), (8, wb_1), (9, (vi b.length)), (10, (AV.bool false))] .lf)) (show slots [0, 1, 4, 5] _ = [some wa_1, some wb_1, some (AV.bool false), some (vi 0)] by kernel_rfl) with ⟨io2, ⟨_, A4o2, A5o2⟩, t5, h6, qo2, wo2, zo2⟩ | ⟨t7, h8, qo2, zo2⟩
  · obtain ⟨jo2, zo2⟩ := zo2
    subst jo2
    replace zo2 := zo2 rfl
    obtain ⟨uo2, So2⟩ := zo2
    replace uo2 := uo2.symm
    subst uo2
    replace hp := LO.on_ex.symm.trans hp
    try dsimp only at hp
    refine Or.inl ⟨A4o2, A5o2, t5, h6, (qo2.trans (congrArg (fun t => RS.exit 0 t h6) (ovT_eq wo2).symm)), trivial, ?_⟩
    obtain rfl := Option.some.inj hp
    exact ⟨rfl, So2⟩
  obtain ⟨y9, v4o2, uo2, go2_4, Ko2⟩ := zo2
  replace uo2 := uo2.symm
  subst uo2
  replace go2_4 : tget (pathOf 4) t7 = some v4o2 := Option.some.inj go2_4
  replace hp := LO.on_rt.symm.trans hp
  try dsimp only at hp
  refine Or.inr ⟨y9, v4o2, t7, h8, (qo2.trans (congrArg (fun t => RS.ret t h8) (ovT_eq (l := [(4, v4o2)]) (by show [tget (pathOf 4) t7] = _; rw [go2_4]; rfl)).symm)), trivial, ?_⟩
  obtain rfl := Option.some.inj hp
  exact Ko2
def C_samesteps (call : CallT) : Prop := ∀ {h : Hp} {wa_1 : AV} {wb_1 : AV} {a : List (Int × Int × Int × Int × List Nat)} {b : List (Int × Int × Int × Int × List Nat)} (fa_2 : SIn (rP (rZ .i64) (rP (rZ .i64) (rP (rZ .i64) (rP (rZ .i64) rY)))) (Low h) h wa_1 a) (fb_2 : SIn (rP (rZ .i64) (rP (rZ .i64) (rP (rZ .i64) (rP (rZ .i64) rY)))) (Low h) h wb_1 b) {r : Bool}, samesteps_p a b = some r → ∃ rv rh, call 8 [wa_1, wb_1] h = .ok rv rh ∧ rv = (AV.bool r) ∧ Eng.Sep (Frz (Low h) h :: []) rh
theorem s_samesteps (K d : Nat) : C_samesteps (CC K (d + 1)) := by
  intro h wa_1 wb_1 a b fa_2 fb_2 r hp
  rw [CC, evF_at (sumT_none rfl)]
  exact samesteps_w (call := CC K (d + 0)) (N := 100000 + K) fa_2 fb_2  (by omega) hp
noncomputable def light_l1 (B0 : List (Int × Int × Int × Int × List Nat)) : Nat → Bool → Nat → Option (LO (Bool × Nat) (Bool))
  | 0, _, _ => none
  | m + 1, A2, A3 =>
    (if A3 < B0.length then (if 60 < ((B0.getD A3 default).2.2.2.2).length then (some (LO.rt false)) else
    (gd (A3 + 1 < 9223372036854775808) (light_l1 B0 m A2 (A3 + 1)))) else
    (some (LO.ex (A2, A3))))
noncomputable def light_l1C : AC := (.seq (.seq (.region [⟨(some 4), .q (.move (.tmp 3)), none⟩, ⟨(some 5), .q (.move (.tmp 0)), none⟩, ⟨(some 6), .q (.lenL (.tmp 5)), none⟩, ⟨(some 7), .q (.bin .lss (.tmp 4) (.tmp 6)), none⟩]) (.cond (.tmp 7) .skip (.exit 0))) (.seq (.block 1 (.seq (.region [⟨(some 10), .q (.move (.tmp 0)), none⟩, ⟨(some 11), .q (.move (.tmp 3)), none⟩, ⟨(some 12), .q (.idxAddrSl 5 (.tmp 10) (.tmp 11)), none⟩, ⟨(some 13), .q (.fieldAddr 4 (.tmp 12)), none⟩, ⟨(some 14), .q (.loadS (.tmp 13)), none⟩, ⟨(some 15), .q (.lenL (.tmp 14)), none⟩, ⟨(some 16), .q (.bin .gtr (.tmp 15) (.const (vi 60))), none⟩]) (.cond (.tmp 16) (.seq (.region [⟨(some 2), .q (.move (.const (AV.bool false))), none⟩]) .ret) .skip))) (.region [⟨(some 8), .q (.move (.tmp 3)), none⟩, ⟨(some 9), .q (.bin .add (.tmp 8) (.const (vi 1))), none⟩, ⟨(some 3), .q (.move (.tmp 9)), none⟩])))
theorem light_l1_body {call : CallT} {N : Nat} {t : T} {h : Hp} {wB0_1 : AV} {G : Nat → Prop} {h0 : Hp} {B0 : List (Int × Int × Int × Int × List Nat)} (fB0_2 : SIn (rP (rZ .i64) (rP (rZ .i64) (rP (rZ .i64) (rP (rZ .i64) rY)))) G h0 wB0_1 B0)  {o : LO (Bool × Nat) (Bool)} {n : Nat} {A2 : Bool} {A3 : Nat} (hN : 90000 < N) (hi : (fun (z : Nat × Bool × Nat) (h' : Hp) => light_l1 B0 z.1 z.2.1 z.2.2 = some o ∧ Eng.Sep [Frz G h0] h') (n, A2, A3) h)
    : ∃ s, evC call N light_l1C (ovT [(0, wB0_1), (2, (AV.bool A2)), (3, (vi A3))] t) h = s ∧ obsS [0, 2, 3] (fun ls h' => ∃ y, ls = ((fun (z : Nat × Bool × Nat) => [(0, wB0_1), (2, (AV.bool z.2.1)), (3, (vi z.2.2))]) y).map (fun p => some p.2) ∧ (fun (z : Nat × Bool × Nat) (h' : Hp) => light_l1 B0 z.1 z.2.1 z.2.2 = some o ∧ Eng.Sep [Frz G h0] h') y h' ∧ (fun (z : Nat × Bool × Nat) => z.1) y < (fun (z : Nat × Bool × Nat) => z.1) (n, A2, A3)) (fun i ls h' => ∃ y, ls = ((fun (z : Nat × Bool × Nat) => [(0, wB0_1), (2, (AV.bool z.2.1)), (3, (vi z.2.2))]) y).map (fun p => some p.2) ∧ (fun (i : Nat) (z : Nat × Bool × Nat) (h' : Hp) => (i = 0) ∧ (i = 0 → o = LO.ex (z.2.1, z.2.2) ∧ Eng.Sep [Frz G h0] h')) i y h') (fun ls h' => (fun (ls : List (Option AV)) (h' : Hp) => ∃ (rt : Bool) (v2 : AV), o = LO.rt rt ∧ ls[1]? = some (some v2) ∧ (v2 = (AV.bool rt) ∧ Eng.Sep (Frz G h0 :: []) h')) ls h') s := by
  have hi : light_l1 B0 n A2 A3 = some o ∧ Eng.Sep [Frz G h0] h := hi
  obtain ⟨hp, S⟩ := hi
  obtain ⟨m, hm⟩ : ∃ m, n = m + 1 := by
    cases n with
    | zero => first | cases hp | (unfold light_l1 at hp; cases hp) | (simp [light_l1] at hp)
    | succ m => exact ⟨m, rfl⟩
  rw [hm] at hp
  unfold light_l1 at hp
  refine walk_ok (o := (.tell 2 (vi B0.length) (.fork 0 (.exi 2 fun (w2 : AV) => (.tell 0 (elemP wB0_1 A3 5) (.tell 0 (elemO wB0_1 A3 5 4) (.tell 0 w2 (.tell 0 (vi (((B0.getD A3 default).2.2.2.2).length)) (.fork 0 .fin (.tell 1 (vi (A3 + 1)) .fin))))))) .fin))) (p := (fun (KN : List (Option AV) → Hp → Prop) (KE : Nat → List (Option AV) → Hp → Prop) (KR : List (Option AV) → Hp → Prop) => ((evQ (.lenL (.const wB0_1)) .lf H0 = .ok (vi B0.length) ∧ ((ltI (Int.ofNat A3) (Int.ofNat B0.length) = true → (∃ w2 : AV, (evQ (.idxAddrSl 5 (.const wB0_1) (.const (vi A3))) .lf H0 = .ok (elemP wB0_1 A3 5) ∧ ((evQ (.fieldAddr 4 (.const (elemP wB0_1 A3 5))) .lf H0 = .ok (elemO wB0_1 A3 5 4) ∧ ((evQ (.loadS (.const (elemO wB0_1 A3 5 4))) .lf h = .ok w2 ∧ ((evQ (.lenL (.const w2)) .lf H0 = .ok (vi (((B0.getD A3 default).2.2.2.2).length)) ∧ ((ltI (Int.ofNat 60) (Int.ofNat (((B0.getD A3 default).2.2.2.2).length)) = true → KR [some wB0_1, some (AV.bool false), some (vi A3)] h) ∧ (ltI (Int.ofNat 60) (Int.ofNat (((B0.getD A3 default).2.2.2.2).length)) = false → ((evQ (.bin .add (.const (vi A3)) (.const (vi 1))) .lf H0 = .ok (vi (A3 + 1)) ∧ KN [some wB0_1, some (AV.bool A2), some (vi (A3 + 1))] h))))))))))))) ∧ (ltI (Int.ofNat A3) (Int.ofNat B0.length) = false → KE 0 [some wB0_1, some (AV.bool A2), some (vi A3)] h))))) (fun ls h' => ∃ y, ls = ((fun (z : Nat × Bool × Nat) => [(0, wB0_1), (2, (AV.bool z.2.1)), (3, (vi z.2.2))]) y).map (fun p => some p.2) ∧ (fun (z : Nat × Bool × Nat) (h' : Hp) => light_l1 B0 z.1 z.2.1 z.2.2 = some o ∧ Eng.Sep [Frz G h0] h') y h' ∧ (fun (z : Nat × Bool × Nat) => z.1) y < (fun (z : Nat × Bool × Nat) => z.1) (n, A2, A3)) (fun i ls h' => ∃ y, ls = ((fun (z : Nat × Bool × Nat) => [(0, wB0_1), (2, (AV.bool z.2.1)), (3, (vi z.2.2))]) y).map (fun p => some p.2) ∧ (fun (i : Nat) (z : Nat × Bool × Nat) (h' : Hp) => (i = 0) ∧ (i = 0 → o = LO.ex (z.2.1, z.2.2) ∧ Eng.Sep [Frz G h0] h')) i y h') (fun ls h' => (fun (ls : List (Option AV)) (h' : Hp) => ∃ (rt : Bool) (v2 : AV), o = LO.rt rt ∧ ls[1]? = some (some v2) ∧ (v2 = (AV.bool rt) ∧ Eng.Sep (Frz G h0 :: []) h')) ls h')) (by kernel_rfl) ?_
  refine ⟨sin_len fB0_2, ?_⟩
  refine ⟨fun c1 => ?_, fun c1 => ?_⟩
  · replace c1 := ltI_t c1
    replace hp := ift hp c1
    obtain ⟨csR4, hcR4, R4⟩ := sin_row fB0_2 c1
    obtain ⟨_, _, rfl, rfl, ⟨_, _, rfl, rfl, ⟨_, _, rfl, rfl, ⟨_, _, rfl, rfl, ⟨w2, rfl, f3⟩⟩⟩⟩⟩ := hcR4
    refine ⟨w2, sin_idx fB0_2 c1, ?_⟩
    refine ⟨row_addr R4, ?_⟩
    refine ⟨row_loadO S (i := 0) rfl R4 rfl, ?_⟩
    refine ⟨q_len (BIn.now S (i := 0) rfl f3), ?_⟩
    refine ⟨fun c5 => ?_, fun c5 => ?_⟩
    · replace c5 := ltI_t c5
      replace hp := ift hp c5
      refine ⟨_, (AV.bool false), (Option.some.inj hp).symm, rfl, ?_⟩
      exact ⟨rfl, S⟩
    replace c5 := ltI_f c5
    replace hp := iff0 hp (nltO c5)
    have ⟨g6, hp⟩ := gd_inv hp
    refine ⟨q_add g6, ?_⟩
    refine ⟨(m, A2, A3 + 1), rfl, ⟨hp, S⟩, by show m < n; omega⟩
  replace c1 := ltI_f c1
  replace hp := iff0 hp (nltO c1)
  refine ⟨(m, A2, A3), rfl, rfl, fun _ => ⟨(Option.some.inj hp).symm, S⟩⟩
theorem light_l1_t {call : CallT} {N : Nat} {wB0_1 : AV} {G : Nat → Prop} {h0 : Hp} {B0 : List (Int × Int × Int × Int × List Nat)} (fB0_2 : SIn (rP (rZ .i64) (rP (rZ .i64) (rP (rZ .i64) (rP (rZ .i64) rY)))) G h0 wB0_1 B0)  {o : LO (Bool × Nat) (Bool)} {n : Nat} {A2 : Bool} {A3 : Nat} {h : Hp} (hi : (fun (z : Nat × Bool × Nat) (h' : Hp) => light_l1 B0 z.1 z.2.1 z.2.2 = some o ∧ Eng.Sep [Frz G h0] h') (n, A2, A3) h) (hN : n < N) (hN' : 90000 < N) {t : T} (ht : Has ((fun (z : Nat × Bool × Nat) => [(0, wB0_1), (2, (AV.bool z.2.1)), (3, (vi z.2.2))]) (n, A2, A3)) t) :
    (∃ i y t' h', evC call N (.loop light_l1C) t h = .exit i t' h' ∧ Has ((fun (z : Nat × Bool × Nat) => [(0, wB0_1), (2, (AV.bool z.2.1)), (3, (vi z.2.2))]) y) t' ∧ (fun (i : Nat) (z : Nat × Bool × Nat) (h' : Hp) => (i = 0) ∧ (i = 0 → o = LO.ex (z.2.1, z.2.2) ∧ Eng.Sep [Frz G h0] h')) i y h') ∨ (∃ t' h', evC call N (.loop light_l1C) t h = .ret t' h' ∧ (fun (ls : List (Option AV)) (h' : Hp) => ∃ (rt : Bool) (v2 : AV), o = LO.rt rt ∧ ls[1]? = some (some v2) ∧ (v2 = (AV.bool rt) ∧ Eng.Sep (Frz G h0 :: []) h')) (slots [0, 2, 3] t') h') :=
  loop_st (fun (z : Nat × Bool × Nat) => [(0, wB0_1), (2, (AV.bool z.2.1)), (3, (vi z.2.2))]) [0, 2, 3] (fun _ => rfl) (fun (z : Nat × Bool × Nat) (h' : Hp) => light_l1 B0 z.1 z.2.1 z.2.2 = some o ∧ Eng.Sep [Frz G h0] h') (fun (z : Nat × Bool × Nat) => z.1) (fun (i : Nat) (z : Nat × Bool × Nat) (h' : Hp) => (i = 0) ∧ (i = 0 → o = LO.ex (z.2.1, z.2.2) ∧ Eng.Sep [Frz G h0] h')) (fun (ls : List (Option AV)) (h' : Hp) => ∃ (rt : Bool) (v2 : AV), o = LO.rt rt ∧ ls[1]? = some (some v2) ∧ (v2 = (AV.bool rt) ∧ Eng.Sep (Frz G h0 :: []) h')) (fun ⟨n, A2, A3⟩ t h hi => light_l1_body fB0_2 hN' hi) (n, A2, A3) h hi hN t ht
noncomputable def light_p (K : Nat) (l : List (Int × Int × Int × Int × List Nat)) : Option (Bool) :=
  (ob (light_l1 l (90000 + K) false 0) fun o1 =>
    (LO.on o1 (fun s_o1 => (if l.length ≤ 20 then (some true) else
    (some false))) (fun y8 =>
    (some y8))))
theorem light_w {call : CallT} {N : Nat} {h : Hp} {wl_1 : AV} {l : List (Int × Int × Int × Int × List Nat)} (fl_2 : SIn (rP (rZ .i64) (rP (rZ .i64) (rP (rZ .i64) (rP (rZ .i64) rY)))) (Low h) h wl_1 l)  {K : Nat} (hN : 90000 + K < N) {r : Bool} (hp : light_p K l = some r) :
    ∃ rv rh, evF1 (progS Tryz.prog (compDrawn Tryz.prog)) N call 9 [wl_1] h = .ok rv rh ∧ (fun (rv : AV) (rh : Hp) => rv = (AV.bool r) ∧ Eng.Sep (Frz (Low h) h :: []) rh) rv rh := by
  have S : Eng.Sep [Frz (Low h) h] h := Sep.start h
  unfold light_p at hp
  refine fwalk_ok (K := (fun (rv : AV) (rh : Hp) => rv = (AV.bool r) ∧ Eng.Sep (Frz (Low h) h :: []) rh)) (o := (.dis 2 (.exi 0 fun (A2o1 : Bool) => (.exi 0 fun (A3o1 : Nat) => (.exi 0 fun (t4 : T) => (.exi 0 fun (h5 : Hp) => (.lp 0 (.exit 0 (ovT [(0, wl_1), (2, (AV.bool A2o1)), (3, (vi A3o1))] t4) h5) (.tell 1 (vi l.length) (.fork 1 .fin .fin))))))) (.exi 0 fun (y8 : Bool) => (.exi 0 fun (v2o1 : AV) => (.exi 0 fun (t6 : T) => (.exi 0 fun (h7 : Hp) => (.lp 0 (.ret (ovT [(2, v2o1)] t6) h7) .fin))))))) (p := (fun (KK : AV → Hp → Prop) => ((∃ A2o1 : Bool, ∃ A3o1 : Nat, ∃ t4 : T, ∃ h5 : Hp, (evC call N (.loop light_l1C) (ovT [(0, wl_1), (2, (AV.bool false)), (3, (vi 0))] .lf) h = (.exit 0 (ovT [(0, wl_1), (2, (AV.bool A2o1)), (3, (vi A3o1))] t4) h5) ∧ True ∧ ((evQ (.lenL (.const wl_1)) .lf H0 = .ok (vi l.length) ∧ ((notB (ltI (Int.ofNat 20) (Int.ofNat l.length)) = true → KK (AV.bool true) h5) ∧ (notB (ltI (Int.ofNat 20) (Int.ofNat l.length)) = false → KK (AV.bool false) h5)))))) ∨ (∃ y8 : Bool, ∃ v2o1 : AV, ∃ t6 : T, ∃ h7 : Hp, (evC call N (.loop light_l1C) (ovT [(0, wl_1), (2, (AV.bool false)), (3, (vi 0))] .lf) h = (.ret (ovT [(2, v2o1)] t6) h7) ∧ True ∧ KK v2o1 h7)))) (fun (rv : AV) (rh : Hp) => rv = (AV.bool r) ∧ Eng.Sep (Frz (Low h) h :: []) rh)) (by kernel_rfl) ?_
  have ⟨o1, hb2, hp⟩ := ob_inv hp
  rcases light_l1_t fl_2  (o := o1) (B0 := l) (n := 90000 + K) (A2 := false) (A3 := 0) ⟨hb2, S⟩ hN (by omega) (t := (ovT [(0, wl_1), (2, (AV.bool false)), (3, (vi 0))] .lf)) (show slots [0, 2, 3] _ = [some wl_1, some (AV.bool false), some (vi 0)] by kernel_rfl) with ⟨io1, ⟨_, A2o1, A3o1⟩, t4, h5, qo1, wo1, zo1⟩ | ⟨t6, h7, qo1, zo1⟩
  · obtain ⟨jo1, zo1⟩ := zo1
    subst jo1
    replace zo1 := zo1 rfl
    obtain ⟨uo1, So1⟩ := zo1
    replace uo1 := uo1.symm
    subst uo1
    replace hp := LO.on_ex.symm.trans hp
    try dsimp only at hp
    refine Or.inl ⟨A2o1, A3o1, t4, h5, (qo1.trans (congrArg (fun t => RS.exit 0 t h5) (ovT_eq wo1).symm)), trivial, ?_⟩
    refine ⟨sin_len fl_2, ?_⟩
    refine ⟨fun c9 => ?_, fun c9 => ?_⟩
    · replace c9 := ltI_f (notB_t c9)
      replace hp := ift hp c9
      obtain rfl := Option.some.inj hp
      exact ⟨rfl, So1⟩
    replace c9 := ltI_t (notB_f c9)
    replace hp := iff0 hp (nleO c9)
    obtain rfl := Option.some.inj hp
    exact ⟨rfl, So1⟩
  obtain ⟨y8, v2o1, uo1, go1_2, Ko1⟩ := zo1
  replace uo1 := uo1.symm
  subst uo1
  replace go1_2 : tget (pathOf 2) t6 = some v2o1 := Option.some.inj go1_2
  replace hp := LO.on_rt.symm.trans hp
  try dsimp only at hp
  refine Or.inr ⟨y8, v2o1, t6, h7, (qo1.trans (congrArg (fun t => RS.ret t h7) (ovT_eq (l := [(2, v2o1)]) (by show [tget (pathOf 2) t6] = _; rw [go1_2]; rfl)).symm)), trivial, ?_⟩
  obtain rfl := Option.some.inj hp
  exact Ko1
def C_light (K : Nat) (call : CallT) : Prop := ∀ {h : Hp} {wl_1 : AV} {l : List (Int × Int × Int × Int × List Nat)} (fl_2 : SIn (rP (rZ .i64) (rP (rZ .i64) (rP (rZ .i64) (rP (rZ .i64) rY)))) (Low h) h wl_1 l) {r : Bool}, light_p K l = some r → ∃ rv rh, call 9 [wl_1] h = .ok rv rh ∧ rv = (AV.bool r) ∧ Eng.Sep (Frz (Low h) h :: []) rh
theorem s_light (K d : Nat) : C_light K (CC K (d + 1)) := by
  intro h wl_1 l fl_2 r hp
  rw [CC, evF_at (sumT_none rfl)]
  exact light_w (call := CC K (d + 0)) (N := 100000 + K) fl_2  (by omega) hp
end Go.Proofs.YtgimoeiddjepnaaGreatDoor
end
section
set_option linter.unusedVariables false
namespace Go.Proofs.YtgimoeiddjepnaaGreatDoor
set_option linter.unusedVariables false
set_option linter.unusedSimpArgs false
open Go Eng
noncomputable def lawparts_p (K : Nat) (a : List (Int × Int × Int × Int × List Nat)) (b : List (Int × Int × Int × Int × List Nat)) (cut : Nat) : Option (Bool) :=
  (ob (light_p K a) fun x1 =>
    (if x1 = false then (some true) else
    (ob (light_p K b) fun x13 =>
    (if x13 = false then (some true) else
    (ob (encode_p a) fun x25 =>
    (ob (encode_p b) fun x38 =>
    (ob (decode_p x25) fun x51 =>
    (ob (decode_p x38) fun x65 =>
    (gd (x25.length + x38.length ≤ 1099511627776) (gd ((0 + a.length) * 56 ≤ 70368744177664) (gd ((a.length + b.length) * 56 ≤ 70368744177664) (ob (encode_p (a ++ b)) fun x100 =>
    (if x100 ≠ (x25 ++ x38) then (some false) else
    (gd (0 + x25.length ≤ 70368744177664) (gd (x25.length + x38.length ≤ 70368744177664) (ob (decode_p (x25 ++ x38)) fun x124 =>
    (gd ((0 + x51.length) * 56 ≤ 70368744177664) (gd ((x51.length + x65.length) * 56 ≤ 70368744177664) (ob (samesteps_p x124 (x51 ++ x65)) fun x168 =>
    (if x168 = false then (some false) else
    (if x25.length = 0 then (if x51.length = 0 then (some true) else
    (some false)) else
    (gd (cut % x25.length ≤ x25.length) (ob (decode_p (x25.take (cut % x25.length))) fun x185 =>
    (if x185.length < x51.length then (some true) else
    (some false)))))))))))))))))))))))))
theorem lawparts_w {call : CallT} {N : Nat} {h : Hp} {wa_1 : AV} {wb_1 : AV} {a : List (Int × Int × Int × Int × List Nat)} {b : List (Int × Int × Int × Int × List Nat)} {cut : Nat} (fa_2 : SIn (rP (rZ .i64) (rP (rZ .i64) (rP (rZ .i64) (rP (rZ .i64) rY)))) (Low h) h wa_1 a) (fb_2 : SIn (rP (rZ .i64) (rP (rZ .i64) (rP (rZ .i64) (rP (rZ .i64) rY)))) (Low h) h wb_1 b) (fcut_1 : cut < 256) (h_begun : TrueS call 5) (h_decode : C_decode call) (h_encode : C_encode call) (h_samesteps : C_samesteps call) {K : Nat} (h_light : C_light K call) {r : Bool} (hp : lawparts_p K a b cut = some r) :
    ∃ rv rh, evF1 (progS Tryz.prog (compDrawn Tryz.prog)) N call 4 [wa_1, wb_1, (vb8 cut)] h = .ok rv rh ∧ (fun (rv : AV) (rh : Hp) => rv = (AV.bool r)) rv rh := by
  have S : Eng.Sep [Frz (Low h) h] h := Sep.start h
  unfold lawparts_p at hp
  refine fwalk_ok (K := (fun (rv : AV) (rh : Hp) => rv = (AV.bool r))) (o := (.eff 1 (AV.bool true) h (.exi 2 fun (x1 : Bool) => (.exi 0 fun (h6 : Hp) => (.eff 0 (AV.bool x1) h6 (.fork 1 .fin (.exi 1 fun (x13 : Bool) => (.exi 0 fun (h18 : Hp) => (.eff 0 (AV.bool x13) h18 (.fork 1 .fin (.exi 1 fun (x25 : List Nat) => (.exi 0 fun (w29 : AV) => (.exi 0 fun (h32 : Hp) => (.eff 0 w29 h32 (.exi 1 fun (x38 : List Nat) => (.exi 0 fun (w42 : AV) => (.exi 0 fun (h45 : Hp) => (.eff 0 w42 h45 (.exi 3 fun (x51 : List (Int × Int × Int × Int × List Nat)) => (.exi 0 fun (w55 : AV) => (.exi 0 fun (h59 : Hp) => (.eff 0 w55 h59 (.exi 1 fun (x65 : List (Int × Int × Int × Int × List Nat)) => (.exi 0 fun (w69 : AV) => (.exi 0 fun (h73 : Hp) => (.eff 0 w69 h73 (.tell 6 (AV.str x25) (.tell 1 (AV.str x38) (.tell 0 (AV.str (x25 ++ x38)) (.again 0 (.effx 0 (fun e82 => e82.v) (fun e82 => (.again 0 (.effx 0 (fun e91 => e91.v) (fun e91 => (.again 0 (.exi 0 fun (x100 : List Nat) => (.exi 0 fun (w104 : AV) => (.exi 0 fun (h107 : Hp) => (.eff 0 w104 h107 (.tell 0 (AV.str x100) (.fork 1 (.again 0 .fin) (.again 6 (.effx 0 (fun e116 => e116.v) (fun e116 => (.again 0 (.effx 0 (fun e120 => e120.v) (fun e120 => (.again 0 (.exi 0 fun (x124 : List (Int × Int × Int × Int × List Nat)) => (.exi 0 fun (w128 : AV) => (.exi 0 fun (h132 : Hp) => (.eff 0 w128 h132 (.again 0 (.effx 0 (fun e142 => e142.v) (fun e142 => (.again 0 (.effx 0 (fun e153 => e153.v) (fun e153 => (.exi 1 fun (x168 : Bool) => (.exi 0 fun (h173 : Hp) => (.eff 0 (AV.bool x168) h173 (.fork 1 (.again 0 .fin) (.again 0 (.tell 1 (vi x25.length) (.fork 0 (.tell 1 (vi x51.length) (.fork 1 .fin .fin)) (.tell 2 (vi cut) (.tell 1 (vi x25.length) (.tell 0 (vi (cut % x25.length)) (.tell 0 (partS w29 0 (cut % x25.length)) (.exi 0 fun (x185 : List (Int × Int × Int × Int × List Nat)) => (.exi 0 fun (w189 : AV) => (.exi 0 fun (h193 : Hp) => (.eff 0 w189 h193 (.tell 0 (vi x185.length) (.tell 1 (vi x51.length) (.fork 1 .fin .fin))))))))))))))))))))))))))))))))))))))))))))))))))))))))))))))))))))))))))))) (p := (fun (KK : AV → Hp → Prop) => (call 5 [] h = .ok (AV.bool true) h ∧ (∃ x1 : Bool, ∃ h6 : Hp, (call 9 [wa_1] h = .ok (AV.bool x1) h6 ∧ ((notB x1 = true → KK (AV.bool true) h6) ∧ (notB x1 = false → (∃ x13 : Bool, ∃ h18 : Hp, (call 9 [wb_1] h6 = .ok (AV.bool x13) h18 ∧ ((notB x13 = true → KK (AV.bool true) h18) ∧ (notB x13 = false → (∃ x25 : List Nat, ∃ w29 : AV, ∃ h32 : Hp, (call 7 [wa_1] h18 = .ok w29 h32 ∧ (∃ x38 : List Nat, ∃ w42 : AV, ∃ h45 : Hp, (call 7 [wb_1] h32 = .ok w42 h45 ∧ (∃ x51 : List (Int × Int × Int × Int × List Nat), ∃ w55 : AV, ∃ h59 : Hp, (call 6 [w29] h45 = .ok w55 h59 ∧ (∃ x65 : List (Int × Int × Int × Int × List Nat), ∃ w69 : AV, ∃ h73 : Hp, (call 6 [w42] h59 = .ok w69 h73 ∧ ((evQ (.toStr (.const w29)) .lf (hpush h73 (mkCells [] 0)) = .ok (AV.str x25) ∧ ((evQ (.toStr (.const w42)) .lf (hpush h73 (mkCells [] 0)) = .ok (AV.str x38) ∧ ((evQ (.bin .add (.const (AV.str x25)) (.const (AV.str x38))) .lf H0 = .ok (AV.str (x25 ++ x38)) ∧ ((again (.bin .add (.const (AV.str x25)) (.const (AV.str x38))) .lf (AV.str (x25 ++ x38)) (hpush h73 (mkCells [] 0)) = true ∧ again (.toStr (.const w42)) .lf (AV.str x38) (hpush h73 (mkCells [] 0)) = true ∧ again (.move (.const w42)) .lf w42 (hpush h73 (mkCells [] 0)) = true ∧ again (.toStr (.const w29)) .lf (AV.str x25) (hpush h73 (mkCells [] 0)) = true ∧ again (.move (.const w29)) .lf w29 (hpush h73 (mkCells [] 0)) = true ∧ again (.move (.const wb_1)) .lf wb_1 (hpush h73 (mkCells [] 0)) = true ∧ again (.move (.const wa_1)) .lf wa_1 (hpush h73 (mkCells [] 0)) = true ∧ True) ∧ (∃ e82 : Ev, evE (.append 5 56 (.const (AV.slice (Hp.next h73) 0 0 0 5 true)) (.const wa_1)) call .lf (hpush h73 (mkCells [] 0)) = .ok e82.v e82.h ∧ ((again (.bin .add (.const (AV.str x25)) (.const (AV.str x38))) .lf (AV.str (x25 ++ x38)) e82.h = true ∧ again (.toStr (.const w42)) .lf (AV.str x38) e82.h = true ∧ again (.move (.const w42)) .lf w42 e82.h = true ∧ again (.toStr (.const w29)) .lf (AV.str x25) e82.h = true ∧ again (.move (.const w29)) .lf w29 e82.h = true ∧ again (.move (.const wb_1)) .lf wb_1 e82.h = true ∧ True) ∧ (∃ e91 : Ev, evE (.append 5 56 (.const e82.v) (.const wb_1)) call .lf e82.h = .ok e91.v e91.h ∧ ((again (.bin .add (.const (AV.str x25)) (.const (AV.str x38))) .lf (AV.str (x25 ++ x38)) e91.h = true ∧ again (.toStr (.const w42)) .lf (AV.str x38) e91.h = true ∧ again (.move (.const w42)) .lf w42 e91.h = true ∧ again (.toStr (.const w29)) .lf (AV.str x25) e91.h = true ∧ again (.move (.const w29)) .lf w29 e91.h = true ∧ True) ∧ (∃ x100 : List Nat, ∃ w104 : AV, ∃ h107 : Hp, (call 7 [e91.v] e91.h = .ok w104 h107 ∧ ((evQ (.toStr (.const w104)) .lf h107 = .ok (AV.str x100) ∧ ((notB (strEq x100 (x25 ++ x38)) = true → ((again (.move (.const (AV.bool (notB (strEq x100 (x25 ++ x38)))))) .lf (AV.bool true) h107 = true ∧ again (.eq .str true (.const (AV.str x100)) (.const (AV.str (x25 ++ x38)))) .lf (AV.bool (notB (strEq x100 (x25 ++ x38)))) h107 = true ∧ again (.toStr (.const w104)) .lf (AV.str x100) h107 = true ∧ again (.bin .add (.const (AV.str x25)) (.const (AV.str x38))) .lf (AV.str (x25 ++ x38)) h107 = true ∧ again (.toStr (.const w42)) .lf (AV.str x38) h107 = true ∧ again (.move (.const w42)) .lf w42 h107 = true ∧ again (.toStr (.const w29)) .lf (AV.str x25) h107 = true ∧ again (.move (.const w29)) .lf w29 h107 = true ∧ True) ∧ KK (AV.bool false) h107)) ∧ (notB (strEq x100 (x25 ++ x38)) = false → ((again (.move (.const w69)) .lf w69 (hpush (hpush h107 (mkCells [] 0)) (mkCells [] 0)) = true ∧ again (.move (.const w55)) .lf w55 (hpush (hpush h107 (mkCells [] 0)) (mkCells [] 0)) = true ∧ again (.move (.const w42)) .lf w42 (hpush (hpush h107 (mkCells [] 0)) (mkCells [] 0)) = true ∧ again (.move (.const w29)) .lf w29 (hpush (hpush h107 (mkCells [] 0)) (mkCells [] 0)) = true ∧ again (.move (.const (AV.bool (notB (strEq x100 (x25 ++ x38)))))) .lf (AV.bool false) (hpush (hpush h107 (mkCells [] 0)) (mkCells [] 0)) = true ∧ again (.eq .str true (.const (AV.str x100)) (.const (AV.str (x25 ++ x38)))) .lf (AV.bool (notB (strEq x100 (x25 ++ x38)))) (hpush (hpush h107 (mkCells [] 0)) (mkCells [] 0)) = true ∧ again (.toStr (.const w104)) .lf (AV.str x100) (hpush (hpush h107 (mkCells [] 0)) (mkCells [] 0)) = true ∧ again (.bin .add (.const (AV.str x25)) (.const (AV.str x38))) .lf (AV.str (x25 ++ x38)) (hpush (hpush h107 (mkCells [] 0)) (mkCells [] 0)) = true ∧ again (.toStr (.const w42)) .lf (AV.str x38) (hpush (hpush h107 (mkCells [] 0)) (mkCells [] 0)) = true ∧ again (.move (.const w42)) .lf w42 (hpush (hpush h107 (mkCells [] 0)) (mkCells [] 0)) = true ∧ again (.toStr (.const w29)) .lf (AV.str x25) (hpush (hpush h107 (mkCells [] 0)) (mkCells [] 0)) = true ∧ again (.move (.const w29)) .lf w29 (hpush (hpush h107 (mkCells [] 0)) (mkCells [] 0)) = true ∧ True) ∧ (∃ e116 : Ev, evE (.append 1 1 (.const (AV.slice (Hp.next h107) 0 0 0 1 true)) (.const w29)) call .lf (hpush (hpush h107 (mkCells [] 0)) (mkCells [] 0)) = .ok e116.v e116.h ∧ ((again (.move (.const w69)) .lf w69 e116.h = true ∧ again (.move (.const w55)) .lf w55 e116.h = true ∧ again (.move (.const w42)) .lf w42 e116.h = true ∧ True) ∧ (∃ e120 : Ev, evE (.append 1 1 (.const e116.v) (.const w42)) call .lf e116.h = .ok e120.v e120.h ∧ ((again (.move (.const w69)) .lf w69 e120.h = true ∧ again (.move (.const w55)) .lf w55 e120.h = true ∧ True) ∧ (∃ x124 : List (Int × Int × Int × Int × List Nat), ∃ w128 : AV, ∃ h132 : Hp, (call 6 [e120.v] e120.h = .ok w128 h132 ∧ ((again (.move (.const w69)) .lf w69 h132 = true ∧ again (.move (.const w55)) .lf w55 h132 = true ∧ True) ∧ (∃ e142 : Ev, evE (.append 5 56 (.const (AV.slice (Hp.next (hpush h107 (mkCells [] 0))) 0 0 0 5 true)) (.const w55)) call .lf h132 = .ok e142.v e142.h ∧ ((again (.move (.const w69)) .lf w69 e142.h = true ∧ True) ∧ (∃ e153 : Ev, evE (.append 5 56 (.const e142.v) (.const w69)) call .lf e142.h = .ok e153.v e153.h ∧ (∃ x168 : Bool, ∃ h173 : Hp, (call 8 [w128, e153.v] e153.h = .ok (AV.bool x168) h173 ∧ ((notB x168 = true → ((again (.pick (.const (AV.bool false)) (.const (AV.bool true)) (.const (AV.bool (notB x168)))) .lf (AV.bool true) h173 = true ∧ again (.un .not (.const (AV.bool x168))) .lf (AV.bool (notB x168)) h173 = true ∧ True) ∧ KK (AV.bool false) h173)) ∧ (notB x168 = false → ((again (.pick (.const (AV.bool false)) (.const (AV.bool true)) (.const (AV.bool (notB x168)))) .lf (AV.bool false) h173 = true ∧ again (.un .not (.const (AV.bool x168))) .lf (AV.bool (notB x168)) h173 = true ∧ True) ∧ ((evQ (.lenL (.const w29)) .lf H0 = .ok (vi x25.length) ∧ ((eqI (Int.ofNat x25.length) (Int.ofNat 0) = true → ((evQ (.lenL (.const w55)) .lf H0 = .ok (vi x51.length) ∧ ((eqI (Int.ofNat x51.length) (Int.ofNat 0) = true → KK (AV.bool true) h173) ∧ (eqI (Int.ofNat x51.length) (Int.ofNat 0) = false → KK (AV.bool false) h173))))) ∧ (eqI (Int.ofNat x25.length) (Int.ofNat 0) = false → ((evQ (.toInt .i64 (.const (vb8 cut))) .lf H0 = .ok (vi cut) ∧ ((evQ (.lenL (.const w29)) .lf H0 = .ok (vi x25.length) ∧ ((evQ (.bin .rem (.const (vi cut)) (.const (vi x25.length))) .lf H0 = .ok (vi (cut % x25.length)) ∧ ((evQ (.sliceSl 1 (.const w29) none (some (.const (vi (cut % x25.length)))) none) .lf H0 = .ok (partS w29 0 (cut % x25.length)) ∧ (∃ x185 : List (Int × Int × Int × Int × List Nat), ∃ w189 : AV, ∃ h193 : Hp, (call 6 [(partS w29 0 (cut % x25.length))] h173 = .ok w189 h193 ∧ ((evQ (.lenL (.const w189)) .lf H0 = .ok (vi x185.length) ∧ ((evQ (.lenL (.const w55)) .lf H0 = .ok (vi x51.length) ∧ ((ltI (Int.ofNat x185.length) (Int.ofNat x51.length) = true → KK (AV.bool true) h193) ∧ (ltI (Int.ofNat x185.length) (Int.ofNat x51.length) = false → KK (AV.bool false) h193))))))))))))))))))))))))))))))))))))))))))))))))))))))))))))))))))))))) (fun (rv : AV) (rh : Hp) => rv = (AV.bool r))) (by kernel_rfl) ?_
  refine ⟨h_begun _, ?_⟩
  have ⟨x1, hb2, hp⟩ := ob_inv hp
  obtain ⟨v5, h6, q7, e8, S9⟩ := h_light (SIn.up (Sep.low S (i := 0) rfl) fa_2) hb2
  replace e8 := e8.symm
  subst e8
  have S11 := Sep.call S (news := []) S9
  refine ⟨x1, h6, q7, ?_⟩
  refine ⟨fun c12 => ?_, fun c12 => ?_⟩
  · replace c12 := notB_t c12
    replace hp := ift hp c12
    obtain rfl := Option.some.inj hp
    exact rfl
  replace c12 := notB_f c12
  replace hp := iff0 hp (nbT c12)
  have ⟨x13, hb14, hp⟩ := ob_inv hp
  obtain ⟨v17, h18, q19, e20, S21⟩ := h_light (SIn.up (Sep.low S11 (i := 0) rfl) fb_2) hb14
  replace e20 := e20.symm
  subst e20
  have S23 := Sep.call S11 (news := []) S21
  refine ⟨x13, h18, q19, ?_⟩
  refine ⟨fun c24 => ?_, fun c24 => ?_⟩
  · replace c24 := notB_t c24
    replace hp := ift hp c24
    obtain rfl := Option.some.inj hp
    exact rfl
  replace c24 := notB_f c24
  replace hp := iff0 hp (nbT c24)
  have ⟨x25, hb26, hp⟩ := ob_inv hp
  obtain ⟨v31, h32, q33, w29, e34, f30, S35⟩ := h_encode (SIn.up (Sep.low S23 (i := 0) rfl) fa_2) hb26
  replace e34 := e34.symm
  subst e34
  have S37 := Sep.call S23 (news := [OwnO 1 w29 x25.length (u8s x25)]) S35
  refine ⟨x25, w29, h32, q33, ?_⟩
  have ⟨x38, hb39, hp⟩ := ob_inv hp
  obtain ⟨v44, h45, q46, w42, e47, f43, S48⟩ := h_encode (SIn.up (Sep.low S37 (i := 1) rfl) fb_2) hb39
  replace e47 := e47.symm
  subst e47
  have S50 := Sep.call S37 (news := [OwnO 1 w42 x38.length (u8s x38)]) S48
  refine ⟨x38, w42, h45, q46, ?_⟩
  have ⟨x51, hb52, hp⟩ := ob_inv hp
  obtain ⟨v58, h59, q60, w55, L57, G53, k54, e61, f56, S62⟩ := h_decode (own_bin S50 (i := 1) rfl f30) hb52
  replace e61 := e61.symm
  subst e61
  have S64 := Sep.call S50 (news := [OwnO 5 w55 x51.length L57, Frz G53 k54]) S62
  refine ⟨x51, w55, h59, q60, ?_⟩
  have ⟨x65, hb66, hp⟩ := ob_inv hp
  obtain ⟨v72, h73, q74, w69, L71, G67, k68, e75, f70, S76⟩ := h_decode (own_bin S64 (i := 2) rfl f43) hb66
  replace e75 := e75.symm
  subst e75
  have S78 := Sep.call S64 (news := [OwnO 5 w69 x65.length L71, Frz G67 k68]) S76
  refine ⟨x65, w69, h73, q74, ?_⟩
  have S79 := own_new S78 5 0 [] true rfl
  refine ⟨q_toStr (own_bytes S79 (i := 6) rfl f30), ?_⟩
  refine ⟨q_toStr (own_bytes S79 (i := 5) rfl f43), ?_⟩
  have ⟨g80, hp⟩ := gd_inv hp
  refine ⟨q_cat g80, ?_⟩
  refine ⟨⟨again_of (q_cat g80) (avEq_str _), again_of (q_toStr (own_bytes S79 (i := 5) rfl f43)) (avEq_str _), again_of (rfl) (own_same S79 (i := 5) rfl), again_of (q_toStr (own_bytes S79 (i := 6) rfl f30)) (avEq_str _), again_of (rfl) (own_same S79 (i := 6) rfl), again_of (rfl) (SIn.same fb_2), again_of (rfl) (SIn.same fa_2), trivial⟩, ?_⟩
  have S81 := S79.empty
  have S83 : Sep [Frz (fun _ => False) (hpush h73 (mkCells [] 0)), Frz (Low h) h, OwnO 5 (AV.slice (Hp.next h73) 0 0 0 5 true) 0 [], OwnO 5 w69 x65.length L71, Frz G67 k68, OwnO 5 w55 x51.length L57, Frz G53 k54, OwnO 1 w42 x38.length (u8s x38), OwnO 1 w29 x25.length (u8s x25)] (hpush h73 (mkCells [] 0)) := S81.sel [0, 8, 1, 2, 3, 4, 5, 6, 7] (by decide) rfl
  obtain ⟨G84, uG84, vG84, sG84⟩ := Sep.mergeX S83
  obtain ⟨c86, rc86, lc86, kc86, qc86⟩ := sin_src sG84 (i := 0) rfl (SIn.up vG84 fa_2)
  have ⟨g87, hp⟩ := gd_inv hp
  obtain ⟨e82, qe82, se82⟩ := own_append (bytes := 56) call sG84 (i := 1) rfl (x := wa_1) (m := a.length) (xs := c86) (fun z k => qc86 z k) lc86 kc86 g87 (by omega)
  obtain ⟨L88, rL88, eL88⟩ : ∃ L, Eng.Rows (rP (rZ .i64) (rP (rZ .i64) (rP (rZ .i64) (rP (rZ .i64) rY)))) G84 (hpush h73 (mkCells [] 0)) L a ∧ [] ++ c86 = L := ⟨_, (Rows.append (Rows.up uG84 (own_rows_nil _ _ _)) rc86), rfl⟩
  have S90 : Sep [Frz G84 (hpush h73 (mkCells [] 0)), OwnO 5 e82.v a.length L88, OwnO 5 w69 x65.length L71, Frz G67 k68, OwnO 5 w55 x51.length L57, Frz G53 k54, OwnO 1 w42 x38.length (u8s x38), OwnO 1 w29 x25.length (u8s x25)] e82.h := (by have z := se82; rw [eL88, show 0 + a.length = a.length from by simp] at z; exact z)
  refine ⟨e82, qe82, ?_⟩
  refine ⟨⟨again_of (q_cat g80) (avEq_str _), again_of (q_toStr (own_bytes S90 (i := 6) rfl f43)) (avEq_str _), again_of (rfl) (own_same S90 (i := 6) rfl), again_of (q_toStr (own_bytes S90 (i := 7) rfl f30)) (avEq_str _), again_of (rfl) (own_same S90 (i := 7) rfl), again_of (rfl) (SIn.same (SIn.up vG84 fb_2)), trivial⟩, ?_⟩
  obtain ⟨c92, rc92, lc92, kc92, qc92⟩ := sin_src S90 (i := 0) rfl (SIn.up vG84 fb_2)
  have ⟨g93, hp⟩ := gd_inv hp
  obtain ⟨e91, qe91, se91⟩ := own_append (bytes := 56) call S90 (i := 1) rfl (x := wb_1) (m := b.length) (xs := c92) (fun z k => qc92 z k) lc92 kc92 g93 (by omega)
  obtain ⟨L94, rL94, eL94⟩ : ∃ L, Eng.Rows (rP (rZ .i64) (rP (rZ .i64) (rP (rZ .i64) (rP (rZ .i64) rY)))) G84 (hpush h73 (mkCells [] 0)) L (a ++ b) ∧ L88 ++ c92 = L := ⟨_, (Rows.append rL88 rc92), rfl⟩
  have S96 : Sep [Frz G84 (hpush h73 (mkCells [] 0)), OwnO 5 e91.v ((a ++ b).length) L94, OwnO 5 w69 x65.length L71, Frz G67 k68, OwnO 5 w55 x51.length L57, Frz G53 k54, OwnO 1 w42 x38.length (u8s x38), OwnO 1 w29 x25.length (u8s x25)] e91.h := (by have z := se91; rw [eL94, show a.length + b.length = (a ++ b).length from by simp] at z; exact z)
  refine ⟨e91, qe91, ?_⟩
  refine ⟨⟨again_of (q_cat g80) (avEq_str _), again_of (q_toStr (own_bytes S96 (i := 6) rfl f43)) (avEq_str _), again_of (rfl) (own_same S96 (i := 6) rfl), again_of (q_toStr (own_bytes S96 (i := 7) rfl f30)) (avEq_str _), again_of (rfl) (own_same S96 (i := 7) rfl), trivial⟩, ?_⟩
  have S97 : Sep [OwnO 5 e91.v ((a ++ b).length) L94, Frz G84 (hpush h73 (mkCells [] 0)), OwnO 5 w69 x65.length L71, Frz G67 k68, OwnO 5 w55 x51.length L57, Frz G53 k54, OwnO 1 w42 x38.length (u8s x38), OwnO 1 w29 x25.length (u8s x25)] e91.h := S96.sel [1, 0, 2, 3, 4, 5, 6, 7] (by decide) rfl
  obtain ⟨G98, pG98, uG98, sG98⟩ := own_freezeR (a := (rP (rZ .i64) (rP (rZ .i64) (rP (rZ .i64) (rP (rZ .i64) rY))))) S97 rL94 rfl
  have ⟨x100, hb101, hp⟩ := ob_inv hp
  obtain ⟨v106, h107, q108, w104, e109, f105, S110⟩ := h_encode (SIn.up (Sep.low sG98 (i := 0) rfl) pG98) hb101
  replace e109 := e109.symm
  subst e109
  have S112 := Sep.call sG98 (news := [OwnO 1 w104 x100.length (u8s x100)]) S110
  refine ⟨x100, w104, h107, q108, ?_⟩
  refine ⟨q_toStr (own_bytes S112 (i := 0) rfl f105), ?_⟩
  refine ⟨fun c113 => ?_, fun c113 => ?_⟩
  · have rc113 := c113
    replace c113 := strEq_f (notB_t c113)
    replace hp := ift hp c113
    refine ⟨⟨again_of (congrArg (fun b => OV.ok (AV.bool b)) rc113) (avEq_bool _), again_of (rfl) (avEq_bool _), again_of (q_toStr (own_bytes S112 (i := 0) rfl f105)) (avEq_str _), again_of (q_cat g80) (avEq_str _), again_of (q_toStr (own_bytes S112 (i := 6) rfl f43)) (avEq_str _), again_of (rfl) (own_same S112 (i := 6) rfl), again_of (q_toStr (own_bytes S112 (i := 7) rfl f30)) (avEq_str _), again_of (rfl) (own_same S112 (i := 7) rfl), trivial⟩, ?_⟩
    obtain rfl := Option.some.inj hp
    exact rfl
  have rc113 := c113
  replace c113 := strEq_t (notB_f c113)
  replace hp := iff0 hp (nneO c113)
  have S114 := own_new S112 1 0 [] true rfl
  have S115 := own_new S114 5 0 [] true rfl
  refine ⟨⟨again_of (rfl) (own_same S115 (i := 4) rfl), again_of (rfl) (own_same S115 (i := 6) rfl), again_of (rfl) (own_same S115 (i := 8) rfl), again_of (rfl) (own_same S115 (i := 9) rfl), again_of (congrArg (fun b => OV.ok (AV.bool b)) rc113) (avEq_bool _), again_of (rfl) (avEq_bool _), again_of (q_toStr (own_bytes S115 (i := 2) rfl f105)) (avEq_str _), again_of (q_cat g80) (avEq_str _), again_of (q_toStr (own_bytes S115 (i := 8) rfl f43)) (avEq_str _), again_of (rfl) (own_same S115 (i := 8) rfl), again_of (q_toStr (own_bytes S115 (i := 9) rfl f30)) (avEq_str _), again_of (rfl) (own_same S115 (i := 9) rfl), trivial⟩, ?_⟩
  have ⟨g117, hp⟩ := gd_inv hp
  obtain ⟨e116, qe116, se116⟩ := own_append (bytes := 1) call S115 (i := 1) rfl (x := w29) (m := x25.length) (xs := u8s x25) (fun z k => own_src S115 (i := 9) rfl z k) (own_L S115 (i := 9) rfl) (u8s_cells _) (show (0 + x25.length) * 1 ≤ 70368744177664 by omega) g117
  have S119 : Sep [OwnO 5 (AV.slice (Hp.next (hpush h107 (mkCells [] 0))) 0 0 0 5 true) 0 [], OwnO 1 e116.v x25.length (u8s x25), OwnO 1 w104 x100.length (u8s x100), Frz G98 e91.h, OwnO 5 w69 x65.length L71, Frz G67 k68, OwnO 5 w55 x51.length L57, Frz G53 k54, OwnO 1 w42 x38.length (u8s x38), OwnO 1 w29 x25.length (u8s x25)] e116.h := (by have z := se116; first | (rw [show u8s x25 = u8s [] ++ u8s x25 from by simp [u8s_eq], show (x25 : List Nat).length = 0 + x25.length from by simp]; exact z) | (rw [show (0 + x25.length : Nat) = (x25 : List Nat).length from by simp, show (([] : List AV) ++ (u8s x25) : List AV) = u8s x25 from by simp [u8s_eq]] at z; exact z))
  refine ⟨e116, qe116, ?_⟩
  refine ⟨⟨again_of (rfl) (own_same S119 (i := 4) rfl), again_of (rfl) (own_same S119 (i := 6) rfl), again_of (rfl) (own_same S119 (i := 8) rfl), trivial⟩, ?_⟩
  have ⟨g121, hp⟩ := gd_inv hp
  obtain ⟨e120, qe120, se120⟩ := own_append (bytes := 1) call S119 (i := 1) rfl (x := w42) (m := x38.length) (xs := u8s x38) (fun z k => own_src S119 (i := 8) rfl z k) (own_L S119 (i := 8) rfl) (u8s_cells _) (show (x25.length + x38.length) * 1 ≤ 70368744177664 by omega) g121
  have S123 : Sep [OwnO 5 (AV.slice (Hp.next (hpush h107 (mkCells [] 0))) 0 0 0 5 true) 0 [], OwnO 1 e120.v ((x25 ++ x38).length) (u8s (x25 ++ x38)), OwnO 1 w104 x100.length (u8s x100), Frz G98 e91.h, OwnO 5 w69 x65.length L71, Frz G67 k68, OwnO 5 w55 x51.length L57, Frz G53 k54, OwnO 1 w42 x38.length (u8s x38), OwnO 1 w29 x25.length (u8s x25)] e120.h := (by have z := se120; first | (rw [show u8s (x25 ++ x38) = u8s x25 ++ u8s x38 from by simp [u8s_eq], show (x25 ++ x38 : List Nat).length = x25.length + x38.length from by simp]; exact z) | (rw [show (x25.length + x38.length : Nat) = (x25 ++ x38 : List Nat).length from by simp, show (u8s x25 ++ (u8s x38) : List AV) = u8s (x25 ++ x38) from by simp [u8s_eq]] at z; exact z))
  refine ⟨e120, qe120, ?_⟩
  refine ⟨⟨again_of (rfl) (own_same S123 (i := 4) rfl), again_of (rfl) (own_same S123 (i := 6) rfl), trivial⟩, ?_⟩
  have ⟨x124, hb125, hp⟩ := ob_inv hp
  obtain ⟨v131, h132, q133, w128, L130, G126, k127, e134, f129, S135⟩ := h_decode (own_bin S123 (i := 1) rfl (put_lt f30 f43)) hb125
  replace e134 := e134.symm
  subst e134
  have S137 := Sep.call S123 (news := [OwnO 5 w128 x124.length L130, Frz G126 k127]) S135
  refine ⟨x124, w128, h132, q133, ?_⟩
  refine ⟨⟨again_of (rfl) (own_same S137 (i := 6) rfl), again_of (rfl) (own_same S137 (i := 8) rfl), trivial⟩, ?_⟩
  have S138 : Sep [OwnO 5 w55 x51.length L57, Frz G53 k54, OwnO 5 w128 x124.length L130, Frz G126 k127, OwnO 5 (AV.slice (Hp.next (hpush h107 (mkCells [] 0))) 0 0 0 5 true) 0 [], OwnO 1 e120.v ((x25 ++ x38).length) (u8s (x25 ++ x38)), OwnO 1 w104 x100.length (u8s x100), Frz G98 e91.h, OwnO 5 w69 x65.length L71, Frz G67 k68, OwnO 1 w42 x38.length (u8s x38), OwnO 1 w29 x25.length (u8s x25)] h132 := S137.sel [8, 9, 0, 1, 2, 3, 4, 5, 6, 7, 10, 11] (by decide) rfl
  obtain ⟨G139, pG139, uG139, sG139⟩ := own_freezeR (a := (rP (rZ .i64) (rP (rZ .i64) (rP (rZ .i64) (rP (rZ .i64) rY))))) S138 f56 rfl
  have S141 := sG139.empty
  obtain ⟨G143, uG143, vG143, sG143⟩ := Sep.mergeX S141
  obtain ⟨c145, rc145, lc145, kc145, qc145⟩ := sin_src sG143 (i := 0) rfl (SIn.up vG143 pG139)
  have ⟨g146, hp⟩ := gd_inv hp
  obtain ⟨e142, qe142, se142⟩ := own_append (bytes := 56) call sG143 (i := 3) rfl (x := w55) (m := x51.length) (xs := c145) (fun z k => qc145 z k) lc145 kc145 g146 (by omega)
  obtain ⟨L147, rL147, eL147⟩ : ∃ L, Eng.Rows (rP (rZ .i64) (rP (rZ .i64) (rP (rZ .i64) (rP (rZ .i64) rY)))) G143 h132 L x51 ∧ [] ++ c145 = L := ⟨_, (Rows.append (Rows.up uG143 (own_rows_nil _ _ _)) rc145), rfl⟩
  have S149 : Sep [Frz G143 h132, OwnO 5 w128 x124.length L130, Frz G126 k127, OwnO 5 e142.v x51.length L147, OwnO 1 e120.v ((x25 ++ x38).length) (u8s (x25 ++ x38)), OwnO 1 w104 x100.length (u8s x100), Frz G98 e91.h, OwnO 5 w69 x65.length L71, Frz G67 k68, OwnO 1 w42 x38.length (u8s x38), OwnO 1 w29 x25.length (u8s x25)] e142.h := (by have z := se142; rw [eL147, show 0 + x51.length = x51.length from by simp] at z; exact z)
  refine ⟨e142, qe142, ?_⟩
  refine ⟨⟨again_of (rfl) (own_same S149 (i := 7) rfl), trivial⟩, ?_⟩
  have S150 : Sep [OwnO 5 w69 x65.length L71, Frz G67 k68, Frz G143 h132, OwnO 5 w128 x124.length L130, Frz G126 k127, OwnO 5 e142.v x51.length L147, OwnO 1 e120.v ((x25 ++ x38).length) (u8s (x25 ++ x38)), OwnO 1 w104 x100.length (u8s x100), Frz G98 e91.h, OwnO 1 w42 x38.length (u8s x38), OwnO 1 w29 x25.length (u8s x25)] e142.h := S149.sel [7, 8, 0, 1, 2, 3, 4, 5, 6, 9, 10] (by decide) rfl
  obtain ⟨G151, pG151, uG151, sG151⟩ := own_freezeR (a := (rP (rZ .i64) (rP (rZ .i64) (rP (rZ .i64) (rP (rZ .i64) rY))))) S150 f70 rfl
  have S154 : Sep [Frz G143 h132, Frz G151 e142.h, OwnO 5 w128 x124.length L130, Frz G126 k127, OwnO 5 e142.v x51.length L147, OwnO 1 e120.v ((x25 ++ x38).length) (u8s (x25 ++ x38)), OwnO 1 w104 x100.length (u8s x100), Frz G98 e91.h, OwnO 1 w42 x38.length (u8s x38), OwnO 1 w29 x25.length (u8s x25)] e142.h := sG151.sel [1, 0, 2, 3, 4, 5, 6, 7, 8, 9] (by decide) rfl
  obtain ⟨G155, uG155, vG155, sG155⟩ := Sep.mergeX S154
  obtain ⟨c157, rc157, lc157, kc157, qc157⟩ := sin_src sG155 (i := 0) rfl (SIn.up vG155 pG151)
  have ⟨g158, hp⟩ := gd_inv hp
  obtain ⟨e153, qe153, se153⟩ := own_append (bytes := 56) call sG155 (i := 3) rfl (x := w69) (m := x65.length) (xs := c157) (fun z k => qc157 z k) lc157 kc157 g158 (by omega)
  obtain ⟨L159, rL159, eL159⟩ : ∃ L, Eng.Rows (rP (rZ .i64) (rP (rZ .i64) (rP (rZ .i64) (rP (rZ .i64) rY)))) G155 e142.h L (x51 ++ x65) ∧ L147 ++ c157 = L := ⟨_, (Rows.append (Rows.up uG155 rL147) rc157), rfl⟩
  have S161 : Sep [Frz G155 e142.h, OwnO 5 w128 x124.length L130, Frz G126 k127, OwnO 5 e153.v ((x51 ++ x65).length) L159, OwnO 1 e120.v ((x25 ++ x38).length) (u8s (x25 ++ x38)), OwnO 1 w104 x100.length (u8s x100), Frz G98 e91.h, OwnO 1 w42 x38.length (u8s x38), OwnO 1 w29 x25.length (u8s x25)] e153.h := (by have z := se153; rw [eL159, show x51.length + x65.length = (x51 ++ x65).length from by simp] at z; exact z)
  refine ⟨e153, qe153, ?_⟩
  have S162 : Sep [OwnO 5 w128 x124.length L130, Frz G126 k127, Frz G155 e142.h, OwnO 5 e153.v ((x51 ++ x65).length) L159, OwnO 1 e120.v ((x25 ++ x38).length) (u8s (x25 ++ x38)), OwnO 1 w104 x100.length (u8s x100), Frz G98 e91.h, OwnO 1 w42 x38.length (u8s x38), OwnO 1 w29 x25.length (u8s x25)] e153.h := S161.sel [1, 2, 0, 3, 4, 5, 6, 7, 8] (by decide) rfl
  obtain ⟨G163, pG163, uG163, sG163⟩ := own_freezeR (a := (rP (rZ .i64) (rP (rZ .i64) (rP (rZ .i64) (rP (rZ .i64) rY))))) S162 f129 rfl
  have S165 : Sep [OwnO 5 e153.v ((x51 ++ x65).length) L159, Frz G155 e142.h, Frz G163 e153.h, OwnO 1 e120.v ((x25 ++ x38).length) (u8s (x25 ++ x38)), OwnO 1 w104 x100.length (u8s x100), Frz G98 e91.h, OwnO 1 w42 x38.length (u8s x38), OwnO 1 w29 x25.length (u8s x25)] e153.h := sG163.sel [2, 1, 0, 3, 4, 5, 6, 7] (by decide) rfl
  obtain ⟨G166, pG166, uG166, sG166⟩ := own_freezeR (a := (rP (rZ .i64) (rP (rZ .i64) (rP (rZ .i64) (rP (rZ .i64) rY))))) S165 rL159 rfl
  have ⟨x168, hb169, hp⟩ := ob_inv hp
  obtain ⟨v172, h173, q174, e175, S176⟩ := h_samesteps (SIn.up (Sep.low sG163 (i := 0) rfl) pG163) (SIn.up (Sep.low sG166 (i := 0) rfl) pG166) hb169
  replace e175 := e175.symm
  subst e175
  have S178 := Sep.call sG166 (news := []) S176
  refine ⟨x168, h173, q174, ?_⟩
  refine ⟨fun c179 => ?_, fun c179 => ?_⟩
  · have rc179 := c179
    replace c179 := notB_t c179
    replace hp := ift hp c179
    refine ⟨⟨again_of (congrArg (fun b => OV.ok (AV.bool b)) rc179) (avEq_bool _), again_of (rfl) (avEq_bool _), trivial⟩, ?_⟩
    obtain rfl := Option.some.inj hp
    exact rfl
  have rc179 := c179
  replace c179 := notB_f c179
  replace hp := iff0 hp (nbT c179)
  refine ⟨⟨again_of (congrArg (fun b => OV.ok (AV.bool b)) rc179) (avEq_bool _), again_of (rfl) (avEq_bool _), trivial⟩, ?_⟩
  refine ⟨own_len S178 (i := 6) rfl, ?_⟩
  refine ⟨fun c180 => ?_, fun c180 => ?_⟩
  · replace c180 := eqI_t c180
    replace hp := ift hp c180
    refine ⟨sin_len (SIn.up uG166 (SIn.up uG155 (SIn.up vG143 pG139))), ?_⟩
    refine ⟨fun c181 => ?_, fun c181 => ?_⟩
    · replace c181 := eqI_t c181
      replace hp := ift hp c181
      obtain rfl := Option.some.inj hp
      exact rfl
    replace c181 := eqI_f c181
    replace hp := iff0 hp (c181)
    obtain rfl := Option.some.inj hp
    exact rfl
  replace c180 := eqI_f c180
  replace hp := iff0 hp (c180)
  refine ⟨i_conv (Nat.lt_of_lt_of_le fcut_1 (by decide)), ?_⟩
  refine ⟨own_len S178 (i := 6) rfl, ?_⟩
  refine ⟨q_rem c180, ?_⟩
  obtain ⟨G181, pG181, sG181⟩ := own_freeze S178 (i := 6) rfl f30
  have ⟨g183, hp⟩ := gd_inv hp
  refine ⟨q_sliceTo (l := x25) (BIn.now sG181 (i := 6) rfl pG181) g183, ?_⟩
  have b184 := BIn.to (l := x25) (hi := cut % x25.length) pG181 g183
  have ⟨x185, hb186, hp⟩ := ob_inv hp
  obtain ⟨v192, h193, q194, w189, L191, G187, k188, e195, f190, S196⟩ := h_decode (BIn.up (Sep.low sG181 (i := 6) rfl) b184) hb186
  replace e195 := e195.symm
  subst e195
  have S198 := Sep.call sG181 (news := [OwnO 5 w189 x185.length L191, Frz G187 k188]) S196
  refine ⟨x185, w189, h193, q194, ?_⟩
  refine ⟨own_len S198 (i := 0) rfl, ?_⟩
  refine ⟨sin_len (SIn.up uG166 (SIn.up uG155 (SIn.up vG143 pG139))), ?_⟩
  refine ⟨fun c199 => ?_, fun c199 => ?_⟩
  · replace c199 := ltI_t c199
    replace hp := ift hp c199
    obtain rfl := Option.some.inj hp
    exact rfl
  replace c199 := ltI_f c199
  replace hp := iff0 hp (nltO c199)
  obtain rfl := Option.some.inj hp
  exact rfl
end Go.Proofs.YtgimoeiddjepnaaGreatDoor
end
section
set_option linter.unusedVariables false
set_option linter.unusedSimpArgs false
namespace Go.Proofs.YtgimoeiddjepnaaGreatDoor
open Go Eng
abbrev Stp := Int × Int × Int × Int × List Nat
inductive Good : Stp → Prop
  | b (s : Nat) (l : List Nat) (hs : s < 4) (hl : l.length ≤ 65535) (hb : ∀ x ∈ l, x < 256) : Good (1, (s : Int), 0, 0, l)
  | p (m f : Nat) (hm : m < 8) (hf : f ≤ 65535) : Good (2, 0, (m : Int), (f : Int), [])
  | t : Good (3, 0, 0, 0, [])
def encX (x : Stp) : List Nat :=
  if x.1 = 1 then [3 * x.2.1.toNat, x.2.2.2.2.length / 256, x.2.2.2.2.length % 256] ++ x.2.2.2.2
  else if x.1 = 2 then [3 * x.2.2.1.toNat + 1, x.2.2.2.1.toNat / 256, x.2.2.2.1.toNat % 256]
  else [2]
def dec1 : List Nat → Option (Stp × List Nat)
  | [] => none
  | k :: t =>
    if k % 3 = 0 then match t with
      | a :: b :: u => if u.length < a * 256 + b then none else some ((1, ((k / 3 % 4 : Nat) : Int), 0, 0, u.take (a * 256 + b)), u.drop (a * 256 + b))
      | _ => none
    else if k % 3 = 1 then match t with
      | a :: b :: u => some ((2, 0, ((k / 3 % 8 : Nat) : Int), ((a * 256 + b : Nat) : Int), []), u)
      | _ => none
    else some ((3, 0, 0, 0, []), t)
theorem num_or {a b : Nat} (hb : b < 256) : a * 2 ^ 8 ||| b = a * 256 + b := by
  have := Nat.two_pow_add_eq_or_of_lt (i := 8) hb a
  rw [Nat.mul_comm a]; omega
theorem bytes_t {cb : List Nat} {n : Nat} (h : n ≤ cb.length) (hc : cb.length ≤ 100000) : bytes_p cb true n = some (cb.drop n, true, cb.take n) := by
  unfold bytes_p
  rw [if_neg (by decide), if_neg (by omega), gd_t (by rw [List.length_take]; omega)]
theorem bytes_f {cb : List Nat} {n : Nat} (h : cb.length < n) : bytes_p cb true n = some (cb, false, []) := by
  unfold bytes_p
  rw [if_neg (by decide), if_pos h]
theorem bytes_n {cb : List Nat} {n : Nat} : bytes_p cb false n = some (cb, false, []) := by
  unfold bytes_p
  rw [if_pos rfl]
theorem num_t {a b : Nat} {u : List Nat} (ha : a < 256) (hb : b < 256) (hc : u.length ≤ 90000) : number_p (a :: b :: u) true = some (u, true, a * 256 + b) := by
  unfold number_p
  rw [bytes_t (by simp) (by simp; omega), ob_some]
  dsimp only
  simp only [List.take_succ_cons, List.take_zero, List.drop_succ_cons, List.drop_zero, List.length_cons, List.length_nil, List.getD_cons_zero, List.getD_cons_succ]
  rw [if_neg (show ¬ true = false by decide), gd_t (show 0 < 0 + 1 + 1 by decide), gd_t (show a * 2 ^ 8 < 9223372036854775808 by omega), gd_t (show 1 < 0 + 1 + 1 by decide), num_or hb]
theorem num_f {cb : List Nat} (h : cb.length < 2) : number_p cb true = some (cb, false, 0) := by
  unfold number_p
  rw [bytes_f h, ob_some]; rfl
theorem stepHead {k : Nat} {t : List Nat} (hk : k < 256) (ht : t.length ≤ 80000) : step_p (k :: t) true =
    if k % 3 + 1 = 1 then ob (number_p t true) fun x => ob (bytes_p x.1 x.2.1 x.2.2) fun y => some (y.1, y.2.1, ((k : Int) % 3 + 1, (k : Int) / 3 % 4, 0, 0, y.2.2))
    else if k % 3 + 1 = 2 then ob (number_p t true) fun x => some (x.1, x.2.1, ((k : Int) % 3 + 1, 0, (k : Int) / 3 % 8, (x.2.2 : Int), []))
    else some (t, true, ((k : Int) % 3 + 1, 0, 0, 0, [])) := by
  have e1 : bytes_p (k :: t) true 1 = some (t, true, [k]) := bytes_t (by simp) (by simp; omega)
  unfold step_p
  rw [e1, ob_some]
  dsimp only
  rw [if_neg (show ¬ true = false by decide), gd_t (show 0 < [k].length by simp), gd_t (show [k].getD 0 0 % 3 + 1 < 9223372036854775808 by show k % 3 + 1 < _; omega)]
  rfl
theorem step_eq {cb : List Nat} (h : 0 < cb.length) (hb : ∀ x ∈ cb, x < 256) (hc : cb.length ≤ 80000) :
    (∃ x u, dec1 cb = some (x, u) ∧ step_p cb true = some (u, true, x)) ∨ (dec1 cb = none ∧ ∃ c x, step_p cb true = some (c, false, x)) := by
  cases cb with
  | nil => cases h
  | cons k t =>
    have hk := hb k (by simp)
    have ht : t.length ≤ 80000 := by simp at hc; omega
    rw [stepHead hk ht]
    by_cases h0 : k % 3 = 0
    · rw [if_pos (show k % 3 + 1 = 1 by omega)]
      match t, ht with
      | [], _ => exact .inr ⟨by simp [dec1, h0], _, _, by rw [num_f (by simp), ob_some, bytes_n, ob_some]⟩
      | [a], _ => exact .inr ⟨by simp [dec1, h0], _, _, by rw [num_f (by simp), ob_some, bytes_n, ob_some]⟩
      | a :: b :: u, ht =>
        have hu : u.length ≤ 80000 := by simp at ht; omega
        rw [num_t (hb a (by simp)) (hb b (by simp)) (by omega), ob_some]
        by_cases hl : u.length < a * 256 + b
        · exact .inr ⟨by simp [dec1, h0, hl], _, _, by rw [bytes_f hl, ob_some]⟩
        · refine .inl ⟨(1, ((k / 3 % 4 : Nat) : Int), 0, 0, u.take (a * 256 + b)), u.drop (a * 256 + b), by simp [dec1, h0, hl], ?_⟩
          dsimp only
          rw [bytes_t (by omega) (by omega), ob_some]
          try dsimp only
          rw [show (k : Int) % 3 + 1 = 1 by omega, show (k : Int) / 3 % 4 = ((k / 3 % 4 : Nat) : Int) by omega]
    · rw [if_neg (show ¬ k % 3 + 1 = 1 by omega)]
      by_cases h1 : k % 3 = 1
      · rw [if_pos (show k % 3 + 1 = 2 by omega)]
        match t, ht with
        | [], _ => exact .inr ⟨by simp [dec1, h0, h1], _, _, by rw [num_f (by simp), ob_some]⟩
        | [a], _ => exact .inr ⟨by simp [dec1, h0, h1], _, _, by rw [num_f (by simp), ob_some]⟩
        | a :: b :: u, ht =>
          have hu : u.length ≤ 80000 := by simp at ht; omega
          rw [num_t (hb a (by simp)) (hb b (by simp)) (by omega), ob_some]
          refine .inl ⟨(2, 0, ((k / 3 % 8 : Nat) : Int), ((a * 256 + b : Nat) : Int), []), u, by simp [dec1, h0, h1], ?_⟩
          try dsimp only
          rw [show (k : Int) % 3 + 1 = 2 by omega, show (k : Int) / 3 % 8 = ((k / 3 % 8 : Nat) : Int) by omega]
      · rw [if_neg (show ¬ k % 3 + 1 = 2 by omega)]
        refine .inl ⟨(3, 0, 0, 0, []), t, by simp [dec1, h0, h1], ?_⟩
        rw [show (k : Int) % 3 + 1 = 3 by omega]
theorem dec1_good {cb u : List Nat} {x : Stp} (hb : ∀ x ∈ cb, x < 256) (h : dec1 cb = some (x, u)) : Good x ∧ (encX x).length + u.length = cb.length ∧ (∀ y ∈ u, y < 256) := by
  cases cb with
  | nil => cases h
  | cons k t =>
    have hk := hb k (by simp)
    by_cases h0 : k % 3 = 0
    · rcases t with _ | ⟨a, _ | ⟨b, v⟩⟩
      · simp [dec1, h0] at h
      · simp [dec1, h0] at h
      · have ha := hb a (by simp)
        have hb' := hb b (by simp)
        by_cases hl : v.length < a * 256 + b
        · simp [dec1, h0, hl] at h
        · have e : dec1 (k :: a :: b :: v) = some ((1, ((k / 3 % 4 : Nat) : Int), 0, 0, v.take (a * 256 + b)), v.drop (a * 256 + b)) := by simp [dec1, h0, hl]
          rw [e] at h
          cases h
          refine ⟨.b _ _ (Nat.mod_lt _ (by decide)) (by rw [List.length_take]; omega) (fun y hy => hb y (by have := List.mem_of_mem_take hy; simp [this])), ?_, fun y hy => hb y (by have := List.mem_of_mem_drop hy; simp [this])⟩
          simp [encX, List.length_take, List.length_drop]; omega
    · by_cases h1 : k % 3 = 1
      · rcases t with _ | ⟨a, _ | ⟨b, v⟩⟩
        · simp [dec1, h0, h1] at h
        · simp [dec1, h0, h1] at h
        · have ha := hb a (by simp)
          have hb' := hb b (by simp)
          have e : dec1 (k :: a :: b :: v) = some ((2, 0, ((k / 3 % 8 : Nat) : Int), ((a * 256 + b : Nat) : Int), []), v) := by simp [dec1, h0, h1]
          rw [e] at h
          cases h
          refine ⟨.p _ _ (Nat.mod_lt _ (by decide)) (by omega), ?_, fun y hy => hb y (by simp [hy])⟩
          simp [encX]; omega
      · have e : dec1 (k :: t) = some ((3, 0, 0, 0, []), t) := by simp [dec1, h0, h1]
        rw [e] at h
        cases h
        refine ⟨.t, ?_, fun y hy => hb y (by simp [hy])⟩
        simp [encX]; omega
theorem enc_lt {x : Stp} (h : Good x) : ∀ y ∈ encX x, y < 256 := by
  cases h with
  | b s l hs hl hb =>
    intro y hy
    simp [encX] at hy
    rcases hy with h | h | h | h
    · omega
    · omega
    · omega
    · exact hb y h
  | p m f hm hf => intro y hy; simp [encX] at hy; omega
  | t => intro y hy; simp [encX] at hy; omega
theorem dec_enc {x : Stp} (h : Good x) (v : List Nat) : dec1 (encX x ++ v) = some (x, v) := by
  cases h with
  | b s l hs hl hb =>
    have e : encX (1, (s : Int), 0, 0, l) ++ v = 3 * s :: l.length / 256 :: l.length % 256 :: (l ++ v) := by simp [encX]
    have e2 : l.length / 256 * 256 + l.length % 256 = l.length := by omega
    have e3 : 3 * s / 3 % 4 = s := by omega
    have e4 : 3 * s % 3 = 0 := by omega
    rw [e]
    simp [dec1, e2, e3]
    omega
  | p m f hm hf =>
    have e : encX (2, 0, (m : Int), (f : Int), []) ++ v = (3 * m + 1) :: f / 256 :: f % 256 :: v := by simp [encX]
    have e2 : f / 256 * 256 + f % 256 = f := by omega
    have e3 : (3 * m + 1) / 3 % 8 = m := by omega
    have e4 : (3 * m + 1) % 3 = 1 := by omega
    rw [e]
    have : dec1 ((3 * m + 1) :: f / 256 :: f % 256 :: v) = some ((2, 0, (((3 * m + 1) / 3 % 8 : Nat) : Int), ((f / 256 * 256 + f % 256 : Nat) : Int), []), v) := by simp [dec1, e4]
    rw [this, e2, e3]
  | t => rfl
theorem enc_pos (x : Stp) : 0 < (encX x).length := by
  unfold encX
  split
  · simp
  · split <;> simp
def decF : Nat → List Nat → List Stp
  | 0, _ => []
  | m + 1, cb => match dec1 cb with
    | none => []
    | some (x, u) => x :: decF m u
theorem dec_l : ∀ (m : Nat) (acc : List Stp) (cb : List Nat), cb.length < m → (∀ x ∈ cb, x < 256) → acc.length + cb.length ≤ 80000 → ∃ c o, decode_l1 m acc cb true = some (acc ++ decF m cb, c, o)
  | 0, acc, cb, h, _, _ => absurd h (Nat.not_lt_zero _)
  | m + 1, acc, cb, h, hb, hl => by
    rw [decode_l1]
    by_cases h0 : 0 < cb.length
    · rw [if_pos h0]
      rcases step_eq h0 hb (by omega) with ⟨x, u, hd, hs⟩ | ⟨hd, c, x, hs⟩
      · obtain ⟨g1, g2, g3⟩ := dec1_good hb hd
        have := enc_pos x
        rw [hs, ob_some]
        dsimp only
        rw [if_neg (show ¬ true = false by decide), gd_t (show (acc.length + 1) * 56 ≤ 70368744177664 by omega)]
        obtain ⟨c, o, ih⟩ := dec_l m (acc ++ [x]) u (by omega) g3 (by simp; omega)
        refine ⟨c, o, ?_⟩
        show decode_l1 m (acc ++ [x]) u true = _
        rw [ih]
        simp [decF, hd]
      · rw [hs, ob_some]
        refine ⟨c, false, ?_⟩
        simp [decF, hd]
    · rw [if_neg h0]
      obtain rfl := List.length_eq_zero_iff.1 (Nat.eq_zero_of_not_pos h0)
      exact ⟨[], true, by simp [decF, dec1]⟩
theorem decode_eq {cb : List Nat} (hb : ∀ x ∈ cb, x < 256) (hl : cb.length ≤ 80000) : decode_p cb = some (decF 90000 cb) := by
  obtain ⟨c, o, h⟩ := dec_l 90000 [] cb (by omega) hb (by simp; omega)
  unfold decode_p
  rw [h, ob_some]; rfl
theorem decF_good : ∀ (m : Nat) (cb : List Nat), (∀ x ∈ cb, x < 256) → (∀ x ∈ decF m cb, Good x) ∧ ((decF m cb).flatMap encX).length ≤ cb.length
  | 0, cb, _ => ⟨by simp [decF], by simp [decF]⟩
  | m + 1, cb, hb => by
    cases hd : dec1 cb with
    | none => simp [decF, hd]
    | some p =>
      obtain ⟨x, u⟩ := p
      obtain ⟨g1, g2, g3⟩ := dec1_good hb hd
      obtain ⟨i1, i2⟩ := decF_good m u g3
      simp only [decF, hd]
      refine ⟨fun y hy => ?_, ?_⟩
      · rcases List.mem_cons.1 hy with h | h
        · rw [h]; exact g1
        · exact i1 y h
      · rw [List.flatMap_cons, List.length_append]; omega
theorem decF_enc : ∀ (l : List Stp) (m : Nat), l.length < m → (∀ x ∈ l, Good x) → decF m (l.flatMap encX) = l
  | [], m, h, _ => by
    cases m with
    | zero => rfl
    | succ m => rfl
  | x :: l, m, h, hg => by
    obtain ⟨m, rfl⟩ : ∃ k, m = k + 1 := ⟨m - 1, by omega⟩
    rw [List.flatMap_cons, decF, dec_enc (hg x (by simp))]
    show x :: decF m (l.flatMap encX) = x :: l
    rw [decF_enc l m (by simpa using h) fun y hy => hg y (by simp [hy])]
theorem flat_lt {l : List Stp} (hg : ∀ x ∈ l, Good x) : ∀ y ∈ l.flatMap encX, y < 256 := fun y hy => by
  obtain ⟨x, hx, h⟩ := List.mem_flatMap.1 hy
  exact enc_lt (hg x hx) y h
theorem flat_len (l : List Stp) : l.length ≤ (l.flatMap encX).length := by
  induction l with
  | nil => simp
  | cons x l ih =>
    have := enc_pos x
    rw [List.flatMap_cons, List.length_append, List.length_cons]; omega
theorem w64 {n : Nat} (h : n < 9223372036854775808) : wrapA .i64 (Int.ofNat n) = Int.ofNat n := wrap_i64 h
theorem one_eq {x : Stp} (h : Good x) : one_p x = some (encX x) := by
  cases h with
  | b s l hs hl hb =>
    unfold one_p num2_p encX
    rw [if_pos rfl, if_pos rfl, gd_t (by simp), ob_some]
    have e1 : (wrapA .i64 (Int.mul (Int.ofNat 3) (s : Int)) % 256).toNat = 3 * s := by
      rw [show Int.mul (Int.ofNat 3) (s : Int) = Int.ofNat (3 * s) from rfl, w64 (by omega)]
      simp only [Int.ofNat_eq_natCast]; omega
    dsimp only
    have e2 : ((l.length : Int) / 256 % 256).toNat = l.length / 256 := by omega
    have e3 : ((l.length : Int) % 256).toNat = l.length % 256 := by omega
    rw [e1, e2, e3, gd_t (by simp; omega)]
    simp
  | p m f hm hf =>
    unfold one_p num2_p encX
    rw [if_neg (show ¬ ((2 : Int) = 1) by decide), if_pos rfl, if_neg (show ¬ ((2 : Int) = 1) by decide), if_pos rfl, gd_t (by simp), ob_some]
    have e1 : (wrapA .i64 (Int.add (wrapA .i64 (Int.mul (Int.ofNat 3) (m : Int))) (Int.ofNat 1)) % 256).toNat = 3 * m + 1 := by
      rw [show Int.mul (Int.ofNat 3) (m : Int) = Int.ofNat (3 * m) from rfl, w64 (by omega), show Int.add (Int.ofNat (3 * m)) (Int.ofNat 1) = Int.ofNat (3 * m + 1) from rfl, w64 (by omega)]
      simp only [Int.ofNat_eq_natCast]; omega
    dsimp only
    have e2 : ((f : Int) / 256 % 256).toNat = f / 256 := by omega
    have e3 : ((f : Int) % 256).toNat = f % 256 := by omega
    rw [e1, e2, e3]
    simp
  | t => rfl
theorem equal_l (l : List Nat) (h : l.length < 90000) : ∀ (m i : Nat) (b : Bool), l.length - i < m → equal_l1 l l l.length m b i = some (LO.ex (b, max i l.length))
  | 0, i, b, hm => absurd hm (Nat.not_lt_zero _)
  | m + 1, i, b, hm => by
    rw [equal_l1]
    by_cases hi : i < l.length
    · rw [if_pos hi, gd_t hi, gd_t hi, if_neg (by simp), gd_t (by omega), equal_l l h m (i + 1) b (by omega)]
      congr 3; omega
    · rw [if_neg hi]; congr 3; omega
theorem same_self {x : Stp} (h : x.2.2.2.2.length < 90000) : same_p x x = some true := by
  unfold same_p equal_p
  rw [if_pos rfl, if_pos rfl, if_pos rfl, if_pos rfl, if_neg (by simp), equal_l _ h _ _ _ (by omega)]
  rfl
theorem good_len {x : Stp} (h : Good x) : x.2.2.2.2.length ≤ 65535 := by cases h <;> first | assumption | simp
theorem dec_one {x : Stp} (h : Good x) : decode_p (encX x) = some [x] := by
  have h1 := good_len h
  have h2 : (encX x).length ≤ 70000 := by
    unfold encX
    split
    · simp; omega
    · split <;> simp
  rw [decode_eq (enc_lt h) (by omega)]
  have := decF_enc [x] 90000 (by simp) (by simpa using h)
  rw [List.flatMap_cons, List.flatMap_nil, List.append_nil] at this
  rw [this]
theorem ss_l (l : List Stp) (h : l.length < 90000) : ∀ (m i : Nat) (b : Bool), l.length - i < m → samesteps_l1 l l m b i = some (LO.ex (b, max i l.length))
  | 0, i, b, hm => absurd hm (Nat.not_lt_zero _)
  | m + 1, i, b, hm => by
    rw [samesteps_l1]
    by_cases hi : i < l.length
    · rw [if_pos hi, gd_t hi, if_neg (by simp), if_neg (by simp), if_neg (by simp), if_neg (by simp), if_neg (by simp), gd_t (by omega), ss_l l h m (i + 1) b (by omega)]
      congr 3; omega
    · rw [if_neg hi]; congr 3; omega
theorem samesteps_self {l : List Stp} (h : l.length < 90000) : samesteps_p l l = some true := by
  unfold samesteps_p
  rw [if_neg (by simp), ss_l l h _ _ _ (by omega)]
  rfl
end Go.Proofs.YtgimoeiddjepnaaGreatDoor
end
section
set_option linter.unusedVariables false
set_option linter.unusedSimpArgs false
namespace Go.Proofs.YtgimoeiddjepnaaGreatDoor
open Go Eng
open Classical in
noncomputable def gF (l : List Stp) : List Stp := l.filter fun x => decide (Good x)
theorem gF_good (l : List Stp) : ∀ x ∈ gF l, Good x := fun x hx => by
  unfold gF at hx
  simpa using (List.mem_filter.1 hx).2
theorem gF_append (l m : List Stp) : gF (l ++ m) = gF l ++ gF m := by unfold gF; rw [List.filter_append]
theorem gF_nil : gF [] = [] := rfl
theorem gF_t {x : Stp} (h : Good x) : gF [x] = [x] := by unfold gF; simp [h]
theorem gF_f {x : Stp} (h : ¬ Good x) : gF [x] = [] := by unfold gF; simp [h]
theorem gF_len (l : List Stp) : (gF l).length ≤ l.length := List.length_filter_le _ _
theorem equal_g (l m : List Nat) (h : l.length < 90000) (hm : l.length = m.length) : ∀ (f i : Nat) (b : Bool), l.length - i < f → ∃ o, equal_l1 l m l.length f b i = some o ∧ (∀ r, o = LO.rt r → r = false) ∧ (∀ s, o = LO.ex s → ∀ j, i ≤ j → j < l.length → l.getD j 0 = m.getD j 0)
  | 0, i, b, hf => absurd hf (Nat.not_lt_zero _)
  | f + 1, i, b, hf => by
    rw [equal_l1]
    by_cases hi : i < l.length
    · rw [if_pos hi, gd_t hi, gd_t (by omega)]
      by_cases he : l.getD i 0 ≠ m.getD i 0
      · rw [if_pos he]
        exact ⟨_, rfl, fun r hr => by cases hr; rfl, fun s hs => by cases hs⟩
      · rw [if_neg he, gd_t (by omega)]
        obtain ⟨o, e1, e2, e3⟩ := equal_g l m h hm f (i + 1) b (by omega)
        refine ⟨o, e1, e2, fun s hs j h1 h2 => ?_⟩
        by_cases hj : j = i
        · subst hj; exact Decidable.not_not.1 he
        · exact e3 s hs j (by omega) h2
    · rw [if_neg hi]
      exact ⟨_, rfl, fun r hr => (by cases hr), fun s _ j h1 h2 => (by omega)⟩
theorem equal_r (l m : List Nat) (h : l.length < 90000) : ∃ b, equal_p l m = some b ∧ (b = true → l = m) := by
  unfold equal_p
  by_cases hm : l.length ≠ m.length
  · rw [if_pos hm]; exact ⟨false, rfl, fun h => by cases h⟩
  · have hm := Decidable.not_not.1 hm
    rw [if_neg (fun h => h hm)]
    obtain ⟨o, e1, e2, e3⟩ := equal_g l m h hm 90000 0 false (by omega)
    rw [e1, ob_some]
    cases o with
    | rt r =>
      rw [LO.on_rt]
      exact ⟨r, rfl, fun hr => by have := e2 r rfl; rw [hr] at this; cases this⟩
    | ex s =>
      rw [LO.on_ex]
      refine ⟨true, rfl, fun _ => List.ext_getElem hm fun j h1 h2 => ?_⟩
      have := e3 s rfl j (Nat.zero_le _) h1
      rw [List.getD_eq_getElem?_getD, List.getD_eq_getElem?_getD, List.getElem?_eq_getElem h1, List.getElem?_eq_getElem h2] at this
      exact this
theorem same_r (x y : Stp) (h : x.2.2.2.2.length < 90000) : ∃ b, same_p x y = some b ∧ (b = true → x = y) := by
  obtain ⟨x1, x2, x3, x4, x5⟩ := x
  obtain ⟨y1, y2, y3, y4, y5⟩ := y
  unfold same_p
  dsimp only at h ⊢
  by_cases h1 : x1 = y1
  · by_cases h2 : x2 = y2
    · by_cases h3 : x3 = y3
      · by_cases h4 : x4 = y4
        · obtain ⟨b, e1, e2⟩ := equal_r x5 y5 h
          rw [if_pos h1, if_pos h2, if_pos h3, if_pos h4, e1, ob_some]
          cases b with
          | true => rw [if_pos rfl]; exact ⟨true, rfl, fun _ => by rw [h1, h2, h3, h4, e2 rfl]⟩
          | false => rw [if_neg (by decide)]; exact ⟨false, rfl, fun h => by cases h⟩
        · rw [if_pos h1, if_pos h2, if_pos h3, if_neg h4]; exact ⟨false, rfl, fun h => by cases h⟩
      · rw [if_pos h1, if_pos h2, if_neg h3]; exact ⟨false, rfl, fun h => by cases h⟩
    · rw [if_pos h1, if_neg h2]; exact ⟨false, rfl, fun h => by cases h⟩
  · rw [if_neg h1]; exact ⟨false, rfl, fun h => by cases h⟩
theorem toNat_lt (z : Int) : (z % 256).toNat < 256 := by omega
theorem one_any (x : Stp) (hb : ∀ y ∈ x.2.2.2.2, y < 256) (hl : x.2.2.2.2.length ≤ 65535) : ∃ y, one_p x = some y ∧ (∀ z ∈ y, z < 256) ∧ y.length ≤ 70000 := by
  unfold one_p num2_p
  by_cases h1 : x.1 = 1
  · rw [if_pos h1, gd_t (by simp), ob_some, gd_t (by simp; omega)]
    refine ⟨_, rfl, fun z hz => ?_, by simp; omega⟩
    simp only [List.mem_append, List.mem_cons, List.not_mem_nil, or_false] at hz
    rcases hz with (h | h | h) | h
    · rw [h]; exact toNat_lt _
    · rw [h]; exact toNat_lt _
    · rw [h]; exact toNat_lt _
    · exact hb z h
  · rw [if_neg h1]
    by_cases h2 : x.1 = 2
    · rw [if_pos h2, gd_t (by simp), ob_some]
      refine ⟨_, rfl, fun z hz => ?_, by simp⟩
      simp only [List.mem_append, List.mem_cons, List.not_mem_nil, or_false] at hz
      rcases hz with h | h | h
      · rw [h]; exact toNat_lt _
      · rw [h]; exact toNat_lt _
      · rw [h]; exact toNat_lt _
    · rw [if_neg h2]
      by_cases h3 : x.1 = 3
      · rw [if_pos h3]; exact ⟨_, rfl, by simp, by simp⟩
      · rw [if_neg h3]; exact ⟨_, rfl, by simp, by simp⟩
theorem enc_g (l : List Stp) (hb : ∀ x ∈ l, ∀ y ∈ x.2.2.2.2, y < 256) (hl : l.length ≤ 80000) (hf : ((gF l).flatMap encX).length ≤ 80000) : ∀ (m i : Nat) (acc : List Nat), l.length - i < m → acc = (gF (l.take i)).flatMap encX → i ≤ l.length → encode_l1 l l.length m acc i = some ((gF l).flatMap encX, l.length)
  | 0, i, acc, hm, _, _ => absurd hm (Nat.not_lt_zero _)
  | m + 1, i, acc, hm, hacc, hi => by
    rw [encode_l1]
    by_cases h : i < l.length
    · have hx : l.getD i default = l[i] := by rw [List.getD_eq_getElem?_getD, List.getElem?_eq_getElem h]; rfl
      have htk : gF (l.take (i + 1)) = gF (l.take i) ++ gF [l[i]] := by rw [List.take_succ_eq_append_getElem h, gF_append]
      have hbx := hb l[i] (List.getElem_mem h)
      have skip : ¬ Good l[i] → (gd (i + 1 < 9223372036854775808) (encode_l1 l l.length m acc (i + 1))) = some ((gF l).flatMap encX, l.length) := fun hg => by
        rw [gd_t (by omega)]
        exact enc_g l hb hl hf m (i + 1) acc (by omega) (by rw [htk, gF_f hg, List.append_nil]; exact hacc) (by omega)
      rw [if_pos h, gd_t h, hx]
      by_cases hbig : 65535 < l[i].2.2.2.2.length
      · rw [if_pos hbig]
        exact skip fun hg => by have := good_len hg; omega
      · rw [if_neg hbig, show (l[i].1, l[i].2.1, l[i].2.2.1, l[i].2.2.2.1, l[i].2.2.2.2) = l[i] from rfl]
        obtain ⟨y, y1, y2, y3⟩ := one_any l[i] hbx (by omega)
        rw [y1, ob_some, decode_eq y2 (by omega), ob_some]
        by_cases hlen : (decF 90000 y).length = 1
        · obtain ⟨z, hz⟩ := List.length_eq_one_iff.1 hlen
          have zg : Good z := (decF_good 90000 y y2).1 z (by rw [hz]; simp)
          have zl := good_len zg
          rw [if_pos hlen, gd_t (by omega), hz]
          show (ob (same_p z l[i]) _ : Option _) = _
          obtain ⟨b, b1, b2⟩ := same_r z l[i] (by omega)
          rw [b1, ob_some]
          cases b with
          | true =>
            have e := b2 rfl
            have g : Good l[i] := e ▸ zg
            have ey : y = encX l[i] := Option.some.inj (y1.symm.trans (one_eq g))
            have hpre : (acc ++ encX l[i]) = (gF (l.take (i + 1))).flatMap encX := by rw [htk, List.flatMap_append, hacc, gF_t g]; simp
            have hle : (acc ++ encX l[i]).length ≤ 80000 := by
              rw [hpre]
              have : ((gF (l.take (i + 1))).flatMap encX).length ≤ ((gF l).flatMap encX).length := by
                conv => rhs; rw [← List.take_append_drop (i + 1) l, gF_append, List.flatMap_append, List.length_append]
                omega
              omega
            rw [List.length_append] at hle
            rw [if_pos rfl, ey, gd_t (by omega), gd_t (by omega)]
            exact enc_g l hb hl hf m (i + 1) _ (by omega) hpre (by omega)
          | false =>
            rw [if_neg (by decide)]
            refine skip fun hg => ?_
            have ey : y = encX l[i] := Option.some.inj (y1.symm.trans (one_eq hg))
            have := dec_one hg
            rw [← ey, decode_eq y2 (by omega), hz] at this
            have hzx : z = l[i] := by simpa using this
            rw [hzx, same_self (by have := good_len hg; omega)] at b1
            cases b1
        · rw [if_neg hlen]
          refine skip fun hg => ?_
          have ey : y = encX l[i] := Option.some.inj (y1.symm.trans (one_eq hg))
          have := dec_one hg
          rw [← ey, decode_eq y2 (by omega)] at this
          rw [Option.some.inj this] at hlen
          exact hlen rfl
    · have : i = l.length := by omega
      subst this
      rw [if_neg h, hacc, List.take_of_length_le (Nat.le_refl _)]
theorem encode_any {l : List Stp} (hb : ∀ x ∈ l, ∀ y ∈ x.2.2.2.2, y < 256) (hl : l.length ≤ 80000) (hf : ((gF l).flatMap encX).length ≤ 80000) : encode_p l = some ((gF l).flatMap encX) := by
  unfold encode_p
  rw [enc_g l hb hl hf 90000 0 [] (by omega) (by simp [gF_nil]) (by omega)]
  rfl
theorem light_l (l : List Stp) (hl : l.length < 9223372036854775808) : ∀ (m i : Nat) (b : Bool), l.length - i < m → ∃ o, light_l1 l m b i = some o ∧ (∀ r, o = LO.rt r → r = false) ∧ (∀ s, o = LO.ex s → ∀ j, i ≤ j → j < l.length → (l.getD j default).2.2.2.2.length ≤ 60)
  | 0, i, b, hm => absurd hm (Nat.not_lt_zero _)
  | m + 1, i, b, hm => by
    rw [light_l1]
    by_cases hi : i < l.length
    · rw [if_pos hi]
      by_cases hb : 60 < ((l.getD i default).2.2.2.2).length
      · rw [if_pos hb]
        exact ⟨_, rfl, fun r hr => by cases hr; rfl, fun s hs => by cases hs⟩
      · rw [if_neg hb, gd_t (by omega)]
        obtain ⟨o, e1, e2, e3⟩ := light_l l hl m (i + 1) b (by omega)
        refine ⟨o, e1, e2, fun s hs j h1 h2 => ?_⟩
        by_cases hj : j = i
        · subst hj; omega
        · exact e3 s hs j (by omega) h2
    · rw [if_neg hi]
      exact ⟨_, rfl, fun r hr => (by cases hr), fun s _ j h1 h2 => (by omega)⟩
theorem light_r (K : Nat) (l : List Stp) (hl : l.length < 9223372036854775808) (hK : l.length ≤ K) : ∃ b, light_p K l = some b ∧ (b = true → l.length ≤ 20 ∧ ∀ x ∈ l, x.2.2.2.2.length ≤ 60) := by
  unfold light_p
  obtain ⟨o, e1, e2, e3⟩ := light_l l hl (90000 + K) 0 false (by omega)
  rw [e1, ob_some]
  cases o with
  | rt r =>
    rw [LO.on_rt]
    exact ⟨r, rfl, fun hr => by have := e2 r rfl; rw [hr] at this; cases this⟩
  | ex s =>
    rw [LO.on_ex]
    by_cases h : l.length ≤ 20
    · rw [if_pos h]
      refine ⟨true, rfl, fun _ => ⟨h, fun x hx => ?_⟩⟩
      obtain ⟨j, hj, rfl⟩ := List.getElem_of_mem hx
      have := e3 s rfl j (Nat.zero_le _) hj
      rw [List.getD_eq_getElem?_getD, List.getElem?_eq_getElem hj] at this
      exact this
    · rw [if_neg h]; exact ⟨false, rfl, fun h => by cases h⟩
theorem encX_len (x : Stp) : (encX x).length ≤ x.2.2.2.2.length + 3 := by
  unfold encX
  split
  · simp
  · split <;> simp
theorem flat_le : ∀ (l : List Stp), (∀ x ∈ l, x.2.2.2.2.length ≤ 60) → (l.flatMap encX).length ≤ l.length * 63
  | [], _ => by simp
  | x :: l, h => by
    have h1 := flat_le l fun y hy => h y (by simp [hy])
    have h2 := encX_len x
    have h3 := h x (by simp)
    rw [List.flatMap_cons, List.length_append, List.length_cons, Nat.succ_mul]; omega
theorem dec1_cut {x : Stp} (h : Good x) {n : Nat} (hn : n < (encX x).length) (v : List Nat) : dec1 ((encX x ++ v).take n) = none := by
  rw [List.take_append_of_le_length (by omega)]
  cases h with
  | b s l hs hl hb =>
    have e : encX (1, (s : Int), 0, 0, l) = 3 * s :: l.length / 256 :: l.length % 256 :: l := by simp [encX]
    rw [e] at hn ⊢
    have e4 : 3 * s % 3 = 0 := by omega
    rcases n with _ | _ | _ | n
    · rfl
    · simp [dec1, e4]
    · simp [dec1, e4]
    · have hn2 : n < l.length := by simpa using hn
      have e2 : l.length / 256 * 256 + l.length % 256 = l.length := by omega
      have : (l.take n).length < l.length / 256 * 256 + l.length % 256 := by rw [List.length_take]; omega
      simp only [List.take_succ_cons, dec1, e4, if_true]
      rw [if_pos this]
  | p m f hm hf =>
    have e : encX (2, 0, (m : Int), (f : Int), []) = [3 * m + 1, f / 256, f % 256] := by simp [encX]
    rw [e] at hn ⊢
    have e4 : (3 * m + 1) % 3 = 1 := by omega
    rcases n with _ | _ | _ | n
    · rfl
    · simp [dec1, e4]
    · simp [dec1, e4]
    · exact absurd hn (by simp)
  | t =>
    rcases n with _ | n
    · rfl
    · simp [encX] at hn
theorem decF_cut : ∀ (l : List Stp) (m n : Nat), l.length < m → (∀ x ∈ l, Good x) → n < (l.flatMap encX).length → (decF m ((l.flatMap encX).take n)).length < l.length
  | [], m, n, _, _, hn => by simp at hn
  | x :: l, m, n, hm, hg, hn => by
    obtain ⟨m, rfl⟩ : ∃ k, m = k + 1 := ⟨m - 1, by omega⟩
    rw [List.flatMap_cons] at hn ⊢
    rw [decF]
    by_cases hc : n < (encX x).length
    · rw [dec1_cut (hg x (by simp)) hc]
      simp
    · have e : (encX x ++ l.flatMap encX).take n = encX x ++ (l.flatMap encX).take (n - (encX x).length) := by
        rw [List.take_append, List.take_of_length_le (by omega)]
      rw [e, dec_enc (hg x (by simp))]
      have ih := decF_cut l m (n - (encX x).length) (by simpa using hm) (fun y hy => hg y (by simp [hy])) (by rw [List.length_append] at hn; omega)
      simpa using ih
theorem lawparts_true (K : Nat) (a b : List Stp) (cut : Nat) (ha : ∀ x ∈ a, ∀ y ∈ x.2.2.2.2, y < 256) (hb : ∀ x ∈ b, ∀ y ∈ x.2.2.2.2, y < 256) (la : a.length < 9223372036854775808) (lb : b.length < 9223372036854775808) (ka : a.length ≤ K) (kb : b.length ≤ K) :
    lawparts_p K a b cut = some true := by
  unfold lawparts_p
  obtain ⟨x, x1, x2⟩ := light_r K a la ka
  rw [x1, ob_some]
  cases x with
  | false => rw [if_pos rfl]
  | true =>
  obtain ⟨y, y1, y2⟩ := light_r K b lb kb
  rw [if_neg (by decide), y1, ob_some]
  cases y with
  | false => rw [if_pos rfl]
  | true =>
  obtain ⟨a1, a2⟩ := x2 rfl
  obtain ⟨b1, b2⟩ := y2 rfl
  have ga := gF_good a
  have gb := gF_good b
  have mem : ∀ {l : List Stp} {x : Stp}, x ∈ gF l → x ∈ l := fun h => (List.mem_filter.1 h).1
  have fa := flat_le (gF a) fun x hx => a2 x (mem hx)
  have fb := flat_le (gF b) fun x hx => b2 x (mem hx)
  have ca := gF_len a
  have cb := gF_len b
  have eab : gF (a ++ b) = gF a ++ gF b := gF_append a b
  have gab : ∀ x ∈ gF a ++ gF b, Good x := by rw [← eab]; exact gF_good _
  have fab : ((gF a ++ gF b).flatMap encX) = (gF a).flatMap encX ++ (gF b).flatMap encX := List.flatMap_append
  have hab : ∀ x ∈ a ++ b, ∀ y ∈ x.2.2.2.2, y < 256 := fun x hx => (List.mem_append.1 hx).elim (ha x) (hb x)
  have dec : ∀ (l : List Stp), (∀ x ∈ l, Good x) → l.length ≤ 80 → (l.flatMap encX).length ≤ 80000 → decode_p (l.flatMap encX) = some l := fun l h1 h2 h3 => by
    rw [decode_eq (flat_lt h1) h3, decF_enc l 90000 (by omega) h1]
  rw [if_neg (by decide), encode_any ha (by omega) (by omega), ob_some, encode_any hb (by omega) (by omega), ob_some, dec _ ga (by omega) (by omega), ob_some, dec _ gb (by omega) (by omega), ob_some,
    gd_t (by omega), gd_t (by omega), gd_t (by omega), encode_any hab (by rw [List.length_append]; omega) (by rw [eab, fab, List.length_append]; omega), ob_some, eab, fab, if_neg (fun h => h rfl), gd_t (by omega), gd_t (by omega),
    ← fab, dec _ gab (by rw [List.length_append]; omega) (by rw [fab, List.length_append]; omega), ob_some, gd_t (by omega), gd_t (by omega), samesteps_self (by rw [List.length_append]; omega), ob_some, if_neg (by decide)]
  by_cases h0 : ((gF a).flatMap encX).length = 0
  · have := flat_len (gF a)
    rw [if_pos h0, if_pos (by omega)]
  · have hlt : cut % ((gF a).flatMap encX).length < ((gF a).flatMap encX).length := Nat.mod_lt _ (by omega)
    have hcut := decF_cut (gF a) 90000 _ (by omega) ga hlt
    rw [if_neg h0, gd_t (by omega), decode_eq (fun y hy => flat_lt ga y (List.mem_of_mem_take hy)) (by rw [List.length_take]; omega), ob_some, if_pos hcut]
end Go.Proofs.YtgimoeiddjepnaaGreatDoor
end
section
set_option linter.unusedVariables false
namespace Go.Proofs.YtgimoeiddjepnaaGreatDoor
open Go Eng
theorem begun : isTrue (evF noM (progS Tryz.prog (compDrawn Tryz.prog)) 100000 30 5 [] H0) = true := by kernel_rfl
theorem trues : Trues Tryz.prog [5] := fun f hf => by
  rw [List.mem_singleton] at hf
  subst hf
  exact trues_one compDrawn_ok noM_ok begun
end Go.Proofs.YtgimoeiddjepnaaGreatDoor
end
