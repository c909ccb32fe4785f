import Derived.Test.YtpelnanckmjoaaaB6
section
set_option linter.unusedVariables false
namespace Go.Proofs.Ytpelnanckmjoaaa
set_option linter.unusedVariables false
set_option linter.unusedSimpArgs false
open Go Eng
noncomputable def rbody_l1  : Nat → List Nat → List (Nat × Nat × Nat × Nat × List Nat × Int) → List Nat → List Nat → Nat → Option (LO (List Nat × List (Nat × Nat × Nat × Nat × List Nat × Int) × List Nat × List Nat × Nat) (List Nat × Nat × List (Nat × Nat × Nat × Nat × List Nat × Int)))
  | 0, _, _, _, _, _ => none
  | m + 1, A2, A3, A4, Q1_0, Q1_1 =>
    (if Q1_1 = 0 then (if 600 ≤ A3.length then (ob (rfail_p Q1_0 Q1_1 4) fun x5 =>
    (some (LO.rt (x5.1, x5.2, A3)))) else
    (ob (rinstr_p Q1_0 Q1_1) fun x5 =>
    (if x5.2.1 ≠ 0 then (some (LO.rt (x5.1, x5.2.1, A3))) else
    (gd ((A3.length + 1) * 56 ≤ 70368744177664) (if 2 ≤ x5.2.2.1 then (if x5.2.2.1 ≤ 4 then (gd ((A4.length + 1) * 8 ≤ 70368744177664) (if 32 < (A4 ++ [x5.2.2.1]).length then (ob (rfail_p x5.1 x5.2.1 4) fun x51 =>
    (rbody_l1  m A2 (A3 ++ [(x5.2.2.1, x5.2.2.2.1, x5.2.2.2.2.1, x5.2.2.2.2.2.1, x5.2.2.2.2.2.2.1, x5.2.2.2.2.2.2.2)]) (A4 ++ [x5.2.2.1]) x51.1 x51.2)) else
    (rbody_l1  m A2 (A3 ++ [(x5.2.2.1, x5.2.2.2.1, x5.2.2.2.2.1, x5.2.2.2.2.2.1, x5.2.2.2.2.2.2.1, x5.2.2.2.2.2.2.2)]) (A4 ++ [x5.2.2.1]) x5.1 x5.2.1))) else
    (if x5.2.2.1 = 5 then (if A4.length = 0 then (ob (rfail_p x5.1 x5.2.1 2) fun x45 =>
    (some (LO.rt (x45.1, x45.2, A3 ++ [(x5.2.2.1, x5.2.2.2.1, x5.2.2.2.2.1, x5.2.2.2.2.2.1, x5.2.2.2.2.2.2.1, x5.2.2.2.2.2.2.2)])))) else
    (gd (1 ≤ A4.length) (gd (A4.length < 9223372036854775808) (gd (A4.length - 1 < A4.length) (if (A4.getD (A4.length - 1) default) ≠ 4 then (ob (rfail_p x5.1 x5.2.1 2) fun x49 =>
    (some (LO.rt (x49.1, x49.2, A3 ++ [(x5.2.2.1, x5.2.2.2.1, x5.2.2.2.2.1, x5.2.2.2.2.2.1, x5.2.2.2.2.2.2.1, x5.2.2.2.2.2.2.2)])))) else
    (rbody_l1  m A2 (A3 ++ [(x5.2.2.1, x5.2.2.2.1, x5.2.2.2.2.1, x5.2.2.2.2.2.1, x5.2.2.2.2.2.2.1, x5.2.2.2.2.2.2.2)]) (A4.set (A4.length - 1) 5) x5.1 x5.2.1)))))) else
    (if x5.2.2.1 = 11 then (if A4.length = 0 then (some (LO.rt (x5.1, x5.2.1, A3 ++ [(x5.2.2.1, x5.2.2.2.1, x5.2.2.2.2.1, x5.2.2.2.2.2.1, x5.2.2.2.2.2.2.1, x5.2.2.2.2.2.2.2)]))) else
    (gd (1 ≤ A4.length) (gd (A4.length < 9223372036854775808) (gd (A4.length - 1 ≤ A4.length) (rbody_l1  m A2 (A3 ++ [(x5.2.2.1, x5.2.2.2.1, x5.2.2.2.2.1, x5.2.2.2.2.2.1, x5.2.2.2.2.2.2.1, x5.2.2.2.2.2.2.2)]) (A4.take (A4.length - 1)) x5.1 x5.2.1))))) else
    (rbody_l1  m A2 (A3 ++ [(x5.2.2.1, x5.2.2.2.1, x5.2.2.2.2.1, x5.2.2.2.2.2.1, x5.2.2.2.2.2.2.1, x5.2.2.2.2.2.2.2)]) A4 x5.1 x5.2.1)))) else
    (if x5.2.2.1 = 5 then (if A4.length = 0 then (ob (rfail_p x5.1 x5.2.1 2) fun x44 =>
    (some (LO.rt (x44.1, x44.2, A3 ++ [(x5.2.2.1, x5.2.2.2.1, x5.2.2.2.2.1, x5.2.2.2.2.2.1, x5.2.2.2.2.2.2.1, x5.2.2.2.2.2.2.2)])))) else
    (gd (1 ≤ A4.length) (gd (A4.length < 9223372036854775808) (gd (A4.length - 1 < A4.length) (if (A4.getD (A4.length - 1) default) ≠ 4 then (ob (rfail_p x5.1 x5.2.1 2) fun x48 =>
    (some (LO.rt (x48.1, x48.2, A3 ++ [(x5.2.2.1, x5.2.2.2.1, x5.2.2.2.2.1, x5.2.2.2.2.2.1, x5.2.2.2.2.2.2.1, x5.2.2.2.2.2.2.2)])))) else
    (rbody_l1  m A2 (A3 ++ [(x5.2.2.1, x5.2.2.2.1, x5.2.2.2.2.1, x5.2.2.2.2.2.1, x5.2.2.2.2.2.2.1, x5.2.2.2.2.2.2.2)]) (A4.set (A4.length - 1) 5) x5.1 x5.2.1)))))) else
    (if x5.2.2.1 = 11 then (if A4.length = 0 then (some (LO.rt (x5.1, x5.2.1, A3 ++ [(x5.2.2.1, x5.2.2.2.1, x5.2.2.2.2.1, x5.2.2.2.2.2.1, x5.2.2.2.2.2.2.1, x5.2.2.2.2.2.2.2)]))) else
    (gd (1 ≤ A4.length) (gd (A4.length < 9223372036854775808) (gd (A4.length - 1 ≤ A4.length) (rbody_l1  m A2 (A3 ++ [(x5.2.2.1, x5.2.2.2.1, x5.2.2.2.2.1, x5.2.2.2.2.2.1, x5.2.2.2.2.2.2.1, x5.2.2.2.2.2.2.2)]) (A4.take (A4.length - 1)) x5.1 x5.2.1))))) else
    (rbody_l1  m A2 (A3 ++ [(x5.2.2.1, x5.2.2.2.1, x5.2.2.2.2.1, x5.2.2.2.2.2.1, x5.2.2.2.2.2.2.1, x5.2.2.2.2.2.2.2)]) A4 x5.1 x5.2.1)))))))) else
    (some (LO.ex (A2, A3, A4, Q1_0, Q1_1))))
noncomputable def rbody_l1C : AC := (.seq (.seq (.region [⟨(some 6), .q (.move (.tmp 0)), none⟩, ⟨(some 7), .q (.nilCheck (.tmp 6)), none⟩, ⟨(some 8), .q (.fieldAddr 0 (.tmp 7)), none⟩, ⟨(some 9), .q (.fieldAddr 1 (.tmp 8)), none⟩, ⟨(some 10), .q (.loadS (.tmp 9)), none⟩, ⟨(some 11), .q (.eq .int false (.tmp 10) (.const (vi 0))), none⟩]) (.cond (.tmp 11) .skip (.exit 0))) (.block 1 (.seq (.seq (.region [⟨(some 12), .q (.move (.tmp 3)), none⟩, ⟨(some 13), .q (.lenL (.tmp 12)), none⟩, ⟨(some 14), .q (.bin .geq (.tmp 13) (.const (vi 600))), none⟩]) (.cond (.tmp 14) (.seq (.region [⟨(some 15), .q (.move (.tmp 0)), none⟩, ⟨(some 16), .q (.nilCheck (.tmp 15)), none⟩, ⟨(some 17), .q (.fieldAddr 0 (.tmp 16)), none⟩, ⟨(some 18), .e (.call (.const (AV.func (.func 52) [] [])) [(.tmp 17), (.const (vi 4))]), none⟩]) (.seq (.region [⟨(some 19), .q (.move (.tmp 3)), none⟩, ⟨(some 2), .q (.move (.tmp 19)), none⟩]) .ret)) .skip)) (.seq (.region [⟨(some 20), .q (.move (.tmp 0)), none⟩, ⟨(some 21), .e (.call (.const (AV.func (.func 53) [] [])) [(.tmp 20)]), none⟩, ⟨(some 5), .l (.alloc [(vi 0), (vw 0), (vw 0), (vq 0), AV.nilSlice, (vi 0)]), none⟩, ⟨none, .e (.store 6 (.tmp 5) (.tmp 21)), none⟩]) (.seq (.seq (.region [⟨(some 22), .q (.move (.tmp 0)), none⟩, ⟨(some 23), .q (.nilCheck (.tmp 22)), none⟩, ⟨(some 24), .q (.fieldAddr 0 (.tmp 23)), none⟩, ⟨(some 25), .q (.fieldAddr 1 (.tmp 24)), none⟩, ⟨(some 26), .q (.loadS (.tmp 25)), none⟩, ⟨(some 27), .q (.eq .int true (.tmp 26) (.const (vi 0))), none⟩]) (.cond (.tmp 27) (.seq (.region [⟨(some 28), .q (.move (.tmp 3)), none⟩, ⟨(some 2), .q (.move (.tmp 28)), none⟩]) .ret) .skip)) (.seq (.region [⟨(some 29), .q (.move (.tmp 3)), none⟩, ⟨(some 30), .q (.loadA 6 (.tmp 5)), none⟩, ⟨(some 31), .l (.buildSlice 6 1 [(vi 0), (vw 0), (vw 0), (vq 0), AV.nilSlice, (vi 0)] [(0, 6, (.tmp 30))]), none⟩, ⟨(some 32), .e (.append 6 56 (.tmp 29) (.tmp 31)), none⟩, ⟨(some 3), .q (.move (.tmp 32)), none⟩]) (.block 2 (.seq (.region [⟨(some 34), .q (.fieldAddr 0 (.tmp 5)), none⟩, ⟨(some 35), .q (.loadS (.tmp 34)), none⟩, ⟨(some 36), .q (.bin .geq (.tmp 35) (.const (vi 2))), none⟩, ⟨(some 37), .q (.move (.tmp 36)), none⟩, ⟨(some 38), .q (.fieldAddr 0 (.tmp 5)), (some (37, true))⟩, ⟨(some 39), .q (.loadS (.tmp 38)), (some (37, true))⟩, ⟨(some 40), .q (.bin .leq (.tmp 39) (.const (vi 4))), (some (37, true))⟩, ⟨(some 41), .q (.pick (.tmp 37) (.tmp 40) (.const (AV.bool false))), none⟩, ⟨(some 33), .q (.move (.tmp 41)), none⟩]) (.cond (.tmp 33) (.seq (.region [⟨(some 42), .q (.move (.tmp 4)), none⟩, ⟨(some 43), .q (.fieldAddr 0 (.tmp 5)), none⟩, ⟨(some 44), .q (.loadS (.tmp 43)), none⟩, ⟨(some 45), .l (.buildSlice 1 1 [(vi 0)] [(0, 1, (.tmp 44))]), none⟩, ⟨(some 46), .e (.append 1 8 (.tmp 42) (.tmp 45)), none⟩, ⟨(some 4), .q (.move (.tmp 46)), none⟩]) (.seq (.region [⟨(some 47), .q (.move (.tmp 4)), none⟩, ⟨(some 48), .q (.lenL (.tmp 47)), none⟩, ⟨(some 49), .q (.bin .gtr (.tmp 48) (.const (vi 32))), none⟩]) (.cond (.tmp 49) (.region [⟨(some 50), .q (.move (.tmp 0)), none⟩, ⟨(some 51), .q (.nilCheck (.tmp 50)), none⟩, ⟨(some 52), .q (.fieldAddr 0 (.tmp 51)), none⟩, ⟨(some 53), .e (.call (.const (AV.func (.func 52) [] [])) [(.tmp 52), (.const (vi 4))]), none⟩]) .skip))) (.seq (.region [⟨(some 55), .q (.fieldAddr 0 (.tmp 5)), none⟩, ⟨(some 56), .q (.loadS (.tmp 55)), none⟩, ⟨(some 57), .q (.eq .int false (.tmp 56) (.const (vi 5))), none⟩, ⟨(some 54), .q (.move (.tmp 57)), none⟩]) (.cond (.tmp 54) (.seq (.seq (.region [⟨(some 58), .q (.move (.tmp 4)), none⟩, ⟨(some 59), .q (.lenL (.tmp 58)), none⟩, ⟨(some 60), .q (.eq .int false (.tmp 59) (.const (vi 0))), none⟩, ⟨(some 61), .q (.move (.tmp 60)), none⟩, ⟨(some 62), .q (.move (.tmp 4)), (some (61, false))⟩, ⟨(some 63), .q (.move (.tmp 4)), (some (61, false))⟩, ⟨(some 64), .q (.lenL (.tmp 63)), (some (61, false))⟩, ⟨(some 65), .q (.bin .sub (.tmp 64) (.const (vi 1))), (some (61, false))⟩, ⟨(some 66), .q (.idxAddrSl 1 (.tmp 62) (.tmp 65)), (some (61, false))⟩, ⟨(some 67), .q (.loadS (.tmp 66)), (some (61, false))⟩, ⟨(some 68), .q (.eq .int true (.tmp 67) (.const (vi 4))), (some (61, false))⟩, ⟨(some 69), .q (.pick (.tmp 61) (.const (AV.bool true)) (.tmp 68)), none⟩]) (.cond (.tmp 69) (.seq (.region [⟨(some 70), .q (.move (.tmp 0)), none⟩, ⟨(some 71), .q (.nilCheck (.tmp 70)), none⟩, ⟨(some 72), .q (.fieldAddr 0 (.tmp 71)), none⟩, ⟨(some 73), .e (.call (.const (AV.func (.func 52) [] [])) [(.tmp 72), (.const (vi 2))]), none⟩]) (.seq (.region [⟨(some 74), .q (.move (.tmp 3)), none⟩, ⟨(some 2), .q (.move (.tmp 74)), none⟩]) .ret)) .skip)) (.region [⟨(some 75), .q (.move (.tmp 4)), none⟩, ⟨(some 76), .q (.move (.tmp 4)), none⟩, ⟨(some 77), .q (.lenL (.tmp 76)), none⟩, ⟨(some 78), .q (.bin .sub (.tmp 77) (.const (vi 1))), none⟩, ⟨(some 79), .q (.idxAddrSl 1 (.tmp 75) (.tmp 78)), none⟩, ⟨none, .e (.store 1 (.tmp 79) (.const (vi 5))), none⟩])) (.seq (.region [⟨(some 81), .q (.fieldAddr 0 (.tmp 5)), none⟩, ⟨(some 82), .q (.loadS (.tmp 81)), none⟩, ⟨(some 83), .q (.eq .int false (.tmp 82) (.const (vi 11))), none⟩, ⟨(some 80), .q (.move (.tmp 83)), none⟩]) (.cond (.tmp 80) (.seq (.seq (.region [⟨(some 84), .q (.move (.tmp 4)), none⟩, ⟨(some 85), .q (.lenL (.tmp 84)), none⟩, ⟨(some 86), .q (.eq .int false (.tmp 85) (.const (vi 0))), none⟩]) (.cond (.tmp 86) (.seq (.region [⟨(some 87), .q (.move (.tmp 3)), none⟩, ⟨(some 2), .q (.move (.tmp 87)), none⟩]) .ret) .skip)) (.region [⟨(some 88), .q (.move (.tmp 4)), none⟩, ⟨(some 89), .q (.move (.tmp 4)), none⟩, ⟨(some 90), .q (.lenL (.tmp 89)), none⟩, ⟨(some 91), .q (.bin .sub (.tmp 90) (.const (vi 1))), none⟩, ⟨(some 92), .q (.sliceSl 1 (.tmp 88) none (some (.tmp 91)) none), none⟩, ⟨(some 4), .q (.move (.tmp 92)), none⟩])) .skip)))))))))))))
theorem rbody_l1_body {call : CallT} {N : Nat} {t : T} {h : Hp} {b1 : Nat} {rest : List AV} {ZG_103 : Nat → Prop} {Zk_103 : Hp} {ZG_101 : Nat → Prop} {Zk_101 : Hp} {G : Nat → Prop} {h0 : Hp} {R : List AObj}   (h_rfail : C_rfail call) (h_rinstr : C_rinstr call) {o : LO (List Nat × List (Nat × Nat × Nat × Nat × List Nat × Int) × List Nat × List Nat × Nat) (List Nat × Nat × List (Nat × Nat × Nat × Nat × List Nat × Int))} {n : Nat} {A2 : List Nat} {A3 : List (Nat × Nat × Nat × Nat × List Nat × Int)} {A4 : List Nat} {Q1_0 : List Nat} {Q1_1 : Nat} {wA2_1 : AV} {wA3 : AV} {LA3 : List AV} {wA4 : AV} {LA4 : List AV} {wQ1_0_1 : AV} {G_103 : Nat → Prop} {k_103 : Hp} {G_101 : Nat → Prop} {k_101 : Hp} (hN : 90000 < N) (hi : (fun (z : Nat × List Nat × List (Nat × Nat × Nat × Nat × List Nat × Int) × List Nat × List Nat × Nat × AV × AV × List AV × AV × List AV × AV × (Nat → Prop) × Hp × (Nat → Prop) × Hp) (h' : Hp) => rbody_l1  z.1 z.2.1 z.2.2.1 z.2.2.2.1 z.2.2.2.2.1 z.2.2.2.2.2.1 = some o ∧ (BIn G h0 z.2.2.2.2.2.2.1 z.2.1) ∧ (Eng.Rows (rP (rN0 .i64) (rP (rU .u32) (rP (rU .u32) (rP (rU .u64) (rP (rL (rU .u32)) (rZ .i64)))))) z.2.2.2.2.2.2.2.2.2.2.2.2.2.2.1 z.2.2.2.2.2.2.2.2.2.2.2.2.2.2.2 z.2.2.2.2.2.2.2.2.1 z.2.2.1) ∧ (Eng.Rows (rN0 .i64) z.2.2.2.2.2.2.2.2.2.2.2.2.1 z.2.2.2.2.2.2.2.2.2.2.2.2.2.1 z.2.2.2.2.2.2.2.2.2.2.1 z.2.2.2.1) ∧ (BIn G h0 z.2.2.2.2.2.2.2.2.2.2.2.1 z.2.2.2.2.1) ∧ (Up ZG_103 Zk_103 z.2.2.2.2.2.2.2.2.2.2.2.2.1 z.2.2.2.2.2.2.2.2.2.2.2.2.2.1) ∧ (Up ZG_101 Zk_101 z.2.2.2.2.2.2.2.2.2.2.2.2.2.2.1 z.2.2.2.2.2.2.2.2.2.2.2.2.2.2.2) ∧ Eng.Sep (OwnO 6 z.2.2.2.2.2.2.2.1 z.2.2.1.length z.2.2.2.2.2.2.2.2.1 :: OwnO 1 z.2.2.2.2.2.2.2.2.2.1 z.2.2.2.1.length z.2.2.2.2.2.2.2.2.2.2.1 :: Cel b1 (z.2.2.2.2.2.2.2.2.2.2.2.1 :: (vi z.2.2.2.2.2.1) :: rest) :: Frz z.2.2.2.2.2.2.2.2.2.2.2.2.1 z.2.2.2.2.2.2.2.2.2.2.2.2.2.1 :: Frz z.2.2.2.2.2.2.2.2.2.2.2.2.2.2.1 z.2.2.2.2.2.2.2.2.2.2.2.2.2.2.2 :: Frz G h0 :: R) h') (n, A2, A3, A4, Q1_0, Q1_1, wA2_1, wA3, LA3, wA4, LA4, wQ1_0_1, G_103, k_103, G_101, k_101) h)
    : ∃ s, evC call N rbody_l1C (ovT [(0, (AV.ptr b1 0)), (2, wA2_1), (3, wA3), (4, wA4)] t) h = s ∧ obsS [0, 2, 3, 4] (fun ls h' => ∃ y, ls = ((fun (z : Nat × List Nat × List (Nat × Nat × Nat × Nat × List Nat × Int) × List Nat × List Nat × Nat × AV × AV × List AV × AV × List AV × AV × (Nat → Prop) × Hp × (Nat → Prop) × Hp) => [(0, (AV.ptr b1 0)), (2, z.2.2.2.2.2.2.1), (3, z.2.2.2.2.2.2.2.1), (4, z.2.2.2.2.2.2.2.2.2.1)]) y).map (fun p => some p.2) ∧ (fun (z : Nat × List Nat × List (Nat × Nat × Nat × Nat × List Nat × Int) × List Nat × List Nat × Nat × AV × AV × List AV × AV × List AV × AV × (Nat → Prop) × Hp × (Nat → Prop) × Hp) (h' : Hp) => rbody_l1  z.1 z.2.1 z.2.2.1 z.2.2.2.1 z.2.2.2.2.1 z.2.2.2.2.2.1 = some o ∧ (BIn G h0 z.2.2.2.2.2.2.1 z.2.1) ∧ (Eng.Rows (rP (rN0 .i64) (rP (rU .u32) (rP (rU .u32) (rP (rU .u64) (rP (rL (rU .u32)) (rZ .i64)))))) z.2.2.2.2.2.2.2.2.2.2.2.2.2.2.1 z.2.2.2.2.2.2.2.2.2.2.2.2.2.2.2 z.2.2.2.2.2.2.2.2.1 z.2.2.1) ∧ (Eng.Rows (rN0 .i64) z.2.2.2.2.2.2.2.2.2.2.2.2.1 z.2.2.2.2.2.2.2.2.2.2.2.2.2.1 z.2.2.2.2.2.2.2.2.2.2.1 z.2.2.2.1) ∧ (BIn G h0 z.2.2.2.2.2.2.2.2.2.2.2.1 z.2.2.2.2.1) ∧ (Up ZG_103 Zk_103 z.2.2.2.2.2.2.2.2.2.2.2.2.1 z.2.2.2.2.2.2.2.2.2.2.2.2.2.1) ∧ (Up ZG_101 Zk_101 z.2.2.2.2.2.2.2.2.2.2.2.2.2.2.1 z.2.2.2.2.2.2.2.2.2.2.2.2.2.2.2) ∧ Eng.Sep (OwnO 6 z.2.2.2.2.2.2.2.1 z.2.2.1.length z.2.2.2.2.2.2.2.2.1 :: OwnO 1 z.2.2.2.2.2.2.2.2.2.1 z.2.2.2.1.length z.2.2.2.2.2.2.2.2.2.2.1 :: Cel b1 (z.2.2.2.2.2.2.2.2.2.2.2.1 :: (vi z.2.2.2.2.2.1) :: rest) :: Frz z.2.2.2.2.2.2.2.2.2.2.2.2.1 z.2.2.2.2.2.2.2.2.2.2.2.2.2.1 :: Frz z.2.2.2.2.2.2.2.2.2.2.2.2.2.2.1 z.2.2.2.2.2.2.2.2.2.2.2.2.2.2.2 :: Frz G h0 :: R) h') y h' ∧ (fun (z : Nat × List Nat × List (Nat × Nat × Nat × Nat × List Nat × Int) × List Nat × List Nat × Nat × AV × AV × List AV × AV × List AV × AV × (Nat → Prop) × Hp × (Nat → Prop) × Hp) => z.1) y < (fun (z : Nat × List Nat × List (Nat × Nat × Nat × Nat × List Nat × Int) × List Nat × List Nat × Nat × AV × AV × List AV × AV × List AV × AV × (Nat → Prop) × Hp × (Nat → Prop) × Hp) => z.1) (n, A2, A3, A4, Q1_0, Q1_1, wA2_1, wA3, LA3, wA4, LA4, wQ1_0_1, G_103, k_103, G_101, k_101)) (fun i ls h' => ∃ y, ls = ((fun (z : Nat × List Nat × List (Nat × Nat × Nat × Nat × List Nat × Int) × List Nat × List Nat × Nat × AV × AV × List AV × AV × List AV × AV × (Nat → Prop) × Hp × (Nat → Prop) × Hp) => [(0, (AV.ptr b1 0)), (2, z.2.2.2.2.2.2.1), (3, z.2.2.2.2.2.2.2.1), (4, z.2.2.2.2.2.2.2.2.2.1)]) y).map (fun p => some p.2) ∧ (fun (i : Nat) (z : Nat × List Nat × List (Nat × Nat × Nat × Nat × List Nat × Int) × List Nat × List Nat × Nat × AV × AV × List AV × AV × List AV × AV × (Nat → Prop) × Hp × (Nat → Prop) × Hp) (h' : Hp) => (i = 0) ∧ (i = 0 → o = LO.ex (z.2.1, z.2.2.1, z.2.2.2.1, z.2.2.2.2.1, z.2.2.2.2.2.1) ∧ (BIn G h0 z.2.2.2.2.2.2.1 z.2.1) ∧ (Eng.Rows (rP (rN0 .i64) (rP (rU .u32) (rP (rU .u32) (rP (rU .u64) (rP (rL (rU .u32)) (rZ .i64)))))) z.2.2.2.2.2.2.2.2.2.2.2.2.2.2.1 z.2.2.2.2.2.2.2.2.2.2.2.2.2.2.2 z.2.2.2.2.2.2.2.2.1 z.2.2.1) ∧ (Eng.Rows (rN0 .i64) z.2.2.2.2.2.2.2.2.2.2.2.2.1 z.2.2.2.2.2.2.2.2.2.2.2.2.2.1 z.2.2.2.2.2.2.2.2.2.2.1 z.2.2.2.1) ∧ (BIn G h0 z.2.2.2.2.2.2.2.2.2.2.2.1 z.2.2.2.2.1) ∧ (Up ZG_103 Zk_103 z.2.2.2.2.2.2.2.2.2.2.2.2.1 z.2.2.2.2.2.2.2.2.2.2.2.2.2.1) ∧ (Up ZG_101 Zk_101 z.2.2.2.2.2.2.2.2.2.2.2.2.2.2.1 z.2.2.2.2.2.2.2.2.2.2.2.2.2.2.2) ∧ Eng.Sep (OwnO 6 z.2.2.2.2.2.2.2.1 z.2.2.1.length z.2.2.2.2.2.2.2.2.1 :: OwnO 1 z.2.2.2.2.2.2.2.2.2.1 z.2.2.2.1.length z.2.2.2.2.2.2.2.2.2.2.1 :: Cel b1 (z.2.2.2.2.2.2.2.2.2.2.2.1 :: (vi z.2.2.2.2.2.1) :: rest) :: Frz z.2.2.2.2.2.2.2.2.2.2.2.2.1 z.2.2.2.2.2.2.2.2.2.2.2.2.2.1 :: Frz z.2.2.2.2.2.2.2.2.2.2.2.2.2.2.1 z.2.2.2.2.2.2.2.2.2.2.2.2.2.2.2 :: Frz G h0 :: R) h')) i y h') (fun ls h' => (fun (ls : List (Option AV)) (h' : Hp) => ∃ (rt : List Nat × Nat × List (Nat × Nat × Nat × Nat × List Nat × Int)) (v2 : AV), o = LO.rt rt ∧ ls[1]? = some (some v2) ∧ (∃ wk1 : AV, ∃ Lk3 : List AV, ∃ wk4 : AV, ∃ Gk : Nat → Prop, ∃ kk : Hp, v2 = wk1 ∧ (Eng.Rows (rP (rN0 .i64) (rP (rU .u32) (rP (rU .u32) (rP (rU .u64) (rP (rL (rU .u32)) (rZ .i64)))))) Gk kk Lk3 rt.2.2) ∧ (BIn G h0 wk4 rt.1) ∧ Eng.Sep (OwnO 6 wk1 rt.2.2.length Lk3 :: Cel b1 (wk4 :: (vi rt.2.1) :: rest) :: Frz Gk kk :: Frz G h0 :: R) h')) ls h') s := by
  have hi : rbody_l1  n A2 A3 A4 Q1_0 Q1_1 = some o ∧ (BIn G h0 wA2_1 A2) ∧ (Eng.Rows (rP (rN0 .i64) (rP (rU .u32) (rP (rU .u32) (rP (rU .u64) (rP (rL (rU .u32)) (rZ .i64)))))) G_101 k_101 LA3 A3) ∧ (Eng.Rows (rN0 .i64) G_103 k_103 LA4 A4) ∧ (BIn G h0 wQ1_0_1 Q1_0) ∧ (Up ZG_103 Zk_103 G_103 k_103) ∧ (Up ZG_101 Zk_101 G_101 k_101) ∧ Eng.Sep (OwnO 6 wA3 A3.length LA3 :: OwnO 1 wA4 A4.length LA4 :: Cel b1 (wQ1_0_1 :: (vi Q1_1) :: rest) :: Frz G_103 k_103 :: Frz G_101 k_101 :: Frz G h0 :: R) h := hi
  obtain ⟨hp, fA2_2, fA3, fA4, fQ1_0_2, fU_103, fU_101, S⟩ := hi
  obtain ⟨m, hm⟩ : ∃ m, n = m + 1 := by
    cases n with
    | zero => first | cases hp | (unfold rbody_l1 at hp; cases hp) | (simp [rbody_l1] at hp)
    | succ m => exact ⟨m, rfl⟩
  rw [hm] at hp
  unfold rbody_l1 at hp
  refine walk_ok (o := (.tell 4 (vi Q1_1) (.fork 0 (.tell 1 (vi A3.length) (.fork 0 (.exi 3 fun (x5 : List Nat × Nat) => (.exi 0 fun (w14 : AV) => (.exi 0 fun (h10 : Hp) => (.eff 0 (AV.tuple []) h10 .fin)))) (.exi 1 fun (x5 : List Nat × Nat × (Nat × Nat × Nat × Nat × List Nat × Int)) => (.exi 0 fun (w12 : AV) => (.exi 0 fun (w19 : AV) => (.exi 0 fun (h15 : Hp) => (.eff 0 (AV.agg [(vi x5.2.2.1), (vw x5.2.2.2.1), (vw x5.2.2.2.2.1), (vq x5.2.2.2.2.2.1), w12, (AV.int .i64 x5.2.2.2.2.2.2.2)]) h15 (.effx 1 (fun e24 => (AV.tuple [])) (fun e24 => (.tell 4 (vi x5.2.1) (.fork 0 .fin (.tell 1 (AV.agg [(vi x5.2.2.1), (vw x5.2.2.2.1), (vw x5.2.2.2.2.1), (vq x5.2.2.2.2.2.1), w12, (AV.int .i64 x5.2.2.2.2.2.2.2)]) (.ell 0 (.sl 1 1 6 true) (mkCells [(vi x5.2.2.1), (vw x5.2.2.2.1), (vw x5.2.2.2.2.1), (vq x5.2.2.2.2.2.1), w12, (AV.int .i64 x5.2.2.2.2.2.2.2)] 6) (.effx 0 (fun e28 => e28.v) (fun e28 => (.tell 2 (vi x5.2.2.1) (.fork 1 (.tell 1 (vi x5.2.2.1) (.fork 2 (.tell 2 (vi x5.2.2.1) (.effx 1 (fun e42 => e42.v) (fun e42 => (.tell 2 (vi ((A4 ++ [x5.2.2.1]).length)) (.fork 0 (.exi 3 fun (x51 : List Nat × Nat) => (.exi 0 fun (w60 : AV) => (.exi 0 fun (h56 : Hp) => (.eff 0 (AV.tuple []) h56 .fin)))) .fin))))) (.tell 1 (vi x5.2.2.1) (.fork 1 (.tell 1 (vi A4.length) (.fork 1 (.exi 4 fun (x45 : List Nat × Nat) => (.exi 0 fun (w54 : AV) => (.exi 0 fun (h50 : Hp) => (.eff 0 (AV.tuple []) h50 .fin)))) (.tell 2 (vi A4.length) (.tell 0 (vi (A4.length - 1)) (.tell 0 (elemP wA4 (A4.length - 1) 1) (.tell 0 (vi (A4.getD (A4.length - 1) default)) (.fork 1 (.exi 3 fun (x49 : List Nat × Nat) => (.exi 0 fun (w58 : AV) => (.exi 0 fun (h54 : Hp) => (.eff 0 (AV.tuple []) h54 .fin)))) (.tell 2 (vi A4.length) (.tell 0 (vi (A4.length - 1)) (.tell 0 (elemP wA4 (A4.length - 1) 1) (.effx 0 (fun e47 => (AV.tuple [])) (fun e47 => .fin)))))))))))) (.tell 1 (vi x5.2.2.1) (.fork 1 (.tell 1 (vi A4.length) (.fork 0 .fin (.tell 2 (vi A4.length) (.tell 0 (vi (A4.length - 1)) (.tell 0 (partS wA4 0 (A4.length - 1)) .fin))))) .fin)))))) (.tell 3 (vi x5.2.2.1) (.fork 1 (.tell 1 (vi A4.length) (.fork 1 (.exi 4 fun (x44 : List Nat × Nat) => (.exi 0 fun (w53 : AV) => (.exi 0 fun (h49 : Hp) => (.eff 0 (AV.tuple []) h49 .fin)))) (.tell 2 (vi A4.length) (.tell 0 (vi (A4.length - 1)) (.tell 0 (elemP wA4 (A4.length - 1) 1) (.tell 0 (vi (A4.getD (A4.length - 1) default)) (.fork 1 (.exi 3 fun (x48 : List Nat × Nat) => (.exi 0 fun (w57 : AV) => (.exi 0 fun (h53 : Hp) => (.eff 0 (AV.tuple []) h53 .fin)))) (.tell 2 (vi A4.length) (.tell 0 (vi (A4.length - 1)) (.tell 0 (elemP wA4 (A4.length - 1) 1) (.effx 0 (fun e46 => (AV.tuple [])) (fun e46 => .fin)))))))))))) (.tell 1 (vi x5.2.2.1) (.fork 1 (.tell 1 (vi A4.length) (.fork 0 .fin (.tell 2 (vi A4.length) (.tell 0 (vi (A4.length - 1)) (.tell 0 (partS wA4 0 (A4.length - 1)) .fin))))) .fin))))))))))))))))))))) .fin))) (p := (fun (KN : List (Option AV) → Hp → Prop) (KE : Nat → List (Option AV) → Hp → Prop) (KR : List (Option AV) → Hp → Prop) => ((evQ (.loadS (.const (AV.ptr b1 1))) .lf h = .ok (vi Q1_1) ∧ ((eqI (Int.ofNat Q1_1) (Int.ofNat 0) = true → ((evQ (.lenL (.const wA3)) .lf H0 = .ok (vi A3.length) ∧ ((notB (ltI (Int.ofNat A3.length) (Int.ofNat 600)) = true → (∃ x5 : List Nat × Nat, ∃ w14 : AV, ∃ h10 : Hp, (call 52 [(AV.ptr b1 0), (vi 4)] h = .ok (AV.tuple []) h10 ∧ KR [some (AV.ptr b1 0), some wA3, some wA3, some wA4] h10))) ∧ (notB (ltI (Int.ofNat A3.length) (Int.ofNat 600)) = false → (∃ x5 : List Nat × Nat × (Nat × Nat × Nat × Nat × List Nat × Int), ∃ w12 : AV, ∃ w19 : AV, ∃ h15 : Hp, (call 53 [(AV.ptr b1 0)] h = .ok (AV.agg [(vi x5.2.2.1), (vw x5.2.2.2.1), (vw x5.2.2.2.2.1), (vq x5.2.2.2.2.2.1), w12, (AV.int .i64 x5.2.2.2.2.2.2.2)]) h15 ∧ (∃ e24 : Ev, evE (.store 6 (.const (AV.ptr (Hp.next h15) 0)) (.const (AV.agg [(vi x5.2.2.1), (vw x5.2.2.2.1), (vw x5.2.2.2.2.1), (vq x5.2.2.2.2.2.1), w12, (AV.int .i64 x5.2.2.2.2.2.2.2)]))) call .lf (hpush h15 (mkCells [(vi 0), (vw 0), (vw 0), (vq 0), AV.nilSlice, (vi 0)] 6)) = .ok (AV.tuple []) e24.h ∧ ((evQ (.loadS (.const (AV.ptr b1 1))) .lf e24.h = .ok (vi x5.2.1) ∧ ((notB (eqI (Int.ofNat x5.2.1) (Int.ofNat 0)) = true → KR [some (AV.ptr b1 0), some wA3, some wA3, some wA4] e24.h) ∧ (notB (eqI (Int.ofNat x5.2.1) (Int.ofNat 0)) = false → ((evQ (.loadA 6 (.const (AV.ptr (Hp.next h15) 0))) .lf e24.h = .ok (AV.agg [(vi x5.2.2.1), (vw x5.2.2.2.1), (vw x5.2.2.2.2.1), (vq x5.2.2.2.2.2.1), w12, (AV.int .i64 x5.2.2.2.2.2.2.2)]) ∧ (evL (.buildSlice 6 1 [(vi 0), (vw 0), (vw 0), (vq 0), AV.nilSlice, (vi 0)] [(0, 6, (.const (AV.agg [(vi x5.2.2.1), (vw x5.2.2.2.1), (vw x5.2.2.2.2.1), (vq x5.2.2.2.2.2.1), w12, (AV.int .i64 x5.2.2.2.2.2.2.2)])))]) .lf = .ok (.sl 1 1 6 true) (mkCells [(vi x5.2.2.1), (vw x5.2.2.2.1), (vw x5.2.2.2.2.1), (vq x5.2.2.2.2.2.1), w12, (AV.int .i64 x5.2.2.2.2.2.2.2)] 6) ∧ (∃ e28 : Ev, evE (.append 6 56 (.const wA3) (.const (AV.slice (Hp.next e24.h) 0 1 1 6 true))) call .lf (hpush e24.h (mkCells [(vi x5.2.2.1), (vw x5.2.2.2.1), (vw x5.2.2.2.2.1), (vq x5.2.2.2.2.2.1), w12, (AV.int .i64 x5.2.2.2.2.2.2.2)] 6)) = .ok e28.v e28.h ∧ ((evQ (.loadS (.const (AV.ptr (Hp.next h15) 0))) .lf e28.h = .ok (vi x5.2.2.1) ∧ ((notB (ltI (Int.ofNat x5.2.2.1) (Int.ofNat 2)) = true → ((evQ (.loadS (.const (AV.ptr (Hp.next h15) 0))) .lf e28.h = .ok (vi x5.2.2.1) ∧ ((notB (ltI (Int.ofNat 4) (Int.ofNat x5.2.2.1)) = true → ((evQ (.loadS (.const (AV.ptr (Hp.next h15) 0))) .lf e28.h = .ok (vi x5.2.2.1) ∧ (∃ e42 : Ev, evE (.append 1 8 (.const wA4) (.const (AV.slice (Hp.next e28.h) 0 1 1 1 true))) call .lf (hpush e28.h (mkCells [(vi x5.2.2.1)] 1)) = .ok e42.v e42.h ∧ ((evQ (.lenL (.const e42.v)) .lf H0 = .ok (vi ((A4 ++ [x5.2.2.1]).length)) ∧ ((ltI (Int.ofNat 32) (Int.ofNat ((A4 ++ [x5.2.2.1]).length)) = true → (∃ x51 : List Nat × Nat, ∃ w60 : AV, ∃ h56 : Hp, (call 52 [(AV.ptr b1 0), (vi 4)] e42.h = .ok (AV.tuple []) h56 ∧ KN [some (AV.ptr b1 0), some wA2_1, some e28.v, some e42.v] h56))) ∧ (ltI (Int.ofNat 32) (Int.ofNat ((A4 ++ [x5.2.2.1]).length)) = false → KN [some (AV.ptr b1 0), some wA2_1, some e28.v, some e42.v] e42.h)))))))) ∧ (notB (ltI (Int.ofNat 4) (Int.ofNat x5.2.2.1)) = false → ((evQ (.loadS (.const (AV.ptr (Hp.next h15) 0))) .lf e28.h = .ok (vi x5.2.2.1) ∧ ((eqI (Int.ofNat x5.2.2.1) (Int.ofNat 5) = true → ((evQ (.lenL (.const wA4)) .lf H0 = .ok (vi A4.length) ∧ ((eqI (Int.ofNat A4.length) (Int.ofNat 0) = true → (∃ x45 : List Nat × Nat, ∃ w54 : AV, ∃ h50 : Hp, (call 52 [(AV.ptr b1 0), (vi 2)] e28.h = .ok (AV.tuple []) h50 ∧ KR [some (AV.ptr b1 0), some e28.v, some e28.v, some wA4] h50))) ∧ (eqI (Int.ofNat A4.length) (Int.ofNat 0) = false → ((evQ (.lenL (.const wA4)) .lf H0 = .ok (vi A4.length) ∧ ((evQ (.bin .sub (.const (vi A4.length)) (.const (vi 1))) .lf H0 = .ok (vi (A4.length - 1)) ∧ ((evQ (.idxAddrSl 1 (.const wA4) (.const (vi (A4.length - 1)))) .lf H0 = .ok (elemP wA4 (A4.length - 1) 1) ∧ ((evQ (.loadS (.const (elemP wA4 (A4.length - 1) 1))) .lf e28.h = .ok (vi (A4.getD (A4.length - 1) default)) ∧ ((notB (eqI (Int.ofNat (A4.getD (A4.length - 1) default)) (Int.ofNat 4)) = true → (∃ x49 : List Nat × Nat, ∃ w58 : AV, ∃ h54 : Hp, (call 52 [(AV.ptr b1 0), (vi 2)] e28.h = .ok (AV.tuple []) h54 ∧ KR [some (AV.ptr b1 0), some e28.v, some e28.v, some wA4] h54))) ∧ (notB (eqI (Int.ofNat (A4.getD (A4.length - 1) default)) (Int.ofNat 4)) = false → ((evQ (.lenL (.const wA4)) .lf H0 = .ok (vi A4.length) ∧ ((evQ (.bin .sub (.const (vi A4.length)) (.const (vi 1))) .lf H0 = .ok (vi (A4.length - 1)) ∧ ((evQ (.idxAddrSl 1 (.const wA4) (.const (vi (A4.length - 1)))) .lf H0 = .ok (elemP wA4 (A4.length - 1) 1) ∧ (∃ e47 : Ev, evE (.store 1 (.const (elemP wA4 (A4.length - 1) 1)) (.const (vi 5))) call .lf e28.h = .ok (AV.tuple []) e47.h ∧ KN [some (AV.ptr b1 0), some wA2_1, some e28.v, some wA4] e47.h)))))))))))))))))))))) ∧ (eqI (Int.ofNat x5.2.2.1) (Int.ofNat 5) = false → ((evQ (.loadS (.const (AV.ptr (Hp.next h15) 0))) .lf e28.h = .ok (vi x5.2.2.1) ∧ ((eqI (Int.ofNat x5.2.2.1) (Int.ofNat 11) = true → ((evQ (.lenL (.const wA4)) .lf H0 = .ok (vi A4.length) ∧ ((eqI (Int.ofNat A4.length) (Int.ofNat 0) = true → KR [some (AV.ptr b1 0), some e28.v, some e28.v, some wA4] e28.h) ∧ (eqI (Int.ofNat A4.length) (Int.ofNat 0) = false → ((evQ (.lenL (.const wA4)) .lf H0 = .ok (vi A4.length) ∧ ((evQ (.bin .sub (.const (vi A4.length)) (.const (vi 1))) .lf H0 = .ok (vi (A4.length - 1)) ∧ ((evQ (.sliceSl 1 (.const wA4) none (some (.const (vi (A4.length - 1)))) none) .lf H0 = .ok (partS wA4 0 (A4.length - 1)) ∧ KN [some (AV.ptr b1 0), some wA2_1, some e28.v, some (partS wA4 0 (A4.length - 1))] e28.h))))))))))) ∧ (eqI (Int.ofNat x5.2.2.1) (Int.ofNat 11) = false → KN [some (AV.ptr b1 0), some wA2_1, some e28.v, some wA4] e28.h))))))))))))) ∧ (notB (ltI (Int.ofNat x5.2.2.1) (Int.ofNat 2)) = false → ((evQ (.loadS (.const (AV.ptr (Hp.next h15) 0))) .lf e28.h = .ok (vi x5.2.2.1) ∧ ((eqI (Int.ofNat x5.2.2.1) (Int.ofNat 5) = true → ((evQ (.lenL (.const wA4)) .lf H0 = .ok (vi A4.length) ∧ ((eqI (Int.ofNat A4.length) (Int.ofNat 0) = true → (∃ x44 : List Nat × Nat, ∃ w53 : AV, ∃ h49 : Hp, (call 52 [(AV.ptr b1 0), (vi 2)] e28.h = .ok (AV.tuple []) h49 ∧ KR [some (AV.ptr b1 0), some e28.v, some e28.v, some wA4] h49))) ∧ (eqI (Int.ofNat A4.length) (Int.ofNat 0) = false → ((evQ (.lenL (.const wA4)) .lf H0 = .ok (vi A4.length) ∧ ((evQ (.bin .sub (.const (vi A4.length)) (.const (vi 1))) .lf H0 = .ok (vi (A4.length - 1)) ∧ ((evQ (.idxAddrSl 1 (.const wA4) (.const (vi (A4.length - 1)))) .lf H0 = .ok (elemP wA4 (A4.length - 1) 1) ∧ ((evQ (.loadS (.const (elemP wA4 (A4.length - 1) 1))) .lf e28.h = .ok (vi (A4.getD (A4.length - 1) default)) ∧ ((notB (eqI (Int.ofNat (A4.getD (A4.length - 1) default)) (Int.ofNat 4)) = true → (∃ x48 : List Nat × Nat, ∃ w57 : AV, ∃ h53 : Hp, (call 52 [(AV.ptr b1 0), (vi 2)] e28.h = .ok (AV.tuple []) h53 ∧ KR [some (AV.ptr b1 0), some e28.v, some e28.v, some wA4] h53))) ∧ (notB (eqI (Int.ofNat (A4.getD (A4.length - 1) default)) (Int.ofNat 4)) = false → ((evQ (.lenL (.const wA4)) .lf H0 = .ok (vi A4.length) ∧ ((evQ (.bin .sub (.const (vi A4.length)) (.const (vi 1))) .lf H0 = .ok (vi (A4.length - 1)) ∧ ((evQ (.idxAddrSl 1 (.const wA4) (.const (vi (A4.length - 1)))) .lf H0 = .ok (elemP wA4 (A4.length - 1) 1) ∧ (∃ e46 : Ev, evE (.store 1 (.const (elemP wA4 (A4.length - 1) 1)) (.const (vi 5))) call .lf e28.h = .ok (AV.tuple []) e46.h ∧ KN [some (AV.ptr b1 0), some wA2_1, some e28.v, some wA4] e46.h)))))))))))))))))))))) ∧ (eqI (Int.ofNat x5.2.2.1) (Int.ofNat 5) = false → ((evQ (.loadS (.const (AV.ptr (Hp.next h15) 0))) .lf e28.h = .ok (vi x5.2.2.1) ∧ ((eqI (Int.ofNat x5.2.2.1) (Int.ofNat 11) = true → ((evQ (.lenL (.const wA4)) .lf H0 = .ok (vi A4.length) ∧ ((eqI (Int.ofNat A4.length) (Int.ofNat 0) = true → KR [some (AV.ptr b1 0), some e28.v, some e28.v, some wA4] e28.h) ∧ (eqI (Int.ofNat A4.length) (Int.ofNat 0) = false → ((evQ (.lenL (.const wA4)) .lf H0 = .ok (vi A4.length) ∧ ((evQ (.bin .sub (.const (vi A4.length)) (.const (vi 1))) .lf H0 = .ok (vi (A4.length - 1)) ∧ ((evQ (.sliceSl 1 (.const wA4) none (some (.const (vi (A4.length - 1)))) none) .lf H0 = .ok (partS wA4 0 (A4.length - 1)) ∧ KN [some (AV.ptr b1 0), some wA2_1, some e28.v, some (partS wA4 0 (A4.length - 1))] e28.h))))))))))) ∧ (eqI (Int.ofNat x5.2.2.1) (Int.ofNat 11) = false → KN [some (AV.ptr b1 0), some wA2_1, some e28.v, some wA4] e28.h)))))))))))))))))))))))))))) ∧ (eqI (Int.ofNat Q1_1) (Int.ofNat 0) = false → KE 0 [some (AV.ptr b1 0), some wA2_1, some wA3, some wA4] h))))) (fun ls h' => ∃ y, ls = ((fun (z : Nat × List Nat × List (Nat × Nat × Nat × Nat × List Nat × Int) × List Nat × List Nat × Nat × AV × AV × List AV × AV × List AV × AV × (Nat → Prop) × Hp × (Nat → Prop) × Hp) => [(0, (AV.ptr b1 0)), (2, z.2.2.2.2.2.2.1), (3, z.2.2.2.2.2.2.2.1), (4, z.2.2.2.2.2.2.2.2.2.1)]) y).map (fun p => some p.2) ∧ (fun (z : Nat × List Nat × List (Nat × Nat × Nat × Nat × List Nat × Int) × List Nat × List Nat × Nat × AV × AV × List AV × AV × List AV × AV × (Nat → Prop) × Hp × (Nat → Prop) × Hp) (h' : Hp) => rbody_l1  z.1 z.2.1 z.2.2.1 z.2.2.2.1 z.2.2.2.2.1 z.2.2.2.2.2.1 = some o ∧ (BIn G h0 z.2.2.2.2.2.2.1 z.2.1) ∧ (Eng.Rows (rP (rN0 .i64) (rP (rU .u32) (rP (rU .u32) (rP (rU .u64) (rP (rL (rU .u32)) (rZ .i64)))))) z.2.2.2.2.2.2.2.2.2.2.2.2.2.2.1 z.2.2.2.2.2.2.2.2.2.2.2.2.2.2.2 z.2.2.2.2.2.2.2.2.1 z.2.2.1) ∧ (Eng.Rows (rN0 .i64) z.2.2.2.2.2.2.2.2.2.2.2.2.1 z.2.2.2.2.2.2.2.2.2.2.2.2.2.1 z.2.2.2.2.2.2.2.2.2.2.1 z.2.2.2.1) ∧ (BIn G h0 z.2.2.2.2.2.2.2.2.2.2.2.1 z.2.2.2.2.1) ∧ (Up ZG_103 Zk_103 z.2.2.2.2.2.2.2.2.2.2.2.2.1 z.2.2.2.2.2.2.2.2.2.2.2.2.2.1) ∧ (Up ZG_101 Zk_101 z.2.2.2.2.2.2.2.2.2.2.2.2.2.2.1 z.2.2.2.2.2.2.2.2.2.2.2.2.2.2.2) ∧ Eng.Sep (OwnO 6 z.2.2.2.2.2.2.2.1 z.2.2.1.length z.2.2.2.2.2.2.2.2.1 :: OwnO 1 z.2.2.2.2.2.2.2.2.2.1 z.2.2.2.1.length z.2.2.2.2.2.2.2.2.2.2.1 :: Cel b1 (z.2.2.2.2.2.2.2.2.2.2.2.1 :: (vi z.2.2.2.2.2.1) :: rest) :: Frz z.2.2.2.2.2.2.2.2.2.2.2.2.1 z.2.2.2.2.2.2.2.2.2.2.2.2.2.1 :: Frz z.2.2.2.2.2.2.2.2.2.2.2.2.2.2.1 z.2.2.2.2.2.2.2.2.2.2.2.2.2.2.2 :: Frz G h0 :: R) h') y h' ∧ (fun (z : Nat × List Nat × List (Nat × Nat × Nat × Nat × List Nat × Int) × List Nat × List Nat × Nat × AV × AV × List AV × AV × List AV × AV × (Nat → Prop) × Hp × (Nat → Prop) × Hp) => z.1) y < (fun (z : Nat × List Nat × List (Nat × Nat × Nat × Nat × List Nat × Int) × List Nat × List Nat × Nat × AV × AV × List AV × AV × List AV × AV × (Nat → Prop) × Hp × (Nat → Prop) × Hp) => z.1) (n, A2, A3, A4, Q1_0, Q1_1, wA2_1, wA3, LA3, wA4, LA4, wQ1_0_1, G_103, k_103, G_101, k_101)) (fun i ls h' => ∃ y, ls = ((fun (z : Nat × List Nat × List (Nat × Nat × Nat × Nat × List Nat × Int) × List Nat × List Nat × Nat × AV × AV × List AV × AV × List AV × AV × (Nat → Prop) × Hp × (Nat → Prop) × Hp) => [(0, (AV.ptr b1 0)), (2, z.2.2.2.2.2.2.1), (3, z.2.2.2.2.2.2.2.1), (4, z.2.2.2.2.2.2.2.2.2.1)]) y).map (fun p => some p.2) ∧ (fun (i : Nat) (z : Nat × List Nat × List (Nat × Nat × Nat × Nat × List Nat × Int) × List Nat × List Nat × Nat × AV × AV × List AV × AV × List AV × AV × (Nat → Prop) × Hp × (Nat → Prop) × Hp) (h' : Hp) => (i = 0) ∧ (i = 0 → o = LO.ex (z.2.1, z.2.2.1, z.2.2.2.1, z.2.2.2.2.1, z.2.2.2.2.2.1) ∧ (BIn G h0 z.2.2.2.2.2.2.1 z.2.1) ∧ (Eng.Rows (rP (rN0 .i64) (rP (rU .u32) (rP (rU .u32) (rP (rU .u64) (rP (rL (rU .u32)) (rZ .i64)))))) z.2.2.2.2.2.2.2.2.2.2.2.2.2.2.1 z.2.2.2.2.2.2.2.2.2.2.2.2.2.2.2 z.2.2.2.2.2.2.2.2.1 z.2.2.1) ∧ (Eng.Rows (rN0 .i64) z.2.2.2.2.2.2.2.2.2.2.2.2.1 z.2.2.2.2.2.2.2.2.2.2.2.2.2.1 z.2.2.2.2.2.2.2.2.2.2.1 z.2.2.2.1) ∧ (BIn G h0 z.2.2.2.2.2.2.2.2.2.2.2.1 z.2.2.2.2.1) ∧ (Up ZG_103 Zk_103 z.2.2.2.2.2.2.2.2.2.2.2.2.1 z.2.2.2.2.2.2.2.2.2.2.2.2.2.1) ∧ (Up ZG_101 Zk_101 z.2.2.2.2.2.2.2.2.2.2.2.2.2.2.1 z.2.2.2.2.2.2.2.2.2.2.2.2.2.2.2) ∧ Eng.Sep (OwnO 6 z.2.2.2.2.2.2.2.1 z.2.2.1.length z.2.2.2.2.2.2.2.2.1 :: OwnO 1 z.2.2.2.2.2.2.2.2.2.1 z.2.2.2.1.length z.2.2.2.2.2.2.2.2.2.2.1 :: Cel b1 (z.2.2.2.2.2.2.2.2.2.2.2.1 :: (vi z.2.2.2.2.2.1) :: rest) :: Frz z.2.2.2.2.2.2.2.2.2.2.2.2.1 z.2.2.2.2.2.2.2.2.2.2.2.2.2.1 :: Frz z.2.2.2.2.2.2.2.2.2.2.2.2.2.2.1 z.2.2.2.2.2.2.2.2.2.2.2.2.2.2.2 :: Frz G h0 :: R) h')) i y h') (fun ls h' => (fun (ls : List (Option AV)) (h' : Hp) => ∃ (rt : List Nat × Nat × List (Nat × Nat × Nat × Nat × List Nat × Int)) (v2 : AV), o = LO.rt rt ∧ ls[1]? = some (some v2) ∧ (∃ wk1 : AV, ∃ Lk3 : List AV, ∃ wk4 : AV, ∃ Gk : Nat → Prop, ∃ kk : Hp, v2 = wk1 ∧ (Eng.Rows (rP (rN0 .i64) (rP (rU .u32) (rP (rU .u32) (rP (rU .u64) (rP (rL (rU .u32)) (rZ .i64)))))) Gk kk Lk3 rt.2.2) ∧ (BIn G h0 wk4 rt.1) ∧ Eng.Sep (OwnO 6 wk1 rt.2.2.length Lk3 :: Cel b1 (wk4 :: (vi rt.2.1) :: rest) :: Frz Gk kk :: Frz G h0 :: R) h')) ls h')) (by kernel_rfl) ?_
  refine ⟨cel_load S (i := 2) rfl rfl, ?_⟩
  refine ⟨fun c1 => ?_, fun c1 => ?_⟩
  · replace c1 := eqI_t c1
    replace hp := ift hp c1
    refine ⟨own_len S (i := 0) rfl, ?_⟩
    refine ⟨fun c2 => ?_, fun c2 => ?_⟩
    · replace c2 := ltI_f (notB_t c2)
      replace hp := ift hp c2
      have S3 := S.front 5 rfl
      have S4 := S3.front 3 rfl
      have ⟨x5, hb6, hp⟩ := ob_inv hp
      obtain ⟨v9, h10, q11, w14, e12, f15, S13⟩ := h_rfail fQ1_0_2 hb6 S4
      replace e12 := e12.symm
      subst e12
      refine ⟨x5, w14, h10, q11, ?_⟩
      have S18 := S13.front 3 rfl
      have S19 := S18.tail
      have S20 := S19.front 3 rfl
      have S21 := S20.tail
      have S22 := S21.front 1 rfl
      have S23 := S22.front 3 rfl
      have S24 := S23.front 2 rfl
      have S25 := S24.front 3 rfl
      refine ⟨_, wA3, (Option.some.inj hp).symm, rfl, ?_⟩
      exact ⟨wA3, LA3, w14, G_101, k_101, rfl, fA3, f15, S25⟩
    replace c2 := ltI_t (notB_f c2)
    replace hp := iff0 hp (nleO c2)
    have S3 := S.front 5 rfl
    have S4 := S3.front 3 rfl
    have ⟨x5, hb6, hp⟩ := ob_inv hp
    obtain ⟨v14, h15, q16, w12, w19, G7, k8, e17, f9, f10, f11, f13, f20, S18⟩ := h_rinstr fQ1_0_2 hb6 S4
    replace e17 := e17.symm
    subst e17
    refine ⟨x5, w12, w19, h15, q16, ?_⟩
    have S23 := cel_new S18 [(vi 0), (vw 0), (vw 0), (vq 0), AV.nilSlice, (vi 0)] rfl
    obtain ⟨e24, qe24, se24⟩ := cel_storeN call S23 (i := 0) (o := 0) (n := 6) (xs := [(vi x5.2.2.1), (vw x5.2.2.2.1), (vw x5.2.2.2.2.1), (vq x5.2.2.2.2.2.1), w12, (AV.int .i64 x5.2.2.2.2.2.2.2)]) rfl (lb rfl) rfl (by decide) (all_cell rfl (all_cell rfl (all_cell rfl (all_cell rfl (all_cell (SIn.cell f13) (all_cell rfl all_cell0))))))
    refine ⟨e24, qe24, ?_⟩
    refine ⟨cel_load se24 (i := 1) rfl rfl, ?_⟩
    refine ⟨fun c26 => ?_, fun c26 => ?_⟩
    · replace c26 := eqI_f (notB_t c26)
      replace hp := ift hp c26
      have S27 := se24.tail
      have S28 := S27.front 1 rfl
      have S29 := S28.tail
      have S30 := S29.front 3 rfl
      have S31 := S30.tail
      have S32 := S31.front 3 rfl
      have S33 := S32.tail
      have S34 := S33.front 1 rfl
      have S35 := S34.front 3 rfl
      have S36 := S35.front 2 rfl
      have S37 := S36.front 3 rfl
      refine ⟨_, wA3, (Option.some.inj hp).symm, rfl, ?_⟩
      exact ⟨wA3, LA3, w19, G_101, k_101, rfl, fA3, f20, S37⟩
    replace c26 := eqI_t (notB_f c26)
    replace hp := iff0 hp (nneO c26)
    refine ⟨cel_loadA se24 (i := 0) (o := 0) (n := 6) rfl (lb rfl), ?_⟩
    refine ⟨lit_told (n := 6) (by show fillParts _ _ 6 [(vi 0), (vw 0), (vw 0), (vq 0), AV.nilSlice, (vi 0)] = _; rw [fill_cons (o := 0) (k := 6) (n := 6) rfl rfl (by decide)]; rfl) (all_cell rfl (all_cell rfl (all_cell rfl (all_cell rfl (all_cell (SIn.cell f13) (all_cell rfl all_cell0)))))) rfl, ?_⟩
    have S27 := own_new se24 6 1 [(vi x5.2.2.1), (vw x5.2.2.2.1), (vw x5.2.2.2.2.1), (vq x5.2.2.2.2.2.1), w12, (AV.int .i64 x5.2.2.2.2.2.2.2)] true rfl
    have S29 := S27.front 3 rfl
    have S30 := S29.front 8 rfl
    obtain ⟨G31, uG31, vG31, sG31⟩ := Sep.mergeX S30
    have ⟨g33, hp⟩ := gd_inv hp
    obtain ⟨e28, qe28, se28⟩ := own_append (bytes := 56) call sG31 (i := 5) rfl (x := (AV.slice (Hp.next e24.h) 0 1 1 6 true)) (m := 1) (xs := [(vi x5.2.2.1), (vw x5.2.2.2.1), (vw x5.2.2.2.2.1), (vq x5.2.2.2.2.2.1), w12, (AV.int .i64 x5.2.2.2.2.2.2.2)]) (fun z k => own_src sG31 (i := 1) rfl z k) (own_L sG31 (i := 1) rfl) (all_cell rfl (all_cell rfl (all_cell rfl (all_cell rfl (all_cell (SIn.cell (SIn.up vG31 f13)) (all_cell rfl all_cell0)))))) g33 (by omega)
    obtain ⟨L34, rL34, eL34⟩ : ∃ L, Eng.Rows (rP (rN0 .i64) (rP (rU .u32) (rP (rU .u32) (rP (rU .u64) (rP (rL (rU .u32)) (rZ .i64)))))) G31 (hpush e24.h (mkCells [(vi x5.2.2.1), (vw x5.2.2.2.1), (vw x5.2.2.2.2.1), (vq x5.2.2.2.2.2.1), w12, (AV.int .i64 x5.2.2.2.2.2.2.2)] 6)) L (A3 ++ [(x5.2.2.1, x5.2.2.2.1, x5.2.2.2.2.1, x5.2.2.2.2.2.1, x5.2.2.2.2.2.2.1, x5.2.2.2.2.2.2.2)]) ∧ LA3 ++ [(vi x5.2.2.1), (vw x5.2.2.2.1), (vw x5.2.2.2.2.1), (vq x5.2.2.2.2.2.1), w12, (AV.int .i64 x5.2.2.2.2.2.2.2)] = L := ⟨_, (Rows.snoc (Rows.up uG31 fA3) (a := (rP (rN0 .i64) (rP (rU .u32) (rP (rU .u32) (rP (rU .u64) (rP (rL (rU .u32)) (rZ .i64))))))) (x := (x5.2.2.1, x5.2.2.2.1, x5.2.2.2.2.1, x5.2.2.2.2.2.1, x5.2.2.2.2.2.2.1, x5.2.2.2.2.2.2.2)) ⟨_, _, rfl, rfl, ⟨_, _, rfl, ⟨rfl, f9⟩, ⟨_, _, rfl, ⟨rfl, f10⟩, ⟨_, _, rfl, ⟨rfl, f11⟩, ⟨_, _, rfl, ⟨w12, rfl, (SIn.up vG31 f13)⟩, rfl⟩⟩⟩⟩⟩), rfl⟩
    have S36 : Sep (Frz G31 (hpush e24.h (mkCells [(vi x5.2.2.1), (vw x5.2.2.2.1), (vw x5.2.2.2.2.1), (vq x5.2.2.2.2.2.1), w12, (AV.int .i64 x5.2.2.2.2.2.2.2)] 6)) :: OwnO 6 (AV.slice (Hp.next e24.h) 0 1 1 6 true) 1 [(vi x5.2.2.1), (vw x5.2.2.2.1), (vw x5.2.2.2.2.1), (vq x5.2.2.2.2.2.1), w12, (AV.int .i64 x5.2.2.2.2.2.2.2)] :: Cel (Hp.next h15) [(vi x5.2.2.1), (vw x5.2.2.2.1), (vw x5.2.2.2.2.1), (vq x5.2.2.2.2.2.1), w12, (AV.int .i64 x5.2.2.2.2.2.2.2)] :: Cel b1 (w19 :: (vi x5.2.1) :: rest) :: Frz G h0 :: OwnO 6 e28.v ((A3 ++ [(x5.2.2.1, x5.2.2.2.1, x5.2.2.2.2.1, x5.2.2.2.2.2.1, x5.2.2.2.2.2.2.1, x5.2.2.2.2.2.2.2)]).length) L34 :: OwnO 1 wA4 A4.length LA4 :: Frz G_103 k_103 :: R) e28.h := (by have z := se28; rw [eL34, show A3.length + 1 = (A3 ++ [(x5.2.2.1, x5.2.2.2.1, x5.2.2.2.2.1, x5.2.2.2.2.2.1, x5.2.2.2.2.2.2.1, x5.2.2.2.2.2.2.2)]).length from by simp] at z; exact z)
    have S37 := S36.front 1 rfl
    have S38 := S37.tail
    refine ⟨e28, qe28, ?_⟩
    refine ⟨cel_load S38 (i := 1) rfl rfl, ?_⟩
    refine ⟨fun c39 => ?_, fun c39 => ?_⟩
    · replace c39 := ltI_f (notB_t c39)
      replace hp := ift hp c39
      refine ⟨cel_load S38 (i := 1) rfl rfl, ?_⟩
      refine ⟨fun c40 => ?_, fun c40 => ?_⟩
      · replace c40 := ltI_f (notB_t c40)
        replace hp := ift hp c40
        refine ⟨cel_load S38 (i := 1) rfl rfl, ?_⟩
        have S41 := own_new S38 1 1 [(vi x5.2.2.1)] true rfl
        have ⟨g43, hp⟩ := gd_inv hp
        obtain ⟨e42, qe42, se42⟩ := own_append (bytes := 8) call S41 (i := 6) rfl (x := (AV.slice (Hp.next e28.h) 0 1 1 1 true)) (m := 1) (xs := [(vi x5.2.2.1)]) (fun z k => own_src S41 (i := 0) rfl z k) (own_L S41 (i := 0) rfl) (all_cell rfl all_cell0) g43 (by omega)
        obtain ⟨L44, rL44, eL44⟩ : ∃ L, Eng.Rows (rN0 .i64) G_103 k_103 L (A4 ++ [x5.2.2.1]) ∧ LA4 ++ [(vi x5.2.2.1)] = L := ⟨_, (Rows.snoc fA4 (a := (rN0 .i64)) (x := x5.2.2.1) rfl), rfl⟩
        have S46 : Sep (OwnO 1 (AV.slice (Hp.next e28.h) 0 1 1 1 true) 1 [(vi x5.2.2.1)] :: Frz G31 (hpush e24.h (mkCells [(vi x5.2.2.1), (vw x5.2.2.2.1), (vw x5.2.2.2.2.1), (vq x5.2.2.2.2.2.1), w12, (AV.int .i64 x5.2.2.2.2.2.2.2)] 6)) :: Cel (Hp.next h15) [(vi x5.2.2.1), (vw x5.2.2.2.1), (vw x5.2.2.2.2.1), (vq x5.2.2.2.2.2.1), w12, (AV.int .i64 x5.2.2.2.2.2.2.2)] :: Cel b1 (w19 :: (vi x5.2.1) :: rest) :: Frz G h0 :: OwnO 6 e28.v ((A3 ++ [(x5.2.2.1, x5.2.2.2.1, x5.2.2.2.2.1, x5.2.2.2.2.2.1, x5.2.2.2.2.2.2.1, x5.2.2.2.2.2.2.2)]).length) L34 :: OwnO 1 e42.v ((A4 ++ [x5.2.2.1]).length) L44 :: Frz G_103 k_103 :: R) e42.h := (by have z := se42; rw [eL44, show A4.length + 1 = (A4 ++ [x5.2.2.1]).length from by simp] at z; exact z)
        have S47 := S46.tail
        refine ⟨e42, qe42, ?_⟩
        refine ⟨own_len S47 (i := 5) rfl, ?_⟩
        refine ⟨fun c48 => ?_, fun c48 => ?_⟩
        · replace c48 := ltI_t c48
          replace hp := ift hp c48
          have S49 := S47.front 3 rfl
          have S50 := S49.front 3 rfl
          have ⟨x51, hb52, hp⟩ := ob_inv hp
          obtain ⟨v55, h56, q57, w60, e58, f61, S59⟩ := h_rfail f20 hb52 S50
          replace e58 := e58.symm
          subst e58
          refine ⟨x51, w60, h56, q57, ?_⟩
          have S64 := S59.front 3 rfl
          have S65 := S64.tail
          have S66 := S65.front 1 rfl
          have S67 := S66.front 2 rfl
          have S68 := S67.front 5 rfl
          have S69 := S68.front 3 rfl
          have S70 := S69.front 5 rfl
          have S71 := S70.front 5 rfl
          refine ⟨(m, A2, A3 ++ [(x5.2.2.1, x5.2.2.2.1, x5.2.2.2.2.1, x5.2.2.2.2.2.1, x5.2.2.2.2.2.2.1, x5.2.2.2.2.2.2.2)], A4 ++ [x5.2.2.1], x51.1, x51.2, wA2_1, e28.v, L34, e42.v, L44, w60, G_103, k_103, G31, hpush e24.h (mkCells [(vi x5.2.2.1), (vw x5.2.2.2.1), (vw x5.2.2.2.2.1), (vq x5.2.2.2.2.2.1), w12, (AV.int .i64 x5.2.2.2.2.2.2.2)] 6)), rfl, ⟨hp, fA2_2, rL34, rL44, f61, fU_103, (Up.trans fU_101 uG31), S71⟩, by show m < n; omega⟩
        replace c48 := ltI_f c48
        replace hp := iff0 hp (nltO c48)
        have S49 := S47.front 1 rfl
        have S50 := S49.tail
        have S51 := S50.front 2 rfl
        have S52 := S51.front 1 rfl
        have S53 := S52.front 5 rfl
        have S54 := S53.front 3 rfl
        have S55 := S54.front 5 rfl
        have S56 := S55.front 5 rfl
        refine ⟨(m, A2, A3 ++ [(x5.2.2.1, x5.2.2.2.1, x5.2.2.2.2.1, x5.2.2.2.2.2.1, x5.2.2.2.2.2.2.1, x5.2.2.2.2.2.2.2)], A4 ++ [x5.2.2.1], x5.1, x5.2.1, wA2_1, e28.v, L34, e42.v, L44, w19, G_103, k_103, G31, hpush e24.h (mkCells [(vi x5.2.2.1), (vw x5.2.2.2.1), (vw x5.2.2.2.2.1), (vq x5.2.2.2.2.2.1), w12, (AV.int .i64 x5.2.2.2.2.2.2.2)] 6)), rfl, ⟨hp, fA2_2, rL34, rL44, f20, fU_103, (Up.trans fU_101 uG31), S56⟩, by show m < n; omega⟩
      replace c40 := ltI_t (notB_f c40)
      replace hp := iff0 hp (nleO c40)
      refine ⟨cel_load S38 (i := 1) rfl rfl, ?_⟩
      refine ⟨fun c41 => ?_, fun c41 => ?_⟩
      · replace c41 := eqI_t c41
        replace hp := ift hp c41
        refine ⟨own_len S38 (i := 5) rfl, ?_⟩
        refine ⟨fun c42 => ?_, fun c42 => ?_⟩
        · replace c42 := eqI_t c42
          replace hp := ift hp c42
          have S43 := S38.front 3 rfl
          have S44 := S43.front 3 rfl
          have ⟨x45, hb46, hp⟩ := ob_inv hp
          obtain ⟨v49, h50, q51, w54, e52, f55, S53⟩ := h_rfail f20 hb46 S44
          replace e52 := e52.symm
          subst e52
          refine ⟨x45, w54, h50, q51, ?_⟩
          have S58 := S53.front 3 rfl
          have S59 := S58.tail
          have S60 := S59.front 4 rfl
          have S61 := S60.tail
          have S62 := S61.front 4 rfl
          have S63 := S62.tail
          have S64 := S63.front 1 rfl
          have S65 := S64.front 2 rfl
          have S66 := S65.front 2 rfl
          have S67 := S66.front 3 rfl
          refine ⟨_, e28.v, (Option.some.inj hp).symm, rfl, ?_⟩
          exact ⟨e28.v, L34, w54, G31, hpush e24.h (mkCells [(vi x5.2.2.1), (vw x5.2.2.2.1), (vw x5.2.2.2.2.1), (vq x5.2.2.2.2.2.1), w12, (AV.int .i64 x5.2.2.2.2.2.2.2)] 6), rfl, rL34, f55, S67⟩
        replace c42 := eqI_f c42
        replace hp := iff0 hp (c42)
        refine ⟨own_len S38 (i := 5) rfl, ?_⟩
        have ⟨g43, hp⟩ := gd_inv hp
        have ⟨g44, hp⟩ := gd_inv hp
        refine ⟨q_sub g43 g44, ?_⟩
        have ⟨g45, hp⟩ := gd_inv hp
        refine ⟨own_idx S38 (i := 5) rfl g45, ?_⟩
        refine ⟨own_loadR S38 (i := 5) rfl rfl fA4 g45 (f := (fun x => AV.int .i64 (Int.ofNat x))) (fun _ _ e => e), ?_⟩
        refine ⟨fun c46 => ?_, fun c46 => ?_⟩
        · replace c46 := eqI_f (notB_t c46)
          replace hp := ift hp c46
          have S47 := S38.front 3 rfl
          have S48 := S47.front 3 rfl
          have ⟨x49, hb50, hp⟩ := ob_inv hp
          obtain ⟨v53, h54, q55, w58, e56, f59, S57⟩ := h_rfail f20 hb50 S48
          replace e56 := e56.symm
          subst e56
          refine ⟨x49, w58, h54, q55, ?_⟩
          have S62 := S57.front 3 rfl
          have S63 := S62.tail
          have S64 := S63.front 4 rfl
          have S65 := S64.tail
          have S66 := S65.front 4 rfl
          have S67 := S66.tail
          have S68 := S67.front 1 rfl
          have S69 := S68.front 2 rfl
          have S70 := S69.front 2 rfl
          have S71 := S70.front 3 rfl
          refine ⟨_, e28.v, (Option.some.inj hp).symm, rfl, ?_⟩
          exact ⟨e28.v, L34, w58, G31, hpush e24.h (mkCells [(vi x5.2.2.1), (vw x5.2.2.2.1), (vw x5.2.2.2.2.1), (vq x5.2.2.2.2.2.1), w12, (AV.int .i64 x5.2.2.2.2.2.2.2)] 6), rfl, rL34, f59, S71⟩
        replace c46 := eqI_t (notB_f c46)
        replace hp := iff0 hp (nneO c46)
        refine ⟨own_len S38 (i := 5) rfl, ?_⟩
        refine ⟨q_sub g43 g44, ?_⟩
        refine ⟨own_idx S38 (i := 5) rfl g45, ?_⟩
        obtain ⟨e47, qe47, se47⟩ := own_store1 call S38 (i := 5) (k := A4.length - 1) (x := (vi 5)) rfl g45 rfl
        obtain ⟨L48, rL48, eL48⟩ : ∃ L, Eng.Rows (rN0 .i64) G_103 k_103 L (A4.set (A4.length - 1) 5) ∧ LA4.set (A4.length - 1) (vi 5) = L := ⟨_, Rows.set1 rfl fA4 rfl, rfl⟩
        have S49 : Sep (Frz G31 (hpush e24.h (mkCells [(vi x5.2.2.1), (vw x5.2.2.2.1), (vw x5.2.2.2.2.1), (vq x5.2.2.2.2.2.1), w12, (AV.int .i64 x5.2.2.2.2.2.2.2)] 6)) :: Cel (Hp.next h15) [(vi x5.2.2.1), (vw x5.2.2.2.1), (vw x5.2.2.2.2.1), (vq x5.2.2.2.2.2.1), w12, (AV.int .i64 x5.2.2.2.2.2.2.2)] :: Cel b1 (w19 :: (vi x5.2.1) :: rest) :: Frz G h0 :: OwnO 6 e28.v ((A3 ++ [(x5.2.2.1, x5.2.2.2.1, x5.2.2.2.2.1, x5.2.2.2.2.2.1, x5.2.2.2.2.2.2.1, x5.2.2.2.2.2.2.2)]).length) L34 :: OwnO 1 wA4 ((A4.set (A4.length - 1) 5).length) L48 :: Frz G_103 k_103 :: R) e47.h := (by have z := se47; rw [eL48, show A4.length = (A4.set (A4.length - 1) 5).length from by simp] at z; exact z)
        refine ⟨e47, qe47, ?_⟩
        have S50 := S49.front 1 rfl
        have S51 := S50.tail
        have S52 := S51.front 2 rfl
        have S53 := S52.front 1 rfl
        have S54 := S53.front 5 rfl
        have S55 := S54.front 3 rfl
        have S56 := S55.front 5 rfl
        have S57 := S56.front 5 rfl
        refine ⟨(m, A2, A3 ++ [(x5.2.2.1, x5.2.2.2.1, x5.2.2.2.2.1, x5.2.2.2.2.2.1, x5.2.2.2.2.2.2.1, x5.2.2.2.2.2.2.2)], A4.set (A4.length - 1) 5, x5.1, x5.2.1, wA2_1, e28.v, L34, wA4, L48, w19, G_103, k_103, G31, hpush e24.h (mkCells [(vi x5.2.2.1), (vw x5.2.2.2.1), (vw x5.2.2.2.2.1), (vq x5.2.2.2.2.2.1), w12, (AV.int .i64 x5.2.2.2.2.2.2.2)] 6)), rfl, ⟨hp, fA2_2, rL34, rL48, f20, fU_103, (Up.trans fU_101 uG31), S57⟩, by show m < n; omega⟩
      replace c41 := eqI_f c41
      replace hp := iff0 hp (c41)
      refine ⟨cel_load S38 (i := 1) rfl rfl, ?_⟩
      refine ⟨fun c42 => ?_, fun c42 => ?_⟩
      · replace c42 := eqI_t c42
        replace hp := ift hp c42
        refine ⟨own_len S38 (i := 5) rfl, ?_⟩
        refine ⟨fun c43 => ?_, fun c43 => ?_⟩
        · replace c43 := eqI_t c43
          replace hp := ift hp c43
          have S44 := S38.front 1 rfl
          have S45 := S44.tail
          have S46 := S45.front 4 rfl
          have S47 := S46.tail
          have S48 := S47.front 4 rfl
          have S49 := S48.tail
          have S50 := S49.front 2 rfl
          have S51 := S50.front 1 rfl
          have S52 := S51.front 2 rfl
          have S53 := S52.front 3 rfl
          refine ⟨_, e28.v, (Option.some.inj hp).symm, rfl, ?_⟩
          exact ⟨e28.v, L34, w19, G31, hpush e24.h (mkCells [(vi x5.2.2.1), (vw x5.2.2.2.1), (vw x5.2.2.2.2.1), (vq x5.2.2.2.2.2.1), w12, (AV.int .i64 x5.2.2.2.2.2.2.2)] 6), rfl, rL34, f20, S53⟩
        replace c43 := eqI_f c43
        replace hp := iff0 hp (c43)
        refine ⟨own_len S38 (i := 5) rfl, ?_⟩
        have ⟨g44, hp⟩ := gd_inv hp
        have ⟨g45, hp⟩ := gd_inv hp
        refine ⟨q_sub g44 g45, ?_⟩
        have ⟨g46, hp⟩ := gd_inv hp
        obtain ⟨qS47, sS47⟩ := own_cutR (xs := A4) S38 (i := 5) (k := A4.length - 1) rfl g46
        obtain ⟨L48, rL48, eL48⟩ : ∃ L, Eng.Rows (rN0 .i64) G_103 k_103 L (A4.take (A4.length - 1)) ∧ LA4.take ((A4.length - 1) * 1) = L := ⟨_, Rows.take1 (A4.length - 1) fA4, rfl⟩
        have S49 : Sep (Frz G31 (hpush e24.h (mkCells [(vi x5.2.2.1), (vw x5.2.2.2.1), (vw x5.2.2.2.2.1), (vq x5.2.2.2.2.2.1), w12, (AV.int .i64 x5.2.2.2.2.2.2.2)] 6)) :: Cel (Hp.next h15) [(vi x5.2.2.1), (vw x5.2.2.2.1), (vw x5.2.2.2.2.1), (vq x5.2.2.2.2.2.1), w12, (AV.int .i64 x5.2.2.2.2.2.2.2)] :: Cel b1 (w19 :: (vi x5.2.1) :: rest) :: Frz G h0 :: OwnO 6 e28.v ((A3 ++ [(x5.2.2.1, x5.2.2.2.1, x5.2.2.2.2.1, x5.2.2.2.2.2.1, x5.2.2.2.2.2.2.1, x5.2.2.2.2.2.2.2)]).length) L34 :: OwnO 1 (partS wA4 0 (A4.length - 1)) ((A4.take (A4.length - 1)).length) L48 :: Frz G_103 k_103 :: R) e28.h := (by have z := sS47; rw [eL48] at z; exact z)
        refine ⟨qS47, ?_⟩
        have S50 := S49.front 1 rfl
        have S51 := S50.tail
        have S52 := S51.front 2 rfl
        have S53 := S52.front 1 rfl
        have S54 := S53.front 5 rfl
        have S55 := S54.front 3 rfl
        have S56 := S55.front 5 rfl
        have S57 := S56.front 5 rfl
        refine ⟨(m, A2, A3 ++ [(x5.2.2.1, x5.2.2.2.1, x5.2.2.2.2.1, x5.2.2.2.2.2.1, x5.2.2.2.2.2.2.1, x5.2.2.2.2.2.2.2)], A4.take (A4.length - 1), x5.1, x5.2.1, wA2_1, e28.v, L34, (partS wA4 0 (A4.length - 1)), L48, w19, G_103, k_103, G31, hpush e24.h (mkCells [(vi x5.2.2.1), (vw x5.2.2.2.1), (vw x5.2.2.2.2.1), (vq x5.2.2.2.2.2.1), w12, (AV.int .i64 x5.2.2.2.2.2.2.2)] 6)), rfl, ⟨hp, fA2_2, rL34, rL48, f20, fU_103, (Up.trans fU_101 uG31), S57⟩, by show m < n; omega⟩
      replace c42 := eqI_f c42
      replace hp := iff0 hp (c42)
      have S43 := S38.front 1 rfl
      have S44 := S43.tail
      have S45 := S44.front 2 rfl
      have S46 := S45.front 1 rfl
      have S47 := S46.front 5 rfl
      have S48 := S47.front 3 rfl
      have S49 := S48.front 5 rfl
      have S50 := S49.front 5 rfl
      refine ⟨(m, A2, A3 ++ [(x5.2.2.1, x5.2.2.2.1, x5.2.2.2.2.1, x5.2.2.2.2.2.1, x5.2.2.2.2.2.2.1, x5.2.2.2.2.2.2.2)], A4, x5.1, x5.2.1, wA2_1, e28.v, L34, wA4, LA4, w19, G_103, k_103, G31, hpush e24.h (mkCells [(vi x5.2.2.1), (vw x5.2.2.2.1), (vw x5.2.2.2.2.1), (vq x5.2.2.2.2.2.1), w12, (AV.int .i64 x5.2.2.2.2.2.2.2)] 6)), rfl, ⟨hp, fA2_2, rL34, fA4, f20, fU_103, (Up.trans fU_101 uG31), S50⟩, by show m < n; omega⟩
    replace c39 := ltI_t (notB_f c39)
    replace hp := iff0 hp (nleO c39)
    refine ⟨cel_load S38 (i := 1) rfl rfl, ?_⟩
    refine ⟨fun c40 => ?_, fun c40 => ?_⟩
    · replace c40 := eqI_t c40
      replace hp := ift hp c40
      refine ⟨own_len S38 (i := 5) rfl, ?_⟩
      refine ⟨fun c41 => ?_, fun c41 => ?_⟩
      · replace c41 := eqI_t c41
        replace hp := ift hp c41
        have S42 := S38.front 3 rfl
        have S43 := S42.front 3 rfl
        have ⟨x44, hb45, hp⟩ := ob_inv hp
        obtain ⟨v48, h49, q50, w53, e51, f54, S52⟩ := h_rfail f20 hb45 S43
        replace e51 := e51.symm
        subst e51
        refine ⟨x44, w53, h49, q50, ?_⟩
        have S57 := S52.front 3 rfl
        have S58 := S57.tail
        have S59 := S58.front 4 rfl
        have S60 := S59.tail
        have S61 := S60.front 4 rfl
        have S62 := S61.tail
        have S63 := S62.front 1 rfl
        have S64 := S63.front 2 rfl
        have S65 := S64.front 2 rfl
        have S66 := S65.front 3 rfl
        refine ⟨_, e28.v, (Option.some.inj hp).symm, rfl, ?_⟩
        exact ⟨e28.v, L34, w53, G31, hpush e24.h (mkCells [(vi x5.2.2.1), (vw x5.2.2.2.1), (vw x5.2.2.2.2.1), (vq x5.2.2.2.2.2.1), w12, (AV.int .i64 x5.2.2.2.2.2.2.2)] 6), rfl, rL34, f54, S66⟩
      replace c41 := eqI_f c41
      replace hp := iff0 hp (c41)
      refine ⟨own_len S38 (i := 5) rfl, ?_⟩
      have ⟨g42, hp⟩ := gd_inv hp
      have ⟨g43, hp⟩ := gd_inv hp
      refine ⟨q_sub g42 g43, ?_⟩
      have ⟨g44, hp⟩ := gd_inv hp
      refine ⟨own_idx S38 (i := 5) rfl g44, ?_⟩
      refine ⟨own_loadR S38 (i := 5) rfl rfl fA4 g44 (f := (fun x => AV.int .i64 (Int.ofNat x))) (fun _ _ e => e), ?_⟩
      refine ⟨fun c45 => ?_, fun c45 => ?_⟩
      · replace c45 := eqI_f (notB_t c45)
        replace hp := ift hp c45
        have S46 := S38.front 3 rfl
        have S47 := S46.front 3 rfl
        have ⟨x48, hb49, hp⟩ := ob_inv hp
        obtain ⟨v52, h53, q54, w57, e55, f58, S56⟩ := h_rfail f20 hb49 S47
        replace e55 := e55.symm
        subst e55
        refine ⟨x48, w57, h53, q54, ?_⟩
        have S61 := S56.front 3 rfl
        have S62 := S61.tail
        have S63 := S62.front 4 rfl
        have S64 := S63.tail
        have S65 := S64.front 4 rfl
        have S66 := S65.tail
        have S67 := S66.front 1 rfl
        have S68 := S67.front 2 rfl
        have S69 := S68.front 2 rfl
        have S70 := S69.front 3 rfl
        refine ⟨_, e28.v, (Option.some.inj hp).symm, rfl, ?_⟩
        exact ⟨e28.v, L34, w57, G31, hpush e24.h (mkCells [(vi x5.2.2.1), (vw x5.2.2.2.1), (vw x5.2.2.2.2.1), (vq x5.2.2.2.2.2.1), w12, (AV.int .i64 x5.2.2.2.2.2.2.2)] 6), rfl, rL34, f58, S70⟩
      replace c45 := eqI_t (notB_f c45)
      replace hp := iff0 hp (nneO c45)
      refine ⟨own_len S38 (i := 5) rfl, ?_⟩
      refine ⟨q_sub g42 g43, ?_⟩
      refine ⟨own_idx S38 (i := 5) rfl g44, ?_⟩
      obtain ⟨e46, qe46, se46⟩ := own_store1 call S38 (i := 5) (k := A4.length - 1) (x := (vi 5)) rfl g44 rfl
      obtain ⟨L47, rL47, eL47⟩ : ∃ L, Eng.Rows (rN0 .i64) G_103 k_103 L (A4.set (A4.length - 1) 5) ∧ LA4.set (A4.length - 1) (vi 5) = L := ⟨_, Rows.set1 rfl fA4 rfl, rfl⟩
      have S48 : Sep (Frz G31 (hpush e24.h (mkCells [(vi x5.2.2.1), (vw x5.2.2.2.1), (vw x5.2.2.2.2.1), (vq x5.2.2.2.2.2.1), w12, (AV.int .i64 x5.2.2.2.2.2.2.2)] 6)) :: Cel (Hp.next h15) [(vi x5.2.2.1), (vw x5.2.2.2.1), (vw x5.2.2.2.2.1), (vq x5.2.2.2.2.2.1), w12, (AV.int .i64 x5.2.2.2.2.2.2.2)] :: Cel b1 (w19 :: (vi x5.2.1) :: rest) :: Frz G h0 :: OwnO 6 e28.v ((A3 ++ [(x5.2.2.1, x5.2.2.2.1, x5.2.2.2.2.1, x5.2.2.2.2.2.1, x5.2.2.2.2.2.2.1, x5.2.2.2.2.2.2.2)]).length) L34 :: OwnO 1 wA4 ((A4.set (A4.length - 1) 5).length) L47 :: Frz G_103 k_103 :: R) e46.h := (by have z := se46; rw [eL47, show A4.length = (A4.set (A4.length - 1) 5).length from by simp] at z; exact z)
      refine ⟨e46, qe46, ?_⟩
      have S49 := S48.front 1 rfl
      have S50 := S49.tail
      have S51 := S50.front 2 rfl
      have S52 := S51.front 1 rfl
      have S53 := S52.front 5 rfl
      have S54 := S53.front 3 rfl
      have S55 := S54.front 5 rfl
      have S56 := S55.front 5 rfl
      refine ⟨(m, A2, A3 ++ [(x5.2.2.1, x5.2.2.2.1, x5.2.2.2.2.1, x5.2.2.2.2.2.1, x5.2.2.2.2.2.2.1, x5.2.2.2.2.2.2.2)], A4.set (A4.length - 1) 5, x5.1, x5.2.1, wA2_1, e28.v, L34, wA4, L47, w19, G_103, k_103, G31, hpush e24.h (mkCells [(vi x5.2.2.1), (vw x5.2.2.2.1), (vw x5.2.2.2.2.1), (vq x5.2.2.2.2.2.1), w12, (AV.int .i64 x5.2.2.2.2.2.2.2)] 6)), rfl, ⟨hp, fA2_2, rL34, rL47, f20, fU_103, (Up.trans fU_101 uG31), S56⟩, by show m < n; omega⟩
    replace c40 := eqI_f c40
    replace hp := iff0 hp (c40)
    refine ⟨cel_load S38 (i := 1) rfl rfl, ?_⟩
    refine ⟨fun c41 => ?_, fun c41 => ?_⟩
    · replace c41 := eqI_t c41
      replace hp := ift hp c41
      refine ⟨own_len S38 (i := 5) rfl, ?_⟩
      refine ⟨fun c42 => ?_, fun c42 => ?_⟩
      · replace c42 := eqI_t c42
        replace hp := ift hp c42
        have S43 := S38.front 1 rfl
        have S44 := S43.tail
        have S45 := S44.front 4 rfl
        have S46 := S45.tail
        have S47 := S46.front 4 rfl
        have S48 := S47.tail
        have S49 := S48.front 2 rfl
        have S50 := S49.front 1 rfl
        have S51 := S50.front 2 rfl
        have S52 := S51.front 3 rfl
        refine ⟨_, e28.v, (Option.some.inj hp).symm, rfl, ?_⟩
        exact ⟨e28.v, L34, w19, G31, hpush e24.h (mkCells [(vi x5.2.2.1), (vw x5.2.2.2.1), (vw x5.2.2.2.2.1), (vq x5.2.2.2.2.2.1), w12, (AV.int .i64 x5.2.2.2.2.2.2.2)] 6), rfl, rL34, f20, S52⟩
      replace c42 := eqI_f c42
      replace hp := iff0 hp (c42)
      refine ⟨own_len S38 (i := 5) rfl, ?_⟩
      have ⟨g43, hp⟩ := gd_inv hp
      have ⟨g44, hp⟩ := gd_inv hp
      refine ⟨q_sub g43 g44, ?_⟩
      have ⟨g45, hp⟩ := gd_inv hp
      obtain ⟨qS46, sS46⟩ := own_cutR (xs := A4) S38 (i := 5) (k := A4.length - 1) rfl g45
      obtain ⟨L47, rL47, eL47⟩ : ∃ L, Eng.Rows (rN0 .i64) G_103 k_103 L (A4.take (A4.length - 1)) ∧ LA4.take ((A4.length - 1) * 1) = L := ⟨_, Rows.take1 (A4.length - 1) fA4, rfl⟩
      have S48 : Sep (Frz G31 (hpush e24.h (mkCells [(vi x5.2.2.1), (vw x5.2.2.2.1), (vw x5.2.2.2.2.1), (vq x5.2.2.2.2.2.1), w12, (AV.int .i64 x5.2.2.2.2.2.2.2)] 6)) :: Cel (Hp.next h15) [(vi x5.2.2.1), (vw x5.2.2.2.1), (vw x5.2.2.2.2.1), (vq x5.2.2.2.2.2.1), w12, (AV.int .i64 x5.2.2.2.2.2.2.2)] :: Cel b1 (w19 :: (vi x5.2.1) :: rest) :: Frz G h0 :: OwnO 6 e28.v ((A3 ++ [(x5.2.2.1, x5.2.2.2.1, x5.2.2.2.2.1, x5.2.2.2.2.2.1, x5.2.2.2.2.2.2.1, x5.2.2.2.2.2.2.2)]).length) L34 :: OwnO 1 (partS wA4 0 (A4.length - 1)) ((A4.take (A4.length - 1)).length) L47 :: Frz G_103 k_103 :: R) e28.h := (by have z := sS46; rw [eL47] at z; exact z)
      refine ⟨qS46, ?_⟩
      have S49 := S48.front 1 rfl
      have S50 := S49.tail
      have S51 := S50.front 2 rfl
      have S52 := S51.front 1 rfl
      have S53 := S52.front 5 rfl
      have S54 := S53.front 3 rfl
      have S55 := S54.front 5 rfl
      have S56 := S55.front 5 rfl
      refine ⟨(m, A2, A3 ++ [(x5.2.2.1, x5.2.2.2.1, x5.2.2.2.2.1, x5.2.2.2.2.2.1, x5.2.2.2.2.2.2.1, x5.2.2.2.2.2.2.2)], A4.take (A4.length - 1), x5.1, x5.2.1, wA2_1, e28.v, L34, (partS wA4 0 (A4.length - 1)), L47, w19, G_103, k_103, G31, hpush e24.h (mkCells [(vi x5.2.2.1), (vw x5.2.2.2.1), (vw x5.2.2.2.2.1), (vq x5.2.2.2.2.2.1), w12, (AV.int .i64 x5.2.2.2.2.2.2.2)] 6)), rfl, ⟨hp, fA2_2, rL34, rL47, f20, fU_103, (Up.trans fU_101 uG31), S56⟩, by show m < n; omega⟩
    replace c41 := eqI_f c41
    replace hp := iff0 hp (c41)
    have S42 := S38.front 1 rfl
    have S43 := S42.tail
    have S44 := S43.front 2 rfl
    have S45 := S44.front 1 rfl
    have S46 := S45.front 5 rfl
    have S47 := S46.front 3 rfl
    have S48 := S47.front 5 rfl
    have S49 := S48.front 5 rfl
    refine ⟨(m, A2, A3 ++ [(x5.2.2.1, x5.2.2.2.1, x5.2.2.2.2.1, x5.2.2.2.2.2.1, x5.2.2.2.2.2.2.1, x5.2.2.2.2.2.2.2)], A4, x5.1, x5.2.1, wA2_1, e28.v, L34, wA4, LA4, w19, G_103, k_103, G31, hpush e24.h (mkCells [(vi x5.2.2.1), (vw x5.2.2.2.1), (vw x5.2.2.2.2.1), (vq x5.2.2.2.2.2.1), w12, (AV.int .i64 x5.2.2.2.2.2.2.2)] 6)), rfl, ⟨hp, fA2_2, rL34, fA4, f20, fU_103, (Up.trans fU_101 uG31), S49⟩, by show m < n; omega⟩
  replace c1 := eqI_f c1
  replace hp := iff0 hp (c1)
  refine ⟨(m, A2, A3, A4, Q1_0, Q1_1, wA2_1, wA3, LA3, wA4, LA4, wQ1_0_1, G_103, k_103, G_101, k_101), rfl, rfl, fun _ => ⟨(Option.some.inj hp).symm, fA2_2, fA3, fA4, fQ1_0_2, fU_103, fU_101, S⟩⟩
theorem rbody_l1_t {call : CallT} {N : Nat} {b1 : Nat} {rest : List AV} {ZG_103 : Nat → Prop} {Zk_103 : Hp} {ZG_101 : Nat → Prop} {Zk_101 : Hp} {G : Nat → Prop} {h0 : Hp} {R : List AObj}   (h_rfail : C_rfail call) (h_rinstr : C_rinstr call) {o : LO (List Nat × List (Nat × Nat × Nat × Nat × List Nat × Int) × List Nat × List Nat × Nat) (List Nat × Nat × List (Nat × Nat × Nat × Nat × List Nat × Int))} {n : Nat} {A2 : List Nat} {A3 : List (Nat × Nat × Nat × Nat × List Nat × Int)} {A4 : List Nat} {Q1_0 : List Nat} {Q1_1 : Nat} {wA2_1 : AV} {wA3 : AV} {LA3 : List AV} {wA4 : AV} {LA4 : List AV} {wQ1_0_1 : AV} {G_103 : Nat → Prop} {k_103 : Hp} {G_101 : Nat → Prop} {k_101 : Hp} {h : Hp} (hi : (fun (z : Nat × List Nat × List (Nat × Nat × Nat × Nat × List Nat × Int) × List Nat × List Nat × Nat × AV × AV × List AV × AV × List AV × AV × (Nat → Prop) × Hp × (Nat → Prop) × Hp) (h' : Hp) => rbody_l1  z.1 z.2.1 z.2.2.1 z.2.2.2.1 z.2.2.2.2.1 z.2.2.2.2.2.1 = some o ∧ (BIn G h0 z.2.2.2.2.2.2.1 z.2.1) ∧ (Eng.Rows (rP (rN0 .i64) (rP (rU .u32) (rP (rU .u32) (rP (rU .u64) (rP (rL (rU .u32)) (rZ .i64)))))) z.2.2.2.2.2.2.2.2.2.2.2.2.2.2.1 z.2.2.2.2.2.2.2.2.2.2.2.2.2.2.2 z.2.2.2.2.2.2.2.2.1 z.2.2.1) ∧ (Eng.Rows (rN0 .i64) z.2.2.2.2.2.2.2.2.2.2.2.2.1 z.2.2.2.2.2.2.2.2.2.2.2.2.2.1 z.2.2.2.2.2.2.2.2.2.2.1 z.2.2.2.1) ∧ (BIn G h0 z.2.2.2.2.2.2.2.2.2.2.2.1 z.2.2.2.2.1) ∧ (Up ZG_103 Zk_103 z.2.2.2.2.2.2.2.2.2.2.2.2.1 z.2.2.2.2.2.2.2.2.2.2.2.2.2.1) ∧ (Up ZG_101 Zk_101 z.2.2.2.2.2.2.2.2.2.2.2.2.2.2.1 z.2.2.2.2.2.2.2.2.2.2.2.2.2.2.2) ∧ Eng.Sep (OwnO 6 z.2.2.2.2.2.2.2.1 z.2.2.1.length z.2.2.2.2.2.2.2.2.1 :: OwnO 1 z.2.2.2.2.2.2.2.2.2.1 z.2.2.2.1.length z.2.2.2.2.2.2.2.2.2.2.1 :: Cel b1 (z.2.2.2.2.2.2.2.2.2.2.2.1 :: (vi z.2.2.2.2.2.1) :: rest) :: Frz z.2.2.2.2.2.2.2.2.2.2.2.2.1 z.2.2.2.2.2.2.2.2.2.2.2.2.2.1 :: Frz z.2.2.2.2.2.2.2.2.2.2.2.2.2.2.1 z.2.2.2.2.2.2.2.2.2.2.2.2.2.2.2 :: Frz G h0 :: R) h') (n, A2, A3, A4, Q1_0, Q1_1, wA2_1, wA3, LA3, wA4, LA4, wQ1_0_1, G_103, k_103, G_101, k_101) h) (hN : n < N) (hN' : 90000 < N) {t : T} (ht : Has ((fun (z : Nat × List Nat × List (Nat × Nat × Nat × Nat × List Nat × Int) × List Nat × List Nat × Nat × AV × AV × List AV × AV × List AV × AV × (Nat → Prop) × Hp × (Nat → Prop) × Hp) => [(0, (AV.ptr b1 0)), (2, z.2.2.2.2.2.2.1), (3, z.2.2.2.2.2.2.2.1), (4, z.2.2.2.2.2.2.2.2.2.1)]) (n, A2, A3, A4, Q1_0, Q1_1, wA2_1, wA3, LA3, wA4, LA4, wQ1_0_1, G_103, k_103, G_101, k_101)) t) :
    (∃ i y t' h', evC call N (.loop rbody_l1C) t h = .exit i t' h' ∧ Has ((fun (z : Nat × List Nat × List (Nat × Nat × Nat × Nat × List Nat × Int) × List Nat × List Nat × Nat × AV × AV × List AV × AV × List AV × AV × (Nat → Prop) × Hp × (Nat → Prop) × Hp) => [(0, (AV.ptr b1 0)), (2, z.2.2.2.2.2.2.1), (3, z.2.2.2.2.2.2.2.1), (4, z.2.2.2.2.2.2.2.2.2.1)]) y) t' ∧ (fun (i : Nat) (z : Nat × List Nat × List (Nat × Nat × Nat × Nat × List Nat × Int) × List Nat × List Nat × Nat × AV × AV × List AV × AV × List AV × AV × (Nat → Prop) × Hp × (Nat → Prop) × Hp) (h' : Hp) => (i = 0) ∧ (i = 0 → o = LO.ex (z.2.1, z.2.2.1, z.2.2.2.1, z.2.2.2.2.1, z.2.2.2.2.2.1) ∧ (BIn G h0 z.2.2.2.2.2.2.1 z.2.1) ∧ (Eng.Rows (rP (rN0 .i64) (rP (rU .u32) (rP (rU .u32) (rP (rU .u64) (rP (rL (rU .u32)) (rZ .i64)))))) z.2.2.2.2.2.2.2.2.2.2.2.2.2.2.1 z.2.2.2.2.2.2.2.2.2.2.2.2.2.2.2 z.2.2.2.2.2.2.2.2.1 z.2.2.1) ∧ (Eng.Rows (rN0 .i64) z.2.2.2.2.2.2.2.2.2.2.2.2.1 z.2.2.2.2.2.2.2.2.2.2.2.2.2.1 z.2.2.2.2.2.2.2.2.2.2.1 z.2.2.2.1) ∧ (BIn G h0 z.2.2.2.2.2.2.2.2.2.2.2.1 z.2.2.2.2.1) ∧ (Up ZG_103 Zk_103 z.2.2.2.2.2.2.2.2.2.2.2.2.1 z.2.2.2.2.2.2.2.2.2.2.2.2.2.1) ∧ (Up ZG_101 Zk_101 z.2.2.2.2.2.2.2.2.2.2.2.2.2.2.1 z.2.2.2.2.2.2.2.2.2.2.2.2.2.2.2) ∧ Eng.Sep (OwnO 6 z.2.2.2.2.2.2.2.1 z.2.2.1.length z.2.2.2.2.2.2.2.2.1 :: OwnO 1 z.2.2.2.2.2.2.2.2.2.1 z.2.2.2.1.length z.2.2.2.2.2.2.2.2.2.2.1 :: Cel b1 (z.2.2.2.2.2.2.2.2.2.2.2.1 :: (vi z.2.2.2.2.2.1) :: rest) :: Frz z.2.2.2.2.2.2.2.2.2.2.2.2.1 z.2.2.2.2.2.2.2.2.2.2.2.2.2.1 :: Frz z.2.2.2.2.2.2.2.2.2.2.2.2.2.2.1 z.2.2.2.2.2.2.2.2.2.2.2.2.2.2.2 :: Frz G h0 :: R) h')) i y h') ∨ (∃ t' h', evC call N (.loop rbody_l1C) t h = .ret t' h' ∧ (fun (ls : List (Option AV)) (h' : Hp) => ∃ (rt : List Nat × Nat × List (Nat × Nat × Nat × Nat × List Nat × Int)) (v2 : AV), o = LO.rt rt ∧ ls[1]? = some (some v2) ∧ (∃ wk1 : AV, ∃ Lk3 : List AV, ∃ wk4 : AV, ∃ Gk : Nat → Prop, ∃ kk : Hp, v2 = wk1 ∧ (Eng.Rows (rP (rN0 .i64) (rP (rU .u32) (rP (rU .u32) (rP (rU .u64) (rP (rL (rU .u32)) (rZ .i64)))))) Gk kk Lk3 rt.2.2) ∧ (BIn G h0 wk4 rt.1) ∧ Eng.Sep (OwnO 6 wk1 rt.2.2.length Lk3 :: Cel b1 (wk4 :: (vi rt.2.1) :: rest) :: Frz Gk kk :: Frz G h0 :: R) h')) (slots [0, 2, 3, 4] t') h') :=
  loop_st (fun (z : Nat × List Nat × List (Nat × Nat × Nat × Nat × List Nat × Int) × List Nat × List Nat × Nat × AV × AV × List AV × AV × List AV × AV × (Nat → Prop) × Hp × (Nat → Prop) × Hp) => [(0, (AV.ptr b1 0)), (2, z.2.2.2.2.2.2.1), (3, z.2.2.2.2.2.2.2.1), (4, z.2.2.2.2.2.2.2.2.2.1)]) [0, 2, 3, 4] (fun _ => rfl) (fun (z : Nat × List Nat × List (Nat × Nat × Nat × Nat × List Nat × Int) × List Nat × List Nat × Nat × AV × AV × List AV × AV × List AV × AV × (Nat → Prop) × Hp × (Nat → Prop) × Hp) (h' : Hp) => rbody_l1  z.1 z.2.1 z.2.2.1 z.2.2.2.1 z.2.2.2.2.1 z.2.2.2.2.2.1 = some o ∧ (BIn G h0 z.2.2.2.2.2.2.1 z.2.1) ∧ (Eng.Rows (rP (rN0 .i64) (rP (rU .u32) (rP (rU .u32) (rP (rU .u64) (rP (rL (rU .u32)) (rZ .i64)))))) z.2.2.2.2.2.2.2.2.2.2.2.2.2.2.1 z.2.2.2.2.2.2.2.2.2.2.2.2.2.2.2 z.2.2.2.2.2.2.2.2.1 z.2.2.1) ∧ (Eng.Rows (rN0 .i64) z.2.2.2.2.2.2.2.2.2.2.2.2.1 z.2.2.2.2.2.2.2.2.2.2.2.2.2.1 z.2.2.2.2.2.2.2.2.2.2.1 z.2.2.2.1) ∧ (BIn G h0 z.2.2.2.2.2.2.2.2.2.2.2.1 z.2.2.2.2.1) ∧ (Up ZG_103 Zk_103 z.2.2.2.2.2.2.2.2.2.2.2.2.1 z.2.2.2.2.2.2.2.2.2.2.2.2.2.1) ∧ (Up ZG_101 Zk_101 z.2.2.2.2.2.2.2.2.2.2.2.2.2.2.1 z.2.2.2.2.2.2.2.2.2.2.2.2.2.2.2) ∧ Eng.Sep (OwnO 6 z.2.2.2.2.2.2.2.1 z.2.2.1.length z.2.2.2.2.2.2.2.2.1 :: OwnO 1 z.2.2.2.2.2.2.2.2.2.1 z.2.2.2.1.length z.2.2.2.2.2.2.2.2.2.2.1 :: Cel b1 (z.2.2.2.2.2.2.2.2.2.2.2.1 :: (vi z.2.2.2.2.2.1) :: rest) :: Frz z.2.2.2.2.2.2.2.2.2.2.2.2.1 z.2.2.2.2.2.2.2.2.2.2.2.2.2.1 :: Frz z.2.2.2.2.2.2.2.2.2.2.2.2.2.2.1 z.2.2.2.2.2.2.2.2.2.2.2.2.2.2.2 :: Frz G h0 :: R) h') (fun (z : Nat × List Nat × List (Nat × Nat × Nat × Nat × List Nat × Int) × List Nat × List Nat × Nat × AV × AV × List AV × AV × List AV × AV × (Nat → Prop) × Hp × (Nat → Prop) × Hp) => z.1) (fun (i : Nat) (z : Nat × List Nat × List (Nat × Nat × Nat × Nat × List Nat × Int) × List Nat × List Nat × Nat × AV × AV × List AV × AV × List AV × AV × (Nat → Prop) × Hp × (Nat → Prop) × Hp) (h' : Hp) => (i = 0) ∧ (i = 0 → o = LO.ex (z.2.1, z.2.2.1, z.2.2.2.1, z.2.2.2.2.1, z.2.2.2.2.2.1) ∧ (BIn G h0 z.2.2.2.2.2.2.1 z.2.1) ∧ (Eng.Rows (rP (rN0 .i64) (rP (rU .u32) (rP (rU .u32) (rP (rU .u64) (rP (rL (rU .u32)) (rZ .i64)))))) z.2.2.2.2.2.2.2.2.2.2.2.2.2.2.1 z.2.2.2.2.2.2.2.2.2.2.2.2.2.2.2 z.2.2.2.2.2.2.2.2.1 z.2.2.1) ∧ (Eng.Rows (rN0 .i64) z.2.2.2.2.2.2.2.2.2.2.2.2.1 z.2.2.2.2.2.2.2.2.2.2.2.2.2.1 z.2.2.2.2.2.2.2.2.2.2.1 z.2.2.2.1) ∧ (BIn G h0 z.2.2.2.2.2.2.2.2.2.2.2.1 z.2.2.2.2.1) ∧ (Up ZG_103 Zk_103 z.2.2.2.2.2.2.2.2.2.2.2.2.1 z.2.2.2.2.2.2.2.2.2.2.2.2.2.1) ∧ (Up ZG_101 Zk_101 z.2.2.2.2.2.2.2.2.2.2.2.2.2.2.1 z.2.2.2.2.2.2.2.2.2.2.2.2.2.2.2) ∧ Eng.Sep (OwnO 6 z.2.2.2.2.2.2.2.1 z.2.2.1.length z.2.2.2.2.2.2.2.2.1 :: OwnO 1 z.2.2.2.2.2.2.2.2.2.1 z.2.2.2.1.length z.2.2.2.2.2.2.2.2.2.2.1 :: Cel b1 (z.2.2.2.2.2.2.2.2.2.2.2.1 :: (vi z.2.2.2.2.2.1) :: rest) :: Frz z.2.2.2.2.2.2.2.2.2.2.2.2.1 z.2.2.2.2.2.2.2.2.2.2.2.2.2.1 :: Frz z.2.2.2.2.2.2.2.2.2.2.2.2.2.2.1 z.2.2.2.2.2.2.2.2.2.2.2.2.2.2.2 :: Frz G h0 :: R) h')) (fun (ls : List (Option AV)) (h' : Hp) => ∃ (rt : List Nat × Nat × List (Nat × Nat × Nat × Nat × List Nat × Int)) (v2 : AV), o = LO.rt rt ∧ ls[1]? = some (some v2) ∧ (∃ wk1 : AV, ∃ Lk3 : List AV, ∃ wk4 : AV, ∃ Gk : Nat → Prop, ∃ kk : Hp, v2 = wk1 ∧ (Eng.Rows (rP (rN0 .i64) (rP (rU .u32) (rP (rU .u32) (rP (rU .u64) (rP (rL (rU .u32)) (rZ .i64)))))) Gk kk Lk3 rt.2.2) ∧ (BIn G h0 wk4 rt.1) ∧ Eng.Sep (OwnO 6 wk1 rt.2.2.length Lk3 :: Cel b1 (wk4 :: (vi rt.2.1) :: rest) :: Frz Gk kk :: Frz G h0 :: R) h')) (fun ⟨n, A2, A3, A4, Q1_0, Q1_1, wA2_1, wA3, LA3, wA4, LA4, wQ1_0_1, G_103, k_103, G_101, k_101⟩ t h hi => rbody_l1_body h_rfail h_rinstr hN' hi) (n, A2, A3, A4, Q1_0, Q1_1, wA2_1, wA3, LA3, wA4, LA4, wQ1_0_1, G_103, k_103, G_101, k_101) h hi hN t ht
noncomputable def rbody_p (rb : List Nat) (re : Nat) : Option (List Nat × Nat × List (Nat × Nat × Nat × Nat × List Nat × Int)) :=
  (ob (rbody_l1  90000 ([] : List Nat) ([] : List (Nat × Nat × Nat × Nat × List Nat × Int)) ([] : List Nat) rb re) fun o11 =>
    (LO.on o11 (fun s_o11 => (some (s_o11.2.2.2.1, s_o11.2.2.2.2, s_o11.2.1))) (fun y18 =>
    (some y18))))
theorem rbody_w {call : CallT} {N : Nat} {h : Hp} {h0 : Hp} {G : Nat → Prop} {R : List AObj} {b : Nat} {rest : List AV} {wrb_1 : AV} {rb : List Nat} {re : Nat} (frb_2 : BIn G h0 wrb_1 rb) (h_rfail : C_rfail call) (h_rinstr : C_rinstr call) (hN : 90000 < N) {r : List Nat × Nat × List (Nat × Nat × Nat × Nat × List Nat × Int)} (hp : rbody_p rb re = some r) (S : Eng.Sep (Cel b (wrb_1 :: (vi re) :: rest) :: Frz G h0 :: R) h) :
    ∃ rv rh, evF1 (progS Try.prog (compDrawn Try.prog)) N call 33 [(AV.ptr b 0)] h = .ok rv rh ∧ (fun (rv : AV) (rh : Hp) => ∃ wk1 : AV, ∃ Lk3 : List AV, ∃ wk4 : AV, ∃ Gk : Nat → Prop, ∃ kk : Hp, rv = wk1 ∧ (Eng.Rows (rP (rN0 .i64) (rP (rU .u32) (rP (rU .u32) (rP (rU .u64) (rP (rL (rU .u32)) (rZ .i64)))))) Gk kk Lk3 r.2.2) ∧ (BIn G h0 wk4 r.1) ∧ Eng.Sep (OwnO 6 wk1 r.2.2.length Lk3 :: Cel b (wk4 :: (vi r.2.1) :: rest) :: Frz Gk kk :: Frz G h0 :: R) rh) rv rh := by
  unfold rbody_p at hp
  refine fwalk_ok (K := (fun (rv : AV) (rh : Hp) => ∃ wk1 : AV, ∃ Lk3 : List AV, ∃ wk4 : AV, ∃ Gk : Nat → Prop, ∃ kk : Hp, rv = wk1 ∧ (Eng.Rows (rP (rN0 .i64) (rP (rU .u32) (rP (rU .u32) (rP (rU .u64) (rP (rL (rU .u32)) (rZ .i64)))))) Gk kk Lk3 r.2.2) ∧ (BIn G h0 wk4 r.1) ∧ Eng.Sep (OwnO 6 wk1 r.2.2.length Lk3 :: Cel b (wk4 :: (vi r.2.1) :: rest) :: Frz Gk kk :: Frz G h0 :: R) rh)) (o := (.dis 3 (.exi 0 fun (A2o11 : List Nat) => (.exi 0 fun (A3o11 : List (Nat × Nat × Nat × Nat × List Nat × Int)) => (.exi 0 fun (A4o11 : List Nat) => (.exi 0 fun (Q1_0o11 : List Nat) => (.exi 0 fun (Q1_1o11 : Nat) => (.exi 0 fun (wA2_1o11 : AV) => (.exi 0 fun (wA3o11 : AV) => (.exi 0 fun (wA4o11 : AV) => (.exi 0 fun (wQ1_0_1o11 : AV) => (.exi 0 fun (t14 : T) => (.exi 0 fun (h15 : Hp) => (.lp 0 (.exit 0 (ovT [(0, (AV.ptr b 0)), (2, wA2_1o11), (3, wA3o11), (4, wA4o11)] t14) h15) .fin)))))))))))) (.exi 0 fun (y18 : List Nat × Nat × List (Nat × Nat × Nat × Nat × List Nat × Int)) => (.exi 0 fun (v2o11 : AV) => (.exi 0 fun (t16 : T) => (.exi 0 fun (h17 : Hp) => (.lp 0 (.ret (ovT [(2, v2o11)] t16) h17) .fin))))))) (p := (fun (KK : AV → Hp → Prop) => ((∃ A2o11 : List Nat, ∃ A3o11 : List (Nat × Nat × Nat × Nat × List Nat × Int), ∃ A4o11 : List Nat, ∃ Q1_0o11 : List Nat, ∃ Q1_1o11 : Nat, ∃ wA2_1o11 : AV, ∃ wA3o11 : AV, ∃ wA4o11 : AV, ∃ wQ1_0_1o11 : AV, ∃ t14 : T, ∃ h15 : Hp, (evC call N (.loop rbody_l1C) (ovT [(0, (AV.ptr b 0)), (2, AV.nilSlice), (3, AV.nilSlice), (4, AV.nilSlice)] .lf) h = (.exit 0 (ovT [(0, (AV.ptr b 0)), (2, wA2_1o11), (3, wA3o11), (4, wA4o11)] t14) h15) ∧ True ∧ KK wA3o11 h15)) ∨ (∃ y18 : List Nat × Nat × List (Nat × Nat × Nat × Nat × List Nat × Int), ∃ v2o11 : AV, ∃ t16 : T, ∃ h17 : Hp, (evC call N (.loop rbody_l1C) (ovT [(0, (AV.ptr b 0)), (2, AV.nilSlice), (3, AV.nilSlice), (4, AV.nilSlice)] .lf) h = (.ret (ovT [(2, v2o11)] t16) h17) ∧ True ∧ KK v2o11 h17)))) (fun (rv : AV) (rh : Hp) => ∃ wk1 : AV, ∃ Lk3 : List AV, ∃ wk4 : AV, ∃ Gk : Nat → Prop, ∃ kk : Hp, rv = wk1 ∧ (Eng.Rows (rP (rN0 .i64) (rP (rU .u32) (rP (rU .u32) (rP (rU .u64) (rP (rL (rU .u32)) (rZ .i64)))))) Gk kk Lk3 r.2.2) ∧ (BIn G h0 wk4 r.1) ∧ Eng.Sep (OwnO 6 wk1 r.2.2.length Lk3 :: Cel b (wk4 :: (vi r.2.1) :: rest) :: Frz Gk kk :: Frz G h0 :: R) rh)) (by kernel_rfl) ?_
  have S1 := S.empty
  have S2 := own_nil S1 6
  have S3 := S2.empty
  have S4 := own_nil S3 1
  have S5 := S4.front 5 rfl
  have S6 := S5.front 4 rfl
  have S7 := S6.front 3 rfl
  have S8 := S7.front 5 rfl
  have S9 := S8.front 4 rfl
  have S10 := S9.front 5 rfl
  have ⟨o11, hb12, hp⟩ := ob_inv hp
  rcases rbody_l1_t  h_rfail h_rinstr (o := o11) (n := 90000) (A2 := ([] : List Nat)) (A3 := ([] : List (Nat × Nat × Nat × Nat × List Nat × Int))) (A4 := ([] : List Nat)) (Q1_0 := rb) (Q1_1 := re) (wA2_1 := AV.nilSlice) (wA3 := AV.nilSlice) (LA3 := []) (wA4 := AV.nilSlice) (LA4 := []) (wQ1_0_1 := wrb_1) (G_103 := (fun _ => False)) (k_103 := h) (G_101 := (fun _ => False)) (k_101 := h) ⟨hb12, BIn.nil, (own_rows_nil _ _ _), (own_rows_nil _ _ _), frb_2, (Up.refl _ _), (Up.refl _ _), S10⟩ hN hN (t := (ovT [(0, (AV.ptr b 0)), (2, AV.nilSlice), (3, AV.nilSlice), (4, AV.nilSlice)] .lf)) (show slots [0, 2, 3, 4] _ = [some (AV.ptr b 0), some AV.nilSlice, some AV.nilSlice, some AV.nilSlice] by kernel_rfl) with ⟨io11, ⟨_, A2o11, A3o11, A4o11, Q1_0o11, Q1_1o11, wA2_1o11, wA3o11, LA3o11, wA4o11, LA4o11, wQ1_0_1o11, G_103o11, k_103o11, G_101o11, k_101o11⟩, t14, h15, qo11, wo11, zo11⟩ | ⟨t16, h17, qo11, zo11⟩
  · obtain ⟨jo11, zo11⟩ := zo11
    subst jo11
    replace zo11 := zo11 rfl
    obtain ⟨uo11, fA2_2o11, fA3o11, fA4o11, fQ1_0_2o11, fU_103o11, fU_101o11, So11⟩ := zo11
    replace uo11 := uo11.symm
    subst uo11
    replace hp := LO.on_ex.symm.trans hp
    try dsimp only at hp
    refine Or.inl ⟨A2o11, A3o11, A4o11, Q1_0o11, Q1_1o11, wA2_1o11, wA3o11, wA4o11, wQ1_0_1o11, t14, h15, (qo11.trans (congrArg (fun t => RS.exit 0 t h15) (ovT_eq wo11).symm)), trivial, ?_⟩
    have S19 := So11.front 1 rfl
    have S20 := S19.tail
    have S21 := S20.front 2 rfl
    have S22 := S21.tail
    obtain rfl := Option.some.inj hp
    exact ⟨wA3o11, LA3o11, wQ1_0_1o11, G_101o11, k_101o11, rfl, fA3o11, fQ1_0_2o11, S22⟩
  obtain ⟨y18, v2o11, uo11, go11_2, Ko11⟩ := zo11
  replace uo11 := uo11.symm
  subst uo11
  replace go11_2 : tget (pathOf 2) t16 = some v2o11 := Option.some.inj go11_2
  replace hp := LO.on_rt.symm.trans hp
  try dsimp only at hp
  refine Or.inr ⟨y18, v2o11, t16, h17, (qo11.trans (congrArg (fun t => RS.ret t h17) (ovT_eq (l := [(2, v2o11)]) (by show [tget (pathOf 2) t16] = _; rw [go11_2]; rfl)).symm)), trivial, ?_⟩
  obtain rfl := Option.some.inj hp
  exact Ko11
def C_rbody (call : CallT) : Prop := ∀ {h : Hp} {h0 : Hp} {G : Nat → Prop} {R : List AObj} {b : Nat} {rest : List AV} {wrb_1 : AV} {rb : List Nat} {re : Nat} (frb_2 : BIn G h0 wrb_1 rb) {r : List Nat × Nat × List (Nat × Nat × Nat × Nat × List Nat × Int)}, rbody_p rb re = some r → Eng.Sep (Cel b (wrb_1 :: (vi re) :: rest) :: Frz G h0 :: R) h → ∃ rv rh, call 33 [(AV.ptr b 0)] h = .ok rv rh ∧ ∃ wk1 : AV, ∃ Lk3 : List AV, ∃ wk4 : AV, ∃ Gk : Nat → Prop, ∃ kk : Hp, rv = wk1 ∧ (Eng.Rows (rP (rN0 .i64) (rP (rU .u32) (rP (rU .u32) (rP (rU .u64) (rP (rL (rU .u32)) (rZ .i64)))))) Gk kk Lk3 r.2.2) ∧ (BIn G h0 wk4 r.1) ∧ Eng.Sep (OwnO 6 wk1 r.2.2.length Lk3 :: Cel b (wk4 :: (vi r.2.1) :: rest) :: Frz Gk kk :: Frz G h0 :: R) rh
theorem s_rbody (d : Nat) : C_rbody (CC (d + 6)) := by
  intro h h0 G R b rest wrb_1 rb re frb_2 r hp S
  rw [CC, evF_at (sumT_none rfl)]
  exact rbody_w (call := CC (d + 5)) (N := 100000) frb_2 (s_rfail (d + 4)) (s_rinstr (d + 0)) (by decide) hp S
noncomputable def rBody_p (b : List Nat) : Option (List (Nat × Nat × Nat × Nat × List Nat × Int) × Nat × Nat) :=
  (ob (rbody_p b 0) fun x2 =>
    (if x2.2.1 ≠ 0 then (some ([], 0, x2.2.1)) else
    (gd (x2.1.length ≤ b.length) (gd (b.length < 9223372036854775808) (some (x2.2.2, b.length - x2.1.length, 0))))))
theorem rBody_w {call : CallT} {N : Nat} {h : Hp} {wb_1 : AV} {b : List Nat} (fb_2 : BIn (Low h) h wb_1 b) (h_rbody : C_rbody call) {r : List (Nat × Nat × Nat × Nat × List Nat × Int) × Nat × Nat} (hp : rBody_p b = some r) :
    ∃ rv rh, evF1 (progS Try.prog (compDrawn Try.prog)) N call 14 [wb_1] h = .ok rv rh ∧ (fun (rv : AV) (rh : Hp) => ∃ wk1 : AV, ∃ Lk3 : List AV, ∃ Gk : Nat → Prop, ∃ kk : Hp, rv = (AV.tuple [wk1, (vi r.2.1), (vi r.2.2)]) ∧ (Eng.Rows (rP (rN0 .i64) (rP (rU .u32) (rP (rU .u32) (rP (rU .u64) (rP (rL (rU .u32)) (rZ .i64)))))) Gk kk Lk3 r.1) ∧ Eng.Sep (OwnO 6 wk1 r.1.length Lk3 :: Frz Gk kk :: Frz (Low h) h :: []) rh) rv rh := by
  have S : Eng.Sep [Frz (Low h) h] h := Sep.start h
  unfold rBody_p at hp
  refine fwalk_ok (K := (fun (rv : AV) (rh : Hp) => ∃ wk1 : AV, ∃ Lk3 : List AV, ∃ Gk : Nat → Prop, ∃ kk : Hp, rv = (AV.tuple [wk1, (vi r.2.1), (vi r.2.2)]) ∧ (Eng.Rows (rP (rN0 .i64) (rP (rU .u32) (rP (rU .u32) (rP (rU .u64) (rP (rL (rU .u32)) (rZ .i64)))))) Gk kk Lk3 r.1) ∧ Eng.Sep (OwnO 6 wk1 r.1.length Lk3 :: Frz Gk kk :: Frz (Low h) h :: []) rh)) (o := (.tell 4 (AV.agg [wb_1, (vi 0)]) (.ell 1 .ptr (mkCells [wb_1, (vi 0)] 2) (.exi 2 fun (x2 : List Nat × Nat × List (Nat × Nat × Nat × Nat × List Nat × Int)) => (.exi 0 fun (w6 : AV) => (.exi 0 fun (w14 : AV) => (.exi 0 fun (h10 : Hp) => (.eff 0 w6 h10 (.tell 5 (vi x2.2.1) (.fork 0 (.tell 4 (vi x2.2.1) (.again 3 .fin)) (.tell 2 (vi b.length) (.tell 4 w14 (.tell 0 (vi x2.1.length) (.tell 0 (vi (b.length - x2.1.length)) (.again 3 .fin))))))))))))))) (p := (fun (KK : AV → Hp → Prop) => ((evQ (.build [AV.nilSlice, (vi 0)] [(0, 1, (.const wb_1))]) .lf H0 = .ok (AV.agg [wb_1, (vi 0)]) ∧ (evL (.box (.const (AV.agg [wb_1, (vi 0)]))) .lf = .ok .ptr (mkCells [wb_1, (vi 0)] 2) ∧ (∃ x2 : List Nat × Nat × List (Nat × Nat × Nat × Nat × List Nat × Int), ∃ w6 : AV, ∃ w14 : AV, ∃ h10 : Hp, (call 33 [(AV.ptr (Hp.next h) 0)] (hpush h (mkCells [wb_1, (vi 0)] 2)) = .ok w6 h10 ∧ ((evQ (.loadS (.const (AV.ptr (Hp.next h) 1))) .lf h10 = .ok (vi x2.2.1) ∧ ((notB (eqI (Int.ofNat x2.2.1) (Int.ofNat 0)) = true → ((evQ (.loadS (.const (AV.ptr (Hp.next h) 1))) .lf h10 = .ok (vi x2.2.1) ∧ ((again (.move (.const (vi x2.2.1))) .lf (vi x2.2.1) h10 = true ∧ again (.move (.const (vi 0))) .lf (vi 0) h10 = true ∧ again (.move (.const AV.nilSlice)) .lf AV.nilSlice h10 = true ∧ again (.loadS (.const (AV.ptr (Hp.next h) 1))) .lf (vi x2.2.1) h10 = true ∧ again (.fieldAddr 1 (.const (AV.ptr (Hp.next h) 0))) .lf (AV.ptr (Hp.next h) 1) h10 = true ∧ again (.fieldAddr 0 (.const (AV.ptr (Hp.next h) 0))) .lf (AV.ptr (Hp.next h) 0) h10 = true ∧ again (.nilCheck (.const (AV.ptr (Hp.next h) 0))) .lf (AV.ptr (Hp.next h) 0) h10 = true ∧ again (.move (.const (AV.ptr (Hp.next h) 0))) .lf (AV.ptr (Hp.next h) 0) h10 = true ∧ True) ∧ KK (AV.tuple [AV.nilSlice, (vi 0), (vi x2.2.1)]) h10)))) ∧ (notB (eqI (Int.ofNat x2.2.1) (Int.ofNat 0)) = false → ((evQ (.lenL (.const wb_1)) .lf H0 = .ok (vi b.length) ∧ ((evQ (.loadS (.const (AV.ptr (Hp.next h) 0))) .lf h10 = .ok w14 ∧ ((evQ (.lenL (.const w14)) .lf H0 = .ok (vi x2.1.length) ∧ ((evQ (.bin .sub (.const (vi b.length)) (.const (vi x2.1.length))) .lf H0 = .ok (vi (b.length - x2.1.length)) ∧ ((again (.move (.const (vi 0))) .lf (vi 0) h10 = true ∧ again (.move (.const (vi (b.length - x2.1.length)))) .lf (vi (b.length - x2.1.length)) h10 = true ∧ again (.move (.const w6)) .lf w6 h10 = true ∧ again (.bin .sub (.const (vi b.length)) (.const (vi x2.1.length))) .lf (vi (b.length - x2.1.length)) h10 = true ∧ again (.lenL (.const w14)) .lf (vi x2.1.length) h10 = true ∧ again (.loadS (.const (AV.ptr (Hp.next h) 0))) .lf w14 h10 = true ∧ again (.fieldAddr 0 (.const (AV.ptr (Hp.next h) 0))) .lf (AV.ptr (Hp.next h) 0) h10 = true ∧ again (.fieldAddr 0 (.const (AV.ptr (Hp.next h) 0))) .lf (AV.ptr (Hp.next h) 0) h10 = true ∧ again (.nilCheck (.const (AV.ptr (Hp.next h) 0))) .lf (AV.ptr (Hp.next h) 0) h10 = true ∧ again (.move (.const (AV.ptr (Hp.next h) 0))) .lf (AV.ptr (Hp.next h) 0) h10 = true ∧ again (.lenL (.const wb_1)) .lf (vi b.length) h10 = true ∧ again (.move (.const wb_1)) .lf wb_1 h10 = true ∧ again (.move (.const w6)) .lf w6 h10 = true ∧ True) ∧ KK (AV.tuple [w6, (vi (b.length - x2.1.length)), (vi 0)]) h10))))))))))))))))))) (fun (rv : AV) (rh : Hp) => ∃ wk1 : AV, ∃ Lk3 : List AV, ∃ Gk : Nat → Prop, ∃ kk : Hp, rv = (AV.tuple [wk1, (vi r.2.1), (vi r.2.2)]) ∧ (Eng.Rows (rP (rN0 .i64) (rP (rU .u32) (rP (rU .u32) (rP (rU .u64) (rP (rL (rU .u32)) (rZ .i64)))))) Gk kk Lk3 r.1) ∧ Eng.Sep (OwnO 6 wk1 r.1.length Lk3 :: Frz Gk kk :: Frz (Low h) h :: []) rh)) (by kernel_rfl) ?_
  refine ⟨build_told (by show fillParts [(0, 1, (.const wb_1))] .lf 2 [AV.nilSlice, (vi 0)] = _; rw [fill_cons (o := 0) (k := 1) (n := 2) (BIn.cells fb_2) rfl (by decide)]; rfl), ?_⟩
  refine ⟨box_told rfl rfl (all_cell (BIn.cell fb_2) (all_cell rfl all_cell0)), ?_⟩
  have S1 := cel_new S [wb_1, (vi 0)] rfl
  have ⟨x2, hb3, hp⟩ := ob_inv hp
  obtain ⟨v9, h10, q11, w6, L8, w14, G4, k5, e12, f7, f15, S13⟩ := h_rbody fb_2 hb3 S1
  replace e12 := e12.symm
  subst e12
  refine ⟨x2, w6, w14, h10, q11, ?_⟩
  refine ⟨cel_load S13 (i := 1) rfl rfl, ?_⟩
  refine ⟨fun c18 => ?_, fun c18 => ?_⟩
  · replace c18 := eqI_f (notB_t c18)
    replace hp := ift hp c18
    refine ⟨cel_load S13 (i := 1) rfl rfl, ?_⟩
    refine ⟨⟨again_of (rfl) (avEq_int _ _), again_of (rfl) (avEq_int _ _), again_of (rfl) rfl, again_of (cel_load S13 (i := 1) rfl rfl) (avEq_int _ _), again_of (rfl) (avEq_ptr _ _), again_of (rfl) (avEq_ptr _ _), again_of (rfl) (avEq_ptr _ _), again_of (rfl) (avEq_ptr _ _), trivial⟩, ?_⟩
    have S19 := S13.empty
    have S20 := own_nil S19 6
    have S21 : Sep [OwnO 6 AV.nilSlice (([] : List (Nat × Nat × Nat × Nat × List Nat × Int)).length) [], Frz (fun _ => False) h10, Frz (Low h) h] h10 := S20.sel [0, 1, 5] (by decide) rfl
    obtain rfl := Option.some.inj hp
    exact ⟨AV.nilSlice, [], (fun _ => False), h10, rfl, (own_rows_nil _ _ _), S21⟩
  replace c18 := eqI_t (notB_f c18)
  replace hp := iff0 hp (nneO c18)
  refine ⟨q_len (BIn.now S13 (i := 3) rfl fb_2), ?_⟩
  refine ⟨cel_load S13 (i := 1) rfl rfl, ?_⟩
  refine ⟨q_len (BIn.now S13 (i := 3) rfl f15), ?_⟩
  have ⟨g19, hp⟩ := gd_inv hp
  have ⟨g20, hp⟩ := gd_inv hp
  refine ⟨q_sub g19 g20, ?_⟩
  refine ⟨⟨again_of (rfl) (avEq_int _ _), again_of (rfl) (avEq_int _ _), again_of (rfl) (own_same S13 (i := 0) rfl), again_of (q_sub g19 g20) (avEq_int _ _), again_of (q_len (BIn.now S13 (i := 3) rfl f15)) (avEq_int _ _), again_of (cel_load S13 (i := 1) rfl rfl) (BIn.same f15), again_of (rfl) (avEq_ptr _ _), again_of (rfl) (avEq_ptr _ _), again_of (rfl) (avEq_ptr _ _), again_of (rfl) (avEq_ptr _ _), again_of (q_len (BIn.now S13 (i := 3) rfl fb_2)) (avEq_int _ _), again_of (rfl) (BIn.same fb_2), again_of (rfl) (own_same S13 (i := 0) rfl), trivial⟩, ?_⟩
  have S21 : Sep [OwnO 6 w6 x2.2.2.length L8, Frz G4 k5, Frz (Low h) h] h10 := S13.sel [0, 2, 3] (by decide) rfl
  obtain rfl := Option.some.inj hp
  exact ⟨w6, L8, G4, k5, rfl, f7, S21⟩
def C_rBody (call : CallT) : Prop := ∀ {h : Hp} {wb_1 : AV} {b : List Nat} (fb_2 : BIn (Low h) h wb_1 b) {r : List (Nat × Nat × Nat × Nat × List Nat × Int) × Nat × Nat}, rBody_p b = some r → ∃ rv rh, call 14 [wb_1] h = .ok rv rh ∧ ∃ wk1 : AV, ∃ Lk3 : List AV, ∃ Gk : Nat → Prop, ∃ kk : Hp, rv = (AV.tuple [wk1, (vi r.2.1), (vi r.2.2)]) ∧ (Eng.Rows (rP (rN0 .i64) (rP (rU .u32) (rP (rU .u32) (rP (rU .u64) (rP (rL (rU .u32)) (rZ .i64)))))) Gk kk Lk3 r.1) ∧ Eng.Sep (OwnO 6 wk1 r.1.length Lk3 :: Frz Gk kk :: Frz (Low h) h :: []) rh
theorem s_rBody (d : Nat) : C_rBody (CC (d + 7)) := by
  intro h wb_1 b fb_2 r hp
  rw [CC, evF_at (sumT_none rfl)]
  exact rBody_w (call := CC (d + 6)) (N := 100000) fb_2 (s_rbody (d + 0)) hp
noncomputable def sameInstr_l1  : Nat → Bool → Nat → Nat → Nat → Nat → Nat → List Nat → Int → Nat → Nat → Nat → Nat → List Nat → Int → Option (LO (Bool × Nat × Nat × Nat × Nat × Nat × List Nat × Int × Nat × Nat × Nat × Nat × List Nat × Int) (Bool))
  | 0, _, _, _, _, _, _, _, _, _, _, _, _, _, _ => none
  | m + 1, A4, A5, Q102_0, Q102_1, Q102_2, Q102_3, Q102_4, Q102_5, Q101_0, Q101_1, Q101_2, Q101_3, Q101_4, Q101_5 =>
    (if A5 < Q101_4.length then (gd (A5 < Q102_4.length) (if (Q101_4.getD A5 default) ≠ (Q102_4.getD A5 default) then (some (LO.rt false)) else
    (gd (A5 + 1 < 9223372036854775808) (sameInstr_l1  m A4 (A5 + 1) Q102_0 Q102_1 Q102_2 Q102_3 Q102_4 Q102_5 Q101_0 Q101_1 Q101_2 Q101_3 Q101_4 Q101_5)))) else
    (some (LO.ex (A4, A5, Q102_0, Q102_1, Q102_2, Q102_3, Q102_4, Q102_5, Q101_0, Q101_1, Q101_2, Q101_3, Q101_4, Q101_5))))
noncomputable def sameInstr_l1C : AC := (.seq (.seq (.region [⟨(some 48), .q (.move (.tmp 5)), none⟩, ⟨(some 49), .q (.fieldAddr 4 (.tmp 2)), none⟩, ⟨(some 50), .q (.loadS (.tmp 49)), none⟩, ⟨(some 51), .q (.lenL (.tmp 50)), none⟩, ⟨(some 52), .q (.bin .lss (.tmp 48) (.tmp 51)), none⟩]) (.cond (.tmp 52) .skip (.exit 0))) (.seq (.block 1 (.seq (.drawn [⟨[(⟨(some 55), .q (.fieldAddr 4 (.tmp 2)), none⟩, 0), (⟨(some 56), .q (.loadS (.tmp 55)), none⟩, 0), (⟨(some 57), .q (.move (.tmp 5)), none⟩, 0), (⟨(some 58), .q (.idxAddrSl 1 (.tmp 56) (.tmp 57)), none⟩, 0), (⟨(some 59), .q (.loadS (.tmp 58)), none⟩, 0), (⟨(some 60), .q (.fieldAddr 4 (.tmp 3)), none⟩, 0), (⟨(some 61), .q (.loadS (.tmp 60)), none⟩, 0), (⟨(some 62), .q (.move (.tmp 5)), none⟩, 0), (⟨(some 63), .q (.idxAddrSl 1 (.tmp 61) (.tmp 62)), none⟩, 0), (⟨(some 64), .q (.loadS (.tmp 63)), none⟩, 0), (⟨(some 65), .q (.eq .int true (.tmp 59) (.tmp 64)), none⟩, 0)], none⟩]) (.cond (.tmp 65) (.seq (.region [⟨(some 4), .q (.move (.const (AV.bool false))), none⟩]) .ret) .skip))) (.region [⟨(some 53), .q (.move (.tmp 5)), none⟩, ⟨(some 54), .q (.bin .add (.tmp 53) (.const (vi 1))), none⟩, ⟨(some 5), .q (.move (.tmp 54)), none⟩])))
theorem sameInstr_l1_body {call : CallT} {N : Nat} {t : T} {h : Hp} {b102 : Nat} {b101 : Nat} {G : Nat → Prop} {h0 : Hp}    {o : LO (Bool × Nat × Nat × Nat × Nat × Nat × List Nat × Int × Nat × Nat × Nat × Nat × List Nat × Int) (Bool)} {n : Nat} {A4 : Bool} {A5 : Nat} {Q102_0 : Nat} {Q102_1 : Nat} {Q102_2 : Nat} {Q102_3 : Nat} {Q102_4 : List Nat} {Q102_5 : Int} {Q101_0 : Nat} {Q101_1 : Nat} {Q101_2 : Nat} {Q101_3 : Nat} {Q101_4 : List Nat} {Q101_5 : Int} {wQ102_4_1 : AV} {wQ101_4_1 : AV} (hN : 90000 < N) (hi : (fun (z : Nat × Bool × Nat × Nat × Nat × Nat × Nat × List Nat × Int × Nat × Nat × Nat × Nat × List Nat × Int × AV × AV) (h' : Hp) => sameInstr_l1  z.1 z.2.1 z.2.2.1 z.2.2.2.1 z.2.2.2.2.1 z.2.2.2.2.2.1 z.2.2.2.2.2.2.1 z.2.2.2.2.2.2.2.1 z.2.2.2.2.2.2.2.2.1 z.2.2.2.2.2.2.2.2.2.1 z.2.2.2.2.2.2.2.2.2.2.1 z.2.2.2.2.2.2.2.2.2.2.2.1 z.2.2.2.2.2.2.2.2.2.2.2.2.1 z.2.2.2.2.2.2.2.2.2.2.2.2.2.1 z.2.2.2.2.2.2.2.2.2.2.2.2.2.2.1 = some o ∧ (z.2.2.2.2.1 < 4294967296) ∧ (z.2.2.2.2.2.1 < 4294967296) ∧ (z.2.2.2.2.2.2.1 < 18446744073709551616) ∧ (SIn (rU .u32) G h0 z.2.2.2.2.2.2.2.2.2.2.2.2.2.2.2.1 z.2.2.2.2.2.2.2.1) ∧ (z.2.2.2.2.2.2.2.2.2.2.1 < 4294967296) ∧ (z.2.2.2.2.2.2.2.2.2.2.2.1 < 4294967296) ∧ (z.2.2.2.2.2.2.2.2.2.2.2.2.1 < 18446744073709551616) ∧ (SIn (rU .u32) G h0 z.2.2.2.2.2.2.2.2.2.2.2.2.2.2.2.2 z.2.2.2.2.2.2.2.2.2.2.2.2.2.1) ∧ Eng.Sep [Cel b102 [(vi z.2.2.2.1), (vw z.2.2.2.2.1), (vw z.2.2.2.2.2.1), (vq z.2.2.2.2.2.2.1), z.2.2.2.2.2.2.2.2.2.2.2.2.2.2.2.1, (AV.int .i64 z.2.2.2.2.2.2.2.2.1)], Cel b101 [(vi z.2.2.2.2.2.2.2.2.2.1), (vw z.2.2.2.2.2.2.2.2.2.2.1), (vw z.2.2.2.2.2.2.2.2.2.2.2.1), (vq z.2.2.2.2.2.2.2.2.2.2.2.2.1), z.2.2.2.2.2.2.2.2.2.2.2.2.2.2.2.2, (AV.int .i64 z.2.2.2.2.2.2.2.2.2.2.2.2.2.2.1)], Frz G h0] h') (n, A4, A5, Q102_0, Q102_1, Q102_2, Q102_3, Q102_4, Q102_5, Q101_0, Q101_1, Q101_2, Q101_3, Q101_4, Q101_5, wQ102_4_1, wQ101_4_1) h)
    : ∃ s, evC call N sameInstr_l1C (ovT [(2, (AV.ptr b101 0)), (3, (AV.ptr b102 0)), (4, (AV.bool A4)), (5, (vi A5))] t) h = s ∧ obsS [2, 3, 4, 5] (fun ls h' => ∃ y, ls = ((fun (z : Nat × Bool × Nat × Nat × Nat × Nat × Nat × List Nat × Int × Nat × Nat × Nat × Nat × List Nat × Int × AV × AV) => [(2, (AV.ptr b101 0)), (3, (AV.ptr b102 0)), (4, (AV.bool z.2.1)), (5, (vi z.2.2.1))]) y).map (fun p => some p.2) ∧ (fun (z : Nat × Bool × Nat × Nat × Nat × Nat × Nat × List Nat × Int × Nat × Nat × Nat × Nat × List Nat × Int × AV × AV) (h' : Hp) => sameInstr_l1  z.1 z.2.1 z.2.2.1 z.2.2.2.1 z.2.2.2.2.1 z.2.2.2.2.2.1 z.2.2.2.2.2.2.1 z.2.2.2.2.2.2.2.1 z.2.2.2.2.2.2.2.2.1 z.2.2.2.2.2.2.2.2.2.1 z.2.2.2.2.2.2.2.2.2.2.1 z.2.2.2.2.2.2.2.2.2.2.2.1 z.2.2.2.2.2.2.2.2.2.2.2.2.1 z.2.2.2.2.2.2.2.2.2.2.2.2.2.1 z.2.2.2.2.2.2.2.2.2.2.2.2.2.2.1 = some o ∧ (z.2.2.2.2.1 < 4294967296) ∧ (z.2.2.2.2.2.1 < 4294967296) ∧ (z.2.2.2.2.2.2.1 < 18446744073709551616) ∧ (SIn (rU .u32) G h0 z.2.2.2.2.2.2.2.2.2.2.2.2.2.2.2.1 z.2.2.2.2.2.2.2.1) ∧ (z.2.2.2.2.2.2.2.2.2.2.1 < 4294967296) ∧ (z.2.2.2.2.2.2.2.2.2.2.2.1 < 4294967296) ∧ (z.2.2.2.2.2.2.2.2.2.2.2.2.1 < 18446744073709551616) ∧ (SIn (rU .u32) G h0 z.2.2.2.2.2.2.2.2.2.2.2.2.2.2.2.2 z.2.2.2.2.2.2.2.2.2.2.2.2.2.1) ∧ Eng.Sep [Cel b102 [(vi z.2.2.2.1), (vw z.2.2.2.2.1), (vw z.2.2.2.2.2.1), (vq z.2.2.2.2.2.2.1), z.2.2.2.2.2.2.2.2.2.2.2.2.2.2.2.1, (AV.int .i64 z.2.2.2.2.2.2.2.2.1)], Cel b101 [(vi z.2.2.2.2.2.2.2.2.2.1), (vw z.2.2.2.2.2.2.2.2.2.2.1), (vw z.2.2.2.2.2.2.2.2.2.2.2.1), (vq z.2.2.2.2.2.2.2.2.2.2.2.2.1), z.2.2.2.2.2.2.2.2.2.2.2.2.2.2.2.2, (AV.int .i64 z.2.2.2.2.2.2.2.2.2.2.2.2.2.2.1)], Frz G h0] h') y h' ∧ (fun (z : Nat × Bool × Nat × Nat × Nat × Nat × Nat × List Nat × Int × Nat × Nat × Nat × Nat × List Nat × Int × AV × AV) => z.1) y < (fun (z : Nat × Bool × Nat × Nat × Nat × Nat × Nat × List Nat × Int × Nat × Nat × Nat × Nat × List Nat × Int × AV × AV) => z.1) (n, A4, A5, Q102_0, Q102_1, Q102_2, Q102_3, Q102_4, Q102_5, Q101_0, Q101_1, Q101_2, Q101_3, Q101_4, Q101_5, wQ102_4_1, wQ101_4_1)) (fun i ls h' => ∃ y, ls = ((fun (z : Nat × Bool × Nat × Nat × Nat × Nat × Nat × List Nat × Int × Nat × Nat × Nat × Nat × List Nat × Int × AV × AV) => [(2, (AV.ptr b101 0)), (3, (AV.ptr b102 0)), (4, (AV.bool z.2.1)), (5, (vi z.2.2.1))]) y).map (fun p => some p.2) ∧ (fun (i : Nat) (z : Nat × Bool × Nat × Nat × Nat × Nat × Nat × List Nat × Int × Nat × Nat × Nat × Nat × List Nat × Int × AV × AV) (h' : Hp) => (i = 0) ∧ (i = 0 → o = LO.ex (z.2.1, z.2.2.1, z.2.2.2.1, z.2.2.2.2.1, z.2.2.2.2.2.1, z.2.2.2.2.2.2.1, z.2.2.2.2.2.2.2.1, z.2.2.2.2.2.2.2.2.1, z.2.2.2.2.2.2.2.2.2.1, z.2.2.2.2.2.2.2.2.2.2.1, z.2.2.2.2.2.2.2.2.2.2.2.1, z.2.2.2.2.2.2.2.2.2.2.2.2.1, z.2.2.2.2.2.2.2.2.2.2.2.2.2.1, z.2.2.2.2.2.2.2.2.2.2.2.2.2.2.1) ∧ (z.2.2.2.2.1 < 4294967296) ∧ (z.2.2.2.2.2.1 < 4294967296) ∧ (z.2.2.2.2.2.2.1 < 18446744073709551616) ∧ (SIn (rU .u32) G h0 z.2.2.2.2.2.2.2.2.2.2.2.2.2.2.2.1 z.2.2.2.2.2.2.2.1) ∧ (z.2.2.2.2.2.2.2.2.2.2.1 < 4294967296) ∧ (z.2.2.2.2.2.2.2.2.2.2.2.1 < 4294967296) ∧ (z.2.2.2.2.2.2.2.2.2.2.2.2.1 < 18446744073709551616) ∧ (SIn (rU .u32) G h0 z.2.2.2.2.2.2.2.2.2.2.2.2.2.2.2.2 z.2.2.2.2.2.2.2.2.2.2.2.2.2.1) ∧ Eng.Sep [Cel b102 [(vi z.2.2.2.1), (vw z.2.2.2.2.1), (vw z.2.2.2.2.2.1), (vq z.2.2.2.2.2.2.1), z.2.2.2.2.2.2.2.2.2.2.2.2.2.2.2.1, (AV.int .i64 z.2.2.2.2.2.2.2.2.1)], Cel b101 [(vi z.2.2.2.2.2.2.2.2.2.1), (vw z.2.2.2.2.2.2.2.2.2.2.1), (vw z.2.2.2.2.2.2.2.2.2.2.2.1), (vq z.2.2.2.2.2.2.2.2.2.2.2.2.1), z.2.2.2.2.2.2.2.2.2.2.2.2.2.2.2.2, (AV.int .i64 z.2.2.2.2.2.2.2.2.2.2.2.2.2.2.1)], Frz G h0] h')) i y h') (fun ls h' => (fun (ls : List (Option AV)) (h' : Hp) => ∃ (rt : Bool) (v4 : AV), o = LO.rt rt ∧ ls[2]? = some (some v4) ∧ (v4 = (AV.bool rt) ∧ Eng.Sep (Frz G h0 :: []) h')) ls h') s := by
  have hi : sameInstr_l1  n A4 A5 Q102_0 Q102_1 Q102_2 Q102_3 Q102_4 Q102_5 Q101_0 Q101_1 Q101_2 Q101_3 Q101_4 Q101_5 = some o ∧ (Q102_1 < 4294967296) ∧ (Q102_2 < 4294967296) ∧ (Q102_3 < 18446744073709551616) ∧ (SIn (rU .u32) G h0 wQ102_4_1 Q102_4) ∧ (Q101_1 < 4294967296) ∧ (Q101_2 < 4294967296) ∧ (Q101_3 < 18446744073709551616) ∧ (SIn (rU .u32) G h0 wQ101_4_1 Q101_4) ∧ Eng.Sep [Cel b102 [(vi Q102_0), (vw Q102_1), (vw Q102_2), (vq Q102_3), wQ102_4_1, (AV.int .i64 Q102_5)], Cel b101 [(vi Q101_0), (vw Q101_1), (vw Q101_2), (vq Q101_3), wQ101_4_1, (AV.int .i64 Q101_5)], Frz G h0] h := hi
  obtain ⟨hp, fQ102_1_1, fQ102_2_1, fQ102_3_1, fQ102_4_2, fQ101_1_1, fQ101_2_1, fQ101_3_1, fQ101_4_2, S⟩ := hi
  obtain ⟨m, hm⟩ : ∃ m, n = m + 1 := by
    cases n with
    | zero => first | cases hp | (unfold sameInstr_l1 at hp; cases hp) | (simp [sameInstr_l1] at hp)
    | succ m => exact ⟨m, rfl⟩
  rw [hm] at hp
  unfold sameInstr_l1 at hp
  refine walk_ok (o := (.tell 2 wQ101_4_1 (.tell 0 (vi Q101_4.length) (.fork 0 (.tell 1 wQ101_4_1 (.tell 1 (elemP wQ101_4_1 A5 1) (.tell 0 (vw (Q101_4.getD A5 default)) (.tell 1 wQ102_4_1 (.tell 1 (elemP wQ102_4_1 A5 1) (.tell 0 (vw (Q102_4.getD A5 default)) (.fork 0 (.again 0 .fin) (.again 0 (.tell 1 (vi (A5 + 1)) .fin))))))))) .fin)))) (p := (fun (KN : List (Option AV) → Hp → Prop) (KE : Nat → List (Option AV) → Hp → Prop) (KR : List (Option AV) → Hp → Prop) => ((evQ (.loadS (.const (AV.ptr b101 4))) .lf h = .ok wQ101_4_1 ∧ ((evQ (.lenL (.const wQ101_4_1)) .lf H0 = .ok (vi Q101_4.length) ∧ ((ltI (Int.ofNat A5) (Int.ofNat Q101_4.length) = true → ((evQ (.loadS (.const (AV.ptr b101 4))) .lf h = .ok wQ101_4_1 ∧ ((evQ (.idxAddrSl 1 (.const wQ101_4_1) (.const (vi A5))) .lf H0 = .ok (elemP wQ101_4_1 A5 1) ∧ ((evQ (.loadS (.const (elemP wQ101_4_1 A5 1))) .lf h = .ok (vw (Q101_4.getD A5 default)) ∧ ((evQ (.loadS (.const (AV.ptr b102 4))) .lf h = .ok wQ102_4_1 ∧ ((evQ (.idxAddrSl 1 (.const wQ102_4_1) (.const (vi A5))) .lf H0 = .ok (elemP wQ102_4_1 A5 1) ∧ ((evQ (.loadS (.const (elemP wQ102_4_1 A5 1))) .lf h = .ok (vw (Q102_4.getD A5 default)) ∧ ((notB (eqI (Int.ofNat (Q101_4.getD A5 default)) (Int.ofNat (Q102_4.getD A5 default))) = true → ((again (.eq .int true (.const (vw (Q101_4.getD A5 default))) (.const (vw (Q102_4.getD A5 default)))) .lf (AV.bool true) h = true ∧ again (.loadS (.const (elemP wQ102_4_1 A5 1))) .lf (vw (Q102_4.getD A5 default)) h = true ∧ again (.idxAddrSl 1 (.const wQ102_4_1) (.const (vi A5))) .lf (elemP wQ102_4_1 A5 1) h = true ∧ again (.move (.const (vi A5))) .lf (vi A5) h = true ∧ again (.loadS (.const (AV.ptr b102 4))) .lf wQ102_4_1 h = true ∧ again (.fieldAddr 4 (.const (AV.ptr b102 0))) .lf (AV.ptr b102 4) h = true ∧ again (.loadS (.const (elemP wQ101_4_1 A5 1))) .lf (vw (Q101_4.getD A5 default)) h = true ∧ again (.idxAddrSl 1 (.const wQ101_4_1) (.const (vi A5))) .lf (elemP wQ101_4_1 A5 1) h = true ∧ again (.move (.const (vi A5))) .lf (vi A5) h = true ∧ again (.loadS (.const (AV.ptr b101 4))) .lf wQ101_4_1 h = true ∧ again (.fieldAddr 4 (.const (AV.ptr b101 0))) .lf (AV.ptr b101 4) h = true ∧ True) ∧ KR [some (AV.ptr b101 0), some (AV.ptr b102 0), some (AV.bool false), some (vi A5)] h)) ∧ (notB (eqI (Int.ofNat (Q101_4.getD A5 default)) (Int.ofNat (Q102_4.getD A5 default))) = false → ((again (.eq .int true (.const (vw (Q101_4.getD A5 default))) (.const (vw (Q102_4.getD A5 default)))) .lf (AV.bool false) h = true ∧ again (.loadS (.const (elemP wQ102_4_1 A5 1))) .lf (vw (Q102_4.getD A5 default)) h = true ∧ again (.idxAddrSl 1 (.const wQ102_4_1) (.const (vi A5))) .lf (elemP wQ102_4_1 A5 1) h = true ∧ again (.move (.const (vi A5))) .lf (vi A5) h = true ∧ again (.loadS (.const (AV.ptr b102 4))) .lf wQ102_4_1 h = true ∧ again (.fieldAddr 4 (.const (AV.ptr b102 0))) .lf (AV.ptr b102 4) h = true ∧ again (.loadS (.const (elemP wQ101_4_1 A5 1))) .lf (vw (Q101_4.getD A5 default)) h = true ∧ again (.idxAddrSl 1 (.const wQ101_4_1) (.const (vi A5))) .lf (elemP wQ101_4_1 A5 1) h = true ∧ again (.move (.const (vi A5))) .lf (vi A5) h = true ∧ again (.loadS (.const (AV.ptr b101 4))) .lf wQ101_4_1 h = true ∧ again (.fieldAddr 4 (.const (AV.ptr b101 0))) .lf (AV.ptr b101 4) h = true ∧ True) ∧ ((evQ (.bin .add (.const (vi A5)) (.const (vi 1))) .lf H0 = .ok (vi (A5 + 1)) ∧ KN [some (AV.ptr b101 0), some (AV.ptr b102 0), some (AV.bool A4), some (vi (A5 + 1))] h)))))))))))))))))) ∧ (ltI (Int.ofNat A5) (Int.ofNat Q101_4.length) = false → KE 0 [some (AV.ptr b101 0), some (AV.ptr b102 0), some (AV.bool A4), some (vi A5)] h))))))) (fun ls h' => ∃ y, ls = ((fun (z : Nat × Bool × Nat × Nat × Nat × Nat × Nat × List Nat × Int × Nat × Nat × Nat × Nat × List Nat × Int × AV × AV) => [(2, (AV.ptr b101 0)), (3, (AV.ptr b102 0)), (4, (AV.bool z.2.1)), (5, (vi z.2.2.1))]) y).map (fun p => some p.2) ∧ (fun (z : Nat × Bool × Nat × Nat × Nat × Nat × Nat × List Nat × Int × Nat × Nat × Nat × Nat × List Nat × Int × AV × AV) (h' : Hp) => sameInstr_l1  z.1 z.2.1 z.2.2.1 z.2.2.2.1 z.2.2.2.2.1 z.2.2.2.2.2.1 z.2.2.2.2.2.2.1 z.2.2.2.2.2.2.2.1 z.2.2.2.2.2.2.2.2.1 z.2.2.2.2.2.2.2.2.2.1 z.2.2.2.2.2.2.2.2.2.2.1 z.2.2.2.2.2.2.2.2.2.2.2.1 z.2.2.2.2.2.2.2.2.2.2.2.2.1 z.2.2.2.2.2.2.2.2.2.2.2.2.2.1 z.2.2.2.2.2.2.2.2.2.2.2.2.2.2.1 = some o ∧ (z.2.2.2.2.1 < 4294967296) ∧ (z.2.2.2.2.2.1 < 4294967296) ∧ (z.2.2.2.2.2.2.1 < 18446744073709551616) ∧ (SIn (rU .u32) G h0 z.2.2.2.2.2.2.2.2.2.2.2.2.2.2.2.1 z.2.2.2.2.2.2.2.1) ∧ (z.2.2.2.2.2.2.2.2.2.2.1 < 4294967296) ∧ (z.2.2.2.2.2.2.2.2.2.2.2.1 < 4294967296) ∧ (z.2.2.2.2.2.2.2.2.2.2.2.2.1 < 18446744073709551616) ∧ (SIn (rU .u32) G h0 z.2.2.2.2.2.2.2.2.2.2.2.2.2.2.2.2 z.2.2.2.2.2.2.2.2.2.2.2.2.2.1) ∧ Eng.Sep [Cel b102 [(vi z.2.2.2.1), (vw z.2.2.2.2.1), (vw z.2.2.2.2.2.1), (vq z.2.2.2.2.2.2.1), z.2.2.2.2.2.2.2.2.2.2.2.2.2.2.2.1, (AV.int .i64 z.2.2.2.2.2.2.2.2.1)], Cel b101 [(vi z.2.2.2.2.2.2.2.2.2.1), (vw z.2.2.2.2.2.2.2.2.2.2.1), (vw z.2.2.2.2.2.2.2.2.2.2.2.1), (vq z.2.2.2.2.2.2.2.2.2.2.2.2.1), z.2.2.2.2.2.2.2.2.2.2.2.2.2.2.2.2, (AV.int .i64 z.2.2.2.2.2.2.2.2.2.2.2.2.2.2.1)], Frz G h0] h') y h' ∧ (fun (z : Nat × Bool × Nat × Nat × Nat × Nat × Nat × List Nat × Int × Nat × Nat × Nat × Nat × List Nat × Int × AV × AV) => z.1) y < (fun (z : Nat × Bool × Nat × Nat × Nat × Nat × Nat × List Nat × Int × Nat × Nat × Nat × Nat × List Nat × Int × AV × AV) => z.1) (n, A4, A5, Q102_0, Q102_1, Q102_2, Q102_3, Q102_4, Q102_5, Q101_0, Q101_1, Q101_2, Q101_3, Q101_4, Q101_5, wQ102_4_1, wQ101_4_1)) (fun i ls h' => ∃ y, ls = ((fun (z : Nat × Bool × Nat × Nat × Nat × Nat × Nat × List Nat × Int × Nat × Nat × Nat × Nat × List Nat × Int × AV × AV) => [(2, (AV.ptr b101 0)), (3, (AV.ptr b102 0)), (4, (AV.bool z.2.1)), (5, (vi z.2.2.1))]) y).map (fun p => some p.2) ∧ (fun (i : Nat) (z : Nat × Bool × Nat × Nat × Nat × Nat × Nat × List Nat × Int × Nat × Nat × Nat × Nat × List Nat × Int × AV × AV) (h' : Hp) => (i = 0) ∧ (i = 0 → o = LO.ex (z.2.1, z.2.2.1, z.2.2.2.1, z.2.2.2.2.1, z.2.2.2.2.2.1, z.2.2.2.2.2.2.1, z.2.2.2.2.2.2.2.1, z.2.2.2.2.2.2.2.2.1, z.2.2.2.2.2.2.2.2.2.1, z.2.2.2.2.2.2.2.2.2.2.1, z.2.2.2.2.2.2.2.2.2.2.2.1, z.2.2.2.2.2.2.2.2.2.2.2.2.1, z.2.2.2.2.2.2.2.2.2.2.2.2.2.1, z.2.2.2.2.2.2.2.2.2.2.2.2.2.2.1) ∧ (z.2.2.2.2.1 < 4294967296) ∧ (z.2.2.2.2.2.1 < 4294967296) ∧ (z.2.2.2.2.2.2.1 < 18446744073709551616) ∧ (SIn (rU .u32) G h0 z.2.2.2.2.2.2.2.2.2.2.2.2.2.2.2.1 z.2.2.2.2.2.2.2.1) ∧ (z.2.2.2.2.2.2.2.2.2.2.1 < 4294967296) ∧ (z.2.2.2.2.2.2.2.2.2.2.2.1 < 4294967296) ∧ (z.2.2.2.2.2.2.2.2.2.2.2.2.1 < 18446744073709551616) ∧ (SIn (rU .u32) G h0 z.2.2.2.2.2.2.2.2.2.2.2.2.2.2.2.2 z.2.2.2.2.2.2.2.2.2.2.2.2.2.1) ∧ Eng.Sep [Cel b102 [(vi z.2.2.2.1), (vw z.2.2.2.2.1), (vw z.2.2.2.2.2.1), (vq z.2.2.2.2.2.2.1), z.2.2.2.2.2.2.2.2.2.2.2.2.2.2.2.1, (AV.int .i64 z.2.2.2.2.2.2.2.2.1)], Cel b101 [(vi z.2.2.2.2.2.2.2.2.2.1), (vw z.2.2.2.2.2.2.2.2.2.2.1), (vw z.2.2.2.2.2.2.2.2.2.2.2.1), (vq z.2.2.2.2.2.2.2.2.2.2.2.2.1), z.2.2.2.2.2.2.2.2.2.2.2.2.2.2.2.2, (AV.int .i64 z.2.2.2.2.2.2.2.2.2.2.2.2.2.2.1)], Frz G h0] h')) i y h') (fun ls h' => (fun (ls : List (Option AV)) (h' : Hp) => ∃ (rt : Bool) (v4 : AV), o = LO.rt rt ∧ ls[2]? = some (some v4) ∧ (v4 = (AV.bool rt) ∧ Eng.Sep (Frz G h0 :: []) h')) ls h')) (by kernel_rfl) ?_
  refine ⟨cel_load S (i := 1) rfl rfl, ?_⟩
  refine ⟨sin_len fQ101_4_2, ?_⟩
  refine ⟨fun c1 => ?_, fun c1 => ?_⟩
  · replace c1 := ltI_t c1
    replace hp := ift hp c1
    refine ⟨cel_load S (i := 1) rfl rfl, ?_⟩
    obtain ⟨csR3, hcR3, R3⟩ := sin_row fQ101_4_2 c1
    obtain ⟨rfl, f2⟩ := hcR3
    refine ⟨sin_idx fQ101_4_2 c1, ?_⟩
    refine ⟨row_load S (i := 2) rfl R3 rfl, ?_⟩
    refine ⟨cel_load S (i := 0) rfl rfl, ?_⟩
    have ⟨g4, hp⟩ := gd_inv hp
    obtain ⟨csR6, hcR6, R6⟩ := sin_row fQ102_4_2 g4
    obtain ⟨rfl, f5⟩ := hcR6
    refine ⟨sin_idx fQ102_4_2 g4, ?_⟩
    refine ⟨row_load S (i := 2) rfl R6 rfl, ?_⟩
    refine ⟨fun c7 => ?_, fun c7 => ?_⟩
    · have rc7 := c7
      replace c7 := eqI_f (notB_t c7)
      replace hp := ift hp c7
      refine ⟨⟨again_of (congrArg (fun b => OV.ok (AV.bool b)) rc7) (avEq_bool _), again_of (row_load S (i := 2) rfl R6 rfl) (avEq_int _ _), again_of (sin_idx fQ102_4_2 g4) (elemP_same _ _ _), again_of (rfl) (avEq_int _ _), again_of (cel_load S (i := 0) rfl rfl) (SIn.same fQ102_4_2), again_of (rfl) (avEq_ptr _ _), again_of (row_load S (i := 2) rfl R3 rfl) (avEq_int _ _), again_of (sin_idx fQ101_4_2 c1) (elemP_same _ _ _), again_of (rfl) (avEq_int _ _), again_of (cel_load S (i := 1) rfl rfl) (SIn.same fQ101_4_2), again_of (rfl) (avEq_ptr _ _), trivial⟩, ?_⟩
      have S8 : Sep [Frz G h0] h := S.sel [2] (by decide) rfl
      refine ⟨_, (AV.bool false), (Option.some.inj hp).symm, rfl, ?_⟩
      exact ⟨rfl, S8⟩
    have rc7 := c7
    replace c7 := eqI_t (notB_f c7)
    replace hp := iff0 hp (nneO c7)
    refine ⟨⟨again_of (congrArg (fun b => OV.ok (AV.bool b)) rc7) (avEq_bool _), again_of (row_load S (i := 2) rfl R6 rfl) (avEq_int _ _), again_of (sin_idx fQ102_4_2 g4) (elemP_same _ _ _), again_of (rfl) (avEq_int _ _), again_of (cel_load S (i := 0) rfl rfl) (SIn.same fQ102_4_2), again_of (rfl) (avEq_ptr _ _), again_of (row_load S (i := 2) rfl R3 rfl) (avEq_int _ _), again_of (sin_idx fQ101_4_2 c1) (elemP_same _ _ _), again_of (rfl) (avEq_int _ _), again_of (cel_load S (i := 1) rfl rfl) (SIn.same fQ101_4_2), again_of (rfl) (avEq_ptr _ _), trivial⟩, ?_⟩
    have ⟨g8, hp⟩ := gd_inv hp
    refine ⟨q_add g8, ?_⟩
    refine ⟨(m, A4, A5 + 1, Q102_0, Q102_1, Q102_2, Q102_3, Q102_4, Q102_5, Q101_0, Q101_1, Q101_2, Q101_3, Q101_4, Q101_5, wQ102_4_1, wQ101_4_1), rfl, ⟨hp, fQ102_1_1, fQ102_2_1, fQ102_3_1, fQ102_4_2, fQ101_1_1, fQ101_2_1, fQ101_3_1, fQ101_4_2, S⟩, by show m < n; omega⟩
  replace c1 := ltI_f c1
  replace hp := iff0 hp (nltO c1)
  refine ⟨(m, A4, A5, Q102_0, Q102_1, Q102_2, Q102_3, Q102_4, Q102_5, Q101_0, Q101_1, Q101_2, Q101_3, Q101_4, Q101_5, wQ102_4_1, wQ101_4_1), rfl, rfl, fun _ => ⟨(Option.some.inj hp).symm, fQ102_1_1, fQ102_2_1, fQ102_3_1, fQ102_4_2, fQ101_1_1, fQ101_2_1, fQ101_3_1, fQ101_4_2, S⟩⟩
theorem sameInstr_l1_t {call : CallT} {N : Nat} {b102 : Nat} {b101 : Nat} {G : Nat → Prop} {h0 : Hp}    {o : LO (Bool × Nat × Nat × Nat × Nat × Nat × List Nat × Int × Nat × Nat × Nat × Nat × List Nat × Int) (Bool)} {n : Nat} {A4 : Bool} {A5 : Nat} {Q102_0 : Nat} {Q102_1 : Nat} {Q102_2 : Nat} {Q102_3 : Nat} {Q102_4 : List Nat} {Q102_5 : Int} {Q101_0 : Nat} {Q101_1 : Nat} {Q101_2 : Nat} {Q101_3 : Nat} {Q101_4 : List Nat} {Q101_5 : Int} {wQ102_4_1 : AV} {wQ101_4_1 : AV} {h : Hp} (hi : (fun (z : Nat × Bool × Nat × Nat × Nat × Nat × Nat × List Nat × Int × Nat × Nat × Nat × Nat × List Nat × Int × AV × AV) (h' : Hp) => sameInstr_l1  z.1 z.2.1 z.2.2.1 z.2.2.2.1 z.2.2.2.2.1 z.2.2.2.2.2.1 z.2.2.2.2.2.2.1 z.2.2.2.2.2.2.2.1 z.2.2.2.2.2.2.2.2.1 z.2.2.2.2.2.2.2.2.2.1 z.2.2.2.2.2.2.2.2.2.2.1 z.2.2.2.2.2.2.2.2.2.2.2.1 z.2.2.2.2.2.2.2.2.2.2.2.2.1 z.2.2.2.2.2.2.2.2.2.2.2.2.2.1 z.2.2.2.2.2.2.2.2.2.2.2.2.2.2.1 = some o ∧ (z.2.2.2.2.1 < 4294967296) ∧ (z.2.2.2.2.2.1 < 4294967296) ∧ (z.2.2.2.2.2.2.1 < 18446744073709551616) ∧ (SIn (rU .u32) G h0 z.2.2.2.2.2.2.2.2.2.2.2.2.2.2.2.1 z.2.2.2.2.2.2.2.1) ∧ (z.2.2.2.2.2.2.2.2.2.2.1 < 4294967296) ∧ (z.2.2.2.2.2.2.2.2.2.2.2.1 < 4294967296) ∧ (z.2.2.2.2.2.2.2.2.2.2.2.2.1 < 18446744073709551616) ∧ (SIn (rU .u32) G h0 z.2.2.2.2.2.2.2.2.2.2.2.2.2.2.2.2 z.2.2.2.2.2.2.2.2.2.2.2.2.2.1) ∧ Eng.Sep [Cel b102 [(vi z.2.2.2.1), (vw z.2.2.2.2.1), (vw z.2.2.2.2.2.1), (vq z.2.2.2.2.2.2.1), z.2.2.2.2.2.2.2.2.2.2.2.2.2.2.2.1, (AV.int .i64 z.2.2.2.2.2.2.2.2.1)], Cel b101 [(vi z.2.2.2.2.2.2.2.2.2.1), (vw z.2.2.2.2.2.2.2.2.2.2.1), (vw z.2.2.2.2.2.2.2.2.2.2.2.1), (vq z.2.2.2.2.2.2.2.2.2.2.2.2.1), z.2.2.2.2.2.2.2.2.2.2.2.2.2.2.2.2, (AV.int .i64 z.2.2.2.2.2.2.2.2.2.2.2.2.2.2.1)], Frz G h0] h') (n, A4, A5, Q102_0, Q102_1, Q102_2, Q102_3, Q102_4, Q102_5, Q101_0, Q101_1, Q101_2, Q101_3, Q101_4, Q101_5, wQ102_4_1, wQ101_4_1) h) (hN : n < N) (hN' : 90000 < N) {t : T} (ht : Has ((fun (z : Nat × Bool × Nat × Nat × Nat × Nat × Nat × List Nat × Int × Nat × Nat × Nat × Nat × List Nat × Int × AV × AV) => [(2, (AV.ptr b101 0)), (3, (AV.ptr b102 0)), (4, (AV.bool z.2.1)), (5, (vi z.2.2.1))]) (n, A4, A5, Q102_0, Q102_1, Q102_2, Q102_3, Q102_4, Q102_5, Q101_0, Q101_1, Q101_2, Q101_3, Q101_4, Q101_5, wQ102_4_1, wQ101_4_1)) t) :
    (∃ i y t' h', evC call N (.loop sameInstr_l1C) t h = .exit i t' h' ∧ Has ((fun (z : Nat × Bool × Nat × Nat × Nat × Nat × Nat × List Nat × Int × Nat × Nat × Nat × Nat × List Nat × Int × AV × AV) => [(2, (AV.ptr b101 0)), (3, (AV.ptr b102 0)), (4, (AV.bool z.2.1)), (5, (vi z.2.2.1))]) y) t' ∧ (fun (i : Nat) (z : Nat × Bool × Nat × Nat × Nat × Nat × Nat × List Nat × Int × Nat × Nat × Nat × Nat × List Nat × Int × AV × AV) (h' : Hp) => (i = 0) ∧ (i = 0 → o = LO.ex (z.2.1, z.2.2.1, z.2.2.2.1, z.2.2.2.2.1, z.2.2.2.2.2.1, z.2.2.2.2.2.2.1, z.2.2.2.2.2.2.2.1, z.2.2.2.2.2.2.2.2.1, z.2.2.2.2.2.2.2.2.2.1, z.2.2.2.2.2.2.2.2.2.2.1, z.2.2.2.2.2.2.2.2.2.2.2.1, z.2.2.2.2.2.2.2.2.2.2.2.2.1, z.2.2.2.2.2.2.2.2.2.2.2.2.2.1, z.2.2.2.2.2.2.2.2.2.2.2.2.2.2.1) ∧ (z.2.2.2.2.1 < 4294967296) ∧ (z.2.2.2.2.2.1 < 4294967296) ∧ (z.2.2.2.2.2.2.1 < 18446744073709551616) ∧ (SIn (rU .u32) G h0 z.2.2.2.2.2.2.2.2.2.2.2.2.2.2.2.1 z.2.2.2.2.2.2.2.1) ∧ (z.2.2.2.2.2.2.2.2.2.2.1 < 4294967296) ∧ (z.2.2.2.2.2.2.2.2.2.2.2.1 < 4294967296) ∧ (z.2.2.2.2.2.2.2.2.2.2.2.2.1 < 18446744073709551616) ∧ (SIn (rU .u32) G h0 z.2.2.2.2.2.2.2.2.2.2.2.2.2.2.2.2 z.2.2.2.2.2.2.2.2.2.2.2.2.2.1) ∧ Eng.Sep [Cel b102 [(vi z.2.2.2.1), (vw z.2.2.2.2.1), (vw z.2.2.2.2.2.1), (vq z.2.2.2.2.2.2.1), z.2.2.2.2.2.2.2.2.2.2.2.2.2.2.2.1, (AV.int .i64 z.2.2.2.2.2.2.2.2.1)], Cel b101 [(vi z.2.2.2.2.2.2.2.2.2.1), (vw z.2.2.2.2.2.2.2.2.2.2.1), (vw z.2.2.2.2.2.2.2.2.2.2.2.1), (vq z.2.2.2.2.2.2.2.2.2.2.2.2.1), z.2.2.2.2.2.2.2.2.2.2.2.2.2.2.2.2, (AV.int .i64 z.2.2.2.2.2.2.2.2.2.2.2.2.2.2.1)], Frz G h0] h')) i y h') ∨ (∃ t' h', evC call N (.loop sameInstr_l1C) t h = .ret t' h' ∧ (fun (ls : List (Option AV)) (h' : Hp) => ∃ (rt : Bool) (v4 : AV), o = LO.rt rt ∧ ls[2]? = some (some v4) ∧ (v4 = (AV.bool rt) ∧ Eng.Sep (Frz G h0 :: []) h')) (slots [2, 3, 4, 5] t') h') :=
  loop_st (fun (z : Nat × Bool × Nat × Nat × Nat × Nat × Nat × List Nat × Int × Nat × Nat × Nat × Nat × List Nat × Int × AV × AV) => [(2, (AV.ptr b101 0)), (3, (AV.ptr b102 0)), (4, (AV.bool z.2.1)), (5, (vi z.2.2.1))]) [2, 3, 4, 5] (fun _ => rfl) (fun (z : Nat × Bool × Nat × Nat × Nat × Nat × Nat × List Nat × Int × Nat × Nat × Nat × Nat × List Nat × Int × AV × AV) (h' : Hp) => sameInstr_l1  z.1 z.2.1 z.2.2.1 z.2.2.2.1 z.2.2.2.2.1 z.2.2.2.2.2.1 z.2.2.2.2.2.2.1 z.2.2.2.2.2.2.2.1 z.2.2.2.2.2.2.2.2.1 z.2.2.2.2.2.2.2.2.2.1 z.2.2.2.2.2.2.2.2.2.2.1 z.2.2.2.2.2.2.2.2.2.2.2.1 z.2.2.2.2.2.2.2.2.2.2.2.2.1 z.2.2.2.2.2.2.2.2.2.2.2.2.2.1 z.2.2.2.2.2.2.2.2.2.2.2.2.2.2.1 = some o ∧ (z.2.2.2.2.1 < 4294967296) ∧ (z.2.2.2.2.2.1 < 4294967296) ∧ (z.2.2.2.2.2.2.1 < 18446744073709551616) ∧ (SIn (rU .u32) G h0 z.2.2.2.2.2.2.2.2.2.2.2.2.2.2.2.1 z.2.2.2.2.2.2.2.1) ∧ (z.2.2.2.2.2.2.2.2.2.2.1 < 4294967296) ∧ (z.2.2.2.2.2.2.2.2.2.2.2.1 < 4294967296) ∧ (z.2.2.2.2.2.2.2.2.2.2.2.2.1 < 18446744073709551616) ∧ (SIn (rU .u32) G h0 z.2.2.2.2.2.2.2.2.2.2.2.2.2.2.2.2 z.2.2.2.2.2.2.2.2.2.2.2.2.2.1) ∧ Eng.Sep [Cel b102 [(vi z.2.2.2.1), (vw z.2.2.2.2.1), (vw z.2.2.2.2.2.1), (vq z.2.2.2.2.2.2.1), z.2.2.2.2.2.2.2.2.2.2.2.2.2.2.2.1, (AV.int .i64 z.2.2.2.2.2.2.2.2.1)], Cel b101 [(vi z.2.2.2.2.2.2.2.2.2.1), (vw z.2.2.2.2.2.2.2.2.2.2.1), (vw z.2.2.2.2.2.2.2.2.2.2.2.1), (vq z.2.2.2.2.2.2.2.2.2.2.2.2.1), z.2.2.2.2.2.2.2.2.2.2.2.2.2.2.2.2, (AV.int .i64 z.2.2.2.2.2.2.2.2.2.2.2.2.2.2.1)], Frz G h0] h') (fun (z : Nat × Bool × Nat × Nat × Nat × Nat × Nat × List Nat × Int × Nat × Nat × Nat × Nat × List Nat × Int × AV × AV) => z.1) (fun (i : Nat) (z : Nat × Bool × Nat × Nat × Nat × Nat × Nat × List Nat × Int × Nat × Nat × Nat × Nat × List Nat × Int × AV × AV) (h' : Hp) => (i = 0) ∧ (i = 0 → o = LO.ex (z.2.1, z.2.2.1, z.2.2.2.1, z.2.2.2.2.1, z.2.2.2.2.2.1, z.2.2.2.2.2.2.1, z.2.2.2.2.2.2.2.1, z.2.2.2.2.2.2.2.2.1, z.2.2.2.2.2.2.2.2.2.1, z.2.2.2.2.2.2.2.2.2.2.1, z.2.2.2.2.2.2.2.2.2.2.2.1, z.2.2.2.2.2.2.2.2.2.2.2.2.1, z.2.2.2.2.2.2.2.2.2.2.2.2.2.1, z.2.2.2.2.2.2.2.2.2.2.2.2.2.2.1) ∧ (z.2.2.2.2.1 < 4294967296) ∧ (z.2.2.2.2.2.1 < 4294967296) ∧ (z.2.2.2.2.2.2.1 < 18446744073709551616) ∧ (SIn (rU .u32) G h0 z.2.2.2.2.2.2.2.2.2.2.2.2.2.2.2.1 z.2.2.2.2.2.2.2.1) ∧ (z.2.2.2.2.2.2.2.2.2.2.1 < 4294967296) ∧ (z.2.2.2.2.2.2.2.2.2.2.2.1 < 4294967296) ∧ (z.2.2.2.2.2.2.2.2.2.2.2.2.1 < 18446744073709551616) ∧ (SIn (rU .u32) G h0 z.2.2.2.2.2.2.2.2.2.2.2.2.2.2.2.2 z.2.2.2.2.2.2.2.2.2.2.2.2.2.1) ∧ Eng.Sep [Cel b102 [(vi z.2.2.2.1), (vw z.2.2.2.2.1), (vw z.2.2.2.2.2.1), (vq z.2.2.2.2.2.2.1), z.2.2.2.2.2.2.2.2.2.2.2.2.2.2.2.1, (AV.int .i64 z.2.2.2.2.2.2.2.2.1)], Cel b101 [(vi z.2.2.2.2.2.2.2.2.2.1), (vw z.2.2.2.2.2.2.2.2.2.2.1), (vw z.2.2.2.2.2.2.2.2.2.2.2.1), (vq z.2.2.2.2.2.2.2.2.2.2.2.2.1), z.2.2.2.2.2.2.2.2.2.2.2.2.2.2.2.2, (AV.int .i64 z.2.2.2.2.2.2.2.2.2.2.2.2.2.2.1)], Frz G h0] h')) (fun (ls : List (Option AV)) (h' : Hp) => ∃ (rt : Bool) (v4 : AV), o = LO.rt rt ∧ ls[2]? = some (some v4) ∧ (v4 = (AV.bool rt) ∧ Eng.Sep (Frz G h0 :: []) h')) (fun ⟨n, A4, A5, Q102_0, Q102_1, Q102_2, Q102_3, Q102_4, Q102_5, Q101_0, Q101_1, Q101_2, Q101_3, Q101_4, Q101_5, wQ102_4_1, wQ101_4_1⟩ t h hi => sameInstr_l1_body  hN' hi) (n, A4, A5, Q102_0, Q102_1, Q102_2, Q102_3, Q102_4, Q102_5, Q101_0, Q101_1, Q101_2, Q101_3, Q101_4, Q101_5, wQ102_4_1, wQ101_4_1) h hi hN t ht
noncomputable def sameInstr_p (a : (Nat × Nat × Nat × Nat × List Nat × Int)) (b : (Nat × Nat × Nat × Nat × List Nat × Int)) : Option (Bool) :=
  (if a.1 ≠ b.1 then (some false) else
    (if a.2.1 ≠ b.2.1 then (some false) else
    (if a.2.2.1 ≠ b.2.2.1 then (some false) else
    (if a.2.2.2.1 ≠ b.2.2.2.1 then (some false) else
    (if a.2.2.2.2.2 ≠ b.2.2.2.2.2 then (some false) else
    (if a.2.2.2.2.1.length ≠ b.2.2.2.2.1.length then (some false) else
    (ob (sameInstr_l1  90000 false 0 b.1 b.2.1 b.2.2.1 b.2.2.2.1 b.2.2.2.2.1 b.2.2.2.2.2 a.1 a.2.1 a.2.2.1 a.2.2.2.1 a.2.2.2.2.1 a.2.2.2.2.2) fun o9 =>
    (LO.on o9 (fun s_o9 => (some true)) (fun y16 =>
    (some y16))))))))))
theorem sameInstr_w {call : CallT} {N : Nat} {h : Hp} {wa_4 : AV} {wb_4 : AV} {a : (Nat × Nat × Nat × Nat × List Nat × Int)} {b : (Nat × Nat × Nat × Nat × List Nat × Int)} (fa_1 : a.2.1 < 4294967296) (fa_2 : a.2.2.1 < 4294967296) (fa_3 : a.2.2.2.1 < 18446744073709551616) (fa_5 : SIn (rU .u32) (Low h) h wa_4 a.2.2.2.2.1) (fb_1 : b.2.1 < 4294967296) (fb_2 : b.2.2.1 < 4294967296) (fb_3 : b.2.2.2.1 < 18446744073709551616) (fb_5 : SIn (rU .u32) (Low h) h wb_4 b.2.2.2.2.1)  (hN : 90000 < N) {r : Bool} (hp : sameInstr_p a b = some r) :
    ∃ rv rh, evF1 (progS Try.prog (compDrawn Try.prog)) N call 34 [(AV.agg [(vi a.1), (vw a.2.1), (vw a.2.2.1), (vq a.2.2.2.1), wa_4, (AV.int .i64 a.2.2.2.2.2)]), (AV.agg [(vi b.1), (vw b.2.1), (vw b.2.2.1), (vq b.2.2.2.1), wb_4, (AV.int .i64 b.2.2.2.2.2)])] h = .ok rv rh ∧ (fun (rv : AV) (rh : Hp) => rv = (AV.bool r) ∧ Eng.Sep (Frz (Low h) h :: []) rh) rv rh := by
  have S : Eng.Sep [Frz (Low h) h] h := Sep.start h
  unfold sameInstr_p at hp
  refine fwalk_ok (K := (fun (rv : AV) (rh : Hp) => rv = (AV.bool r) ∧ Eng.Sep (Frz (Low h) h :: []) rh)) (o := (.ell 0 .ptr (mkCells [(vi a.1), (vw a.2.1), (vw a.2.2.1), (vq a.2.2.2.1), wa_4, (AV.int .i64 a.2.2.2.2.2)] 6) (.ell 0 .ptr (mkCells [(vi b.1), (vw b.2.1), (vw b.2.2.1), (vq b.2.2.2.1), wb_4, (AV.int .i64 b.2.2.2.2.2)] 6) (.tell 2 (vi a.1) (.tell 1 (vi b.1) (.fork 1 .fin (.tell 1 (vw a.2.1) (.tell 1 (vw b.2.1) (.fork 2 .fin (.tell 1 (vw a.2.2.1) (.tell 1 (vw b.2.2.1) (.fork 2 .fin (.tell 1 (vq a.2.2.2.1) (.tell 1 (vq b.2.2.2.1) (.fork 2 .fin (.tell 1 (AV.int .i64 a.2.2.2.2.2) (.tell 1 (AV.int .i64 b.2.2.2.2.2) (.fork 2 .fin (.tell 1 wa_4 (.tell 0 (vi a.2.2.2.2.1.length) (.tell 1 wb_4 (.tell 0 (vi b.2.2.2.2.1.length) (.fork 1 .fin (.dis 1 (.exi 0 fun (A4o9 : Bool) => (.exi 0 fun (A5o9 : Nat) => (.exi 0 fun (Q102_0o9 : Nat) => (.exi 0 fun (Q102_1o9 : Nat) => (.exi 0 fun (Q102_2o9 : Nat) => (.exi 0 fun (Q102_3o9 : Nat) => (.exi 0 fun (Q102_4o9 : List Nat) => (.exi 0 fun (Q102_5o9 : Int) => (.exi 0 fun (Q101_0o9 : Nat) => (.exi 0 fun (Q101_1o9 : Nat) => (.exi 0 fun (Q101_2o9 : Nat) => (.exi 0 fun (Q101_3o9 : Nat) => (.exi 0 fun (Q101_4o9 : List Nat) => (.exi 0 fun (Q101_5o9 : Int) => (.exi 0 fun (wQ102_4_1o9 : AV) => (.exi 0 fun (wQ101_4_1o9 : AV) => (.exi 0 fun (t12 : T) => (.exi 0 fun (h13 : Hp) => (.lp 0 (.exit 0 (ovT [(2, (AV.ptr (Hp.next h) 0)), (3, (AV.ptr (Hp.next (hpush h (mkCells [(vi a.1), (vw a.2.1), (vw a.2.2.1), (vq a.2.2.2.1), wa_4, (AV.int .i64 a.2.2.2.2.2)] 6))) 0)), (4, (AV.bool A4o9)), (5, (vi A5o9))] t12) h13) .fin))))))))))))))))))) (.exi 0 fun (y16 : Bool) => (.exi 0 fun (v4o9 : AV) => (.exi 0 fun (t14 : T) => (.exi 0 fun (h15 : Hp) => (.lp 0 (.ret (ovT [(4, v4o9)] t14) h15) .fin))))))))))))))))))))))))))))) (p := (fun (KK : AV → Hp → Prop) => (evL (.box (.const (AV.agg [(vi a.1), (vw a.2.1), (vw a.2.2.1), (vq a.2.2.2.1), wa_4, (AV.int .i64 a.2.2.2.2.2)]))) .lf = .ok .ptr (mkCells [(vi a.1), (vw a.2.1), (vw a.2.2.1), (vq a.2.2.2.1), wa_4, (AV.int .i64 a.2.2.2.2.2)] 6) ∧ (evL (.box (.const (AV.agg [(vi b.1), (vw b.2.1), (vw b.2.2.1), (vq b.2.2.2.1), wb_4, (AV.int .i64 b.2.2.2.2.2)]))) .lf = .ok .ptr (mkCells [(vi b.1), (vw b.2.1), (vw b.2.2.1), (vq b.2.2.2.1), wb_4, (AV.int .i64 b.2.2.2.2.2)] 6) ∧ ((evQ (.loadS (.const (AV.ptr (Hp.next h) 0))) .lf (hpush (hpush h (mkCells [(vi a.1), (vw a.2.1), (vw a.2.2.1), (vq a.2.2.2.1), wa_4, (AV.int .i64 a.2.2.2.2.2)] 6)) (mkCells [(vi b.1), (vw b.2.1), (vw b.2.2.1), (vq b.2.2.2.1), wb_4, (AV.int .i64 b.2.2.2.2.2)] 6)) = .ok (vi a.1) ∧ ((evQ (.loadS (.const (AV.ptr (Hp.next (hpush h (mkCells [(vi a.1), (vw a.2.1), (vw a.2.2.1), (vq a.2.2.2.1), wa_4, (AV.int .i64 a.2.2.2.2.2)] 6))) 0))) .lf (hpush (hpush h (mkCells [(vi a.1), (vw a.2.1), (vw a.2.2.1), (vq a.2.2.2.1), wa_4, (AV.int .i64 a.2.2.2.2.2)] 6)) (mkCells [(vi b.1), (vw b.2.1), (vw b.2.2.1), (vq b.2.2.2.1), wb_4, (AV.int .i64 b.2.2.2.2.2)] 6)) = .ok (vi b.1) ∧ ((notB (eqI (Int.ofNat a.1) (Int.ofNat b.1)) = true → KK (AV.bool false) (hpush (hpush h (mkCells [(vi a.1), (vw a.2.1), (vw a.2.2.1), (vq a.2.2.2.1), wa_4, (AV.int .i64 a.2.2.2.2.2)] 6)) (mkCells [(vi b.1), (vw b.2.1), (vw b.2.2.1), (vq b.2.2.2.1), wb_4, (AV.int .i64 b.2.2.2.2.2)] 6))) ∧ (notB (eqI (Int.ofNat a.1) (Int.ofNat b.1)) = false → ((evQ (.loadS (.const (AV.ptr (Hp.next h) 1))) .lf (hpush (hpush h (mkCells [(vi a.1), (vw a.2.1), (vw a.2.2.1), (vq a.2.2.2.1), wa_4, (AV.int .i64 a.2.2.2.2.2)] 6)) (mkCells [(vi b.1), (vw b.2.1), (vw b.2.2.1), (vq b.2.2.2.1), wb_4, (AV.int .i64 b.2.2.2.2.2)] 6)) = .ok (vw a.2.1) ∧ ((evQ (.loadS (.const (AV.ptr (Hp.next (hpush h (mkCells [(vi a.1), (vw a.2.1), (vw a.2.2.1), (vq a.2.2.2.1), wa_4, (AV.int .i64 a.2.2.2.2.2)] 6))) 1))) .lf (hpush (hpush h (mkCells [(vi a.1), (vw a.2.1), (vw a.2.2.1), (vq a.2.2.2.1), wa_4, (AV.int .i64 a.2.2.2.2.2)] 6)) (mkCells [(vi b.1), (vw b.2.1), (vw b.2.2.1), (vq b.2.2.2.1), wb_4, (AV.int .i64 b.2.2.2.2.2)] 6)) = .ok (vw b.2.1) ∧ ((notB (eqI (Int.ofNat a.2.1) (Int.ofNat b.2.1)) = true → KK (AV.bool false) (hpush (hpush h (mkCells [(vi a.1), (vw a.2.1), (vw a.2.2.1), (vq a.2.2.2.1), wa_4, (AV.int .i64 a.2.2.2.2.2)] 6)) (mkCells [(vi b.1), (vw b.2.1), (vw b.2.2.1), (vq b.2.2.2.1), wb_4, (AV.int .i64 b.2.2.2.2.2)] 6))) ∧ (notB (eqI (Int.ofNat a.2.1) (Int.ofNat b.2.1)) = false → ((evQ (.loadS (.const (AV.ptr (Hp.next h) 2))) .lf (hpush (hpush h (mkCells [(vi a.1), (vw a.2.1), (vw a.2.2.1), (vq a.2.2.2.1), wa_4, (AV.int .i64 a.2.2.2.2.2)] 6)) (mkCells [(vi b.1), (vw b.2.1), (vw b.2.2.1), (vq b.2.2.2.1), wb_4, (AV.int .i64 b.2.2.2.2.2)] 6)) = .ok (vw a.2.2.1) ∧ ((evQ (.loadS (.const (AV.ptr (Hp.next (hpush h (mkCells [(vi a.1), (vw a.2.1), (vw a.2.2.1), (vq a.2.2.2.1), wa_4, (AV.int .i64 a.2.2.2.2.2)] 6))) 2))) .lf (hpush (hpush h (mkCells [(vi a.1), (vw a.2.1), (vw a.2.2.1), (vq a.2.2.2.1), wa_4, (AV.int .i64 a.2.2.2.2.2)] 6)) (mkCells [(vi b.1), (vw b.2.1), (vw b.2.2.1), (vq b.2.2.2.1), wb_4, (AV.int .i64 b.2.2.2.2.2)] 6)) = .ok (vw b.2.2.1) ∧ ((notB (eqI (Int.ofNat a.2.2.1) (Int.ofNat b.2.2.1)) = true → KK (AV.bool false) (hpush (hpush h (mkCells [(vi a.1), (vw a.2.1), (vw a.2.2.1), (vq a.2.2.2.1), wa_4, (AV.int .i64 a.2.2.2.2.2)] 6)) (mkCells [(vi b.1), (vw b.2.1), (vw b.2.2.1), (vq b.2.2.2.1), wb_4, (AV.int .i64 b.2.2.2.2.2)] 6))) ∧ (notB (eqI (Int.ofNat a.2.2.1) (Int.ofNat b.2.2.1)) = false → ((evQ (.loadS (.const (AV.ptr (Hp.next h) 3))) .lf (hpush (hpush h (mkCells [(vi a.1), (vw a.2.1), (vw a.2.2.1), (vq a.2.2.2.1), wa_4, (AV.int .i64 a.2.2.2.2.2)] 6)) (mkCells [(vi b.1), (vw b.2.1), (vw b.2.2.1), (vq b.2.2.2.1), wb_4, (AV.int .i64 b.2.2.2.2.2)] 6)) = .ok (vq a.2.2.2.1) ∧ ((evQ (.loadS (.const (AV.ptr (Hp.next (hpush h (mkCells [(vi a.1), (vw a.2.1), (vw a.2.2.1), (vq a.2.2.2.1), wa_4, (AV.int .i64 a.2.2.2.2.2)] 6))) 3))) .lf (hpush (hpush h (mkCells [(vi a.1), (vw a.2.1), (vw a.2.2.1), (vq a.2.2.2.1), wa_4, (AV.int .i64 a.2.2.2.2.2)] 6)) (mkCells [(vi b.1), (vw b.2.1), (vw b.2.2.1), (vq b.2.2.2.1), wb_4, (AV.int .i64 b.2.2.2.2.2)] 6)) = .ok (vq b.2.2.2.1) ∧ ((notB (eqI (Int.ofNat a.2.2.2.1) (Int.ofNat b.2.2.2.1)) = true → KK (AV.bool false) (hpush (hpush h (mkCells [(vi a.1), (vw a.2.1), (vw a.2.2.1), (vq a.2.2.2.1), wa_4, (AV.int .i64 a.2.2.2.2.2)] 6)) (mkCells [(vi b.1), (vw b.2.1), (vw b.2.2.1), (vq b.2.2.2.1), wb_4, (AV.int .i64 b.2.2.2.2.2)] 6))) ∧ (notB (eqI (Int.ofNat a.2.2.2.1) (Int.ofNat b.2.2.2.1)) = false → ((evQ (.loadS (.const (AV.ptr (Hp.next h) 5))) .lf (hpush (hpush h (mkCells [(vi a.1), (vw a.2.1), (vw a.2.2.1), (vq a.2.2.2.1), wa_4, (AV.int .i64 a.2.2.2.2.2)] 6)) (mkCells [(vi b.1), (vw b.2.1), (vw b.2.2.1), (vq b.2.2.2.1), wb_4, (AV.int .i64 b.2.2.2.2.2)] 6)) = .ok (AV.int .i64 a.2.2.2.2.2) ∧ ((evQ (.loadS (.const (AV.ptr (Hp.next (hpush h (mkCells [(vi a.1), (vw a.2.1), (vw a.2.2.1), (vq a.2.2.2.1), wa_4, (AV.int .i64 a.2.2.2.2.2)] 6))) 5))) .lf (hpush (hpush h (mkCells [(vi a.1), (vw a.2.1), (vw a.2.2.1), (vq a.2.2.2.1), wa_4, (AV.int .i64 a.2.2.2.2.2)] 6)) (mkCells [(vi b.1), (vw b.2.1), (vw b.2.2.1), (vq b.2.2.2.1), wb_4, (AV.int .i64 b.2.2.2.2.2)] 6)) = .ok (AV.int .i64 b.2.2.2.2.2) ∧ ((notB (eqI a.2.2.2.2.2 b.2.2.2.2.2) = true → KK (AV.bool false) (hpush (hpush h (mkCells [(vi a.1), (vw a.2.1), (vw a.2.2.1), (vq a.2.2.2.1), wa_4, (AV.int .i64 a.2.2.2.2.2)] 6)) (mkCells [(vi b.1), (vw b.2.1), (vw b.2.2.1), (vq b.2.2.2.1), wb_4, (AV.int .i64 b.2.2.2.2.2)] 6))) ∧ (notB (eqI a.2.2.2.2.2 b.2.2.2.2.2) = false → ((evQ (.loadS (.const (AV.ptr (Hp.next h) 4))) .lf (hpush (hpush h (mkCells [(vi a.1), (vw a.2.1), (vw a.2.2.1), (vq a.2.2.2.1), wa_4, (AV.int .i64 a.2.2.2.2.2)] 6)) (mkCells [(vi b.1), (vw b.2.1), (vw b.2.2.1), (vq b.2.2.2.1), wb_4, (AV.int .i64 b.2.2.2.2.2)] 6)) = .ok wa_4 ∧ ((evQ (.lenL (.const wa_4)) .lf H0 = .ok (vi a.2.2.2.2.1.length) ∧ ((evQ (.loadS (.const (AV.ptr (Hp.next (hpush h (mkCells [(vi a.1), (vw a.2.1), (vw a.2.2.1), (vq a.2.2.2.1), wa_4, (AV.int .i64 a.2.2.2.2.2)] 6))) 4))) .lf (hpush (hpush h (mkCells [(vi a.1), (vw a.2.1), (vw a.2.2.1), (vq a.2.2.2.1), wa_4, (AV.int .i64 a.2.2.2.2.2)] 6)) (mkCells [(vi b.1), (vw b.2.1), (vw b.2.2.1), (vq b.2.2.2.1), wb_4, (AV.int .i64 b.2.2.2.2.2)] 6)) = .ok wb_4 ∧ ((evQ (.lenL (.const wb_4)) .lf H0 = .ok (vi b.2.2.2.2.1.length) ∧ ((notB (eqI (Int.ofNat a.2.2.2.2.1.length) (Int.ofNat b.2.2.2.2.1.length)) = true → KK (AV.bool false) (hpush (hpush h (mkCells [(vi a.1), (vw a.2.1), (vw a.2.2.1), (vq a.2.2.2.1), wa_4, (AV.int .i64 a.2.2.2.2.2)] 6)) (mkCells [(vi b.1), (vw b.2.1), (vw b.2.2.1), (vq b.2.2.2.1), wb_4, (AV.int .i64 b.2.2.2.2.2)] 6))) ∧ (notB (eqI (Int.ofNat a.2.2.2.2.1.length) (Int.ofNat b.2.2.2.2.1.length)) = false → ((∃ A4o9 : Bool, ∃ A5o9 : Nat, ∃ Q102_0o9 : Nat, ∃ Q102_1o9 : Nat, ∃ Q102_2o9 : Nat, ∃ Q102_3o9 : Nat, ∃ Q102_4o9 : List Nat, ∃ Q102_5o9 : Int, ∃ Q101_0o9 : Nat, ∃ Q101_1o9 : Nat, ∃ Q101_2o9 : Nat, ∃ Q101_3o9 : Nat, ∃ Q101_4o9 : List Nat, ∃ Q101_5o9 : Int, ∃ wQ102_4_1o9 : AV, ∃ wQ101_4_1o9 : AV, ∃ t12 : T, ∃ h13 : Hp, (evC call N (.loop sameInstr_l1C) (ovT [(0, (AV.agg [(vi a.1), (vw a.2.1), (vw a.2.2.1), (vq a.2.2.2.1), wa_4, (AV.int .i64 a.2.2.2.2.2)])), (1, (AV.agg [(vi b.1), (vw b.2.1), (vw b.2.2.1), (vq b.2.2.2.1), wb_4, (AV.int .i64 b.2.2.2.2.2)])), (2, (AV.ptr (Hp.next h) 0)), (3, (AV.ptr (Hp.next (hpush h (mkCells [(vi a.1), (vw a.2.1), (vw a.2.2.1), (vq a.2.2.2.1), wa_4, (AV.int .i64 a.2.2.2.2.2)] 6))) 0)), (4, (AV.bool false)), (5, (vi 0)), (6, (AV.ptr (Hp.next h) 0)), (7, (vi a.1)), (8, (AV.ptr (Hp.next (hpush h (mkCells [(vi a.1), (vw a.2.1), (vw a.2.2.1), (vq a.2.2.2.1), wa_4, (AV.int .i64 a.2.2.2.2.2)] 6))) 0)), (9, (vi b.1)), (10, (AV.bool (notB (eqI (Int.ofNat a.1) (Int.ofNat b.1))))), (11, (AV.bool false)), (12, (AV.ptr (Hp.next h) 1)), (13, (vw a.2.1)), (14, (AV.ptr (Hp.next (hpush h (mkCells [(vi a.1), (vw a.2.1), (vw a.2.2.1), (vq a.2.2.2.1), wa_4, (AV.int .i64 a.2.2.2.2.2)] 6))) 1)), (15, (vw b.2.1)), (16, (AV.bool (notB (eqI (Int.ofNat a.2.1) (Int.ofNat b.2.1))))), (17, (AV.bool (notB (eqI (Int.ofNat a.2.1) (Int.ofNat b.2.1))))), (18, (AV.bool false)), (19, (AV.ptr (Hp.next h) 2)), (20, (vw a.2.2.1)), (21, (AV.ptr (Hp.next (hpush h (mkCells [(vi a.1), (vw a.2.1), (vw a.2.2.1), (vq a.2.2.2.1), wa_4, (AV.int .i64 a.2.2.2.2.2)] 6))) 2)), (22, (vw b.2.2.1)), (23, (AV.bool (notB (eqI (Int.ofNat a.2.2.1) (Int.ofNat b.2.2.1))))), (24, (AV.bool (notB (eqI (Int.ofNat a.2.2.1) (Int.ofNat b.2.2.1))))), (25, (AV.bool false)), (26, (AV.ptr (Hp.next h) 3)), (27, (vq a.2.2.2.1)), (28, (AV.ptr (Hp.next (hpush h (mkCells [(vi a.1), (vw a.2.1), (vw a.2.2.1), (vq a.2.2.2.1), wa_4, (AV.int .i64 a.2.2.2.2.2)] 6))) 3)), (29, (vq b.2.2.2.1)), (30, (AV.bool (notB (eqI (Int.ofNat a.2.2.2.1) (Int.ofNat b.2.2.2.1))))), (31, (AV.bool (notB (eqI (Int.ofNat a.2.2.2.1) (Int.ofNat b.2.2.2.1))))), (32, (AV.bool false)), (33, (AV.ptr (Hp.next h) 5)), (34, (AV.int .i64 a.2.2.2.2.2)), (35, (AV.ptr (Hp.next (hpush h (mkCells [(vi a.1), (vw a.2.1), (vw a.2.2.1), (vq a.2.2.2.1), wa_4, (AV.int .i64 a.2.2.2.2.2)] 6))) 5)), (36, (AV.int .i64 b.2.2.2.2.2)), (37, (AV.bool (notB (eqI a.2.2.2.2.2 b.2.2.2.2.2)))), (38, (AV.bool (notB (eqI a.2.2.2.2.2 b.2.2.2.2.2)))), (39, (AV.bool false)), (40, (AV.ptr (Hp.next h) 4)), (41, wa_4), (42, (vi a.2.2.2.2.1.length)), (43, (AV.ptr (Hp.next (hpush h (mkCells [(vi a.1), (vw a.2.1), (vw a.2.2.1), (vq a.2.2.2.1), wa_4, (AV.int .i64 a.2.2.2.2.2)] 6))) 4)), (44, wb_4), (45, (vi b.2.2.2.2.1.length)), (46, (AV.bool (notB (eqI (Int.ofNat a.2.2.2.2.1.length) (Int.ofNat b.2.2.2.2.1.length))))), (47, (AV.bool false))] .lf) (hpush (hpush h (mkCells [(vi a.1), (vw a.2.1), (vw a.2.2.1), (vq a.2.2.2.1), wa_4, (AV.int .i64 a.2.2.2.2.2)] 6)) (mkCells [(vi b.1), (vw b.2.1), (vw b.2.2.1), (vq b.2.2.2.1), wb_4, (AV.int .i64 b.2.2.2.2.2)] 6)) = (.exit 0 (ovT [(2, (AV.ptr (Hp.next h) 0)), (3, (AV.ptr (Hp.next (hpush h (mkCells [(vi a.1), (vw a.2.1), (vw a.2.2.1), (vq a.2.2.2.1), wa_4, (AV.int .i64 a.2.2.2.2.2)] 6))) 0)), (4, (AV.bool A4o9)), (5, (vi A5o9))] t12) h13) ∧ True ∧ KK (AV.bool true) h13)) ∨ (∃ y16 : Bool, ∃ v4o9 : AV, ∃ t14 : T, ∃ h15 : Hp, (evC call N (.loop sameInstr_l1C) (ovT [(0, (AV.agg [(vi a.1), (vw a.2.1), (vw a.2.2.1), (vq a.2.2.2.1), wa_4, (AV.int .i64 a.2.2.2.2.2)])), (1, (AV.agg [(vi b.1), (vw b.2.1), (vw b.2.2.1), (vq b.2.2.2.1), wb_4, (AV.int .i64 b.2.2.2.2.2)])), (2, (AV.ptr (Hp.next h) 0)), (3, (AV.ptr (Hp.next (hpush h (mkCells [(vi a.1), (vw a.2.1), (vw a.2.2.1), (vq a.2.2.2.1), wa_4, (AV.int .i64 a.2.2.2.2.2)] 6))) 0)), (4, (AV.bool false)), (5, (vi 0)), (6, (AV.ptr (Hp.next h) 0)), (7, (vi a.1)), (8, (AV.ptr (Hp.next (hpush h (mkCells [(vi a.1), (vw a.2.1), (vw a.2.2.1), (vq a.2.2.2.1), wa_4, (AV.int .i64 a.2.2.2.2.2)] 6))) 0)), (9, (vi b.1)), (10, (AV.bool (notB (eqI (Int.ofNat a.1) (Int.ofNat b.1))))), (11, (AV.bool false)), (12, (AV.ptr (Hp.next h) 1)), (13, (vw a.2.1)), (14, (AV.ptr (Hp.next (hpush h (mkCells [(vi a.1), (vw a.2.1), (vw a.2.2.1), (vq a.2.2.2.1), wa_4, (AV.int .i64 a.2.2.2.2.2)] 6))) 1)), (15, (vw b.2.1)), (16, (AV.bool (notB (eqI (Int.ofNat a.2.1) (Int.ofNat b.2.1))))), (17, (AV.bool (notB (eqI (Int.ofNat a.2.1) (Int.ofNat b.2.1))))), (18, (AV.bool false)), (19, (AV.ptr (Hp.next h) 2)), (20, (vw a.2.2.1)), (21, (AV.ptr (Hp.next (hpush h (mkCells [(vi a.1), (vw a.2.1), (vw a.2.2.1), (vq a.2.2.2.1), wa_4, (AV.int .i64 a.2.2.2.2.2)] 6))) 2)), (22, (vw b.2.2.1)), (23, (AV.bool (notB (eqI (Int.ofNat a.2.2.1) (Int.ofNat b.2.2.1))))), (24, (AV.bool (notB (eqI (Int.ofNat a.2.2.1) (Int.ofNat b.2.2.1))))), (25, (AV.bool false)), (26, (AV.ptr (Hp.next h) 3)), (27, (vq a.2.2.2.1)), (28, (AV.ptr (Hp.next (hpush h (mkCells [(vi a.1), (vw a.2.1), (vw a.2.2.1), (vq a.2.2.2.1), wa_4, (AV.int .i64 a.2.2.2.2.2)] 6))) 3)), (29, (vq b.2.2.2.1)), (30, (AV.bool (notB (eqI (Int.ofNat a.2.2.2.1) (Int.ofNat b.2.2.2.1))))), (31, (AV.bool (notB (eqI (Int.ofNat a.2.2.2.1) (Int.ofNat b.2.2.2.1))))), (32, (AV.bool false)), (33, (AV.ptr (Hp.next h) 5)), (34, (AV.int .i64 a.2.2.2.2.2)), (35, (AV.ptr (Hp.next (hpush h (mkCells [(vi a.1), (vw a.2.1), (vw a.2.2.1), (vq a.2.2.2.1), wa_4, (AV.int .i64 a.2.2.2.2.2)] 6))) 5)), (36, (AV.int .i64 b.2.2.2.2.2)), (37, (AV.bool (notB (eqI a.2.2.2.2.2 b.2.2.2.2.2)))), (38, (AV.bool (notB (eqI a.2.2.2.2.2 b.2.2.2.2.2)))), (39, (AV.bool false)), (40, (AV.ptr (Hp.next h) 4)), (41, wa_4), (42, (vi a.2.2.2.2.1.length)), (43, (AV.ptr (Hp.next (hpush h (mkCells [(vi a.1), (vw a.2.1), (vw a.2.2.1), (vq a.2.2.2.1), wa_4, (AV.int .i64 a.2.2.2.2.2)] 6))) 4)), (44, wb_4), (45, (vi b.2.2.2.2.1.length)), (46, (AV.bool (notB (eqI (Int.ofNat a.2.2.2.2.1.length) (Int.ofNat b.2.2.2.2.1.length))))), (47, (AV.bool false))] .lf) (hpush (hpush h (mkCells [(vi a.1), (vw a.2.1), (vw a.2.2.1), (vq a.2.2.2.1), wa_4, (AV.int .i64 a.2.2.2.2.2)] 6)) (mkCells [(vi b.1), (vw b.2.1), (vw b.2.2.1), (vq b.2.2.2.1), wb_4, (AV.int .i64 b.2.2.2.2.2)] 6)) = (.ret (ovT [(4, v4o9)] t14) h15) ∧ True ∧ KK v4o9 h15)))))))))))))))))))))))))))))))))))))))))))))) (fun (rv : AV) (rh : Hp) => rv = (AV.bool r) ∧ Eng.Sep (Frz (Low h) h :: []) rh)) (by kernel_rfl) ?_
  refine ⟨box_told rfl rfl (all_cell rfl (all_cell rfl (all_cell rfl (all_cell rfl (all_cell (SIn.cell fa_5) (all_cell rfl all_cell0)))))), ?_⟩
  have S1 := cel_new S [(vi a.1), (vw a.2.1), (vw a.2.2.1), (vq a.2.2.2.1), wa_4, (AV.int .i64 a.2.2.2.2.2)] rfl
  refine ⟨box_told rfl rfl (all_cell rfl (all_cell rfl (all_cell rfl (all_cell rfl (all_cell (SIn.cell fb_5) (all_cell rfl all_cell0)))))), ?_⟩
  have S2 := cel_new S1 [(vi b.1), (vw b.2.1), (vw b.2.2.1), (vq b.2.2.2.1), wb_4, (AV.int .i64 b.2.2.2.2.2)] rfl
  refine ⟨cel_load S2 (i := 1) rfl rfl, ?_⟩
  refine ⟨cel_load S2 (i := 0) rfl rfl, ?_⟩
  refine ⟨fun c3 => ?_, fun c3 => ?_⟩
  · replace c3 := eqI_f (notB_t c3)
    replace hp := ift hp c3
    have S4 : Sep [Frz (Low h) h] (hpush (hpush h (mkCells [(vi a.1), (vw a.2.1), (vw a.2.2.1), (vq a.2.2.2.1), wa_4, (AV.int .i64 a.2.2.2.2.2)] 6)) (mkCells [(vi b.1), (vw b.2.1), (vw b.2.2.1), (vq b.2.2.2.1), wb_4, (AV.int .i64 b.2.2.2.2.2)] 6)) := S2.sel [2] (by decide) rfl
    obtain rfl := Option.some.inj hp
    exact ⟨rfl, S4⟩
  replace c3 := eqI_t (notB_f c3)
  replace hp := iff0 hp (nneO c3)
  refine ⟨cel_load S2 (i := 1) rfl rfl, ?_⟩
  refine ⟨cel_load S2 (i := 0) rfl rfl, ?_⟩
  refine ⟨fun c4 => ?_, fun c4 => ?_⟩
  · replace c4 := eqI_f (notB_t c4)
    replace hp := ift hp c4
    have S5 : Sep [Frz (Low h) h] (hpush (hpush h (mkCells [(vi a.1), (vw a.2.1), (vw a.2.2.1), (vq a.2.2.2.1), wa_4, (AV.int .i64 a.2.2.2.2.2)] 6)) (mkCells [(vi b.1), (vw b.2.1), (vw b.2.2.1), (vq b.2.2.2.1), wb_4, (AV.int .i64 b.2.2.2.2.2)] 6)) := S2.sel [2] (by decide) rfl
    obtain rfl := Option.some.inj hp
    exact ⟨rfl, S5⟩
  replace c4 := eqI_t (notB_f c4)
  replace hp := iff0 hp (nneO c4)
  refine ⟨cel_load S2 (i := 1) rfl rfl, ?_⟩
  refine ⟨cel_load S2 (i := 0) rfl rfl, ?_⟩
  refine ⟨fun c5 => ?_, fun c5 => ?_⟩
  · replace c5 := eqI_f (notB_t c5)
    replace hp := ift hp c5
    have S6 : Sep [Frz (Low h) h] (hpush (hpush h (mkCells [(vi a.1), (vw a.2.1), (vw a.2.2.1), (vq a.2.2.2.1), wa_4, (AV.int .i64 a.2.2.2.2.2)] 6)) (mkCells [(vi b.1), (vw b.2.1), (vw b.2.2.1), (vq b.2.2.2.1), wb_4, (AV.int .i64 b.2.2.2.2.2)] 6)) := S2.sel [2] (by decide) rfl
    obtain rfl := Option.some.inj hp
    exact ⟨rfl, S6⟩
  replace c5 := eqI_t (notB_f c5)
  replace hp := iff0 hp (nneO c5)
  refine ⟨cel_load S2 (i := 1) rfl rfl, ?_⟩
  refine ⟨cel_load S2 (i := 0) rfl rfl, ?_⟩
  refine ⟨fun c6 => ?_, fun c6 => ?_⟩
  · replace c6 := eqI_f (notB_t c6)
    replace hp := ift hp c6
    have S7 : Sep [Frz (Low h) h] (hpush (hpush h (mkCells [(vi a.1), (vw a.2.1), (vw a.2.2.1), (vq a.2.2.2.1), wa_4, (AV.int .i64 a.2.2.2.2.2)] 6)) (mkCells [(vi b.1), (vw b.2.1), (vw b.2.2.1), (vq b.2.2.2.1), wb_4, (AV.int .i64 b.2.2.2.2.2)] 6)) := S2.sel [2] (by decide) rfl
    obtain rfl := Option.some.inj hp
    exact ⟨rfl, S7⟩
  replace c6 := eqI_t (notB_f c6)
  replace hp := iff0 hp (nneO c6)
  refine ⟨cel_load S2 (i := 1) rfl rfl, ?_⟩
  refine ⟨cel_load S2 (i := 0) rfl rfl, ?_⟩
  refine ⟨fun c7 => ?_, fun c7 => ?_⟩
  · replace c7 : a.2.2.2.2.2 ≠ b.2.2.2.2.2 := eqI_F (notB_t c7)
    replace hp := ift hp c7
    have S8 : Sep [Frz (Low h) h] (hpush (hpush h (mkCells [(vi a.1), (vw a.2.1), (vw a.2.2.1), (vq a.2.2.2.1), wa_4, (AV.int .i64 a.2.2.2.2.2)] 6)) (mkCells [(vi b.1), (vw b.2.1), (vw b.2.2.1), (vq b.2.2.2.1), wb_4, (AV.int .i64 b.2.2.2.2.2)] 6)) := S2.sel [2] (by decide) rfl
    obtain rfl := Option.some.inj hp
    exact ⟨rfl, S8⟩
  replace c7 : a.2.2.2.2.2 = b.2.2.2.2.2 := eqI_T (notB_f c7)
  replace hp := iff0 hp (nneO c7)
  refine ⟨cel_load S2 (i := 1) rfl rfl, ?_⟩
  refine ⟨sin_len fa_5, ?_⟩
  refine ⟨cel_load S2 (i := 0) rfl rfl, ?_⟩
  refine ⟨sin_len fb_5, ?_⟩
  refine ⟨fun c8 => ?_, fun c8 => ?_⟩
  · replace c8 := eqI_f (notB_t c8)
    replace hp := ift hp c8
    have S9 : Sep [Frz (Low h) h] (hpush (hpush h (mkCells [(vi a.1), (vw a.2.1), (vw a.2.2.1), (vq a.2.2.2.1), wa_4, (AV.int .i64 a.2.2.2.2.2)] 6)) (mkCells [(vi b.1), (vw b.2.1), (vw b.2.2.1), (vq b.2.2.2.1), wb_4, (AV.int .i64 b.2.2.2.2.2)] 6)) := S2.sel [2] (by decide) rfl
    obtain rfl := Option.some.inj hp
    exact ⟨rfl, S9⟩
  replace c8 := eqI_t (notB_f c8)
  replace hp := iff0 hp (nneO c8)
  have ⟨o9, hb10, hp⟩ := ob_inv hp
  rcases sameInstr_l1_t   (o := o9) (n := 90000) (A4 := false) (A5 := 0) (Q102_0 := b.1) (Q102_1 := b.2.1) (Q102_2 := b.2.2.1) (Q102_3 := b.2.2.2.1) (Q102_4 := b.2.2.2.2.1) (Q102_5 := b.2.2.2.2.2) (Q101_0 := a.1) (Q101_1 := a.2.1) (Q101_2 := a.2.2.1) (Q101_3 := a.2.2.2.1) (Q101_4 := a.2.2.2.2.1) (Q101_5 := a.2.2.2.2.2) (wQ102_4_1 := wb_4) (wQ101_4_1 := wa_4) ⟨hb10, fb_1, fb_2, fb_3, fb_5, fa_1, fa_2, fa_3, fa_5, S2⟩ hN hN (t := (ovT [(0, (AV.agg [(vi a.1), (vw a.2.1), (vw a.2.2.1), (vq a.2.2.2.1), wa_4, (AV.int .i64 a.2.2.2.2.2)])), (1, (AV.agg [(vi b.1), (vw b.2.1), (vw b.2.2.1), (vq b.2.2.2.1), wb_4, (AV.int .i64 b.2.2.2.2.2)])), (2, (AV.ptr (Hp.next h) 0)), (3, (AV.ptr (Hp.next (hpush h (mkCells [(vi a.1), (vw a.2.1), (vw a.2.2.1), (vq a.2.2.2.1), wa_4, (AV.int .i64 a.2.2.2.2.2)] 6))) 0)), (4, (AV.bool false)), (5, (vi 0)), (6, (AV.ptr (Hp.next h) 0)), (7, (vi a.1)), (8, (AV.ptr (Hp.next (hpush h (mkCells [(vi a.1), (vw a.2.1), (vw a.2.2.1), (vq a.2.2.2.1), wa_4, (AV.int .i64 a.2.2.2.2.2)] 6))) 0)), (9, (vi b.1)), (10, (AV.bool (notB (eqI (Int.ofNat a.1) (Int.ofNat b.1))))), (11, (AV.bool false)), (12, (AV.ptr (Hp.next h) 1)), (13, (vw a.2.1)), (14, (AV.ptr (Hp.next (hpush h (mkCells [(vi a.1), (vw a.2.1), (vw a.2.2.1), (vq a.2.2.2.1), wa_4, (AV.int .i64 a.2.2.2.2.2)] 6))) 1)), (15, (vw b.2.1)), (16, (AV.bool (notB (eqI (Int.ofNat a.2.1) (Int.ofNat b.2.1))))), (17, (AV.bool (notB (eqI (Int.ofNat a.2.1) (Int.ofNat b.2.1))))), (18, (AV.bool false)), (19, (AV.ptr (Hp.next h) 2)), (20, (vw a.2.2.1)), (21, (AV.ptr (Hp.next (hpush h (mkCells [(vi a.1), (vw a.2.1), (vw a.2.2.1), (vq a.2.2.2.1), wa_4, (AV.int .i64 a.2.2.2.2.2)] 6))) 2)), (22, (vw b.2.2.1)), (23, (AV.bool (notB (eqI (Int.ofNat a.2.2.1) (Int.ofNat b.2.2.1))))), (24, (AV.bool (notB (eqI (Int.ofNat a.2.2.1) (Int.ofNat b.2.2.1))))), (25, (AV.bool false)), (26, (AV.ptr (Hp.next h) 3)), (27, (vq a.2.2.2.1)), (28, (AV.ptr (Hp.next (hpush h (mkCells [(vi a.1), (vw a.2.1), (vw a.2.2.1), (vq a.2.2.2.1), wa_4, (AV.int .i64 a.2.2.2.2.2)] 6))) 3)), (29, (vq b.2.2.2.1)), (30, (AV.bool (notB (eqI (Int.ofNat a.2.2.2.1) (Int.ofNat b.2.2.2.1))))), (31, (AV.bool (notB (eqI (Int.ofNat a.2.2.2.1) (Int.ofNat b.2.2.2.1))))), (32, (AV.bool false)), (33, (AV.ptr (Hp.next h) 5)), (34, (AV.int .i64 a.2.2.2.2.2)), (35, (AV.ptr (Hp.next (hpush h (mkCells [(vi a.1), (vw a.2.1), (vw a.2.2.1), (vq a.2.2.2.1), wa_4, (AV.int .i64 a.2.2.2.2.2)] 6))) 5)), (36, (AV.int .i64 b.2.2.2.2.2)), (37, (AV.bool (notB (eqI a.2.2.2.2.2 b.2.2.2.2.2)))), (38, (AV.bool (notB (eqI a.2.2.2.2.2 b.2.2.2.2.2)))), (39, (AV.bool false)), (40, (AV.ptr (Hp.next h) 4)), (41, wa_4), (42, (vi a.2.2.2.2.1.length)), (43, (AV.ptr (Hp.next (hpush h (mkCells [(vi a.1), (vw a.2.1), (vw a.2.2.1), (vq a.2.2.2.1), wa_4, (AV.int .i64 a.2.2.2.2.2)] 6))) 4)), (44, wb_4), (45, (vi b.2.2.2.2.1.length)), (46, (AV.bool (notB (eqI (Int.ofNat a.2.2.2.2.1.length) (Int.ofNat b.2.2.2.2.1.length))))), (47, (AV.bool false))] .lf)) (show slots [2, 3, 4, 5] _ = [some (AV.ptr (Hp.next h) 0), some (AV.ptr (Hp.next (hpush h (mkCells [(vi a.1), (vw a.2.1), (vw a.2.2.1), (vq a.2.2.2.1), wa_4, (AV.int .i64 a.2.2.2.2.2)] 6))) 0), some (AV.bool false), some (vi 0)] by kernel_rfl) with ⟨io9, ⟨_, A4o9, A5o9, Q102_0o9, Q102_1o9, Q102_2o9, Q102_3o9, Q102_4o9, Q102_5o9, Q101_0o9, Q101_1o9, Q101_2o9, Q101_3o9, Q101_4o9, Q101_5o9, wQ102_4_1o9, wQ101_4_1o9⟩, t12, h13, qo9, wo9, zo9⟩ | ⟨t14, h15, qo9, zo9⟩
  · obtain ⟨jo9, zo9⟩ := zo9
    subst jo9
    replace zo9 := zo9 rfl
    obtain ⟨uo9, fQ102_1_1o9, fQ102_2_1o9, fQ102_3_1o9, fQ102_4_2o9, fQ101_1_1o9, fQ101_2_1o9, fQ101_3_1o9, fQ101_4_2o9, So9⟩ := zo9
    replace uo9 := uo9.symm
    subst uo9
    replace hp := LO.on_ex.symm.trans hp
    try dsimp only at hp
    refine Or.inl ⟨A4o9, A5o9, Q102_0o9, Q102_1o9, Q102_2o9, Q102_3o9, Q102_4o9, Q102_5o9, Q101_0o9, Q101_1o9, Q101_2o9, Q101_3o9, Q101_4o9, Q101_5o9, wQ102_4_1o9, wQ101_4_1o9, t12, h13, (qo9.trans (congrArg (fun t => RS.exit 0 t h13) (ovT_eq wo9).symm)), trivial, ?_⟩
    have S17 : Sep [Frz (Low h) h] h13 := So9.sel [2] (by decide) rfl
    obtain rfl := Option.some.inj hp
    exact ⟨rfl, S17⟩
  obtain ⟨y16, v4o9, uo9, go9_4, Ko9⟩ := zo9
  replace uo9 := uo9.symm
  subst uo9
  replace go9_4 : tget (pathOf 4) t14 = some v4o9 := Option.some.inj go9_4
  replace hp := LO.on_rt.symm.trans hp
  try dsimp only at hp
  refine Or.inr ⟨y16, v4o9, t14, h15, (qo9.trans (congrArg (fun t => RS.ret t h15) (ovT_eq (l := [(4, v4o9)]) (by show [tget (pathOf 4) t14] = _; rw [go9_4]; rfl)).symm)), trivial, ?_⟩
  obtain rfl := Option.some.inj hp
  exact Ko9
def C_sameInstr (call : CallT) : Prop := ∀ {h : Hp} {wa_4 : AV} {wb_4 : AV} {a : (Nat × Nat × Nat × Nat × List Nat × Int)} {b : (Nat × Nat × Nat × Nat × List Nat × Int)} (fa_1 : a.2.1 < 4294967296) (fa_2 : a.2.2.1 < 4294967296) (fa_3 : a.2.2.2.1 < 18446744073709551616) (fa_5 : SIn (rU .u32) (Low h) h wa_4 a.2.2.2.2.1) (fb_1 : b.2.1 < 4294967296) (fb_2 : b.2.2.1 < 4294967296) (fb_3 : b.2.2.2.1 < 18446744073709551616) (fb_5 : SIn (rU .u32) (Low h) h wb_4 b.2.2.2.2.1) {r : Bool}, sameInstr_p a b = some r → ∃ rv rh, call 34 [(AV.agg [(vi a.1), (vw a.2.1), (vw a.2.2.1), (vq a.2.2.2.1), wa_4, (AV.int .i64 a.2.2.2.2.2)]), (AV.agg [(vi b.1), (vw b.2.1), (vw b.2.2.1), (vq b.2.2.2.1), wb_4, (AV.int .i64 b.2.2.2.2.2)])] h = .ok rv rh ∧ rv = (AV.bool r) ∧ Eng.Sep (Frz (Low h) h :: []) rh
theorem s_sameInstr (d : Nat) : C_sameInstr (CC (d + 1)) := by
  intro h wa_4 wb_4 a b fa_1 fa_2 fa_3 fa_5 fb_1 fb_2 fb_3 fb_5 r hp
  rw [CC, evF_at (sumT_none rfl)]
  exact sameInstr_w (call := CC (d + 0)) (N := 100000) fa_1 fa_2 fa_3 fa_5 fb_1 fb_2 fb_3 fb_5  (by decide) hp
noncomputable def sameBody_l1 (B0 : List (Nat × Nat × Nat × Nat × List Nat × Int)) (B1 : List (Nat × Nat × Nat × Nat × List Nat × Int)) : Nat → Bool → Nat → Option (LO (Bool × Nat) (Bool))
  | 0, _, _ => none
  | m + 1, A4, A5 =>
    (if A5 < B0.length then (gd (A5 < B1.length) (ob (sameInstr_p ((B0.getD A5 default).1, (B0.getD A5 default).2.1, (B0.getD A5 default).2.2.1, (B0.getD A5 default).2.2.2.1, (B0.getD A5 default).2.2.2.2.1, (B0.getD A5 default).2.2.2.2.2) ((B1.getD A5 default).1, (B1.getD A5 default).2.1, (B1.getD A5 default).2.2.1, (B1.getD A5 default).2.2.2.1, (B1.getD A5 default).2.2.2.2.1, (B1.getD A5 default).2.2.2.2.2)) fun x15 =>
    (if x15 = false then (some (LO.rt false)) else
    (gd (A5 + 1 < 9223372036854775808) (sameBody_l1 B0 B1 m A4 (A5 + 1)))))) else
    (some (LO.ex (A4, A5))))
noncomputable def sameBody_l1C : AC := (.seq (.seq (.region [⟨(some 11), .q (.move (.tmp 5)), none⟩, ⟨(some 12), .q (.move (.tmp 0)), none⟩, ⟨(some 13), .q (.lenL (.tmp 12)), none⟩, ⟨(some 14), .q (.bin .lss (.tmp 11) (.tmp 13)), none⟩]) (.cond (.tmp 14) .skip (.exit 0))) (.seq (.block 1 (.seq (.drawn [⟨[(⟨(some 17), .q (.move (.tmp 0)), none⟩, 0), (⟨(some 18), .q (.move (.tmp 5)), none⟩, 0), (⟨(some 19), .q (.idxAddrSl 6 (.tmp 17) (.tmp 18)), none⟩, 0), (⟨(some 20), .q (.loadA 6 (.tmp 19)), none⟩, 0), (⟨(some 21), .q (.move (.tmp 1)), none⟩, 0), (⟨(some 22), .q (.move (.tmp 5)), none⟩, 0), (⟨(some 23), .q (.idxAddrSl 6 (.tmp 21) (.tmp 22)), none⟩, 0), (⟨(some 24), .q (.loadA 6 (.tmp 23)), none⟩, 0)], (some ⟨(some 25), .e (.call (.const (AV.func (.func 34) [] [])) [(.tmp 20), (.tmp 24)]), none⟩)⟩, ⟨[(⟨(some 26), .q (.un .not (.tmp 25)), none⟩, 1)], none⟩]) (.cond (.tmp 26) (.seq (.region [⟨(some 4), .q (.move (.const (AV.bool false))), none⟩]) .ret) .skip))) (.region [⟨(some 15), .q (.move (.tmp 5)), none⟩, ⟨(some 16), .q (.bin .add (.tmp 15) (.const (vi 1))), none⟩, ⟨(some 5), .q (.move (.tmp 16)), none⟩])))
theorem sameBody_l1_body {call : CallT} {N : Nat} {t : T} {h : Hp} {wB0_1 : AV} {wB1_1 : AV} {G : Nat → Prop} {h0 : Hp} {B0 : List (Nat × Nat × Nat × Nat × List Nat × Int)} {B1 : List (Nat × Nat × Nat × Nat × List Nat × Int)} (fB0_2 : SIn (rP (rN0 .i64) (rP (rU .u32) (rP (rU .u32) (rP (rU .u64) (rP (rL (rU .u32)) (rZ .i64)))))) G h0 wB0_1 B0) (fB1_2 : SIn (rP (rN0 .i64) (rP (rU .u32) (rP (rU .u32) (rP (rU .u64) (rP (rL (rU .u32)) (rZ .i64)))))) G h0 wB1_1 B1) (h_sameInstr : C_sameInstr call) {o : LO (Bool × Nat) (Bool)} {n : Nat} {A4 : Bool} {A5 : Nat} (hN : 90000 < N) (hi : (fun (z : Nat × Bool × Nat) (h' : Hp) => sameBody_l1 B0 B1 z.1 z.2.1 z.2.2 = some o ∧ Eng.Sep [Frz G h0] h') (n, A4, A5) h)
    : ∃ s, evC call N sameBody_l1C (ovT [(0, wB0_1), (1, wB1_1), (4, (AV.bool A4)), (5, (vi A5))] t) h = s ∧ obsS [0, 1, 4, 5] (fun ls h' => ∃ y, ls = ((fun (z : Nat × Bool × Nat) => [(0, wB0_1), (1, wB1_1), (4, (AV.bool z.2.1)), (5, (vi z.2.2))]) y).map (fun p => some p.2) ∧ (fun (z : Nat × Bool × Nat) (h' : Hp) => sameBody_l1 B0 B1 z.1 z.2.1 z.2.2 = some o ∧ Eng.Sep [Frz G h0] h') y h' ∧ (fun (z : Nat × Bool × Nat) => z.1) y < (fun (z : Nat × Bool × Nat) => z.1) (n, A4, A5)) (fun i ls h' => ∃ y, ls = ((fun (z : Nat × Bool × Nat) => [(0, wB0_1), (1, wB1_1), (4, (AV.bool z.2.1)), (5, (vi z.2.2))]) y).map (fun p => some p.2) ∧ (fun (i : Nat) (z : Nat × Bool × Nat) (h' : Hp) => (i = 0) ∧ (i = 0 → o = LO.ex (z.2.1, z.2.2) ∧ Eng.Sep [Frz G h0] h')) i y h') (fun ls h' => (fun (ls : List (Option AV)) (h' : Hp) => ∃ (rt : Bool) (v4 : AV), o = LO.rt rt ∧ ls[2]? = some (some v4) ∧ (v4 = (AV.bool rt) ∧ Eng.Sep (Frz G h0 :: []) h')) ls h') s := by
  have hi : sameBody_l1 B0 B1 n A4 A5 = some o ∧ Eng.Sep [Frz G h0] h := hi
  obtain ⟨hp, S⟩ := hi
  obtain ⟨m, hm⟩ : ∃ m, n = m + 1 := by
    cases n with
    | zero => first | cases hp | (unfold sameBody_l1 at hp; cases hp) | (simp [sameBody_l1] at hp)
    | succ m => exact ⟨m, rfl⟩
  rw [hm] at hp
  unfold sameBody_l1 at hp
  refine walk_ok (o := (.tell 2 (vi B0.length) (.fork 0 (.exi 2 fun (w5 : AV) => (.tell 0 (elemP wB0_1 A5 6) (.tell 0 (AV.agg [(vi ((B0.getD A5 default).1)), (vw ((B0.getD A5 default).2.1)), (vw ((B0.getD A5 default).2.2.1)), (vq ((B0.getD A5 default).2.2.2.1)), w5, (AV.int .i64 ((B0.getD A5 default).2.2.2.2.2))]) (.exi 2 fun (w12 : AV) => (.tell 0 (elemP wB1_1 A5 6) (.tell 0 (AV.agg [(vi ((B1.getD A5 default).1)), (vw ((B1.getD A5 default).2.1)), (vw ((B1.getD A5 default).2.2.1)), (vq ((B1.getD A5 default).2.2.2.1)), w12, (AV.int .i64 ((B1.getD A5 default).2.2.2.2.2))]) (.again 0 (.exi 0 fun (x15 : Bool) => (.exi 0 fun (h20 : Hp) => (.eff 0 (AV.bool x15) h20 (.fork 0 (.again 0 .fin) (.again 0 (.tell 1 (vi (A5 + 1)) .fin))))))))))))) .fin))) (p := (fun (KN : List (Option AV) → Hp → Prop) (KE : Nat → List (Option AV) → Hp → Prop) (KR : List (Option AV) → Hp → Prop) => ((evQ (.lenL (.const wB0_1)) .lf H0 = .ok (vi B0.length) ∧ ((ltI (Int.ofNat A5) (Int.ofNat B0.length) = true → (∃ w5 : AV, (evQ (.idxAddrSl 6 (.const wB0_1) (.const (vi A5))) .lf H0 = .ok (elemP wB0_1 A5 6) ∧ ((evQ (.loadA 6 (.const (elemP wB0_1 A5 6))) .lf h = .ok (AV.agg [(vi ((B0.getD A5 default).1)), (vw ((B0.getD A5 default).2.1)), (vw ((B0.getD A5 default).2.2.1)), (vq ((B0.getD A5 default).2.2.2.1)), w5, (AV.int .i64 ((B0.getD A5 default).2.2.2.2.2))]) ∧ (∃ w12 : AV, (evQ (.idxAddrSl 6 (.const wB1_1) (.const (vi A5))) .lf H0 = .ok (elemP wB1_1 A5 6) ∧ ((evQ (.loadA 6 (.const (elemP wB1_1 A5 6))) .lf h = .ok (AV.agg [(vi ((B1.getD A5 default).1)), (vw ((B1.getD A5 default).2.1)), (vw ((B1.getD A5 default).2.2.1)), (vq ((B1.getD A5 default).2.2.2.1)), w12, (AV.int .i64 ((B1.getD A5 default).2.2.2.2.2))]) ∧ ((again (.loadA 6 (.const (elemP wB1_1 A5 6))) .lf (AV.agg [(vi ((B1.getD A5 default).1)), (vw ((B1.getD A5 default).2.1)), (vw ((B1.getD A5 default).2.2.1)), (vq ((B1.getD A5 default).2.2.2.1)), w12, (AV.int .i64 ((B1.getD A5 default).2.2.2.2.2))]) h = true ∧ again (.idxAddrSl 6 (.const wB1_1) (.const (vi A5))) .lf (elemP wB1_1 A5 6) h = true ∧ again (.move (.const (vi A5))) .lf (vi A5) h = true ∧ again (.move (.const wB1_1)) .lf wB1_1 h = true ∧ again (.loadA 6 (.const (elemP wB0_1 A5 6))) .lf (AV.agg [(vi ((B0.getD A5 default).1)), (vw ((B0.getD A5 default).2.1)), (vw ((B0.getD A5 default).2.2.1)), (vq ((B0.getD A5 default).2.2.2.1)), w5, (AV.int .i64 ((B0.getD A5 default).2.2.2.2.2))]) h = true ∧ again (.idxAddrSl 6 (.const wB0_1) (.const (vi A5))) .lf (elemP wB0_1 A5 6) h = true ∧ again (.move (.const (vi A5))) .lf (vi A5) h = true ∧ again (.move (.const wB0_1)) .lf wB0_1 h = true ∧ True) ∧ (∃ x15 : Bool, ∃ h20 : Hp, (call 34 [(AV.agg [(vi ((B0.getD A5 default).1)), (vw ((B0.getD A5 default).2.1)), (vw ((B0.getD A5 default).2.2.1)), (vq ((B0.getD A5 default).2.2.2.1)), w5, (AV.int .i64 ((B0.getD A5 default).2.2.2.2.2))]), (AV.agg [(vi ((B1.getD A5 default).1)), (vw ((B1.getD A5 default).2.1)), (vw ((B1.getD A5 default).2.2.1)), (vq ((B1.getD A5 default).2.2.2.1)), w12, (AV.int .i64 ((B1.getD A5 default).2.2.2.2.2))])] h = .ok (AV.bool x15) h20 ∧ ((notB x15 = true → ((again (.un .not (.const (AV.bool x15))) .lf (AV.bool true) h20 = true ∧ True) ∧ KR [some wB0_1, some wB1_1, some (AV.bool false), some (vi A5)] h20)) ∧ (notB x15 = false → ((again (.un .not (.const (AV.bool x15))) .lf (AV.bool false) h20 = true ∧ True) ∧ ((evQ (.bin .add (.const (vi A5)) (.const (vi 1))) .lf H0 = .ok (vi (A5 + 1)) ∧ KN [some wB0_1, some wB1_1, some (AV.bool A4), some (vi (A5 + 1))] h20))))))))))))))))) ∧ (ltI (Int.ofNat A5) (Int.ofNat B0.length) = false → KE 0 [some wB0_1, some wB1_1, some (AV.bool A4), some (vi A5)] h))))) (fun ls h' => ∃ y, ls = ((fun (z : Nat × Bool × Nat) => [(0, wB0_1), (1, wB1_1), (4, (AV.bool z.2.1)), (5, (vi z.2.2))]) y).map (fun p => some p.2) ∧ (fun (z : Nat × Bool × Nat) (h' : Hp) => sameBody_l1 B0 B1 z.1 z.2.1 z.2.2 = some o ∧ Eng.Sep [Frz G h0] h') y h' ∧ (fun (z : Nat × Bool × Nat) => z.1) y < (fun (z : Nat × Bool × Nat) => z.1) (n, A4, A5)) (fun i ls h' => ∃ y, ls = ((fun (z : Nat × Bool × Nat) => [(0, wB0_1), (1, wB1_1), (4, (AV.bool z.2.1)), (5, (vi z.2.2))]) y).map (fun p => some p.2) ∧ (fun (i : Nat) (z : Nat × Bool × Nat) (h' : Hp) => (i = 0) ∧ (i = 0 → o = LO.ex (z.2.1, z.2.2) ∧ Eng.Sep [Frz G h0] h')) i y h') (fun ls h' => (fun (ls : List (Option AV)) (h' : Hp) => ∃ (rt : Bool) (v4 : AV), o = LO.rt rt ∧ ls[2]? = some (some v4) ∧ (v4 = (AV.bool rt) ∧ Eng.Sep (Frz G h0 :: []) h')) ls h')) (by kernel_rfl) ?_
  refine ⟨sin_len fB0_2, ?_⟩
  refine ⟨fun c1 => ?_, fun c1 => ?_⟩
  · replace c1 := ltI_t c1
    replace hp := ift hp c1
    obtain ⟨csR7, hcR7, R7⟩ := sin_row fB0_2 c1
    obtain ⟨_, _, rfl, rfl, ⟨_, _, rfl, ⟨rfl, f2⟩, ⟨_, _, rfl, ⟨rfl, f3⟩, ⟨_, _, rfl, ⟨rfl, f4⟩, ⟨_, _, rfl, ⟨w5, rfl, f6⟩, rfl⟩⟩⟩⟩⟩ := hcR7
    refine ⟨w5, sin_idx fB0_2 c1, ?_⟩
    refine ⟨row_loadA S (i := 0) rfl R7 (by simp), ?_⟩
    have ⟨g8, hp⟩ := gd_inv hp
    obtain ⟨csR14, hcR14, R14⟩ := sin_row fB1_2 g8
    obtain ⟨_, _, rfl, rfl, ⟨_, _, rfl, ⟨rfl, f9⟩, ⟨_, _, rfl, ⟨rfl, f10⟩, ⟨_, _, rfl, ⟨rfl, f11⟩, ⟨_, _, rfl, ⟨w12, rfl, f13⟩, rfl⟩⟩⟩⟩⟩ := hcR14
    refine ⟨w12, sin_idx fB1_2 g8, ?_⟩
    refine ⟨row_loadA S (i := 0) rfl R14 (by simp), ?_⟩
    refine ⟨⟨again_of (row_loadA S (i := 0) rfl R14 (by simp)) (avEq_agg1 (avEq_int _ _) (avEq_agg1 (avEq_int _ _) (avEq_agg1 (avEq_int _ _) (avEq_agg1 (avEq_int _ _) (avEq_agg1 (SIn.same f13) (avEq_agg1 (avEq_int _ _) rfl)))))), again_of (sin_idx fB1_2 g8) (elemP_same _ _ _), again_of (rfl) (avEq_int _ _), again_of (rfl) (SIn.same fB1_2), again_of (row_loadA S (i := 0) rfl R7 (by simp)) (avEq_agg1 (avEq_int _ _) (avEq_agg1 (avEq_int _ _) (avEq_agg1 (avEq_int _ _) (avEq_agg1 (avEq_int _ _) (avEq_agg1 (SIn.same f6) (avEq_agg1 (avEq_int _ _) rfl)))))), again_of (sin_idx fB0_2 c1) (elemP_same _ _ _), again_of (rfl) (avEq_int _ _), again_of (rfl) (SIn.same fB0_2), trivial⟩, ?_⟩
    have ⟨x15, hb16, hp⟩ := ob_inv hp
    obtain ⟨v19, h20, q21, e22, S23⟩ := h_sameInstr f2 f3 f4 (SIn.up (Sep.low S (i := 0) rfl) f6) f9 f10 f11 (SIn.up (Sep.low S (i := 0) rfl) f13) hb16
    replace e22 := e22.symm
    subst e22
    have S25 := Sep.call S (news := []) S23
    refine ⟨x15, h20, q21, ?_⟩
    refine ⟨fun c26 => ?_, fun c26 => ?_⟩
    · have rc26 := c26
      replace c26 := notB_t c26
      replace hp := ift hp c26
      refine ⟨⟨again_of (congrArg (fun b => OV.ok (AV.bool b)) rc26) (avEq_bool _), trivial⟩, ?_⟩
      refine ⟨_, (AV.bool false), (Option.some.inj hp).symm, rfl, ?_⟩
      exact ⟨rfl, S25⟩
    have rc26 := c26
    replace c26 := notB_f c26
    replace hp := iff0 hp (nbT c26)
    refine ⟨⟨again_of (congrArg (fun b => OV.ok (AV.bool b)) rc26) (avEq_bool _), trivial⟩, ?_⟩
    have ⟨g27, hp⟩ := gd_inv hp
    refine ⟨q_add g27, ?_⟩
    refine ⟨(m, A4, A5 + 1), rfl, ⟨hp, S25⟩, by show m < n; omega⟩
  replace c1 := ltI_f c1
  replace hp := iff0 hp (nltO c1)
  refine ⟨(m, A4, A5), rfl, rfl, fun _ => ⟨(Option.some.inj hp).symm, S⟩⟩
theorem sameBody_l1_t {call : CallT} {N : Nat} {wB0_1 : AV} {wB1_1 : AV} {G : Nat → Prop} {h0 : Hp} {B0 : List (Nat × Nat × Nat × Nat × List Nat × Int)} {B1 : List (Nat × Nat × Nat × Nat × List Nat × Int)} (fB0_2 : SIn (rP (rN0 .i64) (rP (rU .u32) (rP (rU .u32) (rP (rU .u64) (rP (rL (rU .u32)) (rZ .i64)))))) G h0 wB0_1 B0) (fB1_2 : SIn (rP (rN0 .i64) (rP (rU .u32) (rP (rU .u32) (rP (rU .u64) (rP (rL (rU .u32)) (rZ .i64)))))) G h0 wB1_1 B1) (h_sameInstr : C_sameInstr call) {o : LO (Bool × Nat) (Bool)} {n : Nat} {A4 : Bool} {A5 : Nat} {h : Hp} (hi : (fun (z : Nat × Bool × Nat) (h' : Hp) => sameBody_l1 B0 B1 z.1 z.2.1 z.2.2 = some o ∧ Eng.Sep [Frz G h0] h') (n, A4, A5) h) (hN : n < N) (hN' : 90000 < N) {t : T} (ht : Has ((fun (z : Nat × Bool × Nat) => [(0, wB0_1), (1, wB1_1), (4, (AV.bool z.2.1)), (5, (vi z.2.2))]) (n, A4, A5)) t) :
    (∃ i y t' h', evC call N (.loop sameBody_l1C) t h = .exit i t' h' ∧ Has ((fun (z : Nat × Bool × Nat) => [(0, wB0_1), (1, wB1_1), (4, (AV.bool z.2.1)), (5, (vi z.2.2))]) y) t' ∧ (fun (i : Nat) (z : Nat × Bool × Nat) (h' : Hp) => (i = 0) ∧ (i = 0 → o = LO.ex (z.2.1, z.2.2) ∧ Eng.Sep [Frz G h0] h')) i y h') ∨ (∃ t' h', evC call N (.loop sameBody_l1C) t h = .ret t' h' ∧ (fun (ls : List (Option AV)) (h' : Hp) => ∃ (rt : Bool) (v4 : AV), o = LO.rt rt ∧ ls[2]? = some (some v4) ∧ (v4 = (AV.bool rt) ∧ Eng.Sep (Frz G h0 :: []) h')) (slots [0, 1, 4, 5] t') h') :=
  loop_st (fun (z : Nat × Bool × Nat) => [(0, wB0_1), (1, wB1_1), (4, (AV.bool z.2.1)), (5, (vi z.2.2))]) [0, 1, 4, 5] (fun _ => rfl) (fun (z : Nat × Bool × Nat) (h' : Hp) => sameBody_l1 B0 B1 z.1 z.2.1 z.2.2 = some o ∧ Eng.Sep [Frz G h0] h') (fun (z : Nat × Bool × Nat) => z.1) (fun (i : Nat) (z : Nat × Bool × Nat) (h' : Hp) => (i = 0) ∧ (i = 0 → o = LO.ex (z.2.1, z.2.2) ∧ Eng.Sep [Frz G h0] h')) (fun (ls : List (Option AV)) (h' : Hp) => ∃ (rt : Bool) (v4 : AV), o = LO.rt rt ∧ ls[2]? = some (some v4) ∧ (v4 = (AV.bool rt) ∧ Eng.Sep (Frz G h0 :: []) h')) (fun ⟨n, A4, A5⟩ t h hi => sameBody_l1_body fB0_2 fB1_2 h_sameInstr hN' hi) (n, A4, A5) h hi hN t ht
noncomputable def sameBody_p (a : List (Nat × Nat × Nat × Nat × List Nat × Int)) (b : List (Nat × Nat × Nat × Nat × List Nat × Int)) : Option (Bool) :=
  (if a.length ≠ b.length then (some false) else
    (ob (sameBody_l1 a b 90000 false 0) fun o2 =>
    (LO.on o2 (fun s_o2 => (some true)) (fun y9 =>
    (some y9)))))
theorem sameBody_w {call : CallT} {N : Nat} {h : Hp} {wa_1 : AV} {wb_1 : AV} {a : List (Nat × Nat × Nat × Nat × List Nat × Int)} {b : List (Nat × Nat × Nat × Nat × List Nat × Int)} (fa_2 : SIn (rP (rN0 .i64) (rP (rU .u32) (rP (rU .u32) (rP (rU .u64) (rP (rL (rU .u32)) (rZ .i64)))))) (Low h) h wa_1 a) (fb_2 : SIn (rP (rN0 .i64) (rP (rU .u32) (rP (rU .u32) (rP (rU .u64) (rP (rL (rU .u32)) (rZ .i64)))))) (Low h) h wb_1 b) (h_sameInstr : C_sameInstr call) (hN : 90000 < N) {r : Bool} (hp : sameBody_p a b = some r) :
    ∃ rv rh, evF1 (progS Try.prog (compDrawn Try.prog)) N call 15 [wa_1, wb_1] h = .ok rv rh ∧ (fun (rv : AV) (rh : Hp) => rv = (AV.bool r) ∧ Eng.Sep (Frz (Low h) h :: []) rh) rv rh := by
  have S : Eng.Sep [Frz (Low h) h] h := Sep.start h
  unfold sameBody_p at hp
  refine fwalk_ok (K := (fun (rv : AV) (rh : Hp) => rv = (AV.bool r) ∧ Eng.Sep (Frz (Low h) h :: []) rh)) (o := (.tell 2 (vi a.length) (.tell 1 (vi b.length) (.fork 0 .fin (.dis 1 (.exi 0 fun (A4o2 : Bool) => (.exi 0 fun (A5o2 : Nat) => (.exi 0 fun (t5 : T) => (.exi 0 fun (h6 : Hp) => (.lp 0 (.exit 0 (ovT [(0, wa_1), (1, wb_1), (4, (AV.bool A4o2)), (5, (vi A5o2))] t5) h6) .fin))))) (.exi 0 fun (y9 : Bool) => (.exi 0 fun (v4o2 : AV) => (.exi 0 fun (t7 : T) => (.exi 0 fun (h8 : Hp) => (.lp 0 (.ret (ovT [(4, v4o2)] t7) h8) .fin)))))))))) (p := (fun (KK : AV → Hp → Prop) => ((evQ (.lenL (.const wa_1)) .lf H0 = .ok (vi a.length) ∧ ((evQ (.lenL (.const wb_1)) .lf H0 = .ok (vi b.length) ∧ ((notB (eqI (Int.ofNat a.length) (Int.ofNat b.length)) = true → KK (AV.bool false) h) ∧ (notB (eqI (Int.ofNat a.length) (Int.ofNat b.length)) = false → ((∃ A4o2 : Bool, ∃ A5o2 : Nat, ∃ t5 : T, ∃ h6 : Hp, (evC call N (.loop sameBody_l1C) (ovT [(0, wa_1), (1, wb_1), (4, (AV.bool false)), (5, (vi 0)), (6, wa_1), (7, (vi a.length)), (8, wb_1), (9, (vi b.length)), (10, (AV.bool false))] .lf) h = (.exit 0 (ovT [(0, wa_1), (1, wb_1), (4, (AV.bool A4o2)), (5, (vi A5o2))] t5) h6) ∧ True ∧ KK (AV.bool true) h6)) ∨ (∃ y9 : Bool, ∃ v4o2 : AV, ∃ t7 : T, ∃ h8 : Hp, (evC call N (.loop sameBody_l1C) (ovT [(0, wa_1), (1, wb_1), (4, (AV.bool false)), (5, (vi 0)), (6, wa_1), (7, (vi a.length)), (8, wb_1), (9, (vi b.length)), (10, (AV.bool false))] .lf) h = (.ret (ovT [(4, v4o2)] t7) h8) ∧ True ∧ KK v4o2 h8)))))))))) (fun (rv : AV) (rh : Hp) => rv = (AV.bool r) ∧ Eng.Sep (Frz (Low h) h :: []) rh)) (by kernel_rfl) ?_
  refine ⟨sin_len fa_2, ?_⟩
  refine ⟨sin_len fb_2, ?_⟩
  refine ⟨fun c1 => ?_, fun c1 => ?_⟩
  · replace c1 := eqI_f (notB_t c1)
    replace hp := ift hp c1
    obtain rfl := Option.some.inj hp
    exact ⟨rfl, S⟩
  replace c1 := eqI_t (notB_f c1)
  replace hp := iff0 hp (nneO c1)
  have ⟨o2, hb3, hp⟩ := ob_inv hp
  rcases sameBody_l1_t fa_2 fb_2 h_sameInstr (o := o2) (B0 := a) (B1 := b) (n := 90000) (A4 := false) (A5 := 0) ⟨hb3, S⟩ hN hN (t := (ovT [(0, wa_1), (1, wb_1), (4, (AV.bool false)), (5, (vi 0)), (6, wa_1), (7, (vi a.length)), (8, wb_1), (9, (vi b.length)), (10, (AV.bool false))] .lf)) (show slots [0, 1, 4, 5] _ = [some wa_1, some wb_1, some (AV.bool false), some (vi 0)] by kernel_rfl) with ⟨io2, ⟨_, A4o2, A5o2⟩, t5, h6, qo2, wo2, zo2⟩ | ⟨t7, h8, qo2, zo2⟩
  · obtain ⟨jo2, zo2⟩ := zo2
    subst jo2
    replace zo2 := zo2 rfl
    obtain ⟨uo2, So2⟩ := zo2
    replace uo2 := uo2.symm
    subst uo2
    replace hp := LO.on_ex.symm.trans hp
    try dsimp only at hp
    refine Or.inl ⟨A4o2, A5o2, t5, h6, (qo2.trans (congrArg (fun t => RS.exit 0 t h6) (ovT_eq wo2).symm)), trivial, ?_⟩
    obtain rfl := Option.some.inj hp
    exact ⟨rfl, So2⟩
  obtain ⟨y9, v4o2, uo2, go2_4, Ko2⟩ := zo2
  replace uo2 := uo2.symm
  subst uo2
  replace go2_4 : tget (pathOf 4) t7 = some v4o2 := Option.some.inj go2_4
  replace hp := LO.on_rt.symm.trans hp
  try dsimp only at hp
  refine Or.inr ⟨y9, v4o2, t7, h8, (qo2.trans (congrArg (fun t => RS.ret t h8) (ovT_eq (l := [(4, v4o2)]) (by show [tget (pathOf 4) t7] = _; rw [go2_4]; rfl)).symm)), trivial, ?_⟩
  obtain rfl := Option.some.inj hp
  exact Ko2
def C_sameBody (call : CallT) : Prop := ∀ {h : Hp} {wa_1 : AV} {wb_1 : AV} {a : List (Nat × Nat × Nat × Nat × List Nat × Int)} {b : List (Nat × Nat × Nat × Nat × List Nat × Int)} (fa_2 : SIn (rP (rN0 .i64) (rP (rU .u32) (rP (rU .u32) (rP (rU .u64) (rP (rL (rU .u32)) (rZ .i64)))))) (Low h) h wa_1 a) (fb_2 : SIn (rP (rN0 .i64) (rP (rU .u32) (rP (rU .u32) (rP (rU .u64) (rP (rL (rU .u32)) (rZ .i64)))))) (Low h) h wb_1 b) {r : Bool}, sameBody_p a b = some r → ∃ rv rh, call 15 [wa_1, wb_1] h = .ok rv rh ∧ rv = (AV.bool r) ∧ Eng.Sep (Frz (Low h) h :: []) rh
theorem s_sameBody (d : Nat) : C_sameBody (CC (d + 2)) := by
  intro h wa_1 wb_1 a b fa_2 fb_2 r hp
  rw [CC, evF_at (sumT_none rfl)]
  exact sameBody_w (call := CC (d + 1)) (N := 100000) fa_2 fb_2 (s_sameInstr (d + 0)) (by decide) hp
end Go.Proofs.Ytpelnanckmjoaaa
end
section
set_option linter.unusedVariables false
namespace Go.Proofs.Ytpelnanckmjoaaa
set_option linter.unusedVariables false
set_option linter.unusedSimpArgs false
open Go Eng
noncomputable def lawtakes_p (b : List Nat) : Option (Bool) :=
  (if 400 < b.length then (some true) else
    (gd (b.length ≤ 1099511627776) (ob (take_p b) fun x11 =>
    (ob (rBody_p b) fun x25 =>
    (if x11.2.2 = x25.2.2 then (if x11.2.1 = x25.2.1 then (ob (sameBody_p x11.1 x25.1) fun x47 =>
    (if x47 = true then (some true) else
    (some false))) else
    (some false)) else
    (some false))))))
theorem lawtakes_w {call : CallT} {N : Nat} {h : Hp} {wb_1 : AV} {b : List Nat} (fb_2 : BIn (Low h) h wb_1 b) (h_begun : TrueS call 11) (h_twin : TwinS call 12) (h_take : C_take call) (h_rBody : C_rBody call) (h_sameBody : C_sameBody call) (h_kept : KeptS call 16) {r : Bool} (hp : lawtakes_p b = some r) :
    ∃ rv rh, evF1 (progS Try.prog (compDrawn Try.prog)) N call 3 [wb_1] h = .ok rv rh ∧ (fun (rv : AV) (rh : Hp) => rv = (AV.bool r)) rv rh := by
  have S : Eng.Sep [Frz (Low h) h] h := Sep.start h
  unfold lawtakes_p at hp
  refine fwalk_ok (K := (fun (rv : AV) (rh : Hp) => rv = (AV.bool r))) (o := (.eff 1 (AV.bool true) h (.tell 2 (vi b.length) (.fork 0 .fin (.exi 1 fun (w3 : AV) => (.exi 0 fun (h4 : Hp) => (.eff 0 w3 h4 (.exi 2 fun (x11 : List (Nat × Nat × Nat × Nat × List Nat × Int) × Nat × Nat) => (.exi 0 fun (w15 : AV) => (.exi 0 fun (h19 : Hp) => (.eff 0 (AV.tuple [w15, (vi x11.2.1), (vi x11.2.2)]) h19 (.exi 8 fun (x25 : List (Nat × Nat × Nat × Nat × List Nat × Int) × Nat × Nat) => (.exi 0 fun (w29 : AV) => (.exi 0 fun (h33 : Hp) => (.eff 0 (AV.tuple [w29, (vi x25.2.1), (vi x25.2.2)]) h33 (.fork 10 (.fork 4 (.exi 2 fun (x47 : Bool) => (.exi 0 fun (h52 : Hp) => (.eff 0 (AV.bool x47) h52 (.fork 1 (.eff 2 (AV.bool true) h52 .fin) .fin)))) .fin) .fin)))))))))))))))) (p := (fun (KK : AV → Hp → Prop) => (call 11 [] h = .ok (AV.bool true) h ∧ ((evQ (.lenL (.const wb_1)) .lf H0 = .ok (vi b.length) ∧ ((ltI (Int.ofNat 400) (Int.ofNat b.length) = true → KK (AV.bool true) h) ∧ (ltI (Int.ofNat 400) (Int.ofNat b.length) = false → (∃ w3 : AV, ∃ h4 : Hp, (call 12 [wb_1] h = .ok w3 h4 ∧ (∃ x11 : List (Nat × Nat × Nat × Nat × List Nat × Int) × Nat × Nat, ∃ w15 : AV, ∃ h19 : Hp, (call 13 [w3] h4 = .ok (AV.tuple [w15, (vi x11.2.1), (vi x11.2.2)]) h19 ∧ (∃ x25 : List (Nat × Nat × Nat × Nat × List Nat × Int) × Nat × Nat, ∃ w29 : AV, ∃ h33 : Hp, (call 14 [wb_1] h19 = .ok (AV.tuple [w29, (vi x25.2.1), (vi x25.2.2)]) h33 ∧ ((eqI (Int.ofNat x11.2.2) (Int.ofNat x25.2.2) = true → ((eqI (Int.ofNat x11.2.1) (Int.ofNat x25.2.1) = true → (∃ x47 : Bool, ∃ h52 : Hp, (call 15 [w15, w29] h33 = .ok (AV.bool x47) h52 ∧ ((x47 = true → (call 16 [w3, wb_1] h52 = .ok (AV.bool true) h52 ∧ KK (AV.bool true) h52)) ∧ (x47 = false → KK (AV.bool false) h52))))) ∧ (eqI (Int.ofNat x11.2.1) (Int.ofNat x25.2.1) = false → KK (AV.bool false) h33))) ∧ (eqI (Int.ofNat x11.2.2) (Int.ofNat x25.2.2) = false → KK (AV.bool false) h33)))))))))))))) (fun (rv : AV) (rh : Hp) => rv = (AV.bool r))) (by kernel_rfl) ?_
  refine ⟨h_begun _, ?_⟩
  refine ⟨q_len (BIn.now S (i := 0) rfl fb_2), ?_⟩
  refine ⟨fun c1 => ?_, fun c1 => ?_⟩
  · replace c1 := ltI_t c1
    replace hp := ift hp c1
    obtain rfl := Option.some.inj hp
    exact rfl
  replace c1 := ltI_f c1
  replace hp := iff0 hp (nltO c1)
  have ⟨g2, hp⟩ := gd_inv hp
  obtain ⟨w3, h4, q5, tw6, o7, n8⟩ := h_twin (B := h.next) (l := b) (Nat.le_refl _) (BIn.now S (i := 0) rfl fb_2) g2
  have u9 : Up (Low h) h (Low h4) h4 := fun k hk => ⟨Nat.lt_of_lt_of_le hk n8, o7.get k hk⟩
  have u9x : Up (Low h) h (Low h4) h4 := Up.trans (Sep.low S (i := 0) rfl) u9
  have S10 : Eng.Sep [Frz (Low h4) h4] h4 := Sep.start h4
  refine ⟨w3, h4, q5, ?_⟩
  have ⟨x11, hb12, hp⟩ := ob_inv hp
  obtain ⟨v18, h19, q20, w15, L17, G13, k14, e21, f16, S22⟩ := h_take (BIn.up (Sep.low S10 (i := 0) rfl) (BIn.of tw6.bytes)) hb12
  replace e21 := e21.symm
  subst e21
  have S24 := Sep.call S10 (news := [OwnO 6 w15 x11.1.length L17, Frz G13 k14]) S22
  refine ⟨x11, w15, h19, q20, ?_⟩
  have ⟨x25, hb26, hp⟩ := ob_inv hp
  obtain ⟨v32, h33, q34, w29, L31, G27, k28, e35, f30, S36⟩ := h_rBody (BIn.up (Sep.low S24 (i := 2) rfl) (BIn.up u9x fb_2)) hb26
  replace e35 := e35.symm
  subst e35
  have S38 := Sep.call S24 (news := [OwnO 6 w29 x25.1.length L31, Frz G27 k28]) S36
  refine ⟨x25, w29, h33, q34, ?_⟩
  refine ⟨fun c39 => ?_, fun c39 => ?_⟩
  · replace c39 := eqI_t c39
    replace hp := ift hp c39
    refine ⟨fun c40 => ?_, fun c40 => ?_⟩
    · replace c40 := eqI_t c40
      replace hp := ift hp c40
      have S41 : Sep [OwnO 6 w15 x11.1.length L17, Frz G13 k14, OwnO 6 w29 x25.1.length L31, Frz G27 k28, Frz (Low h4) h4] h33 := S38.sel [2, 3, 0, 1, 4] (by decide) rfl
      obtain ⟨G42, pG42, uG42, sG42⟩ := own_freezeR (a := (rP (rN0 .i64) (rP (rU .u32) (rP (rU .u32) (rP (rU .u64) (rP (rL (rU .u32)) (rZ .i64))))))) S41 f16 rfl
      have S44 : Sep [OwnO 6 w29 x25.1.length L31, Frz G27 k28, Frz G42 h33, Frz (Low h4) h4] h33 := sG42.sel [1, 2, 0, 3] (by decide) rfl
      obtain ⟨G45, pG45, uG45, sG45⟩ := own_freezeR (a := (rP (rN0 .i64) (rP (rU .u32) (rP (rU .u32) (rP (rU .u64) (rP (rL (rU .u32)) (rZ .i64))))))) S44 f30 rfl
      have ⟨x47, hb48, hp⟩ := ob_inv hp
      obtain ⟨v51, h52, q53, e54, S55⟩ := h_sameBody (SIn.up (Sep.low sG42 (i := 0) rfl) pG42) (SIn.up (Sep.low sG45 (i := 0) rfl) pG45) hb48
      replace e54 := e54.symm
      subst e54
      have S57 := Sep.call sG45 (news := []) S55
      refine ⟨x47, h52, q53, ?_⟩
      refine ⟨fun c58 => ?_, fun c58 => ?_⟩
      · replace hp := ift hp c58
        refine ⟨h_kept (TwinAt.now S57 (i := 2) rfl tw6) (BIn.now S57 (i := 2) rfl (BIn.up u9x fb_2)) g2, ?_⟩
        obtain rfl := Option.some.inj hp
        exact rfl
      replace hp := iff0 hp (nbF c58)
      obtain rfl := Option.some.inj hp
      exact rfl
    replace c40 := eqI_f c40
    replace hp := iff0 hp (c40)
    obtain rfl := Option.some.inj hp
    exact rfl
  replace c39 := eqI_f c39
  replace hp := iff0 hp (c39)
  obtain rfl := Option.some.inj hp
  exact rfl
noncomputable def lawnest_l1 (B5 : Nat) (B6 : Nat) (B8 : List Nat) : Nat → List Nat → Nat → Option (List Nat × Nat)
  | 0, _, _ => none
  | m + 1, A7, A9 =>
    (if A9 < B5 then (gd (A7.length + 2 ≤ 70368744177664) (gd (A9 + 1 < 9223372036854775808) (lawnest_l1 B5 B6 B8 m (A7 ++ [2, 64]) (A9 + 1)))) else
    (some ((A7, A9))))
noncomputable def lawnest_l1C : AC := (.seq (.seq (.region [⟨(some 26), .q (.move (.tmp 9)), none⟩, ⟨(some 27), .q (.move (.tmp 5)), none⟩, ⟨(some 28), .q (.bin .lss (.tmp 26) (.tmp 27)), none⟩]) (.cond (.tmp 28) .skip (.exit 0))) (.seq (.block 1 (.region [⟨(some 31), .q (.move (.tmp 7)), none⟩, ⟨(some 32), .l (.buildSlice 1 2 [(vb8 0)] [(0, 1, (.const (vb8 2))), (1, 1, (.const (vb8 64)))]), none⟩, ⟨(some 33), .e (.append 1 1 (.tmp 31) (.tmp 32)), none⟩, ⟨(some 7), .q (.move (.tmp 33)), none⟩])) (.region [⟨(some 29), .q (.move (.tmp 9)), none⟩, ⟨(some 30), .q (.bin .add (.tmp 29) (.const (vi 1))), none⟩, ⟨(some 9), .q (.move (.tmp 30)), none⟩])))
noncomputable def lawnest_l2 (B5 : Nat) (B6 : Nat) (B8 : List Nat) : Nat → List Nat → Nat → Option (List Nat × Nat)
  | 0, _, _ => none
  | m + 1, A7, A10 =>
    (if A10 ≤ B5 then (gd (A7.length + 1 ≤ 70368744177664) (gd (A10 + 1 < 9223372036854775808) (lawnest_l2 B5 B6 B8 m (A7 ++ [11]) (A10 + 1)))) else
    (some ((A7, A10))))
noncomputable def lawnest_l2C : AC := (.seq (.seq (.region [⟨(some 34), .q (.move (.tmp 10)), none⟩, ⟨(some 35), .q (.move (.tmp 5)), none⟩, ⟨(some 36), .q (.bin .leq (.tmp 34) (.tmp 35)), none⟩]) (.cond (.tmp 36) .skip (.exit 2))) (.seq (.block 3 (.region [⟨(some 39), .q (.move (.tmp 7)), none⟩, ⟨(some 40), .l (.buildSlice 1 1 [(vb8 0)] [(0, 1, (.const (vb8 11)))]), none⟩, ⟨(some 41), .e (.append 1 1 (.tmp 39) (.tmp 40)), none⟩, ⟨(some 7), .q (.move (.tmp 41)), none⟩])) (.region [⟨(some 37), .q (.move (.tmp 10)), none⟩, ⟨(some 38), .q (.bin .add (.tmp 37) (.const (vi 1))), none⟩, ⟨(some 10), .q (.move (.tmp 38)), none⟩])))
noncomputable def lawnest_l3 (B5 : Nat) (B6 : Nat) (B7 : List Nat) : Nat → List Nat → Nat → Option (List Nat × Nat)
  | 0, _, _ => none
  | m + 1, A8, A11 =>
    (if A11 < B6 then (gd (A8.length + 1 ≤ 70368744177664) (gd (A11 + 1 < 9223372036854775808) (lawnest_l3 B5 B6 B7 m (A8 ++ [1]) (A11 + 1)))) else
    (some ((A8, A11))))
noncomputable def lawnest_l3C : AC := (.seq (.seq (.region [⟨(some 42), .q (.move (.tmp 11)), none⟩, ⟨(some 43), .q (.move (.tmp 6)), none⟩, ⟨(some 44), .q (.bin .lss (.tmp 42) (.tmp 43)), none⟩]) (.cond (.tmp 44) .skip (.exit 4))) (.seq (.block 5 (.region [⟨(some 47), .q (.move (.tmp 8)), none⟩, ⟨(some 48), .l (.buildSlice 1 1 [(vb8 0)] [(0, 1, (.const (vb8 1)))]), none⟩, ⟨(some 49), .e (.append 1 1 (.tmp 47) (.tmp 48)), none⟩, ⟨(some 8), .q (.move (.tmp 49)), none⟩])) (.region [⟨(some 45), .q (.move (.tmp 11)), none⟩, ⟨(some 46), .q (.bin .add (.tmp 45) (.const (vi 1))), none⟩, ⟨(some 11), .q (.move (.tmp 46)), none⟩])))
noncomputable def lawnest_p (n : Nat) (long : Nat) : Option (Bool) :=
  (ob (lawnest_l1 (n % 50) (long % 700) [] 90000 [] 0) fun o8 =>
    (ob (lawnest_l2 (n % 50) (long % 700) [] 90000 o8.1 0) fun o16 =>
    (ob (lawnest_l3 (n % 50) (long % 700) o16.1 90000 [] 0) fun o24 =>
    (gd (o24.1.length + 1 ≤ 70368744177664) (ob (take_p o16.1) fun x38 =>
    (ob (take_p (o24.1 ++ [11])) fun x52 =>
    (if 32 < (n % 50) then (if x38.2.2 ≠ 4 then (some false) else
    (if 600 ≤ (long % 700) then (if x52.2.2 = 4 then (some true) else
    (some false)) else
    (if x52.2.2 = 0 then (gd ((long % 700) + 1 < 9223372036854775808) (if x52.1.length = (long % 700) + 1 then (some true) else
    (some false))) else
    (some false)))) else
    (if x38.2.2 ≠ 0 then (some false) else
    (gd (2 * (n % 50) < 9223372036854775808) (gd ((2 * (n % 50)) + 1 < 9223372036854775808) (if x38.1.length ≠ (2 * (n % 50)) + 1 then (some false) else
    (if 600 ≤ (long % 700) then (if x52.2.2 = 4 then (some true) else
    (some false)) else
    (if x52.2.2 = 0 then (gd ((long % 700) + 1 < 9223372036854775808) (if x52.1.length = (long % 700) + 1 then (some true) else
    (some false))) else
    (some false))))))))))))))
end Go.Proofs.Ytpelnanckmjoaaa
end
section
set_option linter.unusedVariables false
set_option linter.unusedSimpArgs false
namespace Go.Proofs.Ytpelnanckmjoaaa
open Go Eng
abbrev St := List Nat × Nat
def Sm (T : Nat) (s : St) : Prop := s.1.length ≤ T ∧ T ≤ 2000 ∧ ∀ x ∈ s.1, x < 256
theorem Sm.drop {T : Nat} {l : List Nat} {e : Nat} (h : Sm T (l, e)) (n e' : Nat) : Sm T (l.drop n, e') := ⟨by have := h.1; dsimp only at *; rw [List.length_drop]; omega, h.2.1, fun x hx => h.2.2 x (List.mem_of_mem_drop hx)⟩
theorem Sm.le {T : Nat} {s : St} (h : Sm T s) : s.1.length ≤ 2000 := Nat.le_trans h.1 h.2.1
def failS (e : Nat) (s : St) : St := if s.2 = 0 then (s.1, e) else s
def byteS (s : St) : Nat × St := if s.2 = 0 then (if s.1.length = 0 then (0, s.1, 3) else (s.1.getD 0 0, s.1.drop 1, 0)) else (0, s)
def u32S (s : St) : Nat × St := if s.2 = 0 then ((readG 32 false s.1 0 0 0).1 % 4294967296, s.1.drop (readG 32 false s.1 0 0 0).2.1, (readG 32 false s.1 0 0 0).2.2) else (0, s)
def s32S (s : St) : Nat × St := if s.2 = 0 then ((readG 32 true s.1 0 0 0).1 % 4294967296, s.1.drop (readG 32 true s.1 0 0 0).2.1, (readG 32 true s.1 0 0 0).2.2) else (0, s)
def s64S (s : St) : Nat × St := if s.2 = 0 then ((readG 64 true s.1 0 0 0).1, s.1.drop (readG 64 true s.1 0 0 0).2.1, (readG 64 true s.1 0 0 0).2.2) else (0, s)
def zeroS (s : St) : St := if (byteS s).1 ≠ 0 then failS 2 (byteS s).2 else (byteS s).2
noncomputable def tvF (x : Nat) : Bool × Nat := (tvalue_p x).getD (false, 0)
noncomputable def valueS (s : St) : Nat × St := ((byteS s).1, if (byteS s).2.2 = 0 then failS (tvF (byteS s).1).2 (byteS s).2 else (byteS s).2)
theorem tv_eq (x : Nat) : tvalue_p x = some (tvF x) ∧ ((tvF x).1 = true ↔ (tvF x).2 = 0) := by
  unfold tvF tvalue_p
  repeat' split
  all_goals exact ⟨rfl, by decide⟩
theorem rtv_eq (x : Nat) : rvalue0_p x = some (tvF x) := by rw [← (tv_eq x).1]; rfl
theorem tref_eq (x : Nat) : ∃ b, tref_p x = some b ∧ rref_p x = some b := by
  unfold tref_p rref_p
  repeat' split
  all_goals exact ⟨_, rfl, rfl⟩
noncomputable def refF (x : Nat) : Bool := (tref_p x).getD false
theorem tr_eq (x : Nat) : tref_p x = some (refF x) := by
  obtain ⟨b, h, _⟩ := tref_eq x
  unfold refF; rw [h]; rfl
theorem rr_eq (x : Nat) : rref_p x = some (refF x) := by
  obtain ⟨b, h, h2⟩ := tref_eq x
  unfold refF; rw [h, h2]; rfl
theorem failS_sm {T : Nat} {s : St} (h : Sm T s) (e : Nat) : Sm T (failS e s) := by unfold failS; split <;> exact h
theorem byteS_sm {T : Nat} {s : St} (h : Sm T s) : Sm T (byteS s).2 ∧ (byteS s).1 < 256 := by
  unfold byteS
  split
  · split
    · exact ⟨h, (show 0 < 256 by decide)⟩
    · exact ⟨h.drop 1 0, getD_lt h.2.2 0⟩
  · exact ⟨h, (show 0 < 256 by decide)⟩
theorem u32S_sm {T : Nat} {s : St} (h : Sm T s) : Sm T (u32S s).2 := by unfold u32S; split <;> first | exact h.drop _ _ | exact h
theorem s32S_sm {T : Nat} {s : St} (h : Sm T s) : Sm T (s32S s).2 := by unfold s32S; split <;> first | exact h.drop _ _ | exact h
theorem s64S_sm {T : Nat} {s : St} (h : Sm T s) : Sm T (s64S s).2 := by unfold s64S; split <;> first | exact h.drop _ _ | exact h
theorem zeroS_sm {T : Nat} {s : St} (h : Sm T s) : Sm T (zeroS s) := by unfold zeroS; split <;> first | exact failS_sm (byteS_sm h).1 _ | exact (byteS_sm h).1
theorem valueS_sm {T : Nat} {s : St} (h : Sm T s) : Sm T (valueS s).2 := by
  unfold valueS
  dsimp only
  split <;> first | exact failS_sm (byteS_sm h).1 _ | exact (byteS_sm h).1
theorem rfail_eq (l : List Nat) (e f : Nat) : rfail_p l e f = some ((failS f (l, e)).1, (failS f (l, e)).2) := by
  unfold rfail_p failS; split <;> rfl
theorem rbyte_eq (l : List Nat) (e : Nat) : rbyte_p l e = some ((byteS (l, e)).2.1, (byteS (l, e)).2.2, (byteS (l, e)).1) := by
  unfold rbyte_p byteS
  by_cases h : e = 0
  · subst h
    rw [if_pos rfl, if_pos rfl]
    by_cases h2 : l.length = 0
    · rw [if_pos h2, if_pos h2]
    · rw [if_neg h2, if_neg h2, gd_t (by omega), gd_t (by omega)]
  · rw [if_neg h, if_neg h]
theorem ru32_eq {T : Nat} {l : List Nat} {e : Nat} (h : Sm T (l, e)) : ru32_p l e = some ((u32S (l, e)).2.1, (u32S (l, e)).2.2, (u32S (l, e)).1) := by
  have h1 := (readG_len (size := 32) (sg := false) l 0 0 0).1
  have h0 := h.le
  dsimp only at h0
  unfold ru32_p rnum32_p u32S
  by_cases he : e = 0
  · subst he
    rw [if_neg (by decide), gd_t (by omega), ob_some, gd_t (by omega), ob_some, if_pos rfl]
  · rw [if_pos he, if_neg he]; rfl
theorem and32 (n : Nat) : n &&& 4294967295 = n % 4294967296 := Nat.and_two_pow_sub_one_eq_mod n 32
theorem rs32_eq {T : Nat} {l : List Nat} {e : Nat} (h : Sm T (l, e)) : rs32_p l e = some ((s32S (l, e)).2.1, (s32S (l, e)).2.2, (s32S (l, e)).1) := by
  have h1 := (readG_len (size := 32) (sg := true) l 0 0 0).1
  have h0 := h.le
  dsimp only at h0
  unfold rs32_p rnum32s_p s32S
  by_cases he : e = 0
  · subst he
    rw [if_neg (by decide), gd_t (by omega), ob_some, gd_t (by omega), ob_some, if_pos rfl, and32]
  · rw [if_pos he, if_neg he]; simp [ob_some]
theorem rs64_eq {T : Nat} {l : List Nat} {e : Nat} (h : Sm T (l, e)) : rs64_p l e = some ((s64S (l, e)).2.1, (s64S (l, e)).2.2, (s64S (l, e)).1) := by
  have h1 := (readG_len (size := 64) (sg := true) l 0 0 0).1
  have h0 := h.le
  dsimp only at h0
  unfold rs64_p rnum64s_p s64S
  by_cases he : e = 0
  · subst he
    rw [if_neg (by decide), gd_t (by omega), ob_some, gd_t (by omega), ob_some, if_pos rfl]
  · rw [if_pos he, if_neg he]; rfl
theorem rzero_eq (l : List Nat) (e : Nat) : rzero_p l e = some ((zeroS (l, e)).1, (zeroS (l, e)).2) := by
  unfold rzero_p zeroS
  rw [rbyte_eq, ob_some]
  dsimp only
  split
  · rw [rfail_eq, ob_some]
  · rfl
theorem rvalue_eq (l : List Nat) (e : Nat) : rvalue_p l e = some ((valueS (l, e)).2.1, (valueS (l, e)).2.2, (valueS (l, e)).1) := by
  unfold rvalue_p valueS
  rw [rbyte_eq, ob_some]
  dsimp only
  split
  · rw [rtv_eq, ob_some, rfail_eq, ob_some]
  · rfl
noncomputable def blockS (s : St) : Int × St :=
  if s.2 = 0 then if s.1.length = 0 then (0, s.1, 3)
    else if s.1.getD 0 0 = 64 ∨ (tvF (s.1.getD 0 0)).1 = true then (wrapA .i64 (Int.sub (Int.ofNat (s.1.getD 0 0)) (Int.ofNat 128)), s.1.drop 1, 0)
    else if (tvF (s.1.getD 0 0)).2 = 5 then (0, s.1, 5)
    else (sInt .i64 (readG 33 true s.1 0 0 0).1, if sInt .i64 (readG 33 true s.1 0 0 0).1 < 0 then failS 2 (s.1.drop (readG 33 true s.1 0 0 0).2.1, (readG 33 true s.1 0 0 0).2.2) else (s.1.drop (readG 33 true s.1 0 0 0).2.1, (readG 33 true s.1 0 0 0).2.2))
  else (0, s)
theorem blockS_sm {T : Nat} {s : St} (h : Sm T s) : Sm T (blockS s).2 := by
  unfold blockS
  split
  · split
    · exact h
    · split
      · exact h.drop 1 0
      · split
        · exact h
        · dsimp only
          split
          · exact failS_sm (h.drop _ _) _
          · exact h.drop _ _
  · exact h
theorem rblock_eq {T : Nat} {l : List Nat} {e : Nat} (h : Sm T (l, e)) : rblock_p l e = some ((blockS (l, e)).2.1, (blockS (l, e)).2.2, (blockS (l, e)).1) := by
  have h1 := (readG_len (size := 33) (sg := true) l 0 0 0).1
  have h0 := h.le
  dsimp only at h0
  unfold rblock_p blockS
  by_cases he : e = 0
  · subst he
    rw [if_pos rfl, if_pos rfl]
    by_cases h2 : l.length = 0
    · rw [if_pos h2, if_pos h2, rfail_eq, ob_some]; rfl
    · rw [if_neg h2, if_neg h2, gd_t (by omega), rtv_eq, ob_some]
      dsimp only
      have hby : rbyte_p l 0 = some (l.drop 1, 0, l.getD 0 0) := by rw [rbyte_eq]; unfold byteS; rw [if_pos rfl, if_neg h2]
      rw [hby]
      by_cases h3 : l.getD 0 0 = 64
      · rw [if_pos h3, if_pos (.inl h3), ob_some]
      · rw [if_neg h3]
        by_cases h4 : (tvF (l.getD 0 0)).1 = true
        · rw [if_pos h4, if_pos (.inr h4), ob_some]
        · rw [if_neg h4, if_neg (show ¬ (l.getD 0 0 = 64 ∨ (tvF (l.getD 0 0)).1 = true) from fun h => h.elim h3 h4)]
          by_cases h5 : (tvF (l.getD 0 0)).2 = 5
          · rw [if_pos h5, if_pos h5, h5, rfail_eq, ob_some]; rfl
          · rw [if_neg h5, if_neg h5]
            unfold rs33_p rnum33s_p
            rw [if_neg (by decide), gd_t (by omega), ob_some, gd_t (by omega), ob_some, ob_some]
            dsimp only
            show (if sInt .i64 (readG 33 true l 0 0 0).1 < 0 then _ else _) = _
            by_cases h6 : sInt .i64 (readG 33 true l 0 0 0).1 < 0
            · rw [if_pos h6, if_pos h6, rfail_eq, ob_some]; rfl
            · rw [if_neg h6, if_neg h6]; rfl
  · rw [if_neg he, if_neg he]
abbrev PT (T : Nat) (s : St) : List Nat × Nat × Nat := (s.1, T - s.1.length, s.2)
theorem skip_eq {l : List Nat} {n e k T : Nat} (hT : n + l.length = T) (hT2 : T < 100000) (hk : k ≤ l.length) : skip_p l n e k = some (l.drop k, T - (l.drop k).length, e) := by
  unfold skip_p
  rw [gd_t hk, gd_t (by omega), List.length_drop]
  congr 3; omega
theorem fails_eq (l : List Nat) (n e f : Nat) (b : Bool) : fails_p l n e b f = some (l, n, if b = true then (failS f (l, e)).2 else e) := by
  unfold fails_p failS
  cases b
  · rfl
  · by_cases h : e = 0
    · simp [h]
    · simp [h]
theorem failS_1 (f : Nat) (s : St) : (failS f s).1 = s.1 := by unfold failS; split <;> rfl
theorem byte_eq {l : List Nat} {n e T : Nat} (hT : n + l.length = T) (hT2 : T < 100000) : byte_p l n e = some ((byteS (l, e)).2.1, T - (byteS (l, e)).2.1.length, (byteS (l, e)).2.2, (byteS (l, e)).1) := by
  unfold byte_p byteS
  rw [fails_eq, ob_some]
  dsimp only
  by_cases h : e = 0
  · subst h
    by_cases h2 : l.length = 0
    · rw [if_pos rfl, if_pos h2]
      have : eqI (Int.ofNat l.length) (Int.ofNat 0) = true := by rw [h2]; rfl
      rw [if_pos this]
      show (if (failS 3 (l, 0)).2 = 0 then _ else _) = _
      rw [show (failS 3 (l, 0)).2 = 3 from rfl, if_neg (show ¬ (3 : Nat) = 0 by decide)]
      congr 3
      dsimp only; omega
    · rw [if_pos rfl, if_neg h2]
      have : ¬ eqI (Int.ofNat l.length) (Int.ofNat 0) = true := by rw [eqI_nat]; simp; intro h; exact h2 (by rw [h]; rfl)
      rw [if_neg this, if_pos rfl, gd_t (by omega), skip_eq hT hT2 (by omega), ob_some]
  · rw [if_neg h]
    have : (if eqI (Int.ofNat l.length) (Int.ofNat 0) = true then (failS 3 (l, e)).2 else e) = e := by
      split
      · unfold failS; rw [if_neg h]
      · rfl
    rw [this, if_neg h]
    congr 3
    dsimp only; omega
theorem cnum_eq {l : List Nat} {n e T : Nat} (h : Sm T (l, e)) (hT : n + l.length = T) (hT2 : T < 100000) : cnum_p l n e = some ((u32S (l, e)).2.1, T - (u32S (l, e)).2.1.length, (u32S (l, e)).2.2, (u32S (l, e)).1) := by
  have h1 := (readG_len (size := 32) (sg := false) l 0 0 0).1
  have h0 := h.le
  dsimp only at h0
  unfold cnum_p u32S
  by_cases he : e = 0
  · subst he
    rw [if_neg (by decide), gd_t (by omega), ob_some, skip_eq hT hT2 (by omega), ob_some, if_pos rfl]
  · rw [if_pos he, if_neg he]
    congr 3
    dsimp only; omega
theorem nought_eq {l : List Nat} {n e T : Nat} (hT : n + l.length = T) (hT2 : T < 100000) : nought_p l n e = some (PT T (zeroS (l, e))) := by
  unfold nought_p zeroS
  rw [byte_eq hT hT2, ob_some]
  dsimp only
  rw [fails_eq, ob_some]
  dsimp only
  by_cases h : (byteS (l, e)).1 = 0
  · have : ¬ notB (eqI (Int.ofNat (byteS (l, e)).1) (Int.ofNat 0)) = true := by rw [h]; decide
    rw [if_neg this, if_neg (by simpa using h)]
  · have : notB (eqI (Int.ofNat (byteS (l, e)).1) (Int.ofNat 0)) = true := by rw [eqI_nat]; simp [notB, h]
    rw [if_pos this, if_pos h]; unfold PT; rw [failS_1]
theorem value_eq {l : List Nat} {n e T : Nat} (hT : n + l.length = T) (hT2 : T < 100000) : value_p l n e = some ((valueS (l, e)).2.1, T - (valueS (l, e)).2.1.length, (valueS (l, e)).2.2, (valueS (l, e)).1) := by
  unfold value_p valueS
  rw [byte_eq hT hT2, ob_some]
  dsimp only
  by_cases h : (byteS (l, e)).2.2 = 0
  · rw [if_pos h, if_pos h, (tv_eq _).1, ob_some, failS_1]
    have : (failS (tvF (byteS (l, e)).1).2 (byteS (l, e)).2).2 = (tvF (byteS (l, e)).1).2 := by unfold failS; rw [if_pos h]
    rw [this]
  · rw [if_neg h, if_neg h]
theorem block_eq {l : List Nat} {n e T : Nat} (h : Sm T (l, e)) (hT : n + l.length = T) (hT2 : T < 100000) : blockType_p l n e = some ((blockS (l, e)).2.1, T - (blockS (l, e)).2.1.length, (blockS (l, e)).2.2, (blockS (l, e)).1) := by
  have h1 := (readG_len (size := 33) (sg := true) l 0 0 0).1
  have h0 := h.le
  dsimp only at h0
  unfold blockType_p blockS
  rw [fails_eq, ob_some]
  by_cases he : e = 0
  · subst he
    by_cases h2 : l.length = 0
    · have : eqI (Int.ofNat l.length) (Int.ofNat 0) = true := by rw [h2]; rfl
      rw [if_pos rfl, if_pos h2, if_pos this]
      have e2 : (failS 3 (l, 0)).2 = 3 := rfl
      dsimp only
      rw [e2, if_pos (by decide)]
      congr 3
      omega
    · have : ¬ eqI (Int.ofNat l.length) (Int.ofNat 0) = true := by rw [eqI_nat]; simp; intro h; exact h2 (by rw [h]; rfl)
      rw [if_pos rfl, if_neg h2, if_neg this]
      dsimp only
      rw [if_neg (show ¬ (0 : Nat) ≠ 0 by decide), gd_t (show 0 < l.length by omega)]
      rw [(tv_eq _).1, ob_some]
      by_cases h3 : l.getD 0 0 = 64
      · rw [if_pos h3, if_pos (.inl h3), skip_eq hT hT2 (by omega), ob_some]
      · rw [if_neg h3]
        by_cases h4 : (tvF (l.getD 0 0)).1 = true
        · rw [if_pos ((tv_eq _).2.1 h4), if_pos (.inr h4), skip_eq hT hT2 (by omega), ob_some]
        · have h4' : ¬ (tvF (l.getD 0 0)).2 = 0 := fun h => h4 ((tv_eq _).2.2 h)
          rw [if_neg h4', if_neg (show ¬ (l.getD 0 0 = 64 ∨ (tvF (l.getD 0 0)).1 = true) from fun h => h.elim h3 h4), fails_eq, ob_some]
          dsimp only
          by_cases h5 : (tvF (l.getD 0 0)).2 = 5
          · have : eqI (Int.ofNat (tvF (l.getD 0 0)).2) (Int.ofNat 5) = true := by rw [h5]; rfl
            have e2 : (failS (tvF (l.getD 0 0)).2 (l, 0)).2 = 5 := by rw [h5]; rfl
            rw [if_pos h5, if_pos this, e2, if_pos (by decide)]
            congr 3
            dsimp only; omega
          · have : ¬ eqI (Int.ofNat (tvF (l.getD 0 0)).2) (Int.ofNat 5) = true := by rw [eqI_nat]; simpa using h5
            rw [if_neg h5, if_neg this, if_neg (by decide), gd_t (by omega), ob_some, skip_eq hT hT2 (by omega), ob_some, fails_eq, ob_some]
            dsimp only
            by_cases h6 : sInt .i64 (readG 33 true l 0 0 0).1 < 0
            · have : ltI (sInt .i64 (readG 33 true l 0 0 0).1) (Int.ofNat 0) = true := by rw [ltI_eq]; simpa using h6
              rw [if_pos this, if_pos h6, failS_1]
            · have : ¬ ltI (sInt .i64 (readG 33 true l 0 0 0).1) (Int.ofNat 0) = true := by rw [ltI_eq]; simpa using h6
              rw [if_neg this, if_neg h6]
  · have : (if eqI (Int.ofNat l.length) (Int.ofNat 0) = true then (failS 3 (l, e)).2 else e) = e := by
      split
      · unfold failS; rw [if_neg he]
      · rfl
    rw [this, if_pos he, if_neg he]
    congr 3
    dsimp only; omega
end Go.Proofs.Ytpelnanckmjoaaa
end
section
set_option linter.unusedVariables false
set_option linter.unusedSimpArgs false
namespace Go.Proofs.Ytpelnanckmjoaaa
open Go Eng
variable {T : Nat} {s : St}
def failI (p : Prop) [Decidable p] (f : Nat) (s : St) : St := if p then failS f s else s
theorem failI_t {p : Prop} [Decidable p] (h : p) (f : Nat) (s : St) : failI p f s = failS f s := if_pos h
theorem failI_f {p : Prop} [Decidable p] (h : ¬ p) (f : Nat) (s : St) : failI p f s = s := if_neg h
theorem failI_sm (h : Sm T s) (p : Prop) [Decidable p] (f : Nat) : Sm T (failI p f s) := by unfold failI; split <;> first | exact failS_sm h f | exact h
theorem failI_1 (p : Prop) [Decidable p] (f : Nat) (s : St) : (failI p f s).1 = s.1 := by unfold failI; split <;> first | exact failS_1 f s | rfl
theorem Sm.at (h : Sm T s) : (T - s.1.length) + s.1.length = T := by have := h.1; omega
theorem Sm.up (h : Sm T s) : T < 100000 := by have := h.2.1; omega
theorem byte_q (h : Sm T s) : byte_p s.1 (T - s.1.length) s.2 = some ((byteS s).2.1, T - (byteS s).2.1.length, (byteS s).2.2, (byteS s).1) := byte_eq h.at h.up
theorem cnum_q (h : Sm T s) : cnum_p s.1 (T - s.1.length) s.2 = some ((u32S s).2.1, T - (u32S s).2.1.length, (u32S s).2.2, (u32S s).1) := cnum_eq h h.at h.up
theorem nought_q (h : Sm T s) : nought_p s.1 (T - s.1.length) s.2 = some ((zeroS s).1, T - (zeroS s).1.length, (zeroS s).2) := nought_eq h.at h.up
theorem value_q (h : Sm T s) : value_p s.1 (T - s.1.length) s.2 = some ((valueS s).2.1, T - (valueS s).2.1.length, (valueS s).2.2, (valueS s).1) := value_eq h.at h.up
theorem block_q (h : Sm T s) : blockType_p s.1 (T - s.1.length) s.2 = some ((blockS s).2.1, T - (blockS s).2.1.length, (blockS s).2.2, (blockS s).1) := block_eq h h.at h.up
theorem fails_q {b : Bool} {p : Prop} [Decidable p] (hb : b = true ↔ p) (f : Nat) : fails_p s.1 (T - s.1.length) s.2 b f = some ((failI p f s).1, T - (failI p f s).1.length, (failI p f s).2) := by
  rw [fails_eq, failI_1]
  unfold failI
  by_cases h : p
  · rw [if_pos (hb.2 h), if_pos h]
  · rw [if_neg (fun h2 => h (hb.1 h2)), if_neg h]
theorem rbyte_q : rbyte_p s.1 s.2 = some ((byteS s).2.1, (byteS s).2.2, (byteS s).1) := rbyte_eq _ _
theorem ru32_q (h : Sm T s) : ru32_p s.1 s.2 = some ((u32S s).2.1, (u32S s).2.2, (u32S s).1) := ru32_eq h
theorem rs32_q (h : Sm T s) : rs32_p s.1 s.2 = some ((s32S s).2.1, (s32S s).2.2, (s32S s).1) := rs32_eq h
theorem rs64_q (h : Sm T s) : rs64_p s.1 s.2 = some ((s64S s).2.1, (s64S s).2.2, (s64S s).1) := rs64_eq h
theorem rzero_q : rzero_p s.1 s.2 = some ((zeroS s).1, (zeroS s).2) := rzero_eq _ _
theorem rvalue_q : rvalue_p s.1 s.2 = some ((valueS s).2.1, (valueS s).2.2, (valueS s).1) := rvalue_eq _ _
theorem rblock_q (h : Sm T s) : rblock_p s.1 s.2 = some ((blockS s).2.1, (blockS s).2.2, (blockS s).1) := rblock_eq h
theorem rfail_q (f : Nat) : rfail_p s.1 s.2 f = some ((failS f s).1, (failS f s).2) := rfail_eq _ _ _
theorem s32_mod (v : Nat) : ((sInt .i32 v) % 4294967296).toNat = v % 4294967296 := by
  unfold sInt; rw [wrapA_eq]
  show ((IntKind.i32.wrap (.ofNat v)) % 4294967296).toNat = _
  simp only [IntKind.wrap, IntKind.signed, IntKind.bits]
  simp
  omega
theorem s64_mod (v : Nat) (h : v < 18446744073709551616) : ((sInt .i64 v) % 18446744073709551616).toNat = v := by
  unfold sInt; rw [wrapA_eq]
  show ((IntKind.i64.wrap (.ofNat v)) % 18446744073709551616).toNat = _
  simp only [IntKind.wrap, IntKind.signed, IntKind.bits]
  simp
  omega
theorem const3_q (h : Sm T s) : constant_p s.1 (T - s.1.length) s.2 3 = some ((s32S s).2.1, T - (s32S s).2.1.length, (s32S s).2.2, (s32S s).1) := by
  obtain ⟨l, e⟩ := s
  have h1 := (readG_len (size := 32) (sg := true) l 0 0 0).1
  have h0 := h.le
  dsimp only at h0 ⊢
  unfold constant_p s32S
  by_cases he : e = 0
  · subst he
    rw [if_neg (by decide), if_pos rfl, gd_t (by omega), ob_some, skip_eq h.at h.up (by dsimp only; omega), ob_some, if_pos rfl, s32_mod]
  · rw [if_pos he, if_neg he]
theorem const4_q (h : Sm T s) : constant_p s.1 (T - s.1.length) s.2 4 = some ((s64S s).2.1, T - (s64S s).2.1.length, (s64S s).2.2, (s64S s).1) := by
  obtain ⟨l, e⟩ := s
  have h1 := (readG_len (size := 64) (sg := true) l 0 0 0).1
  have h0 := h.le
  dsimp only at h0 ⊢
  unfold constant_p s64S
  by_cases he : e = 0
  · subst he
    rw [if_neg (by decide), if_neg (by decide), gd_t (by omega), ob_some, skip_eq h.at h.up (by dsimp only; omega), ob_some, if_pos rfl, s64_mod _ (readG_lt l 0 0 0 (by decide))]
  · rw [if_pos he, if_neg he]
noncomputable def stO (s : St) : St := if (byteS s).1 = 252 then failI (255 < (u32S (byteS s).2).1) 2 (u32S (byteS s).2).2 else (byteS s).2
noncomputable def vO (s : St) : Nat := if (byteS s).1 = 252 then 64512 + (u32S (byteS s).2).1 else (byteS s).1
theorem u32S_lt (s : St) : (u32S s).1 < 4294967296 := by unfold u32S; split <;> first | exact Nat.mod_lt _ (by decide) | exact (show 0 < 4294967296 by decide)
theorem stO_sm (h : Sm T s) : Sm T (stO s) := by
  unfold stO; split
  · exact failI_sm (u32S_sm (byteS_sm h).1) _ _
  · exact (byteS_sm h).1
theorem byteS_252 (h : (byteS s).1 = 252) : (byteS s).2.2 = 0 := by
  revert h; unfold byteS
  split
  · split
    · intro h; exact absurd h (show ¬ (0 : Nat) = 252 by decide)
    · intro _; rfl
  · intro h; exact absurd h (show ¬ (0 : Nat) = 252 by decide)
theorem rop_q (h : Sm T s) : rop_p s.1 s.2 = some ((stO s).1, (stO s).2, vO s) := by
  unfold rop_p
  rw [rbyte_q, ob_some]
  dsimp only
  unfold stO vO
  by_cases h1 : (byteS s).1 = 252
  · have hu := u32S_lt (byteS s).2
    rw [if_pos h1, if_pos h1, if_pos h1, if_pos (byteS_252 h1), ru32_q (byteS_sm h).1, ob_some]
    dsimp only
    by_cases h2 : 255 < (u32S (byteS s).2).1
    · rw [if_pos h2, failI_t h2, rfail_q, ob_some, gd_t (by omega)]
    · rw [if_neg h2, failI_f h2, gd_t (by omega)]
  · rw [if_neg h1, if_neg h1, if_neg h1]
noncomputable def stP (s : St) : St := if (byteS s).1 = 253 then failS 5 (stO s) else stO s
noncomputable def vP (s : St) : Nat := if (byteS s).1 = 252 then 64512 + ((u32S (byteS s).2).1 &&& 255) else (byteS s).1
theorem failS_ne {f : Nat} (hf : f ≠ 0) (s : St) : (failS f s).2 ≠ 0 := by unfold failS; split <;> assumption
theorem failI_T (f : Nat) (s : St) : failI True f s = failS f s := if_pos trivial
theorem op_q (h : Sm T s) : op_p s.1 (T - s.1.length) s.2 = some ((stP s).1, T - (stP s).1.length, (stP s).2, vP s) := by
  unfold op_p
  rw [byte_q h, ob_some]
  dsimp only
  unfold stP stO vP
  by_cases h1 : (byteS s).1 = 252
  · have hu := u32S_lt (byteS s).2
    have ha : (u32S (byteS s).2).1 &&& 255 ≤ 255 := Nat.and_le_right
    rw [if_pos h1, if_pos h1, if_pos h1, if_neg (by rw [h1]; decide), cnum_q (byteS_sm h).1, ob_some]
    dsimp only
    rw [fails_q (p := 255 < (u32S (byteS s).2).1) (ltN_iff _ _), ob_some, gd_t (by omega)]
  · rw [if_neg h1, if_neg h1]
    by_cases h2 : (byteS s).1 = 253
    · rw [if_pos h2, if_pos h2, if_neg h1, fails_q (p := True) (by simp), ob_some, failI_T]
    · rw [if_neg h2, if_neg h2, if_neg h1]
theorem and255 (n : Nat) : n &&& 255 = n % 256 := Nat.and_two_pow_sub_one_eq_mod n 8
theorem vP_eq (h : (stP s).2 = 0) : vP s = vO s ∧ (stO s).2 = 0 ∧ (byteS s).1 ≠ 253 ∧ stP s = stO s := by
  by_cases h2 : (byteS s).1 = 253
  · exfalso
    revert h
    unfold stP; rw [if_pos h2]
    exact failS_ne (by decide) _
  · have he : stP s = stO s := by unfold stP; rw [if_neg h2]
    rw [he] at h
    refine ⟨?_, h, h2, he⟩
    unfold vP vO
    by_cases h1 : (byteS s).1 = 252
    · rw [if_pos h1, if_pos h1]
      have : (u32S (byteS s).2).1 ≤ 255 := by
        refine Nat.le_of_not_lt fun hlt => ?_
        revert h
        unfold stO; rw [if_pos h1, failI_t hlt]
        exact failS_ne (by decide) _
      rw [and255, Nat.mod_eq_of_lt (by omega)]
    · rw [if_neg h1, if_neg h1]
theorem vO_ok (h : Sm T s) (h0 : (stO s).2 = 0) : OpOk (vO s) := by
  unfold vO
  by_cases h1 : (byteS s).1 = 252
  · rw [if_pos h1]
    have : (u32S (byteS s).2).1 ≤ 255 := by
      refine Nat.le_of_not_lt fun hlt => ?_
      revert h0
      unfold stO; rw [if_pos h1, failI_t hlt]
      exact failS_ne (by decide) _
    exact .inr (by omega)
  · rw [if_neg h1]
    exact .inl (byteS_sm h).2
def kC (x : Nat) (p : Nat × Nat) : Bool :=
  (decide (p.2 = 0) || decide (p.1 = 0)) && decide (p.1 ≤ 8) &&
  (!decide (x = 63) || decide (p.1 = 1)) && (!decide (x = 64) || decide (p.1 = 1)) && (!decide (x = 64523) || decide (p.1 = 1)) &&
  (!decide (x = 64522) || decide (p.1 = 2)) && (!decide (x = 64520) || decide (p.1 = 2)) &&
  (!decide (p.1 = 8) || decide (x = 28) || decide (x = 208)) &&
  (decide (p.1 = 6) == (decide (2 ≤ x) && decide (x ≤ 4))) && (!decide (x = 5 ∨ x = 11) || decide (p.1 = 0))
theorem kC_all : ∀ x, OpOk x → kC x (kF x) = true := by
  have ht : ∀ x < 256, kC x (kT.getD x (0, 0)) = true := by decide +kernel
  have hu : ∀ x < 256, kC (64512 + x) (kU.getD x (0, 0)) = true := by decide +kernel
  intro x hx
  unfold kF
  by_cases h : x < 256
  · rw [if_pos h]; exact ht x h
  · rw [if_neg h]
    rcases hx with hx | hx
    · exact absurd hx h
    · have := hu (x - 64512) (by omega)
      rwa [show 64512 + (x - 64512) = x by omega] at this
structure KF (x : Nat) (p : Nat × Nat) : Prop where
  e : p.2 ≠ 0 → p.1 = 0
  k : p.1 ≤ 8
  a : x = 63 → p.1 = 1
  b : x = 64 → p.1 = 1
  c : x = 64523 → p.1 = 1
  d : x = 64522 → p.1 = 2
  f : x = 64520 → p.1 = 2
  g : p.1 = 8 → x = 28 ∨ x = 208
  o : p.1 = 6 ↔ 2 ≤ x ∧ x ≤ 4
theorem kf {x : Nat} (h : OpOk x) : KF x (kF x) := by
  have := kC_all x h
  generalize kF x = p at *
  unfold kC at this
  simp at this
  obtain ⟨⟨⟨⟨⟨⟨⟨⟨⟨h1, h2⟩, h3⟩, h4⟩, h5⟩, h6⟩, h7⟩, h8⟩, h9⟩, h10⟩ := this
  refine ⟨fun h => ?_, h2, fun h => ?_, fun h => ?_, fun h => ?_, fun h => ?_, fun h => ?_, fun h => ?_, ?_⟩
  all_goals first | omega | skip
  · have := congrArg (· = true) h9
    simpa using this
end Go.Proofs.Ytpelnanckmjoaaa
end
section
set_option linter.unusedVariables false
set_option linter.unusedSimpArgs false
namespace Go.Proofs.Ytpelnanckmjoaaa
open Go Eng
variable {T : Nat} {s : St}
abbrev InsT := Nat × Nat × Nat × Nat × List Nat × Int
noncomputable def labS : Nat → St → List Nat → St × List Nat
  | 0, s, l => (s, l)
  | k + 1, s, l => if s.2 = 0 then labS k (u32S s).2 (l ++ [(u32S s).1]) else (s, l)
theorem labS_err (k : Nat) (h : s.2 ≠ 0) (l : List Nat) : labS k s l = (s, l) := by
  cases k with
  | zero => rfl
  | succ k => show (if _ then _ else _) = _; rw [if_neg h]
theorem labS_t {k : Nat} {l : List Nat} (h : s.2 = 0) : labS (k + 1) s l = labS k (u32S s).2 (l ++ [(u32S s).1]) := if_pos h
theorem labS_sm : ∀ (k : Nat) (s : St) (l : List Nat), Sm T s → Sm T (labS k s l).1 ∧ (labS k s l).2.length ≤ l.length + k
  | 0, s, l, h => ⟨h, Nat.le_refl _⟩
  | k + 1, s, l, h => by
    show Sm T (ite _ _ _ : St × List Nat).1 ∧ (ite _ _ _ : St × List Nat).2.length ≤ _
    split
    · have := labS_sm k _ (l ++ [(u32S s).1]) (u32S_sm h)
      refine ⟨this.1, Nat.le_trans this.2 ?_⟩
      rw [List.length_append]; simp; omega
    · exact ⟨h, by dsimp only; omega⟩
theorem lab_err {m k : Nat} (h : s.2 ≠ 0) (o a b n : Nat) (l : List Nat) (t : Int) : labels_l1 (m + 1) k s.1 (T - s.1.length) s.2 o a b n l t = some (k, s.1, T - s.1.length, s.2, o, a, b, n, l, t) := by
  rw [labels_l1, if_neg h]
  split <;> rfl
theorem lab_q : ∀ (k m : Nat) (s : St) (l : List Nat) (o a b n : Nat) (t : Int), k < m → Sm T s → l.length + k ≤ 1000 →
    ∃ k', labels_l1 m k s.1 (T - s.1.length) s.2 o a b n l t = some (k', (labS k s l).1.1, T - (labS k s l).1.1.length, (labS k s l).1.2, o, a, b, n, (labS k s l).2, t)
  | 0, m + 1, s, l, o, a, b, n, t, hm, h, hl => ⟨0, by
    rw [labels_l1, if_neg (Nat.lt_irrefl 0)]; rfl⟩
  | k + 1, m + 1, s, l, o, a, b, n, t, hm, h, hl => by
    by_cases h0 : s.2 = 0
    · obtain ⟨k', e⟩ := lab_q k m (u32S s).2 (l ++ [(u32S s).1]) o a b n t (by omega) (u32S_sm h) (by rw [List.length_append]; simp; omega)
      refine ⟨k', ?_⟩
      rw [labels_l1, if_pos (Nat.succ_pos k), if_pos h0, cnum_q h, ob_some, gd_t (by omega), gd_t (by omega), labS_t h0]
      exact e
    · exact ⟨k + 1, by rw [lab_err h0, labS_err _ h0]⟩
theorem rlab_err {B6 B29 m A : Nat} (h : s.2 ≠ 0) (o a b n : Nat) (l : List Nat) (t q1 q2 q3 q4 : Nat) (ql : List Nat) (q5 : Nat) :
    rinstr_l1 B6 B29 (m + 1) A s.1 s.2 o a b n l t q1 q2 q3 q4 ql q5 = some (A, s.1, s.2, o, a, b, n, l, t, q1, q2, q3, q4, ql, q5) := by
  rw [rinstr_l1, if_neg h]
  split <;> rfl
theorem rlab_q {B6 B29 : Nat} (hB : B6 ≤ 600) : ∀ (k m : Nat) (s : St) (l : List Nat) (A o a b n t q1 q2 q3 q4 : Nat) (ql : List Nat) (q5 : Nat), k < m → Sm T s → l.length + k ≤ 1000 → A + k = B6 →
    ∃ k', rinstr_l1 B6 B29 m A s.1 s.2 o a b n l t q1 q2 q3 q4 ql q5 = some (k', (labS k s l).1.1, (labS k s l).1.2, o, a, b, n, (labS k s l).2, t, q1, q2, q3, q4, ql, q5)
  | 0, m + 1, s, l, A, o, a, b, n, t, q1, q2, q3, q4, ql, q5, hm, h, hl, hA => ⟨A, by
    rw [rinstr_l1, if_neg (by omega)]; rfl⟩
  | k + 1, m + 1, s, l, A, o, a, b, n, t, q1, q2, q3, q4, ql, q5, hm, h, hl, hA => by
    by_cases h0 : s.2 = 0
    · obtain ⟨k', e⟩ := rlab_q (B29 := B29) hB k m (u32S s).2 (l ++ [(u32S s).1]) (A + 1) o a b n t q1 q2 q3 q4 ql q5 (by omega) (u32S_sm h) (by rw [List.length_append]; simp; omega) (by omega)
      refine ⟨k', ?_⟩
      rw [rinstr_l1, if_pos (by omega), if_pos h0, ru32_q h, ob_some, gd_t (by omega), Nat.mod_eq_of_lt (by omega), labS_t h0]
      exact e
    · exact ⟨A, by rw [rlab_err h0, labS_err _ h0]⟩
noncomputable def midL (s : St) : St := failI (600 < (u32S s).1) 4 (u32S s).2
noncomputable def labR (s : St) : St × List Nat := labS (u32S s).1 (midL s) []
theorem midL_sm (h : Sm T s) : Sm T (midL s) := failI_sm (u32S_sm h) _ _
theorem midL_n (h : (midL s).2 = 0) : (u32S s).1 ≤ 600 := by
  refine Nat.le_of_not_lt fun hlt => ?_
  revert h
  unfold midL; rw [failI_t hlt]
  exact failS_ne (by decide) _
theorem labR_sm (h : Sm T s) : Sm T (labR s).1 ∧ (labR s).2.length ≤ 600 := by
  unfold labR
  by_cases h0 : (midL s).2 = 0
  · have := labS_sm (u32S s).1 (midL s) [] (midL_sm h)
    exact ⟨this.1, by have h2 := this.2; have := midL_n h0; simp at h2; omega⟩
  · rw [labS_err _ h0]; exact ⟨midL_sm h, Nat.zero_le _⟩
theorem labels_q (h : Sm T s) (op : Nat) : labels_p s.1 (T - s.1.length) s.2 op 0 0 0 [] 0 =
    some ((u32S (labR s).1).2.1, T - (u32S (labR s).1).2.1.length, (u32S (labR s).1).2.2, op, (u32S (labR s).1).1, 0, 0, (labR s).2, 0) := by
  unfold labels_p
  rw [cnum_q h, ob_some]
  dsimp only
  rw [fails_q (p := 600 < (u32S s).1) (ltN_iff _ _), ob_some]
  dsimp only
  show ob (labels_l1 90000 _ (midL s).1 (T - (midL s).1.length) (midL s).2 _ _ _ _ _ _) _ = _
  by_cases h0 : (midL s).2 = 0
  · obtain ⟨k', e⟩ := lab_q (T := T) (u32S s).1 90000 (midL s) [] op 0 0 0 0 (by have := midL_n h0; omega) (midL_sm h) (by have := midL_n h0; simp; omega)
    rw [e, ob_some]
    dsimp only
    show ob (cnum_p (labR s).1.1 (T - (labR s).1.1.length) (labR s).1.2) _ = _
    rw [cnum_q (labR_sm h).1, ob_some]
    rfl
  · rw [lab_err h0, ob_some]
    have e : labR s = (midL s, []) := labS_err _ h0 []
    rw [e]
    dsimp only
    rw [cnum_q (midL_sm h), ob_some]
noncomputable def immS (op k : Nat) (s : St) : St × Nat × Nat × Nat × List Nat × Int :=
  if k = 1 then (if op = 63 ∨ op = 64 ∨ op = 64523 then (zeroS s, 0, 0, 0, [], 0) else ((u32S s).2, (u32S s).1, 0, 0, [], 0))
  else if k = 2 then (if op = 64522 then (zeroS (zeroS s), 0, 0, 0, [], 0) else if op = 64520 then (zeroS (u32S s).2, (u32S s).1, 0, 0, [], 0) else ((u32S (u32S s).2).2, (u32S s).1, (u32S (u32S s).2).1, 0, [], 0))
  else if k = 3 then ((s32S s).2, 0, 0, (s32S s).1, [], 0)
  else if k = 4 then ((s64S s).2, 0, 0, (s64S s).1, [], 0)
  else if k = 5 then ((u32S (failI (31 < (u32S s).1) 2 (u32S s).2)).2, (u32S s).1, (u32S (failI (31 < (u32S s).1) 2 (u32S s).2)).1, 0, [], 0)
  else if k = 6 then ((blockS s).2, 0, 0, 0, [], (blockS s).1)
  else if k = 7 then ((u32S (labR s).1).2, (u32S (labR s).1).1, 0, 0, (labR s).2, 0)
  else if k = 8 then (if op = 28 then ((valueS (failI ((u32S s).1 ≠ 1) 2 (u32S s).2)).2, (valueS (failI ((u32S s).1 ≠ 1) 2 (u32S s).2)).1, 0, 0, [], 0)
    else (failI (refF ((valueS s).1 % 256) = false) 2 (valueS s).2, (valueS s).1, 0, 0, [], 0))
  else (s, 0, 0, 0, [], 0)
theorem immS_sm (h : Sm T s) (op k : Nat) : Sm T (immS op k s).1 ∧ (immS op k s).2.2.2.2.1.length ≤ 600 := by
  unfold immS
  repeat' split
  all_goals refine ⟨?_, ?_⟩
  all_goals first
    | exact Nat.zero_le _
    | exact zeroS_sm h
    | exact zeroS_sm (zeroS_sm h)
    | exact zeroS_sm (u32S_sm h)
    | exact u32S_sm h
    | exact u32S_sm (u32S_sm h)
    | exact s32S_sm h
    | exact s64S_sm h
    | exact u32S_sm (failI_sm (u32S_sm h) _ _)
    | exact blockS_sm h
    | exact u32S_sm (labR_sm h).1
    | exact (labR_sm h).2
    | exact valueS_sm (failI_sm (u32S_sm h) _ _)
    | exact failI_sm (valueS_sm h) _ _
    | exact h
noncomputable def insS (s : St) : St × InsT :=
  if (stO s).2 ≠ 0 then (stO s, vO s, 0, 0, 0, [], 0)
  else if (kF (vO s)).2 ≠ 0 then (failS (kF (vO s)).2 (stO s), vO s, 0, 0, 0, [], 0)
  else ((immS (vO s) (kF (vO s)).1 (stO s)).1, vO s, (immS (vO s) (kF (vO s)).1 (stO s)).2)
theorem insS_sm (h : Sm T s) : Sm T (insS s).1 ∧ (insS s).2.2.2.2.2.1.length ≤ 600 := by
  unfold insS
  repeat' split
  · exact ⟨stO_sm h, Nat.zero_le _⟩
  · exact ⟨failS_sm (stO_sm h) _, Nat.zero_le _⟩
  · exact immS_sm (stO_sm h) _ _
theorem failS_0 (h : s.2 = 0) : failS 0 s = s := by
  unfold failS; rw [if_pos h, ← h]
theorem names_q {op k : Nat} (K : KF op (k, 0)) (h : Sm T s) (hk : k = 1 ∨ k = 2 ∨ k = 5) : names_p s.1 (T - s.1.length) s.2 op 0 0 0 [] 0 k =
    some ((immS op k s).1.1, T - (immS op k s).1.1.length, (immS op k s).1.2, op, (immS op k s).2) := by
  have Ka := K.a; have Kb := K.b; have Kc := K.c; have Kd := K.d; have Kf := K.f
  dsimp only at Ka Kb Kc Kd Kf
  unfold names_p immS
  rcases hk with rfl | rfl | rfl
  · simp only [reduceIte, Nat.reduceEqDiff]
    by_cases h1 : op = 63
    · rw [if_pos h1, if_pos (.inl h1), nought_q h, ob_some]
    by_cases h2 : op = 64
    · rw [if_neg h1, if_pos h2, if_pos (.inr (.inl h2)), nought_q h, ob_some]
    by_cases h3 : op = 64523
    · rw [if_neg h1, if_neg h2, if_pos h3, if_pos (.inr (.inr h3)), nought_q h, ob_some]
    rw [if_neg h1, if_neg h2, if_neg h3, if_neg (fun hh => absurd (Kd hh) (by decide)), if_neg (fun hh => absurd (Kf hh) (by decide)), if_neg (show ¬ (op = 63 ∨ op = 64 ∨ op = 64523) from by omega), cnum_q h, ob_some]
  · simp only [reduceIte, Nat.reduceEqDiff]
    rw [if_neg (fun hh => absurd (Ka hh) (by decide)), if_neg (fun hh => absurd (Kb hh) (by decide)), if_neg (fun hh => absurd (Kc hh) (by decide))]
    by_cases h1 : op = 64522
    · rw [if_pos h1, if_pos h1, nought_q h, ob_some]
      dsimp only
      rw [nought_q (zeroS_sm h), ob_some]
    by_cases h2 : op = 64520
    · rw [if_neg h1, if_pos h2, if_neg h1, if_pos h2, cnum_q h, ob_some]
      dsimp only
      rw [nought_q (u32S_sm h), ob_some]
    rw [if_neg h1, if_neg h2, if_neg h1, if_neg h2, cnum_q h, ob_some]
    dsimp only
    rw [fails_q (p := False) (by simp), ob_some, failI_f (fun h => h)]
    dsimp only
    rw [cnum_q (u32S_sm h), ob_some]
  · simp only [reduceIte, Nat.reduceEqDiff]
    rw [if_neg (fun hh => absurd (Ka hh) (by decide)), if_neg (fun hh => absurd (Kb hh) (by decide)), if_neg (fun hh => absurd (Kc hh) (by decide)), if_neg (fun hh => absurd (Kd hh) (by decide)), if_neg (fun hh => absurd (Kf hh) (by decide)), cnum_q h, ob_some]
    dsimp only
    rw [fails_q (p := 31 < (u32S s).1) (ltN_iff _ _), ob_some]
    dsimp only
    rw [cnum_q (failI_sm (u32S_sm h) _ _), ob_some]
abbrev SLT := List InsT
theorem behind_q {op k : Nat} (K : KF op (k, 0)) (h : Sm T s) (h6 : k ≠ 6) (rl : SLT) (ro : List Bool) : behind_p s.1 (T - s.1.length) s.2 rl ro op 0 0 0 [] 0 k =
    some ((immS op k s).1.1, T - (immS op k s).1.1.length, (immS op k s).1.2, rl, ro, op, (immS op k s).2) := by
  have Kk := K.k
  dsimp only at Kk
  unfold behind_p
  by_cases h1 : k = 1
  · rw [if_pos h1, names_q K h (.inl h1), ob_some]
  by_cases h2 : k = 2
  · rw [if_neg h1, if_pos h2, names_q K h (.inr (.inl h2)), ob_some]
  by_cases h5 : k = 5
  · rw [if_neg h1, if_neg h2, if_pos h5, names_q K h (.inr (.inr h5)), ob_some]
  rw [if_neg h1, if_neg h2, if_neg h5]
  rcases (by omega : k = 0 ∨ k = 3 ∨ k = 4 ∨ k = 7 ∨ k = 8) with rfl | rfl | rfl | rfl | rfl
  · unfold immS; simp only [reduceIte, Nat.reduceEqDiff]
  · unfold immS; simp only [reduceIte, Nat.reduceEqDiff]
    rw [const3_q h, ob_some]
  · unfold immS; simp only [reduceIte, Nat.reduceEqDiff]
    rw [const4_q h, ob_some]
  · unfold immS; simp only [reduceIte, Nat.reduceEqDiff]
    rw [labels_q h, ob_some]
  · unfold immS; simp only [reduceIte, Nat.reduceEqDiff]
    by_cases h8 : op = 28
    · rw [if_pos h8, if_pos h8, cnum_q h, ob_some]
      dsimp only
      rw [fails_q (p := (u32S s).1 ≠ 1) (by rw [eqI_nat]; by_cases hh : (u32S s).1 = 1 <;> simp [hh, notB, bc]), ob_some]
      dsimp only
      rw [value_q (failI_sm (u32S_sm h) _ _), ob_some]
      dsimp only
      rw [fails_q (p := False) (by simp), ob_some, failI_f (fun h => h)]
    · rw [if_neg h8, if_neg h8, fails_q (p := False) (by simp), ob_some, failI_f (fun h => h)]
      dsimp only
      rw [value_q h, ob_some]
      dsimp only
      rw [tr_eq, ob_some, fails_q (p := refF ((valueS s).1 % 256) = false) (by cases refF ((valueS s).1 % 256) <;> simp [notB]), ob_some]
theorem rinstr_q (h : Sm T s) : rinstr_p s.1 s.2 = some ((insS s).1.1, (insS s).1.2, (insS s).2) := by
  unfold rinstr_p insS
  rw [rop_q h, ob_some]
  dsimp only
  by_cases h0 : (stO s).2 ≠ 0
  · rw [if_pos h0, if_pos h0]
  have h0 := Decidable.not_not.1 h0
  have hO := vO_ok h h0
  have K := kf hO
  have hs := stO_sm h
  rw [if_neg (not_not_intro h0), if_neg (not_not_intro h0), gd_t hO, rfail_q, ob_some]
  dsimp only
  by_cases h1 : (kF (vO s)).2 ≠ 0
  · rw [if_pos h1]
    have := K.e h1
    rw [this]
    simp only [reduceIte, Nat.reduceEqDiff]
  have h1 := Decidable.not_not.1 h1
  rw [if_neg (not_not_intro h1)]
  generalize kF (vO s) = p at *
  generalize vO s = op at *
  generalize stO s = u at *
  obtain ⟨k, e⟩ := p
  dsimp only at h1 ⊢
  subst h1
  rw [failS_0 h0]
  have Kk := K.k
  dsimp only at Kk
  rcases (by omega : k = 0 ∨ k = 1 ∨ k = 2 ∨ k = 3 ∨ k = 4 ∨ k = 5 ∨ k = 6 ∨ k = 7 ∨ k = 8) with rfl | rfl | rfl | rfl | rfl | rfl | rfl | rfl | rfl
  all_goals (unfold immS; simp only [reduceIte, Nat.reduceEqDiff])
  · by_cases h1 : op = 63
    · rw [if_pos h1, if_pos (.inl h1), rzero_q, ob_some]
    by_cases h2 : op = 64
    · rw [if_neg h1, if_pos h2, if_pos (.inr (.inl h2)), rzero_q, ob_some]
    by_cases h3 : op = 64523
    · rw [if_neg h1, if_neg h2, if_pos h3, if_pos (.inr (.inr h3)), rzero_q, ob_some]
    rw [if_neg h1, if_neg h2, if_neg h3, if_neg (show ¬ (op = 63 ∨ op = 64 ∨ op = 64523) from by omega), ru32_q hs, ob_some]
  · by_cases h1 : op = 64522
    · rw [if_pos h1, if_pos h1, rzero_q, ob_some]
      dsimp only
      rw [rzero_q, ob_some]
    rw [if_neg h1, if_neg h1, ru32_q hs, ob_some]
    dsimp only
    by_cases h2 : op = 64520
    · rw [if_pos h2, if_pos h2, rzero_q, ob_some]
    rw [if_neg h2, if_neg h2, ru32_q (u32S_sm hs), ob_some]
  · rw [rs32_q hs, ob_some]
  · rw [rs64_q hs, ob_some]
  · rw [ru32_q hs, ob_some]
    dsimp only
    by_cases h1 : 31 < (u32S u).1
    · rw [if_pos h1, failI_t h1, rfail_q, ob_some]
      dsimp only
      rw [ru32_q (failS_sm (u32S_sm hs) _), ob_some]
    · rw [if_neg h1, failI_f h1, ru32_q (u32S_sm hs), ob_some]
  · rw [rblock_q hs, ob_some]
  · rw [ru32_q hs, ob_some]
    dsimp only
    have key : ∀ (hm : Sm T (midL u)), (ob (rinstr_l1 (u32S u).1 7 90000 0 (midL u).1 (midL u).2 op 0 0 0 ([] : List Nat) 0 0 0 0 0 ([] : List Nat) 0) fun o84 =>
        (ob (ru32_p o84.2.1 o84.2.2.1) fun x94 => (some (x94.1, x94.2.1, ((o84.2.2.2.1, x94.2.2, o84.2.2.2.2.2.1, o84.2.2.2.2.2.2.1, o84.2.2.2.2.2.2.2.1, ((o84.2.2.2.2.2.2.2.2.1 : Nat) : Int)) : InsT))))) =
        some ((u32S (labR u).1).2.1, (u32S (labR u).1).2.2, op, (u32S (labR u).1).1, 0, 0, (labR u).2, 0) := by
      intro hm
      by_cases h0 : (midL u).2 = 0
      · have hn := midL_n h0
        obtain ⟨k', e⟩ := rlab_q (T := T) (B29 := 7) hn (u32S u).1 90000 (midL u) [] 0 op 0 0 0 0 0 0 0 0 [] 0 (by omega) hm (by simp; omega) (by omega)
        rw [e, ob_some]
        dsimp only
        show ob (ru32_p (labR u).1.1 (labR u).1.2) _ = _
        rw [ru32_q (labR_sm hs).1, ob_some]
        rfl
      · rw [rlab_err h0, ob_some]
        have e : labR u = (midL u, []) := labS_err _ h0 []
        rw [e]
        dsimp only
        rw [ru32_q hm, ob_some]
        rfl
    have km := key (midL_sm hs)
    by_cases h1 : 600 < (u32S u).1
    · rw [if_pos h1, rfail_q, ob_some]
      dsimp only
      unfold midL at km
      rw [failI_t h1] at km
      exact km
    · rw [if_neg h1]
      unfold midL at km
      rw [failI_f h1] at km
      exact km
  · by_cases h8 : op = 28
    · subst h8
      rw [if_pos rfl, if_pos rfl, ru32_q hs, ob_some]
      dsimp only
      by_cases h1 : (u32S u).1 ≠ 1
      · rw [if_pos h1, failI_t h1, rfail_q, ob_some]
        dsimp only
        rw [rvalue_q, ob_some]
        simp only [reduceIte, Nat.reduceEqDiff]
      · rw [if_neg h1, failI_f h1, rvalue_q, ob_some]
        simp only [reduceIte, Nat.reduceEqDiff]
    · have h2 : op = 208 := (K.g rfl).resolve_left h8
      rw [if_neg h8, if_neg h8, rvalue_q, ob_some]
      dsimp only
      rw [if_pos h2, rr_eq, ob_some]
      by_cases h1 : refF ((valueS u).1 % 256) = false
      · rw [if_pos h1, failI_t h1, rfail_q, ob_some]
      · rw [if_neg h1, failI_f h1]
end Go.Proofs.Ytpelnanckmjoaaa
end
