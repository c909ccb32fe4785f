import Derived.Test.YtpelnanckmjoaaaB4
section
set_option linter.unusedVariables false
namespace Go.Proofs.Ytpelnanckmjoaaa
set_option linter.unusedVariables false
set_option linter.unusedSimpArgs false
open Go Eng
noncomputable def lawall_l1 (B0 : List (Int × Int × Nat)) : Nat → Bool → Nat → Nat → List Nat → List Int → List (Nat × Int) → Nat → Option (LO (Bool × Nat × Nat × List Nat × List Int × List (Nat × Int) × Nat) (Bool))
  | 0, _, _, _, _, _, _, _ => none
  | m + 1, A2, A5, Q103_0, Q103_1, Q103_2, Q102_0, Q102_1 =>
    (if A5 < B0.length then (if modA (wrapA .i64 (Int.add (modA ((B0.getD A5 default).1) (Int.ofNat 9)) (Int.ofNat 9))) (Int.ofNat 9) < 4 then (ob (hadd_p Q102_0 Q102_1 ((B0.getD A5 default).2.1)) fun x9 =>
    (ob (radd_p Q103_0 Q103_1 Q103_2 ((B0.getD A5 default).2.1)) fun x25 =>
    (if x9.2.2.1 ≠ x25.2.2.2.1 then (some (LO.rt false)) else
    (if x9.2.2.2 ≠ x25.2.2.2.2 then (some (LO.rt false)) else
    (ob (hall_p x9.1 x9.2.1) fun x47 =>
    (ob (samenums_p x47.2.2 x25.2.1) fun x64 =>
    (if x64 = false then (some (LO.rt false)) else
    (gd (A5 + 1 < 9223372036854775808) (lawall_l1 B0 m A2 (A5 + 1) x25.1 x25.2.1 x25.2.2.1 x47.1 x47.2.1))))))))) else
    (if modA (wrapA .i64 (Int.add (modA ((B0.getD A5 default).1) (Int.ofNat 9)) (Int.ofNat 9))) (Int.ofNat 9) < 6 then (ob (hget_p Q102_0 Q102_1 ((B0.getD A5 default).2.2)) fun x10 =>
    (ob (rget_p Q103_0 Q103_1 Q103_2 ((B0.getD A5 default).2.2)) fun x25 =>
    (if x10.2.2.1 ≠ x25.2.2.2.1 then (some (LO.rt false)) else
    (if x10.2.2.2 ≠ x25.2.2.2.2 then (some (LO.rt false)) else
    (ob (hall_p x10.1 x10.2.1) fun x46 =>
    (ob (samenums_p x46.2.2 x25.2.1) fun x63 =>
    (if x63 = false then (some (LO.rt false)) else
    (gd (A5 + 1 < 9223372036854775808) (lawall_l1 B0 m A2 (A5 + 1) x25.1 x25.2.1 x25.2.2.1 x46.1 x46.2.1))))))))) else
    (if modA (wrapA .i64 (Int.add (modA ((B0.getD A5 default).1) (Int.ofNat 9)) (Int.ofNat 9))) (Int.ofNat 9) < 8 then (ob (hclose_p Q102_0 Q102_1 ((B0.getD A5 default).2.2)) fun x11 =>
    (ob (rclose_p Q103_0 Q103_1 Q103_2 ((B0.getD A5 default).2.2)) fun x26 =>
    (if x11.2.2.1 ≠ x26.2.2.2.1 then (some (LO.rt false)) else
    (if x11.2.2.2 ≠ x26.2.2.2.2 then (some (LO.rt false)) else
    (ob (hall_p x11.1 x11.2.1) fun x47 =>
    (ob (samenums_p x47.2.2 x26.2.1) fun x64 =>
    (if x64 = false then (some (LO.rt false)) else
    (gd (A5 + 1 < 9223372036854775808) (lawall_l1 B0 m A2 (A5 + 1) x26.1 x26.2.1 x26.2.2.1 x47.1 x47.2.1))))))))) else
    (ob (hcopy_p Q102_0 Q102_1) fun x11 =>
    (ob (hadd_p x11.1 x11.2.1 (5 : Int)) fun x30 =>
    (ob (hclose_p x30.1 x30.2.1 ((B0.getD A5 default).2.2)) fun x45 =>
    (ob (hall_p x11.2.2.1 x11.2.2.2) fun x60 =>
    (ob (samenums_p x60.2.2 Q103_1) fun x77 =>
    (if x77 = false then (some (LO.rt false)) else
    (gd (A5 + 1 < 9223372036854775808) (lawall_l1 B0 m A2 (A5 + 1) Q103_0 Q103_1 Q103_2 x60.1 x60.2.1))))))))))) else
    (some (LO.ex (A2, A5, Q103_0, Q103_1, Q103_2, Q102_0, Q102_1))))
noncomputable def lawall_l1C : AC := (.seq (.seq (.region [⟨(some 36), .q (.move (.tmp 5)), none⟩, ⟨(some 37), .q (.move (.tmp 0)), none⟩, ⟨(some 38), .q (.lenL (.tmp 37)), none⟩, ⟨(some 39), .q (.bin .lss (.tmp 36) (.tmp 38)), none⟩]) (.cond (.tmp 39) .skip (.exit 0))) (.seq (.block 1 (.seq (.region [⟨(some 42), .q (.move (.tmp 0)), none⟩, ⟨(some 43), .q (.move (.tmp 5)), none⟩, ⟨(some 44), .q (.idxAddrSl 3 (.tmp 42) (.tmp 43)), none⟩, ⟨(some 45), .q (.loadA 3 (.tmp 44)), none⟩, ⟨(some 6), .l (.alloc [(vi 0), (vi 0), (vq 0)]), none⟩, ⟨none, .e (.store 3 (.tmp 6) (.tmp 45)), none⟩]) (.seq (.seq (.region [⟨(some 46), .q (.fieldAddr 0 (.tmp 6)), none⟩, ⟨(some 47), .q (.loadS (.tmp 46)), none⟩, ⟨(some 48), .q (.bin .rem (.tmp 47) (.const (vi 9))), none⟩, ⟨(some 49), .q (.bin .add (.tmp 48) (.const (vi 9))), none⟩, ⟨(some 50), .q (.bin .rem (.tmp 49) (.const (vi 9))), none⟩, ⟨(some 7), .q (.move (.tmp 50)), none⟩]) (.block 2 (.seq (.region [⟨(some 61), .q (.move (.tmp 7)), none⟩, ⟨(some 62), .q (.bin .lss (.tmp 61) (.const (vi 4))), none⟩, ⟨(some 60), .q (.move (.tmp 62)), none⟩]) (.cond (.tmp 60) (.seq (.region [⟨(some 64), .q (.move (.tmp 3)), none⟩, ⟨(some 65), .q (.fieldAddr 1 (.tmp 6)), none⟩, ⟨(some 66), .q (.loadS (.tmp 65)), none⟩, ⟨(some 67), .e (.call (.const (AV.func (.func 25) [] [])) [(.tmp 64), (.tmp 66)]), none⟩, ⟨(some 63), .q (.move (.tmp 67)), none⟩, ⟨(some 68), .q (.extract 0 (.tmp 63)), none⟩, ⟨(some 69), .q (.extract 1 (.tmp 63)), none⟩, ⟨(some 8), .q (.move (.tmp 68)), none⟩, ⟨(some 9), .q (.move (.tmp 69)), none⟩]) (.seq (.region [⟨(some 71), .q (.move (.tmp 4)), none⟩, ⟨(some 72), .q (.fieldAddr 1 (.tmp 6)), none⟩, ⟨(some 73), .q (.loadS (.tmp 72)), none⟩, ⟨(some 74), .e (.call (.const (AV.func (.func 28) [] [])) [(.tmp 71), (.tmp 73)]), none⟩, ⟨(some 70), .q (.move (.tmp 74)), none⟩, ⟨(some 75), .q (.extract 0 (.tmp 70)), none⟩, ⟨(some 76), .q (.extract 1 (.tmp 70)), none⟩, ⟨(some 10), .q (.move (.tmp 75)), none⟩, ⟨(some 11), .q (.move (.tmp 76)), none⟩]) (.seq (.region [⟨(some 77), .q (.move (.tmp 8)), none⟩, ⟨(some 78), .q (.move (.tmp 10)), none⟩, ⟨(some 79), .q (.eq .int true (.tmp 77) (.tmp 78)), none⟩, ⟨(some 80), .q (.move (.tmp 79)), none⟩, ⟨(some 81), .q (.move (.tmp 9)), (some (80, false))⟩, ⟨(some 82), .q (.move (.tmp 11)), (some (80, false))⟩, ⟨(some 83), .q (.eq .int true (.tmp 81) (.tmp 82)), (some (80, false))⟩, ⟨(some 84), .q (.pick (.tmp 80) (.const (AV.bool true)) (.tmp 83)), none⟩]) (.cond (.tmp 84) (.seq (.region [⟨(some 2), .q (.move (.const (AV.bool false))), none⟩]) .ret) .skip)))) (.seq (.region [⟨(some 86), .q (.move (.tmp 7)), none⟩, ⟨(some 87), .q (.bin .lss (.tmp 86) (.const (vi 6))), none⟩, ⟨(some 85), .q (.move (.tmp 87)), none⟩]) (.cond (.tmp 85) (.seq (.region [⟨(some 89), .q (.move (.tmp 3)), none⟩, ⟨(some 90), .q (.fieldAddr 2 (.tmp 6)), none⟩, ⟨(some 91), .q (.loadS (.tmp 90)), none⟩, ⟨(some 92), .e (.call (.const (AV.func (.func 24) [] [])) [(.tmp 89), (.tmp 91)]), none⟩, ⟨(some 88), .q (.move (.tmp 92)), none⟩, ⟨(some 93), .q (.extract 0 (.tmp 88)), none⟩, ⟨(some 94), .q (.extract 1 (.tmp 88)), none⟩, ⟨(some 12), .q (.move (.tmp 93)), none⟩, ⟨(some 13), .q (.move (.tmp 94)), none⟩]) (.seq (.region [⟨(some 96), .q (.move (.tmp 4)), none⟩, ⟨(some 97), .q (.fieldAddr 2 (.tmp 6)), none⟩, ⟨(some 98), .q (.loadS (.tmp 97)), none⟩, ⟨(some 99), .e (.call (.const (AV.func (.func 29) [] [])) [(.tmp 96), (.tmp 98)]), none⟩, ⟨(some 95), .q (.move (.tmp 99)), none⟩, ⟨(some 100), .q (.extract 0 (.tmp 95)), none⟩, ⟨(some 101), .q (.extract 1 (.tmp 95)), none⟩, ⟨(some 14), .q (.move (.tmp 100)), none⟩, ⟨(some 15), .q (.move (.tmp 101)), none⟩]) (.seq (.region [⟨(some 102), .q (.move (.tmp 12)), none⟩, ⟨(some 103), .q (.move (.tmp 14)), none⟩, ⟨(some 104), .q (.eq .int true (.tmp 102) (.tmp 103)), none⟩, ⟨(some 105), .q (.move (.tmp 104)), none⟩, ⟨(some 106), .q (.move (.tmp 13)), (some (105, false))⟩, ⟨(some 107), .q (.move (.tmp 15)), (some (105, false))⟩, ⟨(some 108), .q (.eq .int true (.tmp 106) (.tmp 107)), (some (105, false))⟩, ⟨(some 109), .q (.pick (.tmp 105) (.const (AV.bool true)) (.tmp 108)), none⟩]) (.cond (.tmp 109) (.seq (.region [⟨(some 2), .q (.move (.const (AV.bool false))), none⟩]) .ret) .skip)))) (.seq (.region [⟨(some 111), .q (.move (.tmp 7)), none⟩, ⟨(some 112), .q (.bin .lss (.tmp 111) (.const (vi 8))), none⟩, ⟨(some 110), .q (.move (.tmp 112)), none⟩]) (.cond (.tmp 110) (.seq (.region [⟨(some 114), .q (.move (.tmp 3)), none⟩, ⟨(some 115), .q (.fieldAddr 2 (.tmp 6)), none⟩, ⟨(some 116), .q (.loadS (.tmp 115)), none⟩, ⟨(some 117), .e (.call (.const (AV.func (.func 23) [] [])) [(.tmp 114), (.tmp 116)]), none⟩, ⟨(some 113), .q (.move (.tmp 117)), none⟩, ⟨(some 118), .q (.extract 0 (.tmp 113)), none⟩, ⟨(some 119), .q (.extract 1 (.tmp 113)), none⟩, ⟨(some 16), .q (.move (.tmp 118)), none⟩, ⟨(some 17), .q (.move (.tmp 119)), none⟩]) (.seq (.region [⟨(some 121), .q (.move (.tmp 4)), none⟩, ⟨(some 122), .q (.fieldAddr 2 (.tmp 6)), none⟩, ⟨(some 123), .q (.loadS (.tmp 122)), none⟩, ⟨(some 124), .e (.call (.const (AV.func (.func 30) [] [])) [(.tmp 121), (.tmp 123)]), none⟩, ⟨(some 120), .q (.move (.tmp 124)), none⟩, ⟨(some 125), .q (.extract 0 (.tmp 120)), none⟩, ⟨(some 126), .q (.extract 1 (.tmp 120)), none⟩, ⟨(some 18), .q (.move (.tmp 125)), none⟩, ⟨(some 19), .q (.move (.tmp 126)), none⟩]) (.seq (.region [⟨(some 127), .q (.move (.tmp 16)), none⟩, ⟨(some 128), .q (.move (.tmp 18)), none⟩, ⟨(some 129), .q (.eq .int true (.tmp 127) (.tmp 128)), none⟩, ⟨(some 130), .q (.move (.tmp 129)), none⟩, ⟨(some 131), .q (.move (.tmp 17)), (some (130, false))⟩, ⟨(some 132), .q (.move (.tmp 19)), (some (130, false))⟩, ⟨(some 133), .q (.eq .int true (.tmp 131) (.tmp 132)), (some (130, false))⟩, ⟨(some 134), .q (.pick (.tmp 130) (.const (AV.bool true)) (.tmp 133)), none⟩]) (.cond (.tmp 134) (.seq (.region [⟨(some 2), .q (.move (.const (AV.bool false))), none⟩]) .ret) .skip)))) (.seq (.region [⟨(some 51), .q (.move (.tmp 3)), none⟩, ⟨(some 52), .e (.call (.const (AV.func (.func 31) [] [])) [(.tmp 51)]), none⟩, ⟨(some 20), .q (.move (.tmp 52)), none⟩]) (.seq (.region [⟨(some 53), .q (.move (.tmp 3)), none⟩, ⟨(some 54), .e (.call (.const (AV.func (.func 25) [] [])) [(.tmp 53), (.const (vi 5))]), none⟩]) (.seq (.region [⟨(some 55), .q (.move (.tmp 3)), none⟩, ⟨(some 56), .q (.fieldAddr 2 (.tmp 6)), none⟩, ⟨(some 57), .q (.loadS (.tmp 56)), none⟩, ⟨(some 58), .e (.call (.const (AV.func (.func 23) [] [])) [(.tmp 55), (.tmp 57)]), none⟩]) (.region [⟨(some 59), .q (.move (.tmp 20)), none⟩, ⟨(some 3), .q (.move (.tmp 59)), none⟩])))))))))))) (.seq (.drawn [⟨[(⟨(some 135), .q (.move (.tmp 3)), none⟩, 0), (⟨(some 137), .q (.move (.tmp 4)), none⟩, 1), (⟨(some 138), .q (.nilCheck (.tmp 137)), none⟩, 1), (⟨(some 139), .q (.fieldAddr 1 (.tmp 138)), none⟩, 1), (⟨(some 140), .q (.loadS (.tmp 139)), none⟩, 1)], (some ⟨(some 136), .e (.call (.const (AV.func (.func 27) [] [])) [(.tmp 135)]), none⟩)⟩, ⟨[], (some ⟨(some 141), .e (.call (.const (AV.func (.func 26) [] [])) [(.tmp 136), (.tmp 140)]), none⟩)⟩, ⟨[(⟨(some 142), .q (.un .not (.tmp 141)), none⟩, 2)], none⟩]) (.cond (.tmp 142) (.seq (.region [⟨(some 2), .q (.move (.const (AV.bool false))), none⟩]) .ret) .skip))))) (.region [⟨(some 40), .q (.move (.tmp 5)), none⟩, ⟨(some 41), .q (.bin .add (.tmp 40) (.const (vi 1))), none⟩, ⟨(some 5), .q (.move (.tmp 41)), none⟩])))
theorem lawall_l1_body {call : CallT} {N : Nat} {t : T} {h : Hp} {wB0_1 : AV} {b103 : Nat} {ZG_104 : Nat → Prop} {Zk_104 : Hp} {G : Nat → Prop} {h0 : Hp} {B0 : List (Int × Int × Nat)} (fB0_2 : SIn (rP (rZ .i64) (rP (rZ .i64) (rU .u64))) G h0 wB0_1 B0) (h_begun : TrueS call 21) (h_new : NewS call) (h_hclose0 : ∀ h : Hp, call 23 [AV.nilPtr, (vq 1)] h = .ok (AV.tuple [(vi 0), (vi 1)]) h) (h_hclose : C_hclose call) (h_hget0 : ∀ h : Hp, call 24 [AV.nilPtr, (vq 1)] h = .ok (AV.tuple [(vi 0), (vi 1)]) h) (h_hget : C_hget call) (h_hadd0 : ∀ h : Hp, call 25 [AV.nilPtr, (vi 1)] h = .ok (AV.tuple [(vq 0), (vi 1)]) h) (h_hadd : C_hadd call) (h_samenums : C_samenums call) (h_hall0 : ∀ h : Hp, call 27 [AV.nilPtr] h = .ok AV.nilSlice h) (h_hall : C_hall call) (h_radd : C_radd call) (h_rget : C_rget call) (h_rclose : C_rclose call) (h_hcopy0 : ∀ h : Hp, call 31 [AV.nilPtr] h = .ok AV.nilPtr h) (h_hcopy : C_hcopy call) {o : LO (Bool × Nat × Nat × List Nat × List Int × List (Nat × Int) × Nat) (Bool)} {n : Nat} {A2 : Bool} {A5 : Nat} {Q103_0 : Nat} {Q103_1 : List Nat} {Q103_2 : List Int} {Q102_0 : List (Nat × Int)} {Q102_1 : Nat} {wQ103_1 : AV} {LQ103_1 : List AV} {wQ103_2 : AV} {LQ103_2 : List AV} {b102 : Nat} {wQ102_0 : AV} {G_104 : Nat → Prop} {k_104 : Hp} (hN : 90000 < N) (hi : (fun (z : Nat × Bool × Nat × Nat × List Nat × List Int × List (Nat × Int) × Nat × AV × List AV × AV × List AV × Nat × AV × (Nat → Prop) × Hp) (h' : Hp) => lawall_l1 B0 z.1 z.2.1 z.2.2.1 z.2.2.2.1 z.2.2.2.2.1 z.2.2.2.2.2.1 z.2.2.2.2.2.2.1 z.2.2.2.2.2.2.2.1 = some o ∧ (z.2.2.2.1 < 18446744073709551616) ∧ (Eng.Rows (rU .u64) z.2.2.2.2.2.2.2.2.2.2.2.2.2.2.1 z.2.2.2.2.2.2.2.2.2.2.2.2.2.2.2 z.2.2.2.2.2.2.2.2.2.1 z.2.2.2.2.1) ∧ (Eng.Rows (rZ .i64) z.2.2.2.2.2.2.2.2.2.2.2.2.2.2.1 z.2.2.2.2.2.2.2.2.2.2.2.2.2.2.2 z.2.2.2.2.2.2.2.2.2.2.2.1 z.2.2.2.2.2.1) ∧ (∀ p ∈ z.2.2.2.2.2.2.1, p.1 < 18446744073709551616) ∧ (z.2.2.2.2.2.2.2.1 < 18446744073709551616) ∧ (Up ZG_104 Zk_104 z.2.2.2.2.2.2.2.2.2.2.2.2.2.2.1 z.2.2.2.2.2.2.2.2.2.2.2.2.2.2.2) ∧ Eng.Sep [Cel b103 [(vq z.2.2.2.1), z.2.2.2.2.2.2.2.2.1, z.2.2.2.2.2.2.2.2.2.2.1], OwnO 1 z.2.2.2.2.2.2.2.2.1 z.2.2.2.2.1.length z.2.2.2.2.2.2.2.2.2.1, OwnO 1 z.2.2.2.2.2.2.2.2.2.2.1 z.2.2.2.2.2.1.length z.2.2.2.2.2.2.2.2.2.2.2.1, Cel z.2.2.2.2.2.2.2.2.2.2.2.2.1 [z.2.2.2.2.2.2.2.2.2.2.2.2.2.1, (vq z.2.2.2.2.2.2.2.1)], MapO z.2.2.2.2.2.2.2.2.2.2.2.2.2.1 z.2.2.2.2.2.2.1, Frz z.2.2.2.2.2.2.2.2.2.2.2.2.2.2.1 z.2.2.2.2.2.2.2.2.2.2.2.2.2.2.2, Frz G h0] h') (n, A2, A5, Q103_0, Q103_1, Q103_2, Q102_0, Q102_1, wQ103_1, LQ103_1, wQ103_2, LQ103_2, b102, wQ102_0, G_104, k_104) h)
    : ∃ s, evC call N lawall_l1C (ovT [(0, wB0_1), (2, (AV.bool A2)), (3, (AV.ptr b102 0)), (4, (AV.ptr b103 0)), (5, (vi A5))] t) h = s ∧ obsS [0, 2, 3, 4, 5] (fun ls h' => ∃ y, ls = ((fun (z : Nat × Bool × Nat × Nat × List Nat × List Int × List (Nat × Int) × Nat × AV × List AV × AV × List AV × Nat × AV × (Nat → Prop) × Hp) => [(0, wB0_1), (2, (AV.bool z.2.1)), (3, (AV.ptr z.2.2.2.2.2.2.2.2.2.2.2.2.1 0)), (4, (AV.ptr b103 0)), (5, (vi z.2.2.1))]) y).map (fun p => some p.2) ∧ (fun (z : Nat × Bool × Nat × Nat × List Nat × List Int × List (Nat × Int) × Nat × AV × List AV × AV × List AV × Nat × AV × (Nat → Prop) × Hp) (h' : Hp) => lawall_l1 B0 z.1 z.2.1 z.2.2.1 z.2.2.2.1 z.2.2.2.2.1 z.2.2.2.2.2.1 z.2.2.2.2.2.2.1 z.2.2.2.2.2.2.2.1 = some o ∧ (z.2.2.2.1 < 18446744073709551616) ∧ (Eng.Rows (rU .u64) z.2.2.2.2.2.2.2.2.2.2.2.2.2.2.1 z.2.2.2.2.2.2.2.2.2.2.2.2.2.2.2 z.2.2.2.2.2.2.2.2.2.1 z.2.2.2.2.1) ∧ (Eng.Rows (rZ .i64) z.2.2.2.2.2.2.2.2.2.2.2.2.2.2.1 z.2.2.2.2.2.2.2.2.2.2.2.2.2.2.2 z.2.2.2.2.2.2.2.2.2.2.2.1 z.2.2.2.2.2.1) ∧ (∀ p ∈ z.2.2.2.2.2.2.1, p.1 < 18446744073709551616) ∧ (z.2.2.2.2.2.2.2.1 < 18446744073709551616) ∧ (Up ZG_104 Zk_104 z.2.2.2.2.2.2.2.2.2.2.2.2.2.2.1 z.2.2.2.2.2.2.2.2.2.2.2.2.2.2.2) ∧ Eng.Sep [Cel b103 [(vq z.2.2.2.1), z.2.2.2.2.2.2.2.2.1, z.2.2.2.2.2.2.2.2.2.2.1], OwnO 1 z.2.2.2.2.2.2.2.2.1 z.2.2.2.2.1.length z.2.2.2.2.2.2.2.2.2.1, OwnO 1 z.2.2.2.2.2.2.2.2.2.2.1 z.2.2.2.2.2.1.length z.2.2.2.2.2.2.2.2.2.2.2.1, Cel z.2.2.2.2.2.2.2.2.2.2.2.2.1 [z.2.2.2.2.2.2.2.2.2.2.2.2.2.1, (vq z.2.2.2.2.2.2.2.1)], MapO z.2.2.2.2.2.2.2.2.2.2.2.2.2.1 z.2.2.2.2.2.2.1, Frz z.2.2.2.2.2.2.2.2.2.2.2.2.2.2.1 z.2.2.2.2.2.2.2.2.2.2.2.2.2.2.2, Frz G h0] h') y h' ∧ (fun (z : Nat × Bool × Nat × Nat × List Nat × List Int × List (Nat × Int) × Nat × AV × List AV × AV × List AV × Nat × AV × (Nat → Prop) × Hp) => z.1) y < (fun (z : Nat × Bool × Nat × Nat × List Nat × List Int × List (Nat × Int) × Nat × AV × List AV × AV × List AV × Nat × AV × (Nat → Prop) × Hp) => z.1) (n, A2, A5, Q103_0, Q103_1, Q103_2, Q102_0, Q102_1, wQ103_1, LQ103_1, wQ103_2, LQ103_2, b102, wQ102_0, G_104, k_104)) (fun i ls h' => ∃ y, ls = ((fun (z : Nat × Bool × Nat × Nat × List Nat × List Int × List (Nat × Int) × Nat × AV × List AV × AV × List AV × Nat × AV × (Nat → Prop) × Hp) => [(0, wB0_1), (2, (AV.bool z.2.1)), (3, (AV.ptr z.2.2.2.2.2.2.2.2.2.2.2.2.1 0)), (4, (AV.ptr b103 0)), (5, (vi z.2.2.1))]) y).map (fun p => some p.2) ∧ (fun (i : Nat) (z : Nat × Bool × Nat × Nat × List Nat × List Int × List (Nat × Int) × Nat × AV × List AV × AV × List AV × Nat × AV × (Nat → Prop) × Hp) (h' : Hp) => (i = 0) ∧ (i = 0 → o = LO.ex (z.2.1, z.2.2.1, z.2.2.2.1, z.2.2.2.2.1, z.2.2.2.2.2.1, z.2.2.2.2.2.2.1, z.2.2.2.2.2.2.2.1) ∧ (z.2.2.2.1 < 18446744073709551616) ∧ (Eng.Rows (rU .u64) z.2.2.2.2.2.2.2.2.2.2.2.2.2.2.1 z.2.2.2.2.2.2.2.2.2.2.2.2.2.2.2 z.2.2.2.2.2.2.2.2.2.1 z.2.2.2.2.1) ∧ (Eng.Rows (rZ .i64) z.2.2.2.2.2.2.2.2.2.2.2.2.2.2.1 z.2.2.2.2.2.2.2.2.2.2.2.2.2.2.2 z.2.2.2.2.2.2.2.2.2.2.2.1 z.2.2.2.2.2.1) ∧ (∀ p ∈ z.2.2.2.2.2.2.1, p.1 < 18446744073709551616) ∧ (z.2.2.2.2.2.2.2.1 < 18446744073709551616) ∧ (Up ZG_104 Zk_104 z.2.2.2.2.2.2.2.2.2.2.2.2.2.2.1 z.2.2.2.2.2.2.2.2.2.2.2.2.2.2.2) ∧ Eng.Sep [Cel b103 [(vq z.2.2.2.1), z.2.2.2.2.2.2.2.2.1, z.2.2.2.2.2.2.2.2.2.2.1], OwnO 1 z.2.2.2.2.2.2.2.2.1 z.2.2.2.2.1.length z.2.2.2.2.2.2.2.2.2.1, OwnO 1 z.2.2.2.2.2.2.2.2.2.2.1 z.2.2.2.2.2.1.length z.2.2.2.2.2.2.2.2.2.2.2.1, Cel z.2.2.2.2.2.2.2.2.2.2.2.2.1 [z.2.2.2.2.2.2.2.2.2.2.2.2.2.1, (vq z.2.2.2.2.2.2.2.1)], MapO z.2.2.2.2.2.2.2.2.2.2.2.2.2.1 z.2.2.2.2.2.2.1, Frz z.2.2.2.2.2.2.2.2.2.2.2.2.2.2.1 z.2.2.2.2.2.2.2.2.2.2.2.2.2.2.2, Frz G h0] h')) i y h') (fun ls h' => (fun (ls : List (Option AV)) (h' : Hp) => ∃ (rt : Bool) (v2 : AV), o = LO.rt rt ∧ ls[1]? = some (some v2) ∧ (v2 = (AV.bool rt))) ls h') s := by
  have hi : lawall_l1 B0 n A2 A5 Q103_0 Q103_1 Q103_2 Q102_0 Q102_1 = some o ∧ (Q103_0 < 18446744073709551616) ∧ (Eng.Rows (rU .u64) G_104 k_104 LQ103_1 Q103_1) ∧ (Eng.Rows (rZ .i64) G_104 k_104 LQ103_2 Q103_2) ∧ (∀ p ∈ Q102_0, p.1 < 18446744073709551616) ∧ (Q102_1 < 18446744073709551616) ∧ (Up ZG_104 Zk_104 G_104 k_104) ∧ Eng.Sep [Cel b103 [(vq Q103_0), wQ103_1, wQ103_2], OwnO 1 wQ103_1 Q103_1.length LQ103_1, OwnO 1 wQ103_2 Q103_2.length LQ103_2, Cel b102 [wQ102_0, (vq Q102_1)], MapO wQ102_0 Q102_0, Frz G_104 k_104, Frz G h0] h := hi
  obtain ⟨hp, fQ103_0_1, fQ103_1, fQ103_2, fQ102_0, fQ102_1_1, fU_104, S⟩ := hi
  obtain ⟨m, hm⟩ : ∃ m, n = m + 1 := by
    cases n with
    | zero => first | cases hp | (unfold lawall_l1 at hp; cases hp) | (simp [lawall_l1] at hp)
    | succ m => exact ⟨m, rfl⟩
  rw [hm] at hp
  unfold lawall_l1 at hp
  refine walk_ok (o := (.tell 2 (vi B0.length) (.fork 0 (.tell 2 (elemP wB0_1 A5 3) (.tell 0 (AV.agg [(AV.int .i64 ((B0.getD A5 default).1)), (AV.int .i64 ((B0.getD A5 default).2.1)), (vq ((B0.getD A5 default).2.2))]) (.effx 1 (fun e5 => (AV.tuple [])) (fun e5 => (.tell 1 (AV.int .i64 ((B0.getD A5 default).1)) (.fork 6 (.tell 2 (AV.int .i64 ((B0.getD A5 default).2.1)) (.exi 0 fun (x9 : List (Nat × Int) × Nat × Nat × Nat) => (.exi 0 fun (w19 : AV) => (.exi 0 fun (h15 : Hp) => (.eff 0 (AV.tuple [(vq x9.2.2.1), (vi x9.2.2.2)]) h15 (.tell 7 (AV.int .i64 ((B0.getD A5 default).2.1)) (.exi 0 fun (x25 : Nat × List Nat × List Int × Nat × Nat) => (.exi 0 fun (w36 : AV) => (.exi 0 fun (w39 : AV) => (.exi 0 fun (h31 : Hp) => (.eff 0 (AV.tuple [(vq x25.2.2.2.1), (vi x25.2.2.2.2)]) h31 (.fork 8 .fin (.fork 3 .fin (.tell 4 w36 (.again 0 (.exi 0 fun (x47 : List (Nat × Int) × Nat × List Nat) => (.exi 0 fun (w51 : AV) => (.exi 0 fun (w59 : AV) => (.exi 0 fun (h55 : Hp) => (.eff 0 w51 h55 (.again 0 (.exi 0 fun (x64 : Bool) => (.exi 0 fun (h69 : Hp) => (.eff 0 (AV.bool x64) h69 (.fork 0 (.again 0 .fin) (.again 0 (.tell 1 (vi (A5 + 1)) .fin))))))))))))))))))))))))))) (.fork 2 (.tell 2 (vq ((B0.getD A5 default).2.2)) (.exi 0 fun (x10 : List (Nat × Int) × Nat × Int × Nat) => (.exi 0 fun (w19 : AV) => (.exi 0 fun (h15 : Hp) => (.eff 0 (AV.tuple [(AV.int .i64 x10.2.2.1), (vi x10.2.2.2)]) h15 (.tell 7 (vq ((B0.getD A5 default).2.2)) (.exi 0 fun (x25 : Nat × List Nat × List Int × Int × Nat) => (.exi 0 fun (w35 : AV) => (.exi 0 fun (w38 : AV) => (.exi 0 fun (h30 : Hp) => (.eff 0 (AV.tuple [(AV.int .i64 x25.2.2.2.1), (vi x25.2.2.2.2)]) h30 (.fork 8 .fin (.fork 3 .fin (.tell 4 w35 (.again 0 (.exi 0 fun (x46 : List (Nat × Int) × Nat × List Nat) => (.exi 0 fun (w50 : AV) => (.exi 0 fun (w58 : AV) => (.exi 0 fun (h54 : Hp) => (.eff 0 w50 h54 (.again 0 (.exi 0 fun (x63 : Bool) => (.exi 0 fun (h68 : Hp) => (.eff 0 (AV.bool x63) h68 (.fork 0 (.again 0 .fin) (.again 0 (.tell 1 (vi (A5 + 1)) .fin))))))))))))))))))))))))))) (.fork 2 (.tell 2 (vq ((B0.getD A5 default).2.2)) (.exi 0 fun (x11 : List (Nat × Int) × Nat × Int × Nat) => (.exi 0 fun (w20 : AV) => (.exi 0 fun (h16 : Hp) => (.eff 0 (AV.tuple [(AV.int .i64 x11.2.2.1), (vi x11.2.2.2)]) h16 (.tell 7 (vq ((B0.getD A5 default).2.2)) (.exi 0 fun (x26 : Nat × List Nat × List Int × Int × Nat) => (.exi 0 fun (w36 : AV) => (.exi 0 fun (w39 : AV) => (.exi 0 fun (h31 : Hp) => (.eff 0 (AV.tuple [(AV.int .i64 x26.2.2.2.1), (vi x26.2.2.2.2)]) h31 (.fork 8 .fin (.fork 3 .fin (.tell 4 w36 (.again 0 (.exi 0 fun (x47 : List (Nat × Int) × Nat × List Nat) => (.exi 0 fun (w51 : AV) => (.exi 0 fun (w59 : AV) => (.exi 0 fun (h55 : Hp) => (.eff 0 w51 h55 (.again 0 (.exi 0 fun (x64 : Bool) => (.exi 0 fun (h69 : Hp) => (.eff 0 (AV.bool x64) h69 (.fork 0 (.again 0 .fin) (.again 0 (.tell 1 (vi (A5 + 1)) .fin))))))))))))))))))))))))))) (.exi 1 fun (x11 : List (Nat × Int) × Nat × (List (Nat × Int) × Nat)) => (.exi 0 fun (b15 : Nat) => (.exi 0 fun (w16 : AV) => (.exi 0 fun (w24 : AV) => (.exi 0 fun (h20 : Hp) => (.eff 0 (AV.ptr b15 0) h20 (.exi 2 fun (x30 : List (Nat × Int) × Nat × Nat × Nat) => (.exi 0 fun (w40 : AV) => (.exi 0 fun (h36 : Hp) => (.eff 0 (AV.tuple [(vq x30.2.2.1), (vi x30.2.2.2)]) h36 (.tell 2 (vq ((B0.getD A5 default).2.2)) (.exi 0 fun (x45 : List (Nat × Int) × Nat × Int × Nat) => (.exi 0 fun (w54 : AV) => (.exi 0 fun (h50 : Hp) => (.eff 0 (AV.tuple [(AV.int .i64 x45.2.2.1), (vi x45.2.2.2)]) h50 (.tell 6 wQ103_1 (.again 0 (.exi 0 fun (x60 : List (Nat × Int) × Nat × List Nat) => (.exi 0 fun (w64 : AV) => (.exi 0 fun (w72 : AV) => (.exi 0 fun (h68 : Hp) => (.eff 0 w64 h68 (.again 0 (.exi 0 fun (x77 : Bool) => (.exi 0 fun (h82 : Hp) => (.eff 0 (AV.bool x77) h82 (.fork 0 (.again 0 .fin) (.again 0 (.tell 1 (vi (A5 + 1)) .fin))))))))))))))))))))))))))))))))))))) .fin))) (p := (fun (KN : List (Option AV) → Hp → Prop) (KE : Nat → List (Option AV) → Hp → Prop) (KR : List (Option AV) → Hp → Prop) => ((evQ (.lenL (.const wB0_1)) .lf H0 = .ok (vi B0.length) ∧ ((ltI (Int.ofNat A5) (Int.ofNat B0.length) = true → ((evQ (.idxAddrSl 3 (.const wB0_1) (.const (vi A5))) .lf H0 = .ok (elemP wB0_1 A5 3) ∧ ((evQ (.loadA 3 (.const (elemP wB0_1 A5 3))) .lf h = .ok (AV.agg [(AV.int .i64 ((B0.getD A5 default).1)), (AV.int .i64 ((B0.getD A5 default).2.1)), (vq ((B0.getD A5 default).2.2))]) ∧ (∃ e5 : Ev, evE (.store 3 (.const (AV.ptr (Hp.next h) 0)) (.const (AV.agg [(AV.int .i64 ((B0.getD A5 default).1)), (AV.int .i64 ((B0.getD A5 default).2.1)), (vq ((B0.getD A5 default).2.2))]))) call .lf (hpush h (mkCells [(vi 0), (vi 0), (vq 0)] 3)) = .ok (AV.tuple []) e5.h ∧ ((evQ (.loadS (.const (AV.ptr (Hp.next h) 0))) .lf e5.h = .ok (AV.int .i64 ((B0.getD A5 default).1)) ∧ ((ltI (modA (wrapA .i64 (Int.add (modA ((B0.getD A5 default).1) (Int.ofNat 9)) (Int.ofNat 9))) (Int.ofNat 9)) (Int.ofNat 4) = true → ((evQ (.loadS (.const (AV.ptr (Hp.next h) 1))) .lf e5.h = .ok (AV.int .i64 ((B0.getD A5 default).2.1)) ∧ (∃ x9 : List (Nat × Int) × Nat × Nat × Nat, ∃ w19 : AV, ∃ h15 : Hp, (call 25 [(AV.ptr b102 0), (AV.int .i64 ((B0.getD A5 default).2.1))] e5.h = .ok (AV.tuple [(vq x9.2.2.1), (vi x9.2.2.2)]) h15 ∧ ((evQ (.loadS (.const (AV.ptr (Hp.next h) 1))) .lf h15 = .ok (AV.int .i64 ((B0.getD A5 default).2.1)) ∧ (∃ x25 : Nat × List Nat × List Int × Nat × Nat, ∃ w36 : AV, ∃ w39 : AV, ∃ h31 : Hp, (call 28 [(AV.ptr b103 0), (AV.int .i64 ((B0.getD A5 default).2.1))] h15 = .ok (AV.tuple [(vq x25.2.2.2.1), (vi x25.2.2.2.2)]) h31 ∧ ((notB (eqI (Int.ofNat x9.2.2.1) (Int.ofNat x25.2.2.2.1)) = true → KR [some wB0_1, some (AV.bool false), some (AV.ptr b102 0), some (AV.ptr b103 0), some (vi A5)] h31) ∧ (notB (eqI (Int.ofNat x9.2.2.1) (Int.ofNat x25.2.2.2.1)) = false → ((notB (eqI (Int.ofNat x9.2.2.2) (Int.ofNat x25.2.2.2.2)) = true → KR [some wB0_1, some (AV.bool false), some (AV.ptr b102 0), some (AV.ptr b103 0), some (vi A5)] h31) ∧ (notB (eqI (Int.ofNat x9.2.2.2) (Int.ofNat x25.2.2.2.2)) = false → ((evQ (.loadS (.const (AV.ptr b103 1))) .lf h31 = .ok w36 ∧ ((again (.loadS (.const (AV.ptr b103 1))) .lf w36 h31 = true ∧ again (.fieldAddr 1 (.const (AV.ptr b103 0))) .lf (AV.ptr b103 1) h31 = true ∧ again (.nilCheck (.const (AV.ptr b103 0))) .lf (AV.ptr b103 0) h31 = true ∧ again (.move (.const (AV.ptr b103 0))) .lf (AV.ptr b103 0) h31 = true ∧ again (.move (.const (AV.ptr b102 0))) .lf (AV.ptr b102 0) h31 = true ∧ True) ∧ (∃ x47 : List (Nat × Int) × Nat × List Nat, ∃ w51 : AV, ∃ w59 : AV, ∃ h55 : Hp, (call 27 [(AV.ptr b102 0)] h31 = .ok w51 h55 ∧ ((again (.loadS (.const (AV.ptr b103 1))) .lf w36 h55 = true ∧ again (.fieldAddr 1 (.const (AV.ptr b103 0))) .lf (AV.ptr b103 1) h55 = true ∧ again (.nilCheck (.const (AV.ptr b103 0))) .lf (AV.ptr b103 0) h55 = true ∧ again (.move (.const (AV.ptr b103 0))) .lf (AV.ptr b103 0) h55 = true ∧ True) ∧ (∃ x64 : Bool, ∃ h69 : Hp, (call 26 [w51, w36] h55 = .ok (AV.bool x64) h69 ∧ ((notB x64 = true → ((again (.un .not (.const (AV.bool x64))) .lf (AV.bool true) h69 = true ∧ True) ∧ KR [some wB0_1, some (AV.bool false), some (AV.ptr b102 0), some (AV.ptr b103 0), some (vi A5)] h69)) ∧ (notB x64 = false → ((again (.un .not (.const (AV.bool x64))) .lf (AV.bool false) h69 = true ∧ True) ∧ ((evQ (.bin .add (.const (vi A5)) (.const (vi 1))) .lf H0 = .ok (vi (A5 + 1)) ∧ KN [some wB0_1, some (AV.bool A2), some (AV.ptr b102 0), some (AV.ptr b103 0), some (vi (A5 + 1))] h69)))))))))))))))))))))))))) ∧ (ltI (modA (wrapA .i64 (Int.add (modA ((B0.getD A5 default).1) (Int.ofNat 9)) (Int.ofNat 9))) (Int.ofNat 9)) (Int.ofNat 4) = false → ((ltI (modA (wrapA .i64 (Int.add (modA ((B0.getD A5 default).1) (Int.ofNat 9)) (Int.ofNat 9))) (Int.ofNat 9)) (Int.ofNat 6) = true → ((evQ (.loadS (.const (AV.ptr (Hp.next h) 2))) .lf e5.h = .ok (vq ((B0.getD A5 default).2.2)) ∧ (∃ x10 : List (Nat × Int) × Nat × Int × Nat, ∃ w19 : AV, ∃ h15 : Hp, (call 24 [(AV.ptr b102 0), (vq ((B0.getD A5 default).2.2))] e5.h = .ok (AV.tuple [(AV.int .i64 x10.2.2.1), (vi x10.2.2.2)]) h15 ∧ ((evQ (.loadS (.const (AV.ptr (Hp.next h) 2))) .lf h15 = .ok (vq ((B0.getD A5 default).2.2)) ∧ (∃ x25 : Nat × List Nat × List Int × Int × Nat, ∃ w35 : AV, ∃ w38 : AV, ∃ h30 : Hp, (call 29 [(AV.ptr b103 0), (vq ((B0.getD A5 default).2.2))] h15 = .ok (AV.tuple [(AV.int .i64 x25.2.2.2.1), (vi x25.2.2.2.2)]) h30 ∧ ((notB (eqI x10.2.2.1 x25.2.2.2.1) = true → KR [some wB0_1, some (AV.bool false), some (AV.ptr b102 0), some (AV.ptr b103 0), some (vi A5)] h30) ∧ (notB (eqI x10.2.2.1 x25.2.2.2.1) = false → ((notB (eqI (Int.ofNat x10.2.2.2) (Int.ofNat x25.2.2.2.2)) = true → KR [some wB0_1, some (AV.bool false), some (AV.ptr b102 0), some (AV.ptr b103 0), some (vi A5)] h30) ∧ (notB (eqI (Int.ofNat x10.2.2.2) (Int.ofNat x25.2.2.2.2)) = false → ((evQ (.loadS (.const (AV.ptr b103 1))) .lf h30 = .ok w35 ∧ ((again (.loadS (.const (AV.ptr b103 1))) .lf w35 h30 = true ∧ again (.fieldAddr 1 (.const (AV.ptr b103 0))) .lf (AV.ptr b103 1) h30 = true ∧ again (.nilCheck (.const (AV.ptr b103 0))) .lf (AV.ptr b103 0) h30 = true ∧ again (.move (.const (AV.ptr b103 0))) .lf (AV.ptr b103 0) h30 = true ∧ again (.move (.const (AV.ptr b102 0))) .lf (AV.ptr b102 0) h30 = true ∧ True) ∧ (∃ x46 : List (Nat × Int) × Nat × List Nat, ∃ w50 : AV, ∃ w58 : AV, ∃ h54 : Hp, (call 27 [(AV.ptr b102 0)] h30 = .ok w50 h54 ∧ ((again (.loadS (.const (AV.ptr b103 1))) .lf w35 h54 = true ∧ again (.fieldAddr 1 (.const (AV.ptr b103 0))) .lf (AV.ptr b103 1) h54 = true ∧ again (.nilCheck (.const (AV.ptr b103 0))) .lf (AV.ptr b103 0) h54 = true ∧ again (.move (.const (AV.ptr b103 0))) .lf (AV.ptr b103 0) h54 = true ∧ True) ∧ (∃ x63 : Bool, ∃ h68 : Hp, (call 26 [w50, w35] h54 = .ok (AV.bool x63) h68 ∧ ((notB x63 = true → ((again (.un .not (.const (AV.bool x63))) .lf (AV.bool true) h68 = true ∧ True) ∧ KR [some wB0_1, some (AV.bool false), some (AV.ptr b102 0), some (AV.ptr b103 0), some (vi A5)] h68)) ∧ (notB x63 = false → ((again (.un .not (.const (AV.bool x63))) .lf (AV.bool false) h68 = true ∧ True) ∧ ((evQ (.bin .add (.const (vi A5)) (.const (vi 1))) .lf H0 = .ok (vi (A5 + 1)) ∧ KN [some wB0_1, some (AV.bool A2), some (AV.ptr b102 0), some (AV.ptr b103 0), some (vi (A5 + 1))] h68)))))))))))))))))))))))))) ∧ (ltI (modA (wrapA .i64 (Int.add (modA ((B0.getD A5 default).1) (Int.ofNat 9)) (Int.ofNat 9))) (Int.ofNat 9)) (Int.ofNat 6) = false → ((ltI (modA (wrapA .i64 (Int.add (modA ((B0.getD A5 default).1) (Int.ofNat 9)) (Int.ofNat 9))) (Int.ofNat 9)) (Int.ofNat 8) = true → ((evQ (.loadS (.const (AV.ptr (Hp.next h) 2))) .lf e5.h = .ok (vq ((B0.getD A5 default).2.2)) ∧ (∃ x11 : List (Nat × Int) × Nat × Int × Nat, ∃ w20 : AV, ∃ h16 : Hp, (call 23 [(AV.ptr b102 0), (vq ((B0.getD A5 default).2.2))] e5.h = .ok (AV.tuple [(AV.int .i64 x11.2.2.1), (vi x11.2.2.2)]) h16 ∧ ((evQ (.loadS (.const (AV.ptr (Hp.next h) 2))) .lf h16 = .ok (vq ((B0.getD A5 default).2.2)) ∧ (∃ x26 : Nat × List Nat × List Int × Int × Nat, ∃ w36 : AV, ∃ w39 : AV, ∃ h31 : Hp, (call 30 [(AV.ptr b103 0), (vq ((B0.getD A5 default).2.2))] h16 = .ok (AV.tuple [(AV.int .i64 x26.2.2.2.1), (vi x26.2.2.2.2)]) h31 ∧ ((notB (eqI x11.2.2.1 x26.2.2.2.1) = true → KR [some wB0_1, some (AV.bool false), some (AV.ptr b102 0), some (AV.ptr b103 0), some (vi A5)] h31) ∧ (notB (eqI x11.2.2.1 x26.2.2.2.1) = false → ((notB (eqI (Int.ofNat x11.2.2.2) (Int.ofNat x26.2.2.2.2)) = true → KR [some wB0_1, some (AV.bool false), some (AV.ptr b102 0), some (AV.ptr b103 0), some (vi A5)] h31) ∧ (notB (eqI (Int.ofNat x11.2.2.2) (Int.ofNat x26.2.2.2.2)) = false → ((evQ (.loadS (.const (AV.ptr b103 1))) .lf h31 = .ok w36 ∧ ((again (.loadS (.const (AV.ptr b103 1))) .lf w36 h31 = true ∧ again (.fieldAddr 1 (.const (AV.ptr b103 0))) .lf (AV.ptr b103 1) h31 = true ∧ again (.nilCheck (.const (AV.ptr b103 0))) .lf (AV.ptr b103 0) h31 = true ∧ again (.move (.const (AV.ptr b103 0))) .lf (AV.ptr b103 0) h31 = true ∧ again (.move (.const (AV.ptr b102 0))) .lf (AV.ptr b102 0) h31 = true ∧ True) ∧ (∃ x47 : List (Nat × Int) × Nat × List Nat, ∃ w51 : AV, ∃ w59 : AV, ∃ h55 : Hp, (call 27 [(AV.ptr b102 0)] h31 = .ok w51 h55 ∧ ((again (.loadS (.const (AV.ptr b103 1))) .lf w36 h55 = true ∧ again (.fieldAddr 1 (.const (AV.ptr b103 0))) .lf (AV.ptr b103 1) h55 = true ∧ again (.nilCheck (.const (AV.ptr b103 0))) .lf (AV.ptr b103 0) h55 = true ∧ again (.move (.const (AV.ptr b103 0))) .lf (AV.ptr b103 0) h55 = true ∧ True) ∧ (∃ x64 : Bool, ∃ h69 : Hp, (call 26 [w51, w36] h55 = .ok (AV.bool x64) h69 ∧ ((notB x64 = true → ((again (.un .not (.const (AV.bool x64))) .lf (AV.bool true) h69 = true ∧ True) ∧ KR [some wB0_1, some (AV.bool false), some (AV.ptr b102 0), some (AV.ptr b103 0), some (vi A5)] h69)) ∧ (notB x64 = false → ((again (.un .not (.const (AV.bool x64))) .lf (AV.bool false) h69 = true ∧ True) ∧ ((evQ (.bin .add (.const (vi A5)) (.const (vi 1))) .lf H0 = .ok (vi (A5 + 1)) ∧ KN [some wB0_1, some (AV.bool A2), some (AV.ptr b102 0), some (AV.ptr b103 0), some (vi (A5 + 1))] h69)))))))))))))))))))))))))) ∧ (ltI (modA (wrapA .i64 (Int.add (modA ((B0.getD A5 default).1) (Int.ofNat 9)) (Int.ofNat 9))) (Int.ofNat 9)) (Int.ofNat 8) = false → (∃ x11 : List (Nat × Int) × Nat × (List (Nat × Int) × Nat), ∃ b15 : Nat, ∃ w16 : AV, ∃ w24 : AV, ∃ h20 : Hp, (call 31 [(AV.ptr b102 0)] e5.h = .ok (AV.ptr b15 0) h20 ∧ (∃ x30 : List (Nat × Int) × Nat × Nat × Nat, ∃ w40 : AV, ∃ h36 : Hp, (call 25 [(AV.ptr b102 0), (vi 5)] h20 = .ok (AV.tuple [(vq x30.2.2.1), (vi x30.2.2.2)]) h36 ∧ ((evQ (.loadS (.const (AV.ptr (Hp.next h) 2))) .lf h36 = .ok (vq ((B0.getD A5 default).2.2)) ∧ (∃ x45 : List (Nat × Int) × Nat × Int × Nat, ∃ w54 : AV, ∃ h50 : Hp, (call 23 [(AV.ptr b102 0), (vq ((B0.getD A5 default).2.2))] h36 = .ok (AV.tuple [(AV.int .i64 x45.2.2.1), (vi x45.2.2.2)]) h50 ∧ ((evQ (.loadS (.const (AV.ptr b103 1))) .lf h50 = .ok wQ103_1 ∧ ((again (.loadS (.const (AV.ptr b103 1))) .lf wQ103_1 h50 = true ∧ again (.fieldAddr 1 (.const (AV.ptr b103 0))) .lf (AV.ptr b103 1) h50 = true ∧ again (.nilCheck (.const (AV.ptr b103 0))) .lf (AV.ptr b103 0) h50 = true ∧ again (.move (.const (AV.ptr b103 0))) .lf (AV.ptr b103 0) h50 = true ∧ again (.move (.const (AV.ptr b15 0))) .lf (AV.ptr b15 0) h50 = true ∧ True) ∧ (∃ x60 : List (Nat × Int) × Nat × List Nat, ∃ w64 : AV, ∃ w72 : AV, ∃ h68 : Hp, (call 27 [(AV.ptr b15 0)] h50 = .ok w64 h68 ∧ ((again (.loadS (.const (AV.ptr b103 1))) .lf wQ103_1 h68 = true ∧ again (.fieldAddr 1 (.const (AV.ptr b103 0))) .lf (AV.ptr b103 1) h68 = true ∧ again (.nilCheck (.const (AV.ptr b103 0))) .lf (AV.ptr b103 0) h68 = true ∧ again (.move (.const (AV.ptr b103 0))) .lf (AV.ptr b103 0) h68 = true ∧ True) ∧ (∃ x77 : Bool, ∃ h82 : Hp, (call 26 [w64, wQ103_1] h68 = .ok (AV.bool x77) h82 ∧ ((notB x77 = true → ((again (.un .not (.const (AV.bool x77))) .lf (AV.bool true) h82 = true ∧ True) ∧ KR [some wB0_1, some (AV.bool false), some (AV.ptr b15 0), some (AV.ptr b103 0), some (vi A5)] h82)) ∧ (notB x77 = false → ((again (.un .not (.const (AV.bool x77))) .lf (AV.bool false) h82 = true ∧ True) ∧ ((evQ (.bin .add (.const (vi A5)) (.const (vi 1))) .lf H0 = .ok (vi (A5 + 1)) ∧ KN [some wB0_1, some (AV.bool A2), some (AV.ptr b15 0), some (AV.ptr b103 0), some (vi (A5 + 1))] h82))))))))))))))))))))))))))))))))))) ∧ (ltI (Int.ofNat A5) (Int.ofNat B0.length) = false → KE 0 [some wB0_1, some (AV.bool A2), some (AV.ptr b102 0), some (AV.ptr b103 0), some (vi A5)] h))))) (fun ls h' => ∃ y, ls = ((fun (z : Nat × Bool × Nat × Nat × List Nat × List Int × List (Nat × Int) × Nat × AV × List AV × AV × List AV × Nat × AV × (Nat → Prop) × Hp) => [(0, wB0_1), (2, (AV.bool z.2.1)), (3, (AV.ptr z.2.2.2.2.2.2.2.2.2.2.2.2.1 0)), (4, (AV.ptr b103 0)), (5, (vi z.2.2.1))]) y).map (fun p => some p.2) ∧ (fun (z : Nat × Bool × Nat × Nat × List Nat × List Int × List (Nat × Int) × Nat × AV × List AV × AV × List AV × Nat × AV × (Nat → Prop) × Hp) (h' : Hp) => lawall_l1 B0 z.1 z.2.1 z.2.2.1 z.2.2.2.1 z.2.2.2.2.1 z.2.2.2.2.2.1 z.2.2.2.2.2.2.1 z.2.2.2.2.2.2.2.1 = some o ∧ (z.2.2.2.1 < 18446744073709551616) ∧ (Eng.Rows (rU .u64) z.2.2.2.2.2.2.2.2.2.2.2.2.2.2.1 z.2.2.2.2.2.2.2.2.2.2.2.2.2.2.2 z.2.2.2.2.2.2.2.2.2.1 z.2.2.2.2.1) ∧ (Eng.Rows (rZ .i64) z.2.2.2.2.2.2.2.2.2.2.2.2.2.2.1 z.2.2.2.2.2.2.2.2.2.2.2.2.2.2.2 z.2.2.2.2.2.2.2.2.2.2.2.1 z.2.2.2.2.2.1) ∧ (∀ p ∈ z.2.2.2.2.2.2.1, p.1 < 18446744073709551616) ∧ (z.2.2.2.2.2.2.2.1 < 18446744073709551616) ∧ (Up ZG_104 Zk_104 z.2.2.2.2.2.2.2.2.2.2.2.2.2.2.1 z.2.2.2.2.2.2.2.2.2.2.2.2.2.2.2) ∧ Eng.Sep [Cel b103 [(vq z.2.2.2.1), z.2.2.2.2.2.2.2.2.1, z.2.2.2.2.2.2.2.2.2.2.1], OwnO 1 z.2.2.2.2.2.2.2.2.1 z.2.2.2.2.1.length z.2.2.2.2.2.2.2.2.2.1, OwnO 1 z.2.2.2.2.2.2.2.2.2.2.1 z.2.2.2.2.2.1.length z.2.2.2.2.2.2.2.2.2.2.2.1, Cel z.2.2.2.2.2.2.2.2.2.2.2.2.1 [z.2.2.2.2.2.2.2.2.2.2.2.2.2.1, (vq z.2.2.2.2.2.2.2.1)], MapO z.2.2.2.2.2.2.2.2.2.2.2.2.2.1 z.2.2.2.2.2.2.1, Frz z.2.2.2.2.2.2.2.2.2.2.2.2.2.2.1 z.2.2.2.2.2.2.2.2.2.2.2.2.2.2.2, Frz G h0] h') y h' ∧ (fun (z : Nat × Bool × Nat × Nat × List Nat × List Int × List (Nat × Int) × Nat × AV × List AV × AV × List AV × Nat × AV × (Nat → Prop) × Hp) => z.1) y < (fun (z : Nat × Bool × Nat × Nat × List Nat × List Int × List (Nat × Int) × Nat × AV × List AV × AV × List AV × Nat × AV × (Nat → Prop) × Hp) => z.1) (n, A2, A5, Q103_0, Q103_1, Q103_2, Q102_0, Q102_1, wQ103_1, LQ103_1, wQ103_2, LQ103_2, b102, wQ102_0, G_104, k_104)) (fun i ls h' => ∃ y, ls = ((fun (z : Nat × Bool × Nat × Nat × List Nat × List Int × List (Nat × Int) × Nat × AV × List AV × AV × List AV × Nat × AV × (Nat → Prop) × Hp) => [(0, wB0_1), (2, (AV.bool z.2.1)), (3, (AV.ptr z.2.2.2.2.2.2.2.2.2.2.2.2.1 0)), (4, (AV.ptr b103 0)), (5, (vi z.2.2.1))]) y).map (fun p => some p.2) ∧ (fun (i : Nat) (z : Nat × Bool × Nat × Nat × List Nat × List Int × List (Nat × Int) × Nat × AV × List AV × AV × List AV × Nat × AV × (Nat → Prop) × Hp) (h' : Hp) => (i = 0) ∧ (i = 0 → o = LO.ex (z.2.1, z.2.2.1, z.2.2.2.1, z.2.2.2.2.1, z.2.2.2.2.2.1, z.2.2.2.2.2.2.1, z.2.2.2.2.2.2.2.1) ∧ (z.2.2.2.1 < 18446744073709551616) ∧ (Eng.Rows (rU .u64) z.2.2.2.2.2.2.2.2.2.2.2.2.2.2.1 z.2.2.2.2.2.2.2.2.2.2.2.2.2.2.2 z.2.2.2.2.2.2.2.2.2.1 z.2.2.2.2.1) ∧ (Eng.Rows (rZ .i64) z.2.2.2.2.2.2.2.2.2.2.2.2.2.2.1 z.2.2.2.2.2.2.2.2.2.2.2.2.2.2.2 z.2.2.2.2.2.2.2.2.2.2.2.1 z.2.2.2.2.2.1) ∧ (∀ p ∈ z.2.2.2.2.2.2.1, p.1 < 18446744073709551616) ∧ (z.2.2.2.2.2.2.2.1 < 18446744073709551616) ∧ (Up ZG_104 Zk_104 z.2.2.2.2.2.2.2.2.2.2.2.2.2.2.1 z.2.2.2.2.2.2.2.2.2.2.2.2.2.2.2) ∧ Eng.Sep [Cel b103 [(vq z.2.2.2.1), z.2.2.2.2.2.2.2.2.1, z.2.2.2.2.2.2.2.2.2.2.1], OwnO 1 z.2.2.2.2.2.2.2.2.1 z.2.2.2.2.1.length z.2.2.2.2.2.2.2.2.2.1, OwnO 1 z.2.2.2.2.2.2.2.2.2.2.1 z.2.2.2.2.2.1.length z.2.2.2.2.2.2.2.2.2.2.2.1, Cel z.2.2.2.2.2.2.2.2.2.2.2.2.1 [z.2.2.2.2.2.2.2.2.2.2.2.2.2.1, (vq z.2.2.2.2.2.2.2.1)], MapO z.2.2.2.2.2.2.2.2.2.2.2.2.2.1 z.2.2.2.2.2.2.1, Frz z.2.2.2.2.2.2.2.2.2.2.2.2.2.2.1 z.2.2.2.2.2.2.2.2.2.2.2.2.2.2.2, Frz G h0] h')) i y h') (fun ls h' => (fun (ls : List (Option AV)) (h' : Hp) => ∃ (rt : Bool) (v2 : AV), o = LO.rt rt ∧ ls[1]? = some (some v2) ∧ (v2 = (AV.bool rt))) ls h')) (by kernel_rfl) ?_
  refine ⟨sin_len fB0_2, ?_⟩
  refine ⟨fun c1 => ?_, fun c1 => ?_⟩
  · replace c1 := ltI_t c1
    replace hp := ift hp c1
    obtain ⟨csR3, hcR3, R3⟩ := sin_row fB0_2 c1
    obtain ⟨_, _, rfl, rfl, ⟨_, _, rfl, rfl, ⟨rfl, f2⟩⟩⟩ := hcR3
    refine ⟨sin_idx fB0_2 c1, ?_⟩
    refine ⟨row_loadA S (i := 6) rfl R3 (by simp), ?_⟩
    have S4 := cel_new S [(vi 0), (vi 0), (vq 0)] rfl
    obtain ⟨e5, qe5, se5⟩ := cel_storeN call S4 (i := 0) (o := 0) (n := 3) (xs := [(AV.int .i64 ((B0.getD A5 default).1)), (AV.int .i64 ((B0.getD A5 default).2.1)), (vq ((B0.getD A5 default).2.2))]) rfl (lb rfl) rfl (by decide) (all_cell rfl (all_cell rfl (all_cell rfl all_cell0)))
    refine ⟨e5, qe5, ?_⟩
    refine ⟨cel_load se5 (i := 0) rfl rfl, ?_⟩
    refine ⟨fun c7 => ?_, fun c7 => ?_⟩
    · replace c7 : modA (wrapA .i64 (Int.add (modA ((B0.getD A5 default).1) (Int.ofNat 9)) (Int.ofNat 9))) (Int.ofNat 9) < 4 := ltI_T c7
      replace hp := ift hp c7
      refine ⟨cel_load se5 (i := 0) rfl rfl, ?_⟩
      have S8 : Sep [Cel b102 [wQ102_0, (vq Q102_1)], MapO wQ102_0 Q102_0, Frz G_104 k_104, Cel (Hp.next h) [(AV.int .i64 ((B0.getD A5 default).1)), (AV.int .i64 ((B0.getD A5 default).2.1)), (vq ((B0.getD A5 default).2.2))], Cel b103 [(vq Q103_0), wQ103_1, wQ103_2], OwnO 1 wQ103_1 Q103_1.length LQ103_1, OwnO 1 wQ103_2 Q103_2.length LQ103_2, Frz G h0] e5.h := se5.sel [4, 5, 6, 0, 1, 2, 3, 7] (by decide) rfl
      have ⟨x9, hb10, hp⟩ := ob_inv hp
      obtain ⟨v14, h15, q16, w19, e17, f13, f20, f21, S18⟩ := h_hadd fQ102_0 fQ102_1_1 hb10 S8
      replace e17 := e17.symm
      subst e17
      refine ⟨x9, w19, h15, q16, ?_⟩
      refine ⟨cel_load S18 (i := 3) rfl rfl, ?_⟩
      have S24 : Sep [Cel b103 [(vq Q103_0), wQ103_1, wQ103_2], OwnO 1 wQ103_1 Q103_1.length LQ103_1, OwnO 1 wQ103_2 Q103_2.length LQ103_2, Frz G_104 k_104, Frz G h0, Cel b102 [w19, (vq x9.2.1)], MapO w19 x9.1, Cel (Hp.next h) [(AV.int .i64 ((B0.getD A5 default).1)), (AV.int .i64 ((B0.getD A5 default).2.1)), (vq ((B0.getD A5 default).2.2))]] h15 := S18.sel [4, 5, 6, 2, 7, 0, 1, 3] (by decide) rfl
      have ⟨x25, hb26, hp⟩ := ob_inv hp
      obtain ⟨v30, h31, q32, w36, w39, L38, L41, G27, k28, e33, f29, f35, f37, f40, u42, S34⟩ := h_radd fQ103_0_1 fQ103_1 fQ103_2 hb26 S24
      replace e33 := e33.symm
      subst e33
      refine ⟨x25, w36, w39, h31, q32, ?_⟩
      refine ⟨fun c44 => ?_, fun c44 => ?_⟩
      · replace c44 := eqI_f (notB_t c44)
        replace hp := ift hp c44
        refine ⟨_, (AV.bool false), (Option.some.inj hp).symm, rfl, ?_⟩
        exact rfl
      replace c44 := eqI_t (notB_f c44)
      replace hp := iff0 hp (nneO c44)
      refine ⟨fun c45 => ?_, fun c45 => ?_⟩
      · replace c45 := eqI_f (notB_t c45)
        replace hp := ift hp c45
        refine ⟨_, (AV.bool false), (Option.some.inj hp).symm, rfl, ?_⟩
        exact rfl
      replace c45 := eqI_t (notB_f c45)
      replace hp := iff0 hp (nneO c45)
      refine ⟨cel_load S34 (i := 0) rfl rfl, ?_⟩
      refine ⟨⟨again_of (cel_load S34 (i := 0) rfl rfl) (own_same S34 (i := 1) rfl), again_of (rfl) (avEq_ptr _ _), again_of (rfl) (avEq_ptr _ _), again_of (rfl) (avEq_ptr _ _), again_of (rfl) (avEq_ptr _ _), trivial⟩, ?_⟩
      have S46 : Sep [Cel b102 [w19, (vq x9.2.1)], MapO w19 x9.1, Frz G27 k28, Cel b103 [(vq x25.1), w36, w39], OwnO 1 w36 x25.2.1.length L38, OwnO 1 w39 x25.2.2.1.length L41, Frz G h0, Cel (Hp.next h) [(AV.int .i64 ((B0.getD A5 default).1)), (AV.int .i64 ((B0.getD A5 default).2.1)), (vq ((B0.getD A5 default).2.2))]] h31 := S34.sel [5, 6, 3, 0, 1, 2, 4, 7] (by decide) rfl
      have ⟨x47, hb48, hp⟩ := ob_inv hp
      obtain ⟨v54, h55, q56, w51, L53, w59, G49, k50, e57, f52, f60, f61, S58⟩ := h_hall f20 f21 hb48 S46
      replace e57 := e57.symm
      subst e57
      refine ⟨x47, w51, w59, h55, q56, ?_⟩
      refine ⟨⟨again_of (cel_load S58 (i := 5) rfl rfl) (own_same S58 (i := 6) rfl), again_of (rfl) (avEq_ptr _ _), again_of (rfl) (avEq_ptr _ _), again_of (rfl) (avEq_ptr _ _), trivial⟩, ?_⟩
      have ⟨x64, hb65, hp⟩ := ob_inv hp
      obtain ⟨v68, h69, q70, e71, S72⟩ := h_samenums (own_sinU S58 (i := 0) rfl flat_U f52 (by first | rfl | simp)) (own_sinU S58 (i := 6) rfl flat_U f37 (by first | rfl | simp)) hb65
      replace e71 := e71.symm
      subst e71
      have S74 := Sep.call S58 (news := []) S72
      refine ⟨x64, h69, q70, ?_⟩
      refine ⟨fun c75 => ?_, fun c75 => ?_⟩
      · have rc75 := c75
        replace c75 := notB_t c75
        replace hp := ift hp c75
        refine ⟨⟨again_of (congrArg (fun b => OV.ok (AV.bool b)) rc75) (avEq_bool _), trivial⟩, ?_⟩
        refine ⟨_, (AV.bool false), (Option.some.inj hp).symm, rfl, ?_⟩
        exact rfl
      have rc75 := c75
      replace c75 := notB_f c75
      replace hp := iff0 hp (nbT c75)
      refine ⟨⟨again_of (congrArg (fun b => OV.ok (AV.bool b)) rc75) (avEq_bool _), trivial⟩, ?_⟩
      have ⟨g76, hp⟩ := gd_inv hp
      refine ⟨q_add g76, ?_⟩
      have S77 : Sep [Cel b103 [(vq x25.1), w36, w39], OwnO 1 w36 x25.2.1.length L38, OwnO 1 w39 x25.2.2.1.length L41, Cel b102 [w59, (vq x47.2.1)], MapO w59 x47.1, Frz G27 k28, Frz G h0] h69 := S74.sel [5, 6, 7, 1, 2, 4, 8] (by decide) rfl
      refine ⟨(m, A2, A5 + 1, x25.1, x25.2.1, x25.2.2.1, x47.1, x47.2.1, w36, L38, w39, L41, b102, w59, G27, k28), rfl, ⟨hp, f35, f37, f40, f60, f61, (Up.trans fU_104 u42), S77⟩, by show m < n; omega⟩
    replace c7 : 4 ≤ modA (wrapA .i64 (Int.add (modA ((B0.getD A5 default).1) (Int.ofNat 9)) (Int.ofNat 9))) (Int.ofNat 9) := ltI_F c7
    replace hp := iff0 hp (nltZ c7)
    refine ⟨fun c8 => ?_, fun c8 => ?_⟩
    · replace c8 : modA (wrapA .i64 (Int.add (modA ((B0.getD A5 default).1) (Int.ofNat 9)) (Int.ofNat 9))) (Int.ofNat 9) < 6 := ltI_T c8
      replace hp := ift hp c8
      refine ⟨cel_load se5 (i := 0) rfl rfl, ?_⟩
      have S9 : Sep [Cel b102 [wQ102_0, (vq Q102_1)], MapO wQ102_0 Q102_0, Frz G_104 k_104, Cel (Hp.next h) [(AV.int .i64 ((B0.getD A5 default).1)), (AV.int .i64 ((B0.getD A5 default).2.1)), (vq ((B0.getD A5 default).2.2))], Cel b103 [(vq Q103_0), wQ103_1, wQ103_2], OwnO 1 wQ103_1 Q103_1.length LQ103_1, OwnO 1 wQ103_2 Q103_2.length LQ103_2, Frz G h0] e5.h := se5.sel [4, 5, 6, 0, 1, 2, 3, 7] (by decide) rfl
      have ⟨x10, hb11, hp⟩ := ob_inv hp
      obtain ⟨v14, h15, q16, w19, e17, f20, f21, S18⟩ := h_hget fQ102_0 fQ102_1_1 f2 hb11 S9
      replace e17 := e17.symm
      subst e17
      refine ⟨x10, w19, h15, q16, ?_⟩
      refine ⟨cel_load S18 (i := 3) rfl rfl, ?_⟩
      have S24 : Sep [Cel b103 [(vq Q103_0), wQ103_1, wQ103_2], OwnO 1 wQ103_1 Q103_1.length LQ103_1, OwnO 1 wQ103_2 Q103_2.length LQ103_2, Frz G_104 k_104, Frz G h0, Cel b102 [w19, (vq x10.2.1)], MapO w19 x10.1, Cel (Hp.next h) [(AV.int .i64 ((B0.getD A5 default).1)), (AV.int .i64 ((B0.getD A5 default).2.1)), (vq ((B0.getD A5 default).2.2))]] h15 := S18.sel [4, 5, 6, 2, 7, 0, 1, 3] (by decide) rfl
      have ⟨x25, hb26, hp⟩ := ob_inv hp
      obtain ⟨v29, h30, q31, w35, w38, L37, L40, G27, k28, e32, f34, f36, f39, u41, S33⟩ := h_rget fQ103_0_1 fQ103_1 fQ103_2 f2 hb26 S24
      replace e32 := e32.symm
      subst e32
      refine ⟨x25, w35, w38, h30, q31, ?_⟩
      refine ⟨fun c43 => ?_, fun c43 => ?_⟩
      · replace c43 : x10.2.2.1 ≠ x25.2.2.2.1 := eqI_F (notB_t c43)
        replace hp := ift hp c43
        refine ⟨_, (AV.bool false), (Option.some.inj hp).symm, rfl, ?_⟩
        exact rfl
      replace c43 : x10.2.2.1 = x25.2.2.2.1 := eqI_T (notB_f c43)
      replace hp := iff0 hp (nneO c43)
      refine ⟨fun c44 => ?_, fun c44 => ?_⟩
      · replace c44 := eqI_f (notB_t c44)
        replace hp := ift hp c44
        refine ⟨_, (AV.bool false), (Option.some.inj hp).symm, rfl, ?_⟩
        exact rfl
      replace c44 := eqI_t (notB_f c44)
      replace hp := iff0 hp (nneO c44)
      refine ⟨cel_load S33 (i := 0) rfl rfl, ?_⟩
      refine ⟨⟨again_of (cel_load S33 (i := 0) rfl rfl) (own_same S33 (i := 1) rfl), again_of (rfl) (avEq_ptr _ _), again_of (rfl) (avEq_ptr _ _), again_of (rfl) (avEq_ptr _ _), again_of (rfl) (avEq_ptr _ _), trivial⟩, ?_⟩
      have S45 : Sep [Cel b102 [w19, (vq x10.2.1)], MapO w19 x10.1, Frz G27 k28, Cel b103 [(vq x25.1), w35, w38], OwnO 1 w35 x25.2.1.length L37, OwnO 1 w38 x25.2.2.1.length L40, Frz G h0, Cel (Hp.next h) [(AV.int .i64 ((B0.getD A5 default).1)), (AV.int .i64 ((B0.getD A5 default).2.1)), (vq ((B0.getD A5 default).2.2))]] h30 := S33.sel [5, 6, 3, 0, 1, 2, 4, 7] (by decide) rfl
      have ⟨x46, hb47, hp⟩ := ob_inv hp
      obtain ⟨v53, h54, q55, w50, L52, w58, G48, k49, e56, f51, f59, f60, S57⟩ := h_hall f20 f21 hb47 S45
      replace e56 := e56.symm
      subst e56
      refine ⟨x46, w50, w58, h54, q55, ?_⟩
      refine ⟨⟨again_of (cel_load S57 (i := 5) rfl rfl) (own_same S57 (i := 6) rfl), again_of (rfl) (avEq_ptr _ _), again_of (rfl) (avEq_ptr _ _), again_of (rfl) (avEq_ptr _ _), trivial⟩, ?_⟩
      have ⟨x63, hb64, hp⟩ := ob_inv hp
      obtain ⟨v67, h68, q69, e70, S71⟩ := h_samenums (own_sinU S57 (i := 0) rfl flat_U f51 (by first | rfl | simp)) (own_sinU S57 (i := 6) rfl flat_U f36 (by first | rfl | simp)) hb64
      replace e70 := e70.symm
      subst e70
      have S73 := Sep.call S57 (news := []) S71
      refine ⟨x63, h68, q69, ?_⟩
      refine ⟨fun c74 => ?_, fun c74 => ?_⟩
      · have rc74 := c74
        replace c74 := notB_t c74
        replace hp := ift hp c74
        refine ⟨⟨again_of (congrArg (fun b => OV.ok (AV.bool b)) rc74) (avEq_bool _), trivial⟩, ?_⟩
        refine ⟨_, (AV.bool false), (Option.some.inj hp).symm, rfl, ?_⟩
        exact rfl
      have rc74 := c74
      replace c74 := notB_f c74
      replace hp := iff0 hp (nbT c74)
      refine ⟨⟨again_of (congrArg (fun b => OV.ok (AV.bool b)) rc74) (avEq_bool _), trivial⟩, ?_⟩
      have ⟨g75, hp⟩ := gd_inv hp
      refine ⟨q_add g75, ?_⟩
      have S76 : Sep [Cel b103 [(vq x25.1), w35, w38], OwnO 1 w35 x25.2.1.length L37, OwnO 1 w38 x25.2.2.1.length L40, Cel b102 [w58, (vq x46.2.1)], MapO w58 x46.1, Frz G27 k28, Frz G h0] h68 := S73.sel [5, 6, 7, 1, 2, 4, 8] (by decide) rfl
      refine ⟨(m, A2, A5 + 1, x25.1, x25.2.1, x25.2.2.1, x46.1, x46.2.1, w35, L37, w38, L40, b102, w58, G27, k28), rfl, ⟨hp, f34, f36, f39, f59, f60, (Up.trans fU_104 u41), S76⟩, by show m < n; omega⟩
    replace c8 : 6 ≤ modA (wrapA .i64 (Int.add (modA ((B0.getD A5 default).1) (Int.ofNat 9)) (Int.ofNat 9))) (Int.ofNat 9) := ltI_F c8
    replace hp := iff0 hp (nltZ c8)
    refine ⟨fun c9 => ?_, fun c9 => ?_⟩
    · replace c9 : modA (wrapA .i64 (Int.add (modA ((B0.getD A5 default).1) (Int.ofNat 9)) (Int.ofNat 9))) (Int.ofNat 9) < 8 := ltI_T c9
      replace hp := ift hp c9
      refine ⟨cel_load se5 (i := 0) rfl rfl, ?_⟩
      have S10 : Sep [Cel b102 [wQ102_0, (vq Q102_1)], MapO wQ102_0 Q102_0, Frz G_104 k_104, Cel (Hp.next h) [(AV.int .i64 ((B0.getD A5 default).1)), (AV.int .i64 ((B0.getD A5 default).2.1)), (vq ((B0.getD A5 default).2.2))], Cel b103 [(vq Q103_0), wQ103_1, wQ103_2], OwnO 1 wQ103_1 Q103_1.length LQ103_1, OwnO 1 wQ103_2 Q103_2.length LQ103_2, Frz G h0] e5.h := se5.sel [4, 5, 6, 0, 1, 2, 3, 7] (by decide) rfl
      have ⟨x11, hb12, hp⟩ := ob_inv hp
      obtain ⟨v15, h16, q17, w20, e18, f21, f22, S19⟩ := h_hclose fQ102_0 fQ102_1_1 f2 hb12 S10
      replace e18 := e18.symm
      subst e18
      refine ⟨x11, w20, h16, q17, ?_⟩
      refine ⟨cel_load S19 (i := 3) rfl rfl, ?_⟩
      have S25 : Sep [Cel b103 [(vq Q103_0), wQ103_1, wQ103_2], OwnO 1 wQ103_1 Q103_1.length LQ103_1, OwnO 1 wQ103_2 Q103_2.length LQ103_2, Frz G_104 k_104, Frz G h0, Cel b102 [w20, (vq x11.2.1)], MapO w20 x11.1, Cel (Hp.next h) [(AV.int .i64 ((B0.getD A5 default).1)), (AV.int .i64 ((B0.getD A5 default).2.1)), (vq ((B0.getD A5 default).2.2))]] h16 := S19.sel [4, 5, 6, 2, 7, 0, 1, 3] (by decide) rfl
      have ⟨x26, hb27, hp⟩ := ob_inv hp
      obtain ⟨v30, h31, q32, w36, w39, L38, L41, G28, k29, e33, f35, f37, f40, u42, S34⟩ := h_rclose fQ103_0_1 fQ103_1 fQ103_2 f2 hb27 S25
      replace e33 := e33.symm
      subst e33
      refine ⟨x26, w36, w39, h31, q32, ?_⟩
      refine ⟨fun c44 => ?_, fun c44 => ?_⟩
      · replace c44 : x11.2.2.1 ≠ x26.2.2.2.1 := eqI_F (notB_t c44)
        replace hp := ift hp c44
        refine ⟨_, (AV.bool false), (Option.some.inj hp).symm, rfl, ?_⟩
        exact rfl
      replace c44 : x11.2.2.1 = x26.2.2.2.1 := eqI_T (notB_f c44)
      replace hp := iff0 hp (nneO c44)
      refine ⟨fun c45 => ?_, fun c45 => ?_⟩
      · replace c45 := eqI_f (notB_t c45)
        replace hp := ift hp c45
        refine ⟨_, (AV.bool false), (Option.some.inj hp).symm, rfl, ?_⟩
        exact rfl
      replace c45 := eqI_t (notB_f c45)
      replace hp := iff0 hp (nneO c45)
      refine ⟨cel_load S34 (i := 0) rfl rfl, ?_⟩
      refine ⟨⟨again_of (cel_load S34 (i := 0) rfl rfl) (own_same S34 (i := 1) rfl), again_of (rfl) (avEq_ptr _ _), again_of (rfl) (avEq_ptr _ _), again_of (rfl) (avEq_ptr _ _), again_of (rfl) (avEq_ptr _ _), trivial⟩, ?_⟩
      have S46 : Sep [Cel b102 [w20, (vq x11.2.1)], MapO w20 x11.1, Frz G28 k29, Cel b103 [(vq x26.1), w36, w39], OwnO 1 w36 x26.2.1.length L38, OwnO 1 w39 x26.2.2.1.length L41, Frz G h0, Cel (Hp.next h) [(AV.int .i64 ((B0.getD A5 default).1)), (AV.int .i64 ((B0.getD A5 default).2.1)), (vq ((B0.getD A5 default).2.2))]] h31 := S34.sel [5, 6, 3, 0, 1, 2, 4, 7] (by decide) rfl
      have ⟨x47, hb48, hp⟩ := ob_inv hp
      obtain ⟨v54, h55, q56, w51, L53, w59, G49, k50, e57, f52, f60, f61, S58⟩ := h_hall f21 f22 hb48 S46
      replace e57 := e57.symm
      subst e57
      refine ⟨x47, w51, w59, h55, q56, ?_⟩
      refine ⟨⟨again_of (cel_load S58 (i := 5) rfl rfl) (own_same S58 (i := 6) rfl), again_of (rfl) (avEq_ptr _ _), again_of (rfl) (avEq_ptr _ _), again_of (rfl) (avEq_ptr _ _), trivial⟩, ?_⟩
      have ⟨x64, hb65, hp⟩ := ob_inv hp
      obtain ⟨v68, h69, q70, e71, S72⟩ := h_samenums (own_sinU S58 (i := 0) rfl flat_U f52 (by first | rfl | simp)) (own_sinU S58 (i := 6) rfl flat_U f37 (by first | rfl | simp)) hb65
      replace e71 := e71.symm
      subst e71
      have S74 := Sep.call S58 (news := []) S72
      refine ⟨x64, h69, q70, ?_⟩
      refine ⟨fun c75 => ?_, fun c75 => ?_⟩
      · have rc75 := c75
        replace c75 := notB_t c75
        replace hp := ift hp c75
        refine ⟨⟨again_of (congrArg (fun b => OV.ok (AV.bool b)) rc75) (avEq_bool _), trivial⟩, ?_⟩
        refine ⟨_, (AV.bool false), (Option.some.inj hp).symm, rfl, ?_⟩
        exact rfl
      have rc75 := c75
      replace c75 := notB_f c75
      replace hp := iff0 hp (nbT c75)
      refine ⟨⟨again_of (congrArg (fun b => OV.ok (AV.bool b)) rc75) (avEq_bool _), trivial⟩, ?_⟩
      have ⟨g76, hp⟩ := gd_inv hp
      refine ⟨q_add g76, ?_⟩
      have S77 : Sep [Cel b103 [(vq x26.1), w36, w39], OwnO 1 w36 x26.2.1.length L38, OwnO 1 w39 x26.2.2.1.length L41, Cel b102 [w59, (vq x47.2.1)], MapO w59 x47.1, Frz G28 k29, Frz G h0] h69 := S74.sel [5, 6, 7, 1, 2, 4, 8] (by decide) rfl
      refine ⟨(m, A2, A5 + 1, x26.1, x26.2.1, x26.2.2.1, x47.1, x47.2.1, w36, L38, w39, L41, b102, w59, G28, k29), rfl, ⟨hp, f35, f37, f40, f60, f61, (Up.trans fU_104 u42), S77⟩, by show m < n; omega⟩
    replace c9 : 8 ≤ modA (wrapA .i64 (Int.add (modA ((B0.getD A5 default).1) (Int.ofNat 9)) (Int.ofNat 9))) (Int.ofNat 9) := ltI_F c9
    replace hp := iff0 hp (nltZ c9)
    have S10 : Sep [Cel b102 [wQ102_0, (vq Q102_1)], MapO wQ102_0 Q102_0, Frz G_104 k_104, Cel (Hp.next h) [(AV.int .i64 ((B0.getD A5 default).1)), (AV.int .i64 ((B0.getD A5 default).2.1)), (vq ((B0.getD A5 default).2.2))], Cel b103 [(vq Q103_0), wQ103_1, wQ103_2], OwnO 1 wQ103_1 Q103_1.length LQ103_1, OwnO 1 wQ103_2 Q103_2.length LQ103_2, Frz G h0] e5.h := se5.sel [4, 5, 6, 0, 1, 2, 3, 7] (by decide) rfl
    have ⟨x11, hb12, hp⟩ := ob_inv hp
    obtain ⟨v19, h20, q21, b15, w16, w24, e22, f17, f18, f25, f26, S23⟩ := h_hcopy fQ102_0 fQ102_1_1 hb12 S10
    replace e22 := e22.symm
    subst e22
    refine ⟨x11, b15, w16, w24, h20, q21, ?_⟩
    have S29 : Sep [Cel b102 [w24, (vq x11.2.1)], MapO w24 x11.1, Frz G_104 k_104, Cel b15 [w16, (vq x11.2.2.2)], MapO w16 x11.2.2.1, Cel (Hp.next h) [(AV.int .i64 ((B0.getD A5 default).1)), (AV.int .i64 ((B0.getD A5 default).2.1)), (vq ((B0.getD A5 default).2.2))], Cel b103 [(vq Q103_0), wQ103_1, wQ103_2], OwnO 1 wQ103_1 Q103_1.length LQ103_1, OwnO 1 wQ103_2 Q103_2.length LQ103_2, Frz G h0] h20 := S23.sel [2, 3, 4, 0, 1, 5, 6, 7, 8, 9] (by decide) rfl
    have ⟨x30, hb31, hp⟩ := ob_inv hp
    obtain ⟨v35, h36, q37, w40, e38, f34, f41, f42, S39⟩ := h_hadd f25 f26 hb31 S29
    replace e38 := e38.symm
    subst e38
    refine ⟨x30, w40, h36, q37, ?_⟩
    refine ⟨cel_load S39 (i := 5) rfl rfl, ?_⟩
    have ⟨x45, hb46, hp⟩ := ob_inv hp
    obtain ⟨v49, h50, q51, w54, e52, f55, f56, S53⟩ := h_hclose f41 f42 f2 hb46 S39
    replace e52 := e52.symm
    subst e52
    refine ⟨x45, w54, h50, q51, ?_⟩
    refine ⟨cel_load S53 (i := 6) rfl rfl, ?_⟩
    refine ⟨⟨again_of (cel_load S53 (i := 6) rfl rfl) (own_same S53 (i := 7) rfl), again_of (rfl) (avEq_ptr _ _), again_of (rfl) (avEq_ptr _ _), again_of (rfl) (avEq_ptr _ _), again_of (rfl) (avEq_ptr _ _), trivial⟩, ?_⟩
    have S59 : Sep [Cel b15 [w16, (vq x11.2.2.2)], MapO w16 x11.2.2.1, Frz G_104 k_104, Cel b102 [w54, (vq x45.2.1)], MapO w54 x45.1, Cel (Hp.next h) [(AV.int .i64 ((B0.getD A5 default).1)), (AV.int .i64 ((B0.getD A5 default).2.1)), (vq ((B0.getD A5 default).2.2))], Cel b103 [(vq Q103_0), wQ103_1, wQ103_2], OwnO 1 wQ103_1 Q103_1.length LQ103_1, OwnO 1 wQ103_2 Q103_2.length LQ103_2, Frz G h0] h50 := S53.sel [3, 4, 2, 0, 1, 5, 6, 7, 8, 9] (by decide) rfl
    have ⟨x60, hb61, hp⟩ := ob_inv hp
    obtain ⟨v67, h68, q69, w64, L66, w72, G62, k63, e70, f65, f73, f74, S71⟩ := h_hall f17 f18 hb61 S59
    replace e70 := e70.symm
    subst e70
    refine ⟨x60, w64, w72, h68, q69, ?_⟩
    refine ⟨⟨again_of (cel_load S71 (i := 8) rfl rfl) (own_same S71 (i := 9) rfl), again_of (rfl) (avEq_ptr _ _), again_of (rfl) (avEq_ptr _ _), again_of (rfl) (avEq_ptr _ _), trivial⟩, ?_⟩
    have ⟨x77, hb78, hp⟩ := ob_inv hp
    obtain ⟨v81, h82, q83, e84, S85⟩ := h_samenums (own_sinU S71 (i := 0) rfl flat_U f65 (by first | rfl | simp)) (own_sinU S71 (i := 9) rfl flat_U fQ103_1 (by first | rfl | simp)) hb78
    replace e84 := e84.symm
    subst e84
    have S87 := Sep.call S71 (news := []) S85
    refine ⟨x77, h82, q83, ?_⟩
    refine ⟨fun c88 => ?_, fun c88 => ?_⟩
    · have rc88 := c88
      replace c88 := notB_t c88
      replace hp := ift hp c88
      refine ⟨⟨again_of (congrArg (fun b => OV.ok (AV.bool b)) rc88) (avEq_bool _), trivial⟩, ?_⟩
      refine ⟨_, (AV.bool false), (Option.some.inj hp).symm, rfl, ?_⟩
      exact rfl
    have rc88 := c88
    replace c88 := notB_f c88
    replace hp := iff0 hp (nbT c88)
    refine ⟨⟨again_of (congrArg (fun b => OV.ok (AV.bool b)) rc88) (avEq_bool _), trivial⟩, ?_⟩
    have ⟨g89, hp⟩ := gd_inv hp
    refine ⟨q_add g89, ?_⟩
    have S90 : Sep [Cel b103 [(vq Q103_0), wQ103_1, wQ103_2], OwnO 1 wQ103_1 Q103_1.length LQ103_1, OwnO 1 wQ103_2 Q103_2.length LQ103_2, Cel b15 [w72, (vq x60.2.1)], MapO w72 x60.1, Frz G_104 k_104, Frz G h0] h82 := S87.sel [8, 9, 10, 1, 2, 4, 11] (by decide) rfl
    refine ⟨(m, A2, A5 + 1, Q103_0, Q103_1, Q103_2, x60.1, x60.2.1, wQ103_1, LQ103_1, wQ103_2, LQ103_2, b15, w72, G_104, k_104), rfl, ⟨hp, fQ103_0_1, fQ103_1, fQ103_2, f73, f74, fU_104, S90⟩, by show m < n; omega⟩
  replace c1 := ltI_f c1
  replace hp := iff0 hp (nltO c1)
  refine ⟨(m, A2, A5, Q103_0, Q103_1, Q103_2, Q102_0, Q102_1, wQ103_1, LQ103_1, wQ103_2, LQ103_2, b102, wQ102_0, G_104, k_104), rfl, rfl, fun _ => ⟨(Option.some.inj hp).symm, fQ103_0_1, fQ103_1, fQ103_2, fQ102_0, fQ102_1_1, fU_104, S⟩⟩
theorem lawall_l1_t {call : CallT} {N : Nat} {wB0_1 : AV} {b103 : Nat} {ZG_104 : Nat → Prop} {Zk_104 : Hp} {G : Nat → Prop} {h0 : Hp} {B0 : List (Int × Int × Nat)} (fB0_2 : SIn (rP (rZ .i64) (rP (rZ .i64) (rU .u64))) G h0 wB0_1 B0) (h_begun : TrueS call 21) (h_new : NewS call) (h_hclose0 : ∀ h : Hp, call 23 [AV.nilPtr, (vq 1)] h = .ok (AV.tuple [(vi 0), (vi 1)]) h) (h_hclose : C_hclose call) (h_hget0 : ∀ h : Hp, call 24 [AV.nilPtr, (vq 1)] h = .ok (AV.tuple [(vi 0), (vi 1)]) h) (h_hget : C_hget call) (h_hadd0 : ∀ h : Hp, call 25 [AV.nilPtr, (vi 1)] h = .ok (AV.tuple [(vq 0), (vi 1)]) h) (h_hadd : C_hadd call) (h_samenums : C_samenums call) (h_hall0 : ∀ h : Hp, call 27 [AV.nilPtr] h = .ok AV.nilSlice h) (h_hall : C_hall call) (h_radd : C_radd call) (h_rget : C_rget call) (h_rclose : C_rclose call) (h_hcopy0 : ∀ h : Hp, call 31 [AV.nilPtr] h = .ok AV.nilPtr h) (h_hcopy : C_hcopy call) {o : LO (Bool × Nat × Nat × List Nat × List Int × List (Nat × Int) × Nat) (Bool)} {n : Nat} {A2 : Bool} {A5 : Nat} {Q103_0 : Nat} {Q103_1 : List Nat} {Q103_2 : List Int} {Q102_0 : List (Nat × Int)} {Q102_1 : Nat} {wQ103_1 : AV} {LQ103_1 : List AV} {wQ103_2 : AV} {LQ103_2 : List AV} {b102 : Nat} {wQ102_0 : AV} {G_104 : Nat → Prop} {k_104 : Hp} {h : Hp} (hi : (fun (z : Nat × Bool × Nat × Nat × List Nat × List Int × List (Nat × Int) × Nat × AV × List AV × AV × List AV × Nat × AV × (Nat → Prop) × Hp) (h' : Hp) => lawall_l1 B0 z.1 z.2.1 z.2.2.1 z.2.2.2.1 z.2.2.2.2.1 z.2.2.2.2.2.1 z.2.2.2.2.2.2.1 z.2.2.2.2.2.2.2.1 = some o ∧ (z.2.2.2.1 < 18446744073709551616) ∧ (Eng.Rows (rU .u64) z.2.2.2.2.2.2.2.2.2.2.2.2.2.2.1 z.2.2.2.2.2.2.2.2.2.2.2.2.2.2.2 z.2.2.2.2.2.2.2.2.2.1 z.2.2.2.2.1) ∧ (Eng.Rows (rZ .i64) z.2.2.2.2.2.2.2.2.2.2.2.2.2.2.1 z.2.2.2.2.2.2.2.2.2.2.2.2.2.2.2 z.2.2.2.2.2.2.2.2.2.2.2.1 z.2.2.2.2.2.1) ∧ (∀ p ∈ z.2.2.2.2.2.2.1, p.1 < 18446744073709551616) ∧ (z.2.2.2.2.2.2.2.1 < 18446744073709551616) ∧ (Up ZG_104 Zk_104 z.2.2.2.2.2.2.2.2.2.2.2.2.2.2.1 z.2.2.2.2.2.2.2.2.2.2.2.2.2.2.2) ∧ Eng.Sep [Cel b103 [(vq z.2.2.2.1), z.2.2.2.2.2.2.2.2.1, z.2.2.2.2.2.2.2.2.2.2.1], OwnO 1 z.2.2.2.2.2.2.2.2.1 z.2.2.2.2.1.length z.2.2.2.2.2.2.2.2.2.1, OwnO 1 z.2.2.2.2.2.2.2.2.2.2.1 z.2.2.2.2.2.1.length z.2.2.2.2.2.2.2.2.2.2.2.1, Cel z.2.2.2.2.2.2.2.2.2.2.2.2.1 [z.2.2.2.2.2.2.2.2.2.2.2.2.2.1, (vq z.2.2.2.2.2.2.2.1)], MapO z.2.2.2.2.2.2.2.2.2.2.2.2.2.1 z.2.2.2.2.2.2.1, Frz z.2.2.2.2.2.2.2.2.2.2.2.2.2.2.1 z.2.2.2.2.2.2.2.2.2.2.2.2.2.2.2, Frz G h0] h') (n, A2, A5, Q103_0, Q103_1, Q103_2, Q102_0, Q102_1, wQ103_1, LQ103_1, wQ103_2, LQ103_2, b102, wQ102_0, G_104, k_104) h) (hN : n < N) (hN' : 90000 < N) {t : T} (ht : Has ((fun (z : Nat × Bool × Nat × Nat × List Nat × List Int × List (Nat × Int) × Nat × AV × List AV × AV × List AV × Nat × AV × (Nat → Prop) × Hp) => [(0, wB0_1), (2, (AV.bool z.2.1)), (3, (AV.ptr z.2.2.2.2.2.2.2.2.2.2.2.2.1 0)), (4, (AV.ptr b103 0)), (5, (vi z.2.2.1))]) (n, A2, A5, Q103_0, Q103_1, Q103_2, Q102_0, Q102_1, wQ103_1, LQ103_1, wQ103_2, LQ103_2, b102, wQ102_0, G_104, k_104)) t) :
    (∃ i y t' h', evC call N (.loop lawall_l1C) t h = .exit i t' h' ∧ Has ((fun (z : Nat × Bool × Nat × Nat × List Nat × List Int × List (Nat × Int) × Nat × AV × List AV × AV × List AV × Nat × AV × (Nat → Prop) × Hp) => [(0, wB0_1), (2, (AV.bool z.2.1)), (3, (AV.ptr z.2.2.2.2.2.2.2.2.2.2.2.2.1 0)), (4, (AV.ptr b103 0)), (5, (vi z.2.2.1))]) y) t' ∧ (fun (i : Nat) (z : Nat × Bool × Nat × Nat × List Nat × List Int × List (Nat × Int) × Nat × AV × List AV × AV × List AV × Nat × AV × (Nat → Prop) × Hp) (h' : Hp) => (i = 0) ∧ (i = 0 → o = LO.ex (z.2.1, z.2.2.1, z.2.2.2.1, z.2.2.2.2.1, z.2.2.2.2.2.1, z.2.2.2.2.2.2.1, z.2.2.2.2.2.2.2.1) ∧ (z.2.2.2.1 < 18446744073709551616) ∧ (Eng.Rows (rU .u64) z.2.2.2.2.2.2.2.2.2.2.2.2.2.2.1 z.2.2.2.2.2.2.2.2.2.2.2.2.2.2.2 z.2.2.2.2.2.2.2.2.2.1 z.2.2.2.2.1) ∧ (Eng.Rows (rZ .i64) z.2.2.2.2.2.2.2.2.2.2.2.2.2.2.1 z.2.2.2.2.2.2.2.2.2.2.2.2.2.2.2 z.2.2.2.2.2.2.2.2.2.2.2.1 z.2.2.2.2.2.1) ∧ (∀ p ∈ z.2.2.2.2.2.2.1, p.1 < 18446744073709551616) ∧ (z.2.2.2.2.2.2.2.1 < 18446744073709551616) ∧ (Up ZG_104 Zk_104 z.2.2.2.2.2.2.2.2.2.2.2.2.2.2.1 z.2.2.2.2.2.2.2.2.2.2.2.2.2.2.2) ∧ Eng.Sep [Cel b103 [(vq z.2.2.2.1), z.2.2.2.2.2.2.2.2.1, z.2.2.2.2.2.2.2.2.2.2.1], OwnO 1 z.2.2.2.2.2.2.2.2.1 z.2.2.2.2.1.length z.2.2.2.2.2.2.2.2.2.1, OwnO 1 z.2.2.2.2.2.2.2.2.2.2.1 z.2.2.2.2.2.1.length z.2.2.2.2.2.2.2.2.2.2.2.1, Cel z.2.2.2.2.2.2.2.2.2.2.2.2.1 [z.2.2.2.2.2.2.2.2.2.2.2.2.2.1, (vq z.2.2.2.2.2.2.2.1)], MapO z.2.2.2.2.2.2.2.2.2.2.2.2.2.1 z.2.2.2.2.2.2.1, Frz z.2.2.2.2.2.2.2.2.2.2.2.2.2.2.1 z.2.2.2.2.2.2.2.2.2.2.2.2.2.2.2, Frz G h0] h')) i y h') ∨ (∃ t' h', evC call N (.loop lawall_l1C) t h = .ret t' h' ∧ (fun (ls : List (Option AV)) (h' : Hp) => ∃ (rt : Bool) (v2 : AV), o = LO.rt rt ∧ ls[1]? = some (some v2) ∧ (v2 = (AV.bool rt))) (slots [0, 2, 3, 4, 5] t') h') :=
  loop_st (fun (z : Nat × Bool × Nat × Nat × List Nat × List Int × List (Nat × Int) × Nat × AV × List AV × AV × List AV × Nat × AV × (Nat → Prop) × Hp) => [(0, wB0_1), (2, (AV.bool z.2.1)), (3, (AV.ptr z.2.2.2.2.2.2.2.2.2.2.2.2.1 0)), (4, (AV.ptr b103 0)), (5, (vi z.2.2.1))]) [0, 2, 3, 4, 5] (fun _ => rfl) (fun (z : Nat × Bool × Nat × Nat × List Nat × List Int × List (Nat × Int) × Nat × AV × List AV × AV × List AV × Nat × AV × (Nat → Prop) × Hp) (h' : Hp) => lawall_l1 B0 z.1 z.2.1 z.2.2.1 z.2.2.2.1 z.2.2.2.2.1 z.2.2.2.2.2.1 z.2.2.2.2.2.2.1 z.2.2.2.2.2.2.2.1 = some o ∧ (z.2.2.2.1 < 18446744073709551616) ∧ (Eng.Rows (rU .u64) z.2.2.2.2.2.2.2.2.2.2.2.2.2.2.1 z.2.2.2.2.2.2.2.2.2.2.2.2.2.2.2 z.2.2.2.2.2.2.2.2.2.1 z.2.2.2.2.1) ∧ (Eng.Rows (rZ .i64) z.2.2.2.2.2.2.2.2.2.2.2.2.2.2.1 z.2.2.2.2.2.2.2.2.2.2.2.2.2.2.2 z.2.2.2.2.2.2.2.2.2.2.2.1 z.2.2.2.2.2.1) ∧ (∀ p ∈ z.2.2.2.2.2.2.1, p.1 < 18446744073709551616) ∧ (z.2.2.2.2.2.2.2.1 < 18446744073709551616) ∧ (Up ZG_104 Zk_104 z.2.2.2.2.2.2.2.2.2.2.2.2.2.2.1 z.2.2.2.2.2.2.2.2.2.2.2.2.2.2.2) ∧ Eng.Sep [Cel b103 [(vq z.2.2.2.1), z.2.2.2.2.2.2.2.2.1, z.2.2.2.2.2.2.2.2.2.2.1], OwnO 1 z.2.2.2.2.2.2.2.2.1 z.2.2.2.2.1.length z.2.2.2.2.2.2.2.2.2.1, OwnO 1 z.2.2.2.2.2.2.2.2.2.2.1 z.2.2.2.2.2.1.length z.2.2.2.2.2.2.2.2.2.2.2.1, Cel z.2.2.2.2.2.2.2.2.2.2.2.2.1 [z.2.2.2.2.2.2.2.2.2.2.2.2.2.1, (vq z.2.2.2.2.2.2.2.1)], MapO z.2.2.2.2.2.2.2.2.2.2.2.2.2.1 z.2.2.2.2.2.2.1, Frz z.2.2.2.2.2.2.2.2.2.2.2.2.2.2.1 z.2.2.2.2.2.2.2.2.2.2.2.2.2.2.2, Frz G h0] h') (fun (z : Nat × Bool × Nat × Nat × List Nat × List Int × List (Nat × Int) × Nat × AV × List AV × AV × List AV × Nat × AV × (Nat → Prop) × Hp) => z.1) (fun (i : Nat) (z : Nat × Bool × Nat × Nat × List Nat × List Int × List (Nat × Int) × Nat × AV × List AV × AV × List AV × Nat × AV × (Nat → Prop) × Hp) (h' : Hp) => (i = 0) ∧ (i = 0 → o = LO.ex (z.2.1, z.2.2.1, z.2.2.2.1, z.2.2.2.2.1, z.2.2.2.2.2.1, z.2.2.2.2.2.2.1, z.2.2.2.2.2.2.2.1) ∧ (z.2.2.2.1 < 18446744073709551616) ∧ (Eng.Rows (rU .u64) z.2.2.2.2.2.2.2.2.2.2.2.2.2.2.1 z.2.2.2.2.2.2.2.2.2.2.2.2.2.2.2 z.2.2.2.2.2.2.2.2.2.1 z.2.2.2.2.1) ∧ (Eng.Rows (rZ .i64) z.2.2.2.2.2.2.2.2.2.2.2.2.2.2.1 z.2.2.2.2.2.2.2.2.2.2.2.2.2.2.2 z.2.2.2.2.2.2.2.2.2.2.2.1 z.2.2.2.2.2.1) ∧ (∀ p ∈ z.2.2.2.2.2.2.1, p.1 < 18446744073709551616) ∧ (z.2.2.2.2.2.2.2.1 < 18446744073709551616) ∧ (Up ZG_104 Zk_104 z.2.2.2.2.2.2.2.2.2.2.2.2.2.2.1 z.2.2.2.2.2.2.2.2.2.2.2.2.2.2.2) ∧ Eng.Sep [Cel b103 [(vq z.2.2.2.1), z.2.2.2.2.2.2.2.2.1, z.2.2.2.2.2.2.2.2.2.2.1], OwnO 1 z.2.2.2.2.2.2.2.2.1 z.2.2.2.2.1.length z.2.2.2.2.2.2.2.2.2.1, OwnO 1 z.2.2.2.2.2.2.2.2.2.2.1 z.2.2.2.2.2.1.length z.2.2.2.2.2.2.2.2.2.2.2.1, Cel z.2.2.2.2.2.2.2.2.2.2.2.2.1 [z.2.2.2.2.2.2.2.2.2.2.2.2.2.1, (vq z.2.2.2.2.2.2.2.1)], MapO z.2.2.2.2.2.2.2.2.2.2.2.2.2.1 z.2.2.2.2.2.2.1, Frz z.2.2.2.2.2.2.2.2.2.2.2.2.2.2.1 z.2.2.2.2.2.2.2.2.2.2.2.2.2.2.2, Frz G h0] h')) (fun (ls : List (Option AV)) (h' : Hp) => ∃ (rt : Bool) (v2 : AV), o = LO.rt rt ∧ ls[1]? = some (some v2) ∧ (v2 = (AV.bool rt))) (fun ⟨n, A2, A5, Q103_0, Q103_1, Q103_2, Q102_0, Q102_1, wQ103_1, LQ103_1, wQ103_2, LQ103_2, b102, wQ102_0, G_104, k_104⟩ t h hi => lawall_l1_body fB0_2 h_begun h_new h_hclose0 h_hclose h_hget0 h_hget h_hadd0 h_hadd h_samenums h_hall0 h_hall h_radd h_rget h_rclose h_hcopy0 h_hcopy hN' hi) (n, A2, A5, Q103_0, Q103_1, Q103_2, Q102_0, Q102_1, wQ103_1, LQ103_1, wQ103_2, LQ103_2, b102, wQ102_0, G_104, k_104) h hi hN t ht
noncomputable def lawall_p (l : List (Int × Int × Nat)) : Option (Bool) :=
  (if 50 < l.length then (some true) else
    (ob (lawall_l1 l 90000 false 0 0 ([] : List Nat) ([] : List Int) ([] : List (Nat × Int)) 0) fun o13 =>
    (LO.on o13 (fun s_o13 => (some true)) (fun y20 =>
    (some y20)))))
theorem lawall_w {call : CallT} {N : Nat} {h : Hp} {wl_1 : AV} {l : List (Int × Int × Nat)} (fl_2 : SIn (rP (rZ .i64) (rP (rZ .i64) (rU .u64))) (Low h) h wl_1 l) (h_begun : TrueS call 21) (h_new : NewS call) (h_hclose0 : ∀ h : Hp, call 23 [AV.nilPtr, (vq 1)] h = .ok (AV.tuple [(vi 0), (vi 1)]) h) (h_hclose : C_hclose call) (h_hget0 : ∀ h : Hp, call 24 [AV.nilPtr, (vq 1)] h = .ok (AV.tuple [(vi 0), (vi 1)]) h) (h_hget : C_hget call) (h_hadd0 : ∀ h : Hp, call 25 [AV.nilPtr, (vi 1)] h = .ok (AV.tuple [(vq 0), (vi 1)]) h) (h_hadd : C_hadd call) (h_samenums : C_samenums call) (h_hall0 : ∀ h : Hp, call 27 [AV.nilPtr] h = .ok AV.nilSlice h) (h_hall : C_hall call) (h_radd : C_radd call) (h_rget : C_rget call) (h_rclose : C_rclose call) (h_hcopy0 : ∀ h : Hp, call 31 [AV.nilPtr] h = .ok AV.nilPtr h) (h_hcopy : C_hcopy call) (hN : 90000 < N) {r : Bool} (hp : lawall_p l = some r) :
    ∃ rv rh, evF1 (progS Try.prog (compDrawn Try.prog)) N call 10 [wl_1] h = .ok rv rh ∧ (fun (rv : AV) (rh : Hp) => rv = (AV.bool r)) rv rh := by
  have S : Eng.Sep [Frz (Low h) h] h := Sep.start h
  unfold lawall_p at hp
  refine fwalk_ok (K := (fun (rv : AV) (rh : Hp) => rv = (AV.bool r))) (o := (.eff 1 (AV.bool true) h (.tell 2 (vi l.length) (.fork 0 .fin (.eff 0 (AV.ptr (Hp.next (hpush h (.mp [] 0 0))) 0) (hpush (hpush h (.mp [] 0 0)) (mkCells [(AV.map (Hp.next h)), (vq 0)] 2)) (.dis 5 (.exi 0 fun (A2o13 : Bool) => (.exi 0 fun (A5o13 : Nat) => (.exi 0 fun (Q103_0o13 : Nat) => (.exi 0 fun (Q103_1o13 : List Nat) => (.exi 0 fun (Q103_2o13 : List Int) => (.exi 0 fun (Q102_0o13 : List (Nat × Int)) => (.exi 0 fun (Q102_1o13 : Nat) => (.exi 0 fun (wQ103_1o13 : AV) => (.exi 0 fun (wQ103_2o13 : AV) => (.exi 0 fun (b102o13 : Nat) => (.exi 0 fun (wQ102_0o13 : AV) => (.exi 0 fun (t16 : T) => (.exi 0 fun (h17 : Hp) => (.lp 0 (.exit 0 (ovT [(0, wl_1), (2, (AV.bool A2o13)), (3, (AV.ptr b102o13 0)), (4, (AV.ptr (Hp.next (hpush (hpush h (.mp [] 0 0)) (mkCells [(AV.map (Hp.next h)), (vq 0)] 2))) 0)), (5, (vi A5o13))] t16) h17) (.eff 2 (AV.tuple [(vq 0), (vi 1)]) h17 (.eff 6 (AV.tuple [(vi 0), (vi 1)]) h17 (.eff 6 (AV.tuple [(vi 0), (vi 1)]) h17 (.eff 17 AV.nilSlice h17 (.eff 5 AV.nilPtr h17 .fin))))))))))))))))))) (.exi 0 fun (y20 : Bool) => (.exi 0 fun (v2o13 : AV) => (.exi 0 fun (t18 : T) => (.exi 0 fun (h19 : Hp) => (.lp 0 (.ret (ovT [(2, v2o13)] t18) h19) .fin))))))))))) (p := (fun (KK : AV → Hp → Prop) => (call 21 [] h = .ok (AV.bool true) h ∧ ((evQ (.lenL (.const wl_1)) .lf H0 = .ok (vi l.length) ∧ ((ltI (Int.ofNat 50) (Int.ofNat l.length) = true → KK (AV.bool true) h) ∧ (ltI (Int.ofNat 50) (Int.ofNat l.length) = false → (call 22 [] h = .ok (AV.ptr (Hp.next (hpush h (.mp [] 0 0))) 0) (hpush (hpush h (.mp [] 0 0)) (mkCells [(AV.map (Hp.next h)), (vq 0)] 2)) ∧ ((∃ A2o13 : Bool, ∃ A5o13 : Nat, ∃ Q103_0o13 : Nat, ∃ Q103_1o13 : List Nat, ∃ Q103_2o13 : List Int, ∃ Q102_0o13 : List (Nat × Int), ∃ Q102_1o13 : Nat, ∃ wQ103_1o13 : AV, ∃ wQ103_2o13 : AV, ∃ b102o13 : Nat, ∃ wQ102_0o13 : AV, ∃ t16 : T, ∃ h17 : Hp, (evC call N (.loop lawall_l1C) (ovT [(0, wl_1), (2, (AV.bool false)), (3, (AV.ptr (Hp.next (hpush h (.mp [] 0 0))) 0)), (4, (AV.ptr (Hp.next (hpush (hpush h (.mp [] 0 0)) (mkCells [(AV.map (Hp.next h)), (vq 0)] 2))) 0)), (5, (vi 0)), (28, (AV.bool true)), (29, (AV.bool false)), (30, wl_1), (31, (vi l.length)), (32, (AV.bool false)), (33, (AV.ptr (Hp.next (hpush h (.mp [] 0 0))) 0)), (34, (AV.agg [(vq 0), AV.nilSlice, AV.nilSlice])), (35, (AV.ptr (Hp.next (hpush (hpush h (.mp [] 0 0)) (mkCells [(AV.map (Hp.next h)), (vq 0)] 2))) 0))] .lf) (hpush (hpush (hpush h (.mp [] 0 0)) (mkCells [(AV.map (Hp.next h)), (vq 0)] 2)) (mkCells [(vq 0), AV.nilSlice, AV.nilSlice] 3)) = (.exit 0 (ovT [(0, wl_1), (2, (AV.bool A2o13)), (3, (AV.ptr b102o13 0)), (4, (AV.ptr (Hp.next (hpush (hpush h (.mp [] 0 0)) (mkCells [(AV.map (Hp.next h)), (vq 0)] 2))) 0)), (5, (vi A5o13))] t16) h17) ∧ True ∧ (call 25 [AV.nilPtr, (vi 1)] h17 = .ok (AV.tuple [(vq 0), (vi 1)]) h17 ∧ (call 24 [AV.nilPtr, (vq 1)] h17 = .ok (AV.tuple [(vi 0), (vi 1)]) h17 ∧ (call 23 [AV.nilPtr, (vq 1)] h17 = .ok (AV.tuple [(vi 0), (vi 1)]) h17 ∧ (call 27 [AV.nilPtr] h17 = .ok AV.nilSlice h17 ∧ (call 31 [AV.nilPtr] h17 = .ok AV.nilPtr h17 ∧ KK (AV.bool true) h17))))))) ∨ (∃ y20 : Bool, ∃ v2o13 : AV, ∃ t18 : T, ∃ h19 : Hp, (evC call N (.loop lawall_l1C) (ovT [(0, wl_1), (2, (AV.bool false)), (3, (AV.ptr (Hp.next (hpush h (.mp [] 0 0))) 0)), (4, (AV.ptr (Hp.next (hpush (hpush h (.mp [] 0 0)) (mkCells [(AV.map (Hp.next h)), (vq 0)] 2))) 0)), (5, (vi 0)), (28, (AV.bool true)), (29, (AV.bool false)), (30, wl_1), (31, (vi l.length)), (32, (AV.bool false)), (33, (AV.ptr (Hp.next (hpush h (.mp [] 0 0))) 0)), (34, (AV.agg [(vq 0), AV.nilSlice, AV.nilSlice])), (35, (AV.ptr (Hp.next (hpush (hpush h (.mp [] 0 0)) (mkCells [(AV.map (Hp.next h)), (vq 0)] 2))) 0))] .lf) (hpush (hpush (hpush h (.mp [] 0 0)) (mkCells [(AV.map (Hp.next h)), (vq 0)] 2)) (mkCells [(vq 0), AV.nilSlice, AV.nilSlice] 3)) = (.ret (ovT [(2, v2o13)] t18) h19) ∧ True ∧ KK v2o13 h19)))))))))) (fun (rv : AV) (rh : Hp) => rv = (AV.bool r))) (by kernel_rfl) ?_
  refine ⟨h_begun _, ?_⟩
  refine ⟨sin_len fl_2, ?_⟩
  refine ⟨fun c1 => ?_, fun c1 => ?_⟩
  · replace c1 := ltI_t c1
    replace hp := ift hp c1
    obtain rfl := Option.some.inj hp
    exact rfl
  replace c1 := ltI_f c1
  replace hp := iff0 hp (nltO c1)
  refine ⟨h_new _, ?_⟩
  have S2 := map_new S
  have S3 := cel_new S2 [(AV.map (Hp.next h)), (vq 0)] rfl
  have S4 := cel_new S3 [(vq 0), AV.nilSlice, AV.nilSlice] rfl
  have S5 := S4.empty
  have S6 := own_nil S5 1
  have S7 := S6.empty
  have S8 := own_nil S7 1
  have S9 : Sep [Frz (fun _ => False) (hpush (hpush (hpush h (.mp [] 0 0)) (mkCells [(AV.map (Hp.next h)), (vq 0)] 2)) (mkCells [(vq 0), AV.nilSlice, AV.nilSlice] 3)), Frz (fun _ => False) (hpush (hpush (hpush h (.mp [] 0 0)) (mkCells [(AV.map (Hp.next h)), (vq 0)] 2)) (mkCells [(vq 0), AV.nilSlice, AV.nilSlice] 3)), OwnO 1 AV.nilSlice (([] : List Int).length) [], OwnO 1 AV.nilSlice (([] : List Nat).length) [], Cel (Hp.next (hpush (hpush h (.mp [] 0 0)) (mkCells [(AV.map (Hp.next h)), (vq 0)] 2))) [(vq 0), AV.nilSlice, AV.nilSlice], Cel (Hp.next (hpush h (.mp [] 0 0))) [(AV.map (Hp.next h)), (vq 0)], MapO (AV.map (Hp.next h)) ([] : List (Nat × Int)), Frz (Low h) h] (hpush (hpush (hpush h (.mp [] 0 0)) (mkCells [(AV.map (Hp.next h)), (vq 0)] 2)) (mkCells [(vq 0), AV.nilSlice, AV.nilSlice] 3)) := S8.sel [3, 1, 0, 2, 4, 5, 6, 7] (by decide) rfl
  obtain ⟨G10, uG10, vG10, sG10⟩ := Sep.mergeX S9
  have S12 : Sep [Cel (Hp.next (hpush (hpush h (.mp [] 0 0)) (mkCells [(AV.map (Hp.next h)), (vq 0)] 2))) [(vq 0), AV.nilSlice, AV.nilSlice], OwnO 1 AV.nilSlice (([] : List Nat).length) [], OwnO 1 AV.nilSlice (([] : List Int).length) [], Cel (Hp.next (hpush h (.mp [] 0 0))) [(AV.map (Hp.next h)), (vq 0)], MapO (AV.map (Hp.next h)) ([] : List (Nat × Int)), Frz G10 (hpush (hpush (hpush h (.mp [] 0 0)) (mkCells [(AV.map (Hp.next h)), (vq 0)] 2)) (mkCells [(vq 0), AV.nilSlice, AV.nilSlice] 3)), Frz (Low h) h] (hpush (hpush (hpush h (.mp [] 0 0)) (mkCells [(AV.map (Hp.next h)), (vq 0)] 2)) (mkCells [(vq 0), AV.nilSlice, AV.nilSlice] 3)) := sG10.sel [3, 2, 1, 4, 5, 0, 6] (by decide) rfl
  have ⟨o13, hb14, hp⟩ := ob_inv hp
  rcases lawall_l1_t fl_2 h_begun h_new h_hclose0 h_hclose h_hget0 h_hget h_hadd0 h_hadd h_samenums h_hall0 h_hall h_radd h_rget h_rclose h_hcopy0 h_hcopy (o := o13) (B0 := l) (n := 90000) (A2 := false) (A5 := 0) (Q103_0 := 0) (Q103_1 := ([] : List Nat)) (Q103_2 := ([] : List Int)) (Q102_0 := ([] : List (Nat × Int))) (Q102_1 := 0) (wQ103_1 := AV.nilSlice) (LQ103_1 := []) (wQ103_2 := AV.nilSlice) (LQ103_2 := []) (b102 := Hp.next (hpush h (.mp [] 0 0))) (wQ102_0 := (AV.map (Hp.next h))) (G_104 := G10) (k_104 := hpush (hpush (hpush h (.mp [] 0 0)) (mkCells [(AV.map (Hp.next h)), (vq 0)] 2)) (mkCells [(vq 0), AV.nilSlice, AV.nilSlice] 3)) ⟨hb14, (show 0 < 18446744073709551616 by decide), (Rows.up uG10 (own_rows_nil _ _ _)), (Rows.up vG10 (own_rows_nil _ _ _)), (by simp), (show 0 < 18446744073709551616 by decide), (Up.refl _ _), S12⟩ hN hN (t := (ovT [(0, wl_1), (2, (AV.bool false)), (3, (AV.ptr (Hp.next (hpush h (.mp [] 0 0))) 0)), (4, (AV.ptr (Hp.next (hpush (hpush h (.mp [] 0 0)) (mkCells [(AV.map (Hp.next h)), (vq 0)] 2))) 0)), (5, (vi 0)), (28, (AV.bool true)), (29, (AV.bool false)), (30, wl_1), (31, (vi l.length)), (32, (AV.bool false)), (33, (AV.ptr (Hp.next (hpush h (.mp [] 0 0))) 0)), (34, (AV.agg [(vq 0), AV.nilSlice, AV.nilSlice])), (35, (AV.ptr (Hp.next (hpush (hpush h (.mp [] 0 0)) (mkCells [(AV.map (Hp.next h)), (vq 0)] 2))) 0))] .lf)) (show slots [0, 2, 3, 4, 5] _ = [some wl_1, some (AV.bool false), some (AV.ptr (Hp.next (hpush h (.mp [] 0 0))) 0), some (AV.ptr (Hp.next (hpush (hpush h (.mp [] 0 0)) (mkCells [(AV.map (Hp.next h)), (vq 0)] 2))) 0), some (vi 0)] by kernel_rfl) with ⟨io13, ⟨_, A2o13, A5o13, Q103_0o13, Q103_1o13, Q103_2o13, Q102_0o13, Q102_1o13, wQ103_1o13, LQ103_1o13, wQ103_2o13, LQ103_2o13, b102o13, wQ102_0o13, G_104o13, k_104o13⟩, t16, h17, qo13, wo13, zo13⟩ | ⟨t18, h19, qo13, zo13⟩
  · obtain ⟨jo13, zo13⟩ := zo13
    subst jo13
    replace zo13 := zo13 rfl
    obtain ⟨uo13, fQ103_0_1o13, fQ103_1o13, fQ103_2o13, fQ102_0o13, fQ102_1_1o13, fU_104o13, So13⟩ := zo13
    replace uo13 := uo13.symm
    subst uo13
    replace hp := LO.on_ex.symm.trans hp
    try dsimp only at hp
    refine Or.inl ⟨A2o13, A5o13, Q103_0o13, Q103_1o13, Q103_2o13, Q102_0o13, Q102_1o13, wQ103_1o13, wQ103_2o13, b102o13, wQ102_0o13, t16, h17, (qo13.trans (congrArg (fun t => RS.exit 0 t h17) (ovT_eq wo13).symm)), trivial, ?_⟩
    refine ⟨h_hadd0 _, ?_⟩
    refine ⟨h_hget0 _, ?_⟩
    refine ⟨h_hclose0 _, ?_⟩
    refine ⟨h_hall0 _, ?_⟩
    refine ⟨h_hcopy0 _, ?_⟩
    obtain rfl := Option.some.inj hp
    exact rfl
  obtain ⟨y20, v2o13, uo13, go13_2, Ko13⟩ := zo13
  replace uo13 := uo13.symm
  subst uo13
  replace go13_2 : tget (pathOf 2) t18 = some v2o13 := Option.some.inj go13_2
  replace hp := LO.on_rt.symm.trans hp
  try dsimp only at hp
  refine Or.inr ⟨y20, v2o13, t18, h19, (qo13.trans (congrArg (fun t => RS.ret t h19) (ovT_eq (l := [(2, v2o13)]) (by show [tget (pathOf 2) t18] = _; rw [go13_2]; rfl)).symm)), trivial, ?_⟩
  obtain rfl := Option.some.inj hp
  exact Ko13
end Go.Proofs.Ytpelnanckmjoaaa
end
section
set_option linter.unusedVariables false
set_option linter.unusedSimpArgs false
namespace Go.Proofs.Ytpelnanckmjoaaa
open Go Eng
abbrev Tb := List (Nat × Int)
abbrev Ks (es : Tb) : List Nat := es.map fun p => p.1
abbrev Xs (es : Tb) : List Int := es.map fun p => p.2
def fnd (k : Nat) : List Nat → Option Nat
  | [] => none
  | a :: l => if a = k then some 0 else (fnd k l).map (· + 1)
theorem fnd_lt {k : Nat} : ∀ {l : List Nat} {j : Nat}, fnd k l = some j → j < l.length
  | [], j, h => by cases h
  | a :: l, j, h => by
    unfold fnd at h
    by_cases e : a = k
    · rw [if_pos e] at h; cases h; simp
    · rw [if_neg e] at h
      cases hf : fnd k l with
      | none => rw [hf] at h; cases h
      | some i => rw [hf] at h; cases h; have := fnd_lt hf; simp; omega
theorem look_fnd {k : Nat} : ∀ {es : Tb}, lookM es k = (fnd k (Ks es)).map fun j => (Xs es).getD j default
  | [] => rfl
  | p :: es => by
    show (if k = p.1 then some p.2 else lookM es k) = (if p.1 = k then some 0 else (fnd k (Ks es)).map (· + 1)).map _
    by_cases e : k = p.1
    · rw [if_pos e, if_pos e.symm]; rfl
    · rw [if_neg e, if_neg (fun h => e h.symm), look_fnd]
      cases fnd k (Ks es) <;> rfl
theorem del_fnd {k j : Nat} : ∀ {es : Tb}, fnd k (Ks es) = some j → ∀ {j : Nat}, fnd k (Ks es) = some j → delM es k = es.take j ++ es.drop (j + 1) := by
  intro es h0 j h
  clear h0
  induction es generalizing j with
  | nil => cases h
  | cons p es ih =>
    have h : (if p.1 = k then some 0 else (fnd k (Ks es)).map (· + 1)) = some j := h
    show (if k = p.1 then es else p :: delM es k) = _
    by_cases e : k = p.1
    · rw [if_pos e.symm] at h; cases h; rw [if_pos e]; rfl
    · rw [if_neg (fun h => e h.symm)] at h
      rw [if_neg e]
      cases hf : fnd k (Ks es) with
      | none => rw [hf] at h; cases h
      | some i => rw [hf] at h; cases h; rw [ih hf]; rfl
theorem find_l (k : Nat) (hh : List Nat) (hl : hh.length ≤ 100) (a q : Nat) : ∀ (c m i : Nat), i + c = hh.length → c < m → rfind_l1 k hh m a i q = some (match fnd k (hh.drop i) with | none => LO.ex (a, hh.length, q) | some j => LO.rt (q, ((i + j : Nat) : Int)))
  | 0, m + 1, i, hi, hm => by
    rw [rfind_l1, if_neg (by omega), List.drop_of_length_le (by omega)]
    show _ = some (LO.ex _)
    rw [show i = hh.length by omega]
  | c + 1, m + 1, i, hi, hm => by
    have hlt : i < hh.length := by omega
    have hg : hh.getD i default = hh[i] := by rw [List.getD_eq_getElem?_getD, List.getElem?_eq_getElem hlt]; rfl
    rw [rfind_l1, if_pos hlt, hg, List.drop_eq_getElem_cons hlt]
    show _ = some (match (if hh[i] = k then some 0 else (fnd k (hh.drop (i + 1))).map (· + 1)) with | none => _ | some j => _)
    by_cases e : hh[i] = k
    · rw [if_pos e, if_pos e]; rfl
    · rw [if_neg e, if_neg e, gd_t (by omega), find_l k hh hl a q c m (i + 1) (by omega) (by omega)]
      cases fnd k (hh.drop (i + 1)) with
      | none => rfl
      | some j => show some (LO.rt (q, ((i + 1 + j : Nat) : Int))) = some (LO.rt (q, ((i + (j + 1) : Nat) : Int))); rw [show i + 1 + j = i + (j + 1) by omega]
theorem find_t (q : Nat) (hh : List Nat) (hl : hh.length ≤ 100) (k : Nat) : rfind_p q hh k = some (q, match fnd k hh with | none => -1 | some j => ((j : Nat) : Int)) := by
  unfold rfind_p
  rw [find_l k hh hl 0 q hh.length 90000 0 (by omega) (by omega), List.drop_zero, ob_some]
  cases fnd k hh with
  | none => rfl
  | some j =>
    show some (q, ((0 + j : Nat) : Int)) = some (q, (j : Int))
    rw [Nat.zero_add]
theorem get_t (q : Nat) (es : Tb) (hl : es.length ≤ 8) (k : Nat) : ∃ v e, hget_p es q k = some (es, q, v, e) ∧ rget_p q (Ks es) (Xs es) k = some (q, Ks es, Xs es, v, e) := by
  have hk : (Ks es).length = es.length := List.length_map _
  have hx : (Xs es).length = es.length := List.length_map _
  unfold hget_p rget_p
  rw [find_t q _ (by omega), ob_some, look_fnd]
  cases hf : fnd k (Ks es) with
  | none => exact ⟨0, 9, rfl, rfl⟩
  | some j =>
    have := fnd_lt hf
    refine ⟨(Xs es).getD j default, 0, rfl, ?_⟩
    dsimp only
    rw [if_neg (by omega), gd_t (by omega), if_neg (by omega), gd_t (by simp; omega)]
    rfl
theorem close_t (q : Nat) (es : Tb) (hl : es.length ≤ 8) (k : Nat) : ∃ es' v e, hclose_p es q k = some (es', q, v, e) ∧ rclose_p q (Ks es) (Xs es) k = some (q, Ks es', Xs es', v, e) ∧ es'.Sublist es := by
  have hk : (Ks es).length = es.length := List.length_map _
  have hx : (Xs es).length = es.length := List.length_map _
  unfold hclose_p hget_p rclose_p
  rw [find_t q _ (by omega), ob_some, look_fnd]
  cases hf : fnd k (Ks es) with
  | none =>
    refine ⟨es, 0, 9, ?_, rfl, List.Sublist.refl _⟩
    show (ob (some (es, q, (0 : Int), 9)) _) = _
    rw [ob_some]
    dsimp only
    rw [if_neg (by decide)]
  | some j =>
    have hj := fnd_lt hf
    refine ⟨delM es k, (Xs es).getD j default, 0, rfl, ?_, delM_sub k es⟩
    rw [del_fnd hf hf]
    dsimp only
    have e : ((j : Nat) : Int).toNat = j := Int.toNat_natCast j
    rw [e]
    rw [if_neg (by omega), gd_t (by omega), if_neg (by omega), gd_t (by omega), gd_t (by omega), gd_t (by omega), gd_t (by omega), gd_t (by omega), gd_t (by omega),
      gd_t (by rw [List.length_take]; omega), gd_t (by rw [List.length_take, List.length_drop]; omega), gd_t (by rw [List.length_take]; omega), gd_t (by rw [List.length_take, List.length_drop]; omega)]
    simp only [Ks, Xs, List.map_append, List.map_take, List.map_drop]
theorem sortK_id : ∀ {l : List Nat}, l.Pairwise (· < ·) → sortK (l.map Int.ofNat) = l.map Int.ofNat
  | [], _ => rfl
  | [a], _ => rfl
  | a :: b :: l, hp => by
    have hp2 := List.pairwise_cons.1 hp
    show insK (Int.ofNat a) (sortK ((b :: l).map Int.ofNat)) = _
    rw [sortK_id hp2.2]
    show bc (leI (Int.ofNat a) (Int.ofNat b)) (Int.ofNat a :: Int.ofNat b :: l.map Int.ofNat) _ = _
    rw [(leI_iff _ _).2 (by have := hp2.1 b (by simp); simp; omega)]; rfl
theorem keyS_K {es : Tb} (hp : (Ks es).Pairwise (· < ·)) : keyS es = Ks es := by
  unfold keyS
  rw [show (es.map fun p => Int.ofNat p.1) = (Ks es).map Int.ofNat by rw [List.map_map]; rfl, sortK_id hp, List.map_map]
  have : (Int.toNat ∘ Int.ofNat) = id := rfl
  rw [this, List.map_id]
theorem same_l (l : List Nat) (hl : l.length ≤ 100) : ∀ (k m i : Nat) (b : Bool), i + k = l.length → k < m → ∃ z, samenums_l1 l l m b i = some (LO.ex z)
  | 0, m + 1, i, b, hi, hm => by rw [samenums_l1, if_neg (by omega)]; exact ⟨_, rfl⟩
  | k + 1, m + 1, i, b, hi, hm => by
    rw [samenums_l1, if_pos (by omega), gd_t (by omega), if_neg (fun h => h rfl), gd_t (by omega)]
    exact same_l l hl k m (i + 1) b (by omega) (by omega)
theorem same_t (l : List Nat) (hl : l.length ≤ 100) : samenums_p l l = some true := by
  unfold samenums_p
  obtain ⟨z, e⟩ := same_l l hl l.length 90000 0 false (by omega) (by omega)
  rw [if_neg (fun h => h rfl), e, ob_some, LO.on_ex]
structure Jt (es : Tb) (q i : Nat) : Prop where
  sorted : (Ks es).Pairwise (· < ·)
  low : ∀ x ∈ Ks es, x ≤ q
  le : q ≤ i
  room : es.length ≤ 8
theorem Jt.sub {es es' : Tb} {q i : Nat} (J : Jt es q i) (s : es'.Sublist es) : Jt es' q (i + 1) :=
  ⟨J.sorted.sublist (s.map _), fun x hx => J.low x ((s.map _).subset hx), by have := J.le; omega, Nat.le_trans s.length_le J.room⟩
theorem Jt.fresh {es : Tb} {q i : Nat} (J : Jt es q i) : lookM es (q + 1) = none := by
  rw [look_fnd]
  have : ∀ l : List Nat, (∀ x ∈ l, x ≤ q) → fnd (q + 1) l = none := by
    intro l h
    induction l with
    | nil => rfl
    | cons a l ih =>
      have := h a (by simp)
      show (if a = q + 1 then some 0 else _) = _
      rw [if_neg (by omega), ih fun x hx => h x (by simp [hx])]; rfl
  rw [this _ J.low]; rfl
theorem add_t (q i : Nat) (es : Tb) (J : Jt es q i) (hi : i ≤ 60) (x : Int) : ∃ es' q' h e, hadd_p es q x = some (es', q', h, e) ∧ radd_p q (Ks es) (Xs es) x = some (q', Ks es', Xs es', h, e) ∧ Jt es' q' (i + 1) := by
  have hk : (Ks es).length = es.length := List.length_map _
  have hx : (Xs es).length = es.length := List.length_map _
  have hr := J.room
  have hq := J.le
  unfold hadd_p radd_p
  by_cases h : 8 ≤ es.length
  · rw [if_pos h, if_pos (by omega)]
    exact ⟨es, q, 0, 12, rfl, rfl, J.sub (List.Sublist.refl _)⟩
  · rw [if_neg h, if_neg (by omega), gd_t (by omega), gd_t (by omega), gd_t (by omega), gd_t (by omega), show (q + 1) % 18446744073709551616 = q + 1 by omega]
    have hp : putM es (q + 1) x = es ++ [(q + 1, x)] := by unfold putM; rw [J.fresh]
    refine ⟨es ++ [(q + 1, x)], q + 1, q + 1, 0, by rw [hp], by simp [Ks, Xs], ?_, ?_, by omega, by simp; omega⟩
    · show ((es ++ [(q + 1, x)]).map _).Pairwise _
      rw [List.map_append, List.pairwise_append]
      refine ⟨J.sorted, by simp, fun a ha b hb => ?_⟩
      have := J.low a ha
      simp at hb
      omega
    · intro y hy
      have hy : y ∈ (es ++ [(q + 1, x)]).map (fun p => p.1) := hy
      rw [List.map_append] at hy
      rcases List.mem_append.1 hy with hy | hy
      · have := J.low y hy; omega
      · simp at hy; omega
theorem all_l (B0 : List (Int × Int × Nat)) (hB : B0.length ≤ 50) : ∀ (c m : Nat) (A2 : Bool) (i q : Nat) (es : Tb), i + c = B0.length → c < m → Jt es q i → ∃ z, lawall_l1 B0 m A2 i q (Ks es) (Xs es) es q = some (LO.ex z)
  | 0, m + 1, A2, i, q, es, hi, hm, J => by
    rw [lawall_l1, if_neg (by omega)]
    exact ⟨_, rfl⟩
  | c + 1, m + 1, A2, i, q, es, hi, hm, J => by
    have after : ∀ (es' : Tb) (q' : Nat), Jt es' q' (i + 1) → ∃ z, (ob (hall_p es' q') fun x47 => (ob (samenums_p x47.2.2 (Ks es')) fun x64 => (if x64 = false then (some (LO.rt false)) else
        (gd (i + 1 < 9223372036854775808) (lawall_l1 B0 m A2 (i + 1) q' (Ks es') (Xs es') x47.1 x47.2.1))))) = some (LO.ex z) := fun es' q' J' => by
      have hr := J'.room
      have hk : (Ks es').length = es'.length := List.length_map _
      unfold hall_p
      rw [gd_t (by omega), ob_some, keyS_K J'.sorted]
      dsimp only
      rw [same_t _ (by omega), ob_some, if_neg (by decide), gd_t (by omega)]
      exact all_l B0 hB c m A2 (i + 1) q' es' (by omega) (by omega) J'
    have hr := J.room
    rw [lawall_l1, if_pos (by omega)]
    generalize modA (wrapA .i64 (Int.add (modA ((B0.getD i default).1) (Int.ofNat 9)) (Int.ofNat 9))) (Int.ofNat 9) = K
    by_cases h4 : K < 4
    · rw [if_pos h4]
      obtain ⟨es', q', h, e, e1, e2, J'⟩ := add_t q i es J (by omega) (B0.getD i default).2.1
      rw [e1, ob_some, e2, ob_some, if_neg (fun h => h rfl), if_neg (fun h => h rfl)]
      exact after es' q' J'
    rw [if_neg h4]
    by_cases h6 : K < 6
    · rw [if_pos h6]
      obtain ⟨v, e, e1, e2⟩ := get_t q es hr (B0.getD i default).2.2
      rw [e1, ob_some, e2, ob_some, if_neg (fun h => h rfl), if_neg (fun h => h rfl)]
      exact after es q (J.sub (List.Sublist.refl _))
    rw [if_neg h6]
    by_cases h8 : K < 8
    · rw [if_pos h8]
      obtain ⟨es', v, e, e1, e2, s⟩ := close_t q es hr (B0.getD i default).2.2
      rw [e1, ob_some, e2, ob_some, if_neg (fun h => h rfl), if_neg (fun h => h rfl)]
      exact after es' q (J.sub s)
    rw [if_neg h8]
    unfold hcopy_p
    rw [ob_some]
    dsimp only
    obtain ⟨es', q', h, e, e1, e2, J'⟩ := add_t q i es J (by omega) 5
    rw [e1, ob_some]
    obtain ⟨es2, v, e', e3, e4, s⟩ := close_t q' es' J'.room (B0.getD i default).2.2
    rw [e3, ob_some]
    exact after es q (J.sub (List.Sublist.refl _))
theorem all_t (l : List (Int × Int × Nat)) : lawall_p l = some true := by
  unfold lawall_p
  by_cases h : 50 < l.length
  · rw [if_pos h]
  · rw [if_neg h]
    obtain ⟨z, e⟩ := all_l l (by omega) l.length 90000 false 0 0 [] (by omega) (by omega) ⟨by simp, by simp, Nat.le_refl _, by simp⟩
    have e : lawall_l1 l 90000 false 0 0 ([] : List Nat) ([] : List Int) ([] : List (Nat × Int)) 0 = some (LO.ex z) := e
    rw [e, ob_some, LO.on_ex]
end Go.Proofs.Ytpelnanckmjoaaa
end
