import Derived.Test.YtejiebbbodealaaB3
import Derived.WalkKit
section
set_option linter.unusedVariables false
set_option linter.unusedSimpArgs false
namespace Go.Proofs.Ytejiebbbodealaa
open Go Eng
noncomputable def size_l1 (B4 : Nat) (B5 : Nat) (B51 : List Nat) (B52 : Nat) : Nat → Nat → Nat → Nat → Option (LO (Nat × Nat × Nat) (Nat))
  | 0, _, _, _ => none
  | m + 1, A2, A6, A53 =>
    (if A53 < B52 then (gd (A53 < B51.length) (if (B51.getD A53 0) &&& 192 ≠ 128 then (some (LO.rt 0)) else
    (gd (A6 * 2 ^ 6 < 2147483648) (gd (A53 + 1 < 9223372036854775808) (size_l1 B4 B5 B51 B52 m A2 ((A6 * 2 ^ 6) ||| ((B51.getD A53 0) &&& 63)) (A53 + 1)))))) else
    (some (LO.ex (A2, A6, A53))))
noncomputable def size_l1C : AC := (.seq (.region [⟨(some 54), .q (.bin .lss (.tmp 53) (.tmp 52)), none⟩]) (.seq (.cond (.tmp 54) .skip (.exit 1)) (.seq (.block 2 (.seq (.region [⟨(some 55), .q (.idxAddrSl 1 (.tmp 51) (.tmp 53)), none⟩, ⟨(some 56), .q (.loadS (.tmp 55)), none⟩, ⟨(some 8), .q (.move (.tmp 56)), none⟩]) (.seq (.seq (.region [⟨(some 57), .q (.move (.tmp 8)), none⟩, ⟨(some 58), .q (.bin .and (.tmp 57) (.const (vb8 192))), none⟩, ⟨(some 59), .q (.eq .int true (.tmp 58) (.const (vb8 128))), none⟩]) (.cond (.tmp 59) (.seq (.region [⟨(some 2), .q (.move (.const (vi 0))), none⟩]) .ret) .skip)) (.region [⟨(some 60), .q (.move (.tmp 6)), none⟩, ⟨(some 61), .q (.bin .shl (.tmp 60) (.const (vq 6))), none⟩, ⟨(some 62), .q (.move (.tmp 8)), none⟩, ⟨(some 63), .q (.bin .and (.tmp 62) (.const (vb8 63))), none⟩, ⟨(some 64), .q (.toInt .i32 (.tmp 63)), none⟩, ⟨(some 65), .q (.bin .or (.tmp 61) (.tmp 64)), none⟩, ⟨(some 6), .q (.move (.tmp 65)), none⟩])))) (.region [⟨(some 66), .q (.bin .add (.tmp 53) (.const (vi 1))), none⟩, ⟨(some 53), .q (.move (.tmp 66)), none⟩]))))
theorem size_l1_body {call : CallT} {N : Nat} {t : T} {h : Hp} {wB51_1 : AV} {G : Nat → Prop} {h0 : Hp} {B4 : Nat} {B5 : Nat} {B51 : List Nat} {B52 : Nat} (fB5_1 : B5 < 2147483648) (fB51_2 : BIn G h0 wB51_1 B51)  {o : LO (Nat × Nat × Nat) (Nat)} {n : Nat} {A2 : Nat} {A6 : Nat} {A53 : Nat} (hN : 90000 < N) (hi : (fun (z : Nat × Nat × Nat × Nat) (h' : Hp) => size_l1 B4 B5 B51 B52 z.1 z.2.1 z.2.2.1 z.2.2.2 = some o ∧ (z.2.2.1 < 2147483648) ∧ Eng.Sep [Frz G h0] h') (n, A2, A6, A53) h)
    : ∃ s, evC call N size_l1C (ovT [(2, (vi A2)), (4, (vi B4)), (5, (AV.int .i32 (Int.ofNat B5))), (6, (AV.int .i32 (Int.ofNat A6))), (51, wB51_1), (52, (vi B52)), (53, (vi A53))] t) h = s ∧ obsS [2, 4, 5, 6, 51, 52, 53] (fun ls h' => ∃ y, ls = ((fun (z : Nat × Nat × Nat × Nat) => [(2, (vi z.2.1)), (4, (vi B4)), (5, (AV.int .i32 (Int.ofNat B5))), (6, (AV.int .i32 (Int.ofNat z.2.2.1))), (51, wB51_1), (52, (vi B52)), (53, (vi z.2.2.2))]) y).map (fun p => some p.2) ∧ (fun (z : Nat × Nat × Nat × Nat) (h' : Hp) => size_l1 B4 B5 B51 B52 z.1 z.2.1 z.2.2.1 z.2.2.2 = some o ∧ (z.2.2.1 < 2147483648) ∧ Eng.Sep [Frz G h0] h') y h' ∧ (fun (z : Nat × Nat × Nat × Nat) => z.1) y < (fun (z : Nat × Nat × Nat × Nat) => z.1) (n, A2, A6, A53)) (fun i ls h' => ∃ y, ls = ((fun (z : Nat × Nat × Nat × Nat) => [(2, (vi z.2.1)), (4, (vi B4)), (5, (AV.int .i32 (Int.ofNat B5))), (6, (AV.int .i32 (Int.ofNat z.2.2.1))), (51, wB51_1), (52, (vi B52)), (53, (vi z.2.2.2))]) y).map (fun p => some p.2) ∧ (fun (i : Nat) (z : Nat × Nat × Nat × Nat) (h' : Hp) => (i = 1) ∧ (i = 1 → o = LO.ex (z.2.1, z.2.2.1, z.2.2.2) ∧ (z.2.2.1 < 2147483648) ∧ Eng.Sep [Frz G h0] h')) i y h') (fun ls h' => (fun (ls : List (Option AV)) (h' : Hp) => ∃ (rt : Nat) (v2 : AV), o = LO.rt rt ∧ ls[0]? = some (some v2) ∧ (v2 = (vi rt) ∧ (rt < 9223372036854775808) ∧ Eng.Sep (Frz G h0 :: []) h')) ls h') s := by
  have hi : size_l1 B4 B5 B51 B52 n A2 A6 A53 = some o ∧ (A6 < 2147483648) ∧ Eng.Sep [Frz G h0] h := hi
  obtain ⟨hp, fA6_1, S⟩ := hi
  obtain ⟨m, hm⟩ : ∃ m, n = m + 1 := by
    cases n with
    | zero => first | cases hp | (unfold size_l1 at hp; cases hp) | (simp [size_l1] at hp)
    | succ m => exact ⟨m, rfl⟩
  rw [hm] at hp
  unfold size_l1 at hp
  refine walk_ok (o := (.fork 0 (.tell 0 (elemP wB51_1 A53 1) (.tell 0 (vb8 (B51.getD A53 0)) (.tell 2 (vb8 ((B51.getD A53 0) &&& 192)) (.fork 0 .fin (.tell 1 (AV.int .i32 (Int.ofNat (A6 * 2 ^ 6))) (.tell 1 (vb8 ((B51.getD A53 0) &&& 63)) (.tell 0 (AV.int .i32 (Int.ofNat ((B51.getD A53 0) &&& 63))) (.tell 0 (AV.int .i32 (Int.ofNat ((A6 * 2 ^ 6) ||| ((B51.getD A53 0) &&& 63)))) (.tell 1 (vi (A53 + 1)) .fin))))))))) .fin)) (p := (fun (KN : List (Option AV) → Hp → Prop) (KE : Nat → List (Option AV) → Hp → Prop) (KR : List (Option AV) → Hp → Prop) => ((ltI (Int.ofNat A53) (Int.ofNat B52) = true → ((evQ (.idxAddrSl 1 (.const wB51_1) (.const (vi A53))) .lf H0 = .ok (elemP wB51_1 A53 1) ∧ ((evQ (.loadS (.const (elemP wB51_1 A53 1))) .lf h = .ok (vb8 (B51.getD A53 0)) ∧ ((evQ (.bin .and (.const (vb8 (B51.getD A53 0))) (.const (vb8 192))) .lf H0 = .ok (vb8 ((B51.getD A53 0) &&& 192)) ∧ ((notB (eqI (Int.ofNat ((B51.getD A53 0) &&& 192)) (Int.ofNat 128)) = true → KR [some (vi 0), some (vi B4), some (AV.int .i32 (Int.ofNat B5)), some (AV.int .i32 (Int.ofNat A6)), some wB51_1, some (vi B52), some (vi A53)] h) ∧ (notB (eqI (Int.ofNat ((B51.getD A53 0) &&& 192)) (Int.ofNat 128)) = false → ((evQ (.bin .shl (.const (AV.int .i32 (Int.ofNat A6))) (.const (vq 6))) .lf H0 = .ok (AV.int .i32 (Int.ofNat (A6 * 2 ^ 6))) ∧ ((evQ (.bin .and (.const (vb8 (B51.getD A53 0))) (.const (vb8 63))) .lf H0 = .ok (vb8 ((B51.getD A53 0) &&& 63)) ∧ ((evQ (.toInt .i32 (.const (vb8 ((B51.getD A53 0) &&& 63)))) .lf H0 = .ok (AV.int .i32 (Int.ofNat ((B51.getD A53 0) &&& 63))) ∧ ((evQ (.bin .or (.const (AV.int .i32 (Int.ofNat (A6 * 2 ^ 6)))) (.const (AV.int .i32 (Int.ofNat ((B51.getD A53 0) &&& 63))))) .lf H0 = .ok (AV.int .i32 (Int.ofNat ((A6 * 2 ^ 6) ||| ((B51.getD A53 0) &&& 63)))) ∧ ((evQ (.bin .add (.const (vi A53)) (.const (vi 1))) .lf H0 = .ok (vi (A53 + 1)) ∧ KN [some (vi A2), some (vi B4), some (AV.int .i32 (Int.ofNat B5)), some (AV.int .i32 (Int.ofNat ((A6 * 2 ^ 6) ||| ((B51.getD A53 0) &&& 63)))), some wB51_1, some (vi B52), some (vi (A53 + 1))] h))))))))))))))))))) ∧ (ltI (Int.ofNat A53) (Int.ofNat B52) = false → KE 1 [some (vi A2), some (vi B4), some (AV.int .i32 (Int.ofNat B5)), some (AV.int .i32 (Int.ofNat A6)), some wB51_1, some (vi B52), some (vi A53)] h))) (fun ls h' => ∃ y, ls = ((fun (z : Nat × Nat × Nat × Nat) => [(2, (vi z.2.1)), (4, (vi B4)), (5, (AV.int .i32 (Int.ofNat B5))), (6, (AV.int .i32 (Int.ofNat z.2.2.1))), (51, wB51_1), (52, (vi B52)), (53, (vi z.2.2.2))]) y).map (fun p => some p.2) ∧ (fun (z : Nat × Nat × Nat × Nat) (h' : Hp) => size_l1 B4 B5 B51 B52 z.1 z.2.1 z.2.2.1 z.2.2.2 = some o ∧ (z.2.2.1 < 2147483648) ∧ Eng.Sep [Frz G h0] h') y h' ∧ (fun (z : Nat × Nat × Nat × Nat) => z.1) y < (fun (z : Nat × Nat × Nat × Nat) => z.1) (n, A2, A6, A53)) (fun i ls h' => ∃ y, ls = ((fun (z : Nat × Nat × Nat × Nat) => [(2, (vi z.2.1)), (4, (vi B4)), (5, (AV.int .i32 (Int.ofNat B5))), (6, (AV.int .i32 (Int.ofNat z.2.2.1))), (51, wB51_1), (52, (vi B52)), (53, (vi z.2.2.2))]) y).map (fun p => some p.2) ∧ (fun (i : Nat) (z : Nat × Nat × Nat × Nat) (h' : Hp) => (i = 1) ∧ (i = 1 → o = LO.ex (z.2.1, z.2.2.1, z.2.2.2) ∧ (z.2.2.1 < 2147483648) ∧ Eng.Sep [Frz G h0] h')) i y h') (fun ls h' => (fun (ls : List (Option AV)) (h' : Hp) => ∃ (rt : Nat) (v2 : AV), o = LO.rt rt ∧ ls[0]? = some (some v2) ∧ (v2 = (vi rt) ∧ (rt < 9223372036854775808) ∧ Eng.Sep (Frz G h0 :: []) h')) ls h')) (by kernel_rfl) ?_
  refine ⟨fun c1 => ?_, fun c1 => ?_⟩
  · replace c1 := ltI_t c1
    replace hp := ift hp c1
    have ⟨g2, hp⟩ := gd_inv hp
    refine ⟨q_idxB (l := B51) (BIn.now S (i := 0) rfl fB51_2) g2, ?_⟩
    refine ⟨q_byte (l := B51) (BIn.now S (i := 0) rfl fB51_2) g2, ?_⟩
    have x3 : B51.getD A53 0 < 256 := getD_lt (BIn.now S (i := 0) rfl fB51_2).lt A53
    refine ⟨u_and rfl x3 (show 192 < 256 by decide), ?_⟩
    refine ⟨fun c5 => ?_, fun c5 => ?_⟩
    · replace c5 := eqI_f (notB_t c5)
      replace hp := ift hp c5
      refine ⟨_, (vi 0), (Option.some.inj hp).symm, rfl, ?_⟩
      exact ⟨rfl, (show 0 < 9223372036854775808 by decide), S⟩
    replace c5 := eqI_t (notB_f c5)
    replace hp := iff0 hp (nneO c5)
    have ⟨g6, hp⟩ := gd_inv hp
    refine ⟨i32_shl g6, ?_⟩
    refine ⟨u_and rfl x3 (show 63 < 256 by decide), ?_⟩
    have g7 : (B51.getD A53 0) &&& 63 < 256 := Nat.lt_of_le_of_lt Nat.and_le_left x3
    refine ⟨i32_conv (Nat.lt_of_lt_of_le g7 (by decide)), ?_⟩
    refine ⟨i32_or g6 (Nat.lt_of_lt_of_le g7 (by decide)), ?_⟩
    have ⟨g8, hp⟩ := gd_inv hp
    refine ⟨q_add g8, ?_⟩
    refine ⟨(m, A2, (A6 * 2 ^ 6) ||| ((B51.getD A53 0) &&& 63), A53 + 1), rfl, ⟨hp, (Nat.or_lt_two_pow (n := 31) g6 (Nat.lt_of_lt_of_le g7 (by decide))), S⟩, by show m < n; omega⟩
  replace c1 := ltI_f c1
  replace hp := iff0 hp (nltO c1)
  refine ⟨(m, A2, A6, A53), rfl, rfl, fun _ => ⟨(Option.some.inj hp).symm, fA6_1, S⟩⟩
theorem size_l1_t {call : CallT} {N : Nat} {wB51_1 : AV} {G : Nat → Prop} {h0 : Hp} {B4 : Nat} {B5 : Nat} {B51 : List Nat} {B52 : Nat} (fB5_1 : B5 < 2147483648) (fB51_2 : BIn G h0 wB51_1 B51)  {o : LO (Nat × Nat × Nat) (Nat)} {n : Nat} {A2 : Nat} {A6 : Nat} {A53 : Nat} {h : Hp} (hi : (fun (z : Nat × Nat × Nat × Nat) (h' : Hp) => size_l1 B4 B5 B51 B52 z.1 z.2.1 z.2.2.1 z.2.2.2 = some o ∧ (z.2.2.1 < 2147483648) ∧ Eng.Sep [Frz G h0] h') (n, A2, A6, A53) h) (hN : n < N) (hN' : 90000 < N) {t : T} (ht : Has ((fun (z : Nat × Nat × Nat × Nat) => [(2, (vi z.2.1)), (4, (vi B4)), (5, (AV.int .i32 (Int.ofNat B5))), (6, (AV.int .i32 (Int.ofNat z.2.2.1))), (51, wB51_1), (52, (vi B52)), (53, (vi z.2.2.2))]) (n, A2, A6, A53)) t) :
    (∃ i y t' h', evC call N (.loop size_l1C) t h = .exit i t' h' ∧ Has ((fun (z : Nat × Nat × Nat × Nat) => [(2, (vi z.2.1)), (4, (vi B4)), (5, (AV.int .i32 (Int.ofNat B5))), (6, (AV.int .i32 (Int.ofNat z.2.2.1))), (51, wB51_1), (52, (vi B52)), (53, (vi z.2.2.2))]) y) t' ∧ (fun (i : Nat) (z : Nat × Nat × Nat × Nat) (h' : Hp) => (i = 1) ∧ (i = 1 → o = LO.ex (z.2.1, z.2.2.1, z.2.2.2) ∧ (z.2.2.1 < 2147483648) ∧ Eng.Sep [Frz G h0] h')) i y h') ∨ (∃ t' h', evC call N (.loop size_l1C) t h = .ret t' h' ∧ (fun (ls : List (Option AV)) (h' : Hp) => ∃ (rt : Nat) (v2 : AV), o = LO.rt rt ∧ ls[0]? = some (some v2) ∧ (v2 = (vi rt) ∧ (rt < 9223372036854775808) ∧ Eng.Sep (Frz G h0 :: []) h')) (slots [2, 4, 5, 6, 51, 52, 53] t') h') :=
  loop_st (fun (z : Nat × Nat × Nat × Nat) => [(2, (vi z.2.1)), (4, (vi B4)), (5, (AV.int .i32 (Int.ofNat B5))), (6, (AV.int .i32 (Int.ofNat z.2.2.1))), (51, wB51_1), (52, (vi B52)), (53, (vi z.2.2.2))]) [2, 4, 5, 6, 51, 52, 53] (fun _ => rfl) (fun (z : Nat × Nat × Nat × Nat) (h' : Hp) => size_l1 B4 B5 B51 B52 z.1 z.2.1 z.2.2.1 z.2.2.2 = some o ∧ (z.2.2.1 < 2147483648) ∧ Eng.Sep [Frz G h0] h') (fun (z : Nat × Nat × Nat × Nat) => z.1) (fun (i : Nat) (z : Nat × Nat × Nat × Nat) (h' : Hp) => (i = 1) ∧ (i = 1 → o = LO.ex (z.2.1, z.2.2.1, z.2.2.2) ∧ (z.2.2.1 < 2147483648) ∧ Eng.Sep [Frz G h0] h')) (fun (ls : List (Option AV)) (h' : Hp) => ∃ (rt : Nat) (v2 : AV), o = LO.rt rt ∧ ls[0]? = some (some v2) ∧ (v2 = (vi rt) ∧ (rt < 9223372036854775808) ∧ Eng.Sep (Frz G h0 :: []) h')) (fun ⟨n, A2, A6, A53⟩ t h hi => size_l1_body fB5_1 fB51_2 hN' hi) (n, A2, A6, A53) h hi hN t ht
noncomputable def size_p (l : List Nat) : Option (Nat) :=
  (gd (0 < l.length) (if l.getD 0 0 < 128 then (some 1) else
    (if 192 ≤ l.getD 0 0 then (if l.getD 0 0 < 224 then (if l.length < 2 then (some 0) else
    (ob (size_l1 2 128 ((l.take 2).drop 1) (((l.take 2).drop 1).length) 90000 0 ((l.getD 0 0) &&& 31) 0) fun o8 =>
    (LO.on o8 (fun s_o8 => (if s_o8.2.1 < 128 then (some 0) else
    (if 1114111 < s_o8.2.1 then (some 0) else
    (if 55296 ≤ s_o8.2.1 then (if s_o8.2.1 ≤ 57343 then (some 0) else
    (some 2)) else
    (some 2))))) (fun y15 =>
    (some y15))))) else
    (if l.getD 0 0 < 240 then (if l.length < 3 then (some 0) else
    (ob (size_l1 3 2048 ((l.take 3).drop 1) (((l.take 3).drop 1).length) 90000 0 ((l.getD 0 0) &&& 15) 0) fun o9 =>
    (LO.on o9 (fun s_o9 => (if s_o9.2.1 < 2048 then (some 0) else
    (if 1114111 < s_o9.2.1 then (some 0) else
    (if 55296 ≤ s_o9.2.1 then (if s_o9.2.1 ≤ 57343 then (some 0) else
    (some 3)) else
    (some 3))))) (fun y16 =>
    (some y16))))) else
    (if l.getD 0 0 < 248 then (if l.length < 4 then (some 0) else
    (ob (size_l1 4 65536 ((l.take 4).drop 1) (((l.take 4).drop 1).length) 90000 0 ((l.getD 0 0) &&& 7) 0) fun o10 =>
    (LO.on o10 (fun s_o10 => (if s_o10.2.1 < 65536 then (some 0) else
    (if 1114111 < s_o10.2.1 then (some 0) else
    (if 55296 ≤ s_o10.2.1 then (if s_o10.2.1 ≤ 57343 then (some 0) else
    (some 4)) else
    (some 4))))) (fun y17 =>
    (some y17))))) else
    (some 0)))) else
    (if 224 ≤ l.getD 0 0 then (if l.getD 0 0 < 240 then (if l.length < 3 then (some 0) else
    (ob (size_l1 3 2048 ((l.take 3).drop 1) (((l.take 3).drop 1).length) 90000 0 ((l.getD 0 0) &&& 15) 0) fun o9 =>
    (LO.on o9 (fun s_o9 => (if s_o9.2.1 < 2048 then (some 0) else
    (if 1114111 < s_o9.2.1 then (some 0) else
    (if 55296 ≤ s_o9.2.1 then (if s_o9.2.1 ≤ 57343 then (some 0) else
    (some 3)) else
    (some 3))))) (fun y16 =>
    (some y16))))) else
    (if l.getD 0 0 < 248 then (if l.length < 4 then (some 0) else
    (ob (size_l1 4 65536 ((l.take 4).drop 1) (((l.take 4).drop 1).length) 90000 0 ((l.getD 0 0) &&& 7) 0) fun o10 =>
    (LO.on o10 (fun s_o10 => (if s_o10.2.1 < 65536 then (some 0) else
    (if 1114111 < s_o10.2.1 then (some 0) else
    (if 55296 ≤ s_o10.2.1 then (if s_o10.2.1 ≤ 57343 then (some 0) else
    (some 4)) else
    (some 4))))) (fun y17 =>
    (some y17))))) else
    (some 0))) else
    (if 240 ≤ l.getD 0 0 then (if l.getD 0 0 < 248 then (if l.length < 4 then (some 0) else
    (ob (size_l1 4 65536 ((l.take 4).drop 1) (((l.take 4).drop 1).length) 90000 0 ((l.getD 0 0) &&& 7) 0) fun o10 =>
    (LO.on o10 (fun s_o10 => (if s_o10.2.1 < 65536 then (some 0) else
    (if 1114111 < s_o10.2.1 then (some 0) else
    (if 55296 ≤ s_o10.2.1 then (if s_o10.2.1 ≤ 57343 then (some 0) else
    (some 4)) else
    (some 4))))) (fun y17 =>
    (some y17))))) else
    (some 0)) else
    (some 0))))))
theorem size_w {call : CallT} {N : Nat} {h : Hp} {wl_1 : AV} {l : List Nat} (fl_2 : BIn (Low h) h wl_1 l)  (hN : 90000 < N) {r : Nat} (hp : size_p l = some r) :
    ∃ rv rh, evF1 (progS Try.prog (compDrawn Try.prog)) N call 66 [wl_1] h = .ok rv rh ∧ (fun (rv : AV) (rh : Hp) => rv = (vi r) ∧ (r < 9223372036854775808) ∧ Eng.Sep (Frz (Low h) h :: []) rh) rv rh := by
  have S : Eng.Sep [Frz (Low h) h] h := Sep.start h
  unfold size_p at hp
  refine fwalk_ok (K := (fun (rv : AV) (rh : Hp) => rv = (vi r) ∧ (r < 9223372036854775808) ∧ Eng.Sep (Frz (Low h) h :: []) rh)) (o := (.tell 2 (elemP wl_1 0 1) (.tell 0 (vb8 (l.getD 0 0)) (.fork 5 .fin (.fork 2 (.fork 3 (.tell 6 (vi l.length) (.fork 2 .fin (.tell 1 (AV.int .i32 (Int.ofNat (l.getD 0 0))) (.tell 2 (AV.int .i32 (Int.ofNat ((l.getD 0 0) &&& 31))) (.tell 3 (partS wl_1 1 2) (.tell 0 (vi (((l.take 2).drop 1).length)) (.dis 1 (.exi 0 fun (A2o8 : Nat) => (.exi 0 fun (A6o8 : Nat) => (.exi 0 fun (A53o8 : Nat) => (.exi 0 fun (t11 : T) => (.exi 0 fun (h12 : Hp) => (.lp 0 (.exit 1 (ovT [(2, (vi A2o8)), (4, (vi 2)), (5, (AV.int .i32 (Int.ofNat 128))), (6, (AV.int .i32 (Int.ofNat A6o8))), (51, (partS wl_1 1 2)), (52, (vi (((l.take 2).drop 1).length))), (53, (vi A53o8))] t11) h12) (.fork 3 .fin (.fork 3 .fin (.fork 2 (.fork 3 .fin .fin) .fin))))))))) (.exi 0 fun (y15 : Nat) => (.exi 0 fun (v2o8 : AV) => (.exi 0 fun (t13 : T) => (.exi 0 fun (h14 : Hp) => (.lp 0 (.ret (ovT [(2, v2o8)] t13) h14) .fin)))))))))))) (.tell 2 (AV.bool true) (.fork 3 (.tell 6 (vi l.length) (.fork 2 .fin (.tell 1 (AV.int .i32 (Int.ofNat (l.getD 0 0))) (.tell 2 (AV.int .i32 (Int.ofNat ((l.getD 0 0) &&& 15))) (.tell 3 (partS wl_1 1 3) (.tell 0 (vi (((l.take 3).drop 1).length)) (.dis 1 (.exi 0 fun (A2o9 : Nat) => (.exi 0 fun (A6o9 : Nat) => (.exi 0 fun (A53o9 : Nat) => (.exi 0 fun (t12 : T) => (.exi 0 fun (h13 : Hp) => (.lp 0 (.exit 1 (ovT [(2, (vi A2o9)), (4, (vi 3)), (5, (AV.int .i32 (Int.ofNat 2048))), (6, (AV.int .i32 (Int.ofNat A6o9))), (51, (partS wl_1 1 3)), (52, (vi (((l.take 3).drop 1).length))), (53, (vi A53o9))] t12) h13) (.fork 3 .fin (.fork 3 .fin (.fork 2 (.fork 3 .fin .fin) .fin))))))))) (.exi 0 fun (y16 : Nat) => (.exi 0 fun (v2o9 : AV) => (.exi 0 fun (t14 : T) => (.exi 0 fun (h15 : Hp) => (.lp 0 (.ret (ovT [(2, v2o9)] t14) h15) .fin)))))))))))) (.tell 2 (AV.bool true) (.fork 3 (.tell 6 (vi l.length) (.fork 2 .fin (.tell 1 (AV.int .i32 (Int.ofNat (l.getD 0 0))) (.tell 2 (AV.int .i32 (Int.ofNat ((l.getD 0 0) &&& 7))) (.tell 3 (partS wl_1 1 4) (.tell 0 (vi (((l.take 4).drop 1).length)) (.dis 1 (.exi 0 fun (A2o10 : Nat) => (.exi 0 fun (A6o10 : Nat) => (.exi 0 fun (A53o10 : Nat) => (.exi 0 fun (t13 : T) => (.exi 0 fun (h14 : Hp) => (.lp 0 (.exit 1 (ovT [(2, (vi A2o10)), (4, (vi 4)), (5, (AV.int .i32 (Int.ofNat 65536))), (6, (AV.int .i32 (Int.ofNat A6o10))), (51, (partS wl_1 1 4)), (52, (vi (((l.take 4).drop 1).length))), (53, (vi A53o10))] t13) h14) (.fork 3 .fin (.fork 3 .fin (.fork 2 (.fork 3 .fin .fin) .fin))))))))) (.exi 0 fun (y17 : Nat) => (.exi 0 fun (v2o10 : AV) => (.exi 0 fun (t15 : T) => (.exi 0 fun (h16 : Hp) => (.lp 0 (.ret (ovT [(2, v2o10)] t15) h16) .fin)))))))))))) .fin))))) (.fork 4 (.fork 3 (.tell 6 (vi l.length) (.fork 2 .fin (.tell 1 (AV.int .i32 (Int.ofNat (l.getD 0 0))) (.tell 2 (AV.int .i32 (Int.ofNat ((l.getD 0 0) &&& 15))) (.tell 3 (partS wl_1 1 3) (.tell 0 (vi (((l.take 3).drop 1).length)) (.dis 1 (.exi 0 fun (A2o9 : Nat) => (.exi 0 fun (A6o9 : Nat) => (.exi 0 fun (A53o9 : Nat) => (.exi 0 fun (t12 : T) => (.exi 0 fun (h13 : Hp) => (.lp 0 (.exit 1 (ovT [(2, (vi A2o9)), (4, (vi 3)), (5, (AV.int .i32 (Int.ofNat 2048))), (6, (AV.int .i32 (Int.ofNat A6o9))), (51, (partS wl_1 1 3)), (52, (vi (((l.take 3).drop 1).length))), (53, (vi A53o9))] t12) h13) (.fork 3 .fin (.fork 3 .fin (.fork 2 (.fork 3 .fin .fin) .fin))))))))) (.exi 0 fun (y16 : Nat) => (.exi 0 fun (v2o9 : AV) => (.exi 0 fun (t14 : T) => (.exi 0 fun (h15 : Hp) => (.lp 0 (.ret (ovT [(2, v2o9)] t14) h15) .fin)))))))))))) (.tell 2 (AV.bool true) (.fork 3 (.tell 6 (vi l.length) (.fork 2 .fin (.tell 1 (AV.int .i32 (Int.ofNat (l.getD 0 0))) (.tell 2 (AV.int .i32 (Int.ofNat ((l.getD 0 0) &&& 7))) (.tell 3 (partS wl_1 1 4) (.tell 0 (vi (((l.take 4).drop 1).length)) (.dis 1 (.exi 0 fun (A2o10 : Nat) => (.exi 0 fun (A6o10 : Nat) => (.exi 0 fun (A53o10 : Nat) => (.exi 0 fun (t13 : T) => (.exi 0 fun (h14 : Hp) => (.lp 0 (.exit 1 (ovT [(2, (vi A2o10)), (4, (vi 4)), (5, (AV.int .i32 (Int.ofNat 65536))), (6, (AV.int .i32 (Int.ofNat A6o10))), (51, (partS wl_1 1 4)), (52, (vi (((l.take 4).drop 1).length))), (53, (vi A53o10))] t13) h14) (.fork 3 .fin (.fork 3 .fin (.fork 2 (.fork 3 .fin .fin) .fin))))))))) (.exi 0 fun (y17 : Nat) => (.exi 0 fun (v2o10 : AV) => (.exi 0 fun (t15 : T) => (.exi 0 fun (h16 : Hp) => (.lp 0 (.ret (ovT [(2, v2o10)] t15) h16) .fin)))))))))))) .fin))) (.fork 4 (.fork 3 (.tell 6 (vi l.length) (.fork 2 .fin (.tell 1 (AV.int .i32 (Int.ofNat (l.getD 0 0))) (.tell 2 (AV.int .i32 (Int.ofNat ((l.getD 0 0) &&& 7))) (.tell 3 (partS wl_1 1 4) (.tell 0 (vi (((l.take 4).drop 1).length)) (.dis 1 (.exi 0 fun (A2o10 : Nat) => (.exi 0 fun (A6o10 : Nat) => (.exi 0 fun (A53o10 : Nat) => (.exi 0 fun (t13 : T) => (.exi 0 fun (h14 : Hp) => (.lp 0 (.exit 1 (ovT [(2, (vi A2o10)), (4, (vi 4)), (5, (AV.int .i32 (Int.ofNat 65536))), (6, (AV.int .i32 (Int.ofNat A6o10))), (51, (partS wl_1 1 4)), (52, (vi (((l.take 4).drop 1).length))), (53, (vi A53o10))] t13) h14) (.fork 3 .fin (.fork 3 .fin (.fork 2 (.fork 3 .fin .fin) .fin))))))))) (.exi 0 fun (y17 : Nat) => (.exi 0 fun (v2o10 : AV) => (.exi 0 fun (t15 : T) => (.exi 0 fun (h16 : Hp) => (.lp 0 (.ret (ovT [(2, v2o10)] t15) h16) .fin)))))))))))) .fin) .fin))))))) (p := (fun (KK : AV → Hp → Prop) => ((evQ (.idxAddrSl 1 (.const wl_1) (.const (vi 0))) .lf H0 = .ok (elemP wl_1 0 1) ∧ ((evQ (.loadS (.const (elemP wl_1 0 1))) .lf h = .ok (vb8 (l.getD 0 0)) ∧ ((ltI (Int.ofNat (l.getD 0 0)) (Int.ofNat 128) = true → KK (vi 1) h) ∧ (ltI (Int.ofNat (l.getD 0 0)) (Int.ofNat 128) = false → ((notB (ltI (Int.ofNat (l.getD 0 0)) (Int.ofNat 192)) = true → ((ltI (Int.ofNat (l.getD 0 0)) (Int.ofNat 224) = true → ((evQ (.lenL (.const wl_1)) .lf H0 = .ok (vi l.length) ∧ ((ltI (Int.ofNat l.length) (Int.ofNat 2) = true → KK (vi 0) h) ∧ (ltI (Int.ofNat l.length) (Int.ofNat 2) = false → ((evQ (.toInt .i32 (.const (vb8 (l.getD 0 0)))) .lf H0 = .ok (AV.int .i32 (Int.ofNat (l.getD 0 0))) ∧ ((evQ (.bin .and (.const (AV.int .i32 (Int.ofNat (l.getD 0 0)))) (.const (AV.int .i32 (Int.ofNat 31)))) .lf H0 = .ok (AV.int .i32 (Int.ofNat ((l.getD 0 0) &&& 31))) ∧ ((evQ (.sliceSl 1 (.const wl_1) (some (.const (vi 1))) (some (.const (vi 2))) none) .lf H0 = .ok (partS wl_1 1 2) ∧ ((evQ (.lenL (.const (partS wl_1 1 2))) .lf H0 = .ok (vi (((l.take 2).drop 1).length)) ∧ ((∃ A2o8 : Nat, ∃ A6o8 : Nat, ∃ A53o8 : Nat, ∃ t11 : T, ∃ h12 : Hp, (evC call N (.loop size_l1C) (ovT [(0, wl_1), (2, (vi 0)), (3, (vb8 (l.getD 0 0))), (4, (vi 2)), (5, (AV.int .i32 (Int.ofNat 128))), (6, (AV.int .i32 (Int.ofNat ((l.getD 0 0) &&& 31)))), (9, wl_1), (10, (elemP wl_1 0 1)), (11, (vb8 (l.getD 0 0))), (12, (AV.bool false)), (13, (vb8 (l.getD 0 0))), (14, (AV.bool (ltI (Int.ofNat (l.getD 0 0)) (Int.ofNat 128)))), (15, (AV.bool true)), (16, (vb8 (l.getD 0 0))), (17, (AV.bool (notB (ltI (Int.ofNat (l.getD 0 0)) (Int.ofNat 192))))), (18, (AV.bool true)), (19, (vb8 (l.getD 0 0))), (20, (AV.bool (ltI (Int.ofNat (l.getD 0 0)) (Int.ofNat 224)))), (21, (AV.bool (ltI (Int.ofNat (l.getD 0 0)) (Int.ofNat 224)))), (36, (vi 2)), (37, (AV.bool false)), (38, (AV.bool false)), (39, wl_1), (40, (vi l.length)), (41, (vi 2)), (42, (AV.bool (ltI (Int.ofNat l.length) (Int.ofNat 2)))), (43, (AV.bool false)), (44, (vb8 (l.getD 0 0))), (45, (AV.int .i32 (Int.ofNat (l.getD 0 0)))), (46, (vi 2)), (47, (AV.int .i32 (Int.ofNat 31))), (48, (AV.int .i32 (Int.ofNat ((l.getD 0 0) &&& 31)))), (49, wl_1), (50, (vi 2)), (51, (partS wl_1 1 2)), (52, (vi (((l.take 2).drop 1).length))), (53, (vi 0))] .lf) h = (.exit 1 (ovT [(2, (vi A2o8)), (4, (vi 2)), (5, (AV.int .i32 (Int.ofNat 128))), (6, (AV.int .i32 (Int.ofNat A6o8))), (51, (partS wl_1 1 2)), (52, (vi (((l.take 2).drop 1).length))), (53, (vi A53o8))] t11) h12) ∧ True ∧ ((ltI (Int.ofNat A6o8) (Int.ofNat 128) = true → KK (vi 0) h12) ∧ (ltI (Int.ofNat A6o8) (Int.ofNat 128) = false → ((ltI (Int.ofNat 1114111) (Int.ofNat A6o8) = true → KK (vi 0) h12) ∧ (ltI (Int.ofNat 1114111) (Int.ofNat A6o8) = false → ((notB (ltI (Int.ofNat A6o8) (Int.ofNat 55296)) = true → ((notB (ltI (Int.ofNat 57343) (Int.ofNat A6o8)) = true → KK (vi 0) h12) ∧ (notB (ltI (Int.ofNat 57343) (Int.ofNat A6o8)) = false → KK (vi 2) h12))) ∧ (notB (ltI (Int.ofNat A6o8) (Int.ofNat 55296)) = false → KK (vi 2) h12)))))))) ∨ (∃ y15 : Nat, ∃ v2o8 : AV, ∃ t13 : T, ∃ h14 : Hp, (evC call N (.loop size_l1C) (ovT [(0, wl_1), (2, (vi 0)), (3, (vb8 (l.getD 0 0))), (4, (vi 2)), (5, (AV.int .i32 (Int.ofNat 128))), (6, (AV.int .i32 (Int.ofNat ((l.getD 0 0) &&& 31)))), (9, wl_1), (10, (elemP wl_1 0 1)), (11, (vb8 (l.getD 0 0))), (12, (AV.bool false)), (13, (vb8 (l.getD 0 0))), (14, (AV.bool (ltI (Int.ofNat (l.getD 0 0)) (Int.ofNat 128)))), (15, (AV.bool true)), (16, (vb8 (l.getD 0 0))), (17, (AV.bool (notB (ltI (Int.ofNat (l.getD 0 0)) (Int.ofNat 192))))), (18, (AV.bool true)), (19, (vb8 (l.getD 0 0))), (20, (AV.bool (ltI (Int.ofNat (l.getD 0 0)) (Int.ofNat 224)))), (21, (AV.bool (ltI (Int.ofNat (l.getD 0 0)) (Int.ofNat 224)))), (36, (vi 2)), (37, (AV.bool false)), (38, (AV.bool false)), (39, wl_1), (40, (vi l.length)), (41, (vi 2)), (42, (AV.bool (ltI (Int.ofNat l.length) (Int.ofNat 2)))), (43, (AV.bool false)), (44, (vb8 (l.getD 0 0))), (45, (AV.int .i32 (Int.ofNat (l.getD 0 0)))), (46, (vi 2)), (47, (AV.int .i32 (Int.ofNat 31))), (48, (AV.int .i32 (Int.ofNat ((l.getD 0 0) &&& 31)))), (49, wl_1), (50, (vi 2)), (51, (partS wl_1 1 2)), (52, (vi (((l.take 2).drop 1).length))), (53, (vi 0))] .lf) h = (.ret (ovT [(2, v2o8)] t13) h14) ∧ True ∧ KK v2o8 h14)))))))))))))))) ∧ (ltI (Int.ofNat (l.getD 0 0)) (Int.ofNat 224) = false → ((evQ (.move (.const (AV.bool (notB (ltI (Int.ofNat (l.getD 0 0)) (Int.ofNat 224)))))) .lf H0 = .ok (AV.bool true) ∧ ((ltI (Int.ofNat (l.getD 0 0)) (Int.ofNat 240) = true → ((evQ (.lenL (.const wl_1)) .lf H0 = .ok (vi l.length) ∧ ((ltI (Int.ofNat l.length) (Int.ofNat 3) = true → KK (vi 0) h) ∧ (ltI (Int.ofNat l.length) (Int.ofNat 3) = false → ((evQ (.toInt .i32 (.const (vb8 (l.getD 0 0)))) .lf H0 = .ok (AV.int .i32 (Int.ofNat (l.getD 0 0))) ∧ ((evQ (.bin .and (.const (AV.int .i32 (Int.ofNat (l.getD 0 0)))) (.const (AV.int .i32 (Int.ofNat 15)))) .lf H0 = .ok (AV.int .i32 (Int.ofNat ((l.getD 0 0) &&& 15))) ∧ ((evQ (.sliceSl 1 (.const wl_1) (some (.const (vi 1))) (some (.const (vi 3))) none) .lf H0 = .ok (partS wl_1 1 3) ∧ ((evQ (.lenL (.const (partS wl_1 1 3))) .lf H0 = .ok (vi (((l.take 3).drop 1).length)) ∧ ((∃ A2o9 : Nat, ∃ A6o9 : Nat, ∃ A53o9 : Nat, ∃ t12 : T, ∃ h13 : Hp, (evC call N (.loop size_l1C) (ovT [(0, wl_1), (2, (vi 0)), (3, (vb8 (l.getD 0 0))), (4, (vi 3)), (5, (AV.int .i32 (Int.ofNat 2048))), (6, (AV.int .i32 (Int.ofNat ((l.getD 0 0) &&& 15)))), (9, wl_1), (10, (elemP wl_1 0 1)), (11, (vb8 (l.getD 0 0))), (12, (AV.bool false)), (13, (vb8 (l.getD 0 0))), (14, (AV.bool (ltI (Int.ofNat (l.getD 0 0)) (Int.ofNat 128)))), (15, (AV.bool false)), (16, (vb8 (l.getD 0 0))), (17, (AV.bool (notB (ltI (Int.ofNat (l.getD 0 0)) (Int.ofNat 192))))), (18, (AV.bool true)), (19, (vb8 (l.getD 0 0))), (20, (AV.bool (ltI (Int.ofNat (l.getD 0 0)) (Int.ofNat 224)))), (21, (AV.bool (ltI (Int.ofNat (l.getD 0 0)) (Int.ofNat 224)))), (22, (AV.bool true)), (23, (vb8 (l.getD 0 0))), (24, (AV.bool (notB (ltI (Int.ofNat (l.getD 0 0)) (Int.ofNat 224))))), (25, (AV.bool true)), (26, (vb8 (l.getD 0 0))), (27, (AV.bool (ltI (Int.ofNat (l.getD 0 0)) (Int.ofNat 240)))), (28, (AV.bool (ltI (Int.ofNat (l.getD 0 0)) (Int.ofNat 240)))), (36, (vi 3)), (37, (AV.bool false)), (38, (AV.bool false)), (39, wl_1), (40, (vi l.length)), (41, (vi 3)), (42, (AV.bool (ltI (Int.ofNat l.length) (Int.ofNat 3)))), (43, (AV.bool false)), (44, (vb8 (l.getD 0 0))), (45, (AV.int .i32 (Int.ofNat (l.getD 0 0)))), (46, (vi 3)), (47, (AV.int .i32 (Int.ofNat 15))), (48, (AV.int .i32 (Int.ofNat ((l.getD 0 0) &&& 15)))), (49, wl_1), (50, (vi 3)), (51, (partS wl_1 1 3)), (52, (vi (((l.take 3).drop 1).length))), (53, (vi 0))] .lf) h = (.exit 1 (ovT [(2, (vi A2o9)), (4, (vi 3)), (5, (AV.int .i32 (Int.ofNat 2048))), (6, (AV.int .i32 (Int.ofNat A6o9))), (51, (partS wl_1 1 3)), (52, (vi (((l.take 3).drop 1).length))), (53, (vi A53o9))] t12) h13) ∧ True ∧ ((ltI (Int.ofNat A6o9) (Int.ofNat 2048) = true → KK (vi 0) h13) ∧ (ltI (Int.ofNat A6o9) (Int.ofNat 2048) = false → ((ltI (Int.ofNat 1114111) (Int.ofNat A6o9) = true → KK (vi 0) h13) ∧ (ltI (Int.ofNat 1114111) (Int.ofNat A6o9) = false → ((notB (ltI (Int.ofNat A6o9) (Int.ofNat 55296)) = true → ((notB (ltI (Int.ofNat 57343) (Int.ofNat A6o9)) = true → KK (vi 0) h13) ∧ (notB (ltI (Int.ofNat 57343) (Int.ofNat A6o9)) = false → KK (vi 3) h13))) ∧ (notB (ltI (Int.ofNat A6o9) (Int.ofNat 55296)) = false → KK (vi 3) h13)))))))) ∨ (∃ y16 : Nat, ∃ v2o9 : AV, ∃ t14 : T, ∃ h15 : Hp, (evC call N (.loop size_l1C) (ovT [(0, wl_1), (2, (vi 0)), (3, (vb8 (l.getD 0 0))), (4, (vi 3)), (5, (AV.int .i32 (Int.ofNat 2048))), (6, (AV.int .i32 (Int.ofNat ((l.getD 0 0) &&& 15)))), (9, wl_1), (10, (elemP wl_1 0 1)), (11, (vb8 (l.getD 0 0))), (12, (AV.bool false)), (13, (vb8 (l.getD 0 0))), (14, (AV.bool (ltI (Int.ofNat (l.getD 0 0)) (Int.ofNat 128)))), (15, (AV.bool false)), (16, (vb8 (l.getD 0 0))), (17, (AV.bool (notB (ltI (Int.ofNat (l.getD 0 0)) (Int.ofNat 192))))), (18, (AV.bool true)), (19, (vb8 (l.getD 0 0))), (20, (AV.bool (ltI (Int.ofNat (l.getD 0 0)) (Int.ofNat 224)))), (21, (AV.bool (ltI (Int.ofNat (l.getD 0 0)) (Int.ofNat 224)))), (22, (AV.bool true)), (23, (vb8 (l.getD 0 0))), (24, (AV.bool (notB (ltI (Int.ofNat (l.getD 0 0)) (Int.ofNat 224))))), (25, (AV.bool true)), (26, (vb8 (l.getD 0 0))), (27, (AV.bool (ltI (Int.ofNat (l.getD 0 0)) (Int.ofNat 240)))), (28, (AV.bool (ltI (Int.ofNat (l.getD 0 0)) (Int.ofNat 240)))), (36, (vi 3)), (37, (AV.bool false)), (38, (AV.bool false)), (39, wl_1), (40, (vi l.length)), (41, (vi 3)), (42, (AV.bool (ltI (Int.ofNat l.length) (Int.ofNat 3)))), (43, (AV.bool false)), (44, (vb8 (l.getD 0 0))), (45, (AV.int .i32 (Int.ofNat (l.getD 0 0)))), (46, (vi 3)), (47, (AV.int .i32 (Int.ofNat 15))), (48, (AV.int .i32 (Int.ofNat ((l.getD 0 0) &&& 15)))), (49, wl_1), (50, (vi 3)), (51, (partS wl_1 1 3)), (52, (vi (((l.take 3).drop 1).length))), (53, (vi 0))] .lf) h = (.ret (ovT [(2, v2o9)] t14) h15) ∧ True ∧ KK v2o9 h15)))))))))))))))) ∧ (ltI (Int.ofNat (l.getD 0 0)) (Int.ofNat 240) = false → ((evQ (.move (.const (AV.bool (notB (ltI (Int.ofNat (l.getD 0 0)) (Int.ofNat 240)))))) .lf H0 = .ok (AV.bool true) ∧ ((ltI (Int.ofNat (l.getD 0 0)) (Int.ofNat 248) = true → ((evQ (.lenL (.const wl_1)) .lf H0 = .ok (vi l.length) ∧ ((ltI (Int.ofNat l.length) (Int.ofNat 4) = true → KK (vi 0) h) ∧ (ltI (Int.ofNat l.length) (Int.ofNat 4) = false → ((evQ (.toInt .i32 (.const (vb8 (l.getD 0 0)))) .lf H0 = .ok (AV.int .i32 (Int.ofNat (l.getD 0 0))) ∧ ((evQ (.bin .and (.const (AV.int .i32 (Int.ofNat (l.getD 0 0)))) (.const (AV.int .i32 (Int.ofNat 7)))) .lf H0 = .ok (AV.int .i32 (Int.ofNat ((l.getD 0 0) &&& 7))) ∧ ((evQ (.sliceSl 1 (.const wl_1) (some (.const (vi 1))) (some (.const (vi 4))) none) .lf H0 = .ok (partS wl_1 1 4) ∧ ((evQ (.lenL (.const (partS wl_1 1 4))) .lf H0 = .ok (vi (((l.take 4).drop 1).length)) ∧ ((∃ A2o10 : Nat, ∃ A6o10 : Nat, ∃ A53o10 : Nat, ∃ t13 : T, ∃ h14 : Hp, (evC call N (.loop size_l1C) (ovT [(0, wl_1), (2, (vi 0)), (3, (vb8 (l.getD 0 0))), (4, (vi 4)), (5, (AV.int .i32 (Int.ofNat 65536))), (6, (AV.int .i32 (Int.ofNat ((l.getD 0 0) &&& 7)))), (9, wl_1), (10, (elemP wl_1 0 1)), (11, (vb8 (l.getD 0 0))), (12, (AV.bool false)), (13, (vb8 (l.getD 0 0))), (14, (AV.bool (ltI (Int.ofNat (l.getD 0 0)) (Int.ofNat 128)))), (15, (AV.bool false)), (16, (vb8 (l.getD 0 0))), (17, (AV.bool (notB (ltI (Int.ofNat (l.getD 0 0)) (Int.ofNat 192))))), (18, (AV.bool true)), (19, (vb8 (l.getD 0 0))), (20, (AV.bool (ltI (Int.ofNat (l.getD 0 0)) (Int.ofNat 224)))), (21, (AV.bool (ltI (Int.ofNat (l.getD 0 0)) (Int.ofNat 224)))), (22, (AV.bool false)), (23, (vb8 (l.getD 0 0))), (24, (AV.bool (notB (ltI (Int.ofNat (l.getD 0 0)) (Int.ofNat 224))))), (25, (AV.bool true)), (26, (vb8 (l.getD 0 0))), (27, (AV.bool (ltI (Int.ofNat (l.getD 0 0)) (Int.ofNat 240)))), (28, (AV.bool (ltI (Int.ofNat (l.getD 0 0)) (Int.ofNat 240)))), (29, (AV.bool true)), (30, (vb8 (l.getD 0 0))), (31, (AV.bool (notB (ltI (Int.ofNat (l.getD 0 0)) (Int.ofNat 240))))), (32, (AV.bool true)), (33, (vb8 (l.getD 0 0))), (34, (AV.bool (ltI (Int.ofNat (l.getD 0 0)) (Int.ofNat 248)))), (35, (AV.bool (ltI (Int.ofNat (l.getD 0 0)) (Int.ofNat 248)))), (36, (vi 4)), (37, (AV.bool false)), (38, (AV.bool false)), (39, wl_1), (40, (vi l.length)), (41, (vi 4)), (42, (AV.bool (ltI (Int.ofNat l.length) (Int.ofNat 4)))), (43, (AV.bool false)), (44, (vb8 (l.getD 0 0))), (45, (AV.int .i32 (Int.ofNat (l.getD 0 0)))), (46, (vi 4)), (47, (AV.int .i32 (Int.ofNat 7))), (48, (AV.int .i32 (Int.ofNat ((l.getD 0 0) &&& 7)))), (49, wl_1), (50, (vi 4)), (51, (partS wl_1 1 4)), (52, (vi (((l.take 4).drop 1).length))), (53, (vi 0))] .lf) h = (.exit 1 (ovT [(2, (vi A2o10)), (4, (vi 4)), (5, (AV.int .i32 (Int.ofNat 65536))), (6, (AV.int .i32 (Int.ofNat A6o10))), (51, (partS wl_1 1 4)), (52, (vi (((l.take 4).drop 1).length))), (53, (vi A53o10))] t13) h14) ∧ True ∧ ((ltI (Int.ofNat A6o10) (Int.ofNat 65536) = true → KK (vi 0) h14) ∧ (ltI (Int.ofNat A6o10) (Int.ofNat 65536) = false → ((ltI (Int.ofNat 1114111) (Int.ofNat A6o10) = true → KK (vi 0) h14) ∧ (ltI (Int.ofNat 1114111) (Int.ofNat A6o10) = false → ((notB (ltI (Int.ofNat A6o10) (Int.ofNat 55296)) = true → ((notB (ltI (Int.ofNat 57343) (Int.ofNat A6o10)) = true → KK (vi 0) h14) ∧ (notB (ltI (Int.ofNat 57343) (Int.ofNat A6o10)) = false → KK (vi 4) h14))) ∧ (notB (ltI (Int.ofNat A6o10) (Int.ofNat 55296)) = false → KK (vi 4) h14)))))))) ∨ (∃ y17 : Nat, ∃ v2o10 : AV, ∃ t15 : T, ∃ h16 : Hp, (evC call N (.loop size_l1C) (ovT [(0, wl_1), (2, (vi 0)), (3, (vb8 (l.getD 0 0))), (4, (vi 4)), (5, (AV.int .i32 (Int.ofNat 65536))), (6, (AV.int .i32 (Int.ofNat ((l.getD 0 0) &&& 7)))), (9, wl_1), (10, (elemP wl_1 0 1)), (11, (vb8 (l.getD 0 0))), (12, (AV.bool false)), (13, (vb8 (l.getD 0 0))), (14, (AV.bool (ltI (Int.ofNat (l.getD 0 0)) (Int.ofNat 128)))), (15, (AV.bool false)), (16, (vb8 (l.getD 0 0))), (17, (AV.bool (notB (ltI (Int.ofNat (l.getD 0 0)) (Int.ofNat 192))))), (18, (AV.bool true)), (19, (vb8 (l.getD 0 0))), (20, (AV.bool (ltI (Int.ofNat (l.getD 0 0)) (Int.ofNat 224)))), (21, (AV.bool (ltI (Int.ofNat (l.getD 0 0)) (Int.ofNat 224)))), (22, (AV.bool false)), (23, (vb8 (l.getD 0 0))), (24, (AV.bool (notB (ltI (Int.ofNat (l.getD 0 0)) (Int.ofNat 224))))), (25, (AV.bool true)), (26, (vb8 (l.getD 0 0))), (27, (AV.bool (ltI (Int.ofNat (l.getD 0 0)) (Int.ofNat 240)))), (28, (AV.bool (ltI (Int.ofNat (l.getD 0 0)) (Int.ofNat 240)))), (29, (AV.bool true)), (30, (vb8 (l.getD 0 0))), (31, (AV.bool (notB (ltI (Int.ofNat (l.getD 0 0)) (Int.ofNat 240))))), (32, (AV.bool true)), (33, (vb8 (l.getD 0 0))), (34, (AV.bool (ltI (Int.ofNat (l.getD 0 0)) (Int.ofNat 248)))), (35, (AV.bool (ltI (Int.ofNat (l.getD 0 0)) (Int.ofNat 248)))), (36, (vi 4)), (37, (AV.bool false)), (38, (AV.bool false)), (39, wl_1), (40, (vi l.length)), (41, (vi 4)), (42, (AV.bool (ltI (Int.ofNat l.length) (Int.ofNat 4)))), (43, (AV.bool false)), (44, (vb8 (l.getD 0 0))), (45, (AV.int .i32 (Int.ofNat (l.getD 0 0)))), (46, (vi 4)), (47, (AV.int .i32 (Int.ofNat 7))), (48, (AV.int .i32 (Int.ofNat ((l.getD 0 0) &&& 7)))), (49, wl_1), (50, (vi 4)), (51, (partS wl_1 1 4)), (52, (vi (((l.take 4).drop 1).length))), (53, (vi 0))] .lf) h = (.ret (ovT [(2, v2o10)] t15) h16) ∧ True ∧ KK v2o10 h16)))))))))))))))) ∧ (ltI (Int.ofNat (l.getD 0 0)) (Int.ofNat 248) = false → KK (vi 0) h))))))))))) ∧ (notB (ltI (Int.ofNat (l.getD 0 0)) (Int.ofNat 192)) = false → ((notB (ltI (Int.ofNat (l.getD 0 0)) (Int.ofNat 224)) = true → ((ltI (Int.ofNat (l.getD 0 0)) (Int.ofNat 240) = true → ((evQ (.lenL (.const wl_1)) .lf H0 = .ok (vi l.length) ∧ ((ltI (Int.ofNat l.length) (Int.ofNat 3) = true → KK (vi 0) h) ∧ (ltI (Int.ofNat l.length) (Int.ofNat 3) = false → ((evQ (.toInt .i32 (.const (vb8 (l.getD 0 0)))) .lf H0 = .ok (AV.int .i32 (Int.ofNat (l.getD 0 0))) ∧ ((evQ (.bin .and (.const (AV.int .i32 (Int.ofNat (l.getD 0 0)))) (.const (AV.int .i32 (Int.ofNat 15)))) .lf H0 = .ok (AV.int .i32 (Int.ofNat ((l.getD 0 0) &&& 15))) ∧ ((evQ (.sliceSl 1 (.const wl_1) (some (.const (vi 1))) (some (.const (vi 3))) none) .lf H0 = .ok (partS wl_1 1 3) ∧ ((evQ (.lenL (.const (partS wl_1 1 3))) .lf H0 = .ok (vi (((l.take 3).drop 1).length)) ∧ ((∃ A2o9 : Nat, ∃ A6o9 : Nat, ∃ A53o9 : Nat, ∃ t12 : T, ∃ h13 : Hp, (evC call N (.loop size_l1C) (ovT [(0, wl_1), (2, (vi 0)), (3, (vb8 (l.getD 0 0))), (4, (vi 3)), (5, (AV.int .i32 (Int.ofNat 2048))), (6, (AV.int .i32 (Int.ofNat ((l.getD 0 0) &&& 15)))), (9, wl_1), (10, (elemP wl_1 0 1)), (11, (vb8 (l.getD 0 0))), (12, (AV.bool false)), (13, (vb8 (l.getD 0 0))), (14, (AV.bool (ltI (Int.ofNat (l.getD 0 0)) (Int.ofNat 128)))), (15, (AV.bool false)), (16, (vb8 (l.getD 0 0))), (17, (AV.bool (notB (ltI (Int.ofNat (l.getD 0 0)) (Int.ofNat 192))))), (18, (AV.bool false)), (19, (AV.tuple [])), (20, (AV.tuple [])), (21, (AV.bool false)), (22, (AV.bool true)), (23, (vb8 (l.getD 0 0))), (24, (AV.bool (notB (ltI (Int.ofNat (l.getD 0 0)) (Int.ofNat 224))))), (25, (AV.bool true)), (26, (vb8 (l.getD 0 0))), (27, (AV.bool (ltI (Int.ofNat (l.getD 0 0)) (Int.ofNat 240)))), (28, (AV.bool (ltI (Int.ofNat (l.getD 0 0)) (Int.ofNat 240)))), (36, (vi 3)), (37, (AV.bool false)), (38, (AV.bool false)), (39, wl_1), (40, (vi l.length)), (41, (vi 3)), (42, (AV.bool (ltI (Int.ofNat l.length) (Int.ofNat 3)))), (43, (AV.bool false)), (44, (vb8 (l.getD 0 0))), (45, (AV.int .i32 (Int.ofNat (l.getD 0 0)))), (46, (vi 3)), (47, (AV.int .i32 (Int.ofNat 15))), (48, (AV.int .i32 (Int.ofNat ((l.getD 0 0) &&& 15)))), (49, wl_1), (50, (vi 3)), (51, (partS wl_1 1 3)), (52, (vi (((l.take 3).drop 1).length))), (53, (vi 0))] .lf) h = (.exit 1 (ovT [(2, (vi A2o9)), (4, (vi 3)), (5, (AV.int .i32 (Int.ofNat 2048))), (6, (AV.int .i32 (Int.ofNat A6o9))), (51, (partS wl_1 1 3)), (52, (vi (((l.take 3).drop 1).length))), (53, (vi A53o9))] t12) h13) ∧ True ∧ ((ltI (Int.ofNat A6o9) (Int.ofNat 2048) = true → KK (vi 0) h13) ∧ (ltI (Int.ofNat A6o9) (Int.ofNat 2048) = false → ((ltI (Int.ofNat 1114111) (Int.ofNat A6o9) = true → KK (vi 0) h13) ∧ (ltI (Int.ofNat 1114111) (Int.ofNat A6o9) = false → ((notB (ltI (Int.ofNat A6o9) (Int.ofNat 55296)) = true → ((notB (ltI (Int.ofNat 57343) (Int.ofNat A6o9)) = true → KK (vi 0) h13) ∧ (notB (ltI (Int.ofNat 57343) (Int.ofNat A6o9)) = false → KK (vi 3) h13))) ∧ (notB (ltI (Int.ofNat A6o9) (Int.ofNat 55296)) = false → KK (vi 3) h13)))))))) ∨ (∃ y16 : Nat, ∃ v2o9 : AV, ∃ t14 : T, ∃ h15 : Hp, (evC call N (.loop size_l1C) (ovT [(0, wl_1), (2, (vi 0)), (3, (vb8 (l.getD 0 0))), (4, (vi 3)), (5, (AV.int .i32 (Int.ofNat 2048))), (6, (AV.int .i32 (Int.ofNat ((l.getD 0 0) &&& 15)))), (9, wl_1), (10, (elemP wl_1 0 1)), (11, (vb8 (l.getD 0 0))), (12, (AV.bool false)), (13, (vb8 (l.getD 0 0))), (14, (AV.bool (ltI (Int.ofNat (l.getD 0 0)) (Int.ofNat 128)))), (15, (AV.bool false)), (16, (vb8 (l.getD 0 0))), (17, (AV.bool (notB (ltI (Int.ofNat (l.getD 0 0)) (Int.ofNat 192))))), (18, (AV.bool false)), (19, (AV.tuple [])), (20, (AV.tuple [])), (21, (AV.bool false)), (22, (AV.bool true)), (23, (vb8 (l.getD 0 0))), (24, (AV.bool (notB (ltI (Int.ofNat (l.getD 0 0)) (Int.ofNat 224))))), (25, (AV.bool true)), (26, (vb8 (l.getD 0 0))), (27, (AV.bool (ltI (Int.ofNat (l.getD 0 0)) (Int.ofNat 240)))), (28, (AV.bool (ltI (Int.ofNat (l.getD 0 0)) (Int.ofNat 240)))), (36, (vi 3)), (37, (AV.bool false)), (38, (AV.bool false)), (39, wl_1), (40, (vi l.length)), (41, (vi 3)), (42, (AV.bool (ltI (Int.ofNat l.length) (Int.ofNat 3)))), (43, (AV.bool false)), (44, (vb8 (l.getD 0 0))), (45, (AV.int .i32 (Int.ofNat (l.getD 0 0)))), (46, (vi 3)), (47, (AV.int .i32 (Int.ofNat 15))), (48, (AV.int .i32 (Int.ofNat ((l.getD 0 0) &&& 15)))), (49, wl_1), (50, (vi 3)), (51, (partS wl_1 1 3)), (52, (vi (((l.take 3).drop 1).length))), (53, (vi 0))] .lf) h = (.ret (ovT [(2, v2o9)] t14) h15) ∧ True ∧ KK v2o9 h15)))))))))))))))) ∧ (ltI (Int.ofNat (l.getD 0 0)) (Int.ofNat 240) = false → ((evQ (.move (.const (AV.bool (notB (ltI (Int.ofNat (l.getD 0 0)) (Int.ofNat 240)))))) .lf H0 = .ok (AV.bool true) ∧ ((ltI (Int.ofNat (l.getD 0 0)) (Int.ofNat 248) = true → ((evQ (.lenL (.const wl_1)) .lf H0 = .ok (vi l.length) ∧ ((ltI (Int.ofNat l.length) (Int.ofNat 4) = true → KK (vi 0) h) ∧ (ltI (Int.ofNat l.length) (Int.ofNat 4) = false → ((evQ (.toInt .i32 (.const (vb8 (l.getD 0 0)))) .lf H0 = .ok (AV.int .i32 (Int.ofNat (l.getD 0 0))) ∧ ((evQ (.bin .and (.const (AV.int .i32 (Int.ofNat (l.getD 0 0)))) (.const (AV.int .i32 (Int.ofNat 7)))) .lf H0 = .ok (AV.int .i32 (Int.ofNat ((l.getD 0 0) &&& 7))) ∧ ((evQ (.sliceSl 1 (.const wl_1) (some (.const (vi 1))) (some (.const (vi 4))) none) .lf H0 = .ok (partS wl_1 1 4) ∧ ((evQ (.lenL (.const (partS wl_1 1 4))) .lf H0 = .ok (vi (((l.take 4).drop 1).length)) ∧ ((∃ A2o10 : Nat, ∃ A6o10 : Nat, ∃ A53o10 : Nat, ∃ t13 : T, ∃ h14 : Hp, (evC call N (.loop size_l1C) (ovT [(0, wl_1), (2, (vi 0)), (3, (vb8 (l.getD 0 0))), (4, (vi 4)), (5, (AV.int .i32 (Int.ofNat 65536))), (6, (AV.int .i32 (Int.ofNat ((l.getD 0 0) &&& 7)))), (9, wl_1), (10, (elemP wl_1 0 1)), (11, (vb8 (l.getD 0 0))), (12, (AV.bool false)), (13, (vb8 (l.getD 0 0))), (14, (AV.bool (ltI (Int.ofNat (l.getD 0 0)) (Int.ofNat 128)))), (15, (AV.bool false)), (16, (vb8 (l.getD 0 0))), (17, (AV.bool (notB (ltI (Int.ofNat (l.getD 0 0)) (Int.ofNat 192))))), (18, (AV.bool false)), (19, (AV.tuple [])), (20, (AV.tuple [])), (21, (AV.bool false)), (22, (AV.bool false)), (23, (vb8 (l.getD 0 0))), (24, (AV.bool (notB (ltI (Int.ofNat (l.getD 0 0)) (Int.ofNat 224))))), (25, (AV.bool true)), (26, (vb8 (l.getD 0 0))), (27, (AV.bool (ltI (Int.ofNat (l.getD 0 0)) (Int.ofNat 240)))), (28, (AV.bool (ltI (Int.ofNat (l.getD 0 0)) (Int.ofNat 240)))), (29, (AV.bool true)), (30, (vb8 (l.getD 0 0))), (31, (AV.bool (notB (ltI (Int.ofNat (l.getD 0 0)) (Int.ofNat 240))))), (32, (AV.bool true)), (33, (vb8 (l.getD 0 0))), (34, (AV.bool (ltI (Int.ofNat (l.getD 0 0)) (Int.ofNat 248)))), (35, (AV.bool (ltI (Int.ofNat (l.getD 0 0)) (Int.ofNat 248)))), (36, (vi 4)), (37, (AV.bool false)), (38, (AV.bool false)), (39, wl_1), (40, (vi l.length)), (41, (vi 4)), (42, (AV.bool (ltI (Int.ofNat l.length) (Int.ofNat 4)))), (43, (AV.bool false)), (44, (vb8 (l.getD 0 0))), (45, (AV.int .i32 (Int.ofNat (l.getD 0 0)))), (46, (vi 4)), (47, (AV.int .i32 (Int.ofNat 7))), (48, (AV.int .i32 (Int.ofNat ((l.getD 0 0) &&& 7)))), (49, wl_1), (50, (vi 4)), (51, (partS wl_1 1 4)), (52, (vi (((l.take 4).drop 1).length))), (53, (vi 0))] .lf) h = (.exit 1 (ovT [(2, (vi A2o10)), (4, (vi 4)), (5, (AV.int .i32 (Int.ofNat 65536))), (6, (AV.int .i32 (Int.ofNat A6o10))), (51, (partS wl_1 1 4)), (52, (vi (((l.take 4).drop 1).length))), (53, (vi A53o10))] t13) h14) ∧ True ∧ ((ltI (Int.ofNat A6o10) (Int.ofNat 65536) = true → KK (vi 0) h14) ∧ (ltI (Int.ofNat A6o10) (Int.ofNat 65536) = false → ((ltI (Int.ofNat 1114111) (Int.ofNat A6o10) = true → KK (vi 0) h14) ∧ (ltI (Int.ofNat 1114111) (Int.ofNat A6o10) = false → ((notB (ltI (Int.ofNat A6o10) (Int.ofNat 55296)) = true → ((notB (ltI (Int.ofNat 57343) (Int.ofNat A6o10)) = true → KK (vi 0) h14) ∧ (notB (ltI (Int.ofNat 57343) (Int.ofNat A6o10)) = false → KK (vi 4) h14))) ∧ (notB (ltI (Int.ofNat A6o10) (Int.ofNat 55296)) = false → KK (vi 4) h14)))))))) ∨ (∃ y17 : Nat, ∃ v2o10 : AV, ∃ t15 : T, ∃ h16 : Hp, (evC call N (.loop size_l1C) (ovT [(0, wl_1), (2, (vi 0)), (3, (vb8 (l.getD 0 0))), (4, (vi 4)), (5, (AV.int .i32 (Int.ofNat 65536))), (6, (AV.int .i32 (Int.ofNat ((l.getD 0 0) &&& 7)))), (9, wl_1), (10, (elemP wl_1 0 1)), (11, (vb8 (l.getD 0 0))), (12, (AV.bool false)), (13, (vb8 (l.getD 0 0))), (14, (AV.bool (ltI (Int.ofNat (l.getD 0 0)) (Int.ofNat 128)))), (15, (AV.bool false)), (16, (vb8 (l.getD 0 0))), (17, (AV.bool (notB (ltI (Int.ofNat (l.getD 0 0)) (Int.ofNat 192))))), (18, (AV.bool false)), (19, (AV.tuple [])), (20, (AV.tuple [])), (21, (AV.bool false)), (22, (AV.bool false)), (23, (vb8 (l.getD 0 0))), (24, (AV.bool (notB (ltI (Int.ofNat (l.getD 0 0)) (Int.ofNat 224))))), (25, (AV.bool true)), (26, (vb8 (l.getD 0 0))), (27, (AV.bool (ltI (Int.ofNat (l.getD 0 0)) (Int.ofNat 240)))), (28, (AV.bool (ltI (Int.ofNat (l.getD 0 0)) (Int.ofNat 240)))), (29, (AV.bool true)), (30, (vb8 (l.getD 0 0))), (31, (AV.bool (notB (ltI (Int.ofNat (l.getD 0 0)) (Int.ofNat 240))))), (32, (AV.bool true)), (33, (vb8 (l.getD 0 0))), (34, (AV.bool (ltI (Int.ofNat (l.getD 0 0)) (Int.ofNat 248)))), (35, (AV.bool (ltI (Int.ofNat (l.getD 0 0)) (Int.ofNat 248)))), (36, (vi 4)), (37, (AV.bool false)), (38, (AV.bool false)), (39, wl_1), (40, (vi l.length)), (41, (vi 4)), (42, (AV.bool (ltI (Int.ofNat l.length) (Int.ofNat 4)))), (43, (AV.bool false)), (44, (vb8 (l.getD 0 0))), (45, (AV.int .i32 (Int.ofNat (l.getD 0 0)))), (46, (vi 4)), (47, (AV.int .i32 (Int.ofNat 7))), (48, (AV.int .i32 (Int.ofNat ((l.getD 0 0) &&& 7)))), (49, wl_1), (50, (vi 4)), (51, (partS wl_1 1 4)), (52, (vi (((l.take 4).drop 1).length))), (53, (vi 0))] .lf) h = (.ret (ovT [(2, v2o10)] t15) h16) ∧ True ∧ KK v2o10 h16)))))))))))))))) ∧ (ltI (Int.ofNat (l.getD 0 0)) (Int.ofNat 248) = false → KK (vi 0) h))))))) ∧ (notB (ltI (Int.ofNat (l.getD 0 0)) (Int.ofNat 224)) = false → ((notB (ltI (Int.ofNat (l.getD 0 0)) (Int.ofNat 240)) = true → ((ltI (Int.ofNat (l.getD 0 0)) (Int.ofNat 248) = true → ((evQ (.lenL (.const wl_1)) .lf H0 = .ok (vi l.length) ∧ ((ltI (Int.ofNat l.length) (Int.ofNat 4) = true → KK (vi 0) h) ∧ (ltI (Int.ofNat l.length) (Int.ofNat 4) = false → ((evQ (.toInt .i32 (.const (vb8 (l.getD 0 0)))) .lf H0 = .ok (AV.int .i32 (Int.ofNat (l.getD 0 0))) ∧ ((evQ (.bin .and (.const (AV.int .i32 (Int.ofNat (l.getD 0 0)))) (.const (AV.int .i32 (Int.ofNat 7)))) .lf H0 = .ok (AV.int .i32 (Int.ofNat ((l.getD 0 0) &&& 7))) ∧ ((evQ (.sliceSl 1 (.const wl_1) (some (.const (vi 1))) (some (.const (vi 4))) none) .lf H0 = .ok (partS wl_1 1 4) ∧ ((evQ (.lenL (.const (partS wl_1 1 4))) .lf H0 = .ok (vi (((l.take 4).drop 1).length)) ∧ ((∃ A2o10 : Nat, ∃ A6o10 : Nat, ∃ A53o10 : Nat, ∃ t13 : T, ∃ h14 : Hp, (evC call N (.loop size_l1C) (ovT [(0, wl_1), (2, (vi 0)), (3, (vb8 (l.getD 0 0))), (4, (vi 4)), (5, (AV.int .i32 (Int.ofNat 65536))), (6, (AV.int .i32 (Int.ofNat ((l.getD 0 0) &&& 7)))), (9, wl_1), (10, (elemP wl_1 0 1)), (11, (vb8 (l.getD 0 0))), (12, (AV.bool false)), (13, (vb8 (l.getD 0 0))), (14, (AV.bool (ltI (Int.ofNat (l.getD 0 0)) (Int.ofNat 128)))), (15, (AV.bool false)), (16, (vb8 (l.getD 0 0))), (17, (AV.bool (notB (ltI (Int.ofNat (l.getD 0 0)) (Int.ofNat 192))))), (18, (AV.bool false)), (19, (AV.tuple [])), (20, (AV.tuple [])), (21, (AV.bool false)), (22, (AV.bool false)), (23, (vb8 (l.getD 0 0))), (24, (AV.bool (notB (ltI (Int.ofNat (l.getD 0 0)) (Int.ofNat 224))))), (25, (AV.bool false)), (26, (AV.tuple [])), (27, (AV.tuple [])), (28, (AV.bool false)), (29, (AV.bool true)), (30, (vb8 (l.getD 0 0))), (31, (AV.bool (notB (ltI (Int.ofNat (l.getD 0 0)) (Int.ofNat 240))))), (32, (AV.bool true)), (33, (vb8 (l.getD 0 0))), (34, (AV.bool (ltI (Int.ofNat (l.getD 0 0)) (Int.ofNat 248)))), (35, (AV.bool (ltI (Int.ofNat (l.getD 0 0)) (Int.ofNat 248)))), (36, (vi 4)), (37, (AV.bool false)), (38, (AV.bool false)), (39, wl_1), (40, (vi l.length)), (41, (vi 4)), (42, (AV.bool (ltI (Int.ofNat l.length) (Int.ofNat 4)))), (43, (AV.bool false)), (44, (vb8 (l.getD 0 0))), (45, (AV.int .i32 (Int.ofNat (l.getD 0 0)))), (46, (vi 4)), (47, (AV.int .i32 (Int.ofNat 7))), (48, (AV.int .i32 (Int.ofNat ((l.getD 0 0) &&& 7)))), (49, wl_1), (50, (vi 4)), (51, (partS wl_1 1 4)), (52, (vi (((l.take 4).drop 1).length))), (53, (vi 0))] .lf) h = (.exit 1 (ovT [(2, (vi A2o10)), (4, (vi 4)), (5, (AV.int .i32 (Int.ofNat 65536))), (6, (AV.int .i32 (Int.ofNat A6o10))), (51, (partS wl_1 1 4)), (52, (vi (((l.take 4).drop 1).length))), (53, (vi A53o10))] t13) h14) ∧ True ∧ ((ltI (Int.ofNat A6o10) (Int.ofNat 65536) = true → KK (vi 0) h14) ∧ (ltI (Int.ofNat A6o10) (Int.ofNat 65536) = false → ((ltI (Int.ofNat 1114111) (Int.ofNat A6o10) = true → KK (vi 0) h14) ∧ (ltI (Int.ofNat 1114111) (Int.ofNat A6o10) = false → ((notB (ltI (Int.ofNat A6o10) (Int.ofNat 55296)) = true → ((notB (ltI (Int.ofNat 57343) (Int.ofNat A6o10)) = true → KK (vi 0) h14) ∧ (notB (ltI (Int.ofNat 57343) (Int.ofNat A6o10)) = false → KK (vi 4) h14))) ∧ (notB (ltI (Int.ofNat A6o10) (Int.ofNat 55296)) = false → KK (vi 4) h14)))))))) ∨ (∃ y17 : Nat, ∃ v2o10 : AV, ∃ t15 : T, ∃ h16 : Hp, (evC call N (.loop size_l1C) (ovT [(0, wl_1), (2, (vi 0)), (3, (vb8 (l.getD 0 0))), (4, (vi 4)), (5, (AV.int .i32 (Int.ofNat 65536))), (6, (AV.int .i32 (Int.ofNat ((l.getD 0 0) &&& 7)))), (9, wl_1), (10, (elemP wl_1 0 1)), (11, (vb8 (l.getD 0 0))), (12, (AV.bool false)), (13, (vb8 (l.getD 0 0))), (14, (AV.bool (ltI (Int.ofNat (l.getD 0 0)) (Int.ofNat 128)))), (15, (AV.bool false)), (16, (vb8 (l.getD 0 0))), (17, (AV.bool (notB (ltI (Int.ofNat (l.getD 0 0)) (Int.ofNat 192))))), (18, (AV.bool false)), (19, (AV.tuple [])), (20, (AV.tuple [])), (21, (AV.bool false)), (22, (AV.bool false)), (23, (vb8 (l.getD 0 0))), (24, (AV.bool (notB (ltI (Int.ofNat (l.getD 0 0)) (Int.ofNat 224))))), (25, (AV.bool false)), (26, (AV.tuple [])), (27, (AV.tuple [])), (28, (AV.bool false)), (29, (AV.bool true)), (30, (vb8 (l.getD 0 0))), (31, (AV.bool (notB (ltI (Int.ofNat (l.getD 0 0)) (Int.ofNat 240))))), (32, (AV.bool true)), (33, (vb8 (l.getD 0 0))), (34, (AV.bool (ltI (Int.ofNat (l.getD 0 0)) (Int.ofNat 248)))), (35, (AV.bool (ltI (Int.ofNat (l.getD 0 0)) (Int.ofNat 248)))), (36, (vi 4)), (37, (AV.bool false)), (38, (AV.bool false)), (39, wl_1), (40, (vi l.length)), (41, (vi 4)), (42, (AV.bool (ltI (Int.ofNat l.length) (Int.ofNat 4)))), (43, (AV.bool false)), (44, (vb8 (l.getD 0 0))), (45, (AV.int .i32 (Int.ofNat (l.getD 0 0)))), (46, (vi 4)), (47, (AV.int .i32 (Int.ofNat 7))), (48, (AV.int .i32 (Int.ofNat ((l.getD 0 0) &&& 7)))), (49, wl_1), (50, (vi 4)), (51, (partS wl_1 1 4)), (52, (vi (((l.take 4).drop 1).length))), (53, (vi 0))] .lf) h = (.ret (ovT [(2, v2o10)] t15) h16) ∧ True ∧ KK v2o10 h16)))))))))))))))) ∧ (ltI (Int.ofNat (l.getD 0 0)) (Int.ofNat 248) = false → KK (vi 0) h))) ∧ (notB (ltI (Int.ofNat (l.getD 0 0)) (Int.ofNat 240)) = false → KK (vi 0) h))))))))))))) (fun (rv : AV) (rh : Hp) => rv = (vi r) ∧ (r < 9223372036854775808) ∧ Eng.Sep (Frz (Low h) h :: []) rh)) (by kernel_rfl) ?_
  have ⟨g1, hp⟩ := gd_inv hp
  refine ⟨q_idxB (l := l) (BIn.now S (i := 0) rfl fl_2) g1, ?_⟩
  refine ⟨q_byte (l := l) (BIn.now S (i := 0) rfl fl_2) g1, ?_⟩
  have x2 : l.getD 0 0 < 256 := getD_lt (BIn.now S (i := 0) rfl fl_2).lt 0
  refine ⟨fun c3 => ?_, fun c3 => ?_⟩
  · replace c3 := ltI_t c3
    replace hp := ift hp c3
    obtain rfl := Option.some.inj hp
    exact ⟨rfl, (show 1 < 9223372036854775808 by decide), S⟩
  replace c3 := ltI_f c3
  replace hp := iff0 hp (nltO c3)
  refine ⟨fun c4 => ?_, fun c4 => ?_⟩
  · replace c4 := ltI_f (notB_t c4)
    replace hp := ift hp c4
    refine ⟨fun c5 => ?_, fun c5 => ?_⟩
    · replace c5 := ltI_t c5
      replace hp := ift hp c5
      refine ⟨q_len (BIn.now S (i := 0) rfl fl_2), ?_⟩
      refine ⟨fun c6 => ?_, fun c6 => ?_⟩
      · replace c6 := ltI_t c6
        replace hp := ift hp c6
        obtain rfl := Option.some.inj hp
        exact ⟨rfl, (show 0 < 9223372036854775808 by decide), S⟩
      replace c6 := ltI_f c6
      replace hp := iff0 hp (nltO c6)
      refine ⟨i32_conv (Nat.lt_of_lt_of_le x2 (by decide)), ?_⟩
      refine ⟨i32_and (Nat.lt_of_lt_of_le x2 (by decide)) (by decide), ?_⟩
      refine ⟨q_slice (l := l) (BIn.now S (i := 0) rfl fl_2) (by omega) c6, ?_⟩
      have b7 := BIn.part (l := l) (lo := 1) (hi := 2) fl_2 (by omega) c6
      refine ⟨q_len (BIn.now S (i := 0) rfl b7), ?_⟩
      have ⟨o8, hb9, hp⟩ := ob_inv hp
      rcases size_l1_t (show 128 < 2147483648 by decide) b7  (o := o8) (B4 := 2) (B5 := 128) (B51 := (l.take 2).drop 1) (B52 := ((l.take 2).drop 1).length) (n := 90000) (A2 := 0) (A6 := (l.getD 0 0) &&& 31) (A53 := 0) ⟨hb9, (Nat.lt_of_le_of_lt Nat.and_le_left (Nat.lt_of_lt_of_le x2 (by decide))), S⟩ hN hN (t := (ovT [(0, wl_1), (2, (vi 0)), (3, (vb8 (l.getD 0 0))), (4, (vi 2)), (5, (AV.int .i32 (Int.ofNat 128))), (6, (AV.int .i32 (Int.ofNat ((l.getD 0 0) &&& 31)))), (9, wl_1), (10, (elemP wl_1 0 1)), (11, (vb8 (l.getD 0 0))), (12, (AV.bool false)), (13, (vb8 (l.getD 0 0))), (14, (AV.bool (ltI (Int.ofNat (l.getD 0 0)) (Int.ofNat 128)))), (15, (AV.bool true)), (16, (vb8 (l.getD 0 0))), (17, (AV.bool (notB (ltI (Int.ofNat (l.getD 0 0)) (Int.ofNat 192))))), (18, (AV.bool true)), (19, (vb8 (l.getD 0 0))), (20, (AV.bool (ltI (Int.ofNat (l.getD 0 0)) (Int.ofNat 224)))), (21, (AV.bool (ltI (Int.ofNat (l.getD 0 0)) (Int.ofNat 224)))), (36, (vi 2)), (37, (AV.bool false)), (38, (AV.bool false)), (39, wl_1), (40, (vi l.length)), (41, (vi 2)), (42, (AV.bool (ltI (Int.ofNat l.length) (Int.ofNat 2)))), (43, (AV.bool false)), (44, (vb8 (l.getD 0 0))), (45, (AV.int .i32 (Int.ofNat (l.getD 0 0)))), (46, (vi 2)), (47, (AV.int .i32 (Int.ofNat 31))), (48, (AV.int .i32 (Int.ofNat ((l.getD 0 0) &&& 31)))), (49, wl_1), (50, (vi 2)), (51, (partS wl_1 1 2)), (52, (vi (((l.take 2).drop 1).length))), (53, (vi 0))] .lf)) (show slots [2, 4, 5, 6, 51, 52, 53] _ = [some (vi 0), some (vi 2), some (AV.int .i32 (Int.ofNat 128)), some (AV.int .i32 (Int.ofNat ((l.getD 0 0) &&& 31))), some (partS wl_1 1 2), some (vi (((l.take 2).drop 1).length)), some (vi 0)] by kernel_rfl) with ⟨io8, ⟨_, A2o8, A6o8, A53o8⟩, t11, h12, qo8, wo8, zo8⟩ | ⟨t13, h14, qo8, zo8⟩
      · obtain ⟨jo8, zo8⟩ := zo8
        subst jo8
        replace zo8 := zo8 rfl
        obtain ⟨uo8, fA6_1o8, So8⟩ := zo8
        replace uo8 := uo8.symm
        subst uo8
        replace hp := LO.on_ex.symm.trans hp
        try dsimp only at hp
        refine Or.inl ⟨A2o8, A6o8, A53o8, t11, h12, (qo8.trans (congrArg (fun t => RS.exit 1 t h12) (ovT_eq wo8).symm)), trivial, ?_⟩
        refine ⟨fun c16 => ?_, fun c16 => ?_⟩
        · replace c16 := ltI_t c16
          replace hp := ift hp c16
          obtain rfl := Option.some.inj hp
          exact ⟨rfl, (show 0 < 9223372036854775808 by decide), So8⟩
        replace c16 := ltI_f c16
        replace hp := iff0 hp (nltO c16)
        refine ⟨fun c17 => ?_, fun c17 => ?_⟩
        · replace c17 := ltI_t c17
          replace hp := ift hp c17
          obtain rfl := Option.some.inj hp
          exact ⟨rfl, (show 0 < 9223372036854775808 by decide), So8⟩
        replace c17 := ltI_f c17
        replace hp := iff0 hp (nltO c17)
        refine ⟨fun c18 => ?_, fun c18 => ?_⟩
        · replace c18 := ltI_f (notB_t c18)
          replace hp := ift hp c18
          refine ⟨fun c19 => ?_, fun c19 => ?_⟩
          · replace c19 := ltI_f (notB_t c19)
            replace hp := ift hp c19
            obtain rfl := Option.some.inj hp
            exact ⟨rfl, (show 0 < 9223372036854775808 by decide), So8⟩
          replace c19 := ltI_t (notB_f c19)
          replace hp := iff0 hp (nleO c19)
          obtain rfl := Option.some.inj hp
          exact ⟨rfl, (by decide), So8⟩
        replace c18 := ltI_t (notB_f c18)
        replace hp := iff0 hp (nleO c18)
        obtain rfl := Option.some.inj hp
        exact ⟨rfl, (by decide), So8⟩
      obtain ⟨y15, v2o8, uo8, go8_2, Ko8⟩ := zo8
      replace uo8 := uo8.symm
      subst uo8
      replace go8_2 : tget (pathOf 2) t13 = some v2o8 := Option.some.inj go8_2
      replace hp := LO.on_rt.symm.trans hp
      try dsimp only at hp
      refine Or.inr ⟨y15, v2o8, t13, h14, (qo8.trans (congrArg (fun t => RS.ret t h14) (ovT_eq (l := [(2, v2o8)]) (by show [tget (pathOf 2) t13] = _; rw [go8_2]; rfl)).symm)), trivial, ?_⟩
      obtain rfl := Option.some.inj hp
      exact Ko8
    have rc5 := c5
    replace c5 := ltI_f c5
    replace hp := iff0 hp (nltO c5)
    refine ⟨congrArg (fun z => OV.ok (AV.bool (notB z))) (rc5), ?_⟩
    refine ⟨fun c6 => ?_, fun c6 => ?_⟩
    · replace c6 := ltI_t c6
      replace hp := ift hp c6
      refine ⟨q_len (BIn.now S (i := 0) rfl fl_2), ?_⟩
      refine ⟨fun c7 => ?_, fun c7 => ?_⟩
      · replace c7 := ltI_t c7
        replace hp := ift hp c7
        obtain rfl := Option.some.inj hp
        exact ⟨rfl, (show 0 < 9223372036854775808 by decide), S⟩
      replace c7 := ltI_f c7
      replace hp := iff0 hp (nltO c7)
      refine ⟨i32_conv (Nat.lt_of_lt_of_le x2 (by decide)), ?_⟩
      refine ⟨i32_and (Nat.lt_of_lt_of_le x2 (by decide)) (by decide), ?_⟩
      refine ⟨q_slice (l := l) (BIn.now S (i := 0) rfl fl_2) (by omega) c7, ?_⟩
      have b8 := BIn.part (l := l) (lo := 1) (hi := 3) fl_2 (by omega) c7
      refine ⟨q_len (BIn.now S (i := 0) rfl b8), ?_⟩
      have ⟨o9, hb10, hp⟩ := ob_inv hp
      rcases size_l1_t (show 2048 < 2147483648 by decide) b8  (o := o9) (B4 := 3) (B5 := 2048) (B51 := (l.take 3).drop 1) (B52 := ((l.take 3).drop 1).length) (n := 90000) (A2 := 0) (A6 := (l.getD 0 0) &&& 15) (A53 := 0) ⟨hb10, (Nat.lt_of_le_of_lt Nat.and_le_left (Nat.lt_of_lt_of_le x2 (by decide))), S⟩ hN hN (t := (ovT [(0, wl_1), (2, (vi 0)), (3, (vb8 (l.getD 0 0))), (4, (vi 3)), (5, (AV.int .i32 (Int.ofNat 2048))), (6, (AV.int .i32 (Int.ofNat ((l.getD 0 0) &&& 15)))), (9, wl_1), (10, (elemP wl_1 0 1)), (11, (vb8 (l.getD 0 0))), (12, (AV.bool false)), (13, (vb8 (l.getD 0 0))), (14, (AV.bool (ltI (Int.ofNat (l.getD 0 0)) (Int.ofNat 128)))), (15, (AV.bool false)), (16, (vb8 (l.getD 0 0))), (17, (AV.bool (notB (ltI (Int.ofNat (l.getD 0 0)) (Int.ofNat 192))))), (18, (AV.bool true)), (19, (vb8 (l.getD 0 0))), (20, (AV.bool (ltI (Int.ofNat (l.getD 0 0)) (Int.ofNat 224)))), (21, (AV.bool (ltI (Int.ofNat (l.getD 0 0)) (Int.ofNat 224)))), (22, (AV.bool true)), (23, (vb8 (l.getD 0 0))), (24, (AV.bool (notB (ltI (Int.ofNat (l.getD 0 0)) (Int.ofNat 224))))), (25, (AV.bool true)), (26, (vb8 (l.getD 0 0))), (27, (AV.bool (ltI (Int.ofNat (l.getD 0 0)) (Int.ofNat 240)))), (28, (AV.bool (ltI (Int.ofNat (l.getD 0 0)) (Int.ofNat 240)))), (36, (vi 3)), (37, (AV.bool false)), (38, (AV.bool false)), (39, wl_1), (40, (vi l.length)), (41, (vi 3)), (42, (AV.bool (ltI (Int.ofNat l.length) (Int.ofNat 3)))), (43, (AV.bool false)), (44, (vb8 (l.getD 0 0))), (45, (AV.int .i32 (Int.ofNat (l.getD 0 0)))), (46, (vi 3)), (47, (AV.int .i32 (Int.ofNat 15))), (48, (AV.int .i32 (Int.ofNat ((l.getD 0 0) &&& 15)))), (49, wl_1), (50, (vi 3)), (51, (partS wl_1 1 3)), (52, (vi (((l.take 3).drop 1).length))), (53, (vi 0))] .lf)) (show slots [2, 4, 5, 6, 51, 52, 53] _ = [some (vi 0), some (vi 3), some (AV.int .i32 (Int.ofNat 2048)), some (AV.int .i32 (Int.ofNat ((l.getD 0 0) &&& 15))), some (partS wl_1 1 3), some (vi (((l.take 3).drop 1).length)), some (vi 0)] by kernel_rfl) with ⟨io9, ⟨_, A2o9, A6o9, A53o9⟩, t12, h13, qo9, wo9, zo9⟩ | ⟨t14, h15, qo9, zo9⟩
      · obtain ⟨jo9, zo9⟩ := zo9
        subst jo9
        replace zo9 := zo9 rfl
        obtain ⟨uo9, fA6_1o9, So9⟩ := zo9
        replace uo9 := uo9.symm
        subst uo9
        replace hp := LO.on_ex.symm.trans hp
        try dsimp only at hp
        refine Or.inl ⟨A2o9, A6o9, A53o9, t12, h13, (qo9.trans (congrArg (fun t => RS.exit 1 t h13) (ovT_eq wo9).symm)), trivial, ?_⟩
        refine ⟨fun c17 => ?_, fun c17 => ?_⟩
        · replace c17 := ltI_t c17
          replace hp := ift hp c17
          obtain rfl := Option.some.inj hp
          exact ⟨rfl, (show 0 < 9223372036854775808 by decide), So9⟩
        replace c17 := ltI_f c17
        replace hp := iff0 hp (nltO c17)
        refine ⟨fun c18 => ?_, fun c18 => ?_⟩
        · replace c18 := ltI_t c18
          replace hp := ift hp c18
          obtain rfl := Option.some.inj hp
          exact ⟨rfl, (show 0 < 9223372036854775808 by decide), So9⟩
        replace c18 := ltI_f c18
        replace hp := iff0 hp (nltO c18)
        refine ⟨fun c19 => ?_, fun c19 => ?_⟩
        · replace c19 := ltI_f (notB_t c19)
          replace hp := ift hp c19
          refine ⟨fun c20 => ?_, fun c20 => ?_⟩
          · replace c20 := ltI_f (notB_t c20)
            replace hp := ift hp c20
            obtain rfl := Option.some.inj hp
            exact ⟨rfl, (show 0 < 9223372036854775808 by decide), So9⟩
          replace c20 := ltI_t (notB_f c20)
          replace hp := iff0 hp (nleO c20)
          obtain rfl := Option.some.inj hp
          exact ⟨rfl, (by decide), So9⟩
        replace c19 := ltI_t (notB_f c19)
        replace hp := iff0 hp (nleO c19)
        obtain rfl := Option.some.inj hp
        exact ⟨rfl, (by decide), So9⟩
      obtain ⟨y16, v2o9, uo9, go9_2, Ko9⟩ := zo9
      replace uo9 := uo9.symm
      subst uo9
      replace go9_2 : tget (pathOf 2) t14 = some v2o9 := Option.some.inj go9_2
      replace hp := LO.on_rt.symm.trans hp
      try dsimp only at hp
      refine Or.inr ⟨y16, v2o9, t14, h15, (qo9.trans (congrArg (fun t => RS.ret t h15) (ovT_eq (l := [(2, v2o9)]) (by show [tget (pathOf 2) t14] = _; rw [go9_2]; rfl)).symm)), trivial, ?_⟩
      obtain rfl := Option.some.inj hp
      exact Ko9
    have rc6 := c6
    replace c6 := ltI_f c6
    replace hp := iff0 hp (nltO c6)
    refine ⟨congrArg (fun z => OV.ok (AV.bool (notB z))) (rc6), ?_⟩
    refine ⟨fun c7 => ?_, fun c7 => ?_⟩
    · replace c7 := ltI_t c7
      replace hp := ift hp c7
      refine ⟨q_len (BIn.now S (i := 0) rfl fl_2), ?_⟩
      refine ⟨fun c8 => ?_, fun c8 => ?_⟩
      · replace c8 := ltI_t c8
        replace hp := ift hp c8
        obtain rfl := Option.some.inj hp
        exact ⟨rfl, (show 0 < 9223372036854775808 by decide), S⟩
      replace c8 := ltI_f c8
      replace hp := iff0 hp (nltO c8)
      refine ⟨i32_conv (Nat.lt_of_lt_of_le x2 (by decide)), ?_⟩
      refine ⟨i32_and (Nat.lt_of_lt_of_le x2 (by decide)) (by decide), ?_⟩
      refine ⟨q_slice (l := l) (BIn.now S (i := 0) rfl fl_2) (by omega) c8, ?_⟩
      have b9 := BIn.part (l := l) (lo := 1) (hi := 4) fl_2 (by omega) c8
      refine ⟨q_len (BIn.now S (i := 0) rfl b9), ?_⟩
      have ⟨o10, hb11, hp⟩ := ob_inv hp
      rcases size_l1_t (show 65536 < 2147483648 by decide) b9  (o := o10) (B4 := 4) (B5 := 65536) (B51 := (l.take 4).drop 1) (B52 := ((l.take 4).drop 1).length) (n := 90000) (A2 := 0) (A6 := (l.getD 0 0) &&& 7) (A53 := 0) ⟨hb11, (Nat.lt_of_le_of_lt Nat.and_le_left (Nat.lt_of_lt_of_le x2 (by decide))), S⟩ hN hN (t := (ovT [(0, wl_1), (2, (vi 0)), (3, (vb8 (l.getD 0 0))), (4, (vi 4)), (5, (AV.int .i32 (Int.ofNat 65536))), (6, (AV.int .i32 (Int.ofNat ((l.getD 0 0) &&& 7)))), (9, wl_1), (10, (elemP wl_1 0 1)), (11, (vb8 (l.getD 0 0))), (12, (AV.bool false)), (13, (vb8 (l.getD 0 0))), (14, (AV.bool (ltI (Int.ofNat (l.getD 0 0)) (Int.ofNat 128)))), (15, (AV.bool false)), (16, (vb8 (l.getD 0 0))), (17, (AV.bool (notB (ltI (Int.ofNat (l.getD 0 0)) (Int.ofNat 192))))), (18, (AV.bool true)), (19, (vb8 (l.getD 0 0))), (20, (AV.bool (ltI (Int.ofNat (l.getD 0 0)) (Int.ofNat 224)))), (21, (AV.bool (ltI (Int.ofNat (l.getD 0 0)) (Int.ofNat 224)))), (22, (AV.bool false)), (23, (vb8 (l.getD 0 0))), (24, (AV.bool (notB (ltI (Int.ofNat (l.getD 0 0)) (Int.ofNat 224))))), (25, (AV.bool true)), (26, (vb8 (l.getD 0 0))), (27, (AV.bool (ltI (Int.ofNat (l.getD 0 0)) (Int.ofNat 240)))), (28, (AV.bool (ltI (Int.ofNat (l.getD 0 0)) (Int.ofNat 240)))), (29, (AV.bool true)), (30, (vb8 (l.getD 0 0))), (31, (AV.bool (notB (ltI (Int.ofNat (l.getD 0 0)) (Int.ofNat 240))))), (32, (AV.bool true)), (33, (vb8 (l.getD 0 0))), (34, (AV.bool (ltI (Int.ofNat (l.getD 0 0)) (Int.ofNat 248)))), (35, (AV.bool (ltI (Int.ofNat (l.getD 0 0)) (Int.ofNat 248)))), (36, (vi 4)), (37, (AV.bool false)), (38, (AV.bool false)), (39, wl_1), (40, (vi l.length)), (41, (vi 4)), (42, (AV.bool (ltI (Int.ofNat l.length) (Int.ofNat 4)))), (43, (AV.bool false)), (44, (vb8 (l.getD 0 0))), (45, (AV.int .i32 (Int.ofNat (l.getD 0 0)))), (46, (vi 4)), (47, (AV.int .i32 (Int.ofNat 7))), (48, (AV.int .i32 (Int.ofNat ((l.getD 0 0) &&& 7)))), (49, wl_1), (50, (vi 4)), (51, (partS wl_1 1 4)), (52, (vi (((l.take 4).drop 1).length))), (53, (vi 0))] .lf)) (show slots [2, 4, 5, 6, 51, 52, 53] _ = [some (vi 0), some (vi 4), some (AV.int .i32 (Int.ofNat 65536)), some (AV.int .i32 (Int.ofNat ((l.getD 0 0) &&& 7))), some (partS wl_1 1 4), some (vi (((l.take 4).drop 1).length)), some (vi 0)] by kernel_rfl) with ⟨io10, ⟨_, A2o10, A6o10, A53o10⟩, t13, h14, qo10, wo10, zo10⟩ | ⟨t15, h16, qo10, zo10⟩
      · obtain ⟨jo10, zo10⟩ := zo10
        subst jo10
        replace zo10 := zo10 rfl
        obtain ⟨uo10, fA6_1o10, So10⟩ := zo10
        replace uo10 := uo10.symm
        subst uo10
        replace hp := LO.on_ex.symm.trans hp
        try dsimp only at hp
        refine Or.inl ⟨A2o10, A6o10, A53o10, t13, h14, (qo10.trans (congrArg (fun t => RS.exit 1 t h14) (ovT_eq wo10).symm)), trivial, ?_⟩
        refine ⟨fun c18 => ?_, fun c18 => ?_⟩
        · replace c18 := ltI_t c18
          replace hp := ift hp c18
          obtain rfl := Option.some.inj hp
          exact ⟨rfl, (show 0 < 9223372036854775808 by decide), So10⟩
        replace c18 := ltI_f c18
        replace hp := iff0 hp (nltO c18)
        refine ⟨fun c19 => ?_, fun c19 => ?_⟩
        · replace c19 := ltI_t c19
          replace hp := ift hp c19
          obtain rfl := Option.some.inj hp
          exact ⟨rfl, (show 0 < 9223372036854775808 by decide), So10⟩
        replace c19 := ltI_f c19
        replace hp := iff0 hp (nltO c19)
        refine ⟨fun c20 => ?_, fun c20 => ?_⟩
        · replace c20 := ltI_f (notB_t c20)
          replace hp := ift hp c20
          refine ⟨fun c21 => ?_, fun c21 => ?_⟩
          · replace c21 := ltI_f (notB_t c21)
            replace hp := ift hp c21
            obtain rfl := Option.some.inj hp
            exact ⟨rfl, (show 0 < 9223372036854775808 by decide), So10⟩
          replace c21 := ltI_t (notB_f c21)
          replace hp := iff0 hp (nleO c21)
          obtain rfl := Option.some.inj hp
          exact ⟨rfl, (by decide), So10⟩
        replace c20 := ltI_t (notB_f c20)
        replace hp := iff0 hp (nleO c20)
        obtain rfl := Option.some.inj hp
        exact ⟨rfl, (by decide), So10⟩
      obtain ⟨y17, v2o10, uo10, go10_2, Ko10⟩ := zo10
      replace uo10 := uo10.symm
      subst uo10
      replace go10_2 : tget (pathOf 2) t15 = some v2o10 := Option.some.inj go10_2
      replace hp := LO.on_rt.symm.trans hp
      try dsimp only at hp
      refine Or.inr ⟨y17, v2o10, t15, h16, (qo10.trans (congrArg (fun t => RS.ret t h16) (ovT_eq (l := [(2, v2o10)]) (by show [tget (pathOf 2) t15] = _; rw [go10_2]; rfl)).symm)), trivial, ?_⟩
      obtain rfl := Option.some.inj hp
      exact Ko10
    replace c7 := ltI_f c7
    replace hp := iff0 hp (nltO c7)
    obtain rfl := Option.some.inj hp
    exact ⟨rfl, (show 0 < 9223372036854775808 by decide), S⟩
  replace c4 := ltI_t (notB_f c4)
  replace hp := iff0 hp (nleO c4)
  refine ⟨fun c5 => ?_, fun c5 => ?_⟩
  · replace c5 := ltI_f (notB_t c5)
    replace hp := ift hp c5
    refine ⟨fun c6 => ?_, fun c6 => ?_⟩
    · replace c6 := ltI_t c6
      replace hp := ift hp c6
      refine ⟨q_len (BIn.now S (i := 0) rfl fl_2), ?_⟩
      refine ⟨fun c7 => ?_, fun c7 => ?_⟩
      · replace c7 := ltI_t c7
        replace hp := ift hp c7
        obtain rfl := Option.some.inj hp
        exact ⟨rfl, (show 0 < 9223372036854775808 by decide), S⟩
      replace c7 := ltI_f c7
      replace hp := iff0 hp (nltO c7)
      refine ⟨i32_conv (Nat.lt_of_lt_of_le x2 (by decide)), ?_⟩
      refine ⟨i32_and (Nat.lt_of_lt_of_le x2 (by decide)) (by decide), ?_⟩
      refine ⟨q_slice (l := l) (BIn.now S (i := 0) rfl fl_2) (by omega) c7, ?_⟩
      have b8 := BIn.part (l := l) (lo := 1) (hi := 3) fl_2 (by omega) c7
      refine ⟨q_len (BIn.now S (i := 0) rfl b8), ?_⟩
      have ⟨o9, hb10, hp⟩ := ob_inv hp
      rcases size_l1_t (show 2048 < 2147483648 by decide) b8  (o := o9) (B4 := 3) (B5 := 2048) (B51 := (l.take 3).drop 1) (B52 := ((l.take 3).drop 1).length) (n := 90000) (A2 := 0) (A6 := (l.getD 0 0) &&& 15) (A53 := 0) ⟨hb10, (Nat.lt_of_le_of_lt Nat.and_le_left (Nat.lt_of_lt_of_le x2 (by decide))), S⟩ hN hN (t := (ovT [(0, wl_1), (2, (vi 0)), (3, (vb8 (l.getD 0 0))), (4, (vi 3)), (5, (AV.int .i32 (Int.ofNat 2048))), (6, (AV.int .i32 (Int.ofNat ((l.getD 0 0) &&& 15)))), (9, wl_1), (10, (elemP wl_1 0 1)), (11, (vb8 (l.getD 0 0))), (12, (AV.bool false)), (13, (vb8 (l.getD 0 0))), (14, (AV.bool (ltI (Int.ofNat (l.getD 0 0)) (Int.ofNat 128)))), (15, (AV.bool false)), (16, (vb8 (l.getD 0 0))), (17, (AV.bool (notB (ltI (Int.ofNat (l.getD 0 0)) (Int.ofNat 192))))), (18, (AV.bool false)), (19, (AV.tuple [])), (20, (AV.tuple [])), (21, (AV.bool false)), (22, (AV.bool true)), (23, (vb8 (l.getD 0 0))), (24, (AV.bool (notB (ltI (Int.ofNat (l.getD 0 0)) (Int.ofNat 224))))), (25, (AV.bool true)), (26, (vb8 (l.getD 0 0))), (27, (AV.bool (ltI (Int.ofNat (l.getD 0 0)) (Int.ofNat 240)))), (28, (AV.bool (ltI (Int.ofNat (l.getD 0 0)) (Int.ofNat 240)))), (36, (vi 3)), (37, (AV.bool false)), (38, (AV.bool false)), (39, wl_1), (40, (vi l.length)), (41, (vi 3)), (42, (AV.bool (ltI (Int.ofNat l.length) (Int.ofNat 3)))), (43, (AV.bool false)), (44, (vb8 (l.getD 0 0))), (45, (AV.int .i32 (Int.ofNat (l.getD 0 0)))), (46, (vi 3)), (47, (AV.int .i32 (Int.ofNat 15))), (48, (AV.int .i32 (Int.ofNat ((l.getD 0 0) &&& 15)))), (49, wl_1), (50, (vi 3)), (51, (partS wl_1 1 3)), (52, (vi (((l.take 3).drop 1).length))), (53, (vi 0))] .lf)) (show slots [2, 4, 5, 6, 51, 52, 53] _ = [some (vi 0), some (vi 3), some (AV.int .i32 (Int.ofNat 2048)), some (AV.int .i32 (Int.ofNat ((l.getD 0 0) &&& 15))), some (partS wl_1 1 3), some (vi (((l.take 3).drop 1).length)), some (vi 0)] by kernel_rfl) with ⟨io9, ⟨_, A2o9, A6o9, A53o9⟩, t12, h13, qo9, wo9, zo9⟩ | ⟨t14, h15, qo9, zo9⟩
      · obtain ⟨jo9, zo9⟩ := zo9
        subst jo9
        replace zo9 := zo9 rfl
        obtain ⟨uo9, fA6_1o9, So9⟩ := zo9
        replace uo9 := uo9.symm
        subst uo9
        replace hp := LO.on_ex.symm.trans hp
        try dsimp only at hp
        refine Or.inl ⟨A2o9, A6o9, A53o9, t12, h13, (qo9.trans (congrArg (fun t => RS.exit 1 t h13) (ovT_eq wo9).symm)), trivial, ?_⟩
        refine ⟨fun c17 => ?_, fun c17 => ?_⟩
        · replace c17 := ltI_t c17
          replace hp := ift hp c17
          obtain rfl := Option.some.inj hp
          exact ⟨rfl, (show 0 < 9223372036854775808 by decide), So9⟩
        replace c17 := ltI_f c17
        replace hp := iff0 hp (nltO c17)
        refine ⟨fun c18 => ?_, fun c18 => ?_⟩
        · replace c18 := ltI_t c18
          replace hp := ift hp c18
          obtain rfl := Option.some.inj hp
          exact ⟨rfl, (show 0 < 9223372036854775808 by decide), So9⟩
        replace c18 := ltI_f c18
        replace hp := iff0 hp (nltO c18)
        refine ⟨fun c19 => ?_, fun c19 => ?_⟩
        · replace c19 := ltI_f (notB_t c19)
          replace hp := ift hp c19
          refine ⟨fun c20 => ?_, fun c20 => ?_⟩
          · replace c20 := ltI_f (notB_t c20)
            replace hp := ift hp c20
            obtain rfl := Option.some.inj hp
            exact ⟨rfl, (show 0 < 9223372036854775808 by decide), So9⟩
          replace c20 := ltI_t (notB_f c20)
          replace hp := iff0 hp (nleO c20)
          obtain rfl := Option.some.inj hp
          exact ⟨rfl, (by decide), So9⟩
        replace c19 := ltI_t (notB_f c19)
        replace hp := iff0 hp (nleO c19)
        obtain rfl := Option.some.inj hp
        exact ⟨rfl, (by decide), So9⟩
      obtain ⟨y16, v2o9, uo9, go9_2, Ko9⟩ := zo9
      replace uo9 := uo9.symm
      subst uo9
      replace go9_2 : tget (pathOf 2) t14 = some v2o9 := Option.some.inj go9_2
      replace hp := LO.on_rt.symm.trans hp
      try dsimp only at hp
      refine Or.inr ⟨y16, v2o9, t14, h15, (qo9.trans (congrArg (fun t => RS.ret t h15) (ovT_eq (l := [(2, v2o9)]) (by show [tget (pathOf 2) t14] = _; rw [go9_2]; rfl)).symm)), trivial, ?_⟩
      obtain rfl := Option.some.inj hp
      exact Ko9
    have rc6 := c6
    replace c6 := ltI_f c6
    replace hp := iff0 hp (nltO c6)
    refine ⟨congrArg (fun z => OV.ok (AV.bool (notB z))) (rc6), ?_⟩
    refine ⟨fun c7 => ?_, fun c7 => ?_⟩
    · replace c7 := ltI_t c7
      replace hp := ift hp c7
      refine ⟨q_len (BIn.now S (i := 0) rfl fl_2), ?_⟩
      refine ⟨fun c8 => ?_, fun c8 => ?_⟩
      · replace c8 := ltI_t c8
        replace hp := ift hp c8
        obtain rfl := Option.some.inj hp
        exact ⟨rfl, (show 0 < 9223372036854775808 by decide), S⟩
      replace c8 := ltI_f c8
      replace hp := iff0 hp (nltO c8)
      refine ⟨i32_conv (Nat.lt_of_lt_of_le x2 (by decide)), ?_⟩
      refine ⟨i32_and (Nat.lt_of_lt_of_le x2 (by decide)) (by decide), ?_⟩
      refine ⟨q_slice (l := l) (BIn.now S (i := 0) rfl fl_2) (by omega) c8, ?_⟩
      have b9 := BIn.part (l := l) (lo := 1) (hi := 4) fl_2 (by omega) c8
      refine ⟨q_len (BIn.now S (i := 0) rfl b9), ?_⟩
      have ⟨o10, hb11, hp⟩ := ob_inv hp
      rcases size_l1_t (show 65536 < 2147483648 by decide) b9  (o := o10) (B4 := 4) (B5 := 65536) (B51 := (l.take 4).drop 1) (B52 := ((l.take 4).drop 1).length) (n := 90000) (A2 := 0) (A6 := (l.getD 0 0) &&& 7) (A53 := 0) ⟨hb11, (Nat.lt_of_le_of_lt Nat.and_le_left (Nat.lt_of_lt_of_le x2 (by decide))), S⟩ hN hN (t := (ovT [(0, wl_1), (2, (vi 0)), (3, (vb8 (l.getD 0 0))), (4, (vi 4)), (5, (AV.int .i32 (Int.ofNat 65536))), (6, (AV.int .i32 (Int.ofNat ((l.getD 0 0) &&& 7)))), (9, wl_1), (10, (elemP wl_1 0 1)), (11, (vb8 (l.getD 0 0))), (12, (AV.bool false)), (13, (vb8 (l.getD 0 0))), (14, (AV.bool (ltI (Int.ofNat (l.getD 0 0)) (Int.ofNat 128)))), (15, (AV.bool false)), (16, (vb8 (l.getD 0 0))), (17, (AV.bool (notB (ltI (Int.ofNat (l.getD 0 0)) (Int.ofNat 192))))), (18, (AV.bool false)), (19, (AV.tuple [])), (20, (AV.tuple [])), (21, (AV.bool false)), (22, (AV.bool false)), (23, (vb8 (l.getD 0 0))), (24, (AV.bool (notB (ltI (Int.ofNat (l.getD 0 0)) (Int.ofNat 224))))), (25, (AV.bool true)), (26, (vb8 (l.getD 0 0))), (27, (AV.bool (ltI (Int.ofNat (l.getD 0 0)) (Int.ofNat 240)))), (28, (AV.bool (ltI (Int.ofNat (l.getD 0 0)) (Int.ofNat 240)))), (29, (AV.bool true)), (30, (vb8 (l.getD 0 0))), (31, (AV.bool (notB (ltI (Int.ofNat (l.getD 0 0)) (Int.ofNat 240))))), (32, (AV.bool true)), (33, (vb8 (l.getD 0 0))), (34, (AV.bool (ltI (Int.ofNat (l.getD 0 0)) (Int.ofNat 248)))), (35, (AV.bool (ltI (Int.ofNat (l.getD 0 0)) (Int.ofNat 248)))), (36, (vi 4)), (37, (AV.bool false)), (38, (AV.bool false)), (39, wl_1), (40, (vi l.length)), (41, (vi 4)), (42, (AV.bool (ltI (Int.ofNat l.length) (Int.ofNat 4)))), (43, (AV.bool false)), (44, (vb8 (l.getD 0 0))), (45, (AV.int .i32 (Int.ofNat (l.getD 0 0)))), (46, (vi 4)), (47, (AV.int .i32 (Int.ofNat 7))), (48, (AV.int .i32 (Int.ofNat ((l.getD 0 0) &&& 7)))), (49, wl_1), (50, (vi 4)), (51, (partS wl_1 1 4)), (52, (vi (((l.take 4).drop 1).length))), (53, (vi 0))] .lf)) (show slots [2, 4, 5, 6, 51, 52, 53] _ = [some (vi 0), some (vi 4), some (AV.int .i32 (Int.ofNat 65536)), some (AV.int .i32 (Int.ofNat ((l.getD 0 0) &&& 7))), some (partS wl_1 1 4), some (vi (((l.take 4).drop 1).length)), some (vi 0)] by kernel_rfl) with ⟨io10, ⟨_, A2o10, A6o10, A53o10⟩, t13, h14, qo10, wo10, zo10⟩ | ⟨t15, h16, qo10, zo10⟩
      · obtain ⟨jo10, zo10⟩ := zo10
        subst jo10
        replace zo10 := zo10 rfl
        obtain ⟨uo10, fA6_1o10, So10⟩ := zo10
        replace uo10 := uo10.symm
        subst uo10
        replace hp := LO.on_ex.symm.trans hp
        try dsimp only at hp
        refine Or.inl ⟨A2o10, A6o10, A53o10, t13, h14, (qo10.trans (congrArg (fun t => RS.exit 1 t h14) (ovT_eq wo10).symm)), trivial, ?_⟩
        refine ⟨fun c18 => ?_, fun c18 => ?_⟩
        · replace c18 := ltI_t c18
          replace hp := ift hp c18
          obtain rfl := Option.some.inj hp
          exact ⟨rfl, (show 0 < 9223372036854775808 by decide), So10⟩
        replace c18 := ltI_f c18
        replace hp := iff0 hp (nltO c18)
        refine ⟨fun c19 => ?_, fun c19 => ?_⟩
        · replace c19 := ltI_t c19
          replace hp := ift hp c19
          obtain rfl := Option.some.inj hp
          exact ⟨rfl, (show 0 < 9223372036854775808 by decide), So10⟩
        replace c19 := ltI_f c19
        replace hp := iff0 hp (nltO c19)
        refine ⟨fun c20 => ?_, fun c20 => ?_⟩
        · replace c20 := ltI_f (notB_t c20)
          replace hp := ift hp c20
          refine ⟨fun c21 => ?_, fun c21 => ?_⟩
          · replace c21 := ltI_f (notB_t c21)
            replace hp := ift hp c21
            obtain rfl := Option.some.inj hp
            exact ⟨rfl, (show 0 < 9223372036854775808 by decide), So10⟩
          replace c21 := ltI_t (notB_f c21)
          replace hp := iff0 hp (nleO c21)
          obtain rfl := Option.some.inj hp
          exact ⟨rfl, (by decide), So10⟩
        replace c20 := ltI_t (notB_f c20)
        replace hp := iff0 hp (nleO c20)
        obtain rfl := Option.some.inj hp
        exact ⟨rfl, (by decide), So10⟩
      obtain ⟨y17, v2o10, uo10, go10_2, Ko10⟩ := zo10
      replace uo10 := uo10.symm
      subst uo10
      replace go10_2 : tget (pathOf 2) t15 = some v2o10 := Option.some.inj go10_2
      replace hp := LO.on_rt.symm.trans hp
      try dsimp only at hp
      refine Or.inr ⟨y17, v2o10, t15, h16, (qo10.trans (congrArg (fun t => RS.ret t h16) (ovT_eq (l := [(2, v2o10)]) (by show [tget (pathOf 2) t15] = _; rw [go10_2]; rfl)).symm)), trivial, ?_⟩
      obtain rfl := Option.some.inj hp
      exact Ko10
    replace c7 := ltI_f c7
    replace hp := iff0 hp (nltO c7)
    obtain rfl := Option.some.inj hp
    exact ⟨rfl, (show 0 < 9223372036854775808 by decide), S⟩
  replace c5 := ltI_t (notB_f c5)
  replace hp := iff0 hp (nleO c5)
  refine ⟨fun c6 => ?_, fun c6 => ?_⟩
  · replace c6 := ltI_f (notB_t c6)
    replace hp := ift hp c6
    refine ⟨fun c7 => ?_, fun c7 => ?_⟩
    · replace c7 := ltI_t c7
      replace hp := ift hp c7
      refine ⟨q_len (BIn.now S (i := 0) rfl fl_2), ?_⟩
      refine ⟨fun c8 => ?_, fun c8 => ?_⟩
      · replace c8 := ltI_t c8
        replace hp := ift hp c8
        obtain rfl := Option.some.inj hp
        exact ⟨rfl, (show 0 < 9223372036854775808 by decide), S⟩
      replace c8 := ltI_f c8
      replace hp := iff0 hp (nltO c8)
      refine ⟨i32_conv (Nat.lt_of_lt_of_le x2 (by decide)), ?_⟩
      refine ⟨i32_and (Nat.lt_of_lt_of_le x2 (by decide)) (by decide), ?_⟩
      refine ⟨q_slice (l := l) (BIn.now S (i := 0) rfl fl_2) (by omega) c8, ?_⟩
      have b9 := BIn.part (l := l) (lo := 1) (hi := 4) fl_2 (by omega) c8
      refine ⟨q_len (BIn.now S (i := 0) rfl b9), ?_⟩
      have ⟨o10, hb11, hp⟩ := ob_inv hp
      rcases size_l1_t (show 65536 < 2147483648 by decide) b9  (o := o10) (B4 := 4) (B5 := 65536) (B51 := (l.take 4).drop 1) (B52 := ((l.take 4).drop 1).length) (n := 90000) (A2 := 0) (A6 := (l.getD 0 0) &&& 7) (A53 := 0) ⟨hb11, (Nat.lt_of_le_of_lt Nat.and_le_left (Nat.lt_of_lt_of_le x2 (by decide))), S⟩ hN hN (t := (ovT [(0, wl_1), (2, (vi 0)), (3, (vb8 (l.getD 0 0))), (4, (vi 4)), (5, (AV.int .i32 (Int.ofNat 65536))), (6, (AV.int .i32 (Int.ofNat ((l.getD 0 0) &&& 7)))), (9, wl_1), (10, (elemP wl_1 0 1)), (11, (vb8 (l.getD 0 0))), (12, (AV.bool false)), (13, (vb8 (l.getD 0 0))), (14, (AV.bool (ltI (Int.ofNat (l.getD 0 0)) (Int.ofNat 128)))), (15, (AV.bool false)), (16, (vb8 (l.getD 0 0))), (17, (AV.bool (notB (ltI (Int.ofNat (l.getD 0 0)) (Int.ofNat 192))))), (18, (AV.bool false)), (19, (AV.tuple [])), (20, (AV.tuple [])), (21, (AV.bool false)), (22, (AV.bool false)), (23, (vb8 (l.getD 0 0))), (24, (AV.bool (notB (ltI (Int.ofNat (l.getD 0 0)) (Int.ofNat 224))))), (25, (AV.bool false)), (26, (AV.tuple [])), (27, (AV.tuple [])), (28, (AV.bool false)), (29, (AV.bool true)), (30, (vb8 (l.getD 0 0))), (31, (AV.bool (notB (ltI (Int.ofNat (l.getD 0 0)) (Int.ofNat 240))))), (32, (AV.bool true)), (33, (vb8 (l.getD 0 0))), (34, (AV.bool (ltI (Int.ofNat (l.getD 0 0)) (Int.ofNat 248)))), (35, (AV.bool (ltI (Int.ofNat (l.getD 0 0)) (Int.ofNat 248)))), (36, (vi 4)), (37, (AV.bool false)), (38, (AV.bool false)), (39, wl_1), (40, (vi l.length)), (41, (vi 4)), (42, (AV.bool (ltI (Int.ofNat l.length) (Int.ofNat 4)))), (43, (AV.bool false)), (44, (vb8 (l.getD 0 0))), (45, (AV.int .i32 (Int.ofNat (l.getD 0 0)))), (46, (vi 4)), (47, (AV.int .i32 (Int.ofNat 7))), (48, (AV.int .i32 (Int.ofNat ((l.getD 0 0) &&& 7)))), (49, wl_1), (50, (vi 4)), (51, (partS wl_1 1 4)), (52, (vi (((l.take 4).drop 1).length))), (53, (vi 0))] .lf)) (show slots [2, 4, 5, 6, 51, 52, 53] _ = [some (vi 0), some (vi 4), some (AV.int .i32 (Int.ofNat 65536)), some (AV.int .i32 (Int.ofNat ((l.getD 0 0) &&& 7))), some (partS wl_1 1 4), some (vi (((l.take 4).drop 1).length)), some (vi 0)] by kernel_rfl) with ⟨io10, ⟨_, A2o10, A6o10, A53o10⟩, t13, h14, qo10, wo10, zo10⟩ | ⟨t15, h16, qo10, zo10⟩
      · obtain ⟨jo10, zo10⟩ := zo10
        subst jo10
        replace zo10 := zo10 rfl
        obtain ⟨uo10, fA6_1o10, So10⟩ := zo10
        replace uo10 := uo10.symm
        subst uo10
        replace hp := LO.on_ex.symm.trans hp
        try dsimp only at hp
        refine Or.inl ⟨A2o10, A6o10, A53o10, t13, h14, (qo10.trans (congrArg (fun t => RS.exit 1 t h14) (ovT_eq wo10).symm)), trivial, ?_⟩
        refine ⟨fun c18 => ?_, fun c18 => ?_⟩
        · replace c18 := ltI_t c18
          replace hp := ift hp c18
          obtain rfl := Option.some.inj hp
          exact ⟨rfl, (show 0 < 9223372036854775808 by decide), So10⟩
        replace c18 := ltI_f c18
        replace hp := iff0 hp (nltO c18)
        refine ⟨fun c19 => ?_, fun c19 => ?_⟩
        · replace c19 := ltI_t c19
          replace hp := ift hp c19
          obtain rfl := Option.some.inj hp
          exact ⟨rfl, (show 0 < 9223372036854775808 by decide), So10⟩
        replace c19 := ltI_f c19
        replace hp := iff0 hp (nltO c19)
        refine ⟨fun c20 => ?_, fun c20 => ?_⟩
        · replace c20 := ltI_f (notB_t c20)
          replace hp := ift hp c20
          refine ⟨fun c21 => ?_, fun c21 => ?_⟩
          · replace c21 := ltI_f (notB_t c21)
            replace hp := ift hp c21
            obtain rfl := Option.some.inj hp
            exact ⟨rfl, (show 0 < 9223372036854775808 by decide), So10⟩
          replace c21 := ltI_t (notB_f c21)
          replace hp := iff0 hp (nleO c21)
          obtain rfl := Option.some.inj hp
          exact ⟨rfl, (by decide), So10⟩
        replace c20 := ltI_t (notB_f c20)
        replace hp := iff0 hp (nleO c20)
        obtain rfl := Option.some.inj hp
        exact ⟨rfl, (by decide), So10⟩
      obtain ⟨y17, v2o10, uo10, go10_2, Ko10⟩ := zo10
      replace uo10 := uo10.symm
      subst uo10
      replace go10_2 : tget (pathOf 2) t15 = some v2o10 := Option.some.inj go10_2
      replace hp := LO.on_rt.symm.trans hp
      try dsimp only at hp
      refine Or.inr ⟨y17, v2o10, t15, h16, (qo10.trans (congrArg (fun t => RS.ret t h16) (ovT_eq (l := [(2, v2o10)]) (by show [tget (pathOf 2) t15] = _; rw [go10_2]; rfl)).symm)), trivial, ?_⟩
      obtain rfl := Option.some.inj hp
      exact Ko10
    replace c7 := ltI_f c7
    replace hp := iff0 hp (nltO c7)
    obtain rfl := Option.some.inj hp
    exact ⟨rfl, (show 0 < 9223372036854775808 by decide), S⟩
  replace c6 := ltI_t (notB_f c6)
  replace hp := iff0 hp (nleO c6)
  obtain rfl := Option.some.inj hp
  exact ⟨rfl, (show 0 < 9223372036854775808 by decide), S⟩
def C_size (call : CallT) : Prop := ∀ {h : Hp} {wl_1 : AV} {l : List Nat} (fl_2 : BIn (Low h) h wl_1 l) {r : Nat}, size_p l = some r → ∃ rv rh, call 66 [wl_1] h = .ok rv rh ∧ rv = (vi r) ∧ (r < 9223372036854775808) ∧ Eng.Sep (Frz (Low h) h :: []) rh
theorem s_size (d : Nat) : C_size (CC (d + 1)) := by
  intro h wl_1 l fl_2 r hp
  rw [CC, evF_at (sumT_none rfl)]
  exact size_w (call := CC (d + 0)) (N := 100000) fl_2  (by decide) hp
noncomputable def utf8_l1  : Nat → List Nat → Bool → Option (LO (List Nat × Bool) (Bool))
  | 0, _, _ => none
  | m + 1, A0, A2 =>
    (if 0 < A0.length then (ob (size_p A0) fun x2 =>
    (if x2 = 0 then (some (LO.rt false)) else
    (gd (x2 ≤ A0.length) (utf8_l1  m (A0.drop x2) A2)))) else
    (some (LO.ex (A0, A2))))
noncomputable def utf8_l1C : AC := (.seq (.seq (.region [⟨(some 4), .q (.move (.tmp 0)), none⟩, ⟨(some 5), .q (.lenL (.tmp 4)), none⟩, ⟨(some 6), .q (.bin .gtr (.tmp 5) (.const (vi 0))), none⟩]) (.cond (.tmp 6) .skip (.exit 0))) (.block 1 (.seq (.region [⟨(some 7), .q (.move (.tmp 0)), none⟩, ⟨(some 8), .e (.call (.const (AV.func (.func 66) [] [])) [(.tmp 7)]), none⟩, ⟨(some 3), .q (.move (.tmp 8)), none⟩]) (.seq (.seq (.region [⟨(some 9), .q (.move (.tmp 3)), none⟩, ⟨(some 10), .q (.eq .int false (.tmp 9) (.const (vi 0))), none⟩]) (.cond (.tmp 10) (.seq (.region [⟨(some 2), .q (.move (.const (AV.bool false))), none⟩]) .ret) .skip)) (.region [⟨(some 11), .q (.move (.tmp 0)), none⟩, ⟨(some 12), .q (.move (.tmp 3)), none⟩, ⟨(some 13), .q (.sliceSl 1 (.tmp 11) (some (.tmp 12)) none none), none⟩, ⟨(some 0), .q (.move (.tmp 13)), none⟩])))))
theorem utf8_l1_body {call : CallT} {N : Nat} {t : T} {h : Hp} {G : Nat → Prop} {h0 : Hp}   (h_size : C_size call) {o : LO (List Nat × Bool) (Bool)} {n : Nat} {A0 : List Nat} {A2 : Bool} {wA0_1 : AV} (hN : 90000 < N) (hi : (fun (z : Nat × List Nat × Bool × AV) (h' : Hp) => utf8_l1  z.1 z.2.1 z.2.2.1 = some o ∧ (BIn G h0 z.2.2.2 z.2.1) ∧ Eng.Sep [Frz G h0] h') (n, A0, A2, wA0_1) h)
    : ∃ s, evC call N utf8_l1C (ovT [(0, wA0_1), (2, (AV.bool A2))] t) h = s ∧ obsS [0, 2] (fun ls h' => ∃ y, ls = ((fun (z : Nat × List Nat × Bool × AV) => [(0, z.2.2.2), (2, (AV.bool z.2.2.1))]) y).map (fun p => some p.2) ∧ (fun (z : Nat × List Nat × Bool × AV) (h' : Hp) => utf8_l1  z.1 z.2.1 z.2.2.1 = some o ∧ (BIn G h0 z.2.2.2 z.2.1) ∧ Eng.Sep [Frz G h0] h') y h' ∧ (fun (z : Nat × List Nat × Bool × AV) => z.1) y < (fun (z : Nat × List Nat × Bool × AV) => z.1) (n, A0, A2, wA0_1)) (fun i ls h' => ∃ y, ls = ((fun (z : Nat × List Nat × Bool × AV) => [(0, z.2.2.2), (2, (AV.bool z.2.2.1))]) y).map (fun p => some p.2) ∧ (fun (i : Nat) (z : Nat × List Nat × Bool × AV) (h' : Hp) => (i = 0) ∧ (i = 0 → o = LO.ex (z.2.1, z.2.2.1) ∧ (BIn G h0 z.2.2.2 z.2.1) ∧ Eng.Sep [Frz G h0] h')) i y h') (fun ls h' => (fun (ls : List (Option AV)) (h' : Hp) => ∃ (rt : Bool) (v2 : AV), o = LO.rt rt ∧ ls[1]? = some (some v2) ∧ (v2 = (AV.bool rt) ∧ Eng.Sep (Frz G h0 :: []) h')) ls h') s := by
  have hi : utf8_l1  n A0 A2 = some o ∧ (BIn G h0 wA0_1 A0) ∧ Eng.Sep [Frz G h0] h := hi
  obtain ⟨hp, fA0_2, S⟩ := hi
  obtain ⟨m, hm⟩ : ∃ m, n = m + 1 := by
    cases n with
    | zero => first | cases hp | (unfold utf8_l1 at hp; cases hp) | (simp [utf8_l1] at hp)
    | succ m => exact ⟨m, rfl⟩
  rw [hm] at hp
  unfold utf8_l1 at hp
  refine walk_ok (o := (.tell 1 (vi A0.length) (.fork 0 (.exi 1 fun (x2 : Nat) => (.exi 0 fun (h8 : Hp) => (.eff 0 (vi x2) h8 (.fork 2 .fin (.tell 2 (partS wA0_1 x2 A0.length) .fin))))) .fin))) (p := (fun (KN : List (Option AV) → Hp → Prop) (KE : Nat → List (Option AV) → Hp → Prop) (KR : List (Option AV) → Hp → Prop) => ((evQ (.lenL (.const wA0_1)) .lf H0 = .ok (vi A0.length) ∧ ((ltI (Int.ofNat 0) (Int.ofNat A0.length) = true → (∃ x2 : Nat, ∃ h8 : Hp, (call 66 [wA0_1] h = .ok (vi x2) h8 ∧ ((eqI (Int.ofNat x2) (Int.ofNat 0) = true → KR [some wA0_1, some (AV.bool false)] h8) ∧ (eqI (Int.ofNat x2) (Int.ofNat 0) = false → ((evQ (.sliceSl 1 (.const wA0_1) (some (.const (vi x2))) none none) .lf H0 = .ok (partS wA0_1 x2 A0.length) ∧ KN [some (partS wA0_1 x2 A0.length), some (AV.bool A2)] h8))))))) ∧ (ltI (Int.ofNat 0) (Int.ofNat A0.length) = false → KE 0 [some wA0_1, some (AV.bool A2)] h))))) (fun ls h' => ∃ y, ls = ((fun (z : Nat × List Nat × Bool × AV) => [(0, z.2.2.2), (2, (AV.bool z.2.2.1))]) y).map (fun p => some p.2) ∧ (fun (z : Nat × List Nat × Bool × AV) (h' : Hp) => utf8_l1  z.1 z.2.1 z.2.2.1 = some o ∧ (BIn G h0 z.2.2.2 z.2.1) ∧ Eng.Sep [Frz G h0] h') y h' ∧ (fun (z : Nat × List Nat × Bool × AV) => z.1) y < (fun (z : Nat × List Nat × Bool × AV) => z.1) (n, A0, A2, wA0_1)) (fun i ls h' => ∃ y, ls = ((fun (z : Nat × List Nat × Bool × AV) => [(0, z.2.2.2), (2, (AV.bool z.2.2.1))]) y).map (fun p => some p.2) ∧ (fun (i : Nat) (z : Nat × List Nat × Bool × AV) (h' : Hp) => (i = 0) ∧ (i = 0 → o = LO.ex (z.2.1, z.2.2.1) ∧ (BIn G h0 z.2.2.2 z.2.1) ∧ Eng.Sep [Frz G h0] h')) i y h') (fun ls h' => (fun (ls : List (Option AV)) (h' : Hp) => ∃ (rt : Bool) (v2 : AV), o = LO.rt rt ∧ ls[1]? = some (some v2) ∧ (v2 = (AV.bool rt) ∧ Eng.Sep (Frz G h0 :: []) h')) ls h')) (by kernel_rfl) ?_
  refine ⟨q_len (BIn.now S (i := 0) rfl fA0_2), ?_⟩
  refine ⟨fun c1 => ?_, fun c1 => ?_⟩
  · replace c1 := ltI_t c1
    replace hp := ift hp c1
    have ⟨x2, hb3, hp⟩ := ob_inv hp
    obtain ⟨v7, h8, q9, e10, f6, S11⟩ := h_size (BIn.up (Sep.low S (i := 0) rfl) fA0_2) hb3
    replace e10 := e10.symm
    subst e10
    have S13 := Sep.call S (news := []) S11
    refine ⟨x2, h8, q9, ?_⟩
    refine ⟨fun c14 => ?_, fun c14 => ?_⟩
    · replace c14 := eqI_t c14
      replace hp := ift hp c14
      refine ⟨_, (AV.bool false), (Option.some.inj hp).symm, rfl, ?_⟩
      exact ⟨rfl, S13⟩
    replace c14 := eqI_f c14
    replace hp := iff0 hp (c14)
    have ⟨g15, hp⟩ := gd_inv hp
    refine ⟨q_sliceFrom (l := A0) (BIn.now S13 (i := 0) rfl fA0_2) g15, ?_⟩
    have b16 := BIn.from (l := A0) (lo := x2) fA0_2 g15
    refine ⟨(m, A0.drop x2, A2, (partS wA0_1 x2 A0.length)), rfl, ⟨hp, b16, S13⟩, by show m < n; omega⟩
  replace c1 := ltI_f c1
  replace hp := iff0 hp (nltO c1)
  refine ⟨(m, A0, A2, wA0_1), rfl, rfl, fun _ => ⟨(Option.some.inj hp).symm, fA0_2, S⟩⟩
theorem utf8_l1_t {call : CallT} {N : Nat} {G : Nat → Prop} {h0 : Hp}   (h_size : C_size call) {o : LO (List Nat × Bool) (Bool)} {n : Nat} {A0 : List Nat} {A2 : Bool} {wA0_1 : AV} {h : Hp} (hi : (fun (z : Nat × List Nat × Bool × AV) (h' : Hp) => utf8_l1  z.1 z.2.1 z.2.2.1 = some o ∧ (BIn G h0 z.2.2.2 z.2.1) ∧ Eng.Sep [Frz G h0] h') (n, A0, A2, wA0_1) h) (hN : n < N) (hN' : 90000 < N) {t : T} (ht : Has ((fun (z : Nat × List Nat × Bool × AV) => [(0, z.2.2.2), (2, (AV.bool z.2.2.1))]) (n, A0, A2, wA0_1)) t) :
    (∃ i y t' h', evC call N (.loop utf8_l1C) t h = .exit i t' h' ∧ Has ((fun (z : Nat × List Nat × Bool × AV) => [(0, z.2.2.2), (2, (AV.bool z.2.2.1))]) y) t' ∧ (fun (i : Nat) (z : Nat × List Nat × Bool × AV) (h' : Hp) => (i = 0) ∧ (i = 0 → o = LO.ex (z.2.1, z.2.2.1) ∧ (BIn G h0 z.2.2.2 z.2.1) ∧ Eng.Sep [Frz G h0] h')) i y h') ∨ (∃ t' h', evC call N (.loop utf8_l1C) t h = .ret t' h' ∧ (fun (ls : List (Option AV)) (h' : Hp) => ∃ (rt : Bool) (v2 : AV), o = LO.rt rt ∧ ls[1]? = some (some v2) ∧ (v2 = (AV.bool rt) ∧ Eng.Sep (Frz G h0 :: []) h')) (slots [0, 2] t') h') :=
  loop_st (fun (z : Nat × List Nat × Bool × AV) => [(0, z.2.2.2), (2, (AV.bool z.2.2.1))]) [0, 2] (fun _ => rfl) (fun (z : Nat × List Nat × Bool × AV) (h' : Hp) => utf8_l1  z.1 z.2.1 z.2.2.1 = some o ∧ (BIn G h0 z.2.2.2 z.2.1) ∧ Eng.Sep [Frz G h0] h') (fun (z : Nat × List Nat × Bool × AV) => z.1) (fun (i : Nat) (z : Nat × List Nat × Bool × AV) (h' : Hp) => (i = 0) ∧ (i = 0 → o = LO.ex (z.2.1, z.2.2.1) ∧ (BIn G h0 z.2.2.2 z.2.1) ∧ Eng.Sep [Frz G h0] h')) (fun (ls : List (Option AV)) (h' : Hp) => ∃ (rt : Bool) (v2 : AV), o = LO.rt rt ∧ ls[1]? = some (some v2) ∧ (v2 = (AV.bool rt) ∧ Eng.Sep (Frz G h0 :: []) h')) (fun ⟨n, A0, A2, wA0_1⟩ t h hi => utf8_l1_body h_size hN' hi) (n, A0, A2, wA0_1) h hi hN t ht
noncomputable def utf8_p (l : List Nat) : Option (Bool) :=
  (ob (utf8_l1  90000 l false) fun o1 =>
    (LO.on o1 (fun s_o1 => (some true)) (fun y8 =>
    (some y8))))
theorem utf8_w {call : CallT} {N : Nat} {h : Hp} {wl_1 : AV} {l : List Nat} (fl_2 : BIn (Low h) h wl_1 l) (h_size : C_size call) (hN : 90000 < N) {r : Bool} (hp : utf8_p l = some r) :
    ∃ rv rh, evF1 (progS Try.prog (compDrawn Try.prog)) N call 37 [wl_1] h = .ok rv rh ∧ (fun (rv : AV) (rh : Hp) => rv = (AV.bool r) ∧ Eng.Sep (Frz (Low h) h :: []) rh) rv rh := by
  have S : Eng.Sep [Frz (Low h) h] h := Sep.start h
  unfold utf8_p at hp
  refine fwalk_ok (K := (fun (rv : AV) (rh : Hp) => rv = (AV.bool r) ∧ Eng.Sep (Frz (Low h) h :: []) rh)) (o := (.dis 1 (.exi 0 fun (A0o1 : List Nat) => (.exi 0 fun (A2o1 : Bool) => (.exi 0 fun (wA0_1o1 : AV) => (.exi 0 fun (t4 : T) => (.exi 0 fun (h5 : Hp) => (.lp 0 (.exit 0 (ovT [(0, wA0_1o1), (2, (AV.bool A2o1))] t4) h5) .fin)))))) (.exi 0 fun (y8 : Bool) => (.exi 0 fun (v2o1 : AV) => (.exi 0 fun (t6 : T) => (.exi 0 fun (h7 : Hp) => (.lp 0 (.ret (ovT [(2, v2o1)] t6) h7) .fin))))))) (p := (fun (KK : AV → Hp → Prop) => ((∃ A0o1 : List Nat, ∃ A2o1 : Bool, ∃ wA0_1o1 : AV, ∃ t4 : T, ∃ h5 : Hp, (evC call N (.loop utf8_l1C) (ovT [(0, wl_1), (2, (AV.bool false))] .lf) h = (.exit 0 (ovT [(0, wA0_1o1), (2, (AV.bool A2o1))] t4) h5) ∧ True ∧ KK (AV.bool true) h5)) ∨ (∃ y8 : Bool, ∃ v2o1 : AV, ∃ t6 : T, ∃ h7 : Hp, (evC call N (.loop utf8_l1C) (ovT [(0, wl_1), (2, (AV.bool false))] .lf) h = (.ret (ovT [(2, v2o1)] t6) h7) ∧ True ∧ KK v2o1 h7)))) (fun (rv : AV) (rh : Hp) => rv = (AV.bool r) ∧ Eng.Sep (Frz (Low h) h :: []) rh)) (by kernel_rfl) ?_
  have ⟨o1, hb2, hp⟩ := ob_inv hp
  rcases utf8_l1_t  h_size (o := o1) (n := 90000) (A0 := l) (A2 := false) (wA0_1 := wl_1) ⟨hb2, fl_2, S⟩ hN hN (t := (ovT [(0, wl_1), (2, (AV.bool false))] .lf)) (show slots [0, 2] _ = [some wl_1, some (AV.bool false)] by kernel_rfl) with ⟨io1, ⟨_, A0o1, A2o1, wA0_1o1⟩, t4, h5, qo1, wo1, zo1⟩ | ⟨t6, h7, qo1, zo1⟩
  · obtain ⟨jo1, zo1⟩ := zo1
    subst jo1
    replace zo1 := zo1 rfl
    obtain ⟨uo1, fA0_2o1, So1⟩ := zo1
    replace uo1 := uo1.symm
    subst uo1
    replace hp := LO.on_ex.symm.trans hp
    try dsimp only at hp
    refine Or.inl ⟨A0o1, A2o1, wA0_1o1, t4, h5, (qo1.trans (congrArg (fun t => RS.exit 0 t h5) (ovT_eq wo1).symm)), trivial, ?_⟩
    obtain rfl := Option.some.inj hp
    exact ⟨rfl, So1⟩
  obtain ⟨y8, v2o1, uo1, go1_2, Ko1⟩ := zo1
  replace uo1 := uo1.symm
  subst uo1
  replace go1_2 : tget (pathOf 2) t6 = some v2o1 := Option.some.inj go1_2
  replace hp := LO.on_rt.symm.trans hp
  try dsimp only at hp
  refine Or.inr ⟨y8, v2o1, t6, h7, (qo1.trans (congrArg (fun t => RS.ret t h7) (ovT_eq (l := [(2, v2o1)]) (by show [tget (pathOf 2) t6] = _; rw [go1_2]; rfl)).symm)), trivial, ?_⟩
  obtain rfl := Option.some.inj hp
  exact Ko1
def C_utf8 (call : CallT) : Prop := ∀ {h : Hp} {wl_1 : AV} {l : List Nat} (fl_2 : BIn (Low h) h wl_1 l) {r : Bool}, utf8_p l = some r → ∃ rv rh, call 37 [wl_1] h = .ok rv rh ∧ rv = (AV.bool r) ∧ Eng.Sep (Frz (Low h) h :: []) rh
theorem s_utf8 (d : Nat) : C_utf8 (CC (d + 2)) := by
  intro h wl_1 l fl_2 r hp
  rw [CC, evF_at (sumT_none rfl)]
  exact utf8_w (call := CC (d + 1)) (N := 100000) fl_2 (s_size (d + 0)) (by decide) hp
noncomputable def index_l1 (B0 : List Nat) (B1 : Nat) (B7 : Nat) : Nat → Nat → Nat → Option (LO (Nat × Nat) (Int))
  | 0, _, _ => none
  | m + 1, A4, A8 =>
    (if A8 < B7 then (gd (A8 < B0.length) (if B1 = B0.getD A8 0 then (some (LO.rt ((A8 : Nat) : Int))) else
    (gd (A8 + 1 < 9223372036854775808) (index_l1 B0 B1 B7 m A4 (A8 + 1))))) else
    (some (LO.ex (A4, A8))))
noncomputable def index_l1C : AC := (.seq (.region [⟨(some 9), .q (.bin .lss (.tmp 8) (.tmp 7)), none⟩]) (.seq (.cond (.tmp 9) .skip (.exit 0)) (.seq (.block 1 (.seq (.region [⟨(some 10), .q (.move (.tmp 8)), none⟩, ⟨(some 5), .q (.move (.tmp 10)), none⟩]) (.seq (.region [⟨(some 11), .q (.move (.tmp 1)), none⟩, ⟨(some 12), .q (.move (.tmp 0)), none⟩, ⟨(some 13), .q (.move (.tmp 5)), none⟩, ⟨(some 14), .q (.idxAddrSl 1 (.tmp 12) (.tmp 13)), none⟩, ⟨(some 15), .q (.loadS (.tmp 14)), none⟩, ⟨(some 16), .q (.eq .int false (.tmp 11) (.tmp 15)), none⟩]) (.cond (.tmp 16) (.seq (.region [⟨(some 17), .q (.move (.tmp 5)), none⟩, ⟨(some 4), .q (.move (.tmp 17)), none⟩]) .ret) .skip)))) (.region [⟨(some 18), .q (.bin .add (.tmp 8) (.const (vi 1))), none⟩, ⟨(some 8), .q (.move (.tmp 18)), none⟩]))))
noncomputable def index_p (l : List Nat) (x : Nat) : Option (Int) :=
  (ob (index_l1 l x l.length 90000 0 0) fun o1 =>
    (LO.on o1 (fun s_o1 => (some (-1 : Int))) (fun y8 =>
    (some y8))))
def C_index (call : CallT) : Prop := ∀ {h : Hp} {wl_1 : AV} {l : List Nat} {x : Nat} (fl_2 : BIn (Low h) h wl_1 l) (fx_1 : x < 256) {r : Int}, index_p l x = some r → ∃ rv rh, call 76 [wl_1, (vb8 x)] h = .ok rv rh ∧ rv = (AV.int .i64 r) ∧ Eng.Sep (Frz (Low h) h :: []) rh
noncomputable def place_p (x : Nat) : Option (Int) :=
  (ob (index_p [1, 2, 3, 4, 5, 6, 7, 8, 9, 12, 10, 11] x) fun x2 =>
    (some x2))
def C_place (call : CallT) : Prop := ∀ {h : Hp} {x : Nat} (fx_1 : x < 256) {r : Int}, place_p x = some r → ∃ rv rh, call 58 [(vb8 x)] h = .ok rv rh ∧ rv = (AV.int .i64 r) ∧ Eng.Sep (Frz (Low h) h :: []) rh
noncomputable def named_p (l : List Nat) : Option (Bool) :=
  (gd (l.length < 90000) (ob (some (readG 32 false l 0 0 0)) fun x2 =>
    (if x2.2.2 = 0 then (gd (x2.2.1 ≤ l.length) (gd (l.length < 9223372036854775808) (if x2.1 % 4294967296 ≤ l.length - x2.2.1 then (gd (x2.2.1 + (x2.1 % 4294967296) < 9223372036854775808) (gd (x2.2.1 + (x2.1 % 4294967296) ≤ l.length) (gd (x2.2.1 ≤ x2.2.1 + (x2.1 % 4294967296)) (ob (utf8_p ((l.take (x2.2.1 + (x2.1 % 4294967296))).drop x2.2.1)) fun x15 =>
    (if x15 = true then (some true) else
    (some false)))))) else
    (some false)))) else
    (some false))))
def C_named (call : CallT) : Prop := ∀ {h : Hp} {wl_1 : AV} {l : List Nat} (fl_2 : BIn (Low h) h wl_1 l) {r : Bool}, named_p l = some r → ∃ rv rh, call 60 [wl_1] h = .ok rv rh ∧ rv = (AV.bool r) ∧ Eng.Sep (Frz (Low h) h :: []) rh
noncomputable def split_l1  : Nat → List Nat → List Nat → Nat → List (Nat × List Nat) → Int → Option (LO (List Nat × List Nat × Nat × List (Nat × List Nat) × Int) (List (Nat × List Nat) × Nat))
  | 0, _, _, _, _, _ => none
  | m + 1, A0, A2, A3, A4, A5 =>
    (if 0 < A0.length then (if 12 < A0.getD 0 0 then (some (LO.rt ([], 2))) else
    (if 0 < A0.getD 0 0 then (ob (place_p (A0.getD 0 0)) fun x5 =>
    (if x5 ≤ A5 then (some (LO.rt ([], 2))) else
    (gd (1 ≤ A0.length) (gd ((A0.drop 1).length < 90000) (ob (some (readG 32 false (A0.drop 1) 0 0 0)) fun x20 =>
    (if x20.2.2 ≠ 0 then (some (LO.rt ([], x20.2.2))) else
    (gd (1 + x20.2.1 < 9223372036854775808) (gd (1 + x20.2.1 ≤ A0.length) (gd ((A0.drop (1 + x20.2.1)).length < 9223372036854775808) (if (A0.drop (1 + x20.2.1)).length < x20.1 % 4294967296 then (some (LO.rt ([], 3))) else
    (gd (((A0.drop (1 + x20.2.1)).take (x20.1 % 4294967296)).length ≤ 1099511627776) (if A0.getD 0 0 = 0 then (ob (named_p ((A0.drop (1 + x20.2.1)).take (x20.1 % 4294967296))) fun x37 =>
    (if x37 = false then (some (LO.rt ([], 2))) else
    (ob (place_p (A0.getD 0 0)) fun x49 =>
    (gd ((A4.length + 1) * 32 ≤ 70368744177664) (split_l1  m ((A0.drop (1 + x20.2.1)).drop (x20.1 % 4294967296)) A2 A3 (A4 ++ [(A0.getD 0 0, (A0.drop (1 + x20.2.1)).take (x20.1 % 4294967296))]) (max A5 x49)))))) else
    (ob (place_p (A0.getD 0 0)) fun x37 =>
    (gd ((A4.length + 1) * 32 ≤ 70368744177664) (split_l1  m ((A0.drop (1 + x20.2.1)).drop (x20.1 % 4294967296)) A2 A3 (A4 ++ [(A0.getD 0 0, (A0.drop (1 + x20.2.1)).take (x20.1 % 4294967296))]) (max A5 x37)))))))))))))))) else
    (gd (1 ≤ A0.length) (gd ((A0.drop 1).length < 90000) (ob (some (readG 32 false (A0.drop 1) 0 0 0)) fun x8 =>
    (if x8.2.2 ≠ 0 then (some (LO.rt ([], x8.2.2))) else
    (gd (1 + x8.2.1 < 9223372036854775808) (gd (1 + x8.2.1 ≤ A0.length) (gd ((A0.drop (1 + x8.2.1)).length < 9223372036854775808) (if (A0.drop (1 + x8.2.1)).length < x8.1 % 4294967296 then (some (LO.rt ([], 3))) else
    (gd (((A0.drop (1 + x8.2.1)).take (x8.1 % 4294967296)).length ≤ 1099511627776) (if A0.getD 0 0 = 0 then (ob (named_p ((A0.drop (1 + x8.2.1)).take (x8.1 % 4294967296))) fun x25 =>
    (if x25 = false then (some (LO.rt ([], 2))) else
    (ob (place_p (A0.getD 0 0)) fun x37 =>
    (gd ((A4.length + 1) * 32 ≤ 70368744177664) (split_l1  m ((A0.drop (1 + x8.2.1)).drop (x8.1 % 4294967296)) A2 A3 (A4 ++ [(A0.getD 0 0, (A0.drop (1 + x8.2.1)).take (x8.1 % 4294967296))]) (max A5 x37)))))) else
    (ob (place_p (A0.getD 0 0)) fun x25 =>
    (gd ((A4.length + 1) * 32 ≤ 70368744177664) (split_l1  m ((A0.drop (1 + x8.2.1)).drop (x8.1 % 4294967296)) A2 A3 (A4 ++ [(A0.getD 0 0, (A0.drop (1 + x8.2.1)).take (x8.1 % 4294967296))]) (max A5 x25)))))))))))))))) else
    (some (LO.ex (A0, A2, A3, A4, A5))))
noncomputable def split_l1C : AC := (.seq (.seq (.region [⟨(some 22), .q (.move (.tmp 0)), none⟩, ⟨(some 23), .q (.lenL (.tmp 22)), none⟩, ⟨(some 24), .q (.bin .gtr (.tmp 23) (.const (vi 0))), none⟩]) (.cond (.tmp 24) .skip (.exit 1))) (.block 2 (.seq (.region [⟨(some 25), .q (.move (.tmp 0)), none⟩, ⟨(some 26), .q (.idxAddrSl 1 (.tmp 25) (.const (vi 0))), none⟩, ⟨(some 27), .q (.loadS (.tmp 26)), none⟩, ⟨(some 6), .q (.move (.tmp 27)), none⟩]) (.seq (.seq (.region [⟨(some 28), .q (.move (.tmp 6)), none⟩, ⟨(some 29), .q (.bin .gtr (.tmp 28) (.const (vb8 12))), none⟩, ⟨(some 30), .q (.move (.tmp 29)), none⟩, ⟨(some 31), .q (.move (.tmp 6)), (some (30, false))⟩, ⟨(some 32), .q (.bin .gtr (.tmp 31) (.const (vb8 0))), (some (30, false))⟩, ⟨(some 33), .q (.move (.tmp 32)), (some (30, false))⟩, ⟨(some 34), .q (.move (.tmp 6)), (some (33, true))⟩, ⟨(some 35), .e (.call (.const (AV.func (.func 58) [] [])) [(.tmp 34)]), (some (33, true))⟩, ⟨(some 36), .q (.move (.tmp 5)), (some (33, true))⟩, ⟨(some 37), .q (.bin .leq (.tmp 35) (.tmp 36)), (some (33, true))⟩, ⟨(some 38), .q (.pick (.tmp 33) (.tmp 37) (.const (AV.bool false))), (some (30, false))⟩, ⟨(some 39), .q (.pick (.tmp 30) (.const (AV.bool true)) (.tmp 38)), none⟩]) (.cond (.tmp 39) (.seq (.region [⟨(some 2), .q (.move (.const AV.nilSlice)), none⟩, ⟨(some 3), .q (.move (.const (vi 2))), none⟩]) .ret) .skip)) (.seq (.region [⟨(some 41), .q (.move (.tmp 0)), none⟩, ⟨(some 42), .q (.sliceSl 1 (.tmp 41) (some (.const (vi 1))) none none), none⟩, ⟨(some 43), .e (.call (.const (AV.func (.func 22) [] [])) [(.tmp 42)]), none⟩, ⟨(some 40), .q (.move (.tmp 43)), none⟩, ⟨(some 44), .q (.extract 0 (.tmp 40)), none⟩, ⟨(some 45), .q (.extract 1 (.tmp 40)), none⟩, ⟨(some 46), .q (.extract 2 (.tmp 40)), none⟩, ⟨(some 7), .q (.move (.tmp 44)), none⟩, ⟨(some 8), .q (.move (.tmp 45)), none⟩, ⟨(some 9), .q (.move (.tmp 46)), none⟩]) (.seq (.seq (.region [⟨(some 47), .q (.move (.tmp 9)), none⟩, ⟨(some 48), .q (.eq .int true (.tmp 47) (.const (vi 0))), none⟩]) (.cond (.tmp 48) (.seq (.region [⟨(some 49), .q (.move (.tmp 9)), none⟩, ⟨(some 2), .q (.move (.const AV.nilSlice)), none⟩, ⟨(some 3), .q (.move (.tmp 49)), none⟩]) .ret) .skip)) (.seq (.region [⟨(some 50), .q (.move (.tmp 0)), none⟩, ⟨(some 51), .q (.move (.tmp 8)), none⟩, ⟨(some 52), .q (.bin .add (.const (vi 1)) (.tmp 51)), none⟩, ⟨(some 53), .q (.sliceSl 1 (.tmp 50) (some (.tmp 52)) none none), none⟩, ⟨(some 0), .q (.move (.tmp 53)), none⟩]) (.seq (.seq (.region [⟨(some 54), .q (.move (.tmp 7)), none⟩, ⟨(some 55), .q (.toInt .u64 (.tmp 54)), none⟩, ⟨(some 56), .q (.move (.tmp 0)), none⟩, ⟨(some 57), .q (.lenL (.tmp 56)), none⟩, ⟨(some 58), .q (.toInt .u64 (.tmp 57)), none⟩, ⟨(some 59), .q (.bin .gtr (.tmp 55) (.tmp 58)), none⟩]) (.cond (.tmp 59) (.seq (.region [⟨(some 2), .q (.move (.const AV.nilSlice)), none⟩, ⟨(some 3), .q (.move (.const (vi 3))), none⟩]) .ret) .skip)) (.seq (.region [⟨(some 60), .q (.move (.tmp 0)), none⟩, ⟨(some 61), .q (.move (.tmp 7)), none⟩, ⟨(some 62), .q (.sliceSl 1 (.tmp 60) none (some (.tmp 61)) none), none⟩, ⟨(some 63), .e (.call (.const (AV.func (.func 59) [] [])) [(.tmp 62)]), none⟩, ⟨(some 10), .q (.move (.tmp 63)), none⟩]) (.seq (.region [⟨(some 64), .q (.move (.tmp 0)), none⟩, ⟨(some 65), .q (.move (.tmp 7)), none⟩, ⟨(some 66), .q (.sliceSl 1 (.tmp 64) (some (.tmp 65)) none none), none⟩, ⟨(some 0), .q (.move (.tmp 66)), none⟩]) (.seq (.seq (.region [⟨(some 67), .q (.move (.tmp 6)), none⟩, ⟨(some 68), .q (.eq .int false (.tmp 67) (.const (vb8 0))), none⟩, ⟨(some 69), .q (.move (.tmp 68)), none⟩, ⟨(some 70), .q (.move (.tmp 10)), (some (69, true))⟩, ⟨(some 71), .e (.call (.const (AV.func (.func 60) [] [])) [(.tmp 70)]), (some (69, true))⟩, ⟨(some 72), .q (.un .not (.tmp 71)), (some (69, true))⟩, ⟨(some 73), .q (.pick (.tmp 69) (.tmp 72) (.const (AV.bool false))), none⟩]) (.cond (.tmp 73) (.seq (.region [⟨(some 2), .q (.move (.const AV.nilSlice)), none⟩, ⟨(some 3), .q (.move (.const (vi 2))), none⟩]) .ret) .skip)) (.seq (.region [⟨(some 74), .q (.move (.tmp 5)), none⟩, ⟨(some 75), .q (.move (.tmp 6)), none⟩, ⟨(some 76), .e (.call (.const (AV.func (.func 58) [] [])) [(.tmp 75)]), none⟩, ⟨(some 77), .q (.mx [(.tmp 74), (.tmp 76)]), none⟩, ⟨(some 5), .q (.move (.tmp 77)), none⟩]) (.region [⟨(some 78), .q (.move (.tmp 4)), none⟩, ⟨(some 79), .q (.move (.tmp 6)), none⟩, ⟨(some 80), .q (.move (.tmp 10)), none⟩, ⟨(some 81), .q (.build [(vb8 0), AV.nilSlice] [(0, 1, (.tmp 79)), (1, 1, (.tmp 80))]), none⟩, ⟨(some 82), .l (.buildSlice 2 1 [(vb8 0), AV.nilSlice] [(0, 2, (.tmp 81))]), none⟩, ⟨(some 83), .e (.append 2 32 (.tmp 78) (.tmp 82)), none⟩, ⟨(some 4), .q (.move (.tmp 83)), none⟩])))))))))))))
noncomputable def split_p (l : List Nat) : Option (List (Nat × List Nat) × Nat) :=
  (if l.length < 8 then (some ([], 3)) else
    (if (l.take 8) ≠ [0, 97, 115, 109, 1, 0, 0, 0] then (some ([], 2)) else
    (ob (split_l1  90000 (l.drop 8) ([] : List Nat) 0 ([] : List (Nat × List Nat)) (-1 : Int)) fun o7 =>
    (LO.on o7 (fun s_o7 => (some (s_o7.2.2.2.1, 0))) (fun y14 =>
    (some y14))))))
def C_split (call : CallT) : Prop := ∀ {h : Hp} {wl_1 : AV} {l : List Nat} (fl_2 : BIn (Low h) h wl_1 l) {r : List (Nat × List Nat) × Nat}, split_p l = some r → ∃ rv rh, call 35 [wl_1] h = .ok rv rh ∧ ∃ wk1 : AV, ∃ Lk3 : List AV, ∃ Gk : Nat → Prop, ∃ kk : Hp, rv = (AV.tuple [wk1, (vi r.2)]) ∧ (Eng.Rows (rP (rU .u8) rY) Gk kk Lk3 r.1) ∧ Eng.Sep (OwnO 2 wk1 r.1.length Lk3 :: Frz Gk kk :: Frz (Low h) h :: []) rh
end Go.Proofs.Ytejiebbbodealaa
end
section
set_option linter.unusedVariables false
namespace Go.Proofs.Ytejiebbbodealaa
set_option linter.unusedVariables false
set_option linter.unusedSimpArgs false
open Go Eng
noncomputable def rank_p (x : Nat) : Option (Nat) :=
  (if x = 12 then (some 95) else
    (gd (x * 10 < 9223372036854775808) (some (x * 10))))
def C_rank (call : CallT) : Prop := ∀ {h : Hp} {x : Nat} (fx_1 : x < 256) {r : Nat}, rank_p x = some r → ∃ rv rh, call 62 [(vb8 x)] h = .ok rv rh ∧ rv = (vi r) ∧ Eng.Sep (Frz (Low h) h :: []) rh
noncomputable def rutf8_l2 (B0 : List Nat) (B3 : Nat) : Nat → Bool → Nat → Nat → Option (LO (Bool × Nat × Nat) (Bool))
  | 0, _, _, _ => none
  | m + 1, A2, A5, A6 =>
    (if A6 < B3 then (gd (A6 < B0.length) (if (B0.getD A6 0) &&& 192 ≠ 128 then (some (LO.rt false)) else
    (gd (A6 + 1 < 9223372036854775808) (rutf8_l2 B0 B3 m A2 ((A5 * 2 ^ 6 % 4294967296) ||| ((B0.getD A6 0) &&& 63)) (A6 + 1))))) else
    (some (LO.ex (A2, A5, A6))))
noncomputable def rutf8_l2C : AC := (.seq (.seq (.region [⟨(some 56), .q (.move (.tmp 6)), none⟩, ⟨(some 57), .q (.move (.tmp 3)), none⟩, ⟨(some 58), .q (.bin .lss (.tmp 56) (.tmp 57)), none⟩]) (.cond (.tmp 58) .skip (.exit 3))) (.seq (.block 4 (.seq (.seq (.region [⟨(some 61), .q (.move (.tmp 0)), none⟩, ⟨(some 62), .q (.move (.tmp 6)), none⟩, ⟨(some 63), .q (.idxAddrSl 1 (.tmp 61) (.tmp 62)), none⟩, ⟨(some 64), .q (.loadS (.tmp 63)), none⟩, ⟨(some 65), .q (.bin .and (.tmp 64) (.const (vb8 192))), none⟩, ⟨(some 66), .q (.eq .int true (.tmp 65) (.const (vb8 128))), none⟩]) (.cond (.tmp 66) (.seq (.region [⟨(some 2), .q (.move (.const (AV.bool false))), none⟩]) .ret) .skip)) (.region [⟨(some 67), .q (.move (.tmp 5)), none⟩, ⟨(some 68), .q (.bin .shl (.tmp 67) (.const (vq 6))), none⟩, ⟨(some 69), .q (.move (.tmp 0)), none⟩, ⟨(some 70), .q (.move (.tmp 6)), none⟩, ⟨(some 71), .q (.idxAddrSl 1 (.tmp 69) (.tmp 70)), none⟩, ⟨(some 72), .q (.loadS (.tmp 71)), none⟩, ⟨(some 73), .q (.bin .and (.tmp 72) (.const (vb8 63))), none⟩, ⟨(some 74), .q (.toInt .u32 (.tmp 73)), none⟩, ⟨(some 75), .q (.bin .or (.tmp 68) (.tmp 74)), none⟩, ⟨(some 5), .q (.move (.tmp 75)), none⟩]))) (.region [⟨(some 59), .q (.move (.tmp 6)), none⟩, ⟨(some 60), .q (.bin .add (.tmp 59) (.const (vi 1))), none⟩, ⟨(some 6), .q (.move (.tmp 60)), none⟩])))
noncomputable def rutf8_l1  : Nat → List Nat → Bool → Option (LO (List Nat × Bool) (Bool))
  | 0, _, _ => none
  | m + 1, A0, A2 =>
    (if 0 < A0.length then (if A0.getD 0 0 < 128 then (if A0.length < 1 then (some (LO.rt false)) else
    (ob (rutf8_l2 A0 1 90000 A2 (A0.getD 0 0) 1) fun o7 =>
    (LO.on o7 (fun s_o7 => (rutf8_l1  m (A0.drop 1) s_o7.1)) (fun y14 =>
    (some (LO.rt y14)))))) else
    (if 194 ≤ A0.getD 0 0 then (if A0.getD 0 0 < 224 then (if A0.length < 2 then (some (LO.rt false)) else
    (ob (rutf8_l2 A0 2 90000 A2 ((A0.getD 0 0) &&& 31) 1) fun o10 =>
    (LO.on o10 (fun s_o10 => (rutf8_l1  m (A0.drop 2) s_o10.1)) (fun y17 =>
    (some (LO.rt y17)))))) else
    (if A0.getD 0 0 < 240 then (if A0.length < 3 then (some (LO.rt false)) else
    (ob (rutf8_l2 A0 3 90000 A2 ((A0.getD 0 0) &&& 15) 1) fun o11 =>
    (LO.on o11 (fun s_o11 => (if s_o11.2.1 < 2048 then (some (LO.rt false)) else
    (if 55296 ≤ s_o11.2.1 then (if s_o11.2.1 < 57344 then (some (LO.rt false)) else
    (rutf8_l1  m (A0.drop 3) s_o11.1)) else
    (rutf8_l1  m (A0.drop 3) s_o11.1)))) (fun y18 =>
    (some (LO.rt y18)))))) else
    (if A0.getD 0 0 < 245 then (if A0.length < 4 then (some (LO.rt false)) else
    (ob (rutf8_l2 A0 4 90000 A2 ((A0.getD 0 0) &&& 7) 1) fun o12 =>
    (LO.on o12 (fun s_o12 => (if s_o12.2.1 < 65536 then (some (LO.rt false)) else
    (if 1114111 < s_o12.2.1 then (some (LO.rt false)) else
    (rutf8_l1  m (A0.drop 4) s_o12.1)))) (fun y19 =>
    (some (LO.rt y19)))))) else
    (some (LO.rt false))))) else
    (if 224 ≤ A0.getD 0 0 then (if A0.getD 0 0 < 240 then (if A0.length < 3 then (some (LO.rt false)) else
    (ob (rutf8_l2 A0 3 90000 A2 ((A0.getD 0 0) &&& 15) 1) fun o11 =>
    (LO.on o11 (fun s_o11 => (if s_o11.2.1 < 2048 then (some (LO.rt false)) else
    (if 55296 ≤ s_o11.2.1 then (if s_o11.2.1 < 57344 then (some (LO.rt false)) else
    (rutf8_l1  m (A0.drop 3) s_o11.1)) else
    (rutf8_l1  m (A0.drop 3) s_o11.1)))) (fun y18 =>
    (some (LO.rt y18)))))) else
    (if A0.getD 0 0 < 245 then (if A0.length < 4 then (some (LO.rt false)) else
    (ob (rutf8_l2 A0 4 90000 A2 ((A0.getD 0 0) &&& 7) 1) fun o12 =>
    (LO.on o12 (fun s_o12 => (if s_o12.2.1 < 65536 then (some (LO.rt false)) else
    (if 1114111 < s_o12.2.1 then (some (LO.rt false)) else
    (rutf8_l1  m (A0.drop 4) s_o12.1)))) (fun y19 =>
    (some (LO.rt y19)))))) else
    (some (LO.rt false)))) else
    (if 240 ≤ A0.getD 0 0 then (if A0.getD 0 0 < 245 then (if A0.length < 4 then (some (LO.rt false)) else
    (ob (rutf8_l2 A0 4 90000 A2 ((A0.getD 0 0) &&& 7) 1) fun o12 =>
    (LO.on o12 (fun s_o12 => (if s_o12.2.1 < 65536 then (some (LO.rt false)) else
    (if 1114111 < s_o12.2.1 then (some (LO.rt false)) else
    (rutf8_l1  m (A0.drop 4) s_o12.1)))) (fun y19 =>
    (some (LO.rt y19)))))) else
    (some (LO.rt false))) else
    (some (LO.rt false)))))) else
    (some (LO.ex (A0, A2))))
noncomputable def rutf8_l1C : AC := (.seq (.seq (.region [⟨(some 7), .q (.move (.tmp 0)), none⟩, ⟨(some 8), .q (.lenL (.tmp 7)), none⟩, ⟨(some 9), .q (.bin .gtr (.tmp 8) (.const (vi 0))), none⟩]) (.cond (.tmp 9) .skip (.exit 0))) (.block 1 (.seq (.region [⟨(some 3), .q (.move (.const (vi 0))), none⟩]) (.seq (.seq (.region [⟨(some 10), .q (.move (.tmp 0)), none⟩, ⟨(some 11), .q (.idxAddrSl 1 (.tmp 10) (.const (vi 0))), none⟩, ⟨(some 12), .q (.loadS (.tmp 11)), none⟩, ⟨(some 4), .q (.move (.tmp 12)), none⟩]) (.block 2 (.seq (.region [⟨(some 14), .q (.move (.tmp 4)), none⟩, ⟨(some 15), .q (.bin .lss (.tmp 14) (.const (vb8 128))), none⟩, ⟨(some 13), .q (.move (.tmp 15)), none⟩]) (.cond (.tmp 13) (.region [⟨(some 3), .q (.move (.const (vi 1))), none⟩]) (.seq (.region [⟨(some 17), .q (.move (.tmp 4)), none⟩, ⟨(some 18), .q (.bin .geq (.tmp 17) (.const (vb8 194))), none⟩, ⟨(some 19), .q (.move (.tmp 18)), none⟩, ⟨(some 20), .q (.move (.tmp 4)), (some (19, true))⟩, ⟨(some 21), .q (.bin .lss (.tmp 20) (.const (vb8 224))), (some (19, true))⟩, ⟨(some 22), .q (.pick (.tmp 19) (.tmp 21) (.const (AV.bool false))), none⟩, ⟨(some 16), .q (.move (.tmp 22)), none⟩]) (.cond (.tmp 16) (.region [⟨(some 3), .q (.move (.const (vi 2))), none⟩]) (.seq (.region [⟨(some 24), .q (.move (.tmp 4)), none⟩, ⟨(some 25), .q (.bin .geq (.tmp 24) (.const (vb8 224))), none⟩, ⟨(some 26), .q (.move (.tmp 25)), none⟩, ⟨(some 27), .q (.move (.tmp 4)), (some (26, true))⟩, ⟨(some 28), .q (.bin .lss (.tmp 27) (.const (vb8 240))), (some (26, true))⟩, ⟨(some 29), .q (.pick (.tmp 26) (.tmp 28) (.const (AV.bool false))), none⟩, ⟨(some 23), .q (.move (.tmp 29)), none⟩]) (.cond (.tmp 23) (.region [⟨(some 3), .q (.move (.const (vi 3))), none⟩]) (.seq (.region [⟨(some 31), .q (.move (.tmp 4)), none⟩, ⟨(some 32), .q (.bin .geq (.tmp 31) (.const (vb8 240))), none⟩, ⟨(some 33), .q (.move (.tmp 32)), none⟩, ⟨(some 34), .q (.move (.tmp 4)), (some (33, true))⟩, ⟨(some 35), .q (.bin .lss (.tmp 34) (.const (vb8 245))), (some (33, true))⟩, ⟨(some 36), .q (.pick (.tmp 33) (.tmp 35) (.const (AV.bool false))), none⟩, ⟨(some 30), .q (.move (.tmp 36)), none⟩]) (.cond (.tmp 30) (.region [⟨(some 3), .q (.move (.const (vi 4))), none⟩]) .skip)))))))))) (.seq (.seq (.region [⟨(some 37), .q (.move (.tmp 3)), none⟩, ⟨(some 38), .q (.eq .int false (.tmp 37) (.const (vi 0))), none⟩, ⟨(some 39), .q (.move (.tmp 38)), none⟩, ⟨(some 40), .q (.move (.tmp 0)), (some (39, false))⟩, ⟨(some 41), .q (.lenL (.tmp 40)), (some (39, false))⟩, ⟨(some 42), .q (.move (.tmp 3)), (some (39, false))⟩, ⟨(some 43), .q (.bin .lss (.tmp 41) (.tmp 42)), (some (39, false))⟩, ⟨(some 44), .q (.pick (.tmp 39) (.const (AV.bool true)) (.tmp 43)), none⟩]) (.cond (.tmp 44) (.seq (.region [⟨(some 2), .q (.move (.const (AV.bool false))), none⟩]) .ret) .skip)) (.seq (.region [⟨(some 45), .q (.move (.tmp 0)), none⟩, ⟨(some 46), .q (.idxAddrSl 1 (.tmp 45) (.const (vi 0))), none⟩, ⟨(some 47), .q (.loadS (.tmp 46)), none⟩, ⟨(some 48), .q (.toInt .u32 (.tmp 47)), none⟩, ⟨(some 5), .q (.move (.tmp 48)), none⟩]) (.seq (.seq (.region [⟨(some 49), .q (.move (.tmp 3)), none⟩, ⟨(some 50), .q (.bin .gtr (.tmp 49) (.const (vi 1))), none⟩]) (.cond (.tmp 50) (.region [⟨(some 51), .q (.move (.tmp 5)), none⟩, ⟨(some 52), .q (.move (.tmp 3)), none⟩, ⟨(some 53), .q (.bin .add (.tmp 52) (.const (vi 1))), none⟩, ⟨(some 54), .q (.bin .shr (.const (vw 255)) (.tmp 53)), none⟩, ⟨(some 55), .q (.bin .and (.tmp 51) (.tmp 54)), none⟩, ⟨(some 5), .q (.move (.tmp 55)), none⟩]) .skip)) (.seq (.seq (.region [⟨(some 6), .q (.move (.const (vi 1))), none⟩]) (.block 3 (.loop (.seq (.seq (.region [⟨(some 56), .q (.move (.tmp 6)), none⟩, ⟨(some 57), .q (.move (.tmp 3)), none⟩, ⟨(some 58), .q (.bin .lss (.tmp 56) (.tmp 57)), none⟩]) (.cond (.tmp 58) .skip (.exit 3))) (.seq (.block 4 (.seq (.seq (.region [⟨(some 61), .q (.move (.tmp 0)), none⟩, ⟨(some 62), .q (.move (.tmp 6)), none⟩, ⟨(some 63), .q (.idxAddrSl 1 (.tmp 61) (.tmp 62)), none⟩, ⟨(some 64), .q (.loadS (.tmp 63)), none⟩, ⟨(some 65), .q (.bin .and (.tmp 64) (.const (vb8 192))), none⟩, ⟨(some 66), .q (.eq .int true (.tmp 65) (.const (vb8 128))), none⟩]) (.cond (.tmp 66) (.seq (.region [⟨(some 2), .q (.move (.const (AV.bool false))), none⟩]) .ret) .skip)) (.region [⟨(some 67), .q (.move (.tmp 5)), none⟩, ⟨(some 68), .q (.bin .shl (.tmp 67) (.const (vq 6))), none⟩, ⟨(some 69), .q (.move (.tmp 0)), none⟩, ⟨(some 70), .q (.move (.tmp 6)), none⟩, ⟨(some 71), .q (.idxAddrSl 1 (.tmp 69) (.tmp 70)), none⟩, ⟨(some 72), .q (.loadS (.tmp 71)), none⟩, ⟨(some 73), .q (.bin .and (.tmp 72) (.const (vb8 63))), none⟩, ⟨(some 74), .q (.toInt .u32 (.tmp 73)), none⟩, ⟨(some 75), .q (.bin .or (.tmp 68) (.tmp 74)), none⟩, ⟨(some 5), .q (.move (.tmp 75)), none⟩]))) (.region [⟨(some 59), .q (.move (.tmp 6)), none⟩, ⟨(some 60), .q (.bin .add (.tmp 59) (.const (vi 1))), none⟩, ⟨(some 6), .q (.move (.tmp 60)), none⟩])))))) (.seq (.seq (.region [⟨(some 76), .q (.move (.tmp 3)), none⟩, ⟨(some 77), .q (.eq .int false (.tmp 76) (.const (vi 3))), none⟩, ⟨(some 78), .q (.move (.tmp 77)), none⟩, ⟨(some 79), .q (.move (.tmp 5)), (some (78, true))⟩, ⟨(some 80), .q (.bin .lss (.tmp 79) (.const (vw 2048))), (some (78, true))⟩, ⟨(some 81), .q (.move (.tmp 80)), (some (78, true))⟩, ⟨(some 82), .q (.move (.tmp 5)), (some (81, false))⟩, ⟨(some 83), .q (.bin .geq (.tmp 82) (.const (vw 55296))), (some (81, false))⟩, ⟨(some 84), .q (.move (.tmp 83)), (some (81, false))⟩, ⟨(some 85), .q (.move (.tmp 5)), (some (84, true))⟩, ⟨(some 86), .q (.bin .lss (.tmp 85) (.const (vw 57344))), (some (84, true))⟩, ⟨(some 87), .q (.pick (.tmp 84) (.tmp 86) (.const (AV.bool false))), (some (81, false))⟩, ⟨(some 88), .q (.pick (.tmp 81) (.const (AV.bool true)) (.tmp 87)), (some (78, true))⟩, ⟨(some 89), .q (.pick (.tmp 78) (.tmp 88) (.const (AV.bool false))), none⟩, ⟨(some 90), .q (.move (.tmp 89)), none⟩, ⟨(some 91), .q (.move (.tmp 3)), (some (90, false))⟩, ⟨(some 92), .q (.eq .int false (.tmp 91) (.const (vi 4))), (some (90, false))⟩, ⟨(some 93), .q (.move (.tmp 92)), (some (90, false))⟩, ⟨(some 94), .q (.move (.tmp 5)), (some (93, true))⟩, ⟨(some 95), .q (.bin .lss (.tmp 94) (.const (vw 65536))), (some (93, true))⟩, ⟨(some 96), .q (.move (.tmp 95)), (some (93, true))⟩, ⟨(some 97), .q (.move (.tmp 5)), (some (96, false))⟩, ⟨(some 98), .q (.bin .gtr (.tmp 97) (.const (vw 1114111))), (some (96, false))⟩, ⟨(some 99), .q (.pick (.tmp 96) (.const (AV.bool true)) (.tmp 98)), (some (93, true))⟩, ⟨(some 100), .q (.pick (.tmp 93) (.tmp 99) (.const (AV.bool false))), (some (90, false))⟩, ⟨(some 101), .q (.pick (.tmp 90) (.const (AV.bool true)) (.tmp 100)), none⟩]) (.cond (.tmp 101) (.seq (.region [⟨(some 2), .q (.move (.const (AV.bool false))), none⟩]) .ret) .skip)) (.region [⟨(some 102), .q (.move (.tmp 0)), none⟩, ⟨(some 103), .q (.move (.tmp 3)), none⟩, ⟨(some 104), .q (.sliceSl 1 (.tmp 102) (some (.tmp 103)) none none), none⟩, ⟨(some 0), .q (.move (.tmp 104)), none⟩]))))))))))
noncomputable def rutf8_p (l : List Nat) : Option (Bool) :=
  (ob (rutf8_l1  90000 l false) fun o1 =>
    (LO.on o1 (fun s_o1 => (some true)) (fun y8 =>
    (some y8))))
def C_rutf8 (call : CallT) : Prop := ∀ {h : Hp} {wl_1 : AV} {l : List Nat} (fl_2 : BIn (Low h) h wl_1 l) {r : Bool}, rutf8_p l = some r → ∃ rv rh, call 38 [wl_1] h = .ok rv rh ∧ rv = (AV.bool r) ∧ Eng.Sep (Frz (Low h) h :: []) rh
noncomputable def rbyte_p (rb : List Nat) (re : Nat) : Option (List Nat × Nat × Nat) :=
  (if re = 0 then (if rb.length = 0 then (some (rb, 3, 0)) else
    (gd (0 < rb.length) (gd (1 ≤ rb.length) (some (rb.drop 1, re, rb.getD 0 0))))) else
    (some (rb, re, 0)))
def C_rbyte (call : CallT) : Prop := ∀ {h : Hp} {h0 : Hp} {G : Nat → Prop} {R : List AObj} {b : Nat} {rest : List AV} {wrb_1 : AV} {rb : List Nat} {re : Nat} (frb_2 : BIn G h0 wrb_1 rb) {r : List Nat × Nat × Nat}, rbyte_p rb re = some r → Eng.Sep (Cel b (wrb_1 :: (vi re) :: rest) :: Frz G h0 :: R) h → ∃ rv rh, call 61 [(AV.ptr b 0)] h = .ok rv rh ∧ ∃ wk2 : AV, rv = (vb8 r.2.2) ∧ (r.2.2 < 256) ∧ (BIn G h0 wk2 r.1) ∧ Eng.Sep (Cel b (wk2 :: (vi r.2.1) :: rest) :: Frz G h0 :: R) rh
noncomputable def rfail_p (rb : List Nat) (re : Nat) (e : Nat) : Option (List Nat × Nat) :=
  (if re = 0 then (some (rb, e)) else
    (some (rb, re)))
def C_rfail (call : CallT) : Prop := ∀ {h : Hp} {h0 : Hp} {G : Nat → Prop} {R : List AObj} {b : Nat} {rest : List AV} {wrb_1 : AV} {rb : List Nat} {re : Nat} {e : Nat} (frb_2 : BIn G h0 wrb_1 rb) {r : List Nat × Nat}, rfail_p rb re e = some r → Eng.Sep (Cel b (wrb_1 :: (vi re) :: rest) :: Frz G h0 :: R) h → ∃ rv rh, call 65 [(AV.ptr b 0), (vi e)] h = .ok rv rh ∧ ∃ wk1 : AV, rv = (AV.tuple []) ∧ (BIn G h0 wk1 r.1) ∧ Eng.Sep (Cel b (wk1 :: (vi r.2) :: rest) :: Frz G h0 :: R) rh
noncomputable def rnum32_p (rb : List Nat) (re : Nat) : Option (List Nat × Nat × Nat) :=
  (if re ≠ 0 then (some (rb, re, 0)) else
    (gd (rb.length < 90000) (ob (some (readG 32 false rb 0 0 0)) fun x3 =>
    (gd (x3.2.1 ≤ rb.length) (some (rb.drop x3.2.1, x3.2.2, x3.1))))))
def C_rnum32 (call : CallT) : Prop := ∀ {h : Hp} {h0 : Hp} {G : Nat → Prop} {R : List AObj} {b : Nat} {rest : List AV} {wrb_1 : AV} {rb : List Nat} {re : Nat} (frb_2 : BIn G h0 wrb_1 rb) {r : List Nat × Nat × Nat}, rnum32_p rb re = some r → Eng.Sep (Cel b (wrb_1 :: (vi re) :: rest) :: Frz G h0 :: R) h → ∃ rv rh, call 77 [(AV.ptr b 0), (vi 32), (AV.bool false)] h = .ok rv rh ∧ ∃ wk2 : AV, rv = (vq r.2.2) ∧ (r.2.2 < 18446744073709551616) ∧ (BIn G h0 wk2 r.1) ∧ Eng.Sep (Cel b (wk2 :: (vi r.2.1) :: rest) :: Frz G h0 :: R) rh
noncomputable def ru32_p (rb : List Nat) (re : Nat) : Option (List Nat × Nat × Nat) :=
  (ob (rnum32_p rb re) fun x1 =>
    (some (x1.1, x1.2.1, x1.2.2 % 4294967296)))
def C_ru32 (call : CallT) : Prop := ∀ {h : Hp} {h0 : Hp} {G : Nat → Prop} {R : List AObj} {b : Nat} {rest : List AV} {wrb_1 : AV} {rb : List Nat} {re : Nat} (frb_2 : BIn G h0 wrb_1 rb) {r : List Nat × Nat × Nat}, ru32_p rb re = some r → Eng.Sep (Cel b (wrb_1 :: (vi re) :: rest) :: Frz G h0 :: R) h → ∃ rv rh, call 63 [(AV.ptr b 0)] h = .ok rv rh ∧ ∃ wk2 : AV, rv = (vw r.2.2) ∧ (r.2.2 < 4294967296) ∧ (BIn G h0 wk2 r.1) ∧ Eng.Sep (Cel b (wk2 :: (vi r.2.1) :: rest) :: Frz G h0 :: R) rh
noncomputable def rtake_p (rb : List Nat) (re : Nat) (x : Nat) : Option (List Nat × Nat × List Nat) :=
  (if re = 0 then (gd (rb.length < 9223372036854775808) (if rb.length < x then (some (rb, 3, [])) else
    (gd (0 + ((rb.take x).length) ≤ 70368744177664) (some (rb.drop x, re, rb.take x))))) else
    (some (rb, re, [])))
def C_rtake (call : CallT) : Prop := ∀ {h : Hp} {h0 : Hp} {G : Nat → Prop} {R : List AObj} {b : Nat} {rest : List AV} {wrb_1 : AV} {rb : List Nat} {re : Nat} {x : Nat} (frb_2 : BIn G h0 wrb_1 rb) (fx_1 : x < 4294967296) {r : List Nat × Nat × List Nat}, rtake_p rb re x = some r → Eng.Sep (Cel b (wrb_1 :: (vi re) :: rest) :: Frz G h0 :: R) h → ∃ rv rh, call 64 [(AV.ptr b 0), (vw x)] h = .ok rv rh ∧ ∃ wk1 : AV, ∃ wk3 : AV, rv = wk1 ∧ (∀ x ∈ r.2.2, x < 256) ∧ (BIn G h0 wk3 r.1) ∧ Eng.Sep (OwnO 1 wk1 r.2.2.length (u8s r.2.2) :: Cel b (wk3 :: (vi r.2.1) :: rest) :: Frz G h0 :: R) rh
noncomputable def rsplit_l1  : Nat → List Nat → Nat → List (Nat × List Nat) → Nat → List Nat → Nat → Option (LO (List Nat × Nat × List (Nat × List Nat) × Nat × List Nat × Nat) (List (Nat × List Nat) × Nat))
  | 0, _, _, _, _, _, _ => none
  | m + 1, A2, A3, A5, A6, Q101_0, Q101_1 =>
    (if Q101_1 = 0 then (if 0 < Q101_0.length then (ob (rbyte_p Q101_0 Q101_1) fun x4 =>
    (if 12 < x4.2.2 then (some (LO.rt ([], 2))) else
    (if 0 < x4.2.2 then (ob (rank_p x4.2.2) fun x23 =>
    (if x23 ≤ A6 then (some (LO.rt ([], 2))) else
    (ob (ru32_p x4.1 x4.2.1) fun x36 =>
    (ob (rtake_p x36.1 x36.2.1 x36.2.2) fun x50 =>
    (if x50.2.1 ≠ 0 then (some (LO.ex (A2, A3, A5, A6, x50.1, x50.2.1))) else
    (if x4.2.2 = 0 then (ob (ru32_p x50.2.2 0) fun x72 =>
    (ob (rtake_p x72.1 x72.2.1 x72.2.2) fun x86 =>
    (if x86.2.1 ≠ 0 then (ob (rfail_p x50.1 x50.2.1 2) fun x103 =>
    (gd ((A5.length + 1) * 32 ≤ 70368744177664) (rsplit_l1  m A2 A3 (A5 ++ [(x4.2.2, x50.2.2)]) A6 x103.1 x103.2))) else
    (ob (rutf8_p x86.2.2) fun x102 =>
    (if x102 = false then (ob (rfail_p x50.1 x50.2.1 2) fun x115 =>
    (gd ((A5.length + 1) * 32 ≤ 70368744177664) (rsplit_l1  m A2 A3 (A5 ++ [(x4.2.2, x50.2.2)]) A6 x115.1 x115.2))) else
    (gd ((A5.length + 1) * 32 ≤ 70368744177664) (rsplit_l1  m A2 A3 (A5 ++ [(x4.2.2, x50.2.2)]) A6 x50.1 x50.2.1))))))) else
    (ob (rank_p x4.2.2) fun x69 =>
    (gd ((A5.length + 1) * 32 ≤ 70368744177664) (rsplit_l1  m A2 A3 (A5 ++ [(x4.2.2, x50.2.2)]) x69 x50.1 x50.2.1))))))))) else
    (ob (ru32_p x4.1 x4.2.1) fun x24 =>
    (ob (rtake_p x24.1 x24.2.1 x24.2.2) fun x38 =>
    (if x38.2.1 ≠ 0 then (some (LO.ex (A2, A3, A5, A6, x38.1, x38.2.1))) else
    (if x4.2.2 = 0 then (ob (ru32_p x38.2.2 0) fun x60 =>
    (ob (rtake_p x60.1 x60.2.1 x60.2.2) fun x74 =>
    (if x74.2.1 ≠ 0 then (ob (rfail_p x38.1 x38.2.1 2) fun x91 =>
    (gd ((A5.length + 1) * 32 ≤ 70368744177664) (rsplit_l1  m A2 A3 (A5 ++ [(x4.2.2, x38.2.2)]) A6 x91.1 x91.2))) else
    (ob (rutf8_p x74.2.2) fun x90 =>
    (if x90 = false then (ob (rfail_p x38.1 x38.2.1 2) fun x103 =>
    (gd ((A5.length + 1) * 32 ≤ 70368744177664) (rsplit_l1  m A2 A3 (A5 ++ [(x4.2.2, x38.2.2)]) A6 x103.1 x103.2))) else
    (gd ((A5.length + 1) * 32 ≤ 70368744177664) (rsplit_l1  m A2 A3 (A5 ++ [(x4.2.2, x38.2.2)]) A6 x38.1 x38.2.1))))))) else
    (ob (rank_p x4.2.2) fun x57 =>
    (gd ((A5.length + 1) * 32 ≤ 70368744177664) (rsplit_l1  m A2 A3 (A5 ++ [(x4.2.2, x38.2.2)]) x57 x38.1 x38.2.1)))))))))) else
    (some (LO.ex (A2, A3, A5, A6, Q101_0, Q101_1)))) else
    (some (LO.ex (A2, A3, A5, A6, Q101_0, Q101_1))))
noncomputable def rsplit_l1C : AC := (.seq (.seq (.region [⟨(some 23), .q (.move (.tmp 4)), none⟩, ⟨(some 24), .q (.nilCheck (.tmp 23)), none⟩, ⟨(some 25), .q (.fieldAddr 0 (.tmp 24)), none⟩, ⟨(some 26), .q (.fieldAddr 1 (.tmp 25)), none⟩, ⟨(some 27), .q (.loadS (.tmp 26)), none⟩, ⟨(some 28), .q (.eq .int false (.tmp 27) (.const (vi 0))), none⟩, ⟨(some 29), .q (.move (.tmp 28)), none⟩, ⟨(some 30), .q (.move (.tmp 4)), (some (29, true))⟩, ⟨(some 31), .q (.nilCheck (.tmp 30)), (some (29, true))⟩, ⟨(some 32), .q (.fieldAddr 0 (.tmp 31)), (some (29, true))⟩, ⟨(some 33), .q (.fieldAddr 0 (.tmp 32)), (some (29, true))⟩, ⟨(some 34), .q (.loadS (.tmp 33)), (some (29, true))⟩, ⟨(some 35), .q (.lenL (.tmp 34)), (some (29, true))⟩, ⟨(some 36), .q (.bin .gtr (.tmp 35) (.const (vi 0))), (some (29, true))⟩, ⟨(some 37), .q (.pick (.tmp 29) (.tmp 36) (.const (AV.bool false))), none⟩]) (.cond (.tmp 37) .skip (.exit 0))) (.block 1 (.seq (.region [⟨(some 38), .q (.move (.tmp 4)), none⟩, ⟨(some 39), .q (.nilCheck (.tmp 38)), none⟩, ⟨(some 40), .q (.fieldAddr 0 (.tmp 39)), none⟩, ⟨(some 41), .e (.call (.const (AV.func (.func 61) [] [])) [(.tmp 40)]), none⟩, ⟨(some 42), .q (.build [(vb8 0), AV.nilSlice] [(0, 1, (.tmp 41))]), none⟩, ⟨(some 7), .l (.alloc [(vb8 0), AV.nilSlice]), none⟩, ⟨none, .e (.store 2 (.tmp 7) (.tmp 42)), none⟩]) (.seq (.seq (.region [⟨(some 43), .q (.fieldAddr 0 (.tmp 7)), none⟩, ⟨(some 44), .q (.loadS (.tmp 43)), none⟩, ⟨(some 45), .q (.bin .gtr (.tmp 44) (.const (vb8 12))), none⟩, ⟨(some 46), .q (.move (.tmp 45)), none⟩, ⟨(some 47), .q (.fieldAddr 0 (.tmp 7)), (some (46, false))⟩, ⟨(some 48), .q (.loadS (.tmp 47)), (some (46, false))⟩, ⟨(some 49), .q (.bin .gtr (.tmp 48) (.const (vb8 0))), (some (46, false))⟩, ⟨(some 50), .q (.move (.tmp 49)), (some (46, false))⟩, ⟨(some 51), .q (.fieldAddr 0 (.tmp 7)), (some (50, true))⟩, ⟨(some 52), .q (.loadS (.tmp 51)), (some (50, true))⟩, ⟨(some 53), .e (.call (.const (AV.func (.func 62) [] [])) [(.tmp 52)]), (some (50, true))⟩, ⟨(some 54), .q (.move (.tmp 6)), (some (50, true))⟩, ⟨(some 55), .q (.bin .leq (.tmp 53) (.tmp 54)), (some (50, true))⟩, ⟨(some 56), .q (.pick (.tmp 50) (.tmp 55) (.const (AV.bool false))), (some (46, false))⟩, ⟨(some 57), .q (.pick (.tmp 46) (.const (AV.bool true)) (.tmp 56)), none⟩]) (.cond (.tmp 57) (.seq (.region [⟨(some 2), .q (.move (.const AV.nilSlice)), none⟩, ⟨(some 3), .q (.move (.const (vi 2))), none⟩]) .ret) .skip)) (.seq (.region [⟨(some 58), .q (.move (.tmp 4)), none⟩, ⟨(some 59), .q (.nilCheck (.tmp 58)), none⟩, ⟨(some 60), .q (.fieldAddr 0 (.tmp 59)), none⟩, ⟨(some 61), .e (.call (.const (AV.func (.func 63) [] [])) [(.tmp 60)]), none⟩, ⟨(some 8), .q (.move (.tmp 61)), none⟩]) (.seq (.region [⟨(some 62), .q (.move (.tmp 4)), none⟩, ⟨(some 63), .q (.nilCheck (.tmp 62)), none⟩, ⟨(some 64), .q (.fieldAddr 0 (.tmp 63)), none⟩, ⟨(some 65), .q (.move (.tmp 8)), none⟩, ⟨(some 66), .e (.call (.const (AV.func (.func 64) [] [])) [(.tmp 64), (.tmp 65)]), none⟩, ⟨(some 67), .q (.fieldAddr 1 (.tmp 7)), none⟩, ⟨none, .e (.store 1 (.tmp 67) (.tmp 66)), none⟩]) (.seq (.seq (.region [⟨(some 68), .q (.move (.tmp 4)), none⟩, ⟨(some 69), .q (.nilCheck (.tmp 68)), none⟩, ⟨(some 70), .q (.fieldAddr 0 (.tmp 69)), none⟩, ⟨(some 71), .q (.fieldAddr 1 (.tmp 70)), none⟩, ⟨(some 72), .q (.loadS (.tmp 71)), none⟩, ⟨(some 73), .q (.eq .int true (.tmp 72) (.const (vi 0))), none⟩]) (.cond (.tmp 73) (.exit 0) .skip)) (.seq (.block 2 (.seq (.region [⟨(some 78), .q (.fieldAddr 0 (.tmp 7)), none⟩, ⟨(some 79), .q (.loadS (.tmp 78)), none⟩, ⟨(some 80), .q (.eq .int false (.tmp 79) (.const (vb8 0))), none⟩, ⟨(some 77), .q (.move (.tmp 80)), none⟩]) (.cond (.tmp 77) (.seq (.region [⟨(some 81), .q (.fieldAddr 1 (.tmp 7)), none⟩, ⟨(some 82), .q (.loadS (.tmp 81)), none⟩, ⟨(some 83), .q (.build [AV.nilSlice, (vi 0)] [(0, 1, (.tmp 82))]), none⟩, ⟨(some 84), .l (.box (.tmp 83)), none⟩, ⟨(some 9), .q (.move (.tmp 84)), none⟩]) (.seq (.region [⟨(some 85), .q (.move (.tmp 9)), none⟩, ⟨(some 86), .q (.move (.tmp 9)), none⟩, ⟨(some 87), .e (.call (.const (AV.func (.func 63) [] [])) [(.tmp 86)]), none⟩, ⟨(some 88), .e (.call (.const (AV.func (.func 64) [] [])) [(.tmp 85), (.tmp 87)]), none⟩, ⟨(some 10), .q (.move (.tmp 88)), none⟩]) (.seq (.region [⟨(some 89), .q (.move (.tmp 9)), none⟩, ⟨(some 90), .q (.nilCheck (.tmp 89)), none⟩, ⟨(some 91), .q (.fieldAddr 1 (.tmp 90)), none⟩, ⟨(some 92), .q (.loadS (.tmp 91)), none⟩, ⟨(some 93), .q (.eq .int true (.tmp 92) (.const (vi 0))), none⟩, ⟨(some 94), .q (.move (.tmp 93)), none⟩, ⟨(some 95), .q (.move (.tmp 10)), (some (94, false))⟩, ⟨(some 96), .e (.call (.const (AV.func (.func 38) [] [])) [(.tmp 95)]), (some (94, false))⟩, ⟨(some 97), .q (.un .not (.tmp 96)), (some (94, false))⟩, ⟨(some 98), .q (.pick (.tmp 94) (.const (AV.bool true)) (.tmp 97)), none⟩]) (.cond (.tmp 98) (.region [⟨(some 99), .q (.move (.tmp 4)), none⟩, ⟨(some 100), .q (.nilCheck (.tmp 99)), none⟩, ⟨(some 101), .q (.fieldAddr 0 (.tmp 100)), none⟩, ⟨(some 102), .e (.call (.const (AV.func (.func 65) [] [])) [(.tmp 101), (.const (vi 2))]), none⟩]) .skip)))) (.region [⟨(some 74), .q (.fieldAddr 0 (.tmp 7)), none⟩, ⟨(some 75), .q (.loadS (.tmp 74)), none⟩, ⟨(some 76), .e (.call (.const (AV.func (.func 62) [] [])) [(.tmp 75)]), none⟩, ⟨(some 6), .q (.move (.tmp 76)), none⟩])))) (.region [⟨(some 103), .q (.move (.tmp 5)), none⟩, ⟨(some 104), .q (.loadA 2 (.tmp 7)), none⟩, ⟨(some 105), .l (.buildSlice 2 1 [(vb8 0), AV.nilSlice] [(0, 2, (.tmp 104))]), none⟩, ⟨(some 106), .e (.append 2 32 (.tmp 103) (.tmp 105)), none⟩, ⟨(some 5), .q (.move (.tmp 106)), none⟩])))))))))
noncomputable def rsplit_p (l : List Nat) : Option (List (Nat × List Nat) × Nat) :=
  (if l.length < 8 then (some ([], 3)) else
    (if (l.take 8) ≠ [0, 97, 115, 109, 1, 0, 0, 0] then (some ([], 2)) else
    (ob (rsplit_l1  90000 ([] : List Nat) 0 ([] : List (Nat × List Nat)) 0 (l.drop 8) 0) fun o9 =>
    (LO.on o9 (fun s_o9 => (if s_o9.2.2.2.2.2 ≠ 0 then (some ([], s_o9.2.2.2.2.2)) else
    (some (s_o9.2.2.1, 0)))) (fun y16 =>
    (some y16))))))
def C_rsplit (call : CallT) : Prop := ∀ {h : Hp} {wl_1 : AV} {l : List Nat} (fl_2 : BIn (Low h) h wl_1 l) {r : List (Nat × List Nat) × Nat}, rsplit_p l = some r → ∃ rv rh, call 36 [wl_1] h = .ok rv rh ∧ ∃ wk1 : AV, ∃ Lk3 : List AV, ∃ Gk : Nat → Prop, ∃ kk : Hp, rv = (AV.tuple [wk1, (vi r.2)]) ∧ (Eng.Rows (rP (rU .u8) rY) Gk kk Lk3 r.1) ∧ Eng.Sep (OwnO 2 wk1 r.1.length Lk3 :: Frz Gk kk :: Frz (Low h) h :: []) rh
end Go.Proofs.Ytejiebbbodealaa
end
section
set_option linter.unusedVariables false
namespace Go.Proofs.Ytejiebbbodealaa
set_option linter.unusedVariables false
set_option linter.unusedSimpArgs false
open Go Eng
noncomputable def lawsplits_l1 (B5 : List (Nat × List Nat)) (B7 : List (Nat × List Nat)) : Nat → Bool → Nat → Option (LO (Bool × Nat) (Bool))
  | 0, _, _ => none
  | m + 1, A4, A9 =>
    (if A9 < B7.length then (gd (A9 < B5.length) (if (B5.getD A9 default).1 ≠ (B7.getD A9 default).1 then (some (LO.rt false)) else
    (if ((B5.getD A9 default).2) ≠ ((B7.getD A9 default).2) then (some (LO.rt false)) else
    (gd (A9 + 1 < 9223372036854775808) (lawsplits_l1 B5 B7 m A4 (A9 + 1)))))) else
    (some (LO.ex (A4, A9))))
noncomputable def lawsplits_l1C : AC := (.seq (.seq (.region [⟨(some 47), .q (.move (.tmp 9)), none⟩, ⟨(some 48), .q (.move (.tmp 7)), none⟩, ⟨(some 49), .q (.lenL (.tmp 48)), none⟩, ⟨(some 50), .q (.bin .lss (.tmp 47) (.tmp 49)), none⟩]) (.cond (.tmp 50) .skip (.exit 0))) (.seq (.block 1 (.seq (.drawn [⟨[(⟨(some 53), .q (.move (.tmp 5)), none⟩, 0), (⟨(some 54), .q (.move (.tmp 9)), none⟩, 0), (⟨(some 55), .q (.idxAddrSl 2 (.tmp 53) (.tmp 54)), none⟩, 0), (⟨(some 56), .q (.fieldAddr 0 (.tmp 55)), none⟩, 0), (⟨(some 57), .q (.loadS (.tmp 56)), none⟩, 0), (⟨(some 58), .q (.move (.tmp 7)), none⟩, 0), (⟨(some 59), .q (.move (.tmp 9)), none⟩, 0), (⟨(some 60), .q (.idxAddrSl 2 (.tmp 58) (.tmp 59)), none⟩, 0), (⟨(some 61), .q (.fieldAddr 0 (.tmp 60)), none⟩, 0), (⟨(some 62), .q (.loadS (.tmp 61)), none⟩, 0), (⟨(some 63), .q (.eq .int true (.tmp 57) (.tmp 62)), none⟩, 0), (⟨(some 64), .q (.move (.tmp 63)), none⟩, 0), (⟨(some 65), .q (.move (.tmp 5)), (some (64, false))⟩, 0), (⟨(some 66), .q (.move (.tmp 9)), (some (64, false))⟩, 0), (⟨(some 67), .q (.idxAddrSl 2 (.tmp 65) (.tmp 66)), (some (64, false))⟩, 0), (⟨(some 68), .q (.fieldAddr 1 (.tmp 67)), (some (64, false))⟩, 0), (⟨(some 69), .q (.loadS (.tmp 68)), (some (64, false))⟩, 0), (⟨(some 70), .q (.toStr (.tmp 69)), (some (64, false))⟩, 0), (⟨(some 71), .q (.move (.tmp 7)), (some (64, false))⟩, 0), (⟨(some 72), .q (.move (.tmp 9)), (some (64, false))⟩, 0), (⟨(some 73), .q (.idxAddrSl 2 (.tmp 71) (.tmp 72)), (some (64, false))⟩, 0), (⟨(some 74), .q (.fieldAddr 1 (.tmp 73)), (some (64, false))⟩, 0), (⟨(some 75), .q (.loadS (.tmp 74)), (some (64, false))⟩, 0), (⟨(some 76), .q (.toStr (.tmp 75)), (some (64, false))⟩, 0), (⟨(some 77), .q (.eq .str true (.tmp 70) (.tmp 76)), (some (64, false))⟩, 0), (⟨(some 78), .q (.pick (.tmp 64) (.const (AV.bool true)) (.tmp 77)), none⟩, 0)], none⟩]) (.cond (.tmp 78) (.seq (.region [⟨(some 4), .q (.move (.const (AV.bool false))), none⟩]) .ret) .skip))) (.region [⟨(some 51), .q (.move (.tmp 9)), none⟩, ⟨(some 52), .q (.bin .add (.tmp 51) (.const (vi 1))), none⟩, ⟨(some 9), .q (.move (.tmp 52)), none⟩])))
noncomputable def lawsplits_p (b : List Nat) (s : List Nat) : Option (Bool) :=
  (if 300 < b.length then (some true) else
    (if 60 < s.length then (some true) else
    (ob (split_p b) fun x3 =>
    (ob (rsplit_p b) fun x17 =>
    (if x3.2 ≠ x17.2 then (some false) else
    (if x3.1.length ≠ x17.1.length then (some false) else
    (ob (utf8_p s) fun x33 =>
    (ob (rutf8_p s) fun x44 =>
    (if x33 ≠ x44 then (some false) else
    (ob (lawsplits_l1 x3.1 x17.1 90000 false 0) fun o63 =>
    (LO.on o63 (fun s_o63 => (some true)) (fun y70 =>
    (some y70)))))))))))))
end Go.Proofs.Ytejiebbbodealaa
end
section
set_option linter.unusedVariables false
set_option linter.unusedSimpArgs false
namespace Go.Proofs.Ytejiebbbodealaa
open Go Eng
def vs (a y : Nat) : Nat := a * 64 ||| (y &&& 63)
theorem vs_lt {a y k : Nat} (h : a < 2 ^ k) : vs a y < 2 ^ (k + 6) := by
  refine Nat.or_lt_two_pow ?_ ?_
  · rw [Nat.pow_add]; omega
  · exact Nat.lt_of_le_of_lt Nat.and_le_right (Nat.lt_of_lt_of_le (by decide : 63 < 2 ^ 6) (Nat.pow_le_pow_right (by decide) (by omega)))
theorem size_c {B4 B5 B52 m A2 a i : Nat} {l : List Nat} (hi : i < B52) (hl : i < l.length) (hs : i < 1000) (ha : a < 2 ^ 15) :
    size_l1 B4 B5 l B52 (m + 1) A2 a i = if (l.getD i 0) &&& 192 ≠ 128 then some (LO.rt 0) else size_l1 B4 B5 l B52 m A2 (vs a (l.getD i 0)) (i + 1) := by
  rw [size_l1, if_pos hi, gd_t hl]
  split
  · rfl
  · rw [gd_t (by omega), gd_t (by omega)]; rfl
theorem size_e {B4 B5 B52 m A2 a i : Nat} {l : List Nat} (hi : B52 ≤ i) : size_l1 B4 B5 l B52 (m + 1) A2 a i = some (LO.ex (A2, a, i)) := by
  rw [size_l1, if_neg (by omega)]
def tails (n : Nat) (l : List Nat) (i a : Nat) : Option Nat := match n with
  | 0 => some a
  | n + 1 => if (l.getD i 0) &&& 192 ≠ 128 then none else tails n l (i + 1) (vs a (l.getD i 0))
theorem size_t {B4 B5 A2 : Nat} {l : List Nat} : ∀ (n i a m : Nat), i + n = l.length → l.length < 1000 → a < 2 ^ (21 - 6 * n) → 6 * n ≤ 21 → 
    size_l1 B4 B5 l l.length (m + n + 1) A2 a i = match tails n l i a with | none => some (LO.rt 0) | some v => some (LO.ex (A2, v, i + n))
  | 0, i, a, m, h1, h2, h3, h4 => size_e (by omega)
  | n + 1, i, a, m, h1, h2, h3, h4 => by
    have h5 : a < 2 ^ 15 := Nat.lt_of_lt_of_le h3 (Nat.pow_le_pow_right (by decide) (by omega))
    show size_l1 B4 B5 l l.length ((m + n + 1) + 1) A2 a i = _
    rw [size_c (by omega) (by omega) (by omega) h5]
    show _ = match (if (l.getD i 0) &&& 192 ≠ 128 then none else tails n l (i + 1) (vs a (l.getD i 0))) with | none => some (LO.rt 0) | some v => some (LO.ex (A2, v, i + (n + 1)))
    split
    · rfl
    · rw [size_t n (i + 1) _ m (by omega) h2 (by have := vs_lt (y := l.getD i 0) h3; rwa [show 21 - 6 * (n + 1) + 6 = 21 - 6 * n by omega] at this) (by omega), show i + 1 + n = i + (n + 1) by omega]
theorem tails_shift : ∀ (n i a : Nat) (l : List Nat) (k : Nat), i + n ≤ k → tails n ((l.take (k + 1)).drop 1) i a = tails n l (i + 1) a
  | 0, i, a, l, k, h => rfl
  | n + 1, i, a, l, k, h => by
    have e : ((l.take (k + 1)).drop 1).getD i 0 = l.getD (i + 1) 0 := by
      rw [List.getD_eq_getElem?_getD, List.getD_eq_getElem?_getD, List.getElem?_drop, Nat.add_comm 1 i, List.getElem?_take_of_lt (by omega)]
    show (if _ then _ else _) = (if _ then _ else _)
    rw [e, tails_shift n (i + 1) _ l k (by omega)]
theorem tails_lt : ∀ (n i a k : Nat) (l : List Nat) (v : Nat), a < 2 ^ k → tails n l i a = some v → v < 2 ^ (k + 6 * n)
  | 0, i, a, k, l, v, ha, h => by cases h; exact ha
  | n + 1, i, a, k, l, v, ha, h => by
    rw [tails] at h
    split at h
    · cases h
    · have := tails_lt n _ _ (k + 6) _ _ (vs_lt ha) h
      rwa [show k + 6 * (n + 1) = k + 6 + 6 * n by omega]
theorem a31 : ∀ x < 256, 192 ≤ x → x < 224 → x &&& 31 < 2 ^ 5 ∧ (x < 194 → x &&& 31 < 2 ^ 1) ∧ (194 ≤ x → 2 ≤ x &&& 31) := by decide +kernel
theorem a15 : ∀ x < 256, 224 ≤ x → x < 240 → x &&& 15 < 2 ^ 4 := by decide +kernel
theorem a7 : ∀ x < 256, 240 ≤ x → x < 248 → x &&& 7 < 2 ^ 3 ∧ (245 ≤ x → 5 ≤ x &&& 7) := by decide +kernel
def sz (l : List Nat) : Nat :=
  if l.getD 0 0 < 128 then 1
  else if l.getD 0 0 < 192 then 0
  else if l.getD 0 0 < 224 then if l.length < 2 then 0 else match tails 1 l 1 (l.getD 0 0 &&& 31) with | none => 0 | some v => if v < 128 then 0 else 2
  else if l.getD 0 0 < 240 then if l.length < 3 then 0 else match tails 2 l 1 (l.getD 0 0 &&& 15) with | none => 0 | some v => if v < 2048 then 0 else if 55296 ≤ v ∧ v ≤ 57343 then 0 else 3
  else if l.getD 0 0 < 248 then if l.length < 4 then 0 else match tails 3 l 1 (l.getD 0 0 &&& 7) with | none => 0 | some v => if v < 65536 then 0 else if 1114111 < v then 0 else 4
  else 0
theorem size_in {B5 : Nat} {l : List Nat} {n a A2 : Nat} (hn : n + 1 ≤ l.length) (ha : a < 2 ^ (21 - 6 * n)) (h6 : 6 * n ≤ 21) :
    size_l1 (n + 1) B5 ((l.take (n + 1)).drop 1) (((l.take (n + 1)).drop 1).length) 90000 A2 a 0 = match tails n l 1 a with | none => some (LO.rt 0) | some v => some (LO.ex (A2, v, n)) := by
  have hlen : ((l.take (n + 1)).drop 1).length = n := by rw [List.length_drop, List.length_take]; omega
  have := size_t (B4 := n + 1) (B5 := B5) (A2 := A2) (l := (l.take (n + 1)).drop 1) n 0 a (90000 - n - 1) (by omega) (by omega) ha h6
  rw [show 90000 - n - 1 + n + 1 = 90000 by omega, tails_shift n 0 a l n (by omega), Nat.zero_add] at this
  rw [this, Nat.zero_add]
theorem size_eq {l : List Nat} (h0 : 0 < l.length) (hx : l.getD 0 0 < 256) : size_p l = some (sz l) := by
  unfold size_p sz
  rw [gd_t h0]
  generalize hl : l.getD 0 0 = x at hx
  by_cases h1 : x < 128
  · rw [if_pos h1, if_pos h1]
  rw [if_neg h1, if_neg h1]
  by_cases h2 : x < 192
  · rw [if_neg (by omega), if_neg (by omega), if_neg (by omega), if_pos h2]
  rw [if_pos (by omega), if_neg h2]
  by_cases h3 : x < 224
  · rw [if_pos h3, if_pos h3]
    obtain ⟨k1, k2, k3⟩ := a31 x hx (by omega) h3
    by_cases h4 : l.length < 2
    · rw [if_pos h4, if_pos h4]
    · rw [if_neg h4, if_neg h4, size_in (n := 1) (by omega) (Nat.lt_of_lt_of_le k1 (by decide)) (by decide)]
      cases ht : tails 1 l 1 (x &&& 31) with
      | none => rfl
      | some v =>
        have hv := tails_lt 1 _ _ 5 _ _ k1 ht
        show (if v < 128 then some 0 else if 1114111 < v then some 0 else if 55296 ≤ v then if v ≤ 57343 then some 0 else some 2 else some 2) = some (if v < 128 then 0 else 2)
        have hv : v < 2048 := hv
        by_cases h5 : v < 128
        · rw [if_pos h5, if_pos h5]
        · rw [if_neg h5, if_neg h5, if_neg (by omega), if_neg (by omega)]
  rw [if_neg h3, if_neg h3]
  by_cases h4 : x < 240
  · rw [if_pos h4, if_pos h4]
    have k1 := a15 x hx (by omega) h4
    by_cases h5 : l.length < 3
    · rw [if_pos h5, if_pos h5]
    · rw [if_neg h5, if_neg h5, size_in (n := 2) (by omega) (Nat.lt_of_lt_of_le k1 (by decide)) (by decide)]
      cases ht : tails 2 l 1 (x &&& 15) with
      | none => rfl
      | some v =>
        have hv := tails_lt 2 _ _ 4 _ _ k1 ht
        show (if v < 2048 then some 0 else if 1114111 < v then some 0 else if 55296 ≤ v then if v ≤ 57343 then some 0 else some 3 else some 3) = some (if v < 2048 then 0 else if 55296 ≤ v ∧ v ≤ 57343 then 0 else 3)
        have hv : v < 65536 := hv
        by_cases h6 : v < 2048
        · rw [if_pos h6, if_pos h6]
        · rw [if_neg h6, if_neg h6, if_neg (by omega)]
          by_cases h7 : 55296 ≤ v
          · rw [if_pos h7]
            by_cases h8 : v ≤ 57343
            · rw [if_pos h8, if_pos ⟨h7, h8⟩]
            · rw [if_neg h8, if_neg (by omega)]
          · rw [if_neg h7, if_neg (by omega)]
  rw [if_neg h4, if_neg h4]
  by_cases h5 : x < 248
  · rw [if_pos h5, if_pos h5]
    obtain ⟨k1, k2⟩ := a7 x hx (by omega) h5
    by_cases h6 : l.length < 4
    · rw [if_pos h6, if_pos h6]
    · rw [if_neg h6, if_neg h6, size_in (n := 3) (by omega) (Nat.lt_of_lt_of_le k1 (by decide)) (by decide)]
      cases ht : tails 3 l 1 (x &&& 7) with
      | none => rfl
      | some v =>
        show (if v < 65536 then some 0 else if 1114111 < v then some 0 else if 55296 ≤ v then if v ≤ 57343 then some 0 else some 4 else some 4) = some (if v < 65536 then 0 else if 1114111 < v then 0 else 4)
        by_cases h6 : v < 65536
        · rw [if_pos h6, if_pos h6]
        · rw [if_neg h6, if_neg h6]
          by_cases h7 : 1114111 < v
          · rw [if_pos h7, if_pos h7]
          · rw [if_neg h7, if_neg h7, if_pos (by omega), if_neg (by omega)]
  · rw [if_neg h5, if_neg h5]
noncomputable def kf (m : Nat) (l : List Nat) (b : Bool) (n : Nat) : Option (LO (List Nat × Bool) Bool) := if n = 0 then some (LO.rt false) else rutf8_l1 m (l.drop n) b
theorem sz_le {l : List Nat} (h0 : 0 < l.length) : sz l ≤ l.length := by
  unfold sz
  repeat' split
  all_goals omega
theorem ustep {l : List Nat} {b : Bool} {m : Nat} (h0 : 0 < l.length) (hx : l.getD 0 0 < 256) :
    utf8_l1 (m + 1) l b = if sz l = 0 then some (LO.rt false) else utf8_l1 m (l.drop (sz l)) b := by
  rw [utf8_l1, if_pos h0, size_eq h0 hx, ob_some]
  split
  · rfl
  · rw [gd_t (sz_le h0)]
end Go.Proofs.Ytejiebbbodealaa
end
section
set_option linter.unusedVariables false
set_option linter.unusedSimpArgs false
namespace Go.Proofs.Ytejiebbbodealaa
open Go Eng
noncomputable def lawgo_p (b : List Nat) : Option (Bool) :=
  (if 60 < b.length then (some true) else
    (gd (b.length ≤ 70368744177664) (if ((decs b.length b).flatMap encL) = b then (ob (utf8_p b) fun x5 =>
    (if x5 = true then (some true) else
    (some false))) else
    (ob (utf8_p b) fun x5 =>
    (if x5 = false then (some true) else
    (some false))))))
theorem lawgo_w {call : CallT} {N : Nat} {h : Hp} {wb_1 : AV} {b : List Nat} (fb_2 : BIn (Low h) h wb_1 b) (h_begun : TrueS call 34) (h_utf8 : C_utf8 call) {r : Bool} (hp : lawgo_p b = some r) :
    ∃ rv rh, evF1 (progS Try.prog (compDrawn Try.prog)) N call 10 [wb_1] h = .ok rv rh ∧ (fun (rv : AV) (rh : Hp) => rv = (AV.bool r)) rv rh := by
  have S : Eng.Sep [Frz (Low h) h] h := Sep.start h
  unfold lawgo_p at hp
  refine fwalk_ok (K := (fun (rv : AV) (rh : Hp) => rv = (AV.bool r))) (o := (.eff 1 (AV.bool true) h (.tell 2 (vi b.length) (.fork 0 .fin (.tell 2 (AV.str b) (.ell 0 (.sl (decs b.length b).length (decs b.length b).length 1 false) (mkCells (i32s (decs b.length b)) (decs b.length b).length) (.tell 0 (AV.str ((decs b.length b).flatMap encL)) (.tell 1 (AV.str b) (.fork 0 (.again 0 (.exi 0 fun (x5 : Bool) => (.exi 0 fun (h10 : Hp) => (.eff 0 (AV.bool x5) h10 (.fork 1 (.again 0 .fin) (.again 0 .fin)))))) (.again 0 (.exi 0 fun (x5 : Bool) => (.exi 0 fun (h10 : Hp) => (.eff 0 (AV.bool x5) h10 (.fork 1 (.again 0 .fin) (.again 0 .fin))))))))))))))) (p := (fun (KK : AV → Hp → Prop) => (call 34 [] h = .ok (AV.bool true) h ∧ ((evQ (.lenL (.const wb_1)) .lf H0 = .ok (vi b.length) ∧ ((ltI (Int.ofNat 60) (Int.ofNat b.length) = true → KK (AV.bool true) h) ∧ (ltI (Int.ofNat 60) (Int.ofNat b.length) = false → ((evQ (.toStr (.const wb_1)) .lf h = .ok (AV.str b) ∧ (evL (.runes (.const (.str b))) .lf = .ok (.sl (decs b.length b).length (decs b.length b).length 1 false) (mkCells (i32s (decs b.length b)) (decs b.length b).length) ∧ ((evQ (.ofRunes (.const (AV.slice (Hp.next h) 0 (decs b.length b).length (decs b.length b).length 1 false))) .lf (hpush h (mkCells (i32s (decs b.length b)) (decs b.length b).length)) = .ok (AV.str ((decs b.length b).flatMap encL)) ∧ ((evQ (.toStr (.const wb_1)) .lf (hpush h (mkCells (i32s (decs b.length b)) (decs b.length b).length)) = .ok (AV.str b) ∧ ((strEq ((decs b.length b).flatMap encL) b = true → ((again (.eq .str false (.const (AV.str ((decs b.length b).flatMap encL))) (.const (AV.str b))) .lf (AV.bool true) (hpush h (mkCells (i32s (decs b.length b)) (decs b.length b).length)) = true ∧ again (.toStr (.const wb_1)) .lf (AV.str b) (hpush h (mkCells (i32s (decs b.length b)) (decs b.length b).length)) = true ∧ again (.move (.const wb_1)) .lf wb_1 (hpush h (mkCells (i32s (decs b.length b)) (decs b.length b).length)) = true ∧ again (.ofRunes (.const (AV.slice (Hp.next h) 0 (decs b.length b).length (decs b.length b).length 1 false))) .lf (AV.str ((decs b.length b).flatMap encL)) (hpush h (mkCells (i32s (decs b.length b)) (decs b.length b).length)) = true ∧ again (.toStr (.const wb_1)) .lf (AV.str b) (hpush h (mkCells (i32s (decs b.length b)) (decs b.length b).length)) = true ∧ again (.move (.const wb_1)) .lf wb_1 (hpush h (mkCells (i32s (decs b.length b)) (decs b.length b).length)) = true ∧ again (.move (.const wb_1)) .lf wb_1 (hpush h (mkCells (i32s (decs b.length b)) (decs b.length b).length)) = true ∧ True) ∧ (∃ x5 : Bool, ∃ h10 : Hp, (call 37 [wb_1] (hpush h (mkCells (i32s (decs b.length b)) (decs b.length b).length)) = .ok (AV.bool x5) h10 ∧ ((bc x5 true (notB true) = true → ((again (.move (.const (AV.bool (bc x5 true (notB true))))) .lf (AV.bool true) h10 = true ∧ again (.eq .bool false (.const (AV.bool x5)) (.const (AV.bool true))) .lf (AV.bool (bc x5 true (notB true))) h10 = true ∧ again (.eq .str false (.const (AV.str ((decs b.length b).flatMap encL))) (.const (AV.str b))) .lf (AV.bool true) h10 = true ∧ again (.toStr (.const wb_1)) .lf (AV.str b) h10 = true ∧ again (.move (.const wb_1)) .lf wb_1 h10 = true ∧ again (.ofRunes (.const (AV.slice (Hp.next h) 0 (decs b.length b).length (decs b.length b).length 1 false))) .lf (AV.str ((decs b.length b).flatMap encL)) h10 = true ∧ again (.toStr (.const wb_1)) .lf (AV.str b) h10 = true ∧ again (.move (.const wb_1)) .lf wb_1 h10 = true ∧ True) ∧ KK (AV.bool true) h10)) ∧ (bc x5 true (notB true) = false → ((again (.move (.const (AV.bool (bc x5 true (notB true))))) .lf (AV.bool false) h10 = true ∧ again (.eq .bool false (.const (AV.bool x5)) (.const (AV.bool true))) .lf (AV.bool (bc x5 true (notB true))) h10 = true ∧ again (.eq .str false (.const (AV.str ((decs b.length b).flatMap encL))) (.const (AV.str b))) .lf (AV.bool true) h10 = true ∧ again (.toStr (.const wb_1)) .lf (AV.str b) h10 = true ∧ again (.move (.const wb_1)) .lf wb_1 h10 = true ∧ again (.ofRunes (.const (AV.slice (Hp.next h) 0 (decs b.length b).length (decs b.length b).length 1 false))) .lf (AV.str ((decs b.length b).flatMap encL)) h10 = true ∧ again (.toStr (.const wb_1)) .lf (AV.str b) h10 = true ∧ again (.move (.const wb_1)) .lf wb_1 h10 = true ∧ True) ∧ KK (AV.bool false) h10))))))) ∧ (strEq ((decs b.length b).flatMap encL) b = false → ((again (.eq .str false (.const (AV.str ((decs b.length b).flatMap encL))) (.const (AV.str b))) .lf (AV.bool false) (hpush h (mkCells (i32s (decs b.length b)) (decs b.length b).length)) = true ∧ again (.toStr (.const wb_1)) .lf (AV.str b) (hpush h (mkCells (i32s (decs b.length b)) (decs b.length b).length)) = true ∧ again (.move (.const wb_1)) .lf wb_1 (hpush h (mkCells (i32s (decs b.length b)) (decs b.length b).length)) = true ∧ again (.ofRunes (.const (AV.slice (Hp.next h) 0 (decs b.length b).length (decs b.length b).length 1 false))) .lf (AV.str ((decs b.length b).flatMap encL)) (hpush h (mkCells (i32s (decs b.length b)) (decs b.length b).length)) = true ∧ again (.toStr (.const wb_1)) .lf (AV.str b) (hpush h (mkCells (i32s (decs b.length b)) (decs b.length b).length)) = true ∧ again (.move (.const wb_1)) .lf wb_1 (hpush h (mkCells (i32s (decs b.length b)) (decs b.length b).length)) = true ∧ again (.move (.const wb_1)) .lf wb_1 (hpush h (mkCells (i32s (decs b.length b)) (decs b.length b).length)) = true ∧ True) ∧ (∃ x5 : Bool, ∃ h10 : Hp, (call 37 [wb_1] (hpush h (mkCells (i32s (decs b.length b)) (decs b.length b).length)) = .ok (AV.bool x5) h10 ∧ ((bc x5 false (notB false) = true → ((again (.move (.const (AV.bool (bc x5 false (notB false))))) .lf (AV.bool true) h10 = true ∧ again (.eq .bool false (.const (AV.bool x5)) (.const (AV.bool false))) .lf (AV.bool (bc x5 false (notB false))) h10 = true ∧ again (.eq .str false (.const (AV.str ((decs b.length b).flatMap encL))) (.const (AV.str b))) .lf (AV.bool false) h10 = true ∧ again (.toStr (.const wb_1)) .lf (AV.str b) h10 = true ∧ again (.move (.const wb_1)) .lf wb_1 h10 = true ∧ again (.ofRunes (.const (AV.slice (Hp.next h) 0 (decs b.length b).length (decs b.length b).length 1 false))) .lf (AV.str ((decs b.length b).flatMap encL)) h10 = true ∧ again (.toStr (.const wb_1)) .lf (AV.str b) h10 = true ∧ again (.move (.const wb_1)) .lf wb_1 h10 = true ∧ True) ∧ KK (AV.bool true) h10)) ∧ (bc x5 false (notB false) = false → ((again (.move (.const (AV.bool (bc x5 false (notB false))))) .lf (AV.bool false) h10 = true ∧ again (.eq .bool false (.const (AV.bool x5)) (.const (AV.bool false))) .lf (AV.bool (bc x5 false (notB false))) h10 = true ∧ again (.eq .str false (.const (AV.str ((decs b.length b).flatMap encL))) (.const (AV.str b))) .lf (AV.bool false) h10 = true ∧ again (.toStr (.const wb_1)) .lf (AV.str b) h10 = true ∧ again (.move (.const wb_1)) .lf wb_1 h10 = true ∧ again (.ofRunes (.const (AV.slice (Hp.next h) 0 (decs b.length b).length (decs b.length b).length 1 false))) .lf (AV.str ((decs b.length b).flatMap encL)) h10 = true ∧ again (.toStr (.const wb_1)) .lf (AV.str b) h10 = true ∧ again (.move (.const wb_1)) .lf wb_1 h10 = true ∧ True) ∧ KK (AV.bool false) h10))))))))))))))))))))) (fun (rv : AV) (rh : Hp) => rv = (AV.bool r))) (by kernel_rfl) ?_
  refine ⟨h_begun _, ?_⟩
  refine ⟨q_len (BIn.now S (i := 0) rfl fb_2), ?_⟩
  refine ⟨fun c1 => ?_, fun c1 => ?_⟩
  · replace c1 := ltI_t c1
    replace hp := ift hp c1
    obtain rfl := Option.some.inj hp
    exact rfl
  replace c1 := ltI_f c1
  replace hp := iff0 hp (nltO c1)
  refine ⟨q_toStr (BIn.now S (i := 0) rfl fb_2), ?_⟩
  have ⟨g2, hp⟩ := gd_inv hp
  refine ⟨runes_told g2, ?_⟩
  have S3 := runes_new S (decs b.length b)
  refine ⟨own_ofRunes S3 (i := 0) rfl (decs_okC _ _), ?_⟩
  refine ⟨q_toStr (BIn.now S3 (i := 1) rfl fb_2), ?_⟩
  refine ⟨fun c4 => ?_, fun c4 => ?_⟩
  · have rc4 := c4
    replace c4 := strEq_t c4
    replace hp := ift hp c4
    refine ⟨⟨again_of (congrArg (fun b => OV.ok (AV.bool b)) rc4) (avEq_bool _), again_of (q_toStr (BIn.now S3 (i := 1) rfl fb_2)) (avEq_str _), again_of (rfl) (BIn.same fb_2), again_of (own_ofRunes S3 (i := 0) rfl (decs_okC _ _)) (avEq_str _), again_of (q_toStr (BIn.now S3 (i := 1) rfl fb_2)) (avEq_str _), again_of (rfl) (BIn.same fb_2), again_of (rfl) (BIn.same fb_2), trivial⟩, ?_⟩
    have ⟨x5, hb6, hp⟩ := ob_inv hp
    obtain ⟨v9, h10, q11, e12, S13⟩ := h_utf8 (BIn.up (Sep.low S3 (i := 1) rfl) fb_2) hb6
    replace e12 := e12.symm
    subst e12
    have S15 := Sep.call S3 (news := []) S13
    refine ⟨x5, h10, q11, ?_⟩
    refine ⟨fun c16 => ?_, fun c16 => ?_⟩
    · have rc16 := c16
      replace c16 := eqB_t c16
      replace hp := ift hp c16
      refine ⟨⟨again_of (congrArg (fun b => OV.ok (AV.bool b)) rc16) (avEq_bool _), again_of (rfl) (avEq_bool _), again_of (congrArg (fun b => OV.ok (AV.bool b)) rc4) (avEq_bool _), again_of (q_toStr (BIn.now S15 (i := 1) rfl fb_2)) (avEq_str _), again_of (rfl) (BIn.same fb_2), again_of (own_ofRunes S15 (i := 0) rfl (decs_okC _ _)) (avEq_str _), again_of (q_toStr (BIn.now S15 (i := 1) rfl fb_2)) (avEq_str _), again_of (rfl) (BIn.same fb_2), trivial⟩, ?_⟩
      obtain rfl := Option.some.inj hp
      exact rfl
    have rc16 := c16
    replace c16 := eqB_f c16
    replace hp := iff0 hp (c16)
    refine ⟨⟨again_of (congrArg (fun b => OV.ok (AV.bool b)) rc16) (avEq_bool _), again_of (rfl) (avEq_bool _), again_of (congrArg (fun b => OV.ok (AV.bool b)) rc4) (avEq_bool _), again_of (q_toStr (BIn.now S15 (i := 1) rfl fb_2)) (avEq_str _), again_of (rfl) (BIn.same fb_2), again_of (own_ofRunes S15 (i := 0) rfl (decs_okC _ _)) (avEq_str _), again_of (q_toStr (BIn.now S15 (i := 1) rfl fb_2)) (avEq_str _), again_of (rfl) (BIn.same fb_2), trivial⟩, ?_⟩
    obtain rfl := Option.some.inj hp
    exact rfl
  have rc4 := c4
  replace c4 := strEq_f c4
  replace hp := iff0 hp (c4)
  refine ⟨⟨again_of (congrArg (fun b => OV.ok (AV.bool b)) rc4) (avEq_bool _), again_of (q_toStr (BIn.now S3 (i := 1) rfl fb_2)) (avEq_str _), again_of (rfl) (BIn.same fb_2), again_of (own_ofRunes S3 (i := 0) rfl (decs_okC _ _)) (avEq_str _), again_of (q_toStr (BIn.now S3 (i := 1) rfl fb_2)) (avEq_str _), again_of (rfl) (BIn.same fb_2), again_of (rfl) (BIn.same fb_2), trivial⟩, ?_⟩
  have ⟨x5, hb6, hp⟩ := ob_inv hp
  obtain ⟨v9, h10, q11, e12, S13⟩ := h_utf8 (BIn.up (Sep.low S3 (i := 1) rfl) fb_2) hb6
  replace e12 := e12.symm
  subst e12
  have S15 := Sep.call S3 (news := []) S13
  refine ⟨x5, h10, q11, ?_⟩
  refine ⟨fun c16 => ?_, fun c16 => ?_⟩
  · have rc16 := c16
    replace c16 := eqB_t c16
    replace hp := ift hp c16
    refine ⟨⟨again_of (congrArg (fun b => OV.ok (AV.bool b)) rc16) (avEq_bool _), again_of (rfl) (avEq_bool _), again_of (congrArg (fun b => OV.ok (AV.bool b)) rc4) (avEq_bool _), again_of (q_toStr (BIn.now S15 (i := 1) rfl fb_2)) (avEq_str _), again_of (rfl) (BIn.same fb_2), again_of (own_ofRunes S15 (i := 0) rfl (decs_okC _ _)) (avEq_str _), again_of (q_toStr (BIn.now S15 (i := 1) rfl fb_2)) (avEq_str _), again_of (rfl) (BIn.same fb_2), trivial⟩, ?_⟩
    obtain rfl := Option.some.inj hp
    exact rfl
  have rc16 := c16
  replace c16 := eqB_f c16
  replace hp := iff0 hp (c16)
  refine ⟨⟨again_of (congrArg (fun b => OV.ok (AV.bool b)) rc16) (avEq_bool _), again_of (rfl) (avEq_bool _), again_of (congrArg (fun b => OV.ok (AV.bool b)) rc4) (avEq_bool _), again_of (q_toStr (BIn.now S15 (i := 1) rfl fb_2)) (avEq_str _), again_of (rfl) (BIn.same fb_2), again_of (own_ofRunes S15 (i := 0) rfl (decs_okC _ _)) (avEq_str _), again_of (q_toStr (BIn.now S15 (i := 1) rfl fb_2)) (avEq_str _), again_of (rfl) (BIn.same fb_2), trivial⟩, ?_⟩
  obtain rfl := Option.some.inj hp
  exact rfl
end Go.Proofs.Ytejiebbbodealaa
end
section
set_option linter.unusedVariables false
set_option linter.unusedSimpArgs false
namespace Go.Proofs.Ytejiebbbodealaa
open Go Eng
theorem and192 : ∀ x < 256, (x &&& 192 = 128 ↔ x / 64 = 2) := by decide +kernel
theorem vs_eq (a y : Nat) : vs a y = a * 64 + y % 64 := by
  unfold vs
  rw [show (63 : Nat) = 2 ^ 6 - 1 from rfl, Nat.and_two_pow_sub_one_eq_mod, show a * 64 = 2 ^ 6 * a by omega, ← Nat.two_pow_add_eq_or_of_lt (Nat.mod_lt _ (by decide))]
theorem and31 (x : Nat) : x &&& 31 = x % 32 := by rw [show (31 : Nat) = 2 ^ 5 - 1 from rfl, Nat.and_two_pow_sub_one_eq_mod]
theorem and15 (x : Nat) : x &&& 15 = x % 16 := by rw [show (15 : Nat) = 2 ^ 4 - 1 from rfl, Nat.and_two_pow_sub_one_eq_mod]
theorem and7 (x : Nat) : x &&& 7 = x % 8 := by rw [show (7 : Nat) = 2 ^ 3 - 1 from rfl, Nat.and_two_pow_sub_one_eq_mod]
theorem gd_lt {l : List Nat} (hl : ∀ x ∈ l, x < 256) (i : Nat) : l.getD i 0 < 256 := by
  rw [List.getD_eq_getElem?_getD]
  cases h : l[i]? with
  | none => decide
  | some x => exact hl x (List.mem_of_getElem? h)
theorem tails1 {l : List Nat} (hl : ∀ x ∈ l, x < 256) (i a : Nat) : tails 1 l i a = if l.getD i 0 / 64 = 2 then some (a * 64 + l.getD i 0 % 64) else none := by
  have := and192 _ (gd_lt hl i)
  show (if l.getD i 0 &&& 192 ≠ 128 then none else some (vs a (l.getD i 0))) = _
  rw [vs_eq]
  by_cases h : l.getD i 0 / 64 = 2
  · rw [if_neg (fun h2 => h2 (this.2 h)), if_pos h]
  · rw [if_pos (fun h2 => h (this.1 h2)), if_neg h]
theorem tails_s {l : List Nat} (hl : ∀ x ∈ l, x < 256) (n i a : Nat) : tails (n + 1) l i a = if l.getD i 0 / 64 = 2 then tails n l (i + 1) (a * 64 + l.getD i 0 % 64) else none := by
  have := and192 _ (gd_lt hl i)
  show (if l.getD i 0 &&& 192 ≠ 128 then none else tails n l (i + 1) (vs a (l.getD i 0))) = _
  rw [vs_eq]
  by_cases h : l.getD i 0 / 64 = 2
  · rw [if_neg (fun h2 => h2 (this.2 h)), if_pos h]
  · rw [if_pos (fun h2 => h (this.1 h2)), if_neg h]
theorem take1 {l : List Nat} (h : 0 < l.length) : l.take 1 = [l.getD 0 0] := by
  match l, h with
  | a :: l, _ => rfl
theorem take2 {l : List Nat} (h : 1 < l.length) : l.take 2 = [l.getD 0 0, l.getD 1 0] := by
  match l, h with
  | a :: b :: l, _ => rfl
theorem take3 {l : List Nat} (h : 2 < l.length) : l.take 3 = [l.getD 0 0, l.getD 1 0, l.getD 2 0] := by
  match l, h with
  | a :: b :: c :: l, _ => rfl
theorem take4 {l : List Nat} (h : 3 < l.length) : l.take 4 = [l.getD 0 0, l.getD 1 0, l.getD 2 0, l.getD 3 0] := by
  match l, h with
  | a :: b :: c :: d :: l, _ => rfl
def Fits (l : List Nat) : Prop := okC (decL l).1 ∧ ((sz l = 0 ∧ decL l = (65533, 1)) ∨ (0 < sz l ∧ (decL l).2 = sz l ∧ encL (decL l).1 = l.take (sz l)))
theorem fits {l : List Nat} (h0 : 0 < l.length) (hl : ∀ x ∈ l, x < 256) : Fits l := by
  have x0 := gd_lt hl 0
  have x1 := gd_lt hl 1
  have x2 := gd_lt hl 2
  have x3 := gd_lt hl 3
  have t1 := take1 (l := l)
  have t2 := take2 (l := l)
  have t3 := take3 (l := l)
  have t4 := take4 (l := l)
  unfold Fits sz decL
  rw [tails1 hl, tails_s hl 1, tails1 hl, tails_s hl 2, tails_s hl 1, tails1 hl, and31, and15, and7]
  generalize l.getD 0 0 = a at *
  generalize l.getD 1 0 = b at *
  generalize l.getD 2 0 = c at *
  generalize l.getD 3 0 = d at *
  have bad : okC 65533 := by unfold okC; omega
  have B : ∀ {s : Nat}, s = 0 → okC ((65533, 1) : Nat × Nat).1 ∧ ((s = 0 ∧ ((65533, 1) : Nat × Nat) = (65533, 1)) ∨ (0 < s ∧ ((65533, 1) : Nat × Nat).2 = s ∧ encL ((65533, 1) : Nat × Nat).1 = l.take s)) := fun hs => ⟨bad, .inl ⟨hs, rfl⟩⟩
  by_cases h1 : a < 128
  · rw [if_pos h1, if_pos h1]
    refine ⟨by unfold okC; dsimp only; omega, .inr ⟨by decide, rfl, ?_⟩⟩
    rw [t1 h0]; unfold encL; rw [if_pos h1]
  rw [if_neg h1, if_neg h1]
  by_cases h2 : a < 192
  · rw [if_pos h2, if_neg (by omega), if_neg (by omega), if_neg (by omega)]; exact B rfl
  rw [if_neg h2]
  by_cases h3 : a < 224
  · rw [if_pos h3]
    by_cases hn : l.length < 2
    · rw [if_pos hn, if_neg (by omega), if_neg (by omega), if_neg (by omega)]; exact B rfl
    rw [if_neg hn]
    by_cases hb : b / 64 = 2
    · rw [if_pos hb, if_pos ⟨by omega, by omega, hb⟩]
      dsimp only
      by_cases hv : a % 32 * 64 + b % 64 < 128
      · rw [if_pos hv, if_neg (by omega)]; exact B rfl
      · rw [if_neg hv, if_pos (by omega)]
        refine ⟨by unfold okC; dsimp only; omega, .inr ⟨by decide, rfl, ?_⟩⟩
        rw [t2 (by omega)]; unfold encL; rw [if_neg (by dsimp only; omega), if_pos (by dsimp only; omega)]
        dsimp only
        congr 1
        · omega
        · congr 1; omega
    · rw [if_neg hb, if_neg (by omega), if_neg (by omega), if_neg (by omega)]; exact B rfl
  rw [if_neg h3]
  by_cases h4 : a < 240
  · rw [if_pos h4, if_neg (show ¬ (a / 32 = 6 ∧ _) by omega)]
    by_cases hn : l.length < 3
    · rw [if_pos hn, if_neg (by omega), if_neg (by omega)]; exact B rfl
    rw [if_neg hn]
    by_cases hb : b / 64 = 2
    · rw [if_pos hb]
      by_cases hc : c / 64 = 2
      · rw [if_pos hc, if_pos ⟨by omega, ⟨by omega, hb⟩, by omega, hc⟩]
        dsimp only
        have e : (a % 16 * 64 + b % 64) * 64 + c % 64 = a % 16 * 4096 + b % 64 * 64 + c % 64 := by omega
        rw [e]
        by_cases hv : a % 16 * 4096 + b % 64 * 64 + c % 64 < 2048
        · rw [if_pos hv, if_neg (by omega)]; exact B rfl
        rw [if_neg hv]
        by_cases hw : 55296 ≤ a % 16 * 4096 + b % 64 * 64 + c % 64 ∧ a % 16 * 4096 + b % 64 * 64 + c % 64 ≤ 57343
        · rw [if_pos hw, if_neg (by omega)]; exact B rfl
        rw [if_neg hw, if_pos (by omega)]
        refine ⟨by unfold okC; dsimp only; omega, .inr ⟨by decide, rfl, ?_⟩⟩
        rw [t3 (by omega)]; unfold encL; rw [if_neg (by dsimp only; omega), if_neg (by dsimp only; omega), if_pos (by dsimp only; omega)]
        dsimp only
        congr 1
        · omega
        · congr 1
          · omega
          · congr 1; omega
      · rw [if_neg hc, if_neg (by omega), if_neg (by omega)]; exact B rfl
    · rw [if_neg hb, if_neg (by omega), if_neg (by omega)]; exact B rfl
  rw [if_neg h4]
  by_cases h5 : a < 248
  · rw [if_pos h5, if_neg (show ¬ (a / 32 = 6 ∧ _) by omega), if_neg (show ¬ (a / 16 = 14 ∧ _) by omega)]
    by_cases hn : l.length < 4
    · rw [if_pos hn, if_neg (by omega)]; exact B rfl
    rw [if_neg hn]
    by_cases hb : b / 64 = 2
    · rw [if_pos hb]
      by_cases hc : c / 64 = 2
      · rw [if_pos hc]
        by_cases hd : d / 64 = 2
        · rw [if_pos hd, if_pos ⟨by omega, ⟨by omega, hb⟩, ⟨by omega, hc⟩, by omega, hd⟩]
          dsimp only
          have e : ((a % 8 * 64 + b % 64) * 64 + c % 64) * 64 + d % 64 = a % 8 * 262144 + b % 64 * 4096 + c % 64 * 64 + d % 64 := by omega
          rw [e]
          by_cases hv : a % 8 * 262144 + b % 64 * 4096 + c % 64 * 64 + d % 64 < 65536
          · rw [if_pos hv, if_neg (by omega)]; exact B rfl
          rw [if_neg hv]
          by_cases hw : 1114111 < a % 8 * 262144 + b % 64 * 4096 + c % 64 * 64 + d % 64
          · rw [if_pos hw, if_neg (by omega)]; exact B rfl
          rw [if_neg hw, if_pos (by omega)]
          refine ⟨by unfold okC; dsimp only; omega, .inr ⟨by decide, rfl, ?_⟩⟩
          rw [t4 (by omega)]; unfold encL; rw [if_neg (by dsimp only; omega), if_neg (by dsimp only; omega), if_neg (by dsimp only; omega)]
          dsimp only
          congr 1
          · omega
          · congr 1
            · omega
            · congr 1
              · omega
              · congr 1; omega
        · rw [if_neg hd, if_neg (by omega)]; exact B rfl
      · rw [if_neg hc, if_neg (by omega)]; exact B rfl
    · rw [if_neg hb, if_neg (by omega)]; exact B rfl
  rw [if_neg h5, if_neg (by omega), if_neg (by omega), if_neg (by omega)]; exact B rfl
noncomputable def val : Nat → List Nat → Bool
  | 0, _ => true
  | m + 1, l => if 0 < l.length then (if sz l = 0 then false else val m (l.drop (sz l))) else true
theorem sz_bad (r : List Nat) : sz (239 :: 191 :: 189 :: r) = 3 := by
  unfold sz
  rw [if_neg (by show ¬ (239 < 128); decide), if_neg (by show ¬ (239 < 192); decide), if_neg (by show ¬ (239 < 224); decide), if_pos (by show 239 < 240; decide), if_neg (by simp), show tails 2 (239 :: 191 :: 189 :: r) 1 ((239 :: 191 :: 189 :: r).getD 0 0 &&& 15) = some 65533 from by simp [tails, vs]]
  rfl
theorem val_iff : ∀ (m : Nat) (l : List Nat), (∀ x ∈ l, x < 256) → l.length ≤ m → ((decs m l).flatMap encL = l ↔ val m l = true)
  | 0, l, hl, h => by
    obtain rfl := List.eq_nil_of_length_eq_zero (Nat.le_zero.1 h)
    exact ⟨fun _ => rfl, fun _ => rfl⟩
  | m + 1, l, hl, h => by
    by_cases h0 : 0 < l.length
    · rw [decs, val, if_pos h0, if_pos h0, List.flatMap_cons]
      obtain ⟨_, ⟨h1, h2⟩ | ⟨h1, h2, h3⟩⟩ := fits h0 hl
      · rw [if_pos h1, h2]
        refine ⟨fun e => ?_, fun e => by cases e⟩
        have e : 239 :: 191 :: 189 :: (decs m (l.drop 1)).flatMap encL = l := e
        rw [← e, sz_bad] at h1
        cases h1
      · rw [if_neg (by omega), h2, h3]
        have ih := val_iff m (l.drop (sz l)) (fun x hx => hl x (List.mem_of_mem_drop hx)) (by rw [List.length_drop]; omega)
        rw [← ih]
        constructor
        · intro e
          have e2 : l.take (sz l) ++ (decs m (l.drop (sz l))).flatMap encL = l.take (sz l) ++ l.drop (sz l) := by rw [List.take_append_drop]; exact e
          exact List.append_cancel_left e2
        · intro e
          rw [e, List.take_append_drop]
    · obtain rfl : l = [] := List.eq_nil_of_length_eq_zero (by omega)
      rw [decs, val, if_neg h0, if_neg h0]
      exact ⟨fun _ => rfl, fun _ => rfl⟩
theorem val_walk : ∀ (m : Nat) (l : List Nat) (b : Bool), (∀ x ∈ l, x < 256) → l.length < m → ∀ k, l.length ≤ k → ∃ o, utf8_l1 m l b = some o ∧ (match o with | .ex _ => true | .rt y => y) = val k l
  | 0, l, b, _, h, _, _ => absurd h (Nat.not_lt_zero _)
  | m + 1, l, b, hl, h, k, hk => by
    by_cases h0 : 0 < l.length
    · obtain ⟨k, rfl⟩ : ∃ j, k = j + 1 := ⟨k - 1, by omega⟩
      rw [ustep h0 (getD_lt hl 0), val, if_pos h0]
      by_cases hs : sz l = 0
      · rw [if_pos hs, if_pos hs]; exact ⟨_, rfl, rfl⟩
      · rw [if_neg hs, if_neg hs]
        exact val_walk m _ b (fun x hx => hl x (List.mem_of_mem_drop hx)) (by rw [List.length_drop]; omega) k (by rw [List.length_drop]; omega)
    · obtain rfl : l = [] := List.eq_nil_of_length_eq_zero (by omega)
      rw [utf8_l1, if_neg h0]
      refine ⟨_, rfl, ?_⟩
      cases k <;> rfl
theorem go_t (b : List Nat) (hb : ∀ x ∈ b, x < 256) : lawgo_p b = some true := by
  unfold lawgo_p
  by_cases h60 : 60 < b.length
  · rw [if_pos h60]
  rw [if_neg h60, gd_t (by omega)]
  obtain ⟨o, ho, hv⟩ := val_walk 90000 b false hb (by omega) b.length (Nat.le_refl _)
  have hu : utf8_p b = some (val b.length b) := by
    unfold utf8_p
    rw [ob_of ho, ← hv]
    cases o <;> rfl
  have hi := val_iff b.length b hb (Nat.le_refl _)
  rw [hu, ob_some, ob_some]
  by_cases h : (decs b.length b).flatMap encL = b
  · rw [if_pos h, hi.1 h]; rfl
  · have : val b.length b = false := by
      cases hv : val b.length b with
      | true => exact absurd (hi.2 hv) h
      | false => rfl
    rw [if_neg h, this]; rfl
end Go.Proofs.Ytejiebbbodealaa
end
