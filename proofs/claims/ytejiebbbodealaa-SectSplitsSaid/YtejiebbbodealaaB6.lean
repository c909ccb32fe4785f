import Derived.Test.YtejiebbbodealaaB5
section
set_option linter.unusedVariables false
namespace Go.Proofs.Ytejiebbbodealaa
set_option linter.unusedVariables false
set_option linter.unusedSimpArgs false
open Go Eng
def rank_p (x : Nat) : Option (Nat) :=
  (if x = 12 then (some 95) else
    (gd (x * 10 < 9223372036854775808) (some (x * 10))))
theorem rank_w {call : CallT} {N : Nat} {h : Hp} {x : Nat} (fx_1 : x < 256)  {r : Nat} (hp : rank_p x = some r) :
    ∃ rv rh, evF1 (progS Try.prog (compDrawn Try.prog)) N call 62 [(AV.int .u8 (Int.ofNat x))] h = .ok rv rh ∧ (fun (rv : AV) (rh : Hp) => rv = (AV.int .i64 (Int.ofNat r)) ∧ Eng.Sep (Frz (Low h) h :: []) rh) rv rh := by
  have S : Eng.Sep [Frz (Low h) h] h := Sep.start h
  unfold rank_p at hp
  refine fwalk_ok (K := (fun (rv : AV) (rh : Hp) => rv = (AV.int .i64 (Int.ofNat r)) ∧ Eng.Sep (Frz (Low h) h :: []) rh)) (o := (.fork 3 .fin (.tell 1 (AV.int .i64 (Int.ofNat x)) (.tell 0 (AV.int .i64 (Int.ofNat (x * 10))) .fin)))) (p := (fun (KK : AV → Hp → Prop) => ((eqI (Int.ofNat x) (Int.ofNat 12) = true → KK (AV.int .i64 (Int.ofNat 95)) h) ∧ (eqI (Int.ofNat x) (Int.ofNat 12) = false → ((evQ (.toInt .i64 (.const (AV.int .u8 (Int.ofNat x)))) .lf H0 = .ok (AV.int .i64 (Int.ofNat x)) ∧ ((evQ (.bin .mul (.const (AV.int .i64 (Int.ofNat x))) (.const (AV.int .i64 (Int.ofNat 10)))) .lf H0 = .ok (AV.int .i64 (Int.ofNat (x * 10))) ∧ KK (AV.int .i64 (Int.ofNat (x * 10))) h))))))) (fun (rv : AV) (rh : Hp) => rv = (AV.int .i64 (Int.ofNat r)) ∧ Eng.Sep (Frz (Low h) h :: []) rh)) (by kernel_rfl) ?_
  refine ⟨fun c1 => ?_, fun c1 => ?_⟩
  · replace c1 := eqI_t c1
    replace hp := ift hp c1
    obtain rfl := Option.some.inj hp
    exact ⟨rfl, S⟩
  replace c1 := eqI_f c1
  replace hp := iff0 hp (c1)
  refine ⟨i_conv (Nat.lt_of_lt_of_le fx_1 (by decide)), ?_⟩
  have ⟨g2, hp⟩ := gd_inv hp
  refine ⟨q_mul g2, ?_⟩
  obtain rfl := Option.some.inj hp
  exact ⟨rfl, S⟩
def C_rank (call : CallT) : Prop := ∀ {h : Hp} {x : Nat} (fx_1 : x < 256) {r : Nat}, rank_p x = some r → ∃ rv rh, call 62 [(AV.int .u8 (Int.ofNat x))] h = .ok rv rh ∧ rv = (AV.int .i64 (Int.ofNat r)) ∧ Eng.Sep (Frz (Low h) h :: []) rh
theorem s_rank (d : Nat) : C_rank (CC (d + 1)) := by
  intro h x fx_1 r hp
  rw [CC, evF_at (sumT_none rfl)]
  exact rank_w (call := CC (d + 0)) (N := 100000) fx_1  hp
def rutf8_l2 (B0 : List Nat) (B3 : Nat) : Nat → Bool → Nat → Nat → Option (LO (Bool × Nat × Nat) (Bool))
  | 0, _, _, _ => none
  | m + 1, A2, A5, A6 =>
    (if A6 < B3 then (gd (A6 < B0.length) (if (B0.getD A6 0) &&& 192 ≠ 128 then (some (LO.rt false)) else
    (gd (A6 + 1 < 9223372036854775808) (rutf8_l2 B0 B3 m A2 ((A5 * 2 ^ 6 % 4294967296) ||| ((B0.getD A6 0) &&& 63)) (A6 + 1))))) else
    (some (LO.ex (A2, A5, A6))))
noncomputable def rutf8_l2C : AC := (.seq (.seq (.region [⟨(some 56), .q (.move (.tmp 6)), none⟩, ⟨(some 57), .q (.move (.tmp 3)), none⟩, ⟨(some 58), .q (.bin .lss (.tmp 56) (.tmp 57)), none⟩]) (.cond (.tmp 58) .skip (.exit 3))) (.seq (.block 4 (.seq (.seq (.region [⟨(some 61), .q (.move (.tmp 0)), none⟩, ⟨(some 62), .q (.move (.tmp 6)), none⟩, ⟨(some 63), .q (.idxAddrSl 1 (.tmp 61) (.tmp 62)), none⟩, ⟨(some 64), .q (.loadS (.tmp 63)), none⟩, ⟨(some 65), .q (.bin .and (.tmp 64) (.const (AV.int .u8 (Int.ofNat 192)))), none⟩, ⟨(some 66), .q (.eq .int true (.tmp 65) (.const (AV.int .u8 (Int.ofNat 128)))), none⟩]) (.cond (.tmp 66) (.seq (.region [⟨(some 2), .q (.move (.const (AV.bool false))), none⟩]) .ret) .skip)) (.region [⟨(some 67), .q (.move (.tmp 5)), none⟩, ⟨(some 68), .q (.bin .shl (.tmp 67) (.const (AV.int .u64 (Int.ofNat 6)))), none⟩, ⟨(some 69), .q (.move (.tmp 0)), none⟩, ⟨(some 70), .q (.move (.tmp 6)), none⟩, ⟨(some 71), .q (.idxAddrSl 1 (.tmp 69) (.tmp 70)), none⟩, ⟨(some 72), .q (.loadS (.tmp 71)), none⟩, ⟨(some 73), .q (.bin .and (.tmp 72) (.const (AV.int .u8 (Int.ofNat 63)))), none⟩, ⟨(some 74), .q (.toInt .u32 (.tmp 73)), none⟩, ⟨(some 75), .q (.bin .or (.tmp 68) (.tmp 74)), none⟩, ⟨(some 5), .q (.move (.tmp 75)), none⟩]))) (.region [⟨(some 59), .q (.move (.tmp 6)), none⟩, ⟨(some 60), .q (.bin .add (.tmp 59) (.const (AV.int .i64 (Int.ofNat 1)))), none⟩, ⟨(some 6), .q (.move (.tmp 60)), none⟩])))
theorem rutf8_l2_body {call : CallT} {N : Nat} {t : T} {h : Hp} {wB0_1 : AV} {G : Nat → Prop} {h0 : Hp} {B0 : List Nat} {B3 : Nat} (fB0_2 : BIn G h0 wB0_1 B0)  {o : LO (Bool × Nat × Nat) (Bool)} {n : Nat} {A2 : Bool} {A5 : Nat} {A6 : Nat} (hN : 90000 < N) (hi : (fun (z : Nat × Bool × Nat × Nat) (h' : Hp) => rutf8_l2 B0 B3 z.1 z.2.1 z.2.2.1 z.2.2.2 = some o ∧ (z.2.2.1 < 4294967296) ∧ Eng.Sep [Frz G h0] h') (n, A2, A5, A6) h)
    : ∃ s, evC call N rutf8_l2C (ovT [(0, wB0_1), (2, (AV.bool A2)), (3, (AV.int .i64 (Int.ofNat B3))), (5, (AV.int .u32 (Int.ofNat A5))), (6, (AV.int .i64 (Int.ofNat A6)))] t) h = s ∧ obsS [0, 2, 3, 5, 6] (fun ls h' => ∃ y, ls = ((fun (z : Nat × Bool × Nat × Nat) => [(0, wB0_1), (2, (AV.bool z.2.1)), (3, (AV.int .i64 (Int.ofNat B3))), (5, (AV.int .u32 (Int.ofNat z.2.2.1))), (6, (AV.int .i64 (Int.ofNat z.2.2.2)))]) y).map (fun p => some p.2) ∧ (fun (z : Nat × Bool × Nat × Nat) (h' : Hp) => rutf8_l2 B0 B3 z.1 z.2.1 z.2.2.1 z.2.2.2 = some o ∧ (z.2.2.1 < 4294967296) ∧ Eng.Sep [Frz G h0] h') y h' ∧ (fun (z : Nat × Bool × Nat × Nat) => z.1) y < (fun (z : Nat × Bool × Nat × Nat) => z.1) (n, A2, A5, A6)) (fun i ls h' => ∃ y, ls = ((fun (z : Nat × Bool × Nat × Nat) => [(0, wB0_1), (2, (AV.bool z.2.1)), (3, (AV.int .i64 (Int.ofNat B3))), (5, (AV.int .u32 (Int.ofNat z.2.2.1))), (6, (AV.int .i64 (Int.ofNat z.2.2.2)))]) y).map (fun p => some p.2) ∧ (fun (i : Nat) (z : Nat × Bool × Nat × Nat) (h' : Hp) => (i = 3) ∧ (i = 3 → o = LO.ex (z.2.1, z.2.2.1, z.2.2.2) ∧ (z.2.2.1 < 4294967296) ∧ Eng.Sep [Frz G h0] h')) i y h') (fun ls h' => (fun (ls : List (Option AV)) (h' : Hp) => ∃ (rt : Bool) (v2 : AV), o = LO.rt rt ∧ ls[1]? = some (some v2) ∧ (v2 = (AV.bool rt) ∧ Eng.Sep (Frz G h0 :: []) h')) ls h') s := by
  have hi : rutf8_l2 B0 B3 n A2 A5 A6 = some o ∧ (A5 < 4294967296) ∧ Eng.Sep [Frz G h0] h := hi
  obtain ⟨hp, fA5_1, S⟩ := hi
  obtain ⟨m, hm⟩ : ∃ m, n = m + 1 := by
    cases n with
    | zero => cases hp
    | succ m => exact ⟨m, rfl⟩
  rw [hm] at hp
  unfold rutf8_l2 at hp
  refine walk_ok (o := (.fork 2 (.tell 2 (elemP wB0_1 A6 1) (.tell 0 (AV.int .u8 (Int.ofNat (B0.getD A6 0))) (.tell 0 (AV.int .u8 (Int.ofNat ((B0.getD A6 0) &&& 192))) (.fork 0 .fin (.tell 1 (AV.int .u32 (Int.ofNat (A5 * 2 ^ 6 % 4294967296))) (.tell 2 (elemP wB0_1 A6 1) (.tell 0 (AV.int .u8 (Int.ofNat (B0.getD A6 0))) (.tell 0 (AV.int .u8 (Int.ofNat ((B0.getD A6 0) &&& 63))) (.tell 0 (AV.int .u32 (Int.ofNat ((B0.getD A6 0) &&& 63))) (.tell 0 (AV.int .u32 (Int.ofNat ((A5 * 2 ^ 6 % 4294967296) ||| ((B0.getD A6 0) &&& 63)))) (.tell 2 (AV.int .i64 (Int.ofNat (A6 + 1))) .fin))))))))))) .fin)) (p := (fun (KN : List (Option AV) → Hp → Prop) (KE : Nat → List (Option AV) → Hp → Prop) (KR : List (Option AV) → Hp → Prop) => ((ltI (Int.ofNat A6) (Int.ofNat B3) = true → ((evQ (.idxAddrSl 1 (.const wB0_1) (.const (AV.int .i64 (Int.ofNat A6)))) .lf H0 = .ok (elemP wB0_1 A6 1) ∧ ((evQ (.loadS (.const (elemP wB0_1 A6 1))) .lf h = .ok (AV.int .u8 (Int.ofNat (B0.getD A6 0))) ∧ ((evQ (.bin .and (.const (AV.int .u8 (Int.ofNat (B0.getD A6 0)))) (.const (AV.int .u8 (Int.ofNat 192)))) .lf H0 = .ok (AV.int .u8 (Int.ofNat ((B0.getD A6 0) &&& 192))) ∧ ((notB (eqI (Int.ofNat ((B0.getD A6 0) &&& 192)) (Int.ofNat 128)) = true → KR [some wB0_1, some (AV.bool false), some (AV.int .i64 (Int.ofNat B3)), some (AV.int .u32 (Int.ofNat A5)), some (AV.int .i64 (Int.ofNat A6))] h) ∧ (notB (eqI (Int.ofNat ((B0.getD A6 0) &&& 192)) (Int.ofNat 128)) = false → ((evQ (.bin .shl (.const (AV.int .u32 (Int.ofNat A5))) (.const (AV.int .u64 (Int.ofNat 6)))) .lf H0 = .ok (AV.int .u32 (Int.ofNat (A5 * 2 ^ 6 % 4294967296))) ∧ ((evQ (.idxAddrSl 1 (.const wB0_1) (.const (AV.int .i64 (Int.ofNat A6)))) .lf H0 = .ok (elemP wB0_1 A6 1) ∧ ((evQ (.loadS (.const (elemP wB0_1 A6 1))) .lf h = .ok (AV.int .u8 (Int.ofNat (B0.getD A6 0))) ∧ ((evQ (.bin .and (.const (AV.int .u8 (Int.ofNat (B0.getD A6 0)))) (.const (AV.int .u8 (Int.ofNat 63)))) .lf H0 = .ok (AV.int .u8 (Int.ofNat ((B0.getD A6 0) &&& 63))) ∧ ((evQ (.toInt .u32 (.const (AV.int .u8 (Int.ofNat ((B0.getD A6 0) &&& 63))))) .lf H0 = .ok (AV.int .u32 (Int.ofNat ((B0.getD A6 0) &&& 63))) ∧ ((evQ (.bin .or (.const (AV.int .u32 (Int.ofNat (A5 * 2 ^ 6 % 4294967296)))) (.const (AV.int .u32 (Int.ofNat ((B0.getD A6 0) &&& 63))))) .lf H0 = .ok (AV.int .u32 (Int.ofNat ((A5 * 2 ^ 6 % 4294967296) ||| ((B0.getD A6 0) &&& 63)))) ∧ ((evQ (.bin .add (.const (AV.int .i64 (Int.ofNat A6))) (.const (AV.int .i64 (Int.ofNat 1)))) .lf H0 = .ok (AV.int .i64 (Int.ofNat (A6 + 1))) ∧ KN [some wB0_1, some (AV.bool A2), some (AV.int .i64 (Int.ofNat B3)), some (AV.int .u32 (Int.ofNat ((A5 * 2 ^ 6 % 4294967296) ||| ((B0.getD A6 0) &&& 63)))), some (AV.int .i64 (Int.ofNat (A6 + 1)))] h))))))))))))))))))))))) ∧ (ltI (Int.ofNat A6) (Int.ofNat B3) = false → KE 3 [some wB0_1, some (AV.bool A2), some (AV.int .i64 (Int.ofNat B3)), some (AV.int .u32 (Int.ofNat A5)), some (AV.int .i64 (Int.ofNat A6))] h))) (fun ls h' => ∃ y, ls = ((fun (z : Nat × Bool × Nat × Nat) => [(0, wB0_1), (2, (AV.bool z.2.1)), (3, (AV.int .i64 (Int.ofNat B3))), (5, (AV.int .u32 (Int.ofNat z.2.2.1))), (6, (AV.int .i64 (Int.ofNat z.2.2.2)))]) y).map (fun p => some p.2) ∧ (fun (z : Nat × Bool × Nat × Nat) (h' : Hp) => rutf8_l2 B0 B3 z.1 z.2.1 z.2.2.1 z.2.2.2 = some o ∧ (z.2.2.1 < 4294967296) ∧ Eng.Sep [Frz G h0] h') y h' ∧ (fun (z : Nat × Bool × Nat × Nat) => z.1) y < (fun (z : Nat × Bool × Nat × Nat) => z.1) (n, A2, A5, A6)) (fun i ls h' => ∃ y, ls = ((fun (z : Nat × Bool × Nat × Nat) => [(0, wB0_1), (2, (AV.bool z.2.1)), (3, (AV.int .i64 (Int.ofNat B3))), (5, (AV.int .u32 (Int.ofNat z.2.2.1))), (6, (AV.int .i64 (Int.ofNat z.2.2.2)))]) y).map (fun p => some p.2) ∧ (fun (i : Nat) (z : Nat × Bool × Nat × Nat) (h' : Hp) => (i = 3) ∧ (i = 3 → o = LO.ex (z.2.1, z.2.2.1, z.2.2.2) ∧ (z.2.2.1 < 4294967296) ∧ Eng.Sep [Frz G h0] h')) i y h') (fun ls h' => (fun (ls : List (Option AV)) (h' : Hp) => ∃ (rt : Bool) (v2 : AV), o = LO.rt rt ∧ ls[1]? = some (some v2) ∧ (v2 = (AV.bool rt) ∧ Eng.Sep (Frz G h0 :: []) h')) ls h')) (by kernel_rfl) ?_
  refine ⟨fun c1 => ?_, fun c1 => ?_⟩
  · replace c1 := ltI_t c1
    replace hp := ift hp c1
    have ⟨g2, hp⟩ := gd_inv hp
    refine ⟨q_idxB (l := B0) (BIn.now S (i := 0) rfl fB0_2) g2, ?_⟩
    refine ⟨q_byte (l := B0) (BIn.now S (i := 0) rfl fB0_2) g2, ?_⟩
    have x3 : B0.getD A6 0 < 256 := getD_lt (BIn.now S (i := 0) rfl fB0_2).lt A6
    refine ⟨u_and rfl x3 (show 192 < 256 by decide), ?_⟩
    refine ⟨fun c5 => ?_, fun c5 => ?_⟩
    · replace c5 := eqI_f (notB_t c5)
      replace hp := ift hp c5
      refine ⟨_, (AV.bool false), (Option.some.inj hp).symm, rfl, ?_⟩
      exact ⟨rfl, S⟩
    replace c5 := eqI_t (notB_f c5)
    replace hp := iff0 hp (nneO c5)
    refine ⟨u_shl rfl, ?_⟩
    have g6 : A5 * 2 ^ 6 % 4294967296 < 4294967296 := Nat.mod_lt _ (by decide)
    refine ⟨q_idxB (l := B0) (BIn.now S (i := 0) rfl fB0_2) g2, ?_⟩
    refine ⟨q_byte (l := B0) (BIn.now S (i := 0) rfl fB0_2) g2, ?_⟩
    have x7 : B0.getD A6 0 < 256 := getD_lt (BIn.now S (i := 0) rfl fB0_2).lt A6
    refine ⟨u_and rfl x7 (show 63 < 256 by decide), ?_⟩
    have g8 : (B0.getD A6 0) &&& 63 < 256 := Nat.lt_of_le_of_lt Nat.and_le_left x7
    refine ⟨u_conv' rfl (Nat.lt_of_lt_of_le g8 (by decide)), ?_⟩
    have g9 : (B0.getD A6 0) &&& 63 < 4294967296 := Nat.lt_of_lt_of_le g8 (by decide)
    refine ⟨u_or rfl g6 g9, ?_⟩
    have g10 : (A5 * 2 ^ 6 % 4294967296) ||| ((B0.getD A6 0) &&& 63) < 4294967296 := Nat.or_lt_two_pow (n := 32) g6 g9
    have ⟨g11, hp⟩ := gd_inv hp
    refine ⟨q_add g11, ?_⟩
    refine ⟨(m, A2, (A5 * 2 ^ 6 % 4294967296) ||| ((B0.getD A6 0) &&& 63), A6 + 1), rfl, ⟨hp, g10, S⟩, by show m < n; omega⟩
  replace c1 := ltI_f c1
  replace hp := iff0 hp (nltO c1)
  refine ⟨(m, A2, A5, A6), rfl, rfl, fun _ => ⟨(Option.some.inj hp).symm, fA5_1, S⟩⟩
theorem rutf8_l2_t {call : CallT} {N : Nat} {wB0_1 : AV} {G : Nat → Prop} {h0 : Hp} {B0 : List Nat} {B3 : Nat} (fB0_2 : BIn G h0 wB0_1 B0)  {o : LO (Bool × Nat × Nat) (Bool)} {n : Nat} {A2 : Bool} {A5 : Nat} {A6 : Nat} {h : Hp} (hi : (fun (z : Nat × Bool × Nat × Nat) (h' : Hp) => rutf8_l2 B0 B3 z.1 z.2.1 z.2.2.1 z.2.2.2 = some o ∧ (z.2.2.1 < 4294967296) ∧ Eng.Sep [Frz G h0] h') (n, A2, A5, A6) h) (hN : n < N) (hN' : 90000 < N) {t : T} (ht : Has ((fun (z : Nat × Bool × Nat × Nat) => [(0, wB0_1), (2, (AV.bool z.2.1)), (3, (AV.int .i64 (Int.ofNat B3))), (5, (AV.int .u32 (Int.ofNat z.2.2.1))), (6, (AV.int .i64 (Int.ofNat z.2.2.2)))]) (n, A2, A5, A6)) t) :
    (∃ i y t' h', evC call N (.loop rutf8_l2C) t h = .exit i t' h' ∧ Has ((fun (z : Nat × Bool × Nat × Nat) => [(0, wB0_1), (2, (AV.bool z.2.1)), (3, (AV.int .i64 (Int.ofNat B3))), (5, (AV.int .u32 (Int.ofNat z.2.2.1))), (6, (AV.int .i64 (Int.ofNat z.2.2.2)))]) y) t' ∧ (fun (i : Nat) (z : Nat × Bool × Nat × Nat) (h' : Hp) => (i = 3) ∧ (i = 3 → o = LO.ex (z.2.1, z.2.2.1, z.2.2.2) ∧ (z.2.2.1 < 4294967296) ∧ Eng.Sep [Frz G h0] h')) i y h') ∨ (∃ t' h', evC call N (.loop rutf8_l2C) t h = .ret t' h' ∧ (fun (ls : List (Option AV)) (h' : Hp) => ∃ (rt : Bool) (v2 : AV), o = LO.rt rt ∧ ls[1]? = some (some v2) ∧ (v2 = (AV.bool rt) ∧ Eng.Sep (Frz G h0 :: []) h')) (slots [0, 2, 3, 5, 6] t') h') :=
  loop_st (fun (z : Nat × Bool × Nat × Nat) => [(0, wB0_1), (2, (AV.bool z.2.1)), (3, (AV.int .i64 (Int.ofNat B3))), (5, (AV.int .u32 (Int.ofNat z.2.2.1))), (6, (AV.int .i64 (Int.ofNat z.2.2.2)))]) [0, 2, 3, 5, 6] (fun _ => rfl) (fun (z : Nat × Bool × Nat × Nat) (h' : Hp) => rutf8_l2 B0 B3 z.1 z.2.1 z.2.2.1 z.2.2.2 = some o ∧ (z.2.2.1 < 4294967296) ∧ Eng.Sep [Frz G h0] h') (fun (z : Nat × Bool × Nat × Nat) => z.1) (fun (i : Nat) (z : Nat × Bool × Nat × Nat) (h' : Hp) => (i = 3) ∧ (i = 3 → o = LO.ex (z.2.1, z.2.2.1, z.2.2.2) ∧ (z.2.2.1 < 4294967296) ∧ Eng.Sep [Frz G h0] h')) (fun (ls : List (Option AV)) (h' : Hp) => ∃ (rt : Bool) (v2 : AV), o = LO.rt rt ∧ ls[1]? = some (some v2) ∧ (v2 = (AV.bool rt) ∧ Eng.Sep (Frz G h0 :: []) h')) (fun ⟨n, A2, A5, A6⟩ t h hi => rutf8_l2_body fB0_2 hN' hi) (n, A2, A5, A6) h hi hN t ht
def rutf8_l1  : Nat → List Nat → Bool → Option (LO (List Nat × Bool) (Bool))
  | 0, _, _ => none
  | m + 1, A0, A2 =>
    (if 0 < A0.length then (if A0.getD 0 0 < 128 then (if A0.length < 1 then (some (LO.rt false)) else
    (ob (rutf8_l2 A0 1 90000 A2 (A0.getD 0 0) 1) fun o7 =>
    (LO.on o7 (fun s_o7 => (rutf8_l1  m (A0.drop 1) s_o7.1)) (fun y14 =>
    (some (LO.rt y14)))))) else
    (if 194 ≤ A0.getD 0 0 then (if A0.getD 0 0 < 224 then (if A0.length < 2 then (some (LO.rt false)) else
    (ob (rutf8_l2 A0 2 90000 A2 ((A0.getD 0 0) &&& 31) 1) fun o10 =>
    (LO.on o10 (fun s_o10 => (rutf8_l1  m (A0.drop 2) s_o10.1)) (fun y17 =>
    (some (LO.rt y17)))))) else
    (if A0.getD 0 0 < 240 then (if A0.length < 3 then (some (LO.rt false)) else
    (ob (rutf8_l2 A0 3 90000 A2 ((A0.getD 0 0) &&& 15) 1) fun o11 =>
    (LO.on o11 (fun s_o11 => (if s_o11.2.1 < 2048 then (some (LO.rt false)) else
    (if 55296 ≤ s_o11.2.1 then (if s_o11.2.1 < 57344 then (some (LO.rt false)) else
    (rutf8_l1  m (A0.drop 3) s_o11.1)) else
    (rutf8_l1  m (A0.drop 3) s_o11.1)))) (fun y18 =>
    (some (LO.rt y18)))))) else
    (if A0.getD 0 0 < 245 then (if A0.length < 4 then (some (LO.rt false)) else
    (ob (rutf8_l2 A0 4 90000 A2 ((A0.getD 0 0) &&& 7) 1) fun o12 =>
    (LO.on o12 (fun s_o12 => (if s_o12.2.1 < 65536 then (some (LO.rt false)) else
    (if 1114111 < s_o12.2.1 then (some (LO.rt false)) else
    (rutf8_l1  m (A0.drop 4) s_o12.1)))) (fun y19 =>
    (some (LO.rt y19)))))) else
    (some (LO.rt false))))) else
    (if 224 ≤ A0.getD 0 0 then (if A0.getD 0 0 < 240 then (if A0.length < 3 then (some (LO.rt false)) else
    (ob (rutf8_l2 A0 3 90000 A2 ((A0.getD 0 0) &&& 15) 1) fun o11 =>
    (LO.on o11 (fun s_o11 => (if s_o11.2.1 < 2048 then (some (LO.rt false)) else
    (if 55296 ≤ s_o11.2.1 then (if s_o11.2.1 < 57344 then (some (LO.rt false)) else
    (rutf8_l1  m (A0.drop 3) s_o11.1)) else
    (rutf8_l1  m (A0.drop 3) s_o11.1)))) (fun y18 =>
    (some (LO.rt y18)))))) else
    (if A0.getD 0 0 < 245 then (if A0.length < 4 then (some (LO.rt false)) else
    (ob (rutf8_l2 A0 4 90000 A2 ((A0.getD 0 0) &&& 7) 1) fun o12 =>
    (LO.on o12 (fun s_o12 => (if s_o12.2.1 < 65536 then (some (LO.rt false)) else
    (if 1114111 < s_o12.2.1 then (some (LO.rt false)) else
    (rutf8_l1  m (A0.drop 4) s_o12.1)))) (fun y19 =>
    (some (LO.rt y19)))))) else
    (some (LO.rt false)))) else
    (if 240 ≤ A0.getD 0 0 then (if A0.getD 0 0 < 245 then (if A0.length < 4 then (some (LO.rt false)) else
    (ob (rutf8_l2 A0 4 90000 A2 ((A0.getD 0 0) &&& 7) 1) fun o12 =>
    (LO.on o12 (fun s_o12 => (if s_o12.2.1 < 65536 then (some (LO.rt false)) else
    (if 1114111 < s_o12.2.1 then (some (LO.rt false)) else
    (rutf8_l1  m (A0.drop 4) s_o12.1)))) (fun y19 =>
    (some (LO.rt y19)))))) else
    (some (LO.rt false))) else
    (some (LO.rt false)))))) else
    (some (LO.ex (A0, A2))))
noncomputable def rutf8_l1C : AC := (.seq (.seq (.region [⟨(some 7), .q (.move (.tmp 0)), none⟩, ⟨(some 8), .q (.lenL (.tmp 7)), none⟩, ⟨(some 9), .q (.bin .gtr (.tmp 8) (.const (AV.int .i64 (Int.ofNat 0)))), none⟩]) (.cond (.tmp 9) .skip (.exit 0))) (.block 1 (.seq (.region [⟨(some 3), .q (.move (.const (AV.int .i64 (Int.ofNat 0)))), none⟩]) (.seq (.seq (.region [⟨(some 10), .q (.move (.tmp 0)), none⟩, ⟨(some 11), .q (.idxAddrSl 1 (.tmp 10) (.const (AV.int .i64 (Int.ofNat 0)))), none⟩, ⟨(some 12), .q (.loadS (.tmp 11)), none⟩, ⟨(some 4), .q (.move (.tmp 12)), none⟩]) (.block 2 (.seq (.region [⟨(some 14), .q (.move (.tmp 4)), none⟩, ⟨(some 15), .q (.bin .lss (.tmp 14) (.const (AV.int .u8 (Int.ofNat 128)))), none⟩, ⟨(some 13), .q (.move (.tmp 15)), none⟩]) (.cond (.tmp 13) (.region [⟨(some 3), .q (.move (.const (AV.int .i64 (Int.ofNat 1)))), none⟩]) (.seq (.region [⟨(some 17), .q (.move (.tmp 4)), none⟩, ⟨(some 18), .q (.bin .geq (.tmp 17) (.const (AV.int .u8 (Int.ofNat 194)))), none⟩, ⟨(some 19), .q (.move (.tmp 18)), none⟩, ⟨(some 20), .q (.move (.tmp 4)), (some (19, true))⟩, ⟨(some 21), .q (.bin .lss (.tmp 20) (.const (AV.int .u8 (Int.ofNat 224)))), (some (19, true))⟩, ⟨(some 22), .q (.pick (.tmp 19) (.tmp 21) (.const (AV.bool false))), none⟩, ⟨(some 16), .q (.move (.tmp 22)), none⟩]) (.cond (.tmp 16) (.region [⟨(some 3), .q (.move (.const (AV.int .i64 (Int.ofNat 2)))), none⟩]) (.seq (.region [⟨(some 24), .q (.move (.tmp 4)), none⟩, ⟨(some 25), .q (.bin .geq (.tmp 24) (.const (AV.int .u8 (Int.ofNat 224)))), none⟩, ⟨(some 26), .q (.move (.tmp 25)), none⟩, ⟨(some 27), .q (.move (.tmp 4)), (some (26, true))⟩, ⟨(some 28), .q (.bin .lss (.tmp 27) (.const (AV.int .u8 (Int.ofNat 240)))), (some (26, true))⟩, ⟨(some 29), .q (.pick (.tmp 26) (.tmp 28) (.const (AV.bool false))), none⟩, ⟨(some 23), .q (.move (.tmp 29)), none⟩]) (.cond (.tmp 23) (.region [⟨(some 3), .q (.move (.const (AV.int .i64 (Int.ofNat 3)))), none⟩]) (.seq (.region [⟨(some 31), .q (.move (.tmp 4)), none⟩, ⟨(some 32), .q (.bin .geq (.tmp 31) (.const (AV.int .u8 (Int.ofNat 240)))), none⟩, ⟨(some 33), .q (.move (.tmp 32)), none⟩, ⟨(some 34), .q (.move (.tmp 4)), (some (33, true))⟩, ⟨(some 35), .q (.bin .lss (.tmp 34) (.const (AV.int .u8 (Int.ofNat 245)))), (some (33, true))⟩, ⟨(some 36), .q (.pick (.tmp 33) (.tmp 35) (.const (AV.bool false))), none⟩, ⟨(some 30), .q (.move (.tmp 36)), none⟩]) (.cond (.tmp 30) (.region [⟨(some 3), .q (.move (.const (AV.int .i64 (Int.ofNat 4)))), none⟩]) .skip)))))))))) (.seq (.seq (.region [⟨(some 37), .q (.move (.tmp 3)), none⟩, ⟨(some 38), .q (.eq .int false (.tmp 37) (.const (AV.int .i64 (Int.ofNat 0)))), none⟩, ⟨(some 39), .q (.move (.tmp 38)), none⟩, ⟨(some 40), .q (.move (.tmp 0)), (some (39, false))⟩, ⟨(some 41), .q (.lenL (.tmp 40)), (some (39, false))⟩, ⟨(some 42), .q (.move (.tmp 3)), (some (39, false))⟩, ⟨(some 43), .q (.bin .lss (.tmp 41) (.tmp 42)), (some (39, false))⟩, ⟨(some 44), .q (.pick (.tmp 39) (.const (AV.bool true)) (.tmp 43)), none⟩]) (.cond (.tmp 44) (.seq (.region [⟨(some 2), .q (.move (.const (AV.bool false))), none⟩]) .ret) .skip)) (.seq (.region [⟨(some 45), .q (.move (.tmp 0)), none⟩, ⟨(some 46), .q (.idxAddrSl 1 (.tmp 45) (.const (AV.int .i64 (Int.ofNat 0)))), none⟩, ⟨(some 47), .q (.loadS (.tmp 46)), none⟩, ⟨(some 48), .q (.toInt .u32 (.tmp 47)), none⟩, ⟨(some 5), .q (.move (.tmp 48)), none⟩]) (.seq (.seq (.region [⟨(some 49), .q (.move (.tmp 3)), none⟩, ⟨(some 50), .q (.bin .gtr (.tmp 49) (.const (AV.int .i64 (Int.ofNat 1)))), none⟩]) (.cond (.tmp 50) (.region [⟨(some 51), .q (.move (.tmp 5)), none⟩, ⟨(some 52), .q (.move (.tmp 3)), none⟩, ⟨(some 53), .q (.bin .add (.tmp 52) (.const (AV.int .i64 (Int.ofNat 1)))), none⟩, ⟨(some 54), .q (.bin .shr (.const (AV.int .u32 (Int.ofNat 255))) (.tmp 53)), none⟩, ⟨(some 55), .q (.bin .and (.tmp 51) (.tmp 54)), none⟩, ⟨(some 5), .q (.move (.tmp 55)), none⟩]) .skip)) (.seq (.seq (.region [⟨(some 6), .q (.move (.const (AV.int .i64 (Int.ofNat 1)))), none⟩]) (.block 3 (.loop (.seq (.seq (.region [⟨(some 56), .q (.move (.tmp 6)), none⟩, ⟨(some 57), .q (.move (.tmp 3)), none⟩, ⟨(some 58), .q (.bin .lss (.tmp 56) (.tmp 57)), none⟩]) (.cond (.tmp 58) .skip (.exit 3))) (.seq (.block 4 (.seq (.seq (.region [⟨(some 61), .q (.move (.tmp 0)), none⟩, ⟨(some 62), .q (.move (.tmp 6)), none⟩, ⟨(some 63), .q (.idxAddrSl 1 (.tmp 61) (.tmp 62)), none⟩, ⟨(some 64), .q (.loadS (.tmp 63)), none⟩, ⟨(some 65), .q (.bin .and (.tmp 64) (.const (AV.int .u8 (Int.ofNat 192)))), none⟩, ⟨(some 66), .q (.eq .int true (.tmp 65) (.const (AV.int .u8 (Int.ofNat 128)))), none⟩]) (.cond (.tmp 66) (.seq (.region [⟨(some 2), .q (.move (.const (AV.bool false))), none⟩]) .ret) .skip)) (.region [⟨(some 67), .q (.move (.tmp 5)), none⟩, ⟨(some 68), .q (.bin .shl (.tmp 67) (.const (AV.int .u64 (Int.ofNat 6)))), none⟩, ⟨(some 69), .q (.move (.tmp 0)), none⟩, ⟨(some 70), .q (.move (.tmp 6)), none⟩, ⟨(some 71), .q (.idxAddrSl 1 (.tmp 69) (.tmp 70)), none⟩, ⟨(some 72), .q (.loadS (.tmp 71)), none⟩, ⟨(some 73), .q (.bin .and (.tmp 72) (.const (AV.int .u8 (Int.ofNat 63)))), none⟩, ⟨(some 74), .q (.toInt .u32 (.tmp 73)), none⟩, ⟨(some 75), .q (.bin .or (.tmp 68) (.tmp 74)), none⟩, ⟨(some 5), .q (.move (.tmp 75)), none⟩]))) (.region [⟨(some 59), .q (.move (.tmp 6)), none⟩, ⟨(some 60), .q (.bin .add (.tmp 59) (.const (AV.int .i64 (Int.ofNat 1)))), none⟩, ⟨(some 6), .q (.move (.tmp 60)), none⟩])))))) (.seq (.seq (.region [⟨(some 76), .q (.move (.tmp 3)), none⟩, ⟨(some 77), .q (.eq .int false (.tmp 76) (.const (AV.int .i64 (Int.ofNat 3)))), none⟩, ⟨(some 78), .q (.move (.tmp 77)), none⟩, ⟨(some 79), .q (.move (.tmp 5)), (some (78, true))⟩, ⟨(some 80), .q (.bin .lss (.tmp 79) (.const (AV.int .u32 (Int.ofNat 2048)))), (some (78, true))⟩, ⟨(some 81), .q (.move (.tmp 80)), (some (78, true))⟩, ⟨(some 82), .q (.move (.tmp 5)), (some (81, false))⟩, ⟨(some 83), .q (.bin .geq (.tmp 82) (.const (AV.int .u32 (Int.ofNat 55296)))), (some (81, false))⟩, ⟨(some 84), .q (.move (.tmp 83)), (some (81, false))⟩, ⟨(some 85), .q (.move (.tmp 5)), (some (84, true))⟩, ⟨(some 86), .q (.bin .lss (.tmp 85) (.const (AV.int .u32 (Int.ofNat 57344)))), (some (84, true))⟩, ⟨(some 87), .q (.pick (.tmp 84) (.tmp 86) (.const (AV.bool false))), (some (81, false))⟩, ⟨(some 88), .q (.pick (.tmp 81) (.const (AV.bool true)) (.tmp 87)), (some (78, true))⟩, ⟨(some 89), .q (.pick (.tmp 78) (.tmp 88) (.const (AV.bool false))), none⟩, ⟨(some 90), .q (.move (.tmp 89)), none⟩, ⟨(some 91), .q (.move (.tmp 3)), (some (90, false))⟩, ⟨(some 92), .q (.eq .int false (.tmp 91) (.const (AV.int .i64 (Int.ofNat 4)))), (some (90, false))⟩, ⟨(some 93), .q (.move (.tmp 92)), (some (90, false))⟩, ⟨(some 94), .q (.move (.tmp 5)), (some (93, true))⟩, ⟨(some 95), .q (.bin .lss (.tmp 94) (.const (AV.int .u32 (Int.ofNat 65536)))), (some (93, true))⟩, ⟨(some 96), .q (.move (.tmp 95)), (some (93, true))⟩, ⟨(some 97), .q (.move (.tmp 5)), (some (96, false))⟩, ⟨(some 98), .q (.bin .gtr (.tmp 97) (.const (AV.int .u32 (Int.ofNat 1114111)))), (some (96, false))⟩, ⟨(some 99), .q (.pick (.tmp 96) (.const (AV.bool true)) (.tmp 98)), (some (93, true))⟩, ⟨(some 100), .q (.pick (.tmp 93) (.tmp 99) (.const (AV.bool false))), (some (90, false))⟩, ⟨(some 101), .q (.pick (.tmp 90) (.const (AV.bool true)) (.tmp 100)), none⟩]) (.cond (.tmp 101) (.seq (.region [⟨(some 2), .q (.move (.const (AV.bool false))), none⟩]) .ret) .skip)) (.region [⟨(some 102), .q (.move (.tmp 0)), none⟩, ⟨(some 103), .q (.move (.tmp 3)), none⟩, ⟨(some 104), .q (.sliceSl 1 (.tmp 102) (some (.tmp 103)) none none), none⟩, ⟨(some 0), .q (.move (.tmp 104)), none⟩]))))))))))
theorem rutf8_l1_body {call : CallT} {N : Nat} {t : T} {h : Hp} {G : Nat → Prop} {h0 : Hp}    {o : LO (List Nat × Bool) (Bool)} {n : Nat} {A0 : List Nat} {A2 : Bool} {wA0_1 : AV} (hN : 90000 < N) (hi : (fun (z : Nat × List Nat × Bool × AV) (h' : Hp) => rutf8_l1  z.1 z.2.1 z.2.2.1 = some o ∧ (BIn G h0 z.2.2.2 z.2.1) ∧ Eng.Sep [Frz G h0] h') (n, A0, A2, wA0_1) h)
    : ∃ s, evC call N rutf8_l1C (ovT [(0, wA0_1), (2, (AV.bool A2))] t) h = s ∧ obsS [0, 2] (fun ls h' => ∃ y, ls = ((fun (z : Nat × List Nat × Bool × AV) => [(0, z.2.2.2), (2, (AV.bool z.2.2.1))]) y).map (fun p => some p.2) ∧ (fun (z : Nat × List Nat × Bool × AV) (h' : Hp) => rutf8_l1  z.1 z.2.1 z.2.2.1 = some o ∧ (BIn G h0 z.2.2.2 z.2.1) ∧ Eng.Sep [Frz G h0] h') y h' ∧ (fun (z : Nat × List Nat × Bool × AV) => z.1) y < (fun (z : Nat × List Nat × Bool × AV) => z.1) (n, A0, A2, wA0_1)) (fun i ls h' => ∃ y, ls = ((fun (z : Nat × List Nat × Bool × AV) => [(0, z.2.2.2), (2, (AV.bool z.2.2.1))]) y).map (fun p => some p.2) ∧ (fun (i : Nat) (z : Nat × List Nat × Bool × AV) (h' : Hp) => (i = 0) ∧ (i = 0 → o = LO.ex (z.2.1, z.2.2.1) ∧ (BIn G h0 z.2.2.2 z.2.1) ∧ Eng.Sep [Frz G h0] h')) i y h') (fun ls h' => (fun (ls : List (Option AV)) (h' : Hp) => ∃ (rt : Bool) (v2 : AV), o = LO.rt rt ∧ ls[1]? = some (some v2) ∧ (v2 = (AV.bool rt) ∧ Eng.Sep (Frz G h0 :: []) h')) ls h') s := by
  have hi : rutf8_l1  n A0 A2 = some o ∧ (BIn G h0 wA0_1 A0) ∧ Eng.Sep [Frz G h0] h := hi
  obtain ⟨hp, fA0_2, S⟩ := hi
  obtain ⟨m, hm⟩ : ∃ m, n = m + 1 := by
    cases n with
    | zero => cases hp
    | succ m => exact ⟨m, rfl⟩
  rw [hm] at hp
  unfold rutf8_l1 at hp
  refine walk_ok (o := (.tell 1 (AV.int .i64 (Int.ofNat A0.length)) (.fork 0 (.tell 2 (elemP wA0_1 0 1) (.tell 0 (AV.int .u8 (Int.ofNat (A0.getD 0 0))) (.fork 3 (.tell 5 (AV.int .i64 (Int.ofNat A0.length)) (.fork 2 .fin (.tell 1 (elemP wA0_1 0 1) (.tell 0 (AV.int .u8 (Int.ofNat (A0.getD 0 0))) (.tell 0 (AV.int .u32 (Int.ofNat (A0.getD 0 0))) (.dis 4 (.exi 0 fun (A2o7 : Bool) => (.exi 0 fun (A5o7 : Nat) => (.exi 0 fun (A6o7 : Nat) => (.exi 0 fun (t10 : T) => (.exi 0 fun (h11 : Hp) => (.lp 0 (.exit 3 (ovT [(0, wA0_1), (2, (AV.bool A2o7)), (3, (AV.int .i64 (Int.ofNat 1))), (5, (AV.int .u32 (Int.ofNat A5o7))), (6, (AV.int .i64 (Int.ofNat A6o7)))] t10) h11) (.tell 1 (AV.bool false) (.tell 4 (AV.bool false) (.tell 5 (partS wA0_1 1 A0.length) .fin))))))))) (.exi 0 fun (y14 : Bool) => (.exi 0 fun (v2o7 : AV) => (.exi 0 fun (t12 : T) => (.exi 0 fun (h13 : Hp) => (.lp 0 (.ret (ovT [(2, v2o7)] t12) h13) .fin))))))))))) (.fork 2 (.fork 3 (.tell 5 (AV.int .i64 (Int.ofNat A0.length)) (.fork 2 .fin (.tell 1 (elemP wA0_1 0 1) (.tell 0 (AV.int .u8 (Int.ofNat (A0.getD 0 0))) (.tell 0 (AV.int .u32 (Int.ofNat (A0.getD 0 0))) (.tell 7 (AV.int .u32 (Int.ofNat ((A0.getD 0 0) &&& 31))) (.dis 2 (.exi 0 fun (A2o10 : Bool) => (.exi 0 fun (A5o10 : Nat) => (.exi 0 fun (A6o10 : Nat) => (.exi 0 fun (t13 : T) => (.exi 0 fun (h14 : Hp) => (.lp 0 (.exit 3 (ovT [(0, wA0_1), (2, (AV.bool A2o10)), (3, (AV.int .i64 (Int.ofNat 2))), (5, (AV.int .u32 (Int.ofNat A5o10))), (6, (AV.int .i64 (Int.ofNat A6o10)))] t13) h14) (.tell 1 (AV.bool false) (.tell 4 (AV.bool false) (.tell 5 (partS wA0_1 2 A0.length) .fin))))))))) (.exi 0 fun (y17 : Bool) => (.exi 0 fun (v2o10 : AV) => (.exi 0 fun (t15 : T) => (.exi 0 fun (h16 : Hp) => (.lp 0 (.ret (ovT [(2, v2o10)] t15) h16) .fin)))))))))))) (.tell 2 (AV.bool true) (.fork 3 (.tell 5 (AV.int .i64 (Int.ofNat A0.length)) (.fork 2 .fin (.tell 1 (elemP wA0_1 0 1) (.tell 0 (AV.int .u8 (Int.ofNat (A0.getD 0 0))) (.tell 0 (AV.int .u32 (Int.ofNat (A0.getD 0 0))) (.tell 7 (AV.int .u32 (Int.ofNat ((A0.getD 0 0) &&& 15))) (.dis 2 (.exi 0 fun (A2o11 : Bool) => (.exi 0 fun (A5o11 : Nat) => (.exi 0 fun (A6o11 : Nat) => (.exi 0 fun (t14 : T) => (.exi 0 fun (h15 : Hp) => (.lp 0 (.exit 3 (ovT [(0, wA0_1), (2, (AV.bool A2o11)), (3, (AV.int .i64 (Int.ofNat 3))), (5, (AV.int .u32 (Int.ofNat A5o11))), (6, (AV.int .i64 (Int.ofNat A6o11)))] t14) h15) (.tell 1 (AV.bool true) (.fork 3 .fin (.fork 2 (.fork 5 .fin (.tell 1 (AV.bool false) (.tell 5 (partS wA0_1 3 A0.length) .fin))) (.tell 5 (AV.bool false) (.tell 5 (partS wA0_1 3 A0.length) .fin))))))))))) (.exi 0 fun (y18 : Bool) => (.exi 0 fun (v2o11 : AV) => (.exi 0 fun (t16 : T) => (.exi 0 fun (h17 : Hp) => (.lp 0 (.ret (ovT [(2, v2o11)] t16) h17) .fin)))))))))))) (.tell 2 (AV.bool true) (.fork 3 (.tell 5 (AV.int .i64 (Int.ofNat A0.length)) (.fork 2 .fin (.tell 1 (elemP wA0_1 0 1) (.tell 0 (AV.int .u8 (Int.ofNat (A0.getD 0 0))) (.tell 0 (AV.int .u32 (Int.ofNat (A0.getD 0 0))) (.tell 7 (AV.int .u32 (Int.ofNat ((A0.getD 0 0) &&& 7))) (.dis 2 (.exi 0 fun (A2o12 : Bool) => (.exi 0 fun (A5o12 : Nat) => (.exi 0 fun (A6o12 : Nat) => (.exi 0 fun (t15 : T) => (.exi 0 fun (h16 : Hp) => (.lp 0 (.exit 3 (ovT [(0, wA0_1), (2, (AV.bool A2o12)), (3, (AV.int .i64 (Int.ofNat 4))), (5, (AV.int .u32 (Int.ofNat A5o12))), (6, (AV.int .i64 (Int.ofNat A6o12)))] t15) h16) (.tell 1 (AV.bool false) (.tell 4 (AV.bool true) (.fork 3 .fin (.fork 4 .fin (.tell 2 (partS wA0_1 4 A0.length) .fin))))))))))) (.exi 0 fun (y19 : Bool) => (.exi 0 fun (v2o12 : AV) => (.exi 0 fun (t17 : T) => (.exi 0 fun (h18 : Hp) => (.lp 0 (.ret (ovT [(2, v2o12)] t17) h18) .fin)))))))))))) .fin))))) (.fork 4 (.fork 3 (.tell 5 (AV.int .i64 (Int.ofNat A0.length)) (.fork 2 .fin (.tell 1 (elemP wA0_1 0 1) (.tell 0 (AV.int .u8 (Int.ofNat (A0.getD 0 0))) (.tell 0 (AV.int .u32 (Int.ofNat (A0.getD 0 0))) (.tell 7 (AV.int .u32 (Int.ofNat ((A0.getD 0 0) &&& 15))) (.dis 2 (.exi 0 fun (A2o11 : Bool) => (.exi 0 fun (A5o11 : Nat) => (.exi 0 fun (A6o11 : Nat) => (.exi 0 fun (t14 : T) => (.exi 0 fun (h15 : Hp) => (.lp 0 (.exit 3 (ovT [(0, wA0_1), (2, (AV.bool A2o11)), (3, (AV.int .i64 (Int.ofNat 3))), (5, (AV.int .u32 (Int.ofNat A5o11))), (6, (AV.int .i64 (Int.ofNat A6o11)))] t14) h15) (.tell 1 (AV.bool true) (.fork 3 .fin (.fork 2 (.fork 5 .fin (.tell 1 (AV.bool false) (.tell 5 (partS wA0_1 3 A0.length) .fin))) (.tell 5 (AV.bool false) (.tell 5 (partS wA0_1 3 A0.length) .fin))))))))))) (.exi 0 fun (y18 : Bool) => (.exi 0 fun (v2o11 : AV) => (.exi 0 fun (t16 : T) => (.exi 0 fun (h17 : Hp) => (.lp 0 (.ret (ovT [(2, v2o11)] t16) h17) .fin)))))))))))) (.tell 2 (AV.bool true) (.fork 3 (.tell 5 (AV.int .i64 (Int.ofNat A0.length)) (.fork 2 .fin (.tell 1 (elemP wA0_1 0 1) (.tell 0 (AV.int .u8 (Int.ofNat (A0.getD 0 0))) (.tell 0 (AV.int .u32 (Int.ofNat (A0.getD 0 0))) (.tell 7 (AV.int .u32 (Int.ofNat ((A0.getD 0 0) &&& 7))) (.dis 2 (.exi 0 fun (A2o12 : Bool) => (.exi 0 fun (A5o12 : Nat) => (.exi 0 fun (A6o12 : Nat) => (.exi 0 fun (t15 : T) => (.exi 0 fun (h16 : Hp) => (.lp 0 (.exit 3 (ovT [(0, wA0_1), (2, (AV.bool A2o12)), (3, (AV.int .i64 (Int.ofNat 4))), (5, (AV.int .u32 (Int.ofNat A5o12))), (6, (AV.int .i64 (Int.ofNat A6o12)))] t15) h16) (.tell 1 (AV.bool false) (.tell 4 (AV.bool true) (.fork 3 .fin (.fork 4 .fin (.tell 2 (partS wA0_1 4 A0.length) .fin))))))))))) (.exi 0 fun (y19 : Bool) => (.exi 0 fun (v2o12 : AV) => (.exi 0 fun (t17 : T) => (.exi 0 fun (h18 : Hp) => (.lp 0 (.ret (ovT [(2, v2o12)] t17) h18) .fin)))))))))))) .fin))) (.fork 4 (.fork 3 (.tell 5 (AV.int .i64 (Int.ofNat A0.length)) (.fork 2 .fin (.tell 1 (elemP wA0_1 0 1) (.tell 0 (AV.int .u8 (Int.ofNat (A0.getD 0 0))) (.tell 0 (AV.int .u32 (Int.ofNat (A0.getD 0 0))) (.tell 7 (AV.int .u32 (Int.ofNat ((A0.getD 0 0) &&& 7))) (.dis 2 (.exi 0 fun (A2o12 : Bool) => (.exi 0 fun (A5o12 : Nat) => (.exi 0 fun (A6o12 : Nat) => (.exi 0 fun (t15 : T) => (.exi 0 fun (h16 : Hp) => (.lp 0 (.exit 3 (ovT [(0, wA0_1), (2, (AV.bool A2o12)), (3, (AV.int .i64 (Int.ofNat 4))), (5, (AV.int .u32 (Int.ofNat A5o12))), (6, (AV.int .i64 (Int.ofNat A6o12)))] t15) h16) (.tell 1 (AV.bool false) (.tell 4 (AV.bool true) (.fork 3 .fin (.fork 4 .fin (.tell 2 (partS wA0_1 4 A0.length) .fin))))))))))) (.exi 0 fun (y19 : Bool) => (.exi 0 fun (v2o12 : AV) => (.exi 0 fun (t17 : T) => (.exi 0 fun (h18 : Hp) => (.lp 0 (.ret (ovT [(2, v2o12)] t17) h18) .fin)))))))))))) .fin) .fin)))))) .fin))) (p := (fun (KN : List (Option AV) → Hp → Prop) (KE : Nat → List (Option AV) → Hp → Prop) (KR : List (Option AV) → Hp → Prop) => ((evQ (.lenL (.const wA0_1)) .lf H0 = .ok (AV.int .i64 (Int.ofNat A0.length)) ∧ ((ltI (Int.ofNat 0) (Int.ofNat A0.length) = true → ((evQ (.idxAddrSl 1 (.const wA0_1) (.const (AV.int .i64 (Int.ofNat 0)))) .lf H0 = .ok (elemP wA0_1 0 1) ∧ ((evQ (.loadS (.const (elemP wA0_1 0 1))) .lf h = .ok (AV.int .u8 (Int.ofNat (A0.getD 0 0))) ∧ ((ltI (Int.ofNat (A0.getD 0 0)) (Int.ofNat 128) = true → ((evQ (.lenL (.const wA0_1)) .lf H0 = .ok (AV.int .i64 (Int.ofNat A0.length)) ∧ ((ltI (Int.ofNat A0.length) (Int.ofNat 1) = true → KR [some wA0_1, some (AV.bool false)] h) ∧ (ltI (Int.ofNat A0.length) (Int.ofNat 1) = false → ((evQ (.idxAddrSl 1 (.const wA0_1) (.const (AV.int .i64 (Int.ofNat 0)))) .lf H0 = .ok (elemP wA0_1 0 1) ∧ ((evQ (.loadS (.const (elemP wA0_1 0 1))) .lf h = .ok (AV.int .u8 (Int.ofNat (A0.getD 0 0))) ∧ ((evQ (.toInt .u32 (.const (AV.int .u8 (Int.ofNat (A0.getD 0 0))))) .lf H0 = .ok (AV.int .u32 (Int.ofNat (A0.getD 0 0))) ∧ ((∃ A2o7 : Bool, ∃ A5o7 : Nat, ∃ A6o7 : Nat, ∃ t10 : T, ∃ h11 : Hp, (evC call N (.loop rutf8_l2C) (ovT [(0, wA0_1), (2, (AV.bool A2)), (3, (AV.int .i64 (Int.ofNat 1))), (4, (AV.int .u8 (Int.ofNat (A0.getD 0 0)))), (5, (AV.int .u32 (Int.ofNat (A0.getD 0 0)))), (6, (AV.int .i64 (Int.ofNat 1))), (7, wA0_1), (8, (AV.int .i64 (Int.ofNat A0.length))), (9, (AV.bool true)), (10, wA0_1), (11, (elemP wA0_1 0 1)), (12, (AV.int .u8 (Int.ofNat (A0.getD 0 0)))), (13, (AV.bool true)), (14, (AV.int .u8 (Int.ofNat (A0.getD 0 0)))), (15, (AV.bool (ltI (Int.ofNat (A0.getD 0 0)) (Int.ofNat 128)))), (37, (AV.int .i64 (Int.ofNat 1))), (38, (AV.bool false)), (39, (AV.bool false)), (40, wA0_1), (41, (AV.int .i64 (Int.ofNat A0.length))), (42, (AV.int .i64 (Int.ofNat 1))), (43, (AV.bool (ltI (Int.ofNat A0.length) (Int.ofNat 1)))), (44, (AV.bool false)), (45, wA0_1), (46, (elemP wA0_1 0 1)), (47, (AV.int .u8 (Int.ofNat (A0.getD 0 0)))), (48, (AV.int .u32 (Int.ofNat (A0.getD 0 0)))), (49, (AV.int .i64 (Int.ofNat 1))), (50, (AV.bool false))] t) h = (.exit 3 (ovT [(0, wA0_1), (2, (AV.bool A2o7)), (3, (AV.int .i64 (Int.ofNat 1))), (5, (AV.int .u32 (Int.ofNat A5o7))), (6, (AV.int .i64 (Int.ofNat A6o7)))] t10) h11) ∧ True ∧ ((evQ (.eq .int false (.const (AV.int .i64 (Int.ofNat 1))) (.const (AV.int .i64 (Int.ofNat 3)))) .lf H0 = .ok (AV.bool false) ∧ ((evQ (.eq .int false (.const (AV.int .i64 (Int.ofNat 1))) (.const (AV.int .i64 (Int.ofNat 4)))) .lf H0 = .ok (AV.bool false) ∧ ((evQ (.sliceSl 1 (.const wA0_1) (some (.const (AV.int .i64 (Int.ofNat 1)))) none none) .lf H0 = .ok (partS wA0_1 1 A0.length) ∧ KN [some (partS wA0_1 1 A0.length), some (AV.bool A2o7)] h11)))))))) ∨ (∃ y14 : Bool, ∃ v2o7 : AV, ∃ t12 : T, ∃ h13 : Hp, (evC call N (.loop rutf8_l2C) (ovT [(0, wA0_1), (2, (AV.bool A2)), (3, (AV.int .i64 (Int.ofNat 1))), (4, (AV.int .u8 (Int.ofNat (A0.getD 0 0)))), (5, (AV.int .u32 (Int.ofNat (A0.getD 0 0)))), (6, (AV.int .i64 (Int.ofNat 1))), (7, wA0_1), (8, (AV.int .i64 (Int.ofNat A0.length))), (9, (AV.bool true)), (10, wA0_1), (11, (elemP wA0_1 0 1)), (12, (AV.int .u8 (Int.ofNat (A0.getD 0 0)))), (13, (AV.bool true)), (14, (AV.int .u8 (Int.ofNat (A0.getD 0 0)))), (15, (AV.bool (ltI (Int.ofNat (A0.getD 0 0)) (Int.ofNat 128)))), (37, (AV.int .i64 (Int.ofNat 1))), (38, (AV.bool false)), (39, (AV.bool false)), (40, wA0_1), (41, (AV.int .i64 (Int.ofNat A0.length))), (42, (AV.int .i64 (Int.ofNat 1))), (43, (AV.bool (ltI (Int.ofNat A0.length) (Int.ofNat 1)))), (44, (AV.bool false)), (45, wA0_1), (46, (elemP wA0_1 0 1)), (47, (AV.int .u8 (Int.ofNat (A0.getD 0 0)))), (48, (AV.int .u32 (Int.ofNat (A0.getD 0 0)))), (49, (AV.int .i64 (Int.ofNat 1))), (50, (AV.bool false))] t) h = (.ret (ovT [(2, v2o7)] t12) h13) ∧ True ∧ KR [none, some v2o7] h13)))))))))))))) ∧ (ltI (Int.ofNat (A0.getD 0 0)) (Int.ofNat 128) = false → ((notB (ltI (Int.ofNat (A0.getD 0 0)) (Int.ofNat 194)) = true → ((ltI (Int.ofNat (A0.getD 0 0)) (Int.ofNat 224) = true → ((evQ (.lenL (.const wA0_1)) .lf H0 = .ok (AV.int .i64 (Int.ofNat A0.length)) ∧ ((ltI (Int.ofNat A0.length) (Int.ofNat 2) = true → KR [some wA0_1, some (AV.bool false)] h) ∧ (ltI (Int.ofNat A0.length) (Int.ofNat 2) = false → ((evQ (.idxAddrSl 1 (.const wA0_1) (.const (AV.int .i64 (Int.ofNat 0)))) .lf H0 = .ok (elemP wA0_1 0 1) ∧ ((evQ (.loadS (.const (elemP wA0_1 0 1))) .lf h = .ok (AV.int .u8 (Int.ofNat (A0.getD 0 0))) ∧ ((evQ (.toInt .u32 (.const (AV.int .u8 (Int.ofNat (A0.getD 0 0))))) .lf H0 = .ok (AV.int .u32 (Int.ofNat (A0.getD 0 0))) ∧ ((evQ (.bin .and (.const (AV.int .u32 (Int.ofNat (A0.getD 0 0)))) (.const (AV.int .u32 (Int.ofNat 31)))) .lf H0 = .ok (AV.int .u32 (Int.ofNat ((A0.getD 0 0) &&& 31))) ∧ ((∃ A2o10 : Bool, ∃ A5o10 : Nat, ∃ A6o10 : Nat, ∃ t13 : T, ∃ h14 : Hp, (evC call N (.loop rutf8_l2C) (ovT [(0, wA0_1), (2, (AV.bool A2)), (3, (AV.int .i64 (Int.ofNat 2))), (4, (AV.int .u8 (Int.ofNat (A0.getD 0 0)))), (5, (AV.int .u32 (Int.ofNat ((A0.getD 0 0) &&& 31)))), (6, (AV.int .i64 (Int.ofNat 1))), (7, wA0_1), (8, (AV.int .i64 (Int.ofNat A0.length))), (9, (AV.bool true)), (10, wA0_1), (11, (elemP wA0_1 0 1)), (12, (AV.int .u8 (Int.ofNat (A0.getD 0 0)))), (13, (AV.bool false)), (14, (AV.int .u8 (Int.ofNat (A0.getD 0 0)))), (15, (AV.bool (ltI (Int.ofNat (A0.getD 0 0)) (Int.ofNat 128)))), (16, (AV.bool true)), (17, (AV.int .u8 (Int.ofNat (A0.getD 0 0)))), (18, (AV.bool (notB (ltI (Int.ofNat (A0.getD 0 0)) (Int.ofNat 194))))), (19, (AV.bool true)), (20, (AV.int .u8 (Int.ofNat (A0.getD 0 0)))), (21, (AV.bool (ltI (Int.ofNat (A0.getD 0 0)) (Int.ofNat 224)))), (22, (AV.bool (ltI (Int.ofNat (A0.getD 0 0)) (Int.ofNat 224)))), (37, (AV.int .i64 (Int.ofNat 2))), (38, (AV.bool false)), (39, (AV.bool false)), (40, wA0_1), (41, (AV.int .i64 (Int.ofNat A0.length))), (42, (AV.int .i64 (Int.ofNat 2))), (43, (AV.bool (ltI (Int.ofNat A0.length) (Int.ofNat 2)))), (44, (AV.bool false)), (45, wA0_1), (46, (elemP wA0_1 0 1)), (47, (AV.int .u8 (Int.ofNat (A0.getD 0 0)))), (48, (AV.int .u32 (Int.ofNat (A0.getD 0 0)))), (49, (AV.int .i64 (Int.ofNat 2))), (50, (AV.bool true)), (51, (AV.int .u32 (Int.ofNat (A0.getD 0 0)))), (52, (AV.int .i64 (Int.ofNat 2))), (53, (AV.int .i64 (Int.ofNat 3))), (54, (AV.int .u32 (Int.ofNat 31))), (55, (AV.int .u32 (Int.ofNat ((A0.getD 0 0) &&& 31))))] t) h = (.exit 3 (ovT [(0, wA0_1), (2, (AV.bool A2o10)), (3, (AV.int .i64 (Int.ofNat 2))), (5, (AV.int .u32 (Int.ofNat A5o10))), (6, (AV.int .i64 (Int.ofNat A6o10)))] t13) h14) ∧ True ∧ ((evQ (.eq .int false (.const (AV.int .i64 (Int.ofNat 2))) (.const (AV.int .i64 (Int.ofNat 3)))) .lf H0 = .ok (AV.bool false) ∧ ((evQ (.eq .int false (.const (AV.int .i64 (Int.ofNat 2))) (.const (AV.int .i64 (Int.ofNat 4)))) .lf H0 = .ok (AV.bool false) ∧ ((evQ (.sliceSl 1 (.const wA0_1) (some (.const (AV.int .i64 (Int.ofNat 2)))) none none) .lf H0 = .ok (partS wA0_1 2 A0.length) ∧ KN [some (partS wA0_1 2 A0.length), some (AV.bool A2o10)] h14)))))))) ∨ (∃ y17 : Bool, ∃ v2o10 : AV, ∃ t15 : T, ∃ h16 : Hp, (evC call N (.loop rutf8_l2C) (ovT [(0, wA0_1), (2, (AV.bool A2)), (3, (AV.int .i64 (Int.ofNat 2))), (4, (AV.int .u8 (Int.ofNat (A0.getD 0 0)))), (5, (AV.int .u32 (Int.ofNat ((A0.getD 0 0) &&& 31)))), (6, (AV.int .i64 (Int.ofNat 1))), (7, wA0_1), (8, (AV.int .i64 (Int.ofNat A0.length))), (9, (AV.bool true)), (10, wA0_1), (11, (elemP wA0_1 0 1)), (12, (AV.int .u8 (Int.ofNat (A0.getD 0 0)))), (13, (AV.bool false)), (14, (AV.int .u8 (Int.ofNat (A0.getD 0 0)))), (15, (AV.bool (ltI (Int.ofNat (A0.getD 0 0)) (Int.ofNat 128)))), (16, (AV.bool true)), (17, (AV.int .u8 (Int.ofNat (A0.getD 0 0)))), (18, (AV.bool (notB (ltI (Int.ofNat (A0.getD 0 0)) (Int.ofNat 194))))), (19, (AV.bool true)), (20, (AV.int .u8 (Int.ofNat (A0.getD 0 0)))), (21, (AV.bool (ltI (Int.ofNat (A0.getD 0 0)) (Int.ofNat 224)))), (22, (AV.bool (ltI (Int.ofNat (A0.getD 0 0)) (Int.ofNat 224)))), (37, (AV.int .i64 (Int.ofNat 2))), (38, (AV.bool false)), (39, (AV.bool false)), (40, wA0_1), (41, (AV.int .i64 (Int.ofNat A0.length))), (42, (AV.int .i64 (Int.ofNat 2))), (43, (AV.bool (ltI (Int.ofNat A0.length) (Int.ofNat 2)))), (44, (AV.bool false)), (45, wA0_1), (46, (elemP wA0_1 0 1)), (47, (AV.int .u8 (Int.ofNat (A0.getD 0 0)))), (48, (AV.int .u32 (Int.ofNat (A0.getD 0 0)))), (49, (AV.int .i64 (Int.ofNat 2))), (50, (AV.bool true)), (51, (AV.int .u32 (Int.ofNat (A0.getD 0 0)))), (52, (AV.int .i64 (Int.ofNat 2))), (53, (AV.int .i64 (Int.ofNat 3))), (54, (AV.int .u32 (Int.ofNat 31))), (55, (AV.int .u32 (Int.ofNat ((A0.getD 0 0) &&& 31))))] t) h = (.ret (ovT [(2, v2o10)] t15) h16) ∧ True ∧ KR [none, some v2o10] h16)))))))))))))))) ∧ (ltI (Int.ofNat (A0.getD 0 0)) (Int.ofNat 224) = false → ((evQ (.move (.const (AV.bool (notB (ltI (Int.ofNat (A0.getD 0 0)) (Int.ofNat 224)))))) .lf H0 = .ok (AV.bool true) ∧ ((ltI (Int.ofNat (A0.getD 0 0)) (Int.ofNat 240) = true → ((evQ (.lenL (.const wA0_1)) .lf H0 = .ok (AV.int .i64 (Int.ofNat A0.length)) ∧ ((ltI (Int.ofNat A0.length) (Int.ofNat 3) = true → KR [some wA0_1, some (AV.bool false)] h) ∧ (ltI (Int.ofNat A0.length) (Int.ofNat 3) = false → ((evQ (.idxAddrSl 1 (.const wA0_1) (.const (AV.int .i64 (Int.ofNat 0)))) .lf H0 = .ok (elemP wA0_1 0 1) ∧ ((evQ (.loadS (.const (elemP wA0_1 0 1))) .lf h = .ok (AV.int .u8 (Int.ofNat (A0.getD 0 0))) ∧ ((evQ (.toInt .u32 (.const (AV.int .u8 (Int.ofNat (A0.getD 0 0))))) .lf H0 = .ok (AV.int .u32 (Int.ofNat (A0.getD 0 0))) ∧ ((evQ (.bin .and (.const (AV.int .u32 (Int.ofNat (A0.getD 0 0)))) (.const (AV.int .u32 (Int.ofNat 15)))) .lf H0 = .ok (AV.int .u32 (Int.ofNat ((A0.getD 0 0) &&& 15))) ∧ ((∃ A2o11 : Bool, ∃ A5o11 : Nat, ∃ A6o11 : Nat, ∃ t14 : T, ∃ h15 : Hp, (evC call N (.loop rutf8_l2C) (ovT [(0, wA0_1), (2, (AV.bool A2)), (3, (AV.int .i64 (Int.ofNat 3))), (4, (AV.int .u8 (Int.ofNat (A0.getD 0 0)))), (5, (AV.int .u32 (Int.ofNat ((A0.getD 0 0) &&& 15)))), (6, (AV.int .i64 (Int.ofNat 1))), (7, wA0_1), (8, (AV.int .i64 (Int.ofNat A0.length))), (9, (AV.bool true)), (10, wA0_1), (11, (elemP wA0_1 0 1)), (12, (AV.int .u8 (Int.ofNat (A0.getD 0 0)))), (13, (AV.bool false)), (14, (AV.int .u8 (Int.ofNat (A0.getD 0 0)))), (15, (AV.bool (ltI (Int.ofNat (A0.getD 0 0)) (Int.ofNat 128)))), (16, (AV.bool false)), (17, (AV.int .u8 (Int.ofNat (A0.getD 0 0)))), (18, (AV.bool (notB (ltI (Int.ofNat (A0.getD 0 0)) (Int.ofNat 194))))), (19, (AV.bool true)), (20, (AV.int .u8 (Int.ofNat (A0.getD 0 0)))), (21, (AV.bool (ltI (Int.ofNat (A0.getD 0 0)) (Int.ofNat 224)))), (22, (AV.bool (ltI (Int.ofNat (A0.getD 0 0)) (Int.ofNat 224)))), (23, (AV.bool true)), (24, (AV.int .u8 (Int.ofNat (A0.getD 0 0)))), (25, (AV.bool (notB (ltI (Int.ofNat (A0.getD 0 0)) (Int.ofNat 224))))), (26, (AV.bool true)), (27, (AV.int .u8 (Int.ofNat (A0.getD 0 0)))), (28, (AV.bool (ltI (Int.ofNat (A0.getD 0 0)) (Int.ofNat 240)))), (29, (AV.bool (ltI (Int.ofNat (A0.getD 0 0)) (Int.ofNat 240)))), (37, (AV.int .i64 (Int.ofNat 3))), (38, (AV.bool false)), (39, (AV.bool false)), (40, wA0_1), (41, (AV.int .i64 (Int.ofNat A0.length))), (42, (AV.int .i64 (Int.ofNat 3))), (43, (AV.bool (ltI (Int.ofNat A0.length) (Int.ofNat 3)))), (44, (AV.bool false)), (45, wA0_1), (46, (elemP wA0_1 0 1)), (47, (AV.int .u8 (Int.ofNat (A0.getD 0 0)))), (48, (AV.int .u32 (Int.ofNat (A0.getD 0 0)))), (49, (AV.int .i64 (Int.ofNat 3))), (50, (AV.bool true)), (51, (AV.int .u32 (Int.ofNat (A0.getD 0 0)))), (52, (AV.int .i64 (Int.ofNat 3))), (53, (AV.int .i64 (Int.ofNat 4))), (54, (AV.int .u32 (Int.ofNat 15))), (55, (AV.int .u32 (Int.ofNat ((A0.getD 0 0) &&& 15))))] t) h = (.exit 3 (ovT [(0, wA0_1), (2, (AV.bool A2o11)), (3, (AV.int .i64 (Int.ofNat 3))), (5, (AV.int .u32 (Int.ofNat A5o11))), (6, (AV.int .i64 (Int.ofNat A6o11)))] t14) h15) ∧ True ∧ ((evQ (.eq .int false (.const (AV.int .i64 (Int.ofNat 3))) (.const (AV.int .i64 (Int.ofNat 3)))) .lf H0 = .ok (AV.bool true) ∧ ((ltI (Int.ofNat A5o11) (Int.ofNat 2048) = true → KR [some wA0_1, some (AV.bool false)] h15) ∧ (ltI (Int.ofNat A5o11) (Int.ofNat 2048) = false → ((notB (ltI (Int.ofNat A5o11) (Int.ofNat 55296)) = true → ((ltI (Int.ofNat A5o11) (Int.ofNat 57344) = true → KR [some wA0_1, some (AV.bool false)] h15) ∧ (ltI (Int.ofNat A5o11) (Int.ofNat 57344) = false → ((evQ (.eq .int false (.const (AV.int .i64 (Int.ofNat 3))) (.const (AV.int .i64 (Int.ofNat 4)))) .lf H0 = .ok (AV.bool false) ∧ ((evQ (.sliceSl 1 (.const wA0_1) (some (.const (AV.int .i64 (Int.ofNat 3)))) none none) .lf H0 = .ok (partS wA0_1 3 A0.length) ∧ KN [some (partS wA0_1 3 A0.length), some (AV.bool A2o11)] h15))))))) ∧ (notB (ltI (Int.ofNat A5o11) (Int.ofNat 55296)) = false → ((evQ (.eq .int false (.const (AV.int .i64 (Int.ofNat 3))) (.const (AV.int .i64 (Int.ofNat 4)))) .lf H0 = .ok (AV.bool false) ∧ ((evQ (.sliceSl 1 (.const wA0_1) (some (.const (AV.int .i64 (Int.ofNat 3)))) none none) .lf H0 = .ok (partS wA0_1 3 A0.length) ∧ KN [some (partS wA0_1 3 A0.length), some (AV.bool A2o11)] h15)))))))))))) ∨ (∃ y18 : Bool, ∃ v2o11 : AV, ∃ t16 : T, ∃ h17 : Hp, (evC call N (.loop rutf8_l2C) (ovT [(0, wA0_1), (2, (AV.bool A2)), (3, (AV.int .i64 (Int.ofNat 3))), (4, (AV.int .u8 (Int.ofNat (A0.getD 0 0)))), (5, (AV.int .u32 (Int.ofNat ((A0.getD 0 0) &&& 15)))), (6, (AV.int .i64 (Int.ofNat 1))), (7, wA0_1), (8, (AV.int .i64 (Int.ofNat A0.length))), (9, (AV.bool true)), (10, wA0_1), (11, (elemP wA0_1 0 1)), (12, (AV.int .u8 (Int.ofNat (A0.getD 0 0)))), (13, (AV.bool false)), (14, (AV.int .u8 (Int.ofNat (A0.getD 0 0)))), (15, (AV.bool (ltI (Int.ofNat (A0.getD 0 0)) (Int.ofNat 128)))), (16, (AV.bool false)), (17, (AV.int .u8 (Int.ofNat (A0.getD 0 0)))), (18, (AV.bool (notB (ltI (Int.ofNat (A0.getD 0 0)) (Int.ofNat 194))))), (19, (AV.bool true)), (20, (AV.int .u8 (Int.ofNat (A0.getD 0 0)))), (21, (AV.bool (ltI (Int.ofNat (A0.getD 0 0)) (Int.ofNat 224)))), (22, (AV.bool (ltI (Int.ofNat (A0.getD 0 0)) (Int.ofNat 224)))), (23, (AV.bool true)), (24, (AV.int .u8 (Int.ofNat (A0.getD 0 0)))), (25, (AV.bool (notB (ltI (Int.ofNat (A0.getD 0 0)) (Int.ofNat 224))))), (26, (AV.bool true)), (27, (AV.int .u8 (Int.ofNat (A0.getD 0 0)))), (28, (AV.bool (ltI (Int.ofNat (A0.getD 0 0)) (Int.ofNat 240)))), (29, (AV.bool (ltI (Int.ofNat (A0.getD 0 0)) (Int.ofNat 240)))), (37, (AV.int .i64 (Int.ofNat 3))), (38, (AV.bool false)), (39, (AV.bool false)), (40, wA0_1), (41, (AV.int .i64 (Int.ofNat A0.length))), (42, (AV.int .i64 (Int.ofNat 3))), (43, (AV.bool (ltI (Int.ofNat A0.length) (Int.ofNat 3)))), (44, (AV.bool false)), (45, wA0_1), (46, (elemP wA0_1 0 1)), (47, (AV.int .u8 (Int.ofNat (A0.getD 0 0)))), (48, (AV.int .u32 (Int.ofNat (A0.getD 0 0)))), (49, (AV.int .i64 (Int.ofNat 3))), (50, (AV.bool true)), (51, (AV.int .u32 (Int.ofNat (A0.getD 0 0)))), (52, (AV.int .i64 (Int.ofNat 3))), (53, (AV.int .i64 (Int.ofNat 4))), (54, (AV.int .u32 (Int.ofNat 15))), (55, (AV.int .u32 (Int.ofNat ((A0.getD 0 0) &&& 15))))] t) h = (.ret (ovT [(2, v2o11)] t16) h17) ∧ True ∧ KR [none, some v2o11] h17)))))))))))))))) ∧ (ltI (Int.ofNat (A0.getD 0 0)) (Int.ofNat 240) = false → ((evQ (.move (.const (AV.bool (notB (ltI (Int.ofNat (A0.getD 0 0)) (Int.ofNat 240)))))) .lf H0 = .ok (AV.bool true) ∧ ((ltI (Int.ofNat (A0.getD 0 0)) (Int.ofNat 245) = true → ((evQ (.lenL (.const wA0_1)) .lf H0 = .ok (AV.int .i64 (Int.ofNat A0.length)) ∧ ((ltI (Int.ofNat A0.length) (Int.ofNat 4) = true → KR [some wA0_1, some (AV.bool false)] h) ∧ (ltI (Int.ofNat A0.length) (Int.ofNat 4) = false → ((evQ (.idxAddrSl 1 (.const wA0_1) (.const (AV.int .i64 (Int.ofNat 0)))) .lf H0 = .ok (elemP wA0_1 0 1) ∧ ((evQ (.loadS (.const (elemP wA0_1 0 1))) .lf h = .ok (AV.int .u8 (Int.ofNat (A0.getD 0 0))) ∧ ((evQ (.toInt .u32 (.const (AV.int .u8 (Int.ofNat (A0.getD 0 0))))) .lf H0 = .ok (AV.int .u32 (Int.ofNat (A0.getD 0 0))) ∧ ((evQ (.bin .and (.const (AV.int .u32 (Int.ofNat (A0.getD 0 0)))) (.const (AV.int .u32 (Int.ofNat 7)))) .lf H0 = .ok (AV.int .u32 (Int.ofNat ((A0.getD 0 0) &&& 7))) ∧ ((∃ A2o12 : Bool, ∃ A5o12 : Nat, ∃ A6o12 : Nat, ∃ t15 : T, ∃ h16 : Hp, (evC call N (.loop rutf8_l2C) (ovT [(0, wA0_1), (2, (AV.bool A2)), (3, (AV.int .i64 (Int.ofNat 4))), (4, (AV.int .u8 (Int.ofNat (A0.getD 0 0)))), (5, (AV.int .u32 (Int.ofNat ((A0.getD 0 0) &&& 7)))), (6, (AV.int .i64 (Int.ofNat 1))), (7, wA0_1), (8, (AV.int .i64 (Int.ofNat A0.length))), (9, (AV.bool true)), (10, wA0_1), (11, (elemP wA0_1 0 1)), (12, (AV.int .u8 (Int.ofNat (A0.getD 0 0)))), (13, (AV.bool false)), (14, (AV.int .u8 (Int.ofNat (A0.getD 0 0)))), (15, (AV.bool (ltI (Int.ofNat (A0.getD 0 0)) (Int.ofNat 128)))), (16, (AV.bool false)), (17, (AV.int .u8 (Int.ofNat (A0.getD 0 0)))), (18, (AV.bool (notB (ltI (Int.ofNat (A0.getD 0 0)) (Int.ofNat 194))))), (19, (AV.bool true)), (20, (AV.int .u8 (Int.ofNat (A0.getD 0 0)))), (21, (AV.bool (ltI (Int.ofNat (A0.getD 0 0)) (Int.ofNat 224)))), (22, (AV.bool (ltI (Int.ofNat (A0.getD 0 0)) (Int.ofNat 224)))), (23, (AV.bool false)), (24, (AV.int .u8 (Int.ofNat (A0.getD 0 0)))), (25, (AV.bool (notB (ltI (Int.ofNat (A0.getD 0 0)) (Int.ofNat 224))))), (26, (AV.bool true)), (27, (AV.int .u8 (Int.ofNat (A0.getD 0 0)))), (28, (AV.bool (ltI (Int.ofNat (A0.getD 0 0)) (Int.ofNat 240)))), (29, (AV.bool (ltI (Int.ofNat (A0.getD 0 0)) (Int.ofNat 240)))), (30, (AV.bool true)), (31, (AV.int .u8 (Int.ofNat (A0.getD 0 0)))), (32, (AV.bool (notB (ltI (Int.ofNat (A0.getD 0 0)) (Int.ofNat 240))))), (33, (AV.bool true)), (34, (AV.int .u8 (Int.ofNat (A0.getD 0 0)))), (35, (AV.bool (ltI (Int.ofNat (A0.getD 0 0)) (Int.ofNat 245)))), (36, (AV.bool (ltI (Int.ofNat (A0.getD 0 0)) (Int.ofNat 245)))), (37, (AV.int .i64 (Int.ofNat 4))), (38, (AV.bool false)), (39, (AV.bool false)), (40, wA0_1), (41, (AV.int .i64 (Int.ofNat A0.length))), (42, (AV.int .i64 (Int.ofNat 4))), (43, (AV.bool (ltI (Int.ofNat A0.length) (Int.ofNat 4)))), (44, (AV.bool false)), (45, wA0_1), (46, (elemP wA0_1 0 1)), (47, (AV.int .u8 (Int.ofNat (A0.getD 0 0)))), (48, (AV.int .u32 (Int.ofNat (A0.getD 0 0)))), (49, (AV.int .i64 (Int.ofNat 4))), (50, (AV.bool true)), (51, (AV.int .u32 (Int.ofNat (A0.getD 0 0)))), (52, (AV.int .i64 (Int.ofNat 4))), (53, (AV.int .i64 (Int.ofNat 5))), (54, (AV.int .u32 (Int.ofNat 7))), (55, (AV.int .u32 (Int.ofNat ((A0.getD 0 0) &&& 7))))] t) h = (.exit 3 (ovT [(0, wA0_1), (2, (AV.bool A2o12)), (3, (AV.int .i64 (Int.ofNat 4))), (5, (AV.int .u32 (Int.ofNat A5o12))), (6, (AV.int .i64 (Int.ofNat A6o12)))] t15) h16) ∧ True ∧ ((evQ (.eq .int false (.const (AV.int .i64 (Int.ofNat 4))) (.const (AV.int .i64 (Int.ofNat 3)))) .lf H0 = .ok (AV.bool false) ∧ ((evQ (.eq .int false (.const (AV.int .i64 (Int.ofNat 4))) (.const (AV.int .i64 (Int.ofNat 4)))) .lf H0 = .ok (AV.bool true) ∧ ((ltI (Int.ofNat A5o12) (Int.ofNat 65536) = true → KR [some wA0_1, some (AV.bool false)] h16) ∧ (ltI (Int.ofNat A5o12) (Int.ofNat 65536) = false → ((ltI (Int.ofNat 1114111) (Int.ofNat A5o12) = true → KR [some wA0_1, some (AV.bool false)] h16) ∧ (ltI (Int.ofNat 1114111) (Int.ofNat A5o12) = false → ((evQ (.sliceSl 1 (.const wA0_1) (some (.const (AV.int .i64 (Int.ofNat 4)))) none none) .lf H0 = .ok (partS wA0_1 4 A0.length) ∧ KN [some (partS wA0_1 4 A0.length), some (AV.bool A2o12)] h16)))))))))))) ∨ (∃ y19 : Bool, ∃ v2o12 : AV, ∃ t17 : T, ∃ h18 : Hp, (evC call N (.loop rutf8_l2C) (ovT [(0, wA0_1), (2, (AV.bool A2)), (3, (AV.int .i64 (Int.ofNat 4))), (4, (AV.int .u8 (Int.ofNat (A0.getD 0 0)))), (5, (AV.int .u32 (Int.ofNat ((A0.getD 0 0) &&& 7)))), (6, (AV.int .i64 (Int.ofNat 1))), (7, wA0_1), (8, (AV.int .i64 (Int.ofNat A0.length))), (9, (AV.bool true)), (10, wA0_1), (11, (elemP wA0_1 0 1)), (12, (AV.int .u8 (Int.ofNat (A0.getD 0 0)))), (13, (AV.bool false)), (14, (AV.int .u8 (Int.ofNat (A0.getD 0 0)))), (15, (AV.bool (ltI (Int.ofNat (A0.getD 0 0)) (Int.ofNat 128)))), (16, (AV.bool false)), (17, (AV.int .u8 (Int.ofNat (A0.getD 0 0)))), (18, (AV.bool (notB (ltI (Int.ofNat (A0.getD 0 0)) (Int.ofNat 194))))), (19, (AV.bool true)), (20, (AV.int .u8 (Int.ofNat (A0.getD 0 0)))), (21, (AV.bool (ltI (Int.ofNat (A0.getD 0 0)) (Int.ofNat 224)))), (22, (AV.bool (ltI (Int.ofNat (A0.getD 0 0)) (Int.ofNat 224)))), (23, (AV.bool false)), (24, (AV.int .u8 (Int.ofNat (A0.getD 0 0)))), (25, (AV.bool (notB (ltI (Int.ofNat (A0.getD 0 0)) (Int.ofNat 224))))), (26, (AV.bool true)), (27, (AV.int .u8 (Int.ofNat (A0.getD 0 0)))), (28, (AV.bool (ltI (Int.ofNat (A0.getD 0 0)) (Int.ofNat 240)))), (29, (AV.bool (ltI (Int.ofNat (A0.getD 0 0)) (Int.ofNat 240)))), (30, (AV.bool true)), (31, (AV.int .u8 (Int.ofNat (A0.getD 0 0)))), (32, (AV.bool (notB (ltI (Int.ofNat (A0.getD 0 0)) (Int.ofNat 240))))), (33, (AV.bool true)), (34, (AV.int .u8 (Int.ofNat (A0.getD 0 0)))), (35, (AV.bool (ltI (Int.ofNat (A0.getD 0 0)) (Int.ofNat 245)))), (36, (AV.bool (ltI (Int.ofNat (A0.getD 0 0)) (Int.ofNat 245)))), (37, (AV.int .i64 (Int.ofNat 4))), (38, (AV.bool false)), (39, (AV.bool false)), (40, wA0_1), (41, (AV.int .i64 (Int.ofNat A0.length))), (42, (AV.int .i64 (Int.ofNat 4))), (43, (AV.bool (ltI (Int.ofNat A0.length) (Int.ofNat 4)))), (44, (AV.bool false)), (45, wA0_1), (46, (elemP wA0_1 0 1)), (47, (AV.int .u8 (Int.ofNat (A0.getD 0 0)))), (48, (AV.int .u32 (Int.ofNat (A0.getD 0 0)))), (49, (AV.int .i64 (Int.ofNat 4))), (50, (AV.bool true)), (51, (AV.int .u32 (Int.ofNat (A0.getD 0 0)))), (52, (AV.int .i64 (Int.ofNat 4))), (53, (AV.int .i64 (Int.ofNat 5))), (54, (AV.int .u32 (Int.ofNat 7))), (55, (AV.int .u32 (Int.ofNat ((A0.getD 0 0) &&& 7))))] t) h = (.ret (ovT [(2, v2o12)] t17) h18) ∧ True ∧ KR [none, some v2o12] h18)))))))))))))))) ∧ (ltI (Int.ofNat (A0.getD 0 0)) (Int.ofNat 245) = false → KR [some wA0_1, some (AV.bool false)] h))))))))))) ∧ (notB (ltI (Int.ofNat (A0.getD 0 0)) (Int.ofNat 194)) = false → ((notB (ltI (Int.ofNat (A0.getD 0 0)) (Int.ofNat 224)) = true → ((ltI (Int.ofNat (A0.getD 0 0)) (Int.ofNat 240) = true → ((evQ (.lenL (.const wA0_1)) .lf H0 = .ok (AV.int .i64 (Int.ofNat A0.length)) ∧ ((ltI (Int.ofNat A0.length) (Int.ofNat 3) = true → KR [some wA0_1, some (AV.bool false)] h) ∧ (ltI (Int.ofNat A0.length) (Int.ofNat 3) = false → ((evQ (.idxAddrSl 1 (.const wA0_1) (.const (AV.int .i64 (Int.ofNat 0)))) .lf H0 = .ok (elemP wA0_1 0 1) ∧ ((evQ (.loadS (.const (elemP wA0_1 0 1))) .lf h = .ok (AV.int .u8 (Int.ofNat (A0.getD 0 0))) ∧ ((evQ (.toInt .u32 (.const (AV.int .u8 (Int.ofNat (A0.getD 0 0))))) .lf H0 = .ok (AV.int .u32 (Int.ofNat (A0.getD 0 0))) ∧ ((evQ (.bin .and (.const (AV.int .u32 (Int.ofNat (A0.getD 0 0)))) (.const (AV.int .u32 (Int.ofNat 15)))) .lf H0 = .ok (AV.int .u32 (Int.ofNat ((A0.getD 0 0) &&& 15))) ∧ ((∃ A2o11 : Bool, ∃ A5o11 : Nat, ∃ A6o11 : Nat, ∃ t14 : T, ∃ h15 : Hp, (evC call N (.loop rutf8_l2C) (ovT [(0, wA0_1), (2, (AV.bool A2)), (3, (AV.int .i64 (Int.ofNat 3))), (4, (AV.int .u8 (Int.ofNat (A0.getD 0 0)))), (5, (AV.int .u32 (Int.ofNat ((A0.getD 0 0) &&& 15)))), (6, (AV.int .i64 (Int.ofNat 1))), (7, wA0_1), (8, (AV.int .i64 (Int.ofNat A0.length))), (9, (AV.bool true)), (10, wA0_1), (11, (elemP wA0_1 0 1)), (12, (AV.int .u8 (Int.ofNat (A0.getD 0 0)))), (13, (AV.bool false)), (14, (AV.int .u8 (Int.ofNat (A0.getD 0 0)))), (15, (AV.bool (ltI (Int.ofNat (A0.getD 0 0)) (Int.ofNat 128)))), (16, (AV.bool false)), (17, (AV.int .u8 (Int.ofNat (A0.getD 0 0)))), (18, (AV.bool (notB (ltI (Int.ofNat (A0.getD 0 0)) (Int.ofNat 194))))), (19, (AV.bool false)), (20, (AV.tuple [])), (21, (AV.tuple [])), (22, (AV.bool false)), (23, (AV.bool true)), (24, (AV.int .u8 (Int.ofNat (A0.getD 0 0)))), (25, (AV.bool (notB (ltI (Int.ofNat (A0.getD 0 0)) (Int.ofNat 224))))), (26, (AV.bool true)), (27, (AV.int .u8 (Int.ofNat (A0.getD 0 0)))), (28, (AV.bool (ltI (Int.ofNat (A0.getD 0 0)) (Int.ofNat 240)))), (29, (AV.bool (ltI (Int.ofNat (A0.getD 0 0)) (Int.ofNat 240)))), (37, (AV.int .i64 (Int.ofNat 3))), (38, (AV.bool false)), (39, (AV.bool false)), (40, wA0_1), (41, (AV.int .i64 (Int.ofNat A0.length))), (42, (AV.int .i64 (Int.ofNat 3))), (43, (AV.bool (ltI (Int.ofNat A0.length) (Int.ofNat 3)))), (44, (AV.bool false)), (45, wA0_1), (46, (elemP wA0_1 0 1)), (47, (AV.int .u8 (Int.ofNat (A0.getD 0 0)))), (48, (AV.int .u32 (Int.ofNat (A0.getD 0 0)))), (49, (AV.int .i64 (Int.ofNat 3))), (50, (AV.bool true)), (51, (AV.int .u32 (Int.ofNat (A0.getD 0 0)))), (52, (AV.int .i64 (Int.ofNat 3))), (53, (AV.int .i64 (Int.ofNat 4))), (54, (AV.int .u32 (Int.ofNat 15))), (55, (AV.int .u32 (Int.ofNat ((A0.getD 0 0) &&& 15))))] t) h = (.exit 3 (ovT [(0, wA0_1), (2, (AV.bool A2o11)), (3, (AV.int .i64 (Int.ofNat 3))), (5, (AV.int .u32 (Int.ofNat A5o11))), (6, (AV.int .i64 (Int.ofNat A6o11)))] t14) h15) ∧ True ∧ ((evQ (.eq .int false (.const (AV.int .i64 (Int.ofNat 3))) (.const (AV.int .i64 (Int.ofNat 3)))) .lf H0 = .ok (AV.bool true) ∧ ((ltI (Int.ofNat A5o11) (Int.ofNat 2048) = true → KR [some wA0_1, some (AV.bool false)] h15) ∧ (ltI (Int.ofNat A5o11) (Int.ofNat 2048) = false → ((notB (ltI (Int.ofNat A5o11) (Int.ofNat 55296)) = true → ((ltI (Int.ofNat A5o11) (Int.ofNat 57344) = true → KR [some wA0_1, some (AV.bool false)] h15) ∧ (ltI (Int.ofNat A5o11) (Int.ofNat 57344) = false → ((evQ (.eq .int false (.const (AV.int .i64 (Int.ofNat 3))) (.const (AV.int .i64 (Int.ofNat 4)))) .lf H0 = .ok (AV.bool false) ∧ ((evQ (.sliceSl 1 (.const wA0_1) (some (.const (AV.int .i64 (Int.ofNat 3)))) none none) .lf H0 = .ok (partS wA0_1 3 A0.length) ∧ KN [some (partS wA0_1 3 A0.length), some (AV.bool A2o11)] h15))))))) ∧ (notB (ltI (Int.ofNat A5o11) (Int.ofNat 55296)) = false → ((evQ (.eq .int false (.const (AV.int .i64 (Int.ofNat 3))) (.const (AV.int .i64 (Int.ofNat 4)))) .lf H0 = .ok (AV.bool false) ∧ ((evQ (.sliceSl 1 (.const wA0_1) (some (.const (AV.int .i64 (Int.ofNat 3)))) none none) .lf H0 = .ok (partS wA0_1 3 A0.length) ∧ KN [some (partS wA0_1 3 A0.length), some (AV.bool A2o11)] h15)))))))))))) ∨ (∃ y18 : Bool, ∃ v2o11 : AV, ∃ t16 : T, ∃ h17 : Hp, (evC call N (.loop rutf8_l2C) (ovT [(0, wA0_1), (2, (AV.bool A2)), (3, (AV.int .i64 (Int.ofNat 3))), (4, (AV.int .u8 (Int.ofNat (A0.getD 0 0)))), (5, (AV.int .u32 (Int.ofNat ((A0.getD 0 0) &&& 15)))), (6, (AV.int .i64 (Int.ofNat 1))), (7, wA0_1), (8, (AV.int .i64 (Int.ofNat A0.length))), (9, (AV.bool true)), (10, wA0_1), (11, (elemP wA0_1 0 1)), (12, (AV.int .u8 (Int.ofNat (A0.getD 0 0)))), (13, (AV.bool false)), (14, (AV.int .u8 (Int.ofNat (A0.getD 0 0)))), (15, (AV.bool (ltI (Int.ofNat (A0.getD 0 0)) (Int.ofNat 128)))), (16, (AV.bool false)), (17, (AV.int .u8 (Int.ofNat (A0.getD 0 0)))), (18, (AV.bool (notB (ltI (Int.ofNat (A0.getD 0 0)) (Int.ofNat 194))))), (19, (AV.bool false)), (20, (AV.tuple [])), (21, (AV.tuple [])), (22, (AV.bool false)), (23, (AV.bool true)), (24, (AV.int .u8 (Int.ofNat (A0.getD 0 0)))), (25, (AV.bool (notB (ltI (Int.ofNat (A0.getD 0 0)) (Int.ofNat 224))))), (26, (AV.bool true)), (27, (AV.int .u8 (Int.ofNat (A0.getD 0 0)))), (28, (AV.bool (ltI (Int.ofNat (A0.getD 0 0)) (Int.ofNat 240)))), (29, (AV.bool (ltI (Int.ofNat (A0.getD 0 0)) (Int.ofNat 240)))), (37, (AV.int .i64 (Int.ofNat 3))), (38, (AV.bool false)), (39, (AV.bool false)), (40, wA0_1), (41, (AV.int .i64 (Int.ofNat A0.length))), (42, (AV.int .i64 (Int.ofNat 3))), (43, (AV.bool (ltI (Int.ofNat A0.length) (Int.ofNat 3)))), (44, (AV.bool false)), (45, wA0_1), (46, (elemP wA0_1 0 1)), (47, (AV.int .u8 (Int.ofNat (A0.getD 0 0)))), (48, (AV.int .u32 (Int.ofNat (A0.getD 0 0)))), (49, (AV.int .i64 (Int.ofNat 3))), (50, (AV.bool true)), (51, (AV.int .u32 (Int.ofNat (A0.getD 0 0)))), (52, (AV.int .i64 (Int.ofNat 3))), (53, (AV.int .i64 (Int.ofNat 4))), (54, (AV.int .u32 (Int.ofNat 15))), (55, (AV.int .u32 (Int.ofNat ((A0.getD 0 0) &&& 15))))] t) h = (.ret (ovT [(2, v2o11)] t16) h17) ∧ True ∧ KR [none, some v2o11] h17)))))))))))))))) ∧ (ltI (Int.ofNat (A0.getD 0 0)) (Int.ofNat 240) = false → ((evQ (.move (.const (AV.bool (notB (ltI (Int.ofNat (A0.getD 0 0)) (Int.ofNat 240)))))) .lf H0 = .ok (AV.bool true) ∧ ((ltI (Int.ofNat (A0.getD 0 0)) (Int.ofNat 245) = true → ((evQ (.lenL (.const wA0_1)) .lf H0 = .ok (AV.int .i64 (Int.ofNat A0.length)) ∧ ((ltI (Int.ofNat A0.length) (Int.ofNat 4) = true → KR [some wA0_1, some (AV.bool false)] h) ∧ (ltI (Int.ofNat A0.length) (Int.ofNat 4) = false → ((evQ (.idxAddrSl 1 (.const wA0_1) (.const (AV.int .i64 (Int.ofNat 0)))) .lf H0 = .ok (elemP wA0_1 0 1) ∧ ((evQ (.loadS (.const (elemP wA0_1 0 1))) .lf h = .ok (AV.int .u8 (Int.ofNat (A0.getD 0 0))) ∧ ((evQ (.toInt .u32 (.const (AV.int .u8 (Int.ofNat (A0.getD 0 0))))) .lf H0 = .ok (AV.int .u32 (Int.ofNat (A0.getD 0 0))) ∧ ((evQ (.bin .and (.const (AV.int .u32 (Int.ofNat (A0.getD 0 0)))) (.const (AV.int .u32 (Int.ofNat 7)))) .lf H0 = .ok (AV.int .u32 (Int.ofNat ((A0.getD 0 0) &&& 7))) ∧ ((∃ A2o12 : Bool, ∃ A5o12 : Nat, ∃ A6o12 : Nat, ∃ t15 : T, ∃ h16 : Hp, (evC call N (.loop rutf8_l2C) (ovT [(0, wA0_1), (2, (AV.bool A2)), (3, (AV.int .i64 (Int.ofNat 4))), (4, (AV.int .u8 (Int.ofNat (A0.getD 0 0)))), (5, (AV.int .u32 (Int.ofNat ((A0.getD 0 0) &&& 7)))), (6, (AV.int .i64 (Int.ofNat 1))), (7, wA0_1), (8, (AV.int .i64 (Int.ofNat A0.length))), (9, (AV.bool true)), (10, wA0_1), (11, (elemP wA0_1 0 1)), (12, (AV.int .u8 (Int.ofNat (A0.getD 0 0)))), (13, (AV.bool false)), (14, (AV.int .u8 (Int.ofNat (A0.getD 0 0)))), (15, (AV.bool (ltI (Int.ofNat (A0.getD 0 0)) (Int.ofNat 128)))), (16, (AV.bool false)), (17, (AV.int .u8 (Int.ofNat (A0.getD 0 0)))), (18, (AV.bool (notB (ltI (Int.ofNat (A0.getD 0 0)) (Int.ofNat 194))))), (19, (AV.bool false)), (20, (AV.tuple [])), (21, (AV.tuple [])), (22, (AV.bool false)), (23, (AV.bool false)), (24, (AV.int .u8 (Int.ofNat (A0.getD 0 0)))), (25, (AV.bool (notB (ltI (Int.ofNat (A0.getD 0 0)) (Int.ofNat 224))))), (26, (AV.bool true)), (27, (AV.int .u8 (Int.ofNat (A0.getD 0 0)))), (28, (AV.bool (ltI (Int.ofNat (A0.getD 0 0)) (Int.ofNat 240)))), (29, (AV.bool (ltI (Int.ofNat (A0.getD 0 0)) (Int.ofNat 240)))), (30, (AV.bool true)), (31, (AV.int .u8 (Int.ofNat (A0.getD 0 0)))), (32, (AV.bool (notB (ltI (Int.ofNat (A0.getD 0 0)) (Int.ofNat 240))))), (33, (AV.bool true)), (34, (AV.int .u8 (Int.ofNat (A0.getD 0 0)))), (35, (AV.bool (ltI (Int.ofNat (A0.getD 0 0)) (Int.ofNat 245)))), (36, (AV.bool (ltI (Int.ofNat (A0.getD 0 0)) (Int.ofNat 245)))), (37, (AV.int .i64 (Int.ofNat 4))), (38, (AV.bool false)), (39, (AV.bool false)), (40, wA0_1), (41, (AV.int .i64 (Int.ofNat A0.length))), (42, (AV.int .i64 (Int.ofNat 4))), (43, (AV.bool (ltI (Int.ofNat A0.length) (Int.ofNat 4)))), (44, (AV.bool false)), (45, wA0_1), (46, (elemP wA0_1 0 1)), (47, (AV.int .u8 (Int.ofNat (A0.getD 0 0)))), (48, (AV.int .u32 (Int.ofNat (A0.getD 0 0)))), (49, (AV.int .i64 (Int.ofNat 4))), (50, (AV.bool true)), (51, (AV.int .u32 (Int.ofNat (A0.getD 0 0)))), (52, (AV.int .i64 (Int.ofNat 4))), (53, (AV.int .i64 (Int.ofNat 5))), (54, (AV.int .u32 (Int.ofNat 7))), (55, (AV.int .u32 (Int.ofNat ((A0.getD 0 0) &&& 7))))] t) h = (.exit 3 (ovT [(0, wA0_1), (2, (AV.bool A2o12)), (3, (AV.int .i64 (Int.ofNat 4))), (5, (AV.int .u32 (Int.ofNat A5o12))), (6, (AV.int .i64 (Int.ofNat A6o12)))] t15) h16) ∧ True ∧ ((evQ (.eq .int false (.const (AV.int .i64 (Int.ofNat 4))) (.const (AV.int .i64 (Int.ofNat 3)))) .lf H0 = .ok (AV.bool false) ∧ ((evQ (.eq .int false (.const (AV.int .i64 (Int.ofNat 4))) (.const (AV.int .i64 (Int.ofNat 4)))) .lf H0 = .ok (AV.bool true) ∧ ((ltI (Int.ofNat A5o12) (Int.ofNat 65536) = true → KR [some wA0_1, some (AV.bool false)] h16) ∧ (ltI (Int.ofNat A5o12) (Int.ofNat 65536) = false → ((ltI (Int.ofNat 1114111) (Int.ofNat A5o12) = true → KR [some wA0_1, some (AV.bool false)] h16) ∧ (ltI (Int.ofNat 1114111) (Int.ofNat A5o12) = false → ((evQ (.sliceSl 1 (.const wA0_1) (some (.const (AV.int .i64 (Int.ofNat 4)))) none none) .lf H0 = .ok (partS wA0_1 4 A0.length) ∧ KN [some (partS wA0_1 4 A0.length), some (AV.bool A2o12)] h16)))))))))))) ∨ (∃ y19 : Bool, ∃ v2o12 : AV, ∃ t17 : T, ∃ h18 : Hp, (evC call N (.loop rutf8_l2C) (ovT [(0, wA0_1), (2, (AV.bool A2)), (3, (AV.int .i64 (Int.ofNat 4))), (4, (AV.int .u8 (Int.ofNat (A0.getD 0 0)))), (5, (AV.int .u32 (Int.ofNat ((A0.getD 0 0) &&& 7)))), (6, (AV.int .i64 (Int.ofNat 1))), (7, wA0_1), (8, (AV.int .i64 (Int.ofNat A0.length))), (9, (AV.bool true)), (10, wA0_1), (11, (elemP wA0_1 0 1)), (12, (AV.int .u8 (Int.ofNat (A0.getD 0 0)))), (13, (AV.bool false)), (14, (AV.int .u8 (Int.ofNat (A0.getD 0 0)))), (15, (AV.bool (ltI (Int.ofNat (A0.getD 0 0)) (Int.ofNat 128)))), (16, (AV.bool false)), (17, (AV.int .u8 (Int.ofNat (A0.getD 0 0)))), (18, (AV.bool (notB (ltI (Int.ofNat (A0.getD 0 0)) (Int.ofNat 194))))), (19, (AV.bool false)), (20, (AV.tuple [])), (21, (AV.tuple [])), (22, (AV.bool false)), (23, (AV.bool false)), (24, (AV.int .u8 (Int.ofNat (A0.getD 0 0)))), (25, (AV.bool (notB (ltI (Int.ofNat (A0.getD 0 0)) (Int.ofNat 224))))), (26, (AV.bool true)), (27, (AV.int .u8 (Int.ofNat (A0.getD 0 0)))), (28, (AV.bool (ltI (Int.ofNat (A0.getD 0 0)) (Int.ofNat 240)))), (29, (AV.bool (ltI (Int.ofNat (A0.getD 0 0)) (Int.ofNat 240)))), (30, (AV.bool true)), (31, (AV.int .u8 (Int.ofNat (A0.getD 0 0)))), (32, (AV.bool (notB (ltI (Int.ofNat (A0.getD 0 0)) (Int.ofNat 240))))), (33, (AV.bool true)), (34, (AV.int .u8 (Int.ofNat (A0.getD 0 0)))), (35, (AV.bool (ltI (Int.ofNat (A0.getD 0 0)) (Int.ofNat 245)))), (36, (AV.bool (ltI (Int.ofNat (A0.getD 0 0)) (Int.ofNat 245)))), (37, (AV.int .i64 (Int.ofNat 4))), (38, (AV.bool false)), (39, (AV.bool false)), (40, wA0_1), (41, (AV.int .i64 (Int.ofNat A0.length))), (42, (AV.int .i64 (Int.ofNat 4))), (43, (AV.bool (ltI (Int.ofNat A0.length) (Int.ofNat 4)))), (44, (AV.bool false)), (45, wA0_1), (46, (elemP wA0_1 0 1)), (47, (AV.int .u8 (Int.ofNat (A0.getD 0 0)))), (48, (AV.int .u32 (Int.ofNat (A0.getD 0 0)))), (49, (AV.int .i64 (Int.ofNat 4))), (50, (AV.bool true)), (51, (AV.int .u32 (Int.ofNat (A0.getD 0 0)))), (52, (AV.int .i64 (Int.ofNat 4))), (53, (AV.int .i64 (Int.ofNat 5))), (54, (AV.int .u32 (Int.ofNat 7))), (55, (AV.int .u32 (Int.ofNat ((A0.getD 0 0) &&& 7))))] t) h = (.ret (ovT [(2, v2o12)] t17) h18) ∧ True ∧ KR [none, some v2o12] h18)))))))))))))))) ∧ (ltI (Int.ofNat (A0.getD 0 0)) (Int.ofNat 245) = false → KR [some wA0_1, some (AV.bool false)] h))))))) ∧ (notB (ltI (Int.ofNat (A0.getD 0 0)) (Int.ofNat 224)) = false → ((notB (ltI (Int.ofNat (A0.getD 0 0)) (Int.ofNat 240)) = true → ((ltI (Int.ofNat (A0.getD 0 0)) (Int.ofNat 245) = true → ((evQ (.lenL (.const wA0_1)) .lf H0 = .ok (AV.int .i64 (Int.ofNat A0.length)) ∧ ((ltI (Int.ofNat A0.length) (Int.ofNat 4) = true → KR [some wA0_1, some (AV.bool false)] h) ∧ (ltI (Int.ofNat A0.length) (Int.ofNat 4) = false → ((evQ (.idxAddrSl 1 (.const wA0_1) (.const (AV.int .i64 (Int.ofNat 0)))) .lf H0 = .ok (elemP wA0_1 0 1) ∧ ((evQ (.loadS (.const (elemP wA0_1 0 1))) .lf h = .ok (AV.int .u8 (Int.ofNat (A0.getD 0 0))) ∧ ((evQ (.toInt .u32 (.const (AV.int .u8 (Int.ofNat (A0.getD 0 0))))) .lf H0 = .ok (AV.int .u32 (Int.ofNat (A0.getD 0 0))) ∧ ((evQ (.bin .and (.const (AV.int .u32 (Int.ofNat (A0.getD 0 0)))) (.const (AV.int .u32 (Int.ofNat 7)))) .lf H0 = .ok (AV.int .u32 (Int.ofNat ((A0.getD 0 0) &&& 7))) ∧ ((∃ A2o12 : Bool, ∃ A5o12 : Nat, ∃ A6o12 : Nat, ∃ t15 : T, ∃ h16 : Hp, (evC call N (.loop rutf8_l2C) (ovT [(0, wA0_1), (2, (AV.bool A2)), (3, (AV.int .i64 (Int.ofNat 4))), (4, (AV.int .u8 (Int.ofNat (A0.getD 0 0)))), (5, (AV.int .u32 (Int.ofNat ((A0.getD 0 0) &&& 7)))), (6, (AV.int .i64 (Int.ofNat 1))), (7, wA0_1), (8, (AV.int .i64 (Int.ofNat A0.length))), (9, (AV.bool true)), (10, wA0_1), (11, (elemP wA0_1 0 1)), (12, (AV.int .u8 (Int.ofNat (A0.getD 0 0)))), (13, (AV.bool false)), (14, (AV.int .u8 (Int.ofNat (A0.getD 0 0)))), (15, (AV.bool (ltI (Int.ofNat (A0.getD 0 0)) (Int.ofNat 128)))), (16, (AV.bool false)), (17, (AV.int .u8 (Int.ofNat (A0.getD 0 0)))), (18, (AV.bool (notB (ltI (Int.ofNat (A0.getD 0 0)) (Int.ofNat 194))))), (19, (AV.bool false)), (20, (AV.tuple [])), (21, (AV.tuple [])), (22, (AV.bool false)), (23, (AV.bool false)), (24, (AV.int .u8 (Int.ofNat (A0.getD 0 0)))), (25, (AV.bool (notB (ltI (Int.ofNat (A0.getD 0 0)) (Int.ofNat 224))))), (26, (AV.bool false)), (27, (AV.tuple [])), (28, (AV.tuple [])), (29, (AV.bool false)), (30, (AV.bool true)), (31, (AV.int .u8 (Int.ofNat (A0.getD 0 0)))), (32, (AV.bool (notB (ltI (Int.ofNat (A0.getD 0 0)) (Int.ofNat 240))))), (33, (AV.bool true)), (34, (AV.int .u8 (Int.ofNat (A0.getD 0 0)))), (35, (AV.bool (ltI (Int.ofNat (A0.getD 0 0)) (Int.ofNat 245)))), (36, (AV.bool (ltI (Int.ofNat (A0.getD 0 0)) (Int.ofNat 245)))), (37, (AV.int .i64 (Int.ofNat 4))), (38, (AV.bool false)), (39, (AV.bool false)), (40, wA0_1), (41, (AV.int .i64 (Int.ofNat A0.length))), (42, (AV.int .i64 (Int.ofNat 4))), (43, (AV.bool (ltI (Int.ofNat A0.length) (Int.ofNat 4)))), (44, (AV.bool false)), (45, wA0_1), (46, (elemP wA0_1 0 1)), (47, (AV.int .u8 (Int.ofNat (A0.getD 0 0)))), (48, (AV.int .u32 (Int.ofNat (A0.getD 0 0)))), (49, (AV.int .i64 (Int.ofNat 4))), (50, (AV.bool true)), (51, (AV.int .u32 (Int.ofNat (A0.getD 0 0)))), (52, (AV.int .i64 (Int.ofNat 4))), (53, (AV.int .i64 (Int.ofNat 5))), (54, (AV.int .u32 (Int.ofNat 7))), (55, (AV.int .u32 (Int.ofNat ((A0.getD 0 0) &&& 7))))] t) h = (.exit 3 (ovT [(0, wA0_1), (2, (AV.bool A2o12)), (3, (AV.int .i64 (Int.ofNat 4))), (5, (AV.int .u32 (Int.ofNat A5o12))), (6, (AV.int .i64 (Int.ofNat A6o12)))] t15) h16) ∧ True ∧ ((evQ (.eq .int false (.const (AV.int .i64 (Int.ofNat 4))) (.const (AV.int .i64 (Int.ofNat 3)))) .lf H0 = .ok (AV.bool false) ∧ ((evQ (.eq .int false (.const (AV.int .i64 (Int.ofNat 4))) (.const (AV.int .i64 (Int.ofNat 4)))) .lf H0 = .ok (AV.bool true) ∧ ((ltI (Int.ofNat A5o12) (Int.ofNat 65536) = true → KR [some wA0_1, some (AV.bool false)] h16) ∧ (ltI (Int.ofNat A5o12) (Int.ofNat 65536) = false → ((ltI (Int.ofNat 1114111) (Int.ofNat A5o12) = true → KR [some wA0_1, some (AV.bool false)] h16) ∧ (ltI (Int.ofNat 1114111) (Int.ofNat A5o12) = false → ((evQ (.sliceSl 1 (.const wA0_1) (some (.const (AV.int .i64 (Int.ofNat 4)))) none none) .lf H0 = .ok (partS wA0_1 4 A0.length) ∧ KN [some (partS wA0_1 4 A0.length), some (AV.bool A2o12)] h16)))))))))))) ∨ (∃ y19 : Bool, ∃ v2o12 : AV, ∃ t17 : T, ∃ h18 : Hp, (evC call N (.loop rutf8_l2C) (ovT [(0, wA0_1), (2, (AV.bool A2)), (3, (AV.int .i64 (Int.ofNat 4))), (4, (AV.int .u8 (Int.ofNat (A0.getD 0 0)))), (5, (AV.int .u32 (Int.ofNat ((A0.getD 0 0) &&& 7)))), (6, (AV.int .i64 (Int.ofNat 1))), (7, wA0_1), (8, (AV.int .i64 (Int.ofNat A0.length))), (9, (AV.bool true)), (10, wA0_1), (11, (elemP wA0_1 0 1)), (12, (AV.int .u8 (Int.ofNat (A0.getD 0 0)))), (13, (AV.bool false)), (14, (AV.int .u8 (Int.ofNat (A0.getD 0 0)))), (15, (AV.bool (ltI (Int.ofNat (A0.getD 0 0)) (Int.ofNat 128)))), (16, (AV.bool false)), (17, (AV.int .u8 (Int.ofNat (A0.getD 0 0)))), (18, (AV.bool (notB (ltI (Int.ofNat (A0.getD 0 0)) (Int.ofNat 194))))), (19, (AV.bool false)), (20, (AV.tuple [])), (21, (AV.tuple [])), (22, (AV.bool false)), (23, (AV.bool false)), (24, (AV.int .u8 (Int.ofNat (A0.getD 0 0)))), (25, (AV.bool (notB (ltI (Int.ofNat (A0.getD 0 0)) (Int.ofNat 224))))), (26, (AV.bool false)), (27, (AV.tuple [])), (28, (AV.tuple [])), (29, (AV.bool false)), (30, (AV.bool true)), (31, (AV.int .u8 (Int.ofNat (A0.getD 0 0)))), (32, (AV.bool (notB (ltI (Int.ofNat (A0.getD 0 0)) (Int.ofNat 240))))), (33, (AV.bool true)), (34, (AV.int .u8 (Int.ofNat (A0.getD 0 0)))), (35, (AV.bool (ltI (Int.ofNat (A0.getD 0 0)) (Int.ofNat 245)))), (36, (AV.bool (ltI (Int.ofNat (A0.getD 0 0)) (Int.ofNat 245)))), (37, (AV.int .i64 (Int.ofNat 4))), (38, (AV.bool false)), (39, (AV.bool false)), (40, wA0_1), (41, (AV.int .i64 (Int.ofNat A0.length))), (42, (AV.int .i64 (Int.ofNat 4))), (43, (AV.bool (ltI (Int.ofNat A0.length) (Int.ofNat 4)))), (44, (AV.bool false)), (45, wA0_1), (46, (elemP wA0_1 0 1)), (47, (AV.int .u8 (Int.ofNat (A0.getD 0 0)))), (48, (AV.int .u32 (Int.ofNat (A0.getD 0 0)))), (49, (AV.int .i64 (Int.ofNat 4))), (50, (AV.bool true)), (51, (AV.int .u32 (Int.ofNat (A0.getD 0 0)))), (52, (AV.int .i64 (Int.ofNat 4))), (53, (AV.int .i64 (Int.ofNat 5))), (54, (AV.int .u32 (Int.ofNat 7))), (55, (AV.int .u32 (Int.ofNat ((A0.getD 0 0) &&& 7))))] t) h = (.ret (ovT [(2, v2o12)] t17) h18) ∧ True ∧ KR [none, some v2o12] h18)))))))))))))))) ∧ (ltI (Int.ofNat (A0.getD 0 0)) (Int.ofNat 245) = false → KR [some wA0_1, some (AV.bool false)] h))) ∧ (notB (ltI (Int.ofNat (A0.getD 0 0)) (Int.ofNat 240)) = false → KR [some wA0_1, some (AV.bool false)] h))))))))))))) ∧ (ltI (Int.ofNat 0) (Int.ofNat A0.length) = false → KE 0 [some wA0_1, some (AV.bool A2)] h))))) (fun ls h' => ∃ y, ls = ((fun (z : Nat × List Nat × Bool × AV) => [(0, z.2.2.2), (2, (AV.bool z.2.2.1))]) y).map (fun p => some p.2) ∧ (fun (z : Nat × List Nat × Bool × AV) (h' : Hp) => rutf8_l1  z.1 z.2.1 z.2.2.1 = some o ∧ (BIn G h0 z.2.2.2 z.2.1) ∧ Eng.Sep [Frz G h0] h') y h' ∧ (fun (z : Nat × List Nat × Bool × AV) => z.1) y < (fun (z : Nat × List Nat × Bool × AV) => z.1) (n, A0, A2, wA0_1)) (fun i ls h' => ∃ y, ls = ((fun (z : Nat × List Nat × Bool × AV) => [(0, z.2.2.2), (2, (AV.bool z.2.2.1))]) y).map (fun p => some p.2) ∧ (fun (i : Nat) (z : Nat × List Nat × Bool × AV) (h' : Hp) => (i = 0) ∧ (i = 0 → o = LO.ex (z.2.1, z.2.2.1) ∧ (BIn G h0 z.2.2.2 z.2.1) ∧ Eng.Sep [Frz G h0] h')) i y h') (fun ls h' => (fun (ls : List (Option AV)) (h' : Hp) => ∃ (rt : Bool) (v2 : AV), o = LO.rt rt ∧ ls[1]? = some (some v2) ∧ (v2 = (AV.bool rt) ∧ Eng.Sep (Frz G h0 :: []) h')) ls h')) (by kernel_rfl) ?_
  refine ⟨q_len (BIn.now S (i := 0) rfl fA0_2), ?_⟩
  refine ⟨fun c1 => ?_, fun c1 => ?_⟩
  · replace c1 := ltI_t c1
    replace hp := ift hp c1
    refine ⟨q_idxB (l := A0) (BIn.now S (i := 0) rfl fA0_2) c1, ?_⟩
    refine ⟨q_byte (l := A0) (BIn.now S (i := 0) rfl fA0_2) c1, ?_⟩
    refine ⟨fun c3 => ?_, fun c3 => ?_⟩
    · replace c3 := ltI_t c3
      replace hp := ift hp c3
      refine ⟨q_len (BIn.now S (i := 0) rfl fA0_2), ?_⟩
      refine ⟨fun c4 => ?_, fun c4 => ?_⟩
      · replace c4 := ltI_t c4
        replace hp := ift hp c4
        refine ⟨_, (AV.bool false), (Option.some.inj hp).symm, rfl, ?_⟩
        exact ⟨rfl, S⟩
      replace c4 := ltI_f c4
      replace hp := iff0 hp (nltO c4)
      refine ⟨q_idxB (l := A0) (BIn.now S (i := 0) rfl fA0_2) c1, ?_⟩
      refine ⟨q_byte (l := A0) (BIn.now S (i := 0) rfl fA0_2) c1, ?_⟩
      have x5 : A0.getD 0 0 < 256 := getD_lt (BIn.now S (i := 0) rfl fA0_2).lt 0
      refine ⟨u_conv' rfl (Nat.lt_of_lt_of_le x5 (by decide)), ?_⟩
      have g6 : A0.getD 0 0 < 4294967296 := Nat.lt_of_lt_of_le x5 (by decide)
      have ⟨o7, hb8, hp⟩ := ob_inv hp
      rcases rutf8_l2_t fA0_2  (o := o7) (B0 := A0) (B3 := 1) (n := 90000) (A2 := A2) (A5 := A0.getD 0 0) (A6 := 1) ⟨hb8, g6, S⟩ hN hN (t := (ovT [(0, wA0_1), (2, (AV.bool A2)), (3, (AV.int .i64 (Int.ofNat 1))), (4, (AV.int .u8 (Int.ofNat (A0.getD 0 0)))), (5, (AV.int .u32 (Int.ofNat (A0.getD 0 0)))), (6, (AV.int .i64 (Int.ofNat 1))), (7, wA0_1), (8, (AV.int .i64 (Int.ofNat A0.length))), (9, (AV.bool true)), (10, wA0_1), (11, (elemP wA0_1 0 1)), (12, (AV.int .u8 (Int.ofNat (A0.getD 0 0)))), (13, (AV.bool true)), (14, (AV.int .u8 (Int.ofNat (A0.getD 0 0)))), (15, (AV.bool (ltI (Int.ofNat (A0.getD 0 0)) (Int.ofNat 128)))), (37, (AV.int .i64 (Int.ofNat 1))), (38, (AV.bool false)), (39, (AV.bool false)), (40, wA0_1), (41, (AV.int .i64 (Int.ofNat A0.length))), (42, (AV.int .i64 (Int.ofNat 1))), (43, (AV.bool (ltI (Int.ofNat A0.length) (Int.ofNat 1)))), (44, (AV.bool false)), (45, wA0_1), (46, (elemP wA0_1 0 1)), (47, (AV.int .u8 (Int.ofNat (A0.getD 0 0)))), (48, (AV.int .u32 (Int.ofNat (A0.getD 0 0)))), (49, (AV.int .i64 (Int.ofNat 1))), (50, (AV.bool false))] t)) (show slots [0, 2, 3, 5, 6] _ = [some wA0_1, some (AV.bool A2), some (AV.int .i64 (Int.ofNat 1)), some (AV.int .u32 (Int.ofNat (A0.getD 0 0))), some (AV.int .i64 (Int.ofNat 1))] by kernel_rfl) with ⟨io7, ⟨_, A2o7, A5o7, A6o7⟩, t10, h11, qo7, wo7, zo7⟩ | ⟨t12, h13, qo7, zo7⟩
      · obtain ⟨jo7, zo7⟩ := zo7
        subst jo7
        replace zo7 := zo7 rfl
        obtain ⟨uo7, fA5_1o7, So7⟩ := zo7
        replace uo7 := uo7.symm
        subst uo7
        replace hp := LO.on_ex.symm.trans hp
        try dsimp only at hp
        refine Or.inl ⟨A2o7, A5o7, A6o7, t10, h11, (qo7.trans (congrArg (fun t => RS.exit 3 t h11) (ovT_eq wo7).symm)), trivial, ?_⟩
        refine ⟨congrArg (fun z => OV.ok (AV.bool z)) (eqI_false (a := 1) (b := 3) (by omega)), ?_⟩
        refine ⟨congrArg (fun z => OV.ok (AV.bool z)) (eqI_false (a := 1) (b := 4) (by omega)), ?_⟩
        refine ⟨q_sliceFrom (l := A0) (BIn.now So7 (i := 0) rfl fA0_2) c4, ?_⟩
        have b15 := BIn.from (l := A0) (lo := 1) fA0_2 c4
        refine ⟨(m, A0.drop 1, A2o7, (partS wA0_1 1 A0.length)), rfl, ⟨hp, b15, So7⟩, by show m < n; omega⟩
      obtain ⟨y14, v2o7, uo7, go7_2, Ko7⟩ := zo7
      replace uo7 := uo7.symm
      subst uo7
      replace go7_2 : tget (pathOf 2) t12 = some v2o7 := Option.some.inj go7_2
      replace hp := LO.on_rt.symm.trans hp
      try dsimp only at hp
      refine Or.inr ⟨y14, v2o7, t12, h13, (qo7.trans (congrArg (fun t => RS.ret t h13) (ovT_eq (l := [(2, v2o7)]) (by show [tget (pathOf 2) t12] = _; rw [go7_2]; rfl)).symm)), trivial, ?_⟩
      refine ⟨_, v2o7, (Option.some.inj hp).symm, rfl, ?_⟩
      exact Ko7
    replace c3 := ltI_f c3
    replace hp := iff0 hp (nltO c3)
    refine ⟨fun c4 => ?_, fun c4 => ?_⟩
    · replace c4 := ltI_f (notB_t c4)
      replace hp := ift hp c4
      refine ⟨fun c5 => ?_, fun c5 => ?_⟩
      · replace c5 := ltI_t c5
        replace hp := ift hp c5
        refine ⟨q_len (BIn.now S (i := 0) rfl fA0_2), ?_⟩
        refine ⟨fun c6 => ?_, fun c6 => ?_⟩
        · replace c6 := ltI_t c6
          replace hp := ift hp c6
          refine ⟨_, (AV.bool false), (Option.some.inj hp).symm, rfl, ?_⟩
          exact ⟨rfl, S⟩
        replace c6 := ltI_f c6
        replace hp := iff0 hp (nltO c6)
        refine ⟨q_idxB (l := A0) (BIn.now S (i := 0) rfl fA0_2) c1, ?_⟩
        refine ⟨q_byte (l := A0) (BIn.now S (i := 0) rfl fA0_2) c1, ?_⟩
        have x7 : A0.getD 0 0 < 256 := getD_lt (BIn.now S (i := 0) rfl fA0_2).lt 0
        refine ⟨u_conv' rfl (Nat.lt_of_lt_of_le x7 (by decide)), ?_⟩
        have g8 : A0.getD 0 0 < 4294967296 := Nat.lt_of_lt_of_le x7 (by decide)
        refine ⟨u_and rfl g8 (show 31 < 4294967296 by decide), ?_⟩
        have g9 : (A0.getD 0 0) &&& 31 < 4294967296 := Nat.lt_of_le_of_lt Nat.and_le_left g8
        have ⟨o10, hb11, hp⟩ := ob_inv hp
        rcases rutf8_l2_t fA0_2  (o := o10) (B0 := A0) (B3 := 2) (n := 90000) (A2 := A2) (A5 := (A0.getD 0 0) &&& 31) (A6 := 1) ⟨hb11, g9, S⟩ hN hN (t := (ovT [(0, wA0_1), (2, (AV.bool A2)), (3, (AV.int .i64 (Int.ofNat 2))), (4, (AV.int .u8 (Int.ofNat (A0.getD 0 0)))), (5, (AV.int .u32 (Int.ofNat ((A0.getD 0 0) &&& 31)))), (6, (AV.int .i64 (Int.ofNat 1))), (7, wA0_1), (8, (AV.int .i64 (Int.ofNat A0.length))), (9, (AV.bool true)), (10, wA0_1), (11, (elemP wA0_1 0 1)), (12, (AV.int .u8 (Int.ofNat (A0.getD 0 0)))), (13, (AV.bool false)), (14, (AV.int .u8 (Int.ofNat (A0.getD 0 0)))), (15, (AV.bool (ltI (Int.ofNat (A0.getD 0 0)) (Int.ofNat 128)))), (16, (AV.bool true)), (17, (AV.int .u8 (Int.ofNat (A0.getD 0 0)))), (18, (AV.bool (notB (ltI (Int.ofNat (A0.getD 0 0)) (Int.ofNat 194))))), (19, (AV.bool true)), (20, (AV.int .u8 (Int.ofNat (A0.getD 0 0)))), (21, (AV.bool (ltI (Int.ofNat (A0.getD 0 0)) (Int.ofNat 224)))), (22, (AV.bool (ltI (Int.ofNat (A0.getD 0 0)) (Int.ofNat 224)))), (37, (AV.int .i64 (Int.ofNat 2))), (38, (AV.bool false)), (39, (AV.bool false)), (40, wA0_1), (41, (AV.int .i64 (Int.ofNat A0.length))), (42, (AV.int .i64 (Int.ofNat 2))), (43, (AV.bool (ltI (Int.ofNat A0.length) (Int.ofNat 2)))), (44, (AV.bool false)), (45, wA0_1), (46, (elemP wA0_1 0 1)), (47, (AV.int .u8 (Int.ofNat (A0.getD 0 0)))), (48, (AV.int .u32 (Int.ofNat (A0.getD 0 0)))), (49, (AV.int .i64 (Int.ofNat 2))), (50, (AV.bool true)), (51, (AV.int .u32 (Int.ofNat (A0.getD 0 0)))), (52, (AV.int .i64 (Int.ofNat 2))), (53, (AV.int .i64 (Int.ofNat 3))), (54, (AV.int .u32 (Int.ofNat 31))), (55, (AV.int .u32 (Int.ofNat ((A0.getD 0 0) &&& 31))))] t)) (show slots [0, 2, 3, 5, 6] _ = [some wA0_1, some (AV.bool A2), some (AV.int .i64 (Int.ofNat 2)), some (AV.int .u32 (Int.ofNat ((A0.getD 0 0) &&& 31))), some (AV.int .i64 (Int.ofNat 1))] by kernel_rfl) with ⟨io10, ⟨_, A2o10, A5o10, A6o10⟩, t13, h14, qo10, wo10, zo10⟩ | ⟨t15, h16, qo10, zo10⟩
        · obtain ⟨jo10, zo10⟩ := zo10
          subst jo10
          replace zo10 := zo10 rfl
          obtain ⟨uo10, fA5_1o10, So10⟩ := zo10
          replace uo10 := uo10.symm
          subst uo10
          replace hp := LO.on_ex.symm.trans hp
          try dsimp only at hp
          refine Or.inl ⟨A2o10, A5o10, A6o10, t13, h14, (qo10.trans (congrArg (fun t => RS.exit 3 t h14) (ovT_eq wo10).symm)), trivial, ?_⟩
          refine ⟨congrArg (fun z => OV.ok (AV.bool z)) (eqI_false (a := 2) (b := 3) (by omega)), ?_⟩
          refine ⟨congrArg (fun z => OV.ok (AV.bool z)) (eqI_false (a := 2) (b := 4) (by omega)), ?_⟩
          refine ⟨q_sliceFrom (l := A0) (BIn.now So10 (i := 0) rfl fA0_2) c6, ?_⟩
          have b18 := BIn.from (l := A0) (lo := 2) fA0_2 c6
          refine ⟨(m, A0.drop 2, A2o10, (partS wA0_1 2 A0.length)), rfl, ⟨hp, b18, So10⟩, by show m < n; omega⟩
        obtain ⟨y17, v2o10, uo10, go10_2, Ko10⟩ := zo10
        replace uo10 := uo10.symm
        subst uo10
        replace go10_2 : tget (pathOf 2) t15 = some v2o10 := Option.some.inj go10_2
        replace hp := LO.on_rt.symm.trans hp
        try dsimp only at hp
        refine Or.inr ⟨y17, v2o10, t15, h16, (qo10.trans (congrArg (fun t => RS.ret t h16) (ovT_eq (l := [(2, v2o10)]) (by show [tget (pathOf 2) t15] = _; rw [go10_2]; rfl)).symm)), trivial, ?_⟩
        refine ⟨_, v2o10, (Option.some.inj hp).symm, rfl, ?_⟩
        exact Ko10
      have rc5 := c5
      replace c5 := ltI_f c5
      replace hp := iff0 hp (nltO c5)
      refine ⟨congrArg (fun z => OV.ok (AV.bool (notB z))) (rc5), ?_⟩
      refine ⟨fun c6 => ?_, fun c6 => ?_⟩
      · replace c6 := ltI_t c6
        replace hp := ift hp c6
        refine ⟨q_len (BIn.now S (i := 0) rfl fA0_2), ?_⟩
        refine ⟨fun c7 => ?_, fun c7 => ?_⟩
        · replace c7 := ltI_t c7
          replace hp := ift hp c7
          refine ⟨_, (AV.bool false), (Option.some.inj hp).symm, rfl, ?_⟩
          exact ⟨rfl, S⟩
        replace c7 := ltI_f c7
        replace hp := iff0 hp (nltO c7)
        refine ⟨q_idxB (l := A0) (BIn.now S (i := 0) rfl fA0_2) c1, ?_⟩
        refine ⟨q_byte (l := A0) (BIn.now S (i := 0) rfl fA0_2) c1, ?_⟩
        have x8 : A0.getD 0 0 < 256 := getD_lt (BIn.now S (i := 0) rfl fA0_2).lt 0
        refine ⟨u_conv' rfl (Nat.lt_of_lt_of_le x8 (by decide)), ?_⟩
        have g9 : A0.getD 0 0 < 4294967296 := Nat.lt_of_lt_of_le x8 (by decide)
        refine ⟨u_and rfl g9 (show 15 < 4294967296 by decide), ?_⟩
        have g10 : (A0.getD 0 0) &&& 15 < 4294967296 := Nat.lt_of_le_of_lt Nat.and_le_left g9
        have ⟨o11, hb12, hp⟩ := ob_inv hp
        rcases rutf8_l2_t fA0_2  (o := o11) (B0 := A0) (B3 := 3) (n := 90000) (A2 := A2) (A5 := (A0.getD 0 0) &&& 15) (A6 := 1) ⟨hb12, g10, S⟩ hN hN (t := (ovT [(0, wA0_1), (2, (AV.bool A2)), (3, (AV.int .i64 (Int.ofNat 3))), (4, (AV.int .u8 (Int.ofNat (A0.getD 0 0)))), (5, (AV.int .u32 (Int.ofNat ((A0.getD 0 0) &&& 15)))), (6, (AV.int .i64 (Int.ofNat 1))), (7, wA0_1), (8, (AV.int .i64 (Int.ofNat A0.length))), (9, (AV.bool true)), (10, wA0_1), (11, (elemP wA0_1 0 1)), (12, (AV.int .u8 (Int.ofNat (A0.getD 0 0)))), (13, (AV.bool false)), (14, (AV.int .u8 (Int.ofNat (A0.getD 0 0)))), (15, (AV.bool (ltI (Int.ofNat (A0.getD 0 0)) (Int.ofNat 128)))), (16, (AV.bool false)), (17, (AV.int .u8 (Int.ofNat (A0.getD 0 0)))), (18, (AV.bool (notB (ltI (Int.ofNat (A0.getD 0 0)) (Int.ofNat 194))))), (19, (AV.bool true)), (20, (AV.int .u8 (Int.ofNat (A0.getD 0 0)))), (21, (AV.bool (ltI (Int.ofNat (A0.getD 0 0)) (Int.ofNat 224)))), (22, (AV.bool (ltI (Int.ofNat (A0.getD 0 0)) (Int.ofNat 224)))), (23, (AV.bool true)), (24, (AV.int .u8 (Int.ofNat (A0.getD 0 0)))), (25, (AV.bool (notB (ltI (Int.ofNat (A0.getD 0 0)) (Int.ofNat 224))))), (26, (AV.bool true)), (27, (AV.int .u8 (Int.ofNat (A0.getD 0 0)))), (28, (AV.bool (ltI (Int.ofNat (A0.getD 0 0)) (Int.ofNat 240)))), (29, (AV.bool (ltI (Int.ofNat (A0.getD 0 0)) (Int.ofNat 240)))), (37, (AV.int .i64 (Int.ofNat 3))), (38, (AV.bool false)), (39, (AV.bool false)), (40, wA0_1), (41, (AV.int .i64 (Int.ofNat A0.length))), (42, (AV.int .i64 (Int.ofNat 3))), (43, (AV.bool (ltI (Int.ofNat A0.length) (Int.ofNat 3)))), (44, (AV.bool false)), (45, wA0_1), (46, (elemP wA0_1 0 1)), (47, (AV.int .u8 (Int.ofNat (A0.getD 0 0)))), (48, (AV.int .u32 (Int.ofNat (A0.getD 0 0)))), (49, (AV.int .i64 (Int.ofNat 3))), (50, (AV.bool true)), (51, (AV.int .u32 (Int.ofNat (A0.getD 0 0)))), (52, (AV.int .i64 (Int.ofNat 3))), (53, (AV.int .i64 (Int.ofNat 4))), (54, (AV.int .u32 (Int.ofNat 15))), (55, (AV.int .u32 (Int.ofNat ((A0.getD 0 0) &&& 15))))] t)) (show slots [0, 2, 3, 5, 6] _ = [some wA0_1, some (AV.bool A2), some (AV.int .i64 (Int.ofNat 3)), some (AV.int .u32 (Int.ofNat ((A0.getD 0 0) &&& 15))), some (AV.int .i64 (Int.ofNat 1))] by kernel_rfl) with ⟨io11, ⟨_, A2o11, A5o11, A6o11⟩, t14, h15, qo11, wo11, zo11⟩ | ⟨t16, h17, qo11, zo11⟩
        · obtain ⟨jo11, zo11⟩ := zo11
          subst jo11
          replace zo11 := zo11 rfl
          obtain ⟨uo11, fA5_1o11, So11⟩ := zo11
          replace uo11 := uo11.symm
          subst uo11
          replace hp := LO.on_ex.symm.trans hp
          try dsimp only at hp
          refine Or.inl ⟨A2o11, A5o11, A6o11, t14, h15, (qo11.trans (congrArg (fun t => RS.exit 3 t h15) (ovT_eq wo11).symm)), trivial, ?_⟩
          refine ⟨congrArg (fun z => OV.ok (AV.bool z)) (eqI_self (Int.ofNat 3)), ?_⟩
          refine ⟨fun c19 => ?_, fun c19 => ?_⟩
          · replace c19 := ltI_t c19
            replace hp := ift hp c19
            refine ⟨_, (AV.bool false), (Option.some.inj hp).symm, rfl, ?_⟩
            exact ⟨rfl, So11⟩
          replace c19 := ltI_f c19
          replace hp := iff0 hp (nltO c19)
          refine ⟨fun c20 => ?_, fun c20 => ?_⟩
          · replace c20 := ltI_f (notB_t c20)
            replace hp := ift hp c20
            refine ⟨fun c21 => ?_, fun c21 => ?_⟩
            · replace c21 := ltI_t c21
              replace hp := ift hp c21
              refine ⟨_, (AV.bool false), (Option.some.inj hp).symm, rfl, ?_⟩
              exact ⟨rfl, So11⟩
            replace c21 := ltI_f c21
            replace hp := iff0 hp (nltO c21)
            refine ⟨congrArg (fun z => OV.ok (AV.bool z)) (eqI_false (a := 3) (b := 4) (by omega)), ?_⟩
            refine ⟨q_sliceFrom (l := A0) (BIn.now So11 (i := 0) rfl fA0_2) c7, ?_⟩
            have b22 := BIn.from (l := A0) (lo := 3) fA0_2 c7
            refine ⟨(m, A0.drop 3, A2o11, (partS wA0_1 3 A0.length)), rfl, ⟨hp, b22, So11⟩, by show m < n; omega⟩
          replace c20 := ltI_t (notB_f c20)
          replace hp := iff0 hp (nleO c20)
          refine ⟨congrArg (fun z => OV.ok (AV.bool z)) (eqI_false (a := 3) (b := 4) (by omega)), ?_⟩
          refine ⟨q_sliceFrom (l := A0) (BIn.now So11 (i := 0) rfl fA0_2) c7, ?_⟩
          have b21 := BIn.from (l := A0) (lo := 3) fA0_2 c7
          refine ⟨(m, A0.drop 3, A2o11, (partS wA0_1 3 A0.length)), rfl, ⟨hp, b21, So11⟩, by show m < n; omega⟩
        obtain ⟨y18, v2o11, uo11, go11_2, Ko11⟩ := zo11
        replace uo11 := uo11.symm
        subst uo11
        replace go11_2 : tget (pathOf 2) t16 = some v2o11 := Option.some.inj go11_2
        replace hp := LO.on_rt.symm.trans hp
        try dsimp only at hp
        refine Or.inr ⟨y18, v2o11, t16, h17, (qo11.trans (congrArg (fun t => RS.ret t h17) (ovT_eq (l := [(2, v2o11)]) (by show [tget (pathOf 2) t16] = _; rw [go11_2]; rfl)).symm)), trivial, ?_⟩
        refine ⟨_, v2o11, (Option.some.inj hp).symm, rfl, ?_⟩
        exact Ko11
      have rc6 := c6
      replace c6 := ltI_f c6
      replace hp := iff0 hp (nltO c6)
      refine ⟨congrArg (fun z => OV.ok (AV.bool (notB z))) (rc6), ?_⟩
      refine ⟨fun c7 => ?_, fun c7 => ?_⟩
      · replace c7 := ltI_t c7
        replace hp := ift hp c7
        refine ⟨q_len (BIn.now S (i := 0) rfl fA0_2), ?_⟩
        refine ⟨fun c8 => ?_, fun c8 => ?_⟩
        · replace c8 := ltI_t c8
          replace hp := ift hp c8
          refine ⟨_, (AV.bool false), (Option.some.inj hp).symm, rfl, ?_⟩
          exact ⟨rfl, S⟩
        replace c8 := ltI_f c8
        replace hp := iff0 hp (nltO c8)
        refine ⟨q_idxB (l := A0) (BIn.now S (i := 0) rfl fA0_2) c1, ?_⟩
        refine ⟨q_byte (l := A0) (BIn.now S (i := 0) rfl fA0_2) c1, ?_⟩
        have x9 : A0.getD 0 0 < 256 := getD_lt (BIn.now S (i := 0) rfl fA0_2).lt 0
        refine ⟨u_conv' rfl (Nat.lt_of_lt_of_le x9 (by decide)), ?_⟩
        have g10 : A0.getD 0 0 < 4294967296 := Nat.lt_of_lt_of_le x9 (by decide)
        refine ⟨u_and rfl g10 (show 7 < 4294967296 by decide), ?_⟩
        have g11 : (A0.getD 0 0) &&& 7 < 4294967296 := Nat.lt_of_le_of_lt Nat.and_le_left g10
        have ⟨o12, hb13, hp⟩ := ob_inv hp
        rcases rutf8_l2_t fA0_2  (o := o12) (B0 := A0) (B3 := 4) (n := 90000) (A2 := A2) (A5 := (A0.getD 0 0) &&& 7) (A6 := 1) ⟨hb13, g11, S⟩ hN hN (t := (ovT [(0, wA0_1), (2, (AV.bool A2)), (3, (AV.int .i64 (Int.ofNat 4))), (4, (AV.int .u8 (Int.ofNat (A0.getD 0 0)))), (5, (AV.int .u32 (Int.ofNat ((A0.getD 0 0) &&& 7)))), (6, (AV.int .i64 (Int.ofNat 1))), (7, wA0_1), (8, (AV.int .i64 (Int.ofNat A0.length))), (9, (AV.bool true)), (10, wA0_1), (11, (elemP wA0_1 0 1)), (12, (AV.int .u8 (Int.ofNat (A0.getD 0 0)))), (13, (AV.bool false)), (14, (AV.int .u8 (Int.ofNat (A0.getD 0 0)))), (15, (AV.bool (ltI (Int.ofNat (A0.getD 0 0)) (Int.ofNat 128)))), (16, (AV.bool false)), (17, (AV.int .u8 (Int.ofNat (A0.getD 0 0)))), (18, (AV.bool (notB (ltI (Int.ofNat (A0.getD 0 0)) (Int.ofNat 194))))), (19, (AV.bool true)), (20, (AV.int .u8 (Int.ofNat (A0.getD 0 0)))), (21, (AV.bool (ltI (Int.ofNat (A0.getD 0 0)) (Int.ofNat 224)))), (22, (AV.bool (ltI (Int.ofNat (A0.getD 0 0)) (Int.ofNat 224)))), (23, (AV.bool false)), (24, (AV.int .u8 (Int.ofNat (A0.getD 0 0)))), (25, (AV.bool (notB (ltI (Int.ofNat (A0.getD 0 0)) (Int.ofNat 224))))), (26, (AV.bool true)), (27, (AV.int .u8 (Int.ofNat (A0.getD 0 0)))), (28, (AV.bool (ltI (Int.ofNat (A0.getD 0 0)) (Int.ofNat 240)))), (29, (AV.bool (ltI (Int.ofNat (A0.getD 0 0)) (Int.ofNat 240)))), (30, (AV.bool true)), (31, (AV.int .u8 (Int.ofNat (A0.getD 0 0)))), (32, (AV.bool (notB (ltI (Int.ofNat (A0.getD 0 0)) (Int.ofNat 240))))), (33, (AV.bool true)), (34, (AV.int .u8 (Int.ofNat (A0.getD 0 0)))), (35, (AV.bool (ltI (Int.ofNat (A0.getD 0 0)) (Int.ofNat 245)))), (36, (AV.bool (ltI (Int.ofNat (A0.getD 0 0)) (Int.ofNat 245)))), (37, (AV.int .i64 (Int.ofNat 4))), (38, (AV.bool false)), (39, (AV.bool false)), (40, wA0_1), (41, (AV.int .i64 (Int.ofNat A0.length))), (42, (AV.int .i64 (Int.ofNat 4))), (43, (AV.bool (ltI (Int.ofNat A0.length) (Int.ofNat 4)))), (44, (AV.bool false)), (45, wA0_1), (46, (elemP wA0_1 0 1)), (47, (AV.int .u8 (Int.ofNat (A0.getD 0 0)))), (48, (AV.int .u32 (Int.ofNat (A0.getD 0 0)))), (49, (AV.int .i64 (Int.ofNat 4))), (50, (AV.bool true)), (51, (AV.int .u32 (Int.ofNat (A0.getD 0 0)))), (52, (AV.int .i64 (Int.ofNat 4))), (53, (AV.int .i64 (Int.ofNat 5))), (54, (AV.int .u32 (Int.ofNat 7))), (55, (AV.int .u32 (Int.ofNat ((A0.getD 0 0) &&& 7))))] t)) (show slots [0, 2, 3, 5, 6] _ = [some wA0_1, some (AV.bool A2), some (AV.int .i64 (Int.ofNat 4)), some (AV.int .u32 (Int.ofNat ((A0.getD 0 0) &&& 7))), some (AV.int .i64 (Int.ofNat 1))] by kernel_rfl) with ⟨io12, ⟨_, A2o12, A5o12, A6o12⟩, t15, h16, qo12, wo12, zo12⟩ | ⟨t17, h18, qo12, zo12⟩
        · obtain ⟨jo12, zo12⟩ := zo12
          subst jo12
          replace zo12 := zo12 rfl
          obtain ⟨uo12, fA5_1o12, So12⟩ := zo12
          replace uo12 := uo12.symm
          subst uo12
          replace hp := LO.on_ex.symm.trans hp
          try dsimp only at hp
          refine Or.inl ⟨A2o12, A5o12, A6o12, t15, h16, (qo12.trans (congrArg (fun t => RS.exit 3 t h16) (ovT_eq wo12).symm)), trivial, ?_⟩
          refine ⟨congrArg (fun z => OV.ok (AV.bool z)) (eqI_false (a := 4) (b := 3) (by omega)), ?_⟩
          refine ⟨congrArg (fun z => OV.ok (AV.bool z)) (eqI_self (Int.ofNat 4)), ?_⟩
          refine ⟨fun c20 => ?_, fun c20 => ?_⟩
          · replace c20 := ltI_t c20
            replace hp := ift hp c20
            refine ⟨_, (AV.bool false), (Option.some.inj hp).symm, rfl, ?_⟩
            exact ⟨rfl, So12⟩
          replace c20 := ltI_f c20
          replace hp := iff0 hp (nltO c20)
          refine ⟨fun c21 => ?_, fun c21 => ?_⟩
          · replace c21 := ltI_t c21
            replace hp := ift hp c21
            refine ⟨_, (AV.bool false), (Option.some.inj hp).symm, rfl, ?_⟩
            exact ⟨rfl, So12⟩
          replace c21 := ltI_f c21
          replace hp := iff0 hp (nltO c21)
          refine ⟨q_sliceFrom (l := A0) (BIn.now So12 (i := 0) rfl fA0_2) c8, ?_⟩
          have b22 := BIn.from (l := A0) (lo := 4) fA0_2 c8
          refine ⟨(m, A0.drop 4, A2o12, (partS wA0_1 4 A0.length)), rfl, ⟨hp, b22, So12⟩, by show m < n; omega⟩
        obtain ⟨y19, v2o12, uo12, go12_2, Ko12⟩ := zo12
        replace uo12 := uo12.symm
        subst uo12
        replace go12_2 : tget (pathOf 2) t17 = some v2o12 := Option.some.inj go12_2
        replace hp := LO.on_rt.symm.trans hp
        try dsimp only at hp
        refine Or.inr ⟨y19, v2o12, t17, h18, (qo12.trans (congrArg (fun t => RS.ret t h18) (ovT_eq (l := [(2, v2o12)]) (by show [tget (pathOf 2) t17] = _; rw [go12_2]; rfl)).symm)), trivial, ?_⟩
        refine ⟨_, v2o12, (Option.some.inj hp).symm, rfl, ?_⟩
        exact Ko12
      replace c7 := ltI_f c7
      replace hp := iff0 hp (nltO c7)
      refine ⟨_, (AV.bool false), (Option.some.inj hp).symm, rfl, ?_⟩
      exact ⟨rfl, S⟩
    replace c4 := ltI_t (notB_f c4)
    replace hp := iff0 hp (nleO c4)
    refine ⟨fun c5 => ?_, fun c5 => ?_⟩
    · replace c5 := ltI_f (notB_t c5)
      replace hp := ift hp c5
      refine ⟨fun c6 => ?_, fun c6 => ?_⟩
      · replace c6 := ltI_t c6
        replace hp := ift hp c6
        refine ⟨q_len (BIn.now S (i := 0) rfl fA0_2), ?_⟩
        refine ⟨fun c7 => ?_, fun c7 => ?_⟩
        · replace c7 := ltI_t c7
          replace hp := ift hp c7
          refine ⟨_, (AV.bool false), (Option.some.inj hp).symm, rfl, ?_⟩
          exact ⟨rfl, S⟩
        replace c7 := ltI_f c7
        replace hp := iff0 hp (nltO c7)
        refine ⟨q_idxB (l := A0) (BIn.now S (i := 0) rfl fA0_2) c1, ?_⟩
        refine ⟨q_byte (l := A0) (BIn.now S (i := 0) rfl fA0_2) c1, ?_⟩
        have x8 : A0.getD 0 0 < 256 := getD_lt (BIn.now S (i := 0) rfl fA0_2).lt 0
        refine ⟨u_conv' rfl (Nat.lt_of_lt_of_le x8 (by decide)), ?_⟩
        have g9 : A0.getD 0 0 < 4294967296 := Nat.lt_of_lt_of_le x8 (by decide)
        refine ⟨u_and rfl g9 (show 15 < 4294967296 by decide), ?_⟩
        have g10 : (A0.getD 0 0) &&& 15 < 4294967296 := Nat.lt_of_le_of_lt Nat.and_le_left g9
        have ⟨o11, hb12, hp⟩ := ob_inv hp
        rcases rutf8_l2_t fA0_2  (o := o11) (B0 := A0) (B3 := 3) (n := 90000) (A2 := A2) (A5 := (A0.getD 0 0) &&& 15) (A6 := 1) ⟨hb12, g10, S⟩ hN hN (t := (ovT [(0, wA0_1), (2, (AV.bool A2)), (3, (AV.int .i64 (Int.ofNat 3))), (4, (AV.int .u8 (Int.ofNat (A0.getD 0 0)))), (5, (AV.int .u32 (Int.ofNat ((A0.getD 0 0) &&& 15)))), (6, (AV.int .i64 (Int.ofNat 1))), (7, wA0_1), (8, (AV.int .i64 (Int.ofNat A0.length))), (9, (AV.bool true)), (10, wA0_1), (11, (elemP wA0_1 0 1)), (12, (AV.int .u8 (Int.ofNat (A0.getD 0 0)))), (13, (AV.bool false)), (14, (AV.int .u8 (Int.ofNat (A0.getD 0 0)))), (15, (AV.bool (ltI (Int.ofNat (A0.getD 0 0)) (Int.ofNat 128)))), (16, (AV.bool false)), (17, (AV.int .u8 (Int.ofNat (A0.getD 0 0)))), (18, (AV.bool (notB (ltI (Int.ofNat (A0.getD 0 0)) (Int.ofNat 194))))), (19, (AV.bool false)), (20, (AV.tuple [])), (21, (AV.tuple [])), (22, (AV.bool false)), (23, (AV.bool true)), (24, (AV.int .u8 (Int.ofNat (A0.getD 0 0)))), (25, (AV.bool (notB (ltI (Int.ofNat (A0.getD 0 0)) (Int.ofNat 224))))), (26, (AV.bool true)), (27, (AV.int .u8 (Int.ofNat (A0.getD 0 0)))), (28, (AV.bool (ltI (Int.ofNat (A0.getD 0 0)) (Int.ofNat 240)))), (29, (AV.bool (ltI (Int.ofNat (A0.getD 0 0)) (Int.ofNat 240)))), (37, (AV.int .i64 (Int.ofNat 3))), (38, (AV.bool false)), (39, (AV.bool false)), (40, wA0_1), (41, (AV.int .i64 (Int.ofNat A0.length))), (42, (AV.int .i64 (Int.ofNat 3))), (43, (AV.bool (ltI (Int.ofNat A0.length) (Int.ofNat 3)))), (44, (AV.bool false)), (45, wA0_1), (46, (elemP wA0_1 0 1)), (47, (AV.int .u8 (Int.ofNat (A0.getD 0 0)))), (48, (AV.int .u32 (Int.ofNat (A0.getD 0 0)))), (49, (AV.int .i64 (Int.ofNat 3))), (50, (AV.bool true)), (51, (AV.int .u32 (Int.ofNat (A0.getD 0 0)))), (52, (AV.int .i64 (Int.ofNat 3))), (53, (AV.int .i64 (Int.ofNat 4))), (54, (AV.int .u32 (Int.ofNat 15))), (55, (AV.int .u32 (Int.ofNat ((A0.getD 0 0) &&& 15))))] t)) (show slots [0, 2, 3, 5, 6] _ = [some wA0_1, some (AV.bool A2), some (AV.int .i64 (Int.ofNat 3)), some (AV.int .u32 (Int.ofNat ((A0.getD 0 0) &&& 15))), some (AV.int .i64 (Int.ofNat 1))] by kernel_rfl) with ⟨io11, ⟨_, A2o11, A5o11, A6o11⟩, t14, h15, qo11, wo11, zo11⟩ | ⟨t16, h17, qo11, zo11⟩
        · obtain ⟨jo11, zo11⟩ := zo11
          subst jo11
          replace zo11 := zo11 rfl
          obtain ⟨uo11, fA5_1o11, So11⟩ := zo11
          replace uo11 := uo11.symm
          subst uo11
          replace hp := LO.on_ex.symm.trans hp
          try dsimp only at hp
          refine Or.inl ⟨A2o11, A5o11, A6o11, t14, h15, (qo11.trans (congrArg (fun t => RS.exit 3 t h15) (ovT_eq wo11).symm)), trivial, ?_⟩
          refine ⟨congrArg (fun z => OV.ok (AV.bool z)) (eqI_self (Int.ofNat 3)), ?_⟩
          refine ⟨fun c19 => ?_, fun c19 => ?_⟩
          · replace c19 := ltI_t c19
            replace hp := ift hp c19
            refine ⟨_, (AV.bool false), (Option.some.inj hp).symm, rfl, ?_⟩
            exact ⟨rfl, So11⟩
          replace c19 := ltI_f c19
          replace hp := iff0 hp (nltO c19)
          refine ⟨fun c20 => ?_, fun c20 => ?_⟩
          · replace c20 := ltI_f (notB_t c20)
            replace hp := ift hp c20
            refine ⟨fun c21 => ?_, fun c21 => ?_⟩
            · replace c21 := ltI_t c21
              replace hp := ift hp c21
              refine ⟨_, (AV.bool false), (Option.some.inj hp).symm, rfl, ?_⟩
              exact ⟨rfl, So11⟩
            replace c21 := ltI_f c21
            replace hp := iff0 hp (nltO c21)
            refine ⟨congrArg (fun z => OV.ok (AV.bool z)) (eqI_false (a := 3) (b := 4) (by omega)), ?_⟩
            refine ⟨q_sliceFrom (l := A0) (BIn.now So11 (i := 0) rfl fA0_2) c7, ?_⟩
            have b22 := BIn.from (l := A0) (lo := 3) fA0_2 c7
            refine ⟨(m, A0.drop 3, A2o11, (partS wA0_1 3 A0.length)), rfl, ⟨hp, b22, So11⟩, by show m < n; omega⟩
          replace c20 := ltI_t (notB_f c20)
          replace hp := iff0 hp (nleO c20)
          refine ⟨congrArg (fun z => OV.ok (AV.bool z)) (eqI_false (a := 3) (b := 4) (by omega)), ?_⟩
          refine ⟨q_sliceFrom (l := A0) (BIn.now So11 (i := 0) rfl fA0_2) c7, ?_⟩
          have b21 := BIn.from (l := A0) (lo := 3) fA0_2 c7
          refine ⟨(m, A0.drop 3, A2o11, (partS wA0_1 3 A0.length)), rfl, ⟨hp, b21, So11⟩, by show m < n; omega⟩
        obtain ⟨y18, v2o11, uo11, go11_2, Ko11⟩ := zo11
        replace uo11 := uo11.symm
        subst uo11
        replace go11_2 : tget (pathOf 2) t16 = some v2o11 := Option.some.inj go11_2
        replace hp := LO.on_rt.symm.trans hp
        try dsimp only at hp
        refine Or.inr ⟨y18, v2o11, t16, h17, (qo11.trans (congrArg (fun t => RS.ret t h17) (ovT_eq (l := [(2, v2o11)]) (by show [tget (pathOf 2) t16] = _; rw [go11_2]; rfl)).symm)), trivial, ?_⟩
        refine ⟨_, v2o11, (Option.some.inj hp).symm, rfl, ?_⟩
        exact Ko11
      have rc6 := c6
      replace c6 := ltI_f c6
      replace hp := iff0 hp (nltO c6)
      refine ⟨congrArg (fun z => OV.ok (AV.bool (notB z))) (rc6), ?_⟩
      refine ⟨fun c7 => ?_, fun c7 => ?_⟩
      · replace c7 := ltI_t c7
        replace hp := ift hp c7
        refine ⟨q_len (BIn.now S (i := 0) rfl fA0_2), ?_⟩
        refine ⟨fun c8 => ?_, fun c8 => ?_⟩
        · replace c8 := ltI_t c8
          replace hp := ift hp c8
          refine ⟨_, (AV.bool false), (Option.some.inj hp).symm, rfl, ?_⟩
          exact ⟨rfl, S⟩
        replace c8 := ltI_f c8
        replace hp := iff0 hp (nltO c8)
        refine ⟨q_idxB (l := A0) (BIn.now S (i := 0) rfl fA0_2) c1, ?_⟩
        refine ⟨q_byte (l := A0) (BIn.now S (i := 0) rfl fA0_2) c1, ?_⟩
        have x9 : A0.getD 0 0 < 256 := getD_lt (BIn.now S (i := 0) rfl fA0_2).lt 0
        refine ⟨u_conv' rfl (Nat.lt_of_lt_of_le x9 (by decide)), ?_⟩
        have g10 : A0.getD 0 0 < 4294967296 := Nat.lt_of_lt_of_le x9 (by decide)
        refine ⟨u_and rfl g10 (show 7 < 4294967296 by decide), ?_⟩
        have g11 : (A0.getD 0 0) &&& 7 < 4294967296 := Nat.lt_of_le_of_lt Nat.and_le_left g10
        have ⟨o12, hb13, hp⟩ := ob_inv hp
        rcases rutf8_l2_t fA0_2  (o := o12) (B0 := A0) (B3 := 4) (n := 90000) (A2 := A2) (A5 := (A0.getD 0 0) &&& 7) (A6 := 1) ⟨hb13, g11, S⟩ hN hN (t := (ovT [(0, wA0_1), (2, (AV.bool A2)), (3, (AV.int .i64 (Int.ofNat 4))), (4, (AV.int .u8 (Int.ofNat (A0.getD 0 0)))), (5, (AV.int .u32 (Int.ofNat ((A0.getD 0 0) &&& 7)))), (6, (AV.int .i64 (Int.ofNat 1))), (7, wA0_1), (8, (AV.int .i64 (Int.ofNat A0.length))), (9, (AV.bool true)), (10, wA0_1), (11, (elemP wA0_1 0 1)), (12, (AV.int .u8 (Int.ofNat (A0.getD 0 0)))), (13, (AV.bool false)), (14, (AV.int .u8 (Int.ofNat (A0.getD 0 0)))), (15, (AV.bool (ltI (Int.ofNat (A0.getD 0 0)) (Int.ofNat 128)))), (16, (AV.bool false)), (17, (AV.int .u8 (Int.ofNat (A0.getD 0 0)))), (18, (AV.bool (notB (ltI (Int.ofNat (A0.getD 0 0)) (Int.ofNat 194))))), (19, (AV.bool false)), (20, (AV.tuple [])), (21, (AV.tuple [])), (22, (AV.bool false)), (23, (AV.bool false)), (24, (AV.int .u8 (Int.ofNat (A0.getD 0 0)))), (25, (AV.bool (notB (ltI (Int.ofNat (A0.getD 0 0)) (Int.ofNat 224))))), (26, (AV.bool true)), (27, (AV.int .u8 (Int.ofNat (A0.getD 0 0)))), (28, (AV.bool (ltI (Int.ofNat (A0.getD 0 0)) (Int.ofNat 240)))), (29, (AV.bool (ltI (Int.ofNat (A0.getD 0 0)) (Int.ofNat 240)))), (30, (AV.bool true)), (31, (AV.int .u8 (Int.ofNat (A0.getD 0 0)))), (32, (AV.bool (notB (ltI (Int.ofNat (A0.getD 0 0)) (Int.ofNat 240))))), (33, (AV.bool true)), (34, (AV.int .u8 (Int.ofNat (A0.getD 0 0)))), (35, (AV.bool (ltI (Int.ofNat (A0.getD 0 0)) (Int.ofNat 245)))), (36, (AV.bool (ltI (Int.ofNat (A0.getD 0 0)) (Int.ofNat 245)))), (37, (AV.int .i64 (Int.ofNat 4))), (38, (AV.bool false)), (39, (AV.bool false)), (40, wA0_1), (41, (AV.int .i64 (Int.ofNat A0.length))), (42, (AV.int .i64 (Int.ofNat 4))), (43, (AV.bool (ltI (Int.ofNat A0.length) (Int.ofNat 4)))), (44, (AV.bool false)), (45, wA0_1), (46, (elemP wA0_1 0 1)), (47, (AV.int .u8 (Int.ofNat (A0.getD 0 0)))), (48, (AV.int .u32 (Int.ofNat (A0.getD 0 0)))), (49, (AV.int .i64 (Int.ofNat 4))), (50, (AV.bool true)), (51, (AV.int .u32 (Int.ofNat (A0.getD 0 0)))), (52, (AV.int .i64 (Int.ofNat 4))), (53, (AV.int .i64 (Int.ofNat 5))), (54, (AV.int .u32 (Int.ofNat 7))), (55, (AV.int .u32 (Int.ofNat ((A0.getD 0 0) &&& 7))))] t)) (show slots [0, 2, 3, 5, 6] _ = [some wA0_1, some (AV.bool A2), some (AV.int .i64 (Int.ofNat 4)), some (AV.int .u32 (Int.ofNat ((A0.getD 0 0) &&& 7))), some (AV.int .i64 (Int.ofNat 1))] by kernel_rfl) with ⟨io12, ⟨_, A2o12, A5o12, A6o12⟩, t15, h16, qo12, wo12, zo12⟩ | ⟨t17, h18, qo12, zo12⟩
        · obtain ⟨jo12, zo12⟩ := zo12
          subst jo12
          replace zo12 := zo12 rfl
          obtain ⟨uo12, fA5_1o12, So12⟩ := zo12
          replace uo12 := uo12.symm
          subst uo12
          replace hp := LO.on_ex.symm.trans hp
          try dsimp only at hp
          refine Or.inl ⟨A2o12, A5o12, A6o12, t15, h16, (qo12.trans (congrArg (fun t => RS.exit 3 t h16) (ovT_eq wo12).symm)), trivial, ?_⟩
          refine ⟨congrArg (fun z => OV.ok (AV.bool z)) (eqI_false (a := 4) (b := 3) (by omega)), ?_⟩
          refine ⟨congrArg (fun z => OV.ok (AV.bool z)) (eqI_self (Int.ofNat 4)), ?_⟩
          refine ⟨fun c20 => ?_, fun c20 => ?_⟩
          · replace c20 := ltI_t c20
            replace hp := ift hp c20
            refine ⟨_, (AV.bool false), (Option.some.inj hp).symm, rfl, ?_⟩
            exact ⟨rfl, So12⟩
          replace c20 := ltI_f c20
          replace hp := iff0 hp (nltO c20)
          refine ⟨fun c21 => ?_, fun c21 => ?_⟩
          · replace c21 := ltI_t c21
            replace hp := ift hp c21
            refine ⟨_, (AV.bool false), (Option.some.inj hp).symm, rfl, ?_⟩
            exact ⟨rfl, So12⟩
          replace c21 := ltI_f c21
          replace hp := iff0 hp (nltO c21)
          refine ⟨q_sliceFrom (l := A0) (BIn.now So12 (i := 0) rfl fA0_2) c8, ?_⟩
          have b22 := BIn.from (l := A0) (lo := 4) fA0_2 c8
          refine ⟨(m, A0.drop 4, A2o12, (partS wA0_1 4 A0.length)), rfl, ⟨hp, b22, So12⟩, by show m < n; omega⟩
        obtain ⟨y19, v2o12, uo12, go12_2, Ko12⟩ := zo12
        replace uo12 := uo12.symm
        subst uo12
        replace go12_2 : tget (pathOf 2) t17 = some v2o12 := Option.some.inj go12_2
        replace hp := LO.on_rt.symm.trans hp
        try dsimp only at hp
        refine Or.inr ⟨y19, v2o12, t17, h18, (qo12.trans (congrArg (fun t => RS.ret t h18) (ovT_eq (l := [(2, v2o12)]) (by show [tget (pathOf 2) t17] = _; rw [go12_2]; rfl)).symm)), trivial, ?_⟩
        refine ⟨_, v2o12, (Option.some.inj hp).symm, rfl, ?_⟩
        exact Ko12
      replace c7 := ltI_f c7
      replace hp := iff0 hp (nltO c7)
      refine ⟨_, (AV.bool false), (Option.some.inj hp).symm, rfl, ?_⟩
      exact ⟨rfl, S⟩
    replace c5 := ltI_t (notB_f c5)
    replace hp := iff0 hp (nleO c5)
    refine ⟨fun c6 => ?_, fun c6 => ?_⟩
    · replace c6 := ltI_f (notB_t c6)
      replace hp := ift hp c6
      refine ⟨fun c7 => ?_, fun c7 => ?_⟩
      · replace c7 := ltI_t c7
        replace hp := ift hp c7
        refine ⟨q_len (BIn.now S (i := 0) rfl fA0_2), ?_⟩
        refine ⟨fun c8 => ?_, fun c8 => ?_⟩
        · replace c8 := ltI_t c8
          replace hp := ift hp c8
          refine ⟨_, (AV.bool false), (Option.some.inj hp).symm, rfl, ?_⟩
          exact ⟨rfl, S⟩
        replace c8 := ltI_f c8
        replace hp := iff0 hp (nltO c8)
        refine ⟨q_idxB (l := A0) (BIn.now S (i := 0) rfl fA0_2) c1, ?_⟩
        refine ⟨q_byte (l := A0) (BIn.now S (i := 0) rfl fA0_2) c1, ?_⟩
        have x9 : A0.getD 0 0 < 256 := getD_lt (BIn.now S (i := 0) rfl fA0_2).lt 0
        refine ⟨u_conv' rfl (Nat.lt_of_lt_of_le x9 (by decide)), ?_⟩
        have g10 : A0.getD 0 0 < 4294967296 := Nat.lt_of_lt_of_le x9 (by decide)
        refine ⟨u_and rfl g10 (show 7 < 4294967296 by decide), ?_⟩
        have g11 : (A0.getD 0 0) &&& 7 < 4294967296 := Nat.lt_of_le_of_lt Nat.and_le_left g10
        have ⟨o12, hb13, hp⟩ := ob_inv hp
        rcases rutf8_l2_t fA0_2  (o := o12) (B0 := A0) (B3 := 4) (n := 90000) (A2 := A2) (A5 := (A0.getD 0 0) &&& 7) (A6 := 1) ⟨hb13, g11, S⟩ hN hN (t := (ovT [(0, wA0_1), (2, (AV.bool A2)), (3, (AV.int .i64 (Int.ofNat 4))), (4, (AV.int .u8 (Int.ofNat (A0.getD 0 0)))), (5, (AV.int .u32 (Int.ofNat ((A0.getD 0 0) &&& 7)))), (6, (AV.int .i64 (Int.ofNat 1))), (7, wA0_1), (8, (AV.int .i64 (Int.ofNat A0.length))), (9, (AV.bool true)), (10, wA0_1), (11, (elemP wA0_1 0 1)), (12, (AV.int .u8 (Int.ofNat (A0.getD 0 0)))), (13, (AV.bool false)), (14, (AV.int .u8 (Int.ofNat (A0.getD 0 0)))), (15, (AV.bool (ltI (Int.ofNat (A0.getD 0 0)) (Int.ofNat 128)))), (16, (AV.bool false)), (17, (AV.int .u8 (Int.ofNat (A0.getD 0 0)))), (18, (AV.bool (notB (ltI (Int.ofNat (A0.getD 0 0)) (Int.ofNat 194))))), (19, (AV.bool false)), (20, (AV.tuple [])), (21, (AV.tuple [])), (22, (AV.bool false)), (23, (AV.bool false)), (24, (AV.int .u8 (Int.ofNat (A0.getD 0 0)))), (25, (AV.bool (notB (ltI (Int.ofNat (A0.getD 0 0)) (Int.ofNat 224))))), (26, (AV.bool false)), (27, (AV.tuple [])), (28, (AV.tuple [])), (29, (AV.bool false)), (30, (AV.bool true)), (31, (AV.int .u8 (Int.ofNat (A0.getD 0 0)))), (32, (AV.bool (notB (ltI (Int.ofNat (A0.getD 0 0)) (Int.ofNat 240))))), (33, (AV.bool true)), (34, (AV.int .u8 (Int.ofNat (A0.getD 0 0)))), (35, (AV.bool (ltI (Int.ofNat (A0.getD 0 0)) (Int.ofNat 245)))), (36, (AV.bool (ltI (Int.ofNat (A0.getD 0 0)) (Int.ofNat 245)))), (37, (AV.int .i64 (Int.ofNat 4))), (38, (AV.bool false)), (39, (AV.bool false)), (40, wA0_1), (41, (AV.int .i64 (Int.ofNat A0.length))), (42, (AV.int .i64 (Int.ofNat 4))), (43, (AV.bool (ltI (Int.ofNat A0.length) (Int.ofNat 4)))), (44, (AV.bool false)), (45, wA0_1), (46, (elemP wA0_1 0 1)), (47, (AV.int .u8 (Int.ofNat (A0.getD 0 0)))), (48, (AV.int .u32 (Int.ofNat (A0.getD 0 0)))), (49, (AV.int .i64 (Int.ofNat 4))), (50, (AV.bool true)), (51, (AV.int .u32 (Int.ofNat (A0.getD 0 0)))), (52, (AV.int .i64 (Int.ofNat 4))), (53, (AV.int .i64 (Int.ofNat 5))), (54, (AV.int .u32 (Int.ofNat 7))), (55, (AV.int .u32 (Int.ofNat ((A0.getD 0 0) &&& 7))))] t)) (show slots [0, 2, 3, 5, 6] _ = [some wA0_1, some (AV.bool A2), some (AV.int .i64 (Int.ofNat 4)), some (AV.int .u32 (Int.ofNat ((A0.getD 0 0) &&& 7))), some (AV.int .i64 (Int.ofNat 1))] by kernel_rfl) with ⟨io12, ⟨_, A2o12, A5o12, A6o12⟩, t15, h16, qo12, wo12, zo12⟩ | ⟨t17, h18, qo12, zo12⟩
        · obtain ⟨jo12, zo12⟩ := zo12
          subst jo12
          replace zo12 := zo12 rfl
          obtain ⟨uo12, fA5_1o12, So12⟩ := zo12
          replace uo12 := uo12.symm
          subst uo12
          replace hp := LO.on_ex.symm.trans hp
          try dsimp only at hp
          refine Or.inl ⟨A2o12, A5o12, A6o12, t15, h16, (qo12.trans (congrArg (fun t => RS.exit 3 t h16) (ovT_eq wo12).symm)), trivial, ?_⟩
          refine ⟨congrArg (fun z => OV.ok (AV.bool z)) (eqI_false (a := 4) (b := 3) (by omega)), ?_⟩
          refine ⟨congrArg (fun z => OV.ok (AV.bool z)) (eqI_self (Int.ofNat 4)), ?_⟩
          refine ⟨fun c20 => ?_, fun c20 => ?_⟩
          · replace c20 := ltI_t c20
            replace hp := ift hp c20
            refine ⟨_, (AV.bool false), (Option.some.inj hp).symm, rfl, ?_⟩
            exact ⟨rfl, So12⟩
          replace c20 := ltI_f c20
          replace hp := iff0 hp (nltO c20)
          refine ⟨fun c21 => ?_, fun c21 => ?_⟩
          · replace c21 := ltI_t c21
            replace hp := ift hp c21
            refine ⟨_, (AV.bool false), (Option.some.inj hp).symm, rfl, ?_⟩
            exact ⟨rfl, So12⟩
          replace c21 := ltI_f c21
          replace hp := iff0 hp (nltO c21)
          refine ⟨q_sliceFrom (l := A0) (BIn.now So12 (i := 0) rfl fA0_2) c8, ?_⟩
          have b22 := BIn.from (l := A0) (lo := 4) fA0_2 c8
          refine ⟨(m, A0.drop 4, A2o12, (partS wA0_1 4 A0.length)), rfl, ⟨hp, b22, So12⟩, by show m < n; omega⟩
        obtain ⟨y19, v2o12, uo12, go12_2, Ko12⟩ := zo12
        replace uo12 := uo12.symm
        subst uo12
        replace go12_2 : tget (pathOf 2) t17 = some v2o12 := Option.some.inj go12_2
        replace hp := LO.on_rt.symm.trans hp
        try dsimp only at hp
        refine Or.inr ⟨y19, v2o12, t17, h18, (qo12.trans (congrArg (fun t => RS.ret t h18) (ovT_eq (l := [(2, v2o12)]) (by show [tget (pathOf 2) t17] = _; rw [go12_2]; rfl)).symm)), trivial, ?_⟩
        refine ⟨_, v2o12, (Option.some.inj hp).symm, rfl, ?_⟩
        exact Ko12
      replace c7 := ltI_f c7
      replace hp := iff0 hp (nltO c7)
      refine ⟨_, (AV.bool false), (Option.some.inj hp).symm, rfl, ?_⟩
      exact ⟨rfl, S⟩
    replace c6 := ltI_t (notB_f c6)
    replace hp := iff0 hp (nleO c6)
    refine ⟨_, (AV.bool false), (Option.some.inj hp).symm, rfl, ?_⟩
    exact ⟨rfl, S⟩
  replace c1 := ltI_f c1
  replace hp := iff0 hp (nltO c1)
  refine ⟨(m, A0, A2, wA0_1), rfl, rfl, fun _ => ⟨(Option.some.inj hp).symm, fA0_2, S⟩⟩
theorem rutf8_l1_t {call : CallT} {N : Nat} {G : Nat → Prop} {h0 : Hp}    {o : LO (List Nat × Bool) (Bool)} {n : Nat} {A0 : List Nat} {A2 : Bool} {wA0_1 : AV} {h : Hp} (hi : (fun (z : Nat × List Nat × Bool × AV) (h' : Hp) => rutf8_l1  z.1 z.2.1 z.2.2.1 = some o ∧ (BIn G h0 z.2.2.2 z.2.1) ∧ Eng.Sep [Frz G h0] h') (n, A0, A2, wA0_1) h) (hN : n < N) (hN' : 90000 < N) {t : T} (ht : Has ((fun (z : Nat × List Nat × Bool × AV) => [(0, z.2.2.2), (2, (AV.bool z.2.2.1))]) (n, A0, A2, wA0_1)) t) :
    (∃ i y t' h', evC call N (.loop rutf8_l1C) t h = .exit i t' h' ∧ Has ((fun (z : Nat × List Nat × Bool × AV) => [(0, z.2.2.2), (2, (AV.bool z.2.2.1))]) y) t' ∧ (fun (i : Nat) (z : Nat × List Nat × Bool × AV) (h' : Hp) => (i = 0) ∧ (i = 0 → o = LO.ex (z.2.1, z.2.2.1) ∧ (BIn G h0 z.2.2.2 z.2.1) ∧ Eng.Sep [Frz G h0] h')) i y h') ∨ (∃ t' h', evC call N (.loop rutf8_l1C) t h = .ret t' h' ∧ (fun (ls : List (Option AV)) (h' : Hp) => ∃ (rt : Bool) (v2 : AV), o = LO.rt rt ∧ ls[1]? = some (some v2) ∧ (v2 = (AV.bool rt) ∧ Eng.Sep (Frz G h0 :: []) h')) (slots [0, 2] t') h') :=
  loop_st (fun (z : Nat × List Nat × Bool × AV) => [(0, z.2.2.2), (2, (AV.bool z.2.2.1))]) [0, 2] (fun _ => rfl) (fun (z : Nat × List Nat × Bool × AV) (h' : Hp) => rutf8_l1  z.1 z.2.1 z.2.2.1 = some o ∧ (BIn G h0 z.2.2.2 z.2.1) ∧ Eng.Sep [Frz G h0] h') (fun (z : Nat × List Nat × Bool × AV) => z.1) (fun (i : Nat) (z : Nat × List Nat × Bool × AV) (h' : Hp) => (i = 0) ∧ (i = 0 → o = LO.ex (z.2.1, z.2.2.1) ∧ (BIn G h0 z.2.2.2 z.2.1) ∧ Eng.Sep [Frz G h0] h')) (fun (ls : List (Option AV)) (h' : Hp) => ∃ (rt : Bool) (v2 : AV), o = LO.rt rt ∧ ls[1]? = some (some v2) ∧ (v2 = (AV.bool rt) ∧ Eng.Sep (Frz G h0 :: []) h')) (fun ⟨n, A0, A2, wA0_1⟩ t h hi => rutf8_l1_body  hN' hi) (n, A0, A2, wA0_1) h hi hN t ht
def rutf8_p (l : List Nat) : Option (Bool) :=
  (ob (rutf8_l1  90000 l false) fun o1 =>
    (LO.on o1 (fun s_o1 => (some true)) (fun y8 =>
    (some y8))))
theorem rutf8_w {call : CallT} {N : Nat} {h : Hp} {wl_1 : AV} {l : List Nat} (fl_2 : BIn (Low h) h wl_1 l)  (hN : 90000 < N) {r : Bool} (hp : rutf8_p l = some r) :
    ∃ rv rh, evF1 (progS Try.prog (compDrawn Try.prog)) N call 38 [wl_1] h = .ok rv rh ∧ (fun (rv : AV) (rh : Hp) => rv = (AV.bool r) ∧ Eng.Sep (Frz (Low h) h :: []) rh) rv rh := by
  have S : Eng.Sep [Frz (Low h) h] h := Sep.start h
  unfold rutf8_p at hp
  refine fwalk_ok (K := (fun (rv : AV) (rh : Hp) => rv = (AV.bool r) ∧ Eng.Sep (Frz (Low h) h :: []) rh)) (o := (.dis 1 (.exi 0 fun (A0o1 : List Nat) => (.exi 0 fun (A2o1 : Bool) => (.exi 0 fun (wA0_1o1 : AV) => (.exi 0 fun (t4 : T) => (.exi 0 fun (h5 : Hp) => (.lp 0 (.exit 0 (ovT [(0, wA0_1o1), (2, (AV.bool A2o1))] t4) h5) .fin)))))) (.exi 0 fun (y8 : Bool) => (.exi 0 fun (v2o1 : AV) => (.exi 0 fun (t6 : T) => (.exi 0 fun (h7 : Hp) => (.lp 0 (.ret (ovT [(2, v2o1)] t6) h7) .fin))))))) (p := (fun (KK : AV → Hp → Prop) => ((∃ A0o1 : List Nat, ∃ A2o1 : Bool, ∃ wA0_1o1 : AV, ∃ t4 : T, ∃ h5 : Hp, (evC call N (.loop rutf8_l1C) (ovT [(0, wl_1), (2, (AV.bool false))] .lf) h = (.exit 0 (ovT [(0, wA0_1o1), (2, (AV.bool A2o1))] t4) h5) ∧ True ∧ KK (AV.bool true) h5)) ∨ (∃ y8 : Bool, ∃ v2o1 : AV, ∃ t6 : T, ∃ h7 : Hp, (evC call N (.loop rutf8_l1C) (ovT [(0, wl_1), (2, (AV.bool false))] .lf) h = (.ret (ovT [(2, v2o1)] t6) h7) ∧ True ∧ KK v2o1 h7)))) (fun (rv : AV) (rh : Hp) => rv = (AV.bool r) ∧ Eng.Sep (Frz (Low h) h :: []) rh)) (by kernel_rfl) ?_
  have ⟨o1, hb2, hp⟩ := ob_inv hp
  rcases rutf8_l1_t   (o := o1) (n := 90000) (A0 := l) (A2 := false) (wA0_1 := wl_1) ⟨hb2, fl_2, S⟩ hN hN (t := (ovT [(0, wl_1), (2, (AV.bool false))] .lf)) (show slots [0, 2] _ = [some wl_1, some (AV.bool false)] by kernel_rfl) with ⟨io1, ⟨_, A0o1, A2o1, wA0_1o1⟩, t4, h5, qo1, wo1, zo1⟩ | ⟨t6, h7, qo1, zo1⟩
  · obtain ⟨jo1, zo1⟩ := zo1
    subst jo1
    replace zo1 := zo1 rfl
    obtain ⟨uo1, fA0_2o1, So1⟩ := zo1
    replace uo1 := uo1.symm
    subst uo1
    replace hp := LO.on_ex.symm.trans hp
    try dsimp only at hp
    refine Or.inl ⟨A0o1, A2o1, wA0_1o1, t4, h5, (qo1.trans (congrArg (fun t => RS.exit 0 t h5) (ovT_eq wo1).symm)), trivial, ?_⟩
    obtain rfl := Option.some.inj hp
    exact ⟨rfl, So1⟩
  obtain ⟨y8, v2o1, uo1, go1_2, Ko1⟩ := zo1
  replace uo1 := uo1.symm
  subst uo1
  replace go1_2 : tget (pathOf 2) t6 = some v2o1 := Option.some.inj go1_2
  replace hp := LO.on_rt.symm.trans hp
  try dsimp only at hp
  refine Or.inr ⟨y8, v2o1, t6, h7, (qo1.trans (congrArg (fun t => RS.ret t h7) (ovT_eq (l := [(2, v2o1)]) (by show [tget (pathOf 2) t6] = _; rw [go1_2]; rfl)).symm)), trivial, ?_⟩
  obtain rfl := Option.some.inj hp
  exact Ko1
def C_rutf8 (call : CallT) : Prop := ∀ {h : Hp} {wl_1 : AV} {l : List Nat} (fl_2 : BIn (Low h) h wl_1 l) {r : Bool}, rutf8_p l = some r → ∃ rv rh, call 38 [wl_1] h = .ok rv rh ∧ rv = (AV.bool r) ∧ Eng.Sep (Frz (Low h) h :: []) rh
theorem s_rutf8 (d : Nat) : C_rutf8 (CC (d + 1)) := by
  intro h wl_1 l fl_2 r hp
  rw [CC, evF_at (sumT_none rfl)]
  exact rutf8_w (call := CC (d + 0)) (N := 100000) fl_2  (by decide) hp
def rbyte_p (rb : List Nat) (re : Nat) : Option (List Nat × Nat × Nat) :=
  (if re = 0 then (if rb.length = 0 then (some (rb, 3, 0)) else
    (gd (0 < rb.length) (gd (1 ≤ rb.length) (some (rb.drop 1, re, rb.getD 0 0))))) else
    (some (rb, re, 0)))
theorem rbyte_w {call : CallT} {N : Nat} {h : Hp} {h0 : Hp} {G : Nat → Prop} {R : List AObj} {b : Nat} {rest : List AV} {wrb_1 : AV} {rb : List Nat} {re : Nat} (frb_2 : BIn G h0 wrb_1 rb)  {r : List Nat × Nat × Nat} (hp : rbyte_p rb re = some r) (S : Eng.Sep (Cel b (wrb_1 :: (AV.int .i64 (Int.ofNat re)) :: rest) :: Frz G h0 :: R) h) :
    ∃ rv rh, evF1 (progS Try.prog (compDrawn Try.prog)) N call 61 [(AV.ptr b 0)] h = .ok rv rh ∧ (fun (rv : AV) (rh : Hp) => ∃ wk2 : AV, rv = (AV.int .u8 (Int.ofNat r.2.2)) ∧ (r.2.2 < 256) ∧ (BIn G h0 wk2 r.1) ∧ Eng.Sep (Cel b (wk2 :: (AV.int .i64 (Int.ofNat r.2.1)) :: rest) :: Frz G h0 :: R) rh) rv rh := by
  unfold rbyte_p at hp
  refine fwalk_ok (K := (fun (rv : AV) (rh : Hp) => ∃ wk2 : AV, rv = (AV.int .u8 (Int.ofNat r.2.2)) ∧ (r.2.2 < 256) ∧ (BIn G h0 wk2 r.1) ∧ Eng.Sep (Cel b (wk2 :: (AV.int .i64 (Int.ofNat r.2.1)) :: rest) :: Frz G h0 :: R) rh)) (o := (.tell 4 (AV.int .i64 (Int.ofNat re)) (.fork 1 (.tell 3 wrb_1 (.tell 0 (AV.int .i64 (Int.ofNat rb.length)) (.fork 1 (.effx 3 (fun e3 => (AV.tuple [])) (fun e3 => (.tell 3 (AV.int .i64 (Int.ofNat 3)) .fin))) (.tell 3 (AV.int .i64 (Int.ofNat re)) (.tell 0 (AV.bool false) (.tell 3 wrb_1 (.tell 0 (elemP wrb_1 0 1) (.tell 0 (AV.int .u8 (Int.ofNat (rb.getD 0 0))) (.tell 5 wrb_1 (.tell 0 (partS wrb_1 1 rb.length) (.effx 2 (fun e7 => (AV.tuple [])) (fun e7 => .fin)))))))))))) (.tell 4 (AV.int .i64 (Int.ofNat re)) (.tell 0 (AV.bool true) .fin))))) (p := (fun (KK : AV → Hp → Prop) => ((evQ (.loadS (.const (AV.ptr b 1))) .lf h = .ok (AV.int .i64 (Int.ofNat re)) ∧ ((eqI (Int.ofNat re) (Int.ofNat 0) = true → ((evQ (.loadS (.const (AV.ptr b 0))) .lf h = .ok wrb_1 ∧ ((evQ (.lenL (.const wrb_1)) .lf H0 = .ok (AV.int .i64 (Int.ofNat rb.length)) ∧ ((eqI (Int.ofNat rb.length) (Int.ofNat 0) = true → (∃ e3 : Ev, evE (.store 1 (.const (AV.ptr b 1)) (.const (AV.int .i64 (Int.ofNat 3)))) call .lf h = .ok (AV.tuple []) e3.h ∧ ((evQ (.loadS (.const (AV.ptr b 1))) .lf e3.h = .ok (AV.int .i64 (Int.ofNat 3)) ∧ KK (AV.int .u8 (Int.ofNat 0)) e3.h)))) ∧ (eqI (Int.ofNat rb.length) (Int.ofNat 0) = false → ((evQ (.loadS (.const (AV.ptr b 1))) .lf h = .ok (AV.int .i64 (Int.ofNat re)) ∧ ((evQ (.eq .int true (.const (AV.int .i64 (Int.ofNat re))) (.const (AV.int .i64 (Int.ofNat 0)))) .lf H0 = .ok (AV.bool false) ∧ ((evQ (.loadS (.const (AV.ptr b 0))) .lf h = .ok wrb_1 ∧ ((evQ (.idxAddrSl 1 (.const wrb_1) (.const (AV.int .i64 (Int.ofNat 0)))) .lf H0 = .ok (elemP wrb_1 0 1) ∧ ((evQ (.loadS (.const (elemP wrb_1 0 1))) .lf h = .ok (AV.int .u8 (Int.ofNat (rb.getD 0 0))) ∧ ((evQ (.loadS (.const (AV.ptr b 0))) .lf h = .ok wrb_1 ∧ ((evQ (.sliceSl 1 (.const wrb_1) (some (.const (AV.int .i64 (Int.ofNat 1)))) none none) .lf H0 = .ok (partS wrb_1 1 rb.length) ∧ (∃ e7 : Ev, evE (.store 1 (.const (AV.ptr b 0)) (.const (partS wrb_1 1 rb.length))) call .lf h = .ok (AV.tuple []) e7.h ∧ KK (AV.int .u8 (Int.ofNat (rb.getD 0 0))) e7.h)))))))))))))))))))))) ∧ (eqI (Int.ofNat re) (Int.ofNat 0) = false → ((evQ (.loadS (.const (AV.ptr b 1))) .lf h = .ok (AV.int .i64 (Int.ofNat re)) ∧ ((evQ (.eq .int true (.const (AV.int .i64 (Int.ofNat re))) (.const (AV.int .i64 (Int.ofNat 0)))) .lf H0 = .ok (AV.bool true) ∧ KK (AV.int .u8 (Int.ofNat 0)) h))))))))) (fun (rv : AV) (rh : Hp) => ∃ wk2 : AV, rv = (AV.int .u8 (Int.ofNat r.2.2)) ∧ (r.2.2 < 256) ∧ (BIn G h0 wk2 r.1) ∧ Eng.Sep (Cel b (wk2 :: (AV.int .i64 (Int.ofNat r.2.1)) :: rest) :: Frz G h0 :: R) rh)) (by kernel_rfl) ?_
  refine ⟨cel_load S (i := 0) rfl rfl, ?_⟩
  refine ⟨fun c1 => ?_, fun c1 => ?_⟩
  · have rc1 := c1
    replace c1 := eqI_t c1
    replace hp := ift hp c1
    refine ⟨cel_load S (i := 0) rfl rfl, ?_⟩
    refine ⟨q_len (BIn.now S (i := 1) rfl frb_2), ?_⟩
    refine ⟨fun c2 => ?_, fun c2 => ?_⟩
    · replace c2 := eqI_t c2
      replace hp := ift hp c2
      obtain ⟨e3, qe3, se3⟩ := cel_store call S (i := 0) (o := 1) (x := (AV.int .i64 (Int.ofNat 3))) rfl (by first | decide | (simp; done) | (simp only [List.length_cons, List.length_nil]; omega)) rfl
      have S4 : Sep (Cel b (wrb_1 :: (AV.int .i64 (Int.ofNat 3)) :: rest) :: Frz G h0 :: R) e3.h := se3
      refine ⟨e3, qe3, ?_⟩
      refine ⟨cel_load S4 (i := 0) rfl rfl, ?_⟩
      obtain rfl := Option.some.inj hp
      exact ⟨wrb_1, rfl, (show 0 < 256 by decide), frb_2, S4⟩
    replace c2 := eqI_f c2
    replace hp := iff0 hp (c2)
    refine ⟨cel_load S (i := 0) rfl rfl, ?_⟩
    refine ⟨congrArg (fun z => OV.ok (AV.bool (notB z))) (rc1), ?_⟩
    refine ⟨cel_load S (i := 0) rfl rfl, ?_⟩
    have ⟨g3, hp⟩ := gd_inv hp
    refine ⟨q_idxB (l := rb) (BIn.now S (i := 1) rfl frb_2) g3, ?_⟩
    refine ⟨q_byte (l := rb) (BIn.now S (i := 1) rfl frb_2) g3, ?_⟩
    have x4 : rb.getD 0 0 < 256 := getD_lt (BIn.now S (i := 1) rfl frb_2).lt 0
    refine ⟨cel_load S (i := 0) rfl rfl, ?_⟩
    have ⟨g5, hp⟩ := gd_inv hp
    refine ⟨q_sliceFrom (l := rb) (BIn.now S (i := 1) rfl frb_2) g5, ?_⟩
    have b6 := BIn.from (l := rb) (lo := 1) frb_2 g5
    obtain ⟨e7, qe7, se7⟩ := cel_store call S (i := 0) (o := 0) (x := (partS wrb_1 1 rb.length)) rfl (by first | decide | (simp; done) | (simp only [List.length_cons, List.length_nil]; omega)) (BIn.cell b6)
    have S8 : Sep (Cel b ((partS wrb_1 1 rb.length) :: (AV.int .i64 (Int.ofNat re)) :: rest) :: Frz G h0 :: R) e7.h := se7
    refine ⟨e7, qe7, ?_⟩
    obtain rfl := Option.some.inj hp
    exact ⟨(partS wrb_1 1 rb.length), rfl, x4, b6, S8⟩
  have rc1 := c1
  replace c1 := eqI_f c1
  replace hp := iff0 hp (c1)
  refine ⟨cel_load S (i := 0) rfl rfl, ?_⟩
  refine ⟨congrArg (fun z => OV.ok (AV.bool (notB z))) (rc1), ?_⟩
  obtain rfl := Option.some.inj hp
  exact ⟨wrb_1, rfl, (show 0 < 256 by decide), frb_2, S⟩
def C_rbyte (call : CallT) : Prop := ∀ {h : Hp} {h0 : Hp} {G : Nat → Prop} {R : List AObj} {b : Nat} {rest : List AV} {wrb_1 : AV} {rb : List Nat} {re : Nat} (frb_2 : BIn G h0 wrb_1 rb) {r : List Nat × Nat × Nat}, rbyte_p rb re = some r → Eng.Sep (Cel b (wrb_1 :: (AV.int .i64 (Int.ofNat re)) :: rest) :: Frz G h0 :: R) h → ∃ rv rh, call 61 [(AV.ptr b 0)] h = .ok rv rh ∧ ∃ wk2 : AV, rv = (AV.int .u8 (Int.ofNat r.2.2)) ∧ (r.2.2 < 256) ∧ (BIn G h0 wk2 r.1) ∧ Eng.Sep (Cel b (wk2 :: (AV.int .i64 (Int.ofNat r.2.1)) :: rest) :: Frz G h0 :: R) rh
theorem s_rbyte (d : Nat) : C_rbyte (CC (d + 1)) := by
  intro h h0 G R b rest wrb_1 rb re frb_2 r hp S
  rw [CC, evF_at (sumT_none rfl)]
  exact rbyte_w (call := CC (d + 0)) (N := 100000) frb_2  hp S
def rfail_p (rb : List Nat) (re : Nat) (e : Nat) : Option (List Nat × Nat) :=
  (if re = 0 then (some (rb, e)) else
    (some (rb, re)))
theorem rfail_w {call : CallT} {N : Nat} {h : Hp} {h0 : Hp} {G : Nat → Prop} {R : List AObj} {b : Nat} {rest : List AV} {wrb_1 : AV} {rb : List Nat} {re : Nat} {e : Nat} (frb_2 : BIn G h0 wrb_1 rb)  {r : List Nat × Nat} (hp : rfail_p rb re e = some r) (S : Eng.Sep (Cel b (wrb_1 :: (AV.int .i64 (Int.ofNat re)) :: rest) :: Frz G h0 :: R) h) :
    ∃ rv rh, evF1 (progS Try.prog (compDrawn Try.prog)) N call 65 [(AV.ptr b 0), (AV.int .i64 (Int.ofNat e))] h = .ok rv rh ∧ (fun (rv : AV) (rh : Hp) => ∃ wk1 : AV, rv = (AV.tuple []) ∧ (BIn G h0 wk1 r.1) ∧ Eng.Sep (Cel b (wk1 :: (AV.int .i64 (Int.ofNat r.2)) :: rest) :: Frz G h0 :: R) rh) rv rh := by
  unfold rfail_p at hp
  refine fwalk_ok (K := (fun (rv : AV) (rh : Hp) => ∃ wk1 : AV, rv = (AV.tuple []) ∧ (BIn G h0 wk1 r.1) ∧ Eng.Sep (Cel b (wk1 :: (AV.int .i64 (Int.ofNat r.2)) :: rest) :: Frz G h0 :: R) rh)) (o := (.tell 3 (AV.int .i64 (Int.ofNat re)) (.fork 0 (.effx 4 (fun e2 => (AV.tuple [])) (fun e2 => .fin)) .fin))) (p := (fun (KK : AV → Hp → Prop) => ((evQ (.loadS (.const (AV.ptr b 1))) .lf h = .ok (AV.int .i64 (Int.ofNat re)) ∧ ((eqI (Int.ofNat re) (Int.ofNat 0) = true → (∃ e2 : Ev, evE (.store 1 (.const (AV.ptr b 1)) (.const (AV.int .i64 (Int.ofNat e)))) call .lf h = .ok (AV.tuple []) e2.h ∧ KK (AV.tuple []) e2.h)) ∧ (eqI (Int.ofNat re) (Int.ofNat 0) = false → KK (AV.tuple []) h))))) (fun (rv : AV) (rh : Hp) => ∃ wk1 : AV, rv = (AV.tuple []) ∧ (BIn G h0 wk1 r.1) ∧ Eng.Sep (Cel b (wk1 :: (AV.int .i64 (Int.ofNat r.2)) :: rest) :: Frz G h0 :: R) rh)) (by kernel_rfl) ?_
  refine ⟨cel_load S (i := 0) rfl rfl, ?_⟩
  refine ⟨fun c1 => ?_, fun c1 => ?_⟩
  · replace c1 := eqI_t c1
    replace hp := ift hp c1
    obtain ⟨e2, qe2, se2⟩ := cel_store call S (i := 0) (o := 1) (x := (AV.int .i64 (Int.ofNat e))) rfl (by first | decide | (simp; done) | (simp only [List.length_cons, List.length_nil]; omega)) rfl
    have S3 : Sep (Cel b (wrb_1 :: (AV.int .i64 (Int.ofNat e)) :: rest) :: Frz G h0 :: R) e2.h := se2
    refine ⟨e2, qe2, ?_⟩
    obtain rfl := Option.some.inj hp
    exact ⟨wrb_1, rfl, frb_2, S3⟩
  replace c1 := eqI_f c1
  replace hp := iff0 hp (c1)
  obtain rfl := Option.some.inj hp
  exact ⟨wrb_1, rfl, frb_2, S⟩
def C_rfail (call : CallT) : Prop := ∀ {h : Hp} {h0 : Hp} {G : Nat → Prop} {R : List AObj} {b : Nat} {rest : List AV} {wrb_1 : AV} {rb : List Nat} {re : Nat} {e : Nat} (frb_2 : BIn G h0 wrb_1 rb) {r : List Nat × Nat}, rfail_p rb re e = some r → Eng.Sep (Cel b (wrb_1 :: (AV.int .i64 (Int.ofNat re)) :: rest) :: Frz G h0 :: R) h → ∃ rv rh, call 65 [(AV.ptr b 0), (AV.int .i64 (Int.ofNat e))] h = .ok rv rh ∧ ∃ wk1 : AV, rv = (AV.tuple []) ∧ (BIn G h0 wk1 r.1) ∧ Eng.Sep (Cel b (wk1 :: (AV.int .i64 (Int.ofNat r.2)) :: rest) :: Frz G h0 :: R) rh
theorem s_rfail (d : Nat) : C_rfail (CC (d + 1)) := by
  intro h h0 G R b rest wrb_1 rb re e frb_2 r hp S
  rw [CC, evF_at (sumT_none rfl)]
  exact rfail_w (call := CC (d + 0)) (N := 100000) frb_2  hp S
def rnum32_p (rb : List Nat) (re : Nat) : Option (List Nat × Nat × Nat) :=
  (if re ≠ 0 then (some (rb, re, 0)) else
    (gd (rb.length < 90000) (ob (some (readG 32 false rb 0 0 0)) fun x3 =>
    (gd (x3.2.1 ≤ rb.length) (some (rb.drop x3.2.1, x3.2.2, x3.1))))))
theorem rnum32_w {call : CallT} {N : Nat} {h : Hp} {h0 : Hp} {G : Nat → Prop} {R : List AObj} {b : Nat} {rest : List AV} {wrb_1 : AV} {rb : List Nat} {re : Nat} (frb_2 : BIn G h0 wrb_1 rb) (h_number_32_false : ∀ {B : Nat} {h : Hp} {vb : AV} {l : List Nat}, Bytes B h vb l → l.length < 90000 → call 57 [vb, .int .i64 (.ofNat 32), .bool false] h = .ok (numT .u64 (readG 32 false l 0 0 0)) h) {r : List Nat × Nat × Nat} (hp : rnum32_p rb re = some r) (S : Eng.Sep (Cel b (wrb_1 :: (AV.int .i64 (Int.ofNat re)) :: rest) :: Frz G h0 :: R) h) :
    ∃ rv rh, evF1 (progS Try.prog (compDrawn Try.prog)) N call 77 [(AV.ptr b 0), (AV.int .i64 (Int.ofNat 32)), (AV.bool false)] h = .ok rv rh ∧ (fun (rv : AV) (rh : Hp) => ∃ wk2 : AV, rv = (AV.int .u64 (Int.ofNat r.2.2)) ∧ (r.2.2 < 18446744073709551616) ∧ (BIn G h0 wk2 r.1) ∧ Eng.Sep (Cel b (wk2 :: (AV.int .i64 (Int.ofNat r.2.1)) :: rest) :: Frz G h0 :: R) rh) rv rh := by
  unfold rnum32_p at hp
  refine fwalk_ok (K := (fun (rv : AV) (rh : Hp) => ∃ wk2 : AV, rv = (AV.int .u64 (Int.ofNat r.2.2)) ∧ (r.2.2 < 18446744073709551616) ∧ (BIn G h0 wk2 r.1) ∧ Eng.Sep (Cel b (wk2 :: (AV.int .i64 (Int.ofNat r.2.1)) :: rest) :: Frz G h0 :: R) rh)) (o := (.tell 4 (AV.int .i64 (Int.ofNat re)) (.fork 0 .fin (.tell 3 wrb_1 (.exi 2 fun (x3 : Nat × Nat × Nat) => (.eff 0 (AV.tuple [(AV.int .u64 (Int.ofNat x3.1)), (AV.int .i64 (Int.ofNat x3.2.1)), (AV.int .i64 (Int.ofNat x3.2.2))]) h (.tell 13 wrb_1 (.tell 1 (partS wrb_1 x3.2.1 rb.length) (.again 2 (.effx 0 (fun e8 => (AV.tuple [])) (fun e8 => (.again 2 (.effx 0 (fun e10 => (AV.tuple [])) (fun e10 => .fin)))))))))))))) (p := (fun (KK : AV → Hp → Prop) => ((evQ (.loadS (.const (AV.ptr b 1))) .lf h = .ok (AV.int .i64 (Int.ofNat re)) ∧ ((notB (eqI (Int.ofNat re) (Int.ofNat 0)) = true → KK (AV.int .u64 (Int.ofNat 0)) h) ∧ (notB (eqI (Int.ofNat re) (Int.ofNat 0)) = false → ((evQ (.loadS (.const (AV.ptr b 0))) .lf h = .ok wrb_1 ∧ (∃ x3 : Nat × Nat × Nat, (call 57 [wrb_1, (AV.int .i64 (Int.ofNat 32)), (AV.bool false)] h = .ok (AV.tuple [(AV.int .u64 (Int.ofNat x3.1)), (AV.int .i64 (Int.ofNat x3.2.1)), (AV.int .i64 (Int.ofNat x3.2.2))]) h ∧ ((evQ (.loadS (.const (AV.ptr b 0))) .lf h = .ok wrb_1 ∧ ((evQ (.sliceSl 1 (.const wrb_1) (some (.const (AV.int .i64 (Int.ofNat x3.2.1)))) none none) .lf H0 = .ok (partS wrb_1 x3.2.1 rb.length) ∧ ((again (.fieldAddr 1 (.const (AV.ptr b 0))) .lf (AV.ptr b 1) h = true ∧ again (.nilCheck (.const (AV.ptr b 0))) .lf (AV.ptr b 0) h = true ∧ again (.sliceSl 1 (.const wrb_1) (some (.const (AV.int .i64 (Int.ofNat x3.2.1)))) none none) .lf (partS wrb_1 x3.2.1 rb.length) h = true ∧ again (.move (.const (AV.int .i64 (Int.ofNat x3.2.1)))) .lf (AV.int .i64 (Int.ofNat x3.2.1)) h = true ∧ again (.loadS (.const (AV.ptr b 0))) .lf wrb_1 h = true ∧ again (.fieldAddr 0 (.const (AV.ptr b 0))) .lf (AV.ptr b 0) h = true ∧ again (.nilCheck (.const (AV.ptr b 0))) .lf (AV.ptr b 0) h = true ∧ again (.move (.const (AV.ptr b 0))) .lf (AV.ptr b 0) h = true ∧ again (.move (.const (AV.int .i64 (Int.ofNat x3.2.2)))) .lf (AV.int .i64 (Int.ofNat x3.2.2)) h = true ∧ again (.move (.const (AV.ptr b 0))) .lf (AV.ptr b 0) h = true ∧ again (.move (.const (AV.ptr b 0))) .lf (AV.ptr b 0) h = true ∧ True) ∧ (∃ e8 : Ev, evE (.store 1 (.const (AV.ptr b 1)) (.const (AV.int .i64 (Int.ofNat x3.2.2)))) call .lf h = .ok (AV.tuple []) e8.h ∧ ((again (.fieldAddr 0 (.const (AV.ptr b 0))) .lf (AV.ptr b 0) e8.h = true ∧ again (.nilCheck (.const (AV.ptr b 0))) .lf (AV.ptr b 0) e8.h = true ∧ again (.sliceSl 1 (.const wrb_1) (some (.const (AV.int .i64 (Int.ofNat x3.2.1)))) none none) .lf (partS wrb_1 x3.2.1 rb.length) e8.h = true ∧ again (.move (.const (AV.int .i64 (Int.ofNat x3.2.1)))) .lf (AV.int .i64 (Int.ofNat x3.2.1)) e8.h = true ∧ again (.move (.const (AV.ptr b 0))) .lf (AV.ptr b 0) e8.h = true ∧ True) ∧ (∃ e10 : Ev, evE (.store 1 (.const (AV.ptr b 0)) (.const (partS wrb_1 x3.2.1 rb.length))) call .lf e8.h = .ok (AV.tuple []) e10.h ∧ KK (AV.int .u64 (Int.ofNat x3.1)) e10.h))))))))))))))))) (fun (rv : AV) (rh : Hp) => ∃ wk2 : AV, rv = (AV.int .u64 (Int.ofNat r.2.2)) ∧ (r.2.2 < 18446744073709551616) ∧ (BIn G h0 wk2 r.1) ∧ Eng.Sep (Cel b (wk2 :: (AV.int .i64 (Int.ofNat r.2.1)) :: rest) :: Frz G h0 :: R) rh)) (by kernel_rfl) ?_
  refine ⟨cel_load S (i := 0) rfl rfl, ?_⟩
  refine ⟨fun c1 => ?_, fun c1 => ?_⟩
  · replace c1 := eqI_f (notB_t c1)
    replace hp := ift hp c1
    obtain rfl := Option.some.inj hp
    exact ⟨wrb_1, rfl, (show 0 < 18446744073709551616 by decide), frb_2, S⟩
  replace c1 := eqI_t (notB_f c1)
  replace hp := iff0 hp (nneO c1)
  refine ⟨cel_load S (i := 0) rfl rfl, ?_⟩
  have ⟨g2, hp⟩ := gd_inv hp
  have ⟨x3, hb4, hp⟩ := ob_inv hp
  replace hb4 := Option.some.inj hb4
  have g5 : x3.1 < 18446744073709551616 := by rw [← hb4]; exact readG_lt _ _ _ _ (by decide)
  refine ⟨x3, (by rw [← hb4]; exact h_number_32_false (BIn.now S (i := 1) rfl frb_2) g2), ?_⟩
  refine ⟨cel_load S (i := 0) rfl rfl, ?_⟩
  have ⟨g6, hp⟩ := gd_inv hp
  refine ⟨q_sliceFrom (l := rb) (BIn.now S (i := 1) rfl frb_2) g6, ?_⟩
  have b7 := BIn.from (l := rb) (lo := x3.2.1) frb_2 g6
  refine ⟨⟨again_of (rfl) (avEq_ptr _ _), again_of (rfl) (avEq_ptr _ _), again_of (q_sliceFrom (l := rb) (BIn.now S (i := 1) rfl frb_2) g6) (BIn.same b7), again_of (rfl) (avEq_int _ _), again_of (cel_load S (i := 0) rfl rfl) (BIn.same frb_2), again_of (rfl) (avEq_ptr _ _), again_of (rfl) (avEq_ptr _ _), again_of (rfl) (avEq_ptr _ _), again_of (rfl) (avEq_int _ _), again_of (rfl) (avEq_ptr _ _), again_of (rfl) (avEq_ptr _ _), trivial⟩, ?_⟩
  obtain ⟨e8, qe8, se8⟩ := cel_store call S (i := 0) (o := 1) (x := (AV.int .i64 (Int.ofNat x3.2.2))) rfl (by first | decide | (simp; done) | (simp only [List.length_cons, List.length_nil]; omega)) rfl
  have S9 : Sep (Cel b (wrb_1 :: (AV.int .i64 (Int.ofNat x3.2.2)) :: rest) :: Frz G h0 :: R) e8.h := se8
  refine ⟨e8, qe8, ?_⟩
  refine ⟨⟨again_of (rfl) (avEq_ptr _ _), again_of (rfl) (avEq_ptr _ _), again_of (q_sliceFrom (l := rb) (BIn.now S (i := 1) rfl frb_2) g6) (BIn.same b7), again_of (rfl) (avEq_int _ _), again_of (rfl) (avEq_ptr _ _), trivial⟩, ?_⟩
  obtain ⟨e10, qe10, se10⟩ := cel_store call S9 (i := 0) (o := 0) (x := (partS wrb_1 x3.2.1 rb.length)) rfl (by first | decide | (simp; done) | (simp only [List.length_cons, List.length_nil]; omega)) (BIn.cell b7)
  have S11 : Sep (Cel b ((partS wrb_1 x3.2.1 rb.length) :: (AV.int .i64 (Int.ofNat x3.2.2)) :: rest) :: Frz G h0 :: R) e10.h := se10
  refine ⟨e10, qe10, ?_⟩
  obtain rfl := Option.some.inj hp
  exact ⟨(partS wrb_1 x3.2.1 rb.length), rfl, g5, b7, S11⟩
def C_rnum32 (call : CallT) : Prop := ∀ {h : Hp} {h0 : Hp} {G : Nat → Prop} {R : List AObj} {b : Nat} {rest : List AV} {wrb_1 : AV} {rb : List Nat} {re : Nat} (frb_2 : BIn G h0 wrb_1 rb) {r : List Nat × Nat × Nat}, rnum32_p rb re = some r → Eng.Sep (Cel b (wrb_1 :: (AV.int .i64 (Int.ofNat re)) :: rest) :: Frz G h0 :: R) h → ∃ rv rh, call 77 [(AV.ptr b 0), (AV.int .i64 (Int.ofNat 32)), (AV.bool false)] h = .ok rv rh ∧ ∃ wk2 : AV, rv = (AV.int .u64 (Int.ofNat r.2.2)) ∧ (r.2.2 < 18446744073709551616) ∧ (BIn G h0 wk2 r.1) ∧ Eng.Sep (Cel b (wk2 :: (AV.int .i64 (Int.ofNat r.2.1)) :: rest) :: Frz G h0 :: R) rh
theorem s_rnum32 (d : Nat) : C_rnum32 (CC (d + 2)) := by
  intro h h0 G R b rest wrb_1 rb re frb_2 r hp S
  rw [CC, evF_at (sumT_none rfl)]
  exact rnum32_w (call := CC (d + 1)) (N := 100000) frb_2 (fun {B h vb l} hb hl => s_number (d + 0) 32 false (by decide) B h vb l hb hl (by decide)) hp S
def ru32_p (rb : List Nat) (re : Nat) : Option (List Nat × Nat × Nat) :=
  (ob (rnum32_p rb re) fun x1 =>
    (some (x1.1, x1.2.1, x1.2.2 % 4294967296)))
theorem ru32_w {call : CallT} {N : Nat} {h : Hp} {h0 : Hp} {G : Nat → Prop} {R : List AObj} {b : Nat} {rest : List AV} {wrb_1 : AV} {rb : List Nat} {re : Nat} (frb_2 : BIn G h0 wrb_1 rb) (h_rnum32 : C_rnum32 call) {r : List Nat × Nat × Nat} (hp : ru32_p rb re = some r) (S : Eng.Sep (Cel b (wrb_1 :: (AV.int .i64 (Int.ofNat re)) :: rest) :: Frz G h0 :: R) h) :
    ∃ rv rh, evF1 (progS Try.prog (compDrawn Try.prog)) N call 63 [(AV.ptr b 0)] h = .ok rv rh ∧ (fun (rv : AV) (rh : Hp) => ∃ wk2 : AV, rv = (AV.int .u32 (Int.ofNat r.2.2)) ∧ (r.2.2 < 4294967296) ∧ (BIn G h0 wk2 r.1) ∧ Eng.Sep (Cel b (wk2 :: (AV.int .i64 (Int.ofNat r.2.1)) :: rest) :: Frz G h0 :: R) rh) rv rh := by
  unfold ru32_p at hp
  refine fwalk_ok (K := (fun (rv : AV) (rh : Hp) => ∃ wk2 : AV, rv = (AV.int .u32 (Int.ofNat r.2.2)) ∧ (r.2.2 < 4294967296) ∧ (BIn G h0 wk2 r.1) ∧ Eng.Sep (Cel b (wk2 :: (AV.int .i64 (Int.ofNat r.2.1)) :: rest) :: Frz G h0 :: R) rh)) (o := (.exi 2 fun (x1 : List Nat × Nat × Nat) => (.exi 0 fun (w11 : AV) => (.exi 0 fun (h7 : Hp) => (.eff 0 (AV.int .u64 (Int.ofNat x1.2.2)) h7 (.tell 2 (AV.int .u32 (Int.ofNat (x1.2.2 % 4294967296))) .fin)))))) (p := (fun (KK : AV → Hp → Prop) => (∃ x1 : List Nat × Nat × Nat, ∃ w11 : AV, ∃ h7 : Hp, (call 77 [(AV.ptr b 0), (AV.int .i64 (Int.ofNat 32)), (AV.bool false)] h = .ok (AV.int .u64 (Int.ofNat x1.2.2)) h7 ∧ ((evQ (.toInt .u32 (.const (AV.int .u64 (Int.ofNat x1.2.2)))) .lf H0 = .ok (AV.int .u32 (Int.ofNat (x1.2.2 % 4294967296))) ∧ KK (AV.int .u32 (Int.ofNat (x1.2.2 % 4294967296))) h7))))) (fun (rv : AV) (rh : Hp) => ∃ wk2 : AV, rv = (AV.int .u32 (Int.ofNat r.2.2)) ∧ (r.2.2 < 4294967296) ∧ (BIn G h0 wk2 r.1) ∧ Eng.Sep (Cel b (wk2 :: (AV.int .i64 (Int.ofNat r.2.1)) :: rest) :: Frz G h0 :: R) rh)) (by kernel_rfl) ?_
  have ⟨x1, hb2, hp⟩ := ob_inv hp
  obtain ⟨v6, h7, q8, w11, e9, f5, f12, S10⟩ := h_rnum32 frb_2 hb2 S
  replace e9 := e9.symm
  subst e9
  have S13 : Sep (Cel b (w11 :: (AV.int .i64 (Int.ofNat x1.2.1)) :: rest) :: Frz G h0 :: R) h7 := S10
  refine ⟨x1, w11, h7, q8, ?_⟩
  refine ⟨u_conv rfl, ?_⟩
  have g14 : x1.2.2 % 4294967296 < 4294967296 := Nat.mod_lt _ (by decide)
  obtain rfl := Option.some.inj hp
  exact ⟨w11, rfl, g14, f12, S13⟩
def C_ru32 (call : CallT) : Prop := ∀ {h : Hp} {h0 : Hp} {G : Nat → Prop} {R : List AObj} {b : Nat} {rest : List AV} {wrb_1 : AV} {rb : List Nat} {re : Nat} (frb_2 : BIn G h0 wrb_1 rb) {r : List Nat × Nat × Nat}, ru32_p rb re = some r → Eng.Sep (Cel b (wrb_1 :: (AV.int .i64 (Int.ofNat re)) :: rest) :: Frz G h0 :: R) h → ∃ rv rh, call 63 [(AV.ptr b 0)] h = .ok rv rh ∧ ∃ wk2 : AV, rv = (AV.int .u32 (Int.ofNat r.2.2)) ∧ (r.2.2 < 4294967296) ∧ (BIn G h0 wk2 r.1) ∧ Eng.Sep (Cel b (wk2 :: (AV.int .i64 (Int.ofNat r.2.1)) :: rest) :: Frz G h0 :: R) rh
theorem s_ru32 (d : Nat) : C_ru32 (CC (d + 3)) := by
  intro h h0 G R b rest wrb_1 rb re frb_2 r hp S
  rw [CC, evF_at (sumT_none rfl)]
  exact ru32_w (call := CC (d + 2)) (N := 100000) frb_2 (s_rnum32 (d + 0)) hp S
def rtake_p (rb : List Nat) (re : Nat) (x : Nat) : Option (List Nat × Nat × List Nat) :=
  (if re = 0 then (gd (rb.length < 9223372036854775808) (if rb.length < x then (some (rb, 3, [])) else
    (gd (0 + ((rb.take x).length) ≤ 70368744177664) (some (rb.drop x, re, rb.take x))))) else
    (some (rb, re, [])))
theorem rtake_w {call : CallT} {N : Nat} {h : Hp} {h0 : Hp} {G : Nat → Prop} {R : List AObj} {b : Nat} {rest : List AV} {wrb_1 : AV} {rb : List Nat} {re : Nat} {x : Nat} (frb_2 : BIn G h0 wrb_1 rb) (fx_1 : x < 4294967296)  {r : List Nat × Nat × List Nat} (hp : rtake_p rb re x = some r) (S : Eng.Sep (Cel b (wrb_1 :: (AV.int .i64 (Int.ofNat re)) :: rest) :: Frz G h0 :: R) h) :
    ∃ rv rh, evF1 (progS Try.prog (compDrawn Try.prog)) N call 64 [(AV.ptr b 0), (AV.int .u32 (Int.ofNat x))] h = .ok rv rh ∧ (fun (rv : AV) (rh : Hp) => ∃ wk1 : AV, ∃ wk3 : AV, rv = wk1 ∧ (∀ x ∈ r.2.2, x < 256) ∧ (BIn G h0 wk3 r.1) ∧ Eng.Sep (OwnO 1 wk1 r.2.2.length (u8s r.2.2) :: Cel b (wk3 :: (AV.int .i64 (Int.ofNat r.2.1)) :: rest) :: Frz G h0 :: R) rh) rv rh := by
  unfold rtake_p at hp
  refine fwalk_ok (K := (fun (rv : AV) (rh : Hp) => ∃ wk1 : AV, ∃ wk3 : AV, rv = wk1 ∧ (∀ x ∈ r.2.2, x < 256) ∧ (BIn G h0 wk3 r.1) ∧ Eng.Sep (OwnO 1 wk1 r.2.2.length (u8s r.2.2) :: Cel b (wk3 :: (AV.int .i64 (Int.ofNat r.2.1)) :: rest) :: Frz G h0 :: R) rh)) (o := (.tell 4 (AV.int .i64 (Int.ofNat re)) (.fork 1 (.tell 1 (AV.int .u64 (Int.ofNat x)) (.tell 3 wrb_1 (.tell 0 (AV.int .i64 (Int.ofNat rb.length)) (.tell 0 (AV.int .u64 (Int.ofNat rb.length)) (.fork 1 (.effx 3 (fun e6 => (AV.tuple [])) (fun e6 => (.tell 3 (AV.int .i64 (Int.ofNat 3)) .fin))) (.tell 3 (AV.int .i64 (Int.ofNat re)) (.tell 0 (AV.bool false) (.tell 4 wrb_1 (.tell 1 (partS wrb_1 0 x) (.effx 0 (fun e8 => e8.v) (fun e8 => (.tell 5 wrb_1 (.tell 1 (partS wrb_1 x rb.length) (.effx 2 (fun e13 => (AV.tuple [])) (fun e13 => .fin))))))))))))))) (.tell 4 (AV.int .i64 (Int.ofNat re)) (.tell 0 (AV.bool true) .fin))))) (p := (fun (KK : AV → Hp → Prop) => ((evQ (.loadS (.const (AV.ptr b 1))) .lf h = .ok (AV.int .i64 (Int.ofNat re)) ∧ ((eqI (Int.ofNat re) (Int.ofNat 0) = true → ((evQ (.toInt .u64 (.const (AV.int .u32 (Int.ofNat x)))) .lf H0 = .ok (AV.int .u64 (Int.ofNat x)) ∧ ((evQ (.loadS (.const (AV.ptr b 0))) .lf h = .ok wrb_1 ∧ ((evQ (.lenL (.const wrb_1)) .lf H0 = .ok (AV.int .i64 (Int.ofNat rb.length)) ∧ ((evQ (.toInt .u64 (.const (AV.int .i64 (Int.ofNat rb.length)))) .lf H0 = .ok (AV.int .u64 (Int.ofNat rb.length)) ∧ ((ltI (Int.ofNat rb.length) (Int.ofNat x) = true → (∃ e6 : Ev, evE (.store 1 (.const (AV.ptr b 1)) (.const (AV.int .i64 (Int.ofNat 3)))) call .lf h = .ok (AV.tuple []) e6.h ∧ ((evQ (.loadS (.const (AV.ptr b 1))) .lf e6.h = .ok (AV.int .i64 (Int.ofNat 3)) ∧ KK AV.nilSlice e6.h)))) ∧ (ltI (Int.ofNat rb.length) (Int.ofNat x) = false → ((evQ (.loadS (.const (AV.ptr b 1))) .lf h = .ok (AV.int .i64 (Int.ofNat re)) ∧ ((evQ (.eq .int true (.const (AV.int .i64 (Int.ofNat re))) (.const (AV.int .i64 (Int.ofNat 0)))) .lf H0 = .ok (AV.bool false) ∧ ((evQ (.loadS (.const (AV.ptr b 0))) .lf (hpush h (mkCells [] 0)) = .ok wrb_1 ∧ ((evQ (.sliceSl 1 (.const wrb_1) none (some (.const (AV.int .u32 (Int.ofNat x)))) none) .lf H0 = .ok (partS wrb_1 0 x) ∧ (∃ e8 : Ev, evE (.append 1 1 (.const (AV.slice (Hp.next h) 0 0 0 1 true)) (.const (partS wrb_1 0 x))) call .lf (hpush h (mkCells [] 0)) = .ok e8.v e8.h ∧ ((evQ (.loadS (.const (AV.ptr b 0))) .lf e8.h = .ok wrb_1 ∧ ((evQ (.sliceSl 1 (.const wrb_1) (some (.const (AV.int .u32 (Int.ofNat x)))) none none) .lf H0 = .ok (partS wrb_1 x rb.length) ∧ (∃ e13 : Ev, evE (.store 1 (.const (AV.ptr b 0)) (.const (partS wrb_1 x rb.length))) call .lf e8.h = .ok (AV.tuple []) e13.h ∧ KK e8.v e13.h))))))))))))))))))))))))) ∧ (eqI (Int.ofNat re) (Int.ofNat 0) = false → ((evQ (.loadS (.const (AV.ptr b 1))) .lf h = .ok (AV.int .i64 (Int.ofNat re)) ∧ ((evQ (.eq .int true (.const (AV.int .i64 (Int.ofNat re))) (.const (AV.int .i64 (Int.ofNat 0)))) .lf H0 = .ok (AV.bool true) ∧ KK AV.nilSlice h))))))))) (fun (rv : AV) (rh : Hp) => ∃ wk1 : AV, ∃ wk3 : AV, rv = wk1 ∧ (∀ x ∈ r.2.2, x < 256) ∧ (BIn G h0 wk3 r.1) ∧ Eng.Sep (OwnO 1 wk1 r.2.2.length (u8s r.2.2) :: Cel b (wk3 :: (AV.int .i64 (Int.ofNat r.2.1)) :: rest) :: Frz G h0 :: R) rh)) (by kernel_rfl) ?_
  refine ⟨cel_load S (i := 0) rfl rfl, ?_⟩
  refine ⟨fun c1 => ?_, fun c1 => ?_⟩
  · have rc1 := c1
    replace c1 := eqI_t c1
    replace hp := ift hp c1
    refine ⟨u_conv' rfl (Nat.lt_of_lt_of_le fx_1 (by decide)), ?_⟩
    refine ⟨cel_load S (i := 0) rfl rfl, ?_⟩
    refine ⟨q_len (BIn.now S (i := 1) rfl frb_2), ?_⟩
    have ⟨g4, hp⟩ := gd_inv hp
    refine ⟨u_conv' rfl (Nat.lt_of_lt_of_le g4 (by decide)), ?_⟩
    refine ⟨fun c5 => ?_, fun c5 => ?_⟩
    · replace c5 := ltI_t c5
      replace hp := ift hp c5
      obtain ⟨e6, qe6, se6⟩ := cel_store call S (i := 0) (o := 1) (x := (AV.int .i64 (Int.ofNat 3))) rfl (by first | decide | (simp; done) | (simp only [List.length_cons, List.length_nil]; omega)) rfl
      have S7 : Sep (Cel b (wrb_1 :: (AV.int .i64 (Int.ofNat 3)) :: rest) :: Frz G h0 :: R) e6.h := se6
      refine ⟨e6, qe6, ?_⟩
      refine ⟨cel_load S7 (i := 0) rfl rfl, ?_⟩
      have S8 : Sep (OwnO 1 AV.nilSlice (([] : List Nat).length) (u8s []) :: Cel b (wrb_1 :: (AV.int .i64 (Int.ofNat 3)) :: rest) :: Frz G h0 :: R) e6.h := own_nil S7 1
      obtain rfl := Option.some.inj hp
      exact ⟨AV.nilSlice, wrb_1, rfl, nil_lt, frb_2, S8⟩
    replace c5 := ltI_f c5
    replace hp := iff0 hp (nltO c5)
    refine ⟨cel_load S (i := 0) rfl rfl, ?_⟩
    refine ⟨congrArg (fun z => OV.ok (AV.bool (notB z))) (rc1), ?_⟩
    have S6 : Sep (OwnO 1 (AV.slice (Hp.next h) 0 0 0 1 true) 0 (u8s []) :: Cel b (wrb_1 :: (AV.int .i64 (Int.ofNat re)) :: rest) :: Frz G h0 :: R) (hpush h (mkCells [] 0)) := own_new S 1 0 [] true rfl
    refine ⟨cel_load S6 (i := 1) rfl rfl, ?_⟩
    refine ⟨q_sliceToK (l := rb) (BIn.now S6 (i := 2) rfl frb_2) c5, ?_⟩
    have b7 := BIn.to (l := rb) (hi := x) frb_2 c5
    have ⟨g9, hp⟩ := gd_inv hp
    obtain ⟨e8, qe8, se8⟩ := own_append (bytes := 1) call S6 (i := 0) rfl (x := (partS wrb_1 0 x)) (m := (rb.take x).length) (xs := u8s (rb.take x)) (fun z k => src_bytes (BIn.now S6 (i := 2) rfl b7) z k) (u8s_len1 _) (u8s_cells _) (by omega) g9
    have S10 : Sep (OwnO 1 e8.v (0 + ((rb.take x).length)) ((u8s []) ++ (u8s (rb.take x))) :: Cel b (wrb_1 :: (AV.int .i64 (Int.ofNat re)) :: rest) :: Frz G h0 :: R) e8.h := se8
    have S11 : Sep (OwnO 1 e8.v ((rb.take x).length) (u8s (rb.take x)) :: Cel b (wrb_1 :: (AV.int .i64 (Int.ofNat re)) :: rest) :: Frz G h0 :: R) e8.h := (by have z := S10; rw [show u8s (rb.take x) = u8s [] ++ u8s (rb.take x) from by simp [u8s_eq], show (rb.take x).length = 0 + ((rb.take x).length) from by simp]; exact z)
    refine ⟨e8, qe8, ?_⟩
    refine ⟨cel_load S11 (i := 1) rfl rfl, ?_⟩
    refine ⟨q_sliceFromK (l := rb) (BIn.now S11 (i := 2) rfl frb_2) c5, ?_⟩
    have b12 := BIn.from (l := rb) (lo := x) frb_2 c5
    obtain ⟨e13, qe13, se13⟩ := cel_store call S11 (i := 1) (o := 0) (x := (partS wrb_1 x rb.length)) rfl (by first | decide | (simp; done) | (simp only [List.length_cons, List.length_nil]; omega)) (BIn.cell b12)
    have S14 : Sep (OwnO 1 e8.v ((rb.take x).length) (u8s (rb.take x)) :: Cel b ((partS wrb_1 x rb.length) :: (AV.int .i64 (Int.ofNat re)) :: rest) :: Frz G h0 :: R) e13.h := se13
    refine ⟨e13, qe13, ?_⟩
    obtain rfl := Option.some.inj hp
    exact ⟨e8.v, (partS wrb_1 x rb.length), rfl, (BIn.now S6 (i := 2) rfl b7).lt, b12, S14⟩
  have rc1 := c1
  replace c1 := eqI_f c1
  replace hp := iff0 hp (c1)
  refine ⟨cel_load S (i := 0) rfl rfl, ?_⟩
  refine ⟨congrArg (fun z => OV.ok (AV.bool (notB z))) (rc1), ?_⟩
  have S2 : Sep (OwnO 1 AV.nilSlice (([] : List Nat).length) (u8s []) :: Cel b (wrb_1 :: (AV.int .i64 (Int.ofNat re)) :: rest) :: Frz G h0 :: R) h := own_nil S 1
  obtain rfl := Option.some.inj hp
  exact ⟨AV.nilSlice, wrb_1, rfl, nil_lt, frb_2, S2⟩
def C_rtake (call : CallT) : Prop := ∀ {h : Hp} {h0 : Hp} {G : Nat → Prop} {R : List AObj} {b : Nat} {rest : List AV} {wrb_1 : AV} {rb : List Nat} {re : Nat} {x : Nat} (frb_2 : BIn G h0 wrb_1 rb) (fx_1 : x < 4294967296) {r : List Nat × Nat × List Nat}, rtake_p rb re x = some r → Eng.Sep (Cel b (wrb_1 :: (AV.int .i64 (Int.ofNat re)) :: rest) :: Frz G h0 :: R) h → ∃ rv rh, call 64 [(AV.ptr b 0), (AV.int .u32 (Int.ofNat x))] h = .ok rv rh ∧ ∃ wk1 : AV, ∃ wk3 : AV, rv = wk1 ∧ (∀ x ∈ r.2.2, x < 256) ∧ (BIn G h0 wk3 r.1) ∧ Eng.Sep (OwnO 1 wk1 r.2.2.length (u8s r.2.2) :: Cel b (wk3 :: (AV.int .i64 (Int.ofNat r.2.1)) :: rest) :: Frz G h0 :: R) rh
theorem s_rtake (d : Nat) : C_rtake (CC (d + 1)) := by
  intro h h0 G R b rest wrb_1 rb re x frb_2 fx_1 r hp S
  rw [CC, evF_at (sumT_none rfl)]
  exact rtake_w (call := CC (d + 0)) (N := 100000) frb_2 fx_1  hp S
def rsplit_l1  : Nat → List Nat → Nat → List (Nat × List Nat) → Nat → List Nat → Nat → Option (LO (List Nat × Nat × List (Nat × List Nat) × Nat × List Nat × Nat) (List (Nat × List Nat) × Nat))
  | 0, _, _, _, _, _, _ => none
  | m + 1, A2, A3, A5, A6, Q101_0, Q101_1 =>
    (if Q101_1 = 0 then (if 0 < Q101_0.length then (ob (rbyte_p Q101_0 Q101_1) fun x4 =>
    (if 12 < x4.2.2 then (some (LO.rt ([], 2))) else
    (if 0 < x4.2.2 then (ob (rank_p x4.2.2) fun x22 =>
    (if x22 ≤ A6 then (some (LO.rt ([], 2))) else
    (ob (ru32_p x4.1 x4.2.1) fun x34 =>
    (ob (rtake_p x34.1 x34.2.1 x34.2.2) fun x47 =>
    (if x47.2.1 ≠ 0 then (some (LO.ex (A2, A3, A5, A6, x47.1, x47.2.1))) else
    (if x4.2.2 = 0 then (ob (ru32_p x47.2.2 0) fun x68 =>
    (ob (rtake_p x68.1 x68.2.1 x68.2.2) fun x81 =>
    (if x81.2.1 ≠ 0 then (ob (rfail_p x47.1 x47.2.1 2) fun x97 =>
    (gd ((A5.length + 1) * 32 ≤ 70368744177664) (rsplit_l1  m A2 A3 (A5 ++ [(x4.2.2, x47.2.2)]) A6 x97.1 x97.2))) else
    (ob (rutf8_p x81.2.2) fun x96 =>
    (if x96 = false then (ob (rfail_p x47.1 x47.2.1 2) fun x108 =>
    (gd ((A5.length + 1) * 32 ≤ 70368744177664) (rsplit_l1  m A2 A3 (A5 ++ [(x4.2.2, x47.2.2)]) A6 x108.1 x108.2))) else
    (gd ((A5.length + 1) * 32 ≤ 70368744177664) (rsplit_l1  m A2 A3 (A5 ++ [(x4.2.2, x47.2.2)]) A6 x47.1 x47.2.1))))))) else
    (ob (rank_p x4.2.2) fun x65 =>
    (gd ((A5.length + 1) * 32 ≤ 70368744177664) (rsplit_l1  m A2 A3 (A5 ++ [(x4.2.2, x47.2.2)]) x65 x47.1 x47.2.1))))))))) else
    (ob (ru32_p x4.1 x4.2.1) fun x23 =>
    (ob (rtake_p x23.1 x23.2.1 x23.2.2) fun x36 =>
    (if x36.2.1 ≠ 0 then (some (LO.ex (A2, A3, A5, A6, x36.1, x36.2.1))) else
    (if x4.2.2 = 0 then (ob (ru32_p x36.2.2 0) fun x57 =>
    (ob (rtake_p x57.1 x57.2.1 x57.2.2) fun x70 =>
    (if x70.2.1 ≠ 0 then (ob (rfail_p x36.1 x36.2.1 2) fun x86 =>
    (gd ((A5.length + 1) * 32 ≤ 70368744177664) (rsplit_l1  m A2 A3 (A5 ++ [(x4.2.2, x36.2.2)]) A6 x86.1 x86.2))) else
    (ob (rutf8_p x70.2.2) fun x85 =>
    (if x85 = false then (ob (rfail_p x36.1 x36.2.1 2) fun x97 =>
    (gd ((A5.length + 1) * 32 ≤ 70368744177664) (rsplit_l1  m A2 A3 (A5 ++ [(x4.2.2, x36.2.2)]) A6 x97.1 x97.2))) else
    (gd ((A5.length + 1) * 32 ≤ 70368744177664) (rsplit_l1  m A2 A3 (A5 ++ [(x4.2.2, x36.2.2)]) A6 x36.1 x36.2.1))))))) else
    (ob (rank_p x4.2.2) fun x54 =>
    (gd ((A5.length + 1) * 32 ≤ 70368744177664) (rsplit_l1  m A2 A3 (A5 ++ [(x4.2.2, x36.2.2)]) x54 x36.1 x36.2.1)))))))))) else
    (some (LO.ex (A2, A3, A5, A6, Q101_0, Q101_1)))) else
    (some (LO.ex (A2, A3, A5, A6, Q101_0, Q101_1))))
noncomputable def rsplit_l1C : AC := (.seq (.seq (.region [⟨(some 23), .q (.move (.tmp 4)), none⟩, ⟨(some 24), .q (.nilCheck (.tmp 23)), none⟩, ⟨(some 25), .q (.fieldAddr 0 (.tmp 24)), none⟩, ⟨(some 26), .q (.fieldAddr 1 (.tmp 25)), none⟩, ⟨(some 27), .q (.loadS (.tmp 26)), none⟩, ⟨(some 28), .q (.eq .int false (.tmp 27) (.const (AV.int .i64 (Int.ofNat 0)))), none⟩, ⟨(some 29), .q (.move (.tmp 28)), none⟩, ⟨(some 30), .q (.move (.tmp 4)), (some (29, true))⟩, ⟨(some 31), .q (.nilCheck (.tmp 30)), (some (29, true))⟩, ⟨(some 32), .q (.fieldAddr 0 (.tmp 31)), (some (29, true))⟩, ⟨(some 33), .q (.fieldAddr 0 (.tmp 32)), (some (29, true))⟩, ⟨(some 34), .q (.loadS (.tmp 33)), (some (29, true))⟩, ⟨(some 35), .q (.lenL (.tmp 34)), (some (29, true))⟩, ⟨(some 36), .q (.bin .gtr (.tmp 35) (.const (AV.int .i64 (Int.ofNat 0)))), (some (29, true))⟩, ⟨(some 37), .q (.pick (.tmp 29) (.tmp 36) (.const (AV.bool false))), none⟩]) (.cond (.tmp 37) .skip (.exit 0))) (.block 1 (.seq (.region [⟨(some 38), .q (.move (.tmp 4)), none⟩, ⟨(some 39), .q (.nilCheck (.tmp 38)), none⟩, ⟨(some 40), .q (.fieldAddr 0 (.tmp 39)), none⟩, ⟨(some 41), .e (.call (.const (AV.func (.func 61) [] [])) [(.tmp 40)]), none⟩, ⟨(some 42), .q (.build [(AV.int .u8 (Int.ofNat 0)), AV.nilSlice] [(0, 1, (.tmp 41))]), none⟩, ⟨(some 7), .l (.alloc [(AV.int .u8 (Int.ofNat 0)), AV.nilSlice]), none⟩, ⟨none, .e (.store 2 (.tmp 7) (.tmp 42)), none⟩]) (.seq (.seq (.region [⟨(some 43), .q (.fieldAddr 0 (.tmp 7)), none⟩, ⟨(some 44), .q (.loadS (.tmp 43)), none⟩, ⟨(some 45), .q (.bin .gtr (.tmp 44) (.const (AV.int .u8 (Int.ofNat 12)))), none⟩, ⟨(some 46), .q (.move (.tmp 45)), none⟩, ⟨(some 47), .q (.fieldAddr 0 (.tmp 7)), (some (46, false))⟩, ⟨(some 48), .q (.loadS (.tmp 47)), (some (46, false))⟩, ⟨(some 49), .q (.bin .gtr (.tmp 48) (.const (AV.int .u8 (Int.ofNat 0)))), (some (46, false))⟩, ⟨(some 50), .q (.move (.tmp 49)), (some (46, false))⟩, ⟨(some 51), .q (.fieldAddr 0 (.tmp 7)), (some (50, true))⟩, ⟨(some 52), .q (.loadS (.tmp 51)), (some (50, true))⟩, ⟨(some 53), .e (.call (.const (AV.func (.func 62) [] [])) [(.tmp 52)]), (some (50, true))⟩, ⟨(some 54), .q (.move (.tmp 6)), (some (50, true))⟩, ⟨(some 55), .q (.bin .leq (.tmp 53) (.tmp 54)), (some (50, true))⟩, ⟨(some 56), .q (.pick (.tmp 50) (.tmp 55) (.const (AV.bool false))), (some (46, false))⟩, ⟨(some 57), .q (.pick (.tmp 46) (.const (AV.bool true)) (.tmp 56)), none⟩]) (.cond (.tmp 57) (.seq (.region [⟨(some 2), .q (.move (.const AV.nilSlice)), none⟩, ⟨(some 3), .q (.move (.const (AV.int .i64 (Int.ofNat 2)))), none⟩]) .ret) .skip)) (.seq (.region [⟨(some 58), .q (.move (.tmp 4)), none⟩, ⟨(some 59), .q (.nilCheck (.tmp 58)), none⟩, ⟨(some 60), .q (.fieldAddr 0 (.tmp 59)), none⟩, ⟨(some 61), .e (.call (.const (AV.func (.func 63) [] [])) [(.tmp 60)]), none⟩, ⟨(some 8), .q (.move (.tmp 61)), none⟩]) (.seq (.region [⟨(some 62), .q (.move (.tmp 4)), none⟩, ⟨(some 63), .q (.nilCheck (.tmp 62)), none⟩, ⟨(some 64), .q (.fieldAddr 0 (.tmp 63)), none⟩, ⟨(some 65), .q (.move (.tmp 8)), none⟩, ⟨(some 66), .e (.call (.const (AV.func (.func 64) [] [])) [(.tmp 64), (.tmp 65)]), none⟩, ⟨(some 67), .q (.fieldAddr 1 (.tmp 7)), none⟩, ⟨none, .e (.store 1 (.tmp 67) (.tmp 66)), none⟩]) (.seq (.seq (.region [⟨(some 68), .q (.move (.tmp 4)), none⟩, ⟨(some 69), .q (.nilCheck (.tmp 68)), none⟩, ⟨(some 70), .q (.fieldAddr 0 (.tmp 69)), none⟩, ⟨(some 71), .q (.fieldAddr 1 (.tmp 70)), none⟩, ⟨(some 72), .q (.loadS (.tmp 71)), none⟩, ⟨(some 73), .q (.eq .int true (.tmp 72) (.const (AV.int .i64 (Int.ofNat 0)))), none⟩]) (.cond (.tmp 73) (.exit 0) .skip)) (.seq (.block 2 (.seq (.region [⟨(some 78), .q (.fieldAddr 0 (.tmp 7)), none⟩, ⟨(some 79), .q (.loadS (.tmp 78)), none⟩, ⟨(some 80), .q (.eq .int false (.tmp 79) (.const (AV.int .u8 (Int.ofNat 0)))), none⟩, ⟨(some 77), .q (.move (.tmp 80)), none⟩]) (.cond (.tmp 77) (.seq (.region [⟨(some 81), .q (.fieldAddr 1 (.tmp 7)), none⟩, ⟨(some 82), .q (.loadS (.tmp 81)), none⟩, ⟨(some 83), .q (.build [AV.nilSlice, (AV.int .i64 (Int.ofNat 0))] [(0, 1, (.tmp 82))]), none⟩, ⟨(some 84), .l (.box (.tmp 83)), none⟩, ⟨(some 9), .q (.move (.tmp 84)), none⟩]) (.seq (.region [⟨(some 85), .q (.move (.tmp 9)), none⟩, ⟨(some 86), .q (.move (.tmp 9)), none⟩, ⟨(some 87), .e (.call (.const (AV.func (.func 63) [] [])) [(.tmp 86)]), none⟩, ⟨(some 88), .e (.call (.const (AV.func (.func 64) [] [])) [(.tmp 85), (.tmp 87)]), none⟩, ⟨(some 10), .q (.move (.tmp 88)), none⟩]) (.seq (.region [⟨(some 89), .q (.move (.tmp 9)), none⟩, ⟨(some 90), .q (.nilCheck (.tmp 89)), none⟩, ⟨(some 91), .q (.fieldAddr 1 (.tmp 90)), none⟩, ⟨(some 92), .q (.loadS (.tmp 91)), none⟩, ⟨(some 93), .q (.eq .int true (.tmp 92) (.const (AV.int .i64 (Int.ofNat 0)))), none⟩, ⟨(some 94), .q (.move (.tmp 93)), none⟩, ⟨(some 95), .q (.move (.tmp 10)), (some (94, false))⟩, ⟨(some 96), .e (.call (.const (AV.func (.func 38) [] [])) [(.tmp 95)]), (some (94, false))⟩, ⟨(some 97), .q (.un .not (.tmp 96)), (some (94, false))⟩, ⟨(some 98), .q (.pick (.tmp 94) (.const (AV.bool true)) (.tmp 97)), none⟩]) (.cond (.tmp 98) (.region [⟨(some 99), .q (.move (.tmp 4)), none⟩, ⟨(some 100), .q (.nilCheck (.tmp 99)), none⟩, ⟨(some 101), .q (.fieldAddr 0 (.tmp 100)), none⟩, ⟨(some 102), .e (.call (.const (AV.func (.func 65) [] [])) [(.tmp 101), (.const (AV.int .i64 (Int.ofNat 2)))]), none⟩]) .skip)))) (.region [⟨(some 74), .q (.fieldAddr 0 (.tmp 7)), none⟩, ⟨(some 75), .q (.loadS (.tmp 74)), none⟩, ⟨(some 76), .e (.call (.const (AV.func (.func 62) [] [])) [(.tmp 75)]), none⟩, ⟨(some 6), .q (.move (.tmp 76)), none⟩])))) (.region [⟨(some 103), .q (.move (.tmp 5)), none⟩, ⟨(some 104), .q (.loadA 2 (.tmp 7)), none⟩, ⟨(some 105), .l (.buildSlice 2 1 [(AV.int .u8 (Int.ofNat 0)), AV.nilSlice] [(0, 2, (.tmp 104))]), none⟩, ⟨(some 106), .e (.append 2 32 (.tmp 103) (.tmp 105)), none⟩, ⟨(some 5), .q (.move (.tmp 106)), none⟩])))))))))
theorem rsplit_l1_body {call : CallT} {N : Nat} {t : T} {h : Hp} {b101 : Nat} {G : Nat → Prop} {h0 : Hp}   (h_rutf8 : C_rutf8 call) (h_rbyte : C_rbyte call) (h_rank : C_rank call) (h_ru32 : C_ru32 call) (h_rtake : C_rtake call) (h_rfail : C_rfail call) {o : LO (List Nat × Nat × List (Nat × List Nat) × Nat × List Nat × Nat) (List (Nat × List Nat) × Nat)} {n : Nat} {A2 : List Nat} {A3 : Nat} {A5 : List (Nat × List Nat)} {A6 : Nat} {Q101_0 : List Nat} {Q101_1 : Nat} {wA2_1 : AV} {wA5 : AV} {LA5 : List AV} {wQ101_0_1 : AV} {G_102 : Nat → Prop} {k_102 : Hp} (hN : 90000 < N) (hi : (fun (z : Nat × List Nat × Nat × List (Nat × List Nat) × Nat × List Nat × Nat × AV × AV × List AV × AV × (Nat → Prop) × Hp) (h' : Hp) => rsplit_l1  z.1 z.2.1 z.2.2.1 z.2.2.2.1 z.2.2.2.2.1 z.2.2.2.2.2.1 z.2.2.2.2.2.2.1 = some o ∧ (BIn G h0 z.2.2.2.2.2.2.2.1 z.2.1) ∧ (Eng.Rows (rP (rU .u8) rY) z.2.2.2.2.2.2.2.2.2.2.2.1 z.2.2.2.2.2.2.2.2.2.2.2.2 z.2.2.2.2.2.2.2.2.2.1 z.2.2.2.1) ∧ (BIn G h0 z.2.2.2.2.2.2.2.2.2.2.1 z.2.2.2.2.2.1) ∧ Eng.Sep [OwnO 2 z.2.2.2.2.2.2.2.2.1 z.2.2.2.1.length z.2.2.2.2.2.2.2.2.2.1, Cel b101 [z.2.2.2.2.2.2.2.2.2.2.1, (AV.int .i64 (Int.ofNat z.2.2.2.2.2.2.1))], Frz z.2.2.2.2.2.2.2.2.2.2.2.1 z.2.2.2.2.2.2.2.2.2.2.2.2, Frz G h0] h') (n, A2, A3, A5, A6, Q101_0, Q101_1, wA2_1, wA5, LA5, wQ101_0_1, G_102, k_102) h)
    : ∃ s, evC call N rsplit_l1C (ovT [(2, wA2_1), (3, (AV.int .i64 (Int.ofNat A3))), (4, (AV.ptr b101 0)), (5, wA5), (6, (AV.int .i64 (Int.ofNat A6)))] t) h = s ∧ obsS [2, 3, 4, 5, 6] (fun ls h' => ∃ y, ls = ((fun (z : Nat × List Nat × Nat × List (Nat × List Nat) × Nat × List Nat × Nat × AV × AV × List AV × AV × (Nat → Prop) × Hp) => [(2, z.2.2.2.2.2.2.2.1), (3, (AV.int .i64 (Int.ofNat z.2.2.1))), (4, (AV.ptr b101 0)), (5, z.2.2.2.2.2.2.2.2.1), (6, (AV.int .i64 (Int.ofNat z.2.2.2.2.1)))]) y).map (fun p => some p.2) ∧ (fun (z : Nat × List Nat × Nat × List (Nat × List Nat) × Nat × List Nat × Nat × AV × AV × List AV × AV × (Nat → Prop) × Hp) (h' : Hp) => rsplit_l1  z.1 z.2.1 z.2.2.1 z.2.2.2.1 z.2.2.2.2.1 z.2.2.2.2.2.1 z.2.2.2.2.2.2.1 = some o ∧ (BIn G h0 z.2.2.2.2.2.2.2.1 z.2.1) ∧ (Eng.Rows (rP (rU .u8) rY) z.2.2.2.2.2.2.2.2.2.2.2.1 z.2.2.2.2.2.2.2.2.2.2.2.2 z.2.2.2.2.2.2.2.2.2.1 z.2.2.2.1) ∧ (BIn G h0 z.2.2.2.2.2.2.2.2.2.2.1 z.2.2.2.2.2.1) ∧ Eng.Sep [OwnO 2 z.2.2.2.2.2.2.2.2.1 z.2.2.2.1.length z.2.2.2.2.2.2.2.2.2.1, Cel b101 [z.2.2.2.2.2.2.2.2.2.2.1, (AV.int .i64 (Int.ofNat z.2.2.2.2.2.2.1))], Frz z.2.2.2.2.2.2.2.2.2.2.2.1 z.2.2.2.2.2.2.2.2.2.2.2.2, Frz G h0] h') y h' ∧ (fun (z : Nat × List Nat × Nat × List (Nat × List Nat) × Nat × List Nat × Nat × AV × AV × List AV × AV × (Nat → Prop) × Hp) => z.1) y < (fun (z : Nat × List Nat × Nat × List (Nat × List Nat) × Nat × List Nat × Nat × AV × AV × List AV × AV × (Nat → Prop) × Hp) => z.1) (n, A2, A3, A5, A6, Q101_0, Q101_1, wA2_1, wA5, LA5, wQ101_0_1, G_102, k_102)) (fun i ls h' => ∃ y, ls = ((fun (z : Nat × List Nat × Nat × List (Nat × List Nat) × Nat × List Nat × Nat × AV × AV × List AV × AV × (Nat → Prop) × Hp) => [(2, z.2.2.2.2.2.2.2.1), (3, (AV.int .i64 (Int.ofNat z.2.2.1))), (4, (AV.ptr b101 0)), (5, z.2.2.2.2.2.2.2.2.1), (6, (AV.int .i64 (Int.ofNat z.2.2.2.2.1)))]) y).map (fun p => some p.2) ∧ (fun (i : Nat) (z : Nat × List Nat × Nat × List (Nat × List Nat) × Nat × List Nat × Nat × AV × AV × List AV × AV × (Nat → Prop) × Hp) (h' : Hp) => (i = 0) ∧ (i = 0 → o = LO.ex (z.2.1, z.2.2.1, z.2.2.2.1, z.2.2.2.2.1, z.2.2.2.2.2.1, z.2.2.2.2.2.2.1) ∧ (BIn G h0 z.2.2.2.2.2.2.2.1 z.2.1) ∧ (Eng.Rows (rP (rU .u8) rY) z.2.2.2.2.2.2.2.2.2.2.2.1 z.2.2.2.2.2.2.2.2.2.2.2.2 z.2.2.2.2.2.2.2.2.2.1 z.2.2.2.1) ∧ (BIn G h0 z.2.2.2.2.2.2.2.2.2.2.1 z.2.2.2.2.2.1) ∧ Eng.Sep [OwnO 2 z.2.2.2.2.2.2.2.2.1 z.2.2.2.1.length z.2.2.2.2.2.2.2.2.2.1, Cel b101 [z.2.2.2.2.2.2.2.2.2.2.1, (AV.int .i64 (Int.ofNat z.2.2.2.2.2.2.1))], Frz z.2.2.2.2.2.2.2.2.2.2.2.1 z.2.2.2.2.2.2.2.2.2.2.2.2, Frz G h0] h')) i y h') (fun ls h' => (fun (ls : List (Option AV)) (h' : Hp) => ∃ (rt : List (Nat × List Nat) × Nat) (v2 : AV) (v3 : AV), o = LO.rt rt ∧ ls[0]? = some (some v2) ∧ ls[1]? = some (some v3) ∧ (∃ wk1 : AV, ∃ Lk3 : List AV, ∃ Gk : Nat → Prop, ∃ kk : Hp, (.tuple [v2, v3]) = (AV.tuple [wk1, (AV.int .i64 (Int.ofNat rt.2))]) ∧ (Eng.Rows (rP (rU .u8) rY) Gk kk Lk3 rt.1) ∧ Eng.Sep (OwnO 2 wk1 rt.1.length Lk3 :: Frz Gk kk :: Frz G h0 :: []) h')) ls h') s := by
  have hi : rsplit_l1  n A2 A3 A5 A6 Q101_0 Q101_1 = some o ∧ (BIn G h0 wA2_1 A2) ∧ (Eng.Rows (rP (rU .u8) rY) G_102 k_102 LA5 A5) ∧ (BIn G h0 wQ101_0_1 Q101_0) ∧ Eng.Sep [OwnO 2 wA5 A5.length LA5, Cel b101 [wQ101_0_1, (AV.int .i64 (Int.ofNat Q101_1))], Frz G_102 k_102, Frz G h0] h := hi
  obtain ⟨hp, fA2_2, fA5, fQ101_0_2, S⟩ := hi
  obtain ⟨m, hm⟩ : ∃ m, n = m + 1 := by
    cases n with
    | zero => cases hp
    | succ m => exact ⟨m, rfl⟩
  rw [hm] at hp
  unfold rsplit_l1 at hp
  refine walk_ok (o := (.tell 4 (AV.int .i64 (Int.ofNat Q101_1)) (.fork 1 (.tell 4 wQ101_0_1 (.tell 0 (AV.int .i64 (Int.ofNat Q101_0.length)) (.fork 1 (.exi 3 fun (x4 : List Nat × Nat × Nat) => (.exi 0 fun (w14 : AV) => (.exi 0 fun (h10 : Hp) => (.eff 0 (AV.int .u8 (Int.ofNat x4.2.2)) h10 (.effx 2 (fun e18 => (AV.tuple [])) (fun e18 => (.tell 1 (AV.int .u8 (Int.ofNat x4.2.2)) (.fork 1 .fin (.tell 1 (AV.int .u8 (Int.ofNat x4.2.2)) (.fork 1 (.tell 1 (AV.int .u8 (Int.ofNat x4.2.2)) (.exi 0 fun (x22 : Nat) => (.exi 0 fun (h27 : Hp) => (.eff 0 (AV.int .i64 (Int.ofNat x22)) h27 (.fork 3 .fin (.exi 3 fun (x34 : List Nat × Nat × Nat) => (.exi 0 fun (w44 : AV) => (.exi 0 fun (h40 : Hp) => (.eff 0 (AV.int .u32 (Int.ofNat x34.2.2)) h40 (.exi 5 fun (x47 : List Nat × Nat × List Nat) => (.exi 0 fun (w51 : AV) => (.exi 0 fun (w58 : AV) => (.exi 0 fun (h54 : Hp) => (.eff 0 w51 h54 (.effx 1 (fun e61 => (AV.tuple [])) (fun e61 => (.tell 4 (AV.int .i64 (Int.ofNat x47.2.1)) (.fork 0 .fin (.tell 1 (AV.int .u8 (Int.ofNat x4.2.2)) (.fork 1 (.tell 1 w51 (.tell 0 (AV.agg [w51, (AV.int .i64 (Int.ofNat 0))]) (.ell 0 .ptr (mkCells [w51, (AV.int .i64 (Int.ofNat 0))] 2) (.exi 3 fun (x68 : List Nat × Nat × Nat) => (.exi 0 fun (w78 : AV) => (.exi 0 fun (h74 : Hp) => (.eff 0 (AV.int .u32 (Int.ofNat x68.2.2)) h74 (.exi 0 fun (x81 : List Nat × Nat × List Nat) => (.exi 0 fun (w85 : AV) => (.exi 0 fun (w92 : AV) => (.exi 0 fun (h88 : Hp) => (.eff 0 w85 h88 (.tell 4 (AV.int .i64 (Int.ofNat x81.2.1)) (.fork 1 (.exi 4 fun (x97 : List Nat × Nat) => (.exi 0 fun (w106 : AV) => (.exi 0 fun (h102 : Hp) => (.eff 0 (AV.tuple []) h102 (.tell 1 (AV.agg [(AV.int .u8 (Int.ofNat x4.2.2)), w51]) (.ell 0 (.sl 1 1 2 true) (mkCells [(AV.int .u8 (Int.ofNat x4.2.2)), w51] 2) (.effx 0 (fun e110 => e110.v) (fun e110 => .fin)))))))) (.exi 1 fun (x96 : Bool) => (.exi 0 fun (h101 : Hp) => (.eff 0 (AV.bool x96) h101 (.fork 1 (.exi 3 fun (x108 : List Nat × Nat) => (.exi 0 fun (w117 : AV) => (.exi 0 fun (h113 : Hp) => (.eff 0 (AV.tuple []) h113 (.tell 1 (AV.agg [(AV.int .u8 (Int.ofNat x4.2.2)), w51]) (.ell 0 (.sl 1 1 2 true) (mkCells [(AV.int .u8 (Int.ofNat x4.2.2)), w51] 2) (.effx 0 (fun e121 => e121.v) (fun e121 => .fin)))))))) (.tell 1 (AV.agg [(AV.int .u8 (Int.ofNat x4.2.2)), w51]) (.ell 0 (.sl 1 1 2 true) (mkCells [(AV.int .u8 (Int.ofNat x4.2.2)), w51] 2) (.effx 0 (fun e108 => e108.v) (fun e108 => .fin)))))))))))))))))))))) (.tell 1 (AV.int .u8 (Int.ofNat x4.2.2)) (.exi 0 fun (x65 : Nat) => (.exi 0 fun (h70 : Hp) => (.eff 0 (AV.int .i64 (Int.ofNat x65)) h70 (.tell 2 (AV.agg [(AV.int .u8 (Int.ofNat x4.2.2)), w51]) (.ell 0 (.sl 1 1 2 true) (mkCells [(AV.int .u8 (Int.ofNat x4.2.2)), w51] 2) (.effx 0 (fun e76 => e76.v) (fun e76 => .fin)))))))))))))))))))))))))))) (.exi 5 fun (x23 : List Nat × Nat × Nat) => (.exi 0 fun (w33 : AV) => (.exi 0 fun (h29 : Hp) => (.eff 0 (AV.int .u32 (Int.ofNat x23.2.2)) h29 (.exi 5 fun (x36 : List Nat × Nat × List Nat) => (.exi 0 fun (w40 : AV) => (.exi 0 fun (w47 : AV) => (.exi 0 fun (h43 : Hp) => (.eff 0 w40 h43 (.effx 1 (fun e50 => (AV.tuple [])) (fun e50 => (.tell 4 (AV.int .i64 (Int.ofNat x36.2.1)) (.fork 0 .fin (.tell 1 (AV.int .u8 (Int.ofNat x4.2.2)) (.fork 1 (.tell 1 w40 (.tell 0 (AV.agg [w40, (AV.int .i64 (Int.ofNat 0))]) (.ell 0 .ptr (mkCells [w40, (AV.int .i64 (Int.ofNat 0))] 2) (.exi 3 fun (x57 : List Nat × Nat × Nat) => (.exi 0 fun (w67 : AV) => (.exi 0 fun (h63 : Hp) => (.eff 0 (AV.int .u32 (Int.ofNat x57.2.2)) h63 (.exi 0 fun (x70 : List Nat × Nat × List Nat) => (.exi 0 fun (w74 : AV) => (.exi 0 fun (w81 : AV) => (.exi 0 fun (h77 : Hp) => (.eff 0 w74 h77 (.tell 4 (AV.int .i64 (Int.ofNat x70.2.1)) (.fork 1 (.exi 4 fun (x86 : List Nat × Nat) => (.exi 0 fun (w95 : AV) => (.exi 0 fun (h91 : Hp) => (.eff 0 (AV.tuple []) h91 (.tell 1 (AV.agg [(AV.int .u8 (Int.ofNat x4.2.2)), w40]) (.ell 0 (.sl 1 1 2 true) (mkCells [(AV.int .u8 (Int.ofNat x4.2.2)), w40] 2) (.effx 0 (fun e99 => e99.v) (fun e99 => .fin)))))))) (.exi 1 fun (x85 : Bool) => (.exi 0 fun (h90 : Hp) => (.eff 0 (AV.bool x85) h90 (.fork 1 (.exi 3 fun (x97 : List Nat × Nat) => (.exi 0 fun (w106 : AV) => (.exi 0 fun (h102 : Hp) => (.eff 0 (AV.tuple []) h102 (.tell 1 (AV.agg [(AV.int .u8 (Int.ofNat x4.2.2)), w40]) (.ell 0 (.sl 1 1 2 true) (mkCells [(AV.int .u8 (Int.ofNat x4.2.2)), w40] 2) (.effx 0 (fun e110 => e110.v) (fun e110 => .fin)))))))) (.tell 1 (AV.agg [(AV.int .u8 (Int.ofNat x4.2.2)), w40]) (.ell 0 (.sl 1 1 2 true) (mkCells [(AV.int .u8 (Int.ofNat x4.2.2)), w40] 2) (.effx 0 (fun e97 => e97.v) (fun e97 => .fin)))))))))))))))))))))) (.tell 1 (AV.int .u8 (Int.ofNat x4.2.2)) (.exi 0 fun (x54 : Nat) => (.exi 0 fun (h59 : Hp) => (.eff 0 (AV.int .i64 (Int.ofNat x54)) h59 (.tell 2 (AV.agg [(AV.int .u8 (Int.ofNat x4.2.2)), w40]) (.ell 0 (.sl 1 1 2 true) (mkCells [(AV.int .u8 (Int.ofNat x4.2.2)), w40] 2) (.effx 0 (fun e65 => e65.v) (fun e65 => .fin))))))))))))))))))))))))))))))))) .fin))) .fin))) (p := (fun (KN : List (Option AV) → Hp → Prop) (KE : Nat → List (Option AV) → Hp → Prop) (KR : List (Option AV) → Hp → Prop) => ((evQ (.loadS (.const (AV.ptr b101 1))) .lf h = .ok (AV.int .i64 (Int.ofNat Q101_1)) ∧ ((eqI (Int.ofNat Q101_1) (Int.ofNat 0) = true → ((evQ (.loadS (.const (AV.ptr b101 0))) .lf h = .ok wQ101_0_1 ∧ ((evQ (.lenL (.const wQ101_0_1)) .lf H0 = .ok (AV.int .i64 (Int.ofNat Q101_0.length)) ∧ ((ltI (Int.ofNat 0) (Int.ofNat Q101_0.length) = true → (∃ x4 : List Nat × Nat × Nat, ∃ w14 : AV, ∃ h10 : Hp, (call 61 [(AV.ptr b101 0)] h = .ok (AV.int .u8 (Int.ofNat x4.2.2)) h10 ∧ (∃ e18 : Ev, evE (.store 2 (.const (AV.ptr (Hp.next h10) 0)) (.const (AV.agg [(AV.int .u8 (Int.ofNat x4.2.2)), AV.nilSlice]))) call .lf (hpush h10 (mkCells [(AV.int .u8 (Int.ofNat 0)), AV.nilSlice] 2)) = .ok (AV.tuple []) e18.h ∧ ((evQ (.loadS (.const (AV.ptr (Hp.next h10) 0))) .lf e18.h = .ok (AV.int .u8 (Int.ofNat x4.2.2)) ∧ ((ltI (Int.ofNat 12) (Int.ofNat x4.2.2) = true → KR [some AV.nilSlice, some (AV.int .i64 (Int.ofNat 2)), some (AV.ptr b101 0), some wA5, some (AV.int .i64 (Int.ofNat A6))] e18.h) ∧ (ltI (Int.ofNat 12) (Int.ofNat x4.2.2) = false → ((evQ (.loadS (.const (AV.ptr (Hp.next h10) 0))) .lf e18.h = .ok (AV.int .u8 (Int.ofNat x4.2.2)) ∧ ((ltI (Int.ofNat 0) (Int.ofNat x4.2.2) = true → ((evQ (.loadS (.const (AV.ptr (Hp.next h10) 0))) .lf e18.h = .ok (AV.int .u8 (Int.ofNat x4.2.2)) ∧ (∃ x22 : Nat, ∃ h27 : Hp, (call 62 [(AV.int .u8 (Int.ofNat x4.2.2))] e18.h = .ok (AV.int .i64 (Int.ofNat x22)) h27 ∧ ((notB (ltI (Int.ofNat A6) (Int.ofNat x22)) = true → KR [some AV.nilSlice, some (AV.int .i64 (Int.ofNat 2)), some (AV.ptr b101 0), some wA5, some (AV.int .i64 (Int.ofNat A6))] h27) ∧ (notB (ltI (Int.ofNat A6) (Int.ofNat x22)) = false → (∃ x34 : List Nat × Nat × Nat, ∃ w44 : AV, ∃ h40 : Hp, (call 63 [(AV.ptr b101 0)] h27 = .ok (AV.int .u32 (Int.ofNat x34.2.2)) h40 ∧ (∃ x47 : List Nat × Nat × List Nat, ∃ w51 : AV, ∃ w58 : AV, ∃ h54 : Hp, (call 64 [(AV.ptr b101 0), (AV.int .u32 (Int.ofNat x34.2.2))] h40 = .ok w51 h54 ∧ (∃ e61 : Ev, evE (.store 1 (.const (AV.ptr (Hp.next h10) 1)) (.const w51)) call .lf h54 = .ok (AV.tuple []) e61.h ∧ ((evQ (.loadS (.const (AV.ptr b101 1))) .lf e61.h = .ok (AV.int .i64 (Int.ofNat x47.2.1)) ∧ ((notB (eqI (Int.ofNat x47.2.1) (Int.ofNat 0)) = true → KE 0 [some wA2_1, some (AV.int .i64 (Int.ofNat A3)), some (AV.ptr b101 0), some wA5, some (AV.int .i64 (Int.ofNat A6))] e61.h) ∧ (notB (eqI (Int.ofNat x47.2.1) (Int.ofNat 0)) = false → ((evQ (.loadS (.const (AV.ptr (Hp.next h10) 0))) .lf e61.h = .ok (AV.int .u8 (Int.ofNat x4.2.2)) ∧ ((eqI (Int.ofNat x4.2.2) (Int.ofNat 0) = true → ((evQ (.loadS (.const (AV.ptr (Hp.next h10) 1))) .lf e61.h = .ok w51 ∧ ((evQ (.build [AV.nilSlice, (AV.int .i64 (Int.ofNat 0))] [(0, 1, (.const w51))]) .lf H0 = .ok (AV.agg [w51, (AV.int .i64 (Int.ofNat 0))]) ∧ (evL (.box (.const (AV.agg [w51, (AV.int .i64 (Int.ofNat 0))]))) .lf = .ok .ptr (mkCells [w51, (AV.int .i64 (Int.ofNat 0))] 2) ∧ (∃ x68 : List Nat × Nat × Nat, ∃ w78 : AV, ∃ h74 : Hp, (call 63 [(AV.ptr (Hp.next e61.h) 0)] (hpush e61.h (mkCells [w51, (AV.int .i64 (Int.ofNat 0))] 2)) = .ok (AV.int .u32 (Int.ofNat x68.2.2)) h74 ∧ (∃ x81 : List Nat × Nat × List Nat, ∃ w85 : AV, ∃ w92 : AV, ∃ h88 : Hp, (call 64 [(AV.ptr (Hp.next e61.h) 0), (AV.int .u32 (Int.ofNat x68.2.2))] h74 = .ok w85 h88 ∧ ((evQ (.loadS (.const (AV.ptr (Hp.next e61.h) 1))) .lf h88 = .ok (AV.int .i64 (Int.ofNat x81.2.1)) ∧ ((notB (eqI (Int.ofNat x81.2.1) (Int.ofNat 0)) = true → (∃ x97 : List Nat × Nat, ∃ w106 : AV, ∃ h102 : Hp, (call 65 [(AV.ptr b101 0), (AV.int .i64 (Int.ofNat 2))] h88 = .ok (AV.tuple []) h102 ∧ ((evQ (.loadA 2 (.const (AV.ptr (Hp.next h10) 0))) .lf h102 = .ok (AV.agg [(AV.int .u8 (Int.ofNat x4.2.2)), w51]) ∧ (evL (.buildSlice 2 1 [(AV.int .u8 (Int.ofNat 0)), AV.nilSlice] [(0, 2, (.const (AV.agg [(AV.int .u8 (Int.ofNat x4.2.2)), w51])))]) .lf = .ok (.sl 1 1 2 true) (mkCells [(AV.int .u8 (Int.ofNat x4.2.2)), w51] 2) ∧ (∃ e110 : Ev, evE (.append 2 32 (.const wA5) (.const (AV.slice (Hp.next h102) 0 1 1 2 true))) call .lf (hpush h102 (mkCells [(AV.int .u8 (Int.ofNat x4.2.2)), w51] 2)) = .ok e110.v e110.h ∧ KN [some wA2_1, some (AV.int .i64 (Int.ofNat A3)), some (AV.ptr b101 0), some e110.v, some (AV.int .i64 (Int.ofNat A6))] e110.h))))))) ∧ (notB (eqI (Int.ofNat x81.2.1) (Int.ofNat 0)) = false → (∃ x96 : Bool, ∃ h101 : Hp, (call 38 [w85] h88 = .ok (AV.bool x96) h101 ∧ ((notB x96 = true → (∃ x108 : List Nat × Nat, ∃ w117 : AV, ∃ h113 : Hp, (call 65 [(AV.ptr b101 0), (AV.int .i64 (Int.ofNat 2))] h101 = .ok (AV.tuple []) h113 ∧ ((evQ (.loadA 2 (.const (AV.ptr (Hp.next h10) 0))) .lf h113 = .ok (AV.agg [(AV.int .u8 (Int.ofNat x4.2.2)), w51]) ∧ (evL (.buildSlice 2 1 [(AV.int .u8 (Int.ofNat 0)), AV.nilSlice] [(0, 2, (.const (AV.agg [(AV.int .u8 (Int.ofNat x4.2.2)), w51])))]) .lf = .ok (.sl 1 1 2 true) (mkCells [(AV.int .u8 (Int.ofNat x4.2.2)), w51] 2) ∧ (∃ e121 : Ev, evE (.append 2 32 (.const wA5) (.const (AV.slice (Hp.next h113) 0 1 1 2 true))) call .lf (hpush h113 (mkCells [(AV.int .u8 (Int.ofNat x4.2.2)), w51] 2)) = .ok e121.v e121.h ∧ KN [some wA2_1, some (AV.int .i64 (Int.ofNat A3)), some (AV.ptr b101 0), some e121.v, some (AV.int .i64 (Int.ofNat A6))] e121.h))))))) ∧ (notB x96 = false → ((evQ (.loadA 2 (.const (AV.ptr (Hp.next h10) 0))) .lf h101 = .ok (AV.agg [(AV.int .u8 (Int.ofNat x4.2.2)), w51]) ∧ (evL (.buildSlice 2 1 [(AV.int .u8 (Int.ofNat 0)), AV.nilSlice] [(0, 2, (.const (AV.agg [(AV.int .u8 (Int.ofNat x4.2.2)), w51])))]) .lf = .ok (.sl 1 1 2 true) (mkCells [(AV.int .u8 (Int.ofNat x4.2.2)), w51] 2) ∧ (∃ e108 : Ev, evE (.append 2 32 (.const wA5) (.const (AV.slice (Hp.next h101) 0 1 1 2 true))) call .lf (hpush h101 (mkCells [(AV.int .u8 (Int.ofNat x4.2.2)), w51] 2)) = .ok e108.v e108.h ∧ KN [some wA2_1, some (AV.int .i64 (Int.ofNat A3)), some (AV.ptr b101 0), some e108.v, some (AV.int .i64 (Int.ofNat A6))] e108.h)))))))))))))))))))))) ∧ (eqI (Int.ofNat x4.2.2) (Int.ofNat 0) = false → ((evQ (.loadS (.const (AV.ptr (Hp.next h10) 0))) .lf e61.h = .ok (AV.int .u8 (Int.ofNat x4.2.2)) ∧ (∃ x65 : Nat, ∃ h70 : Hp, (call 62 [(AV.int .u8 (Int.ofNat x4.2.2))] e61.h = .ok (AV.int .i64 (Int.ofNat x65)) h70 ∧ ((evQ (.loadA 2 (.const (AV.ptr (Hp.next h10) 0))) .lf h70 = .ok (AV.agg [(AV.int .u8 (Int.ofNat x4.2.2)), w51]) ∧ (evL (.buildSlice 2 1 [(AV.int .u8 (Int.ofNat 0)), AV.nilSlice] [(0, 2, (.const (AV.agg [(AV.int .u8 (Int.ofNat x4.2.2)), w51])))]) .lf = .ok (.sl 1 1 2 true) (mkCells [(AV.int .u8 (Int.ofNat x4.2.2)), w51] 2) ∧ (∃ e76 : Ev, evE (.append 2 32 (.const wA5) (.const (AV.slice (Hp.next h70) 0 1 1 2 true))) call .lf (hpush h70 (mkCells [(AV.int .u8 (Int.ofNat x4.2.2)), w51] 2)) = .ok e76.v e76.h ∧ KN [some wA2_1, some (AV.int .i64 (Int.ofNat A3)), some (AV.ptr b101 0), some e76.v, some (AV.int .i64 (Int.ofNat x65))] e76.h)))))))))))))))))))))))))))) ∧ (ltI (Int.ofNat 0) (Int.ofNat x4.2.2) = false → (∃ x23 : List Nat × Nat × Nat, ∃ w33 : AV, ∃ h29 : Hp, (call 63 [(AV.ptr b101 0)] e18.h = .ok (AV.int .u32 (Int.ofNat x23.2.2)) h29 ∧ (∃ x36 : List Nat × Nat × List Nat, ∃ w40 : AV, ∃ w47 : AV, ∃ h43 : Hp, (call 64 [(AV.ptr b101 0), (AV.int .u32 (Int.ofNat x23.2.2))] h29 = .ok w40 h43 ∧ (∃ e50 : Ev, evE (.store 1 (.const (AV.ptr (Hp.next h10) 1)) (.const w40)) call .lf h43 = .ok (AV.tuple []) e50.h ∧ ((evQ (.loadS (.const (AV.ptr b101 1))) .lf e50.h = .ok (AV.int .i64 (Int.ofNat x36.2.1)) ∧ ((notB (eqI (Int.ofNat x36.2.1) (Int.ofNat 0)) = true → KE 0 [some wA2_1, some (AV.int .i64 (Int.ofNat A3)), some (AV.ptr b101 0), some wA5, some (AV.int .i64 (Int.ofNat A6))] e50.h) ∧ (notB (eqI (Int.ofNat x36.2.1) (Int.ofNat 0)) = false → ((evQ (.loadS (.const (AV.ptr (Hp.next h10) 0))) .lf e50.h = .ok (AV.int .u8 (Int.ofNat x4.2.2)) ∧ ((eqI (Int.ofNat x4.2.2) (Int.ofNat 0) = true → ((evQ (.loadS (.const (AV.ptr (Hp.next h10) 1))) .lf e50.h = .ok w40 ∧ ((evQ (.build [AV.nilSlice, (AV.int .i64 (Int.ofNat 0))] [(0, 1, (.const w40))]) .lf H0 = .ok (AV.agg [w40, (AV.int .i64 (Int.ofNat 0))]) ∧ (evL (.box (.const (AV.agg [w40, (AV.int .i64 (Int.ofNat 0))]))) .lf = .ok .ptr (mkCells [w40, (AV.int .i64 (Int.ofNat 0))] 2) ∧ (∃ x57 : List Nat × Nat × Nat, ∃ w67 : AV, ∃ h63 : Hp, (call 63 [(AV.ptr (Hp.next e50.h) 0)] (hpush e50.h (mkCells [w40, (AV.int .i64 (Int.ofNat 0))] 2)) = .ok (AV.int .u32 (Int.ofNat x57.2.2)) h63 ∧ (∃ x70 : List Nat × Nat × List Nat, ∃ w74 : AV, ∃ w81 : AV, ∃ h77 : Hp, (call 64 [(AV.ptr (Hp.next e50.h) 0), (AV.int .u32 (Int.ofNat x57.2.2))] h63 = .ok w74 h77 ∧ ((evQ (.loadS (.const (AV.ptr (Hp.next e50.h) 1))) .lf h77 = .ok (AV.int .i64 (Int.ofNat x70.2.1)) ∧ ((notB (eqI (Int.ofNat x70.2.1) (Int.ofNat 0)) = true → (∃ x86 : List Nat × Nat, ∃ w95 : AV, ∃ h91 : Hp, (call 65 [(AV.ptr b101 0), (AV.int .i64 (Int.ofNat 2))] h77 = .ok (AV.tuple []) h91 ∧ ((evQ (.loadA 2 (.const (AV.ptr (Hp.next h10) 0))) .lf h91 = .ok (AV.agg [(AV.int .u8 (Int.ofNat x4.2.2)), w40]) ∧ (evL (.buildSlice 2 1 [(AV.int .u8 (Int.ofNat 0)), AV.nilSlice] [(0, 2, (.const (AV.agg [(AV.int .u8 (Int.ofNat x4.2.2)), w40])))]) .lf = .ok (.sl 1 1 2 true) (mkCells [(AV.int .u8 (Int.ofNat x4.2.2)), w40] 2) ∧ (∃ e99 : Ev, evE (.append 2 32 (.const wA5) (.const (AV.slice (Hp.next h91) 0 1 1 2 true))) call .lf (hpush h91 (mkCells [(AV.int .u8 (Int.ofNat x4.2.2)), w40] 2)) = .ok e99.v e99.h ∧ KN [some wA2_1, some (AV.int .i64 (Int.ofNat A3)), some (AV.ptr b101 0), some e99.v, some (AV.int .i64 (Int.ofNat A6))] e99.h))))))) ∧ (notB (eqI (Int.ofNat x70.2.1) (Int.ofNat 0)) = false → (∃ x85 : Bool, ∃ h90 : Hp, (call 38 [w74] h77 = .ok (AV.bool x85) h90 ∧ ((notB x85 = true → (∃ x97 : List Nat × Nat, ∃ w106 : AV, ∃ h102 : Hp, (call 65 [(AV.ptr b101 0), (AV.int .i64 (Int.ofNat 2))] h90 = .ok (AV.tuple []) h102 ∧ ((evQ (.loadA 2 (.const (AV.ptr (Hp.next h10) 0))) .lf h102 = .ok (AV.agg [(AV.int .u8 (Int.ofNat x4.2.2)), w40]) ∧ (evL (.buildSlice 2 1 [(AV.int .u8 (Int.ofNat 0)), AV.nilSlice] [(0, 2, (.const (AV.agg [(AV.int .u8 (Int.ofNat x4.2.2)), w40])))]) .lf = .ok (.sl 1 1 2 true) (mkCells [(AV.int .u8 (Int.ofNat x4.2.2)), w40] 2) ∧ (∃ e110 : Ev, evE (.append 2 32 (.const wA5) (.const (AV.slice (Hp.next h102) 0 1 1 2 true))) call .lf (hpush h102 (mkCells [(AV.int .u8 (Int.ofNat x4.2.2)), w40] 2)) = .ok e110.v e110.h ∧ KN [some wA2_1, some (AV.int .i64 (Int.ofNat A3)), some (AV.ptr b101 0), some e110.v, some (AV.int .i64 (Int.ofNat A6))] e110.h))))))) ∧ (notB x85 = false → ((evQ (.loadA 2 (.const (AV.ptr (Hp.next h10) 0))) .lf h90 = .ok (AV.agg [(AV.int .u8 (Int.ofNat x4.2.2)), w40]) ∧ (evL (.buildSlice 2 1 [(AV.int .u8 (Int.ofNat 0)), AV.nilSlice] [(0, 2, (.const (AV.agg [(AV.int .u8 (Int.ofNat x4.2.2)), w40])))]) .lf = .ok (.sl 1 1 2 true) (mkCells [(AV.int .u8 (Int.ofNat x4.2.2)), w40] 2) ∧ (∃ e97 : Ev, evE (.append 2 32 (.const wA5) (.const (AV.slice (Hp.next h90) 0 1 1 2 true))) call .lf (hpush h90 (mkCells [(AV.int .u8 (Int.ofNat x4.2.2)), w40] 2)) = .ok e97.v e97.h ∧ KN [some wA2_1, some (AV.int .i64 (Int.ofNat A3)), some (AV.ptr b101 0), some e97.v, some (AV.int .i64 (Int.ofNat A6))] e97.h)))))))))))))))))))))) ∧ (eqI (Int.ofNat x4.2.2) (Int.ofNat 0) = false → ((evQ (.loadS (.const (AV.ptr (Hp.next h10) 0))) .lf e50.h = .ok (AV.int .u8 (Int.ofNat x4.2.2)) ∧ (∃ x54 : Nat, ∃ h59 : Hp, (call 62 [(AV.int .u8 (Int.ofNat x4.2.2))] e50.h = .ok (AV.int .i64 (Int.ofNat x54)) h59 ∧ ((evQ (.loadA 2 (.const (AV.ptr (Hp.next h10) 0))) .lf h59 = .ok (AV.agg [(AV.int .u8 (Int.ofNat x4.2.2)), w40]) ∧ (evL (.buildSlice 2 1 [(AV.int .u8 (Int.ofNat 0)), AV.nilSlice] [(0, 2, (.const (AV.agg [(AV.int .u8 (Int.ofNat x4.2.2)), w40])))]) .lf = .ok (.sl 1 1 2 true) (mkCells [(AV.int .u8 (Int.ofNat x4.2.2)), w40] 2) ∧ (∃ e65 : Ev, evE (.append 2 32 (.const wA5) (.const (AV.slice (Hp.next h59) 0 1 1 2 true))) call .lf (hpush h59 (mkCells [(AV.int .u8 (Int.ofNat x4.2.2)), w40] 2)) = .ok e65.v e65.h ∧ KN [some wA2_1, some (AV.int .i64 (Int.ofNat A3)), some (AV.ptr b101 0), some e65.v, some (AV.int .i64 (Int.ofNat x54))] e65.h))))))))))))))))))))))))))))))))) ∧ (ltI (Int.ofNat 0) (Int.ofNat Q101_0.length) = false → KE 0 [some wA2_1, some (AV.int .i64 (Int.ofNat A3)), some (AV.ptr b101 0), some wA5, some (AV.int .i64 (Int.ofNat A6))] h))))))) ∧ (eqI (Int.ofNat Q101_1) (Int.ofNat 0) = false → KE 0 [some wA2_1, some (AV.int .i64 (Int.ofNat A3)), some (AV.ptr b101 0), some wA5, some (AV.int .i64 (Int.ofNat A6))] h))))) (fun ls h' => ∃ y, ls = ((fun (z : Nat × List Nat × Nat × List (Nat × List Nat) × Nat × List Nat × Nat × AV × AV × List AV × AV × (Nat → Prop) × Hp) => [(2, z.2.2.2.2.2.2.2.1), (3, (AV.int .i64 (Int.ofNat z.2.2.1))), (4, (AV.ptr b101 0)), (5, z.2.2.2.2.2.2.2.2.1), (6, (AV.int .i64 (Int.ofNat z.2.2.2.2.1)))]) y).map (fun p => some p.2) ∧ (fun (z : Nat × List Nat × Nat × List (Nat × List Nat) × Nat × List Nat × Nat × AV × AV × List AV × AV × (Nat → Prop) × Hp) (h' : Hp) => rsplit_l1  z.1 z.2.1 z.2.2.1 z.2.2.2.1 z.2.2.2.2.1 z.2.2.2.2.2.1 z.2.2.2.2.2.2.1 = some o ∧ (BIn G h0 z.2.2.2.2.2.2.2.1 z.2.1) ∧ (Eng.Rows (rP (rU .u8) rY) z.2.2.2.2.2.2.2.2.2.2.2.1 z.2.2.2.2.2.2.2.2.2.2.2.2 z.2.2.2.2.2.2.2.2.2.1 z.2.2.2.1) ∧ (BIn G h0 z.2.2.2.2.2.2.2.2.2.2.1 z.2.2.2.2.2.1) ∧ Eng.Sep [OwnO 2 z.2.2.2.2.2.2.2.2.1 z.2.2.2.1.length z.2.2.2.2.2.2.2.2.2.1, Cel b101 [z.2.2.2.2.2.2.2.2.2.2.1, (AV.int .i64 (Int.ofNat z.2.2.2.2.2.2.1))], Frz z.2.2.2.2.2.2.2.2.2.2.2.1 z.2.2.2.2.2.2.2.2.2.2.2.2, Frz G h0] h') y h' ∧ (fun (z : Nat × List Nat × Nat × List (Nat × List Nat) × Nat × List Nat × Nat × AV × AV × List AV × AV × (Nat → Prop) × Hp) => z.1) y < (fun (z : Nat × List Nat × Nat × List (Nat × List Nat) × Nat × List Nat × Nat × AV × AV × List AV × AV × (Nat → Prop) × Hp) => z.1) (n, A2, A3, A5, A6, Q101_0, Q101_1, wA2_1, wA5, LA5, wQ101_0_1, G_102, k_102)) (fun i ls h' => ∃ y, ls = ((fun (z : Nat × List Nat × Nat × List (Nat × List Nat) × Nat × List Nat × Nat × AV × AV × List AV × AV × (Nat → Prop) × Hp) => [(2, z.2.2.2.2.2.2.2.1), (3, (AV.int .i64 (Int.ofNat z.2.2.1))), (4, (AV.ptr b101 0)), (5, z.2.2.2.2.2.2.2.2.1), (6, (AV.int .i64 (Int.ofNat z.2.2.2.2.1)))]) y).map (fun p => some p.2) ∧ (fun (i : Nat) (z : Nat × List Nat × Nat × List (Nat × List Nat) × Nat × List Nat × Nat × AV × AV × List AV × AV × (Nat → Prop) × Hp) (h' : Hp) => (i = 0) ∧ (i = 0 → o = LO.ex (z.2.1, z.2.2.1, z.2.2.2.1, z.2.2.2.2.1, z.2.2.2.2.2.1, z.2.2.2.2.2.2.1) ∧ (BIn G h0 z.2.2.2.2.2.2.2.1 z.2.1) ∧ (Eng.Rows (rP (rU .u8) rY) z.2.2.2.2.2.2.2.2.2.2.2.1 z.2.2.2.2.2.2.2.2.2.2.2.2 z.2.2.2.2.2.2.2.2.2.1 z.2.2.2.1) ∧ (BIn G h0 z.2.2.2.2.2.2.2.2.2.2.1 z.2.2.2.2.2.1) ∧ Eng.Sep [OwnO 2 z.2.2.2.2.2.2.2.2.1 z.2.2.2.1.length z.2.2.2.2.2.2.2.2.2.1, Cel b101 [z.2.2.2.2.2.2.2.2.2.2.1, (AV.int .i64 (Int.ofNat z.2.2.2.2.2.2.1))], Frz z.2.2.2.2.2.2.2.2.2.2.2.1 z.2.2.2.2.2.2.2.2.2.2.2.2, Frz G h0] h')) i y h') (fun ls h' => (fun (ls : List (Option AV)) (h' : Hp) => ∃ (rt : List (Nat × List Nat) × Nat) (v2 : AV) (v3 : AV), o = LO.rt rt ∧ ls[0]? = some (some v2) ∧ ls[1]? = some (some v3) ∧ (∃ wk1 : AV, ∃ Lk3 : List AV, ∃ Gk : Nat → Prop, ∃ kk : Hp, (.tuple [v2, v3]) = (AV.tuple [wk1, (AV.int .i64 (Int.ofNat rt.2))]) ∧ (Eng.Rows (rP (rU .u8) rY) Gk kk Lk3 rt.1) ∧ Eng.Sep (OwnO 2 wk1 rt.1.length Lk3 :: Frz Gk kk :: Frz G h0 :: []) h')) ls h')) (by kernel_rfl) ?_
  refine ⟨cel_load S (i := 1) rfl rfl, ?_⟩
  refine ⟨fun c1 => ?_, fun c1 => ?_⟩
  · replace c1 := eqI_t c1
    replace hp := ift hp c1
    refine ⟨cel_load S (i := 1) rfl rfl, ?_⟩
    refine ⟨q_len (BIn.now S (i := 3) rfl fQ101_0_2), ?_⟩
    refine ⟨fun c2 => ?_, fun c2 => ?_⟩
    · replace c2 := ltI_t c2
      replace hp := ift hp c2
      have S3 : Sep [Cel b101 [wQ101_0_1, (AV.int .i64 (Int.ofNat Q101_1))], Frz G h0, OwnO 2 wA5 A5.length LA5, Frz G_102 k_102] h := S.sel [1, 3, 0, 2] (by decide) rfl
      have ⟨x4, hb5, hp⟩ := ob_inv hp
      obtain ⟨v9, h10, q11, w14, e12, f8, f15, S13⟩ := h_rbyte fQ101_0_2 hb5 S3
      replace e12 := e12.symm
      subst e12
      have S16 : Sep [Cel b101 [w14, (AV.int .i64 (Int.ofNat x4.2.1))], Frz G h0, OwnO 2 wA5 A5.length LA5, Frz G_102 k_102] h10 := S13
      refine ⟨x4, w14, h10, q11, ?_⟩
      have S17 : Sep [Cel (Hp.next h10) [(AV.int .u8 (Int.ofNat 0)), AV.nilSlice], Cel b101 [w14, (AV.int .i64 (Int.ofNat x4.2.1))], Frz G h0, OwnO 2 wA5 A5.length LA5, Frz G_102 k_102] (hpush h10 (mkCells [(AV.int .u8 (Int.ofNat 0)), AV.nilSlice] 2)) := cel_new S16 [(AV.int .u8 (Int.ofNat 0)), AV.nilSlice] rfl
      obtain ⟨e18, qe18, se18⟩ := cel_storeN call S17 (i := 0) (o := 0) (n := 2) (xs := [(AV.int .u8 (Int.ofNat x4.2.2)), AV.nilSlice]) rfl (by first | decide | (simp; done) | (simp only [List.length_cons, List.length_nil]; omega)) rfl (by decide) (all_cell rfl (all_cell rfl all_cell0))
      have S19 : Sep [Cel (Hp.next h10) [(AV.int .u8 (Int.ofNat x4.2.2)), AV.nilSlice], Cel b101 [w14, (AV.int .i64 (Int.ofNat x4.2.1))], Frz G h0, OwnO 2 wA5 A5.length LA5, Frz G_102 k_102] e18.h := se18
      refine ⟨e18, qe18, ?_⟩
      refine ⟨cel_load S19 (i := 0) rfl rfl, ?_⟩
      refine ⟨fun c20 => ?_, fun c20 => ?_⟩
      · replace c20 := ltI_t c20
        replace hp := ift hp c20
        have S21 : Sep [Frz (fun _ => False) e18.h, Cel (Hp.next h10) [(AV.int .u8 (Int.ofNat x4.2.2)), AV.nilSlice], Cel b101 [w14, (AV.int .i64 (Int.ofNat x4.2.1))], Frz G h0, OwnO 2 wA5 A5.length LA5, Frz G_102 k_102] e18.h := S19.empty
        have S22 : Sep [OwnO 2 AV.nilSlice (([] : List (Nat × List Nat)).length) [], Frz (fun _ => False) e18.h, Cel (Hp.next h10) [(AV.int .u8 (Int.ofNat x4.2.2)), AV.nilSlice], Cel b101 [w14, (AV.int .i64 (Int.ofNat x4.2.1))], Frz G h0, OwnO 2 wA5 A5.length LA5, Frz G_102 k_102] e18.h := own_nil S21 2
        have S23 : Sep [OwnO 2 AV.nilSlice (([] : List (Nat × List Nat)).length) [], Frz (fun _ => False) e18.h, Frz G h0] e18.h := S22.sel [0, 1, 4] (by decide) rfl
        refine ⟨_, AV.nilSlice, (AV.int .i64 (Int.ofNat 2)), (Option.some.inj hp).symm, rfl, rfl, ?_⟩
        exact ⟨AV.nilSlice, [], (fun _ => False), e18.h, rfl, (own_rows_nil _ _ _), S23⟩
      replace c20 := ltI_f c20
      replace hp := iff0 hp (nltO c20)
      refine ⟨cel_load S19 (i := 0) rfl rfl, ?_⟩
      refine ⟨fun c21 => ?_, fun c21 => ?_⟩
      · replace c21 := ltI_t c21
        replace hp := ift hp c21
        refine ⟨cel_load S19 (i := 0) rfl rfl, ?_⟩
        have ⟨x22, hb23, hp⟩ := ob_inv hp
        obtain ⟨v26, h27, q28, e29, S30⟩ := h_rank f8 hb23
        replace e29 := e29.symm
        subst e29
        have S31 : Sep [Cel (Hp.next h10) [(AV.int .u8 (Int.ofNat x4.2.2)), AV.nilSlice], Cel b101 [w14, (AV.int .i64 (Int.ofNat x4.2.1))], Frz G h0, OwnO 2 wA5 A5.length LA5, Frz G_102 k_102] h27 := Sep.call S19 (news := []) S30
        refine ⟨x22, h27, q28, ?_⟩
        refine ⟨fun c32 => ?_, fun c32 => ?_⟩
        · replace c32 := ltI_f (notB_t c32)
          replace hp := ift hp c32
          have S33 : Sep [Frz (fun _ => False) h27, Cel (Hp.next h10) [(AV.int .u8 (Int.ofNat x4.2.2)), AV.nilSlice], Cel b101 [w14, (AV.int .i64 (Int.ofNat x4.2.1))], Frz G h0, OwnO 2 wA5 A5.length LA5, Frz G_102 k_102] h27 := S31.empty
          have S34 : Sep [OwnO 2 AV.nilSlice (([] : List (Nat × List Nat)).length) [], Frz (fun _ => False) h27, Cel (Hp.next h10) [(AV.int .u8 (Int.ofNat x4.2.2)), AV.nilSlice], Cel b101 [w14, (AV.int .i64 (Int.ofNat x4.2.1))], Frz G h0, OwnO 2 wA5 A5.length LA5, Frz G_102 k_102] h27 := own_nil S33 2
          have S35 : Sep [OwnO 2 AV.nilSlice (([] : List (Nat × List Nat)).length) [], Frz (fun _ => False) h27, Frz G h0] h27 := S34.sel [0, 1, 4] (by decide) rfl
          refine ⟨_, AV.nilSlice, (AV.int .i64 (Int.ofNat 2)), (Option.some.inj hp).symm, rfl, rfl, ?_⟩
          exact ⟨AV.nilSlice, [], (fun _ => False), h27, rfl, (own_rows_nil _ _ _), S35⟩
        replace c32 := ltI_t (notB_f c32)
        replace hp := iff0 hp (nleO c32)
        have S33 : Sep [Cel b101 [w14, (AV.int .i64 (Int.ofNat x4.2.1))], Frz G h0, Cel (Hp.next h10) [(AV.int .u8 (Int.ofNat x4.2.2)), AV.nilSlice], OwnO 2 wA5 A5.length LA5, Frz G_102 k_102] h27 := S31.sel [1, 2, 0, 3, 4] (by decide) rfl
        have ⟨x34, hb35, hp⟩ := ob_inv hp
        obtain ⟨v39, h40, q41, w44, e42, f38, f45, S43⟩ := h_ru32 f15 hb35 S33
        replace e42 := e42.symm
        subst e42
        have S46 : Sep [Cel b101 [w44, (AV.int .i64 (Int.ofNat x34.2.1))], Frz G h0, Cel (Hp.next h10) [(AV.int .u8 (Int.ofNat x4.2.2)), AV.nilSlice], OwnO 2 wA5 A5.length LA5, Frz G_102 k_102] h40 := S43
        refine ⟨x34, w44, h40, q41, ?_⟩
        have ⟨x47, hb48, hp⟩ := ob_inv hp
        obtain ⟨v53, h54, q55, w51, w58, e56, f52, f59, S57⟩ := h_rtake f45 f38 hb48 S46
        replace e56 := e56.symm
        subst e56
        have S60 : Sep [OwnO 1 w51 x47.2.2.length (u8s x47.2.2), Cel b101 [w58, (AV.int .i64 (Int.ofNat x47.2.1))], Frz G h0, Cel (Hp.next h10) [(AV.int .u8 (Int.ofNat x4.2.2)), AV.nilSlice], OwnO 2 wA5 A5.length LA5, Frz G_102 k_102] h54 := S57
        refine ⟨x47, w51, w58, h54, q55, ?_⟩
        obtain ⟨e61, qe61, se61⟩ := cel_store call S60 (i := 3) (o := 1) (x := w51) rfl (by first | decide | (simp; done) | (simp only [List.length_cons, List.length_nil]; omega)) (own_cell S60 (i := 0) rfl)
        have S62 : Sep [OwnO 1 w51 x47.2.2.length (u8s x47.2.2), Cel b101 [w58, (AV.int .i64 (Int.ofNat x47.2.1))], Frz G h0, Cel (Hp.next h10) [(AV.int .u8 (Int.ofNat x4.2.2)), w51], OwnO 2 wA5 A5.length LA5, Frz G_102 k_102] e61.h := se61
        refine ⟨e61, qe61, ?_⟩
        refine ⟨cel_load S62 (i := 1) rfl rfl, ?_⟩
        refine ⟨fun c63 => ?_, fun c63 => ?_⟩
        · replace c63 := eqI_f (notB_t c63)
          replace hp := ift hp c63
          have S64 : Sep [OwnO 2 wA5 A5.length LA5, Cel b101 [w58, (AV.int .i64 (Int.ofNat x47.2.1))], Frz G_102 k_102, Frz G h0] e61.h := S62.sel [4, 1, 5, 2] (by decide) rfl
          refine ⟨(m, A2, A3, A5, A6, x47.1, x47.2.1, wA2_1, wA5, LA5, w58, G_102, k_102), rfl, rfl, fun _ => ⟨(Option.some.inj hp).symm, fA2_2, fA5, f59, S64⟩⟩
        replace c63 := eqI_t (notB_f c63)
        replace hp := iff0 hp (nneO c63)
        refine ⟨cel_load S62 (i := 3) rfl rfl, ?_⟩
        refine ⟨fun c64 => ?_, fun c64 => ?_⟩
        · replace c64 := eqI_t c64
          replace hp := ift hp c64
          refine ⟨cel_load S62 (i := 3) rfl rfl, ?_⟩
          refine ⟨build_told (by show fillParts [(0, 1, (.const w51))] .lf 2 [AV.nilSlice, (AV.int .i64 (Int.ofNat 0))] = _; rw [fill_cons (o := 0) (k := 1) (n := 2) (own_cells S62 (i := 0) rfl) rfl (by decide)]; rfl), ?_⟩
          refine ⟨box_told rfl rfl (all_cell (own_cell S62 (i := 0) rfl) (all_cell rfl all_cell0)), ?_⟩
          have S65 : Sep [Cel (Hp.next e61.h) [w51, (AV.int .i64 (Int.ofNat 0))], OwnO 1 w51 x47.2.2.length (u8s x47.2.2), Cel b101 [w58, (AV.int .i64 (Int.ofNat x47.2.1))], Frz G h0, Cel (Hp.next h10) [(AV.int .u8 (Int.ofNat x4.2.2)), w51], OwnO 2 wA5 A5.length LA5, Frz G_102 k_102] (hpush e61.h (mkCells [w51, (AV.int .i64 (Int.ofNat 0))] 2)) := cel_new S62 [w51, (AV.int .i64 (Int.ofNat 0))] rfl
          obtain ⟨G66, pG66, sG66⟩ := own_freeze S65 (i := 1) rfl f52
          have S67 : Sep [Cel (Hp.next e61.h) [w51, (AV.int .i64 (Int.ofNat 0))], Frz G66 (hpush e61.h (mkCells [w51, (AV.int .i64 (Int.ofNat 0))] 2)), Cel b101 [w58, (AV.int .i64 (Int.ofNat x47.2.1))], Frz G h0, Cel (Hp.next h10) [(AV.int .u8 (Int.ofNat x4.2.2)), w51], OwnO 2 wA5 A5.length LA5, Frz G_102 k_102] (hpush e61.h (mkCells [w51, (AV.int .i64 (Int.ofNat 0))] 2)) := sG66
          have ⟨x68, hb69, hp⟩ := ob_inv hp
          obtain ⟨v73, h74, q75, w78, e76, f72, f79, S77⟩ := h_ru32 pG66 hb69 S67
          replace e76 := e76.symm
          subst e76
          have S80 : Sep [Cel (Hp.next e61.h) [w78, (AV.int .i64 (Int.ofNat x68.2.1))], Frz G66 (hpush e61.h (mkCells [w51, (AV.int .i64 (Int.ofNat 0))] 2)), Cel b101 [w58, (AV.int .i64 (Int.ofNat x47.2.1))], Frz G h0, Cel (Hp.next h10) [(AV.int .u8 (Int.ofNat x4.2.2)), w51], OwnO 2 wA5 A5.length LA5, Frz G_102 k_102] h74 := S77
          refine ⟨x68, w78, h74, q75, ?_⟩
          have ⟨x81, hb82, hp⟩ := ob_inv hp
          obtain ⟨v87, h88, q89, w85, w92, e90, f86, f93, S91⟩ := h_rtake f79 f72 hb82 S80
          replace e90 := e90.symm
          subst e90
          have S94 : Sep [OwnO 1 w85 x81.2.2.length (u8s x81.2.2), Cel (Hp.next e61.h) [w92, (AV.int .i64 (Int.ofNat x81.2.1))], Frz G66 (hpush e61.h (mkCells [w51, (AV.int .i64 (Int.ofNat 0))] 2)), Cel b101 [w58, (AV.int .i64 (Int.ofNat x47.2.1))], Frz G h0, Cel (Hp.next h10) [(AV.int .u8 (Int.ofNat x4.2.2)), w51], OwnO 2 wA5 A5.length LA5, Frz G_102 k_102] h88 := S91
          refine ⟨x81, w85, w92, h88, q89, ?_⟩
          refine ⟨cel_load S94 (i := 1) rfl rfl, ?_⟩
          refine ⟨fun c95 => ?_, fun c95 => ?_⟩
          · replace c95 := eqI_f (notB_t c95)
            replace hp := ift hp c95
            have S96 : Sep [Cel b101 [w58, (AV.int .i64 (Int.ofNat x47.2.1))], Frz G h0, OwnO 1 w85 x81.2.2.length (u8s x81.2.2), Cel (Hp.next e61.h) [w92, (AV.int .i64 (Int.ofNat x81.2.1))], Frz G66 (hpush e61.h (mkCells [w51, (AV.int .i64 (Int.ofNat 0))] 2)), Cel (Hp.next h10) [(AV.int .u8 (Int.ofNat x4.2.2)), w51], OwnO 2 wA5 A5.length LA5, Frz G_102 k_102] h88 := S94.sel [3, 4, 0, 1, 2, 5, 6, 7] (by decide) rfl
            have ⟨x97, hb98, hp⟩ := ob_inv hp
            obtain ⟨v101, h102, q103, w106, e104, f107, S105⟩ := h_rfail f59 hb98 S96
            replace e104 := e104.symm
            subst e104
            have S108 : Sep [Cel b101 [w106, (AV.int .i64 (Int.ofNat x97.2))], Frz G h0, OwnO 1 w85 x81.2.2.length (u8s x81.2.2), Cel (Hp.next e61.h) [w92, (AV.int .i64 (Int.ofNat x81.2.1))], Frz G66 (hpush e61.h (mkCells [w51, (AV.int .i64 (Int.ofNat 0))] 2)), Cel (Hp.next h10) [(AV.int .u8 (Int.ofNat x4.2.2)), w51], OwnO 2 wA5 A5.length LA5, Frz G_102 k_102] h102 := S105
            refine ⟨x97, w106, h102, q103, ?_⟩
            refine ⟨cel_loadA S108 (i := 5) (o := 0) (n := 2) rfl (by first | decide | (simp; done) | (simp only [List.length_cons, List.length_nil]; omega)), ?_⟩
            refine ⟨lit_told (n := 2) (by show fillParts _ _ 2 [(AV.int .u8 (Int.ofNat 0)), AV.nilSlice] = _; rw [fill_cons (o := 0) (k := 2) (n := 2) rfl rfl (by decide)]; rfl) (all_cell rfl (all_cell (BIn.cell pG66) all_cell0)) rfl, ?_⟩
            have S109 : Sep [OwnO 2 (AV.slice (Hp.next h102) 0 1 1 2 true) 1 [(AV.int .u8 (Int.ofNat x4.2.2)), w51], Cel b101 [w106, (AV.int .i64 (Int.ofNat x97.2))], Frz G h0, OwnO 1 w85 x81.2.2.length (u8s x81.2.2), Cel (Hp.next e61.h) [w92, (AV.int .i64 (Int.ofNat x81.2.1))], Frz G66 (hpush e61.h (mkCells [w51, (AV.int .i64 (Int.ofNat 0))] 2)), Cel (Hp.next h10) [(AV.int .u8 (Int.ofNat x4.2.2)), w51], OwnO 2 wA5 A5.length LA5, Frz G_102 k_102] (hpush h102 (mkCells [(AV.int .u8 (Int.ofNat x4.2.2)), w51] 2)) := own_new S108 2 1 [(AV.int .u8 (Int.ofNat x4.2.2)), w51] true rfl
            have S111 : Sep [Frz G_102 k_102, Frz G66 (hpush e61.h (mkCells [w51, (AV.int .i64 (Int.ofNat 0))] 2)), OwnO 2 (AV.slice (Hp.next h102) 0 1 1 2 true) 1 [(AV.int .u8 (Int.ofNat x4.2.2)), w51], Cel b101 [w106, (AV.int .i64 (Int.ofNat x97.2))], Frz G h0, OwnO 1 w85 x81.2.2.length (u8s x81.2.2), Cel (Hp.next e61.h) [w92, (AV.int .i64 (Int.ofNat x81.2.1))], Cel (Hp.next h10) [(AV.int .u8 (Int.ofNat x4.2.2)), w51], OwnO 2 wA5 A5.length LA5] (hpush h102 (mkCells [(AV.int .u8 (Int.ofNat x4.2.2)), w51] 2)) := S109.sel [8, 5, 0, 1, 2, 3, 4, 6, 7] (by decide) rfl
            obtain ⟨G112, uG112, vG112, sG112⟩ := Sep.mergeX S111
            have S113 : Sep [Frz G112 (hpush h102 (mkCells [(AV.int .u8 (Int.ofNat x4.2.2)), w51] 2)), OwnO 2 (AV.slice (Hp.next h102) 0 1 1 2 true) 1 [(AV.int .u8 (Int.ofNat x4.2.2)), w51], Cel b101 [w106, (AV.int .i64 (Int.ofNat x97.2))], Frz G h0, OwnO 1 w85 x81.2.2.length (u8s x81.2.2), Cel (Hp.next e61.h) [w92, (AV.int .i64 (Int.ofNat x81.2.1))], Cel (Hp.next h10) [(AV.int .u8 (Int.ofNat x4.2.2)), w51], OwnO 2 wA5 A5.length LA5] (hpush h102 (mkCells [(AV.int .u8 (Int.ofNat x4.2.2)), w51] 2)) := sG112
            have ⟨g114, hp⟩ := gd_inv hp
            obtain ⟨e110, qe110, se110⟩ := own_append (bytes := 32) call S113 (i := 7) rfl (x := (AV.slice (Hp.next h102) 0 1 1 2 true)) (m := 1) (xs := [(AV.int .u8 (Int.ofNat x4.2.2)), w51]) (fun z k => own_src S113 (i := 1) rfl z k) (own_L S113 (i := 1) rfl) (all_cell rfl (all_cell (BIn.cell (BIn.up vG112 pG66)) all_cell0)) g114 (by omega)
            have S116 : Sep [Frz G112 (hpush h102 (mkCells [(AV.int .u8 (Int.ofNat x4.2.2)), w51] 2)), OwnO 2 (AV.slice (Hp.next h102) 0 1 1 2 true) 1 [(AV.int .u8 (Int.ofNat x4.2.2)), w51], Cel b101 [w106, (AV.int .i64 (Int.ofNat x97.2))], Frz G h0, OwnO 1 w85 x81.2.2.length (u8s x81.2.2), Cel (Hp.next e61.h) [w92, (AV.int .i64 (Int.ofNat x81.2.1))], Cel (Hp.next h10) [(AV.int .u8 (Int.ofNat x4.2.2)), w51], OwnO 2 e110.v (A5.length + 1) (LA5 ++ [(AV.int .u8 (Int.ofNat x4.2.2)), w51])] e110.h := se110
            obtain ⟨L115, rL115, eL115⟩ : ∃ L, Eng.Rows (rP (rU .u8) rY) G112 (hpush h102 (mkCells [(AV.int .u8 (Int.ofNat x4.2.2)), w51] 2)) L (A5 ++ [(x4.2.2, x47.2.2)]) ∧ LA5 ++ [(AV.int .u8 (Int.ofNat x4.2.2)), w51] = L := ⟨_, (Rows.snoc (Rows.up uG112 fA5) (a := (rP (rU .u8) rY)) (x := (x4.2.2, x47.2.2)) ⟨_, _, rfl, ⟨rfl, f8⟩, ⟨w51, rfl, (BIn.up vG112 pG66)⟩⟩), rfl⟩
            have S117 : Sep [Frz G112 (hpush h102 (mkCells [(AV.int .u8 (Int.ofNat x4.2.2)), w51] 2)), OwnO 2 (AV.slice (Hp.next h102) 0 1 1 2 true) 1 [(AV.int .u8 (Int.ofNat x4.2.2)), w51], Cel b101 [w106, (AV.int .i64 (Int.ofNat x97.2))], Frz G h0, OwnO 1 w85 x81.2.2.length (u8s x81.2.2), Cel (Hp.next e61.h) [w92, (AV.int .i64 (Int.ofNat x81.2.1))], Cel (Hp.next h10) [(AV.int .u8 (Int.ofNat x4.2.2)), w51], OwnO 2 e110.v ((A5 ++ [(x4.2.2, x47.2.2)]).length) L115] e110.h := (by have z := S116; rw [eL115, show A5.length + 1 = (A5 ++ [(x4.2.2, x47.2.2)]).length from by simp] at z; exact z)
            have S118 : Sep [OwnO 2 (AV.slice (Hp.next h102) 0 1 1 2 true) 1 [(AV.int .u8 (Int.ofNat x4.2.2)), w51], Frz G112 (hpush h102 (mkCells [(AV.int .u8 (Int.ofNat x4.2.2)), w51] 2)), Cel b101 [w106, (AV.int .i64 (Int.ofNat x97.2))], Frz G h0, OwnO 1 w85 x81.2.2.length (u8s x81.2.2), Cel (Hp.next e61.h) [w92, (AV.int .i64 (Int.ofNat x81.2.1))], Cel (Hp.next h10) [(AV.int .u8 (Int.ofNat x4.2.2)), w51], OwnO 2 e110.v ((A5 ++ [(x4.2.2, x47.2.2)]).length) L115] e110.h := S117.sel [1, 0, 2, 3, 4, 5, 6, 7] (by decide) rfl
            have S119 : Sep [Frz G112 (hpush h102 (mkCells [(AV.int .u8 (Int.ofNat x4.2.2)), w51] 2)), Cel b101 [w106, (AV.int .i64 (Int.ofNat x97.2))], Frz G h0, OwnO 1 w85 x81.2.2.length (u8s x81.2.2), Cel (Hp.next e61.h) [w92, (AV.int .i64 (Int.ofNat x81.2.1))], Cel (Hp.next h10) [(AV.int .u8 (Int.ofNat x4.2.2)), w51], OwnO 2 e110.v ((A5 ++ [(x4.2.2, x47.2.2)]).length) L115] e110.h := S118.tail
            refine ⟨e110, qe110, ?_⟩
            have S120 : Sep [OwnO 2 e110.v ((A5 ++ [(x4.2.2, x47.2.2)]).length) L115, Cel b101 [w106, (AV.int .i64 (Int.ofNat x97.2))], Frz G112 (hpush h102 (mkCells [(AV.int .u8 (Int.ofNat x4.2.2)), w51] 2)), Frz G h0] e110.h := S119.sel [6, 1, 0, 2] (by decide) rfl
            refine ⟨(m, A2, A3, A5 ++ [(x4.2.2, x47.2.2)], A6, x97.1, x97.2, wA2_1, e110.v, L115, w106, G112, hpush h102 (mkCells [(AV.int .u8 (Int.ofNat x4.2.2)), w51] 2)), rfl, ⟨hp, fA2_2, rL115, f107, S120⟩, by show m < n; omega⟩
          replace c95 := eqI_t (notB_f c95)
          replace hp := iff0 hp (nneO c95)
          have ⟨x96, hb97, hp⟩ := ob_inv hp
          obtain ⟨v100, h101, q102, e103, S104⟩ := h_rutf8 (own_bin S94 (i := 0) rfl f86) hb97
          replace e103 := e103.symm
          subst e103
          have S105 : Sep [OwnO 1 w85 x81.2.2.length (u8s x81.2.2), Cel (Hp.next e61.h) [w92, (AV.int .i64 (Int.ofNat x81.2.1))], Frz G66 (hpush e61.h (mkCells [w51, (AV.int .i64 (Int.ofNat 0))] 2)), Cel b101 [w58, (AV.int .i64 (Int.ofNat x47.2.1))], Frz G h0, Cel (Hp.next h10) [(AV.int .u8 (Int.ofNat x4.2.2)), w51], OwnO 2 wA5 A5.length LA5, Frz G_102 k_102] h101 := Sep.call S94 (news := []) S104
          refine ⟨x96, h101, q102, ?_⟩
          refine ⟨fun c106 => ?_, fun c106 => ?_⟩
          · replace c106 := notB_t c106
            replace hp := ift hp c106
            have S107 : Sep [Cel b101 [w58, (AV.int .i64 (Int.ofNat x47.2.1))], Frz G h0, OwnO 1 w85 x81.2.2.length (u8s x81.2.2), Cel (Hp.next e61.h) [w92, (AV.int .i64 (Int.ofNat x81.2.1))], Frz G66 (hpush e61.h (mkCells [w51, (AV.int .i64 (Int.ofNat 0))] 2)), Cel (Hp.next h10) [(AV.int .u8 (Int.ofNat x4.2.2)), w51], OwnO 2 wA5 A5.length LA5, Frz G_102 k_102] h101 := S105.sel [3, 4, 0, 1, 2, 5, 6, 7] (by decide) rfl
            have ⟨x108, hb109, hp⟩ := ob_inv hp
            obtain ⟨v112, h113, q114, w117, e115, f118, S116⟩ := h_rfail f59 hb109 S107
            replace e115 := e115.symm
            subst e115
            have S119 : Sep [Cel b101 [w117, (AV.int .i64 (Int.ofNat x108.2))], Frz G h0, OwnO 1 w85 x81.2.2.length (u8s x81.2.2), Cel (Hp.next e61.h) [w92, (AV.int .i64 (Int.ofNat x81.2.1))], Frz G66 (hpush e61.h (mkCells [w51, (AV.int .i64 (Int.ofNat 0))] 2)), Cel (Hp.next h10) [(AV.int .u8 (Int.ofNat x4.2.2)), w51], OwnO 2 wA5 A5.length LA5, Frz G_102 k_102] h113 := S116
            refine ⟨x108, w117, h113, q114, ?_⟩
            refine ⟨cel_loadA S119 (i := 5) (o := 0) (n := 2) rfl (by first | decide | (simp; done) | (simp only [List.length_cons, List.length_nil]; omega)), ?_⟩
            refine ⟨lit_told (n := 2) (by show fillParts _ _ 2 [(AV.int .u8 (Int.ofNat 0)), AV.nilSlice] = _; rw [fill_cons (o := 0) (k := 2) (n := 2) rfl rfl (by decide)]; rfl) (all_cell rfl (all_cell (BIn.cell pG66) all_cell0)) rfl, ?_⟩
            have S120 : Sep [OwnO 2 (AV.slice (Hp.next h113) 0 1 1 2 true) 1 [(AV.int .u8 (Int.ofNat x4.2.2)), w51], Cel b101 [w117, (AV.int .i64 (Int.ofNat x108.2))], Frz G h0, OwnO 1 w85 x81.2.2.length (u8s x81.2.2), Cel (Hp.next e61.h) [w92, (AV.int .i64 (Int.ofNat x81.2.1))], Frz G66 (hpush e61.h (mkCells [w51, (AV.int .i64 (Int.ofNat 0))] 2)), Cel (Hp.next h10) [(AV.int .u8 (Int.ofNat x4.2.2)), w51], OwnO 2 wA5 A5.length LA5, Frz G_102 k_102] (hpush h113 (mkCells [(AV.int .u8 (Int.ofNat x4.2.2)), w51] 2)) := own_new S119 2 1 [(AV.int .u8 (Int.ofNat x4.2.2)), w51] true rfl
            have S122 : Sep [Frz G_102 k_102, Frz G66 (hpush e61.h (mkCells [w51, (AV.int .i64 (Int.ofNat 0))] 2)), OwnO 2 (AV.slice (Hp.next h113) 0 1 1 2 true) 1 [(AV.int .u8 (Int.ofNat x4.2.2)), w51], Cel b101 [w117, (AV.int .i64 (Int.ofNat x108.2))], Frz G h0, OwnO 1 w85 x81.2.2.length (u8s x81.2.2), Cel (Hp.next e61.h) [w92, (AV.int .i64 (Int.ofNat x81.2.1))], Cel (Hp.next h10) [(AV.int .u8 (Int.ofNat x4.2.2)), w51], OwnO 2 wA5 A5.length LA5] (hpush h113 (mkCells [(AV.int .u8 (Int.ofNat x4.2.2)), w51] 2)) := S120.sel [8, 5, 0, 1, 2, 3, 4, 6, 7] (by decide) rfl
            obtain ⟨G123, uG123, vG123, sG123⟩ := Sep.mergeX S122
            have S124 : Sep [Frz G123 (hpush h113 (mkCells [(AV.int .u8 (Int.ofNat x4.2.2)), w51] 2)), OwnO 2 (AV.slice (Hp.next h113) 0 1 1 2 true) 1 [(AV.int .u8 (Int.ofNat x4.2.2)), w51], Cel b101 [w117, (AV.int .i64 (Int.ofNat x108.2))], Frz G h0, OwnO 1 w85 x81.2.2.length (u8s x81.2.2), Cel (Hp.next e61.h) [w92, (AV.int .i64 (Int.ofNat x81.2.1))], Cel (Hp.next h10) [(AV.int .u8 (Int.ofNat x4.2.2)), w51], OwnO 2 wA5 A5.length LA5] (hpush h113 (mkCells [(AV.int .u8 (Int.ofNat x4.2.2)), w51] 2)) := sG123
            have ⟨g125, hp⟩ := gd_inv hp
            obtain ⟨e121, qe121, se121⟩ := own_append (bytes := 32) call S124 (i := 7) rfl (x := (AV.slice (Hp.next h113) 0 1 1 2 true)) (m := 1) (xs := [(AV.int .u8 (Int.ofNat x4.2.2)), w51]) (fun z k => own_src S124 (i := 1) rfl z k) (own_L S124 (i := 1) rfl) (all_cell rfl (all_cell (BIn.cell (BIn.up vG123 pG66)) all_cell0)) g125 (by omega)
            have S127 : Sep [Frz G123 (hpush h113 (mkCells [(AV.int .u8 (Int.ofNat x4.2.2)), w51] 2)), OwnO 2 (AV.slice (Hp.next h113) 0 1 1 2 true) 1 [(AV.int .u8 (Int.ofNat x4.2.2)), w51], Cel b101 [w117, (AV.int .i64 (Int.ofNat x108.2))], Frz G h0, OwnO 1 w85 x81.2.2.length (u8s x81.2.2), Cel (Hp.next e61.h) [w92, (AV.int .i64 (Int.ofNat x81.2.1))], Cel (Hp.next h10) [(AV.int .u8 (Int.ofNat x4.2.2)), w51], OwnO 2 e121.v (A5.length + 1) (LA5 ++ [(AV.int .u8 (Int.ofNat x4.2.2)), w51])] e121.h := se121
            obtain ⟨L126, rL126, eL126⟩ : ∃ L, Eng.Rows (rP (rU .u8) rY) G123 (hpush h113 (mkCells [(AV.int .u8 (Int.ofNat x4.2.2)), w51] 2)) L (A5 ++ [(x4.2.2, x47.2.2)]) ∧ LA5 ++ [(AV.int .u8 (Int.ofNat x4.2.2)), w51] = L := ⟨_, (Rows.snoc (Rows.up uG123 fA5) (a := (rP (rU .u8) rY)) (x := (x4.2.2, x47.2.2)) ⟨_, _, rfl, ⟨rfl, f8⟩, ⟨w51, rfl, (BIn.up vG123 pG66)⟩⟩), rfl⟩
            have S128 : Sep [Frz G123 (hpush h113 (mkCells [(AV.int .u8 (Int.ofNat x4.2.2)), w51] 2)), OwnO 2 (AV.slice (Hp.next h113) 0 1 1 2 true) 1 [(AV.int .u8 (Int.ofNat x4.2.2)), w51], Cel b101 [w117, (AV.int .i64 (Int.ofNat x108.2))], Frz G h0, OwnO 1 w85 x81.2.2.length (u8s x81.2.2), Cel (Hp.next e61.h) [w92, (AV.int .i64 (Int.ofNat x81.2.1))], Cel (Hp.next h10) [(AV.int .u8 (Int.ofNat x4.2.2)), w51], OwnO 2 e121.v ((A5 ++ [(x4.2.2, x47.2.2)]).length) L126] e121.h := (by have z := S127; rw [eL126, show A5.length + 1 = (A5 ++ [(x4.2.2, x47.2.2)]).length from by simp] at z; exact z)
            have S129 : Sep [OwnO 2 (AV.slice (Hp.next h113) 0 1 1 2 true) 1 [(AV.int .u8 (Int.ofNat x4.2.2)), w51], Frz G123 (hpush h113 (mkCells [(AV.int .u8 (Int.ofNat x4.2.2)), w51] 2)), Cel b101 [w117, (AV.int .i64 (Int.ofNat x108.2))], Frz G h0, OwnO 1 w85 x81.2.2.length (u8s x81.2.2), Cel (Hp.next e61.h) [w92, (AV.int .i64 (Int.ofNat x81.2.1))], Cel (Hp.next h10) [(AV.int .u8 (Int.ofNat x4.2.2)), w51], OwnO 2 e121.v ((A5 ++ [(x4.2.2, x47.2.2)]).length) L126] e121.h := S128.sel [1, 0, 2, 3, 4, 5, 6, 7] (by decide) rfl
            have S130 : Sep [Frz G123 (hpush h113 (mkCells [(AV.int .u8 (Int.ofNat x4.2.2)), w51] 2)), Cel b101 [w117, (AV.int .i64 (Int.ofNat x108.2))], Frz G h0, OwnO 1 w85 x81.2.2.length (u8s x81.2.2), Cel (Hp.next e61.h) [w92, (AV.int .i64 (Int.ofNat x81.2.1))], Cel (Hp.next h10) [(AV.int .u8 (Int.ofNat x4.2.2)), w51], OwnO 2 e121.v ((A5 ++ [(x4.2.2, x47.2.2)]).length) L126] e121.h := S129.tail
            refine ⟨e121, qe121, ?_⟩
            have S131 : Sep [OwnO 2 e121.v ((A5 ++ [(x4.2.2, x47.2.2)]).length) L126, Cel b101 [w117, (AV.int .i64 (Int.ofNat x108.2))], Frz G123 (hpush h113 (mkCells [(AV.int .u8 (Int.ofNat x4.2.2)), w51] 2)), Frz G h0] e121.h := S130.sel [6, 1, 0, 2] (by decide) rfl
            refine ⟨(m, A2, A3, A5 ++ [(x4.2.2, x47.2.2)], A6, x108.1, x108.2, wA2_1, e121.v, L126, w117, G123, hpush h113 (mkCells [(AV.int .u8 (Int.ofNat x4.2.2)), w51] 2)), rfl, ⟨hp, fA2_2, rL126, f118, S131⟩, by show m < n; omega⟩
          replace c106 := notB_f c106
          replace hp := iff0 hp (nbT c106)
          refine ⟨cel_loadA S105 (i := 5) (o := 0) (n := 2) rfl (by first | decide | (simp; done) | (simp only [List.length_cons, List.length_nil]; omega)), ?_⟩
          refine ⟨lit_told (n := 2) (by show fillParts _ _ 2 [(AV.int .u8 (Int.ofNat 0)), AV.nilSlice] = _; rw [fill_cons (o := 0) (k := 2) (n := 2) rfl rfl (by decide)]; rfl) (all_cell rfl (all_cell (BIn.cell pG66) all_cell0)) rfl, ?_⟩
          have S107 : Sep [OwnO 2 (AV.slice (Hp.next h101) 0 1 1 2 true) 1 [(AV.int .u8 (Int.ofNat x4.2.2)), w51], OwnO 1 w85 x81.2.2.length (u8s x81.2.2), Cel (Hp.next e61.h) [w92, (AV.int .i64 (Int.ofNat x81.2.1))], Frz G66 (hpush e61.h (mkCells [w51, (AV.int .i64 (Int.ofNat 0))] 2)), Cel b101 [w58, (AV.int .i64 (Int.ofNat x47.2.1))], Frz G h0, Cel (Hp.next h10) [(AV.int .u8 (Int.ofNat x4.2.2)), w51], OwnO 2 wA5 A5.length LA5, Frz G_102 k_102] (hpush h101 (mkCells [(AV.int .u8 (Int.ofNat x4.2.2)), w51] 2)) := own_new S105 2 1 [(AV.int .u8 (Int.ofNat x4.2.2)), w51] true rfl
          have S109 : Sep [Frz G_102 k_102, Frz G66 (hpush e61.h (mkCells [w51, (AV.int .i64 (Int.ofNat 0))] 2)), OwnO 2 (AV.slice (Hp.next h101) 0 1 1 2 true) 1 [(AV.int .u8 (Int.ofNat x4.2.2)), w51], OwnO 1 w85 x81.2.2.length (u8s x81.2.2), Cel (Hp.next e61.h) [w92, (AV.int .i64 (Int.ofNat x81.2.1))], Cel b101 [w58, (AV.int .i64 (Int.ofNat x47.2.1))], Frz G h0, Cel (Hp.next h10) [(AV.int .u8 (Int.ofNat x4.2.2)), w51], OwnO 2 wA5 A5.length LA5] (hpush h101 (mkCells [(AV.int .u8 (Int.ofNat x4.2.2)), w51] 2)) := S107.sel [8, 3, 0, 1, 2, 4, 5, 6, 7] (by decide) rfl
          obtain ⟨G110, uG110, vG110, sG110⟩ := Sep.mergeX S109
          have S111 : Sep [Frz G110 (hpush h101 (mkCells [(AV.int .u8 (Int.ofNat x4.2.2)), w51] 2)), OwnO 2 (AV.slice (Hp.next h101) 0 1 1 2 true) 1 [(AV.int .u8 (Int.ofNat x4.2.2)), w51], OwnO 1 w85 x81.2.2.length (u8s x81.2.2), Cel (Hp.next e61.h) [w92, (AV.int .i64 (Int.ofNat x81.2.1))], Cel b101 [w58, (AV.int .i64 (Int.ofNat x47.2.1))], Frz G h0, Cel (Hp.next h10) [(AV.int .u8 (Int.ofNat x4.2.2)), w51], OwnO 2 wA5 A5.length LA5] (hpush h101 (mkCells [(AV.int .u8 (Int.ofNat x4.2.2)), w51] 2)) := sG110
          have ⟨g112, hp⟩ := gd_inv hp
          obtain ⟨e108, qe108, se108⟩ := own_append (bytes := 32) call S111 (i := 7) rfl (x := (AV.slice (Hp.next h101) 0 1 1 2 true)) (m := 1) (xs := [(AV.int .u8 (Int.ofNat x4.2.2)), w51]) (fun z k => own_src S111 (i := 1) rfl z k) (own_L S111 (i := 1) rfl) (all_cell rfl (all_cell (BIn.cell (BIn.up vG110 pG66)) all_cell0)) g112 (by omega)
          have S114 : Sep [Frz G110 (hpush h101 (mkCells [(AV.int .u8 (Int.ofNat x4.2.2)), w51] 2)), OwnO 2 (AV.slice (Hp.next h101) 0 1 1 2 true) 1 [(AV.int .u8 (Int.ofNat x4.2.2)), w51], OwnO 1 w85 x81.2.2.length (u8s x81.2.2), Cel (Hp.next e61.h) [w92, (AV.int .i64 (Int.ofNat x81.2.1))], Cel b101 [w58, (AV.int .i64 (Int.ofNat x47.2.1))], Frz G h0, Cel (Hp.next h10) [(AV.int .u8 (Int.ofNat x4.2.2)), w51], OwnO 2 e108.v (A5.length + 1) (LA5 ++ [(AV.int .u8 (Int.ofNat x4.2.2)), w51])] e108.h := se108
          obtain ⟨L113, rL113, eL113⟩ : ∃ L, Eng.Rows (rP (rU .u8) rY) G110 (hpush h101 (mkCells [(AV.int .u8 (Int.ofNat x4.2.2)), w51] 2)) L (A5 ++ [(x4.2.2, x47.2.2)]) ∧ LA5 ++ [(AV.int .u8 (Int.ofNat x4.2.2)), w51] = L := ⟨_, (Rows.snoc (Rows.up uG110 fA5) (a := (rP (rU .u8) rY)) (x := (x4.2.2, x47.2.2)) ⟨_, _, rfl, ⟨rfl, f8⟩, ⟨w51, rfl, (BIn.up vG110 pG66)⟩⟩), rfl⟩
          have S115 : Sep [Frz G110 (hpush h101 (mkCells [(AV.int .u8 (Int.ofNat x4.2.2)), w51] 2)), OwnO 2 (AV.slice (Hp.next h101) 0 1 1 2 true) 1 [(AV.int .u8 (Int.ofNat x4.2.2)), w51], OwnO 1 w85 x81.2.2.length (u8s x81.2.2), Cel (Hp.next e61.h) [w92, (AV.int .i64 (Int.ofNat x81.2.1))], Cel b101 [w58, (AV.int .i64 (Int.ofNat x47.2.1))], Frz G h0, Cel (Hp.next h10) [(AV.int .u8 (Int.ofNat x4.2.2)), w51], OwnO 2 e108.v ((A5 ++ [(x4.2.2, x47.2.2)]).length) L113] e108.h := (by have z := S114; rw [eL113, show A5.length + 1 = (A5 ++ [(x4.2.2, x47.2.2)]).length from by simp] at z; exact z)
          have S116 : Sep [OwnO 2 (AV.slice (Hp.next h101) 0 1 1 2 true) 1 [(AV.int .u8 (Int.ofNat x4.2.2)), w51], Frz G110 (hpush h101 (mkCells [(AV.int .u8 (Int.ofNat x4.2.2)), w51] 2)), OwnO 1 w85 x81.2.2.length (u8s x81.2.2), Cel (Hp.next e61.h) [w92, (AV.int .i64 (Int.ofNat x81.2.1))], Cel b101 [w58, (AV.int .i64 (Int.ofNat x47.2.1))], Frz G h0, Cel (Hp.next h10) [(AV.int .u8 (Int.ofNat x4.2.2)), w51], OwnO 2 e108.v ((A5 ++ [(x4.2.2, x47.2.2)]).length) L113] e108.h := S115.sel [1, 0, 2, 3, 4, 5, 6, 7] (by decide) rfl
          have S117 : Sep [Frz G110 (hpush h101 (mkCells [(AV.int .u8 (Int.ofNat x4.2.2)), w51] 2)), OwnO 1 w85 x81.2.2.length (u8s x81.2.2), Cel (Hp.next e61.h) [w92, (AV.int .i64 (Int.ofNat x81.2.1))], Cel b101 [w58, (AV.int .i64 (Int.ofNat x47.2.1))], Frz G h0, Cel (Hp.next h10) [(AV.int .u8 (Int.ofNat x4.2.2)), w51], OwnO 2 e108.v ((A5 ++ [(x4.2.2, x47.2.2)]).length) L113] e108.h := S116.tail
          refine ⟨e108, qe108, ?_⟩
          have S118 : Sep [OwnO 2 e108.v ((A5 ++ [(x4.2.2, x47.2.2)]).length) L113, Cel b101 [w58, (AV.int .i64 (Int.ofNat x47.2.1))], Frz G110 (hpush h101 (mkCells [(AV.int .u8 (Int.ofNat x4.2.2)), w51] 2)), Frz G h0] e108.h := S117.sel [6, 3, 0, 4] (by decide) rfl
          refine ⟨(m, A2, A3, A5 ++ [(x4.2.2, x47.2.2)], A6, x47.1, x47.2.1, wA2_1, e108.v, L113, w58, G110, hpush h101 (mkCells [(AV.int .u8 (Int.ofNat x4.2.2)), w51] 2)), rfl, ⟨hp, fA2_2, rL113, f59, S118⟩, by show m < n; omega⟩
        replace c64 := eqI_f c64
        replace hp := iff0 hp (c64)
        refine ⟨cel_load S62 (i := 3) rfl rfl, ?_⟩
        have ⟨x65, hb66, hp⟩ := ob_inv hp
        obtain ⟨v69, h70, q71, e72, S73⟩ := h_rank f8 hb66
        replace e72 := e72.symm
        subst e72
        have S74 : Sep [OwnO 1 w51 x47.2.2.length (u8s x47.2.2), Cel b101 [w58, (AV.int .i64 (Int.ofNat x47.2.1))], Frz G h0, Cel (Hp.next h10) [(AV.int .u8 (Int.ofNat x4.2.2)), w51], OwnO 2 wA5 A5.length LA5, Frz G_102 k_102] h70 := Sep.call S62 (news := []) S73
        refine ⟨x65, h70, q71, ?_⟩
        refine ⟨cel_loadA S74 (i := 3) (o := 0) (n := 2) rfl (by first | decide | (simp; done) | (simp only [List.length_cons, List.length_nil]; omega)), ?_⟩
        refine ⟨lit_told (n := 2) (by show fillParts _ _ 2 [(AV.int .u8 (Int.ofNat 0)), AV.nilSlice] = _; rw [fill_cons (o := 0) (k := 2) (n := 2) rfl rfl (by decide)]; rfl) (all_cell rfl (all_cell (own_cell S74 (i := 0) rfl) all_cell0)) rfl, ?_⟩
        have S75 : Sep [OwnO 2 (AV.slice (Hp.next h70) 0 1 1 2 true) 1 [(AV.int .u8 (Int.ofNat x4.2.2)), w51], OwnO 1 w51 x47.2.2.length (u8s x47.2.2), Cel b101 [w58, (AV.int .i64 (Int.ofNat x47.2.1))], Frz G h0, Cel (Hp.next h10) [(AV.int .u8 (Int.ofNat x4.2.2)), w51], OwnO 2 wA5 A5.length LA5, Frz G_102 k_102] (hpush h70 (mkCells [(AV.int .u8 (Int.ofNat x4.2.2)), w51] 2)) := own_new S74 2 1 [(AV.int .u8 (Int.ofNat x4.2.2)), w51] true rfl
        obtain ⟨G77, pG77, sG77⟩ := own_freeze S75 (i := 1) rfl f52
        have S78 : Sep [OwnO 2 (AV.slice (Hp.next h70) 0 1 1 2 true) 1 [(AV.int .u8 (Int.ofNat x4.2.2)), w51], Frz G77 (hpush h70 (mkCells [(AV.int .u8 (Int.ofNat x4.2.2)), w51] 2)), Cel b101 [w58, (AV.int .i64 (Int.ofNat x47.2.1))], Frz G h0, Cel (Hp.next h10) [(AV.int .u8 (Int.ofNat x4.2.2)), w51], OwnO 2 wA5 A5.length LA5, Frz G_102 k_102] (hpush h70 (mkCells [(AV.int .u8 (Int.ofNat x4.2.2)), w51] 2)) := sG77
        have S79 : Sep [Frz G_102 k_102, Frz G77 (hpush h70 (mkCells [(AV.int .u8 (Int.ofNat x4.2.2)), w51] 2)), OwnO 2 (AV.slice (Hp.next h70) 0 1 1 2 true) 1 [(AV.int .u8 (Int.ofNat x4.2.2)), w51], Cel b101 [w58, (AV.int .i64 (Int.ofNat x47.2.1))], Frz G h0, Cel (Hp.next h10) [(AV.int .u8 (Int.ofNat x4.2.2)), w51], OwnO 2 wA5 A5.length LA5] (hpush h70 (mkCells [(AV.int .u8 (Int.ofNat x4.2.2)), w51] 2)) := S78.sel [6, 1, 0, 2, 3, 4, 5] (by decide) rfl
        obtain ⟨G80, uG80, vG80, sG80⟩ := Sep.mergeX S79
        have S81 : Sep [Frz G80 (hpush h70 (mkCells [(AV.int .u8 (Int.ofNat x4.2.2)), w51] 2)), OwnO 2 (AV.slice (Hp.next h70) 0 1 1 2 true) 1 [(AV.int .u8 (Int.ofNat x4.2.2)), w51], Cel b101 [w58, (AV.int .i64 (Int.ofNat x47.2.1))], Frz G h0, Cel (Hp.next h10) [(AV.int .u8 (Int.ofNat x4.2.2)), w51], OwnO 2 wA5 A5.length LA5] (hpush h70 (mkCells [(AV.int .u8 (Int.ofNat x4.2.2)), w51] 2)) := sG80
        have ⟨g82, hp⟩ := gd_inv hp
        obtain ⟨e76, qe76, se76⟩ := own_append (bytes := 32) call S81 (i := 5) rfl (x := (AV.slice (Hp.next h70) 0 1 1 2 true)) (m := 1) (xs := [(AV.int .u8 (Int.ofNat x4.2.2)), w51]) (fun z k => own_src S81 (i := 1) rfl z k) (own_L S81 (i := 1) rfl) (all_cell rfl (all_cell (BIn.cell (BIn.up vG80 pG77)) all_cell0)) g82 (by omega)
        have S84 : Sep [Frz G80 (hpush h70 (mkCells [(AV.int .u8 (Int.ofNat x4.2.2)), w51] 2)), OwnO 2 (AV.slice (Hp.next h70) 0 1 1 2 true) 1 [(AV.int .u8 (Int.ofNat x4.2.2)), w51], Cel b101 [w58, (AV.int .i64 (Int.ofNat x47.2.1))], Frz G h0, Cel (Hp.next h10) [(AV.int .u8 (Int.ofNat x4.2.2)), w51], OwnO 2 e76.v (A5.length + 1) (LA5 ++ [(AV.int .u8 (Int.ofNat x4.2.2)), w51])] e76.h := se76
        obtain ⟨L83, rL83, eL83⟩ : ∃ L, Eng.Rows (rP (rU .u8) rY) G80 (hpush h70 (mkCells [(AV.int .u8 (Int.ofNat x4.2.2)), w51] 2)) L (A5 ++ [(x4.2.2, x47.2.2)]) ∧ LA5 ++ [(AV.int .u8 (Int.ofNat x4.2.2)), w51] = L := ⟨_, (Rows.snoc (Rows.up uG80 fA5) (a := (rP (rU .u8) rY)) (x := (x4.2.2, x47.2.2)) ⟨_, _, rfl, ⟨rfl, f8⟩, ⟨w51, rfl, (BIn.up vG80 pG77)⟩⟩), rfl⟩
        have S85 : Sep [Frz G80 (hpush h70 (mkCells [(AV.int .u8 (Int.ofNat x4.2.2)), w51] 2)), OwnO 2 (AV.slice (Hp.next h70) 0 1 1 2 true) 1 [(AV.int .u8 (Int.ofNat x4.2.2)), w51], Cel b101 [w58, (AV.int .i64 (Int.ofNat x47.2.1))], Frz G h0, Cel (Hp.next h10) [(AV.int .u8 (Int.ofNat x4.2.2)), w51], OwnO 2 e76.v ((A5 ++ [(x4.2.2, x47.2.2)]).length) L83] e76.h := (by have z := S84; rw [eL83, show A5.length + 1 = (A5 ++ [(x4.2.2, x47.2.2)]).length from by simp] at z; exact z)
        have S86 : Sep [OwnO 2 (AV.slice (Hp.next h70) 0 1 1 2 true) 1 [(AV.int .u8 (Int.ofNat x4.2.2)), w51], Frz G80 (hpush h70 (mkCells [(AV.int .u8 (Int.ofNat x4.2.2)), w51] 2)), Cel b101 [w58, (AV.int .i64 (Int.ofNat x47.2.1))], Frz G h0, Cel (Hp.next h10) [(AV.int .u8 (Int.ofNat x4.2.2)), w51], OwnO 2 e76.v ((A5 ++ [(x4.2.2, x47.2.2)]).length) L83] e76.h := S85.sel [1, 0, 2, 3, 4, 5] (by decide) rfl
        have S87 : Sep [Frz G80 (hpush h70 (mkCells [(AV.int .u8 (Int.ofNat x4.2.2)), w51] 2)), Cel b101 [w58, (AV.int .i64 (Int.ofNat x47.2.1))], Frz G h0, Cel (Hp.next h10) [(AV.int .u8 (Int.ofNat x4.2.2)), w51], OwnO 2 e76.v ((A5 ++ [(x4.2.2, x47.2.2)]).length) L83] e76.h := S86.tail
        refine ⟨e76, qe76, ?_⟩
        have S88 : Sep [OwnO 2 e76.v ((A5 ++ [(x4.2.2, x47.2.2)]).length) L83, Cel b101 [w58, (AV.int .i64 (Int.ofNat x47.2.1))], Frz G80 (hpush h70 (mkCells [(AV.int .u8 (Int.ofNat x4.2.2)), w51] 2)), Frz G h0] e76.h := S87.sel [4, 1, 0, 2] (by decide) rfl
        refine ⟨(m, A2, A3, A5 ++ [(x4.2.2, x47.2.2)], x65, x47.1, x47.2.1, wA2_1, e76.v, L83, w58, G80, hpush h70 (mkCells [(AV.int .u8 (Int.ofNat x4.2.2)), w51] 2)), rfl, ⟨hp, fA2_2, rL83, f59, S88⟩, by show m < n; omega⟩
      replace c21 := ltI_f c21
      replace hp := iff0 hp (nltO c21)
      have S22 : Sep [Cel b101 [w14, (AV.int .i64 (Int.ofNat x4.2.1))], Frz G h0, Cel (Hp.next h10) [(AV.int .u8 (Int.ofNat x4.2.2)), AV.nilSlice], OwnO 2 wA5 A5.length LA5, Frz G_102 k_102] e18.h := S19.sel [1, 2, 0, 3, 4] (by decide) rfl
      have ⟨x23, hb24, hp⟩ := ob_inv hp
      obtain ⟨v28, h29, q30, w33, e31, f27, f34, S32⟩ := h_ru32 f15 hb24 S22
      replace e31 := e31.symm
      subst e31
      have S35 : Sep [Cel b101 [w33, (AV.int .i64 (Int.ofNat x23.2.1))], Frz G h0, Cel (Hp.next h10) [(AV.int .u8 (Int.ofNat x4.2.2)), AV.nilSlice], OwnO 2 wA5 A5.length LA5, Frz G_102 k_102] h29 := S32
      refine ⟨x23, w33, h29, q30, ?_⟩
      have ⟨x36, hb37, hp⟩ := ob_inv hp
      obtain ⟨v42, h43, q44, w40, w47, e45, f41, f48, S46⟩ := h_rtake f34 f27 hb37 S35
      replace e45 := e45.symm
      subst e45
      have S49 : Sep [OwnO 1 w40 x36.2.2.length (u8s x36.2.2), Cel b101 [w47, (AV.int .i64 (Int.ofNat x36.2.1))], Frz G h0, Cel (Hp.next h10) [(AV.int .u8 (Int.ofNat x4.2.2)), AV.nilSlice], OwnO 2 wA5 A5.length LA5, Frz G_102 k_102] h43 := S46
      refine ⟨x36, w40, w47, h43, q44, ?_⟩
      obtain ⟨e50, qe50, se50⟩ := cel_store call S49 (i := 3) (o := 1) (x := w40) rfl (by first | decide | (simp; done) | (simp only [List.length_cons, List.length_nil]; omega)) (own_cell S49 (i := 0) rfl)
      have S51 : Sep [OwnO 1 w40 x36.2.2.length (u8s x36.2.2), Cel b101 [w47, (AV.int .i64 (Int.ofNat x36.2.1))], Frz G h0, Cel (Hp.next h10) [(AV.int .u8 (Int.ofNat x4.2.2)), w40], OwnO 2 wA5 A5.length LA5, Frz G_102 k_102] e50.h := se50
      refine ⟨e50, qe50, ?_⟩
      refine ⟨cel_load S51 (i := 1) rfl rfl, ?_⟩
      refine ⟨fun c52 => ?_, fun c52 => ?_⟩
      · replace c52 := eqI_f (notB_t c52)
        replace hp := ift hp c52
        have S53 : Sep [OwnO 2 wA5 A5.length LA5, Cel b101 [w47, (AV.int .i64 (Int.ofNat x36.2.1))], Frz G_102 k_102, Frz G h0] e50.h := S51.sel [4, 1, 5, 2] (by decide) rfl
        refine ⟨(m, A2, A3, A5, A6, x36.1, x36.2.1, wA2_1, wA5, LA5, w47, G_102, k_102), rfl, rfl, fun _ => ⟨(Option.some.inj hp).symm, fA2_2, fA5, f48, S53⟩⟩
      replace c52 := eqI_t (notB_f c52)
      replace hp := iff0 hp (nneO c52)
      refine ⟨cel_load S51 (i := 3) rfl rfl, ?_⟩
      refine ⟨fun c53 => ?_, fun c53 => ?_⟩
      · replace c53 := eqI_t c53
        replace hp := ift hp c53
        refine ⟨cel_load S51 (i := 3) rfl rfl, ?_⟩
        refine ⟨build_told (by show fillParts [(0, 1, (.const w40))] .lf 2 [AV.nilSlice, (AV.int .i64 (Int.ofNat 0))] = _; rw [fill_cons (o := 0) (k := 1) (n := 2) (own_cells S51 (i := 0) rfl) rfl (by decide)]; rfl), ?_⟩
        refine ⟨box_told rfl rfl (all_cell (own_cell S51 (i := 0) rfl) (all_cell rfl all_cell0)), ?_⟩
        have S54 : Sep [Cel (Hp.next e50.h) [w40, (AV.int .i64 (Int.ofNat 0))], OwnO 1 w40 x36.2.2.length (u8s x36.2.2), Cel b101 [w47, (AV.int .i64 (Int.ofNat x36.2.1))], Frz G h0, Cel (Hp.next h10) [(AV.int .u8 (Int.ofNat x4.2.2)), w40], OwnO 2 wA5 A5.length LA5, Frz G_102 k_102] (hpush e50.h (mkCells [w40, (AV.int .i64 (Int.ofNat 0))] 2)) := cel_new S51 [w40, (AV.int .i64 (Int.ofNat 0))] rfl
        obtain ⟨G55, pG55, sG55⟩ := own_freeze S54 (i := 1) rfl f41
        have S56 : Sep [Cel (Hp.next e50.h) [w40, (AV.int .i64 (Int.ofNat 0))], Frz G55 (hpush e50.h (mkCells [w40, (AV.int .i64 (Int.ofNat 0))] 2)), Cel b101 [w47, (AV.int .i64 (Int.ofNat x36.2.1))], Frz G h0, Cel (Hp.next h10) [(AV.int .u8 (Int.ofNat x4.2.2)), w40], OwnO 2 wA5 A5.length LA5, Frz G_102 k_102] (hpush e50.h (mkCells [w40, (AV.int .i64 (Int.ofNat 0))] 2)) := sG55
        have ⟨x57, hb58, hp⟩ := ob_inv hp
        obtain ⟨v62, h63, q64, w67, e65, f61, f68, S66⟩ := h_ru32 pG55 hb58 S56
        replace e65 := e65.symm
        subst e65
        have S69 : Sep [Cel (Hp.next e50.h) [w67, (AV.int .i64 (Int.ofNat x57.2.1))], Frz G55 (hpush e50.h (mkCells [w40, (AV.int .i64 (Int.ofNat 0))] 2)), Cel b101 [w47, (AV.int .i64 (Int.ofNat x36.2.1))], Frz G h0, Cel (Hp.next h10) [(AV.int .u8 (Int.ofNat x4.2.2)), w40], OwnO 2 wA5 A5.length LA5, Frz G_102 k_102] h63 := S66
        refine ⟨x57, w67, h63, q64, ?_⟩
        have ⟨x70, hb71, hp⟩ := ob_inv hp
        obtain ⟨v76, h77, q78, w74, w81, e79, f75, f82, S80⟩ := h_rtake f68 f61 hb71 S69
        replace e79 := e79.symm
        subst e79
        have S83 : Sep [OwnO 1 w74 x70.2.2.length (u8s x70.2.2), Cel (Hp.next e50.h) [w81, (AV.int .i64 (Int.ofNat x70.2.1))], Frz G55 (hpush e50.h (mkCells [w40, (AV.int .i64 (Int.ofNat 0))] 2)), Cel b101 [w47, (AV.int .i64 (Int.ofNat x36.2.1))], Frz G h0, Cel (Hp.next h10) [(AV.int .u8 (Int.ofNat x4.2.2)), w40], OwnO 2 wA5 A5.length LA5, Frz G_102 k_102] h77 := S80
        refine ⟨x70, w74, w81, h77, q78, ?_⟩
        refine ⟨cel_load S83 (i := 1) rfl rfl, ?_⟩
        refine ⟨fun c84 => ?_, fun c84 => ?_⟩
        · replace c84 := eqI_f (notB_t c84)
          replace hp := ift hp c84
          have S85 : Sep [Cel b101 [w47, (AV.int .i64 (Int.ofNat x36.2.1))], Frz G h0, OwnO 1 w74 x70.2.2.length (u8s x70.2.2), Cel (Hp.next e50.h) [w81, (AV.int .i64 (Int.ofNat x70.2.1))], Frz G55 (hpush e50.h (mkCells [w40, (AV.int .i64 (Int.ofNat 0))] 2)), Cel (Hp.next h10) [(AV.int .u8 (Int.ofNat x4.2.2)), w40], OwnO 2 wA5 A5.length LA5, Frz G_102 k_102] h77 := S83.sel [3, 4, 0, 1, 2, 5, 6, 7] (by decide) rfl
          have ⟨x86, hb87, hp⟩ := ob_inv hp
          obtain ⟨v90, h91, q92, w95, e93, f96, S94⟩ := h_rfail f48 hb87 S85
          replace e93 := e93.symm
          subst e93
          have S97 : Sep [Cel b101 [w95, (AV.int .i64 (Int.ofNat x86.2))], Frz G h0, OwnO 1 w74 x70.2.2.length (u8s x70.2.2), Cel (Hp.next e50.h) [w81, (AV.int .i64 (Int.ofNat x70.2.1))], Frz G55 (hpush e50.h (mkCells [w40, (AV.int .i64 (Int.ofNat 0))] 2)), Cel (Hp.next h10) [(AV.int .u8 (Int.ofNat x4.2.2)), w40], OwnO 2 wA5 A5.length LA5, Frz G_102 k_102] h91 := S94
          refine ⟨x86, w95, h91, q92, ?_⟩
          refine ⟨cel_loadA S97 (i := 5) (o := 0) (n := 2) rfl (by first | decide | (simp; done) | (simp only [List.length_cons, List.length_nil]; omega)), ?_⟩
          refine ⟨lit_told (n := 2) (by show fillParts _ _ 2 [(AV.int .u8 (Int.ofNat 0)), AV.nilSlice] = _; rw [fill_cons (o := 0) (k := 2) (n := 2) rfl rfl (by decide)]; rfl) (all_cell rfl (all_cell (BIn.cell pG55) all_cell0)) rfl, ?_⟩
          have S98 : Sep [OwnO 2 (AV.slice (Hp.next h91) 0 1 1 2 true) 1 [(AV.int .u8 (Int.ofNat x4.2.2)), w40], Cel b101 [w95, (AV.int .i64 (Int.ofNat x86.2))], Frz G h0, OwnO 1 w74 x70.2.2.length (u8s x70.2.2), Cel (Hp.next e50.h) [w81, (AV.int .i64 (Int.ofNat x70.2.1))], Frz G55 (hpush e50.h (mkCells [w40, (AV.int .i64 (Int.ofNat 0))] 2)), Cel (Hp.next h10) [(AV.int .u8 (Int.ofNat x4.2.2)), w40], OwnO 2 wA5 A5.length LA5, Frz G_102 k_102] (hpush h91 (mkCells [(AV.int .u8 (Int.ofNat x4.2.2)), w40] 2)) := own_new S97 2 1 [(AV.int .u8 (Int.ofNat x4.2.2)), w40] true rfl
          have S100 : Sep [Frz G_102 k_102, Frz G55 (hpush e50.h (mkCells [w40, (AV.int .i64 (Int.ofNat 0))] 2)), OwnO 2 (AV.slice (Hp.next h91) 0 1 1 2 true) 1 [(AV.int .u8 (Int.ofNat x4.2.2)), w40], Cel b101 [w95, (AV.int .i64 (Int.ofNat x86.2))], Frz G h0, OwnO 1 w74 x70.2.2.length (u8s x70.2.2), Cel (Hp.next e50.h) [w81, (AV.int .i64 (Int.ofNat x70.2.1))], Cel (Hp.next h10) [(AV.int .u8 (Int.ofNat x4.2.2)), w40], OwnO 2 wA5 A5.length LA5] (hpush h91 (mkCells [(AV.int .u8 (Int.ofNat x4.2.2)), w40] 2)) := S98.sel [8, 5, 0, 1, 2, 3, 4, 6, 7] (by decide) rfl
          obtain ⟨G101, uG101, vG101, sG101⟩ := Sep.mergeX S100
          have S102 : Sep [Frz G101 (hpush h91 (mkCells [(AV.int .u8 (Int.ofNat x4.2.2)), w40] 2)), OwnO 2 (AV.slice (Hp.next h91) 0 1 1 2 true) 1 [(AV.int .u8 (Int.ofNat x4.2.2)), w40], Cel b101 [w95, (AV.int .i64 (Int.ofNat x86.2))], Frz G h0, OwnO 1 w74 x70.2.2.length (u8s x70.2.2), Cel (Hp.next e50.h) [w81, (AV.int .i64 (Int.ofNat x70.2.1))], Cel (Hp.next h10) [(AV.int .u8 (Int.ofNat x4.2.2)), w40], OwnO 2 wA5 A5.length LA5] (hpush h91 (mkCells [(AV.int .u8 (Int.ofNat x4.2.2)), w40] 2)) := sG101
          have ⟨g103, hp⟩ := gd_inv hp
          obtain ⟨e99, qe99, se99⟩ := own_append (bytes := 32) call S102 (i := 7) rfl (x := (AV.slice (Hp.next h91) 0 1 1 2 true)) (m := 1) (xs := [(AV.int .u8 (Int.ofNat x4.2.2)), w40]) (fun z k => own_src S102 (i := 1) rfl z k) (own_L S102 (i := 1) rfl) (all_cell rfl (all_cell (BIn.cell (BIn.up vG101 pG55)) all_cell0)) g103 (by omega)
          have S105 : Sep [Frz G101 (hpush h91 (mkCells [(AV.int .u8 (Int.ofNat x4.2.2)), w40] 2)), OwnO 2 (AV.slice (Hp.next h91) 0 1 1 2 true) 1 [(AV.int .u8 (Int.ofNat x4.2.2)), w40], Cel b101 [w95, (AV.int .i64 (Int.ofNat x86.2))], Frz G h0, OwnO 1 w74 x70.2.2.length (u8s x70.2.2), Cel (Hp.next e50.h) [w81, (AV.int .i64 (Int.ofNat x70.2.1))], Cel (Hp.next h10) [(AV.int .u8 (Int.ofNat x4.2.2)), w40], OwnO 2 e99.v (A5.length + 1) (LA5 ++ [(AV.int .u8 (Int.ofNat x4.2.2)), w40])] e99.h := se99
          obtain ⟨L104, rL104, eL104⟩ : ∃ L, Eng.Rows (rP (rU .u8) rY) G101 (hpush h91 (mkCells [(AV.int .u8 (Int.ofNat x4.2.2)), w40] 2)) L (A5 ++ [(x4.2.2, x36.2.2)]) ∧ LA5 ++ [(AV.int .u8 (Int.ofNat x4.2.2)), w40] = L := ⟨_, (Rows.snoc (Rows.up uG101 fA5) (a := (rP (rU .u8) rY)) (x := (x4.2.2, x36.2.2)) ⟨_, _, rfl, ⟨rfl, f8⟩, ⟨w40, rfl, (BIn.up vG101 pG55)⟩⟩), rfl⟩
          have S106 : Sep [Frz G101 (hpush h91 (mkCells [(AV.int .u8 (Int.ofNat x4.2.2)), w40] 2)), OwnO 2 (AV.slice (Hp.next h91) 0 1 1 2 true) 1 [(AV.int .u8 (Int.ofNat x4.2.2)), w40], Cel b101 [w95, (AV.int .i64 (Int.ofNat x86.2))], Frz G h0, OwnO 1 w74 x70.2.2.length (u8s x70.2.2), Cel (Hp.next e50.h) [w81, (AV.int .i64 (Int.ofNat x70.2.1))], Cel (Hp.next h10) [(AV.int .u8 (Int.ofNat x4.2.2)), w40], OwnO 2 e99.v ((A5 ++ [(x4.2.2, x36.2.2)]).length) L104] e99.h := (by have z := S105; rw [eL104, show A5.length + 1 = (A5 ++ [(x4.2.2, x36.2.2)]).length from by simp] at z; exact z)
          have S107 : Sep [OwnO 2 (AV.slice (Hp.next h91) 0 1 1 2 true) 1 [(AV.int .u8 (Int.ofNat x4.2.2)), w40], Frz G101 (hpush h91 (mkCells [(AV.int .u8 (Int.ofNat x4.2.2)), w40] 2)), Cel b101 [w95, (AV.int .i64 (Int.ofNat x86.2))], Frz G h0, OwnO 1 w74 x70.2.2.length (u8s x70.2.2), Cel (Hp.next e50.h) [w81, (AV.int .i64 (Int.ofNat x70.2.1))], Cel (Hp.next h10) [(AV.int .u8 (Int.ofNat x4.2.2)), w40], OwnO 2 e99.v ((A5 ++ [(x4.2.2, x36.2.2)]).length) L104] e99.h := S106.sel [1, 0, 2, 3, 4, 5, 6, 7] (by decide) rfl
          have S108 : Sep [Frz G101 (hpush h91 (mkCells [(AV.int .u8 (Int.ofNat x4.2.2)), w40] 2)), Cel b101 [w95, (AV.int .i64 (Int.ofNat x86.2))], Frz G h0, OwnO 1 w74 x70.2.2.length (u8s x70.2.2), Cel (Hp.next e50.h) [w81, (AV.int .i64 (Int.ofNat x70.2.1))], Cel (Hp.next h10) [(AV.int .u8 (Int.ofNat x4.2.2)), w40], OwnO 2 e99.v ((A5 ++ [(x4.2.2, x36.2.2)]).length) L104] e99.h := S107.tail
          refine ⟨e99, qe99, ?_⟩
          have S109 : Sep [OwnO 2 e99.v ((A5 ++ [(x4.2.2, x36.2.2)]).length) L104, Cel b101 [w95, (AV.int .i64 (Int.ofNat x86.2))], Frz G101 (hpush h91 (mkCells [(AV.int .u8 (Int.ofNat x4.2.2)), w40] 2)), Frz G h0] e99.h := S108.sel [6, 1, 0, 2] (by decide) rfl
          refine ⟨(m, A2, A3, A5 ++ [(x4.2.2, x36.2.2)], A6, x86.1, x86.2, wA2_1, e99.v, L104, w95, G101, hpush h91 (mkCells [(AV.int .u8 (Int.ofNat x4.2.2)), w40] 2)), rfl, ⟨hp, fA2_2, rL104, f96, S109⟩, by show m < n; omega⟩
        replace c84 := eqI_t (notB_f c84)
        replace hp := iff0 hp (nneO c84)
        have ⟨x85, hb86, hp⟩ := ob_inv hp
        obtain ⟨v89, h90, q91, e92, S93⟩ := h_rutf8 (own_bin S83 (i := 0) rfl f75) hb86
        replace e92 := e92.symm
        subst e92
        have S94 : Sep [OwnO 1 w74 x70.2.2.length (u8s x70.2.2), Cel (Hp.next e50.h) [w81, (AV.int .i64 (Int.ofNat x70.2.1))], Frz G55 (hpush e50.h (mkCells [w40, (AV.int .i64 (Int.ofNat 0))] 2)), Cel b101 [w47, (AV.int .i64 (Int.ofNat x36.2.1))], Frz G h0, Cel (Hp.next h10) [(AV.int .u8 (Int.ofNat x4.2.2)), w40], OwnO 2 wA5 A5.length LA5, Frz G_102 k_102] h90 := Sep.call S83 (news := []) S93
        refine ⟨x85, h90, q91, ?_⟩
        refine ⟨fun c95 => ?_, fun c95 => ?_⟩
        · replace c95 := notB_t c95
          replace hp := ift hp c95
          have S96 : Sep [Cel b101 [w47, (AV.int .i64 (Int.ofNat x36.2.1))], Frz G h0, OwnO 1 w74 x70.2.2.length (u8s x70.2.2), Cel (Hp.next e50.h) [w81, (AV.int .i64 (Int.ofNat x70.2.1))], Frz G55 (hpush e50.h (mkCells [w40, (AV.int .i64 (Int.ofNat 0))] 2)), Cel (Hp.next h10) [(AV.int .u8 (Int.ofNat x4.2.2)), w40], OwnO 2 wA5 A5.length LA5, Frz G_102 k_102] h90 := S94.sel [3, 4, 0, 1, 2, 5, 6, 7] (by decide) rfl
          have ⟨x97, hb98, hp⟩ := ob_inv hp
          obtain ⟨v101, h102, q103, w106, e104, f107, S105⟩ := h_rfail f48 hb98 S96
          replace e104 := e104.symm
          subst e104
          have S108 : Sep [Cel b101 [w106, (AV.int .i64 (Int.ofNat x97.2))], Frz G h0, OwnO 1 w74 x70.2.2.length (u8s x70.2.2), Cel (Hp.next e50.h) [w81, (AV.int .i64 (Int.ofNat x70.2.1))], Frz G55 (hpush e50.h (mkCells [w40, (AV.int .i64 (Int.ofNat 0))] 2)), Cel (Hp.next h10) [(AV.int .u8 (Int.ofNat x4.2.2)), w40], OwnO 2 wA5 A5.length LA5, Frz G_102 k_102] h102 := S105
          refine ⟨x97, w106, h102, q103, ?_⟩
          refine ⟨cel_loadA S108 (i := 5) (o := 0) (n := 2) rfl (by first | decide | (simp; done) | (simp only [List.length_cons, List.length_nil]; omega)), ?_⟩
          refine ⟨lit_told (n := 2) (by show fillParts _ _ 2 [(AV.int .u8 (Int.ofNat 0)), AV.nilSlice] = _; rw [fill_cons (o := 0) (k := 2) (n := 2) rfl rfl (by decide)]; rfl) (all_cell rfl (all_cell (BIn.cell pG55) all_cell0)) rfl, ?_⟩
          have S109 : Sep [OwnO 2 (AV.slice (Hp.next h102) 0 1 1 2 true) 1 [(AV.int .u8 (Int.ofNat x4.2.2)), w40], Cel b101 [w106, (AV.int .i64 (Int.ofNat x97.2))], Frz G h0, OwnO 1 w74 x70.2.2.length (u8s x70.2.2), Cel (Hp.next e50.h) [w81, (AV.int .i64 (Int.ofNat x70.2.1))], Frz G55 (hpush e50.h (mkCells [w40, (AV.int .i64 (Int.ofNat 0))] 2)), Cel (Hp.next h10) [(AV.int .u8 (Int.ofNat x4.2.2)), w40], OwnO 2 wA5 A5.length LA5, Frz G_102 k_102] (hpush h102 (mkCells [(AV.int .u8 (Int.ofNat x4.2.2)), w40] 2)) := own_new S108 2 1 [(AV.int .u8 (Int.ofNat x4.2.2)), w40] true rfl
          have S111 : Sep [Frz G_102 k_102, Frz G55 (hpush e50.h (mkCells [w40, (AV.int .i64 (Int.ofNat 0))] 2)), OwnO 2 (AV.slice (Hp.next h102) 0 1 1 2 true) 1 [(AV.int .u8 (Int.ofNat x4.2.2)), w40], Cel b101 [w106, (AV.int .i64 (Int.ofNat x97.2))], Frz G h0, OwnO 1 w74 x70.2.2.length (u8s x70.2.2), Cel (Hp.next e50.h) [w81, (AV.int .i64 (Int.ofNat x70.2.1))], Cel (Hp.next h10) [(AV.int .u8 (Int.ofNat x4.2.2)), w40], OwnO 2 wA5 A5.length LA5] (hpush h102 (mkCells [(AV.int .u8 (Int.ofNat x4.2.2)), w40] 2)) := S109.sel [8, 5, 0, 1, 2, 3, 4, 6, 7] (by decide) rfl
          obtain ⟨G112, uG112, vG112, sG112⟩ := Sep.mergeX S111
          have S113 : Sep [Frz G112 (hpush h102 (mkCells [(AV.int .u8 (Int.ofNat x4.2.2)), w40] 2)), OwnO 2 (AV.slice (Hp.next h102) 0 1 1 2 true) 1 [(AV.int .u8 (Int.ofNat x4.2.2)), w40], Cel b101 [w106, (AV.int .i64 (Int.ofNat x97.2))], Frz G h0, OwnO 1 w74 x70.2.2.length (u8s x70.2.2), Cel (Hp.next e50.h) [w81, (AV.int .i64 (Int.ofNat x70.2.1))], Cel (Hp.next h10) [(AV.int .u8 (Int.ofNat x4.2.2)), w40], OwnO 2 wA5 A5.length LA5] (hpush h102 (mkCells [(AV.int .u8 (Int.ofNat x4.2.2)), w40] 2)) := sG112
          have ⟨g114, hp⟩ := gd_inv hp
          obtain ⟨e110, qe110, se110⟩ := own_append (bytes := 32) call S113 (i := 7) rfl (x := (AV.slice (Hp.next h102) 0 1 1 2 true)) (m := 1) (xs := [(AV.int .u8 (Int.ofNat x4.2.2)), w40]) (fun z k => own_src S113 (i := 1) rfl z k) (own_L S113 (i := 1) rfl) (all_cell rfl (all_cell (BIn.cell (BIn.up vG112 pG55)) all_cell0)) g114 (by omega)
          have S116 : Sep [Frz G112 (hpush h102 (mkCells [(AV.int .u8 (Int.ofNat x4.2.2)), w40] 2)), OwnO 2 (AV.slice (Hp.next h102) 0 1 1 2 true) 1 [(AV.int .u8 (Int.ofNat x4.2.2)), w40], Cel b101 [w106, (AV.int .i64 (Int.ofNat x97.2))], Frz G h0, OwnO 1 w74 x70.2.2.length (u8s x70.2.2), Cel (Hp.next e50.h) [w81, (AV.int .i64 (Int.ofNat x70.2.1))], Cel (Hp.next h10) [(AV.int .u8 (Int.ofNat x4.2.2)), w40], OwnO 2 e110.v (A5.length + 1) (LA5 ++ [(AV.int .u8 (Int.ofNat x4.2.2)), w40])] e110.h := se110
          obtain ⟨L115, rL115, eL115⟩ : ∃ L, Eng.Rows (rP (rU .u8) rY) G112 (hpush h102 (mkCells [(AV.int .u8 (Int.ofNat x4.2.2)), w40] 2)) L (A5 ++ [(x4.2.2, x36.2.2)]) ∧ LA5 ++ [(AV.int .u8 (Int.ofNat x4.2.2)), w40] = L := ⟨_, (Rows.snoc (Rows.up uG112 fA5) (a := (rP (rU .u8) rY)) (x := (x4.2.2, x36.2.2)) ⟨_, _, rfl, ⟨rfl, f8⟩, ⟨w40, rfl, (BIn.up vG112 pG55)⟩⟩), rfl⟩
          have S117 : Sep [Frz G112 (hpush h102 (mkCells [(AV.int .u8 (Int.ofNat x4.2.2)), w40] 2)), OwnO 2 (AV.slice (Hp.next h102) 0 1 1 2 true) 1 [(AV.int .u8 (Int.ofNat x4.2.2)), w40], Cel b101 [w106, (AV.int .i64 (Int.ofNat x97.2))], Frz G h0, OwnO 1 w74 x70.2.2.length (u8s x70.2.2), Cel (Hp.next e50.h) [w81, (AV.int .i64 (Int.ofNat x70.2.1))], Cel (Hp.next h10) [(AV.int .u8 (Int.ofNat x4.2.2)), w40], OwnO 2 e110.v ((A5 ++ [(x4.2.2, x36.2.2)]).length) L115] e110.h := (by have z := S116; rw [eL115, show A5.length + 1 = (A5 ++ [(x4.2.2, x36.2.2)]).length from by simp] at z; exact z)
          have S118 : Sep [OwnO 2 (AV.slice (Hp.next h102) 0 1 1 2 true) 1 [(AV.int .u8 (Int.ofNat x4.2.2)), w40], Frz G112 (hpush h102 (mkCells [(AV.int .u8 (Int.ofNat x4.2.2)), w40] 2)), Cel b101 [w106, (AV.int .i64 (Int.ofNat x97.2))], Frz G h0, OwnO 1 w74 x70.2.2.length (u8s x70.2.2), Cel (Hp.next e50.h) [w81, (AV.int .i64 (Int.ofNat x70.2.1))], Cel (Hp.next h10) [(AV.int .u8 (Int.ofNat x4.2.2)), w40], OwnO 2 e110.v ((A5 ++ [(x4.2.2, x36.2.2)]).length) L115] e110.h := S117.sel [1, 0, 2, 3, 4, 5, 6, 7] (by decide) rfl
          have S119 : Sep [Frz G112 (hpush h102 (mkCells [(AV.int .u8 (Int.ofNat x4.2.2)), w40] 2)), Cel b101 [w106, (AV.int .i64 (Int.ofNat x97.2))], Frz G h0, OwnO 1 w74 x70.2.2.length (u8s x70.2.2), Cel (Hp.next e50.h) [w81, (AV.int .i64 (Int.ofNat x70.2.1))], Cel (Hp.next h10) [(AV.int .u8 (Int.ofNat x4.2.2)), w40], OwnO 2 e110.v ((A5 ++ [(x4.2.2, x36.2.2)]).length) L115] e110.h := S118.tail
          refine ⟨e110, qe110, ?_⟩
          have S120 : Sep [OwnO 2 e110.v ((A5 ++ [(x4.2.2, x36.2.2)]).length) L115, Cel b101 [w106, (AV.int .i64 (Int.ofNat x97.2))], Frz G112 (hpush h102 (mkCells [(AV.int .u8 (Int.ofNat x4.2.2)), w40] 2)), Frz G h0] e110.h := S119.sel [6, 1, 0, 2] (by decide) rfl
          refine ⟨(m, A2, A3, A5 ++ [(x4.2.2, x36.2.2)], A6, x97.1, x97.2, wA2_1, e110.v, L115, w106, G112, hpush h102 (mkCells [(AV.int .u8 (Int.ofNat x4.2.2)), w40] 2)), rfl, ⟨hp, fA2_2, rL115, f107, S120⟩, by show m < n; omega⟩
        replace c95 := notB_f c95
        replace hp := iff0 hp (nbT c95)
        refine ⟨cel_loadA S94 (i := 5) (o := 0) (n := 2) rfl (by first | decide | (simp; done) | (simp only [List.length_cons, List.length_nil]; omega)), ?_⟩
        refine ⟨lit_told (n := 2) (by show fillParts _ _ 2 [(AV.int .u8 (Int.ofNat 0)), AV.nilSlice] = _; rw [fill_cons (o := 0) (k := 2) (n := 2) rfl rfl (by decide)]; rfl) (all_cell rfl (all_cell (BIn.cell pG55) all_cell0)) rfl, ?_⟩
        have S96 : Sep [OwnO 2 (AV.slice (Hp.next h90) 0 1 1 2 true) 1 [(AV.int .u8 (Int.ofNat x4.2.2)), w40], OwnO 1 w74 x70.2.2.length (u8s x70.2.2), Cel (Hp.next e50.h) [w81, (AV.int .i64 (Int.ofNat x70.2.1))], Frz G55 (hpush e50.h (mkCells [w40, (AV.int .i64 (Int.ofNat 0))] 2)), Cel b101 [w47, (AV.int .i64 (Int.ofNat x36.2.1))], Frz G h0, Cel (Hp.next h10) [(AV.int .u8 (Int.ofNat x4.2.2)), w40], OwnO 2 wA5 A5.length LA5, Frz G_102 k_102] (hpush h90 (mkCells [(AV.int .u8 (Int.ofNat x4.2.2)), w40] 2)) := own_new S94 2 1 [(AV.int .u8 (Int.ofNat x4.2.2)), w40] true rfl
        have S98 : Sep [Frz G_102 k_102, Frz G55 (hpush e50.h (mkCells [w40, (AV.int .i64 (Int.ofNat 0))] 2)), OwnO 2 (AV.slice (Hp.next h90) 0 1 1 2 true) 1 [(AV.int .u8 (Int.ofNat x4.2.2)), w40], OwnO 1 w74 x70.2.2.length (u8s x70.2.2), Cel (Hp.next e50.h) [w81, (AV.int .i64 (Int.ofNat x70.2.1))], Cel b101 [w47, (AV.int .i64 (Int.ofNat x36.2.1))], Frz G h0, Cel (Hp.next h10) [(AV.int .u8 (Int.ofNat x4.2.2)), w40], OwnO 2 wA5 A5.length LA5] (hpush h90 (mkCells [(AV.int .u8 (Int.ofNat x4.2.2)), w40] 2)) := S96.sel [8, 3, 0, 1, 2, 4, 5, 6, 7] (by decide) rfl
        obtain ⟨G99, uG99, vG99, sG99⟩ := Sep.mergeX S98
        have S100 : Sep [Frz G99 (hpush h90 (mkCells [(AV.int .u8 (Int.ofNat x4.2.2)), w40] 2)), OwnO 2 (AV.slice (Hp.next h90) 0 1 1 2 true) 1 [(AV.int .u8 (Int.ofNat x4.2.2)), w40], OwnO 1 w74 x70.2.2.length (u8s x70.2.2), Cel (Hp.next e50.h) [w81, (AV.int .i64 (Int.ofNat x70.2.1))], Cel b101 [w47, (AV.int .i64 (Int.ofNat x36.2.1))], Frz G h0, Cel (Hp.next h10) [(AV.int .u8 (Int.ofNat x4.2.2)), w40], OwnO 2 wA5 A5.length LA5] (hpush h90 (mkCells [(AV.int .u8 (Int.ofNat x4.2.2)), w40] 2)) := sG99
        have ⟨g101, hp⟩ := gd_inv hp
        obtain ⟨e97, qe97, se97⟩ := own_append (bytes := 32) call S100 (i := 7) rfl (x := (AV.slice (Hp.next h90) 0 1 1 2 true)) (m := 1) (xs := [(AV.int .u8 (Int.ofNat x4.2.2)), w40]) (fun z k => own_src S100 (i := 1) rfl z k) (own_L S100 (i := 1) rfl) (all_cell rfl (all_cell (BIn.cell (BIn.up vG99 pG55)) all_cell0)) g101 (by omega)
        have S103 : Sep [Frz G99 (hpush h90 (mkCells [(AV.int .u8 (Int.ofNat x4.2.2)), w40] 2)), OwnO 2 (AV.slice (Hp.next h90) 0 1 1 2 true) 1 [(AV.int .u8 (Int.ofNat x4.2.2)), w40], OwnO 1 w74 x70.2.2.length (u8s x70.2.2), Cel (Hp.next e50.h) [w81, (AV.int .i64 (Int.ofNat x70.2.1))], Cel b101 [w47, (AV.int .i64 (Int.ofNat x36.2.1))], Frz G h0, Cel (Hp.next h10) [(AV.int .u8 (Int.ofNat x4.2.2)), w40], OwnO 2 e97.v (A5.length + 1) (LA5 ++ [(AV.int .u8 (Int.ofNat x4.2.2)), w40])] e97.h := se97
        obtain ⟨L102, rL102, eL102⟩ : ∃ L, Eng.Rows (rP (rU .u8) rY) G99 (hpush h90 (mkCells [(AV.int .u8 (Int.ofNat x4.2.2)), w40] 2)) L (A5 ++ [(x4.2.2, x36.2.2)]) ∧ LA5 ++ [(AV.int .u8 (Int.ofNat x4.2.2)), w40] = L := ⟨_, (Rows.snoc (Rows.up uG99 fA5) (a := (rP (rU .u8) rY)) (x := (x4.2.2, x36.2.2)) ⟨_, _, rfl, ⟨rfl, f8⟩, ⟨w40, rfl, (BIn.up vG99 pG55)⟩⟩), rfl⟩
        have S104 : Sep [Frz G99 (hpush h90 (mkCells [(AV.int .u8 (Int.ofNat x4.2.2)), w40] 2)), OwnO 2 (AV.slice (Hp.next h90) 0 1 1 2 true) 1 [(AV.int .u8 (Int.ofNat x4.2.2)), w40], OwnO 1 w74 x70.2.2.length (u8s x70.2.2), Cel (Hp.next e50.h) [w81, (AV.int .i64 (Int.ofNat x70.2.1))], Cel b101 [w47, (AV.int .i64 (Int.ofNat x36.2.1))], Frz G h0, Cel (Hp.next h10) [(AV.int .u8 (Int.ofNat x4.2.2)), w40], OwnO 2 e97.v ((A5 ++ [(x4.2.2, x36.2.2)]).length) L102] e97.h := (by have z := S103; rw [eL102, show A5.length + 1 = (A5 ++ [(x4.2.2, x36.2.2)]).length from by simp] at z; exact z)
        have S105 : Sep [OwnO 2 (AV.slice (Hp.next h90) 0 1 1 2 true) 1 [(AV.int .u8 (Int.ofNat x4.2.2)), w40], Frz G99 (hpush h90 (mkCells [(AV.int .u8 (Int.ofNat x4.2.2)), w40] 2)), OwnO 1 w74 x70.2.2.length (u8s x70.2.2), Cel (Hp.next e50.h) [w81, (AV.int .i64 (Int.ofNat x70.2.1))], Cel b101 [w47, (AV.int .i64 (Int.ofNat x36.2.1))], Frz G h0, Cel (Hp.next h10) [(AV.int .u8 (Int.ofNat x4.2.2)), w40], OwnO 2 e97.v ((A5 ++ [(x4.2.2, x36.2.2)]).length) L102] e97.h := S104.sel [1, 0, 2, 3, 4, 5, 6, 7] (by decide) rfl
        have S106 : Sep [Frz G99 (hpush h90 (mkCells [(AV.int .u8 (Int.ofNat x4.2.2)), w40] 2)), OwnO 1 w74 x70.2.2.length (u8s x70.2.2), Cel (Hp.next e50.h) [w81, (AV.int .i64 (Int.ofNat x70.2.1))], Cel b101 [w47, (AV.int .i64 (Int.ofNat x36.2.1))], Frz G h0, Cel (Hp.next h10) [(AV.int .u8 (Int.ofNat x4.2.2)), w40], OwnO 2 e97.v ((A5 ++ [(x4.2.2, x36.2.2)]).length) L102] e97.h := S105.tail
        refine ⟨e97, qe97, ?_⟩
        have S107 : Sep [OwnO 2 e97.v ((A5 ++ [(x4.2.2, x36.2.2)]).length) L102, Cel b101 [w47, (AV.int .i64 (Int.ofNat x36.2.1))], Frz G99 (hpush h90 (mkCells [(AV.int .u8 (Int.ofNat x4.2.2)), w40] 2)), Frz G h0] e97.h := S106.sel [6, 3, 0, 4] (by decide) rfl
        refine ⟨(m, A2, A3, A5 ++ [(x4.2.2, x36.2.2)], A6, x36.1, x36.2.1, wA2_1, e97.v, L102, w47, G99, hpush h90 (mkCells [(AV.int .u8 (Int.ofNat x4.2.2)), w40] 2)), rfl, ⟨hp, fA2_2, rL102, f48, S107⟩, by show m < n; omega⟩
      replace c53 := eqI_f c53
      replace hp := iff0 hp (c53)
      refine ⟨cel_load S51 (i := 3) rfl rfl, ?_⟩
      have ⟨x54, hb55, hp⟩ := ob_inv hp
      obtain ⟨v58, h59, q60, e61, S62⟩ := h_rank f8 hb55
      replace e61 := e61.symm
      subst e61
      have S63 : Sep [OwnO 1 w40 x36.2.2.length (u8s x36.2.2), Cel b101 [w47, (AV.int .i64 (Int.ofNat x36.2.1))], Frz G h0, Cel (Hp.next h10) [(AV.int .u8 (Int.ofNat x4.2.2)), w40], OwnO 2 wA5 A5.length LA5, Frz G_102 k_102] h59 := Sep.call S51 (news := []) S62
      refine ⟨x54, h59, q60, ?_⟩
      refine ⟨cel_loadA S63 (i := 3) (o := 0) (n := 2) rfl (by first | decide | (simp; done) | (simp only [List.length_cons, List.length_nil]; omega)), ?_⟩
      refine ⟨lit_told (n := 2) (by show fillParts _ _ 2 [(AV.int .u8 (Int.ofNat 0)), AV.nilSlice] = _; rw [fill_cons (o := 0) (k := 2) (n := 2) rfl rfl (by decide)]; rfl) (all_cell rfl (all_cell (own_cell S63 (i := 0) rfl) all_cell0)) rfl, ?_⟩
      have S64 : Sep [OwnO 2 (AV.slice (Hp.next h59) 0 1 1 2 true) 1 [(AV.int .u8 (Int.ofNat x4.2.2)), w40], OwnO 1 w40 x36.2.2.length (u8s x36.2.2), Cel b101 [w47, (AV.int .i64 (Int.ofNat x36.2.1))], Frz G h0, Cel (Hp.next h10) [(AV.int .u8 (Int.ofNat x4.2.2)), w40], OwnO 2 wA5 A5.length LA5, Frz G_102 k_102] (hpush h59 (mkCells [(AV.int .u8 (Int.ofNat x4.2.2)), w40] 2)) := own_new S63 2 1 [(AV.int .u8 (Int.ofNat x4.2.2)), w40] true rfl
      obtain ⟨G66, pG66, sG66⟩ := own_freeze S64 (i := 1) rfl f41
      have S67 : Sep [OwnO 2 (AV.slice (Hp.next h59) 0 1 1 2 true) 1 [(AV.int .u8 (Int.ofNat x4.2.2)), w40], Frz G66 (hpush h59 (mkCells [(AV.int .u8 (Int.ofNat x4.2.2)), w40] 2)), Cel b101 [w47, (AV.int .i64 (Int.ofNat x36.2.1))], Frz G h0, Cel (Hp.next h10) [(AV.int .u8 (Int.ofNat x4.2.2)), w40], OwnO 2 wA5 A5.length LA5, Frz G_102 k_102] (hpush h59 (mkCells [(AV.int .u8 (Int.ofNat x4.2.2)), w40] 2)) := sG66
      have S68 : Sep [Frz G_102 k_102, Frz G66 (hpush h59 (mkCells [(AV.int .u8 (Int.ofNat x4.2.2)), w40] 2)), OwnO 2 (AV.slice (Hp.next h59) 0 1 1 2 true) 1 [(AV.int .u8 (Int.ofNat x4.2.2)), w40], Cel b101 [w47, (AV.int .i64 (Int.ofNat x36.2.1))], Frz G h0, Cel (Hp.next h10) [(AV.int .u8 (Int.ofNat x4.2.2)), w40], OwnO 2 wA5 A5.length LA5] (hpush h59 (mkCells [(AV.int .u8 (Int.ofNat x4.2.2)), w40] 2)) := S67.sel [6, 1, 0, 2, 3, 4, 5] (by decide) rfl
      obtain ⟨G69, uG69, vG69, sG69⟩ := Sep.mergeX S68
      have S70 : Sep [Frz G69 (hpush h59 (mkCells [(AV.int .u8 (Int.ofNat x4.2.2)), w40] 2)), OwnO 2 (AV.slice (Hp.next h59) 0 1 1 2 true) 1 [(AV.int .u8 (Int.ofNat x4.2.2)), w40], Cel b101 [w47, (AV.int .i64 (Int.ofNat x36.2.1))], Frz G h0, Cel (Hp.next h10) [(AV.int .u8 (Int.ofNat x4.2.2)), w40], OwnO 2 wA5 A5.length LA5] (hpush h59 (mkCells [(AV.int .u8 (Int.ofNat x4.2.2)), w40] 2)) := sG69
      have ⟨g71, hp⟩ := gd_inv hp
      obtain ⟨e65, qe65, se65⟩ := own_append (bytes := 32) call S70 (i := 5) rfl (x := (AV.slice (Hp.next h59) 0 1 1 2 true)) (m := 1) (xs := [(AV.int .u8 (Int.ofNat x4.2.2)), w40]) (fun z k => own_src S70 (i := 1) rfl z k) (own_L S70 (i := 1) rfl) (all_cell rfl (all_cell (BIn.cell (BIn.up vG69 pG66)) all_cell0)) g71 (by omega)
      have S73 : Sep [Frz G69 (hpush h59 (mkCells [(AV.int .u8 (Int.ofNat x4.2.2)), w40] 2)), OwnO 2 (AV.slice (Hp.next h59) 0 1 1 2 true) 1 [(AV.int .u8 (Int.ofNat x4.2.2)), w40], Cel b101 [w47, (AV.int .i64 (Int.ofNat x36.2.1))], Frz G h0, Cel (Hp.next h10) [(AV.int .u8 (Int.ofNat x4.2.2)), w40], OwnO 2 e65.v (A5.length + 1) (LA5 ++ [(AV.int .u8 (Int.ofNat x4.2.2)), w40])] e65.h := se65
      obtain ⟨L72, rL72, eL72⟩ : ∃ L, Eng.Rows (rP (rU .u8) rY) G69 (hpush h59 (mkCells [(AV.int .u8 (Int.ofNat x4.2.2)), w40] 2)) L (A5 ++ [(x4.2.2, x36.2.2)]) ∧ LA5 ++ [(AV.int .u8 (Int.ofNat x4.2.2)), w40] = L := ⟨_, (Rows.snoc (Rows.up uG69 fA5) (a := (rP (rU .u8) rY)) (x := (x4.2.2, x36.2.2)) ⟨_, _, rfl, ⟨rfl, f8⟩, ⟨w40, rfl, (BIn.up vG69 pG66)⟩⟩), rfl⟩
      have S74 : Sep [Frz G69 (hpush h59 (mkCells [(AV.int .u8 (Int.ofNat x4.2.2)), w40] 2)), OwnO 2 (AV.slice (Hp.next h59) 0 1 1 2 true) 1 [(AV.int .u8 (Int.ofNat x4.2.2)), w40], Cel b101 [w47, (AV.int .i64 (Int.ofNat x36.2.1))], Frz G h0, Cel (Hp.next h10) [(AV.int .u8 (Int.ofNat x4.2.2)), w40], OwnO 2 e65.v ((A5 ++ [(x4.2.2, x36.2.2)]).length) L72] e65.h := (by have z := S73; rw [eL72, show A5.length + 1 = (A5 ++ [(x4.2.2, x36.2.2)]).length from by simp] at z; exact z)
      have S75 : Sep [OwnO 2 (AV.slice (Hp.next h59) 0 1 1 2 true) 1 [(AV.int .u8 (Int.ofNat x4.2.2)), w40], Frz G69 (hpush h59 (mkCells [(AV.int .u8 (Int.ofNat x4.2.2)), w40] 2)), Cel b101 [w47, (AV.int .i64 (Int.ofNat x36.2.1))], Frz G h0, Cel (Hp.next h10) [(AV.int .u8 (Int.ofNat x4.2.2)), w40], OwnO 2 e65.v ((A5 ++ [(x4.2.2, x36.2.2)]).length) L72] e65.h := S74.sel [1, 0, 2, 3, 4, 5] (by decide) rfl
      have S76 : Sep [Frz G69 (hpush h59 (mkCells [(AV.int .u8 (Int.ofNat x4.2.2)), w40] 2)), Cel b101 [w47, (AV.int .i64 (Int.ofNat x36.2.1))], Frz G h0, Cel (Hp.next h10) [(AV.int .u8 (Int.ofNat x4.2.2)), w40], OwnO 2 e65.v ((A5 ++ [(x4.2.2, x36.2.2)]).length) L72] e65.h := S75.tail
      refine ⟨e65, qe65, ?_⟩
      have S77 : Sep [OwnO 2 e65.v ((A5 ++ [(x4.2.2, x36.2.2)]).length) L72, Cel b101 [w47, (AV.int .i64 (Int.ofNat x36.2.1))], Frz G69 (hpush h59 (mkCells [(AV.int .u8 (Int.ofNat x4.2.2)), w40] 2)), Frz G h0] e65.h := S76.sel [4, 1, 0, 2] (by decide) rfl
      refine ⟨(m, A2, A3, A5 ++ [(x4.2.2, x36.2.2)], x54, x36.1, x36.2.1, wA2_1, e65.v, L72, w47, G69, hpush h59 (mkCells [(AV.int .u8 (Int.ofNat x4.2.2)), w40] 2)), rfl, ⟨hp, fA2_2, rL72, f48, S77⟩, by show m < n; omega⟩
    replace c2 := ltI_f c2
    replace hp := iff0 hp (nltO c2)
    refine ⟨(m, A2, A3, A5, A6, Q101_0, Q101_1, wA2_1, wA5, LA5, wQ101_0_1, G_102, k_102), rfl, rfl, fun _ => ⟨(Option.some.inj hp).symm, fA2_2, fA5, fQ101_0_2, S⟩⟩
  replace c1 := eqI_f c1
  replace hp := iff0 hp (c1)
  refine ⟨(m, A2, A3, A5, A6, Q101_0, Q101_1, wA2_1, wA5, LA5, wQ101_0_1, G_102, k_102), rfl, rfl, fun _ => ⟨(Option.some.inj hp).symm, fA2_2, fA5, fQ101_0_2, S⟩⟩
theorem rsplit_l1_t {call : CallT} {N : Nat} {b101 : Nat} {G : Nat → Prop} {h0 : Hp}   (h_rutf8 : C_rutf8 call) (h_rbyte : C_rbyte call) (h_rank : C_rank call) (h_ru32 : C_ru32 call) (h_rtake : C_rtake call) (h_rfail : C_rfail call) {o : LO (List Nat × Nat × List (Nat × List Nat) × Nat × List Nat × Nat) (List (Nat × List Nat) × Nat)} {n : Nat} {A2 : List Nat} {A3 : Nat} {A5 : List (Nat × List Nat)} {A6 : Nat} {Q101_0 : List Nat} {Q101_1 : Nat} {wA2_1 : AV} {wA5 : AV} {LA5 : List AV} {wQ101_0_1 : AV} {G_102 : Nat → Prop} {k_102 : Hp} {h : Hp} (hi : (fun (z : Nat × List Nat × Nat × List (Nat × List Nat) × Nat × List Nat × Nat × AV × AV × List AV × AV × (Nat → Prop) × Hp) (h' : Hp) => rsplit_l1  z.1 z.2.1 z.2.2.1 z.2.2.2.1 z.2.2.2.2.1 z.2.2.2.2.2.1 z.2.2.2.2.2.2.1 = some o ∧ (BIn G h0 z.2.2.2.2.2.2.2.1 z.2.1) ∧ (Eng.Rows (rP (rU .u8) rY) z.2.2.2.2.2.2.2.2.2.2.2.1 z.2.2.2.2.2.2.2.2.2.2.2.2 z.2.2.2.2.2.2.2.2.2.1 z.2.2.2.1) ∧ (BIn G h0 z.2.2.2.2.2.2.2.2.2.2.1 z.2.2.2.2.2.1) ∧ Eng.Sep [OwnO 2 z.2.2.2.2.2.2.2.2.1 z.2.2.2.1.length z.2.2.2.2.2.2.2.2.2.1, Cel b101 [z.2.2.2.2.2.2.2.2.2.2.1, (AV.int .i64 (Int.ofNat z.2.2.2.2.2.2.1))], Frz z.2.2.2.2.2.2.2.2.2.2.2.1 z.2.2.2.2.2.2.2.2.2.2.2.2, Frz G h0] h') (n, A2, A3, A5, A6, Q101_0, Q101_1, wA2_1, wA5, LA5, wQ101_0_1, G_102, k_102) h) (hN : n < N) (hN' : 90000 < N) {t : T} (ht : Has ((fun (z : Nat × List Nat × Nat × List (Nat × List Nat) × Nat × List Nat × Nat × AV × AV × List AV × AV × (Nat → Prop) × Hp) => [(2, z.2.2.2.2.2.2.2.1), (3, (AV.int .i64 (Int.ofNat z.2.2.1))), (4, (AV.ptr b101 0)), (5, z.2.2.2.2.2.2.2.2.1), (6, (AV.int .i64 (Int.ofNat z.2.2.2.2.1)))]) (n, A2, A3, A5, A6, Q101_0, Q101_1, wA2_1, wA5, LA5, wQ101_0_1, G_102, k_102)) t) :
    (∃ i y t' h', evC call N (.loop rsplit_l1C) t h = .exit i t' h' ∧ Has ((fun (z : Nat × List Nat × Nat × List (Nat × List Nat) × Nat × List Nat × Nat × AV × AV × List AV × AV × (Nat → Prop) × Hp) => [(2, z.2.2.2.2.2.2.2.1), (3, (AV.int .i64 (Int.ofNat z.2.2.1))), (4, (AV.ptr b101 0)), (5, z.2.2.2.2.2.2.2.2.1), (6, (AV.int .i64 (Int.ofNat z.2.2.2.2.1)))]) y) t' ∧ (fun (i : Nat) (z : Nat × List Nat × Nat × List (Nat × List Nat) × Nat × List Nat × Nat × AV × AV × List AV × AV × (Nat → Prop) × Hp) (h' : Hp) => (i = 0) ∧ (i = 0 → o = LO.ex (z.2.1, z.2.2.1, z.2.2.2.1, z.2.2.2.2.1, z.2.2.2.2.2.1, z.2.2.2.2.2.2.1) ∧ (BIn G h0 z.2.2.2.2.2.2.2.1 z.2.1) ∧ (Eng.Rows (rP (rU .u8) rY) z.2.2.2.2.2.2.2.2.2.2.2.1 z.2.2.2.2.2.2.2.2.2.2.2.2 z.2.2.2.2.2.2.2.2.2.1 z.2.2.2.1) ∧ (BIn G h0 z.2.2.2.2.2.2.2.2.2.2.1 z.2.2.2.2.2.1) ∧ Eng.Sep [OwnO 2 z.2.2.2.2.2.2.2.2.1 z.2.2.2.1.length z.2.2.2.2.2.2.2.2.2.1, Cel b101 [z.2.2.2.2.2.2.2.2.2.2.1, (AV.int .i64 (Int.ofNat z.2.2.2.2.2.2.1))], Frz z.2.2.2.2.2.2.2.2.2.2.2.1 z.2.2.2.2.2.2.2.2.2.2.2.2, Frz G h0] h')) i y h') ∨ (∃ t' h', evC call N (.loop rsplit_l1C) t h = .ret t' h' ∧ (fun (ls : List (Option AV)) (h' : Hp) => ∃ (rt : List (Nat × List Nat) × Nat) (v2 : AV) (v3 : AV), o = LO.rt rt ∧ ls[0]? = some (some v2) ∧ ls[1]? = some (some v3) ∧ (∃ wk1 : AV, ∃ Lk3 : List AV, ∃ Gk : Nat → Prop, ∃ kk : Hp, (.tuple [v2, v3]) = (AV.tuple [wk1, (AV.int .i64 (Int.ofNat rt.2))]) ∧ (Eng.Rows (rP (rU .u8) rY) Gk kk Lk3 rt.1) ∧ Eng.Sep (OwnO 2 wk1 rt.1.length Lk3 :: Frz Gk kk :: Frz G h0 :: []) h')) (slots [2, 3, 4, 5, 6] t') h') :=
  loop_st (fun (z : Nat × List Nat × Nat × List (Nat × List Nat) × Nat × List Nat × Nat × AV × AV × List AV × AV × (Nat → Prop) × Hp) => [(2, z.2.2.2.2.2.2.2.1), (3, (AV.int .i64 (Int.ofNat z.2.2.1))), (4, (AV.ptr b101 0)), (5, z.2.2.2.2.2.2.2.2.1), (6, (AV.int .i64 (Int.ofNat z.2.2.2.2.1)))]) [2, 3, 4, 5, 6] (fun _ => rfl) (fun (z : Nat × List Nat × Nat × List (Nat × List Nat) × Nat × List Nat × Nat × AV × AV × List AV × AV × (Nat → Prop) × Hp) (h' : Hp) => rsplit_l1  z.1 z.2.1 z.2.2.1 z.2.2.2.1 z.2.2.2.2.1 z.2.2.2.2.2.1 z.2.2.2.2.2.2.1 = some o ∧ (BIn G h0 z.2.2.2.2.2.2.2.1 z.2.1) ∧ (Eng.Rows (rP (rU .u8) rY) z.2.2.2.2.2.2.2.2.2.2.2.1 z.2.2.2.2.2.2.2.2.2.2.2.2 z.2.2.2.2.2.2.2.2.2.1 z.2.2.2.1) ∧ (BIn G h0 z.2.2.2.2.2.2.2.2.2.2.1 z.2.2.2.2.2.1) ∧ Eng.Sep [OwnO 2 z.2.2.2.2.2.2.2.2.1 z.2.2.2.1.length z.2.2.2.2.2.2.2.2.2.1, Cel b101 [z.2.2.2.2.2.2.2.2.2.2.1, (AV.int .i64 (Int.ofNat z.2.2.2.2.2.2.1))], Frz z.2.2.2.2.2.2.2.2.2.2.2.1 z.2.2.2.2.2.2.2.2.2.2.2.2, Frz G h0] h') (fun (z : Nat × List Nat × Nat × List (Nat × List Nat) × Nat × List Nat × Nat × AV × AV × List AV × AV × (Nat → Prop) × Hp) => z.1) (fun (i : Nat) (z : Nat × List Nat × Nat × List (Nat × List Nat) × Nat × List Nat × Nat × AV × AV × List AV × AV × (Nat → Prop) × Hp) (h' : Hp) => (i = 0) ∧ (i = 0 → o = LO.ex (z.2.1, z.2.2.1, z.2.2.2.1, z.2.2.2.2.1, z.2.2.2.2.2.1, z.2.2.2.2.2.2.1) ∧ (BIn G h0 z.2.2.2.2.2.2.2.1 z.2.1) ∧ (Eng.Rows (rP (rU .u8) rY) z.2.2.2.2.2.2.2.2.2.2.2.1 z.2.2.2.2.2.2.2.2.2.2.2.2 z.2.2.2.2.2.2.2.2.2.1 z.2.2.2.1) ∧ (BIn G h0 z.2.2.2.2.2.2.2.2.2.2.1 z.2.2.2.2.2.1) ∧ Eng.Sep [OwnO 2 z.2.2.2.2.2.2.2.2.1 z.2.2.2.1.length z.2.2.2.2.2.2.2.2.2.1, Cel b101 [z.2.2.2.2.2.2.2.2.2.2.1, (AV.int .i64 (Int.ofNat z.2.2.2.2.2.2.1))], Frz z.2.2.2.2.2.2.2.2.2.2.2.1 z.2.2.2.2.2.2.2.2.2.2.2.2, Frz G h0] h')) (fun (ls : List (Option AV)) (h' : Hp) => ∃ (rt : List (Nat × List Nat) × Nat) (v2 : AV) (v3 : AV), o = LO.rt rt ∧ ls[0]? = some (some v2) ∧ ls[1]? = some (some v3) ∧ (∃ wk1 : AV, ∃ Lk3 : List AV, ∃ Gk : Nat → Prop, ∃ kk : Hp, (.tuple [v2, v3]) = (AV.tuple [wk1, (AV.int .i64 (Int.ofNat rt.2))]) ∧ (Eng.Rows (rP (rU .u8) rY) Gk kk Lk3 rt.1) ∧ Eng.Sep (OwnO 2 wk1 rt.1.length Lk3 :: Frz Gk kk :: Frz G h0 :: []) h')) (fun ⟨n, A2, A3, A5, A6, Q101_0, Q101_1, wA2_1, wA5, LA5, wQ101_0_1, G_102, k_102⟩ t h hi => rsplit_l1_body h_rutf8 h_rbyte h_rank h_ru32 h_rtake h_rfail hN' hi) (n, A2, A3, A5, A6, Q101_0, Q101_1, wA2_1, wA5, LA5, wQ101_0_1, G_102, k_102) h hi hN t ht
def rsplit_p (l : List Nat) : Option (List (Nat × List Nat) × Nat) :=
  (if l.length < 8 then (some ([], 3)) else
    (if (l.take 8) ≠ [0, 97, 115, 109, 1, 0, 0, 0] then (some ([], 2)) else
    (ob (rsplit_l1  90000 ([] : List Nat) 0 ([] : List (Nat × List Nat)) 0 (l.drop 8) 0) fun o9 =>
    (LO.on o9 (fun s_o9 => (if s_o9.2.2.2.2.2 ≠ 0 then (some ([], s_o9.2.2.2.2.2)) else
    (some (s_o9.2.2.1, 0)))) (fun y16 =>
    (some y16))))))
theorem rsplit_w {call : CallT} {N : Nat} {h : Hp} {wl_1 : AV} {l : List Nat} (fl_2 : BIn (Low h) h wl_1 l) (h_rutf8 : C_rutf8 call) (h_rbyte : C_rbyte call) (h_rank : C_rank call) (h_ru32 : C_ru32 call) (h_rtake : C_rtake call) (h_rfail : C_rfail call) (hN : 90000 < N) {r : List (Nat × List Nat) × Nat} (hp : rsplit_p l = some r) :
    ∃ rv rh, evF1 (progS Try.prog (compDrawn Try.prog)) N call 36 [wl_1] h = .ok rv rh ∧ (fun (rv : AV) (rh : Hp) => ∃ wk1 : AV, ∃ Lk3 : List AV, ∃ Gk : Nat → Prop, ∃ kk : Hp, rv = (AV.tuple [wk1, (AV.int .i64 (Int.ofNat r.2))]) ∧ (Eng.Rows (rP (rU .u8) rY) Gk kk Lk3 r.1) ∧ Eng.Sep (OwnO 2 wk1 r.1.length Lk3 :: Frz Gk kk :: Frz (Low h) h :: []) rh) rv rh := by
  have S : Eng.Sep [Frz (Low h) h] h := Sep.start h
  unfold rsplit_p at hp
  refine fwalk_ok (K := (fun (rv : AV) (rh : Hp) => ∃ wk1 : AV, ∃ Lk3 : List AV, ∃ Gk : Nat → Prop, ∃ kk : Hp, rv = (AV.tuple [wk1, (AV.int .i64 (Int.ofNat r.2))]) ∧ (Eng.Rows (rP (rU .u8) rY) Gk kk Lk3 r.1) ∧ Eng.Sep (OwnO 2 wk1 r.1.length Lk3 :: Frz Gk kk :: Frz (Low h) h :: []) rh)) (o := (.tell 3 (AV.int .i64 (Int.ofNat l.length)) (.fork 0 .fin (.tell 1 (partS wl_1 0 8) (.tell 0 (AV.str (l.take 8)) (.fork 0 .fin (.tell 1 (partS wl_1 8 l.length) (.tell 0 (AV.agg [(partS wl_1 8 l.length), (AV.int .i64 (Int.ofNat 0))]) (.ell 1 .ptr (mkCells [(partS wl_1 8 l.length), (AV.int .i64 (Int.ofNat 0))] 2) (.dis 3 (.exi 0 fun (A2o9 : List Nat) => (.exi 0 fun (A3o9 : Nat) => (.exi 0 fun (A5o9 : List (Nat × List Nat)) => (.exi 0 fun (A6o9 : Nat) => (.exi 0 fun (Q101_0o9 : List Nat) => (.exi 0 fun (Q101_1o9 : Nat) => (.exi 0 fun (wA2_1o9 : AV) => (.exi 0 fun (wA5o9 : AV) => (.exi 0 fun (wQ101_0_1o9 : AV) => (.exi 0 fun (t12 : T) => (.exi 0 fun (h13 : Hp) => (.lp 0 (.exit 0 (ovT [(2, wA2_1o9), (3, (AV.int .i64 (Int.ofNat A3o9))), (4, (AV.ptr (Hp.next h) 0)), (5, wA5o9), (6, (AV.int .i64 (Int.ofNat A6o9)))] t12) h13) (.tell 4 (AV.int .i64 (Int.ofNat Q101_1o9)) (.fork 0 (.tell 4 (AV.int .i64 (Int.ofNat Q101_1o9)) (.again 2 .fin)) .fin)))))))))))))) (.exi 0 fun (y16 : List (Nat × List Nat) × Nat) => (.exi 0 fun (v2o9 : AV) => (.exi 0 fun (v3o9 : AV) => (.exi 0 fun (t14 : T) => (.exi 0 fun (h15 : Hp) => (.lp 0 (.ret (ovT [(2, v2o9), (3, v3o9)] t14) h15) .fin)))))))))))))))) (p := (fun (KK : AV → Hp → Prop) => ((evQ (.lenL (.const wl_1)) .lf H0 = .ok (AV.int .i64 (Int.ofNat l.length)) ∧ ((ltI (Int.ofNat l.length) (Int.ofNat 8) = true → KK (AV.tuple [AV.nilSlice, (AV.int .i64 (Int.ofNat 3))]) h) ∧ (ltI (Int.ofNat l.length) (Int.ofNat 8) = false → ((evQ (.sliceSl 1 (.const wl_1) none (some (.const (AV.int .i64 (Int.ofNat 8)))) none) .lf H0 = .ok (partS wl_1 0 8) ∧ ((evQ (.toStr (.const (partS wl_1 0 8))) .lf h = .ok (AV.str (l.take 8)) ∧ ((notB (strEq (l.take 8) [0, 97, 115, 109, 1, 0, 0, 0]) = true → KK (AV.tuple [AV.nilSlice, (AV.int .i64 (Int.ofNat 2))]) h) ∧ (notB (strEq (l.take 8) [0, 97, 115, 109, 1, 0, 0, 0]) = false → ((evQ (.sliceSl 1 (.const wl_1) (some (.const (AV.int .i64 (Int.ofNat 8)))) none none) .lf H0 = .ok (partS wl_1 8 l.length) ∧ ((evQ (.build [AV.nilSlice, (AV.int .i64 (Int.ofNat 0))] [(0, 1, (.const (partS wl_1 8 l.length)))]) .lf H0 = .ok (AV.agg [(partS wl_1 8 l.length), (AV.int .i64 (Int.ofNat 0))]) ∧ (evL (.box (.const (AV.agg [(partS wl_1 8 l.length), (AV.int .i64 (Int.ofNat 0))]))) .lf = .ok .ptr (mkCells [(partS wl_1 8 l.length), (AV.int .i64 (Int.ofNat 0))] 2) ∧ ((∃ A2o9 : List Nat, ∃ A3o9 : Nat, ∃ A5o9 : List (Nat × List Nat), ∃ A6o9 : Nat, ∃ Q101_0o9 : List Nat, ∃ Q101_1o9 : Nat, ∃ wA2_1o9 : AV, ∃ wA5o9 : AV, ∃ wQ101_0_1o9 : AV, ∃ t12 : T, ∃ h13 : Hp, (evC call N (.loop rsplit_l1C) (ovT [(0, wl_1), (2, AV.nilSlice), (3, (AV.int .i64 (Int.ofNat 0))), (4, (AV.ptr (Hp.next h) 0)), (5, AV.nilSlice), (6, (AV.int .i64 (Int.ofNat 0))), (11, wl_1), (12, (AV.int .i64 (Int.ofNat l.length))), (13, (AV.bool false)), (14, wl_1), (15, (partS wl_1 0 8)), (16, (AV.str (l.take 8))), (17, (AV.bool false)), (18, wl_1), (19, (partS wl_1 8 l.length)), (20, (AV.agg [(partS wl_1 8 l.length), (AV.int .i64 (Int.ofNat 0))])), (21, (AV.agg [(partS wl_1 8 l.length), (AV.int .i64 (Int.ofNat 0))])), (22, (AV.ptr (Hp.next h) 0))] .lf) (hpush h (mkCells [(partS wl_1 8 l.length), (AV.int .i64 (Int.ofNat 0))] 2)) = (.exit 0 (ovT [(2, wA2_1o9), (3, (AV.int .i64 (Int.ofNat A3o9))), (4, (AV.ptr (Hp.next h) 0)), (5, wA5o9), (6, (AV.int .i64 (Int.ofNat A6o9)))] t12) h13) ∧ True ∧ ((evQ (.loadS (.const (AV.ptr (Hp.next h) 1))) .lf h13 = .ok (AV.int .i64 (Int.ofNat Q101_1o9)) ∧ ((notB (eqI (Int.ofNat Q101_1o9) (Int.ofNat 0)) = true → ((evQ (.loadS (.const (AV.ptr (Hp.next h) 1))) .lf h13 = .ok (AV.int .i64 (Int.ofNat Q101_1o9)) ∧ ((again (.move (.const (AV.int .i64 (Int.ofNat Q101_1o9)))) .lf (AV.int .i64 (Int.ofNat Q101_1o9)) h13 = true ∧ again (.move (.const AV.nilSlice)) .lf AV.nilSlice h13 = true ∧ again (.loadS (.const (AV.ptr (Hp.next h) 1))) .lf (AV.int .i64 (Int.ofNat Q101_1o9)) h13 = true ∧ again (.fieldAddr 1 (.const (AV.ptr (Hp.next h) 0))) .lf (AV.ptr (Hp.next h) 1) h13 = true ∧ again (.fieldAddr 0 (.const (AV.ptr (Hp.next h) 0))) .lf (AV.ptr (Hp.next h) 0) h13 = true ∧ again (.nilCheck (.const (AV.ptr (Hp.next h) 0))) .lf (AV.ptr (Hp.next h) 0) h13 = true ∧ again (.move (.const (AV.ptr (Hp.next h) 0))) .lf (AV.ptr (Hp.next h) 0) h13 = true ∧ True) ∧ KK (AV.tuple [AV.nilSlice, (AV.int .i64 (Int.ofNat Q101_1o9))]) h13)))) ∧ (notB (eqI (Int.ofNat Q101_1o9) (Int.ofNat 0)) = false → KK (AV.tuple [wA5o9, (AV.int .i64 (Int.ofNat 0))]) h13)))))) ∨ (∃ y16 : List (Nat × List Nat) × Nat, ∃ v2o9 : AV, ∃ v3o9 : AV, ∃ t14 : T, ∃ h15 : Hp, (evC call N (.loop rsplit_l1C) (ovT [(0, wl_1), (2, AV.nilSlice), (3, (AV.int .i64 (Int.ofNat 0))), (4, (AV.ptr (Hp.next h) 0)), (5, AV.nilSlice), (6, (AV.int .i64 (Int.ofNat 0))), (11, wl_1), (12, (AV.int .i64 (Int.ofNat l.length))), (13, (AV.bool false)), (14, wl_1), (15, (partS wl_1 0 8)), (16, (AV.str (l.take 8))), (17, (AV.bool false)), (18, wl_1), (19, (partS wl_1 8 l.length)), (20, (AV.agg [(partS wl_1 8 l.length), (AV.int .i64 (Int.ofNat 0))])), (21, (AV.agg [(partS wl_1 8 l.length), (AV.int .i64 (Int.ofNat 0))])), (22, (AV.ptr (Hp.next h) 0))] .lf) (hpush h (mkCells [(partS wl_1 8 l.length), (AV.int .i64 (Int.ofNat 0))] 2)) = (.ret (ovT [(2, v2o9), (3, v3o9)] t14) h15) ∧ True ∧ KK (AV.tuple [v2o9, v3o9]) h15))))))))))))))))))) (fun (rv : AV) (rh : Hp) => ∃ wk1 : AV, ∃ Lk3 : List AV, ∃ Gk : Nat → Prop, ∃ kk : Hp, rv = (AV.tuple [wk1, (AV.int .i64 (Int.ofNat r.2))]) ∧ (Eng.Rows (rP (rU .u8) rY) Gk kk Lk3 r.1) ∧ Eng.Sep (OwnO 2 wk1 r.1.length Lk3 :: Frz Gk kk :: Frz (Low h) h :: []) rh)) (by kernel_rfl) ?_
  refine ⟨q_len (BIn.now S (i := 0) rfl fl_2), ?_⟩
  refine ⟨fun c1 => ?_, fun c1 => ?_⟩
  · replace c1 := ltI_t c1
    replace hp := ift hp c1
    have S2 : Sep [Frz (fun _ => False) h, Frz (Low h) h] h := S.empty
    have S3 : Sep [OwnO 2 AV.nilSlice (([] : List (Nat × List Nat)).length) [], Frz (fun _ => False) h, Frz (Low h) h] h := own_nil S2 2
    obtain rfl := Option.some.inj hp
    exact ⟨AV.nilSlice, [], (fun _ => False), h, rfl, (own_rows_nil _ _ _), S3⟩
  replace c1 := ltI_f c1
  replace hp := iff0 hp (nltO c1)
  refine ⟨q_sliceTo (l := l) (BIn.now S (i := 0) rfl fl_2) c1, ?_⟩
  have b2 := BIn.to (l := l) (hi := 8) fl_2 c1
  refine ⟨q_toStr (BIn.now S (i := 0) rfl b2), ?_⟩
  refine ⟨fun c3 => ?_, fun c3 => ?_⟩
  · replace c3 := strEq_f (notB_t c3)
    replace hp := ift hp c3
    have S4 : Sep [Frz (fun _ => False) h, Frz (Low h) h] h := S.empty
    have S5 : Sep [OwnO 2 AV.nilSlice (([] : List (Nat × List Nat)).length) [], Frz (fun _ => False) h, Frz (Low h) h] h := own_nil S4 2
    obtain rfl := Option.some.inj hp
    exact ⟨AV.nilSlice, [], (fun _ => False), h, rfl, (own_rows_nil _ _ _), S5⟩
  replace c3 := strEq_t (notB_f c3)
  replace hp := iff0 hp (nneO c3)
  refine ⟨q_sliceFrom (l := l) (BIn.now S (i := 0) rfl fl_2) c1, ?_⟩
  have b4 := BIn.from (l := l) (lo := 8) fl_2 c1
  refine ⟨build_told (by show fillParts [(0, 1, (.const (partS wl_1 8 l.length)))] .lf 2 [AV.nilSlice, (AV.int .i64 (Int.ofNat 0))] = _; rw [fill_cons (o := 0) (k := 1) (n := 2) (BIn.cells b4) rfl (by decide)]; rfl), ?_⟩
  refine ⟨box_told rfl rfl (all_cell (BIn.cell b4) (all_cell rfl all_cell0)), ?_⟩
  have S5 : Sep [Cel (Hp.next h) [(partS wl_1 8 l.length), (AV.int .i64 (Int.ofNat 0))], Frz (Low h) h] (hpush h (mkCells [(partS wl_1 8 l.length), (AV.int .i64 (Int.ofNat 0))] 2)) := cel_new S [(partS wl_1 8 l.length), (AV.int .i64 (Int.ofNat 0))] rfl
  have S6 : Sep [Frz (fun _ => False) (hpush h (mkCells [(partS wl_1 8 l.length), (AV.int .i64 (Int.ofNat 0))] 2)), Cel (Hp.next h) [(partS wl_1 8 l.length), (AV.int .i64 (Int.ofNat 0))], Frz (Low h) h] (hpush h (mkCells [(partS wl_1 8 l.length), (AV.int .i64 (Int.ofNat 0))] 2)) := S5.empty
  have S7 : Sep [OwnO 2 AV.nilSlice (([] : List (Nat × List Nat)).length) [], Frz (fun _ => False) (hpush h (mkCells [(partS wl_1 8 l.length), (AV.int .i64 (Int.ofNat 0))] 2)), Cel (Hp.next h) [(partS wl_1 8 l.length), (AV.int .i64 (Int.ofNat 0))], Frz (Low h) h] (hpush h (mkCells [(partS wl_1 8 l.length), (AV.int .i64 (Int.ofNat 0))] 2)) := own_nil S6 2
  have S8 : Sep [OwnO 2 AV.nilSlice (([] : List (Nat × List Nat)).length) [], Cel (Hp.next h) [(partS wl_1 8 l.length), (AV.int .i64 (Int.ofNat 0))], Frz (fun _ => False) (hpush h (mkCells [(partS wl_1 8 l.length), (AV.int .i64 (Int.ofNat 0))] 2)), Frz (Low h) h] (hpush h (mkCells [(partS wl_1 8 l.length), (AV.int .i64 (Int.ofNat 0))] 2)) := S7.sel [0, 2, 1, 3] (by decide) rfl
  have ⟨o9, hb10, hp⟩ := ob_inv hp
  rcases rsplit_l1_t  h_rutf8 h_rbyte h_rank h_ru32 h_rtake h_rfail (o := o9) (n := 90000) (A2 := ([] : List Nat)) (A3 := 0) (A5 := ([] : List (Nat × List Nat))) (A6 := 0) (Q101_0 := l.drop 8) (Q101_1 := 0) (wA2_1 := AV.nilSlice) (wA5 := AV.nilSlice) (LA5 := []) (wQ101_0_1 := (partS wl_1 8 l.length)) (G_102 := (fun _ => False)) (k_102 := hpush h (mkCells [(partS wl_1 8 l.length), (AV.int .i64 (Int.ofNat 0))] 2)) ⟨hb10, BIn.nil, (own_rows_nil _ _ _), b4, S8⟩ hN hN (t := (ovT [(0, wl_1), (2, AV.nilSlice), (3, (AV.int .i64 (Int.ofNat 0))), (4, (AV.ptr (Hp.next h) 0)), (5, AV.nilSlice), (6, (AV.int .i64 (Int.ofNat 0))), (11, wl_1), (12, (AV.int .i64 (Int.ofNat l.length))), (13, (AV.bool false)), (14, wl_1), (15, (partS wl_1 0 8)), (16, (AV.str (l.take 8))), (17, (AV.bool false)), (18, wl_1), (19, (partS wl_1 8 l.length)), (20, (AV.agg [(partS wl_1 8 l.length), (AV.int .i64 (Int.ofNat 0))])), (21, (AV.agg [(partS wl_1 8 l.length), (AV.int .i64 (Int.ofNat 0))])), (22, (AV.ptr (Hp.next h) 0))] .lf)) (show slots [2, 3, 4, 5, 6] _ = [some AV.nilSlice, some (AV.int .i64 (Int.ofNat 0)), some (AV.ptr (Hp.next h) 0), some AV.nilSlice, some (AV.int .i64 (Int.ofNat 0))] by kernel_rfl) with ⟨io9, ⟨_, A2o9, A3o9, A5o9, A6o9, Q101_0o9, Q101_1o9, wA2_1o9, wA5o9, LA5o9, wQ101_0_1o9, G_102o9, k_102o9⟩, t12, h13, qo9, wo9, zo9⟩ | ⟨t14, h15, qo9, zo9⟩
  · obtain ⟨jo9, zo9⟩ := zo9
    subst jo9
    replace zo9 := zo9 rfl
    obtain ⟨uo9, fA2_2o9, fA5o9, fQ101_0_2o9, So9⟩ := zo9
    replace uo9 := uo9.symm
    subst uo9
    replace hp := LO.on_ex.symm.trans hp
    try dsimp only at hp
    refine Or.inl ⟨A2o9, A3o9, A5o9, A6o9, Q101_0o9, Q101_1o9, wA2_1o9, wA5o9, wQ101_0_1o9, t12, h13, (qo9.trans (congrArg (fun t => RS.exit 0 t h13) (ovT_eq wo9).symm)), trivial, ?_⟩
    refine ⟨cel_load So9 (i := 1) rfl rfl, ?_⟩
    refine ⟨fun c17 => ?_, fun c17 => ?_⟩
    · replace c17 := eqI_f (notB_t c17)
      replace hp := ift hp c17
      refine ⟨cel_load So9 (i := 1) rfl rfl, ?_⟩
      refine ⟨⟨again_of (rfl) (avEq_int _ _), again_of (rfl) rfl, again_of (cel_load So9 (i := 1) rfl rfl) (avEq_int _ _), again_of (rfl) (avEq_ptr _ _), again_of (rfl) (avEq_ptr _ _), again_of (rfl) (avEq_ptr _ _), again_of (rfl) (avEq_ptr _ _), trivial⟩, ?_⟩
      have S18 : Sep [Frz (fun _ => False) h13, OwnO 2 wA5o9 A5o9.length LA5o9, Cel (Hp.next h) [wQ101_0_1o9, (AV.int .i64 (Int.ofNat Q101_1o9))], Frz G_102o9 k_102o9, Frz (Low h) h] h13 := So9.empty
      have S19 : Sep [OwnO 2 AV.nilSlice (([] : List (Nat × List Nat)).length) [], Frz (fun _ => False) h13, OwnO 2 wA5o9 A5o9.length LA5o9, Cel (Hp.next h) [wQ101_0_1o9, (AV.int .i64 (Int.ofNat Q101_1o9))], Frz G_102o9 k_102o9, Frz (Low h) h] h13 := own_nil S18 2
      have S20 : Sep [OwnO 2 AV.nilSlice (([] : List (Nat × List Nat)).length) [], Frz (fun _ => False) h13, Frz (Low h) h] h13 := S19.sel [0, 1, 5] (by decide) rfl
      obtain rfl := Option.some.inj hp
      exact ⟨AV.nilSlice, [], (fun _ => False), h13, rfl, (own_rows_nil _ _ _), S20⟩
    replace c17 := eqI_t (notB_f c17)
    replace hp := iff0 hp (nneO c17)
    have S18 : Sep [OwnO 2 wA5o9 A5o9.length LA5o9, Frz G_102o9 k_102o9, Frz (Low h) h] h13 := So9.sel [0, 2, 3] (by decide) rfl
    obtain rfl := Option.some.inj hp
    exact ⟨wA5o9, LA5o9, G_102o9, k_102o9, rfl, fA5o9, S18⟩
  obtain ⟨y16, v2o9, v3o9, uo9, go9_2, go9_3, Ko9⟩ := zo9
  replace uo9 := uo9.symm
  subst uo9
  replace go9_2 : tget (pathOf 2) t14 = some v2o9 := Option.some.inj go9_2
  replace go9_3 : tget (pathOf 3) t14 = some v3o9 := Option.some.inj go9_3
  replace hp := LO.on_rt.symm.trans hp
  try dsimp only at hp
  refine Or.inr ⟨y16, v2o9, v3o9, t14, h15, (qo9.trans (congrArg (fun t => RS.ret t h15) (ovT_eq (l := [(2, v2o9), (3, v3o9)]) (by show [tget (pathOf 2) t14, tget (pathOf 3) t14] = _; rw [go9_2, go9_3]; rfl)).symm)), trivial, ?_⟩
  obtain rfl := Option.some.inj hp
  exact Ko9
def C_rsplit (call : CallT) : Prop := ∀ {h : Hp} {wl_1 : AV} {l : List Nat} (fl_2 : BIn (Low h) h wl_1 l) {r : List (Nat × List Nat) × Nat}, rsplit_p l = some r → ∃ rv rh, call 36 [wl_1] h = .ok rv rh ∧ ∃ wk1 : AV, ∃ Lk3 : List AV, ∃ Gk : Nat → Prop, ∃ kk : Hp, rv = (AV.tuple [wk1, (AV.int .i64 (Int.ofNat r.2))]) ∧ (Eng.Rows (rP (rU .u8) rY) Gk kk Lk3 r.1) ∧ Eng.Sep (OwnO 2 wk1 r.1.length Lk3 :: Frz Gk kk :: Frz (Low h) h :: []) rh
theorem s_rsplit (d : Nat) : C_rsplit (CC (d + 4)) := by
  intro h wl_1 l fl_2 r hp
  rw [CC, evF_at (sumT_none rfl)]
  exact rsplit_w (call := CC (d + 3)) (N := 100000) fl_2 (s_rutf8 (d + 2)) (s_rbyte (d + 2)) (s_rank (d + 2)) (s_ru32 (d + 0)) (s_rtake (d + 2)) (s_rfail (d + 2)) (by decide) hp
end Go.Proofs.Ytejiebbbodealaa
end
