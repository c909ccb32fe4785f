import Derived.Test.YtejiebbbodealaaB6
section
set_option linter.unusedVariables false
namespace Go.Proofs.Ytejiebbbodealaa
set_option linter.unusedVariables false
set_option linter.unusedSimpArgs false
open Go Eng
def lawsplits_l1 (B5 : List (Nat × List Nat)) (B7 : List (Nat × List Nat)) : Nat → Bool → Nat → Option (LO (Bool × Nat) (Bool))
  | 0, _, _ => none
  | m + 1, A4, A9 =>
    (if A9 < B7.length then (gd (A9 < B5.length) (if (B5.getD A9 default).1 ≠ (B7.getD A9 default).1 then (some (LO.rt false)) else
    (if ((B5.getD A9 default).2) ≠ ((B7.getD A9 default).2) then (some (LO.rt false)) else
    (gd (A9 + 1 < 9223372036854775808) (lawsplits_l1 B5 B7 m A4 (A9 + 1)))))) else
    (some (LO.ex (A4, A9))))
noncomputable def lawsplits_l1C : AC := (.seq (.seq (.region [⟨(some 47), .q (.move (.tmp 9)), none⟩, ⟨(some 48), .q (.move (.tmp 7)), none⟩, ⟨(some 49), .q (.lenL (.tmp 48)), none⟩, ⟨(some 50), .q (.bin .lss (.tmp 47) (.tmp 49)), none⟩]) (.cond (.tmp 50) .skip (.exit 0))) (.seq (.block 1 (.seq (.drawn [⟨[(⟨(some 53), .q (.move (.tmp 5)), none⟩, 0), (⟨(some 54), .q (.move (.tmp 9)), none⟩, 0), (⟨(some 55), .q (.idxAddrSl 2 (.tmp 53) (.tmp 54)), none⟩, 0), (⟨(some 56), .q (.fieldAddr 0 (.tmp 55)), none⟩, 0), (⟨(some 57), .q (.loadS (.tmp 56)), none⟩, 0), (⟨(some 58), .q (.move (.tmp 7)), none⟩, 0), (⟨(some 59), .q (.move (.tmp 9)), none⟩, 0), (⟨(some 60), .q (.idxAddrSl 2 (.tmp 58) (.tmp 59)), none⟩, 0), (⟨(some 61), .q (.fieldAddr 0 (.tmp 60)), none⟩, 0), (⟨(some 62), .q (.loadS (.tmp 61)), none⟩, 0), (⟨(some 63), .q (.eq .int true (.tmp 57) (.tmp 62)), none⟩, 0), (⟨(some 64), .q (.move (.tmp 63)), none⟩, 0), (⟨(some 65), .q (.move (.tmp 5)), (some (64, false))⟩, 0), (⟨(some 66), .q (.move (.tmp 9)), (some (64, false))⟩, 0), (⟨(some 67), .q (.idxAddrSl 2 (.tmp 65) (.tmp 66)), (some (64, false))⟩, 0), (⟨(some 68), .q (.fieldAddr 1 (.tmp 67)), (some (64, false))⟩, 0), (⟨(some 69), .q (.loadS (.tmp 68)), (some (64, false))⟩, 0), (⟨(some 70), .q (.toStr (.tmp 69)), (some (64, false))⟩, 0), (⟨(some 71), .q (.move (.tmp 7)), (some (64, false))⟩, 0), (⟨(some 72), .q (.move (.tmp 9)), (some (64, false))⟩, 0), (⟨(some 73), .q (.idxAddrSl 2 (.tmp 71) (.tmp 72)), (some (64, false))⟩, 0), (⟨(some 74), .q (.fieldAddr 1 (.tmp 73)), (some (64, false))⟩, 0), (⟨(some 75), .q (.loadS (.tmp 74)), (some (64, false))⟩, 0), (⟨(some 76), .q (.toStr (.tmp 75)), (some (64, false))⟩, 0), (⟨(some 77), .q (.eq .str true (.tmp 70) (.tmp 76)), (some (64, false))⟩, 0), (⟨(some 78), .q (.pick (.tmp 64) (.const (AV.bool true)) (.tmp 77)), none⟩, 0)], none⟩]) (.cond (.tmp 78) (.seq (.region [⟨(some 4), .q (.move (.const (AV.bool false))), none⟩]) .ret) .skip))) (.region [⟨(some 51), .q (.move (.tmp 9)), none⟩, ⟨(some 52), .q (.bin .add (.tmp 51) (.const (AV.int .i64 (Int.ofNat 1)))), none⟩, ⟨(some 9), .q (.move (.tmp 52)), none⟩])))
theorem lawsplits_l1_body {call : CallT} {N : Nat} {t : T} {h : Hp} {wB5_1 : AV} {wB7_1 : AV} {G_104 : Nat → Prop} {k_104 : Hp} {G_102 : Nat → Prop} {k_102 : Hp} {G : Nat → Prop} {h0 : Hp} {B5 : List (Nat × List Nat)} {B7 : List (Nat × List Nat)} (fB5_2 : SIn (rP (rU .u8) rY) G_102 k_102 wB5_1 B5) (fB7_2 : SIn (rP (rU .u8) rY) G_104 k_104 wB7_1 B7) (h_begun : TrueS call 34) (h_split : C_split call) (h_rsplit : C_rsplit call) (h_utf8 : C_utf8 call) (h_rutf8 : C_rutf8 call) {o : LO (Bool × Nat) (Bool)} {n : Nat} {A4 : Bool} {A9 : Nat} (hN : 90000 < N) (hi : (fun (z : Nat × Bool × Nat) (h' : Hp) => lawsplits_l1 B5 B7 z.1 z.2.1 z.2.2 = some o ∧ Eng.Sep [Frz G_104 k_104, Frz G_102 k_102, Frz G h0] h') (n, A4, A9) h)
    : ∃ s, evC call N lawsplits_l1C (ovT [(4, (AV.bool A4)), (5, wB5_1), (7, wB7_1), (9, (AV.int .i64 (Int.ofNat A9)))] t) h = s ∧ obsS [4, 5, 7, 9] (fun ls h' => ∃ y, ls = ((fun (z : Nat × Bool × Nat) => [(4, (AV.bool z.2.1)), (5, wB5_1), (7, wB7_1), (9, (AV.int .i64 (Int.ofNat z.2.2)))]) y).map (fun p => some p.2) ∧ (fun (z : Nat × Bool × Nat) (h' : Hp) => lawsplits_l1 B5 B7 z.1 z.2.1 z.2.2 = some o ∧ Eng.Sep [Frz G_104 k_104, Frz G_102 k_102, Frz G h0] h') y h' ∧ (fun (z : Nat × Bool × Nat) => z.1) y < (fun (z : Nat × Bool × Nat) => z.1) (n, A4, A9)) (fun i ls h' => ∃ y, ls = ((fun (z : Nat × Bool × Nat) => [(4, (AV.bool z.2.1)), (5, wB5_1), (7, wB7_1), (9, (AV.int .i64 (Int.ofNat z.2.2)))]) y).map (fun p => some p.2) ∧ (fun (i : Nat) (z : Nat × Bool × Nat) (h' : Hp) => (i = 0) ∧ (i = 0 → o = LO.ex (z.2.1, z.2.2) ∧ Eng.Sep [Frz G_104 k_104, Frz G_102 k_102, Frz G h0] h')) i y h') (fun ls h' => (fun (ls : List (Option AV)) (h' : Hp) => ∃ (rt : Bool) (v4 : AV), o = LO.rt rt ∧ ls[0]? = some (some v4) ∧ (v4 = (AV.bool rt) ∧ Eng.Sep (Frz G h0 :: []) h')) ls h') s := by
  have hi : lawsplits_l1 B5 B7 n A4 A9 = some o ∧ Eng.Sep [Frz G_104 k_104, Frz G_102 k_102, Frz G h0] h := hi
  obtain ⟨hp, S⟩ := hi
  obtain ⟨m, hm⟩ : ∃ m, n = m + 1 := by
    cases n with
    | zero => cases hp
    | succ m => exact ⟨m, rfl⟩
  rw [hm] at hp
  unfold lawsplits_l1 at hp
  refine walk_ok (o := (.tell 2 (AV.int .i64 (Int.ofNat B7.length)) (.fork 0 (.exi 2 fun (w4 : AV) => (.tell 0 (elemP wB5_1 A9 2) (.tell 0 (elemO wB5_1 A9 2 0) (.tell 0 (AV.int .u8 (Int.ofNat ((B5.getD A9 default).1))) (.exi 2 fun (w8 : AV) => (.tell 0 (elemP wB7_1 A9 2) (.tell 0 (elemO wB7_1 A9 2 0) (.tell 0 (AV.int .u8 (Int.ofNat ((B7.getD A9 default).1))) (.fork 1 (.again 1 .fin) (.tell 2 (elemP wB5_1 A9 2) (.tell 0 (elemO wB5_1 A9 2 1) (.tell 0 w4 (.tell 0 (AV.str ((B5.getD A9 default).2)) (.tell 2 (elemP wB7_1 A9 2) (.tell 0 (elemO wB7_1 A9 2 1) (.tell 0 w8 (.tell 0 (AV.str ((B7.getD A9 default).2)) (.fork 1 (.again 0 .fin) (.again 0 (.tell 1 (AV.int .i64 (Int.ofNat (A9 + 1))) .fin)))))))))))))))))))) .fin))) (p := (fun (KN : List (Option AV) → Hp → Prop) (KE : Nat → List (Option AV) → Hp → Prop) (KR : List (Option AV) → Hp → Prop) => ((evQ (.lenL (.const wB7_1)) .lf H0 = .ok (AV.int .i64 (Int.ofNat B7.length)) ∧ ((ltI (Int.ofNat A9) (Int.ofNat B7.length) = true → (∃ w4 : AV, (evQ (.idxAddrSl 2 (.const wB5_1) (.const (AV.int .i64 (Int.ofNat A9)))) .lf H0 = .ok (elemP wB5_1 A9 2) ∧ ((evQ (.fieldAddr 0 (.const (elemP wB5_1 A9 2))) .lf H0 = .ok (elemO wB5_1 A9 2 0) ∧ ((evQ (.loadS (.const (elemO wB5_1 A9 2 0))) .lf h = .ok (AV.int .u8 (Int.ofNat ((B5.getD A9 default).1))) ∧ (∃ w8 : AV, (evQ (.idxAddrSl 2 (.const wB7_1) (.const (AV.int .i64 (Int.ofNat A9)))) .lf H0 = .ok (elemP wB7_1 A9 2) ∧ ((evQ (.fieldAddr 0 (.const (elemP wB7_1 A9 2))) .lf H0 = .ok (elemO wB7_1 A9 2 0) ∧ ((evQ (.loadS (.const (elemO wB7_1 A9 2 0))) .lf h = .ok (AV.int .u8 (Int.ofNat ((B7.getD A9 default).1))) ∧ ((notB (eqI (Int.ofNat ((B5.getD A9 default).1)) (Int.ofNat ((B7.getD A9 default).1))) = true → ((again (.pick (.const (AV.bool true)) (.const (AV.bool true)) (.const (AV.tuple []))) .lf (AV.bool true) h = true ∧ again (.move (.const (AV.bool (notB (eqI (Int.ofNat ((B5.getD A9 default).1)) (Int.ofNat ((B7.getD A9 default).1))))))) .lf (AV.bool true) h = true ∧ again (.eq .int true (.const (AV.int .u8 (Int.ofNat ((B5.getD A9 default).1)))) (.const (AV.int .u8 (Int.ofNat ((B7.getD A9 default).1))))) .lf (AV.bool (notB (eqI (Int.ofNat ((B5.getD A9 default).1)) (Int.ofNat ((B7.getD A9 default).1))))) h = true ∧ again (.loadS (.const (elemO wB7_1 A9 2 0))) .lf (AV.int .u8 (Int.ofNat ((B7.getD A9 default).1))) h = true ∧ again (.fieldAddr 0 (.const (elemP wB7_1 A9 2))) .lf (elemO wB7_1 A9 2 0) h = true ∧ again (.idxAddrSl 2 (.const wB7_1) (.const (AV.int .i64 (Int.ofNat A9)))) .lf (elemP wB7_1 A9 2) h = true ∧ again (.move (.const (AV.int .i64 (Int.ofNat A9)))) .lf (AV.int .i64 (Int.ofNat A9)) h = true ∧ again (.move (.const wB7_1)) .lf wB7_1 h = true ∧ again (.loadS (.const (elemO wB5_1 A9 2 0))) .lf (AV.int .u8 (Int.ofNat ((B5.getD A9 default).1))) h = true ∧ again (.fieldAddr 0 (.const (elemP wB5_1 A9 2))) .lf (elemO wB5_1 A9 2 0) h = true ∧ again (.idxAddrSl 2 (.const wB5_1) (.const (AV.int .i64 (Int.ofNat A9)))) .lf (elemP wB5_1 A9 2) h = true ∧ again (.move (.const (AV.int .i64 (Int.ofNat A9)))) .lf (AV.int .i64 (Int.ofNat A9)) h = true ∧ again (.move (.const wB5_1)) .lf wB5_1 h = true ∧ True) ∧ KR [some (AV.bool false), some wB5_1, some wB7_1, some (AV.int .i64 (Int.ofNat A9))] h)) ∧ (notB (eqI (Int.ofNat ((B5.getD A9 default).1)) (Int.ofNat ((B7.getD A9 default).1))) = false → ((evQ (.idxAddrSl 2 (.const wB5_1) (.const (AV.int .i64 (Int.ofNat A9)))) .lf H0 = .ok (elemP wB5_1 A9 2) ∧ ((evQ (.fieldAddr 1 (.const (elemP wB5_1 A9 2))) .lf H0 = .ok (elemO wB5_1 A9 2 1) ∧ ((evQ (.loadS (.const (elemO wB5_1 A9 2 1))) .lf h = .ok w4 ∧ ((evQ (.toStr (.const w4)) .lf h = .ok (AV.str ((B5.getD A9 default).2)) ∧ ((evQ (.idxAddrSl 2 (.const wB7_1) (.const (AV.int .i64 (Int.ofNat A9)))) .lf H0 = .ok (elemP wB7_1 A9 2) ∧ ((evQ (.fieldAddr 1 (.const (elemP wB7_1 A9 2))) .lf H0 = .ok (elemO wB7_1 A9 2 1) ∧ ((evQ (.loadS (.const (elemO wB7_1 A9 2 1))) .lf h = .ok w8 ∧ ((evQ (.toStr (.const w8)) .lf h = .ok (AV.str ((B7.getD A9 default).2)) ∧ ((notB (strEq ((B5.getD A9 default).2) ((B7.getD A9 default).2)) = true → ((again (.pick (.const (AV.bool false)) (.const (AV.bool true)) (.const (AV.bool (notB (strEq ((B5.getD A9 default).2) ((B7.getD A9 default).2)))))) .lf (AV.bool true) h = true ∧ again (.eq .str true (.const (AV.str ((B5.getD A9 default).2))) (.const (AV.str ((B7.getD A9 default).2)))) .lf (AV.bool (notB (strEq ((B5.getD A9 default).2) ((B7.getD A9 default).2)))) h = true ∧ again (.toStr (.const w8)) .lf (AV.str ((B7.getD A9 default).2)) h = true ∧ again (.loadS (.const (elemO wB7_1 A9 2 1))) .lf w8 h = true ∧ again (.fieldAddr 1 (.const (elemP wB7_1 A9 2))) .lf (elemO wB7_1 A9 2 1) h = true ∧ again (.idxAddrSl 2 (.const wB7_1) (.const (AV.int .i64 (Int.ofNat A9)))) .lf (elemP wB7_1 A9 2) h = true ∧ again (.move (.const (AV.int .i64 (Int.ofNat A9)))) .lf (AV.int .i64 (Int.ofNat A9)) h = true ∧ again (.move (.const wB7_1)) .lf wB7_1 h = true ∧ again (.toStr (.const w4)) .lf (AV.str ((B5.getD A9 default).2)) h = true ∧ again (.loadS (.const (elemO wB5_1 A9 2 1))) .lf w4 h = true ∧ again (.fieldAddr 1 (.const (elemP wB5_1 A9 2))) .lf (elemO wB5_1 A9 2 1) h = true ∧ again (.idxAddrSl 2 (.const wB5_1) (.const (AV.int .i64 (Int.ofNat A9)))) .lf (elemP wB5_1 A9 2) h = true ∧ again (.move (.const (AV.int .i64 (Int.ofNat A9)))) .lf (AV.int .i64 (Int.ofNat A9)) h = true ∧ again (.move (.const wB5_1)) .lf wB5_1 h = true ∧ again (.move (.const (AV.bool (notB (eqI (Int.ofNat ((B5.getD A9 default).1)) (Int.ofNat ((B7.getD A9 default).1))))))) .lf (AV.bool false) h = true ∧ again (.eq .int true (.const (AV.int .u8 (Int.ofNat ((B5.getD A9 default).1)))) (.const (AV.int .u8 (Int.ofNat ((B7.getD A9 default).1))))) .lf (AV.bool (notB (eqI (Int.ofNat ((B5.getD A9 default).1)) (Int.ofNat ((B7.getD A9 default).1))))) h = true ∧ again (.loadS (.const (elemO wB7_1 A9 2 0))) .lf (AV.int .u8 (Int.ofNat ((B7.getD A9 default).1))) h = true ∧ again (.fieldAddr 0 (.const (elemP wB7_1 A9 2))) .lf (elemO wB7_1 A9 2 0) h = true ∧ again (.idxAddrSl 2 (.const wB7_1) (.const (AV.int .i64 (Int.ofNat A9)))) .lf (elemP wB7_1 A9 2) h = true ∧ again (.move (.const (AV.int .i64 (Int.ofNat A9)))) .lf (AV.int .i64 (Int.ofNat A9)) h = true ∧ again (.move (.const wB7_1)) .lf wB7_1 h = true ∧ again (.loadS (.const (elemO wB5_1 A9 2 0))) .lf (AV.int .u8 (Int.ofNat ((B5.getD A9 default).1))) h = true ∧ again (.fieldAddr 0 (.const (elemP wB5_1 A9 2))) .lf (elemO wB5_1 A9 2 0) h = true ∧ again (.idxAddrSl 2 (.const wB5_1) (.const (AV.int .i64 (Int.ofNat A9)))) .lf (elemP wB5_1 A9 2) h = true ∧ again (.move (.const (AV.int .i64 (Int.ofNat A9)))) .lf (AV.int .i64 (Int.ofNat A9)) h = true ∧ again (.move (.const wB5_1)) .lf wB5_1 h = true ∧ True) ∧ KR [some (AV.bool false), some wB5_1, some wB7_1, some (AV.int .i64 (Int.ofNat A9))] h)) ∧ (notB (strEq ((B5.getD A9 default).2) ((B7.getD A9 default).2)) = false → ((again (.pick (.const (AV.bool false)) (.const (AV.bool true)) (.const (AV.bool (notB (strEq ((B5.getD A9 default).2) ((B7.getD A9 default).2)))))) .lf (AV.bool false) h = true ∧ again (.eq .str true (.const (AV.str ((B5.getD A9 default).2))) (.const (AV.str ((B7.getD A9 default).2)))) .lf (AV.bool (notB (strEq ((B5.getD A9 default).2) ((B7.getD A9 default).2)))) h = true ∧ again (.toStr (.const w8)) .lf (AV.str ((B7.getD A9 default).2)) h = true ∧ again (.loadS (.const (elemO wB7_1 A9 2 1))) .lf w8 h = true ∧ again (.fieldAddr 1 (.const (elemP wB7_1 A9 2))) .lf (elemO wB7_1 A9 2 1) h = true ∧ again (.idxAddrSl 2 (.const wB7_1) (.const (AV.int .i64 (Int.ofNat A9)))) .lf (elemP wB7_1 A9 2) h = true ∧ again (.move (.const (AV.int .i64 (Int.ofNat A9)))) .lf (AV.int .i64 (Int.ofNat A9)) h = true ∧ again (.move (.const wB7_1)) .lf wB7_1 h = true ∧ again (.toStr (.const w4)) .lf (AV.str ((B5.getD A9 default).2)) h = true ∧ again (.loadS (.const (elemO wB5_1 A9 2 1))) .lf w4 h = true ∧ again (.fieldAddr 1 (.const (elemP wB5_1 A9 2))) .lf (elemO wB5_1 A9 2 1) h = true ∧ again (.idxAddrSl 2 (.const wB5_1) (.const (AV.int .i64 (Int.ofNat A9)))) .lf (elemP wB5_1 A9 2) h = true ∧ again (.move (.const (AV.int .i64 (Int.ofNat A9)))) .lf (AV.int .i64 (Int.ofNat A9)) h = true ∧ again (.move (.const wB5_1)) .lf wB5_1 h = true ∧ again (.move (.const (AV.bool (notB (eqI (Int.ofNat ((B5.getD A9 default).1)) (Int.ofNat ((B7.getD A9 default).1))))))) .lf (AV.bool false) h = true ∧ again (.eq .int true (.const (AV.int .u8 (Int.ofNat ((B5.getD A9 default).1)))) (.const (AV.int .u8 (Int.ofNat ((B7.getD A9 default).1))))) .lf (AV.bool (notB (eqI (Int.ofNat ((B5.getD A9 default).1)) (Int.ofNat ((B7.getD A9 default).1))))) h = true ∧ again (.loadS (.const (elemO wB7_1 A9 2 0))) .lf (AV.int .u8 (Int.ofNat ((B7.getD A9 default).1))) h = true ∧ again (.fieldAddr 0 (.const (elemP wB7_1 A9 2))) .lf (elemO wB7_1 A9 2 0) h = true ∧ again (.idxAddrSl 2 (.const wB7_1) (.const (AV.int .i64 (Int.ofNat A9)))) .lf (elemP wB7_1 A9 2) h = true ∧ again (.move (.const (AV.int .i64 (Int.ofNat A9)))) .lf (AV.int .i64 (Int.ofNat A9)) h = true ∧ again (.move (.const wB7_1)) .lf wB7_1 h = true ∧ again (.loadS (.const (elemO wB5_1 A9 2 0))) .lf (AV.int .u8 (Int.ofNat ((B5.getD A9 default).1))) h = true ∧ again (.fieldAddr 0 (.const (elemP wB5_1 A9 2))) .lf (elemO wB5_1 A9 2 0) h = true ∧ again (.idxAddrSl 2 (.const wB5_1) (.const (AV.int .i64 (Int.ofNat A9)))) .lf (elemP wB5_1 A9 2) h = true ∧ again (.move (.const (AV.int .i64 (Int.ofNat A9)))) .lf (AV.int .i64 (Int.ofNat A9)) h = true ∧ again (.move (.const wB5_1)) .lf wB5_1 h = true ∧ True) ∧ ((evQ (.bin .add (.const (AV.int .i64 (Int.ofNat A9))) (.const (AV.int .i64 (Int.ofNat 1)))) .lf H0 = .ok (AV.int .i64 (Int.ofNat (A9 + 1))) ∧ KN [some (AV.bool A4), some wB5_1, some wB7_1, some (AV.int .i64 (Int.ofNat (A9 + 1)))] h)))))))))))))))))))))))))))))))))))) ∧ (ltI (Int.ofNat A9) (Int.ofNat B7.length) = false → KE 0 [some (AV.bool A4), some wB5_1, some wB7_1, some (AV.int .i64 (Int.ofNat A9))] h))))) (fun ls h' => ∃ y, ls = ((fun (z : Nat × Bool × Nat) => [(4, (AV.bool z.2.1)), (5, wB5_1), (7, wB7_1), (9, (AV.int .i64 (Int.ofNat z.2.2)))]) y).map (fun p => some p.2) ∧ (fun (z : Nat × Bool × Nat) (h' : Hp) => lawsplits_l1 B5 B7 z.1 z.2.1 z.2.2 = some o ∧ Eng.Sep [Frz G_104 k_104, Frz G_102 k_102, Frz G h0] h') y h' ∧ (fun (z : Nat × Bool × Nat) => z.1) y < (fun (z : Nat × Bool × Nat) => z.1) (n, A4, A9)) (fun i ls h' => ∃ y, ls = ((fun (z : Nat × Bool × Nat) => [(4, (AV.bool z.2.1)), (5, wB5_1), (7, wB7_1), (9, (AV.int .i64 (Int.ofNat z.2.2)))]) y).map (fun p => some p.2) ∧ (fun (i : Nat) (z : Nat × Bool × Nat) (h' : Hp) => (i = 0) ∧ (i = 0 → o = LO.ex (z.2.1, z.2.2) ∧ Eng.Sep [Frz G_104 k_104, Frz G_102 k_102, Frz G h0] h')) i y h') (fun ls h' => (fun (ls : List (Option AV)) (h' : Hp) => ∃ (rt : Bool) (v4 : AV), o = LO.rt rt ∧ ls[0]? = some (some v4) ∧ (v4 = (AV.bool rt) ∧ Eng.Sep (Frz G h0 :: []) h')) ls h')) (by kernel_rfl) ?_
  refine ⟨sin_len fB7_2, ?_⟩
  refine ⟨fun c1 => ?_, fun c1 => ?_⟩
  · replace c1 := ltI_t c1
    replace hp := ift hp c1
    have ⟨g2, hp⟩ := gd_inv hp
    obtain ⟨csR6, hcR6, R6⟩ := sin_row fB5_2 g2
    obtain ⟨_, _, rfl, ⟨rfl, f3⟩, ⟨w4, rfl, f5⟩⟩ := hcR6
    refine ⟨w4, sin_idx fB5_2 g2, ?_⟩
    refine ⟨row_addr R6, ?_⟩
    refine ⟨row_loadO S (i := 1) rfl R6 rfl, ?_⟩
    obtain ⟨csR10, hcR10, R10⟩ := sin_row fB7_2 c1
    obtain ⟨_, _, rfl, ⟨rfl, f7⟩, ⟨w8, rfl, f9⟩⟩ := hcR10
    refine ⟨w8, sin_idx fB7_2 c1, ?_⟩
    refine ⟨row_addr R10, ?_⟩
    refine ⟨row_loadO S (i := 0) rfl R10 rfl, ?_⟩
    refine ⟨fun c11 => ?_, fun c11 => ?_⟩
    · have rc11 := c11
      replace c11 := eqI_f (notB_t c11)
      replace hp := ift hp c11
      refine ⟨⟨again_of (rfl) (avEq_bool _), again_of (congrArg (fun b => OV.ok (AV.bool b)) rc11) (avEq_bool _), again_of (rfl) (avEq_bool _), again_of (row_loadO S (i := 0) rfl R10 rfl) (avEq_int _ _), again_of (row_addr R10) (elemO_same _ _ _ _), again_of (sin_idx fB7_2 c1) (elemP_same _ _ _), again_of (rfl) (avEq_int _ _), again_of (rfl) (SIn.same fB7_2), again_of (row_loadO S (i := 1) rfl R6 rfl) (avEq_int _ _), again_of (row_addr R6) (elemO_same _ _ _ _), again_of (sin_idx fB5_2 g2) (elemP_same _ _ _), again_of (rfl) (avEq_int _ _), again_of (rfl) (SIn.same fB5_2), trivial⟩, ?_⟩
      have S12 : Sep [Frz G h0] h := S.sel [2] (by decide) rfl
      refine ⟨_, (AV.bool false), (Option.some.inj hp).symm, rfl, ?_⟩
      exact ⟨rfl, S12⟩
    have rc11 := c11
    replace c11 := eqI_t (notB_f c11)
    replace hp := iff0 hp (nneO c11)
    refine ⟨sin_idx fB5_2 g2, ?_⟩
    refine ⟨row_addr R6, ?_⟩
    refine ⟨row_loadO S (i := 1) rfl R6 rfl, ?_⟩
    refine ⟨q_toStr (BIn.now S (i := 1) rfl f5), ?_⟩
    refine ⟨sin_idx fB7_2 c1, ?_⟩
    refine ⟨row_addr R10, ?_⟩
    refine ⟨row_loadO S (i := 0) rfl R10 rfl, ?_⟩
    refine ⟨q_toStr (BIn.now S (i := 0) rfl f9), ?_⟩
    refine ⟨fun c12 => ?_, fun c12 => ?_⟩
    · have rc12 := c12
      replace c12 := strEq_f (notB_t c12)
      replace hp := ift hp c12
      refine ⟨⟨again_of (congrArg (fun b => OV.ok (AV.bool b)) rc12) (avEq_bool _), again_of (rfl) (avEq_bool _), again_of (q_toStr (BIn.now S (i := 0) rfl f9)) (avEq_str _), again_of (row_loadO S (i := 0) rfl R10 rfl) (BIn.same f9), again_of (row_addr R10) (elemO_same _ _ _ _), again_of (sin_idx fB7_2 c1) (elemP_same _ _ _), again_of (rfl) (avEq_int _ _), again_of (rfl) (SIn.same fB7_2), again_of (q_toStr (BIn.now S (i := 1) rfl f5)) (avEq_str _), again_of (row_loadO S (i := 1) rfl R6 rfl) (BIn.same f5), again_of (row_addr R6) (elemO_same _ _ _ _), again_of (sin_idx fB5_2 g2) (elemP_same _ _ _), again_of (rfl) (avEq_int _ _), again_of (rfl) (SIn.same fB5_2), again_of (congrArg (fun b => OV.ok (AV.bool b)) rc11) (avEq_bool _), again_of (rfl) (avEq_bool _), again_of (row_loadO S (i := 0) rfl R10 rfl) (avEq_int _ _), again_of (row_addr R10) (elemO_same _ _ _ _), again_of (sin_idx fB7_2 c1) (elemP_same _ _ _), again_of (rfl) (avEq_int _ _), again_of (rfl) (SIn.same fB7_2), again_of (row_loadO S (i := 1) rfl R6 rfl) (avEq_int _ _), again_of (row_addr R6) (elemO_same _ _ _ _), again_of (sin_idx fB5_2 g2) (elemP_same _ _ _), again_of (rfl) (avEq_int _ _), again_of (rfl) (SIn.same fB5_2), trivial⟩, ?_⟩
      have S13 : Sep [Frz G h0] h := S.sel [2] (by decide) rfl
      refine ⟨_, (AV.bool false), (Option.some.inj hp).symm, rfl, ?_⟩
      exact ⟨rfl, S13⟩
    have rc12 := c12
    replace c12 := strEq_t (notB_f c12)
    replace hp := iff0 hp (nneO c12)
    refine ⟨⟨again_of (congrArg (fun b => OV.ok (AV.bool b)) rc12) (avEq_bool _), again_of (rfl) (avEq_bool _), again_of (q_toStr (BIn.now S (i := 0) rfl f9)) (avEq_str _), again_of (row_loadO S (i := 0) rfl R10 rfl) (BIn.same f9), again_of (row_addr R10) (elemO_same _ _ _ _), again_of (sin_idx fB7_2 c1) (elemP_same _ _ _), again_of (rfl) (avEq_int _ _), again_of (rfl) (SIn.same fB7_2), again_of (q_toStr (BIn.now S (i := 1) rfl f5)) (avEq_str _), again_of (row_loadO S (i := 1) rfl R6 rfl) (BIn.same f5), again_of (row_addr R6) (elemO_same _ _ _ _), again_of (sin_idx fB5_2 g2) (elemP_same _ _ _), again_of (rfl) (avEq_int _ _), again_of (rfl) (SIn.same fB5_2), again_of (congrArg (fun b => OV.ok (AV.bool b)) rc11) (avEq_bool _), again_of (rfl) (avEq_bool _), again_of (row_loadO S (i := 0) rfl R10 rfl) (avEq_int _ _), again_of (row_addr R10) (elemO_same _ _ _ _), again_of (sin_idx fB7_2 c1) (elemP_same _ _ _), again_of (rfl) (avEq_int _ _), again_of (rfl) (SIn.same fB7_2), again_of (row_loadO S (i := 1) rfl R6 rfl) (avEq_int _ _), again_of (row_addr R6) (elemO_same _ _ _ _), again_of (sin_idx fB5_2 g2) (elemP_same _ _ _), again_of (rfl) (avEq_int _ _), again_of (rfl) (SIn.same fB5_2), trivial⟩, ?_⟩
    have ⟨g13, hp⟩ := gd_inv hp
    refine ⟨q_add g13, ?_⟩
    refine ⟨(m, A4, A9 + 1), rfl, ⟨hp, S⟩, by show m < n; omega⟩
  replace c1 := ltI_f c1
  replace hp := iff0 hp (nltO c1)
  refine ⟨(m, A4, A9), rfl, rfl, fun _ => ⟨(Option.some.inj hp).symm, S⟩⟩
theorem lawsplits_l1_t {call : CallT} {N : Nat} {wB5_1 : AV} {wB7_1 : AV} {G_104 : Nat → Prop} {k_104 : Hp} {G_102 : Nat → Prop} {k_102 : Hp} {G : Nat → Prop} {h0 : Hp} {B5 : List (Nat × List Nat)} {B7 : List (Nat × List Nat)} (fB5_2 : SIn (rP (rU .u8) rY) G_102 k_102 wB5_1 B5) (fB7_2 : SIn (rP (rU .u8) rY) G_104 k_104 wB7_1 B7) (h_begun : TrueS call 34) (h_split : C_split call) (h_rsplit : C_rsplit call) (h_utf8 : C_utf8 call) (h_rutf8 : C_rutf8 call) {o : LO (Bool × Nat) (Bool)} {n : Nat} {A4 : Bool} {A9 : Nat} {h : Hp} (hi : (fun (z : Nat × Bool × Nat) (h' : Hp) => lawsplits_l1 B5 B7 z.1 z.2.1 z.2.2 = some o ∧ Eng.Sep [Frz G_104 k_104, Frz G_102 k_102, Frz G h0] h') (n, A4, A9) h) (hN : n < N) (hN' : 90000 < N) {t : T} (ht : Has ((fun (z : Nat × Bool × Nat) => [(4, (AV.bool z.2.1)), (5, wB5_1), (7, wB7_1), (9, (AV.int .i64 (Int.ofNat z.2.2)))]) (n, A4, A9)) t) :
    (∃ i y t' h', evC call N (.loop lawsplits_l1C) t h = .exit i t' h' ∧ Has ((fun (z : Nat × Bool × Nat) => [(4, (AV.bool z.2.1)), (5, wB5_1), (7, wB7_1), (9, (AV.int .i64 (Int.ofNat z.2.2)))]) y) t' ∧ (fun (i : Nat) (z : Nat × Bool × Nat) (h' : Hp) => (i = 0) ∧ (i = 0 → o = LO.ex (z.2.1, z.2.2) ∧ Eng.Sep [Frz G_104 k_104, Frz G_102 k_102, Frz G h0] h')) i y h') ∨ (∃ t' h', evC call N (.loop lawsplits_l1C) t h = .ret t' h' ∧ (fun (ls : List (Option AV)) (h' : Hp) => ∃ (rt : Bool) (v4 : AV), o = LO.rt rt ∧ ls[0]? = some (some v4) ∧ (v4 = (AV.bool rt) ∧ Eng.Sep (Frz G h0 :: []) h')) (slots [4, 5, 7, 9] t') h') :=
  loop_st (fun (z : Nat × Bool × Nat) => [(4, (AV.bool z.2.1)), (5, wB5_1), (7, wB7_1), (9, (AV.int .i64 (Int.ofNat z.2.2)))]) [4, 5, 7, 9] (fun _ => rfl) (fun (z : Nat × Bool × Nat) (h' : Hp) => lawsplits_l1 B5 B7 z.1 z.2.1 z.2.2 = some o ∧ Eng.Sep [Frz G_104 k_104, Frz G_102 k_102, Frz G h0] h') (fun (z : Nat × Bool × Nat) => z.1) (fun (i : Nat) (z : Nat × Bool × Nat) (h' : Hp) => (i = 0) ∧ (i = 0 → o = LO.ex (z.2.1, z.2.2) ∧ Eng.Sep [Frz G_104 k_104, Frz G_102 k_102, Frz G h0] h')) (fun (ls : List (Option AV)) (h' : Hp) => ∃ (rt : Bool) (v4 : AV), o = LO.rt rt ∧ ls[0]? = some (some v4) ∧ (v4 = (AV.bool rt) ∧ Eng.Sep (Frz G h0 :: []) h')) (fun ⟨n, A4, A9⟩ t h hi => lawsplits_l1_body fB5_2 fB7_2 h_begun h_split h_rsplit h_utf8 h_rutf8 hN' hi) (n, A4, A9) h hi hN t ht
def lawsplits_p (b : List Nat) (s : List Nat) : Option (Bool) :=
  (if 300 < b.length then (some true) else
    (if 60 < s.length then (some true) else
    (ob (split_p b) fun x3 =>
    (ob (rsplit_p b) fun x16 =>
    (if x3.2 ≠ x16.2 then (some false) else
    (if x3.1.length ≠ x16.1.length then (some false) else
    (ob (utf8_p s) fun x31 =>
    (ob (rutf8_p s) fun x41 =>
    (if x31 ≠ x41 then (some false) else
    (ob (lawsplits_l1 x3.1 x16.1 90000 false 0) fun o58 =>
    (LO.on o58 (fun s_o58 => (some true)) (fun y65 =>
    (some y65)))))))))))))
theorem lawsplits_w {call : CallT} {N : Nat} {h : Hp} {wb_1 : AV} {ws_1 : AV} {b : List Nat} {s : List Nat} (fb_2 : BIn (Low h) h wb_1 b) (fs_2 : BIn (Low h) h ws_1 s) (h_begun : TrueS call 34) (h_split : C_split call) (h_rsplit : C_rsplit call) (h_utf8 : C_utf8 call) (h_rutf8 : C_rutf8 call) (hN : 90000 < N) {r : Bool} (hp : lawsplits_p b s = some r) :
    ∃ rv rh, evF1 (progS Try.prog (compDrawn Try.prog)) N call 8 [wb_1, ws_1] h = .ok rv rh ∧ (fun (rv : AV) (rh : Hp) => rv = (AV.bool r) ∧ Eng.Sep (Frz (Low h) h :: []) rh) rv rh := by
  have S : Eng.Sep [Frz (Low h) h] h := Sep.start h
  unfold lawsplits_p at hp
  refine fwalk_ok (K := (fun (rv : AV) (rh : Hp) => rv = (AV.bool r) ∧ Eng.Sep (Frz (Low h) h :: []) rh)) (o := (.eff 1 (AV.bool true) h (.tell 2 (AV.int .i64 (Int.ofNat b.length)) (.fork 1 .fin (.tell 1 (AV.int .i64 (Int.ofNat s.length)) (.fork 1 .fin (.exi 1 fun (x3 : List (Nat × List Nat) × Nat) => (.exi 0 fun (w7 : AV) => (.exi 0 fun (h11 : Hp) => (.eff 0 (AV.tuple [w7, (AV.int .i64 (Int.ofNat x3.2))]) h11 (.exi 6 fun (x16 : List (Nat × List Nat) × Nat) => (.exi 0 fun (w20 : AV) => (.exi 0 fun (h24 : Hp) => (.eff 0 (AV.tuple [w20, (AV.int .i64 (Int.ofNat x16.2))]) h24 (.fork 8 .fin (.tell 1 (AV.int .i64 (Int.ofNat x3.1.length)) (.tell 1 (AV.int .i64 (Int.ofNat x16.1.length)) (.fork 2 .fin (.exi 1 fun (x31 : Bool) => (.exi 0 fun (h36 : Hp) => (.eff 0 (AV.bool x31) h36 (.exi 1 fun (x41 : Bool) => (.exi 0 fun (h46 : Hp) => (.eff 0 (AV.bool x41) h46 (.fork 1 .fin (.dis 1 (.exi 0 fun (A4o58 : Bool) => (.exi 0 fun (A9o58 : Nat) => (.exi 0 fun (t61 : T) => (.exi 0 fun (h62 : Hp) => (.lp 0 (.exit 0 (ovT [(4, (AV.bool A4o58)), (5, w7), (7, w20), (9, (AV.int .i64 (Int.ofNat A9o58)))] t61) h62) .fin))))) (.exi 0 fun (y65 : Bool) => (.exi 0 fun (v4o58 : AV) => (.exi 0 fun (t63 : T) => (.exi 0 fun (h64 : Hp) => (.lp 0 (.ret (ovT [(4, v4o58)] t63) h64) .fin))))))))))))))))))))))))))))))) (p := (fun (KK : AV → Hp → Prop) => (call 34 [] h = .ok (AV.bool true) h ∧ ((evQ (.lenL (.const wb_1)) .lf H0 = .ok (AV.int .i64 (Int.ofNat b.length)) ∧ ((ltI (Int.ofNat 300) (Int.ofNat b.length) = true → KK (AV.bool true) h) ∧ (ltI (Int.ofNat 300) (Int.ofNat b.length) = false → ((evQ (.lenL (.const ws_1)) .lf H0 = .ok (AV.int .i64 (Int.ofNat s.length)) ∧ ((ltI (Int.ofNat 60) (Int.ofNat s.length) = true → KK (AV.bool true) h) ∧ (ltI (Int.ofNat 60) (Int.ofNat s.length) = false → (∃ x3 : List (Nat × List Nat) × Nat, ∃ w7 : AV, ∃ h11 : Hp, (call 35 [wb_1] h = .ok (AV.tuple [w7, (AV.int .i64 (Int.ofNat x3.2))]) h11 ∧ (∃ x16 : List (Nat × List Nat) × Nat, ∃ w20 : AV, ∃ h24 : Hp, (call 36 [wb_1] h11 = .ok (AV.tuple [w20, (AV.int .i64 (Int.ofNat x16.2))]) h24 ∧ ((notB (eqI (Int.ofNat x3.2) (Int.ofNat x16.2)) = true → KK (AV.bool false) h24) ∧ (notB (eqI (Int.ofNat x3.2) (Int.ofNat x16.2)) = false → ((evQ (.lenL (.const w7)) .lf H0 = .ok (AV.int .i64 (Int.ofNat x3.1.length)) ∧ ((evQ (.lenL (.const w20)) .lf H0 = .ok (AV.int .i64 (Int.ofNat x16.1.length)) ∧ ((notB (eqI (Int.ofNat x3.1.length) (Int.ofNat x16.1.length)) = true → KK (AV.bool false) h24) ∧ (notB (eqI (Int.ofNat x3.1.length) (Int.ofNat x16.1.length)) = false → (∃ x31 : Bool, ∃ h36 : Hp, (call 37 [ws_1] h24 = .ok (AV.bool x31) h36 ∧ (∃ x41 : Bool, ∃ h46 : Hp, (call 38 [ws_1] h36 = .ok (AV.bool x41) h46 ∧ ((notB (bc x31 x41 (notB x41)) = true → KK (AV.bool false) h46) ∧ (notB (bc x31 x41 (notB x41)) = false → ((∃ A4o58 : Bool, ∃ A9o58 : Nat, ∃ t61 : T, ∃ h62 : Hp, (evC call N (.loop lawsplits_l1C) (ovT [(0, wb_1), (1, ws_1), (4, (AV.bool false)), (5, w7), (6, (AV.int .i64 (Int.ofNat x3.2))), (7, w20), (8, (AV.int .i64 (Int.ofNat x16.2))), (9, (AV.int .i64 (Int.ofNat 0))), (10, (AV.bool true)), (11, (AV.bool false)), (12, wb_1), (13, (AV.int .i64 (Int.ofNat b.length))), (14, (AV.bool (ltI (Int.ofNat 300) (Int.ofNat b.length)))), (15, (AV.bool false)), (16, ws_1), (17, (AV.int .i64 (Int.ofNat s.length))), (18, (AV.bool (ltI (Int.ofNat 60) (Int.ofNat s.length)))), (19, (AV.bool false)), (20, (AV.tuple [w7, (AV.int .i64 (Int.ofNat x3.2))])), (21, wb_1), (22, (AV.tuple [w7, (AV.int .i64 (Int.ofNat x3.2))])), (23, w7), (24, (AV.int .i64 (Int.ofNat x3.2))), (25, (AV.tuple [w20, (AV.int .i64 (Int.ofNat x16.2))])), (26, wb_1), (27, (AV.tuple [w20, (AV.int .i64 (Int.ofNat x16.2))])), (28, w20), (29, (AV.int .i64 (Int.ofNat x16.2))), (30, (AV.int .i64 (Int.ofNat x3.2))), (31, (AV.int .i64 (Int.ofNat x16.2))), (32, (AV.bool (notB (eqI (Int.ofNat x3.2) (Int.ofNat x16.2))))), (33, (AV.bool false)), (34, w7), (35, (AV.int .i64 (Int.ofNat x3.1.length))), (36, w20), (37, (AV.int .i64 (Int.ofNat x16.1.length))), (38, (AV.bool (notB (eqI (Int.ofNat x3.1.length) (Int.ofNat x16.1.length))))), (39, (AV.bool (notB (eqI (Int.ofNat x3.1.length) (Int.ofNat x16.1.length))))), (40, (AV.bool false)), (41, ws_1), (42, (AV.bool x31)), (43, ws_1), (44, (AV.bool x41)), (45, (AV.bool (notB (bc x31 x41 (notB x41))))), (46, (AV.bool false))] .lf) h46 = (.exit 0 (ovT [(4, (AV.bool A4o58)), (5, w7), (7, w20), (9, (AV.int .i64 (Int.ofNat A9o58)))] t61) h62) ∧ True ∧ KK (AV.bool true) h62)) ∨ (∃ y65 : Bool, ∃ v4o58 : AV, ∃ t63 : T, ∃ h64 : Hp, (evC call N (.loop lawsplits_l1C) (ovT [(0, wb_1), (1, ws_1), (4, (AV.bool false)), (5, w7), (6, (AV.int .i64 (Int.ofNat x3.2))), (7, w20), (8, (AV.int .i64 (Int.ofNat x16.2))), (9, (AV.int .i64 (Int.ofNat 0))), (10, (AV.bool true)), (11, (AV.bool false)), (12, wb_1), (13, (AV.int .i64 (Int.ofNat b.length))), (14, (AV.bool (ltI (Int.ofNat 300) (Int.ofNat b.length)))), (15, (AV.bool false)), (16, ws_1), (17, (AV.int .i64 (Int.ofNat s.length))), (18, (AV.bool (ltI (Int.ofNat 60) (Int.ofNat s.length)))), (19, (AV.bool false)), (20, (AV.tuple [w7, (AV.int .i64 (Int.ofNat x3.2))])), (21, wb_1), (22, (AV.tuple [w7, (AV.int .i64 (Int.ofNat x3.2))])), (23, w7), (24, (AV.int .i64 (Int.ofNat x3.2))), (25, (AV.tuple [w20, (AV.int .i64 (Int.ofNat x16.2))])), (26, wb_1), (27, (AV.tuple [w20, (AV.int .i64 (Int.ofNat x16.2))])), (28, w20), (29, (AV.int .i64 (Int.ofNat x16.2))), (30, (AV.int .i64 (Int.ofNat x3.2))), (31, (AV.int .i64 (Int.ofNat x16.2))), (32, (AV.bool (notB (eqI (Int.ofNat x3.2) (Int.ofNat x16.2))))), (33, (AV.bool false)), (34, w7), (35, (AV.int .i64 (Int.ofNat x3.1.length))), (36, w20), (37, (AV.int .i64 (Int.ofNat x16.1.length))), (38, (AV.bool (notB (eqI (Int.ofNat x3.1.length) (Int.ofNat x16.1.length))))), (39, (AV.bool (notB (eqI (Int.ofNat x3.1.length) (Int.ofNat x16.1.length))))), (40, (AV.bool false)), (41, ws_1), (42, (AV.bool x31)), (43, ws_1), (44, (AV.bool x41)), (45, (AV.bool (notB (bc x31 x41 (notB x41))))), (46, (AV.bool false))] .lf) h46 = (.ret (ovT [(4, v4o58)] t63) h64) ∧ True ∧ KK v4o58 h64))))))))))))))))))))))))))))))) (fun (rv : AV) (rh : Hp) => rv = (AV.bool r) ∧ Eng.Sep (Frz (Low h) h :: []) rh)) (by kernel_rfl) ?_
  refine ⟨h_begun _, ?_⟩
  refine ⟨q_len (BIn.now S (i := 0) rfl fb_2), ?_⟩
  refine ⟨fun c1 => ?_, fun c1 => ?_⟩
  · replace c1 := ltI_t c1
    replace hp := ift hp c1
    obtain rfl := Option.some.inj hp
    exact ⟨rfl, S⟩
  replace c1 := ltI_f c1
  replace hp := iff0 hp (nltO c1)
  refine ⟨q_len (BIn.now S (i := 0) rfl fs_2), ?_⟩
  refine ⟨fun c2 => ?_, fun c2 => ?_⟩
  · replace c2 := ltI_t c2
    replace hp := ift hp c2
    obtain rfl := Option.some.inj hp
    exact ⟨rfl, S⟩
  replace c2 := ltI_f c2
  replace hp := iff0 hp (nltO c2)
  have ⟨x3, hb4, hp⟩ := ob_inv hp
  obtain ⟨v10, h11, q12, w7, L9, G5, k6, e13, f8, S14⟩ := h_split (BIn.up (Sep.low S (i := 0) rfl) fb_2) hb4
  replace e13 := e13.symm
  subst e13
  have S15 : Sep [OwnO 2 w7 x3.1.length L9, Frz G5 k6, Frz (Low h) h] h11 := Sep.call S (news := [OwnO 2 w7 x3.1.length L9, Frz G5 k6]) S14
  refine ⟨x3, w7, h11, q12, ?_⟩
  have ⟨x16, hb17, hp⟩ := ob_inv hp
  obtain ⟨v23, h24, q25, w20, L22, G18, k19, e26, f21, S27⟩ := h_rsplit (BIn.up (Sep.low S15 (i := 2) rfl) fb_2) hb17
  replace e26 := e26.symm
  subst e26
  have S28 : Sep [OwnO 2 w20 x16.1.length L22, Frz G18 k19, OwnO 2 w7 x3.1.length L9, Frz G5 k6, Frz (Low h) h] h24 := Sep.call S15 (news := [OwnO 2 w20 x16.1.length L22, Frz G18 k19]) S27
  refine ⟨x16, w20, h24, q25, ?_⟩
  refine ⟨fun c29 => ?_, fun c29 => ?_⟩
  · replace c29 := eqI_f (notB_t c29)
    replace hp := ift hp c29
    have S30 : Sep [Frz (Low h) h] h24 := S28.sel [4] (by decide) rfl
    obtain rfl := Option.some.inj hp
    exact ⟨rfl, S30⟩
  replace c29 := eqI_t (notB_f c29)
  replace hp := iff0 hp (nneO c29)
  refine ⟨own_len S28 (i := 2) rfl, ?_⟩
  refine ⟨own_len S28 (i := 0) rfl, ?_⟩
  refine ⟨fun c30 => ?_, fun c30 => ?_⟩
  · replace c30 := eqI_f (notB_t c30)
    replace hp := ift hp c30
    have S31 : Sep [Frz (Low h) h] h24 := S28.sel [4] (by decide) rfl
    obtain rfl := Option.some.inj hp
    exact ⟨rfl, S31⟩
  replace c30 := eqI_t (notB_f c30)
  replace hp := iff0 hp (nneO c30)
  have ⟨x31, hb32, hp⟩ := ob_inv hp
  obtain ⟨v35, h36, q37, e38, S39⟩ := h_utf8 (BIn.up (Sep.low S28 (i := 4) rfl) fs_2) hb32
  replace e38 := e38.symm
  subst e38
  have S40 : Sep [OwnO 2 w20 x16.1.length L22, Frz G18 k19, OwnO 2 w7 x3.1.length L9, Frz G5 k6, Frz (Low h) h] h36 := Sep.call S28 (news := []) S39
  refine ⟨x31, h36, q37, ?_⟩
  have ⟨x41, hb42, hp⟩ := ob_inv hp
  obtain ⟨v45, h46, q47, e48, S49⟩ := h_rutf8 (BIn.up (Sep.low S40 (i := 4) rfl) fs_2) hb42
  replace e48 := e48.symm
  subst e48
  have S50 : Sep [OwnO 2 w20 x16.1.length L22, Frz G18 k19, OwnO 2 w7 x3.1.length L9, Frz G5 k6, Frz (Low h) h] h46 := Sep.call S40 (news := []) S49
  refine ⟨x41, h46, q47, ?_⟩
  refine ⟨fun c51 => ?_, fun c51 => ?_⟩
  · replace c51 := eqB_f (notB_t c51)
    replace hp := ift hp c51
    have S52 : Sep [Frz (Low h) h] h46 := S50.sel [4] (by decide) rfl
    obtain rfl := Option.some.inj hp
    exact ⟨rfl, S52⟩
  replace c51 := eqB_t (notB_f c51)
  replace hp := iff0 hp (nneO c51)
  have S52 : Sep [OwnO 2 w7 x3.1.length L9, Frz G5 k6, OwnO 2 w20 x16.1.length L22, Frz G18 k19, Frz (Low h) h] h46 := S50.sel [2, 3, 0, 1, 4] (by decide) rfl
  obtain ⟨G53, pG53, uG53, sG53⟩ := own_freezeR (a := (rP (rU .u8) rY)) S52 f8 rfl
  have S54 : Sep [Frz G53 h46, OwnO 2 w20 x16.1.length L22, Frz G18 k19, Frz (Low h) h] h46 := sG53
  have S55 : Sep [OwnO 2 w20 x16.1.length L22, Frz G18 k19, Frz G53 h46, Frz (Low h) h] h46 := S54.sel [1, 2, 0, 3] (by decide) rfl
  obtain ⟨G56, pG56, uG56, sG56⟩ := own_freezeR (a := (rP (rU .u8) rY)) S55 f21 rfl
  have S57 : Sep [Frz G56 h46, Frz G53 h46, Frz (Low h) h] h46 := sG56
  have ⟨o58, hb59, hp⟩ := ob_inv hp
  rcases lawsplits_l1_t pG53 pG56 h_begun h_split h_rsplit h_utf8 h_rutf8 (o := o58) (B5 := x3.1) (B7 := x16.1) (n := 90000) (A4 := false) (A9 := 0) ⟨hb59, S57⟩ hN hN (t := (ovT [(0, wb_1), (1, ws_1), (4, (AV.bool false)), (5, w7), (6, (AV.int .i64 (Int.ofNat x3.2))), (7, w20), (8, (AV.int .i64 (Int.ofNat x16.2))), (9, (AV.int .i64 (Int.ofNat 0))), (10, (AV.bool true)), (11, (AV.bool false)), (12, wb_1), (13, (AV.int .i64 (Int.ofNat b.length))), (14, (AV.bool (ltI (Int.ofNat 300) (Int.ofNat b.length)))), (15, (AV.bool false)), (16, ws_1), (17, (AV.int .i64 (Int.ofNat s.length))), (18, (AV.bool (ltI (Int.ofNat 60) (Int.ofNat s.length)))), (19, (AV.bool false)), (20, (AV.tuple [w7, (AV.int .i64 (Int.ofNat x3.2))])), (21, wb_1), (22, (AV.tuple [w7, (AV.int .i64 (Int.ofNat x3.2))])), (23, w7), (24, (AV.int .i64 (Int.ofNat x3.2))), (25, (AV.tuple [w20, (AV.int .i64 (Int.ofNat x16.2))])), (26, wb_1), (27, (AV.tuple [w20, (AV.int .i64 (Int.ofNat x16.2))])), (28, w20), (29, (AV.int .i64 (Int.ofNat x16.2))), (30, (AV.int .i64 (Int.ofNat x3.2))), (31, (AV.int .i64 (Int.ofNat x16.2))), (32, (AV.bool (notB (eqI (Int.ofNat x3.2) (Int.ofNat x16.2))))), (33, (AV.bool false)), (34, w7), (35, (AV.int .i64 (Int.ofNat x3.1.length))), (36, w20), (37, (AV.int .i64 (Int.ofNat x16.1.length))), (38, (AV.bool (notB (eqI (Int.ofNat x3.1.length) (Int.ofNat x16.1.length))))), (39, (AV.bool (notB (eqI (Int.ofNat x3.1.length) (Int.ofNat x16.1.length))))), (40, (AV.bool false)), (41, ws_1), (42, (AV.bool x31)), (43, ws_1), (44, (AV.bool x41)), (45, (AV.bool (notB (bc x31 x41 (notB x41))))), (46, (AV.bool false))] .lf)) (show slots [4, 5, 7, 9] _ = [some (AV.bool false), some w7, some w20, some (AV.int .i64 (Int.ofNat 0))] by kernel_rfl) with ⟨io58, ⟨_, A4o58, A9o58⟩, t61, h62, qo58, wo58, zo58⟩ | ⟨t63, h64, qo58, zo58⟩
  · obtain ⟨jo58, zo58⟩ := zo58
    subst jo58
    replace zo58 := zo58 rfl
    obtain ⟨uo58, So58⟩ := zo58
    replace uo58 := uo58.symm
    subst uo58
    replace hp := LO.on_ex.symm.trans hp
    try dsimp only at hp
    refine Or.inl ⟨A4o58, A9o58, t61, h62, (qo58.trans (congrArg (fun t => RS.exit 0 t h62) (ovT_eq wo58).symm)), trivial, ?_⟩
    have S66 : Sep [Frz (Low h) h] h62 := So58.sel [2] (by decide) rfl
    obtain rfl := Option.some.inj hp
    exact ⟨rfl, S66⟩
  obtain ⟨y65, v4o58, uo58, go58_4, Ko58⟩ := zo58
  replace uo58 := uo58.symm
  subst uo58
  replace go58_4 : tget (pathOf 4) t63 = some v4o58 := Option.some.inj go58_4
  replace hp := LO.on_rt.symm.trans hp
  try dsimp only at hp
  refine Or.inr ⟨y65, v4o58, t63, h64, (qo58.trans (congrArg (fun t => RS.ret t h64) (ovT_eq (l := [(4, v4o58)]) (by show [tget (pathOf 4) t63] = _; rw [go58_4]; rfl)).symm)), trivial, ?_⟩
  obtain rfl := Option.some.inj hp
  exact Ko58
def C_lawsplits (call : CallT) : Prop := ∀ {h : Hp} {wb_1 : AV} {ws_1 : AV} {b : List Nat} {s : List Nat} (fb_2 : BIn (Low h) h wb_1 b) (fs_2 : BIn (Low h) h ws_1 s) {r : Bool}, lawsplits_p b s = some r → ∃ rv rh, call 8 [wb_1, ws_1] h = .ok rv rh ∧ rv = (AV.bool r) ∧ Eng.Sep (Frz (Low h) h :: []) rh
end Go.Proofs.Ytejiebbbodealaa
end
section
set_option linter.unusedVariables false
set_option linter.unusedSimpArgs false
namespace Go.Proofs.Ytejiebbbodealaa
open Go Eng
def vs (a y : Nat) : Nat := a * 64 ||| (y &&& 63)
theorem vs_lt {a y k : Nat} (h : a < 2 ^ k) : vs a y < 2 ^ (k + 6) := by
  refine Nat.or_lt_two_pow ?_ ?_
  · rw [Nat.pow_add]; omega
  · exact Nat.lt_of_le_of_lt Nat.and_le_right (Nat.lt_of_lt_of_le (by decide : 63 < 2 ^ 6) (Nat.pow_le_pow_right (by decide) (by omega)))
theorem vs_ge (a y : Nat) : a * 64 ≤ vs a y := Nat.left_le_or
theorem size_c {B4 B5 B52 m A2 a i : Nat} {l : List Nat} (hi : i < B52) (hl : i < l.length) (hs : i < 1000) (ha : a < 2 ^ 15) :
    size_l1 B4 B5 l B52 (m + 1) A2 a i = if (l.getD i 0) &&& 192 ≠ 128 then some (LO.rt 0) else size_l1 B4 B5 l B52 m A2 (vs a (l.getD i 0)) (i + 1) := by
  rw [size_l1, if_pos hi, gd_t hl]
  split
  · rfl
  · rw [gd_t (by omega), gd_t (by omega)]; rfl
theorem size_e {B4 B5 B52 m A2 a i : Nat} {l : List Nat} (hi : B52 ≤ i) : size_l1 B4 B5 l B52 (m + 1) A2 a i = some (LO.ex (A2, a, i)) := by
  rw [size_l1, if_neg (by omega)]
theorem rut_c {B3 m a i : Nat} {A2 : Bool} {l : List Nat} (hi : i < B3) (hl : i < l.length) (hs : i < 1000) (ha : a < 2 ^ 15) :
    rutf8_l2 l B3 (m + 1) A2 a i = if (l.getD i 0) &&& 192 ≠ 128 then some (LO.rt false) else rutf8_l2 l B3 m A2 (vs a (l.getD i 0)) (i + 1) := by
  rw [rutf8_l2, if_pos hi, gd_t hl]
  split
  · rfl
  · rw [gd_t (by omega), Nat.mod_eq_of_lt (by omega)]; rfl
theorem rut_e {B3 m a i : Nat} {A2 : Bool} {l : List Nat} (hi : B3 ≤ i) : rutf8_l2 l B3 (m + 1) A2 a i = some (LO.ex (A2, a, i)) := by
  rw [rutf8_l2, if_neg (by omega)]
def tails (n : Nat) (l : List Nat) (i a : Nat) : Option Nat := match n with
  | 0 => some a
  | n + 1 => if (l.getD i 0) &&& 192 ≠ 128 then none else tails n l (i + 1) (vs a (l.getD i 0))
theorem size_t {B4 B5 A2 : Nat} {l : List Nat} : ∀ (n i a m : Nat), i + n = l.length → l.length < 1000 → a < 2 ^ (21 - 6 * n) → 6 * n ≤ 21 → 
    size_l1 B4 B5 l l.length (m + n + 1) A2 a i = match tails n l i a with | none => some (LO.rt 0) | some v => some (LO.ex (A2, v, i + n))
  | 0, i, a, m, h1, h2, h3, h4 => size_e (by omega)
  | n + 1, i, a, m, h1, h2, h3, h4 => by
    have h5 : a < 2 ^ 15 := Nat.lt_of_lt_of_le h3 (Nat.pow_le_pow_right (by decide) (by omega))
    show size_l1 B4 B5 l l.length ((m + n + 1) + 1) A2 a i = _
    rw [size_c (by omega) (by omega) (by omega) h5]
    show _ = match (if (l.getD i 0) &&& 192 ≠ 128 then none else tails n l (i + 1) (vs a (l.getD i 0))) with | none => some (LO.rt 0) | some v => some (LO.ex (A2, v, i + (n + 1)))
    split
    · rfl
    · rw [size_t n (i + 1) _ m (by omega) h2 (by have := vs_lt (y := l.getD i 0) h3; rwa [show 21 - 6 * (n + 1) + 6 = 21 - 6 * n by omega] at this) (by omega), show i + 1 + n = i + (n + 1) by omega]
theorem rut_t {A2 : Bool} {l : List Nat} {B3 : Nat} (hB : B3 ≤ l.length) (hB2 : B3 < 1000) : ∀ (n i a m : Nat), i + n = B3 → a < 2 ^ (21 - 6 * n) → 6 * n ≤ 21 → 
    rutf8_l2 l B3 (m + n + 1) A2 a i = match tails n l i a with | none => some (LO.rt false) | some v => some (LO.ex (A2, v, i + n))
  | 0, i, a, m, h1, h3, h4 => rut_e (by omega)
  | n + 1, i, a, m, h1, h3, h4 => by
    have h5 : a < 2 ^ 15 := Nat.lt_of_lt_of_le h3 (Nat.pow_le_pow_right (by decide) (by omega))
    show rutf8_l2 l B3 ((m + n + 1) + 1) A2 a i = _
    rw [rut_c (by omega) (by omega) (by omega) h5]
    show _ = match (if (l.getD i 0) &&& 192 ≠ 128 then none else tails n l (i + 1) (vs a (l.getD i 0))) with | none => some (LO.rt false) | some v => some (LO.ex (A2, v, i + (n + 1)))
    split
    · rfl
    · rw [rut_t hB hB2 n (i + 1) _ m (by omega) (by have := vs_lt (y := l.getD i 0) h3; rwa [show 21 - 6 * (n + 1) + 6 = 21 - 6 * n by omega] at this) (by omega), show i + 1 + n = i + (n + 1) by omega]
theorem tails_shift : ∀ (n i a : Nat) (l : List Nat) (k : Nat), i + n ≤ k → tails n ((l.take (k + 1)).drop 1) i a = tails n l (i + 1) a
  | 0, i, a, l, k, h => rfl
  | n + 1, i, a, l, k, h => by
    have e : ((l.take (k + 1)).drop 1).getD i 0 = l.getD (i + 1) 0 := by
      rw [List.getD_eq_getElem?_getD, List.getD_eq_getElem?_getD, List.getElem?_drop, Nat.add_comm 1 i, List.getElem?_take_of_lt (by omega)]
    show (if _ then _ else _) = (if _ then _ else _)
    rw [e, tails_shift n (i + 1) _ l k (by omega)]
theorem tails_ge : ∀ (n i a : Nat) (l : List Nat) (v : Nat), tails n l i a = some v → a * 64 ^ n ≤ v
  | 0, i, a, l, v, h => by cases h; simp
  | n + 1, i, a, l, v, h => by
    rw [tails] at h
    split at h
    · cases h
    · have h1 := tails_ge n _ _ _ _ h
      have h2 := Nat.mul_le_mul_right (64 ^ n) (vs_ge a (l.getD i 0))
      rw [Nat.pow_succ, Nat.mul_comm (64 ^ n), ← Nat.mul_assoc]; omega
theorem tails_lt : ∀ (n i a k : Nat) (l : List Nat) (v : Nat), a < 2 ^ k → tails n l i a = some v → v < 2 ^ (k + 6 * n)
  | 0, i, a, k, l, v, ha, h => by cases h; exact ha
  | n + 1, i, a, k, l, v, ha, h => by
    rw [tails] at h
    split at h
    · cases h
    · have := tails_lt n _ _ (k + 6) _ _ (vs_lt ha) h
      rwa [show k + 6 * (n + 1) = k + 6 + 6 * n by omega]
theorem a31 : ∀ x < 256, 192 ≤ x → x < 224 → x &&& 31 < 2 ^ 5 ∧ (x < 194 → x &&& 31 < 2 ^ 1) ∧ (194 ≤ x → 2 ≤ x &&& 31) := by decide +kernel
theorem a15 : ∀ x < 256, 224 ≤ x → x < 240 → x &&& 15 < 2 ^ 4 := by decide +kernel
theorem a7 : ∀ x < 256, 240 ≤ x → x < 248 → x &&& 7 < 2 ^ 3 ∧ (245 ≤ x → 5 ≤ x &&& 7) := by decide +kernel
def sz (l : List Nat) : Nat :=
  if l.getD 0 0 < 128 then 1
  else if l.getD 0 0 < 192 then 0
  else if l.getD 0 0 < 224 then if l.length < 2 then 0 else match tails 1 l 1 (l.getD 0 0 &&& 31) with | none => 0 | some v => if v < 128 then 0 else 2
  else if l.getD 0 0 < 240 then if l.length < 3 then 0 else match tails 2 l 1 (l.getD 0 0 &&& 15) with | none => 0 | some v => if v < 2048 then 0 else if 55296 ≤ v ∧ v ≤ 57343 then 0 else 3
  else if l.getD 0 0 < 248 then if l.length < 4 then 0 else match tails 3 l 1 (l.getD 0 0 &&& 7) with | none => 0 | some v => if v < 65536 then 0 else if 1114111 < v then 0 else 4
  else 0
theorem size_in {B5 : Nat} {l : List Nat} {n a A2 : Nat} (hn : n + 1 ≤ l.length) (ha : a < 2 ^ (21 - 6 * n)) (h6 : 6 * n ≤ 21) :
    size_l1 (n + 1) B5 ((l.take (n + 1)).drop 1) (((l.take (n + 1)).drop 1).length) 90000 A2 a 0 = match tails n l 1 a with | none => some (LO.rt 0) | some v => some (LO.ex (A2, v, n)) := by
  have hlen : ((l.take (n + 1)).drop 1).length = n := by rw [List.length_drop, List.length_take]; omega
  have := size_t (B4 := n + 1) (B5 := B5) (A2 := A2) (l := (l.take (n + 1)).drop 1) n 0 a (90000 - n - 1) (by omega) (by omega) ha h6
  rw [show 90000 - n - 1 + n + 1 = 90000 by omega, tails_shift n 0 a l n (by omega), Nat.zero_add] at this
  rw [this, Nat.zero_add]
theorem size_eq {l : List Nat} (h0 : 0 < l.length) (hx : l.getD 0 0 < 256) : size_p l = some (sz l) := by
  unfold size_p sz
  rw [gd_t h0]
  generalize hl : l.getD 0 0 = x at hx
  by_cases h1 : x < 128
  · rw [if_pos h1, if_pos h1]
  rw [if_neg h1, if_neg h1]
  by_cases h2 : x < 192
  · rw [if_neg (by omega), if_neg (by omega), if_neg (by omega), if_pos h2]
  rw [if_pos (by omega), if_neg h2]
  by_cases h3 : x < 224
  · rw [if_pos h3, if_pos h3]
    obtain ⟨k1, k2, k3⟩ := a31 x hx (by omega) h3
    by_cases h4 : l.length < 2
    · rw [if_pos h4, if_pos h4]
    · rw [if_neg h4, if_neg h4, size_in (n := 1) (by omega) (Nat.lt_of_lt_of_le k1 (by decide)) (by decide)]
      cases ht : tails 1 l 1 (x &&& 31) with
      | none => rfl
      | some v =>
        have hv := tails_lt 1 _ _ 5 _ _ k1 ht
        show (if v < 128 then some 0 else if 1114111 < v then some 0 else if 55296 ≤ v then if v ≤ 57343 then some 0 else some 2 else some 2) = some (if v < 128 then 0 else 2)
        have hv : v < 2048 := hv
        by_cases h5 : v < 128
        · rw [if_pos h5, if_pos h5]
        · rw [if_neg h5, if_neg h5, if_neg (by omega), if_neg (by omega)]
  rw [if_neg h3, if_neg h3]
  by_cases h4 : x < 240
  · rw [if_pos h4, if_pos h4]
    have k1 := a15 x hx (by omega) h4
    by_cases h5 : l.length < 3
    · rw [if_pos h5, if_pos h5]
    · rw [if_neg h5, if_neg h5, size_in (n := 2) (by omega) (Nat.lt_of_lt_of_le k1 (by decide)) (by decide)]
      cases ht : tails 2 l 1 (x &&& 15) with
      | none => rfl
      | some v =>
        have hv := tails_lt 2 _ _ 4 _ _ k1 ht
        show (if v < 2048 then some 0 else if 1114111 < v then some 0 else if 55296 ≤ v then if v ≤ 57343 then some 0 else some 3 else some 3) = some (if v < 2048 then 0 else if 55296 ≤ v ∧ v ≤ 57343 then 0 else 3)
        have hv : v < 65536 := hv
        by_cases h6 : v < 2048
        · rw [if_pos h6, if_pos h6]
        · rw [if_neg h6, if_neg h6, if_neg (by omega)]
          by_cases h7 : 55296 ≤ v
          · rw [if_pos h7]
            by_cases h8 : v ≤ 57343
            · rw [if_pos h8, if_pos ⟨h7, h8⟩]
            · rw [if_neg h8, if_neg (by omega)]
          · rw [if_neg h7, if_neg (by omega)]
  rw [if_neg h4, if_neg h4]
  by_cases h5 : x < 248
  · rw [if_pos h5, if_pos h5]
    obtain ⟨k1, k2⟩ := a7 x hx (by omega) h5
    by_cases h6 : l.length < 4
    · rw [if_pos h6, if_pos h6]
    · rw [if_neg h6, if_neg h6, size_in (n := 3) (by omega) (Nat.lt_of_lt_of_le k1 (by decide)) (by decide)]
      cases ht : tails 3 l 1 (x &&& 7) with
      | none => rfl
      | some v =>
        show (if v < 65536 then some 0 else if 1114111 < v then some 0 else if 55296 ≤ v then if v ≤ 57343 then some 0 else some 4 else some 4) = some (if v < 65536 then 0 else if 1114111 < v then 0 else 4)
        by_cases h6 : v < 65536
        · rw [if_pos h6, if_pos h6]
        · rw [if_neg h6, if_neg h6]
          by_cases h7 : 1114111 < v
          · rw [if_pos h7, if_pos h7]
          · rw [if_neg h7, if_neg h7, if_pos (by omega), if_neg (by omega)]
  · rw [if_neg h5, if_neg h5]
theorem rut_in {l : List Nat} {n a : Nat} {A2 : Bool} (hn : n + 1 ≤ l.length) (hs : n < 900) (ha : a < 2 ^ (21 - 6 * n)) (h6 : 6 * n ≤ 21) :
    rutf8_l2 l (n + 1) 90000 A2 a 1 = match tails n l 1 a with | none => some (LO.rt false) | some v => some (LO.ex (A2, v, n + 1)) := by
  have := rut_t (A2 := A2) (l := l) (B3 := n + 1) hn (by omega) n 1 a (90000 - n - 1) (by omega) ha h6
  rw [show 90000 - n - 1 + n + 1 = 90000 by omega, Nat.add_comm 1 n] at this
  exact this
def kf (m : Nat) (l : List Nat) (b : Bool) (n : Nat) : Option (LO (List Nat × Bool) Bool) := if n = 0 then some (LO.rt false) else rutf8_l1 m (l.drop n) b
theorem rstep {l : List Nat} {b : Bool} {m : Nat} (h0 : 0 < l.length) (hx : l.getD 0 0 < 256) :
    rutf8_l1 (m + 1) l b = kf m l b (sz l) := by
  rw [rutf8_l1, if_pos h0]
  unfold sz
  generalize hl : l.getD 0 0 = x at hx
  by_cases h1 : x < 128
  · rw [if_pos h1, if_neg (by omega), if_pos h1, rut_in (n := 0) (by omega) (by decide) (Nat.lt_of_lt_of_le hx (by decide)) (by decide)]
    rfl
  rw [if_neg h1, if_neg h1]
  by_cases h2 : x < 192
  · rw [if_neg (by omega), if_neg (by omega), if_neg (by omega), if_pos h2]; rfl
  rw [if_neg h2]
  by_cases h3 : x < 224
  · obtain ⟨k1, k2, k3⟩ := a31 x hx (by omega) h3
    by_cases h194 : 194 ≤ x
    · rw [if_pos h194, if_pos h3, if_pos h3]
      by_cases h4 : l.length < 2
      · rw [if_pos h4, if_pos h4]; rfl
      · rw [if_neg h4, if_neg h4, rut_in (n := 1) (by omega) (by decide) (Nat.lt_of_lt_of_le k1 (by decide)) (by decide)]
        cases ht : tails 1 l 1 (x &&& 31) with
        | none => rfl
        | some v =>
          have hv := tails_ge 1 _ _ _ _ ht
          have := k3 h194
          show rutf8_l1 m (l.drop 2) b = kf m l b (if v < 128 then 0 else 2)
          rw [if_neg (show ¬ v < 128 by omega)]; rfl
    · rw [if_neg h194, if_neg (show ¬ 224 ≤ x by omega), if_neg (show ¬ 240 ≤ x by omega), if_pos h3]
      by_cases h4 : l.length < 2
      · rw [if_pos h4]; rfl
      · rw [if_neg h4]
        cases ht : tails 1 l 1 (x &&& 31) with
        | none => rfl
        | some v =>
          have hv := tails_lt 1 _ _ 1 _ _ (k2 (by omega)) ht
          have hv : v < 128 := hv
          show _ = kf m l b (if v < 128 then 0 else 2)
          rw [if_pos hv]; rfl
  rw [if_neg h3, if_neg h3, if_pos (by omega)]
  by_cases h4 : x < 240
  · rw [if_pos h4, if_pos h4]
    have k1 := a15 x hx (by omega) h4
    by_cases h5 : l.length < 3
    · rw [if_pos h5, if_pos h5]; rfl
    · rw [if_neg h5, if_neg h5, rut_in (n := 2) (by omega) (by decide) (Nat.lt_of_lt_of_le k1 (by decide)) (by decide)]
      cases ht : tails 2 l 1 (x &&& 15) with
      | none => rfl
      | some v =>
        show (if v < 2048 then some (LO.rt false) else if 55296 ≤ v then if v < 57344 then some (LO.rt false) else rutf8_l1 m (l.drop 3) b else rutf8_l1 m (l.drop 3) b) =
          kf m l b (if v < 2048 then 0 else if 55296 ≤ v ∧ v ≤ 57343 then 0 else 3)
        by_cases h6 : v < 2048
        · rw [if_pos h6, if_pos h6]; rfl
        · rw [if_neg h6, if_neg h6]
          by_cases h7 : 55296 ≤ v
          · rw [if_pos h7]
            by_cases h8 : v < 57344
            · rw [if_pos h8, if_pos ⟨h7, by omega⟩]; rfl
            · rw [if_neg h8, if_neg (show ¬ (55296 ≤ v ∧ v ≤ 57343) by omega)]; rfl
          · rw [if_neg h7, if_neg (show ¬ (55296 ≤ v ∧ v ≤ 57343) by omega)]; rfl
  rw [if_neg h4, if_neg h4]
  by_cases h5 : x < 248
  · rw [if_pos h5]
    obtain ⟨k1, k2⟩ := a7 x hx (by omega) h5
    by_cases h245 : x < 245
    · rw [if_pos h245]
      by_cases h6 : l.length < 4
      · rw [if_pos h6, if_pos h6]; rfl
      · rw [if_neg h6, if_neg h6, rut_in (n := 3) (by omega) (by decide) (Nat.lt_of_lt_of_le k1 (by decide)) (by decide)]
        cases ht : tails 3 l 1 (x &&& 7) with
        | none => rfl
        | some v =>
          show (if v < 65536 then some (LO.rt false) else if 1114111 < v then some (LO.rt false) else rutf8_l1 m (l.drop 4) b) =
            kf m l b (if v < 65536 then 0 else if 1114111 < v then 0 else 4)
          by_cases h6 : v < 65536
          · rw [if_pos h6, if_pos h6]; rfl
          · rw [if_neg h6, if_neg h6]
            by_cases h7 : 1114111 < v
            · rw [if_pos h7, if_pos h7]; rfl
            · rw [if_neg h7, if_neg h7]; rfl
    · rw [if_neg h245]
      by_cases h6 : l.length < 4
      · rw [if_pos h6]; rfl
      · rw [if_neg h6]
        cases ht : tails 3 l 1 (x &&& 7) with
        | none => rfl
        | some v =>
          have hv := tails_ge 3 _ _ _ _ ht
          have := k2 (by omega)
          have hv : 1114111 < v := by have : 5 * 64 ^ 3 ≤ (x &&& 7) * 64 ^ 3 := Nat.mul_le_mul_right _ this; omega
          show _ = kf m l b (if v < 65536 then 0 else if 1114111 < v then 0 else 4)
          rw [if_neg (show ¬ v < 65536 by omega), if_pos hv]; rfl
  · rw [if_neg (by omega), if_neg h5]; rfl
theorem sz_le {l : List Nat} (h0 : 0 < l.length) : sz l ≤ l.length := by
  unfold sz
  repeat' split
  all_goals omega
theorem ustep {l : List Nat} {b : Bool} {m : Nat} (h0 : 0 < l.length) (hx : l.getD 0 0 < 256) :
    utf8_l1 (m + 1) l b = if sz l = 0 then some (LO.rt false) else utf8_l1 m (l.drop (sz l)) b := by
  rw [utf8_l1, if_pos h0, size_eq h0 hx, ob_some]
  split
  · rfl
  · rw [gd_t (sz_le h0)]
theorem u_eq : ∀ (m : Nat) (l : List Nat) (b : Bool), (∀ x ∈ l, x < 256) → utf8_l1 m l b = rutf8_l1 m l b
  | 0, l, b, _ => rfl
  | m + 1, l, b, hl => by
    by_cases h0 : 0 < l.length
    · have hx := getD_lt hl 0
      rw [ustep h0 hx, rstep h0 hx, kf, u_eq m _ b fun x hx => hl x (List.mem_of_mem_drop hx)]
    · rw [utf8_l1, rutf8_l1, if_neg h0, if_neg h0]
theorem u_some : ∀ (m : Nat) (l : List Nat) (b : Bool), (∀ x ∈ l, x < 256) → l.length < m → ∃ o, utf8_l1 m l b = some o
  | 0, l, b, _, h => absurd h (Nat.not_lt_zero _)
  | m + 1, l, b, hl, h => by
    by_cases h0 : 0 < l.length
    · rw [ustep h0 (getD_lt hl 0)]
      split
      · exact ⟨_, rfl⟩
      · exact u_some m _ b (fun x hx => hl x (List.mem_of_mem_drop hx)) (by rw [List.length_drop]; omega)
    · rw [utf8_l1, if_neg h0]; exact ⟨_, rfl⟩
theorem utf8_some {l : List Nat} (hl : ∀ x ∈ l, x < 256) (hn : l.length < 90000) : ∃ r, utf8_p l = some r ∧ rutf8_p l = some r := by
  obtain ⟨o, ho⟩ := u_some 90000 l false hl hn
  refine ⟨match o with | .ex _ => true | .rt y => y, ?_, ?_⟩
  · unfold utf8_p; rw [ob_of ho]; cases o <;> rfl
  · unfold rutf8_p; rw [ob_of ((u_eq _ _ _ hl).symm.trans ho)]; cases o <;> rfl
end Go.Proofs.Ytejiebbbodealaa
end
section
set_option linter.unusedVariables false
set_option linter.unusedSimpArgs false
namespace Go.Proofs.Ytejiebbbodealaa
open Go Eng
def plF (x : Nat) : Int := if x = 0 then -1 else if x ≤ 9 then (x : Int) - 1 else if x = 12 then 9 else if x = 10 then 10 else 11
def rkF (x : Nat) : Nat := if x = 12 then 95 else x * 10
theorem place_eq : ∀ x ≤ 12, place_p x = some (plF x) := by decide +kernel
theorem rank_eq : ∀ x ≤ 12, rank_p x = some (rkF x) := by decide +kernel
theorem ord_eq : ∀ i ≤ 12, ∀ j ≤ 12, 0 < i → 0 < j → (plF i ≤ plF j ↔ rkF i ≤ rkF j) := by decide +kernel
theorem pl_pos : ∀ i ≤ 12, 0 < i → 0 ≤ plF i ∧ 0 < rkF i := by decide +kernel
theorem pl_ge : ∀ i ≤ 12, -1 ≤ plF i := by decide +kernel
def Last (a : Int) (b : Nat) : Prop := (a = -1 ∧ b = 0) ∨ ∃ j, 0 < j ∧ j ≤ 12 ∧ a = plF j ∧ b = rkF j
theorem Last.cmp {a : Int} {b i : Nat} (h : Last a b) (hi : 0 < i) (h12 : i ≤ 12) : plF i ≤ a ↔ rkF i ≤ b := by
  rcases h with ⟨rfl, rfl⟩ | ⟨j, h1, h2, rfl, rfl⟩
  · have := pl_pos i h12 hi; omega
  · exact ord_eq i h12 j h2 hi h1
theorem Last.ge {a : Int} {b : Nat} (h : Last a b) : -1 ≤ a := by
  rcases h with ⟨rfl, _⟩ | ⟨j, h1, h2, rfl, _⟩
  · omega
  · exact pl_ge j h2
abbrev Rws := List (Nat × List Nat)
def finP (o : Option (LO (List Nat × List Nat × Nat × Rws × Int) (Rws × Nat))) : Option (Rws × Nat) := ob o fun o => LO.on o (fun s => some (s.2.2.2.1, 0)) fun y => some y
def finR (o : Option (LO (List Nat × Nat × Rws × Nat × List Nat × Nat) (Rws × Nat))) : Option (Rws × Nat) := ob o fun o => LO.on o (fun s => if s.2.2.2.2.2 ≠ 0 then some ([], s.2.2.2.2.2) else some (s.2.2.1, 0)) fun y => some y
def nmF (l : List Nat) : Bool := (named_p l).getD false
theorem ru32_eq {l : List Nat} (hn : l.length < 90000) : ru32_p l 0 = some (l.drop (readG 32 false l 0 0 0).2.1, (readG 32 false l 0 0 0).2.2, (readG 32 false l 0 0 0).1 % 4294967296) := by
  have h1 := (readG_len (size := 32) (sg := false) l 0 0 0).1
  unfold ru32_p rnum32_p
  simp only [ob_some]
  rw [if_neg (by decide), gd_t hn, gd_t (by omega)]; rfl
theorem named_ref' {l : List Nat} (hl : ∀ x ∈ l, x < 256) (hn : l.length < 90000) {β : Type} (F K : Option β) :
    ∃ u : Bool, named_p l = some u ∧ (ob (ru32_p l 0) fun a => ob (rtake_p a.1 a.2.1 a.2.2) fun c => if c.2.1 ≠ 0 then F else ob (rutf8_p c.2.2) fun d => if d = false then F else K) = if u = false then F else K := by
  have h1 := (readG_len (size := 32) (sg := false) l 0 0 0).1
  rw [ru32_eq hn]
  unfold named_p rtake_p
  dsimp only [ob_some]
  rw [gd_t hn]
  generalize readG 32 false l 0 0 0 = r at h1
  obtain ⟨v, n, e⟩ := r
  have h2 : n ≤ l.length := by simpa using h1
  clear h1
  have hm : v % 4294967296 < 4294967296 := Nat.mod_lt _ (by decide)
  dsimp only
  by_cases he : e = 0
  · subst he
    rw [if_pos rfl, if_pos rfl, gd_t h2, gd_t (show l.length < 9223372036854775808 by omega), gd_t (show (l.drop n).length < 9223372036854775808 by rw [List.length_drop]; omega)]
    by_cases hv : v % 4294967296 ≤ l.length - n
    · rw [if_pos hv, gd_t (show n + v % 4294967296 < 9223372036854775808 by omega), gd_t (show n + v % 4294967296 ≤ l.length by omega), gd_t (show n ≤ n + v % 4294967296 by omega), if_neg (show ¬ (l.drop n).length < v % 4294967296 by rw [List.length_drop]; omega), gd_t (show 0 + ((l.drop n).take (v % 4294967296)).length ≤ 70368744177664 by rw [List.length_take, List.length_drop]; omega)]
      have e1 : (l.take (n + v % 4294967296)).drop n = (l.drop n).take (v % 4294967296) := by rw [List.drop_take, show n + v % 4294967296 - n = v % 4294967296 by omega]
      obtain ⟨u, hu1, hu2⟩ := utf8_some (l := (l.drop n).take (v % 4294967296)) (fun x hx => hl x (List.mem_of_mem_drop (List.mem_of_mem_take hx))) (by rw [List.length_take, List.length_drop]; omega)
      refine ⟨u, ?_, ?_⟩
      · rw [e1, hu1]; cases u <;> rfl
      · show (ob (rutf8_p ((l.drop n).take (v % 4294967296))) fun d => if d = false then F else K) = _
        rw [hu2]; rfl
    · rw [if_neg hv, if_pos (show (l.drop n).length < v % 4294967296 by rw [List.length_drop]; omega)]
      exact ⟨false, rfl, rfl⟩
  · rw [if_neg (show ¬ e = 0 from he), if_neg he]
    refine ⟨false, rfl, ?_⟩
    show (if e ≠ 0 then F else _) = _
    rw [if_pos he]; rfl
theorem named_ref {l : List Nat} (hl : ∀ x ∈ l, x < 256) (hn : l.length < 90000) {β : Type} (F K : Option β) :
    named_p l = some (nmF l) ∧ (ob (ru32_p l 0) fun a => ob (rtake_p a.1 a.2.1 a.2.2) fun c => if c.2.1 ≠ 0 then F else ob (rutf8_p c.2.2) fun d => if d = false then F else K) = if nmF l = false then F else K := by
  obtain ⟨u, h1, h2⟩ := named_ref' hl hn F K
  have : nmF l = u := by unfold nmF; rw [h1]; rfl
  rw [this]; exact ⟨h1, h2⟩
theorem stepP {m : Nat} {l : List Nat} {acc : Rws} {a : Int} (h0 : 0 < l.length) (hl : ∀ x ∈ l, x < 256) (hn : l.length ≤ 300) (hacc : acc.length ≤ 300) (ha : -1 ≤ a) (h12 : l.getD 0 0 ≤ 12) (hp : 0 < l.getD 0 0 → ¬ plF (l.getD 0 0) ≤ a) :
    split_l1 (m + 1) l [] 0 acc a =
      if (readG 32 false (l.drop 1) 0 0 0).2.2 ≠ 0 then some (LO.rt ([], (readG 32 false (l.drop 1) 0 0 0).2.2)) else
      if (l.drop (1 + (readG 32 false (l.drop 1) 0 0 0).2.1)).length < (readG 32 false (l.drop 1) 0 0 0).1 % 4294967296 then some (LO.rt ([], 3)) else
      if l.getD 0 0 = 0 ∧ nmF ((l.drop (1 + (readG 32 false (l.drop 1) 0 0 0).2.1)).take ((readG 32 false (l.drop 1) 0 0 0).1 % 4294967296)) = false then some (LO.rt ([], 2)) else
      split_l1 m ((l.drop (1 + (readG 32 false (l.drop 1) 0 0 0).2.1)).drop ((readG 32 false (l.drop 1) 0 0 0).1 % 4294967296)) [] 0 (acc ++ [(l.getD 0 0, (l.drop (1 + (readG 32 false (l.drop 1) 0 0 0).2.1)).take ((readG 32 false (l.drop 1) 0 0 0).1 % 4294967296))]) (max a (plF (l.getD 0 0))) := by
  have h1 := (readG_len (size := 32) (sg := false) (l.drop 1) 0 0 0).1
  have hb : ∀ n v, named_p ((l.drop n).take v) = some (nmF ((l.drop n).take v)) := fun n v => (named_ref (l := (l.drop n).take v) (fun x hx => hl x (List.mem_of_mem_drop (List.mem_of_mem_take hx))) (by rw [List.length_take, List.length_drop]; omega) (β := Nat) none none).1
  rw [split_l1, if_pos h0, if_neg (by omega)]
  simp only [ob_some]
  generalize readG 32 false (l.drop 1) 0 0 0 = r at h1
  obtain ⟨v, n, e⟩ := r
  have h1 : n ≤ l.length - 1 := by simpa using h1
  dsimp only
  generalize hx : l.getD 0 0 = x at h12 hp
  have hd : (l.drop 1).length < 90000 := by rw [List.length_drop]; omega
  have hm : v % 4294967296 < 4294967296 := Nat.mod_lt _ (by decide)
  by_cases hx0 : 0 < x
  · rw [if_pos hx0, place_eq x h12, ob_some, if_neg (hp hx0), gd_t (by omega), gd_t hd]
    split
    · rfl
    · rw [gd_t (by omega), gd_t (by omega), gd_t (by rw [List.length_drop]; omega)]
      split
      · rfl
      · rw [gd_t (by rw [List.length_take, List.length_drop]; omega), if_neg (by omega), ob_some, gd_t (by omega), if_neg (by omega)]
  · obtain rfl : x = 0 := by omega
    rw [if_neg hx0, gd_t (by omega), gd_t hd]
    split
    · rfl
    · rw [gd_t (by omega), gd_t (by omega), gd_t (by rw [List.length_drop]; omega)]
      split
      · rfl
      · rw [gd_t (by rw [List.length_take, List.length_drop]; omega), if_pos rfl, hb, ob_some]
        by_cases hnm : nmF ((l.drop (1 + n)).take (v % 4294967296)) = false
        · rw [if_pos hnm, if_pos ⟨rfl, hnm⟩]
        · rw [if_neg hnm, if_neg (fun h => hnm h.2), place_eq 0 (by decide), ob_some, gd_t (by omega)]
theorem stepR {m : Nat} {l : List Nat} {acc : Rws} {b : Nat} (h0 : 0 < l.length) (hl : ∀ x ∈ l, x < 256) (hn : l.length ≤ 300) (hacc : acc.length ≤ 300) (h12 : l.getD 0 0 ≤ 12) (hp : 0 < l.getD 0 0 → ¬ rkF (l.getD 0 0) ≤ b) :
    finR (rsplit_l1 (m + 1 + 1) [] 0 acc b l 0) =
      if (readG 32 false (l.drop 1) 0 0 0).2.2 ≠ 0 then some ([], (readG 32 false (l.drop 1) 0 0 0).2.2) else
      if (l.drop (1 + (readG 32 false (l.drop 1) 0 0 0).2.1)).length < (readG 32 false (l.drop 1) 0 0 0).1 % 4294967296 then some ([], 3) else
      if l.getD 0 0 = 0 ∧ nmF ((l.drop (1 + (readG 32 false (l.drop 1) 0 0 0).2.1)).take ((readG 32 false (l.drop 1) 0 0 0).1 % 4294967296)) = false then some ([], 2) else
      finR (rsplit_l1 (m + 1) [] 0 (acc ++ [(l.getD 0 0, (l.drop (1 + (readG 32 false (l.drop 1) 0 0 0).2.1)).take ((readG 32 false (l.drop 1) 0 0 0).1 % 4294967296))]) (if l.getD 0 0 = 0 then b else rkF (l.getD 0 0)) ((l.drop (1 + (readG 32 false (l.drop 1) 0 0 0).2.1)).drop ((readG 32 false (l.drop 1) 0 0 0).1 % 4294967296)) 0) := by
  have h1 := (readG_len (size := 32) (sg := false) (l.drop 1) 0 0 0).1
  have hd : (l.drop 1).length < 90000 := by rw [List.length_drop]; omega
  have hby : rbyte_p l 0 = some (l.drop 1, 0, l.getD 0 0) := by
    unfold rbyte_p
    rw [if_pos rfl, if_neg (by omega), gd_t h0, gd_t (by omega)]
  have hnr : ∀ n v, ∀ {β : Type} (F K : Option β), (ob (ru32_p ((l.drop n).take v) 0) fun a => ob (rtake_p a.1 a.2.1 a.2.2) fun c => if c.2.1 ≠ 0 then F else ob (rutf8_p c.2.2) fun d => if d = false then F else K) = if nmF ((l.drop n).take v) = false then F else K :=
    fun n v β F K => (named_ref (l := (l.drop n).take v) (fun x hx => hl x (List.mem_of_mem_drop (List.mem_of_mem_take hx))) (by rw [List.length_take, List.length_drop]; omega) F K).2
  rw [rsplit_l1, if_pos rfl, if_pos h0, hby, ob_some]
  dsimp only
  rw [if_neg (by omega), ru32_eq hd]
  generalize readG 32 false (l.drop 1) 0 0 0 = r at h1
  obtain ⟨v, n, e⟩ := r
  have h1 : n ≤ l.length - 1 := by simpa using h1
  simp only [ob_some]
  generalize hx : l.getD 0 0 = x at h12 hp
  have hm : v % 4294967296 < 4294967296 := Nat.mod_lt _ (by decide)
  have hdd : (l.drop 1).drop n = l.drop (1 + n) := List.drop_drop ..
  rw [hdd]
  have htk : rtake_p (l.drop (1 + n)) e (v % 4294967296) = if e = 0 then (if (l.drop (1 + n)).length < v % 4294967296 then some (l.drop (1 + n), 3, []) else some ((l.drop (1 + n)).drop (v % 4294967296), e, (l.drop (1 + n)).take (v % 4294967296))) else some (l.drop (1 + n), e, []) := by
    unfold rtake_p
    rw [gd_t (by rw [List.length_drop]; omega), gd_t (by rw [List.length_take, List.length_drop]; omega)]
  rw [htk]
  by_cases he : e = 0
  · subst he
    rw [if_pos rfl, if_neg (show ¬ ((0 : Nat) ≠ 0) by decide)]
    by_cases hv : (l.drop (1 + n)).length < v % 4294967296
    · rw [if_pos hv, if_pos hv]
      by_cases hx0 : 0 < x
      · rw [if_pos hx0, rank_eq x h12, ob_some, if_neg (hp hx0)]; rfl
      · rw [if_neg hx0]; rfl
    · rw [if_neg hv, if_neg hv]
      simp only [ob_some]
      by_cases hx0 : 0 < x
      · rw [if_pos hx0, rank_eq x h12, ob_some, if_neg (hp hx0), if_neg (by decide), if_neg (by omega), ob_some, gd_t (by omega), if_neg (by omega), if_neg (by omega)]
      · obtain rfl : x = 0 := by omega
        rw [if_neg hx0, if_neg (by decide), if_pos rfl, hnr, if_pos rfl]
        by_cases hnm : nmF ((l.drop (1 + n)).take (v % 4294967296)) = false
        · rw [if_pos hnm, if_pos ⟨rfl, hnm⟩]
          unfold rfail_p
          rw [if_pos rfl, ob_some, gd_t (by omega)]
          dsimp only
          rw [rsplit_l1, if_neg (by decide)]; rfl
        · rw [if_neg hnm, if_neg (fun h => hnm h.2), gd_t (by omega)]
  · rw [if_neg he, if_pos he]
    simp only [ob_some]
    by_cases hx0 : 0 < x
    · rw [if_pos hx0, rank_eq x h12, ob_some, if_neg (hp hx0), if_pos he]
      show (if e ≠ 0 then some ([], e) else _) = _
      rw [if_pos he]
    · rw [if_neg hx0, if_pos he]
      show (if e ≠ 0 then some ([], e) else _) = _
      rw [if_pos he]
theorem split_same : ∀ (m : Nat) (l : List Nat) (acc : Rws) (a : Int) (b : Nat), l.length ≤ m → (∀ x ∈ l, x < 256) → l.length + acc.length ≤ 300 → Last a b → ∃ r, finP (split_l1 (m + 1) l [] 0 acc a) = some r ∧ finR (rsplit_l1 (m + 1) [] 0 acc b l 0) = some r ∧ r.1.length ≤ 300
  | m, l, acc, a, b, h, hl, hn, hla => by
    by_cases h0 : 0 < l.length
    · by_cases h12 : 12 < l.getD 0 0
      · refine ⟨([], 2), ?_, ?_, Nat.zero_le _⟩
        · rw [split_l1, if_pos h0, if_pos h12]; rfl
        · have hby : rbyte_p l 0 = some (l.drop 1, 0, l.getD 0 0) := by
            unfold rbyte_p
            rw [if_pos rfl, if_neg (by omega), gd_t h0, gd_t (by omega)]
          rw [rsplit_l1, if_pos rfl, if_pos h0, hby, ob_some, if_pos h12]; rfl
      · have h12 : l.getD 0 0 ≤ 12 := by omega
        by_cases hp : 0 < l.getD 0 0 ∧ plF (l.getD 0 0) ≤ a
        · refine ⟨([], 2), ?_, ?_, Nat.zero_le _⟩
          · rw [split_l1, if_pos h0, if_neg (by omega), if_pos hp.1, place_eq _ h12, ob_some, if_pos hp.2]; rfl
          · have hby : rbyte_p l 0 = some (l.drop 1, 0, l.getD 0 0) := by
              unfold rbyte_p
              rw [if_pos rfl, if_neg (by omega), gd_t h0, gd_t (by omega)]
            rw [rsplit_l1, if_pos rfl, if_pos h0, hby, ob_some, if_neg (by dsimp only; omega), if_pos hp.1, rank_eq _ h12, ob_some, if_pos ((hla.cmp hp.1 h12).1 hp.2)]; rfl
        · have hp1 : 0 < l.getD 0 0 → ¬ plF (l.getD 0 0) ≤ a := fun h1 h2 => hp ⟨h1, h2⟩
          have hp2 : 0 < l.getD 0 0 → ¬ rkF (l.getD 0 0) ≤ b := fun h1 h2 => hp ⟨h1, (hla.cmp h1 h12).2 h2⟩
          obtain ⟨m, rfl⟩ : ∃ k, m = k + 1 := ⟨m - 1, by omega⟩
          rw [stepP h0 hl (by omega) (by omega) hla.ge h12 hp1, stepR h0 hl (by omega) (by omega) h12 hp2]
          split
          · exact ⟨_, rfl, rfl, Nat.zero_le _⟩
          · split
            · exact ⟨_, rfl, rfl, Nat.zero_le _⟩
            · split
              · exact ⟨_, rfl, rfl, Nat.zero_le _⟩
              · refine split_same m _ _ _ _ ?_ (fun x hx => hl x (List.mem_of_mem_drop (List.mem_of_mem_drop hx))) ?_ ?_
                · rw [List.length_drop, List.length_drop]; omega
                · rw [List.length_drop, List.length_drop, List.length_append, List.length_singleton]; omega
                · by_cases hx0 : l.getD 0 0 = 0
                  · rw [if_pos hx0, hx0]
                    have := hla.ge
                    rw [show max a (plF 0) = a from by show max a (-1) = a; omega]
                    exact hla
                  · rw [if_neg hx0]
                    have := hp1 (by omega)
                    exact .inr ⟨l.getD 0 0, by omega, h12, by omega, rfl⟩
    · refine ⟨(acc, 0), ?_, ?_, by dsimp only; omega⟩
      · rw [split_l1, if_neg h0]; rfl
      · rw [rsplit_l1, if_pos rfl, if_neg h0]; rfl
theorem split_eq {l : List Nat} (hl : ∀ x ∈ l, x < 256) (hn : l.length ≤ 300) : ∃ r, split_p l = some r ∧ rsplit_p l = some r ∧ r.1.length ≤ 300 := by
  unfold split_p rsplit_p
  split
  · exact ⟨_, rfl, rfl, Nat.zero_le _⟩
  · split
    · exact ⟨_, rfl, rfl, Nat.zero_le _⟩
    · exact split_same 89999 (l.drop 8) [] (-1) 0 (by rw [List.length_drop]; omega) (fun x hx => hl x (List.mem_of_mem_drop hx)) (by rw [List.length_drop]; simp; omega) (.inl ⟨rfl, rfl⟩)
theorem rows_same (L : Rws) : ∀ (m i : Nat) (b : Bool), L.length - i < m → L.length < 90000 → lawsplits_l1 L L m b i = some (LO.ex (b, max i L.length))
  | 0, i, b, h, _ => absurd h (Nat.not_lt_zero _)
  | m + 1, i, b, h, hL => by
    rw [lawsplits_l1]
    by_cases hi : i < L.length
    · rw [if_pos hi, gd_t hi, if_neg (by simp), if_neg (by simp), gd_t (by omega), rows_same L m (i + 1) b (by omega) hL]
      congr 3; omega
    · rw [if_neg hi]; congr 3; omega
theorem law_true {b s : List Nat} (hb : ∀ x ∈ b, x < 256) (hs : ∀ x ∈ s, x < 256) : lawsplits_p b s = some true := by
  unfold lawsplits_p
  split
  · rfl
  · split
    · rfl
    · obtain ⟨r, h1, h2, hr⟩ := split_eq hb (by omega)
      obtain ⟨u, h3, h4⟩ := utf8_some hs (by omega)
      rw [h1, h2, h3, h4]
      simp only [ob_some]
      rw [if_neg (by simp), if_neg (by simp), if_neg (by simp), rows_same r.1 90000 0 false (by omega) (by omega)]
      rfl
end Go.Proofs.Ytejiebbbodealaa
end
