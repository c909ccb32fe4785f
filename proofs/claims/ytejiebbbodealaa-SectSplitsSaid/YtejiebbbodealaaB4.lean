import Derived.Test.YtejiebbbodealaaB3
section
set_option linter.unusedVariables false
namespace Go.Proofs.Ytejiebbbodealaa
set_option linter.unusedVariables false
open Go Eng
noncomputable def numC : AC := (.seq (.seq (.region [⟨(some 20), .q (.move (.tmp 11)), none⟩, ⟨(some 21), .q (.move (.tmp 10)), none⟩, ⟨(some 22), .q (.bin .lss (.tmp 20) (.tmp 21)), none⟩]) (.cond (.tmp 22) .skip (.exit 0))) (.seq (.block 1 (.seq (.seq (.region [⟨(some 25), .q (.move (.tmp 11)), none⟩, ⟨(some 26), .q (.move (.tmp 0)), none⟩, ⟨(some 27), .q (.lenL (.tmp 26)), none⟩, ⟨(some 28), .q (.bin .geq (.tmp 25) (.tmp 27)), none⟩]) (.cond (.tmp 28) (.seq (.region [⟨(some 6), .q (.move (.const (AV.int .u64 (Int.ofNat 0)))), none⟩, ⟨(some 7), .q (.move (.const (AV.int .i64 (Int.ofNat 0)))), none⟩, ⟨(some 8), .q (.move (.const (AV.int .i64 (Int.ofNat 3)))), none⟩]) .ret) .skip)) (.seq (.region [⟨(some 29), .q (.move (.tmp 0)), none⟩, ⟨(some 30), .q (.move (.tmp 11)), none⟩, ⟨(some 31), .q (.idxAddrSl 1 (.tmp 29) (.tmp 30)), none⟩, ⟨(some 32), .q (.loadS (.tmp 31)), none⟩, ⟨(some 12), .q (.move (.tmp 32)), none⟩]) (.seq (.region [⟨(some 33), .q (.move (.tmp 12)), none⟩, ⟨(some 34), .q (.bin .and (.tmp 33) (.const (AV.int .u8 (Int.ofNat 127)))), none⟩, ⟨(some 35), .q (.toInt .u64 (.tmp 34)), none⟩, ⟨(some 13), .q (.move (.tmp 35)), none⟩]) (.seq (.seq (.region [⟨(some 36), .q (.move (.tmp 11)), none⟩, ⟨(some 37), .q (.move (.tmp 10)), none⟩, ⟨(some 38), .q (.bin .sub (.tmp 37) (.const (AV.int .i64 (Int.ofNat 1)))), none⟩, ⟨(some 39), .q (.eq .int false (.tmp 36) (.tmp 38)), none⟩]) (.cond (.tmp 39) (.seq (.region [⟨(some 40), .q (.move (.tmp 1)), none⟩, ⟨(some 41), .q (.move (.tmp 11)), none⟩, ⟨(some 42), .q (.bin .mul (.const (AV.int .i64 (Int.ofNat 7))) (.tmp 41)), none⟩, ⟨(some 43), .q (.bin .sub (.tmp 40) (.tmp 42)), none⟩, ⟨(some 14), .q (.move (.tmp 43)), none⟩]) (.seq (.region [⟨(some 44), .q (.move (.tmp 13)), none⟩, ⟨(some 45), .q (.move (.tmp 14)), none⟩, ⟨(some 46), .q (.bin .shr (.tmp 44) (.tmp 45)), none⟩, ⟨(some 15), .q (.move (.tmp 46)), none⟩]) (.seq (.seq (.region [⟨(some 47), .q (.move (.tmp 2)), none⟩]) (.cond (.tmp 47) (.region [⟨(some 48), .q (.move (.tmp 13)), none⟩, ⟨(some 49), .q (.move (.tmp 14)), none⟩, ⟨(some 50), .q (.bin .sub (.tmp 49) (.const (AV.int .i64 (Int.ofNat 1)))), none⟩, ⟨(some 51), .q (.bin .shr (.tmp 48) (.tmp 50)), none⟩, ⟨(some 15), .q (.move (.tmp 51)), none⟩]) .skip)) (.seq (.region [⟨(some 52), .q (.move (.tmp 14)), none⟩, ⟨(some 53), .q (.bin .shr (.const (AV.int .u64 (Int.ofNat 127))) (.tmp 52)), none⟩, ⟨(some 16), .q (.move (.tmp 53)), none⟩]) (.seq (.seq (.region [⟨(some 54), .q (.move (.tmp 2)), none⟩]) (.cond (.tmp 54) (.region [⟨(some 55), .q (.move (.tmp 14)), none⟩, ⟨(some 56), .q (.bin .sub (.tmp 55) (.const (AV.int .i64 (Int.ofNat 1)))), none⟩, ⟨(some 57), .q (.bin .shr (.const (AV.int .u64 (Int.ofNat 127))) (.tmp 56)), none⟩, ⟨(some 16), .q (.move (.tmp 57)), none⟩]) .skip)) (.seq (.region [⟨(some 58), .q (.move (.tmp 12)), none⟩, ⟨(some 59), .q (.bin .geq (.tmp 58) (.const (AV.int .u8 (Int.ofNat 128)))), none⟩, ⟨(some 60), .q (.move (.tmp 59)), none⟩, ⟨(some 61), .q (.move (.tmp 15)), (some (60, false))⟩, ⟨(some 62), .q (.eq .int true (.tmp 61) (.const (AV.int .u64 (Int.ofNat 0)))), (some (60, false))⟩, ⟨(some 63), .q (.move (.tmp 62)), (some (60, false))⟩, ⟨(some 64), .q (.move (.tmp 2)), (some (63, true))⟩, ⟨(some 65), .q (.un .not (.tmp 64)), (some (63, true))⟩, ⟨(some 66), .q (.move (.tmp 65)), (some (63, true))⟩, ⟨(some 67), .q (.move (.tmp 15)), (some (66, false))⟩, ⟨(some 68), .q (.move (.tmp 16)), (some (66, false))⟩, ⟨(some 69), .q (.eq .int true (.tmp 67) (.tmp 68)), (some (66, false))⟩, ⟨(some 70), .q (.pick (.tmp 66) (.const (AV.bool true)) (.tmp 69)), (some (63, true))⟩, ⟨(some 71), .q (.pick (.tmp 63) (.tmp 70) (.const (AV.bool false))), (some (60, false))⟩, ⟨(some 72), .q (.pick (.tmp 60) (.const (AV.bool true)) (.tmp 71)), none⟩]) (.cond (.tmp 72) (.seq (.region [⟨(some 6), .q (.move (.const (AV.int .u64 (Int.ofNat 0)))), none⟩, ⟨(some 7), .q (.move (.const (AV.int .i64 (Int.ofNat 0)))), none⟩, ⟨(some 8), .q (.move (.const (AV.int .i64 (Int.ofNat 2)))), none⟩]) .ret) .skip))))))) .skip)) (.seq (.region [⟨(some 73), .q (.move (.tmp 9)), none⟩, ⟨(some 74), .q (.move (.tmp 13)), none⟩, ⟨(some 75), .q (.move (.tmp 11)), none⟩, ⟨(some 76), .q (.bin .mul (.const (AV.int .i64 (Int.ofNat 7))) (.tmp 75)), none⟩, ⟨(some 77), .q (.bin .shl (.tmp 74) (.tmp 76)), none⟩, ⟨(some 78), .q (.bin .or (.tmp 73) (.tmp 77)), none⟩, ⟨(some 9), .q (.move (.tmp 78)), none⟩]) (.seq (.region [⟨(some 79), .q (.move (.tmp 12)), none⟩, ⟨(some 80), .q (.bin .lss (.tmp 79) (.const (AV.int .u8 (Int.ofNat 128)))), none⟩]) (.cond (.tmp 80) (.seq (.seq (.region [⟨(some 81), .q (.move (.tmp 2)), none⟩, ⟨(some 82), .q (.move (.tmp 81)), none⟩, ⟨(some 83), .q (.move (.tmp 12)), (some (82, true))⟩, ⟨(some 84), .q (.bin .and (.tmp 83) (.const (AV.int .u8 (Int.ofNat 64)))), (some (82, true))⟩, ⟨(some 85), .q (.eq .int true (.tmp 84) (.const (AV.int .u8 (Int.ofNat 0)))), (some (82, true))⟩, ⟨(some 86), .q (.pick (.tmp 82) (.tmp 85) (.const (AV.bool false))), none⟩, ⟨(some 87), .q (.move (.tmp 86)), none⟩, ⟨(some 88), .q (.move (.tmp 11)), (some (87, true))⟩, ⟨(some 89), .q (.bin .mul (.const (AV.int .i64 (Int.ofNat 7))) (.tmp 88)), (some (87, true))⟩, ⟨(some 90), .q (.bin .add (.tmp 89) (.const (AV.int .i64 (Int.ofNat 7)))), (some (87, true))⟩, ⟨(some 91), .q (.bin .lss (.tmp 90) (.const (AV.int .i64 (Int.ofNat 64)))), (some (87, true))⟩, ⟨(some 92), .q (.pick (.tmp 87) (.tmp 91) (.const (AV.bool false))), none⟩]) (.cond (.tmp 92) (.region [⟨(some 93), .q (.move (.tmp 9)), none⟩, ⟨(some 94), .q (.move (.tmp 11)), none⟩, ⟨(some 95), .q (.bin .mul (.const (AV.int .i64 (Int.ofNat 7))) (.tmp 94)), none⟩, ⟨(some 96), .q (.bin .add (.tmp 95) (.const (AV.int .i64 (Int.ofNat 7)))), none⟩, ⟨(some 97), .q (.bin .shl (.const (AV.int .u64 (Int.ofNat 18446744073709551615))) (.tmp 96)), none⟩, ⟨(some 98), .q (.bin .or (.tmp 93) (.tmp 97)), none⟩, ⟨(some 9), .q (.move (.tmp 98)), none⟩]) .skip)) (.seq (.region [⟨(some 99), .q (.move (.tmp 9)), none⟩, ⟨(some 100), .q (.move (.tmp 11)), none⟩, ⟨(some 101), .q (.bin .add (.tmp 100) (.const (AV.int .i64 (Int.ofNat 1)))), none⟩, ⟨(some 6), .q (.move (.tmp 99)), none⟩, ⟨(some 7), .q (.move (.tmp 101)), none⟩, ⟨(some 8), .q (.move (.const (AV.int .i64 (Int.ofNat 0)))), none⟩]) .ret)) .skip)))))))) (.region [⟨(some 23), .q (.move (.tmp 11)), none⟩, ⟨(some 24), .q (.bin .add (.tmp 23) (.const (AV.int .i64 (Int.ofNat 1)))), none⟩, ⟨(some 11), .q (.move (.tmp 24)), none⟩])))
theorem num32u_body {call : CallT} {N : Nat} {t : T} {h : Hp} {B : Nat} {vb : AV} {l : List Nat} (hb : Bytes B h vb l) (hk2 : l.length < 9223372036854775000) {v i : Nat} (hv : v < 18446744073709551616) (hi : i < 5) (hR : readG 32 false (l.drop i) (7 * i) i v = readG 32 false l 0 0 0)
    : ∃ s, evC call N numC (ovT [(0, vb), (1, (AV.int .i64 (Int.ofNat 32))), (2, (AV.bool false)), (6, (AV.int .u64 (Int.ofNat 0))), (7, (AV.int .i64 (Int.ofNat 0))), (8, (AV.int .i64 (Int.ofNat 0))), (9, (AV.int .u64 (Int.ofNat v))), (10, (AV.int .i64 (Int.ofNat 5))), (11, (AV.int .i64 (Int.ofNat i)))] t) h = s ∧ obsS [0, 1, 2, 6, 7, 8, 9, 10, 11] (fun ls h' => ∃ m, m < 100 - i ∧ h' = h ∧ ∃ i' v', ls = [some vb, some (AV.int .i64 (.ofNat 32)), some (AV.bool false), some (AV.int .u64 (.ofNat 0)), some (AV.int .i64 (.ofNat 0)), some (AV.int .i64 (.ofNat 0)), some (AV.int .u64 (.ofNat v')), some (AV.int .i64 (.ofNat 5)), some (AV.int .i64 (.ofNat i'))] ∧ m = 100 - i' ∧ i' < 5 ∧ v' < 18446744073709551616 ∧ readG 32 false (l.drop i') (7 * i') i' v' = readG 32 false l 0 0 0) (fun _ _ _ => False) (fun ls h' => h' = h ∧ ∃ w i', ls = [some vb, some (AV.int .i64 (.ofNat 32)), some (AV.bool false), some (AV.int .u64 (.ofNat (readG 32 false l 0 0 0).1)), some (AV.int .i64 (.ofNat (readG 32 false l 0 0 0).2.1)), some (AV.int .i64 (.ofNat (readG 32 false l 0 0 0).2.2)), some (AV.int .u64 (.ofNat w)), some (AV.int .i64 (.ofNat 5)), some (AV.int .i64 (.ofNat i'))]) s := by
  have fin : ∀ X Y Z : Nat, ∀ {w i' : Nat}, readG 32 false (l.drop i) (7 * i) i v = (X, Y, Z) → h = h ∧ ∃ w' i'', [some vb, some (AV.int .i64 (.ofNat 32)), some (AV.bool false), some (AV.int .u64 (.ofNat X)), some (AV.int .i64 (.ofNat Y)), some (AV.int .i64 (.ofNat Z)), some (AV.int .u64 (.ofNat w)), some (AV.int .i64 (.ofNat 5)), some (AV.int .i64 (.ofNat i'))] = [some vb, some (AV.int .i64 (.ofNat 32)), some (AV.bool false), some (AV.int .u64 (.ofNat (readG 32 false l 0 0 0).1)), some (AV.int .i64 (.ofNat (readG 32 false l 0 0 0).2.1)), some (AV.int .i64 (.ofNat (readG 32 false l 0 0 0).2.2)), some (AV.int .u64 (.ofNat w')), some (AV.int .i64 (.ofNat 5)), some (AV.int .i64 (.ofNat i''))] := by
    intro X Y Z w i' e
    rw [hR] at e
    rw [e]
    exact ⟨rfl, w, i', rfl⟩
  refine walk_ok (o := (.fork 2 (.tell 2 (AV.int .i64 (Int.ofNat l.length)) (.fork 0 .fin (.tell 2 (elemP vb i 1) (.tell 0 (AV.int .u8 (Int.ofNat (l.getD i 0))) (.tell 2 (AV.int .u8 (Int.ofNat ((l.getD i 0) &&& 127))) (.tell 0 (AV.int .u64 (Int.ofNat ((l.getD i 0) &&& 127))) (.fork 4 (.tell 2 (AV.int .i64 (Int.ofNat (7 * i))) (.tell 0 (AV.int .i64 (Int.ofNat (32 - (7 * i)))) (.tell 3 (AV.int .u64 (Int.ofNat (((l.getD i 0) &&& 127) / 2 ^ (32 - (7 * i))))) (.tell 3 (AV.int .u64 (Int.ofNat (127 / 2 ^ (32 - (7 * i))))) (.fork 4 .fin (.fork 2 .fin (.tell 5 (AV.int .i64 (Int.ofNat (7 * i))) (.tell 0 (AV.int .u64 (Int.ofNat (((l.getD i 0) &&& 127) * 2 ^ (7 * i) % 18446744073709551616))) (.tell 0 (AV.int .u64 (Int.ofNat (v ||| (((l.getD i 0) &&& 127) * 2 ^ (7 * i) % 18446744073709551616)))) (.tell 2 (AV.bool true) (.tell 7 (AV.int .i64 (Int.ofNat (i + 1))) .fin))))))))))) (.tell 3 (AV.int .i64 (Int.ofNat (7 * i))) (.tell 0 (AV.int .u64 (Int.ofNat (((l.getD i 0) &&& 127) * 2 ^ (7 * i) % 18446744073709551616))) (.tell 0 (AV.int .u64 (Int.ofNat (v ||| (((l.getD i 0) &&& 127) * 2 ^ (7 * i) % 18446744073709551616)))) (.fork 2 (.tell 7 (AV.int .i64 (Int.ofNat (i + 1))) .fin) (.tell 1 (AV.int .i64 (Int.ofNat (i + 1))) .fin)))))))))))) .fin)) (p := ((ltI (Int.ofNat i) (Int.ofNat 5) = true → (evQ (.lenL (.const vb)) .lf H0 = .ok (AV.int .i64 (Int.ofNat l.length)) ∧ ((notB (ltI (Int.ofNat i) (Int.ofNat l.length)) = true → ((fun ls h' => h' = h ∧ ∃ w i', ls = [some vb, some (AV.int .i64 (.ofNat 32)), some (AV.bool false), some (AV.int .u64 (.ofNat (readG 32 false l 0 0 0).1)), some (AV.int .i64 (.ofNat (readG 32 false l 0 0 0).2.1)), some (AV.int .i64 (.ofNat (readG 32 false l 0 0 0).2.2)), some (AV.int .u64 (.ofNat w)), some (AV.int .i64 (.ofNat 5)), some (AV.int .i64 (.ofNat i'))]) : List (Option AV) → Hp → Prop) [some vb, some (AV.int .i64 (Int.ofNat 32)), some (AV.bool false), some (AV.int .u64 (Int.ofNat 0)), some (AV.int .i64 (Int.ofNat 0)), some (AV.int .i64 (Int.ofNat 3)), some (AV.int .u64 (Int.ofNat v)), some (AV.int .i64 (Int.ofNat 5)), some (AV.int .i64 (Int.ofNat i))] h) ∧ (notB (ltI (Int.ofNat i) (Int.ofNat l.length)) = false → (evQ (.idxAddrSl 1 (.const vb) (.const (AV.int .i64 (Int.ofNat i)))) .lf H0 = .ok (elemP vb i 1) ∧ (evQ (.loadS (.const (elemP vb i 1))) .lf h = .ok (AV.int .u8 (Int.ofNat (l.getD i 0))) ∧ (evQ (.bin .and (.const (AV.int .u8 (Int.ofNat (l.getD i 0)))) (.const (AV.int .u8 (Int.ofNat 127)))) .lf H0 = .ok (AV.int .u8 (Int.ofNat ((l.getD i 0) &&& 127))) ∧ (evQ (.toInt .u64 (.const (AV.int .u8 (Int.ofNat ((l.getD i 0) &&& 127))))) .lf H0 = .ok (AV.int .u64 (Int.ofNat ((l.getD i 0) &&& 127))) ∧ ((eqI (Int.ofNat i) (Int.ofNat 4) = true → (evQ (.bin .mul (.const (AV.int .i64 (Int.ofNat 7))) (.const (AV.int .i64 (Int.ofNat i)))) .lf H0 = .ok (AV.int .i64 (Int.ofNat (7 * i))) ∧ (evQ (.bin .sub (.const (AV.int .i64 (Int.ofNat 32))) (.const (AV.int .i64 (Int.ofNat (7 * i))))) .lf H0 = .ok (AV.int .i64 (Int.ofNat (32 - (7 * i)))) ∧ (evQ (.bin .shr (.const (AV.int .u64 (Int.ofNat ((l.getD i 0) &&& 127)))) (.const (AV.int .i64 (Int.ofNat (32 - (7 * i)))))) .lf H0 = .ok (AV.int .u64 (Int.ofNat (((l.getD i 0) &&& 127) / 2 ^ (32 - (7 * i))))) ∧ (evQ (.bin .shr (.const (AV.int .u64 (Int.ofNat 127))) (.const (AV.int .i64 (Int.ofNat (32 - (7 * i)))))) .lf H0 = .ok (AV.int .u64 (Int.ofNat (127 / 2 ^ (32 - (7 * i))))) ∧ ((notB (ltI (Int.ofNat (l.getD i 0)) (Int.ofNat 128)) = true → ((fun ls h' => h' = h ∧ ∃ w i', ls = [some vb, some (AV.int .i64 (.ofNat 32)), some (AV.bool false), some (AV.int .u64 (.ofNat (readG 32 false l 0 0 0).1)), some (AV.int .i64 (.ofNat (readG 32 false l 0 0 0).2.1)), some (AV.int .i64 (.ofNat (readG 32 false l 0 0 0).2.2)), some (AV.int .u64 (.ofNat w)), some (AV.int .i64 (.ofNat 5)), some (AV.int .i64 (.ofNat i'))]) : List (Option AV) → Hp → Prop) [some vb, some (AV.int .i64 (Int.ofNat 32)), some (AV.bool false), some (AV.int .u64 (Int.ofNat 0)), some (AV.int .i64 (Int.ofNat 0)), some (AV.int .i64 (Int.ofNat 2)), some (AV.int .u64 (Int.ofNat v)), some (AV.int .i64 (Int.ofNat 5)), some (AV.int .i64 (Int.ofNat i))] h) ∧ (notB (ltI (Int.ofNat (l.getD i 0)) (Int.ofNat 128)) = false → ((notB (eqI (Int.ofNat (((l.getD i 0) &&& 127) / 2 ^ (32 - (7 * i)))) (Int.ofNat 0)) = true → ((fun ls h' => h' = h ∧ ∃ w i', ls = [some vb, some (AV.int .i64 (.ofNat 32)), some (AV.bool false), some (AV.int .u64 (.ofNat (readG 32 false l 0 0 0).1)), some (AV.int .i64 (.ofNat (readG 32 false l 0 0 0).2.1)), some (AV.int .i64 (.ofNat (readG 32 false l 0 0 0).2.2)), some (AV.int .u64 (.ofNat w)), some (AV.int .i64 (.ofNat 5)), some (AV.int .i64 (.ofNat i'))]) : List (Option AV) → Hp → Prop) [some vb, some (AV.int .i64 (Int.ofNat 32)), some (AV.bool false), some (AV.int .u64 (Int.ofNat 0)), some (AV.int .i64 (Int.ofNat 0)), some (AV.int .i64 (Int.ofNat 2)), some (AV.int .u64 (Int.ofNat v)), some (AV.int .i64 (Int.ofNat 5)), some (AV.int .i64 (Int.ofNat i))] h) ∧ (notB (eqI (Int.ofNat (((l.getD i 0) &&& 127) / 2 ^ (32 - (7 * i)))) (Int.ofNat 0)) = false → (evQ (.bin .mul (.const (AV.int .i64 (Int.ofNat 7))) (.const (AV.int .i64 (Int.ofNat i)))) .lf H0 = .ok (AV.int .i64 (Int.ofNat (7 * i))) ∧ (evQ (.bin .shl (.const (AV.int .u64 (Int.ofNat ((l.getD i 0) &&& 127)))) (.const (AV.int .i64 (Int.ofNat (7 * i))))) .lf H0 = .ok (AV.int .u64 (Int.ofNat (((l.getD i 0) &&& 127) * 2 ^ (7 * i) % 18446744073709551616))) ∧ (evQ (.bin .or (.const (AV.int .u64 (Int.ofNat v))) (.const (AV.int .u64 (Int.ofNat (((l.getD i 0) &&& 127) * 2 ^ (7 * i) % 18446744073709551616))))) .lf H0 = .ok (AV.int .u64 (Int.ofNat (v ||| (((l.getD i 0) &&& 127) * 2 ^ (7 * i) % 18446744073709551616)))) ∧ (evQ (.bin .lss (.const (AV.int .u8 (Int.ofNat (l.getD i 0)))) (.const (AV.int .u8 (Int.ofNat 128)))) .lf H0 = .ok (AV.bool true) ∧ (evQ (.bin .add (.const (AV.int .i64 (Int.ofNat i))) (.const (AV.int .i64 (Int.ofNat 1)))) .lf H0 = .ok (AV.int .i64 (Int.ofNat (i + 1))) ∧ ((fun ls h' => h' = h ∧ ∃ w i', ls = [some vb, some (AV.int .i64 (.ofNat 32)), some (AV.bool false), some (AV.int .u64 (.ofNat (readG 32 false l 0 0 0).1)), some (AV.int .i64 (.ofNat (readG 32 false l 0 0 0).2.1)), some (AV.int .i64 (.ofNat (readG 32 false l 0 0 0).2.2)), some (AV.int .u64 (.ofNat w)), some (AV.int .i64 (.ofNat 5)), some (AV.int .i64 (.ofNat i'))]) : List (Option AV) → Hp → Prop) [some vb, some (AV.int .i64 (Int.ofNat 32)), some (AV.bool false), some (AV.int .u64 (Int.ofNat (v ||| (((l.getD i 0) &&& 127) * 2 ^ (7 * i) % 18446744073709551616)))), some (AV.int .i64 (Int.ofNat (i + 1))), some (AV.int .i64 (Int.ofNat 0)), some (AV.int .u64 (Int.ofNat (v ||| (((l.getD i 0) &&& 127) * 2 ^ (7 * i) % 18446744073709551616)))), some (AV.int .i64 (Int.ofNat 5)), some (AV.int .i64 (Int.ofNat i))] h)))))))))))))) ∧ (eqI (Int.ofNat i) (Int.ofNat 4) = false → (evQ (.bin .mul (.const (AV.int .i64 (Int.ofNat 7))) (.const (AV.int .i64 (Int.ofNat i)))) .lf H0 = .ok (AV.int .i64 (Int.ofNat (7 * i))) ∧ (evQ (.bin .shl (.const (AV.int .u64 (Int.ofNat ((l.getD i 0) &&& 127)))) (.const (AV.int .i64 (Int.ofNat (7 * i))))) .lf H0 = .ok (AV.int .u64 (Int.ofNat (((l.getD i 0) &&& 127) * 2 ^ (7 * i) % 18446744073709551616))) ∧ (evQ (.bin .or (.const (AV.int .u64 (Int.ofNat v))) (.const (AV.int .u64 (Int.ofNat (((l.getD i 0) &&& 127) * 2 ^ (7 * i) % 18446744073709551616))))) .lf H0 = .ok (AV.int .u64 (Int.ofNat (v ||| (((l.getD i 0) &&& 127) * 2 ^ (7 * i) % 18446744073709551616)))) ∧ ((ltI (Int.ofNat (l.getD i 0)) (Int.ofNat 128) = true → (evQ (.bin .add (.const (AV.int .i64 (Int.ofNat i))) (.const (AV.int .i64 (Int.ofNat 1)))) .lf H0 = .ok (AV.int .i64 (Int.ofNat (i + 1))) ∧ ((fun ls h' => h' = h ∧ ∃ w i', ls = [some vb, some (AV.int .i64 (.ofNat 32)), some (AV.bool false), some (AV.int .u64 (.ofNat (readG 32 false l 0 0 0).1)), some (AV.int .i64 (.ofNat (readG 32 false l 0 0 0).2.1)), some (AV.int .i64 (.ofNat (readG 32 false l 0 0 0).2.2)), some (AV.int .u64 (.ofNat w)), some (AV.int .i64 (.ofNat 5)), some (AV.int .i64 (.ofNat i'))]) : List (Option AV) → Hp → Prop) [some vb, some (AV.int .i64 (Int.ofNat 32)), some (AV.bool false), some (AV.int .u64 (Int.ofNat (v ||| (((l.getD i 0) &&& 127) * 2 ^ (7 * i) % 18446744073709551616)))), some (AV.int .i64 (Int.ofNat (i + 1))), some (AV.int .i64 (Int.ofNat 0)), some (AV.int .u64 (Int.ofNat (v ||| (((l.getD i 0) &&& 127) * 2 ^ (7 * i) % 18446744073709551616)))), some (AV.int .i64 (Int.ofNat 5)), some (AV.int .i64 (Int.ofNat i))] h)) ∧ (ltI (Int.ofNat (l.getD i 0)) (Int.ofNat 128) = false → (evQ (.bin .add (.const (AV.int .i64 (Int.ofNat i))) (.const (AV.int .i64 (Int.ofNat 1)))) .lf H0 = .ok (AV.int .i64 (Int.ofNat (i + 1))) ∧ ((fun ls h' => ∃ m, m < 100 - i ∧ h' = h ∧ ∃ i' v', ls = [some vb, some (AV.int .i64 (.ofNat 32)), some (AV.bool false), some (AV.int .u64 (.ofNat 0)), some (AV.int .i64 (.ofNat 0)), some (AV.int .i64 (.ofNat 0)), some (AV.int .u64 (.ofNat v')), some (AV.int .i64 (.ofNat 5)), some (AV.int .i64 (.ofNat i'))] ∧ m = 100 - i' ∧ i' < 5 ∧ v' < 18446744073709551616 ∧ readG 32 false (l.drop i') (7 * i') i' v' = readG 32 false l 0 0 0) : List (Option AV) → Hp → Prop) [some vb, some (AV.int .i64 (Int.ofNat 32)), some (AV.bool false), some (AV.int .u64 (Int.ofNat 0)), some (AV.int .i64 (Int.ofNat 0)), some (AV.int .i64 (Int.ofNat 0)), some (AV.int .u64 (Int.ofNat (v ||| (((l.getD i 0) &&& 127) * 2 ^ (7 * i) % 18446744073709551616)))), some (AV.int .i64 (Int.ofNat 5)), some (AV.int .i64 (Int.ofNat (i + 1)))] h)))))))))))))))) ∧ (ltI (Int.ofNat i) (Int.ofNat 5) = false → ((fun _ _ _ => False) : Nat → List (Option AV) → Hp → Prop) 0 [some vb, some (AV.int .i64 (Int.ofNat 32)), some (AV.bool false), some (AV.int .u64 (Int.ofNat 0)), some (AV.int .i64 (Int.ofNat 0)), some (AV.int .i64 (Int.ofNat 0)), some (AV.int .u64 (Int.ofNat v)), some (AV.int .i64 (Int.ofNat 5)), some (AV.int .i64 (Int.ofNat i))] h))) (by kernel_rfl) ?_
  refine ⟨fun c1 => ?_, fun c1 => ?_⟩
  · have rc1 := c1
    replace c1 : i < 5 := ltI_t c1
    refine ⟨q_len hb, ?_⟩
    refine ⟨fun c2 => ?_, fun c2 => ?_⟩
    · have rc2 := c2
      replace c2 : l.length ≤ i := ltI_f (notB_t c2)
      exact fin _ _ _ (by rw [List.drop_eq_nil_of_le (by omega)]; rfl)
    · have rc2 := c2
      replace c2 : i < l.length := ltI_t (notB_f c2)
      refine ⟨q_idxB hb (by omega), ?_⟩
      refine ⟨q_byte hb (by omega), ?_⟩
      have x3 : l.getD i 0 < 256 := getD_lt hb.lt i
      refine ⟨u_and rfl x3 (by decide), ?_⟩
      have g4 : (l.getD i 0) &&& 127 < 256 := Nat.lt_of_le_of_lt Nat.and_le_left x3
      refine ⟨u_conv' rfl (Nat.lt_of_lt_of_le g4 (by decide)), ?_⟩
      have g5 : (l.getD i 0) &&& 127 < 18446744073709551616 := Nat.lt_of_lt_of_le g4 (by decide)
      refine ⟨fun c6 => ?_, fun c6 => ?_⟩
      · have rc6 := c6
        replace c6 : i = 4 := eqI_t c6
        refine ⟨q_mul (by omega), ?_⟩
        refine ⟨q_sub (by omega) (by omega), ?_⟩
        refine ⟨u_shr rfl g5, ?_⟩
        have g7 : ((l.getD i 0) &&& 127) / 2 ^ (32 - (7 * i)) < 18446744073709551616 := Nat.lt_of_le_of_lt (Nat.div_le_self _ _) g5
        refine ⟨u_shr rfl (by decide), ?_⟩
        have g8 : 127 / 2 ^ (32 - (7 * i)) < 18446744073709551616 := Nat.lt_of_le_of_lt (Nat.div_le_self _ _) (by decide)
        refine ⟨fun c9 => ?_, fun c9 => ?_⟩
        · have rc9 := c9
          replace c9 : 128 ≤ l.getD i 0 := ltI_f (notB_t c9)
          have hd := drop_cons (l := l) (k := i) (by omega)
          have hx := getD_lt hb.lt i
          refine fin _ _ _ ?_
          rw [hd, readG_u hx (by omega)]
          clear hR fin
          generalize l.getD i 0 = x at *
          first
            | (rw [if_pos (by constructor <;> first | omega | (exact .inl (by omega)) | (exact .inr (by first | assumption | (constructor <;> assumption))))]; done)
            | (rw [if_neg (by rintro ⟨e1, e2⟩; rcases e2 with e2 | e2 <;> first | omega | contradiction | (exact e2.1 (by assumption)) | (exact e2.2 (by assumption))), if_pos (by omega)]; done)
            | (rw [if_neg (by rintro ⟨e1, e2⟩; rcases e2 with e2 | e2 <;> first | omega | contradiction | (exact e2.1 (by assumption)) | (exact e2.2 (by assumption))), if_pos (by omega), if_pos (by constructor <;> assumption)]; done)
            | (rw [if_neg (by rintro ⟨e1, e2⟩; rcases e2 with e2 | e2 <;> first | omega | contradiction | (exact e2.1 (by assumption)) | (exact e2.2 (by assumption))), if_pos (by omega), if_neg (by rintro ⟨e1, e2⟩; first | omega | contradiction)]; done)
        · have rc9 := c9
          replace c9 : l.getD i 0 < 128 := ltI_t (notB_f c9)
          refine ⟨fun c10 => ?_, fun c10 => ?_⟩
          · have rc10 := c10
            replace c10 : ((l.getD i 0) &&& 127) / 2 ^ (32 - (7 * i)) ≠ 0 := eqI_f (notB_t c10)
            have hd := drop_cons (l := l) (k := i) (by omega)
            have hx := getD_lt hb.lt i
            refine fin _ _ _ ?_
            rw [hd, readG_u hx (by omega)]
            clear hR fin
            generalize l.getD i 0 = x at *
            first
              | (rw [if_pos (by constructor <;> first | omega | (exact .inl (by omega)) | (exact .inr (by first | assumption | (constructor <;> assumption))))]; done)
              | (rw [if_neg (by rintro ⟨e1, e2⟩; rcases e2 with e2 | e2 <;> first | omega | contradiction | (exact e2.1 (by assumption)) | (exact e2.2 (by assumption))), if_pos (by omega)]; done)
              | (rw [if_neg (by rintro ⟨e1, e2⟩; rcases e2 with e2 | e2 <;> first | omega | contradiction | (exact e2.1 (by assumption)) | (exact e2.2 (by assumption))), if_pos (by omega), if_pos (by constructor <;> assumption)]; done)
              | (rw [if_neg (by rintro ⟨e1, e2⟩; rcases e2 with e2 | e2 <;> first | omega | contradiction | (exact e2.1 (by assumption)) | (exact e2.2 (by assumption))), if_pos (by omega), if_neg (by rintro ⟨e1, e2⟩; first | omega | contradiction)]; done)
          · have rc10 := c10
            replace c10 : ((l.getD i 0) &&& 127) / 2 ^ (32 - (7 * i)) = 0 := eqI_t (notB_f c10)
            refine ⟨q_mul (by omega), ?_⟩
            refine ⟨u_shl rfl, ?_⟩
            have g11 : ((l.getD i 0) &&& 127) * 2 ^ (7 * i) % 18446744073709551616 < 18446744073709551616 := Nat.mod_lt _ (by decide)
            refine ⟨u_or rfl hv g11, ?_⟩
            have g12 : v ||| (((l.getD i 0) &&& 127) * 2 ^ (7 * i) % 18446744073709551616) < 18446744073709551616 := Nat.or_lt_two_pow (n := 64) hv g11
            refine ⟨congrArg (fun z => OV.ok (AV.bool z)) (notB_f rc9), ?_⟩
            refine ⟨q_add (by omega), ?_⟩
            have hd := drop_cons (l := l) (k := i) (by omega)
            have hx := getD_lt hb.lt i
            refine fin _ _ _ ?_
            rw [hd, readG_u hx (by omega)]
            clear hR fin
            generalize l.getD i 0 = x at *
            first
              | (rw [if_pos (by constructor <;> first | omega | (exact .inl (by omega)) | (exact .inr (by first | assumption | (constructor <;> assumption))))]; done)
              | (rw [if_neg (by rintro ⟨e1, e2⟩; rcases e2 with e2 | e2 <;> first | omega | contradiction | (exact e2.1 (by assumption)) | (exact e2.2 (by assumption))), if_pos (by omega)]; done)
              | (rw [if_neg (by rintro ⟨e1, e2⟩; rcases e2 with e2 | e2 <;> first | omega | contradiction | (exact e2.1 (by assumption)) | (exact e2.2 (by assumption))), if_pos (by omega), if_pos (by constructor <;> assumption)]; done)
              | (rw [if_neg (by rintro ⟨e1, e2⟩; rcases e2 with e2 | e2 <;> first | omega | contradiction | (exact e2.1 (by assumption)) | (exact e2.2 (by assumption))), if_pos (by omega), if_neg (by rintro ⟨e1, e2⟩; first | omega | contradiction)]; done)
      · have rc6 := c6
        replace c6 : i ≠ 4 := eqI_f c6
        refine ⟨q_mul (by omega), ?_⟩
        refine ⟨u_shl rfl, ?_⟩
        have g7 : ((l.getD i 0) &&& 127) * 2 ^ (7 * i) % 18446744073709551616 < 18446744073709551616 := Nat.mod_lt _ (by decide)
        refine ⟨u_or rfl hv g7, ?_⟩
        have g8 : v ||| (((l.getD i 0) &&& 127) * 2 ^ (7 * i) % 18446744073709551616) < 18446744073709551616 := Nat.or_lt_two_pow (n := 64) hv g7
        refine ⟨fun c9 => ?_, fun c9 => ?_⟩
        · have rc9 := c9
          replace c9 : l.getD i 0 < 128 := ltI_t c9
          refine ⟨q_add (by omega), ?_⟩
          have hd := drop_cons (l := l) (k := i) (by omega)
          have hx := getD_lt hb.lt i
          refine fin _ _ _ ?_
          rw [hd, readG_u hx (by omega)]
          clear hR fin
          generalize l.getD i 0 = x at *
          first
            | (rw [if_pos (by constructor <;> first | omega | (exact .inl (by omega)) | (exact .inr (by first | assumption | (constructor <;> assumption))))]; done)
            | (rw [if_neg (by rintro ⟨e1, e2⟩; rcases e2 with e2 | e2 <;> first | omega | contradiction | (exact e2.1 (by assumption)) | (exact e2.2 (by assumption))), if_pos (by omega)]; done)
            | (rw [if_neg (by rintro ⟨e1, e2⟩; rcases e2 with e2 | e2 <;> first | omega | contradiction | (exact e2.1 (by assumption)) | (exact e2.2 (by assumption))), if_pos (by omega), if_pos (by constructor <;> assumption)]; done)
            | (rw [if_neg (by rintro ⟨e1, e2⟩; rcases e2 with e2 | e2 <;> first | omega | contradiction | (exact e2.1 (by assumption)) | (exact e2.2 (by assumption))), if_pos (by omega), if_neg (by rintro ⟨e1, e2⟩; first | omega | contradiction)]; done)
        · have rc9 := c9
          replace c9 : 128 ≤ l.getD i 0 := ltI_f c9
          refine ⟨q_add (by omega), ?_⟩
          have hd := drop_cons (l := l) (k := i) (by omega)
          have hx := getD_lt hb.lt i
          refine ⟨100 - (i + 1), by omega, rfl, i + 1, _, rfl, rfl, by omega, or64 hv (Nat.mod_lt _ (by decide)), ?_⟩
          rw [← hR, hd, readG_u hx (by omega), if_neg (by omega), if_neg (by omega)]
  · have rc1 := c1
    replace c1 : 5 ≤ i := ltI_f c1
    exact absurd c1 (by omega)
theorem num32u_loop {call : CallT} {N : Nat} {t : T} {h : Hp} {B : Nat} {vb : AV} {l : List Nat} (hb : Bytes B h vb l) (hk2 : l.length < 9223372036854775000) (hN : 100 < N)
    (h0 : slots [0, 1, 2, 6, 7, 8, 9, 10, 11] t = [some vb, some (AV.int .i64 (.ofNat 32)), some (AV.bool false), some (AV.int .u64 (.ofNat 0)), some (AV.int .i64 (.ofNat 0)), some (AV.int .i64 (.ofNat 0)), some (AV.int .u64 (.ofNat 0)), some (AV.int .i64 (.ofNat 5)), some (AV.int .i64 (.ofNat 0))]) :
    ∃ t', evC call N (.loop numC) t h = .ret t' h ∧ Has [(6, .int .u64 (.ofNat (readG 32 false l 0 0 0).1)), (7, .int .i64 (.ofNat (readG 32 false l 0 0 0).2.1)), (8, .int .i64 (.ofNat (readG 32 false l 0 0 0).2.2))] t' := by
  refine Exists.elim (loop_ok (call := call) (N := N) (body := numC) [0, 1, 2, 6, 7, 8, 9, 10, 11]
    (fun n ls h' => h' = h ∧ ∃ i v, ls = [some vb, some (AV.int .i64 (.ofNat 32)), some (AV.bool false), some (AV.int .u64 (.ofNat 0)), some (AV.int .i64 (.ofNat 0)), some (AV.int .i64 (.ofNat 0)), some (AV.int .u64 (.ofNat v)), some (AV.int .i64 (.ofNat 5)), some (AV.int .i64 (.ofNat i))] ∧ n = 100 - i ∧ i < 5 ∧ v < 18446744073709551616 ∧ readG 32 false (l.drop i) (7 * i) i v = readG 32 false l 0 0 0)
    (fun _ _ _ => False)
    (fun ls h' => h' = h ∧ ∃ w i', ls = [some vb, some (AV.int .i64 (.ofNat 32)), some (AV.bool false), some (AV.int .u64 (.ofNat (readG 32 false l 0 0 0).1)), some (AV.int .i64 (.ofNat (readG 32 false l 0 0 0).2.1)), some (AV.int .i64 (.ofNat (readG 32 false l 0 0 0).2.2)), some (AV.int .u64 (.ofNat w)), some (AV.int .i64 (.ofNat 5)), some (AV.int .i64 (.ofNat i'))]) ?_ 100 (by omega) t h ⟨rfl, 0, 0, h0, rfl, by decide, by decide, rfl⟩) ?_
  rotate_left
  · rintro s ⟨e, hs⟩
    cases s with
    | no => exact hs.elim
    | nor t' h' => exact hs.elim
    | exit i t' h' => exact hs.elim
    | ret t' h' =>
      obtain ⟨rfl, w, i', hh⟩ := hs
      refine ⟨t', e, ?_⟩
      have hh : [tget (pathOf 0) t', tget (pathOf 1) t', tget (pathOf 2) t', tget (pathOf 6) t', tget (pathOf 7) t', tget (pathOf 8) t', tget (pathOf 9) t', tget (pathOf 10) t', tget (pathOf 11) t'] = _ := hh
      simp only [List.cons.injEq] at hh
      obtain ⟨-, -, -, g6, g7, g8, -⟩ := hh
      show [tget (pathOf 6) t', tget (pathOf 7) t', tget (pathOf 8) t'] = _
      rw [g6, g7, g8]; rfl
  · rintro n t h' ⟨rfl, i, v, hsl, rfl, hi, hv, hR⟩
    rw [← ovT_eq (l := [(0, vb), (1, .int .i64 (.ofNat 32)), (2, .bool false), (6, .int .u64 (.ofNat 0)), (7, .int .i64 (.ofNat 0)), (8, .int .i64 (.ofNat 0)), (9, .int .u64 (.ofNat v)), (10, .int .i64 (.ofNat 5)), (11, .int .i64 (.ofNat i))]) hsl]
    exact num32u_body hb hk2 hv hi hR
theorem num64u_body {call : CallT} {N : Nat} {t : T} {h : Hp} {B : Nat} {vb : AV} {l : List Nat} (hb : Bytes B h vb l) (hk2 : l.length < 9223372036854775000) {v i : Nat} (hv : v < 18446744073709551616) (hi : i < 10) (hR : readG 64 false (l.drop i) (7 * i) i v = readG 64 false l 0 0 0)
    : ∃ s, evC call N numC (ovT [(0, vb), (1, (AV.int .i64 (Int.ofNat 64))), (2, (AV.bool false)), (6, (AV.int .u64 (Int.ofNat 0))), (7, (AV.int .i64 (Int.ofNat 0))), (8, (AV.int .i64 (Int.ofNat 0))), (9, (AV.int .u64 (Int.ofNat v))), (10, (AV.int .i64 (Int.ofNat 10))), (11, (AV.int .i64 (Int.ofNat i)))] t) h = s ∧ obsS [0, 1, 2, 6, 7, 8, 9, 10, 11] (fun ls h' => ∃ m, m < 100 - i ∧ h' = h ∧ ∃ i' v', ls = [some vb, some (AV.int .i64 (.ofNat 64)), some (AV.bool false), some (AV.int .u64 (.ofNat 0)), some (AV.int .i64 (.ofNat 0)), some (AV.int .i64 (.ofNat 0)), some (AV.int .u64 (.ofNat v')), some (AV.int .i64 (.ofNat 10)), some (AV.int .i64 (.ofNat i'))] ∧ m = 100 - i' ∧ i' < 10 ∧ v' < 18446744073709551616 ∧ readG 64 false (l.drop i') (7 * i') i' v' = readG 64 false l 0 0 0) (fun _ _ _ => False) (fun ls h' => h' = h ∧ ∃ w i', ls = [some vb, some (AV.int .i64 (.ofNat 64)), some (AV.bool false), some (AV.int .u64 (.ofNat (readG 64 false l 0 0 0).1)), some (AV.int .i64 (.ofNat (readG 64 false l 0 0 0).2.1)), some (AV.int .i64 (.ofNat (readG 64 false l 0 0 0).2.2)), some (AV.int .u64 (.ofNat w)), some (AV.int .i64 (.ofNat 10)), some (AV.int .i64 (.ofNat i'))]) s := by
  have fin : ∀ X Y Z : Nat, ∀ {w i' : Nat}, readG 64 false (l.drop i) (7 * i) i v = (X, Y, Z) → h = h ∧ ∃ w' i'', [some vb, some (AV.int .i64 (.ofNat 64)), some (AV.bool false), some (AV.int .u64 (.ofNat X)), some (AV.int .i64 (.ofNat Y)), some (AV.int .i64 (.ofNat Z)), some (AV.int .u64 (.ofNat w)), some (AV.int .i64 (.ofNat 10)), some (AV.int .i64 (.ofNat i'))] = [some vb, some (AV.int .i64 (.ofNat 64)), some (AV.bool false), some (AV.int .u64 (.ofNat (readG 64 false l 0 0 0).1)), some (AV.int .i64 (.ofNat (readG 64 false l 0 0 0).2.1)), some (AV.int .i64 (.ofNat (readG 64 false l 0 0 0).2.2)), some (AV.int .u64 (.ofNat w')), some (AV.int .i64 (.ofNat 10)), some (AV.int .i64 (.ofNat i''))] := by
    intro X Y Z w i' e
    rw [hR] at e
    rw [e]
    exact ⟨rfl, w, i', rfl⟩
  refine walk_ok (o := (.fork 2 (.tell 2 (AV.int .i64 (Int.ofNat l.length)) (.fork 0 .fin (.tell 2 (elemP vb i 1) (.tell 0 (AV.int .u8 (Int.ofNat (l.getD i 0))) (.tell 2 (AV.int .u8 (Int.ofNat ((l.getD i 0) &&& 127))) (.tell 0 (AV.int .u64 (Int.ofNat ((l.getD i 0) &&& 127))) (.fork 4 (.tell 2 (AV.int .i64 (Int.ofNat (7 * i))) (.tell 0 (AV.int .i64 (Int.ofNat (64 - (7 * i)))) (.tell 3 (AV.int .u64 (Int.ofNat (((l.getD i 0) &&& 127) / 2 ^ (64 - (7 * i))))) (.tell 3 (AV.int .u64 (Int.ofNat (127 / 2 ^ (64 - (7 * i))))) (.fork 4 .fin (.fork 2 .fin (.tell 5 (AV.int .i64 (Int.ofNat (7 * i))) (.tell 0 (AV.int .u64 (Int.ofNat (((l.getD i 0) &&& 127) * 2 ^ (7 * i) % 18446744073709551616))) (.tell 0 (AV.int .u64 (Int.ofNat (v ||| (((l.getD i 0) &&& 127) * 2 ^ (7 * i) % 18446744073709551616)))) (.tell 2 (AV.bool true) (.tell 7 (AV.int .i64 (Int.ofNat (i + 1))) .fin))))))))))) (.tell 3 (AV.int .i64 (Int.ofNat (7 * i))) (.tell 0 (AV.int .u64 (Int.ofNat (((l.getD i 0) &&& 127) * 2 ^ (7 * i) % 18446744073709551616))) (.tell 0 (AV.int .u64 (Int.ofNat (v ||| (((l.getD i 0) &&& 127) * 2 ^ (7 * i) % 18446744073709551616)))) (.fork 2 (.tell 7 (AV.int .i64 (Int.ofNat (i + 1))) .fin) (.tell 1 (AV.int .i64 (Int.ofNat (i + 1))) .fin)))))))))))) .fin)) (p := ((ltI (Int.ofNat i) (Int.ofNat 10) = true → (evQ (.lenL (.const vb)) .lf H0 = .ok (AV.int .i64 (Int.ofNat l.length)) ∧ ((notB (ltI (Int.ofNat i) (Int.ofNat l.length)) = true → ((fun ls h' => h' = h ∧ ∃ w i', ls = [some vb, some (AV.int .i64 (.ofNat 64)), some (AV.bool false), some (AV.int .u64 (.ofNat (readG 64 false l 0 0 0).1)), some (AV.int .i64 (.ofNat (readG 64 false l 0 0 0).2.1)), some (AV.int .i64 (.ofNat (readG 64 false l 0 0 0).2.2)), some (AV.int .u64 (.ofNat w)), some (AV.int .i64 (.ofNat 10)), some (AV.int .i64 (.ofNat i'))]) : List (Option AV) → Hp → Prop) [some vb, some (AV.int .i64 (Int.ofNat 64)), some (AV.bool false), some (AV.int .u64 (Int.ofNat 0)), some (AV.int .i64 (Int.ofNat 0)), some (AV.int .i64 (Int.ofNat 3)), some (AV.int .u64 (Int.ofNat v)), some (AV.int .i64 (Int.ofNat 10)), some (AV.int .i64 (Int.ofNat i))] h) ∧ (notB (ltI (Int.ofNat i) (Int.ofNat l.length)) = false → (evQ (.idxAddrSl 1 (.const vb) (.const (AV.int .i64 (Int.ofNat i)))) .lf H0 = .ok (elemP vb i 1) ∧ (evQ (.loadS (.const (elemP vb i 1))) .lf h = .ok (AV.int .u8 (Int.ofNat (l.getD i 0))) ∧ (evQ (.bin .and (.const (AV.int .u8 (Int.ofNat (l.getD i 0)))) (.const (AV.int .u8 (Int.ofNat 127)))) .lf H0 = .ok (AV.int .u8 (Int.ofNat ((l.getD i 0) &&& 127))) ∧ (evQ (.toInt .u64 (.const (AV.int .u8 (Int.ofNat ((l.getD i 0) &&& 127))))) .lf H0 = .ok (AV.int .u64 (Int.ofNat ((l.getD i 0) &&& 127))) ∧ ((eqI (Int.ofNat i) (Int.ofNat 9) = true → (evQ (.bin .mul (.const (AV.int .i64 (Int.ofNat 7))) (.const (AV.int .i64 (Int.ofNat i)))) .lf H0 = .ok (AV.int .i64 (Int.ofNat (7 * i))) ∧ (evQ (.bin .sub (.const (AV.int .i64 (Int.ofNat 64))) (.const (AV.int .i64 (Int.ofNat (7 * i))))) .lf H0 = .ok (AV.int .i64 (Int.ofNat (64 - (7 * i)))) ∧ (evQ (.bin .shr (.const (AV.int .u64 (Int.ofNat ((l.getD i 0) &&& 127)))) (.const (AV.int .i64 (Int.ofNat (64 - (7 * i)))))) .lf H0 = .ok (AV.int .u64 (Int.ofNat (((l.getD i 0) &&& 127) / 2 ^ (64 - (7 * i))))) ∧ (evQ (.bin .shr (.const (AV.int .u64 (Int.ofNat 127))) (.const (AV.int .i64 (Int.ofNat (64 - (7 * i)))))) .lf H0 = .ok (AV.int .u64 (Int.ofNat (127 / 2 ^ (64 - (7 * i))))) ∧ ((notB (ltI (Int.ofNat (l.getD i 0)) (Int.ofNat 128)) = true → ((fun ls h' => h' = h ∧ ∃ w i', ls = [some vb, some (AV.int .i64 (.ofNat 64)), some (AV.bool false), some (AV.int .u64 (.ofNat (readG 64 false l 0 0 0).1)), some (AV.int .i64 (.ofNat (readG 64 false l 0 0 0).2.1)), some (AV.int .i64 (.ofNat (readG 64 false l 0 0 0).2.2)), some (AV.int .u64 (.ofNat w)), some (AV.int .i64 (.ofNat 10)), some (AV.int .i64 (.ofNat i'))]) : List (Option AV) → Hp → Prop) [some vb, some (AV.int .i64 (Int.ofNat 64)), some (AV.bool false), some (AV.int .u64 (Int.ofNat 0)), some (AV.int .i64 (Int.ofNat 0)), some (AV.int .i64 (Int.ofNat 2)), some (AV.int .u64 (Int.ofNat v)), some (AV.int .i64 (Int.ofNat 10)), some (AV.int .i64 (Int.ofNat i))] h) ∧ (notB (ltI (Int.ofNat (l.getD i 0)) (Int.ofNat 128)) = false → ((notB (eqI (Int.ofNat (((l.getD i 0) &&& 127) / 2 ^ (64 - (7 * i)))) (Int.ofNat 0)) = true → ((fun ls h' => h' = h ∧ ∃ w i', ls = [some vb, some (AV.int .i64 (.ofNat 64)), some (AV.bool false), some (AV.int .u64 (.ofNat (readG 64 false l 0 0 0).1)), some (AV.int .i64 (.ofNat (readG 64 false l 0 0 0).2.1)), some (AV.int .i64 (.ofNat (readG 64 false l 0 0 0).2.2)), some (AV.int .u64 (.ofNat w)), some (AV.int .i64 (.ofNat 10)), some (AV.int .i64 (.ofNat i'))]) : List (Option AV) → Hp → Prop) [some vb, some (AV.int .i64 (Int.ofNat 64)), some (AV.bool false), some (AV.int .u64 (Int.ofNat 0)), some (AV.int .i64 (Int.ofNat 0)), some (AV.int .i64 (Int.ofNat 2)), some (AV.int .u64 (Int.ofNat v)), some (AV.int .i64 (Int.ofNat 10)), some (AV.int .i64 (Int.ofNat i))] h) ∧ (notB (eqI (Int.ofNat (((l.getD i 0) &&& 127) / 2 ^ (64 - (7 * i)))) (Int.ofNat 0)) = false → (evQ (.bin .mul (.const (AV.int .i64 (Int.ofNat 7))) (.const (AV.int .i64 (Int.ofNat i)))) .lf H0 = .ok (AV.int .i64 (Int.ofNat (7 * i))) ∧ (evQ (.bin .shl (.const (AV.int .u64 (Int.ofNat ((l.getD i 0) &&& 127)))) (.const (AV.int .i64 (Int.ofNat (7 * i))))) .lf H0 = .ok (AV.int .u64 (Int.ofNat (((l.getD i 0) &&& 127) * 2 ^ (7 * i) % 18446744073709551616))) ∧ (evQ (.bin .or (.const (AV.int .u64 (Int.ofNat v))) (.const (AV.int .u64 (Int.ofNat (((l.getD i 0) &&& 127) * 2 ^ (7 * i) % 18446744073709551616))))) .lf H0 = .ok (AV.int .u64 (Int.ofNat (v ||| (((l.getD i 0) &&& 127) * 2 ^ (7 * i) % 18446744073709551616)))) ∧ (evQ (.bin .lss (.const (AV.int .u8 (Int.ofNat (l.getD i 0)))) (.const (AV.int .u8 (Int.ofNat 128)))) .lf H0 = .ok (AV.bool true) ∧ (evQ (.bin .add (.const (AV.int .i64 (Int.ofNat i))) (.const (AV.int .i64 (Int.ofNat 1)))) .lf H0 = .ok (AV.int .i64 (Int.ofNat (i + 1))) ∧ ((fun ls h' => h' = h ∧ ∃ w i', ls = [some vb, some (AV.int .i64 (.ofNat 64)), some (AV.bool false), some (AV.int .u64 (.ofNat (readG 64 false l 0 0 0).1)), some (AV.int .i64 (.ofNat (readG 64 false l 0 0 0).2.1)), some (AV.int .i64 (.ofNat (readG 64 false l 0 0 0).2.2)), some (AV.int .u64 (.ofNat w)), some (AV.int .i64 (.ofNat 10)), some (AV.int .i64 (.ofNat i'))]) : List (Option AV) → Hp → Prop) [some vb, some (AV.int .i64 (Int.ofNat 64)), some (AV.bool false), some (AV.int .u64 (Int.ofNat (v ||| (((l.getD i 0) &&& 127) * 2 ^ (7 * i) % 18446744073709551616)))), some (AV.int .i64 (Int.ofNat (i + 1))), some (AV.int .i64 (Int.ofNat 0)), some (AV.int .u64 (Int.ofNat (v ||| (((l.getD i 0) &&& 127) * 2 ^ (7 * i) % 18446744073709551616)))), some (AV.int .i64 (Int.ofNat 10)), some (AV.int .i64 (Int.ofNat i))] h)))))))))))))) ∧ (eqI (Int.ofNat i) (Int.ofNat 9) = false → (evQ (.bin .mul (.const (AV.int .i64 (Int.ofNat 7))) (.const (AV.int .i64 (Int.ofNat i)))) .lf H0 = .ok (AV.int .i64 (Int.ofNat (7 * i))) ∧ (evQ (.bin .shl (.const (AV.int .u64 (Int.ofNat ((l.getD i 0) &&& 127)))) (.const (AV.int .i64 (Int.ofNat (7 * i))))) .lf H0 = .ok (AV.int .u64 (Int.ofNat (((l.getD i 0) &&& 127) * 2 ^ (7 * i) % 18446744073709551616))) ∧ (evQ (.bin .or (.const (AV.int .u64 (Int.ofNat v))) (.const (AV.int .u64 (Int.ofNat (((l.getD i 0) &&& 127) * 2 ^ (7 * i) % 18446744073709551616))))) .lf H0 = .ok (AV.int .u64 (Int.ofNat (v ||| (((l.getD i 0) &&& 127) * 2 ^ (7 * i) % 18446744073709551616)))) ∧ ((ltI (Int.ofNat (l.getD i 0)) (Int.ofNat 128) = true → (evQ (.bin .add (.const (AV.int .i64 (Int.ofNat i))) (.const (AV.int .i64 (Int.ofNat 1)))) .lf H0 = .ok (AV.int .i64 (Int.ofNat (i + 1))) ∧ ((fun ls h' => h' = h ∧ ∃ w i', ls = [some vb, some (AV.int .i64 (.ofNat 64)), some (AV.bool false), some (AV.int .u64 (.ofNat (readG 64 false l 0 0 0).1)), some (AV.int .i64 (.ofNat (readG 64 false l 0 0 0).2.1)), some (AV.int .i64 (.ofNat (readG 64 false l 0 0 0).2.2)), some (AV.int .u64 (.ofNat w)), some (AV.int .i64 (.ofNat 10)), some (AV.int .i64 (.ofNat i'))]) : List (Option AV) → Hp → Prop) [some vb, some (AV.int .i64 (Int.ofNat 64)), some (AV.bool false), some (AV.int .u64 (Int.ofNat (v ||| (((l.getD i 0) &&& 127) * 2 ^ (7 * i) % 18446744073709551616)))), some (AV.int .i64 (Int.ofNat (i + 1))), some (AV.int .i64 (Int.ofNat 0)), some (AV.int .u64 (Int.ofNat (v ||| (((l.getD i 0) &&& 127) * 2 ^ (7 * i) % 18446744073709551616)))), some (AV.int .i64 (Int.ofNat 10)), some (AV.int .i64 (Int.ofNat i))] h)) ∧ (ltI (Int.ofNat (l.getD i 0)) (Int.ofNat 128) = false → (evQ (.bin .add (.const (AV.int .i64 (Int.ofNat i))) (.const (AV.int .i64 (Int.ofNat 1)))) .lf H0 = .ok (AV.int .i64 (Int.ofNat (i + 1))) ∧ ((fun ls h' => ∃ m, m < 100 - i ∧ h' = h ∧ ∃ i' v', ls = [some vb, some (AV.int .i64 (.ofNat 64)), some (AV.bool false), some (AV.int .u64 (.ofNat 0)), some (AV.int .i64 (.ofNat 0)), some (AV.int .i64 (.ofNat 0)), some (AV.int .u64 (.ofNat v')), some (AV.int .i64 (.ofNat 10)), some (AV.int .i64 (.ofNat i'))] ∧ m = 100 - i' ∧ i' < 10 ∧ v' < 18446744073709551616 ∧ readG 64 false (l.drop i') (7 * i') i' v' = readG 64 false l 0 0 0) : List (Option AV) → Hp → Prop) [some vb, some (AV.int .i64 (Int.ofNat 64)), some (AV.bool false), some (AV.int .u64 (Int.ofNat 0)), some (AV.int .i64 (Int.ofNat 0)), some (AV.int .i64 (Int.ofNat 0)), some (AV.int .u64 (Int.ofNat (v ||| (((l.getD i 0) &&& 127) * 2 ^ (7 * i) % 18446744073709551616)))), some (AV.int .i64 (Int.ofNat 10)), some (AV.int .i64 (Int.ofNat (i + 1)))] h)))))))))))))))) ∧ (ltI (Int.ofNat i) (Int.ofNat 10) = false → ((fun _ _ _ => False) : Nat → List (Option AV) → Hp → Prop) 0 [some vb, some (AV.int .i64 (Int.ofNat 64)), some (AV.bool false), some (AV.int .u64 (Int.ofNat 0)), some (AV.int .i64 (Int.ofNat 0)), some (AV.int .i64 (Int.ofNat 0)), some (AV.int .u64 (Int.ofNat v)), some (AV.int .i64 (Int.ofNat 10)), some (AV.int .i64 (Int.ofNat i))] h))) (by kernel_rfl) ?_
  refine ⟨fun c1 => ?_, fun c1 => ?_⟩
  · have rc1 := c1
    replace c1 : i < 10 := ltI_t c1
    refine ⟨q_len hb, ?_⟩
    refine ⟨fun c2 => ?_, fun c2 => ?_⟩
    · have rc2 := c2
      replace c2 : l.length ≤ i := ltI_f (notB_t c2)
      exact fin _ _ _ (by rw [List.drop_eq_nil_of_le (by omega)]; rfl)
    · have rc2 := c2
      replace c2 : i < l.length := ltI_t (notB_f c2)
      refine ⟨q_idxB hb (by omega), ?_⟩
      refine ⟨q_byte hb (by omega), ?_⟩
      have x3 : l.getD i 0 < 256 := getD_lt hb.lt i
      refine ⟨u_and rfl x3 (by decide), ?_⟩
      have g4 : (l.getD i 0) &&& 127 < 256 := Nat.lt_of_le_of_lt Nat.and_le_left x3
      refine ⟨u_conv' rfl (Nat.lt_of_lt_of_le g4 (by decide)), ?_⟩
      have g5 : (l.getD i 0) &&& 127 < 18446744073709551616 := Nat.lt_of_lt_of_le g4 (by decide)
      refine ⟨fun c6 => ?_, fun c6 => ?_⟩
      · have rc6 := c6
        replace c6 : i = 9 := eqI_t c6
        refine ⟨q_mul (by omega), ?_⟩
        refine ⟨q_sub (by omega) (by omega), ?_⟩
        refine ⟨u_shr rfl g5, ?_⟩
        have g7 : ((l.getD i 0) &&& 127) / 2 ^ (64 - (7 * i)) < 18446744073709551616 := Nat.lt_of_le_of_lt (Nat.div_le_self _ _) g5
        refine ⟨u_shr rfl (by decide), ?_⟩
        have g8 : 127 / 2 ^ (64 - (7 * i)) < 18446744073709551616 := Nat.lt_of_le_of_lt (Nat.div_le_self _ _) (by decide)
        refine ⟨fun c9 => ?_, fun c9 => ?_⟩
        · have rc9 := c9
          replace c9 : 128 ≤ l.getD i 0 := ltI_f (notB_t c9)
          have hd := drop_cons (l := l) (k := i) (by omega)
          have hx := getD_lt hb.lt i
          refine fin _ _ _ ?_
          rw [hd, readG_u hx (by omega)]
          clear hR fin
          generalize l.getD i 0 = x at *
          first
            | (rw [if_pos (by constructor <;> first | omega | (exact .inl (by omega)) | (exact .inr (by first | assumption | (constructor <;> assumption))))]; done)
            | (rw [if_neg (by rintro ⟨e1, e2⟩; rcases e2 with e2 | e2 <;> first | omega | contradiction | (exact e2.1 (by assumption)) | (exact e2.2 (by assumption))), if_pos (by omega)]; done)
            | (rw [if_neg (by rintro ⟨e1, e2⟩; rcases e2 with e2 | e2 <;> first | omega | contradiction | (exact e2.1 (by assumption)) | (exact e2.2 (by assumption))), if_pos (by omega), if_pos (by constructor <;> assumption)]; done)
            | (rw [if_neg (by rintro ⟨e1, e2⟩; rcases e2 with e2 | e2 <;> first | omega | contradiction | (exact e2.1 (by assumption)) | (exact e2.2 (by assumption))), if_pos (by omega), if_neg (by rintro ⟨e1, e2⟩; first | omega | contradiction)]; done)
        · have rc9 := c9
          replace c9 : l.getD i 0 < 128 := ltI_t (notB_f c9)
          refine ⟨fun c10 => ?_, fun c10 => ?_⟩
          · have rc10 := c10
            replace c10 : ((l.getD i 0) &&& 127) / 2 ^ (64 - (7 * i)) ≠ 0 := eqI_f (notB_t c10)
            have hd := drop_cons (l := l) (k := i) (by omega)
            have hx := getD_lt hb.lt i
            refine fin _ _ _ ?_
            rw [hd, readG_u hx (by omega)]
            clear hR fin
            generalize l.getD i 0 = x at *
            first
              | (rw [if_pos (by constructor <;> first | omega | (exact .inl (by omega)) | (exact .inr (by first | assumption | (constructor <;> assumption))))]; done)
              | (rw [if_neg (by rintro ⟨e1, e2⟩; rcases e2 with e2 | e2 <;> first | omega | contradiction | (exact e2.1 (by assumption)) | (exact e2.2 (by assumption))), if_pos (by omega)]; done)
              | (rw [if_neg (by rintro ⟨e1, e2⟩; rcases e2 with e2 | e2 <;> first | omega | contradiction | (exact e2.1 (by assumption)) | (exact e2.2 (by assumption))), if_pos (by omega), if_pos (by constructor <;> assumption)]; done)
              | (rw [if_neg (by rintro ⟨e1, e2⟩; rcases e2 with e2 | e2 <;> first | omega | contradiction | (exact e2.1 (by assumption)) | (exact e2.2 (by assumption))), if_pos (by omega), if_neg (by rintro ⟨e1, e2⟩; first | omega | contradiction)]; done)
          · have rc10 := c10
            replace c10 : ((l.getD i 0) &&& 127) / 2 ^ (64 - (7 * i)) = 0 := eqI_t (notB_f c10)
            refine ⟨q_mul (by omega), ?_⟩
            refine ⟨u_shl rfl, ?_⟩
            have g11 : ((l.getD i 0) &&& 127) * 2 ^ (7 * i) % 18446744073709551616 < 18446744073709551616 := Nat.mod_lt _ (by decide)
            refine ⟨u_or rfl hv g11, ?_⟩
            have g12 : v ||| (((l.getD i 0) &&& 127) * 2 ^ (7 * i) % 18446744073709551616) < 18446744073709551616 := Nat.or_lt_two_pow (n := 64) hv g11
            refine ⟨congrArg (fun z => OV.ok (AV.bool z)) (notB_f rc9), ?_⟩
            refine ⟨q_add (by omega), ?_⟩
            have hd := drop_cons (l := l) (k := i) (by omega)
            have hx := getD_lt hb.lt i
            refine fin _ _ _ ?_
            rw [hd, readG_u hx (by omega)]
            clear hR fin
            generalize l.getD i 0 = x at *
            first
              | (rw [if_pos (by constructor <;> first | omega | (exact .inl (by omega)) | (exact .inr (by first | assumption | (constructor <;> assumption))))]; done)
              | (rw [if_neg (by rintro ⟨e1, e2⟩; rcases e2 with e2 | e2 <;> first | omega | contradiction | (exact e2.1 (by assumption)) | (exact e2.2 (by assumption))), if_pos (by omega)]; done)
              | (rw [if_neg (by rintro ⟨e1, e2⟩; rcases e2 with e2 | e2 <;> first | omega | contradiction | (exact e2.1 (by assumption)) | (exact e2.2 (by assumption))), if_pos (by omega), if_pos (by constructor <;> assumption)]; done)
              | (rw [if_neg (by rintro ⟨e1, e2⟩; rcases e2 with e2 | e2 <;> first | omega | contradiction | (exact e2.1 (by assumption)) | (exact e2.2 (by assumption))), if_pos (by omega), if_neg (by rintro ⟨e1, e2⟩; first | omega | contradiction)]; done)
      · have rc6 := c6
        replace c6 : i ≠ 9 := eqI_f c6
        refine ⟨q_mul (by omega), ?_⟩
        refine ⟨u_shl rfl, ?_⟩
        have g7 : ((l.getD i 0) &&& 127) * 2 ^ (7 * i) % 18446744073709551616 < 18446744073709551616 := Nat.mod_lt _ (by decide)
        refine ⟨u_or rfl hv g7, ?_⟩
        have g8 : v ||| (((l.getD i 0) &&& 127) * 2 ^ (7 * i) % 18446744073709551616) < 18446744073709551616 := Nat.or_lt_two_pow (n := 64) hv g7
        refine ⟨fun c9 => ?_, fun c9 => ?_⟩
        · have rc9 := c9
          replace c9 : l.getD i 0 < 128 := ltI_t c9
          refine ⟨q_add (by omega), ?_⟩
          have hd := drop_cons (l := l) (k := i) (by omega)
          have hx := getD_lt hb.lt i
          refine fin _ _ _ ?_
          rw [hd, readG_u hx (by omega)]
          clear hR fin
          generalize l.getD i 0 = x at *
          first
            | (rw [if_pos (by constructor <;> first | omega | (exact .inl (by omega)) | (exact .inr (by first | assumption | (constructor <;> assumption))))]; done)
            | (rw [if_neg (by rintro ⟨e1, e2⟩; rcases e2 with e2 | e2 <;> first | omega | contradiction | (exact e2.1 (by assumption)) | (exact e2.2 (by assumption))), if_pos (by omega)]; done)
            | (rw [if_neg (by rintro ⟨e1, e2⟩; rcases e2 with e2 | e2 <;> first | omega | contradiction | (exact e2.1 (by assumption)) | (exact e2.2 (by assumption))), if_pos (by omega), if_pos (by constructor <;> assumption)]; done)
            | (rw [if_neg (by rintro ⟨e1, e2⟩; rcases e2 with e2 | e2 <;> first | omega | contradiction | (exact e2.1 (by assumption)) | (exact e2.2 (by assumption))), if_pos (by omega), if_neg (by rintro ⟨e1, e2⟩; first | omega | contradiction)]; done)
        · have rc9 := c9
          replace c9 : 128 ≤ l.getD i 0 := ltI_f c9
          refine ⟨q_add (by omega), ?_⟩
          have hd := drop_cons (l := l) (k := i) (by omega)
          have hx := getD_lt hb.lt i
          refine ⟨100 - (i + 1), by omega, rfl, i + 1, _, rfl, rfl, by omega, or64 hv (Nat.mod_lt _ (by decide)), ?_⟩
          rw [← hR, hd, readG_u hx (by omega), if_neg (by omega), if_neg (by omega)]
  · have rc1 := c1
    replace c1 : 10 ≤ i := ltI_f c1
    exact absurd c1 (by omega)
theorem num64u_loop {call : CallT} {N : Nat} {t : T} {h : Hp} {B : Nat} {vb : AV} {l : List Nat} (hb : Bytes B h vb l) (hk2 : l.length < 9223372036854775000) (hN : 100 < N)
    (h0 : slots [0, 1, 2, 6, 7, 8, 9, 10, 11] t = [some vb, some (AV.int .i64 (.ofNat 64)), some (AV.bool false), some (AV.int .u64 (.ofNat 0)), some (AV.int .i64 (.ofNat 0)), some (AV.int .i64 (.ofNat 0)), some (AV.int .u64 (.ofNat 0)), some (AV.int .i64 (.ofNat 10)), some (AV.int .i64 (.ofNat 0))]) :
    ∃ t', evC call N (.loop numC) t h = .ret t' h ∧ Has [(6, .int .u64 (.ofNat (readG 64 false l 0 0 0).1)), (7, .int .i64 (.ofNat (readG 64 false l 0 0 0).2.1)), (8, .int .i64 (.ofNat (readG 64 false l 0 0 0).2.2))] t' := by
  refine Exists.elim (loop_ok (call := call) (N := N) (body := numC) [0, 1, 2, 6, 7, 8, 9, 10, 11]
    (fun n ls h' => h' = h ∧ ∃ i v, ls = [some vb, some (AV.int .i64 (.ofNat 64)), some (AV.bool false), some (AV.int .u64 (.ofNat 0)), some (AV.int .i64 (.ofNat 0)), some (AV.int .i64 (.ofNat 0)), some (AV.int .u64 (.ofNat v)), some (AV.int .i64 (.ofNat 10)), some (AV.int .i64 (.ofNat i))] ∧ n = 100 - i ∧ i < 10 ∧ v < 18446744073709551616 ∧ readG 64 false (l.drop i) (7 * i) i v = readG 64 false l 0 0 0)
    (fun _ _ _ => False)
    (fun ls h' => h' = h ∧ ∃ w i', ls = [some vb, some (AV.int .i64 (.ofNat 64)), some (AV.bool false), some (AV.int .u64 (.ofNat (readG 64 false l 0 0 0).1)), some (AV.int .i64 (.ofNat (readG 64 false l 0 0 0).2.1)), some (AV.int .i64 (.ofNat (readG 64 false l 0 0 0).2.2)), some (AV.int .u64 (.ofNat w)), some (AV.int .i64 (.ofNat 10)), some (AV.int .i64 (.ofNat i'))]) ?_ 100 (by omega) t h ⟨rfl, 0, 0, h0, rfl, by decide, by decide, rfl⟩) ?_
  rotate_left
  · rintro s ⟨e, hs⟩
    cases s with
    | no => exact hs.elim
    | nor t' h' => exact hs.elim
    | exit i t' h' => exact hs.elim
    | ret t' h' =>
      obtain ⟨rfl, w, i', hh⟩ := hs
      refine ⟨t', e, ?_⟩
      have hh : [tget (pathOf 0) t', tget (pathOf 1) t', tget (pathOf 2) t', tget (pathOf 6) t', tget (pathOf 7) t', tget (pathOf 8) t', tget (pathOf 9) t', tget (pathOf 10) t', tget (pathOf 11) t'] = _ := hh
      simp only [List.cons.injEq] at hh
      obtain ⟨-, -, -, g6, g7, g8, -⟩ := hh
      show [tget (pathOf 6) t', tget (pathOf 7) t', tget (pathOf 8) t'] = _
      rw [g6, g7, g8]; rfl
  · rintro n t h' ⟨rfl, i, v, hsl, rfl, hi, hv, hR⟩
    rw [← ovT_eq (l := [(0, vb), (1, .int .i64 (.ofNat 64)), (2, .bool false), (6, .int .u64 (.ofNat 0)), (7, .int .i64 (.ofNat 0)), (8, .int .i64 (.ofNat 0)), (9, .int .u64 (.ofNat v)), (10, .int .i64 (.ofNat 10)), (11, .int .i64 (.ofNat i))]) hsl]
    exact num64u_body hb hk2 hv hi hR
theorem num32s_body {call : CallT} {N : Nat} {t : T} {h : Hp} {B : Nat} {vb : AV} {l : List Nat} (hb : Bytes B h vb l) (hk2 : l.length < 9223372036854775000) {v i : Nat} (hv : v < 18446744073709551616) (hi : i < 5) (hR : readG 32 true (l.drop i) (7 * i) i v = readG 32 true l 0 0 0)
    : ∃ s, evC call N numC (ovT [(0, vb), (1, (AV.int .i64 (Int.ofNat 32))), (2, (AV.bool true)), (6, (AV.int .u64 (Int.ofNat 0))), (7, (AV.int .i64 (Int.ofNat 0))), (8, (AV.int .i64 (Int.ofNat 0))), (9, (AV.int .u64 (Int.ofNat v))), (10, (AV.int .i64 (Int.ofNat 5))), (11, (AV.int .i64 (Int.ofNat i)))] t) h = s ∧ obsS [0, 1, 2, 6, 7, 8, 9, 10, 11] (fun ls h' => ∃ m, m < 100 - i ∧ h' = h ∧ ∃ i' v', ls = [some vb, some (AV.int .i64 (.ofNat 32)), some (AV.bool true), some (AV.int .u64 (.ofNat 0)), some (AV.int .i64 (.ofNat 0)), some (AV.int .i64 (.ofNat 0)), some (AV.int .u64 (.ofNat v')), some (AV.int .i64 (.ofNat 5)), some (AV.int .i64 (.ofNat i'))] ∧ m = 100 - i' ∧ i' < 5 ∧ v' < 18446744073709551616 ∧ readG 32 true (l.drop i') (7 * i') i' v' = readG 32 true l 0 0 0) (fun _ _ _ => False) (fun ls h' => h' = h ∧ ∃ w i', ls = [some vb, some (AV.int .i64 (.ofNat 32)), some (AV.bool true), some (AV.int .u64 (.ofNat (readG 32 true l 0 0 0).1)), some (AV.int .i64 (.ofNat (readG 32 true l 0 0 0).2.1)), some (AV.int .i64 (.ofNat (readG 32 true l 0 0 0).2.2)), some (AV.int .u64 (.ofNat w)), some (AV.int .i64 (.ofNat 5)), some (AV.int .i64 (.ofNat i'))]) s := by
  have fin : ∀ X Y Z : Nat, ∀ {w i' : Nat}, readG 32 true (l.drop i) (7 * i) i v = (X, Y, Z) → h = h ∧ ∃ w' i'', [some vb, some (AV.int .i64 (.ofNat 32)), some (AV.bool true), some (AV.int .u64 (.ofNat X)), some (AV.int .i64 (.ofNat Y)), some (AV.int .i64 (.ofNat Z)), some (AV.int .u64 (.ofNat w)), some (AV.int .i64 (.ofNat 5)), some (AV.int .i64 (.ofNat i'))] = [some vb, some (AV.int .i64 (.ofNat 32)), some (AV.bool true), some (AV.int .u64 (.ofNat (readG 32 true l 0 0 0).1)), some (AV.int .i64 (.ofNat (readG 32 true l 0 0 0).2.1)), some (AV.int .i64 (.ofNat (readG 32 true l 0 0 0).2.2)), some (AV.int .u64 (.ofNat w')), some (AV.int .i64 (.ofNat 5)), some (AV.int .i64 (.ofNat i''))] := by
    intro X Y Z w i' e
    rw [hR] at e
    rw [e]
    exact ⟨rfl, w, i', rfl⟩
  refine walk_ok (o := (.fork 2 (.tell 2 (AV.int .i64 (Int.ofNat l.length)) (.fork 0 .fin (.tell 2 (elemP vb i 1) (.tell 0 (AV.int .u8 (Int.ofNat (l.getD i 0))) (.tell 2 (AV.int .u8 (Int.ofNat ((l.getD i 0) &&& 127))) (.tell 0 (AV.int .u64 (Int.ofNat ((l.getD i 0) &&& 127))) (.fork 4 (.tell 2 (AV.int .i64 (Int.ofNat (7 * i))) (.tell 0 (AV.int .i64 (Int.ofNat (32 - (7 * i)))) (.tell 3 (AV.int .u64 (Int.ofNat (((l.getD i 0) &&& 127) / 2 ^ (32 - (7 * i))))) (.tell 4 (AV.int .i64 (Int.ofNat ((32 - (7 * i)) - 1))) (.tell 0 (AV.int .u64 (Int.ofNat (((l.getD i 0) &&& 127) / 2 ^ ((32 - (7 * i)) - 1)))) (.tell 2 (AV.int .u64 (Int.ofNat (127 / 2 ^ (32 - (7 * i))))) (.tell 3 (AV.int .i64 (Int.ofNat ((32 - (7 * i)) - 1))) (.tell 0 (AV.int .u64 (Int.ofNat (127 / 2 ^ ((32 - (7 * i)) - 1)))) (.fork 3 .fin (.fork 2 (.fork 8 .fin (.tell 3 (AV.int .i64 (Int.ofNat (7 * i))) (.tell 0 (AV.int .u64 (Int.ofNat (((l.getD i 0) &&& 127) * 2 ^ (7 * i) % 18446744073709551616))) (.tell 0 (AV.int .u64 (Int.ofNat (v ||| (((l.getD i 0) &&& 127) * 2 ^ (7 * i) % 18446744073709551616)))) (.tell 2 (AV.bool true) (.tell 3 (AV.int .u8 (Int.ofNat ((l.getD i 0) &&& 64))) (.fork 2 (.tell 1 (AV.int .i64 (Int.ofNat (7 * i))) (.tell 0 (AV.int .i64 (Int.ofNat ((7 * i) + 7))) (.fork 1 (.tell 2 (AV.int .i64 (Int.ofNat (7 * i))) (.tell 0 (AV.int .i64 (Int.ofNat ((7 * i) + 7))) (.tell 0 (AV.int .u64 (Int.ofNat (18446744073709551615 * 2 ^ ((7 * i) + 7) % 18446744073709551616))) (.tell 0 (AV.int .u64 (Int.ofNat ((v ||| (((l.getD i 0) &&& 127) * 2 ^ (7 * i) % 18446744073709551616)) ||| (18446744073709551615 * 2 ^ ((7 * i) + 7) % 18446744073709551616)))) (.tell 3 (AV.int .i64 (Int.ofNat (i + 1))) .fin))))) (.tell 2 (AV.int .i64 (Int.ofNat (i + 1))) .fin)))) (.tell 3 (AV.int .i64 (Int.ofNat (i + 1))) .fin)))))))) (.tell 5 (AV.int .i64 (Int.ofNat (7 * i))) (.tell 0 (AV.int .u64 (Int.ofNat (((l.getD i 0) &&& 127) * 2 ^ (7 * i) % 18446744073709551616))) (.tell 0 (AV.int .u64 (Int.ofNat (v ||| (((l.getD i 0) &&& 127) * 2 ^ (7 * i) % 18446744073709551616)))) (.tell 2 (AV.bool true) (.tell 3 (AV.int .u8 (Int.ofNat ((l.getD i 0) &&& 64))) (.fork 2 (.tell 1 (AV.int .i64 (Int.ofNat (7 * i))) (.tell 0 (AV.int .i64 (Int.ofNat ((7 * i) + 7))) (.fork 1 (.tell 2 (AV.int .i64 (Int.ofNat (7 * i))) (.tell 0 (AV.int .i64 (Int.ofNat ((7 * i) + 7))) (.tell 0 (AV.int .u64 (Int.ofNat (18446744073709551615 * 2 ^ ((7 * i) + 7) % 18446744073709551616))) (.tell 0 (AV.int .u64 (Int.ofNat ((v ||| (((l.getD i 0) &&& 127) * 2 ^ (7 * i) % 18446744073709551616)) ||| (18446744073709551615 * 2 ^ ((7 * i) + 7) % 18446744073709551616)))) (.tell 3 (AV.int .i64 (Int.ofNat (i + 1))) .fin))))) (.tell 2 (AV.int .i64 (Int.ofNat (i + 1))) .fin)))) (.tell 3 (AV.int .i64 (Int.ofNat (i + 1))) .fin))))))))))))))))) (.tell 3 (AV.int .i64 (Int.ofNat (7 * i))) (.tell 0 (AV.int .u64 (Int.ofNat (((l.getD i 0) &&& 127) * 2 ^ (7 * i) % 18446744073709551616))) (.tell 0 (AV.int .u64 (Int.ofNat (v ||| (((l.getD i 0) &&& 127) * 2 ^ (7 * i) % 18446744073709551616)))) (.fork 2 (.tell 3 (AV.int .u8 (Int.ofNat ((l.getD i 0) &&& 64))) (.fork 2 (.tell 1 (AV.int .i64 (Int.ofNat (7 * i))) (.tell 0 (AV.int .i64 (Int.ofNat ((7 * i) + 7))) (.fork 1 (.tell 2 (AV.int .i64 (Int.ofNat (7 * i))) (.tell 0 (AV.int .i64 (Int.ofNat ((7 * i) + 7))) (.tell 0 (AV.int .u64 (Int.ofNat (18446744073709551615 * 2 ^ ((7 * i) + 7) % 18446744073709551616))) (.tell 0 (AV.int .u64 (Int.ofNat ((v ||| (((l.getD i 0) &&& 127) * 2 ^ (7 * i) % 18446744073709551616)) ||| (18446744073709551615 * 2 ^ ((7 * i) + 7) % 18446744073709551616)))) (.tell 3 (AV.int .i64 (Int.ofNat (i + 1))) .fin))))) (.tell 2 (AV.int .i64 (Int.ofNat (i + 1))) .fin)))) (.tell 3 (AV.int .i64 (Int.ofNat (i + 1))) .fin))) (.tell 1 (AV.int .i64 (Int.ofNat (i + 1))) .fin)))))))))))) .fin)) (p := ((ltI (Int.ofNat i) (Int.ofNat 5) = true → (evQ (.lenL (.const vb)) .lf H0 = .ok (AV.int .i64 (Int.ofNat l.length)) ∧ ((notB (ltI (Int.ofNat i) (Int.ofNat l.length)) = true → ((fun ls h' => h' = h ∧ ∃ w i', ls = [some vb, some (AV.int .i64 (.ofNat 32)), some (AV.bool true), some (AV.int .u64 (.ofNat (readG 32 true l 0 0 0).1)), some (AV.int .i64 (.ofNat (readG 32 true l 0 0 0).2.1)), some (AV.int .i64 (.ofNat (readG 32 true l 0 0 0).2.2)), some (AV.int .u64 (.ofNat w)), some (AV.int .i64 (.ofNat 5)), some (AV.int .i64 (.ofNat i'))]) : List (Option AV) → Hp → Prop) [some vb, some (AV.int .i64 (Int.ofNat 32)), some (AV.bool true), some (AV.int .u64 (Int.ofNat 0)), some (AV.int .i64 (Int.ofNat 0)), some (AV.int .i64 (Int.ofNat 3)), some (AV.int .u64 (Int.ofNat v)), some (AV.int .i64 (Int.ofNat 5)), some (AV.int .i64 (Int.ofNat i))] h) ∧ (notB (ltI (Int.ofNat i) (Int.ofNat l.length)) = false → (evQ (.idxAddrSl 1 (.const vb) (.const (AV.int .i64 (Int.ofNat i)))) .lf H0 = .ok (elemP vb i 1) ∧ (evQ (.loadS (.const (elemP vb i 1))) .lf h = .ok (AV.int .u8 (Int.ofNat (l.getD i 0))) ∧ (evQ (.bin .and (.const (AV.int .u8 (Int.ofNat (l.getD i 0)))) (.const (AV.int .u8 (Int.ofNat 127)))) .lf H0 = .ok (AV.int .u8 (Int.ofNat ((l.getD i 0) &&& 127))) ∧ (evQ (.toInt .u64 (.const (AV.int .u8 (Int.ofNat ((l.getD i 0) &&& 127))))) .lf H0 = .ok (AV.int .u64 (Int.ofNat ((l.getD i 0) &&& 127))) ∧ ((eqI (Int.ofNat i) (Int.ofNat 4) = true → (evQ (.bin .mul (.const (AV.int .i64 (Int.ofNat 7))) (.const (AV.int .i64 (Int.ofNat i)))) .lf H0 = .ok (AV.int .i64 (Int.ofNat (7 * i))) ∧ (evQ (.bin .sub (.const (AV.int .i64 (Int.ofNat 32))) (.const (AV.int .i64 (Int.ofNat (7 * i))))) .lf H0 = .ok (AV.int .i64 (Int.ofNat (32 - (7 * i)))) ∧ (evQ (.bin .shr (.const (AV.int .u64 (Int.ofNat ((l.getD i 0) &&& 127)))) (.const (AV.int .i64 (Int.ofNat (32 - (7 * i)))))) .lf H0 = .ok (AV.int .u64 (Int.ofNat (((l.getD i 0) &&& 127) / 2 ^ (32 - (7 * i))))) ∧ (evQ (.bin .sub (.const (AV.int .i64 (Int.ofNat (32 - (7 * i))))) (.const (AV.int .i64 (Int.ofNat 1)))) .lf H0 = .ok (AV.int .i64 (Int.ofNat ((32 - (7 * i)) - 1))) ∧ (evQ (.bin .shr (.const (AV.int .u64 (Int.ofNat ((l.getD i 0) &&& 127)))) (.const (AV.int .i64 (Int.ofNat ((32 - (7 * i)) - 1))))) .lf H0 = .ok (AV.int .u64 (Int.ofNat (((l.getD i 0) &&& 127) / 2 ^ ((32 - (7 * i)) - 1)))) ∧ (evQ (.bin .shr (.const (AV.int .u64 (Int.ofNat 127))) (.const (AV.int .i64 (Int.ofNat (32 - (7 * i)))))) .lf H0 = .ok (AV.int .u64 (Int.ofNat (127 / 2 ^ (32 - (7 * i))))) ∧ (evQ (.bin .sub (.const (AV.int .i64 (Int.ofNat (32 - (7 * i))))) (.const (AV.int .i64 (Int.ofNat 1)))) .lf H0 = .ok (AV.int .i64 (Int.ofNat ((32 - (7 * i)) - 1))) ∧ (evQ (.bin .shr (.const (AV.int .u64 (Int.ofNat 127))) (.const (AV.int .i64 (Int.ofNat ((32 - (7 * i)) - 1))))) .lf H0 = .ok (AV.int .u64 (Int.ofNat (127 / 2 ^ ((32 - (7 * i)) - 1)))) ∧ ((notB (ltI (Int.ofNat (l.getD i 0)) (Int.ofNat 128)) = true → ((fun ls h' => h' = h ∧ ∃ w i', ls = [some vb, some (AV.int .i64 (.ofNat 32)), some (AV.bool true), some (AV.int .u64 (.ofNat (readG 32 true l 0 0 0).1)), some (AV.int .i64 (.ofNat (readG 32 true l 0 0 0).2.1)), some (AV.int .i64 (.ofNat (readG 32 true l 0 0 0).2.2)), some (AV.int .u64 (.ofNat w)), some (AV.int .i64 (.ofNat 5)), some (AV.int .i64 (.ofNat i'))]) : List (Option AV) → Hp → Prop) [some vb, some (AV.int .i64 (Int.ofNat 32)), some (AV.bool true), some (AV.int .u64 (Int.ofNat 0)), some (AV.int .i64 (Int.ofNat 0)), some (AV.int .i64 (Int.ofNat 2)), some (AV.int .u64 (Int.ofNat v)), some (AV.int .i64 (Int.ofNat 5)), some (AV.int .i64 (Int.ofNat i))] h) ∧ (notB (ltI (Int.ofNat (l.getD i 0)) (Int.ofNat 128)) = false → ((notB (eqI (Int.ofNat (((l.getD i 0) &&& 127) / 2 ^ ((32 - (7 * i)) - 1))) (Int.ofNat 0)) = true → ((notB (eqI (Int.ofNat (((l.getD i 0) &&& 127) / 2 ^ ((32 - (7 * i)) - 1))) (Int.ofNat (127 / 2 ^ ((32 - (7 * i)) - 1)))) = true → ((fun ls h' => h' = h ∧ ∃ w i', ls = [some vb, some (AV.int .i64 (.ofNat 32)), some (AV.bool true), some (AV.int .u64 (.ofNat (readG 32 true l 0 0 0).1)), some (AV.int .i64 (.ofNat (readG 32 true l 0 0 0).2.1)), some (AV.int .i64 (.ofNat (readG 32 true l 0 0 0).2.2)), some (AV.int .u64 (.ofNat w)), some (AV.int .i64 (.ofNat 5)), some (AV.int .i64 (.ofNat i'))]) : List (Option AV) → Hp → Prop) [some vb, some (AV.int .i64 (Int.ofNat 32)), some (AV.bool true), some (AV.int .u64 (Int.ofNat 0)), some (AV.int .i64 (Int.ofNat 0)), some (AV.int .i64 (Int.ofNat 2)), some (AV.int .u64 (Int.ofNat v)), some (AV.int .i64 (Int.ofNat 5)), some (AV.int .i64 (Int.ofNat i))] h) ∧ (notB (eqI (Int.ofNat (((l.getD i 0) &&& 127) / 2 ^ ((32 - (7 * i)) - 1))) (Int.ofNat (127 / 2 ^ ((32 - (7 * i)) - 1)))) = false → (evQ (.bin .mul (.const (AV.int .i64 (Int.ofNat 7))) (.const (AV.int .i64 (Int.ofNat i)))) .lf H0 = .ok (AV.int .i64 (Int.ofNat (7 * i))) ∧ (evQ (.bin .shl (.const (AV.int .u64 (Int.ofNat ((l.getD i 0) &&& 127)))) (.const (AV.int .i64 (Int.ofNat (7 * i))))) .lf H0 = .ok (AV.int .u64 (Int.ofNat (((l.getD i 0) &&& 127) * 2 ^ (7 * i) % 18446744073709551616))) ∧ (evQ (.bin .or (.const (AV.int .u64 (Int.ofNat v))) (.const (AV.int .u64 (Int.ofNat (((l.getD i 0) &&& 127) * 2 ^ (7 * i) % 18446744073709551616))))) .lf H0 = .ok (AV.int .u64 (Int.ofNat (v ||| (((l.getD i 0) &&& 127) * 2 ^ (7 * i) % 18446744073709551616)))) ∧ (evQ (.bin .lss (.const (AV.int .u8 (Int.ofNat (l.getD i 0)))) (.const (AV.int .u8 (Int.ofNat 128)))) .lf H0 = .ok (AV.bool true) ∧ (evQ (.bin .and (.const (AV.int .u8 (Int.ofNat (l.getD i 0)))) (.const (AV.int .u8 (Int.ofNat 64)))) .lf H0 = .ok (AV.int .u8 (Int.ofNat ((l.getD i 0) &&& 64))) ∧ ((notB (eqI (Int.ofNat ((l.getD i 0) &&& 64)) (Int.ofNat 0)) = true → (evQ (.bin .mul (.const (AV.int .i64 (Int.ofNat 7))) (.const (AV.int .i64 (Int.ofNat i)))) .lf H0 = .ok (AV.int .i64 (Int.ofNat (7 * i))) ∧ (evQ (.bin .add (.const (AV.int .i64 (Int.ofNat (7 * i)))) (.const (AV.int .i64 (Int.ofNat 7)))) .lf H0 = .ok (AV.int .i64 (Int.ofNat ((7 * i) + 7))) ∧ ((ltI (Int.ofNat ((7 * i) + 7)) (Int.ofNat 64) = true → (evQ (.bin .mul (.const (AV.int .i64 (Int.ofNat 7))) (.const (AV.int .i64 (Int.ofNat i)))) .lf H0 = .ok (AV.int .i64 (Int.ofNat (7 * i))) ∧ (evQ (.bin .add (.const (AV.int .i64 (Int.ofNat (7 * i)))) (.const (AV.int .i64 (Int.ofNat 7)))) .lf H0 = .ok (AV.int .i64 (Int.ofNat ((7 * i) + 7))) ∧ (evQ (.bin .shl (.const (AV.int .u64 (Int.ofNat 18446744073709551615))) (.const (AV.int .i64 (Int.ofNat ((7 * i) + 7))))) .lf H0 = .ok (AV.int .u64 (Int.ofNat (18446744073709551615 * 2 ^ ((7 * i) + 7) % 18446744073709551616))) ∧ (evQ (.bin .or (.const (AV.int .u64 (Int.ofNat (v ||| (((l.getD i 0) &&& 127) * 2 ^ (7 * i) % 18446744073709551616))))) (.const (AV.int .u64 (Int.ofNat (18446744073709551615 * 2 ^ ((7 * i) + 7) % 18446744073709551616))))) .lf H0 = .ok (AV.int .u64 (Int.ofNat ((v ||| (((l.getD i 0) &&& 127) * 2 ^ (7 * i) % 18446744073709551616)) ||| (18446744073709551615 * 2 ^ ((7 * i) + 7) % 18446744073709551616)))) ∧ (evQ (.bin .add (.const (AV.int .i64 (Int.ofNat i))) (.const (AV.int .i64 (Int.ofNat 1)))) .lf H0 = .ok (AV.int .i64 (Int.ofNat (i + 1))) ∧ ((fun ls h' => h' = h ∧ ∃ w i', ls = [some vb, some (AV.int .i64 (.ofNat 32)), some (AV.bool true), some (AV.int .u64 (.ofNat (readG 32 true l 0 0 0).1)), some (AV.int .i64 (.ofNat (readG 32 true l 0 0 0).2.1)), some (AV.int .i64 (.ofNat (readG 32 true l 0 0 0).2.2)), some (AV.int .u64 (.ofNat w)), some (AV.int .i64 (.ofNat 5)), some (AV.int .i64 (.ofNat i'))]) : List (Option AV) → Hp → Prop) [some vb, some (AV.int .i64 (Int.ofNat 32)), some (AV.bool true), some (AV.int .u64 (Int.ofNat ((v ||| (((l.getD i 0) &&& 127) * 2 ^ (7 * i) % 18446744073709551616)) ||| (18446744073709551615 * 2 ^ ((7 * i) + 7) % 18446744073709551616)))), some (AV.int .i64 (Int.ofNat (i + 1))), some (AV.int .i64 (Int.ofNat 0)), some (AV.int .u64 (Int.ofNat ((v ||| (((l.getD i 0) &&& 127) * 2 ^ (7 * i) % 18446744073709551616)) ||| (18446744073709551615 * 2 ^ ((7 * i) + 7) % 18446744073709551616)))), some (AV.int .i64 (Int.ofNat 5)), some (AV.int .i64 (Int.ofNat i))] h)))))) ∧ (ltI (Int.ofNat ((7 * i) + 7)) (Int.ofNat 64) = false → (evQ (.bin .add (.const (AV.int .i64 (Int.ofNat i))) (.const (AV.int .i64 (Int.ofNat 1)))) .lf H0 = .ok (AV.int .i64 (Int.ofNat (i + 1))) ∧ ((fun ls h' => h' = h ∧ ∃ w i', ls = [some vb, some (AV.int .i64 (.ofNat 32)), some (AV.bool true), some (AV.int .u64 (.ofNat (readG 32 true l 0 0 0).1)), some (AV.int .i64 (.ofNat (readG 32 true l 0 0 0).2.1)), some (AV.int .i64 (.ofNat (readG 32 true l 0 0 0).2.2)), some (AV.int .u64 (.ofNat w)), some (AV.int .i64 (.ofNat 5)), some (AV.int .i64 (.ofNat i'))]) : List (Option AV) → Hp → Prop) [some vb, some (AV.int .i64 (Int.ofNat 32)), some (AV.bool true), some (AV.int .u64 (Int.ofNat (v ||| (((l.getD i 0) &&& 127) * 2 ^ (7 * i) % 18446744073709551616)))), some (AV.int .i64 (Int.ofNat (i + 1))), some (AV.int .i64 (Int.ofNat 0)), some (AV.int .u64 (Int.ofNat (v ||| (((l.getD i 0) &&& 127) * 2 ^ (7 * i) % 18446744073709551616)))), some (AV.int .i64 (Int.ofNat 5)), some (AV.int .i64 (Int.ofNat i))] h)))))) ∧ (notB (eqI (Int.ofNat ((l.getD i 0) &&& 64)) (Int.ofNat 0)) = false → (evQ (.bin .add (.const (AV.int .i64 (Int.ofNat i))) (.const (AV.int .i64 (Int.ofNat 1)))) .lf H0 = .ok (AV.int .i64 (Int.ofNat (i + 1))) ∧ ((fun ls h' => h' = h ∧ ∃ w i', ls = [some vb, some (AV.int .i64 (.ofNat 32)), some (AV.bool true), some (AV.int .u64 (.ofNat (readG 32 true l 0 0 0).1)), some (AV.int .i64 (.ofNat (readG 32 true l 0 0 0).2.1)), some (AV.int .i64 (.ofNat (readG 32 true l 0 0 0).2.2)), some (AV.int .u64 (.ofNat w)), some (AV.int .i64 (.ofNat 5)), some (AV.int .i64 (.ofNat i'))]) : List (Option AV) → Hp → Prop) [some vb, some (AV.int .i64 (Int.ofNat 32)), some (AV.bool true), some (AV.int .u64 (Int.ofNat (v ||| (((l.getD i 0) &&& 127) * 2 ^ (7 * i) % 18446744073709551616)))), some (AV.int .i64 (Int.ofNat (i + 1))), some (AV.int .i64 (Int.ofNat 0)), some (AV.int .u64 (Int.ofNat (v ||| (((l.getD i 0) &&& 127) * 2 ^ (7 * i) % 18446744073709551616)))), some (AV.int .i64 (Int.ofNat 5)), some (AV.int .i64 (Int.ofNat i))] h))))))))))) ∧ (notB (eqI (Int.ofNat (((l.getD i 0) &&& 127) / 2 ^ ((32 - (7 * i)) - 1))) (Int.ofNat 0)) = false → (evQ (.bin .mul (.const (AV.int .i64 (Int.ofNat 7))) (.const (AV.int .i64 (Int.ofNat i)))) .lf H0 = .ok (AV.int .i64 (Int.ofNat (7 * i))) ∧ (evQ (.bin .shl (.const (AV.int .u64 (Int.ofNat ((l.getD i 0) &&& 127)))) (.const (AV.int .i64 (Int.ofNat (7 * i))))) .lf H0 = .ok (AV.int .u64 (Int.ofNat (((l.getD i 0) &&& 127) * 2 ^ (7 * i) % 18446744073709551616))) ∧ (evQ (.bin .or (.const (AV.int .u64 (Int.ofNat v))) (.const (AV.int .u64 (Int.ofNat (((l.getD i 0) &&& 127) * 2 ^ (7 * i) % 18446744073709551616))))) .lf H0 = .ok (AV.int .u64 (Int.ofNat (v ||| (((l.getD i 0) &&& 127) * 2 ^ (7 * i) % 18446744073709551616)))) ∧ (evQ (.bin .lss (.const (AV.int .u8 (Int.ofNat (l.getD i 0)))) (.const (AV.int .u8 (Int.ofNat 128)))) .lf H0 = .ok (AV.bool true) ∧ (evQ (.bin .and (.const (AV.int .u8 (Int.ofNat (l.getD i 0)))) (.const (AV.int .u8 (Int.ofNat 64)))) .lf H0 = .ok (AV.int .u8 (Int.ofNat ((l.getD i 0) &&& 64))) ∧ ((notB (eqI (Int.ofNat ((l.getD i 0) &&& 64)) (Int.ofNat 0)) = true → (evQ (.bin .mul (.const (AV.int .i64 (Int.ofNat 7))) (.const (AV.int .i64 (Int.ofNat i)))) .lf H0 = .ok (AV.int .i64 (Int.ofNat (7 * i))) ∧ (evQ (.bin .add (.const (AV.int .i64 (Int.ofNat (7 * i)))) (.const (AV.int .i64 (Int.ofNat 7)))) .lf H0 = .ok (AV.int .i64 (Int.ofNat ((7 * i) + 7))) ∧ ((ltI (Int.ofNat ((7 * i) + 7)) (Int.ofNat 64) = true → (evQ (.bin .mul (.const (AV.int .i64 (Int.ofNat 7))) (.const (AV.int .i64 (Int.ofNat i)))) .lf H0 = .ok (AV.int .i64 (Int.ofNat (7 * i))) ∧ (evQ (.bin .add (.const (AV.int .i64 (Int.ofNat (7 * i)))) (.const (AV.int .i64 (Int.ofNat 7)))) .lf H0 = .ok (AV.int .i64 (Int.ofNat ((7 * i) + 7))) ∧ (evQ (.bin .shl (.const (AV.int .u64 (Int.ofNat 18446744073709551615))) (.const (AV.int .i64 (Int.ofNat ((7 * i) + 7))))) .lf H0 = .ok (AV.int .u64 (Int.ofNat (18446744073709551615 * 2 ^ ((7 * i) + 7) % 18446744073709551616))) ∧ (evQ (.bin .or (.const (AV.int .u64 (Int.ofNat (v ||| (((l.getD i 0) &&& 127) * 2 ^ (7 * i) % 18446744073709551616))))) (.const (AV.int .u64 (Int.ofNat (18446744073709551615 * 2 ^ ((7 * i) + 7) % 18446744073709551616))))) .lf H0 = .ok (AV.int .u64 (Int.ofNat ((v ||| (((l.getD i 0) &&& 127) * 2 ^ (7 * i) % 18446744073709551616)) ||| (18446744073709551615 * 2 ^ ((7 * i) + 7) % 18446744073709551616)))) ∧ (evQ (.bin .add (.const (AV.int .i64 (Int.ofNat i))) (.const (AV.int .i64 (Int.ofNat 1)))) .lf H0 = .ok (AV.int .i64 (Int.ofNat (i + 1))) ∧ ((fun ls h' => h' = h ∧ ∃ w i', ls = [some vb, some (AV.int .i64 (.ofNat 32)), some (AV.bool true), some (AV.int .u64 (.ofNat (readG 32 true l 0 0 0).1)), some (AV.int .i64 (.ofNat (readG 32 true l 0 0 0).2.1)), some (AV.int .i64 (.ofNat (readG 32 true l 0 0 0).2.2)), some (AV.int .u64 (.ofNat w)), some (AV.int .i64 (.ofNat 5)), some (AV.int .i64 (.ofNat i'))]) : List (Option AV) → Hp → Prop) [some vb, some (AV.int .i64 (Int.ofNat 32)), some (AV.bool true), some (AV.int .u64 (Int.ofNat ((v ||| (((l.getD i 0) &&& 127) * 2 ^ (7 * i) % 18446744073709551616)) ||| (18446744073709551615 * 2 ^ ((7 * i) + 7) % 18446744073709551616)))), some (AV.int .i64 (Int.ofNat (i + 1))), some (AV.int .i64 (Int.ofNat 0)), some (AV.int .u64 (Int.ofNat ((v ||| (((l.getD i 0) &&& 127) * 2 ^ (7 * i) % 18446744073709551616)) ||| (18446744073709551615 * 2 ^ ((7 * i) + 7) % 18446744073709551616)))), some (AV.int .i64 (Int.ofNat 5)), some (AV.int .i64 (Int.ofNat i))] h)))))) ∧ (ltI (Int.ofNat ((7 * i) + 7)) (Int.ofNat 64) = false → (evQ (.bin .add (.const (AV.int .i64 (Int.ofNat i))) (.const (AV.int .i64 (Int.ofNat 1)))) .lf H0 = .ok (AV.int .i64 (Int.ofNat (i + 1))) ∧ ((fun ls h' => h' = h ∧ ∃ w i', ls = [some vb, some (AV.int .i64 (.ofNat 32)), some (AV.bool true), some (AV.int .u64 (.ofNat (readG 32 true l 0 0 0).1)), some (AV.int .i64 (.ofNat (readG 32 true l 0 0 0).2.1)), some (AV.int .i64 (.ofNat (readG 32 true l 0 0 0).2.2)), some (AV.int .u64 (.ofNat w)), some (AV.int .i64 (.ofNat 5)), some (AV.int .i64 (.ofNat i'))]) : List (Option AV) → Hp → Prop) [some vb, some (AV.int .i64 (Int.ofNat 32)), some (AV.bool true), some (AV.int .u64 (Int.ofNat (v ||| (((l.getD i 0) &&& 127) * 2 ^ (7 * i) % 18446744073709551616)))), some (AV.int .i64 (Int.ofNat (i + 1))), some (AV.int .i64 (Int.ofNat 0)), some (AV.int .u64 (Int.ofNat (v ||| (((l.getD i 0) &&& 127) * 2 ^ (7 * i) % 18446744073709551616)))), some (AV.int .i64 (Int.ofNat 5)), some (AV.int .i64 (Int.ofNat i))] h)))))) ∧ (notB (eqI (Int.ofNat ((l.getD i 0) &&& 64)) (Int.ofNat 0)) = false → (evQ (.bin .add (.const (AV.int .i64 (Int.ofNat i))) (.const (AV.int .i64 (Int.ofNat 1)))) .lf H0 = .ok (AV.int .i64 (Int.ofNat (i + 1))) ∧ ((fun ls h' => h' = h ∧ ∃ w i', ls = [some vb, some (AV.int .i64 (.ofNat 32)), some (AV.bool true), some (AV.int .u64 (.ofNat (readG 32 true l 0 0 0).1)), some (AV.int .i64 (.ofNat (readG 32 true l 0 0 0).2.1)), some (AV.int .i64 (.ofNat (readG 32 true l 0 0 0).2.2)), some (AV.int .u64 (.ofNat w)), some (AV.int .i64 (.ofNat 5)), some (AV.int .i64 (.ofNat i'))]) : List (Option AV) → Hp → Prop) [some vb, some (AV.int .i64 (Int.ofNat 32)), some (AV.bool true), some (AV.int .u64 (Int.ofNat (v ||| (((l.getD i 0) &&& 127) * 2 ^ (7 * i) % 18446744073709551616)))), some (AV.int .i64 (Int.ofNat (i + 1))), some (AV.int .i64 (Int.ofNat 0)), some (AV.int .u64 (Int.ofNat (v ||| (((l.getD i 0) &&& 127) * 2 ^ (7 * i) % 18446744073709551616)))), some (AV.int .i64 (Int.ofNat 5)), some (AV.int .i64 (Int.ofNat i))] h))))))))))))))))))))) ∧ (eqI (Int.ofNat i) (Int.ofNat 4) = false → (evQ (.bin .mul (.const (AV.int .i64 (Int.ofNat 7))) (.const (AV.int .i64 (Int.ofNat i)))) .lf H0 = .ok (AV.int .i64 (Int.ofNat (7 * i))) ∧ (evQ (.bin .shl (.const (AV.int .u64 (Int.ofNat ((l.getD i 0) &&& 127)))) (.const (AV.int .i64 (Int.ofNat (7 * i))))) .lf H0 = .ok (AV.int .u64 (Int.ofNat (((l.getD i 0) &&& 127) * 2 ^ (7 * i) % 18446744073709551616))) ∧ (evQ (.bin .or (.const (AV.int .u64 (Int.ofNat v))) (.const (AV.int .u64 (Int.ofNat (((l.getD i 0) &&& 127) * 2 ^ (7 * i) % 18446744073709551616))))) .lf H0 = .ok (AV.int .u64 (Int.ofNat (v ||| (((l.getD i 0) &&& 127) * 2 ^ (7 * i) % 18446744073709551616)))) ∧ ((ltI (Int.ofNat (l.getD i 0)) (Int.ofNat 128) = true → (evQ (.bin .and (.const (AV.int .u8 (Int.ofNat (l.getD i 0)))) (.const (AV.int .u8 (Int.ofNat 64)))) .lf H0 = .ok (AV.int .u8 (Int.ofNat ((l.getD i 0) &&& 64))) ∧ ((notB (eqI (Int.ofNat ((l.getD i 0) &&& 64)) (Int.ofNat 0)) = true → (evQ (.bin .mul (.const (AV.int .i64 (Int.ofNat 7))) (.const (AV.int .i64 (Int.ofNat i)))) .lf H0 = .ok (AV.int .i64 (Int.ofNat (7 * i))) ∧ (evQ (.bin .add (.const (AV.int .i64 (Int.ofNat (7 * i)))) (.const (AV.int .i64 (Int.ofNat 7)))) .lf H0 = .ok (AV.int .i64 (Int.ofNat ((7 * i) + 7))) ∧ ((ltI (Int.ofNat ((7 * i) + 7)) (Int.ofNat 64) = true → (evQ (.bin .mul (.const (AV.int .i64 (Int.ofNat 7))) (.const (AV.int .i64 (Int.ofNat i)))) .lf H0 = .ok (AV.int .i64 (Int.ofNat (7 * i))) ∧ (evQ (.bin .add (.const (AV.int .i64 (Int.ofNat (7 * i)))) (.const (AV.int .i64 (Int.ofNat 7)))) .lf H0 = .ok (AV.int .i64 (Int.ofNat ((7 * i) + 7))) ∧ (evQ (.bin .shl (.const (AV.int .u64 (Int.ofNat 18446744073709551615))) (.const (AV.int .i64 (Int.ofNat ((7 * i) + 7))))) .lf H0 = .ok (AV.int .u64 (Int.ofNat (18446744073709551615 * 2 ^ ((7 * i) + 7) % 18446744073709551616))) ∧ (evQ (.bin .or (.const (AV.int .u64 (Int.ofNat (v ||| (((l.getD i 0) &&& 127) * 2 ^ (7 * i) % 18446744073709551616))))) (.const (AV.int .u64 (Int.ofNat (18446744073709551615 * 2 ^ ((7 * i) + 7) % 18446744073709551616))))) .lf H0 = .ok (AV.int .u64 (Int.ofNat ((v ||| (((l.getD i 0) &&& 127) * 2 ^ (7 * i) % 18446744073709551616)) ||| (18446744073709551615 * 2 ^ ((7 * i) + 7) % 18446744073709551616)))) ∧ (evQ (.bin .add (.const (AV.int .i64 (Int.ofNat i))) (.const (AV.int .i64 (Int.ofNat 1)))) .lf H0 = .ok (AV.int .i64 (Int.ofNat (i + 1))) ∧ ((fun ls h' => h' = h ∧ ∃ w i', ls = [some vb, some (AV.int .i64 (.ofNat 32)), some (AV.bool true), some (AV.int .u64 (.ofNat (readG 32 true l 0 0 0).1)), some (AV.int .i64 (.ofNat (readG 32 true l 0 0 0).2.1)), some (AV.int .i64 (.ofNat (readG 32 true l 0 0 0).2.2)), some (AV.int .u64 (.ofNat w)), some (AV.int .i64 (.ofNat 5)), some (AV.int .i64 (.ofNat i'))]) : List (Option AV) → Hp → Prop) [some vb, some (AV.int .i64 (Int.ofNat 32)), some (AV.bool true), some (AV.int .u64 (Int.ofNat ((v ||| (((l.getD i 0) &&& 127) * 2 ^ (7 * i) % 18446744073709551616)) ||| (18446744073709551615 * 2 ^ ((7 * i) + 7) % 18446744073709551616)))), some (AV.int .i64 (Int.ofNat (i + 1))), some (AV.int .i64 (Int.ofNat 0)), some (AV.int .u64 (Int.ofNat ((v ||| (((l.getD i 0) &&& 127) * 2 ^ (7 * i) % 18446744073709551616)) ||| (18446744073709551615 * 2 ^ ((7 * i) + 7) % 18446744073709551616)))), some (AV.int .i64 (Int.ofNat 5)), some (AV.int .i64 (Int.ofNat i))] h)))))) ∧ (ltI (Int.ofNat ((7 * i) + 7)) (Int.ofNat 64) = false → (evQ (.bin .add (.const (AV.int .i64 (Int.ofNat i))) (.const (AV.int .i64 (Int.ofNat 1)))) .lf H0 = .ok (AV.int .i64 (Int.ofNat (i + 1))) ∧ ((fun ls h' => h' = h ∧ ∃ w i', ls = [some vb, some (AV.int .i64 (.ofNat 32)), some (AV.bool true), some (AV.int .u64 (.ofNat (readG 32 true l 0 0 0).1)), some (AV.int .i64 (.ofNat (readG 32 true l 0 0 0).2.1)), some (AV.int .i64 (.ofNat (readG 32 true l 0 0 0).2.2)), some (AV.int .u64 (.ofNat w)), some (AV.int .i64 (.ofNat 5)), some (AV.int .i64 (.ofNat i'))]) : List (Option AV) → Hp → Prop) [some vb, some (AV.int .i64 (Int.ofNat 32)), some (AV.bool true), some (AV.int .u64 (Int.ofNat (v ||| (((l.getD i 0) &&& 127) * 2 ^ (7 * i) % 18446744073709551616)))), some (AV.int .i64 (Int.ofNat (i + 1))), some (AV.int .i64 (Int.ofNat 0)), some (AV.int .u64 (Int.ofNat (v ||| (((l.getD i 0) &&& 127) * 2 ^ (7 * i) % 18446744073709551616)))), some (AV.int .i64 (Int.ofNat 5)), some (AV.int .i64 (Int.ofNat i))] h)))))) ∧ (notB (eqI (Int.ofNat ((l.getD i 0) &&& 64)) (Int.ofNat 0)) = false → (evQ (.bin .add (.const (AV.int .i64 (Int.ofNat i))) (.const (AV.int .i64 (Int.ofNat 1)))) .lf H0 = .ok (AV.int .i64 (Int.ofNat (i + 1))) ∧ ((fun ls h' => h' = h ∧ ∃ w i', ls = [some vb, some (AV.int .i64 (.ofNat 32)), some (AV.bool true), some (AV.int .u64 (.ofNat (readG 32 true l 0 0 0).1)), some (AV.int .i64 (.ofNat (readG 32 true l 0 0 0).2.1)), some (AV.int .i64 (.ofNat (readG 32 true l 0 0 0).2.2)), some (AV.int .u64 (.ofNat w)), some (AV.int .i64 (.ofNat 5)), some (AV.int .i64 (.ofNat i'))]) : List (Option AV) → Hp → Prop) [some vb, some (AV.int .i64 (Int.ofNat 32)), some (AV.bool true), some (AV.int .u64 (Int.ofNat (v ||| (((l.getD i 0) &&& 127) * 2 ^ (7 * i) % 18446744073709551616)))), some (AV.int .i64 (Int.ofNat (i + 1))), some (AV.int .i64 (Int.ofNat 0)), some (AV.int .u64 (Int.ofNat (v ||| (((l.getD i 0) &&& 127) * 2 ^ (7 * i) % 18446744073709551616)))), some (AV.int .i64 (Int.ofNat 5)), some (AV.int .i64 (Int.ofNat i))] h))))) ∧ (ltI (Int.ofNat (l.getD i 0)) (Int.ofNat 128) = false → (evQ (.bin .add (.const (AV.int .i64 (Int.ofNat i))) (.const (AV.int .i64 (Int.ofNat 1)))) .lf H0 = .ok (AV.int .i64 (Int.ofNat (i + 1))) ∧ ((fun ls h' => ∃ m, m < 100 - i ∧ h' = h ∧ ∃ i' v', ls = [some vb, some (AV.int .i64 (.ofNat 32)), some (AV.bool true), some (AV.int .u64 (.ofNat 0)), some (AV.int .i64 (.ofNat 0)), some (AV.int .i64 (.ofNat 0)), some (AV.int .u64 (.ofNat v')), some (AV.int .i64 (.ofNat 5)), some (AV.int .i64 (.ofNat i'))] ∧ m = 100 - i' ∧ i' < 5 ∧ v' < 18446744073709551616 ∧ readG 32 true (l.drop i') (7 * i') i' v' = readG 32 true l 0 0 0) : List (Option AV) → Hp → Prop) [some vb, some (AV.int .i64 (Int.ofNat 32)), some (AV.bool true), some (AV.int .u64 (Int.ofNat 0)), some (AV.int .i64 (Int.ofNat 0)), some (AV.int .i64 (Int.ofNat 0)), some (AV.int .u64 (Int.ofNat (v ||| (((l.getD i 0) &&& 127) * 2 ^ (7 * i) % 18446744073709551616)))), some (AV.int .i64 (Int.ofNat 5)), some (AV.int .i64 (Int.ofNat (i + 1)))] h)))))))))))))))) ∧ (ltI (Int.ofNat i) (Int.ofNat 5) = false → ((fun _ _ _ => False) : Nat → List (Option AV) → Hp → Prop) 0 [some vb, some (AV.int .i64 (Int.ofNat 32)), some (AV.bool true), some (AV.int .u64 (Int.ofNat 0)), some (AV.int .i64 (Int.ofNat 0)), some (AV.int .i64 (Int.ofNat 0)), some (AV.int .u64 (Int.ofNat v)), some (AV.int .i64 (Int.ofNat 5)), some (AV.int .i64 (Int.ofNat i))] h))) (by kernel_rfl) ?_
  refine ⟨fun c1 => ?_, fun c1 => ?_⟩
  · have rc1 := c1
    replace c1 : i < 5 := ltI_t c1
    refine ⟨q_len hb, ?_⟩
    refine ⟨fun c2 => ?_, fun c2 => ?_⟩
    · have rc2 := c2
      replace c2 : l.length ≤ i := ltI_f (notB_t c2)
      exact fin _ _ _ (by rw [List.drop_eq_nil_of_le (by omega)]; rfl)
    · have rc2 := c2
      replace c2 : i < l.length := ltI_t (notB_f c2)
      refine ⟨q_idxB hb (by omega), ?_⟩
      refine ⟨q_byte hb (by omega), ?_⟩
      have x3 : l.getD i 0 < 256 := getD_lt hb.lt i
      refine ⟨u_and rfl x3 (by decide), ?_⟩
      have g4 : (l.getD i 0) &&& 127 < 256 := Nat.lt_of_le_of_lt Nat.and_le_left x3
      refine ⟨u_conv' rfl (Nat.lt_of_lt_of_le g4 (by decide)), ?_⟩
      have g5 : (l.getD i 0) &&& 127 < 18446744073709551616 := Nat.lt_of_lt_of_le g4 (by decide)
      refine ⟨fun c6 => ?_, fun c6 => ?_⟩
      · have rc6 := c6
        replace c6 : i = 4 := eqI_t c6
        refine ⟨q_mul (by omega), ?_⟩
        refine ⟨q_sub (by omega) (by omega), ?_⟩
        refine ⟨u_shr rfl g5, ?_⟩
        have g7 : ((l.getD i 0) &&& 127) / 2 ^ (32 - (7 * i)) < 18446744073709551616 := Nat.lt_of_le_of_lt (Nat.div_le_self _ _) g5
        refine ⟨q_sub (by omega) (by omega), ?_⟩
        refine ⟨u_shr rfl g5, ?_⟩
        have g8 : ((l.getD i 0) &&& 127) / 2 ^ ((32 - (7 * i)) - 1) < 18446744073709551616 := Nat.lt_of_le_of_lt (Nat.div_le_self _ _) g5
        refine ⟨u_shr rfl (by decide), ?_⟩
        have g9 : 127 / 2 ^ (32 - (7 * i)) < 18446744073709551616 := Nat.lt_of_le_of_lt (Nat.div_le_self _ _) (by decide)
        refine ⟨q_sub (by omega) (by omega), ?_⟩
        refine ⟨u_shr rfl (by decide), ?_⟩
        have g10 : 127 / 2 ^ ((32 - (7 * i)) - 1) < 18446744073709551616 := Nat.lt_of_le_of_lt (Nat.div_le_self _ _) (by decide)
        refine ⟨fun c11 => ?_, fun c11 => ?_⟩
        · have rc11 := c11
          replace c11 : 128 ≤ l.getD i 0 := ltI_f (notB_t c11)
          have hd := drop_cons (l := l) (k := i) (by omega)
          have hx := getD_lt hb.lt i
          refine fin _ _ _ ?_
          rw [hd, readG_s hx (by omega)]
          clear hR fin
          generalize l.getD i 0 = x at *
          first
            | (rw [if_pos (by constructor <;> first | omega | (exact .inl (by omega)) | (exact .inr (by first | assumption | (constructor <;> assumption))))]; done)
            | (rw [if_neg (by rintro ⟨e1, e2⟩; rcases e2 with e2 | e2 <;> first | omega | contradiction | (exact e2.1 (by assumption)) | (exact e2.2 (by assumption))), if_pos (by omega)]; done)
            | (rw [if_neg (by rintro ⟨e1, e2⟩; rcases e2 with e2 | e2 <;> first | omega | contradiction | (exact e2.1 (by assumption)) | (exact e2.2 (by assumption))), if_pos (by omega), if_pos (by constructor <;> assumption)]; done)
            | (rw [if_neg (by rintro ⟨e1, e2⟩; rcases e2 with e2 | e2 <;> first | omega | contradiction | (exact e2.1 (by assumption)) | (exact e2.2 (by assumption))), if_pos (by omega), if_neg (by rintro ⟨e1, e2⟩; first | omega | contradiction)]; done)
        · have rc11 := c11
          replace c11 : l.getD i 0 < 128 := ltI_t (notB_f c11)
          refine ⟨fun c12 => ?_, fun c12 => ?_⟩
          · have rc12 := c12
            replace c12 : ((l.getD i 0) &&& 127) / 2 ^ ((32 - (7 * i)) - 1) ≠ 0 := eqI_f (notB_t c12)
            refine ⟨fun c13 => ?_, fun c13 => ?_⟩
            · have rc13 := c13
              replace c13 : ((l.getD i 0) &&& 127) / 2 ^ ((32 - (7 * i)) - 1) ≠ 127 / 2 ^ ((32 - (7 * i)) - 1) := eqI_f (notB_t c13)
              have hd := drop_cons (l := l) (k := i) (by omega)
              have hx := getD_lt hb.lt i
              refine fin _ _ _ ?_
              rw [hd, readG_s hx (by omega)]
              clear hR fin
              generalize l.getD i 0 = x at *
              first
                | (rw [if_pos (by constructor <;> first | omega | (exact .inl (by omega)) | (exact .inr (by first | assumption | (constructor <;> assumption))))]; done)
                | (rw [if_neg (by rintro ⟨e1, e2⟩; rcases e2 with e2 | e2 <;> first | omega | contradiction | (exact e2.1 (by assumption)) | (exact e2.2 (by assumption))), if_pos (by omega)]; done)
                | (rw [if_neg (by rintro ⟨e1, e2⟩; rcases e2 with e2 | e2 <;> first | omega | contradiction | (exact e2.1 (by assumption)) | (exact e2.2 (by assumption))), if_pos (by omega), if_pos (by constructor <;> assumption)]; done)
                | (rw [if_neg (by rintro ⟨e1, e2⟩; rcases e2 with e2 | e2 <;> first | omega | contradiction | (exact e2.1 (by assumption)) | (exact e2.2 (by assumption))), if_pos (by omega), if_neg (by rintro ⟨e1, e2⟩; first | omega | contradiction)]; done)
            · have rc13 := c13
              replace c13 : ((l.getD i 0) &&& 127) / 2 ^ ((32 - (7 * i)) - 1) = 127 / 2 ^ ((32 - (7 * i)) - 1) := eqI_t (notB_f c13)
              refine ⟨q_mul (by omega), ?_⟩
              refine ⟨u_shl rfl, ?_⟩
              have g14 : ((l.getD i 0) &&& 127) * 2 ^ (7 * i) % 18446744073709551616 < 18446744073709551616 := Nat.mod_lt _ (by decide)
              refine ⟨u_or rfl hv g14, ?_⟩
              have g15 : v ||| (((l.getD i 0) &&& 127) * 2 ^ (7 * i) % 18446744073709551616) < 18446744073709551616 := Nat.or_lt_two_pow (n := 64) hv g14
              refine ⟨congrArg (fun z => OV.ok (AV.bool z)) (notB_f rc11), ?_⟩
              refine ⟨u_and rfl x3 (by decide), ?_⟩
              have g16 : (l.getD i 0) &&& 64 < 256 := Nat.lt_of_le_of_lt Nat.and_le_left x3
              refine ⟨fun c17 => ?_, fun c17 => ?_⟩
              · have rc17 := c17
                replace c17 : (l.getD i 0) &&& 64 ≠ 0 := eqI_f (notB_t c17)
                refine ⟨q_mul (by omega), ?_⟩
                refine ⟨q_add (by omega), ?_⟩
                refine ⟨fun c18 => ?_, fun c18 => ?_⟩
                · have rc18 := c18
                  replace c18 : (7 * i) + 7 < 64 := ltI_t c18
                  refine ⟨q_mul (by omega), ?_⟩
                  refine ⟨q_add (by omega), ?_⟩
                  refine ⟨u_shl rfl, ?_⟩
                  have g19 : 18446744073709551615 * 2 ^ ((7 * i) + 7) % 18446744073709551616 < 18446744073709551616 := Nat.mod_lt _ (by decide)
                  refine ⟨u_or rfl g15 g19, ?_⟩
                  have g20 : (v ||| (((l.getD i 0) &&& 127) * 2 ^ (7 * i) % 18446744073709551616)) ||| (18446744073709551615 * 2 ^ ((7 * i) + 7) % 18446744073709551616) < 18446744073709551616 := Nat.or_lt_two_pow (n := 64) g15 g19
                  refine ⟨q_add (by omega), ?_⟩
                  have hd := drop_cons (l := l) (k := i) (by omega)
                  have hx := getD_lt hb.lt i
                  refine fin _ _ _ ?_
                  rw [hd, readG_s hx (by omega)]
                  clear hR fin
                  generalize l.getD i 0 = x at *
                  first
                    | (rw [if_pos (by constructor <;> first | omega | (exact .inl (by omega)) | (exact .inr (by first | assumption | (constructor <;> assumption))))]; done)
                    | (rw [if_neg (by rintro ⟨e1, e2⟩; rcases e2 with e2 | e2 <;> first | omega | contradiction | (exact e2.1 (by assumption)) | (exact e2.2 (by assumption))), if_pos (by omega)]; done)
                    | (rw [if_neg (by rintro ⟨e1, e2⟩; rcases e2 with e2 | e2 <;> first | omega | contradiction | (exact e2.1 (by assumption)) | (exact e2.2 (by assumption))), if_pos (by omega), if_pos (by constructor <;> assumption)]; done)
                    | (rw [if_neg (by rintro ⟨e1, e2⟩; rcases e2 with e2 | e2 <;> first | omega | contradiction | (exact e2.1 (by assumption)) | (exact e2.2 (by assumption))), if_pos (by omega), if_neg (by rintro ⟨e1, e2⟩; first | omega | contradiction)]; done)
                · have rc18 := c18
                  replace c18 : 64 ≤ (7 * i) + 7 := ltI_f c18
                  refine ⟨q_add (by omega), ?_⟩
                  have hd := drop_cons (l := l) (k := i) (by omega)
                  have hx := getD_lt hb.lt i
                  refine fin _ _ _ ?_
                  rw [hd, readG_s hx (by omega)]
                  clear hR fin
                  generalize l.getD i 0 = x at *
                  first
                    | (rw [if_pos (by constructor <;> first | omega | (exact .inl (by omega)) | (exact .inr (by first | assumption | (constructor <;> assumption))))]; done)
                    | (rw [if_neg (by rintro ⟨e1, e2⟩; rcases e2 with e2 | e2 <;> first | omega | contradiction | (exact e2.1 (by assumption)) | (exact e2.2 (by assumption))), if_pos (by omega)]; done)
                    | (rw [if_neg (by rintro ⟨e1, e2⟩; rcases e2 with e2 | e2 <;> first | omega | contradiction | (exact e2.1 (by assumption)) | (exact e2.2 (by assumption))), if_pos (by omega), if_pos (by constructor <;> assumption)]; done)
                    | (rw [if_neg (by rintro ⟨e1, e2⟩; rcases e2 with e2 | e2 <;> first | omega | contradiction | (exact e2.1 (by assumption)) | (exact e2.2 (by assumption))), if_pos (by omega), if_neg (by rintro ⟨e1, e2⟩; first | omega | contradiction)]; done)
              · have rc17 := c17
                replace c17 : (l.getD i 0) &&& 64 = 0 := eqI_t (notB_f c17)
                refine ⟨q_add (by omega), ?_⟩
                have hd := drop_cons (l := l) (k := i) (by omega)
                have hx := getD_lt hb.lt i
                refine fin _ _ _ ?_
                rw [hd, readG_s hx (by omega)]
                clear hR fin
                generalize l.getD i 0 = x at *
                first
                  | (rw [if_pos (by constructor <;> first | omega | (exact .inl (by omega)) | (exact .inr (by first | assumption | (constructor <;> assumption))))]; done)
                  | (rw [if_neg (by rintro ⟨e1, e2⟩; rcases e2 with e2 | e2 <;> first | omega | contradiction | (exact e2.1 (by assumption)) | (exact e2.2 (by assumption))), if_pos (by omega)]; done)
                  | (rw [if_neg (by rintro ⟨e1, e2⟩; rcases e2 with e2 | e2 <;> first | omega | contradiction | (exact e2.1 (by assumption)) | (exact e2.2 (by assumption))), if_pos (by omega), if_pos (by constructor <;> assumption)]; done)
                  | (rw [if_neg (by rintro ⟨e1, e2⟩; rcases e2 with e2 | e2 <;> first | omega | contradiction | (exact e2.1 (by assumption)) | (exact e2.2 (by assumption))), if_pos (by omega), if_neg (by rintro ⟨e1, e2⟩; first | omega | contradiction)]; done)
          · have rc12 := c12
            replace c12 : ((l.getD i 0) &&& 127) / 2 ^ ((32 - (7 * i)) - 1) = 0 := eqI_t (notB_f c12)
            refine ⟨q_mul (by omega), ?_⟩
            refine ⟨u_shl rfl, ?_⟩
            have g13 : ((l.getD i 0) &&& 127) * 2 ^ (7 * i) % 18446744073709551616 < 18446744073709551616 := Nat.mod_lt _ (by decide)
            refine ⟨u_or rfl hv g13, ?_⟩
            have g14 : v ||| (((l.getD i 0) &&& 127) * 2 ^ (7 * i) % 18446744073709551616) < 18446744073709551616 := Nat.or_lt_two_pow (n := 64) hv g13
            refine ⟨congrArg (fun z => OV.ok (AV.bool z)) (notB_f rc11), ?_⟩
            refine ⟨u_and rfl x3 (by decide), ?_⟩
            have g15 : (l.getD i 0) &&& 64 < 256 := Nat.lt_of_le_of_lt Nat.and_le_left x3
            refine ⟨fun c16 => ?_, fun c16 => ?_⟩
            · have rc16 := c16
              replace c16 : (l.getD i 0) &&& 64 ≠ 0 := eqI_f (notB_t c16)
              refine ⟨q_mul (by omega), ?_⟩
              refine ⟨q_add (by omega), ?_⟩
              refine ⟨fun c17 => ?_, fun c17 => ?_⟩
              · have rc17 := c17
                replace c17 : (7 * i) + 7 < 64 := ltI_t c17
                refine ⟨q_mul (by omega), ?_⟩
                refine ⟨q_add (by omega), ?_⟩
                refine ⟨u_shl rfl, ?_⟩
                have g18 : 18446744073709551615 * 2 ^ ((7 * i) + 7) % 18446744073709551616 < 18446744073709551616 := Nat.mod_lt _ (by decide)
                refine ⟨u_or rfl g14 g18, ?_⟩
                have g19 : (v ||| (((l.getD i 0) &&& 127) * 2 ^ (7 * i) % 18446744073709551616)) ||| (18446744073709551615 * 2 ^ ((7 * i) + 7) % 18446744073709551616) < 18446744073709551616 := Nat.or_lt_two_pow (n := 64) g14 g18
                refine ⟨q_add (by omega), ?_⟩
                have hd := drop_cons (l := l) (k := i) (by omega)
                have hx := getD_lt hb.lt i
                refine fin _ _ _ ?_
                rw [hd, readG_s hx (by omega)]
                clear hR fin
                generalize l.getD i 0 = x at *
                first
                  | (rw [if_pos (by constructor <;> first | omega | (exact .inl (by omega)) | (exact .inr (by first | assumption | (constructor <;> assumption))))]; done)
                  | (rw [if_neg (by rintro ⟨e1, e2⟩; rcases e2 with e2 | e2 <;> first | omega | contradiction | (exact e2.1 (by assumption)) | (exact e2.2 (by assumption))), if_pos (by omega)]; done)
                  | (rw [if_neg (by rintro ⟨e1, e2⟩; rcases e2 with e2 | e2 <;> first | omega | contradiction | (exact e2.1 (by assumption)) | (exact e2.2 (by assumption))), if_pos (by omega), if_pos (by constructor <;> assumption)]; done)
                  | (rw [if_neg (by rintro ⟨e1, e2⟩; rcases e2 with e2 | e2 <;> first | omega | contradiction | (exact e2.1 (by assumption)) | (exact e2.2 (by assumption))), if_pos (by omega), if_neg (by rintro ⟨e1, e2⟩; first | omega | contradiction)]; done)
              · have rc17 := c17
                replace c17 : 64 ≤ (7 * i) + 7 := ltI_f c17
                refine ⟨q_add (by omega), ?_⟩
                have hd := drop_cons (l := l) (k := i) (by omega)
                have hx := getD_lt hb.lt i
                refine fin _ _ _ ?_
                rw [hd, readG_s hx (by omega)]
                clear hR fin
                generalize l.getD i 0 = x at *
                first
                  | (rw [if_pos (by constructor <;> first | omega | (exact .inl (by omega)) | (exact .inr (by first | assumption | (constructor <;> assumption))))]; done)
                  | (rw [if_neg (by rintro ⟨e1, e2⟩; rcases e2 with e2 | e2 <;> first | omega | contradiction | (exact e2.1 (by assumption)) | (exact e2.2 (by assumption))), if_pos (by omega)]; done)
                  | (rw [if_neg (by rintro ⟨e1, e2⟩; rcases e2 with e2 | e2 <;> first | omega | contradiction | (exact e2.1 (by assumption)) | (exact e2.2 (by assumption))), if_pos (by omega), if_pos (by constructor <;> assumption)]; done)
                  | (rw [if_neg (by rintro ⟨e1, e2⟩; rcases e2 with e2 | e2 <;> first | omega | contradiction | (exact e2.1 (by assumption)) | (exact e2.2 (by assumption))), if_pos (by omega), if_neg (by rintro ⟨e1, e2⟩; first | omega | contradiction)]; done)
            · have rc16 := c16
              replace c16 : (l.getD i 0) &&& 64 = 0 := eqI_t (notB_f c16)
              refine ⟨q_add (by omega), ?_⟩
              have hd := drop_cons (l := l) (k := i) (by omega)
              have hx := getD_lt hb.lt i
              refine fin _ _ _ ?_
              rw [hd, readG_s hx (by omega)]
              clear hR fin
              generalize l.getD i 0 = x at *
              first
                | (rw [if_pos (by constructor <;> first | omega | (exact .inl (by omega)) | (exact .inr (by first | assumption | (constructor <;> assumption))))]; done)
                | (rw [if_neg (by rintro ⟨e1, e2⟩; rcases e2 with e2 | e2 <;> first | omega | contradiction | (exact e2.1 (by assumption)) | (exact e2.2 (by assumption))), if_pos (by omega)]; done)
                | (rw [if_neg (by rintro ⟨e1, e2⟩; rcases e2 with e2 | e2 <;> first | omega | contradiction | (exact e2.1 (by assumption)) | (exact e2.2 (by assumption))), if_pos (by omega), if_pos (by constructor <;> assumption)]; done)
                | (rw [if_neg (by rintro ⟨e1, e2⟩; rcases e2 with e2 | e2 <;> first | omega | contradiction | (exact e2.1 (by assumption)) | (exact e2.2 (by assumption))), if_pos (by omega), if_neg (by rintro ⟨e1, e2⟩; first | omega | contradiction)]; done)
      · have rc6 := c6
        replace c6 : i ≠ 4 := eqI_f c6
        refine ⟨q_mul (by omega), ?_⟩
        refine ⟨u_shl rfl, ?_⟩
        have g7 : ((l.getD i 0) &&& 127) * 2 ^ (7 * i) % 18446744073709551616 < 18446744073709551616 := Nat.mod_lt _ (by decide)
        refine ⟨u_or rfl hv g7, ?_⟩
        have g8 : v ||| (((l.getD i 0) &&& 127) * 2 ^ (7 * i) % 18446744073709551616) < 18446744073709551616 := Nat.or_lt_two_pow (n := 64) hv g7
        refine ⟨fun c9 => ?_, fun c9 => ?_⟩
        · have rc9 := c9
          replace c9 : l.getD i 0 < 128 := ltI_t c9
          refine ⟨u_and rfl x3 (by decide), ?_⟩
          have g10 : (l.getD i 0) &&& 64 < 256 := Nat.lt_of_le_of_lt Nat.and_le_left x3
          refine ⟨fun c11 => ?_, fun c11 => ?_⟩
          · have rc11 := c11
            replace c11 : (l.getD i 0) &&& 64 ≠ 0 := eqI_f (notB_t c11)
            refine ⟨q_mul (by omega), ?_⟩
            refine ⟨q_add (by omega), ?_⟩
            refine ⟨fun c12 => ?_, fun c12 => ?_⟩
            · have rc12 := c12
              replace c12 : (7 * i) + 7 < 64 := ltI_t c12
              refine ⟨q_mul (by omega), ?_⟩
              refine ⟨q_add (by omega), ?_⟩
              refine ⟨u_shl rfl, ?_⟩
              have g13 : 18446744073709551615 * 2 ^ ((7 * i) + 7) % 18446744073709551616 < 18446744073709551616 := Nat.mod_lt _ (by decide)
              refine ⟨u_or rfl g8 g13, ?_⟩
              have g14 : (v ||| (((l.getD i 0) &&& 127) * 2 ^ (7 * i) % 18446744073709551616)) ||| (18446744073709551615 * 2 ^ ((7 * i) + 7) % 18446744073709551616) < 18446744073709551616 := Nat.or_lt_two_pow (n := 64) g8 g13
              refine ⟨q_add (by omega), ?_⟩
              have hd := drop_cons (l := l) (k := i) (by omega)
              have hx := getD_lt hb.lt i
              refine fin _ _ _ ?_
              rw [hd, readG_s hx (by omega)]
              clear hR fin
              generalize l.getD i 0 = x at *
              first
                | (rw [if_pos (by constructor <;> first | omega | (exact .inl (by omega)) | (exact .inr (by first | assumption | (constructor <;> assumption))))]; done)
                | (rw [if_neg (by rintro ⟨e1, e2⟩; rcases e2 with e2 | e2 <;> first | omega | contradiction | (exact e2.1 (by assumption)) | (exact e2.2 (by assumption))), if_pos (by omega)]; done)
                | (rw [if_neg (by rintro ⟨e1, e2⟩; rcases e2 with e2 | e2 <;> first | omega | contradiction | (exact e2.1 (by assumption)) | (exact e2.2 (by assumption))), if_pos (by omega), if_pos (by constructor <;> assumption)]; done)
                | (rw [if_neg (by rintro ⟨e1, e2⟩; rcases e2 with e2 | e2 <;> first | omega | contradiction | (exact e2.1 (by assumption)) | (exact e2.2 (by assumption))), if_pos (by omega), if_neg (by rintro ⟨e1, e2⟩; first | omega | contradiction)]; done)
            · have rc12 := c12
              replace c12 : 64 ≤ (7 * i) + 7 := ltI_f c12
              refine ⟨q_add (by omega), ?_⟩
              have hd := drop_cons (l := l) (k := i) (by omega)
              have hx := getD_lt hb.lt i
              refine fin _ _ _ ?_
              rw [hd, readG_s hx (by omega)]
              clear hR fin
              generalize l.getD i 0 = x at *
              first
                | (rw [if_pos (by constructor <;> first | omega | (exact .inl (by omega)) | (exact .inr (by first | assumption | (constructor <;> assumption))))]; done)
                | (rw [if_neg (by rintro ⟨e1, e2⟩; rcases e2 with e2 | e2 <;> first | omega | contradiction | (exact e2.1 (by assumption)) | (exact e2.2 (by assumption))), if_pos (by omega)]; done)
                | (rw [if_neg (by rintro ⟨e1, e2⟩; rcases e2 with e2 | e2 <;> first | omega | contradiction | (exact e2.1 (by assumption)) | (exact e2.2 (by assumption))), if_pos (by omega), if_pos (by constructor <;> assumption)]; done)
                | (rw [if_neg (by rintro ⟨e1, e2⟩; rcases e2 with e2 | e2 <;> first | omega | contradiction | (exact e2.1 (by assumption)) | (exact e2.2 (by assumption))), if_pos (by omega), if_neg (by rintro ⟨e1, e2⟩; first | omega | contradiction)]; done)
          · have rc11 := c11
            replace c11 : (l.getD i 0) &&& 64 = 0 := eqI_t (notB_f c11)
            refine ⟨q_add (by omega), ?_⟩
            have hd := drop_cons (l := l) (k := i) (by omega)
            have hx := getD_lt hb.lt i
            refine fin _ _ _ ?_
            rw [hd, readG_s hx (by omega)]
            clear hR fin
            generalize l.getD i 0 = x at *
            first
              | (rw [if_pos (by constructor <;> first | omega | (exact .inl (by omega)) | (exact .inr (by first | assumption | (constructor <;> assumption))))]; done)
              | (rw [if_neg (by rintro ⟨e1, e2⟩; rcases e2 with e2 | e2 <;> first | omega | contradiction | (exact e2.1 (by assumption)) | (exact e2.2 (by assumption))), if_pos (by omega)]; done)
              | (rw [if_neg (by rintro ⟨e1, e2⟩; rcases e2 with e2 | e2 <;> first | omega | contradiction | (exact e2.1 (by assumption)) | (exact e2.2 (by assumption))), if_pos (by omega), if_pos (by constructor <;> assumption)]; done)
              | (rw [if_neg (by rintro ⟨e1, e2⟩; rcases e2 with e2 | e2 <;> first | omega | contradiction | (exact e2.1 (by assumption)) | (exact e2.2 (by assumption))), if_pos (by omega), if_neg (by rintro ⟨e1, e2⟩; first | omega | contradiction)]; done)
        · have rc9 := c9
          replace c9 : 128 ≤ l.getD i 0 := ltI_f c9
          refine ⟨q_add (by omega), ?_⟩
          have hd := drop_cons (l := l) (k := i) (by omega)
          have hx := getD_lt hb.lt i
          refine ⟨100 - (i + 1), by omega, rfl, i + 1, _, rfl, rfl, by omega, or64 hv (Nat.mod_lt _ (by decide)), ?_⟩
          rw [← hR, hd, readG_s hx (by omega), if_neg (by omega), if_neg (by omega)]
  · have rc1 := c1
    replace c1 : 5 ≤ i := ltI_f c1
    exact absurd c1 (by omega)
theorem num32s_loop {call : CallT} {N : Nat} {t : T} {h : Hp} {B : Nat} {vb : AV} {l : List Nat} (hb : Bytes B h vb l) (hk2 : l.length < 9223372036854775000) (hN : 100 < N)
    (h0 : slots [0, 1, 2, 6, 7, 8, 9, 10, 11] t = [some vb, some (AV.int .i64 (.ofNat 32)), some (AV.bool true), some (AV.int .u64 (.ofNat 0)), some (AV.int .i64 (.ofNat 0)), some (AV.int .i64 (.ofNat 0)), some (AV.int .u64 (.ofNat 0)), some (AV.int .i64 (.ofNat 5)), some (AV.int .i64 (.ofNat 0))]) :
    ∃ t', evC call N (.loop numC) t h = .ret t' h ∧ Has [(6, .int .u64 (.ofNat (readG 32 true l 0 0 0).1)), (7, .int .i64 (.ofNat (readG 32 true l 0 0 0).2.1)), (8, .int .i64 (.ofNat (readG 32 true l 0 0 0).2.2))] t' := by
  refine Exists.elim (loop_ok (call := call) (N := N) (body := numC) [0, 1, 2, 6, 7, 8, 9, 10, 11]
    (fun n ls h' => h' = h ∧ ∃ i v, ls = [some vb, some (AV.int .i64 (.ofNat 32)), some (AV.bool true), some (AV.int .u64 (.ofNat 0)), some (AV.int .i64 (.ofNat 0)), some (AV.int .i64 (.ofNat 0)), some (AV.int .u64 (.ofNat v)), some (AV.int .i64 (.ofNat 5)), some (AV.int .i64 (.ofNat i))] ∧ n = 100 - i ∧ i < 5 ∧ v < 18446744073709551616 ∧ readG 32 true (l.drop i) (7 * i) i v = readG 32 true l 0 0 0)
    (fun _ _ _ => False)
    (fun ls h' => h' = h ∧ ∃ w i', ls = [some vb, some (AV.int .i64 (.ofNat 32)), some (AV.bool true), some (AV.int .u64 (.ofNat (readG 32 true l 0 0 0).1)), some (AV.int .i64 (.ofNat (readG 32 true l 0 0 0).2.1)), some (AV.int .i64 (.ofNat (readG 32 true l 0 0 0).2.2)), some (AV.int .u64 (.ofNat w)), some (AV.int .i64 (.ofNat 5)), some (AV.int .i64 (.ofNat i'))]) ?_ 100 (by omega) t h ⟨rfl, 0, 0, h0, rfl, by decide, by decide, rfl⟩) ?_
  rotate_left
  · rintro s ⟨e, hs⟩
    cases s with
    | no => exact hs.elim
    | nor t' h' => exact hs.elim
    | exit i t' h' => exact hs.elim
    | ret t' h' =>
      obtain ⟨rfl, w, i', hh⟩ := hs
      refine ⟨t', e, ?_⟩
      have hh : [tget (pathOf 0) t', tget (pathOf 1) t', tget (pathOf 2) t', tget (pathOf 6) t', tget (pathOf 7) t', tget (pathOf 8) t', tget (pathOf 9) t', tget (pathOf 10) t', tget (pathOf 11) t'] = _ := hh
      simp only [List.cons.injEq] at hh
      obtain ⟨-, -, -, g6, g7, g8, -⟩ := hh
      show [tget (pathOf 6) t', tget (pathOf 7) t', tget (pathOf 8) t'] = _
      rw [g6, g7, g8]; rfl
  · rintro n t h' ⟨rfl, i, v, hsl, rfl, hi, hv, hR⟩
    rw [← ovT_eq (l := [(0, vb), (1, .int .i64 (.ofNat 32)), (2, .bool true), (6, .int .u64 (.ofNat 0)), (7, .int .i64 (.ofNat 0)), (8, .int .i64 (.ofNat 0)), (9, .int .u64 (.ofNat v)), (10, .int .i64 (.ofNat 5)), (11, .int .i64 (.ofNat i))]) hsl]
    exact num32s_body hb hk2 hv hi hR
theorem num33s_body {call : CallT} {N : Nat} {t : T} {h : Hp} {B : Nat} {vb : AV} {l : List Nat} (hb : Bytes B h vb l) (hk2 : l.length < 9223372036854775000) {v i : Nat} (hv : v < 18446744073709551616) (hi : i < 5) (hR : readG 33 true (l.drop i) (7 * i) i v = readG 33 true l 0 0 0)
    : ∃ s, evC call N numC (ovT [(0, vb), (1, (AV.int .i64 (Int.ofNat 33))), (2, (AV.bool true)), (6, (AV.int .u64 (Int.ofNat 0))), (7, (AV.int .i64 (Int.ofNat 0))), (8, (AV.int .i64 (Int.ofNat 0))), (9, (AV.int .u64 (Int.ofNat v))), (10, (AV.int .i64 (Int.ofNat 5))), (11, (AV.int .i64 (Int.ofNat i)))] t) h = s ∧ obsS [0, 1, 2, 6, 7, 8, 9, 10, 11] (fun ls h' => ∃ m, m < 100 - i ∧ h' = h ∧ ∃ i' v', ls = [some vb, some (AV.int .i64 (.ofNat 33)), some (AV.bool true), some (AV.int .u64 (.ofNat 0)), some (AV.int .i64 (.ofNat 0)), some (AV.int .i64 (.ofNat 0)), some (AV.int .u64 (.ofNat v')), some (AV.int .i64 (.ofNat 5)), some (AV.int .i64 (.ofNat i'))] ∧ m = 100 - i' ∧ i' < 5 ∧ v' < 18446744073709551616 ∧ readG 33 true (l.drop i') (7 * i') i' v' = readG 33 true l 0 0 0) (fun _ _ _ => False) (fun ls h' => h' = h ∧ ∃ w i', ls = [some vb, some (AV.int .i64 (.ofNat 33)), some (AV.bool true), some (AV.int .u64 (.ofNat (readG 33 true l 0 0 0).1)), some (AV.int .i64 (.ofNat (readG 33 true l 0 0 0).2.1)), some (AV.int .i64 (.ofNat (readG 33 true l 0 0 0).2.2)), some (AV.int .u64 (.ofNat w)), some (AV.int .i64 (.ofNat 5)), some (AV.int .i64 (.ofNat i'))]) s := by
  have fin : ∀ X Y Z : Nat, ∀ {w i' : Nat}, readG 33 true (l.drop i) (7 * i) i v = (X, Y, Z) → h = h ∧ ∃ w' i'', [some vb, some (AV.int .i64 (.ofNat 33)), some (AV.bool true), some (AV.int .u64 (.ofNat X)), some (AV.int .i64 (.ofNat Y)), some (AV.int .i64 (.ofNat Z)), some (AV.int .u64 (.ofNat w)), some (AV.int .i64 (.ofNat 5)), some (AV.int .i64 (.ofNat i'))] = [some vb, some (AV.int .i64 (.ofNat 33)), some (AV.bool true), some (AV.int .u64 (.ofNat (readG 33 true l 0 0 0).1)), some (AV.int .i64 (.ofNat (readG 33 true l 0 0 0).2.1)), some (AV.int .i64 (.ofNat (readG 33 true l 0 0 0).2.2)), some (AV.int .u64 (.ofNat w')), some (AV.int .i64 (.ofNat 5)), some (AV.int .i64 (.ofNat i''))] := by
    intro X Y Z w i' e
    rw [hR] at e
    rw [e]
    exact ⟨rfl, w, i', rfl⟩
  refine walk_ok (o := (.fork 2 (.tell 2 (AV.int .i64 (Int.ofNat l.length)) (.fork 0 .fin (.tell 2 (elemP vb i 1) (.tell 0 (AV.int .u8 (Int.ofNat (l.getD i 0))) (.tell 2 (AV.int .u8 (Int.ofNat ((l.getD i 0) &&& 127))) (.tell 0 (AV.int .u64 (Int.ofNat ((l.getD i 0) &&& 127))) (.fork 4 (.tell 2 (AV.int .i64 (Int.ofNat (7 * i))) (.tell 0 (AV.int .i64 (Int.ofNat (33 - (7 * i)))) (.tell 3 (AV.int .u64 (Int.ofNat (((l.getD i 0) &&& 127) / 2 ^ (33 - (7 * i))))) (.tell 4 (AV.int .i64 (Int.ofNat ((33 - (7 * i)) - 1))) (.tell 0 (AV.int .u64 (Int.ofNat (((l.getD i 0) &&& 127) / 2 ^ ((33 - (7 * i)) - 1)))) (.tell 2 (AV.int .u64 (Int.ofNat (127 / 2 ^ (33 - (7 * i))))) (.tell 3 (AV.int .i64 (Int.ofNat ((33 - (7 * i)) - 1))) (.tell 0 (AV.int .u64 (Int.ofNat (127 / 2 ^ ((33 - (7 * i)) - 1)))) (.fork 3 .fin (.fork 2 (.fork 8 .fin (.tell 3 (AV.int .i64 (Int.ofNat (7 * i))) (.tell 0 (AV.int .u64 (Int.ofNat (((l.getD i 0) &&& 127) * 2 ^ (7 * i) % 18446744073709551616))) (.tell 0 (AV.int .u64 (Int.ofNat (v ||| (((l.getD i 0) &&& 127) * 2 ^ (7 * i) % 18446744073709551616)))) (.tell 2 (AV.bool true) (.tell 3 (AV.int .u8 (Int.ofNat ((l.getD i 0) &&& 64))) (.fork 2 (.tell 1 (AV.int .i64 (Int.ofNat (7 * i))) (.tell 0 (AV.int .i64 (Int.ofNat ((7 * i) + 7))) (.fork 1 (.tell 2 (AV.int .i64 (Int.ofNat (7 * i))) (.tell 0 (AV.int .i64 (Int.ofNat ((7 * i) + 7))) (.tell 0 (AV.int .u64 (Int.ofNat (18446744073709551615 * 2 ^ ((7 * i) + 7) % 18446744073709551616))) (.tell 0 (AV.int .u64 (Int.ofNat ((v ||| (((l.getD i 0) &&& 127) * 2 ^ (7 * i) % 18446744073709551616)) ||| (18446744073709551615 * 2 ^ ((7 * i) + 7) % 18446744073709551616)))) (.tell 3 (AV.int .i64 (Int.ofNat (i + 1))) .fin))))) (.tell 2 (AV.int .i64 (Int.ofNat (i + 1))) .fin)))) (.tell 3 (AV.int .i64 (Int.ofNat (i + 1))) .fin)))))))) (.tell 5 (AV.int .i64 (Int.ofNat (7 * i))) (.tell 0 (AV.int .u64 (Int.ofNat (((l.getD i 0) &&& 127) * 2 ^ (7 * i) % 18446744073709551616))) (.tell 0 (AV.int .u64 (Int.ofNat (v ||| (((l.getD i 0) &&& 127) * 2 ^ (7 * i) % 18446744073709551616)))) (.tell 2 (AV.bool true) (.tell 3 (AV.int .u8 (Int.ofNat ((l.getD i 0) &&& 64))) (.fork 2 (.tell 1 (AV.int .i64 (Int.ofNat (7 * i))) (.tell 0 (AV.int .i64 (Int.ofNat ((7 * i) + 7))) (.fork 1 (.tell 2 (AV.int .i64 (Int.ofNat (7 * i))) (.tell 0 (AV.int .i64 (Int.ofNat ((7 * i) + 7))) (.tell 0 (AV.int .u64 (Int.ofNat (18446744073709551615 * 2 ^ ((7 * i) + 7) % 18446744073709551616))) (.tell 0 (AV.int .u64 (Int.ofNat ((v ||| (((l.getD i 0) &&& 127) * 2 ^ (7 * i) % 18446744073709551616)) ||| (18446744073709551615 * 2 ^ ((7 * i) + 7) % 18446744073709551616)))) (.tell 3 (AV.int .i64 (Int.ofNat (i + 1))) .fin))))) (.tell 2 (AV.int .i64 (Int.ofNat (i + 1))) .fin)))) (.tell 3 (AV.int .i64 (Int.ofNat (i + 1))) .fin))))))))))))))))) (.tell 3 (AV.int .i64 (Int.ofNat (7 * i))) (.tell 0 (AV.int .u64 (Int.ofNat (((l.getD i 0) &&& 127) * 2 ^ (7 * i) % 18446744073709551616))) (.tell 0 (AV.int .u64 (Int.ofNat (v ||| (((l.getD i 0) &&& 127) * 2 ^ (7 * i) % 18446744073709551616)))) (.fork 2 (.tell 3 (AV.int .u8 (Int.ofNat ((l.getD i 0) &&& 64))) (.fork 2 (.tell 1 (AV.int .i64 (Int.ofNat (7 * i))) (.tell 0 (AV.int .i64 (Int.ofNat ((7 * i) + 7))) (.fork 1 (.tell 2 (AV.int .i64 (Int.ofNat (7 * i))) (.tell 0 (AV.int .i64 (Int.ofNat ((7 * i) + 7))) (.tell 0 (AV.int .u64 (Int.ofNat (18446744073709551615 * 2 ^ ((7 * i) + 7) % 18446744073709551616))) (.tell 0 (AV.int .u64 (Int.ofNat ((v ||| (((l.getD i 0) &&& 127) * 2 ^ (7 * i) % 18446744073709551616)) ||| (18446744073709551615 * 2 ^ ((7 * i) + 7) % 18446744073709551616)))) (.tell 3 (AV.int .i64 (Int.ofNat (i + 1))) .fin))))) (.tell 2 (AV.int .i64 (Int.ofNat (i + 1))) .fin)))) (.tell 3 (AV.int .i64 (Int.ofNat (i + 1))) .fin))) (.tell 1 (AV.int .i64 (Int.ofNat (i + 1))) .fin)))))))))))) .fin)) (p := ((ltI (Int.ofNat i) (Int.ofNat 5) = true → (evQ (.lenL (.const vb)) .lf H0 = .ok (AV.int .i64 (Int.ofNat l.length)) ∧ ((notB (ltI (Int.ofNat i) (Int.ofNat l.length)) = true → ((fun ls h' => h' = h ∧ ∃ w i', ls = [some vb, some (AV.int .i64 (.ofNat 33)), some (AV.bool true), some (AV.int .u64 (.ofNat (readG 33 true l 0 0 0).1)), some (AV.int .i64 (.ofNat (readG 33 true l 0 0 0).2.1)), some (AV.int .i64 (.ofNat (readG 33 true l 0 0 0).2.2)), some (AV.int .u64 (.ofNat w)), some (AV.int .i64 (.ofNat 5)), some (AV.int .i64 (.ofNat i'))]) : List (Option AV) → Hp → Prop) [some vb, some (AV.int .i64 (Int.ofNat 33)), some (AV.bool true), some (AV.int .u64 (Int.ofNat 0)), some (AV.int .i64 (Int.ofNat 0)), some (AV.int .i64 (Int.ofNat 3)), some (AV.int .u64 (Int.ofNat v)), some (AV.int .i64 (Int.ofNat 5)), some (AV.int .i64 (Int.ofNat i))] h) ∧ (notB (ltI (Int.ofNat i) (Int.ofNat l.length)) = false → (evQ (.idxAddrSl 1 (.const vb) (.const (AV.int .i64 (Int.ofNat i)))) .lf H0 = .ok (elemP vb i 1) ∧ (evQ (.loadS (.const (elemP vb i 1))) .lf h = .ok (AV.int .u8 (Int.ofNat (l.getD i 0))) ∧ (evQ (.bin .and (.const (AV.int .u8 (Int.ofNat (l.getD i 0)))) (.const (AV.int .u8 (Int.ofNat 127)))) .lf H0 = .ok (AV.int .u8 (Int.ofNat ((l.getD i 0) &&& 127))) ∧ (evQ (.toInt .u64 (.const (AV.int .u8 (Int.ofNat ((l.getD i 0) &&& 127))))) .lf H0 = .ok (AV.int .u64 (Int.ofNat ((l.getD i 0) &&& 127))) ∧ ((eqI (Int.ofNat i) (Int.ofNat 4) = true → (evQ (.bin .mul (.const (AV.int .i64 (Int.ofNat 7))) (.const (AV.int .i64 (Int.ofNat i)))) .lf H0 = .ok (AV.int .i64 (Int.ofNat (7 * i))) ∧ (evQ (.bin .sub (.const (AV.int .i64 (Int.ofNat 33))) (.const (AV.int .i64 (Int.ofNat (7 * i))))) .lf H0 = .ok (AV.int .i64 (Int.ofNat (33 - (7 * i)))) ∧ (evQ (.bin .shr (.const (AV.int .u64 (Int.ofNat ((l.getD i 0) &&& 127)))) (.const (AV.int .i64 (Int.ofNat (33 - (7 * i)))))) .lf H0 = .ok (AV.int .u64 (Int.ofNat (((l.getD i 0) &&& 127) / 2 ^ (33 - (7 * i))))) ∧ (evQ (.bin .sub (.const (AV.int .i64 (Int.ofNat (33 - (7 * i))))) (.const (AV.int .i64 (Int.ofNat 1)))) .lf H0 = .ok (AV.int .i64 (Int.ofNat ((33 - (7 * i)) - 1))) ∧ (evQ (.bin .shr (.const (AV.int .u64 (Int.ofNat ((l.getD i 0) &&& 127)))) (.const (AV.int .i64 (Int.ofNat ((33 - (7 * i)) - 1))))) .lf H0 = .ok (AV.int .u64 (Int.ofNat (((l.getD i 0) &&& 127) / 2 ^ ((33 - (7 * i)) - 1)))) ∧ (evQ (.bin .shr (.const (AV.int .u64 (Int.ofNat 127))) (.const (AV.int .i64 (Int.ofNat (33 - (7 * i)))))) .lf H0 = .ok (AV.int .u64 (Int.ofNat (127 / 2 ^ (33 - (7 * i))))) ∧ (evQ (.bin .sub (.const (AV.int .i64 (Int.ofNat (33 - (7 * i))))) (.const (AV.int .i64 (Int.ofNat 1)))) .lf H0 = .ok (AV.int .i64 (Int.ofNat ((33 - (7 * i)) - 1))) ∧ (evQ (.bin .shr (.const (AV.int .u64 (Int.ofNat 127))) (.const (AV.int .i64 (Int.ofNat ((33 - (7 * i)) - 1))))) .lf H0 = .ok (AV.int .u64 (Int.ofNat (127 / 2 ^ ((33 - (7 * i)) - 1)))) ∧ ((notB (ltI (Int.ofNat (l.getD i 0)) (Int.ofNat 128)) = true → ((fun ls h' => h' = h ∧ ∃ w i', ls = [some vb, some (AV.int .i64 (.ofNat 33)), some (AV.bool true), some (AV.int .u64 (.ofNat (readG 33 true l 0 0 0).1)), some (AV.int .i64 (.ofNat (readG 33 true l 0 0 0).2.1)), some (AV.int .i64 (.ofNat (readG 33 true l 0 0 0).2.2)), some (AV.int .u64 (.ofNat w)), some (AV.int .i64 (.ofNat 5)), some (AV.int .i64 (.ofNat i'))]) : List (Option AV) → Hp → Prop) [some vb, some (AV.int .i64 (Int.ofNat 33)), some (AV.bool true), some (AV.int .u64 (Int.ofNat 0)), some (AV.int .i64 (Int.ofNat 0)), some (AV.int .i64 (Int.ofNat 2)), some (AV.int .u64 (Int.ofNat v)), some (AV.int .i64 (Int.ofNat 5)), some (AV.int .i64 (Int.ofNat i))] h) ∧ (notB (ltI (Int.ofNat (l.getD i 0)) (Int.ofNat 128)) = false → ((notB (eqI (Int.ofNat (((l.getD i 0) &&& 127) / 2 ^ ((33 - (7 * i)) - 1))) (Int.ofNat 0)) = true → ((notB (eqI (Int.ofNat (((l.getD i 0) &&& 127) / 2 ^ ((33 - (7 * i)) - 1))) (Int.ofNat (127 / 2 ^ ((33 - (7 * i)) - 1)))) = true → ((fun ls h' => h' = h ∧ ∃ w i', ls = [some vb, some (AV.int .i64 (.ofNat 33)), some (AV.bool true), some (AV.int .u64 (.ofNat (readG 33 true l 0 0 0).1)), some (AV.int .i64 (.ofNat (readG 33 true l 0 0 0).2.1)), some (AV.int .i64 (.ofNat (readG 33 true l 0 0 0).2.2)), some (AV.int .u64 (.ofNat w)), some (AV.int .i64 (.ofNat 5)), some (AV.int .i64 (.ofNat i'))]) : List (Option AV) → Hp → Prop) [some vb, some (AV.int .i64 (Int.ofNat 33)), some (AV.bool true), some (AV.int .u64 (Int.ofNat 0)), some (AV.int .i64 (Int.ofNat 0)), some (AV.int .i64 (Int.ofNat 2)), some (AV.int .u64 (Int.ofNat v)), some (AV.int .i64 (Int.ofNat 5)), some (AV.int .i64 (Int.ofNat i))] h) ∧ (notB (eqI (Int.ofNat (((l.getD i 0) &&& 127) / 2 ^ ((33 - (7 * i)) - 1))) (Int.ofNat (127 / 2 ^ ((33 - (7 * i)) - 1)))) = false → (evQ (.bin .mul (.const (AV.int .i64 (Int.ofNat 7))) (.const (AV.int .i64 (Int.ofNat i)))) .lf H0 = .ok (AV.int .i64 (Int.ofNat (7 * i))) ∧ (evQ (.bin .shl (.const (AV.int .u64 (Int.ofNat ((l.getD i 0) &&& 127)))) (.const (AV.int .i64 (Int.ofNat (7 * i))))) .lf H0 = .ok (AV.int .u64 (Int.ofNat (((l.getD i 0) &&& 127) * 2 ^ (7 * i) % 18446744073709551616))) ∧ (evQ (.bin .or (.const (AV.int .u64 (Int.ofNat v))) (.const (AV.int .u64 (Int.ofNat (((l.getD i 0) &&& 127) * 2 ^ (7 * i) % 18446744073709551616))))) .lf H0 = .ok (AV.int .u64 (Int.ofNat (v ||| (((l.getD i 0) &&& 127) * 2 ^ (7 * i) % 18446744073709551616)))) ∧ (evQ (.bin .lss (.const (AV.int .u8 (Int.ofNat (l.getD i 0)))) (.const (AV.int .u8 (Int.ofNat 128)))) .lf H0 = .ok (AV.bool true) ∧ (evQ (.bin .and (.const (AV.int .u8 (Int.ofNat (l.getD i 0)))) (.const (AV.int .u8 (Int.ofNat 64)))) .lf H0 = .ok (AV.int .u8 (Int.ofNat ((l.getD i 0) &&& 64))) ∧ ((notB (eqI (Int.ofNat ((l.getD i 0) &&& 64)) (Int.ofNat 0)) = true → (evQ (.bin .mul (.const (AV.int .i64 (Int.ofNat 7))) (.const (AV.int .i64 (Int.ofNat i)))) .lf H0 = .ok (AV.int .i64 (Int.ofNat (7 * i))) ∧ (evQ (.bin .add (.const (AV.int .i64 (Int.ofNat (7 * i)))) (.const (AV.int .i64 (Int.ofNat 7)))) .lf H0 = .ok (AV.int .i64 (Int.ofNat ((7 * i) + 7))) ∧ ((ltI (Int.ofNat ((7 * i) + 7)) (Int.ofNat 64) = true → (evQ (.bin .mul (.const (AV.int .i64 (Int.ofNat 7))) (.const (AV.int .i64 (Int.ofNat i)))) .lf H0 = .ok (AV.int .i64 (Int.ofNat (7 * i))) ∧ (evQ (.bin .add (.const (AV.int .i64 (Int.ofNat (7 * i)))) (.const (AV.int .i64 (Int.ofNat 7)))) .lf H0 = .ok (AV.int .i64 (Int.ofNat ((7 * i) + 7))) ∧ (evQ (.bin .shl (.const (AV.int .u64 (Int.ofNat 18446744073709551615))) (.const (AV.int .i64 (Int.ofNat ((7 * i) + 7))))) .lf H0 = .ok (AV.int .u64 (Int.ofNat (18446744073709551615 * 2 ^ ((7 * i) + 7) % 18446744073709551616))) ∧ (evQ (.bin .or (.const (AV.int .u64 (Int.ofNat (v ||| (((l.getD i 0) &&& 127) * 2 ^ (7 * i) % 18446744073709551616))))) (.const (AV.int .u64 (Int.ofNat (18446744073709551615 * 2 ^ ((7 * i) + 7) % 18446744073709551616))))) .lf H0 = .ok (AV.int .u64 (Int.ofNat ((v ||| (((l.getD i 0) &&& 127) * 2 ^ (7 * i) % 18446744073709551616)) ||| (18446744073709551615 * 2 ^ ((7 * i) + 7) % 18446744073709551616)))) ∧ (evQ (.bin .add (.const (AV.int .i64 (Int.ofNat i))) (.const (AV.int .i64 (Int.ofNat 1)))) .lf H0 = .ok (AV.int .i64 (Int.ofNat (i + 1))) ∧ ((fun ls h' => h' = h ∧ ∃ w i', ls = [some vb, some (AV.int .i64 (.ofNat 33)), some (AV.bool true), some (AV.int .u64 (.ofNat (readG 33 true l 0 0 0).1)), some (AV.int .i64 (.ofNat (readG 33 true l 0 0 0).2.1)), some (AV.int .i64 (.ofNat (readG 33 true l 0 0 0).2.2)), some (AV.int .u64 (.ofNat w)), some (AV.int .i64 (.ofNat 5)), some (AV.int .i64 (.ofNat i'))]) : List (Option AV) → Hp → Prop) [some vb, some (AV.int .i64 (Int.ofNat 33)), some (AV.bool true), some (AV.int .u64 (Int.ofNat ((v ||| (((l.getD i 0) &&& 127) * 2 ^ (7 * i) % 18446744073709551616)) ||| (18446744073709551615 * 2 ^ ((7 * i) + 7) % 18446744073709551616)))), some (AV.int .i64 (Int.ofNat (i + 1))), some (AV.int .i64 (Int.ofNat 0)), some (AV.int .u64 (Int.ofNat ((v ||| (((l.getD i 0) &&& 127) * 2 ^ (7 * i) % 18446744073709551616)) ||| (18446744073709551615 * 2 ^ ((7 * i) + 7) % 18446744073709551616)))), some (AV.int .i64 (Int.ofNat 5)), some (AV.int .i64 (Int.ofNat i))] h)))))) ∧ (ltI (Int.ofNat ((7 * i) + 7)) (Int.ofNat 64) = false → (evQ (.bin .add (.const (AV.int .i64 (Int.ofNat i))) (.const (AV.int .i64 (Int.ofNat 1)))) .lf H0 = .ok (AV.int .i64 (Int.ofNat (i + 1))) ∧ ((fun ls h' => h' = h ∧ ∃ w i', ls = [some vb, some (AV.int .i64 (.ofNat 33)), some (AV.bool true), some (AV.int .u64 (.ofNat (readG 33 true l 0 0 0).1)), some (AV.int .i64 (.ofNat (readG 33 true l 0 0 0).2.1)), some (AV.int .i64 (.ofNat (readG 33 true l 0 0 0).2.2)), some (AV.int .u64 (.ofNat w)), some (AV.int .i64 (.ofNat 5)), some (AV.int .i64 (.ofNat i'))]) : List (Option AV) → Hp → Prop) [some vb, some (AV.int .i64 (Int.ofNat 33)), some (AV.bool true), some (AV.int .u64 (Int.ofNat (v ||| (((l.getD i 0) &&& 127) * 2 ^ (7 * i) % 18446744073709551616)))), some (AV.int .i64 (Int.ofNat (i + 1))), some (AV.int .i64 (Int.ofNat 0)), some (AV.int .u64 (Int.ofNat (v ||| (((l.getD i 0) &&& 127) * 2 ^ (7 * i) % 18446744073709551616)))), some (AV.int .i64 (Int.ofNat 5)), some (AV.int .i64 (Int.ofNat i))] h)))))) ∧ (notB (eqI (Int.ofNat ((l.getD i 0) &&& 64)) (Int.ofNat 0)) = false → (evQ (.bin .add (.const (AV.int .i64 (Int.ofNat i))) (.const (AV.int .i64 (Int.ofNat 1)))) .lf H0 = .ok (AV.int .i64 (Int.ofNat (i + 1))) ∧ ((fun ls h' => h' = h ∧ ∃ w i', ls = [some vb, some (AV.int .i64 (.ofNat 33)), some (AV.bool true), some (AV.int .u64 (.ofNat (readG 33 true l 0 0 0).1)), some (AV.int .i64 (.ofNat (readG 33 true l 0 0 0).2.1)), some (AV.int .i64 (.ofNat (readG 33 true l 0 0 0).2.2)), some (AV.int .u64 (.ofNat w)), some (AV.int .i64 (.ofNat 5)), some (AV.int .i64 (.ofNat i'))]) : List (Option AV) → Hp → Prop) [some vb, some (AV.int .i64 (Int.ofNat 33)), some (AV.bool true), some (AV.int .u64 (Int.ofNat (v ||| (((l.getD i 0) &&& 127) * 2 ^ (7 * i) % 18446744073709551616)))), some (AV.int .i64 (Int.ofNat (i + 1))), some (AV.int .i64 (Int.ofNat 0)), some (AV.int .u64 (Int.ofNat (v ||| (((l.getD i 0) &&& 127) * 2 ^ (7 * i) % 18446744073709551616)))), some (AV.int .i64 (Int.ofNat 5)), some (AV.int .i64 (Int.ofNat i))] h))))))))))) ∧ (notB (eqI (Int.ofNat (((l.getD i 0) &&& 127) / 2 ^ ((33 - (7 * i)) - 1))) (Int.ofNat 0)) = false → (evQ (.bin .mul (.const (AV.int .i64 (Int.ofNat 7))) (.const (AV.int .i64 (Int.ofNat i)))) .lf H0 = .ok (AV.int .i64 (Int.ofNat (7 * i))) ∧ (evQ (.bin .shl (.const (AV.int .u64 (Int.ofNat ((l.getD i 0) &&& 127)))) (.const (AV.int .i64 (Int.ofNat (7 * i))))) .lf H0 = .ok (AV.int .u64 (Int.ofNat (((l.getD i 0) &&& 127) * 2 ^ (7 * i) % 18446744073709551616))) ∧ (evQ (.bin .or (.const (AV.int .u64 (Int.ofNat v))) (.const (AV.int .u64 (Int.ofNat (((l.getD i 0) &&& 127) * 2 ^ (7 * i) % 18446744073709551616))))) .lf H0 = .ok (AV.int .u64 (Int.ofNat (v ||| (((l.getD i 0) &&& 127) * 2 ^ (7 * i) % 18446744073709551616)))) ∧ (evQ (.bin .lss (.const (AV.int .u8 (Int.ofNat (l.getD i 0)))) (.const (AV.int .u8 (Int.ofNat 128)))) .lf H0 = .ok (AV.bool true) ∧ (evQ (.bin .and (.const (AV.int .u8 (Int.ofNat (l.getD i 0)))) (.const (AV.int .u8 (Int.ofNat 64)))) .lf H0 = .ok (AV.int .u8 (Int.ofNat ((l.getD i 0) &&& 64))) ∧ ((notB (eqI (Int.ofNat ((l.getD i 0) &&& 64)) (Int.ofNat 0)) = true → (evQ (.bin .mul (.const (AV.int .i64 (Int.ofNat 7))) (.const (AV.int .i64 (Int.ofNat i)))) .lf H0 = .ok (AV.int .i64 (Int.ofNat (7 * i))) ∧ (evQ (.bin .add (.const (AV.int .i64 (Int.ofNat (7 * i)))) (.const (AV.int .i64 (Int.ofNat 7)))) .lf H0 = .ok (AV.int .i64 (Int.ofNat ((7 * i) + 7))) ∧ ((ltI (Int.ofNat ((7 * i) + 7)) (Int.ofNat 64) = true → (evQ (.bin .mul (.const (AV.int .i64 (Int.ofNat 7))) (.const (AV.int .i64 (Int.ofNat i)))) .lf H0 = .ok (AV.int .i64 (Int.ofNat (7 * i))) ∧ (evQ (.bin .add (.const (AV.int .i64 (Int.ofNat (7 * i)))) (.const (AV.int .i64 (Int.ofNat 7)))) .lf H0 = .ok (AV.int .i64 (Int.ofNat ((7 * i) + 7))) ∧ (evQ (.bin .shl (.const (AV.int .u64 (Int.ofNat 18446744073709551615))) (.const (AV.int .i64 (Int.ofNat ((7 * i) + 7))))) .lf H0 = .ok (AV.int .u64 (Int.ofNat (18446744073709551615 * 2 ^ ((7 * i) + 7) % 18446744073709551616))) ∧ (evQ (.bin .or (.const (AV.int .u64 (Int.ofNat (v ||| (((l.getD i 0) &&& 127) * 2 ^ (7 * i) % 18446744073709551616))))) (.const (AV.int .u64 (Int.ofNat (18446744073709551615 * 2 ^ ((7 * i) + 7) % 18446744073709551616))))) .lf H0 = .ok (AV.int .u64 (Int.ofNat ((v ||| (((l.getD i 0) &&& 127) * 2 ^ (7 * i) % 18446744073709551616)) ||| (18446744073709551615 * 2 ^ ((7 * i) + 7) % 18446744073709551616)))) ∧ (evQ (.bin .add (.const (AV.int .i64 (Int.ofNat i))) (.const (AV.int .i64 (Int.ofNat 1)))) .lf H0 = .ok (AV.int .i64 (Int.ofNat (i + 1))) ∧ ((fun ls h' => h' = h ∧ ∃ w i', ls = [some vb, some (AV.int .i64 (.ofNat 33)), some (AV.bool true), some (AV.int .u64 (.ofNat (readG 33 true l 0 0 0).1)), some (AV.int .i64 (.ofNat (readG 33 true l 0 0 0).2.1)), some (AV.int .i64 (.ofNat (readG 33 true l 0 0 0).2.2)), some (AV.int .u64 (.ofNat w)), some (AV.int .i64 (.ofNat 5)), some (AV.int .i64 (.ofNat i'))]) : List (Option AV) → Hp → Prop) [some vb, some (AV.int .i64 (Int.ofNat 33)), some (AV.bool true), some (AV.int .u64 (Int.ofNat ((v ||| (((l.getD i 0) &&& 127) * 2 ^ (7 * i) % 18446744073709551616)) ||| (18446744073709551615 * 2 ^ ((7 * i) + 7) % 18446744073709551616)))), some (AV.int .i64 (Int.ofNat (i + 1))), some (AV.int .i64 (Int.ofNat 0)), some (AV.int .u64 (Int.ofNat ((v ||| (((l.getD i 0) &&& 127) * 2 ^ (7 * i) % 18446744073709551616)) ||| (18446744073709551615 * 2 ^ ((7 * i) + 7) % 18446744073709551616)))), some (AV.int .i64 (Int.ofNat 5)), some (AV.int .i64 (Int.ofNat i))] h)))))) ∧ (ltI (Int.ofNat ((7 * i) + 7)) (Int.ofNat 64) = false → (evQ (.bin .add (.const (AV.int .i64 (Int.ofNat i))) (.const (AV.int .i64 (Int.ofNat 1)))) .lf H0 = .ok (AV.int .i64 (Int.ofNat (i + 1))) ∧ ((fun ls h' => h' = h ∧ ∃ w i', ls = [some vb, some (AV.int .i64 (.ofNat 33)), some (AV.bool true), some (AV.int .u64 (.ofNat (readG 33 true l 0 0 0).1)), some (AV.int .i64 (.ofNat (readG 33 true l 0 0 0).2.1)), some (AV.int .i64 (.ofNat (readG 33 true l 0 0 0).2.2)), some (AV.int .u64 (.ofNat w)), some (AV.int .i64 (.ofNat 5)), some (AV.int .i64 (.ofNat i'))]) : List (Option AV) → Hp → Prop) [some vb, some (AV.int .i64 (Int.ofNat 33)), some (AV.bool true), some (AV.int .u64 (Int.ofNat (v ||| (((l.getD i 0) &&& 127) * 2 ^ (7 * i) % 18446744073709551616)))), some (AV.int .i64 (Int.ofNat (i + 1))), some (AV.int .i64 (Int.ofNat 0)), some (AV.int .u64 (Int.ofNat (v ||| (((l.getD i 0) &&& 127) * 2 ^ (7 * i) % 18446744073709551616)))), some (AV.int .i64 (Int.ofNat 5)), some (AV.int .i64 (Int.ofNat i))] h)))))) ∧ (notB (eqI (Int.ofNat ((l.getD i 0) &&& 64)) (Int.ofNat 0)) = false → (evQ (.bin .add (.const (AV.int .i64 (Int.ofNat i))) (.const (AV.int .i64 (Int.ofNat 1)))) .lf H0 = .ok (AV.int .i64 (Int.ofNat (i + 1))) ∧ ((fun ls h' => h' = h ∧ ∃ w i', ls = [some vb, some (AV.int .i64 (.ofNat 33)), some (AV.bool true), some (AV.int .u64 (.ofNat (readG 33 true l 0 0 0).1)), some (AV.int .i64 (.ofNat (readG 33 true l 0 0 0).2.1)), some (AV.int .i64 (.ofNat (readG 33 true l 0 0 0).2.2)), some (AV.int .u64 (.ofNat w)), some (AV.int .i64 (.ofNat 5)), some (AV.int .i64 (.ofNat i'))]) : List (Option AV) → Hp → Prop) [some vb, some (AV.int .i64 (Int.ofNat 33)), some (AV.bool true), some (AV.int .u64 (Int.ofNat (v ||| (((l.getD i 0) &&& 127) * 2 ^ (7 * i) % 18446744073709551616)))), some (AV.int .i64 (Int.ofNat (i + 1))), some (AV.int .i64 (Int.ofNat 0)), some (AV.int .u64 (Int.ofNat (v ||| (((l.getD i 0) &&& 127) * 2 ^ (7 * i) % 18446744073709551616)))), some (AV.int .i64 (Int.ofNat 5)), some (AV.int .i64 (Int.ofNat i))] h))))))))))))))))))))) ∧ (eqI (Int.ofNat i) (Int.ofNat 4) = false → (evQ (.bin .mul (.const (AV.int .i64 (Int.ofNat 7))) (.const (AV.int .i64 (Int.ofNat i)))) .lf H0 = .ok (AV.int .i64 (Int.ofNat (7 * i))) ∧ (evQ (.bin .shl (.const (AV.int .u64 (Int.ofNat ((l.getD i 0) &&& 127)))) (.const (AV.int .i64 (Int.ofNat (7 * i))))) .lf H0 = .ok (AV.int .u64 (Int.ofNat (((l.getD i 0) &&& 127) * 2 ^ (7 * i) % 18446744073709551616))) ∧ (evQ (.bin .or (.const (AV.int .u64 (Int.ofNat v))) (.const (AV.int .u64 (Int.ofNat (((l.getD i 0) &&& 127) * 2 ^ (7 * i) % 18446744073709551616))))) .lf H0 = .ok (AV.int .u64 (Int.ofNat (v ||| (((l.getD i 0) &&& 127) * 2 ^ (7 * i) % 18446744073709551616)))) ∧ ((ltI (Int.ofNat (l.getD i 0)) (Int.ofNat 128) = true → (evQ (.bin .and (.const (AV.int .u8 (Int.ofNat (l.getD i 0)))) (.const (AV.int .u8 (Int.ofNat 64)))) .lf H0 = .ok (AV.int .u8 (Int.ofNat ((l.getD i 0) &&& 64))) ∧ ((notB (eqI (Int.ofNat ((l.getD i 0) &&& 64)) (Int.ofNat 0)) = true → (evQ (.bin .mul (.const (AV.int .i64 (Int.ofNat 7))) (.const (AV.int .i64 (Int.ofNat i)))) .lf H0 = .ok (AV.int .i64 (Int.ofNat (7 * i))) ∧ (evQ (.bin .add (.const (AV.int .i64 (Int.ofNat (7 * i)))) (.const (AV.int .i64 (Int.ofNat 7)))) .lf H0 = .ok (AV.int .i64 (Int.ofNat ((7 * i) + 7))) ∧ ((ltI (Int.ofNat ((7 * i) + 7)) (Int.ofNat 64) = true → (evQ (.bin .mul (.const (AV.int .i64 (Int.ofNat 7))) (.const (AV.int .i64 (Int.ofNat i)))) .lf H0 = .ok (AV.int .i64 (Int.ofNat (7 * i))) ∧ (evQ (.bin .add (.const (AV.int .i64 (Int.ofNat (7 * i)))) (.const (AV.int .i64 (Int.ofNat 7)))) .lf H0 = .ok (AV.int .i64 (Int.ofNat ((7 * i) + 7))) ∧ (evQ (.bin .shl (.const (AV.int .u64 (Int.ofNat 18446744073709551615))) (.const (AV.int .i64 (Int.ofNat ((7 * i) + 7))))) .lf H0 = .ok (AV.int .u64 (Int.ofNat (18446744073709551615 * 2 ^ ((7 * i) + 7) % 18446744073709551616))) ∧ (evQ (.bin .or (.const (AV.int .u64 (Int.ofNat (v ||| (((l.getD i 0) &&& 127) * 2 ^ (7 * i) % 18446744073709551616))))) (.const (AV.int .u64 (Int.ofNat (18446744073709551615 * 2 ^ ((7 * i) + 7) % 18446744073709551616))))) .lf H0 = .ok (AV.int .u64 (Int.ofNat ((v ||| (((l.getD i 0) &&& 127) * 2 ^ (7 * i) % 18446744073709551616)) ||| (18446744073709551615 * 2 ^ ((7 * i) + 7) % 18446744073709551616)))) ∧ (evQ (.bin .add (.const (AV.int .i64 (Int.ofNat i))) (.const (AV.int .i64 (Int.ofNat 1)))) .lf H0 = .ok (AV.int .i64 (Int.ofNat (i + 1))) ∧ ((fun ls h' => h' = h ∧ ∃ w i', ls = [some vb, some (AV.int .i64 (.ofNat 33)), some (AV.bool true), some (AV.int .u64 (.ofNat (readG 33 true l 0 0 0).1)), some (AV.int .i64 (.ofNat (readG 33 true l 0 0 0).2.1)), some (AV.int .i64 (.ofNat (readG 33 true l 0 0 0).2.2)), some (AV.int .u64 (.ofNat w)), some (AV.int .i64 (.ofNat 5)), some (AV.int .i64 (.ofNat i'))]) : List (Option AV) → Hp → Prop) [some vb, some (AV.int .i64 (Int.ofNat 33)), some (AV.bool true), some (AV.int .u64 (Int.ofNat ((v ||| (((l.getD i 0) &&& 127) * 2 ^ (7 * i) % 18446744073709551616)) ||| (18446744073709551615 * 2 ^ ((7 * i) + 7) % 18446744073709551616)))), some (AV.int .i64 (Int.ofNat (i + 1))), some (AV.int .i64 (Int.ofNat 0)), some (AV.int .u64 (Int.ofNat ((v ||| (((l.getD i 0) &&& 127) * 2 ^ (7 * i) % 18446744073709551616)) ||| (18446744073709551615 * 2 ^ ((7 * i) + 7) % 18446744073709551616)))), some (AV.int .i64 (Int.ofNat 5)), some (AV.int .i64 (Int.ofNat i))] h)))))) ∧ (ltI (Int.ofNat ((7 * i) + 7)) (Int.ofNat 64) = false → (evQ (.bin .add (.const (AV.int .i64 (Int.ofNat i))) (.const (AV.int .i64 (Int.ofNat 1)))) .lf H0 = .ok (AV.int .i64 (Int.ofNat (i + 1))) ∧ ((fun ls h' => h' = h ∧ ∃ w i', ls = [some vb, some (AV.int .i64 (.ofNat 33)), some (AV.bool true), some (AV.int .u64 (.ofNat (readG 33 true l 0 0 0).1)), some (AV.int .i64 (.ofNat (readG 33 true l 0 0 0).2.1)), some (AV.int .i64 (.ofNat (readG 33 true l 0 0 0).2.2)), some (AV.int .u64 (.ofNat w)), some (AV.int .i64 (.ofNat 5)), some (AV.int .i64 (.ofNat i'))]) : List (Option AV) → Hp → Prop) [some vb, some (AV.int .i64 (Int.ofNat 33)), some (AV.bool true), some (AV.int .u64 (Int.ofNat (v ||| (((l.getD i 0) &&& 127) * 2 ^ (7 * i) % 18446744073709551616)))), some (AV.int .i64 (Int.ofNat (i + 1))), some (AV.int .i64 (Int.ofNat 0)), some (AV.int .u64 (Int.ofNat (v ||| (((l.getD i 0) &&& 127) * 2 ^ (7 * i) % 18446744073709551616)))), some (AV.int .i64 (Int.ofNat 5)), some (AV.int .i64 (Int.ofNat i))] h)))))) ∧ (notB (eqI (Int.ofNat ((l.getD i 0) &&& 64)) (Int.ofNat 0)) = false → (evQ (.bin .add (.const (AV.int .i64 (Int.ofNat i))) (.const (AV.int .i64 (Int.ofNat 1)))) .lf H0 = .ok (AV.int .i64 (Int.ofNat (i + 1))) ∧ ((fun ls h' => h' = h ∧ ∃ w i', ls = [some vb, some (AV.int .i64 (.ofNat 33)), some (AV.bool true), some (AV.int .u64 (.ofNat (readG 33 true l 0 0 0).1)), some (AV.int .i64 (.ofNat (readG 33 true l 0 0 0).2.1)), some (AV.int .i64 (.ofNat (readG 33 true l 0 0 0).2.2)), some (AV.int .u64 (.ofNat w)), some (AV.int .i64 (.ofNat 5)), some (AV.int .i64 (.ofNat i'))]) : List (Option AV) → Hp → Prop) [some vb, some (AV.int .i64 (Int.ofNat 33)), some (AV.bool true), some (AV.int .u64 (Int.ofNat (v ||| (((l.getD i 0) &&& 127) * 2 ^ (7 * i) % 18446744073709551616)))), some (AV.int .i64 (Int.ofNat (i + 1))), some (AV.int .i64 (Int.ofNat 0)), some (AV.int .u64 (Int.ofNat (v ||| (((l.getD i 0) &&& 127) * 2 ^ (7 * i) % 18446744073709551616)))), some (AV.int .i64 (Int.ofNat 5)), some (AV.int .i64 (Int.ofNat i))] h))))) ∧ (ltI (Int.ofNat (l.getD i 0)) (Int.ofNat 128) = false → (evQ (.bin .add (.const (AV.int .i64 (Int.ofNat i))) (.const (AV.int .i64 (Int.ofNat 1)))) .lf H0 = .ok (AV.int .i64 (Int.ofNat (i + 1))) ∧ ((fun ls h' => ∃ m, m < 100 - i ∧ h' = h ∧ ∃ i' v', ls = [some vb, some (AV.int .i64 (.ofNat 33)), some (AV.bool true), some (AV.int .u64 (.ofNat 0)), some (AV.int .i64 (.ofNat 0)), some (AV.int .i64 (.ofNat 0)), some (AV.int .u64 (.ofNat v')), some (AV.int .i64 (.ofNat 5)), some (AV.int .i64 (.ofNat i'))] ∧ m = 100 - i' ∧ i' < 5 ∧ v' < 18446744073709551616 ∧ readG 33 true (l.drop i') (7 * i') i' v' = readG 33 true l 0 0 0) : List (Option AV) → Hp → Prop) [some vb, some (AV.int .i64 (Int.ofNat 33)), some (AV.bool true), some (AV.int .u64 (Int.ofNat 0)), some (AV.int .i64 (Int.ofNat 0)), some (AV.int .i64 (Int.ofNat 0)), some (AV.int .u64 (Int.ofNat (v ||| (((l.getD i 0) &&& 127) * 2 ^ (7 * i) % 18446744073709551616)))), some (AV.int .i64 (Int.ofNat 5)), some (AV.int .i64 (Int.ofNat (i + 1)))] h)))))))))))))))) ∧ (ltI (Int.ofNat i) (Int.ofNat 5) = false → ((fun _ _ _ => False) : Nat → List (Option AV) → Hp → Prop) 0 [some vb, some (AV.int .i64 (Int.ofNat 33)), some (AV.bool true), some (AV.int .u64 (Int.ofNat 0)), some (AV.int .i64 (Int.ofNat 0)), some (AV.int .i64 (Int.ofNat 0)), some (AV.int .u64 (Int.ofNat v)), some (AV.int .i64 (Int.ofNat 5)), some (AV.int .i64 (Int.ofNat i))] h))) (by kernel_rfl) ?_
  refine ⟨fun c1 => ?_, fun c1 => ?_⟩
  · have rc1 := c1
    replace c1 : i < 5 := ltI_t c1
    refine ⟨q_len hb, ?_⟩
    refine ⟨fun c2 => ?_, fun c2 => ?_⟩
    · have rc2 := c2
      replace c2 : l.length ≤ i := ltI_f (notB_t c2)
      exact fin _ _ _ (by rw [List.drop_eq_nil_of_le (by omega)]; rfl)
    · have rc2 := c2
      replace c2 : i < l.length := ltI_t (notB_f c2)
      refine ⟨q_idxB hb (by omega), ?_⟩
      refine ⟨q_byte hb (by omega), ?_⟩
      have x3 : l.getD i 0 < 256 := getD_lt hb.lt i
      refine ⟨u_and rfl x3 (by decide), ?_⟩
      have g4 : (l.getD i 0) &&& 127 < 256 := Nat.lt_of_le_of_lt Nat.and_le_left x3
      refine ⟨u_conv' rfl (Nat.lt_of_lt_of_le g4 (by decide)), ?_⟩
      have g5 : (l.getD i 0) &&& 127 < 18446744073709551616 := Nat.lt_of_lt_of_le g4 (by decide)
      refine ⟨fun c6 => ?_, fun c6 => ?_⟩
      · have rc6 := c6
        replace c6 : i = 4 := eqI_t c6
        refine ⟨q_mul (by omega), ?_⟩
        refine ⟨q_sub (by omega) (by omega), ?_⟩
        refine ⟨u_shr rfl g5, ?_⟩
        have g7 : ((l.getD i 0) &&& 127) / 2 ^ (33 - (7 * i)) < 18446744073709551616 := Nat.lt_of_le_of_lt (Nat.div_le_self _ _) g5
        refine ⟨q_sub (by omega) (by omega), ?_⟩
        refine ⟨u_shr rfl g5, ?_⟩
        have g8 : ((l.getD i 0) &&& 127) / 2 ^ ((33 - (7 * i)) - 1) < 18446744073709551616 := Nat.lt_of_le_of_lt (Nat.div_le_self _ _) g5
        refine ⟨u_shr rfl (by decide), ?_⟩
        have g9 : 127 / 2 ^ (33 - (7 * i)) < 18446744073709551616 := Nat.lt_of_le_of_lt (Nat.div_le_self _ _) (by decide)
        refine ⟨q_sub (by omega) (by omega), ?_⟩
        refine ⟨u_shr rfl (by decide), ?_⟩
        have g10 : 127 / 2 ^ ((33 - (7 * i)) - 1) < 18446744073709551616 := Nat.lt_of_le_of_lt (Nat.div_le_self _ _) (by decide)
        refine ⟨fun c11 => ?_, fun c11 => ?_⟩
        · have rc11 := c11
          replace c11 : 128 ≤ l.getD i 0 := ltI_f (notB_t c11)
          have hd := drop_cons (l := l) (k := i) (by omega)
          have hx := getD_lt hb.lt i
          refine fin _ _ _ ?_
          rw [hd, readG_s hx (by omega)]
          clear hR fin
          generalize l.getD i 0 = x at *
          first
            | (rw [if_pos (by constructor <;> first | omega | (exact .inl (by omega)) | (exact .inr (by first | assumption | (constructor <;> assumption))))]; done)
            | (rw [if_neg (by rintro ⟨e1, e2⟩; rcases e2 with e2 | e2 <;> first | omega | contradiction | (exact e2.1 (by assumption)) | (exact e2.2 (by assumption))), if_pos (by omega)]; done)
            | (rw [if_neg (by rintro ⟨e1, e2⟩; rcases e2 with e2 | e2 <;> first | omega | contradiction | (exact e2.1 (by assumption)) | (exact e2.2 (by assumption))), if_pos (by omega), if_pos (by constructor <;> assumption)]; done)
            | (rw [if_neg (by rintro ⟨e1, e2⟩; rcases e2 with e2 | e2 <;> first | omega | contradiction | (exact e2.1 (by assumption)) | (exact e2.2 (by assumption))), if_pos (by omega), if_neg (by rintro ⟨e1, e2⟩; first | omega | contradiction)]; done)
        · have rc11 := c11
          replace c11 : l.getD i 0 < 128 := ltI_t (notB_f c11)
          refine ⟨fun c12 => ?_, fun c12 => ?_⟩
          · have rc12 := c12
            replace c12 : ((l.getD i 0) &&& 127) / 2 ^ ((33 - (7 * i)) - 1) ≠ 0 := eqI_f (notB_t c12)
            refine ⟨fun c13 => ?_, fun c13 => ?_⟩
            · have rc13 := c13
              replace c13 : ((l.getD i 0) &&& 127) / 2 ^ ((33 - (7 * i)) - 1) ≠ 127 / 2 ^ ((33 - (7 * i)) - 1) := eqI_f (notB_t c13)
              have hd := drop_cons (l := l) (k := i) (by omega)
              have hx := getD_lt hb.lt i
              refine fin _ _ _ ?_
              rw [hd, readG_s hx (by omega)]
              clear hR fin
              generalize l.getD i 0 = x at *
              first
                | (rw [if_pos (by constructor <;> first | omega | (exact .inl (by omega)) | (exact .inr (by first | assumption | (constructor <;> assumption))))]; done)
                | (rw [if_neg (by rintro ⟨e1, e2⟩; rcases e2 with e2 | e2 <;> first | omega | contradiction | (exact e2.1 (by assumption)) | (exact e2.2 (by assumption))), if_pos (by omega)]; done)
                | (rw [if_neg (by rintro ⟨e1, e2⟩; rcases e2 with e2 | e2 <;> first | omega | contradiction | (exact e2.1 (by assumption)) | (exact e2.2 (by assumption))), if_pos (by omega), if_pos (by constructor <;> assumption)]; done)
                | (rw [if_neg (by rintro ⟨e1, e2⟩; rcases e2 with e2 | e2 <;> first | omega | contradiction | (exact e2.1 (by assumption)) | (exact e2.2 (by assumption))), if_pos (by omega), if_neg (by rintro ⟨e1, e2⟩; first | omega | contradiction)]; done)
            · have rc13 := c13
              replace c13 : ((l.getD i 0) &&& 127) / 2 ^ ((33 - (7 * i)) - 1) = 127 / 2 ^ ((33 - (7 * i)) - 1) := eqI_t (notB_f c13)
              refine ⟨q_mul (by omega), ?_⟩
              refine ⟨u_shl rfl, ?_⟩
              have g14 : ((l.getD i 0) &&& 127) * 2 ^ (7 * i) % 18446744073709551616 < 18446744073709551616 := Nat.mod_lt _ (by decide)
              refine ⟨u_or rfl hv g14, ?_⟩
              have g15 : v ||| (((l.getD i 0) &&& 127) * 2 ^ (7 * i) % 18446744073709551616) < 18446744073709551616 := Nat.or_lt_two_pow (n := 64) hv g14
              refine ⟨congrArg (fun z => OV.ok (AV.bool z)) (notB_f rc11), ?_⟩
              refine ⟨u_and rfl x3 (by decide), ?_⟩
              have g16 : (l.getD i 0) &&& 64 < 256 := Nat.lt_of_le_of_lt Nat.and_le_left x3
              refine ⟨fun c17 => ?_, fun c17 => ?_⟩
              · have rc17 := c17
                replace c17 : (l.getD i 0) &&& 64 ≠ 0 := eqI_f (notB_t c17)
                refine ⟨q_mul (by omega), ?_⟩
                refine ⟨q_add (by omega), ?_⟩
                refine ⟨fun c18 => ?_, fun c18 => ?_⟩
                · have rc18 := c18
                  replace c18 : (7 * i) + 7 < 64 := ltI_t c18
                  refine ⟨q_mul (by omega), ?_⟩
                  refine ⟨q_add (by omega), ?_⟩
                  refine ⟨u_shl rfl, ?_⟩
                  have g19 : 18446744073709551615 * 2 ^ ((7 * i) + 7) % 18446744073709551616 < 18446744073709551616 := Nat.mod_lt _ (by decide)
                  refine ⟨u_or rfl g15 g19, ?_⟩
                  have g20 : (v ||| (((l.getD i 0) &&& 127) * 2 ^ (7 * i) % 18446744073709551616)) ||| (18446744073709551615 * 2 ^ ((7 * i) + 7) % 18446744073709551616) < 18446744073709551616 := Nat.or_lt_two_pow (n := 64) g15 g19
                  refine ⟨q_add (by omega), ?_⟩
                  have hd := drop_cons (l := l) (k := i) (by omega)
                  have hx := getD_lt hb.lt i
                  refine fin _ _ _ ?_
                  rw [hd, readG_s hx (by omega)]
                  clear hR fin
                  generalize l.getD i 0 = x at *
                  first
                    | (rw [if_pos (by constructor <;> first | omega | (exact .inl (by omega)) | (exact .inr (by first | assumption | (constructor <;> assumption))))]; done)
                    | (rw [if_neg (by rintro ⟨e1, e2⟩; rcases e2 with e2 | e2 <;> first | omega | contradiction | (exact e2.1 (by assumption)) | (exact e2.2 (by assumption))), if_pos (by omega)]; done)
                    | (rw [if_neg (by rintro ⟨e1, e2⟩; rcases e2 with e2 | e2 <;> first | omega | contradiction | (exact e2.1 (by assumption)) | (exact e2.2 (by assumption))), if_pos (by omega), if_pos (by constructor <;> assumption)]; done)
                    | (rw [if_neg (by rintro ⟨e1, e2⟩; rcases e2 with e2 | e2 <;> first | omega | contradiction | (exact e2.1 (by assumption)) | (exact e2.2 (by assumption))), if_pos (by omega), if_neg (by rintro ⟨e1, e2⟩; first | omega | contradiction)]; done)
                · have rc18 := c18
                  replace c18 : 64 ≤ (7 * i) + 7 := ltI_f c18
                  refine ⟨q_add (by omega), ?_⟩
                  have hd := drop_cons (l := l) (k := i) (by omega)
                  have hx := getD_lt hb.lt i
                  refine fin _ _ _ ?_
                  rw [hd, readG_s hx (by omega)]
                  clear hR fin
                  generalize l.getD i 0 = x at *
                  first
                    | (rw [if_pos (by constructor <;> first | omega | (exact .inl (by omega)) | (exact .inr (by first | assumption | (constructor <;> assumption))))]; done)
                    | (rw [if_neg (by rintro ⟨e1, e2⟩; rcases e2 with e2 | e2 <;> first | omega | contradiction | (exact e2.1 (by assumption)) | (exact e2.2 (by assumption))), if_pos (by omega)]; done)
                    | (rw [if_neg (by rintro ⟨e1, e2⟩; rcases e2 with e2 | e2 <;> first | omega | contradiction | (exact e2.1 (by assumption)) | (exact e2.2 (by assumption))), if_pos (by omega), if_pos (by constructor <;> assumption)]; done)
                    | (rw [if_neg (by rintro ⟨e1, e2⟩; rcases e2 with e2 | e2 <;> first | omega | contradiction | (exact e2.1 (by assumption)) | (exact e2.2 (by assumption))), if_pos (by omega), if_neg (by rintro ⟨e1, e2⟩; first | omega | contradiction)]; done)
              · have rc17 := c17
                replace c17 : (l.getD i 0) &&& 64 = 0 := eqI_t (notB_f c17)
                refine ⟨q_add (by omega), ?_⟩
                have hd := drop_cons (l := l) (k := i) (by omega)
                have hx := getD_lt hb.lt i
                refine fin _ _ _ ?_
                rw [hd, readG_s hx (by omega)]
                clear hR fin
                generalize l.getD i 0 = x at *
                first
                  | (rw [if_pos (by constructor <;> first | omega | (exact .inl (by omega)) | (exact .inr (by first | assumption | (constructor <;> assumption))))]; done)
                  | (rw [if_neg (by rintro ⟨e1, e2⟩; rcases e2 with e2 | e2 <;> first | omega | contradiction | (exact e2.1 (by assumption)) | (exact e2.2 (by assumption))), if_pos (by omega)]; done)
                  | (rw [if_neg (by rintro ⟨e1, e2⟩; rcases e2 with e2 | e2 <;> first | omega | contradiction | (exact e2.1 (by assumption)) | (exact e2.2 (by assumption))), if_pos (by omega), if_pos (by constructor <;> assumption)]; done)
                  | (rw [if_neg (by rintro ⟨e1, e2⟩; rcases e2 with e2 | e2 <;> first | omega | contradiction | (exact e2.1 (by assumption)) | (exact e2.2 (by assumption))), if_pos (by omega), if_neg (by rintro ⟨e1, e2⟩; first | omega | contradiction)]; done)
          · have rc12 := c12
            replace c12 : ((l.getD i 0) &&& 127) / 2 ^ ((33 - (7 * i)) - 1) = 0 := eqI_t (notB_f c12)
            refine ⟨q_mul (by omega), ?_⟩
            refine ⟨u_shl rfl, ?_⟩
            have g13 : ((l.getD i 0) &&& 127) * 2 ^ (7 * i) % 18446744073709551616 < 18446744073709551616 := Nat.mod_lt _ (by decide)
            refine ⟨u_or rfl hv g13, ?_⟩
            have g14 : v ||| (((l.getD i 0) &&& 127) * 2 ^ (7 * i) % 18446744073709551616) < 18446744073709551616 := Nat.or_lt_two_pow (n := 64) hv g13
            refine ⟨congrArg (fun z => OV.ok (AV.bool z)) (notB_f rc11), ?_⟩
            refine ⟨u_and rfl x3 (by decide), ?_⟩
            have g15 : (l.getD i 0) &&& 64 < 256 := Nat.lt_of_le_of_lt Nat.and_le_left x3
            refine ⟨fun c16 => ?_, fun c16 => ?_⟩
            · have rc16 := c16
              replace c16 : (l.getD i 0) &&& 64 ≠ 0 := eqI_f (notB_t c16)
              refine ⟨q_mul (by omega), ?_⟩
              refine ⟨q_add (by omega), ?_⟩
              refine ⟨fun c17 => ?_, fun c17 => ?_⟩
              · have rc17 := c17
                replace c17 : (7 * i) + 7 < 64 := ltI_t c17
                refine ⟨q_mul (by omega), ?_⟩
                refine ⟨q_add (by omega), ?_⟩
                refine ⟨u_shl rfl, ?_⟩
                have g18 : 18446744073709551615 * 2 ^ ((7 * i) + 7) % 18446744073709551616 < 18446744073709551616 := Nat.mod_lt _ (by decide)
                refine ⟨u_or rfl g14 g18, ?_⟩
                have g19 : (v ||| (((l.getD i 0) &&& 127) * 2 ^ (7 * i) % 18446744073709551616)) ||| (18446744073709551615 * 2 ^ ((7 * i) + 7) % 18446744073709551616) < 18446744073709551616 := Nat.or_lt_two_pow (n := 64) g14 g18
                refine ⟨q_add (by omega), ?_⟩
                have hd := drop_cons (l := l) (k := i) (by omega)
                have hx := getD_lt hb.lt i
                refine fin _ _ _ ?_
                rw [hd, readG_s hx (by omega)]
                clear hR fin
                generalize l.getD i 0 = x at *
                first
                  | (rw [if_pos (by constructor <;> first | omega | (exact .inl (by omega)) | (exact .inr (by first | assumption | (constructor <;> assumption))))]; done)
                  | (rw [if_neg (by rintro ⟨e1, e2⟩; rcases e2 with e2 | e2 <;> first | omega | contradiction | (exact e2.1 (by assumption)) | (exact e2.2 (by assumption))), if_pos (by omega)]; done)
                  | (rw [if_neg (by rintro ⟨e1, e2⟩; rcases e2 with e2 | e2 <;> first | omega | contradiction | (exact e2.1 (by assumption)) | (exact e2.2 (by assumption))), if_pos (by omega), if_pos (by constructor <;> assumption)]; done)
                  | (rw [if_neg (by rintro ⟨e1, e2⟩; rcases e2 with e2 | e2 <;> first | omega | contradiction | (exact e2.1 (by assumption)) | (exact e2.2 (by assumption))), if_pos (by omega), if_neg (by rintro ⟨e1, e2⟩; first | omega | contradiction)]; done)
              · have rc17 := c17
                replace c17 : 64 ≤ (7 * i) + 7 := ltI_f c17
                refine ⟨q_add (by omega), ?_⟩
                have hd := drop_cons (l := l) (k := i) (by omega)
                have hx := getD_lt hb.lt i
                refine fin _ _ _ ?_
                rw [hd, readG_s hx (by omega)]
                clear hR fin
                generalize l.getD i 0 = x at *
                first
                  | (rw [if_pos (by constructor <;> first | omega | (exact .inl (by omega)) | (exact .inr (by first | assumption | (constructor <;> assumption))))]; done)
                  | (rw [if_neg (by rintro ⟨e1, e2⟩; rcases e2 with e2 | e2 <;> first | omega | contradiction | (exact e2.1 (by assumption)) | (exact e2.2 (by assumption))), if_pos (by omega)]; done)
                  | (rw [if_neg (by rintro ⟨e1, e2⟩; rcases e2 with e2 | e2 <;> first | omega | contradiction | (exact e2.1 (by assumption)) | (exact e2.2 (by assumption))), if_pos (by omega), if_pos (by constructor <;> assumption)]; done)
                  | (rw [if_neg (by rintro ⟨e1, e2⟩; rcases e2 with e2 | e2 <;> first | omega | contradiction | (exact e2.1 (by assumption)) | (exact e2.2 (by assumption))), if_pos (by omega), if_neg (by rintro ⟨e1, e2⟩; first | omega | contradiction)]; done)
            · have rc16 := c16
              replace c16 : (l.getD i 0) &&& 64 = 0 := eqI_t (notB_f c16)
              refine ⟨q_add (by omega), ?_⟩
              have hd := drop_cons (l := l) (k := i) (by omega)
              have hx := getD_lt hb.lt i
              refine fin _ _ _ ?_
              rw [hd, readG_s hx (by omega)]
              clear hR fin
              generalize l.getD i 0 = x at *
              first
                | (rw [if_pos (by constructor <;> first | omega | (exact .inl (by omega)) | (exact .inr (by first | assumption | (constructor <;> assumption))))]; done)
                | (rw [if_neg (by rintro ⟨e1, e2⟩; rcases e2 with e2 | e2 <;> first | omega | contradiction | (exact e2.1 (by assumption)) | (exact e2.2 (by assumption))), if_pos (by omega)]; done)
                | (rw [if_neg (by rintro ⟨e1, e2⟩; rcases e2 with e2 | e2 <;> first | omega | contradiction | (exact e2.1 (by assumption)) | (exact e2.2 (by assumption))), if_pos (by omega), if_pos (by constructor <;> assumption)]; done)
                | (rw [if_neg (by rintro ⟨e1, e2⟩; rcases e2 with e2 | e2 <;> first | omega | contradiction | (exact e2.1 (by assumption)) | (exact e2.2 (by assumption))), if_pos (by omega), if_neg (by rintro ⟨e1, e2⟩; first | omega | contradiction)]; done)
      · have rc6 := c6
        replace c6 : i ≠ 4 := eqI_f c6
        refine ⟨q_mul (by omega), ?_⟩
        refine ⟨u_shl rfl, ?_⟩
        have g7 : ((l.getD i 0) &&& 127) * 2 ^ (7 * i) % 18446744073709551616 < 18446744073709551616 := Nat.mod_lt _ (by decide)
        refine ⟨u_or rfl hv g7, ?_⟩
        have g8 : v ||| (((l.getD i 0) &&& 127) * 2 ^ (7 * i) % 18446744073709551616) < 18446744073709551616 := Nat.or_lt_two_pow (n := 64) hv g7
        refine ⟨fun c9 => ?_, fun c9 => ?_⟩
        · have rc9 := c9
          replace c9 : l.getD i 0 < 128 := ltI_t c9
          refine ⟨u_and rfl x3 (by decide), ?_⟩
          have g10 : (l.getD i 0) &&& 64 < 256 := Nat.lt_of_le_of_lt Nat.and_le_left x3
          refine ⟨fun c11 => ?_, fun c11 => ?_⟩
          · have rc11 := c11
            replace c11 : (l.getD i 0) &&& 64 ≠ 0 := eqI_f (notB_t c11)
            refine ⟨q_mul (by omega), ?_⟩
            refine ⟨q_add (by omega), ?_⟩
            refine ⟨fun c12 => ?_, fun c12 => ?_⟩
            · have rc12 := c12
              replace c12 : (7 * i) + 7 < 64 := ltI_t c12
              refine ⟨q_mul (by omega), ?_⟩
              refine ⟨q_add (by omega), ?_⟩
              refine ⟨u_shl rfl, ?_⟩
              have g13 : 18446744073709551615 * 2 ^ ((7 * i) + 7) % 18446744073709551616 < 18446744073709551616 := Nat.mod_lt _ (by decide)
              refine ⟨u_or rfl g8 g13, ?_⟩
              have g14 : (v ||| (((l.getD i 0) &&& 127) * 2 ^ (7 * i) % 18446744073709551616)) ||| (18446744073709551615 * 2 ^ ((7 * i) + 7) % 18446744073709551616) < 18446744073709551616 := Nat.or_lt_two_pow (n := 64) g8 g13
              refine ⟨q_add (by omega), ?_⟩
              have hd := drop_cons (l := l) (k := i) (by omega)
              have hx := getD_lt hb.lt i
              refine fin _ _ _ ?_
              rw [hd, readG_s hx (by omega)]
              clear hR fin
              generalize l.getD i 0 = x at *
              first
                | (rw [if_pos (by constructor <;> first | omega | (exact .inl (by omega)) | (exact .inr (by first | assumption | (constructor <;> assumption))))]; done)
                | (rw [if_neg (by rintro ⟨e1, e2⟩; rcases e2 with e2 | e2 <;> first | omega | contradiction | (exact e2.1 (by assumption)) | (exact e2.2 (by assumption))), if_pos (by omega)]; done)
                | (rw [if_neg (by rintro ⟨e1, e2⟩; rcases e2 with e2 | e2 <;> first | omega | contradiction | (exact e2.1 (by assumption)) | (exact e2.2 (by assumption))), if_pos (by omega), if_pos (by constructor <;> assumption)]; done)
                | (rw [if_neg (by rintro ⟨e1, e2⟩; rcases e2 with e2 | e2 <;> first | omega | contradiction | (exact e2.1 (by assumption)) | (exact e2.2 (by assumption))), if_pos (by omega), if_neg (by rintro ⟨e1, e2⟩; first | omega | contradiction)]; done)
            · have rc12 := c12
              replace c12 : 64 ≤ (7 * i) + 7 := ltI_f c12
              refine ⟨q_add (by omega), ?_⟩
              have hd := drop_cons (l := l) (k := i) (by omega)
              have hx := getD_lt hb.lt i
              refine fin _ _ _ ?_
              rw [hd, readG_s hx (by omega)]
              clear hR fin
              generalize l.getD i 0 = x at *
              first
                | (rw [if_pos (by constructor <;> first | omega | (exact .inl (by omega)) | (exact .inr (by first | assumption | (constructor <;> assumption))))]; done)
                | (rw [if_neg (by rintro ⟨e1, e2⟩; rcases e2 with e2 | e2 <;> first | omega | contradiction | (exact e2.1 (by assumption)) | (exact e2.2 (by assumption))), if_pos (by omega)]; done)
                | (rw [if_neg (by rintro ⟨e1, e2⟩; rcases e2 with e2 | e2 <;> first | omega | contradiction | (exact e2.1 (by assumption)) | (exact e2.2 (by assumption))), if_pos (by omega), if_pos (by constructor <;> assumption)]; done)
                | (rw [if_neg (by rintro ⟨e1, e2⟩; rcases e2 with e2 | e2 <;> first | omega | contradiction | (exact e2.1 (by assumption)) | (exact e2.2 (by assumption))), if_pos (by omega), if_neg (by rintro ⟨e1, e2⟩; first | omega | contradiction)]; done)
          · have rc11 := c11
            replace c11 : (l.getD i 0) &&& 64 = 0 := eqI_t (notB_f c11)
            refine ⟨q_add (by omega), ?_⟩
            have hd := drop_cons (l := l) (k := i) (by omega)
            have hx := getD_lt hb.lt i
            refine fin _ _ _ ?_
            rw [hd, readG_s hx (by omega)]
            clear hR fin
            generalize l.getD i 0 = x at *
            first
              | (rw [if_pos (by constructor <;> first | omega | (exact .inl (by omega)) | (exact .inr (by first | assumption | (constructor <;> assumption))))]; done)
              | (rw [if_neg (by rintro ⟨e1, e2⟩; rcases e2 with e2 | e2 <;> first | omega | contradiction | (exact e2.1 (by assumption)) | (exact e2.2 (by assumption))), if_pos (by omega)]; done)
              | (rw [if_neg (by rintro ⟨e1, e2⟩; rcases e2 with e2 | e2 <;> first | omega | contradiction | (exact e2.1 (by assumption)) | (exact e2.2 (by assumption))), if_pos (by omega), if_pos (by constructor <;> assumption)]; done)
              | (rw [if_neg (by rintro ⟨e1, e2⟩; rcases e2 with e2 | e2 <;> first | omega | contradiction | (exact e2.1 (by assumption)) | (exact e2.2 (by assumption))), if_pos (by omega), if_neg (by rintro ⟨e1, e2⟩; first | omega | contradiction)]; done)
        · have rc9 := c9
          replace c9 : 128 ≤ l.getD i 0 := ltI_f c9
          refine ⟨q_add (by omega), ?_⟩
          have hd := drop_cons (l := l) (k := i) (by omega)
          have hx := getD_lt hb.lt i
          refine ⟨100 - (i + 1), by omega, rfl, i + 1, _, rfl, rfl, by omega, or64 hv (Nat.mod_lt _ (by decide)), ?_⟩
          rw [← hR, hd, readG_s hx (by omega), if_neg (by omega), if_neg (by omega)]
  · have rc1 := c1
    replace c1 : 5 ≤ i := ltI_f c1
    exact absurd c1 (by omega)
theorem num33s_loop {call : CallT} {N : Nat} {t : T} {h : Hp} {B : Nat} {vb : AV} {l : List Nat} (hb : Bytes B h vb l) (hk2 : l.length < 9223372036854775000) (hN : 100 < N)
    (h0 : slots [0, 1, 2, 6, 7, 8, 9, 10, 11] t = [some vb, some (AV.int .i64 (.ofNat 33)), some (AV.bool true), some (AV.int .u64 (.ofNat 0)), some (AV.int .i64 (.ofNat 0)), some (AV.int .i64 (.ofNat 0)), some (AV.int .u64 (.ofNat 0)), some (AV.int .i64 (.ofNat 5)), some (AV.int .i64 (.ofNat 0))]) :
    ∃ t', evC call N (.loop numC) t h = .ret t' h ∧ Has [(6, .int .u64 (.ofNat (readG 33 true l 0 0 0).1)), (7, .int .i64 (.ofNat (readG 33 true l 0 0 0).2.1)), (8, .int .i64 (.ofNat (readG 33 true l 0 0 0).2.2))] t' := by
  refine Exists.elim (loop_ok (call := call) (N := N) (body := numC) [0, 1, 2, 6, 7, 8, 9, 10, 11]
    (fun n ls h' => h' = h ∧ ∃ i v, ls = [some vb, some (AV.int .i64 (.ofNat 33)), some (AV.bool true), some (AV.int .u64 (.ofNat 0)), some (AV.int .i64 (.ofNat 0)), some (AV.int .i64 (.ofNat 0)), some (AV.int .u64 (.ofNat v)), some (AV.int .i64 (.ofNat 5)), some (AV.int .i64 (.ofNat i))] ∧ n = 100 - i ∧ i < 5 ∧ v < 18446744073709551616 ∧ readG 33 true (l.drop i) (7 * i) i v = readG 33 true l 0 0 0)
    (fun _ _ _ => False)
    (fun ls h' => h' = h ∧ ∃ w i', ls = [some vb, some (AV.int .i64 (.ofNat 33)), some (AV.bool true), some (AV.int .u64 (.ofNat (readG 33 true l 0 0 0).1)), some (AV.int .i64 (.ofNat (readG 33 true l 0 0 0).2.1)), some (AV.int .i64 (.ofNat (readG 33 true l 0 0 0).2.2)), some (AV.int .u64 (.ofNat w)), some (AV.int .i64 (.ofNat 5)), some (AV.int .i64 (.ofNat i'))]) ?_ 100 (by omega) t h ⟨rfl, 0, 0, h0, rfl, by decide, by decide, rfl⟩) ?_
  rotate_left
  · rintro s ⟨e, hs⟩
    cases s with
    | no => exact hs.elim
    | nor t' h' => exact hs.elim
    | exit i t' h' => exact hs.elim
    | ret t' h' =>
      obtain ⟨rfl, w, i', hh⟩ := hs
      refine ⟨t', e, ?_⟩
      have hh : [tget (pathOf 0) t', tget (pathOf 1) t', tget (pathOf 2) t', tget (pathOf 6) t', tget (pathOf 7) t', tget (pathOf 8) t', tget (pathOf 9) t', tget (pathOf 10) t', tget (pathOf 11) t'] = _ := hh
      simp only [List.cons.injEq] at hh
      obtain ⟨-, -, -, g6, g7, g8, -⟩ := hh
      show [tget (pathOf 6) t', tget (pathOf 7) t', tget (pathOf 8) t'] = _
      rw [g6, g7, g8]; rfl
  · rintro n t h' ⟨rfl, i, v, hsl, rfl, hi, hv, hR⟩
    rw [← ovT_eq (l := [(0, vb), (1, .int .i64 (.ofNat 33)), (2, .bool true), (6, .int .u64 (.ofNat 0)), (7, .int .i64 (.ofNat 0)), (8, .int .i64 (.ofNat 0)), (9, .int .u64 (.ofNat v)), (10, .int .i64 (.ofNat 5)), (11, .int .i64 (.ofNat i))]) hsl]
    exact num33s_body hb hk2 hv hi hR
theorem num64s_body {call : CallT} {N : Nat} {t : T} {h : Hp} {B : Nat} {vb : AV} {l : List Nat} (hb : Bytes B h vb l) (hk2 : l.length < 9223372036854775000) {v i : Nat} (hv : v < 18446744073709551616) (hi : i < 10) (hR : readG 64 true (l.drop i) (7 * i) i v = readG 64 true l 0 0 0)
    : ∃ s, evC call N numC (ovT [(0, vb), (1, (AV.int .i64 (Int.ofNat 64))), (2, (AV.bool true)), (6, (AV.int .u64 (Int.ofNat 0))), (7, (AV.int .i64 (Int.ofNat 0))), (8, (AV.int .i64 (Int.ofNat 0))), (9, (AV.int .u64 (Int.ofNat v))), (10, (AV.int .i64 (Int.ofNat 10))), (11, (AV.int .i64 (Int.ofNat i)))] t) h = s ∧ obsS [0, 1, 2, 6, 7, 8, 9, 10, 11] (fun ls h' => ∃ m, m < 100 - i ∧ h' = h ∧ ∃ i' v', ls = [some vb, some (AV.int .i64 (.ofNat 64)), some (AV.bool true), some (AV.int .u64 (.ofNat 0)), some (AV.int .i64 (.ofNat 0)), some (AV.int .i64 (.ofNat 0)), some (AV.int .u64 (.ofNat v')), some (AV.int .i64 (.ofNat 10)), some (AV.int .i64 (.ofNat i'))] ∧ m = 100 - i' ∧ i' < 10 ∧ v' < 18446744073709551616 ∧ readG 64 true (l.drop i') (7 * i') i' v' = readG 64 true l 0 0 0) (fun _ _ _ => False) (fun ls h' => h' = h ∧ ∃ w i', ls = [some vb, some (AV.int .i64 (.ofNat 64)), some (AV.bool true), some (AV.int .u64 (.ofNat (readG 64 true l 0 0 0).1)), some (AV.int .i64 (.ofNat (readG 64 true l 0 0 0).2.1)), some (AV.int .i64 (.ofNat (readG 64 true l 0 0 0).2.2)), some (AV.int .u64 (.ofNat w)), some (AV.int .i64 (.ofNat 10)), some (AV.int .i64 (.ofNat i'))]) s := by
  have fin : ∀ X Y Z : Nat, ∀ {w i' : Nat}, readG 64 true (l.drop i) (7 * i) i v = (X, Y, Z) → h = h ∧ ∃ w' i'', [some vb, some (AV.int .i64 (.ofNat 64)), some (AV.bool true), some (AV.int .u64 (.ofNat X)), some (AV.int .i64 (.ofNat Y)), some (AV.int .i64 (.ofNat Z)), some (AV.int .u64 (.ofNat w)), some (AV.int .i64 (.ofNat 10)), some (AV.int .i64 (.ofNat i'))] = [some vb, some (AV.int .i64 (.ofNat 64)), some (AV.bool true), some (AV.int .u64 (.ofNat (readG 64 true l 0 0 0).1)), some (AV.int .i64 (.ofNat (readG 64 true l 0 0 0).2.1)), some (AV.int .i64 (.ofNat (readG 64 true l 0 0 0).2.2)), some (AV.int .u64 (.ofNat w')), some (AV.int .i64 (.ofNat 10)), some (AV.int .i64 (.ofNat i''))] := by
    intro X Y Z w i' e
    rw [hR] at e
    rw [e]
    exact ⟨rfl, w, i', rfl⟩
  refine walk_ok (o := (.fork 2 (.tell 2 (AV.int .i64 (Int.ofNat l.length)) (.fork 0 .fin (.tell 2 (elemP vb i 1) (.tell 0 (AV.int .u8 (Int.ofNat (l.getD i 0))) (.tell 2 (AV.int .u8 (Int.ofNat ((l.getD i 0) &&& 127))) (.tell 0 (AV.int .u64 (Int.ofNat ((l.getD i 0) &&& 127))) (.fork 4 (.tell 2 (AV.int .i64 (Int.ofNat (7 * i))) (.tell 0 (AV.int .i64 (Int.ofNat (64 - (7 * i)))) (.tell 3 (AV.int .u64 (Int.ofNat (((l.getD i 0) &&& 127) / 2 ^ (64 - (7 * i))))) (.tell 4 (AV.int .i64 (Int.ofNat ((64 - (7 * i)) - 1))) (.tell 0 (AV.int .u64 (Int.ofNat (((l.getD i 0) &&& 127) / 2 ^ ((64 - (7 * i)) - 1)))) (.tell 2 (AV.int .u64 (Int.ofNat (127 / 2 ^ (64 - (7 * i))))) (.tell 3 (AV.int .i64 (Int.ofNat ((64 - (7 * i)) - 1))) (.tell 0 (AV.int .u64 (Int.ofNat (127 / 2 ^ ((64 - (7 * i)) - 1)))) (.fork 3 .fin (.fork 2 (.fork 8 .fin (.tell 3 (AV.int .i64 (Int.ofNat (7 * i))) (.tell 0 (AV.int .u64 (Int.ofNat (((l.getD i 0) &&& 127) * 2 ^ (7 * i) % 18446744073709551616))) (.tell 0 (AV.int .u64 (Int.ofNat (v ||| (((l.getD i 0) &&& 127) * 2 ^ (7 * i) % 18446744073709551616)))) (.tell 2 (AV.bool true) (.tell 3 (AV.int .u8 (Int.ofNat ((l.getD i 0) &&& 64))) (.fork 2 (.tell 1 (AV.int .i64 (Int.ofNat (7 * i))) (.tell 0 (AV.int .i64 (Int.ofNat ((7 * i) + 7))) (.fork 1 (.tell 2 (AV.int .i64 (Int.ofNat (7 * i))) (.tell 0 (AV.int .i64 (Int.ofNat ((7 * i) + 7))) (.tell 0 (AV.int .u64 (Int.ofNat (18446744073709551615 * 2 ^ ((7 * i) + 7) % 18446744073709551616))) (.tell 0 (AV.int .u64 (Int.ofNat ((v ||| (((l.getD i 0) &&& 127) * 2 ^ (7 * i) % 18446744073709551616)) ||| (18446744073709551615 * 2 ^ ((7 * i) + 7) % 18446744073709551616)))) (.tell 3 (AV.int .i64 (Int.ofNat (i + 1))) .fin))))) (.tell 2 (AV.int .i64 (Int.ofNat (i + 1))) .fin)))) (.tell 3 (AV.int .i64 (Int.ofNat (i + 1))) .fin)))))))) (.tell 5 (AV.int .i64 (Int.ofNat (7 * i))) (.tell 0 (AV.int .u64 (Int.ofNat (((l.getD i 0) &&& 127) * 2 ^ (7 * i) % 18446744073709551616))) (.tell 0 (AV.int .u64 (Int.ofNat (v ||| (((l.getD i 0) &&& 127) * 2 ^ (7 * i) % 18446744073709551616)))) (.tell 2 (AV.bool true) (.tell 3 (AV.int .u8 (Int.ofNat ((l.getD i 0) &&& 64))) (.fork 2 (.tell 1 (AV.int .i64 (Int.ofNat (7 * i))) (.tell 0 (AV.int .i64 (Int.ofNat ((7 * i) + 7))) (.fork 1 (.tell 2 (AV.int .i64 (Int.ofNat (7 * i))) (.tell 0 (AV.int .i64 (Int.ofNat ((7 * i) + 7))) (.tell 0 (AV.int .u64 (Int.ofNat (18446744073709551615 * 2 ^ ((7 * i) + 7) % 18446744073709551616))) (.tell 0 (AV.int .u64 (Int.ofNat ((v ||| (((l.getD i 0) &&& 127) * 2 ^ (7 * i) % 18446744073709551616)) ||| (18446744073709551615 * 2 ^ ((7 * i) + 7) % 18446744073709551616)))) (.tell 3 (AV.int .i64 (Int.ofNat (i + 1))) .fin))))) (.tell 2 (AV.int .i64 (Int.ofNat (i + 1))) .fin)))) (.tell 3 (AV.int .i64 (Int.ofNat (i + 1))) .fin))))))))))))))))) (.tell 3 (AV.int .i64 (Int.ofNat (7 * i))) (.tell 0 (AV.int .u64 (Int.ofNat (((l.getD i 0) &&& 127) * 2 ^ (7 * i) % 18446744073709551616))) (.tell 0 (AV.int .u64 (Int.ofNat (v ||| (((l.getD i 0) &&& 127) * 2 ^ (7 * i) % 18446744073709551616)))) (.fork 2 (.tell 3 (AV.int .u8 (Int.ofNat ((l.getD i 0) &&& 64))) (.fork 2 (.tell 1 (AV.int .i64 (Int.ofNat (7 * i))) (.tell 0 (AV.int .i64 (Int.ofNat ((7 * i) + 7))) (.fork 1 (.tell 2 (AV.int .i64 (Int.ofNat (7 * i))) (.tell 0 (AV.int .i64 (Int.ofNat ((7 * i) + 7))) (.tell 0 (AV.int .u64 (Int.ofNat (18446744073709551615 * 2 ^ ((7 * i) + 7) % 18446744073709551616))) (.tell 0 (AV.int .u64 (Int.ofNat ((v ||| (((l.getD i 0) &&& 127) * 2 ^ (7 * i) % 18446744073709551616)) ||| (18446744073709551615 * 2 ^ ((7 * i) + 7) % 18446744073709551616)))) (.tell 3 (AV.int .i64 (Int.ofNat (i + 1))) .fin))))) (.tell 2 (AV.int .i64 (Int.ofNat (i + 1))) .fin)))) (.tell 3 (AV.int .i64 (Int.ofNat (i + 1))) .fin))) (.tell 1 (AV.int .i64 (Int.ofNat (i + 1))) .fin)))))))))))) .fin)) (p := ((ltI (Int.ofNat i) (Int.ofNat 10) = true → (evQ (.lenL (.const vb)) .lf H0 = .ok (AV.int .i64 (Int.ofNat l.length)) ∧ ((notB (ltI (Int.ofNat i) (Int.ofNat l.length)) = true → ((fun ls h' => h' = h ∧ ∃ w i', ls = [some vb, some (AV.int .i64 (.ofNat 64)), some (AV.bool true), some (AV.int .u64 (.ofNat (readG 64 true l 0 0 0).1)), some (AV.int .i64 (.ofNat (readG 64 true l 0 0 0).2.1)), some (AV.int .i64 (.ofNat (readG 64 true l 0 0 0).2.2)), some (AV.int .u64 (.ofNat w)), some (AV.int .i64 (.ofNat 10)), some (AV.int .i64 (.ofNat i'))]) : List (Option AV) → Hp → Prop) [some vb, some (AV.int .i64 (Int.ofNat 64)), some (AV.bool true), some (AV.int .u64 (Int.ofNat 0)), some (AV.int .i64 (Int.ofNat 0)), some (AV.int .i64 (Int.ofNat 3)), some (AV.int .u64 (Int.ofNat v)), some (AV.int .i64 (Int.ofNat 10)), some (AV.int .i64 (Int.ofNat i))] h) ∧ (notB (ltI (Int.ofNat i) (Int.ofNat l.length)) = false → (evQ (.idxAddrSl 1 (.const vb) (.const (AV.int .i64 (Int.ofNat i)))) .lf H0 = .ok (elemP vb i 1) ∧ (evQ (.loadS (.const (elemP vb i 1))) .lf h = .ok (AV.int .u8 (Int.ofNat (l.getD i 0))) ∧ (evQ (.bin .and (.const (AV.int .u8 (Int.ofNat (l.getD i 0)))) (.const (AV.int .u8 (Int.ofNat 127)))) .lf H0 = .ok (AV.int .u8 (Int.ofNat ((l.getD i 0) &&& 127))) ∧ (evQ (.toInt .u64 (.const (AV.int .u8 (Int.ofNat ((l.getD i 0) &&& 127))))) .lf H0 = .ok (AV.int .u64 (Int.ofNat ((l.getD i 0) &&& 127))) ∧ ((eqI (Int.ofNat i) (Int.ofNat 9) = true → (evQ (.bin .mul (.const (AV.int .i64 (Int.ofNat 7))) (.const (AV.int .i64 (Int.ofNat i)))) .lf H0 = .ok (AV.int .i64 (Int.ofNat (7 * i))) ∧ (evQ (.bin .sub (.const (AV.int .i64 (Int.ofNat 64))) (.const (AV.int .i64 (Int.ofNat (7 * i))))) .lf H0 = .ok (AV.int .i64 (Int.ofNat (64 - (7 * i)))) ∧ (evQ (.bin .shr (.const (AV.int .u64 (Int.ofNat ((l.getD i 0) &&& 127)))) (.const (AV.int .i64 (Int.ofNat (64 - (7 * i)))))) .lf H0 = .ok (AV.int .u64 (Int.ofNat (((l.getD i 0) &&& 127) / 2 ^ (64 - (7 * i))))) ∧ (evQ (.bin .sub (.const (AV.int .i64 (Int.ofNat (64 - (7 * i))))) (.const (AV.int .i64 (Int.ofNat 1)))) .lf H0 = .ok (AV.int .i64 (Int.ofNat ((64 - (7 * i)) - 1))) ∧ (evQ (.bin .shr (.const (AV.int .u64 (Int.ofNat ((l.getD i 0) &&& 127)))) (.const (AV.int .i64 (Int.ofNat ((64 - (7 * i)) - 1))))) .lf H0 = .ok (AV.int .u64 (Int.ofNat (((l.getD i 0) &&& 127) / 2 ^ ((64 - (7 * i)) - 1)))) ∧ (evQ (.bin .shr (.const (AV.int .u64 (Int.ofNat 127))) (.const (AV.int .i64 (Int.ofNat (64 - (7 * i)))))) .lf H0 = .ok (AV.int .u64 (Int.ofNat (127 / 2 ^ (64 - (7 * i))))) ∧ (evQ (.bin .sub (.const (AV.int .i64 (Int.ofNat (64 - (7 * i))))) (.const (AV.int .i64 (Int.ofNat 1)))) .lf H0 = .ok (AV.int .i64 (Int.ofNat ((64 - (7 * i)) - 1))) ∧ (evQ (.bin .shr (.const (AV.int .u64 (Int.ofNat 127))) (.const (AV.int .i64 (Int.ofNat ((64 - (7 * i)) - 1))))) .lf H0 = .ok (AV.int .u64 (Int.ofNat (127 / 2 ^ ((64 - (7 * i)) - 1)))) ∧ ((notB (ltI (Int.ofNat (l.getD i 0)) (Int.ofNat 128)) = true → ((fun ls h' => h' = h ∧ ∃ w i', ls = [some vb, some (AV.int .i64 (.ofNat 64)), some (AV.bool true), some (AV.int .u64 (.ofNat (readG 64 true l 0 0 0).1)), some (AV.int .i64 (.ofNat (readG 64 true l 0 0 0).2.1)), some (AV.int .i64 (.ofNat (readG 64 true l 0 0 0).2.2)), some (AV.int .u64 (.ofNat w)), some (AV.int .i64 (.ofNat 10)), some (AV.int .i64 (.ofNat i'))]) : List (Option AV) → Hp → Prop) [some vb, some (AV.int .i64 (Int.ofNat 64)), some (AV.bool true), some (AV.int .u64 (Int.ofNat 0)), some (AV.int .i64 (Int.ofNat 0)), some (AV.int .i64 (Int.ofNat 2)), some (AV.int .u64 (Int.ofNat v)), some (AV.int .i64 (Int.ofNat 10)), some (AV.int .i64 (Int.ofNat i))] h) ∧ (notB (ltI (Int.ofNat (l.getD i 0)) (Int.ofNat 128)) = false → ((notB (eqI (Int.ofNat (((l.getD i 0) &&& 127) / 2 ^ ((64 - (7 * i)) - 1))) (Int.ofNat 0)) = true → ((notB (eqI (Int.ofNat (((l.getD i 0) &&& 127) / 2 ^ ((64 - (7 * i)) - 1))) (Int.ofNat (127 / 2 ^ ((64 - (7 * i)) - 1)))) = true → ((fun ls h' => h' = h ∧ ∃ w i', ls = [some vb, some (AV.int .i64 (.ofNat 64)), some (AV.bool true), some (AV.int .u64 (.ofNat (readG 64 true l 0 0 0).1)), some (AV.int .i64 (.ofNat (readG 64 true l 0 0 0).2.1)), some (AV.int .i64 (.ofNat (readG 64 true l 0 0 0).2.2)), some (AV.int .u64 (.ofNat w)), some (AV.int .i64 (.ofNat 10)), some (AV.int .i64 (.ofNat i'))]) : List (Option AV) → Hp → Prop) [some vb, some (AV.int .i64 (Int.ofNat 64)), some (AV.bool true), some (AV.int .u64 (Int.ofNat 0)), some (AV.int .i64 (Int.ofNat 0)), some (AV.int .i64 (Int.ofNat 2)), some (AV.int .u64 (Int.ofNat v)), some (AV.int .i64 (Int.ofNat 10)), some (AV.int .i64 (Int.ofNat i))] h) ∧ (notB (eqI (Int.ofNat (((l.getD i 0) &&& 127) / 2 ^ ((64 - (7 * i)) - 1))) (Int.ofNat (127 / 2 ^ ((64 - (7 * i)) - 1)))) = false → (evQ (.bin .mul (.const (AV.int .i64 (Int.ofNat 7))) (.const (AV.int .i64 (Int.ofNat i)))) .lf H0 = .ok (AV.int .i64 (Int.ofNat (7 * i))) ∧ (evQ (.bin .shl (.const (AV.int .u64 (Int.ofNat ((l.getD i 0) &&& 127)))) (.const (AV.int .i64 (Int.ofNat (7 * i))))) .lf H0 = .ok (AV.int .u64 (Int.ofNat (((l.getD i 0) &&& 127) * 2 ^ (7 * i) % 18446744073709551616))) ∧ (evQ (.bin .or (.const (AV.int .u64 (Int.ofNat v))) (.const (AV.int .u64 (Int.ofNat (((l.getD i 0) &&& 127) * 2 ^ (7 * i) % 18446744073709551616))))) .lf H0 = .ok (AV.int .u64 (Int.ofNat (v ||| (((l.getD i 0) &&& 127) * 2 ^ (7 * i) % 18446744073709551616)))) ∧ (evQ (.bin .lss (.const (AV.int .u8 (Int.ofNat (l.getD i 0)))) (.const (AV.int .u8 (Int.ofNat 128)))) .lf H0 = .ok (AV.bool true) ∧ (evQ (.bin .and (.const (AV.int .u8 (Int.ofNat (l.getD i 0)))) (.const (AV.int .u8 (Int.ofNat 64)))) .lf H0 = .ok (AV.int .u8 (Int.ofNat ((l.getD i 0) &&& 64))) ∧ ((notB (eqI (Int.ofNat ((l.getD i 0) &&& 64)) (Int.ofNat 0)) = true → (evQ (.bin .mul (.const (AV.int .i64 (Int.ofNat 7))) (.const (AV.int .i64 (Int.ofNat i)))) .lf H0 = .ok (AV.int .i64 (Int.ofNat (7 * i))) ∧ (evQ (.bin .add (.const (AV.int .i64 (Int.ofNat (7 * i)))) (.const (AV.int .i64 (Int.ofNat 7)))) .lf H0 = .ok (AV.int .i64 (Int.ofNat ((7 * i) + 7))) ∧ ((ltI (Int.ofNat ((7 * i) + 7)) (Int.ofNat 64) = true → (evQ (.bin .mul (.const (AV.int .i64 (Int.ofNat 7))) (.const (AV.int .i64 (Int.ofNat i)))) .lf H0 = .ok (AV.int .i64 (Int.ofNat (7 * i))) ∧ (evQ (.bin .add (.const (AV.int .i64 (Int.ofNat (7 * i)))) (.const (AV.int .i64 (Int.ofNat 7)))) .lf H0 = .ok (AV.int .i64 (Int.ofNat ((7 * i) + 7))) ∧ (evQ (.bin .shl (.const (AV.int .u64 (Int.ofNat 18446744073709551615))) (.const (AV.int .i64 (Int.ofNat ((7 * i) + 7))))) .lf H0 = .ok (AV.int .u64 (Int.ofNat (18446744073709551615 * 2 ^ ((7 * i) + 7) % 18446744073709551616))) ∧ (evQ (.bin .or (.const (AV.int .u64 (Int.ofNat (v ||| (((l.getD i 0) &&& 127) * 2 ^ (7 * i) % 18446744073709551616))))) (.const (AV.int .u64 (Int.ofNat (18446744073709551615 * 2 ^ ((7 * i) + 7) % 18446744073709551616))))) .lf H0 = .ok (AV.int .u64 (Int.ofNat ((v ||| (((l.getD i 0) &&& 127) * 2 ^ (7 * i) % 18446744073709551616)) ||| (18446744073709551615 * 2 ^ ((7 * i) + 7) % 18446744073709551616)))) ∧ (evQ (.bin .add (.const (AV.int .i64 (Int.ofNat i))) (.const (AV.int .i64 (Int.ofNat 1)))) .lf H0 = .ok (AV.int .i64 (Int.ofNat (i + 1))) ∧ ((fun ls h' => h' = h ∧ ∃ w i', ls = [some vb, some (AV.int .i64 (.ofNat 64)), some (AV.bool true), some (AV.int .u64 (.ofNat (readG 64 true l 0 0 0).1)), some (AV.int .i64 (.ofNat (readG 64 true l 0 0 0).2.1)), some (AV.int .i64 (.ofNat (readG 64 true l 0 0 0).2.2)), some (AV.int .u64 (.ofNat w)), some (AV.int .i64 (.ofNat 10)), some (AV.int .i64 (.ofNat i'))]) : List (Option AV) → Hp → Prop) [some vb, some (AV.int .i64 (Int.ofNat 64)), some (AV.bool true), some (AV.int .u64 (Int.ofNat ((v ||| (((l.getD i 0) &&& 127) * 2 ^ (7 * i) % 18446744073709551616)) ||| (18446744073709551615 * 2 ^ ((7 * i) + 7) % 18446744073709551616)))), some (AV.int .i64 (Int.ofNat (i + 1))), some (AV.int .i64 (Int.ofNat 0)), some (AV.int .u64 (Int.ofNat ((v ||| (((l.getD i 0) &&& 127) * 2 ^ (7 * i) % 18446744073709551616)) ||| (18446744073709551615 * 2 ^ ((7 * i) + 7) % 18446744073709551616)))), some (AV.int .i64 (Int.ofNat 10)), some (AV.int .i64 (Int.ofNat i))] h)))))) ∧ (ltI (Int.ofNat ((7 * i) + 7)) (Int.ofNat 64) = false → (evQ (.bin .add (.const (AV.int .i64 (Int.ofNat i))) (.const (AV.int .i64 (Int.ofNat 1)))) .lf H0 = .ok (AV.int .i64 (Int.ofNat (i + 1))) ∧ ((fun ls h' => h' = h ∧ ∃ w i', ls = [some vb, some (AV.int .i64 (.ofNat 64)), some (AV.bool true), some (AV.int .u64 (.ofNat (readG 64 true l 0 0 0).1)), some (AV.int .i64 (.ofNat (readG 64 true l 0 0 0).2.1)), some (AV.int .i64 (.ofNat (readG 64 true l 0 0 0).2.2)), some (AV.int .u64 (.ofNat w)), some (AV.int .i64 (.ofNat 10)), some (AV.int .i64 (.ofNat i'))]) : List (Option AV) → Hp → Prop) [some vb, some (AV.int .i64 (Int.ofNat 64)), some (AV.bool true), some (AV.int .u64 (Int.ofNat (v ||| (((l.getD i 0) &&& 127) * 2 ^ (7 * i) % 18446744073709551616)))), some (AV.int .i64 (Int.ofNat (i + 1))), some (AV.int .i64 (Int.ofNat 0)), some (AV.int .u64 (Int.ofNat (v ||| (((l.getD i 0) &&& 127) * 2 ^ (7 * i) % 18446744073709551616)))), some (AV.int .i64 (Int.ofNat 10)), some (AV.int .i64 (Int.ofNat i))] h)))))) ∧ (notB (eqI (Int.ofNat ((l.getD i 0) &&& 64)) (Int.ofNat 0)) = false → (evQ (.bin .add (.const (AV.int .i64 (Int.ofNat i))) (.const (AV.int .i64 (Int.ofNat 1)))) .lf H0 = .ok (AV.int .i64 (Int.ofNat (i + 1))) ∧ ((fun ls h' => h' = h ∧ ∃ w i', ls = [some vb, some (AV.int .i64 (.ofNat 64)), some (AV.bool true), some (AV.int .u64 (.ofNat (readG 64 true l 0 0 0).1)), some (AV.int .i64 (.ofNat (readG 64 true l 0 0 0).2.1)), some (AV.int .i64 (.ofNat (readG 64 true l 0 0 0).2.2)), some (AV.int .u64 (.ofNat w)), some (AV.int .i64 (.ofNat 10)), some (AV.int .i64 (.ofNat i'))]) : List (Option AV) → Hp → Prop) [some vb, some (AV.int .i64 (Int.ofNat 64)), some (AV.bool true), some (AV.int .u64 (Int.ofNat (v ||| (((l.getD i 0) &&& 127) * 2 ^ (7 * i) % 18446744073709551616)))), some (AV.int .i64 (Int.ofNat (i + 1))), some (AV.int .i64 (Int.ofNat 0)), some (AV.int .u64 (Int.ofNat (v ||| (((l.getD i 0) &&& 127) * 2 ^ (7 * i) % 18446744073709551616)))), some (AV.int .i64 (Int.ofNat 10)), some (AV.int .i64 (Int.ofNat i))] h))))))))))) ∧ (notB (eqI (Int.ofNat (((l.getD i 0) &&& 127) / 2 ^ ((64 - (7 * i)) - 1))) (Int.ofNat 0)) = false → (evQ (.bin .mul (.const (AV.int .i64 (Int.ofNat 7))) (.const (AV.int .i64 (Int.ofNat i)))) .lf H0 = .ok (AV.int .i64 (Int.ofNat (7 * i))) ∧ (evQ (.bin .shl (.const (AV.int .u64 (Int.ofNat ((l.getD i 0) &&& 127)))) (.const (AV.int .i64 (Int.ofNat (7 * i))))) .lf H0 = .ok (AV.int .u64 (Int.ofNat (((l.getD i 0) &&& 127) * 2 ^ (7 * i) % 18446744073709551616))) ∧ (evQ (.bin .or (.const (AV.int .u64 (Int.ofNat v))) (.const (AV.int .u64 (Int.ofNat (((l.getD i 0) &&& 127) * 2 ^ (7 * i) % 18446744073709551616))))) .lf H0 = .ok (AV.int .u64 (Int.ofNat (v ||| (((l.getD i 0) &&& 127) * 2 ^ (7 * i) % 18446744073709551616)))) ∧ (evQ (.bin .lss (.const (AV.int .u8 (Int.ofNat (l.getD i 0)))) (.const (AV.int .u8 (Int.ofNat 128)))) .lf H0 = .ok (AV.bool true) ∧ (evQ (.bin .and (.const (AV.int .u8 (Int.ofNat (l.getD i 0)))) (.const (AV.int .u8 (Int.ofNat 64)))) .lf H0 = .ok (AV.int .u8 (Int.ofNat ((l.getD i 0) &&& 64))) ∧ ((notB (eqI (Int.ofNat ((l.getD i 0) &&& 64)) (Int.ofNat 0)) = true → (evQ (.bin .mul (.const (AV.int .i64 (Int.ofNat 7))) (.const (AV.int .i64 (Int.ofNat i)))) .lf H0 = .ok (AV.int .i64 (Int.ofNat (7 * i))) ∧ (evQ (.bin .add (.const (AV.int .i64 (Int.ofNat (7 * i)))) (.const (AV.int .i64 (Int.ofNat 7)))) .lf H0 = .ok (AV.int .i64 (Int.ofNat ((7 * i) + 7))) ∧ ((ltI (Int.ofNat ((7 * i) + 7)) (Int.ofNat 64) = true → (evQ (.bin .mul (.const (AV.int .i64 (Int.ofNat 7))) (.const (AV.int .i64 (Int.ofNat i)))) .lf H0 = .ok (AV.int .i64 (Int.ofNat (7 * i))) ∧ (evQ (.bin .add (.const (AV.int .i64 (Int.ofNat (7 * i)))) (.const (AV.int .i64 (Int.ofNat 7)))) .lf H0 = .ok (AV.int .i64 (Int.ofNat ((7 * i) + 7))) ∧ (evQ (.bin .shl (.const (AV.int .u64 (Int.ofNat 18446744073709551615))) (.const (AV.int .i64 (Int.ofNat ((7 * i) + 7))))) .lf H0 = .ok (AV.int .u64 (Int.ofNat (18446744073709551615 * 2 ^ ((7 * i) + 7) % 18446744073709551616))) ∧ (evQ (.bin .or (.const (AV.int .u64 (Int.ofNat (v ||| (((l.getD i 0) &&& 127) * 2 ^ (7 * i) % 18446744073709551616))))) (.const (AV.int .u64 (Int.ofNat (18446744073709551615 * 2 ^ ((7 * i) + 7) % 18446744073709551616))))) .lf H0 = .ok (AV.int .u64 (Int.ofNat ((v ||| (((l.getD i 0) &&& 127) * 2 ^ (7 * i) % 18446744073709551616)) ||| (18446744073709551615 * 2 ^ ((7 * i) + 7) % 18446744073709551616)))) ∧ (evQ (.bin .add (.const (AV.int .i64 (Int.ofNat i))) (.const (AV.int .i64 (Int.ofNat 1)))) .lf H0 = .ok (AV.int .i64 (Int.ofNat (i + 1))) ∧ ((fun ls h' => h' = h ∧ ∃ w i', ls = [some vb, some (AV.int .i64 (.ofNat 64)), some (AV.bool true), some (AV.int .u64 (.ofNat (readG 64 true l 0 0 0).1)), some (AV.int .i64 (.ofNat (readG 64 true l 0 0 0).2.1)), some (AV.int .i64 (.ofNat (readG 64 true l 0 0 0).2.2)), some (AV.int .u64 (.ofNat w)), some (AV.int .i64 (.ofNat 10)), some (AV.int .i64 (.ofNat i'))]) : List (Option AV) → Hp → Prop) [some vb, some (AV.int .i64 (Int.ofNat 64)), some (AV.bool true), some (AV.int .u64 (Int.ofNat ((v ||| (((l.getD i 0) &&& 127) * 2 ^ (7 * i) % 18446744073709551616)) ||| (18446744073709551615 * 2 ^ ((7 * i) + 7) % 18446744073709551616)))), some (AV.int .i64 (Int.ofNat (i + 1))), some (AV.int .i64 (Int.ofNat 0)), some (AV.int .u64 (Int.ofNat ((v ||| (((l.getD i 0) &&& 127) * 2 ^ (7 * i) % 18446744073709551616)) ||| (18446744073709551615 * 2 ^ ((7 * i) + 7) % 18446744073709551616)))), some (AV.int .i64 (Int.ofNat 10)), some (AV.int .i64 (Int.ofNat i))] h)))))) ∧ (ltI (Int.ofNat ((7 * i) + 7)) (Int.ofNat 64) = false → (evQ (.bin .add (.const (AV.int .i64 (Int.ofNat i))) (.const (AV.int .i64 (Int.ofNat 1)))) .lf H0 = .ok (AV.int .i64 (Int.ofNat (i + 1))) ∧ ((fun ls h' => h' = h ∧ ∃ w i', ls = [some vb, some (AV.int .i64 (.ofNat 64)), some (AV.bool true), some (AV.int .u64 (.ofNat (readG 64 true l 0 0 0).1)), some (AV.int .i64 (.ofNat (readG 64 true l 0 0 0).2.1)), some (AV.int .i64 (.ofNat (readG 64 true l 0 0 0).2.2)), some (AV.int .u64 (.ofNat w)), some (AV.int .i64 (.ofNat 10)), some (AV.int .i64 (.ofNat i'))]) : List (Option AV) → Hp → Prop) [some vb, some (AV.int .i64 (Int.ofNat 64)), some (AV.bool true), some (AV.int .u64 (Int.ofNat (v ||| (((l.getD i 0) &&& 127) * 2 ^ (7 * i) % 18446744073709551616)))), some (AV.int .i64 (Int.ofNat (i + 1))), some (AV.int .i64 (Int.ofNat 0)), some (AV.int .u64 (Int.ofNat (v ||| (((l.getD i 0) &&& 127) * 2 ^ (7 * i) % 18446744073709551616)))), some (AV.int .i64 (Int.ofNat 10)), some (AV.int .i64 (Int.ofNat i))] h)))))) ∧ (notB (eqI (Int.ofNat ((l.getD i 0) &&& 64)) (Int.ofNat 0)) = false → (evQ (.bin .add (.const (AV.int .i64 (Int.ofNat i))) (.const (AV.int .i64 (Int.ofNat 1)))) .lf H0 = .ok (AV.int .i64 (Int.ofNat (i + 1))) ∧ ((fun ls h' => h' = h ∧ ∃ w i', ls = [some vb, some (AV.int .i64 (.ofNat 64)), some (AV.bool true), some (AV.int .u64 (.ofNat (readG 64 true l 0 0 0).1)), some (AV.int .i64 (.ofNat (readG 64 true l 0 0 0).2.1)), some (AV.int .i64 (.ofNat (readG 64 true l 0 0 0).2.2)), some (AV.int .u64 (.ofNat w)), some (AV.int .i64 (.ofNat 10)), some (AV.int .i64 (.ofNat i'))]) : List (Option AV) → Hp → Prop) [some vb, some (AV.int .i64 (Int.ofNat 64)), some (AV.bool true), some (AV.int .u64 (Int.ofNat (v ||| (((l.getD i 0) &&& 127) * 2 ^ (7 * i) % 18446744073709551616)))), some (AV.int .i64 (Int.ofNat (i + 1))), some (AV.int .i64 (Int.ofNat 0)), some (AV.int .u64 (Int.ofNat (v ||| (((l.getD i 0) &&& 127) * 2 ^ (7 * i) % 18446744073709551616)))), some (AV.int .i64 (Int.ofNat 10)), some (AV.int .i64 (Int.ofNat i))] h))))))))))))))))))))) ∧ (eqI (Int.ofNat i) (Int.ofNat 9) = false → (evQ (.bin .mul (.const (AV.int .i64 (Int.ofNat 7))) (.const (AV.int .i64 (Int.ofNat i)))) .lf H0 = .ok (AV.int .i64 (Int.ofNat (7 * i))) ∧ (evQ (.bin .shl (.const (AV.int .u64 (Int.ofNat ((l.getD i 0) &&& 127)))) (.const (AV.int .i64 (Int.ofNat (7 * i))))) .lf H0 = .ok (AV.int .u64 (Int.ofNat (((l.getD i 0) &&& 127) * 2 ^ (7 * i) % 18446744073709551616))) ∧ (evQ (.bin .or (.const (AV.int .u64 (Int.ofNat v))) (.const (AV.int .u64 (Int.ofNat (((l.getD i 0) &&& 127) * 2 ^ (7 * i) % 18446744073709551616))))) .lf H0 = .ok (AV.int .u64 (Int.ofNat (v ||| (((l.getD i 0) &&& 127) * 2 ^ (7 * i) % 18446744073709551616)))) ∧ ((ltI (Int.ofNat (l.getD i 0)) (Int.ofNat 128) = true → (evQ (.bin .and (.const (AV.int .u8 (Int.ofNat (l.getD i 0)))) (.const (AV.int .u8 (Int.ofNat 64)))) .lf H0 = .ok (AV.int .u8 (Int.ofNat ((l.getD i 0) &&& 64))) ∧ ((notB (eqI (Int.ofNat ((l.getD i 0) &&& 64)) (Int.ofNat 0)) = true → (evQ (.bin .mul (.const (AV.int .i64 (Int.ofNat 7))) (.const (AV.int .i64 (Int.ofNat i)))) .lf H0 = .ok (AV.int .i64 (Int.ofNat (7 * i))) ∧ (evQ (.bin .add (.const (AV.int .i64 (Int.ofNat (7 * i)))) (.const (AV.int .i64 (Int.ofNat 7)))) .lf H0 = .ok (AV.int .i64 (Int.ofNat ((7 * i) + 7))) ∧ ((ltI (Int.ofNat ((7 * i) + 7)) (Int.ofNat 64) = true → (evQ (.bin .mul (.const (AV.int .i64 (Int.ofNat 7))) (.const (AV.int .i64 (Int.ofNat i)))) .lf H0 = .ok (AV.int .i64 (Int.ofNat (7 * i))) ∧ (evQ (.bin .add (.const (AV.int .i64 (Int.ofNat (7 * i)))) (.const (AV.int .i64 (Int.ofNat 7)))) .lf H0 = .ok (AV.int .i64 (Int.ofNat ((7 * i) + 7))) ∧ (evQ (.bin .shl (.const (AV.int .u64 (Int.ofNat 18446744073709551615))) (.const (AV.int .i64 (Int.ofNat ((7 * i) + 7))))) .lf H0 = .ok (AV.int .u64 (Int.ofNat (18446744073709551615 * 2 ^ ((7 * i) + 7) % 18446744073709551616))) ∧ (evQ (.bin .or (.const (AV.int .u64 (Int.ofNat (v ||| (((l.getD i 0) &&& 127) * 2 ^ (7 * i) % 18446744073709551616))))) (.const (AV.int .u64 (Int.ofNat (18446744073709551615 * 2 ^ ((7 * i) + 7) % 18446744073709551616))))) .lf H0 = .ok (AV.int .u64 (Int.ofNat ((v ||| (((l.getD i 0) &&& 127) * 2 ^ (7 * i) % 18446744073709551616)) ||| (18446744073709551615 * 2 ^ ((7 * i) + 7) % 18446744073709551616)))) ∧ (evQ (.bin .add (.const (AV.int .i64 (Int.ofNat i))) (.const (AV.int .i64 (Int.ofNat 1)))) .lf H0 = .ok (AV.int .i64 (Int.ofNat (i + 1))) ∧ ((fun ls h' => h' = h ∧ ∃ w i', ls = [some vb, some (AV.int .i64 (.ofNat 64)), some (AV.bool true), some (AV.int .u64 (.ofNat (readG 64 true l 0 0 0).1)), some (AV.int .i64 (.ofNat (readG 64 true l 0 0 0).2.1)), some (AV.int .i64 (.ofNat (readG 64 true l 0 0 0).2.2)), some (AV.int .u64 (.ofNat w)), some (AV.int .i64 (.ofNat 10)), some (AV.int .i64 (.ofNat i'))]) : List (Option AV) → Hp → Prop) [some vb, some (AV.int .i64 (Int.ofNat 64)), some (AV.bool true), some (AV.int .u64 (Int.ofNat ((v ||| (((l.getD i 0) &&& 127) * 2 ^ (7 * i) % 18446744073709551616)) ||| (18446744073709551615 * 2 ^ ((7 * i) + 7) % 18446744073709551616)))), some (AV.int .i64 (Int.ofNat (i + 1))), some (AV.int .i64 (Int.ofNat 0)), some (AV.int .u64 (Int.ofNat ((v ||| (((l.getD i 0) &&& 127) * 2 ^ (7 * i) % 18446744073709551616)) ||| (18446744073709551615 * 2 ^ ((7 * i) + 7) % 18446744073709551616)))), some (AV.int .i64 (Int.ofNat 10)), some (AV.int .i64 (Int.ofNat i))] h)))))) ∧ (ltI (Int.ofNat ((7 * i) + 7)) (Int.ofNat 64) = false → (evQ (.bin .add (.const (AV.int .i64 (Int.ofNat i))) (.const (AV.int .i64 (Int.ofNat 1)))) .lf H0 = .ok (AV.int .i64 (Int.ofNat (i + 1))) ∧ ((fun ls h' => h' = h ∧ ∃ w i', ls = [some vb, some (AV.int .i64 (.ofNat 64)), some (AV.bool true), some (AV.int .u64 (.ofNat (readG 64 true l 0 0 0).1)), some (AV.int .i64 (.ofNat (readG 64 true l 0 0 0).2.1)), some (AV.int .i64 (.ofNat (readG 64 true l 0 0 0).2.2)), some (AV.int .u64 (.ofNat w)), some (AV.int .i64 (.ofNat 10)), some (AV.int .i64 (.ofNat i'))]) : List (Option AV) → Hp → Prop) [some vb, some (AV.int .i64 (Int.ofNat 64)), some (AV.bool true), some (AV.int .u64 (Int.ofNat (v ||| (((l.getD i 0) &&& 127) * 2 ^ (7 * i) % 18446744073709551616)))), some (AV.int .i64 (Int.ofNat (i + 1))), some (AV.int .i64 (Int.ofNat 0)), some (AV.int .u64 (Int.ofNat (v ||| (((l.getD i 0) &&& 127) * 2 ^ (7 * i) % 18446744073709551616)))), some (AV.int .i64 (Int.ofNat 10)), some (AV.int .i64 (Int.ofNat i))] h)))))) ∧ (notB (eqI (Int.ofNat ((l.getD i 0) &&& 64)) (Int.ofNat 0)) = false → (evQ (.bin .add (.const (AV.int .i64 (Int.ofNat i))) (.const (AV.int .i64 (Int.ofNat 1)))) .lf H0 = .ok (AV.int .i64 (Int.ofNat (i + 1))) ∧ ((fun ls h' => h' = h ∧ ∃ w i', ls = [some vb, some (AV.int .i64 (.ofNat 64)), some (AV.bool true), some (AV.int .u64 (.ofNat (readG 64 true l 0 0 0).1)), some (AV.int .i64 (.ofNat (readG 64 true l 0 0 0).2.1)), some (AV.int .i64 (.ofNat (readG 64 true l 0 0 0).2.2)), some (AV.int .u64 (.ofNat w)), some (AV.int .i64 (.ofNat 10)), some (AV.int .i64 (.ofNat i'))]) : List (Option AV) → Hp → Prop) [some vb, some (AV.int .i64 (Int.ofNat 64)), some (AV.bool true), some (AV.int .u64 (Int.ofNat (v ||| (((l.getD i 0) &&& 127) * 2 ^ (7 * i) % 18446744073709551616)))), some (AV.int .i64 (Int.ofNat (i + 1))), some (AV.int .i64 (Int.ofNat 0)), some (AV.int .u64 (Int.ofNat (v ||| (((l.getD i 0) &&& 127) * 2 ^ (7 * i) % 18446744073709551616)))), some (AV.int .i64 (Int.ofNat 10)), some (AV.int .i64 (Int.ofNat i))] h))))) ∧ (ltI (Int.ofNat (l.getD i 0)) (Int.ofNat 128) = false → (evQ (.bin .add (.const (AV.int .i64 (Int.ofNat i))) (.const (AV.int .i64 (Int.ofNat 1)))) .lf H0 = .ok (AV.int .i64 (Int.ofNat (i + 1))) ∧ ((fun ls h' => ∃ m, m < 100 - i ∧ h' = h ∧ ∃ i' v', ls = [some vb, some (AV.int .i64 (.ofNat 64)), some (AV.bool true), some (AV.int .u64 (.ofNat 0)), some (AV.int .i64 (.ofNat 0)), some (AV.int .i64 (.ofNat 0)), some (AV.int .u64 (.ofNat v')), some (AV.int .i64 (.ofNat 10)), some (AV.int .i64 (.ofNat i'))] ∧ m = 100 - i' ∧ i' < 10 ∧ v' < 18446744073709551616 ∧ readG 64 true (l.drop i') (7 * i') i' v' = readG 64 true l 0 0 0) : List (Option AV) → Hp → Prop) [some vb, some (AV.int .i64 (Int.ofNat 64)), some (AV.bool true), some (AV.int .u64 (Int.ofNat 0)), some (AV.int .i64 (Int.ofNat 0)), some (AV.int .i64 (Int.ofNat 0)), some (AV.int .u64 (Int.ofNat (v ||| (((l.getD i 0) &&& 127) * 2 ^ (7 * i) % 18446744073709551616)))), some (AV.int .i64 (Int.ofNat 10)), some (AV.int .i64 (Int.ofNat (i + 1)))] h)))))))))))))))) ∧ (ltI (Int.ofNat i) (Int.ofNat 10) = false → ((fun _ _ _ => False) : Nat → List (Option AV) → Hp → Prop) 0 [some vb, some (AV.int .i64 (Int.ofNat 64)), some (AV.bool true), some (AV.int .u64 (Int.ofNat 0)), some (AV.int .i64 (Int.ofNat 0)), some (AV.int .i64 (Int.ofNat 0)), some (AV.int .u64 (Int.ofNat v)), some (AV.int .i64 (Int.ofNat 10)), some (AV.int .i64 (Int.ofNat i))] h))) (by kernel_rfl) ?_
  refine ⟨fun c1 => ?_, fun c1 => ?_⟩
  · have rc1 := c1
    replace c1 : i < 10 := ltI_t c1
    refine ⟨q_len hb, ?_⟩
    refine ⟨fun c2 => ?_, fun c2 => ?_⟩
    · have rc2 := c2
      replace c2 : l.length ≤ i := ltI_f (notB_t c2)
      exact fin _ _ _ (by rw [List.drop_eq_nil_of_le (by omega)]; rfl)
    · have rc2 := c2
      replace c2 : i < l.length := ltI_t (notB_f c2)
      refine ⟨q_idxB hb (by omega), ?_⟩
      refine ⟨q_byte hb (by omega), ?_⟩
      have x3 : l.getD i 0 < 256 := getD_lt hb.lt i
      refine ⟨u_and rfl x3 (by decide), ?_⟩
      have g4 : (l.getD i 0) &&& 127 < 256 := Nat.lt_of_le_of_lt Nat.and_le_left x3
      refine ⟨u_conv' rfl (Nat.lt_of_lt_of_le g4 (by decide)), ?_⟩
      have g5 : (l.getD i 0) &&& 127 < 18446744073709551616 := Nat.lt_of_lt_of_le g4 (by decide)
      refine ⟨fun c6 => ?_, fun c6 => ?_⟩
      · have rc6 := c6
        replace c6 : i = 9 := eqI_t c6
        refine ⟨q_mul (by omega), ?_⟩
        refine ⟨q_sub (by omega) (by omega), ?_⟩
        refine ⟨u_shr rfl g5, ?_⟩
        have g7 : ((l.getD i 0) &&& 127) / 2 ^ (64 - (7 * i)) < 18446744073709551616 := Nat.lt_of_le_of_lt (Nat.div_le_self _ _) g5
        refine ⟨q_sub (by omega) (by omega), ?_⟩
        refine ⟨u_shr rfl g5, ?_⟩
        have g8 : ((l.getD i 0) &&& 127) / 2 ^ ((64 - (7 * i)) - 1) < 18446744073709551616 := Nat.lt_of_le_of_lt (Nat.div_le_self _ _) g5
        refine ⟨u_shr rfl (by decide), ?_⟩
        have g9 : 127 / 2 ^ (64 - (7 * i)) < 18446744073709551616 := Nat.lt_of_le_of_lt (Nat.div_le_self _ _) (by decide)
        refine ⟨q_sub (by omega) (by omega), ?_⟩
        refine ⟨u_shr rfl (by decide), ?_⟩
        have g10 : 127 / 2 ^ ((64 - (7 * i)) - 1) < 18446744073709551616 := Nat.lt_of_le_of_lt (Nat.div_le_self _ _) (by decide)
        refine ⟨fun c11 => ?_, fun c11 => ?_⟩
        · have rc11 := c11
          replace c11 : 128 ≤ l.getD i 0 := ltI_f (notB_t c11)
          have hd := drop_cons (l := l) (k := i) (by omega)
          have hx := getD_lt hb.lt i
          refine fin _ _ _ ?_
          rw [hd, readG_s hx (by omega)]
          clear hR fin
          generalize l.getD i 0 = x at *
          first
            | (rw [if_pos (by constructor <;> first | omega | (exact .inl (by omega)) | (exact .inr (by first | assumption | (constructor <;> assumption))))]; done)
            | (rw [if_neg (by rintro ⟨e1, e2⟩; rcases e2 with e2 | e2 <;> first | omega | contradiction | (exact e2.1 (by assumption)) | (exact e2.2 (by assumption))), if_pos (by omega)]; done)
            | (rw [if_neg (by rintro ⟨e1, e2⟩; rcases e2 with e2 | e2 <;> first | omega | contradiction | (exact e2.1 (by assumption)) | (exact e2.2 (by assumption))), if_pos (by omega), if_pos (by constructor <;> assumption)]; done)
            | (rw [if_neg (by rintro ⟨e1, e2⟩; rcases e2 with e2 | e2 <;> first | omega | contradiction | (exact e2.1 (by assumption)) | (exact e2.2 (by assumption))), if_pos (by omega), if_neg (by rintro ⟨e1, e2⟩; first | omega | contradiction)]; done)
        · have rc11 := c11
          replace c11 : l.getD i 0 < 128 := ltI_t (notB_f c11)
          refine ⟨fun c12 => ?_, fun c12 => ?_⟩
          · have rc12 := c12
            replace c12 : ((l.getD i 0) &&& 127) / 2 ^ ((64 - (7 * i)) - 1) ≠ 0 := eqI_f (notB_t c12)
            refine ⟨fun c13 => ?_, fun c13 => ?_⟩
            · have rc13 := c13
              replace c13 : ((l.getD i 0) &&& 127) / 2 ^ ((64 - (7 * i)) - 1) ≠ 127 / 2 ^ ((64 - (7 * i)) - 1) := eqI_f (notB_t c13)
              have hd := drop_cons (l := l) (k := i) (by omega)
              have hx := getD_lt hb.lt i
              refine fin _ _ _ ?_
              rw [hd, readG_s hx (by omega)]
              clear hR fin
              generalize l.getD i 0 = x at *
              first
                | (rw [if_pos (by constructor <;> first | omega | (exact .inl (by omega)) | (exact .inr (by first | assumption | (constructor <;> assumption))))]; done)
                | (rw [if_neg (by rintro ⟨e1, e2⟩; rcases e2 with e2 | e2 <;> first | omega | contradiction | (exact e2.1 (by assumption)) | (exact e2.2 (by assumption))), if_pos (by omega)]; done)
                | (rw [if_neg (by rintro ⟨e1, e2⟩; rcases e2 with e2 | e2 <;> first | omega | contradiction | (exact e2.1 (by assumption)) | (exact e2.2 (by assumption))), if_pos (by omega), if_pos (by constructor <;> assumption)]; done)
                | (rw [if_neg (by rintro ⟨e1, e2⟩; rcases e2 with e2 | e2 <;> first | omega | contradiction | (exact e2.1 (by assumption)) | (exact e2.2 (by assumption))), if_pos (by omega), if_neg (by rintro ⟨e1, e2⟩; first | omega | contradiction)]; done)
            · have rc13 := c13
              replace c13 : ((l.getD i 0) &&& 127) / 2 ^ ((64 - (7 * i)) - 1) = 127 / 2 ^ ((64 - (7 * i)) - 1) := eqI_t (notB_f c13)
              refine ⟨q_mul (by omega), ?_⟩
              refine ⟨u_shl rfl, ?_⟩
              have g14 : ((l.getD i 0) &&& 127) * 2 ^ (7 * i) % 18446744073709551616 < 18446744073709551616 := Nat.mod_lt _ (by decide)
              refine ⟨u_or rfl hv g14, ?_⟩
              have g15 : v ||| (((l.getD i 0) &&& 127) * 2 ^ (7 * i) % 18446744073709551616) < 18446744073709551616 := Nat.or_lt_two_pow (n := 64) hv g14
              refine ⟨congrArg (fun z => OV.ok (AV.bool z)) (notB_f rc11), ?_⟩
              refine ⟨u_and rfl x3 (by decide), ?_⟩
              have g16 : (l.getD i 0) &&& 64 < 256 := Nat.lt_of_le_of_lt Nat.and_le_left x3
              refine ⟨fun c17 => ?_, fun c17 => ?_⟩
              · have rc17 := c17
                replace c17 : (l.getD i 0) &&& 64 ≠ 0 := eqI_f (notB_t c17)
                refine ⟨q_mul (by omega), ?_⟩
                refine ⟨q_add (by omega), ?_⟩
                refine ⟨fun c18 => ?_, fun c18 => ?_⟩
                · have rc18 := c18
                  replace c18 : (7 * i) + 7 < 64 := ltI_t c18
                  refine ⟨q_mul (by omega), ?_⟩
                  refine ⟨q_add (by omega), ?_⟩
                  refine ⟨u_shl rfl, ?_⟩
                  have g19 : 18446744073709551615 * 2 ^ ((7 * i) + 7) % 18446744073709551616 < 18446744073709551616 := Nat.mod_lt _ (by decide)
                  refine ⟨u_or rfl g15 g19, ?_⟩
                  have g20 : (v ||| (((l.getD i 0) &&& 127) * 2 ^ (7 * i) % 18446744073709551616)) ||| (18446744073709551615 * 2 ^ ((7 * i) + 7) % 18446744073709551616) < 18446744073709551616 := Nat.or_lt_two_pow (n := 64) g15 g19
                  refine ⟨q_add (by omega), ?_⟩
                  have hd := drop_cons (l := l) (k := i) (by omega)
                  have hx := getD_lt hb.lt i
                  refine fin _ _ _ ?_
                  rw [hd, readG_s hx (by omega)]
                  clear hR fin
                  generalize l.getD i 0 = x at *
                  first
                    | (rw [if_pos (by constructor <;> first | omega | (exact .inl (by omega)) | (exact .inr (by first | assumption | (constructor <;> assumption))))]; done)
                    | (rw [if_neg (by rintro ⟨e1, e2⟩; rcases e2 with e2 | e2 <;> first | omega | contradiction | (exact e2.1 (by assumption)) | (exact e2.2 (by assumption))), if_pos (by omega)]; done)
                    | (rw [if_neg (by rintro ⟨e1, e2⟩; rcases e2 with e2 | e2 <;> first | omega | contradiction | (exact e2.1 (by assumption)) | (exact e2.2 (by assumption))), if_pos (by omega), if_pos (by constructor <;> assumption)]; done)
                    | (rw [if_neg (by rintro ⟨e1, e2⟩; rcases e2 with e2 | e2 <;> first | omega | contradiction | (exact e2.1 (by assumption)) | (exact e2.2 (by assumption))), if_pos (by omega), if_neg (by rintro ⟨e1, e2⟩; first | omega | contradiction)]; done)
                · have rc18 := c18
                  replace c18 : 64 ≤ (7 * i) + 7 := ltI_f c18
                  refine ⟨q_add (by omega), ?_⟩
                  have hd := drop_cons (l := l) (k := i) (by omega)
                  have hx := getD_lt hb.lt i
                  refine fin _ _ _ ?_
                  rw [hd, readG_s hx (by omega)]
                  clear hR fin
                  generalize l.getD i 0 = x at *
                  first
                    | (rw [if_pos (by constructor <;> first | omega | (exact .inl (by omega)) | (exact .inr (by first | assumption | (constructor <;> assumption))))]; done)
                    | (rw [if_neg (by rintro ⟨e1, e2⟩; rcases e2 with e2 | e2 <;> first | omega | contradiction | (exact e2.1 (by assumption)) | (exact e2.2 (by assumption))), if_pos (by omega)]; done)
                    | (rw [if_neg (by rintro ⟨e1, e2⟩; rcases e2 with e2 | e2 <;> first | omega | contradiction | (exact e2.1 (by assumption)) | (exact e2.2 (by assumption))), if_pos (by omega), if_pos (by constructor <;> assumption)]; done)
                    | (rw [if_neg (by rintro ⟨e1, e2⟩; rcases e2 with e2 | e2 <;> first | omega | contradiction | (exact e2.1 (by assumption)) | (exact e2.2 (by assumption))), if_pos (by omega), if_neg (by rintro ⟨e1, e2⟩; first | omega | contradiction)]; done)
              · have rc17 := c17
                replace c17 : (l.getD i 0) &&& 64 = 0 := eqI_t (notB_f c17)
                refine ⟨q_add (by omega), ?_⟩
                have hd := drop_cons (l := l) (k := i) (by omega)
                have hx := getD_lt hb.lt i
                refine fin _ _ _ ?_
                rw [hd, readG_s hx (by omega)]
                clear hR fin
                generalize l.getD i 0 = x at *
                first
                  | (rw [if_pos (by constructor <;> first | omega | (exact .inl (by omega)) | (exact .inr (by first | assumption | (constructor <;> assumption))))]; done)
                  | (rw [if_neg (by rintro ⟨e1, e2⟩; rcases e2 with e2 | e2 <;> first | omega | contradiction | (exact e2.1 (by assumption)) | (exact e2.2 (by assumption))), if_pos (by omega)]; done)
                  | (rw [if_neg (by rintro ⟨e1, e2⟩; rcases e2 with e2 | e2 <;> first | omega | contradiction | (exact e2.1 (by assumption)) | (exact e2.2 (by assumption))), if_pos (by omega), if_pos (by constructor <;> assumption)]; done)
                  | (rw [if_neg (by rintro ⟨e1, e2⟩; rcases e2 with e2 | e2 <;> first | omega | contradiction | (exact e2.1 (by assumption)) | (exact e2.2 (by assumption))), if_pos (by omega), if_neg (by rintro ⟨e1, e2⟩; first | omega | contradiction)]; done)
          · have rc12 := c12
            replace c12 : ((l.getD i 0) &&& 127) / 2 ^ ((64 - (7 * i)) - 1) = 0 := eqI_t (notB_f c12)
            refine ⟨q_mul (by omega), ?_⟩
            refine ⟨u_shl rfl, ?_⟩
            have g13 : ((l.getD i 0) &&& 127) * 2 ^ (7 * i) % 18446744073709551616 < 18446744073709551616 := Nat.mod_lt _ (by decide)
            refine ⟨u_or rfl hv g13, ?_⟩
            have g14 : v ||| (((l.getD i 0) &&& 127) * 2 ^ (7 * i) % 18446744073709551616) < 18446744073709551616 := Nat.or_lt_two_pow (n := 64) hv g13
            refine ⟨congrArg (fun z => OV.ok (AV.bool z)) (notB_f rc11), ?_⟩
            refine ⟨u_and rfl x3 (by decide), ?_⟩
            have g15 : (l.getD i 0) &&& 64 < 256 := Nat.lt_of_le_of_lt Nat.and_le_left x3
            refine ⟨fun c16 => ?_, fun c16 => ?_⟩
            · have rc16 := c16
              replace c16 : (l.getD i 0) &&& 64 ≠ 0 := eqI_f (notB_t c16)
              refine ⟨q_mul (by omega), ?_⟩
              refine ⟨q_add (by omega), ?_⟩
              refine ⟨fun c17 => ?_, fun c17 => ?_⟩
              · have rc17 := c17
                replace c17 : (7 * i) + 7 < 64 := ltI_t c17
                refine ⟨q_mul (by omega), ?_⟩
                refine ⟨q_add (by omega), ?_⟩
                refine ⟨u_shl rfl, ?_⟩
                have g18 : 18446744073709551615 * 2 ^ ((7 * i) + 7) % 18446744073709551616 < 18446744073709551616 := Nat.mod_lt _ (by decide)
                refine ⟨u_or rfl g14 g18, ?_⟩
                have g19 : (v ||| (((l.getD i 0) &&& 127) * 2 ^ (7 * i) % 18446744073709551616)) ||| (18446744073709551615 * 2 ^ ((7 * i) + 7) % 18446744073709551616) < 18446744073709551616 := Nat.or_lt_two_pow (n := 64) g14 g18
                refine ⟨q_add (by omega), ?_⟩
                have hd := drop_cons (l := l) (k := i) (by omega)
                have hx := getD_lt hb.lt i
                refine fin _ _ _ ?_
                rw [hd, readG_s hx (by omega)]
                clear hR fin
                generalize l.getD i 0 = x at *
                first
                  | (rw [if_pos (by constructor <;> first | omega | (exact .inl (by omega)) | (exact .inr (by first | assumption | (constructor <;> assumption))))]; done)
                  | (rw [if_neg (by rintro ⟨e1, e2⟩; rcases e2 with e2 | e2 <;> first | omega | contradiction | (exact e2.1 (by assumption)) | (exact e2.2 (by assumption))), if_pos (by omega)]; done)
                  | (rw [if_neg (by rintro ⟨e1, e2⟩; rcases e2 with e2 | e2 <;> first | omega | contradiction | (exact e2.1 (by assumption)) | (exact e2.2 (by assumption))), if_pos (by omega), if_pos (by constructor <;> assumption)]; done)
                  | (rw [if_neg (by rintro ⟨e1, e2⟩; rcases e2 with e2 | e2 <;> first | omega | contradiction | (exact e2.1 (by assumption)) | (exact e2.2 (by assumption))), if_pos (by omega), if_neg (by rintro ⟨e1, e2⟩; first | omega | contradiction)]; done)
              · have rc17 := c17
                replace c17 : 64 ≤ (7 * i) + 7 := ltI_f c17
                refine ⟨q_add (by omega), ?_⟩
                have hd := drop_cons (l := l) (k := i) (by omega)
                have hx := getD_lt hb.lt i
                refine fin _ _ _ ?_
                rw [hd, readG_s hx (by omega)]
                clear hR fin
                generalize l.getD i 0 = x at *
                first
                  | (rw [if_pos (by constructor <;> first | omega | (exact .inl (by omega)) | (exact .inr (by first | assumption | (constructor <;> assumption))))]; done)
                  | (rw [if_neg (by rintro ⟨e1, e2⟩; rcases e2 with e2 | e2 <;> first | omega | contradiction | (exact e2.1 (by assumption)) | (exact e2.2 (by assumption))), if_pos (by omega)]; done)
                  | (rw [if_neg (by rintro ⟨e1, e2⟩; rcases e2 with e2 | e2 <;> first | omega | contradiction | (exact e2.1 (by assumption)) | (exact e2.2 (by assumption))), if_pos (by omega), if_pos (by constructor <;> assumption)]; done)
                  | (rw [if_neg (by rintro ⟨e1, e2⟩; rcases e2 with e2 | e2 <;> first | omega | contradiction | (exact e2.1 (by assumption)) | (exact e2.2 (by assumption))), if_pos (by omega), if_neg (by rintro ⟨e1, e2⟩; first | omega | contradiction)]; done)
            · have rc16 := c16
              replace c16 : (l.getD i 0) &&& 64 = 0 := eqI_t (notB_f c16)
              refine ⟨q_add (by omega), ?_⟩
              have hd := drop_cons (l := l) (k := i) (by omega)
              have hx := getD_lt hb.lt i
              refine fin _ _ _ ?_
              rw [hd, readG_s hx (by omega)]
              clear hR fin
              generalize l.getD i 0 = x at *
              first
                | (rw [if_pos (by constructor <;> first | omega | (exact .inl (by omega)) | (exact .inr (by first | assumption | (constructor <;> assumption))))]; done)
                | (rw [if_neg (by rintro ⟨e1, e2⟩; rcases e2 with e2 | e2 <;> first | omega | contradiction | (exact e2.1 (by assumption)) | (exact e2.2 (by assumption))), if_pos (by omega)]; done)
                | (rw [if_neg (by rintro ⟨e1, e2⟩; rcases e2 with e2 | e2 <;> first | omega | contradiction | (exact e2.1 (by assumption)) | (exact e2.2 (by assumption))), if_pos (by omega), if_pos (by constructor <;> assumption)]; done)
                | (rw [if_neg (by rintro ⟨e1, e2⟩; rcases e2 with e2 | e2 <;> first | omega | contradiction | (exact e2.1 (by assumption)) | (exact e2.2 (by assumption))), if_pos (by omega), if_neg (by rintro ⟨e1, e2⟩; first | omega | contradiction)]; done)
      · have rc6 := c6
        replace c6 : i ≠ 9 := eqI_f c6
        refine ⟨q_mul (by omega), ?_⟩
        refine ⟨u_shl rfl, ?_⟩
        have g7 : ((l.getD i 0) &&& 127) * 2 ^ (7 * i) % 18446744073709551616 < 18446744073709551616 := Nat.mod_lt _ (by decide)
        refine ⟨u_or rfl hv g7, ?_⟩
        have g8 : v ||| (((l.getD i 0) &&& 127) * 2 ^ (7 * i) % 18446744073709551616) < 18446744073709551616 := Nat.or_lt_two_pow (n := 64) hv g7
        refine ⟨fun c9 => ?_, fun c9 => ?_⟩
        · have rc9 := c9
          replace c9 : l.getD i 0 < 128 := ltI_t c9
          refine ⟨u_and rfl x3 (by decide), ?_⟩
          have g10 : (l.getD i 0) &&& 64 < 256 := Nat.lt_of_le_of_lt Nat.and_le_left x3
          refine ⟨fun c11 => ?_, fun c11 => ?_⟩
          · have rc11 := c11
            replace c11 : (l.getD i 0) &&& 64 ≠ 0 := eqI_f (notB_t c11)
            refine ⟨q_mul (by omega), ?_⟩
            refine ⟨q_add (by omega), ?_⟩
            refine ⟨fun c12 => ?_, fun c12 => ?_⟩
            · have rc12 := c12
              replace c12 : (7 * i) + 7 < 64 := ltI_t c12
              refine ⟨q_mul (by omega), ?_⟩
              refine ⟨q_add (by omega), ?_⟩
              refine ⟨u_shl rfl, ?_⟩
              have g13 : 18446744073709551615 * 2 ^ ((7 * i) + 7) % 18446744073709551616 < 18446744073709551616 := Nat.mod_lt _ (by decide)
              refine ⟨u_or rfl g8 g13, ?_⟩
              have g14 : (v ||| (((l.getD i 0) &&& 127) * 2 ^ (7 * i) % 18446744073709551616)) ||| (18446744073709551615 * 2 ^ ((7 * i) + 7) % 18446744073709551616) < 18446744073709551616 := Nat.or_lt_two_pow (n := 64) g8 g13
              refine ⟨q_add (by omega), ?_⟩
              have hd := drop_cons (l := l) (k := i) (by omega)
              have hx := getD_lt hb.lt i
              refine fin _ _ _ ?_
              rw [hd, readG_s hx (by omega)]
              clear hR fin
              generalize l.getD i 0 = x at *
              first
                | (rw [if_pos (by constructor <;> first | omega | (exact .inl (by omega)) | (exact .inr (by first | assumption | (constructor <;> assumption))))]; done)
                | (rw [if_neg (by rintro ⟨e1, e2⟩; rcases e2 with e2 | e2 <;> first | omega | contradiction | (exact e2.1 (by assumption)) | (exact e2.2 (by assumption))), if_pos (by omega)]; done)
                | (rw [if_neg (by rintro ⟨e1, e2⟩; rcases e2 with e2 | e2 <;> first | omega | contradiction | (exact e2.1 (by assumption)) | (exact e2.2 (by assumption))), if_pos (by omega), if_pos (by constructor <;> assumption)]; done)
                | (rw [if_neg (by rintro ⟨e1, e2⟩; rcases e2 with e2 | e2 <;> first | omega | contradiction | (exact e2.1 (by assumption)) | (exact e2.2 (by assumption))), if_pos (by omega), if_neg (by rintro ⟨e1, e2⟩; first | omega | contradiction)]; done)
            · have rc12 := c12
              replace c12 : 64 ≤ (7 * i) + 7 := ltI_f c12
              refine ⟨q_add (by omega), ?_⟩
              have hd := drop_cons (l := l) (k := i) (by omega)
              have hx := getD_lt hb.lt i
              refine fin _ _ _ ?_
              rw [hd, readG_s hx (by omega)]
              clear hR fin
              generalize l.getD i 0 = x at *
              first
                | (rw [if_pos (by constructor <;> first | omega | (exact .inl (by omega)) | (exact .inr (by first | assumption | (constructor <;> assumption))))]; done)
                | (rw [if_neg (by rintro ⟨e1, e2⟩; rcases e2 with e2 | e2 <;> first | omega | contradiction | (exact e2.1 (by assumption)) | (exact e2.2 (by assumption))), if_pos (by omega)]; done)
                | (rw [if_neg (by rintro ⟨e1, e2⟩; rcases e2 with e2 | e2 <;> first | omega | contradiction | (exact e2.1 (by assumption)) | (exact e2.2 (by assumption))), if_pos (by omega), if_pos (by constructor <;> assumption)]; done)
                | (rw [if_neg (by rintro ⟨e1, e2⟩; rcases e2 with e2 | e2 <;> first | omega | contradiction | (exact e2.1 (by assumption)) | (exact e2.2 (by assumption))), if_pos (by omega), if_neg (by rintro ⟨e1, e2⟩; first | omega | contradiction)]; done)
          · have rc11 := c11
            replace c11 : (l.getD i 0) &&& 64 = 0 := eqI_t (notB_f c11)
            refine ⟨q_add (by omega), ?_⟩
            have hd := drop_cons (l := l) (k := i) (by omega)
            have hx := getD_lt hb.lt i
            refine fin _ _ _ ?_
            rw [hd, readG_s hx (by omega)]
            clear hR fin
            generalize l.getD i 0 = x at *
            first
              | (rw [if_pos (by constructor <;> first | omega | (exact .inl (by omega)) | (exact .inr (by first | assumption | (constructor <;> assumption))))]; done)
              | (rw [if_neg (by rintro ⟨e1, e2⟩; rcases e2 with e2 | e2 <;> first | omega | contradiction | (exact e2.1 (by assumption)) | (exact e2.2 (by assumption))), if_pos (by omega)]; done)
              | (rw [if_neg (by rintro ⟨e1, e2⟩; rcases e2 with e2 | e2 <;> first | omega | contradiction | (exact e2.1 (by assumption)) | (exact e2.2 (by assumption))), if_pos (by omega), if_pos (by constructor <;> assumption)]; done)
              | (rw [if_neg (by rintro ⟨e1, e2⟩; rcases e2 with e2 | e2 <;> first | omega | contradiction | (exact e2.1 (by assumption)) | (exact e2.2 (by assumption))), if_pos (by omega), if_neg (by rintro ⟨e1, e2⟩; first | omega | contradiction)]; done)
        · have rc9 := c9
          replace c9 : 128 ≤ l.getD i 0 := ltI_f c9
          refine ⟨q_add (by omega), ?_⟩
          have hd := drop_cons (l := l) (k := i) (by omega)
          have hx := getD_lt hb.lt i
          refine ⟨100 - (i + 1), by omega, rfl, i + 1, _, rfl, rfl, by omega, or64 hv (Nat.mod_lt _ (by decide)), ?_⟩
          rw [← hR, hd, readG_s hx (by omega), if_neg (by omega), if_neg (by omega)]
  · have rc1 := c1
    replace c1 : 10 ≤ i := ltI_f c1
    exact absurd c1 (by omega)
theorem num64s_loop {call : CallT} {N : Nat} {t : T} {h : Hp} {B : Nat} {vb : AV} {l : List Nat} (hb : Bytes B h vb l) (hk2 : l.length < 9223372036854775000) (hN : 100 < N)
    (h0 : slots [0, 1, 2, 6, 7, 8, 9, 10, 11] t = [some vb, some (AV.int .i64 (.ofNat 64)), some (AV.bool true), some (AV.int .u64 (.ofNat 0)), some (AV.int .i64 (.ofNat 0)), some (AV.int .i64 (.ofNat 0)), some (AV.int .u64 (.ofNat 0)), some (AV.int .i64 (.ofNat 10)), some (AV.int .i64 (.ofNat 0))]) :
    ∃ t', evC call N (.loop numC) t h = .ret t' h ∧ Has [(6, .int .u64 (.ofNat (readG 64 true l 0 0 0).1)), (7, .int .i64 (.ofNat (readG 64 true l 0 0 0).2.1)), (8, .int .i64 (.ofNat (readG 64 true l 0 0 0).2.2))] t' := by
  refine Exists.elim (loop_ok (call := call) (N := N) (body := numC) [0, 1, 2, 6, 7, 8, 9, 10, 11]
    (fun n ls h' => h' = h ∧ ∃ i v, ls = [some vb, some (AV.int .i64 (.ofNat 64)), some (AV.bool true), some (AV.int .u64 (.ofNat 0)), some (AV.int .i64 (.ofNat 0)), some (AV.int .i64 (.ofNat 0)), some (AV.int .u64 (.ofNat v)), some (AV.int .i64 (.ofNat 10)), some (AV.int .i64 (.ofNat i))] ∧ n = 100 - i ∧ i < 10 ∧ v < 18446744073709551616 ∧ readG 64 true (l.drop i) (7 * i) i v = readG 64 true l 0 0 0)
    (fun _ _ _ => False)
    (fun ls h' => h' = h ∧ ∃ w i', ls = [some vb, some (AV.int .i64 (.ofNat 64)), some (AV.bool true), some (AV.int .u64 (.ofNat (readG 64 true l 0 0 0).1)), some (AV.int .i64 (.ofNat (readG 64 true l 0 0 0).2.1)), some (AV.int .i64 (.ofNat (readG 64 true l 0 0 0).2.2)), some (AV.int .u64 (.ofNat w)), some (AV.int .i64 (.ofNat 10)), some (AV.int .i64 (.ofNat i'))]) ?_ 100 (by omega) t h ⟨rfl, 0, 0, h0, rfl, by decide, by decide, rfl⟩) ?_
  rotate_left
  · rintro s ⟨e, hs⟩
    cases s with
    | no => exact hs.elim
    | nor t' h' => exact hs.elim
    | exit i t' h' => exact hs.elim
    | ret t' h' =>
      obtain ⟨rfl, w, i', hh⟩ := hs
      refine ⟨t', e, ?_⟩
      have hh : [tget (pathOf 0) t', tget (pathOf 1) t', tget (pathOf 2) t', tget (pathOf 6) t', tget (pathOf 7) t', tget (pathOf 8) t', tget (pathOf 9) t', tget (pathOf 10) t', tget (pathOf 11) t'] = _ := hh
      simp only [List.cons.injEq] at hh
      obtain ⟨-, -, -, g6, g7, g8, -⟩ := hh
      show [tget (pathOf 6) t', tget (pathOf 7) t', tget (pathOf 8) t'] = _
      rw [g6, g7, g8]; rfl
  · rintro n t h' ⟨rfl, i, v, hsl, rfl, hi, hv, hR⟩
    rw [← ovT_eq (l := [(0, vb), (1, .int .i64 (.ofNat 64)), (2, .bool true), (6, .int .u64 (.ofNat 0)), (7, .int .i64 (.ofNat 0)), (8, .int .i64 (.ofNat 0)), (9, .int .u64 (.ofNat v)), (10, .int .i64 (.ofNat 10)), (11, .int .i64 (.ofNat i))]) hsl]
    exact num64s_body hb hk2 hv hi hR
end Go.Proofs.Ytejiebbbodealaa
end
section
set_option linter.unusedVariables false
namespace Go.Proofs.Ytejiebbbodealaa
set_option linter.unusedVariables false
open Go Eng
theorem num32u_walk {call : CallT} {N : Nat} {h : Hp} {B : Nat} {vb : AV} {l : List Nat} (hb : Bytes B h vb l) (hk2 : l.length < 9223372036854775000) (hN : 100 < N)
    : ∃ rv rh, evF1 (progS Try.prog (compDrawn Try.prog)) N call 57 [vb, (AV.int .i64 (Int.ofNat 32)), (AV.bool false)] h = .ok rv rh ∧ (fun (v : AV) (h' : Hp) => h' = h ∧ v = .tuple [.int .u64 (.ofNat (readG 32 false l 0 0 0).1), .int .i64 (.ofNat (readG 32 false l 0 0 0).2.1), .int .i64 (.ofNat (readG 32 false l 0 0 0).2.2)]) rv rh := by
  refine fwalk_ok (o := (.lpx 9 (fun e1 => (.ret (ovT [(6, (AV.int .u64 (Int.ofNat ((readG 32 false l 0 0 0).1)))), (7, (AV.int .i64 (Int.ofNat ((readG 32 false l 0 0 0).2.1)))), (8, (AV.int .i64 (Int.ofNat ((readG 32 false l 0 0 0).2.2))))] e1.t) h)) (fun e1 => .fin))) (p := (∃ e1 : Ev, evC call N (.loop numC) (ovT [(0, vb), (1, (AV.int .i64 (Int.ofNat 32))), (2, (AV.bool false)), (6, (AV.int .u64 (Int.ofNat 0))), (7, (AV.int .i64 (Int.ofNat 0))), (8, (AV.int .i64 (Int.ofNat 0))), (9, (AV.int .u64 (Int.ofNat 0))), (10, (AV.int .i64 (Int.ofNat 5))), (11, (AV.int .i64 (Int.ofNat 0))), (17, (AV.int .i64 (Int.ofNat 32))), (18, (AV.int .i64 (Int.ofNat 38))), (19, (AV.int .i64 (Int.ofNat 5)))] .lf) h = (.ret (ovT [(6, (AV.int .u64 (Int.ofNat ((readG 32 false l 0 0 0).1)))), (7, (AV.int .i64 (Int.ofNat ((readG 32 false l 0 0 0).2.1)))), (8, (AV.int .i64 (Int.ofNat ((readG 32 false l 0 0 0).2.2))))] e1.t) h) ∧ True ∧ (fun (v : AV) (h' : Hp) => h' = h ∧ v = .tuple [.int .u64 (.ofNat (readG 32 false l 0 0 0).1), .int .i64 (.ofNat (readG 32 false l 0 0 0).2.1), .int .i64 (.ofNat (readG 32 false l 0 0 0).2.2)]) (AV.tuple [(AV.int .u64 (Int.ofNat ((readG 32 false l 0 0 0).1))), (AV.int .i64 (Int.ofNat ((readG 32 false l 0 0 0).2.1))), (AV.int .i64 (Int.ofNat ((readG 32 false l 0 0 0).2.2)))]) h)) (by kernel_rfl) ?_
  obtain ⟨t1, q1, w1⟩ := num32u_loop (N := N) (call := call) (t := ovT [(0, vb), (1, (AV.int .i64 (Int.ofNat 32))), (2, (AV.bool false)), (6, (AV.int .u64 (Int.ofNat 0))), (7, (AV.int .i64 (Int.ofNat 0))), (8, (AV.int .i64 (Int.ofNat 0))), (9, (AV.int .u64 (Int.ofNat 0))), (10, (AV.int .i64 (Int.ofNat 5))), (11, (AV.int .i64 (Int.ofNat 0))), (17, (AV.int .i64 (Int.ofNat 32))), (18, (AV.int .i64 (Int.ofNat 38))), (19, (AV.int .i64 (Int.ofNat 5)))] .lf) hb hk2 hN (by kernel_rfl)
  refine ⟨⟨.nilPtr, t1, h⟩, (by rw [q1]; exact congrArg (fun t => RS.ret t h) (ovT_eq w1).symm), trivial, ?_⟩
  exact ⟨rfl, rfl⟩
theorem num64u_walk {call : CallT} {N : Nat} {h : Hp} {B : Nat} {vb : AV} {l : List Nat} (hb : Bytes B h vb l) (hk2 : l.length < 9223372036854775000) (hN : 100 < N)
    : ∃ rv rh, evF1 (progS Try.prog (compDrawn Try.prog)) N call 57 [vb, (AV.int .i64 (Int.ofNat 64)), (AV.bool false)] h = .ok rv rh ∧ (fun (v : AV) (h' : Hp) => h' = h ∧ v = .tuple [.int .u64 (.ofNat (readG 64 false l 0 0 0).1), .int .i64 (.ofNat (readG 64 false l 0 0 0).2.1), .int .i64 (.ofNat (readG 64 false l 0 0 0).2.2)]) rv rh := by
  refine fwalk_ok (o := (.lpx 9 (fun e1 => (.ret (ovT [(6, (AV.int .u64 (Int.ofNat ((readG 64 false l 0 0 0).1)))), (7, (AV.int .i64 (Int.ofNat ((readG 64 false l 0 0 0).2.1)))), (8, (AV.int .i64 (Int.ofNat ((readG 64 false l 0 0 0).2.2))))] e1.t) h)) (fun e1 => .fin))) (p := (∃ e1 : Ev, evC call N (.loop numC) (ovT [(0, vb), (1, (AV.int .i64 (Int.ofNat 64))), (2, (AV.bool false)), (6, (AV.int .u64 (Int.ofNat 0))), (7, (AV.int .i64 (Int.ofNat 0))), (8, (AV.int .i64 (Int.ofNat 0))), (9, (AV.int .u64 (Int.ofNat 0))), (10, (AV.int .i64 (Int.ofNat 10))), (11, (AV.int .i64 (Int.ofNat 0))), (17, (AV.int .i64 (Int.ofNat 64))), (18, (AV.int .i64 (Int.ofNat 70))), (19, (AV.int .i64 (Int.ofNat 10)))] .lf) h = (.ret (ovT [(6, (AV.int .u64 (Int.ofNat ((readG 64 false l 0 0 0).1)))), (7, (AV.int .i64 (Int.ofNat ((readG 64 false l 0 0 0).2.1)))), (8, (AV.int .i64 (Int.ofNat ((readG 64 false l 0 0 0).2.2))))] e1.t) h) ∧ True ∧ (fun (v : AV) (h' : Hp) => h' = h ∧ v = .tuple [.int .u64 (.ofNat (readG 64 false l 0 0 0).1), .int .i64 (.ofNat (readG 64 false l 0 0 0).2.1), .int .i64 (.ofNat (readG 64 false l 0 0 0).2.2)]) (AV.tuple [(AV.int .u64 (Int.ofNat ((readG 64 false l 0 0 0).1))), (AV.int .i64 (Int.ofNat ((readG 64 false l 0 0 0).2.1))), (AV.int .i64 (Int.ofNat ((readG 64 false l 0 0 0).2.2)))]) h)) (by kernel_rfl) ?_
  obtain ⟨t1, q1, w1⟩ := num64u_loop (N := N) (call := call) (t := ovT [(0, vb), (1, (AV.int .i64 (Int.ofNat 64))), (2, (AV.bool false)), (6, (AV.int .u64 (Int.ofNat 0))), (7, (AV.int .i64 (Int.ofNat 0))), (8, (AV.int .i64 (Int.ofNat 0))), (9, (AV.int .u64 (Int.ofNat 0))), (10, (AV.int .i64 (Int.ofNat 10))), (11, (AV.int .i64 (Int.ofNat 0))), (17, (AV.int .i64 (Int.ofNat 64))), (18, (AV.int .i64 (Int.ofNat 70))), (19, (AV.int .i64 (Int.ofNat 10)))] .lf) hb hk2 hN (by kernel_rfl)
  refine ⟨⟨.nilPtr, t1, h⟩, (by rw [q1]; exact congrArg (fun t => RS.ret t h) (ovT_eq w1).symm), trivial, ?_⟩
  exact ⟨rfl, rfl⟩
theorem num32s_walk {call : CallT} {N : Nat} {h : Hp} {B : Nat} {vb : AV} {l : List Nat} (hb : Bytes B h vb l) (hk2 : l.length < 9223372036854775000) (hN : 100 < N)
    : ∃ rv rh, evF1 (progS Try.prog (compDrawn Try.prog)) N call 57 [vb, (AV.int .i64 (Int.ofNat 32)), (AV.bool true)] h = .ok rv rh ∧ (fun (v : AV) (h' : Hp) => h' = h ∧ v = .tuple [.int .u64 (.ofNat (readG 32 true l 0 0 0).1), .int .i64 (.ofNat (readG 32 true l 0 0 0).2.1), .int .i64 (.ofNat (readG 32 true l 0 0 0).2.2)]) rv rh := by
  refine fwalk_ok (o := (.lpx 9 (fun e1 => (.ret (ovT [(6, (AV.int .u64 (Int.ofNat ((readG 32 true l 0 0 0).1)))), (7, (AV.int .i64 (Int.ofNat ((readG 32 true l 0 0 0).2.1)))), (8, (AV.int .i64 (Int.ofNat ((readG 32 true l 0 0 0).2.2))))] e1.t) h)) (fun e1 => .fin))) (p := (∃ e1 : Ev, evC call N (.loop numC) (ovT [(0, vb), (1, (AV.int .i64 (Int.ofNat 32))), (2, (AV.bool true)), (6, (AV.int .u64 (Int.ofNat 0))), (7, (AV.int .i64 (Int.ofNat 0))), (8, (AV.int .i64 (Int.ofNat 0))), (9, (AV.int .u64 (Int.ofNat 0))), (10, (AV.int .i64 (Int.ofNat 5))), (11, (AV.int .i64 (Int.ofNat 0))), (17, (AV.int .i64 (Int.ofNat 32))), (18, (AV.int .i64 (Int.ofNat 38))), (19, (AV.int .i64 (Int.ofNat 5)))] .lf) h = (.ret (ovT [(6, (AV.int .u64 (Int.ofNat ((readG 32 true l 0 0 0).1)))), (7, (AV.int .i64 (Int.ofNat ((readG 32 true l 0 0 0).2.1)))), (8, (AV.int .i64 (Int.ofNat ((readG 32 true l 0 0 0).2.2))))] e1.t) h) ∧ True ∧ (fun (v : AV) (h' : Hp) => h' = h ∧ v = .tuple [.int .u64 (.ofNat (readG 32 true l 0 0 0).1), .int .i64 (.ofNat (readG 32 true l 0 0 0).2.1), .int .i64 (.ofNat (readG 32 true l 0 0 0).2.2)]) (AV.tuple [(AV.int .u64 (Int.ofNat ((readG 32 true l 0 0 0).1))), (AV.int .i64 (Int.ofNat ((readG 32 true l 0 0 0).2.1))), (AV.int .i64 (Int.ofNat ((readG 32 true l 0 0 0).2.2)))]) h)) (by kernel_rfl) ?_
  obtain ⟨t1, q1, w1⟩ := num32s_loop (N := N) (call := call) (t := ovT [(0, vb), (1, (AV.int .i64 (Int.ofNat 32))), (2, (AV.bool true)), (6, (AV.int .u64 (Int.ofNat 0))), (7, (AV.int .i64 (Int.ofNat 0))), (8, (AV.int .i64 (Int.ofNat 0))), (9, (AV.int .u64 (Int.ofNat 0))), (10, (AV.int .i64 (Int.ofNat 5))), (11, (AV.int .i64 (Int.ofNat 0))), (17, (AV.int .i64 (Int.ofNat 32))), (18, (AV.int .i64 (Int.ofNat 38))), (19, (AV.int .i64 (Int.ofNat 5)))] .lf) hb hk2 hN (by kernel_rfl)
  refine ⟨⟨.nilPtr, t1, h⟩, (by rw [q1]; exact congrArg (fun t => RS.ret t h) (ovT_eq w1).symm), trivial, ?_⟩
  exact ⟨rfl, rfl⟩
theorem num33s_walk {call : CallT} {N : Nat} {h : Hp} {B : Nat} {vb : AV} {l : List Nat} (hb : Bytes B h vb l) (hk2 : l.length < 9223372036854775000) (hN : 100 < N)
    : ∃ rv rh, evF1 (progS Try.prog (compDrawn Try.prog)) N call 57 [vb, (AV.int .i64 (Int.ofNat 33)), (AV.bool true)] h = .ok rv rh ∧ (fun (v : AV) (h' : Hp) => h' = h ∧ v = .tuple [.int .u64 (.ofNat (readG 33 true l 0 0 0).1), .int .i64 (.ofNat (readG 33 true l 0 0 0).2.1), .int .i64 (.ofNat (readG 33 true l 0 0 0).2.2)]) rv rh := by
  refine fwalk_ok (o := (.lpx 9 (fun e1 => (.ret (ovT [(6, (AV.int .u64 (Int.ofNat ((readG 33 true l 0 0 0).1)))), (7, (AV.int .i64 (Int.ofNat ((readG 33 true l 0 0 0).2.1)))), (8, (AV.int .i64 (Int.ofNat ((readG 33 true l 0 0 0).2.2))))] e1.t) h)) (fun e1 => .fin))) (p := (∃ e1 : Ev, evC call N (.loop numC) (ovT [(0, vb), (1, (AV.int .i64 (Int.ofNat 33))), (2, (AV.bool true)), (6, (AV.int .u64 (Int.ofNat 0))), (7, (AV.int .i64 (Int.ofNat 0))), (8, (AV.int .i64 (Int.ofNat 0))), (9, (AV.int .u64 (Int.ofNat 0))), (10, (AV.int .i64 (Int.ofNat 5))), (11, (AV.int .i64 (Int.ofNat 0))), (17, (AV.int .i64 (Int.ofNat 33))), (18, (AV.int .i64 (Int.ofNat 39))), (19, (AV.int .i64 (Int.ofNat 5)))] .lf) h = (.ret (ovT [(6, (AV.int .u64 (Int.ofNat ((readG 33 true l 0 0 0).1)))), (7, (AV.int .i64 (Int.ofNat ((readG 33 true l 0 0 0).2.1)))), (8, (AV.int .i64 (Int.ofNat ((readG 33 true l 0 0 0).2.2))))] e1.t) h) ∧ True ∧ (fun (v : AV) (h' : Hp) => h' = h ∧ v = .tuple [.int .u64 (.ofNat (readG 33 true l 0 0 0).1), .int .i64 (.ofNat (readG 33 true l 0 0 0).2.1), .int .i64 (.ofNat (readG 33 true l 0 0 0).2.2)]) (AV.tuple [(AV.int .u64 (Int.ofNat ((readG 33 true l 0 0 0).1))), (AV.int .i64 (Int.ofNat ((readG 33 true l 0 0 0).2.1))), (AV.int .i64 (Int.ofNat ((readG 33 true l 0 0 0).2.2)))]) h)) (by kernel_rfl) ?_
  obtain ⟨t1, q1, w1⟩ := num33s_loop (N := N) (call := call) (t := ovT [(0, vb), (1, (AV.int .i64 (Int.ofNat 33))), (2, (AV.bool true)), (6, (AV.int .u64 (Int.ofNat 0))), (7, (AV.int .i64 (Int.ofNat 0))), (8, (AV.int .i64 (Int.ofNat 0))), (9, (AV.int .u64 (Int.ofNat 0))), (10, (AV.int .i64 (Int.ofNat 5))), (11, (AV.int .i64 (Int.ofNat 0))), (17, (AV.int .i64 (Int.ofNat 33))), (18, (AV.int .i64 (Int.ofNat 39))), (19, (AV.int .i64 (Int.ofNat 5)))] .lf) hb hk2 hN (by kernel_rfl)
  refine ⟨⟨.nilPtr, t1, h⟩, (by rw [q1]; exact congrArg (fun t => RS.ret t h) (ovT_eq w1).symm), trivial, ?_⟩
  exact ⟨rfl, rfl⟩
theorem num64s_walk {call : CallT} {N : Nat} {h : Hp} {B : Nat} {vb : AV} {l : List Nat} (hb : Bytes B h vb l) (hk2 : l.length < 9223372036854775000) (hN : 100 < N)
    : ∃ rv rh, evF1 (progS Try.prog (compDrawn Try.prog)) N call 57 [vb, (AV.int .i64 (Int.ofNat 64)), (AV.bool true)] h = .ok rv rh ∧ (fun (v : AV) (h' : Hp) => h' = h ∧ v = .tuple [.int .u64 (.ofNat (readG 64 true l 0 0 0).1), .int .i64 (.ofNat (readG 64 true l 0 0 0).2.1), .int .i64 (.ofNat (readG 64 true l 0 0 0).2.2)]) rv rh := by
  refine fwalk_ok (o := (.lpx 9 (fun e1 => (.ret (ovT [(6, (AV.int .u64 (Int.ofNat ((readG 64 true l 0 0 0).1)))), (7, (AV.int .i64 (Int.ofNat ((readG 64 true l 0 0 0).2.1)))), (8, (AV.int .i64 (Int.ofNat ((readG 64 true l 0 0 0).2.2))))] e1.t) h)) (fun e1 => .fin))) (p := (∃ e1 : Ev, evC call N (.loop numC) (ovT [(0, vb), (1, (AV.int .i64 (Int.ofNat 64))), (2, (AV.bool true)), (6, (AV.int .u64 (Int.ofNat 0))), (7, (AV.int .i64 (Int.ofNat 0))), (8, (AV.int .i64 (Int.ofNat 0))), (9, (AV.int .u64 (Int.ofNat 0))), (10, (AV.int .i64 (Int.ofNat 10))), (11, (AV.int .i64 (Int.ofNat 0))), (17, (AV.int .i64 (Int.ofNat 64))), (18, (AV.int .i64 (Int.ofNat 70))), (19, (AV.int .i64 (Int.ofNat 10)))] .lf) h = (.ret (ovT [(6, (AV.int .u64 (Int.ofNat ((readG 64 true l 0 0 0).1)))), (7, (AV.int .i64 (Int.ofNat ((readG 64 true l 0 0 0).2.1)))), (8, (AV.int .i64 (Int.ofNat ((readG 64 true l 0 0 0).2.2))))] e1.t) h) ∧ True ∧ (fun (v : AV) (h' : Hp) => h' = h ∧ v = .tuple [.int .u64 (.ofNat (readG 64 true l 0 0 0).1), .int .i64 (.ofNat (readG 64 true l 0 0 0).2.1), .int .i64 (.ofNat (readG 64 true l 0 0 0).2.2)]) (AV.tuple [(AV.int .u64 (Int.ofNat ((readG 64 true l 0 0 0).1))), (AV.int .i64 (Int.ofNat ((readG 64 true l 0 0 0).2.1))), (AV.int .i64 (Int.ofNat ((readG 64 true l 0 0 0).2.2)))]) h)) (by kernel_rfl) ?_
  obtain ⟨t1, q1, w1⟩ := num64s_loop (N := N) (call := call) (t := ovT [(0, vb), (1, (AV.int .i64 (Int.ofNat 64))), (2, (AV.bool true)), (6, (AV.int .u64 (Int.ofNat 0))), (7, (AV.int .i64 (Int.ofNat 0))), (8, (AV.int .i64 (Int.ofNat 0))), (9, (AV.int .u64 (Int.ofNat 0))), (10, (AV.int .i64 (Int.ofNat 10))), (11, (AV.int .i64 (Int.ofNat 0))), (17, (AV.int .i64 (Int.ofNat 64))), (18, (AV.int .i64 (Int.ofNat 70))), (19, (AV.int .i64 (Int.ofNat 10)))] .lf) hb hk2 hN (by kernel_rfl)
  refine ⟨⟨.nilPtr, t1, h⟩, (by rw [q1]; exact congrArg (fun t => RS.ret t h) (ovT_eq w1).symm), trivial, ?_⟩
  exact ⟨rfl, rfl⟩
theorem U32_walk {call : CallT} {N : Nat} {h : Hp} {B : Nat} {vb : AV} {l : List Nat} (hb : Bytes B h vb l) (hk2 : l.length < 90000) (hread : ∀ (B : Nat) (h : Hp) (vb : AV) (l : List Nat), Bytes B h vb l → l.length < 90000 → 32 = 32 → call 56 [vb, .int .i64 (.ofNat 32), .bool false] h = .ok (numT .u64 (readG 32 false l 0 0 0)) h)
    : ∃ rv rh, evF1 (progS Try.prog (compDrawn Try.prog)) N call 22 [vb] h = .ok rv rh ∧ (fun (v : AV) (h' : Hp) => h' = h ∧ v = .tuple [.int .u32 ((fun n => .ofNat (n % 4294967296)) (readG 32 false l 0 0 0).1), .int .i64 (.ofNat (readG 32 false l 0 0 0).2.1), .int .i64 (.ofNat (readG 32 false l 0 0 0).2.2)]) rv rh := by
  refine fwalk_ok (o := (.eff 4 (AV.tuple [(AV.int .u64 (Int.ofNat ((readG 32 false l 0 0 0).1))), (AV.int .i64 (Int.ofNat ((readG 32 false l 0 0 0).2.1))), (AV.int .i64 (Int.ofNat ((readG 32 false l 0 0 0).2.2)))]) h (.tell 8 (AV.int .u32 (Int.ofNat (((readG 32 false l 0 0 0).1) % 4294967296))) .fin))) (p := (call 56 [vb, (AV.int .i64 (Int.ofNat 32)), (AV.bool false)] h = .ok (AV.tuple [(AV.int .u64 (Int.ofNat ((readG 32 false l 0 0 0).1))), (AV.int .i64 (Int.ofNat ((readG 32 false l 0 0 0).2.1))), (AV.int .i64 (Int.ofNat ((readG 32 false l 0 0 0).2.2)))]) h ∧ (evQ (.toInt .u32 (.const (AV.int .u64 (Int.ofNat ((readG 32 false l 0 0 0).1))))) .lf H0 = .ok (AV.int .u32 (Int.ofNat (((readG 32 false l 0 0 0).1) % 4294967296))) ∧ (fun (v : AV) (h' : Hp) => h' = h ∧ v = .tuple [.int .u32 ((fun n => .ofNat (n % 4294967296)) (readG 32 false l 0 0 0).1), .int .i64 (.ofNat (readG 32 false l 0 0 0).2.1), .int .i64 (.ofNat (readG 32 false l 0 0 0).2.2)]) (AV.tuple [(AV.int .u32 (Int.ofNat (((readG 32 false l 0 0 0).1) % 4294967296))), (AV.int .i64 (Int.ofNat ((readG 32 false l 0 0 0).2.1))), (AV.int .i64 (Int.ofNat ((readG 32 false l 0 0 0).2.2)))]) h))) (by kernel_rfl) ?_
  refine ⟨hread _ _ _ _ hb (by omega) rfl, ?_⟩
  refine ⟨u_conv rfl, ?_⟩
  have g1 : ((readG 32 false l 0 0 0).1) % 4294967296 < 4294967296 := Nat.mod_lt _ (by decide)
  exact ⟨rfl, rfl⟩
end Go.Proofs.Ytejiebbbodealaa
end
