import Derived.Test.YtfcljjhlijolgaaGreatDoorTRB
import Derived.Test.YtfcljjhlijolgaaGreatDoorRows
import Derived.WalkKit
import Derived.ProofKit
import Derived.OpenShut
import Derived.ShutString
import Derived.ChangeOld
import Derived.Below
import Derived.SizedLaws
import Derived.Carry
import Derived.ChangeSlices
namespace Go.Proofs.YtfcljjhlijolgaaGreatDoor.topReads
open Go.ChangeShapes Go.WideShapes Go.ChangeAt Go.RowKit
open Go.ChangeMaps (open_string shut_string)
open Eng
set_option linter.unusedVariables false
set_option linter.unusedSimpArgs false
set_option maxRecDepth 100000 in
theorem c00 {n x : Nat} (n1 : n < 256) (cn : n % 6 = 0) (x1 : 0 ≤ x) (x2 : x < 128) (W : World) : Calls Tryz.prog 3 #[.int .u8 (Int.ofNat (n)), .int .u8 (Int.ofNat (x))] W fun e W' => e = .returned (.bool true) ∧ Below W.heap.size W W' := by
  have q0 : qC .u64 .u8 x x := p_conv rfl (show x % 18446744073709551616 = x by omega)
  have q1 : qB .u64 .u64 .geq x 128 (.bool false) := p_geqF (by omega)
  have q2 : qC .u8 .u64 x x := p_conv rfl (show x % 256 = x by omega)
  have q3 : qN .u8 .u8 .and x 127 x := p_and rfl (show x < 256 by omega) (show 127 < 256 by omega) (and_mask' (n := 7) rfl (show x % 2 ^ 7 = x by omega))
  have q4 : qN .u64 .i64 .shl x 0 x := p_shl rfl (show x * 2 ^ 0 % 18446744073709551616 = x by omega)
  have q5 : qN .u64 .u64 .or 0 x x := p_or rfl (show 0 < 18446744073709551616 by omega) (show x < 18446744073709551616 by omega) ((Nat.zero_or _).trans (show x = x by omega))
  have q6 : qN .u8 .u8 .and x 128 0 := p_and rfl (show x < 256 by omega) (show 128 < 256 by omega) ((and128 (by omega)).trans (show x / 128 * 128 = 0 by omega))
  have q7 : qB .u64 .u64 .gtr x 4294967295 (.bool false) := p_gtrF (by omega)
  have q8 : qN .u64 .u64 .and x 4294967295 x := p_and rfl (show x < 18446744073709551616 by omega) (show 4294967295 < 18446744073709551616 by omega) (and_mask' (n := 32) rfl (show x % 2 ^ 32 = x by omega))
  have q9 : qN .u64 .u64 .add x 0 x := p_add rfl (show (x + 0) % 18446744073709551616 = x by omega)
  have q10 : qB .u64 .u64 .lss x 65536 (.bool true) := p_lssT (by omega)
  have q11 : qC .i64 .u64 x x := p_convI (by omega)
  have q12 : qB .i64 .i64 .geq x 65536 (.bool false) := p_geqF (by omega)
  have q13 : qB .i64 .i64 .lss x 0 (.bool false) := p_lssF (by omega)
  have q14 : qN .i64 .i64 .sub 65536 x (65536 - (x)) := p_subI (by omega) (by omega) (show 65536 - x = (65536 - (x)) by omega)
  have q15 : qB .i64 .i64 .lss 1 (65536 - (x)) (.bool true) := p_lssT (by omega)
  have q16 : qN .i64 .i64 .add x 1 (x + 1) := p_addI (by omega) (show x + 1 = (x + 1) by omega)
  have q17 : qB .i64 .i64 .lss x (x + 1) (.bool true) := p_lssT (by omega)
  have q18 : evQ (.sliceSl 1 (.const (.slice 671 0 65536 65536 1 true)) (some (.const (.int .i64 (Int.ofNat (x))))) (some (.const (.int .i64 (Int.ofNat (x + 1))))) none) .lf H0 = .ok (.slice 671 (x) 1 (65536 - (x)) 1 true) := p_slice (by omega) (by omega) (by omega) (by omega) (by omega)
  have q19 : x < 65536 := by omega
  have q20 : nth? (memZ) x = some (.int .u8 (Int.ofNat 0)) := nth_memZ (by omega)
  have q21 : qB .u64 .u64 .leq x 65536 (.bool true) := p_leqT (by omega)
  have q22 : qN .u64 .u64 .sub 65536 x (65536 - (x)) := p_sub rfl (show 65536 < 18446744073709551616 by omega) (by omega) (show 65536 - x = (65536 - (x)) by omega)
  have q23 : qB .u64 .u64 .leq 1 (65536 - (x)) (.bool true) := p_leqT (by omega)
  have q24 : qN .u64 .u64 .add x 1 (x + 1) := p_add rfl (show (x + 1) % 18446744073709551616 = (x + 1) by omega)
  have q25 : evQ (.sliceSl 1 (.const (.slice 671 0 65536 65536 1 true)) (some (.const (.int .u64 (Int.ofNat (x))))) (some (.const (.int .u64 (Int.ofNat (x + 1))))) none) .lf H0 = .ok (.slice 671 (x) 1 (65536 - (x)) 1 true) := p_slice (by omega) (by omega) (by omega) (by omega) (by omega)
  have q26 : qN .u8 .u8 .rem n 6 0 := p_rem rfl (by omega) (show n % 6 = 0 by omega)
  have q27 : nth? (setA (memZ) x (.int .u8 (Int.ofNat 200))) x = some (.int .u8 (Int.ofNat 200)) := nth_setA (by omega)
  refine told_lawX compDrawn_ok (MW := MW0) MM_ok MW_ok (N := 100000) (d := 26) (args := [.int .u8 (Int.ofNat (n)), .int .u8 (Int.ofNat (x))]) (.tell 22507 (tI .u64 x) (.tell 248 (.bool false) (.tell 2 (tI .u8 x) (.tell 1134 (tI .u8 x) (.tell 0 (tI .u64 x) (.tell 1 (tI .u64 x) (.tell 0 (tI .u64 x) (.tell 2 (tI .u8 0) (.tell 783 (.bool false) (.tell 482 (.bool false) (.tell 448 (tI .u64 x) (.agn 775 (.tell 1077 (tI .u64 x) (.tell 3 (tI .u64 x) (.agn 1 (.tell 10 (.bool true) (.tell 9 (tI .i64 x) (.agn 2 (.agn 12 (.tell 28 (.bool false) (.tell 4 (.bool false) (.tell 3 (tI .i64 (65536 - (x))) (.tell 0 (.bool true) (.tell 3 (tI .i64 (x + 1)) (.tell 13 (.bool true) (.tell 6 (.slice 671 (x) 1 (65536 - (x)) 1 true) (.goal 1 (.agn 6 (.tell 0 (.int .u8 (Int.ofNat 0)) (.agn 39 (.tell 24 (tI .u64 x) (.tell 2 (tI .u64 x) (.tell 17 (.bool true) (.tell 6 (tI .u64 (65536 - (x))) (.tell 0 (.bool true) (.tell 9 (tI .u64 (x + 1)) (.tell 0 (.slice 671 (x) 1 (65536 - (x)) 1 true) (.agn 22 (.tell 1417 (tI .u8 0) (.tell 10 (tI .u64 x) (.tell 248 (.bool false) (.tell 2 (tI .u8 x) (.tell 1092 (tI .u8 x) (.tell 0 (tI .u64 x) (.tell 1 (tI .u64 x) (.tell 0 (tI .u64 x) (.tell 2 (tI .u8 0) (.tell 660 (.bool false) (.tell 497 (.bool false) (.tell 463 (tI .u64 x) (.agn 2786 (.agn 630 (.tell 36 (tI .u64 x) (.tell 2 (tI .u64 x) (.tell 17 (.bool true) (.tell 6 (tI .u64 (65536 - (x))) (.tell 0 (.bool true) (.tell 9 (tI .u64 (x + 1)) (.tell 0 (.slice 671 (x) 1 (65536 - (x)) 1 true) (.agn 21 (.tell 0 (.int .u8 (Int.ofNat 200)) .fin))))))))))))))))))))))))))))))))))))))))))))))))))))))))))))) (p := qC .u64 .u8 x x ∧ qB .u64 .u64 .geq x 128 (.bool false) ∧ qC .u8 .u64 x x ∧ qN .u8 .u8 .and x 127 x ∧ qC .u64 .u8 x x ∧ qN .u64 .i64 .shl x 0 x ∧ qN .u64 .u64 .or 0 x x ∧ qN .u8 .u8 .and x 128 0 ∧ qB .u64 .u64 .gtr x 4294967295 (.bool false) ∧ qB .u64 .u64 .gtr x 4294967295 (.bool false) ∧ qN .u64 .u64 .and x 4294967295 x ∧ qI x ∧ qI 0 ∧ qN .u64 .u64 .and x 4294967295 x ∧ qN .u64 .u64 .add x 0 x ∧ qI x ∧ Int.ofNat (x) = wrapA .u64 (Int.add (Int.ofNat (x)) (Int.ofNat 0)) ∧ qI 0 ∧ qI 0 ∧ Int.ofNat (x) = wrapA .u64 (Int.ofNat (Nat.land (toU .u64 (Int.ofNat (x))) (toU .u64 (Int.ofNat 4294967295)))) ∧ qI x ∧ qB .u64 .u64 .lss x 65536 (.bool true) ∧ qC .i64 .u64 x x ∧ qI 58 ∧ Int.ofNat (x) = wrapA .i64 (Int.ofNat (x)) ∧ qI x ∧ Int.ofNat (x) = wrapA .i64 (Int.ofNat (x)) ∧ qI x ∧ qB .i64 .i64 .geq x 65536 (.bool false) ∧ qB .i64 .i64 .lss x 0 (.bool false) ∧ qN .i64 .i64 .sub 65536 x (65536 - (x)) ∧ qB .i64 .i64 .lss 1 (65536 - (x)) (.bool true) ∧ qN .i64 .i64 .add x 1 (x + 1) ∧ qB .i64 .i64 .lss x (x + 1) (.bool true) ∧ evQ (.sliceSl 1 (.const (.slice 671 0 65536 65536 1 true)) (some (.const (.int .i64 (Int.ofNat (x))))) (some (.const (.int .i64 (Int.ofNat (x + 1))))) none) .lf H0 = .ok (.slice 671 (x) 1 (65536 - (x)) 1 true) ∧ evQ (.sliceSl 1 (.const (.slice 671 0 65536 65536 1 true)) (some (.const (.int .i64 (Int.ofNat (x))))) (some (.const (.int .i64 (Int.ofNat (x + 1))))) none) .lf H0 = .ok (.slice 671 (x) 1 (65536 - (x)) 1 true) ∧ qI (x + 1) ∧ qI x ∧ x < 65536 ∧ nth? (memZ) x = some (.int .u8 (Int.ofNat 0)) ∧ qI 200 ∧ qI 0 ∧ qI x ∧ qI 58 ∧ qN .u64 .u64 .and x 4294967295 x ∧ qN .u64 .u64 .add x 0 x ∧ qB .u64 .u64 .leq x 65536 (.bool true) ∧ qN .u64 .u64 .sub 65536 x (65536 - (x)) ∧ qB .u64 .u64 .leq 1 (65536 - (x)) (.bool true) ∧ qN .u64 .u64 .add x 1 (x + 1) ∧ evQ (.sliceSl 1 (.const (.slice 671 0 65536 65536 1 true)) (some (.const (.int .u64 (Int.ofNat (x))))) (some (.const (.int .u64 (Int.ofNat (x + 1))))) none) .lf H0 = .ok (.slice 671 (x) 1 (65536 - (x)) 1 true) ∧ x < 65536 ∧ qN .u8 .u8 .rem n 6 0 ∧ qC .u64 .u8 x x ∧ qB .u64 .u64 .geq x 128 (.bool false) ∧ qC .u8 .u64 x x ∧ qN .u8 .u8 .and x 127 x ∧ qC .u64 .u8 x x ∧ qN .u64 .i64 .shl x 0 x ∧ qN .u64 .u64 .or 0 x x ∧ qN .u8 .u8 .and x 128 0 ∧ qB .u64 .u64 .gtr x 4294967295 (.bool false) ∧ qB .u64 .u64 .gtr x 4294967295 (.bool false) ∧ qN .u64 .u64 .and x 4294967295 x ∧ qI x ∧ qI 0 ∧ qI 0 ∧ qI x ∧ qI 45 ∧ qN .u64 .u64 .and x 4294967295 x ∧ qN .u64 .u64 .add x 0 x ∧ qB .u64 .u64 .leq x 65536 (.bool true) ∧ qN .u64 .u64 .sub 65536 x (65536 - (x)) ∧ qB .u64 .u64 .leq 1 (65536 - (x)) (.bool true) ∧ qN .u64 .u64 .add x 1 (x + 1) ∧ evQ (.sliceSl 1 (.const (.slice 671 0 65536 65536 1 true)) (some (.const (.int .u64 (Int.ofNat (x))))) (some (.const (.int .u64 (Int.ofNat (x + 1))))) none) .lf H0 = .ok (.slice 671 (x) 1 (65536 - (x)) 1 true) ∧ nth? (setA (memZ) x (.int .u8 (Int.ofNat 200))) x = some (.int .u8 (Int.ofNat 200)) ∧ AV.bool true = .bool true) (by rw [← PS_eq]; kernel_rfl) ⟨q0, q1, q2, q3, q0, q4, q5, q6, q7, q7, q8, rfl, rfl, q8, q9, rfl, j_of q9 rfl, rfl, rfl, j_of q8 rfl, rfl, q10, q11, rfl, j_of q11 rfl, rfl, j_of q11 rfl, rfl, q12, q13, q14, q15, q16, q17, q18, q18, rfl, rfl, q19, q20, rfl, rfl, rfl, rfl, q8, q9, q21, q22, q23, q24, q25, q19, q26, q0, q1, q2, q3, q0, q4, q5, q6, q7, q7, q8, rfl, rfl, rfl, rfl, rfl, q8, q9, q21, q22, q23, q24, q25, q27, rfl⟩ ?_
  rw [VRs_cons]; refine ⟨_, _, rfl, by rw [VR_int], ?_⟩
  rw [VRs_cons]; refine ⟨_, _, rfl, by rw [VR_int], ?_⟩
  rw [VRs_nil]
end Go.Proofs.YtfcljjhlijolgaaGreatDoor.topReads
