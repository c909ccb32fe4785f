import Derived.Test.YtagidjkbggcakaaGreatDoorSHB
import Derived.Test.YtagidjkbggcakaaGreatDoorRows
import Derived.WalkKit
import Derived.ProofKit
import Derived.OpenShut
import Derived.ShutString
import Derived.ChangeOld
import Derived.Below
import Derived.SizedLaws
import Derived.Carry
import Derived.ChangeSlices
namespace Go.Proofs.YtagidjkbggcakaaGreatDoor.serverHandles
open Go.ChangeShapes Go.WideShapes Go.ChangeAt Go.RowKit
open Go.ChangeMaps (open_string shut_string)
open Eng
set_option linter.unusedVariables false
set_option linter.unusedSimpArgs false
theorem c3 {h : Nat} (lo : 16384 ≤ h) (hi : h < 2097152) (W : World) : Calls Tryz.prog 3 #[.int .u64 (Int.ofNat (h))] W fun e W' => e = .returned (.bool true) ∧ Below W.heap.size W W' := by
  have q0 : qB .u64 .u64 .geq h 2 (.bool true) := p_geqT (by omega)
  have q1 : qB .u64 .u64 .leq h 4 (.bool false) := p_leqF (by omega)
  have q2 : qB .u64 .u64 .geq h 128 (.bool true) := p_geqT (by omega)
  have q3 : qC .u8 .u64 h (h % 256) := p_conv rfl (show h % 256 = (h % 256) by omega)
  have q4 : qN .u8 .u8 .or (h % 256) 128 (h % 128 + 128) := p_or rfl (show (h % 256) < 256 by omega) (show 128 < 256 by omega) ((or128 (by omega)).trans (show (h % 256) % 128 + 128 = (h % 128 + 128) by omega))
  have q5 : qN .u64 .u64 .shr h 7 (h / 128) := p_shr rfl (show h < 18446744073709551616 by omega) (show h / 2 ^ 7 = (h / 128) by omega)
  have q6 : qB .u64 .u64 .geq (h / 128) 128 (.bool true) := p_geqT (by omega)
  have q7 : qC .u8 .u64 (h / 128) (h / 128 % 256) := p_conv rfl (show (h / 128) % 256 = (h / 128 % 256) by omega)
  have q8 : qN .u8 .u8 .or (h / 128 % 256) 128 (h / 128 % 128 + 128) := p_or rfl (show (h / 128 % 256) < 256 by omega) (show 128 < 256 by omega) ((or128 (by omega)).trans (show (h / 128 % 256) % 128 + 128 = (h / 128 % 128 + 128) by omega))
  have q9 : qN .u64 .u64 .shr (h / 128) 7 (h / 16384) := p_shr rfl (show (h / 128) < 18446744073709551616 by omega) (show (h / 128) / 2 ^ 7 = (h / 16384) by omega)
  have q10 : qB .u64 .u64 .geq (h / 16384) 128 (.bool false) := p_geqF (by omega)
  have q11 : qC .u8 .u64 (h / 16384) (h / 16384) := p_conv rfl (show (h / 16384) % 256 = (h / 16384) by omega)
  have q12 : qN .u8 .u8 .and (h % 128 + 128) 127 (h % 128) := p_and rfl (show (h % 128 + 128) < 256 by omega) (show 127 < 256 by omega) (and_mask' (n := 7) rfl (show (h % 128 + 128) % 2 ^ 7 = (h % 128) by omega))
  have q13 : qC .u64 .u8 (h % 128) (h % 128) := p_conv rfl (show (h % 128) % 18446744073709551616 = (h % 128) by omega)
  have q14 : qN .u64 .i64 .shl (h % 128) 0 (h % 128) := p_shl rfl (show (h % 128) * 2 ^ 0 % 18446744073709551616 = (h % 128) by omega)
  have q15 : qN .u64 .u64 .or 0 (h % 128) (h % 128) := p_or rfl (show 0 < 18446744073709551616 by omega) (show (h % 128) < 18446744073709551616 by omega) ((Nat.zero_or _).trans (show (h % 128) = (h % 128) by omega))
  have q16 : qN .u8 .u8 .and (h % 128 + 128) 128 128 := p_and rfl (show (h % 128 + 128) < 256 by omega) (show 128 < 256 by omega) ((and128 (by omega)).trans (show (h % 128 + 128) / 128 * 128 = 128 by omega))
  have q17 : qN .u8 .u8 .and (h / 128 % 128 + 128) 127 (h / 128 % 128) := p_and rfl (show (h / 128 % 128 + 128) < 256 by omega) (show 127 < 256 by omega) (and_mask' (n := 7) rfl (show (h / 128 % 128 + 128) % 2 ^ 7 = (h / 128 % 128) by omega))
  have q18 : qC .u64 .u8 (h / 128 % 128) (h / 128 % 128) := p_conv rfl (show (h / 128 % 128) % 18446744073709551616 = (h / 128 % 128) by omega)
  have q19 : qN .u64 .i64 .shl (h / 128 % 128) 7 (h / 128 % 128 * 128) := p_shl rfl (show (h / 128 % 128) * 2 ^ 7 % 18446744073709551616 = (h / 128 % 128 * 128) by omega)
  have q20 : qN .u64 .u64 .or (h % 128) (h / 128 % 128 * 128) (h % 16384) := p_or rfl (show (h % 128) < 18446744073709551616 by omega) (show (h / 128 % 128 * 128) < 18446744073709551616 by omega) ((or_add' (n := 7) (show (h % 128) < 2 ^ 7 by omega) (show (h / 128 % 128 * 128) % 2 ^ 7 = 0 by omega)).trans (show (h % 128) + (h / 128 % 128 * 128) = (h % 16384) by omega))
  have q21 : qN .u8 .u8 .and (h / 128 % 128 + 128) 128 128 := p_and rfl (show (h / 128 % 128 + 128) < 256 by omega) (show 128 < 256 by omega) ((and128 (by omega)).trans (show (h / 128 % 128 + 128) / 128 * 128 = 128 by omega))
  have q22 : qN .u8 .u8 .and (h / 16384) 127 (h / 16384) := p_and rfl (show (h / 16384) < 256 by omega) (show 127 < 256 by omega) (and_mask' (n := 7) rfl (show (h / 16384) % 2 ^ 7 = (h / 16384) by omega))
  have q23 : qC .u64 .u8 (h / 16384) (h / 16384) := p_conv rfl (show (h / 16384) % 18446744073709551616 = (h / 16384) by omega)
  have q24 : qN .u64 .i64 .shl (h / 16384) 14 (h / 16384 % 128 * 16384) := p_shl rfl (show (h / 16384) * 2 ^ 14 % 18446744073709551616 = (h / 16384 % 128 * 16384) by omega)
  have q25 : qN .u64 .u64 .or (h % 16384) (h / 16384 % 128 * 16384) h := p_or rfl (show (h % 16384) < 18446744073709551616 by omega) (show (h / 16384 % 128 * 16384) < 18446744073709551616 by omega) ((or_add' (n := 14) (show (h % 16384) < 2 ^ 14 by omega) (show (h / 16384 % 128 * 16384) % 2 ^ 14 = 0 by omega)).trans (show (h % 16384) + (h / 16384 % 128 * 16384) = h by omega))
  have q26 : qN .u8 .u8 .and (h / 16384) 128 0 := p_and rfl (show (h / 16384) < 256 by omega) (show 128 < 256 by omega) ((and128 (by omega)).trans (show (h / 16384) / 128 * 128 = 0 by omega))
  have q27 : qE false .u64 h 2 false := p_eqF (by omega)
  have q28 : qE false .u64 h 3 false := p_eqF (by omega)
  have q29 : qE false .u64 h 4 false := p_eqF (by omega)
  refine told_lawX compDrawn_ok (MW := MWG) MM_ok MW_ok (N := 100000) (d := 24) (args := [.int .u64 (Int.ofNat (h))]) (.tell 16595 (.bool true) (.tell 5417 (.bool true) (.tell 2000 (.bool true) (.tell 1523 (.bool true) (.tell 43 (.bool true) (.tell 1701 (.bool true) (.tell 1517 (.bool true) (.tell 5305 (.bool true) (.tell 22056 (.bool true) (.tell 2 (.bool false) (.agn 170 (.tell 8 (.bool true) (.tell 2 (tI .u8 (h % 256)) (.tell 0 (tI .u8 (h % 128 + 128)) (.tell 4 (tI .u64 (h / 128)) (.tell 2 (.bool true) (.tell 2 (tI .u8 (h / 128 % 256)) (.tell 0 (tI .u8 (h / 128 % 128 + 128)) (.tell 4 (tI .u64 (h / 16384)) (.tell 2 (.bool false) (.tell 2 (tI .u8 (h / 16384)) (.tell 748 (tI .u8 (h % 128)) (.tell 0 (tI .u64 (h % 128)) (.tell 1 (tI .u64 (h % 128)) (.tell 0 (tI .u64 (h % 128)) (.tell 2 (tI .u8 128) (.tell 26 (tI .u8 (h / 128 % 128)) (.tell 0 (tI .u64 (h / 128 % 128)) (.tell 1 (tI .u64 (h / 128 % 128 * 128)) (.tell 0 (tI .u64 (h % 16384)) (.tell 2 (tI .u8 128) (.tell 26 (tI .u8 (h / 16384)) (.tell 0 (tI .u64 (h / 16384)) (.tell 1 (tI .u64 (h / 16384 % 128 * 16384)) (.tell 0 (tI .u64 h) (.tell 2 (tI .u8 0) (.tell 581 (.bool false) (.tell 0 (.bool false) (.tell 0 (.bool false) (.tell 0 (.bool false) (.agn 413 (.agn 45 (.tell 1528 (.bool true) .fin))))))))))))))))))))))))))))))))))))))))))) (p := evQ (wayQ (.bool true)) .lf H0 = .ok (.bool true) ∧ evQ (wayQ (.bool true)) .lf H0 = .ok (.bool true) ∧ evQ (wayQ (.bool true)) .lf H0 = .ok (.bool true) ∧ evQ (wayQ (.bool true)) .lf H0 = .ok (.bool true) ∧ evQ (wayQ (.bool true)) .lf H0 = .ok (.bool true) ∧ evQ (wayQ (.bool true)) .lf H0 = .ok (.bool true) ∧ evQ (wayQ (.bool true)) .lf H0 = .ok (.bool true) ∧ evQ (wayQ (.bool true)) .lf H0 = .ok (.bool true) ∧ qB .u64 .u64 .geq h 2 (.bool true) ∧ qB .u64 .u64 .leq h 4 (.bool false) ∧ qI 0 ∧ qI 0 ∧ ([103, 101, 116] : List Nat) = [103, 101, 116] ∧ qI h ∧ qB .u64 .u64 .geq h 128 (.bool true) ∧ qC .u8 .u64 h (h % 256) ∧ qN .u8 .u8 .or (h % 256) 128 (h % 128 + 128) ∧ qN .u64 .u64 .shr h 7 (h / 128) ∧ qB .u64 .u64 .geq (h / 128) 128 (.bool true) ∧ qC .u8 .u64 (h / 128) (h / 128 % 256) ∧ qN .u8 .u8 .or (h / 128 % 256) 128 (h / 128 % 128 + 128) ∧ qN .u64 .u64 .shr (h / 128) 7 (h / 16384) ∧ qB .u64 .u64 .geq (h / 16384) 128 (.bool false) ∧ qC .u8 .u64 (h / 16384) (h / 16384) ∧ qN .u8 .u8 .and (h % 128 + 128) 127 (h % 128) ∧ qC .u64 .u8 (h % 128) (h % 128) ∧ qN .u64 .i64 .shl (h % 128) 0 (h % 128) ∧ qN .u64 .u64 .or 0 (h % 128) (h % 128) ∧ qN .u8 .u8 .and (h % 128 + 128) 128 128 ∧ qN .u8 .u8 .and (h / 128 % 128 + 128) 127 (h / 128 % 128) ∧ qC .u64 .u8 (h / 128 % 128) (h / 128 % 128) ∧ qN .u64 .i64 .shl (h / 128 % 128) 7 (h / 128 % 128 * 128) ∧ qN .u64 .u64 .or (h % 128) (h / 128 % 128 * 128) (h % 16384) ∧ qN .u8 .u8 .and (h / 128 % 128 + 128) 128 128 ∧ qN .u8 .u8 .and (h / 16384) 127 (h / 16384) ∧ qC .u64 .u8 (h / 16384) (h / 16384) ∧ qN .u64 .i64 .shl (h / 16384) 14 (h / 16384 % 128 * 16384) ∧ qN .u64 .u64 .or (h % 16384) (h / 16384 % 128 * 16384) h ∧ qN .u8 .u8 .and (h / 16384) 128 0 ∧ evQ (wayQ (.bool false)) .lf H0 = .ok (.bool false) ∧ qE false .u64 h 2 false ∧ qE false .u64 h 3 false ∧ qE false .u64 h 4 false ∧ qI 0 ∧ qI 9 ∧ qI 0 ∧ qI 4 ∧ qI 0 ∧ qI h ∧ ([103, 101, 116] : List Nat) = [103, 101, 116] ∧ qI 0 ∧ qI 0 ∧ qI 0 ∧ qI 0 ∧ qI 4 ∧ qI 0 ∧ qI h ∧ ([103, 101, 116] : List Nat) = [103, 101, 116] ∧ qI 0 ∧ qI 0 ∧ qI 0 ∧ qI 9 ∧ qI 0 ∧ qI 0 ∧ evQ (wayQ (.bool true)) .lf H0 = .ok (.bool true) ∧ AV.bool true = .bool true) (by rw [← PS_eq]; kernel_rfl) ⟨t_wayQ, t_wayQ, t_wayQ, t_wayQ, t_wayQ, t_wayQ, t_wayQ, t_wayQ, q0, q1, rfl, rfl, rfl, rfl, q2, q3, q4, q5, q6, q7, q8, q9, q10, q11, q12, q13, q14, q15, q16, q17, q18, q19, q20, q21, q22, q23, q24, q25, q26, t_wayQ, q27, q28, q29, rfl, rfl, rfl, rfl, rfl, rfl, rfl, rfl, rfl, rfl, rfl, rfl, rfl, rfl, rfl, rfl, rfl, rfl, rfl, rfl, rfl, t_wayQ, rfl⟩ ?_
  rw [VRs_cons]; refine ⟨_, _, rfl, by rw [VR_int], ?_⟩
  rw [VRs_nil]
end Go.Proofs.YtagidjkbggcakaaGreatDoor.serverHandles
