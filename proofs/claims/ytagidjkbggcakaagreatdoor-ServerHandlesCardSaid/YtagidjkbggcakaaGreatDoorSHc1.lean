import Derived.Test.YtagidjkbggcakaaGreatDoorSHB
import Derived.Test.YtagidjkbggcakaaGreatDoorRows
import Derived.WalkKit
import Derived.ProofKit
import Derived.OpenShut
import Derived.ShutString
import Derived.ChangeOld
import Derived.Below
import Derived.SizedLaws
import Derived.Carry
import Derived.ChangeSlices
namespace Go.Proofs.YtagidjkbggcakaaGreatDoor.serverHandles
open Go.ChangeShapes Go.WideShapes Go.ChangeAt Go.RowKit
open Go.ChangeMaps (open_string shut_string)
open Eng
set_option linter.unusedVariables false
set_option linter.unusedSimpArgs false
theorem c1 {h : Nat} (lo : 5 ≤ h) (hi : h < 128) (W : World) : Calls Tryz.prog 3 #[.int .u64 (Int.ofNat (h))] W fun e W' => e = .returned (.bool true) ∧ Below W.heap.size W W' := by
  have q0 : qB .u64 .u64 .geq h 2 (.bool true) := p_geqT (by omega)
  have q1 : qB .u64 .u64 .leq h 4 (.bool false) := p_leqF (by omega)
  have q2 : qB .u64 .u64 .geq h 128 (.bool false) := p_geqF (by omega)
  have q3 : qC .u8 .u64 h h := p_conv rfl (show h % 256 = h by omega)
  have q4 : qN .u8 .u8 .and h 127 h := p_and rfl (show h < 256 by omega) (show 127 < 256 by omega) (and_mask' (n := 7) rfl (show h % 2 ^ 7 = h by omega))
  have q5 : qC .u64 .u8 h h := p_conv rfl (show h % 18446744073709551616 = h by omega)
  have q6 : qN .u64 .i64 .shl h 0 h := p_shl rfl (show h * 2 ^ 0 % 18446744073709551616 = h by omega)
  have q7 : qN .u64 .u64 .or 0 h h := p_or rfl (show 0 < 18446744073709551616 by omega) (show h < 18446744073709551616 by omega) ((Nat.zero_or _).trans (show h = h by omega))
  have q8 : qN .u8 .u8 .and h 128 0 := p_and rfl (show h < 256 by omega) (show 128 < 256 by omega) ((and128 (by omega)).trans (show h / 128 * 128 = 0 by omega))
  have q9 : qE false .u64 h 2 false := p_eqF (by omega)
  have q10 : qE false .u64 h 3 false := p_eqF (by omega)
  have q11 : qE false .u64 h 4 false := p_eqF (by omega)
  refine told_lawX compDrawn_ok (MW := MWG) MM_ok MW_ok (N := 100000) (d := 24) (args := [.int .u64 (Int.ofNat (h))]) (.tell 16595 (.bool true) (.tell 5417 (.bool true) (.tell 2000 (.bool true) (.tell 1523 (.bool true) (.tell 43 (.bool true) (.tell 1701 (.bool true) (.tell 1517 (.bool true) (.tell 5305 (.bool true) (.tell 22056 (.bool true) (.tell 2 (.bool false) (.agn 170 (.tell 8 (.bool false) (.tell 2 (tI .u8 h) (.tell 748 (tI .u8 h) (.tell 0 (tI .u64 h) (.tell 1 (tI .u64 h) (.tell 0 (tI .u64 h) (.tell 2 (tI .u8 0) (.tell 581 (.bool false) (.tell 0 (.bool false) (.tell 0 (.bool false) (.tell 0 (.bool false) (.agn 413 (.agn 45 (.tell 1528 (.bool true) .fin))))))))))))))))))))))))) (p := evQ (wayQ (.bool true)) .lf H0 = .ok (.bool true) ∧ evQ (wayQ (.bool true)) .lf H0 = .ok (.bool true) ∧ evQ (wayQ (.bool true)) .lf H0 = .ok (.bool true) ∧ evQ (wayQ (.bool true)) .lf H0 = .ok (.bool true) ∧ evQ (wayQ (.bool true)) .lf H0 = .ok (.bool true) ∧ evQ (wayQ (.bool true)) .lf H0 = .ok (.bool true) ∧ evQ (wayQ (.bool true)) .lf H0 = .ok (.bool true) ∧ evQ (wayQ (.bool true)) .lf H0 = .ok (.bool true) ∧ qB .u64 .u64 .geq h 2 (.bool true) ∧ qB .u64 .u64 .leq h 4 (.bool false) ∧ qI 0 ∧ qI 0 ∧ ([103, 101, 116] : List Nat) = [103, 101, 116] ∧ qI h ∧ qB .u64 .u64 .geq h 128 (.bool false) ∧ qC .u8 .u64 h h ∧ qN .u8 .u8 .and h 127 h ∧ qC .u64 .u8 h h ∧ qN .u64 .i64 .shl h 0 h ∧ qN .u64 .u64 .or 0 h h ∧ qN .u8 .u8 .and h 128 0 ∧ evQ (wayQ (.bool false)) .lf H0 = .ok (.bool false) ∧ qE false .u64 h 2 false ∧ qE false .u64 h 3 false ∧ qE false .u64 h 4 false ∧ qI 0 ∧ qI 9 ∧ qI 0 ∧ qI 4 ∧ qI 0 ∧ qI h ∧ ([103, 101, 116] : List Nat) = [103, 101, 116] ∧ qI 0 ∧ qI 0 ∧ qI 0 ∧ qI 0 ∧ qI 4 ∧ qI 0 ∧ qI h ∧ ([103, 101, 116] : List Nat) = [103, 101, 116] ∧ qI 0 ∧ qI 0 ∧ qI 0 ∧ qI 9 ∧ qI 0 ∧ qI 0 ∧ evQ (wayQ (.bool true)) .lf H0 = .ok (.bool true) ∧ AV.bool true = .bool true) (by rw [← PS_eq]; kernel_rfl) ⟨t_wayQ, t_wayQ, t_wayQ, t_wayQ, t_wayQ, t_wayQ, t_wayQ, t_wayQ, q0, q1, rfl, rfl, rfl, rfl, q2, q3, q4, q5, q6, q7, q8, t_wayQ, q9, q10, q11, rfl, rfl, rfl, rfl, rfl, rfl, rfl, rfl, rfl, rfl, rfl, rfl, rfl, rfl, rfl, rfl, rfl, rfl, rfl, rfl, rfl, t_wayQ, rfl⟩ ?_
  rw [VRs_cons]; refine ⟨_, _, rfl, by rw [VR_int], ?_⟩
  rw [VRs_nil]
end Go.Proofs.YtagidjkbggcakaaGreatDoor.serverHandles
