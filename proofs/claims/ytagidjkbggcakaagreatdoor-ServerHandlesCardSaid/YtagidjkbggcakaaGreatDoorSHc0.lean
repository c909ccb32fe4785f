import Derived.Test.YtagidjkbggcakaaGreatDoorSHB
import Derived.Test.YtagidjkbggcakaaGreatDoorRows
import Derived.WalkKit
import Derived.ProofKit
import Derived.OpenShut
import Derived.ShutString
import Derived.ChangeOld
import Derived.Below
import Derived.SizedLaws
import Derived.Carry
import Derived.ChangeSlices
namespace Go.Proofs.YtagidjkbggcakaaGreatDoor.serverHandles
open Go.ChangeShapes Go.WideShapes Go.ChangeAt Go.RowKit
open Go.ChangeMaps (open_string shut_string)
open Eng
set_option linter.unusedVariables false
set_option linter.unusedSimpArgs false
theorem c00E : isTrue (evF MM (progS Tryz.prog (compDrawn Tryz.prog)) 100000 24 3 [.int .u64 (Int.ofNat 0)] H0) = true := by rw [← PS_eq]; kernel_rfl
theorem c00 (W : World) : Calls Tryz.prog 3 #[.int .u64 (Int.ofNat 0)] W fun e W' => e = .returned (.bool true) ∧ Below W.heap.size W W' :=
  closed_law compDrawn_ok MM_ok 100000 24 3 W [.int .u64 (Int.ofNat 0)] #[.int .u64 (Int.ofNat 0)] (by rw [VRs_cons]; exact ⟨_, _, rfl, by rw [VR_int], by rw [VRs_nil]⟩) c00E
theorem c01E : isTrue (evF MM (progS Tryz.prog (compDrawn Tryz.prog)) 100000 24 3 [.int .u64 (Int.ofNat 1)] H0) = true := by rw [← PS_eq]; kernel_rfl
theorem c01 (W : World) : Calls Tryz.prog 3 #[.int .u64 (Int.ofNat 1)] W fun e W' => e = .returned (.bool true) ∧ Below W.heap.size W W' :=
  closed_law compDrawn_ok MM_ok 100000 24 3 W [.int .u64 (Int.ofNat 1)] #[.int .u64 (Int.ofNat 1)] (by rw [VRs_cons]; exact ⟨_, _, rfl, by rw [VR_int], by rw [VRs_nil]⟩) c01E
theorem c02E : isTrue (evF MM (progS Tryz.prog (compDrawn Tryz.prog)) 100000 24 3 [.int .u64 (Int.ofNat 2)] H0) = true := by rw [← PS_eq]; kernel_rfl
theorem c02 (W : World) : Calls Tryz.prog 3 #[.int .u64 (Int.ofNat 2)] W fun e W' => e = .returned (.bool true) ∧ Below W.heap.size W W' :=
  closed_law compDrawn_ok MM_ok 100000 24 3 W [.int .u64 (Int.ofNat 2)] #[.int .u64 (Int.ofNat 2)] (by rw [VRs_cons]; exact ⟨_, _, rfl, by rw [VR_int], by rw [VRs_nil]⟩) c02E
theorem c03E : isTrue (evF MM (progS Tryz.prog (compDrawn Tryz.prog)) 100000 24 3 [.int .u64 (Int.ofNat 3)] H0) = true := by rw [← PS_eq]; kernel_rfl
theorem c03 (W : World) : Calls Tryz.prog 3 #[.int .u64 (Int.ofNat 3)] W fun e W' => e = .returned (.bool true) ∧ Below W.heap.size W W' :=
  closed_law compDrawn_ok MM_ok 100000 24 3 W [.int .u64 (Int.ofNat 3)] #[.int .u64 (Int.ofNat 3)] (by rw [VRs_cons]; exact ⟨_, _, rfl, by rw [VR_int], by rw [VRs_nil]⟩) c03E
theorem c04E : isTrue (evF MM (progS Tryz.prog (compDrawn Tryz.prog)) 100000 24 3 [.int .u64 (Int.ofNat 4)] H0) = true := by rw [← PS_eq]; kernel_rfl
theorem c04 (W : World) : Calls Tryz.prog 3 #[.int .u64 (Int.ofNat 4)] W fun e W' => e = .returned (.bool true) ∧ Below W.heap.size W W' :=
  closed_law compDrawn_ok MM_ok 100000 24 3 W [.int .u64 (Int.ofNat 4)] #[.int .u64 (Int.ofNat 4)] (by rw [VRs_cons]; exact ⟨_, _, rfl, by rw [VR_int], by rw [VRs_nil]⟩) c04E
theorem c0 {h : Nat} (hi : h < 5) (W : World) : Calls Tryz.prog 3 #[.int .u64 (.ofNat h)] W fun e W' => e = .returned (.bool true) ∧ Below W.heap.size W W' := by
  match h, hi with
  | 0, _ => exact c00 W
  | 1, _ => exact c01 W
  | 2, _ => exact c02 W
  | 3, _ => exact c03 W
  | 4, _ => exact c04 W
end Go.Proofs.YtagidjkbggcakaaGreatDoor.serverHandles
