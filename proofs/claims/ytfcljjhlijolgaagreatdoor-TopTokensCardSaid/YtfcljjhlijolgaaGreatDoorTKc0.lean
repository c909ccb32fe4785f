import Derived.Test.YtfcljjhlijolgaaGreatDoorTKB
import Derived.Test.YtfcljjhlijolgaaGreatDoorRows
import Derived.WalkKit
import Derived.ProofKit
import Derived.OpenShut
import Derived.ShutString
import Derived.ChangeOld
import Derived.Below
import Derived.SizedLaws
import Derived.Carry
import Derived.ChangeSlices
namespace Go.Proofs.YtfcljjhlijolgaaGreatDoor.topTokens
open Go.ChangeShapes Go.WideShapes Go.ChangeAt Go.RowKit
open Go.ChangeMaps (open_string shut_string)
open Eng
set_option linter.unusedVariables false
set_option linter.unusedSimpArgs false
set_option maxRecDepth 100000 in
theorem c0 {x y : Nat} (W : World) : Calls Tryz.prog 9 #[.int .u64 (Int.ofNat 0), .int .u8 (Int.ofNat (x)), .int .u8 (Int.ofNat (y))] W fun e W' => e = .returned (.bool true) ∧ Below W.heap.size W W' := by
  refine told_lawX compDrawn_ok (MW := MW0) MM_ok MW_ok (N := 100000) (d := 26) (args := [.int .u64 (Int.ofNat 0), .int .u8 (Int.ofNat (x)), .int .u8 (Int.ofNat (y))]) .fin (p := AV.bool true = .bool true) (by rw [← PS_eq]; kernel_rfl) rfl ?_
  rw [VRs_cons]; refine ⟨_, _, rfl, by rw [VR_int], ?_⟩
  rw [VRs_cons]; refine ⟨_, _, rfl, by rw [VR_int], ?_⟩
  rw [VRs_cons]; refine ⟨_, _, rfl, by rw [VR_int], ?_⟩
  rw [VRs_nil]
end Go.Proofs.YtfcljjhlijolgaaGreatDoor.topTokens
