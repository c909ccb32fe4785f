import Derived.Test.YtfdbedgmpnkfgaaGreatDoorTBB
import Derived.Test.YtfdbedgmpnkfgaaGreatDoorRows
import Derived.WalkKit
import Derived.ProofKit
import Derived.OpenShut
import Derived.ShutString
import Derived.ChangeOld
import Derived.Below
import Derived.SizedLaws
import Derived.Carry
import Derived.ChangeSlices
namespace Go.Proofs.YtfdbedgmpnkfgaaGreatDoor.topBusy
open Go.ChangeShapes Go.WideShapes Go.ChangeAt Go.RowKit
open Go.ChangeMaps (open_string shut_string)
open Eng
set_option linter.unusedVariables false
set_option linter.unusedSimpArgs false
noncomputable def ctrue0T (n : Nat) : PT := (.tell 22511 1 (.bin .rem (.const (.int .u8 (Int.ofNat (n)))) (.const (.int .u8 (Int.ofNat 9)))) (.int .u8 (Int.ofNat 0)) .leaf)
noncomputable def ctrue0U (n : Nat) : PT := .leaf
theorem ctrue0 {n : Nat} (hn : n < 256) (cn : Nat.beq (n % 9) 0 = true) (W : World) : Calls Tryz.prog 3 #[.int .u8 (Int.ofNat (n)), .bool true] W fun e W' => e = .returned (.bool true) ∧ Below W.heap.size W W' := by
  refine told_pt compDrawn_ok MM_ok (N := 100000) (d := 24) (args := [.int .u8 (Int.ofNat (n)), .bool true]) (ctrue0T n) (by rw [← PS_eq]; kernel_rfl) (all1 (t := ctrue0T) (c := fun n => Nat.beq (n % 9) 0) (N := 256) (by kernel_rfl) (by kernel_rfl) (u := ctrue0U) (by kernel_rfl) (by kernel_rfl) hn cn) ?_
  rw [VRs_cons]; refine ⟨_, _, rfl, by rw [VR_int], ?_⟩
  rw [VRs_cons]; refine ⟨_, _, rfl, by rw [VR_bool], ?_⟩
  rw [VRs_nil]
noncomputable def ctrue6T (n : Nat) : PT := (.tell 22511 1 (.bin .rem (.const (.int .u8 (Int.ofNat (n)))) (.const (.int .u8 (Int.ofNat 9)))) (.int .u8 (Int.ofNat 6)) .leaf)
noncomputable def ctrue6U (n : Nat) : PT := .leaf
theorem ctrue6 {n : Nat} (hn : n < 256) (cn : Nat.beq (n % 9) 6 = true) (W : World) : Calls Tryz.prog 3 #[.int .u8 (Int.ofNat (n)), .bool true] W fun e W' => e = .returned (.bool true) ∧ Below W.heap.size W W' := by
  refine told_pt compDrawn_ok MM_ok (N := 100000) (d := 24) (args := [.int .u8 (Int.ofNat (n)), .bool true]) (ctrue6T n) (by rw [← PS_eq]; kernel_rfl) (all1 (t := ctrue6T) (c := fun n => Nat.beq (n % 9) 6) (N := 256) (by kernel_rfl) (by kernel_rfl) (u := ctrue6U) (by kernel_rfl) (by kernel_rfl) hn cn) ?_
  rw [VRs_cons]; refine ⟨_, _, rfl, by rw [VR_int], ?_⟩
  rw [VRs_cons]; refine ⟨_, _, rfl, by rw [VR_bool], ?_⟩
  rw [VRs_nil]
noncomputable def cfalse3T (n : Nat) : PT := (.tell 22509 1 (.bin .rem (.const (.int .u8 (Int.ofNat (n)))) (.const (.int .u8 (Int.ofNat 9)))) (.int .u8 (Int.ofNat 3)) .leaf)
noncomputable def cfalse3U (n : Nat) : PT := .leaf
theorem cfalse3 {n : Nat} (hn : n < 256) (cn : Nat.beq (n % 9) 3 = true) (W : World) : Calls Tryz.prog 3 #[.int .u8 (Int.ofNat (n)), .bool false] W fun e W' => e = .returned (.bool true) ∧ Below W.heap.size W W' := by
  refine told_pt compDrawn_ok MM_ok (N := 100000) (d := 24) (args := [.int .u8 (Int.ofNat (n)), .bool false]) (cfalse3T n) (by rw [← PS_eq]; kernel_rfl) (all1 (t := cfalse3T) (c := fun n => Nat.beq (n % 9) 3) (N := 256) (by kernel_rfl) (by kernel_rfl) (u := cfalse3U) (by kernel_rfl) (by kernel_rfl) hn cn) ?_
  rw [VRs_cons]; refine ⟨_, _, rfl, by rw [VR_int], ?_⟩
  rw [VRs_cons]; refine ⟨_, _, rfl, by rw [VR_bool], ?_⟩
  rw [VRs_nil]
end Go.Proofs.YtfdbedgmpnkfgaaGreatDoor.topBusy
