import Derived.Test.YtfdbedgmpnkfgaaGreatDoorTBB
import Derived.Test.YtfdbedgmpnkfgaaGreatDoorRows
import Derived.WalkKit
import Derived.ProofKit
import Derived.OpenShut
import Derived.ShutString
import Derived.ChangeOld
import Derived.Below
import Derived.SizedLaws
import Derived.Carry
import Derived.ChangeSlices
namespace Go.Proofs.YtfdbedgmpnkfgaaGreatDoor.topBusy
open Go.ChangeShapes Go.WideShapes Go.ChangeAt Go.RowKit
open Go.ChangeMaps (open_string shut_string)
open Eng
set_option linter.unusedVariables false
set_option linter.unusedSimpArgs false
noncomputable def ctrue1T (n : Nat) : PT := (.tell 22511 1 (.bin .rem (.const (.int .u8 (Int.ofNat (n)))) (.const (.int .u8 (Int.ofNat 9)))) (.int .u8 (Int.ofNat 1)) .leaf)
noncomputable def ctrue1U (n : Nat) : PT := .leaf
theorem ctrue1 {n : Nat} (hn : n < 256) (cn : Nat.beq (n % 9) 1 = true) (W : World) : Calls Tryz.prog 3 #[.int .u8 (Int.ofNat (n)), .bool true] W fun e W' => e = .returned (.bool true) ∧ Below W.heap.size W W' := by
  refine told_pt compDrawn_ok MM_ok (N := 100000) (d := 24) (args := [.int .u8 (Int.ofNat (n)), .bool true]) (ctrue1T n) (by rw [← PS_eq]; kernel_rfl) (all1 (t := ctrue1T) (c := fun n => Nat.beq (n % 9) 1) (N := 256) (by kernel_rfl) (by kernel_rfl) (u := ctrue1U) (by kernel_rfl) (by kernel_rfl) hn cn) ?_
  rw [VRs_cons]; refine ⟨_, _, rfl, by rw [VR_int], ?_⟩
  rw [VRs_cons]; refine ⟨_, _, rfl, by rw [VR_bool], ?_⟩
  rw [VRs_nil]
noncomputable def ctrue7T (n : Nat) : PT := (.tell 22511 1 (.bin .rem (.const (.int .u8 (Int.ofNat (n)))) (.const (.int .u8 (Int.ofNat 9)))) (.int .u8 (Int.ofNat 7)) .leaf)
noncomputable def ctrue7U (n : Nat) : PT := .leaf
theorem ctrue7 {n : Nat} (hn : n < 256) (cn : Nat.beq (n % 9) 7 = true) (W : World) : Calls Tryz.prog 3 #[.int .u8 (Int.ofNat (n)), .bool true] W fun e W' => e = .returned (.bool true) ∧ Below W.heap.size W W' := by
  refine told_pt compDrawn_ok MM_ok (N := 100000) (d := 24) (args := [.int .u8 (Int.ofNat (n)), .bool true]) (ctrue7T n) (by rw [← PS_eq]; kernel_rfl) (all1 (t := ctrue7T) (c := fun n => Nat.beq (n % 9) 7) (N := 256) (by kernel_rfl) (by kernel_rfl) (u := ctrue7U) (by kernel_rfl) (by kernel_rfl) hn cn) ?_
  rw [VRs_cons]; refine ⟨_, _, rfl, by rw [VR_int], ?_⟩
  rw [VRs_cons]; refine ⟨_, _, rfl, by rw [VR_bool], ?_⟩
  rw [VRs_nil]
noncomputable def cfalse4T (n : Nat) : PT := (.tell 22509 1 (.bin .rem (.const (.int .u8 (Int.ofNat (n)))) (.const (.int .u8 (Int.ofNat 9)))) (.int .u8 (Int.ofNat 4)) .leaf)
noncomputable def cfalse4U (n : Nat) : PT := .leaf
theorem cfalse4 {n : Nat} (hn : n < 256) (cn : Nat.beq (n % 9) 4 = true) (W : World) : Calls Tryz.prog 3 #[.int .u8 (Int.ofNat (n)), .bool false] W fun e W' => e = .returned (.bool true) ∧ Below W.heap.size W W' := by
  refine told_pt compDrawn_ok MM_ok (N := 100000) (d := 24) (args := [.int .u8 (Int.ofNat (n)), .bool false]) (cfalse4T n) (by rw [← PS_eq]; kernel_rfl) (all1 (t := cfalse4T) (c := fun n => Nat.beq (n % 9) 4) (N := 256) (by kernel_rfl) (by kernel_rfl) (u := cfalse4U) (by kernel_rfl) (by kernel_rfl) hn cn) ?_
  rw [VRs_cons]; refine ⟨_, _, rfl, by rw [VR_int], ?_⟩
  rw [VRs_cons]; refine ⟨_, _, rfl, by rw [VR_bool], ?_⟩
  rw [VRs_nil]
end Go.Proofs.YtfdbedgmpnkfgaaGreatDoor.topBusy
