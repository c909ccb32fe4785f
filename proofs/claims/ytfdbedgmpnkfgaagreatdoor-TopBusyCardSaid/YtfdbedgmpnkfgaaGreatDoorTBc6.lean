import Derived.Test.YtfdbedgmpnkfgaaGreatDoorTBB
import Derived.Test.YtfdbedgmpnkfgaaGreatDoorRows
import Derived.WalkKit
import Derived.ProofKit
import Derived.OpenShut
import Derived.ShutString
import Derived.ChangeOld
import Derived.Below
import Derived.SizedLaws
import Derived.Carry
import Derived.ChangeSlices
namespace Go.Proofs.YtfdbedgmpnkfgaaGreatDoor.topBusy
open Go.ChangeShapes Go.WideShapes Go.ChangeAt Go.RowKit
open Go.ChangeMaps (open_string shut_string)
open Eng
set_option linter.unusedVariables false
set_option linter.unusedSimpArgs false
noncomputable def ctrue5T (n : Nat) : PT := (.tell 22511 1 (.bin .rem (.const (.int .u8 (Int.ofNat (n)))) (.const (.int .u8 (Int.ofNat 9)))) (.int .u8 (Int.ofNat 5)) .leaf)
noncomputable def ctrue5U (n : Nat) : PT := .leaf
theorem ctrue5 {n : Nat} (hn : n < 256) (cn : Nat.beq (n % 9) 5 = true) (W : World) : Calls Tryz.prog 3 #[.int .u8 (Int.ofNat (n)), .bool true] W fun e W' => e = .returned (.bool true) ∧ Below W.heap.size W W' := by
  refine told_pt compDrawn_ok MM_ok (N := 100000) (d := 24) (args := [.int .u8 (Int.ofNat (n)), .bool true]) (ctrue5T n) (by rw [← PS_eq]; kernel_rfl) (all1 (t := ctrue5T) (c := fun n => Nat.beq (n % 9) 5) (N := 256) (by kernel_rfl) (by kernel_rfl) (u := ctrue5U) (by kernel_rfl) (by kernel_rfl) hn cn) ?_
  rw [VRs_cons]; refine ⟨_, _, rfl, by rw [VR_int], ?_⟩
  rw [VRs_cons]; refine ⟨_, _, rfl, by rw [VR_bool], ?_⟩
  rw [VRs_nil]
noncomputable def cfalse2T (n : Nat) : PT := (.tell 22509 1 (.bin .rem (.const (.int .u8 (Int.ofNat (n)))) (.const (.int .u8 (Int.ofNat 9)))) (.int .u8 (Int.ofNat 2)) .leaf)
noncomputable def cfalse2U (n : Nat) : PT := .leaf
theorem cfalse2 {n : Nat} (hn : n < 256) (cn : Nat.beq (n % 9) 2 = true) (W : World) : Calls Tryz.prog 3 #[.int .u8 (Int.ofNat (n)), .bool false] W fun e W' => e = .returned (.bool true) ∧ Below W.heap.size W W' := by
  refine told_pt compDrawn_ok MM_ok (N := 100000) (d := 24) (args := [.int .u8 (Int.ofNat (n)), .bool false]) (cfalse2T n) (by rw [← PS_eq]; kernel_rfl) (all1 (t := cfalse2T) (c := fun n => Nat.beq (n % 9) 2) (N := 256) (by kernel_rfl) (by kernel_rfl) (u := cfalse2U) (by kernel_rfl) (by kernel_rfl) hn cn) ?_
  rw [VRs_cons]; refine ⟨_, _, rfl, by rw [VR_int], ?_⟩
  rw [VRs_cons]; refine ⟨_, _, rfl, by rw [VR_bool], ?_⟩
  rw [VRs_nil]
noncomputable def cfalse8T (n : Nat) : PT := (.tell 22509 1 (.bin .rem (.const (.int .u8 (Int.ofNat (n)))) (.const (.int .u8 (Int.ofNat 9)))) (.int .u8 (Int.ofNat 8)) .leaf)
noncomputable def cfalse8U (n : Nat) : PT := .leaf
theorem cfalse8 {n : Nat} (hn : n < 256) (cn : Nat.beq (n % 9) 8 = true) (W : World) : Calls Tryz.prog 3 #[.int .u8 (Int.ofNat (n)), .bool false] W fun e W' => e = .returned (.bool true) ∧ Below W.heap.size W W' := by
  refine told_pt compDrawn_ok MM_ok (N := 100000) (d := 24) (args := [.int .u8 (Int.ofNat (n)), .bool false]) (cfalse8T n) (by rw [← PS_eq]; kernel_rfl) (all1 (t := cfalse8T) (c := fun n => Nat.beq (n % 9) 8) (N := 256) (by kernel_rfl) (by kernel_rfl) (u := cfalse8U) (by kernel_rfl) (by kernel_rfl) hn cn) ?_
  rw [VRs_cons]; refine ⟨_, _, rfl, by rw [VR_int], ?_⟩
  rw [VRs_cons]; refine ⟨_, _, rfl, by rw [VR_bool], ?_⟩
  rw [VRs_nil]
end Go.Proofs.YtfdbedgmpnkfgaaGreatDoor.topBusy
