import Derived.Test.YtfeojipiejbagaaGreatDoorSLB
import Derived.Test.YtfeojipiejbagaaGreatDoorRows
import Derived.WalkKit
import Derived.ProofKit
import Derived.OpenShut
import Derived.ShutString
import Derived.ChangeOld
import Derived.Below
import Derived.SizedLaws
import Derived.Carry
import Derived.ChangeSlices
namespace Go.Proofs.YtfeojipiejbagaaGreatDoor.serverLate
open Go.ChangeShapes Go.WideShapes Go.ChangeAt Go.RowKit
open Go.ChangeMaps (open_string shut_string)
open Eng
set_option linter.unusedVariables false
set_option linter.unusedSimpArgs false
noncomputable def c10T (n : Nat) : PT := (.tell 4 1 (.bin .rem (.const (.int .u8 (Int.ofNat (n)))) (.const (.int .u8 (Int.ofNat 6)))) (.int .u8 (Int.ofNat 1)) (.tell 26949 1 (lessOp (.int .i64 (Int.ofNat 0))) (.bool true) (.tell 1560 1 (lessOp (.int .i64 (Int.ofNat 0))) (.bool true) (.tell 1864 1 (lessOp (.int .i64 (Int.ofNat 100))) (.bool true) .leaf))))
noncomputable def c10U (n : Nat) : PT := .leaf
theorem c10 {n : Nat} (hn : n < 256) (cn : Nat.beq (n % 6) 1 = true) (W : World) : Calls Tryz.prog 4 #[.int .u8 (Int.ofNat (n)), .int .u8 (Int.ofNat 0)] W fun e W' => e = .returned (.bool true) ∧ Below W.heap.size W W' := by
  refine told_ptX compDrawn_ok (MW := MWR) MM_ok MW_ok (N := 100000) (d := 24) (args := [.int .u8 (Int.ofNat (n)), .int .u8 (Int.ofNat 0)]) (c10T n) (by rw [← PS_eq]; kernel_rfl) (all1 (t := c10T) (c := fun n => Nat.beq (n % 6) 1) (N := 256) (by kernel_rfl) (by kernel_rfl) (u := c10U) (by kernel_rfl) (by kernel_rfl) hn cn) ?_
  rw [VRs_cons]; refine ⟨_, _, rfl, by rw [VR_int], ?_⟩
  rw [VRs_cons]; refine ⟨_, _, rfl, by rw [VR_int], ?_⟩
  rw [VRs_nil]
noncomputable def c11T (n : Nat) : PT := (.tell 4 1 (.bin .rem (.const (.int .u8 (Int.ofNat (n)))) (.const (.int .u8 (Int.ofNat 6)))) (.int .u8 (Int.ofNat 1)) (.tell 26949 1 (lessOp (.int .i64 (Int.ofNat 1))) (.bool true) (.tell 1560 1 (lessOp (.int .i64 (Int.ofNat 1))) (.bool true) (.tell 1897 1 (lessOp (.int .i64 (Int.ofNat 100))) (.bool true) .leaf))))
noncomputable def c11U (n : Nat) : PT := .leaf
theorem c11 {n : Nat} (hn : n < 256) (cn : Nat.beq (n % 6) 1 = true) (W : World) : Calls Tryz.prog 4 #[.int .u8 (Int.ofNat (n)), .int .u8 (Int.ofNat 1)] W fun e W' => e = .returned (.bool true) ∧ Below W.heap.size W W' := by
  refine told_ptX compDrawn_ok (MW := MWR) MM_ok MW_ok (N := 100000) (d := 24) (args := [.int .u8 (Int.ofNat (n)), .int .u8 (Int.ofNat 1)]) (c11T n) (by rw [← PS_eq]; kernel_rfl) (all1 (t := c11T) (c := fun n => Nat.beq (n % 6) 1) (N := 256) (by kernel_rfl) (by kernel_rfl) (u := c11U) (by kernel_rfl) (by kernel_rfl) hn cn) ?_
  rw [VRs_cons]; refine ⟨_, _, rfl, by rw [VR_int], ?_⟩
  rw [VRs_cons]; refine ⟨_, _, rfl, by rw [VR_int], ?_⟩
  rw [VRs_nil]
noncomputable def c12T (n : Nat) : PT := (.tell 4 1 (.bin .rem (.const (.int .u8 (Int.ofNat (n)))) (.const (.int .u8 (Int.ofNat 6)))) (.int .u8 (Int.ofNat 1)) (.tell 26949 1 (lessOp (.int .i64 (Int.ofNat 2))) (.bool true) (.tell 1560 1 (lessOp (.int .i64 (Int.ofNat 2))) (.bool true) (.tell 1897 1 (lessOp (.int .i64 (Int.ofNat 100))) (.bool true) .leaf))))
noncomputable def c12U (n : Nat) : PT := .leaf
theorem c12 {n : Nat} (hn : n < 256) (cn : Nat.beq (n % 6) 1 = true) (W : World) : Calls Tryz.prog 4 #[.int .u8 (Int.ofNat (n)), .int .u8 (Int.ofNat 2)] W fun e W' => e = .returned (.bool true) ∧ Below W.heap.size W W' := by
  refine told_ptX compDrawn_ok (MW := MWR) MM_ok MW_ok (N := 100000) (d := 24) (args := [.int .u8 (Int.ofNat (n)), .int .u8 (Int.ofNat 2)]) (c12T n) (by rw [← PS_eq]; kernel_rfl) (all1 (t := c12T) (c := fun n => Nat.beq (n % 6) 1) (N := 256) (by kernel_rfl) (by kernel_rfl) (u := c12U) (by kernel_rfl) (by kernel_rfl) hn cn) ?_
  rw [VRs_cons]; refine ⟨_, _, rfl, by rw [VR_int], ?_⟩
  rw [VRs_cons]; refine ⟨_, _, rfl, by rw [VR_int], ?_⟩
  rw [VRs_nil]
noncomputable def c13T (n : Nat) : PT := (.tell 4 1 (.bin .rem (.const (.int .u8 (Int.ofNat (n)))) (.const (.int .u8 (Int.ofNat 6)))) (.int .u8 (Int.ofNat 1)) (.tell 26949 1 (lessOp (.int .i64 (Int.ofNat 3))) (.bool true) (.tell 1560 1 (lessOp (.int .i64 (Int.ofNat 3))) (.bool true) (.tell 1897 1 (lessOp (.int .i64 (Int.ofNat 100))) (.bool true) .leaf))))
noncomputable def c13U (n : Nat) : PT := .leaf
theorem c13 {n : Nat} (hn : n < 256) (cn : Nat.beq (n % 6) 1 = true) (W : World) : Calls Tryz.prog 4 #[.int .u8 (Int.ofNat (n)), .int .u8 (Int.ofNat 3)] W fun e W' => e = .returned (.bool true) ∧ Below W.heap.size W W' := by
  refine told_ptX compDrawn_ok (MW := MWR) MM_ok MW_ok (N := 100000) (d := 24) (args := [.int .u8 (Int.ofNat (n)), .int .u8 (Int.ofNat 3)]) (c13T n) (by rw [← PS_eq]; kernel_rfl) (all1 (t := c13T) (c := fun n => Nat.beq (n % 6) 1) (N := 256) (by kernel_rfl) (by kernel_rfl) (u := c13U) (by kernel_rfl) (by kernel_rfl) hn cn) ?_
  rw [VRs_cons]; refine ⟨_, _, rfl, by rw [VR_int], ?_⟩
  rw [VRs_cons]; refine ⟨_, _, rfl, by rw [VR_int], ?_⟩
  rw [VRs_nil]
noncomputable def c14T (n m : Nat) : PT := (.tell 4 1 (.bin .rem (.const (.int .u8 (Int.ofNat (n)))) (.const (.int .u8 (Int.ofNat 6)))) (.int .u8 (Int.ofNat 1)) (.tell 26776 2 (.toInt .i64 (.const (.int .u8 (Int.ofNat (m + 4))))) (.int .i64 (Int.ofNat (m + 4))) (.tell 44 2 (.bin .geq (.const (.int .i64 (Int.ofNat (m + 4)))) (.const (.int .i64 (Int.ofNat 0)))) (.bool true) (.agn 2 1 [.i (Int.ofNat (m + 4)), .i (Int.ofNat 0)] (.agn 9 1 [.i (Int.ofNat (m + 4)), .i (Int.ofNat 0)] (.tell 111 2 (.mn [.const (.int .i64 (Int.ofNat (m + 4))), .const (.int .i64 (Int.ofNat 20000))]) (.int .i64 (Int.ofNat (m + 4))) (.agn 0 2 [.j (Int.ofNat (m + 4)) (minI (Int.ofNat (m + 4)) (Int.ofNat 20000)), .i (Int.ofNat 20000), .i (Int.ofNat (m + 4))] (.tell 1 2 (lessOp (.int .i64 (Int.ofNat (m + 4)))) (.bool true) (.agn 1 1 [.i (Int.ofNat (m + 4))] (.tell 5 2 (.bin .sub (.const (.int .i64 (Int.ofNat 20000))) (.const (.int .i64 (Int.ofNat (m + 4))))) (.int .i64 (Int.ofNat (19996 - 1 * m))) (.tell 14 2 (.eq .int false (.const (.int .i64 (Int.ofNat (19996 - 1 * m)))) (.const (.int .i64 (Int.ofNat 0)))) (.bool false) (.agn 18 1 [.i (Int.ofNat (m + 4)), .i (Int.ofNat (m + 4))] (.tell 1345 2 (.toInt .i64 (.const (.int .u8 (Int.ofNat (m + 4))))) (.int .i64 (Int.ofNat (m + 4))) (.tell 44 2 (.bin .geq (.const (.int .i64 (Int.ofNat (m + 4)))) (.const (.int .i64 (Int.ofNat 0)))) (.bool true) (.agn 2 1 [.i (Int.ofNat (m + 4)), .i (Int.ofNat 0)] (.agn 9 1 [.i (Int.ofNat (m + 4)), .i (Int.ofNat 0)] (.tell 111 2 (.mn [.const (.int .i64 (Int.ofNat (m + 4))), .const (.int .i64 (Int.ofNat (19996 - 1 * m)))]) (.int .i64 (Int.ofNat (m + 4))) (.agn 0 2 [.j (Int.ofNat (m + 4)) (minI (Int.ofNat (m + 4)) (Int.ofNat (19996 - 1 * m))), .i (Int.ofNat (19996 - 1 * m)), .i (Int.ofNat (m + 4))] (.tell 1 2 (lessOp (.int .i64 (Int.ofNat (m + 4)))) (.bool true) (.agn 0 1 [.i (Int.ofNat 1), .i (Int.ofNat 2), .i (Int.ofNat 0), .i (Int.ofNat 0), .i (Int.ofNat 3), .i (Int.ofNat 1), .i (Int.ofNat 1), .i (Int.ofNat 0), .i (Int.ofNat 65), .i (Int.ofNat 0), .i (Int.ofNat 0), .i (Int.ofNat 99), .i (Int.ofNat 0), .i (Int.ofNat 36), .i (Int.ofNat 0), .i (Int.ofNat 0), .i (Int.ofNat 0), .i (Int.ofNat 0), .i (Int.ofNat 3), .i (Int.ofNat 0), .i (Int.ofNat 0), .i (Int.ofNat 0), .i (Int.negSucc 63), .i (Int.ofNat 12), .i (Int.ofNat 0), .i (Int.ofNat 0), .i (Int.ofNat 0), .i (Int.ofNat 0), .i (Int.ofNat 11), .i (Int.ofNat 0), .i (Int.ofNat 0), .i (Int.ofNat 0), .i (Int.ofNat 0), .i (Int.ofNat 11), .i (Int.ofNat 0), .i (Int.ofNat 0), .i (Int.ofNat 0), .i (Int.ofNat 0), .i (Int.ofNat 0), .i (Int.ofNat 0), .i (Int.ofNat 0), .i (Int.ofNat 2), .i (Int.ofNat 3), .i (Int.ofNat 0), .i (Int.ofNat 0), .i (Int.ofNat 0), .i (Int.ofNat (19996 - 1 * m)), .i (Int.ofNat 99), .i (Int.ofNat 5), .i (Int.ofNat 0), .i (Int.ofNat 0), .i (Int.ofNat 2), .i (Int.ofNat 0), .i (Int.ofNat 0)] (.agn 1 1 [.i (Int.ofNat (m + 4))] (.tell 5 2 (.bin .sub (.const (.int .i64 (Int.ofNat (19996 - 1 * m)))) (.const (.int .i64 (Int.ofNat (m + 4))))) (.int .i64 (Int.ofNat (19992 - 2 * m))) (.tell 14 2 (.eq .int false (.const (.int .i64 (Int.ofNat (19992 - 2 * m)))) (.const (.int .i64 (Int.ofNat 0)))) (.bool false) (.agn 18 1 [.i (Int.ofNat (m + 4)), .i (Int.ofNat (m + 4))] (.tell 1855 1 (lessOp (.int .i64 (Int.ofNat 100))) (.bool true) .leaf)))))))))))))))))))))))))
noncomputable def c14U (n m : Nat) : PT := .leaf
theorem c14 {n m : Nat} (hn : n < 256) (hm : m < 252) (cn : Nat.beq (n % 6) 1 = true) (cm : Nat.blt m 252 = true) (W : World) : Calls Tryz.prog 4 #[.int .u8 (Int.ofNat (n)), .int .u8 (Int.ofNat (m + 4))] W fun e W' => e = .returned (.bool true) ∧ Below W.heap.size W W' := by
  refine told_ptX compDrawn_ok (MW := MWR) MM_ok MW_ok (N := 100000) (d := 24) (args := [.int .u8 (Int.ofNat (n)), .int .u8 (Int.ofNat (m + 4))]) (c14T n m) (by rw [← PS_eq]; kernel_rfl) (all2 (t := c14T) (c := fun n => Nat.beq (n % 6) 1) (d := fun m => Nat.blt m 252) (N := 256) (M := 252) (n := n) (m := m) (by kernel_rfl) (by kernel_rfl) (u := c14U) (by kernel_rfl) (by kernel_rfl) hn hm cn cm) ?_
  rw [VRs_cons]; refine ⟨_, _, rfl, by rw [VR_int], ?_⟩
  rw [VRs_cons]; refine ⟨_, _, rfl, by rw [VR_int], ?_⟩
  rw [VRs_nil]
theorem c1 {n f : Nat} (hn : n < 256) (hf : f < 256) (cn : n % 6 = 1) (W : World) : Calls Tryz.prog 4 #[.int .u8 (.ofNat n), .int .u8 (.ofNat f)] W fun e W' => e = .returned (.bool true) ∧ Below W.heap.size W W' := by
  have cn : Nat.beq (n % 6) 1 = true := by rw [cn]; rfl
  match f, hf with
  | 0, _ => exact c10 hn cn W
  | 1, _ => exact c11 hn cn W
  | 2, _ => exact c12 hn cn W
  | 3, _ => exact c13 hn cn W
  | m + 4, hf => exact c14 hn (by omega) cn (by rw [blt_dec]; simpa using (show m < 252 by omega)) W
end Go.Proofs.YtfeojipiejbagaaGreatDoor.serverLate
