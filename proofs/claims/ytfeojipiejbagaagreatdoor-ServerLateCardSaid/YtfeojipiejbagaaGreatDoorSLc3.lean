import Derived.Test.YtfeojipiejbagaaGreatDoorSLB
import Derived.Test.YtfeojipiejbagaaGreatDoorRows
import Derived.WalkKit
import Derived.ProofKit
import Derived.OpenShut
import Derived.ShutString
import Derived.ChangeOld
import Derived.Below
import Derived.SizedLaws
import Derived.Carry
import Derived.ChangeSlices
namespace Go.Proofs.YtfeojipiejbagaaGreatDoor.serverLate
open Go.ChangeShapes Go.WideShapes Go.ChangeAt Go.RowKit
open Go.ChangeMaps (open_string shut_string)
open Eng
set_option linter.unusedVariables false
set_option linter.unusedSimpArgs false
noncomputable def c20T (n : Nat) : PT := (.tell 4 1 (.bin .rem (.const (.int .u8 (Int.ofNat (n)))) (.const (.int .u8 (Int.ofNat 6)))) (.int .u8 (Int.ofNat 2)) (.tell 26949 1 (lessOp (.int .i64 (Int.ofNat 0))) (.bool true) (.tell 1560 1 (lessOp (.int .i64 (Int.ofNat 0))) (.bool true) (.tell 1560 1 (lessOp (.int .i64 (Int.ofNat 0))) (.bool true) (.tell 1864 1 (lessOp (.int .i64 (Int.ofNat 100))) (.bool true) .leaf)))))
noncomputable def c20U (n : Nat) : PT := .leaf
theorem c20 {n : Nat} (hn : n < 256) (cn : Nat.beq (n % 6) 2 = true) (W : World) : Calls Tryz.prog 4 #[.int .u8 (Int.ofNat (n)), .int .u8 (Int.ofNat 0)] W fun e W' => e = .returned (.bool true) ∧ Below W.heap.size W W' := by
  refine told_ptX compDrawn_ok (MW := MWR) MM_ok MW_ok (N := 100000) (d := 24) (args := [.int .u8 (Int.ofNat (n)), .int .u8 (Int.ofNat 0)]) (c20T n) (by rw [← PS_eq]; kernel_rfl) (all1 (t := c20T) (c := fun n => Nat.beq (n % 6) 2) (N := 256) (by kernel_rfl) (by kernel_rfl) (u := c20U) (by kernel_rfl) (by kernel_rfl) hn cn) ?_
  rw [VRs_cons]; refine ⟨_, _, rfl, by rw [VR_int], ?_⟩
  rw [VRs_cons]; refine ⟨_, _, rfl, by rw [VR_int], ?_⟩
  rw [VRs_nil]
noncomputable def c21T (n : Nat) : PT := (.tell 4 1 (.bin .rem (.const (.int .u8 (Int.ofNat (n)))) (.const (.int .u8 (Int.ofNat 6)))) (.int .u8 (Int.ofNat 2)) (.tell 26949 1 (lessOp (.int .i64 (Int.ofNat 1))) (.bool true) (.tell 1560 1 (lessOp (.int .i64 (Int.ofNat 1))) (.bool true) (.tell 1560 1 (lessOp (.int .i64 (Int.ofNat 1))) (.bool true) (.tell 1897 1 (lessOp (.int .i64 (Int.ofNat 100))) (.bool true) .leaf)))))
noncomputable def c21U (n : Nat) : PT := .leaf
theorem c21 {n : Nat} (hn : n < 256) (cn : Nat.beq (n % 6) 2 = true) (W : World) : Calls Tryz.prog 4 #[.int .u8 (Int.ofNat (n)), .int .u8 (Int.ofNat 1)] W fun e W' => e = .returned (.bool true) ∧ Below W.heap.size W W' := by
  refine told_ptX compDrawn_ok (MW := MWR) MM_ok MW_ok (N := 100000) (d := 24) (args := [.int .u8 (Int.ofNat (n)), .int .u8 (Int.ofNat 1)]) (c21T n) (by rw [← PS_eq]; kernel_rfl) (all1 (t := c21T) (c := fun n => Nat.beq (n % 6) 2) (N := 256) (by kernel_rfl) (by kernel_rfl) (u := c21U) (by kernel_rfl) (by kernel_rfl) hn cn) ?_
  rw [VRs_cons]; refine ⟨_, _, rfl, by rw [VR_int], ?_⟩
  rw [VRs_cons]; refine ⟨_, _, rfl, by rw [VR_int], ?_⟩
  rw [VRs_nil]
noncomputable def c22T (n : Nat) : PT := (.tell 4 1 (.bin .rem (.const (.int .u8 (Int.ofNat (n)))) (.const (.int .u8 (Int.ofNat 6)))) (.int .u8 (Int.ofNat 2)) (.tell 26949 1 (lessOp (.int .i64 (Int.ofNat 2))) (.bool true) (.tell 1560 1 (lessOp (.int .i64 (Int.ofNat 2))) (.bool true) (.tell 1560 1 (lessOp (.int .i64 (Int.ofNat 2))) (.bool true) (.tell 1897 1 (lessOp (.int .i64 (Int.ofNat 100))) (.bool true) .leaf)))))
noncomputable def c22U (n : Nat) : PT := .leaf
theorem c22 {n : Nat} (hn : n < 256) (cn : Nat.beq (n % 6) 2 = true) (W : World) : Calls Tryz.prog 4 #[.int .u8 (Int.ofNat (n)), .int .u8 (Int.ofNat 2)] W fun e W' => e = .returned (.bool true) ∧ Below W.heap.size W W' := by
  refine told_ptX compDrawn_ok (MW := MWR) MM_ok MW_ok (N := 100000) (d := 24) (args := [.int .u8 (Int.ofNat (n)), .int .u8 (Int.ofNat 2)]) (c22T n) (by rw [← PS_eq]; kernel_rfl) (all1 (t := c22T) (c := fun n => Nat.beq (n % 6) 2) (N := 256) (by kernel_rfl) (by kernel_rfl) (u := c22U) (by kernel_rfl) (by kernel_rfl) hn cn) ?_
  rw [VRs_cons]; refine ⟨_, _, rfl, by rw [VR_int], ?_⟩
  rw [VRs_cons]; refine ⟨_, _, rfl, by rw [VR_int], ?_⟩
  rw [VRs_nil]
noncomputable def c23T (n : Nat) : PT := (.tell 4 1 (.bin .rem (.const (.int .u8 (Int.ofNat (n)))) (.const (.int .u8 (Int.ofNat 6)))) (.int .u8 (Int.ofNat 2)) (.tell 26949 1 (lessOp (.int .i64 (Int.ofNat 3))) (.bool true) (.tell 1560 1 (lessOp (.int .i64 (Int.ofNat 3))) (.bool true) (.tell 1560 1 (lessOp (.int .i64 (Int.ofNat 3))) (.bool true) (.tell 1897 1 (lessOp (.int .i64 (Int.ofNat 100))) (.bool true) .leaf)))))
noncomputable def c23U (n : Nat) : PT := .leaf
theorem c23 {n : Nat} (hn : n < 256) (cn : Nat.beq (n % 6) 2 = true) (W : World) : Calls Tryz.prog 4 #[.int .u8 (Int.ofNat (n)), .int .u8 (Int.ofNat 3)] W fun e W' => e = .returned (.bool true) ∧ Below W.heap.size W W' := by
  refine told_ptX compDrawn_ok (MW := MWR) MM_ok MW_ok (N := 100000) (d := 24) (args := [.int .u8 (Int.ofNat (n)), .int .u8 (Int.ofNat 3)]) (c23T n) (by rw [← PS_eq]; kernel_rfl) (all1 (t := c23T) (c := fun n => Nat.beq (n % 6) 2) (N := 256) (by kernel_rfl) (by kernel_rfl) (u := c23U) (by kernel_rfl) (by kernel_rfl) hn cn) ?_
  rw [VRs_cons]; refine ⟨_, _, rfl, by rw [VR_int], ?_⟩
  rw [VRs_cons]; refine ⟨_, _, rfl, by rw [VR_int], ?_⟩
  rw [VRs_nil]
noncomputable def c24T (n m : Nat) : PT := (.tell 4 1 (.bin .rem (.const (.int .u8 (Int.ofNat (n)))) (.const (.int .u8 (Int.ofNat 6)))) (.int .u8 (Int.ofNat 2)) (.tell 26776 2 (.toInt .i64 (.const (.int .u8 (Int.ofNat (m + 4))))) (.int .i64 (Int.ofNat (m + 4))) (.tell 44 2 (.bin .geq (.const (.int .i64 (Int.ofNat (m + 4)))) (.const (.int .i64 (Int.ofNat 0)))) (.bool true) (.agn 2 1 [.i (Int.ofNat (m + 4)), .i (Int.ofNat 0)] (.agn 9 1 [.i (Int.ofNat (m + 4)), .i (Int.ofNat 0)] (.tell 111 2 (.mn [.const (.int .i64 (Int.ofNat (m + 4))), .const (.int .i64 (Int.ofNat 20000))]) (.int .i64 (Int.ofNat (m + 4))) (.agn 0 2 [.j (Int.ofNat (m + 4)) (minI (Int.ofNat (m + 4)) (Int.ofNat 20000)), .i (Int.ofNat 20000), .i (Int.ofNat (m + 4))] (.tell 1 2 (lessOp (.int .i64 (Int.ofNat (m + 4)))) (.bool true) (.agn 1 1 [.i (Int.ofNat (m + 4))] (.tell 5 2 (.bin .sub (.const (.int .i64 (Int.ofNat 20000))) (.const (.int .i64 (Int.ofNat (m + 4))))) (.int .i64 (Int.ofNat (19996 - 1 * m))) (.tell 14 2 (.eq .int false (.const (.int .i64 (Int.ofNat (19996 - 1 * m)))) (.const (.int .i64 (Int.ofNat 0)))) (.bool false) (.agn 18 1 [.i (Int.ofNat (m + 4)), .i (Int.ofNat (m + 4))] (.tell 1345 2 (.toInt .i64 (.const (.int .u8 (Int.ofNat (m + 4))))) (.int .i64 (Int.ofNat (m + 4))) (.tell 44 2 (.bin .geq (.const (.int .i64 (Int.ofNat (m + 4)))) (.const (.int .i64 (Int.ofNat 0)))) (.bool true) (.agn 2 1 [.i (Int.ofNat (m + 4)), .i (Int.ofNat 0)] (.agn 9 1 [.i (Int.ofNat (m + 4)), .i (Int.ofNat 0)] (.tell 111 2 (.mn [.const (.int .i64 (Int.ofNat (m + 4))), .const (.int .i64 (Int.ofNat (19996 - 1 * m)))]) (.int .i64 (Int.ofNat (m + 4))) (.agn 0 2 [.j (Int.ofNat (m + 4)) (minI (Int.ofNat (m + 4)) (Int.ofNat (19996 - 1 * m))), .i (Int.ofNat (19996 - 1 * m)), .i (Int.ofNat (m + 4))] (.tell 1 2 (lessOp (.int .i64 (Int.ofNat (m + 4)))) (.bool true) (.agn 0 1 [.i (Int.ofNat 1), .i (Int.ofNat 2), .i (Int.ofNat 0), .i (Int.ofNat 0), .i (Int.ofNat 3), .i (Int.ofNat 1), .i (Int.ofNat 1), .i (Int.ofNat 0), .i (Int.ofNat 65), .i (Int.ofNat 0), .i (Int.ofNat 0), .i (Int.ofNat 99), .i (Int.ofNat 0), .i (Int.ofNat 36), .i (Int.ofNat 0), .i (Int.ofNat 0), .i (Int.ofNat 0), .i (Int.ofNat 0), .i (Int.ofNat 3), .i (Int.ofNat 0), .i (Int.ofNat 0), .i (Int.ofNat 0), .i (Int.negSucc 63), .i (Int.ofNat 12), .i (Int.ofNat 0), .i (Int.ofNat 0), .i (Int.ofNat 0), .i (Int.ofNat 0), .i (Int.ofNat 11), .i (Int.ofNat 0), .i (Int.ofNat 0), .i (Int.ofNat 0), .i (Int.ofNat 0), .i (Int.ofNat 11), .i (Int.ofNat 0), .i (Int.ofNat 0), .i (Int.ofNat 0), .i (Int.ofNat 0), .i (Int.ofNat 0), .i (Int.ofNat 0), .i (Int.ofNat 0), .i (Int.ofNat 2), .i (Int.ofNat 3), .i (Int.ofNat 0), .i (Int.ofNat 0), .i (Int.ofNat 0), .i (Int.ofNat (19996 - 1 * m)), .i (Int.ofNat 99), .i (Int.ofNat 5), .i (Int.ofNat 0), .i (Int.ofNat 0), .i (Int.ofNat 2), .i (Int.ofNat 0), .i (Int.ofNat 0)] (.agn 1 1 [.i (Int.ofNat (m + 4))] (.tell 5 2 (.bin .sub (.const (.int .i64 (Int.ofNat (19996 - 1 * m)))) (.const (.int .i64 (Int.ofNat (m + 4))))) (.int .i64 (Int.ofNat (19992 - 2 * m))) (.tell 14 2 (.eq .int false (.const (.int .i64 (Int.ofNat (19992 - 2 * m)))) (.const (.int .i64 (Int.ofNat 0)))) (.bool false) (.agn 18 1 [.i (Int.ofNat (m + 4)), .i (Int.ofNat (m + 4))] (.tell 1345 2 (.toInt .i64 (.const (.int .u8 (Int.ofNat (m + 4))))) (.int .i64 (Int.ofNat (m + 4))) (.tell 44 2 (.bin .geq (.const (.int .i64 (Int.ofNat (m + 4)))) (.const (.int .i64 (Int.ofNat 0)))) (.bool true) (.agn 2 1 [.i (Int.ofNat (m + 4)), .i (Int.ofNat 0)] (.agn 9 1 [.i (Int.ofNat (m + 4)), .i (Int.ofNat 0)] (.tell 111 2 (.mn [.const (.int .i64 (Int.ofNat (m + 4))), .const (.int .i64 (Int.ofNat (19992 - 2 * m)))]) (.int .i64 (Int.ofNat (m + 4))) (.agn 0 2 [.j (Int.ofNat (m + 4)) (minI (Int.ofNat (m + 4)) (Int.ofNat (19992 - 2 * m))), .i (Int.ofNat (19992 - 2 * m)), .i (Int.ofNat (m + 4))] (.tell 1 2 (lessOp (.int .i64 (Int.ofNat (m + 4)))) (.bool true) (.agn 0 1 [.i (Int.ofNat 1), .i (Int.ofNat 2), .i (Int.ofNat 0), .i (Int.ofNat 0), .i (Int.ofNat 3), .i (Int.ofNat 1), .i (Int.ofNat 1), .i (Int.ofNat 0), .i (Int.ofNat 65), .i (Int.ofNat 0), .i (Int.ofNat 0), .i (Int.ofNat 99), .i (Int.ofNat 0), .i (Int.ofNat 36), .i (Int.ofNat 0), .i (Int.ofNat 0), .i (Int.ofNat 0), .i (Int.ofNat 0), .i (Int.ofNat 3), .i (Int.ofNat 0), .i (Int.ofNat 0), .i (Int.ofNat 0), .i (Int.negSucc 63), .i (Int.ofNat 12), .i (Int.ofNat 0), .i (Int.ofNat 0), .i (Int.ofNat 0), .i (Int.ofNat 0), .i (Int.ofNat 11), .i (Int.ofNat 0), .i (Int.ofNat 0), .i (Int.ofNat 0), .i (Int.ofNat 0), .i (Int.ofNat 11), .i (Int.ofNat 0), .i (Int.ofNat 0), .i (Int.ofNat 0), .i (Int.ofNat 0), .i (Int.ofNat 0), .i (Int.ofNat 0), .i (Int.ofNat 0), .i (Int.ofNat 2), .i (Int.ofNat 3), .i (Int.ofNat 0), .i (Int.ofNat 0), .i (Int.ofNat 0), .i (Int.ofNat (19992 - 2 * m)), .i (Int.ofNat 99), .i (Int.ofNat 5), .i (Int.ofNat 0), .i (Int.ofNat 0), .i (Int.ofNat 2), .i (Int.ofNat 0), .i (Int.ofNat 0)] (.agn 1 1 [.i (Int.ofNat (m + 4))] (.tell 5 2 (.bin .sub (.const (.int .i64 (Int.ofNat (19992 - 2 * m)))) (.const (.int .i64 (Int.ofNat (m + 4))))) (.int .i64 (Int.ofNat (19988 - 3 * m))) (.tell 14 2 (.eq .int false (.const (.int .i64 (Int.ofNat (19988 - 3 * m)))) (.const (.int .i64 (Int.ofNat 0)))) (.bool false) (.agn 18 1 [.i (Int.ofNat (m + 4)), .i (Int.ofNat (m + 4))] (.tell 1855 1 (lessOp (.int .i64 (Int.ofNat 100))) (.bool true) .leaf)))))))))))))))))))))))))))))))))))))
noncomputable def c24U (n m : Nat) : PT := .leaf
theorem c24 {n m : Nat} (hn : n < 256) (hm : m < 252) (cn : Nat.beq (n % 6) 2 = true) (cm : Nat.blt m 252 = true) (W : World) : Calls Tryz.prog 4 #[.int .u8 (Int.ofNat (n)), .int .u8 (Int.ofNat (m + 4))] W fun e W' => e = .returned (.bool true) ∧ Below W.heap.size W W' := by
  refine told_ptX compDrawn_ok (MW := MWR) MM_ok MW_ok (N := 100000) (d := 24) (args := [.int .u8 (Int.ofNat (n)), .int .u8 (Int.ofNat (m + 4))]) (c24T n m) (by rw [← PS_eq]; kernel_rfl) (all2 (t := c24T) (c := fun n => Nat.beq (n % 6) 2) (d := fun m => Nat.blt m 252) (N := 256) (M := 252) (n := n) (m := m) (by kernel_rfl) (by kernel_rfl) (u := c24U) (by kernel_rfl) (by kernel_rfl) hn hm cn cm) ?_
  rw [VRs_cons]; refine ⟨_, _, rfl, by rw [VR_int], ?_⟩
  rw [VRs_cons]; refine ⟨_, _, rfl, by rw [VR_int], ?_⟩
  rw [VRs_nil]
theorem c2 {n f : Nat} (hn : n < 256) (hf : f < 256) (cn : n % 6 = 2) (W : World) : Calls Tryz.prog 4 #[.int .u8 (.ofNat n), .int .u8 (.ofNat f)] W fun e W' => e = .returned (.bool true) ∧ Below W.heap.size W W' := by
  have cn : Nat.beq (n % 6) 2 = true := by rw [cn]; rfl
  match f, hf with
  | 0, _ => exact c20 hn cn W
  | 1, _ => exact c21 hn cn W
  | 2, _ => exact c22 hn cn W
  | 3, _ => exact c23 hn cn W
  | m + 4, hf => exact c24 hn (by omega) cn (by rw [blt_dec]; simpa using (show m < 252 by omega)) W
end Go.Proofs.YtfeojipiejbagaaGreatDoor.serverLate
