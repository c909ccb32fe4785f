import Derived.Test.YtfeojipiejbagaaGreatDoorSCB
import Derived.Test.YtfeojipiejbagaaGreatDoorRows
import Derived.WalkKit
import Derived.ProofKit
import Derived.OpenShut
import Derived.ShutString
import Derived.ChangeOld
import Derived.Below
import Derived.SizedLaws
import Derived.Carry
import Derived.ChangeSlices
namespace Go.Proofs.YtfeojipiejbagaaGreatDoor.serverCancels
open Go.ChangeShapes Go.WideShapes Go.ChangeAt Go.RowKit
open Go.ChangeMaps (open_string shut_string)
open Eng
set_option linter.unusedVariables false
set_option linter.unusedSimpArgs false
theorem c00E : isTrue (evF (MM []) (progS Tryz.prog (compDrawn Tryz.prog)) 100000 24 3 [.int .u8 (Int.ofNat 0), .bool false] H0) = true := by rw [← PS_eq]; kernel_rfl
theorem c00 (W : World) : Calls Tryz.prog 3 #[.int .u8 (Int.ofNat 0), .bool false] W fun e W' => e = .returned (.bool true) ∧ Below W.heap.size W W' :=
  closed_law compDrawn_ok (MM_ok []) 100000 24 3 W [.int .u8 (Int.ofNat 0), .bool false] #[.int .u8 (Int.ofNat 0), .bool false] (by rw [VRs_cons]; exact ⟨_, _, rfl, by rw [VR_int], by rw [VRs_cons]; exact ⟨_, _, rfl, by rw [VR_bool], by rw [VRs_nil]⟩⟩) c00E
theorem c01E : isTrue (evF (MM []) (progS Tryz.prog (compDrawn Tryz.prog)) 100000 24 3 [.int .u8 (Int.ofNat 1), .bool false] H0) = true := by rw [← PS_eq]; kernel_rfl
theorem c01 (W : World) : Calls Tryz.prog 3 #[.int .u8 (Int.ofNat 1), .bool false] W fun e W' => e = .returned (.bool true) ∧ Below W.heap.size W W' :=
  closed_law compDrawn_ok (MM_ok []) 100000 24 3 W [.int .u8 (Int.ofNat 1), .bool false] #[.int .u8 (Int.ofNat 1), .bool false] (by rw [VRs_cons]; exact ⟨_, _, rfl, by rw [VR_int], by rw [VRs_cons]; exact ⟨_, _, rfl, by rw [VR_bool], by rw [VRs_nil]⟩⟩) c01E
theorem c02E : isTrue (evF (MM []) (progS Tryz.prog (compDrawn Tryz.prog)) 100000 24 3 [.int .u8 (Int.ofNat 2), .bool false] H0) = true := by rw [← PS_eq]; kernel_rfl
theorem c02 (W : World) : Calls Tryz.prog 3 #[.int .u8 (Int.ofNat 2), .bool false] W fun e W' => e = .returned (.bool true) ∧ Below W.heap.size W W' :=
  closed_law compDrawn_ok (MM_ok []) 100000 24 3 W [.int .u8 (Int.ofNat 2), .bool false] #[.int .u8 (Int.ofNat 2), .bool false] (by rw [VRs_cons]; exact ⟨_, _, rfl, by rw [VR_int], by rw [VRs_cons]; exact ⟨_, _, rfl, by rw [VR_bool], by rw [VRs_nil]⟩⟩) c02E
theorem c03E : isTrue (evF (MM []) (progS Tryz.prog (compDrawn Tryz.prog)) 100000 24 3 [.int .u8 (Int.ofNat 3), .bool false] H0) = true := by rw [← PS_eq]; kernel_rfl
theorem c03 (W : World) : Calls Tryz.prog 3 #[.int .u8 (Int.ofNat 3), .bool false] W fun e W' => e = .returned (.bool true) ∧ Below W.heap.size W W' :=
  closed_law compDrawn_ok (MM_ok []) 100000 24 3 W [.int .u8 (Int.ofNat 3), .bool false] #[.int .u8 (Int.ofNat 3), .bool false] (by rw [VRs_cons]; exact ⟨_, _, rfl, by rw [VR_int], by rw [VRs_cons]; exact ⟨_, _, rfl, by rw [VR_bool], by rw [VRs_nil]⟩⟩) c03E
noncomputable def c04T (m : Nat) : PT := (.tell 26081 1 (.toInt .i64 (.const (.int .u8 (Int.ofNat (m + 4))))) (.int .i64 (Int.ofNat (m + 4))) (.tell 44 1 (.bin .geq (.const (.int .i64 (Int.ofNat (m + 4)))) (.const (.int .i64 (Int.ofNat 0)))) (.bool true) (.agn 2 1 [.i (Int.ofNat (m + 4)), .i (Int.ofNat 0)] (.agn 9 1 [.i (Int.ofNat (m + 4)), .i (Int.ofNat 0)] (.tell 111 1 (.mn [.const (.int .i64 (Int.ofNat (m + 4))), .const (.int .i64 (Int.ofNat 20000))]) (.int .i64 (Int.ofNat (m + 4))) (.agn 0 1 [.j (Int.ofNat (m + 4)) (minI (Int.ofNat (m + 4)) (Int.ofNat 20000)), .i (Int.ofNat 20000), .i (Int.ofNat (m + 4))] (.tell 1 1 (lessOp (.int .i64 (Int.ofNat (m + 4)))) (.bool true) (.agn 1 1 [.i (Int.ofNat (m + 4))] (.tell 5 1 (.bin .sub (.const (.int .i64 (Int.ofNat 20000))) (.const (.int .i64 (Int.ofNat (m + 4))))) (.int .i64 (Int.ofNat (19996 - 1 * m))) (.tell 14 1 (.eq .int false (.const (.int .i64 (Int.ofNat (19996 - 1 * m)))) (.const (.int .i64 (Int.ofNat 0)))) (.bool false) (.agn 18 1 [.i (Int.ofNat (m + 4)), .i (Int.ofNat (m + 4))] (.tell 7057 1 (lessOp (.int .i64 (Int.ofNat 100))) (.bool true) .leaf))))))))))))
noncomputable def c04U (m : Nat) : PT := .leaf
theorem c04 {m : Nat} (hm : m < 252) (cm : Nat.blt m 252 = true) (W : World) : Calls Tryz.prog 3 #[.int .u8 (Int.ofNat (m + 4)), .bool false] W fun e W' => e = .returned (.bool true) ∧ Below W.heap.size W W' := by
  refine told_ptX compDrawn_ok (MW := MWR [82, 83, 87, 95, 646, 903, 905, 1018, 1040]) (MM_ok [82, 83, 87, 95, 646, 903, 905, 1018, 1040]) (MW_ok [82, 83, 87, 95, 646, 903, 905, 1018, 1040]) (N := 100000) (d := 24) (args := [.int .u8 (Int.ofNat (m + 4)), .bool false]) (c04T m) (by rw [← PS_eq]; kernel_rfl) (all1 (t := c04T) (c := fun m => Nat.blt m 252) (N := 252) (by kernel_rfl) (by kernel_rfl) (u := c04U) (by kernel_rfl) (by kernel_rfl) hm cm) ?_
  rw [VRs_cons]; refine ⟨_, _, rfl, by rw [VR_int], ?_⟩
  rw [VRs_cons]; refine ⟨_, _, rfl, by rw [VR_bool], ?_⟩
  rw [VRs_nil]
theorem c0 {f : Nat} (hf : f < 256) (W : World) : Calls Tryz.prog 3 #[.int .u8 (.ofNat f), .bool false] W fun e W' => e = .returned (.bool true) ∧ Below W.heap.size W W' := by
  match f, hf with
  | 0, _ => exact c00 W
  | 1, _ => exact c01 W
  | 2, _ => exact c02 W
  | 3, _ => exact c03 W
  | m + 4, hf => exact c04 (by omega) (by rw [blt_dec]; simpa using (show m < 252 by omega)) W
end Go.Proofs.YtfeojipiejbagaaGreatDoor.serverCancels
