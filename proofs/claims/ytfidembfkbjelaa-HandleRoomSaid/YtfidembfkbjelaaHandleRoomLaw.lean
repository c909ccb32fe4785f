/- Proved: for all bytes n and k, the call of the law HandleRoom returns true and leaves its arguments alone. Condition: none. -/
import Derived.Test.YtfidembfkbjelaaB3
import Derived.Test.YtfidembfkbjelaaRows
import Derived.WalkKit
import Derived.ProofKit
import Derived.OpenShut
import Derived.ShutString
import Derived.ChangeOld
import Derived.Below
import Derived.SizedLaws
import Derived.Carry
import Derived.ChangeSlices
namespace Go.Proofs.Ytfidembfkbjelaa.handleRoom
open Go.ChangeShapes Go.WideShapes Go.ChangeAt Go.RowKit
open Go.ChangeMaps (open_string shut_string)
open Eng
set_option linter.unusedVariables false
set_option linter.unusedSimpArgs false

theorem begun : isTrue (evF sumK (progS Try.prog (compDrawn Try.prog)) 100000 12 6 [] H0) = true := by kernel_rfl
theorem trues : Trues Try.prog [6] := fun f hf => by
  rw [List.mem_singleton] at hf
  subst hf
  exact trues_one compDrawn_ok sumK_ok begun
noncomputable abbrev MM : Nat → Option (List AV → Hp → RV) := orM (sumT [6]) sumK
theorem MM_ok : Eng.Good Try.prog fun f args h => ocase .no (fun m => m args h) (MM f) := orM_ok (sumT_ok trues) sumK_ok

noncomputable def cls0T (n k : Nat) : PT := (.tell 498 (.bin .rem (.const (.int .u8 (Int.ofNat (n)))) (.const (.int .u8 (Int.ofNat 5)))) (.int .u8 (Int.ofNat (n % 5))) (.tell 0 (.toInt .i64 (.const (.int .u8 (Int.ofNat (n % 5))))) (.int .i64 (Int.ofNat (n % 5))) (.fork 0 (ltI (Int.ofNat 0) (Int.ofNat (n % 5)))
  (.tell 32 (.bin .rem (.const (.int .u8 (Int.ofNat (n)))) (.const (.int .u8 (Int.ofNat 5)))) (.int .u8 (Int.ofNat (n % 5))) (.tell 0 (.toInt .i64 (.const (.int .u8 (Int.ofNat (n % 5))))) (.int .i64 (Int.ofNat (n % 5))) (.fork 0 (ltI (Int.ofNat 1) (Int.ofNat (n % 5)))
  (.tell 32 (.bin .rem (.const (.int .u8 (Int.ofNat (n)))) (.const (.int .u8 (Int.ofNat 5)))) (.int .u8 (Int.ofNat (n % 5))) (.tell 0 (.toInt .i64 (.const (.int .u8 (Int.ofNat (n % 5))))) (.int .i64 (Int.ofNat (n % 5))) (.fork 0 (ltI (Int.ofNat 2) (Int.ofNat (n % 5)))
  (.tell 32 (.bin .rem (.const (.int .u8 (Int.ofNat (n)))) (.const (.int .u8 (Int.ofNat 5)))) (.int .u8 (Int.ofNat (n % 5))) (.tell 0 (.toInt .i64 (.const (.int .u8 (Int.ofNat (n % 5))))) (.int .i64 (Int.ofNat (n % 5))) (.fork 0 (ltI (Int.ofNat 3) (Int.ofNat (n % 5)))
  (.tell 32 (.bin .rem (.const (.int .u8 (Int.ofNat (n)))) (.const (.int .u8 (Int.ofNat 5)))) (.int .u8 (Int.ofNat 4)) (.tell 3 (.toInt .u64 (.const (.int .u8 (Int.ofNat (k))))) (.int .u64 (Int.ofNat (k))) (.tell 0 (.bin .rem (.const (.int .u64 (Int.ofNat (k)))) (.const (.int .u64 (Int.ofNat 8)))) (.int .u64 (Int.ofNat 0)) .leaf)))
  (.tell 1 (.toInt .u64 (.const (.int .u8 (Int.ofNat (k))))) (.int .u64 (Int.ofNat (k))) (.tell 0 (.bin .rem (.const (.int .u64 (Int.ofNat (k)))) (.const (.int .u64 (Int.ofNat 8)))) (.int .u64 (Int.ofNat 0)) .leaf)))))
  (.tell 1 (.toInt .u64 (.const (.int .u8 (Int.ofNat (k))))) (.int .u64 (Int.ofNat (k))) (.tell 0 (.bin .rem (.const (.int .u64 (Int.ofNat (k)))) (.const (.int .u64 (Int.ofNat 8)))) (.int .u64 (Int.ofNat 0)) .leaf)))))
  (.tell 1 (.toInt .u64 (.const (.int .u8 (Int.ofNat (k))))) (.int .u64 (Int.ofNat (k))) (.tell 0 (.bin .rem (.const (.int .u64 (Int.ofNat (k)))) (.const (.int .u64 (Int.ofNat 8)))) (.int .u64 (Int.ofNat 0)) .leaf)))))
  (.tell 1 (.toInt .u64 (.const (.int .u8 (Int.ofNat (k))))) (.int .u64 (Int.ofNat (k))) (.tell 0 (.bin .rem (.const (.int .u64 (Int.ofNat (k)))) (.const (.int .u64 (Int.ofNat 8)))) (.int .u64 (Int.ofNat 0)) .leaf)))))
theorem cls0 {n k : Nat} (hn : n < 256) (hk : k < 256) (cn : true = true) (ck : Nat.beq (k % 8) 0 = true) (W : World) : Calls Try.prog 4 #[.int .u8 (Int.ofNat (n)), .int .u8 (Int.ofNat (k))] W fun e W' => e = .returned (.bool true) ∧ Below W.heap.size W W' := by
  refine told_pt compDrawn_ok MM_ok (N := 100000) (d := 12) (args := [.int .u8 (Int.ofNat (n)), .int .u8 (Int.ofNat (k))]) (cls0T n k) (by kernel_rfl) (all2 (t := cls0T) (c := fun n => true) (d := fun k => Nat.beq (k % 8) 0) (N := 256) (M := 256) (by kernel_rfl) hn hk cn ck) ?_
  rw [VRs_cons]; refine ⟨_, _, rfl, by rw [VR_int], ?_⟩
  rw [VRs_cons]; refine ⟨_, _, rfl, by rw [VR_int], ?_⟩
  rw [VRs_nil]
noncomputable def cls1T (n k : Nat) : PT := (.tell 498 (.bin .rem (.const (.int .u8 (Int.ofNat (n)))) (.const (.int .u8 (Int.ofNat 5)))) (.int .u8 (Int.ofNat (n % 5))) (.tell 0 (.toInt .i64 (.const (.int .u8 (Int.ofNat (n % 5))))) (.int .i64 (Int.ofNat (n % 5))) (.fork 0 (ltI (Int.ofNat 0) (Int.ofNat (n % 5)))
  (.tell 32 (.bin .rem (.const (.int .u8 (Int.ofNat (n)))) (.const (.int .u8 (Int.ofNat 5)))) (.int .u8 (Int.ofNat (n % 5))) (.tell 0 (.toInt .i64 (.const (.int .u8 (Int.ofNat (n % 5))))) (.int .i64 (Int.ofNat (n % 5))) (.fork 0 (ltI (Int.ofNat 1) (Int.ofNat (n % 5)))
  (.tell 32 (.bin .rem (.const (.int .u8 (Int.ofNat (n)))) (.const (.int .u8 (Int.ofNat 5)))) (.int .u8 (Int.ofNat (n % 5))) (.tell 0 (.toInt .i64 (.const (.int .u8 (Int.ofNat (n % 5))))) (.int .i64 (Int.ofNat (n % 5))) (.fork 0 (ltI (Int.ofNat 2) (Int.ofNat (n % 5)))
  (.tell 32 (.bin .rem (.const (.int .u8 (Int.ofNat (n)))) (.const (.int .u8 (Int.ofNat 5)))) (.int .u8 (Int.ofNat (n % 5))) (.tell 0 (.toInt .i64 (.const (.int .u8 (Int.ofNat (n % 5))))) (.int .i64 (Int.ofNat (n % 5))) (.fork 0 (ltI (Int.ofNat 3) (Int.ofNat (n % 5)))
  (.tell 32 (.bin .rem (.const (.int .u8 (Int.ofNat (n)))) (.const (.int .u8 (Int.ofNat 5)))) (.int .u8 (Int.ofNat 4)) (.tell 3 (.toInt .u64 (.const (.int .u8 (Int.ofNat (k))))) (.int .u64 (Int.ofNat (k))) (.tell 0 (.bin .rem (.const (.int .u64 (Int.ofNat (k)))) (.const (.int .u64 (Int.ofNat 8)))) (.int .u64 (Int.ofNat 1)) .leaf)))
  (.tell 1 (.toInt .u64 (.const (.int .u8 (Int.ofNat (k))))) (.int .u64 (Int.ofNat (k))) (.tell 0 (.bin .rem (.const (.int .u64 (Int.ofNat (k)))) (.const (.int .u64 (Int.ofNat 8)))) (.int .u64 (Int.ofNat 1)) .leaf)))))
  (.tell 1 (.toInt .u64 (.const (.int .u8 (Int.ofNat (k))))) (.int .u64 (Int.ofNat (k))) (.tell 0 (.bin .rem (.const (.int .u64 (Int.ofNat (k)))) (.const (.int .u64 (Int.ofNat 8)))) (.int .u64 (Int.ofNat 1)) .leaf)))))
  (.tell 1 (.toInt .u64 (.const (.int .u8 (Int.ofNat (k))))) (.int .u64 (Int.ofNat (k))) (.tell 0 (.bin .rem (.const (.int .u64 (Int.ofNat (k)))) (.const (.int .u64 (Int.ofNat 8)))) (.int .u64 (Int.ofNat 1)) .leaf)))))
  (.tell 1 (.toInt .u64 (.const (.int .u8 (Int.ofNat (k))))) (.int .u64 (Int.ofNat (k))) (.tell 0 (.bin .rem (.const (.int .u64 (Int.ofNat (k)))) (.const (.int .u64 (Int.ofNat 8)))) (.int .u64 (Int.ofNat 1)) .leaf)))))
theorem cls1 {n k : Nat} (hn : n < 256) (hk : k < 256) (cn : true = true) (ck : Nat.beq (k % 8) 1 = true) (W : World) : Calls Try.prog 4 #[.int .u8 (Int.ofNat (n)), .int .u8 (Int.ofNat (k))] W fun e W' => e = .returned (.bool true) ∧ Below W.heap.size W W' := by
  refine told_pt compDrawn_ok MM_ok (N := 100000) (d := 12) (args := [.int .u8 (Int.ofNat (n)), .int .u8 (Int.ofNat (k))]) (cls1T n k) (by kernel_rfl) (all2 (t := cls1T) (c := fun n => true) (d := fun k => Nat.beq (k % 8) 1) (N := 256) (M := 256) (by kernel_rfl) hn hk cn ck) ?_
  rw [VRs_cons]; refine ⟨_, _, rfl, by rw [VR_int], ?_⟩
  rw [VRs_cons]; refine ⟨_, _, rfl, by rw [VR_int], ?_⟩
  rw [VRs_nil]
noncomputable def cls2T (n k : Nat) : PT := (.tell 498 (.bin .rem (.const (.int .u8 (Int.ofNat (n)))) (.const (.int .u8 (Int.ofNat 5)))) (.int .u8 (Int.ofNat (n % 5))) (.tell 0 (.toInt .i64 (.const (.int .u8 (Int.ofNat (n % 5))))) (.int .i64 (Int.ofNat (n % 5))) (.fork 0 (ltI (Int.ofNat 0) (Int.ofNat (n % 5)))
  (.tell 32 (.bin .rem (.const (.int .u8 (Int.ofNat (n)))) (.const (.int .u8 (Int.ofNat 5)))) (.int .u8 (Int.ofNat (n % 5))) (.tell 0 (.toInt .i64 (.const (.int .u8 (Int.ofNat (n % 5))))) (.int .i64 (Int.ofNat (n % 5))) (.fork 0 (ltI (Int.ofNat 1) (Int.ofNat (n % 5)))
  (.tell 32 (.bin .rem (.const (.int .u8 (Int.ofNat (n)))) (.const (.int .u8 (Int.ofNat 5)))) (.int .u8 (Int.ofNat (n % 5))) (.tell 0 (.toInt .i64 (.const (.int .u8 (Int.ofNat (n % 5))))) (.int .i64 (Int.ofNat (n % 5))) (.fork 0 (ltI (Int.ofNat 2) (Int.ofNat (n % 5)))
  (.tell 32 (.bin .rem (.const (.int .u8 (Int.ofNat (n)))) (.const (.int .u8 (Int.ofNat 5)))) (.int .u8 (Int.ofNat (n % 5))) (.tell 0 (.toInt .i64 (.const (.int .u8 (Int.ofNat (n % 5))))) (.int .i64 (Int.ofNat (n % 5))) (.fork 0 (ltI (Int.ofNat 3) (Int.ofNat (n % 5)))
  (.tell 32 (.bin .rem (.const (.int .u8 (Int.ofNat (n)))) (.const (.int .u8 (Int.ofNat 5)))) (.int .u8 (Int.ofNat 4)) (.tell 3 (.toInt .u64 (.const (.int .u8 (Int.ofNat (k))))) (.int .u64 (Int.ofNat (k))) (.tell 0 (.bin .rem (.const (.int .u64 (Int.ofNat (k)))) (.const (.int .u64 (Int.ofNat 8)))) (.int .u64 (Int.ofNat 2)) .leaf)))
  (.tell 1 (.toInt .u64 (.const (.int .u8 (Int.ofNat (k))))) (.int .u64 (Int.ofNat (k))) (.tell 0 (.bin .rem (.const (.int .u64 (Int.ofNat (k)))) (.const (.int .u64 (Int.ofNat 8)))) (.int .u64 (Int.ofNat 2)) .leaf)))))
  (.tell 1 (.toInt .u64 (.const (.int .u8 (Int.ofNat (k))))) (.int .u64 (Int.ofNat (k))) (.tell 0 (.bin .rem (.const (.int .u64 (Int.ofNat (k)))) (.const (.int .u64 (Int.ofNat 8)))) (.int .u64 (Int.ofNat 2)) .leaf)))))
  (.tell 1 (.toInt .u64 (.const (.int .u8 (Int.ofNat (k))))) (.int .u64 (Int.ofNat (k))) (.tell 0 (.bin .rem (.const (.int .u64 (Int.ofNat (k)))) (.const (.int .u64 (Int.ofNat 8)))) (.int .u64 (Int.ofNat 2)) .leaf)))))
  (.tell 1 (.toInt .u64 (.const (.int .u8 (Int.ofNat (k))))) (.int .u64 (Int.ofNat (k))) (.tell 0 (.bin .rem (.const (.int .u64 (Int.ofNat (k)))) (.const (.int .u64 (Int.ofNat 8)))) (.int .u64 (Int.ofNat 2)) .leaf)))))
theorem cls2 {n k : Nat} (hn : n < 256) (hk : k < 256) (cn : true = true) (ck : Nat.beq (k % 8) 2 = true) (W : World) : Calls Try.prog 4 #[.int .u8 (Int.ofNat (n)), .int .u8 (Int.ofNat (k))] W fun e W' => e = .returned (.bool true) ∧ Below W.heap.size W W' := by
  refine told_pt compDrawn_ok MM_ok (N := 100000) (d := 12) (args := [.int .u8 (Int.ofNat (n)), .int .u8 (Int.ofNat (k))]) (cls2T n k) (by kernel_rfl) (all2 (t := cls2T) (c := fun n => true) (d := fun k => Nat.beq (k % 8) 2) (N := 256) (M := 256) (by kernel_rfl) hn hk cn ck) ?_
  rw [VRs_cons]; refine ⟨_, _, rfl, by rw [VR_int], ?_⟩
  rw [VRs_cons]; refine ⟨_, _, rfl, by rw [VR_int], ?_⟩
  rw [VRs_nil]
noncomputable def cls3T (n k : Nat) : PT := (.tell 498 (.bin .rem (.const (.int .u8 (Int.ofNat (n)))) (.const (.int .u8 (Int.ofNat 5)))) (.int .u8 (Int.ofNat (n % 5))) (.tell 0 (.toInt .i64 (.const (.int .u8 (Int.ofNat (n % 5))))) (.int .i64 (Int.ofNat (n % 5))) (.fork 0 (ltI (Int.ofNat 0) (Int.ofNat (n % 5)))
  (.tell 32 (.bin .rem (.const (.int .u8 (Int.ofNat (n)))) (.const (.int .u8 (Int.ofNat 5)))) (.int .u8 (Int.ofNat (n % 5))) (.tell 0 (.toInt .i64 (.const (.int .u8 (Int.ofNat (n % 5))))) (.int .i64 (Int.ofNat (n % 5))) (.fork 0 (ltI (Int.ofNat 1) (Int.ofNat (n % 5)))
  (.tell 32 (.bin .rem (.const (.int .u8 (Int.ofNat (n)))) (.const (.int .u8 (Int.ofNat 5)))) (.int .u8 (Int.ofNat (n % 5))) (.tell 0 (.toInt .i64 (.const (.int .u8 (Int.ofNat (n % 5))))) (.int .i64 (Int.ofNat (n % 5))) (.fork 0 (ltI (Int.ofNat 2) (Int.ofNat (n % 5)))
  (.tell 32 (.bin .rem (.const (.int .u8 (Int.ofNat (n)))) (.const (.int .u8 (Int.ofNat 5)))) (.int .u8 (Int.ofNat (n % 5))) (.tell 0 (.toInt .i64 (.const (.int .u8 (Int.ofNat (n % 5))))) (.int .i64 (Int.ofNat (n % 5))) (.fork 0 (ltI (Int.ofNat 3) (Int.ofNat (n % 5)))
  (.tell 32 (.bin .rem (.const (.int .u8 (Int.ofNat (n)))) (.const (.int .u8 (Int.ofNat 5)))) (.int .u8 (Int.ofNat 4)) (.tell 3 (.toInt .u64 (.const (.int .u8 (Int.ofNat (k))))) (.int .u64 (Int.ofNat (k))) (.tell 0 (.bin .rem (.const (.int .u64 (Int.ofNat (k)))) (.const (.int .u64 (Int.ofNat 8)))) (.int .u64 (Int.ofNat 3)) .leaf)))
  (.tell 1 (.toInt .u64 (.const (.int .u8 (Int.ofNat (k))))) (.int .u64 (Int.ofNat (k))) (.tell 0 (.bin .rem (.const (.int .u64 (Int.ofNat (k)))) (.const (.int .u64 (Int.ofNat 8)))) (.int .u64 (Int.ofNat 3)) .leaf)))))
  (.tell 1 (.toInt .u64 (.const (.int .u8 (Int.ofNat (k))))) (.int .u64 (Int.ofNat (k))) (.tell 0 (.bin .rem (.const (.int .u64 (Int.ofNat (k)))) (.const (.int .u64 (Int.ofNat 8)))) (.int .u64 (Int.ofNat 3)) .leaf)))))
  (.tell 1 (.toInt .u64 (.const (.int .u8 (Int.ofNat (k))))) (.int .u64 (Int.ofNat (k))) (.tell 0 (.bin .rem (.const (.int .u64 (Int.ofNat (k)))) (.const (.int .u64 (Int.ofNat 8)))) (.int .u64 (Int.ofNat 3)) .leaf)))))
  (.tell 1 (.toInt .u64 (.const (.int .u8 (Int.ofNat (k))))) (.int .u64 (Int.ofNat (k))) (.tell 0 (.bin .rem (.const (.int .u64 (Int.ofNat (k)))) (.const (.int .u64 (Int.ofNat 8)))) (.int .u64 (Int.ofNat 3)) .leaf)))))
theorem cls3 {n k : Nat} (hn : n < 256) (hk : k < 256) (cn : true = true) (ck : Nat.beq (k % 8) 3 = true) (W : World) : Calls Try.prog 4 #[.int .u8 (Int.ofNat (n)), .int .u8 (Int.ofNat (k))] W fun e W' => e = .returned (.bool true) ∧ Below W.heap.size W W' := by
  refine told_pt compDrawn_ok MM_ok (N := 100000) (d := 12) (args := [.int .u8 (Int.ofNat (n)), .int .u8 (Int.ofNat (k))]) (cls3T n k) (by kernel_rfl) (all2 (t := cls3T) (c := fun n => true) (d := fun k => Nat.beq (k % 8) 3) (N := 256) (M := 256) (by kernel_rfl) hn hk cn ck) ?_
  rw [VRs_cons]; refine ⟨_, _, rfl, by rw [VR_int], ?_⟩
  rw [VRs_cons]; refine ⟨_, _, rfl, by rw [VR_int], ?_⟩
  rw [VRs_nil]
noncomputable def cls4T (n k : Nat) : PT := (.tell 498 (.bin .rem (.const (.int .u8 (Int.ofNat (n)))) (.const (.int .u8 (Int.ofNat 5)))) (.int .u8 (Int.ofNat (n % 5))) (.tell 0 (.toInt .i64 (.const (.int .u8 (Int.ofNat (n % 5))))) (.int .i64 (Int.ofNat (n % 5))) (.fork 0 (ltI (Int.ofNat 0) (Int.ofNat (n % 5)))
  (.tell 32 (.bin .rem (.const (.int .u8 (Int.ofNat (n)))) (.const (.int .u8 (Int.ofNat 5)))) (.int .u8 (Int.ofNat (n % 5))) (.tell 0 (.toInt .i64 (.const (.int .u8 (Int.ofNat (n % 5))))) (.int .i64 (Int.ofNat (n % 5))) (.fork 0 (ltI (Int.ofNat 1) (Int.ofNat (n % 5)))
  (.tell 32 (.bin .rem (.const (.int .u8 (Int.ofNat (n)))) (.const (.int .u8 (Int.ofNat 5)))) (.int .u8 (Int.ofNat (n % 5))) (.tell 0 (.toInt .i64 (.const (.int .u8 (Int.ofNat (n % 5))))) (.int .i64 (Int.ofNat (n % 5))) (.fork 0 (ltI (Int.ofNat 2) (Int.ofNat (n % 5)))
  (.tell 32 (.bin .rem (.const (.int .u8 (Int.ofNat (n)))) (.const (.int .u8 (Int.ofNat 5)))) (.int .u8 (Int.ofNat (n % 5))) (.tell 0 (.toInt .i64 (.const (.int .u8 (Int.ofNat (n % 5))))) (.int .i64 (Int.ofNat (n % 5))) (.fork 0 (ltI (Int.ofNat 3) (Int.ofNat (n % 5)))
  (.tell 32 (.bin .rem (.const (.int .u8 (Int.ofNat (n)))) (.const (.int .u8 (Int.ofNat 5)))) (.int .u8 (Int.ofNat 4)) (.tell 3 (.toInt .u64 (.const (.int .u8 (Int.ofNat (k))))) (.int .u64 (Int.ofNat (k))) (.tell 0 (.bin .rem (.const (.int .u64 (Int.ofNat (k)))) (.const (.int .u64 (Int.ofNat 8)))) (.int .u64 (Int.ofNat 4)) .leaf)))
  (.tell 1 (.toInt .u64 (.const (.int .u8 (Int.ofNat (k))))) (.int .u64 (Int.ofNat (k))) (.tell 0 (.bin .rem (.const (.int .u64 (Int.ofNat (k)))) (.const (.int .u64 (Int.ofNat 8)))) (.int .u64 (Int.ofNat 4)) .leaf)))))
  (.tell 1 (.toInt .u64 (.const (.int .u8 (Int.ofNat (k))))) (.int .u64 (Int.ofNat (k))) (.tell 0 (.bin .rem (.const (.int .u64 (Int.ofNat (k)))) (.const (.int .u64 (Int.ofNat 8)))) (.int .u64 (Int.ofNat 4)) .leaf)))))
  (.tell 1 (.toInt .u64 (.const (.int .u8 (Int.ofNat (k))))) (.int .u64 (Int.ofNat (k))) (.tell 0 (.bin .rem (.const (.int .u64 (Int.ofNat (k)))) (.const (.int .u64 (Int.ofNat 8)))) (.int .u64 (Int.ofNat 4)) .leaf)))))
  (.tell 1 (.toInt .u64 (.const (.int .u8 (Int.ofNat (k))))) (.int .u64 (Int.ofNat (k))) (.tell 0 (.bin .rem (.const (.int .u64 (Int.ofNat (k)))) (.const (.int .u64 (Int.ofNat 8)))) (.int .u64 (Int.ofNat 4)) .leaf)))))
theorem cls4 {n k : Nat} (hn : n < 256) (hk : k < 256) (cn : true = true) (ck : Nat.beq (k % 8) 4 = true) (W : World) : Calls Try.prog 4 #[.int .u8 (Int.ofNat (n)), .int .u8 (Int.ofNat (k))] W fun e W' => e = .returned (.bool true) ∧ Below W.heap.size W W' := by
  refine told_pt compDrawn_ok MM_ok (N := 100000) (d := 12) (args := [.int .u8 (Int.ofNat (n)), .int .u8 (Int.ofNat (k))]) (cls4T n k) (by kernel_rfl) (all2 (t := cls4T) (c := fun n => true) (d := fun k => Nat.beq (k % 8) 4) (N := 256) (M := 256) (by kernel_rfl) hn hk cn ck) ?_
  rw [VRs_cons]; refine ⟨_, _, rfl, by rw [VR_int], ?_⟩
  rw [VRs_cons]; refine ⟨_, _, rfl, by rw [VR_int], ?_⟩
  rw [VRs_nil]
noncomputable def cls5T (n k : Nat) : PT := (.tell 498 (.bin .rem (.const (.int .u8 (Int.ofNat (n)))) (.const (.int .u8 (Int.ofNat 5)))) (.int .u8 (Int.ofNat (n % 5))) (.tell 0 (.toInt .i64 (.const (.int .u8 (Int.ofNat (n % 5))))) (.int .i64 (Int.ofNat (n % 5))) (.fork 0 (ltI (Int.ofNat 0) (Int.ofNat (n % 5)))
  (.tell 32 (.bin .rem (.const (.int .u8 (Int.ofNat (n)))) (.const (.int .u8 (Int.ofNat 5)))) (.int .u8 (Int.ofNat (n % 5))) (.tell 0 (.toInt .i64 (.const (.int .u8 (Int.ofNat (n % 5))))) (.int .i64 (Int.ofNat (n % 5))) (.fork 0 (ltI (Int.ofNat 1) (Int.ofNat (n % 5)))
  (.tell 32 (.bin .rem (.const (.int .u8 (Int.ofNat (n)))) (.const (.int .u8 (Int.ofNat 5)))) (.int .u8 (Int.ofNat (n % 5))) (.tell 0 (.toInt .i64 (.const (.int .u8 (Int.ofNat (n % 5))))) (.int .i64 (Int.ofNat (n % 5))) (.fork 0 (ltI (Int.ofNat 2) (Int.ofNat (n % 5)))
  (.tell 32 (.bin .rem (.const (.int .u8 (Int.ofNat (n)))) (.const (.int .u8 (Int.ofNat 5)))) (.int .u8 (Int.ofNat (n % 5))) (.tell 0 (.toInt .i64 (.const (.int .u8 (Int.ofNat (n % 5))))) (.int .i64 (Int.ofNat (n % 5))) (.fork 0 (ltI (Int.ofNat 3) (Int.ofNat (n % 5)))
  (.tell 32 (.bin .rem (.const (.int .u8 (Int.ofNat (n)))) (.const (.int .u8 (Int.ofNat 5)))) (.int .u8 (Int.ofNat 4)) (.tell 3 (.toInt .u64 (.const (.int .u8 (Int.ofNat (k))))) (.int .u64 (Int.ofNat (k))) (.tell 0 (.bin .rem (.const (.int .u64 (Int.ofNat (k)))) (.const (.int .u64 (Int.ofNat 8)))) (.int .u64 (Int.ofNat 5)) .leaf)))
  (.tell 1 (.toInt .u64 (.const (.int .u8 (Int.ofNat (k))))) (.int .u64 (Int.ofNat (k))) (.tell 0 (.bin .rem (.const (.int .u64 (Int.ofNat (k)))) (.const (.int .u64 (Int.ofNat 8)))) (.int .u64 (Int.ofNat 5)) .leaf)))))
  (.tell 1 (.toInt .u64 (.const (.int .u8 (Int.ofNat (k))))) (.int .u64 (Int.ofNat (k))) (.tell 0 (.bin .rem (.const (.int .u64 (Int.ofNat (k)))) (.const (.int .u64 (Int.ofNat 8)))) (.int .u64 (Int.ofNat 5)) .leaf)))))
  (.tell 1 (.toInt .u64 (.const (.int .u8 (Int.ofNat (k))))) (.int .u64 (Int.ofNat (k))) (.tell 0 (.bin .rem (.const (.int .u64 (Int.ofNat (k)))) (.const (.int .u64 (Int.ofNat 8)))) (.int .u64 (Int.ofNat 5)) .leaf)))))
  (.tell 1 (.toInt .u64 (.const (.int .u8 (Int.ofNat (k))))) (.int .u64 (Int.ofNat (k))) (.tell 0 (.bin .rem (.const (.int .u64 (Int.ofNat (k)))) (.const (.int .u64 (Int.ofNat 8)))) (.int .u64 (Int.ofNat 5)) .leaf)))))
theorem cls5 {n k : Nat} (hn : n < 256) (hk : k < 256) (cn : true = true) (ck : Nat.beq (k % 8) 5 = true) (W : World) : Calls Try.prog 4 #[.int .u8 (Int.ofNat (n)), .int .u8 (Int.ofNat (k))] W fun e W' => e = .returned (.bool true) ∧ Below W.heap.size W W' := by
  refine told_pt compDrawn_ok MM_ok (N := 100000) (d := 12) (args := [.int .u8 (Int.ofNat (n)), .int .u8 (Int.ofNat (k))]) (cls5T n k) (by kernel_rfl) (all2 (t := cls5T) (c := fun n => true) (d := fun k => Nat.beq (k % 8) 5) (N := 256) (M := 256) (by kernel_rfl) hn hk cn ck) ?_
  rw [VRs_cons]; refine ⟨_, _, rfl, by rw [VR_int], ?_⟩
  rw [VRs_cons]; refine ⟨_, _, rfl, by rw [VR_int], ?_⟩
  rw [VRs_nil]
noncomputable def cls6T (n k : Nat) : PT := (.tell 498 (.bin .rem (.const (.int .u8 (Int.ofNat (n)))) (.const (.int .u8 (Int.ofNat 5)))) (.int .u8 (Int.ofNat (n % 5))) (.tell 0 (.toInt .i64 (.const (.int .u8 (Int.ofNat (n % 5))))) (.int .i64 (Int.ofNat (n % 5))) (.fork 0 (ltI (Int.ofNat 0) (Int.ofNat (n % 5)))
  (.tell 32 (.bin .rem (.const (.int .u8 (Int.ofNat (n)))) (.const (.int .u8 (Int.ofNat 5)))) (.int .u8 (Int.ofNat (n % 5))) (.tell 0 (.toInt .i64 (.const (.int .u8 (Int.ofNat (n % 5))))) (.int .i64 (Int.ofNat (n % 5))) (.fork 0 (ltI (Int.ofNat 1) (Int.ofNat (n % 5)))
  (.tell 32 (.bin .rem (.const (.int .u8 (Int.ofNat (n)))) (.const (.int .u8 (Int.ofNat 5)))) (.int .u8 (Int.ofNat (n % 5))) (.tell 0 (.toInt .i64 (.const (.int .u8 (Int.ofNat (n % 5))))) (.int .i64 (Int.ofNat (n % 5))) (.fork 0 (ltI (Int.ofNat 2) (Int.ofNat (n % 5)))
  (.tell 32 (.bin .rem (.const (.int .u8 (Int.ofNat (n)))) (.const (.int .u8 (Int.ofNat 5)))) (.int .u8 (Int.ofNat (n % 5))) (.tell 0 (.toInt .i64 (.const (.int .u8 (Int.ofNat (n % 5))))) (.int .i64 (Int.ofNat (n % 5))) (.fork 0 (ltI (Int.ofNat 3) (Int.ofNat (n % 5)))
  (.tell 32 (.bin .rem (.const (.int .u8 (Int.ofNat (n)))) (.const (.int .u8 (Int.ofNat 5)))) (.int .u8 (Int.ofNat 4)) (.tell 3 (.toInt .u64 (.const (.int .u8 (Int.ofNat (k))))) (.int .u64 (Int.ofNat (k))) (.tell 0 (.bin .rem (.const (.int .u64 (Int.ofNat (k)))) (.const (.int .u64 (Int.ofNat 8)))) (.int .u64 (Int.ofNat 6)) .leaf)))
  (.tell 1 (.toInt .u64 (.const (.int .u8 (Int.ofNat (k))))) (.int .u64 (Int.ofNat (k))) (.tell 0 (.bin .rem (.const (.int .u64 (Int.ofNat (k)))) (.const (.int .u64 (Int.ofNat 8)))) (.int .u64 (Int.ofNat 6)) .leaf)))))
  (.tell 1 (.toInt .u64 (.const (.int .u8 (Int.ofNat (k))))) (.int .u64 (Int.ofNat (k))) (.tell 0 (.bin .rem (.const (.int .u64 (Int.ofNat (k)))) (.const (.int .u64 (Int.ofNat 8)))) (.int .u64 (Int.ofNat 6)) .leaf)))))
  (.tell 1 (.toInt .u64 (.const (.int .u8 (Int.ofNat (k))))) (.int .u64 (Int.ofNat (k))) (.tell 0 (.bin .rem (.const (.int .u64 (Int.ofNat (k)))) (.const (.int .u64 (Int.ofNat 8)))) (.int .u64 (Int.ofNat 6)) .leaf)))))
  (.tell 1 (.toInt .u64 (.const (.int .u8 (Int.ofNat (k))))) (.int .u64 (Int.ofNat (k))) (.tell 0 (.bin .rem (.const (.int .u64 (Int.ofNat (k)))) (.const (.int .u64 (Int.ofNat 8)))) (.int .u64 (Int.ofNat 6)) .leaf)))))
theorem cls6 {n k : Nat} (hn : n < 256) (hk : k < 256) (cn : true = true) (ck : Nat.beq (k % 8) 6 = true) (W : World) : Calls Try.prog 4 #[.int .u8 (Int.ofNat (n)), .int .u8 (Int.ofNat (k))] W fun e W' => e = .returned (.bool true) ∧ Below W.heap.size W W' := by
  refine told_pt compDrawn_ok MM_ok (N := 100000) (d := 12) (args := [.int .u8 (Int.ofNat (n)), .int .u8 (Int.ofNat (k))]) (cls6T n k) (by kernel_rfl) (all2 (t := cls6T) (c := fun n => true) (d := fun k => Nat.beq (k % 8) 6) (N := 256) (M := 256) (by kernel_rfl) hn hk cn ck) ?_
  rw [VRs_cons]; refine ⟨_, _, rfl, by rw [VR_int], ?_⟩
  rw [VRs_cons]; refine ⟨_, _, rfl, by rw [VR_int], ?_⟩
  rw [VRs_nil]
noncomputable def cls7T (n k : Nat) : PT := (.tell 498 (.bin .rem (.const (.int .u8 (Int.ofNat (n)))) (.const (.int .u8 (Int.ofNat 5)))) (.int .u8 (Int.ofNat (n % 5))) (.tell 0 (.toInt .i64 (.const (.int .u8 (Int.ofNat (n % 5))))) (.int .i64 (Int.ofNat (n % 5))) (.fork 0 (ltI (Int.ofNat 0) (Int.ofNat (n % 5)))
  (.tell 32 (.bin .rem (.const (.int .u8 (Int.ofNat (n)))) (.const (.int .u8 (Int.ofNat 5)))) (.int .u8 (Int.ofNat (n % 5))) (.tell 0 (.toInt .i64 (.const (.int .u8 (Int.ofNat (n % 5))))) (.int .i64 (Int.ofNat (n % 5))) (.fork 0 (ltI (Int.ofNat 1) (Int.ofNat (n % 5)))
  (.tell 32 (.bin .rem (.const (.int .u8 (Int.ofNat (n)))) (.const (.int .u8 (Int.ofNat 5)))) (.int .u8 (Int.ofNat (n % 5))) (.tell 0 (.toInt .i64 (.const (.int .u8 (Int.ofNat (n % 5))))) (.int .i64 (Int.ofNat (n % 5))) (.fork 0 (ltI (Int.ofNat 2) (Int.ofNat (n % 5)))
  (.tell 32 (.bin .rem (.const (.int .u8 (Int.ofNat (n)))) (.const (.int .u8 (Int.ofNat 5)))) (.int .u8 (Int.ofNat (n % 5))) (.tell 0 (.toInt .i64 (.const (.int .u8 (Int.ofNat (n % 5))))) (.int .i64 (Int.ofNat (n % 5))) (.fork 0 (ltI (Int.ofNat 3) (Int.ofNat (n % 5)))
  (.tell 32 (.bin .rem (.const (.int .u8 (Int.ofNat (n)))) (.const (.int .u8 (Int.ofNat 5)))) (.int .u8 (Int.ofNat 4)) (.tell 3 (.toInt .u64 (.const (.int .u8 (Int.ofNat (k))))) (.int .u64 (Int.ofNat (k))) (.tell 0 (.bin .rem (.const (.int .u64 (Int.ofNat (k)))) (.const (.int .u64 (Int.ofNat 8)))) (.int .u64 (Int.ofNat 7)) .leaf)))
  (.tell 1 (.toInt .u64 (.const (.int .u8 (Int.ofNat (k))))) (.int .u64 (Int.ofNat (k))) (.tell 0 (.bin .rem (.const (.int .u64 (Int.ofNat (k)))) (.const (.int .u64 (Int.ofNat 8)))) (.int .u64 (Int.ofNat 7)) .leaf)))))
  (.tell 1 (.toInt .u64 (.const (.int .u8 (Int.ofNat (k))))) (.int .u64 (Int.ofNat (k))) (.tell 0 (.bin .rem (.const (.int .u64 (Int.ofNat (k)))) (.const (.int .u64 (Int.ofNat 8)))) (.int .u64 (Int.ofNat 7)) .leaf)))))
  (.tell 1 (.toInt .u64 (.const (.int .u8 (Int.ofNat (k))))) (.int .u64 (Int.ofNat (k))) (.tell 0 (.bin .rem (.const (.int .u64 (Int.ofNat (k)))) (.const (.int .u64 (Int.ofNat 8)))) (.int .u64 (Int.ofNat 7)) .leaf)))))
  (.tell 1 (.toInt .u64 (.const (.int .u8 (Int.ofNat (k))))) (.int .u64 (Int.ofNat (k))) (.tell 0 (.bin .rem (.const (.int .u64 (Int.ofNat (k)))) (.const (.int .u64 (Int.ofNat 8)))) (.int .u64 (Int.ofNat 7)) .leaf)))))
theorem cls7 {n k : Nat} (hn : n < 256) (hk : k < 256) (cn : true = true) (ck : Nat.beq (k % 8) 7 = true) (W : World) : Calls Try.prog 4 #[.int .u8 (Int.ofNat (n)), .int .u8 (Int.ofNat (k))] W fun e W' => e = .returned (.bool true) ∧ Below W.heap.size W W' := by
  refine told_pt compDrawn_ok MM_ok (N := 100000) (d := 12) (args := [.int .u8 (Int.ofNat (n)), .int .u8 (Int.ofNat (k))]) (cls7T n k) (by kernel_rfl) (all2 (t := cls7T) (c := fun n => true) (d := fun k => Nat.beq (k % 8) 7) (N := 256) (M := 256) (by kernel_rfl) hn hk cn ck) ?_
  rw [VRs_cons]; refine ⟨_, _, rfl, by rw [VR_int], ?_⟩
  rw [VRs_cons]; refine ⟨_, _, rfl, by rw [VR_int], ?_⟩
  rw [VRs_nil]
theorem walk (n k : Nat) (W : World) (hn : n < 256) (hk : k < 256) : Calls Try.prog 4 #[.int .u8 (.ofNat n), .int .u8 (.ofNat k)] W fun e W' => e = .returned (.bool true) ∧ Below W.heap.size W W' := by
  have : k % 8 = 0 ∨ k % 8 = 1 ∨ k % 8 = 2 ∨ k % 8 = 3 ∨ k % 8 = 4 ∨ k % 8 = 5 ∨ k % 8 = 6 ∨ k % 8 = 7 := by omega
  rcases this with h | h | h | h | h | h | h | h
  · exact cls0 hn hk rfl (by rw [h]; rfl) W
  · exact cls1 hn hk rfl (by rw [h]; rfl) W
  · exact cls2 hn hk rfl (by rw [h]; rfl) W
  · exact cls3 hn hk rfl (by rw [h]; rfl) W
  · exact cls4 hn hk rfl (by rw [h]; rfl) W
  · exact cls5 hn hk rfl (by rw [h]; rfl) W
  · exact cls6 hn hk rfl (by rw [h]; rfl) W
  · exact cls7 hn hk rfl (by rw [h]; rfl) W
theorem own : ownKnob Try.prog.godebug = none := by kernel_rfl
theorem laidOut : laidOutB Try.prog = true := by kernel_rfl
set_option maxRecDepth 100000 in
set_option maxHeartbeats 1000000 in
theorem lifted (os : Os) (started : os.Started) (H : Type) (enc : TypeId × Value → H) :
    ReturnsInHanded {} Try.checked os 4 .any (Rows.handleRoomSpec.pre6 enc Try.prog Try.f4 Rows.handleRoomRow.domain false) (Rows.handleRoomSpec.post enc Try.prog Try.f4 false true false false) := by
  refine returnsInHanded_of_change_sized (C := Try.checked) own started (by kernel_rfl) Try.func4
    (ChangeSpec.witness6 (enc := enc) (C := Try.checked) false ⟨#[], #[.int .u8 0, .int .u8 0], []⟩ 8 (by kernel_rfl) (by kernel_rfl) (by kernel_rfl) (by kernel_rfl)) ?_
  intro W base args ds gs before hval0 hW hcnd hsz0 _
  have hval : ∀ (j : Nat) t v, Try.f4.params[j]? = some t → args[j]? = some v → Value.okWide Try.prog W .any base t v := hval0
  have hW' := hW
  obtain ⟨p, q, hA0, hV, rfl, hfz, hnd⟩ := hW
  have hA : DataW.TrodAll enc Try.prog W 0 (fun _ => true) true Try.f4.params.toList args.toList ds p := hA0
  rw [Try.params4] at hA hval
  obtain ⟨rfl, rfl⟩ := trodVars_none hV
  simp only [List.append_nil] at hW'
  obtain ⟨v0, vs0, d0, ds0, p0, q0, hargs, rfl, rfl, h0, r0⟩ := trodAll_cons hA
  obtain ⟨v1, vs1, d1, ds1, p1, q1, rfl, rfl, rfl, h1, r1⟩ := trodAll_cons r0
  obtain ⟨rfl, rfl, rfl⟩ := trodAll_nil r1
  obtain rfl : args = #[v0, v1] := by cases args; simp_all
  clear hA0 hval0 hsz0
  obtain ⟨y0, rfl, rfl, rfl, w0⟩ := open_int Try.underlying5 (hval 0 5 v0 rfl rfl) h0
  obtain ⟨x0, rfl, f0⟩ := u8_wf w0
  obtain ⟨y1, rfl, rfl, rfl, w1⟩ := open_int Try.underlying5 (hval 1 5 v1 rfl rfl) h1
  obtain ⟨x1, rfl, f1⟩ := u8_wf w1
  refine (walk x0 x1 W f0 f1).mono fun e W' ⟨he, bel⟩ => ?_
  subst he
  exact ⟨_, rfl, _, _, _, [], _, [], hW', trodAll_mk1 (shut_bool Try.underlying4 _), (trodAll_cons_mk (shut_int Try.underlying5 w0) (trodAll_cons_mk (shut_int Try.underlying5 w1) trodAll_mk0)), rfl, bel.frame _, fun h => by cases h⟩
theorem over : Rows.handleRoomRow.holds Try.pinned (OpenSpec.ofChange Rows.handleRoomSpec) :=
  OpenClaim.holds_of_wide 4 Try.f4 rfl rfl rfl rfl rfl rfl rfl ⟨rfl, rfl, rfl, rfl, rfl⟩ rfl rfl rfl rfl rfl (by kernel_rfl) Try.func4 (by kernel_rfl)
    (of_decide_eq_true (by kernel_rfl)) (by unfold Func.isWrapper; first | (rw [if_pos (by decide +kernel)]; kernel_rfl) | (rw [if_neg (by decide +kernel)]; exact ⟨rfl, rfl⟩))
    (fun os started H enc _ => lifted os started H enc)
theorem proved : Rows.HandleRoomSaid := over
end Go.Proofs.Ytfidembfkbjelaa.handleRoom
