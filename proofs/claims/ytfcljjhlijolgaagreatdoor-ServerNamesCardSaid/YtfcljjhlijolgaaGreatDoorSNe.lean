import Derived.Test.YtfcljjhlijolgaaGreatDoorSNB
import Derived.Test.YtfcljjhlijolgaaGreatDoorRows
import Derived.WalkKit
import Derived.ProofKit
import Derived.OpenShut
import Derived.ShutString
import Derived.ChangeOld
import Derived.Below
import Derived.SizedLaws
import Derived.Carry
import Derived.ChangeSlices
namespace Go.Proofs.YtfcljjhlijolgaaGreatDoor.serverNames
open Go.ChangeShapes Go.WideShapes Go.ChangeAt Go.RowKit
open Go.ChangeMaps (open_string shut_string)
open Eng
set_option linter.unusedVariables false
set_option linter.unusedSimpArgs false
theorem c0E : isTrue (evF MM (progS Tryz.prog (compDrawn Tryz.prog)) 100000 24 5 [.str []] H0) = true := by rw [← PS_eq]; kernel_rfl
theorem c0 {s : ByteArray} (hs : byteList s = []) (W : World) : Calls Tryz.prog 5 #[.string s] W fun e W' => e = .returned (.bool true) ∧ Below W.heap.size W W' :=
  closed_law compDrawn_ok MM_ok 100000 24 5 W [.str []] #[.string s] (by rw [VRs_cons]; exact ⟨_, _, rfl, by rw [VR_str]; exact ⟨_, rfl, hs⟩, by rw [VRs_nil]⟩) c0E
theorem cL {l : List Nat} {n : Nat} (hn : l.length = n) (h6 : 60 < n) {s : ByteArray} (hs : byteList s = l) (W : World) : Calls Tryz.prog 5 #[.string s] W fun e W' => e = .returned (.bool true) ∧ Below W.heap.size W W' := by
  have hl := q_lenS hn
  refine told_lawX compDrawn_ok (MW := MW0) MM_ok MW_ok (N := 100000) (d := 24) (args := [.str l]) (.tell 4 (tI .i64 n) (.tell 0 (.bool true) .fin)) (p := evQ (.lenS (.const (.str l))) .lf H0 = .ok (tI .i64 n) ∧ qB .i64 .i64 .gtr n 60 (.bool true) ∧ AV.bool true = .bool true) (by rw [← PS_eq]; kernel_rfl) ⟨hl, p_gtrT (by omega), rfl⟩ ?_
  rw [VRs_cons]; refine ⟨_, _, rfl, by rw [VR_str]; exact ⟨_, rfl, hs⟩, ?_⟩
  rw [VRs_nil]
end Go.Proofs.YtfcljjhlijolgaaGreatDoor.serverNames
