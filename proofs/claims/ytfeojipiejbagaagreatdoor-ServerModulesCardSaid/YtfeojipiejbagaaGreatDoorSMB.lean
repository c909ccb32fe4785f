/- Proved: for all bytes a and b, the call of the law ServerModules returns true and leaves its arguments alone. Condition: none. -/
import Derived.Test.YtfeojipiejbagaaGreatDoorTabS
import Derived.Test.YtfeojipiejbagaaGreatDoorB4
import Derived.Test.YtfeojipiejbagaaGreatDoorB3
import Derived.Test.YtfeojipiejbagaaGreatDoorRows
import Derived.WalkKit
import Derived.ProofKit
import Derived.OpenShut
import Derived.ShutString
import Derived.ChangeOld
import Derived.Below
import Derived.SizedLaws
import Derived.Carry
import Derived.ChangeSlices
namespace Go.Proofs.YtfeojipiejbagaaGreatDoor.serverModules
open Go.ChangeShapes Go.WideShapes Go.ChangeAt Go.RowKit
open Go.ChangeMaps (open_string shut_string)
open Eng
set_option linter.unusedVariables false
set_option linter.unusedSimpArgs false
theorem begun : isTrue (evF memK (progS Tryz.prog (compDrawn Tryz.prog)) 100000 24 6 [] H0) = true := by rw [← PS_eq]; kernel_rfl
theorem trues : Trues Tryz.prog [6] := fun f hf => by
  rw [List.mem_singleton] at hf
  subst hf
  exact trues_one compDrawn_ok memK_ok begun
noncomputable abbrev MM : Nat → Option (List AV → Hp → RV) := orM (sumT [6]) memK
theorem MM_ok : Eng.Good Tryz.prog fun f args h => ocase .no (fun m => m args h) (MM f) := orM_ok (sumT_ok trues) memK_ok
end Go.Proofs.YtfeojipiejbagaaGreatDoor.serverModules
