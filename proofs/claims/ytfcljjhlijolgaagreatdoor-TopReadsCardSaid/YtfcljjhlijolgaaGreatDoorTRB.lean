/- Proved: for all bytes n and at, the call of the law TopReads returns true and leaves its arguments alone. Condition: none. -/
import Derived.Test.YtfcljjhlijolgaaGreatDoorTabS
import Derived.Test.YtfcljjhlijolgaaGreatDoorB4
import Derived.Test.YtfcljjhlijolgaaGreatDoorB3
import Derived.Test.YtfcljjhlijolgaaGreatDoorRows
import Derived.WalkKit
import Derived.ProofKit
import Derived.OpenShut
import Derived.ShutString
import Derived.ChangeOld
import Derived.Below
import Derived.SizedLaws
import Derived.Carry
import Derived.ChangeSlices
namespace Go.Proofs.YtfcljjhlijolgaaGreatDoor.topReads
open Go.ChangeShapes Go.WideShapes Go.ChangeAt Go.RowKit
open Go.ChangeMaps (open_string shut_string)
open Eng
set_option linter.unusedVariables false
set_option linter.unusedSimpArgs false
theorem begun : isTrue (evF memK (progS Tryz.prog (compDrawn Tryz.prog)) 100000 26 10 [] H0) = true := by rw [← PS_eq]; kernel_rfl
theorem trues : Trues Tryz.prog [10] := fun f hf => by
  rw [List.mem_singleton] at hf
  subst hf
  exact trues_one compDrawn_ok memK_ok begun
noncomputable abbrev MM : Nat → Option (List AV → Hp → RV) := orM (sumT [10]) memK
theorem MM_ok : Eng.Good Tryz.prog fun f args h => ocase .no (fun m => m args h) (MM f) := orM_ok (sumT_ok trues) memK_ok
noncomputable def MW0 (f : Nat) : Option SumW := none
theorem MW_ok : ∀ f w, MW0 f = some w → ∃ m, MM f = some m ∧ ∀ args h c r k, w args h c r k → ∃ v h' c' r', m args h = .ok v h' ∧ k v h' c' r' := fun f w e => by cases e
end Go.Proofs.YtfcljjhlijolgaaGreatDoor.topReads
