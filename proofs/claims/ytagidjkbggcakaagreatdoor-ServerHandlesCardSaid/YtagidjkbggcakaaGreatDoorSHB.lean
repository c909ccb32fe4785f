/- What the law ServerHandles stands on. -/
import Derived.Test.YtagidjkbggcakaaGreatDoorGetS
import Derived.Test.YtagidjkbggcakaaGreatDoorB4
import Derived.Test.YtagidjkbggcakaaGreatDoorB3
import Derived.Test.YtagidjkbggcakaaGreatDoorRows
import Derived.WalkKit
import Derived.ProofKit
import Derived.OpenShut
import Derived.ShutString
import Derived.ChangeOld
import Derived.Below
import Derived.SizedLaws
import Derived.Carry
import Derived.ChangeSlices
namespace Go.Proofs.YtagidjkbggcakaaGreatDoor.serverHandles
open Go.ChangeShapes Go.WideShapes Go.ChangeAt Go.RowKit
open Go.ChangeMaps (open_string shut_string)
open Eng
set_option linter.unusedVariables false
set_option linter.unusedSimpArgs false
theorem begun : isTrue (evF getK (progS Tryz.prog (compDrawn Tryz.prog)) 100000 24 4 [] H0) = true := by rw [← PS_eq]; kernel_rfl
theorem trues : Trues Tryz.prog [4] := fun f hf => by
  rw [List.mem_singleton] at hf
  subst hf
  exact trues_one compDrawn_ok getK_ok begun
noncomputable abbrev MM : Nat → Option (List AV → Hp → RV) := orM (sumT [4]) getK
theorem MM_ok : Eng.Good Tryz.prog fun f args h => ocase .no (fun m => m args h) (MM f) := orM_ok (sumT_ok trues) getK_ok
theorem MW_ok : ∀ f w, MWG f = some w → ∃ m, MM f = some m ∧ ∀ args h c r k, w args h c r k → ∃ v h' c' r', m args h = .ok v h' ∧ k v h' c' r' := fun f w e => by
  unfold MWG at e
  cases hf : Nat.beq f 172 with
  | false => rw [hf] at e; cases e
  | true =>
    obtain rfl : f = 172 := Nat.eq_of_beq_eq_true hf
    rw [hf] at e
    cases e
    exact ⟨_, rfl, fun args h c r k hk => getQ_ok base_miss hk⟩
end Go.Proofs.YtagidjkbggcakaaGreatDoor.serverHandles
