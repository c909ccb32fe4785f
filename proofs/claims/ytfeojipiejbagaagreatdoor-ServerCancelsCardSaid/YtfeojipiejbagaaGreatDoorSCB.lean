/- What the law ServerCancels stands on. -/
import Derived.Test.YtfeojipiejbagaaGreatDoorRunS
import Derived.Test.YtfeojipiejbagaaGreatDoorB4
import Derived.Test.YtfeojipiejbagaaGreatDoorB3
import Derived.Test.YtfeojipiejbagaaGreatDoorRows
import Derived.WalkKit
import Derived.ProofKit
import Derived.OpenShut
import Derived.ShutString
import Derived.ChangeOld
import Derived.Below
import Derived.SizedLaws
import Derived.Carry
import Derived.ChangeSlices
namespace Go.Proofs.YtfeojipiejbagaaGreatDoor.serverCancels
open Go.ChangeShapes Go.WideShapes Go.ChangeAt Go.RowKit
open Go.ChangeMaps (open_string shut_string)
open Eng
set_option linter.unusedVariables false
set_option linter.unusedSimpArgs false
noncomputable def sumR (S : List Nat) (f : Nat) : Option (List AV → Hp → RV) := bc (Nat.beq f 99) (some (fitM (runF baseR S))) none
theorem sumR_ok (S : List Nat) : Eng.Good Tryz.prog fun f args h => ocase .no (fun m => m args h) (sumR S f) := fun f args h v h' μ w cargs e hs r => by
  replace e : ocase RV.no (fun m => m args h) (bc (Nat.beq f 99) (some (fitM (runF baseR S))) none) = .ok v h' := e
  cases hf : Nat.beq f 99 with
  | false => rw [hf] at e; cases e
  | true =>
    obtain rfl : f = 99 := Nat.eq_of_beq_eq_true hf
    rw [hf] at e
    obtain ⟨k1, k2⟩ := bcRV (show bc (fitsB args) (runF baseR S args h) .no = .ok v h' from e)
    exact runF_ok baseR_ok k1 k2 hs r
noncomputable abbrev runK (S : List Nat) := orM memK (sumR S)
theorem runK_ok (S : List Nat) : Eng.Good Tryz.prog fun f args h => ocase .no (fun m => m args h) (runK S f) := orM_ok memK_ok (sumR_ok S)
noncomputable def MWR (S : List Nat) (f : Nat) : Option SumW := Option.rec (motive := fun _ => Option SumW) none (fun _ => some (runQ baseR S)) (bc (Nat.beq f 99) (some ()) none)
theorem begun : isTrue (evF memK (progS Tryz.prog (compDrawn Tryz.prog)) 100000 24 6 [] H0) = true := by rw [← PS_eq]; kernel_rfl
theorem trues : Trues Tryz.prog [6] := fun f hf => by
  rw [List.mem_singleton] at hf
  subst hf
  exact trues_one compDrawn_ok memK_ok begun
noncomputable abbrev MM (S : List Nat) : Nat → Option (List AV → Hp → RV) := orM (sumT [6]) (runK S)
theorem MM_ok (S : List Nat) : Eng.Good Tryz.prog fun f args h => ocase .no (fun m => m args h) (MM S f) := orM_ok (sumT_ok trues) (runK_ok S)
theorem MW_ok (S : List Nat) : ∀ f w, MWR S f = some w → ∃ m, MM S f = some m ∧ ∀ args h c r k, w args h c r k → ∃ v h' c' r', m args h = .ok v h' ∧ k v h' c' r' := fun f w e => by
  unfold MWR at e
  cases hf : Nat.beq f 99 with
  | false => rw [hf] at e; cases e
  | true =>
    obtain rfl : f = 99 := Nat.eq_of_beq_eq_true hf
    rw [hf] at e
    cases e
    exact ⟨_, rfl, fun args h c r k hk => runQ_ok hk⟩
end Go.Proofs.YtfeojipiejbagaaGreatDoor.serverCancels
