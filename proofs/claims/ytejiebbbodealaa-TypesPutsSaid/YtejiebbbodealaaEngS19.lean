/- The engine's soundness, part 19: what a law's evaluation gives. -/
import Derived.Test.YtejiebbbodealaaEngS18
set_option linter.unusedVariables false
namespace Eng
open Go Go.RowKit
section
variable {P : Program} {μ μ' : Mp} {h h' : Hp} {w w' : World}
def Mp.none : Mp := ⟨fun _ => Option.none, fun _ => false, fun _ => 0⟩
theorem Sim.none (w : World) : Sim Mp.none H0 w :=
  ⟨fun _ _ => rfl, fun b _ => tget_lf _, nofun, nofun, nofun, nofun⟩
def noM (_ : Nat) : Option (List AV → Hp → RV) := Option.none
theorem noM_ok : Good P fun f args h => ocase .no (fun m => m args h) (noM f) := fun f args h v h' μ w cargs e hs r => by cases e
noncomputable def isTrue (r : RV) : Bool := r.cs false fun v _ => (avB v).cs false fun b => b
theorem isTrue_inv {r : RV} (h : isTrue r = true) : ∃ h', r = .ok (.bool true) h' := by
  cases r with
  | no => cases h
  | ok v h' =>
    cases v <;> first | (cases h; done) | skip
    rename_i b
    have h : b = true := h
    subst h
    exact ⟨h', rfl⟩
theorem Goes.below (g : Goes Mp.none h w μ' h' w') : Below w.heap.size w w' := ⟨g.os, g.tape, g.output, g.heap, fun k hk => g.kept k hk rfl⟩
theorem closed_law {D : Nat → Array Oper → AC} (hD : DrawOk P D) {M : Nat → Option (List AV → Hp → RV)} (hM : Good P fun f args h => ocase .no (fun m => m args h) (M f)) (N d f : Nat) (w : World)
    (args : List AV) (cargs : Array Value) (r : VRs Mp.none args cargs.toList) (e : isTrue (evF M (progS P D) N d f args H0) = true) :
    Calls P f cargs w fun e w' => e = .returned (.bool true) ∧ Below w.heap.size w w' := by
  obtain ⟨h', e1⟩ := isTrue_inv e
  refine (evF_ok hD hM N d f args H0 _ h' Mp.none w cargs e1 (.none w) r).2.mono fun e w' hR => ?_
  obtain ⟨μ', y, rfl, ry, hs, g⟩ := hR
  rw [VR_bool] at ry
  subst ry
  exact ⟨rfl, g.below⟩
end
end Eng
