/- No function of a program starts a goroutine: then no row's call does. -/
import GoSem.ClaimGoes
namespace Eng
open Go
theorem goes_of {c : OpenClaim} {P : Program} {f : FuncId} (hst : c.start = .entering) (hfn : P.funcNamed c.func = some f) (hall : P.funcs.any Func.goes = false) : false = c.goesBy P := by
  have h : ∀ g : Nat, (P.funcs[g]?).any Func.goes = false := fun g => by
    cases e : P.funcs[g]? with
    | none => rfl
    | some fn =>
      cases hp : fn.goes with
      | false => exact hp
      | true =>
        have := Array.any_eq_true'.2 ⟨fn, Array.mem_of_getElem? e, hp⟩
        rw [hall] at this; cases this
  unfold OpenClaim.goesBy Program.goesAt Program.goesFrom
  rw [hfn, hst]
  show false = (P.goes f || false)
  rw [Bool.or_false]
  unfold Program.goes
  rw [hall, Bool.and_false, Bool.or_false, show (fun g => (P.funcs[g]?).any Func.goes) = fun _ => false from funext h]
  simp
end Eng
