import Derived.Test.YtgimoeiddjepnaaGreatDoorB4
import Derived.Test.YtgimoeiddjepnaaGreatDoorRows
import Derived.JoinedOf
import Derived.KernelRfl
import GoSem.ClaimGoes
section
set_option maxRecDepth 100000
namespace Go.Proofs.YtgimoeiddjepnaaGreatDoor.scriptParts
open Go
theorem k0 : Rows.scriptPartsRow.wf (OpenSpec.ofChange Rows.scriptPartsSpec) = true := by kernel_rfl
theorem k4 : namedTie Tryz.pinned.checked.prog Rows.scriptPartsRow.named Rows.scriptPartsSpec.vars = true := by kernel_rfl
theorem k8 : (Tryz.pinned.checked.prog.stopKnobs == []) = true := by kernel_rfl
theorem k12 : (Rows.scriptPartsRow.named == Tryz.pinned.checked.prog.varsNamed 4) = true := by kernel_rfl
theorem k16 : (Rows.scriptPartsRow.loops == (Tryz.f4.params.toList ++ Rows.scriptPartsSpec.plain.varTypes Tryz.pinned.checked.prog).any (Tryz.pinned.checked.prog.loopsFrom ·)) = true := by kernel_rfl
theorem k20 : (Rows.scriptPartsRow.ifacesOut == Tryz.f4.resultTypes.toList.any (Tryz.pinned.checked.prog.ifacesRec ·)) = true := by kernel_rfl
theorem k24 : Tryz.pinned.checked.prog.stopsHeard = true := by kernel_rfl
end Go.Proofs.YtgimoeiddjepnaaGreatDoor.scriptParts
end
section
set_option maxRecDepth 100000
namespace Go.Proofs.YtgimoeiddjepnaaGreatDoor.scriptParts
open Go
theorem k1 : laidOutB Tryz.pinned.checked.prog = true := by kernel_rfl
theorem k5 : (Rows.scriptPartsRow.stops == []) = true := by kernel_rfl
theorem k9 : (Rows.scriptPartsRow.inPlace == Tryz.pinned.checked.prog.inPlace 4) = true := by kernel_rfl
theorem k13 : (Rows.scriptPartsRow.maps == (Tryz.f4.params.toList ++ Rows.scriptPartsSpec.plain.varTypes Tryz.pinned.checked.prog).any (Tryz.pinned.checked.prog.mapsRec ·)) = true := by kernel_rfl
theorem k17 : (Rows.scriptPartsRow.wideKeys == (Tryz.f4.params.toList ++ Rows.scriptPartsSpec.plain.varTypes Tryz.pinned.checked.prog ++ Tryz.f4.resultTypes.toList).any (Tryz.pinned.checked.prog.wideKeysFrom ·)) = true := by kernel_rfl
theorem k21 : (Rows.scriptPartsRow.loopsOut == Tryz.f4.resultTypes.toList.any (Tryz.pinned.checked.prog.loopsFrom ·)) = true := by kernel_rfl
theorem k25 : Tryz.pinned.checked.prog.mayEnter = true := by kernel_rfl
theorem k29 : (Rows.scriptPartsRow.pinned == Rows.scriptPartsRow.pinnedBy) = true := by kernel_rfl
end Go.Proofs.YtgimoeiddjepnaaGreatDoor.scriptParts
end
section
set_option maxRecDepth 100000
namespace Go.Proofs.YtgimoeiddjepnaaGreatDoor.scriptParts
open Go
theorem k2 : mapsRowed Tryz.pinned.checked.prog = true := by kernel_rfl
theorem k6 : (Tryz.pinned.checked.prog.stops == []) = true := by kernel_rfl
theorem k10 : (Rows.scriptPartsRow.unfollowed == Tryz.pinned.checked.prog.unfollowed 4) = true := by kernel_rfl
theorem k14 : (Rows.scriptPartsRow.ifaces == (Tryz.f4.params.toList ++ Rows.scriptPartsSpec.plain.varTypes Tryz.pinned.checked.prog).any (Tryz.pinned.checked.prog.ifacesRec ·)) = true := by kernel_rfl
theorem k18 : Rows.scriptPartsSpec.vars.all (Tryz.pinned.checked.prog.varReadable ·) = true := by kernel_rfl
theorem k22 : (Rows.scriptPartsRow.plainKeys == Tryz.pinned.checked.prog.plainKeys) = true := by kernel_rfl
theorem k26 : (Rows.scriptPartsRow.lifted == Tryz.pinned.checked.prog.liftsFinal) = true := by kernel_rfl
theorem k30 : (Rows.scriptPartsRow.veiled == (Tryz.f4.params.toList ++ Rows.scriptPartsSpec.plain.varTypes Tryz.pinned.checked.prog ++ Tryz.f4.resultTypes.toList).any (Tryz.pinned.checked.prog.veiledRec ·)) = true := by kernel_rfl
end Go.Proofs.YtgimoeiddjepnaaGreatDoor.scriptParts
end
section
set_option maxRecDepth 100000
namespace Go.Proofs.YtgimoeiddjepnaaGreatDoor.scriptParts
open Go
theorem k3 : Tryz.f4.params.all (Tryz.pinned.checked.prog.readableRec ·) = true := by kernel_rfl
theorem k7 : (Rows.scriptPartsRow.knobs == []) = true := by kernel_rfl
theorem k11 : (Rows.scriptPartsRow.recurses == Tryz.pinned.checked.prog.recurses 4) = true := by kernel_rfl
theorem k15 : (Rows.scriptPartsRow.mapsOut == Tryz.pinned.checked.prog.mapsAmong Tryz.f4.resultTypes.toList) = true := by kernel_rfl
theorem k19 : Tryz.f4.resultTypes.all (fun t => Tryz.pinned.checked.prog.readableRec t && decide (t < Tryz.pinned.checked.prog.types.size)) = true := by kernel_rfl
theorem k23 : Rows.scriptPartsRow.shortTexts.isNone = true := by kernel_rfl
theorem k27 : (Tryz.pinned.checked.prog.make == some Rows.scriptPartsRow.make) = true := by kernel_rfl
theorem k31 : Rows.scriptPartsRow.veiledFits Tryz.pinned.checked.prog Tryz.f4.params.toList (Tryz.f4.params.toList ++ Rows.scriptPartsSpec.plain.varTypes Tryz.pinned.checked.prog ++ Tryz.f4.resultTypes.toList) = true := by kernel_rfl
end Go.Proofs.YtgimoeiddjepnaaGreatDoor.scriptParts
end
section
namespace Go.Proofs.YtgimoeiddjepnaaGreatDoor.scriptParts
open Go
theorem andI {a b : Bool} (x : a = true) (y : b = true) : (a && b) = true := by rw [x, y]; rfl
theorem closed : joinedFacts Tryz.pinned.checked.prog 4 Tryz.f4 Rows.scriptPartsSpec Rows.scriptPartsRow = true := by
  unfold joinedFacts
  exact (andI (andI (andI (andI (andI (andI (andI (andI (andI (andI (andI (andI (andI (andI (andI (andI (andI (andI (andI (andI (andI (andI (andI (andI (andI (andI (andI (andI (andI (andI (andI k0 k1) k2) k3) k4) k5) k6) k7) k8) k9) k10) k11) k12) k13) k14) k15) k16) k17) k18) k19) k20) k21) k22) k23) k24) k25) k26) k27) (by kernel_rfl)) k29) k30) k31)
end Go.Proofs.YtgimoeiddjepnaaGreatDoor.scriptParts
end
section
namespace Eng
open Go
theorem goes_of {c : OpenClaim} {P : Program} {f : FuncId} (hst : c.start = .entering) (hfn : P.funcNamed c.func = some f) (hall : P.funcs.any Func.goes = false) : false = c.goesBy P := by
  have h : ∀ g : Nat, (P.funcs[g]?).any Func.goes = false := fun g => by
    cases e : P.funcs[g]? with
    | none => rfl
    | some fn =>
      cases hp : fn.goes with
      | false => exact hp
      | true =>
        have := Array.any_eq_true'.2 ⟨fn, Array.mem_of_getElem? e, hp⟩
        rw [hall] at this; cases this
  unfold OpenClaim.goesBy Program.goesAt Program.goesFrom
  rw [hfn, hst]
  show false = (P.goes f || false)
  rw [Bool.or_false]
  unfold Program.goes
  rw [hall, Bool.and_false, Bool.or_false, show (fun g => (P.funcs[g]?).any Func.goes) = fun _ => false from funext h]
  simp
end Eng
end
