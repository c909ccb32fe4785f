import Derived.Test.YtfcljjhlijolgaaGreatDoorRows
import Derived.JoinedOf
import Derived.KernelRfl
set_option maxRecDepth 100000
namespace Go.Proofs.YtfcljjhlijolgaaGreatDoor.serverNames
open Go
theorem k0 : Rows.serverNamesRow.wf (OpenSpec.ofChange Rows.serverNamesSpec) = true := by kernel_rfl
theorem k4 : namedTie Tryz.pinned.checked.prog Rows.serverNamesRow.named Rows.serverNamesSpec.vars = true := by kernel_rfl
theorem k8 : (Tryz.pinned.checked.prog.stopKnobs == []) = true := by kernel_rfl
theorem k12 : (Rows.serverNamesRow.named == Tryz.pinned.checked.prog.varsNamed 5) = true := by kernel_rfl
theorem k16 : (Rows.serverNamesRow.loops == (Tryz.f5.params.toList ++ Rows.serverNamesSpec.plain.varTypes Tryz.pinned.checked.prog).any (Tryz.pinned.checked.prog.loopsFrom ·)) = true := by kernel_rfl
theorem k20 : (Rows.serverNamesRow.ifacesOut == Tryz.f5.resultTypes.toList.any (Tryz.pinned.checked.prog.ifacesRec ·)) = true := by kernel_rfl
theorem k24 : Tryz.pinned.checked.prog.stopsHeard = true := by kernel_rfl
end Go.Proofs.YtfcljjhlijolgaaGreatDoor.serverNames
