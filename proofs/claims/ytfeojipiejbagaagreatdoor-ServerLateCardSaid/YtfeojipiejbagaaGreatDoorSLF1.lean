import Derived.Test.YtfeojipiejbagaaGreatDoorRows
import Derived.JoinedOf
import Derived.KernelRfl
set_option maxRecDepth 100000
namespace Go.Proofs.YtfeojipiejbagaaGreatDoor.serverLate
open Go
theorem k0 : Rows.serverLateRow.wf (OpenSpec.ofChange Rows.serverLateSpec) = true := by kernel_rfl
theorem k4 : namedTie Tryz.pinned.checked.prog Rows.serverLateRow.named Rows.serverLateSpec.vars = true := by kernel_rfl
theorem k8 : (Tryz.pinned.checked.prog.stopKnobs == []) = true := by kernel_rfl
theorem k12 : (Rows.serverLateRow.named == Tryz.pinned.checked.prog.varsNamed 4) = true := by kernel_rfl
theorem k16 : (Rows.serverLateRow.loops == (Tryz.f4.params.toList ++ Rows.serverLateSpec.plain.varTypes Tryz.pinned.checked.prog).any (Tryz.pinned.checked.prog.loopsFrom ·)) = true := by kernel_rfl
theorem k20 : (Rows.serverLateRow.ifacesOut == Tryz.f4.resultTypes.toList.any (Tryz.pinned.checked.prog.ifacesRec ·)) = true := by kernel_rfl
theorem k24 : Tryz.pinned.checked.prog.stopsHeard = true := by kernel_rfl
end Go.Proofs.YtfeojipiejbagaaGreatDoor.serverLate
