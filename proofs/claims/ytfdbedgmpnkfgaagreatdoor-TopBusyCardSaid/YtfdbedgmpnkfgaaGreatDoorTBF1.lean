import Derived.Test.YtfdbedgmpnkfgaaGreatDoorRows
import Derived.JoinedOf
import Derived.KernelRfl
set_option maxRecDepth 100000
namespace Go.Proofs.YtfdbedgmpnkfgaaGreatDoor.topBusy
open Go
theorem k0 : Rows.topBusyRow.wf (OpenSpec.ofChange Rows.topBusySpec) = true := by kernel_rfl
theorem k4 : namedTie Tryz.pinned.checked.prog Rows.topBusyRow.named Rows.topBusySpec.vars = true := by kernel_rfl
theorem k8 : (Tryz.pinned.checked.prog.stopKnobs == []) = true := by kernel_rfl
theorem k12 : (Rows.topBusyRow.named == Tryz.pinned.checked.prog.varsNamed 3) = true := by kernel_rfl
theorem k16 : (Rows.topBusyRow.loops == (Tryz.f3.params.toList ++ Rows.topBusySpec.plain.varTypes Tryz.pinned.checked.prog).any (Tryz.pinned.checked.prog.loopsFrom ·)) = true := by kernel_rfl
theorem k20 : (Rows.topBusyRow.ifacesOut == Tryz.f3.resultTypes.toList.any (Tryz.pinned.checked.prog.ifacesRec ·)) = true := by kernel_rfl
theorem k24 : Tryz.pinned.checked.prog.stopsHeard = true := by kernel_rfl
end Go.Proofs.YtfdbedgmpnkfgaaGreatDoor.topBusy
