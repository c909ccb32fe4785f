import Derived.Test.YtfeojipiejbagaaGreatDoorRows
import Derived.JoinedOf
import Derived.KernelRfl
set_option maxRecDepth 100000
namespace Go.Proofs.YtfeojipiejbagaaGreatDoor.serverCancels
open Go
theorem k0 : Rows.serverCancelsRow.wf (OpenSpec.ofChange Rows.serverCancelsSpec) = true := by kernel_rfl
theorem k4 : namedTie Tryz.pinned.checked.prog Rows.serverCancelsRow.named Rows.serverCancelsSpec.vars = true := by kernel_rfl
theorem k8 : (Tryz.pinned.checked.prog.stopKnobs == []) = true := by kernel_rfl
theorem k12 : (Rows.serverCancelsRow.named == Tryz.pinned.checked.prog.varsNamed 3) = true := by kernel_rfl
theorem k16 : (Rows.serverCancelsRow.loops == (Tryz.f3.params.toList ++ Rows.serverCancelsSpec.plain.varTypes Tryz.pinned.checked.prog).any (Tryz.pinned.checked.prog.loopsFrom ·)) = true := by kernel_rfl
theorem k20 : (Rows.serverCancelsRow.ifacesOut == Tryz.f3.resultTypes.toList.any (Tryz.pinned.checked.prog.ifacesRec ·)) = true := by kernel_rfl
theorem k24 : Tryz.pinned.checked.prog.stopsHeard = true := by kernel_rfl
end Go.Proofs.YtfeojipiejbagaaGreatDoor.serverCancels
