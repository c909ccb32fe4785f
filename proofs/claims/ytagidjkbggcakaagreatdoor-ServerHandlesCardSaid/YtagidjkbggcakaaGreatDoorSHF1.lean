import Derived.Test.YtagidjkbggcakaaGreatDoorRows
import Derived.JoinedOf
import Derived.KernelRfl
set_option maxRecDepth 100000
namespace Go.Proofs.YtagidjkbggcakaaGreatDoor.serverHandles
open Go
theorem k0 : Rows.serverHandlesRow.wf (OpenSpec.ofChange Rows.serverHandlesSpec) = true := by kernel_rfl
theorem k4 : namedTie Tryz.pinned.checked.prog Rows.serverHandlesRow.named Rows.serverHandlesSpec.vars = true := by kernel_rfl
theorem k8 : (Tryz.pinned.checked.prog.stopKnobs == []) = true := by kernel_rfl
theorem k12 : (Rows.serverHandlesRow.named == Tryz.pinned.checked.prog.varsNamed 3) = true := by kernel_rfl
theorem k16 : (Rows.serverHandlesRow.loops == (Tryz.f3.params.toList ++ Rows.serverHandlesSpec.plain.varTypes Tryz.pinned.checked.prog).any (Tryz.pinned.checked.prog.loopsFrom ·)) = true := by kernel_rfl
theorem k20 : (Rows.serverHandlesRow.ifacesOut == Tryz.f3.resultTypes.toList.any (Tryz.pinned.checked.prog.ifacesRec ·)) = true := by kernel_rfl
theorem k24 : Tryz.pinned.checked.prog.stopsHeard = true := by kernel_rfl
end Go.Proofs.YtagidjkbggcakaaGreatDoor.serverHandles
