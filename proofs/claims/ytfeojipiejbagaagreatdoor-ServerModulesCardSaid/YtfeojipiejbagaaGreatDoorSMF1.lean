import Derived.Test.YtfeojipiejbagaaGreatDoorRows
import Derived.JoinedOf
import Derived.KernelRfl
set_option maxRecDepth 100000
namespace Go.Proofs.YtfeojipiejbagaaGreatDoor.serverModules
open Go
theorem k0 : Rows.serverModulesRow.wf (OpenSpec.ofChange Rows.serverModulesSpec) = true := by kernel_rfl
theorem k4 : namedTie Tryz.pinned.checked.prog Rows.serverModulesRow.named Rows.serverModulesSpec.vars = true := by kernel_rfl
theorem k8 : (Tryz.pinned.checked.prog.stopKnobs == []) = true := by kernel_rfl
theorem k12 : (Rows.serverModulesRow.named == Tryz.pinned.checked.prog.varsNamed 5) = true := by kernel_rfl
theorem k16 : (Rows.serverModulesRow.loops == (Tryz.f5.params.toList ++ Rows.serverModulesSpec.plain.varTypes Tryz.pinned.checked.prog).any (Tryz.pinned.checked.prog.loopsFrom ·)) = true := by kernel_rfl
theorem k20 : (Rows.serverModulesRow.ifacesOut == Tryz.f5.resultTypes.toList.any (Tryz.pinned.checked.prog.ifacesRec ·)) = true := by kernel_rfl
theorem k24 : Tryz.pinned.checked.prog.stopsHeard = true := by kernel_rfl
end Go.Proofs.YtfeojipiejbagaaGreatDoor.serverModules
