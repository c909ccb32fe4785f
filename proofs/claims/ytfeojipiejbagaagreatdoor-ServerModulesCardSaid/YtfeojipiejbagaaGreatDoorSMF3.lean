import Derived.Test.YtfeojipiejbagaaGreatDoorRows
import Derived.JoinedOf
import Derived.KernelRfl
set_option maxRecDepth 100000
namespace Go.Proofs.YtfeojipiejbagaaGreatDoor.serverModules
open Go
theorem k2 : mapsRowed Tryz.pinned.checked.prog = true := by kernel_rfl
theorem k6 : (Tryz.pinned.checked.prog.stops == []) = true := by kernel_rfl
theorem k10 : (Rows.serverModulesRow.unfollowed == Tryz.pinned.checked.prog.unfollowed 5) = true := by kernel_rfl
theorem k14 : (Rows.serverModulesRow.ifaces == (Tryz.f5.params.toList ++ Rows.serverModulesSpec.plain.varTypes Tryz.pinned.checked.prog).any (Tryz.pinned.checked.prog.ifacesRec ·)) = true := by kernel_rfl
theorem k18 : Rows.serverModulesSpec.vars.all (Tryz.pinned.checked.prog.varReadable ·) = true := by kernel_rfl
theorem k22 : (Rows.serverModulesRow.plainKeys == Tryz.pinned.checked.prog.plainKeys) = true := by kernel_rfl
theorem k26 : (Rows.serverModulesRow.lifted == Tryz.pinned.checked.prog.liftsFinal) = true := by kernel_rfl
theorem k30 : (Rows.serverModulesRow.veiled == (Tryz.f5.params.toList ++ Rows.serverModulesSpec.plain.varTypes Tryz.pinned.checked.prog ++ Tryz.f5.resultTypes.toList).any (Tryz.pinned.checked.prog.veiledRec ·)) = true := by kernel_rfl
end Go.Proofs.YtfeojipiejbagaaGreatDoor.serverModules
