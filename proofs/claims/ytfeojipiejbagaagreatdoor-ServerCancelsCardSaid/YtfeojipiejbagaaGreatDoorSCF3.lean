import Derived.Test.YtfeojipiejbagaaGreatDoorRows
import Derived.JoinedOf
import Derived.KernelRfl
set_option maxRecDepth 100000
namespace Go.Proofs.YtfeojipiejbagaaGreatDoor.serverCancels
open Go
theorem k2 : mapsRowed Tryz.pinned.checked.prog = true := by kernel_rfl
theorem k6 : (Tryz.pinned.checked.prog.stops == []) = true := by kernel_rfl
theorem k10 : (Rows.serverCancelsRow.unfollowed == Tryz.pinned.checked.prog.unfollowed 3) = true := by kernel_rfl
theorem k14 : (Rows.serverCancelsRow.ifaces == (Tryz.f3.params.toList ++ Rows.serverCancelsSpec.plain.varTypes Tryz.pinned.checked.prog).any (Tryz.pinned.checked.prog.ifacesRec ·)) = true := by kernel_rfl
theorem k18 : Rows.serverCancelsSpec.vars.all (Tryz.pinned.checked.prog.varReadable ·) = true := by kernel_rfl
theorem k22 : (Rows.serverCancelsRow.plainKeys == Tryz.pinned.checked.prog.plainKeys) = true := by kernel_rfl
theorem k26 : (Rows.serverCancelsRow.lifted == Tryz.pinned.checked.prog.liftsFinal) = true := by kernel_rfl
theorem k30 : (Rows.serverCancelsRow.veiled == (Tryz.f3.params.toList ++ Rows.serverCancelsSpec.plain.varTypes Tryz.pinned.checked.prog ++ Tryz.f3.resultTypes.toList).any (Tryz.pinned.checked.prog.veiledRec ·)) = true := by kernel_rfl
end Go.Proofs.YtfeojipiejbagaaGreatDoor.serverCancels
