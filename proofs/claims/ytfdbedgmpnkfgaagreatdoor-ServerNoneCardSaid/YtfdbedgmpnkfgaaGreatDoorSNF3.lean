import Derived.Test.YtfdbedgmpnkfgaaGreatDoorRows
import Derived.JoinedOf
import Derived.KernelRfl
set_option maxRecDepth 100000
namespace Go.Proofs.YtfdbedgmpnkfgaaGreatDoor.serverNone
open Go
theorem k2 : mapsRowed Tryz.pinned.checked.prog = true := by kernel_rfl
theorem k6 : (Tryz.pinned.checked.prog.stops == []) = true := by kernel_rfl
theorem k10 : (Rows.serverNoneRow.unfollowed == Tryz.pinned.checked.prog.unfollowed 4) = true := by kernel_rfl
theorem k14 : (Rows.serverNoneRow.ifaces == (Tryz.f4.params.toList ++ Rows.serverNoneSpec.plain.varTypes Tryz.pinned.checked.prog).any (Tryz.pinned.checked.prog.ifacesRec ·)) = true := by kernel_rfl
theorem k18 : Rows.serverNoneSpec.vars.all (Tryz.pinned.checked.prog.varReadable ·) = true := by kernel_rfl
theorem k22 : (Rows.serverNoneRow.plainKeys == Tryz.pinned.checked.prog.plainKeys) = true := by kernel_rfl
theorem k26 : (Rows.serverNoneRow.lifted == Tryz.pinned.checked.prog.liftsFinal) = true := by kernel_rfl
theorem k30 : (Rows.serverNoneRow.veiled == (Tryz.f4.params.toList ++ Rows.serverNoneSpec.plain.varTypes Tryz.pinned.checked.prog ++ Tryz.f4.resultTypes.toList).any (Tryz.pinned.checked.prog.veiledRec ·)) = true := by kernel_rfl
end Go.Proofs.YtfdbedgmpnkfgaaGreatDoor.serverNone
