import Derived.Test.YtfcljjhlijolgaaGreatDoorRows
import Derived.JoinedOf
import Derived.KernelRfl
set_option maxRecDepth 100000
namespace Go.Proofs.YtfcljjhlijolgaaGreatDoor.topReads
open Go
theorem k2 : mapsRowed Tryz.pinned.checked.prog = true := by kernel_rfl
theorem k6 : (Tryz.pinned.checked.prog.stops == []) = true := by kernel_rfl
theorem k10 : (Rows.topReadsRow.unfollowed == Tryz.pinned.checked.prog.unfollowed 3) = true := by kernel_rfl
theorem k14 : (Rows.topReadsRow.ifaces == (Tryz.f3.params.toList ++ Rows.topReadsSpec.plain.varTypes Tryz.pinned.checked.prog).any (Tryz.pinned.checked.prog.ifacesRec ·)) = true := by kernel_rfl
theorem k18 : Rows.topReadsSpec.vars.all (Tryz.pinned.checked.prog.varReadable ·) = true := by kernel_rfl
theorem k22 : (Rows.topReadsRow.plainKeys == Tryz.pinned.checked.prog.plainKeys) = true := by kernel_rfl
theorem k26 : (Rows.topReadsRow.lifted == Tryz.pinned.checked.prog.liftsFinal) = true := by kernel_rfl
theorem k30 : (Rows.topReadsRow.veiled == (Tryz.f3.params.toList ++ Rows.topReadsSpec.plain.varTypes Tryz.pinned.checked.prog ++ Tryz.f3.resultTypes.toList).any (Tryz.pinned.checked.prog.veiledRec ·)) = true := by kernel_rfl
end Go.Proofs.YtfcljjhlijolgaaGreatDoor.topReads
