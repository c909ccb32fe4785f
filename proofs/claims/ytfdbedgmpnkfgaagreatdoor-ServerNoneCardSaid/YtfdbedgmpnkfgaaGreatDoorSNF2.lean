import Derived.Test.YtfdbedgmpnkfgaaGreatDoorRows
import Derived.JoinedOf
import Derived.KernelRfl
set_option maxRecDepth 100000
namespace Go.Proofs.YtfdbedgmpnkfgaaGreatDoor.serverNone
open Go
theorem k1 : laidOutB Tryz.pinned.checked.prog = true := by kernel_rfl
theorem k5 : (Rows.serverNoneRow.stops == []) = true := by kernel_rfl
theorem k9 : (Rows.serverNoneRow.inPlace == Tryz.pinned.checked.prog.inPlace 4) = true := by kernel_rfl
theorem k13 : (Rows.serverNoneRow.maps == (Tryz.f4.params.toList ++ Rows.serverNoneSpec.plain.varTypes Tryz.pinned.checked.prog).any (Tryz.pinned.checked.prog.mapsRec ·)) = true := by kernel_rfl
theorem k17 : (Rows.serverNoneRow.wideKeys == (Tryz.f4.params.toList ++ Rows.serverNoneSpec.plain.varTypes Tryz.pinned.checked.prog ++ Tryz.f4.resultTypes.toList).any (Tryz.pinned.checked.prog.wideKeysFrom ·)) = true := by kernel_rfl
theorem k21 : (Rows.serverNoneRow.loopsOut == Tryz.f4.resultTypes.toList.any (Tryz.pinned.checked.prog.loopsFrom ·)) = true := by kernel_rfl
theorem k25 : Tryz.pinned.checked.prog.mayEnter = true := by kernel_rfl
theorem k29 : (Rows.serverNoneRow.pinned == Rows.serverNoneRow.pinnedBy) = true := by kernel_rfl
end Go.Proofs.YtfdbedgmpnkfgaaGreatDoor.serverNone
