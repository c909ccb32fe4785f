import Derived.Test.YtfeojipiejbagaaGreatDoorRows
import Derived.JoinedOf
import Derived.KernelRfl
set_option maxRecDepth 100000
namespace Go.Proofs.YtfeojipiejbagaaGreatDoor.serverLate
open Go
theorem k1 : laidOutB Tryz.pinned.checked.prog = true := by kernel_rfl
theorem k5 : (Rows.serverLateRow.stops == []) = true := by kernel_rfl
theorem k9 : (Rows.serverLateRow.inPlace == Tryz.pinned.checked.prog.inPlace 4) = true := by kernel_rfl
theorem k13 : (Rows.serverLateRow.maps == (Tryz.f4.params.toList ++ Rows.serverLateSpec.plain.varTypes Tryz.pinned.checked.prog).any (Tryz.pinned.checked.prog.mapsRec ·)) = true := by kernel_rfl
theorem k17 : (Rows.serverLateRow.wideKeys == (Tryz.f4.params.toList ++ Rows.serverLateSpec.plain.varTypes Tryz.pinned.checked.prog ++ Tryz.f4.resultTypes.toList).any (Tryz.pinned.checked.prog.wideKeysFrom ·)) = true := by kernel_rfl
theorem k21 : (Rows.serverLateRow.loopsOut == Tryz.f4.resultTypes.toList.any (Tryz.pinned.checked.prog.loopsFrom ·)) = true := by kernel_rfl
theorem k25 : Tryz.pinned.checked.prog.mayEnter = true := by kernel_rfl
theorem k29 : (Rows.serverLateRow.pinned == Rows.serverLateRow.pinnedBy) = true := by kernel_rfl
end Go.Proofs.YtfeojipiejbagaaGreatDoor.serverLate
