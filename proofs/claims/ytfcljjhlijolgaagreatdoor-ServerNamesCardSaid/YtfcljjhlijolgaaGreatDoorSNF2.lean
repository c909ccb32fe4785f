import Derived.Test.YtfcljjhlijolgaaGreatDoorRows
import Derived.JoinedOf
import Derived.KernelRfl
set_option maxRecDepth 100000
namespace Go.Proofs.YtfcljjhlijolgaaGreatDoor.serverNames
open Go
theorem k1 : laidOutB Tryz.pinned.checked.prog = true := by kernel_rfl
theorem k5 : (Rows.serverNamesRow.stops == []) = true := by kernel_rfl
theorem k9 : (Rows.serverNamesRow.inPlace == Tryz.pinned.checked.prog.inPlace 5) = true := by kernel_rfl
theorem k13 : (Rows.serverNamesRow.maps == (Tryz.f5.params.toList ++ Rows.serverNamesSpec.plain.varTypes Tryz.pinned.checked.prog).any (Tryz.pinned.checked.prog.mapsRec ·)) = true := by kernel_rfl
theorem k17 : (Rows.serverNamesRow.wideKeys == (Tryz.f5.params.toList ++ Rows.serverNamesSpec.plain.varTypes Tryz.pinned.checked.prog ++ Tryz.f5.resultTypes.toList).any (Tryz.pinned.checked.prog.wideKeysFrom ·)) = true := by kernel_rfl
theorem k21 : (Rows.serverNamesRow.loopsOut == Tryz.f5.resultTypes.toList.any (Tryz.pinned.checked.prog.loopsFrom ·)) = true := by kernel_rfl
theorem k25 : Tryz.pinned.checked.prog.mayEnter = true := by kernel_rfl
theorem k29 : (Rows.serverNamesRow.pinned == Rows.serverNamesRow.pinnedBy) = true := by kernel_rfl
end Go.Proofs.YtfcljjhlijolgaaGreatDoor.serverNames
