import Derived.Test.YtfcljjhlijolgaaGreatDoorRows
import Derived.JoinedOf
import Derived.KernelRfl
set_option maxRecDepth 100000
namespace Go.Proofs.YtfcljjhlijolgaaGreatDoor.topTokens
open Go
theorem k1 : laidOutB Tryz.pinned.checked.prog = true := by kernel_rfl
theorem k5 : (Rows.topTokensRow.stops == []) = true := by kernel_rfl
theorem k9 : (Rows.topTokensRow.inPlace == Tryz.pinned.checked.prog.inPlace 9) = true := by kernel_rfl
theorem k13 : (Rows.topTokensRow.maps == (Tryz.f9.params.toList ++ Rows.topTokensSpec.plain.varTypes Tryz.pinned.checked.prog).any (Tryz.pinned.checked.prog.mapsRec ·)) = true := by kernel_rfl
theorem k17 : (Rows.topTokensRow.wideKeys == (Tryz.f9.params.toList ++ Rows.topTokensSpec.plain.varTypes Tryz.pinned.checked.prog ++ Tryz.f9.resultTypes.toList).any (Tryz.pinned.checked.prog.wideKeysFrom ·)) = true := by kernel_rfl
theorem k21 : (Rows.topTokensRow.loopsOut == Tryz.f9.resultTypes.toList.any (Tryz.pinned.checked.prog.loopsFrom ·)) = true := by kernel_rfl
theorem k25 : Tryz.pinned.checked.prog.mayEnter = true := by kernel_rfl
theorem k29 : (Rows.topTokensRow.pinned == Rows.topTokensRow.pinnedBy) = true := by kernel_rfl
end Go.Proofs.YtfcljjhlijolgaaGreatDoor.topTokens
