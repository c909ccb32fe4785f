import Derived.Test.YtfeojipiejbagaaGreatDoorRows
import Derived.JoinedOf
import Derived.KernelRfl
set_option maxRecDepth 100000
namespace Go.Proofs.YtfeojipiejbagaaGreatDoor.serverCancels
open Go
theorem k1 : laidOutB Tryz.pinned.checked.prog = true := by kernel_rfl
theorem k5 : (Rows.serverCancelsRow.stops == []) = true := by kernel_rfl
theorem k9 : (Rows.serverCancelsRow.inPlace == Tryz.pinned.checked.prog.inPlace 3) = true := by kernel_rfl
theorem k13 : (Rows.serverCancelsRow.maps == (Tryz.f3.params.toList ++ Rows.serverCancelsSpec.plain.varTypes Tryz.pinned.checked.prog).any (Tryz.pinned.checked.prog.mapsRec ·)) = true := by kernel_rfl
theorem k17 : (Rows.serverCancelsRow.wideKeys == (Tryz.f3.params.toList ++ Rows.serverCancelsSpec.plain.varTypes Tryz.pinned.checked.prog ++ Tryz.f3.resultTypes.toList).any (Tryz.pinned.checked.prog.wideKeysFrom ·)) = true := by kernel_rfl
theorem k21 : (Rows.serverCancelsRow.loopsOut == Tryz.f3.resultTypes.toList.any (Tryz.pinned.checked.prog.loopsFrom ·)) = true := by kernel_rfl
theorem k25 : Tryz.pinned.checked.prog.mayEnter = true := by kernel_rfl
theorem k29 : (Rows.serverCancelsRow.pinned == Rows.serverCancelsRow.pinnedBy) = true := by kernel_rfl
end Go.Proofs.YtfeojipiejbagaaGreatDoor.serverCancels
