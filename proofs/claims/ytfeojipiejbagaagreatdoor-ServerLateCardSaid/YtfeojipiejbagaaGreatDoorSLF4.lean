import Derived.Test.YtfeojipiejbagaaGreatDoorRows
import Derived.JoinedOf
import Derived.KernelRfl
set_option maxRecDepth 100000
namespace Go.Proofs.YtfeojipiejbagaaGreatDoor.serverLate
open Go
theorem k3 : Tryz.f4.params.all (Tryz.pinned.checked.prog.readableRec ·) = true := by kernel_rfl
theorem k7 : (Rows.serverLateRow.knobs == []) = true := by kernel_rfl
theorem k11 : (Rows.serverLateRow.recurses == Tryz.pinned.checked.prog.recurses 4) = true := by kernel_rfl
theorem k15 : (Rows.serverLateRow.mapsOut == Tryz.pinned.checked.prog.mapsAmong Tryz.f4.resultTypes.toList) = true := by kernel_rfl
theorem k19 : Tryz.f4.resultTypes.all (fun t => Tryz.pinned.checked.prog.readableRec t && decide (t < Tryz.pinned.checked.prog.types.size)) = true := by kernel_rfl
theorem k23 : Rows.serverLateRow.shortTexts.isNone = true := by kernel_rfl
theorem k27 : (Tryz.pinned.checked.prog.make == some Rows.serverLateRow.make) = true := by kernel_rfl
theorem k31 : Rows.serverLateRow.veiledFits Tryz.pinned.checked.prog Tryz.f4.params.toList (Tryz.f4.params.toList ++ Rows.serverLateSpec.plain.varTypes Tryz.pinned.checked.prog ++ Tryz.f4.resultTypes.toList) = true := by kernel_rfl
end Go.Proofs.YtfeojipiejbagaaGreatDoor.serverLate
