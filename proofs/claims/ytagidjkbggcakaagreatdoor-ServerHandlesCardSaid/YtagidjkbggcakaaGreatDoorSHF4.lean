import Derived.Test.YtagidjkbggcakaaGreatDoorRows
import Derived.JoinedOf
import Derived.KernelRfl
set_option maxRecDepth 100000
namespace Go.Proofs.YtagidjkbggcakaaGreatDoor.serverHandles
open Go
theorem k3 : Tryz.f3.params.all (Tryz.pinned.checked.prog.readableRec ·) = true := by kernel_rfl
theorem k7 : (Rows.serverHandlesRow.knobs == []) = true := by kernel_rfl
theorem k11 : (Rows.serverHandlesRow.recurses == Tryz.pinned.checked.prog.recurses 3) = true := by kernel_rfl
theorem k15 : (Rows.serverHandlesRow.mapsOut == Tryz.pinned.checked.prog.mapsAmong Tryz.f3.resultTypes.toList) = true := by kernel_rfl
theorem k19 : Tryz.f3.resultTypes.all (fun t => Tryz.pinned.checked.prog.readableRec t && decide (t < Tryz.pinned.checked.prog.types.size)) = true := by kernel_rfl
theorem k23 : Rows.serverHandlesRow.shortTexts.isNone = true := by kernel_rfl
theorem k27 : (Tryz.pinned.checked.prog.make == some Rows.serverHandlesRow.make) = true := by kernel_rfl
theorem k31 : Rows.serverHandlesRow.veiledFits Tryz.pinned.checked.prog Tryz.f3.params.toList (Tryz.f3.params.toList ++ Rows.serverHandlesSpec.plain.varTypes Tryz.pinned.checked.prog ++ Tryz.f3.resultTypes.toList) = true := by kernel_rfl
end Go.Proofs.YtagidjkbggcakaaGreatDoor.serverHandles
