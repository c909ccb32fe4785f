import Derived.Test.YtfcljjhlijolgaaGreatDoorRows
import Derived.JoinedOf
import Derived.KernelRfl
set_option maxRecDepth 100000
namespace Go.Proofs.YtfcljjhlijolgaaGreatDoor.serverQueue
open Go
theorem Wz:Tryz.f6.params.all (Tryz.pinned.checked.prog.readableRec ·)=true:=by kernel_rfl
theorem WA:(Rows.serverQueueRow.knobs == [])=true:=by kernel_rfl
theorem VJ:(Rows.serverQueueRow.recurses == Tryz.pinned.checked.prog.recurses 6)=true:=by kernel_rfl
theorem VK:(Rows.serverQueueRow.mapsOut == Tryz.pinned.checked.prog.mapsAmong Tryz.f6.resultTypes.toList)=true:=by kernel_rfl
theorem VN:Tryz.f6.resultTypes.all (fun t=>Tryz.pinned.checked.prog.readableRec t && decide (t < Tryz.pinned.checked.prog.types.size))=true:=by kernel_rfl
theorem VO:Rows.serverQueueRow.shortTexts.isNone=true:=by kernel_rfl
theorem VQ:(Tryz.pinned.checked.prog.make == some Rows.serverQueueRow.make)=true:=by kernel_rfl
theorem VT:Rows.serverQueueRow.veiledFits Tryz.pinned.checked.prog Tryz.f6.params.toList (Tryz.f6.params.toList++Rows.serverQueueSpec.plain.varTypes Tryz.pinned.checked.prog++Tryz.f6.resultTypes.toList)=true:=by kernel_rfl
end Go.Proofs.YtfcljjhlijolgaaGreatDoor.serverQueue
