import Derived.Test.YtfcljjhlijolgaaGreatDoorRows
import Derived.JoinedOf
import Derived.KernelRfl
set_option maxRecDepth 100000
namespace Go.Proofs.YtfcljjhlijolgaaGreatDoor.serverQueue
open Go
theorem Wu:laidOutB Tryz.pinned.checked.prog=true:=by kernel_rfl
theorem Wv:(Rows.serverQueueRow.stops == [])=true:=by kernel_rfl
theorem Ww:(Rows.serverQueueRow.inPlace == Tryz.pinned.checked.prog.inPlace 6)=true:=by kernel_rfl
theorem Vu:(Rows.serverQueueRow.maps == (Tryz.f6.params.toList++Rows.serverQueueSpec.plain.varTypes Tryz.pinned.checked.prog).any (Tryz.pinned.checked.prog.mapsRec ·))=true:=by kernel_rfl
theorem Vv:(Rows.serverQueueRow.wideKeys == (Tryz.f6.params.toList++Rows.serverQueueSpec.plain.varTypes Tryz.pinned.checked.prog++Tryz.f6.resultTypes.toList).any (Tryz.pinned.checked.prog.wideKeysFrom ·))=true:=by kernel_rfl
theorem Vw:(Rows.serverQueueRow.loopsOut == Tryz.f6.resultTypes.toList.any (Tryz.pinned.checked.prog.loopsFrom ·))=true:=by kernel_rfl
theorem Vx:Tryz.pinned.checked.prog.mayEnter=true:=by kernel_rfl
theorem Vy:(Rows.serverQueueRow.pinned == Rows.serverQueueRow.pinnedBy)=true:=by kernel_rfl
end Go.Proofs.YtfcljjhlijolgaaGreatDoor.serverQueue
