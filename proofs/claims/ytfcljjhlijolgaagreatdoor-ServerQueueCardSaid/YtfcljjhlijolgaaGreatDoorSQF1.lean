import Derived.Test.YtfcljjhlijolgaaGreatDoorRows
import Derived.JoinedOf
import Derived.KernelRfl
set_option maxRecDepth 100000
namespace Go.Proofs.YtfcljjhlijolgaaGreatDoor.serverQueue
open Go
theorem Wq:Rows.serverQueueRow.wf (OpenSpec.ofChange Rows.serverQueueSpec)=true:=by kernel_rfl
theorem Ws:namedTie Tryz.pinned.checked.prog Rows.serverQueueRow.named Rows.serverQueueSpec.vars=true:=by kernel_rfl
theorem Wt:(Tryz.pinned.checked.prog.stopKnobs == [])=true:=by kernel_rfl
theorem Vq:(Rows.serverQueueRow.named == Tryz.pinned.checked.prog.varsNamed 6)=true:=by kernel_rfl
theorem Vr:(Rows.serverQueueRow.loops == (Tryz.f6.params.toList++Rows.serverQueueSpec.plain.varTypes Tryz.pinned.checked.prog).any (Tryz.pinned.checked.prog.loopsFrom ·))=true:=by kernel_rfl
theorem Vs:(Rows.serverQueueRow.ifacesOut == Tryz.f6.resultTypes.toList.any (Tryz.pinned.checked.prog.ifacesRec ·))=true:=by kernel_rfl
theorem Vt:Tryz.pinned.checked.prog.stopsHeard=true:=by kernel_rfl
end Go.Proofs.YtfcljjhlijolgaaGreatDoor.serverQueue
