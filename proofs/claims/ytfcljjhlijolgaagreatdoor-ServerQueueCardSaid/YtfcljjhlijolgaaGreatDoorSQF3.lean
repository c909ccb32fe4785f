import Derived.Test.YtfcljjhlijolgaaGreatDoorRows
import Derived.JoinedOf
import Derived.KernelRfl
set_option maxRecDepth 100000
namespace Go.Proofs.YtfcljjhlijolgaaGreatDoor.serverQueue
open Go
theorem Wx:mapsRowed Tryz.pinned.checked.prog=true:=by kernel_rfl
theorem Wy:(Tryz.pinned.checked.prog.stops == [])=true:=by kernel_rfl
theorem Vz:(Rows.serverQueueRow.unfollowed == Tryz.pinned.checked.prog.unfollowed 6)=true:=by kernel_rfl
theorem VC:(Rows.serverQueueRow.ifaces == (Tryz.f6.params.toList++Rows.serverQueueSpec.plain.varTypes Tryz.pinned.checked.prog).any (Tryz.pinned.checked.prog.ifacesRec ·))=true:=by kernel_rfl
theorem VD:Rows.serverQueueSpec.vars.all (Tryz.pinned.checked.prog.varReadable ·)=true:=by kernel_rfl
theorem VE:(Rows.serverQueueRow.plainKeys == Tryz.pinned.checked.prog.plainKeys)=true:=by kernel_rfl
theorem VG:(Rows.serverQueueRow.lifted == Tryz.pinned.checked.prog.liftsFinal)=true:=by kernel_rfl
theorem VH:(Rows.serverQueueRow.veiled == (Tryz.f6.params.toList++Rows.serverQueueSpec.plain.varTypes Tryz.pinned.checked.prog++Tryz.f6.resultTypes.toList).any (Tryz.pinned.checked.prog.veiledRec ·))=true:=by kernel_rfl
end Go.Proofs.YtfcljjhlijolgaaGreatDoor.serverQueue
