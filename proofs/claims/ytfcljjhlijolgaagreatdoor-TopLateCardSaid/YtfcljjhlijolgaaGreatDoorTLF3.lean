import Derived.Test.YtfcljjhlijolgaaGreatDoorRows
import Derived.JoinedOf
import Derived.KernelRfl
set_option maxRecDepth 100000
namespace Go.Proofs.YtfcljjhlijolgaaGreatDoor.topLate
open Go
theorem UH:mapsRowed Tryz.pinned.checked.prog=true:=by kernel_rfl
theorem UI:(Tryz.pinned.checked.prog.stops == [])=true:=by kernel_rfl
theorem Tx:(Rows.topLateRow.unfollowed == Tryz.pinned.checked.prog.unfollowed 4)=true:=by kernel_rfl
theorem Ty:(Rows.topLateRow.ifaces == (Tryz.f4.params.toList++Rows.topLateSpec.plain.varTypes Tryz.pinned.checked.prog).any (Tryz.pinned.checked.prog.ifacesRec ·))=true:=by kernel_rfl
theorem Tz:Rows.topLateSpec.vars.all (Tryz.pinned.checked.prog.varReadable ·)=true:=by kernel_rfl
theorem TA:(Rows.topLateRow.plainKeys == Tryz.pinned.checked.prog.plainKeys)=true:=by kernel_rfl
theorem TC:(Rows.topLateRow.lifted == Tryz.pinned.checked.prog.liftsFinal)=true:=by kernel_rfl
theorem TD:(Rows.topLateRow.veiled == (Tryz.f4.params.toList++Rows.topLateSpec.plain.varTypes Tryz.pinned.checked.prog++Tryz.f4.resultTypes.toList).any (Tryz.pinned.checked.prog.veiledRec ·))=true:=by kernel_rfl
end Go.Proofs.YtfcljjhlijolgaaGreatDoor.topLate
