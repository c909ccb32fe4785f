import Derived.Test.YtfcljjhlijolgaaGreatDoorRows
import Derived.JoinedOf
import Derived.KernelRfl
set_option maxRecDepth 100000
namespace Go.Proofs.YtfcljjhlijolgaaGreatDoor.topLate
open Go
theorem UJ:Tryz.f4.params.all (Tryz.pinned.checked.prog.readableRec ·)=true:=by kernel_rfl
theorem UK:(Rows.topLateRow.knobs == [])=true:=by kernel_rfl
theorem TE:(Rows.topLateRow.recurses == Tryz.pinned.checked.prog.recurses 4)=true:=by kernel_rfl
theorem TF:(Rows.topLateRow.mapsOut == Tryz.pinned.checked.prog.mapsAmong Tryz.f4.resultTypes.toList)=true:=by kernel_rfl
theorem TG:Tryz.f4.resultTypes.all (fun t=>Tryz.pinned.checked.prog.readableRec t && decide (t < Tryz.pinned.checked.prog.types.size))=true:=by kernel_rfl
theorem TH:Rows.topLateRow.shortTexts.isNone=true:=by kernel_rfl
theorem TI:(Tryz.pinned.checked.prog.make == some Rows.topLateRow.make)=true:=by kernel_rfl
theorem TJ:Rows.topLateRow.veiledFits Tryz.pinned.checked.prog Tryz.f4.params.toList (Tryz.f4.params.toList++Rows.topLateSpec.plain.varTypes Tryz.pinned.checked.prog++Tryz.f4.resultTypes.toList)=true:=by kernel_rfl
end Go.Proofs.YtfcljjhlijolgaaGreatDoor.topLate
