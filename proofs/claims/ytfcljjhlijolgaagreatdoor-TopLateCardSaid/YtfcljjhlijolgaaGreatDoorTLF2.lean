import Derived.Test.YtfcljjhlijolgaaGreatDoorRows
import Derived.JoinedOf
import Derived.KernelRfl
set_option maxRecDepth 100000
namespace Go.Proofs.YtfcljjhlijolgaaGreatDoor.topLate
open Go
theorem UE:laidOutB Tryz.pinned.checked.prog=true:=by kernel_rfl
theorem UF:(Rows.topLateRow.stops == [])=true:=by kernel_rfl
theorem UG:(Rows.topLateRow.inPlace == Tryz.pinned.checked.prog.inPlace 4)=true:=by kernel_rfl
theorem Ts:(Rows.topLateRow.maps == (Tryz.f4.params.toList++Rows.topLateSpec.plain.varTypes Tryz.pinned.checked.prog).any (Tryz.pinned.checked.prog.mapsRec ·))=true:=by kernel_rfl
theorem Tt:(Rows.topLateRow.wideKeys == (Tryz.f4.params.toList++Rows.topLateSpec.plain.varTypes Tryz.pinned.checked.prog++Tryz.f4.resultTypes.toList).any (Tryz.pinned.checked.prog.wideKeysFrom ·))=true:=by kernel_rfl
theorem Tu:(Rows.topLateRow.loopsOut == Tryz.f4.resultTypes.toList.any (Tryz.pinned.checked.prog.loopsFrom ·))=true:=by kernel_rfl
theorem Tv:Tryz.pinned.checked.prog.mayEnter=true:=by kernel_rfl
theorem Tw:(Rows.topLateRow.pinned == Rows.topLateRow.pinnedBy)=true:=by kernel_rfl
end Go.Proofs.YtfcljjhlijolgaaGreatDoor.topLate
