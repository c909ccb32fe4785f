import Derived.Test.YtfcljjhlijolgaaGreatDoorRows
import Derived.JoinedOf
import Derived.KernelRfl
set_option maxRecDepth 100000
namespace Go.Proofs.YtfcljjhlijolgaaGreatDoor.topLate
open Go
theorem UB:Rows.topLateRow.wf (OpenSpec.ofChange Rows.topLateSpec)=true:=by kernel_rfl
theorem UC:namedTie Tryz.pinned.checked.prog Rows.topLateRow.named Rows.topLateSpec.vars=true:=by kernel_rfl
theorem UD:(Tryz.pinned.checked.prog.stopKnobs == [])=true:=by kernel_rfl
theorem Tn:(Rows.topLateRow.named == Tryz.pinned.checked.prog.varsNamed 4)=true:=by kernel_rfl
theorem To:(Rows.topLateRow.loops == (Tryz.f4.params.toList++Rows.topLateSpec.plain.varTypes Tryz.pinned.checked.prog).any (Tryz.pinned.checked.prog.loopsFrom ·))=true:=by kernel_rfl
theorem Tp:(Rows.topLateRow.ifacesOut == Tryz.f4.resultTypes.toList.any (Tryz.pinned.checked.prog.ifacesRec ·))=true:=by kernel_rfl
theorem Tq:Tryz.pinned.checked.prog.stopsHeard=true:=by kernel_rfl
end Go.Proofs.YtfcljjhlijolgaaGreatDoor.topLate
