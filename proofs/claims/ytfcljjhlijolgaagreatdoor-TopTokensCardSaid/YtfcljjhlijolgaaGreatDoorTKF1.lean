import Derived.Test.YtfcljjhlijolgaaGreatDoorRows
import Derived.JoinedOf
import Derived.KernelRfl
set_option maxRecDepth 100000
namespace Go.Proofs.YtfcljjhlijolgaaGreatDoor.topTokens
open Go
theorem k0 : Rows.topTokensRow.wf (OpenSpec.ofChange Rows.topTokensSpec) = true := by kernel_rfl
theorem k4 : namedTie Tryz.pinned.checked.prog Rows.topTokensRow.named Rows.topTokensSpec.vars = true := by kernel_rfl
theorem k8 : (Tryz.pinned.checked.prog.stopKnobs == []) = true := by kernel_rfl
theorem k12 : (Rows.topTokensRow.named == Tryz.pinned.checked.prog.varsNamed 9) = true := by kernel_rfl
theorem k16 : (Rows.topTokensRow.loops == (Tryz.f9.params.toList ++ Rows.topTokensSpec.plain.varTypes Tryz.pinned.checked.prog).any (Tryz.pinned.checked.prog.loopsFrom ·)) = true := by kernel_rfl
theorem k20 : (Rows.topTokensRow.ifacesOut == Tryz.f9.resultTypes.toList.any (Tryz.pinned.checked.prog.ifacesRec ·)) = true := by kernel_rfl
theorem k24 : Tryz.pinned.checked.prog.stopsHeard = true := by kernel_rfl
end Go.Proofs.YtfcljjhlijolgaaGreatDoor.topTokens
