import Derived.Test.YtfcljjhlijolgaaGreatDoorRows
import Derived.JoinedOf
import Derived.KernelRfl
set_option maxRecDepth 100000
namespace Go.Proofs.YtfcljjhlijolgaaGreatDoor.topTokens
open Go
theorem k3 : Tryz.f9.params.all (Tryz.pinned.checked.prog.readableRec ·) = true := by kernel_rfl
theorem k7 : (Rows.topTokensRow.knobs == []) = true := by kernel_rfl
theorem k11 : (Rows.topTokensRow.recurses == Tryz.pinned.checked.prog.recurses 9) = true := by kernel_rfl
theorem k15 : (Rows.topTokensRow.mapsOut == Tryz.pinned.checked.prog.mapsAmong Tryz.f9.resultTypes.toList) = true := by kernel_rfl
theorem k19 : Tryz.f9.resultTypes.all (fun t => Tryz.pinned.checked.prog.readableRec t && decide (t < Tryz.pinned.checked.prog.types.size)) = true := by kernel_rfl
theorem k23 : Rows.topTokensRow.shortTexts.isNone = true := by kernel_rfl
theorem k27 : (Tryz.pinned.checked.prog.make == some Rows.topTokensRow.make) = true := by kernel_rfl
theorem k31 : Rows.topTokensRow.veiledFits Tryz.pinned.checked.prog Tryz.f9.params.toList (Tryz.f9.params.toList ++ Rows.topTokensSpec.plain.varTypes Tryz.pinned.checked.prog ++ Tryz.f9.resultTypes.toList) = true := by kernel_rfl
end Go.Proofs.YtfcljjhlijolgaaGreatDoor.topTokens
