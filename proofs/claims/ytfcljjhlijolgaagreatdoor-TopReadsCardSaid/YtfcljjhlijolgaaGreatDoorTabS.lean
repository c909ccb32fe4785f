/- The functions that the runs enter, turned once. -/
import Derived.Test.YtfcljjhlijolgaaGreatDoorTabS1
import Derived.Test.YtfcljjhlijolgaaGreatDoorTabS2
import Derived.Test.YtfcljjhlijolgaaGreatDoorTabS3
import Derived.Test.YtfcljjhlijolgaaGreatDoorTabS4
namespace Go.Proofs.YtfcljjhlijolgaaGreatDoor
open Go Go.RowKit Eng
noncomputable def tabE : Tr AF := tabT (app ents0 (app ents1 (app ents2 ents3)))
noncomputable def PS : Nat → Option AF := tabS Tryz.prog (compDrawn Tryz.prog) tabE
theorem PS_eq : PS = progS Tryz.prog (compDrawn Tryz.prog) := tabS_eq fun e h => by
  rw [app_eq, app_eq, app_eq, List.mem_append, List.mem_append, List.mem_append] at h
  rcases h with h | h | h | h
  · exact ents0_ok e h
  · exact ents1_ok e h
  · exact ents2_ok e h
  · exact ents3_ok e h
end Go.Proofs.YtfcljjhlijolgaaGreatDoor
