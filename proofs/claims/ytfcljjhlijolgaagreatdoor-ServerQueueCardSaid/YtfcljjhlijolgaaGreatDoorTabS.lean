import Derived.Test.YtfcljjhlijolgaaGreatDoorTabS1
import Derived.Test.YtfcljjhlijolgaaGreatDoorTabS2
import Derived.Test.YtfcljjhlijolgaaGreatDoorTabS3
import Derived.Test.YtfcljjhlijolgaaGreatDoorTabS4
noncomputable section
namespace Go.Proofs.YtfcljjhlijolgaaGreatDoor
open Go Go.RowKit Eng
def Ve:Tr AF:=BP (app IA (app Js (app Kc K5)))
def PS:Nat→Option AF:=Mq Tryz.prog (ab Tryz.prog) Ve
theorem tY:PS=ae Tryz.prog (ab Tryz.prog):=GS fun e h=>by
 rw [cg,cg,cg,List.mem_append,List.mem_append,List.mem_append] at h
 rcases h with h | h | h | h
 ·exact Cb e h
 ·exact Cc e h
 ·exact Cd e h
 ·exact Ce e h
end Go.Proofs.YtfcljjhlijolgaaGreatDoor
end
