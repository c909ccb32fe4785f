import Derived.Test.YtfcljjhlijolgaaGreatDoorTabS1
import Derived.Test.YtfcljjhlijolgaaGreatDoorTabS2
import Derived.Test.YtfcljjhlijolgaaGreatDoorTabS3
import Derived.Test.YtfcljjhlijolgaaGreatDoorTabS4
noncomputable section
namespace Go.Proofs.YtfcljjhlijolgaaGreatDoor
open Go Go.RowKit Eng
def Tc:Tr AF:=zf (app FE (app Gx (app Hk H5)))
def PS:Nat→Option AF:=JT Tryz.prog (aa Tryz.prog) Tc
theorem sO:PS=ao Tryz.prog (aa Tryz.prog):=C1 fun e h=>by
 rw [cI,cI,cI,List.mem_append,List.mem_append,List.mem_append] at h
 rcases h with h | h | h | h
 ·exact zx e h
 ·exact zy e h
 ·exact zz e h
 ·exact zA e h
end Go.Proofs.YtfcljjhlijolgaaGreatDoor
end
