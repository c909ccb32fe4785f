import Derived.Test.YtfcljjhlijolgaaGreatDoorSQF1
import Derived.Test.YtfcljjhlijolgaaGreatDoorSQF2
import Derived.Test.YtfcljjhlijolgaaGreatDoorSQF3
import Derived.Test.YtfcljjhlijolgaaGreatDoorSQF4
namespace Go.Proofs.YtfcljjhlijolgaaGreatDoor.serverQueue
open Go
theorem dS {a b:Bool} (x:a=true) (y:b=true):(a && b)=true:=by rw [x,y];rfl
theorem closed:joinedFacts Tryz.pinned.checked.prog 6 Tryz.f6 Rows.serverQueueSpec Rows.serverQueueRow=true:=by
 unfold joinedFacts
 exact (dS (dS (dS (dS (dS (dS (dS (dS (dS (dS (dS (dS (dS (dS (dS (dS (dS (dS (dS (dS (dS (dS (dS (dS (dS (dS (dS (dS (dS (dS (dS Wq Wu) Wx) Wz) Ws) Wv) Wy) WA) Wt) Ww) Vz) VJ) Vq) Vu) VC) VK) Vr) Vv) VD) VN) Vs) Vw) VE) VO) Vt) Vx) VG) VQ) (by kernel_rfl)) Vy) VH) VT)
end Go.Proofs.YtfcljjhlijolgaaGreatDoor.serverQueue
