import Derived.Test.YtfcljjhlijolgaaGreatDoorTLF1
import Derived.Test.YtfcljjhlijolgaaGreatDoorTLF2
import Derived.Test.YtfcljjhlijolgaaGreatDoorTLF3
import Derived.Test.YtfcljjhlijolgaaGreatDoorTLF4
namespace Go.Proofs.YtfcljjhlijolgaaGreatDoor.topLate
open Go
theorem eH {a b:Bool} (x:a=true) (y:b=true):(a && b)=true:=by rw [x,y];rfl
theorem closed:joinedFacts Tryz.pinned.checked.prog 4 Tryz.f4 Rows.topLateSpec Rows.topLateRow=true:=by
 unfold joinedFacts
 exact (eH (eH (eH (eH (eH (eH (eH (eH (eH (eH (eH (eH (eH (eH (eH (eH (eH (eH (eH (eH (eH (eH (eH (eH (eH (eH (eH (eH (eH (eH (eH UB UE) UH) UJ) UC) UF) UI) UK) UD) UG) Tx) TE) Tn) Ts) Ty) TF) To) Tt) Tz) TG) Tp) Tu) TA) TH) Tq) Tv) TC) TI) (by kernel_rfl)) Tw) TD) TJ)
end Go.Proofs.YtfcljjhlijolgaaGreatDoor.topLate
