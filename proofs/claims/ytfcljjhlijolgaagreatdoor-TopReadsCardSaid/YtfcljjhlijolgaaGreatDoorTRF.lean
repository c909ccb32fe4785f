import Derived.Test.YtfcljjhlijolgaaGreatDoorTRF1
import Derived.Test.YtfcljjhlijolgaaGreatDoorTRF2
import Derived.Test.YtfcljjhlijolgaaGreatDoorTRF3
import Derived.Test.YtfcljjhlijolgaaGreatDoorTRF4
namespace Go.Proofs.YtfcljjhlijolgaaGreatDoor.topReads
open Go
theorem andI {a b : Bool} (x : a = true) (y : b = true) : (a && b) = true := by rw [x, y]; rfl
theorem closed : joinedFacts Tryz.pinned.checked.prog 3 Tryz.f3 Rows.topReadsSpec Rows.topReadsRow = true := by
  unfold joinedFacts
  exact (andI (andI (andI (andI (andI (andI (andI (andI (andI (andI (andI (andI (andI (andI (andI (andI (andI (andI (andI (andI (andI (andI (andI (andI (andI (andI (andI (andI (andI (andI (andI k0 k1) k2) k3) k4) k5) k6) k7) k8) k9) k10) k11) k12) k13) k14) k15) k16) k17) k18) k19) k20) k21) k22) k23) k24) k25) k26) k27) (by kernel_rfl)) k29) k30) k31)
end Go.Proofs.YtfcljjhlijolgaaGreatDoor.topReads
