import Derived.Test.YtfcljjhlijolgaaGreatDoorSQD
namespace Go.Proofs.YtfcljjhlijolgaaGreatDoor.serverQueue
open Go.ChangeShapes Go.WideShapes Go.ChangeAt Go.RowKit
open Go.ChangeMaps (open_string shut_string)
open Eng
set_option linter.unusedVariables false
set_option linter.unusedSimpArgs false
section
variable {X:Mp×Hp×World} {W:Wd} (ok:Ok X W) {B:Bt} {v:V} {i:Nat} {Q:QT}
include ok
theorem EG:Do ao (ad X W (f2 i 1) (fj B v) 88) (Exit.then (ad X W (f9 i) (fk B v) 91) Q):=ag ok [(32,56, .solo),(100,1, .solo),(97,2, .solo)] (by kernel_rfl) (by kernel_rfl) fun g=>by kernel_rfl
theorem EH:Do ao (ad X W (f2 i 2) (fj B v) 88) (Exit.then (ad X W (f9 i) (fl B v) 91) Q):=ag ok [(32,56, .solo),(100,1, .solo),(97,2, .solo)] (by kernel_rfl) (by kernel_rfl) fun g=>by kernel_rfl
theorem EI:Do ao (ad X W (f2 i 0) (fk B v) 91) (Exit.then (ad X W (f9 i) (fk B v) 91) Q):=ag ok [(32,59, .solo)] (by kernel_rfl) (by kernel_rfl) fun g=>by kernel_rfl
theorem EJ:Do ao (ad X W (f2 i 1) (fk B v) 91) (Exit.then (ad X W (f9 i) (fl B v) 91) Q):=ag ok [(32,59, .solo)] (by kernel_rfl) (by kernel_rfl) fun g=>by kernel_rfl
theorem EK:Do ao (ad X W (f2 i 0) (fl B v) 91) (Exit.then (ad X W (f9 i) (fl B v) 91) Q):=ag ok [(32,59, .solo)] (by kernel_rfl) (by kernel_rfl) fun g=>by kernel_rfl
theorem EL:Do ao (ad X W (f2 i 0) (aU B v) 83) (Exit.then (ad X W (f9 i) (aU B v) 83) Q):=ag ok [(32,51, .solo)] (by kernel_rfl) (by kernel_rfl) fun g=>by kernel_rfl
theorem EM:Do ao (ad X W (f2 i 1) (aU B v) 83) (Exit.then (ad X W (f9 i) (dI B v) 84) Q):=ag ok [(32,48, .solo),(91,1, .solo),(80,3, .solo)] (by kernel_rfl) (by kernel_rfl) fun g=>by kernel_rfl
theorem EN:Do ao (ad X W (f2 i 2) (aU B v) 83) (Exit.then (ad X W (f9 i) (dJ B v) 84) Q):=ag ok [(32,48, .solo),(99,1,(.pair 91)),(80,3, .solo)] (by kernel_rfl) (by kernel_rfl) fun g=>by kernel_rfl
theorem EO:Do ao (ad X W (f2 i 3) (aU B v) 83) (Exit.then (ad X W (f9 i) (dK B v) 84) Q):=ag ok [(32,48, .solo),(99,1, .solo),(80,3, .solo)] (by kernel_rfl) (by kernel_rfl) fun g=>by kernel_rfl
theorem EP:Do ao (ad X W (f2 i 4) (aU B v) 83) (Exit.then (ad X W (f9 i) (dL B v) 87) Q):=ag ok [(32,48, .solo),(99,1, .solo),(80,3, .solo),(129,1, .solo),(126,2, .solo)] (by kernel_rfl) (by kernel_rfl) fun g=>by kernel_rfl
theorem ER:Do ao (ad X W (f2 i 5) (aU B v) 83) (Exit.then (ad X W (f9 i) (dM B v) 87) Q):=ag ok [(32,48, .solo),(99,1, .solo),(80,3, .solo),(129,1, .solo),(126,2, .solo)] (by kernel_rfl) (by kernel_rfl) fun g=>by kernel_rfl
theorem ES:Do ao (ad X W (f2 i 0) (dI B v) 84) (Exit.then (ad X W (f9 i) (dI B v) 84) Q):=ag ok [(32,52, .solo)] (by kernel_rfl) (by kernel_rfl) fun g=>by kernel_rfl
theorem ET:Do ao (ad X W (f2 i 1) (dI B v) 84) (Exit.then (ad X W (f9 i) (dJ B v) 84) Q):=ag ok [(32,48, .solo),(92,1,(.pair 80)),(81,3, .solo)] (by kernel_rfl) (by kernel_rfl) fun g=>by kernel_rfl
theorem EU:Do ao (ad X W (f2 i 2) (dI B v) 84) (Exit.then (ad X W (f9 i) (dK B v) 84) Q):=ag ok [(32,48, .solo),(92,1, .solo),(81,3, .solo)] (by kernel_rfl) (by kernel_rfl) fun g=>by kernel_rfl
theorem EV:Do ao (ad X W (f2 i 3) (dI B v) 84) (Exit.then (ad X W (f9 i) (dL B v) 87) Q):=ag ok [(32,48, .solo),(92,1, .solo),(81,3, .solo),(122,1, .solo),(119,2, .solo)] (by kernel_rfl) (by kernel_rfl) fun g=>by kernel_rfl
theorem EW:Do ao (ad X W (f2 i 4) (dI B v) 84) (Exit.then (ad X W (f9 i) (dM B v) 87) Q):=ag ok [(32,48, .solo),(92,1, .solo),(81,3, .solo),(122,1, .solo),(119,2, .solo)] (by kernel_rfl) (by kernel_rfl) fun g=>by kernel_rfl
theorem EX:Do ao (ad X W (f2 i 0) (dJ B v) 84) (Exit.then (ad X W (f9 i) (dJ B v) 84) Q):=ag ok [(32,52, .solo)] (by kernel_rfl) (by kernel_rfl) fun g=>by kernel_rfl
theorem EY:Do ao (ad X W (f2 i 1) (dJ B v) 84) (Exit.then (ad X W (f9 i) (dK B v) 84) Q):=ag ok [(32,52, .solo)] (by kernel_rfl) (by kernel_rfl) fun g=>by kernel_rfl
theorem EZ:Do ao (ad X W (f2 i 2) (dJ B v) 84) (Exit.then (ad X W (f9 i) (dL B v) 87) Q):=ag ok [(32,52, .solo),(114,1, .solo),(111,2, .solo)] (by kernel_rfl) (by kernel_rfl) fun g=>by kernel_rfl
theorem E0:Do ao (ad X W (f2 i 3) (dJ B v) 84) (Exit.then (ad X W (f9 i) (dM B v) 87) Q):=ag ok [(32,52, .solo),(114,1, .solo),(111,2, .solo)] (by kernel_rfl) (by kernel_rfl) fun g=>by kernel_rfl
theorem E3:Do ao (ad X W (f2 i 0) (dK B v) 84) (Exit.then (ad X W (f9 i) (dK B v) 84) Q):=ag ok [(32,52, .solo)] (by kernel_rfl) (by kernel_rfl) fun g=>by kernel_rfl
theorem E4:Do ao (ad X W (f2 i 1) (dK B v) 84) (Exit.then (ad X W (f9 i) (dL B v) 87) Q):=ag ok [(32,52, .solo),(96,1, .solo),(93,2, .solo)] (by kernel_rfl) (by kernel_rfl) fun g=>by kernel_rfl
theorem E5:Do ao (ad X W (f2 i 2) (dK B v) 84) (Exit.then (ad X W (f9 i) (dM B v) 87) Q):=ag ok [(32,52, .solo),(96,1, .solo),(93,2, .solo)] (by kernel_rfl) (by kernel_rfl) fun g=>by kernel_rfl
theorem E6:Do ao (ad X W (f2 i 0) (dL B v) 87) (Exit.then (ad X W (f9 i) (dL B v) 87) Q):=ag ok [(32,55, .solo)] (by kernel_rfl) (by kernel_rfl) fun g=>by kernel_rfl
theorem E7:Do ao (ad X W (f2 i 1) (dL B v) 87) (Exit.then (ad X W (f9 i) (dM B v) 87) Q):=ag ok [(32,55, .solo)] (by kernel_rfl) (by kernel_rfl) fun g=>by kernel_rfl
theorem E8:Do ao (ad X W (f2 i 0) (dM B v) 87) (Exit.then (ad X W (f9 i) (dM B v) 87) Q):=ag ok [(32,55, .solo)] (by kernel_rfl) (by kernel_rfl) fun g=>by kernel_rfl
theorem E9:Do ao (ad X W (f2 i 0) (aV B v) 86) (Exit.then (ad X W (f9 i) (aV B v) 86) Q):=ag ok [(32,54, .solo)] (by kernel_rfl) (by kernel_rfl) fun g=>by kernel_rfl
theorem E_:Do ao (ad X W (f2 i 1) (aV B v) 86) (Exit.then (ad X W (f9 i) (dN B v) 87) Q):=ag ok [(32,51, .solo),(94,1, .solo),(83,3, .solo)] (by kernel_rfl) (by kernel_rfl) fun g=>by kernel_rfl
theorem Fa:Do ao (ad X W (f2 i 2) (aV B v) 86) (Exit.then (ad X W (f9 i) (dO B v) 87) Q):=ag ok [(32,51, .solo),(102,1,(.pair 94)),(83,3, .solo)] (by kernel_rfl) (by kernel_rfl) fun g=>by kernel_rfl
theorem Fb:Do ao (ad X W (f2 i 3) (aV B v) 86) (Exit.then (ad X W (f9 i) (dP B v) 87) Q):=ag ok [(32,51, .solo),(102,1, .solo),(83,3, .solo)] (by kernel_rfl) (by kernel_rfl) fun g=>by kernel_rfl
theorem Fc:Do ao (ad X W (f2 i 4) (aV B v) 86) (Exit.then (ad X W (f9 i) (dQ B v) 90) Q):=ag ok [(32,51, .solo),(102,1, .solo),(83,3, .solo),(132,1, .solo),(129,2, .solo)] (by kernel_rfl) (by kernel_rfl) fun g=>by kernel_rfl
theorem Fe:Do ao (ad X W (f2 i 5) (aV B v) 86) (Exit.then (ad X W (f9 i) (dR B v) 90) Q):=ag ok [(32,51, .solo),(102,1, .solo),(83,3, .solo),(132,1, .solo),(129,2, .solo)] (by kernel_rfl) (by kernel_rfl) fun g=>by kernel_rfl
theorem Ff:Do ao (ad X W (f2 i 0) (dN B v) 87) (Exit.then (ad X W (f9 i) (dN B v) 87) Q):=ag ok [(32,55, .solo)] (by kernel_rfl) (by kernel_rfl) fun g=>by kernel_rfl
theorem Fg:Do ao (ad X W (f2 i 1) (dN B v) 87) (Exit.then (ad X W (f9 i) (dO B v) 87) Q):=ag ok [(32,51, .solo),(95,1,(.pair 83)),(84,3, .solo)] (by kernel_rfl) (by kernel_rfl) fun g=>by kernel_rfl
theorem Fh:Do ao (ad X W (f2 i 2) (dN B v) 87) (Exit.then (ad X W (f9 i) (dP B v) 87) Q):=ag ok [(32,51, .solo),(95,1, .solo),(84,3, .solo)] (by kernel_rfl) (by kernel_rfl) fun g=>by kernel_rfl
theorem Fi:Do ao (ad X W (f2 i 3) (dN B v) 87) (Exit.then (ad X W (f9 i) (dQ B v) 90) Q):=ag ok [(32,51, .solo),(95,1, .solo),(84,3, .solo),(125,1, .solo),(122,2, .solo)] (by kernel_rfl) (by kernel_rfl) fun g=>by kernel_rfl
theorem Fj:Do ao (ad X W (f2 i 4) (dN B v) 87) (Exit.then (ad X W (f9 i) (dR B v) 90) Q):=ag ok [(32,51, .solo),(95,1, .solo),(84,3, .solo),(125,1, .solo),(122,2, .solo)] (by kernel_rfl) (by kernel_rfl) fun g=>by kernel_rfl
theorem Fk:Do ao (ad X W (f2 i 0) (dO B v) 87) (Exit.then (ad X W (f9 i) (dO B v) 87) Q):=ag ok [(32,55, .solo)] (by kernel_rfl) (by kernel_rfl) fun g=>by kernel_rfl
theorem Fl:Do ao (ad X W (f2 i 1) (dO B v) 87) (Exit.then (ad X W (f9 i) (dP B v) 87) Q):=ag ok [(32,55, .solo)] (by kernel_rfl) (by kernel_rfl) fun g=>by kernel_rfl
theorem Fm:Do ao (ad X W (f2 i 2) (dO B v) 87) (Exit.then (ad X W (f9 i) (dQ B v) 90) Q):=ag ok [(32,55, .solo),(117,1, .solo),(114,2, .solo)] (by kernel_rfl) (by kernel_rfl) fun g=>by kernel_rfl
theorem Fo:Do ao (ad X W (f2 i 3) (dO B v) 87) (Exit.then (ad X W (f9 i) (dR B v) 90) Q):=ag ok [(32,55, .solo),(117,1, .solo),(114,2, .solo)] (by kernel_rfl) (by kernel_rfl) fun g=>by kernel_rfl
theorem Fp:Do ao (ad X W (f2 i 0) (dP B v) 87) (Exit.then (ad X W (f9 i) (dP B v) 87) Q):=ag ok [(32,55, .solo)] (by kernel_rfl) (by kernel_rfl) fun g=>by kernel_rfl
theorem Fq:Do ao (ad X W (f2 i 1) (dP B v) 87) (Exit.then (ad X W (f9 i) (dQ B v) 90) Q):=ag ok [(32,55, .solo),(99,1, .solo),(96,2, .solo)] (by kernel_rfl) (by kernel_rfl) fun g=>by kernel_rfl
theorem Fs:Do ao (ad X W (f2 i 2) (dP B v) 87) (Exit.then (ad X W (f9 i) (dR B v) 90) Q):=ag ok [(32,55, .solo),(99,1, .solo),(96,2, .solo)] (by kernel_rfl) (by kernel_rfl) fun g=>by kernel_rfl
theorem Fu:Do ao (ad X W (f2 i 0) (dQ B v) 90) (Exit.then (ad X W (f9 i) (dQ B v) 90) Q):=ag ok [(32,58, .solo)] (by kernel_rfl) (by kernel_rfl) fun g=>by kernel_rfl
theorem Fv:Do ao (ad X W (f2 i 1) (dQ B v) 90) (Exit.then (ad X W (f9 i) (dR B v) 90) Q):=ag ok [(32,58, .solo)] (by kernel_rfl) (by kernel_rfl) fun g=>by kernel_rfl
theorem Fw:Do ao (ad X W (f2 i 0) (dR B v) 90) (Exit.then (ad X W (f9 i) (dR B v) 90) Q):=ag ok [(32,58, .solo)] (by kernel_rfl) (by kernel_rfl) fun g=>by kernel_rfl
theorem Fx:Do ao (ad X W (f2 i 0) (aI B v) 85) (Exit.then (ad X W (f9 i) (aI B v) 85) Q):=ag ok [(32,53, .solo)] (by kernel_rfl) (by kernel_rfl) fun g=>by kernel_rfl
theorem Fy:Do ao (ad X W (f2 i 1) (aI B v) 85) (Exit.then (ad X W (f9 i) (c7 B v) 86) Q):=ag ok [(32,50, .solo),(93,1, .solo),(82,3, .solo)] (by kernel_rfl) (by kernel_rfl) fun g=>by kernel_rfl
theorem Fz:Do ao (ad X W (f2 i 2) (aI B v) 85) (Exit.then (ad X W (f9 i) (c8 B v) 86) Q):=ag ok [(32,50, .solo),(101,1,(.pair 93)),(82,3, .solo)] (by kernel_rfl) (by kernel_rfl) fun g=>by kernel_rfl
theorem FA:Do ao (ad X W (f2 i 3) (aI B v) 85) (Exit.then (ad X W (f9 i) (c9 B v) 86) Q):=ag ok [(32,50, .solo),(101,1, .solo),(82,3, .solo)] (by kernel_rfl) (by kernel_rfl) fun g=>by kernel_rfl
end
end Go.Proofs.YtfcljjhlijolgaaGreatDoor.serverQueue
