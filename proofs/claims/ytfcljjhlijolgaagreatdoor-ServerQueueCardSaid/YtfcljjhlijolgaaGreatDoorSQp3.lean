import Derived.Test.YtfcljjhlijolgaaGreatDoorSQD
namespace Go.Proofs.YtfcljjhlijolgaaGreatDoor.serverQueue
open Go.ChangeShapes Go.WideShapes Go.ChangeAt Go.RowKit
open Go.ChangeMaps (open_string shut_string)
open Eng
set_option linter.unusedVariables false
set_option linter.unusedSimpArgs false
section
variable {X:Mp×Hp×World} {W:Wd} (ok:Ok X W) {B:Bt} {v:V} {i:Nat} {Q:QT}
include ok
theorem DO:Do ao (ad X W (f2 i 4) (eR B v) 82) (Exit.then (ad X W (f9 i) (eV B v) 85) Q):=ag ok [(32,46, .solo),(90,1, .solo),(79,3, .solo),(120,1, .solo),(117,2, .solo)] (by kernel_rfl) (by kernel_rfl) fun g=>by kernel_rfl
theorem DP:Do ao (ad X W (f2 i 0) (eS B v) 82) (Exit.then (ad X W (f9 i) (eS B v) 82) Q):=ag ok [(32,50, .solo)] (by kernel_rfl) (by kernel_rfl) fun g=>by kernel_rfl
theorem DQ:Do ao (ad X W (f2 i 1) (eS B v) 82) (Exit.then (ad X W (f9 i) (eT B v) 82) Q):=ag ok [(32,50, .solo)] (by kernel_rfl) (by kernel_rfl) fun g=>by kernel_rfl
theorem DR:Do ao (ad X W (f2 i 2) (eS B v) 82) (Exit.then (ad X W (f9 i) (eU B v) 85) Q):=ag ok [(32,50, .solo),(112,1, .solo),(109,2, .solo)] (by kernel_rfl) (by kernel_rfl) fun g=>by kernel_rfl
theorem DT:Do ao (ad X W (f2 i 3) (eS B v) 82) (Exit.then (ad X W (f9 i) (eV B v) 85) Q):=ag ok [(32,50, .solo),(112,1, .solo),(109,2, .solo)] (by kernel_rfl) (by kernel_rfl) fun g=>by kernel_rfl
theorem DU:Do ao (ad X W (f2 i 0) (eT B v) 82) (Exit.then (ad X W (f9 i) (eT B v) 82) Q):=ag ok [(32,50, .solo)] (by kernel_rfl) (by kernel_rfl) fun g=>by kernel_rfl
theorem DV:Do ao (ad X W (f2 i 1) (eT B v) 82) (Exit.then (ad X W (f9 i) (eU B v) 85) Q):=ag ok [(32,50, .solo),(94,1, .solo),(91,2, .solo)] (by kernel_rfl) (by kernel_rfl) fun g=>by kernel_rfl
theorem DW:Do ao (ad X W (f2 i 2) (eT B v) 82) (Exit.then (ad X W (f9 i) (eV B v) 85) Q):=ag ok [(32,50, .solo),(94,1, .solo),(91,2, .solo)] (by kernel_rfl) (by kernel_rfl) fun g=>by kernel_rfl
theorem DX:Do ao (ad X W (f2 i 0) (eU B v) 85) (Exit.then (ad X W (f9 i) (eU B v) 85) Q):=ag ok [(32,53, .solo)] (by kernel_rfl) (by kernel_rfl) fun g=>by kernel_rfl
theorem DY:Do ao (ad X W (f2 i 1) (eU B v) 85) (Exit.then (ad X W (f9 i) (eV B v) 85) Q):=ag ok [(32,53, .solo)] (by kernel_rfl) (by kernel_rfl) fun g=>by kernel_rfl
theorem DZ:Do ao (ad X W (f2 i 0) (eV B v) 85) (Exit.then (ad X W (f9 i) (eV B v) 85) Q):=ag ok [(32,53, .solo)] (by kernel_rfl) (by kernel_rfl) fun g=>by kernel_rfl
theorem D3:Do ao (ad X W (f2 i 0) (bN B v) 84) (Exit.then (ad X W (f9 i) (bN B v) 84) Q):=ag ok [(32,52, .solo)] (by kernel_rfl) (by kernel_rfl) fun g=>by kernel_rfl
theorem D4:Do ao (ad X W (f2 i 1) (bN B v) 84) (Exit.then (ad X W (f9 i) (eX B v) 85) Q):=ag ok [(32,49, .solo),(92,1, .solo),(81,3, .solo)] (by kernel_rfl) (by kernel_rfl) fun g=>by kernel_rfl
theorem D5:Do ao (ad X W (f2 i 2) (bN B v) 84) (Exit.then (ad X W (f9 i) (eY B v) 85) Q):=ag ok [(32,49, .solo),(100,1,(.pair 92)),(81,3, .solo)] (by kernel_rfl) (by kernel_rfl) fun g=>by kernel_rfl
theorem D6:Do ao (ad X W (f2 i 3) (bN B v) 84) (Exit.then (ad X W (f9 i) (eZ B v) 85) Q):=ag ok [(32,49, .solo),(100,1, .solo),(81,3, .solo)] (by kernel_rfl) (by kernel_rfl) fun g=>by kernel_rfl
theorem D7:Do ao (ad X W (f2 i 4) (bN B v) 84) (Exit.then (ad X W (f9 i) (e_ B v) 88) Q):=ag ok [(32,49, .solo),(100,1, .solo),(81,3, .solo),(130,1, .solo),(127,2, .solo)] (by kernel_rfl) (by kernel_rfl) fun g=>by kernel_rfl
theorem D8:Do ao (ad X W (f2 i 5) (bN B v) 84) (Exit.then (ad X W (f9 i) (fe B v) 88) Q):=ag ok [(32,49, .solo),(100,1, .solo),(81,3, .solo),(130,1, .solo),(127,2, .solo)] (by kernel_rfl) (by kernel_rfl) fun g=>by kernel_rfl
theorem D9:Do ao (ad X W (f2 i 0) (eX B v) 85) (Exit.then (ad X W (f9 i) (eX B v) 85) Q):=ag ok [(32,53, .solo)] (by kernel_rfl) (by kernel_rfl) fun g=>by kernel_rfl
theorem D_:Do ao (ad X W (f2 i 1) (eX B v) 85) (Exit.then (ad X W (f9 i) (eY B v) 85) Q):=ag ok [(32,49, .solo),(93,1,(.pair 81)),(82,3, .solo)] (by kernel_rfl) (by kernel_rfl) fun g=>by kernel_rfl
theorem Ea:Do ao (ad X W (f2 i 2) (eX B v) 85) (Exit.then (ad X W (f9 i) (eZ B v) 85) Q):=ag ok [(32,49, .solo),(93,1, .solo),(82,3, .solo)] (by kernel_rfl) (by kernel_rfl) fun g=>by kernel_rfl
theorem Eb:Do ao (ad X W (f2 i 3) (eX B v) 85) (Exit.then (ad X W (f9 i) (e_ B v) 88) Q):=ag ok [(32,49, .solo),(93,1, .solo),(82,3, .solo),(123,1, .solo),(120,2, .solo)] (by kernel_rfl) (by kernel_rfl) fun g=>by kernel_rfl
theorem Ec:Do ao (ad X W (f2 i 4) (eX B v) 85) (Exit.then (ad X W (f9 i) (fe B v) 88) Q):=ag ok [(32,49, .solo),(93,1, .solo),(82,3, .solo),(123,1, .solo),(120,2, .solo)] (by kernel_rfl) (by kernel_rfl) fun g=>by kernel_rfl
theorem Ed:Do ao (ad X W (f2 i 0) (eY B v) 85) (Exit.then (ad X W (f9 i) (eY B v) 85) Q):=ag ok [(32,53, .solo)] (by kernel_rfl) (by kernel_rfl) fun g=>by kernel_rfl
theorem Ee:Do ao (ad X W (f2 i 1) (eY B v) 85) (Exit.then (ad X W (f9 i) (eZ B v) 85) Q):=ag ok [(32,53, .solo)] (by kernel_rfl) (by kernel_rfl) fun g=>by kernel_rfl
theorem Ef:Do ao (ad X W (f2 i 2) (eY B v) 85) (Exit.then (ad X W (f9 i) (e_ B v) 88) Q):=ag ok [(32,53, .solo),(115,1, .solo),(112,2, .solo)] (by kernel_rfl) (by kernel_rfl) fun g=>by kernel_rfl
theorem Eg:Do ao (ad X W (f2 i 3) (eY B v) 85) (Exit.then (ad X W (f9 i) (fe B v) 88) Q):=ag ok [(32,53, .solo),(115,1, .solo),(112,2, .solo)] (by kernel_rfl) (by kernel_rfl) fun g=>by kernel_rfl
theorem Eh:Do ao (ad X W (f2 i 0) (eZ B v) 85) (Exit.then (ad X W (f9 i) (eZ B v) 85) Q):=ag ok [(32,53, .solo)] (by kernel_rfl) (by kernel_rfl) fun g=>by kernel_rfl
theorem Ei:Do ao (ad X W (f2 i 1) (eZ B v) 85) (Exit.then (ad X W (f9 i) (e_ B v) 88) Q):=ag ok [(32,53, .solo),(97,1, .solo),(94,2, .solo)] (by kernel_rfl) (by kernel_rfl) fun g=>by kernel_rfl
theorem Ej:Do ao (ad X W (f2 i 2) (eZ B v) 85) (Exit.then (ad X W (f9 i) (fe B v) 88) Q):=ag ok [(32,53, .solo),(97,1, .solo),(94,2, .solo)] (by kernel_rfl) (by kernel_rfl) fun g=>by kernel_rfl
theorem Ek:Do ao (ad X W (f2 i 0) (e_ B v) 88) (Exit.then (ad X W (f9 i) (e_ B v) 88) Q):=ag ok [(32,56, .solo)] (by kernel_rfl) (by kernel_rfl) fun g=>by kernel_rfl
theorem El:Do ao (ad X W (f2 i 1) (e_ B v) 88) (Exit.then (ad X W (f9 i) (fe B v) 88) Q):=ag ok [(32,56, .solo)] (by kernel_rfl) (by kernel_rfl) fun g=>by kernel_rfl
theorem Em:Do ao (ad X W (f2 i 0) (fe B v) 88) (Exit.then (ad X W (f9 i) (fe B v) 88) Q):=ag ok [(32,56, .solo)] (by kernel_rfl) (by kernel_rfl) fun g=>by kernel_rfl
theorem En:Do ao (ad X W (f2 i 0) (bO B v) 87) (Exit.then (ad X W (f9 i) (bO B v) 87) Q):=ag ok [(32,55, .solo)] (by kernel_rfl) (by kernel_rfl) fun g=>by kernel_rfl
theorem Eo:Do ao (ad X W (f2 i 1) (bO B v) 87) (Exit.then (ad X W (f9 i) (fg B v) 88) Q):=ag ok [(32,52, .solo),(95,1, .solo),(84,3, .solo)] (by kernel_rfl) (by kernel_rfl) fun g=>by kernel_rfl
theorem Ep:Do ao (ad X W (f2 i 2) (bO B v) 87) (Exit.then (ad X W (f9 i) (fh B v) 88) Q):=ag ok [(32,52, .solo),(103,1,(.pair 95)),(84,3, .solo)] (by kernel_rfl) (by kernel_rfl) fun g=>by kernel_rfl
theorem Er:Do ao (ad X W (f2 i 3) (bO B v) 87) (Exit.then (ad X W (f9 i) (fj B v) 88) Q):=ag ok [(32,52, .solo),(103,1, .solo),(84,3, .solo)] (by kernel_rfl) (by kernel_rfl) fun g=>by kernel_rfl
theorem Es:Do ao (ad X W (f2 i 4) (bO B v) 87) (Exit.then (ad X W (f9 i) (fk B v) 91) Q):=ag ok [(32,52, .solo),(103,1, .solo),(84,3, .solo),(133,1, .solo),(130,2, .solo)] (by kernel_rfl) (by kernel_rfl) fun g=>by kernel_rfl
theorem Et:Do ao (ad X W (f2 i 5) (bO B v) 87) (Exit.then (ad X W (f9 i) (fl B v) 91) Q):=ag ok [(32,52, .solo),(103,1, .solo),(84,3, .solo),(133,1, .solo),(130,2, .solo)] (by kernel_rfl) (by kernel_rfl) fun g=>by kernel_rfl
theorem Eu:Do ao (ad X W (f2 i 0) (fg B v) 88) (Exit.then (ad X W (f9 i) (fg B v) 88) Q):=ag ok [(32,56, .solo)] (by kernel_rfl) (by kernel_rfl) fun g=>by kernel_rfl
theorem Ew:Do ao (ad X W (f2 i 1) (fg B v) 88) (Exit.then (ad X W (f9 i) (fh B v) 88) Q):=ag ok [(32,52, .solo),(96,1,(.pair 84)),(85,3, .solo)] (by kernel_rfl) (by kernel_rfl) fun g=>by kernel_rfl
theorem Ex:Do ao (ad X W (f2 i 2) (fg B v) 88) (Exit.then (ad X W (f9 i) (fj B v) 88) Q):=ag ok [(32,52, .solo),(96,1, .solo),(85,3, .solo)] (by kernel_rfl) (by kernel_rfl) fun g=>by kernel_rfl
theorem Ey:Do ao (ad X W (f2 i 3) (fg B v) 88) (Exit.then (ad X W (f9 i) (fk B v) 91) Q):=ag ok [(32,52, .solo),(96,1, .solo),(85,3, .solo),(126,1, .solo),(123,2, .solo)] (by kernel_rfl) (by kernel_rfl) fun g=>by kernel_rfl
theorem Ez:Do ao (ad X W (f2 i 4) (fg B v) 88) (Exit.then (ad X W (f9 i) (fl B v) 91) Q):=ag ok [(32,52, .solo),(96,1, .solo),(85,3, .solo),(126,1, .solo),(123,2, .solo)] (by kernel_rfl) (by kernel_rfl) fun g=>by kernel_rfl
theorem EA:Do ao (ad X W (f2 i 0) (fh B v) 88) (Exit.then (ad X W (f9 i) (fh B v) 88) Q):=ag ok [(32,56, .solo)] (by kernel_rfl) (by kernel_rfl) fun g=>by kernel_rfl
theorem EB:Do ao (ad X W (f2 i 1) (fh B v) 88) (Exit.then (ad X W (f9 i) (fj B v) 88) Q):=ag ok [(32,56, .solo)] (by kernel_rfl) (by kernel_rfl) fun g=>by kernel_rfl
theorem EC:Do ao (ad X W (f2 i 2) (fh B v) 88) (Exit.then (ad X W (f9 i) (fk B v) 91) Q):=ag ok [(32,56, .solo),(118,1, .solo),(115,2, .solo)] (by kernel_rfl) (by kernel_rfl) fun g=>by kernel_rfl
theorem ED:Do ao (ad X W (f2 i 3) (fh B v) 88) (Exit.then (ad X W (f9 i) (fl B v) 91) Q):=ag ok [(32,56, .solo),(118,1, .solo),(115,2, .solo)] (by kernel_rfl) (by kernel_rfl) fun g=>by kernel_rfl
theorem EF:Do ao (ad X W (f2 i 0) (fj B v) 88) (Exit.then (ad X W (f9 i) (fj B v) 88) Q):=ag ok [(32,56, .solo)] (by kernel_rfl) (by kernel_rfl) fun g=>by kernel_rfl
end
end Go.Proofs.YtfcljjhlijolgaaGreatDoor.serverQueue
