import Derived.Test.YtfcljjhlijolgaaGreatDoorSQD
namespace Go.Proofs.YtfcljjhlijolgaaGreatDoor.serverQueue
open Go.ChangeShapes Go.WideShapes Go.ChangeAt Go.RowKit
open Go.ChangeMaps (open_string shut_string)
open Eng
set_option linter.unusedVariables false
set_option linter.unusedSimpArgs false
section
variable {X:Mp×Hp×World} {W:Wd} (ok:Ok X W) {B:Bt} {v:V} {i:Nat} {Q:QT}
include ok
theorem FB:Do ao (ad X W (f2 i 4) (aI B v) 85) (Exit.then (ad X W (f9 i) (c_ B v) 89) Q):=ag ok [(32,50, .solo),(101,1, .solo),(82,3, .solo),(131,1, .solo),(128,2, .solo)] (by kernel_rfl) (by kernel_rfl) fun g=>by kernel_rfl
theorem FC:Do ao (ad X W (f2 i 5) (aI B v) 85) (Exit.then (ad X W (f9 i) (da B v) 89) Q):=ag ok [(32,50, .solo),(101,1, .solo),(82,3, .solo),(131,1, .solo),(128,2, .solo)] (by kernel_rfl) (by kernel_rfl) fun g=>by kernel_rfl
theorem FD:Do ao (ad X W (f2 i 0) (c7 B v) 86) (Exit.then (ad X W (f9 i) (c7 B v) 86) Q):=ag ok [(32,54, .solo)] (by kernel_rfl) (by kernel_rfl) fun g=>by kernel_rfl
theorem FE:Do ao (ad X W (f2 i 1) (c7 B v) 86) (Exit.then (ad X W (f9 i) (c8 B v) 86) Q):=ag ok [(32,50, .solo),(94,1,(.pair 82)),(83,3, .solo)] (by kernel_rfl) (by kernel_rfl) fun g=>by kernel_rfl
theorem FF:Do ao (ad X W (f2 i 2) (c7 B v) 86) (Exit.then (ad X W (f9 i) (c9 B v) 86) Q):=ag ok [(32,50, .solo),(94,1, .solo),(83,3, .solo)] (by kernel_rfl) (by kernel_rfl) fun g=>by kernel_rfl
theorem FG:Do ao (ad X W (f2 i 3) (c7 B v) 86) (Exit.then (ad X W (f9 i) (c_ B v) 89) Q):=ag ok [(32,50, .solo),(94,1, .solo),(83,3, .solo),(124,1, .solo),(121,2, .solo)] (by kernel_rfl) (by kernel_rfl) fun g=>by kernel_rfl
theorem FH:Do ao (ad X W (f2 i 4) (c7 B v) 86) (Exit.then (ad X W (f9 i) (da B v) 89) Q):=ag ok [(32,50, .solo),(94,1, .solo),(83,3, .solo),(124,1, .solo),(121,2, .solo)] (by kernel_rfl) (by kernel_rfl) fun g=>by kernel_rfl
theorem FI:Do ao (ad X W (f2 i 0) (c8 B v) 86) (Exit.then (ad X W (f9 i) (c8 B v) 86) Q):=ag ok [(32,54, .solo)] (by kernel_rfl) (by kernel_rfl) fun g=>by kernel_rfl
theorem FJ:Do ao (ad X W (f2 i 1) (c8 B v) 86) (Exit.then (ad X W (f9 i) (c9 B v) 86) Q):=ag ok [(32,54, .solo)] (by kernel_rfl) (by kernel_rfl) fun g=>by kernel_rfl
theorem FK:Do ao (ad X W (f2 i 2) (c8 B v) 86) (Exit.then (ad X W (f9 i) (c_ B v) 89) Q):=ag ok [(32,54, .solo),(116,1, .solo),(113,2, .solo)] (by kernel_rfl) (by kernel_rfl) fun g=>by kernel_rfl
theorem FL:Do ao (ad X W (f2 i 3) (c8 B v) 86) (Exit.then (ad X W (f9 i) (da B v) 89) Q):=ag ok [(32,54, .solo),(116,1, .solo),(113,2, .solo)] (by kernel_rfl) (by kernel_rfl) fun g=>by kernel_rfl
theorem FM:Do ao (ad X W (f2 i 0) (c9 B v) 86) (Exit.then (ad X W (f9 i) (c9 B v) 86) Q):=ag ok [(32,54, .solo)] (by kernel_rfl) (by kernel_rfl) fun g=>by kernel_rfl
theorem FN:Do ao (ad X W (f2 i 1) (c9 B v) 86) (Exit.then (ad X W (f9 i) (c_ B v) 89) Q):=ag ok [(32,54, .solo),(98,1, .solo),(95,2, .solo)] (by kernel_rfl) (by kernel_rfl) fun g=>by kernel_rfl
theorem FO:Do ao (ad X W (f2 i 2) (c9 B v) 86) (Exit.then (ad X W (f9 i) (da B v) 89) Q):=ag ok [(32,54, .solo),(98,1, .solo),(95,2, .solo)] (by kernel_rfl) (by kernel_rfl) fun g=>by kernel_rfl
theorem FP:Do ao (ad X W (f2 i 0) (c_ B v) 89) (Exit.then (ad X W (f9 i) (c_ B v) 89) Q):=ag ok [(32,57, .solo)] (by kernel_rfl) (by kernel_rfl) fun g=>by kernel_rfl
theorem FQ:Do ao (ad X W (f2 i 1) (c_ B v) 89) (Exit.then (ad X W (f9 i) (da B v) 89) Q):=ag ok [(32,57, .solo)] (by kernel_rfl) (by kernel_rfl) fun g=>by kernel_rfl
theorem FR:Do ao (ad X W (f2 i 0) (da B v) 89) (Exit.then (ad X W (f9 i) (da B v) 89) Q):=ag ok [(32,57, .solo)] (by kernel_rfl) (by kernel_rfl) fun g=>by kernel_rfl
end
end Go.Proofs.YtfcljjhlijolgaaGreatDoor.serverQueue
