import Derived.Test.YtfcljjhlijolgaaGreatDoorSQD
namespace Go.Proofs.YtfcljjhlijolgaaGreatDoor.serverQueue
open Go.ChangeShapes Go.WideShapes Go.ChangeAt Go.RowKit
open Go.ChangeMaps (open_string shut_string)
open Eng
set_option linter.unusedVariables false
set_option linter.unusedSimpArgs false
section
variable {X:Mp×Hp×World} {W:Wd} (ok:Ok X W) {B:Bt} {v:V} {i:Nat} {Q:QT}
include ok
theorem Cg:Do ao (ad X W (f2 i 0) (bj B v) 79) (Exit.then (ad X W (f9 i) (bj B v) 79) Q):=ag ok [(32,47, .solo)] (by kernel_rfl) (by kernel_rfl) fun g=>by kernel_rfl
theorem Ch:Do ao (ad X W (f2 i 1) (bj B v) 79) (Exit.then (ad X W (f9 i) (ga B v) 80) Q):=ag ok [(32,44, .solo),(87,1, .solo),(76,3, .solo)] (by kernel_rfl) (by kernel_rfl) fun g=>by kernel_rfl
theorem Ci:Do ao (ad X W (f2 i 2) (bj B v) 79) (Exit.then (ad X W (f9 i) (gf B v) 80) Q):=ag ok [(32,44, .solo),(95,1,(.pair 87)),(76,3, .solo)] (by kernel_rfl) (by kernel_rfl) fun g=>by kernel_rfl
theorem Cj:Do ao (ad X W (f2 i 3) (bj B v) 79) (Exit.then (ad X W (f9 i) (gg B v) 80) Q):=ag ok [(32,44, .solo),(95,1, .solo),(76,3, .solo)] (by kernel_rfl) (by kernel_rfl) fun g=>by kernel_rfl
theorem Ck:Do ao (ad X W (f2 i 4) (bj B v) 79) (Exit.then (ad X W (f9 i) (gh B v) 83) Q):=ag ok [(32,44, .solo),(95,1, .solo),(76,3, .solo),(125,1, .solo),(122,2, .solo)] (by kernel_rfl) (by kernel_rfl) fun g=>by kernel_rfl
theorem Cl:Do ao (ad X W (f2 i 5) (bj B v) 79) (Exit.then (ad X W (f9 i) (gi B v) 83) Q):=ag ok [(32,44, .solo),(95,1, .solo),(76,3, .solo),(125,1, .solo),(122,2, .solo)] (by kernel_rfl) (by kernel_rfl) fun g=>by kernel_rfl
theorem Cm:Do ao (ad X W (f2 i 0) (ga B v) 80) (Exit.then (ad X W (f9 i) (ga B v) 80) Q):=ag ok [(32,48, .solo)] (by kernel_rfl) (by kernel_rfl) fun g=>by kernel_rfl
theorem Cn:Do ao (ad X W (f2 i 1) (ga B v) 80) (Exit.then (ad X W (f9 i) (gf B v) 80) Q):=ag ok [(32,44, .solo),(88,1,(.pair 76)),(77,3, .solo)] (by kernel_rfl) (by kernel_rfl) fun g=>by kernel_rfl
theorem Co:Do ao (ad X W (f2 i 2) (ga B v) 80) (Exit.then (ad X W (f9 i) (gg B v) 80) Q):=ag ok [(32,44, .solo),(88,1, .solo),(77,3, .solo)] (by kernel_rfl) (by kernel_rfl) fun g=>by kernel_rfl
theorem Cp:Do ao (ad X W (f2 i 3) (ga B v) 80) (Exit.then (ad X W (f9 i) (gh B v) 83) Q):=ag ok [(32,44, .solo),(88,1, .solo),(77,3, .solo),(118,1, .solo),(115,2, .solo)] (by kernel_rfl) (by kernel_rfl) fun g=>by kernel_rfl
theorem Cq:Do ao (ad X W (f2 i 4) (ga B v) 80) (Exit.then (ad X W (f9 i) (gi B v) 83) Q):=ag ok [(32,44, .solo),(88,1, .solo),(77,3, .solo),(118,1, .solo),(115,2, .solo)] (by kernel_rfl) (by kernel_rfl) fun g=>by kernel_rfl
theorem Cr:Do ao (ad X W (f2 i 0) (gf B v) 80) (Exit.then (ad X W (f9 i) (gf B v) 80) Q):=ag ok [(32,48, .solo)] (by kernel_rfl) (by kernel_rfl) fun g=>by kernel_rfl
theorem Cs:Do ao (ad X W (f2 i 1) (gf B v) 80) (Exit.then (ad X W (f9 i) (gg B v) 80) Q):=ag ok [(32,48, .solo)] (by kernel_rfl) (by kernel_rfl) fun g=>by kernel_rfl
theorem Ct:Do ao (ad X W (f2 i 2) (gf B v) 80) (Exit.then (ad X W (f9 i) (gh B v) 83) Q):=ag ok [(32,48, .solo),(110,1, .solo),(107,2, .solo)] (by kernel_rfl) (by kernel_rfl) fun g=>by kernel_rfl
theorem Cu:Do ao (ad X W (f2 i 3) (gf B v) 80) (Exit.then (ad X W (f9 i) (gi B v) 83) Q):=ag ok [(32,48, .solo),(110,1, .solo),(107,2, .solo)] (by kernel_rfl) (by kernel_rfl) fun g=>by kernel_rfl
theorem Cv:Do ao (ad X W (f2 i 0) (gg B v) 80) (Exit.then (ad X W (f9 i) (gg B v) 80) Q):=ag ok [(32,48, .solo)] (by kernel_rfl) (by kernel_rfl) fun g=>by kernel_rfl
theorem Cw:Do ao (ad X W (f2 i 1) (gg B v) 80) (Exit.then (ad X W (f9 i) (gh B v) 83) Q):=ag ok [(32,48, .solo),(92,1, .solo),(89,2, .solo)] (by kernel_rfl) (by kernel_rfl) fun g=>by kernel_rfl
theorem Cx:Do ao (ad X W (f2 i 2) (gg B v) 80) (Exit.then (ad X W (f9 i) (gi B v) 83) Q):=ag ok [(32,48, .solo),(92,1, .solo),(89,2, .solo)] (by kernel_rfl) (by kernel_rfl) fun g=>by kernel_rfl
theorem Cy:Do ao (ad X W (f2 i 0) (gh B v) 83) (Exit.then (ad X W (f9 i) (gh B v) 83) Q):=ag ok [(32,51, .solo)] (by kernel_rfl) (by kernel_rfl) fun g=>by kernel_rfl
theorem Cz:Do ao (ad X W (f2 i 1) (gh B v) 83) (Exit.then (ad X W (f9 i) (gi B v) 83) Q):=ag ok [(32,51, .solo)] (by kernel_rfl) (by kernel_rfl) fun g=>by kernel_rfl
theorem CA:Do ao (ad X W (f2 i 0) (gi B v) 83) (Exit.then (ad X W (f9 i) (gi B v) 83) Q):=ag ok [(32,51, .solo)] (by kernel_rfl) (by kernel_rfl) fun g=>by kernel_rfl
theorem CB:Do ao (ad X W (f2 i 0) (bl B v) 82) (Exit.then (ad X W (f9 i) (bl B v) 82) Q):=ag ok [(32,50, .solo)] (by kernel_rfl) (by kernel_rfl) fun g=>by kernel_rfl
theorem CC:Do ao (ad X W (f2 i 1) (bl B v) 82) (Exit.then (ad X W (f9 i) (gj B v) 83) Q):=ag ok [(32,47, .solo),(90,1, .solo),(79,3, .solo)] (by kernel_rfl) (by kernel_rfl) fun g=>by kernel_rfl
theorem CD:Do ao (ad X W (f2 i 2) (bl B v) 82) (Exit.then (ad X W (f9 i) (gl B v) 83) Q):=ag ok [(32,47, .solo),(98,1,(.pair 90)),(79,3, .solo)] (by kernel_rfl) (by kernel_rfl) fun g=>by kernel_rfl
theorem CE:Do ao (ad X W (f2 i 3) (bl B v) 82) (Exit.then (ad X W (f9 i) (gm B v) 83) Q):=ag ok [(32,47, .solo),(98,1, .solo),(79,3, .solo)] (by kernel_rfl) (by kernel_rfl) fun g=>by kernel_rfl
theorem CF:Do ao (ad X W (f2 i 4) (bl B v) 82) (Exit.then (ad X W (f9 i) (gn B v) 86) Q):=ag ok [(32,47, .solo),(98,1, .solo),(79,3, .solo),(128,1, .solo),(125,2, .solo)] (by kernel_rfl) (by kernel_rfl) fun g=>by kernel_rfl
theorem CG:Do ao (ad X W (f2 i 5) (bl B v) 82) (Exit.then (ad X W (f9 i) (gp B v) 86) Q):=ag ok [(32,47, .solo),(98,1, .solo),(79,3, .solo),(128,1, .solo),(125,2, .solo)] (by kernel_rfl) (by kernel_rfl) fun g=>by kernel_rfl
theorem CH:Do ao (ad X W (f2 i 0) (gj B v) 83) (Exit.then (ad X W (f9 i) (gj B v) 83) Q):=ag ok [(32,51, .solo)] (by kernel_rfl) (by kernel_rfl) fun g=>by kernel_rfl
theorem CI:Do ao (ad X W (f2 i 1) (gj B v) 83) (Exit.then (ad X W (f9 i) (gl B v) 83) Q):=ag ok [(32,47, .solo),(91,1,(.pair 79)),(80,3, .solo)] (by kernel_rfl) (by kernel_rfl) fun g=>by kernel_rfl
theorem CJ:Do ao (ad X W (f2 i 2) (gj B v) 83) (Exit.then (ad X W (f9 i) (gm B v) 83) Q):=ag ok [(32,47, .solo),(91,1, .solo),(80,3, .solo)] (by kernel_rfl) (by kernel_rfl) fun g=>by kernel_rfl
theorem CK:Do ao (ad X W (f2 i 3) (gj B v) 83) (Exit.then (ad X W (f9 i) (gn B v) 86) Q):=ag ok [(32,47, .solo),(91,1, .solo),(80,3, .solo),(121,1, .solo),(118,2, .solo)] (by kernel_rfl) (by kernel_rfl) fun g=>by kernel_rfl
theorem CM:Do ao (ad X W (f2 i 4) (gj B v) 83) (Exit.then (ad X W (f9 i) (gp B v) 86) Q):=ag ok [(32,47, .solo),(91,1, .solo),(80,3, .solo),(121,1, .solo),(118,2, .solo)] (by kernel_rfl) (by kernel_rfl) fun g=>by kernel_rfl
theorem CN:Do ao (ad X W (f2 i 0) (gl B v) 83) (Exit.then (ad X W (f9 i) (gl B v) 83) Q):=ag ok [(32,51, .solo)] (by kernel_rfl) (by kernel_rfl) fun g=>by kernel_rfl
theorem CO:Do ao (ad X W (f2 i 1) (gl B v) 83) (Exit.then (ad X W (f9 i) (gm B v) 83) Q):=ag ok [(32,51, .solo)] (by kernel_rfl) (by kernel_rfl) fun g=>by kernel_rfl
theorem CP:Do ao (ad X W (f2 i 2) (gl B v) 83) (Exit.then (ad X W (f9 i) (gn B v) 86) Q):=ag ok [(32,51, .solo),(113,1, .solo),(110,2, .solo)] (by kernel_rfl) (by kernel_rfl) fun g=>by kernel_rfl
theorem CQ:Do ao (ad X W (f2 i 3) (gl B v) 83) (Exit.then (ad X W (f9 i) (gp B v) 86) Q):=ag ok [(32,51, .solo),(113,1, .solo),(110,2, .solo)] (by kernel_rfl) (by kernel_rfl) fun g=>by kernel_rfl
theorem CR:Do ao (ad X W (f2 i 0) (gm B v) 83) (Exit.then (ad X W (f9 i) (gm B v) 83) Q):=ag ok [(32,51, .solo)] (by kernel_rfl) (by kernel_rfl) fun g=>by kernel_rfl
theorem CS:Do ao (ad X W (f2 i 1) (gm B v) 83) (Exit.then (ad X W (f9 i) (gn B v) 86) Q):=ag ok [(32,51, .solo),(95,1, .solo),(92,2, .solo)] (by kernel_rfl) (by kernel_rfl) fun g=>by kernel_rfl
theorem CT:Do ao (ad X W (f2 i 2) (gm B v) 83) (Exit.then (ad X W (f9 i) (gp B v) 86) Q):=ag ok [(32,51, .solo),(95,1, .solo),(92,2, .solo)] (by kernel_rfl) (by kernel_rfl) fun g=>by kernel_rfl
theorem CU:Do ao (ad X W (f2 i 0) (gn B v) 86) (Exit.then (ad X W (f9 i) (gn B v) 86) Q):=ag ok [(32,54, .solo)] (by kernel_rfl) (by kernel_rfl) fun g=>by kernel_rfl
theorem CV:Do ao (ad X W (f2 i 1) (gn B v) 86) (Exit.then (ad X W (f9 i) (gp B v) 86) Q):=ag ok [(32,54, .solo)] (by kernel_rfl) (by kernel_rfl) fun g=>by kernel_rfl
theorem CW:Do ao (ad X W (f2 i 0) (gp B v) 86) (Exit.then (ad X W (f9 i) (gp B v) 86) Q):=ag ok [(32,54, .solo)] (by kernel_rfl) (by kernel_rfl) fun g=>by kernel_rfl
theorem CX:Do ao (ad X W (f2 i 0) (bm B v) 85) (Exit.then (ad X W (f9 i) (bm B v) 85) Q):=ag ok [(32,53, .solo)] (by kernel_rfl) (by kernel_rfl) fun g=>by kernel_rfl
theorem CY:Do ao (ad X W (f2 i 1) (bm B v) 85) (Exit.then (ad X W (f9 i) (gq B v) 86) Q):=ag ok [(32,50, .solo),(93,1, .solo),(82,3, .solo)] (by kernel_rfl) (by kernel_rfl) fun g=>by kernel_rfl
theorem CZ:Do ao (ad X W (f2 i 2) (bm B v) 85) (Exit.then (ad X W (f9 i) (gr B v) 86) Q):=ag ok [(32,50, .solo),(101,1,(.pair 93)),(82,3, .solo)] (by kernel_rfl) (by kernel_rfl) fun g=>by kernel_rfl
theorem C1:Do ao (ad X W (f2 i 3) (bm B v) 85) (Exit.then (ad X W (f9 i) (gu B v) 86) Q):=ag ok [(32,50, .solo),(101,1, .solo),(82,3, .solo)] (by kernel_rfl) (by kernel_rfl) fun g=>by kernel_rfl
theorem C2:Do ao (ad X W (f2 i 4) (bm B v) 85) (Exit.then (ad X W (f9 i) (gv B v) 89) Q):=ag ok [(32,50, .solo),(101,1, .solo),(82,3, .solo),(131,1, .solo),(128,2, .solo)] (by kernel_rfl) (by kernel_rfl) fun g=>by kernel_rfl
end
end Go.Proofs.YtfcljjhlijolgaaGreatDoor.serverQueue
