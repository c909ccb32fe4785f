import Derived.Test.YtfcljjhlijolgaaGreatDoorSQD
namespace Go.Proofs.YtfcljjhlijolgaaGreatDoor.serverQueue
open Go.ChangeShapes Go.WideShapes Go.ChangeAt Go.RowKit
open Go.ChangeMaps (open_string shut_string)
open Eng
set_option linter.unusedVariables false
set_option linter.unusedSimpArgs false
section
variable {X:Mp×Hp×World} {W:Wd} (ok:Ok X W) {B:Bt} {v:V} {i:Nat} {Q:QT}
include ok
theorem C3:Do ao (ad X W (f2 i 5) (bm B v) 85) (Exit.then (ad X W (f9 i) (gw B v) 89) Q):=ag ok [(32,50, .solo),(101,1, .solo),(82,3, .solo),(131,1, .solo),(128,2, .solo)] (by kernel_rfl) (by kernel_rfl) fun g=>by kernel_rfl
theorem C4:Do ao (ad X W (f2 i 0) (gq B v) 86) (Exit.then (ad X W (f9 i) (gq B v) 86) Q):=ag ok [(32,54, .solo)] (by kernel_rfl) (by kernel_rfl) fun g=>by kernel_rfl
theorem C5:Do ao (ad X W (f2 i 1) (gq B v) 86) (Exit.then (ad X W (f9 i) (gr B v) 86) Q):=ag ok [(32,50, .solo),(94,1,(.pair 82)),(83,3, .solo)] (by kernel_rfl) (by kernel_rfl) fun g=>by kernel_rfl
theorem C6:Do ao (ad X W (f2 i 2) (gq B v) 86) (Exit.then (ad X W (f9 i) (gu B v) 86) Q):=ag ok [(32,50, .solo),(94,1, .solo),(83,3, .solo)] (by kernel_rfl) (by kernel_rfl) fun g=>by kernel_rfl
theorem C7:Do ao (ad X W (f2 i 3) (gq B v) 86) (Exit.then (ad X W (f9 i) (gv B v) 89) Q):=ag ok [(32,50, .solo),(94,1, .solo),(83,3, .solo),(124,1, .solo),(121,2, .solo)] (by kernel_rfl) (by kernel_rfl) fun g=>by kernel_rfl
theorem C8:Do ao (ad X W (f2 i 4) (gq B v) 86) (Exit.then (ad X W (f9 i) (gw B v) 89) Q):=ag ok [(32,50, .solo),(94,1, .solo),(83,3, .solo),(124,1, .solo),(121,2, .solo)] (by kernel_rfl) (by kernel_rfl) fun g=>by kernel_rfl
theorem C9:Do ao (ad X W (f2 i 0) (gr B v) 86) (Exit.then (ad X W (f9 i) (gr B v) 86) Q):=ag ok [(32,54, .solo)] (by kernel_rfl) (by kernel_rfl) fun g=>by kernel_rfl
theorem C_:Do ao (ad X W (f2 i 1) (gr B v) 86) (Exit.then (ad X W (f9 i) (gu B v) 86) Q):=ag ok [(32,54, .solo)] (by kernel_rfl) (by kernel_rfl) fun g=>by kernel_rfl
theorem Da:Do ao (ad X W (f2 i 2) (gr B v) 86) (Exit.then (ad X W (f9 i) (gv B v) 89) Q):=ag ok [(32,54, .solo),(116,1, .solo),(113,2, .solo)] (by kernel_rfl) (by kernel_rfl) fun g=>by kernel_rfl
theorem Db:Do ao (ad X W (f2 i 3) (gr B v) 86) (Exit.then (ad X W (f9 i) (gw B v) 89) Q):=ag ok [(32,54, .solo),(116,1, .solo),(113,2, .solo)] (by kernel_rfl) (by kernel_rfl) fun g=>by kernel_rfl
theorem Dc:Do ao (ad X W (f2 i 0) (gu B v) 86) (Exit.then (ad X W (f9 i) (gu B v) 86) Q):=ag ok [(32,54, .solo)] (by kernel_rfl) (by kernel_rfl) fun g=>by kernel_rfl
theorem Dd:Do ao (ad X W (f2 i 1) (gu B v) 86) (Exit.then (ad X W (f9 i) (gv B v) 89) Q):=ag ok [(32,54, .solo),(98,1, .solo),(95,2, .solo)] (by kernel_rfl) (by kernel_rfl) fun g=>by kernel_rfl
theorem De:Do ao (ad X W (f2 i 2) (gu B v) 86) (Exit.then (ad X W (f9 i) (gw B v) 89) Q):=ag ok [(32,54, .solo),(98,1, .solo),(95,2, .solo)] (by kernel_rfl) (by kernel_rfl) fun g=>by kernel_rfl
theorem Df:Do ao (ad X W (f2 i 0) (gv B v) 89) (Exit.then (ad X W (f9 i) (gv B v) 89) Q):=ag ok [(32,57, .solo)] (by kernel_rfl) (by kernel_rfl) fun g=>by kernel_rfl
theorem Dg:Do ao (ad X W (f2 i 1) (gv B v) 89) (Exit.then (ad X W (f9 i) (gw B v) 89) Q):=ag ok [(32,57, .solo)] (by kernel_rfl) (by kernel_rfl) fun g=>by kernel_rfl
theorem Dh:Do ao (ad X W (f2 i 0) (gw B v) 89) (Exit.then (ad X W (f9 i) (gw B v) 89) Q):=ag ok [(32,57, .solo)] (by kernel_rfl) (by kernel_rfl) fun g=>by kernel_rfl
theorem Di:Do ao (ad X W (f2 i 0) (bZ B v) 88) (Exit.then (ad X W (f9 i) (bZ B v) 88) Q):=ag ok [(32,56, .solo)] (by kernel_rfl) (by kernel_rfl) fun g=>by kernel_rfl
theorem Dj:Do ao (ad X W (f2 i 1) (bZ B v) 88) (Exit.then (ad X W (f9 i) (gy B v) 89) Q):=ag ok [(32,53, .solo),(96,1, .solo),(85,3, .solo)] (by kernel_rfl) (by kernel_rfl) fun g=>by kernel_rfl
theorem Dk:Do ao (ad X W (f2 i 2) (bZ B v) 88) (Exit.then (ad X W (f9 i) (gz B v) 89) Q):=ag ok [(32,53, .solo),(104,1,(.pair 96)),(85,3, .solo)] (by kernel_rfl) (by kernel_rfl) fun g=>by kernel_rfl
theorem Dl:Do ao (ad X W (f2 i 3) (bZ B v) 88) (Exit.then (ad X W (f9 i) (gA B v) 89) Q):=ag ok [(32,53, .solo),(104,1, .solo),(85,3, .solo)] (by kernel_rfl) (by kernel_rfl) fun g=>by kernel_rfl
theorem Dm:Do ao (ad X W (f2 i 4) (bZ B v) 88) (Exit.then (ad X W (f9 i) (gB B v) 92) Q):=ag ok [(32,53, .solo),(104,1, .solo),(85,3, .solo),(134,1, .solo),(131,2, .solo)] (by kernel_rfl) (by kernel_rfl) fun g=>by kernel_rfl
theorem Dn:Do ao (ad X W (f2 i 5) (bZ B v) 88) (Exit.then (ad X W (f9 i) (gC B v) 92) Q):=ag ok [(32,53, .solo),(104,1, .solo),(85,3, .solo),(134,1, .solo),(131,2, .solo)] (by kernel_rfl) (by kernel_rfl) fun g=>by kernel_rfl
theorem Dp:Do ao (ad X W (f2 i 0) (gy B v) 89) (Exit.then (ad X W (f9 i) (gy B v) 89) Q):=ag ok [(32,57, .solo)] (by kernel_rfl) (by kernel_rfl) fun g=>by kernel_rfl
theorem Dq:Do ao (ad X W (f2 i 1) (gy B v) 89) (Exit.then (ad X W (f9 i) (gz B v) 89) Q):=ag ok [(32,53, .solo),(97,1,(.pair 85)),(86,3, .solo)] (by kernel_rfl) (by kernel_rfl) fun g=>by kernel_rfl
theorem Dr:Do ao (ad X W (f2 i 2) (gy B v) 89) (Exit.then (ad X W (f9 i) (gA B v) 89) Q):=ag ok [(32,53, .solo),(97,1, .solo),(86,3, .solo)] (by kernel_rfl) (by kernel_rfl) fun g=>by kernel_rfl
theorem Ds:Do ao (ad X W (f2 i 3) (gy B v) 89) (Exit.then (ad X W (f9 i) (gB B v) 92) Q):=ag ok [(32,53, .solo),(97,1, .solo),(86,3, .solo),(127,1, .solo),(124,2, .solo)] (by kernel_rfl) (by kernel_rfl) fun g=>by kernel_rfl
theorem Dt:Do ao (ad X W (f2 i 4) (gy B v) 89) (Exit.then (ad X W (f9 i) (gC B v) 92) Q):=ag ok [(32,53, .solo),(97,1, .solo),(86,3, .solo),(127,1, .solo),(124,2, .solo)] (by kernel_rfl) (by kernel_rfl) fun g=>by kernel_rfl
theorem Du:Do ao (ad X W (f2 i 0) (gz B v) 89) (Exit.then (ad X W (f9 i) (gz B v) 89) Q):=ag ok [(32,57, .solo)] (by kernel_rfl) (by kernel_rfl) fun g=>by kernel_rfl
theorem Dv:Do ao (ad X W (f2 i 1) (gz B v) 89) (Exit.then (ad X W (f9 i) (gA B v) 89) Q):=ag ok [(32,57, .solo)] (by kernel_rfl) (by kernel_rfl) fun g=>by kernel_rfl
theorem Dw:Do ao (ad X W (f2 i 2) (gz B v) 89) (Exit.then (ad X W (f9 i) (gB B v) 92) Q):=ag ok [(32,57, .solo),(119,1, .solo),(116,2, .solo)] (by kernel_rfl) (by kernel_rfl) fun g=>by kernel_rfl
theorem Dx:Do ao (ad X W (f2 i 3) (gz B v) 89) (Exit.then (ad X W (f9 i) (gC B v) 92) Q):=ag ok [(32,57, .solo),(119,1, .solo),(116,2, .solo)] (by kernel_rfl) (by kernel_rfl) fun g=>by kernel_rfl
theorem Dy:Do ao (ad X W (f2 i 0) (gA B v) 89) (Exit.then (ad X W (f9 i) (gA B v) 89) Q):=ag ok [(32,57, .solo)] (by kernel_rfl) (by kernel_rfl) fun g=>by kernel_rfl
theorem Dz:Do ao (ad X W (f2 i 1) (gA B v) 89) (Exit.then (ad X W (f9 i) (gB B v) 92) Q):=ag ok [(32,57, .solo),(101,1, .solo),(98,2, .solo)] (by kernel_rfl) (by kernel_rfl) fun g=>by kernel_rfl
theorem DA:Do ao (ad X W (f2 i 2) (gA B v) 89) (Exit.then (ad X W (f9 i) (gC B v) 92) Q):=ag ok [(32,57, .solo),(101,1, .solo),(98,2, .solo)] (by kernel_rfl) (by kernel_rfl) fun g=>by kernel_rfl
theorem DB:Do ao (ad X W (f2 i 0) (gB B v) 92) (Exit.then (ad X W (f9 i) (gB B v) 92) Q):=ag ok [(32,60, .solo)] (by kernel_rfl) (by kernel_rfl) fun g=>by kernel_rfl
theorem DC:Do ao (ad X W (f2 i 1) (gB B v) 92) (Exit.then (ad X W (f9 i) (gC B v) 92) Q):=ag ok [(32,60, .solo)] (by kernel_rfl) (by kernel_rfl) fun g=>by kernel_rfl
theorem DD:Do ao (ad X W (f2 i 0) (gC B v) 92) (Exit.then (ad X W (f9 i) (gC B v) 92) Q):=ag ok [(32,60, .solo)] (by kernel_rfl) (by kernel_rfl) fun g=>by kernel_rfl
theorem DE:Do ao (ad X W (f2 i 0) (bM B v) 81) (Exit.then (ad X W (f9 i) (bM B v) 81) Q):=ag ok [(32,49, .solo)] (by kernel_rfl) (by kernel_rfl) fun g=>by kernel_rfl
theorem DF:Do ao (ad X W (f2 i 1) (bM B v) 81) (Exit.then (ad X W (f9 i) (eR B v) 82) Q):=ag ok [(32,46, .solo),(89,1, .solo),(78,3, .solo)] (by kernel_rfl) (by kernel_rfl) fun g=>by kernel_rfl
theorem DG:Do ao (ad X W (f2 i 2) (bM B v) 81) (Exit.then (ad X W (f9 i) (eS B v) 82) Q):=ag ok [(32,46, .solo),(97,1,(.pair 89)),(78,3, .solo)] (by kernel_rfl) (by kernel_rfl) fun g=>by kernel_rfl
theorem DH:Do ao (ad X W (f2 i 3) (bM B v) 81) (Exit.then (ad X W (f9 i) (eT B v) 82) Q):=ag ok [(32,46, .solo),(97,1, .solo),(78,3, .solo)] (by kernel_rfl) (by kernel_rfl) fun g=>by kernel_rfl
theorem DI:Do ao (ad X W (f2 i 4) (bM B v) 81) (Exit.then (ad X W (f9 i) (eU B v) 85) Q):=ag ok [(32,46, .solo),(97,1, .solo),(78,3, .solo),(127,1, .solo),(124,2, .solo)] (by kernel_rfl) (by kernel_rfl) fun g=>by kernel_rfl
theorem DJ:Do ao (ad X W (f2 i 5) (bM B v) 81) (Exit.then (ad X W (f9 i) (eV B v) 85) Q):=ag ok [(32,46, .solo),(97,1, .solo),(78,3, .solo),(127,1, .solo),(124,2, .solo)] (by kernel_rfl) (by kernel_rfl) fun g=>by kernel_rfl
theorem DK:Do ao (ad X W (f2 i 0) (eR B v) 82) (Exit.then (ad X W (f9 i) (eR B v) 82) Q):=ag ok [(32,50, .solo)] (by kernel_rfl) (by kernel_rfl) fun g=>by kernel_rfl
theorem DL:Do ao (ad X W (f2 i 1) (eR B v) 82) (Exit.then (ad X W (f9 i) (eS B v) 82) Q):=ag ok [(32,46, .solo),(90,1,(.pair 78)),(79,3, .solo)] (by kernel_rfl) (by kernel_rfl) fun g=>by kernel_rfl
theorem DM:Do ao (ad X W (f2 i 2) (eR B v) 82) (Exit.then (ad X W (f9 i) (eT B v) 82) Q):=ag ok [(32,46, .solo),(90,1, .solo),(79,3, .solo)] (by kernel_rfl) (by kernel_rfl) fun g=>by kernel_rfl
theorem DN:Do ao (ad X W (f2 i 3) (eR B v) 82) (Exit.then (ad X W (f9 i) (eU B v) 85) Q):=ag ok [(32,46, .solo),(90,1, .solo),(79,3, .solo),(120,1, .solo),(117,2, .solo)] (by kernel_rfl) (by kernel_rfl) fun g=>by kernel_rfl
end
end Go.Proofs.YtfcljjhlijolgaaGreatDoor.serverQueue
