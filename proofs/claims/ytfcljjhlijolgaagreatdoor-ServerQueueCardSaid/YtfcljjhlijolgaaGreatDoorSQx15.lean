import Derived.Test.YtfcljjhlijolgaaGreatDoorSQD
namespace Go.Proofs.YtfcljjhlijolgaaGreatDoor.serverQueue
open Go.ChangeShapes Go.WideShapes Go.ChangeAt Go.RowKit
open Go.ChangeMaps (open_string shut_string)
open Eng
set_option linter.unusedVariables false
set_option linter.unusedSimpArgs false
section
variable {X:Mp×Hp×World} {W:Wd} (ok:Ok X W) {B:Bt} {v:V} {i:Nat} {Q:QT}
include ok
theorem Am {n:Nat} (h1:1≤n) (h2:n≤6):Do ao (ad X W (f2 i n) (da (B.s3 true) (v.l 68 13)) 89) (Exit.then (ad X W (f9 i) (az (B.s3 true) (v.a1 68 13 (tl 10))) 79) Q):=ah ok [(32,7, .solo),(159,1,(.pair 39)),(40,7, .solo),(147,1,(.pair 47)),(48,2, .solo),(51,6, .solo),(153,1, .solo),(157,1, .solo),(57,13, .solo),(71,8, .solo)] (by kernel_rfl) (by kernel_rfl) (e5 n) (q5 n) (ig h1 h2) fun g=>by kernel_rfl
end
end Go.Proofs.YtfcljjhlijolgaaGreatDoor.serverQueue
