import Derived.Test.YtfcljjhlijolgaaGreatDoorTL4p
import Derived.Test.YtfcljjhlijolgaaGreatDoorTL4t1
import Derived.Test.YtfcljjhlijolgaaGreatDoorTL4t2
import Derived.Test.YtfcljjhlijolgaaGreatDoorTL4t3
import Derived.Test.YtfcljjhlijolgaaGreatDoorTL4t4
import Derived.Test.YtfcljjhlijolgaaGreatDoorTL4t5
import Derived.Test.YtfcljjhlijolgaaGreatDoorTL4t6
import Derived.Test.YtfcljjhlijolgaaGreatDoorTL4t7
import Derived.Test.YtfcljjhlijolgaaGreatDoorTL4t8
import Derived.Test.YtfcljjhlijolgaaGreatDoorTL4t9
import Derived.Test.YtfcljjhlijolgaaGreatDoorTL4t10
import Derived.Test.YtfcljjhlijolgaaGreatDoorTL4t11
import Derived.Test.YtfcljjhlijolgaaGreatDoorTL4t12
import Derived.Test.YtfcljjhlijolgaaGreatDoorTL4e
namespace Go.Proofs.YtfcljjhlijolgaaGreatDoor.topLate
open Go.ChangeShapes Go.WideShapes Go.ChangeAt Go.RowKit
open Go.ChangeMaps (open_string shut_string)
open Eng
set_option linter.unusedVariables false
set_option linter.unusedSimpArgs false
section
variable {X:Mp×Hp×World} (ok:fJ X)
theorem Ux {c l:Nat→Nat} {u told t:Nat}:Do mu (Sx X 4 37 told t (aF c l u 0)) (rq X.1 X.2.1 X.2.2 128 2):=
 mr av fun g=>ab aq .fin (p:=[some (AV.bool true)] = [some (AV.bool true)]) (by kernel_rfl) rfl
end
inductive b8 (l:Nat→Nat) (u:Nat):Nat→Hp→Prop where
 | kF (a0:u≤l 0 % 7) (a1:u≤l 1 % 7) (a2:u≤l 2 % 7) (a3:u≤l 3 % 7):b8 l u 2 (sW nS l u 0)
 | kS (lf:Nat) (f1:20000≤lf+9*u) (f2:lf≤20000) (a0:u≤l 0 % 7) (a1:u≤l 1 % 7) (a2:u≤l 2 % 7) (a3:u≤l 3 % 7):b8 l u 2 (bf nS l u lf)
 | k0F (a0:l 0 % 7 < u) (a1:u≤l 1 % 7) (a2:u≤l 2 % 7) (a3:u≤l 3 % 7):b8 l u 3 (rE kn l u 0)
 | k0S (lf:Nat) (f1:20000≤lf+9*u) (f2:lf≤20000) (a0:l 0 % 7 < u) (a1:u≤l 1 % 7) (a2:u≤l 2 % 7) (a3:u≤l 3 % 7):b8 l u 3 (dv kn l u lf)
 | k1S (lf:Nat) (f1:20000≤lf+9*u) (f2:lf≤20000) (a0:u≤l 0 % 7) (a1:l 1 % 7 < u) (a2:u≤l 2 % 7) (a3:u≤l 3 % 7):b8 l u 3 (dq kG l u lf)
 | k2S (lf:Nat) (f1:20000≤lf+9*u) (f2:lf≤20000) (a0:u≤l 0 % 7) (a1:u≤l 1 % 7) (a2:l 2 % 7 < u) (a3:u≤l 3 % 7):b8 l u 3 (dr kH l u lf)
 | k3S (lf:Nat) (f1:20000≤lf+9*u) (f2:lf≤20000) (a0:u≤l 0 % 7) (a1:u≤l 1 % 7) (a2:u≤l 2 % 7) (a3:l 3 % 7 < u):b8 l u 3 (du kI l u lf)
 | k01F (a0:l 0 % 7 < u) (a1:l 1 % 7 < u) (a2:u≤l 2 % 7) (a3:u≤l 3 % 7):b8 l u 4 (m5 gg l u 0)
 | k01S (lf:Nat) (f1:20000≤lf+9*u) (f2:lf≤20000) (a0:l 0 % 7 < u) (a1:l 1 % 7 < u) (a2:u≤l 2 % 7) (a3:u≤l 3 % 7):b8 l u 4 (dL gg l u lf)
 | k02F (a0:l 0 % 7 < u) (a1:u≤l 1 % 7) (a2:l 2 % 7 < u) (a3:u≤l 3 % 7):b8 l u 4 (pw gh l u 0)
 | k02S (lf:Nat) (f1:20000≤lf+9*u) (f2:lf≤20000) (a0:l 0 % 7 < u) (a1:u≤l 1 % 7) (a2:l 2 % 7 < u) (a3:u≤l 3 % 7):b8 l u 4 (dd gh l u lf)
 | k03F (a0:l 0 % 7 < u) (a1:u≤l 1 % 7) (a2:u≤l 2 % 7) (a3:l 3 % 7 < u):b8 l u 4 (py gi l u 0)
 | k03S (lf:Nat) (f1:20000≤lf+9*u) (f2:lf≤20000) (a0:l 0 % 7 < u) (a1:u≤l 1 % 7) (a2:u≤l 2 % 7) (a3:l 3 % 7 < u):b8 l u 4 (de gi l u lf)
 | k10F (a0:l 0 % 7 < u) (a1:l 1 % 7 < u) (a2:u≤l 2 % 7) (a3:u≤l 3 % 7):b8 l u 4 (m5 jj l u 0)
 | k10S (lf:Nat) (f1:20000≤lf+9*u) (f2:lf≤20000) (a0:l 0 % 7 < u) (a1:l 1 % 7 < u) (a2:u≤l 2 % 7) (a3:u≤l 3 % 7):b8 l u 4 (dL jj l u lf)
 | k12S (lf:Nat) (f1:20000≤lf+9*u) (f2:lf≤20000) (a0:u≤l 0 % 7) (a1:l 1 % 7 < u) (a2:l 2 % 7 < u) (a3:u≤l 3 % 7):b8 l u 4 (cN g9 l u lf)
 | k13S (lf:Nat) (f1:20000≤lf+9*u) (f2:lf≤20000) (a0:u≤l 0 % 7) (a1:l 1 % 7 < u) (a2:u≤l 2 % 7) (a3:l 3 % 7 < u):b8 l u 4 (cO g_ l u lf)
 | k20F (a0:l 0 % 7 < u) (a1:u≤l 1 % 7) (a2:l 2 % 7 < u) (a3:u≤l 3 % 7):b8 l u 4 (pw jk l u 0)
 | k20S (lf:Nat) (f1:20000≤lf+9*u) (f2:lf≤20000) (a0:l 0 % 7 < u) (a1:u≤l 1 % 7) (a2:l 2 % 7 < u) (a3:u≤l 3 % 7):b8 l u 4 (dd jk l u lf)
 | k21S (lf:Nat) (f1:20000≤lf+9*u) (f2:lf≤20000) (a0:u≤l 0 % 7) (a1:l 1 % 7 < u) (a2:l 2 % 7 < u) (a3:u≤l 3 % 7):b8 l u 4 (cN jT l u lf)
 | k23S (lf:Nat) (f1:20000≤lf+9*u) (f2:lf≤20000) (a0:u≤l 0 % 7) (a1:u≤l 1 % 7) (a2:l 2 % 7 < u) (a3:l 3 % 7 < u):b8 l u 4 (cQ hE l u lf)
 | k30F (a0:l 0 % 7 < u) (a1:u≤l 1 % 7) (a2:u≤l 2 % 7) (a3:l 3 % 7 < u):b8 l u 4 (py jl l u 0)
 | k30S (lf:Nat) (f1:20000≤lf+9*u) (f2:lf≤20000) (a0:l 0 % 7 < u) (a1:u≤l 1 % 7) (a2:u≤l 2 % 7) (a3:l 3 % 7 < u):b8 l u 4 (de jl l u lf)
 | k31S (lf:Nat) (f1:20000≤lf+9*u) (f2:lf≤20000) (a0:u≤l 0 % 7) (a1:l 1 % 7 < u) (a2:u≤l 2 % 7) (a3:l 3 % 7 < u):b8 l u 4 (cO jU l u lf)
 | k32S (lf:Nat) (f1:20000≤lf+9*u) (f2:lf≤20000) (a0:u≤l 0 % 7) (a1:u≤l 1 % 7) (a2:l 2 % 7 < u) (a3:l 3 % 7 < u):b8 l u 4 (cQ jV l u lf)
 | k012F (a0:l 0 % 7 < u) (a1:l 1 % 7 < u) (a2:l 2 % 7 < u) (a3:u≤l 3 % 7):b8 l u 5 (fS dM l u 0)
 | k012S (lf:Nat) (f1:20000≤lf+9*u) (f2:lf≤20000) (a0:l 0 % 7 < u) (a1:l 1 % 7 < u) (a2:l 2 % 7 < u) (a3:u≤l 3 % 7):b8 l u 5 (bU dM l u lf)
 | k013F (a0:l 0 % 7 < u) (a1:l 1 % 7 < u) (a2:u≤l 2 % 7) (a3:l 3 % 7 < u):b8 l u 5 (gY dN l u 0)
 | k013S (lf:Nat) (f1:20000≤lf+9*u) (f2:lf≤20000) (a0:l 0 % 7 < u) (a1:l 1 % 7 < u) (a2:u≤l 2 % 7) (a3:l 3 % 7 < u):b8 l u 5 (bK dN l u lf)
 | k021F (a0:l 0 % 7 < u) (a1:l 1 % 7 < u) (a2:l 2 % 7 < u) (a3:u≤l 3 % 7):b8 l u 5 (fS hH l u 0)
 | k021S (lf:Nat) (f1:20000≤lf+9*u) (f2:lf≤20000) (a0:l 0 % 7 < u) (a1:l 1 % 7 < u) (a2:l 2 % 7 < u) (a3:u≤l 3 % 7):b8 l u 5 (bU hH l u lf)
 | k023F (a0:l 0 % 7 < u) (a1:u≤l 1 % 7) (a2:l 2 % 7 < u) (a3:l 3 % 7 < u):b8 l u 5 (km dO l u 0)
 | k023S (lf:Nat) (f1:20000≤lf+9*u) (f2:lf≤20000) (a0:l 0 % 7 < u) (a1:u≤l 1 % 7) (a2:l 2 % 7 < u) (a3:l 3 % 7 < u):b8 l u 5 (bA dO l u lf)
 | k031F (a0:l 0 % 7 < u) (a1:l 1 % 7 < u) (a2:u≤l 2 % 7) (a3:l 3 % 7 < u):b8 l u 5 (gY hO l u 0)
 | k031S (lf:Nat) (f1:20000≤lf+9*u) (f2:lf≤20000) (a0:l 0 % 7 < u) (a1:l 1 % 7 < u) (a2:u≤l 2 % 7) (a3:l 3 % 7 < u):b8 l u 5 (bK hO l u lf)
 | k032S (lf:Nat) (f1:20000≤lf+9*u) (f2:lf≤20000) (a0:l 0 % 7 < u) (a1:u≤l 1 % 7) (a2:l 2 % 7 < u) (a3:l 3 % 7 < u):b8 l u 5 (bA iO l u lf)
 | k102F (a0:l 0 % 7 < u) (a1:l 1 % 7 < u) (a2:l 2 % 7 < u) (a3:u≤l 3 % 7):b8 l u 5 (fS e_ l u 0)
 | k102S (lf:Nat) (f1:20000≤lf+9*u) (f2:lf≤20000) (a0:l 0 % 7 < u) (a1:l 1 % 7 < u) (a2:l 2 % 7 < u) (a3:u≤l 3 % 7):b8 l u 5 (bU e_ l u lf)
 | k103F (a0:l 0 % 7 < u) (a1:l 1 % 7 < u) (a2:u≤l 2 % 7) (a3:l 3 % 7 < u):b8 l u 5 (gY fe l u 0)
 | k103S (lf:Nat) (f1:20000≤lf+9*u) (f2:lf≤20000) (a0:l 0 % 7 < u) (a1:l 1 % 7 < u) (a2:u≤l 2 % 7) (a3:l 3 % 7 < u):b8 l u 5 (bK fe l u lf)
 | k120F (a0:l 0 % 7 < u) (a1:l 1 % 7 < u) (a2:l 2 % 7 < u) (a3:u≤l 3 % 7):b8 l u 5 (fS hI l u 0)
 | k120S (lf:Nat) (f1:20000≤lf+9*u) (f2:lf≤20000) (a0:l 0 % 7 < u) (a1:l 1 % 7 < u) (a2:l 2 % 7 < u) (a3:u≤l 3 % 7):b8 l u 5 (bU hI l u lf)
 | k123S (lf:Nat) (f1:20000≤lf+9*u) (f2:lf≤20000) (a0:u≤l 0 % 7) (a1:l 1 % 7 < u) (a2:l 2 % 7 < u) (a3:l 3 % 7 < u):b8 l u 5 (bq dX l u lf)
 | k130F (a0:l 0 % 7 < u) (a1:l 1 % 7 < u) (a2:u≤l 2 % 7) (a3:l 3 % 7 < u):b8 l u 5 (gY hP l u 0)
 | k130S (lf:Nat) (f1:20000≤lf+9*u) (f2:lf≤20000) (a0:l 0 % 7 < u) (a1:l 1 % 7 < u) (a2:u≤l 2 % 7) (a3:l 3 % 7 < u):b8 l u 5 (bK hP l u lf)
 | k132S (lf:Nat) (f1:20000≤lf+9*u) (f2:lf≤20000) (a0:u≤l 0 % 7) (a1:l 1 % 7 < u) (a2:l 2 % 7 < u) (a3:l 3 % 7 < u):b8 l u 5 (bq iP l u lf)
 | k201F (a0:l 0 % 7 < u) (a1:l 1 % 7 < u) (a2:l 2 % 7 < u) (a3:u≤l 3 % 7):b8 l u 5 (fS fg l u 0)
 | k201S (lf:Nat) (f1:20000≤lf+9*u) (f2:lf≤20000) (a0:l 0 % 7 < u) (a1:l 1 % 7 < u) (a2:l 2 % 7 < u) (a3:u≤l 3 % 7):b8 l u 5 (bU fg l u lf)
 | k203F (a0:l 0 % 7 < u) (a1:u≤l 1 % 7) (a2:l 2 % 7 < u) (a3:l 3 % 7 < u):b8 l u 5 (km fh l u 0)
 | k203S (lf:Nat) (f1:20000≤lf+9*u) (f2:lf≤20000) (a0:l 0 % 7 < u) (a1:u≤l 1 % 7) (a2:l 2 % 7 < u) (a3:l 3 % 7 < u):b8 l u 5 (bA fh l u lf)
 | k210F (a0:l 0 % 7 < u) (a1:l 1 % 7 < u) (a2:l 2 % 7 < u) (a3:u≤l 3 % 7):b8 l u 5 (fS hX l u 0)
 | k210S (lf:Nat) (f1:20000≤lf+9*u) (f2:lf≤20000) (a0:l 0 % 7 < u) (a1:l 1 % 7 < u) (a2:l 2 % 7 < u) (a3:u≤l 3 % 7):b8 l u 5 (bU hX l u lf)
 | k213S (lf:Nat) (f1:20000≤lf+9*u) (f2:lf≤20000) (a0:u≤l 0 % 7) (a1:l 1 % 7 < u) (a2:l 2 % 7 < u) (a3:l 3 % 7 < u):b8 l u 5 (bq fH l u lf)
 | k230F (a0:l 0 % 7 < u) (a1:u≤l 1 % 7) (a2:l 2 % 7 < u) (a3:l 3 % 7 < u):b8 l u 5 (km hU l u 0)
 | k230S (lf:Nat) (f1:20000≤lf+9*u) (f2:lf≤20000) (a0:l 0 % 7 < u) (a1:u≤l 1 % 7) (a2:l 2 % 7 < u) (a3:l 3 % 7 < u):b8 l u 5 (bA hU l u lf)
 | k231S (lf:Nat) (f1:20000≤lf+9*u) (f2:lf≤20000) (a0:u≤l 0 % 7) (a1:l 1 % 7 < u) (a2:l 2 % 7 < u) (a3:l 3 % 7 < u):b8 l u 5 (bq iQ l u lf)
 | k301F (a0:l 0 % 7 < u) (a1:l 1 % 7 < u) (a2:u≤l 2 % 7) (a3:l 3 % 7 < u):b8 l u 5 (gY fj l u 0)
 | k301S (lf:Nat) (f1:20000≤lf+9*u) (f2:lf≤20000) (a0:l 0 % 7 < u) (a1:l 1 % 7 < u) (a2:u≤l 2 % 7) (a3:l 3 % 7 < u):b8 l u 5 (bK fj l u lf)
 | k302F (a0:l 0 % 7 < u) (a1:u≤l 1 % 7) (a2:l 2 % 7 < u) (a3:l 3 % 7 < u):b8 l u 5 (km fk l u 0)
 | k302S (lf:Nat) (f1:20000≤lf+9*u) (f2:lf≤20000) (a0:l 0 % 7 < u) (a1:u≤l 1 % 7) (a2:l 2 % 7 < u) (a3:l 3 % 7 < u):b8 l u 5 (bA fk l u lf)
 | k310F (a0:l 0 % 7 < u) (a1:l 1 % 7 < u) (a2:u≤l 2 % 7) (a3:l 3 % 7 < u):b8 l u 5 (gY hZ l u 0)
 | k310S (lf:Nat) (f1:20000≤lf+9*u) (f2:lf≤20000) (a0:l 0 % 7 < u) (a1:l 1 % 7 < u) (a2:u≤l 2 % 7) (a3:l 3 % 7 < u):b8 l u 5 (bK hZ l u lf)
 | k312S (lf:Nat) (f1:20000≤lf+9*u) (f2:lf≤20000) (a0:u≤l 0 % 7) (a1:l 1 % 7 < u) (a2:l 2 % 7 < u) (a3:l 3 % 7 < u):b8 l u 5 (bq fI l u lf)
 | k320F (a0:l 0 % 7 < u) (a1:u≤l 1 % 7) (a2:l 2 % 7 < u) (a3:l 3 % 7 < u):b8 l u 5 (km h_ l u 0)
 | k320S (lf:Nat) (f1:20000≤lf+9*u) (f2:lf≤20000) (a0:l 0 % 7 < u) (a1:u≤l 1 % 7) (a2:l 2 % 7 < u) (a3:l 3 % 7 < u):b8 l u 5 (bA h_ l u lf)
 | k321S (lf:Nat) (f1:20000≤lf+9*u) (f2:lf≤20000) (a0:u≤l 0 % 7) (a1:l 1 % 7 < u) (a2:l 2 % 7 < u) (a3:l 3 % 7 < u):b8 l u 5 (bq iR l u lf)
 | k0123N (a0:l 0 % 7 < u) (a1:l 1 % 7 < u) (a2:l 2 % 7 < u) (a3:l 3 % 7 < u):b8 l u 6 (aF b5 l u 0)
 | k0132N (a0:l 0 % 7 < u) (a1:l 1 % 7 < u) (a2:l 2 % 7 < u) (a3:l 3 % 7 < u):b8 l u 6 (aF gq l u 0)
 | k0213N (a0:l 0 % 7 < u) (a1:l 1 % 7 < u) (a2:l 2 % 7 < u) (a3:l 3 % 7 < u):b8 l u 6 (aF ep l u 0)
 | k0231N (a0:l 0 % 7 < u) (a1:l 1 % 7 < u) (a2:l 2 % 7 < u) (a3:l 3 % 7 < u):b8 l u 6 (aF gr l u 0)
 | k0312N (a0:l 0 % 7 < u) (a1:l 1 % 7 < u) (a2:l 2 % 7 < u) (a3:l 3 % 7 < u):b8 l u 6 (aF eu l u 0)
 | k0321N (a0:l 0 % 7 < u) (a1:l 1 % 7 < u) (a2:l 2 % 7 < u) (a3:l 3 % 7 < u):b8 l u 6 (aF gB l u 0)
 | k1023N (a0:l 0 % 7 < u) (a1:l 1 % 7 < u) (a2:l 2 % 7 < u) (a3:l 3 % 7 < u):b8 l u 6 (aF cR l u 0)
 | k1032N (a0:l 0 % 7 < u) (a1:l 1 % 7 < u) (a2:l 2 % 7 < u) (a3:l 3 % 7 < u):b8 l u 6 (aF gv l u 0)
 | k1203N (a0:l 0 % 7 < u) (a1:l 1 % 7 < u) (a2:l 2 % 7 < u) (a3:l 3 % 7 < u):b8 l u 6 (aF et l u 0)
 | k1230N (a0:l 0 % 7 < u) (a1:l 1 % 7 < u) (a2:l 2 % 7 < u) (a3:l 3 % 7 < u):b8 l u 6 (aF gu l u 0)
 | k1302N (a0:l 0 % 7 < u) (a1:l 1 % 7 < u) (a2:l 2 % 7 < u) (a3:l 3 % 7 < u):b8 l u 6 (aF ew l u 0)
 | k1320N (a0:l 0 % 7 < u) (a1:l 1 % 7 < u) (a2:l 2 % 7 < u) (a3:l 3 % 7 < u):b8 l u 6 (aF gC l u 0)
 | k2013N (a0:l 0 % 7 < u) (a1:l 1 % 7 < u) (a2:l 2 % 7 < u) (a3:l 3 % 7 < u):b8 l u 6 (aF cU l u 0)
 | k2031N (a0:l 0 % 7 < u) (a1:l 1 % 7 < u) (a2:l 2 % 7 < u) (a3:l 3 % 7 < u):b8 l u 6 (aF gw l u 0)
 | k2103N (a0:l 0 % 7 < u) (a1:l 1 % 7 < u) (a2:l 2 % 7 < u) (a3:l 3 % 7 < u):b8 l u 6 (aF ez l u 0)
 | k2130N (a0:l 0 % 7 < u) (a1:l 1 % 7 < u) (a2:l 2 % 7 < u) (a3:l 3 % 7 < u):b8 l u 6 (aF gy l u 0)
 | k2301N (a0:l 0 % 7 < u) (a1:l 1 % 7 < u) (a2:l 2 % 7 < u) (a3:l 3 % 7 < u):b8 l u 6 (aF ey l u 0)
 | k2310N (a0:l 0 % 7 < u) (a1:l 1 % 7 < u) (a2:l 2 % 7 < u) (a3:l 3 % 7 < u):b8 l u 6 (aF gD l u 0)
 | k3012N (a0:l 0 % 7 < u) (a1:l 1 % 7 < u) (a2:l 2 % 7 < u) (a3:l 3 % 7 < u):b8 l u 6 (aF cV l u 0)
 | k3021N (a0:l 0 % 7 < u) (a1:l 1 % 7 < u) (a2:l 2 % 7 < u) (a3:l 3 % 7 < u):b8 l u 6 (aF gz l u 0)
 | k3102N (a0:l 0 % 7 < u) (a1:l 1 % 7 < u) (a2:l 2 % 7 < u) (a3:l 3 % 7 < u):b8 l u 6 (aF eA l u 0)
 | k3120N (a0:l 0 % 7 < u) (a1:l 1 % 7 < u) (a2:l 2 % 7 < u) (a3:l 3 % 7 < u):b8 l u 6 (aF gA l u 0)
 | k3201N (a0:l 0 % 7 < u) (a1:l 1 % 7 < u) (a2:l 2 % 7 < u) (a3:l 3 % 7 < u):b8 l u 6 (aF eB l u 0)
 | k3210N (a0:l 0 % 7 < u) (a1:l 1 % 7 < u) (a2:l 2 % 7 < u) (a3:l 3 % 7 < u):b8 l u 6 (aF gE l u 0)
def cX (X:Mp×Hp×World) (l:Nat→Nat) (u t:Nat):ST:=fun a w=> ∃told h,b8 l u told h∧Sx X 4 37 told t h a w
theorem aV {X:Mp×Hp×World} {l:Nat→Nat} {u t told:Nat} {h:Hp} (hk:b8 l u told h): ∀a w,Sx X 4 37 told t h a w→cX X l u t a w:=fun a w s=>⟨told,h,hk,s⟩
section
variable {X:Mp×Hp×World} (ok:fJ X)
include ok
theorem Ro {l:Nat→Nat} {u:Nat} (hu:u < 8) {lf:Nat} (f1:19991≤lf+9*u) (f2:lf≤20000) (a0:u≤l 0 % 7) (a1:u≤l 1 % 7) (a2:u≤l 2 % 7) (a3:u≤l 3 % 7) {Q:QT}:Do an (Sx X 4 37 2 (u+1) (bf nS l u lf)) (Exit.then (cX X l (u+1) (u+1)) Q):=by
 rcases ay a0 with a0 | a0
 ·
  rcases ay a1 with a1 | a1
  ·
   rcases ay a2 with a2 | a2
   ·
    rcases ay a3 with a3 | a3
    ·
     exact ag (wB (lf:=lf) ok hu a0 a1 a2 a3) (aV (.k0123N (by omega) (by omega) (by omega) (by omega)))
    ·
     exact ag (Ak (lf:=lf) ok hu a0 a1 a2 a3) (aV (.k012F (by omega) (by omega) (by omega) (by omega)))
   ·
    rcases ay a3 with a3 | a3
    ·
     exact ag (Al (lf:=lf) ok hu a0 a1 a2 a3) (aV (.k013F (by omega) (by omega) (by omega) (by omega)))
    ·
     exact ag (DO (lf:=lf) ok hu a0 a1 a2 a3) (aV (.k01F (by omega) (by omega) (by omega) (by omega)))
  ·
   rcases ay a2 with a2 | a2
   ·
    rcases ay a3 with a3 | a3
    ·
     exact ag (Am (lf:=lf) ok hu a0 a1 a2 a3) (aV (.k023F (by omega) (by omega) (by omega) (by omega)))
    ·
     exact ag (DP (lf:=lf) ok hu a0 a1 a2 a3) (aV (.k02F (by omega) (by omega) (by omega) (by omega)))
   ·
    rcases ay a3 with a3 | a3
    ·
     exact ag (DR (lf:=lf) ok hu a0 a1 a2 a3) (aV (.k03F (by omega) (by omega) (by omega) (by omega)))
    ·
     exact ag (KF (lf:=lf) ok hu a0 a1 a2 a3) (aV (.k0F (by omega) (by omega) (by omega) (by omega)))
 ·
  rcases ay a1 with a1 | a1
  ·
   rcases ay a2 with a2 | a2
   ·
    rcases ay a3 with a3 | a3
    ·
     exact ag (An (lf:=lf) ok hu a0 a1 a2 a3) (aV (.k123S lf (by omega) f2 (by omega) (by omega) (by omega) (by omega)))
    ·
     exact ag (DQ (lf:=lf) ok hu a0 a1 a2 a3) (aV (.k12S lf (by omega) f2 (by omega) (by omega) (by omega) (by omega)))
   ·
    rcases ay a3 with a3 | a3
    ·
     exact ag (DT (lf:=lf) ok hu a0 a1 a2 a3) (aV (.k13S lf (by omega) f2 (by omega) (by omega) (by omega) (by omega)))
    ·
     exact ag (KG (lf:=lf) ok hu a0 a1 a2 a3) (aV (.k1S lf (by omega) f2 (by omega) (by omega) (by omega) (by omega)))
  ·
   rcases ay a2 with a2 | a2
   ·
    rcases ay a3 with a3 | a3
    ·
     exact ag (DU (lf:=lf) ok hu a0 a1 a2 a3) (aV (.k23S lf (by omega) f2 (by omega) (by omega) (by omega) (by omega)))
    ·
     exact ag (KH (lf:=lf) ok hu a0 a1 a2 a3) (aV (.k2S lf (by omega) f2 (by omega) (by omega) (by omega) (by omega)))
   ·
    rcases ay a3 with a3 | a3
    ·
     exact ag (KI (lf:=lf) ok hu a0 a1 a2 a3) (aV (.k3S lf (by omega) f2 (by omega) (by omega) (by omega) (by omega)))
    ·
     exact ag (Rn (lf:=lf) ok hu a0 a1 a2 a3) (aV (.kS lf (by omega) f2 (by omega) (by omega) (by omega) (by omega)))
theorem I3 {l:Nat→Nat} {u:Nat} (hu:u < 8) {lf:Nat} (f1:19991≤lf+9*u) (f2:lf≤20000) (a0:l 0 % 7 < u) (a1:u≤l 1 % 7) (a2:u≤l 2 % 7) (a3:u≤l 3 % 7) {Q:QT}:Do an (Sx X 4 37 3 (u+1) (dv kn l u lf)) (Exit.then (cX X l (u+1) (u+1)) Q):=by
 rcases ay a1 with a1 | a1
 ·
  rcases ay a2 with a2 | a2
  ·
   rcases ay a3 with a3 | a3
   ·
    exact ag (wC (lf:=lf) ok hu a0 a1 a2 a3) (aV (.k0123N (by omega) (by omega) (by omega) (by omega)))
   ·
    exact ag (Ao (lf:=lf) ok hu a0 a1 a2 a3) (aV (.k012F (by omega) (by omega) (by omega) (by omega)))
  ·
   rcases ay a3 with a3 | a3
   ·
    exact ag (Ap (lf:=lf) ok hu a0 a1 a2 a3) (aV (.k013F (by omega) (by omega) (by omega) (by omega)))
   ·
    exact ag (DV (lf:=lf) ok hu a0 a1 a2 a3) (aV (.k01F (by omega) (by omega) (by omega) (by omega)))
 ·
  rcases ay a2 with a2 | a2
  ·
   rcases ay a3 with a3 | a3
   ·
    exact ag (Aq (lf:=lf) ok hu a0 a1 a2 a3) (aV (.k023S lf (by omega) f2 (by omega) (by omega) (by omega) (by omega)))
   ·
    exact ag (DW (lf:=lf) ok hu a0 a1 a2 a3) (aV (.k02S lf (by omega) f2 (by omega) (by omega) (by omega) (by omega)))
  ·
   rcases ay a3 with a3 | a3
   ·
    exact ag (DX (lf:=lf) ok hu a0 a1 a2 a3) (aV (.k03S lf (by omega) f2 (by omega) (by omega) (by omega) (by omega)))
   ·
    exact ag (KJ (lf:=lf) ok hu a0 a1 a2 a3) (aV (.k0S lf (by omega) f2 (by omega) (by omega) (by omega) (by omega)))
theorem Rp {l:Nat→Nat} {u:Nat} (hu:u < 8) {lf:Nat} (f1:19991≤lf+9*u) (f2:lf≤20000) (a0:u≤l 0 % 7) (a1:l 1 % 7 < u) (a2:u≤l 2 % 7) (a3:u≤l 3 % 7) {Q:QT}:Do an (Sx X 4 37 3 (u+1) (dq kG l u lf)) (Exit.then (cX X l (u+1) (u+1)) Q):=by
 rcases ay a0 with a0 | a0
 ·
  rcases ay a2 with a2 | a2
  ·
   rcases ay a3 with a3 | a3
   ·
    exact ag (wD (lf:=lf) ok hu a0 a1 a2 a3) (aV (.k1023N (by omega) (by omega) (by omega) (by omega)))
   ·
    exact ag (Ar (lf:=lf) ok hu a0 a1 a2 a3) (aV (.k102F (by omega) (by omega) (by omega) (by omega)))
  ·
   rcases ay a3 with a3 | a3
   ·
    exact ag (As (lf:=lf) ok hu a0 a1 a2 a3) (aV (.k103F (by omega) (by omega) (by omega) (by omega)))
   ·
    exact ag (DY (lf:=lf) ok hu a0 a1 a2 a3) (aV (.k10F (by omega) (by omega) (by omega) (by omega)))
 ·
  rcases ay a2 with a2 | a2
  ·
   rcases ay a3 with a3 | a3
   ·
    exact ag (Au (lf:=lf) ok hu a0 a1 a2 a3) (aV (.k123S lf (by omega) f2 (by omega) (by omega) (by omega) (by omega)))
   ·
    exact ag (DZ (lf:=lf) ok hu a0 a1 a2 a3) (aV (.k12S lf (by omega) f2 (by omega) (by omega) (by omega) (by omega)))
  ·
   rcases ay a3 with a3 | a3
   ·
    exact ag (D3 (lf:=lf) ok hu a0 a1 a2 a3) (aV (.k13S lf (by omega) f2 (by omega) (by omega) (by omega) (by omega)))
   ·
    exact ag (KK (lf:=lf) ok hu a0 a1 a2 a3) (aV (.k1S lf (by omega) f2 (by omega) (by omega) (by omega) (by omega)))
theorem Rq {l:Nat→Nat} {u:Nat} (hu:u < 8) {lf:Nat} (f1:19991≤lf+9*u) (f2:lf≤20000) (a0:u≤l 0 % 7) (a1:u≤l 1 % 7) (a2:l 2 % 7 < u) (a3:u≤l 3 % 7) {Q:QT}:Do an (Sx X 4 37 3 (u+1) (dr kH l u lf)) (Exit.then (cX X l (u+1) (u+1)) Q):=by
 rcases ay a0 with a0 | a0
 ·
  rcases ay a1 with a1 | a1
  ·
   rcases ay a3 with a3 | a3
   ·
    exact ag (wF (lf:=lf) ok hu a0 a1 a2 a3) (aV (.k2013N (by omega) (by omega) (by omega) (by omega)))
   ·
    exact ag (Ax (lf:=lf) ok hu a0 a1 a2 a3) (aV (.k201F (by omega) (by omega) (by omega) (by omega)))
  ·
   rcases ay a3 with a3 | a3
   ·
    exact ag (Ay (lf:=lf) ok hu a0 a1 a2 a3) (aV (.k203F (by omega) (by omega) (by omega) (by omega)))
   ·
    exact ag (D5 (lf:=lf) ok hu a0 a1 a2 a3) (aV (.k20F (by omega) (by omega) (by omega) (by omega)))
 ·
  rcases ay a1 with a1 | a1
  ·
   rcases ay a3 with a3 | a3
   ·
    exact ag (Az (lf:=lf) ok hu a0 a1 a2 a3) (aV (.k213S lf (by omega) f2 (by omega) (by omega) (by omega) (by omega)))
   ·
    exact ag (D6 (lf:=lf) ok hu a0 a1 a2 a3) (aV (.k21S lf (by omega) f2 (by omega) (by omega) (by omega) (by omega)))
  ·
   rcases ay a3 with a3 | a3
   ·
    exact ag (D7 (lf:=lf) ok hu a0 a1 a2 a3) (aV (.k23S lf (by omega) f2 (by omega) (by omega) (by omega) (by omega)))
   ·
    exact ag (KM (lf:=lf) ok hu a0 a1 a2 a3) (aV (.k2S lf (by omega) f2 (by omega) (by omega) (by omega) (by omega)))
theorem Rr {l:Nat→Nat} {u:Nat} (hu:u < 8) {lf:Nat} (f1:19991≤lf+9*u) (f2:lf≤20000) (a0:u≤l 0 % 7) (a1:u≤l 1 % 7) (a2:u≤l 2 % 7) (a3:l 3 % 7 < u) {Q:QT}:Do an (Sx X 4 37 3 (u+1) (du kI l u lf)) (Exit.then (cX X l (u+1) (u+1)) Q):=by
 rcases ay a0 with a0 | a0
 ·
  rcases ay a1 with a1 | a1
  ·
   rcases ay a2 with a2 | a2
   ·
    exact ag (wJ (lf:=lf) ok hu a0 a1 a2 a3) (aV (.k3012N (by omega) (by omega) (by omega) (by omega)))
   ·
    exact ag (AI (lf:=lf) ok hu a0 a1 a2 a3) (aV (.k301F (by omega) (by omega) (by omega) (by omega)))
  ·
   rcases ay a2 with a2 | a2
   ·
    exact ag (AJ (lf:=lf) ok hu a0 a1 a2 a3) (aV (.k302F (by omega) (by omega) (by omega) (by omega)))
   ·
    exact ag (D_ (lf:=lf) ok hu a0 a1 a2 a3) (aV (.k30F (by omega) (by omega) (by omega) (by omega)))
 ·
  rcases ay a1 with a1 | a1
  ·
   rcases ay a2 with a2 | a2
   ·
    exact ag (AK (lf:=lf) ok hu a0 a1 a2 a3) (aV (.k312S lf (by omega) f2 (by omega) (by omega) (by omega) (by omega)))
   ·
    exact ag (Ea (lf:=lf) ok hu a0 a1 a2 a3) (aV (.k31S lf (by omega) f2 (by omega) (by omega) (by omega) (by omega)))
  ·
   rcases ay a2 with a2 | a2
   ·
    exact ag (Eb (lf:=lf) ok hu a0 a1 a2 a3) (aV (.k32S lf (by omega) f2 (by omega) (by omega) (by omega) (by omega)))
   ·
    exact ag (KN (lf:=lf) ok hu a0 a1 a2 a3) (aV (.k3S lf (by omega) f2 (by omega) (by omega) (by omega) (by omega)))
theorem BB {l:Nat→Nat} {u:Nat} (hu:u < 8) {lf:Nat} (f1:19991≤lf+9*u) (f2:lf≤20000) (a0:l 0 % 7 < u) (a1:l 1 % 7 < u) (a2:u≤l 2 % 7) (a3:u≤l 3 % 7) {Q:QT}:Do an (Sx X 4 37 4 (u+1) (dL gg l u lf)) (Exit.then (cX X l (u+1) (u+1)) Q):=by
 rcases ay a2 with a2 | a2
 ·
  rcases ay a3 with a3 | a3
  ·
   exact ag (wE (lf:=lf) ok hu a0 a1 a2 a3) (aV (.k0123N (by omega) (by omega) (by omega) (by omega)))
  ·
   exact ag (Av (lf:=lf) ok hu a0 a1 a2 a3) (aV (.k012F (by omega) (by omega) (by omega) (by omega)))
 ·
  rcases ay a3 with a3 | a3
  ·
   exact ag (Aw (lf:=lf) ok hu a0 a1 a2 a3) (aV (.k013S lf (by omega) f2 (by omega) (by omega) (by omega) (by omega)))
  ·
   exact ag (D4 (lf:=lf) ok hu a0 a1 a2 a3) (aV (.k01S lf (by omega) f2 (by omega) (by omega) (by omega) (by omega)))
theorem BC {l:Nat→Nat} {u:Nat} (hu:u < 8) {lf:Nat} (f1:19991≤lf+9*u) (f2:lf≤20000) (a0:l 0 % 7 < u) (a1:u≤l 1 % 7) (a2:l 2 % 7 < u) (a3:u≤l 3 % 7) {Q:QT}:Do an (Sx X 4 37 4 (u+1) (dd gh l u lf)) (Exit.then (cX X l (u+1) (u+1)) Q):=by
 rcases ay a1 with a1 | a1
 ·
  rcases ay a3 with a3 | a3
  ·
   exact ag (wG (lf:=lf) ok hu a0 a1 a2 a3) (aV (.k0213N (by omega) (by omega) (by omega) (by omega)))
  ·
   exact ag (AA (lf:=lf) ok hu a0 a1 a2 a3) (aV (.k021F (by omega) (by omega) (by omega) (by omega)))
 ·
  rcases ay a3 with a3 | a3
  ·
   exact ag (AB (lf:=lf) ok hu a0 a1 a2 a3) (aV (.k023S lf (by omega) f2 (by omega) (by omega) (by omega) (by omega)))
  ·
   exact ag (D8 (lf:=lf) ok hu a0 a1 a2 a3) (aV (.k02S lf (by omega) f2 (by omega) (by omega) (by omega) (by omega)))
theorem BD {l:Nat→Nat} {u:Nat} (hu:u < 8) {lf:Nat} (f1:19991≤lf+9*u) (f2:lf≤20000) (a0:l 0 % 7 < u) (a1:u≤l 1 % 7) (a2:u≤l 2 % 7) (a3:l 3 % 7 < u) {Q:QT}:Do an (Sx X 4 37 4 (u+1) (de gi l u lf)) (Exit.then (cX X l (u+1) (u+1)) Q):=by
 rcases ay a1 with a1 | a1
 ·
  rcases ay a2 with a2 | a2
  ·
   exact ag (wK (lf:=lf) ok hu a0 a1 a2 a3) (aV (.k0312N (by omega) (by omega) (by omega) (by omega)))
  ·
   exact ag (AL (lf:=lf) ok hu a0 a1 a2 a3) (aV (.k031F (by omega) (by omega) (by omega) (by omega)))
 ·
  rcases ay a2 with a2 | a2
  ·
   exact ag (AM (lf:=lf) ok hu a0 a1 a2 a3) (aV (.k032S lf (by omega) f2 (by omega) (by omega) (by omega) (by omega)))
  ·
   exact ag (Ec (lf:=lf) ok hu a0 a1 a2 a3) (aV (.k03S lf (by omega) f2 (by omega) (by omega) (by omega) (by omega)))
theorem BE {l:Nat→Nat} {u:Nat} (hu:u < 8) {lf:Nat} (f1:19991≤lf+9*u) (f2:lf≤20000) (a0:l 0 % 7 < u) (a1:l 1 % 7 < u) (a2:u≤l 2 % 7) (a3:u≤l 3 % 7) {Q:QT}:Do an (Sx X 4 37 4 (u+1) (dL jj l u lf)) (Exit.then (cX X l (u+1) (u+1)) Q):=by
 rcases ay a2 with a2 | a2
 ·
  rcases ay a3 with a3 | a3
  ·
   exact ag (wR (lf:=lf) ok hu a0 a1 a2 a3) (aV (.k1023N (by omega) (by omega) (by omega) (by omega)))
  ·
   exact ag (AW (lf:=lf) ok hu a0 a1 a2 a3) (aV (.k102F (by omega) (by omega) (by omega) (by omega)))
 ·
  rcases ay a3 with a3 | a3
  ·
   exact ag (AY (lf:=lf) ok hu a0 a1 a2 a3) (aV (.k103S lf (by omega) f2 (by omega) (by omega) (by omega) (by omega)))
  ·
   exact ag (Ef (lf:=lf) ok hu a0 a1 a2 a3) (aV (.k10S lf (by omega) f2 (by omega) (by omega) (by omega) (by omega)))
theorem KO {l:Nat→Nat} {u:Nat} (hu:u < 8) {lf:Nat} (f1:19991≤lf+9*u) (f2:lf≤20000) (a0:u≤l 0 % 7) (a1:l 1 % 7 < u) (a2:l 2 % 7 < u) (a3:u≤l 3 % 7) {Q:QT}:Do an (Sx X 4 37 4 (u+1) (cN g9 l u lf)) (Exit.then (cX X l (u+1) (u+1)) Q):=by
 rcases ay a0 with a0 | a0
 ·
  rcases ay a3 with a3 | a3
  ·
   exact ag (wH (lf:=lf) ok hu a0 a1 a2 a3) (aV (.k1203N (by omega) (by omega) (by omega) (by omega)))
  ·
   exact ag (AD (lf:=lf) ok hu a0 a1 a2 a3) (aV (.k120F (by omega) (by omega) (by omega) (by omega)))
 ·
  rcases ay a3 with a3 | a3
  ·
   exact ag (AG (lf:=lf) ok hu a0 a1 a2 a3) (aV (.k123S lf (by omega) f2 (by omega) (by omega) (by omega) (by omega)))
  ·
   exact ag (D9 (lf:=lf) ok hu a0 a1 a2 a3) (aV (.k12S lf (by omega) f2 (by omega) (by omega) (by omega) (by omega)))
theorem KQ {l:Nat→Nat} {u:Nat} (hu:u < 8) {lf:Nat} (f1:19991≤lf+9*u) (f2:lf≤20000) (a0:u≤l 0 % 7) (a1:l 1 % 7 < u) (a2:u≤l 2 % 7) (a3:l 3 % 7 < u) {Q:QT}:Do an (Sx X 4 37 4 (u+1) (cO g_ l u lf)) (Exit.then (cX X l (u+1) (u+1)) Q):=by
 rcases ay a0 with a0 | a0
 ·
  rcases ay a2 with a2 | a2
  ·
   exact ag (wL (lf:=lf) ok hu a0 a1 a2 a3) (aV (.k1302N (by omega) (by omega) (by omega) (by omega)))
  ·
   exact ag (AN (lf:=lf) ok hu a0 a1 a2 a3) (aV (.k130F (by omega) (by omega) (by omega) (by omega)))
 ·
  rcases ay a2 with a2 | a2
  ·
   exact ag (AP (lf:=lf) ok hu a0 a1 a2 a3) (aV (.k132S lf (by omega) f2 (by omega) (by omega) (by omega) (by omega)))
  ·
   exact ag (Ed (lf:=lf) ok hu a0 a1 a2 a3) (aV (.k13S lf (by omega) f2 (by omega) (by omega) (by omega) (by omega)))
theorem BF {l:Nat→Nat} {u:Nat} (hu:u < 8) {lf:Nat} (f1:19991≤lf+9*u) (f2:lf≤20000) (a0:l 0 % 7 < u) (a1:u≤l 1 % 7) (a2:l 2 % 7 < u) (a3:u≤l 3 % 7) {Q:QT}:Do an (Sx X 4 37 4 (u+1) (dd jk l u lf)) (Exit.then (cX X l (u+1) (u+1)) Q):=by
 rcases ay a1 with a1 | a1
 ·
  rcases ay a3 with a3 | a3
  ·
   exact ag (wV (lf:=lf) ok hu a0 a1 a2 a3) (aV (.k2013N (by omega) (by omega) (by omega) (by omega)))
  ·
   exact ag (A8 (lf:=lf) ok hu a0 a1 a2 a3) (aV (.k201F (by omega) (by omega) (by omega) (by omega)))
 ·
  rcases ay a3 with a3 | a3
  ·
   exact ag (A9 (lf:=lf) ok hu a0 a1 a2 a3) (aV (.k203S lf (by omega) f2 (by omega) (by omega) (by omega) (by omega)))
  ·
   exact ag (Eg (lf:=lf) ok hu a0 a1 a2 a3) (aV (.k20S lf (by omega) f2 (by omega) (by omega) (by omega) (by omega)))
theorem KU {l:Nat→Nat} {u:Nat} (hu:u < 8) {lf:Nat} (f1:19991≤lf+9*u) (f2:lf≤20000) (a0:u≤l 0 % 7) (a1:l 1 % 7 < u) (a2:l 2 % 7 < u) (a3:u≤l 3 % 7) {Q:QT}:Do an (Sx X 4 37 4 (u+1) (cN jT l u lf)) (Exit.then (cX X l (u+1) (u+1)) Q):=by
 rcases ay a0 with a0 | a0
 ·
  rcases ay a3 with a3 | a3
  ·
   exact ag (wW (lf:=lf) ok hu a0 a1 a2 a3) (aV (.k2103N (by omega) (by omega) (by omega) (by omega)))
  ·
   exact ag (A_ (lf:=lf) ok hu a0 a1 a2 a3) (aV (.k210F (by omega) (by omega) (by omega) (by omega)))
 ·
  rcases ay a3 with a3 | a3
  ·
   exact ag (Ba (lf:=lf) ok hu a0 a1 a2 a3) (aV (.k213S lf (by omega) f2 (by omega) (by omega) (by omega) (by omega)))
  ·
   exact ag (Eh (lf:=lf) ok hu a0 a1 a2 a3) (aV (.k21S lf (by omega) f2 (by omega) (by omega) (by omega) (by omega)))
theorem KW {l:Nat→Nat} {u:Nat} (hu:u < 8) {lf:Nat} (f1:19991≤lf+9*u) (f2:lf≤20000) (a0:u≤l 0 % 7) (a1:u≤l 1 % 7) (a2:l 2 % 7 < u) (a3:l 3 % 7 < u) {Q:QT}:Do an (Sx X 4 37 4 (u+1) (cQ hE l u lf)) (Exit.then (cX X l (u+1) (u+1)) Q):=by
 rcases ay a0 with a0 | a0
 ·
  rcases ay a1 with a1 | a1
  ·
   exact ag (wN (lf:=lf) ok hu a0 a1 a2 a3) (aV (.k2301N (by omega) (by omega) (by omega) (by omega)))
  ·
   exact ag (AR (lf:=lf) ok hu a0 a1 a2 a3) (aV (.k230F (by omega) (by omega) (by omega) (by omega)))
 ·
  rcases ay a1 with a1 | a1
  ·
   exact ag (AS (lf:=lf) ok hu a0 a1 a2 a3) (aV (.k231S lf (by omega) f2 (by omega) (by omega) (by omega) (by omega)))
  ·
   exact ag (Ee (lf:=lf) ok hu a0 a1 a2 a3) (aV (.k23S lf (by omega) f2 (by omega) (by omega) (by omega) (by omega)))
theorem BG {l:Nat→Nat} {u:Nat} (hu:u < 8) {lf:Nat} (f1:19991≤lf+9*u) (f2:lf≤20000) (a0:l 0 % 7 < u) (a1:u≤l 1 % 7) (a2:u≤l 2 % 7) (a3:l 3 % 7 < u) {Q:QT}:Do an (Sx X 4 37 4 (u+1) (de jl l u lf)) (Exit.then (cX X l (u+1) (u+1)) Q):=by
 rcases ay a1 with a1 | a1
 ·
  rcases ay a2 with a2 | a2
  ·
   exact ag (w_ (lf:=lf) ok hu a0 a1 a2 a3) (aV (.k3012N (by omega) (by omega) (by omega) (by omega)))
  ·
   exact ag (Bg (lf:=lf) ok hu a0 a1 a2 a3) (aV (.k301F (by omega) (by omega) (by omega) (by omega)))
 ·
  rcases ay a2 with a2 | a2
  ·
   exact ag (Bh (lf:=lf) ok hu a0 a1 a2 a3) (aV (.k302S lf (by omega) f2 (by omega) (by omega) (by omega) (by omega)))
  ·
   exact ag (Ei (lf:=lf) ok hu a0 a1 a2 a3) (aV (.k30S lf (by omega) f2 (by omega) (by omega) (by omega) (by omega)))
theorem KX {l:Nat→Nat} {u:Nat} (hu:u < 8) {lf:Nat} (f1:19991≤lf+9*u) (f2:lf≤20000) (a0:u≤l 0 % 7) (a1:l 1 % 7 < u) (a2:u≤l 2 % 7) (a3:l 3 % 7 < u) {Q:QT}:Do an (Sx X 4 37 4 (u+1) (cO jU l u lf)) (Exit.then (cX X l (u+1) (u+1)) Q):=by
 rcases ay a0 with a0 | a0
 ·
  rcases ay a2 with a2 | a2
  ·
   exact ag (xa (lf:=lf) ok hu a0 a1 a2 a3) (aV (.k3102N (by omega) (by omega) (by omega) (by omega)))
  ·
   exact ag (Bi (lf:=lf) ok hu a0 a1 a2 a3) (aV (.k310F (by omega) (by omega) (by omega) (by omega)))
 ·
  rcases ay a2 with a2 | a2
  ·
   exact ag (Bj (lf:=lf) ok hu a0 a1 a2 a3) (aV (.k312S lf (by omega) f2 (by omega) (by omega) (by omega) (by omega)))
  ·
   exact ag (Ej (lf:=lf) ok hu a0 a1 a2 a3) (aV (.k31S lf (by omega) f2 (by omega) (by omega) (by omega) (by omega)))
theorem KY {l:Nat→Nat} {u:Nat} (hu:u < 8) {lf:Nat} (f1:19991≤lf+9*u) (f2:lf≤20000) (a0:u≤l 0 % 7) (a1:u≤l 1 % 7) (a2:l 2 % 7 < u) (a3:l 3 % 7 < u) {Q:QT}:Do an (Sx X 4 37 4 (u+1) (cQ jV l u lf)) (Exit.then (cX X l (u+1) (u+1)) Q):=by
 rcases ay a0 with a0 | a0
 ·
  rcases ay a1 with a1 | a1
  ·
   exact ag (xc (lf:=lf) ok hu a0 a1 a2 a3) (aV (.k3201N (by omega) (by omega) (by omega) (by omega)))
  ·
   exact ag (Bl (lf:=lf) ok hu a0 a1 a2 a3) (aV (.k320F (by omega) (by omega) (by omega) (by omega)))
 ·
  rcases ay a1 with a1 | a1
  ·
   exact ag (Bn (lf:=lf) ok hu a0 a1 a2 a3) (aV (.k321S lf (by omega) f2 (by omega) (by omega) (by omega) (by omega)))
  ·
   exact ag (Ek (lf:=lf) ok hu a0 a1 a2 a3) (aV (.k32S lf (by omega) f2 (by omega) (by omega) (by omega) (by omega)))
theorem u4 {l:Nat→Nat} {u:Nat} (hu:u < 8) {lf:Nat} (f1:19991≤lf+9*u) (f2:lf≤20000) (a0:l 0 % 7 < u) (a1:l 1 % 7 < u) (a2:l 2 % 7 < u) (a3:u≤l 3 % 7) {Q:QT}:Do an (Sx X 4 37 5 (u+1) (bU dM l u lf)) (Exit.then (cX X l (u+1) (u+1)) Q):=by
 rcases ay a3 with a3 | a3
 ·
  exact ag (wI (lf:=lf) ok hu a0 a1 a2 a3) (aV (.k0123N (by omega) (by omega) (by omega) (by omega)))
 ·
  exact ag (AH (lf:=lf) ok hu a0 a1 a2 a3) (aV (.k012S lf (by omega) f2 (by omega) (by omega) (by omega) (by omega)))
theorem u5 {l:Nat→Nat} {u:Nat} (hu:u < 8) {lf:Nat} (f1:19991≤lf+9*u) (f2:lf≤20000) (a0:l 0 % 7 < u) (a1:l 1 % 7 < u) (a2:u≤l 2 % 7) (a3:l 3 % 7 < u) {Q:QT}:Do an (Sx X 4 37 5 (u+1) (bK dN l u lf)) (Exit.then (cX X l (u+1) (u+1)) Q):=by
 rcases ay a2 with a2 | a2
 ·
  exact ag (wM (lf:=lf) ok hu a0 a1 a2 a3) (aV (.k0132N (by omega) (by omega) (by omega) (by omega)))
 ·
  exact ag (AQ (lf:=lf) ok hu a0 a1 a2 a3) (aV (.k013S lf (by omega) f2 (by omega) (by omega) (by omega) (by omega)))
theorem u6 {l:Nat→Nat} {u:Nat} (hu:u < 8) {lf:Nat} (f1:19991≤lf+9*u) (f2:lf≤20000) (a0:l 0 % 7 < u) (a1:l 1 % 7 < u) (a2:l 2 % 7 < u) (a3:u≤l 3 % 7) {Q:QT}:Do an (Sx X 4 37 5 (u+1) (bU hH l u lf)) (Exit.then (cX X l (u+1) (u+1)) Q):=by
 rcases ay a3 with a3 | a3
 ·
  exact ag (w6 (lf:=lf) ok hu a0 a1 a2 a3) (aV (.k0213N (by omega) (by omega) (by omega) (by omega)))
 ·
  exact ag (Be (lf:=lf) ok hu a0 a1 a2 a3) (aV (.k021S lf (by omega) f2 (by omega) (by omega) (by omega) (by omega)))
theorem u7 {l:Nat→Nat} {u:Nat} (hu:u < 8) {lf:Nat} (f1:19991≤lf+9*u) (f2:lf≤20000) (a0:l 0 % 7 < u) (a1:u≤l 1 % 7) (a2:l 2 % 7 < u) (a3:l 3 % 7 < u) {Q:QT}:Do an (Sx X 4 37 5 (u+1) (bA dO l u lf)) (Exit.then (cX X l (u+1) (u+1)) Q):=by
 rcases ay a1 with a1 | a1
 ·
  exact ag (wO (lf:=lf) ok hu a0 a1 a2 a3) (aV (.k0231N (by omega) (by omega) (by omega) (by omega)))
 ·
  exact ag (AT (lf:=lf) ok hu a0 a1 a2 a3) (aV (.k023S lf (by omega) f2 (by omega) (by omega) (by omega) (by omega)))
theorem u9 {l:Nat→Nat} {u:Nat} (hu:u < 8) {lf:Nat} (f1:19991≤lf+9*u) (f2:lf≤20000) (a0:l 0 % 7 < u) (a1:l 1 % 7 < u) (a2:u≤l 2 % 7) (a3:l 3 % 7 < u) {Q:QT}:Do an (Sx X 4 37 5 (u+1) (bK hO l u lf)) (Exit.then (cX X l (u+1) (u+1)) Q):=by
 rcases ay a2 with a2 | a2
 ·
  exact ag (xg (lf:=lf) ok hu a0 a1 a2 a3) (aV (.k0312N (by omega) (by omega) (by omega) (by omega)))
 ·
  exact ag (Bq (lf:=lf) ok hu a0 a1 a2 a3) (aV (.k031S lf (by omega) f2 (by omega) (by omega) (by omega) (by omega)))
theorem El {l:Nat→Nat} {u:Nat} (hu:u < 8) {lf:Nat} (f1:19991≤lf+9*u) (f2:lf≤20000) (a0:l 0 % 7 < u) (a1:u≤l 1 % 7) (a2:l 2 % 7 < u) (a3:l 3 % 7 < u) {Q:QT}:Do an (Sx X 4 37 5 (u+1) (bA iO l u lf)) (Exit.then (cX X l (u+1) (u+1)) Q):=by
 rcases ay a1 with a1 | a1
 ·
  exact ag (xi (lf:=lf) ok hu a0 a1 a2 a3) (aV (.k0321N (by omega) (by omega) (by omega) (by omega)))
 ·
  exact ag (Br (lf:=lf) ok hu a0 a1 a2 a3) (aV (.k032S lf (by omega) f2 (by omega) (by omega) (by omega) (by omega)))
theorem u_ {l:Nat→Nat} {u:Nat} (hu:u < 8) {lf:Nat} (f1:19991≤lf+9*u) (f2:lf≤20000) (a0:l 0 % 7 < u) (a1:l 1 % 7 < u) (a2:l 2 % 7 < u) (a3:u≤l 3 % 7) {Q:QT}:Do an (Sx X 4 37 5 (u+1) (bU e_ l u lf)) (Exit.then (cX X l (u+1) (u+1)) Q):=by
 rcases ay a3 with a3 | a3
 ·
  exact ag (wS (lf:=lf) ok hu a0 a1 a2 a3) (aV (.k1023N (by omega) (by omega) (by omega) (by omega)))
 ·
  exact ag (AZ (lf:=lf) ok hu a0 a1 a2 a3) (aV (.k102S lf (by omega) f2 (by omega) (by omega) (by omega) (by omega)))
theorem va {l:Nat→Nat} {u:Nat} (hu:u < 8) {lf:Nat} (f1:19991≤lf+9*u) (f2:lf≤20000) (a0:l 0 % 7 < u) (a1:l 1 % 7 < u) (a2:u≤l 2 % 7) (a3:l 3 % 7 < u) {Q:QT}:Do an (Sx X 4 37 5 (u+1) (bK fe l u lf)) (Exit.then (cX X l (u+1) (u+1)) Q):=by
 rcases ay a2 with a2 | a2
 ·
  exact ag (wT (lf:=lf) ok hu a0 a1 a2 a3) (aV (.k1032N (by omega) (by omega) (by omega) (by omega)))
 ·
  exact ag (A7 (lf:=lf) ok hu a0 a1 a2 a3) (aV (.k103S lf (by omega) f2 (by omega) (by omega) (by omega) (by omega)))
theorem vb {l:Nat→Nat} {u:Nat} (hu:u < 8) {lf:Nat} (f1:19991≤lf+9*u) (f2:lf≤20000) (a0:l 0 % 7 < u) (a1:l 1 % 7 < u) (a2:l 2 % 7 < u) (a3:u≤l 3 % 7) {Q:QT}:Do an (Sx X 4 37 5 (u+1) (bU hI l u lf)) (Exit.then (cX X l (u+1) (u+1)) Q):=by
 rcases ay a3 with a3 | a3
 ·
  exact ag (w8 (lf:=lf) ok hu a0 a1 a2 a3) (aV (.k1203N (by omega) (by omega) (by omega) (by omega)))
 ·
  exact ag (Bf (lf:=lf) ok hu a0 a1 a2 a3) (aV (.k120S lf (by omega) f2 (by omega) (by omega) (by omega) (by omega)))
theorem Em {l:Nat→Nat} {u:Nat} (hu:u < 8) {lf:Nat} (f1:19991≤lf+9*u) (f2:lf≤20000) (a0:u≤l 0 % 7) (a1:l 1 % 7 < u) (a2:l 2 % 7 < u) (a3:l 3 % 7 < u) {Q:QT}:Do an (Sx X 4 37 5 (u+1) (bq dX l u lf)) (Exit.then (cX X l (u+1) (u+1)) Q):=by
 rcases ay a0 with a0 | a0
 ·
  exact ag (wP (lf:=lf) ok hu a0 a1 a2 a3) (aV (.k1230N (by omega) (by omega) (by omega) (by omega)))
 ·
  exact ag (AU (lf:=lf) ok hu a0 a1 a2 a3) (aV (.k123S lf (by omega) f2 (by omega) (by omega) (by omega) (by omega)))
theorem vc {l:Nat→Nat} {u:Nat} (hu:u < 8) {lf:Nat} (f1:19991≤lf+9*u) (f2:lf≤20000) (a0:l 0 % 7 < u) (a1:l 1 % 7 < u) (a2:u≤l 2 % 7) (a3:l 3 % 7 < u) {Q:QT}:Do an (Sx X 4 37 5 (u+1) (bK hP l u lf)) (Exit.then (cX X l (u+1) (u+1)) Q):=by
 rcases ay a2 with a2 | a2
 ·
  exact ag (xk (lf:=lf) ok hu a0 a1 a2 a3) (aV (.k1302N (by omega) (by omega) (by omega) (by omega)))
 ·
  exact ag (Bt (lf:=lf) ok hu a0 a1 a2 a3) (aV (.k130S lf (by omega) f2 (by omega) (by omega) (by omega) (by omega)))
theorem En {l:Nat→Nat} {u:Nat} (hu:u < 8) {lf:Nat} (f1:19991≤lf+9*u) (f2:lf≤20000) (a0:u≤l 0 % 7) (a1:l 1 % 7 < u) (a2:l 2 % 7 < u) (a3:l 3 % 7 < u) {Q:QT}:Do an (Sx X 4 37 5 (u+1) (bq iP l u lf)) (Exit.then (cX X l (u+1) (u+1)) Q):=by
 rcases ay a0 with a0 | a0
 ·
  exact ag (xn (lf:=lf) ok hu a0 a1 a2 a3) (aV (.k1320N (by omega) (by omega) (by omega) (by omega)))
 ·
  exact ag (Bu (lf:=lf) ok hu a0 a1 a2 a3) (aV (.k132S lf (by omega) f2 (by omega) (by omega) (by omega) (by omega)))
theorem vd {l:Nat→Nat} {u:Nat} (hu:u < 8) {lf:Nat} (f1:19991≤lf+9*u) (f2:lf≤20000) (a0:l 0 % 7 < u) (a1:l 1 % 7 < u) (a2:l 2 % 7 < u) (a3:u≤l 3 % 7) {Q:QT}:Do an (Sx X 4 37 5 (u+1) (bU fg l u lf)) (Exit.then (cX X l (u+1) (u+1)) Q):=by
 rcases ay a3 with a3 | a3
 ·
  exact ag (wX (lf:=lf) ok hu a0 a1 a2 a3) (aV (.k2013N (by omega) (by omega) (by omega) (by omega)))
 ·
  exact ag (Bb (lf:=lf) ok hu a0 a1 a2 a3) (aV (.k201S lf (by omega) f2 (by omega) (by omega) (by omega) (by omega)))
theorem ve {l:Nat→Nat} {u:Nat} (hu:u < 8) {lf:Nat} (f1:19991≤lf+9*u) (f2:lf≤20000) (a0:l 0 % 7 < u) (a1:u≤l 1 % 7) (a2:l 2 % 7 < u) (a3:l 3 % 7 < u) {Q:QT}:Do an (Sx X 4 37 5 (u+1) (bA fh l u lf)) (Exit.then (cX X l (u+1) (u+1)) Q):=by
 rcases ay a1 with a1 | a1
 ·
  exact ag (wY (lf:=lf) ok hu a0 a1 a2 a3) (aV (.k2031N (by omega) (by omega) (by omega) (by omega)))
 ·
  exact ag (Bc (lf:=lf) ok hu a0 a1 a2 a3) (aV (.k203S lf (by omega) f2 (by omega) (by omega) (by omega) (by omega)))
theorem vf {l:Nat→Nat} {u:Nat} (hu:u < 8) {lf:Nat} (f1:19991≤lf+9*u) (f2:lf≤20000) (a0:l 0 % 7 < u) (a1:l 1 % 7 < u) (a2:l 2 % 7 < u) (a3:u≤l 3 % 7) {Q:QT}:Do an (Sx X 4 37 5 (u+1) (bU hX l u lf)) (Exit.then (cX X l (u+1) (u+1)) Q):=by
 rcases ay a3 with a3 | a3
 ·
  exact ag (xA (lf:=lf) ok hu a0 a1 a2 a3) (aV (.k2103N (by omega) (by omega) (by omega) (by omega)))
 ·
  exact ag (Bx (lf:=lf) ok hu a0 a1 a2 a3) (aV (.k210S lf (by omega) f2 (by omega) (by omega) (by omega) (by omega)))
theorem Eo {l:Nat→Nat} {u:Nat} (hu:u < 8) {lf:Nat} (f1:19991≤lf+9*u) (f2:lf≤20000) (a0:u≤l 0 % 7) (a1:l 1 % 7 < u) (a2:l 2 % 7 < u) (a3:l 3 % 7 < u) {Q:QT}:Do an (Sx X 4 37 5 (u+1) (bq fH l u lf)) (Exit.then (cX X l (u+1) (u+1)) Q):=by
 rcases ay a0 with a0 | a0
 ·
  exact ag (wZ (lf:=lf) ok hu a0 a1 a2 a3) (aV (.k2130N (by omega) (by omega) (by omega) (by omega)))
 ·
  exact ag (Bd (lf:=lf) ok hu a0 a1 a2 a3) (aV (.k213S lf (by omega) f2 (by omega) (by omega) (by omega) (by omega)))
theorem vg {l:Nat→Nat} {u:Nat} (hu:u < 8) {lf:Nat} (f1:19991≤lf+9*u) (f2:lf≤20000) (a0:l 0 % 7 < u) (a1:u≤l 1 % 7) (a2:l 2 % 7 < u) (a3:l 3 % 7 < u) {Q:QT}:Do an (Sx X 4 37 5 (u+1) (bA hU l u lf)) (Exit.then (cX X l (u+1) (u+1)) Q):=by
 rcases ay a1 with a1 | a1
 ·
  exact ag (xq (lf:=lf) ok hu a0 a1 a2 a3) (aV (.k2301N (by omega) (by omega) (by omega) (by omega)))
 ·
  exact ag (Bv (lf:=lf) ok hu a0 a1 a2 a3) (aV (.k230S lf (by omega) f2 (by omega) (by omega) (by omega) (by omega)))
theorem Ep {l:Nat→Nat} {u:Nat} (hu:u < 8) {lf:Nat} (f1:19991≤lf+9*u) (f2:lf≤20000) (a0:u≤l 0 % 7) (a1:l 1 % 7 < u) (a2:l 2 % 7 < u) (a3:l 3 % 7 < u) {Q:QT}:Do an (Sx X 4 37 5 (u+1) (bq iQ l u lf)) (Exit.then (cX X l (u+1) (u+1)) Q):=by
 rcases ay a0 with a0 | a0
 ·
  exact ag (xr (lf:=lf) ok hu a0 a1 a2 a3) (aV (.k2310N (by omega) (by omega) (by omega) (by omega)))
 ·
  exact ag (Bw (lf:=lf) ok hu a0 a1 a2 a3) (aV (.k231S lf (by omega) f2 (by omega) (by omega) (by omega) (by omega)))
theorem vh {l:Nat→Nat} {u:Nat} (hu:u < 8) {lf:Nat} (f1:19991≤lf+9*u) (f2:lf≤20000) (a0:l 0 % 7 < u) (a1:l 1 % 7 < u) (a2:u≤l 2 % 7) (a3:l 3 % 7 < u) {Q:QT}:Do an (Sx X 4 37 5 (u+1) (bK fj l u lf)) (Exit.then (cX X l (u+1) (u+1)) Q):=by
 rcases ay a2 with a2 | a2
 ·
  exact ag (xb (lf:=lf) ok hu a0 a1 a2 a3) (aV (.k3012N (by omega) (by omega) (by omega) (by omega)))
 ·
  exact ag (Bk (lf:=lf) ok hu a0 a1 a2 a3) (aV (.k301S lf (by omega) f2 (by omega) (by omega) (by omega) (by omega)))
theorem vj {l:Nat→Nat} {u:Nat} (hu:u < 8) {lf:Nat} (f1:19991≤lf+9*u) (f2:lf≤20000) (a0:l 0 % 7 < u) (a1:u≤l 1 % 7) (a2:l 2 % 7 < u) (a3:l 3 % 7 < u) {Q:QT}:Do an (Sx X 4 37 5 (u+1) (bA fk l u lf)) (Exit.then (cX X l (u+1) (u+1)) Q):=by
 rcases ay a1 with a1 | a1
 ·
  exact ag (xd (lf:=lf) ok hu a0 a1 a2 a3) (aV (.k3021N (by omega) (by omega) (by omega) (by omega)))
 ·
  exact ag (Bo (lf:=lf) ok hu a0 a1 a2 a3) (aV (.k302S lf (by omega) f2 (by omega) (by omega) (by omega) (by omega)))
theorem vk {l:Nat→Nat} {u:Nat} (hu:u < 8) {lf:Nat} (f1:19991≤lf+9*u) (f2:lf≤20000) (a0:l 0 % 7 < u) (a1:l 1 % 7 < u) (a2:u≤l 2 % 7) (a3:l 3 % 7 < u) {Q:QT}:Do an (Sx X 4 37 5 (u+1) (bK hZ l u lf)) (Exit.then (cX X l (u+1) (u+1)) Q):=by
 rcases ay a2 with a2 | a2
 ·
  exact ag (xE (lf:=lf) ok hu a0 a1 a2 a3) (aV (.k3102N (by omega) (by omega) (by omega) (by omega)))
 ·
  exact ag (By (lf:=lf) ok hu a0 a1 a2 a3) (aV (.k310S lf (by omega) f2 (by omega) (by omega) (by omega) (by omega)))
theorem Er {l:Nat→Nat} {u:Nat} (hu:u < 8) {lf:Nat} (f1:19991≤lf+9*u) (f2:lf≤20000) (a0:u≤l 0 % 7) (a1:l 1 % 7 < u) (a2:l 2 % 7 < u) (a3:l 3 % 7 < u) {Q:QT}:Do an (Sx X 4 37 5 (u+1) (bq fI l u lf)) (Exit.then (cX X l (u+1) (u+1)) Q):=by
 rcases ay a0 with a0 | a0
 ·
  exact ag (xe (lf:=lf) ok hu a0 a1 a2 a3) (aV (.k3120N (by omega) (by omega) (by omega) (by omega)))
 ·
  exact ag (Bp (lf:=lf) ok hu a0 a1 a2 a3) (aV (.k312S lf (by omega) f2 (by omega) (by omega) (by omega) (by omega)))
theorem vl {l:Nat→Nat} {u:Nat} (hu:u < 8) {lf:Nat} (f1:19991≤lf+9*u) (f2:lf≤20000) (a0:l 0 % 7 < u) (a1:u≤l 1 % 7) (a2:l 2 % 7 < u) (a3:l 3 % 7 < u) {Q:QT}:Do an (Sx X 4 37 5 (u+1) (bA h_ l u lf)) (Exit.then (cX X l (u+1) (u+1)) Q):=by
 rcases ay a1 with a1 | a1
 ·
  exact ag (xG (lf:=lf) ok hu a0 a1 a2 a3) (aV (.k3201N (by omega) (by omega) (by omega) (by omega)))
 ·
  exact ag (Bz (lf:=lf) ok hu a0 a1 a2 a3) (aV (.k320S lf (by omega) f2 (by omega) (by omega) (by omega) (by omega)))
theorem Es {l:Nat→Nat} {u:Nat} (hu:u < 8) {lf:Nat} (f1:19991≤lf+9*u) (f2:lf≤20000) (a0:u≤l 0 % 7) (a1:l 1 % 7 < u) (a2:l 2 % 7 < u) (a3:l 3 % 7 < u) {Q:QT}:Do an (Sx X 4 37 5 (u+1) (bq iR l u lf)) (Exit.then (cX X l (u+1) (u+1)) Q):=by
 rcases ay a0 with a0 | a0
 ·
  exact ag (xH (lf:=lf) ok hu a0 a1 a2 a3) (aV (.k3210N (by omega) (by omega) (by omega) (by omega)))
 ·
  exact ag (BA (lf:=lf) ok hu a0 a1 a2 a3) (aV (.k321S lf (by omega) f2 (by omega) (by omega) (by omega) (by omega)))
theorem BH {l:Nat→Nat} {u:Nat} (hu:u < 8) (a0:l 0 % 7 < u) (a1:l 1 % 7 < u) (a2:l 2 % 7 < u) (a3:l 3 % 7 < u) {Q:QT}:Do an (Sx X 4 37 6 (u+1) (aF b5 l u 0)) (Exit.then (cX X l (u+1) (u+1)) Q):=by
 exact ag (wQ (lf:=0) ok hu a0 a1 a2 a3) (aV (.k0123N (by omega) (by omega) (by omega) (by omega)))
theorem BI {l:Nat→Nat} {u:Nat} (hu:u < 8) (a0:l 0 % 7 < u) (a1:l 1 % 7 < u) (a2:l 2 % 7 < u) (a3:l 3 % 7 < u) {Q:QT}:Do an (Sx X 4 37 6 (u+1) (aF gq l u 0)) (Exit.then (cX X l (u+1) (u+1)) Q):=by
 exact ag (xp (lf:=0) ok hu a0 a1 a2 a3) (aV (.k0132N (by omega) (by omega) (by omega) (by omega)))
theorem BJ {l:Nat→Nat} {u:Nat} (hu:u < 8) (a0:l 0 % 7 < u) (a1:l 1 % 7 < u) (a2:l 2 % 7 < u) (a3:l 3 % 7 < u) {Q:QT}:Do an (Sx X 4 37 6 (u+1) (aF ep l u 0)) (Exit.then (cX X l (u+1) (u+1)) Q):=by
 exact ag (w7 (lf:=0) ok hu a0 a1 a2 a3) (aV (.k0213N (by omega) (by omega) (by omega) (by omega)))
theorem BK {l:Nat→Nat} {u:Nat} (hu:u < 8) (a0:l 0 % 7 < u) (a1:l 1 % 7 < u) (a2:l 2 % 7 < u) (a3:l 3 % 7 < u) {Q:QT}:Do an (Sx X 4 37 6 (u+1) (aF gr l u 0)) (Exit.then (cX X l (u+1) (u+1)) Q):=by
 exact ag (xw (lf:=0) ok hu a0 a1 a2 a3) (aV (.k0231N (by omega) (by omega) (by omega) (by omega)))
theorem BL {l:Nat→Nat} {u:Nat} (hu:u < 8) (a0:l 0 % 7 < u) (a1:l 1 % 7 < u) (a2:l 2 % 7 < u) (a3:l 3 % 7 < u) {Q:QT}:Do an (Sx X 4 37 6 (u+1) (aF eu l u 0)) (Exit.then (cX X l (u+1) (u+1)) Q):=by
 exact ag (xj (lf:=0) ok hu a0 a1 a2 a3) (aV (.k0312N (by omega) (by omega) (by omega) (by omega)))
theorem BM {l:Nat→Nat} {u:Nat} (hu:u < 8) (a0:l 0 % 7 < u) (a1:l 1 % 7 < u) (a2:l 2 % 7 < u) (a3:l 3 % 7 < u) {Q:QT}:Do an (Sx X 4 37 6 (u+1) (aF gB l u 0)) (Exit.then (cX X l (u+1) (u+1)) Q):=by
 exact ag (wu (lf:=0) ok hu a0 a1 a2 a3) (aV (.k0321N (by omega) (by omega) (by omega) (by omega)))
theorem BN {l:Nat→Nat} {u:Nat} (hu:u < 8) (a0:l 0 % 7 < u) (a1:l 1 % 7 < u) (a2:l 2 % 7 < u) (a3:l 3 % 7 < u) {Q:QT}:Do an (Sx X 4 37 6 (u+1) (aF cR l u 0)) (Exit.then (cX X l (u+1) (u+1)) Q):=by
 exact ag (wU (lf:=0) ok hu a0 a1 a2 a3) (aV (.k1023N (by omega) (by omega) (by omega) (by omega)))
theorem BO {l:Nat→Nat} {u:Nat} (hu:u < 8) (a0:l 0 % 7 < u) (a1:l 1 % 7 < u) (a2:l 2 % 7 < u) (a3:l 3 % 7 < u) {Q:QT}:Do an (Sx X 4 37 6 (u+1) (aF gv l u 0)) (Exit.then (cX X l (u+1) (u+1)) Q):=by
 exact ag (xy (lf:=0) ok hu a0 a1 a2 a3) (aV (.k1032N (by omega) (by omega) (by omega) (by omega)))
theorem BP {l:Nat→Nat} {u:Nat} (hu:u < 8) (a0:l 0 % 7 < u) (a1:l 1 % 7 < u) (a2:l 2 % 7 < u) (a3:l 3 % 7 < u) {Q:QT}:Do an (Sx X 4 37 6 (u+1) (aF et l u 0)) (Exit.then (cX X l (u+1) (u+1)) Q):=by
 exact ag (w9 (lf:=0) ok hu a0 a1 a2 a3) (aV (.k1203N (by omega) (by omega) (by omega) (by omega)))
theorem BQ {l:Nat→Nat} {u:Nat} (hu:u < 8) (a0:l 0 % 7 < u) (a1:l 1 % 7 < u) (a2:l 2 % 7 < u) (a3:l 3 % 7 < u) {Q:QT}:Do an (Sx X 4 37 6 (u+1) (aF gu l u 0)) (Exit.then (cX X l (u+1) (u+1)) Q):=by
 exact ag (xx (lf:=0) ok hu a0 a1 a2 a3) (aV (.k1230N (by omega) (by omega) (by omega) (by omega)))
theorem BR {l:Nat→Nat} {u:Nat} (hu:u < 8) (a0:l 0 % 7 < u) (a1:l 1 % 7 < u) (a2:l 2 % 7 < u) (a3:l 3 % 7 < u) {Q:QT}:Do an (Sx X 4 37 6 (u+1) (aF ew l u 0)) (Exit.then (cX X l (u+1) (u+1)) Q):=by
 exact ag (xo (lf:=0) ok hu a0 a1 a2 a3) (aV (.k1302N (by omega) (by omega) (by omega) (by omega)))
theorem BS {l:Nat→Nat} {u:Nat} (hu:u < 8) (a0:l 0 % 7 < u) (a1:l 1 % 7 < u) (a2:l 2 % 7 < u) (a3:l 3 % 7 < u) {Q:QT}:Do an (Sx X 4 37 6 (u+1) (aF gC l u 0)) (Exit.then (cX X l (u+1) (u+1)) Q):=by
 exact ag (wv (lf:=0) ok hu a0 a1 a2 a3) (aV (.k1320N (by omega) (by omega) (by omega) (by omega)))
theorem BT {l:Nat→Nat} {u:Nat} (hu:u < 8) (a0:l 0 % 7 < u) (a1:l 1 % 7 < u) (a2:l 2 % 7 < u) (a3:l 3 % 7 < u) {Q:QT}:Do an (Sx X 4 37 6 (u+1) (aF cU l u 0)) (Exit.then (cX X l (u+1) (u+1)) Q):=by
 exact ag (w5 (lf:=0) ok hu a0 a1 a2 a3) (aV (.k2013N (by omega) (by omega) (by omega) (by omega)))
theorem BU {l:Nat→Nat} {u:Nat} (hu:u < 8) (a0:l 0 % 7 < u) (a1:l 1 % 7 < u) (a2:l 2 % 7 < u) (a3:l 3 % 7 < u) {Q:QT}:Do an (Sx X 4 37 6 (u+1) (aF gw l u 0)) (Exit.then (cX X l (u+1) (u+1)) Q):=by
 exact ag (xC (lf:=0) ok hu a0 a1 a2 a3) (aV (.k2031N (by omega) (by omega) (by omega) (by omega)))
theorem BV {l:Nat→Nat} {u:Nat} (hu:u < 8) (a0:l 0 % 7 < u) (a1:l 1 % 7 < u) (a2:l 2 % 7 < u) (a3:l 3 % 7 < u) {Q:QT}:Do an (Sx X 4 37 6 (u+1) (aF ez l u 0)) (Exit.then (cX X l (u+1) (u+1)) Q):=by
 exact ag (xB (lf:=0) ok hu a0 a1 a2 a3) (aV (.k2103N (by omega) (by omega) (by omega) (by omega)))
theorem BW {l:Nat→Nat} {u:Nat} (hu:u < 8) (a0:l 0 % 7 < u) (a1:l 1 % 7 < u) (a2:l 2 % 7 < u) (a3:l 3 % 7 < u) {Q:QT}:Do an (Sx X 4 37 6 (u+1) (aF gy l u 0)) (Exit.then (cX X l (u+1) (u+1)) Q):=by
 exact ag (xD (lf:=0) ok hu a0 a1 a2 a3) (aV (.k2130N (by omega) (by omega) (by omega) (by omega)))
theorem BX {l:Nat→Nat} {u:Nat} (hu:u < 8) (a0:l 0 % 7 < u) (a1:l 1 % 7 < u) (a2:l 2 % 7 < u) (a3:l 3 % 7 < u) {Q:QT}:Do an (Sx X 4 37 6 (u+1) (aF ey l u 0)) (Exit.then (cX X l (u+1) (u+1)) Q):=by
 exact ag (xu (lf:=0) ok hu a0 a1 a2 a3) (aV (.k2301N (by omega) (by omega) (by omega) (by omega)))
theorem BY {l:Nat→Nat} {u:Nat} (hu:u < 8) (a0:l 0 % 7 < u) (a1:l 1 % 7 < u) (a2:l 2 % 7 < u) (a3:l 3 % 7 < u) {Q:QT}:Do an (Sx X 4 37 6 (u+1) (aF gD l u 0)) (Exit.then (cX X l (u+1) (u+1)) Q):=by
 exact ag (wx (lf:=0) ok hu a0 a1 a2 a3) (aV (.k2310N (by omega) (by omega) (by omega) (by omega)))
theorem BZ {l:Nat→Nat} {u:Nat} (hu:u < 8) (a0:l 0 % 7 < u) (a1:l 1 % 7 < u) (a2:l 2 % 7 < u) (a3:l 3 % 7 < u) {Q:QT}:Do an (Sx X 4 37 6 (u+1) (aF cV l u 0)) (Exit.then (cX X l (u+1) (u+1)) Q):=by
 exact ag (xf (lf:=0) ok hu a0 a1 a2 a3) (aV (.k3012N (by omega) (by omega) (by omega) (by omega)))
theorem B0 {l:Nat→Nat} {u:Nat} (hu:u < 8) (a0:l 0 % 7 < u) (a1:l 1 % 7 < u) (a2:l 2 % 7 < u) (a3:l 3 % 7 < u) {Q:QT}:Do an (Sx X 4 37 6 (u+1) (aF gz l u 0)) (Exit.then (cX X l (u+1) (u+1)) Q):=by
 exact ag (xJ (lf:=0) ok hu a0 a1 a2 a3) (aV (.k3021N (by omega) (by omega) (by omega) (by omega)))
theorem B3 {l:Nat→Nat} {u:Nat} (hu:u < 8) (a0:l 0 % 7 < u) (a1:l 1 % 7 < u) (a2:l 2 % 7 < u) (a3:l 3 % 7 < u) {Q:QT}:Do an (Sx X 4 37 6 (u+1) (aF eA l u 0)) (Exit.then (cX X l (u+1) (u+1)) Q):=by
 exact ag (xF (lf:=0) ok hu a0 a1 a2 a3) (aV (.k3102N (by omega) (by omega) (by omega) (by omega)))
theorem B4 {l:Nat→Nat} {u:Nat} (hu:u < 8) (a0:l 0 % 7 < u) (a1:l 1 % 7 < u) (a2:l 2 % 7 < u) (a3:l 3 % 7 < u) {Q:QT}:Do an (Sx X 4 37 6 (u+1) (aF gA l u 0)) (Exit.then (cX X l (u+1) (u+1)) Q):=by
 exact ag (xK (lf:=0) ok hu a0 a1 a2 a3) (aV (.k3120N (by omega) (by omega) (by omega) (by omega)))
theorem B5 {l:Nat→Nat} {u:Nat} (hu:u < 8) (a0:l 0 % 7 < u) (a1:l 1 % 7 < u) (a2:l 2 % 7 < u) (a3:l 3 % 7 < u) {Q:QT}:Do an (Sx X 4 37 6 (u+1) (aF eB l u 0)) (Exit.then (cX X l (u+1) (u+1)) Q):=by
 exact ag (xI (lf:=0) ok hu a0 a1 a2 a3) (aV (.k3201N (by omega) (by omega) (by omega) (by omega)))
theorem B6 {l:Nat→Nat} {u:Nat} (hu:u < 8) (a0:l 0 % 7 < u) (a1:l 1 % 7 < u) (a2:l 2 % 7 < u) (a3:l 3 % 7 < u) {Q:QT}:Do an (Sx X 4 37 6 (u+1) (aF gE l u 0)) (Exit.then (cX X l (u+1) (u+1)) Q):=by
 exact ag (wy (lf:=0) ok hu a0 a1 a2 a3) (aV (.k3210N (by omega) (by omega) (by omega) (by omega)))
end
theorem Uy {X:Mp×Hp×World} (ok:fJ X) {l:Nat→Nat} {u:Nat} (hu:u < 8) {Q:QT}:Do K6 (cX X l (u+1) (u+1)) (Exit.then (cX X l (u+1) (u+1+1)) Q):=fun x hx a w ⟨told,h,hk,st⟩=>
 ag (cx av fun g=>RB g (Nat.lt_succ_of_lt hu)) (aV hk) x hx a w st
section
variable {X:Mp×Hp×World} (ok:fJ X)
include ok
theorem cy {l:Nat→Nat} {u told:Nat} {h h':Hp} (hu:u < 8) {Q:QT} (hp: ∀{Q},Do a7 (Sx X 4 37 told (u+1) h) (Exit.then (Sx X 4 37 told (u+1) h') Q)) (hr: ∀{Q},Do an (Sx X 4 37 told (u+1) h') (Exit.then (cX X l (u+1) (u+1)) Q)):
  Do fQ (Sx X 4 37 told (u+1) h) (Exit.then (cX X l (u+1) (u+1+1)) Q):=
 a9 (cx av fun g=>uS g hu) (a9 (dI (a9 hp (bY hr (fun _ _ h=>h) n_))) (Uy ok hu))
theorem Uz {l:Nat→Nat} {u:Nat} (hu:u < 8) {Q:QT}:Do fQ (cX X l u (u+1)) (Exit.then (cX X l (u+1) (u+1+1)) Q):=fun x hx a w ⟨told,h,hk,st⟩=>by
 cases hk with
 | kF a0 a1 a2 a3=>exact cy ok hu (wz ok) (Ro ok hu (by omega) (by omega) a0 a1 a2 a3) x hx a w st
 | kS lf f1 f2 a0 a1 a2 a3=>exact cy ok hu (wA ok (by omega) f2) (Ro ok hu (by omega) (by omega) a0 a1 a2 a3) x hx a w st
 | k0F a0 a1 a2 a3=>exact cy ok hu (Af ok) (I3 ok hu (by omega) (by omega) a0 a1 a2 a3) x hx a w st
 | k0S lf f1 f2 a0 a1 a2 a3=>exact cy ok hu (Aj ok (by omega) f2) (I3 ok hu (by omega) (by omega) a0 a1 a2 a3) x hx a w st
 | k1S lf f1 f2 a0 a1 a2 a3=>exact cy ok hu (Ag ok (by omega) f2) (Rp ok hu (by omega) (by omega) a0 a1 a2 a3) x hx a w st
 | k2S lf f1 f2 a0 a1 a2 a3=>exact cy ok hu (Ah ok (by omega) f2) (Rq ok hu (by omega) (by omega) a0 a1 a2 a3) x hx a w st
 | k3S lf f1 f2 a0 a1 a2 a3=>exact cy ok hu (Ai ok (by omega) f2) (Rr ok hu (by omega) (by omega) a0 a1 a2 a3) x hx a w st
 | k01F a0 a1 a2 a3=>exact cy ok hu (uV ok) (BB ok hu (by omega) (by omega) a0 a1 a2 a3) x hx a w st
 | k01S lf f1 f2 a0 a1 a2 a3=>exact cy ok hu (u3 ok (by omega) f2) (BB ok hu (by omega) (by omega) a0 a1 a2 a3) x hx a w st
 | k02F a0 a1 a2 a3=>exact cy ok hu (uW ok) (BC ok hu (by omega) (by omega) a0 a1 a2 a3) x hx a w st
 | k02S lf f1 f2 a0 a1 a2 a3=>exact cy ok hu (u1 ok (by omega) f2) (BC ok hu (by omega) (by omega) a0 a1 a2 a3) x hx a w st
 | k03F a0 a1 a2 a3=>exact cy ok hu (uY ok) (BD ok hu (by omega) (by omega) a0 a1 a2 a3) x hx a w st
 | k03S lf f1 f2 a0 a1 a2 a3=>exact cy ok hu (u2 ok (by omega) f2) (BD ok hu (by omega) (by omega) a0 a1 a2 a3) x hx a w st
 | k10F a0 a1 a2 a3=>exact cy ok hu (uV ok) (BE ok hu (by omega) (by omega) a0 a1 a2 a3) x hx a w st
 | k10S lf f1 f2 a0 a1 a2 a3=>exact cy ok hu (u3 ok (by omega) f2) (BE ok hu (by omega) (by omega) a0 a1 a2 a3) x hx a w st
 | k12S lf f1 f2 a0 a1 a2 a3=>exact cy ok hu (uX ok (by omega) f2) (KO ok hu (by omega) (by omega) a0 a1 a2 a3) x hx a w st
 | k13S lf f1 f2 a0 a1 a2 a3=>exact cy ok hu (uZ ok (by omega) f2) (KQ ok hu (by omega) (by omega) a0 a1 a2 a3) x hx a w st
 | k20F a0 a1 a2 a3=>exact cy ok hu (uW ok) (BF ok hu (by omega) (by omega) a0 a1 a2 a3) x hx a w st
 | k20S lf f1 f2 a0 a1 a2 a3=>exact cy ok hu (u1 ok (by omega) f2) (BF ok hu (by omega) (by omega) a0 a1 a2 a3) x hx a w st
 | k21S lf f1 f2 a0 a1 a2 a3=>exact cy ok hu (uX ok (by omega) f2) (KU ok hu (by omega) (by omega) a0 a1 a2 a3) x hx a w st
 | k23S lf f1 f2 a0 a1 a2 a3=>exact cy ok hu (u0 ok (by omega) f2) (KW ok hu (by omega) (by omega) a0 a1 a2 a3) x hx a w st
 | k30F a0 a1 a2 a3=>exact cy ok hu (uY ok) (BG ok hu (by omega) (by omega) a0 a1 a2 a3) x hx a w st
 | k30S lf f1 f2 a0 a1 a2 a3=>exact cy ok hu (u2 ok (by omega) f2) (BG ok hu (by omega) (by omega) a0 a1 a2 a3) x hx a w st
 | k31S lf f1 f2 a0 a1 a2 a3=>exact cy ok hu (uZ ok (by omega) f2) (KX ok hu (by omega) (by omega) a0 a1 a2 a3) x hx a w st
 | k32S lf f1 f2 a0 a1 a2 a3=>exact cy ok hu (u0 ok (by omega) f2) (KY ok hu (by omega) (by omega) a0 a1 a2 a3) x hx a w st
 | k012F a0 a1 a2 a3=>exact cy ok hu (m6 ok) (u4 ok hu (by omega) (by omega) a0 a1 a2 a3) x hx a w st
 | k012S lf f1 f2 a0 a1 a2 a3=>exact cy ok hu (na ok (by omega) f2) (u4 ok hu (by omega) (by omega) a0 a1 a2 a3) x hx a w st
 | k013F a0 a1 a2 a3=>exact cy ok hu (m7 ok) (u5 ok hu (by omega) (by omega) a0 a1 a2 a3) x hx a w st
 | k013S lf f1 f2 a0 a1 a2 a3=>exact cy ok hu (m_ ok (by omega) f2) (u5 ok hu (by omega) (by omega) a0 a1 a2 a3) x hx a w st
 | k021F a0 a1 a2 a3=>exact cy ok hu (m6 ok) (u6 ok hu (by omega) (by omega) a0 a1 a2 a3) x hx a w st
 | k021S lf f1 f2 a0 a1 a2 a3=>exact cy ok hu (na ok (by omega) f2) (u6 ok hu (by omega) (by omega) a0 a1 a2 a3) x hx a w st
 | k023F a0 a1 a2 a3=>exact cy ok hu (pz ok) (u7 ok hu (by omega) (by omega) a0 a1 a2 a3) x hx a w st
 | k023S lf f1 f2 a0 a1 a2 a3=>exact cy ok hu (m9 ok (by omega) f2) (u7 ok hu (by omega) (by omega) a0 a1 a2 a3) x hx a w st
 | k031F a0 a1 a2 a3=>exact cy ok hu (m7 ok) (u9 ok hu (by omega) (by omega) a0 a1 a2 a3) x hx a w st
 | k031S lf f1 f2 a0 a1 a2 a3=>exact cy ok hu (m_ ok (by omega) f2) (u9 ok hu (by omega) (by omega) a0 a1 a2 a3) x hx a w st
 | k032S lf f1 f2 a0 a1 a2 a3=>exact cy ok hu (m9 ok (by omega) f2) (El ok hu (by omega) (by omega) a0 a1 a2 a3) x hx a w st
 | k102F a0 a1 a2 a3=>exact cy ok hu (m6 ok) (u_ ok hu (by omega) (by omega) a0 a1 a2 a3) x hx a w st
 | k102S lf f1 f2 a0 a1 a2 a3=>exact cy ok hu (na ok (by omega) f2) (u_ ok hu (by omega) (by omega) a0 a1 a2 a3) x hx a w st
 | k103F a0 a1 a2 a3=>exact cy ok hu (m7 ok) (va ok hu (by omega) (by omega) a0 a1 a2 a3) x hx a w st
 | k103S lf f1 f2 a0 a1 a2 a3=>exact cy ok hu (m_ ok (by omega) f2) (va ok hu (by omega) (by omega) a0 a1 a2 a3) x hx a w st
 | k120F a0 a1 a2 a3=>exact cy ok hu (m6 ok) (vb ok hu (by omega) (by omega) a0 a1 a2 a3) x hx a w st
 | k120S lf f1 f2 a0 a1 a2 a3=>exact cy ok hu (na ok (by omega) f2) (vb ok hu (by omega) (by omega) a0 a1 a2 a3) x hx a w st
 | k123S lf f1 f2 a0 a1 a2 a3=>exact cy ok hu (m8 ok (by omega) f2) (Em ok hu (by omega) (by omega) a0 a1 a2 a3) x hx a w st
 | k130F a0 a1 a2 a3=>exact cy ok hu (m7 ok) (vc ok hu (by omega) (by omega) a0 a1 a2 a3) x hx a w st
 | k130S lf f1 f2 a0 a1 a2 a3=>exact cy ok hu (m_ ok (by omega) f2) (vc ok hu (by omega) (by omega) a0 a1 a2 a3) x hx a w st
 | k132S lf f1 f2 a0 a1 a2 a3=>exact cy ok hu (m8 ok (by omega) f2) (En ok hu (by omega) (by omega) a0 a1 a2 a3) x hx a w st
 | k201F a0 a1 a2 a3=>exact cy ok hu (m6 ok) (vd ok hu (by omega) (by omega) a0 a1 a2 a3) x hx a w st
 | k201S lf f1 f2 a0 a1 a2 a3=>exact cy ok hu (na ok (by omega) f2) (vd ok hu (by omega) (by omega) a0 a1 a2 a3) x hx a w st
 | k203F a0 a1 a2 a3=>exact cy ok hu (pz ok) (ve ok hu (by omega) (by omega) a0 a1 a2 a3) x hx a w st
 | k203S lf f1 f2 a0 a1 a2 a3=>exact cy ok hu (m9 ok (by omega) f2) (ve ok hu (by omega) (by omega) a0 a1 a2 a3) x hx a w st
 | k210F a0 a1 a2 a3=>exact cy ok hu (m6 ok) (vf ok hu (by omega) (by omega) a0 a1 a2 a3) x hx a w st
 | k210S lf f1 f2 a0 a1 a2 a3=>exact cy ok hu (na ok (by omega) f2) (vf ok hu (by omega) (by omega) a0 a1 a2 a3) x hx a w st
 | k213S lf f1 f2 a0 a1 a2 a3=>exact cy ok hu (m8 ok (by omega) f2) (Eo ok hu (by omega) (by omega) a0 a1 a2 a3) x hx a w st
 | k230F a0 a1 a2 a3=>exact cy ok hu (pz ok) (vg ok hu (by omega) (by omega) a0 a1 a2 a3) x hx a w st
 | k230S lf f1 f2 a0 a1 a2 a3=>exact cy ok hu (m9 ok (by omega) f2) (vg ok hu (by omega) (by omega) a0 a1 a2 a3) x hx a w st
 | k231S lf f1 f2 a0 a1 a2 a3=>exact cy ok hu (m8 ok (by omega) f2) (Ep ok hu (by omega) (by omega) a0 a1 a2 a3) x hx a w st
 | k301F a0 a1 a2 a3=>exact cy ok hu (m7 ok) (vh ok hu (by omega) (by omega) a0 a1 a2 a3) x hx a w st
 | k301S lf f1 f2 a0 a1 a2 a3=>exact cy ok hu (m_ ok (by omega) f2) (vh ok hu (by omega) (by omega) a0 a1 a2 a3) x hx a w st
 | k302F a0 a1 a2 a3=>exact cy ok hu (pz ok) (vj ok hu (by omega) (by omega) a0 a1 a2 a3) x hx a w st
 | k302S lf f1 f2 a0 a1 a2 a3=>exact cy ok hu (m9 ok (by omega) f2) (vj ok hu (by omega) (by omega) a0 a1 a2 a3) x hx a w st
 | k310F a0 a1 a2 a3=>exact cy ok hu (m7 ok) (vk ok hu (by omega) (by omega) a0 a1 a2 a3) x hx a w st
 | k310S lf f1 f2 a0 a1 a2 a3=>exact cy ok hu (m_ ok (by omega) f2) (vk ok hu (by omega) (by omega) a0 a1 a2 a3) x hx a w st
 | k312S lf f1 f2 a0 a1 a2 a3=>exact cy ok hu (m8 ok (by omega) f2) (Er ok hu (by omega) (by omega) a0 a1 a2 a3) x hx a w st
 | k320F a0 a1 a2 a3=>exact cy ok hu (pz ok) (vl ok hu (by omega) (by omega) a0 a1 a2 a3) x hx a w st
 | k320S lf f1 f2 a0 a1 a2 a3=>exact cy ok hu (m9 ok (by omega) f2) (vl ok hu (by omega) (by omega) a0 a1 a2 a3) x hx a w st
 | k321S lf f1 f2 a0 a1 a2 a3=>exact cy ok hu (m8 ok (by omega) f2) (Es ok hu (by omega) (by omega) a0 a1 a2 a3) x hx a w st
 | k0123N a0 a1 a2 a3=>exact cy ok hu (dw ok) (BH ok hu a0 a1 a2 a3) x hx a w st
 | k0132N a0 a1 a2 a3=>exact cy ok hu (dw ok) (BI ok hu a0 a1 a2 a3) x hx a w st
 | k0213N a0 a1 a2 a3=>exact cy ok hu (dw ok) (BJ ok hu a0 a1 a2 a3) x hx a w st
 | k0231N a0 a1 a2 a3=>exact cy ok hu (dw ok) (BK ok hu a0 a1 a2 a3) x hx a w st
 | k0312N a0 a1 a2 a3=>exact cy ok hu (dw ok) (BL ok hu a0 a1 a2 a3) x hx a w st
 | k0321N a0 a1 a2 a3=>exact cy ok hu (dw ok) (BM ok hu a0 a1 a2 a3) x hx a w st
 | k1023N a0 a1 a2 a3=>exact cy ok hu (dw ok) (BN ok hu a0 a1 a2 a3) x hx a w st
 | k1032N a0 a1 a2 a3=>exact cy ok hu (dw ok) (BO ok hu a0 a1 a2 a3) x hx a w st
 | k1203N a0 a1 a2 a3=>exact cy ok hu (dw ok) (BP ok hu a0 a1 a2 a3) x hx a w st
 | k1230N a0 a1 a2 a3=>exact cy ok hu (dw ok) (BQ ok hu a0 a1 a2 a3) x hx a w st
 | k1302N a0 a1 a2 a3=>exact cy ok hu (dw ok) (BR ok hu a0 a1 a2 a3) x hx a w st
 | k1320N a0 a1 a2 a3=>exact cy ok hu (dw ok) (BS ok hu a0 a1 a2 a3) x hx a w st
 | k2013N a0 a1 a2 a3=>exact cy ok hu (dw ok) (BT ok hu a0 a1 a2 a3) x hx a w st
 | k2031N a0 a1 a2 a3=>exact cy ok hu (dw ok) (BU ok hu a0 a1 a2 a3) x hx a w st
 | k2103N a0 a1 a2 a3=>exact cy ok hu (dw ok) (BV ok hu a0 a1 a2 a3) x hx a w st
 | k2130N a0 a1 a2 a3=>exact cy ok hu (dw ok) (BW ok hu a0 a1 a2 a3) x hx a w st
 | k2301N a0 a1 a2 a3=>exact cy ok hu (dw ok) (BX ok hu a0 a1 a2 a3) x hx a w st
 | k2310N a0 a1 a2 a3=>exact cy ok hu (dw ok) (BY ok hu a0 a1 a2 a3) x hx a w st
 | k3012N a0 a1 a2 a3=>exact cy ok hu (dw ok) (BZ ok hu a0 a1 a2 a3) x hx a w st
 | k3021N a0 a1 a2 a3=>exact cy ok hu (dw ok) (B0 ok hu a0 a1 a2 a3) x hx a w st
 | k3102N a0 a1 a2 a3=>exact cy ok hu (dw ok) (B3 ok hu a0 a1 a2 a3) x hx a w st
 | k3120N a0 a1 a2 a3=>exact cy ok hu (dw ok) (B4 ok hu a0 a1 a2 a3) x hx a w st
 | k3201N a0 a1 a2 a3=>exact cy ok hu (dw ok) (B5 ok hu a0 a1 a2 a3) x hx a w st
 | k3210N a0 a1 a2 a3=>exact cy ok hu (dw ok) (B6 ok hu a0 a1 a2 a3) x hx a w st
end
theorem KZ {X:Mp×Hp×World} (ok:fJ X) {l:Nat→Nat} {R':ST} {Q:QT}:Do fQ (cX X l 8 9) (Exit.then R' (Exit.inBlock 2 (Exit.then (cX X l 8 9) Q))):=fun x hx a w ⟨told,h,hk,st⟩=>
 a9 (R:=fun _ _=>False) (jC av (fun g=>ru g) (fun a w s=>mw (aV hk a w s))) (fun _ _ _ _ h=>h.elim) x hx a w st
theorem Rs {X:Mp×Hp×World} (ok:fJ X) {l:Nat→Nat}:Do mu (cX X l 8 9) (rq X.1 X.2.1 X.2.2 128 2):=fun x hx a w ⟨told,h,hk,st⟩=>by
 cases hk <;> first | omega | exact Ux x hx a w st
section
variable {X:Mp×Hp×World} (ok:fJ X)
include ok
theorem UA {l:Nat→Nat} {Q:QT}:Do (.block 2 (.loop fQ)) (cX X l 0 1) (Exit.then (cX X l 8 9) Q):=
 dI (kA (m:=9) (fun k a w=> ∃u,u≤8∧u+k=9∧cX X l u (u+1) a w) (fun a w ⟨u,h1,h2,_⟩=>by omega)
  (fun k x hx a w ⟨u,h1,h2,hd⟩=>by
   rcases Nat.lt_or_ge u 8 with h | h
   ·exact ag (Uz ok h) (fun a w q=>⟨u+1,by omega,by omega,q⟩) x hx a w hd
   ·obtain rfl:u=8:=by omega
    exact KZ ok x hx a w hd)
  fun a w h=>⟨0,by omega,by omega,h⟩)
end
theorem Tm {l:Nat→Nat} (b: ∀i,l i < 256) {μ:Mp} {w:World} {x:Value} (hs:bh μ (hB (T4 l)) w) (hm: ∀c,μ.own c=false) (r:VR μ (.slice 0 0 4 4 1 false) x):
  Calls Tryz.prog 4 #[x] w fun e w'=>e= .returned (.bool true)∧Below w.heap.size w w':=
 have ok:fJ (μ,hB (T4 l),w):=⟨fun c _=>hm c,Nat.le_refl 1⟩
 rp (M:=MM) (i:=2) RA hs hm (args:=[.slice 0 0 4 4 1 false]) (by rw [aJ];exact ⟨_,_,rfl,r,by rw [aH]⟩) (by show 1≤128;decide) rfl
  (bY (S:=mF μ (hB (T4 l)) w 128 [(0, .slice 0 0 4 4 1 false)] (hB (T4 l))) (Uw b (fun c _=>hm c) (a9 (a9 (cx av fun g=>r6 g) (bY (UA ok (l:=l)) (fun a w st=>aV (t:=1) (.kF (Nat.zero_le _) (Nat.zero_le _) (Nat.zero_le _) (Nat.zero_le _)) a w st) (fun _ _ _ h=>h))) (Rs ok))) (fun a w1 h=>⟨.lf,h.1 ▸ h.2⟩) (fun _ _ _ h=>h))
end Go.Proofs.YtfcljjhlijolgaaGreatDoor.topLate
