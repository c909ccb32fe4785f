import Derived.Test.YtfcljjhlijolgaaGreatDoorTL3a
import Derived.Test.YtfcljjhlijolgaaGreatDoorTL3t1
import Derived.Test.YtfcljjhlijolgaaGreatDoorTL3t2
namespace Go.Proofs.YtfcljjhlijolgaaGreatDoor.topLate
open Go.ChangeShapes Go.WideShapes Go.ChangeAt Go.RowKit
open Go.ChangeMaps (open_string shut_string)
open Eng
set_option linter.unusedVariables false
set_option linter.unusedSimpArgs false
section
variable {X:Mp×Hp×World} (ok:fJ X)
theorem Ur {c l:Nat→Nat} {u told t:Nat}:Do mu (Sx X 3 37 told t (dc c l u 0)) (rq X.1 X.2.1 X.2.2 128 2):=
 mr av fun g=>ab aq .fin (p:=[some (AV.bool true)] = [some (AV.bool true)]) (by kernel_rfl) rfl
end
inductive oc (l:Nat→Nat) (u:Nat):Nat→Hp→Prop where
 | kF (a0:u≤l 0 % 7) (a1:u≤l 1 % 7) (a2:u≤l 2 % 7):oc l u 2 (uU sV l u 0)
 | kS (lf:Nat) (f1:20000≤lf+9*u) (f2:lf≤20000) (a0:u≤l 0 % 7) (a1:u≤l 1 % 7) (a2:u≤l 2 % 7):oc l u 2 (dp sV l u lf)
 | k0F (a0:l 0 % 7 < u) (a1:u≤l 1 % 7) (a2:u≤l 2 % 7):oc l u 3 (tY m3 l u 0)
 | k0S (lf:Nat) (f1:20000≤lf+9*u) (f2:lf≤20000) (a0:l 0 % 7 < u) (a1:u≤l 1 % 7) (a2:u≤l 2 % 7):oc l u 3 (iN m3 l u lf)
 | k1S (lf:Nat) (f1:20000≤lf+9*u) (f2:lf≤20000) (a0:u≤l 0 % 7) (a1:l 1 % 7 < u) (a2:u≤l 2 % 7):oc l u 3 (iL nQ l u lf)
 | k2S (lf:Nat) (f1:20000≤lf+9*u) (f2:lf≤20000) (a0:u≤l 0 % 7) (a1:u≤l 1 % 7) (a2:l 2 % 7 < u):oc l u 3 (iM nR l u lf)
 | k01F (a0:l 0 % 7 < u) (a1:l 1 % 7 < u) (a2:u≤l 2 % 7):oc l u 4 (qn iB l u 0)
 | k01S (lf:Nat) (f1:20000≤lf+9*u) (f2:lf≤20000) (a0:l 0 % 7 < u) (a1:l 1 % 7 < u) (a2:u≤l 2 % 7):oc l u 4 (jg iB l u lf)
 | k02F (a0:l 0 % 7 < u) (a1:u≤l 1 % 7) (a2:l 2 % 7 < u):oc l u 4 (sU iC l u 0)
 | k02S (lf:Nat) (f1:20000≤lf+9*u) (f2:lf≤20000) (a0:l 0 % 7 < u) (a1:u≤l 1 % 7) (a2:l 2 % 7 < u):oc l u 4 (iA iC l u lf)
 | k10F (a0:l 0 % 7 < u) (a1:l 1 % 7 < u) (a2:u≤l 2 % 7):oc l u 4 (qn kh l u 0)
 | k10S (lf:Nat) (f1:20000≤lf+9*u) (f2:lf≤20000) (a0:l 0 % 7 < u) (a1:l 1 % 7 < u) (a2:u≤l 2 % 7):oc l u 4 (jg kh l u lf)
 | k12S (lf:Nat) (f1:20000≤lf+9*u) (f2:lf≤20000) (a0:u≤l 0 % 7) (a1:l 1 % 7 < u) (a2:l 2 % 7 < u):oc l u 4 (gW jh l u lf)
 | k20F (a0:l 0 % 7 < u) (a1:u≤l 1 % 7) (a2:l 2 % 7 < u):oc l u 4 (sU ki l u 0)
 | k20S (lf:Nat) (f1:20000≤lf+9*u) (f2:lf≤20000) (a0:l 0 % 7 < u) (a1:u≤l 1 % 7) (a2:l 2 % 7 < u):oc l u 4 (iA ki l u lf)
 | k21S (lf:Nat) (f1:20000≤lf+9*u) (f2:lf≤20000) (a0:u≤l 0 % 7) (a1:l 1 % 7 < u) (a2:l 2 % 7 < u):oc l u 4 (gW kT l u lf)
 | k012N (a0:l 0 % 7 < u) (a1:l 1 % 7 < u) (a2:l 2 % 7 < u):oc l u 5 (dc eG l u 0)
 | k021N (a0:l 0 % 7 < u) (a1:l 1 % 7 < u) (a2:l 2 % 7 < u):oc l u 5 (dc jE l u 0)
 | k102N (a0:l 0 % 7 < u) (a1:l 1 % 7 < u) (a2:l 2 % 7 < u):oc l u 5 (dc fX l u 0)
 | k120N (a0:l 0 % 7 < u) (a1:l 1 % 7 < u) (a2:l 2 % 7 < u):oc l u 5 (dc jF l u 0)
 | k201N (a0:l 0 % 7 < u) (a1:l 1 % 7 < u) (a2:l 2 % 7 < u):oc l u 5 (dc fY l u 0)
 | k210N (a0:l 0 % 7 < u) (a1:l 1 % 7 < u) (a2:l 2 % 7 < u):oc l u 5 (dc jG l u 0)
def mD (X:Mp×Hp×World) (l:Nat→Nat) (u t:Nat):ST:=fun a w=> ∃told h,oc l u told h∧Sx X 3 37 told t h a w
theorem ji {X:Mp×Hp×World} {l:Nat→Nat} {u t told:Nat} {h:Hp} (hk:oc l u told h): ∀a w,Sx X 3 37 told t h a w→mD X l u t a w:=fun a w s=>⟨told,h,hk,s⟩
section
variable {X:Mp×Hp×World} (ok:fJ X)
include ok
theorem Rj {l:Nat→Nat} {u:Nat} (hu:u < 8) {lf:Nat} (f1:19991≤lf+9*u) (f2:lf≤20000) (a0:u≤l 0 % 7) (a1:u≤l 1 % 7) (a2:u≤l 2 % 7) {Q:QT}:Do an (Sx X 3 37 2 (u+1) (dp sV l u lf)) (Exit.then (mD X l (u+1) (u+1)) Q):=by
 rcases ay a0 with a0 | a0
 ·
  rcases ay a1 with a1 | a1
  ·
   rcases ay a2 with a2 | a2
   ·
    exact ag (zY (lf:=lf) ok hu a0 a1 a2) (ji (.k012N (by omega) (by omega) (by omega)))
   ·
    exact ag (Du (lf:=lf) ok hu a0 a1 a2) (ji (.k01F (by omega) (by omega) (by omega)))
  ·
   rcases ay a2 with a2 | a2
   ·
    exact ag (Dv (lf:=lf) ok hu a0 a1 a2) (ji (.k02F (by omega) (by omega) (by omega)))
   ·
    exact ag (Kv (lf:=lf) ok hu a0 a1 a2) (ji (.k0F (by omega) (by omega) (by omega)))
 ·
  rcases ay a1 with a1 | a1
  ·
   rcases ay a2 with a2 | a2
   ·
    exact ag (Dw (lf:=lf) ok hu a0 a1 a2) (ji (.k12S lf (by omega) f2 (by omega) (by omega) (by omega)))
   ·
    exact ag (Kw (lf:=lf) ok hu a0 a1 a2) (ji (.k1S lf (by omega) f2 (by omega) (by omega) (by omega)))
  ·
   rcases ay a2 with a2 | a2
   ·
    exact ag (Kx (lf:=lf) ok hu a0 a1 a2) (ji (.k2S lf (by omega) f2 (by omega) (by omega) (by omega)))
   ·
    exact ag (Ri (lf:=lf) ok hu a0 a1 a2) (ji (.kS lf (by omega) f2 (by omega) (by omega) (by omega)))
theorem I2 {l:Nat→Nat} {u:Nat} (hu:u < 8) {lf:Nat} (f1:19991≤lf+9*u) (f2:lf≤20000) (a0:l 0 % 7 < u) (a1:u≤l 1 % 7) (a2:u≤l 2 % 7) {Q:QT}:Do an (Sx X 3 37 3 (u+1) (iN m3 l u lf)) (Exit.then (mD X l (u+1) (u+1)) Q):=by
 rcases ay a1 with a1 | a1
 ·
  rcases ay a2 with a2 | a2
  ·
   exact ag (zZ (lf:=lf) ok hu a0 a1 a2) (ji (.k012N (by omega) (by omega) (by omega)))
  ·
   exact ag (Dx (lf:=lf) ok hu a0 a1 a2) (ji (.k01F (by omega) (by omega) (by omega)))
 ·
  rcases ay a2 with a2 | a2
  ·
   exact ag (Dy (lf:=lf) ok hu a0 a1 a2) (ji (.k02S lf (by omega) f2 (by omega) (by omega) (by omega)))
  ·
   exact ag (Ky (lf:=lf) ok hu a0 a1 a2) (ji (.k0S lf (by omega) f2 (by omega) (by omega) (by omega)))
theorem Rk {l:Nat→Nat} {u:Nat} (hu:u < 8) {lf:Nat} (f1:19991≤lf+9*u) (f2:lf≤20000) (a0:u≤l 0 % 7) (a1:l 1 % 7 < u) (a2:u≤l 2 % 7) {Q:QT}:Do an (Sx X 3 37 3 (u+1) (iL nQ l u lf)) (Exit.then (mD X l (u+1) (u+1)) Q):=by
 rcases ay a0 with a0 | a0
 ·
  rcases ay a2 with a2 | a2
  ·
   exact ag (z1 (lf:=lf) ok hu a0 a1 a2) (ji (.k102N (by omega) (by omega) (by omega)))
  ·
   exact ag (Dz (lf:=lf) ok hu a0 a1 a2) (ji (.k10F (by omega) (by omega) (by omega)))
 ·
  rcases ay a2 with a2 | a2
  ·
   exact ag (DA (lf:=lf) ok hu a0 a1 a2) (ji (.k12S lf (by omega) f2 (by omega) (by omega) (by omega)))
  ·
   exact ag (Kz (lf:=lf) ok hu a0 a1 a2) (ji (.k1S lf (by omega) f2 (by omega) (by omega) (by omega)))
theorem Rl {l:Nat→Nat} {u:Nat} (hu:u < 8) {lf:Nat} (f1:19991≤lf+9*u) (f2:lf≤20000) (a0:u≤l 0 % 7) (a1:u≤l 1 % 7) (a2:l 2 % 7 < u) {Q:QT}:Do an (Sx X 3 37 3 (u+1) (iM nR l u lf)) (Exit.then (mD X l (u+1) (u+1)) Q):=by
 rcases ay a0 with a0 | a0
 ·
  rcases ay a1 with a1 | a1
  ·
   exact ag (z5 (lf:=lf) ok hu a0 a1 a2) (ji (.k201N (by omega) (by omega) (by omega)))
  ·
   exact ag (DC (lf:=lf) ok hu a0 a1 a2) (ji (.k20F (by omega) (by omega) (by omega)))
 ·
  rcases ay a1 with a1 | a1
  ·
   exact ag (DD (lf:=lf) ok hu a0 a1 a2) (ji (.k21S lf (by omega) f2 (by omega) (by omega) (by omega)))
  ·
   exact ag (KA (lf:=lf) ok hu a0 a1 a2) (ji (.k2S lf (by omega) f2 (by omega) (by omega) (by omega)))
theorem Ab {l:Nat→Nat} {u:Nat} (hu:u < 8) {lf:Nat} (f1:19991≤lf+9*u) (f2:lf≤20000) (a0:l 0 % 7 < u) (a1:l 1 % 7 < u) (a2:u≤l 2 % 7) {Q:QT}:Do an (Sx X 3 37 4 (u+1) (jg iB l u lf)) (Exit.then (mD X l (u+1) (u+1)) Q):=by
 rcases ay a2 with a2 | a2
 ·
  exact ag (z3 (lf:=lf) ok hu a0 a1 a2) (ji (.k012N (by omega) (by omega) (by omega)))
 ·
  exact ag (DB (lf:=lf) ok hu a0 a1 a2) (ji (.k01S lf (by omega) f2 (by omega) (by omega) (by omega)))
theorem Ac {l:Nat→Nat} {u:Nat} (hu:u < 8) {lf:Nat} (f1:19991≤lf+9*u) (f2:lf≤20000) (a0:l 0 % 7 < u) (a1:u≤l 1 % 7) (a2:l 2 % 7 < u) {Q:QT}:Do an (Sx X 3 37 4 (u+1) (iA iC l u lf)) (Exit.then (mD X l (u+1) (u+1)) Q):=by
 rcases ay a1 with a1 | a1
 ·
  exact ag (z6 (lf:=lf) ok hu a0 a1 a2) (ji (.k021N (by omega) (by omega) (by omega)))
 ·
  exact ag (DE (lf:=lf) ok hu a0 a1 a2) (ji (.k02S lf (by omega) f2 (by omega) (by omega) (by omega)))
theorem Ad {l:Nat→Nat} {u:Nat} (hu:u < 8) {lf:Nat} (f1:19991≤lf+9*u) (f2:lf≤20000) (a0:l 0 % 7 < u) (a1:l 1 % 7 < u) (a2:u≤l 2 % 7) {Q:QT}:Do an (Sx X 3 37 4 (u+1) (jg kh l u lf)) (Exit.then (mD X l (u+1) (u+1)) Q):=by
 rcases ay a2 with a2 | a2
 ·
  exact ag (z9 (lf:=lf) ok hu a0 a1 a2) (ji (.k102N (by omega) (by omega) (by omega)))
 ·
  exact ag (DG (lf:=lf) ok hu a0 a1 a2) (ji (.k10S lf (by omega) f2 (by omega) (by omega) (by omega)))
theorem KC {l:Nat→Nat} {u:Nat} (hu:u < 8) {lf:Nat} (f1:19991≤lf+9*u) (f2:lf≤20000) (a0:u≤l 0 % 7) (a1:l 1 % 7 < u) (a2:l 2 % 7 < u) {Q:QT}:Do an (Sx X 3 37 4 (u+1) (gW jh l u lf)) (Exit.then (mD X l (u+1) (u+1)) Q):=by
 rcases ay a0 with a0 | a0
 ·
  exact ag (z7 (lf:=lf) ok hu a0 a1 a2) (ji (.k120N (by omega) (by omega) (by omega)))
 ·
  exact ag (DF (lf:=lf) ok hu a0 a1 a2) (ji (.k12S lf (by omega) f2 (by omega) (by omega) (by omega)))
theorem Ae {l:Nat→Nat} {u:Nat} (hu:u < 8) {lf:Nat} (f1:19991≤lf+9*u) (f2:lf≤20000) (a0:l 0 % 7 < u) (a1:u≤l 1 % 7) (a2:l 2 % 7 < u) {Q:QT}:Do an (Sx X 3 37 4 (u+1) (iA ki l u lf)) (Exit.then (mD X l (u+1) (u+1)) Q):=by
 rcases ay a1 with a1 | a1
 ·
  exact ag (Aa (lf:=lf) ok hu a0 a1 a2) (ji (.k201N (by omega) (by omega) (by omega)))
 ·
  exact ag (DH (lf:=lf) ok hu a0 a1 a2) (ji (.k20S lf (by omega) f2 (by omega) (by omega) (by omega)))
theorem KD {l:Nat→Nat} {u:Nat} (hu:u < 8) {lf:Nat} (f1:19991≤lf+9*u) (f2:lf≤20000) (a0:u≤l 0 % 7) (a1:l 1 % 7 < u) (a2:l 2 % 7 < u) {Q:QT}:Do an (Sx X 3 37 4 (u+1) (gW kT l u lf)) (Exit.then (mD X l (u+1) (u+1)) Q):=by
 rcases ay a0 with a0 | a0
 ·
  exact ag (zT (lf:=lf) ok hu a0 a1 a2) (ji (.k210N (by omega) (by omega) (by omega)))
 ·
  exact ag (Dt (lf:=lf) ok hu a0 a1 a2) (ji (.k21S lf (by omega) f2 (by omega) (by omega) (by omega)))
theorem DI {l:Nat→Nat} {u:Nat} (hu:u < 8) (a0:l 0 % 7 < u) (a1:l 1 % 7 < u) (a2:l 2 % 7 < u) {Q:QT}:Do an (Sx X 3 37 5 (u+1) (dc eG l u 0)) (Exit.then (mD X l (u+1) (u+1)) Q):=by
 exact ag (z8 (lf:=0) ok hu a0 a1 a2) (ji (.k012N (by omega) (by omega) (by omega)))
theorem DJ {l:Nat→Nat} {u:Nat} (hu:u < 8) (a0:l 0 % 7 < u) (a1:l 1 % 7 < u) (a2:l 2 % 7 < u) {Q:QT}:Do an (Sx X 3 37 5 (u+1) (dc jE l u 0)) (Exit.then (mD X l (u+1) (u+1)) Q):=by
 exact ag (zV (lf:=0) ok hu a0 a1 a2) (ji (.k021N (by omega) (by omega) (by omega)))
theorem DK {l:Nat→Nat} {u:Nat} (hu:u < 8) (a0:l 0 % 7 < u) (a1:l 1 % 7 < u) (a2:l 2 % 7 < u) {Q:QT}:Do an (Sx X 3 37 5 (u+1) (dc fX l u 0)) (Exit.then (mD X l (u+1) (u+1)) Q):=by
 exact ag (z_ (lf:=0) ok hu a0 a1 a2) (ji (.k102N (by omega) (by omega) (by omega)))
theorem DL {l:Nat→Nat} {u:Nat} (hu:u < 8) (a0:l 0 % 7 < u) (a1:l 1 % 7 < u) (a2:l 2 % 7 < u) {Q:QT}:Do an (Sx X 3 37 5 (u+1) (dc jF l u 0)) (Exit.then (mD X l (u+1) (u+1)) Q):=by
 exact ag (zW (lf:=0) ok hu a0 a1 a2) (ji (.k120N (by omega) (by omega) (by omega)))
theorem DM {l:Nat→Nat} {u:Nat} (hu:u < 8) (a0:l 0 % 7 < u) (a1:l 1 % 7 < u) (a2:l 2 % 7 < u) {Q:QT}:Do an (Sx X 3 37 5 (u+1) (dc fY l u 0)) (Exit.then (mD X l (u+1) (u+1)) Q):=by
 exact ag (zU (lf:=0) ok hu a0 a1 a2) (ji (.k201N (by omega) (by omega) (by omega)))
theorem DN {l:Nat→Nat} {u:Nat} (hu:u < 8) (a0:l 0 % 7 < u) (a1:l 1 % 7 < u) (a2:l 2 % 7 < u) {Q:QT}:Do an (Sx X 3 37 5 (u+1) (dc jG l u 0)) (Exit.then (mD X l (u+1) (u+1)) Q):=by
 exact ag (zX (lf:=0) ok hu a0 a1 a2) (ji (.k210N (by omega) (by omega) (by omega)))
end
theorem Us {X:Mp×Hp×World} (ok:fJ X) {l:Nat→Nat} {u:Nat} (hu:u < 8) {Q:QT}:Do K6 (mD X l (u+1) (u+1)) (Exit.then (mD X l (u+1) (u+1+1)) Q):=fun x hx a w ⟨told,h,hk,st⟩=>
 ag (cx av fun g=>RB g (Nat.lt_succ_of_lt hu)) (ji hk) x hx a w st
section
variable {X:Mp×Hp×World} (ok:fJ X)
include ok
theorem pD {l:Nat→Nat} {u told:Nat} {h h':Hp} (hu:u < 8) {Q:QT} (hp: ∀{Q},Do a7 (Sx X 3 37 told (u+1) h) (Exit.then (Sx X 3 37 told (u+1) h') Q)) (hr: ∀{Q},Do an (Sx X 3 37 told (u+1) h') (Exit.then (mD X l (u+1) (u+1)) Q)):
  Do fQ (Sx X 3 37 told (u+1) h) (Exit.then (mD X l (u+1) (u+1+1)) Q):=
 a9 (cx av fun g=>uS g hu) (a9 (dI (a9 hp (bY hr (fun _ _ h=>h) n_))) (Us ok hu))
theorem Ut {l:Nat→Nat} {u:Nat} (hu:u < 8) {Q:QT}:Do fQ (mD X l u (u+1)) (Exit.then (mD X l (u+1) (u+1+1)) Q):=fun x hx a w ⟨told,h,hk,st⟩=>by
 cases hk with
 | kF a0 a1 a2=>exact pD ok hu (zM ok) (Rj ok hu (by omega) (by omega) a0 a1 a2) x hx a w st
 | kS lf f1 f2 a0 a1 a2=>exact pD ok hu (zN ok (by omega) f2) (Rj ok hu (by omega) (by omega) a0 a1 a2) x hx a w st
 | k0F a0 a1 a2=>exact pD ok hu (Dp ok) (I2 ok hu (by omega) (by omega) a0 a1 a2) x hx a w st
 | k0S lf f1 f2 a0 a1 a2=>exact pD ok hu (Ds ok (by omega) f2) (I2 ok hu (by omega) (by omega) a0 a1 a2) x hx a w st
 | k1S lf f1 f2 a0 a1 a2=>exact pD ok hu (Dq ok (by omega) f2) (Rk ok hu (by omega) (by omega) a0 a1 a2) x hx a w st
 | k2S lf f1 f2 a0 a1 a2=>exact pD ok hu (Dr ok (by omega) f2) (Rl ok hu (by omega) (by omega) a0 a1 a2) x hx a w st
 | k01F a0 a1 a2=>exact pD ok hu (zO ok) (Ab ok hu (by omega) (by omega) a0 a1 a2) x hx a w st
 | k01S lf f1 f2 a0 a1 a2=>exact pD ok hu (zS ok (by omega) f2) (Ab ok hu (by omega) (by omega) a0 a1 a2) x hx a w st
 | k02F a0 a1 a2=>exact pD ok hu (zP ok) (Ac ok hu (by omega) (by omega) a0 a1 a2) x hx a w st
 | k02S lf f1 f2 a0 a1 a2=>exact pD ok hu (zR ok (by omega) f2) (Ac ok hu (by omega) (by omega) a0 a1 a2) x hx a w st
 | k10F a0 a1 a2=>exact pD ok hu (zO ok) (Ad ok hu (by omega) (by omega) a0 a1 a2) x hx a w st
 | k10S lf f1 f2 a0 a1 a2=>exact pD ok hu (zS ok (by omega) f2) (Ad ok hu (by omega) (by omega) a0 a1 a2) x hx a w st
 | k12S lf f1 f2 a0 a1 a2=>exact pD ok hu (zQ ok (by omega) f2) (KC ok hu (by omega) (by omega) a0 a1 a2) x hx a w st
 | k20F a0 a1 a2=>exact pD ok hu (zP ok) (Ae ok hu (by omega) (by omega) a0 a1 a2) x hx a w st
 | k20S lf f1 f2 a0 a1 a2=>exact pD ok hu (zR ok (by omega) f2) (Ae ok hu (by omega) (by omega) a0 a1 a2) x hx a w st
 | k21S lf f1 f2 a0 a1 a2=>exact pD ok hu (zQ ok (by omega) f2) (KD ok hu (by omega) (by omega) a0 a1 a2) x hx a w st
 | k012N a0 a1 a2=>exact pD ok hu (qp ok) (DI ok hu a0 a1 a2) x hx a w st
 | k021N a0 a1 a2=>exact pD ok hu (qp ok) (DJ ok hu a0 a1 a2) x hx a w st
 | k102N a0 a1 a2=>exact pD ok hu (qp ok) (DK ok hu a0 a1 a2) x hx a w st
 | k120N a0 a1 a2=>exact pD ok hu (qp ok) (DL ok hu a0 a1 a2) x hx a w st
 | k201N a0 a1 a2=>exact pD ok hu (qp ok) (DM ok hu a0 a1 a2) x hx a w st
 | k210N a0 a1 a2=>exact pD ok hu (qp ok) (DN ok hu a0 a1 a2) x hx a w st
end
theorem KE {X:Mp×Hp×World} (ok:fJ X) {l:Nat→Nat} {R':ST} {Q:QT}:Do fQ (mD X l 8 9) (Exit.then R' (Exit.inBlock 2 (Exit.then (mD X l 8 9) Q))):=fun x hx a w ⟨told,h,hk,st⟩=>
 a9 (R:=fun _ _=>False) (jC av (fun g=>ru g) (fun a w s=>mw (ji hk a w s))) (fun _ _ _ _ h=>h.elim) x hx a w st
theorem Rm {X:Mp×Hp×World} (ok:fJ X) {l:Nat→Nat}:Do mu (mD X l 8 9) (rq X.1 X.2.1 X.2.2 128 2):=fun x hx a w ⟨told,h,hk,st⟩=>by
 cases hk <;> first | omega | exact Ur x hx a w st
section
variable {X:Mp×Hp×World} (ok:fJ X)
include ok
theorem Uu {l:Nat→Nat} {Q:QT}:Do (.block 2 (.loop fQ)) (mD X l 0 1) (Exit.then (mD X l 8 9) Q):=
 dI (kA (m:=9) (fun k a w=> ∃u,u≤8∧u+k=9∧mD X l u (u+1) a w) (fun a w ⟨u,h1,h2,_⟩=>by omega)
  (fun k x hx a w ⟨u,h1,h2,hd⟩=>by
   rcases Nat.lt_or_ge u 8 with h | h
   ·exact ag (Ut ok h) (fun a w q=>⟨u+1,by omega,by omega,q⟩) x hx a w hd
   ·obtain rfl:u=8:=by omega
    exact KE ok x hx a w hd)
  fun a w h=>⟨0,by omega,by omega,h⟩)
end
theorem Tl {l:Nat→Nat} (b: ∀i,l i < 256) {μ:Mp} {w:World} {x:Value} (hs:bh μ (hB (T3 l)) w) (hm: ∀c,μ.own c=false) (r:VR μ (.slice 0 0 3 3 1 false) x):
  Calls Tryz.prog 4 #[x] w fun e w'=>e= .returned (.bool true)∧Below w.heap.size w w':=
 have ok:fJ (μ,hB (T3 l),w):=⟨fun c _=>hm c,Nat.le_refl 1⟩
 rp (M:=MM) (i:=2) RA hs hm (args:=[.slice 0 0 3 3 1 false]) (by rw [aJ];exact ⟨_,_,rfl,r,by rw [aH]⟩) (by show 1≤128;decide) rfl
  (bY (S:=mF μ (hB (T3 l)) w 128 [(0, .slice 0 0 3 3 1 false)] (hB (T3 l))) (Uq b (fun c _=>hm c) (a9 (a9 (cx av fun g=>r6 g) (bY (Uu ok (l:=l)) (fun a w st=>ji (t:=1) (.kF (Nat.zero_le _) (Nat.zero_le _) (Nat.zero_le _)) a w st) (fun _ _ _ h=>h))) (Rm ok))) (fun a w1 h=>⟨.lf,h.1 ▸ h.2⟩) (fun _ _ _ h=>h))
end Go.Proofs.YtfcljjhlijolgaaGreatDoor.topLate
