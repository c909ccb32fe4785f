import Derived.Test.YtfcljjhlijolgaaGreatDoorSQs
import Derived.Test.YtfcljjhlijolgaaGreatDoorSQr
import Derived.Test.YtfcljjhlijolgaaGreatDoorSQe
import Derived.Test.YtfcljjhlijolgaaGreatDoorSQt
import Derived.Test.YtfcljjhlijolgaaGreatDoorSQi
import Derived.Test.YtfcljjhlijolgaaGreatDoorSQp1
import Derived.Test.YtfcljjhlijolgaaGreatDoorSQp2
import Derived.Test.YtfcljjhlijolgaaGreatDoorSQp3
import Derived.Test.YtfcljjhlijolgaaGreatDoorSQp4
import Derived.Test.YtfcljjhlijolgaaGreatDoorSQp5
import Derived.Test.YtfcljjhlijolgaaGreatDoorSQx1
import Derived.Test.YtfcljjhlijolgaaGreatDoorSQx2
import Derived.Test.YtfcljjhlijolgaaGreatDoorSQx3
import Derived.Test.YtfcljjhlijolgaaGreatDoorSQx4
import Derived.Test.YtfcljjhlijolgaaGreatDoorSQx5
import Derived.Test.YtfcljjhlijolgaaGreatDoorSQx6
import Derived.Test.YtfcljjhlijolgaaGreatDoorSQx7
import Derived.Test.YtfcljjhlijolgaaGreatDoorSQx8
import Derived.Test.YtfcljjhlijolgaaGreatDoorSQx9
import Derived.Test.YtfcljjhlijolgaaGreatDoorSQx10
import Derived.Test.YtfcljjhlijolgaaGreatDoorSQx11
import Derived.Test.YtfcljjhlijolgaaGreatDoorSQx12
import Derived.Test.YtfcljjhlijolgaaGreatDoorSQx13
import Derived.Test.YtfcljjhlijolgaaGreatDoorSQx14
import Derived.Test.YtfcljjhlijolgaaGreatDoorSQx15
namespace Go.Proofs.YtfcljjhlijolgaaGreatDoor.serverQueue
open Go.ChangeShapes Go.WideShapes Go.ChangeAt Go.RowKit
open Go.ChangeMaps (open_string shut_string)
open Eng
set_option linter.unusedVariables false
set_option linter.unusedSimpArgs false
structure pJ (W:Wd) (bs:List Bool) (F:List Nat):Prop where
 w:so W.vw W.oa 0 (bs.map .bool)
 f:so W.vf W.ob 1 (kr F)
 m:bs.length≤4
 L:F.length≤40
 z: ∀x ∈ F,x < 256
def bt (bs:List Bool):Bt:=⟨bs.getD 0 false,bs.getD 1 false,bs.getD 2 false,bs.getD 3 false⟩
section
variable {W:Wd} {bs:List Bool} {F:List Nat} (I:pJ W bs F)
include I
theorem pJ.lw:aq (.lenL (.const W.vw)) .lf H0= .ok (vi bs.length):=by have:=I.w.len;rwa [List.length_map] at this
theorem pJ.lf:aq (.lenL (.const W.vf)) .lf H0= .ok (vi F.length):=by have:=I.f.len;rwa [eQ,List.length_map] at this
theorem pJ.iw {i:Nat} (h:i < bs.length):aq (.idxAddrSl 1 (.const W.vw) (.const (vi i))) .lf H0= .ok (.ptr 0 i):=I.w.idx (by rwa [List.length_map])
theorem pJ.jf {i:Nat} (h:i < F.length):aq (.idxAddrSl 1 (.const W.vf) (.const (vi i))) .lf H0= .ok (.ptr 1 i):=I.f.idx (by rwa [eQ,List.length_map])
theorem pJ.ow {i:Nat} (h:i < bs.length):W.oa=some (.cells (bs.map .bool) (bs.map AV.bool).length .ro):=I.w.d_ (i:=i) (by rwa [List.length_map])
theorem pJ.of {i:Nat} (h:i < F.length):W.ob=some (.cells (kr F) (kr F).length .ro):=I.f.d_ (i:=i) (by rwa [eQ,List.length_map])
end
theorem cw {bs:List Bool} {i:Nat} (h:i < bs.length):an (bs.map AV.bool) i=some (.bool (bs.getD i false)):=by rw [fw,List.getElem?_map,List.getElem?_eq_getElem h,List.getD_eq_getElem?_getD,List.getElem?_eq_getElem h];rfl
theorem cf {F:List Nat} {i:Nat} (h:i < F.length): ∃z,z ∈ F∧an (kr F) i=some (aw z):=⟨F[i],List.getElem_mem h,by rw [fw,eQ,List.getElem?_map,List.getElem?_eq_getElem h];rfl⟩
def FT (v:V):Prop:=v.L0=26∧v.L1=13∧(v.k0=14∨v.k0=19)∧(v.k1=13∨v.k1=19)
section
variable {X:Mp×Hp×World} {W:Wd} {A:List AV} {k:Nat} (ok:Ok X W) (hA:W.oa=some (.cells A k .ro)) {B:Bt} {b:Bool} {v:V} {Q:QT}
include ok hA
theorem Vm (hi:aq (.idxAddrSl 1 (.const W.vw) (.const (vi 0))) .lf H0= .ok (.ptr 0 0)) (hb:B.b0=b) (hc:an A 0=some (.bool b)) (hv:FT v):
  Do cC (ad X W (f6 0) (cr B v) 70) (Exit.then (fun a w=> ∃v',FT v'∧ad X W (f6 0) (bj B v') 79 a w) Q):=by
 obtain ⟨vw,vf,oa,ob⟩:=W
 obtain rfl:oa=_:=hA
 obtain ⟨k0,k1,L0,L1,y0,y1,x0,x1⟩:=v
 obtain ⟨h1,h2,h3,h4⟩:=hv
 obtain ⟨b0,b1,b2,b3⟩:=B
 obtain rfl:b0=b:=hb
 obtain rfl:L0=26:=h1
 obtain rfl:L1=13:=h2
 rcases h3 with h3 | h3 <;> rcases h4 with h4 | h4 <;> cases b0
 ·obtain rfl:k0=14:=h3;obtain rfl:k1=13:=h4;exact aa (sD ok hi hc (B:=⟨false,b1,b2,b3⟩) (v:=⟨14,13,26,13,y0,y1,x0,x1⟩)) fun a w s=>⟨_,⟨rfl,rfl, .inr rfl, .inl rfl⟩,s⟩
 ·obtain rfl:k0=14:=h3;obtain rfl:k1=13:=h4;exact aa (sE ok hi hc (B:=⟨true,b1,b2,b3⟩) (v:=⟨14,13,26,13,y0,y1,x0,x1⟩)) fun a w s=>⟨_,⟨rfl,rfl, .inl rfl, .inr rfl⟩,s⟩
 ·obtain rfl:k0=14:=h3;obtain rfl:k1=19:=h4;exact aa (sF ok hi hc (B:=⟨false,b1,b2,b3⟩) (v:=⟨14,19,26,13,y0,y1,x0,x1⟩)) fun a w s=>⟨_,⟨rfl,rfl, .inr rfl, .inr rfl⟩,s⟩
 ·obtain rfl:k0=14:=h3;obtain rfl:k1=19:=h4;exact aa (sG ok hi hc (B:=⟨true,b1,b2,b3⟩) (v:=⟨14,19,26,13,y0,y1,x0,x1⟩)) fun a w s=>⟨_,⟨rfl,rfl, .inl rfl, .inr rfl⟩,s⟩
 ·obtain rfl:k0=19:=h3;obtain rfl:k1=13:=h4;exact aa (sH ok hi hc (B:=⟨false,b1,b2,b3⟩) (v:=⟨19,13,26,13,y0,y1,x0,x1⟩)) fun a w s=>⟨_,⟨rfl,rfl, .inr rfl, .inl rfl⟩,s⟩
 ·obtain rfl:k0=19:=h3;obtain rfl:k1=13:=h4;exact aa (sI ok hi hc (B:=⟨true,b1,b2,b3⟩) (v:=⟨19,13,26,13,y0,y1,x0,x1⟩)) fun a w s=>⟨_,⟨rfl,rfl, .inr rfl, .inr rfl⟩,s⟩
 ·obtain rfl:k0=19:=h3;obtain rfl:k1=19:=h4;exact aa (sJ ok hi hc (B:=⟨false,b1,b2,b3⟩) (v:=⟨19,19,26,13,y0,y1,x0,x1⟩)) fun a w s=>⟨_,⟨rfl,rfl, .inr rfl, .inr rfl⟩,s⟩
 ·obtain rfl:k0=19:=h3;obtain rfl:k1=19:=h4;exact aa (sK ok hi hc (B:=⟨true,b1,b2,b3⟩) (v:=⟨19,19,26,13,y0,y1,x0,x1⟩)) fun a w s=>⟨_,⟨rfl,rfl, .inr rfl, .inr rfl⟩,s⟩
theorem Vn (hi:aq (.idxAddrSl 1 (.const W.vw) (.const (vi 1))) .lf H0= .ok (.ptr 0 1)) (hb:B.b1=b) (hc:an A 1=some (.bool b)) (hv:FT v):
  Do cC (ad X W (f6 1) (bj B v) 79) (Exit.then (fun a w=> ∃v',FT v'∧ad X W (f6 1) (bl B v') 82 a w) Q):=by
 obtain ⟨vw,vf,oa,ob⟩:=W
 obtain rfl:oa=_:=hA
 obtain ⟨k0,k1,L0,L1,y0,y1,x0,x1⟩:=v
 obtain ⟨h1,h2,h3,h4⟩:=hv
 obtain ⟨b0,b1,b2,b3⟩:=B
 obtain rfl:b1=b:=hb
 obtain rfl:L0=26:=h1
 obtain rfl:L1=13:=h2
 rcases h3 with h3 | h3 <;> rcases h4 with h4 | h4 <;> cases b1
 ·obtain rfl:k0=14:=h3;obtain rfl:k1=13:=h4;exact aa (sL ok hi hc (B:=⟨b0,false,b2,b3⟩) (v:=⟨14,13,26,13,y0,y1,x0,x1⟩)) fun a w s=>⟨_,⟨rfl,rfl, .inr rfl, .inl rfl⟩,s⟩
 ·obtain rfl:k0=14:=h3;obtain rfl:k1=13:=h4;exact aa (sM ok hi hc (B:=⟨b0,true,b2,b3⟩) (v:=⟨14,13,26,13,y0,y1,x0,x1⟩)) fun a w s=>⟨_,⟨rfl,rfl, .inl rfl, .inr rfl⟩,s⟩
 ·obtain rfl:k0=14:=h3;obtain rfl:k1=19:=h4;exact aa (sO ok hi hc (B:=⟨b0,false,b2,b3⟩) (v:=⟨14,19,26,13,y0,y1,x0,x1⟩)) fun a w s=>⟨_,⟨rfl,rfl, .inr rfl, .inr rfl⟩,s⟩
 ·obtain rfl:k0=14:=h3;obtain rfl:k1=19:=h4;exact aa (sP ok hi hc (B:=⟨b0,true,b2,b3⟩) (v:=⟨14,19,26,13,y0,y1,x0,x1⟩)) fun a w s=>⟨_,⟨rfl,rfl, .inl rfl, .inr rfl⟩,s⟩
 ·obtain rfl:k0=19:=h3;obtain rfl:k1=13:=h4;exact aa (sQ ok hi hc (B:=⟨b0,false,b2,b3⟩) (v:=⟨19,13,26,13,y0,y1,x0,x1⟩)) fun a w s=>⟨_,⟨rfl,rfl, .inr rfl, .inl rfl⟩,s⟩
 ·obtain rfl:k0=19:=h3;obtain rfl:k1=13:=h4;exact aa (sR ok hi hc (B:=⟨b0,true,b2,b3⟩) (v:=⟨19,13,26,13,y0,y1,x0,x1⟩)) fun a w s=>⟨_,⟨rfl,rfl, .inr rfl, .inr rfl⟩,s⟩
 ·obtain rfl:k0=19:=h3;obtain rfl:k1=19:=h4;exact aa (sS ok hi hc (B:=⟨b0,false,b2,b3⟩) (v:=⟨19,19,26,13,y0,y1,x0,x1⟩)) fun a w s=>⟨_,⟨rfl,rfl, .inr rfl, .inr rfl⟩,s⟩
 ·obtain rfl:k0=19:=h3;obtain rfl:k1=19:=h4;exact aa (sT ok hi hc (B:=⟨b0,true,b2,b3⟩) (v:=⟨19,19,26,13,y0,y1,x0,x1⟩)) fun a w s=>⟨_,⟨rfl,rfl, .inr rfl, .inr rfl⟩,s⟩
theorem Vo (hi:aq (.idxAddrSl 1 (.const W.vw) (.const (vi 2))) .lf H0= .ok (.ptr 0 2)) (hb:B.b2=b) (hc:an A 2=some (.bool b)) (hv:FT v):
  Do cC (ad X W (f6 2) (bl B v) 82) (Exit.then (fun a w=> ∃v',FT v'∧ad X W (f6 2) (bm B v') 85 a w) Q):=by
 obtain ⟨vw,vf,oa,ob⟩:=W
 obtain rfl:oa=_:=hA
 obtain ⟨k0,k1,L0,L1,y0,y1,x0,x1⟩:=v
 obtain ⟨h1,h2,h3,h4⟩:=hv
 obtain ⟨b0,b1,b2,b3⟩:=B
 obtain rfl:b2=b:=hb
 obtain rfl:L0=26:=h1
 obtain rfl:L1=13:=h2
 rcases h3 with h3 | h3 <;> rcases h4 with h4 | h4 <;> cases b2
 ·obtain rfl:k0=14:=h3;obtain rfl:k1=13:=h4;exact aa (sU ok hi hc (B:=⟨b0,b1,false,b3⟩) (v:=⟨14,13,26,13,y0,y1,x0,x1⟩)) fun a w s=>⟨_,⟨rfl,rfl, .inr rfl, .inl rfl⟩,s⟩
 ·obtain rfl:k0=14:=h3;obtain rfl:k1=13:=h4;exact aa (sV ok hi hc (B:=⟨b0,b1,true,b3⟩) (v:=⟨14,13,26,13,y0,y1,x0,x1⟩)) fun a w s=>⟨_,⟨rfl,rfl, .inl rfl, .inr rfl⟩,s⟩
 ·obtain rfl:k0=14:=h3;obtain rfl:k1=19:=h4;exact aa (sW ok hi hc (B:=⟨b0,b1,false,b3⟩) (v:=⟨14,19,26,13,y0,y1,x0,x1⟩)) fun a w s=>⟨_,⟨rfl,rfl, .inr rfl, .inr rfl⟩,s⟩
 ·obtain rfl:k0=14:=h3;obtain rfl:k1=19:=h4;exact aa (sX ok hi hc (B:=⟨b0,b1,true,b3⟩) (v:=⟨14,19,26,13,y0,y1,x0,x1⟩)) fun a w s=>⟨_,⟨rfl,rfl, .inl rfl, .inr rfl⟩,s⟩
 ·obtain rfl:k0=19:=h3;obtain rfl:k1=13:=h4;exact aa (sY ok hi hc (B:=⟨b0,b1,false,b3⟩) (v:=⟨19,13,26,13,y0,y1,x0,x1⟩)) fun a w s=>⟨_,⟨rfl,rfl, .inr rfl, .inl rfl⟩,s⟩
 ·obtain rfl:k0=19:=h3;obtain rfl:k1=13:=h4;exact aa (sZ ok hi hc (B:=⟨b0,b1,true,b3⟩) (v:=⟨19,13,26,13,y0,y1,x0,x1⟩)) fun a w s=>⟨_,⟨rfl,rfl, .inr rfl, .inr rfl⟩,s⟩
 ·obtain rfl:k0=19:=h3;obtain rfl:k1=19:=h4;exact aa (s4 ok hi hc (B:=⟨b0,b1,false,b3⟩) (v:=⟨19,19,26,13,y0,y1,x0,x1⟩)) fun a w s=>⟨_,⟨rfl,rfl, .inr rfl, .inr rfl⟩,s⟩
 ·obtain rfl:k0=19:=h3;obtain rfl:k1=19:=h4;exact aa (s5 ok hi hc (B:=⟨b0,b1,true,b3⟩) (v:=⟨19,19,26,13,y0,y1,x0,x1⟩)) fun a w s=>⟨_,⟨rfl,rfl, .inr rfl, .inr rfl⟩,s⟩
theorem Vp (hi:aq (.idxAddrSl 1 (.const W.vw) (.const (vi 3))) .lf H0= .ok (.ptr 0 3)) (hb:B.b3=b) (hc:an A 3=some (.bool b)) (hv:FT v):
  Do cC (ad X W (f6 3) (bm B v) 85) (Exit.then (fun a w=> ∃v',FT v'∧ad X W (f6 3) (bZ B v') 88 a w) Q):=by
 obtain ⟨vw,vf,oa,ob⟩:=W
 obtain rfl:oa=_:=hA
 obtain ⟨k0,k1,L0,L1,y0,y1,x0,x1⟩:=v
 obtain ⟨h1,h2,h3,h4⟩:=hv
 obtain ⟨b0,b1,b2,b3⟩:=B
 obtain rfl:b3=b:=hb
 obtain rfl:L0=26:=h1
 obtain rfl:L1=13:=h2
 rcases h3 with h3 | h3 <;> rcases h4 with h4 | h4 <;> cases b3
 ·obtain rfl:k0=14:=h3;obtain rfl:k1=13:=h4;exact aa (s6 ok hi hc (B:=⟨b0,b1,b2,false⟩) (v:=⟨14,13,26,13,y0,y1,x0,x1⟩)) fun a w s=>⟨_,⟨rfl,rfl, .inr rfl, .inl rfl⟩,s⟩
 ·obtain rfl:k0=14:=h3;obtain rfl:k1=13:=h4;exact aa (s7 ok hi hc (B:=⟨b0,b1,b2,true⟩) (v:=⟨14,13,26,13,y0,y1,x0,x1⟩)) fun a w s=>⟨_,⟨rfl,rfl, .inl rfl, .inr rfl⟩,s⟩
 ·obtain rfl:k0=14:=h3;obtain rfl:k1=19:=h4;exact aa (s8 ok hi hc (B:=⟨b0,b1,b2,false⟩) (v:=⟨14,19,26,13,y0,y1,x0,x1⟩)) fun a w s=>⟨_,⟨rfl,rfl, .inr rfl, .inr rfl⟩,s⟩
 ·obtain rfl:k0=14:=h3;obtain rfl:k1=19:=h4;exact aa (s9 ok hi hc (B:=⟨b0,b1,b2,true⟩) (v:=⟨14,19,26,13,y0,y1,x0,x1⟩)) fun a w s=>⟨_,⟨rfl,rfl, .inl rfl, .inr rfl⟩,s⟩
 ·obtain rfl:k0=19:=h3;obtain rfl:k1=13:=h4;exact aa (s_ ok hi hc (B:=⟨b0,b1,b2,false⟩) (v:=⟨19,13,26,13,y0,y1,x0,x1⟩)) fun a w s=>⟨_,⟨rfl,rfl, .inr rfl, .inl rfl⟩,s⟩
 ·obtain rfl:k0=19:=h3;obtain rfl:k1=13:=h4;exact aa (ta ok hi hc (B:=⟨b0,b1,b2,true⟩) (v:=⟨19,13,26,13,y0,y1,x0,x1⟩)) fun a w s=>⟨_,⟨rfl,rfl, .inr rfl, .inr rfl⟩,s⟩
 ·obtain rfl:k0=19:=h3;obtain rfl:k1=19:=h4;exact aa (tc ok hi hc (B:=⟨b0,b1,b2,false⟩) (v:=⟨19,19,26,13,y0,y1,x0,x1⟩)) fun a w s=>⟨_,⟨rfl,rfl, .inr rfl, .inr rfl⟩,s⟩
 ·obtain rfl:k0=19:=h3;obtain rfl:k1=19:=h4;exact aa (td ok hi hc (B:=⟨b0,b1,b2,true⟩) (v:=⟨19,19,26,13,y0,y1,x0,x1⟩)) fun a w s=>⟨_,⟨rfl,rfl, .inr rfl, .inr rfl⟩,s⟩
end
inductive Hq (B:Bt) (v:V):Nat→List (Nat×KB)→Nat→Prop where
 | r0:Hq B v 0 (cr B v) 70
 | r1:Hq B v 1 (bj B v) 79
 | r2:Hq B v 2 (bl B v) 82
 | r3:Hq B v 3 (bm B v) 85
 | r4:Hq B v 4 (bZ B v) 88
def FU (X:Mp×Hp×World) (W:Wd) (B:Bt) (i:Nat):ST:=fun a w=> ∃v D N,FT v∧Hq B v i D N∧ad X W (f6 i) D N a w
section
variable {X:Mp×Hp×World} {W:Wd} {bs:List Bool} {F:List Nat} {Q:QT}
theorem rx (I:pJ W bs F) {i:Nat} (hi:i < bs.length) {v:V} {D D':V→List (Nat×KB)} {N N':Nat} (hv:FT v) (hq: ∀v',Hq (bt bs) v' (i+1) (D' v') N')
  (h: ∀{Q},Do cC (ad X W (f6 i) (D v) N) (Exit.then (fun a w=> ∃v',FT v'∧ad X W (f6 i) (D' v') N' a w) Q)):Do Ti (ad X W (f6 i) (D v) N) (Exit.then (FU X W (bt bs) (i+1)) Q):=
 have hm:=I.m
 cB (df aQ fun g=>ML I.m I.lw hi g) (cB (iC (jl h (fun _ _ h=>h) tZ))
  (fun x hx a w ⟨v',hv',s⟩=>aa (df (fr:=bI W.ks (f6 i)) (fr':=bI W.ks (f6 (i+1))) aQ fun g=>Wg (by omega) g) (fun a w s=>⟨v',D' v',N',hv',hq v',s⟩) x hx a w s))
theorem Wm (ok:Ok X W) (I:pJ W bs F) {i:Nat} (hi:i < bs.length):Do Ti (FU X W (bt bs) i) (Exit.then (FU X W (bt bs) (i+1)) Q):=fun x hx a w ⟨v,D,N,hv,hq,s⟩=>by
 have hm:=I.m
 cases hq with
 | r0=>exact rx I hi (D:=fun v=>cr (bt bs) v) (D':=fun v=>bj (bt bs) v) hv (fun v'=> .r1) (Vm ok (I.ow hi) (I.iw hi) (b:=bs.getD 0 false) rfl (cw hi) hv) x hx a w s
 | r1=>exact rx I hi (D:=fun v=>bj (bt bs) v) (D':=fun v=>bl (bt bs) v) hv (fun v'=> .r2) (Vn ok (I.ow hi) (I.iw hi) (b:=bs.getD 1 false) rfl (cw hi) hv) x hx a w s
 | r2=>exact rx I hi (D:=fun v=>bl (bt bs) v) (D':=fun v=>bm (bt bs) v) hv (fun v'=> .r3) (Vo ok (I.ow hi) (I.iw hi) (b:=bs.getD 2 false) rfl (cw hi) hv) x hx a w s
 | r3=>exact rx I hi (D:=fun v=>bm (bt bs) v) (D':=fun v=>bZ (bt bs) v) hv (fun v'=> .r4) (Vp ok (I.ow hi) (I.iw hi) (b:=bs.getD 3 false) rfl (cw hi) hv) x hx a w s
 | r4=>omega
theorem MY (I:pJ W bs F) {R':ST}:Do Ti (FU X W (bt bs) bs.length) (Exit.then R' (Exit.inBlock 0 (Exit.then (FU X W (bt bs) bs.length) Q))):=fun x hx a w ⟨v,D,N,hv,hq,s⟩=>
 cB (R:=fun _ _=>False) (nf (fr:=bI W.ks (f6 bs.length)) (fr':=bI W.ks (f6 bs.length)) aQ (fun g=>G4 I.lw g) (fun a w s=>qT (i:=0) (R:=FU X W (bt bs) bs.length) ⟨v,D,N,hv,hq,s⟩)) (fun _ _ _ _ h=>h.elim) x hx a w s
theorem Wn (ok:Ok X W) (I:pJ W bs F):Do (.block 0 (.loop Ti)) (FU X W (bt bs) 0) (Exit.then (FU X W (bt bs) bs.length) Q):=
 iC (n9 (m:=bs.length+1) (fun k a w=> ∃i,i≤bs.length∧i+k=bs.length+1∧FU X W (bt bs) i a w) (fun a w ⟨i,h1,h2,_⟩=>by omega)
  (fun k x hx a w ⟨i,h1,h2,hd⟩=>by
   rcases Nat.lt_or_ge i bs.length with h | h
   ·exact aa (Wm ok I h) (fun a w q=>⟨i+1,by omega,by omega,q⟩) x hx a w hd
   ·obtain rfl:i=bs.length:=by omega
    exact MY I x hx a w hd)
  fun a w h=>⟨0,by omega,by omega,h⟩)
end
inductive Hk (B:Bt):Nat→Nat→List (Nat×KB)→Nat→Prop where
 | k0_0_0 (n0:Nat) (v:V) (h:n0≤0) (h0:v.L0=26+14*n0) (h1:v.L1=13+14*(0 - n0)):Hk B 0 0 (cr B v) 70
 | k0_1_0 (n0:Nat) (v:V) (h:n0≤0) (h0:v.L0=26+14*n0) (h1:v.L1=13+14*(0 - n0)):Hk B 1 3 (bj B v) 79
 | k0_1_1 (n0:Nat) (v:V) (h:n0≤0) (h0:v.L0=26+14*n0) (h1:v.L1=13+14*(0 - n0)):Hk B 1 3 (ga B v) 80
 | k0_1_2 (n0:Nat) (v:V) (h:n0≤0) (h0:v.L0=26+14*n0) (h1:v.L1=13+14*(0 - n0)):Hk B 1 2 (gf B v) 80
 | k0_1_3 (n0:Nat) (v:V) (h:n0≤0) (h0:v.L0=26+14*n0) (h1:v.L1=13+14*(0 - n0)):Hk B 1 2 (gg B v) 80
 | k0_1_4 (n0:Nat) (v:V) (h:n0≤0) (h0:v.L0=26+14*n0) (h1:v.L1=13+14*(0 - n0)):Hk B 1 1 (gh B v) 83
 | k0_1_5 (n0:Nat) (v:V) (h:n0≤0) (h0:v.L0=26+14*n0) (h1:v.L1=13+14*(0 - n0)):Hk B 1 1 (gi B v) 83
 | k0_2_0 (n0:Nat) (v:V) (h:n0≤0) (h0:v.L0=26+14*n0) (h1:v.L1=13+14*(0 - n0)):Hk B 2 6 (bl B v) 82
 | k0_2_1 (n0:Nat) (v:V) (h:n0≤0) (h0:v.L0=26+14*n0) (h1:v.L1=13+14*(0 - n0)):Hk B 2 6 (gj B v) 83
 | k0_2_2 (n0:Nat) (v:V) (h:n0≤0) (h0:v.L0=26+14*n0) (h1:v.L1=13+14*(0 - n0)):Hk B 2 5 (gl B v) 83
 | k0_2_3 (n0:Nat) (v:V) (h:n0≤0) (h0:v.L0=26+14*n0) (h1:v.L1=13+14*(0 - n0)):Hk B 2 5 (gm B v) 83
 | k0_2_4 (n0:Nat) (v:V) (h:n0≤0) (h0:v.L0=26+14*n0) (h1:v.L1=13+14*(0 - n0)):Hk B 2 4 (gn B v) 86
 | k0_2_5 (n0:Nat) (v:V) (h:n0≤0) (h0:v.L0=26+14*n0) (h1:v.L1=13+14*(0 - n0)):Hk B 2 4 (gp B v) 86
 | k0_3_0 (n0:Nat) (v:V) (h:n0≤0) (h0:v.L0=26+14*n0) (h1:v.L1=13+14*(0 - n0)):Hk B 3 9 (bm B v) 85
 | k0_3_1 (n0:Nat) (v:V) (h:n0≤0) (h0:v.L0=26+14*n0) (h1:v.L1=13+14*(0 - n0)):Hk B 3 9 (gq B v) 86
 | k0_3_2 (n0:Nat) (v:V) (h:n0≤0) (h0:v.L0=26+14*n0) (h1:v.L1=13+14*(0 - n0)):Hk B 3 8 (gr B v) 86
 | k0_3_3 (n0:Nat) (v:V) (h:n0≤0) (h0:v.L0=26+14*n0) (h1:v.L1=13+14*(0 - n0)):Hk B 3 8 (gu B v) 86
 | k0_3_4 (n0:Nat) (v:V) (h:n0≤0) (h0:v.L0=26+14*n0) (h1:v.L1=13+14*(0 - n0)):Hk B 3 7 (gv B v) 89
 | k0_3_5 (n0:Nat) (v:V) (h:n0≤0) (h0:v.L0=26+14*n0) (h1:v.L1=13+14*(0 - n0)):Hk B 3 7 (gw B v) 89
 | k0_4_0 (n0:Nat) (v:V) (h:n0≤0) (h0:v.L0=26+14*n0) (h1:v.L1=13+14*(0 - n0)):Hk B 4 12 (bZ B v) 88
 | k0_4_1 (n0:Nat) (v:V) (h:n0≤0) (h0:v.L0=26+14*n0) (h1:v.L1=13+14*(0 - n0)):Hk B 4 12 (gy B v) 89
 | k0_4_2 (n0:Nat) (v:V) (h:n0≤0) (h0:v.L0=26+14*n0) (h1:v.L1=13+14*(0 - n0)):Hk B 4 11 (gz B v) 89
 | k0_4_3 (n0:Nat) (v:V) (h:n0≤0) (h0:v.L0=26+14*n0) (h1:v.L1=13+14*(0 - n0)):Hk B 4 11 (gA B v) 89
 | k0_4_4 (n0:Nat) (v:V) (h:n0≤0) (h0:v.L0=26+14*n0) (h1:v.L1=13+14*(0 - n0)):Hk B 4 10 (gB B v) 92
 | k0_4_5 (n0:Nat) (v:V) (h:n0≤0) (h0:v.L0=26+14*n0) (h1:v.L1=13+14*(0 - n0)):Hk B 4 10 (gC B v) 92
 | k1_0_0 (n0:Nat) (v:V) (h:n0≤1) (h0:v.L0=26+14*n0) (h1:v.L1=13+14*(1 - n0)):Hk B 1 0 (cK B v) 73
 | k1_1_0 (n0:Nat) (v:V) (h:n0≤1) (h0:v.L0=26+14*n0) (h1:v.L1=13+14*(1 - n0)):Hk B 2 3 (bM B v) 81
 | k1_1_1 (n0:Nat) (v:V) (h:n0≤1) (h0:v.L0=26+14*n0) (h1:v.L1=13+14*(1 - n0)):Hk B 2 3 (eR B v) 82
 | k1_1_2 (n0:Nat) (v:V) (h:n0≤1) (h0:v.L0=26+14*n0) (h1:v.L1=13+14*(1 - n0)):Hk B 2 2 (eS B v) 82
 | k1_1_3 (n0:Nat) (v:V) (h:n0≤1) (h0:v.L0=26+14*n0) (h1:v.L1=13+14*(1 - n0)):Hk B 2 2 (eT B v) 82
 | k1_1_4 (n0:Nat) (v:V) (h:n0≤1) (h0:v.L0=26+14*n0) (h1:v.L1=13+14*(1 - n0)):Hk B 2 1 (eU B v) 85
 | k1_1_5 (n0:Nat) (v:V) (h:n0≤1) (h0:v.L0=26+14*n0) (h1:v.L1=13+14*(1 - n0)):Hk B 2 1 (eV B v) 85
 | k1_2_0 (n0:Nat) (v:V) (h:n0≤1) (h0:v.L0=26+14*n0) (h1:v.L1=13+14*(1 - n0)):Hk B 3 6 (bN B v) 84
 | k1_2_1 (n0:Nat) (v:V) (h:n0≤1) (h0:v.L0=26+14*n0) (h1:v.L1=13+14*(1 - n0)):Hk B 3 6 (eX B v) 85
 | k1_2_2 (n0:Nat) (v:V) (h:n0≤1) (h0:v.L0=26+14*n0) (h1:v.L1=13+14*(1 - n0)):Hk B 3 5 (eY B v) 85
 | k1_2_3 (n0:Nat) (v:V) (h:n0≤1) (h0:v.L0=26+14*n0) (h1:v.L1=13+14*(1 - n0)):Hk B 3 5 (eZ B v) 85
 | k1_2_4 (n0:Nat) (v:V) (h:n0≤1) (h0:v.L0=26+14*n0) (h1:v.L1=13+14*(1 - n0)):Hk B 3 4 (e_ B v) 88
 | k1_2_5 (n0:Nat) (v:V) (h:n0≤1) (h0:v.L0=26+14*n0) (h1:v.L1=13+14*(1 - n0)):Hk B 3 4 (fe B v) 88
 | k1_3_0 (n0:Nat) (v:V) (h:n0≤1) (h0:v.L0=26+14*n0) (h1:v.L1=13+14*(1 - n0)):Hk B 4 9 (bO B v) 87
 | k1_3_1 (n0:Nat) (v:V) (h:n0≤1) (h0:v.L0=26+14*n0) (h1:v.L1=13+14*(1 - n0)):Hk B 4 9 (fg B v) 88
 | k1_3_2 (n0:Nat) (v:V) (h:n0≤1) (h0:v.L0=26+14*n0) (h1:v.L1=13+14*(1 - n0)):Hk B 4 8 (fh B v) 88
 | k1_3_3 (n0:Nat) (v:V) (h:n0≤1) (h0:v.L0=26+14*n0) (h1:v.L1=13+14*(1 - n0)):Hk B 4 8 (fj B v) 88
 | k1_3_4 (n0:Nat) (v:V) (h:n0≤1) (h0:v.L0=26+14*n0) (h1:v.L1=13+14*(1 - n0)):Hk B 4 7 (fk B v) 91
 | k1_3_5 (n0:Nat) (v:V) (h:n0≤1) (h0:v.L0=26+14*n0) (h1:v.L1=13+14*(1 - n0)):Hk B 4 7 (fl B v) 91
 | k2_0_0 (n0:Nat) (v:V) (h:n0≤2) (h0:v.L0=26+14*n0) (h1:v.L1=13+14*(2 - n0)):Hk B 2 0 (bn B v) 75
 | k2_1_0 (n0:Nat) (v:V) (h:n0≤2) (h0:v.L0=26+14*n0) (h1:v.L1=13+14*(2 - n0)):Hk B 3 3 (aU B v) 83
 | k2_1_1 (n0:Nat) (v:V) (h:n0≤2) (h0:v.L0=26+14*n0) (h1:v.L1=13+14*(2 - n0)):Hk B 3 3 (dI B v) 84
 | k2_1_2 (n0:Nat) (v:V) (h:n0≤2) (h0:v.L0=26+14*n0) (h1:v.L1=13+14*(2 - n0)):Hk B 3 2 (dJ B v) 84
 | k2_1_3 (n0:Nat) (v:V) (h:n0≤2) (h0:v.L0=26+14*n0) (h1:v.L1=13+14*(2 - n0)):Hk B 3 2 (dK B v) 84
 | k2_1_4 (n0:Nat) (v:V) (h:n0≤2) (h0:v.L0=26+14*n0) (h1:v.L1=13+14*(2 - n0)):Hk B 3 1 (dL B v) 87
 | k2_1_5 (n0:Nat) (v:V) (h:n0≤2) (h0:v.L0=26+14*n0) (h1:v.L1=13+14*(2 - n0)):Hk B 3 1 (dM B v) 87
 | k2_2_0 (n0:Nat) (v:V) (h:n0≤2) (h0:v.L0=26+14*n0) (h1:v.L1=13+14*(2 - n0)):Hk B 4 6 (aV B v) 86
 | k2_2_1 (n0:Nat) (v:V) (h:n0≤2) (h0:v.L0=26+14*n0) (h1:v.L1=13+14*(2 - n0)):Hk B 4 6 (dN B v) 87
 | k2_2_2 (n0:Nat) (v:V) (h:n0≤2) (h0:v.L0=26+14*n0) (h1:v.L1=13+14*(2 - n0)):Hk B 4 5 (dO B v) 87
 | k2_2_3 (n0:Nat) (v:V) (h:n0≤2) (h0:v.L0=26+14*n0) (h1:v.L1=13+14*(2 - n0)):Hk B 4 5 (dP B v) 87
 | k2_2_4 (n0:Nat) (v:V) (h:n0≤2) (h0:v.L0=26+14*n0) (h1:v.L1=13+14*(2 - n0)):Hk B 4 4 (dQ B v) 90
 | k2_2_5 (n0:Nat) (v:V) (h:n0≤2) (h0:v.L0=26+14*n0) (h1:v.L1=13+14*(2 - n0)):Hk B 4 4 (dR B v) 90
 | k3_0_0 (n0:Nat) (v:V) (h:n0≤3) (h0:v.L0=26+14*n0) (h1:v.L1=13+14*(3 - n0)):Hk B 3 0 (aL B v) 77
 | k3_1_0 (n0:Nat) (v:V) (h:n0≤3) (h0:v.L0=26+14*n0) (h1:v.L1=13+14*(3 - n0)):Hk B 4 3 (aI B v) 85
 | k3_1_1 (n0:Nat) (v:V) (h:n0≤3) (h0:v.L0=26+14*n0) (h1:v.L1=13+14*(3 - n0)):Hk B 4 3 (c7 B v) 86
 | k3_1_2 (n0:Nat) (v:V) (h:n0≤3) (h0:v.L0=26+14*n0) (h1:v.L1=13+14*(3 - n0)):Hk B 4 2 (c8 B v) 86
 | k3_1_3 (n0:Nat) (v:V) (h:n0≤3) (h0:v.L0=26+14*n0) (h1:v.L1=13+14*(3 - n0)):Hk B 4 2 (c9 B v) 86
 | k3_1_4 (n0:Nat) (v:V) (h:n0≤3) (h0:v.L0=26+14*n0) (h1:v.L1=13+14*(3 - n0)):Hk B 4 1 (c_ B v) 89
 | k3_1_5 (n0:Nat) (v:V) (h:n0≤3) (h0:v.L0=26+14*n0) (h1:v.L1=13+14*(3 - n0)):Hk B 4 1 (da B v) 89
 | k4_0_0 (n0:Nat) (v:V) (h:n0≤4) (h0:v.L0=26+14*n0) (h1:v.L1=13+14*(4 - n0)):Hk B 4 0 (az B v) 79
def Nx (X:Mp×Hp×World) (W:Wd) (B:Bt) (m i n re:Nat):ST:=fun a w=> ∃re' D N,Hk B m re' D N∧re'≤12∧(n=2→re'≤re - 1)∧ad X W (f9 i) D N a w
theorem nx {X:Mp×Hp×World} {W:Wd} {B:Bt} {m i n re re':Nat} {D:List (Nat×KB)} {N:Nat} (h:Hk B m re' D N) (h1:re'≤12) (h2:n=2→re'≤re - 1): ∀a w,ad X W (f9 i) D N a w→Nx X W B m i n re a w:=fun a w s=>⟨re',D,N,h,h1,h2,s⟩
section
variable {X:Mp×Hp×World} {W:Wd} (ok:Ok X W) {B:Bt} {n0:Nat} {v:V} {n i:Nat} {Q:QT}
include ok
theorem MZ (h:n0≤0) (h0:v.L0=26+14*n0) (h1:v.L1=13+14*(0 - n0)) (hn:n≤6):Do ao (ad X W (f2 i n) (cr B v) 70) (Exit.then (Nx X W B 0 i n 0) Q):=by
 exact aa (z0 ok) (nx (.k0_0_0 n0 v h h0 h1) (by decide) (fun _=>by decide))
theorem M0 (h:n0≤0) (h0:v.L0=26+14*n0) (h1:v.L1=13+14*(0 - n0)) (hn:n≤6):Do ao (ad X W (f2 i n) (bj B v) 79) (Exit.then (Nx X W B 1 i n 3) Q):=by
 rcases Nat.lt_or_ge n 6 with h2 | h2
 ·match n,h2 with
  | 0,_=>exact aa (Cg ok) (nx (.k0_1_0 n0 v h h0 h1) (by decide) (by decide))
  | 1,_=>exact aa (Ch ok) (nx (.k0_1_1 n0 v h h0 h1) (by decide) (by decide))
  | 2,_=>exact aa (Ci ok) (nx (.k0_1_2 n0 v h h0 h1) (by decide) (by decide))
  | 3,_=>exact aa (Cj ok) (nx (.k0_1_3 n0 v h h0 h1) (by decide) (by decide))
  | 4,_=>exact aa (Ck ok) (nx (.k0_1_4 n0 v h h0 h1) (by decide) (by decide))
  | 5,_=>exact aa (Cl ok) (nx (.k0_1_5 n0 v h h0 h1) (by decide) (by decide))
 ·obtain ⟨k0,k1,L0,L1,y0,y1,x0,x1⟩:=v
  obtain ⟨b0,b1,b2,b3⟩:=B
  obtain rfl:n=6:=by omega
  match n0,h with
  | 0,_=>
    obtain rfl:L0=26:=h0
    obtain rfl:L1=13:=h1
    cases b0
    ·exact aa (vN ok (B:=⟨false,b1,b2,b3⟩) (v:=⟨k0,k1,26,13,y0,y1,x0,x1⟩)) (nx (.k1_0_0 1 _ (by decide) rfl rfl) (by decide) (fun _=>by decide))
    ·exact aa (vO ok (B:=⟨true,b1,b2,b3⟩) (v:=⟨k0,k1,26,13,y0,y1,x0,x1⟩)) (nx (.k1_0_0 0 _ (by decide) rfl rfl) (by decide) (fun _=>by decide))
theorem M1 (h:n0≤0) (h0:v.L0=26+14*n0) (h1:v.L1=13+14*(0 - n0)) (hn:n≤6):Do ao (ad X W (f2 i n) (ga B v) 80) (Exit.then (Nx X W B 1 i n 3) Q):=by
 rcases Nat.lt_or_ge n 5 with h2 | h2
 ·match n,h2 with
  | 0,_=>exact aa (Cm ok) (nx (.k0_1_1 n0 v h h0 h1) (by decide) (by decide))
  | 1,_=>exact aa (Cn ok) (nx (.k0_1_2 n0 v h h0 h1) (by decide) (by decide))
  | 2,_=>exact aa (Co ok) (nx (.k0_1_3 n0 v h h0 h1) (by decide) (by decide))
  | 3,_=>exact aa (Cp ok) (nx (.k0_1_4 n0 v h h0 h1) (by decide) (by decide))
  | 4,_=>exact aa (Cq ok) (nx (.k0_1_5 n0 v h h0 h1) (by decide) (by decide))
 ·obtain ⟨k0,k1,L0,L1,y0,y1,x0,x1⟩:=v
  obtain ⟨b0,b1,b2,b3⟩:=B
  match n0,h with
  | 0,_=>
    obtain rfl:L0=26:=h0
    obtain rfl:L1=13:=h1
    cases b0
    ·exact aa (vP ok h2 hn (B:=⟨false,b1,b2,b3⟩) (v:=⟨k0,k1,26,13,y0,y1,x0,x1⟩)) (nx (.k1_0_0 1 _ (by decide) rfl rfl) (by decide) (fun _=>by decide))
    ·exact aa (vQ ok h2 hn (B:=⟨true,b1,b2,b3⟩) (v:=⟨k0,k1,26,13,y0,y1,x0,x1⟩)) (nx (.k1_0_0 0 _ (by decide) rfl rfl) (by decide) (fun _=>by decide))
theorem M3 (h:n0≤0) (h0:v.L0=26+14*n0) (h1:v.L1=13+14*(0 - n0)) (hn:n≤6):Do ao (ad X W (f2 i n) (gf B v) 80) (Exit.then (Nx X W B 1 i n 2) Q):=by
 rcases Nat.lt_or_ge n 4 with h2 | h2
 ·match n,h2 with
  | 0,_=>exact aa (Cr ok) (nx (.k0_1_2 n0 v h h0 h1) (by decide) (by decide))
  | 1,_=>exact aa (Cs ok) (nx (.k0_1_3 n0 v h h0 h1) (by decide) (by decide))
  | 2,_=>exact aa (Ct ok) (nx (.k0_1_4 n0 v h h0 h1) (by decide) (by decide))
  | 3,_=>exact aa (Cu ok) (nx (.k0_1_5 n0 v h h0 h1) (by decide) (by decide))
 ·obtain ⟨k0,k1,L0,L1,y0,y1,x0,x1⟩:=v
  obtain ⟨b0,b1,b2,b3⟩:=B
  match n0,h with
  | 0,_=>
    obtain rfl:L0=26:=h0
    obtain rfl:L1=13:=h1
    cases b0
    ·exact aa (vR ok h2 hn (B:=⟨false,b1,b2,b3⟩) (v:=⟨k0,k1,26,13,y0,y1,x0,x1⟩)) (nx (.k1_0_0 1 _ (by decide) rfl rfl) (by decide) (fun _=>by decide))
    ·exact aa (vS ok h2 hn (B:=⟨true,b1,b2,b3⟩) (v:=⟨k0,k1,26,13,y0,y1,x0,x1⟩)) (nx (.k1_0_0 0 _ (by decide) rfl rfl) (by decide) (fun _=>by decide))
theorem M4 (h:n0≤0) (h0:v.L0=26+14*n0) (h1:v.L1=13+14*(0 - n0)) (hn:n≤6):Do ao (ad X W (f2 i n) (gg B v) 80) (Exit.then (Nx X W B 1 i n 2) Q):=by
 rcases Nat.lt_or_ge n 3 with h2 | h2
 ·match n,h2 with
  | 0,_=>exact aa (Cv ok) (nx (.k0_1_3 n0 v h h0 h1) (by decide) (by decide))
  | 1,_=>exact aa (Cw ok) (nx (.k0_1_4 n0 v h h0 h1) (by decide) (by decide))
  | 2,_=>exact aa (Cx ok) (nx (.k0_1_5 n0 v h h0 h1) (by decide) (by decide))
 ·obtain ⟨k0,k1,L0,L1,y0,y1,x0,x1⟩:=v
  obtain ⟨b0,b1,b2,b3⟩:=B
  match n0,h with
  | 0,_=>
    obtain rfl:L0=26:=h0
    obtain rfl:L1=13:=h1
    cases b0
    ·exact aa (vT ok h2 hn (B:=⟨false,b1,b2,b3⟩) (v:=⟨k0,k1,26,13,y0,y1,x0,x1⟩)) (nx (.k1_0_0 1 _ (by decide) rfl rfl) (by decide) (fun _=>by decide))
    ·exact aa (vU ok h2 hn (B:=⟨true,b1,b2,b3⟩) (v:=⟨k0,k1,26,13,y0,y1,x0,x1⟩)) (nx (.k1_0_0 0 _ (by decide) rfl rfl) (by decide) (fun _=>by decide))
theorem M5 (h:n0≤0) (h0:v.L0=26+14*n0) (h1:v.L1=13+14*(0 - n0)) (hn:n≤6):Do ao (ad X W (f2 i n) (gh B v) 83) (Exit.then (Nx X W B 1 i n 1) Q):=by
 rcases Nat.lt_or_ge n 2 with h2 | h2
 ·match n,h2 with
  | 0,_=>exact aa (Cy ok) (nx (.k0_1_4 n0 v h h0 h1) (by decide) (by decide))
  | 1,_=>exact aa (Cz ok) (nx (.k0_1_5 n0 v h h0 h1) (by decide) (by decide))
 ·obtain ⟨k0,k1,L0,L1,y0,y1,x0,x1⟩:=v
  obtain ⟨b0,b1,b2,b3⟩:=B
  match n0,h with
  | 0,_=>
    obtain rfl:L0=26:=h0
    obtain rfl:L1=13:=h1
    cases b0
    ·exact aa (vV ok h2 hn (B:=⟨false,b1,b2,b3⟩) (v:=⟨k0,k1,26,13,y0,y1,x0,x1⟩)) (nx (.k1_0_0 1 _ (by decide) rfl rfl) (by decide) (fun _=>by decide))
    ·exact aa (vW ok h2 hn (B:=⟨true,b1,b2,b3⟩) (v:=⟨k0,k1,26,13,y0,y1,x0,x1⟩)) (nx (.k1_0_0 0 _ (by decide) rfl rfl) (by decide) (fun _=>by decide))
theorem M6 (h:n0≤0) (h0:v.L0=26+14*n0) (h1:v.L1=13+14*(0 - n0)) (hn:n≤6):Do ao (ad X W (f2 i n) (gi B v) 83) (Exit.then (Nx X W B 1 i n 1) Q):=by
 rcases Nat.lt_or_ge n 1 with h2 | h2
 ·match n,h2 with
  | 0,_=>exact aa (CA ok) (nx (.k0_1_5 n0 v h h0 h1) (by decide) (by decide))
 ·obtain ⟨k0,k1,L0,L1,y0,y1,x0,x1⟩:=v
  obtain ⟨b0,b1,b2,b3⟩:=B
  match n0,h with
  | 0,_=>
    obtain rfl:L0=26:=h0
    obtain rfl:L1=13:=h1
    cases b0
    ·exact aa (vX ok h2 hn (B:=⟨false,b1,b2,b3⟩) (v:=⟨k0,k1,26,13,y0,y1,x0,x1⟩)) (nx (.k1_0_0 1 _ (by decide) rfl rfl) (by decide) (fun _=>by decide))
    ·exact aa (vY ok h2 hn (B:=⟨true,b1,b2,b3⟩) (v:=⟨k0,k1,26,13,y0,y1,x0,x1⟩)) (nx (.k1_0_0 0 _ (by decide) rfl rfl) (by decide) (fun _=>by decide))
theorem M7 (h:n0≤0) (h0:v.L0=26+14*n0) (h1:v.L1=13+14*(0 - n0)) (hn:n≤6):Do ao (ad X W (f2 i n) (bl B v) 82) (Exit.then (Nx X W B 2 i n 6) Q):=by
 rcases Nat.lt_or_ge n 6 with h2 | h2
 ·match n,h2 with
  | 0,_=>exact aa (CB ok) (nx (.k0_2_0 n0 v h h0 h1) (by decide) (by decide))
  | 1,_=>exact aa (CC ok) (nx (.k0_2_1 n0 v h h0 h1) (by decide) (by decide))
  | 2,_=>exact aa (CD ok) (nx (.k0_2_2 n0 v h h0 h1) (by decide) (by decide))
  | 3,_=>exact aa (CE ok) (nx (.k0_2_3 n0 v h h0 h1) (by decide) (by decide))
  | 4,_=>exact aa (CF ok) (nx (.k0_2_4 n0 v h h0 h1) (by decide) (by decide))
  | 5,_=>exact aa (CG ok) (nx (.k0_2_5 n0 v h h0 h1) (by decide) (by decide))
 ·obtain ⟨k0,k1,L0,L1,y0,y1,x0,x1⟩:=v
  obtain ⟨b0,b1,b2,b3⟩:=B
  obtain rfl:n=6:=by omega
  match n0,h with
  | 0,_=>
    obtain rfl:L0=26:=h0
    obtain rfl:L1=13:=h1
    cases b0
    ·exact aa (vZ ok (B:=⟨false,b1,b2,b3⟩) (v:=⟨k0,k1,26,13,y0,y1,x0,x1⟩)) (nx (.k1_1_0 1 _ (by decide) rfl rfl) (by decide) (fun _=>by decide))
    ·exact aa (v3 ok (B:=⟨true,b1,b2,b3⟩) (v:=⟨k0,k1,26,13,y0,y1,x0,x1⟩)) (nx (.k1_1_0 0 _ (by decide) rfl rfl) (by decide) (fun _=>by decide))
theorem M8 (h:n0≤0) (h0:v.L0=26+14*n0) (h1:v.L1=13+14*(0 - n0)) (hn:n≤6):Do ao (ad X W (f2 i n) (gj B v) 83) (Exit.then (Nx X W B 2 i n 6) Q):=by
 rcases Nat.lt_or_ge n 5 with h2 | h2
 ·match n,h2 with
  | 0,_=>exact aa (CH ok) (nx (.k0_2_1 n0 v h h0 h1) (by decide) (by decide))
  | 1,_=>exact aa (CI ok) (nx (.k0_2_2 n0 v h h0 h1) (by decide) (by decide))
  | 2,_=>exact aa (CJ ok) (nx (.k0_2_3 n0 v h h0 h1) (by decide) (by decide))
  | 3,_=>exact aa (CK ok) (nx (.k0_2_4 n0 v h h0 h1) (by decide) (by decide))
  | 4,_=>exact aa (CM ok) (nx (.k0_2_5 n0 v h h0 h1) (by decide) (by decide))
 ·obtain ⟨k0,k1,L0,L1,y0,y1,x0,x1⟩:=v
  obtain ⟨b0,b1,b2,b3⟩:=B
  match n0,h with
  | 0,_=>
    obtain rfl:L0=26:=h0
    obtain rfl:L1=13:=h1
    cases b0
    ·exact aa (v5 ok h2 hn (B:=⟨false,b1,b2,b3⟩) (v:=⟨k0,k1,26,13,y0,y1,x0,x1⟩)) (nx (.k1_1_0 1 _ (by decide) rfl rfl) (by decide) (fun _=>by decide))
    ·exact aa (v7 ok h2 hn (B:=⟨true,b1,b2,b3⟩) (v:=⟨k0,k1,26,13,y0,y1,x0,x1⟩)) (nx (.k1_1_0 0 _ (by decide) rfl rfl) (by decide) (fun _=>by decide))
theorem M9 (h:n0≤0) (h0:v.L0=26+14*n0) (h1:v.L1=13+14*(0 - n0)) (hn:n≤6):Do ao (ad X W (f2 i n) (gl B v) 83) (Exit.then (Nx X W B 2 i n 5) Q):=by
 rcases Nat.lt_or_ge n 4 with h2 | h2
 ·match n,h2 with
  | 0,_=>exact aa (CN ok) (nx (.k0_2_2 n0 v h h0 h1) (by decide) (by decide))
  | 1,_=>exact aa (CO ok) (nx (.k0_2_3 n0 v h h0 h1) (by decide) (by decide))
  | 2,_=>exact aa (CP ok) (nx (.k0_2_4 n0 v h h0 h1) (by decide) (by decide))
  | 3,_=>exact aa (CQ ok) (nx (.k0_2_5 n0 v h h0 h1) (by decide) (by decide))
 ·obtain ⟨k0,k1,L0,L1,y0,y1,x0,x1⟩:=v
  obtain ⟨b0,b1,b2,b3⟩:=B
  match n0,h with
  | 0,_=>
    obtain rfl:L0=26:=h0
    obtain rfl:L1=13:=h1
    cases b0
    ·exact aa (v8 ok h2 hn (B:=⟨false,b1,b2,b3⟩) (v:=⟨k0,k1,26,13,y0,y1,x0,x1⟩)) (nx (.k1_1_0 1 _ (by decide) rfl rfl) (by decide) (fun _=>by decide))
    ·exact aa (v9 ok h2 hn (B:=⟨true,b1,b2,b3⟩) (v:=⟨k0,k1,26,13,y0,y1,x0,x1⟩)) (nx (.k1_1_0 0 _ (by decide) rfl rfl) (by decide) (fun _=>by decide))
theorem M_ (h:n0≤0) (h0:v.L0=26+14*n0) (h1:v.L1=13+14*(0 - n0)) (hn:n≤6):Do ao (ad X W (f2 i n) (gm B v) 83) (Exit.then (Nx X W B 2 i n 5) Q):=by
 rcases Nat.lt_or_ge n 3 with h2 | h2
 ·match n,h2 with
  | 0,_=>exact aa (CR ok) (nx (.k0_2_3 n0 v h h0 h1) (by decide) (by decide))
  | 1,_=>exact aa (CS ok) (nx (.k0_2_4 n0 v h h0 h1) (by decide) (by decide))
  | 2,_=>exact aa (CT ok) (nx (.k0_2_5 n0 v h h0 h1) (by decide) (by decide))
 ·obtain ⟨k0,k1,L0,L1,y0,y1,x0,x1⟩:=v
  obtain ⟨b0,b1,b2,b3⟩:=B
  match n0,h with
  | 0,_=>
    obtain rfl:L0=26:=h0
    obtain rfl:L1=13:=h1
    cases b0
    ·exact aa (v_ ok h2 hn (B:=⟨false,b1,b2,b3⟩) (v:=⟨k0,k1,26,13,y0,y1,x0,x1⟩)) (nx (.k1_1_0 1 _ (by decide) rfl rfl) (by decide) (fun _=>by decide))
    ·exact aa (wa ok h2 hn (B:=⟨true,b1,b2,b3⟩) (v:=⟨k0,k1,26,13,y0,y1,x0,x1⟩)) (nx (.k1_1_0 0 _ (by decide) rfl rfl) (by decide) (fun _=>by decide))
theorem Na (h:n0≤0) (h0:v.L0=26+14*n0) (h1:v.L1=13+14*(0 - n0)) (hn:n≤6):Do ao (ad X W (f2 i n) (gn B v) 86) (Exit.then (Nx X W B 2 i n 4) Q):=by
 rcases Nat.lt_or_ge n 2 with h2 | h2
 ·match n,h2 with
  | 0,_=>exact aa (CU ok) (nx (.k0_2_4 n0 v h h0 h1) (by decide) (by decide))
  | 1,_=>exact aa (CV ok) (nx (.k0_2_5 n0 v h h0 h1) (by decide) (by decide))
 ·obtain ⟨k0,k1,L0,L1,y0,y1,x0,x1⟩:=v
  obtain ⟨b0,b1,b2,b3⟩:=B
  match n0,h with
  | 0,_=>
    obtain rfl:L0=26:=h0
    obtain rfl:L1=13:=h1
    cases b0
    ·exact aa (wb ok h2 hn (B:=⟨false,b1,b2,b3⟩) (v:=⟨k0,k1,26,13,y0,y1,x0,x1⟩)) (nx (.k1_1_0 1 _ (by decide) rfl rfl) (by decide) (fun _=>by decide))
    ·exact aa (wc ok h2 hn (B:=⟨true,b1,b2,b3⟩) (v:=⟨k0,k1,26,13,y0,y1,x0,x1⟩)) (nx (.k1_1_0 0 _ (by decide) rfl rfl) (by decide) (fun _=>by decide))
theorem Nb (h:n0≤0) (h0:v.L0=26+14*n0) (h1:v.L1=13+14*(0 - n0)) (hn:n≤6):Do ao (ad X W (f2 i n) (gp B v) 86) (Exit.then (Nx X W B 2 i n 4) Q):=by
 rcases Nat.lt_or_ge n 1 with h2 | h2
 ·match n,h2 with
  | 0,_=>exact aa (CW ok) (nx (.k0_2_5 n0 v h h0 h1) (by decide) (by decide))
 ·obtain ⟨k0,k1,L0,L1,y0,y1,x0,x1⟩:=v
  obtain ⟨b0,b1,b2,b3⟩:=B
  match n0,h with
  | 0,_=>
    obtain rfl:L0=26:=h0
    obtain rfl:L1=13:=h1
    cases b0
    ·exact aa (we ok h2 hn (B:=⟨false,b1,b2,b3⟩) (v:=⟨k0,k1,26,13,y0,y1,x0,x1⟩)) (nx (.k1_1_0 1 _ (by decide) rfl rfl) (by decide) (fun _=>by decide))
    ·exact aa (wg ok h2 hn (B:=⟨true,b1,b2,b3⟩) (v:=⟨k0,k1,26,13,y0,y1,x0,x1⟩)) (nx (.k1_1_0 0 _ (by decide) rfl rfl) (by decide) (fun _=>by decide))
theorem Nd (h:n0≤0) (h0:v.L0=26+14*n0) (h1:v.L1=13+14*(0 - n0)) (hn:n≤6):Do ao (ad X W (f2 i n) (bm B v) 85) (Exit.then (Nx X W B 3 i n 9) Q):=by
 rcases Nat.lt_or_ge n 6 with h2 | h2
 ·match n,h2 with
  | 0,_=>exact aa (CX ok) (nx (.k0_3_0 n0 v h h0 h1) (by decide) (by decide))
  | 1,_=>exact aa (CY ok) (nx (.k0_3_1 n0 v h h0 h1) (by decide) (by decide))
  | 2,_=>exact aa (CZ ok) (nx (.k0_3_2 n0 v h h0 h1) (by decide) (by decide))
  | 3,_=>exact aa (C1 ok) (nx (.k0_3_3 n0 v h h0 h1) (by decide) (by decide))
  | 4,_=>exact aa (C2 ok) (nx (.k0_3_4 n0 v h h0 h1) (by decide) (by decide))
  | 5,_=>exact aa (C3 ok) (nx (.k0_3_5 n0 v h h0 h1) (by decide) (by decide))
 ·obtain ⟨k0,k1,L0,L1,y0,y1,x0,x1⟩:=v
  obtain ⟨b0,b1,b2,b3⟩:=B
  obtain rfl:n=6:=by omega
  match n0,h with
  | 0,_=>
    obtain rfl:L0=26:=h0
    obtain rfl:L1=13:=h1
    cases b0
    ·exact aa (wh ok (B:=⟨false,b1,b2,b3⟩) (v:=⟨k0,k1,26,13,y0,y1,x0,x1⟩)) (nx (.k1_2_0 1 _ (by decide) rfl rfl) (by decide) (fun _=>by decide))
    ·exact aa (wi ok (B:=⟨true,b1,b2,b3⟩) (v:=⟨k0,k1,26,13,y0,y1,x0,x1⟩)) (nx (.k1_2_0 0 _ (by decide) rfl rfl) (by decide) (fun _=>by decide))
theorem Nf (h:n0≤0) (h0:v.L0=26+14*n0) (h1:v.L1=13+14*(0 - n0)) (hn:n≤6):Do ao (ad X W (f2 i n) (gq B v) 86) (Exit.then (Nx X W B 3 i n 9) Q):=by
 rcases Nat.lt_or_ge n 5 with h2 | h2
 ·match n,h2 with
  | 0,_=>exact aa (C4 ok) (nx (.k0_3_1 n0 v h h0 h1) (by decide) (by decide))
  | 1,_=>exact aa (C5 ok) (nx (.k0_3_2 n0 v h h0 h1) (by decide) (by decide))
  | 2,_=>exact aa (C6 ok) (nx (.k0_3_3 n0 v h h0 h1) (by decide) (by decide))
  | 3,_=>exact aa (C7 ok) (nx (.k0_3_4 n0 v h h0 h1) (by decide) (by decide))
  | 4,_=>exact aa (C8 ok) (nx (.k0_3_5 n0 v h h0 h1) (by decide) (by decide))
 ·obtain ⟨k0,k1,L0,L1,y0,y1,x0,x1⟩:=v
  obtain ⟨b0,b1,b2,b3⟩:=B
  match n0,h with
  | 0,_=>
    obtain rfl:L0=26:=h0
    obtain rfl:L1=13:=h1
    cases b0
    ·exact aa (wj ok h2 hn (B:=⟨false,b1,b2,b3⟩) (v:=⟨k0,k1,26,13,y0,y1,x0,x1⟩)) (nx (.k1_2_0 1 _ (by decide) rfl rfl) (by decide) (fun _=>by decide))
    ·exact aa (wk ok h2 hn (B:=⟨true,b1,b2,b3⟩) (v:=⟨k0,k1,26,13,y0,y1,x0,x1⟩)) (nx (.k1_2_0 0 _ (by decide) rfl rfl) (by decide) (fun _=>by decide))
theorem Ng (h:n0≤0) (h0:v.L0=26+14*n0) (h1:v.L1=13+14*(0 - n0)) (hn:n≤6):Do ao (ad X W (f2 i n) (gr B v) 86) (Exit.then (Nx X W B 3 i n 8) Q):=by
 rcases Nat.lt_or_ge n 4 with h2 | h2
 ·match n,h2 with
  | 0,_=>exact aa (C9 ok) (nx (.k0_3_2 n0 v h h0 h1) (by decide) (by decide))
  | 1,_=>exact aa (C_ ok) (nx (.k0_3_3 n0 v h h0 h1) (by decide) (by decide))
  | 2,_=>exact aa (Da ok) (nx (.k0_3_4 n0 v h h0 h1) (by decide) (by decide))
  | 3,_=>exact aa (Db ok) (nx (.k0_3_5 n0 v h h0 h1) (by decide) (by decide))
 ·obtain ⟨k0,k1,L0,L1,y0,y1,x0,x1⟩:=v
  obtain ⟨b0,b1,b2,b3⟩:=B
  match n0,h with
  | 0,_=>
    obtain rfl:L0=26:=h0
    obtain rfl:L1=13:=h1
    cases b0
    ·exact aa (wm ok h2 hn (B:=⟨false,b1,b2,b3⟩) (v:=⟨k0,k1,26,13,y0,y1,x0,x1⟩)) (nx (.k1_2_0 1 _ (by decide) rfl rfl) (by decide) (fun _=>by decide))
    ·exact aa (wo ok h2 hn (B:=⟨true,b1,b2,b3⟩) (v:=⟨k0,k1,26,13,y0,y1,x0,x1⟩)) (nx (.k1_2_0 0 _ (by decide) rfl rfl) (by decide) (fun _=>by decide))
theorem Nh (h:n0≤0) (h0:v.L0=26+14*n0) (h1:v.L1=13+14*(0 - n0)) (hn:n≤6):Do ao (ad X W (f2 i n) (gu B v) 86) (Exit.then (Nx X W B 3 i n 8) Q):=by
 rcases Nat.lt_or_ge n 3 with h2 | h2
 ·match n,h2 with
  | 0,_=>exact aa (Dc ok) (nx (.k0_3_3 n0 v h h0 h1) (by decide) (by decide))
  | 1,_=>exact aa (Dd ok) (nx (.k0_3_4 n0 v h h0 h1) (by decide) (by decide))
  | 2,_=>exact aa (De ok) (nx (.k0_3_5 n0 v h h0 h1) (by decide) (by decide))
 ·obtain ⟨k0,k1,L0,L1,y0,y1,x0,x1⟩:=v
  obtain ⟨b0,b1,b2,b3⟩:=B
  match n0,h with
  | 0,_=>
    obtain rfl:L0=26:=h0
    obtain rfl:L1=13:=h1
    cases b0
    ·exact aa (wq ok h2 hn (B:=⟨false,b1,b2,b3⟩) (v:=⟨k0,k1,26,13,y0,y1,x0,x1⟩)) (nx (.k1_2_0 1 _ (by decide) rfl rfl) (by decide) (fun _=>by decide))
    ·exact aa (wu ok h2 hn (B:=⟨true,b1,b2,b3⟩) (v:=⟨k0,k1,26,13,y0,y1,x0,x1⟩)) (nx (.k1_2_0 0 _ (by decide) rfl rfl) (by decide) (fun _=>by decide))
theorem Ni (h:n0≤0) (h0:v.L0=26+14*n0) (h1:v.L1=13+14*(0 - n0)) (hn:n≤6):Do ao (ad X W (f2 i n) (gv B v) 89) (Exit.then (Nx X W B 3 i n 7) Q):=by
 rcases Nat.lt_or_ge n 2 with h2 | h2
 ·match n,h2 with
  | 0,_=>exact aa (Df ok) (nx (.k0_3_4 n0 v h h0 h1) (by decide) (by decide))
  | 1,_=>exact aa (Dg ok) (nx (.k0_3_5 n0 v h h0 h1) (by decide) (by decide))
 ·obtain ⟨k0,k1,L0,L1,y0,y1,x0,x1⟩:=v
  obtain ⟨b0,b1,b2,b3⟩:=B
  match n0,h with
  | 0,_=>
    obtain rfl:L0=26:=h0
    obtain rfl:L1=13:=h1
    cases b0
    ·exact aa (wv ok h2 hn (B:=⟨false,b1,b2,b3⟩) (v:=⟨k0,k1,26,13,y0,y1,x0,x1⟩)) (nx (.k1_2_0 1 _ (by decide) rfl rfl) (by decide) (fun _=>by decide))
    ·exact aa (wx ok h2 hn (B:=⟨true,b1,b2,b3⟩) (v:=⟨k0,k1,26,13,y0,y1,x0,x1⟩)) (nx (.k1_2_0 0 _ (by decide) rfl rfl) (by decide) (fun _=>by decide))
theorem Nj (h:n0≤0) (h0:v.L0=26+14*n0) (h1:v.L1=13+14*(0 - n0)) (hn:n≤6):Do ao (ad X W (f2 i n) (gw B v) 89) (Exit.then (Nx X W B 3 i n 7) Q):=by
 rcases Nat.lt_or_ge n 1 with h2 | h2
 ·match n,h2 with
  | 0,_=>exact aa (Dh ok) (nx (.k0_3_5 n0 v h h0 h1) (by decide) (by decide))
 ·obtain ⟨k0,k1,L0,L1,y0,y1,x0,x1⟩:=v
  obtain ⟨b0,b1,b2,b3⟩:=B
  match n0,h with
  | 0,_=>
    obtain rfl:L0=26:=h0
    obtain rfl:L1=13:=h1
    cases b0
    ·exact aa (wy ok h2 hn (B:=⟨false,b1,b2,b3⟩) (v:=⟨k0,k1,26,13,y0,y1,x0,x1⟩)) (nx (.k1_2_0 1 _ (by decide) rfl rfl) (by decide) (fun _=>by decide))
    ·exact aa (wz ok h2 hn (B:=⟨true,b1,b2,b3⟩) (v:=⟨k0,k1,26,13,y0,y1,x0,x1⟩)) (nx (.k1_2_0 0 _ (by decide) rfl rfl) (by decide) (fun _=>by decide))
theorem Nk (h:n0≤0) (h0:v.L0=26+14*n0) (h1:v.L1=13+14*(0 - n0)) (hn:n≤6):Do ao (ad X W (f2 i n) (bZ B v) 88) (Exit.then (Nx X W B 4 i n 12) Q):=by
 rcases Nat.lt_or_ge n 6 with h2 | h2
 ·match n,h2 with
  | 0,_=>exact aa (Di ok) (nx (.k0_4_0 n0 v h h0 h1) (by decide) (by decide))
  | 1,_=>exact aa (Dj ok) (nx (.k0_4_1 n0 v h h0 h1) (by decide) (by decide))
  | 2,_=>exact aa (Dk ok) (nx (.k0_4_2 n0 v h h0 h1) (by decide) (by decide))
  | 3,_=>exact aa (Dl ok) (nx (.k0_4_3 n0 v h h0 h1) (by decide) (by decide))
  | 4,_=>exact aa (Dm ok) (nx (.k0_4_4 n0 v h h0 h1) (by decide) (by decide))
  | 5,_=>exact aa (Dn ok) (nx (.k0_4_5 n0 v h h0 h1) (by decide) (by decide))
 ·obtain ⟨k0,k1,L0,L1,y0,y1,x0,x1⟩:=v
  obtain ⟨b0,b1,b2,b3⟩:=B
  obtain rfl:n=6:=by omega
  match n0,h with
  | 0,_=>
    obtain rfl:L0=26:=h0
    obtain rfl:L1=13:=h1
    cases b0
    ·exact aa (wA ok (B:=⟨false,b1,b2,b3⟩) (v:=⟨k0,k1,26,13,y0,y1,x0,x1⟩)) (nx (.k1_3_0 1 _ (by decide) rfl rfl) (by decide) (fun _=>by decide))
    ·exact aa (wB ok (B:=⟨true,b1,b2,b3⟩) (v:=⟨k0,k1,26,13,y0,y1,x0,x1⟩)) (nx (.k1_3_0 0 _ (by decide) rfl rfl) (by decide) (fun _=>by decide))
theorem Nl (h:n0≤0) (h0:v.L0=26+14*n0) (h1:v.L1=13+14*(0 - n0)) (hn:n≤6):Do ao (ad X W (f2 i n) (gy B v) 89) (Exit.then (Nx X W B 4 i n 12) Q):=by
 rcases Nat.lt_or_ge n 5 with h2 | h2
 ·match n,h2 with
  | 0,_=>exact aa (Dp ok) (nx (.k0_4_1 n0 v h h0 h1) (by decide) (by decide))
  | 1,_=>exact aa (Dq ok) (nx (.k0_4_2 n0 v h h0 h1) (by decide) (by decide))
  | 2,_=>exact aa (Dr ok) (nx (.k0_4_3 n0 v h h0 h1) (by decide) (by decide))
  | 3,_=>exact aa (Ds ok) (nx (.k0_4_4 n0 v h h0 h1) (by decide) (by decide))
  | 4,_=>exact aa (Dt ok) (nx (.k0_4_5 n0 v h h0 h1) (by decide) (by decide))
 ·obtain ⟨k0,k1,L0,L1,y0,y1,x0,x1⟩:=v
  obtain ⟨b0,b1,b2,b3⟩:=B
  match n0,h with
  | 0,_=>
    obtain rfl:L0=26:=h0
    obtain rfl:L1=13:=h1
    cases b0
    ·exact aa (wC ok h2 hn (B:=⟨false,b1,b2,b3⟩) (v:=⟨k0,k1,26,13,y0,y1,x0,x1⟩)) (nx (.k1_3_0 1 _ (by decide) rfl rfl) (by decide) (fun _=>by decide))
    ·exact aa (wD ok h2 hn (B:=⟨true,b1,b2,b3⟩) (v:=⟨k0,k1,26,13,y0,y1,x0,x1⟩)) (nx (.k1_3_0 0 _ (by decide) rfl rfl) (by decide) (fun _=>by decide))
theorem Nm (h:n0≤0) (h0:v.L0=26+14*n0) (h1:v.L1=13+14*(0 - n0)) (hn:n≤6):Do ao (ad X W (f2 i n) (gz B v) 89) (Exit.then (Nx X W B 4 i n 11) Q):=by
 rcases Nat.lt_or_ge n 4 with h2 | h2
 ·match n,h2 with
  | 0,_=>exact aa (Du ok) (nx (.k0_4_2 n0 v h h0 h1) (by decide) (by decide))
  | 1,_=>exact aa (Dv ok) (nx (.k0_4_3 n0 v h h0 h1) (by decide) (by decide))
  | 2,_=>exact aa (Dw ok) (nx (.k0_4_4 n0 v h h0 h1) (by decide) (by decide))
  | 3,_=>exact aa (Dx ok) (nx (.k0_4_5 n0 v h h0 h1) (by decide) (by decide))
 ·obtain ⟨k0,k1,L0,L1,y0,y1,x0,x1⟩:=v
  obtain ⟨b0,b1,b2,b3⟩:=B
  match n0,h with
  | 0,_=>
    obtain rfl:L0=26:=h0
    obtain rfl:L1=13:=h1
    cases b0
    ·exact aa (wE ok h2 hn (B:=⟨false,b1,b2,b3⟩) (v:=⟨k0,k1,26,13,y0,y1,x0,x1⟩)) (nx (.k1_3_0 1 _ (by decide) rfl rfl) (by decide) (fun _=>by decide))
    ·exact aa (wF ok h2 hn (B:=⟨true,b1,b2,b3⟩) (v:=⟨k0,k1,26,13,y0,y1,x0,x1⟩)) (nx (.k1_3_0 0 _ (by decide) rfl rfl) (by decide) (fun _=>by decide))
theorem Nn (h:n0≤0) (h0:v.L0=26+14*n0) (h1:v.L1=13+14*(0 - n0)) (hn:n≤6):Do ao (ad X W (f2 i n) (gA B v) 89) (Exit.then (Nx X W B 4 i n 11) Q):=by
 rcases Nat.lt_or_ge n 3 with h2 | h2
 ·match n,h2 with
  | 0,_=>exact aa (Dy ok) (nx (.k0_4_3 n0 v h h0 h1) (by decide) (by decide))
  | 1,_=>exact aa (Dz ok) (nx (.k0_4_4 n0 v h h0 h1) (by decide) (by decide))
  | 2,_=>exact aa (DA ok) (nx (.k0_4_5 n0 v h h0 h1) (by decide) (by decide))
 ·obtain ⟨k0,k1,L0,L1,y0,y1,x0,x1⟩:=v
  obtain ⟨b0,b1,b2,b3⟩:=B
  match n0,h with
  | 0,_=>
    obtain rfl:L0=26:=h0
    obtain rfl:L1=13:=h1
    cases b0
    ·exact aa (wG ok h2 hn (B:=⟨false,b1,b2,b3⟩) (v:=⟨k0,k1,26,13,y0,y1,x0,x1⟩)) (nx (.k1_3_0 1 _ (by decide) rfl rfl) (by decide) (fun _=>by decide))
    ·exact aa (wH ok h2 hn (B:=⟨true,b1,b2,b3⟩) (v:=⟨k0,k1,26,13,y0,y1,x0,x1⟩)) (nx (.k1_3_0 0 _ (by decide) rfl rfl) (by decide) (fun _=>by decide))
theorem No (h:n0≤0) (h0:v.L0=26+14*n0) (h1:v.L1=13+14*(0 - n0)) (hn:n≤6):Do ao (ad X W (f2 i n) (gB B v) 92) (Exit.then (Nx X W B 4 i n 10) Q):=by
 rcases Nat.lt_or_ge n 2 with h2 | h2
 ·match n,h2 with
  | 0,_=>exact aa (DB ok) (nx (.k0_4_4 n0 v h h0 h1) (by decide) (by decide))
  | 1,_=>exact aa (DC ok) (nx (.k0_4_5 n0 v h h0 h1) (by decide) (by decide))
 ·obtain ⟨k0,k1,L0,L1,y0,y1,x0,x1⟩:=v
  obtain ⟨b0,b1,b2,b3⟩:=B
  match n0,h with
  | 0,_=>
    obtain rfl:L0=26:=h0
    obtain rfl:L1=13:=h1
    cases b0
    ·exact aa (wI ok h2 hn (B:=⟨false,b1,b2,b3⟩) (v:=⟨k0,k1,26,13,y0,y1,x0,x1⟩)) (nx (.k1_3_0 1 _ (by decide) rfl rfl) (by decide) (fun _=>by decide))
    ·exact aa (wJ ok h2 hn (B:=⟨true,b1,b2,b3⟩) (v:=⟨k0,k1,26,13,y0,y1,x0,x1⟩)) (nx (.k1_3_0 0 _ (by decide) rfl rfl) (by decide) (fun _=>by decide))
theorem Np (h:n0≤0) (h0:v.L0=26+14*n0) (h1:v.L1=13+14*(0 - n0)) (hn:n≤6):Do ao (ad X W (f2 i n) (gC B v) 92) (Exit.then (Nx X W B 4 i n 10) Q):=by
 rcases Nat.lt_or_ge n 1 with h2 | h2
 ·match n,h2 with
  | 0,_=>exact aa (DD ok) (nx (.k0_4_5 n0 v h h0 h1) (by decide) (by decide))
 ·obtain ⟨k0,k1,L0,L1,y0,y1,x0,x1⟩:=v
  obtain ⟨b0,b1,b2,b3⟩:=B
  match n0,h with
  | 0,_=>
    obtain rfl:L0=26:=h0
    obtain rfl:L1=13:=h1
    cases b0
    ·exact aa (wK ok h2 hn (B:=⟨false,b1,b2,b3⟩) (v:=⟨k0,k1,26,13,y0,y1,x0,x1⟩)) (nx (.k1_3_0 1 _ (by decide) rfl rfl) (by decide) (fun _=>by decide))
    ·exact aa (wL ok h2 hn (B:=⟨true,b1,b2,b3⟩) (v:=⟨k0,k1,26,13,y0,y1,x0,x1⟩)) (nx (.k1_3_0 0 _ (by decide) rfl rfl) (by decide) (fun _=>by decide))
theorem Nq (h:n0≤1) (h0:v.L0=26+14*n0) (h1:v.L1=13+14*(1 - n0)) (hn:n≤6):Do ao (ad X W (f2 i n) (cK B v) 73) (Exit.then (Nx X W B 1 i n 0) Q):=by
 exact aa (z1 ok) (nx (.k1_0_0 n0 v h h0 h1) (by decide) (fun _=>by decide))
theorem Nr (h:n0≤1) (h0:v.L0=26+14*n0) (h1:v.L1=13+14*(1 - n0)) (hn:n≤6):Do ao (ad X W (f2 i n) (bM B v) 81) (Exit.then (Nx X W B 2 i n 3) Q):=by
 rcases Nat.lt_or_ge n 6 with h2 | h2
 ·match n,h2 with
  | 0,_=>exact aa (DE ok) (nx (.k1_1_0 n0 v h h0 h1) (by decide) (by decide))
  | 1,_=>exact aa (DF ok) (nx (.k1_1_1 n0 v h h0 h1) (by decide) (by decide))
  | 2,_=>exact aa (DG ok) (nx (.k1_1_2 n0 v h h0 h1) (by decide) (by decide))
  | 3,_=>exact aa (DH ok) (nx (.k1_1_3 n0 v h h0 h1) (by decide) (by decide))
  | 4,_=>exact aa (DI ok) (nx (.k1_1_4 n0 v h h0 h1) (by decide) (by decide))
  | 5,_=>exact aa (DJ ok) (nx (.k1_1_5 n0 v h h0 h1) (by decide) (by decide))
 ·obtain ⟨k0,k1,L0,L1,y0,y1,x0,x1⟩:=v
  obtain ⟨b0,b1,b2,b3⟩:=B
  obtain rfl:n=6:=by omega
  match n0,h with
  | 0,_=>
    obtain rfl:L0=26:=h0
    obtain rfl:L1=27:=h1
    cases b1
    ·exact aa (wM ok (B:=⟨b0,false,b2,b3⟩) (v:=⟨k0,k1,26,27,y0,y1,x0,x1⟩)) (nx (.k2_0_0 1 _ (by decide) rfl rfl) (by decide) (fun _=>by decide))
    ·exact aa (wN ok (B:=⟨b0,true,b2,b3⟩) (v:=⟨k0,k1,26,27,y0,y1,x0,x1⟩)) (nx (.k2_0_0 0 _ (by decide) rfl rfl) (by decide) (fun _=>by decide))
  | 1,_=>
    obtain rfl:L0=40:=h0
    obtain rfl:L1=13:=h1
    cases b1
    ·exact aa (wO ok (B:=⟨b0,false,b2,b3⟩) (v:=⟨k0,k1,40,13,y0,y1,x0,x1⟩)) (nx (.k2_0_0 2 _ (by decide) rfl rfl) (by decide) (fun _=>by decide))
    ·exact aa (wP ok (B:=⟨b0,true,b2,b3⟩) (v:=⟨k0,k1,40,13,y0,y1,x0,x1⟩)) (nx (.k2_0_0 1 _ (by decide) rfl rfl) (by decide) (fun _=>by decide))
theorem Ns (h:n0≤1) (h0:v.L0=26+14*n0) (h1:v.L1=13+14*(1 - n0)) (hn:n≤6):Do ao (ad X W (f2 i n) (eR B v) 82) (Exit.then (Nx X W B 2 i n 3) Q):=by
 rcases Nat.lt_or_ge n 5 with h2 | h2
 ·match n,h2 with
  | 0,_=>exact aa (DK ok) (nx (.k1_1_1 n0 v h h0 h1) (by decide) (by decide))
  | 1,_=>exact aa (DL ok) (nx (.k1_1_2 n0 v h h0 h1) (by decide) (by decide))
  | 2,_=>exact aa (DM ok) (nx (.k1_1_3 n0 v h h0 h1) (by decide) (by decide))
  | 3,_=>exact aa (DN ok) (nx (.k1_1_4 n0 v h h0 h1) (by decide) (by decide))
  | 4,_=>exact aa (DO ok) (nx (.k1_1_5 n0 v h h0 h1) (by decide) (by decide))
 ·obtain ⟨k0,k1,L0,L1,y0,y1,x0,x1⟩:=v
  obtain ⟨b0,b1,b2,b3⟩:=B
  match n0,h with
  | 0,_=>
    obtain rfl:L0=26:=h0
    obtain rfl:L1=27:=h1
    cases b1
    ·exact aa (wQ ok h2 hn (B:=⟨b0,false,b2,b3⟩) (v:=⟨k0,k1,26,27,y0,y1,x0,x1⟩)) (nx (.k2_0_0 1 _ (by decide) rfl rfl) (by decide) (fun _=>by decide))
    ·exact aa (wR ok h2 hn (B:=⟨b0,true,b2,b3⟩) (v:=⟨k0,k1,26,27,y0,y1,x0,x1⟩)) (nx (.k2_0_0 0 _ (by decide) rfl rfl) (by decide) (fun _=>by decide))
  | 1,_=>
    obtain rfl:L0=40:=h0
    obtain rfl:L1=13:=h1
    cases b1
    ·exact aa (wS ok h2 hn (B:=⟨b0,false,b2,b3⟩) (v:=⟨k0,k1,40,13,y0,y1,x0,x1⟩)) (nx (.k2_0_0 2 _ (by decide) rfl rfl) (by decide) (fun _=>by decide))
    ·exact aa (wT ok h2 hn (B:=⟨b0,true,b2,b3⟩) (v:=⟨k0,k1,40,13,y0,y1,x0,x1⟩)) (nx (.k2_0_0 1 _ (by decide) rfl rfl) (by decide) (fun _=>by decide))
theorem Nt (h:n0≤1) (h0:v.L0=26+14*n0) (h1:v.L1=13+14*(1 - n0)) (hn:n≤6):Do ao (ad X W (f2 i n) (eS B v) 82) (Exit.then (Nx X W B 2 i n 2) Q):=by
 rcases Nat.lt_or_ge n 4 with h2 | h2
 ·match n,h2 with
  | 0,_=>exact aa (DP ok) (nx (.k1_1_2 n0 v h h0 h1) (by decide) (by decide))
  | 1,_=>exact aa (DQ ok) (nx (.k1_1_3 n0 v h h0 h1) (by decide) (by decide))
  | 2,_=>exact aa (DR ok) (nx (.k1_1_4 n0 v h h0 h1) (by decide) (by decide))
  | 3,_=>exact aa (DT ok) (nx (.k1_1_5 n0 v h h0 h1) (by decide) (by decide))
 ·obtain ⟨k0,k1,L0,L1,y0,y1,x0,x1⟩:=v
  obtain ⟨b0,b1,b2,b3⟩:=B
  match n0,h with
  | 0,_=>
    obtain rfl:L0=26:=h0
    obtain rfl:L1=27:=h1
    cases b1
    ·exact aa (wU ok h2 hn (B:=⟨b0,false,b2,b3⟩) (v:=⟨k0,k1,26,27,y0,y1,x0,x1⟩)) (nx (.k2_0_0 1 _ (by decide) rfl rfl) (by decide) (fun _=>by decide))
    ·exact aa (wV ok h2 hn (B:=⟨b0,true,b2,b3⟩) (v:=⟨k0,k1,26,27,y0,y1,x0,x1⟩)) (nx (.k2_0_0 0 _ (by decide) rfl rfl) (by decide) (fun _=>by decide))
  | 1,_=>
    obtain rfl:L0=40:=h0
    obtain rfl:L1=13:=h1
    cases b1
    ·exact aa (wW ok h2 hn (B:=⟨b0,false,b2,b3⟩) (v:=⟨k0,k1,40,13,y0,y1,x0,x1⟩)) (nx (.k2_0_0 2 _ (by decide) rfl rfl) (by decide) (fun _=>by decide))
    ·exact aa (wX ok h2 hn (B:=⟨b0,true,b2,b3⟩) (v:=⟨k0,k1,40,13,y0,y1,x0,x1⟩)) (nx (.k2_0_0 1 _ (by decide) rfl rfl) (by decide) (fun _=>by decide))
theorem Nu (h:n0≤1) (h0:v.L0=26+14*n0) (h1:v.L1=13+14*(1 - n0)) (hn:n≤6):Do ao (ad X W (f2 i n) (eT B v) 82) (Exit.then (Nx X W B 2 i n 2) Q):=by
 rcases Nat.lt_or_ge n 3 with h2 | h2
 ·match n,h2 with
  | 0,_=>exact aa (DU ok) (nx (.k1_1_3 n0 v h h0 h1) (by decide) (by decide))
  | 1,_=>exact aa (DV ok) (nx (.k1_1_4 n0 v h h0 h1) (by decide) (by decide))
  | 2,_=>exact aa (DW ok) (nx (.k1_1_5 n0 v h h0 h1) (by decide) (by decide))
 ·obtain ⟨k0,k1,L0,L1,y0,y1,x0,x1⟩:=v
  obtain ⟨b0,b1,b2,b3⟩:=B
  match n0,h with
  | 0,_=>
    obtain rfl:L0=26:=h0
    obtain rfl:L1=27:=h1
    cases b1
    ·exact aa (wY ok h2 hn (B:=⟨b0,false,b2,b3⟩) (v:=⟨k0,k1,26,27,y0,y1,x0,x1⟩)) (nx (.k2_0_0 1 _ (by decide) rfl rfl) (by decide) (fun _=>by decide))
    ·exact aa (wZ ok h2 hn (B:=⟨b0,true,b2,b3⟩) (v:=⟨k0,k1,26,27,y0,y1,x0,x1⟩)) (nx (.k2_0_0 0 _ (by decide) rfl rfl) (by decide) (fun _=>by decide))
  | 1,_=>
    obtain rfl:L0=40:=h0
    obtain rfl:L1=13:=h1
    cases b1
    ·exact aa (w5 ok h2 hn (B:=⟨b0,false,b2,b3⟩) (v:=⟨k0,k1,40,13,y0,y1,x0,x1⟩)) (nx (.k2_0_0 2 _ (by decide) rfl rfl) (by decide) (fun _=>by decide))
    ·exact aa (w6 ok h2 hn (B:=⟨b0,true,b2,b3⟩) (v:=⟨k0,k1,40,13,y0,y1,x0,x1⟩)) (nx (.k2_0_0 1 _ (by decide) rfl rfl) (by decide) (fun _=>by decide))
theorem Nv (h:n0≤1) (h0:v.L0=26+14*n0) (h1:v.L1=13+14*(1 - n0)) (hn:n≤6):Do ao (ad X W (f2 i n) (eU B v) 85) (Exit.then (Nx X W B 2 i n 1) Q):=by
 rcases Nat.lt_or_ge n 2 with h2 | h2
 ·match n,h2 with
  | 0,_=>exact aa (DX ok) (nx (.k1_1_4 n0 v h h0 h1) (by decide) (by decide))
  | 1,_=>exact aa (DY ok) (nx (.k1_1_5 n0 v h h0 h1) (by decide) (by decide))
 ·obtain ⟨k0,k1,L0,L1,y0,y1,x0,x1⟩:=v
  obtain ⟨b0,b1,b2,b3⟩:=B
  match n0,h with
  | 0,_=>
    obtain rfl:L0=26:=h0
    obtain rfl:L1=27:=h1
    cases b1
    ·exact aa (w7 ok h2 hn (B:=⟨b0,false,b2,b3⟩) (v:=⟨k0,k1,26,27,y0,y1,x0,x1⟩)) (nx (.k2_0_0 1 _ (by decide) rfl rfl) (by decide) (fun _=>by decide))
    ·exact aa (w8 ok h2 hn (B:=⟨b0,true,b2,b3⟩) (v:=⟨k0,k1,26,27,y0,y1,x0,x1⟩)) (nx (.k2_0_0 0 _ (by decide) rfl rfl) (by decide) (fun _=>by decide))
  | 1,_=>
    obtain rfl:L0=40:=h0
    obtain rfl:L1=13:=h1
    cases b1
    ·exact aa (w9 ok h2 hn (B:=⟨b0,false,b2,b3⟩) (v:=⟨k0,k1,40,13,y0,y1,x0,x1⟩)) (nx (.k2_0_0 2 _ (by decide) rfl rfl) (by decide) (fun _=>by decide))
    ·exact aa (w_ ok h2 hn (B:=⟨b0,true,b2,b3⟩) (v:=⟨k0,k1,40,13,y0,y1,x0,x1⟩)) (nx (.k2_0_0 1 _ (by decide) rfl rfl) (by decide) (fun _=>by decide))
theorem Nw (h:n0≤1) (h0:v.L0=26+14*n0) (h1:v.L1=13+14*(1 - n0)) (hn:n≤6):Do ao (ad X W (f2 i n) (eV B v) 85) (Exit.then (Nx X W B 2 i n 1) Q):=by
 rcases Nat.lt_or_ge n 1 with h2 | h2
 ·match n,h2 with
  | 0,_=>exact aa (DZ ok) (nx (.k1_1_5 n0 v h h0 h1) (by decide) (by decide))
 ·obtain ⟨k0,k1,L0,L1,y0,y1,x0,x1⟩:=v
  obtain ⟨b0,b1,b2,b3⟩:=B
  match n0,h with
  | 0,_=>
    obtain rfl:L0=26:=h0
    obtain rfl:L1=27:=h1
    cases b1
    ·exact aa (xa ok h2 hn (B:=⟨b0,false,b2,b3⟩) (v:=⟨k0,k1,26,27,y0,y1,x0,x1⟩)) (nx (.k2_0_0 1 _ (by decide) rfl rfl) (by decide) (fun _=>by decide))
    ·exact aa (xb ok h2 hn (B:=⟨b0,true,b2,b3⟩) (v:=⟨k0,k1,26,27,y0,y1,x0,x1⟩)) (nx (.k2_0_0 0 _ (by decide) rfl rfl) (by decide) (fun _=>by decide))
  | 1,_=>
    obtain rfl:L0=40:=h0
    obtain rfl:L1=13:=h1
    cases b1
    ·exact aa (xc ok h2 hn (B:=⟨b0,false,b2,b3⟩) (v:=⟨k0,k1,40,13,y0,y1,x0,x1⟩)) (nx (.k2_0_0 2 _ (by decide) rfl rfl) (by decide) (fun _=>by decide))
    ·exact aa (xd ok h2 hn (B:=⟨b0,true,b2,b3⟩) (v:=⟨k0,k1,40,13,y0,y1,x0,x1⟩)) (nx (.k2_0_0 1 _ (by decide) rfl rfl) (by decide) (fun _=>by decide))
theorem Ny (h:n0≤1) (h0:v.L0=26+14*n0) (h1:v.L1=13+14*(1 - n0)) (hn:n≤6):Do ao (ad X W (f2 i n) (bN B v) 84) (Exit.then (Nx X W B 3 i n 6) Q):=by
 rcases Nat.lt_or_ge n 6 with h2 | h2
 ·match n,h2 with
  | 0,_=>exact aa (D3 ok) (nx (.k1_2_0 n0 v h h0 h1) (by decide) (by decide))
  | 1,_=>exact aa (D4 ok) (nx (.k1_2_1 n0 v h h0 h1) (by decide) (by decide))
  | 2,_=>exact aa (D5 ok) (nx (.k1_2_2 n0 v h h0 h1) (by decide) (by decide))
  | 3,_=>exact aa (D6 ok) (nx (.k1_2_3 n0 v h h0 h1) (by decide) (by decide))
  | 4,_=>exact aa (D7 ok) (nx (.k1_2_4 n0 v h h0 h1) (by decide) (by decide))
  | 5,_=>exact aa (D8 ok) (nx (.k1_2_5 n0 v h h0 h1) (by decide) (by decide))
 ·obtain ⟨k0,k1,L0,L1,y0,y1,x0,x1⟩:=v
  obtain ⟨b0,b1,b2,b3⟩:=B
  obtain rfl:n=6:=by omega
  match n0,h with
  | 0,_=>
    obtain rfl:L0=26:=h0
    obtain rfl:L1=27:=h1
    cases b1
    ·exact aa (xe ok (B:=⟨b0,false,b2,b3⟩) (v:=⟨k0,k1,26,27,y0,y1,x0,x1⟩)) (nx (.k2_1_0 1 _ (by decide) rfl rfl) (by decide) (fun _=>by decide))
    ·exact aa (xf ok (B:=⟨b0,true,b2,b3⟩) (v:=⟨k0,k1,26,27,y0,y1,x0,x1⟩)) (nx (.k2_1_0 0 _ (by decide) rfl rfl) (by decide) (fun _=>by decide))
  | 1,_=>
    obtain rfl:L0=40:=h0
    obtain rfl:L1=13:=h1
    cases b1
    ·exact aa (xg ok (B:=⟨b0,false,b2,b3⟩) (v:=⟨k0,k1,40,13,y0,y1,x0,x1⟩)) (nx (.k2_1_0 2 _ (by decide) rfl rfl) (by decide) (fun _=>by decide))
    ·exact aa (xi ok (B:=⟨b0,true,b2,b3⟩) (v:=⟨k0,k1,40,13,y0,y1,x0,x1⟩)) (nx (.k2_1_0 1 _ (by decide) rfl rfl) (by decide) (fun _=>by decide))
theorem Nz (h:n0≤1) (h0:v.L0=26+14*n0) (h1:v.L1=13+14*(1 - n0)) (hn:n≤6):Do ao (ad X W (f2 i n) (eX B v) 85) (Exit.then (Nx X W B 3 i n 6) Q):=by
 rcases Nat.lt_or_ge n 5 with h2 | h2
 ·match n,h2 with
  | 0,_=>exact aa (D9 ok) (nx (.k1_2_1 n0 v h h0 h1) (by decide) (by decide))
  | 1,_=>exact aa (D_ ok) (nx (.k1_2_2 n0 v h h0 h1) (by decide) (by decide))
  | 2,_=>exact aa (Ea ok) (nx (.k1_2_3 n0 v h h0 h1) (by decide) (by decide))
  | 3,_=>exact aa (Eb ok) (nx (.k1_2_4 n0 v h h0 h1) (by decide) (by decide))
  | 4,_=>exact aa (Ec ok) (nx (.k1_2_5 n0 v h h0 h1) (by decide) (by decide))
 ·obtain ⟨k0,k1,L0,L1,y0,y1,x0,x1⟩:=v
  obtain ⟨b0,b1,b2,b3⟩:=B
  match n0,h with
  | 0,_=>
    obtain rfl:L0=26:=h0
    obtain rfl:L1=27:=h1
    cases b1
    ·exact aa (xj ok h2 hn (B:=⟨b0,false,b2,b3⟩) (v:=⟨k0,k1,26,27,y0,y1,x0,x1⟩)) (nx (.k2_1_0 1 _ (by decide) rfl rfl) (by decide) (fun _=>by decide))
    ·exact aa (xk ok h2 hn (B:=⟨b0,true,b2,b3⟩) (v:=⟨k0,k1,26,27,y0,y1,x0,x1⟩)) (nx (.k2_1_0 0 _ (by decide) rfl rfl) (by decide) (fun _=>by decide))
  | 1,_=>
    obtain rfl:L0=40:=h0
    obtain rfl:L1=13:=h1
    cases b1
    ·exact aa (xn ok h2 hn (B:=⟨b0,false,b2,b3⟩) (v:=⟨k0,k1,40,13,y0,y1,x0,x1⟩)) (nx (.k2_1_0 2 _ (by decide) rfl rfl) (by decide) (fun _=>by decide))
    ·exact aa (xo ok h2 hn (B:=⟨b0,true,b2,b3⟩) (v:=⟨k0,k1,40,13,y0,y1,x0,x1⟩)) (nx (.k2_1_0 1 _ (by decide) rfl rfl) (by decide) (fun _=>by decide))
theorem NA (h:n0≤1) (h0:v.L0=26+14*n0) (h1:v.L1=13+14*(1 - n0)) (hn:n≤6):Do ao (ad X W (f2 i n) (eY B v) 85) (Exit.then (Nx X W B 3 i n 5) Q):=by
 rcases Nat.lt_or_ge n 4 with h2 | h2
 ·match n,h2 with
  | 0,_=>exact aa (Ed ok) (nx (.k1_2_2 n0 v h h0 h1) (by decide) (by decide))
  | 1,_=>exact aa (Ee ok) (nx (.k1_2_3 n0 v h h0 h1) (by decide) (by decide))
  | 2,_=>exact aa (Ef ok) (nx (.k1_2_4 n0 v h h0 h1) (by decide) (by decide))
  | 3,_=>exact aa (Eg ok) (nx (.k1_2_5 n0 v h h0 h1) (by decide) (by decide))
 ·obtain ⟨k0,k1,L0,L1,y0,y1,x0,x1⟩:=v
  obtain ⟨b0,b1,b2,b3⟩:=B
  match n0,h with
  | 0,_=>
    obtain rfl:L0=26:=h0
    obtain rfl:L1=27:=h1
    cases b1
    ·exact aa (xp ok h2 hn (B:=⟨b0,false,b2,b3⟩) (v:=⟨k0,k1,26,27,y0,y1,x0,x1⟩)) (nx (.k2_1_0 1 _ (by decide) rfl rfl) (by decide) (fun _=>by decide))
    ·exact aa (xq ok h2 hn (B:=⟨b0,true,b2,b3⟩) (v:=⟨k0,k1,26,27,y0,y1,x0,x1⟩)) (nx (.k2_1_0 0 _ (by decide) rfl rfl) (by decide) (fun _=>by decide))
  | 1,_=>
    obtain rfl:L0=40:=h0
    obtain rfl:L1=13:=h1
    cases b1
    ·exact aa (xr ok h2 hn (B:=⟨b0,false,b2,b3⟩) (v:=⟨k0,k1,40,13,y0,y1,x0,x1⟩)) (nx (.k2_1_0 2 _ (by decide) rfl rfl) (by decide) (fun _=>by decide))
    ·exact aa (xu ok h2 hn (B:=⟨b0,true,b2,b3⟩) (v:=⟨k0,k1,40,13,y0,y1,x0,x1⟩)) (nx (.k2_1_0 1 _ (by decide) rfl rfl) (by decide) (fun _=>by decide))
theorem NB (h:n0≤1) (h0:v.L0=26+14*n0) (h1:v.L1=13+14*(1 - n0)) (hn:n≤6):Do ao (ad X W (f2 i n) (eZ B v) 85) (Exit.then (Nx X W B 3 i n 5) Q):=by
 rcases Nat.lt_or_ge n 3 with h2 | h2
 ·match n,h2 with
  | 0,_=>exact aa (Eh ok) (nx (.k1_2_3 n0 v h h0 h1) (by decide) (by decide))
  | 1,_=>exact aa (Ei ok) (nx (.k1_2_4 n0 v h h0 h1) (by decide) (by decide))
  | 2,_=>exact aa (Ej ok) (nx (.k1_2_5 n0 v h h0 h1) (by decide) (by decide))
 ·obtain ⟨k0,k1,L0,L1,y0,y1,x0,x1⟩:=v
  obtain ⟨b0,b1,b2,b3⟩:=B
  match n0,h with
  | 0,_=>
    obtain rfl:L0=26:=h0
    obtain rfl:L1=27:=h1
    cases b1
    ·exact aa (xw ok h2 hn (B:=⟨b0,false,b2,b3⟩) (v:=⟨k0,k1,26,27,y0,y1,x0,x1⟩)) (nx (.k2_1_0 1 _ (by decide) rfl rfl) (by decide) (fun _=>by decide))
    ·exact aa (xx ok h2 hn (B:=⟨b0,true,b2,b3⟩) (v:=⟨k0,k1,26,27,y0,y1,x0,x1⟩)) (nx (.k2_1_0 0 _ (by decide) rfl rfl) (by decide) (fun _=>by decide))
  | 1,_=>
    obtain rfl:L0=40:=h0
    obtain rfl:L1=13:=h1
    cases b1
    ·exact aa (xy ok h2 hn (B:=⟨b0,false,b2,b3⟩) (v:=⟨k0,k1,40,13,y0,y1,x0,x1⟩)) (nx (.k2_1_0 2 _ (by decide) rfl rfl) (by decide) (fun _=>by decide))
    ·exact aa (xA ok h2 hn (B:=⟨b0,true,b2,b3⟩) (v:=⟨k0,k1,40,13,y0,y1,x0,x1⟩)) (nx (.k2_1_0 1 _ (by decide) rfl rfl) (by decide) (fun _=>by decide))
theorem NC (h:n0≤1) (h0:v.L0=26+14*n0) (h1:v.L1=13+14*(1 - n0)) (hn:n≤6):Do ao (ad X W (f2 i n) (e_ B v) 88) (Exit.then (Nx X W B 3 i n 4) Q):=by
 rcases Nat.lt_or_ge n 2 with h2 | h2
 ·match n,h2 with
  | 0,_=>exact aa (Ek ok) (nx (.k1_2_4 n0 v h h0 h1) (by decide) (by decide))
  | 1,_=>exact aa (El ok) (nx (.k1_2_5 n0 v h h0 h1) (by decide) (by decide))
 ·obtain ⟨k0,k1,L0,L1,y0,y1,x0,x1⟩:=v
  obtain ⟨b0,b1,b2,b3⟩:=B
  match n0,h with
  | 0,_=>
    obtain rfl:L0=26:=h0
    obtain rfl:L1=27:=h1
    cases b1
    ·exact aa (xB ok h2 hn (B:=⟨b0,false,b2,b3⟩) (v:=⟨k0,k1,26,27,y0,y1,x0,x1⟩)) (nx (.k2_1_0 1 _ (by decide) rfl rfl) (by decide) (fun _=>by decide))
    ·exact aa (xC ok h2 hn (B:=⟨b0,true,b2,b3⟩) (v:=⟨k0,k1,26,27,y0,y1,x0,x1⟩)) (nx (.k2_1_0 0 _ (by decide) rfl rfl) (by decide) (fun _=>by decide))
  | 1,_=>
    obtain rfl:L0=40:=h0
    obtain rfl:L1=13:=h1
    cases b1
    ·exact aa (xD ok h2 hn (B:=⟨b0,false,b2,b3⟩) (v:=⟨k0,k1,40,13,y0,y1,x0,x1⟩)) (nx (.k2_1_0 2 _ (by decide) rfl rfl) (by decide) (fun _=>by decide))
    ·exact aa (xE ok h2 hn (B:=⟨b0,true,b2,b3⟩) (v:=⟨k0,k1,40,13,y0,y1,x0,x1⟩)) (nx (.k2_1_0 1 _ (by decide) rfl rfl) (by decide) (fun _=>by decide))
theorem ND (h:n0≤1) (h0:v.L0=26+14*n0) (h1:v.L1=13+14*(1 - n0)) (hn:n≤6):Do ao (ad X W (f2 i n) (fe B v) 88) (Exit.then (Nx X W B 3 i n 4) Q):=by
 rcases Nat.lt_or_ge n 1 with h2 | h2
 ·match n,h2 with
  | 0,_=>exact aa (Em ok) (nx (.k1_2_5 n0 v h h0 h1) (by decide) (by decide))
 ·obtain ⟨k0,k1,L0,L1,y0,y1,x0,x1⟩:=v
  obtain ⟨b0,b1,b2,b3⟩:=B
  match n0,h with
  | 0,_=>
    obtain rfl:L0=26:=h0
    obtain rfl:L1=27:=h1
    cases b1
    ·exact aa (xF ok h2 hn (B:=⟨b0,false,b2,b3⟩) (v:=⟨k0,k1,26,27,y0,y1,x0,x1⟩)) (nx (.k2_1_0 1 _ (by decide) rfl rfl) (by decide) (fun _=>by decide))
    ·exact aa (xG ok h2 hn (B:=⟨b0,true,b2,b3⟩) (v:=⟨k0,k1,26,27,y0,y1,x0,x1⟩)) (nx (.k2_1_0 0 _ (by decide) rfl rfl) (by decide) (fun _=>by decide))
  | 1,_=>
    obtain rfl:L0=40:=h0
    obtain rfl:L1=13:=h1
    cases b1
    ·exact aa (xH ok h2 hn (B:=⟨b0,false,b2,b3⟩) (v:=⟨k0,k1,40,13,y0,y1,x0,x1⟩)) (nx (.k2_1_0 2 _ (by decide) rfl rfl) (by decide) (fun _=>by decide))
    ·exact aa (xI ok h2 hn (B:=⟨b0,true,b2,b3⟩) (v:=⟨k0,k1,40,13,y0,y1,x0,x1⟩)) (nx (.k2_1_0 1 _ (by decide) rfl rfl) (by decide) (fun _=>by decide))
theorem NF (h:n0≤1) (h0:v.L0=26+14*n0) (h1:v.L1=13+14*(1 - n0)) (hn:n≤6):Do ao (ad X W (f2 i n) (bO B v) 87) (Exit.then (Nx X W B 4 i n 9) Q):=by
 rcases Nat.lt_or_ge n 6 with h2 | h2
 ·match n,h2 with
  | 0,_=>exact aa (En ok) (nx (.k1_3_0 n0 v h h0 h1) (by decide) (by decide))
  | 1,_=>exact aa (Eo ok) (nx (.k1_3_1 n0 v h h0 h1) (by decide) (by decide))
  | 2,_=>exact aa (Ep ok) (nx (.k1_3_2 n0 v h h0 h1) (by decide) (by decide))
  | 3,_=>exact aa (Er ok) (nx (.k1_3_3 n0 v h h0 h1) (by decide) (by decide))
  | 4,_=>exact aa (Es ok) (nx (.k1_3_4 n0 v h h0 h1) (by decide) (by decide))
  | 5,_=>exact aa (Et ok) (nx (.k1_3_5 n0 v h h0 h1) (by decide) (by decide))
 ·obtain ⟨k0,k1,L0,L1,y0,y1,x0,x1⟩:=v
  obtain ⟨b0,b1,b2,b3⟩:=B
  obtain rfl:n=6:=by omega
  match n0,h with
  | 0,_=>
    obtain rfl:L0=26:=h0
    obtain rfl:L1=27:=h1
    cases b1
    ·exact aa (xJ ok (B:=⟨b0,false,b2,b3⟩) (v:=⟨k0,k1,26,27,y0,y1,x0,x1⟩)) (nx (.k2_2_0 1 _ (by decide) rfl rfl) (by decide) (fun _=>by decide))
    ·exact aa (xK ok (B:=⟨b0,true,b2,b3⟩) (v:=⟨k0,k1,26,27,y0,y1,x0,x1⟩)) (nx (.k2_2_0 0 _ (by decide) rfl rfl) (by decide) (fun _=>by decide))
  | 1,_=>
    obtain rfl:L0=40:=h0
    obtain rfl:L1=13:=h1
    cases b1
    ·exact aa (xL ok (B:=⟨b0,false,b2,b3⟩) (v:=⟨k0,k1,40,13,y0,y1,x0,x1⟩)) (nx (.k2_2_0 2 _ (by decide) rfl rfl) (by decide) (fun _=>by decide))
    ·exact aa (xM ok (B:=⟨b0,true,b2,b3⟩) (v:=⟨k0,k1,40,13,y0,y1,x0,x1⟩)) (nx (.k2_2_0 1 _ (by decide) rfl rfl) (by decide) (fun _=>by decide))
theorem NG (h:n0≤1) (h0:v.L0=26+14*n0) (h1:v.L1=13+14*(1 - n0)) (hn:n≤6):Do ao (ad X W (f2 i n) (fg B v) 88) (Exit.then (Nx X W B 4 i n 9) Q):=by
 rcases Nat.lt_or_ge n 5 with h2 | h2
 ·match n,h2 with
  | 0,_=>exact aa (Eu ok) (nx (.k1_3_1 n0 v h h0 h1) (by decide) (by decide))
  | 1,_=>exact aa (Ew ok) (nx (.k1_3_2 n0 v h h0 h1) (by decide) (by decide))
  | 2,_=>exact aa (Ex ok) (nx (.k1_3_3 n0 v h h0 h1) (by decide) (by decide))
  | 3,_=>exact aa (Ey ok) (nx (.k1_3_4 n0 v h h0 h1) (by decide) (by decide))
  | 4,_=>exact aa (Ez ok) (nx (.k1_3_5 n0 v h h0 h1) (by decide) (by decide))
 ·obtain ⟨k0,k1,L0,L1,y0,y1,x0,x1⟩:=v
  obtain ⟨b0,b1,b2,b3⟩:=B
  match n0,h with
  | 0,_=>
    obtain rfl:L0=26:=h0
    obtain rfl:L1=27:=h1
    cases b1
    ·exact aa (xN ok h2 hn (B:=⟨b0,false,b2,b3⟩) (v:=⟨k0,k1,26,27,y0,y1,x0,x1⟩)) (nx (.k2_2_0 1 _ (by decide) rfl rfl) (by decide) (fun _=>by decide))
    ·exact aa (xO ok h2 hn (B:=⟨b0,true,b2,b3⟩) (v:=⟨k0,k1,26,27,y0,y1,x0,x1⟩)) (nx (.k2_2_0 0 _ (by decide) rfl rfl) (by decide) (fun _=>by decide))
  | 1,_=>
    obtain rfl:L0=40:=h0
    obtain rfl:L1=13:=h1
    cases b1
    ·exact aa (xP ok h2 hn (B:=⟨b0,false,b2,b3⟩) (v:=⟨k0,k1,40,13,y0,y1,x0,x1⟩)) (nx (.k2_2_0 2 _ (by decide) rfl rfl) (by decide) (fun _=>by decide))
    ·exact aa (xQ ok h2 hn (B:=⟨b0,true,b2,b3⟩) (v:=⟨k0,k1,40,13,y0,y1,x0,x1⟩)) (nx (.k2_2_0 1 _ (by decide) rfl rfl) (by decide) (fun _=>by decide))
theorem NH (h:n0≤1) (h0:v.L0=26+14*n0) (h1:v.L1=13+14*(1 - n0)) (hn:n≤6):Do ao (ad X W (f2 i n) (fh B v) 88) (Exit.then (Nx X W B 4 i n 8) Q):=by
 rcases Nat.lt_or_ge n 4 with h2 | h2
 ·match n,h2 with
  | 0,_=>exact aa (EA ok) (nx (.k1_3_2 n0 v h h0 h1) (by decide) (by decide))
  | 1,_=>exact aa (EB ok) (nx (.k1_3_3 n0 v h h0 h1) (by decide) (by decide))
  | 2,_=>exact aa (EC ok) (nx (.k1_3_4 n0 v h h0 h1) (by decide) (by decide))
  | 3,_=>exact aa (ED ok) (nx (.k1_3_5 n0 v h h0 h1) (by decide) (by decide))
 ·obtain ⟨k0,k1,L0,L1,y0,y1,x0,x1⟩:=v
  obtain ⟨b0,b1,b2,b3⟩:=B
  match n0,h with
  | 0,_=>
    obtain rfl:L0=26:=h0
    obtain rfl:L1=27:=h1
    cases b1
    ·exact aa (xR ok h2 hn (B:=⟨b0,false,b2,b3⟩) (v:=⟨k0,k1,26,27,y0,y1,x0,x1⟩)) (nx (.k2_2_0 1 _ (by decide) rfl rfl) (by decide) (fun _=>by decide))
    ·exact aa (xS ok h2 hn (B:=⟨b0,true,b2,b3⟩) (v:=⟨k0,k1,26,27,y0,y1,x0,x1⟩)) (nx (.k2_2_0 0 _ (by decide) rfl rfl) (by decide) (fun _=>by decide))
  | 1,_=>
    obtain rfl:L0=40:=h0
    obtain rfl:L1=13:=h1
    cases b1
    ·exact aa (xT ok h2 hn (B:=⟨b0,false,b2,b3⟩) (v:=⟨k0,k1,40,13,y0,y1,x0,x1⟩)) (nx (.k2_2_0 2 _ (by decide) rfl rfl) (by decide) (fun _=>by decide))
    ·exact aa (xU ok h2 hn (B:=⟨b0,true,b2,b3⟩) (v:=⟨k0,k1,40,13,y0,y1,x0,x1⟩)) (nx (.k2_2_0 1 _ (by decide) rfl rfl) (by decide) (fun _=>by decide))
theorem NI (h:n0≤1) (h0:v.L0=26+14*n0) (h1:v.L1=13+14*(1 - n0)) (hn:n≤6):Do ao (ad X W (f2 i n) (fj B v) 88) (Exit.then (Nx X W B 4 i n 8) Q):=by
 rcases Nat.lt_or_ge n 3 with h2 | h2
 ·match n,h2 with
  | 0,_=>exact aa (EF ok) (nx (.k1_3_3 n0 v h h0 h1) (by decide) (by decide))
  | 1,_=>exact aa (EG ok) (nx (.k1_3_4 n0 v h h0 h1) (by decide) (by decide))
  | 2,_=>exact aa (EH ok) (nx (.k1_3_5 n0 v h h0 h1) (by decide) (by decide))
 ·obtain ⟨k0,k1,L0,L1,y0,y1,x0,x1⟩:=v
  obtain ⟨b0,b1,b2,b3⟩:=B
  match n0,h with
  | 0,_=>
    obtain rfl:L0=26:=h0
    obtain rfl:L1=27:=h1
    cases b1
    ·exact aa (xV ok h2 hn (B:=⟨b0,false,b2,b3⟩) (v:=⟨k0,k1,26,27,y0,y1,x0,x1⟩)) (nx (.k2_2_0 1 _ (by decide) rfl rfl) (by decide) (fun _=>by decide))
    ·exact aa (xW ok h2 hn (B:=⟨b0,true,b2,b3⟩) (v:=⟨k0,k1,26,27,y0,y1,x0,x1⟩)) (nx (.k2_2_0 0 _ (by decide) rfl rfl) (by decide) (fun _=>by decide))
  | 1,_=>
    obtain rfl:L0=40:=h0
    obtain rfl:L1=13:=h1
    cases b1
    ·exact aa (xX ok h2 hn (B:=⟨b0,false,b2,b3⟩) (v:=⟨k0,k1,40,13,y0,y1,x0,x1⟩)) (nx (.k2_2_0 2 _ (by decide) rfl rfl) (by decide) (fun _=>by decide))
    ·exact aa (xY ok h2 hn (B:=⟨b0,true,b2,b3⟩) (v:=⟨k0,k1,40,13,y0,y1,x0,x1⟩)) (nx (.k2_2_0 1 _ (by decide) rfl rfl) (by decide) (fun _=>by decide))
theorem NJ (h:n0≤1) (h0:v.L0=26+14*n0) (h1:v.L1=13+14*(1 - n0)) (hn:n≤6):Do ao (ad X W (f2 i n) (fk B v) 91) (Exit.then (Nx X W B 4 i n 7) Q):=by
 rcases Nat.lt_or_ge n 2 with h2 | h2
 ·match n,h2 with
  | 0,_=>exact aa (EI ok) (nx (.k1_3_4 n0 v h h0 h1) (by decide) (by decide))
  | 1,_=>exact aa (EJ ok) (nx (.k1_3_5 n0 v h h0 h1) (by decide) (by decide))
 ·obtain ⟨k0,k1,L0,L1,y0,y1,x0,x1⟩:=v
  obtain ⟨b0,b1,b2,b3⟩:=B
  match n0,h with
  | 0,_=>
    obtain rfl:L0=26:=h0
    obtain rfl:L1=27:=h1
    cases b1
    ·exact aa (xZ ok h2 hn (B:=⟨b0,false,b2,b3⟩) (v:=⟨k0,k1,26,27,y0,y1,x0,x1⟩)) (nx (.k2_2_0 1 _ (by decide) rfl rfl) (by decide) (fun _=>by decide))
    ·exact aa (x3 ok h2 hn (B:=⟨b0,true,b2,b3⟩) (v:=⟨k0,k1,26,27,y0,y1,x0,x1⟩)) (nx (.k2_2_0 0 _ (by decide) rfl rfl) (by decide) (fun _=>by decide))
  | 1,_=>
    obtain rfl:L0=40:=h0
    obtain rfl:L1=13:=h1
    cases b1
    ·exact aa (x4 ok h2 hn (B:=⟨b0,false,b2,b3⟩) (v:=⟨k0,k1,40,13,y0,y1,x0,x1⟩)) (nx (.k2_2_0 2 _ (by decide) rfl rfl) (by decide) (fun _=>by decide))
    ·exact aa (x5 ok h2 hn (B:=⟨b0,true,b2,b3⟩) (v:=⟨k0,k1,40,13,y0,y1,x0,x1⟩)) (nx (.k2_2_0 1 _ (by decide) rfl rfl) (by decide) (fun _=>by decide))
theorem NK (h:n0≤1) (h0:v.L0=26+14*n0) (h1:v.L1=13+14*(1 - n0)) (hn:n≤6):Do ao (ad X W (f2 i n) (fl B v) 91) (Exit.then (Nx X W B 4 i n 7) Q):=by
 rcases Nat.lt_or_ge n 1 with h2 | h2
 ·match n,h2 with
  | 0,_=>exact aa (EK ok) (nx (.k1_3_5 n0 v h h0 h1) (by decide) (by decide))
 ·obtain ⟨k0,k1,L0,L1,y0,y1,x0,x1⟩:=v
  obtain ⟨b0,b1,b2,b3⟩:=B
  match n0,h with
  | 0,_=>
    obtain rfl:L0=26:=h0
    obtain rfl:L1=27:=h1
    cases b1
    ·exact aa (x6 ok h2 hn (B:=⟨b0,false,b2,b3⟩) (v:=⟨k0,k1,26,27,y0,y1,x0,x1⟩)) (nx (.k2_2_0 1 _ (by decide) rfl rfl) (by decide) (fun _=>by decide))
    ·exact aa (x7 ok h2 hn (B:=⟨b0,true,b2,b3⟩) (v:=⟨k0,k1,26,27,y0,y1,x0,x1⟩)) (nx (.k2_2_0 0 _ (by decide) rfl rfl) (by decide) (fun _=>by decide))
  | 1,_=>
    obtain rfl:L0=40:=h0
    obtain rfl:L1=13:=h1
    cases b1
    ·exact aa (x8 ok h2 hn (B:=⟨b0,false,b2,b3⟩) (v:=⟨k0,k1,40,13,y0,y1,x0,x1⟩)) (nx (.k2_2_0 2 _ (by decide) rfl rfl) (by decide) (fun _=>by decide))
    ·exact aa (x9 ok h2 hn (B:=⟨b0,true,b2,b3⟩) (v:=⟨k0,k1,40,13,y0,y1,x0,x1⟩)) (nx (.k2_2_0 1 _ (by decide) rfl rfl) (by decide) (fun _=>by decide))
theorem NL (h:n0≤2) (h0:v.L0=26+14*n0) (h1:v.L1=13+14*(2 - n0)) (hn:n≤6):Do ao (ad X W (f2 i n) (bn B v) 75) (Exit.then (Nx X W B 2 i n 0) Q):=by
 exact aa (z2 ok) (nx (.k2_0_0 n0 v h h0 h1) (by decide) (fun _=>by decide))
theorem NM (h:n0≤2) (h0:v.L0=26+14*n0) (h1:v.L1=13+14*(2 - n0)) (hn:n≤6):Do ao (ad X W (f2 i n) (aU B v) 83) (Exit.then (Nx X W B 3 i n 3) Q):=by
 rcases Nat.lt_or_ge n 6 with h2 | h2
 ·match n,h2 with
  | 0,_=>exact aa (EL ok) (nx (.k2_1_0 n0 v h h0 h1) (by decide) (by decide))
  | 1,_=>exact aa (EM ok) (nx (.k2_1_1 n0 v h h0 h1) (by decide) (by decide))
  | 2,_=>exact aa (EN ok) (nx (.k2_1_2 n0 v h h0 h1) (by decide) (by decide))
  | 3,_=>exact aa (EO ok) (nx (.k2_1_3 n0 v h h0 h1) (by decide) (by decide))
  | 4,_=>exact aa (EP ok) (nx (.k2_1_4 n0 v h h0 h1) (by decide) (by decide))
  | 5,_=>exact aa (ER ok) (nx (.k2_1_5 n0 v h h0 h1) (by decide) (by decide))
 ·obtain ⟨k0,k1,L0,L1,y0,y1,x0,x1⟩:=v
  obtain ⟨b0,b1,b2,b3⟩:=B
  obtain rfl:n=6:=by omega
  match n0,h with
  | 0,_=>
    obtain rfl:L0=26:=h0
    obtain rfl:L1=41:=h1
    cases b2
    ·exact aa (x_ ok (B:=⟨b0,b1,false,b3⟩) (v:=⟨k0,k1,26,41,y0,y1,x0,x1⟩)) (nx (.k3_0_0 1 _ (by decide) rfl rfl) (by decide) (fun _=>by decide))
    ·exact aa (yb ok (B:=⟨b0,b1,true,b3⟩) (v:=⟨k0,k1,26,41,y0,y1,x0,x1⟩)) (nx (.k3_0_0 0 _ (by decide) rfl rfl) (by decide) (fun _=>by decide))
  | 1,_=>
    obtain rfl:L0=40:=h0
    obtain rfl:L1=27:=h1
    cases b2
    ·exact aa (ye ok (B:=⟨b0,b1,false,b3⟩) (v:=⟨k0,k1,40,27,y0,y1,x0,x1⟩)) (nx (.k3_0_0 2 _ (by decide) rfl rfl) (by decide) (fun _=>by decide))
    ·exact aa (yf ok (B:=⟨b0,b1,true,b3⟩) (v:=⟨k0,k1,40,27,y0,y1,x0,x1⟩)) (nx (.k3_0_0 1 _ (by decide) rfl rfl) (by decide) (fun _=>by decide))
  | 2,_=>
    obtain rfl:L0=54:=h0
    obtain rfl:L1=13:=h1
    cases b2
    ·exact aa (yg ok (B:=⟨b0,b1,false,b3⟩) (v:=⟨k0,k1,54,13,y0,y1,x0,x1⟩)) (nx (.k3_0_0 3 _ (by decide) rfl rfl) (by decide) (fun _=>by decide))
    ·exact aa (yh ok (B:=⟨b0,b1,true,b3⟩) (v:=⟨k0,k1,54,13,y0,y1,x0,x1⟩)) (nx (.k3_0_0 2 _ (by decide) rfl rfl) (by decide) (fun _=>by decide))
theorem NN (h:n0≤2) (h0:v.L0=26+14*n0) (h1:v.L1=13+14*(2 - n0)) (hn:n≤6):Do ao (ad X W (f2 i n) (dI B v) 84) (Exit.then (Nx X W B 3 i n 3) Q):=by
 rcases Nat.lt_or_ge n 5 with h2 | h2
 ·match n,h2 with
  | 0,_=>exact aa (ES ok) (nx (.k2_1_1 n0 v h h0 h1) (by decide) (by decide))
  | 1,_=>exact aa (ET ok) (nx (.k2_1_2 n0 v h h0 h1) (by decide) (by decide))
  | 2,_=>exact aa (EU ok) (nx (.k2_1_3 n0 v h h0 h1) (by decide) (by decide))
  | 3,_=>exact aa (EV ok) (nx (.k2_1_4 n0 v h h0 h1) (by decide) (by decide))
  | 4,_=>exact aa (EW ok) (nx (.k2_1_5 n0 v h h0 h1) (by decide) (by decide))
 ·obtain ⟨k0,k1,L0,L1,y0,y1,x0,x1⟩:=v
  obtain ⟨b0,b1,b2,b3⟩:=B
  match n0,h with
  | 0,_=>
    obtain rfl:L0=26:=h0
    obtain rfl:L1=41:=h1
    cases b2
    ·exact aa (yi ok h2 hn (B:=⟨b0,b1,false,b3⟩) (v:=⟨k0,k1,26,41,y0,y1,x0,x1⟩)) (nx (.k3_0_0 1 _ (by decide) rfl rfl) (by decide) (fun _=>by decide))
    ·exact aa (yj ok h2 hn (B:=⟨b0,b1,true,b3⟩) (v:=⟨k0,k1,26,41,y0,y1,x0,x1⟩)) (nx (.k3_0_0 0 _ (by decide) rfl rfl) (by decide) (fun _=>by decide))
  | 1,_=>
    obtain rfl:L0=40:=h0
    obtain rfl:L1=27:=h1
    cases b2
    ·exact aa (yn ok h2 hn (B:=⟨b0,b1,false,b3⟩) (v:=⟨k0,k1,40,27,y0,y1,x0,x1⟩)) (nx (.k3_0_0 2 _ (by decide) rfl rfl) (by decide) (fun _=>by decide))
    ·exact aa (yo ok h2 hn (B:=⟨b0,b1,true,b3⟩) (v:=⟨k0,k1,40,27,y0,y1,x0,x1⟩)) (nx (.k3_0_0 1 _ (by decide) rfl rfl) (by decide) (fun _=>by decide))
  | 2,_=>
    obtain rfl:L0=54:=h0
    obtain rfl:L1=13:=h1
    cases b2
    ·exact aa (yq ok h2 hn (B:=⟨b0,b1,false,b3⟩) (v:=⟨k0,k1,54,13,y0,y1,x0,x1⟩)) (nx (.k3_0_0 3 _ (by decide) rfl rfl) (by decide) (fun _=>by decide))
    ·exact aa (yr ok h2 hn (B:=⟨b0,b1,true,b3⟩) (v:=⟨k0,k1,54,13,y0,y1,x0,x1⟩)) (nx (.k3_0_0 2 _ (by decide) rfl rfl) (by decide) (fun _=>by decide))
theorem NP (h:n0≤2) (h0:v.L0=26+14*n0) (h1:v.L1=13+14*(2 - n0)) (hn:n≤6):Do ao (ad X W (f2 i n) (dJ B v) 84) (Exit.then (Nx X W B 3 i n 2) Q):=by
 rcases Nat.lt_or_ge n 4 with h2 | h2
 ·match n,h2 with
  | 0,_=>exact aa (EX ok) (nx (.k2_1_2 n0 v h h0 h1) (by decide) (by decide))
  | 1,_=>exact aa (EY ok) (nx (.k2_1_3 n0 v h h0 h1) (by decide) (by decide))
  | 2,_=>exact aa (EZ ok) (nx (.k2_1_4 n0 v h h0 h1) (by decide) (by decide))
  | 3,_=>exact aa (E0 ok) (nx (.k2_1_5 n0 v h h0 h1) (by decide) (by decide))
 ·obtain ⟨k0,k1,L0,L1,y0,y1,x0,x1⟩:=v
  obtain ⟨b0,b1,b2,b3⟩:=B
  match n0,h with
  | 0,_=>
    obtain rfl:L0=26:=h0
    obtain rfl:L1=41:=h1
    cases b2
    ·exact aa (yu ok h2 hn (B:=⟨b0,b1,false,b3⟩) (v:=⟨k0,k1,26,41,y0,y1,x0,x1⟩)) (nx (.k3_0_0 1 _ (by decide) rfl rfl) (by decide) (fun _=>by decide))
    ·exact aa (yw ok h2 hn (B:=⟨b0,b1,true,b3⟩) (v:=⟨k0,k1,26,41,y0,y1,x0,x1⟩)) (nx (.k3_0_0 0 _ (by decide) rfl rfl) (by decide) (fun _=>by decide))
  | 1,_=>
    obtain rfl:L0=40:=h0
    obtain rfl:L1=27:=h1
    cases b2
    ·exact aa (yy ok h2 hn (B:=⟨b0,b1,false,b3⟩) (v:=⟨k0,k1,40,27,y0,y1,x0,x1⟩)) (nx (.k3_0_0 2 _ (by decide) rfl rfl) (by decide) (fun _=>by decide))
    ·exact aa (yz ok h2 hn (B:=⟨b0,b1,true,b3⟩) (v:=⟨k0,k1,40,27,y0,y1,x0,x1⟩)) (nx (.k3_0_0 1 _ (by decide) rfl rfl) (by decide) (fun _=>by decide))
  | 2,_=>
    obtain rfl:L0=54:=h0
    obtain rfl:L1=13:=h1
    cases b2
    ·exact aa (yA ok h2 hn (B:=⟨b0,b1,false,b3⟩) (v:=⟨k0,k1,54,13,y0,y1,x0,x1⟩)) (nx (.k3_0_0 3 _ (by decide) rfl rfl) (by decide) (fun _=>by decide))
    ·exact aa (yB ok h2 hn (B:=⟨b0,b1,true,b3⟩) (v:=⟨k0,k1,54,13,y0,y1,x0,x1⟩)) (nx (.k3_0_0 2 _ (by decide) rfl rfl) (by decide) (fun _=>by decide))
theorem NQ (h:n0≤2) (h0:v.L0=26+14*n0) (h1:v.L1=13+14*(2 - n0)) (hn:n≤6):Do ao (ad X W (f2 i n) (dK B v) 84) (Exit.then (Nx X W B 3 i n 2) Q):=by
 rcases Nat.lt_or_ge n 3 with h2 | h2
 ·match n,h2 with
  | 0,_=>exact aa (E3 ok) (nx (.k2_1_3 n0 v h h0 h1) (by decide) (by decide))
  | 1,_=>exact aa (E4 ok) (nx (.k2_1_4 n0 v h h0 h1) (by decide) (by decide))
  | 2,_=>exact aa (E5 ok) (nx (.k2_1_5 n0 v h h0 h1) (by decide) (by decide))
 ·obtain ⟨k0,k1,L0,L1,y0,y1,x0,x1⟩:=v
  obtain ⟨b0,b1,b2,b3⟩:=B
  match n0,h with
  | 0,_=>
    obtain rfl:L0=26:=h0
    obtain rfl:L1=41:=h1
    cases b2
    ·exact aa (yC ok h2 hn (B:=⟨b0,b1,false,b3⟩) (v:=⟨k0,k1,26,41,y0,y1,x0,x1⟩)) (nx (.k3_0_0 1 _ (by decide) rfl rfl) (by decide) (fun _=>by decide))
    ·exact aa (yD ok h2 hn (B:=⟨b0,b1,true,b3⟩) (v:=⟨k0,k1,26,41,y0,y1,x0,x1⟩)) (nx (.k3_0_0 0 _ (by decide) rfl rfl) (by decide) (fun _=>by decide))
  | 1,_=>
    obtain rfl:L0=40:=h0
    obtain rfl:L1=27:=h1
    cases b2
    ·exact aa (yE ok h2 hn (B:=⟨b0,b1,false,b3⟩) (v:=⟨k0,k1,40,27,y0,y1,x0,x1⟩)) (nx (.k3_0_0 2 _ (by decide) rfl rfl) (by decide) (fun _=>by decide))
    ·exact aa (yF ok h2 hn (B:=⟨b0,b1,true,b3⟩) (v:=⟨k0,k1,40,27,y0,y1,x0,x1⟩)) (nx (.k3_0_0 1 _ (by decide) rfl rfl) (by decide) (fun _=>by decide))
  | 2,_=>
    obtain rfl:L0=54:=h0
    obtain rfl:L1=13:=h1
    cases b2
    ·exact aa (yG ok h2 hn (B:=⟨b0,b1,false,b3⟩) (v:=⟨k0,k1,54,13,y0,y1,x0,x1⟩)) (nx (.k3_0_0 3 _ (by decide) rfl rfl) (by decide) (fun _=>by decide))
    ·exact aa (yH ok h2 hn (B:=⟨b0,b1,true,b3⟩) (v:=⟨k0,k1,54,13,y0,y1,x0,x1⟩)) (nx (.k3_0_0 2 _ (by decide) rfl rfl) (by decide) (fun _=>by decide))
theorem NR (h:n0≤2) (h0:v.L0=26+14*n0) (h1:v.L1=13+14*(2 - n0)) (hn:n≤6):Do ao (ad X W (f2 i n) (dL B v) 87) (Exit.then (Nx X W B 3 i n 1) Q):=by
 rcases Nat.lt_or_ge n 2 with h2 | h2
 ·match n,h2 with
  | 0,_=>exact aa (E6 ok) (nx (.k2_1_4 n0 v h h0 h1) (by decide) (by decide))
  | 1,_=>exact aa (E7 ok) (nx (.k2_1_5 n0 v h h0 h1) (by decide) (by decide))
 ·obtain ⟨k0,k1,L0,L1,y0,y1,x0,x1⟩:=v
  obtain ⟨b0,b1,b2,b3⟩:=B
  match n0,h with
  | 0,_=>
    obtain rfl:L0=26:=h0
    obtain rfl:L1=41:=h1
    cases b2
    ·exact aa (yI ok h2 hn (B:=⟨b0,b1,false,b3⟩) (v:=⟨k0,k1,26,41,y0,y1,x0,x1⟩)) (nx (.k3_0_0 1 _ (by decide) rfl rfl) (by decide) (fun _=>by decide))
    ·exact aa (yJ ok h2 hn (B:=⟨b0,b1,true,b3⟩) (v:=⟨k0,k1,26,41,y0,y1,x0,x1⟩)) (nx (.k3_0_0 0 _ (by decide) rfl rfl) (by decide) (fun _=>by decide))
  | 1,_=>
    obtain rfl:L0=40:=h0
    obtain rfl:L1=27:=h1
    cases b2
    ·exact aa (yK ok h2 hn (B:=⟨b0,b1,false,b3⟩) (v:=⟨k0,k1,40,27,y0,y1,x0,x1⟩)) (nx (.k3_0_0 2 _ (by decide) rfl rfl) (by decide) (fun _=>by decide))
    ·exact aa (yL ok h2 hn (B:=⟨b0,b1,true,b3⟩) (v:=⟨k0,k1,40,27,y0,y1,x0,x1⟩)) (nx (.k3_0_0 1 _ (by decide) rfl rfl) (by decide) (fun _=>by decide))
  | 2,_=>
    obtain rfl:L0=54:=h0
    obtain rfl:L1=13:=h1
    cases b2
    ·exact aa (yM ok h2 hn (B:=⟨b0,b1,false,b3⟩) (v:=⟨k0,k1,54,13,y0,y1,x0,x1⟩)) (nx (.k3_0_0 3 _ (by decide) rfl rfl) (by decide) (fun _=>by decide))
    ·exact aa (yN ok h2 hn (B:=⟨b0,b1,true,b3⟩) (v:=⟨k0,k1,54,13,y0,y1,x0,x1⟩)) (nx (.k3_0_0 2 _ (by decide) rfl rfl) (by decide) (fun _=>by decide))
theorem NS (h:n0≤2) (h0:v.L0=26+14*n0) (h1:v.L1=13+14*(2 - n0)) (hn:n≤6):Do ao (ad X W (f2 i n) (dM B v) 87) (Exit.then (Nx X W B 3 i n 1) Q):=by
 rcases Nat.lt_or_ge n 1 with h2 | h2
 ·match n,h2 with
  | 0,_=>exact aa (E8 ok) (nx (.k2_1_5 n0 v h h0 h1) (by decide) (by decide))
 ·obtain ⟨k0,k1,L0,L1,y0,y1,x0,x1⟩:=v
  obtain ⟨b0,b1,b2,b3⟩:=B
  match n0,h with
  | 0,_=>
    obtain rfl:L0=26:=h0
    obtain rfl:L1=41:=h1
    cases b2
    ·exact aa (yO ok h2 hn (B:=⟨b0,b1,false,b3⟩) (v:=⟨k0,k1,26,41,y0,y1,x0,x1⟩)) (nx (.k3_0_0 1 _ (by decide) rfl rfl) (by decide) (fun _=>by decide))
    ·exact aa (yP ok h2 hn (B:=⟨b0,b1,true,b3⟩) (v:=⟨k0,k1,26,41,y0,y1,x0,x1⟩)) (nx (.k3_0_0 0 _ (by decide) rfl rfl) (by decide) (fun _=>by decide))
  | 1,_=>
    obtain rfl:L0=40:=h0
    obtain rfl:L1=27:=h1
    cases b2
    ·exact aa (yQ ok h2 hn (B:=⟨b0,b1,false,b3⟩) (v:=⟨k0,k1,40,27,y0,y1,x0,x1⟩)) (nx (.k3_0_0 2 _ (by decide) rfl rfl) (by decide) (fun _=>by decide))
    ·exact aa (yR ok h2 hn (B:=⟨b0,b1,true,b3⟩) (v:=⟨k0,k1,40,27,y0,y1,x0,x1⟩)) (nx (.k3_0_0 1 _ (by decide) rfl rfl) (by decide) (fun _=>by decide))
  | 2,_=>
    obtain rfl:L0=54:=h0
    obtain rfl:L1=13:=h1
    cases b2
    ·exact aa (yS ok h2 hn (B:=⟨b0,b1,false,b3⟩) (v:=⟨k0,k1,54,13,y0,y1,x0,x1⟩)) (nx (.k3_0_0 3 _ (by decide) rfl rfl) (by decide) (fun _=>by decide))
    ·exact aa (yT ok h2 hn (B:=⟨b0,b1,true,b3⟩) (v:=⟨k0,k1,54,13,y0,y1,x0,x1⟩)) (nx (.k3_0_0 2 _ (by decide) rfl rfl) (by decide) (fun _=>by decide))
theorem NT (h:n0≤2) (h0:v.L0=26+14*n0) (h1:v.L1=13+14*(2 - n0)) (hn:n≤6):Do ao (ad X W (f2 i n) (aV B v) 86) (Exit.then (Nx X W B 4 i n 6) Q):=by
 rcases Nat.lt_or_ge n 6 with h2 | h2
 ·match n,h2 with
  | 0,_=>exact aa (E9 ok) (nx (.k2_2_0 n0 v h h0 h1) (by decide) (by decide))
  | 1,_=>exact aa (E_ ok) (nx (.k2_2_1 n0 v h h0 h1) (by decide) (by decide))
  | 2,_=>exact aa (Fa ok) (nx (.k2_2_2 n0 v h h0 h1) (by decide) (by decide))
  | 3,_=>exact aa (Fb ok) (nx (.k2_2_3 n0 v h h0 h1) (by decide) (by decide))
  | 4,_=>exact aa (Fc ok) (nx (.k2_2_4 n0 v h h0 h1) (by decide) (by decide))
  | 5,_=>exact aa (Fe ok) (nx (.k2_2_5 n0 v h h0 h1) (by decide) (by decide))
 ·obtain ⟨k0,k1,L0,L1,y0,y1,x0,x1⟩:=v
  obtain ⟨b0,b1,b2,b3⟩:=B
  obtain rfl:n=6:=by omega
  match n0,h with
  | 0,_=>
    obtain rfl:L0=26:=h0
    obtain rfl:L1=41:=h1
    cases b2
    ·exact aa (yU ok (B:=⟨b0,b1,false,b3⟩) (v:=⟨k0,k1,26,41,y0,y1,x0,x1⟩)) (nx (.k3_1_0 1 _ (by decide) rfl rfl) (by decide) (fun _=>by decide))
    ·exact aa (yV ok (B:=⟨b0,b1,true,b3⟩) (v:=⟨k0,k1,26,41,y0,y1,x0,x1⟩)) (nx (.k3_1_0 0 _ (by decide) rfl rfl) (by decide) (fun _=>by decide))
  | 1,_=>
    obtain rfl:L0=40:=h0
    obtain rfl:L1=27:=h1
    cases b2
    ·exact aa (yW ok (B:=⟨b0,b1,false,b3⟩) (v:=⟨k0,k1,40,27,y0,y1,x0,x1⟩)) (nx (.k3_1_0 2 _ (by decide) rfl rfl) (by decide) (fun _=>by decide))
    ·exact aa (yX ok (B:=⟨b0,b1,true,b3⟩) (v:=⟨k0,k1,40,27,y0,y1,x0,x1⟩)) (nx (.k3_1_0 1 _ (by decide) rfl rfl) (by decide) (fun _=>by decide))
  | 2,_=>
    obtain rfl:L0=54:=h0
    obtain rfl:L1=13:=h1
    cases b2
    ·exact aa (yY ok (B:=⟨b0,b1,false,b3⟩) (v:=⟨k0,k1,54,13,y0,y1,x0,x1⟩)) (nx (.k3_1_0 3 _ (by decide) rfl rfl) (by decide) (fun _=>by decide))
    ·exact aa (yZ ok (B:=⟨b0,b1,true,b3⟩) (v:=⟨k0,k1,54,13,y0,y1,x0,x1⟩)) (nx (.k3_1_0 2 _ (by decide) rfl rfl) (by decide) (fun _=>by decide))
theorem NU (h:n0≤2) (h0:v.L0=26+14*n0) (h1:v.L1=13+14*(2 - n0)) (hn:n≤6):Do ao (ad X W (f2 i n) (dN B v) 87) (Exit.then (Nx X W B 4 i n 6) Q):=by
 rcases Nat.lt_or_ge n 5 with h2 | h2
 ·match n,h2 with
  | 0,_=>exact aa (Ff ok) (nx (.k2_2_1 n0 v h h0 h1) (by decide) (by decide))
  | 1,_=>exact aa (Fg ok) (nx (.k2_2_2 n0 v h h0 h1) (by decide) (by decide))
  | 2,_=>exact aa (Fh ok) (nx (.k2_2_3 n0 v h h0 h1) (by decide) (by decide))
  | 3,_=>exact aa (Fi ok) (nx (.k2_2_4 n0 v h h0 h1) (by decide) (by decide))
  | 4,_=>exact aa (Fj ok) (nx (.k2_2_5 n0 v h h0 h1) (by decide) (by decide))
 ·obtain ⟨k0,k1,L0,L1,y0,y1,x0,x1⟩:=v
  obtain ⟨b0,b1,b2,b3⟩:=B
  match n0,h with
  | 0,_=>
    obtain rfl:L0=26:=h0
    obtain rfl:L1=41:=h1
    cases b2
    ·exact aa (y2 ok h2 hn (B:=⟨b0,b1,false,b3⟩) (v:=⟨k0,k1,26,41,y0,y1,x0,x1⟩)) (nx (.k3_1_0 1 _ (by decide) rfl rfl) (by decide) (fun _=>by decide))
    ·exact aa (y3 ok h2 hn (B:=⟨b0,b1,true,b3⟩) (v:=⟨k0,k1,26,41,y0,y1,x0,x1⟩)) (nx (.k3_1_0 0 _ (by decide) rfl rfl) (by decide) (fun _=>by decide))
  | 1,_=>
    obtain rfl:L0=40:=h0
    obtain rfl:L1=27:=h1
    cases b2
    ·exact aa (y4 ok h2 hn (B:=⟨b0,b1,false,b3⟩) (v:=⟨k0,k1,40,27,y0,y1,x0,x1⟩)) (nx (.k3_1_0 2 _ (by decide) rfl rfl) (by decide) (fun _=>by decide))
    ·exact aa (y5 ok h2 hn (B:=⟨b0,b1,true,b3⟩) (v:=⟨k0,k1,40,27,y0,y1,x0,x1⟩)) (nx (.k3_1_0 1 _ (by decide) rfl rfl) (by decide) (fun _=>by decide))
  | 2,_=>
    obtain rfl:L0=54:=h0
    obtain rfl:L1=13:=h1
    cases b2
    ·exact aa (y6 ok h2 hn (B:=⟨b0,b1,false,b3⟩) (v:=⟨k0,k1,54,13,y0,y1,x0,x1⟩)) (nx (.k3_1_0 3 _ (by decide) rfl rfl) (by decide) (fun _=>by decide))
    ·exact aa (y7 ok h2 hn (B:=⟨b0,b1,true,b3⟩) (v:=⟨k0,k1,54,13,y0,y1,x0,x1⟩)) (nx (.k3_1_0 2 _ (by decide) rfl rfl) (by decide) (fun _=>by decide))
theorem NV (h:n0≤2) (h0:v.L0=26+14*n0) (h1:v.L1=13+14*(2 - n0)) (hn:n≤6):Do ao (ad X W (f2 i n) (dO B v) 87) (Exit.then (Nx X W B 4 i n 5) Q):=by
 rcases Nat.lt_or_ge n 4 with h2 | h2
 ·match n,h2 with
  | 0,_=>exact aa (Fk ok) (nx (.k2_2_2 n0 v h h0 h1) (by decide) (by decide))
  | 1,_=>exact aa (Fl ok) (nx (.k2_2_3 n0 v h h0 h1) (by decide) (by decide))
  | 2,_=>exact aa (Fm ok) (nx (.k2_2_4 n0 v h h0 h1) (by decide) (by decide))
  | 3,_=>exact aa (Fo ok) (nx (.k2_2_5 n0 v h h0 h1) (by decide) (by decide))
 ·obtain ⟨k0,k1,L0,L1,y0,y1,x0,x1⟩:=v
  obtain ⟨b0,b1,b2,b3⟩:=B
  match n0,h with
  | 0,_=>
    obtain rfl:L0=26:=h0
    obtain rfl:L1=41:=h1
    cases b2
    ·exact aa (y8 ok h2 hn (B:=⟨b0,b1,false,b3⟩) (v:=⟨k0,k1,26,41,y0,y1,x0,x1⟩)) (nx (.k3_1_0 1 _ (by decide) rfl rfl) (by decide) (fun _=>by decide))
    ·exact aa (y9 ok h2 hn (B:=⟨b0,b1,true,b3⟩) (v:=⟨k0,k1,26,41,y0,y1,x0,x1⟩)) (nx (.k3_1_0 0 _ (by decide) rfl rfl) (by decide) (fun _=>by decide))
  | 1,_=>
    obtain rfl:L0=40:=h0
    obtain rfl:L1=27:=h1
    cases b2
    ·exact aa (y_ ok h2 hn (B:=⟨b0,b1,false,b3⟩) (v:=⟨k0,k1,40,27,y0,y1,x0,x1⟩)) (nx (.k3_1_0 2 _ (by decide) rfl rfl) (by decide) (fun _=>by decide))
    ·exact aa (za ok h2 hn (B:=⟨b0,b1,true,b3⟩) (v:=⟨k0,k1,40,27,y0,y1,x0,x1⟩)) (nx (.k3_1_0 1 _ (by decide) rfl rfl) (by decide) (fun _=>by decide))
  | 2,_=>
    obtain rfl:L0=54:=h0
    obtain rfl:L1=13:=h1
    cases b2
    ·exact aa (zb ok h2 hn (B:=⟨b0,b1,false,b3⟩) (v:=⟨k0,k1,54,13,y0,y1,x0,x1⟩)) (nx (.k3_1_0 3 _ (by decide) rfl rfl) (by decide) (fun _=>by decide))
    ·exact aa (zc ok h2 hn (B:=⟨b0,b1,true,b3⟩) (v:=⟨k0,k1,54,13,y0,y1,x0,x1⟩)) (nx (.k3_1_0 2 _ (by decide) rfl rfl) (by decide) (fun _=>by decide))
theorem NW (h:n0≤2) (h0:v.L0=26+14*n0) (h1:v.L1=13+14*(2 - n0)) (hn:n≤6):Do ao (ad X W (f2 i n) (dP B v) 87) (Exit.then (Nx X W B 4 i n 5) Q):=by
 rcases Nat.lt_or_ge n 3 with h2 | h2
 ·match n,h2 with
  | 0,_=>exact aa (Fp ok) (nx (.k2_2_3 n0 v h h0 h1) (by decide) (by decide))
  | 1,_=>exact aa (Fq ok) (nx (.k2_2_4 n0 v h h0 h1) (by decide) (by decide))
  | 2,_=>exact aa (Fs ok) (nx (.k2_2_5 n0 v h h0 h1) (by decide) (by decide))
 ·obtain ⟨k0,k1,L0,L1,y0,y1,x0,x1⟩:=v
  obtain ⟨b0,b1,b2,b3⟩:=B
  match n0,h with
  | 0,_=>
    obtain rfl:L0=26:=h0
    obtain rfl:L1=41:=h1
    cases b2
    ·exact aa (ze ok h2 hn (B:=⟨b0,b1,false,b3⟩) (v:=⟨k0,k1,26,41,y0,y1,x0,x1⟩)) (nx (.k3_1_0 1 _ (by decide) rfl rfl) (by decide) (fun _=>by decide))
    ·exact aa (zf ok h2 hn (B:=⟨b0,b1,true,b3⟩) (v:=⟨k0,k1,26,41,y0,y1,x0,x1⟩)) (nx (.k3_1_0 0 _ (by decide) rfl rfl) (by decide) (fun _=>by decide))
  | 1,_=>
    obtain rfl:L0=40:=h0
    obtain rfl:L1=27:=h1
    cases b2
    ·exact aa (zg ok h2 hn (B:=⟨b0,b1,false,b3⟩) (v:=⟨k0,k1,40,27,y0,y1,x0,x1⟩)) (nx (.k3_1_0 2 _ (by decide) rfl rfl) (by decide) (fun _=>by decide))
    ·exact aa (zh ok h2 hn (B:=⟨b0,b1,true,b3⟩) (v:=⟨k0,k1,40,27,y0,y1,x0,x1⟩)) (nx (.k3_1_0 1 _ (by decide) rfl rfl) (by decide) (fun _=>by decide))
  | 2,_=>
    obtain rfl:L0=54:=h0
    obtain rfl:L1=13:=h1
    cases b2
    ·exact aa (zi ok h2 hn (B:=⟨b0,b1,false,b3⟩) (v:=⟨k0,k1,54,13,y0,y1,x0,x1⟩)) (nx (.k3_1_0 3 _ (by decide) rfl rfl) (by decide) (fun _=>by decide))
    ·exact aa (zj ok h2 hn (B:=⟨b0,b1,true,b3⟩) (v:=⟨k0,k1,54,13,y0,y1,x0,x1⟩)) (nx (.k3_1_0 2 _ (by decide) rfl rfl) (by decide) (fun _=>by decide))
theorem NX (h:n0≤2) (h0:v.L0=26+14*n0) (h1:v.L1=13+14*(2 - n0)) (hn:n≤6):Do ao (ad X W (f2 i n) (dQ B v) 90) (Exit.then (Nx X W B 4 i n 4) Q):=by
 rcases Nat.lt_or_ge n 2 with h2 | h2
 ·match n,h2 with
  | 0,_=>exact aa (Fu ok) (nx (.k2_2_4 n0 v h h0 h1) (by decide) (by decide))
  | 1,_=>exact aa (Fv ok) (nx (.k2_2_5 n0 v h h0 h1) (by decide) (by decide))
 ·obtain ⟨k0,k1,L0,L1,y0,y1,x0,x1⟩:=v
  obtain ⟨b0,b1,b2,b3⟩:=B
  match n0,h with
  | 0,_=>
    obtain rfl:L0=26:=h0
    obtain rfl:L1=41:=h1
    cases b2
    ·exact aa (zk ok h2 hn (B:=⟨b0,b1,false,b3⟩) (v:=⟨k0,k1,26,41,y0,y1,x0,x1⟩)) (nx (.k3_1_0 1 _ (by decide) rfl rfl) (by decide) (fun _=>by decide))
    ·exact aa (zl ok h2 hn (B:=⟨b0,b1,true,b3⟩) (v:=⟨k0,k1,26,41,y0,y1,x0,x1⟩)) (nx (.k3_1_0 0 _ (by decide) rfl rfl) (by decide) (fun _=>by decide))
  | 1,_=>
    obtain rfl:L0=40:=h0
    obtain rfl:L1=27:=h1
    cases b2
    ·exact aa (zm ok h2 hn (B:=⟨b0,b1,false,b3⟩) (v:=⟨k0,k1,40,27,y0,y1,x0,x1⟩)) (nx (.k3_1_0 2 _ (by decide) rfl rfl) (by decide) (fun _=>by decide))
    ·exact aa (zn ok h2 hn (B:=⟨b0,b1,true,b3⟩) (v:=⟨k0,k1,40,27,y0,y1,x0,x1⟩)) (nx (.k3_1_0 1 _ (by decide) rfl rfl) (by decide) (fun _=>by decide))
  | 2,_=>
    obtain rfl:L0=54:=h0
    obtain rfl:L1=13:=h1
    cases b2
    ·exact aa (zo ok h2 hn (B:=⟨b0,b1,false,b3⟩) (v:=⟨k0,k1,54,13,y0,y1,x0,x1⟩)) (nx (.k3_1_0 3 _ (by decide) rfl rfl) (by decide) (fun _=>by decide))
    ·exact aa (zp ok h2 hn (B:=⟨b0,b1,true,b3⟩) (v:=⟨k0,k1,54,13,y0,y1,x0,x1⟩)) (nx (.k3_1_0 2 _ (by decide) rfl rfl) (by decide) (fun _=>by decide))
theorem NY (h:n0≤2) (h0:v.L0=26+14*n0) (h1:v.L1=13+14*(2 - n0)) (hn:n≤6):Do ao (ad X W (f2 i n) (dR B v) 90) (Exit.then (Nx X W B 4 i n 4) Q):=by
 rcases Nat.lt_or_ge n 1 with h2 | h2
 ·match n,h2 with
  | 0,_=>exact aa (Fw ok) (nx (.k2_2_5 n0 v h h0 h1) (by decide) (by decide))
 ·obtain ⟨k0,k1,L0,L1,y0,y1,x0,x1⟩:=v
  obtain ⟨b0,b1,b2,b3⟩:=B
  match n0,h with
  | 0,_=>
    obtain rfl:L0=26:=h0
    obtain rfl:L1=41:=h1
    cases b2
    ·exact aa (zq ok h2 hn (B:=⟨b0,b1,false,b3⟩) (v:=⟨k0,k1,26,41,y0,y1,x0,x1⟩)) (nx (.k3_1_0 1 _ (by decide) rfl rfl) (by decide) (fun _=>by decide))
    ·exact aa (zr ok h2 hn (B:=⟨b0,b1,true,b3⟩) (v:=⟨k0,k1,26,41,y0,y1,x0,x1⟩)) (nx (.k3_1_0 0 _ (by decide) rfl rfl) (by decide) (fun _=>by decide))
  | 1,_=>
    obtain rfl:L0=40:=h0
    obtain rfl:L1=27:=h1
    cases b2
    ·exact aa (zt ok h2 hn (B:=⟨b0,b1,false,b3⟩) (v:=⟨k0,k1,40,27,y0,y1,x0,x1⟩)) (nx (.k3_1_0 2 _ (by decide) rfl rfl) (by decide) (fun _=>by decide))
    ·exact aa (zu ok h2 hn (B:=⟨b0,b1,true,b3⟩) (v:=⟨k0,k1,40,27,y0,y1,x0,x1⟩)) (nx (.k3_1_0 1 _ (by decide) rfl rfl) (by decide) (fun _=>by decide))
  | 2,_=>
    obtain rfl:L0=54:=h0
    obtain rfl:L1=13:=h1
    cases b2
    ·exact aa (zv ok h2 hn (B:=⟨b0,b1,false,b3⟩) (v:=⟨k0,k1,54,13,y0,y1,x0,x1⟩)) (nx (.k3_1_0 3 _ (by decide) rfl rfl) (by decide) (fun _=>by decide))
    ·exact aa (zw ok h2 hn (B:=⟨b0,b1,true,b3⟩) (v:=⟨k0,k1,54,13,y0,y1,x0,x1⟩)) (nx (.k3_1_0 2 _ (by decide) rfl rfl) (by decide) (fun _=>by decide))
theorem NZ (h:n0≤3) (h0:v.L0=26+14*n0) (h1:v.L1=13+14*(3 - n0)) (hn:n≤6):Do ao (ad X W (f2 i n) (aL B v) 77) (Exit.then (Nx X W B 3 i n 0) Q):=by
 exact aa (z3 ok) (nx (.k3_0_0 n0 v h h0 h1) (by decide) (fun _=>by decide))
theorem N0 (h:n0≤3) (h0:v.L0=26+14*n0) (h1:v.L1=13+14*(3 - n0)) (hn:n≤6):Do ao (ad X W (f2 i n) (aI B v) 85) (Exit.then (Nx X W B 4 i n 3) Q):=by
 rcases Nat.lt_or_ge n 6 with h2 | h2
 ·match n,h2 with
  | 0,_=>exact aa (Fx ok) (nx (.k3_1_0 n0 v h h0 h1) (by decide) (by decide))
  | 1,_=>exact aa (Fy ok) (nx (.k3_1_1 n0 v h h0 h1) (by decide) (by decide))
  | 2,_=>exact aa (Fz ok) (nx (.k3_1_2 n0 v h h0 h1) (by decide) (by decide))
  | 3,_=>exact aa (FA ok) (nx (.k3_1_3 n0 v h h0 h1) (by decide) (by decide))
  | 4,_=>exact aa (FB ok) (nx (.k3_1_4 n0 v h h0 h1) (by decide) (by decide))
  | 5,_=>exact aa (FC ok) (nx (.k3_1_5 n0 v h h0 h1) (by decide) (by decide))
 ·obtain ⟨k0,k1,L0,L1,y0,y1,x0,x1⟩:=v
  obtain ⟨b0,b1,b2,b3⟩:=B
  obtain rfl:n=6:=by omega
  match n0,h with
  | 0,_=>
    obtain rfl:L0=26:=h0
    obtain rfl:L1=55:=h1
    cases b3
    ·exact aa (zx ok (B:=⟨b0,b1,b2,false⟩) (v:=⟨k0,k1,26,55,y0,y1,x0,x1⟩)) (nx (.k4_0_0 1 _ (by decide) rfl rfl) (by decide) (fun _=>by decide))
    ·exact aa (zy ok (B:=⟨b0,b1,b2,true⟩) (v:=⟨k0,k1,26,55,y0,y1,x0,x1⟩)) (nx (.k4_0_0 0 _ (by decide) rfl rfl) (by decide) (fun _=>by decide))
  | 1,_=>
    obtain rfl:L0=40:=h0
    obtain rfl:L1=41:=h1
    cases b3
    ·exact aa (zz ok (B:=⟨b0,b1,b2,false⟩) (v:=⟨k0,k1,40,41,y0,y1,x0,x1⟩)) (nx (.k4_0_0 2 _ (by decide) rfl rfl) (by decide) (fun _=>by decide))
    ·exact aa (zA ok (B:=⟨b0,b1,b2,true⟩) (v:=⟨k0,k1,40,41,y0,y1,x0,x1⟩)) (nx (.k4_0_0 1 _ (by decide) rfl rfl) (by decide) (fun _=>by decide))
  | 2,_=>
    obtain rfl:L0=54:=h0
    obtain rfl:L1=27:=h1
    cases b3
    ·exact aa (zB ok (B:=⟨b0,b1,b2,false⟩) (v:=⟨k0,k1,54,27,y0,y1,x0,x1⟩)) (nx (.k4_0_0 3 _ (by decide) rfl rfl) (by decide) (fun _=>by decide))
    ·exact aa (zC ok (B:=⟨b0,b1,b2,true⟩) (v:=⟨k0,k1,54,27,y0,y1,x0,x1⟩)) (nx (.k4_0_0 2 _ (by decide) rfl rfl) (by decide) (fun _=>by decide))
  | 3,_=>
    obtain rfl:L0=68:=h0
    obtain rfl:L1=13:=h1
    cases b3
    ·exact aa (zD ok (B:=⟨b0,b1,b2,false⟩) (v:=⟨k0,k1,68,13,y0,y1,x0,x1⟩)) (nx (.k4_0_0 4 _ (by decide) rfl rfl) (by decide) (fun _=>by decide))
    ·exact aa (zE ok (B:=⟨b0,b1,b2,true⟩) (v:=⟨k0,k1,68,13,y0,y1,x0,x1⟩)) (nx (.k4_0_0 3 _ (by decide) rfl rfl) (by decide) (fun _=>by decide))
theorem N1 (h:n0≤3) (h0:v.L0=26+14*n0) (h1:v.L1=13+14*(3 - n0)) (hn:n≤6):Do ao (ad X W (f2 i n) (c7 B v) 86) (Exit.then (Nx X W B 4 i n 3) Q):=by
 rcases Nat.lt_or_ge n 5 with h2 | h2
 ·match n,h2 with
  | 0,_=>exact aa (FD ok) (nx (.k3_1_1 n0 v h h0 h1) (by decide) (by decide))
  | 1,_=>exact aa (FE ok) (nx (.k3_1_2 n0 v h h0 h1) (by decide) (by decide))
  | 2,_=>exact aa (FF ok) (nx (.k3_1_3 n0 v h h0 h1) (by decide) (by decide))
  | 3,_=>exact aa (FG ok) (nx (.k3_1_4 n0 v h h0 h1) (by decide) (by decide))
  | 4,_=>exact aa (FH ok) (nx (.k3_1_5 n0 v h h0 h1) (by decide) (by decide))
 ·obtain ⟨k0,k1,L0,L1,y0,y1,x0,x1⟩:=v
  obtain ⟨b0,b1,b2,b3⟩:=B
  match n0,h with
  | 0,_=>
    obtain rfl:L0=26:=h0
    obtain rfl:L1=55:=h1
    cases b3
    ·exact aa (zF ok h2 hn (B:=⟨b0,b1,b2,false⟩) (v:=⟨k0,k1,26,55,y0,y1,x0,x1⟩)) (nx (.k4_0_0 1 _ (by decide) rfl rfl) (by decide) (fun _=>by decide))
    ·exact aa (zG ok h2 hn (B:=⟨b0,b1,b2,true⟩) (v:=⟨k0,k1,26,55,y0,y1,x0,x1⟩)) (nx (.k4_0_0 0 _ (by decide) rfl rfl) (by decide) (fun _=>by decide))
  | 1,_=>
    obtain rfl:L0=40:=h0
    obtain rfl:L1=41:=h1
    cases b3
    ·exact aa (zH ok h2 hn (B:=⟨b0,b1,b2,false⟩) (v:=⟨k0,k1,40,41,y0,y1,x0,x1⟩)) (nx (.k4_0_0 2 _ (by decide) rfl rfl) (by decide) (fun _=>by decide))
    ·exact aa (zI ok h2 hn (B:=⟨b0,b1,b2,true⟩) (v:=⟨k0,k1,40,41,y0,y1,x0,x1⟩)) (nx (.k4_0_0 1 _ (by decide) rfl rfl) (by decide) (fun _=>by decide))
  | 2,_=>
    obtain rfl:L0=54:=h0
    obtain rfl:L1=27:=h1
    cases b3
    ·exact aa (zJ ok h2 hn (B:=⟨b0,b1,b2,false⟩) (v:=⟨k0,k1,54,27,y0,y1,x0,x1⟩)) (nx (.k4_0_0 3 _ (by decide) rfl rfl) (by decide) (fun _=>by decide))
    ·exact aa (zK ok h2 hn (B:=⟨b0,b1,b2,true⟩) (v:=⟨k0,k1,54,27,y0,y1,x0,x1⟩)) (nx (.k4_0_0 2 _ (by decide) rfl rfl) (by decide) (fun _=>by decide))
  | 3,_=>
    obtain rfl:L0=68:=h0
    obtain rfl:L1=13:=h1
    cases b3
    ·exact aa (zL ok h2 hn (B:=⟨b0,b1,b2,false⟩) (v:=⟨k0,k1,68,13,y0,y1,x0,x1⟩)) (nx (.k4_0_0 4 _ (by decide) rfl rfl) (by decide) (fun _=>by decide))
    ·exact aa (zM ok h2 hn (B:=⟨b0,b1,b2,true⟩) (v:=⟨k0,k1,68,13,y0,y1,x0,x1⟩)) (nx (.k4_0_0 3 _ (by decide) rfl rfl) (by decide) (fun _=>by decide))
theorem N2 (h:n0≤3) (h0:v.L0=26+14*n0) (h1:v.L1=13+14*(3 - n0)) (hn:n≤6):Do ao (ad X W (f2 i n) (c8 B v) 86) (Exit.then (Nx X W B 4 i n 2) Q):=by
 rcases Nat.lt_or_ge n 4 with h2 | h2
 ·match n,h2 with
  | 0,_=>exact aa (FI ok) (nx (.k3_1_2 n0 v h h0 h1) (by decide) (by decide))
  | 1,_=>exact aa (FJ ok) (nx (.k3_1_3 n0 v h h0 h1) (by decide) (by decide))
  | 2,_=>exact aa (FK ok) (nx (.k3_1_4 n0 v h h0 h1) (by decide) (by decide))
  | 3,_=>exact aa (FL ok) (nx (.k3_1_5 n0 v h h0 h1) (by decide) (by decide))
 ·obtain ⟨k0,k1,L0,L1,y0,y1,x0,x1⟩:=v
  obtain ⟨b0,b1,b2,b3⟩:=B
  match n0,h with
  | 0,_=>
    obtain rfl:L0=26:=h0
    obtain rfl:L1=55:=h1
    cases b3
    ·exact aa (zN ok h2 hn (B:=⟨b0,b1,b2,false⟩) (v:=⟨k0,k1,26,55,y0,y1,x0,x1⟩)) (nx (.k4_0_0 1 _ (by decide) rfl rfl) (by decide) (fun _=>by decide))
    ·exact aa (zO ok h2 hn (B:=⟨b0,b1,b2,true⟩) (v:=⟨k0,k1,26,55,y0,y1,x0,x1⟩)) (nx (.k4_0_0 0 _ (by decide) rfl rfl) (by decide) (fun _=>by decide))
  | 1,_=>
    obtain rfl:L0=40:=h0
    obtain rfl:L1=41:=h1
    cases b3
    ·exact aa (zP ok h2 hn (B:=⟨b0,b1,b2,false⟩) (v:=⟨k0,k1,40,41,y0,y1,x0,x1⟩)) (nx (.k4_0_0 2 _ (by decide) rfl rfl) (by decide) (fun _=>by decide))
    ·exact aa (zQ ok h2 hn (B:=⟨b0,b1,b2,true⟩) (v:=⟨k0,k1,40,41,y0,y1,x0,x1⟩)) (nx (.k4_0_0 1 _ (by decide) rfl rfl) (by decide) (fun _=>by decide))
  | 2,_=>
    obtain rfl:L0=54:=h0
    obtain rfl:L1=27:=h1
    cases b3
    ·exact aa (zR ok h2 hn (B:=⟨b0,b1,b2,false⟩) (v:=⟨k0,k1,54,27,y0,y1,x0,x1⟩)) (nx (.k4_0_0 3 _ (by decide) rfl rfl) (by decide) (fun _=>by decide))
    ·exact aa (zS ok h2 hn (B:=⟨b0,b1,b2,true⟩) (v:=⟨k0,k1,54,27,y0,y1,x0,x1⟩)) (nx (.k4_0_0 2 _ (by decide) rfl rfl) (by decide) (fun _=>by decide))
  | 3,_=>
    obtain rfl:L0=68:=h0
    obtain rfl:L1=13:=h1
    cases b3
    ·exact aa (zT ok h2 hn (B:=⟨b0,b1,b2,false⟩) (v:=⟨k0,k1,68,13,y0,y1,x0,x1⟩)) (nx (.k4_0_0 4 _ (by decide) rfl rfl) (by decide) (fun _=>by decide))
    ·exact aa (zU ok h2 hn (B:=⟨b0,b1,b2,true⟩) (v:=⟨k0,k1,68,13,y0,y1,x0,x1⟩)) (nx (.k4_0_0 3 _ (by decide) rfl rfl) (by decide) (fun _=>by decide))
theorem N3 (h:n0≤3) (h0:v.L0=26+14*n0) (h1:v.L1=13+14*(3 - n0)) (hn:n≤6):Do ao (ad X W (f2 i n) (c9 B v) 86) (Exit.then (Nx X W B 4 i n 2) Q):=by
 rcases Nat.lt_or_ge n 3 with h2 | h2
 ·match n,h2 with
  | 0,_=>exact aa (FM ok) (nx (.k3_1_3 n0 v h h0 h1) (by decide) (by decide))
  | 1,_=>exact aa (FN ok) (nx (.k3_1_4 n0 v h h0 h1) (by decide) (by decide))
  | 2,_=>exact aa (FO ok) (nx (.k3_1_5 n0 v h h0 h1) (by decide) (by decide))
 ·obtain ⟨k0,k1,L0,L1,y0,y1,x0,x1⟩:=v
  obtain ⟨b0,b1,b2,b3⟩:=B
  match n0,h with
  | 0,_=>
    obtain rfl:L0=26:=h0
    obtain rfl:L1=55:=h1
    cases b3
    ·exact aa (zV ok h2 hn (B:=⟨b0,b1,b2,false⟩) (v:=⟨k0,k1,26,55,y0,y1,x0,x1⟩)) (nx (.k4_0_0 1 _ (by decide) rfl rfl) (by decide) (fun _=>by decide))
    ·exact aa (zW ok h2 hn (B:=⟨b0,b1,b2,true⟩) (v:=⟨k0,k1,26,55,y0,y1,x0,x1⟩)) (nx (.k4_0_0 0 _ (by decide) rfl rfl) (by decide) (fun _=>by decide))
  | 1,_=>
    obtain rfl:L0=40:=h0
    obtain rfl:L1=41:=h1
    cases b3
    ·exact aa (zX ok h2 hn (B:=⟨b0,b1,b2,false⟩) (v:=⟨k0,k1,40,41,y0,y1,x0,x1⟩)) (nx (.k4_0_0 2 _ (by decide) rfl rfl) (by decide) (fun _=>by decide))
    ·exact aa (zY ok h2 hn (B:=⟨b0,b1,b2,true⟩) (v:=⟨k0,k1,40,41,y0,y1,x0,x1⟩)) (nx (.k4_0_0 1 _ (by decide) rfl rfl) (by decide) (fun _=>by decide))
  | 2,_=>
    obtain rfl:L0=54:=h0
    obtain rfl:L1=27:=h1
    cases b3
    ·exact aa (zZ ok h2 hn (B:=⟨b0,b1,b2,false⟩) (v:=⟨k0,k1,54,27,y0,y1,x0,x1⟩)) (nx (.k4_0_0 3 _ (by decide) rfl rfl) (by decide) (fun _=>by decide))
    ·exact aa (z5 ok h2 hn (B:=⟨b0,b1,b2,true⟩) (v:=⟨k0,k1,54,27,y0,y1,x0,x1⟩)) (nx (.k4_0_0 2 _ (by decide) rfl rfl) (by decide) (fun _=>by decide))
  | 3,_=>
    obtain rfl:L0=68:=h0
    obtain rfl:L1=13:=h1
    cases b3
    ·exact aa (z6 ok h2 hn (B:=⟨b0,b1,b2,false⟩) (v:=⟨k0,k1,68,13,y0,y1,x0,x1⟩)) (nx (.k4_0_0 4 _ (by decide) rfl rfl) (by decide) (fun _=>by decide))
    ·exact aa (z7 ok h2 hn (B:=⟨b0,b1,b2,true⟩) (v:=⟨k0,k1,68,13,y0,y1,x0,x1⟩)) (nx (.k4_0_0 3 _ (by decide) rfl rfl) (by decide) (fun _=>by decide))
theorem N4 (h:n0≤3) (h0:v.L0=26+14*n0) (h1:v.L1=13+14*(3 - n0)) (hn:n≤6):Do ao (ad X W (f2 i n) (c_ B v) 89) (Exit.then (Nx X W B 4 i n 1) Q):=by
 rcases Nat.lt_or_ge n 2 with h2 | h2
 ·match n,h2 with
  | 0,_=>exact aa (FP ok) (nx (.k3_1_4 n0 v h h0 h1) (by decide) (by decide))
  | 1,_=>exact aa (FQ ok) (nx (.k3_1_5 n0 v h h0 h1) (by decide) (by decide))
 ·obtain ⟨k0,k1,L0,L1,y0,y1,x0,x1⟩:=v
  obtain ⟨b0,b1,b2,b3⟩:=B
  match n0,h with
  | 0,_=>
    obtain rfl:L0=26:=h0
    obtain rfl:L1=55:=h1
    cases b3
    ·exact aa (z8 ok h2 hn (B:=⟨b0,b1,b2,false⟩) (v:=⟨k0,k1,26,55,y0,y1,x0,x1⟩)) (nx (.k4_0_0 1 _ (by decide) rfl rfl) (by decide) (fun _=>by decide))
    ·exact aa (z9 ok h2 hn (B:=⟨b0,b1,b2,true⟩) (v:=⟨k0,k1,26,55,y0,y1,x0,x1⟩)) (nx (.k4_0_0 0 _ (by decide) rfl rfl) (by decide) (fun _=>by decide))
  | 1,_=>
    obtain rfl:L0=40:=h0
    obtain rfl:L1=41:=h1
    cases b3
    ·exact aa (z_ ok h2 hn (B:=⟨b0,b1,b2,false⟩) (v:=⟨k0,k1,40,41,y0,y1,x0,x1⟩)) (nx (.k4_0_0 2 _ (by decide) rfl rfl) (by decide) (fun _=>by decide))
    ·exact aa (Aa ok h2 hn (B:=⟨b0,b1,b2,true⟩) (v:=⟨k0,k1,40,41,y0,y1,x0,x1⟩)) (nx (.k4_0_0 1 _ (by decide) rfl rfl) (by decide) (fun _=>by decide))
  | 2,_=>
    obtain rfl:L0=54:=h0
    obtain rfl:L1=27:=h1
    cases b3
    ·exact aa (Ab ok h2 hn (B:=⟨b0,b1,b2,false⟩) (v:=⟨k0,k1,54,27,y0,y1,x0,x1⟩)) (nx (.k4_0_0 3 _ (by decide) rfl rfl) (by decide) (fun _=>by decide))
    ·exact aa (Ac ok h2 hn (B:=⟨b0,b1,b2,true⟩) (v:=⟨k0,k1,54,27,y0,y1,x0,x1⟩)) (nx (.k4_0_0 2 _ (by decide) rfl rfl) (by decide) (fun _=>by decide))
  | 3,_=>
    obtain rfl:L0=68:=h0
    obtain rfl:L1=13:=h1
    cases b3
    ·exact aa (Ad ok h2 hn (B:=⟨b0,b1,b2,false⟩) (v:=⟨k0,k1,68,13,y0,y1,x0,x1⟩)) (nx (.k4_0_0 4 _ (by decide) rfl rfl) (by decide) (fun _=>by decide))
    ·exact aa (Ae ok h2 hn (B:=⟨b0,b1,b2,true⟩) (v:=⟨k0,k1,68,13,y0,y1,x0,x1⟩)) (nx (.k4_0_0 3 _ (by decide) rfl rfl) (by decide) (fun _=>by decide))
theorem N5 (h:n0≤3) (h0:v.L0=26+14*n0) (h1:v.L1=13+14*(3 - n0)) (hn:n≤6):Do ao (ad X W (f2 i n) (da B v) 89) (Exit.then (Nx X W B 4 i n 1) Q):=by
 rcases Nat.lt_or_ge n 1 with h2 | h2
 ·match n,h2 with
  | 0,_=>exact aa (FR ok) (nx (.k3_1_5 n0 v h h0 h1) (by decide) (by decide))
 ·obtain ⟨k0,k1,L0,L1,y0,y1,x0,x1⟩:=v
  obtain ⟨b0,b1,b2,b3⟩:=B
  match n0,h with
  | 0,_=>
    obtain rfl:L0=26:=h0
    obtain rfl:L1=55:=h1
    cases b3
    ·exact aa (Af ok h2 hn (B:=⟨b0,b1,b2,false⟩) (v:=⟨k0,k1,26,55,y0,y1,x0,x1⟩)) (nx (.k4_0_0 1 _ (by decide) rfl rfl) (by decide) (fun _=>by decide))
    ·exact aa (Ag ok h2 hn (B:=⟨b0,b1,b2,true⟩) (v:=⟨k0,k1,26,55,y0,y1,x0,x1⟩)) (nx (.k4_0_0 0 _ (by decide) rfl rfl) (by decide) (fun _=>by decide))
  | 1,_=>
    obtain rfl:L0=40:=h0
    obtain rfl:L1=41:=h1
    cases b3
    ·exact aa (Ah ok h2 hn (B:=⟨b0,b1,b2,false⟩) (v:=⟨k0,k1,40,41,y0,y1,x0,x1⟩)) (nx (.k4_0_0 2 _ (by decide) rfl rfl) (by decide) (fun _=>by decide))
    ·exact aa (Ai ok h2 hn (B:=⟨b0,b1,b2,true⟩) (v:=⟨k0,k1,40,41,y0,y1,x0,x1⟩)) (nx (.k4_0_0 1 _ (by decide) rfl rfl) (by decide) (fun _=>by decide))
  | 2,_=>
    obtain rfl:L0=54:=h0
    obtain rfl:L1=27:=h1
    cases b3
    ·exact aa (Aj ok h2 hn (B:=⟨b0,b1,b2,false⟩) (v:=⟨k0,k1,54,27,y0,y1,x0,x1⟩)) (nx (.k4_0_0 3 _ (by decide) rfl rfl) (by decide) (fun _=>by decide))
    ·exact aa (Ak ok h2 hn (B:=⟨b0,b1,b2,true⟩) (v:=⟨k0,k1,54,27,y0,y1,x0,x1⟩)) (nx (.k4_0_0 2 _ (by decide) rfl rfl) (by decide) (fun _=>by decide))
  | 3,_=>
    obtain rfl:L0=68:=h0
    obtain rfl:L1=13:=h1
    cases b3
    ·exact aa (Al ok h2 hn (B:=⟨b0,b1,b2,false⟩) (v:=⟨k0,k1,68,13,y0,y1,x0,x1⟩)) (nx (.k4_0_0 4 _ (by decide) rfl rfl) (by decide) (fun _=>by decide))
    ·exact aa (Am ok h2 hn (B:=⟨b0,b1,b2,true⟩) (v:=⟨k0,k1,68,13,y0,y1,x0,x1⟩)) (nx (.k4_0_0 3 _ (by decide) rfl rfl) (by decide) (fun _=>by decide))
theorem N6 (h:n0≤4) (h0:v.L0=26+14*n0) (h1:v.L1=13+14*(4 - n0)) (hn:n≤6):Do ao (ad X W (f2 i n) (az B v) 79) (Exit.then (Nx X W B 4 i n 0) Q):=by
 exact aa (z4 ok) (nx (.k4_0_0 n0 v h h0 h1) (by decide) (fun _=>by decide))
end
end Go.Proofs.YtfcljjhlijolgaaGreatDoor.serverQueue
