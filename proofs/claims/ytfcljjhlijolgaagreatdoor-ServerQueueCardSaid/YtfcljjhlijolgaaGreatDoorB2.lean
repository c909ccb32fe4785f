import Derived.Test.YtfcljjhlijolgaaGreatDoorB1
import Derived.Orders
import Derived.ChangeSlices
noncomputable section
section
set_option linter.unusedVariables false
set_option linter.unusedSimpArgs false
namespace Eng
open Go Go.RowKit
section
variable {P:Program} {μ μ':Mp} {h h':Hp} {w w':World} {t:T} {ρ:Operand→Value} {ty:TypeId}
theorem nR (n:Nat): ∀(r c:Nat),Builtin.growBy n r c≤max c (n+(n+768) / 4)
 | 0,c=>by simp [Builtin.growBy];omega
 | r+1,c=>by
   unfold Builtin.growBy
   split
   ·omega
   ·have:=nR n r (c+(c+768) / 4)
    omega
theorem rQ {n c:Nat} (h:c < n):Builtin.nextslicecap n c≤3*n:=by
 unfold Builtin.nextslicecap
 split
 ·omega
 ·split
  ·omega
  ·have:=nR n 4 c
   omega
inductive mK (P:Program) (w:World) (el xt:TypeId) (sz m:Nat) (x:Value) (xs:List Value):Prop where
 | cells (d:TypeDesc) (hx:P.underlying xt=some d) (hd: ∀k,d≠ .int k) (hlen: ∀w,(Builtin.lenOf x).run P w= .ok m w)
   (hf: ∀w1:World,w1.heap=w.heap→(Builtin.firstCells sz m x).run P w1= .ok xs.toArray w1)
 | zeros (k k':IntKind) (by_:Nat) (z:Value) (hx:P.underlying xt=some (.int k)) (hv:x= .int k' m) (hm:m≤70368744177664) (hby:bytesOf P el=some by_) (hmb:m*by_≤70368744177664)
   (hz: ∀w,(zeroValue el).run P w= .ok z w) (h0:m=0→xs= []) (hxs:m≠0→Builtin.zeroCells z.cells m=xs.toArray)
theorem jX {el:TypeId} {by_:Nat} (hby:bytesOf P el=some by_) (w:World): ∃i,P.info? el=some i∧i.bytes=by_∧(typeInfo el).run P w= .ok i w:=by
 unfold bytesOf at hby
 cases hi:P.info? el with
 | none=>rw [hi] at hby;cases hby
 | some i=>rw [hi] at hby;exact ⟨i,rfl,Option.some.inj hby,by simp [typeInfo,hi]⟩
theorem qe {m:Nat} (hm:m≤70368744177664):IntKind.i64.wrap (m:Int)=m:=by
 rw [←jU]
 show bc (Nat.blt m 9223372036854775808) (Int.ofNat m) _=_
 rw [dC,if_pos (by omega)];rfl
theorem run_append_fits {st xt ret el:TypeId} {sz:Nat} {base:Option Addr} {sLen sCap m:Nat} {x:Value} {xs:List Value} (hsz:sz≠0)
  (hu:P.underlying st=some (.slice el)) (hn:b5 P el=some sz) (ht:mK P w el xt sz m x xs) (hfit:sLen+m≤sCap)
  (hst:match base with | some a=>(storeCells (a.add (sLen*sz)) xs).run P w= .ok () w' | none=>w'=w):
  (Builtin.append_ #[st,xt] ret #[.slice base sLen sCap,x]).run P w= .ok (.slice base (sLen+m) sCap) w':=by
 cases ht with
 | cells d hx hd hlen hf=>
   have hdm:(d matches .int _)=false:=by cases d <;> first | rfl | exact absurd rfl (hd _)
   simp only [Builtin.append_,Sem.run_bind,run_underlying hu,run_underlying hx,run_sizeOf hn,Result.andThen_ok,List.getElem?_toArray,List.getElem?_cons_zero,List.getElem?_cons_succ,Sem.run_pure,hdm,hlen,
    Bool.false_eq_true,if_false,Sem.run_ite,if_pos hfit,Bool.not_false,if_true,hf w rfl]
   cases base with
   | none=>subst hst;simp
   | some a=>simp only [Sem.run_bind,hst,Result.andThen_ok,Sem.run_pure]
 | zeros k k' by_ z hx hv hm hby hmb hz h0 hxs=>
   subst hv
   obtain ⟨i,hi,hbi,hti⟩:=jX hby w
   have hneg: ¬((m:Int) < 0):=by omega
   have hbig: ¬((m:Int)*(i.bytes:Int) > 2 ^ 48):=by
    rw [hbi]
    have:((m:Int)*(by_:Int))=((m*by_:Nat):Int):=by simp
    rw [this];omega
   have happ:(if m*sz=0 then (Result.ok #[] w:Result (Array Value)) else ((zeroValue el).run P w).andThen fun a w'=> .ok (Builtin.zeroCells a.cells m) w')= .ok xs.toArray w:=by
    by_cases hm0:m=0
    ·subst hm0;rw [if_pos (Nat.zero_mul sz),h0 rfl]
    ·rw [if_neg (Nat.mul_ne_zero hm0 hsz),hz,Result.andThen_ok,hxs hm0]
   simp only [Builtin.append_,Sem.run_bind,run_underlying hu,run_underlying hx,run_sizeOf hn,Result.andThen_ok,List.getElem?_toArray,List.getElem?_cons_zero,List.getElem?_cons_succ,Sem.run_pure,
    if_true,Sem.run_ite,asInt,asIntOf,qe hm,if_neg hneg,hti,if_neg hbig,Int.toNat_natCast,if_pos hfit,Bool.not_true,Bool.false_eq_true,if_false,happ]
   cases base with
   | none=>subst hst;simp
   | some a=>simp only [Sem.run_bind,hst,Result.andThen_ok,Sem.run_pure]
theorem gW {st xt ret el:TypeId} {sz by_:Nat} {base:Option Addr} {sLen sCap m:Nat} {x z:Value} {xs dW:List Value} (hsz:sz≠0)
  (hu:P.underlying st=some (.slice el)) (hn:b5 P el=some sz) (hby:bytesOf P el=some by_) (hz: ∀w,(zeroValue el).run P w= .ok z w) (ht:mK P w el xt sz m x xs) (hgrow:sCap < sLen+m)
  (hb1:(sLen+m)*by_≤70368744177664) (hb2:sLen+m≤70368744177664)
  (hold: ∀w1:World,w1.heap=w.heap→(Builtin.firstCells sz sLen (.slice base sLen sCap)).run P w1= .ok dW.toArray w1):
  ∃cap,sLen+m≤cap∧(Builtin.append_ #[st,xt] ret #[.slice base sLen sCap,x]).run P w=
   .ok (.slice (some ⟨w.heap.size,0,none⟩) (sLen+m) cap) {w with drawn:=w.drawn+1,heap:=w.heap.push (.cells (dW.toArray++xs.toArray++Builtin.zeroCells z.cells (cap - (sLen+m))) el)}:=by
 obtain ⟨i,hi,hbi,_⟩:=jX hby w
 have hti: ∀w,(typeInfo el).run P w= .ok i w:=fun w=>by simp [typeInfo,hi]
 have hfit: ¬(sLen+m≤sCap):=by omega
 have hmax: ¬(((sLen+m:Nat):Int) > IntKind.i64.max):=by
  have:IntKind.i64.max=9223372036854775807:=rfl
  rw [this];omega
 have hcap: ¬(Builtin.nextslicecap (sLen+m) sCap*i.bytes > 2 ^ 48):=by
  have h1:=rQ hgrow
  have h2:Builtin.nextslicecap (sLen+m) sCap*i.bytes≤3*(sLen+m)*i.bytes:=Nat.mul_le_mul_right _ h1
  rw [hbi] at *
  have h3:3*(sLen+m)*by_=3*((sLen+m)*by_):=Nat.mul_assoc _ _ _
  omega
 obtain ⟨cap,hc1,hc2⟩: ∃cap,sLen+m≤cap∧(choose (.appendCap (sLen+m) sCap el)).run P w= .ok cap {w with drawn:=w.drawn+1}:=
  ⟨_,Nat.le_add_right _ _,by simp only [run_choose];rfl⟩
 refine ⟨cap,hc1,?_⟩
 have hold':=hold {w with drawn:=w.drawn+1} rfl
 cases ht with
 | cells d hx hd hlen hf=>
   have hdm:(d matches .int _)=false:=by cases d <;> first | rfl | exact absurd rfl (hd _)
   have hf':=hf {w with drawn:=w.drawn+1} rfl
   have hb: ¬(((sLen+m:Nat):Int) > IntKind.i64.max∧(False∨i.bytes=0)):=fun h=>hmax h.1
   simp only [Builtin.append_,Sem.run_bind,run_underlying hu,run_underlying hx,run_sizeOf hn,Result.andThen_ok,List.getElem?_toArray,List.getElem?_cons_zero,List.getElem?_cons_succ,Sem.run_pure,hdm,hlen,
    Bool.false_eq_true,if_false,Sem.run_ite,if_neg hfit,Bool.not_false,if_true,hti,if_neg hb,if_neg hcap,hc2,run_askRoom,hold',hf',hz,cY]
 | zeros k k' by2 z2 hx hv hm hby2 hmb hz2 h0 hxs=>
   subst hv
   have hneg: ¬((m:Int) < 0):=by omega
   have hbig: ¬((m:Int)*(i.bytes:Int) > 2 ^ 48):=by
    rw [hby] at hby2;cases hby2
    rw [hbi]
    have:((m:Int)*(by_:Int))=((m*by_:Nat):Int):=by simp
    rw [this];omega
   have hzz:z2=z:=by
    have h1:=hz2 w
    rw [hz w] at h1
    cases h1;rfl
   subst hzz
   have happ:(if m*sz=0 then (Result.ok #[] {w with drawn:=w.drawn+1}:Result (Array Value)) else .ok (Builtin.zeroCells z2.cells m) {w with drawn:=w.drawn+1})=
     .ok xs.toArray {w with drawn:=w.drawn+1}:=by
    by_cases hm0:m=0
    ·subst hm0;rw [if_pos (Nat.zero_mul sz),h0 rfl]
    ·rw [if_neg (Nat.mul_ne_zero hm0 hsz),hxs hm0]
   have hb: ¬(((sLen+m:Nat):Int) > IntKind.i64.max∧(True∨i.bytes=0)):=fun h=>hmax h.1
   simp only [Builtin.append_,Sem.run_bind,run_underlying hu,run_underlying hx,run_sizeOf hn,Result.andThen_ok,List.getElem?_toArray,List.getElem?_cons_zero,List.getElem?_cons_succ,Sem.run_pure,
    if_true,Sem.run_ite,asInt,asIntOf,qe hm,if_neg hneg,hti,if_neg hbig,Int.toNat_natCast,if_neg hfit,Bool.not_true,Bool.false_eq_true,if_false,if_neg hb,if_neg hcap,hc2,run_askRoom,hold',hz,happ,cY]
theorem bq.drawn (hs:bq μ h w) {n:Nat}:bq μ h {w with drawn:=n}:=
 ⟨hs.lt,hs.fresh,hs.dW,fun b c s x e g=>(hs.d_ b c s x e g).mono (Mp.Le.refl μ) rfl rfl rfl,hs.apart,hs.peer⟩
theorem bq.kill (hs:bq μ h w) {b:Nat} (hb: ∃y,μ.at_ b=some y):bq μ (b9 h b .dead) w:=by
 have au: ∀b' x,au (b9 h b .dead) b'=some x→x≠ .dead→au h b'=some x:=fun b' x hx hd=>by
  rw [il] at hx
  split at hx
  ·cases hx;exact absurd rfl hd
  ·exact hx
 refine ⟨hs.lt,fun b' hb'=>?_,hs.dW,fun b' c s x e hx=>?_,fun b1 b2 c s1 s2 x1 x2 hne e1 e2 ho g1 g2 d1 d2=>hs.apart b1 b2 c s1 s2 x1 x2 hne e1 e2 ho (au _ _ g1 d1) (au _ _ g2 d2) d1 d2,
  fun b' c s cs n p e g=>hs.peer b' c s cs n p e (au _ _ g nofun)⟩
 ·rw [il,if_neg ?_]
  ·exact hs.fresh b' hb'
  ·intro e;subst e
   obtain ⟨y,hy⟩:=hb
   rw [hs.lt b' hb'] at hy;cases hy
 ·by_cases hd:x= .dead
  ·subst hd;trivial
  ·exact hs.d_ b' c s x e (au _ _ hx hd)
theorem bF.kill (hs:bq μ h w) {b:Nat} (hb: ∃y,μ.at_ b=some y):bF μ h w μ (b9 h b .dead) w:=
 ⟨Nat.le_refl _,fun _ _=>rfl,fun _ _=>rfl,fun _ _=>rfl,Nat.le_refl _,fun _ _ _=>rfl,(fun b' _ hn=>by
  refine .inl ?_
  rw [il,if_neg]
  intro e;subst e
  obtain ⟨y,hy⟩:=hb
  rw [hn] at hy;cases hy),rfl,rfl,rfl⟩
theorem bq.push (hs:bq μ h w) {o:Obj} {x:aY} {n:Nat} (p:ey w o w') (hsolo: ∀cs n p,x≠ .cells cs n (.pair p)) (hblk:iW (μ.ext h.next w.heap.size 0 n) w' w.heap.size 0 x):
  bq (μ.ext h.next w.heap.size 0 n) (bz h x) w'∧bF μ h w (μ.ext h.next w.heap.size 0 n) (bz h x) w':=by
 have hnone:μ.at_ h.next=none:=hs.lt _ (Nat.le_refl _)
 refine ⟨hs.AZ hnone p (fun y hy=>by rw [dE] at hy;exact (Option.some.inj hy).symm) (fun b' hb'=>aC _ _ hb') (Nat.lt_succ_self _) (Nat.le_succ _) hsolo hblk,?_⟩
 refine ⟨Nat.le_succ _,fun b' hb'=>?_,fun c hc=>?_,fun c hc=>?_,by rw [p.size];omega,fun c hc _=>p.dW hc,fun b' hb' _=> .inl (aC _ _ (by omega)),p.os,p.tape,p.output⟩
 ·show (if b'=h.next then _ else _)=_;rw [if_neg (by omega)]
 ·show (if c=w.heap.size then _ else _)=_;rw [if_neg (by omega)]
 ·show (if c=w.heap.size then _ else _)=_;rw [if_neg (by omega)]
theorem A_ (hs:bq μ h w) {el:TypeId} {need sz cap:Nat} {cs:List AV} {xs rest:List Value} {v:AV} (r:bb μ cs xs) (hc: ∀v ∈ cs,aD v=true) (hl:cs.length=need*sz) (hcap:need≤cap)
  (hrest:rest.length=(cap - need)*sz) (e:grown h need sz cs= .ok v h'):
  ∃μ',bF μ h w μ' h' {w with drawn:=w.drawn+1,heap:=w.heap.push (.cells (xs++rest).toArray el)}∧bq μ' h' {w with drawn:=w.drawn+1,heap:=w.heap.push (.cells (xs++rest).toArray el)}∧
   VR μ' v (.slice (some ⟨w.heap.size,0,none⟩) need cap):=by
 cases e
 have hp:ey w (.cells (xs++rest).toArray el) {w with drawn:=w.drawn+1,heap:=w.heap.push (.cells (xs++rest).toArray el)}:=⟨rfl,rfl,rfl,rfl⟩
 have hlx:=r.length
 have hsize:(xs++rest).toArray.size=cap*sz:=by
  simp [hlx,hl,hrest,←Nat.add_mul];congr 1;omega
 have hle:=mI (n:=cap*sz) hs (hs.lt h.next (Nat.le_refl _))
 have hown:(μ.ext h.next w.heap.size 0 (cap*sz)).own w.heap.size=true:=by show (if _ then _ else _)=_;rw [if_pos rfl]
 have hsz2:(μ.ext h.next w.heap.size 0 (cap*sz)).size w.heap.size=cap*sz:=by show (if _ then _ else _)=_;rw [if_pos rfl]
 have hat:(μ.ext h.next w.heap.size 0 (cap*sz)).at_ h.next=some (w.heap.size,0):=by show (if _ then _ else _)=_;rw [if_pos rfl]
 obtain ⟨h1,h2⟩:=hs.push (x:=aZ cs (Nat.mul need sz)) (n:=cap*sz) hp (fun _ _ _ e=>by cases e) (gU hl hc hp (dp _) (fun i v hv=>by
   obtain ⟨x,hx,rx⟩:=r.get i v hv
   refine ⟨x,?_,rx⟩
   have:i < xs.length:=(List.getElem?_eq_some_iff.1 hx).1
   simp [List.getElem?_append_left this,hx]) _ hle hown (by rw [hsz2,hsize]))
 exact ⟨_,h2,h1,p_ hat (Nat.le_refl _) hcap nofun hsz2 (Nat.le_refl _)⟩
theorem bq.share (hs:bq μ h w) {b c s k n:Nat} {dW cs:List AV} {ow:Own} (hb:μ.at_ b=some (c,s)) (hg:au h b=some (.cells dW k ow)) (hro:ow≠ .ro)
  (halone: ∀b' s' x,b'≠b→μ.at_ b'=some (c,s')→au h b'=some x→x= .dead)
  {c' s':Nat} (hat: ∀b',μ'.at_ b'=if b'=h.next then some (c',s') else μ.at_ b') (hle:μ.Le μ') (hc':c'=c∨w.heap.size≤c')
  (hold: ∀b0 c0 s0 x0,μ.at_ b0=some (c0,s0)→au h b0=some x0→iW μ' w' c0 s0 x0) (hnew:iW μ' w' c' s' (.cells cs n (.pair b))) (hsize:w.heap.size≤w'.heap.size) (hlt:c' < w'.heap.size):
  bq μ' (b9 (bz h (.cells cs n (.pair b))) b (.cells dW k (.pair h.next))) w':=by
 have hbn:b≠h.next:=fun e=>by rw [e,hs.lt _ (Nat.le_refl _)] at hb;cases hb
 have hbl:b < h.next:=by
  rcases Nat.lt_or_ge b h.next with hh | hh
  ·exact hh
  ·rw [hs.lt b hh] at hb;cases hb
 have g1:au (b9 (bz h (.cells cs n (.pair b))) b (.cells dW k (.pair h.next))) b=some (.cells dW k (.pair h.next)):=eJ _ _ _
 have g2:au (b9 (bz h (.cells cs n (.pair b))) b (.cells dW k (.pair h.next))) h.next=some (.cells cs n (.pair b)):=by
  rw [aO _ _ hbn.symm,dE]
 have g3: ∀b',b'≠b→b'≠h.next→au (b9 (bz h (.cells cs n (.pair b))) b (.cells dW k (.pair h.next))) b'=au h b':=fun b' h1 h2=>by
  rw [aO _ _ h1,aC _ _ h2]
 have hatb:μ'.at_ b=some (c,s):=by rw [hat,if_neg hbn];exact hb
 have hatn:μ'.at_ h.next=some (c',s'):=by rw [hat,if_pos rfl]
 have hato: ∀b' y,b'≠h.next→(μ'.at_ b'=some y ↔ μ.at_ b'=some y):=fun b' y hn=>by rw [hat,if_neg hn]
 refine ⟨fun b' hb'=>?_,fun b' hb'=>?_,fun b' c0 s0 e=>?_,fun b' c0 s0 x e hx=>?_,fun B1 B2 C0 S1 S2 X1 X2 Hne E1 E2 Ho K1 K2 D1 D2=>?_,fun b' c0 s0 cs0 n0 p e g=>?_⟩
 ·have hb':h.next+1≤b':=hb'
  rw [hat,if_neg (by omega)];exact hs.lt b' (by omega)
 ·have hb':h.next+1≤b':=hb'
  rw [g3 b' (by omega) (by omega)];exact hs.fresh b' (by omega)
 ·by_cases hn:b'=h.next
  ·subst hn;rw [hatn] at e;cases e;exact hlt
  ·have:=hs.dW b' c0 s0 ((hato b' _ hn).1 e);omega
 ·by_cases hn:b'=h.next
  ·subst hn;rw [hatn] at e;cases e;rw [g2] at hx;cases hx;exact hnew
  ·have e':=(hato b' _ hn).1 e
   by_cases hbb:b'=b
   ·subst hbb
    rw [g1] at hx;cases hx
    rw [hb] at e';cases e'
    obtain ⟨h1,h2,h3,h4⟩:=hold b' c s _ hb hg
    exact ⟨h1,h2,⟨fun _=>nofun,fun _=>h3.2 hro⟩,h4⟩
   ·rw [g3 b' hbb hn] at hx
    exact hold b' c0 s0 x e' hx
 ·-- who shares memory
  have key: ∀b1 b2 c0 s1 s2 x1 x2,b1≠b2→b1≠h.next→b1≠b→μ'.at_ b1=some (c0,s1)→μ'.at_ b2=some (c0,s2)→μ'.own c0=true→
    au (b9 (bz h (.cells cs n (.pair b))) b (.cells dW k (.pair h.next))) b1=some x1→au (b9 (bz h (.cells cs n (.pair b))) b (.cells dW k (.pair h.next))) b2=some x2→x1≠ .dead→x2≠ .dead→
    ∃cs n cs' n',x1= .cells cs n (.pair b2)∧x2= .cells cs' n' (.pair b1):=by
   intro b1 b2 c0 s1 s2 x1 x2 hne hn1 hb1 e1 e2 ho k1 k2 d1 d2
   have e1':=(hato b1 _ hn1).1 e1
   rw [g3 b1 hb1 hn1] at k1
   by_cases hn2:b2=h.next
   ·subst hn2
    rw [hatn] at e2;cases e2
    rcases hc' with rfl | hc'
    ·exact absurd (halone b1 s1 x1 hb1 e1' k1) d1
    ·have:=hs.dW b1 _ _ e1';omega
   ·have e2':=(hato b2 _ hn2).1 e2
    by_cases hb2:b2=b
    ·subst hb2
     rw [hb] at e2';cases e2'
     exact absurd (halone b1 s1 x1 hb1 e1' k1) d1
    ·rw [g3 b2 hb2 hn2] at k2
     have ho':μ.own c0=true:=by rw [←(hle b1 c0 s1 e1').2.2];exact ho
     exact hs.apart b1 b2 c0 s1 s2 x1 x2 hne e1' e2' ho' k1 k2 d1 d2
  by_cases hn1:B1=h.next
  ·subst hn1
   by_cases hb2:B2=b
   ·subst hb2
    rw [g2] at K1;rw [g1] at K2;cases K1;cases K2
    exact ⟨_,_,_,_,rfl,rfl⟩
   ·obtain ⟨_,_,_,_,h1,h2⟩:=key B2 h.next C0 S2 S1 X2 X1 Hne.symm Hne.symm hb2 E2 E1 Ho K2 K1 D2 D1
    exact ⟨_,_,_,_,h2,h1⟩
  ·by_cases hb1:B1=b
   ·subst hb1
    by_cases hn2:B2=h.next
    ·subst hn2
     rw [g1] at K1;rw [g2] at K2;cases K1;cases K2
     exact ⟨_,_,_,_,rfl,rfl⟩
    ·obtain ⟨_,_,_,_,h1,h2⟩:=key B2 B1 C0 S2 S1 X2 X1 Hne.symm hn2 Hne.symm E2 E1 Ho K2 K1 D2 D1
     exact ⟨_,_,_,_,h2,h1⟩
   ·exact key B1 B2 C0 S1 S2 X1 X2 Hne hn1 hb1 E1 E2 Ho K1 K2 D1 D2
 ·by_cases hn:b'=h.next
  ·subst hn;rw [g2] at g;cases g;exact ⟨_,hatb⟩
  ·by_cases hbb:b'=b
   ·subst hbb;rw [g1] at g;cases g;exact ⟨_,hatn⟩
   ·rw [g3 b' hbb hn] at g
    obtain ⟨y,hy⟩:=hs.peer b' c0 s0 cs0 n0 p ((hato b' _ hn).1 e) g
    exact ⟨y,(hle p y.1 y.2 hy).1⟩
theorem bF.share {b c s k n:Nat} {dW cs:List AV} (hs:bq μ h w) (hb:μ.at_ b=some (c,s)) {c' s':Nat} (hat: ∀b',μ'.at_ b'=if b'=h.next then some (c',s') else μ.at_ b')
  (hown: ∀c,c < w.heap.size→μ'.own c=μ.own c) (hsz: ∀c,c < w.heap.size→μ'.size c=μ.size c) (hsize:w.heap.size≤w'.heap.size)
  (hkept: ∀c,c < w.heap.size→μ.own c=false→w'.heap[c]? =w.heap[c]?) (hos:w'.os=w.os) (ht:w'.tape=w.tape) (ho:w'.output=w.output):
  bF μ h w μ' (b9 (bz h (.cells cs n (.pair b))) b (.cells dW k (.pair h.next))) w':=by
 refine ⟨Nat.le_succ _,fun b' hb'=>by rw [hat,if_neg (by omega)],hown,hsz,hsize,hkept,fun b' hb' hn=> .inl ?_,hos,ht,ho⟩
 rw [aO _ _ (fun e=>by subst e;rw [hn] at hb;cases hb),aC _ _ (by omega)]
end
end Eng
end
section
set_option linter.unusedVariables false
set_option linter.unusedSimpArgs false
namespace Eng
open Go Go.RowKit
section
variable {P:Program} {μ μ':Mp} {h h':Hp} {w w':World} {t:T} {ρ:Operand→Value} {ty:TypeId}
theorem wrote {c o:Nat} {arr:Array Value} {el:TypeId} {fr:Nat×Nat} {xs:List Value} (hw:w.heap[c]? =some (.cells arr el fr)) (hun:cz arr.size fr) (hroom:o+xs.length≤arr.size)
  (h1: ∀x ∈ xs,x.oneCell'=true): ∃w',(storeCells ⟨c,o,none⟩ xs).run P w= .ok () w'∧∃arr':Array Value,w'.heap[c]? =some (.cells arr' el fr)∧arr'.size=arr.size∧
   (∀j x,xs[j]? =some x→arr'[o+j]? =some x)∧(∀i,(i < o∨o+xs.length≤i)→arr'[i]? =arr[i]?)∧
   (∀c',c'≠c→w'.heap[c']? =w.heap[c']?)∧w'.heap.size=w.heap.size∧w'.os=w.os∧w'.tape=w.tape∧w'.output=w.output:=by
 obtain ⟨⟨arr',h2,h3⟩,h4,h5,h6,h7,h8⟩:=gL (vs:=xs) hw hroom
 have hsz2:arr'.size=arr.size:=by
  have:=congrArg List.length h3
  simp at this;omega
 refine ⟨_,fT hw hun hroom h1,arr',h2,hsz2,fun j x hx=>?_,fun i hi=>?_,h4,h5,h6,h7,h8⟩
 ·have hj:=(List.getElem?_eq_some_iff.1 hx).1
  rw [←Array.getElem?_toList,h3,List.append_assoc,List.getElem?_append_right (by simp;omega)]
  rw [List.getElem?_append_left (by simp;omega),←hx]
  congr 1;simp;omega
 ·rw [←Array.getElem?_toList,h3,List.append_assoc]
  rcases hi with hi | hi
  ·rw [List.getElem?_append_left (by simp;omega),List.getElem?_take,if_pos hi,Array.getElem?_toList]
  ·rw [List.getElem?_append_right (by simp;omega),List.getElem?_append_right (by simp;omega),List.getElem?_drop,Array.getElem?_toList]
   congr 1;simp;omega
theorem bb.Ba {l:List AV} {xs:List Value} (r:bb μ l xs) (hc: ∀v ∈ l,aD v=true): ∀x ∈ xs,x.oneCell'=true:=fun x hx=>by
 have hlen:=r.length
 obtain ⟨j,hj,rfl⟩:=List.mem_iff_getElem.1 hx
 obtain ⟨v',hv'⟩: ∃v',l[j]? =some v':=⟨_,List.getElem?_eq_getElem (by omega)⟩
 obtain ⟨y,hy,ry⟩:=r.get j v' hv'
 rw [List.getElem?_eq_getElem hj] at hy
 rw [Option.some.inj hy]
 exact ry.o8 (hc v' (List.mem_of_getElem? hv'))
theorem bq.alone (hs:bq μ h w) {b c s k:Nat} {dW:List AV} {ow:Own} (hb:μ.at_ b=some (c,s)) (hg:au h b=some (.cells dW k ow)) (hoc:μ.own c=true):
  ∀b' s' x,b'≠b→μ.at_ b'=some (c,s')→au h b'=some x→ow≠ .pair b'→x= .dead:=fun b' s' x hne e g hp=>by
 by_cases hd:x= .dead
 ·exact hd
 ·obtain ⟨_,_,_,_,h1,_⟩:=hs.apart b b' c s s' _ x hne.symm hb e hoc hg g nofun hd
  cases h1
  exact absurd rfl hp
def Mp.put (μ:Mp) (b c s:Nat):Mp:={μ with at_:=fun b'=>if b'=b then some (c,s) else μ.at_ b'}
theorem rR {b c s:Nat} (hb:μ.at_ b=none):μ.Le (μ.put b c s):=fun b' c' s' e=>by
 refine ⟨?_,rfl,rfl⟩
 show (if b'=b then _ else _)=_
 rw [if_neg ?_]
 ·exact e
 ·intro hh;subst hh;rw [hb] at e;cases e
theorem bq.alias (hs:bq μ h w) {c s n:Nat} {cs:List AV} (hc:c < w.heap.size) (halone: ∀b' s' x,μ.at_ b'=some (c,s')→au h b'=some x→x= .dead)
  (hold: ∀b0 c0 s0 x0,μ.at_ b0=some (c0,s0)→au h b0=some x0→iW (μ.put h.next c s) w' c0 s0 x0) (hnew:iW (μ.put h.next c s) w' c s (.cells cs n .solo)) (hsize:w'.heap.size=w.heap.size):
  bq (μ.put h.next c s) (bz h (.cells cs n .solo)) w':=by
 have hnone:μ.at_ h.next=none:=hs.lt _ (Nat.le_refl _)
 have hatn:(μ.put h.next c s).at_ h.next=some (c,s):=if_pos rfl
 have hato: ∀b',b'≠h.next→(μ.put h.next c s).at_ b'=μ.at_ b':=fun b' hn=>if_neg hn
 refine ⟨fun b' hb'=>?_,fun b' hb'=>?_,fun b' c0 s0 e=>?_,fun b' c0 s0 x e hx=>?_,fun b1 b2 c0 s1 s2 x1 x2 hne e1 e2 ho k1 k2 d1 d2=>?_,fun b' c0 s0 cs0 n0 p e g=>?_⟩
 ·have hb':h.next+1≤b':=hb'
  rw [hato _ (by omega)];exact hs.lt b' (by omega)
 ·have hb':h.next+1≤b':=hb'
  rw [aC _ _ (by omega)];exact hs.fresh b' (by omega)
 ·by_cases hn:b'=h.next
  ·subst hn;rw [hatn] at e;cases e;omega
  ·rw [hato _ hn] at e;have:=hs.dW b' c0 s0 e;omega
 ·by_cases hn:b'=h.next
  ·subst hn;rw [hatn] at e;cases e;rw [dE] at hx;cases hx;exact hnew
  ·rw [hato _ hn] at e;rw [aC _ _ hn] at hx;exact hold b' c0 s0 x e hx
 ·by_cases hn1:b1=h.next
  ·subst hn1
   rw [hatn] at e1;cases e1
   rw [hato _ hne.symm] at e2;rw [aC _ _ hne.symm] at k2
   exact absurd (halone b2 s2 x2 e2 k2) d2
  ·rw [hato _ hn1] at e1;rw [aC _ _ hn1] at k1
   by_cases hn2:b2=h.next
   ·subst hn2
    rw [hatn] at e2;cases e2
    exact absurd (halone b1 s1 x1 e1 k1) d1
   ·rw [hato _ hn2] at e2;rw [aC _ _ hn2] at k2
    exact hs.apart b1 b2 c0 s1 s2 x1 x2 hne e1 e2 ho k1 k2 d1 d2
 ·by_cases hn:b'=h.next
  ·subst hn;rw [dE] at g;cases g
  ·rw [hato _ hn] at e;rw [aC _ _ hn] at g
   obtain ⟨y,hy⟩:=hs.peer b' c0 s0 cs0 n0 p e g
   exact ⟨y,(rR hnone p y.1 y.2 hy).1⟩
theorem bF.alias (hs:bq μ h w) {c s:Nat} {x:aY} (hsize:w'.heap.size=w.heap.size) (hkept: ∀c',c'≠c→w'.heap[c']? =w.heap[c']?) (hoc:μ.own c=true) (hos:w'.os=w.os) (ht:w'.tape=w.tape) (ho:w'.output=w.output):
  bF μ h w (μ.put h.next c s) (bz h x) w':=
 ⟨Nat.le_succ _,fun b' hb'=>if_neg (by omega),fun _ _=>rfl,fun _ _=>rfl,by omega,fun c' _ hf=>hkept c' (fun e=>by rw [e,hoc] at hf;cases hf),
  fun b' hb' _=> .inl (aC _ _ (by omega)),hos,ht,ho⟩
structure TU (μ:Mp) (w:World) (b o n cp sz:Nat) (ex:Bool) (c s:Nat) (s':Addr) (cp':Nat):Prop where
 at_:μ.at_ b=some (c,s)
 len:n≤cp
 cap:cp≤cp'
 exact_:ex=true→cp'=cp
 place:cp'≠0→s'=⟨c,s+o,none⟩∧s+o+cp'*sz≤μ.size c
theorem LQ (hs:bq μ h w) {b o n cp sz c s cp' k:Nat} {s':Addr} {ex:Bool} {cs:List AV} {ow:Own} (sl:TU μ w b o n cp sz ex c s s' cp') (hg:au h b=some (.cells cs k ow)) (hle:o+n*sz≤k):
  ∃X,bb μ (part cs k o (n*sz)) X∧X.length=n*sz∧(∀v ∈ part cs k o (n*sz),aD v=true)∧
   ∀w1:World,w1.heap=w.heap→(Builtin.firstCells sz n (.slice (some s') n cp')).run P w1= .ok X.toArray w1:=by
 have e:nz h b o (n*sz) none some=some (part cs k o (n*sz)):=by
  unfold nz aS
  rw [hg]
  show bc (Nat.ble (o+n*sz) k) _ _=_
  rw [o7,if_pos hle]
 obtain ⟨l,X,h1,h2,h3,h4,h5⟩:=mA hs sl.at_ e nofun
 cases h1
 refine ⟨X,h2,h3,h4,fun w1 hw1=>?_⟩
 have hcell: ∀a,w1.cell? a=w.cell? a:=fun a=>by unfold World.cell?;rw [hw1]
 by_cases h0:cp'=0
 ·have:=sl.len;have:=sl.cap
  obtain rfl:n=0:=by omega
  have:X= [] :=List.eq_nil_of_length_eq_zero (by omega)
  subst this
  simp [Builtin.firstCells];rfl
 ·obtain ⟨rfl,_⟩:=sl.place h0
  simp only [Builtin.firstCells]
  exact cj h3 fun j x hj=>by rw [hcell];exact h5 j x hj
theorem ez (z:Array Value) (n:Nat):(Builtin.zeroCells z n).size=n*z.size:=by simp [Builtin.zeroCells]
structure Bb (P:Program) (μ:Mp) (el:TypeId) (sz by_:Nat) (z:Value):Prop where
 pos:sz≠0
 size:b5 P el=some sz
 bytes:bytesOf P el=some by_
 zero: ∀w,(zeroValue el).run P w= .ok z w
 cells:z.cells.size=sz
theorem tp (hs:bq μ h w) {st xt ret el:TypeId} {base:Option Addr} {sz by_ n m cp':Nat} {v:AV} {xz xv:Value} {A l:List AV} {X xs:List Value} (hu:P.underlying st=some (.slice el)) (hel:Bb P μ el sz by_ xz)
  (ht:mK P w el xt sz m xv xs) (hgrow:cp' < n+m) (hb1:(n+m)*by_≤70368744177664) (hb2:n+m≤70368744177664)
  (hold: ∀w1:World,w1.heap=w.heap→(Builtin.firstCells sz n (.slice base n cp')).run P w1= .ok X.toArray w1)
  (rA:bb μ A X) (cA: ∀v ∈ A,aD v=true) (lA:A.length=n*sz) (rl:bb μ l xs) (cl: ∀v ∈ l,aD v=true) (ll:l.length=m*sz)
  (e:grown h (n+m) sz (app A l)= .ok v h'):jW P μ h w (Builtin.append_ #[st,xt] ret #[.slice base n cp',xv]) v h':=by
 obtain ⟨cap,hcap,hrun⟩:=gW (ret:=ret) hel.pos hu hel.size hel.bytes hel.zero ht hgrow hb1 hb2 hold
 rw [cg] at e
 obtain ⟨μ',h1,h2,h3⟩:=A_ (el:=el) (cap:=cap) (xs:=X++xs) (rest:=(Builtin.zeroCells xz.cells (cap - (n+m))).toList) hs (rA.append rl)
  (fun v hv=>by rw [List.mem_append] at hv;exact hv.elim (cA v) (cl v)) (by rw [List.length_append,lA,ll,Nat.add_mul]) hcap
  (by rw [Array.length_toList,ez,hel.cells]) e
 have harr:X.toArray++xs.toArray++Builtin.zeroCells xz.cells (cap - (n+m))=(X++xs++(Builtin.zeroCells xz.cells (cap - (n+m))).toList).toArray:=by
  apply Array.ext';simp
 rw [harr] at hrun
 exact ⟨μ',_,_,hrun,h1,h2,h3⟩
theorem tu (hs:bq μ h w) {st xt ret el:TypeId} {sz by_ b o n cp m c s cp' k:Nat} {s':Addr} {ex:Bool} {xz xv:Value} {cs l:List AV} {ow:Own} {xs:List Value} (hu:P.underlying st=some (.slice el)) (hel:Bb P μ el sz by_ xz)
  (ht:mK P w el xt sz m xv xs) (sl:TU μ w b o n cp sz ex c s s' cp') (hg:au h b=some (.cells cs k ow)) (hro:ow≠ .ro) (hle:o+n*sz≤k) (hmore:cp < n+m) (hfit:n+m≤cp')
  (rl:bb μ l xs) (cl: ∀v ∈ l,aD v=true) (ll:l.length=m*sz):
  ∃w',(Builtin.append_ #[st,xt] ret #[.slice (some s') n cp',xv]).run P w= .ok (.slice (some ⟨c,s+o,none⟩) (n+m) cp') w'∧
   μ.own c=true∧s'=⟨c,s+o,none⟩∧s+o+cp'*sz≤μ.size c∧(∀c',c'≠c→w'.heap[c']? =w.heap[c']?)∧w'.heap.size=w.heap.size∧w'.os=w.os∧w'.tape=w.tape∧w'.output=w.output∧
   iW μ w' c (s+o) (.cells (app (part cs k o (n*sz)) l) ((n+m)*sz) .solo)∧(k≤o+n*sz→iW μ w' c s (.cells cs k ow)):=by
 have hc0:cp'≠0:=by have:=sl.len;omega
 obtain ⟨rfl,hroom⟩:=sl.place hc0
 obtain ⟨hl,hcell,hown,arr,ael,fr,hw,hsz,hun,aS⟩:=hs.d_ b c s _ sl.at_ hg
 have hoc:μ.own c=true:=hown.2 hro
 have hlen:=rl.length
 have hmul:(n+m)*sz≤cp'*sz:=Nat.mul_le_mul_right _ hfit
 rw [Nat.add_mul] at hmul
 obtain ⟨w',hrun,arr',hw',hsz',hin,hout,hother,hsize,hos,htape,houtp⟩:=wrote (P:=P) (o:=s+o+n*sz) hw (hun hoc) (by omega) (rl.Ba cl)
 have happ:=run_append_fits (P:=P) (ret:=ret) (base:=some ⟨c,s+o,none⟩) (w':=w') hel.pos hu hel.size ht hfit (by
  show (storeCells ((⟨c,s+o,none⟩:Addr).add (n*sz)) xs).run P w=_
  rw [eu];exact hrun)
 refine ⟨w',happ,hoc,rfl,hroom,hother,hsize,hos,htape,houtp,⟨?_,fun v hv=>?_,⟨fun _=>nofun,fun _=>hoc⟩,arr',ael,fr,hw',by rw [hsz'];exact hsz,fun _=>by rw [hsz'];exact hun hoc,fun i v hv=>?_⟩,
  fun hk=>⟨hl,hcell,hown,arr',ael,fr,hw',by rw [hsz'];exact hsz,fun _=>by rw [hsz'];exact hun hoc,fun i v hv=>?_⟩⟩
 ·rw [cg,List.length_append,l7 hl hle,ll,Nat.add_mul,List.length_take,List.length_drop];omega
 ·rw [cg,List.mem_append,l7 hl hle] at hv
  rcases hv with hv | hv
  ·exact hcell v (List.mem_of_mem_drop (List.mem_of_mem_take hv))
  ·exact cl v hv
 ·rw [cg,l7 hl hle] at hv
  by_cases hi:i < n*sz
  ·rw [List.getElem?_append_left (by rw [List.length_take,List.length_drop];omega),List.getElem?_take,if_pos hi,List.getElem?_drop] at hv
   obtain ⟨y,hy,ry⟩:=aS _ _ hv
   refine ⟨y,?_,ry⟩
   rw [hout _ (.inl (by omega)),←hy];congr 1;omega
  ·rw [List.getElem?_append_right (by rw [List.length_take,List.length_drop];omega)] at hv
   obtain ⟨y,hy,ry⟩:=rl.get _ _ hv
   refine ⟨y,?_,ry⟩
   rw [←hin _ _ hy];congr 1
   rw [List.length_take,List.length_drop];omega
 ·have hi:i < k:=by have:=(List.getElem?_eq_some_iff.1 hv).1;omega
  obtain ⟨y,hy,ry⟩:=aS _ _ hv
  exact ⟨y,by rw [hout _ (.inl (by omega))];exact hy,ry⟩
theorem LR {b n:Nat} (k:Nat):(μ.ext b k 0 n).at_ b=some (k,0):=if_pos rfl
theorem Gp (hs:bq μ h w) {st xt ret el:TypeId} {sz by_ b o n cp m c s cp':Nat} {s':Addr} {ex:Bool} {v:AV} {xz xv:Value} {l:List AV} {xs:List Value} (hu:P.underlying st=some (.slice el)) (hel:Bb P μ el sz by_ xz)
  (ht:mK P w el xt sz m xv xs) (sl:TU μ w b o n cp sz ex c s s' cp') (hmore:cp < n+m) (hb1:(n+m)*by_≤70368744177664) (hb2:n+m≤70368744177664)
  (rl:bb μ l xs) (cl: ∀v ∈ l,aD v=true) (ll:l.length=m*sz) (e:more h b o n sz m ex l= .ok v h'):
  jW P μ h w (Builtin.append_ #[st,xt] ret #[.slice (some s') n cp',xv]) v h':=by
 obtain ⟨cs,k,ow,hg,e1⟩:=cx e nofun
 obtain ⟨hle,e2⟩:=bY e1 nofun
 have hle:o+n*sz≤k:=hle
 obtain ⟨X,rA,lX,cA,hold⟩:=LQ hs sl hg hle
 obtain ⟨hl,hcell,hown,arr,ael,fr,hw,hsz,hun,aS⟩:=hs.d_ b c s _ sl.at_ hg
 have lA:(part cs k o (n*sz)).length=n*sz:=by rw [←rA.length,lX]
 have grows: ∀(h0:Hp),bq μ h0 w→bF μ h w μ h0 w→¬(n+m≤cp')→grown h0 (n+m) sz (app (part cs k o (n*sz)) l)= .ok v h'→
   jW P μ h w (Builtin.append_ #[st,xt] ret #[.slice (some s') n cp',xv]) v h':=fun h0 hs0 g0 hgrow eg=>by
  obtain ⟨μ',w',y,h1,h2,h3,h4⟩:=tp hs0 hu hel ht (by omega) hb1 hb2 hold rA cA lA rl cl ll eg
  exact ⟨μ',w',y,h1,g0.trans h2,h3,h4⟩
 have hlt:c < w.heap.size:=hs.dW b c s sl.at_
 rw [fB] at e2
 split at e2
 ·rename_i hex
  have hcp:=sl.exact_ hex
  exact grows h hs (.refl hs) (by omega) e2
 rw [di] at e2
 have heir: ∀(h0:Hp),bq μ h0 w→bF μ h w μ h0 w→au h0 b=some (.cells cs k ow)→ow≠ .ro→(∀b' s' x,b'≠b→μ.at_ b'=some (c,s')→au h0 b'=some x→x= .dead)→
   o+n*sz=k→shared h0 b (n+m) sz cs k (app (part cs k o (n*sz)) l)= .ok v h'→
   jW P μ h w (Builtin.append_ #[st,xt] ret #[.slice (some s') n cp',xv]) v h':=fun h0 hs0 g0 hg0 hro halone hend es=>by
  have hnone:μ.at_ h0.next=none:=hs0.lt _ (Nat.le_refl _)
  cases es
  by_cases hfit:n+m≤cp'
  ·obtain ⟨w',hrun,hoc,rfl,hroom,hother,hsize,hos,htape,houtp,hnew,hback⟩:=tu (ret:=ret) hs0 hu hel ht sl hg0 hro hle hmore hfit rl cl ll
   have hleμ:=rR (c:=c) (s:=s+o) hnone
   refine ⟨μ.put h0.next c (s+o),w',_,hrun,g0.trans (bF.share hs0 sl.at_ (fun _=>rfl) (fun _ _=>rfl) (fun _ _=>rfl) (by omega) (fun c' _ hf=>hother c' (fun e=>by rw [e,hoc] at hf;cases hf)) hos htape houtp),
    bq.share hs0 sl.at_ hg0 hro halone (fun _=>rfl) hleμ (.inl rfl) (fun b0 c0 s0 x0 e0 gx=>?_) ?_ (by omega) (by omega),?_⟩
   ·by_cases hcc:c0=c
    ·subst hcc
     by_cases hbb:b0=b
     ·subst hbb
      rw [hg0] at gx;cases gx
      rw [sl.at_] at e0;cases e0
      obtain ⟨q1,q2,q3,arr',q4,q5,q6,q7,q8,q9⟩:=hback (by omega)
      exact ⟨q1,q2,q3,arr',q4,q5,q6,q7,q8,fun i v hv=>by obtain ⟨y,hy,ry⟩:=q9 i v hv;exact ⟨y,hy,ry.mono hleμ _ _⟩⟩
     ·rw [halone b0 s0 x0 hbb e0 gx];trivial
    ·exact (hs0.d_ b0 c0 s0 x0 e0 gx).mono hleμ (hother c0 hcc) rfl rfl
   ·obtain ⟨q1,q2,q3,arr',q4,q5,q6,q7,q8,q9⟩:=hnew
    exact ⟨q1,q2,⟨fun _=>nofun,fun _=>hoc⟩,arr',q4,q5,q6,q7,q8,fun i v hv=>by obtain ⟨y,hy,ry⟩:=q9 i v hv;exact ⟨y,hy,ry.mono hleμ _ _⟩⟩
   ·rw [VR_slice]
    exact ⟨c,s+o,⟨c,s+o,none⟩,cp',if_pos rfl,rfl,Nat.le_refl _,hfit,nofun,fun _=>⟨rfl,hroom⟩⟩
  ·obtain ⟨cap,hcap,hrun⟩:=gW (ret:=ret) hel.pos hu hel.size hel.bytes hel.zero ht (by omega) hb1 hb2 hold
   have harr:X.toArray++xs.toArray++Builtin.zeroCells xz.cells (cap - (n+m))=(X++xs++(Builtin.zeroCells xz.cells (cap - (n+m))).toList).toArray:=by
    apply Array.ext';simp
   rw [harr] at hrun
   generalize hrest:(Builtin.zeroCells xz.cells (cap - (n+m))).toList=rest at hrun
   have lrest:rest.length=(cap - (n+m))*sz:=by rw [←hrest,Array.length_toList,ez,hel.cells]
   have hlx:=rl.length
   have hsize:(X++xs++rest).toArray.size=cap*sz:=by
    rw [List.size_toArray,List.length_append,List.length_append,lX,hlx,ll,lrest,←Nat.add_mul,←Nat.add_mul]
    congr 1;omega
   have hleμ:=mI (n:=cap*sz) hs0 hnone
   have hp:ey w (.cells (X++xs++rest).toArray el) {w with drawn:=w.drawn+1,heap:=w.heap.push (.cells (X++xs++rest).toArray el)}:=⟨rfl,rfl,rfl,rfl⟩
   have hown2:(μ.ext h0.next w.heap.size 0 (cap*sz)).own w.heap.size=true:=if_pos rfl
   have hsz2:(μ.ext h0.next w.heap.size 0 (cap*sz)).size w.heap.size=cap*sz:=if_pos rfl
   refine ⟨μ.ext h0.next w.heap.size 0 (cap*sz),_,_,hrun,g0.trans (bF.share hs0 sl.at_ (fun _=>rfl) (fun c' hc'=>if_neg (by omega)) (fun c' hc'=>if_neg (by omega)) (by rw [hp.size];omega) (fun c' hc' _=>hp.dW hc') rfl rfl rfl),
    bq.share hs0 sl.at_ hg0 hro halone (fun _=>rfl) hleμ (.inr (Nat.le_refl _)) (fun b0 c0 s0 x0 e0 gx=>?_) ?_ (by rw [hp.size];omega) (by rw [hp.size];omega),?_⟩
   ·have hc0:=hs0.dW b0 c0 s0 e0
    exact (hs0.d_ b0 c0 s0 x0 e0 gx).mono hleμ (hp.dW hc0) (if_neg (by omega)) (if_neg (by omega))
   ·refine ⟨?_,fun v hv=>?_,⟨fun _=>nofun,fun _=>hown2⟩,_,_,_,hp.new,by rw [hsz2,hsize],fun _=>dp _,fun i v hv=>?_⟩
    ·rw [cg,List.length_append,lA,ll,←Nat.add_mul];rfl
    ·rw [cg,List.mem_append] at hv
     exact hv.elim (cA v) (cl v)
    ·rw [cg] at hv
     obtain ⟨y,hy,ry⟩:=(rA.append rl).get i v hv
     refine ⟨y,?_,ry.mono hleμ _ _⟩
     have hi:=(List.getElem?_eq_some_iff.1 hy).1
     rw [Nat.zero_add,List.getElem?_toArray,List.getElem?_append_left hi];exact hy
   ·exact p_ (LR _) (Nat.le_refl _) hcap nofun hsz2 (Nat.le_refl _)
 have takes: ∀(h0:Hp),bq μ h0 w→bF μ h w μ h0 w→ow≠ .ro→(∀b' s' x,μ.at_ b'=some (c,s')→au h0 b'=some x→x= .dead)→
   grown h0 (n+m) sz (app (part cs k o (n*sz)) l)= .ok v h'→jW P μ h w (Builtin.append_ #[st,xt] ret #[.slice (some s') n cp',xv]) v h':=fun h0 hs0 g0 hro halone es=>by
  by_cases hfit:n+m≤cp'
  ·have hnone:μ.at_ h0.next=none:=hs0.lt _ (Nat.le_refl _)
   cases es
   obtain ⟨w',hrun,hoc,rfl,hroom,hother,hsize,hos,htape,houtp,hnew,hback⟩:=tu (ret:=ret) hs hu hel ht sl hg hro hle hmore hfit rl cl ll
   have hleμ:=rR (c:=c) (s:=s+o) hnone
   refine ⟨μ.put h0.next c (s+o),w',_,hrun,g0.trans (bF.alias hs0 hsize hother hoc hos htape houtp),bq.alias hs0 hlt halone (fun b0 c0 s0 x0 e0 gx=>?_) ?_ hsize,?_⟩
   ·by_cases hcc:c0=c
    ·subst hcc
     rw [halone b0 s0 x0 e0 gx];trivial
    ·exact (hs0.d_ b0 c0 s0 x0 e0 gx).mono hleμ (hother c0 hcc) rfl rfl
   ·obtain ⟨q1,q2,q3,arr',q4,q5,q6,q7,q8,q9⟩:=hnew
    exact ⟨q1,q2,⟨fun _=>nofun,fun _=>hoc⟩,arr',q4,q5,q6,q7,q8,fun i v hv=>by obtain ⟨y,hy,ry⟩:=q9 i v hv;exact ⟨y,hy,ry.mono hleμ _ _⟩⟩
   ·rw [VR_slice]
    exact ⟨c,s+o,⟨c,s+o,none⟩,cp',if_pos rfl,rfl,Nat.le_refl _,hfit,nofun,fun _=>⟨rfl,hroom⟩⟩
  ·exact grows h0 hs0 g0 hfit es
 have hbm: ∃y,μ.at_ b=some y:=⟨_,sl.at_⟩
 split at e2
 ·rename_i hend
  cases ow with
  | ro=>cases e2
  | solo=>exact heir h hs (.refl hs) hg nofun (fun b' s' x hne e g=>hs.alone sl.at_ hg (hown.2 nofun) b' s' x hne e g nofun) hend e2
  | pair p=>
    have e2:bc (Nat.beq p b) RV.no (shared (b9 h p .dead) b (n+m) sz cs k (app (part cs k o (n*sz)) l))= .ok v h':=e2
    rw [di] at e2
    split at e2
    ·cases e2
    ·rename_i hpb
     have hpm:=hs.peer b c s cs k p sl.at_ hg
     refine heir _ (hs.kill hpm) (.kill hs hpm) (by rw [aO _ _ (fun e=>hpb e.symm)];exact hg) nofun (fun b' s' x hne e g=>?_) hend e2
     rw [il] at g
     split at g
     ·cases g;rfl
     ·rename_i hbp
      exact hs.alone sl.at_ hg (hown.2 nofun) b' s' x hne e g (fun hh=>hbp (Own.pair.inj hh).symm)
 ·cases ow with
  | ro=>cases e2
  | solo=>
    refine takes _ (hs.kill hbm) (.kill hs hbm) nofun (fun b' s' x e g=>?_) e2
    rw [il] at g
    split at g
    ·cases g;rfl
    ·rename_i hbp
     exact hs.alone sl.at_ hg (hown.2 nofun) b' s' x hbp e g nofun
  | pair p=>
    have hpm:=hs.peer b c s cs k p sl.at_ hg
    have hs1:=hs.kill hpm
    refine takes _ (hs1.kill hbm) ((bF.kill hs hpm).trans (.kill hs1 hbm)) nofun (fun b' s' x e g=>?_) e2
    rw [il] at g
    split at g
    ·cases g;rfl
    ·rename_i hbp
     rw [il] at g
     split at g
     ·cases g;rfl
     ·rename_i hpp
      exact hs.alone sl.at_ hg (hown.2 nofun) b' s' x hbp e g (fun hh=>hpp (Own.pair.inj hh).symm)
theorem empty_append {st xt ret el:TypeId} {sz by_ cp':Nat} {xz xv:Value} {base:Option Addr} {n:Nat} {xs:List Value} (hu:P.underlying st=some (.slice el)) (hel:Bb P μ el sz by_ xz) (ht:mK P w el xt sz 0 xv xs) (hxs:xs= []) (hn:n≤cp'):
  (Builtin.append_ #[st,xt] ret #[.slice base n cp',xv]).run P w= .ok (.slice base n cp') w:=by
 subst hxs
 have:=run_append_fits (P:=P) (ret:=ret) (w:=w) (w':=w) (base:=base) (sLen:=n) (sCap:=cp') hel.pos hu hel.size ht (by omega) (by cases base <;> rfl)
 simpa using this
theorem lr (hs:bq μ h w) {st xt ret el:TypeId} {sz by_ m:Nat} {a v:AV} {xz xv ya:Value} {l:List AV} {xs:List Value} (hu:P.underlying st=some (.slice el)) (hel:Bb P μ el sz by_ xz)
  (ht:mK P w el xt sz m xv xs) (ra:VR μ a ya) (rl:bb μ l xs) (cl: ∀v ∈ l,aD v=true) (ll:l.length=m*sz) (e:cd h sz by_ a m l= .ok v h'):
  jW P μ h w (Builtin.append_ #[st,xt] ret #[ya,xv]) v h':=by
 have hlx:=rl.length
 rcases bG e nofun with ⟨rfl,e1⟩ | ⟨b,o,n,c,z,ex,rfl,e1⟩
 ·rw [VR_nilSlice] at ra;subst ra
  rw [di] at e1
  split at e1
  ·subst m
   cases e1
   exact ⟨μ,w,_,empty_append hu hel ht (List.eq_nil_of_length_eq_zero (by omega)) (Nat.le_refl _), .refl hs,hs,by rw [VR_nilSlice]⟩
  ·rename_i hm
   obtain ⟨hb1,e2⟩:=bY e1 nofun
   obtain ⟨hb2,e3⟩:=bY e2 nofun
   have hb1:m*by_≤70368744177664:=hb1
   refine tp (n:=0) (A:=[]) (X:=[]) hs hu hel ht (by omega) (by rw [Nat.zero_add];exact hb1) (by omega) (fun w1 _=>by simp [Builtin.firstCells]) (by rw [aF]) (fun v hv=>by cases hv) (by simp) rl cl ll ?_
   rw [Nat.zero_add];exact e3
 ·obtain ⟨rfl,e2⟩:=cM e1 nofun
  have ra0:=ra
  rw [VR_slice] at ra
  obtain ⟨c0,s,s',cp',hb,rfl,h1,h2,h3,h4⟩:=ra
  rw [o7] at e2
  split at e2
  ·rename_i hfit
   have hfit:n+m≤c:=hfit
   rw [di] at e2
   split at e2
   ·subst m
    cases e2
    exact ⟨μ,w,_,empty_append hu hel ht (List.eq_nil_of_length_eq_zero (by omega)) (by omega), .refl hs,hs,ra0⟩
   ·rename_i hm0
    have hc0:cp'≠0:=by omega
    obtain ⟨rfl,hroom⟩:=h4 hc0
    obtain ⟨w',k1,k2,k3,k4⟩:=ph (P:=P) hs hb rl cl ll e2
    subst k4
    have k1':(storeCells ((⟨c0,s+o,none⟩:Addr).add (n*z)) xs).run P w= .ok () w':=by
     rw [eu,Nat.add_assoc];exact k1
    refine ⟨μ,w',_,run_append_fits (base:=some ⟨c0,s+o,none⟩) hel.pos hu hel.size ht (by omega) k1',k2,k3,?_⟩
    rw [VR_slice]
    exact ⟨c0,s,⟨c0,s+o,none⟩,cp',hb,rfl,hfit,h2,h3,h4⟩
  ·rename_i hfit
   have hfit: ¬(n+m≤c):=hfit
   obtain ⟨hb1,e3⟩:=bY e2 nofun
   obtain ⟨hb2,e4⟩:=bY e3 nofun
   exact Gp hs hu hel ht ⟨hb,h1,h2,h3,h4⟩ (by omega) hb1 hb2 rl cl ll e4
theorem uy (hs:bq μ h w) {st xt ret:TypeId} {a x:AX} {ya xv:Value} {op:qV} {v:AV} {call:aJ} (hc:eH P st xt a x= .e op) (ra:VR μ (ay a t) ya) (rx:VR μ (ay x t) xv)
  (e:pQ op call t h= .ok v h'):jW P μ h w (Builtin.append_ #[st,xt] ret #[ya,xv]) v h':=by
 have plain: ∀{el:TypeId} {d:TypeDesc},P.underlying st=some (.slice el)→P.underlying xt=some d→(∀k,d≠ .int k)→
   (match b5 P el,bytesOf P el,zeroOf P el with
    | some n,some m,some z=>if n=0 then no else if n=(aX z).length then fE.e (.append n m a x) else no
    | _,_,_=>no)= .e op→jW P μ h w (Builtin.append_ #[st,xt] ret #[ya,xv]) v h':=fun {el d} hu hx hd hc=>by
  split at hc
  ·rename_i sz by_ z h1 h2 h3
   split at hc
   ·cases hc
   split at hc
   ·rename_i hpos hz
    cases hc
    obtain ⟨xz,rz,hzr⟩:=de (μ:=μ) h3
    rw [gS] at hz
    have hcs:xz.cells.size=sz:=by have:=(rz.cells (dV h3)).length;simp at this;omega
    obtain ⟨m,l,xs,e1,r1,hl,hcell,hlen,hf⟩:=A8 (P:=P) hs hpos rx (show src h sz (ay x t) .no (fun m xs=>cd h sz by_ (ay a t) m xs)= .ok v h' from e) nofun
    have hlx:=r1.length
    refine lr hs hu ⟨hpos,h1,h2,hzr,hcs⟩ (.cells d hx hd hlen fun w1 hw1=>?_) ra r1 hcell hl e1
    rw [hf m (Nat.le_refl _) w1 hw1,List.take_of_length_le (by omega)]
   ·cases hc
  ·cases hc
 unfold eH at hc
 split at hc
 ·rename_i hu hx;exact plain hu hx nofun hc
 ·rename_i hu hx;exact plain hu hx nofun hc
 ·rename_i el k hu hx
  split at hc
  ·rename_i sz by_ z h1 h2 h3
   split at hc
   ·cases hc
   split at hc
   ·rename_i hpos hz
    cases hc
    obtain ⟨xz,rz,hzr⟩:=de (μ:=μ) h3
    rw [gS] at hz
    have rzc:=rz.cells (dV h3)
    have hcs:xz.cells.size=sz:=by have:=rzc.length;simp at this;omega
    rw [gS] at e
    have e:((ay x t).asInt RV.no fun _ n=>cc n .no fun n=>bc (Nat.ble (Nat.mul n by_) 70368744177664) (bc (Nat.ble n 70368744177664) (bc (a9 aD (cellsOf z)) (cd h sz by_ (ay a t) n (ef (cellsOf z) n)) .no) .no) .no)= .ok v h':=e
    obtain ⟨k',i,hxi,e1⟩:=aN e nofun
    obtain ⟨m,rfl,e2⟩:=bB e1 nofun
    obtain ⟨hb1,e3⟩:=bY e2 nofun
    obtain ⟨hb2,e4⟩:=bY e3 nofun
    obtain ⟨hcell,e5⟩:=a7 e4 nofun
    rw [aT] at hcell
    rw [hxi,VR_int] at rx
    have hz0:cellsOf z≠ [] :=fun hh=>by rw [hh] at hz;exact hpos hz
    have hrep:=l9 rzc m hz0
    rw [←hz] at hrep
    have heq:Builtin.zeroCells xz.cells m=(Array.range (m*sz)).map (xz.cells[· % xz.cells.size]!):=by unfold Builtin.zeroCells;rw [hcs]
    rw [←heq] at hrep
    exact lr hs hu ⟨hpos,h1,h2,hzr,hcs⟩ (.zeros k k' by_ xz hx rx hb2 h2 hb1 hzr (fun h0=>by subst h0;apply List.eq_nil_of_length_eq_zero;rw [Array.length_toList,ez,Nat.zero_mul]) (fun _=>by simp)) ra hrep
     (fun v hv=>hcell v (my hv)) (by rw [b6,←hz]) e5
   ·cases hc
  ·cases hc
 ·cases hc
end
end Eng
end
section
set_option linter.unusedVariables false
set_option linter.unusedSimpArgs false
namespace Eng
open Go Go.RowKit
section
variable {P:Program} {μ μ':Mp} {h h':Hp} {w w':World} {t:T} {ρ:Operand→Value} {ty:TypeId}
theorem Gq (hs:bq μ h w) {ret el:TypeId} {ts:List TypeId} {sz:Nat} {d x:AX} {yd xv:Value} {v:AV} (hu:P.underlying ty=some (.slice el)) (hsz:b5 P el=some sz) (hpos:sz≠0)
  (rd:VR μ (ay d t) yd) (rx:VR μ (ay x t) xv) (e:AG sz d x t h= .ok v h'):jW P μ h w (Builtin.copy_ (ty::ts).toArray ret #[yd,xv]) v h':=by
 have e:src h sz (ay x t) RV.no (fun m xs=>(ay d t).asSlice .no (Tz 0 h) fun b o n _ z _=>bc (Nat.beq z sz) (bc (Nat.beq (cut m n) 0) (Tz 0 h)
  (Oa h b o (bc (Nat.ble m n) xs (take xs (Nat.mul n sz))) (Nat.mul (cut m n) sz) (.int .i64 (.ofNat (cut m n))))) .no)= .ok v h':=e
 obtain ⟨m,l,xs,e1,rl,hl,hcell,hlen,hf⟩:=A8 (P:=P) hs hpos rx e nofun
 rcases bG e1 nofun with ⟨hd,e2⟩ | ⟨b,o,n,c,z,ex,hd,e2⟩
 ·rw [hd,VR_nilSlice] at rd;subst rd
  cases e2
  refine ⟨μ,w,goInt 0,?_, .refl hs,hs,by simp [goInt]⟩
  simp [Builtin.copy_,run_underlying hu,hlen,run_sizeOf hsz,hf 0 (Nat.zero_le _) w rfl]
 ·obtain ⟨rfl,e3⟩:=cM e2 nofun
  rw [hd,VR_slice] at rd
  obtain ⟨c0,s,s',cp',hb,rfl,h1,h2,h3,h4⟩:=rd
  rw [rH,di] at e3
  have hmin:Nat.min m n=min m n:=rfl
  split at e3
  ·rename_i h0
   cases e3
   refine ⟨μ,w,goInt 0,?_, .refl hs,hs,by simp [goInt]⟩
   simp only [Builtin.copy_,Sem.run_bind,run_underlying hu,hlen,run_sizeOf hsz,Result.andThen_ok,Sem.run_pure,hmin,h0,hf 0 (Nat.zero_le _) w rfl,List.getElem?_toArray,List.getElem?_cons_zero,List.getElem?_cons_succ,Nat.zero_mul,List.take_zero]
   rfl
  ·rename_i h0
   have hc0:cp'≠0:=by omega
   obtain ⟨rfl,_⟩:=h4 hc0
   have hsel:bc (Nat.ble m n) l (take l (Nat.mul n z))=l.take (min m n*z):=by
    rw [o7,gF]
    split
    ·rename_i hmn;rw [Nat.min_eq_left hmn,List.take_of_length_le (by omega)]
    ·rename_i hmn;rw [Nat.min_eq_right (by omega)];rfl
   rw [hsel] at e3
   have hmz:min m n*z≤m*z:=Nat.mul_le_mul_right _ (Nat.min_le_left _ _)
   obtain ⟨w',k1,k2,k3,k4⟩:=ph (P:=P) (vs:=l.take (min m n*z)) (xs:=xs.take (min m n*z)) (m:=min m n*z) hs hb (rl.take _) (fun v hv=>hcell v (List.mem_of_mem_take hv)) (by rw [List.length_take];omega) e3
   subst k4
   refine ⟨μ,w',goInt ((min m n:Nat):Int),?_,k2,k3,by simp [goInt]⟩
   simp only [Builtin.copy_,Sem.run_bind,run_underlying hu,hlen,run_sizeOf hsz,Result.andThen_ok,Sem.run_pure,hmin,hf (min m n) (Nat.min_le_left _ _) w rfl,k1,List.getElem?_toArray,List.getElem?_cons_zero,List.getElem?_cons_succ]
theorem Bc (hs:bq μ h w) {ret el:TypeId} {z:AV} {x:AX} {xv:Value} {v:AV} (hu:P.underlying ty=some (.slice el)) (hz:zeroOf P el=some z)
  (rx:VR μ (ay x t) xv) (e:rE (aX z) x t h= .ok v h'):jW P μ h w (Builtin.clear_ #[ty] ret #[xv]) v h':=by
 have hun:VR μ undef (.tuple #[]):=l6
 rcases bG e nofun with ⟨hx,e2⟩ | ⟨b,o,n,c,s,ex,hx,e2⟩
 ·rw [hx,VR_nilSlice] at rx;subst rx
  cases e2
  exact ⟨μ,w,_,by simp [Builtin.clear_,run_underlying hu], .refl hs,hs,hun⟩
 ·rw [hx,VR_slice] at rx
  obtain ⟨c0,s0,s',cp',hb,rfl,h1,h2,h3,h4⟩:=rx
  rw [di] at e2
  split at e2
  ·subst n
   cases e2
   exact ⟨μ,w,_,by simp [Builtin.clear_,run_underlying hu], .refl hs,hs,hun⟩
  ·rename_i h0
   obtain ⟨hls,e3⟩:=cM e2 nofun
   obtain ⟨hcell,e4⟩:=a7 e3 nofun
   rw [aT] at hcell
   rw [bA] at hls
   have hc0:cp'≠0:=by omega
   obtain ⟨rfl,_⟩:=h4 hc0
   obtain ⟨xz,rz,hzr⟩:=de (μ:=μ) hz
   have rzc:=rz.cells (dV hz)
   rw [gS] at hls hcell e4
   have hzs:xz.cells.size=s:=by have:=rzc.length;simp at this;omega
   have rr:bb μ (ef (cellsOf z) n) (Builtin.zeroCells xz.cells n).toList:=by
    by_cases hz0:cellsOf z= []
    ·have h1:ef (cellsOf z) n= [] :=List.eq_nil_of_length_eq_zero (by rw [b6,hz0];simp)
     have h2:(Builtin.zeroCells xz.cells n).toList= [] :=List.eq_nil_of_length_eq_zero (by rw [Array.length_toList,ez,hzs,←hls,hz0];simp)
     rw [h1,h2,aF]
    ·have:=l9 rzc n hz0
     unfold Builtin.zeroCells
     rw [hzs,←hls];rw [hzs,←hls] at this;exact this
   obtain ⟨w',k1,k2,k3,k4⟩:=ph (P:=P) hs hb rr (fun v hv=>hcell v (my hv)) (by rw [b6,hls];rfl) e4
   subst k4
   refine ⟨μ,w',_,?_,k2,k3,hun⟩
   obtain ⟨n',rfl⟩: ∃n',n=n'+1:=⟨n - 1,by omega⟩
   simp [Builtin.clear_,run_underlying hu,hzr,k1]
theorem Gr (hs:bq μ h w) {src dst el:TypeId} {x:AX} {xv:Value} {v:AV} (hsd:src=dst) (hu:P.underlying dst=some (.slice el)) (he:P.underlying el=some (.int .u8)) (rx:VR μ (ay x t) xv)
  (e:AH x t h= .ok v h'):jW P μ h w (convert src dst xv) v h':=by
 subst hsd
 rcases bG e nofun with ⟨hx,e2⟩ | ⟨b,o,n,c,s,ex,hx,e2⟩
 ·cases e2
 ·obtain ⟨hc0,e2⟩:=gG e2 nofun
  obtain ⟨cs,k,ow,hg,e3⟩:=cx e2 nofun
  have hres:ow≠ .ro∧v=ay x t∧h'=h:=by
   cases ow with
   | ro=>cases e3
   | solo=>cases e3;exact ⟨nofun,rfl,rfl⟩
   | pair p=>cases e3;exact ⟨nofun,rfl,rfl⟩
  obtain ⟨hro,rfl,rfl⟩:=hres
  have rx0:=rx
  rw [hx,VR_slice] at rx
  obtain ⟨c0,s0,s',cp',hb,rfl,h1,h2,h3,h4⟩:=rx
  obtain ⟨rfl,_⟩:=h4 (by omega)
  obtain ⟨hl,hcell,hown,arr,ael,fr,hw,hsz,hun,aS⟩:=hs.d_ b c0 s0 _ hb hg
  have hoc:μ.own c0=true:=hown.2 hro
  obtain ⟨fr',hfr',w',hw',hother,hsize,hrun,hos,ht,ho⟩: ∃fr',cz arr.size fr'∧∃w':World,w'.heap[c0]? =some (.cells arr ael fr')∧(∀c',c'≠c0→w'.heap[c']? =w.heap[c']?)∧w'.heap.size=w.heap.size∧
    (convert src src (.slice (some ⟨c0,s0+o,none⟩) n cp')).run P w= .ok (.slice (some ⟨c0,s0+o,none⟩) n cp') w'∧w'.os=w.os∧w'.tape=w.tape∧w'.output=w.output:=by
   obtain ⟨lo,hi⟩:=fr
   refine ⟨if lo == hi then (arr.size,arr.size+1) else (min lo arr.size,max hi (arr.size+1)),?_,w.freeze ⟨c0,arr.size,none⟩ 1,?_,fun c' hc'=>?_,?_,?_,?_⟩
   ·split
    ·exact .inr (Nat.le_refl _)
    ·rename_i hne
     rcases hun hoc with hh | hh
     ·exact absurd (beq_iff_eq.2 hh) hne
     ·exact .inr (by have hh:arr.size≤lo:=hh;show arr.size≤min lo arr.size;omega)
   ·unfold World.freeze
    rw [if_neg (by decide)]
    simp [Array.getElem?_modify,hw]
   ·unfold World.freeze
    rw [if_neg (by decide)]
    simp only [Array.getElem?_modify]
    rw [if_neg (fun e=>hc' e.symm)]
   ·unfold World.freeze
    rw [if_neg (by decide)]
    simp
   ·have hsh:w.shape? c0=some (ael,arr.size):=by unfold World.shape?;rw [hw]
    have hmk:(markStringish ⟨c0,s0+o,none⟩).run P w= .ok () (w.freeze ⟨c0,arr.size,none⟩ 1):=by
     simp only [markStringish,Sem.run_bind,run_shape,Result.andThen_ok,hsh,run_freeze]
    simp only [convert,Sem.run_bind,run_underlying hu,Result.andThen_ok,beq_self_eq_true,run_underlying he,hmk,Sem.run_pure]
   ·unfold World.freeze
    rw [if_neg (by decide)]
    exact ⟨rfl,rfl,rfl⟩
  refine ⟨μ,w',_,hrun,⟨Nat.le_refl _,fun _ _=>rfl,fun _ _=>rfl,fun _ _=>rfl,by omega,fun c' _ hf=>hother c' (fun e=>by rw [e,hoc] at hf;cases hf),fun _ _ _=> .inl rfl,hos,ht,ho⟩,?_,rx0⟩
  refine ⟨hs.lt,hs.fresh,fun b' c' s' e=>by rw [hsize];exact hs.dW b' c' s' e,fun b' c' s' y e g=>?_,hs.apart,hs.peer⟩
  have hr:=hs.d_ b' c' s' y e g
  by_cases hcc:c'=c0
  ·subst hcc
   cases y with
   | dead=>trivial
   | mp es n2 ck=>
     obtain ⟨_,_,_,es',hm,_⟩:=hr
     rw [hw] at hm;cases hm
   | cells cs2 n2 ow2=>
     obtain ⟨q1,q2,q3,arr2,q4,q5,q6,q7,q8,q9⟩:=hr
     rw [hw] at q6;cases q6
     exact ⟨q1,q2,q3,_,_,fr',hw',q7,fun _=>hfr',q9⟩
  ·exact hr.mono (Mp.Le.refl μ) (hother c' hcc) rfl rfl
theorem run_setObj_map {c ck:Nat} {es:Array MapEntry} (hw:w.heap[c]? =some (.map es ck)) (o:Obj):(setObj c o).run P w= .ok () {w with heap:=w.heap.setIfInBounds c o}:=by
 simp [setObj,Sem.run,hw]
theorem Bd {c:Nat} {o:Obj} (hw:w.heap[c]? =some o):({w with heap:=w.heap.setIfInBounds c o}:World)=w:=by
 have:w.heap.setIfInBounds c o=w.heap:=by
  apply Array.ext
  ·simp
  ·intro i h1 h2
   rw [Array.getElem_setIfInBounds]
   split
   ·rename_i hci;subst hci
    have:=Array.getElem?_eq_getElem h2
    rw [hw] at this;exact Option.some.inj this
   ·rfl
 rw [this]
theorem bq.rS (hs:bq μ h w) {b c s n ck n2 ck2:Nat} {es es2:List (AV×AV×Nat)} {es2':Array MapEntry} (hb:μ.at_ b=some (c,s)) (hg:au h b=some (.mp es n ck)) (hn:es2.length=n2) (r:b7 μ es2 es2'.toList):
  bq μ (b9 h b (.mp es2 n2 ck2)) {w with heap:=w.heap.setIfInBounds c (.map es2' ck2)}∧bF μ h w μ (b9 h b (.mp es2 n2 ck2)) {w with heap:=w.heap.setIfInBounds c (.map es2' ck2)}:=by
 obtain ⟨h1,rfl,hoc,es',hw,hes⟩:=hs.d_ b c s _ hb hg
 have hother: ∀c',c'≠c→(w.heap.setIfInBounds c (.map es2' ck2))[c']? =w.heap[c']? :=fun c' hc'=>by
  rw [Array.getElem?_setIfInBounds_ne (fun e=>hc' e.symm)]
 have hlt:=hs.dW b c 0 hb
 have hself:(w.heap.setIfInBounds c (.map es2' ck2))[c]? =some (.map es2' ck2):=by
  rw [Array.getElem?_setIfInBounds_self_of_lt hlt]
 have hbl:b < h.next:=by
  rcases Nat.lt_or_ge b h.next with hh | hh
  ·exact hh
  ·rw [hs.lt b hh] at hb;cases hb
 have halone: ∀b' s' x,b'≠b→μ.at_ b'=some (c,s')→au h b'=some x→x= .dead:=fun b' s' x hne e g=>by
  by_cases hd:x= .dead
  ·exact hd
  ·obtain ⟨_,_,_,_,hh,_⟩:=hs.apart b b' c 0 s' _ x hne.symm hb e hoc hg g nofun hd
   cases hh
 refine ⟨⟨hs.lt,fun b' hb'=>?_,fun b' c' s' e=>?_,fun b' c' s' x e g=>?_,fun b1 b2 c' s1 s2 x1 x2 hne e1 e2 ho g1 g2 d1 d2=>?_,fun b' c' s' cs2 n2 p e g=>?_⟩,
  ⟨Nat.le_refl _,fun _ _=>rfl,fun _ _=>rfl,fun _ _=>rfl,by show _≤(w.heap.setIfInBounds c _).size;simp,fun c' _ hf=>hother c' (fun e=>by rw [e,hoc] at hf;cases hf),fun b' _ hn=> .inl ?_,rfl,rfl,rfl⟩⟩
 ·rw [aO _ _ (by have:h.next≤b':=hb';omega)];exact hs.fresh b' hb'
 ·show c' < (w.heap.setIfInBounds c _).size
  simp;exact hs.dW b' c' s' e
 ·by_cases hbb:b'=b
  ·subst hbb
   rw [eJ] at g;cases g
   rw [hb] at e;cases e
   exact ⟨hn,rfl,hoc,es2',hself,r⟩
  ·rw [aO _ _ hbb] at g
   by_cases hcc:c'=c
   ·subst hcc;rw [halone b' s' x hbb e g];trivial
   ·exact (hs.d_ b' c' s' x e g).mono (Mp.Le.refl μ) (hother c' hcc) rfl rfl
 ·by_cases hb1:b1=b
  ·subst hb1
   rw [aO _ _ hne.symm] at g2
   rw [hb] at e1;cases e1
   exact absurd (halone b2 s2 x2 hne.symm e2 g2) d2
  ·rw [aO _ _ hb1] at g1
   by_cases hb2:b2=b
   ·subst hb2
    rw [hb] at e2;cases e2
    exact absurd (halone b1 s1 x1 hb1 e1 g1) d1
   ·rw [aO _ _ hb2] at g2
    exact hs.apart b1 b2 c' s1 s2 x1 x2 hne e1 e2 ho g1 g2 d1 d2
 ·by_cases hbb:b'=b
  ·subst hbb;rw [eJ] at g;cases g
  ·rw [aO _ _ hbb] at g;exact hs.peer b' c' s' cs2 n2 p e g
 ·exact aO _ _ (fun e=>by subst e;rw [hb] at hn;cases hn)
theorem lu {x y:AV} {β:Type} {z:β} {k:Bool→β} (e:fp x y true (fun b=>b)=false):fp x y z k=k false:=by
 unfold fp at *
 cases x
 case int i a=>
  cases y
  case int j b=>
   have e:bc (br i j) (je a b) true=false:=e
   show bc (br i j) (k (je a b)) z=k false
   cases hij:br i j
   ·rw [hij] at e;cases e
   ·rw [hij] at e
    have e:je a b=false:=e
    rw [e];rfl
  all_goals cases e
 case str a=>
  cases y
  case str b=>
   have e:eE a b=false:=e
   show k (eE a b)=_
   rw [e]
  all_goals cases e
 all_goals cases e
theorem mL {x:AV} {β:Type} {z:β} {k:Bool→β} (hk:isKey x=true):fp x x z k=k true:=by
 rcases ji hk with ⟨i,n,rfl⟩ | ⟨s,rfl⟩
 ·show bc (br i i) (k (je n n)) z=_
  have:br i i=true:=by cases i <;> rfl
  rw [this,dj];simp [bc]
 ·show k (eE s s)=_
  rw [dU];simp
theorem Be {x v:AV} (hx:isKey x=true): ∀{es:List (AV×AV×Nat)} {j:Nat} {u:AV} {n:Nat},es[j]? =some (x,u,n)→(∀j',j' < j→∀(k' v:AV) (n:Nat),es[j']? =some (k',v,n)→fp x k' true (fun b=>b)=false)→
  ins x v es=es.set j (x,v,n)
 | [],j,u,n,e,_=>by simp at e
 | (k1,v1,n1)::es,0,u,n,e,_=>by
   simp at e
   obtain ⟨rfl,rfl,rfl⟩:=e
   show fp k1 k1 _ (fun b=>bc b ((k1,v,n1)::es) ((k1,v1,n1)::ins k1 v es))=_
   rw [mL hx];rfl
 | (k1,v1,n1)::es,j+1,u,n,e,hlt=>by
   show fp x k1 _ (fun b=>bc b ((x,v,n1)::es) ((k1,v1,n1)::ins x v es))=_
   rw [lu (hlt 0 (by omega) k1 v1 n1 rfl),Be hx (by simpa using e) (fun j' hj' k' v n hh=>hlt (j'+1) (by omega) k' v n (by simpa using hh))]
   rfl
theorem del_eq {x:AV} (hx:isKey x=true): ∀{es:List (AV×AV×Nat)} {j:Nat} {u:AV} {n:Nat},es[j]? =some (x,u,n)→(∀j',j' < j→∀(k' v:AV) (n:Nat),es[j']? =some (k',v,n)→fp x k' true (fun b=>b)=false)→
  del x es=es.eraseIdx j
 | [],j,u,n,e,_=>by simp at e
 | (k1,v1,n1)::es,0,u,n,e,_=>by
   simp at e
   obtain ⟨rfl,rfl,rfl⟩:=e
   show fp k1 k1 _ (fun b=>bc b es ((k1,v1,n1)::del k1 es))=_
   rw [mL hx];rfl
 | (k1,v1,n1)::es,j+1,u,n,e,hlt=>by
   show fp x k1 _ (fun b=>bc b es ((k1,v1,n1)::del x es))=_
   rw [lu (hlt 0 (by omega) k1 v1 n1 rfl),del_eq hx (by simpa using e) (fun j' hj' k' v n hh=>hlt (j'+1) (by omega) k' v n (by simpa using hh))]
   rfl
theorem Bf {a:AV} {x y:Value} (hg:isKey a=true) (rx:VR μ a x) (ry:VR μ a y):x=y∧Instr.sameBits 10000 x y=true:=by
 rcases ji hg with ⟨i,n,rfl⟩ | ⟨s,rfl⟩
 ·rw [VR_int] at rx ry;subst rx;subst ry
  exact ⟨rfl,by simp [Instr.sameBits]⟩
 ·rw [VR_str] at rx ry
  obtain ⟨p,rfl,rfl⟩:=rx
  obtain ⟨q,rfl,hq⟩:=ry
  have:=ew hq
  subst this
  exact ⟨rfl,by simp [Instr.sameBits,beq_toListBytes]⟩
theorem jY (hs:bq μ h w) {kt el:TypeId} {s:Bool} {m k x:AX} {ym yk yx:Value} {v:AV} (hu:P.underlying ty=some (.map kt el)) (hk:nK P kt=some s) (rm:VR μ (ay m t) ym) (rk:VR μ (ay k t) yk) (rx:VR μ (ay x t) yx)
  (e:jC s m k x t h= .ok v h'):Ob P μ h w (do Instr.mapUpdate ty ym yk yx;pure .skip) v h':=by
 obtain ⟨hg,e1⟩:=a7 e nofun
 obtain ⟨d,hd,hkt⟩:=nP hk
 have hck:=fun b w=>run_checkKey (P:=P) (μ:=μ) hd hkt hg rk b w
 rcases fM e1 nofun with ⟨_,e2⟩ | ⟨b,hm,e2⟩
 ·cases e2
 rw [hm,VR_map] at rm
 obtain ⟨c,s0,hb,rfl⟩:=rm
 have e2:mr h b RV.no (fun es n c=>look (ay k t) es .no fun r=>av (.ok undef (b9 h b (.mp (app es [(ay k t,ay x t,c)]) (Nat.succ n) (Nat.succ c))))
  (fun _=> .ok undef (b9 h b (.mp (ins (ay k t) (ay x t) es) n c))) r)= .ok v h':=e2
 obtain ⟨es,n,ck,au,e3⟩:=gR e2 nofun
 obtain ⟨hn,_,_,es',hw,hlen,hes⟩:=hs.map hb au
 have hik:=jt hg
 rcases iq hkt rk hg 0 hlen hes e3 nofun with ⟨h1,h2,_⟩ | ⟨j,k',u,n',en,h5,h6,_,h7,rfl,h8,h9,h10⟩
 ·cases h1
  rw [cg]
  obtain ⟨k1,k2⟩:=hs.rS (es2:=es++ [(ay k t,ay x t,ck)]) (es2':=es'.push {key:=yk,val:=yx,born:=ck}) (n2:=n+1) (ck2:=ck+1) hb au (by simp [hn]) (by
   refine ⟨by simp at hlen ⊢;omega,fun i k0 v0 n0 hi=>?_⟩
   rw [Array.toList_push]
   rcases Nat.lt_or_ge i es.length with hil | hil
   ·rw [List.getElem?_append_left hil] at hi
    obtain ⟨q1,e,q2,q3⟩:=hes i k0 v0 n0 hi
    exact ⟨q1,e,by rw [List.getElem?_append_left (by omega)];exact q2,q3⟩
   ·rw [List.getElem?_append_right hil] at hi
    obtain rfl:i=es.length:=by
     have:=(List.getElem?_eq_some_iff.1 hi).1
     simp at this;omega
    simp at hi
    obtain ⟨rfl,rfl,rfl⟩:=hi
    refine ⟨hik,{key:=yk,val:=yx,born:=ck},?_,rk,rx,rfl⟩
    rw [List.getElem?_append_right (by omega),hlen];simp)
  refine ⟨μ,_, .skip,?_,k2,k1, .inr ⟨rfl,rfl⟩⟩
  simp only [Instr.mapUpdate,Sem.run_bind,run_underlying hu,run_getObj_map hw,hck,Instr.findKey,run_underlying hd,h2,Result.andThen_ok,Sem.run_pure,run_setObj_map hw]
 ·cases h8
  rw [Be hik h5 h10]
  obtain ⟨hkk,hbits⟩:=Bf hik h7 rk
  have hj:j < es'.size:=by have:=(List.getElem?_eq_some_iff.1 h6).1;simpa using this
  obtain ⟨k1,k2⟩:=hs.rS (es2:=es.set j (ay k t,ay x t,n')) (es2':=es'.modify j fun e=>{e with key:=yk,val:=yx}) (n2:=n) (ck2:=ck) hb au (by simp [hn]) (by
   refine ⟨by simp at hlen ⊢;omega,fun i k0 v0 n0 hi=>?_⟩
   rw [Array.getElem?_toList,Array.getElem?_modify]
   rw [List.getElem?_set] at hi
   split at hi
   ·rename_i hji
    subst hji
    split at hi
    ·simp at hi
     obtain ⟨rfl,rfl,rfl⟩:=hi
     rw [if_pos rfl,←Array.getElem?_toList,h6]
     obtain ⟨_,e0,q2,_,_,q5⟩:=hes j _ _ _ h5
     rw [h6] at q2;cases q2
     exact ⟨hik,_,rfl,rk,rx,q5⟩
    ·cases hi
   ·rename_i hji
    rw [if_neg hji,←Array.getElem?_toList]
    exact hes i k0 v0 n0 hi)
  refine ⟨μ,_, .skip,?_,k2,k1, .inr ⟨rfl,rfl⟩⟩
  have hkey:((es'[j]?).map (·.key)).getD yk=en.key:=by
   rw [←Array.getElem?_toList,h6];rfl
  simp only [Instr.mapUpdate,Sem.run_bind,run_underlying hu,run_getObj_map hw,hck,Instr.findKey,run_underlying hd,h9,Result.andThen_ok,Sem.run_pure,run_setObj_map hw,Instr.keyThatStays,Nat.zero_add,hkey,Sem.run_ite,if_pos hbits]
theorem nS (hs:bq μ h w) {kt el ret:TypeId} {ts:List TypeId} {d:TypeDesc} {s:Bool} {m k:AX} {ym yk:Value} {v:AV} (hu:P.underlying ty=some (.map kt el)) (hd:P.underlying kt=some d) (hkt:AW P s d) (rm:VR μ (ay m t) ym) (rk:VR μ (ay k t) yk)
  (e:o5 s m k t h= .ok v h'):jW P μ h w (Builtin.delete_ (ty::ts).toArray ret #[ym,yk]) v h':=by
 have hun:VR μ undef (.tuple #[]):=l6
 obtain ⟨hg,e1⟩:=a7 e nofun
 have hck:=fun b w=>run_checkKey (P:=P) (μ:=μ) hd hkt hg rk b w
 rcases fM e1 nofun with ⟨hm,e2⟩ | ⟨b,hm,e2⟩
 ·cases e2
  rw [hm,VR_nilMap] at rm;subst rm
  refine ⟨μ,w,_,?_, .refl hs,hs,hun⟩
  simp [Builtin.delete_,run_underlying hu,hck]
 rw [hm,VR_map] at rm
 obtain ⟨c,s0,hb,rfl⟩:=rm
 obtain ⟨es,n,ck,au,e3⟩:=gR e2 nofun
 obtain ⟨hn,_,_,es',hw,hlen,hes⟩:=hs.map hb au
 have hik:=jt hg
 rcases iq hkt rk hg 0 hlen hes e3 nofun with ⟨h1,h2,_⟩ | ⟨j,k',u,n',en,h5,h6,_,h7,rfl,h8,h9,h10⟩
 ·cases h1
  refine ⟨μ,w,_,?_, .refl hs,hs,hun⟩
  simp only [Builtin.delete_,Sem.run_bind,run_underlying hu,run_getObj_map hw,hck,Instr.findKey,run_underlying hd,h2,Result.andThen_ok,Sem.run_pure,run_setObj_map hw,Bd hw,List.getElem?_toArray,List.getElem?_cons_zero,List.getElem?_cons_succ]
 ·cases h8
  rw [del_eq hik h5 h10]
  have hj:j < es.length:=(List.getElem?_eq_some_iff.1 h5).1
  obtain ⟨k1,k2⟩:=hs.rS (es2:=es.eraseIdx j) (es2':=es'.eraseIdxIfInBounds j) (n2:=n - 1) (ck2:=ck) hb au (by rw [List.length_eraseIdx,if_pos hj,hn]) (by
   have ht:(es'.eraseIdxIfInBounds j).toList=es'.toList.eraseIdx j:=by
    simp
   rw [ht]
   refine ⟨by rw [List.length_eraseIdx,List.length_eraseIdx,hlen],fun i k0 v0 n0 hi=>?_⟩
   rw [List.getElem?_eraseIdx] at hi ⊢
   split at hi
   ·rw [if_pos (by assumption)];exact hes i k0 v0 n0 hi
   ·rw [if_neg (by assumption)];exact hes (i+1) k0 v0 n0 hi)
  refine ⟨μ,_,_,?_,k2,k1,hun⟩
  simp only [Builtin.delete_,Sem.run_bind,run_underlying hu,run_getObj_map hw,hck,Instr.findKey,run_underlying hd,h9,Result.andThen_ok,Sem.run_pure,run_setObj_map hw,Nat.zero_add,List.getElem?_toArray,List.getElem?_cons_zero,List.getElem?_cons_succ]
end
end Eng
end
section
set_option linter.unusedVariables false
set_option linter.unusedSimpArgs false
namespace Eng
open Go Go.RowKit
section
variable {P:Program} {μ μ':Mp} {h h':Hp} {w w':World} {t:T} {ρ:Operand→Value} {ty:TypeId}
theorem bb.two {a b:AV} {l:List Value} (r:bb μ [a,b] l): ∃x y,l= [x,y]∧VR μ a x∧VR μ b y:=by
 rw [aH] at r
 obtain ⟨x,xs,rfl,rx,r⟩:=r
 rw [aH] at r
 obtain ⟨y,ys,rfl,ry,r⟩:=r
 rw [aF] at r;subst r
 exact ⟨x,y,rfl,rx,ry⟩
theorem bb.one {a:AV} {l:List Value} (r:bb μ [a] l): ∃x,l= [x]∧VR μ a x:=by
 rw [aH] at r
 obtain ⟨x,xs,rfl,rx,r⟩:=r
 rw [aF] at r;subst r
 exact ⟨x,rfl,rx⟩
theorem qf (hs:bq μ h w) {b:Builtin} {ts:Array TypeId} {ret:TypeId} {cs:Array Bool} {asq:Array Operand} {xs:List AX} {op:qV} {v:AV} {call:aJ} (hc:cU P b ts.toList xs= .e op)
  (r:bb μ (eh xs t) (asq.map ρ).toList) (e:pQ op call t h= .ok v h'):Ob P μ h w (builtin b ts ret cs (asq.map ρ)) v h':=by
 generalize asq.map ρ=vs at r
 obtain ⟨ts⟩:=ts
 obtain ⟨vs⟩:=vs
 simp only [] at hc r
 unfold cU at hc
 split at hc
 ·-- append
  rename_i st xt s x
  obtain ⟨ys,yx,rfl,rs,rx⟩:=r.two
  exact (uy hs hc rs rx e).gV
 ·-- len
  unfold jM at hc
  repeat' (split at hc)
  all_goals (cases hc;done)
 ·-- cap
  split at hc <;> cases hc
 ·-- copy
  rename_i dt ts d s
  obtain ⟨yd,ys,rfl,rd,rs⟩:=r.two
  split at hc
  ·rename_i el hu
   split at hc
   ·rename_i n hn
    split at hc
    ·cases hc
    ·rename_i hpos
     cases hc
     exact (Gq hs hu hn hpos rd rs e).gV
   ·cases hc
  ·cases hc
 ·-- delete
  rename_i t0 ts m k
  obtain ⟨ym,yk,rfl,rm,rk⟩:=r.two
  split at hc
  ·rename_i kt el hu
   split at hc
   ·rename_i ik hd;cases hc;exact (nS hs hu hd (.inl ⟨rfl,_,rfl⟩) rm rk e).gV
   ·rename_i hd;cases hc;exact (nS hs hu hd (.inr ⟨rfl,rfl⟩) rm rk e).gV
   ·cases hc
  ·cases hc
 ·cases hc
 ·cases hc
 ·-- clear
  rename_i t0 x
  obtain ⟨yx,rfl,rx⟩:=r.one
  split at hc
  ·rename_i el hu
   split at hc
   ·rename_i z hz;cases hc;exact (Bc hs hu hz rx e).gV
   ·cases hc
  ·cases hc
 ·cases hc
theorem nT (hs:bq μ h w) {o:Oper} {op:qV} (hc:bR P o.op= .e op) (hnc: ∀f xs,op≠ .call f xs) (hx:fC μ t ρ o.op.operands.toList) {v:AV} {call:aJ} (e:pQ op call t h= .ok v h'):Ob P μ h w (execOp ρ o) v h':=by
 unfold execOp
 generalize o.op=q at *
 generalize o.type=oty at *
 cases q
 case store ty a x=>
  obtain ⟨a',x',ha,hb,e1⟩:=cG hc nofun
  have ra:=hx a (by simp [Op.operands]) a' ha
  have rb:=hx x (by simp [Op.operands]) x' hb
  split at e1
  ·rename_i n hn;cases e1;exact A7 hs hn ra rb e
  ·cases e1
 case mapUpdate ty m k x=>
  obtain ⟨m',k',x',hm,hk,hb,e1⟩:=gT hc nofun
  have rm:=hx m (by simp [Op.operands]) m' hm
  have rk:=hx k (by simp [Op.operands]) k' hk
  have rb:=hx x (by simp [Op.operands]) x' hb
  unfold bU at e1
  split at e1
  ·rename_i kt el hu
   split at e1
   ·rename_i s hs';cases e1;exact jY hs hu hs' rm rk rb e
   ·cases e1
  ·cases e1
 case insert ty m k x=>
  obtain ⟨m',k',x',hm,hk,hb,e1⟩:=gT hc nofun
  have rm:=hx m (by simp [Op.operands]) m' hm
  have rk:=hx k (by simp [Op.operands]) k' hk
  have rb:=hx x (by simp [Op.operands]) x' hb
  unfold bU at e1
  split at e1
  ·rename_i kt el hu
   split at e1
   ·rename_i s hs';cases e1;exact jY hs hu hs' rm rk rb e
   ·cases e1
  ·cases e1
 case convert s d x=>
  obtain ⟨a,ha,e1⟩:=bd hc nofun
  have ra:=hx x (by simp [Op.operands]) a ha
  unfold gN at e1
  split at e1
  ·cases e1
  ·split at e1 <;> cases e1
  ·split at e1 <;> cases e1
  ·rename_i el0 el h1 h2
   split at e1
   ·rename_i hsd
    split at e1
    ·rename_i h3;cases e1;exact (Gr hs hsd h2 h3 ra e).gV
    ·cases e1
   ·cases e1
  ·cases e1
 case call c=>
  have hc:ec P c= .e op:=hc
  unfold ec at hc
  split at hc
  ·rename_i b hb
   split at hc
   ·rename_i xs hxs
    have r:=eN hxs hx (fun x hx=>by simp [Op.operands,Call.operands,hb];simpa using hx)
    obtain ⟨μ',w',n,h1,rest⟩:=qf (ret:=oty) (cs:=c.args.map fun | .const _=>true | _=>false) hs hc r e
    refine ⟨μ',w',n,?_,rest⟩
    simp only [resolve,hb,Sem.run_bind,Sem.run_pure,Result.andThen_ok,invoke]
    exact h1
   ·cases hc
  ·repeat' (split at hc)
   ·cases hc;exact absurd rfl (hnc _ _)
   ·cases hc
  ·cases hc
 case binOp bo ty x y yt=>
  exfalso
  have h1: ∀neg (a b:AX),gK P neg ty a b≠ .e op:=fun neg a b=>by
   unfold gK
   repeat' split
   all_goals nofun
  cases bo <;> simp only [bR,eD,dh] at hc <;> repeat' (split at hc)
  all_goals first | (cases hc;done) | exact h1 _ _ _ hc
 all_goals
  exfalso
  simp only [bR,dh,eD,nL,eI,bE,cD,cV,gO,dm,gP,dn,gQ,fP,bU,no] at hc
  repeat' (split at hc)
  all_goals (cases hc;done)
theorem qg {q:Op} {f:AX} {xs:List AX} (hc:bR P q= .e (.call f xs)): ∃c g,q= .call c∧c.callee= .value g∧dk g=some f∧fu c.args.toList=some xs:=by
 cases q
 case call c=>
  have hc:ec P c= .e (.call f xs):=hc
  unfold ec at hc
  split at hc
  ·exfalso
   split at hc
   ·unfold cU at hc
    split at hc
    ·unfold eH at hc;repeat' (split at hc)
     all_goals (cases hc;done)
    ·unfold jM at hc;repeat' (split at hc)
     all_goals (cases hc;done)
    all_goals first | (cases hc;done) | (repeat' (split at hc)) <;> (cases hc;done)
   ·cases hc
  ·rename_i g hg
   split at hc
   ·rename_i h1 h2;cases hc;exact ⟨c,g,rfl,hg,h1,h2⟩
   ·cases hc
  ·cases hc
 case binOp bo ty x y yt=>
  exfalso
  have h1: ∀neg (a b:AX),gK P neg ty a b≠ .e (.call f xs):=fun neg a b=>by
   unfold gK
   repeat' split
   all_goals nofun
  cases bo <;> simp only [bR,eD,dh] at hc <;> repeat' (split at hc)
  all_goals first | (cases hc;done) | exact h1 _ _ _ hc
 all_goals
  exfalso
  simp only [bR,dh,eD,nL,eI,bE,cD,cV,gO,dm,gP,dn,gQ,fP,bU,gN,no] at hc
  repeat' (split at hc)
  all_goals (cases hc;done)
end
end Eng
end
section
set_option linter.unusedVariables false
set_option linter.unusedSimpArgs false
namespace Eng
open Go Go.RowKit
def TR (μ:Mp) (t:T) (tmps:Array Value):Prop:= ∀i,VR μ (ay (.tmp i) t) (tmps.getD i Go.undef)
section
variable {P:Program} {μ μ':Mp} {h h':Hp} {w w':World} {t t':T} {a:Act}
theorem fU:VR μ undef Go.undef:=by
 show VR μ (.tuple []) (.tuple #[])
 exact l6
theorem TR.mono (r:TR μ t a.tmps) (hle:μ.Le μ'):TR μ' t a.tmps:=fun i=>(r i).mono hle
theorem TR.put (r:TR μ t a.tmps) {d:Option Nat} {v:AV} {y:Value} (rv:VR μ v y) (hd: ∀i,d=some i→i < a.tmps.size):TR μ (cQ d v t) (a.put d y).tmps:=by
 cases d with
 | none=>exact r
 | some d=>
   intro i
   have hlt:=hd d rfl
   show VR μ (ay (.tmp i) (cO (pathOf d) v t)) ((a.tmps.setIfInBounds d y).getD i Go.undef)
   rw [cv]
   by_cases hi:i=d
   ·subst hi
    rw [cE]
    have:(a.tmps.setIfInBounds i y).getD i Go.undef=y:=by
     rw [Array.getD_eq_getD_getElem?,Array.getElem?_setIfInBounds_self_of_lt hlt];rfl
    rw [this];exact rv
   ·rw [bD _ _ _ _ (fun e=>hi (bw e)),←cv]
    have:(a.tmps.setIfInBounds d y).getD i Go.undef=a.tmps.getD i Go.undef:=by
     rw [Array.getD_eq_getD_getElem?,Array.getD_eq_getD_getElem?,Array.getElem?_setIfInBounds_ne (fun e=>hi e.symm)]
    rw [this];exact r i
theorem fq {d:Option Nat} {y:Value}:(a.put d y).tmps.size=a.tmps.size:=by cases d <;> simp [Act.put]
theorem put_defers {d:Option Nat} {y:Value}:(a.put d y).defers=a.defers:=by cases d <;> rfl
theorem mM {l:List Operand} (r: ∀d,Operand.tmp d ∈ l→VR μ (ay (.tmp d) t) (a.tmps.getD d Go.undef)):fC μ t a.eval l:=fun x hm ax hx=>by
 cases x with
 | tmp i=>cases hx;exact r i hm
 | const v=>
   have hx:(fF v).map AX.const=some ax:=hx
   cases hc:fF v with
   | none=>rw [hc] at hx;cases hx
   | some c=>rw [hc] at hx;cases hx;exact (mB hc).1
 | func f=>
   cases hx
   rw [evX_const,VR_func]
   exact ⟨#[], #[],rfl,by rw [aF],by rw [aF]⟩
 | global g=>cases hx
theorem TR.mN (r:TR μ t a.tmps) (l:List Operand):fC μ t a.eval l:=mM fun d _=>r d
structure At (μ0:Mp) (h0:Hp) (w0:World) (n:Nat) (t:T) (h:Hp) (a:Act) (w:World):Prop where
 ex: ∃μ,TR μ t a.tmps∧bq μ h w∧bF μ0 h0 w0 μ h w
 defers:a.defers= []
 size:a.tmps.size=n
def fV (μ:Mp) (h:Hp) (w:World) (v:AV) (h':Hp):Ending→World→Prop:=fun e w'=> ∃μ' y,e= .returned y∧VR μ' v y∧bq μ' h' w'∧bF μ h w μ' h' w'
def Enters (P:Program) (f:Nat):Prop:= ∃fn c,P.funcs[f]? =some fn∧fn.name≠ "runtime.NumGoroutine" ∧fn.body=some c
def Good (P:Program) (call:aJ):Prop:= ∀f args h v h' μ w (cargs:Array Value),call f args h= .ok v h'→bq μ h w→bb μ args cargs.toList→Enters P f∧Calls P f cargs w (fV μ h w v h')
theorem jZ {f:Nat} (he:Enters P f) (args:Array Value):(callFunc f args).run P w= .ok (.enter f args) w:=by
 obtain ⟨fn,c,h1,h2,h3⟩:=he
 simp [callFunc,run_program,h1,h2,h3]
theorem tv {r:RV} {k:AV→Hp→RT} {t':T} (e:r.then k= .ok t' h'): ∃v h1,r= .ok v h1∧k v h1= .ok t' h':=by
 cases r with
 | no=>cases e
 | ok v h1=>exact ⟨v,h1,rfl,e⟩
theorem tw {r:OV} {k:AV→RT} {t':T} (e:r.then k= .ok t' h'): ∃v,r= .ok v∧k v= .ok t' h':=by
 cases r with
 | no=>cases e
 | ok v=>exact ⟨v,rfl,e⟩
theorem tx {r:OL} {k:MK→aY→RT} {t':T} (e:r.then k= .ok t' h'): ∃m x,r= .ok m x∧k m x= .ok t' h':=by
 cases r with
 | no=>cases e
 | ok m x=>exact ⟨m,x,rfl,e⟩
theorem tz {r:RT} {k:T→Hp→RT} {t':T} (e:r.then k= .ok t' h'): ∃t1 h1,r= .ok t1 h1∧k t1 h1= .ok t' h':=by
 cases r with
 | no=>cases e
 | ok t1 h1=>exact ⟨t1,h1,rfl,e⟩
theorem qh {l:As} {k:MK} {x:aY} (e:lL l t= .ok k x): ∀cs n p,x≠ .cells cs n (.pair p):=by
 have hm: ∀{cs:List AV} {n:Nat},∀cs' n' p,aZ cs n≠ .cells cs' n' (.pair p):=fun cs' n' p hh=>by cases hh
 cases l with
 | alloc z=>obtain ⟨_,e1⟩:=a7 (show bc (a9 aD z) (OL.ok .ptr (aZ z (len z))) .no= .ok k x from e) nofun;cases e1;exact hm
 | box a=>obtain ⟨_,e1⟩:=a7 (show bc (a9 aD (cellsOf (ay a t))) (OL.ok .ptr (aZ (cellsOf (ay a t)) (len (cellsOf (ay a t))))) .no= .ok k x from e) nofun;cases e1;exact hm
 | buildSlice sz n z ps=>
   obtain ⟨cs,_,e1⟩:=ba (show av OL.no (fun cs=>bc (a9 aD cs) (OL.ok (.sl n n sz true) (aZ cs (Nat.mul n sz))) .no) (dT ps t (Nat.mul n sz) (ef z n))= .ok k x from e) nofun
   obtain ⟨_,e2⟩:=a7 e1 nofun;cases e2;exact hm
 | toBytes a=>obtain ⟨s,_,e1⟩:=b4 (show ((ay a t).cy OL.no fun s=> .ok (.sl (len s) (len s) 1 false) (aZ (kr s) (len s)))= .ok k x from e) nofun;cases e1;exact hm
 | makeMap=>cases e;intro _ _ _ hh;cases hh
 | makeSlice sz by_ z l c=>
   obtain ⟨_,_,_,e1⟩:=aN (show ((ay l t).asInt OL.no fun _ l=>(ay c t).asInt .no fun _ c=>cc l .no fun l=>cc c .no fun c=>
    bc (a9 aD z) (bc (Nat.ble l c) (bc (Nat.ble (Nat.mul c by_) 70368744177664) (bc (Nat.ble c 70368744177664)
     (.ok (.sl l c sz true) (aZ (ef z c) (Nat.mul c sz))) .no) .no) .no) .no)= .ok k x from e) nofun
   obtain ⟨_,_,_,e2⟩:=aN e1 nofun
   obtain ⟨_,_,e3⟩:=bB e2 nofun
   obtain ⟨_,_,e4⟩:=bB e3 nofun
   obtain ⟨_,e5⟩:=a7 e4 nofun
   obtain ⟨_,e6⟩:=a7 e5 nofun
   obtain ⟨_,e7⟩:=a7 e6 nofun
   obtain ⟨_,e8⟩:=a7 e7 nofun
   cases e8;exact hm
theorem OF {call:aJ} (aQ:Good P call) {μ0:Mp} {h0:Hp} {w0:World} {n:Nat} {o:Oper} (hd: ∀i,o.dst=some i→i < n) {t1:T} {h1:Hp} (e:uh (bR P o.op) o.dst call t h= .ok t1 h1)
  (st:At μ0 h0 w0 n t h a w) {next:Act→World→Prop} {Q:Exit→Act→World→Prop} (hn: ∀a' w',At μ0 h0 w0 n t1 h1 a' w'→next a' w'):o.wp P a w next Q:=by
 obtain ⟨⟨μ,r,hs,g⟩,hdef,hsz⟩:=st
 have hd': ∀i,o.dst=some i→i < a.tmps.size:=fun i hi=>by rw [hsz];exact hd i hi
 unfold Oper.wp
 cases hc:bR P o.op with
 | q q=>
   rw [hc] at e
   obtain ⟨v,hv,e1⟩:=tw (show (aq q t h).then (fun v=> .ok (cQ o.dst v t) h)= .ok t1 h1 from e)
   cases e1
   obtain ⟨x,hx,rx⟩:=p9 hs hc (r.mN _) hv
   rw [hx]
   exact hn _ _ ⟨⟨μ,r.put rx hd',hs,g⟩,by rw [put_defers];exact hdef,by rw [fq];exact hsz⟩
 | l l=>
   rw [hc] at e
   obtain ⟨m,x,hm,e1⟩:=tx (show (lL l t).then (fun k x=> .ok (cQ o.dst (ku k h.next) t) (bz h x))= .ok t1 h1 from e)
   cases e1
   obtain ⟨y,w',ob,k,hrun,hp,hmk⟩:=qd hc (r.mN _) hm
   have hnone:μ.at_ h.next=none:=hs.lt _ (Nat.le_refl _)
   have hle:=mI (n:=k) hs hnone
   obtain ⟨ry,hblk⟩:=hmk (μ.ext h.next w.heap.size 0 k) h.next hle (if_pos rfl) (if_pos rfl) (if_pos rfl)
   obtain ⟨hs',g'⟩:=hs.push hp (qh hm) hblk
   rw [hrun]
   exact hn _ _ ⟨⟨_,(r.mono hle).put ry hd',hs',g.trans g'⟩,by rw [put_defers];exact hdef,by rw [fq];exact hsz⟩
 | e q=>
   rw [hc] at e
   obtain ⟨v,h2,hv,e1⟩:=tv (show (pQ q call t h).then (fun v h=> .ok (cQ o.dst v t) h)= .ok t1 h1 from e)
   cases e1
   by_cases hcall: ∃f xs,q= .call f xs
   ·obtain ⟨f,xs,rfl⟩:=hcall
    obtain ⟨c,g0,ho,hcal,hf,hxs⟩:=qg hc
    have hops:=r.mN o.op.operands.toList
    obtain ⟨fid,asq,bs,hfv,e2⟩:=mz (show ((ay f t).iU RV.no fun g a b=>call g (app a (app (eh xs t) b)) h)= .ok v _ from hv) nofun
    have rf:=r.mN [g0] g0 (by simp) f hf
    rw [hfv,VR_func] at rf
    obtain ⟨as',bs',hg0,ra,rb⟩:=rf
    have rxs:=eN hxs (r.mN c.args.toList) (fun x hx=>hx)
    rw [cg,cg] at e2
    have rall:bb μ (asq++(eh xs t++bs)) ((as'++c.args.map a.eval)++bs').toList:=by
     rw [Array.toList_append,Array.toList_append,List.append_assoc]
     exact ra.append (rxs.append rb)
    obtain ⟨hent,hcalls⟩:=aQ fid _ h v _ μ w _ e2 hs rall
    have hrun:(execOp a.eval o).run P w= .ok (.enter fid ((as'++c.args.map a.eval)++bs')) w:=by
     unfold execOp
     rw [ho]
     simp only [resolve,hcal,hg0,Deferred.ofValue,Sem.run_bind,Sem.run_pure,Result.andThen_ok,invoke]
     exact jZ hent _
    rw [hrun,Oper.upon_enter]
    refine hcalls.mono fun e w' hR=>?_
    obtain ⟨μ',y,rfl,ry,hs',g'⟩:=hR
    exact hn _ _ ⟨⟨μ',(r.mono (g'.le hs)).put ry hd',hs',g.trans g'⟩,by rw [put_defers];exact hdef,by rw [fq];exact hsz⟩
   ·obtain ⟨μ',w',nx,hrun,g',hs',hval⟩:=nT hs hc (fun f xs hh=>hcall ⟨f,xs,hh⟩) (r.mN _) hv
    rw [hrun]
    rcases hval with ⟨y,rfl,ry⟩ | ⟨rfl,rfl⟩
    ·exact hn _ _ ⟨⟨μ',(r.mono (g'.le hs)).put ry hd',hs',g.trans g'⟩,by rw [put_defers];exact hdef,by rw [fq];exact hsz⟩
    ·exact hn _ _ ⟨⟨μ',(r.mono (g'.le hs)).put fU hd',hs',g.trans g'⟩,by rw [put_defers];exact hdef,by rw [fq];exact hsz⟩
theorem kA {ops:Array Oper} {o:Oper} {g:Option (Nat×Bool)} (hg:db ops o.guard=some g)
  (r: ∀j want d,o.guard=some (j,want)→(ops[j]?).bind (·.dst)=some d→VR μ (ay (.tmp d) t) (a.tmps.getD d Go.undef)):wanted g t=Region.wanted o (yielded ops a.tmps):=by
 unfold db at hg
 unfold Region.wanted
 cases ho:o.guard with
 | none=>rw [ho] at hg;cases hg;rfl
 | some p=>
   obtain ⟨j,want⟩:=p
   rw [ho] at hg
   simp only [] at hg
   cases hj:(ops[j]?).bind (·.dst) with
   | none=>rw [hj] at hg;cases hg
   | some d=>
     rw [hj] at hg;cases hg
     show av false (fun v=>v.asBool false fun c=>bc want c (aP c)) (bf (pathOf d) t)=(yielded ops a.tmps j == some want)
     have hy:yielded ops a.tmps j=match a.tmps[d]? with | some (.bool b)=>some b | _=>none:=by
      unfold yielded;rw [hj];rfl
     have hl:av false (fun v=>v.asBool false fun c=>bc want c (aP c)) (bf (pathOf d) t)=(ay (.tmp d) t).asBool false fun c=>bc want c (aP c):=by
      rw [cv]
      cases bf (pathOf d) t <;> rfl
     rw [hl,hy]
     have rd:=r j want d ho hj
     generalize ay (.tmp d) t=v at rd
     rw [Array.getD_eq_getD_getElem?] at rd
     by_cases hv: ∃c,v= .bool c
     ·obtain ⟨c,rfl⟩:=hv
      rw [VR_bool] at rd
      cases ht:a.tmps[d]? with
      | none=>rw [ht] at rd;cases rd
      | some x=>
        rw [ht] at rd
        have rd:x= .bool c:=rd
        subst rd
        show bc want c (aP c)=(some c == some want)
        cases want <;> cases c <;> rfl
     ·have h1:v.asBool false (fun c=>bc want c (aP c))=false:=by
       cases v <;> first | rfl | exact absurd ⟨_,rfl⟩ hv
      rw [h1]
      cases ht:a.tmps[d]? with
      | none=>rfl
      | some x=>
        rw [ht] at rd
        have rd:VR μ v x:=rd
        cases x <;> first | rfl | skip
        rename_i b
        exfalso
        cases v <;> simp at rd
        ·exact hv ⟨_,rfl⟩
theorem uz {ops:Array Oper} {o:Oper} {g:Option (Nat×Bool)} (hg:db ops o.guard=some g) (r:TR μ t a.tmps):wanted g t=Region.wanted o (yielded ops a.tmps):=
 kA hg fun _ _ d _ _=>r d
theorem Bg (call:aJ) (o:AO) (t:T) (h:Hp):ui call o t h=if wanted o.guard t=true then uh o.op o.dst call t h else .ok (cQ o.dst undef t) h:=by
 unfold ui
 cases hg:o.guard with
 | none=>rfl
 | some g=>show bc (wanted (some g) t) _ _=_;rw [fB]
theorem kB {n:Nat} {ops:Array Oper} {o:Oper}:(∃g,ed P n ops o=⟨o.dst,bR P o.op,g⟩∧db ops o.guard=some g∧∀i,o.dst=some i→i < n)∨ed P n ops o=⟨none,no,none⟩:=by
 unfold ed
 split
 ·rename_i g hg hd
  refine .inl ⟨g,rfl,hg,fun i hi=>?_⟩
  rw [hi] at hd
  exact Nat.le_of_ble_eq_true hd
 ·exact .inr rfl
theorem kC {call:aJ} (aQ:Good P call) {μ0:Mp} {h0:Hp} {w0:World} {n:Nat} {ops:Array Oper} {Q:Exit→Act→World→Prop} {t1:T} {h1:Hp} (hQ: ∀a' w',At μ0 h0 w0 n t1 h1 a' w'→Q .normal a' w'):
  ∀(l:List Nat) (os:List Oper) (t:T) (h:Hp) (a:Act) (w:World),l.map (ops[·]?)=os.map some→pR call (os.map (ed P n ops)) t h= .ok t1 h1→At μ0 h0 w0 n t h a w→wpOps P ops Q l a w
 | [],os,t,h,a,w,hl,e,st=>by
   have:os= [] :=by cases os with | nil=>rfl | cons o os=>cases hl
   subst this
   cases e
   exact hQ a w st
 | i::l,[],t,h,a,w,hl,e,st=>by cases hl
 | i::l,o::os,t,h,a,w,hl,e,st=>by
   simp only [List.map_cons,List.cons.injEq] at hl
   obtain ⟨hi,hl⟩:=hl
   obtain ⟨t2,h2,e1,e2⟩:=tz (show (ui call (ed P n ops o) t h).then (pR call (os.map (ed P n ops)))= .ok t1 h1 from e)
   unfold wpOps
   rw [hi]
   simp only []
   rw [Bg] at e1
   rcases kB (P:=P) (n:=n) (ops:=ops) (o:=o) with ⟨g,ho,hg,hd⟩ | ho
   ·rw [ho] at e1
    simp only [] at e1
    obtain ⟨μ,r,hs,gs⟩:=st.ex
    rw [uz hg r] at e1
    split at e1
    ·rename_i hw
     rw [if_pos hw]
     exact .inl (OF aQ hd e1 st fun a' w' st'=>kC aQ hQ l os t2 h2 a' w' hl e2 st')
    ·rename_i hw
     rw [if_neg hw]
     cases e1
     refine kC aQ hQ l os _ _ _ _ hl e2 ⟨⟨μ,r.put fU fun i hi=>by rw [st.size];exact hd i hi,hs,gs⟩,by rw [put_defers];exact st.defers,by rw [fq];exact st.size⟩
   ·rw [ho] at e1
    cases e1
def jn (μ0:Mp) (h0:Hp) (w0:World) (n:Nat) (Q:Exit→Act→World→Prop):RS→Prop
 | .no=>False
 | .nor t h=> ∀a w,At μ0 h0 w0 n t h a w→Q .normal a w
 | .exit i t h=> ∀a w,At μ0 h0 w0 n t h a w→Q (.exit i) a w
 | .ret t h=> ∀a w,At μ0 h0 w0 n t h a w→Q .ret a w
theorem j0 {c:Code} {Q:Exit→Act→World→Prop} (J:Nat→Act→World→Prop) (zero: ∀a w,¬J 0 a w)
  (round: ∀n a w,J (n+1) a w→c.wp P (Exit.then (J n) Q) a w) {n:Nat} (h0:J n a w):(Code.loop c).wp P Q a w:=by
 intro b k cs
 have key: ∀n a w,J n a w→∃e a' w',Q e a' w'∧Arrives P (lone (b.at a (.code c:: .inLoop c::k)) cs w) b k cs e a' w':=by
  intro n
  induction n with
  | zero=>exact fun a w hJ=>absurd hJ (zero a w)
  | succ n ih=>
    intro a w hJ
    obtain ⟨e,a1,w1,hq,harr⟩:=round n a w hJ b (.inLoop c::k) cs
    cases e with
    | normal=>
      obtain ⟨e2,a2,w2,hq2,harr2⟩:=ih a1 w1 hq
      exact ⟨e2,a2,w2,hq2, .of_steps (Steps.trans harr (.one step_inLoop)) harr2⟩
    | exit id=>exact ⟨_,a1,w1,hq, .pass (x:= .inLoop c) rfl (fun _ _=> .inl (by simp)) harr⟩
    | goto l=>exact ⟨_,a1,w1,hq, .pass (x:= .inLoop c) rfl (fun _ _=> .inl (by simp)) harr⟩
    | ret=>exact ⟨_,a1,w1,hq, .pass (x:= .inLoop c) rfl (fun _ _=> .inl (by simp)) harr⟩
    | panic ch=>exact ⟨_,a1,w1,hq, .pass (x:= .inLoop c) rfl (fun _ _=> .inl (by simp)) harr⟩
    | outgrown=>exact ⟨_,a1,w1,hq, .pass (x:= .inLoop c) rfl (fun _ _=> .inl (by simp)) harr⟩
 obtain ⟨e,a',w',hq,harr⟩:=key n a w h0
 exact ⟨e,a',w',hq, .of_steps (.one step_loop) harr⟩
def gM (P:Program) (D:Nat→Array Oper→AC):Prop:= ∀(call:aJ) (N n id:Nat) (ops:Array Oper) (μ0:Mp) (h0:Hp) (w0:World) (Q:Exit→Act→World→Prop) (t:T) (h:Hp) (a:Act) (w:World),
 Good P call→jn μ0 h0 w0 n Q (ct call N (D n ops) t h)→At μ0 h0 w0 n t h a w→(Code.region id ops true).wp P Q a w
theorem fJ {D:Nat→Array Oper→AC} (hD:gM P D) {call:aJ} (aQ:Good P call) {N n:Nat} {μ0:Mp} {h0:Hp} {w0:World}:
  ∀(c:Code) (Q:Exit→Act→World→Prop) (t:T) (h:Hp) (a:Act) (w:World),jn μ0 h0 w0 n Q (ct call N (bp P D n c) t h)→At μ0 h0 w0 n t h a w→c.wp P Q a w
 | .skip,Q,t,h,a,w,hp,st=>wp_skip (hp a w st)
 | .label _,Q,t,h,a,w,hp,st=>wp_label (hp a w st)
 | .region id ops draw,Q,t,h,a,w,hp,st=>by
   cases draw with
   | true=>exact hD call N n id ops μ0 h0 w0 Q t h a w aQ hp st
   | false=>
     have hp:jn μ0 h0 w0 n Q ((pR call (ops.toList.map (ed P n ops)) t h).done):=hp
     cases e:pR call (ops.toList.map (ed P n ops)) t h with
     | no=>rw [e] at hp;exact hp.elim
     | ok t1 h1=>
       rw [e] at hp
       refine wp_region (kC aQ hp (List.range ops.size) ops.toList t h a w ?_ e st)
       apply List.ext_getElem
       ·simp
       ·intro i h1 h2
        simp at h1
        simp [h1]
 | .seq x y,Q,t,h,a,w,hp,st=>by
   have hp:jn μ0 h0 w0 n Q ((ct call N (bp P D n x) t h).then (ct call N (bp P D n y))):=hp
   refine wp_seq (fJ (N:=N) hD aQ x _ t h a w ?_ st)
   cases e:ct call N (bp P D n x) t h with
   | no=>rw [e] at hp;exact hp
   | nor t1 h1=>rw [e] at hp;exact fun a' w' st'=>fJ (N:=N) hD aQ y Q t1 h1 a' w' hp st'
   | exit i t1 h1=>rw [e] at hp;exact hp
   | ret t1 h1=>rw [e] at hp;exact hp
 | .cond c x y,Q,t,h,a,w,hp,st=>by
   have hp:jn μ0 h0 w0 n Q (ct call N (match dk c with | some z=>AC.cond z (bp P D n x) (bp P D n y) | none=> .fail "cond") t h):=hp
   cases hc:dk c with
   | none=>rw [hc] at hp;exact hp.elim
   | some z=>
     rw [hc] at hp
     have hp:jn μ0 h0 w0 n Q ((ay z t).asBool .no fun b=>bc b (ct call N (bp P D n x) t h) (ct call N (bp P D n y) t h)):=hp
     obtain ⟨μ,r,hs,g⟩:=st.ex
     have rc:=r.mN [c] c (by simp) z hc
     by_cases hb: ∃b,ay z t= .bool b
     ·obtain ⟨b,hb⟩:=hb
      rw [hb,VR_bool] at rc
      rw [hb] at hp
      have hp:jn μ0 h0 w0 n Q (bc b (ct call N (bp P D n x) t h) (ct call N (bp P D n y) t h)):=hp
      refine wp_cond_split rc (fun hh=>?_) (fun hh=>?_)
      ·subst hh;exact fJ (N:=N) hD aQ x Q t h a w hp st
      ·subst hh;exact fJ (N:=N) hD aQ y Q t h a w hp st
     ·exfalso
      generalize ay z t=v at *
      cases v <;> first | exact hp | exact hb ⟨_,rfl⟩
 | .block i x,Q,t,h,a,w,hp,st=>by
   have hp:jn μ0 h0 w0 n Q ((ct call N (bp P D n x) t h).block i):=hp
   refine wp_block (fJ (N:=N) hD aQ x _ t h a w ?_ st)
   cases e:ct call N (bp P D n x) t h with
   | no=>rw [e] at hp;exact hp
   | nor t1 h1=>rw [e] at hp;exact hp
   | exit j t1 h1=>
     rw [e] at hp
     have hp:jn μ0 h0 w0 n Q (bc (Nat.beq j i) (.nor t1 h1) (.exit j t1 h1)):=hp
     intro a' w' st'
     show if j=i then Q .normal a' w' else Q (.exit j) a' w'
     rw [di] at hp
     split
     ·rename_i hji;rw [if_pos hji] at hp;exact hp a' w' st'
     ·rename_i hji;rw [if_neg hji] at hp;exact hp a' w' st'
   | ret t1 h1=>rw [e] at hp;exact hp
 | .loop x,Q,t,h,a,w,hp,st=>by
   let R:Nat→T→Hp→RS:=fun k=>rounds (fun _ _=> .no) (fun again t h=>(ct call N (bp P D n x) t h).then again) k
   refine j0 (fun k a w=> ∃t h,jn μ0 h0 w0 n Q (R k t h)∧At μ0 h0 w0 n t h a w) ?_ ?_ (n:=N) ⟨t,h,hp,st⟩
   ·rintro a w ⟨t,h,hp,_⟩;exact hp
   ·rintro k a w ⟨t,h,hp,st⟩
    have hp:jn μ0 h0 w0 n Q ((ct call N (bp P D n x) t h).then (R k)):=hp
    refine fJ (N:=N) hD aQ x _ t h a w ?_ st
    cases e:ct call N (bp P D n x) t h with
    | no=>rw [e] at hp;exact hp
    | nor t1 h1=>rw [e] at hp;exact fun a' w' st'=>⟨t1,h1,hp,st'⟩
    | exit j t1 h1=>rw [e] at hp;exact hp
    | ret t1 h1=>rw [e] at hp;exact hp
 | .exit i,Q,t,h,a,w,hp,st=>wp_exit (hp a w st)
 | .ret,Q,t,h,a,w,hp,st=>wp_ret (hp a w st)
 | .scope _,Q,t,h,a,w,hp,st=>hp.elim
 | .goto _,Q,t,h,a,w,hp,st=>hp.elim
 | .rangeFunc _ _ _ _,Q,t,h,a,w,hp,st=>hp.elim
 | .refuse _,Q,t,h,a,w,hp,st=>hp.elim
def lv (tmps:Array Value):ResultVar→Sem Value
 | .tmp t=>pure (tmps.getD t Go.undef)
 | .cell c t=>do loadVar t (←asAddr (tmps.getD c Go.undef))
theorem mO {rs:List ResultVar} (hs:bq μ h w) (r:TR μ t a.tmps): ∀{l:List ml} {β:Type} {z q:β} {k:List AV→β},mo P rs=some l→rF l t h z k=q→z≠q→
  ∃vs xs,k vs=q∧bb μ vs xs∧(rs.mapM (lv a.tmps)).run P w= .ok xs w:=by
 induction rs with
 | nil=>intro l β z q k hc e hz;cases hc;exact ⟨[],[],e,by rw [aF],rfl⟩
 | cons x rs ih=>
   intro l β z q k hc e hz
   unfold mo at hc
   cases h1:Hr P x with
   | none=>rw [h1] at hc;cases hc
   | some b=>
     cases h2:mo P rs with
     | none=>rw [h1,h2] at hc;cases hc
     | some bs=>
       rw [h1,h2] at hc
       cases hc
       cases x with
       | tmp i=>
         cases h1
         have e:rF bs t h z (fun vs=>k (ay (.tmp i) t::vs))=q:=e
         obtain ⟨vs,xs,h3,h4,h5⟩:=ih h2 e hz
         refine ⟨_,_::xs,h3,by rw [aH];exact ⟨_,_,rfl,r i,h4⟩,?_⟩
         rw [List.mapM_cons]
         simp only [lv,Sem.run_bind,Sem.run_pure,Result.andThen_ok,h5]
       | cell c ty=>
         have h1:(match jz P ty,b5 P ty with
          | some true,some n=>some (ml.cellA c n)
          | some false,some _=>some (.cellS c)
          | _,_=>none)=some b:=h1
         split at h1
         ·rename_i n ha hn
          cases h1
          have e:((ay (.tmp c) t).cL z fun b o=>nz h b o n z fun l=>rF bs t h z fun vs=>k (.agg l::vs))=q:=e
          obtain ⟨b,o,hp,e1⟩:=dc e hz
          have rc:=r c
          rw [hp,VR_ptr] at rc
          obtain ⟨c0,s0,hb,hx⟩:=rc
          obtain ⟨l,ys,e2,r2,hlen,_,hy⟩:=mA hs hb e1 hz
          obtain ⟨vs,xs,h3,h4,h5⟩:=ih h2 e2 hz
          refine ⟨_, .agg ys.toArray::xs,h3,by rw [aH];exact ⟨_,_,rfl,by rw [VR_agg];exact ⟨_,rfl,r2⟩,h4⟩,?_⟩
          rw [List.mapM_cons]
          simp only [lv,hx,asAddr,Sem.run_bind,Sem.run_pure,Result.andThen_ok,loadVar,dd ha,run_sizeOf hn,if_true,cj hlen hy,h5]
         ·rename_i n ha hn
          cases h1
          have e:((ay (.tmp c) t).cL z fun b o=>aS h b z fun cs _ _=>av z (fun v=>rF bs t h z fun vs=>k (v::vs)) (an cs o))=q:=e
          obtain ⟨b,o,hp,e1⟩:=dc e hz
          have rc:=r c
          rw [hp,VR_ptr] at rc
          obtain ⟨c0,s0,hb,hx⟩:=rc
          obtain ⟨cs,k0,ow,hg,e2⟩:=cx e1 hz
          obtain ⟨v,hv,e3⟩:=ba e2 hz
          rw [fw] at hv
          obtain ⟨y,hy,ry⟩:=hs.cell hb hg hv
          obtain ⟨vs,xs,h3,h4,h5⟩:=ih h2 e3 hz
          refine ⟨_,y::xs,h3,by rw [aH];exact ⟨_,_,rfl,ry,h4⟩,?_⟩
          rw [List.mapM_cons]
          simp only [lv,hx,asAddr,Sem.run_bind,Sem.run_pure,Result.andThen_ok,loadVar,dd ha,Bool.false_eq_true,if_false,nB hy,h5]
         ·cases h1
def j3 (l:List AV) (k:Nat) (t:T):T:=bV (fun (_:Nat) (t:T)=>t) (fun v _ ih i t=>ih (Nat.succ i) (cO (pathOf i) v t)) l k t
theorem mP: ∀(l:List AV) (ys:List Value) (k:Nat) (t:T),bb μ l ys→
  (∀i,i < k∨k+ys.length≤i→ay (.tmp i) (j3 l k t)=ay (.tmp i) t)∧∀i,i < ys.length→VR μ (ay (.tmp (k+i)) (j3 l k t)) (ys.getD i Go.undef)
 | [],ys,k,t,r=>by
   rw [aF] at r;subst r
   exact ⟨fun _ _=>rfl,fun i hi=>absurd hi (by simp)⟩
 | v::l,ys,k,t,r=>by
   rw [aH] at r
   obtain ⟨y,ys,rfl,ry,rl⟩:=r
   obtain ⟨h1,h2⟩:=mP l ys (k+1) (cO (pathOf k) v t) rl
   have hf:j3 (v::l) k t=j3 l (k+1) (cO (pathOf k) v t):=rfl
   have b9: ∀j,j≠k→ay (.tmp j) (cO (pathOf k) v t)=ay (.tmp j) t:=fun j hj=>by
    rw [cv,cv,bD _ _ _ _ (fun e=>hj (bw e))]
   have hself:ay (.tmp k) (cO (pathOf k) v t)=v:=by rw [cv,cE];rfl
   refine ⟨fun i hi=>?_,fun i hi=>?_⟩
   ·simp at hi
    rw [hf,h1 i (by omega),b9 i (by omega)]
   ·rw [hf]
    cases i with
    | zero=>rw [h1 (k+0) (by omega)];rw [Nat.add_zero,hself];simpa using ry
    | succ i=>
      have:=h2 i (by simp at hi;omega)
      rw [show k+(i+1)=k+1+i by omega]
      simpa using this
theorem kD {args:List AV} {xs:Array Value} (r:bb μ args xs.toList) (k:Nat):TR μ (cI args) (xs++Array.replicate k Go.undef):=fun i=>by
 obtain ⟨h1,h2⟩:=mP args xs.toList 0 .lf r
 have hf:cI args=j3 args 0 .lf:=rfl
 rw [hf]
 by_cases hi:i < xs.size
 ·have:=h2 i (by simpa using hi)
  rw [Nat.zero_add] at this
  have e1:(xs++Array.replicate k Go.undef).getD i Go.undef=xs.toList.getD i Go.undef:=by
   rw [Array.getD_eq_getD_getElem?,Array.getElem?_append_left hi];simp
  rw [e1];exact this
 ·rw [h1 i (.inr (by simp;omega)),cv,dA]
  have e1:(xs++Array.replicate k Go.undef).getD i Go.undef=Go.undef:=by
   rw [Array.getD_eq_getD_getElem?,Array.getElem?_append_right (by omega),Array.getElem?_replicate]
   split <;> rfl
  rw [e1];exact fU
theorem Bh {vs:List AV} {xs:List Value} (r:bb μ vs xs):VR μ (AJ vs) (if h:xs.toArray.size=1 then xs.toArray[0] else .tuple xs.toArray):=by
 have hl:=r.length
 cases vs with
 | nil=>
   rw [aF] at r;subst r
   show VR μ (.tuple []) (.tuple #[])
   exact fU
 | cons v vs=>
   cases vs with
   | nil=>
     obtain ⟨x,rfl,rx⟩:=r.one
     exact rx
   | cons u us=>
     have: ¬xs.toArray.size=1:=by simp at hl ⊢;omega
     rw [dif_neg this]
     show VR μ (.tuple (v::u::us)) _
     rw [VR_tuple];exact .inr ⟨_,rfl,r⟩
theorem Gs {D:Nat→Array Oper→AC} (hD:gM P D) {call:aJ} (aQ:Good P call) (N:Nat):Good P (kv (ae P D) N call):=fun f args h v h' μ w cargs e hs r=>by
 obtain ⟨af,hf,e1⟩:=ba (show av RV.no (fun fn=>bc (Nat.ble (len args) fn.ntmps) (finish fn.results (ct call N fn.body (cI args) h)) .no) (ae P D f)= .ok v h' from e) nofun
 obtain ⟨hle,e2⟩:=bY e1 nofun
 unfold ae at hf
 cases hfn:P.funcs[f]? with
 | none=>rw [hfn] at hf;cases hf
 | some fn=>
   rw [hfn] at hf
   have hf:pL P D fn=some af:=hf
   unfold pL at hf
   split at hf
   ·cases hf
   rename_i hname
   split at hf
   ·rename_i c rs hb hrs
    cases hf
    refine ⟨⟨fn,c,hfn,hname,hb⟩,calls_of_wp hfn hb ?_⟩
    have hlen:cargs.size=args.length:=by have:=r.length;simpa using this
    have hle:args.length≤fn.ntmps:=by rw [bA] at hle;exact hle
    have st:At μ h w fn.ntmps (cI args) h {tmps:=cargs++Array.replicate (fn.ntmps - cargs.size) Go.undef,defers:=[]} w:=
     ⟨⟨μ,kD r _,hs, .refl hs⟩,rfl,by simp;omega⟩
    have fin: ∀(t1:T) (h1:Hp),results rs t1 h1= .ok v h'→∀a1 w1,At μ h w fn.ntmps t1 h1 a1 w1→a1.defers= []∧∃y,(Go.results fn a1.tmps).run P w1= .ok y w1∧fV μ h w v h' (.returned y) w1:=fun t1 h1 er a1 w1 st1=>by
     obtain ⟨μ1,r1,hs1,g1⟩:=st1.ex
     obtain ⟨vs,xs,h3,h4,h5⟩:=mO (P:=P) hs1 r1 hrs (show rF rs t1 h1 RV.no (fun vs=> .ok (AJ vs) h1)= .ok v h' from er) nofun
     cases h3
     refine ⟨st1.defers,_,?_,μ1,_,rfl,Bh h4,hs1,g1⟩
     have hm:(fn.results.mapM (lv a1.tmps)).run P w1= .ok xs.toArray w1:=fR _ _ _ h5
     have hdef:Go.results fn a1.tmps=(do let vs←fn.results.mapM (lv a1.tmps);pure (if h:vs.size=1 then vs[0] else .tuple vs)):=rfl
     rw [hdef]
     simp only [Sem.run_bind,hm,Result.andThen_ok,Sem.run_pure]
    refine fJ hD aQ c _ _ h _ w (N:=N) (n:=fn.ntmps) (μ0:=μ) (h0:=h) (w0:=w) ?_ st
    show jn μ h w fn.ntmps _ (ct call N (bp P D fn.ntmps c) (cI args) h)
    have e2:finish rs (ct call N (bp P D fn.ntmps c) (cI args) h)= .ok v h':=e2
    cases e3:ct call N (bp P D fn.ntmps c) (cI args) h with
    | no=>rw [e3] at e2;cases e2
    | nor t1 h1=>rw [e3] at e2;exact fun a1 w1 st1=>fin t1 h1 e2 a1 w1 st1
    | exit i t1 h1=>rw [e3] at e2;cases e2
    | ret t1 h1=>rw [e3] at e2;exact fun a1 w1 st1=>fin t1 h1 e2 a1 w1 st1
   ·cases hf
theorem ir {D:Nat→Array Oper→AC} (hD:gM P D) {M:Nat→Option (List AV→Hp→RV)} (hM:Good P fun f args h=>av .no (fun m=>m args h) (M f)) (N:Nat): ∀d,Good P (kZ M (ae P D) N d)
 | 0=>fun f args h v h' μ w cargs e hs r=>by cases e
 | d+1=>fun f args h v h' μ w cargs e hs r=>by
   have e:av (kv (ae P D) N (kZ M (ae P D) N d) f args h) (fun m=>m args h) (M f)= .ok v h':=e
   cases hm:M f with
   | none=>
     rw [hm] at e
     exact Gs hD (ir hD hM N d) N f args h v h' μ w cargs e hs r
   | some m=>
     rw [hm] at e
     exact hM f args h v h' μ w cargs (show av RV.no (fun m=>m args h) (M f)= .ok v h' by rw [hm];exact e) hs r
end
end Eng
end
section
set_option linter.unusedVariables false
namespace Eng
open Go Go.RowKit
section
variable {P:Program} {μ μ':Mp} {h h':Hp} {w w':World}
def Mp.none:Mp:=⟨fun _=>Option.none,fun _=>false,fun _=>0⟩
theorem bq.none (w:World):bq Mp.none H0 w:=
 ⟨fun _ _=>rfl,fun b _=>dA _,nofun,nofun,nofun,nofun⟩
def TA (_:Nat):Option (List AV→Hp→RV):=Option.none
theorem pj:Good P fun f args h=>av .no (fun m=>m args h) (TA f):=fun f args h v h' μ w cargs e hs r=>by cases e
def isTrue (r:RV):Bool:=r.cs false fun v _=>(Hs v).cs false fun b=>b
theorem mQ {r:RV} (h:isTrue r=true): ∃h',r= .ok (.bool true) h':=by
 cases r with
 | no=>cases h
 | ok v h'=>
   cases v <;> first | (cases h;done) | skip
   rename_i b
   have h:b=true:=h
   subst h
   exact ⟨h',rfl⟩
theorem bF.below (g:bF Mp.none h w μ' h' w'):Below w.heap.size w w':=⟨g.os,g.tape,g.output,g.heap,fun k hk=>g.kept k hk rfl⟩
theorem rT {D:Nat→Array Oper→AC} (hD:gM P D) {M:Nat→Option (List AV→Hp→RV)} (hM:Good P fun f args h=>av .no (fun m=>m args h) (M f)) (N d f:Nat) (w:World)
  (args:List AV) (cargs:Array Value) (r:bb Mp.none args cargs.toList) (e:isTrue (kZ M (ae P D) N d f args H0)=true):
  Calls P f cargs w fun e w'=>e= .returned (.bool true)∧Below w.heap.size w w':=by
 obtain ⟨h',e1⟩:=mQ e
 refine (ir hD hM N d f args H0 _ h' Mp.none w cargs e1 (.none w) r).2.mono fun e w' hR=>?_
 obtain ⟨μ',y,rfl,ry,hs,g⟩:=hR
 rw [VR_bool] at ry
 subst ry
 exact ⟨rfl,g.below⟩
end
end Eng
end
section
set_option linter.unusedVariables false
set_option linter.unusedSimpArgs false
namespace Eng
open Go Go.RowKit
def count (l:Array Bool):Nat:=(l.toList.filter id).length
theorem count_set {l:Array Bool} {i:Nat} (h:l.getD i true=false):count (l.setIfInBounds i true)=count l+1:=by
 unfold count
 rw [Array.toList_setIfInBounds]
 have hlt:i < l.toList.length:=by
  rcases Nat.lt_or_ge i l.size with h' | h'
  ·simpa using h'
  ·simp [Array.getElem?_eq_none h'] at h
 have hi:l.toList[i]? =some false:=by
  rw [Array.getElem?_toList,Array.getElem?_eq_getElem (by simpa using hlt)]
  have:l[i]'(by simpa using hlt)=false:=by simpa [Array.getElem?_eq_getElem (by simpa using hlt:i < l.size)] using h
  rw [this]
 generalize l.toList=m at *
 clear h
 induction m generalizing i with
 | nil=>simp at hi
 | cons b m ih=>
   cases i with
   | zero=>simp at hi;subst hi;simp
   | succ i=>
     simp at hi
     have:=ih (by simpa using hlt) hi
     cases b <;> simp [this]
theorem count_le (l:Array Bool):count l≤l.size:=by
 unfold count
 have:=List.length_filter_le (id:Bool→Bool) l.toList
 simpa using this
theorem mR {l:Array Bool} (h:count l=l.size) (i:Nat):l.getD i true=true:=by
 unfold count at h
 have h':(l.toList.filter id).length=l.toList.length:=by simpa using h
 have:=List.filter_eq_self.1 (List.Sublist.eq_of_length List.filter_sublist h')
 rcases Nat.lt_or_ge i l.size with hlt | hge
 ·have hm:=this (l[i]) (by simp)
  simp [Array.getElem?_eq_getElem hlt];simpa using hm
 ·simp [Array.getElem?_eq_none hge]
section
variable {P:Program} {md:Region.Mode} {ops:Array Oper}
def Ends (md:Region.Mode) (ops:Array Oper):Prop:= ∀listed:Array Bool,listed.size=ops.size→Region.ready md ops listed= []→∀i,listed.getD i true=true
theorem mS (listed:Array Bool) (hs:listed.size=ops.size) (hstuck:Region.ready md ops listed= []): ∀(fuel t:Nat) (l:Array Bool),l.size=ops.size→(∀i,l.getD i false=true→listed.getD i false=true)→
  (Region.linearise.go md ops fuel t l []).length+count l≤count listed
 | 0,t,l,hl,hle=>by
   simp only [Region.linearise.go,List.reverse_nil,List.length_nil,Nat.zero_add]
   unfold count
   have key: ∀(a b:List Bool),a.length=b.length→(∀i:Nat,a[i]? =some true→b[i]? =some true)→(a.filter id).length≤(b.filter id).length:=by
    intro a
    induction a with
    | nil=>intro b _ _;simp
    | cons x a ih=>
      intro b hlen hb
      cases b with
      | nil=>simp at hlen
      | cons y b=>
        have h1:=ih b (by simpa using hlen) (fun i hi=>by simpa using hb (i+1) (by simpa using hi))
        have h2:=hb 0
        cases x <;> cases y <;> simp at h2 ⊢ <;> omega
   refine key _ _ (by simp [hl,hs]) fun i hi=>?_
   have:=hle i (by rw [Array.getElem?_toList] at hi;simp [hi])
   rw [Array.getElem?_toList]
   cases hg:listed[i]? with
   | none=>simp [hg] at this
   | some b=>simp [hg] at this;rw [this]
 | fuel+1,t,l,hl,hle=>by
   simp only [Region.linearise.go]
   change (match (Region.ready md ops l)[t % (Region.ready md ops l).length]? with
    | some i=>Region.linearise.go md ops fuel (t / (Region.ready md ops l).length) (l.setIfInBounds i true) [i]
    | none=>[].reverse).length+count l≤count listed
   cases hi:(Region.ready md ops l)[t % (Region.ready md ops l).length]? with
   | none=>have:=mS listed hs hstuck 0 t l hl hle;simpa [Region.linearise.go] using this
   | some i=>
     simp only []
     have hr:=List.mem_of_getElem? hi
     obtain ⟨h0,o,ho,hall⟩:=mem_ready.1 hr
     have hin:listed.getD i false=true:=by
      by_cases hc:listed.getD i true=false
      ·exfalso
       have:i ∈ Region.ready md ops listed:=mem_ready.2 ⟨hc,o,ho,fun e he hb=>hle _ (hall e he hb)⟩
       rw [hstuck] at this;cases this
      ·have hlt:i < listed.size:=by rw [hs];exact (Array.getElem?_eq_some_iff.1 ho).1
       simp [Array.getElem?_eq_getElem hlt] at hc ⊢
       exact hc
     rw [linearise_go_acc]
     have:=mS listed hs hstuck fuel (t / (Region.ready md ops l).length) (l.setIfInBounds i true) (by simpa using hl) (fun j hj=>by
      by_cases hij:i=j
      ·subst hij;exact hin
      ·rw [getD_set_ne false hij] at hj;exact hle j hj)
     rw [count_set h0] at this
     simp only [List.reverse_singleton,List.length_append,List.length_singleton]
     omega
theorem Gt (h:(Region.linearise .gc ops 0).length=ops.size):Ends .gc ops:=fun listed hs hstuck=>by
 have:=mS (md:= .gc) listed hs hstuck ops.size 0 (Array.replicate ops.size false) (by simp) (fun i hi=>by
  rw [Array.getD_eq_getD_getElem?,Array.getElem?_replicate] at hi
  split at hi <;> simp at hi)
 have h2:(Region.linearise.go .gc ops ops.size 0 (Array.replicate ops.size false) []).length=ops.size:=h
 have h3:=count_le listed
 exact mR (by omega)
theorem j4: ∀{os:List Oper} {k:Nat},forward os k=true→∀(j:Nat) (o:Oper),os[j]? =some o→∀e ∈ o.after,Region.binds .text e=true→e.on < k+j
 | [],k,_,j,o,ho=>by simp at ho
 | o0::os,k,h,j,o,ho=>by
   simp only [forward,Bool.and_eq_true,List.all_eq_true] at h
   cases j with
   | zero=>
     simp at ho;subst ho
     intro e he hb
     have:=h.1 e (by simpa using he)
     rw [hb] at this
     simp at this
     have h2:Nat.blt e.on k=true:=by simpa using this
     have:=Nat.le_of_ble_eq_true (show Nat.ble (e.on+1) k=true from h2)
     omega
   | succ j=>
     intro e he hb
     have:=j4 h.2 j o (by simpa using ho) e he hb
     omega
theorem iY {e:Edge} (h:Region.binds .any e=true):Region.binds .text e=true:=by
 unfold Region.binds at *;split <;> simp_all
theorem pn {e:Edge} (h:Region.binds .any e=true):Region.binds .gc e=true:=by
 unfold Region.binds at *;split <;> simp_all
theorem j5 (hf:forward ops.toList 0=true) (hm: ∀e,Region.binds md e=true→Region.binds .text e=true):Ends md ops:=fun listed hs hstuck=>by
 have key: ∀n i,i < n→listed.getD i true=true:=by
  intro n
  induction n with
  | zero=>intro i hi;omega
  | succ n ih=>
    intro i hi
    by_cases hin:i < n
    ·exact ih i hin
    ·obtain rfl:i=n:=by omega
     by_cases hc:listed.getD i true=false
     ·exfalso
      have hlt:i < ops.size:=by
       rcases Nat.lt_or_ge i listed.size with h' | h'
       ·omega
       ·simp [Array.getElem?_eq_none h'] at hc
      have:i ∈ Region.ready md ops listed:=mem_ready.2 ⟨hc,ops[i],Array.getElem?_eq_getElem hlt,fun e he hb=>by
       have h1:=j4 hf i ops[i] (by rw [Array.getElem?_toList,Array.getElem?_eq_getElem hlt]) e he (hm e hb)
       have h2:=ih e.on (by omega)
       have h3:e.on < listed.size:=by omega
       simp [Array.getElem?_eq_getElem h3] at h2 ⊢
       exact h2⟩
      rw [hstuck] at this;cases this
     ·simpa using hc
 exact fun i=>key (i+1) i (by omega)
theorem Bi {id:Nat} {Q:Exit→Act→World→Prop} {a:Act} {w:World} (hf:forward ops.toList 0=true) (he:q_ ops=true)
  (h: ∀md,Ends md ops→wpAny P md ops Q ops.size (Array.replicate ops.size false) a {w with drawn:=w.drawn+1}):(Code.region id ops true).wp P Q a w:=by
 refine wp_region_draw fun t=>?_
 have hany:Ends .any ops:=j5 hf fun e=>iY
 have htext:Ends .text ops:=j5 hf fun e h=>h
 unfold Region.schedule
 split
 ·exact wpAny_sound ops.size t _ a _ (h .any hany)
 ·rename_i hd
  split
  ·exact wpAny_sound ops.size _ _ a _ (h .text htext)
  ·refine wpAny_sound ops.size _ _ a _ (h .gc (Gt ?_))
   unfold q_ at he
   simp only [Bool.or_eq_true,Bool.not_eq_true'] at hd he
   rcases he with he | he
   ·exact absurd (Or.inr he) hd
   ·exact Nat.eq_of_beq_eq_true he
theorem tA: ∀(os:List Oper) (acc:List Nat),(mm os acc).length=acc.length+os.length∧(∀i,i < acc.length→(mm os acc).getD i 0=acc.getD i 0)∧
  ∀(j:Nat) (o:Oper),os[j]? =some o→∀l,((mm os acc).getD (acc.length+j) 0).testBit l=true→∃e ∈ o.after,Region.binds .any e=true∧(l=e.on∨((mm os acc).getD e.on 0).testBit l=true)
 | [],acc=>⟨by simp [mm],fun _ _=>rfl,fun j o ho=>by simp at ho⟩
 | o0::os,acc=>by
   obtain ⟨h1,h2,h3⟩:=tA os (acc++ [o0.after.toList.foldl (fun s e=>if Region.binds .any e then s ||| 2 ^ e.on ||| acc.getD e.on 0 else s) 0])
   have hunf:mm (o0::os) acc=mm os (acc++ [o0.after.toList.foldl (fun s e=>if Region.binds .any e then s ||| 2 ^ e.on ||| acc.getD e.on 0 else s) 0]):=rfl
   rw [hunf]
   have hpre: ∀i,i < acc.length→(mm os (acc++ [o0.after.toList.foldl (fun s e=>if Region.binds .any e then s ||| 2 ^ e.on ||| acc.getD e.on 0 else s) 0])).getD i 0=acc.getD i 0:=fun i hi=>by
    rw [h2 i (by simp;omega)]
    simp [List.getElem?_append_left hi]
   refine ⟨by rw [h1];simp;omega,hpre,fun j o ho l hl=>?_⟩
   cases j with
   | zero=>
     simp at ho;subst ho
     rw [Nat.add_zero,h2 acc.length (by simp)] at hl
     have hfold: ∀(es:List Edge) (s:Nat),(es.foldl (fun s e=>if Region.binds .any e then s ||| 2 ^ e.on ||| acc.getD e.on 0 else s) s).testBit l=true→
       s.testBit l=true∨∃e ∈ es,Region.binds .any e=true∧(l=e.on∨(acc.getD e.on 0).testBit l=true):=by
      intro es
      induction es with
      | nil=>intro s hs;exact .inl hs
      | cons e es ih=>
        intro s hs
        rw [List.foldl_cons] at hs
        rcases ih _ hs with h | ⟨e',he',hb,hh⟩
        ·split at h
         ·rename_i hb
          rw [Nat.testBit_or,Nat.testBit_or] at h
          simp only [Bool.or_eq_true] at h
          rcases h with (h | h) | h
          ·exact .inl h
          ·refine .inr ⟨e,by simp,hb, .inl ?_⟩
           rw [Nat.testBit_two_pow] at h
           simpa using (of_decide_eq_true h).symm
          ·exact .inr ⟨e,by simp,hb, .inr h⟩
         ·exact .inl h
        ·exact .inr ⟨e',by simp [he'],hb,hh⟩
     have hl:(o0.after.toList.foldl (fun s e=>if Region.binds .any e then s ||| 2 ^ e.on ||| acc.getD e.on 0 else s) 0).testBit l=true:=by
      rw [List.getD_eq_getElem?_getD,List.getElem?_append_right (Nat.le_refl _)] at hl
      simpa only [Nat.sub_self,List.getElem?_cons_zero,Option.getD_some] using hl
     rcases hfold _ _ hl with h | ⟨e,he,hb,hh⟩
     ·simp at h
     ·refine ⟨e,by simpa using he,hb,?_⟩
      rcases hh with hh | hh
      ·exact .inl hh
      ·right
       have hlt:e.on < acc.length:=by
        rcases Nat.lt_or_ge e.on acc.length with h' | h'
        ·exact h'
        ·simp [List.getElem?_eq_none h'] at hh
       rw [hpre _ hlt];exact hh
   | succ j=>
     have:=h3 j o (by simpa using ho) l (by
      have:(acc++ [o0.after.toList.foldl (fun s e=>if Region.binds .any e then s ||| 2 ^ e.on ||| acc.getD e.on 0 else s) 0]).length+j=acc.length+(j+1):=by simp;omega
      rw [this];exact hl)
     exact this
theorem iu {n:Nat}: ∀{os:List Oper} {asq:List Nat} {k:Nat} {x:NO},x ∈ bP P n ops os asq k→∃j o,os[j]? =some o∧j < asq.length∧x=⟨k+j,ed P n ops o,asq.getD j 0,o⟩
 | [],asq,k,x,h=>by simp [bP] at h
 | o::os,[],k,x,h=>by simp [bP] at h
 | o::os,a::asq,k,x,h=>by
   rw [show bP P n ops (o::os) (a::asq) k=⟨k,ed P n ops o,a,o⟩::bP P n ops os asq (k+1) from rfl,List.mem_cons] at h
   rcases h with rfl | h
   ·exact ⟨0,o,rfl,by simp,by simp⟩
   ·obtain ⟨j,o',h1,h2,rfl⟩:=iu h
    exact ⟨j+1,o',by simpa using h1,by simpa using h2,by simp;omega⟩
theorem j6 {n:Nat}: ∀{os:List Oper} {asq:List Nat} {k:Nat} (j:Nat) (o:Oper),os[j]? =some o→j < asq.length→(⟨k+j,ed P n ops o,asq.getD j 0,o⟩:NO)∈ bP P n ops os asq k
 | [],asq,k,j,o,h,_=>by simp at h
 | o::os,[],k,j,_,_,h=>by simp at h
 | o0::os,a::asq,k,j,o,h,hlt=>by
   rw [show bP P n ops (o0::os) (a::asq) k=⟨k,ed P n ops o0,a,o0⟩::bP P n ops os asq (k+1) from rfl,List.mem_cons]
   cases j with
   | zero=>simp at h;subst h;left;simp
   | succ j=>
     right
     have:=j6 (n:=n) (k:=k+1) (asq:=asq) j o (by simpa using h) (by simpa using hlt)
     have e:k+1+j=k+(j+1):=by omega
     rw [e] at this
     simpa using this
end
end Eng
end
section
set_option linter.unusedVariables false
set_option linter.unusedSimpArgs false
namespace Eng
open Go Go.RowKit
inductive nU (call:aJ):List It→T→Hp→List PD→T→Hp→Prop
 | last {n t h ps r}:aW ps n h=true→nU call (.last n::r) t h ps t h
 | skip {n hi q r t h ps t' h'}:wanted q.o.guard t=false→nU call r (cQ q.o.dst undef t) h ps t' h'→nU call (.op n hi q::r) t h ps t' h'
 | quiet {n hi q r t h ps t' h' f v}:wanted q.o.guard t=true→q.o.op= .q f→aq f t h= .ok v→nU call r (cQ q.o.dst v t) h (⟨f,t,v,hi⟩::ps) t' h'→nU call (.op n hi q::r) t h ps t' h'
 | alloc {n hi q r t h ps t' h' f m x}:wanted q.o.guard t=true→q.o.op= .l f→lL f t= .ok m x→nU call r (cQ q.o.dst (ku m h.next) t) (bz h x) ps t' h'→nU call (.op n hi q::r) t h ps t' h'
 | gV {n e r t h ps t1 h1 t' h'}:aW ps n h=true→ui call e.o t h= .ok t1 h1→nU call r t1 h1 ps t' h'→nU call (.gV n e::r) t h ps t' h'
theorem ft {call:aJ} {t':T} {h':Hp} {n:Nat} {tail:List It} {k:T→Hp→List PD→RT} (hk: ∀t1 h1 ps1,k t1 h1 ps1= .ok t' h'→nU call tail t1 h1 ps1 t' h'):
  ∀(qs:List (NO×Nat)) (t:T) (h:Hp) (ps:List PD),ep (qs.map fun q=>(q.1.o,q.2)) t h ps k= .ok t' h'→nU call (qs.map (fun q=>It.op n q.2 q.1)++tail) t h ps t' h'
 | [],t,h,ps,e=>hk t h ps e
 | q::qs,t,h,ps,e=>by
   have e:bc (wanted q.1.o.guard t) (q.1.o.op.cs
    (fun f=>AI f q.1.o.dst q.2 t h ps fun t h ps=>ep (qs.map fun q=>(q.1.o,q.2)) t h ps k)
    (fun l=>(lL l t).then fun m x=>ep (qs.map fun q=>(q.1.o,q.2)) (cQ q.1.o.dst (ku m h.next) t) (bz h x) ps k)
    (fun _=> .no)) (ep (qs.map fun q=>(q.1.o,q.2)) (cQ q.1.o.dst undef t) h ps k)= .ok t' h':=e
   show nU call (It.op n q.2 q.1::(qs.map (fun q=>It.op n q.2 q.1)++tail)) t h ps t' h'
   cases hw:wanted q.1.o.guard t with
   | false=>
     rw [hw] at e
     exact .skip hw (ft hk qs _ _ _ e)
   | true=>
     rw [hw] at e
     cases ho:q.1.o.op with
     | q f=>
       rw [ho] at e
       obtain ⟨v,hv,e1⟩:=tw (show (aq f t h).then (fun v=>ep (qs.map fun q=>(q.1.o,q.2)) (cQ q.1.o.dst v t) h (⟨f,t,v,q.2⟩::ps) k)= .ok t' h' from e)
       exact .quiet hw ho hv (ft hk qs _ _ _ e1)
     | l f=>
       rw [ho] at e
       obtain ⟨m,x,hm,e1⟩:=tx (show (lL f t).then (fun m x=>ep (qs.map fun q=>(q.1.o,q.2)) (cQ q.1.o.dst (ku m h.next) t) (bz h x) ps k)= .ok t' h' from e)
       exact .alloc hw ho hm (ft hk qs _ _ _ e1)
     | e f=>rw [ho] at e;cases e
theorem qi {call:aJ} {t':T} {h':Hp}: ∀(st:List (List (NO×Nat)×Option NO)) (n:Nat) (t:T) (h:Hp) (ps:List PD),
  mw call (st.map fun s=>⟨s.1.map fun q=>(q.1.o,q.2),s.2.map (·.o)⟩) n t h ps= .ok t' h'→nU call (flat n st) t h ps t' h'
 | [],n,t,h,ps,e=>by cases e
 | (qs,eo)::st,n,t,h,ps,e=>by
   have e:ep (qs.map fun q=>(q.1.o,q.2)) t h ps (fun t h ps=>
    bc (aW ps n h) (av (.ok t h) (fun e=>(ui call e t h).then fun t h=>mw call (st.map fun s=>⟨s.1.map fun q=>(q.1.o,q.2),s.2.map (·.o)⟩) (Nat.succ n) t h ps) (eo.map (·.o))) .no)= .ok t' h':=e
   cases eo with
   | none=>
     refine ft (tail:=[It.last n]) (fun t1 h1 ps1 e1=>?_) qs t h ps e
     obtain ⟨hr,e2⟩:=a7 e1 nofun
     cases e2
     exact .last hr
   | some x=>
     refine ft (tail:=It.gV n x::flat (n+1) st) (fun t1 h1 ps1 e1=>?_) qs t h ps e
     obtain ⟨hr,e2⟩:=a7 e1 nofun
     obtain ⟨t2,h2,e3,e4⟩:=tz (show (ui call x.o t1 h1).then (fun t h=>mw call (st.map fun s=>⟨s.1.map fun q=>(q.1.o,q.2),s.2.map (·.o)⟩) (Nat.succ n) t h ps1)= .ok t' h' from e2)
     exact .gV hr e3 (qi st (n+1) t2 h2 ps1 e4)
def Wr (ops:Array Oper) (j d:Nat):Prop:= ∃o,ops[j]? =some o∧o.dst=some d
structure Static (P:Program) (n:Nat) (ops:Array Oper) (A:Nat→Nat):Prop where
 uniq: ∀i j d,Wr ops i d→Wr ops j d→i=j
 order: ∀i j d o,ops[i]? =some o→Operand.tmp d ∈ o.op.operands.toList→Wr ops j d→i≠j∧((A i).testBit j=true∨(A j).testBit i=true)
 guard: ∀i o g want,ops[i]? =some o→o.guard=some (g,want)→(A i).testBit g=true
 anc: ∀i o l,ops[i]? =some o→(A i).testBit l=true→∃e ∈ o.after,Region.binds .any e=true∧(l=e.on∨(A e.on).testBit l=true)
structure Rec (P:Program) (n:Nat) (ops:Array Oper) (A:Nat→Nat) (es:List NO) (h0:Hp) (t0:T) (fr:T) (v:AV) (b:Nat) (al:Bool) (t:T) (h:Hp) (ps:List PD) (μ:Mp) (i:Nat) (o:Oper) (g:Option (Nat×Bool)):Prop where
 op:ops[i]? =some o
 grd:db ops o.guard=some g
 lt: ∀d,o.dst=some d→d < n
 dst: ∀d,o.dst=some d→ay (.tmp d) t=v
 fr1: ∀d j,Wr ops j d→(A i).testBit j=true→ay (.tmp d) fr=ay (.tmp d) t
 fr2: ∀d j,Operand.tmp d ∈ o.op.operands.toList→Wr ops j d→(A i).testBit j=false→ay (.tmp d) fr=ay (.tmp d) t0
 fr3: ∀d,(∀j,¬Wr ops j d)→ay (.tmp d) fr=ay (.tmp d) t0
 kind:(wanted g fr=false∧v=undef)∨(wanted g fr=true∧
  ((∃f hi,bR P o.op= .q f∧(⟨f,fr,v,hi⟩:PD)∈ ps∧∀e,es[hi]? =some e→(A e.i).testBit i=true)∨
   (∃f m x,bR P o.op= .l f∧lL f fr= .ok m x∧v=ku m b∧μ.at_ b=none∧(∀y,au h b=some y→y=x)∧b < h.next∧h0.next≤b∧al=true)))
structure Ap (P:Program) (n:Nat) (ops:Array Oper) (A:Nat→Nat) (es:List NO) (μ0:Mp) (h0:Hp) (w0:World) (t0:T) (s:Nat) (fr:Nat→T) (v:Nat→AV) (bk:Nat→Nat) (al:Nat→Bool) (t:T) (h:Hp) (ps:List PD)
  (D:Nat→Prop) (μ:Mp) (a:Act) (w:World):Prop where
 sub: ∀i,D i→s.testBit i=true
 down: ∀i,D i→∀l,(A i).testBit l=true→D l
 sdown: ∀i,s.testBit i=true→∀l,(A i).testBit l=true→s.testBit l=true
 late: ∀d j,Wr ops j d→¬D j→VR μ (ay (.tmp d) t0) (a.tmps.getD d Go.undef)
 done: ∀d,(∀j,Wr ops j d→D j)→VR μ (ay (.tmp d) t) (a.tmps.getD d Go.undef)
 same: ∀d,(∀j,Wr ops j d→s.testBit j=false)→ay (.tmp d) t=ay (.tmp d) t0
 recs: ∀i,s.testBit i=true→¬D i→∃o g,Rec P n ops A es h0 t0 (fr i) (v i) (bk i) (al i) t h ps μ i o g
 apart: ∀i j,s.testBit i=true→¬D i→s.testBit j=true→¬D j→al i=true→al j=true→i≠j→bk i≠bk j
 bkl: ∀i,s.testBit i=true→¬D i→al i=true→bk i < h.next
 sim:bq μ h w
 goes:bF μ0 h0 w0 μ h w
 defers:a.defers= []
 size:a.tmps.size=n
section
variable {P:Program} {n:Nat} {ops:Array Oper} {A:Nat→Nat} {es:List NO} {μ0:Mp} {h0:Hp} {w0:World} {t0:T} {s:Nat} {fr:Nat→T} {v:Nat→AV} {bk:Nat→Nat} {al:Nat→Bool} {t t':T} {h h':Hp} {ps:List PD}
 {D:Nat→Prop} {μ:Mp} {a:Act} {w:World}
def laid (x:Option aY) (h:Hp):Hp:=match x with
 | some y=>bz h y
 | none=>h
theorem iv {d:Option Nat} {u:AV} {i:Nat} (hd:d≠some i):ay (.tmp i) (cQ d u t)=ay (.tmp i) t:=by
 cases d with
 | none=>rfl
 | some d=>
   show ay (.tmp i) (cO (pathOf d) u t)=_
   rw [cv,cv,bD _ _ _ _ (fun e=>hd (congrArg some (bw e.symm)))]
theorem j7 {i:Nat} {u:AV}:ay (.tmp i) (cQ (some i) u t)=u:=by
 show ay (.tmp i) (cO (pathOf i) u t)=_
 rw [cv,cE];rfl
theorem bH {s i j:Nat}:(s ||| 2 ^ i).testBit j=true ↔ s.testBit j=true∨j=i:=by
 rw [Nat.testBit_or,Nat.testBit_two_pow,Bool.or_eq_true,decide_eq_true_eq]
 exact ⟨fun h=>h.imp id Eq.symm,fun h=>h.imp id Eq.symm⟩
theorem mT {a s:Nat} (h:a &&& s=a) {l:Nat} (hl:a.testBit l=true):s.testBit l=true:=by
 rw [←h,Nat.testBit_and,Bool.and_eq_true] at hl
 exact hl.2
theorem bq.ghost (hs:bq μ h w) (x:aY):bq μ (bz h x) w:=by
 have hnone: ∀b,μ.at_ b≠Option.none→b≠h.next:=fun b hb e=>hb (by rw [e];exact hs.lt _ (Nat.le_refl _))
 refine ⟨fun b hb=>hs.lt b (Nat.le_of_succ_le hb),fun b hb=>?_,hs.dW,fun b c s y e g=>?_,fun b b' c s s' y y' hne e e' ho g g'=>?_,fun b c s cs n p e g=>?_⟩
 ·have hb:h.next+1≤b:=hb
  rw [aC _ _ (by omega)];exact hs.fresh b (by omega)
 ·rw [aC _ _ (hnone b (by rw [e];nofun))] at g;exact hs.d_ b c s y e g
 ·rw [aC _ _ (hnone b (by rw [e];nofun))] at g
  rw [aC _ _ (hnone b' (by rw [e'];nofun))] at g'
  exact hs.apart b b' c s s' y y' hne e e' ho g g'
 ·rw [aC _ _ (hnone b (by rw [e];nofun))] at g;exact hs.peer b c s cs n p e g
theorem bF.LS (g:bF μ0 h0 w0 μ h w) (x:aY):bF μ0 h0 w0 μ (bz h x) w:=
 ⟨Nat.le_succ_of_le g.next,g.at_,g.own,g.size,g.heap,g.kept,fun b hb hn=>by
  have:=g.next
  rw [aC _ _ (by omega)];exact g.ghost b hb hn,g.os,g.tape,g.output⟩
theorem LU (st:Static P n ops A) (m:Ap P n ops A es μ0 h0 w0 t0 s fr v bk al t h ps D μ a w) {call:aJ} {k hi:Nat} {q:NO} {tail:List It} (tr:nU call (.op k hi q::tail) t h ps t' h')
  (hop:ops[q.i]? =some q.p) (hqo:q.o=ed P n ops q.p) (hsub:A q.i &&& s=A q.i) (hnew:s.testBit q.i=false) (hah: ∀e,es[hi]? =some e→(A e.i).testBit q.i=true):
  ∃fr' v' bk' al' t1 h1 ps1,nU call tail t1 h1 ps1 t' h'∧Ap P n ops A es μ0 h0 w0 t0 (s ||| 2 ^ q.i) fr' v' bk' al' t1 h1 ps1 D μ a w:=by
 have hD: ¬D q.i:=fun hd=>by rw [m.sub _ hd] at hnew;cases hnew
 have proper:q.o≠⟨none,no,none⟩→∃g,q.o=⟨q.p.dst,bR P q.p.op,g⟩∧db ops q.p.guard=some g∧∀i,q.p.dst=some i→i < n:=fun hne=>by
  rcases kB (P:=P) (n:=n) (ops:=ops) (o:=q.p) with ⟨g,h1,h2,h3⟩ | h1
  ·exact ⟨g,hqo.trans h1,h2,h3⟩
  ·exact absurd (hqo.trans h1) hne
 have go: ∀(g:Option (Nat×Bool)) (u:AV) (x:Option aY) (ps1:List PD),q.o=⟨q.p.dst,bR P q.p.op,g⟩→db ops q.p.guard=some g→(∀i,q.p.dst=some i→i < n)→(∀p ∈ ps,p ∈ ps1)→
   ((wanted g t=false∧u=undef∧x=none)∨(wanted g t=true∧((∃f hi,bR P q.p.op= .q f∧(⟨f,t,u,hi⟩:PD)∈ ps1∧(∀e,es[hi]? =some e→(A e.i).testBit q.i=true)∧x=none)∨
     ∃f mk y,bR P q.p.op= .l f∧lL f t= .ok mk y∧u=ku mk h.next∧x=some y)))→
   Ap P n ops A es μ0 h0 w0 t0 (s ||| 2 ^ q.i) (fun j=>if j=q.i then t else fr j) (fun j=>if j=q.i then u else v j) (fun j=>if j=q.i then h.next else bk j) (fun j=>if j=q.i then x.isSome else al j)
    (cQ q.p.dst u t) (laid x h) ps1 D μ a w:=fun g u x ps1 hq hg hlt hps hkind=>by
  have hnext:h.next≤(laid x h).next:=by cases x with | none=>exact Nat.le_refl _ | some y=>exact Nat.le_succ _
  have hold: ∀b,b < h.next→au (laid x h) b=au h b:=fun b hb=>by
   cases x with
   | none=>rfl
   | some y=>exact aC _ _ (by omega)
  have hwr: ∀d,q.p.dst=some d→Wr ops q.i d:=fun d hd=>⟨q.p,hop,hd⟩
  have hput: ∀d j,Wr ops j d→j≠q.i→ay (.tmp d) (cQ q.p.dst u t)=ay (.tmp d) t:=fun d j hw hne=>iv fun hd=>hne (st.uniq _ _ _ hw (hwr d hd))
  refine ⟨fun i hi=>bH.2 (.inl (m.sub i hi)),m.down,fun i hi l hl=>?_,m.late,fun d hd=>?_,fun d hd=>?_,fun i hi hDi=>?_,fun i j hi hDi hj hDj ai aj hne=>?_,fun i hi hDi ai=>?_,?_,?_,m.defers,m.size⟩
  ·rcases bH.1 hi with hi | rfl
   ·exact bH.2 (.inl (m.sdown i hi l hl))
   ·exact bH.2 (.inl (mT hsub hl))
  ·rw [iv (fun hh=>hD (hd _ (hwr d hh)))]
   exact m.done d hd
  ·rw [iv (fun hh=>by
    have:=hd _ (hwr d hh)
    rw [bH.2 (.inr rfl)] at this;cases this)]
   refine m.same d fun j hj=>?_
   have:=hd j hj
   cases hb:s.testBit j with
   | false=>rfl
   | true=>rw [bH.2 (.inl hb)] at this;cases this
  ·by_cases hiq:i=q.i
   ·subst hiq
    refine ⟨q.p,g,?_⟩
    simp only [if_pos]
    refine ⟨hop,hg,hlt,fun d hd=>by rw [hd];exact j7,fun d j hw hb=>?_,fun d j hrd hw hb=>?_,fun d hnw=>?_,?_⟩
    ·have hne:j≠q.i:=fun e=>by
      subst e
      have:=mT hsub hb
      rw [hnew] at this;cases this
     exact (hput d j hw hne).symm
    ·obtain ⟨hne,hor⟩:=st.order _ _ _ _ hop hrd hw
     have hji:(A j).testBit q.i=true:=hor.resolve_left (by rw [hb];nofun)
     refine m.same d fun j' hj'=>?_
     obtain rfl:=st.uniq _ _ _ hj' hw
     cases hsj:s.testBit j' with
     | false=>rfl
     | true=>have:=m.sdown _ hsj _ hji;rw [hnew] at this;cases this
    ·exact m.same d fun j hj=>absurd hj (hnw j)
    ·rcases hkind with ⟨k1,k2,_⟩ | ⟨k1,⟨f,hi,k2,k3,k4,_⟩ | ⟨f,mk,y,k2,k3,k4,k5⟩⟩
     ·exact .inl ⟨k1,k2⟩
     ·exact .inr ⟨k1, .inl ⟨f,hi,k2,k3,k4⟩⟩
     ·subst k5
      exact .inr ⟨k1, .inr ⟨f,mk,y,k2,k3,k4,m.sim.lt _ (Nat.le_refl _),(fun z hz=>by rw [show au (laid (some y) h) h.next=some y from dE _ _] at hz;exact (Option.some.inj hz).symm),Nat.lt_succ_self _,m.goes.next,rfl⟩⟩
   ·simp only [if_neg hiq]
    have hi:=(bH.1 hi).resolve_right hiq
    obtain ⟨o,g',r⟩:=m.recs i hi hDi
    refine ⟨o,g',r.op,r.grd,r.lt,fun d hd=>?_,fun d j hw hb=>?_,r.fr2,r.fr3,?_⟩
    ·rw [hput d i ⟨o,r.op,hd⟩ hiq];exact r.dst d hd
    ·have hne:j≠q.i:=fun e=>by
      subst e
      have:=m.sdown i hi _ hb
      rw [hnew] at this;cases this
     rw [hput d j hw hne];exact r.fr1 d j hw hb
    ·rcases r.kind with k | ⟨k1,⟨f,hi,k2,k3,k4⟩ | ⟨f,mk,y,k2,k3,k4,k5,k6,k7,k8,k9⟩⟩
     ·exact .inl k
     ·exact .inr ⟨k1, .inl ⟨f,hi,k2,hps _ k3,k4⟩⟩
     ·exact .inr ⟨k1, .inr ⟨f,mk,y,k2,k3,k4,k5,fun z hz=>k6 z (by rw [←hold _ k7];exact hz),Nat.lt_of_lt_of_le k7 hnext,k8,k9⟩⟩
  ·by_cases hiq:i=q.i
   ·subst hiq
    have hjq:j≠q.i:=fun e=>hne e.symm
    simp only [if_pos,if_neg hjq] at aj ⊢
    have:=m.bkl j ((bH.1 hj).resolve_right hjq) hDj aj
    omega
   ·by_cases hjq:j=q.i
    ·subst hjq
     simp only [if_pos,if_neg hiq] at ai ⊢
     have:=m.bkl i ((bH.1 hi).resolve_right hiq) hDi ai
     omega
    ·simp only [if_neg hiq,if_neg hjq] at ai aj ⊢
     exact m.apart i j ((bH.1 hi).resolve_right hiq) hDi ((bH.1 hj).resolve_right hjq) hDj ai aj hne
  ·by_cases hiq:i=q.i
   ·subst hiq
    simp only [if_pos] at ai ⊢
    cases x with
    | none=>cases ai
    | some y=>exact Nat.lt_succ_self _
   ·simp only [if_neg hiq] at ai ⊢
    exact Nat.lt_of_lt_of_le (m.bkl i ((bH.1 hi).resolve_right hiq) hDi ai) hnext
  ·cases x with
   | none=>exact m.sim
   | some y=>exact m.sim.ghost y
  ·cases x with
   | none=>exact m.goes
   | some y=>exact m.goes.LS y
 cases tr with
 | skip hw tr=>
   obtain ⟨g,hq,hg,hlt⟩:=proper (fun e=>by rw [e] at hw;cases hw)
   rw [hq] at hw tr
   exact ⟨_,_,_,_,_,_,_,tr,go g undef none ps hq hg hlt (fun _ h=>h) (.inl ⟨hw,rfl,rfl⟩)⟩
 | quiet hw hf hv tr=>
   rename_i f u
   obtain ⟨g,hq,hg,hlt⟩:=proper (fun e=>by rw [e] at hf;cases hf;cases hv)
   rw [hq] at hw hf tr
   exact ⟨_,_,_,_,_,_,_,tr,go g u none _ hq hg hlt (fun _ h=>List.mem_cons_of_mem _ h) (.inr ⟨hw, .inl ⟨f,hi,hf,List.mem_cons_self,hah,rfl⟩⟩)⟩
 | alloc hw hf hv tr=>
   rename_i f mk y
   obtain ⟨g,hq,hg,hlt⟩:=proper (fun e=>by rw [e] at hf;cases hf)
   rw [hq] at hw hf tr
   exact ⟨_,_,_,_,_,_,_,tr,go g _ (some y) ps hq hg hlt (fun _ h=>h) (.inr ⟨hw, .inr ⟨f,mk,y,hf,hv,rfl,rfl⟩⟩)⟩
end
end Eng
end
section
set_option linter.unusedVariables false
set_option linter.unusedSimpArgs false
namespace Eng
open Go Go.RowKit
def fD (l m:List AV):Bool:=dB (.agg l) (.agg m)
theorem aR {b c:Bool}:bc b c false=true ↔ b=true∧c=true:=by cases b <;> simp [bc]
theorem Bj {b c:Bool}:bc b c (aP c)=true ↔ b=c:=by cases b <;> cases c <;> simp [bc,aP]
mutual
theorem l_: ∀(v u:AV),dB v u=true→v=u
 | .bool b,u,e=>by
   have e:u.asBool false (fun c=>bc b c (aP c))=true:=e
   obtain ⟨c,rfl,e⟩:=dF e nofun
   rw [Bj.1 e]
 | .int k n,u,e=>by
   have e:u.asInt false (fun k' m=>bc (br k k') (je n m) false)=true:=e
   obtain ⟨k',m,rfl,e1⟩:=aN e nofun
   obtain ⟨rfl,e2⟩:=et e1 nofun
   rw [dj] at e2
   rw [eq_of_beq e2]
 | .str s,u,e=>by
   have e:u.cy false (fun r=>eE s r)=true:=e
   obtain ⟨r,rfl,e1⟩:=b4 e nofun
   rw [dU] at e1
   rw [of_decide_eq_true e1]
 | .nilPtr,u,e=>by
   have e:(An u).cs false true (fun _ _=>false)=true:=e
   cases u <;> first | rfl | (cases e;done)
 | .ptr b o,u,e=>by
   have e:(An u).cs false false (fun b' o'=>bc (Nat.beq b b') (Nat.beq o o') false)=true:=e
   cases u <;> first | (cases e;done) | skip
   obtain ⟨h1,h2⟩:=aR.1 e
   rw [Nat.eq_of_beq_eq_true h1,Nat.eq_of_beq_eq_true h2]
 | .nilSlice,u,e=>by
   have e:(Ao u).cs false true (fun _ _ _ _ _ _=>false)=true:=e
   cases u <;> first | rfl | (cases e;done)
 | .slice b o l c s x,u,e=>by
   have e:(Ao u).cs false false (fun b' o' l' c' s' e'=>bc (Nat.beq b b') (bc (Nat.beq o o') (bc (Nat.beq l l') (bc (Nat.beq c c') (bc (Nat.beq s s') (bc x e' (aP e')) false) false) false) false) false)=true:=e
   cases u <;> first | (cases e;done) | skip
   obtain ⟨h1,e⟩:=aR.1 e
   obtain ⟨h2,e⟩:=aR.1 e
   obtain ⟨h3,e⟩:=aR.1 e
   obtain ⟨h4,e⟩:=aR.1 e
   obtain ⟨h5,e⟩:=aR.1 e
   rw [Nat.eq_of_beq_eq_true h1,Nat.eq_of_beq_eq_true h2,Nat.eq_of_beq_eq_true h3,Nat.eq_of_beq_eq_true h4,Nat.eq_of_beq_eq_true h5,Bj.1 e]
 | .nilMap,u,e=>by
   have e:(FV u).cs false true (fun _=>false)=true:=e
   cases u <;> first | rfl | (cases e;done)
 | .map b,u,e=>by
   have e:(FV u).cs false false (fun b'=>Nat.beq b b')=true:=e
   cases u <;> first | (cases e;done) | skip
   rw [Nat.eq_of_beq_eq_true e]
 | .func fn a b,u,e=>by
   have e1:(jB fn a b).cs false false (fun f _ _=>(nA u).cs false false (fun f' a' b'=>bc (Nat.beq f f') (bc (fD a a') (fD b b') false) false) false) false=true:=e
   clear e
   cases fn <;> first | (cases e1;done) | skip
   rename_i f
   have e2:(nA u).cs false false (fun f' a' b'=>bc (Nat.beq f f') (bc (fD a a') (fD b b') false) false) false=true:=e1
   clear e1
   cases u <;> first | (cases e2;done) | skip
   rename_i fn' a' b'
   cases fn' <;> first | (cases e2;done) | skip
   rename_i f'
   obtain ⟨h1,e3⟩:=aR.1 (show bc (Nat.beq f f') (bc (fD a a') (fD b b') false) false=true from e2)
   obtain ⟨h2,h3⟩:=aR.1 e3
   rw [Nat.eq_of_beq_eq_true h1,iZ a a' h2,iZ b b' h3]
 | .nilFunc,u,e=>by
   have e1:(nA u).cs false true (fun _ _ _=>false) false=true:=e
   clear e
   cases u <;> first | rfl | (cases e1;done) | skip
   rename_i fn _ _
   cases fn <;> (cases e1;done)
 | .iface t x,u,e=>by
   have e1:(o4 u).cs false false (fun t' y=>bc (Nat.beq t t') (dB x y) false)=true:=e
   clear e
   cases u <;> first | (cases e1;done) | skip
   rename_i t' y
   obtain ⟨h1,h2⟩:=aR.1 (show bc (Nat.beq t t') (dB x y) false=true from e1)
   rw [Nat.eq_of_beq_eq_true h1,l_ x y h2]
 | .nilIface,u,e=>by
   have e:(o4 u).cs false true (fun _ _=>false)=true:=e
   cases u <;> first | rfl | (cases e;done)
 | .agg l,u,e=>by
   have e:u.asAgg false (fD l)=true:=e
   obtain ⟨m,rfl,e1⟩:=eK e nofun
   rw [iZ l m e1]
 | .tuple l,u,e=>by
   have e:u.asTuple false (fD l)=true:=e
   obtain ⟨m,rfl,e1⟩:=k_ e nofun
   rw [iZ l m e1]
theorem iZ: ∀(l m:List AV),fD l m=true→l=m
 | [],[],_=>rfl
 | [],_::_,e=>by cases e
 | _::_,[],e=>by cases e
 | a::l,b::m,e=>by
   obtain ⟨h1,h2⟩:=aR.1 (show bc (dB a b) (fD l m) false=true from e)
   rw [l_ a b h1,iZ l m h2]
end
section
variable {P:Program} {n:Nat} {ops:Array Oper} {A:Nat→Nat} {es:List NO} {μ0:Mp} {h0:Hp} {w0:World} {t0:T} {s:Nat} {fr:Nat→T} {v:Nat→AV} {bk:Nat→Nat} {al:Nat→Bool} {t t' t1:T} {h h' h1:Hp} {ps:List PD}
 {D:Nat→Prop} {μ:Mp} {a:Act} {w:World}
theorem Bk {f:lK} {u:AV} (e:again f t u h=true):aq f t h= .ok u:=by
 unfold again at e
 cases hq:aq f t h with
 | no=>rw [hq] at e;cases e
 | ok x=>
   rw [hq] at e
   rw [l_ u x e]
theorem j8 {d:Option Nat} {y:Value} {i:Nat} (hd:d≠some i):(a.put d y).tmps.getD i Go.undef=a.tmps.getD i Go.undef:=by
 cases d with
 | none=>rfl
 | some d=>simp [Act.put,Array.getElem?_setIfInBounds_ne (fun e=>hd (congrArg some e))]
theorem jv {y:Value} {i:Nat} (hi:i < a.tmps.size):(a.put (some i) y).tmps.getD i Go.undef=y:=by
 simp [Act.put,hi]
theorem Gu {call:aJ} (aQ:Good P call) {o:Oper} {q:qV} {u:AV} {h2:Hp} (hs:bq μ h w) (hx:fC μ t a.eval o.op.operands.toList) (hc:bR P o.op= .e q) (hv:pQ q call t h= .ok u h2)
  {next:Act→World→Prop} {Q:Exit→Act→World→Prop} (hn: ∀μ' w' y,VR μ' u y→bq μ' h2 w'→bF μ h w μ' h2 w'→next (a.put o.dst y) w'):o.wp P a w next Q:=by
 unfold Oper.wp
 by_cases hcall: ∃f xs,q= .call f xs
 ·obtain ⟨f,xs,rfl⟩:=hcall
  obtain ⟨c,g0,ho,hcal,hf,hxs⟩:=qg hc
  obtain ⟨fid,asq,bs,hfv,e2⟩:=mz (show ((ay f t).iU RV.no fun g a b=>call g (app a (app (eh xs t) b)) h)= .ok u h2 from hv) nofun
  have rf:=hx g0 (by rw [ho];simp [Op.operands,Call.operands,hcal]) f hf
  rw [hfv,VR_func] at rf
  obtain ⟨as',bs',hg0,ra,rb⟩:=rf
  have rxs:=eN hxs hx (fun x hm=>by rw [ho];simp [Op.operands,Call.operands,hcal];right;simpa using hm)
  rw [cg,cg] at e2
  have rall:bb μ (asq++(eh xs t++bs)) ((as'++c.args.map a.eval)++bs').toList:=by
   rw [Array.toList_append,Array.toList_append,List.append_assoc]
   exact ra.append (rxs.append rb)
  obtain ⟨hent,hcalls⟩:=aQ fid _ h u h2 μ w _ e2 hs rall
  have hrun:(execOp a.eval o).run P w= .ok (.enter fid ((as'++c.args.map a.eval)++bs')) w:=by
   unfold execOp
   rw [ho]
   simp only [resolve,hcal,hg0,Deferred.ofValue,Sem.run_bind,Sem.run_pure,Result.andThen_ok,invoke]
   exact jZ hent _
  rw [hrun,Oper.upon_enter]
  refine hcalls.mono fun e w' hR=>?_
  obtain ⟨μ',y,rfl,ry,hs',g'⟩:=hR
  exact hn _ _ _ ry hs' g'
 ·obtain ⟨μ',w',nx,hrun,g',hs',hval⟩:=nT hs hc (fun f xs hh=>hcall ⟨f,xs,hh⟩) hx hv
  rw [hrun]
  rcases hval with ⟨y,rfl,ry⟩ | ⟨rfl,rfl⟩
  ·exact hn _ _ _ ry hs' g'
  ·exact hn _ _ _ fU hs' g'
theorem Gv (st:Static P n ops A) (m:Ap P n ops A es μ0 h0 w0 t0 s fr v bk al t h ps D μ a w) {k:Nat} (hread:aW ps k h=true) (hkl:k≤es.length) (hdone: ∀j e,es[j]? =some e→j < k→D e.i)
  {i:Nat} (hsi:s.testBit i=true) (hDi: ¬D i) (hready: ∀l,(A i).testBit l=true→D l) {K:Act→World→Prop} {Q:Exit→Act→World→Prop}
  (hK: ∀a' w' μ',Ap P n ops A es μ0 h0 w0 t0 s fr v bk al t h ps (fun j=>D j∨j=i) μ' a' w'→K a' w'):wpOp P ops Q i K a w:=by
 obtain ⟨o,g,r⟩:=m.recs i hsi hDi
 have hwi: ∀d,Wr ops i d→o.dst=some d:=fun d ⟨o',h1,h2⟩=>by rw [r.op] at h1;cases h1;exact h2
 have fin: ∀(μ':Mp) (w':World) (y:Value),μ.Le μ'→bq μ' h w'→bF μ0 h0 w0 μ' h w'→(∀j,s.testBit j=true→¬D j→j≠i→al j=true→μ.at_ (bk j)=Option.none→μ'.at_ (bk j)=Option.none)→VR μ' (v i) y→K (a.put o.dst y) w':=fun μ' w' y hle hs' g' hpend ry=>by
  refine hK _ _ μ' ⟨fun j hj=>hj.elim (m.sub j) (fun e=>e ▸ hsi),fun j hj l hl=> .inl (hj.elim (fun hj=>m.down j hj l hl) (fun e=>hready l (e ▸ hl))),m.sdown,fun d j hw hnd=>?_,fun d hd=>?_,m.same,fun j hj hnd=>?_,
   fun j j' hj hnd hj' hnd'=>m.apart j j' hj (fun h=>hnd (.inl h)) hj' (fun h=>hnd' (.inl h)),fun j hj hnd=>m.bkl j hj (fun h=>hnd (.inl h)),hs',g',by rw [put_defers];exact m.defers,by rw [fq];exact m.size⟩
  ·have hne:j≠i:=fun e=>hnd (.inr e)
   rw [j8 (fun hh=>hne (st.uniq _ _ _ hw ⟨o,r.op,hh⟩))]
   exact (m.late d j hw fun h=>hnd (.inl h)).mono hle _ _
  ·by_cases hod:o.dst=some d
   ·rw [r.dst d hod,hod,jv (by rw [m.size];exact r.lt d hod)]
    exact ry
   ·rw [j8 hod]
    exact (m.done d fun j hj=>(hd j hj).resolve_right fun e=>hod (hwi d (e ▸ hj))).mono hle _ _
  ·have hne:j≠i:=fun e=>hnd (.inr e)
   obtain ⟨o',g'',r'⟩:=m.recs j hj fun h=>hnd (.inl h)
   refine ⟨o',g'',r'.op,r'.grd,r'.lt,r'.dst,r'.fr1,r'.fr2,r'.fr3,?_⟩
   rcases r'.kind with k | ⟨k1,k2 | ⟨f,mk,y,k2,k3,k4,k5,k6,k7,k8,k9⟩⟩
   ·exact .inl k
   ·exact .inr ⟨k1, .inl k2⟩
   ·exact .inr ⟨k1, .inr ⟨f,mk,y,k2,k3,k4,hpend j hj (fun h=>hnd (.inl h)) hne k9 k5,k6,k7,k8,k9⟩⟩
 have hwant:wanted g (fr i)=Region.wanted o (yielded ops a.tmps):=kA (μ:=μ) r.grd fun j want d hgd hjd=>by
  have hw:Wr ops j d:=by
   cases hj:ops[j]? with
   | none=>rw [hj] at hjd;cases hjd
   | some oj=>rw [hj] at hjd;exact ⟨oj,hj,hjd⟩
  have hb:=st.guard i o j want r.op hgd
  rw [r.fr1 d j hw hb]
  exact m.done d fun j' hj'=>by rw [st.uniq _ _ _ hj' hw];exact hready j hb
 have hx:fC μ (fr i) a.eval o.op.operands.toList:=mM fun d hrd=>by
  by_cases hex: ∃j,Wr ops j d
  ·obtain ⟨j,hw⟩:=hex
   cases hb:(A i).testBit j with
   | true=>
     rw [r.fr1 d j hw hb]
     exact m.done d fun j' hj'=>by rw [st.uniq _ _ _ hj' hw];exact hready j hb
   | false=>
     rw [r.fr2 d j hrd hw hb]
     obtain ⟨_,hor⟩:=st.order i j d o r.op hrd hw
     exact m.late d j hw fun hDj=>hDi (m.down j hDj i (hor.resolve_left (by rw [hb];nofun)))
  ·have hnw: ∀j,¬Wr ops j d:=fun j hj=>hex ⟨j,hj⟩
   rw [r.fr3 d hnw,←m.same d fun j hj=>absurd hj (hnw j)]
   exact m.done d fun j hj=>absurd hj (hnw j)
 unfold wpOp
 rw [r.op]
 simp only []
 rw [←hwant]
 rcases r.kind with ⟨k1,k2⟩ | ⟨k1,⟨f,hi,k2,k3,k4⟩ | ⟨f,mk,x,k2,k3,k4,k5,k6,k7,k8,k9⟩⟩
 ·rw [k1,if_neg (by nofun)]
  exact fin μ w _ (.refl μ) m.sim m.goes (fun _ _ _ _ _ h=>h) (by rw [k2];exact fU)
 ·rw [k1,if_pos rfl]
  have hhi: ¬hi < k:=fun hlt=>by
   have hle:hi < es.length:=by omega
   exact hDi (m.down _ (hdone hi es[hi] (List.getElem?_eq_getElem hle) hlt) i (k4 _ (List.getElem?_eq_getElem hle)))
  have hag:=(aT.1 hread) _ k3
  have hag:bc (Nat.blt hi k) true (again f (fr i) (v i) h)=true:=hag
  rw [dC,if_neg hhi] at hag
  obtain ⟨y,hy,ry⟩:=p9 m.sim k2 hx (Bk hag)
  refine .inl ?_
  unfold Oper.wp
  rw [hy]
  exact fin μ w y (.refl μ) m.sim m.goes (fun _ _ _ _ _ h=>h) ry
 ·rw [k1,if_pos rfl]
  obtain ⟨y,w',ob,kk,hrun,hp,hmk⟩:=qd (w:=w) k2 hx k3
  have hle:=mI (n:=kk) m.sim k5
  obtain ⟨ry,hblk⟩:=hmk (μ.ext (bk i) w.heap.size 0 kk) (bk i) hle (if_pos rfl) (if_pos rfl) (if_pos rfl)
  refine .inl ?_
  unfold Oper.wp
  rw [hrun]
  refine fin (μ.ext (bk i) w.heap.size 0 kk) w' y hle (m.sim.AZ k5 hp k6 (fun _ _=>rfl) k7 (Nat.le_refl _) (qh k3) hblk) ?_ (fun j hj hnd hne aj hn=>?_) (by rw [k4];exact ry)
  ·have G:=m.goes
   refine ⟨G.next,fun b hb=>?_,fun c hc=>?_,fun c hc=>?_,by rw [hp.size];have:=G.heap;omega,fun c hc ho=>?_,G.ghost,hp.os.trans G.os,hp.tape.trans G.tape,hp.output.trans G.output⟩
   ·show (if b=bk i then _ else _)=_
    rw [if_neg (by omega)];exact G.at_ b hb
   ·have:=G.heap
    show (if c=w.heap.size then _ else _)=_
    rw [if_neg (by omega)];exact G.own c hc
   ·have:=G.heap
    show (if c=w.heap.size then _ else _)=_
    rw [if_neg (by omega)];exact G.size c hc
   ·have:=G.heap
    rw [hp.dW (by omega)];exact G.kept c hc ho
  ·show (if bk j=bk i then _ else _)=_
   rw [if_neg (m.apart j i hj hnd hsi hDi aj k9 hne)];exact hn
theorem LV (st:Static P n ops A) (m:Ap P n ops A es μ0 h0 w0 t0 s fr v bk al t h ps D μ a w) {call:aJ} (aQ:Good P call) {e:NO} (hop:ops[e.i]? =some e.p) (hqo:e.o=ed P n ops e.p) (hise:qX e.o.op=true)
  (hsub:A e.i &&& s=A e.i) (hnew:s.testBit e.i=false) (hready: ∀l,(A e.i).testBit l=true→D l) (ev:ui call e.o t h= .ok t1 h1) {K:Act→World→Prop} {Q:Exit→Act→World→Prop}
  (hK: ∀a' w' μ',Ap P n ops A es μ0 h0 w0 t0 (s ||| 2 ^ e.i) fr v bk al t1 h1 ps (fun j=>D j∨j=e.i) μ' a' w'→K a' w'):wpOp P ops Q e.i K a w:=by
 have hDe: ¬D e.i:=fun hd=>by rw [m.sub _ hd] at hnew;cases hnew
 obtain ⟨g,hq,hg,hlt⟩: ∃g,e.o=⟨e.p.dst,bR P e.p.op,g⟩∧db ops e.p.guard=some g∧∀i,e.p.dst=some i→i < n:=by
  rcases kB (P:=P) (n:=n) (ops:=ops) (o:=e.p) with ⟨g,k1,k2,k3⟩ | k1
  ·exact ⟨g,hqo.trans k1,k2,k3⟩
  ·rw [hqo,k1] at hise;cases hise
 have hwr: ∀d,e.p.dst=some d→Wr ops e.i d:=fun d hd=>⟨e.p,hop,hd⟩
 have hwi: ∀d,Wr ops e.i d→e.p.dst=some d:=fun d ⟨o',k1,k2⟩=>by rw [hop] at k1;cases k1;exact k2
 have fin: ∀(u:AV) (h2:Hp) (μ':Mp) (w':World) (y:Value),t1=cQ e.p.dst u t→h1=h2→bq μ' h2 w'→bF μ h w μ' h2 w'→VR μ' u y→K (a.put e.p.dst y) w':=fun u h2 μ' w' y ht hh hs' g' ry=>by
  subst ht;subst hh
  have hle:=g'.le m.sim
  refine hK _ _ μ' ⟨fun j hj=>bH.2 (hj.imp (m.sub j) id),fun j hj l hl=> .inl (hj.elim (fun hj=>m.down j hj l hl) (fun e=>hready l (e ▸ hl))),fun j hj l hl=>?_,fun d j hw hnd=>?_,fun d hd=>?_,fun d hd=>?_,fun j hj hnd=>?_,
   fun j j' hj hnd hj' hnd'=>m.apart j j' ((bH.1 hj).resolve_right fun e=>hnd (.inr e)) (fun h=>hnd (.inl h)) ((bH.1 hj').resolve_right fun e=>hnd' (.inr e)) (fun h=>hnd' (.inl h)),
   fun j hj hnd aj=>Nat.lt_of_lt_of_le (m.bkl j ((bH.1 hj).resolve_right fun e=>hnd (.inr e)) (fun h=>hnd (.inl h)) aj) g'.next,hs',m.goes.trans g',by rw [put_defers];exact m.defers,by rw [fq];exact m.size⟩
  ·rcases bH.1 hj with hj | rfl
   ·exact bH.2 (.inl (m.sdown j hj l hl))
   ·exact bH.2 (.inl (mT hsub hl))
  ·have hne:j≠e.i:=fun e=>hnd (.inr e)
   rw [j8 (fun hh=>hne (st.uniq _ _ _ hw (hwr d hh)))]
   exact (m.late d j hw fun h=>hnd (.inl h)).mono hle _ _
  ·by_cases hod:e.p.dst=some d
   ·rw [hod,j7,jv (by rw [m.size];exact hlt d hod)]
    exact ry
   ·rw [iv hod,j8 hod]
    exact (m.done d fun j hj=>(hd j hj).resolve_right fun e'=>hod (hwi d (e' ▸ hj))).mono hle _ _
  ·rw [iv (fun hh=>by
    have:=hd _ (hwr d hh)
    rw [bH.2 (.inr rfl)] at this;cases this)]
   refine m.same d fun j hj=>?_
   have:=hd j hj
   cases hb:s.testBit j with
   | false=>rfl
   | true=>rw [bH.2 (.inl hb)] at this;cases this
  ·have hne:j≠e.i:=fun e=>hnd (.inr e)
   have hj:=(bH.1 hj).resolve_right hne
   obtain ⟨o',g'',r⟩:=m.recs j hj fun h=>hnd (.inl h)
   refine ⟨o',g'',r.op,r.grd,r.lt,fun d hd=>?_,fun d j' hw hb=>?_,r.fr2,r.fr3,?_⟩
   ·rw [iv (fun hh=>hne (st.uniq _ _ _ ⟨o',r.op,hd⟩ (hwr d hh)))];exact r.dst d hd
   ·rw [iv (fun hh=>by
     obtain rfl:=st.uniq _ _ _ hw (hwr d hh)
     have:=m.sdown j hj _ hb
     rw [hnew] at this;cases this)]
    exact r.fr1 d j' hw hb
   ·rcases r.kind with k | ⟨k1,k2 | ⟨f,mk,y,k2,k3,k4,k5,k6,k7,k8,k9⟩⟩
    ·exact .inl k
    ·exact .inr ⟨k1, .inl k2⟩
    ·exact .inr ⟨k1, .inr ⟨f,mk,y,k2,k3,k4,by rw [g'.at_ _ k7];exact k5,(fun z hz=>(g'.ghost _ k7 k5).elim (fun e=>k6 z (e ▸ hz)) fun e=>nomatch (e.symm.trans hz)),Nat.lt_of_lt_of_le k7 g'.next,k8,k9⟩⟩
 have hwant:wanted g t=Region.wanted e.p (yielded ops a.tmps):=kA (μ:=μ) hg fun j want d hgd hjd=>by
  have hw:Wr ops j d:=by
   cases hj:ops[j]? with
   | none=>rw [hj] at hjd;cases hjd
   | some oj=>rw [hj] at hjd;exact ⟨oj,hj,hjd⟩
  have hb:=st.guard e.i e.p j want hop hgd
  exact m.done d fun j' hj'=>by rw [st.uniq _ _ _ hj' hw];exact hready j hb
 have hx:fC μ t a.eval e.p.op.operands.toList:=mM fun d hrd=>by
  by_cases hex: ∃j,Wr ops j d
  ·obtain ⟨j,hw⟩:=hex
   cases hb:(A e.i).testBit j with
   | true=>exact m.done d fun j' hj'=>by rw [st.uniq _ _ _ hj' hw];exact hready j hb
   | false=>
     obtain ⟨_,hor⟩:=st.order e.i j d e.p hop hrd hw
     have hje:(A j).testBit e.i=true:=hor.resolve_left (by rw [hb];nofun)
     rw [m.same d fun j' hj'=>by
      obtain rfl:=st.uniq _ _ _ hj' hw
      cases hsj:s.testBit j' with
      | false=>rfl
      | true=>have:=m.sdown _ hsj _ hje;rw [hnew] at this;cases this]
     exact m.late d j hw fun hDj=>hDe (m.down j hDj _ hje)
  ·exact m.done d fun j hj=>absurd ⟨j,hj⟩ hex
 rw [Bg,hq] at ev
 simp only [] at ev
 unfold wpOp
 rw [hop]
 simp only []
 rw [←hwant]
 split at ev
 ·rename_i hw
  rw [hw,if_pos rfl]
  refine .inl ?_
  rw [hq] at hise
  cases hc:bR P e.p.op with
  | q f=>rw [hc] at hise;cases hise
  | l f=>rw [hc] at hise;cases hise
  | e f=>
    rw [hc] at ev
    obtain ⟨u,h2,hu,e1⟩:=tv (show (pQ f call t h).then (fun v h=> .ok (cQ e.p.dst v t) h)= .ok t1 h1 from ev)
    cases e1
    exact Gu aQ m.sim hx hc hu fun μ' w' y ry hs' g'=>fin u _ μ' w' y rfl rfl hs' g' ry
 ·rename_i hw
  rw [if_neg hw]
  cases ev
  exact fin undef h μ w _ rfl rfl m.sim (.refl m.sim) fU
end
end Eng
end
section
set_option linter.unusedVariables false
set_option linter.unusedSimpArgs false
namespace Eng
open Go Go.RowKit
section
variable {P:Program} {n:Nat} {ops:Array Oper} {A:Nat→Nat} {es:List NO} {μ0:Mp} {h0:Hp} {w0:World} {t0:T} {s:Nat} {fr:Nat→T} {v:Nat→AV} {bk:Nat→Nat} {al:Nat→Bool} {t t' t1:T} {h h' h1:Hp} {ps:List PD}
 {D:Nat→Prop} {μ:Mp} {a:Act} {w:World}
structure kE (P:Program) (n:Nat) (ops:Array Oper) (A:Nat→Nat) (q:NO):Prop where
 op:ops[q.i]? =some q.p
 o:q.o=ed P n ops q.p
 a:q.a=A q.i
theorem kE.same {q e:NO} (hq:kE P n ops A q) (he:kE P n ops A e) (h:q.i=e.i):q.o=e.o:=by
 have h1:=hq.op
 rw [h,he.op] at h1
 rw [hq.o,he.o,Option.some.inj h1]
def mU (P:Program) (n:Nat) (ops:Array Oper) (A:Nat→Nat):It→Prop
 | .op _ _ q=>kE P n ops A q∧qX q.o.op=false
 | .gV _ e=>kE P n ops A e∧qX e.o.op=true
 | .last _=>True
theorem tB {k hi m:Nat} {q:NO} {r:List It} (e:jA es m (.op k hi q::r) s=true):q.a &&& s=q.a∧s.testBit q.i=false∧behind es q k=true∧ahead es q hi=true∧jA es m r (s ||| 2 ^ q.i)=true:=by
 simp only [jA,Bool.and_eq_true,Bool.not_eq_true'] at e
 obtain ⟨⟨⟨⟨h1,h2⟩,h3⟩,h4⟩,h5⟩:=e
 exact ⟨Nat.eq_of_beq_eq_true h1,h2,h3,h4,h5⟩
theorem mV {k m:Nat} {q:NO} {r:List It} (e:jA es m (.gV k q::r) s=true):q.a &&& s=q.a∧s.testBit q.i=false∧behind es q k=true∧(∃e',es[k]? =some e'∧e'.i=q.i)∧jA es m r (s ||| 2 ^ q.i)=true:=by
 simp only [jA,Bool.and_eq_true,Bool.not_eq_true'] at e
 obtain ⟨⟨⟨⟨h1,h2⟩,h3⟩,h4⟩,h5⟩:=e
 refine ⟨Nat.eq_of_beq_eq_true h1,h2,h3,?_,h5⟩
 split at h4
 ·rename_i e' he;exact ⟨e',he,Nat.eq_of_beq_eq_true h4⟩
 ·cases h4
theorem jF {m:Nat}: ∀{its:List It} {s:Nat},jA es m its s=true→∀i,m.testBit i=true→
  s.testBit i=true∨(∃k hi q,It.op k hi q ∈ its∧q.i=i∧behind es q k=true)∨∃k q,It.gV k q ∈ its∧q.i=i∧behind es q k=true
 | [],s,e,i,hi=>by cases e
 | .op k hi q::r,s,e,i,hm=>by
   obtain ⟨_,_,h3,_,h5⟩:=tB e
   rcases jF h5 i hm with h | ⟨k',hi',q',h6,h7⟩ | ⟨k',q',h6,h7⟩
   ·rcases bH.1 h with h | rfl
    ·exact .inl h
    ·exact .inr (.inl ⟨k,hi,q,List.mem_cons_self,rfl,h3⟩)
   ·exact .inr (.inl ⟨k',hi',q',List.mem_cons_of_mem _ h6,h7⟩)
   ·exact .inr (.inr ⟨k',q',List.mem_cons_of_mem _ h6,h7⟩)
 | .gV k q::r,s,e,i,hm=>by
   obtain ⟨_,_,h3,_,h5⟩:=mV e
   rcases jF h5 i hm with h | ⟨k',hi',q',h6,h7⟩ | ⟨k',q',h6,h7⟩
   ·rcases bH.1 h with h | rfl
    ·exact .inl h
    ·exact .inr (.inr ⟨k,q,List.mem_cons_self,rfl,h3⟩)
   ·exact .inr (.inl ⟨k',hi',q',List.mem_cons_of_mem _ h6,h7⟩)
   ·exact .inr (.inr ⟨k',q',List.mem_cons_of_mem _ h6,h7⟩)
 | .last k::r,s,e,i,hm=>by
   have:s=m:=Nat.eq_of_beq_eq_true (show Nat.beq s m=true from e)
   rw [this];exact .inl hm
theorem po: ∀(st:List (List (NO×Nat)×Option NO)) (k:Nat),(∀j hi q,It.op j hi q ∈ flat k st→k≤j)∧∀j q,It.gV j q ∈ flat k st→k≤j
 | [],k=>⟨fun _ _ _ h=>by simp [flat] at h,fun _ _ h=>by simp [flat] at h⟩
 | (qs,some e)::r,k=>by
   obtain ⟨h1,h2⟩:=po r (k+1)
   refine ⟨fun j hi q h=>?_,fun j q h=>?_⟩
   ·simp only [flat,List.mem_append,List.mem_map,List.mem_cons] at h
    rcases h with ⟨x,_,hx⟩ | hx | hx
    ·cases hx;exact Nat.le_refl _
    ·cases hx
    ·have:=h1 j hi q hx;omega
   ·simp only [flat,List.mem_append,List.mem_map,List.mem_cons] at h
    rcases h with ⟨x,_,hx⟩ | hx | hx
    ·cases hx
    ·cases hx;exact Nat.le_refl _
    ·have:=h2 j q hx;omega
 | (qs,none)::r,k=>by
   refine ⟨fun j hi q h=>?_,fun j q h=>?_⟩
   ·simp only [flat,List.mem_append,List.mem_map,List.mem_singleton] at h
    rcases h with ⟨x,_,hx⟩ | hx
    ·cases hx;exact Nat.le_refl _
    ·cases hx
   ·simp only [flat,List.mem_append,List.mem_map,List.mem_singleton] at h
    rcases h with ⟨x,_,hx⟩ | hx
    ·cases hx
    ·cases hx
theorem fW (st:Static P n ops A) (hes0: ∀e ∈ es,kE P n ops A e∧qX e.o.op=true) {call:aJ} {k m:Nat} {tail:List It}: ∀(qs:List (NO×Nat)) {s:Nat} {fr:Nat→T} {v:Nat→AV} {bk:Nat→Nat} {al:Nat→Bool} {t:T} {h:Hp} {ps:List PD},
  Ap P n ops A es μ0 h0 w0 t0 s fr v bk al t h ps D μ a w→nU call (qs.map (fun q=>It.op k q.2 q.1)++tail) t h ps t' h'→jA es m (qs.map (fun q=>It.op k q.2 q.1)++tail) s=true→
  (∀it ∈ qs.map (fun q=>It.op k q.2 q.1)++tail,mU P n ops A it)→(∀j e,es[j]? =some e→s.testBit e.i=true→j < k)→
  ∃s' fr' v' bk' al' t1 h1 ps1,Ap P n ops A es μ0 h0 w0 t0 s' fr' v' bk' al' t1 h1 ps1 D μ a w∧nU call tail t1 h1 ps1 t' h'∧jA es m tail s'=true∧(∀j e,es[j]? =some e→s'.testBit e.i=true→j < k)
 | [],s,fr,v,bk,al,t,h,ps,md,tr,ok,fine,hes=>⟨s,fr,v,bk,al,t,h,ps,md,tr,ok,hes⟩
 | q::qs,s,fr,v,bk,al,t,h,ps,md,tr,ok,fine,hes=>by
   obtain ⟨h1,h2,_,h4,h5⟩:=tB (show jA es m (It.op k q.2 q.1::(qs.map (fun q=>It.op k q.2 q.1)++tail)) s=true from ok)
   obtain ⟨hno,hne⟩:kE P n ops A q.1∧qX q.1.o.op=false:=fine (.op k q.2 q.1) (by simp)
   rw [hno.a] at h1
   obtain ⟨fr',v',bk',al',t1,h1',ps1,tr1,md1⟩:=LU st md (show nU call (It.op k q.2 q.1::(qs.map (fun q=>It.op k q.2 q.1)++tail)) t h ps t' h' from tr) hno.op hno.o h1 h2 (fun e he=>by
    have hh:(match es[q.2]? with | some e=>e.a.testBit q.1.i | none=>true)=true:=h4
    rw [he] at hh
    rw [←(hes0 e (List.mem_of_getElem? he)).1.a];exact hh)
   refine fW st hes0 qs md1 tr1 h5 (fun it hit=>fine it (List.mem_cons_of_mem _ hit)) fun j e he hb=>?_
   rcases bH.1 hb with hb | hb
   ·exact hes j e he hb
   ·obtain ⟨he1,he2⟩:=hes0 e (List.mem_of_getElem? he)
    rw [he1.same hno hb,hne] at he2;cases he2
theorem rU {q:NO} {k:Nat} (h:behind es q k=true):k=0∨∃j e,k=j+1∧es[j]? =some e∧q.a.testBit e.i=true:=by
 cases k with
 | zero=>exact .inl rfl
 | succ j=>
   right
   have h:(match es[j]? with | some e=>q.a.testBit e.i | none=>false)=true:=h
   split at h
   ·rename_i e he;exact ⟨j,e,rfl,he,h⟩
   ·cases h
theorem qj {md:Region.Mode} (st:Static P n ops A) (ends:Ends md ops) (hes0: ∀e ∈ es,kE P n ops A e∧qX e.o.op=true) (hnd: ∀(j k:Nat) (e f:NO),es[j]? =some e→es[k]? =some f→e.i=f.i→j=k) {call:aJ} (aQ:Good P call)
  {Q:Exit→Act→World→Prop} (hQ: ∀a w μ,TR μ t' a.tmps→bq μ h' w→bF μ0 h0 w0 μ h' w→a.defers= []→a.tmps.size=n→Q .normal a w):
  ∀(fuel:Nat) (listed:Array Bool) (k:Nat) (its:List It) (s:Nat) (fr:Nat→T) (v:Nat→AV) (bk:Nat→Nat) (al:Nat→Bool) (t:T) (h:Hp) (ps:List PD) (μ:Mp) (a:Act) (w:World),
   listed.size=ops.size→fuel+count listed=ops.size→Ap P n ops A es μ0 h0 w0 t0 s fr v bk al t h ps (fun i=>listed.getD i false=true) μ a w→nU call its t h ps t' h'→jA es (2 ^ ops.size - 1) its s=true→
   (∀it ∈ its,mU P n ops A it)→((∃e st',its= .gV k e::flat (k+1) st')∨∃r,its= .last k::r)→(∀j e,es[j]? =some e→(listed.getD e.i false=true ↔ j < k))→
   (∀j e,es[j]? =some e→s.testBit e.i=true→j < k)→k≤es.length→wpAny P md ops Q fuel listed a w:=by
 intro fuel
 have last: ∀(listed:Array Bool) (k:Nat) (its:List It) (s:Nat) (fr:Nat→T) (v:Nat→AV) (bk:Nat→Nat) (al:Nat→Bool) (t:T) (h:Hp) (ps:List PD) (μ:Mp) (a:Act) (w:World),
   listed.size=ops.size→Ap P n ops A es μ0 h0 w0 t0 s fr v bk al t h ps (fun i=>listed.getD i false=true) μ a w→nU call its t h ps t' h'→jA es (2 ^ ops.size - 1) its s=true→
   (∀it ∈ its,mU P n ops A it)→((∃e st',its= .gV k e::flat (k+1) st')∨∃r,its= .last k::r)→(∀i,listed.getD i true=true)→Q .normal a w:=by
  intro listed k its s fr v bk al t h ps μ a w hsz m tr ok fine hits hall
  have hD: ∀i,i < ops.size→listed.getD i false=true:=fun i hi=>by
   have:=hall i
   have hlt:i < listed.size:=by omega
   simp [Array.getElem?_eq_getElem hlt] at this ⊢
   exact this
  rcases hits with ⟨e,st',rfl⟩ | ⟨r,rfl⟩
  ·exfalso
   obtain ⟨_,h2,_⟩:=mV ok
   have hno:kE P n ops A e:=(fine (.gV k e) List.mem_cons_self).1
   have:=m.sub e.i (hD e.i (Array.getElem?_eq_some_iff.1 hno.op).1)
   rw [h2] at this;cases this
  ·cases tr
   refine hQ a w μ (fun d=>m.done d fun j hj=>?_) m.sim m.goes m.defers m.size
   obtain ⟨o,ho,_⟩:=hj
   exact hD j (Array.getElem?_eq_some_iff.1 ho).1
 induction fuel with
 | zero=>
   intro listed k its s fr v bk al t h ps μ a w hsz hcnt m tr ok fine hits hdone hes hk
   have hall: ∀i,listed.getD i true=true:=mR (by omega)
   refine ⟨?_,last listed k its s fr v bk al t h ps μ a w hsz m tr ok fine hits hall⟩
   rw [List.eq_nil_iff_forall_not_mem]
   intro i hi
   have:=(mem_ready.1 hi).1
   rw [hall i] at this;cases this
 | succ fuel ih=>
   intro listed k its s fr v bk al t h ps μ a w hsz hcnt m tr ok fine hits hdone hes hk
   refine ⟨fun hr=>last listed k its s fr v bk al t h ps μ a w hsz m tr ok fine hits (ends listed hsz hr),fun i hi=>?_⟩
   obtain ⟨hnl,o,ho,hall⟩:=mem_ready.1 hi
   have hlt:i < ops.size:=(Array.getElem?_eq_some_iff.1 ho).1
   have hDi: ¬listed.getD i false=true:=fun hh=>by
    have hlt':i < listed.size:=by omega
    simp [Array.getElem?_eq_getElem hlt'] at hh hnl
    rw [hh] at hnl;cases hnl
   have hready: ∀l,(A i).testBit l=true→listed.getD l false=true:=fun l hl=>by
    obtain ⟨e,he,hb,hor⟩:=st.anc i o l ho hl
    have hbm:Region.binds md e=true:=by
     cases md with
     | text=>exact iY hb
     | gc=>exact pn hb
     | any=>exact hb
    have:=hall e he hbm
    rcases hor with rfl | hor
    ·exact this
    ·exact m.down e.on this l hor
   have hD':(fun j=>listed.getD j false=true∨j=i)=fun j=>(listed.setIfInBounds i true).getD j false=true:=by
    funext j
    apply propext
    by_cases hji:j=i
    ·subst hji
     have hlt':j < listed.size:=by omega
     simp [hlt']
    ·rw [getD_set_ne false (fun e=>hji e.symm)]
     simp [hji]
   have hcnt':fuel+count (listed.setIfInBounds i true)=ops.size:=by rw [count_set hnl];omega
   have hsz':(listed.setIfInBounds i true).size=ops.size:=by simpa using hsz
   have hrd:aW ps k h=true:=by
    rcases hits with ⟨e,st',rfl⟩ | ⟨r,rfl⟩
    ·cases tr;assumption
    ·cases tr;assumption
   by_cases hsi:s.testBit i=true
   ·-- one that stands ahead
    refine Gv st m hrd hk (fun j e he hj=>(hdone j e he).2 hj) hsi hDi hready fun a' w' μ' m'=>?_
    rw [hD'] at m'
    refine ih _ k its s fr v bk al t h ps μ' a' w' hsz' hcnt' m' tr ok fine hits (fun j e he=>?_) hes hk
    rw [←hdone j e he]
    by_cases hei:e.i=i
    ·have hjk:=hes j e he (by rw [hei];exact hsi)
     have:=(hdone j e he).2 hjk
     rw [hei] at this
     exact absurd this hDi
    ·rw [getD_set_ne false (fun e=>hei e.symm)]
   ·-- it is the next effect
    have hbit:(2 ^ ops.size - 1).testBit i=true:=by rw [Nat.testBit_two_pow_sub_one];simpa using hlt
    have hnot: ∀(q:NO) (kk:Nat),kE P n ops A q→q.i=i→behind es q kk=true→kk≤k:=fun q kk hno hqi hbh=>by
     rcases rU hbh with rfl | ⟨j,e,rfl,he,hb⟩
     ·omega
     ·rw [hno.a,hqi] at hb
      exact (hdone j e he).1 (hready _ hb)
    obtain ⟨e,st',rfl,hei⟩: ∃e st',its= .gV k e::flat (k+1) st'∧e.i=i:=by
     rcases hits with ⟨e,st',rfl⟩ | ⟨r,rfl⟩
     ·refine ⟨e,st',rfl,?_⟩
      rcases jF ok i hbit with hh | ⟨kk,hi',q,hq,hqi,hbh⟩ | ⟨kk,q,hq,hqi,hbh⟩
      ·exact absurd hh hsi
      ·exfalso
       have:=hnot q kk (fine _ hq).1 hqi hbh
       rcases List.mem_cons.1 hq with hq | hq
       ·cases hq
       ·have:=(po st' (k+1)).1 _ _ _ hq
        omega
      ·have:=hnot q kk (fine _ hq).1 hqi hbh
       rcases List.mem_cons.1 hq with hq | hq
       ·cases hq;exact hqi
       ·have:=(po st' (k+1)).2 _ _ hq
        omega
     ·exfalso
      have:s=2 ^ ops.size - 1:=Nat.eq_of_beq_eq_true (show Nat.beq s (2 ^ ops.size - 1)=true from ok)
      rw [this] at hsi;exact hsi hbit
    obtain ⟨hno,hise⟩:kE P n ops A e∧qX e.o.op=true:=fine (.gV k e) List.mem_cons_self
    obtain ⟨h1,h2,h3,⟨e',he',hee⟩,h5⟩:=mV ok
    rw [hno.a] at h1
    cases tr with
    | gV _ ev tr=>
      rename_i t1 h1'
      subst hei
      refine LV st m aQ hno.op hno.o hise h1 h2 hready ev fun a' w' μ' m'=>?_
      rw [hD'] at m'
      have hkl:k+1≤es.length:=(List.getElem?_eq_some_iff.1 he').1
      have hdone': ∀j f,es[j]? =some f→((listed.setIfInBounds e.i true).getD f.i false=true ↔ j < k+1):=fun j f hf=>by
       by_cases hfe:f.i=e.i
       ·have hjk:j=k:=hnd j k f e' hf he' (hfe.trans hee.symm)
        subst hjk
        rw [hfe]
        have hlt':e.i < listed.size:=by omega
        simp [hlt']
       ·rw [getD_set_ne false (fun e=>hfe e.symm),hdone j f hf]
        constructor
        ·intro hh;omega
        ·intro hh
         rcases Nat.lt_or_ge j k with hjk | hjk
         ·exact hjk
         ·obtain rfl:j=k:=by omega
          rw [hf] at he';cases he'
          exact absurd hee hfe
      have hes': ∀j f,es[j]? =some f→(s ||| 2 ^ e.i).testBit f.i=true→j < k+1:=fun j f hf hb=>by
       rcases bH.1 hb with hb | hb
       ·have:=hes j f hf hb;omega
       ·have:=hnd j k f e' hf he' (hb.trans hee.symm)
        omega
      cases st' with
      | nil=>cases tr
      | cons sg st'=>
        obtain ⟨qs,eo⟩:=sg
        have fine': ∀it ∈ flat (k+1) ((qs,eo)::st'),mU P n ops A it:=fun it hit=>fine it (List.mem_cons_of_mem _ hit)
        cases eo with
        | none=>
          obtain ⟨s',fr',v',bk',al',t2,h2',ps2,m2,tr2,ok2,hes2⟩:=fW st hes0 (k:=k+1) (m:=2 ^ ops.size - 1) (tail:=[It.last (k+1)]) qs m' tr h5 fine' hes'
          exact ih _ (k+1) [It.last (k+1)] s' fr' v' bk' al' t2 h2' ps2 μ' a' w' hsz' hcnt' m2 tr2 ok2 (fun it hit=>fine' it (List.mem_append_right _ hit)) (.inr ⟨[],rfl⟩) hdone' hes2 hkl
        | some f=>
          obtain ⟨s',fr',v',bk',al',t2,h2',ps2,m2,tr2,ok2,hes2⟩:=fW st hes0 (k:=k+1) (m:=2 ^ ops.size - 1) (tail:=It.gV (k+1) f::flat (k+1+1) st') qs m' tr h5 fine' hes'
          exact ih _ (k+1) _ s' fr' v' bk' al' t2 h2' ps2 μ' a' w' hsz' hcnt' m2 tr2 ok2 (fun it hit=>fine' it (List.mem_append_right _ hit)) (.inl ⟨f,st',rfl⟩) hdone' hes2 hkl
theorem i_ {qs es0:List NO}: ∀(rest:List NO) (k j:Nat),(∀kk hi q,It.op kk hi q ∈ flat j (bK qs es0 rest k)→q ∈ qs)∧∀kk q,It.gV kk q ∈ flat j (bK qs es0 rest k)→q ∈ rest
 | [],k,j=>by
   refine ⟨fun kk hi q h=>?_,fun kk q h=>?_⟩
   ·simp only [bK,flat,List.mem_append,List.mem_map,List.mem_singleton] at h
    rcases h with ⟨x,⟨y,hy,rfl⟩,hx⟩ | hx
    ·cases hx;exact (List.mem_filter.1 hy).1
    ·cases hx
   ·simp only [bK,flat,List.mem_append,List.mem_map,List.mem_singleton] at h
    rcases h with ⟨x,_,hx⟩ | hx <;> cases hx
 | e::rest,k,j=>by
   obtain ⟨h1,h2⟩:=i_ (qs:=qs) (es0:=es0) rest (k+1) (j+1)
   refine ⟨fun kk hi q h=>?_,fun kk q h=>?_⟩
   ·simp only [bK,flat,List.mem_append,List.mem_map,List.mem_cons] at h
    rcases h with ⟨x,⟨y,hy,rfl⟩,hx⟩ | hx | hx
    ·cases hx;exact (List.mem_filter.1 hy).1
    ·cases hx
    ·exact h1 kk hi q hx
   ·simp only [bK,flat,List.mem_append,List.mem_map,List.mem_cons] at h
    rcases h with ⟨x,_,hx⟩ | hx | hx
    ·cases hx
    ·cases hx;exact List.mem_cons_self
    ·exact List.mem_cons_of_mem _ (h2 kk q hx)
theorem iF {n:Nat}: ∀{os:List Oper} {asq:List Nat} {k:Nat},(bP P n ops os asq k).Pairwise (fun x y=>x.i < y.i)
 | [],asq,k=>by simp [bP]
 | o::os,[],k=>by simp [bP]
 | o::os,a::asq,k=>by
   rw [show bP P n ops (o::os) (a::asq) k=⟨k,ed P n ops o,a,o⟩::bP P n ops os asq (k+1) from rfl,List.pairwise_cons]
   refine ⟨fun y hy=>?_,iF⟩
   obtain ⟨j,o',_,_,rfl⟩:=iu hy
   show k < k+1+j
   omega
theorem mW {d:Nat} {l:List Operand} (h:Operand.tmp d ∈ l):l.any (qZ d)=true:=by
 rw [List.any_eq_true]
 refine ⟨_,h,?_⟩
 show Nat.beq d d=true
 exact Nat.beq_refl d
theorem bT:gM P (ab P):=fun call N n id ops μ0 h0 w0 Q t h a w aQ hp st=>by
 unfold ab at hp
 simp only [] at hp
 generalize hA:mm ops.toList [] =asq at hp
 generalize hnos:bP P n ops ops.toList asq 0=nos at hp
 generalize hes:(nos.filter fun n=>qX n.o.op)=es at hp
 split at hp
 ·rename_i hchk
  simp only [Bool.and_eq_true] at hchk
  obtain ⟨⟨⟨hwd,hfw⟩,hends⟩,hit⟩:=hchk
  obtain ⟨hlen,_,hanc⟩:=tA ops.toList []
  rw [hA] at hlen hanc
  simp at hlen
  have hno: ∀q ∈ nos,kE P n ops (fun i=>asq.getD i 0) q:=fun q hq=>by
   rw [←hnos] at hq
   obtain ⟨j,o,h1,h2,rfl⟩:=iu hq
   rw [Nat.zero_add]
   exact ⟨by rw [←Array.getElem?_toList];exact h1,rfl,rfl⟩
  have au: ∀(i:Nat) (o:Oper),ops[i]? =some o→(⟨i,ed P n ops o,asq.getD i 0,o⟩:NO)∈ nos:=fun i o ho=>by
   rw [←hnos]
   have hlt:=(Array.getElem?_eq_some_iff.1 ho).1
   have:=j6 (P:=P) (n:=n) (ops:=ops) (os:=ops.toList) (asq:=asq) (k:=0) i o (by rw [Array.getElem?_toList];exact ho) (by omega)
   rw [Nat.zero_add] at this
   exact this
  have wd: ∀x ∈ nos,(∀y ∈ nos,x.i≠y.i→∀d,y.p.dst=some d→x.p.dst≠some d∧(Operand.tmp d ∈ x.p.op.operands.toList→x.a.testBit y.i=true∨y.a.testBit x.i=true))∧
    (∀d,x.p.dst=some d→Operand.tmp d ∉ x.p.op.operands.toList)∧∀j want,x.p.guard=some (j,want)→x.a.testBit j=true:=fun x hx=>by
   unfold nM at hwd
   have h1:=List.all_eq_true.1 hwd x hx
   simp only [Bool.and_eq_true,List.all_eq_true] at h1
   obtain ⟨⟨h2,h3⟩,h4⟩:=h1
   refine ⟨fun y hy hne d hd=>?_,fun d hd hr=>?_,fun j want hg=>?_⟩
   ·have h5:=h2 y hy
    rw [hd] at h5
    simp only [Bool.or_eq_true,Bool.and_eq_true] at h5
    rcases h5 with h5 | ⟨h5,h6⟩
    ·exact absurd (Nat.eq_of_beq_eq_true h5) hne
    ·refine ⟨fun hxd=>?_,fun hr=>?_⟩
     ·rw [hxd] at h5
      simp at h5
     ·rw [mW hr] at h6
      simpa using h6
   ·rw [hd] at h3
    simp only [] at h3
    rw [mW hr] at h3
    cases h3
   ·rw [hg] at h4;exact h4
  have stat:Static P n ops (fun i=>asq.getD i 0):=by
   refine ⟨fun i j d hi hj=>?_,fun i j d o ho hr hj=>?_,fun i o g want ho hg=>?_,fun i o l ho hl=>?_⟩
   ·obtain ⟨oi,hoi,hdi⟩:=hi
    obtain ⟨oj,hoj,hdj⟩:=hj
    by_cases hij:i=j
    ·exact hij
    ·exact absurd hdi ((wd _ (au i oi hoi)).1 _ (au j oj hoj) hij d hdj).1
   ·obtain ⟨oj,hoj,hdj⟩:=hj
    by_cases hij:i=j
    ·subst hij
     rw [ho] at hoj;cases hoj
     exact absurd hr ((wd _ (au i o ho)).2.1 d hdj)
    ·exact ⟨hij,((wd _ (au i o ho)).1 _ (au j oj hoj) hij d hdj).2 hr⟩
   ·exact (wd _ (au i o ho)).2.2 g want hg
   ·have:=hanc i o (by rw [Array.getElem?_toList];exact ho) l (by rw [List.length_nil,Nat.zero_add];exact hl)
    exact this
  have hes0: ∀e ∈ es,kE P n ops (fun i=>asq.getD i 0) e∧qX e.o.op=true:=fun e he=>by
   rw [←hes] at he
   obtain ⟨h1,h2⟩:=List.mem_filter.1 he
   exact ⟨hno e h1,h2⟩
  have hnd: ∀(j k:Nat) (e f:NO),es[j]? =some e→es[k]? =some f→e.i=f.i→j=k:=fun j k e f he hf hef=>by
   have hsort:es.Pairwise (fun x y=>x.i < y.i):=by
    rw [←hes,←hnos];exact iF.filter _
   obtain ⟨hj,hje⟩:=List.getElem?_eq_some_iff.1 he
   obtain ⟨hk,hke⟩:=List.getElem?_eq_some_iff.1 hf
   rw [List.pairwise_iff_getElem] at hsort
   rcases Nat.lt_trichotomy j k with hlt | heq | hgt
   ·have:=hsort j k hj hk hlt
    rw [hje,hke] at this;omega
   ·exact heq
   ·have:=hsort k j hk hj hgt
    rw [hje,hke] at this;omega
  obtain ⟨⟨μ,r,hs,g⟩,hdef,hsize⟩:=st
  have hp:jn μ0 h0 w0 n Q ((mw call ((bK (nos.filter fun n=>!qX n.o.op) es es 0).map fun s=>⟨s.1.map fun q=>(q.1.o,q.2),s.2.map (·.o)⟩) 0 t h []).done):=hp
  cases hev:mw call ((bK (nos.filter fun n=>!qX n.o.op) es es 0).map fun s=>⟨s.1.map fun q=>(q.1.o,q.2),s.2.map (·.o)⟩) 0 t h [] with
  | no=>rw [hev] at hp;exact hp.elim
  | ok t' h'=>
    rw [hev] at hp
    have hp: ∀a w,At μ0 h0 w0 n t' h' a w→Q .normal a w:=hp
    have tr:=qi _ _ _ _ _ hev
    have fine: ∀it ∈ flat 0 (bK (nos.filter fun n=>!qX n.o.op) es es 0),mU P n ops (fun i=>asq.getD i 0) it:=fun it hin=>by
     obtain ⟨k1,k2⟩:=i_ (qs:=nos.filter fun n=>!qX n.o.op) (es0:=es) es 0 0
     cases it with
     | op kk hi q=>
       obtain ⟨h1,h2⟩:=List.mem_filter.1 (k1 kk hi q hin)
       exact ⟨hno q h1,by simpa using h2⟩
     | gV kk q=>exact hes0 q (k2 kk q hin)
     | last kk=>trivial
    refine Bi hfw hends fun md ends=>?_
    have hs2:bq μ h {w with drawn:=w.drawn+1}:=hs.drawn
    have mid0:Ap P n ops (fun i=>asq.getD i 0) es μ h {w with drawn:=w.drawn+1} t 0 (fun _=>t) (fun _=>undef) (fun _=>0) (fun _=>false) t h [] (fun i=>(Array.replicate ops.size false).getD i false=true) μ a {w with drawn:=w.drawn+1}:=by
     have hD: ∀i,¬(Array.replicate ops.size false).getD i false=true:=fun i hi=>by
      rw [Array.getD_eq_getD_getElem?,Array.getElem?_replicate] at hi
      split at hi <;> simp at hi
     have hz: ∀i,¬(0:Nat).testBit i=true:=fun i=>by simp
     exact ⟨fun i hi=>absurd hi (hD i),fun i hi=>absurd hi (hD i),fun i hi=>absurd hi (hz i),fun d j _ _=>r d,fun d _=>r d,fun _ _=>rfl,fun i hi=>absurd hi (hz i),fun i j hi=>absurd hi (hz i),fun i hi=>absurd hi (hz i),hs2, .refl hs2,hdef,hsize⟩
    have hcnt:count (Array.replicate ops.size false)=0:=by unfold count;simp
    have hQ: ∀(a:Act) (w':World) (μ':Mp),TR μ' t' a.tmps→bq μ' h' w'→bF μ h {w with drawn:=w.drawn+1} μ' h' w'→a.defers= []→a.tmps.size=n→Q .normal a w':=fun a w' μ' r' hs' g' hd hz=>by
     refine hp a w' ⟨⟨μ',r',hs',?_⟩,hd,hz⟩
     have gd:bF μ h w μ h {w with drawn:=w.drawn+1}:=⟨Nat.le_refl _,fun _ _=>rfl,fun _ _=>rfl,fun _ _=>rfl,Nat.le_refl _,fun _ _ _=>rfl,fun _ _ _=> .inl rfl,rfl,rfl,rfl⟩
     exact (g.trans gd).trans g'
    have hdone0: ∀(j:Nat) (e:NO),es[j]? =some e→((Array.replicate ops.size false).getD e.i false=true ↔ j < 0):=fun j e he=>by
     constructor
     ·intro hi
      rw [Array.getD_eq_getD_getElem?,Array.getElem?_replicate] at hi
      split at hi <;> simp at hi
     ·intro hj;omega
    have hes00: ∀(j:Nat) (e:NO),es[j]? =some e→(0:Nat).testBit e.i=true→j < 0:=fun j e he hb=>by simp at hb
    generalize hst:bK (nos.filter fun n=>!qX n.o.op) es es 0=stg at tr fine hit
    cases stg with
    | nil=>cases tr
    | cons sg st'=>
      obtain ⟨qs,eo⟩:=sg
      cases eo with
      | none=>
        obtain ⟨s',fr',v',bk',al',t2,h2',ps2,m2,tr2,ok2,hes2⟩:=fW stat hes0 (k:=0) (m:=2 ^ ops.size - 1) (tail:=[It.last 0]) qs mid0 tr hit fine hes00
        exact qj stat ends hes0 hnd aQ hQ ops.size _ 0 _ s' fr' v' bk' al' t2 h2' ps2 μ a _ (by simp) (by rw [hcnt];rfl) m2 tr2 ok2 (fun it hin=>fine it (List.mem_append_right _ hin)) (.inr ⟨[],rfl⟩) hdone0 hes2 (Nat.zero_le _)
      | some f=>
        obtain ⟨s',fr',v',bk',al',t2,h2',ps2,m2,tr2,ok2,hes2⟩:=fW stat hes0 (k:=0) (m:=2 ^ ops.size - 1) (tail:=It.gV 0 f::flat (0+1) st') qs mid0 tr hit fine hes00
        exact qj stat ends hes0 hnd aQ hQ ops.size _ 0 _ s' fr' v' bk' al' t2 h2' ps2 μ a _ (by simp) (by rw [hcnt];rfl) m2 tr2 ok2 (fun it hin=>fine it (List.mem_append_right _ hin)) (.inl ⟨f,st',rfl⟩) hdone0 hes2 (Nat.zero_le _)
 ·exact hp.elim
end
end Eng
end
section
set_option linter.unusedVariables false
set_option linter.unusedSimpArgs false
namespace Eng
open Go Go.RowKit
section
variable {σ:AO→AO→Option AV} {L:List (Nat×AV)} {call:aJ} {N:Nat}
end
end Eng
end
section
set_option linter.unusedVariables false
set_option linter.unusedSimpArgs false
namespace Eng
open Go Go.RowKit
section
variable {P:Program} {μ:Mp} {h:Hp} {w w':World}
theorem bq.below (hs:bq μ h w) (b:Below w.heap.size w w'):bq μ h w':=
 ⟨hs.lt,hs.fresh,fun b' c s e=>Nat.lt_of_lt_of_le (hs.dW b' c s e) b.size,fun b' c s x e g=>(hs.d_ b' c s x e g).mono (Mp.Le.refl μ) (b.block c (hs.dW b' c s e)) rfl rfl,hs.apart,hs.peer⟩
theorem bF.tC (b:Below w.heap.size w w'):bF μ h w μ h w':=
 ⟨Nat.le_refl _,fun _ _=>rfl,fun _ _=>rfl,fun _ _=>rfl,b.size,fun c hc _=>b.block c hc,fun _ _ _=> .inl rfl,b.os,b.tape,b.output⟩
def Ht (P:Program) (l:List Nat):Prop:= ∀f ∈ l,Enters P f∧∀w,Calls P f #[] w fun e w'=>e= .returned (.bool true)∧Below w.heap.size w w'
def OG (l:List Nat) (f:Nat):Option (List AV→Hp→RV):=
 bc (a9 (fun g=>aP (Nat.beq g f)) l) none (some fun args h=>ee (.ok (.bool true) h) (fun _ _=> .no) args)
theorem Gw {l:List Nat} (ht:Ht P l):Good P fun f args h=>av .no (fun m=>m args h) (OG l f):=fun f args h v h' μ w cargs e hs r=>by
 have e:av RV.no (fun m=>m args h) (bc (a9 (fun g=>aP (Nat.beq g f)) l) none (some fun args h=>ee (.ok (.bool true) h) (fun _ _=> .no) args))= .ok v h':=e
 by_cases hm:f ∈ l
 ·have hb:a9 (fun g=>aP (Nat.beq g f)) l=false:=by
   cases hh:a9 (fun g=>aP (Nat.beq g f)) l with
   | false=>rfl
   | true=>
     have:=aT.1 hh f hm
     rw [Nat.beq_refl] at this;cases this
  rw [hb] at e
  cases args with
  | cons a args=>cases e
  | nil=>
    cases e
    obtain ⟨h1,h2⟩:=ht f hm
    rw [aF] at r
    obtain rfl:cargs= #[] :=Array.toList_eq_nil_iff.1 r
    refine ⟨h1,(h2 w).mono fun e w' ⟨he,hb⟩=>?_⟩
    exact ⟨μ,_,he,by rw [VR_bool],hs.below hb, .tC hb⟩
 ·have hb:a9 (fun g=>aP (Nat.beq g f)) l=true:=aT.2 fun g hg=>by
   have:g≠f:=fun e=>hm (e ▸ hg)
   rw [pS this];rfl
  rw [hb] at e;cases e
theorem uA {D:Nat→Array Oper→AC} (hD:gM P D) {M:Nat→Option (List AV→Hp→RV)} (hM:Good P fun f args h=>av .no (fun m=>m args h) (M f)) {N d f:Nat} (e:isTrue (kZ M (ae P D) N d f [] H0)=true):
  Enters P f∧∀w,Calls P f #[] w fun e w'=>e= .returned (.bool true)∧Below w.heap.size w w':=by
 obtain ⟨h',e1⟩:=mQ e
 exact ⟨(ir hD hM N d f [] H0 _ h' Mp.none default #[] e1 (.none default) (aF.2 rfl)).1,fun w=>rT hD hM N d f w [] #[] (aF.2 rfl) e⟩
end
end Eng
end
section
set_option linter.unusedVariables false
set_option linter.unusedSimpArgs false
namespace Eng
open Go Go.RowKit
structure Ev where
 v:AV
 t:T
 h:Hp
inductive bW where
 | fin
 | tell (n:Nat) (x:AV) (r:bW)
 | fork (n:Nat) (a b:bW)
 | gV (n:Nat) (x:AV) (h:Hp) (r:bW)
 | lp (n:Nat) (s:RS) (r:bW)
 | again (n:Nat) (r:bW)
 | goal (n:Nat) (r:bW)
 | effx (n:Nat) (x:Ev→AV) (r:Ev→bW)
 | lpx (n:Nat) (s:Ev→RS) (r:Ev→bW)
 | ell (n:Nat) (m:MK) (x:aY) (r:bW)
 | agn (n:Nat) (r:bW)
 | exi (n:Nat) {α:Type} (f:α→bW)
 | dis (n:Nat) (a b:bW)
 deriving Inhabited
noncomputable section
@[reducible] def lrec1 {α:Type} {β:Type 1} (z:β) (f:α→List α→β→β) (l:List α):β:=List.rec (motive:=fun _=>β) z f l
def bW.n (o:bW):Nat:=bW.rec (motive:=fun _=>Nat) 0 (fun n _ _ _=>n) (fun n _ _ _ _=>n) (fun n _ _ _ _=>n) (fun n _ _ _=>n) (fun n _ _=>n) (fun n _ _=>n) (fun n _ _ _=>n) (fun n _ _ _=>n) (fun n _ _ _ _=>n) (fun n _ _=>n) (fun n _ _ _=>n) (fun n _ _ _ _=>n) o
def bW.cs {β:Type} (o:bW) (fin:β) (tell:AV→bW→β) (fork:bW→bW→β) (gV:AV→Hp→bW→β) (lp:RS→bW→β) (again:bW→β) (goal:bW→β) (effx:(Ev→AV)→(Ev→bW)→β) (lpx:(Ev→RS)→(Ev→bW)→β) (ell:MK→aY→bW→β) (agn:bW→β):β:=
 bW.rec (motive:=fun _=>β) fin (fun _ x r _=>tell x r) (fun _ a b _ _=>fork a b) (fun _ x h r _=>gV x h r) (fun _ s r _=>lp s r) (fun _ r _=>again r) (fun _ r _=>goal r) (fun _ x r _=>effx x r) (fun _ s r _=>lpx s r) (fun _ m x r _=>ell m x r) (fun _ r _=>agn r) (fun _ _ _ _=>fin) (fun _ _ _ _ _=>fin) o
def Bl (o:bW) (K:bW→Prop):Prop:=
 bW.rec (motive:=fun _=>Prop) (K .fin) (fun n x r _=>K (.tell n x r)) (fun n a b _ _=>K (.fork n a b)) (fun n x h r _=>K (.gV n x h r)) (fun n s r _=>K (.lp n s r)) (fun n r _=>K (.again n r)) (fun n r _=>K (.goal n r)) (fun n x r _=>K (.effx n x r)) (fun n s r _=>K (.lpx n s r)) (fun n m x r _=>K (.ell n m x r)) (fun n r _=>K (.agn n r)) (fun _ _ _ ih=> ∃x,ih x) (fun _ _ _ i j=>i∨j) o
def Bn (v:AV):AV→Prop→Prop:=AV.rec (motive_1:=fun _=>AV→Prop→Prop) (motive_2:=fun _=>List AV→Prop→Prop)
 (fun b y K=>y.asBool False fun c=>b=c∧K)
 (fun k n y K=>y.asInt False fun k' m=>bc (br k k') (n=m∧K) False)
 (fun s y K=>y.cy False fun r=>s=r∧K)
 (fun y K=>(An y).cs False K (fun _ _=>False))
 (fun b o y K=>(An y).cs False False (fun b' o'=>bc (Nat.beq b b') (bc (Nat.beq o o') K False) False))
 (fun y K=>(Ao y).cs False K (fun _ _ _ _ _ _=>False))
 (fun b o l c s e y K=>(Ao y).cs False False (fun b' o' l' c' s' e'=>bc (Nat.beq b b') (bc (Nat.beq o o') (bc (Nat.beq l l') (bc (Nat.beq c c') (bc (Nat.beq s s') (bc (bc e e' (aP e')) K False) False) False) False) False) False))
 (fun y K=>(FV y).cs False K (fun _=>False))
 (fun b y K=>(FV y).cs False False (fun b'=>bc (Nat.beq b b') K False))
 (fun f a b ia ib y K=>(jB f a b).cs False False (fun f _ _=>(nA y).cs False False (fun f' a' b'=>bc (Nat.beq f f') (ia a' (ib b' K)) False) False) False)
 (fun y K=>(nA y).cs False K (fun _ _ _=>False) False)
 (fun t _ ih y K=>(o4 y).cs False False (fun t' w=>bc (Nat.beq t t') (ih w K) False))
 (fun y K=>(o4 y).cs False K (fun _ _=>False))
 (fun _ ih y K=>y.asAgg False fun l=>ih l K)
 (fun _ ih y K=>y.asTuple False fun l=>ih l K)
 (fun l K=>ee K (fun _ _=>False) l)
 (fun _ _ i j l K=>ee False (fun a m=>i a (j m K)) l) v
def uB (l m:List AV) (K:Prop):Prop:=Bn (.agg l) (.agg m) K
def Bo (ps:List PD) (n:Nat) (h:Hp) (K:Prop):Prop:=bV K (fun p _ ih=>bc (Nat.blt p.hi n) ih ((aq p.o p.t h).cs False fun v=>Bn p.v v ih)) ps
def Gx (o:lK):Bool:=match o with | .sliceSl _ _ _ _ _=>true | _=>false
def gX (ps:List PD) (n:Nat) (h:Hp) (K:Prop):Prop:=bV K (fun p _ ih=>bc (Nat.blt p.hi n) ih (bc (Gx p.o) (p.v.asSlice False (aq p.o p.t h= .ok p.v∧ih) (fun _ _ _ _ _ _=>aq p.o p.t h= .ok p.v∧ih)) ((aq p.o p.t h).cs False fun v=>Bn p.v v ih))) ps
abbrev KV:=AV→Nat→bW→Prop
abbrev KR:=AV→Hp→Nat→bW→Prop
abbrev KT:=T→Hp→Nat→bW→Prop
abbrev KS:=RS→Nat→bW→Prop
abbrev iG:=Nat→List AV→Hp→Nat→bW→KR→Prop
abbrev tD:=T→Hp→Nat→bW→KS→Prop
def step (c:Nat) (r:bW) (now:bW→Prop) (go:Nat→bW→Prop):Prop:=Nat.rec (motive:=fun _=>Prop) (Bl r now) (fun m _=>go m r) c
def fX (l:List AV):(List Nat→Prop)→Prop:=bV (fun K=>K []) (fun v _ ih K=>v.asInt False fun k n=>bc (br k .u8) (cc n False fun m=>m < 256∧ih fun s=>K (m::s)) False) l
def gY (r:bW) (K:AV→bW→Prop):Prop:=r.cs False (fun x r=>K x r) (fun _ _=>False) (fun _ _ _=>False) (fun _ _=>False) (fun _=>False) (fun _=>False) (fun _ _=>False) (fun _ _=>False) (fun _ _ _=>False) (fun _=>False)
def LW (o:lK) (t:T) (h:Hp) (r:bW) (K:AV→bW→Prop):Prop:=match o with
 | .toStr x=>(ay x t).asSlice False False fun b o l _ s _=>bc (Nat.beq s 1) (nz h b o l False fun cs=>fX cs fun s=>K (.str s) r) False
 | .loadS x=>(ay x t).cL False fun b o=>aS h b False fun cs _ _=>gY r fun v r=>an cs o=some v∧K v r
 | _=>False
def uC (cs:List AV) (o:Nat) (v:AV):List AV:=Lq v cs o
def nV (w:Own) (K:Prop):Prop:=Own.rec (motive:=fun _=>Prop) False K (fun _=>False) w
def LX (o:qV) (t:T) (h:Hp) (r:bW) (k:KR):Prop:=match o with
 | .store n a x=>bc (Nat.beq n 1) ((ay a t).cL False fun b o=>bc (aD (ay x t)) (aS h b False fun cs n w=>o < n∧nV w (k undef (b9 h b (.cells (uC cs o (ay x t)) n .solo)) r.n r)) False) False
 | .append sz bytes s x=>bc (Nat.beq sz 1) ((ay x t).asSlice False False fun b o n _ z _=>bc (Nat.beq z 1) (bc (Nat.beq n 1) (aS h b False fun cs len _=>bc (Nat.beq len 1) False
   (gY r fun v r=>o < len∧an cs o=some v∧(cd h sz bytes (ay s t) 1 [v]).cs False fun v h=>k v h r.n r)) False) False) False
 | _=>False
def qW (o:lK) (t:T) (h:Hp) (c:Nat) (r:bW) (k:KV):Prop:=
 step c r
  (fun r=>r.cs ((aq o t h).cs False fun v=>k v 0 .fin)
   (fun x r=>aq o t h= .ok x∧k x r.n r)
   (fun a b=>(aq o t h).cs False fun v=>(Hs v).cs False fun b'=>(b'=true→k (.bool true) a.n a)∧(b'=false→k (.bool false) b.n b))
   (fun _ _ _=>False) (fun _ _=>False) (fun _=>False)
   (fun r=>(aq o t h).cs False fun v=>(Hs v).cs False fun b'=>b'=true∧k (.bool true) r.n r) (fun _ _=>False) (fun _ _=>False) (fun _ _ _=>False) (fun r=>LW o t h r fun v r=>k v r.n r))
  (fun c r=>(aq o t h).cs False fun v=>k v c r)
def TV (callW:iG) (o:qV) (t:T) (h:Hp) (k:KR) (c:Nat) (r:bW):Prop:=
 qV.rec (motive:=fun _=>Prop) (fun n a x=>(rD n a x t h).cs False fun v h=>k v h c r) (fun s m kk v=>(jC s m kk v t h).cs False fun v h=>k v h c r)
   (fun sz bytes s x=>(th sz bytes s x t h).cs False fun v h=>k v h c r) (fun sz bytes z s n=>(pP sz bytes z s n t h).cs False fun v h=>k v h c r) (fun sz d s=>(AG sz d s t h).cs False fun v h=>k v h c r)
   (fun s m kk=>(o5 s m kk t h).cs False fun v h=>k v h c r) (fun z x=>(rE z x t h).cs False fun v h=>k v h c r) (fun x=>(AH x t h).cs False fun v h=>k v h c r)
   (fun f xs=>(ay f t).iU False fun g a b=>callW g (app a (app (eh xs t) b)) h c r k) o
def eW (call:aJ) (callW:iG) (o:qV) (t:T) (h:Hp) (c:Nat) (r:bW) (k:KR):Prop:=
 step c r
  (fun r=>r.cs (TV callW o t h k 0 .fin) (fun _ _=>False) (fun _ _=>False) (fun x h' r=>pQ o call t h= .ok x h'∧k x h' r.n r) (fun _ _=>False) (fun _=>False) (fun _=>False)
   (fun x r=> ∃e:Ev,pQ o call t h= .ok (x e) e.h∧k (x e) e.h (r e).n (r e)) (fun _ _=>False) (fun _ _ _=>False) (fun r=>LX o t h r k))
  (TV callW o t h k)
abbrev KL:=MK→aY→Nat→bW→Prop
def lW (o:As) (t:T) (c:Nat) (r:bW) (k:KL):Prop:=
 step c r
  (fun r=>r.cs ((lL o t).cs False fun m x=>k m x 0 .fin) (fun _ _=>False) (fun _ _=>False) (fun _ _ _=>False) (fun _ _=>False) (fun _=>False) (fun _=>False) (fun _ _=>False) (fun _ _=>False)
   (fun m x r=>lL o t= .ok m x∧k m x r.n r) (fun _=>False))
  (fun c r=>(lL o t).cs False fun m x=>k m x c r)
def Gy (call:aJ) (callW:iG) (op:fE) (d:Option Nat) (t:T) (h:Hp) (c:Nat) (r:bW) (k:KT):Prop:=op.cs
 (fun o=>qW o t h c r fun v c r=>k (cQ d v t) h c r)
 (fun o=>lW o t c r fun m x c r=>k (cQ d (ku m h.next) t) (bz h x) c r)
 (fun o=>eW call callW o t h c r fun v h c r=>k (cQ d v t) h c r)
def oW (call:aJ) (callW:iG) (o:AO) (t:T) (h:Hp) (c:Nat) (r:bW) (k:KT):Prop:=
 av (Gy call callW o.op o.dst t h c r k) (fun _=>bc (wanted o.guard t) (Gy call callW o.op o.dst t h c r k) (k (cQ o.dst undef t) h c r)) o.guard
def TC (call:aJ) (callW:iG) (os:List AO):T→Hp→Nat→bW→KT→Prop:=
 lrec1 (fun t h c r k=>k t h c r) (fun o _ ih t h c r k=>oW call callW o t h c r fun t h c r=>ih t h c r k) os
abbrev KP:=T→Hp→List PD→Nat→bW→Prop
def pq (o:AO) (hi:Nat) (t:T) (h:Hp) (ps:List PD) (c:Nat) (r:bW) (k:KP):Prop:=
 bc (wanted o.guard t) (o.op.cs
  (fun q=>qW q t h c r fun v c r=>k (cQ o.dst v t) h (⟨q,t,v,hi⟩::ps) c r)
  (fun l=>lW l t c r fun m x c r=>k (cQ o.dst (ku m h.next) t) (bz h x) ps c r)
  (fun _=>False)) (k (cQ o.dst undef t) h ps c r)
def ma (os:List (AO×Nat)):T→Hp→List PD→Nat→bW→KP→Prop:=
 lrec1 (fun t h ps c r k=>k t h ps c r) (fun o _ ih t h ps c r k=>pq o.1 o.2 t h ps c r fun t h ps c r=>ih t h ps c r k) os
def pr (ps:List PD) (n:Nat) (h:Hp):Prop:=bV True (fun p _ ih=>bc (Nat.blt p.hi n) ih (again p.o p.t p.v h=true∧ih)) ps
def TD (call:aJ) (callW:iG) (l:List DS):Nat→T→Hp→List PD→Nat→bW→KT→Prop:=
 lrec1 (fun _ _ _ _ _ _ _=>False) (fun s _ ih n t h ps c r k=>ma s.os t h ps c r fun t h ps c r=>
  step c r
   (fun r=>r.cs (bc (aW ps n h) (av (k t h 0 .fin) (fun e=>oW call callW e t h 0 .fin fun t h c r=>ih (Nat.succ n) t h ps c r k) s.e) False) (fun _ _=>False) (fun _ _=>False) (fun _ _ _=>False) (fun _ _=>False)
    (fun r=>pr ps n h∧av (k t h r.n r) (fun e=>oW call callW e t h r.n r fun t h c r=>ih (Nat.succ n) t h ps c r k) s.e) (fun r=>gX ps n h (av (k t h r.n r) (fun e=>oW call callW e t h r.n r fun t h c r=>ih (Nat.succ n) t h ps c r k) s.e)) (fun _ _=>False) (fun _ _=>False) (fun _ _ _=>False) (fun r=>Bo ps n h (av (k t h r.n r) (fun e=>oW call callW e t h r.n r fun t h c r=>ih (Nat.succ n) t h ps c r k) s.e)))
   (fun c r=>bc (aW ps n h) (av (k t h c r) (fun e=>oW call callW e t h c r fun t h c r=>ih (Nat.succ n) t h ps c r k) s.e) False)) l
def TE (f:tD) (N:Nat) (k:KS) (t:T) (h:Hp) (c:Nat) (r:bW):Prop:=
 Nat.rec (motive:=fun _=>T→Hp→Nat→bW→Prop) (fun _ _ _ _=>False)
    (fun _ ih t h c r=>f t h c r fun s c r=>s.cs False (fun t h=>ih t h c r) (fun i t h=>k (.exit i t h) c r) (fun t h=>k (.ret t h) c r)) N t h c r
def cW (call:aJ) (callW:iG) (N:Nat) (c:AC):tD:=
 AC.rec (motive:=fun _=>tD)
  (fun t h c r k=>k (.nor t h) c r)
  (fun os t h c r k=>TC call callW os t h c r fun t h c r=>k (.nor t h) c r)
  (fun l t h c r k=>TD call callW l 0 t h [] c r fun t h c r=>k (.nor t h) c r)
  (fun _ _ f g t h c r k=>f t h c r fun s c r=>s.cs False (fun t h=>g t h c r k) (fun i t h=>k (.exit i t h) c r) (fun t h=>k (.ret t h) c r))
  (fun x _ _ f g t h c r k=>(ay x t).asBool False fun b=>bc b (f t h c r k) (g t h c r k))
  (fun i _ f t h c r k=>f t h c r fun s c r=>s.cs False (fun t h=>k (.nor t h) c r) (fun j t h=>bc (Nat.beq j i) (k (.nor t h) c r) (k (.exit j t h) c r)) (fun t h=>k (.ret t h) c r))
  (fun body f t h c r k=>
   step c r (fun r=>r.cs (TE f N k t h 0 .fin) (fun _ _=>False) (fun _ _=>False) (fun _ _ _=>False) (fun s r=>ct call N (.loop body) t h=s∧s.cs False (fun _ _=>True) (fun _ _ _=>True) (fun _ _=>True)∧k s r.n r) (fun _=>False) (fun _=>False) (fun _ _=>False)
    (fun s r=> ∃e:Ev,ct call N (.loop body) t h=s e∧(s e).cs False (fun _ _=>True) (fun _ _ _=>True) (fun _ _=>True)∧k (s e) (r e).n (r e)) (fun _ _ _=>False) (fun _=>False)) (TE f N k t h))
  (fun i t h c r k=>k (.exit i t h) c r)
  (fun t h c r k=>k (.ret t h) c r)
  (fun _ _ _ _ _ _=>False) c
def uD (rs:List ml) (t:T) (h:Hp) (c:Nat) (r:bW) (k:KR):Prop:=(results rs t h).cs False fun v h=>k v h c r
def OH (S:Nat→Option AF) (N:Nat) (call:aJ) (callW:iG) (f:Nat) (args:List AV) (h:Hp) (c:Nat) (r:bW) (k:KR):Prop:=
 av False (fun fn=>bc (Nat.ble (len args) fn.ntmps) (cW call callW N fn.body (cI args) h c r fun s c r=>s.cs False (fun t h=>uD fn.results t h c r k) (fun _ _ _=>False) (fun t h=>uD fn.results t h c r k)) False) (S f)
end
end Eng
end
section
set_option linter.unusedVariables false
set_option linter.unusedSimpArgs false
namespace Eng
open Go Go.RowKit
section
variable {call:aJ} {callW:iG} {N:Nat}
theorem Gz: ∀{r:bW} {K:bW→Prop},Bl r K→∃r',K r':=by
 intro r K
 induction r with
 | exi n f ih=>intro h;obtain ⟨x,h⟩:=(show∃x,Bl (f x) K from h);exact ih x h
 | dis n a b ia ib=>
   intro h
   rcases (show Bl a K∨Bl b K from h) with h | h
   ·exact ia h
   ·exact ib h
 | _=>exact fun h=>⟨_,h⟩
theorem j9 {c:Nat} {r:bW} {now:bW→Prop} {go:Nat→bW→Prop} (h:step c r now go):(∃r',now r')∨∃m,go m r:=by
 cases c with
 | zero=>exact .inl (Gz h)
 | succ m=>exact .inr ⟨m,h⟩
theorem Hu {o:OV} {k:AV→Prop} (h:o.cs False k): ∃v,o= .ok v∧k v:=by
 cases o with
 | no=>exact h.elim
 | ok v=>exact ⟨v,rfl,h⟩
theorem OI {o:RV} {k:AV→Hp→Prop} (h:o.cs False k): ∃v h',o= .ok v h'∧k v h':=by
 cases o with
 | no=>exact h.elim
 | ok v h'=>exact ⟨v,h',rfl,h⟩
theorem TW {v:AV} {k:Bool→Prop} (h:(Hs v).cs False k): ∃b,v= .bool b∧k b:=by
 cases v <;> first | exact h.elim | exact ⟨_,rfl,h⟩
theorem nW: ∀{l:List AV} {K:List Nat→Prop},fX l K→∃s,gE l=some s∧K s
 | [],K,e=>⟨[],rfl,e⟩
 | v::l,K,e=>by
   have e:v.asInt False fun k n=>bc (br k .u8) (cc n False fun m=>m < 256∧fX l fun s=>K (m::s)) False:=e
   cases v with
   | int k n=>
     have e:bc (br k .u8) (cc n False fun m=>m < 256∧fX l fun s=>K (m::s)) False:=e
     cases hk:br k .u8 with
     | false=>rw [hk] at e;exact e.elim
     | true=>
       rw [hk] at e
       have e:cc n False fun m=>m < 256∧fX l fun s=>K (m::s):=e
       cases n with
       | negSucc m=>exact e.elim
       | ofNat m=>
         obtain ⟨hm,e2⟩:=(show m < 256∧fX l fun s=>K (m::s) from e)
         obtain ⟨s,h1,h2⟩:=nW e2
         refine ⟨m::s,?_,h2⟩
         show pM (.int k (.ofNat m)) none (fun n=>av none (fun s=>some (n::s)) (gE l))=_
         rw [h1]
         show bc (br k .u8) (bc (Nat.blt m 256) (some (m::s)) none) none=_
         rw [hk,show Nat.blt m 256=true by rw [b_];simpa using hm];rfl
   | _=>exact e.elim
theorem qk {r:bW} {K:AV→bW→Prop} (e:gY r K): ∃v r2,K v r2:=by
 cases r with
 | tell n x r=>exact ⟨x,r,e⟩
 | _=>exact e.elim
theorem GA {o:lK} {t:T} {h:Hp} {r:bW} {K:AV→bW→Prop} (e:LW o t h r K): ∃v r,aq o t h= .ok v∧K v r:=by
 cases o with
 | toStr x=>
   have e:(ay x t).asSlice False False fun b o l _ s _=>bc (Nat.beq s 1) (nz h b o l False fun cs=>fX cs fun s=>K (.str s) r) False:=e
   show∃v r,(ay x t).asSlice OV.no (OV.ok (.str [])) (fun b o l _ s _=>bc (Nat.beq s 1) (nz h b o l OV.no fun cs=>av OV.no (fun s=>OV.ok (.str s)) (ek l cs)) OV.no)= .ok v∧K v r
   cases hx:ay x t with
   | slice b o l cp s ex=>
     rw [hx] at e
     have e:bc (Nat.beq s 1) (nz h b o l False fun cs=>fX cs fun s=>K (.str s) r) False:=e
     show∃v r,bc (Nat.beq s 1) (nz h b o l OV.no fun cs=>av OV.no (fun s=>OV.ok (.str s)) (ek l cs)) OV.no= .ok v∧K v r
     cases hs:Nat.beq s 1 with
     | false=>rw [hs] at e;exact e.elim
     | true=>
       rw [hs] at e
       have e:nz h b o l False fun cs=>fX cs fun s=>K (.str s) r:=e
       show∃v r,nz h b o l OV.no (fun cs=>av OV.no (fun s=>OV.ok (.str s)) (ek l cs))= .ok v∧K v r
       unfold nz aS at e ⊢
       cases hb:au h b with
       | none=>rw [hb] at e;exact e.elim
       | some y=>
         rw [hb] at e
         cases y with
         | cells cs n w=>
           revert e
           show (bc (Nat.ble (Nat.add o l) n) (fX (part cs n o l) fun s=>K (.str s) r) False)→∃v r,(bc (Nat.ble (Nat.add o l) n) (av OV.no (fun s=>OV.ok (.str s)) (ek l (part cs n o l))) OV.no)= .ok v∧K v r
           intro e
           cases hn:Nat.ble (Nat.add o l) n with
           | false=>rw [hn] at e;exact e.elim
           | true=>
             rw [hn] at e
             obtain ⟨s,h1,h2⟩:=nW (show fX (part cs n o l) (fun s=>K (.str s) r) from e)
             refine ⟨_,_,?_,h2⟩
             show av OV.no (fun s=>OV.ok (.str s)) (ek l (part cs n o l))=_
             rw [lh,h1];rfl
         | _=>exact e.elim
   | _=>rw [hx] at e;exact e.elim
 | loadS x=>
   have e:(ay x t).cL False fun b o=>aS h b False fun cs _ _=>gY r fun v r=>an cs o=some v∧K v r:=e
   show∃v r,(ay x t).cL OV.no (fun b o=>rd h b o)= .ok v∧K v r
   cases hx:ay x t with
   | ptr b o=>
     rw [hx] at e
     have e:aS h b False fun cs _ _=>gY r fun v r=>an cs o=some v∧K v r:=e
     show∃v r,rd h b o= .ok v∧K v r
     unfold rd
     unfold aS at e ⊢
     cases hb:au h b with
     | none=>rw [hb] at e;exact e.elim
     | some y=>
       rw [hb] at e
       cases y with
       | cells cs n w=>
         obtain ⟨v,r2,h1,h2⟩:=qk (show gY r (fun v r=>an cs o=some v∧K v r) from e)
         refine ⟨v,r2,?_,h2⟩
         show av OV.no OV.ok (an cs o)=_
         rw [h1];rfl
       | _=>exact e.elim
   | _=>rw [hx] at e;exact e.elim
 | _=>exact e.elim
theorem Hv {o:lK} {t:T} {h:Hp} {c:Nat} {r:bW} {k:KV} (e:qW o t h c r k): ∃v c' r',aq o t h= .ok v∧k v c' r':=by
 rcases j9 e with ⟨r,e⟩ | ⟨m,e⟩
 ·cases r with
  | fin=>obtain ⟨v,h1,h2⟩:=Hu e;exact ⟨v,_,_,h1,h2⟩
  | tell n x r=>exact ⟨x,_,_,e.1,e.2⟩
  | fork n a b=>
    obtain ⟨v,h1,h2⟩:=Hu (show (aq o t h).cs False (fun v=>(Hs v).cs False fun b'=>(b'=true→k (.bool true) a.n a)∧(b'=false→k (.bool false) b.n b)) from e)
    obtain ⟨b',rfl,h3⟩:=TW h2
    cases b' with
    | true=>exact ⟨_,_,_,h1,h3.1 rfl⟩
    | false=>exact ⟨_,_,_,h1,h3.2 rfl⟩
  | gV n x h r=>exact False.elim e
  | lp n s r=>exact False.elim e
  | again n r=>exact False.elim e
  | goal n r=>
    obtain ⟨v,h1,h2⟩:=Hu (show (aq o t h).cs False (fun v=>(Hs v).cs False fun b'=>b'=true∧k (.bool true) r.n r) from e)
    obtain ⟨b',rfl,rfl,h3⟩:=TW h2
    exact ⟨_,_,_,h1,h3⟩
  | effx n x r=>exact False.elim e
  | lpx n x r=>exact False.elim e
  | ell n m x r=>exact False.elim e
  | agn n r=>obtain ⟨v,r2,h1,h2⟩:=GA (show LW o t h r (fun v r=>k v r.n r) from e);exact ⟨v,_,_,h1,h2⟩
  | exi n f=>obtain ⟨v,h1,h2⟩:=Hu e;exact ⟨v,_,_,h1,h2⟩
  | dis n a b=>obtain ⟨v,h1,h2⟩:=Hu e;exact ⟨v,_,_,h1,h2⟩
 ·obtain ⟨v,h1,h2⟩:=Hu e;exact ⟨v,_,_,h1,h2⟩
def eP (call:aJ) (callW:iG):Prop:= ∀g args h c r k,callW g args h c r k→∃v h' c' r',call g args h= .ok v h'∧k v h' c' r'
theorem GB {o:qV} {t:T} {h:Hp} {r:bW} {k:KR} (e:LX o t h r k): ∃v h' c' r',pQ o call t h= .ok v h'∧k v h' c' r':=by
 cases o with
 | store n a x=>
   have e:bc (Nat.beq n 1) ((ay a t).cL False fun b o=>bc (aD (ay x t)) (aS h b False fun cs n w=>o < n∧nV w (k undef (b9 h b (.cells (uC cs o (ay x t)) n .solo)) r.n r)) False) False:=e
   show∃v h' c' r',(bc (Nat.beq n 1) (fun t h=>bc (aD (ay x t)) (l5 a x t h) (fH n a x t h)) (fH n a x)) t h= .ok v h'∧k v h' c' r'
   cases hn:Nat.beq n 1 with
   | false=>rw [hn] at e;exact e.elim
   | true=>
     rw [hn] at e
     have e:(ay a t).cL False fun b o=>bc (aD (ay x t)) (aS h b False fun cs n w=>o < n∧nV w (k undef (b9 h b (.cells (uC cs o (ay x t)) n .solo)) r.n r)) False:=e
     show∃v h' c' r',bc (aD (ay x t)) ((ay a t).cL RV.no fun b o=>bc (aD (ay x t)) (Lu h b o (ay x t)) RV.no) (fH n a x t h)= .ok v h'∧k v h' c' r'
     cases ha:ay a t with
     | ptr b o=>
       rw [ha] at e
       have e:bc (aD (ay x t)) (aS h b False fun cs n w=>o < n∧nV w (k undef (b9 h b (.cells (uC cs o (ay x t)) n .solo)) r.n r)) False:=e
       cases hc:aD (ay x t) with
       | false=>rw [hc] at e;exact e.elim
       | true=>
         rw [hc] at e
         have e:aS h b False fun cs n w=>o < n∧nV w (k undef (b9 h b (.cells (uC cs o (ay x t)) n .solo)) r.n r):=e
         show∃v h' c' r',Lu h b o (ay x t)= .ok v h'∧k v h' c' r'
         unfold Lu
         unfold aS at e ⊢
         cases hb:au h b with
         | none=>rw [hb] at e;exact e.elim
         | some y=>
           rw [hb] at e
           cases y with
           | cells cs n w=>
             obtain ⟨h1,h2⟩:=(show o < n∧nV w (k undef (b9 h b (.cells (uC cs o (ay x t)) n .solo)) r.n r) from e)
             cases w with
             | solo=>
               refine ⟨_,_,_,_,?_,h2⟩
               show bc (Nat.blt o n) (RV.ok undef (b9 h b (.cells (Lq (ay x t) cs o) n .solo))) RV.no=_
               rw [show Nat.blt o n=true by rw [b_];simpa using h1];rfl
             | _=>exact h2.elim
           | _=>exact e.elim
     | _=>rw [ha] at e;exact e.elim
 | append sz bytes s x=>
   have e:bc (Nat.beq sz 1) ((ay x t).asSlice False False fun b o n _ z _=>bc (Nat.beq z 1) (bc (Nat.beq n 1) (aS h b False fun cs len _=>bc (Nat.beq len 1) False
    (gY r fun v r=>o < len∧an cs o=some v∧(cd h sz bytes (ay s t) 1 [v]).cs False fun v h=>k v h r.n r)) False) False) False:=e
   show∃v h' c' r',src h sz (ay x t) RV.no (fun m xs=>cd h sz bytes (ay s t) m xs)= .ok v h'∧k v h' c' r'
   cases hz:Nat.beq sz 1 with
   | false=>rw [hz] at e;exact e.elim
   | true=>
     rw [hz] at e
     cases hx:ay x t with
     | slice b o n cp z ex=>
       rw [hx] at e
       have e:bc (Nat.beq z 1) (bc (Nat.beq n 1) (aS h b False fun cs len _=>bc (Nat.beq len 1) False
        (gY r fun v r=>o < len∧an cs o=some v∧(cd h sz bytes (ay s t) 1 [v]).cs False fun v h=>k v h r.n r)) False) False:=e
       cases hz2:Nat.beq z 1 with
       | false=>rw [hz2] at e;exact e.elim
       | true=>
         rw [hz2] at e
         cases hn:Nat.beq n 1 with
         | false=>rw [hn] at e;exact e.elim
         | true=>
           rw [hn] at e
           obtain rfl:=Nat.eq_of_beq_eq_true hz
           obtain rfl:=Nat.eq_of_beq_eq_true hz2
           obtain rfl:=Nat.eq_of_beq_eq_true hn
           have e:aS h b False fun cs len _=>bc (Nat.beq len 1) False (gY r fun v r=>o < len∧an cs o=some v∧(cd h 1 bytes (ay s t) 1 [v]).cs False fun v h=>k v h r.n r):=e
           show∃v h' c' r',nz h b o 1 RV.no (fun l=>cd h 1 bytes (ay s t) 1 l)= .ok v h'∧k v h' c' r'
           unfold nz
           unfold aS at e ⊢
           cases hb:au h b with
           | none=>rw [hb] at e;exact e.elim
           | some y=>
             rw [hb] at e
             cases y with
             | cells cs len w=>
               have e:bc (Nat.beq len 1) False (gY r fun v r=>o < len∧an cs o=some v∧(cd h 1 bytes (ay s t) 1 [v]).cs False fun v h=>k v h r.n r):=e
               cases hl:Nat.beq len 1 with
               | true=>rw [hl] at e;exact e.elim
               | false=>
                 rw [hl] at e
                 obtain ⟨v,r2,h1,h2,h3⟩:=qk e
                 obtain ⟨v',h',h4,h5⟩:=OI h3
                 refine ⟨v',h',_,_,?_,h5⟩
                 show bc (Nat.ble (Nat.add o 1) len) (cd h 1 bytes (ay s t) 1 (part cs len o 1)) RV.no=_
                 have hp:part cs len o 1= [v] :=by
                  have k1:take (drop cs o) 1= [v] :=by
                   rw [fw] at h2
                   rw [gF,drop_eq]
                   obtain ⟨k2,k3⟩:=List.getElem?_eq_some_iff.1 h2
                   rw [List.drop_eq_getElem_cons k2,k3];rfl
                  unfold part
                  rw [show Nat.beq 1 len=false from pS fun e1=>by rw [←e1] at hl;cases hl]
                  cases ho:Nat.beq o 0 with
                  | false=>exact k1
                  | true=>
                    obtain rfl:=Nat.eq_of_beq_eq_true ho
                    show take cs 1= [v]
                    rw [←k1];rw [gF,gF,drop_eq];rfl
                 rw [hp,show Nat.ble (Nat.add o 1) len=true by rw [ij];exact decide_eq_true (show o+1≤len by omega)]
                 exact h4
             | _=>exact e.elim
     | _=>rw [hx] at e;exact e.elim
 | _=>exact e.elim
theorem OJ (hc:eP call callW) {o:qV} {t:T} {h:Hp} {c:Nat} {r:bW} {k:KR} (e:eW call callW o t h c r k): ∃v h' c' r',pQ o call t h= .ok v h'∧k v h' c' r':=by
 have go: ∀c r,TV callW o t h k c r→∃v h' c' r',pQ o call t h= .ok v h'∧k v h' c' r':=by
  intro c r e
  cases o with
  | call f xs=>
    show∃v h' c' r',((ay f t).iU RV.no fun g a b=>call g (app a (app (eh xs t) b)) h)= .ok v h'∧k v h' c' r'
    have e:(ay f t).iU False fun g a b=>callW g (app a (app (eh xs t) b)) h c r k:=e
    unfold AV.iU at e ⊢
    cases hf:nA (ay f t) with
    | no=>rw [hf] at e;exact e.elim
    | nil=>rw [hf] at e;exact e.elim
    | other=>rw [hf] at e;exact e.elim
    | fn g a b=>rw [hf] at e;exact hc _ _ _ _ _ _ e
  | _=>obtain ⟨v,h',h1,h2⟩:=OI e;exact ⟨v,h',_,_,h1,h2⟩
 rcases j9 (show step c r _ _ from e) with ⟨r,e⟩ | ⟨m,e⟩
 ·cases r with
  | fin=>exact go _ _ e
  | exi n f=>exact go _ _ e
  | dis n a b=>exact go _ _ e
  | gV n x h' r=>exact ⟨x,h',_,_,e.1,e.2⟩
  | effx n x r=>obtain ⟨w,h1,h2⟩:=e;exact ⟨x w,w.h,_,_,h1,h2⟩
  | agn n r=>exact GB (show LX o t h r k from e)
  | _=>exact False.elim e
 ·exact go _ _ e
theorem Hw {o:As} {t:T} {c:Nat} {r:bW} {k:KL} (e:lW o t c r k): ∃m x c' r',lL o t= .ok m x∧k m x c' r':=by
 have go: ∀c r,((lL o t).cs False fun m x=>k m x c r)→∃m x c' r',lL o t= .ok m x∧k m x c' r':=fun c r e=>by
  cases hl:lL o t with
  | no=>rw [hl] at e;exact e.elim
  | ok m x=>rw [hl] at e;exact ⟨m,x,_,_,rfl,e⟩
 rcases j9 (show step c r _ _ from e) with ⟨r,e⟩ | ⟨m,e⟩
 ·cases r with
  | fin=>exact go _ _ e
  | exi n f=>exact go _ _ e
  | dis n a b=>exact go _ _ e
  | ell n m x r=>exact ⟨m,x,_,_,e.1,e.2⟩
  | _=>exact False.elim e
 ·exact go _ _ e
theorem tE (hc:eP call callW) {op:fE} {d:Option Nat} {t:T} {h:Hp} {c:Nat} {r:bW} {k:KT} (e:Gy call callW op d t h c r k): ∃t' h' c' r',uh op d call t h= .ok t' h'∧k t' h' c' r':=by
 cases op with
 | q o=>
   obtain ⟨v,c',r',h1,h2⟩:=Hv (show qW o t h c r _ from e)
   refine ⟨_,_,c',r',?_,h2⟩
   show (aq o t h).then _=_
   rw [h1];rfl
 | l o=>
   obtain ⟨m,x,c',r',h1,h2⟩:=Hw (show lW o t c r _ from e)
   show∃t' h' c' r',((lL o t).then fun m x=> .ok (cQ d (ku m h.next) t) (bz h x))=_∧_
   rw [h1];exact ⟨_,_,_,_,rfl,h2⟩
 | e o=>
   obtain ⟨v,h',c',r',h1,h2⟩:=OJ hc (show eW call callW o t h c r _ from e)
   refine ⟨_,_,c',r',?_,h2⟩
   show (pQ o call t h).then _=_
   rw [h1];rfl
theorem Hx (hc:eP call callW) {o:AO} {t:T} {h:Hp} {c:Nat} {r:bW} {k:KT} (e:oW call callW o t h c r k): ∃t' h' c' r',ui call o t h= .ok t' h'∧k t' h' c' r':=by
 obtain ⟨dst,op,g⟩:=o
 cases g with
 | none=>exact tE hc e
 | some g=>
   have e:bc (wanted (some g) t) (Gy call callW op dst t h c r k) (k (cQ dst undef t) h c r):=e
   show∃t' h' c' r',bc (wanted (some g) t) (uh op dst call t h) (.ok (cQ dst undef t) h)= .ok t' h'∧_
   cases hw:wanted (some g) t with
   | true=>rw [hw] at e;exact tE hc e
   | false=>rw [hw] at e;exact ⟨_,_,_,_,rfl,e⟩
theorem Bp (hc:eP call callW): ∀(os:List AO) {t:T} {h:Hp} {c:Nat} {r:bW} {k:KT},TC call callW os t h c r k→∃t' h' c' r',pR call os t h= .ok t' h'∧k t' h' c' r'
 | [],t,h,c,r,k,e=>⟨_,_,_,_,rfl,e⟩
 | o::os,t,h,c,r,k,e=>by
   obtain ⟨t1,h1,c1,r1,e1,e2⟩:=Hx hc (show oW call callW o t h c r (fun t h c r=>TC call callW os t h c r k) from e)
   obtain ⟨t2,h2,c2,r2,e3,e4⟩:=Bp hc os e2
   refine ⟨t2,h2,c2,r2,?_,e4⟩
   show (ui call o t h).then (pR call os)=_
   rw [e1];exact e3
theorem uE {o:AO} {hi:Nat} {t:T} {h:Hp} {ps:List PD} {c:Nat} {r:bW} {k:KP} (e:pq o hi t h ps c r k):
  ∃t' h' ps' c' r',(∀kk:T→Hp→List PD→RT,o6 o hi t h ps kk=kk t' h' ps')∧k t' h' ps' c' r':=by
 unfold pq at e
 unfold o6
 cases hw:wanted o.guard t with
 | false=>rw [hw] at e;exact ⟨_,_,_,_,_,fun _=>rfl,e⟩
 | true=>
   rw [hw] at e
   obtain ⟨dst,op,g⟩:=o
   cases op with
   | q f=>
     obtain ⟨v,c',r',h1,h2⟩:=Hv (show qW f t h c r _ from e)
     refine ⟨_,_,_,c',r',fun kk=>?_,h2⟩
     show (aq f t h).then _=_
     rw [h1];rfl
   | l f=>
     obtain ⟨m,x,c',r',h1,h2⟩:=Hw (show lW f t c r _ from e)
     show∃t' h' ps' c' r',(∀kk:T→Hp→List PD→RT,((lL f t).then fun m x=>kk (cQ dst (ku m h.next) t) (bz h x) ps)=kk t' h' ps')∧_
     rw [h1];exact ⟨_,_,_,_,_,fun _=>rfl,h2⟩
   | e f=>exact False.elim e
theorem mX: ∀(os:List (AO×Nat)) {t:T} {h:Hp} {ps:List PD} {c:Nat} {r:bW} {k:KP},ma os t h ps c r k→
  ∃t' h' ps' c' r',(∀kk:T→Hp→List PD→RT,ep os t h ps kk=kk t' h' ps')∧k t' h' ps' c' r'
 | [],t,h,ps,c,r,k,e=>⟨_,_,_,_,_,fun _=>rfl,e⟩
 | o::os,t,h,ps,c,r,k,e=>by
   obtain ⟨t1,h1,ps1,c1,r1,e1,e2⟩:=uE (show pq o.1 o.2 t h ps c r (fun t h ps c r=>ma os t h ps c r k) from e)
   obtain ⟨t2,h2,ps2,c2,r2,e3,e4⟩:=mX os e2
   refine ⟨t2,h2,ps2,c2,r2,fun kk=>?_,e4⟩
   show o6 o.1 o.2 t h ps (fun t h ps=>ep os t h ps kk)=_
   rw [e1,e3]
theorem Aq {b:Bool} {K:Prop} (h:bc b K False):b=true∧K:=by
 cases b with
 | true=>exact ⟨rfl,h⟩
 | false=>exact h.elim
mutual
theorem pt: ∀(v u:AV) {K:Prop},Bn v u K→dB v u=true∧K
 | .bool b,u,K,e=>by
   cases u <;> first | exact False.elim e | skip
   obtain ⟨rfl,h⟩:=(show b=_∧K from e)
   refine ⟨?_,h⟩
   show bc b b (aP b)=true
   cases b <;> rfl
 | .int k n,u,K,e=>by
   cases u <;> first | exact False.elim e | skip
   rename_i k' m
   obtain ⟨h1,rfl,h3⟩:=Aq (show bc (br k k') (n=m∧K) False from e)
   refine ⟨?_,h3⟩
   show bc (br k k') (je n n) false=true
   rw [h1,dj];simp
 | .str s,u,K,e=>by
   cases u <;> first | exact False.elim e | skip
   obtain ⟨rfl,h⟩:=(show s=_∧K from e)
   refine ⟨?_,h⟩
   show eE s s=true
   rw [dU];simp
 | .nilPtr,u,K,e=>by cases u <;> first | exact ⟨rfl,e⟩ | exact False.elim e
 | .ptr b o,u,K,e=>by
   cases u <;> first | exact False.elim e | skip
   rename_i b' o'
   obtain ⟨h1,e⟩:=Aq (show bc (Nat.beq b b') (bc (Nat.beq o o') K False) False from e)
   obtain ⟨h2,e⟩:=Aq e
   refine ⟨?_,e⟩
   show bc (Nat.beq b b') (Nat.beq o o') false=true
   rw [h1,h2];rfl
 | .nilSlice,u,K,e=>by cases u <;> first | exact ⟨rfl,e⟩ | exact False.elim e
 | .slice b o l c s x,u,K,e=>by
   cases u <;> first | exact False.elim e | skip
   rename_i b' o' l' c' s' x'
   obtain ⟨h1,e⟩:=Aq (show bc (Nat.beq b b') (bc (Nat.beq o o') (bc (Nat.beq l l') (bc (Nat.beq c c') (bc (Nat.beq s s') (bc (bc x x' (aP x')) K False) False) False) False) False) False from e)
   obtain ⟨h2,e⟩:=Aq e
   obtain ⟨h3,e⟩:=Aq e
   obtain ⟨h4,e⟩:=Aq e
   obtain ⟨h5,e⟩:=Aq e
   obtain ⟨h6,e⟩:=Aq e
   refine ⟨?_,e⟩
   show bc (Nat.beq b b') (bc (Nat.beq o o') (bc (Nat.beq l l') (bc (Nat.beq c c') (bc (Nat.beq s s') (bc x x' (aP x')) false) false) false) false) false=true
   rw [h1,h2,h3,h4,h5,h6];rfl
 | .nilMap,u,K,e=>by cases u <;> first | exact ⟨rfl,e⟩ | exact False.elim e
 | .map b,u,K,e=>by
   cases u <;> first | exact False.elim e | skip
   exact Aq e
 | .func fn a b,u,K,e=>by
   have e:(jB fn a b).cs False False (fun f _ _=>(nA u).cs False False (fun f' a' b'=>bc (Nat.beq f f') (uB a a' (uB b b' K)) False) False) False:=e
   show (jB fn a b).cs false false (fun f _ _=>(nA u).cs false false (fun f' a' b'=>bc (Nat.beq f f') (bc (fD a a') (fD b b') false) false) false) false=true∧K
   cases hf:jB fn a b with
   | no=>rw [hf] at e;exact False.elim e
   | nil=>rw [hf] at e;exact False.elim e
   | other=>rw [hf] at e;exact False.elim e
   | fn f x y=>
     rw [hf] at e
     cases hu:nA u with
     | no=>rw [hu] at e;exact False.elim e
     | nil=>rw [hu] at e;exact False.elim e
     | other=>rw [hu] at e;exact False.elim e
     | fn f' a' b'=>
       rw [hu] at e
       obtain ⟨h1,e⟩:=Aq (show bc (Nat.beq f f') (uB a a' (uB b b' K)) False from e)
       obtain ⟨h2,e⟩:=j_ a a' e
       obtain ⟨h3,e⟩:=j_ b b' e
       refine ⟨?_,e⟩
       show bc (Nat.beq f f') (bc (fD a a') (fD b b') false) false=true
       rw [h1,h2,h3];rfl
 | .nilFunc,u,K,e=>by
   have e:(nA u).cs False K (fun _ _ _=>False) False:=e
   show (nA u).cs false true (fun _ _ _=>false) false=true∧K
   cases hu:nA u with
   | nil=>rw [hu] at e;exact ⟨rfl,e⟩
   | _=>rw [hu] at e;exact False.elim e
 | .iface t v,u,K,e=>by
   cases u <;> first | exact False.elim e | skip
   rename_i t' w
   obtain ⟨h1,e⟩:=Aq (show bc (Nat.beq t t') (Bn v w K) False from e)
   obtain ⟨h2,e⟩:=pt v w e
   refine ⟨?_,e⟩
   show bc (Nat.beq t t') (dB v w) false=true
   rw [h1,h2];rfl
 | .nilIface,u,K,e=>by cases u <;> first | exact ⟨rfl,e⟩ | exact False.elim e
 | .agg l,u,K,e=>by
   cases u <;> first | exact False.elim e | skip
   exact j_ l _ e
 | .tuple l,u,K,e=>by
   cases u <;> first | exact False.elim e | skip
   exact j_ l _ e
theorem j_: ∀(l m:List AV) {K:Prop},uB l m K→fD l m=true∧K
 | [],m,K,e=>by
   cases m with
   | nil=>exact ⟨rfl,e⟩
   | cons _ _=>exact False.elim e
 | a::l,m,K,e=>by
   cases m with
   | nil=>exact False.elim e
   | cons b m=>
     obtain ⟨h1,e⟩:=pt a b (show Bn a b (uB l m K) from e)
     obtain ⟨h2,e⟩:=j_ l m e
     refine ⟨?_,e⟩
     show bc (dB a b) (fD l m) false=true
     rw [h1,h2];rfl
end
theorem mc: ∀{ps:List PD} {n:Nat} {h:Hp} {K:Prop},Bo ps n h K→aW ps n h=true∧K
 | [],n,h,K,e=>⟨rfl,e⟩
 | p::ps,n,h,K,e=>by
   have e:bc (Nat.blt p.hi n) (Bo ps n h K) ((aq p.o p.t h).cs False fun v=>Bn p.v v (Bo ps n h K)):=e
   show bc (bc (Nat.blt p.hi n) true (again p.o p.t p.v h)) (aW ps n h) false=true∧K
   cases hb:Nat.blt p.hi n with
   | true=>rw [hb] at e;exact mc e
   | false=>
     rw [hb] at e
     obtain ⟨v,h1,h2⟩:=Hu (show (aq p.o p.t h).cs False (fun v=>Bn p.v v (Bo ps n h K)) from e)
     obtain ⟨h3,h4⟩:=pt _ _ h2
     obtain ⟨h5,h6⟩:=mc h4
     refine ⟨?_,h6⟩
     show bc ((aq p.o p.t h).cs false fun v'=>dB p.v v') (aW ps n h) false=true
     rw [h1]
     show bc (dB p.v v) (aW ps n h) false=true
     rw [h3,h5];rfl
theorem GC {v:AV} {K:Prop} (e:v.asSlice False K (fun _ _ _ _ _ _=>K)):dB v v=true∧K:=by
 cases v with
 | nilSlice=>exact ⟨rfl,e⟩
 | slice b o l c s x=>
   refine ⟨?_,e⟩
   show bc (Nat.beq b b) (bc (Nat.beq o o) (bc (Nat.beq l l) (bc (Nat.beq c c) (bc (Nat.beq s s) (bc x x (aP x)) false) false) false) false) false=true
   rw [Nat.beq_refl,Nat.beq_refl,Nat.beq_refl,Nat.beq_refl,Nat.beq_refl]
   cases x <;> rfl
 | _=>exact e.elim
theorem ka: ∀{ps:List PD} {n:Nat} {h:Hp} {K:Prop},gX ps n h K→aW ps n h=true∧K
 | [],n,h,K,e=>⟨rfl,e⟩
 | p::ps,n,h,K,e=>by
   have e:bc (Nat.blt p.hi n) (gX ps n h K) (bc (Gx p.o) (p.v.asSlice False (aq p.o p.t h= .ok p.v∧gX ps n h K) (fun _ _ _ _ _ _=>aq p.o p.t h= .ok p.v∧gX ps n h K)) ((aq p.o p.t h).cs False fun v=>Bn p.v v (gX ps n h K))):=e
   show bc (bc (Nat.blt p.hi n) true (again p.o p.t p.v h)) (aW ps n h) false=true∧K
   cases hb:Nat.blt p.hi n with
   | true=>rw [hb] at e;exact ka e
   | false=>
     rw [hb] at e
     have e:bc (Gx p.o) (p.v.asSlice False (aq p.o p.t h= .ok p.v∧gX ps n h K) (fun _ _ _ _ _ _=>aq p.o p.t h= .ok p.v∧gX ps n h K)) ((aq p.o p.t h).cs False fun v=>Bn p.v v (gX ps n h K)):=e
     have key:(∃v,aq p.o p.t h= .ok v∧dB p.v v=true)∧gX ps n h K:=by
      cases hs:Gx p.o with
      | true=>
        rw [hs] at e
        obtain ⟨h1,h2,h3⟩:=GC (show p.v.asSlice False (aq p.o p.t h= .ok p.v∧gX ps n h K) (fun _ _ _ _ _ _=>aq p.o p.t h= .ok p.v∧gX ps n h K) from e)
        exact ⟨⟨_,h2,h1⟩,h3⟩
      | false=>
        rw [hs] at e
        obtain ⟨v,h1,h2⟩:=Hu (show (aq p.o p.t h).cs False (fun v=>Bn p.v v (gX ps n h K)) from e)
        obtain ⟨h3,h4⟩:=pt _ _ h2
        exact ⟨⟨v,h1,h3⟩,h4⟩
     obtain ⟨⟨v,h1,h3⟩,h4⟩:=key
     obtain ⟨h5,h6⟩:=ka h4
     refine ⟨?_,h6⟩
     show bc ((aq p.o p.t h).cs false fun v'=>dB p.v v') (aW ps n h) false=true
     rw [h1]
     show bc (dB p.v v) (aW ps n h) false=true
     rw [h3,h5];rfl
theorem kF: ∀{ps:List PD} {n:Nat} {h:Hp},pr ps n h→aW ps n h=true
 | [],n,h,_=>rfl
 | p::ps,n,h,e=>by
   have e:bc (Nat.blt p.hi n) (pr ps n h) (again p.o p.t p.v h=true∧pr ps n h):=e
   show bc (bc (Nat.blt p.hi n) true (again p.o p.t p.v h)) (aW ps n h) false=true
   cases hb:Nat.blt p.hi n with
   | true=>rw [hb] at e;exact kF e
   | false=>
     rw [hb] at e
     show bc (again p.o p.t p.v h) (aW ps n h) false=true
     rw [e.1];exact kF e.2
theorem Bq (hc:eP call callW): ∀(l:List DS) {n:Nat} {t:T} {h:Hp} {ps:List PD} {c:Nat} {r:bW} {k:KT},TD call callW l n t h ps c r k→
  ∃t' h' c' r',mw call l n t h ps= .ok t' h'∧k t' h' c' r'
 | [],n,t,h,ps,c,r,k,e=>False.elim e
 | s::l,n,t,h,ps,c,r,k,e=>by
   obtain ⟨t1,h1,ps1,c1,r1,e1,e2⟩:=mX s.os (show ma s.os t h ps c r _ from e)
   have go: ∀c r,aW ps1 n h1=true→(av (k t1 h1 c r) (fun e=>oW call callW e t1 h1 c r fun t h c r=>TD call callW l (Nat.succ n) t h ps1 c r k) s.e:Prop)→
     ∃t' h' c' r',mw call (s::l) n t h ps= .ok t' h'∧k t' h' c' r':=by
    intro c r hr e
    have key:mw call (s::l) n t h ps=av (.ok t1 h1) (fun e=>(ui call e t1 h1).then fun t h=>mw call l (Nat.succ n) t h ps1) s.e:=by
     show ep s.os t h ps _=_
     rw [e1]
     show bc (aW ps1 n h1) _ _=_
     rw [hr];rfl
    rw [key]
    cases hs:s.e with
    | none=>rw [hs] at e;exact ⟨_,_,_,_,rfl,e⟩
    | some e'=>
      rw [hs] at e
      obtain ⟨t2,h2,c2,r2,e3,e4⟩:=Hx hc (show oW call callW e' t1 h1 c r _ from e)
      obtain ⟨t3,h3,c3,r3,e5,e6⟩:=Bq hc l e4
      refine ⟨t3,h3,c3,r3,?_,e6⟩
      show (ui call e' t1 h1).then _=_
      rw [e3];exact e5
   have hbc: ∀{b:Bool} {p:Prop},bc b p False→b=true∧p:=by
    intro b p e
    cases b with
    | true=>exact ⟨rfl,e⟩
    | false=>exact False.elim e
   rcases j9 e2 with ⟨r1,e2⟩ | ⟨m,e2⟩
   ·cases r1 with
    | fin=>obtain ⟨hr,e3⟩:=hbc e2;exact go _ _ hr e3
    | exi n f=>obtain ⟨hr,e3⟩:=hbc e2;exact go _ _ hr e3
    | dis n a b=>obtain ⟨hr,e3⟩:=hbc e2;exact go _ _ hr e3
    | again n' r'=>exact go _ _ (kF e2.1) e2.2
    | agn n' r'=>exact go _ _ (mc e2).1 (mc e2).2
    | goal n' r'=>exact go _ _ (ka e2).1 (ka e2).2
    | _=>exact False.elim e2
   ·obtain ⟨hr,e3⟩:=hbc e2;exact go _ _ hr e3
theorem VV {s:RS} {a:T→Hp→Prop} {b:Nat→T→Hp→Prop} {d:T→Hp→Prop} (e:s.cs False a b d):s≠ .no:=by
 rintro rfl;exact e
def LY (res:T→Hp→RS) (w:tD):Prop:= ∀t h c r k,w t h c r k→∃s c' r',res t h=s∧s≠ .no∧k s c' r'
theorem kc (hc:eP call callW): ∀(a:AC),LY (ct call N a) (cW call callW N a)
 | .skip=>fun t h c r k e=>⟨_,c,r,rfl,nofun,e⟩
 | .region os=>fun t h c r k e=>by
   obtain ⟨t1,h1,c1,r1,e1,e2⟩:=Bp hc os (show TC call callW os t h c r _ from e)
   refine ⟨.nor t1 h1,c1,r1,?_,nofun,e2⟩
   show (pR call os t h).done=_
   rw [e1];rfl
 | .drawn l=>fun t h c r k e=>by
   obtain ⟨t1,h1,c1,r1,e1,e2⟩:=Bq hc l (show TD call callW l 0 t h [] c r _ from e)
   refine ⟨.nor t1 h1,c1,r1,?_,nofun,e2⟩
   show (mw call l 0 t h []).done=_
   rw [e1];rfl
 | .seq a b=>fun t h c r k e=>by
   obtain ⟨s,c1,r1,e1,e2,e3⟩:=kc hc a t h c r _ (show cW call callW N a t h c r (fun s c r=>s.cs False (fun t h=>cW call callW N b t h c r k) (fun i t h=>k (.exit i t h) c r) (fun t h=>k (.ret t h) c r)) from e)
   show∃s c' r',(ct call N a t h).then (ct call N b)=s∧_
   rw [e1]
   cases s with
   | no=>exact False.elim e3
   | nor t1 h1=>exact kc hc b t1 h1 c1 r1 k e3
   | exit i t1 h1=>exact ⟨_,c1,r1,rfl,nofun,e3⟩
   | ret t1 h1=>exact ⟨_,c1,r1,rfl,nofun,e3⟩
 | .cond x a b=>fun t h c r k e=>by
   obtain ⟨v,hv,e1⟩:=TW (show (Hs (ay x t)).cs False (fun b'=>bc b' (cW call callW N a t h c r k) (cW call callW N b t h c r k)) from e)
   show∃s c' r',(ay x t).asBool RS.no (fun b'=>bc b' (ct call N a t h) (ct call N b t h))=s∧_
   rw [hv]
   cases v with
   | true=>exact kc hc a t h c r k e1
   | false=>exact kc hc b t h c r k e1
 | .block i a=>fun t h c r k e=>by
   obtain ⟨s,c1,r1,e1,e2,e3⟩:=kc hc a t h c r _ (show cW call callW N a t h c r _ from e)
   show∃s c' r',(ct call N a t h).block i=s∧_
   rw [e1]
   cases s with
   | no=>exact False.elim e3
   | nor t1 h1=>exact ⟨_,c1,r1,rfl,nofun,e3⟩
   | ret t1 h1=>exact ⟨_,c1,r1,rfl,nofun,e3⟩
   | exit j t1 h1=>
     have e3:bc (Nat.beq j i) (k (.nor t1 h1) c1 r1) (k (.exit j t1 h1) c1 r1):=e3
     show∃s c' r',bc (Nat.beq j i) (RS.nor t1 h1) (.exit j t1 h1)=s∧_
     cases hb:Nat.beq j i with
     | true=>rw [hb] at e3;exact ⟨_,c1,r1,rfl,nofun,e3⟩
     | false=>rw [hb] at e3;exact ⟨_,c1,r1,rfl,nofun,e3⟩
 | .loop a=>fun t h c r k e=>by
   have go: ∀c r,TE (cW call callW N a) N k t h c r→∃s c' r',ct call N (.loop a) t h=s∧s≠ .no∧k s c' r':=by
    intro c r e
    show∃s c' r',rounds (fun _ _=>RS.no) (fun again t h=>(ct call N a t h).then again) N t h=s∧_
    have key: ∀(j:Nat) (t:T) (h:Hp) (c:Nat) (r:bW),TE (cW call callW N a) j k t h c r→
     ∃s c' r',rounds (fun _ _=>RS.no) (fun again t h=>(ct call N a t h).then again) j t h=s∧s≠ .no∧k s c' r':=by
     intro j
     induction j with
     | zero=>exact fun t h c r e=>False.elim e
     | succ j ih=>
       intro t h c r e
       obtain ⟨s,c1,r1,e1,e2,e3⟩:=kc hc a t h c r _ (show cW call callW N a t h c r _ from e)
       show∃s c' r',(ct call N a t h).then (rounds (fun _ _=>RS.no) (fun again t h=>(ct call N a t h).then again) j)=s∧_
       rw [e1]
       cases s with
       | no=>exact False.elim e3
       | nor t1 h1=>exact ih t1 h1 c1 r1 e3
       | exit i t1 h1=>exact ⟨_,c1,r1,rfl,nofun,e3⟩
       | ret t1 h1=>exact ⟨_,c1,r1,rfl,nofun,e3⟩
    exact key N t h c r e
   rcases j9 (show step c r _ _ from e) with ⟨r,e⟩ | ⟨m,e⟩
   ·cases r with
    | fin=>exact go _ _ e
    | exi n f=>exact go _ _ e
    | dis n a b=>exact go _ _ e
    | lp n s r=>exact ⟨s,_,_,e.1,VV e.2.1,e.2.2⟩
    | lpx n s r=>obtain ⟨w,h1,h2,h3⟩:=e;exact ⟨s w,_,_,h1,VV h2,h3⟩
    | _=>exact False.elim e
   ·exact go _ _ e
 | .exit i=>fun t h c r k e=>⟨_,c,r,rfl,nofun,e⟩
 | .ret=>fun t h c r k e=>⟨_,c,r,rfl,nofun,e⟩
 | .fail w=>fun t h c r k e=>False.elim e
theorem Br (hc:eP call callW) {S:Nat→Option AF}:eP (kv S N call) (OH S N call callW):=fun f args h c r k e=>by
 have e:(av False (fun fn=>bc (Nat.ble (len args) fn.ntmps) (cW call callW N fn.body (cI args) h c r fun s c r=>s.cs False (fun t h=>uD fn.results t h c r k) (fun _ _ _=>False) (fun t h=>uD fn.results t h c r k)) False) (S f):Prop):=e
 show∃v h' c' r',av RV.no (fun fn=>bc (Nat.ble (len args) fn.ntmps) (finish fn.results (ct call N fn.body (cI args) h)) .no) (S f)= .ok v h'∧_
 cases hf:S f with
 | none=>rw [hf] at e;exact False.elim e
 | some fn=>
   rw [hf] at e
   have e:bc (Nat.ble (len args) fn.ntmps) (cW call callW N fn.body (cI args) h c r fun s c r=>s.cs False (fun t h=>uD fn.results t h c r k) (fun _ _ _=>False) (fun t h=>uD fn.results t h c r k)) False:=e
   show∃v h' c' r',bc (Nat.ble (len args) fn.ntmps) (finish fn.results (ct call N fn.body (cI args) h)) .no= .ok v h'∧_
   cases hb:Nat.ble (len args) fn.ntmps with
   | false=>rw [hb] at e;exact False.elim e
   | true=>
     rw [hb] at e
     obtain ⟨s,c1,r1,e1,e2,e3⟩:=kc hc fn.body (cI args) h c r _ e
     show∃v h' c' r',finish fn.results (ct call N fn.body (cI args) h)= .ok v h'∧_
     rw [e1]
     cases s with
     | no=>exact False.elim e3
     | exit i t1 h1=>exact False.elim e3
     | nor t1 h1=>obtain ⟨v,h',h2,h3⟩:=OI e3;exact ⟨v,h',_,_,h2,h3⟩
     | ret t1 h1=>obtain ⟨v,h',h2,h3⟩:=OI e3;exact ⟨v,h',_,_,h2,h3⟩
end
section
variable {P:Program}
end
end Eng
end
section
set_option linter.unusedVariables false
set_option linter.unusedSimpArgs false
namespace Eng
open Go Go.RowKit
def iR (l:List (Nat×AV)) (t:T):T:=bV t (fun p _ ih=>cO (pathOf p.1) p.2 ih) l
def cu (L:List Nat) (t:T):List (Option AV):=lmap (fun i=>bf (pathOf i) t) L
def Has (l:List (Nat×AV)) (t:T):Prop:=cu (l.map (·.1)) t=l.map fun p=>some p.2
theorem kG {α:Type}: ∀{p:kY} {v:α} {t:Tr α},bf p t=some v→cO p v t=t
 | .e,v,t,h=>by
   cases t with
   | lf=>cases h
   | nd a l r=>
     have h:a=some v:=h
     subst h;rfl
 | .l p,v,t,h=>by
   cases t with
   | lf=>
     have h:bf p (.lf:Tr α)=some v:=h
     rw [dA] at h;cases h
   | nd a l r=>
     show Tr.nd a (cO p v l) r=_
     rw [kG (show bf p l=some v from h)]
 | .r p,v,t,h=>by
   cases t with
   | lf=>
     have h:bf p (.lf:Tr α)=some v:=h
     rw [dA] at h;cases h
   | nd a l r=>
     show Tr.nd a l (cO p v r)=_
     rw [kG (show bf p r=some v from h)]
theorem pv: ∀{l:List (Nat×AV)} {t:T},Has l t→iR l t=t
 | [],t,_=>rfl
 | p::l,t,h=>by
   obtain ⟨h1,h2⟩:=List.cons.inj (show bf (pathOf p.1) t::cu (l.map (·.1)) t=some p.2::l.map (fun p=>some p.2) from h)
   show cO (pathOf p.1) p.2 (iR l t)=t
   rw [pv (show Has l t from h2)]
   exact kG h1
def dH (L:List Nat) (Kn:List (Option AV)→Hp→Prop) (Ke:Nat→List (Option AV)→Hp→Prop) (Kr:List (Option AV)→Hp→Prop) (s:RS):Prop:=
 s.cs False (fun t h=>Kn (cu L t) h) (fun i t h=>Ke i (cu L t) h) (fun t h=>Kr (cu L t) h)
theorem eP.none (call:aJ):eP call (fun _ _ _ _ _ _=>False):=fun _ _ _ _ _ _ h=>h.elim
theorem tF {call:aJ} {N:Nat} {c:AC} {t:T} {h:Hp} {o:bW} {L:List Nat} {Kn:List (Option AV)→Hp→Prop} {Ke:Nat→List (Option AV)→Hp→Prop} {Kr:List (Option AV)→Hp→Prop} {p:Prop}
  (e:cW call (fun _ _ _ _ _ _=>False) N c t h o.n o (fun s _ _=>dH L Kn Ke Kr s)=p) (hp:p): ∃s,ct call N c t h=s∧dH L Kn Ke Kr s:=by
 rw [←e] at hp
 obtain ⟨s,_,_,h1,_,h3⟩:=kc (eP.none call) c t h _ _ _ hp
 exact ⟨s,h1,h3⟩
theorem kd {call:aJ} {S:Nat→Option AF} {N:Nat} {f:Nat} {args:List AV} {h:Hp} {o:bW} {K:AV→Hp→Prop} {p:Prop}
  (e:OH S N call (fun _ _ _ _ _ _=>False) f args h o.n o (fun v h _ _=>K v h)=p) (hp:p): ∃v h',kv S N call f args h= .ok v h'∧K v h':=by
 rw [←e] at hp
 obtain ⟨v,h',_,_,h1,h3⟩:=Br (eP.none call) f args h _ _ _ hp
 exact ⟨v,h',h1,h3⟩
theorem GD {call:aJ} {N:Nat} {body:AC} (L:List Nat) (Inv:Nat→List (Option AV)→Hp→Prop) (Ke:Nat→List (Option AV)→Hp→Prop) (Kr:List (Option AV)→Hp→Prop)
  (step: ∀n t h,Inv n (cu L t) h→∃s,ct call N body t h=s∧dH L (fun l h'=> ∃m,m < n∧Inv m l h') Ke Kr s) (n:Nat) (hn:n < N) (t:T) (h:Hp) (h0:Inv n (cu L t) h):
  ∃s,ct call N (.loop body) t h=s∧dH L (fun _ _=>False) Ke Kr s:=by
 show∃s,rounds (fun _ _=>RS.no) (fun again t h=>(ct call N body t h).then again) N t h=s∧dH L (fun _ _=>False) Ke Kr s
 have key: ∀(j n:Nat),n < j→∀t h,Inv n (cu L t) h→∃s,rounds (fun _ _=>RS.no) (fun again t h=>(ct call N body t h).then again) j t h=s∧dH L (fun _ _=>False) Ke Kr s:=by
  intro j
  induction j with
  | zero=>exact fun n hn=>absurd hn (Nat.not_lt_zero _)
  | succ j ih=>
    intro n hn t h hi
    obtain ⟨s,e,hs⟩:=step n t h hi
    show∃s,(ct call N body t h).then (rounds (fun _ _=>RS.no) (fun again t h=>(ct call N body t h).then again) j)=s∧_
    rw [e]
    cases s with
    | no=>exact hs.elim
    | nor t' h'=>
      obtain ⟨m,hm,hi'⟩:=(show∃m,m < n∧Inv m (cu L t') h' from hs)
      exact ih m (by omega) t' h' hi'
    | exit i t' h'=>exact ⟨_,rfl,hs⟩
    | ret t' h'=>exact ⟨_,rfl,hs⟩
 exact key N n hn t h h0
theorem Hy {a b:Nat} (h:eC (.ofNat a) (.ofNat b)=true):a < b:=by rw [eL] at h;simpa using h
theorem Hz {a b:Nat} (h:eC (.ofNat a) (.ofNat b)=false):b≤a:=by rw [eL] at h;simpa using h
theorem wrap_i64 {n:Nat} (h:n < 9223372036854775808):jO .i64 (.ofNat n)= .ofNat n:=by
 show bc (Nat.blt n 9223372036854775808) (Int.ofNat n) _=_
 rw [b_,decide_eq_true h];rfl
theorem uF (m n:Nat):mq m (.ofNat n)= .ofNat (n % m):=by
 show bc (Nat.blt n m) (Int.ofNat n) (.ofNat (Nat.mod n m))=_
 rw [dC]
 split
 ·rw [Nat.mod_eq_of_lt ‹_›]
 ·rfl
def TX (k:IntKind):Bool:=match k with | .u8 | .u16 | .u32 | .u64=>true | _=>false
theorem LZ {k:IntKind} (hk:TX k=true) (n:Nat):jO k (.ofNat n)= .ofNat (n % jP k):=by
 cases k <;> first | exact uF _ _ | cases hk
theorem dX (k:IntKind):br k k=true:=by cases k <;> rfl
theorem HA {a b:Nat} (h:a+b < 9223372036854775808):aq (.bin .add (.const (.int .i64 (.ofNat a))) (.const (.int .i64 (.ofNat b)))) .lf H0= .ok (.int .i64 (.ofNat (a+b))):=by
 show OV.ok (.int .i64 (jO .i64 (.ofNat (a+b))))=_
 rw [wrap_i64 h]
theorem GF {a b:Nat} (h:b≤a):Int.sub (.ofNat a) (.ofNat b)= .ofNat (a - b):=by
 show (Int.ofNat a - Int.ofNat b:Int)=_
 simp only [Int.ofNat_eq_natCast];omega
theorem ke {a b:Nat} (h:b≤a) (ha:a < 9223372036854775808):aq (.bin .sub (.const (.int .i64 (.ofNat a))) (.const (.int .i64 (.ofNat b)))) .lf H0= .ok (.int .i64 (.ofNat (a - b))):=by
 show OV.ok (.int .i64 (jO .i64 (Int.sub (.ofNat a) (.ofNat b))))=_
 rw [GF h,wrap_i64 (by omega)]
theorem L2 {k:IntKind} (hk:TX k=true) {j:IntKind} {a:Nat}:aq (.toInt k (.const (.int j (.ofNat a)))) .lf H0= .ok (.int k (.ofNat (a % jP k))):=by
 show OV.ok (.int k (jO k (.ofNat a)))=_
 rw [LZ hk]
theorem L3 {j:IntKind} {a:Nat} (ha:a < 9223372036854775808):aq (.toInt .i64 (.const (.int j (.ofNat a)))) .lf H0= .ok (.int .i64 (.ofNat a)):=by
 show OV.ok (.int .i64 (jO .i64 (.ofNat a)))=_
 rw [wrap_i64 ha]
def lx (v:AV) (lo hi:Nat):AV:=v.asSlice v v fun b o _ c s e=> .slice b (o+lo*s) (hi - lo) (c - lo) s e
theorem gZ {b o n c sz k:Nat} {ex:Bool} (h:k < n):aq (.idxAddrSl sz (.const (.slice b o n c sz ex)) (.const (.int .i64 (.ofNat k)))) .lf H0= .ok (.ptr b (o+k*sz)):=by
 show bc (Nat.beq sz sz) (bc (Nat.blt k n) (OV.ok (.ptr b (o+k*sz))) .no) .no=_
 rw [Nat.beq_refl,b_,decide_eq_true h];rfl
theorem eQ (l:List Nat):kr l=l.map fun n=>AV.int .u8 (.ofNat n):=bS _ _
abbrev vi (n:Nat):AV:= .int .i64 (.ofNat n)
abbrev aw (n:Nat):AV:= .int .u8 (.ofNat n)
abbrev vw (n:Nat):AV:= .int .u32 (.ofNat n)
abbrev vq (n:Nat):AV:= .int .u64 (.ofNat n)
end Eng
end
section
set_option linter.unusedVariables false
set_option linter.unusedSimpArgs false
namespace Eng
open Go Go.RowKit
structure Old (B:Nat) (h h':Hp):Prop where
 next:h.next≤h'.next
 get: ∀b,b < B→au h' b=au h b
theorem Old.refl (B:Nat) (h:Hp):Old B h h:=⟨Nat.le_refl _,fun _ _=>rfl⟩
theorem Old.trans {B:Nat} {h h' h'':Hp} (a:Old B h h') (b:Old B h' h''):Old B h h'':=⟨Nat.le_trans a.next b.next,fun k hk=>(b.get k hk).trans (a.get k hk)⟩
theorem Old.le {B C:Nat} {h h':Hp} (a:Old B h h') (hc:C≤B):Old C h h':=⟨a.next,fun k hk=>a.get k (by omega)⟩
theorem Old.push {B:Nat} {h:Hp} (hB:B≤h.next) (x:aY):Old B h (bz h x):=⟨Nat.le_succ _,fun k hk=>aC h x (by omega)⟩
theorem Old.set {B b:Nat} {h:Hp} (hB:B≤b) (x:aY):Old B h (b9 h b x):=⟨Nat.le_refl _,fun k hk=>aO h x (by omega)⟩
inductive eA (sz B:Nat) (h:Hp):AV→Nat→List AV→Prop
 | nil:eA sz B h .nilSlice 0 []
 | sl {b n:Nat} {ex:Bool} {w:Own} {L:List AV} (hB:B≤b) (hb:b < h.next) (hg:au h b=some (.cells L (n*sz) w)) (hl:L.length=n*sz) (hw:w= .solo∨∃p,w= .pair p∧(B≤p∧p < h.next)∧p≠b):
   eA sz B h (.slice b 0 n n sz ex) n L
theorem eA.push {sz B:Nat} {h:Hp} {s:AV} {n:Nat} {L:List AV} (o:eA sz B h s n L) (x:aY):eA sz B (bz h x) s n L:=by
 cases o with
 | nil=>exact .nil
 | sl hB hb hg hl hw=>exact .sl hB (by rw [hpush_next];omega) (by rw [aC h x (by omega)];exact hg) hl (hw.imp id fun ⟨p,h1,h2,h3⟩=>⟨p,h1,⟨h2.1,by rw [hpush_next];omega⟩,h3⟩)
theorem eA.low {sz B C:Nat} {h:Hp} {s:AV} {n:Nat} {L:List AV} (o:eA sz B h s n L) (hc:C≤B):eA sz C h s n L:=by
 cases o with
 | nil=>exact .nil
 | sl hB hb hg hl hw=>exact .sl (by omega) hb hg hl (by rcases hw with h | ⟨p,h1,h2,h3⟩;exact .inl h;exact .inr ⟨p,h1,by omega,h3⟩)
theorem eA.dW {sz B C:Nat} {h h':Hp} {s:AV} {n:Nat} {L:List AV} (o:eA sz B h s n L) (a:Old C h h') (hc:h.next≤C):eA sz B h' s n L:=by
 cases o with
 | nil=>exact .nil
 | sl hB hb hg hl hw=>exact .sl hB (by have:=a.next;omega) (by rw [a.get _ (by omega)];exact hg) hl (hw.imp id fun ⟨p,h1,h2,h3⟩=>⟨p,h1,⟨h2.1,by have:=a.next;omega⟩,h3⟩)
theorem eA.d_ {sz B:Nat} {h:Hp} {s:AV} {n:Nat} {L:List AV} (o:eA sz B h s n L): ∀b o' l c z ex,s= .slice b o' l c z ex→b < h.next:=by
 cases o with
 | nil=>intro b o' l c z ex e;cases e
 | sl hB hb hg hl hw=>intro b o' l c z ex e;cases e;exact hb
theorem eA.len {sz B n:Nat} {h:Hp} {v:AV} {L:List AV} (o:eA sz B h v n L):L.length=n*sz:=by
 cases o with
 | nil=>simp
 | sl hB hb hg hl hw=>exact hl
inductive Bytes (B:Nat) (h:Hp):AV→List Nat→Prop
 | nil:Bytes B h .nilSlice []
 | sl {b o c:Nat} {ex:Bool} {cs:List AV} {m:Nat} {w:Own} {l:List Nat} (hB:b < B) (hg:au h b=some (.cells cs m w)) (hcl:cs.length=m) (hl:(cs.drop o).take l.length=kr l) (hm:o+l.length≤m) (hc:l.length≤c) (hb: ∀x ∈ l,x < 256):
   Bytes B h (.slice b o l.length c 1 ex) l
theorem Bytes.lt {B:Nat} {h:Hp} {v:AV} {l:List Nat} (o:Bytes B h v l): ∀x ∈ l,x < 256:=by
 cases o with
 | nil=>simp
 | sl hB hg hcl hl hm hc hb=>exact hb
theorem eA.bytes {B C:Nat} {h:Hp} {s:AV} {n:Nat} {l:List Nat} (o:eA 1 B h s n (kr l)) (hb: ∀x ∈ l,x < 256) (hC:h.next≤C):Bytes C h s l:=by
 generalize hL:kr l=L at o
 cases o with
 | nil=>
   cases l with
   | nil=>exact .nil
   | cons x l=>cases hL
 | @sl b n ex w L hB hb' hg hl hw=>
   subst hL
   have hn:l.length=n:=by rw [dG] at hl;omega
   subst hn
   exact .sl (by omega) hg hl (by rw [List.drop_zero,List.take_of_length_le (by rw [dG];omega)]) (by omega) (Nat.le_refl _) hb
theorem Bytes.dW {B:Nat} {h h':Hp} {v:AV} {l:List Nat} (o:Bytes B h v l) (a:Old B h h'):Bytes B h' v l:=by
 cases o with
 | nil=>exact .nil
 | sl hB hg hcl hl hm hc hb=>exact .sl hB (by rw [a.get _ hB];exact hg) hcl hl hm hc hb
theorem Bytes.up {B C:Nat} {h:Hp} {v:AV} {l:List Nat} (o:Bytes B h v l) (hC:B≤C):Bytes C h v l:=by
 cases o with
 | nil=>exact .nil
 | sl hB hg hcl hl hm hc hb=>exact .sl (by omega) hg hcl hl hm hc hb
theorem Bytes.part {B:Nat} {h:Hp} {v:AV} {l:List Nat} (o:Bytes B h v l) {lo hi:Nat} (h1:lo≤hi) (h2:hi≤l.length):Bytes B h (lx v lo hi) ((l.take hi).drop lo):=by
 cases o with
 | nil=>
   have:hi=0:=Nat.le_zero.1 h2
   subst this
   obtain rfl:lo=0:=Nat.le_zero.1 h1
   exact .nil
 | @sl b o c ex cs m w l hB hg hcl hl hm hc hb=>
   have hlen:((l.take hi).drop lo).length=hi - lo:=by rw [List.length_drop,List.length_take];omega
   have key:lx (.slice b o l.length c 1 ex) lo hi= .slice b (o+lo) ((l.take hi).drop lo).length (c - lo) 1 ex:=by
    rw [hlen]
    show AV.slice b (o+lo*1) (hi - lo) (c - lo) 1 ex=_
    rw [Nat.mul_one]
   rw [key]
   refine .sl hB hg hcl ?_ (by rw [hlen];omega) (by rw [hlen];omega) (fun x hx=>hb x (List.mem_of_mem_take (List.mem_of_mem_drop hx)))
   rw [hlen]
   have e1:(cs.drop (o+lo)).take (hi - lo)=(((cs.drop o).take l.length).take hi).drop lo:=by
    rw [List.take_take,List.drop_take,List.drop_drop,Nat.min_eq_left h2]
   rw [e1,hl,eQ,eQ,←List.map_take,←List.map_drop]
end Eng
namespace Eng
open Go Go.RowKit
end Eng
namespace Eng
open Go Go.RowKit
theorem uG {B:Nat} {h:Hp} {v:AV} {l:List Nat} (o:Bytes B h v l) {lo:Nat} (h1:lo≤l.length):Bytes B h (lx v lo l.length) (l.drop lo):=by
 have:=o.part h1 (Nat.le_refl _)
 rwa [List.take_of_length_le (Nat.le_refl _)] at this
theorem GG {B:Nat} {h:Hp} {v:AV} {l:List Nat} (o:Bytes B h v l) {hi:Nat} (h1:hi≤l.length):Bytes B h (lx v 0 hi) (l.take hi):=by
 have:=o.part (Nat.zero_le hi) h1
 rwa [List.drop_zero] at this
end Eng
namespace Eng
open Go Go.RowKit
end Eng
end
section
set_option linter.unusedVariables false
set_option linter.unusedSimpArgs false
namespace Eng
open Go Go.RowKit
theorem bF.rV {μ μ':Mp} {h h':Hp} {w w':World} (hm: ∀c,μ.own c=false) (g:bF μ h w μ' h' w'):Below w.heap.size w w':=⟨g.os,g.tape,g.output,g.heap,fun k hk=>g.kept k hk (hm k)⟩
theorem uH {P:Program} {D:Nat→Array Oper→AC} (hD:gM P D) {M:Nat→Option (List AV→Hp→RV)} (hM:Good P fun f args h=>av .no (fun m=>m args h) (M f)) {N d f:Nat} {w:World} {μ:Mp} {h h':Hp} (hs:bq μ h w) (hm: ∀c,μ.own c=false)
  {args:List AV} {cargs:Array Value} (r:bb μ args cargs.toList) (e:kZ M (ae P D) N d f args h= .ok (.bool true) h'):Calls P f cargs w fun e w'=>e= .returned (.bool true)∧Below w.heap.size w w':=by
 refine (ir hD hM N d f args h _ h' μ w cargs e hs r).2.mono fun e w' hR=>?_
 obtain ⟨μ',y,rfl,ry,hs',g⟩:=hR
 rw [VR_bool] at ry
 subst ry
 exact ⟨rfl,g.rV hm⟩
structure ql where
 v:Value
 c:Nat
 s:Nat
 l:List Nat
def ql.mY (w:World) (a:ql):Prop:=(∀x ∈ a.l,x < 256)∧((a.v= .slice none 0 0∧a.l= [])∨∃cap arr e fr,a.v= .slice (some ⟨a.c,a.s,none⟩) a.l.length cap∧w.heap[a.c]? =some (.cells arr e fr)∧a.l.length≤cap∧(cap≠0→a.s+cap≤arr.size)∧
 ∀(i:Nat) (x:Nat),a.l[i]? =some x→arr[a.s+i]? =some (.int .u8 (.ofNat x)))
theorem L4 {l:List Nat} {i:Nat} {v:AV} (h:(kr l)[i]? =some v): ∃x,l[i]? =some x∧v= .int .u8 (.ofNat x):=by
 rw [eQ,List.getElem?_map] at h
 cases hl:l[i]? with
 | none=>rw [hl] at h;cases h
 | some x=>rw [hl] at h;cases h;exact ⟨x,rfl,rfl⟩
end Eng
namespace Eng
open Go Go.RowKit Go.ChangeShapes Go.WideShapes
theorem uI {H:Type} {enc:TypeId×Value→H} {P:Program} {W:World} {t e:TypeId} {v:Value} {d:DataW H} {p:List MemPlace} {base:Nat} (ht:P.underlying t=some (.slice e)) (he:P.underlying e=some (.int .u8)) (hc:P.cellsOf e=1)
  (h0:DataW.Trod enc P W 0 (fun _=>true) true t v d p) (hv:Value.okWide P W .any base t v): ∃a:ql,a.v=v∧a.mY W∧a.l.length≤maxLen∧(a.l= []∨∃es sp,d= .slice es sp∧es.length=a.l.length):=by
 obtain ⟨a0,len,cap,rfl⟩:=okWide_slice ht hv
 obtain ⟨fuel,hf⟩:=h0
 rcases open_ints ht he hc hf with ⟨hcs,_⟩ | ⟨a,len',cap',zs,hcs,_,hl,hm,hz,hd,hcell,hwf⟩
 ·simp [Value.cells] at hcs
  obtain ⟨rfl,rfl,rfl⟩:=hcs
  exact ⟨⟨.slice none 0 0,0,0,[]⟩,rfl,⟨by simp, .inl ⟨rfl,rfl⟩⟩,Nat.zero_le _, .inl rfl⟩
 ·simp [Value.cells] at hcs
  obtain ⟨rfl,rfl,rfl⟩:=hcs
  simp only [if_true] at hz
  have hhas:W.has P .any base a e cap:=by
   unfold Value.okWide Cell.okWide Cell.ok at hv
   rw [ht] at hv
   exact hv.2.2
  obtain ⟨_,hsp,row,cells,hsh,_⟩:=hhas
  obtain ⟨b,o,sp⟩:=a
  have hsp:sp=none:=hsp
  subst hsp
  have hh: ∃arr e' fr,W.heap[b]? =some (.cells arr e' fr):=by
   have hsh:W.shape? b=some (row,cells):=hsh
   unfold World.shape? at hsh
   split at hsh
   ·rename_i c el fr h;exact ⟨c,el,fr,h⟩
   ·cases hsh
  obtain ⟨arr,e',fr,hh⟩:=hh
  have hat: ∀i,i < cap→arr[o+i]? =some (.int .u8 (zs.getD i 0)):=fun i hi=>by
   have:=hcell i (by omega)
   rw [eu] at this
   unfold World.cell? at this
   simpa [hh] using this
  have hbyte: ∀z ∈ zs,0≤z∧z < 256:=fun z hz'=>by
   have h:=hwf z hz'
   have h1:IntKind.u8.min=0:=rfl
   have h2:IntKind.u8.max=255:=rfl
   simp only [Lit.wf,Bool.and_eq_true,decide_eq_true_eq] at h
   omega
  have hlen:((zs.take len).map Int.toNat).length=len:=by simp;omega
  refine ⟨⟨.slice (some ⟨b,o,none⟩) len cap,b,o,(zs.take len).map Int.toNat⟩,rfl,⟨?_, .inr ⟨cap,arr,e',fr,by rw [hlen],hh,by rw [hlen];exact hl,fun h0=>?_,fun i x hx=>?_⟩⟩,by rw [hlen];omega, .inr ⟨_,_,congrArg Prod.fst hd,by rw [hlen];simp [lits];omega⟩⟩
  ·intro x hx
   obtain ⟨z,hz',rfl⟩:=List.mem_map.1 hx
   have:=hbyte z (List.mem_of_mem_take hz')
   omega
  ·have:=hat (cap - 1) (by omega)
   have:=(Array.getElem?_eq_some_iff.1 this).1
   show o+cap≤arr.size
   omega
  ·have hx:((zs.take len).map Int.toNat)[i]? =some x:=hx
   have hi:i < len:=by have:=(List.getElem?_eq_some_iff.1 hx).1;omega
   rw [List.getElem?_map,List.getElem?_take_of_lt hi] at hx
   show arr[o+i]? =some (.int .u8 (.ofNat x))
   rw [hat i (by omega),List.getD_eq_getElem?_getD]
   cases hz':zs[i]? with
   | none=>rw [hz'] at hx;cases hx
   | some z=>
     rw [hz'] at hx
     cases hx
     have:=hbyte z (List.mem_of_getElem? hz')
     simp only [Option.getD_some]
     rw [show (Int.ofNat z.toNat)=z by simp;omega]
end Eng
end
section
set_option linter.unusedVariables false
namespace Eng
open Go
theorem tG {call:aJ} {N:Nat} {body:AC} {σ:Type} (fr:σ→List (Nat×AV)) (L:List Nat) (hL: ∀x,(fr x).map (·.1)=L) (Inv:σ→Hp→Prop) (meas:σ→Nat) (E:Nat→σ→Hp→Prop) (R:List (Option AV)→Hp→Prop)
  (step: ∀x t h,Inv x h→∃s,ct call N body (iR (fr x) t) h=s∧dH L (fun ls h'=> ∃y,ls=(fr y).map (fun p=>some p.2)∧Inv y h'∧meas y < meas x) (fun i ls h'=> ∃y,ls=(fr y).map (fun p=>some p.2)∧E i y h') R s)
  (x0:σ) (h:Hp) (hx:Inv x0 h) (hN:meas x0 < N) (t:T) (ht:Has (fr x0) t):
  (∃i y t' h',ct call N (.loop body) t h= .exit i t' h'∧Has (fr y) t'∧E i y h')∨(∃t' h',ct call N (.loop body) t h= .ret t' h'∧R (cu L t') h'):=by
 obtain ⟨s,e,hs⟩:=GD (call:=call) (N:=N) (body:=body) L (fun n ls h'=> ∃y,ls=(fr y).map (fun p=>some p.2)∧Inv y h'∧meas y=n) (fun i ls h'=> ∃y,ls=(fr y).map (fun p=>some p.2)∧E i y h') R
  (fun n t h ⟨y,hy,hi,hn⟩=>by
   have hh:Has (fr y) t:=by unfold Has;rw [hL];exact hy
   obtain ⟨s,e,hs⟩:=step y t h hi
   rw [pv hh] at e
   refine ⟨s,e,?_⟩
   cases s with
   | no=>exact hs
   | nor t' h'=>
     obtain ⟨z,h1,h2,h3⟩:=(show∃z,cu L t'=(fr z).map (fun p=>some p.2)∧Inv z h'∧meas z < meas y from hs)
     exact (show∃m,m < n∧∃y,cu L t'=(fr y).map (fun p=>some p.2)∧Inv y h'∧meas y=m from ⟨meas z,by omega,z,h1,h2,rfl⟩)
   | exit i t' h'=>exact hs
   | ret t' h'=>exact hs)
  (meas x0) hN t h ⟨x0,by unfold Has at ht;rw [hL] at ht;exact ht,hx,rfl⟩
 cases s with
 | no=>exact hs.elim
 | nor t' h'=>exact hs.elim
 | exit i t' h'=>
   obtain ⟨y,h1,h2⟩:=(show∃y,cu L t'=(fr y).map (fun p=>some p.2)∧E i y h' from hs)
   exact .inl ⟨i,y,t',h',e,by unfold Has;rw [hL];exact h1,h2⟩
 | ret t' h'=>exact .inr ⟨t',h',e,hs⟩
end Eng
end
section
set_option linter.unusedVariables false
set_option linter.unusedSimpArgs false
namespace Eng
open Go Go.RowKit
def Bu (h:Hp) (v:AV) (l:List Nat):Prop:= ∃b w,v= .slice b 0 l.length (l.length+3) 1 true∧b < h.next∧au h b=some (.cells (kr (l++ [229,229,229])) (l.length+3) w)∧∀x ∈ l,x < 256
theorem Bu.bytes {h:Hp} {v:AV} {l:List Nat} (o:Bu h v l):Bytes h.next h v l:=by
 obtain ⟨b,w,rfl,hb,hg,hl⟩:=o
 refine .sl hb hg (by rw [dG];simp) ?_ (by omega) (by omega) hl
 rw [List.drop_zero,eQ,eQ,←List.map_take,List.take_left' rfl]
theorem qn {a b:Nat} (h:a < b):eC (.ofNat a) (.ofNat b)=true:=by rw [eL];simpa using h
theorem cH {a b:Nat} (h:b≤a):eC (.ofNat a) (.ofNat b)=false:=by rw [eL];simpa using h
end Eng
namespace Eng
open Go
end Eng
namespace Eng
open Go
end Eng
namespace Eng
open Go
end Eng
namespace Eng
theorem Bv (n:Int):je n n=true:=by rw [dj];simp
end Eng
end
end
