import Derived.Test.YtfcljjhlijolgaaGreatDoorB1
import Derived.Orders
noncomputable section
section
set_option linter.unusedVariables false
set_option linter.unusedSimpArgs false
namespace Eng
open Go Go.RowKit
section
variable {P:Program} {μ μ':Mp} {h h':Hp} {w w':World} {t:T} {ρ:Operand→Value} {ty:TypeId}
theorem p_ (n:Nat): ∀(r c:Nat),Builtin.growBy n r c≤max c (n+(n+768) / 4)
 | 0,c=>by simp [Builtin.growBy];omega
 | r+1,c=>by
   unfold Builtin.growBy
   split
   ·omega
   ·have:=p_ n r (c+(c+768) / 4)
    omega
theorem tv {n c:Nat} (h:c < n):Builtin.nextslicecap n c≤3*n:=by
 unfold Builtin.nextslicecap
 split
 ·omega
 ·split
  ·omega
  ·have:=p_ n 4 c
   omega
inductive oH (P:Program) (w:World) (el xt:TypeId) (sz m:Nat) (x:Value) (xs:List Value):Prop where
 | cells (d:TypeDesc) (hx:P.underlying xt=some d) (hd: ∀k,d≠ .int k) (hlen: ∀w,(Builtin.lenOf x).run P w= .ok m w)
   (hf: ∀w1:World,w1.heap=w.heap→(Builtin.firstCells sz m x).run P w1= .ok xs.toArray w1)
 | zeros (k k':IntKind) (by_:Nat) (z:Value) (hx:P.underlying xt=some (.int k)) (hv:x= .int k' m) (hm:m≤70368744177664) (hby:bytesOf P el=some by_) (hmb:m*by_≤70368744177664)
   (hz: ∀w,(zeroValue el).run P w= .ok z w) (h0:m=0→xs= []) (hxs:m≠0→Builtin.zeroCells z.cells m=xs.toArray)
theorem lQ {el:TypeId} {by_:Nat} (hby:bytesOf P el=some by_) (w:World): ∃i,P.info? el=some i∧i.bytes=by_∧(typeInfo el).run P w= .ok i w:=by
 unfold bytesOf at hby
 cases hi:P.info? el with
 | none=>rw [hi] at hby;cases hby
 | some i=>rw [hi] at hby;exact ⟨i,rfl,Option.some.inj hby,by simp [typeInfo,hi]⟩
theorem se {m:Nat} (hm:m≤70368744177664):IntKind.i64.wrap (m:Int)=m:=by
 rw [←lN]
 show bc (Nat.blt m 9223372036854775808) (Int.ofNat m) _=_
 rw [eD,if_pos (by omega)];rfl
theorem run_append_fits {st xt ret el:TypeId} {sz:Nat} {base:Option Addr} {sLen sCap m:Nat} {x:Value} {xs:List Value} (hsz:sz≠0)
  (hu:P.underlying st=some (.slice el)) (hn:cz P el=some sz) (ht:oH P w el xt sz m x xs) (hfit:sLen+m≤sCap)
  (hst:match base with | some a=>(storeCells (a.add (sLen*sz)) xs).run P w= .ok () w' | none=>w'=w):
  (Builtin.append_ #[st,xt] ret #[.slice base sLen sCap,x]).run P w= .ok (.slice base (sLen+m) sCap) w':=by
 cases ht with
 | cells d hx hd hlen hf=>
   have hdm:(d matches .int _)=false:=by cases d <;> first | rfl | exact absurd rfl (hd _)
   simp only [Builtin.append_,Sem.run_bind,run_underlying hu,run_underlying hx,run_sizeOf hn,Result.andThen_ok,List.getElem?_toArray,List.getElem?_cons_zero,List.getElem?_cons_succ,Sem.run_pure,hdm,hlen,
    Bool.false_eq_true,if_false,Sem.run_ite,if_pos hfit,Bool.not_false,if_true,hf w rfl]
   cases base with
   | none=>subst hst;simp
   | some a=>simp only [Sem.run_bind,hst,Result.andThen_ok,Sem.run_pure]
 | zeros k k' by_ z hx hv hm hby hmb hz h0 hxs=>
   subst hv
   obtain ⟨i,hi,hbi,hti⟩:=lQ hby w
   have hneg: ¬((m:Int) < 0):=by omega
   have hbig: ¬((m:Int)*(i.bytes:Int) > 2 ^ 48):=by
    rw [hbi]
    have:((m:Int)*(by_:Int))=((m*by_:Nat):Int):=by simp
    rw [this];omega
   have happ:(if m*sz=0 then (Result.ok #[] w:Result (Array Value)) else ((zeroValue el).run P w).andThen fun a w'=> .ok (Builtin.zeroCells a.cells m) w')= .ok xs.toArray w:=by
    by_cases hm0:m=0
    ·subst hm0;rw [if_pos (Nat.zero_mul sz),h0 rfl]
    ·rw [if_neg (Nat.mul_ne_zero hm0 hsz),hz,Result.andThen_ok,hxs hm0]
   simp only [Builtin.append_,Sem.run_bind,run_underlying hu,run_underlying hx,run_sizeOf hn,Result.andThen_ok,List.getElem?_toArray,List.getElem?_cons_zero,List.getElem?_cons_succ,Sem.run_pure,
    if_true,Sem.run_ite,asInt,asIntOf,se hm,if_neg hneg,hti,if_neg hbig,Int.toNat_natCast,if_pos hfit,Bool.not_true,Bool.false_eq_true,if_false,happ]
   cases base with
   | none=>subst hst;simp
   | some a=>simp only [Sem.run_bind,hst,Result.andThen_ok,Sem.run_pure]
theorem ja {st xt ret el:TypeId} {sz by_:Nat} {base:Option Addr} {sLen sCap m:Nat} {x z:Value} {xs eM:List Value} (hsz:sz≠0)
  (hu:P.underlying st=some (.slice el)) (hn:cz P el=some sz) (hby:bytesOf P el=some by_) (hz: ∀w,(zeroValue el).run P w= .ok z w) (ht:oH P w el xt sz m x xs) (hgrow:sCap < sLen+m)
  (hb1:(sLen+m)*by_≤70368744177664) (hb2:sLen+m≤70368744177664)
  (hold: ∀w1:World,w1.heap=w.heap→(Builtin.firstCells sz sLen (.slice base sLen sCap)).run P w1= .ok eM.toArray w1):
  ∃cap,sLen+m≤cap∧(Builtin.append_ #[st,xt] ret #[.slice base sLen sCap,x]).run P w=
   .ok (.slice (some ⟨w.heap.size,0,none⟩) (sLen+m) cap) {w with drawn:=w.drawn+1,heap:=w.heap.push (.cells (eM.toArray++xs.toArray++Builtin.zeroCells z.cells (cap - (sLen+m))) el)}:=by
 obtain ⟨i,hi,hbi,_⟩:=lQ hby w
 have hti: ∀w,(typeInfo el).run P w= .ok i w:=fun w=>by simp [typeInfo,hi]
 have hfit: ¬(sLen+m≤sCap):=by omega
 have hmax: ¬(((sLen+m:Nat):Int) > IntKind.i64.max):=by
  have:IntKind.i64.max=9223372036854775807:=rfl
  rw [this];omega
 have hcap: ¬(Builtin.nextslicecap (sLen+m) sCap*i.bytes > 2 ^ 48):=by
  have h1:=tv hgrow
  have h2:Builtin.nextslicecap (sLen+m) sCap*i.bytes≤3*(sLen+m)*i.bytes:=Nat.mul_le_mul_right _ h1
  rw [hbi] at *
  have h3:3*(sLen+m)*by_=3*((sLen+m)*by_):=Nat.mul_assoc _ _ _
  omega
 obtain ⟨cap,hc1,hc2⟩: ∃cap,sLen+m≤cap∧(choose (.appendCap (sLen+m) sCap el)).run P w= .ok cap {w with drawn:=w.drawn+1}:=
  ⟨_,Nat.le_add_right _ _,by simp only [run_choose];rfl⟩
 refine ⟨cap,hc1,?_⟩
 have hold':=hold {w with drawn:=w.drawn+1} rfl
 cases ht with
 | cells d hx hd hlen hf=>
   have hdm:(d matches .int _)=false:=by cases d <;> first | rfl | exact absurd rfl (hd _)
   have hf':=hf {w with drawn:=w.drawn+1} rfl
   have hb: ¬(((sLen+m:Nat):Int) > IntKind.i64.max∧(False∨i.bytes=0)):=fun h=>hmax h.1
   simp only [Builtin.append_,Sem.run_bind,run_underlying hu,run_underlying hx,run_sizeOf hn,Result.andThen_ok,List.getElem?_toArray,List.getElem?_cons_zero,List.getElem?_cons_succ,Sem.run_pure,hdm,hlen,
    Bool.false_eq_true,if_false,Sem.run_ite,if_neg hfit,Bool.not_false,if_true,hti,if_neg hb,if_neg hcap,hc2,run_askRoom,hold',hf',hz,dF]
 | zeros k k' by2 z2 hx hv hm hby2 hmb hz2 h0 hxs=>
   subst hv
   have hneg: ¬((m:Int) < 0):=by omega
   have hbig: ¬((m:Int)*(i.bytes:Int) > 2 ^ 48):=by
    rw [hby] at hby2;cases hby2
    rw [hbi]
    have:((m:Int)*(by_:Int))=((m*by_:Nat):Int):=by simp
    rw [this];omega
   have hzz:z2=z:=by
    have h1:=hz2 w
    rw [hz w] at h1
    cases h1;rfl
   subst hzz
   have happ:(if m*sz=0 then (Result.ok #[] {w with drawn:=w.drawn+1}:Result (Array Value)) else .ok (Builtin.zeroCells z2.cells m) {w with drawn:=w.drawn+1})=
     .ok xs.toArray {w with drawn:=w.drawn+1}:=by
    by_cases hm0:m=0
    ·subst hm0;rw [if_pos (Nat.zero_mul sz),h0 rfl]
    ·rw [if_neg (Nat.mul_ne_zero hm0 hsz),hxs hm0]
   have hb: ¬(((sLen+m:Nat):Int) > IntKind.i64.max∧(True∨i.bytes=0)):=fun h=>hmax h.1
   simp only [Builtin.append_,Sem.run_bind,run_underlying hu,run_underlying hx,run_sizeOf hn,Result.andThen_ok,List.getElem?_toArray,List.getElem?_cons_zero,List.getElem?_cons_succ,Sem.run_pure,
    if_true,Sem.run_ite,asInt,asIntOf,se hm,if_neg hneg,hti,if_neg hbig,Int.toNat_natCast,if_neg hfit,Bool.not_true,Bool.false_eq_true,if_false,if_neg hb,if_neg hcap,hc2,run_askRoom,hold',hz,happ,dF]
theorem bh.drawn (hs:bh μ h w) {n:Nat}:bh μ h {w with drawn:=n}:=
 ⟨hs.lt,hs.fresh,hs.eM,fun b c s x e g=>(hs.fl b c s x e g).mono (Mp.Le.refl μ) rfl rfl rfl,hs.apart,hs.peer⟩
theorem bh.kill (hs:bh μ h w) {b:Nat} (hb: ∃y,μ.at_ b=some y):bh μ (cE h b .dead) w:=by
 have az: ∀b' x,az (cE h b .dead) b'=some x→x≠ .dead→az h b'=some x:=fun b' x hx hd=>by
  rw [jq] at hx
  split at hx
  ·cases hx;exact absurd rfl hd
  ·exact hx
 refine ⟨hs.lt,fun b' hb'=>?_,hs.eM,fun b' c s x e hx=>?_,fun b1 b2 c s1 s2 x1 x2 hne e1 e2 ho g1 g2 d1 d2=>hs.apart b1 b2 c s1 s2 x1 x2 hne e1 e2 ho (az _ _ g1 d1) (az _ _ g2 d2) d1 d2,
  fun b' c s cs n p e g=>hs.peer b' c s cs n p e (az _ _ g nofun)⟩
 ·rw [jq,if_neg ?_]
  ·exact hs.fresh b' hb'
  ·intro e;subst e
   obtain ⟨y,hy⟩:=hb
   rw [hs.lt b' hb'] at hy;cases hy
 ·by_cases hd:x= .dead
  ·subst hd;trivial
  ·exact hs.fl b' c s x e (az _ _ hx hd)
theorem bF.kill (hs:bh μ h w) {b:Nat} (hb: ∃y,μ.at_ b=some y):bF μ h w μ (cE h b .dead) w:=
 ⟨Nat.le_refl _,fun _ _=>rfl,fun _ _=>rfl,fun _ _=>rfl,Nat.le_refl _,fun _ _ _=>rfl,(fun b' _ hn=>by
  refine .inl ?_
  rw [jq,if_neg]
  intro e;subst e
  obtain ⟨y,hy⟩:=hb
  rw [hn] at hy;cases hy),rfl,rfl,rfl⟩
theorem bh.push (hs:bh μ h w) {o:Obj} {x:aC} {n:Nat} (p:eY w o w') (hsolo: ∀cs n p,x≠ .cells cs n (.pair p)) (hblk:kB (μ.ext h.next w.heap.size 0 n) w' w.heap.size 0 x):
  bh (μ.ext h.next w.heap.size 0 n) (bz h x) w'∧bF μ h w (μ.ext h.next w.heap.size 0 n) (bz h x) w':=by
 have hnone:μ.at_ h.next=none:=hs.lt _ (Nat.le_refl _)
 refine ⟨hs.yr hnone p (fun y hy=>by rw [dD] at hy;exact (Option.some.inj hy).symm) (fun b' hb'=>aE _ _ hb') (Nat.lt_succ_self _) (Nat.le_succ _) hsolo hblk,?_⟩
 refine ⟨Nat.le_succ _,fun b' hb'=>?_,fun c hc=>?_,fun c hc=>?_,by rw [p.size];omega,fun c hc _=>p.eM hc,fun b' hb' _=> .inl (aE _ _ (by omega)),p.os,p.tape,p.output⟩
 ·show (if b'=h.next then _ else _)=_;rw [if_neg (by omega)]
 ·show (if c=w.heap.size then _ else _)=_;rw [if_neg (by omega)]
 ·show (if c=w.heap.size then _ else _)=_;rw [if_neg (by omega)]
theorem yz (hs:bh μ h w) {el:TypeId} {need sz cap:Nat} {cs:List AV} {xs rest:List Value} {v:AV} (r:bg μ cs xs) (hc: ∀v ∈ cs,aI v=true) (hl:cs.length=need*sz) (hcap:need≤cap)
  (hrest:rest.length=(cap - need)*sz) (e:grown h need sz cs= .ok v h'):
  ∃μ',bF μ h w μ' h' {w with drawn:=w.drawn+1,heap:=w.heap.push (.cells (xs++rest).toArray el)}∧bh μ' h' {w with drawn:=w.drawn+1,heap:=w.heap.push (.cells (xs++rest).toArray el)}∧
   VR μ' v (.slice (some ⟨w.heap.size,0,none⟩) need cap):=by
 cases e
 have hp:eY w (.cells (xs++rest).toArray el) {w with drawn:=w.drawn+1,heap:=w.heap.push (.cells (xs++rest).toArray el)}:=⟨rfl,rfl,rfl,rfl⟩
 have hlx:=r.length
 have hsize:(xs++rest).toArray.size=cap*sz:=by
  simp [hlx,hl,hrest,←Nat.add_mul];congr 1;omega
 have hle:=oF (n:=cap*sz) hs (hs.lt h.next (Nat.le_refl _))
 have hown:(μ.ext h.next w.heap.size 0 (cap*sz)).own w.heap.size=true:=by show (if _ then _ else _)=_;rw [if_pos rfl]
 have hsz2:(μ.ext h.next w.heap.size 0 (cap*sz)).size w.heap.size=cap*sz:=by show (if _ then _ else _)=_;rw [if_pos rfl]
 have hat:(μ.ext h.next w.heap.size 0 (cap*sz)).at_ h.next=some (w.heap.size,0):=by show (if _ then _ else _)=_;rw [if_pos rfl]
 obtain ⟨h1,h2⟩:=hs.push (x:=a_ cs (Nat.mul need sz)) (n:=cap*sz) hp (fun _ _ _ e=>by cases e) (iZ hl hc hp (ee _) (fun i v hv=>by
   obtain ⟨x,hx,rx⟩:=r.get i v hv
   refine ⟨x,?_,rx⟩
   have:i < xs.length:=(List.getElem?_eq_some_iff.1 hx).1
   simp [List.getElem?_append_left this,hx]) _ hle hown (by rw [hsz2,hsize]))
 exact ⟨_,h2,h1,r_ hat (Nat.le_refl _) hcap nofun hsz2 (Nat.le_refl _)⟩
theorem bh.share (hs:bh μ h w) {b c s k n:Nat} {eM cs:List AV} {ow:Own} (hb:μ.at_ b=some (c,s)) (hg:az h b=some (.cells eM k ow)) (hro:ow≠ .ro)
  (halone: ∀b' s' x,b'≠b→μ.at_ b'=some (c,s')→az h b'=some x→x= .dead)
  {c' s':Nat} (hat: ∀b',μ'.at_ b'=if b'=h.next then some (c',s') else μ.at_ b') (hle:μ.Le μ') (hc':c'=c∨w.heap.size≤c')
  (hold: ∀b0 c0 s0 x0,μ.at_ b0=some (c0,s0)→az h b0=some x0→kB μ' w' c0 s0 x0) (hnew:kB μ' w' c' s' (.cells cs n (.pair b))) (hsize:w.heap.size≤w'.heap.size) (hlt:c' < w'.heap.size):
  bh μ' (cE (bz h (.cells cs n (.pair b))) b (.cells eM k (.pair h.next))) w':=by
 have hbn:b≠h.next:=fun e=>by rw [e,hs.lt _ (Nat.le_refl _)] at hb;cases hb
 have hbl:b < h.next:=by
  rcases Nat.lt_or_ge b h.next with hh | hh
  ·exact hh
  ·rw [hs.lt b hh] at hb;cases hb
 have g1:az (cE (bz h (.cells cs n (.pair b))) b (.cells eM k (.pair h.next))) b=some (.cells eM k (.pair h.next)):=fw _ _ _
 have g2:az (cE (bz h (.cells cs n (.pair b))) b (.cells eM k (.pair h.next))) h.next=some (.cells cs n (.pair b)):=by
  rw [aS _ _ hbn.symm,dD]
 have g3: ∀b',b'≠b→b'≠h.next→az (cE (bz h (.cells cs n (.pair b))) b (.cells eM k (.pair h.next))) b'=az h b':=fun b' h1 h2=>by
  rw [aS _ _ h1,aE _ _ h2]
 have hatb:μ'.at_ b=some (c,s):=by rw [hat,if_neg hbn];exact hb
 have hatn:μ'.at_ h.next=some (c',s'):=by rw [hat,if_pos rfl]
 have hato: ∀b' y,b'≠h.next→(μ'.at_ b'=some y ↔ μ.at_ b'=some y):=fun b' y hn=>by rw [hat,if_neg hn]
 refine ⟨fun b' hb'=>?_,fun b' hb'=>?_,fun b' c0 s0 e=>?_,fun b' c0 s0 x e hx=>?_,fun B1 B2 C0 S1 S2 X1 X2 Hne E1 E2 Ho K1 K2 D1 D2=>?_,fun b' c0 s0 cs0 n0 p e g=>?_⟩
 ·have hb':h.next+1≤b':=hb'
  rw [hat,if_neg (by omega)];exact hs.lt b' (by omega)
 ·have hb':h.next+1≤b':=hb'
  rw [g3 b' (by omega) (by omega)];exact hs.fresh b' (by omega)
 ·by_cases hn:b'=h.next
  ·subst hn;rw [hatn] at e;cases e;exact hlt
  ·have:=hs.eM b' c0 s0 ((hato b' _ hn).1 e);omega
 ·by_cases hn:b'=h.next
  ·subst hn;rw [hatn] at e;cases e;rw [g2] at hx;cases hx;exact hnew
  ·have e':=(hato b' _ hn).1 e
   by_cases hbb:b'=b
   ·subst hbb
    rw [g1] at hx;cases hx
    rw [hb] at e';cases e'
    obtain ⟨h1,h2,h3,h4⟩:=hold b' c s _ hb hg
    exact ⟨h1,h2,⟨fun _=>nofun,fun _=>h3.2 hro⟩,h4⟩
   ·rw [g3 b' hbb hn] at hx
    exact hold b' c0 s0 x e' hx
 ·-- who shares memory
  have key: ∀b1 b2 c0 s1 s2 x1 x2,b1≠b2→b1≠h.next→b1≠b→μ'.at_ b1=some (c0,s1)→μ'.at_ b2=some (c0,s2)→μ'.own c0=true→
    az (cE (bz h (.cells cs n (.pair b))) b (.cells eM k (.pair h.next))) b1=some x1→az (cE (bz h (.cells cs n (.pair b))) b (.cells eM k (.pair h.next))) b2=some x2→x1≠ .dead→x2≠ .dead→
    ∃cs n cs' n',x1= .cells cs n (.pair b2)∧x2= .cells cs' n' (.pair b1):=by
   intro b1 b2 c0 s1 s2 x1 x2 hne hn1 hb1 e1 e2 ho k1 k2 d1 d2
   have e1':=(hato b1 _ hn1).1 e1
   rw [g3 b1 hb1 hn1] at k1
   by_cases hn2:b2=h.next
   ·subst hn2
    rw [hatn] at e2;cases e2
    rcases hc' with rfl | hc'
    ·exact absurd (halone b1 s1 x1 hb1 e1' k1) d1
    ·have:=hs.eM b1 _ _ e1';omega
   ·have e2':=(hato b2 _ hn2).1 e2
    by_cases hb2:b2=b
    ·subst hb2
     rw [hb] at e2';cases e2'
     exact absurd (halone b1 s1 x1 hb1 e1' k1) d1
    ·rw [g3 b2 hb2 hn2] at k2
     have ho':μ.own c0=true:=by rw [←(hle b1 c0 s1 e1').2.2];exact ho
     exact hs.apart b1 b2 c0 s1 s2 x1 x2 hne e1' e2' ho' k1 k2 d1 d2
  by_cases hn1:B1=h.next
  ·subst hn1
   by_cases hb2:B2=b
   ·subst hb2
    rw [g2] at K1;rw [g1] at K2;cases K1;cases K2
    exact ⟨_,_,_,_,rfl,rfl⟩
   ·obtain ⟨_,_,_,_,h1,h2⟩:=key B2 h.next C0 S2 S1 X2 X1 Hne.symm Hne.symm hb2 E2 E1 Ho K2 K1 D2 D1
    exact ⟨_,_,_,_,h2,h1⟩
  ·by_cases hb1:B1=b
   ·subst hb1
    by_cases hn2:B2=h.next
    ·subst hn2
     rw [g1] at K1;rw [g2] at K2;cases K1;cases K2
     exact ⟨_,_,_,_,rfl,rfl⟩
    ·obtain ⟨_,_,_,_,h1,h2⟩:=key B2 B1 C0 S2 S1 X2 X1 Hne.symm hn2 Hne.symm E2 E1 Ho K2 K1 D2 D1
     exact ⟨_,_,_,_,h2,h1⟩
   ·exact key B1 B2 C0 S1 S2 X1 X2 Hne hn1 hb1 E1 E2 Ho K1 K2 D1 D2
 ·by_cases hn:b'=h.next
  ·subst hn;rw [g2] at g;cases g;exact ⟨_,hatb⟩
  ·by_cases hbb:b'=b
   ·subst hbb;rw [g1] at g;cases g;exact ⟨_,hatn⟩
   ·rw [g3 b' hbb hn] at g
    obtain ⟨y,hy⟩:=hs.peer b' c0 s0 cs0 n0 p ((hato b' _ hn).1 e) g
    exact ⟨y,(hle p y.1 y.2 hy).1⟩
theorem bF.share {b c s k n:Nat} {eM cs:List AV} (hs:bh μ h w) (hb:μ.at_ b=some (c,s)) {c' s':Nat} (hat: ∀b',μ'.at_ b'=if b'=h.next then some (c',s') else μ.at_ b')
  (hown: ∀c,c < w.heap.size→μ'.own c=μ.own c) (hsz: ∀c,c < w.heap.size→μ'.size c=μ.size c) (hsize:w.heap.size≤w'.heap.size)
  (hkept: ∀c,c < w.heap.size→μ.own c=false→w'.heap[c]? =w.heap[c]?) (hos:w'.os=w.os) (ht:w'.tape=w.tape) (ho:w'.output=w.output):
  bF μ h w μ' (cE (bz h (.cells cs n (.pair b))) b (.cells eM k (.pair h.next))) w':=by
 refine ⟨Nat.le_succ _,fun b' hb'=>by rw [hat,if_neg (by omega)],hown,hsz,hsize,hkept,fun b' hb' hn=> .inl ?_,hos,ht,ho⟩
 rw [aS _ _ (fun e=>by subst e;rw [hn] at hb;cases hb),aE _ _ (by omega)]
end
end Eng
end
section
set_option linter.unusedVariables false
set_option linter.unusedSimpArgs false
namespace Eng
open Go Go.RowKit
section
variable {P:Program} {μ μ':Mp} {h h':Hp} {w w':World} {t:T} {ρ:Operand→Value} {ty:TypeId}
theorem wrote {c o:Nat} {arr:Array Value} {el:TypeId} {fr:Nat×Nat} {xs:List Value} (hw:w.heap[c]? =some (.cells arr el fr)) (hun:c8 arr.size fr) (hroom:o+xs.length≤arr.size)
  (h1: ∀x ∈ xs,x.oneCell'=true): ∃w',(storeCells ⟨c,o,none⟩ xs).run P w= .ok () w'∧∃arr':Array Value,w'.heap[c]? =some (.cells arr' el fr)∧arr'.size=arr.size∧
   (∀j x,xs[j]? =some x→arr'[o+j]? =some x)∧(∀i,(i < o∨o+xs.length≤i)→arr'[i]? =arr[i]?)∧
   (∀c',c'≠c→w'.heap[c']? =w.heap[c']?)∧w'.heap.size=w.heap.size∧w'.os=w.os∧w'.tape=w.tape∧w'.output=w.output:=by
 obtain ⟨⟨arr',h2,h3⟩,h4,h5,h6,h7,h8⟩:=iF (vs:=xs) hw hroom
 have hsz2:arr'.size=arr.size:=by
  have:=congrArg List.length h3
  simp at this;omega
 refine ⟨_,gP hw hun hroom h1,arr',h2,hsz2,fun j x hx=>?_,fun i hi=>?_,h4,h5,h6,h7,h8⟩
 ·have hj:=(List.getElem?_eq_some_iff.1 hx).1
  rw [←Array.getElem?_toList,h3,List.append_assoc,List.getElem?_append_right (by simp;omega)]
  rw [List.getElem?_append_left (by simp;omega),←hx]
  congr 1;simp;omega
 ·rw [←Array.getElem?_toList,h3,List.append_assoc]
  rcases hi with hi | hi
  ·rw [List.getElem?_append_left (by simp;omega),List.getElem?_take,if_pos hi,Array.getElem?_toList]
  ·rw [List.getElem?_append_right (by simp;omega),List.getElem?_append_right (by simp;omega),List.getElem?_drop,Array.getElem?_toList]
   congr 1;simp;omega
theorem bg.yA {l:List AV} {xs:List Value} (r:bg μ l xs) (hc: ∀v ∈ l,aI v=true): ∀x ∈ xs,x.oneCell'=true:=fun x hx=>by
 have hlen:=r.length
 obtain ⟨j,hj,rfl⟩:=List.mem_iff_getElem.1 hx
 obtain ⟨v',hv'⟩: ∃v',l[j]? =some v':=⟨_,List.getElem?_eq_getElem (by omega)⟩
 obtain ⟨y,hy,ry⟩:=r.get j v' hv'
 rw [List.getElem?_eq_getElem hj] at hy
 rw [Option.some.inj hy]
 exact ry.qx (hc v' (List.mem_of_getElem? hv'))
theorem bh.alone (hs:bh μ h w) {b c s k:Nat} {eM:List AV} {ow:Own} (hb:μ.at_ b=some (c,s)) (hg:az h b=some (.cells eM k ow)) (hoc:μ.own c=true):
  ∀b' s' x,b'≠b→μ.at_ b'=some (c,s')→az h b'=some x→ow≠ .pair b'→x= .dead:=fun b' s' x hne e g hp=>by
 by_cases hd:x= .dead
 ·exact hd
 ·obtain ⟨_,_,_,_,h1,_⟩:=hs.apart b b' c s s' _ x hne.symm hb e hoc hg g nofun hd
  cases h1
  exact absurd rfl hp
def Mp.put (μ:Mp) (b c s:Nat):Mp:={μ with at_:=fun b'=>if b'=b then some (c,s) else μ.at_ b'}
theorem tw {b c s:Nat} (hb:μ.at_ b=none):μ.Le (μ.put b c s):=fun b' c' s' e=>by
 refine ⟨?_,rfl,rfl⟩
 show (if b'=b then _ else _)=_
 rw [if_neg ?_]
 ·exact e
 ·intro hh;subst hh;rw [hb] at e;cases e
theorem bh.alias (hs:bh μ h w) {c s n:Nat} {cs:List AV} (hc:c < w.heap.size) (halone: ∀b' s' x,μ.at_ b'=some (c,s')→az h b'=some x→x= .dead)
  (hold: ∀b0 c0 s0 x0,μ.at_ b0=some (c0,s0)→az h b0=some x0→kB (μ.put h.next c s) w' c0 s0 x0) (hnew:kB (μ.put h.next c s) w' c s (.cells cs n .solo)) (hsize:w'.heap.size=w.heap.size):
  bh (μ.put h.next c s) (bz h (.cells cs n .solo)) w':=by
 have hnone:μ.at_ h.next=none:=hs.lt _ (Nat.le_refl _)
 have hatn:(μ.put h.next c s).at_ h.next=some (c,s):=if_pos rfl
 have hato: ∀b',b'≠h.next→(μ.put h.next c s).at_ b'=μ.at_ b':=fun b' hn=>if_neg hn
 refine ⟨fun b' hb'=>?_,fun b' hb'=>?_,fun b' c0 s0 e=>?_,fun b' c0 s0 x e hx=>?_,fun b1 b2 c0 s1 s2 x1 x2 hne e1 e2 ho k1 k2 d1 d2=>?_,fun b' c0 s0 cs0 n0 p e g=>?_⟩
 ·have hb':h.next+1≤b':=hb'
  rw [hato _ (by omega)];exact hs.lt b' (by omega)
 ·have hb':h.next+1≤b':=hb'
  rw [aE _ _ (by omega)];exact hs.fresh b' (by omega)
 ·by_cases hn:b'=h.next
  ·subst hn;rw [hatn] at e;cases e;omega
  ·rw [hato _ hn] at e;have:=hs.eM b' c0 s0 e;omega
 ·by_cases hn:b'=h.next
  ·subst hn;rw [hatn] at e;cases e;rw [dD] at hx;cases hx;exact hnew
  ·rw [hato _ hn] at e;rw [aE _ _ hn] at hx;exact hold b' c0 s0 x e hx
 ·by_cases hn1:b1=h.next
  ·subst hn1
   rw [hatn] at e1;cases e1
   rw [hato _ hne.symm] at e2;rw [aE _ _ hne.symm] at k2
   exact absurd (halone b2 s2 x2 e2 k2) d2
  ·rw [hato _ hn1] at e1;rw [aE _ _ hn1] at k1
   by_cases hn2:b2=h.next
   ·subst hn2
    rw [hatn] at e2;cases e2
    exact absurd (halone b1 s1 x1 e1 k1) d1
   ·rw [hato _ hn2] at e2;rw [aE _ _ hn2] at k2
    exact hs.apart b1 b2 c0 s1 s2 x1 x2 hne e1 e2 ho k1 k2 d1 d2
 ·by_cases hn:b'=h.next
  ·subst hn;rw [dD] at g;cases g
  ·rw [hato _ hn] at e;rw [aE _ _ hn] at g
   obtain ⟨y,hy⟩:=hs.peer b' c0 s0 cs0 n0 p e g
   exact ⟨y,(tw hnone p y.1 y.2 hy).1⟩
theorem bF.alias (hs:bh μ h w) {c s:Nat} {x:aC} (hsize:w'.heap.size=w.heap.size) (hkept: ∀c',c'≠c→w'.heap[c']? =w.heap[c']?) (hoc:μ.own c=true) (hos:w'.os=w.os) (ht:w'.tape=w.tape) (ho:w'.output=w.output):
  bF μ h w (μ.put h.next c s) (bz h x) w':=
 ⟨Nat.le_succ _,fun b' hb'=>if_neg (by omega),fun _ _=>rfl,fun _ _=>rfl,by omega,fun c' _ hf=>hkept c' (fun e=>by rw [e,hoc] at hf;cases hf),
  fun b' hb' _=> .inl (aE _ _ (by omega)),hos,ht,ho⟩
structure RN (μ:Mp) (w:World) (b o n cp sz:Nat) (ex:Bool) (c s:Nat) (s':Addr) (cp':Nat):Prop where
 at_:μ.at_ b=some (c,s)
 len:n≤cp
 cap:cp≤cp'
 exact_:ex=true→cp'=cp
 place:cp'≠0→s'=⟨c,s+o,none⟩∧s+o+cp'*sz≤μ.size c
theorem Jq (hs:bh μ h w) {b o n cp sz c s cp' k:Nat} {s':Addr} {ex:Bool} {cs:List AV} {ow:Own} (sl:RN μ w b o n cp sz ex c s s' cp') (hg:az h b=some (.cells cs k ow)) (hle:o+n*sz≤k):
  ∃X,bg μ (part cs k o (n*sz)) X∧X.length=n*sz∧(∀v ∈ part cs k o (n*sz),aI v=true)∧
   ∀w1:World,w1.heap=w.heap→(Builtin.firstCells sz n (.slice (some s') n cp')).run P w1= .ok X.toArray w1:=by
 have e:pC h b o (n*sz) none some=some (part cs k o (n*sz)):=by
  unfold pC aW
  rw [hg]
  show bc (Nat.ble (o+n*sz) k) _ _=_
  rw [qw,if_pos hle]
 obtain ⟨l,X,h1,h2,h3,h4,h5⟩:=ou hs sl.at_ e nofun
 cases h1
 refine ⟨X,h2,h3,h4,fun w1 hw1=>?_⟩
 have hcell: ∀a,w1.cell? a=w.cell? a:=fun a=>by unfold World.cell?;rw [hw1]
 by_cases h0:cp'=0
 ·have:=sl.len;have:=sl.cap
  obtain rfl:n=0:=by omega
  have:X= [] :=List.eq_nil_of_length_eq_zero (by omega)
  subst this
  simp [Builtin.firstCells];rfl
 ·obtain ⟨rfl,_⟩:=sl.place h0
  simp only [Builtin.firstCells]
  exact cJ h3 fun j x hj=>by rw [hcell];exact h5 j x hj
theorem eZ (z:Array Value) (n:Nat):(Builtin.zeroCells z n).size=n*z.size:=by simp [Builtin.zeroCells]
structure yB (P:Program) (μ:Mp) (el:TypeId) (sz by_:Nat) (z:Value):Prop where
 pos:sz≠0
 size:cz P el=some sz
 bytes:bytesOf P el=some by_
 zero: ∀w,(zeroValue el).run P w= .ok z w
 cells:z.cells.size=sz
theorem ui (hs:bh μ h w) {st xt ret el:TypeId} {base:Option Addr} {sz by_ n m cp':Nat} {v:AV} {xz xv:Value} {A l:List AV} {X xs:List Value} (hu:P.underlying st=some (.slice el)) (hel:yB P μ el sz by_ xz)
  (ht:oH P w el xt sz m xv xs) (hgrow:cp' < n+m) (hb1:(n+m)*by_≤70368744177664) (hb2:n+m≤70368744177664)
  (hold: ∀w1:World,w1.heap=w.heap→(Builtin.firstCells sz n (.slice base n cp')).run P w1= .ok X.toArray w1)
  (rA:bg μ A X) (cA: ∀v ∈ A,aI v=true) (lA:A.length=n*sz) (rl:bg μ l xs) (cl: ∀v ∈ l,aI v=true) (ll:l.length=m*sz)
  (e:grown h (n+m) sz (app A l)= .ok v h'):lP P μ h w (Builtin.append_ #[st,xt] ret #[.slice base n cp',xv]) v h':=by
 obtain ⟨cap,hcap,hrun⟩:=ja (ret:=ret) hel.pos hu hel.size hel.bytes hel.zero ht hgrow hb1 hb2 hold
 rw [cI] at e
 obtain ⟨μ',h1,h2,h3⟩:=yz (el:=el) (cap:=cap) (xs:=X++xs) (rest:=(Builtin.zeroCells xz.cells (cap - (n+m))).toList) hs (rA.append rl)
  (fun v hv=>by rw [List.mem_append] at hv;exact hv.elim (cA v) (cl v)) (by rw [List.length_append,lA,ll,Nat.add_mul]) hcap
  (by rw [Array.length_toList,eZ,hel.cells]) e
 have harr:X.toArray++xs.toArray++Builtin.zeroCells xz.cells (cap - (n+m))=(X++xs++(Builtin.zeroCells xz.cells (cap - (n+m))).toList).toArray:=by
  apply Array.ext';simp
 rw [harr] at hrun
 exact ⟨μ',_,_,hrun,h1,h2,h3⟩
theorem uj (hs:bh μ h w) {st xt ret el:TypeId} {sz by_ b o n cp m c s cp' k:Nat} {s':Addr} {ex:Bool} {xz xv:Value} {cs l:List AV} {ow:Own} {xs:List Value} (hu:P.underlying st=some (.slice el)) (hel:yB P μ el sz by_ xz)
  (ht:oH P w el xt sz m xv xs) (sl:RN μ w b o n cp sz ex c s s' cp') (hg:az h b=some (.cells cs k ow)) (hro:ow≠ .ro) (hle:o+n*sz≤k) (hmore:cp < n+m) (hfit:n+m≤cp')
  (rl:bg μ l xs) (cl: ∀v ∈ l,aI v=true) (ll:l.length=m*sz):
  ∃w',(Builtin.append_ #[st,xt] ret #[.slice (some s') n cp',xv]).run P w= .ok (.slice (some ⟨c,s+o,none⟩) (n+m) cp') w'∧
   μ.own c=true∧s'=⟨c,s+o,none⟩∧s+o+cp'*sz≤μ.size c∧(∀c',c'≠c→w'.heap[c']? =w.heap[c']?)∧w'.heap.size=w.heap.size∧w'.os=w.os∧w'.tape=w.tape∧w'.output=w.output∧
   kB μ w' c (s+o) (.cells (app (part cs k o (n*sz)) l) ((n+m)*sz) .solo)∧(k≤o+n*sz→kB μ w' c s (.cells cs k ow)):=by
 have hc0:cp'≠0:=by have:=sl.len;omega
 obtain ⟨rfl,hroom⟩:=sl.place hc0
 obtain ⟨hl,hcell,hown,arr,ael,fr,hw,hsz,hun,aW⟩:=hs.fl b c s _ sl.at_ hg
 have hoc:μ.own c=true:=hown.2 hro
 have hlen:=rl.length
 have hmul:(n+m)*sz≤cp'*sz:=Nat.mul_le_mul_right _ hfit
 rw [Nat.add_mul] at hmul
 obtain ⟨w',hrun,arr',hw',hsz',hin,hout,hother,hsize,hos,htape,houtp⟩:=wrote (P:=P) (o:=s+o+n*sz) hw (hun hoc) (by omega) (rl.yA cl)
 have happ:=run_append_fits (P:=P) (ret:=ret) (base:=some ⟨c,s+o,none⟩) (w':=w') hel.pos hu hel.size ht hfit (by
  show (storeCells ((⟨c,s+o,none⟩:Addr).add (n*sz)) xs).run P w=_
  rw [fM];exact hrun)
 refine ⟨w',happ,hoc,rfl,hroom,hother,hsize,hos,htape,houtp,⟨?_,fun v hv=>?_,⟨fun _=>nofun,fun _=>hoc⟩,arr',ael,fr,hw',by rw [hsz'];exact hsz,fun _=>by rw [hsz'];exact hun hoc,fun i v hv=>?_⟩,
  fun hk=>⟨hl,hcell,hown,arr',ael,fr,hw',by rw [hsz'];exact hsz,fun _=>by rw [hsz'];exact hun hoc,fun i v hv=>?_⟩⟩
 ·rw [cI,List.length_append,nV hl hle,ll,Nat.add_mul,List.length_take,List.length_drop];omega
 ·rw [cI,List.mem_append,nV hl hle] at hv
  rcases hv with hv | hv
  ·exact hcell v (List.mem_of_mem_drop (List.mem_of_mem_take hv))
  ·exact cl v hv
 ·rw [cI,nV hl hle] at hv
  by_cases hi:i < n*sz
  ·rw [List.getElem?_append_left (by rw [List.length_take,List.length_drop];omega),List.getElem?_take,if_pos hi,List.getElem?_drop] at hv
   obtain ⟨y,hy,ry⟩:=aW _ _ hv
   refine ⟨y,?_,ry⟩
   rw [hout _ (.inl (by omega)),←hy];congr 1;omega
  ·rw [List.getElem?_append_right (by rw [List.length_take,List.length_drop];omega)] at hv
   obtain ⟨y,hy,ry⟩:=rl.get _ _ hv
   refine ⟨y,?_,ry⟩
   rw [←hin _ _ hy];congr 1
   rw [List.length_take,List.length_drop];omega
 ·have hi:i < k:=by have:=(List.getElem?_eq_some_iff.1 hv).1;omega
  obtain ⟨y,hy,ry⟩:=aW _ _ hv
  exact ⟨y,by rw [hout _ (.inl (by omega))];exact hy,ry⟩
theorem Jr {b n:Nat} (k:Nat):(μ.ext b k 0 n).at_ b=some (k,0):=if_pos rfl
theorem Cy (hs:bh μ h w) {st xt ret el:TypeId} {sz by_ b o n cp m c s cp':Nat} {s':Addr} {ex:Bool} {v:AV} {xz xv:Value} {l:List AV} {xs:List Value} (hu:P.underlying st=some (.slice el)) (hel:yB P μ el sz by_ xz)
  (ht:oH P w el xt sz m xv xs) (sl:RN μ w b o n cp sz ex c s s' cp') (hmore:cp < n+m) (hb1:(n+m)*by_≤70368744177664) (hb2:n+m≤70368744177664)
  (rl:bg μ l xs) (cl: ∀v ∈ l,aI v=true) (ll:l.length=m*sz) (e:more h b o n sz m ex l= .ok v h'):
  lP P μ h w (Builtin.append_ #[st,xt] ret #[.slice (some s') n cp',xv]) v h':=by
 obtain ⟨cs,k,ow,hg,e1⟩:=cL e nofun
 obtain ⟨hle,e2⟩:=b4 e1 nofun
 have hle:o+n*sz≤k:=hle
 obtain ⟨X,rA,lX,cA,hold⟩:=Jq hs sl hg hle
 obtain ⟨hl,hcell,hown,arr,ael,fr,hw,hsz,hun,aW⟩:=hs.fl b c s _ sl.at_ hg
 have lA:(part cs k o (n*sz)).length=n*sz:=by rw [←rA.length,lX]
 have grows: ∀(h0:Hp),bh μ h0 w→bF μ h w μ h0 w→¬(n+m≤cp')→grown h0 (n+m) sz (app (part cs k o (n*sz)) l)= .ok v h'→
   lP P μ h w (Builtin.append_ #[st,xt] ret #[.slice (some s') n cp',xv]) v h':=fun h0 hs0 g0 hgrow eg=>by
  obtain ⟨μ',w',y,h1,h2,h3,h4⟩:=ui hs0 hu hel ht (by omega) hb1 hb2 hold rA cA lA rl cl ll eg
  exact ⟨μ',w',y,h1,g0.trans h2,h3,h4⟩
 have hlt:c < w.heap.size:=hs.eM b c s sl.at_
 rw [fZ] at e2
 split at e2
 ·rename_i hex
  have hcp:=sl.exact_ hex
  exact grows h hs (.refl hs) (by omega) e2
 rw [dW] at e2
 have heir: ∀(h0:Hp),bh μ h0 w→bF μ h w μ h0 w→az h0 b=some (.cells cs k ow)→ow≠ .ro→(∀b' s' x,b'≠b→μ.at_ b'=some (c,s')→az h0 b'=some x→x= .dead)→
   o+n*sz=k→shared h0 b (n+m) sz cs k (app (part cs k o (n*sz)) l)= .ok v h'→
   lP P μ h w (Builtin.append_ #[st,xt] ret #[.slice (some s') n cp',xv]) v h':=fun h0 hs0 g0 hg0 hro halone hend es=>by
  have hnone:μ.at_ h0.next=none:=hs0.lt _ (Nat.le_refl _)
  cases es
  by_cases hfit:n+m≤cp'
  ·obtain ⟨w',hrun,hoc,rfl,hroom,hother,hsize,hos,htape,houtp,hnew,hback⟩:=uj (ret:=ret) hs0 hu hel ht sl hg0 hro hle hmore hfit rl cl ll
   have hleμ:=tw (c:=c) (s:=s+o) hnone
   refine ⟨μ.put h0.next c (s+o),w',_,hrun,g0.trans (bF.share hs0 sl.at_ (fun _=>rfl) (fun _ _=>rfl) (fun _ _=>rfl) (by omega) (fun c' _ hf=>hother c' (fun e=>by rw [e,hoc] at hf;cases hf)) hos htape houtp),
    bh.share hs0 sl.at_ hg0 hro halone (fun _=>rfl) hleμ (.inl rfl) (fun b0 c0 s0 x0 e0 gx=>?_) ?_ (by omega) (by omega),?_⟩
   ·by_cases hcc:c0=c
    ·subst hcc
     by_cases hbb:b0=b
     ·subst hbb
      rw [hg0] at gx;cases gx
      rw [sl.at_] at e0;cases e0
      obtain ⟨q1,q2,q3,arr',q4,q5,q6,q7,q8,q9⟩:=hback (by omega)
      exact ⟨q1,q2,q3,arr',q4,q5,q6,q7,q8,fun i v hv=>by obtain ⟨y,hy,ry⟩:=q9 i v hv;exact ⟨y,hy,ry.mono hleμ _ _⟩⟩
     ·rw [halone b0 s0 x0 hbb e0 gx];trivial
    ·exact (hs0.fl b0 c0 s0 x0 e0 gx).mono hleμ (hother c0 hcc) rfl rfl
   ·obtain ⟨q1,q2,q3,arr',q4,q5,q6,q7,q8,q9⟩:=hnew
    exact ⟨q1,q2,⟨fun _=>nofun,fun _=>hoc⟩,arr',q4,q5,q6,q7,q8,fun i v hv=>by obtain ⟨y,hy,ry⟩:=q9 i v hv;exact ⟨y,hy,ry.mono hleμ _ _⟩⟩
   ·rw [VR_slice]
    exact ⟨c,s+o,⟨c,s+o,none⟩,cp',if_pos rfl,rfl,Nat.le_refl _,hfit,nofun,fun _=>⟨rfl,hroom⟩⟩
  ·obtain ⟨cap,hcap,hrun⟩:=ja (ret:=ret) hel.pos hu hel.size hel.bytes hel.zero ht (by omega) hb1 hb2 hold
   have harr:X.toArray++xs.toArray++Builtin.zeroCells xz.cells (cap - (n+m))=(X++xs++(Builtin.zeroCells xz.cells (cap - (n+m))).toList).toArray:=by
    apply Array.ext';simp
   rw [harr] at hrun
   generalize hrest:(Builtin.zeroCells xz.cells (cap - (n+m))).toList=rest at hrun
   have lrest:rest.length=(cap - (n+m))*sz:=by rw [←hrest,Array.length_toList,eZ,hel.cells]
   have hlx:=rl.length
   have hsize:(X++xs++rest).toArray.size=cap*sz:=by
    rw [List.size_toArray,List.length_append,List.length_append,lX,hlx,ll,lrest,←Nat.add_mul,←Nat.add_mul]
    congr 1;omega
   have hleμ:=oF (n:=cap*sz) hs0 hnone
   have hp:eY w (.cells (X++xs++rest).toArray el) {w with drawn:=w.drawn+1,heap:=w.heap.push (.cells (X++xs++rest).toArray el)}:=⟨rfl,rfl,rfl,rfl⟩
   have hown2:(μ.ext h0.next w.heap.size 0 (cap*sz)).own w.heap.size=true:=if_pos rfl
   have hsz2:(μ.ext h0.next w.heap.size 0 (cap*sz)).size w.heap.size=cap*sz:=if_pos rfl
   refine ⟨μ.ext h0.next w.heap.size 0 (cap*sz),_,_,hrun,g0.trans (bF.share hs0 sl.at_ (fun _=>rfl) (fun c' hc'=>if_neg (by omega)) (fun c' hc'=>if_neg (by omega)) (by rw [hp.size];omega) (fun c' hc' _=>hp.eM hc') rfl rfl rfl),
    bh.share hs0 sl.at_ hg0 hro halone (fun _=>rfl) hleμ (.inr (Nat.le_refl _)) (fun b0 c0 s0 x0 e0 gx=>?_) ?_ (by rw [hp.size];omega) (by rw [hp.size];omega),?_⟩
   ·have hc0:=hs0.eM b0 c0 s0 e0
    exact (hs0.fl b0 c0 s0 x0 e0 gx).mono hleμ (hp.eM hc0) (if_neg (by omega)) (if_neg (by omega))
   ·refine ⟨?_,fun v hv=>?_,⟨fun _=>nofun,fun _=>hown2⟩,_,_,_,hp.new,by rw [hsz2,hsize],fun _=>ee _,fun i v hv=>?_⟩
    ·rw [cI,List.length_append,lA,ll,←Nat.add_mul];rfl
    ·rw [cI,List.mem_append] at hv
     exact hv.elim (cA v) (cl v)
    ·rw [cI] at hv
     obtain ⟨y,hy,ry⟩:=(rA.append rl).get i v hv
     refine ⟨y,?_,ry.mono hleμ _ _⟩
     have hi:=(List.getElem?_eq_some_iff.1 hy).1
     rw [Nat.zero_add,List.getElem?_toArray,List.getElem?_append_left hi];exact hy
   ·exact r_ (Jr _) (Nat.le_refl _) hcap nofun hsz2 (Nat.le_refl _)
 have takes: ∀(h0:Hp),bh μ h0 w→bF μ h w μ h0 w→ow≠ .ro→(∀b' s' x,μ.at_ b'=some (c,s')→az h0 b'=some x→x= .dead)→
   grown h0 (n+m) sz (app (part cs k o (n*sz)) l)= .ok v h'→lP P μ h w (Builtin.append_ #[st,xt] ret #[.slice (some s') n cp',xv]) v h':=fun h0 hs0 g0 hro halone es=>by
  by_cases hfit:n+m≤cp'
  ·have hnone:μ.at_ h0.next=none:=hs0.lt _ (Nat.le_refl _)
   cases es
   obtain ⟨w',hrun,hoc,rfl,hroom,hother,hsize,hos,htape,houtp,hnew,hback⟩:=uj (ret:=ret) hs hu hel ht sl hg hro hle hmore hfit rl cl ll
   have hleμ:=tw (c:=c) (s:=s+o) hnone
   refine ⟨μ.put h0.next c (s+o),w',_,hrun,g0.trans (bF.alias hs0 hsize hother hoc hos htape houtp),bh.alias hs0 hlt halone (fun b0 c0 s0 x0 e0 gx=>?_) ?_ hsize,?_⟩
   ·by_cases hcc:c0=c
    ·subst hcc
     rw [halone b0 s0 x0 e0 gx];trivial
    ·exact (hs0.fl b0 c0 s0 x0 e0 gx).mono hleμ (hother c0 hcc) rfl rfl
   ·obtain ⟨q1,q2,q3,arr',q4,q5,q6,q7,q8,q9⟩:=hnew
    exact ⟨q1,q2,⟨fun _=>nofun,fun _=>hoc⟩,arr',q4,q5,q6,q7,q8,fun i v hv=>by obtain ⟨y,hy,ry⟩:=q9 i v hv;exact ⟨y,hy,ry.mono hleμ _ _⟩⟩
   ·rw [VR_slice]
    exact ⟨c,s+o,⟨c,s+o,none⟩,cp',if_pos rfl,rfl,Nat.le_refl _,hfit,nofun,fun _=>⟨rfl,hroom⟩⟩
  ·exact grows h0 hs0 g0 hfit es
 have hbm: ∃y,μ.at_ b=some y:=⟨_,sl.at_⟩
 split at e2
 ·rename_i hend
  cases ow with
  | ro=>cases e2
  | solo=>exact heir h hs (.refl hs) hg nofun (fun b' s' x hne e g=>hs.alone sl.at_ hg (hown.2 nofun) b' s' x hne e g nofun) hend e2
  | pair p=>
    have e2:bc (Nat.beq p b) RV.no (shared (cE h p .dead) b (n+m) sz cs k (app (part cs k o (n*sz)) l))= .ok v h':=e2
    rw [dW] at e2
    split at e2
    ·cases e2
    ·rename_i hpb
     have hpm:=hs.peer b c s cs k p sl.at_ hg
     refine heir _ (hs.kill hpm) (.kill hs hpm) (by rw [aS _ _ (fun e=>hpb e.symm)];exact hg) nofun (fun b' s' x hne e g=>?_) hend e2
     rw [jq] at g
     split at g
     ·cases g;rfl
     ·rename_i hbp
      exact hs.alone sl.at_ hg (hown.2 nofun) b' s' x hne e g (fun hh=>hbp (Own.pair.inj hh).symm)
 ·cases ow with
  | ro=>cases e2
  | solo=>
    refine takes _ (hs.kill hbm) (.kill hs hbm) nofun (fun b' s' x e g=>?_) e2
    rw [jq] at g
    split at g
    ·cases g;rfl
    ·rename_i hbp
     exact hs.alone sl.at_ hg (hown.2 nofun) b' s' x hbp e g nofun
  | pair p=>
    have hpm:=hs.peer b c s cs k p sl.at_ hg
    have hs1:=hs.kill hpm
    refine takes _ (hs1.kill hbm) ((bF.kill hs hpm).trans (.kill hs1 hbm)) nofun (fun b' s' x e g=>?_) e2
    rw [jq] at g
    split at g
    ·cases g;rfl
    ·rename_i hbp
     rw [jq] at g
     split at g
     ·cases g;rfl
     ·rename_i hpp
      exact hs.alone sl.at_ hg (hown.2 nofun) b' s' x hbp e g (fun hh=>hpp (Own.pair.inj hh).symm)
theorem empty_append {st xt ret el:TypeId} {sz by_ cp':Nat} {xz xv:Value} {base:Option Addr} {n:Nat} {xs:List Value} (hu:P.underlying st=some (.slice el)) (hel:yB P μ el sz by_ xz) (ht:oH P w el xt sz 0 xv xs) (hxs:xs= []) (hn:n≤cp'):
  (Builtin.append_ #[st,xt] ret #[.slice base n cp',xv]).run P w= .ok (.slice base n cp') w:=by
 subst hxs
 have:=run_append_fits (P:=P) (ret:=ret) (w:=w) (w':=w) (base:=base) (sLen:=n) (sCap:=cp') hel.pos hu hel.size ht (by omega) (by cases base <;> rfl)
 simpa using this
theorem nq (hs:bh μ h w) {st xt ret el:TypeId} {sz by_ m:Nat} {a v:AV} {xz xv ya:Value} {l:List AV} {xs:List Value} (hu:P.underlying st=some (.slice el)) (hel:yB P μ el sz by_ xz)
  (ht:oH P w el xt sz m xv xs) (ra:VR μ a ya) (rl:bg μ l xs) (cl: ∀v ∈ l,aI v=true) (ll:l.length=m*sz) (e:cH h sz by_ a m l= .ok v h'):
  lP P μ h w (Builtin.append_ #[st,xt] ret #[ya,xv]) v h':=by
 have hlx:=rl.length
 rcases bG e nofun with ⟨rfl,e1⟩ | ⟨b,o,n,c,z,ex,rfl,e1⟩
 ·rw [VR_nilSlice] at ra;subst ra
  rw [dW] at e1
  split at e1
  ·subst m
   cases e1
   exact ⟨μ,w,_,empty_append hu hel ht (List.eq_nil_of_length_eq_zero (by omega)) (Nat.le_refl _), .refl hs,hs,by rw [VR_nilSlice]⟩
  ·rename_i hm
   obtain ⟨hb1,e2⟩:=b4 e1 nofun
   obtain ⟨hb2,e3⟩:=b4 e2 nofun
   have hb1:m*by_≤70368744177664:=hb1
   refine ui (n:=0) (A:=[]) (X:=[]) hs hu hel ht (by omega) (by rw [Nat.zero_add];exact hb1) (by omega) (fun w1 _=>by simp [Builtin.firstCells]) (by rw [aH]) (fun v hv=>by cases hv) (by simp) rl cl ll ?_
   rw [Nat.zero_add];exact e3
 ·obtain ⟨rfl,e2⟩:=dh e1 nofun
  have ra0:=ra
  rw [VR_slice] at ra
  obtain ⟨c0,s,s',cp',hb,rfl,h1,h2,h3,h4⟩:=ra
  rw [qw] at e2
  split at e2
  ·rename_i hfit
   have hfit:n+m≤c:=hfit
   rw [dW] at e2
   split at e2
   ·subst m
    cases e2
    exact ⟨μ,w,_,empty_append hu hel ht (List.eq_nil_of_length_eq_zero (by omega)) (by omega), .refl hs,hs,ra0⟩
   ·rename_i hm0
    have hc0:cp'≠0:=by omega
    obtain ⟨rfl,hroom⟩:=h4 hc0
    obtain ⟨w',k1,k2,k3,k4⟩:=qL (P:=P) hs hb rl cl ll e2
    subst k4
    have k1':(storeCells ((⟨c0,s+o,none⟩:Addr).add (n*z)) xs).run P w= .ok () w':=by
     rw [fM,Nat.add_assoc];exact k1
    refine ⟨μ,w',_,run_append_fits (base:=some ⟨c0,s+o,none⟩) hel.pos hu hel.size ht (by omega) k1',k2,k3,?_⟩
    rw [VR_slice]
    exact ⟨c0,s,⟨c0,s+o,none⟩,cp',hb,rfl,hfit,h2,h3,h4⟩
  ·rename_i hfit
   have hfit: ¬(n+m≤c):=hfit
   obtain ⟨hb1,e3⟩:=b4 e2 nofun
   obtain ⟨hb2,e4⟩:=b4 e3 nofun
   exact Cy hs hu hel ht ⟨hb,h1,h2,h3,h4⟩ (by omega) hb1 hb2 rl cl ll e4
theorem vH (hs:bh μ h w) {st xt ret:TypeId} {a x:AX} {ya xv:Value} {op:sY} {v:AV} {call:aL} (hc:fu P st xt a x= .e op) (ra:VR μ (aD a t) ya) (rx:VR μ (aD x t) xv)
  (e:rM op call t h= .ok v h'):lP P μ h w (Builtin.append_ #[st,xt] ret #[ya,xv]) v h':=by
 have plain: ∀{el:TypeId} {d:TypeDesc},P.underlying st=some (.slice el)→P.underlying xt=some d→(∀k,d≠ .int k)→
   (match cz P el,bytesOf P el,zeroOf P el with
    | some n,some m,some z=>if n=0 then no else if n=(a8 z).length then gj.e (.append n m a x) else no
    | _,_,_=>no)= .e op→lP P μ h w (Builtin.append_ #[st,xt] ret #[ya,xv]) v h':=fun {el d} hu hx hd hc=>by
  split at hc
  ·rename_i sz by_ z h1 h2 h3
   split at hc
   ·cases hc
   split at hc
   ·rename_i hpos hz
    cases hc
    obtain ⟨xz,rz,hzr⟩:=dU (μ:=μ) h3
    rw [iX] at hz
    have hcs:xz.cells.size=sz:=by have:=(rz.cells (eL h3)).length;simp at this;omega
    obtain ⟨m,l,xs,e1,r1,hl,hcell,hlen,hf⟩:=yy (P:=P) hs hpos rx (show src h sz (aD x t) .no (fun m xs=>cH h sz by_ (aD a t) m xs)= .ok v h' from e) nofun
    have hlx:=r1.length
    refine nq hs hu ⟨hpos,h1,h2,hzr,hcs⟩ (.cells d hx hd hlen fun w1 hw1=>?_) ra r1 hcell hl e1
    rw [hf m (Nat.le_refl _) w1 hw1,List.take_of_length_le (by omega)]
   ·cases hc
  ·cases hc
 unfold fu at hc
 split at hc
 ·rename_i hu hx;exact plain hu hx nofun hc
 ·rename_i hu hx;exact plain hu hx nofun hc
 ·rename_i el k hu hx
  split at hc
  ·rename_i sz by_ z h1 h2 h3
   split at hc
   ·cases hc
   split at hc
   ·rename_i hpos hz
    cases hc
    obtain ⟨xz,rz,hzr⟩:=dU (μ:=μ) h3
    rw [iX] at hz
    have rzc:=rz.cells (eL h3)
    have hcs:xz.cells.size=sz:=by have:=rzc.length;simp at this;omega
    rw [iX] at e
    have e:((aD x t).asInt RV.no fun _ n=>cG n .no fun n=>bc (Nat.ble (Nat.mul n by_) 70368744177664) (bc (Nat.ble n 70368744177664) (bc (bl aI (cellsOf z)) (cH h sz by_ (aD a t) n (eR (cellsOf z) n)) .no) .no) .no)= .ok v h':=e
    obtain ⟨k',i,hxi,e1⟩:=aR e nofun
    obtain ⟨m,rfl,e2⟩:=bC e1 nofun
    obtain ⟨hb1,e3⟩:=b4 e2 nofun
    obtain ⟨hb2,e4⟩:=b4 e3 nofun
    obtain ⟨hcell,e5⟩:=ba e4 nofun
    rw [aX] at hcell
    rw [hxi,VR_int] at rx
    have hz0:cellsOf z≠ [] :=fun hh=>by rw [hh] at hz;exact hpos hz
    have hrep:=nX rzc m hz0
    rw [←hz] at hrep
    have heq:Builtin.zeroCells xz.cells m=(Array.range (m*sz)).map (xz.cells[· % xz.cells.size]!):=by unfold Builtin.zeroCells;rw [hcs]
    rw [←heq] at hrep
    exact nq hs hu ⟨hpos,h1,h2,hzr,hcs⟩ (.zeros k k' by_ xz hx rx hb2 h2 hb1 hzr (fun h0=>by subst h0;apply List.eq_nil_of_length_eq_zero;rw [Array.length_toList,eZ,Nat.zero_mul]) (fun _=>by simp)) ra hrep
     (fun v hv=>hcell v (oq hv)) (by rw [cB,←hz]) e5
   ·cases hc
  ·cases hc
 ·cases hc
end
end Eng
end
section
set_option linter.unusedVariables false
set_option linter.unusedSimpArgs false
namespace Eng
open Go Go.RowKit
section
variable {P:Program} {μ μ':Mp} {h h':Hp} {w w':World} {t:T} {ρ:Operand→Value} {ty:TypeId}
theorem Cz (hs:bh μ h w) {ret el:TypeId} {ts:List TypeId} {sz:Nat} {d x:AX} {yd xv:Value} {v:AV} (hu:P.underlying ty=some (.slice el)) (hsz:cz P el=some sz) (hpos:sz≠0)
  (rd:VR μ (aD d t) yd) (rx:VR μ (aD x t) xv) (e:xZ sz d x t h= .ok v h'):lP P μ h w (Builtin.copy_ (ty::ts).toArray ret #[yd,xv]) v h':=by
 have e:src h sz (aD x t) RV.no (fun m xs=>(aD d t).asSlice .no (Rt 0 h) fun b o n _ z _=>bc (Nat.beq z sz) (bc (Nat.beq (cut m n) 0) (Rt 0 h)
  (K3 h b o (bc (Nat.ble m n) xs (take xs (Nat.mul n sz))) (Nat.mul (cut m n) sz) (.int .i64 (.ofNat (cut m n))))) .no)= .ok v h':=e
 obtain ⟨m,l,xs,e1,rl,hl,hcell,hlen,hf⟩:=yy (P:=P) hs hpos rx e nofun
 rcases bG e1 nofun with ⟨hd,e2⟩ | ⟨b,o,n,c,z,ex,hd,e2⟩
 ·rw [hd,VR_nilSlice] at rd;subst rd
  cases e2
  refine ⟨μ,w,goInt 0,?_, .refl hs,hs,by simp [goInt]⟩
  simp [Builtin.copy_,run_underlying hu,hlen,run_sizeOf hsz,hf 0 (Nat.zero_le _) w rfl]
 ·obtain ⟨rfl,e3⟩:=dh e2 nofun
  rw [hd,VR_slice] at rd
  obtain ⟨c0,s,s',cp',hb,rfl,h1,h2,h3,h4⟩:=rd
  rw [qz,dW] at e3
  have hmin:Nat.min m n=min m n:=rfl
  split at e3
  ·rename_i h0
   cases e3
   refine ⟨μ,w,goInt 0,?_, .refl hs,hs,by simp [goInt]⟩
   simp only [Builtin.copy_,Sem.run_bind,run_underlying hu,hlen,run_sizeOf hsz,Result.andThen_ok,Sem.run_pure,hmin,h0,hf 0 (Nat.zero_le _) w rfl,List.getElem?_toArray,List.getElem?_cons_zero,List.getElem?_cons_succ,Nat.zero_mul,List.take_zero]
   rfl
  ·rename_i h0
   have hc0:cp'≠0:=by omega
   obtain ⟨rfl,_⟩:=h4 hc0
   have hsel:bc (Nat.ble m n) l (take l (Nat.mul n z))=l.take (min m n*z):=by
    rw [qw,ir]
    split
    ·rename_i hmn;rw [Nat.min_eq_left hmn,List.take_of_length_le (by omega)]
    ·rename_i hmn;rw [Nat.min_eq_right (by omega)];rfl
   rw [hsel] at e3
   have hmz:min m n*z≤m*z:=Nat.mul_le_mul_right _ (Nat.min_le_left _ _)
   obtain ⟨w',k1,k2,k3,k4⟩:=qL (P:=P) (vs:=l.take (min m n*z)) (xs:=xs.take (min m n*z)) (m:=min m n*z) hs hb (rl.take _) (fun v hv=>hcell v (List.mem_of_mem_take hv)) (by rw [List.length_take];omega) e3
   subst k4
   refine ⟨μ,w',goInt ((min m n:Nat):Int),?_,k2,k3,by simp [goInt]⟩
   simp only [Builtin.copy_,Sem.run_bind,run_underlying hu,hlen,run_sizeOf hsz,Result.andThen_ok,Sem.run_pure,hmin,hf (min m n) (Nat.min_le_left _ _) w rfl,k1,List.getElem?_toArray,List.getElem?_cons_zero,List.getElem?_cons_succ]
theorem yC (hs:bh μ h w) {ret el:TypeId} {z:AV} {x:AX} {xv:Value} {v:AV} (hu:P.underlying ty=some (.slice el)) (hz:zeroOf P el=some z)
  (rx:VR μ (aD x t) xv) (e:tg (a8 z) x t h= .ok v h'):lP P μ h w (Builtin.clear_ #[ty] ret #[xv]) v h':=by
 have hun:VR μ undef (.tuple #[]):=nU
 rcases bG e nofun with ⟨hx,e2⟩ | ⟨b,o,n,c,s,ex,hx,e2⟩
 ·rw [hx,VR_nilSlice] at rx;subst rx
  cases e2
  exact ⟨μ,w,_,by simp [Builtin.clear_,run_underlying hu], .refl hs,hs,hun⟩
 ·rw [hx,VR_slice] at rx
  obtain ⟨c0,s0,s',cp',hb,rfl,h1,h2,h3,h4⟩:=rx
  rw [dW] at e2
  split at e2
  ·subst n
   cases e2
   exact ⟨μ,w,_,by simp [Builtin.clear_,run_underlying hu], .refl hs,hs,hun⟩
  ·rename_i h0
   obtain ⟨hls,e3⟩:=dh e2 nofun
   obtain ⟨hcell,e4⟩:=ba e3 nofun
   rw [aX] at hcell
   rw [bB] at hls
   have hc0:cp'≠0:=by omega
   obtain ⟨rfl,_⟩:=h4 hc0
   obtain ⟨xz,rz,hzr⟩:=dU (μ:=μ) hz
   have rzc:=rz.cells (eL hz)
   rw [iX] at hls hcell e4
   have hzs:xz.cells.size=s:=by have:=rzc.length;simp at this;omega
   have rr:bg μ (eR (cellsOf z) n) (Builtin.zeroCells xz.cells n).toList:=by
    by_cases hz0:cellsOf z= []
    ·have h1:eR (cellsOf z) n= [] :=List.eq_nil_of_length_eq_zero (by rw [cB,hz0];simp)
     have h2:(Builtin.zeroCells xz.cells n).toList= [] :=List.eq_nil_of_length_eq_zero (by rw [Array.length_toList,eZ,hzs,←hls,hz0];simp)
     rw [h1,h2,aH]
    ·have:=nX rzc n hz0
     unfold Builtin.zeroCells
     rw [hzs,←hls];rw [hzs,←hls] at this;exact this
   obtain ⟨w',k1,k2,k3,k4⟩:=qL (P:=P) hs hb rr (fun v hv=>hcell v (oq hv)) (by rw [cB,hls];rfl) e4
   subst k4
   refine ⟨μ,w',_,?_,k2,k3,hun⟩
   obtain ⟨n',rfl⟩: ∃n',n=n'+1:=⟨n - 1,by omega⟩
   simp [Builtin.clear_,run_underlying hu,hzr,k1]
theorem CA (hs:bh μ h w) {src dst el:TypeId} {x:AX} {xv:Value} {v:AV} (hsd:src=dst) (hu:P.underlying dst=some (.slice el)) (he:P.underlying el=some (.int .u8)) (rx:VR μ (aD x t) xv)
  (e:x6 x t h= .ok v h'):lP P μ h w (convert src dst xv) v h':=by
 subst hsd
 rcases bG e nofun with ⟨hx,e2⟩ | ⟨b,o,n,c,s,ex,hx,e2⟩
 ·cases e2
 ·obtain ⟨hc0,e2⟩:=iu e2 nofun
  obtain ⟨cs,k,ow,hg,e3⟩:=cL e2 nofun
  have hres:ow≠ .ro∧v=aD x t∧h'=h:=by
   cases ow with
   | ro=>cases e3
   | solo=>cases e3;exact ⟨nofun,rfl,rfl⟩
   | pair p=>cases e3;exact ⟨nofun,rfl,rfl⟩
  obtain ⟨hro,rfl,rfl⟩:=hres
  have rx0:=rx
  rw [hx,VR_slice] at rx
  obtain ⟨c0,s0,s',cp',hb,rfl,h1,h2,h3,h4⟩:=rx
  obtain ⟨rfl,_⟩:=h4 (by omega)
  obtain ⟨hl,hcell,hown,arr,ael,fr,hw,hsz,hun,aW⟩:=hs.fl b c0 s0 _ hb hg
  have hoc:μ.own c0=true:=hown.2 hro
  obtain ⟨fr',hfr',w',hw',hother,hsize,hrun,hos,ht,ho⟩: ∃fr',c8 arr.size fr'∧∃w':World,w'.heap[c0]? =some (.cells arr ael fr')∧(∀c',c'≠c0→w'.heap[c']? =w.heap[c']?)∧w'.heap.size=w.heap.size∧
    (convert src src (.slice (some ⟨c0,s0+o,none⟩) n cp')).run P w= .ok (.slice (some ⟨c0,s0+o,none⟩) n cp') w'∧w'.os=w.os∧w'.tape=w.tape∧w'.output=w.output:=by
   obtain ⟨lo,hi⟩:=fr
   refine ⟨if lo == hi then (arr.size,arr.size+1) else (min lo arr.size,max hi (arr.size+1)),?_,w.freeze ⟨c0,arr.size,none⟩ 1,?_,fun c' hc'=>?_,?_,?_,?_⟩
   ·split
    ·exact .inr (Nat.le_refl _)
    ·rename_i hne
     rcases hun hoc with hh | hh
     ·exact absurd (beq_iff_eq.2 hh) hne
     ·exact .inr (by have hh:arr.size≤lo:=hh;show arr.size≤min lo arr.size;omega)
   ·unfold World.freeze
    rw [if_neg (by decide)]
    simp [Array.getElem?_modify,hw]
   ·unfold World.freeze
    rw [if_neg (by decide)]
    simp only [Array.getElem?_modify]
    rw [if_neg (fun e=>hc' e.symm)]
   ·unfold World.freeze
    rw [if_neg (by decide)]
    simp
   ·have hsh:w.shape? c0=some (ael,arr.size):=by unfold World.shape?;rw [hw]
    have hmk:(markStringish ⟨c0,s0+o,none⟩).run P w= .ok () (w.freeze ⟨c0,arr.size,none⟩ 1):=by
     simp only [markStringish,Sem.run_bind,run_shape,Result.andThen_ok,hsh,run_freeze]
    simp only [convert,Sem.run_bind,run_underlying hu,Result.andThen_ok,beq_self_eq_true,run_underlying he,hmk,Sem.run_pure]
   ·unfold World.freeze
    rw [if_neg (by decide)]
    exact ⟨rfl,rfl,rfl⟩
  refine ⟨μ,w',_,hrun,⟨Nat.le_refl _,fun _ _=>rfl,fun _ _=>rfl,fun _ _=>rfl,by omega,fun c' _ hf=>hother c' (fun e=>by rw [e,hoc] at hf;cases hf),fun _ _ _=> .inl rfl,hos,ht,ho⟩,?_,rx0⟩
  refine ⟨hs.lt,hs.fresh,fun b' c' s' e=>by rw [hsize];exact hs.eM b' c' s' e,fun b' c' s' y e g=>?_,hs.apart,hs.peer⟩
  have hr:=hs.fl b' c' s' y e g
  by_cases hcc:c'=c0
  ·subst hcc
   cases y with
   | dead=>trivial
   | mp es n2 ck=>
     obtain ⟨_,_,_,es',hm,_⟩:=hr
     rw [hw] at hm;cases hm
   | cells cs2 n2 ow2=>
     obtain ⟨q1,q2,q3,arr2,q4,q5,q6,q7,q8,q9⟩:=hr
     rw [hw] at q6;cases q6
     exact ⟨q1,q2,q3,_,_,fr',hw',q7,fun _=>hfr',q9⟩
  ·exact hr.mono (Mp.Le.refl μ) (hother c' hcc) rfl rfl
theorem run_setObj_map {c ck:Nat} {es:Array MapEntry} (hw:w.heap[c]? =some (.map es ck)) (o:Obj):(setObj c o).run P w= .ok () {w with heap:=w.heap.setIfInBounds c o}:=by
 simp [setObj,Sem.run,hw]
theorem yD {c:Nat} {o:Obj} (hw:w.heap[c]? =some o):({w with heap:=w.heap.setIfInBounds c o}:World)=w:=by
 have:w.heap.setIfInBounds c o=w.heap:=by
  apply Array.ext
  ·simp
  ·intro i h1 h2
   rw [Array.getElem_setIfInBounds]
   split
   ·rename_i hci;subst hci
    have:=Array.getElem?_eq_getElem h2
    rw [hw] at this;exact Option.some.inj this
   ·rfl
 rw [this]
theorem bh.tx (hs:bh μ h w) {b c s n ck n2 ck2:Nat} {es es2:List (AV×AV×Nat)} {es2':Array MapEntry} (hb:μ.at_ b=some (c,s)) (hg:az h b=some (.mp es n ck)) (hn:es2.length=n2) (r:cC μ es2 es2'.toList):
  bh μ (cE h b (.mp es2 n2 ck2)) {w with heap:=w.heap.setIfInBounds c (.map es2' ck2)}∧bF μ h w μ (cE h b (.mp es2 n2 ck2)) {w with heap:=w.heap.setIfInBounds c (.map es2' ck2)}:=by
 obtain ⟨h1,rfl,hoc,es',hw,hes⟩:=hs.fl b c s _ hb hg
 have hother: ∀c',c'≠c→(w.heap.setIfInBounds c (.map es2' ck2))[c']? =w.heap[c']? :=fun c' hc'=>by
  rw [Array.getElem?_setIfInBounds_ne (fun e=>hc' e.symm)]
 have hlt:=hs.eM b c 0 hb
 have hself:(w.heap.setIfInBounds c (.map es2' ck2))[c]? =some (.map es2' ck2):=by
  rw [Array.getElem?_setIfInBounds_self_of_lt hlt]
 have hbl:b < h.next:=by
  rcases Nat.lt_or_ge b h.next with hh | hh
  ·exact hh
  ·rw [hs.lt b hh] at hb;cases hb
 have halone: ∀b' s' x,b'≠b→μ.at_ b'=some (c,s')→az h b'=some x→x= .dead:=fun b' s' x hne e g=>by
  by_cases hd:x= .dead
  ·exact hd
  ·obtain ⟨_,_,_,_,hh,_⟩:=hs.apart b b' c 0 s' _ x hne.symm hb e hoc hg g nofun hd
   cases hh
 refine ⟨⟨hs.lt,fun b' hb'=>?_,fun b' c' s' e=>?_,fun b' c' s' x e g=>?_,fun b1 b2 c' s1 s2 x1 x2 hne e1 e2 ho g1 g2 d1 d2=>?_,fun b' c' s' cs2 n2 p e g=>?_⟩,
  ⟨Nat.le_refl _,fun _ _=>rfl,fun _ _=>rfl,fun _ _=>rfl,by show _≤(w.heap.setIfInBounds c _).size;simp,fun c' _ hf=>hother c' (fun e=>by rw [e,hoc] at hf;cases hf),fun b' _ hn=> .inl ?_,rfl,rfl,rfl⟩⟩
 ·rw [aS _ _ (by have:h.next≤b':=hb';omega)];exact hs.fresh b' hb'
 ·show c' < (w.heap.setIfInBounds c _).size
  simp;exact hs.eM b' c' s' e
 ·by_cases hbb:b'=b
  ·subst hbb
   rw [fw] at g;cases g
   rw [hb] at e;cases e
   exact ⟨hn,rfl,hoc,es2',hself,r⟩
  ·rw [aS _ _ hbb] at g
   by_cases hcc:c'=c
   ·subst hcc;rw [halone b' s' x hbb e g];trivial
   ·exact (hs.fl b' c' s' x e g).mono (Mp.Le.refl μ) (hother c' hcc) rfl rfl
 ·by_cases hb1:b1=b
  ·subst hb1
   rw [aS _ _ hne.symm] at g2
   rw [hb] at e1;cases e1
   exact absurd (halone b2 s2 x2 hne.symm e2 g2) d2
  ·rw [aS _ _ hb1] at g1
   by_cases hb2:b2=b
   ·subst hb2
    rw [hb] at e2;cases e2
    exact absurd (halone b1 s1 x1 hb1 e1 g1) d1
   ·rw [aS _ _ hb2] at g2
    exact hs.apart b1 b2 c' s1 s2 x1 x2 hne e1 e2 ho g1 g2 d1 d2
 ·by_cases hbb:b'=b
  ·subst hbb;rw [fw] at g;cases g
  ·rw [aS _ _ hbb] at g;exact hs.peer b' c' s' cs2 n2 p e g
 ·exact aS _ _ (fun e=>by subst e;rw [hb] at hn;cases hn)
theorem nr {x y:AV} {β:Type} {z:β} {k:Bool→β} (e:fL x y true (fun b=>b)=false):fL x y z k=k false:=by
 unfold fL at *
 cases x
 case int i a=>
  cases y
  case int j b=>
   have e:bc (bj i j) (jW a b) true=false:=e
   show bc (bj i j) (k (jW a b)) z=k false
   cases hij:bj i j
   ·rw [hij] at e;cases e
   ·rw [hij] at e
    have e:jW a b=false:=e
    rw [e];rfl
  all_goals cases e
 case str a=>
  cases y
  case str b=>
   have e:fp a b=false:=e
   show k (fp a b)=_
   rw [e]
  all_goals cases e
 all_goals cases e
theorem oI {x:AV} {β:Type} {z:β} {k:Bool→β} (hk:isKey x=true):fL x x z k=k true:=by
 rcases kr hk with ⟨i,n,rfl⟩ | ⟨s,rfl⟩
 ·show bc (bj i i) (k (jW n n)) z=_
  have:bj i i=true:=by cases i <;> rfl
  rw [this,dE];simp [bc]
 ·show k (fp s s)=_
  rw [eK];simp
theorem yE {x v:AV} (hx:isKey x=true): ∀{es:List (AV×AV×Nat)} {j:Nat} {u:AV} {n:Nat},es[j]? =some (x,u,n)→(∀j',j' < j→∀(k' v:AV) (n:Nat),es[j']? =some (k',v,n)→fL x k' true (fun b=>b)=false)→
  ins x v es=es.set j (x,v,n)
 | [],j,u,n,e,_=>by simp at e
 | (k1,v1,n1)::es,0,u,n,e,_=>by
   simp at e
   obtain ⟨rfl,rfl,rfl⟩:=e
   show fL k1 k1 _ (fun b=>bc b ((k1,v,n1)::es) ((k1,v1,n1)::ins k1 v es))=_
   rw [oI hx];rfl
 | (k1,v1,n1)::es,j+1,u,n,e,hlt=>by
   show fL x k1 _ (fun b=>bc b ((x,v,n1)::es) ((k1,v1,n1)::ins x v es))=_
   rw [nr (hlt 0 (by omega) k1 v1 n1 rfl),yE hx (by simpa using e) (fun j' hj' k' v n hh=>hlt (j'+1) (by omega) k' v n (by simpa using hh))]
   rfl
theorem del_eq {x:AV} (hx:isKey x=true): ∀{es:List (AV×AV×Nat)} {j:Nat} {u:AV} {n:Nat},es[j]? =some (x,u,n)→(∀j',j' < j→∀(k' v:AV) (n:Nat),es[j']? =some (k',v,n)→fL x k' true (fun b=>b)=false)→
  del x es=es.eraseIdx j
 | [],j,u,n,e,_=>by simp at e
 | (k1,v1,n1)::es,0,u,n,e,_=>by
   simp at e
   obtain ⟨rfl,rfl,rfl⟩:=e
   show fL k1 k1 _ (fun b=>bc b es ((k1,v1,n1)::del k1 es))=_
   rw [oI hx];rfl
 | (k1,v1,n1)::es,j+1,u,n,e,hlt=>by
   show fL x k1 _ (fun b=>bc b es ((k1,v1,n1)::del x es))=_
   rw [nr (hlt 0 (by omega) k1 v1 n1 rfl),del_eq hx (by simpa using e) (fun j' hj' k' v n hh=>hlt (j'+1) (by omega) k' v n (by simpa using hh))]
   rfl
theorem yF {a:AV} {x y:Value} (hg:isKey a=true) (rx:VR μ a x) (ry:VR μ a y):x=y∧Instr.sameBits 10000 x y=true:=by
 rcases kr hg with ⟨i,n,rfl⟩ | ⟨s,rfl⟩
 ·rw [VR_int] at rx ry;subst rx;subst ry
  exact ⟨rfl,by simp [Instr.sameBits]⟩
 ·rw [VR_str] at rx ry
  obtain ⟨p,rfl,rfl⟩:=rx
  obtain ⟨q,rfl,hq⟩:=ry
  have:=eX hq
  subst this
  exact ⟨rfl,by simp [Instr.sameBits,beq_toListBytes]⟩
theorem lR (hs:bh μ h w) {kt el:TypeId} {s:Bool} {m k x:AX} {ym yk yx:Value} {v:AV} (hu:P.underlying ty=some (.map kt el)) (hk:pY P kt=some s) (rm:VR μ (aD m t) ym) (rk:VR μ (aD k t) yk) (rx:VR μ (aD x t) yx)
  (e:kX s m k x t h= .ok v h'):K4 P μ h w (do Instr.mapUpdate ty ym yk yx;pure .skip) v h':=by
 obtain ⟨hg,e1⟩:=ba e nofun
 obtain ⟨d,hd,hkt⟩:=p8 hk
 have hck:=fun b w=>run_checkKey (P:=P) (μ:=μ) hd hkt hg rk b w
 rcases gG e1 nofun with ⟨_,e2⟩ | ⟨b,hm,e2⟩
 ·cases e2
 rw [hm,VR_map] at rm
 obtain ⟨c,s0,hb,rfl⟩:=rm
 have e2:om h b RV.no (fun es n c=>look (aD k t) es .no fun r=>aA (.ok undef (cE h b (.mp (app es [(aD k t,aD x t,c)]) (Nat.succ n) (Nat.succ c))))
  (fun _=> .ok undef (cE h b (.mp (ins (aD k t) (aD x t) es) n c))) r)= .ok v h':=e2
 obtain ⟨es,n,ck,az,e3⟩:=iW e2 nofun
 obtain ⟨hn,_,_,es',hw,hlen,hes⟩:=hs.map hb az
 have hik:=kL hg
 rcases js hkt rk hg 0 hlen hes e3 nofun with ⟨h1,h2,_⟩ | ⟨j,k',u,n',en,h5,h6,_,h7,rfl,h8,h9,h10⟩
 ·cases h1
  rw [cI]
  obtain ⟨k1,k2⟩:=hs.tx (es2:=es++ [(aD k t,aD x t,ck)]) (es2':=es'.push {key:=yk,val:=yx,born:=ck}) (n2:=n+1) (ck2:=ck+1) hb az (by simp [hn]) (by
   refine ⟨by simp at hlen ⊢;omega,fun i k0 v0 n0 hi=>?_⟩
   rw [Array.toList_push]
   rcases Nat.lt_or_ge i es.length with hil | hil
   ·rw [List.getElem?_append_left hil] at hi
    obtain ⟨q1,e,q2,q3⟩:=hes i k0 v0 n0 hi
    exact ⟨q1,e,by rw [List.getElem?_append_left (by omega)];exact q2,q3⟩
   ·rw [List.getElem?_append_right hil] at hi
    obtain rfl:i=es.length:=by
     have:=(List.getElem?_eq_some_iff.1 hi).1
     simp at this;omega
    simp at hi
    obtain ⟨rfl,rfl,rfl⟩:=hi
    refine ⟨hik,{key:=yk,val:=yx,born:=ck},?_,rk,rx,rfl⟩
    rw [List.getElem?_append_right (by omega),hlen];simp)
  refine ⟨μ,_, .skip,?_,k2,k1, .inr ⟨rfl,rfl⟩⟩
  simp only [Instr.mapUpdate,Sem.run_bind,run_underlying hu,run_getObj_map hw,hck,Instr.findKey,run_underlying hd,h2,Result.andThen_ok,Sem.run_pure,run_setObj_map hw]
 ·cases h8
  rw [yE hik h5 h10]
  obtain ⟨hkk,hbits⟩:=yF hik h7 rk
  have hj:j < es'.size:=by have:=(List.getElem?_eq_some_iff.1 h6).1;simpa using this
  obtain ⟨k1,k2⟩:=hs.tx (es2:=es.set j (aD k t,aD x t,n')) (es2':=es'.modify j fun e=>{e with key:=yk,val:=yx}) (n2:=n) (ck2:=ck) hb az (by simp [hn]) (by
   refine ⟨by simp at hlen ⊢;omega,fun i k0 v0 n0 hi=>?_⟩
   rw [Array.getElem?_toList,Array.getElem?_modify]
   rw [List.getElem?_set] at hi
   split at hi
   ·rename_i hji
    subst hji
    split at hi
    ·simp at hi
     obtain ⟨rfl,rfl,rfl⟩:=hi
     rw [if_pos rfl,←Array.getElem?_toList,h6]
     obtain ⟨_,e0,q2,_,_,q5⟩:=hes j _ _ _ h5
     rw [h6] at q2;cases q2
     exact ⟨hik,_,rfl,rk,rx,q5⟩
    ·cases hi
   ·rename_i hji
    rw [if_neg hji,←Array.getElem?_toList]
    exact hes i k0 v0 n0 hi)
  refine ⟨μ,_, .skip,?_,k2,k1, .inr ⟨rfl,rfl⟩⟩
  have hkey:((es'[j]?).map (·.key)).getD yk=en.key:=by
   rw [←Array.getElem?_toList,h6];rfl
  simp only [Instr.mapUpdate,Sem.run_bind,run_underlying hu,run_getObj_map hw,hck,Instr.findKey,run_underlying hd,h9,Result.andThen_ok,Sem.run_pure,run_setObj_map hw,Instr.keyThatStays,Nat.zero_add,hkey,Sem.run_ite,if_pos hbits]
theorem qa (hs:bh μ h w) {kt el ret:TypeId} {ts:List TypeId} {d:TypeDesc} {s:Bool} {m k:AX} {ym yk:Value} {v:AV} (hu:P.underlying ty=some (.map kt el)) (hd:P.underlying kt=some d) (hkt:yo P s d) (rm:VR μ (aD m t) ym) (rk:VR μ (aD k t) yk)
  (e:qu s m k t h= .ok v h'):lP P μ h w (Builtin.delete_ (ty::ts).toArray ret #[ym,yk]) v h':=by
 have hun:VR μ undef (.tuple #[]):=nU
 obtain ⟨hg,e1⟩:=ba e nofun
 have hck:=fun b w=>run_checkKey (P:=P) (μ:=μ) hd hkt hg rk b w
 rcases gG e1 nofun with ⟨hm,e2⟩ | ⟨b,hm,e2⟩
 ·cases e2
  rw [hm,VR_nilMap] at rm;subst rm
  refine ⟨μ,w,_,?_, .refl hs,hs,hun⟩
  simp [Builtin.delete_,run_underlying hu,hck]
 rw [hm,VR_map] at rm
 obtain ⟨c,s0,hb,rfl⟩:=rm
 obtain ⟨es,n,ck,az,e3⟩:=iW e2 nofun
 obtain ⟨hn,_,_,es',hw,hlen,hes⟩:=hs.map hb az
 have hik:=kL hg
 rcases js hkt rk hg 0 hlen hes e3 nofun with ⟨h1,h2,_⟩ | ⟨j,k',u,n',en,h5,h6,_,h7,rfl,h8,h9,h10⟩
 ·cases h1
  refine ⟨μ,w,_,?_, .refl hs,hs,hun⟩
  simp only [Builtin.delete_,Sem.run_bind,run_underlying hu,run_getObj_map hw,hck,Instr.findKey,run_underlying hd,h2,Result.andThen_ok,Sem.run_pure,run_setObj_map hw,yD hw,List.getElem?_toArray,List.getElem?_cons_zero,List.getElem?_cons_succ]
 ·cases h8
  rw [del_eq hik h5 h10]
  have hj:j < es.length:=(List.getElem?_eq_some_iff.1 h5).1
  obtain ⟨k1,k2⟩:=hs.tx (es2:=es.eraseIdx j) (es2':=es'.eraseIdxIfInBounds j) (n2:=n - 1) (ck2:=ck) hb az (by rw [List.length_eraseIdx,if_pos hj,hn]) (by
   have ht:(es'.eraseIdxIfInBounds j).toList=es'.toList.eraseIdx j:=by
    simp
   rw [ht]
   refine ⟨by rw [List.length_eraseIdx,List.length_eraseIdx,hlen],fun i k0 v0 n0 hi=>?_⟩
   rw [List.getElem?_eraseIdx] at hi ⊢
   split at hi
   ·rw [if_pos (by assumption)];exact hes i k0 v0 n0 hi
   ·rw [if_neg (by assumption)];exact hes (i+1) k0 v0 n0 hi)
  refine ⟨μ,_,_,?_,k2,k1,hun⟩
  simp only [Builtin.delete_,Sem.run_bind,run_underlying hu,run_getObj_map hw,hck,Instr.findKey,run_underlying hd,h9,Result.andThen_ok,Sem.run_pure,run_setObj_map hw,Nat.zero_add,List.getElem?_toArray,List.getElem?_cons_zero,List.getElem?_cons_succ]
end
end Eng
end
section
set_option linter.unusedVariables false
set_option linter.unusedSimpArgs false
namespace Eng
open Go Go.RowKit
section
variable {P:Program} {μ μ':Mp} {h h':Hp} {w w':World} {t:T} {ρ:Operand→Value} {ty:TypeId}
theorem bg.two {a b:AV} {l:List Value} (r:bg μ [a,b] l): ∃x y,l= [x,y]∧VR μ a x∧VR μ b y:=by
 rw [aJ] at r
 obtain ⟨x,xs,rfl,rx,r⟩:=r
 rw [aJ] at r
 obtain ⟨y,ys,rfl,ry,r⟩:=r
 rw [aH] at r;subst r
 exact ⟨x,y,rfl,rx,ry⟩
theorem bg.one {a:AV} {l:List Value} (r:bg μ [a] l): ∃x,l= [x]∧VR μ a x:=by
 rw [aJ] at r
 obtain ⟨x,xs,rfl,rx,r⟩:=r
 rw [aH] at r;subst r
 exact ⟨x,rfl,rx⟩
theorem sf (hs:bh μ h w) {b:Builtin} {ts:Array TypeId} {ret:TypeId} {cs:Array Bool} {asq:Array Operand} {xs:List AX} {op:sY} {v:AV} {call:aL} (hc:dz P b ts.toList xs= .e op)
  (r:bg μ (eS xs t) (asq.map ρ).toList) (e:rM op call t h= .ok v h'):K4 P μ h w (builtin b ts ret cs (asq.map ρ)) v h':=by
 generalize asq.map ρ=vs at r
 obtain ⟨ts⟩:=ts
 obtain ⟨vs⟩:=vs
 simp only [] at hc r
 unfold dz at hc
 split at hc
 ·-- append
  rename_i st xt s x
  obtain ⟨ys,yx,rfl,rs,rx⟩:=r.two
  exact (vH hs hc rs rx e).i_
 ·-- len
  unfold lG at hc
  repeat' (split at hc)
  all_goals (cases hc;done)
 ·-- cap
  split at hc <;> cases hc
 ·-- copy
  rename_i dt ts d s
  obtain ⟨yd,ys,rfl,rd,rs⟩:=r.two
  split at hc
  ·rename_i el hu
   split at hc
   ·rename_i n hn
    split at hc
    ·cases hc
    ·rename_i hpos
     cases hc
     exact (Cz hs hu hn hpos rd rs e).i_
   ·cases hc
  ·cases hc
 ·-- delete
  rename_i t0 ts m k
  obtain ⟨ym,yk,rfl,rm,rk⟩:=r.two
  split at hc
  ·rename_i kt el hu
   split at hc
   ·rename_i ik hd;cases hc;exact (qa hs hu hd (.inl ⟨rfl,_,rfl⟩) rm rk e).i_
   ·rename_i hd;cases hc;exact (qa hs hu hd (.inr ⟨rfl,rfl⟩) rm rk e).i_
   ·cases hc
  ·cases hc
 ·cases hc
 ·cases hc
 ·-- clear
  rename_i t0 x
  obtain ⟨yx,rfl,rx⟩:=r.one
  split at hc
  ·rename_i el hu
   split at hc
   ·rename_i z hz;cases hc;exact (yC hs hu hz rx e).i_
   ·cases hc
  ·cases hc
 ·cases hc
theorem qb (hs:bh μ h w) {o:Oper} {op:sY} (hc:bV P o.op= .e op) (hnc: ∀f xs,op≠ .call f xs) (hx:f_ μ t ρ o.op.operands.toList) {v:AV} {call:aL} (e:rM op call t h= .ok v h'):K4 P μ h w (execOp ρ o) v h':=by
 unfold execOp
 generalize o.op=q at *
 generalize o.type=oty at *
 cases q
 case store ty a x=>
  obtain ⟨a',x',ha,hb,e1⟩:=c_ hc nofun
  have ra:=hx a (by simp [Op.operands]) a' ha
  have rb:=hx x (by simp [Op.operands]) x' hb
  split at e1
  ·rename_i n hn;cases e1;exact yw hs hn ra rb e
  ·cases e1
 case mapUpdate ty m k x=>
  obtain ⟨m',k',x',hm,hk,hb,e1⟩:=iY hc nofun
  have rm:=hx m (by simp [Op.operands]) m' hm
  have rk:=hx k (by simp [Op.operands]) k' hk
  have rb:=hx x (by simp [Op.operands]) x' hb
  unfold bX at e1
  split at e1
  ·rename_i kt el hu
   split at e1
   ·rename_i s hs';cases e1;exact lR hs hu hs' rm rk rb e
   ·cases e1
  ·cases e1
 case insert ty m k x=>
  obtain ⟨m',k',x',hm,hk,hb,e1⟩:=iY hc nofun
  have rm:=hx m (by simp [Op.operands]) m' hm
  have rk:=hx k (by simp [Op.operands]) k' hk
  have rb:=hx x (by simp [Op.operands]) x' hb
  unfold bX at e1
  split at e1
  ·rename_i kt el hu
   split at e1
   ·rename_i s hs';cases e1;exact lR hs hu hs' rm rk rb e
   ·cases e1
  ·cases e1
 case convert s d x=>
  obtain ⟨a,ha,e1⟩:=bm hc nofun
  have ra:=hx x (by simp [Op.operands]) a ha
  unfold iS at e1
  split at e1
  ·cases e1
  ·split at e1 <;> cases e1
  ·split at e1 <;> cases e1
  ·rename_i el0 el h1 h2
   split at e1
   ·rename_i hsd
    split at e1
    ·rename_i h3;cases e1;exact (CA hs hsd h2 h3 ra e).i_
    ·cases e1
   ·cases e1
  ·cases e1
 case call c=>
  have hc:eP P c= .e op:=hc
  unfold eP at hc
  split at hc
  ·rename_i b hb
   split at hc
   ·rename_i xs hxs
    have r:=fB hxs hx (fun x hx=>by simp [Op.operands,Call.operands,hb];simpa using hx)
    obtain ⟨μ',w',n,h1,rest⟩:=sf (ret:=oty) (cs:=c.args.map fun | .const _=>true | _=>false) hs hc r e
    refine ⟨μ',w',n,?_,rest⟩
    simp only [resolve,hb,Sem.run_bind,Sem.run_pure,Result.andThen_ok,invoke]
    exact h1
   ·cases hc
  ·repeat' (split at hc)
   ·cases hc;exact absurd rfl (hnc _ _)
   ·cases hc
  ·cases hc
 case binOp bo ty x y yt=>
  exfalso
  have h1: ∀neg (a b:AX),iD P neg ty a b≠ .e op:=fun neg a b=>by
   unfold iD
   repeat' split
   all_goals nofun
  cases bo <;> simp only [bV,fo,dV] at hc <;> repeat' (split at hc)
  all_goals first | (cases hc;done) | exact h1 _ _ _ hc
 all_goals
  exfalso
  simp only [bV,dV,fo,pZ,fv,bE,c9,dA,iT,dZ,iU,d_,iV,gK,bX,no] at hc
  repeat' (split at hc)
  all_goals (cases hc;done)
theorem sh {q:Op} {f:AX} {xs:List AX} (hc:bV P q= .e (.call f xs)): ∃c g,q= .call c∧c.callee= .value g∧dY g=some f∧fV c.args.toList=some xs:=by
 cases q
 case call c=>
  have hc:eP P c= .e (.call f xs):=hc
  unfold eP at hc
  split at hc
  ·exfalso
   split at hc
   ·unfold dz at hc
    split at hc
    ·unfold fu at hc;repeat' (split at hc)
     all_goals (cases hc;done)
    ·unfold lG at hc;repeat' (split at hc)
     all_goals (cases hc;done)
    all_goals first | (cases hc;done) | (repeat' (split at hc)) <;> (cases hc;done)
   ·cases hc
  ·rename_i g hg
   split at hc
   ·rename_i h1 h2;cases hc;exact ⟨c,g,rfl,hg,h1,h2⟩
   ·cases hc
  ·cases hc
 case binOp bo ty x y yt=>
  exfalso
  have h1: ∀neg (a b:AX),iD P neg ty a b≠ .e (.call f xs):=fun neg a b=>by
   unfold iD
   repeat' split
   all_goals nofun
  cases bo <;> simp only [bV,fo,dV] at hc <;> repeat' (split at hc)
  all_goals first | (cases hc;done) | exact h1 _ _ _ hc
 all_goals
  exfalso
  simp only [bV,dV,fo,pZ,fv,bE,c9,dA,iT,dZ,iU,d_,iV,gK,bX,iS,no] at hc
  repeat' (split at hc)
  all_goals (cases hc;done)
end
end Eng
end
section
set_option linter.unusedVariables false
set_option linter.unusedSimpArgs false
namespace Eng
open Go Go.RowKit
def TR (μ:Mp) (t:T) (tmps:Array Value):Prop:= ∀i,VR μ (aD (.tmp i) t) (tmps.getD i Go.undef)
section
variable {P:Program} {μ μ':Mp} {h h':Hp} {w w':World} {t t':T} {a:Act}
theorem gQ:VR μ undef Go.undef:=by
 show VR μ (.tuple []) (.tuple #[])
 exact nU
theorem TR.mono (r:TR μ t a.tmps) (hle:μ.Le μ'):TR μ' t a.tmps:=fun i=>(r i).mono hle
theorem TR.put (r:TR μ t a.tmps) {d:Option Nat} {v:AV} {y:Value} (rv:VR μ v y) (hd: ∀i,d=some i→i < a.tmps.size):TR μ (dx d v t) (a.put d y).tmps:=by
 cases d with
 | none=>exact r
 | some d=>
   intro i
   have hlt:=hd d rfl
   show VR μ (aD (.tmp i) (dQ (pathOf d) v t)) ((a.tmps.setIfInBounds d y).getD i Go.undef)
   rw [dg]
   by_cases hi:i=d
   ·subst hi
    rw [cu]
    have:(a.tmps.setIfInBounds i y).getD i Go.undef=y:=by
     rw [Array.getD_eq_getD_getElem?,Array.getElem?_setIfInBounds_self_of_lt hlt];rfl
    rw [this];exact rv
   ·rw [bp _ _ _ _ (fun e=>hi (bQ e)),←dg]
    have:(a.tmps.setIfInBounds d y).getD i Go.undef=a.tmps.getD i Go.undef:=by
     rw [Array.getD_eq_getD_getElem?,Array.getD_eq_getD_getElem?,Array.getElem?_setIfInBounds_ne (fun e=>hi e.symm)]
    rw [this];exact r i
theorem fN {d:Option Nat} {y:Value}:(a.put d y).tmps.size=a.tmps.size:=by cases d <;> simp [Act.put]
theorem put_defers {d:Option Nat} {y:Value}:(a.put d y).defers=a.defers:=by cases d <;> rfl
theorem oJ {l:List Operand} (r: ∀d,Operand.tmp d ∈ l→VR μ (aD (.tmp d) t) (a.tmps.getD d Go.undef)):f_ μ t a.eval l:=fun x hm ax hx=>by
 cases x with
 | tmp i=>cases hx;exact r i hm
 | const v=>
   have hx:(gk v).map AX.const=some ax:=hx
   cases hc:gk v with
   | none=>rw [hc] at hx;cases hx
   | some c=>rw [hc] at hx;cases hx;exact (ov hc).1
 | func f=>
   cases hx
   rw [evX_const,VR_func]
   exact ⟨#[], #[],rfl,by rw [aH],by rw [aH]⟩
 | global g=>cases hx
theorem TR.oK (r:TR μ t a.tmps) (l:List Operand):f_ μ t a.eval l:=oJ fun d _=>r d
structure At (μ0:Mp) (h0:Hp) (w0:World) (n:Nat) (t:T) (h:Hp) (a:Act) (w:World):Prop where
 ex: ∃μ,TR μ t a.tmps∧bh μ h w∧bF μ0 h0 w0 μ h w
 defers:a.defers= []
 size:a.tmps.size=n
def gR (μ:Mp) (h:Hp) (w:World) (v:AV) (h':Hp):Ending→World→Prop:=fun e w'=> ∃μ' y,e= .returned y∧VR μ' v y∧bh μ' h' w'∧bF μ h w μ' h' w'
def Enters (P:Program) (f:Nat):Prop:= ∃fn c,P.funcs[f]? =some fn∧fn.name≠ "runtime.NumGoroutine" ∧fn.body=some c
def Good (P:Program) (call:aL):Prop:= ∀f args h v h' μ w (cargs:Array Value),call f args h= .ok v h'→bh μ h w→bg μ args cargs.toList→Enters P f∧Calls P f cargs w (gR μ h w v h')
theorem lS {f:Nat} (he:Enters P f) (args:Array Value):(callFunc f args).run P w= .ok (.enter f args) w:=by
 obtain ⟨fn,c,h1,h2,h3⟩:=he
 simp [callFunc,run_program,h1,h2,h3]
theorem uk {r:RV} {k:AV→Hp→RT} {t':T} (e:r.then k= .ok t' h'): ∃v h1,r= .ok v h1∧k v h1= .ok t' h':=by
 cases r with
 | no=>cases e
 | ok v h1=>exact ⟨v,h1,rfl,e⟩
theorem um {r:OV} {k:AV→RT} {t':T} (e:r.then k= .ok t' h'): ∃v,r= .ok v∧k v= .ok t' h':=by
 cases r with
 | no=>cases e
 | ok v=>exact ⟨v,rfl,e⟩
theorem uo {r:OL} {k:MK→aC→RT} {t':T} (e:r.then k= .ok t' h'): ∃m x,r= .ok m x∧k m x= .ok t' h':=by
 cases r with
 | no=>cases e
 | ok m x=>exact ⟨m,x,rfl,e⟩
theorem uq {r:RT} {k:T→Hp→RT} {t':T} (e:r.then k= .ok t' h'): ∃t1 h1,r= .ok t1 h1∧k t1 h1= .ok t' h':=by
 cases r with
 | no=>cases e
 | ok t1 h1=>exact ⟨t1,h1,rfl,e⟩
theorem si {l:xQ} {k:MK} {x:aC} (e:nK l t= .ok k x): ∀cs n p,x≠ .cells cs n (.pair p):=by
 have hm: ∀{cs:List AV} {n:Nat},∀cs' n' p,a_ cs n≠ .cells cs' n' (.pair p):=fun cs' n' p hh=>by cases hh
 cases l with
 | alloc z=>obtain ⟨_,e1⟩:=ba (show bc (bl aI z) (OL.ok .ptr (a_ z (len z))) .no= .ok k x from e) nofun;cases e1;exact hm
 | box a=>obtain ⟨_,e1⟩:=ba (show bc (bl aI (cellsOf (aD a t))) (OL.ok .ptr (a_ (cellsOf (aD a t)) (len (cellsOf (aD a t))))) .no= .ok k x from e) nofun;cases e1;exact hm
 | buildSlice sz n z ps=>
   obtain ⟨cs,_,e1⟩:=bd (show aA OL.no (fun cs=>bc (bl aI cs) (OL.ok (.sl n n sz true) (a_ cs (Nat.mul n sz))) .no) (eJ ps t (Nat.mul n sz) (eR z n))= .ok k x from e) nofun
   obtain ⟨_,e2⟩:=ba e1 nofun;cases e2;exact hm
 | toBytes a=>obtain ⟨s,_,e1⟩:=cv (show ((aD a t).cZ OL.no fun s=> .ok (.sl (len s) (len s) 1 false) (a_ (nb s) (len s)))= .ok k x from e) nofun;cases e1;exact hm
 | makeMap=>cases e;intro _ _ _ hh;cases hh
 | makeSlice sz by_ z l c=>
   obtain ⟨_,_,_,e1⟩:=aR (show ((aD l t).asInt OL.no fun _ l=>(aD c t).asInt .no fun _ c=>cG l .no fun l=>cG c .no fun c=>
    bc (bl aI z) (bc (Nat.ble l c) (bc (Nat.ble (Nat.mul c by_) 70368744177664) (bc (Nat.ble c 70368744177664)
     (.ok (.sl l c sz true) (a_ (eR z c) (Nat.mul c sz))) .no) .no) .no) .no)= .ok k x from e) nofun
   obtain ⟨_,_,_,e2⟩:=aR e1 nofun
   obtain ⟨_,_,e3⟩:=bC e2 nofun
   obtain ⟨_,_,e4⟩:=bC e3 nofun
   obtain ⟨_,e5⟩:=ba e4 nofun
   obtain ⟨_,e6⟩:=ba e5 nofun
   obtain ⟨_,e7⟩:=ba e6 nofun
   obtain ⟨_,e8⟩:=ba e7 nofun
   cases e8;exact hm
theorem LA {call:aL} (av:Good P call) {μ0:Mp} {h0:Hp} {w0:World} {n:Nat} {o:Oper} (hd: ∀i,o.dst=some i→i < n) {t1:T} {h1:Hp} (e:vt (bV P o.op) o.dst call t h= .ok t1 h1)
  (st:At μ0 h0 w0 n t h a w) {next:Act→World→Prop} {Q:Exit→Act→World→Prop} (hn: ∀a' w',At μ0 h0 w0 n t1 h1 a' w'→next a' w'):o.wp P a w next Q:=by
 obtain ⟨⟨μ,r,hs,g⟩,hdef,hsz⟩:=st
 have hd': ∀i,o.dst=some i→i < a.tmps.size:=fun i hi=>by rw [hsz];exact hd i hi
 unfold Oper.wp
 cases hc:bV P o.op with
 | q q=>
   rw [hc] at e
   obtain ⟨v,hv,e1⟩:=um (show (bP q t h).then (fun v=> .ok (dx o.dst v t) h)= .ok t1 h1 from e)
   cases e1
   obtain ⟨x,hx,rx⟩:=r9 hs hc (r.oK _) hv
   rw [hx]
   exact hn _ _ ⟨⟨μ,r.put rx hd',hs,g⟩,by rw [put_defers];exact hdef,by rw [fN];exact hsz⟩
 | l l=>
   rw [hc] at e
   obtain ⟨m,x,hm,e1⟩:=uo (show (nK l t).then (fun k x=> .ok (dx o.dst (mG k h.next) t) (bz h x))= .ok t1 h1 from e)
   cases e1
   obtain ⟨y,w',ob,k,hrun,hp,hmk⟩:=sd hc (r.oK _) hm
   have hnone:μ.at_ h.next=none:=hs.lt _ (Nat.le_refl _)
   have hle:=oF (n:=k) hs hnone
   obtain ⟨ry,hblk⟩:=hmk (μ.ext h.next w.heap.size 0 k) h.next hle (if_pos rfl) (if_pos rfl) (if_pos rfl)
   obtain ⟨hs',g'⟩:=hs.push hp (si hm) hblk
   rw [hrun]
   exact hn _ _ ⟨⟨_,(r.mono hle).put ry hd',hs',g.trans g'⟩,by rw [put_defers];exact hdef,by rw [fN];exact hsz⟩
 | e q=>
   rw [hc] at e
   obtain ⟨v,h2,hv,e1⟩:=uk (show (rM q call t h).then (fun v h=> .ok (dx o.dst v t) h)= .ok t1 h1 from e)
   cases e1
   by_cases hcall: ∃f xs,q= .call f xs
   ·obtain ⟨f,xs,rfl⟩:=hcall
    obtain ⟨c,g0,ho,hcal,hf,hxs⟩:=sh hc
    have hops:=r.oK o.op.operands.toList
    obtain ⟨fid,asq,bs,hfv,e2⟩:=ot (show ((aD f t).jY RV.no fun g a b=>call g (app a (app (eS xs t) b)) h)= .ok v _ from hv) nofun
    have rf:=r.oK [g0] g0 (by simp) f hf
    rw [hfv,VR_func] at rf
    obtain ⟨as',bs',hg0,ra,rb⟩:=rf
    have rxs:=fB hxs (r.oK c.args.toList) (fun x hx=>hx)
    rw [cI,cI] at e2
    have rall:bg μ (asq++(eS xs t++bs)) ((as'++c.args.map a.eval)++bs').toList:=by
     rw [Array.toList_append,Array.toList_append,List.append_assoc]
     exact ra.append (rxs.append rb)
    obtain ⟨hent,hcalls⟩:=av fid _ h v _ μ w _ e2 hs rall
    have hrun:(execOp a.eval o).run P w= .ok (.enter fid ((as'++c.args.map a.eval)++bs')) w:=by
     unfold execOp
     rw [ho]
     simp only [resolve,hcal,hg0,Deferred.ofValue,Sem.run_bind,Sem.run_pure,Result.andThen_ok,invoke]
     exact lS hent _
    rw [hrun,Oper.upon_enter]
    refine hcalls.mono fun e w' hR=>?_
    obtain ⟨μ',y,rfl,ry,hs',g'⟩:=hR
    exact hn _ _ ⟨⟨μ',(r.mono (g'.le hs)).put ry hd',hs',g.trans g'⟩,by rw [put_defers];exact hdef,by rw [fN];exact hsz⟩
   ·obtain ⟨μ',w',nx,hrun,g',hs',hval⟩:=qb hs hc (fun f xs hh=>hcall ⟨f,xs,hh⟩) (r.oK _) hv
    rw [hrun]
    rcases hval with ⟨y,rfl,ry⟩ | ⟨rfl,rfl⟩
    ·exact hn _ _ ⟨⟨μ',(r.mono (g'.le hs)).put ry hd',hs',g.trans g'⟩,by rw [put_defers];exact hdef,by rw [fN];exact hsz⟩
    ·exact hn _ _ ⟨⟨μ',(r.mono (g'.le hs)).put gQ hd',hs',g.trans g'⟩,by rw [put_defers];exact hdef,by rw [fN];exact hsz⟩
theorem mL {ops:Array Oper} {o:Oper} {g:Option (Nat×Bool)} (hg:dP ops o.guard=some g)
  (r: ∀j want d,o.guard=some (j,want)→(ops[j]?).bind (·.dst)=some d→VR μ (aD (.tmp d) t) (a.tmps.getD d Go.undef)):wanted g t=Region.wanted o (yielded ops a.tmps):=by
 unfold dP at hg
 unfold Region.wanted
 cases ho:o.guard with
 | none=>rw [ho] at hg;cases hg;rfl
 | some p=>
   obtain ⟨j,want⟩:=p
   rw [ho] at hg
   simp only [] at hg
   cases hj:(ops[j]?).bind (·.dst) with
   | none=>rw [hj] at hg;cases hg
   | some d=>
     rw [hj] at hg;cases hg
     show aA false (fun v=>v.asBool false fun c=>bc want c (aY c)) (br (pathOf d) t)=(yielded ops a.tmps j == some want)
     have hy:yielded ops a.tmps j=match a.tmps[d]? with | some (.bool b)=>some b | _=>none:=by
      unfold yielded;rw [hj];rfl
     have hl:aA false (fun v=>v.asBool false fun c=>bc want c (aY c)) (br (pathOf d) t)=(aD (.tmp d) t).asBool false fun c=>bc want c (aY c):=by
      rw [dg]
      cases br (pathOf d) t <;> rfl
     rw [hl,hy]
     have rd:=r j want d ho hj
     generalize aD (.tmp d) t=v at rd
     rw [Array.getD_eq_getD_getElem?] at rd
     by_cases hv: ∃c,v= .bool c
     ·obtain ⟨c,rfl⟩:=hv
      rw [VR_bool] at rd
      cases ht:a.tmps[d]? with
      | none=>rw [ht] at rd;cases rd
      | some x=>
        rw [ht] at rd
        have rd:x= .bool c:=rd
        subst rd
        show bc want c (aY c)=(some c == some want)
        cases want <;> cases c <;> rfl
     ·have h1:v.asBool false (fun c=>bc want c (aY c))=false:=by
       cases v <;> first | rfl | exact absurd ⟨_,rfl⟩ hv
      rw [h1]
      cases ht:a.tmps[d]? with
      | none=>rfl
      | some x=>
        rw [ht] at rd
        have rd:VR μ v x:=rd
        cases x <;> first | rfl | skip
        rename_i b
        exfalso
        cases v <;> simp at rd
        ·exact hv ⟨_,rfl⟩
theorem vI {ops:Array Oper} {o:Oper} {g:Option (Nat×Bool)} (hg:dP ops o.guard=some g) (r:TR μ t a.tmps):wanted g t=Region.wanted o (yielded ops a.tmps):=
 mL hg fun _ _ d _ _=>r d
theorem yG (call:aL) (o:AO) (t:T) (h:Hp):vu call o t h=if wanted o.guard t=true then vt o.op o.dst call t h else .ok (dx o.dst undef t) h:=by
 unfold vu
 cases hg:o.guard with
 | none=>rfl
 | some g=>show bc (wanted (some g) t) _ _=_;rw [fZ]
theorem mM {n:Nat} {ops:Array Oper} {o:Oper}:(∃g,eQ P n ops o=⟨o.dst,bV P o.op,g⟩∧dP ops o.guard=some g∧∀i,o.dst=some i→i < n)∨eQ P n ops o=⟨none,no,none⟩:=by
 unfold eQ
 split
 ·rename_i g hg hd
  refine .inl ⟨g,rfl,hg,fun i hi=>?_⟩
  rw [hi] at hd
  exact Nat.le_of_ble_eq_true hd
 ·exact .inr rfl
theorem mN {call:aL} (av:Good P call) {μ0:Mp} {h0:Hp} {w0:World} {n:Nat} {ops:Array Oper} {Q:Exit→Act→World→Prop} {t1:T} {h1:Hp} (hQ: ∀a' w',At μ0 h0 w0 n t1 h1 a' w'→Q .normal a' w'):
  ∀(l:List Nat) (os:List Oper) (t:T) (h:Hp) (a:Act) (w:World),l.map (ops[·]?)=os.map some→rN call (os.map (eQ P n ops)) t h= .ok t1 h1→At μ0 h0 w0 n t h a w→wpOps P ops Q l a w
 | [],os,t,h,a,w,hl,e,st=>by
   have:os= [] :=by cases os with | nil=>rfl | cons o os=>cases hl
   subst this
   cases e
   exact hQ a w st
 | i::l,[],t,h,a,w,hl,e,st=>by cases hl
 | i::l,o::os,t,h,a,w,hl,e,st=>by
   simp only [List.map_cons,List.cons.injEq] at hl
   obtain ⟨hi,hl⟩:=hl
   obtain ⟨t2,h2,e1,e2⟩:=uq (show (vu call (eQ P n ops o) t h).then (rN call (os.map (eQ P n ops)))= .ok t1 h1 from e)
   unfold wpOps
   rw [hi]
   simp only []
   rw [yG] at e1
   rcases mM (P:=P) (n:=n) (ops:=ops) (o:=o) with ⟨g,ho,hg,hd⟩ | ho
   ·rw [ho] at e1
    simp only [] at e1
    obtain ⟨μ,r,hs,gs⟩:=st.ex
    rw [vI hg r] at e1
    split at e1
    ·rename_i hw
     rw [if_pos hw]
     exact .inl (LA av hd e1 st fun a' w' st'=>mN av hQ l os t2 h2 a' w' hl e2 st')
    ·rename_i hw
     rw [if_neg hw]
     cases e1
     refine mN av hQ l os _ _ _ _ hl e2 ⟨⟨μ,r.put gQ fun i hi=>by rw [st.size];exact hd i hi,hs,gs⟩,by rw [put_defers];exact st.defers,by rw [fN];exact st.size⟩
   ·rw [ho] at e1
    cases e1
def kC (μ0:Mp) (h0:Hp) (w0:World) (n:Nat) (Q:Exit→Act→World→Prop):RS→Prop
 | .no=>False
 | .nor t h=> ∀a w,At μ0 h0 w0 n t h a w→Q .normal a w
 | .exit i t h=> ∀a w,At μ0 h0 w0 n t h a w→Q (.exit i) a w
 | .ret t h=> ∀a w,At μ0 h0 w0 n t h a w→Q .ret a w
theorem lT {c:Code} {Q:Exit→Act→World→Prop} (J:Nat→Act→World→Prop) (zero: ∀a w,¬J 0 a w)
  (round: ∀n a w,J (n+1) a w→c.wp P (Exit.then (J n) Q) a w) {n:Nat} (h0:J n a w):(Code.loop c).wp P Q a w:=by
 intro b k cs
 have key: ∀n a w,J n a w→∃e a' w',Q e a' w'∧Arrives P (lone (b.at a (.code c:: .inLoop c::k)) cs w) b k cs e a' w':=by
  intro n
  induction n with
  | zero=>exact fun a w hJ=>absurd hJ (zero a w)
  | succ n ih=>
    intro a w hJ
    obtain ⟨e,a1,w1,hq,harr⟩:=round n a w hJ b (.inLoop c::k) cs
    cases e with
    | normal=>
      obtain ⟨e2,a2,w2,hq2,harr2⟩:=ih a1 w1 hq
      exact ⟨e2,a2,w2,hq2, .of_steps (Steps.trans harr (.one step_inLoop)) harr2⟩
    | exit id=>exact ⟨_,a1,w1,hq, .pass (x:= .inLoop c) rfl (fun _ _=> .inl (by simp)) harr⟩
    | goto l=>exact ⟨_,a1,w1,hq, .pass (x:= .inLoop c) rfl (fun _ _=> .inl (by simp)) harr⟩
    | ret=>exact ⟨_,a1,w1,hq, .pass (x:= .inLoop c) rfl (fun _ _=> .inl (by simp)) harr⟩
    | panic ch=>exact ⟨_,a1,w1,hq, .pass (x:= .inLoop c) rfl (fun _ _=> .inl (by simp)) harr⟩
    | outgrown=>exact ⟨_,a1,w1,hq, .pass (x:= .inLoop c) rfl (fun _ _=> .inl (by simp)) harr⟩
 obtain ⟨e,a',w',hq,harr⟩:=key n a w h0
 exact ⟨e,a',w',hq, .of_steps (.one step_loop) harr⟩
def iG (P:Program) (D:Nat→Array Oper→AC):Prop:= ∀(call:aL) (N n id:Nat) (ops:Array Oper) (μ0:Mp) (h0:Hp) (w0:World) (Q:Exit→Act→World→Prop) (t:T) (h:Hp) (a:Act) (w:World),
 Good P call→kC μ0 h0 w0 n Q (c7 call N (D n ops) t h)→At μ0 h0 w0 n t h a w→(Code.region id ops true).wp P Q a w
theorem gp {D:Nat→Array Oper→AC} (hD:iG P D) {call:aL} (av:Good P call) {N n:Nat} {μ0:Mp} {h0:Hp} {w0:World}:
  ∀(c:Code) (Q:Exit→Act→World→Prop) (t:T) (h:Hp) (a:Act) (w:World),kC μ0 h0 w0 n Q (c7 call N (bu P D n c) t h)→At μ0 h0 w0 n t h a w→c.wp P Q a w
 | .skip,Q,t,h,a,w,hp,st=>wp_skip (hp a w st)
 | .label _,Q,t,h,a,w,hp,st=>wp_label (hp a w st)
 | .region id ops draw,Q,t,h,a,w,hp,st=>by
   cases draw with
   | true=>exact hD call N n id ops μ0 h0 w0 Q t h a w av hp st
   | false=>
     have hp:kC μ0 h0 w0 n Q ((rN call (ops.toList.map (eQ P n ops)) t h).done):=hp
     cases e:rN call (ops.toList.map (eQ P n ops)) t h with
     | no=>rw [e] at hp;exact hp.elim
     | ok t1 h1=>
       rw [e] at hp
       refine wp_region (mN av hp (List.range ops.size) ops.toList t h a w ?_ e st)
       apply List.ext_getElem
       ·simp
       ·intro i h1 h2
        simp at h1
        simp [h1]
 | .seq x y,Q,t,h,a,w,hp,st=>by
   have hp:kC μ0 h0 w0 n Q ((c7 call N (bu P D n x) t h).then (c7 call N (bu P D n y))):=hp
   refine wp_seq (gp (N:=N) hD av x _ t h a w ?_ st)
   cases e:c7 call N (bu P D n x) t h with
   | no=>rw [e] at hp;exact hp
   | nor t1 h1=>rw [e] at hp;exact fun a' w' st'=>gp (N:=N) hD av y Q t1 h1 a' w' hp st'
   | exit i t1 h1=>rw [e] at hp;exact hp
   | ret t1 h1=>rw [e] at hp;exact hp
 | .cond c x y,Q,t,h,a,w,hp,st=>by
   have hp:kC μ0 h0 w0 n Q (c7 call N (match dY c with | some z=>AC.cond z (bu P D n x) (bu P D n y) | none=> .fail "cond") t h):=hp
   cases hc:dY c with
   | none=>rw [hc] at hp;exact hp.elim
   | some z=>
     rw [hc] at hp
     have hp:kC μ0 h0 w0 n Q ((aD z t).asBool .no fun b=>bc b (c7 call N (bu P D n x) t h) (c7 call N (bu P D n y) t h)):=hp
     obtain ⟨μ,r,hs,g⟩:=st.ex
     have rc:=r.oK [c] c (by simp) z hc
     by_cases hb: ∃b,aD z t= .bool b
     ·obtain ⟨b,hb⟩:=hb
      rw [hb,VR_bool] at rc
      rw [hb] at hp
      have hp:kC μ0 h0 w0 n Q (bc b (c7 call N (bu P D n x) t h) (c7 call N (bu P D n y) t h)):=hp
      refine wp_cond_split rc (fun hh=>?_) (fun hh=>?_)
      ·subst hh;exact gp (N:=N) hD av x Q t h a w hp st
      ·subst hh;exact gp (N:=N) hD av y Q t h a w hp st
     ·exfalso
      generalize aD z t=v at *
      cases v <;> first | exact hp | exact hb ⟨_,rfl⟩
 | .block i x,Q,t,h,a,w,hp,st=>by
   have hp:kC μ0 h0 w0 n Q ((c7 call N (bu P D n x) t h).block i):=hp
   refine wp_block (gp (N:=N) hD av x _ t h a w ?_ st)
   cases e:c7 call N (bu P D n x) t h with
   | no=>rw [e] at hp;exact hp
   | nor t1 h1=>rw [e] at hp;exact hp
   | exit j t1 h1=>
     rw [e] at hp
     have hp:kC μ0 h0 w0 n Q (bc (Nat.beq j i) (.nor t1 h1) (.exit j t1 h1)):=hp
     intro a' w' st'
     show if j=i then Q .normal a' w' else Q (.exit j) a' w'
     rw [dW] at hp
     split
     ·rename_i hji;rw [if_pos hji] at hp;exact hp a' w' st'
     ·rename_i hji;rw [if_neg hji] at hp;exact hp a' w' st'
   | ret t1 h1=>rw [e] at hp;exact hp
 | .loop x,Q,t,h,a,w,hp,st=>by
   let R:Nat→T→Hp→RS:=fun k=>rounds (fun _ _=> .no) (fun again t h=>(c7 call N (bu P D n x) t h).then again) k
   refine lT (fun k a w=> ∃t h,kC μ0 h0 w0 n Q (R k t h)∧At μ0 h0 w0 n t h a w) ?_ ?_ (n:=N) ⟨t,h,hp,st⟩
   ·rintro a w ⟨t,h,hp,_⟩;exact hp
   ·rintro k a w ⟨t,h,hp,st⟩
    have hp:kC μ0 h0 w0 n Q ((c7 call N (bu P D n x) t h).then (R k)):=hp
    refine gp (N:=N) hD av x _ t h a w ?_ st
    cases e:c7 call N (bu P D n x) t h with
    | no=>rw [e] at hp;exact hp
    | nor t1 h1=>rw [e] at hp;exact fun a' w' st'=>⟨t1,h1,hp,st'⟩
    | exit j t1 h1=>rw [e] at hp;exact hp
    | ret t1 h1=>rw [e] at hp;exact hp
 | .exit i,Q,t,h,a,w,hp,st=>wp_exit (hp a w st)
 | .ret,Q,t,h,a,w,hp,st=>wp_ret (hp a w st)
 | .scope _,Q,t,h,a,w,hp,st=>hp.elim
 | .goto _,Q,t,h,a,w,hp,st=>hp.elim
 | .rangeFunc _ _ _ _,Q,t,h,a,w,hp,st=>hp.elim
 | .refuse _,Q,t,h,a,w,hp,st=>hp.elim
def ns (tmps:Array Value):ResultVar→Sem Value
 | .tmp t=>pure (tmps.getD t Go.undef)
 | .cell c t=>do loadVar t (←asAddr (tmps.getD c Go.undef))
theorem oL {rs:List ResultVar} (hs:bh μ h w) (r:TR μ t a.tmps): ∀{l:List od} {β:Type} {z q:β} {k:List AV→β},og P rs=some l→th l t h z k=q→z≠q→
  ∃vs xs,k vs=q∧bg μ vs xs∧(rs.mapM (ns a.tmps)).run P w= .ok xs w:=by
 induction rs with
 | nil=>intro l β z q k hc e hz;cases hc;exact ⟨[],[],e,by rw [aH],rfl⟩
 | cons x rs ih=>
   intro l β z q k hc e hz
   unfold og at hc
   cases h1:Et P x with
   | none=>rw [h1] at hc;cases hc
   | some b=>
     cases h2:og P rs with
     | none=>rw [h1,h2] at hc;cases hc
     | some bs=>
       rw [h1,h2] at hc
       cases hc
       cases x with
       | tmp i=>
         cases h1
         have e:th bs t h z (fun vs=>k (aD (.tmp i) t::vs))=q:=e
         obtain ⟨vs,xs,h3,h4,h5⟩:=ih h2 e hz
         refine ⟨_,_::xs,h3,by rw [aJ];exact ⟨_,_,rfl,r i,h4⟩,?_⟩
         rw [List.mapM_cons]
         simp only [ns,Sem.run_bind,Sem.run_pure,Result.andThen_ok,h5]
       | cell c ty=>
         have h1:(match kU P ty,cz P ty with
          | some true,some n=>some (od.cellA c n)
          | some false,some _=>some (.cellS c)
          | _,_=>none)=some b:=h1
         split at h1
         ·rename_i n ha hn
          cases h1
          have e:((aD (.tmp c) t).df z fun b o=>pC h b o n z fun l=>th bs t h z fun vs=>k (.agg l::vs))=q:=e
          obtain ⟨b,o,hp,e1⟩:=dS e hz
          have rc:=r c
          rw [hp,VR_ptr] at rc
          obtain ⟨c0,s0,hb,hx⟩:=rc
          obtain ⟨l,ys,e2,r2,hlen,_,hy⟩:=ou hs hb e1 hz
          obtain ⟨vs,xs,h3,h4,h5⟩:=ih h2 e2 hz
          refine ⟨_, .agg ys.toArray::xs,h3,by rw [aJ];exact ⟨_,_,rfl,by rw [VR_agg];exact ⟨_,rfl,r2⟩,h4⟩,?_⟩
          rw [List.mapM_cons]
          simp only [ns,hx,asAddr,Sem.run_bind,Sem.run_pure,Result.andThen_ok,loadVar,dT ha,run_sizeOf hn,if_true,cJ hlen hy,h5]
         ·rename_i n ha hn
          cases h1
          have e:((aD (.tmp c) t).df z fun b o=>aW h b z fun cs _ _=>aA z (fun v=>th bs t h z fun vs=>k (v::vs)) (ec cs o))=q:=e
          obtain ⟨b,o,hp,e1⟩:=dS e hz
          have rc:=r c
          rw [hp,VR_ptr] at rc
          obtain ⟨c0,s0,hb,hx⟩:=rc
          obtain ⟨cs,k0,ow,hg,e2⟩:=cL e1 hz
          obtain ⟨v,hv,e3⟩:=bd e2 hz
          rw [iE] at hv
          obtain ⟨y,hy,ry⟩:=hs.cell hb hg hv
          obtain ⟨vs,xs,h3,h4,h5⟩:=ih h2 e3 hz
          refine ⟨_,y::xs,h3,by rw [aJ];exact ⟨_,_,rfl,ry,h4⟩,?_⟩
          rw [List.mapM_cons]
          simp only [ns,hx,asAddr,Sem.run_bind,Sem.run_pure,Result.andThen_ok,loadVar,dT ha,Bool.false_eq_true,if_false,pF hy,h5]
         ·cases h1
def lU (l:List AV) (k:Nat) (t:T):T:=b6 (fun (_:Nat) (t:T)=>t) (fun v _ ih i t=>ih (Nat.succ i) (dQ (pathOf i) v t)) l k t
theorem oM: ∀(l:List AV) (ys:List Value) (k:Nat) (t:T),bg μ l ys→
  (∀i,i < k∨k+ys.length≤i→aD (.tmp i) (lU l k t)=aD (.tmp i) t)∧∀i,i < ys.length→VR μ (aD (.tmp (k+i)) (lU l k t)) (ys.getD i Go.undef)
 | [],ys,k,t,r=>by
   rw [aH] at r;subst r
   exact ⟨fun _ _=>rfl,fun i hi=>absurd hi (by simp)⟩
 | v::l,ys,k,t,r=>by
   rw [aJ] at r
   obtain ⟨y,ys,rfl,ry,rl⟩:=r
   obtain ⟨h1,h2⟩:=oM l ys (k+1) (dQ (pathOf k) v t) rl
   have hf:lU (v::l) k t=lU l (k+1) (dQ (pathOf k) v t):=rfl
   have cE: ∀j,j≠k→aD (.tmp j) (dQ (pathOf k) v t)=aD (.tmp j) t:=fun j hj=>by
    rw [dg,dg,bp _ _ _ _ (fun e=>hj (bQ e))]
   have hself:aD (.tmp k) (dQ (pathOf k) v t)=v:=by rw [dg,cu];rfl
   refine ⟨fun i hi=>?_,fun i hi=>?_⟩
   ·simp at hi
    rw [hf,h1 i (by omega),cE i (by omega)]
   ·rw [hf]
    cases i with
    | zero=>rw [h1 (k+0) (by omega)];rw [Nat.add_zero,hself];simpa using ry
    | succ i=>
      have:=h2 i (by simp at hi;omega)
      rw [show k+(i+1)=k+1+i by omega]
      simpa using this
theorem mO {args:List AV} {xs:Array Value} (r:bg μ args xs.toList) (k:Nat):TR μ (db args) (xs++Array.replicate k Go.undef):=fun i=>by
 obtain ⟨h1,h2⟩:=oM args xs.toList 0 .lf r
 have hf:db args=lU args 0 .lf:=rfl
 rw [hf]
 by_cases hi:i < xs.size
 ·have:=h2 i (by simpa using hi)
  rw [Nat.zero_add] at this
  have e1:(xs++Array.replicate k Go.undef).getD i Go.undef=xs.toList.getD i Go.undef:=by
   rw [Array.getD_eq_getD_getElem?,Array.getElem?_append_left hi];simp
  rw [e1];exact this
 ·rw [h1 i (.inr (by simp;omega)),dg,ek]
  have e1:(xs++Array.replicate k Go.undef).getD i Go.undef=Go.undef:=by
   rw [Array.getD_eq_getD_getElem?,Array.getElem?_append_right (by omega),Array.getElem?_replicate]
   split <;> rfl
  rw [e1];exact gQ
theorem yH {vs:List AV} {xs:List Value} (r:bg μ vs xs):VR μ (x8 vs) (if h:xs.toArray.size=1 then xs.toArray[0] else .tuple xs.toArray):=by
 have hl:=r.length
 cases vs with
 | nil=>
   rw [aH] at r;subst r
   show VR μ (.tuple []) (.tuple #[])
   exact gQ
 | cons v vs=>
   cases vs with
   | nil=>
     obtain ⟨x,rfl,rx⟩:=r.one
     exact rx
   | cons u us=>
     have: ¬xs.toArray.size=1:=by simp at hl ⊢;omega
     rw [dif_neg this]
     show VR μ (.tuple (v::u::us)) _
     rw [VR_tuple];exact .inr ⟨_,rfl,r⟩
theorem CB {D:Nat→Array Oper→AC} (hD:iG P D) {call:aL} (av:Good P call) (N:Nat):Good P (mH (ao P D) N call):=fun f args h v h' μ w cargs e hs r=>by
 obtain ⟨af,hf,e1⟩:=bd (show aA RV.no (fun fn=>bc (Nat.ble (len args) fn.ntmps) (finish fn.results (c7 call N fn.body (db args) h)) .no) (ao P D f)= .ok v h' from e) nofun
 obtain ⟨hle,e2⟩:=b4 e1 nofun
 unfold ao at hf
 cases hfn:P.funcs[f]? with
 | none=>rw [hfn] at hf;cases hf
 | some fn=>
   rw [hfn] at hf
   have hf:rH P D fn=some af:=hf
   unfold rH at hf
   split at hf
   ·cases hf
   rename_i hname
   split at hf
   ·rename_i c rs hb hrs
    cases hf
    refine ⟨⟨fn,c,hfn,hname,hb⟩,calls_of_wp hfn hb ?_⟩
    have hlen:cargs.size=args.length:=by have:=r.length;simpa using this
    have hle:args.length≤fn.ntmps:=by rw [bB] at hle;exact hle
    have st:At μ h w fn.ntmps (db args) h {tmps:=cargs++Array.replicate (fn.ntmps - cargs.size) Go.undef,defers:=[]} w:=
     ⟨⟨μ,mO r _,hs, .refl hs⟩,rfl,by simp;omega⟩
    have fin: ∀(t1:T) (h1:Hp),results rs t1 h1= .ok v h'→∀a1 w1,At μ h w fn.ntmps t1 h1 a1 w1→a1.defers= []∧∃y,(Go.results fn a1.tmps).run P w1= .ok y w1∧gR μ h w v h' (.returned y) w1:=fun t1 h1 er a1 w1 st1=>by
     obtain ⟨μ1,r1,hs1,g1⟩:=st1.ex
     obtain ⟨vs,xs,h3,h4,h5⟩:=oL (P:=P) hs1 r1 hrs (show th rs t1 h1 RV.no (fun vs=> .ok (x8 vs) h1)= .ok v h' from er) nofun
     cases h3
     refine ⟨st1.defers,_,?_,μ1,_,rfl,yH h4,hs1,g1⟩
     have hm:(fn.results.mapM (ns a1.tmps)).run P w1= .ok xs.toArray w1:=gN _ _ _ h5
     have hdef:Go.results fn a1.tmps=(do let vs←fn.results.mapM (ns a1.tmps);pure (if h:vs.size=1 then vs[0] else .tuple vs)):=rfl
     rw [hdef]
     simp only [Sem.run_bind,hm,Result.andThen_ok,Sem.run_pure]
    refine gp hD av c _ _ h _ w (N:=N) (n:=fn.ntmps) (μ0:=μ) (h0:=h) (w0:=w) ?_ st
    show kC μ h w fn.ntmps _ (c7 call N (bu P D fn.ntmps c) (db args) h)
    have e2:finish rs (c7 call N (bu P D fn.ntmps c) (db args) h)= .ok v h':=e2
    cases e3:c7 call N (bu P D fn.ntmps c) (db args) h with
    | no=>rw [e3] at e2;cases e2
    | nor t1 h1=>rw [e3] at e2;exact fun a1 w1 st1=>fin t1 h1 e2 a1 w1 st1
    | exit i t1 h1=>rw [e3] at e2;cases e2
    | ret t1 h1=>rw [e3] at e2;exact fun a1 w1 st1=>fin t1 h1 e2 a1 w1 st1
   ·cases hf
theorem jt {D:Nat→Array Oper→AC} (hD:iG P D) {M:Nat→Option (List AV→Hp→RV)} (hM:Good P fun f args h=>aA .no (fun m=>m args h) (M f)) (N:Nat): ∀d,Good P (nL M (ao P D) N d)
 | 0=>fun f args h v h' μ w cargs e hs r=>by cases e
 | d+1=>fun f args h v h' μ w cargs e hs r=>by
   have e:aA (mH (ao P D) N (nL M (ao P D) N d) f args h) (fun m=>m args h) (M f)= .ok v h':=e
   cases hm:M f with
   | none=>
     rw [hm] at e
     exact CB hD (jt hD hM N d) N f args h v h' μ w cargs e hs r
   | some m=>
     rw [hm] at e
     exact hM f args h v h' μ w cargs (show aA RV.no (fun m=>m args h) (M f)= .ok v h' by rw [hm];exact e) hs r
end
end Eng
end
section
set_option linter.unusedVariables false
namespace Eng
open Go Go.RowKit
section
variable {P:Program} {μ μ':Mp} {h h':Hp} {w w':World}
def Mp.none:Mp:=⟨fun _=>Option.none,fun _=>false,fun _=>0⟩
theorem bh.none (w:World):bh Mp.none H0 w:=
 ⟨fun _ _=>rfl,fun b _=>ek _,nofun,nofun,nofun,nofun⟩
def Ru (_:Nat):Option (List AV→Hp→RV):=Option.none
theorem qO:Good P fun f args h=>aA .no (fun m=>m args h) (Ru f):=fun f args h v h' μ w cargs e hs r=>by cases e
def isTrue (r:RV):Bool:=r.cs false fun v _=>(Eu v).cs false fun b=>b
theorem k_ {r:RV} (h:isTrue r=true): ∃h',r= .ok (.bool true) h':=by
 cases r with
 | no=>cases h
 | ok v h'=>
   cases v <;> first | (cases h;done) | skip
   rename_i b
   have h:b=true:=h
   subst h
   exact ⟨h',rfl⟩
theorem bF.below (g:bF Mp.none h w μ' h' w'):Below w.heap.size w w':=⟨g.os,g.tape,g.output,g.heap,fun k hk=>g.kept k hk rfl⟩
theorem oN {D:Nat→Array Oper→AC} (hD:iG P D) {M:Nat→Option (List AV→Hp→RV)} (hM:Good P fun f args h=>aA .no (fun m=>m args h) (M f)) (N d f:Nat) (w:World)
  (args:List AV) (cargs:Array Value) (r:bg Mp.none args cargs.toList) (e:isTrue (nL M (ao P D) N d f args H0)=true):
  Calls P f cargs w fun e w'=>e= .returned (.bool true)∧Below w.heap.size w w':=by
 obtain ⟨h',e1⟩:=k_ e
 refine (jt hD hM N d f args H0 _ h' Mp.none w cargs e1 (.none w) r).2.mono fun e w' hR=>?_
 obtain ⟨μ',y,rfl,ry,hs,g⟩:=hR
 rw [VR_bool] at ry
 subst ry
 exact ⟨rfl,g.below⟩
end
end Eng
end
section
set_option linter.unusedVariables false
set_option linter.unusedSimpArgs false
namespace Eng
open Go Go.RowKit
def count (l:Array Bool):Nat:=(l.toList.filter id).length
theorem count_set {l:Array Bool} {i:Nat} (h:l.getD i true=false):count (l.setIfInBounds i true)=count l+1:=by
 unfold count
 rw [Array.toList_setIfInBounds]
 have hlt:i < l.toList.length:=by
  rcases Nat.lt_or_ge i l.size with h' | h'
  ·simpa using h'
  ·simp [Array.getElem?_eq_none h'] at h
 have hi:l.toList[i]? =some false:=by
  rw [Array.getElem?_toList,Array.getElem?_eq_getElem (by simpa using hlt)]
  have:l[i]'(by simpa using hlt)=false:=by simpa [Array.getElem?_eq_getElem (by simpa using hlt:i < l.size)] using h
  rw [this]
 generalize l.toList=m at *
 clear h
 induction m generalizing i with
 | nil=>simp at hi
 | cons b m ih=>
   cases i with
   | zero=>simp at hi;subst hi;simp
   | succ i=>
     simp at hi
     have:=ih (by simpa using hlt) hi
     cases b <;> simp [this]
theorem count_le (l:Array Bool):count l≤l.size:=by
 unfold count
 have:=List.length_filter_le (id:Bool→Bool) l.toList
 simpa using this
theorem oO {l:Array Bool} (h:count l=l.size) (i:Nat):l.getD i true=true:=by
 unfold count at h
 have h':(l.toList.filter id).length=l.toList.length:=by simpa using h
 have:=List.filter_eq_self.1 (List.Sublist.eq_of_length List.filter_sublist h')
 rcases Nat.lt_or_ge i l.size with hlt | hge
 ·have hm:=this (l[i]) (by simp)
  simp [Array.getElem?_eq_getElem hlt];simpa using hm
 ·simp [Array.getElem?_eq_none hge]
section
variable {P:Program} {md:Region.Mode} {ops:Array Oper}
def Ends (md:Region.Mode) (ops:Array Oper):Prop:= ∀listed:Array Bool,listed.size=ops.size→Region.ready md ops listed= []→∀i,listed.getD i true=true
theorem oP (listed:Array Bool) (hs:listed.size=ops.size) (hstuck:Region.ready md ops listed= []): ∀(fuel t:Nat) (l:Array Bool),l.size=ops.size→(∀i,l.getD i false=true→listed.getD i false=true)→
  (Region.linearise.go md ops fuel t l []).length+count l≤count listed
 | 0,t,l,hl,hle=>by
   simp only [Region.linearise.go,List.reverse_nil,List.length_nil,Nat.zero_add]
   unfold count
   have key: ∀(a b:List Bool),a.length=b.length→(∀i:Nat,a[i]? =some true→b[i]? =some true)→(a.filter id).length≤(b.filter id).length:=by
    intro a
    induction a with
    | nil=>intro b _ _;simp
    | cons x a ih=>
      intro b hlen hb
      cases b with
      | nil=>simp at hlen
      | cons y b=>
        have h1:=ih b (by simpa using hlen) (fun i hi=>by simpa using hb (i+1) (by simpa using hi))
        have h2:=hb 0
        cases x <;> cases y <;> simp at h2 ⊢ <;> omega
   refine key _ _ (by simp [hl,hs]) fun i hi=>?_
   have:=hle i (by rw [Array.getElem?_toList] at hi;simp [hi])
   rw [Array.getElem?_toList]
   cases hg:listed[i]? with
   | none=>simp [hg] at this
   | some b=>simp [hg] at this;rw [this]
 | fuel+1,t,l,hl,hle=>by
   simp only [Region.linearise.go]
   change (match (Region.ready md ops l)[t % (Region.ready md ops l).length]? with
    | some i=>Region.linearise.go md ops fuel (t / (Region.ready md ops l).length) (l.setIfInBounds i true) [i]
    | none=>[].reverse).length+count l≤count listed
   cases hi:(Region.ready md ops l)[t % (Region.ready md ops l).length]? with
   | none=>have:=oP listed hs hstuck 0 t l hl hle;simpa [Region.linearise.go] using this
   | some i=>
     simp only []
     have hr:=List.mem_of_getElem? hi
     obtain ⟨h0,o,ho,hall⟩:=mem_ready.1 hr
     have hin:listed.getD i false=true:=by
      by_cases hc:listed.getD i true=false
      ·exfalso
       have:i ∈ Region.ready md ops listed:=mem_ready.2 ⟨hc,o,ho,fun e he hb=>hle _ (hall e he hb)⟩
       rw [hstuck] at this;cases this
      ·have hlt:i < listed.size:=by rw [hs];exact (Array.getElem?_eq_some_iff.1 ho).1
       simp [Array.getElem?_eq_getElem hlt] at hc ⊢
       exact hc
     rw [linearise_go_acc]
     have:=oP listed hs hstuck fuel (t / (Region.ready md ops l).length) (l.setIfInBounds i true) (by simpa using hl) (fun j hj=>by
      by_cases hij:i=j
      ·subst hij;exact hin
      ·rw [getD_set_ne false hij] at hj;exact hle j hj)
     rw [count_set h0] at this
     simp only [List.reverse_singleton,List.length_append,List.length_singleton]
     omega
theorem CC (h:(Region.linearise .gc ops 0).length=ops.size):Ends .gc ops:=fun listed hs hstuck=>by
 have:=oP (md:= .gc) listed hs hstuck ops.size 0 (Array.replicate ops.size false) (by simp) (fun i hi=>by
  rw [Array.getD_eq_getD_getElem?,Array.getElem?_replicate] at hi
  split at hi <;> simp at hi)
 have h2:(Region.linearise.go .gc ops ops.size 0 (Array.replicate ops.size false) []).length=ops.size:=h
 have h3:=count_le listed
 exact oO (by omega)
theorem lV: ∀{os:List Oper} {k:Nat},forward os k=true→∀(j:Nat) (o:Oper),os[j]? =some o→∀e ∈ o.after,Region.binds .text e=true→e.on < k+j
 | [],k,_,j,o,ho=>by simp at ho
 | o0::os,k,h,j,o,ho=>by
   simp only [forward,Bool.and_eq_true,List.all_eq_true] at h
   cases j with
   | zero=>
     simp at ho;subst ho
     intro e he hb
     have:=h.1 e (by simpa using he)
     rw [hb] at this
     simp at this
     have h2:Nat.blt e.on k=true:=by simpa using this
     have:=Nat.le_of_ble_eq_true (show Nat.ble (e.on+1) k=true from h2)
     omega
   | succ j=>
     intro e he hb
     have:=lV h.2 j o (by simpa using ho) e he hb
     omega
theorem j3 {e:Edge} (h:Region.binds .any e=true):Region.binds .text e=true:=by
 unfold Region.binds at *;split <;> simp_all
theorem qP {e:Edge} (h:Region.binds .any e=true):Region.binds .gc e=true:=by
 unfold Region.binds at *;split <;> simp_all
theorem lY (hf:forward ops.toList 0=true) (hm: ∀e,Region.binds md e=true→Region.binds .text e=true):Ends md ops:=fun listed hs hstuck=>by
 have key: ∀n i,i < n→listed.getD i true=true:=by
  intro n
  induction n with
  | zero=>intro i hi;omega
  | succ n ih=>
    intro i hi
    by_cases hin:i < n
    ·exact ih i hin
    ·obtain rfl:i=n:=by omega
     by_cases hc:listed.getD i true=false
     ·exfalso
      have hlt:i < ops.size:=by
       rcases Nat.lt_or_ge i listed.size with h' | h'
       ·omega
       ·simp [Array.getElem?_eq_none h'] at hc
      have:i ∈ Region.ready md ops listed:=mem_ready.2 ⟨hc,ops[i],Array.getElem?_eq_getElem hlt,fun e he hb=>by
       have h1:=lV hf i ops[i] (by rw [Array.getElem?_toList,Array.getElem?_eq_getElem hlt]) e he (hm e hb)
       have h2:=ih e.on (by omega)
       have h3:e.on < listed.size:=by omega
       simp [Array.getElem?_eq_getElem h3] at h2 ⊢
       exact h2⟩
      rw [hstuck] at this;cases this
     ·simpa using hc
 exact fun i=>key (i+1) i (by omega)
theorem yI {id:Nat} {Q:Exit→Act→World→Prop} {a:Act} {w:World} (hf:forward ops.toList 0=true) (he:s8 ops=true)
  (h: ∀md,Ends md ops→wpAny P md ops Q ops.size (Array.replicate ops.size false) a {w with drawn:=w.drawn+1}):(Code.region id ops true).wp P Q a w:=by
 refine wp_region_draw fun t=>?_
 have hany:Ends .any ops:=lY hf fun e=>j3
 have htext:Ends .text ops:=lY hf fun e h=>h
 unfold Region.schedule
 split
 ·exact wpAny_sound ops.size t _ a _ (h .any hany)
 ·rename_i hd
  split
  ·exact wpAny_sound ops.size _ _ a _ (h .text htext)
  ·refine wpAny_sound ops.size _ _ a _ (h .gc (CC ?_))
   unfold s8 at he
   simp only [Bool.or_eq_true,Bool.not_eq_true'] at hd he
   rcases he with he | he
   ·exact absurd (Or.inr he) hd
   ·exact Nat.eq_of_beq_eq_true he
theorem ur: ∀(os:List Oper) (acc:List Nat),(oe os acc).length=acc.length+os.length∧(∀i,i < acc.length→(oe os acc).getD i 0=acc.getD i 0)∧
  ∀(j:Nat) (o:Oper),os[j]? =some o→∀l,((oe os acc).getD (acc.length+j) 0).testBit l=true→∃e ∈ o.after,Region.binds .any e=true∧(l=e.on∨((oe os acc).getD e.on 0).testBit l=true)
 | [],acc=>⟨by simp [oe],fun _ _=>rfl,fun j o ho=>by simp at ho⟩
 | o0::os,acc=>by
   obtain ⟨h1,h2,h3⟩:=ur os (acc++ [o0.after.toList.foldl (fun s e=>if Region.binds .any e then s ||| 2 ^ e.on ||| acc.getD e.on 0 else s) 0])
   have hunf:oe (o0::os) acc=oe os (acc++ [o0.after.toList.foldl (fun s e=>if Region.binds .any e then s ||| 2 ^ e.on ||| acc.getD e.on 0 else s) 0]):=rfl
   rw [hunf]
   have hpre: ∀i,i < acc.length→(oe os (acc++ [o0.after.toList.foldl (fun s e=>if Region.binds .any e then s ||| 2 ^ e.on ||| acc.getD e.on 0 else s) 0])).getD i 0=acc.getD i 0:=fun i hi=>by
    rw [h2 i (by simp;omega)]
    simp [List.getElem?_append_left hi]
   refine ⟨by rw [h1];simp;omega,hpre,fun j o ho l hl=>?_⟩
   cases j with
   | zero=>
     simp at ho;subst ho
     rw [Nat.add_zero,h2 acc.length (by simp)] at hl
     have hfold: ∀(es:List Edge) (s:Nat),(es.foldl (fun s e=>if Region.binds .any e then s ||| 2 ^ e.on ||| acc.getD e.on 0 else s) s).testBit l=true→
       s.testBit l=true∨∃e ∈ es,Region.binds .any e=true∧(l=e.on∨(acc.getD e.on 0).testBit l=true):=by
      intro es
      induction es with
      | nil=>intro s hs;exact .inl hs
      | cons e es ih=>
        intro s hs
        rw [List.foldl_cons] at hs
        rcases ih _ hs with h | ⟨e',he',hb,hh⟩
        ·split at h
         ·rename_i hb
          rw [Nat.testBit_or,Nat.testBit_or] at h
          simp only [Bool.or_eq_true] at h
          rcases h with (h | h) | h
          ·exact .inl h
          ·refine .inr ⟨e,by simp,hb, .inl ?_⟩
           rw [Nat.testBit_two_pow] at h
           simpa using (of_decide_eq_true h).symm
          ·exact .inr ⟨e,by simp,hb, .inr h⟩
         ·exact .inl h
        ·exact .inr ⟨e',by simp [he'],hb,hh⟩
     have hl:(o0.after.toList.foldl (fun s e=>if Region.binds .any e then s ||| 2 ^ e.on ||| acc.getD e.on 0 else s) 0).testBit l=true:=by
      rw [List.getD_eq_getElem?_getD,List.getElem?_append_right (Nat.le_refl _)] at hl
      simpa only [Nat.sub_self,List.getElem?_cons_zero,Option.getD_some] using hl
     rcases hfold _ _ hl with h | ⟨e,he,hb,hh⟩
     ·simp at h
     ·refine ⟨e,by simpa using he,hb,?_⟩
      rcases hh with hh | hh
      ·exact .inl hh
      ·right
       have hlt:e.on < acc.length:=by
        rcases Nat.lt_or_ge e.on acc.length with h' | h'
        ·exact h'
        ·simp [List.getElem?_eq_none h'] at hh
       rw [hpre _ hlt];exact hh
   | succ j=>
     have:=h3 j o (by simpa using ho) l (by
      have:(acc++ [o0.after.toList.foldl (fun s e=>if Region.binds .any e then s ||| 2 ^ e.on ||| acc.getD e.on 0 else s) 0]).length+j=acc.length+(j+1):=by simp;omega
      rw [this];exact hl)
     exact this
theorem ju {n:Nat}: ∀{os:List Oper} {asq:List Nat} {k:Nat} {x:NO},x ∈ bS P n ops os asq k→∃j o,os[j]? =some o∧j < asq.length∧x=⟨k+j,eQ P n ops o,asq.getD j 0,o⟩
 | [],asq,k,x,h=>by simp [bS] at h
 | o::os,[],k,x,h=>by simp [bS] at h
 | o::os,a::asq,k,x,h=>by
   rw [show bS P n ops (o::os) (a::asq) k=⟨k,eQ P n ops o,a,o⟩::bS P n ops os asq (k+1) from rfl,List.mem_cons] at h
   rcases h with rfl | h
   ·exact ⟨0,o,rfl,by simp,by simp⟩
   ·obtain ⟨j,o',h1,h2,rfl⟩:=ju h
    exact ⟨j+1,o',by simpa using h1,by simpa using h2,by simp;omega⟩
theorem lZ {n:Nat}: ∀{os:List Oper} {asq:List Nat} {k:Nat} (j:Nat) (o:Oper),os[j]? =some o→j < asq.length→(⟨k+j,eQ P n ops o,asq.getD j 0,o⟩:NO)∈ bS P n ops os asq k
 | [],asq,k,j,o,h,_=>by simp at h
 | o::os,[],k,j,_,_,h=>by simp at h
 | o0::os,a::asq,k,j,o,h,hlt=>by
   rw [show bS P n ops (o0::os) (a::asq) k=⟨k,eQ P n ops o0,a,o0⟩::bS P n ops os asq (k+1) from rfl,List.mem_cons]
   cases j with
   | zero=>simp at h;subst h;left;simp
   | succ j=>
     right
     have:=lZ (n:=n) (k:=k+1) (asq:=asq) j o (by simpa using h) (by simpa using hlt)
     have e:k+1+j=k+(j+1):=by omega
     rw [e] at this
     simpa using this
end
end Eng
end
section
set_option linter.unusedVariables false
set_option linter.unusedSimpArgs false
namespace Eng
open Go Go.RowKit
inductive qc (call:aL):List It→T→Hp→List PD→T→Hp→Prop
 | last {n t h ps r}:aZ ps n h=true→qc call (.last n::r) t h ps t h
 | skip {n hi q r t h ps t' h'}:wanted q.o.guard t=false→qc call r (dx q.o.dst undef t) h ps t' h'→qc call (.op n hi q::r) t h ps t' h'
 | quiet {n hi q r t h ps t' h' f v}:wanted q.o.guard t=true→q.o.op= .q f→bP f t h= .ok v→qc call r (dx q.o.dst v t) h (⟨f,t,v,hi⟩::ps) t' h'→qc call (.op n hi q::r) t h ps t' h'
 | alloc {n hi q r t h ps t' h' f m x}:wanted q.o.guard t=true→q.o.op= .l f→nK f t= .ok m x→qc call r (dx q.o.dst (mG m h.next) t) (bz h x) ps t' h'→qc call (.op n hi q::r) t h ps t' h'
 | i_ {n e r t h ps t1 h1 t' h'}:aZ ps n h=true→vu call e.o t h= .ok t1 h1→qc call r t1 h1 ps t' h'→qc call (.i_ n e::r) t h ps t' h'
theorem fO {call:aL} {t':T} {h':Hp} {n:Nat} {tail:List It} {k:T→Hp→List PD→RT} (hk: ∀t1 h1 ps1,k t1 h1 ps1= .ok t' h'→qc call tail t1 h1 ps1 t' h'):
  ∀(qs:List (NO×Nat)) (t:T) (h:Hp) (ps:List PD),eU (qs.map fun q=>(q.1.o,q.2)) t h ps k= .ok t' h'→qc call (qs.map (fun q=>It.op n q.2 q.1)++tail) t h ps t' h'
 | [],t,h,ps,e=>hk t h ps e
 | q::qs,t,h,ps,e=>by
   have e:bc (wanted q.1.o.guard t) (q.1.o.op.cs
    (fun f=>x7 f q.1.o.dst q.2 t h ps fun t h ps=>eU (qs.map fun q=>(q.1.o,q.2)) t h ps k)
    (fun l=>(nK l t).then fun m x=>eU (qs.map fun q=>(q.1.o,q.2)) (dx q.1.o.dst (mG m h.next) t) (bz h x) ps k)
    (fun _=> .no)) (eU (qs.map fun q=>(q.1.o,q.2)) (dx q.1.o.dst undef t) h ps k)= .ok t' h':=e
   show qc call (It.op n q.2 q.1::(qs.map (fun q=>It.op n q.2 q.1)++tail)) t h ps t' h'
   cases hw:wanted q.1.o.guard t with
   | false=>
     rw [hw] at e
     exact .skip hw (fO hk qs _ _ _ e)
   | true=>
     rw [hw] at e
     cases ho:q.1.o.op with
     | q f=>
       rw [ho] at e
       obtain ⟨v,hv,e1⟩:=um (show (bP f t h).then (fun v=>eU (qs.map fun q=>(q.1.o,q.2)) (dx q.1.o.dst v t) h (⟨f,t,v,q.2⟩::ps) k)= .ok t' h' from e)
       exact .quiet hw ho hv (fO hk qs _ _ _ e1)
     | l f=>
       rw [ho] at e
       obtain ⟨m,x,hm,e1⟩:=uo (show (nK f t).then (fun m x=>eU (qs.map fun q=>(q.1.o,q.2)) (dx q.1.o.dst (mG m h.next) t) (bz h x) ps k)= .ok t' h' from e)
       exact .alloc hw ho hm (fO hk qs _ _ _ e1)
     | e f=>rw [ho] at e;cases e
theorem sj {call:aL} {t':T} {h':Hp}: ∀(st:List (List (NO×Nat)×Option NO)) (n:Nat) (t:T) (h:Hp) (ps:List PD),
  oo call (st.map fun s=>⟨s.1.map fun q=>(q.1.o,q.2),s.2.map (·.o)⟩) n t h ps= .ok t' h'→qc call (flat n st) t h ps t' h'
 | [],n,t,h,ps,e=>by cases e
 | (qs,eo)::st,n,t,h,ps,e=>by
   have e:eU (qs.map fun q=>(q.1.o,q.2)) t h ps (fun t h ps=>
    bc (aZ ps n h) (aA (.ok t h) (fun e=>(vu call e t h).then fun t h=>oo call (st.map fun s=>⟨s.1.map fun q=>(q.1.o,q.2),s.2.map (·.o)⟩) (Nat.succ n) t h ps) (eo.map (·.o))) .no)= .ok t' h':=e
   cases eo with
   | none=>
     refine fO (tail:=[It.last n]) (fun t1 h1 ps1 e1=>?_) qs t h ps e
     obtain ⟨hr,e2⟩:=ba e1 nofun
     cases e2
     exact .last hr
   | some x=>
     refine fO (tail:=It.i_ n x::flat (n+1) st) (fun t1 h1 ps1 e1=>?_) qs t h ps e
     obtain ⟨hr,e2⟩:=ba e1 nofun
     obtain ⟨t2,h2,e3,e4⟩:=uq (show (vu call x.o t1 h1).then (fun t h=>oo call (st.map fun s=>⟨s.1.map fun q=>(q.1.o,q.2),s.2.map (·.o)⟩) (Nat.succ n) t h ps1)= .ok t' h' from e2)
     exact .i_ hr e3 (sj st (n+1) t2 h2 ps1 e4)
def Wr (ops:Array Oper) (j d:Nat):Prop:= ∃o,ops[j]? =some o∧o.dst=some d
structure Static (P:Program) (n:Nat) (ops:Array Oper) (A:Nat→Nat):Prop where
 uniq: ∀i j d,Wr ops i d→Wr ops j d→i=j
 order: ∀i j d o,ops[i]? =some o→Operand.tmp d ∈ o.op.operands.toList→Wr ops j d→i≠j∧((A i).testBit j=true∨(A j).testBit i=true)
 guard: ∀i o g want,ops[i]? =some o→o.guard=some (g,want)→(A i).testBit g=true
 anc: ∀i o l,ops[i]? =some o→(A i).testBit l=true→∃e ∈ o.after,Region.binds .any e=true∧(l=e.on∨(A e.on).testBit l=true)
structure Rec (P:Program) (n:Nat) (ops:Array Oper) (A:Nat→Nat) (es:List NO) (h0:Hp) (t0:T) (fr:T) (v:AV) (b:Nat) (al:Bool) (t:T) (h:Hp) (ps:List PD) (μ:Mp) (i:Nat) (o:Oper) (g:Option (Nat×Bool)):Prop where
 op:ops[i]? =some o
 grd:dP ops o.guard=some g
 lt: ∀d,o.dst=some d→d < n
 dst: ∀d,o.dst=some d→aD (.tmp d) t=v
 fr1: ∀d j,Wr ops j d→(A i).testBit j=true→aD (.tmp d) fr=aD (.tmp d) t
 fr2: ∀d j,Operand.tmp d ∈ o.op.operands.toList→Wr ops j d→(A i).testBit j=false→aD (.tmp d) fr=aD (.tmp d) t0
 fr3: ∀d,(∀j,¬Wr ops j d)→aD (.tmp d) fr=aD (.tmp d) t0
 kind:(wanted g fr=false∧v=undef)∨(wanted g fr=true∧
  ((∃f hi,bV P o.op= .q f∧(⟨f,fr,v,hi⟩:PD)∈ ps∧∀e,es[hi]? =some e→(A e.i).testBit i=true)∨
   (∃f m x,bV P o.op= .l f∧nK f fr= .ok m x∧v=mG m b∧μ.at_ b=none∧(∀y,az h b=some y→y=x)∧b < h.next∧h0.next≤b∧al=true)))
structure xN (P:Program) (n:Nat) (ops:Array Oper) (A:Nat→Nat) (es:List NO) (μ0:Mp) (h0:Hp) (w0:World) (t0:T) (s:Nat) (fr:Nat→T) (v:Nat→AV) (bk:Nat→Nat) (al:Nat→Bool) (t:T) (h:Hp) (ps:List PD)
  (D:Nat→Prop) (μ:Mp) (a:Act) (w:World):Prop where
 sub: ∀i,D i→s.testBit i=true
 down: ∀i,D i→∀l,(A i).testBit l=true→D l
 sdown: ∀i,s.testBit i=true→∀l,(A i).testBit l=true→s.testBit l=true
 late: ∀d j,Wr ops j d→¬D j→VR μ (aD (.tmp d) t0) (a.tmps.getD d Go.undef)
 done: ∀d,(∀j,Wr ops j d→D j)→VR μ (aD (.tmp d) t) (a.tmps.getD d Go.undef)
 same: ∀d,(∀j,Wr ops j d→s.testBit j=false)→aD (.tmp d) t=aD (.tmp d) t0
 recs: ∀i,s.testBit i=true→¬D i→∃o g,Rec P n ops A es h0 t0 (fr i) (v i) (bk i) (al i) t h ps μ i o g
 apart: ∀i j,s.testBit i=true→¬D i→s.testBit j=true→¬D j→al i=true→al j=true→i≠j→bk i≠bk j
 bkl: ∀i,s.testBit i=true→¬D i→al i=true→bk i < h.next
 sim:bh μ h w
 goes:bF μ0 h0 w0 μ h w
 defers:a.defers= []
 size:a.tmps.size=n
section
variable {P:Program} {n:Nat} {ops:Array Oper} {A:Nat→Nat} {es:List NO} {μ0:Mp} {h0:Hp} {w0:World} {t0:T} {s:Nat} {fr:Nat→T} {v:Nat→AV} {bk:Nat→Nat} {al:Nat→Bool} {t t':T} {h h':Hp} {ps:List PD}
 {D:Nat→Prop} {μ:Mp} {a:Act} {w:World}
def laid (x:Option aC) (h:Hp):Hp:=match x with
 | some y=>bz h y
 | none=>h
theorem jv {d:Option Nat} {u:AV} {i:Nat} (hd:d≠some i):aD (.tmp i) (dx d u t)=aD (.tmp i) t:=by
 cases d with
 | none=>rfl
 | some d=>
   show aD (.tmp i) (dQ (pathOf d) u t)=_
   rw [dg,dg,bp _ _ _ _ (fun e=>hd (congrArg some (bQ e.symm)))]
theorem l3 {i:Nat} {u:AV}:aD (.tmp i) (dx (some i) u t)=u:=by
 show aD (.tmp i) (dQ (pathOf i) u t)=_
 rw [dg,cu];rfl
theorem bH {s i j:Nat}:(s ||| 2 ^ i).testBit j=true ↔ s.testBit j=true∨j=i:=by
 rw [Nat.testBit_or,Nat.testBit_two_pow,Bool.or_eq_true,decide_eq_true_eq]
 exact ⟨fun h=>h.imp id Eq.symm,fun h=>h.imp id Eq.symm⟩
theorem oQ {a s:Nat} (h:a &&& s=a) {l:Nat} (hl:a.testBit l=true):s.testBit l=true:=by
 rw [←h,Nat.testBit_and,Bool.and_eq_true] at hl
 exact hl.2
theorem bh.ghost (hs:bh μ h w) (x:aC):bh μ (bz h x) w:=by
 have hnone: ∀b,μ.at_ b≠Option.none→b≠h.next:=fun b hb e=>hb (by rw [e];exact hs.lt _ (Nat.le_refl _))
 refine ⟨fun b hb=>hs.lt b (Nat.le_of_succ_le hb),fun b hb=>?_,hs.eM,fun b c s y e g=>?_,fun b b' c s s' y y' hne e e' ho g g'=>?_,fun b c s cs n p e g=>?_⟩
 ·have hb:h.next+1≤b:=hb
  rw [aE _ _ (by omega)];exact hs.fresh b (by omega)
 ·rw [aE _ _ (hnone b (by rw [e];nofun))] at g;exact hs.fl b c s y e g
 ·rw [aE _ _ (hnone b (by rw [e];nofun))] at g
  rw [aE _ _ (hnone b' (by rw [e'];nofun))] at g'
  exact hs.apart b b' c s s' y y' hne e e' ho g g'
 ·rw [aE _ _ (hnone b (by rw [e];nofun))] at g;exact hs.peer b c s cs n p e g
theorem bF.Js (g:bF μ0 h0 w0 μ h w) (x:aC):bF μ0 h0 w0 μ (bz h x) w:=
 ⟨Nat.le_succ_of_le g.next,g.at_,g.own,g.size,g.heap,g.kept,fun b hb hn=>by
  have:=g.next
  rw [aE _ _ (by omega)];exact g.ghost b hb hn,g.os,g.tape,g.output⟩
theorem Jt (st:Static P n ops A) (m:xN P n ops A es μ0 h0 w0 t0 s fr v bk al t h ps D μ a w) {call:aL} {k hi:Nat} {q:NO} {tail:List It} (tr:qc call (.op k hi q::tail) t h ps t' h')
  (hop:ops[q.i]? =some q.p) (hqo:q.o=eQ P n ops q.p) (hsub:A q.i &&& s=A q.i) (hnew:s.testBit q.i=false) (hah: ∀e,es[hi]? =some e→(A e.i).testBit q.i=true):
  ∃fr' v' bk' al' t1 h1 ps1,qc call tail t1 h1 ps1 t' h'∧xN P n ops A es μ0 h0 w0 t0 (s ||| 2 ^ q.i) fr' v' bk' al' t1 h1 ps1 D μ a w:=by
 have hD: ¬D q.i:=fun hd=>by rw [m.sub _ hd] at hnew;cases hnew
 have proper:q.o≠⟨none,no,none⟩→∃g,q.o=⟨q.p.dst,bV P q.p.op,g⟩∧dP ops q.p.guard=some g∧∀i,q.p.dst=some i→i < n:=fun hne=>by
  rcases mM (P:=P) (n:=n) (ops:=ops) (o:=q.p) with ⟨g,h1,h2,h3⟩ | h1
  ·exact ⟨g,hqo.trans h1,h2,h3⟩
  ·exact absurd (hqo.trans h1) hne
 have go: ∀(g:Option (Nat×Bool)) (u:AV) (x:Option aC) (ps1:List PD),q.o=⟨q.p.dst,bV P q.p.op,g⟩→dP ops q.p.guard=some g→(∀i,q.p.dst=some i→i < n)→(∀p ∈ ps,p ∈ ps1)→
   ((wanted g t=false∧u=undef∧x=none)∨(wanted g t=true∧((∃f hi,bV P q.p.op= .q f∧(⟨f,t,u,hi⟩:PD)∈ ps1∧(∀e,es[hi]? =some e→(A e.i).testBit q.i=true)∧x=none)∨
     ∃f mk y,bV P q.p.op= .l f∧nK f t= .ok mk y∧u=mG mk h.next∧x=some y)))→
   xN P n ops A es μ0 h0 w0 t0 (s ||| 2 ^ q.i) (fun j=>if j=q.i then t else fr j) (fun j=>if j=q.i then u else v j) (fun j=>if j=q.i then h.next else bk j) (fun j=>if j=q.i then x.isSome else al j)
    (dx q.p.dst u t) (laid x h) ps1 D μ a w:=fun g u x ps1 hq hg hlt hps hkind=>by
  have hnext:h.next≤(laid x h).next:=by cases x with | none=>exact Nat.le_refl _ | some y=>exact Nat.le_succ _
  have hold: ∀b,b < h.next→az (laid x h) b=az h b:=fun b hb=>by
   cases x with
   | none=>rfl
   | some y=>exact aE _ _ (by omega)
  have hwr: ∀d,q.p.dst=some d→Wr ops q.i d:=fun d hd=>⟨q.p,hop,hd⟩
  have hput: ∀d j,Wr ops j d→j≠q.i→aD (.tmp d) (dx q.p.dst u t)=aD (.tmp d) t:=fun d j hw hne=>jv fun hd=>hne (st.uniq _ _ _ hw (hwr d hd))
  refine ⟨fun i hi=>bH.2 (.inl (m.sub i hi)),m.down,fun i hi l hl=>?_,m.late,fun d hd=>?_,fun d hd=>?_,fun i hi hDi=>?_,fun i j hi hDi hj hDj ai aj hne=>?_,fun i hi hDi ai=>?_,?_,?_,m.defers,m.size⟩
  ·rcases bH.1 hi with hi | rfl
   ·exact bH.2 (.inl (m.sdown i hi l hl))
   ·exact bH.2 (.inl (oQ hsub hl))
  ·rw [jv (fun hh=>hD (hd _ (hwr d hh)))]
   exact m.done d hd
  ·rw [jv (fun hh=>by
    have:=hd _ (hwr d hh)
    rw [bH.2 (.inr rfl)] at this;cases this)]
   refine m.same d fun j hj=>?_
   have:=hd j hj
   cases hb:s.testBit j with
   | false=>rfl
   | true=>rw [bH.2 (.inl hb)] at this;cases this
  ·by_cases hiq:i=q.i
   ·subst hiq
    refine ⟨q.p,g,?_⟩
    simp only [if_pos]
    refine ⟨hop,hg,hlt,fun d hd=>by rw [hd];exact l3,fun d j hw hb=>?_,fun d j hrd hw hb=>?_,fun d hnw=>?_,?_⟩
    ·have hne:j≠q.i:=fun e=>by
      subst e
      have:=oQ hsub hb
      rw [hnew] at this;cases this
     exact (hput d j hw hne).symm
    ·obtain ⟨hne,hor⟩:=st.order _ _ _ _ hop hrd hw
     have hji:(A j).testBit q.i=true:=hor.resolve_left (by rw [hb];nofun)
     refine m.same d fun j' hj'=>?_
     obtain rfl:=st.uniq _ _ _ hj' hw
     cases hsj:s.testBit j' with
     | false=>rfl
     | true=>have:=m.sdown _ hsj _ hji;rw [hnew] at this;cases this
    ·exact m.same d fun j hj=>absurd hj (hnw j)
    ·rcases hkind with ⟨k1,k2,_⟩ | ⟨k1,⟨f,hi,k2,k3,k4,_⟩ | ⟨f,mk,y,k2,k3,k4,k5⟩⟩
     ·exact .inl ⟨k1,k2⟩
     ·exact .inr ⟨k1, .inl ⟨f,hi,k2,k3,k4⟩⟩
     ·subst k5
      exact .inr ⟨k1, .inr ⟨f,mk,y,k2,k3,k4,m.sim.lt _ (Nat.le_refl _),(fun z hz=>by rw [show az (laid (some y) h) h.next=some y from dD _ _] at hz;exact (Option.some.inj hz).symm),Nat.lt_succ_self _,m.goes.next,rfl⟩⟩
   ·simp only [if_neg hiq]
    have hi:=(bH.1 hi).resolve_right hiq
    obtain ⟨o,g',r⟩:=m.recs i hi hDi
    refine ⟨o,g',r.op,r.grd,r.lt,fun d hd=>?_,fun d j hw hb=>?_,r.fr2,r.fr3,?_⟩
    ·rw [hput d i ⟨o,r.op,hd⟩ hiq];exact r.dst d hd
    ·have hne:j≠q.i:=fun e=>by
      subst e
      have:=m.sdown i hi _ hb
      rw [hnew] at this;cases this
     rw [hput d j hw hne];exact r.fr1 d j hw hb
    ·rcases r.kind with k | ⟨k1,⟨f,hi,k2,k3,k4⟩ | ⟨f,mk,y,k2,k3,k4,k5,k6,k7,k8,k9⟩⟩
     ·exact .inl k
     ·exact .inr ⟨k1, .inl ⟨f,hi,k2,hps _ k3,k4⟩⟩
     ·exact .inr ⟨k1, .inr ⟨f,mk,y,k2,k3,k4,k5,fun z hz=>k6 z (by rw [←hold _ k7];exact hz),Nat.lt_of_lt_of_le k7 hnext,k8,k9⟩⟩
  ·by_cases hiq:i=q.i
   ·subst hiq
    have hjq:j≠q.i:=fun e=>hne e.symm
    simp only [if_pos,if_neg hjq] at aj ⊢
    have:=m.bkl j ((bH.1 hj).resolve_right hjq) hDj aj
    omega
   ·by_cases hjq:j=q.i
    ·subst hjq
     simp only [if_pos,if_neg hiq] at ai ⊢
     have:=m.bkl i ((bH.1 hi).resolve_right hiq) hDi ai
     omega
    ·simp only [if_neg hiq,if_neg hjq] at ai aj ⊢
     exact m.apart i j ((bH.1 hi).resolve_right hiq) hDi ((bH.1 hj).resolve_right hjq) hDj ai aj hne
  ·by_cases hiq:i=q.i
   ·subst hiq
    simp only [if_pos] at ai ⊢
    cases x with
    | none=>cases ai
    | some y=>exact Nat.lt_succ_self _
   ·simp only [if_neg hiq] at ai ⊢
    exact Nat.lt_of_lt_of_le (m.bkl i ((bH.1 hi).resolve_right hiq) hDi ai) hnext
  ·cases x with
   | none=>exact m.sim
   | some y=>exact m.sim.ghost y
  ·cases x with
   | none=>exact m.goes
   | some y=>exact m.goes.Js y
 cases tr with
 | skip hw tr=>
   obtain ⟨g,hq,hg,hlt⟩:=proper (fun e=>by rw [e] at hw;cases hw)
   rw [hq] at hw tr
   exact ⟨_,_,_,_,_,_,_,tr,go g undef none ps hq hg hlt (fun _ h=>h) (.inl ⟨hw,rfl,rfl⟩)⟩
 | quiet hw hf hv tr=>
   rename_i f u
   obtain ⟨g,hq,hg,hlt⟩:=proper (fun e=>by rw [e] at hf;cases hf;cases hv)
   rw [hq] at hw hf tr
   exact ⟨_,_,_,_,_,_,_,tr,go g u none _ hq hg hlt (fun _ h=>List.mem_cons_of_mem _ h) (.inr ⟨hw, .inl ⟨f,hi,hf,List.mem_cons_self,hah,rfl⟩⟩)⟩
 | alloc hw hf hv tr=>
   rename_i f mk y
   obtain ⟨g,hq,hg,hlt⟩:=proper (fun e=>by rw [e] at hf;cases hf)
   rw [hq] at hw hf tr
   exact ⟨_,_,_,_,_,_,_,tr,go g _ (some y) ps hq hg hlt (fun _ h=>h) (.inr ⟨hw, .inr ⟨f,mk,y,hf,hv,rfl,rfl⟩⟩)⟩
end
end Eng
end
section
set_option linter.unusedVariables false
set_option linter.unusedSimpArgs false
namespace Eng
open Go Go.RowKit
def ga (l m:List AV):Bool:=eC (.agg l) (.agg m)
theorem aU {b c:Bool}:bc b c false=true ↔ b=true∧c=true:=by cases b <;> simp [bc]
theorem yJ {b c:Bool}:bc b c (aY c)=true ↔ b=c:=by cases b <;> cases c <;> simp [bc,aY]
mutual
theorem nY: ∀(v u:AV),eC v u=true→v=u
 | .bool b,u,e=>by
   have e:u.asBool false (fun c=>bc b c (aY c))=true:=e
   obtain ⟨c,rfl,e⟩:=eF e nofun
   rw [yJ.1 e]
 | .int k n,u,e=>by
   have e:u.asInt false (fun k' m=>bc (bj k k') (jW n m) false)=true:=e
   obtain ⟨k',m,rfl,e1⟩:=aR e nofun
   obtain ⟨rfl,e2⟩:=eV e1 nofun
   rw [dE] at e2
   rw [eq_of_beq e2]
 | .str s,u,e=>by
   have e:u.cZ false (fun r=>fp s r)=true:=e
   obtain ⟨r,rfl,e1⟩:=cv e nofun
   rw [eK] at e1
   rw [of_decide_eq_true e1]
 | .nilPtr,u,e=>by
   have e:(xL u).cs false true (fun _ _=>false)=true:=e
   cases u <;> first | rfl | (cases e;done)
 | .ptr b o,u,e=>by
   have e:(xL u).cs false false (fun b' o'=>bc (Nat.beq b b') (Nat.beq o o') false)=true:=e
   cases u <;> first | (cases e;done) | skip
   obtain ⟨h1,h2⟩:=aU.1 e
   rw [Nat.eq_of_beq_eq_true h1,Nat.eq_of_beq_eq_true h2]
 | .nilSlice,u,e=>by
   have e:(xM u).cs false true (fun _ _ _ _ _ _=>false)=true:=e
   cases u <;> first | rfl | (cases e;done)
 | .slice b o l c s x,u,e=>by
   have e:(xM u).cs false false (fun b' o' l' c' s' e'=>bc (Nat.beq b b') (bc (Nat.beq o o') (bc (Nat.beq l l') (bc (Nat.beq c c') (bc (Nat.beq s s') (bc x e' (aY e')) false) false) false) false) false)=true:=e
   cases u <;> first | (cases e;done) | skip
   obtain ⟨h1,e⟩:=aU.1 e
   obtain ⟨h2,e⟩:=aU.1 e
   obtain ⟨h3,e⟩:=aU.1 e
   obtain ⟨h4,e⟩:=aU.1 e
   obtain ⟨h5,e⟩:=aU.1 e
   rw [Nat.eq_of_beq_eq_true h1,Nat.eq_of_beq_eq_true h2,Nat.eq_of_beq_eq_true h3,Nat.eq_of_beq_eq_true h4,Nat.eq_of_beq_eq_true h5,yJ.1 e]
 | .nilMap,u,e=>by
   have e:(B7 u).cs false true (fun _=>false)=true:=e
   cases u <;> first | rfl | (cases e;done)
 | .map b,u,e=>by
   have e:(B7 u).cs false false (fun b'=>Nat.beq b b')=true:=e
   cases u <;> first | (cases e;done) | skip
   rw [Nat.eq_of_beq_eq_true e]
 | .func fn a b,u,e=>by
   have e1:(kW fn a b).cs false false (fun f _ _=>(pE u).cs false false (fun f' a' b'=>bc (Nat.beq f f') (bc (ga a a') (ga b b') false) false) false) false=true:=e
   clear e
   cases fn <;> first | (cases e1;done) | skip
   rename_i f
   have e2:(pE u).cs false false (fun f' a' b'=>bc (Nat.beq f f') (bc (ga a a') (ga b b') false) false) false=true:=e1
   clear e1
   cases u <;> first | (cases e2;done) | skip
   rename_i fn' a' b'
   cases fn' <;> first | (cases e2;done) | skip
   rename_i f'
   obtain ⟨h1,e3⟩:=aU.1 (show bc (Nat.beq f f') (bc (ga a a') (ga b b') false) false=true from e2)
   obtain ⟨h2,h3⟩:=aU.1 e3
   rw [Nat.eq_of_beq_eq_true h1,j4 a a' h2,j4 b b' h3]
 | .nilFunc,u,e=>by
   have e1:(pE u).cs false true (fun _ _ _=>false) false=true:=e
   clear e
   cases u <;> first | rfl | (cases e1;done) | skip
   rename_i fn _ _
   cases fn <;> (cases e1;done)
 | .iface t x,u,e=>by
   have e1:(qt u).cs false false (fun t' y=>bc (Nat.beq t t') (eC x y) false)=true:=e
   clear e
   cases u <;> first | (cases e1;done) | skip
   rename_i t' y
   obtain ⟨h1,h2⟩:=aU.1 (show bc (Nat.beq t t') (eC x y) false=true from e1)
   rw [Nat.eq_of_beq_eq_true h1,nY x y h2]
 | .nilIface,u,e=>by
   have e:(qt u).cs false true (fun _ _=>false)=true:=e
   cases u <;> first | rfl | (cases e;done)
 | .agg l,u,e=>by
   have e:u.asAgg false (ga l)=true:=e
   obtain ⟨m,rfl,e1⟩:=fx e nofun
   rw [j4 l m e1]
 | .tuple l,u,e=>by
   have e:u.asTuple false (ga l)=true:=e
   obtain ⟨m,rfl,e1⟩:=nf e nofun
   rw [j4 l m e1]
theorem j4: ∀(l m:List AV),ga l m=true→l=m
 | [],[],_=>rfl
 | [],_::_,e=>by cases e
 | _::_,[],e=>by cases e
 | a::l,b::m,e=>by
   obtain ⟨h1,h2⟩:=aU.1 (show bc (eC a b) (ga l m) false=true from e)
   rw [nY a b h1,j4 l m h2]
end
section
variable {P:Program} {n:Nat} {ops:Array Oper} {A:Nat→Nat} {es:List NO} {μ0:Mp} {h0:Hp} {w0:World} {t0:T} {s:Nat} {fr:Nat→T} {v:Nat→AV} {bk:Nat→Nat} {al:Nat→Bool} {t t' t1:T} {h h' h1:Hp} {ps:List PD}
 {D:Nat→Prop} {μ:Mp} {a:Act} {w:World}
theorem yK {f:nJ} {u:AV} (e:again f t u h=true):bP f t h= .ok u:=by
 unfold again at e
 cases hq:bP f t h with
 | no=>rw [hq] at e;cases e
 | ok x=>
   rw [hq] at e
   rw [nY u x e]
theorem l4 {d:Option Nat} {y:Value} {i:Nat} (hd:d≠some i):(a.put d y).tmps.getD i Go.undef=a.tmps.getD i Go.undef:=by
 cases d with
 | none=>rfl
 | some d=>simp [Act.put,Array.getElem?_setIfInBounds_ne (fun e=>hd (congrArg some e))]
theorem kN {y:Value} {i:Nat} (hi:i < a.tmps.size):(a.put (some i) y).tmps.getD i Go.undef=y:=by
 simp [Act.put,hi]
theorem CD {call:aL} (av:Good P call) {o:Oper} {q:sY} {u:AV} {h2:Hp} (hs:bh μ h w) (hx:f_ μ t a.eval o.op.operands.toList) (hc:bV P o.op= .e q) (hv:rM q call t h= .ok u h2)
  {next:Act→World→Prop} {Q:Exit→Act→World→Prop} (hn: ∀μ' w' y,VR μ' u y→bh μ' h2 w'→bF μ h w μ' h2 w'→next (a.put o.dst y) w'):o.wp P a w next Q:=by
 unfold Oper.wp
 by_cases hcall: ∃f xs,q= .call f xs
 ·obtain ⟨f,xs,rfl⟩:=hcall
  obtain ⟨c,g0,ho,hcal,hf,hxs⟩:=sh hc
  obtain ⟨fid,asq,bs,hfv,e2⟩:=ot (show ((aD f t).jY RV.no fun g a b=>call g (app a (app (eS xs t) b)) h)= .ok u h2 from hv) nofun
  have rf:=hx g0 (by rw [ho];simp [Op.operands,Call.operands,hcal]) f hf
  rw [hfv,VR_func] at rf
  obtain ⟨as',bs',hg0,ra,rb⟩:=rf
  have rxs:=fB hxs hx (fun x hm=>by rw [ho];simp [Op.operands,Call.operands,hcal];right;simpa using hm)
  rw [cI,cI] at e2
  have rall:bg μ (asq++(eS xs t++bs)) ((as'++c.args.map a.eval)++bs').toList:=by
   rw [Array.toList_append,Array.toList_append,List.append_assoc]
   exact ra.append (rxs.append rb)
  obtain ⟨hent,hcalls⟩:=av fid _ h u h2 μ w _ e2 hs rall
  have hrun:(execOp a.eval o).run P w= .ok (.enter fid ((as'++c.args.map a.eval)++bs')) w:=by
   unfold execOp
   rw [ho]
   simp only [resolve,hcal,hg0,Deferred.ofValue,Sem.run_bind,Sem.run_pure,Result.andThen_ok,invoke]
   exact lS hent _
  rw [hrun,Oper.upon_enter]
  refine hcalls.mono fun e w' hR=>?_
  obtain ⟨μ',y,rfl,ry,hs',g'⟩:=hR
  exact hn _ _ _ ry hs' g'
 ·obtain ⟨μ',w',nx,hrun,g',hs',hval⟩:=qb hs hc (fun f xs hh=>hcall ⟨f,xs,hh⟩) hx hv
  rw [hrun]
  rcases hval with ⟨y,rfl,ry⟩ | ⟨rfl,rfl⟩
  ·exact hn _ _ _ ry hs' g'
  ·exact hn _ _ _ gQ hs' g'
theorem CE (st:Static P n ops A) (m:xN P n ops A es μ0 h0 w0 t0 s fr v bk al t h ps D μ a w) {k:Nat} (hread:aZ ps k h=true) (hkl:k≤es.length) (hdone: ∀j e,es[j]? =some e→j < k→D e.i)
  {i:Nat} (hsi:s.testBit i=true) (hDi: ¬D i) (hready: ∀l,(A i).testBit l=true→D l) {K:Act→World→Prop} {Q:Exit→Act→World→Prop}
  (hK: ∀a' w' μ',xN P n ops A es μ0 h0 w0 t0 s fr v bk al t h ps (fun j=>D j∨j=i) μ' a' w'→K a' w'):wpOp P ops Q i K a w:=by
 obtain ⟨o,g,r⟩:=m.recs i hsi hDi
 have hwi: ∀d,Wr ops i d→o.dst=some d:=fun d ⟨o',h1,h2⟩=>by rw [r.op] at h1;cases h1;exact h2
 have fin: ∀(μ':Mp) (w':World) (y:Value),μ.Le μ'→bh μ' h w'→bF μ0 h0 w0 μ' h w'→(∀j,s.testBit j=true→¬D j→j≠i→al j=true→μ.at_ (bk j)=Option.none→μ'.at_ (bk j)=Option.none)→VR μ' (v i) y→K (a.put o.dst y) w':=fun μ' w' y hle hs' g' hpend ry=>by
  refine hK _ _ μ' ⟨fun j hj=>hj.elim (m.sub j) (fun e=>e ▸ hsi),fun j hj l hl=> .inl (hj.elim (fun hj=>m.down j hj l hl) (fun e=>hready l (e ▸ hl))),m.sdown,fun d j hw hnd=>?_,fun d hd=>?_,m.same,fun j hj hnd=>?_,
   fun j j' hj hnd hj' hnd'=>m.apart j j' hj (fun h=>hnd (.inl h)) hj' (fun h=>hnd' (.inl h)),fun j hj hnd=>m.bkl j hj (fun h=>hnd (.inl h)),hs',g',by rw [put_defers];exact m.defers,by rw [fN];exact m.size⟩
  ·have hne:j≠i:=fun e=>hnd (.inr e)
   rw [l4 (fun hh=>hne (st.uniq _ _ _ hw ⟨o,r.op,hh⟩))]
   exact (m.late d j hw fun h=>hnd (.inl h)).mono hle _ _
  ·by_cases hod:o.dst=some d
   ·rw [r.dst d hod,hod,kN (by rw [m.size];exact r.lt d hod)]
    exact ry
   ·rw [l4 hod]
    exact (m.done d fun j hj=>(hd j hj).resolve_right fun e=>hod (hwi d (e ▸ hj))).mono hle _ _
  ·have hne:j≠i:=fun e=>hnd (.inr e)
   obtain ⟨o',g'',r'⟩:=m.recs j hj fun h=>hnd (.inl h)
   refine ⟨o',g'',r'.op,r'.grd,r'.lt,r'.dst,r'.fr1,r'.fr2,r'.fr3,?_⟩
   rcases r'.kind with k | ⟨k1,k2 | ⟨f,mk,y,k2,k3,k4,k5,k6,k7,k8,k9⟩⟩
   ·exact .inl k
   ·exact .inr ⟨k1, .inl k2⟩
   ·exact .inr ⟨k1, .inr ⟨f,mk,y,k2,k3,k4,hpend j hj (fun h=>hnd (.inl h)) hne k9 k5,k6,k7,k8,k9⟩⟩
 have hwant:wanted g (fr i)=Region.wanted o (yielded ops a.tmps):=mL (μ:=μ) r.grd fun j want d hgd hjd=>by
  have hw:Wr ops j d:=by
   cases hj:ops[j]? with
   | none=>rw [hj] at hjd;cases hjd
   | some oj=>rw [hj] at hjd;exact ⟨oj,hj,hjd⟩
  have hb:=st.guard i o j want r.op hgd
  rw [r.fr1 d j hw hb]
  exact m.done d fun j' hj'=>by rw [st.uniq _ _ _ hj' hw];exact hready j hb
 have hx:f_ μ (fr i) a.eval o.op.operands.toList:=oJ fun d hrd=>by
  by_cases hex: ∃j,Wr ops j d
  ·obtain ⟨j,hw⟩:=hex
   cases hb:(A i).testBit j with
   | true=>
     rw [r.fr1 d j hw hb]
     exact m.done d fun j' hj'=>by rw [st.uniq _ _ _ hj' hw];exact hready j hb
   | false=>
     rw [r.fr2 d j hrd hw hb]
     obtain ⟨_,hor⟩:=st.order i j d o r.op hrd hw
     exact m.late d j hw fun hDj=>hDi (m.down j hDj i (hor.resolve_left (by rw [hb];nofun)))
  ·have hnw: ∀j,¬Wr ops j d:=fun j hj=>hex ⟨j,hj⟩
   rw [r.fr3 d hnw,←m.same d fun j hj=>absurd hj (hnw j)]
   exact m.done d fun j hj=>absurd hj (hnw j)
 unfold wpOp
 rw [r.op]
 simp only []
 rw [←hwant]
 rcases r.kind with ⟨k1,k2⟩ | ⟨k1,⟨f,hi,k2,k3,k4⟩ | ⟨f,mk,x,k2,k3,k4,k5,k6,k7,k8,k9⟩⟩
 ·rw [k1,if_neg (by nofun)]
  exact fin μ w _ (.refl μ) m.sim m.goes (fun _ _ _ _ _ h=>h) (by rw [k2];exact gQ)
 ·rw [k1,if_pos rfl]
  have hhi: ¬hi < k:=fun hlt=>by
   have hle:hi < es.length:=by omega
   exact hDi (m.down _ (hdone hi es[hi] (List.getElem?_eq_getElem hle) hlt) i (k4 _ (List.getElem?_eq_getElem hle)))
  have hag:=(aX.1 hread) _ k3
  have hag:bc (Nat.blt hi k) true (again f (fr i) (v i) h)=true:=hag
  rw [eD,if_neg hhi] at hag
  obtain ⟨y,hy,ry⟩:=r9 m.sim k2 hx (yK hag)
  refine .inl ?_
  unfold Oper.wp
  rw [hy]
  exact fin μ w y (.refl μ) m.sim m.goes (fun _ _ _ _ _ h=>h) ry
 ·rw [k1,if_pos rfl]
  obtain ⟨y,w',ob,kk,hrun,hp,hmk⟩:=sd (w:=w) k2 hx k3
  have hle:=oF (n:=kk) m.sim k5
  obtain ⟨ry,hblk⟩:=hmk (μ.ext (bk i) w.heap.size 0 kk) (bk i) hle (if_pos rfl) (if_pos rfl) (if_pos rfl)
  refine .inl ?_
  unfold Oper.wp
  rw [hrun]
  refine fin (μ.ext (bk i) w.heap.size 0 kk) w' y hle (m.sim.yr k5 hp k6 (fun _ _=>rfl) k7 (Nat.le_refl _) (si k3) hblk) ?_ (fun j hj hnd hne aj hn=>?_) (by rw [k4];exact ry)
  ·have G:=m.goes
   refine ⟨G.next,fun b hb=>?_,fun c hc=>?_,fun c hc=>?_,by rw [hp.size];have:=G.heap;omega,fun c hc ho=>?_,G.ghost,hp.os.trans G.os,hp.tape.trans G.tape,hp.output.trans G.output⟩
   ·show (if b=bk i then _ else _)=_
    rw [if_neg (by omega)];exact G.at_ b hb
   ·have:=G.heap
    show (if c=w.heap.size then _ else _)=_
    rw [if_neg (by omega)];exact G.own c hc
   ·have:=G.heap
    show (if c=w.heap.size then _ else _)=_
    rw [if_neg (by omega)];exact G.size c hc
   ·have:=G.heap
    rw [hp.eM (by omega)];exact G.kept c hc ho
  ·show (if bk j=bk i then _ else _)=_
   rw [if_neg (m.apart j i hj hnd hsi hDi aj k9 hne)];exact hn
theorem Ju (st:Static P n ops A) (m:xN P n ops A es μ0 h0 w0 t0 s fr v bk al t h ps D μ a w) {call:aL} (av:Good P call) {e:NO} (hop:ops[e.i]? =some e.p) (hqo:e.o=eQ P n ops e.p) (hise:sZ e.o.op=true)
  (hsub:A e.i &&& s=A e.i) (hnew:s.testBit e.i=false) (hready: ∀l,(A e.i).testBit l=true→D l) (ev:vu call e.o t h= .ok t1 h1) {K:Act→World→Prop} {Q:Exit→Act→World→Prop}
  (hK: ∀a' w' μ',xN P n ops A es μ0 h0 w0 t0 (s ||| 2 ^ e.i) fr v bk al t1 h1 ps (fun j=>D j∨j=e.i) μ' a' w'→K a' w'):wpOp P ops Q e.i K a w:=by
 have hDe: ¬D e.i:=fun hd=>by rw [m.sub _ hd] at hnew;cases hnew
 obtain ⟨g,hq,hg,hlt⟩: ∃g,e.o=⟨e.p.dst,bV P e.p.op,g⟩∧dP ops e.p.guard=some g∧∀i,e.p.dst=some i→i < n:=by
  rcases mM (P:=P) (n:=n) (ops:=ops) (o:=e.p) with ⟨g,k1,k2,k3⟩ | k1
  ·exact ⟨g,hqo.trans k1,k2,k3⟩
  ·rw [hqo,k1] at hise;cases hise
 have hwr: ∀d,e.p.dst=some d→Wr ops e.i d:=fun d hd=>⟨e.p,hop,hd⟩
 have hwi: ∀d,Wr ops e.i d→e.p.dst=some d:=fun d ⟨o',k1,k2⟩=>by rw [hop] at k1;cases k1;exact k2
 have fin: ∀(u:AV) (h2:Hp) (μ':Mp) (w':World) (y:Value),t1=dx e.p.dst u t→h1=h2→bh μ' h2 w'→bF μ h w μ' h2 w'→VR μ' u y→K (a.put e.p.dst y) w':=fun u h2 μ' w' y ht hh hs' g' ry=>by
  subst ht;subst hh
  have hle:=g'.le m.sim
  refine hK _ _ μ' ⟨fun j hj=>bH.2 (hj.imp (m.sub j) id),fun j hj l hl=> .inl (hj.elim (fun hj=>m.down j hj l hl) (fun e=>hready l (e ▸ hl))),fun j hj l hl=>?_,fun d j hw hnd=>?_,fun d hd=>?_,fun d hd=>?_,fun j hj hnd=>?_,
   fun j j' hj hnd hj' hnd'=>m.apart j j' ((bH.1 hj).resolve_right fun e=>hnd (.inr e)) (fun h=>hnd (.inl h)) ((bH.1 hj').resolve_right fun e=>hnd' (.inr e)) (fun h=>hnd' (.inl h)),
   fun j hj hnd aj=>Nat.lt_of_lt_of_le (m.bkl j ((bH.1 hj).resolve_right fun e=>hnd (.inr e)) (fun h=>hnd (.inl h)) aj) g'.next,hs',m.goes.trans g',by rw [put_defers];exact m.defers,by rw [fN];exact m.size⟩
  ·rcases bH.1 hj with hj | rfl
   ·exact bH.2 (.inl (m.sdown j hj l hl))
   ·exact bH.2 (.inl (oQ hsub hl))
  ·have hne:j≠e.i:=fun e=>hnd (.inr e)
   rw [l4 (fun hh=>hne (st.uniq _ _ _ hw (hwr d hh)))]
   exact (m.late d j hw fun h=>hnd (.inl h)).mono hle _ _
  ·by_cases hod:e.p.dst=some d
   ·rw [hod,l3,kN (by rw [m.size];exact hlt d hod)]
    exact ry
   ·rw [jv hod,l4 hod]
    exact (m.done d fun j hj=>(hd j hj).resolve_right fun e'=>hod (hwi d (e' ▸ hj))).mono hle _ _
  ·rw [jv (fun hh=>by
    have:=hd _ (hwr d hh)
    rw [bH.2 (.inr rfl)] at this;cases this)]
   refine m.same d fun j hj=>?_
   have:=hd j hj
   cases hb:s.testBit j with
   | false=>rfl
   | true=>rw [bH.2 (.inl hb)] at this;cases this
  ·have hne:j≠e.i:=fun e=>hnd (.inr e)
   have hj:=(bH.1 hj).resolve_right hne
   obtain ⟨o',g'',r⟩:=m.recs j hj fun h=>hnd (.inl h)
   refine ⟨o',g'',r.op,r.grd,r.lt,fun d hd=>?_,fun d j' hw hb=>?_,r.fr2,r.fr3,?_⟩
   ·rw [jv (fun hh=>hne (st.uniq _ _ _ ⟨o',r.op,hd⟩ (hwr d hh)))];exact r.dst d hd
   ·rw [jv (fun hh=>by
     obtain rfl:=st.uniq _ _ _ hw (hwr d hh)
     have:=m.sdown j hj _ hb
     rw [hnew] at this;cases this)]
    exact r.fr1 d j' hw hb
   ·rcases r.kind with k | ⟨k1,k2 | ⟨f,mk,y,k2,k3,k4,k5,k6,k7,k8,k9⟩⟩
    ·exact .inl k
    ·exact .inr ⟨k1, .inl k2⟩
    ·exact .inr ⟨k1, .inr ⟨f,mk,y,k2,k3,k4,by rw [g'.at_ _ k7];exact k5,(fun z hz=>(g'.ghost _ k7 k5).elim (fun e=>k6 z (e ▸ hz)) fun e=>nomatch (e.symm.trans hz)),Nat.lt_of_lt_of_le k7 g'.next,k8,k9⟩⟩
 have hwant:wanted g t=Region.wanted e.p (yielded ops a.tmps):=mL (μ:=μ) hg fun j want d hgd hjd=>by
  have hw:Wr ops j d:=by
   cases hj:ops[j]? with
   | none=>rw [hj] at hjd;cases hjd
   | some oj=>rw [hj] at hjd;exact ⟨oj,hj,hjd⟩
  have hb:=st.guard e.i e.p j want hop hgd
  exact m.done d fun j' hj'=>by rw [st.uniq _ _ _ hj' hw];exact hready j hb
 have hx:f_ μ t a.eval e.p.op.operands.toList:=oJ fun d hrd=>by
  by_cases hex: ∃j,Wr ops j d
  ·obtain ⟨j,hw⟩:=hex
   cases hb:(A e.i).testBit j with
   | true=>exact m.done d fun j' hj'=>by rw [st.uniq _ _ _ hj' hw];exact hready j hb
   | false=>
     obtain ⟨_,hor⟩:=st.order e.i j d e.p hop hrd hw
     have hje:(A j).testBit e.i=true:=hor.resolve_left (by rw [hb];nofun)
     rw [m.same d fun j' hj'=>by
      obtain rfl:=st.uniq _ _ _ hj' hw
      cases hsj:s.testBit j' with
      | false=>rfl
      | true=>have:=m.sdown _ hsj _ hje;rw [hnew] at this;cases this]
     exact m.late d j hw fun hDj=>hDe (m.down j hDj _ hje)
  ·exact m.done d fun j hj=>absurd ⟨j,hj⟩ hex
 rw [yG,hq] at ev
 simp only [] at ev
 unfold wpOp
 rw [hop]
 simp only []
 rw [←hwant]
 split at ev
 ·rename_i hw
  rw [hw,if_pos rfl]
  refine .inl ?_
  rw [hq] at hise
  cases hc:bV P e.p.op with
  | q f=>rw [hc] at hise;cases hise
  | l f=>rw [hc] at hise;cases hise
  | e f=>
    rw [hc] at ev
    obtain ⟨u,h2,hu,e1⟩:=uk (show (rM f call t h).then (fun v h=> .ok (dx e.p.dst v t) h)= .ok t1 h1 from ev)
    cases e1
    exact CD av m.sim hx hc hu fun μ' w' y ry hs' g'=>fin u _ μ' w' y rfl rfl hs' g' ry
 ·rename_i hw
  rw [if_neg hw]
  cases ev
  exact fin undef h μ w _ rfl rfl m.sim (.refl m.sim) gQ
end
end Eng
end
section
set_option linter.unusedVariables false
set_option linter.unusedSimpArgs false
namespace Eng
open Go Go.RowKit
section
variable {P:Program} {n:Nat} {ops:Array Oper} {A:Nat→Nat} {es:List NO} {μ0:Mp} {h0:Hp} {w0:World} {t0:T} {s:Nat} {fr:Nat→T} {v:Nat→AV} {bk:Nat→Nat} {al:Nat→Bool} {t t' t1:T} {h h' h1:Hp} {ps:List PD}
 {D:Nat→Prop} {μ:Mp} {a:Act} {w:World}
structure mP (P:Program) (n:Nat) (ops:Array Oper) (A:Nat→Nat) (q:NO):Prop where
 op:ops[q.i]? =some q.p
 o:q.o=eQ P n ops q.p
 a:q.a=A q.i
theorem mP.same {q e:NO} (hq:mP P n ops A q) (he:mP P n ops A e) (h:q.i=e.i):q.o=e.o:=by
 have h1:=hq.op
 rw [h,he.op] at h1
 rw [hq.o,he.o,Option.some.inj h1]
def oR (P:Program) (n:Nat) (ops:Array Oper) (A:Nat→Nat):It→Prop
 | .op _ _ q=>mP P n ops A q∧sZ q.o.op=false
 | .i_ _ e=>mP P n ops A e∧sZ e.o.op=true
 | .last _=>True
theorem uu {k hi m:Nat} {q:NO} {r:List It} (e:kV es m (.op k hi q::r) s=true):q.a &&& s=q.a∧s.testBit q.i=false∧behind es q k=true∧ahead es q hi=true∧kV es m r (s ||| 2 ^ q.i)=true:=by
 simp only [kV,Bool.and_eq_true,Bool.not_eq_true'] at e
 obtain ⟨⟨⟨⟨h1,h2⟩,h3⟩,h4⟩,h5⟩:=e
 exact ⟨Nat.eq_of_beq_eq_true h1,h2,h3,h4,h5⟩
theorem oS {k m:Nat} {q:NO} {r:List It} (e:kV es m (.i_ k q::r) s=true):q.a &&& s=q.a∧s.testBit q.i=false∧behind es q k=true∧(∃e',es[k]? =some e'∧e'.i=q.i)∧kV es m r (s ||| 2 ^ q.i)=true:=by
 simp only [kV,Bool.and_eq_true,Bool.not_eq_true'] at e
 obtain ⟨⟨⟨⟨h1,h2⟩,h3⟩,h4⟩,h5⟩:=e
 refine ⟨Nat.eq_of_beq_eq_true h1,h2,h3,?_,h5⟩
 split at h4
 ·rename_i e' he;exact ⟨e',he,Nat.eq_of_beq_eq_true h4⟩
 ·cases h4
theorem la {m:Nat}: ∀{its:List It} {s:Nat},kV es m its s=true→∀i,m.testBit i=true→
  s.testBit i=true∨(∃k hi q,It.op k hi q ∈ its∧q.i=i∧behind es q k=true)∨∃k q,It.i_ k q ∈ its∧q.i=i∧behind es q k=true
 | [],s,e,i,hi=>by cases e
 | .op k hi q::r,s,e,i,hm=>by
   obtain ⟨_,_,h3,_,h5⟩:=uu e
   rcases la h5 i hm with h | ⟨k',hi',q',h6,h7⟩ | ⟨k',q',h6,h7⟩
   ·rcases bH.1 h with h | rfl
    ·exact .inl h
    ·exact .inr (.inl ⟨k,hi,q,List.mem_cons_self,rfl,h3⟩)
   ·exact .inr (.inl ⟨k',hi',q',List.mem_cons_of_mem _ h6,h7⟩)
   ·exact .inr (.inr ⟨k',q',List.mem_cons_of_mem _ h6,h7⟩)
 | .i_ k q::r,s,e,i,hm=>by
   obtain ⟨_,_,h3,_,h5⟩:=oS e
   rcases la h5 i hm with h | ⟨k',hi',q',h6,h7⟩ | ⟨k',q',h6,h7⟩
   ·rcases bH.1 h with h | rfl
    ·exact .inl h
    ·exact .inr (.inr ⟨k,q,List.mem_cons_self,rfl,h3⟩)
   ·exact .inr (.inl ⟨k',hi',q',List.mem_cons_of_mem _ h6,h7⟩)
   ·exact .inr (.inr ⟨k',q',List.mem_cons_of_mem _ h6,h7⟩)
 | .last k::r,s,e,i,hm=>by
   have:s=m:=Nat.eq_of_beq_eq_true (show Nat.beq s m=true from e)
   rw [this];exact .inl hm
theorem qQ: ∀(st:List (List (NO×Nat)×Option NO)) (k:Nat),(∀j hi q,It.op j hi q ∈ flat k st→k≤j)∧∀j q,It.i_ j q ∈ flat k st→k≤j
 | [],k=>⟨fun _ _ _ h=>by simp [flat] at h,fun _ _ h=>by simp [flat] at h⟩
 | (qs,some e)::r,k=>by
   obtain ⟨h1,h2⟩:=qQ r (k+1)
   refine ⟨fun j hi q h=>?_,fun j q h=>?_⟩
   ·simp only [flat,List.mem_append,List.mem_map,List.mem_cons] at h
    rcases h with ⟨x,_,hx⟩ | hx | hx
    ·cases hx;exact Nat.le_refl _
    ·cases hx
    ·have:=h1 j hi q hx;omega
   ·simp only [flat,List.mem_append,List.mem_map,List.mem_cons] at h
    rcases h with ⟨x,_,hx⟩ | hx | hx
    ·cases hx
    ·cases hx;exact Nat.le_refl _
    ·have:=h2 j q hx;omega
 | (qs,none)::r,k=>by
   refine ⟨fun j hi q h=>?_,fun j q h=>?_⟩
   ·simp only [flat,List.mem_append,List.mem_map,List.mem_singleton] at h
    rcases h with ⟨x,_,hx⟩ | hx
    ·cases hx;exact Nat.le_refl _
    ·cases hx
   ·simp only [flat,List.mem_append,List.mem_map,List.mem_singleton] at h
    rcases h with ⟨x,_,hx⟩ | hx
    ·cases hx
    ·cases hx
theorem gS (st:Static P n ops A) (hes0: ∀e ∈ es,mP P n ops A e∧sZ e.o.op=true) {call:aL} {k m:Nat} {tail:List It}: ∀(qs:List (NO×Nat)) {s:Nat} {fr:Nat→T} {v:Nat→AV} {bk:Nat→Nat} {al:Nat→Bool} {t:T} {h:Hp} {ps:List PD},
  xN P n ops A es μ0 h0 w0 t0 s fr v bk al t h ps D μ a w→qc call (qs.map (fun q=>It.op k q.2 q.1)++tail) t h ps t' h'→kV es m (qs.map (fun q=>It.op k q.2 q.1)++tail) s=true→
  (∀it ∈ qs.map (fun q=>It.op k q.2 q.1)++tail,oR P n ops A it)→(∀j e,es[j]? =some e→s.testBit e.i=true→j < k)→
  ∃s' fr' v' bk' al' t1 h1 ps1,xN P n ops A es μ0 h0 w0 t0 s' fr' v' bk' al' t1 h1 ps1 D μ a w∧qc call tail t1 h1 ps1 t' h'∧kV es m tail s'=true∧(∀j e,es[j]? =some e→s'.testBit e.i=true→j < k)
 | [],s,fr,v,bk,al,t,h,ps,md,tr,ok,fine,hes=>⟨s,fr,v,bk,al,t,h,ps,md,tr,ok,hes⟩
 | q::qs,s,fr,v,bk,al,t,h,ps,md,tr,ok,fine,hes=>by
   obtain ⟨h1,h2,_,h4,h5⟩:=uu (show kV es m (It.op k q.2 q.1::(qs.map (fun q=>It.op k q.2 q.1)++tail)) s=true from ok)
   obtain ⟨hno,hne⟩:mP P n ops A q.1∧sZ q.1.o.op=false:=fine (.op k q.2 q.1) (by simp)
   rw [hno.a] at h1
   obtain ⟨fr',v',bk',al',t1,h1',ps1,tr1,md1⟩:=Jt st md (show qc call (It.op k q.2 q.1::(qs.map (fun q=>It.op k q.2 q.1)++tail)) t h ps t' h' from tr) hno.op hno.o h1 h2 (fun e he=>by
    have hh:(match es[q.2]? with | some e=>e.a.testBit q.1.i | none=>true)=true:=h4
    rw [he] at hh
    rw [←(hes0 e (List.mem_of_getElem? he)).1.a];exact hh)
   refine gS st hes0 qs md1 tr1 h5 (fun it hit=>fine it (List.mem_cons_of_mem _ hit)) fun j e he hb=>?_
   rcases bH.1 hb with hb | hb
   ·exact hes j e he hb
   ·obtain ⟨he1,he2⟩:=hes0 e (List.mem_of_getElem? he)
    rw [he1.same hno hb,hne] at he2;cases he2
theorem tz {q:NO} {k:Nat} (h:behind es q k=true):k=0∨∃j e,k=j+1∧es[j]? =some e∧q.a.testBit e.i=true:=by
 cases k with
 | zero=>exact .inl rfl
 | succ j=>
   right
   have h:(match es[j]? with | some e=>q.a.testBit e.i | none=>false)=true:=h
   split at h
   ·rename_i e he;exact ⟨j,e,rfl,he,h⟩
   ·cases h
theorem sk {md:Region.Mode} (st:Static P n ops A) (ends:Ends md ops) (hes0: ∀e ∈ es,mP P n ops A e∧sZ e.o.op=true) (hnd: ∀(j k:Nat) (e f:NO),es[j]? =some e→es[k]? =some f→e.i=f.i→j=k) {call:aL} (av:Good P call)
  {Q:Exit→Act→World→Prop} (hQ: ∀a w μ,TR μ t' a.tmps→bh μ h' w→bF μ0 h0 w0 μ h' w→a.defers= []→a.tmps.size=n→Q .normal a w):
  ∀(fuel:Nat) (listed:Array Bool) (k:Nat) (its:List It) (s:Nat) (fr:Nat→T) (v:Nat→AV) (bk:Nat→Nat) (al:Nat→Bool) (t:T) (h:Hp) (ps:List PD) (μ:Mp) (a:Act) (w:World),
   listed.size=ops.size→fuel+count listed=ops.size→xN P n ops A es μ0 h0 w0 t0 s fr v bk al t h ps (fun i=>listed.getD i false=true) μ a w→qc call its t h ps t' h'→kV es (2 ^ ops.size - 1) its s=true→
   (∀it ∈ its,oR P n ops A it)→((∃e st',its= .i_ k e::flat (k+1) st')∨∃r,its= .last k::r)→(∀j e,es[j]? =some e→(listed.getD e.i false=true ↔ j < k))→
   (∀j e,es[j]? =some e→s.testBit e.i=true→j < k)→k≤es.length→wpAny P md ops Q fuel listed a w:=by
 intro fuel
 have last: ∀(listed:Array Bool) (k:Nat) (its:List It) (s:Nat) (fr:Nat→T) (v:Nat→AV) (bk:Nat→Nat) (al:Nat→Bool) (t:T) (h:Hp) (ps:List PD) (μ:Mp) (a:Act) (w:World),
   listed.size=ops.size→xN P n ops A es μ0 h0 w0 t0 s fr v bk al t h ps (fun i=>listed.getD i false=true) μ a w→qc call its t h ps t' h'→kV es (2 ^ ops.size - 1) its s=true→
   (∀it ∈ its,oR P n ops A it)→((∃e st',its= .i_ k e::flat (k+1) st')∨∃r,its= .last k::r)→(∀i,listed.getD i true=true)→Q .normal a w:=by
  intro listed k its s fr v bk al t h ps μ a w hsz m tr ok fine hits hall
  have hD: ∀i,i < ops.size→listed.getD i false=true:=fun i hi=>by
   have:=hall i
   have hlt:i < listed.size:=by omega
   simp [Array.getElem?_eq_getElem hlt] at this ⊢
   exact this
  rcases hits with ⟨e,st',rfl⟩ | ⟨r,rfl⟩
  ·exfalso
   obtain ⟨_,h2,_⟩:=oS ok
   have hno:mP P n ops A e:=(fine (.i_ k e) List.mem_cons_self).1
   have:=m.sub e.i (hD e.i (Array.getElem?_eq_some_iff.1 hno.op).1)
   rw [h2] at this;cases this
  ·cases tr
   refine hQ a w μ (fun d=>m.done d fun j hj=>?_) m.sim m.goes m.defers m.size
   obtain ⟨o,ho,_⟩:=hj
   exact hD j (Array.getElem?_eq_some_iff.1 ho).1
 induction fuel with
 | zero=>
   intro listed k its s fr v bk al t h ps μ a w hsz hcnt m tr ok fine hits hdone hes hk
   have hall: ∀i,listed.getD i true=true:=oO (by omega)
   refine ⟨?_,last listed k its s fr v bk al t h ps μ a w hsz m tr ok fine hits hall⟩
   rw [List.eq_nil_iff_forall_not_mem]
   intro i hi
   have:=(mem_ready.1 hi).1
   rw [hall i] at this;cases this
 | succ fuel ih=>
   intro listed k its s fr v bk al t h ps μ a w hsz hcnt m tr ok fine hits hdone hes hk
   refine ⟨fun hr=>last listed k its s fr v bk al t h ps μ a w hsz m tr ok fine hits (ends listed hsz hr),fun i hi=>?_⟩
   obtain ⟨hnl,o,ho,hall⟩:=mem_ready.1 hi
   have hlt:i < ops.size:=(Array.getElem?_eq_some_iff.1 ho).1
   have hDi: ¬listed.getD i false=true:=fun hh=>by
    have hlt':i < listed.size:=by omega
    simp [Array.getElem?_eq_getElem hlt'] at hh hnl
    rw [hh] at hnl;cases hnl
   have hready: ∀l,(A i).testBit l=true→listed.getD l false=true:=fun l hl=>by
    obtain ⟨e,he,hb,hor⟩:=st.anc i o l ho hl
    have hbm:Region.binds md e=true:=by
     cases md with
     | text=>exact j3 hb
     | gc=>exact qP hb
     | any=>exact hb
    have:=hall e he hbm
    rcases hor with rfl | hor
    ·exact this
    ·exact m.down e.on this l hor
   have hD':(fun j=>listed.getD j false=true∨j=i)=fun j=>(listed.setIfInBounds i true).getD j false=true:=by
    funext j
    apply propext
    by_cases hji:j=i
    ·subst hji
     have hlt':j < listed.size:=by omega
     simp [hlt']
    ·rw [getD_set_ne false (fun e=>hji e.symm)]
     simp [hji]
   have hcnt':fuel+count (listed.setIfInBounds i true)=ops.size:=by rw [count_set hnl];omega
   have hsz':(listed.setIfInBounds i true).size=ops.size:=by simpa using hsz
   have hrd:aZ ps k h=true:=by
    rcases hits with ⟨e,st',rfl⟩ | ⟨r,rfl⟩
    ·cases tr;assumption
    ·cases tr;assumption
   by_cases hsi:s.testBit i=true
   ·-- one that stands ahead
    refine CE st m hrd hk (fun j e he hj=>(hdone j e he).2 hj) hsi hDi hready fun a' w' μ' m'=>?_
    rw [hD'] at m'
    refine ih _ k its s fr v bk al t h ps μ' a' w' hsz' hcnt' m' tr ok fine hits (fun j e he=>?_) hes hk
    rw [←hdone j e he]
    by_cases hei:e.i=i
    ·have hjk:=hes j e he (by rw [hei];exact hsi)
     have:=(hdone j e he).2 hjk
     rw [hei] at this
     exact absurd this hDi
    ·rw [getD_set_ne false (fun e=>hei e.symm)]
   ·-- it is the next effect
    have hbit:(2 ^ ops.size - 1).testBit i=true:=by rw [Nat.testBit_two_pow_sub_one];simpa using hlt
    have hnot: ∀(q:NO) (kk:Nat),mP P n ops A q→q.i=i→behind es q kk=true→kk≤k:=fun q kk hno hqi hbh=>by
     rcases tz hbh with rfl | ⟨j,e,rfl,he,hb⟩
     ·omega
     ·rw [hno.a,hqi] at hb
      exact (hdone j e he).1 (hready _ hb)
    obtain ⟨e,st',rfl,hei⟩: ∃e st',its= .i_ k e::flat (k+1) st'∧e.i=i:=by
     rcases hits with ⟨e,st',rfl⟩ | ⟨r,rfl⟩
     ·refine ⟨e,st',rfl,?_⟩
      rcases la ok i hbit with hh | ⟨kk,hi',q,hq,hqi,hbh⟩ | ⟨kk,q,hq,hqi,hbh⟩
      ·exact absurd hh hsi
      ·exfalso
       have:=hnot q kk (fine _ hq).1 hqi hbh
       rcases List.mem_cons.1 hq with hq | hq
       ·cases hq
       ·have:=(qQ st' (k+1)).1 _ _ _ hq
        omega
      ·have:=hnot q kk (fine _ hq).1 hqi hbh
       rcases List.mem_cons.1 hq with hq | hq
       ·cases hq;exact hqi
       ·have:=(qQ st' (k+1)).2 _ _ hq
        omega
     ·exfalso
      have:s=2 ^ ops.size - 1:=Nat.eq_of_beq_eq_true (show Nat.beq s (2 ^ ops.size - 1)=true from ok)
      rw [this] at hsi;exact hsi hbit
    obtain ⟨hno,hise⟩:mP P n ops A e∧sZ e.o.op=true:=fine (.i_ k e) List.mem_cons_self
    obtain ⟨h1,h2,h3,⟨e',he',hee⟩,h5⟩:=oS ok
    rw [hno.a] at h1
    cases tr with
    | i_ _ ev tr=>
      rename_i t1 h1'
      subst hei
      refine Ju st m av hno.op hno.o hise h1 h2 hready ev fun a' w' μ' m'=>?_
      rw [hD'] at m'
      have hkl:k+1≤es.length:=(List.getElem?_eq_some_iff.1 he').1
      have hdone': ∀j f,es[j]? =some f→((listed.setIfInBounds e.i true).getD f.i false=true ↔ j < k+1):=fun j f hf=>by
       by_cases hfe:f.i=e.i
       ·have hjk:j=k:=hnd j k f e' hf he' (hfe.trans hee.symm)
        subst hjk
        rw [hfe]
        have hlt':e.i < listed.size:=by omega
        simp [hlt']
       ·rw [getD_set_ne false (fun e=>hfe e.symm),hdone j f hf]
        constructor
        ·intro hh;omega
        ·intro hh
         rcases Nat.lt_or_ge j k with hjk | hjk
         ·exact hjk
         ·obtain rfl:j=k:=by omega
          rw [hf] at he';cases he'
          exact absurd hee hfe
      have hes': ∀j f,es[j]? =some f→(s ||| 2 ^ e.i).testBit f.i=true→j < k+1:=fun j f hf hb=>by
       rcases bH.1 hb with hb | hb
       ·have:=hes j f hf hb;omega
       ·have:=hnd j k f e' hf he' (hb.trans hee.symm)
        omega
      cases st' with
      | nil=>cases tr
      | cons sg st'=>
        obtain ⟨qs,eo⟩:=sg
        have fine': ∀it ∈ flat (k+1) ((qs,eo)::st'),oR P n ops A it:=fun it hit=>fine it (List.mem_cons_of_mem _ hit)
        cases eo with
        | none=>
          obtain ⟨s',fr',v',bk',al',t2,h2',ps2,m2,tr2,ok2,hes2⟩:=gS st hes0 (k:=k+1) (m:=2 ^ ops.size - 1) (tail:=[It.last (k+1)]) qs m' tr h5 fine' hes'
          exact ih _ (k+1) [It.last (k+1)] s' fr' v' bk' al' t2 h2' ps2 μ' a' w' hsz' hcnt' m2 tr2 ok2 (fun it hit=>fine' it (List.mem_append_right _ hit)) (.inr ⟨[],rfl⟩) hdone' hes2 hkl
        | some f=>
          obtain ⟨s',fr',v',bk',al',t2,h2',ps2,m2,tr2,ok2,hes2⟩:=gS st hes0 (k:=k+1) (m:=2 ^ ops.size - 1) (tail:=It.i_ (k+1) f::flat (k+1+1) st') qs m' tr h5 fine' hes'
          exact ih _ (k+1) _ s' fr' v' bk' al' t2 h2' ps2 μ' a' w' hsz' hcnt' m2 tr2 ok2 (fun it hit=>fine' it (List.mem_append_right _ hit)) (.inl ⟨f,st',rfl⟩) hdone' hes2 hkl
theorem j5 {qs es0:List NO}: ∀(rest:List NO) (k j:Nat),(∀kk hi q,It.op kk hi q ∈ flat j (bO qs es0 rest k)→q ∈ qs)∧∀kk q,It.i_ kk q ∈ flat j (bO qs es0 rest k)→q ∈ rest
 | [],k,j=>by
   refine ⟨fun kk hi q h=>?_,fun kk q h=>?_⟩
   ·simp only [bO,flat,List.mem_append,List.mem_map,List.mem_singleton] at h
    rcases h with ⟨x,⟨y,hy,rfl⟩,hx⟩ | hx
    ·cases hx;exact (List.mem_filter.1 hy).1
    ·cases hx
   ·simp only [bO,flat,List.mem_append,List.mem_map,List.mem_singleton] at h
    rcases h with ⟨x,_,hx⟩ | hx <;> cases hx
 | e::rest,k,j=>by
   obtain ⟨h1,h2⟩:=j5 (qs:=qs) (es0:=es0) rest (k+1) (j+1)
   refine ⟨fun kk hi q h=>?_,fun kk q h=>?_⟩
   ·simp only [bO,flat,List.mem_append,List.mem_map,List.mem_cons] at h
    rcases h with ⟨x,⟨y,hy,rfl⟩,hx⟩ | hx | hx
    ·cases hx;exact (List.mem_filter.1 hy).1
    ·cases hx
    ·exact h1 kk hi q hx
   ·simp only [bO,flat,List.mem_append,List.mem_map,List.mem_cons] at h
    rcases h with ⟨x,_,hx⟩ | hx | hx
    ·cases hx
    ·cases hx;exact List.mem_cons_self
    ·exact List.mem_cons_of_mem _ (h2 kk q hx)
theorem jM {n:Nat}: ∀{os:List Oper} {asq:List Nat} {k:Nat},(bS P n ops os asq k).Pairwise (fun x y=>x.i < y.i)
 | [],asq,k=>by simp [bS]
 | o::os,[],k=>by simp [bS]
 | o::os,a::asq,k=>by
   rw [show bS P n ops (o::os) (a::asq) k=⟨k,eQ P n ops o,a,o⟩::bS P n ops os asq (k+1) from rfl,List.pairwise_cons]
   refine ⟨fun y hy=>?_,jM⟩
   obtain ⟨j,o',_,_,rfl⟩:=ju hy
   show k < k+1+j
   omega
theorem oT {d:Nat} {l:List Operand} (h:Operand.tmp d ∈ l):l.any (s7 d)=true:=by
 rw [List.any_eq_true]
 refine ⟨_,h,?_⟩
 show Nat.beq d d=true
 exact Nat.beq_refl d
theorem bw:iG P (aa P):=fun call N n id ops μ0 h0 w0 Q t h a w av hp st=>by
 unfold aa at hp
 simp only [] at hp
 generalize hA:oe ops.toList [] =asq at hp
 generalize hnos:bS P n ops ops.toList asq 0=nos at hp
 generalize hes:(nos.filter fun n=>sZ n.o.op)=es at hp
 split at hp
 ·rename_i hchk
  simp only [Bool.and_eq_true] at hchk
  obtain ⟨⟨⟨hwd,hfw⟩,hends⟩,hit⟩:=hchk
  obtain ⟨hlen,_,hanc⟩:=ur ops.toList []
  rw [hA] at hlen hanc
  simp at hlen
  have hno: ∀q ∈ nos,mP P n ops (fun i=>asq.getD i 0) q:=fun q hq=>by
   rw [←hnos] at hq
   obtain ⟨j,o,h1,h2,rfl⟩:=ju hq
   rw [Nat.zero_add]
   exact ⟨by rw [←Array.getElem?_toList];exact h1,rfl,rfl⟩
  have az: ∀(i:Nat) (o:Oper),ops[i]? =some o→(⟨i,eQ P n ops o,asq.getD i 0,o⟩:NO)∈ nos:=fun i o ho=>by
   rw [←hnos]
   have hlt:=(Array.getElem?_eq_some_iff.1 ho).1
   have:=lZ (P:=P) (n:=n) (ops:=ops) (os:=ops.toList) (asq:=asq) (k:=0) i o (by rw [Array.getElem?_toList];exact ho) (by omega)
   rw [Nat.zero_add] at this
   exact this
  have wd: ∀x ∈ nos,(∀y ∈ nos,x.i≠y.i→∀d,y.p.dst=some d→x.p.dst≠some d∧(Operand.tmp d ∈ x.p.op.operands.toList→x.a.testBit y.i=true∨y.a.testBit x.i=true))∧
    (∀d,x.p.dst=some d→Operand.tmp d ∉ x.p.op.operands.toList)∧∀j want,x.p.guard=some (j,want)→x.a.testBit j=true:=fun x hx=>by
   unfold p5 at hwd
   have h1:=List.all_eq_true.1 hwd x hx
   simp only [Bool.and_eq_true,List.all_eq_true] at h1
   obtain ⟨⟨h2,h3⟩,h4⟩:=h1
   refine ⟨fun y hy hne d hd=>?_,fun d hd hr=>?_,fun j want hg=>?_⟩
   ·have h5:=h2 y hy
    rw [hd] at h5
    simp only [Bool.or_eq_true,Bool.and_eq_true] at h5
    rcases h5 with h5 | ⟨h5,h6⟩
    ·exact absurd (Nat.eq_of_beq_eq_true h5) hne
    ·refine ⟨fun hxd=>?_,fun hr=>?_⟩
     ·rw [hxd] at h5
      simp at h5
     ·rw [oT hr] at h6
      simpa using h6
   ·rw [hd] at h3
    simp only [] at h3
    rw [oT hr] at h3
    cases h3
   ·rw [hg] at h4;exact h4
  have stat:Static P n ops (fun i=>asq.getD i 0):=by
   refine ⟨fun i j d hi hj=>?_,fun i j d o ho hr hj=>?_,fun i o g want ho hg=>?_,fun i o l ho hl=>?_⟩
   ·obtain ⟨oi,hoi,hdi⟩:=hi
    obtain ⟨oj,hoj,hdj⟩:=hj
    by_cases hij:i=j
    ·exact hij
    ·exact absurd hdi ((wd _ (az i oi hoi)).1 _ (az j oj hoj) hij d hdj).1
   ·obtain ⟨oj,hoj,hdj⟩:=hj
    by_cases hij:i=j
    ·subst hij
     rw [ho] at hoj;cases hoj
     exact absurd hr ((wd _ (az i o ho)).2.1 d hdj)
    ·exact ⟨hij,((wd _ (az i o ho)).1 _ (az j oj hoj) hij d hdj).2 hr⟩
   ·exact (wd _ (az i o ho)).2.2 g want hg
   ·have:=hanc i o (by rw [Array.getElem?_toList];exact ho) l (by rw [List.length_nil,Nat.zero_add];exact hl)
    exact this
  have hes0: ∀e ∈ es,mP P n ops (fun i=>asq.getD i 0) e∧sZ e.o.op=true:=fun e he=>by
   rw [←hes] at he
   obtain ⟨h1,h2⟩:=List.mem_filter.1 he
   exact ⟨hno e h1,h2⟩
  have hnd: ∀(j k:Nat) (e f:NO),es[j]? =some e→es[k]? =some f→e.i=f.i→j=k:=fun j k e f he hf hef=>by
   have hsort:es.Pairwise (fun x y=>x.i < y.i):=by
    rw [←hes,←hnos];exact jM.filter _
   obtain ⟨hj,hje⟩:=List.getElem?_eq_some_iff.1 he
   obtain ⟨hk,hke⟩:=List.getElem?_eq_some_iff.1 hf
   rw [List.pairwise_iff_getElem] at hsort
   rcases Nat.lt_trichotomy j k with hlt | heq | hgt
   ·have:=hsort j k hj hk hlt
    rw [hje,hke] at this;omega
   ·exact heq
   ·have:=hsort k j hk hj hgt
    rw [hje,hke] at this;omega
  obtain ⟨⟨μ,r,hs,g⟩,hdef,hsize⟩:=st
  have hp:kC μ0 h0 w0 n Q ((oo call ((bO (nos.filter fun n=>!sZ n.o.op) es es 0).map fun s=>⟨s.1.map fun q=>(q.1.o,q.2),s.2.map (·.o)⟩) 0 t h []).done):=hp
  cases hev:oo call ((bO (nos.filter fun n=>!sZ n.o.op) es es 0).map fun s=>⟨s.1.map fun q=>(q.1.o,q.2),s.2.map (·.o)⟩) 0 t h [] with
  | no=>rw [hev] at hp;exact hp.elim
  | ok t' h'=>
    rw [hev] at hp
    have hp: ∀a w,At μ0 h0 w0 n t' h' a w→Q .normal a w:=hp
    have tr:=sj _ _ _ _ _ hev
    have fine: ∀it ∈ flat 0 (bO (nos.filter fun n=>!sZ n.o.op) es es 0),oR P n ops (fun i=>asq.getD i 0) it:=fun it hin=>by
     obtain ⟨k1,k2⟩:=j5 (qs:=nos.filter fun n=>!sZ n.o.op) (es0:=es) es 0 0
     cases it with
     | op kk hi q=>
       obtain ⟨h1,h2⟩:=List.mem_filter.1 (k1 kk hi q hin)
       exact ⟨hno q h1,by simpa using h2⟩
     | i_ kk q=>exact hes0 q (k2 kk q hin)
     | last kk=>trivial
    refine yI hfw hends fun md ends=>?_
    have hs2:bh μ h {w with drawn:=w.drawn+1}:=hs.drawn
    have mid0:xN P n ops (fun i=>asq.getD i 0) es μ h {w with drawn:=w.drawn+1} t 0 (fun _=>t) (fun _=>undef) (fun _=>0) (fun _=>false) t h [] (fun i=>(Array.replicate ops.size false).getD i false=true) μ a {w with drawn:=w.drawn+1}:=by
     have hD: ∀i,¬(Array.replicate ops.size false).getD i false=true:=fun i hi=>by
      rw [Array.getD_eq_getD_getElem?,Array.getElem?_replicate] at hi
      split at hi <;> simp at hi
     have hz: ∀i,¬(0:Nat).testBit i=true:=fun i=>by simp
     exact ⟨fun i hi=>absurd hi (hD i),fun i hi=>absurd hi (hD i),fun i hi=>absurd hi (hz i),fun d j _ _=>r d,fun d _=>r d,fun _ _=>rfl,fun i hi=>absurd hi (hz i),fun i j hi=>absurd hi (hz i),fun i hi=>absurd hi (hz i),hs2, .refl hs2,hdef,hsize⟩
    have hcnt:count (Array.replicate ops.size false)=0:=by unfold count;simp
    have hQ: ∀(a:Act) (w':World) (μ':Mp),TR μ' t' a.tmps→bh μ' h' w'→bF μ h {w with drawn:=w.drawn+1} μ' h' w'→a.defers= []→a.tmps.size=n→Q .normal a w':=fun a w' μ' r' hs' g' hd hz=>by
     refine hp a w' ⟨⟨μ',r',hs',?_⟩,hd,hz⟩
     have gd:bF μ h w μ h {w with drawn:=w.drawn+1}:=⟨Nat.le_refl _,fun _ _=>rfl,fun _ _=>rfl,fun _ _=>rfl,Nat.le_refl _,fun _ _ _=>rfl,fun _ _ _=> .inl rfl,rfl,rfl,rfl⟩
     exact (g.trans gd).trans g'
    have hdone0: ∀(j:Nat) (e:NO),es[j]? =some e→((Array.replicate ops.size false).getD e.i false=true ↔ j < 0):=fun j e he=>by
     constructor
     ·intro hi
      rw [Array.getD_eq_getD_getElem?,Array.getElem?_replicate] at hi
      split at hi <;> simp at hi
     ·intro hj;omega
    have hes00: ∀(j:Nat) (e:NO),es[j]? =some e→(0:Nat).testBit e.i=true→j < 0:=fun j e he hb=>by simp at hb
    generalize hst:bO (nos.filter fun n=>!sZ n.o.op) es es 0=stg at tr fine hit
    cases stg with
    | nil=>cases tr
    | cons sg st'=>
      obtain ⟨qs,eo⟩:=sg
      cases eo with
      | none=>
        obtain ⟨s',fr',v',bk',al',t2,h2',ps2,m2,tr2,ok2,hes2⟩:=gS stat hes0 (k:=0) (m:=2 ^ ops.size - 1) (tail:=[It.last 0]) qs mid0 tr hit fine hes00
        exact sk stat ends hes0 hnd av hQ ops.size _ 0 _ s' fr' v' bk' al' t2 h2' ps2 μ a _ (by simp) (by rw [hcnt];rfl) m2 tr2 ok2 (fun it hin=>fine it (List.mem_append_right _ hin)) (.inr ⟨[],rfl⟩) hdone0 hes2 (Nat.zero_le _)
      | some f=>
        obtain ⟨s',fr',v',bk',al',t2,h2',ps2,m2,tr2,ok2,hes2⟩:=gS stat hes0 (k:=0) (m:=2 ^ ops.size - 1) (tail:=It.i_ 0 f::flat (0+1) st') qs mid0 tr hit fine hes00
        exact sk stat ends hes0 hnd av hQ ops.size _ 0 _ s' fr' v' bk' al' t2 h2' ps2 μ a _ (by simp) (by rw [hcnt];rfl) m2 tr2 ok2 (fun it hin=>fine it (List.mem_append_right _ hin)) (.inl ⟨f,st',rfl⟩) hdone0 hes2 (Nat.zero_le _)
 ·exact hp.elim
end
end Eng
end
section
set_option linter.unusedVariables false
set_option linter.unusedSimpArgs false
namespace Eng
open Go Go.RowKit
section
variable {σ:AO→AO→Option AV} {L:List (Nat×AV)} {call:aL} {N:Nat}
end
end Eng
end
section
set_option linter.unusedVariables false
set_option linter.unusedSimpArgs false
namespace Eng
open Go Go.RowKit
section
variable {P:Program} {μ:Mp} {h:Hp} {w w':World}
theorem bh.below (hs:bh μ h w) (b:Below w.heap.size w w'):bh μ h w':=
 ⟨hs.lt,hs.fresh,fun b' c s e=>Nat.lt_of_lt_of_le (hs.eM b' c s e) b.size,fun b' c s x e g=>(hs.fl b' c s x e g).mono (Mp.Le.refl μ) (b.block c (hs.eM b' c s e)) rfl rfl,hs.apart,hs.peer⟩
theorem bF.uv (b:Below w.heap.size w w'):bF μ h w μ h w':=
 ⟨Nat.le_refl _,fun _ _=>rfl,fun _ _=>rfl,fun _ _=>rfl,b.size,fun c hc _=>b.block c hc,fun _ _ _=> .inl rfl,b.os,b.tape,b.output⟩
def Ew (P:Program) (l:List Nat):Prop:= ∀f ∈ l,Enters P f∧∀w,Calls P f #[] w fun e w'=>e= .returned (.bool true)∧Below w.heap.size w w'
def LC (l:List Nat) (f:Nat):Option (List AV→Hp→RV):=
 bc (bl (fun g=>aY (Nat.beq g f)) l) none (some fun args h=>eI (.ok (.bool true) h) (fun _ _=> .no) args)
theorem CF {l:List Nat} (ht:Ew P l):Good P fun f args h=>aA .no (fun m=>m args h) (LC l f):=fun f args h v h' μ w cargs e hs r=>by
 have e:aA RV.no (fun m=>m args h) (bc (bl (fun g=>aY (Nat.beq g f)) l) none (some fun args h=>eI (.ok (.bool true) h) (fun _ _=> .no) args))= .ok v h':=e
 by_cases hm:f ∈ l
 ·have hb:bl (fun g=>aY (Nat.beq g f)) l=false:=by
   cases hh:bl (fun g=>aY (Nat.beq g f)) l with
   | false=>rfl
   | true=>
     have:=aX.1 hh f hm
     rw [Nat.beq_refl] at this;cases this
  rw [hb] at e
  cases args with
  | cons a args=>cases e
  | nil=>
    cases e
    obtain ⟨h1,h2⟩:=ht f hm
    rw [aH] at r
    obtain rfl:cargs= #[] :=Array.toList_eq_nil_iff.1 r
    refine ⟨h1,(h2 w).mono fun e w' ⟨he,hb⟩=>?_⟩
    exact ⟨μ,_,he,by rw [VR_bool],hs.below hb, .uv hb⟩
 ·have hb:bl (fun g=>aY (Nat.beq g f)) l=true:=aX.2 fun g hg=>by
   have:g≠f:=fun e=>hm (e ▸ hg)
   rw [rO this];rfl
  rw [hb] at e;cases e
theorem vJ {D:Nat→Array Oper→AC} (hD:iG P D) {M:Nat→Option (List AV→Hp→RV)} (hM:Good P fun f args h=>aA .no (fun m=>m args h) (M f)) {N d f:Nat} (e:isTrue (nL M (ao P D) N d f [] H0)=true):
  Enters P f∧∀w,Calls P f #[] w fun e w'=>e= .returned (.bool true)∧Below w.heap.size w w':=by
 obtain ⟨h',e1⟩:=k_ e
 exact ⟨(jt hD hM N d f [] H0 _ h' Mp.none default #[] e1 (.none default) (aH.2 rfl)).1,fun w=>oN hD hM N d f w [] #[] (aH.2 rfl) e⟩
end
end Eng
end
section
set_option linter.unusedVariables false
set_option linter.unusedSimpArgs false
namespace Eng
open Go Go.RowKit
structure Ev where
 v:AV
 t:T
 h:Hp
inductive b7 where
 | fin
 | tell (n:Nat) (x:AV) (r:b7)
 | fork (n:Nat) (a b:b7)
 | i_ (n:Nat) (x:AV) (h:Hp) (r:b7)
 | lp (n:Nat) (s:RS) (r:b7)
 | again (n:Nat) (r:b7)
 | goal (n:Nat) (r:b7)
 | effx (n:Nat) (x:Ev→AV) (r:Ev→b7)
 | lpx (n:Nat) (s:Ev→RS) (r:Ev→b7)
 | ell (n:Nat) (m:MK) (x:aC) (r:b7)
 | agn (n:Nat) (r:b7)
 | exi (n:Nat) {α:Type} (f:α→b7)
 | dis (n:Nat) (a b:b7)
 deriving Inhabited
noncomputable section
@[reducible] def lrec1 {α:Type} {β:Type 1} (z:β) (f:α→List α→β→β) (l:List α):β:=List.rec (motive:=fun _=>β) z f l
def b7.n (o:b7):Nat:=b7.rec (motive:=fun _=>Nat) 0 (fun n _ _ _=>n) (fun n _ _ _ _=>n) (fun n _ _ _ _=>n) (fun n _ _ _=>n) (fun n _ _=>n) (fun n _ _=>n) (fun n _ _ _=>n) (fun n _ _ _=>n) (fun n _ _ _ _=>n) (fun n _ _=>n) (fun n _ _ _=>n) (fun n _ _ _ _=>n) o
def b7.cs {β:Type} (o:b7) (fin:β) (tell:AV→b7→β) (fork:b7→b7→β) (i_:AV→Hp→b7→β) (lp:RS→b7→β) (again:b7→β) (goal:b7→β) (effx:(Ev→AV)→(Ev→b7)→β) (lpx:(Ev→RS)→(Ev→b7)→β) (ell:MK→aC→b7→β) (agn:b7→β):β:=
 b7.rec (motive:=fun _=>β) fin (fun _ x r _=>tell x r) (fun _ a b _ _=>fork a b) (fun _ x h r _=>i_ x h r) (fun _ s r _=>lp s r) (fun _ r _=>again r) (fun _ r _=>goal r) (fun _ x r _=>effx x r) (fun _ s r _=>lpx s r) (fun _ m x r _=>ell m x r) (fun _ r _=>agn r) (fun _ _ _ _=>fin) (fun _ _ _ _ _=>fin) o
def yL (o:b7) (K:b7→Prop):Prop:=
 b7.rec (motive:=fun _=>Prop) (K .fin) (fun n x r _=>K (.tell n x r)) (fun n a b _ _=>K (.fork n a b)) (fun n x h r _=>K (.i_ n x h r)) (fun n s r _=>K (.lp n s r)) (fun n r _=>K (.again n r)) (fun n r _=>K (.goal n r)) (fun n x r _=>K (.effx n x r)) (fun n s r _=>K (.lpx n s r)) (fun n m x r _=>K (.ell n m x r)) (fun n r _=>K (.agn n r)) (fun _ _ _ ih=> ∃x,ih x) (fun _ _ _ i j=>i∨j) o
def yM (v:AV):AV→Prop→Prop:=AV.rec (motive_1:=fun _=>AV→Prop→Prop) (motive_2:=fun _=>List AV→Prop→Prop)
 (fun b y K=>y.asBool False fun c=>b=c∧K)
 (fun k n y K=>y.asInt False fun k' m=>bc (bj k k') (n=m∧K) False)
 (fun s y K=>y.cZ False fun r=>s=r∧K)
 (fun y K=>(xL y).cs False K (fun _ _=>False))
 (fun b o y K=>(xL y).cs False False (fun b' o'=>bc (Nat.beq b b') (bc (Nat.beq o o') K False) False))
 (fun y K=>(xM y).cs False K (fun _ _ _ _ _ _=>False))
 (fun b o l c s e y K=>(xM y).cs False False (fun b' o' l' c' s' e'=>bc (Nat.beq b b') (bc (Nat.beq o o') (bc (Nat.beq l l') (bc (Nat.beq c c') (bc (Nat.beq s s') (bc (bc e e' (aY e')) K False) False) False) False) False) False))
 (fun y K=>(B7 y).cs False K (fun _=>False))
 (fun b y K=>(B7 y).cs False False (fun b'=>bc (Nat.beq b b') K False))
 (fun f a b ia ib y K=>(kW f a b).cs False False (fun f _ _=>(pE y).cs False False (fun f' a' b'=>bc (Nat.beq f f') (ia a' (ib b' K)) False) False) False)
 (fun y K=>(pE y).cs False K (fun _ _ _=>False) False)
 (fun t _ ih y K=>(qt y).cs False False (fun t' w=>bc (Nat.beq t t') (ih w K) False))
 (fun y K=>(qt y).cs False K (fun _ _=>False))
 (fun _ ih y K=>y.asAgg False fun l=>ih l K)
 (fun _ ih y K=>y.asTuple False fun l=>ih l K)
 (fun l K=>eI K (fun _ _=>False) l)
 (fun _ _ i j l K=>eI False (fun a m=>i a (j m K)) l) v
def vK (l m:List AV) (K:Prop):Prop:=yM (.agg l) (.agg m) K
def yN (ps:List PD) (n:Nat) (h:Hp) (K:Prop):Prop:=b6 K (fun p _ ih=>bc (Nat.blt p.hi n) ih ((bP p.o p.t h).cs False fun v=>yM p.v v ih)) ps
def CG (o:nJ):Bool:=match o with | .sliceSl _ _ _ _ _=>true | _=>false
def jb (ps:List PD) (n:Nat) (h:Hp) (K:Prop):Prop:=b6 K (fun p _ ih=>bc (Nat.blt p.hi n) ih (bc (CG p.o) (p.v.asSlice False (bP p.o p.t h= .ok p.v∧ih) (fun _ _ _ _ _ _=>bP p.o p.t h= .ok p.v∧ih)) ((bP p.o p.t h).cs False fun v=>yM p.v v ih))) ps
abbrev KV:=AV→Nat→b7→Prop
abbrev KR:=AV→Hp→Nat→b7→Prop
abbrev KT:=T→Hp→Nat→b7→Prop
abbrev KS:=RS→Nat→b7→Prop
abbrev jN:=Nat→List AV→Hp→Nat→b7→KR→Prop
abbrev uw:=T→Hp→Nat→b7→KS→Prop
def step (c:Nat) (r:b7) (now:b7→Prop) (go:Nat→b7→Prop):Prop:=Nat.rec (motive:=fun _=>Prop) (yL r now) (fun m _=>go m r) c
def gT (l:List AV):(List Nat→Prop)→Prop:=b6 (fun K=>K []) (fun v _ ih K=>v.asInt False fun k n=>bc (bj k .u8) (cG n False fun m=>m < 256∧ih fun s=>K (m::s)) False) l
def jO (r:b7) (K:AV→b7→Prop):Prop:=r.cs False (fun x r=>K x r) (fun _ _=>False) (fun _ _ _=>False) (fun _ _=>False) (fun _=>False) (fun _=>False) (fun _ _=>False) (fun _ _=>False) (fun _ _ _=>False) (fun _=>False)
def Jv (o:nJ) (t:T) (h:Hp) (r:b7) (K:AV→b7→Prop):Prop:=match o with
 | .toStr x=>(aD x t).asSlice False False fun b o l _ s _=>bc (Nat.beq s 1) (pC h b o l False fun cs=>gT cs fun s=>K (.str s) r) False
 | .loadS x=>(aD x t).df False fun b o=>aW h b False fun cs _ _=>jO r fun v r=>ec cs o=some v∧K v r
 | _=>False
def vL (cs:List AV) (o:Nat) (v:AV):List AV:=I4 v cs o
def qd (w:Own) (K:Prop):Prop:=Own.rec (motive:=fun _=>Prop) False K (fun _=>False) w
def Jw (o:sY) (t:T) (h:Hp) (r:b7) (k:KR):Prop:=match o with
 | .store n a x=>bc (Nat.beq n 1) ((aD a t).df False fun b o=>bc (aI (aD x t)) (aW h b False fun cs n w=>o < n∧qd w (k undef (cE h b (.cells (vL cs o (aD x t)) n .solo)) r.n r)) False) False
 | .append sz bytes s x=>bc (Nat.beq sz 1) ((aD x t).asSlice False False fun b o n _ z _=>bc (Nat.beq z 1) (bc (Nat.beq n 1) (aW h b False fun cs len _=>bc (Nat.beq len 1) False
   (jO r fun v r=>o < len∧ec cs o=some v∧(cH h sz bytes (aD s t) 1 [v]).cs False fun v h=>k v h r.n r)) False) False) False
 | _=>False
def qW (o:nJ) (t:T) (h:Hp) (c:Nat) (r:b7) (k:KV):Prop:=
 step c r
  (fun r=>r.cs ((bP o t h).cs False fun v=>k v 0 .fin)
   (fun x r=>bP o t h= .ok x∧k x r.n r)
   (fun a b=>(bP o t h).cs False fun v=>(Eu v).cs False fun b'=>(b'=true→k (.bool true) a.n a)∧(b'=false→k (.bool false) b.n b))
   (fun _ _ _=>False) (fun _ _=>False) (fun _=>False)
   (fun r=>(bP o t h).cs False fun v=>(Eu v).cs False fun b'=>b'=true∧k (.bool true) r.n r) (fun _ _=>False) (fun _ _=>False) (fun _ _ _=>False) (fun r=>Jv o t h r fun v r=>k v r.n r))
  (fun c r=>(bP o t h).cs False fun v=>k v c r)
def RO (callW:jN) (o:sY) (t:T) (h:Hp) (k:KR) (c:Nat) (r:b7):Prop:=
 sY.rec (motive:=fun _=>Prop) (fun n a x=>(tf n a x t h).cs False fun v h=>k v h c r) (fun s m kk v=>(kX s m kk v t h).cs False fun v h=>k v h c r)
   (fun sz bytes s x=>(uc sz bytes s x t h).cs False fun v h=>k v h c r) (fun sz bytes z s n=>(rL sz bytes z s n t h).cs False fun v h=>k v h c r) (fun sz d s=>(xZ sz d s t h).cs False fun v h=>k v h c r)
   (fun s m kk=>(qu s m kk t h).cs False fun v h=>k v h c r) (fun z x=>(tg z x t h).cs False fun v h=>k v h c r) (fun x=>(x6 x t h).cs False fun v h=>k v h c r)
   (fun f xs=>(aD f t).jY False fun g a b=>callW g (app a (app (eS xs t) b)) h c r k) o
def eW (call:aL) (callW:jN) (o:sY) (t:T) (h:Hp) (c:Nat) (r:b7) (k:KR):Prop:=
 step c r
  (fun r=>r.cs (RO callW o t h k 0 .fin) (fun _ _=>False) (fun _ _=>False) (fun x h' r=>rM o call t h= .ok x h'∧k x h' r.n r) (fun _ _=>False) (fun _=>False) (fun _=>False)
   (fun x r=> ∃e:Ev,rM o call t h= .ok (x e) e.h∧k (x e) e.h (r e).n (r e)) (fun _ _=>False) (fun _ _ _=>False) (fun r=>Jw o t h r k))
  (RO callW o t h k)
abbrev KL:=MK→aC→Nat→b7→Prop
def lW (o:xQ) (t:T) (c:Nat) (r:b7) (k:KL):Prop:=
 step c r
  (fun r=>r.cs ((nK o t).cs False fun m x=>k m x 0 .fin) (fun _ _=>False) (fun _ _=>False) (fun _ _ _=>False) (fun _ _=>False) (fun _=>False) (fun _=>False) (fun _ _=>False) (fun _ _=>False)
   (fun m x r=>nK o t= .ok m x∧k m x r.n r) (fun _=>False))
  (fun c r=>(nK o t).cs False fun m x=>k m x c r)
def CH (call:aL) (callW:jN) (op:gj) (d:Option Nat) (t:T) (h:Hp) (c:Nat) (r:b7) (k:KT):Prop:=op.cs
 (fun o=>qW o t h c r fun v c r=>k (dx d v t) h c r)
 (fun o=>lW o t c r fun m x c r=>k (dx d (mG m h.next) t) (bz h x) c r)
 (fun o=>eW call callW o t h c r fun v h c r=>k (dx d v t) h c r)
def oW (call:aL) (callW:jN) (o:AO) (t:T) (h:Hp) (c:Nat) (r:b7) (k:KT):Prop:=
 aA (CH call callW o.op o.dst t h c r k) (fun _=>bc (wanted o.guard t) (CH call callW o.op o.dst t h c r k) (k (dx o.dst undef t) h c r)) o.guard
def Rv (call:aL) (callW:jN) (os:List AO):T→Hp→Nat→b7→KT→Prop:=
 lrec1 (fun t h c r k=>k t h c r) (fun o _ ih t h c r k=>oW call callW o t h c r fun t h c r=>ih t h c r k) os
abbrev KP:=T→Hp→List PD→Nat→b7→Prop
def qR (o:AO) (hi:Nat) (t:T) (h:Hp) (ps:List PD) (c:Nat) (r:b7) (k:KP):Prop:=
 bc (wanted o.guard t) (o.op.cs
  (fun q=>qW q t h c r fun v c r=>k (dx o.dst v t) h (⟨q,t,v,hi⟩::ps) c r)
  (fun l=>lW l t c r fun m x c r=>k (dx o.dst (mG m h.next) t) (bz h x) ps c r)
  (fun _=>False)) (k (dx o.dst undef t) h ps c r)
def nZ (os:List (AO×Nat)):T→Hp→List PD→Nat→b7→KP→Prop:=
 lrec1 (fun t h ps c r k=>k t h ps c r) (fun o _ ih t h ps c r k=>qR o.1 o.2 t h ps c r fun t h ps c r=>ih t h ps c r k) os
def qS (ps:List PD) (n:Nat) (h:Hp):Prop:=b6 True (fun p _ ih=>bc (Nat.blt p.hi n) ih (again p.o p.t p.v h=true∧ih)) ps
def Rw (call:aL) (callW:jN) (l:List DS):Nat→T→Hp→List PD→Nat→b7→KT→Prop:=
 lrec1 (fun _ _ _ _ _ _ _=>False) (fun s _ ih n t h ps c r k=>nZ s.os t h ps c r fun t h ps c r=>
  step c r
   (fun r=>r.cs (bc (aZ ps n h) (aA (k t h 0 .fin) (fun e=>oW call callW e t h 0 .fin fun t h c r=>ih (Nat.succ n) t h ps c r k) s.e) False) (fun _ _=>False) (fun _ _=>False) (fun _ _ _=>False) (fun _ _=>False)
    (fun r=>qS ps n h∧aA (k t h r.n r) (fun e=>oW call callW e t h r.n r fun t h c r=>ih (Nat.succ n) t h ps c r k) s.e) (fun r=>jb ps n h (aA (k t h r.n r) (fun e=>oW call callW e t h r.n r fun t h c r=>ih (Nat.succ n) t h ps c r k) s.e)) (fun _ _=>False) (fun _ _=>False) (fun _ _ _=>False) (fun r=>yN ps n h (aA (k t h r.n r) (fun e=>oW call callW e t h r.n r fun t h c r=>ih (Nat.succ n) t h ps c r k) s.e)))
   (fun c r=>bc (aZ ps n h) (aA (k t h c r) (fun e=>oW call callW e t h c r fun t h c r=>ih (Nat.succ n) t h ps c r k) s.e) False)) l
def Rx (f:uw) (N:Nat) (k:KS) (t:T) (h:Hp) (c:Nat) (r:b7):Prop:=
 Nat.rec (motive:=fun _=>T→Hp→Nat→b7→Prop) (fun _ _ _ _=>False)
    (fun _ ih t h c r=>f t h c r fun s c r=>s.cs False (fun t h=>ih t h c r) (fun i t h=>k (.exit i t h) c r) (fun t h=>k (.ret t h) c r)) N t h c r
def cW (call:aL) (callW:jN) (N:Nat) (c:AC):uw:=
 AC.rec (motive:=fun _=>uw)
  (fun t h c r k=>k (.nor t h) c r)
  (fun os t h c r k=>Rv call callW os t h c r fun t h c r=>k (.nor t h) c r)
  (fun l t h c r k=>Rw call callW l 0 t h [] c r fun t h c r=>k (.nor t h) c r)
  (fun _ _ f g t h c r k=>f t h c r fun s c r=>s.cs False (fun t h=>g t h c r k) (fun i t h=>k (.exit i t h) c r) (fun t h=>k (.ret t h) c r))
  (fun x _ _ f g t h c r k=>(aD x t).asBool False fun b=>bc b (f t h c r k) (g t h c r k))
  (fun i _ f t h c r k=>f t h c r fun s c r=>s.cs False (fun t h=>k (.nor t h) c r) (fun j t h=>bc (Nat.beq j i) (k (.nor t h) c r) (k (.exit j t h) c r)) (fun t h=>k (.ret t h) c r))
  (fun body f t h c r k=>
   step c r (fun r=>r.cs (Rx f N k t h 0 .fin) (fun _ _=>False) (fun _ _=>False) (fun _ _ _=>False) (fun s r=>c7 call N (.loop body) t h=s∧s.cs False (fun _ _=>True) (fun _ _ _=>True) (fun _ _=>True)∧k s r.n r) (fun _=>False) (fun _=>False) (fun _ _=>False)
    (fun s r=> ∃e:Ev,c7 call N (.loop body) t h=s e∧(s e).cs False (fun _ _=>True) (fun _ _ _=>True) (fun _ _=>True)∧k (s e) (r e).n (r e)) (fun _ _ _=>False) (fun _=>False)) (Rx f N k t h))
  (fun i t h c r k=>k (.exit i t h) c r)
  (fun t h c r k=>k (.ret t h) c r)
  (fun _ _ _ _ _ _=>False) c
def vM (rs:List od) (t:T) (h:Hp) (c:Nat) (r:b7) (k:KR):Prop:=(results rs t h).cs False fun v h=>k v h c r
def LD (S:Nat→Option AF) (N:Nat) (call:aL) (callW:jN) (f:Nat) (args:List AV) (h:Hp) (c:Nat) (r:b7) (k:KR):Prop:=
 aA False (fun fn=>bc (Nat.ble (len args) fn.ntmps) (cW call callW N fn.body (db args) h c r fun s c r=>s.cs False (fun t h=>vM fn.results t h c r k) (fun _ _ _=>False) (fun t h=>vM fn.results t h c r k)) False) (S f)
end
end Eng
end
section
set_option linter.unusedVariables false
set_option linter.unusedSimpArgs false
namespace Eng
open Go Go.RowKit
section
variable {call:aL} {callW:jN} {N:Nat}
theorem CI: ∀{r:b7} {K:b7→Prop},yL r K→∃r',K r':=by
 intro r K
 induction r with
 | exi n f ih=>intro h;obtain ⟨x,h⟩:=(show∃x,yL (f x) K from h);exact ih x h
 | dis n a b ia ib=>
   intro h
   rcases (show yL a K∨yL b K from h) with h | h
   ·exact ia h
   ·exact ib h
 | _=>exact fun h=>⟨_,h⟩
theorem l5 {c:Nat} {r:b7} {now:b7→Prop} {go:Nat→b7→Prop} (h:step c r now go):(∃r',now r')∨∃m,go m r:=by
 cases c with
 | zero=>exact .inl (CI h)
 | succ m=>exact .inr ⟨m,h⟩
theorem Ex {o:OV} {k:AV→Prop} (h:o.cs False k): ∃v,o= .ok v∧k v:=by
 cases o with
 | no=>exact h.elim
 | ok v=>exact ⟨v,rfl,h⟩
theorem LF {o:RV} {k:AV→Hp→Prop} (h:o.cs False k): ∃v h',o= .ok v h'∧k v h':=by
 cases o with
 | no=>exact h.elim
 | ok v h'=>exact ⟨v,h',rfl,h⟩
theorem RP {v:AV} {k:Bool→Prop} (h:(Eu v).cs False k): ∃b,v= .bool b∧k b:=by
 cases v <;> first | exact h.elim | exact ⟨_,rfl,h⟩
theorem qe: ∀{l:List AV} {K:List Nat→Prop},gT l K→∃s,iq l=some s∧K s
 | [],K,e=>⟨[],rfl,e⟩
 | v::l,K,e=>by
   have e:v.asInt False fun k n=>bc (bj k .u8) (cG n False fun m=>m < 256∧gT l fun s=>K (m::s)) False:=e
   cases v with
   | int k n=>
     have e:bc (bj k .u8) (cG n False fun m=>m < 256∧gT l fun s=>K (m::s)) False:=e
     cases hk:bj k .u8 with
     | false=>rw [hk] at e;exact e.elim
     | true=>
       rw [hk] at e
       have e:cG n False fun m=>m < 256∧gT l fun s=>K (m::s):=e
       cases n with
       | negSucc m=>exact e.elim
       | ofNat m=>
         obtain ⟨hm,e2⟩:=(show m < 256∧gT l fun s=>K (m::s) from e)
         obtain ⟨s,h1,h2⟩:=qe e2
         refine ⟨m::s,?_,h2⟩
         show rI (.int k (.ofNat m)) none (fun n=>aA none (fun s=>some (n::s)) (iq l))=_
         rw [h1]
         show bc (bj k .u8) (bc (Nat.blt m 256) (some (m::s)) none) none=_
         rw [hk,show Nat.blt m 256=true by rw [dR];simpa using hm];rfl
   | _=>exact e.elim
theorem so {r:b7} {K:AV→b7→Prop} (e:jO r K): ∃v r2,K v r2:=by
 cases r with
 | tell n x r=>exact ⟨x,r,e⟩
 | _=>exact e.elim
theorem CJ {o:nJ} {t:T} {h:Hp} {r:b7} {K:AV→b7→Prop} (e:Jv o t h r K): ∃v r,bP o t h= .ok v∧K v r:=by
 cases o with
 | toStr x=>
   have e:(aD x t).asSlice False False fun b o l _ s _=>bc (Nat.beq s 1) (pC h b o l False fun cs=>gT cs fun s=>K (.str s) r) False:=e
   show∃v r,(aD x t).asSlice OV.no (OV.ok (.str [])) (fun b o l _ s _=>bc (Nat.beq s 1) (pC h b o l OV.no fun cs=>aA OV.no (fun s=>OV.ok (.str s)) (eT l cs)) OV.no)= .ok v∧K v r
   cases hx:aD x t with
   | slice b o l cp s ex=>
     rw [hx] at e
     have e:bc (Nat.beq s 1) (pC h b o l False fun cs=>gT cs fun s=>K (.str s) r) False:=e
     show∃v r,bc (Nat.beq s 1) (pC h b o l OV.no fun cs=>aA OV.no (fun s=>OV.ok (.str s)) (eT l cs)) OV.no= .ok v∧K v r
     cases hs:Nat.beq s 1 with
     | false=>rw [hs] at e;exact e.elim
     | true=>
       rw [hs] at e
       have e:pC h b o l False fun cs=>gT cs fun s=>K (.str s) r:=e
       show∃v r,pC h b o l OV.no (fun cs=>aA OV.no (fun s=>OV.ok (.str s)) (eT l cs))= .ok v∧K v r
       unfold pC aW at e ⊢
       cases hb:az h b with
       | none=>rw [hb] at e;exact e.elim
       | some y=>
         rw [hb] at e
         cases y with
         | cells cs n w=>
           revert e
           show (bc (Nat.ble (Nat.add o l) n) (gT (part cs n o l) fun s=>K (.str s) r) False)→∃v r,(bc (Nat.ble (Nat.add o l) n) (aA OV.no (fun s=>OV.ok (.str s)) (eT l (part cs n o l))) OV.no)= .ok v∧K v r
           intro e
           cases hn:Nat.ble (Nat.add o l) n with
           | false=>rw [hn] at e;exact e.elim
           | true=>
             rw [hn] at e
             obtain ⟨s,h1,h2⟩:=qe (show gT (part cs n o l) (fun s=>K (.str s) r) from e)
             refine ⟨_,_,?_,h2⟩
             show aA OV.no (fun s=>OV.ok (.str s)) (eT l (part cs n o l))=_
             rw [nj,h1];rfl
         | _=>exact e.elim
   | _=>rw [hx] at e;exact e.elim
 | loadS x=>
   have e:(aD x t).df False fun b o=>aW h b False fun cs _ _=>jO r fun v r=>ec cs o=some v∧K v r:=e
   show∃v r,(aD x t).df OV.no (fun b o=>rd h b o)= .ok v∧K v r
   cases hx:aD x t with
   | ptr b o=>
     rw [hx] at e
     have e:aW h b False fun cs _ _=>jO r fun v r=>ec cs o=some v∧K v r:=e
     show∃v r,rd h b o= .ok v∧K v r
     unfold rd
     unfold aW at e ⊢
     cases hb:az h b with
     | none=>rw [hb] at e;exact e.elim
     | some y=>
       rw [hb] at e
       cases y with
       | cells cs n w=>
         obtain ⟨v,r2,h1,h2⟩:=so (show jO r (fun v r=>ec cs o=some v∧K v r) from e)
         refine ⟨v,r2,?_,h2⟩
         show aA OV.no OV.ok (ec cs o)=_
         rw [h1];rfl
       | _=>exact e.elim
   | _=>rw [hx] at e;exact e.elim
 | _=>exact e.elim
theorem Ey {o:nJ} {t:T} {h:Hp} {c:Nat} {r:b7} {k:KV} (e:qW o t h c r k): ∃v c' r',bP o t h= .ok v∧k v c' r':=by
 rcases l5 e with ⟨r,e⟩ | ⟨m,e⟩
 ·cases r with
  | fin=>obtain ⟨v,h1,h2⟩:=Ex e;exact ⟨v,_,_,h1,h2⟩
  | tell n x r=>exact ⟨x,_,_,e.1,e.2⟩
  | fork n a b=>
    obtain ⟨v,h1,h2⟩:=Ex (show (bP o t h).cs False (fun v=>(Eu v).cs False fun b'=>(b'=true→k (.bool true) a.n a)∧(b'=false→k (.bool false) b.n b)) from e)
    obtain ⟨b',rfl,h3⟩:=RP h2
    cases b' with
    | true=>exact ⟨_,_,_,h1,h3.1 rfl⟩
    | false=>exact ⟨_,_,_,h1,h3.2 rfl⟩
  | i_ n x h r=>exact False.elim e
  | lp n s r=>exact False.elim e
  | again n r=>exact False.elim e
  | goal n r=>
    obtain ⟨v,h1,h2⟩:=Ex (show (bP o t h).cs False (fun v=>(Eu v).cs False fun b'=>b'=true∧k (.bool true) r.n r) from e)
    obtain ⟨b',rfl,rfl,h3⟩:=RP h2
    exact ⟨_,_,_,h1,h3⟩
  | effx n x r=>exact False.elim e
  | lpx n x r=>exact False.elim e
  | ell n m x r=>exact False.elim e
  | agn n r=>obtain ⟨v,r2,h1,h2⟩:=CJ (show Jv o t h r (fun v r=>k v r.n r) from e);exact ⟨v,_,_,h1,h2⟩
  | exi n f=>obtain ⟨v,h1,h2⟩:=Ex e;exact ⟨v,_,_,h1,h2⟩
  | dis n a b=>obtain ⟨v,h1,h2⟩:=Ex e;exact ⟨v,_,_,h1,h2⟩
 ·obtain ⟨v,h1,h2⟩:=Ex e;exact ⟨v,_,_,h1,h2⟩
def fD (call:aL) (callW:jN):Prop:= ∀g args h c r k,callW g args h c r k→∃v h' c' r',call g args h= .ok v h'∧k v h' c' r'
theorem CK {o:sY} {t:T} {h:Hp} {r:b7} {k:KR} (e:Jw o t h r k): ∃v h' c' r',rM o call t h= .ok v h'∧k v h' c' r':=by
 cases o with
 | store n a x=>
   have e:bc (Nat.beq n 1) ((aD a t).df False fun b o=>bc (aI (aD x t)) (aW h b False fun cs n w=>o < n∧qd w (k undef (cE h b (.cells (vL cs o (aD x t)) n .solo)) r.n r)) False) False:=e
   show∃v h' c' r',(bc (Nat.beq n 1) (fun t h=>bc (aI (aD x t)) (nT a x t h) (gm n a x t h)) (gm n a x)) t h= .ok v h'∧k v h' c' r'
   cases hn:Nat.beq n 1 with
   | false=>rw [hn] at e;exact e.elim
   | true=>
     rw [hn] at e
     have e:(aD a t).df False fun b o=>bc (aI (aD x t)) (aW h b False fun cs n w=>o < n∧qd w (k undef (cE h b (.cells (vL cs o (aD x t)) n .solo)) r.n r)) False:=e
     show∃v h' c' r',bc (aI (aD x t)) ((aD a t).df RV.no fun b o=>bc (aI (aD x t)) (I8 h b o (aD x t)) RV.no) (gm n a x t h)= .ok v h'∧k v h' c' r'
     cases ha:aD a t with
     | ptr b o=>
       rw [ha] at e
       have e:bc (aI (aD x t)) (aW h b False fun cs n w=>o < n∧qd w (k undef (cE h b (.cells (vL cs o (aD x t)) n .solo)) r.n r)) False:=e
       cases hc:aI (aD x t) with
       | false=>rw [hc] at e;exact e.elim
       | true=>
         rw [hc] at e
         have e:aW h b False fun cs n w=>o < n∧qd w (k undef (cE h b (.cells (vL cs o (aD x t)) n .solo)) r.n r):=e
         show∃v h' c' r',I8 h b o (aD x t)= .ok v h'∧k v h' c' r'
         unfold I8
         unfold aW at e ⊢
         cases hb:az h b with
         | none=>rw [hb] at e;exact e.elim
         | some y=>
           rw [hb] at e
           cases y with
           | cells cs n w=>
             obtain ⟨h1,h2⟩:=(show o < n∧qd w (k undef (cE h b (.cells (vL cs o (aD x t)) n .solo)) r.n r) from e)
             cases w with
             | solo=>
               refine ⟨_,_,_,_,?_,h2⟩
               show bc (Nat.blt o n) (RV.ok undef (cE h b (.cells (I4 (aD x t) cs o) n .solo))) RV.no=_
               rw [show Nat.blt o n=true by rw [dR];simpa using h1];rfl
             | _=>exact h2.elim
           | _=>exact e.elim
     | _=>rw [ha] at e;exact e.elim
 | append sz bytes s x=>
   have e:bc (Nat.beq sz 1) ((aD x t).asSlice False False fun b o n _ z _=>bc (Nat.beq z 1) (bc (Nat.beq n 1) (aW h b False fun cs len _=>bc (Nat.beq len 1) False
    (jO r fun v r=>o < len∧ec cs o=some v∧(cH h sz bytes (aD s t) 1 [v]).cs False fun v h=>k v h r.n r)) False) False) False:=e
   show∃v h' c' r',src h sz (aD x t) RV.no (fun m xs=>cH h sz bytes (aD s t) m xs)= .ok v h'∧k v h' c' r'
   cases hz:Nat.beq sz 1 with
   | false=>rw [hz] at e;exact e.elim
   | true=>
     rw [hz] at e
     cases hx:aD x t with
     | slice b o n cp z ex=>
       rw [hx] at e
       have e:bc (Nat.beq z 1) (bc (Nat.beq n 1) (aW h b False fun cs len _=>bc (Nat.beq len 1) False
        (jO r fun v r=>o < len∧ec cs o=some v∧(cH h sz bytes (aD s t) 1 [v]).cs False fun v h=>k v h r.n r)) False) False:=e
       cases hz2:Nat.beq z 1 with
       | false=>rw [hz2] at e;exact e.elim
       | true=>
         rw [hz2] at e
         cases hn:Nat.beq n 1 with
         | false=>rw [hn] at e;exact e.elim
         | true=>
           rw [hn] at e
           obtain rfl:=Nat.eq_of_beq_eq_true hz
           obtain rfl:=Nat.eq_of_beq_eq_true hz2
           obtain rfl:=Nat.eq_of_beq_eq_true hn
           have e:aW h b False fun cs len _=>bc (Nat.beq len 1) False (jO r fun v r=>o < len∧ec cs o=some v∧(cH h 1 bytes (aD s t) 1 [v]).cs False fun v h=>k v h r.n r):=e
           show∃v h' c' r',pC h b o 1 RV.no (fun l=>cH h 1 bytes (aD s t) 1 l)= .ok v h'∧k v h' c' r'
           unfold pC
           unfold aW at e ⊢
           cases hb:az h b with
           | none=>rw [hb] at e;exact e.elim
           | some y=>
             rw [hb] at e
             cases y with
             | cells cs len w=>
               have e:bc (Nat.beq len 1) False (jO r fun v r=>o < len∧ec cs o=some v∧(cH h 1 bytes (aD s t) 1 [v]).cs False fun v h=>k v h r.n r):=e
               cases hl:Nat.beq len 1 with
               | true=>rw [hl] at e;exact e.elim
               | false=>
                 rw [hl] at e
                 obtain ⟨v,r2,h1,h2,h3⟩:=so e
                 obtain ⟨v',h',h4,h5⟩:=LF h3
                 refine ⟨v',h',_,_,?_,h5⟩
                 show bc (Nat.ble (Nat.add o 1) len) (cH h 1 bytes (aD s t) 1 (part cs len o 1)) RV.no=_
                 have hp:part cs len o 1= [v] :=by
                  have k1:take (drop cs o) 1= [v] :=by
                   rw [iE] at h2
                   rw [ir,drop_eq]
                   obtain ⟨k2,k3⟩:=List.getElem?_eq_some_iff.1 h2
                   rw [List.drop_eq_getElem_cons k2,k3];rfl
                  unfold part
                  rw [show Nat.beq 1 len=false from rO fun e1=>by rw [←e1] at hl;cases hl]
                  cases ho:Nat.beq o 0 with
                  | false=>exact k1
                  | true=>
                    obtain rfl:=Nat.eq_of_beq_eq_true ho
                    show take cs 1= [v]
                    rw [←k1];rw [ir,ir,drop_eq];rfl
                 rw [hp,show Nat.ble (Nat.add o 1) len=true by rw [jo];exact decide_eq_true (show o+1≤len by omega)]
                 exact h4
             | _=>exact e.elim
     | _=>rw [hx] at e;exact e.elim
 | _=>exact e.elim
theorem LG (hc:fD call callW) {o:sY} {t:T} {h:Hp} {c:Nat} {r:b7} {k:KR} (e:eW call callW o t h c r k): ∃v h' c' r',rM o call t h= .ok v h'∧k v h' c' r':=by
 have go: ∀c r,RO callW o t h k c r→∃v h' c' r',rM o call t h= .ok v h'∧k v h' c' r':=by
  intro c r e
  cases o with
  | call f xs=>
    show∃v h' c' r',((aD f t).jY RV.no fun g a b=>call g (app a (app (eS xs t) b)) h)= .ok v h'∧k v h' c' r'
    have e:(aD f t).jY False fun g a b=>callW g (app a (app (eS xs t) b)) h c r k:=e
    unfold AV.jY at e ⊢
    cases hf:pE (aD f t) with
    | no=>rw [hf] at e;exact e.elim
    | nil=>rw [hf] at e;exact e.elim
    | other=>rw [hf] at e;exact e.elim
    | fn g a b=>rw [hf] at e;exact hc _ _ _ _ _ _ e
  | _=>obtain ⟨v,h',h1,h2⟩:=LF e;exact ⟨v,h',_,_,h1,h2⟩
 rcases l5 (show step c r _ _ from e) with ⟨r,e⟩ | ⟨m,e⟩
 ·cases r with
  | fin=>exact go _ _ e
  | exi n f=>exact go _ _ e
  | dis n a b=>exact go _ _ e
  | i_ n x h' r=>exact ⟨x,h',_,_,e.1,e.2⟩
  | effx n x r=>obtain ⟨w,h1,h2⟩:=e;exact ⟨x w,w.h,_,_,h1,h2⟩
  | agn n r=>exact CK (show Jw o t h r k from e)
  | _=>exact False.elim e
 ·exact go _ _ e
theorem Ez {o:xQ} {t:T} {c:Nat} {r:b7} {k:KL} (e:lW o t c r k): ∃m x c' r',nK o t= .ok m x∧k m x c' r':=by
 have go: ∀c r,((nK o t).cs False fun m x=>k m x c r)→∃m x c' r',nK o t= .ok m x∧k m x c' r':=fun c r e=>by
  cases hl:nK o t with
  | no=>rw [hl] at e;exact e.elim
  | ok m x=>rw [hl] at e;exact ⟨m,x,_,_,rfl,e⟩
 rcases l5 (show step c r _ _ from e) with ⟨r,e⟩ | ⟨m,e⟩
 ·cases r with
  | fin=>exact go _ _ e
  | exi n f=>exact go _ _ e
  | dis n a b=>exact go _ _ e
  | ell n m x r=>exact ⟨m,x,_,_,e.1,e.2⟩
  | _=>exact False.elim e
 ·exact go _ _ e
theorem ux (hc:fD call callW) {op:gj} {d:Option Nat} {t:T} {h:Hp} {c:Nat} {r:b7} {k:KT} (e:CH call callW op d t h c r k): ∃t' h' c' r',vt op d call t h= .ok t' h'∧k t' h' c' r':=by
 cases op with
 | q o=>
   obtain ⟨v,c',r',h1,h2⟩:=Ey (show qW o t h c r _ from e)
   refine ⟨_,_,c',r',?_,h2⟩
   show (bP o t h).then _=_
   rw [h1];rfl
 | l o=>
   obtain ⟨m,x,c',r',h1,h2⟩:=Ez (show lW o t c r _ from e)
   show∃t' h' c' r',((nK o t).then fun m x=> .ok (dx d (mG m h.next) t) (bz h x))=_∧_
   rw [h1];exact ⟨_,_,_,_,rfl,h2⟩
 | e o=>
   obtain ⟨v,h',c',r',h1,h2⟩:=LG hc (show eW call callW o t h c r _ from e)
   refine ⟨_,_,c',r',?_,h2⟩
   show (rM o call t h).then _=_
   rw [h1];rfl
theorem EA (hc:fD call callW) {o:AO} {t:T} {h:Hp} {c:Nat} {r:b7} {k:KT} (e:oW call callW o t h c r k): ∃t' h' c' r',vu call o t h= .ok t' h'∧k t' h' c' r':=by
 obtain ⟨dst,op,g⟩:=o
 cases g with
 | none=>exact ux hc e
 | some g=>
   have e:bc (wanted (some g) t) (CH call callW op dst t h c r k) (k (dx dst undef t) h c r):=e
   show∃t' h' c' r',bc (wanted (some g) t) (vt op dst call t h) (.ok (dx dst undef t) h)= .ok t' h'∧_
   cases hw:wanted (some g) t with
   | true=>rw [hw] at e;exact ux hc e
   | false=>rw [hw] at e;exact ⟨_,_,_,_,rfl,e⟩
theorem yO (hc:fD call callW): ∀(os:List AO) {t:T} {h:Hp} {c:Nat} {r:b7} {k:KT},Rv call callW os t h c r k→∃t' h' c' r',rN call os t h= .ok t' h'∧k t' h' c' r'
 | [],t,h,c,r,k,e=>⟨_,_,_,_,rfl,e⟩
 | o::os,t,h,c,r,k,e=>by
   obtain ⟨t1,h1,c1,r1,e1,e2⟩:=EA hc (show oW call callW o t h c r (fun t h c r=>Rv call callW os t h c r k) from e)
   obtain ⟨t2,h2,c2,r2,e3,e4⟩:=yO hc os e2
   refine ⟨t2,h2,c2,r2,?_,e4⟩
   show (vu call o t h).then (rN call os)=_
   rw [e1];exact e3
theorem vN {o:AO} {hi:Nat} {t:T} {h:Hp} {ps:List PD} {c:Nat} {r:b7} {k:KP} (e:qR o hi t h ps c r k):
  ∃t' h' ps' c' r',(∀kk:T→Hp→List PD→RT,qv o hi t h ps kk=kk t' h' ps')∧k t' h' ps' c' r':=by
 unfold qR at e
 unfold qv
 cases hw:wanted o.guard t with
 | false=>rw [hw] at e;exact ⟨_,_,_,_,_,fun _=>rfl,e⟩
 | true=>
   rw [hw] at e
   obtain ⟨dst,op,g⟩:=o
   cases op with
   | q f=>
     obtain ⟨v,c',r',h1,h2⟩:=Ey (show qW f t h c r _ from e)
     refine ⟨_,_,_,c',r',fun kk=>?_,h2⟩
     show (bP f t h).then _=_
     rw [h1];rfl
   | l f=>
     obtain ⟨m,x,c',r',h1,h2⟩:=Ez (show lW f t c r _ from e)
     show∃t' h' ps' c' r',(∀kk:T→Hp→List PD→RT,((nK f t).then fun m x=>kk (dx dst (mG m h.next) t) (bz h x) ps)=kk t' h' ps')∧_
     rw [h1];exact ⟨_,_,_,_,_,fun _=>rfl,h2⟩
   | e f=>exact False.elim e
theorem oU: ∀(os:List (AO×Nat)) {t:T} {h:Hp} {ps:List PD} {c:Nat} {r:b7} {k:KP},nZ os t h ps c r k→
  ∃t' h' ps' c' r',(∀kk:T→Hp→List PD→RT,eU os t h ps kk=kk t' h' ps')∧k t' h' ps' c' r'
 | [],t,h,ps,c,r,k,e=>⟨_,_,_,_,_,fun _=>rfl,e⟩
 | o::os,t,h,ps,c,r,k,e=>by
   obtain ⟨t1,h1,ps1,c1,r1,e1,e2⟩:=vN (show qR o.1 o.2 t h ps c r (fun t h ps c r=>nZ os t h ps c r k) from e)
   obtain ⟨t2,h2,ps2,c2,r2,e3,e4⟩:=oU os e2
   refine ⟨t2,h2,ps2,c2,r2,fun kk=>?_,e4⟩
   show qv o.1 o.2 t h ps (fun t h ps=>eU os t h ps kk)=_
   rw [e1,e3]
theorem xO {b:Bool} {K:Prop} (h:bc b K False):b=true∧K:=by
 cases b with
 | true=>exact ⟨rfl,h⟩
 | false=>exact h.elim
mutual
theorem qT: ∀(v u:AV) {K:Prop},yM v u K→eC v u=true∧K
 | .bool b,u,K,e=>by
   cases u <;> first | exact False.elim e | skip
   obtain ⟨rfl,h⟩:=(show b=_∧K from e)
   refine ⟨?_,h⟩
   show bc b b (aY b)=true
   cases b <;> rfl
 | .int k n,u,K,e=>by
   cases u <;> first | exact False.elim e | skip
   rename_i k' m
   obtain ⟨h1,rfl,h3⟩:=xO (show bc (bj k k') (n=m∧K) False from e)
   refine ⟨?_,h3⟩
   show bc (bj k k') (jW n n) false=true
   rw [h1,dE];simp
 | .str s,u,K,e=>by
   cases u <;> first | exact False.elim e | skip
   obtain ⟨rfl,h⟩:=(show s=_∧K from e)
   refine ⟨?_,h⟩
   show fp s s=true
   rw [eK];simp
 | .nilPtr,u,K,e=>by cases u <;> first | exact ⟨rfl,e⟩ | exact False.elim e
 | .ptr b o,u,K,e=>by
   cases u <;> first | exact False.elim e | skip
   rename_i b' o'
   obtain ⟨h1,e⟩:=xO (show bc (Nat.beq b b') (bc (Nat.beq o o') K False) False from e)
   obtain ⟨h2,e⟩:=xO e
   refine ⟨?_,e⟩
   show bc (Nat.beq b b') (Nat.beq o o') false=true
   rw [h1,h2];rfl
 | .nilSlice,u,K,e=>by cases u <;> first | exact ⟨rfl,e⟩ | exact False.elim e
 | .slice b o l c s x,u,K,e=>by
   cases u <;> first | exact False.elim e | skip
   rename_i b' o' l' c' s' x'
   obtain ⟨h1,e⟩:=xO (show bc (Nat.beq b b') (bc (Nat.beq o o') (bc (Nat.beq l l') (bc (Nat.beq c c') (bc (Nat.beq s s') (bc (bc x x' (aY x')) K False) False) False) False) False) False from e)
   obtain ⟨h2,e⟩:=xO e
   obtain ⟨h3,e⟩:=xO e
   obtain ⟨h4,e⟩:=xO e
   obtain ⟨h5,e⟩:=xO e
   obtain ⟨h6,e⟩:=xO e
   refine ⟨?_,e⟩
   show bc (Nat.beq b b') (bc (Nat.beq o o') (bc (Nat.beq l l') (bc (Nat.beq c c') (bc (Nat.beq s s') (bc x x' (aY x')) false) false) false) false) false=true
   rw [h1,h2,h3,h4,h5,h6];rfl
 | .nilMap,u,K,e=>by cases u <;> first | exact ⟨rfl,e⟩ | exact False.elim e
 | .map b,u,K,e=>by
   cases u <;> first | exact False.elim e | skip
   exact xO e
 | .func fn a b,u,K,e=>by
   have e:(kW fn a b).cs False False (fun f _ _=>(pE u).cs False False (fun f' a' b'=>bc (Nat.beq f f') (vK a a' (vK b b' K)) False) False) False:=e
   show (kW fn a b).cs false false (fun f _ _=>(pE u).cs false false (fun f' a' b'=>bc (Nat.beq f f') (bc (ga a a') (ga b b') false) false) false) false=true∧K
   cases hf:kW fn a b with
   | no=>rw [hf] at e;exact False.elim e
   | nil=>rw [hf] at e;exact False.elim e
   | other=>rw [hf] at e;exact False.elim e
   | fn f x y=>
     rw [hf] at e
     cases hu:pE u with
     | no=>rw [hu] at e;exact False.elim e
     | nil=>rw [hu] at e;exact False.elim e
     | other=>rw [hu] at e;exact False.elim e
     | fn f' a' b'=>
       rw [hu] at e
       obtain ⟨h1,e⟩:=xO (show bc (Nat.beq f f') (vK a a' (vK b b' K)) False from e)
       obtain ⟨h2,e⟩:=l6 a a' e
       obtain ⟨h3,e⟩:=l6 b b' e
       refine ⟨?_,e⟩
       show bc (Nat.beq f f') (bc (ga a a') (ga b b') false) false=true
       rw [h1,h2,h3];rfl
 | .nilFunc,u,K,e=>by
   have e:(pE u).cs False K (fun _ _ _=>False) False:=e
   show (pE u).cs false true (fun _ _ _=>false) false=true∧K
   cases hu:pE u with
   | nil=>rw [hu] at e;exact ⟨rfl,e⟩
   | _=>rw [hu] at e;exact False.elim e
 | .iface t v,u,K,e=>by
   cases u <;> first | exact False.elim e | skip
   rename_i t' w
   obtain ⟨h1,e⟩:=xO (show bc (Nat.beq t t') (yM v w K) False from e)
   obtain ⟨h2,e⟩:=qT v w e
   refine ⟨?_,e⟩
   show bc (Nat.beq t t') (eC v w) false=true
   rw [h1,h2];rfl
 | .nilIface,u,K,e=>by cases u <;> first | exact ⟨rfl,e⟩ | exact False.elim e
 | .agg l,u,K,e=>by
   cases u <;> first | exact False.elim e | skip
   exact l6 l _ e
 | .tuple l,u,K,e=>by
   cases u <;> first | exact False.elim e | skip
   exact l6 l _ e
theorem l6: ∀(l m:List AV) {K:Prop},vK l m K→ga l m=true∧K
 | [],m,K,e=>by
   cases m with
   | nil=>exact ⟨rfl,e⟩
   | cons _ _=>exact False.elim e
 | a::l,m,K,e=>by
   cases m with
   | nil=>exact False.elim e
   | cons b m=>
     obtain ⟨h1,e⟩:=qT a b (show yM a b (vK l m K) from e)
     obtain ⟨h2,e⟩:=l6 l m e
     refine ⟨?_,e⟩
     show bc (eC a b) (ga l m) false=true
     rw [h1,h2];rfl
end
theorem n3: ∀{ps:List PD} {n:Nat} {h:Hp} {K:Prop},yN ps n h K→aZ ps n h=true∧K
 | [],n,h,K,e=>⟨rfl,e⟩
 | p::ps,n,h,K,e=>by
   have e:bc (Nat.blt p.hi n) (yN ps n h K) ((bP p.o p.t h).cs False fun v=>yM p.v v (yN ps n h K)):=e
   show bc (bc (Nat.blt p.hi n) true (again p.o p.t p.v h)) (aZ ps n h) false=true∧K
   cases hb:Nat.blt p.hi n with
   | true=>rw [hb] at e;exact n3 e
   | false=>
     rw [hb] at e
     obtain ⟨v,h1,h2⟩:=Ex (show (bP p.o p.t h).cs False (fun v=>yM p.v v (yN ps n h K)) from e)
     obtain ⟨h3,h4⟩:=qT _ _ h2
     obtain ⟨h5,h6⟩:=n3 h4
     refine ⟨?_,h6⟩
     show bc ((bP p.o p.t h).cs false fun v'=>eC p.v v') (aZ ps n h) false=true
     rw [h1]
     show bc (eC p.v v) (aZ ps n h) false=true
     rw [h3,h5];rfl
theorem CM {v:AV} {K:Prop} (e:v.asSlice False K (fun _ _ _ _ _ _=>K)):eC v v=true∧K:=by
 cases v with
 | nilSlice=>exact ⟨rfl,e⟩
 | slice b o l c s x=>
   refine ⟨?_,e⟩
   show bc (Nat.beq b b) (bc (Nat.beq o o) (bc (Nat.beq l l) (bc (Nat.beq c c) (bc (Nat.beq s s) (bc x x (aY x)) false) false) false) false) false=true
   rw [Nat.beq_refl,Nat.beq_refl,Nat.beq_refl,Nat.beq_refl,Nat.beq_refl]
   cases x <;> rfl
 | _=>exact e.elim
theorem l7: ∀{ps:List PD} {n:Nat} {h:Hp} {K:Prop},jb ps n h K→aZ ps n h=true∧K
 | [],n,h,K,e=>⟨rfl,e⟩
 | p::ps,n,h,K,e=>by
   have e:bc (Nat.blt p.hi n) (jb ps n h K) (bc (CG p.o) (p.v.asSlice False (bP p.o p.t h= .ok p.v∧jb ps n h K) (fun _ _ _ _ _ _=>bP p.o p.t h= .ok p.v∧jb ps n h K)) ((bP p.o p.t h).cs False fun v=>yM p.v v (jb ps n h K))):=e
   show bc (bc (Nat.blt p.hi n) true (again p.o p.t p.v h)) (aZ ps n h) false=true∧K
   cases hb:Nat.blt p.hi n with
   | true=>rw [hb] at e;exact l7 e
   | false=>
     rw [hb] at e
     have e:bc (CG p.o) (p.v.asSlice False (bP p.o p.t h= .ok p.v∧jb ps n h K) (fun _ _ _ _ _ _=>bP p.o p.t h= .ok p.v∧jb ps n h K)) ((bP p.o p.t h).cs False fun v=>yM p.v v (jb ps n h K)):=e
     have key:(∃v,bP p.o p.t h= .ok v∧eC p.v v=true)∧jb ps n h K:=by
      cases hs:CG p.o with
      | true=>
        rw [hs] at e
        obtain ⟨h1,h2,h3⟩:=CM (show p.v.asSlice False (bP p.o p.t h= .ok p.v∧jb ps n h K) (fun _ _ _ _ _ _=>bP p.o p.t h= .ok p.v∧jb ps n h K) from e)
        exact ⟨⟨_,h2,h1⟩,h3⟩
      | false=>
        rw [hs] at e
        obtain ⟨v,h1,h2⟩:=Ex (show (bP p.o p.t h).cs False (fun v=>yM p.v v (jb ps n h K)) from e)
        obtain ⟨h3,h4⟩:=qT _ _ h2
        exact ⟨⟨v,h1,h3⟩,h4⟩
     obtain ⟨⟨v,h1,h3⟩,h4⟩:=key
     obtain ⟨h5,h6⟩:=l7 h4
     refine ⟨?_,h6⟩
     show bc ((bP p.o p.t h).cs false fun v'=>eC p.v v') (aZ ps n h) false=true
     rw [h1]
     show bc (eC p.v v) (aZ ps n h) false=true
     rw [h3,h5];rfl
theorem mQ: ∀{ps:List PD} {n:Nat} {h:Hp},qS ps n h→aZ ps n h=true
 | [],n,h,_=>rfl
 | p::ps,n,h,e=>by
   have e:bc (Nat.blt p.hi n) (qS ps n h) (again p.o p.t p.v h=true∧qS ps n h):=e
   show bc (bc (Nat.blt p.hi n) true (again p.o p.t p.v h)) (aZ ps n h) false=true
   cases hb:Nat.blt p.hi n with
   | true=>rw [hb] at e;exact mQ e
   | false=>
     rw [hb] at e
     show bc (again p.o p.t p.v h) (aZ ps n h) false=true
     rw [e.1];exact mQ e.2
theorem yP (hc:fD call callW): ∀(l:List DS) {n:Nat} {t:T} {h:Hp} {ps:List PD} {c:Nat} {r:b7} {k:KT},Rw call callW l n t h ps c r k→
  ∃t' h' c' r',oo call l n t h ps= .ok t' h'∧k t' h' c' r'
 | [],n,t,h,ps,c,r,k,e=>False.elim e
 | s::l,n,t,h,ps,c,r,k,e=>by
   obtain ⟨t1,h1,ps1,c1,r1,e1,e2⟩:=oU s.os (show nZ s.os t h ps c r _ from e)
   have go: ∀c r,aZ ps1 n h1=true→(aA (k t1 h1 c r) (fun e=>oW call callW e t1 h1 c r fun t h c r=>Rw call callW l (Nat.succ n) t h ps1 c r k) s.e:Prop)→
     ∃t' h' c' r',oo call (s::l) n t h ps= .ok t' h'∧k t' h' c' r':=by
    intro c r hr e
    have key:oo call (s::l) n t h ps=aA (.ok t1 h1) (fun e=>(vu call e t1 h1).then fun t h=>oo call l (Nat.succ n) t h ps1) s.e:=by
     show eU s.os t h ps _=_
     rw [e1]
     show bc (aZ ps1 n h1) _ _=_
     rw [hr];rfl
    rw [key]
    cases hs:s.e with
    | none=>rw [hs] at e;exact ⟨_,_,_,_,rfl,e⟩
    | some e'=>
      rw [hs] at e
      obtain ⟨t2,h2,c2,r2,e3,e4⟩:=EA hc (show oW call callW e' t1 h1 c r _ from e)
      obtain ⟨t3,h3,c3,r3,e5,e6⟩:=yP hc l e4
      refine ⟨t3,h3,c3,r3,?_,e6⟩
      show (vu call e' t1 h1).then _=_
      rw [e3];exact e5
   have hbc: ∀{b:Bool} {p:Prop},bc b p False→b=true∧p:=by
    intro b p e
    cases b with
    | true=>exact ⟨rfl,e⟩
    | false=>exact False.elim e
   rcases l5 e2 with ⟨r1,e2⟩ | ⟨m,e2⟩
   ·cases r1 with
    | fin=>obtain ⟨hr,e3⟩:=hbc e2;exact go _ _ hr e3
    | exi n f=>obtain ⟨hr,e3⟩:=hbc e2;exact go _ _ hr e3
    | dis n a b=>obtain ⟨hr,e3⟩:=hbc e2;exact go _ _ hr e3
    | again n' r'=>exact go _ _ (mQ e2.1) e2.2
    | agn n' r'=>exact go _ _ (n3 e2).1 (n3 e2).2
    | goal n' r'=>exact go _ _ (l7 e2).1 (l7 e2).2
    | _=>exact False.elim e2
   ·obtain ⟨hr,e3⟩:=hbc e2;exact go _ _ hr e3
theorem TL {s:RS} {a:T→Hp→Prop} {b:Nat→T→Hp→Prop} {d:T→Hp→Prop} (e:s.cs False a b d):s≠ .no:=by
 rintro rfl;exact e
def Jx (res:T→Hp→RS) (w:uw):Prop:= ∀t h c r k,w t h c r k→∃s c' r',res t h=s∧s≠ .no∧k s c' r'
theorem l8 (hc:fD call callW): ∀(a:AC),Jx (c7 call N a) (cW call callW N a)
 | .skip=>fun t h c r k e=>⟨_,c,r,rfl,nofun,e⟩
 | .region os=>fun t h c r k e=>by
   obtain ⟨t1,h1,c1,r1,e1,e2⟩:=yO hc os (show Rv call callW os t h c r _ from e)
   refine ⟨.nor t1 h1,c1,r1,?_,nofun,e2⟩
   show (rN call os t h).done=_
   rw [e1];rfl
 | .drawn l=>fun t h c r k e=>by
   obtain ⟨t1,h1,c1,r1,e1,e2⟩:=yP hc l (show Rw call callW l 0 t h [] c r _ from e)
   refine ⟨.nor t1 h1,c1,r1,?_,nofun,e2⟩
   show (oo call l 0 t h []).done=_
   rw [e1];rfl
 | .seq a b=>fun t h c r k e=>by
   obtain ⟨s,c1,r1,e1,e2,e3⟩:=l8 hc a t h c r _ (show cW call callW N a t h c r (fun s c r=>s.cs False (fun t h=>cW call callW N b t h c r k) (fun i t h=>k (.exit i t h) c r) (fun t h=>k (.ret t h) c r)) from e)
   show∃s c' r',(c7 call N a t h).then (c7 call N b)=s∧_
   rw [e1]
   cases s with
   | no=>exact False.elim e3
   | nor t1 h1=>exact l8 hc b t1 h1 c1 r1 k e3
   | exit i t1 h1=>exact ⟨_,c1,r1,rfl,nofun,e3⟩
   | ret t1 h1=>exact ⟨_,c1,r1,rfl,nofun,e3⟩
 | .cond x a b=>fun t h c r k e=>by
   obtain ⟨v,hv,e1⟩:=RP (show (Eu (aD x t)).cs False (fun b'=>bc b' (cW call callW N a t h c r k) (cW call callW N b t h c r k)) from e)
   show∃s c' r',(aD x t).asBool RS.no (fun b'=>bc b' (c7 call N a t h) (c7 call N b t h))=s∧_
   rw [hv]
   cases v with
   | true=>exact l8 hc a t h c r k e1
   | false=>exact l8 hc b t h c r k e1
 | .block i a=>fun t h c r k e=>by
   obtain ⟨s,c1,r1,e1,e2,e3⟩:=l8 hc a t h c r _ (show cW call callW N a t h c r _ from e)
   show∃s c' r',(c7 call N a t h).block i=s∧_
   rw [e1]
   cases s with
   | no=>exact False.elim e3
   | nor t1 h1=>exact ⟨_,c1,r1,rfl,nofun,e3⟩
   | ret t1 h1=>exact ⟨_,c1,r1,rfl,nofun,e3⟩
   | exit j t1 h1=>
     have e3:bc (Nat.beq j i) (k (.nor t1 h1) c1 r1) (k (.exit j t1 h1) c1 r1):=e3
     show∃s c' r',bc (Nat.beq j i) (RS.nor t1 h1) (.exit j t1 h1)=s∧_
     cases hb:Nat.beq j i with
     | true=>rw [hb] at e3;exact ⟨_,c1,r1,rfl,nofun,e3⟩
     | false=>rw [hb] at e3;exact ⟨_,c1,r1,rfl,nofun,e3⟩
 | .loop a=>fun t h c r k e=>by
   have go: ∀c r,Rx (cW call callW N a) N k t h c r→∃s c' r',c7 call N (.loop a) t h=s∧s≠ .no∧k s c' r':=by
    intro c r e
    show∃s c' r',rounds (fun _ _=>RS.no) (fun again t h=>(c7 call N a t h).then again) N t h=s∧_
    have key: ∀(j:Nat) (t:T) (h:Hp) (c:Nat) (r:b7),Rx (cW call callW N a) j k t h c r→
     ∃s c' r',rounds (fun _ _=>RS.no) (fun again t h=>(c7 call N a t h).then again) j t h=s∧s≠ .no∧k s c' r':=by
     intro j
     induction j with
     | zero=>exact fun t h c r e=>False.elim e
     | succ j ih=>
       intro t h c r e
       obtain ⟨s,c1,r1,e1,e2,e3⟩:=l8 hc a t h c r _ (show cW call callW N a t h c r _ from e)
       show∃s c' r',(c7 call N a t h).then (rounds (fun _ _=>RS.no) (fun again t h=>(c7 call N a t h).then again) j)=s∧_
       rw [e1]
       cases s with
       | no=>exact False.elim e3
       | nor t1 h1=>exact ih t1 h1 c1 r1 e3
       | exit i t1 h1=>exact ⟨_,c1,r1,rfl,nofun,e3⟩
       | ret t1 h1=>exact ⟨_,c1,r1,rfl,nofun,e3⟩
    exact key N t h c r e
   rcases l5 (show step c r _ _ from e) with ⟨r,e⟩ | ⟨m,e⟩
   ·cases r with
    | fin=>exact go _ _ e
    | exi n f=>exact go _ _ e
    | dis n a b=>exact go _ _ e
    | lp n s r=>exact ⟨s,_,_,e.1,TL e.2.1,e.2.2⟩
    | lpx n s r=>obtain ⟨w,h1,h2,h3⟩:=e;exact ⟨s w,_,_,h1,TL h2,h3⟩
    | _=>exact False.elim e
   ·exact go _ _ e
 | .exit i=>fun t h c r k e=>⟨_,c,r,rfl,nofun,e⟩
 | .ret=>fun t h c r k e=>⟨_,c,r,rfl,nofun,e⟩
 | .fail w=>fun t h c r k e=>False.elim e
theorem yQ (hc:fD call callW) {S:Nat→Option AF}:fD (mH S N call) (LD S N call callW):=fun f args h c r k e=>by
 have e:(aA False (fun fn=>bc (Nat.ble (len args) fn.ntmps) (cW call callW N fn.body (db args) h c r fun s c r=>s.cs False (fun t h=>vM fn.results t h c r k) (fun _ _ _=>False) (fun t h=>vM fn.results t h c r k)) False) (S f):Prop):=e
 show∃v h' c' r',aA RV.no (fun fn=>bc (Nat.ble (len args) fn.ntmps) (finish fn.results (c7 call N fn.body (db args) h)) .no) (S f)= .ok v h'∧_
 cases hf:S f with
 | none=>rw [hf] at e;exact False.elim e
 | some fn=>
   rw [hf] at e
   have e:bc (Nat.ble (len args) fn.ntmps) (cW call callW N fn.body (db args) h c r fun s c r=>s.cs False (fun t h=>vM fn.results t h c r k) (fun _ _ _=>False) (fun t h=>vM fn.results t h c r k)) False:=e
   show∃v h' c' r',bc (Nat.ble (len args) fn.ntmps) (finish fn.results (c7 call N fn.body (db args) h)) .no= .ok v h'∧_
   cases hb:Nat.ble (len args) fn.ntmps with
   | false=>rw [hb] at e;exact False.elim e
   | true=>
     rw [hb] at e
     obtain ⟨s,c1,r1,e1,e2,e3⟩:=l8 hc fn.body (db args) h c r _ e
     show∃v h' c' r',finish fn.results (c7 call N fn.body (db args) h)= .ok v h'∧_
     rw [e1]
     cases s with
     | no=>exact False.elim e3
     | exit i t1 h1=>exact False.elim e3
     | nor t1 h1=>obtain ⟨v,h',h2,h3⟩:=LF e3;exact ⟨v,h',_,_,h2,h3⟩
     | ret t1 h1=>obtain ⟨v,h',h2,h3⟩:=LF e3;exact ⟨v,h',_,_,h2,h3⟩
end
section
variable {P:Program}
end
end Eng
end
section
set_option linter.unusedVariables false
set_option linter.unusedSimpArgs false
namespace Eng
open Go Go.RowKit
def lE (l:List (Nat×AV)) (t:T):T:=b6 t (fun p _ ih=>dQ (pathOf p.1) p.2 ih) l
def di (L:List Nat) (t:T):List (Option AV):=lmap (fun i=>br (pathOf i) t) L
def Has (l:List (Nat×AV)) (t:T):Prop:=di (l.map (·.1)) t=l.map fun p=>some p.2
theorem mR {α:Type}: ∀{p:pA} {v:α} {t:Tr α},br p t=some v→dQ p v t=t
 | .e,v,t,h=>by
   cases t with
   | lf=>cases h
   | nd a l r=>
     have h:a=some v:=h
     subst h;rfl
 | .l p,v,t,h=>by
   cases t with
   | lf=>
     have h:br p (.lf:Tr α)=some v:=h
     rw [ek] at h;cases h
   | nd a l r=>
     show Tr.nd a (dQ p v l) r=_
     rw [mR (show br p l=some v from h)]
 | .r p,v,t,h=>by
   cases t with
   | lf=>
     have h:br p (.lf:Tr α)=some v:=h
     rw [ek] at h;cases h
   | nd a l r=>
     show Tr.nd a l (dQ p v r)=_
     rw [mR (show br p r=some v from h)]
theorem qU: ∀{l:List (Nat×AV)} {t:T},Has l t→lE l t=t
 | [],t,_=>rfl
 | p::l,t,h=>by
   obtain ⟨h1,h2⟩:=List.cons.inj (show br (pathOf p.1) t::di (l.map (·.1)) t=some p.2::l.map (fun p=>some p.2) from h)
   show dQ (pathOf p.1) p.2 (lE l t)=t
   rw [qU (show Has l t from h2)]
   exact mR h1
def fP (L:List Nat) (Kn:List (Option AV)→Hp→Prop) (Ke:Nat→List (Option AV)→Hp→Prop) (Kr:List (Option AV)→Hp→Prop) (s:RS):Prop:=
 s.cs False (fun t h=>Kn (di L t) h) (fun i t h=>Ke i (di L t) h) (fun t h=>Kr (di L t) h)
theorem fD.none (call:aL):fD call (fun _ _ _ _ _ _=>False):=fun _ _ _ _ _ _ h=>h.elim
theorem uy {call:aL} {N:Nat} {c:AC} {t:T} {h:Hp} {o:b7} {L:List Nat} {Kn:List (Option AV)→Hp→Prop} {Ke:Nat→List (Option AV)→Hp→Prop} {Kr:List (Option AV)→Hp→Prop} {p:Prop}
  (e:cW call (fun _ _ _ _ _ _=>False) N c t h o.n o (fun s _ _=>fP L Kn Ke Kr s)=p) (hp:p): ∃s,c7 call N c t h=s∧fP L Kn Ke Kr s:=by
 rw [←e] at hp
 obtain ⟨s,_,_,h1,_,h3⟩:=l8 (fD.none call) c t h _ _ _ hp
 exact ⟨s,h1,h3⟩
theorem l9 {call:aL} {S:Nat→Option AF} {N:Nat} {f:Nat} {args:List AV} {h:Hp} {o:b7} {K:AV→Hp→Prop} {p:Prop}
  (e:LD S N call (fun _ _ _ _ _ _=>False) f args h o.n o (fun v h _ _=>K v h)=p) (hp:p): ∃v h',mH S N call f args h= .ok v h'∧K v h':=by
 rw [←e] at hp
 obtain ⟨v,h',_,_,h1,h3⟩:=yQ (fD.none call) f args h _ _ _ hp
 exact ⟨v,h',h1,h3⟩
theorem CN {call:aL} {N:Nat} {body:AC} (L:List Nat) (Inv:Nat→List (Option AV)→Hp→Prop) (Ke:Nat→List (Option AV)→Hp→Prop) (Kr:List (Option AV)→Hp→Prop)
  (step: ∀n t h,Inv n (di L t) h→∃s,c7 call N body t h=s∧fP L (fun l h'=> ∃m,m < n∧Inv m l h') Ke Kr s) (n:Nat) (hn:n < N) (t:T) (h:Hp) (h0:Inv n (di L t) h):
  ∃s,c7 call N (.loop body) t h=s∧fP L (fun _ _=>False) Ke Kr s:=by
 show∃s,rounds (fun _ _=>RS.no) (fun again t h=>(c7 call N body t h).then again) N t h=s∧fP L (fun _ _=>False) Ke Kr s
 have key: ∀(j n:Nat),n < j→∀t h,Inv n (di L t) h→∃s,rounds (fun _ _=>RS.no) (fun again t h=>(c7 call N body t h).then again) j t h=s∧fP L (fun _ _=>False) Ke Kr s:=by
  intro j
  induction j with
  | zero=>exact fun n hn=>absurd hn (Nat.not_lt_zero _)
  | succ j ih=>
    intro n hn t h hi
    obtain ⟨s,e,hs⟩:=step n t h hi
    show∃s,(c7 call N body t h).then (rounds (fun _ _=>RS.no) (fun again t h=>(c7 call N body t h).then again) j)=s∧_
    rw [e]
    cases s with
    | no=>exact hs.elim
    | nor t' h'=>
      obtain ⟨m,hm,hi'⟩:=(show∃m,m < n∧Inv m (di L t') h' from hs)
      exact ih m (by omega) t' h' hi'
    | exit i t' h'=>exact ⟨_,rfl,hs⟩
    | ret t' h'=>exact ⟨_,rfl,hs⟩
 exact key N n hn t h h0
theorem EB {a b:Nat} (h:gL (.ofNat a) (.ofNat b)=true):a < b:=by rw [fy] at h;simpa using h
theorem EC {a b:Nat} (h:gL (.ofNat a) (.ofNat b)=false):b≤a:=by rw [fy] at h;simpa using h
theorem wrap_i64 {n:Nat} (h:n < 9223372036854775808):dB .i64 (.ofNat n)= .ofNat n:=by
 show bc (Nat.blt n 9223372036854775808) (Int.ofNat n) _=_
 rw [dR,decide_eq_true h];rfl
theorem vO (m n:Nat):oh m (.ofNat n)= .ofNat (n % m):=by
 show bc (Nat.blt n m) (Int.ofNat n) (.ofNat (Nat.mod n m))=_
 rw [eD]
 split
 ·rw [Nat.mod_eq_of_lt ‹_›]
 ·rfl
def s4 (k:IntKind):Bool:=match k with | .u8 | .u16 | .u32 | .u64=>true | _=>false
theorem oV {k:IntKind} (hk:s4 k=true) (n:Nat):dB k (.ofNat n)= .ofNat (n % cY k):=by
 cases k <;> first | exact vO _ _ | cases hk
theorem bN (k:IntKind):bj k k=true:=by cases k <;> rfl
theorem LH {a b:Nat} (h:a+b < 9223372036854775808):bP (.bin .add (.const (.int .i64 (.ofNat a))) (.const (.int .i64 (.ofNat b)))) .lf H0= .ok (.int .i64 (.ofNat (a+b))):=by
 show OV.ok (.int .i64 (dB .i64 (.ofNat (a+b))))=_
 rw [wrap_i64 h]
theorem uz {a b:Nat} (h:b≤a):Int.sub (.ofNat a) (.ofNat b)= .ofNat (a - b):=by
 show (Int.ofNat a - Int.ofNat b:Int)=_
 simp only [Int.ofNat_eq_natCast];omega
theorem l_ {a b:Nat} (h:b≤a) (ha:a < 9223372036854775808):bP (.bin .sub (.const (.int .i64 (.ofNat a))) (.const (.int .i64 (.ofNat b)))) .lf H0= .ok (.int .i64 (.ofNat (a - b))):=by
 show OV.ok (.int .i64 (dB .i64 (Int.sub (.ofNat a) (.ofNat b))))=_
 rw [uz h,wrap_i64 (by omega)]
theorem LI {k:IntKind} (hk:s4 k=true) {a b:Nat}:bP (.bin .add (.const (.int k (.ofNat a))) (.const (.int k (.ofNat b)))) .lf H0= .ok (.int k (.ofNat ((a+b) % cY k))):=by
 show bc (bj k k) (rF k (.ofNat (a+b))) .no=_
 rw [bN];show OV.ok (.int k (dB k (.ofNat (a+b))))=_
 rw [oV hk]
theorem LJ {k:IntKind} (hk:s4 k=true) {a b:Nat} (ha:a < cY k) (hb:b < cY k):bP (.bin .and (.const (.int k (.ofNat a))) (.const (.int k (.ofNat b)))) .lf H0= .ok (.int k (.ofNat (a &&& b))):=by
 show bc (bj k k) (rF k (.ofNat (Nat.land (a % cY k) (b % cY k)))) .no=_
 rw [bN,Nat.mod_eq_of_lt ha,Nat.mod_eq_of_lt hb];show OV.ok (.int k (dB k (.ofNat (a &&& b))))=_
 rw [oV hk,Nat.mod_eq_of_lt (Nat.lt_of_le_of_lt Nat.and_le_left ha)]
theorem RQ {k:IntKind} (hk:s4 k=true) {a b:Nat} (ha:a < cY k) (hb:b < cY k):bP (.bin .or (.const (.int k (.ofNat a))) (.const (.int k (.ofNat b)))) .lf H0= .ok (.int k (.ofNat (a ||| b))):=by
 show bc (bj k k) (rF k (.ofNat (Nat.lor (a % cY k) (b % cY k)))) .no=_
 rw [bN,Nat.mod_eq_of_lt ha,Nat.mod_eq_of_lt hb];show OV.ok (.int k (dB k (.ofNat (a ||| b))))=_
 have hp:cY k=2 ^ k.bits:=lL k
 rw [oV hk,Nat.mod_eq_of_lt (by rw [hp] at ha hb ⊢;exact Nat.or_lt_two_pow ha hb)]
theorem LK {k:IntKind} (hk:s4 k=true) {j:IntKind} {a n:Nat}:bP (.bin .shl (.const (.int k (.ofNat a))) (.const (.int j (.ofNat n)))) .lf H0= .ok (.int k (.ofNat (a*2 ^ n % cY k))):=by
 show OV.ok (.int k (dB k (.ofNat (a*2 ^ cut n (t_ k)))))=_
 rw [oV hk,qz,oy,lL]
 rcases Nat.le_total n k.bits with hn | hn
 ·rw [Nat.min_eq_left hn]
 ·rw [Nat.min_eq_right hn]
  have:a*2 ^ n % 2 ^ k.bits=0:=by
   rw [show n=k.bits+(n - k.bits) by omega,Nat.pow_add,←Nat.mul_assoc,Nat.mul_right_comm]
   exact Nat.mul_mod_left _ _
  rw [this,Nat.mul_mod_left]
theorem yR {k:IntKind} (hk:s4 k=true) {j:IntKind} {a:Nat}:bP (.toInt k (.const (.int j (.ofNat a)))) .lf H0= .ok (.int k (.ofNat (a % cY k))):=by
 show OV.ok (.int k (dB k (.ofNat a)))=_
 rw [oV hk]
def nt (v:AV) (lo hi:Nat):AV:=v.asSlice v v fun b o _ c s e=> .slice b (o+lo*s) (hi - lo) (c - lo) s e
theorem jP {b o n c sz k:Nat} {ex:Bool} (h:k < n):bP (.idxAddrSl sz (.const (.slice b o n c sz ex)) (.const (.int .i64 (.ofNat k)))) .lf H0= .ok (.ptr b (o+k*sz)):=by
 show bc (Nat.beq sz sz) (bc (Nat.blt k n) (OV.ok (.ptr b (o+k*sz))) .no) .no=_
 rw [Nat.beq_refl,dR,decide_eq_true h];rfl
theorem jw (l:List Nat):nb l=l.map fun n=>AV.int .u8 (.ofNat n):=bW _ _
abbrev vi (n:Nat):AV:= .int .i64 (.ofNat n)
abbrev aB (n:Nat):AV:= .int .u8 (.ofNat n)
abbrev vw (n:Nat):AV:= .int .u32 (.ofNat n)
abbrev vq (n:Nat):AV:= .int .u64 (.ofNat n)
end Eng
end
section
set_option linter.unusedVariables false
set_option linter.unusedSimpArgs false
namespace Eng
open Go Go.RowKit
structure Old (B:Nat) (h h':Hp):Prop where
 next:h.next≤h'.next
 get: ∀b,b < B→az h' b=az h b
theorem Old.refl (B:Nat) (h:Hp):Old B h h:=⟨Nat.le_refl _,fun _ _=>rfl⟩
theorem Old.trans {B:Nat} {h h' h'':Hp} (a:Old B h h') (b:Old B h' h''):Old B h h'':=⟨Nat.le_trans a.next b.next,fun k hk=>(b.get k hk).trans (a.get k hk)⟩
theorem Old.le {B C:Nat} {h h':Hp} (a:Old B h h') (hc:C≤B):Old C h h':=⟨a.next,fun k hk=>a.get k (by omega)⟩
theorem Old.push {B:Nat} {h:Hp} (hB:B≤h.next) (x:aC):Old B h (bz h x):=⟨Nat.le_succ _,fun k hk=>aE h x (by omega)⟩
theorem Old.set {B b:Nat} {h:Hp} (hB:B≤b) (x:aC):Old B h (cE h b x):=⟨Nat.le_refl _,fun k hk=>aS h x (by omega)⟩
inductive e9 (sz B:Nat) (h:Hp):AV→Nat→List AV→Prop
 | nil:e9 sz B h .nilSlice 0 []
 | sl {b n:Nat} {ex:Bool} {w:Own} {L:List AV} (hB:B≤b) (hb:b < h.next) (hg:az h b=some (.cells L (n*sz) w)) (hl:L.length=n*sz) (hw:w= .solo∨∃p,w= .pair p∧(B≤p∧p < h.next)∧p≠b):
   e9 sz B h (.slice b 0 n n sz ex) n L
theorem e9.push {sz B:Nat} {h:Hp} {s:AV} {n:Nat} {L:List AV} (o:e9 sz B h s n L) (x:aC):e9 sz B (bz h x) s n L:=by
 cases o with
 | nil=>exact .nil
 | sl hB hb hg hl hw=>exact .sl hB (by rw [hpush_next];omega) (by rw [aE h x (by omega)];exact hg) hl (hw.imp id fun ⟨p,h1,h2,h3⟩=>⟨p,h1,⟨h2.1,by rw [hpush_next];omega⟩,h3⟩)
theorem e9.low {sz B C:Nat} {h:Hp} {s:AV} {n:Nat} {L:List AV} (o:e9 sz B h s n L) (hc:C≤B):e9 sz C h s n L:=by
 cases o with
 | nil=>exact .nil
 | sl hB hb hg hl hw=>exact .sl (by omega) hb hg hl (by rcases hw with h | ⟨p,h1,h2,h3⟩;exact .inl h;exact .inr ⟨p,h1,by omega,h3⟩)
theorem e9.eM {sz B C:Nat} {h h':Hp} {s:AV} {n:Nat} {L:List AV} (o:e9 sz B h s n L) (a:Old C h h') (hc:h.next≤C):e9 sz B h' s n L:=by
 cases o with
 | nil=>exact .nil
 | sl hB hb hg hl hw=>exact .sl hB (by have:=a.next;omega) (by rw [a.get _ (by omega)];exact hg) hl (hw.imp id fun ⟨p,h1,h2,h3⟩=>⟨p,h1,⟨h2.1,by have:=a.next;omega⟩,h3⟩)
theorem e9.fl {sz B:Nat} {h:Hp} {s:AV} {n:Nat} {L:List AV} (o:e9 sz B h s n L): ∀b o' l c z ex,s= .slice b o' l c z ex→b < h.next:=by
 cases o with
 | nil=>intro b o' l c z ex e;cases e
 | sl hB hb hg hl hw=>intro b o' l c z ex e;cases e;exact hb
theorem e9.len {sz B n:Nat} {h:Hp} {v:AV} {L:List AV} (o:e9 sz B h v n L):L.length=n*sz:=by
 cases o with
 | nil=>simp
 | sl hB hb hg hl hw=>exact hl
inductive Bytes (B:Nat) (h:Hp):AV→List Nat→Prop
 | nil:Bytes B h .nilSlice []
 | sl {b o c:Nat} {ex:Bool} {cs:List AV} {m:Nat} {w:Own} {l:List Nat} (hB:b < B) (hg:az h b=some (.cells cs m w)) (hcl:cs.length=m) (hl:(cs.drop o).take l.length=nb l) (hm:o+l.length≤m) (hc:l.length≤c) (hb: ∀x ∈ l,x < 256):
   Bytes B h (.slice b o l.length c 1 ex) l
theorem Bytes.lt {B:Nat} {h:Hp} {v:AV} {l:List Nat} (o:Bytes B h v l): ∀x ∈ l,x < 256:=by
 cases o with
 | nil=>simp
 | sl hB hg hcl hl hm hc hb=>exact hb
theorem e9.bytes {B C:Nat} {h:Hp} {s:AV} {n:Nat} {l:List Nat} (o:e9 1 B h s n (nb l)) (hb: ∀x ∈ l,x < 256) (hC:h.next≤C):Bytes C h s l:=by
 generalize hL:nb l=L at o
 cases o with
 | nil=>
   cases l with
   | nil=>exact .nil
   | cons x l=>cases hL
 | @sl b n ex w L hB hb' hg hl hw=>
   subst hL
   have hn:l.length=n:=by rw [cM] at hl;omega
   subst hn
   exact .sl (by omega) hg hl (by rw [List.drop_zero,List.take_of_length_le (by rw [cM];omega)]) (by omega) (Nat.le_refl _) hb
theorem Bytes.eM {B:Nat} {h h':Hp} {v:AV} {l:List Nat} (o:Bytes B h v l) (a:Old B h h'):Bytes B h' v l:=by
 cases o with
 | nil=>exact .nil
 | sl hB hg hcl hl hm hc hb=>exact .sl hB (by rw [a.get _ hB];exact hg) hcl hl hm hc hb
theorem Bytes.up {B C:Nat} {h:Hp} {v:AV} {l:List Nat} (o:Bytes B h v l) (hC:B≤C):Bytes C h v l:=by
 cases o with
 | nil=>exact .nil
 | sl hB hg hcl hl hm hc hb=>exact .sl (by omega) hg hcl hl hm hc hb
theorem Bytes.part {B:Nat} {h:Hp} {v:AV} {l:List Nat} (o:Bytes B h v l) {lo hi:Nat} (h1:lo≤hi) (h2:hi≤l.length):Bytes B h (nt v lo hi) ((l.take hi).drop lo):=by
 cases o with
 | nil=>
   have:hi=0:=Nat.le_zero.1 h2
   subst this
   obtain rfl:lo=0:=Nat.le_zero.1 h1
   exact .nil
 | @sl b o c ex cs m w l hB hg hcl hl hm hc hb=>
   have hlen:((l.take hi).drop lo).length=hi - lo:=by rw [List.length_drop,List.length_take];omega
   have key:nt (.slice b o l.length c 1 ex) lo hi= .slice b (o+lo) ((l.take hi).drop lo).length (c - lo) 1 ex:=by
    rw [hlen]
    show AV.slice b (o+lo*1) (hi - lo) (c - lo) 1 ex=_
    rw [Nat.mul_one]
   rw [key]
   refine .sl hB hg hcl ?_ (by rw [hlen];omega) (by rw [hlen];omega) (fun x hx=>hb x (List.mem_of_mem_take (List.mem_of_mem_drop hx)))
   rw [hlen]
   have e1:(cs.drop (o+lo)).take (hi - lo)=(((cs.drop o).take l.length).take hi).drop lo:=by
    rw [List.take_take,List.drop_take,List.drop_drop,Nat.min_eq_left h2]
   rw [e1,hl,jw,jw,←List.map_take,←List.map_drop]
end Eng
namespace Eng
open Go Go.RowKit
end Eng
namespace Eng
open Go Go.RowKit
theorem vP {B:Nat} {h:Hp} {v:AV} {l:List Nat} (o:Bytes B h v l) {lo:Nat} (h1:lo≤l.length):Bytes B h (nt v lo l.length) (l.drop lo):=by
 have:=o.part h1 (Nat.le_refl _)
 rwa [List.take_of_length_le (Nat.le_refl _)] at this
theorem CO {B:Nat} {h:Hp} {v:AV} {l:List Nat} (o:Bytes B h v l) {hi:Nat} (h1:hi≤l.length):Bytes B h (nt v 0 hi) (l.take hi):=by
 have:=o.part (Nat.zero_le hi) h1
 rwa [List.drop_zero] at this
end Eng
namespace Eng
open Go Go.RowKit
end Eng
end
end
