import Derived.Test.YtfcljjhlijolgaaGreatDoorB3
import GoSem.ClaimGoes
noncomputable section
section
set_option linter.unusedVariables false
set_option linter.unusedSimpArgs false
namespace Eng
open Go Go.RowKit
def C9:List (Nat×KB)→List (Nat×Own)→List Ke:=fun a=>b6 (fun _=>[]) (fun p _ ih l=>eI [] (fun q r=>⟨p.1,q.1,q.2,p.2⟩::ih r) l) a
def ah:List (Nat×aC)→List (Nat×Own)→List Ke:=fun a=>b6 (fun _=>[]) (fun p _ ih l=>eI [] (fun q r=>⟨p.1,q.1,q.2, .b p.2⟩::ih r) l) a
def sN (l:List (Nat×KB)):List (Nat×aC):=lmap (fun p=>(p.1,p.2.J3)) l
def L5 (n:Nat) (c:Nat→Nat):List AV:=Nat.rec (motive:=fun _=>(Nat→Nat)→List AV) (fun _=>[]) (fun _ ih c=> .int .u8 (.ofNat (c 0))::ih fun i=>c (Nat.succ i)) n c
def aT (l:List Nat) (i:Nat):Nat:=aA 0 (fun x=>x) (ec l i)
def EK (Nc:Nat) (k:KB):Bool:=KB.rec (motive:=fun _=>Bool) (fun x=>match x with | .cells cs _ .ro=>dH (fun i=>Nat.blt i Nc) cs | _=>false) (fun z _ now=>match now with | .ro=>isNum z | _=>false) k
def EL (Nc:Nat) (LB:List (Nat×KB)):Bool:=bl (fun p=>bc (Nat.blt p.1 Nc) (EK Nc p.2) false) LB
theorem zv {Nc:Nat} {k:KB} (h:EK Nc k=true): ∃cs n,k.J3= .cells cs n .ro∧∀v ∈ cs,eO (fun i=>Nat.blt i Nc) v=true:=by
 cases k with
 | b x=>
   cases x with
   | cells cs n ow=>
     cases ow with
     | ro=>
       have h:dH (fun i=>Nat.blt i Nc) cs=true:=h
       rw [ky] at h
       exact ⟨cs,n,rfl,h⟩
     | _=>cases h
   | _=>cases h
 | m z n now=>
   cases now with
   | ro=>
     have h:isNum z=true:=h
     refine ⟨_,_,rfl,fun v hv=>?_⟩
     rw [mm hv]
     cases z <;> first | rfl | cases h
   | _=>cases h
mutual
theorem mX {d d':Nat→Bool} (h: ∀b,d b=true→d' b=true): ∀v,eO d v=true→eO d' v=true
 | .bool _,_ | .int _ _,_ | .str _,_ | .nilPtr,_ | .nilSlice,_ | .nilMap,_ | .nilFunc,_ | .nilIface,_=>by unfold eO;rfl
 | .ptr b o,k=>by unfold eO at *;exact h b k
 | .slice b o l c s e,k=>by unfold eO at *;exact h b k
 | .map b,k=>by unfold eO at *;exact h b k
 | .func f a b,k=>by unfold eO at *;obtain ⟨k1,k2⟩:=aU.1 k;exact aU.2 ⟨gV h a k1,gV h b k2⟩
 | .iface t v,k=>by unfold eO at *;exact mX h v k
 | .agg l,k=>by unfold eO at *;exact gV h l k
 | .tuple l,k=>by unfold eO at *;exact gV h l k
theorem gV {d d':Nat→Bool} (h: ∀b,d b=true→d' b=true): ∀l,dH d l=true→dH d' l=true
 | [],_=>by unfold dH;rfl
 | v::l,k=>by unfold dH at *;obtain ⟨k1,k2⟩:=aU.1 k;exact aU.2 ⟨mX h v k1,gV h l k2⟩
end
theorem mo.over {TB:Tr aC} {n0 Nc:Nat} (tb:mo TB n0) (h0:n0≤Nc) {LB:List (Nat×KB)} (h:EL Nc LB=true):mo (dk (sN LB) TB) Nc:=by
 unfold EL at h
 rw [aX] at h
 have key: ∀b,(∃p ∈ LB,p.1=b∧br (pathOf b) (dk (sN LB) TB)=some p.2.J3)∨br (pathOf b) (dk (sN LB) TB)=br (pathOf b) TB:=fun b=>by
  rw [n5]
  unfold sN;rw [bW]
  cases hf:(LB.map fun p=>(p.1,p.2.J3)).find? (fun p=>p.1 == b) with
  | none=>exact .inr rfl
  | some q=>
    have h1:=List.find?_some hf
    obtain ⟨p,hp,rfl⟩:=List.mem_map.1 (List.mem_of_find?_eq_some hf)
    exact .inl ⟨p,hp,by simpa using h1,rfl⟩
 refine ⟨fun b hb=>?_,fun b x hx=>?_⟩
 ·rcases key b with ⟨p,hp,rfl,_⟩ | e
  ·have:=(aU.1 (h p hp)).1
   rw [dR] at this;simp at this;omega
  ·rw [e];exact tb.none b (by omega)
 ·rcases key b with ⟨p,hp,rfl,e⟩ | e
  ·rw [e] at hx
   obtain rfl:=Option.some.inj hx
   exact zv (aU.1 (h p hp)).2
  ·rw [e] at hx
   obtain ⟨cs,n,k1,k2⟩:=tb.fro b x hx
   exact ⟨cs,n,k1,fun v hv=>mX (fun i hi=>by rw [dR] at hi ⊢;simp at hi ⊢;omega) v (k2 v hv)⟩
theorem mo.lf:mo .lf 0:=⟨fun b _=>ek _,fun b x h=>by rw [ek] at h;cases h⟩
def K5 (T:List Nat):Tr aC:=(hB T).t
theorem j_ (T:List Nat):mo (K5 T) 1:=by
 have hg: ∀b,br (pathOf b) (K5 T)=if b=0 then some (.cells (nb T) (len T) .ro) else none:=fun b=>by
  show br (pathOf b) (dQ (pathOf 0) _ .lf)=_
  split
  ·rename_i h;subst h;rw [cu]
  ·rename_i h;rw [bp _ _ _ _ (fun e=>h (bQ e)),ek]
 refine ⟨fun b hb=>by rw [hg,if_neg (by omega)],fun b x hx=>?_⟩
 rw [hg] at hx
 split at hx
 ·cases hx
  refine ⟨_,_,rfl,fun v hv=>?_⟩
  rw [jw] at hv
  obtain ⟨z,_,rfl⟩:=List.mem_map.1 hv;rfl
 ·cases hx
section
variable {P:Program} {n:Nat} {μ0:Mp} {h0:Hp} {w0:World}
def J9 (D:List (Nat×aC)) (N:Nat) (E:List Ke) (Nc N':Nat) (fr:List (Nat×AV)):Bool:=
 bc (bl (fun p=>Nat.ble Nc p.1) D) (bc (uM E Nc N') (bc (uP E Nc fr) (bc (Nat.ble Nc N) (Nat.ble Nc N') false) false) false) false
theorem zw {a b:Nat} (h:Nat.ble a b=true):a≤b:=by rw [jo] at h;simpa using h
theorem ae (hown: ∀c,c < w0.heap.size→μ0.own c=false) {call:aL} (av:Good P call) {M:Nat} {A:AC} {fr fr':List (Nat×AV)} {D D':List (Nat×aC)} {N Nc N':Nat} {TB:Tr aC} {E:List Ke}
  (hN0:h0.next≤Nc) (tb:mo TB Nc) (gI:J9 D N E Nc N' fr'=true) (hD:C5 E=D')
  (ev: ∀g,∃s,c7 call M A (lE fr g) ⟨N,dk D TB⟩=s∧fP (s5 fr') (fun sl h1=>Seen E Nc fr' sl h1) (fun _ _ _=>False) (fun _ _=>False) s) {Q:QT}:
  fm P n A (mF μ0 h0 w0 n fr ⟨N,dk D TB⟩) (Exit.then (mF μ0 h0 w0 n fr' ⟨N',dk D' TB⟩) Q):=by
 obtain ⟨c1,gI⟩:=aU.1 gI
 obtain ⟨c2,gI⟩:=aU.1 gI
 obtain ⟨c3,gI⟩:=aU.1 gI
 obtain ⟨c4,c5⟩:=aU.1 gI
 subst hD
 exact mq av ev (fun sl h1 a w k s=>sL hown s k hN0 (zw c4) (zw c5) tb (zt c1) c2 c3) (fun _ _ _ _ _ k=>k.elim) (fun _ _ _ _ k=>k.elim)
theorem uQ {hF:Hp} {fr':List (Nat×AV)} {sl:List (Option AV)} {a:Act} {w:World} (s:EJ μ0 h0 w0 n hF (s5 fr') sl hF a w) (hsl:sl=lmap (fun p=>some p.2) fr'):mF μ0 h0 w0 n fr' hF a w:=by
 obtain ⟨μ,w',t1,hs,go,k,⟨μ1,r1,hs1,g1⟩,hd,hz⟩:=s
 refine ⟨t1,⟨μ1,?_,hs1,go.trans g1⟩,hd,hz⟩
 rw [qU (l:=fr') (t:=t1) ?_]
 ·exact r1
 ·unfold Has
  rw [←bW,←bW]
  exact k.trans hsl
theorem cx {call:aL} (av:Good P call) {M:Nat} {A:AC} {fr fr':List (Nat×AV)} {hF:Hp}
  (ev: ∀g,∃s,c7 call M A (lE fr g) hF=s∧fP (s5 fr') (fun sl h1=>sl=lmap (fun p=>some p.2) fr'∧h1=hF) (fun _ _ _=>False) (fun _ _=>False) s) {Q:QT}:
  fm P n A (mF μ0 h0 w0 n fr hF) (Exit.then (mF μ0 h0 w0 n fr' hF) Q):=
 mq av ev (fun sl h1 a w k s=>by obtain ⟨k1,rfl⟩:=k;exact uQ s k1) (fun _ _ _ _ _ k=>k.elim) (fun _ _ _ _ k=>k.elim)
theorem jC {call:aL} (av:Good P call) {M:Nat} {A:AC} {fr fr':List (Nat×AV)} {hF:Hp} {i:Nat}
  (ev: ∀g,∃s,c7 call M A (lE fr g) hF=s∧fP (s5 fr') (fun _ _=>False) (fun j sl h1=>j=i∧sl=lmap (fun p=>some p.2) fr'∧h1=hF) (fun _ _=>False) s) {Q:QT} (hQ: ∀a w,mF μ0 h0 w0 n fr' hF a w→Q (.exit i) a w):
  fm P n A (mF μ0 h0 w0 n fr hF) Q:=
 mq av ev (fun _ _ _ _ k=>k.elim) (fun j sl h1 a w k s=>by obtain ⟨rfl,k1,rfl⟩:=k;exact hQ a w (uQ s k1)) (fun _ _ _ _ k=>k.elim)
def rq (μ0:Mp) (h0:Hp) (w0:World) (n i:Nat):QT:=fun e a w1=>e= .ret∧∃L sl t1 h1,i ∈ L∧di L t1=sl∧br (pathOf i) t1=some (.bool true)∧At μ0 h0 w0 n t1 h1 a w1
theorem mr {call:aL} (av:Good P call) {M:Nat} {A:AC} {fr:List (Nat×AV)} {hF:Hp} {i:Nat}
  (ev: ∀g,∃s,c7 call M A (lE fr g) hF=s∧fP [i] (fun _ _=>False) (fun _ _ _=>False) (fun sl _=>sl= [some (.bool true)]) s):
  fm P n A (mF μ0 h0 w0 n fr hF) (rq μ0 h0 w0 n i):=
 mq av ev (fun _ _ _ _ k=>k.elim) (fun _ _ _ _ _ k=>k.elim) fun sl h1 a w k s=>by
  obtain ⟨μ,w',t1,hs,go,k1,⟨μ1,r1,hs1,g1⟩,hd,hz⟩:=s
  subst k
  have k2:br (pathOf i) t1=some (.bool true):=(List.cons.inj (show br (pathOf i) t1:: [] =some (.bool true):: [] from k1)).1
  exact ⟨rfl,[i],_,t1,h1,by simp,rfl,k2,⟨μ1,r1,hs1,go.trans g1⟩,hd,hz⟩
def ka (l:List AC):AC:=b6 .skip (fun A _ ih=> .seq A ih) l
def kc (l:List AC) (B:AC):AC:=b6 B (fun A _ ih=> .seq A ih) l
theorem pf {call:aL} (av:Good P call) {M:Nat} {B:AC} {R:ST} {Q:QT} (hB:fm P n B R Q): ∀(l:List AC) (t:T) (h:Hp),
  kC μ0 h0 w0 n (Exit.then R Q) (c7 call M (ka l) t h)→fm P n (kc l B) (At μ0 h0 w0 n t h) Q
 | [],t,h,hp=>fun x hx a w st=>hB x hx a w (hp a w st)
 | A::l,t,h,hp=>fun x hx a w st=>by
   obtain ⟨u,v,rfl,hu,hv⟩:=ql (show bu P (aa P) n x= .seq A (kc l B) from hx)
   have hp:kC μ0 h0 w0 n (Exit.then R Q) ((c7 call M A t h).then (c7 call M (ka l))):=hp
   refine wp_seq (gp bw av u _ t h a w (N:=M) (n:=n) (μ0:=μ0) (h0:=h0) (w0:=w0) ?_ st)
   rw [hu]
   cases e:c7 call M A t h with
   | no=>rw [e] at hp;exact hp
   | nor t1 h1=>
     rw [e] at hp
     have hp:kC μ0 h0 w0 n (Exit.then R Q) (c7 call M (ka l) t1 h1):=hp
     exact fun a1 w1 s1=>pf av hB l t1 h1 hp v hv a1 w1 s1
   | exit i t1 h1=>rw [e] at hp;exact hp
   | ret t1 h1=>rw [e] at hp;exact hp
theorem iz (hown: ∀c,c < w0.heap.size→μ0.own c=false) {call:aL} (av:Good P call) {M:Nat} {l:List AC} {B:AC} {fr fr':List (Nat×AV)} {N':Nat} {E:List Ke} (tb:mo h0.t h0.next)
  (kf:uM E h0.next N'=true) (ff:uP E h0.next fr'=true) (hN:h0.next≤N')
  (ev: ∀g,∃s,c7 call M (ka l) (lE fr g) h0=s∧fP (s5 fr') (fun sl h1=>Seen E h0.next fr' sl h1) (fun _ _ _=>False) (fun _ _=>False) s) {Q:QT}
  (hB:fm P n B (mF μ0 h0 w0 n fr' ⟨N',dk (C5 E) h0.t⟩) Q):fm P n (kc l B) (mF μ0 h0 w0 n fr h0) Q:=fun x hx a w ⟨g,st⟩=>by
 obtain ⟨⟨μ,r,hs,go⟩,hdef,hsz⟩:=st
 obtain ⟨s,e,ho⟩:=ev g
 refine pf (M:=M) (μ0:=μ) (h0:=h0) (w0:=w) av hB l (lE fr g) h0 ?_ x hx a w ⟨⟨μ,r,hs, .refl hs⟩,hdef,hsz⟩
 rw [e]
 cases s with
 | no=>exact ho.elim
 | nor t1 h1=>exact fun a1 w1 s1=>sL hown ⟨μ,w,t1,hs,go,rfl,s1⟩ ho (Nat.le_refl _) (Nat.le_refl _) hN tb (fun b _=> .inl rfl) kf ff
 | exit i t1 h1=>exact ho.elim
 | ret t1 h1=>exact ho.elim
end
abbrev qM (k:IntKind) (a b c:Nat):Prop:=bP (.mn [.const (tI k a), .const (tI k b)]) .lf H0= .ok (tI k c)
theorem bL {k:IntKind} {a b c:Nat} (h:min a b=c):qM k a b c:=h ▸ Jz a b
def ad:List (Nat×Nat×Own)→List (Nat×Own):=fun l=>b6 [] (fun p _ ih=>Nat.rec (motive:=fun _=>Nat→List (Nat×Own)) (fun _=>ih) (fun _ go a=>(a,p.2.2)::go (Nat.succ a)) p.2.1 p.1) l
abbrev ar (E:List Ke) (Nc:Nat) (fr:List (Nat×AV)):Prop:=L4 E Nc fr=L4 E Nc fr∧RX E Nc=RX E Nc
theorem au {E:List Ke} {Nc:Nat} {fr:List (Nat×AV)}:ar E Nc fr:=⟨rfl,rfl⟩
theorem wh {w:World} {a:oX} (ha:a.tC w) (he:a.l≠ []): ∃μ,bh μ (hB a.l) w∧(∀c,μ.own c=false)∧VR μ (.slice 0 0 a.l.length a.l.length 1 false) a.v:=by
 obtain ⟨μ,h,vs,hs,hm,hn,hvs,_⟩:=sq (w:=w) [a] (by simp only [List.mem_cons,List.not_mem_nil,or_false];rintro a rfl;assumption)
 obtain ⟨v,rfl⟩: ∃v,vs= [v] :=by
  match vs,hn with
  | [v],_=>exact ⟨v,rfl⟩
 obtain ⟨r0,b0⟩:=hvs 0 v a rfl rfl
 generalize hl0:a.l=l at b0 he
 cases b0 with
 | nil=>exact absurd rfl he
 | sl hB hg hcl hl hm' hc hb=>
   refine qi hs he r0 hg fun i x hx=>?_
   have hi:i < l.length:=(List.getElem?_eq_some_iff.1 hx).1
   have h1:=congrArg (·[i]?) hl
   simp only [List.getElem?_take,if_pos hi] at h1
   rw [h1,jw,List.getElem?_map,hx];rfl
theorem tQ {w:World} {a:oX} (ha:a.tC w) (he:a.l= []):a.v= .slice none 0 0∨∃μ,bh μ (hB []) w∧(∀c,μ.own c=false)∧VR μ (.slice 0 0 0 0 1 false) a.v:=by
 obtain ⟨_,⟨h,_⟩ | ⟨cap,arr,e,fr,hv,hh,_,hcp,_⟩⟩:=ha
 ·exact .inl h
 right
 have hg0:az (hB []) 0=some (.cells [] 0 .ro):=cu _ _ _
 have hgn: ∀b,b≠0→az (hB []) b=none:=fun b hb=>by
  show br (pathOf b) (dQ (pathOf 0) _ .lf)=none
  rw [bp _ _ _ _ (fun e=>hb (bQ e)),ek]
 let μA:Mp:=⟨fun b=>if b=0 then some (a.c,a.s) else none,fun _=>false,fun _=>arr.size⟩
 have hAt: ∀b c' s',μA.at_ b=some (c',s')→b=0∧c'=a.c∧s'=a.s:=fun b c' s' e=>by
  have e:(if b=0 then some (a.c,a.s) else none)=some (c',s'):=e
  split at e
  ·cases e;exact ⟨‹_›,rfl,rfl⟩
  ·cases e
 refine ⟨μA,⟨fun b hb=>?_,fun b hb=>hgn b (by have:(hB []).next=1:=rfl;omega),fun b c' s' e=>?_,fun b c' s' x e hx=>?_,fun b b' c' s1 s2 x x' hne e e'=>?_,fun b c' s' cs n p e hx=>?_⟩,fun _=>rfl,?_⟩
 ·have:(hB []).next=1:=rfl
  show (if b=0 then some (a.c,a.s) else none)=none
  rw [if_neg (by omega)]
 ·obtain ⟨_,rfl,_⟩:=hAt b c' s' e;exact (Array.getElem?_eq_some_iff.1 hh).1
 ·obtain ⟨rfl,rfl,rfl⟩:=hAt b c' s' e
  rw [hg0] at hx
  cases hx
  exact ⟨rfl,nofun,⟨fun q=>(by cases q),fun q=>absurd rfl q⟩,arr,_,fr,hh,rfl,fun q=>(by cases q),fun i v hv=>by simp at hv⟩
 ·obtain ⟨h10,_⟩:=hAt b c' s1 e
  obtain ⟨h11,_⟩:=hAt b' c' s2 e'
  exact absurd (h10.trans h11.symm) hne
 ·obtain ⟨rfl,_,_⟩:=hAt b c' s' e
  rw [hg0] at hx;cases hx
 ·rw [VR_slice]
  exact ⟨a.c,a.s,⟨a.c,a.s,none⟩,cap,rfl,by rw [hv,he];rfl,Nat.le_refl _,Nat.zero_le _,fun h=>(by cases h),fun h=>⟨rfl,by have:=hcp h;show a.s+0+cap*1≤arr.size;omega⟩⟩
end Eng
end
section
namespace Eng
open Go
theorem C_ {c:OpenClaim} {P:Program} {f:FuncId} (hst:c.start= .entering) (hfn:P.funcNamed c.func=some f) (hall:P.funcs.any Func.goes=false):false=c.goesBy P:=by
 have h: ∀g:Nat,(P.funcs[g]?).any Func.goes=false:=fun g=>by
  cases e:P.funcs[g]? with
  | none=>rfl
  | some fn=>
    cases hp:fn.goes with
    | false=>exact hp
    | true=>
      have:=Array.any_eq_true'.2 ⟨fn,Array.mem_of_getElem? e,hp⟩
      rw [hall] at this;cases this
 unfold OpenClaim.goesBy Program.goesAt Program.goesFrom
 rw [hfn,hst]
 show false=(P.goes f || false)
 rw [Bool.or_false]
 unfold Program.goes
 rw [hall,Bool.and_false,Bool.or_false,show (fun g=>(P.funcs[g]?).any Func.goes)=fun _=>false from funext h]
 simp
end Eng
end
end
