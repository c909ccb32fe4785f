import Derived.Test.YtfcljjhlijolgaaGreatDoorB3
import Derived.Deep.Grids
import GoSem.ClaimGoes
section
set_option linter.unusedVariables false
set_option linter.unusedSimpArgs false
namespace Eng
open Go Go.RowKit
structure sk where
 v:Value
 c:Nat
 s:Nat
 l:List Value
def sk.mY (w:World) (a:sk):Prop:=(a.v= .slice none 0 0∧a.l= [])∨∃cap arr e fr,a.v= .slice (some ⟨a.c,a.s,none⟩) a.l.length cap∧w.heap[a.c]? =some (.cells arr e fr)∧a.l.length≤cap∧(cap≠0→a.s+cap≤arr.size)∧
 ∀(i:Nat) (x:Value),a.l[i]? =some x→arr[a.s+i]? =some x
def nm (A:List AV) (l:List Value):Prop:=A.length=l.length∧(∀v ∈ A,nj v=true)∧∀(i:Nat) (v:AV),A[i]? =some v→∃x,l[i]? =some x∧∀μ,VR μ v x
def so (v:AV) (o:Option aY) (k:Nat) (A:List AV):Prop:=(v= .nilSlice∧A= []∧o=none)∨(v= .slice k 0 A.length A.length 1 false∧o=some (.cells A A.length .ro))
def pG (w:World) (c:Nat):Nat:=match w.heap[c]? with | some (.cells arr _ _)=>arr.size | _=>0
theorem half {w:World} {a:sk} {A:List AV} (ha:a.mY w) (hA:nm A a.l) (k:Nat): ∃(p:Option (Nat×Nat)) (o:Option aY) (v:AV),so v o k A∧(∀c s,p=some (c,s)→c < w.heap.size)∧
  (∀(μ:Mp),(∀c,μ.own c=false)→μ.size=pG w→μ.at_ k=p→VR μ v a.v∧∀c s x,p=some (c,s)→o=some x→iW μ w c s x):=by
 obtain ⟨hn,hp,hv⟩:=hA
 rcases ha with ⟨h,hl⟩ | ⟨cap,arr,e,fr,h,hh,hc,hs,hx⟩
 ·refine ⟨none,none, .nilSlice, .inl ⟨rfl,?_,rfl⟩,nofun,fun μ _ _ _=>⟨by rw [h,VR_nilSlice],nofun⟩⟩
  rw [hl] at hn;exact List.eq_nil_of_length_eq_zero hn
 ·refine ⟨some (a.c,a.s),some (.cells A A.length .ro),_, .inr ⟨rfl,rfl⟩,fun c s e=>by cases e;exact (Array.getElem?_eq_some_iff.1 hh).1,fun μ ho hz hat=>⟨?_,fun c s x e1 e2=>?_⟩⟩
  ·unfold VR
   refine ⟨a.c,a.s,_,cap,hat,by rw [hn];exact h,Nat.le_refl _,by rw [hn];exact hc,nofun,fun h0=>⟨rfl,?_⟩⟩
   rw [hz];unfold pG;rw [hh]
   have:=hs h0
   show a.s+0+cap*1≤arr.size
   omega
  ·cases e1;cases e2
   refine ⟨rfl,fun v hv=>sj (hp v hv),⟨fun h=>(by rw [ho] at h;cases h),fun h=>absurd rfl h⟩,arr,e,fr,hh,by rw [hz];unfold pG;rw [hh],fun h=>(by rw [ho] at h;cases h),fun i v hi=>?_⟩
   obtain ⟨x,h1,h2⟩:=hv i v hi
   exact ⟨x,hx i x h1,h2 μ⟩
theorem u4 {w:World} {a b:sk} {A B:List AV} (ha:a.mY w) (hb:b.mY w) (hA:nm A a.l) (hB:nm B b.l): ∃μ oa ob vw vf,bq μ (hO oa ob) w∧(∀c,μ.own c=false)∧VR μ vw a.v∧VR μ vf b.v∧so vw oa 0 A∧so vf ob 1 B:=by
 obtain ⟨p,oa,vw,f1,o1,r1⟩:=half ha hA 0
 obtain ⟨q,ob,vf,f2,o2,r2⟩:=half hb hB 1
 let μ:Mp:=⟨fun i=>if i=1 then q else if i=0 then p else none,fun _=>false,pG w⟩
 have h0:μ.at_ 0=p:=rfl
 have h1:μ.at_ 1=q:=rfl
 have hat: ∀i c s,μ.at_ i=some (c,s)→(i=0∧p=some (c,s))∨(i=1∧q=some (c,s)):=fun i c s e=>by
  have e:(if i=1 then q else if i=0 then p else none)=some (c,s):=e
  split at e
  ·exact .inr ⟨‹_›,e⟩
  ·split at e
   ·exact .inl ⟨‹_›,e⟩
   ·cases e
 obtain ⟨s1,k1⟩:=r1 μ (fun _=>rfl) rfl h0
 obtain ⟨s2,k2⟩:=r2 μ (fun _=>rfl) rfl h1
 have noPair: ∀i x cs n p',au (hO oa ob) i=some x→x= .cells cs n (.pair p')→False:=fun i x cs n p' hx e=>by
  rw [mj] at hx
  split at hx
  ·rcases f2 with ⟨_,_,f⟩ | ⟨_,f⟩ <;> rw [f] at hx <;> cases hx;cases e
  ·split at hx
   ·rcases f1 with ⟨_,_,f⟩ | ⟨_,f⟩ <;> rw [f] at hx <;> cases hx;cases e
   ·cases hx
 refine ⟨μ,oa,ob,vw,vf,⟨fun i hi=>?_,fun i hi=>?_,fun i c s e=>?_,fun i c s x e hx=>?_,fun b b' c s s' x x' hne e e' ho=>(by cases ho),fun i c s cs n p' e hx=>(noPair i _ cs n p' hx rfl).elim⟩,fun _=>rfl,s1,s2,f1,f2⟩
 ·have:2≤i:=hi
  show (if i=1 then q else if i=0 then p else none)=none
  rw [if_neg (by omega),if_neg (by omega)]
 ·have:2≤i:=hi
  rw [mj,if_neg (by omega),if_neg (by omega)]
 ·rcases hat i c s e with ⟨_,h⟩ | ⟨_,h⟩
  ·exact o1 c s h
  ·exact o2 c s h
 ·rw [mj] at hx
  rcases hat i c s e with ⟨rfl,h⟩ | ⟨rfl,h⟩
  ·exact k1 c s x h hx
  ·exact k2 c s x h hx
theorem so.ok {v:AV} {o:Option aY} {k:Nat} {A:List AV} (h:so v o k A) (hp: ∀v ∈ A,nj v=true):T2 o:=fun x e=>by
 rcases h with ⟨_,_,f⟩ | ⟨_,f⟩ <;> rw [f] at e <;> cases e
 exact ⟨A,A.length,rfl,hp⟩
theorem so.len {v:AV} {o:Option aY} {k:Nat} {A:List AV} (h:so v o k A):aq (.lenL (.const v)) .lf H0= .ok (.int .i64 (.ofNat A.length)):=by
 rcases h with ⟨rfl,rfl,_⟩ | ⟨rfl,_⟩ <;> rfl
theorem so.idx {v:AV} {o:Option aY} {k:Nat} {A:List AV} (h:so v o k A) {i:Nat} (hi:i < A.length):aq (.idxAddrSl 1 (.const v) (.const (.int .i64 (.ofNat i)))) .lf H0= .ok (.ptr k i):=by
 rcases h with ⟨_,rfl,_⟩ | ⟨rfl,_⟩
 ·cases hi
 ·rw [gZ hi,Nat.zero_add,Nat.mul_one]
theorem so.d_ {v:AV} {o:Option aY} {k:Nat} {A:List AV} (h:so v o k A) {i:Nat} (hi:i < A.length):o=some (.cells A A.length .ro):=by
 rcases h with ⟨_,rfl,_⟩ | ⟨_,e⟩
 ·cases hi
 ·exact e
theorem so.on {v:AV} {o:Option aY} {k:Nat} {A:List AV} (h:so v o k A) (hk:k < 2):cR (fun i=>Nat.blt i 2) v=true:=by
 rcases h with ⟨rfl,_⟩ | ⟨rfl,_⟩
 ·unfold cR;rfl
 ·unfold cR;show Nat.blt k 2=true;rw [b_];simpa using hk
def Shape (oa ob:Option aY) (t:Tr aY):Prop:= ∃l r r2,t= .nd oa (.nd ob l r) r2
theorem Shape.set {oa ob:Option aY} {t:Tr aY} (h:Shape oa ob t) {b:Nat} (hb:2≤b) (x:aY):Shape oa ob (cO (pathOf b) x t):=by
 obtain ⟨l,r,r2,rfl⟩:=h
 generalize hp:pathOf b=p
 cases p with
 | e=>have:=bw (hp.trans (show kY.e=pathOf 0 from rfl));omega
 | l q=>
   cases q with
   | e=>have:=bw (hp.trans (show kY.l .e=pathOf 1 from rfl));omega
   | l q=>exact ⟨cO q x l,r,r2,rfl⟩
   | r q=>exact ⟨l,cO q x r,r2,rfl⟩
 | r q=>exact ⟨l,r,cO q x r2,rfl⟩
theorem Shape.over {oa ob:Option aY} {t:Tr aY} (h:Shape oa ob t): ∀{D:List (Nat×aY)},(∀p ∈ D,2≤p.1)→Shape oa ob (nZ D t)
 | [],_=>h
 | p::D,k=>(Shape.over h (D:=D) fun q hq=>k q (List.mem_cons_of_mem _ hq)).set (k p (List.mem_cons_self ..)) p.2
theorem Shape.FW (oa ob:Option aY):Shape oa ob (FW oa ob):=⟨.lf, .lf, .lf,rfl⟩
end Eng
end
section
set_option linter.unusedVariables false
set_option linter.unusedSimpArgs false
namespace Eng
open Go Go.RowKit Go.ChangeShapes Go.WideShapes
theorem u5 {H:Type} {enc:TypeId×Value→H} {P:Program} {W:World} {t e:TypeId} {v:Value} {d:DataW H} {p:List MemPlace} {base:Nat} (ht:P.underlying t=some (.slice e)) (he:P.underlying e=some .bool) (hc:P.cellsOf e=1)
  (h0:DataW.Trod enc P W 0 (fun _=>true) true t v d p) (hv:Value.okWide P W .any base t v): ∃(a:sk) (bs:List Bool),a.v=v∧a.mY W∧a.l=bs.map .bool:=by
 obtain ⟨a0,len,cap,rfl⟩:=okWide_slice ht hv
 obtain ⟨fuel,hf⟩:=h0
 rcases Deep.open_bools ht he hc hf with ⟨hcs,_⟩ | ⟨a,len',cap',B,hcs,_,hl,hm,_,hcell⟩
 ·simp [Value.cells] at hcs
  obtain ⟨rfl,rfl,rfl⟩:=hcs
  exact ⟨⟨.slice none 0 0,0,0,[]⟩,[],rfl, .inl ⟨rfl,rfl⟩,rfl⟩
 ·simp [Value.cells] at hcs
  obtain ⟨rfl,rfl,rfl⟩:=hcs
  have hhas:W.has P .any base a e cap:=by
   unfold Value.okWide Cell.okWide Cell.ok at hv
   rw [ht] at hv
   exact hv.2.2
  obtain ⟨_,hsp,row,cells,hsh,_⟩:=hhas
  obtain ⟨b,o,sp⟩:=a
  have hsp:sp=none:=hsp
  subst hsp
  have hh: ∃arr e' fr,W.heap[b]? =some (.cells arr e' fr):=by
   have hsh:W.shape? b=some (row,cells):=hsh
   unfold World.shape? at hsh
   split at hsh
   ·rename_i c el fr h;exact ⟨c,el,fr,h⟩
   ·cases hsh
  obtain ⟨arr,e',fr,hh⟩:=hh
  have hat: ∀i,i < cap→arr[o+i]? =some (.bool (B i)):=fun i hi=>by
   have:=hcell i hi
   rw [eu] at this
   unfold World.cell? at this
   simpa [hh] using this
  have hlen:(((List.range len).map B).map Value.bool).length=len:=by simp
  refine ⟨⟨.slice (some ⟨b,o,none⟩) len cap,b,o,((List.range len).map B).map .bool⟩,(List.range len).map B,rfl, .inr ⟨cap,arr,e',fr,by rw [hlen],hh,by rw [hlen];exact hl,fun h0=>?_,fun i x hx=>?_⟩,rfl⟩
  ·have:=hat (cap - 1) (by omega)
   have:=(Array.getElem?_eq_some_iff.1 this).1
   show o+cap≤arr.size
   omega
  ·have hx:(((List.range len).map B).map Value.bool)[i]? =some x:=hx
   have hi:i < len:=by have:=(List.getElem?_eq_some_iff.1 hx).1;omega
   rw [List.map_map,List.getElem?_map,List.getElem?_range hi] at hx
   cases hx
   exact hat i (by omega)
theorem ql.cells {w:World} {a:ql} (h:a.mY w):sk.mY w ⟨a.v,a.c,a.s,a.l.map fun x=> .int .u8 (.ofNat x)⟩:=by
 obtain ⟨_,⟨h1,h2⟩ | ⟨cap,arr,e,fr,h1,h2,h3,h4,h5⟩⟩:=h
 ·exact .inl ⟨h1,by rw [h2];rfl⟩
 ·refine .inr ⟨cap,arr,e,fr,by rw [List.length_map];exact h1,h2,by rw [List.length_map];exact h3,h4,fun i x hx=>?_⟩
  have hx:(a.l.map fun x=>Value.int .u8 (.ofNat x))[i]? =some x:=hx
  rw [List.getElem?_map] at hx
  cases hl:a.l[i]? with
  | none=>rw [hl] at hx;cases hx
  | some y=>rw [hl] at hx;cases hx;exact h5 i y hl
theorem lI (bs:List Bool):nm (bs.map .bool) (bs.map .bool):=by
 refine ⟨by simp,fun v hv=>?_,fun i v hi=>?_⟩
 ·obtain ⟨b,_,rfl⟩:=List.mem_map.1 hv;rfl
 ·rw [List.getElem?_map] at hi
  cases hb:bs[i]? with
  | none=>rw [hb] at hi;cases hi
  | some b=>rw [hb] at hi;cases hi;exact ⟨.bool b,by rw [List.getElem?_map,hb];rfl,fun μ=>by rw [VR_bool]⟩
theorem lJ (l:List Nat):nm (kr l) (l.map fun x=> .int .u8 (.ofNat x)):=by
 rw [eQ]
 refine ⟨by simp,fun v hv=>?_,fun i v hi=>?_⟩
 ·obtain ⟨b,_,rfl⟩:=List.mem_map.1 hv;rfl
 ·rw [List.getElem?_map] at hi
  cases hb:l[i]? with
  | none=>rw [hb] at hi;cases hi
  | some b=>rw [hb] at hi;cases hi;exact ⟨_,by rw [List.getElem?_map,hb];rfl,fun μ=>by rw [VR_int]⟩
end Eng
end
section
namespace Eng
open Go
theorem G2 {c:OpenClaim} {P:Program} {f:FuncId} (hst:c.start= .entering) (hfn:P.funcNamed c.func=some f) (hall:P.funcs.any Func.goes=false):false=c.goesBy P:=by
 have h: ∀g:Nat,(P.funcs[g]?).any Func.goes=false:=fun g=>by
  cases e:P.funcs[g]? with
  | none=>rfl
  | some fn=>
    cases hp:fn.goes with
    | false=>exact hp
    | true=>
      have:=Array.any_eq_true'.2 ⟨fn,Array.mem_of_getElem? e,hp⟩
      rw [hall] at this;cases this
 unfold OpenClaim.goesBy Program.goesAt Program.goesFrom
 rw [hfn,hst]
 show false=(P.goes f || false)
 rw [Bool.or_false]
 unfold Program.goes
 rw [hall,Bool.and_false,Bool.or_false,show (fun g=>(P.funcs[g]?).any Func.goes)=fun _=>false from funext h]
 simp
end Eng
end
