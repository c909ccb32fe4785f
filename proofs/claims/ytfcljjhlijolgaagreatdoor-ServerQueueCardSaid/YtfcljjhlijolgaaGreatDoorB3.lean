import Derived.Test.YtfcljjhlijolgaaGreatDoorB2
import Derived.WideShapes
import Derived.SizedLaws
import Derived.Sort.MapsRangeIn
import Derived.Sort.KeysCollected
import Derived.Maps.Range
import Derived.Test.YtfcljjhlijolgaaGreatDoorChecked
import Derived.Shelf.SlIter.Collect
import Derived.RangeFuncGives
import Derived.Maps.AppendAt
import Derived.WalkKit
import Derived.OwnWalkIn
import Derived.TacticsInMore
import Derived.RegionIn
import Derived.LoopNIn
import Derived.LoopIn
noncomputable section
section
set_option linter.unusedVariables false
set_option linter.unusedSimpArgs false
namespace Eng
open Go Go.RowKit
structure g8 where
 p:Hp→(Nat→Prop)→Prop
 loc: ∀{h h':Hp} {G:Nat→Prop},(∀k,G k→au h' k=au h k)→p h G→p h' G
def Sep (os:List g8) (h:Hp):Prop:=
 ∃g:Nat→Nat→Prop,(∀(i:Nat) (o:g8),os[i]? =some o→o.p h (g i))∧(∀i k,g i k→k < h.next)∧∀i j k,g i k→g j k→i=j
theorem Sep.nil (h:Hp):Sep [] h:=by
 refine ⟨fun _ _=>False,fun i o e=>?_,fun i k e=>e.elim,fun i j k e _=>e.elim⟩
 cases e
theorem Sep.at {os:List g8} {h:Hp} (S:Sep os h) {i:Nat} {o:g8} (hi:os[i]? =some o): ∃G:Nat→Prop,o.p h G∧(∀k,G k→k < h.next)∧
  ∀(h':Hp) (o':g8) (G':Nat→Prop),h.next≤h'.next→o'.p h' G'→(∀k,G' k→G k∨(h.next≤k∧k < h'.next))→(∀k,k < h.next→¬G k→au h' k=au h k)→Sep (os.set i o') h':=by
 obtain ⟨g,g1,g2,g3⟩:=S
 have hil:i < os.length:=(List.getElem?_eq_some_iff.1 hi).1
 refine ⟨g i,g1 i o hi,g2 i,fun h' o' G' hn ho hG hf=>⟨fun j k=>(j=i∧G' k)∨(j≠i∧g j k),fun j x hj=>?_,fun j k hk=>?_,fun j1 j2 k h1 h2=>?_⟩⟩
 ·by_cases e:j=i
  ·subst e
   rw [List.getElem?_set_self hil] at hj
   cases hj
   have:(fun k=>(j=j∧G' k)∨(j≠j∧g j k))=G':=by funext k;simp
   show o'.p h' (fun k=>(j=j∧G' k)∨(j≠j∧g j k))
   rw [this];exact ho
  ·rw [List.getElem?_set_ne (Ne.symm e)] at hj
   have:(fun k=>(j=i∧G' k)∨(j≠i∧g j k))=g j:=by funext k;simp [e]
   show x.p h' (fun k=>(j=i∧G' k)∨(j≠i∧g j k))
   rw [this]
   exact x.loc (fun k hk=>hf k (g2 j k hk) fun hc=>e (g3 j i k hk hc)) (g1 j x hj)
 ·rcases hk with ⟨_,hk⟩ | ⟨_,hk⟩
  ·rcases hG k hk with hk | ⟨_,hk⟩
   ·have:=g2 i k hk;omega
   ·exact hk
  ·have:=g2 j k hk;omega
 ·rcases h1 with ⟨e1,h1⟩ | ⟨e1,h1⟩ <;> rcases h2 with ⟨e2,h2⟩ | ⟨e2,h2⟩
  ·rw [e1,e2]
  ·rcases hG k h1 with h1 | ⟨h1,_⟩
   ·exact absurd (g3 i j2 k h1 h2) (Ne.symm e2)
   ·have:=g2 j2 k h2;omega
  ·rcases hG k h2 with h2 | ⟨h2,_⟩
   ·exact absurd (g3 i j1 k h2 h1) (Ne.symm e1)
   ·have:=g2 j1 k h1;omega
  ·exact g3 j1 j2 k h1 h2
theorem Sep.add {os:List g8} {h:Hp} (S:Sep os h) {h':Hp} {o:g8} (G:Nat→Prop) (hn:h.next≤h'.next) (ho:o.p h' G) (hG: ∀k,G k→h.next≤k∧k < h'.next) (hf: ∀k,k < h.next→au h' k=au h k):Sep (o::os) h':=by
 obtain ⟨g,g1,g2,g3⟩:=S
 refine ⟨fun j=>Nat.casesOn j G g,fun j x hj=>?_,fun j k hk=>?_,fun j1 j2 k h1 h2=>?_⟩
 ·cases j with
  | zero=>cases hj;exact ho
  | succ j=>exact x.loc (fun k hk=>hf k (g2 j k hk)) (g1 j x hj)
 ·cases j with
  | zero=>exact (hG k hk).2
  | succ j=>have:=g2 j k hk;omega
 ·cases j1 with
  | zero=>
    cases j2 with
    | zero=>rfl
    | succ j2=>have a:=hG k h1;have b:=g2 j2 k h2;omega
  | succ j1=>
    cases j2 with
    | zero=>have a:=hG k h2;have b:=g2 j1 k h1;omega
    | succ j2=>rw [g3 j1 j2 k h1 h2]
theorem Sep.on {os:List g8} {h h':Hp} (S:Sep os h) (hn:h.next≤h'.next) (hf: ∀k,k < h.next→au h' k=au h k):Sep os h':=by
 obtain ⟨g,g1,g2,g3⟩:=S
 exact ⟨g,fun j x hj=>x.loc (fun k hk=>hf k (g2 j k hk)) (g1 j x hj),fun j k hk=>by have:=g2 j k hk;omega,g3⟩
theorem Sep.tail {o:g8} {os:List g8} {h:Hp} (S:Sep (o::os) h):Sep os h:=by
 obtain ⟨g,g1,g2,g3⟩:=S
 exact ⟨fun j=>g (j+1),fun j x hj=>g1 (j+1) x hj,fun j k hk=>g2 (j+1) k hk,fun j1 j2 k h1 h2=>by have:=g3 _ _ k h1 h2;omega⟩
theorem Sep.V8 {os:List g8} {h:Hp} (S:Sep os h) {i:Nat} {o o':g8} (hi:os[i]? =some o) (f: ∀G,(∀k,G k→k < h.next)→o.p h G→o'.p h G):Sep (os.set i o') h:=by
 obtain ⟨G,hp,hb,go⟩:=S.at hi
 exact go h o' G (Nat.le_refl _) (f G hb hp) (fun k hk=> .inl hk) fun k hk hn=>rfl
def GH (G0:Nat→Prop) (h0:Hp):g8 where
 p h G:=(∀k,G0 k→G k)∧∀k,G0 k→au h k=au h0 k
 loc:=fun hf ⟨h1,h2⟩=>⟨h1,fun k hk=>(hf k (h1 k hk)).trans (h2 k hk)⟩
theorem Sep.freeze {os:List g8} {h:Hp} (S:Sep os h) {i:Nat} {o:g8} (hi:os[i]? =some o): ∃G:Nat→Prop,o.p h G∧(∀k,G k→k < h.next)∧Sep (os.set i (GH G h)) h:=by
 obtain ⟨G,hp,hb,go⟩:=S.at hi
 exact ⟨G,hp,hb,go h _ G (Nat.le_refl _) ⟨fun k hk=>hk,fun _ _=>rfl⟩ (fun k hk=> .inl hk) fun k hk hn=>rfl⟩
theorem Sep.start (h:Hp):Sep [GH (fun k=>k < h.next) h] h:=
by
 refine ⟨fun i k=>i=0∧k < h.next,fun i o hi=>?_,fun i k hk=>hk.2,fun i j k h1 h2=>h1.1.trans h2.1.symm⟩
 cases i with
 | zero=>cases hi;exact ⟨fun k hk=>⟨rfl,hk⟩,fun _ _=>rfl⟩
 | succ i=>cases hi
theorem Sep.frozen {os:List g8} {h:Hp} (S:Sep os h) {i:Nat} {G:Nat→Prop} {h0:Hp} (hi:os[i]? =some (GH G h0)) {k:Nat} (hk:G k):k < h.next∧au h k=au h0 k:=by
 obtain ⟨G',hp,hb,go⟩:=S.at hi
 exact ⟨hb k (hp.1 k hk),hp.2 k hk⟩
def Bw:AV→Option Nat
 | .slice b _ _ _ _ _=>some b
 | _=>none
def kH (G:Nat→Prop) (h:Hp) (v:AV) (l:List Nat):Prop:=(∃B,Bytes B h v l)∧∀b,Bw v=some b→G b
theorem kH.nil {G:Nat→Prop} {h:Hp}:kH G h .nilSlice [] :=⟨⟨0, .nil⟩,fun b e=>by cases e⟩
theorem kH.lt {G:Nat→Prop} {h:Hp} {v:AV} {l:List Nat} (P:kH G h v l): ∀x ∈ l,x < 256:=by
 obtain ⟨⟨B,P⟩,_⟩:=P;exact P.lt
theorem kH.of {B:Nat} {h:Hp} {v:AV} {l:List Nat} (P:Bytes B h v l):kH (fun k=>k < B) h v l:=by
 refine ⟨⟨B,P⟩,fun b e=>?_⟩
 cases P with
 | nil=>cases e
 | sl hB hg hcl hl hm hc hb=>cases e;exact hB
theorem kH.now {os:List g8} {h:Hp} (S:Sep os h) {i:Nat} {G:Nat→Prop} {h0:Hp} (hi:os[i]? =some (GH G h0)) {v:AV} {l:List Nat} (P:kH G h0 v l):Bytes h.next h v l:=by
 obtain ⟨⟨B,P⟩,hG⟩:=P
 cases P with
 | nil=>exact .nil
 | sl hB hg hcl hl hm hc hb=>
   obtain ⟨h1,h2⟩:=S.frozen hi (hG _ rfl)
   exact .sl h1 (h2.trans hg) hcl hl hm hc hb
theorem jG (v:AV) (lo hi:Nat):Bw (lx v lo hi)=Bw v:=by cases v <;> rfl
theorem kH.part {G:Nat→Prop} {h:Hp} {v:AV} {l:List Nat} (P:kH G h v l) {lo hi:Nat} (h1:lo≤hi) (h2:hi≤l.length):kH G h (lx v lo hi) ((l.take hi).drop lo):=by
 obtain ⟨⟨B,P⟩,hG⟩:=P
 exact ⟨⟨B,P.part h1 h2⟩,fun b e=>hG b (by rwa [jG] at e)⟩
theorem kH.from {G:Nat→Prop} {h:Hp} {v:AV} {l:List Nat} (P:kH G h v l) {lo:Nat} (h1:lo≤l.length):kH G h (lx v lo l.length) (l.drop lo):=by
 obtain ⟨⟨B,P⟩,hG⟩:=P
 exact ⟨⟨B,uG P h1⟩,fun b e=>hG b (by rwa [jG] at e)⟩
theorem kH.to {G:Nat→Prop} {h:Hp} {v:AV} {l:List Nat} (P:kH G h v l) {hi:Nat} (h1:hi≤l.length):kH G h (lx v 0 hi) (l.take hi):=by
 obtain ⟨⟨B,P⟩,hG⟩:=P
 exact ⟨⟨B,GG P h1⟩,fun b e=>hG b (by rwa [jG] at e)⟩
end Eng
end
section
set_option linter.unusedVariables false
set_option linter.unusedSimpArgs false
namespace Eng
open Go Go.RowKit
inductive uJ (sz:Nat) (h:Hp) (G:Nat→Prop):AV→Nat→List AV→Prop
 | nil:uJ sz h G .nilSlice 0 []
 | sl {b n c:Nat} {ex:Bool} {w:Own} {Lc L:List AV} (hG:G b) (hg:au h b=some (.cells Lc (c*sz) w)) (hl:Lc.length=c*sz) (hn:n≤c) (hL:Lc.take (n*sz)=L)
   (hw:w= .solo∨∃p,w= .pair p∧G p∧p≠b):uJ sz h G (.slice b 0 n c sz ex) n L
theorem uJ.len {sz:Nat} {h:Hp} {G:Nat→Prop} {v:AV} {n:Nat} {L:List AV} (o:uJ sz h G v n L):L.length=n*sz:=by
 cases o with
 | nil=>simp
 | @sl b n c ex w Lc L hG hg hl hn hL hw=>
   have:=Nat.mul_le_mul_right sz hn
   rw [←hL,List.length_take,hl];omega
theorem uJ.bytes {h:Hp} {G:Nat→Prop} {s:AV} {n:Nat} {l:List Nat} (o:uJ 1 h G s n (kr l)) (hb: ∀x ∈ l,x < 256):kH G h s l:=by
 generalize hL:kr l=L at o
 cases o with
 | nil=>
   cases l with
   | nil=>exact .nil
   | cons x l=>cases hL
 | @sl b n c ex w Lc L hG hg hl hn hLc hw=>
   subst hL
   have h1:=congrArg List.length hLc
   rw [dG,List.length_take,hl] at h1
   have hnl:l.length=n:=by omega
   subst hnl
   exact ⟨⟨b+1, .sl (Nat.lt_succ_self _) hg hl (by rw [List.drop_zero,←hLc,Nat.mul_one]) (by omega) hn hb⟩,fun b' e=>by cases e;exact hG⟩
end Eng
end
section
set_option linter.unusedVariables false
namespace Eng
open Go
end Eng
namespace Eng
end Eng
namespace Eng
open Go
end Eng
namespace Eng
open Go
def V9 (w:Int):Prop:= -64≤w∧w < 64
instance (w:Int):Decidable (V9 w):=inferInstanceAs (Decidable (_∧_))
theorem OK {a b:Int} (h:eC a b=true):a < b:=by rw [eL] at h;simpa using h
theorem OM {a b:Int} (h:eC a b=false):b≤a:=by rw [eL] at h;simpa using h
end Eng
namespace Eng
open Go
theorem aE {o:lK} {h:Hp} {v:AV} (e:aq o .lf h= .ok v) (r:dB v v=true):again o .lf v h=true:=by
 show (aq o .lf h).cs false (fun v'=>dB v v')=true
 rw [e];exact r
theorem bx (k:IntKind) (n:Int):dB (.int k n) (.int k n)=true:=by
 show bc (br k k) (je n n) false=true
 rw [dX,dj];simp [bc]
theorem fN (b:Bool):dB (.bool b) (.bool b)=true:=by cases b <;> rfl
theorem qp (n:Nat):Nat.beq n n=true:=Nat.beq_refl n
theorem b8 (b o l c s:Nat) (e:Bool):dB (.slice b o l c s e) (.slice b o l c s e)=true:=by
 show bc (Nat.beq b b) (bc (Nat.beq o o) (bc (Nat.beq l l) (bc (Nat.beq c c) (bc (Nat.beq s s) (bc e e (aP e)) false) false) false) false) false=true
 simp only [qp,fB,if_true]
 cases e <;> rfl
theorem g9 (b o:Nat):dB (.ptr b o) (.ptr b o)=true:=by
 show bc (Nat.beq b b) (Nat.beq o o) false=true
 simp only [qp,fB,if_true]
theorem eA.same {sz B n:Nat} {h:Hp} {v:AV} {L:List AV} (o:eA sz B h v n L):dB v v=true:=by
 cases o with
 | nil=>rfl
 | sl=>exact b8 ..
theorem Bytes.same {B:Nat} {h:Hp} {v:AV} {l:List Nat} (o:Bytes B h v l):dB v v=true:=by
 cases o with
 | nil=>rfl
 | sl=>exact b8 ..
theorem mZ {M:Nat→Option (List AV→Hp→RV)} {S:Nat→Option AF} {N d f:Nat} (hM:M f=none) (args:List AV) (h:Hp):kZ M S N (d+1) f args h=kv S N (kZ M S N d) f args h:=by
 show av (kv S N (kZ M S N d) f args h) (fun m=>m args h) (M f)=_
 rw [hM];rfl
end Eng
namespace Eng
end Eng
namespace Eng
open Go
end Eng
namespace Eng
open Go
end Eng
end
section
set_option linter.unusedVariables false
set_option linter.unusedSimpArgs false
namespace Eng
open Go Go.RowKit
theorem kH.cell {G:Nat→Prop} {h:Hp} {v:AV} {l:List Nat} (P:kH G h v l):aD v=true:=by
 obtain ⟨⟨B,P⟩,_⟩:=P;cases P <;> rfl
theorem kH.cells {G:Nat→Prop} {h:Hp} {v:AV} {l:List Nat} (P:kH G h v l):cellsOf v= [v] :=by
 obtain ⟨⟨B,P⟩,_⟩:=P;cases P <;> rfl
theorem kH.same {G:Nat→Prop} {h:Hp} {v:AV} {l:List Nat} (P:kH G h v l):dB v v=true:=by
 obtain ⟨⟨B,P⟩,_⟩:=P;exact P.same
theorem uK: ∀y ∈([] :List AV),aD y=true:=fun y hy=>by cases hy
end Eng
end
section
set_option linter.unusedVariables false
set_option linter.unusedSimpArgs false
namespace Eng
open Go Go.RowKit Go.ChangeShapes Go.WideShapes
section
variable {H:Type} {enc:TypeId×Value→H} {P:Program} {W:World}
theorem rW {t e:TypeId} {v:Value} {d:DataW H} {p:List MemPlace} {base:Nat} (ht:P.underlying t=some (.slice e)) (he:P.underlying e=some (.int .u8)) (hc:P.cellsOf e=1) (hb:P.bytesOf e=1)
  (hw: ∀n ∈ d.weights P t,n≤reachBytes) (h0:DataW.Trod enc P W 0 (fun _=>true) true t v d p) (hv:Value.okWide P W .any base t v): ∃a:ql,a.v=v∧a.mY W∧a.l.length≤140737488351232:=by
 obtain ⟨a,h1,h2,h3,h4⟩:=uI ht he hc h0 hv
 refine ⟨a,h1,h2,?_⟩
 rcases h4 with h4 | ⟨es,sp,rfl,h4⟩
 ·rw [h4];exact Nat.zero_le _
 ·have:=hw ((es.length+sp.length)*P.bytesOf e) (by simp [DataW.weights,ht])
  rw [hb] at this
  have h5:reachBytes=140737488351232:=rfl
  omega
end
end Eng
end
section
set_option linter.unusedVariables false
set_option linter.unusedSimpArgs false
namespace Eng
open Go
end Eng
namespace Eng
open Go
end Eng
namespace Eng
open Go
end Eng
namespace Eng
open Go
end Eng
namespace Eng
open Go
end Eng
namespace Eng
open Go
end Eng
namespace Eng
open Go
end Eng
namespace Eng
open Go
end Eng
end
section
set_option linter.unusedVariables false
set_option linter.unusedSimpArgs false
namespace Eng
open Go Go.RowKit Go.Maps Go.WideElems Go.MapKept Go.WideShapes
abbrev ly (q:IntKind):Int→Value:=Value.int q
theorem tH {q:IntKind} {x y:Int} (h:ly q x=ly q y):x=y:=by simpa [ly] using h
def qq:Lit→Int
 | .int _ a=>a
 | _=>0
def lz {H:Type}:DataW H→List Int
 | .map es=>es.map fun p=>qq p.1
 | _=>[]
theorem kg {P:Program} {k:TypeId} {q:IntKind} (hk:P.underlying k=some (.int q)) {key:Value} {kl:Lit} (h:keyOf P k key=some kl): ∃x:Int,key=ly q x∧kl= .int q x∧(Lit.int q x).wf=true:=by
 cases key <;> simp [keyOf,hk,mapKey] at h
 rename_i q' a
 obtain ⟨⟨rfl,hw⟩,rfl⟩:=h
 exact ⟨a,rfl,rfl,hw⟩
def m0 {H:Type} (q:IntKind) (D0:DataW H) (left:Lit→Bool) (ss:List Int):Prop:=ss.Nodup∧∀x,x ∈ ss ↔(has D0 (.int q x)=true∧left (.int q x)=false)
section
variable {H:Type} {D0:DataW H} {left:Lit→Bool} {ss:List Int} {q:IntKind}
theorem m0.start (D0:DataW H):m0 q D0 (has D0) [] :=⟨List.nodup_nil,fun x=>by cases has D0 (.int q x) <;> simp⟩
theorem gH (x y:Int):(Lit.int q x).sameKey (.int q y)=decide (x=y):=by simp [Lit.sameKey]
theorem m0.step (h:m0 q D0 left ss) {x:Int} {y:DataW H} (hlk:left (.int q x)=true) (hat: ∀zd,D0.atKey (.int q x) zd=y):m0 q D0 (fun z=>left z && !z.sameKey (.int q x)) (ss++ [x]):=by
 have hhas:has D0 (.int q x)=true:=has_true_of_atKey hat
 have hnew:x ∉ ss:=fun hx=>by have:=((h.2 x).1 hx).2;rw [hlk] at this;cases this
 refine ⟨List.nodup_append.2 ⟨h.1,by simp,fun a ha b hb=>by simp at hb;subst hb;exact fun e=>hnew (e ▸ ha)⟩,fun y=>?_⟩
 by_cases hy:y=x
 ·subst hy;simp [hhas,gH]
 ·simp [h.2 y,hy,gH]
theorem m0.all {P:Program} {k:TypeId} {R:Value→Option (DataW H×List MemPlace)} {w:World} {b n:Nat} (h:m0 q D0 left ss) (hown:w.ownsMap P k R b n D0) (hk:P.underlying k=some (.int q)) (hl: ∀kl,left kl=false):
  ss.Perm (lz D0):=by
 obtain ⟨es,hD,hpw,_⟩:=hown.entries (int_keyed hk)
 obtain ⟨es',hD',hko⟩:=hown.keysOf
 obtain rfl:es=es':=by rw [hD] at hD';simpa using hD'
 subst hD
 have hint: ∀p ∈ es,∃x,p.1= .int q x:=fun p hp=>by obtain ⟨v,hv⟩:=hko p hp;obtain ⟨x,_,hx,_⟩:=kg hk hv;exact ⟨x,hx⟩
 refine (List.perm_ext_iff_of_nodup h.1 ?_).2 fun x=>?_
 ·show (es.map fun p=>qq p.1).Nodup
  refine List.pairwise_map.2 (hpw.imp_of_mem fun {p r} hp' hr' hne e=>hne ?_)
  obtain ⟨a,ha⟩:=hint p hp'
  obtain ⟨b,hb⟩:=hint r hr'
  rw [ha,hb] at e ⊢
  exact congrArg _ e
 ·rw [h.2 x,hl,has_eq,List.any_eq_true]
  show _ ↔ x ∈ es.map fun p=>qq p.1
  rw [List.mem_map]
  constructor
  ·rintro ⟨⟨p,hp',hs⟩, -⟩
   obtain ⟨a,ha⟩:=hint p hp'
   rw [ha,gH] at hs
   exact ⟨p,hp',by rw [ha];simpa [qq] using hs⟩
  ·rintro ⟨p,hp',rfl⟩
   obtain ⟨a,ha⟩:=hint p hp'
   exact ⟨⟨p,hp',by rw [ha,gH];simp [qq]⟩,rfl⟩
end
def Bx (q:IntKind) (v:AV):Option Int:=v.asInt none fun k n=>bc (br k q) (bc (qY q.min n) (bc (qY n q.max) (some n) none) none) none
def qt (q:IntKind) (es:List (AV×AV×Nat)):Option (List Int):=
 bV (some []) (fun e _ ih=>av none (fun n=>av none (fun l=>some (n::l)) ih) (Bx q e.1)) es
def qu (l:List Nat):Bool:=bV true (fun a l ih=>bc (a9 (fun b=>aP (Nat.beq a b)) l) ih false) l
def uL (l:List Int):Bool:=bV true (fun a l ih=>bc (a9 (fun b=>aP (je a b)) l) ih false) l
def rX (ck:Nat) (es:List (AV×AV×Nat)):Bool:=bc (a9 (fun e=>Nat.blt e.2.2 ck) es) (qu (lmap (fun e=>e.2.2) es)) false
def keysOf (q:IntKind) (es:List (AV×AV×Nat)) (n ck:Nat):Option (List Int):=
 av none (fun l=>bc (uL l) (bc (rX ck es) (bc (Nat.ble n 12) (some l) none) none) none) (qt q es)
theorem qv: ∀{l:List Nat},qu l=true ↔ l.Nodup
 | [] =>by simp [qu]
 | a::l=>by
   show bc (a9 (fun b=>aP (Nat.beq a b)) l) (qu l) false=true ↔ _
   rw [List.nodup_cons,←qv (l:=l),fB]
   have:a9 (fun b=>aP (Nat.beq a b)) l=true ↔ a ∉ l:=by
    rw [aT]
    constructor
    ·intro h hm
     have:=h a hm
     rw [Nat.beq_refl] at this;cases this
    ·intro h b hb
     have hne:a≠b:=fun e=>h (by rw [e];exact hb)
     rw [pS hne];rfl
   rw [←this]
   cases a9 (fun b=>aP (Nat.beq a b)) l <;> simp
theorem qw: ∀{l:List Int},uL l=true ↔ l.Nodup
 | [] =>by simp [uL]
 | a::l=>by
   show bc (a9 (fun b=>aP (je a b)) l) (uL l) false=true ↔ _
   rw [List.nodup_cons,←qw (l:=l),fB]
   have:a9 (fun b=>aP (je a b)) l=true ↔ a ∉ l:=by
    rw [aT]
    constructor
    ·intro h hm
     have:=h a hm
     rw [dj] at this;simp [aP] at this
    ·intro h b hb
     have hne:a≠b:=fun e=>h (e ▸ hb)
     rw [dj,show (a == b)=false by simpa using hne];rfl
   rw [←this]
   cases a9 (fun b=>aP (je a b)) l <;> simp
theorem By {q:IntKind} {v:AV} {n:Int} (h:Bx q v=some n):v= .int q n∧q.min≤n∧n≤q.max:=by
 unfold Bx AV.asInt at h
 cases v <;> try cases h
 rename_i k m
 have h:bc (br k q) (bc (qY q.min m) (bc (qY m q.max) (some m) none) none) none=some n:=h
 obtain ⟨rfl,h1⟩:=et h nofun
 cases h2:qY k.min m with
 | false=>rw [h2] at h1;cases h1
 | true=>
   rw [h2] at h1
   cases h3:qY m k.max with
   | false=>rw [h3] at h1;cases h1
   | true=>
     rw [h3] at h1
     obtain rfl:=Option.some.inj (show some m=some n from h1)
     have e2:aP (eC m k.min)=true:=h2
     have e3:aP (eC k.max m)=true:=h3
     rw [eL] at e2 e3
     refine ⟨rfl,?_,?_⟩
     ·by_cases hh:m < k.min
      ·simp [hh,aP] at e2
      ·omega
     ·by_cases hh:k.max < m
      ·simp [hh,aP] at e3
      ·omega
theorem nX {q:IntKind}: ∀{es:List (AV×AV×Nat)} {l:List Int},qt q es=some l→l.length=es.length∧∀(i:Nat) (k v:AV) (n:Nat),es[i]? =some (k,v,n)→∃x,l[i]? =some x∧k= .int q x∧q.min≤x∧x≤q.max
 | [],l,h=>by
   obtain rfl:=Option.some.inj (show some [] =some l from h)
   exact ⟨rfl,fun i k v n hi=>by simp at hi⟩
 | e::es,l,h=>by
   have h:av none (fun n=>av none (fun l=>some (n::l)) (qt q es)) (Bx q e.1)=some l:=h
   cases h1:Bx q e.1 with
   | none=>rw [h1] at h;cases h
   | some x=>
     rw [h1] at h
     cases h2:qt q es with
     | none=>rw [h2] at h;cases h
     | some m=>
       rw [h2] at h
       obtain rfl:=Option.some.inj (show some (x::m)=some l from h)
       obtain ⟨i1,i2⟩:=nX h2
       obtain ⟨k1,k2,k3⟩:=By h1
       refine ⟨by simp [i1],fun i k v n hi=>?_⟩
       cases i with
       | zero=>simp at hi;subst hi;exact ⟨x,rfl,k1,k2,k3⟩
       | succ i=>simp at hi;simpa using i2 i k v n hi
theorem TY {q:IntKind} {x:Int} (h1:q.min≤x) (h2:x≤q.max):(Lit.int q x).wf=true:=by simp [Lit.wf,h1,h2]
theorem qx {μ:Mp} {w:World} {c s:Nat} {es:List (AV×AV×Nat)} {n ck:Nat} {P:Program} {k:TypeId} {q:IntKind} {l:List Int} (hk:P.underlying k=some (.int q)) (hb:iW μ w c s (.mp es n ck)) (hl:keysOf q es n ck=some l):
  ∃D0:DataW Unit,w.ownsMap P k (fun _=>some (.nil,[])) c n D0∧(lz D0).Perm l∧Maps.size D0=l.length∧l.length≤12:=by
 obtain ⟨hn,rfl,hown,es',hh,hes⟩:=hb
 unfold keysOf at hl
 cases h1:qt q es with
 | none=>rw [h1] at hl;cases hl
 | some m=>
   rw [h1] at hl
   have hl:bc (uL m) (bc (rX ck es) (bc (Nat.ble n 12) (some m) none) none) none=some l:=hl
   cases h2:uL m with
   | false=>rw [h2] at hl;cases hl
   | true=>
     rw [h2] at hl
     cases h3:rX ck es with
     | false=>rw [h3] at hl;cases hl
     | true=>
       rw [h3] at hl
       cases h4:Nat.ble n 12 with
       | false=>rw [h4] at hl;cases hl
       | true=>
         rw [h4] at hl
         obtain rfl:=Option.some.inj (show some m=some l from hl)
         obtain ⟨k1,k2⟩:=nX h1
         have hnd:=qw.1 h2
         have h12:n≤12:=by rw [ij] at h4;simpa using h4
         have hent: ∀i,i < es'.toList.length→∃(x:Int) (b:Nat) (v:AV),m[i]? =some x∧es[i]? =some (.int q x,v,b)∧∃e,es'.toList[i]? =some e∧e.key= .int q x∧e.born=b∧q.min≤x∧x≤q.max:=fun i hi=>by
          have hi':i < es.length:=by rw [←hes.1];exact hi
          obtain ⟨k,v,b,he'⟩: ∃k v b,es[i]? =some (k,v,b):=⟨es[i].1,es[i].2.1,es[i].2.2,List.getElem?_eq_getElem hi'⟩
          obtain ⟨x,hx,rfl,hx1,hx2⟩:=k2 i k v b he'
          obtain ⟨_,e,h5,h6,_,h8⟩:=hes.2 i _ v b he'
          rw [VR_int] at h6
          exact ⟨x,b,v,hx,he',e,h5,h6,h8,hx1,hx2⟩
         have hbo:(∀e ∈ es,e.2.2 < ck)∧(es.map fun e=>e.2.2).Nodup:=by
          have h3:bc (a9 (fun e=>Nat.blt e.2.2 ck) es) (qu (lmap (fun e=>e.2.2) es)) false=true:=h3
          cases h5:a9 (fun e=>Nat.blt e.2.2 ck) es with
          | false=>rw [h5] at h3;cases h3
          | true=>
            rw [h5] at h3
            refine ⟨fun e he=>?_,?_⟩
            ·have:=aT.1 h5 e he
             rw [b_] at this;simpa using this
            ·rw [←bS];exact qv.1 h3
         have uc:es'.toList.map (·.key)=m.map (Value.int q):=by
          apply List.ext_getElem?
          intro i
          rw [List.getElem?_map,List.getElem?_map]
          by_cases hi:i < es'.toList.length
          ·obtain ⟨x,b,v,h5,_,e,h7,h8,_⟩:=hent i hi
           rw [h5,h7];simp [h8]
          ·rw [List.getElem?_eq_none (by omega),List.getElem?_eq_none (by rw [k1,←hes.1];omega)];rfl
         have hborn:es'.toList.map (·.born)=es.map fun e=>e.2.2:=by
          apply List.ext_getElem?
          intro i
          rw [List.getElem?_map,List.getElem?_map]
          by_cases hi:i < es'.toList.length
          ·obtain ⟨x,b,v,_,h6,e,h7,_,h9,_⟩:=hent i hi
           rw [h6,h7];simp [h9]
          ·rw [List.getElem?_eq_none (by omega),List.getElem?_eq_none (by rw [←hes.1];omega)];rfl
         have hst:Stamped es' ck:=by
          refine ⟨fun x hx=>?_,by rw [hborn];exact hbo.2,?_⟩
          ·have:x.born ∈ es'.toList.map (·.born):=List.mem_map_of_mem hx
           rw [hborn] at this
           obtain ⟨e,he,he2⟩:=List.mem_map.1 this
           rw [←he2];exact hbo.1 e he
          ·rw [uc]
           exact List.pairwise_map.2 (hnd.imp fun hne e=>hne (by simpa using e))
         have hrd: ∀x ∈ es'.toList,∃a:Int,x.key= .int q a∧Go.WideElems.rd (H:=Unit) P k (fun _=>some (.nil,[])) x=some (.int q a, .nil):=fun x hx=>by
          obtain ⟨i,hi⟩:=List.getElem?_of_mem hx
          have hlt:=(List.getElem?_eq_some_iff.1 hi).1
          obtain ⟨a,b,v,_,_,e,h7,h8,_,h10,h11⟩:=hent i hlt
          rw [hi] at h7
          obtain rfl:=Option.some.inj h7
          refine ⟨a,h8,?_⟩
          obtain ⟨key,val,born⟩:=x
          have h8:key= .int q a:=h8
          subst h8
          exact rd_mk (R:=fun _=>some (DataW.nil,[])) (yv:=(DataW.nil,[])) (keyOf_int_mk hk (TY h10 h11)) rfl
         have hF:Fit (H:=Unit) P k (fun _=>some (.nil,[])) es' ck:=by
          refine ⟨?_,hst,fun x hx=>?_⟩
          ·have:es'.toList.length=es.length:=hes.1
           have h20:es'.size≤12:=by rw [←Array.length_toList];omega
           exact Nat.le_trans h20 (by decide)
          ·obtain ⟨a,_,h⟩:=hrd x hx
           exact ⟨_,h⟩
         refine ⟨_,⟨es',ck,hh,hF,?_,rfl⟩,?_,?_,by omega⟩
         ·have:es'.toList.length=es.length:=hes.1
          rw [←Array.length_toList];omega
         ·show (((es'.toList.map (rg P k (fun _=>some (DataW.nil,[])))).foldr DataW.insert []).map fun p=>qq p.1).Perm m
          refine ((sorted_perm _).map _).trans (.of_eq ?_)
          rw [List.map_map]
          have e1: ∀x ∈ es'.toList,((fun p:Lit×DataW Unit=>qq p.1)∘ rg P k (fun _=>some (DataW.nil,[]))) x=(match x.key with | .int _ a=>a | _=>0):=fun x hx=>by
           obtain ⟨a,h5,h6⟩:=hrd x hx
           show qq (rg P k (fun _=>some (DataW.nil,[])) x).1=_
           rw [rg_of h6,h5];rfl
          rw [List.map_congr_left e1]
          have e2:es'.toList.map (fun x=>match x.key with | .int _ a=>a | _=>(0:Int))=(es'.toList.map (·.key)).map fun v=>match v with | .int _ a=>a | _=>(0:Int):=by rw [List.map_map];rfl
          rw [e2,uc,List.map_map]
          exact List.map_id m
         ·show (((es'.toList.map (rg P k (fun _=>some (DataW.nil,[])))).foldr DataW.insert [])).length=m.length
          rw [(sorted_perm _).length_eq,List.length_map,k1,←hes.1]
end Eng
end
section
set_option linter.unusedVariables false
set_option linter.unusedSimpArgs false
namespace Eng
open Go Go.RowKit
def ja (L:List Int) (j:Nat):List Int:=(L.set (j+1) (L.getD j 0)).set j (L.getD (j+1) 0)
def sink:List Int→Nat→List Int
 | L,0=>L
 | L,j+1=>if L.getD (j+1) 0 < L.getD j 0 then sink (ja L j) j else L
def cZ:Nat→Nat→List Int→List Int
 | 0,_,L=>L
 | k+1,i,L=>cZ k (i+1) (sink L i)
def bX (L:List Int):List Int:=cZ (L.length - 1) 1 L
theorem qy (L:List Int) (k m:Nat) (x:Int) (h:k < L.length):(L.set k x).getD m 0=if m=k then x else L.getD m 0:=by
 rw [List.getD_eq_getElem?_getD,List.getD_eq_getElem?_getD,List.getElem?_set]
 by_cases e:k=m
 ·subst e;simp [h]
 ·rw [if_neg e,if_neg (fun h=>e h.symm)]
theorem jj (L:List Int) (j:Nat):(ja L j).length=L.length:=by simp [ja]
theorem iy {L:List Int} {j:Nat} (h:j+1 < L.length) (m:Nat):(ja L j).getD m 0=if m=j then L.getD (j+1) 0 else if m=j+1 then L.getD j 0 else L.getD m 0:=by
 unfold ja
 rw [qy _ _ _ _ (by simp;omega),qy _ _ _ _ h]
theorem g_: ∀(j:Nat) (L:List Int),(sink L j).length=L.length
 | 0,L=>rfl
 | j+1,L=>by
   unfold sink
   split
   ·rw [g_ j,jj]
   ·rfl
theorem m3: ∀(k i:Nat) (L:List Int),(cZ k i L).length=L.length
 | 0,i,L=>rfl
 | k+1,i,L=>by unfold cZ;rw [m3 k,g_]
theorem kI (L:List Int):(bX L).length=L.length:=m3 _ _ _
theorem swap_perm: ∀(j:Nat) (L:List Int),j+1 < L.length→(ja L j).Perm L
 | 0,a::b::L,_=>by
   show (b::a::L).Perm (a::b::L)
   exact List.Perm.swap a b L
 | j+1,a::L,h=>by
   have:ja (a::L) (j+1)=a::ja L j:=by simp [ja]
   rw [this]
   exact (swap_perm j L (by simpa using h)).cons a
 | 0,[],h=>by simp at h
 | 0,[a],h=>by simp at h
 | j+1,[],h=>by simp at h
theorem nY: ∀(j:Nat) (L:List Int),j < L.length→(sink L j).Perm L
 | 0,L,_=> .refl _
 | j+1,L,h=>by
   unfold sink
   split
   ·exact (nY j _ (by rw [jj];omega)).trans (swap_perm j L h)
   ·exact .refl _
theorem lB: ∀(k i:Nat) (L:List Int),i+k≤L.length→(cZ k i L).Perm L
 | 0,i,L,_=> .refl _
 | k+1,i,L,h=>by
   unfold cZ
   exact (lB k (i+1) _ (by rw [g_];omega)).trans (nY i L (by omega))
theorem jH (L:List Int):(bX L).Perm L:=by
 cases L with
 | nil=>exact .refl _
 | cons a L=>exact lB _ _ _ (by simp;omega)
def ON (L:List Int) (i j:Nat):Prop:=(∀a b,a < b→b≤i→a≠j→b≠j→L.getD a 0≤L.getD b 0)∧∀b,j < b→b≤i→L.getD j 0≤L.getD b 0
theorem lC: ∀(j:Nat) (L:List Int) (i:Nat),i < L.length→j≤i→ON L i j→∀a b,a < b→b≤i→(sink L j).getD a 0≤(sink L j).getD b 0
 | 0,L,i,hi,hj,⟨h1,h2⟩,a,b,hab,hb=>by
   show L.getD a 0≤L.getD b 0
   by_cases ha:a=0
   ·subst ha;exact h2 b hab hb
   ·exact h1 a b hab hb ha (by omega)
 | j+1,L,i,hi,hj,⟨h1,h2⟩,a,b,hab,hb=>by
   unfold sink
   split
   ·rename_i hlt
    have hj1:j+1 < L.length:=by omega
    refine lC j (ja L j) i (by rw [jj];exact hi) (by omega) ⟨fun a b hab hb ha hb'=>?_,fun b hjb hb=>?_⟩ a b hab hb
    ·rw [iy hj1,iy hj1,if_neg ha,if_neg hb']
     by_cases ea:a=j+1
     ·rw [if_pos ea,if_neg (by omega)]
      exact h1 j b (by omega) hb (by omega) (by omega)
     ·rw [if_neg ea]
      by_cases eb:b=j+1
      ·rw [if_pos eb];exact h1 a j (by omega) (by omega) (by omega) (by omega)
      ·rw [if_neg eb];exact h1 a b hab hb (by omega) (by omega)
    ·rw [iy hj1,iy hj1,if_pos rfl,if_neg (by omega)]
     by_cases eb:b=j+1
     ·rw [if_pos eb];omega
     ·rw [if_neg eb];exact h2 b (by omega) hb
   ·rename_i hlt
    by_cases ea:a=j+1
    ·rw [ea];exact h2 b (by omega) hb
    ·by_cases eb:b=j+1
     ·rw [eb]
      by_cases ej:a=j
      ·rw [ej];omega
      ·exact Int.le_trans (h1 a j (by omega) (by omega) (by omega) (by omega)) (by omega)
     ·exact h1 a b hab hb ea eb
theorem jw: ∀(k i:Nat) (L:List Int),1≤i→i+k=L.length→(∀a b,a < b→b < i→L.getD a 0≤L.getD b 0)→∀a b,a < b→b < L.length→(cZ k i L).getD a 0≤(cZ k i L).getD b 0
 | 0,i,L,_,hi,h=>fun a b hab hb=>h a b hab (by omega)
 | k+1,i,L,h1,hi,h=>by
   unfold cZ
   have:=jw k (i+1) (sink L i) (by omega) (by rw [g_];omega) fun a b hab hb=>
    lC i L i (by omega) (Nat.le_refl _) ⟨fun a b hab hb ha hb'=>h a b hab (by omega),fun b hb hb'=>by omega⟩ a b hab (by omega)
   rwa [g_] at this
theorem iz (L:List Int):(bX L).Pairwise (· ≤ ·):=by
 rw [List.pairwise_iff_getElem]
 intro a b ha hb hab
 rw [kI] at ha hb
 have key:(bX L).getD a 0≤(bX L).getD b 0:=by
  have h0:1≤L.length:=by omega
  exact jw (L.length - 1) 1 L (Nat.le_refl _) (by omega) (fun a b hab hb=>by omega) a b hab hb
 rw [List.getD_eq_getElem?_getD,List.getD_eq_getElem?_getD,List.getElem?_eq_getElem (by rw [kI];exact ha),List.getElem?_eq_getElem (by rw [kI];exact hb)] at key
 exact key
theorem jx {l m:List Int} (h1:l.Pairwise (· ≤ ·)) (h2:m.Pairwise (· ≤ ·)) (hp:l.Perm m):l=m:=
 List.Perm.eq_of_pairwise (le:=(· ≤ ·)) (fun a b _ _=>Int.le_antisymm) h1 h2 hp
theorem jy {l m:List Int} (h:l.Perm m):bX l=bX m:=jx (iz l) (iz m) (((jH l).trans h).trans (jH m).symm)
def uM (x:Int) (l:List Int):List Int:=bV [x] (fun a t ih=>bc (qY x a) (x::a::t) (a::ih)) l
def gI (l:List Int):List Int:=bV [] (fun a _ ih=>uM a ih) l
theorem tJ (a b:Int):qY a b=true ↔ a≤b:=by
 show aP (eC b a)=true ↔ _
 rw [eL]
 by_cases h:b < a
 ·simp [h,aP];try omega
 ·simp [h,aP];try omega
theorem kJ (x:Int): ∀l,(uM x l).Perm (x::l)
 | [] => .refl _
 | a::l=>by
   show (bc (qY x a) (x::a::l) (a::uM x l)).Perm _
   cases qY x a with
   | true=>exact .refl _
   | false=>exact ((kJ x l).cons a).trans (.swap x a l)
theorem lD (x:Int): ∀l,l.Pairwise (· ≤ ·)→(uM x l).Pairwise (· ≤ ·)
 | [],_=>by simp [uM]
 | a::l,h=>by
   obtain ⟨h1,h2⟩:=List.pairwise_cons.1 h
   show (bc (qY x a) (x::a::l) (a::uM x l)).Pairwise _
   cases hx:qY x a with
   | true=>
     have hxa:=(tJ x a).1 hx
     refine List.pairwise_cons.2 ⟨fun b hb=>?_,h⟩
     rcases List.mem_cons.1 hb with rfl | hb
     ·exact hxa
     ·exact Int.le_trans hxa (h1 b hb)
   | false=>
     have hxa:a≤x:=by
      by_cases hh:x≤a
      ·rw [(tJ x a).2 hh] at hx;cases hx
      ·omega
     refine List.pairwise_cons.2 ⟨fun b hb=>?_,lD x l h2⟩
     rcases List.mem_cons.1 ((kJ x l).mem_iff.1 hb) with rfl | hb
     ·exact hxa
     ·exact h1 b hb
theorem jI: ∀l,(gI l).Perm l
 | [] => .refl _
 | a::l=>(kJ a (gI l)).trans ((jI l).cons a)
theorem kh: ∀l,(gI l).Pairwise (· ≤ ·)
 | [] =>by simp [gI]
 | a::l=>lD a _ (kh l)
theorem Bz (l:List Int):bX l=gI l:=jx (iz l) (kh l) ((jH l).trans (jI l).symm)
def eF (q:IntKind) (L:List Int):List AV:=L.map (AV.int q)
def hS (q:IntKind) (L:List Int):Hp:=⟨1,cO (pathOf 0) (.cells (eF q L) L.length .solo) .lf⟩
theorem m4 (q:IntKind) (L:List Int):au (hS q L) 0=some (.cells (eF q L) L.length .solo):=cE _ _ _
theorem lE {q:IntKind} {L:List Int} {k:Nat} (h:k < L.length):aq (.loadS (.const (.ptr 0 (0+k*1)))) .lf (hS q L)= .ok (.int q (L.getD k 0)):=by
 show aS (hS q L) 0 OV.no (fun cs _ _=>av .no .ok (an cs (0+k*1)))=_
 unfold aS
 rw [m4]
 show av OV.no .ok (an (eF q L) (0+k*1))=_
 rw [fw,Nat.zero_add,Nat.mul_one,eF,List.getElem?_map,List.getD_eq_getElem?_getD,List.getElem?_eq_getElem h]
 rfl
theorem HB {q:IntKind} {L:List Int} {k:Nat} {x:Int} (call:aJ) (h:k < L.length):pQ (.store 1 (.const (.ptr 0 (0+k*1))) (.const (.int q x))) call .lf (hS q L)= .ok undef (hS q (L.set k x)):=by
 show rD 1 (.const (.ptr 0 (0+k*1))) (.const (.int q x)) .lf (hS q L)=_
 show Lu (hS q L) 0 (0+k*1) (.int q x)=_
 unfold Lu aS
 rw [m4]
 show bc (Nat.blt (0+k*1) L.length) (put (hS q L) 0 (Lq (.int q x) (eF q L) (0+k*1)) L.length .solo undef) .no=_
 rw [b_,Nat.zero_add,Nat.mul_one,decide_eq_true h,AK]
 have e:(eF q L).set k (.int q x)=eF q (L.set k x):=by unfold eF;rw [List.map_set]
 rw [e]
 show RV.ok undef (b9 (hS q L) 0 (.cells (eF q (L.set k x)) L.length .solo))=_
 unfold hS b9
 have e2: ∀(x y:aY),cO (pathOf 0) x (cO (pathOf 0) y Tr.lf)=cO (pathOf 0) x Tr.lf:=fun x y=>rfl
 rw [List.length_set,e2]
def L5 (g cap:Nat):Mp:=⟨fun b=>if b=0 then some (g,0) else none,fun c=>decide (c=g),fun _=>cap⟩
theorem GI {q:IntKind} {L:List Int} {W:World} {g:Nat} {cur:Array Value} {e:TypeId} (hg:W.heap[g]? =some (.cells cur e (0,0))) (ht:cur.toList.take L.length=L.map (Value.int q)) (hL:L.length≤cur.size):bq (L5 g cur.size) (hS q L) W:=by
 have hat: ∀b c s,(L5 g cur.size).at_ b=some (c,s)→b=0∧c=g∧s=0:=fun b c s h=>by
  have h:(if b=0 then some (g,0) else none)=some (c,s):=h
  split at h
  ·cases h;exact ⟨‹_›,rfl,rfl⟩
  ·cases h
 have hget0: ∀b,b≠0→au (hS q L) b=none:=fun b hb=>by
  show bf (pathOf b) (cO (pathOf 0) _ .lf)=none
  rw [bD _ _ _ _ (fun e=>hb (bw e)),dA]
 refine ⟨fun b hb=>?_,fun b hb=>hget0 b (by have:(hS q L).next=1:=rfl;omega),fun b c s h=>?_,fun b c s x h hx=>?_,fun b b' c s s' x x' hne h h'=>?_,fun b c s cs n p h hx=>?_⟩
 ·have:(hS q L).next=1:=rfl
  show (if b=0 then some (g,0) else none)=none
  rw [if_neg (by omega)]
 ·obtain ⟨_,rfl,_⟩:=hat b c s h;exact (Array.getElem?_eq_some_iff.1 hg).1
 ·obtain ⟨rfl,rfl,rfl⟩:=hat b c s h
  rw [m4] at hx
  cases hx
  refine ⟨by simp [eF],fun v hv=>?_,⟨fun _=>nofun,fun _=>by simp [L5]⟩,cur,e,(0,0),hg,rfl,fun _=> .inl rfl,fun i v hv=>?_⟩
  ·obtain ⟨z,_,rfl⟩:=List.mem_map.1 hv;rfl
  ·rw [eF,List.getElem?_map] at hv
   cases hz:L[i]? with
   | none=>rw [hz] at hv;cases hv
   | some z=>
     rw [hz] at hv
     cases hv
     have hi:i < L.length:=(List.getElem?_eq_some_iff.1 hz).1
     have h1:(cur.toList.take L.length)[i]? =(L.map (Value.int q))[i]? :=by rw [ht]
     rw [List.getElem?_take_of_lt hi,List.getElem?_map,hz] at h1
     refine ⟨.int q z,?_,by rw [VR_int]⟩
     rw [Nat.zero_add,←Array.getElem?_toList,h1];rfl
 ·obtain ⟨h1,_⟩:=hat b c s h
  obtain ⟨h2,_⟩:=hat b' c s' h'
  exact absurd (h1.trans h2.symm) hne
 ·obtain ⟨rfl,_,_⟩:=hat b c s h
  rw [m4] at hx;cases hx
theorem uN {q:IntKind} {L M:List Int} {W W':World} {g cap:Nat} {u:AV} {e:Ending} (hg:g < W.heap.size) (r:fV (L5 g cap) (hS q L) W u (hS q M) e W'):
  ∃arr el fr,W'.heap[g]? =some (.cells arr el fr)∧arr.size=cap∧cz arr.size fr∧(∀(i:Nat) (z:Int),M[i]? =some z→arr[i]? =some (.int q z))∧(∀base,base≤g→Below base W W'):=by
 obtain ⟨μ',y,_,_,hs,gs⟩:=r
 have hat:μ'.at_ 0=some (g,0):=by rw [gs.at_ 0 (by show 0 < 1;decide)];rfl
 have hown:μ'.own g=true:=by rw [gs.own g hg];simp [L5]
 have hsz:μ'.size g=cap:=gs.size g hg
 obtain ⟨_,_,_,arr,el,fr,h1,h2,h3,h4⟩:=hs.d_ 0 g 0 _ hat (m4 q M)
 refine ⟨arr,el,fr,h1,by rw [h2,hsz],h3 hown,fun i z hz=>?_,fun base hb=>⟨gs.os,gs.tape,gs.output,gs.heap,fun k hk=>?_⟩⟩
 ·obtain ⟨x,hx,hv⟩:=h4 i (.int q z) (by rw [eF,List.getElem?_map,hz];rfl)
  rw [VR_int] at hv
  rw [←hv];simpa using hx
 ·refine gs.kept k (by omega) ?_
  show decide (k=g)=false
  simp;omega
theorem BA {q:IntKind} {M:List Int} {μ:Mp} {h:Hp} {w w':World} {g cap:Nat} {arr:Array Value} {el:TypeId} {fr:Nat×Nat} (hs:bq μ h w) (hb:Below w.heap.size w w') (hg:w.heap.size≤g)
  (h1:w'.heap[g]? =some (.cells arr el fr)) (h2:arr.size=cap) (h3:cz arr.size fr) (h4: ∀(i:Nat) (z:Int),M[i]? =some z→arr[i]? =some (.int q z)) (h5:M.length≤cap):
  fV μ h w (.slice h.next 0 M.length M.length 1 false) (bz h (aZ (eF q M) M.length)) (.returned (.slice (some ⟨g,0,none⟩) M.length cap)) w':=by
 obtain ⟨μ',hμ⟩: ∃μ':Mp,μ'=⟨fun b=>if b=h.next then some (g,0) else μ.at_ b,fun c=>if c < w.heap.size then μ.own c else decide (c=g),fun c=>if c < w.heap.size then μ.size c else cap⟩:=⟨_,rfl⟩
 have hn:μ.at_ h.next=none:=hs.lt _ (Nat.le_refl _)
 have hat: ∀b,μ'.at_ b=if b=h.next then some (g,0) else μ.at_ b:=fun b=>by rw [hμ]
 have hlt: ∀b c s,μ.at_ b=some (c,s)→b < h.next∧c < w.heap.size:=fun b c s e=>by
  refine ⟨?_,hs.dW b c s e⟩
  rcases Nat.lt_or_ge b h.next with hb | hb
  ·exact hb
  ·rw [hs.lt b hb] at e;cases e
 have ho: ∀c,c < w.heap.size→μ'.own c=μ.own c:=fun c hc=>by rw [hμ];simp [hc]
 have hz: ∀c,c < w.heap.size→μ'.size c=μ.size c:=fun c hc=>by rw [hμ];simp [hc]
 have hog:μ'.own g=true:=by rw [hμ];simp [Nat.not_lt.2 hg]
 have hzg:μ'.size g=cap:=by rw [hμ];simp [Nat.not_lt.2 hg]
 have hle:μ.Le μ':=fun b c s e=>by
  obtain ⟨h6,h7⟩:=hlt b c s e
  exact ⟨by rw [hat,if_neg (by omega)];exact e,hz c h7,ho c h7⟩
 have hgl:g < w'.heap.size:=(Array.getElem?_eq_some_iff.1 h1).1
 have hcs: ∀(i:Nat) (v:AV),(eF q M)[i]? =some v→∃z,M[i]? =some z∧v= .int q z:=fun i v hv=>by
  rw [eF,List.getElem?_map] at hv
  cases hz:M[i]? with
  | none=>rw [hz] at hv;cases hv
  | some z=>rw [hz] at hv;cases hv;exact ⟨z,rfl,rfl⟩
 have au: ∀b,au (bz h (aZ (eF q M) M.length)) b=if b=h.next then some (aZ (eF q M) M.length) else Eng.au h b:=fun b=>by
  split
  ·subst b;exact dE _ _
  ·exact aC _ _ (by assumption)
 have hsplit: ∀b c s,μ'.at_ b=some (c,s)→(b=h.next∧c=g∧s=0)∨(b≠h.next∧μ.at_ b=some (c,s)):=fun b c s e=>by
  rw [hat] at e
  split at e
  ·cases e;exact .inl ⟨‹_›,rfl,rfl⟩
  ·exact .inr ⟨‹_›,e⟩
 refine ⟨μ',_,rfl,?_,⟨fun b hb'=>?_,fun b hb'=>?_,fun b c s e=>?_,fun b c s x e hx=>?_,fun b b' c s s' x x' hne e e' hown hx hx' hd hd'=>?_,fun b c s cs n p e hx=>?_⟩,
  ⟨Nat.le_succ _,fun b hb'=>by rw [hat,if_neg (by omega)],ho,hz,hb.size,fun c hc _=>hb.block c hc,fun b hb' _=> .inl (by rw [au,if_neg (by omega)]),hb.os,hb.tape,hb.output⟩⟩
 ·unfold VR
  refine ⟨g,0,⟨g,0,none⟩,cap,by rw [hat,if_pos rfl],rfl,Nat.le_refl _,h5,(fun h=>by cases h),fun _=>⟨rfl,?_⟩⟩
  rw [hzg];omega
 ·have hb':h.next+1≤b:=hb'
  rw [hat,if_neg (by omega)];exact hs.lt b (by omega)
 ·have hb':h.next+1≤b:=hb'
  rw [au,if_neg (by omega)];exact hs.fresh b (by omega)
 ·rcases hsplit b c s e with ⟨_,rfl,_⟩ | ⟨_,e⟩
  ·exact hgl
  ·exact Nat.lt_of_lt_of_le (hs.dW b c s e) hb.size
 ·rcases hsplit b c s e with ⟨rfl,rfl,rfl⟩ | ⟨hne,e⟩
  ·rw [au,if_pos rfl] at hx
   cases hx
   refine ⟨by simp [eF],fun v hv=>?_,⟨fun _=>nofun,fun _=>hog⟩,arr,el,fr,h1,by rw [h2,hzg],fun _=>h3,fun i v hv=>?_⟩
   ·obtain ⟨z,_,rfl⟩:=List.mem_map.1 hv;rfl
   ·obtain ⟨z,h6,rfl⟩:=hcs i v hv
    exact ⟨_,by rw [Nat.zero_add];exact h4 i z h6,by rw [VR_int]⟩
  ·rw [au,if_neg hne] at hx
   have hc:=(hlt b c s e).2
   exact (hs.d_ b c s x e hx).mono hle (hb.block c hc) (ho c hc) (hz c hc)
 ·rcases hsplit b c s e with ⟨rfl,rfl,rfl⟩ | ⟨hn1,e⟩
  ·rcases hsplit b' c s' e' with ⟨rfl,_,_⟩ | ⟨hn2,e'⟩
   ·exact absurd rfl hne
   ·exact absurd (hlt b' c s' e').2 (by omega)
  ·rcases hsplit b' c s' e' with ⟨rfl,rfl,_⟩ | ⟨hn2,e'⟩
   ·exact absurd (hlt b c s e).2 (by omega)
   ·rw [au,if_neg hn1] at hx
    rw [au,if_neg hn2] at hx'
    exact hs.apart b b' c s s' x x' hne e e' (by rw [←ho c (hlt b c s e).2];exact hown) hx hx' hd hd'
 ·rcases hsplit b c s e with ⟨rfl,_,_⟩ | ⟨hn1,e⟩
  ·rw [au,if_pos rfl] at hx;cases hx
  ·rw [au,if_neg hn1] at hx
   obtain ⟨y,hy⟩:=hs.peer b c s cs n p e hx
   exact ⟨y,by rw [hat,if_neg (by have:=(hlt p y.1 y.2 hy).1;omega)];exact hy⟩
theorem BB {μ:Mp} {h:Hp} {w w':World} (hs:bq μ h w) (hb:Below w.heap.size w w'):fV μ h w .nilSlice h (.returned (.slice none 0 0)) w':=
 ⟨μ,_,rfl,by unfold VR;rfl,hs.below hb, .tC hb⟩
theorem GJ {b:Bool} {x:RV} {v:AV} {h:Hp} (e:bc b RV.no x= .ok v h):b=false∧x= .ok v h:=by
 cases b with
 | true=>cases e
 | false=>exact ⟨rfl,e⟩
def orM (a b:Nat→Option (List AV→Hp→RV)) (f:Nat):Option (List AV→Hp→RV):=av (b f) some (a f)
theorem BC {P:Program} {a b:Nat→Option (List AV→Hp→RV)} (ha:Good P fun f args h=>av .no (fun m=>m args h) (a f)) (hb:Good P fun f args h=>av .no (fun m=>m args h) (b f)):
  Good P fun f args h=>av .no (fun m=>m args h) (orM a b f):=fun f args h v h' μ w cargs e hs r=>by
 have e:av RV.no (fun m=>m args h) (av (b f) some (a f))= .ok v h':=e
 cases ha':a f with
 | none=>rw [ha'] at e;exact hb f args h v h' μ w cargs e hs r
 | some m=>
   rw [ha'] at e
   exact ha f args h v h' μ w cargs (show av RV.no (fun m=>m args h) (a f)= .ok v h' by rw [ha'];exact e) hs r
end Eng
end
section
set_option linter.unusedVariables false
set_option linter.unusedSimpArgs false
namespace Eng
open Go Go.RowKit
theorem lb {n m:Nat} (h:Nat.ble n m=true):n≤m:=Nat.le_of_ble_eq_true h
def gd {α:Type} (p:Prop) [Decidable p] (o:Option α):Option α:=if p then o else none
def ob {α β:Type} (o:Option α) (f:α→Option β):Option β:=match o with | none=>none | some x=>f x
inductive LO (S R:Type) where
 | ex (s:S)
 | rt (r:R)
def LO.on {S R β:Type} (o:LO S R) (f:S→β) (g:R→β):β:=match o with | .ex s=>f s | .rt r=>g r
abbrev Up (G:Nat→Prop) (h:Hp) (G':Nat→Prop) (h':Hp):Prop:= ∀k,G k→G' k∧au h' k=au h k
abbrev TF (h:Hp):Nat→Prop:=fun k=>k < h.next
theorem Up.refl (G:Nat→Prop) (h:Hp):Up G h G h:=fun k hk=>⟨hk,rfl⟩
theorem Up.trans {G G' G'':Nat→Prop} {h h' h'':Hp} (a:Up G h G' h') (b:Up G' h' G'' h''):Up G h G'' h'':=fun k hk=>⟨(b k (a k hk).1).1,(b k (a k hk).1).2.trans (a k hk).2⟩
theorem Sep.low {os:List g8} {h:Hp} (S:Sep os h) {i:Nat} {G:Nat→Prop} {h0:Hp} (hi:os[i]? =some (GH G h0)):Up G h0 (TF h) h:=fun k hk=>S.frozen hi hk
theorem kH.up {G G':Nat→Prop} {h h':Hp} {v:AV} {l:List Nat} (u:Up G h G' h') (P:kH G h v l):kH G' h' v l:=by
 obtain ⟨⟨B,P⟩,hG⟩:=P
 cases P with
 | nil=>exact .nil
 | sl hB hg hcl hl hm hc hb=>
   obtain ⟨h1,h2⟩:=u _ (hG _ rfl)
   exact ⟨⟨_, .sl (Nat.lt_succ_self _) (h2.trans hg) hcl hl hm hc hb⟩,fun b e=>by cases e;exact h1⟩
theorem Sep.empty {os:List g8} {h:Hp} (S:Sep os h):Sep (GH (fun _=>False) h::os) h:=
 S.add (fun _=>False) (Nat.le_refl _) ⟨fun _ e=>e,fun _ e=>e.elim⟩ (fun _ e=>e.elim) fun _ _=>rfl
theorem Sep.call {os news:List g8} {h rh:Hp} (S:Sep os h) (S':Sep (news++ [GH (TF h) h]) rh):Sep (news++os) rh:=by
 have hi:(news++ [GH (TF h) h])[news.length]? =some (GH (TF h) h):=by simp
 have fz: ∀k,k < h.next→k < rh.next∧au rh k=au h k:=fun k hk=>S'.frozen hi hk
 obtain ⟨g,g1,g2,g3⟩:=S
 obtain ⟨f,f1,f2,f3⟩:=S'
 have fn: ∀k,k < h.next→f news.length k:=(f1 _ _ hi).1
 have fne: ∀i k,i < news.length→f i k→¬k < h.next:=fun i k hi' hf hk=>by have:=f3 _ _ k hf (fn k hk);omega
 refine ⟨fun j=>if j < news.length then f j else g (j - news.length),fun j x hj=>?_,fun j k hk=>?_,fun j1 j2 k a b=>?_⟩
 ·by_cases hlt:j < news.length
  ·show x.p rh (if j < news.length then f j else g (j - news.length))
   rw [if_pos hlt]
   exact f1 j x (by rw [List.getElem?_append_left hlt] at hj ⊢;exact hj)
  ·show x.p rh (if j < news.length then f j else g (j - news.length))
   rw [if_neg hlt]
   rw [List.getElem?_append_right (Nat.not_lt.1 hlt)] at hj
   exact x.loc (fun k hk=>(fz k (g2 _ k hk)).2) (g1 _ x hj)
 ·by_cases hlt:j < news.length
  ·have hk:(if j < news.length then f j else g (j - news.length)) k:=hk
   rw [if_pos hlt] at hk;exact f2 j k hk
  ·have hk:(if j < news.length then f j else g (j - news.length)) k:=hk
   rw [if_neg hlt] at hk;exact (fz k (g2 _ k hk)).1
 ·have a:(if j1 < news.length then f j1 else g (j1 - news.length)) k:=a
  have b:(if j2 < news.length then f j2 else g (j2 - news.length)) k:=b
  by_cases h1:j1 < news.length
  ·rw [if_pos h1] at a
   by_cases h2:j2 < news.length
   ·rw [if_pos h2] at b;exact f3 _ _ k a b
   ·rw [if_neg h2] at b;exact absurd (g2 _ k b) (fne _ k h1 a)
  ·rw [if_neg h1] at a
   by_cases h2:j2 < news.length
   ·rw [if_pos h2] at b;exact absurd (g2 _ k a) (fne _ k h2 b)
   ·rw [if_neg h2] at b;have:=g3 _ _ k a b;omega
structure Ar (α:Type) where
 sz:Nat
 rep:(Nat→Prop)→Hp→List AV→α→Prop
 len: ∀{G h cs x},rep G h cs x→cs.length=sz
 cell: ∀{G h cs x},rep G h cs x→∀c ∈ cs,aD c=true
 up: ∀{G h G' h' cs x},Up G h G' h'→rep G h cs x→rep G' h' cs x
def Rows {α:Type} (a:Ar α) (G:Nat→Prop) (h:Hp):List AV→List α→Prop
 | L,[] =>L= []
 | L,x::xs=> ∃c M,L=c++M∧a.rep G h c x∧Rows a G h M xs
theorem Rows.len {α:Type} {a:Ar α} {G:Nat→Prop} {h:Hp}: ∀{xs:List α} {L:List AV},Rows a G h L xs→L.length=xs.length*a.sz
 | [],L,e=>by rw [show L= [] from e];simp
 | x::xs,L,⟨c,M,e,p,q⟩=>by rw [e,List.length_append,a.len p,Rows.len q,List.length_cons,Nat.succ_mul];omega
theorem Rows.cell {α:Type} {a:Ar α} {G:Nat→Prop} {h:Hp}: ∀{xs:List α} {L:List AV},Rows a G h L xs→∀c ∈ L,aD c=true
 | [],L,e=>by rw [show L= [] from e];exact uK
 | x::xs,L,⟨c,M,e,p,q⟩=>by
   rw [e];intro y hy
   rcases List.mem_append.1 hy with hy | hy
   ·exact a.cell p y hy
   ·exact Rows.cell q y hy
theorem Rows.up {α:Type} {a:Ar α} {G G':Nat→Prop} {h h':Hp} (u:Up G h G' h'): ∀{xs:List α} {L:List AV},Rows a G h L xs→Rows a G' h' L xs
 | [],L,e=>e
 | x::xs,L,⟨c,M,e,p,q⟩=>⟨c,M,e,a.up u p,Rows.up u q⟩
theorem Rows.append {α:Type} {a:Ar α} {G:Nat→Prop} {h:Hp}: ∀{xs ys:List α} {L M:List AV},Rows a G h L xs→Rows a G h M ys→Rows a G h (L++M) (xs++ys)
 | [],ys,L,M,e,q=>by rw [show L= [] from e];exact q
 | x::xs,ys,L,M,⟨c,N,e,p,q⟩,r=>⟨c,N++M,by rw [e,List.append_assoc],p,Rows.append q r⟩
theorem Rows.one {α:Type} {a:Ar α} {G:Nat→Prop} {h:Hp} {x:α} {c:List AV} (p:a.rep G h c x):Rows a G h c [x] :=⟨c,[],(List.append_nil c).symm,p,rfl⟩
theorem Rows.get {α:Type} [Inhabited α] {a:Ar α} {G:Nat→Prop} {h:Hp}: ∀{xs:List α} {L:List AV} {k:Nat},Rows a G h L xs→k < xs.length→a.rep G h ((L.drop (k*a.sz)).take a.sz) (xs.getD k default)
 | [],L,k,_,hk=>absurd hk (Nat.not_lt_zero _)
 | x::xs,L,0,⟨c,M,e,p,q⟩,hk=>by
   rw [Nat.zero_mul,List.drop_zero,e,List.take_append_of_le_length (by rw [a.len p];exact Nat.le_refl _),List.take_of_length_le (by rw [a.len p];exact Nat.le_refl _)]
   exact p
 | x::xs,L,k+1,⟨c,M,e,p,q⟩,hk=>by
   have hd:L.drop ((k+1)*a.sz)=M.drop (k*a.sz):=by
    rw [e,List.drop_append,List.drop_of_length_le (by rw [a.len p,Nat.succ_mul];omega),List.nil_append,a.len p]
    congr 1;rw [Nat.succ_mul];omega
   rw [hd]
   exact Rows.get q (by simpa using hk)
inductive BD {α:Type} (a:Ar α) (G:Nat→Prop) (h:Hp):AV→List α→Prop
 | nil:BD a G h .nilSlice []
 | sl {b o c:Nat} {ex:Bool} {cs:List AV} {m:Nat} {w:Own} {xs:List α} (hG:G b) (hg:au h b=some (.cells cs m w)) (hcl:cs.length=m) (hm:o+xs.length*a.sz≤m) (hc:xs.length≤c)
   (hr:Rows a G h ((cs.drop o).take (xs.length*a.sz)) xs):BD a G h (.slice b o xs.length c a.sz ex) xs
theorem BD.up {α:Type} {a:Ar α} {G G':Nat→Prop} {h h':Hp} {v:AV} {xs:List α} (u:Up G h G' h') (P:BD a G h v xs):BD a G' h' v xs:=by
 cases P with
 | nil=>exact .nil
 | sl hG hg hcl hm hc hr=>exact .sl (u _ hG).1 ((u _ hG).2.trans hg) hcl hm hc (hr.up u)
theorem BD.cell {α:Type} {a:Ar α} {G:Nat→Prop} {h:Hp} {v:AV} {xs:List α} (P:BD a G h v xs):aD v=true:=by cases P <;> rfl
theorem BD.cells {α:Type} {a:Ar α} {G:Nat→Prop} {h:Hp} {v:AV} {xs:List α} (P:BD a G h v xs):cellsOf v= [v] :=by cases P <;> rfl
theorem BD.same {α:Type} {a:Ar α} {G:Nat→Prop} {h:Hp} {v:AV} {xs:List α} (P:BD a G h v xs):dB v v=true:=by
 cases P with
 | nil=>rfl
 | sl=>exact b8 ..
def BE (G:Nat→Prop) (h:Hp) (v:AV) (k sz:Nat) (cs:List AV):Prop:=
 ∃b o n c ex L m w,v= .slice b o n c sz ex∧G b∧au h b=some (.cells L m w)∧L.length=m∧o+k*sz+sz≤m∧(L.drop (o+k*sz)).take sz=cs
end Eng
end
section
set_option linter.unusedVariables false
set_option linter.unusedSimpArgs false
namespace Eng
open Go Go.RowKit
theorem OO {k:IntKind} (a b:Int):aq (.mn [.const (.int k a), .const (.int k b)]) .lf H0= .ok (.int k (min a b)):=by
 show bc (br k k) (OV.ok (.int k (mu a b))) .no=_
 rw [dX,tk];show OV.ok _=_;congr 2;split <;> omega
theorem L6 {k:IntKind} (a b:Nat):aq (.mn [.const (.int k (.ofNat a)), .const (.int k (.ofNat b))]) .lf H0= .ok (.int k (.ofNat (min a b))):=by
 rw [OO];congr 2;simp only [Int.ofNat_eq_natCast];omega
theorem BE.up {G G':Nat→Prop} {h h':Hp} {v:AV} {k sz:Nat} {cs:List AV} (u:Up G h G' h') (R:BE G h v k sz cs):BE G' h' v k sz cs:=by
 obtain ⟨b,o,n,c,ex,L,m,w,e,hG,hg,r⟩:=R
 exact ⟨b,o,n,c,ex,L,m,w,e,(u b hG).1,((u b hG).2).trans hg,r⟩
end Eng
end
section
set_option linter.unusedVariables false
set_option linter.unusedSimpArgs false
namespace Go.Proofs.YtfcljjhlijolgaaGreatDoor
open Go Go.RowKit Go.Maps Go.Sort Go.Shelf Eng
set_option maxRecDepth 100000 in
set_option maxHeartbeats 1000000 in
theorem uO (F:Fence) (n:Nat) (h10:F.fn 134) (hro:F.round=none) (hn:1≤n) (l Bm ko b nn:Nat) (D0:DataW Unit) (R:Value→Option (DataW Unit×List MemPlace)) (J:List Int→World→Prop)
  (hY: ∀pre x W,J pre W→pre.length < Maps.size D0→YieldAt F (n - 1) Tryz.prog l #[ly .u64 x] W fun e W'=>e= .returned (.bool true)∧J (pre++ [x]) W'∧KeepsWalks W W')
  (W:World) (hJ:AbidesFrom W.heap.size J) (hm:W.cell? ⟨Bm,ko,none⟩=some (.map (some b))) (hown:W.ownsMap Tryz.prog 31 R b nn D0) (h0:J [] W):
  CallsIn F n Tryz.prog 134 #[.func (.yield l) #[] #[], .pointer (some ⟨Bm,ko,none⟩)] W fun e W'=>(∃v,e= .returned v)∧∃ss:List Int,ss.Perm (lz D0)∧J ss W':=by
 refine callsIn_of_wp Tryz.func134 rfl h10 ?_ hro
 simp only [Tryz.ntmps134,List.size_toArray,List.length_cons,List.length_nil,Nat.reduceAdd,Nat.reduceSub,Array.replicate_succ,Array.replicate_zero,List.push_toArray,List.append_toArray,List.nil_append,List.cons_append]
 gi_wp2_with (first
  | (gi_at_range;refine wpListIn_range_own _ rfl _ 217 rfl 31 3 (int_keyed Tryz.underlying31) Tryz.underlying217 _ b nn _ rfl hown ?_;intro w0 hrg0 hg0 hs0)
  | gi_in)
 go_frame
 gi_loopw [3] (fun _ wr=> ∃(left:Lit→Bool) (cnt:Nat) (ss:List Int),wr.ranges Tryz.prog 31 R b W.heap.size nn D0 left cnt∧ss.length+cnt≤Maps.size D0∧m0 .u64 D0 left ss∧J ss wr)
  (fun _ wr=>wr.rangeLeft b W.heap.size)
 case atStart=>
  exact ⟨_,_,[],hrg0,by simp,m0.start D0,hJ [] W w0 none h0 hg0 (fun r e=>by cases e)⟩
 case round=>
  obtain ⟨left,cnt,ss,hrg,hcs,hC,hJs⟩:=hrel
  gi_wp2_with (first
   | (gi_at_next;refine wpListIn_next_ranges _ rfl _ rfl 31 (int_keyed Tryz.underlying31) R (ly .u64) id (fun key kl hk=>by obtain ⟨x,hx,_⟩:=kg Tryz.underlying31 hk;exact ⟨x,hx⟩) (fun v _ _=>⟨v,rfl⟩) b W.heap.size nn _ _ _ rfl hrg ?_ ?_)
   | gi_in)
  ·intro hc0 hl0
   gi_wp2
   go_end0
   exact ⟨⟨_,rfl⟩,ss,hC.all hown Tryz.underlying31 hl0,hJs⟩
  ·intro x c kl yd yp w2 cnt2 hkey hlk hv hat hrg2 hlt hg2 hs2 hen
   obtain ⟨x',ex,rfl,_⟩:=kg Tryz.underlying31 hkey
   obtain rfl:x=x':=tH ex
   have hJ2:J ss w2:=hJ ss wr w2 (some W.heap.size) hJs hg2 (fun r e=>by cases e;exact ⟨Nat.le_refl _,hrg.iter_walk⟩)
   obtain ⟨fn,tmps,assign,body,hy,hR⟩:=hY ss x w2 hJ2 (by omega)
   clear hs2
   gi_wp2
   refine hR.mono ?_
   rintro e W3 ⟨rfl,hJ3,hk3⟩
   gi_wp2
   have hrg3:=hrg2.of_walks hk3
   go_roundw
   case rel=>exact ⟨_,cnt2,ss++ [x],hrg3,by simp;omega,hC.step hlk hat,hJ3⟩
   case measure=>rw [hrg3.left_eq,hrg.left_eq];exact hlt
theorem uP (F:Fence) (n:Nat) (h10:F.fn 134) (hro:F.round=none) (hn:1≤n) (Bm ko b nn:Nat) (D0:DataW Unit) (R:Value→Option (DataW Unit×List MemPlace)) (w:World) (hBm:Bm < w.heap.size)
  (hm:w.cell? ⟨Bm,ko,none⟩=some (.map (some b))) (hown:w.ownsMap Tryz.prog 31 R b nn D0):
  SeqGives F n Tryz.prog 134 #[.pointer (some ⟨Bm,ko,none⟩)] (ly .u64) (fun ss=>ss.Perm (lz D0)) (Maps.size D0) w:=fun l J W hW hJ hY h0=>by
 have hown':W.ownsMap Tryz.prog 31 R b nn D0:=by
  have hbl:=hown.lt
  obtain ⟨es,clock,hb,Ft,hs,hD⟩:=hown
  exact ⟨es,clock,(hW.block b hbl).trans hb,Ft,hs,hD⟩
 exact uO F n h10 hro hn l Bm ko b nn D0 R J hY W hJ ((hW.cell (p:=⟨Bm,ko,none⟩) hBm).trans hm) hown' h0
set_option maxRecDepth 100000 in
set_option maxHeartbeats 1000000 in
theorem uQ (F:Fence) (n:Nat) (h10:F.fn 357) (hro:F.round=none) (hn:1≤n) (l Bm ko b nn:Nat) (D0:DataW Unit) (R:Value→Option (DataW Unit×List MemPlace)) (J:List Int→World→Prop)
  (hY: ∀pre x W,J pre W→pre.length < Maps.size D0→YieldAt F (n - 1) Tryz.prog l #[ly .u64 x] W fun e W'=>e= .returned (.bool true)∧J (pre++ [x]) W'∧KeepsWalks W W')
  (W:World) (hJ:AbidesFrom W.heap.size J) (hm:W.cell? ⟨Bm,ko,none⟩=some (.map (some b))) (hown:W.ownsMap Tryz.prog 31 R b nn D0) (h0:J [] W):
  CallsIn F n Tryz.prog 357 #[.func (.yield l) #[] #[], .pointer (some ⟨Bm,ko,none⟩)] W fun e W'=>(∃v,e= .returned v)∧∃ss:List Int,ss.Perm (lz D0)∧J ss W':=by
 refine callsIn_of_wp Tryz.func357 rfl h10 ?_ hro
 simp only [Tryz.ntmps357,List.size_toArray,List.length_cons,List.length_nil,Nat.reduceAdd,Nat.reduceSub,Array.replicate_succ,Array.replicate_zero,List.push_toArray,List.append_toArray,List.nil_append,List.cons_append]
 gi_wp2_with (first
  | (gi_at_range;refine wpListIn_range_own _ rfl _ 93 rfl 31 147 (int_keyed Tryz.underlying31) Tryz.underlying93 _ b nn _ rfl hown ?_;intro w0 hrg0 hg0 hs0)
  | gi_in)
 go_frame
 gi_loopw [3] (fun _ wr=> ∃(left:Lit→Bool) (cnt:Nat) (ss:List Int),wr.ranges Tryz.prog 31 R b W.heap.size nn D0 left cnt∧ss.length+cnt≤Maps.size D0∧m0 .u64 D0 left ss∧J ss wr)
  (fun _ wr=>wr.rangeLeft b W.heap.size)
 case atStart=>
  exact ⟨_,_,[],hrg0,by simp,m0.start D0,hJ [] W w0 none h0 hg0 (fun r e=>by cases e)⟩
 case round=>
  obtain ⟨left,cnt,ss,hrg,hcs,hC,hJs⟩:=hrel
  gi_wp2_with (first
   | (gi_at_next;refine wpListIn_next_ranges _ rfl _ rfl 31 (int_keyed Tryz.underlying31) R (ly .u64) id (fun key kl hk=>by obtain ⟨x,hx,_⟩:=kg Tryz.underlying31 hk;exact ⟨x,hx⟩) (fun v _ _=>⟨v,rfl⟩) b W.heap.size nn _ _ _ rfl hrg ?_ ?_)
   | gi_in)
  ·intro hc0 hl0
   gi_wp2
   go_end0
   exact ⟨⟨_,rfl⟩,ss,hC.all hown Tryz.underlying31 hl0,hJs⟩
  ·intro x c kl yd yp w2 cnt2 hkey hlk hv hat hrg2 hlt hg2 hs2 hen
   obtain ⟨x',ex,rfl,_⟩:=kg Tryz.underlying31 hkey
   obtain rfl:x=x':=tH ex
   have hJ2:J ss w2:=hJ ss wr w2 (some W.heap.size) hJs hg2 (fun r e=>by cases e;exact ⟨Nat.le_refl _,hrg.iter_walk⟩)
   obtain ⟨fn,tmps,assign,body,hy,hR⟩:=hY ss x w2 hJ2 (by omega)
   clear hs2
   gi_wp2
   refine hR.mono ?_
   rintro e W3 ⟨rfl,hJ3,hk3⟩
   gi_wp2
   have hrg3:=hrg2.of_walks hk3
   go_roundw
   case rel=>exact ⟨_,cnt2,ss++ [x],hrg3,by simp;omega,hC.step hlk hat,hJ3⟩
   case measure=>rw [hrg3.left_eq,hrg.left_eq];exact hlt
theorem uR (F:Fence) (n:Nat) (h10:F.fn 357) (hro:F.round=none) (hn:1≤n) (Bm ko b nn:Nat) (D0:DataW Unit) (R:Value→Option (DataW Unit×List MemPlace)) (w:World) (hBm:Bm < w.heap.size)
  (hm:w.cell? ⟨Bm,ko,none⟩=some (.map (some b))) (hown:w.ownsMap Tryz.prog 31 R b nn D0):
  SeqGives F n Tryz.prog 357 #[.pointer (some ⟨Bm,ko,none⟩)] (ly .u64) (fun ss=>ss.Perm (lz D0)) (Maps.size D0) w:=fun l J W hW hJ hY h0=>by
 have hown':W.ownsMap Tryz.prog 31 R b nn D0:=by
  have hbl:=hown.lt
  obtain ⟨es,clock,hb,Ft,hs,hD⟩:=hown
  exact ⟨es,clock,(hW.block b hbl).trans hb,Ft,hs,hD⟩
 exact uQ F n h10 hro hn l Bm ko b nn D0 R J hY W hJ ((hW.cell (p:=⟨Bm,ko,none⟩) hBm).trans hm) hown' h0
def apAssign:Code:=(Code.region 2 #[{dst:=some 5,op:=Op.assign (Operand.tmp 7),type:=31,pos:= "iter.go:51",after:= #[],guard:=none}] false)
def apBody:Code:=(Code.block 1 (Code.region 3 #[{dst:=some 8,op:=Op.load 32 (Operand.tmp 2),type:=32,pos:= "iter.go:52",after:= #[],guard:=none},{dst:=some 9,op:=Op.move (Operand.tmp 5),type:=31,pos:= "iter.go:52",after:= #[],guard:=none},{dst:=some 10,op:=Op.buildSlice 32 1 #[(0,Operand.tmp 9)],type:=32,pos:= "iter.go:52",after:= #[{on:=1,ground:=Ground.data}],guard:=none},{dst:=some 11,op:=Op.call {callee:=Callee.builtin Builtin.append,args:= #[Operand.tmp 8,Operand.tmp 10],argTypes:= #[32,32]},type:=32,pos:= "iter.go:52",after:= #[{on:=0,ground:=Ground.data},{on:=2,ground:=Ground.data}],guard:=none},{dst:=none,op:=Op.store 32 (Operand.tmp 2) (Operand.tmp 11),type:=0,pos:= "iter.go:52",after:= #[{on:=3,ground:=Ground.data},{on:=3,ground:=Ground.chain},{on:=0,ground:=Ground.phase},{on:=1,ground:=Ground.phase},{on:=2,ground:=Ground.phase},{on:=3,ground:=Ground.phase}],guard:=none}] false))
def apRec (fn:FuncId) (sv:Value) (Bs D:Nat) (st:LoopState) (pend:Option Code):Loop:=
 {state:=st,pending:=pend,fn,tmps:= #[.slice none 0 0,sv, .pointer (some ⟨Bs,0,none⟩),undef, .slice none 0 0,undef,sv,undef,undef,undef,undef,undef,undef],params:= #[7],assign:=apAssign,body:=apBody,defers:=D}
structure ApAt (w0:World) (fn:FuncId) (sv:Value) (Bs l D:Nat) (ss:List Int) (W:World):Prop where
 box: ∃v,W.heap[Bs]? =some (.cells #[v] 32 (0,0))∧W.ownsRow w0.heap.size 31 1 v ss.length (ss.map (ly .u64))∧(v= .slice none 0 0 ↔ ss= [])
 L:W.heap[l]? =some (.loop (apRec fn sv Bs D .ready none))
 K:W.heap[D]? =some (.deferred (some []))
 below:Below w0.heap.size w0 W
theorem ap_abides (w0:World) (fn:FuncId) (sv:Value) (Bs l D B:Nat) (hB:w0.heap.size≤B):AbidesFrom B (ApAt w0 fn sv Bs l D):=fun s W W' row h hg hrow=>by
 have hrow': ∀r,row=some r→∃o:Obj,W.heap[r]? =some o∧o.isWalk=true:=fun r e=>(hrow r e).2
 obtain ⟨v,hv,hr,hn⟩:=h.box
 exact ⟨⟨v,(grownBy_keeps hg hrow' hv rfl).trans hv,ownsRow_abides_a hr hg hrow',hn⟩,(grownBy_keeps hg hrow' h.L rfl).trans h.L,(grownBy_keeps hg hrow' h.K rfl).trans h.K,
  h.below.grown hg h.below.size (fun k e=>Nat.le_trans hB (hrow k e).1)⟩
theorem L7:(Tryz.prog.info? 31).map (fun i=>(i.zero,i.size,i.bytes))=some (some (.int .u64 0),1,8):=by kernel_rfl
set_option maxRecDepth 100000 in
set_option maxHeartbeats 2000000 in
theorem apYield (F:Fence) (m:Nat) (w0:World) (fn:FuncId) (hfn:F.fn fn) (sv:Value) (Bs l D:Nat) (hBl:Bs≠l) (hDl:D≠l) (hDB:D≠Bs) (h0B:w0.heap.size≤Bs) (h0l:w0.heap.size≤l)
  (N:Nat) (hN:N≤maxLen) (hNb:N*8≤140737488355328) (ss:List Int) (x:Int) (W:World) (h:ApAt w0 fn sv Bs l D ss W) (hlen:ss.length < N):
  YieldAt F m Tryz.prog l #[ly .u64 x] W fun e W'=>e= .returned (.bool true)∧ApAt w0 fn sv Bs l D (ss++ [x]) W'∧KeepsWalks W W':=by
 obtain ⟨i0,hi,hz0,hz1,hz2⟩:=info_parts L7
 obtain ⟨v,hv,hrow,_⟩:=h.box
 refine ⟨fn, #[.slice none 0 0,sv, .pointer (some ⟨Bs,0,none⟩),undef, .slice none 0 0,undef,sv,ly .u64 x,undef,undef,undef,undef,undef],apAssign,apBody,by simpa [apRec] using run_yield (P:=Tryz.prog) (args:= #[ly .u64 x]) h.L rfl,roundIn_of_wpIn hfn ?_⟩
 have hl:l < W.heap.size:=(Array.getElem?_eq_some_iff.1 h.L).1
 have hbr:=run_beginRound (P:=Tryz.prog) h.L rfl
 obtain ⟨W2,hW2⟩: ∃W2,W.putObj l (.loop {apRec fn sv Bs D .ready none with state:= .busy})=W2:=⟨_,rfl⟩
 rw [hW2] at hbr
 have hg2:W.grownBy W2 (some l):=by rw [←hW2];exact grownBy_putObj_a _ _ _
 have hk2:KeepsWalks W W2:=by rw [←hW2];exact KeepsWalks.putObj _ h.L rfl
 have hv2:W2.heap[Bs]? =some (.cells #[v] 32 (0,0)):=by rw [←hW2];exact (World.putObj_heap_other hBl).trans hv
 have hK2:W2.heap[D]? =some (.deferred (some [])):=by rw [←hW2];exact (World.putObj_heap_other hDl).trans h.K
 have hL2:W2.heap[l]? =some (.loop {apRec fn sv Bs D .ready none with state:= .busy}):=by rw [←hW2];exact World.putObj_heap_same hl
 have hrow2:W2.ownsRow w0.heap.size 31 1 v ss.length (ss.map (ly .u64)):=hrow.kept hg2 (ownsRow_ne_a hrow h.L (fun cur e=>by cases e))
 have hb2:Below w0.heap.size w0 W2:=h.below.grown hg2 h.below.size (fun k e=>by cases e;exact h0l)
 obtain ⟨hc2,hf2⟩:=cell_of_box_a hv2
 have hBlt:Bs < W2.heap.size:=(Array.getElem?_eq_some_iff.1 hv2).1
 have hl2:l < W2.heap.size:=(Array.getElem?_eq_some_iff.1 hL2).1
 have hDlt:D < W2.heap.size:=(Array.getElem?_eq_some_iff.1 hK2).1
 have ne_of: ∀{j:Nat} {o:Obj},W2.heap[j]? =some o→(∀cur,o≠ .cells cur 31 (0,0))→some j≠v.ownBlock:=fun hj hno=>by
  rcases ownsRow_ne_a hrow2 hj hno with e | e
  ·rw [e];simp
  ·exact fun e'=>e e'.symm
 clear hW2
 unfold apAssign
 gi_wp2_with (rw [Oper.semAt_eq _ _ _ (fun c h=>by cases h)];go_simp;try go_bits)
 unfold apBody
 gi_wp2_with (first
  | (gi_at_builtin;refine wpListIn_append_own _ rfl _ _ 32 rfl w0.heap.size 31 i0 (.int .u64 0) 1 8 Tryz.underlying32 hi hz0 hz1 hz2 rfl (by decide) _ _ _ rfl (hrow2.alloc _) ⟨W2.heap.size,0,none⟩ 1 1 [ly .u64 x] rfl rfl (cell_one_new _ _ _) (by simp [Value.oneCell',ly]) (by omega) (by omega) (by have:=hb2.size;simp;omega) ?_;intro v' w3 hown' hg3 hnil3
     have hv3:w3.heap[Bs]? =some (.cells #[v] 32 (0,0)):=(hg3.block Bs (by simp;omega) (ne_of hv2 (fun cur e=>by cases e))).trans ((Below.heap_alloc _ _ Bs hBlt).trans hv2)
     obtain ⟨hc3,hf3⟩:=cell_of_box_a hv3
     obtain ⟨g',cap',cur',rfl,hbase',hgb',hr1,hr2,hr3,hr4⟩: ∃g' cap' cur',v'= .slice (some ⟨g',0,none⟩) (ss.length+1) cap'∧w0.heap.size≤g'∧w3.heap[g']? =some (.cells cur' 31 (0,0))∧ss.length+1≤cap'∧cap'≤maxLen∧cur'.size=cap'*1∧cur'.toList.take ((ss.length+1)*1)=ss.map (ly .u64)++ [ly .u64 x] :=by
      rcases hown'.2 with ⟨_,h0⟩ | h'
      ·exact absurd h0 (by omega)
      ·exact h'
     go_frame)
  | (rw [Oper.semAt_eq _ _ _ (fun c h=>by cases h)];go_simp;try go_bits))
 have hg3':(W2.alloc (.cells #[ly .u64 x] 31)).grownBy w3 v.ownBlock:=hg3
 have hL3:w3.heap[l]? =some (.loop {apRec fn sv Bs D .ready none with state:= .busy}):=(hg3'.block l (by simp;omega) (ne_of hL2 (fun cur e=>by cases e))).trans ((Below.heap_alloc _ _ l hl2).trans hL2)
 have hK3:w3.heap[D]? =some (.deferred (some [])):=(hg3'.block D (by simp;omega) (ne_of hK2 (fun cur e=>by cases e))).trans ((Below.heap_alloc _ _ D hDlt).trans hK2)
 obtain ⟨w4,hw4⟩: ∃w4,w3.setCell ⟨Bs,0,none⟩ (.slice (some ⟨g',0,none⟩) (ss.length+1) cap')=w4:=⟨_,rfl⟩
 rw [hw4]
 have hg4:w3.grownBy w4 (some Bs):=by rw [←hw4];exact grownBy_setCell0_a _ _ _
 have hv4:w4.heap[Bs]? =some (.cells #[.slice (some ⟨g',0,none⟩) (ss.length+1) cap'] 32 (0,0)):=by rw [←hw4];exact heap_setCell_box_a _ hv3
 have hL4:w4.heap[l]? =some (.loop {apRec fn sv Bs D .ready none with state:= .busy}):=(hg4.block l (Array.getElem?_eq_some_iff.1 hL3).1 (fun e=>hBl (by cases e;rfl))).trans hL3
 have hK4:w4.heap[D]? =some (.deferred (some [])):=(hg4.block D (Array.getElem?_eq_some_iff.1 hK3).1 (fun e=>hDB (by cases e;rfl))).trans hK3
 have hrow4:=hown'.kept hg4 (ownsRow_ne_a hown' hv3 (fun cur e=>by cases e))
 have hl4:l < w4.heap.size:=(Array.getElem?_eq_some_iff.1 hL4).1
 have hb3:Below w0.heap.size w0 w3:=(hb2.alloc hb2.size _).grown hg3' (by have:=hb2.size;simp;omega) (fun k e=>(hrow2.lt k e).1)
 have hb4:Below w0.heap.size w0 w4:=hb3.grown hg4 hb3.size (fun k e=>by cases e;exact h0B)
 have hk4:KeepsWalks W w4:=((hk2.trans (KeepsWalks.alloc _ _)).trans (KeepsWalks.of_grownBy hg3' (ownsRow_not_walk_a (hrow2.alloc _)))).trans (by rw [←hw4];exact KeepsWalks.setCell _ _ _)
 clear hw4
 refine ⟨_,_,run_endRound none hL4,rfl,⟨⟨_,(World.putObj_heap_other hBl).trans hv4,?_,by simp⟩,World.putObj_heap_same hl4,(World.putObj_heap_other hDl).trans hK4,hb4.grown (grownBy_putObj_a _ _ _) hb4.size (fun k e=>by cases e;exact h0l)⟩,hk4.trans (KeepsWalks.putObj _ hL4 rfl)⟩
 have:=hrow4.kept (grownBy_putObj_a w4 l (.loop {{apRec fn sv Bs D .ready none with state:= .busy} with state:=if (none:Option Code).isNone then .ready else .done,pending:=none})) (ownsRow_ne_a hrow4 hL4 (fun cur e=>by cases e))
 simpa using this
set_option maxRecDepth 100000 in
set_option maxHeartbeats 2000000 in
theorem appendSeq_in (F:Fence) (n:Nat) (h11:F.fn 173) (hro:F.round=none) (hn:2≤n) (g:Nat) (lb:Array Value) (hFg:F.fn g) (eg: ∀args w,(callFunc g args).run Tryz.prog w= .ok (.enter g args) w)
  (S:List Int→Prop) (N:Nat) (hN:N≤maxLen) (hNb:N*8≤140737488355328) (w:World) (hseq:SeqGives F (n - 1) Tryz.prog g lb (ly .u64) S N w):
  CallsIn F n Tryz.prog 173 #[.slice none 0 0, .func (.func g) #[] lb] w fun e w'=> ∃(v:Value) (ss:List Int),e= .returned v∧S ss∧w'.ownsRow w.heap.size 31 1 v ss.length (ss.map (ly .u64))∧(v= .slice none 0 0 ↔ ss= [])∧Below w.heap.size w w':=by
 have h1:1≤n:=by omega
 refine callsIn_of_wp_marks Tryz.func173 rfl h11 ?_ hro
 simp only [Tryz.ntmps173,List.size_toArray,List.length_cons,List.length_nil,Nat.reduceAdd,Nat.reduceSub,Array.replicate_succ,Array.replicate_zero,List.push_toArray,List.append_toArray,List.nil_append,List.cons_append]
 gi_wp2
 refine wpIn_rangeFunc ?_
 intro fn hfn
 rw [hro]
 obtain ⟨W0,hW0⟩: ∃W0,w.alloc (.cells #[.slice none 0 0] 32)=W0:=⟨_,rfl⟩
 have hs0:W0.heap.size=w.heap.size+1:=by rw [←hW0];simp
 have hv0:W0.heap[w.heap.size]? =some (.cells #[.slice none 0 0] 32 (0,0)):=by rw [←hW0];exact World.alloc_heap_new w _
 have hb0:Below w.heap.size w W0:=by rw [←hW0];exact (Below.refl _ w).alloc (Nat.le_refl _) _
 rw [hW0]
 obtain ⟨W1,hW1⟩: ∃W1,(W0.alloc (.deferred (some []))).alloc (.loop (apRec fn (.func (.func g) #[] lb) w.heap.size W0.heap.size .ready none))=W1:=⟨_,rfl⟩
 have hold: ∀k,k < W0.heap.size→W1.heap[k]? =W0.heap[k]? :=fun k hk=>by
  rw [←hW1];exact (Below.heap_alloc _ _ k (by simp;omega)).trans (Below.heap_alloc _ _ k hk)
 have hb1:Below w.heap.size w W1:=by rw [←hW1];exact (hb0.alloc hb0.size _).alloc (by have:=hb0.size;simp;omega) _
 have hs1:W1.heap.size=W0.heap.size+2:=by rw [←hW1];simp
 have hM:ApAt w fn (.func (.func g) #[] lb) w.heap.size (W0.heap.size+1) W0.heap.size [] W1:=
  ⟨⟨_,(hold w.heap.size (by omega)).trans hv0,⟨rfl, .inl ⟨rfl,rfl⟩⟩,by simp⟩,
   by rw [←hW1];have:=World.alloc_heap_new (W0.alloc (.deferred (some []))) (.loop (apRec fn (.func (.func g) #[] lb) w.heap.size W0.heap.size .ready none));rwa [World.size_alloc] at this,
   by rw [←hW1];exact (Below.heap_alloc _ _ _ (by simp)).trans (World.alloc_heap_new W0 _),hb1⟩
 refine ⟨W0.heap.size+1,[{target:= .collected W0.heap.size,args:= #[]}],W1,{target:= .fn (.func g) lb,args:= #[.func (.yield (W0.heap.size+1)) #[] #[]]},W1,g,
  #[.func (.yield (W0.heap.size+1)) #[] #[]] ++lb,W1,?_,?_,?_,?_,fun _=>h1,?_⟩
 ·rw [←hW1];exact run_enterLoop_outer _ _ _ _ _
 ·simp [resolve,go_sem]
 ·intro f' hf';simp [Target.leads] at hf';subst hf';exact hFg
 ·simp [invoke,go_sem,eg]
 ·refine (hseq (W0.heap.size+1) (ApAt w fn (.func (.func g) #[] lb) w.heap.size (W0.heap.size+1) W0.heap.size) W1 hb1 (ap_abides _ _ _ _ _ _ _ hb1.size)
   (fun pre x W hJ hl=>apYield F (n - 1 - 1) w fn hfn _ w.heap.size (W0.heap.size+1) W0.heap.size (by omega) (by omega) (by omega) (Nat.le_refl _) (by omega) N hN hNb pre x W hJ hl) hM).mono ?_
  rintro e W2 ⟨⟨v0,rfl⟩,ss,hS,h2⟩
  obtain ⟨v,hv,hrow,hnil⟩:=h2.box
  have hend:=run_endLoop (P:=Tryz.prog) h2.L (by simp [apRec])
  obtain ⟨W3,hW3⟩: ∃W3,W2.putObj (W0.heap.size+1) (.loop {apRec fn (.func (.func g) #[] lb) w.heap.size W0.heap.size .ready none with state:= .exhausted})=W3:=⟨_,rfl⟩
  rw [hW3] at hend
  have hg3:W2.grownBy W3 (some (W0.heap.size+1)):=by rw [←hW3];exact grownBy_putObj_a _ _ _
  have hv3:W3.heap[w.heap.size]? =some (.cells #[v] 32 (0,0)):=by rw [←hW3];exact (World.putObj_heap_other (by omega)).trans hv
  have hK3:W3.heap[W0.heap.size]? =some (.deferred (some [])):=by rw [←hW3];exact (World.putObj_heap_other (by omega)).trans h2.K
  have hrow3:=hrow.kept hg3 (ownsRow_ne_a hrow h2.L (fun cur e=>by cases e))
  have hb3:Below w.heap.size w W3:=h2.below.grown hg3 h2.below.size (fun k e=>by cases e;omega)
  obtain ⟨hc3,hf3⟩:=cell_of_box_a hv3
  clear hW3
  refine ⟨none,W3,hend,?_⟩
  gi_wp2
  rw [←hs0]
  refine ⟨by simp, .inl ⟨_,_,rfl,run_takeDeferred hK3,?_⟩⟩
  exact ⟨_,results_tmp rfl _ _ _,v,ss,rfl,hS,hrow3.kept (grownBy_putObj_a _ _ _) (ownsRow_ne_a hrow3 hK3 (fun cur e=>by cases e)),hnil,hb3.grown (grownBy_putObj_a _ _ _) hb3.size (fun k e=>by cases e;omega)⟩
set_option maxHeartbeats 1000000 in
theorem collect_in (F:Fence) (n:Nat) (h8:F.fn 132) (h11:F.fn 173) (hro:F.round=none) (hn:3≤n) (g:Nat) (lb:Array Value) (hFg:F.fn g) (eg: ∀args w,(callFunc g args).run Tryz.prog w= .ok (.enter g args) w)
  (S:List Int→Prop) (N:Nat) (hN:N≤maxLen) (hNb:N*8≤140737488355328) (w:World) (hseq:SeqGives F (n - 1 - 1) Tryz.prog g lb (ly .u64) S N w):
  CallsIn F n Tryz.prog 132 #[.func (.func g) #[] lb] w fun e w'=> ∃(v:Value) (ss:List Int),e= .returned v∧S ss∧w'.ownsRow w.heap.size 31 1 v ss.length (ss.map (ly .u64))∧(v= .slice none 0 0 ↔ ss= [])∧Below w.heap.size w w':=by
 have h1:1≤n:=by omega
 refine callsIn_of_wp Tryz.func132 rfl h8 ?_ hro
 simp only [Tryz.ntmps132,List.size_toArray,List.length_cons,List.length_nil,Nat.reduceAdd,Nat.reduceSub,Array.replicate_succ,Array.replicate_zero,List.push_toArray,List.append_toArray,List.nil_append,List.cons_append]
 gi_wp2_with (gi_at_call 173;refine (appendSeq_in F (n - 1) h11 hro (by omega) g lb hFg eg S N hN hNb _ hseq).mono ?_;rintro e w' ⟨v,ss,rfl,hS,hrow,hnil,hb⟩)
 go_ret
 exact ⟨v,ss,rfl,hS,hrow,hnil,hb⟩
end Go.Proofs.YtfcljjhlijolgaaGreatDoor
end
section
set_option linter.unusedVariables false
set_option linter.unusedSimpArgs false
namespace Go.Proofs.YtfcljjhlijolgaaGreatDoor
open Go Go.RowKit Go.Maps Go.Sort Go.Shelf Eng
abbrev lF (d:Nat):aJ:=kZ TA (ae Tryz.prog (ab Tryz.prog)) 100000 d
def ki:AC:=(.seq (.seq (.drawn [⟨[(⟨(some 16), .q (.move (.tmp 7)),none⟩,0),(⟨(some 17), .q (.move (.tmp 1)),none⟩,0),(⟨(some 18), .q (.bin .gtr (.tmp 16) (.tmp 17)),none⟩,0),(⟨(some 19), .q (.move (.tmp 18)),none⟩,0),(⟨(some 20), .q (.move (.tmp 0)),(some (19,true))⟩,0),(⟨(some 21), .q (.move (.tmp 7)),(some (19,true))⟩,0),(⟨(some 22), .q (.idxAddrSl 1 (.tmp 20) (.tmp 21)),(some (19,true))⟩,0),(⟨(some 23), .q (.loadS (.tmp 22)),(some (19,true))⟩,0),(⟨(some 24), .q (.move (.tmp 0)),(some (19,true))⟩,0),(⟨(some 25), .q (.move (.tmp 7)),(some (19,true))⟩,0),(⟨(some 26), .q (.bin .sub (.tmp 25) (.const (AV.int .i64 (Int.ofNat 1)))),(some (19,true))⟩,0),(⟨(some 27), .q (.idxAddrSl 1 (.tmp 24) (.tmp 26)),(some (19,true))⟩,0),(⟨(some 28), .q (.loadS (.tmp 27)),(some (19,true))⟩,0)],(some ⟨(some 29), .e (.call (.const (AV.func (.func 238) [] [])) [(.tmp 23),(.tmp 28)]),(some (19,true))⟩)⟩,⟨[(⟨(some 30), .q (.pick (.tmp 19) (.tmp 29) (.const (AV.bool false))),none⟩,1)],none⟩]) (.cond (.tmp 30) .skip (.exit 2))) (.seq (.block 3 (.drawn [⟨[(⟨(some 33), .q (.move (.tmp 0)),none⟩,0),(⟨(some 34), .q (.move (.tmp 7)),none⟩,0),(⟨(some 35), .q (.move (.tmp 0)),none⟩,1),(⟨(some 36), .q (.move (.tmp 7)),none⟩,1),(⟨(some 37), .q (.bin .sub (.tmp 36) (.const (AV.int .i64 (Int.ofNat 1)))),none⟩,1),(⟨(some 38), .q (.move (.tmp 0)),none⟩,0),(⟨(some 39), .q (.move (.tmp 7)),none⟩,0),(⟨(some 40), .q (.bin .sub (.tmp 39) (.const (AV.int .i64 (Int.ofNat 1)))),none⟩,0),(⟨(some 41), .q (.idxAddrSl 1 (.tmp 38) (.tmp 40)),none⟩,0),(⟨(some 42), .q (.loadS (.tmp 41)),none⟩,0),(⟨(some 43), .q (.move (.tmp 0)),none⟩,0),(⟨(some 44), .q (.move (.tmp 7)),none⟩,0),(⟨(some 45), .q (.idxAddrSl 1 (.tmp 43) (.tmp 44)),none⟩,0),(⟨(some 46), .q (.loadS (.tmp 45)),none⟩,0),(⟨(some 47), .q (.idxAddrSl 1 (.tmp 33) (.tmp 34)),none⟩,0)],(some ⟨none, .e (.store 1 (.tmp 47) (.tmp 42)),none⟩)⟩,⟨[(⟨(some 48), .q (.idxAddrSl 1 (.tmp 35) (.tmp 37)),none⟩,1)],(some ⟨none, .e (.store 1 (.tmp 48) (.tmp 46)),none⟩)⟩,⟨[],none⟩])) (.region [⟨(some 31), .q (.move (.tmp 7)),none⟩,⟨(some 32), .q (.bin .sub (.tmp 31) (.const (AV.int .i64 (Int.ofNat 1)))),none⟩,⟨(some 7), .q (.move (.tmp 32)),none⟩])))
theorem qz {call:aJ} {N:Nat} {t:T} {h:Hp} {n i0:Nat} {res:List Int} (hn:n≤12) (hless: ∀(x y:Int) (h:Hp),call 238 [.int .u64 x, .int .u64 y] h= .ok (.bool (eC x y)) h) {L:List Int} {j:Nat} (hi:(fun (z:List Int×Nat) (h':Hp)=>h'=hS .u64 z.1∧z.2 < n∧z.1.length=n∧sink z.1 z.2=res) (L,j) h)
  : ∃s,ct call N ki (iR [(0,(AV.slice 0 0 n n 1 false)),(1,(AV.int .i64 (Int.ofNat 0))),(2,(AV.int .i64 (Int.ofNat n))),(6,(AV.int .i64 (Int.ofNat i0))),(7,(AV.int .i64 (Int.ofNat j)))] t) h=s∧dH [0,1,2,6,7] (fun ls h'=> ∃y,ls=((fun (z:List Int×Nat)=>[(0,(AV.slice 0 0 n n 1 false)),(1,(AV.int .i64 (Int.ofNat 0))),(2,(AV.int .i64 (Int.ofNat n))),(6,(AV.int .i64 (Int.ofNat i0))),(7,(AV.int .i64 (Int.ofNat z.2)))]) y).map (fun p=>some p.2)∧(fun (z:List Int×Nat) (h':Hp)=>h'=hS .u64 z.1∧z.2 < n∧z.1.length=n∧sink z.1 z.2=res) y h'∧(fun (z:List Int×Nat)=>z.2) y < (fun (z:List Int×Nat)=>z.2) (L,j)) (fun i ls h'=> ∃y,ls=((fun (z:List Int×Nat)=>[(0,(AV.slice 0 0 n n 1 false)),(1,(AV.int .i64 (Int.ofNat 0))),(2,(AV.int .i64 (Int.ofNat n))),(6,(AV.int .i64 (Int.ofNat i0))),(7,(AV.int .i64 (Int.ofNat z.2)))]) y).map (fun p=>some p.2)∧(fun (i:Nat) (z:List Int×Nat) (h':Hp)=>(i=2)∧(i=2→h'=hS .u64 z.1∧z.1=res)) i y h') (fun ls h'=>(fun (ls:List (Option AV)) (h':Hp)=>False) ls h') s:=by
 have hi:h=hS .u64 L∧j < n∧L.length=n∧sink L j=res:=hi
 obtain ⟨rfl,hjn,hLn,hres⟩:=hi
 refine tF (o:=(.fork 3 (.tell 2 (AV.ptr 0 (0+j*1)) (.tell 0 (AV.int .u64 (L.getD j 0)) (.tell 2 (AV.int .i64 (Int.ofNat (j - 1))) (.tell 0 (AV.ptr 0 (0+(j - 1)*1)) (.tell 0 (AV.int .u64 (L.getD (j - 1) 0)) (.again 0 (.gV 0 (AV.bool (eC (L.getD j 0) (L.getD (j - 1) 0))) (hS .u64 L) (.fork 0 (.again 0 (.tell 4 (AV.int .i64 (Int.ofNat (j - 1))) (.tell 2 (AV.int .i64 (Int.ofNat (j - 1))) (.tell 0 (AV.ptr 0 (0+(j - 1)*1)) (.tell 0 (AV.int .u64 (L.getD (j - 1) 0)) (.tell 2 (AV.ptr 0 (0+j*1)) (.tell 0 (AV.int .u64 (L.getD j 0)) (.tell 0 (AV.ptr 0 (0+j*1)) (.again 0 (.gV 0 (AV.tuple []) (hS .u64 (L.set j (L.getD (j - 1) 0))) (.tell 0 (AV.ptr 0 (0+(j - 1)*1)) (.again 0 (.gV 0 (AV.tuple []) (hS .u64 ((L.set j (L.getD (j - 1) 0)).set (j - 1) (L.getD j 0))) (.tell 2 (AV.int .i64 (Int.ofNat (j - 1))) .fin)))))))))))))) (.again 0 .fin))))))))) (.again 0 .fin))) (p:=((eC (Int.ofNat 0) (Int.ofNat j)=true→(aq (.idxAddrSl 1 (.const (AV.slice 0 0 n n 1 false)) (.const (AV.int .i64 (Int.ofNat j)))) .lf H0= .ok (AV.ptr 0 (0+j*1))∧(aq (.loadS (.const (AV.ptr 0 (0+j*1)))) .lf (hS .u64 L)= .ok (AV.int .u64 (L.getD j 0))∧(aq (.bin .sub (.const (AV.int .i64 (Int.ofNat j))) (.const (AV.int .i64 (Int.ofNat 1)))) .lf H0= .ok (AV.int .i64 (Int.ofNat (j - 1)))∧(aq (.idxAddrSl 1 (.const (AV.slice 0 0 n n 1 false)) (.const (AV.int .i64 (Int.ofNat (j - 1))))) .lf H0= .ok (AV.ptr 0 (0+(j - 1)*1))∧(aq (.loadS (.const (AV.ptr 0 (0+(j - 1)*1)))) .lf (hS .u64 L)= .ok (AV.int .u64 (L.getD (j - 1) 0))∧((again (.loadS (.const (AV.ptr 0 (0+(j - 1)*1)))) .lf (AV.int .u64 (L.getD (j - 1) 0)) (hS .u64 L)=true∧again (.idxAddrSl 1 (.const (AV.slice 0 0 n n 1 false)) (.const (AV.int .i64 (Int.ofNat (j - 1))))) .lf (AV.ptr 0 (0+(j - 1)*1)) (hS .u64 L)=true∧again (.bin .sub (.const (AV.int .i64 (Int.ofNat j))) (.const (AV.int .i64 (Int.ofNat 1)))) .lf (AV.int .i64 (Int.ofNat (j - 1))) (hS .u64 L)=true∧again (.move (.const (AV.int .i64 (Int.ofNat j)))) .lf (AV.int .i64 (Int.ofNat j)) (hS .u64 L)=true∧again (.move (.const (AV.slice 0 0 n n 1 false))) .lf (AV.slice 0 0 n n 1 false) (hS .u64 L)=true∧again (.loadS (.const (AV.ptr 0 (0+j*1)))) .lf (AV.int .u64 (L.getD j 0)) (hS .u64 L)=true∧again (.idxAddrSl 1 (.const (AV.slice 0 0 n n 1 false)) (.const (AV.int .i64 (Int.ofNat j)))) .lf (AV.ptr 0 (0+j*1)) (hS .u64 L)=true∧again (.move (.const (AV.int .i64 (Int.ofNat j)))) .lf (AV.int .i64 (Int.ofNat j)) (hS .u64 L)=true∧again (.move (.const (AV.slice 0 0 n n 1 false))) .lf (AV.slice 0 0 n n 1 false) (hS .u64 L)=true∧again (.move (.const (AV.bool (eC (Int.ofNat 0) (Int.ofNat j))))) .lf (AV.bool true) (hS .u64 L)=true∧again (.bin .gtr (.const (AV.int .i64 (Int.ofNat j))) (.const (AV.int .i64 (Int.ofNat 0)))) .lf (AV.bool (eC (Int.ofNat 0) (Int.ofNat j))) (hS .u64 L)=true∧again (.move (.const (AV.int .i64 (Int.ofNat 0)))) .lf (AV.int .i64 (Int.ofNat 0)) (hS .u64 L)=true∧again (.move (.const (AV.int .i64 (Int.ofNat j)))) .lf (AV.int .i64 (Int.ofNat j)) (hS .u64 L)=true∧True)∧(call 238 [(AV.int .u64 (L.getD j 0)),(AV.int .u64 (L.getD (j - 1) 0))] (hS .u64 L)= .ok (AV.bool (eC (L.getD j 0) (L.getD (j - 1) 0))) (hS .u64 L)∧((eC (L.getD j 0) (L.getD (j - 1) 0)=true→((again (.pick (.const (AV.bool true)) (.const (AV.bool (eC (L.getD j 0) (L.getD (j - 1) 0)))) (.const (AV.bool false))) .lf (AV.bool true) (hS .u64 L)=true∧True)∧(aq (.bin .sub (.const (AV.int .i64 (Int.ofNat j))) (.const (AV.int .i64 (Int.ofNat 1)))) .lf H0= .ok (AV.int .i64 (Int.ofNat (j - 1)))∧(aq (.bin .sub (.const (AV.int .i64 (Int.ofNat j))) (.const (AV.int .i64 (Int.ofNat 1)))) .lf H0= .ok (AV.int .i64 (Int.ofNat (j - 1)))∧(aq (.idxAddrSl 1 (.const (AV.slice 0 0 n n 1 false)) (.const (AV.int .i64 (Int.ofNat (j - 1))))) .lf H0= .ok (AV.ptr 0 (0+(j - 1)*1))∧(aq (.loadS (.const (AV.ptr 0 (0+(j - 1)*1)))) .lf (hS .u64 L)= .ok (AV.int .u64 (L.getD (j - 1) 0))∧(aq (.idxAddrSl 1 (.const (AV.slice 0 0 n n 1 false)) (.const (AV.int .i64 (Int.ofNat j)))) .lf H0= .ok (AV.ptr 0 (0+j*1))∧(aq (.loadS (.const (AV.ptr 0 (0+j*1)))) .lf (hS .u64 L)= .ok (AV.int .u64 (L.getD j 0))∧(aq (.idxAddrSl 1 (.const (AV.slice 0 0 n n 1 false)) (.const (AV.int .i64 (Int.ofNat j)))) .lf H0= .ok (AV.ptr 0 (0+j*1))∧((again (.idxAddrSl 1 (.const (AV.slice 0 0 n n 1 false)) (.const (AV.int .i64 (Int.ofNat j)))) .lf (AV.ptr 0 (0+j*1)) (hS .u64 L)=true∧again (.loadS (.const (AV.ptr 0 (0+j*1)))) .lf (AV.int .u64 (L.getD j 0)) (hS .u64 L)=true∧again (.idxAddrSl 1 (.const (AV.slice 0 0 n n 1 false)) (.const (AV.int .i64 (Int.ofNat j)))) .lf (AV.ptr 0 (0+j*1)) (hS .u64 L)=true∧again (.move (.const (AV.int .i64 (Int.ofNat j)))) .lf (AV.int .i64 (Int.ofNat j)) (hS .u64 L)=true∧again (.move (.const (AV.slice 0 0 n n 1 false))) .lf (AV.slice 0 0 n n 1 false) (hS .u64 L)=true∧again (.loadS (.const (AV.ptr 0 (0+(j - 1)*1)))) .lf (AV.int .u64 (L.getD (j - 1) 0)) (hS .u64 L)=true∧again (.idxAddrSl 1 (.const (AV.slice 0 0 n n 1 false)) (.const (AV.int .i64 (Int.ofNat (j - 1))))) .lf (AV.ptr 0 (0+(j - 1)*1)) (hS .u64 L)=true∧again (.bin .sub (.const (AV.int .i64 (Int.ofNat j))) (.const (AV.int .i64 (Int.ofNat 1)))) .lf (AV.int .i64 (Int.ofNat (j - 1))) (hS .u64 L)=true∧again (.move (.const (AV.int .i64 (Int.ofNat j)))) .lf (AV.int .i64 (Int.ofNat j)) (hS .u64 L)=true∧again (.move (.const (AV.slice 0 0 n n 1 false))) .lf (AV.slice 0 0 n n 1 false) (hS .u64 L)=true∧again (.bin .sub (.const (AV.int .i64 (Int.ofNat j))) (.const (AV.int .i64 (Int.ofNat 1)))) .lf (AV.int .i64 (Int.ofNat (j - 1))) (hS .u64 L)=true∧again (.move (.const (AV.int .i64 (Int.ofNat j)))) .lf (AV.int .i64 (Int.ofNat j)) (hS .u64 L)=true∧again (.move (.const (AV.slice 0 0 n n 1 false))) .lf (AV.slice 0 0 n n 1 false) (hS .u64 L)=true∧again (.move (.const (AV.int .i64 (Int.ofNat j)))) .lf (AV.int .i64 (Int.ofNat j)) (hS .u64 L)=true∧again (.move (.const (AV.slice 0 0 n n 1 false))) .lf (AV.slice 0 0 n n 1 false) (hS .u64 L)=true∧True)∧(pQ (.store 1 (.const (AV.ptr 0 (0+j*1))) (.const (AV.int .u64 (L.getD (j - 1) 0)))) call .lf (hS .u64 L)= .ok (AV.tuple []) (hS .u64 (L.set j (L.getD (j - 1) 0)))∧(aq (.idxAddrSl 1 (.const (AV.slice 0 0 n n 1 false)) (.const (AV.int .i64 (Int.ofNat (j - 1))))) .lf H0= .ok (AV.ptr 0 (0+(j - 1)*1))∧((again (.idxAddrSl 1 (.const (AV.slice 0 0 n n 1 false)) (.const (AV.int .i64 (Int.ofNat (j - 1))))) .lf (AV.ptr 0 (0+(j - 1)*1)) (hS .u64 (L.set j (L.getD (j - 1) 0)))=true∧again (.bin .sub (.const (AV.int .i64 (Int.ofNat j))) (.const (AV.int .i64 (Int.ofNat 1)))) .lf (AV.int .i64 (Int.ofNat (j - 1))) (hS .u64 (L.set j (L.getD (j - 1) 0)))=true∧again (.move (.const (AV.int .i64 (Int.ofNat j)))) .lf (AV.int .i64 (Int.ofNat j)) (hS .u64 (L.set j (L.getD (j - 1) 0)))=true∧again (.move (.const (AV.slice 0 0 n n 1 false))) .lf (AV.slice 0 0 n n 1 false) (hS .u64 (L.set j (L.getD (j - 1) 0)))=true∧True)∧(pQ (.store 1 (.const (AV.ptr 0 (0+(j - 1)*1))) (.const (AV.int .u64 (L.getD j 0)))) call .lf (hS .u64 (L.set j (L.getD (j - 1) 0)))= .ok (AV.tuple []) (hS .u64 ((L.set j (L.getD (j - 1) 0)).set (j - 1) (L.getD j 0)))∧(aq (.bin .sub (.const (AV.int .i64 (Int.ofNat j))) (.const (AV.int .i64 (Int.ofNat 1)))) .lf H0= .ok (AV.int .i64 (Int.ofNat (j - 1)))∧((fun ls h'=> ∃y,ls=((fun (z:List Int×Nat)=>[(0,(AV.slice 0 0 n n 1 false)),(1,(AV.int .i64 (Int.ofNat 0))),(2,(AV.int .i64 (Int.ofNat n))),(6,(AV.int .i64 (Int.ofNat i0))),(7,(AV.int .i64 (Int.ofNat z.2)))]) y).map (fun p=>some p.2)∧(fun (z:List Int×Nat) (h':Hp)=>h'=hS .u64 z.1∧z.2 < n∧z.1.length=n∧sink z.1 z.2=res) y h'∧(fun (z:List Int×Nat)=>z.2) y < (fun (z:List Int×Nat)=>z.2) (L,j)):List (Option AV)→Hp→Prop) [some (AV.slice 0 0 n n 1 false),some (AV.int .i64 (Int.ofNat 0)),some (AV.int .i64 (Int.ofNat n)),some (AV.int .i64 (Int.ofNat i0)),some (AV.int .i64 (Int.ofNat (j - 1)))] (hS .u64 ((L.set j (L.getD (j - 1) 0)).set (j - 1) (L.getD j 0))))))))))))))))))∧(eC (L.getD j 0) (L.getD (j - 1) 0)=false→((again (.pick (.const (AV.bool true)) (.const (AV.bool (eC (L.getD j 0) (L.getD (j - 1) 0)))) (.const (AV.bool false))) .lf (AV.bool false) (hS .u64 L)=true∧True)∧((fun i ls h'=> ∃y,ls=((fun (z:List Int×Nat)=>[(0,(AV.slice 0 0 n n 1 false)),(1,(AV.int .i64 (Int.ofNat 0))),(2,(AV.int .i64 (Int.ofNat n))),(6,(AV.int .i64 (Int.ofNat i0))),(7,(AV.int .i64 (Int.ofNat z.2)))]) y).map (fun p=>some p.2)∧(fun (i:Nat) (z:List Int×Nat) (h':Hp)=>(i=2)∧(i=2→h'=hS .u64 z.1∧z.1=res)) i y h'):Nat→List (Option AV)→Hp→Prop) 2 [some (AV.slice 0 0 n n 1 false),some (AV.int .i64 (Int.ofNat 0)),some (AV.int .i64 (Int.ofNat n)),some (AV.int .i64 (Int.ofNat i0)),some (AV.int .i64 (Int.ofNat j))] (hS .u64 L))))))))))))∧(eC (Int.ofNat 0) (Int.ofNat j)=false→((again (.move (.const (AV.bool (eC (Int.ofNat 0) (Int.ofNat j))))) .lf (AV.bool false) (hS .u64 L)=true∧again (.bin .gtr (.const (AV.int .i64 (Int.ofNat j))) (.const (AV.int .i64 (Int.ofNat 0)))) .lf (AV.bool (eC (Int.ofNat 0) (Int.ofNat j))) (hS .u64 L)=true∧again (.move (.const (AV.int .i64 (Int.ofNat 0)))) .lf (AV.int .i64 (Int.ofNat 0)) (hS .u64 L)=true∧again (.move (.const (AV.int .i64 (Int.ofNat j)))) .lf (AV.int .i64 (Int.ofNat j)) (hS .u64 L)=true∧True)∧((fun i ls h'=> ∃y,ls=((fun (z:List Int×Nat)=>[(0,(AV.slice 0 0 n n 1 false)),(1,(AV.int .i64 (Int.ofNat 0))),(2,(AV.int .i64 (Int.ofNat n))),(6,(AV.int .i64 (Int.ofNat i0))),(7,(AV.int .i64 (Int.ofNat z.2)))]) y).map (fun p=>some p.2)∧(fun (i:Nat) (z:List Int×Nat) (h':Hp)=>(i=2)∧(i=2→h'=hS .u64 z.1∧z.1=res)) i y h'):Nat→List (Option AV)→Hp→Prop) 2 [some (AV.slice 0 0 n n 1 false),some (AV.int .i64 (Int.ofNat 0)),some (AV.int .i64 (Int.ofNat n)),some (AV.int .i64 (Int.ofNat i0)),some (AV.int .i64 (Int.ofNat j))] (hS .u64 L))))) (by kernel_rfl) ?_
 refine ⟨fun c1=>?_,fun c1=>?_⟩
 ·have rc1:=c1
  replace c1:0 < j:=Hy c1
  refine ⟨gZ (by omega),?_⟩
  refine ⟨lE (by omega),?_⟩
  refine ⟨ke (by omega) (by omega),?_⟩
  refine ⟨gZ (by omega),?_⟩
  refine ⟨lE (by omega),?_⟩
  refine ⟨⟨aE (lE (by omega)) (bx _ _),aE (gZ (by omega)) (g9 _ _),aE (ke (by omega) (by omega)) (bx _ _),aE (rfl) (bx _ _),aE (rfl) (b8 _ _ _ _ _ _),aE (lE (by omega)) (bx _ _),aE (gZ (by omega)) (g9 _ _),aE (rfl) (bx _ _),aE (rfl) (b8 _ _ _ _ _ _),aE (congrArg (fun b=>OV.ok (AV.bool b)) rc1) (fN _),aE (rfl) (fN _),aE (rfl) (bx _ _),aE (rfl) (bx _ _),trivial⟩,?_⟩
  refine ⟨hless _ _ _,?_⟩
  refine ⟨fun c2=>?_,fun c2=>?_⟩
  ·have rc2:=c2
   replace c2:(L.getD j 0) < (L.getD (j - 1) 0):=OK c2
   refine ⟨⟨aE (congrArg (fun b=>OV.ok (AV.bool b)) rc2) (fN _),trivial⟩,?_⟩
   refine ⟨ke (by omega) (by omega),?_⟩
   refine ⟨ke (by omega) (by omega),?_⟩
   refine ⟨gZ (by omega),?_⟩
   refine ⟨lE (by omega),?_⟩
   refine ⟨gZ (by omega),?_⟩
   refine ⟨lE (by omega),?_⟩
   refine ⟨gZ (by omega),?_⟩
   refine ⟨⟨aE (gZ (by omega)) (g9 _ _),aE (lE (by omega)) (bx _ _),aE (gZ (by omega)) (g9 _ _),aE (rfl) (bx _ _),aE (rfl) (b8 _ _ _ _ _ _),aE (lE (by omega)) (bx _ _),aE (gZ (by omega)) (g9 _ _),aE (ke (by omega) (by omega)) (bx _ _),aE (rfl) (bx _ _),aE (rfl) (b8 _ _ _ _ _ _),aE (ke (by omega) (by omega)) (bx _ _),aE (rfl) (bx _ _),aE (rfl) (b8 _ _ _ _ _ _),aE (rfl) (bx _ _),aE (rfl) (b8 _ _ _ _ _ _),trivial⟩,?_⟩
   refine ⟨HB call (by first | omega | (simp;omega)),?_⟩
   refine ⟨gZ (by omega),?_⟩
   refine ⟨⟨aE (gZ (by omega)) (g9 _ _),aE (ke (by omega) (by omega)) (bx _ _),aE (rfl) (bx _ _),aE (rfl) (b8 _ _ _ _ _ _),trivial⟩,?_⟩
   refine ⟨HB call (by first | omega | (simp;omega)),?_⟩
   refine ⟨ke (by omega) (by omega),?_⟩
   obtain ⟨k,rfl⟩: ∃k,j=k+1:=⟨j - 1,by omega⟩
   refine ⟨(ja L k,k),rfl,⟨rfl,by dsimp only;omega,by dsimp only;rw [jj];exact hLn,?_⟩,by dsimp only;omega⟩
   dsimp only
   rw [sink,if_pos (by have:=c2;simp only [Nat.add_sub_cancel] at this;omega)] at hres
   exact hres
  ·have rc2:=c2
   replace c2:(L.getD (j - 1) 0)≤(L.getD j 0):=OM c2
   refine ⟨⟨aE (congrArg (fun b=>OV.ok (AV.bool b)) rc2) (fN _),trivial⟩,?_⟩
   refine ⟨(L,j),rfl,rfl,fun _=>⟨rfl,?_⟩⟩
   obtain ⟨k,rfl⟩: ∃k,j=k+1:=⟨j - 1,by omega⟩
   rw [sink,if_neg (by have:=c2;simp only [Nat.add_sub_cancel] at this;omega)] at hres
   exact hres
 ·have rc1:=c1
  replace c1:j≤0:=Hz c1
  refine ⟨⟨aE (congrArg (fun b=>OV.ok (AV.bool b)) rc1) (fN _),aE (rfl) (fN _),aE (rfl) (bx _ _),aE (rfl) (bx _ _),trivial⟩,?_⟩
  refine ⟨(L,j),rfl,rfl,fun _=>⟨rfl,?_⟩⟩
  obtain rfl:j=0:=by omega
  exact hres
theorem L8 {call:aJ} {N:Nat} {n i0:Nat} {res:List Int} (hn:n≤12) (hless: ∀(x y:Int) (h:Hp),call 238 [.int .u64 x, .int .u64 y] h= .ok (.bool (eC x y)) h) {L:List Int} {j:Nat} {h:Hp} (hi:(fun (z:List Int×Nat) (h':Hp)=>h'=hS .u64 z.1∧z.2 < n∧z.1.length=n∧sink z.1 z.2=res) (L,j) h) (hN:j < N) {t:T} (ht:Has ((fun (z:List Int×Nat)=>[(0,(AV.slice 0 0 n n 1 false)),(1,(AV.int .i64 (Int.ofNat 0))),(2,(AV.int .i64 (Int.ofNat n))),(6,(AV.int .i64 (Int.ofNat i0))),(7,(AV.int .i64 (Int.ofNat z.2)))]) (L,j)) t):
  (∃i y t' h',ct call N (.loop ki) t h= .exit i t' h'∧Has ((fun (z:List Int×Nat)=>[(0,(AV.slice 0 0 n n 1 false)),(1,(AV.int .i64 (Int.ofNat 0))),(2,(AV.int .i64 (Int.ofNat n))),(6,(AV.int .i64 (Int.ofNat i0))),(7,(AV.int .i64 (Int.ofNat z.2)))]) y) t'∧(fun (i:Nat) (z:List Int×Nat) (h':Hp)=>(i=2)∧(i=2→h'=hS .u64 z.1∧z.1=res)) i y h')∨(∃t' h',ct call N (.loop ki) t h= .ret t' h'∧(fun (ls:List (Option AV)) (h':Hp)=>False) (cu [0,1,2,6,7] t') h'):=
 tG (fun (z:List Int×Nat)=>[(0,(AV.slice 0 0 n n 1 false)),(1,(AV.int .i64 (Int.ofNat 0))),(2,(AV.int .i64 (Int.ofNat n))),(6,(AV.int .i64 (Int.ofNat i0))),(7,(AV.int .i64 (Int.ofNat z.2)))]) [0,1,2,6,7] (fun _=>rfl) (fun (z:List Int×Nat) (h':Hp)=>h'=hS .u64 z.1∧z.2 < n∧z.1.length=n∧sink z.1 z.2=res) (fun (z:List Int×Nat)=>z.2) (fun (i:Nat) (z:List Int×Nat) (h':Hp)=>(i=2)∧(i=2→h'=hS .u64 z.1∧z.1=res)) (fun (ls:List (Option AV)) (h':Hp)=>False) (fun ⟨L,j⟩ t h hi=>qz hn hless hi) (L,j) h hi hN t ht
theorem BF {call:aJ} {N:Nat} {n i0:Nat} {res:List Int} (hn:n≤12) (hless: ∀(x y:Int) (h:Hp),call 238 [.int .u64 x, .int .u64 y] h= .ok (.bool (eC x y)) h) {L:List Int} {j:Nat} {h:Hp} (hi:h=hS .u64 L∧j < n∧L.length=n∧sink L j=res) (hN:j < N) {t:T} (ht:cu [0,1,2,6,7] t= [some (AV.slice 0 0 n n 1 false),some (AV.int .i64 (Int.ofNat 0)),some (AV.int .i64 (Int.ofNat n)),some (AV.int .i64 (Int.ofNat i0)),some (AV.int .i64 (Int.ofNat j))]):
  ∃(L1:List Int) (j1:Nat) (t':T) (h':Hp),ct call N (.loop ki) t h= .exit 2 t' h'∧cu [0,1,2,6,7] t'= [some (AV.slice 0 0 n n 1 false),some (AV.int .i64 (Int.ofNat 0)),some (AV.int .i64 (Int.ofNat n)),some (AV.int .i64 (Int.ofNat i0)),some (AV.int .i64 (Int.ofNat j1))]∧(h'=hS .u64 L1∧L1=res):=by
 rcases L8 hn hless hi hN ht with ⟨i,y,t',h',q,w,e⟩ | ⟨t',h',q,e⟩
 ·obtain ⟨e1,e2⟩:=e
  subst e1
  exact ⟨y.1,y.2,t',h',q,w,e2 rfl⟩
 ·exact e.elim
def jb:AC:=(.seq (.seq (.region [⟨(some 10), .q (.move (.tmp 6)),none⟩,⟨(some 11), .q (.move (.tmp 2)),none⟩,⟨(some 12), .q (.bin .lss (.tmp 10) (.tmp 11)),none⟩]) (.cond (.tmp 12) .skip (.exit 0))) (.seq (.block 1 (.seq (.region [⟨(some 15), .q (.move (.tmp 6)),none⟩,⟨(some 7), .q (.move (.tmp 15)),none⟩]) (.block 2 (.loop (.seq (.seq (.drawn [⟨[(⟨(some 16), .q (.move (.tmp 7)),none⟩,0),(⟨(some 17), .q (.move (.tmp 1)),none⟩,0),(⟨(some 18), .q (.bin .gtr (.tmp 16) (.tmp 17)),none⟩,0),(⟨(some 19), .q (.move (.tmp 18)),none⟩,0),(⟨(some 20), .q (.move (.tmp 0)),(some (19,true))⟩,0),(⟨(some 21), .q (.move (.tmp 7)),(some (19,true))⟩,0),(⟨(some 22), .q (.idxAddrSl 1 (.tmp 20) (.tmp 21)),(some (19,true))⟩,0),(⟨(some 23), .q (.loadS (.tmp 22)),(some (19,true))⟩,0),(⟨(some 24), .q (.move (.tmp 0)),(some (19,true))⟩,0),(⟨(some 25), .q (.move (.tmp 7)),(some (19,true))⟩,0),(⟨(some 26), .q (.bin .sub (.tmp 25) (.const (AV.int .i64 (Int.ofNat 1)))),(some (19,true))⟩,0),(⟨(some 27), .q (.idxAddrSl 1 (.tmp 24) (.tmp 26)),(some (19,true))⟩,0),(⟨(some 28), .q (.loadS (.tmp 27)),(some (19,true))⟩,0)],(some ⟨(some 29), .e (.call (.const (AV.func (.func 238) [] [])) [(.tmp 23),(.tmp 28)]),(some (19,true))⟩)⟩,⟨[(⟨(some 30), .q (.pick (.tmp 19) (.tmp 29) (.const (AV.bool false))),none⟩,1)],none⟩]) (.cond (.tmp 30) .skip (.exit 2))) (.seq (.block 3 (.drawn [⟨[(⟨(some 33), .q (.move (.tmp 0)),none⟩,0),(⟨(some 34), .q (.move (.tmp 7)),none⟩,0),(⟨(some 35), .q (.move (.tmp 0)),none⟩,1),(⟨(some 36), .q (.move (.tmp 7)),none⟩,1),(⟨(some 37), .q (.bin .sub (.tmp 36) (.const (AV.int .i64 (Int.ofNat 1)))),none⟩,1),(⟨(some 38), .q (.move (.tmp 0)),none⟩,0),(⟨(some 39), .q (.move (.tmp 7)),none⟩,0),(⟨(some 40), .q (.bin .sub (.tmp 39) (.const (AV.int .i64 (Int.ofNat 1)))),none⟩,0),(⟨(some 41), .q (.idxAddrSl 1 (.tmp 38) (.tmp 40)),none⟩,0),(⟨(some 42), .q (.loadS (.tmp 41)),none⟩,0),(⟨(some 43), .q (.move (.tmp 0)),none⟩,0),(⟨(some 44), .q (.move (.tmp 7)),none⟩,0),(⟨(some 45), .q (.idxAddrSl 1 (.tmp 43) (.tmp 44)),none⟩,0),(⟨(some 46), .q (.loadS (.tmp 45)),none⟩,0),(⟨(some 47), .q (.idxAddrSl 1 (.tmp 33) (.tmp 34)),none⟩,0)],(some ⟨none, .e (.store 1 (.tmp 47) (.tmp 42)),none⟩)⟩,⟨[(⟨(some 48), .q (.idxAddrSl 1 (.tmp 35) (.tmp 37)),none⟩,1)],(some ⟨none, .e (.store 1 (.tmp 48) (.tmp 46)),none⟩)⟩,⟨[],none⟩])) (.region [⟨(some 31), .q (.move (.tmp 7)),none⟩,⟨(some 32), .q (.bin .sub (.tmp 31) (.const (AV.int .i64 (Int.ofNat 1)))),none⟩,⟨(some 7), .q (.move (.tmp 32)),none⟩]))))))) (.region [⟨(some 13), .q (.move (.tmp 6)),none⟩,⟨(some 14), .q (.bin .add (.tmp 13) (.const (AV.int .i64 (Int.ofNat 1)))),none⟩,⟨(some 6), .q (.move (.tmp 14)),none⟩])))
theorem pw {call:aJ} {N:Nat} {t:T} {h:Hp} {n:Nat} {res:List Int} (hn:n≤12) (hless: ∀(x y:Int) (h:Hp),call 238 [.int .u64 x, .int .u64 y] h= .ok (.bool (eC x y)) h) (hNN:12 < N) {L:List Int} {i:Nat} (hi:(fun (z:List Int×Nat) (h':Hp)=>h'=hS .u64 z.1∧1≤z.2∧z.1.length=n∧cZ (n - z.2) z.2 z.1=res) (L,i) h)
  : ∃s,ct call N jb (iR [(0,(AV.slice 0 0 n n 1 false)),(1,(AV.int .i64 (Int.ofNat 0))),(2,(AV.int .i64 (Int.ofNat n))),(6,(AV.int .i64 (Int.ofNat i)))] t) h=s∧dH [0,1,2,6] (fun ls h'=> ∃y,ls=((fun (z:List Int×Nat)=>[(0,(AV.slice 0 0 n n 1 false)),(1,(AV.int .i64 (Int.ofNat 0))),(2,(AV.int .i64 (Int.ofNat n))),(6,(AV.int .i64 (Int.ofNat z.2)))]) y).map (fun p=>some p.2)∧(fun (z:List Int×Nat) (h':Hp)=>h'=hS .u64 z.1∧1≤z.2∧z.1.length=n∧cZ (n - z.2) z.2 z.1=res) y h'∧(fun (z:List Int×Nat)=>(n - z.2)) y < (fun (z:List Int×Nat)=>(n - z.2)) (L,i)) (fun i ls h'=> ∃y,ls=((fun (z:List Int×Nat)=>[(0,(AV.slice 0 0 n n 1 false)),(1,(AV.int .i64 (Int.ofNat 0))),(2,(AV.int .i64 (Int.ofNat n))),(6,(AV.int .i64 (Int.ofNat z.2)))]) y).map (fun p=>some p.2)∧(fun (i:Nat) (z:List Int×Nat) (h':Hp)=>(i=0)∧(i=0→h'=hS .u64 z.1∧z.1=res)) i y h') (fun ls h'=>(fun (ls:List (Option AV)) (h':Hp)=>False) ls h') s:=by
 have hi:h=hS .u64 L∧1≤i∧L.length=n∧cZ (n - i) i L=res:=hi
 obtain ⟨rfl,hi1,hLn,hres⟩:=hi
 refine tF (o:=(.fork 2 (.lpx 2 (fun e2=>(.exit 2 (iR [(0,(AV.slice 0 0 n n 1 false)),(1,(AV.int .i64 (Int.ofNat 0))),(2,(AV.int .i64 (Int.ofNat n))),(6,(AV.int .i64 (Int.ofNat i)))] e2.t) (hS .u64 (sink L i)))) (fun e2=>(.tell 1 (AV.int .i64 (Int.ofNat (i+1))) .fin))) .fin)) (p:=((eC (Int.ofNat i) (Int.ofNat n)=true→(∃e2:Ev,ct call N (.loop ki) (iR [(0,(AV.slice 0 0 n n 1 false)),(1,(AV.int .i64 (Int.ofNat 0))),(2,(AV.int .i64 (Int.ofNat n))),(6,(AV.int .i64 (Int.ofNat i))),(7,(AV.int .i64 (Int.ofNat i))),(10,(AV.int .i64 (Int.ofNat i))),(11,(AV.int .i64 (Int.ofNat n))),(12,(AV.bool true)),(15,(AV.int .i64 (Int.ofNat i)))] t) (hS .u64 L)=(.exit 2 (iR [(0,(AV.slice 0 0 n n 1 false)),(1,(AV.int .i64 (Int.ofNat 0))),(2,(AV.int .i64 (Int.ofNat n))),(6,(AV.int .i64 (Int.ofNat i)))] e2.t) (hS .u64 (sink L i)))∧True∧(aq (.bin .add (.const (AV.int .i64 (Int.ofNat i))) (.const (AV.int .i64 (Int.ofNat 1)))) .lf H0= .ok (AV.int .i64 (Int.ofNat (i+1)))∧((fun ls h'=> ∃y,ls=((fun (z:List Int×Nat)=>[(0,(AV.slice 0 0 n n 1 false)),(1,(AV.int .i64 (Int.ofNat 0))),(2,(AV.int .i64 (Int.ofNat n))),(6,(AV.int .i64 (Int.ofNat z.2)))]) y).map (fun p=>some p.2)∧(fun (z:List Int×Nat) (h':Hp)=>h'=hS .u64 z.1∧1≤z.2∧z.1.length=n∧cZ (n - z.2) z.2 z.1=res) y h'∧(fun (z:List Int×Nat)=>(n - z.2)) y < (fun (z:List Int×Nat)=>(n - z.2)) (L,i)):List (Option AV)→Hp→Prop) [some (AV.slice 0 0 n n 1 false),some (AV.int .i64 (Int.ofNat 0)),some (AV.int .i64 (Int.ofNat n)),some (AV.int .i64 (Int.ofNat (i+1)))] (hS .u64 (sink L i)))))∧(eC (Int.ofNat i) (Int.ofNat n)=false→((fun i ls h'=> ∃y,ls=((fun (z:List Int×Nat)=>[(0,(AV.slice 0 0 n n 1 false)),(1,(AV.int .i64 (Int.ofNat 0))),(2,(AV.int .i64 (Int.ofNat n))),(6,(AV.int .i64 (Int.ofNat z.2)))]) y).map (fun p=>some p.2)∧(fun (i:Nat) (z:List Int×Nat) (h':Hp)=>(i=0)∧(i=0→h'=hS .u64 z.1∧z.1=res)) i y h'):Nat→List (Option AV)→Hp→Prop) 0 [some (AV.slice 0 0 n n 1 false),some (AV.int .i64 (Int.ofNat 0)),some (AV.int .i64 (Int.ofNat n)),some (AV.int .i64 (Int.ofNat i))] (hS .u64 L)))) (by kernel_rfl) ?_
 refine ⟨fun c1=>?_,fun c1=>?_⟩
 ·have rc1:=c1
  replace c1:i < n:=Hy c1
  obtain ⟨L1,j1,t1,h1,q1,w1,x1⟩:=BF (N:=N) (i0:=i) (res:=sink L i) (L:=L) (j:=i) hn hless ⟨rfl,by omega,hLn,rfl⟩ (show i < N by omega) (t:=iR [(0,(AV.slice 0 0 n n 1 false)),(1,(AV.int .i64 (Int.ofNat 0))),(2,(AV.int .i64 (Int.ofNat n))),(6,(AV.int .i64 (Int.ofNat i))),(7,(AV.int .i64 (Int.ofNat i))),(10,(AV.int .i64 (Int.ofNat i))),(11,(AV.int .i64 (Int.ofNat n))),(12,(AV.bool true)),(15,(AV.int .i64 (Int.ofNat i)))] t) (by kernel_rfl)
  obtain ⟨rfl,rfl⟩:=x1
  have w1: [bf (pathOf 0) t1,bf (pathOf 1) t1,bf (pathOf 2) t1,bf (pathOf 6) t1,bf (pathOf 7) t1] =_:=w1
  simp only [List.cons.injEq] at w1
  obtain ⟨g0,g1,g2,g6, -⟩:=w1
  refine ⟨(⟨.nilPtr,t1,H0⟩:Ev),(by rw [q1];exact congrArg (fun t=>RS.exit 2 t _) (pv (l:=[(0,(AV.slice 0 0 n n 1 false)),(1,(AV.int .i64 (Int.ofNat 0))),(2,(AV.int .i64 (Int.ofNat n))),(6,(AV.int .i64 (Int.ofNat i)))]) (by show [bf (pathOf 0) t1,bf (pathOf 1) t1,bf (pathOf 2) t1,bf (pathOf 6) t1] =_;rw [g0,g1,g2,g6];rfl)).symm),trivial,?_⟩
  refine ⟨HA (by omega),?_⟩
  refine ⟨(sink L i,i+1),rfl,⟨rfl,by dsimp only;omega,by dsimp only;rw [g_];exact hLn,?_⟩,by dsimp only;omega⟩
  dsimp only
  rw [show n - i=(n - (i+1))+1 by omega,cZ] at hres
  exact hres
 ·have rc1:=c1
  replace c1:n≤i:=Hz c1
  refine ⟨(L,i),rfl,rfl,fun _=>⟨rfl,?_⟩⟩
  rw [show n - i=0 by omega] at hres
  exact hres
theorem GK {call:aJ} {N:Nat} {n:Nat} {res:List Int} (hn:n≤12) (hless: ∀(x y:Int) (h:Hp),call 238 [.int .u64 x, .int .u64 y] h= .ok (.bool (eC x y)) h) (hNN:12 < N) {L:List Int} {i:Nat} {h:Hp} (hi:(fun (z:List Int×Nat) (h':Hp)=>h'=hS .u64 z.1∧1≤z.2∧z.1.length=n∧cZ (n - z.2) z.2 z.1=res) (L,i) h) (hN:(n - i) < N) {t:T} (ht:Has ((fun (z:List Int×Nat)=>[(0,(AV.slice 0 0 n n 1 false)),(1,(AV.int .i64 (Int.ofNat 0))),(2,(AV.int .i64 (Int.ofNat n))),(6,(AV.int .i64 (Int.ofNat z.2)))]) (L,i)) t):
  (∃i y t' h',ct call N (.loop jb) t h= .exit i t' h'∧Has ((fun (z:List Int×Nat)=>[(0,(AV.slice 0 0 n n 1 false)),(1,(AV.int .i64 (Int.ofNat 0))),(2,(AV.int .i64 (Int.ofNat n))),(6,(AV.int .i64 (Int.ofNat z.2)))]) y) t'∧(fun (i:Nat) (z:List Int×Nat) (h':Hp)=>(i=0)∧(i=0→h'=hS .u64 z.1∧z.1=res)) i y h')∨(∃t' h',ct call N (.loop jb) t h= .ret t' h'∧(fun (ls:List (Option AV)) (h':Hp)=>False) (cu [0,1,2,6] t') h'):=
 tG (fun (z:List Int×Nat)=>[(0,(AV.slice 0 0 n n 1 false)),(1,(AV.int .i64 (Int.ofNat 0))),(2,(AV.int .i64 (Int.ofNat n))),(6,(AV.int .i64 (Int.ofNat z.2)))]) [0,1,2,6] (fun _=>rfl) (fun (z:List Int×Nat) (h':Hp)=>h'=hS .u64 z.1∧1≤z.2∧z.1.length=n∧cZ (n - z.2) z.2 z.1=res) (fun (z:List Int×Nat)=>(n - z.2)) (fun (i:Nat) (z:List Int×Nat) (h':Hp)=>(i=0)∧(i=0→h'=hS .u64 z.1∧z.1=res)) (fun (ls:List (Option AV)) (h':Hp)=>False) (fun ⟨L,i⟩ t h hi=>pw hn hless hNN hi) (L,i) h hi hN t ht
theorem uS {call:aJ} {N:Nat} {n:Nat} {res:List Int} (hn:n≤12) (hless: ∀(x y:Int) (h:Hp),call 238 [.int .u64 x, .int .u64 y] h= .ok (.bool (eC x y)) h) (hNN:12 < N) {L:List Int} {i:Nat} {h:Hp} (hi:h=hS .u64 L∧1≤i∧L.length=n∧cZ (n - i) i L=res) (hN:(n - i) < N) {t:T} (ht:cu [0,1,2,6] t= [some (AV.slice 0 0 n n 1 false),some (AV.int .i64 (Int.ofNat 0)),some (AV.int .i64 (Int.ofNat n)),some (AV.int .i64 (Int.ofNat i))]):
  ∃(L1:List Int) (i1:Nat) (t':T) (h':Hp),ct call N (.loop jb) t h= .exit 0 t' h'∧cu [0,1,2,6] t'= [some (AV.slice 0 0 n n 1 false),some (AV.int .i64 (Int.ofNat 0)),some (AV.int .i64 (Int.ofNat n)),some (AV.int .i64 (Int.ofNat i1))]∧(h'=hS .u64 L1∧L1=res):=by
 rcases GK hn hless hNN hi hN ht with ⟨i,y,t',h',q,w,e⟩ | ⟨t',h',q,e⟩
 ·obtain ⟨e1,e2⟩:=e
  subst e1
  exact ⟨y.1,y.2,t',h',q,w,e2 rfl⟩
 ·exact e.elim
theorem BG {call:aJ} {N:Nat} {h:Hp} {n:Nat} {L:List Int} (hn:n≤12) (hLn:L.length=n) (hless: ∀(x y:Int) (h:Hp),call 238 [.int .u64 x, .int .u64 y] h= .ok (.bool (eC x y)) h) (hNN:12 < N)
  : ∃rv rh,kv (ae Tryz.prog (ab Tryz.prog)) N call 232 [(AV.slice 0 0 n n 1 false),(AV.int .i64 (Int.ofNat 0)),(AV.int .i64 (Int.ofNat n))] (hS .u64 L)= .ok rv rh∧(fun (v:AV) (h':Hp)=>v= .tuple []∧h'=hS .u64 (bX L)) rv rh:=by
 refine kd (o:=(.lpx 3 (fun e1=>(.exit 0 e1.t (hS .u64 (bX L)))) (fun e1=> .fin))) (p:=(∃e1:Ev,ct call N (.loop jb) (iR [(0,(AV.slice 0 0 n n 1 false)),(1,(AV.int .i64 (Int.ofNat 0))),(2,(AV.int .i64 (Int.ofNat n))),(6,(AV.int .i64 (Int.ofNat 1))),(8,(AV.int .i64 (Int.ofNat 0))),(9,(AV.int .i64 (Int.ofNat 1)))] .lf) (hS .u64 L)=(.exit 0 e1.t (hS .u64 (bX L)))∧True∧(fun (v:AV) (h':Hp)=>v= .tuple []∧h'=hS .u64 (bX L)) (AV.tuple []) (hS .u64 (bX L)))) (by kernel_rfl) ?_
 obtain ⟨L1,j1,t1,h1,q1,w1,x1⟩:=uS (N:=N) (res:=bX L) (L:=L) (i:=1) hn hless hNN ⟨rfl,Nat.le_refl _,hLn,by rw [bX,hLn]⟩ (show n - 1 < N by omega) (t:=iR [(0,(AV.slice 0 0 n n 1 false)),(1,(AV.int .i64 (Int.ofNat 0))),(2,(AV.int .i64 (Int.ofNat n))),(6,(AV.int .i64 (Int.ofNat 1))),(8,(AV.int .i64 (Int.ofNat 0))),(9,(AV.int .i64 (Int.ofNat 1)))] .lf) (by kernel_rfl)
 obtain ⟨rfl,rfl⟩:=x1
 refine ⟨(⟨.nilPtr,t1,H0⟩:Ev),q1,trivial,?_⟩
 exact ⟨rfl,rfl⟩
theorem BH {call:aJ} {N:Nat} {h:Hp} {n:Nat} {L:List Int} {lim:Int} (hn:n≤12) (hins:call 232 [AV.slice 0 0 n n 1 false, .int .i64 (.ofNat 0), .int .i64 (.ofNat n)] (hS .u64 L)= .ok (.tuple []) (hS .u64 (bX L)))
  : ∃rv rh,kv (ae Tryz.prog (ab Tryz.prog)) (N+1) call 174 [(AV.slice 0 0 n n 1 false),(AV.int .i64 (Int.ofNat 0)),(AV.int .i64 (Int.ofNat n)),(AV.int .i64 lim)] (hS .u64 L)= .ok rv rh∧(fun (v:AV) (h':Hp)=>v= .tuple []∧h'=hS .u64 (bX L)) rv rh:=by
 refine kd (o:=(.tell 5 (AV.int .i64 (Int.ofNat (n - 0))) (.tell 2 (AV.bool true) (.gV 3 (AV.tuple []) (hS .u64 (bX L)) .fin)))) (p:=(aq (.bin .sub (.const (AV.int .i64 (Int.ofNat n))) (.const (AV.int .i64 (Int.ofNat 0)))) .lf H0= .ok (AV.int .i64 (Int.ofNat (n - 0)))∧(aq (.bin .leq (.const (AV.int .i64 (Int.ofNat (n - 0)))) (.const (AV.int .i64 (Int.ofNat 12)))) .lf H0= .ok (AV.bool true)∧(call 232 [(AV.slice 0 0 n n 1 false),(AV.int .i64 (Int.ofNat 0)),(AV.int .i64 (Int.ofNat n))] (hS .u64 L)= .ok (AV.tuple []) (hS .u64 (bX L))∧(fun (v:AV) (h':Hp)=>v= .tuple []∧h'=hS .u64 (bX L)) (AV.tuple []) (hS .u64 (bX L)))))) (by kernel_rfl) ?_
 refine ⟨ke (by omega) (by omega),?_⟩
 refine ⟨congrArg (fun z=>OV.ok (AV.bool (aP z))) (cH (a:=12) (b:=n - 0) (by omega)),?_⟩
 refine ⟨hins,?_⟩
 exact ⟨rfl,rfl⟩
def BI (m:Nat):Int:=if m=0 then 0 else if m < 2 then 1 else if m < 4 then 2 else if m < 8 then 3 else 4
theorem uT {call:aJ} {N:Nat} {h:Hp} {n:Nat} {L:List Int} (hn:n≤12) (hbits: ∀(m:Nat) (h:Hp),m≤12→call 175 [.int .u64 (.ofNat m)] h= .ok (.int .i64 (BI m)) h) (hpdq: ∀lim:Int,call 174 [AV.slice 0 0 n n 1 false, .int .i64 (.ofNat 0), .int .i64 (.ofNat n), .int .i64 lim] (hS .u64 L)= .ok (.tuple []) (hS .u64 (bX L)))
  : ∃rv rh,kv (ae Tryz.prog (ab Tryz.prog)) N call 133 [(AV.slice 0 0 n n 1 false)] (hS .u64 L)= .ok rv rh∧(fun (v:AV) (h':Hp)=>v= .tuple []∧h'=hS .u64 (bX L)) rv rh:=by
 refine kd (o:=(.tell 6 (AV.int .u64 (Int.ofNat (n % 18446744073709551616))) (.gV 0 (AV.int .i64 (BI (n % 18446744073709551616))) (hS .u64 L) (.gV 0 (AV.tuple []) (hS .u64 (bX L)) .fin)))) (p:=(aq (.toInt .u64 (.const (AV.int .i64 (Int.ofNat n)))) .lf H0= .ok (AV.int .u64 (Int.ofNat (n % 18446744073709551616)))∧(call 175 [(AV.int .u64 (Int.ofNat (n % 18446744073709551616)))] (hS .u64 L)= .ok (AV.int .i64 (BI (n % 18446744073709551616))) (hS .u64 L)∧(call 174 [(AV.slice 0 0 n n 1 false),(AV.int .i64 (Int.ofNat 0)),(AV.int .i64 (Int.ofNat n)),(AV.int .i64 (BI (n % 18446744073709551616)))] (hS .u64 L)= .ok (AV.tuple []) (hS .u64 (bX L))∧(fun (v:AV) (h':Hp)=>v= .tuple []∧h'=hS .u64 (bX L)) (AV.tuple []) (hS .u64 (bX L)))))) (by kernel_rfl) ?_
 refine ⟨L2 rfl,?_⟩
 have g1:n % 18446744073709551616 < 18446744073709551616:=Nat.mod_lt _ (by decide)
 refine ⟨hbits _ _ (by omega),?_⟩
 refine ⟨hpdq _,?_⟩
 exact ⟨rfl,rfl⟩
theorem uU {call:aJ} {N:Nat} {h:Hp} {x y:Int} (hnan: ∀(x:Int) (h:Hp),call 328 [.int .u64 x] h= .ok (.bool false) h)
  : ∃rv rh,kv (ae Tryz.prog (ab Tryz.prog)) N call 238 [(AV.int .u64 x),(AV.int .u64 y)] h= .ok rv rh∧(fun (v:AV) (h':Hp)=>h'=h∧v= .bool (eC x y)) rv rh:=by
 refine kd (o:=(.gV 2 (AV.bool false) h .fin)) (p:=(call 328 [(AV.int .u64 x)] h= .ok (AV.bool false) h∧(fun (v:AV) (h':Hp)=>h'=h∧v= .bool (eC x y)) (AV.bool (eC x y)) h)) (by kernel_rfl) ?_
 refine ⟨hnan _ _,?_⟩
 exact ⟨rfl,rfl⟩
theorem OP (d:Nat) (x:Int) (h:Hp):lF (d+1) 328 [.int .u64 x] h= .ok (.bool false) h:=by
 rw [lF,mZ rfl]
 refine (show kv (ae Tryz.prog (ab Tryz.prog)) 100000 _ 328 [.int .u64 x] h= .ok (.bool (aP (je x x))) h by kernel_rfl).trans ?_
 rw [show je x x=true from Bv x];rfl
theorem L9 (d:Nat) (x y:Int) (h:Hp):lF (d+2) 238 [.int .u64 x, .int .u64 y] h= .ok (.bool (eC x y)) h:=by
 rw [lF,mZ rfl]
 obtain ⟨rv,rh,e,rfl,rfl⟩:=uU (call:=lF (d+1)) (N:=100000) (x:=x) (y:=y) (h:=h) (OP d)
 exact e
theorem L_ (d:Nat) (h:Hp):lF (d+4) 175 [.int .u64 (.ofNat 0)] h= .ok (.int .i64 0) h:=by kernel_rfl
theorem Ma (d:Nat) (h:Hp):lF (d+4) 175 [.int .u64 (.ofNat 1)] h= .ok (.int .i64 1) h:=by kernel_rfl
theorem Mb (d:Nat) (h:Hp):lF (d+4) 175 [.int .u64 (.ofNat 2)] h= .ok (.int .i64 2) h:=by kernel_rfl
theorem Mc (d:Nat) (h:Hp):lF (d+4) 175 [.int .u64 (.ofNat 3)] h= .ok (.int .i64 2) h:=by kernel_rfl
theorem Md (d:Nat) (h:Hp):lF (d+4) 175 [.int .u64 (.ofNat 4)] h= .ok (.int .i64 3) h:=by kernel_rfl
theorem Me (d:Nat) (h:Hp):lF (d+4) 175 [.int .u64 (.ofNat 5)] h= .ok (.int .i64 3) h:=by kernel_rfl
theorem Mf (d:Nat) (h:Hp):lF (d+4) 175 [.int .u64 (.ofNat 6)] h= .ok (.int .i64 3) h:=by kernel_rfl
theorem Mg (d:Nat) (h:Hp):lF (d+4) 175 [.int .u64 (.ofNat 7)] h= .ok (.int .i64 3) h:=by kernel_rfl
theorem Mh (d:Nat) (h:Hp):lF (d+4) 175 [.int .u64 (.ofNat 8)] h= .ok (.int .i64 4) h:=by kernel_rfl
theorem Mi (d:Nat) (h:Hp):lF (d+4) 175 [.int .u64 (.ofNat 9)] h= .ok (.int .i64 4) h:=by kernel_rfl
theorem GL (d:Nat) (h:Hp):lF (d+4) 175 [.int .u64 (.ofNat 10)] h= .ok (.int .i64 4) h:=by kernel_rfl
theorem GM (d:Nat) (h:Hp):lF (d+4) 175 [.int .u64 (.ofNat 11)] h= .ok (.int .i64 4) h:=by kernel_rfl
theorem GN (d:Nat) (h:Hp):lF (d+4) 175 [.int .u64 (.ofNat 12)] h= .ok (.int .i64 4) h:=by kernel_rfl
theorem Mj (d m:Nat) (h:Hp) (hm:m≤12):lF (d+4) 175 [.int .u64 (.ofNat m)] h= .ok (.int .i64 (BI m)) h:=by
 have:m=0∨m=1∨m=2∨m=3∨m=4∨m=5∨m=6∨m=7∨m=8∨m=9∨m=10∨m=11∨m=12:=by omega
 rcases this with rfl | rfl | rfl | rfl | rfl | rfl | rfl | rfl | rfl | rfl | rfl | rfl | rfl
 ·exact L_ d h
 ·exact Ma d h
 ·exact Mb d h
 ·exact Mc d h
 ·exact Md d h
 ·exact Me d h
 ·exact Mf d h
 ·exact Mg d h
 ·exact Mh d h
 ·exact Mi d h
 ·exact GL d h
 ·exact GM d h
 ·exact GN d h
theorem Mk {n:Nat} {L:List Int} (hn:n≤12) (hLn:L.length=n):lF 8 133 [AV.slice 0 0 n n 1 false] (hS .u64 L)= .ok (.tuple []) (hS .u64 (bX L)):=by
 rw [lF,mZ rfl]
 obtain ⟨rv,rh,e,rfl,rfl⟩:=uT (call:=lF 7) (N:=100000) (h:=H0) hn (Mj 3) (fun lim=>by
  rw [lF,mZ rfl]
  obtain ⟨rv,rh,e,rfl,rfl⟩:=BH (call:=lF 6) (N:=99999) (h:=H0) (lim:=lim) (L:=L) hn (by
   rw [lF,mZ rfl]
   obtain ⟨rv,rh,e,rfl,rfl⟩:=BG (call:=lF 5) (N:=100000) (h:=H0) hn hLn (L9 3) (by decide)
   exact e)
  exact e)
 exact e
theorem BJ {L:List Int} {W:World} {g:Nat} {cur:Array Value} {el:TypeId} (hg:W.heap[g]? =some (.cells cur el (0,0))) (ht:cur.toList.take L.length=L.map (Value.int .u64)) (hL:L.length≤cur.size) (hn:L.length≤12):
  Calls Tryz.prog 133 #[.slice (some ⟨g,0,none⟩) L.length cur.size] W fun e W'=>e= .returned (.tuple #[])∧fV (L5 g cur.size) (hS .u64 L) W (.tuple []) (hS .u64 (bX L)) e W':=by
 refine (ir bT pj 100000 8 133 [AV.slice 0 0 L.length L.length 1 false] (hS .u64 L) _ _ (L5 g cur.size) W _ (Mk hn rfl) (GI hg ht hL) ?_).2.mono fun e W' r=>⟨?_,r⟩
 ·rw [aH]
  refine ⟨_,_,rfl,?_,by rw [aF]⟩
  unfold VR
  exact ⟨g,0,⟨g,0,none⟩,cur.size,rfl,rfl,Nat.le_refl _,hL,(fun h=>by cases h),fun _=>⟨rfl,by show 0+0+cur.size*1≤cur.size;omega⟩⟩
 ·obtain ⟨μ',y,rfl,ry,_⟩:=r
  unfold VR at ry
  obtain ⟨l,rfl,hl⟩:=ry.resolve_left (fun k=>by cases k.1)
  rw [aF] at hl
  obtain rfl:l= #[] :=Array.toList_eq_nil_iff.1 hl
  rfl
theorem BK (W:World):Calls Tryz.prog 133 #[.slice none 0 0] W fun e W'=>e= .returned (.tuple #[])∧Below W.heap.size W W':=by
 refine (ir bT pj 100000 8 133 [.nilSlice] H0 (.tuple []) H0 Mp.none W _ (by kernel_rfl) (.none W) ?_).2.mono fun e W' r=>?_
 ·rw [aH]
  exact ⟨_,_,rfl,by unfold VR;rfl,by rw [aF]⟩
 ·obtain ⟨μ',y,rfl,ry,_,gs⟩:=r
  unfold VR at ry
  obtain ⟨l,rfl,hl⟩:=ry.resolve_left (fun k=>by cases k.1)
  rw [aF] at hl
  obtain rfl:l= #[] :=Array.toList_eq_nil_iff.1 hl
  exact ⟨rfl,gs.below⟩
set_option maxRecDepth 100000 in
set_option maxHeartbeats 2000000 in
theorem uV (g:Nat) (lb:Array Value) (eg: ∀args w,(callFunc g args).run Tryz.prog w= .ok (.enter g args) w) (K:List Int) (hK:K.length≤12) (w:World) (hseq:SeqGives Fence.wide 3 Tryz.prog g lb (ly .u64) (fun ss=>ss.Perm K) K.length w):
  Calls Tryz.prog 95 #[.func (.func g) #[] lb] w fun e w'=>Below w.heap.size w w'∧((e= .returned (.slice none 0 0)∧K= [])∨∃gb cap arr el fr,e= .returned (.slice (some ⟨gb,0,none⟩) K.length cap)∧K≠ []∧w.heap.size≤gb∧w'.heap[gb]? =some (.cells arr el fr)∧arr.size=cap∧cz arr.size fr∧(∀(i:Nat) (z:Int),(bX K)[i]? =some z→arr[i]? =some (.int .u64 z))∧K.length≤cap):=by
 refine (callsIn_wide (n:=6)).1 ?_
 have hfC:Fence.wide.fn 132:=trivial
 have hfS:Fence.wide.fn 133:=trivial
 have cS:=collect_in Fence.wide 5 trivial trivial rfl (by omega) g lb trivial eg _ K.length (Nat.le_trans hK (by decide)) (by omega) w hseq
 refine callsIn_of_wp Tryz.func95 rfl trivial ?_ rfl
 simp only [Tryz.ntmps95,List.size_toArray,List.length_cons,List.length_nil,Nat.reduceAdd,Nat.reduceSub,Array.replicate_succ,Array.replicate_zero,List.push_toArray,List.append_toArray,List.nil_append,List.cons_append]
 gi_wp2_with (gi_at_call 132;refine cS.mono ?_;rintro e W ⟨v,ss,rfl,hS,hrow,hnil,hb⟩)
 rcases hrow.2 with ⟨rfl,hz⟩ | ⟨gb,cap,cur,rfl,hbase,hgb,r1,r2,r3,r4⟩
 ·have hss:ss= [] :=List.eq_nil_of_length_eq_zero hz
  subst hss
  have hKn:K= [] :=by have:=hS.length_eq;exact List.eq_nil_of_length_eq_zero this.symm
  gi_wp2_with (gi_at_call 133;refine (callsIn_wide.2 (BK W)).mono ?_;rintro e w' ⟨rfl,hb2⟩)
  go_ret
  exact ⟨hb.trans (hb2.mono hb.size), .inl ⟨rfl,hKn⟩⟩
 ·have hlen:ss.length=K.length:=hS.length_eq
  have hsz:cur.size=cap:=by omega
  subst hsz
  clear r3
  have r5:cur.toList.take ss.length=ss.map (Value.int .u64):=by rw [←Nat.mul_one ss.length];exact r4
  have hKn:ss≠ [] :=fun e=>by have h5:=hnil.2 e;cases h5
  gi_wp2_with (gi_at_call 133;refine (callsIn_wide.2 (BJ hgb r5 (by omega) (by omega))).mono ?_;rintro e w' ⟨rfl,hr⟩;obtain ⟨arr,el,fr,h1,h2,h3,h4,h5⟩:=uN (Array.getElem?_eq_some_iff.1 hgb).1 hr;clear hr cS hseq)
  go_ret
  refine ⟨hb.trans (h5 _ hbase), .inr ⟨gb,_,arr,el,fr,rfl,fun e=>hKn (by rw [e] at hlen;exact List.eq_nil_of_length_eq_zero hlen),hbase,h1,h2,h3,?_,by omega⟩⟩
  rw [←jy hS];exact h4
def rowOf (l:List Int) (h:Hp):RV:=ee (.ok .nilSlice h) (fun _ _=> .ok (.slice h.next 0 (len l) (len l) 1 false) (bz h (aZ (lmap (AV.int .u64) l) (len l)))) l
theorem qA {g:Nat} {lb:Array Value} (eg: ∀args w,(callFunc g args).run Tryz.prog w= .ok (.enter g args) w) {K l:List Int} (hp:K.Perm l) (hK:l.length≤12) {μ:Mp} {h h':Hp} {v:AV} {w:World} (hs:bq μ h w) (hseq:SeqGives Fence.wide 3 Tryz.prog g lb (ly .u64) (fun ss=>ss.Perm K) K.length w) (e:rowOf (gI l) h= .ok v h'):
  Calls Tryz.prog 95 #[.func (.func g) #[] lb] w (fV μ h w v h'):=by
 have hlen:=hp.length_eq
 refine (uV g lb eg K (by omega) w hseq).mono fun e' w' ⟨hb,hr⟩=>?_
 have hKl:bX K=gI l:=by rw [jy hp,Bz]
 have hsl:(gI l).length=l.length:=(jI l).length_eq
 rcases hr with ⟨rfl,hn⟩ | ⟨gb,cap,arr,el,fr,rfl,hn,hg,h1,h2,h3,h4,h5⟩
 ·subst hn
  have h0:gI l= [] :=List.eq_nil_of_length_eq_zero (by rw [hsl,←hlen];rfl)
  rw [h0] at e
  cases e
  exact BB hs hb
 ·rw [hKl] at h4
  have hkl:K.length=(gI l).length:=by omega
  rw [hkl]
  rw [hkl] at h5
  cases hq:gI l with
  | nil=>rw [hq] at hkl;exact absurd (List.eq_nil_of_length_eq_zero hkl) hn
  | cons a t=>
    rw [hq] at e h4 h5
    have e:RV.ok (.slice h.next 0 (len (a::t)) (len (a::t)) 1 false) (bz h (aZ (lmap (AV.int .u64) (a::t)) (len (a::t))))= .ok v h':=e
    rw [bA,bS] at e
    cases e
    exact BA hs hb hg h1 h2 h3 h4 h5
def tK (args:List AV) (h:Hp):RV:=match args with
 | [.func (.func g) [] [.ptr b o]] =>bc (a9 (fun k=>aP (Nat.beq k g)) [134,357]) .no ((rd h b o).cs .no fun m=>m.jr .no .no fun mb=>mr h mb .no fun es n ck=>av .no (fun l=>rowOf (gI l) h) (keysOf .u64 es n ck))
 | _=> .no
def OQ (f:Nat):Option (List AV→Hp→RV):=bc (Nat.beq f 95) (some tK) none
theorem nH {μ:Mp} {h h':Hp} {v m:AV} {w:World} {b o c s:Nat} (hs:bq μ h w) (hat:μ.at_ b=some (c,s)) (hr:rd h b o= .ok m) (e:(m.jr RV.no .no fun mb=>mr h mb .no fun es n ck=>av .no (fun l=>rowOf (gI l) h) (keysOf .u64 es n ck))= .ok v h'):
  Calls Tryz.prog 95 #[.func (.func 134) #[] #[.pointer (some ⟨c,s+o,none⟩)]] w (fV μ h w v h'):=by
 rcases fM e nofun with ⟨rfl,e1⟩ | ⟨mb,rfl,e1⟩
 ·cases e1
 ·obtain ⟨es,n,ck,hm,e2⟩:=gR e1 nofun
  obtain ⟨l,hk,e3⟩:=ba e2 nofun
  obtain ⟨x,hx,hv,_⟩:=AN hs hat hr
  unfold VR at hv
  obtain ⟨cm,sm,hatm,rfl⟩:=hv
  obtain ⟨D0,hown,hp,hz,h12⟩:=qx (P:=Tryz.prog) (k:=31) Tryz.underlying31 (hs.d_ mb cm sm _ hatm hm) hk
  have hseq:=uP Fence.wide 3 trivial rfl (by decide) c (s+o) cm n D0 _ w (hs.dW b c s hat) hx hown
  rw [show Maps.size D0=(lz D0).length by rw [hz,hp.length_eq]] at hseq
  exact qA (enters_of Tryz.func134 (by kernel_rfl) rfl) hp h12 hs hseq e3
theorem nI {μ:Mp} {h h':Hp} {v m:AV} {w:World} {b o c s:Nat} (hs:bq μ h w) (hat:μ.at_ b=some (c,s)) (hr:rd h b o= .ok m) (e:(m.jr RV.no .no fun mb=>mr h mb .no fun es n ck=>av .no (fun l=>rowOf (gI l) h) (keysOf .u64 es n ck))= .ok v h'):
  Calls Tryz.prog 95 #[.func (.func 357) #[] #[.pointer (some ⟨c,s+o,none⟩)]] w (fV μ h w v h'):=by
 rcases fM e nofun with ⟨rfl,e1⟩ | ⟨mb,rfl,e1⟩
 ·cases e1
 ·obtain ⟨es,n,ck,hm,e2⟩:=gR e1 nofun
  obtain ⟨l,hk,e3⟩:=ba e2 nofun
  obtain ⟨x,hx,hv,_⟩:=AN hs hat hr
  unfold VR at hv
  obtain ⟨cm,sm,hatm,rfl⟩:=hv
  obtain ⟨D0,hown,hp,hz,h12⟩:=qx (P:=Tryz.prog) (k:=31) Tryz.underlying31 (hs.d_ mb cm sm _ hatm hm) hk
  have hseq:=uR Fence.wide 3 trivial rfl (by decide) c (s+o) cm n D0 _ w (hs.dW b c s hat) hx hown
  rw [show Maps.size D0=(lz D0).length by rw [hz,hp.length_eq]] at hseq
  exact qA (enters_of Tryz.func357 (by kernel_rfl) rfl) hp h12 hs hseq e3
theorem GO:Eng.Good Tryz.prog fun f args h=>av .no (fun m=>m args h) (OQ f):=fun f args h v h' μ w cargs e hs r=>by
 replace e:av RV.no (fun m=>m args h) (bc (Nat.beq f 95) (some tK) none)= .ok v h':=e
 cases hf:Nat.beq f 95 with
 | false=>rw [hf] at e;cases e
 | true=>
   obtain rfl:f=95:=Nat.eq_of_beq_eq_true hf
   rw [hf] at e
   replace e:tK args h= .ok v h':=e
   refine ⟨⟨_,_,Tryz.func95,by decide,rfl⟩,?_⟩
   unfold tK at e
   split at e
   ·rename_i args g b o
    replace e:=GJ e
    obtain ⟨hg,e⟩:=e
    rw [aH] at r
    obtain ⟨x0,xs,hx,rx,rxs⟩:=r
    rw [aF] at rxs
    subst rxs
    unfold VR at rx
    obtain ⟨a',b',rfl,ra,rb⟩:=rx
    rw [aF] at ra
    obtain rfl:a'= #[] :=Array.toList_eq_nil_iff.1 ra
    rw [aH] at rb
    obtain ⟨y0,ys,hy,ry,rys⟩:=rb
    rw [aF] at rys
    subst rys
    unfold VR at ry
    obtain ⟨c,s,hat,rfl⟩:=ry
    obtain rfl:cargs= #[.func (.func g) #[] b'] :=by cases cargs;simp at hx;simp [hx]
    obtain rfl:b'= #[.pointer (some ⟨c,s+o,none⟩)] :=by cases b';simp at hy;simp [hy]
    cases hr:rd h b o with
    | no=>rw [hr] at e;cases e
    | ok m=>
      rw [hr] at e
      have hin:g ∈ [134,357] :=by
       apply Classical.byContradiction
       intro hne
       have:a9 (fun k=>aP (Nat.beq k g)) [134,357] =true:=aT.2 fun k hk=>by
        rw [pS (fun e=>hne (by rw [←e];exact hk))];rfl
       rw [this] at hg;cases hg
      simp only [List.mem_cons,List.not_mem_nil,or_false] at hin
      rcases hin with rfl | rfl
      ·exact nH hs hat hr e
      ·exact nI hs hat hr e
   ·cases e
end Go.Proofs.YtfcljjhlijolgaaGreatDoor
end
section
set_option linter.unusedVariables false
set_option linter.unusedSimpArgs false
namespace Eng
open Go Go.RowKit
def jo (ρ:Nat→Nat) (v:AV):AV:=match v with
 | .ptr b o=> .ptr (ρ b) o
 | .slice b o l c s e=> .slice (ρ b) o l c s e
 | v=>v
def GP (k:Nat) (v:AV):Bool:=match v with
 | .bool _=>true
 | .int _ _=>true
 | .str _=>true
 | .nilPtr=>true
 | .nilSlice=>true
 | .nilMap=>true
 | .nilFunc=>true
 | .nilIface=>true
 | .ptr b _=>Nat.blt b k
 | .slice b _ _ _ _ _=>Nat.blt b k
 | _=>false
def nJ (ρ:Nat→Nat) (v:AV):AV:=match v with
 | .agg l=> .agg (lmap (jo ρ) l)
 | v=>jo ρ v
def Ml (k:Nat) (v:AV):Bool:=match v with
 | .agg l=>a9 (GP k) l
 | v=>GP k v
def jq (ρ:Nat→Nat) (v:AV):AV:=match v with
 | .tuple l=> .tuple (lmap (nJ ρ) l)
 | v=>nJ ρ v
def TG (k:Nat) (v:AV):Bool:=match v with
 | .tuple l=>a9 (Ml k) l
 | v=>Ml k v
section
variable {μ1 μ2:Mp} {σ ρ:Nat→Nat} {k:Nat}
def Alike (μ1 μ2:Mp) (σ ρ:Nat→Nat) (k:Nat):Prop:= ∀j,j < k→∀c s,μ1.at_ (σ j)=some (c,s)→μ2.at_ (ρ j)=some (c,s)∧μ2.size c=μ1.size c
theorem rY (H:Alike μ1 μ2 σ ρ k) {v:AV} {x:Value} (o:GP k v=true) (r:VR μ1 (jo σ v) x):VR μ2 (jo ρ v) x:=by
 cases v with
 | ptr b o'=>
   have hb:b < k:=Nat.le_of_ble_eq_true o
   have r:VR μ1 (.ptr (σ b) o') x:=r
   show VR μ2 (.ptr (ρ b) o') x
   rw [VR_ptr] at r ⊢
   obtain ⟨c,s,h1,h2⟩:=r
   exact ⟨c,s,(H b hb c s h1).1,h2⟩
 | slice b o' l cp sz ex=>
   have hb:b < k:=Nat.le_of_ble_eq_true o
   have r:VR μ1 (.slice (σ b) o' l cp sz ex) x:=r
   show VR μ2 (.slice (ρ b) o' l cp sz ex) x
   rw [VR_slice] at r ⊢
   obtain ⟨c,s,s',cp',h1,h2,h3,h4,h5,h6⟩:=r
   exact ⟨c,s,s',cp',(H b hb c s h1).1,h2,h3,h4,h5,by rw [(H b hb c s h1).2];exact h6⟩
 | bool=>rw [show jo σ (.bool _)= .bool _ from rfl,VR_bool] at r;rw [show jo ρ (.bool _)= .bool _ from rfl,VR_bool];exact r
 | int=>rw [show jo σ (.int _ _)= .int _ _ from rfl,VR_int] at r;rw [show jo ρ (.int _ _)= .int _ _ from rfl,VR_int];exact r
 | str=>rw [show jo σ (.str _)= .str _ from rfl,VR_str] at r;rw [show jo ρ (.str _)= .str _ from rfl,VR_str];exact r
 | nilPtr=>rw [show jo σ .nilPtr= .nilPtr from rfl,VR_nilPtr] at r;rw [show jo ρ .nilPtr= .nilPtr from rfl,VR_nilPtr];exact r
 | nilSlice=>rw [show jo σ .nilSlice= .nilSlice from rfl,VR_nilSlice] at r;rw [show jo ρ .nilSlice= .nilSlice from rfl,VR_nilSlice];exact r
 | nilMap=>rw [show jo σ .nilMap= .nilMap from rfl,VR_nilMap] at r;rw [show jo ρ .nilMap= .nilMap from rfl,VR_nilMap];exact r
 | nilFunc=>rw [show jo σ .nilFunc= .nilFunc from rfl,VR_nilFunc] at r;rw [show jo ρ .nilFunc= .nilFunc from rfl,VR_nilFunc];exact r
 | nilIface=>rw [show jo σ .nilIface= .nilIface from rfl,VR_nilIface] at r;rw [show jo ρ .nilIface= .nilIface from rfl,VR_nilIface];exact r
 | _=>cases o
theorem px (f g:AV→AV) (ok:AV→Bool) (hf: ∀v x,ok v=true→VR μ1 (f v) x→VR μ2 (g v) x): ∀(l:List AV) (xs:List Value),a9 ok l=true→bb μ1 (lmap f l) xs→bb μ2 (lmap g l) xs
 | [],xs,_,r=>by
   have r:bb μ1 [] xs:=r
   show bb μ2 [] xs
   rw [aF] at r ⊢;exact r
 | v::l,xs,o,r=>by
   have r:bb μ1 (f v::lmap f l) xs:=r
   show bb μ2 (g v::lmap g l) xs
   rw [aH] at r ⊢
   obtain ⟨x,ys,h1,h2,h3⟩:=r
   have o':=aT.1 o
   exact ⟨x,ys,h1,hf v x (o' v (by simp)) h2,px f g ok hf l ys (aT.2 fun a ha=>o' a (by simp [ha])) h3⟩
theorem uW {v:AV} (o:Ml k v=true):(∃l,v= .agg l∧a9 (GP k) l=true)∨(GP k v=true∧nJ σ v=jo σ v∧nJ ρ v=jo ρ v):=by
 cases v <;> first | exact .inr ⟨o,rfl,rfl⟩ | exact .inl ⟨_,rfl,o⟩
theorem uX {v:AV} (o:TG k v=true):(∃l,v= .tuple l∧a9 (Ml k) l=true)∨(Ml k v=true∧jq σ v=nJ σ v∧jq ρ v=nJ ρ v):=by
 cases v <;> first | exact .inr ⟨o,rfl,rfl⟩ | exact .inl ⟨_,rfl,o⟩
theorem tL (H:Alike μ1 μ2 σ ρ k) {v:AV} {x:Value} (o:Ml k v=true) (r:VR μ1 (nJ σ v) x):VR μ2 (nJ ρ v) x:=by
 rcases uW (σ:=σ) (ρ:=ρ) o with ⟨l,rfl,o⟩ | ⟨o,e1,e2⟩
 ·have r:VR μ1 (.agg (lmap (jo σ) l)) x:=r
  show VR μ2 (.agg (lmap (jo ρ) l)) x
  rw [VR_agg] at r ⊢
  obtain ⟨l',h1,h2⟩:=r
  exact ⟨l',h1,px _ _ (GP k) (fun v x=>rY H) l _ o h2⟩
 ·rw [e1] at r;rw [e2];exact rY H o r
theorem GQ (H:Alike μ1 μ2 σ ρ k) {v:AV} {x:Value} (o:TG k v=true) (r:VR μ1 (jq σ v) x):VR μ2 (jq ρ v) x:=by
 rcases uX (σ:=σ) (ρ:=ρ) o with ⟨l,rfl,o⟩ | ⟨o,e1,e2⟩
 ·have r:VR μ1 (.tuple (lmap (nJ σ) l)) x:=r
  show VR μ2 (.tuple (lmap (nJ ρ) l)) x
  rw [VR_tuple] at r ⊢
  rcases r with ⟨r1,r2⟩ | ⟨l',h1,h2⟩
  ·refine .inl ⟨?_,r2⟩
   rw [←r1,bS,bS];simp
  ·exact .inr ⟨l',h1,px _ _ (Ml k) (fun v x=>tL H) l _ o h2⟩
 ·rw [e1] at r;rw [e2];exact tL H o r
theorem rZ {v:AV} (o:GP k v=true):aD (jo ρ v)=true:=by
 cases v <;> first | rfl | cases o
end
def loc (srcs:List Nat) (j:Nat):Nat:=av 0 (fun x=>x) (an srcs j)
def fY (n0:Nat) (L:List (List AV)):Hp→Hp:=bV (fun h=>h) (fun cs _ ih h=>ih (bz h (aZ (lmap (jo (Nat.add n0)) cs) (len cs)))) L
theorem lG (n0:Nat) (cs:List AV) (L:List (List AV)) (h:Hp):fY n0 (cs::L) h=fY n0 L (bz h (aZ (lmap (jo (Nat.add n0)) cs) (len cs))):=rfl
theorem gJ (n0:Nat): ∀(L:List (List AV)) (h:Hp),(fY n0 L h).next=h.next+L.length
 | [],h=>rfl
 | cs::L,h=>by rw [lG,gJ n0 L,hpush_next,List.length_cons];omega
theorem iA (n0:Nat): ∀(L:List (List AV)) (h:Hp) (b:Nat),au (fY n0 L h) b=if h.next≤b then (match L[b - h.next]? with | some cs=>some (aZ (lmap (jo (Nat.add n0)) cs) (len cs)) | none=>au h b) else au h b
 | [],h,b=>by simp;rfl
 | cs::L,h,b=>by
   rw [lG,iA n0 L,hpush_next]
   rcases Nat.lt_trichotomy b h.next with hb | rfl | hb
   ·rw [if_neg (by omega),if_neg (by omega),aC _ _ (by omega)]
   ·rw [if_neg (by omega),if_pos (Nat.le_refl _),dE,Nat.sub_self];rfl
   ·rw [if_pos (by omega),if_pos (by omega),aC _ _ (by omega)]
    obtain ⟨d,rfl⟩: ∃d,b=h.next+1+d:=⟨b - (h.next+1),by omega⟩
    rw [show h.next+1+d - (h.next+1)=d by omega,show h.next+1+d - h.next=d+1 by omega,List.getElem?_cons_succ]
theorem r7 {μA:Mp} {hA h1:Hp} {w w':World} {v0 v':AV} {e:Ending} (hown: ∀c,μA.own c=false) (R:fV μA hA w v' h1 e w') {srcs:List Nat} {lits:List (List AV)} (hv:v'=jq (loc srcs) v0)
  (hb: ∀i cs,lits[i]? =some cs→∃ow,au h1 (loc srcs i)=some (.cells (lmap (jo (loc srcs)) cs) (len cs) ow)∧ow≠ .ro∧∀p,ow= .pair p→∀j,j < lits.length→loc srcs j≠p)
  (hinj: ∀i j,i < lits.length→j < lits.length→loc srcs i=loc srcs j→i=j) (hok: ∀cs ∈ lits,a9 (GP lits.length) cs=true) (hokT:TG lits.length v0=true) {μ:Mp} {h:Hp} (hs:bq μ h w):
  fV μ h w (jq (Nat.add h.next) v0) (fY h.next lits h) e w':=by
 obtain ⟨μ1,y,rfl,hy,hs1,g⟩:=R
 have hbel:Below w.heap.size w w':=g.rV hown
 obtain ⟨μ',hμ⟩: ∃μ':Mp,μ'=⟨fun b=>if b < h.next then μ.at_ b else if b - h.next < lits.length then μ1.at_ (loc srcs (b - h.next)) else none,fun c=>if c < w.heap.size then μ.own c else μ1.own c,fun c=>if c < w.heap.size then μ.size c else μ1.size c⟩:=⟨_,rfl⟩
 have hat: ∀b,b < h.next→μ'.at_ b=μ.at_ b:=fun b hb=>by rw [hμ];simp [hb]
 have hatn: ∀j,j < lits.length→μ'.at_ (h.next+j)=μ1.at_ (loc srcs j):=fun j hj=>by
  rw [hμ]
  show (if h.next+j < h.next then μ.at_ (h.next+j) else if h.next+j - h.next < lits.length then μ1.at_ (loc srcs (h.next+j - h.next)) else none)=_
  rw [if_neg (by omega),Nat.add_sub_cancel_left,if_pos hj]
 have hlt: ∀b c s,μ.at_ b=some (c,s)→b < h.next∧c < w.heap.size:=fun b c s e=>by
  refine ⟨?_,hs.dW b c s e⟩
  rcases Nat.lt_or_ge b h.next with hb | hb
  ·exact hb
  ·rw [hs.lt b hb] at e;cases e
 have ho: ∀c,c < w.heap.size→μ'.own c=μ.own c:=fun c hc=>by rw [hμ];simp [hc]
 have hz: ∀c,c < w.heap.size→μ'.size c=μ.size c:=fun c hc=>by rw [hμ];simp [hc]
 have hon: ∀c,¬c < w.heap.size→μ'.own c=μ1.own c:=fun c hc=>by rw [hμ];simp [hc]
 have hzn: ∀c,¬c < w.heap.size→μ'.size c=μ1.size c:=fun c hc=>by rw [hμ];simp [hc]
 have hle:μ.Le μ':=fun b c s e=>by
  obtain ⟨h6,h7⟩:=hlt b c s e
  exact ⟨by rw [hat b h6];exact e,hz c h7,ho c h7⟩
 have hnew: ∀i cs c s,lits[i]? =some cs→μ1.at_ (loc srcs i)=some (c,s)→¬c < w.heap.size∧μ1.own c=true:=fun i cs c s hi hc=>by
  obtain ⟨ow,h2,h3,_⟩:=hb i cs hi
  obtain ⟨_,_,h4,_⟩:=hs1.d_ _ c s _ hc h2
  have h5:μ1.own c=true:=h4.2 h3
  refine ⟨fun h6=>?_,h5⟩
  rw [g.own c h6,hown] at h5
  cases h5
 have hal:Alike μ1 μ' (loc srcs) (Nat.add h.next) lits.length:=fun j hj c s e=>by
  obtain ⟨h2,_⟩:=hnew j _ c s (List.getElem?_eq_getElem hj) e
  exact ⟨by show μ'.at_ (h.next+j)=_;rw [hatn j hj];exact e,hzn c h2⟩
 have hsplit: ∀b c s,μ'.at_ b=some (c,s)→(b < h.next∧μ.at_ b=some (c,s))∨∃i cs,lits[i]? =some cs∧b=h.next+i∧μ1.at_ (loc srcs i)=some (c,s):=fun b c s e=>by
  rcases Nat.lt_or_ge b h.next with hb' | hb'
  ·exact .inl ⟨hb',by rw [←hat b hb'];exact e⟩
  ·rw [hμ] at e
   replace e:(if b < h.next then μ.at_ b else if b - h.next < lits.length then μ1.at_ (loc srcs (b - h.next)) else none)=some (c,s):=e
   rw [if_neg (by omega)] at e
   split at e
   ·rename_i hl
    exact .inr ⟨b - h.next,_,List.getElem?_eq_getElem hl,by omega,e⟩
   ·cases e
 have hgo: ∀b,b < h.next→au (fY h.next lits h) b=au h b:=fun b hb'=>by rw [iA,if_neg (by omega)]
 have hgn: ∀i cs,lits[i]? =some cs→au (fY h.next lits h) (h.next+i)=some (.cells (lmap (jo (Nat.add h.next)) cs) (len cs) .solo):=fun i cs hi=>by
  rw [iA,if_pos (by omega),show h.next+i - h.next=i by omega,hi];rfl
 refine ⟨μ',y,rfl,?_,⟨fun b hb'=>?_,fun b hb'=>?_,fun b c s e=>?_,fun b c s x e hx=>?_,fun b b' c s s' x x' hne e e' hwn hx hx' hd hd'=>?_,fun b c s cs n p e hx=>?_⟩,
  ⟨by rw [gJ];omega,fun b hb'=>hat b hb',ho,hz,hbel.size,fun c hc _=>hbel.block c hc,fun b hb' _=> .inl (hgo b hb'),hbel.os,hbel.tape,hbel.output⟩⟩
 ·rw [hv] at hy
  exact GQ hal hokT hy
 ·rw [gJ] at hb'
  rw [hμ]
  show (if b < h.next then μ.at_ b else if b - h.next < lits.length then μ1.at_ (loc srcs (b - h.next)) else none)=none
  rw [if_neg (by omega),if_neg (by omega)]
 ·rw [gJ] at hb'
  rw [iA,if_pos (by omega),List.getElem?_eq_none (by omega)]
  exact hs.fresh b (by omega)
 ·rcases hsplit b c s e with ⟨_,e⟩ | ⟨i,cs,hi,rfl,e2⟩
  ·exact Nat.lt_of_lt_of_le (hs.dW b c s e) hbel.size
  ·exact hs1.dW _ c s e2
 ·rcases hsplit b c s e with ⟨hb',e⟩ | ⟨i,cs,hi,rfl,e2⟩
  ·rw [hgo b hb'] at hx
   have hc:=(hlt b c s e).2
   exact (hs.d_ b c s x e hx).mono hle (hbel.block c hc) (ho c hc) (hz c hc)
  ·rw [hgn i cs hi] at hx
   cases hx
   obtain ⟨hc,hcw⟩:=hnew i cs c s hi e2
   obtain ⟨ow,h2,h3,_⟩:=hb i cs hi
   obtain ⟨_,_,h4,arr,el,fr,h5,h6,h7,h8⟩:=hs1.d_ _ c s _ e2 h2
   have hcs:=hok cs (List.mem_of_getElem? hi)
   have hcs':=aT.1 hcs
   refine ⟨by rw [bS,bA,List.length_map],fun v hv'=>?_,⟨fun _=>nofun,fun _=>by rw [hon c hc];exact hcw⟩,arr,el,fr,h5,by rw [h6,hzn c hc],fun _=>h7 hcw,fun j v hv'=>?_⟩
   ·rw [bS] at hv'
    obtain ⟨u,hu,rfl⟩:=List.mem_map.1 hv'
    exact rZ (hcs' u hu)
   ·rw [bS,List.getElem?_map] at hv'
    cases hu:cs[j]? with
    | none=>rw [hu] at hv';cases hv'
    | some u=>
      rw [hu] at hv'
      cases hv'
      obtain ⟨x,hx,hr⟩:=h8 j (jo (loc srcs) u) (by rw [bS,List.getElem?_map,hu];rfl)
      exact ⟨x,hx,rY hal (hcs' u (List.mem_of_getElem? hu)) hr⟩
 ·rcases hsplit b c s e with ⟨hb1,e⟩ | ⟨i,cs,hi,rfl,e2⟩
  ·rcases hsplit b' c s' e' with ⟨hb2,e'⟩ | ⟨i',cs',hi',rfl,e2'⟩
   ·rw [hgo b hb1] at hx
    rw [hgo b' hb2] at hx'
    exact hs.apart b b' c s s' x x' hne e e' (by rw [←ho c (hlt b c s e).2];exact hwn) hx hx' hd hd'
   ·exact absurd (hlt b c s e).2 (hnew i' cs' c s' hi' e2').1
  ·rcases hsplit b' c s' e' with ⟨hb2,e'⟩ | ⟨i',cs',hi',rfl,e2'⟩
   ·exact absurd (hlt b' c s' e').2 (hnew i cs c s hi e2).1
   ·obtain ⟨hc,hcw⟩:=hnew i cs c s hi e2
    obtain ⟨ow,h2,h3,h4⟩:=hb i cs hi
    obtain ⟨ow',h2',h3',h4'⟩:=hb i' cs' hi'
    have li:i < lits.length:=(List.getElem?_eq_some_iff.1 hi).1
    have li':i' < lits.length:=(List.getElem?_eq_some_iff.1 hi').1
    obtain ⟨a1,a2,a3,a4,a5,a6⟩:=hs1.apart (loc srcs i) (loc srcs i') c s s' _ _ (fun q=>hne (by rw [hinj i i' li li' q])) e2 e2' hcw h2 h2' nofun nofun
    cases a5
    exact absurd rfl (h4 _ rfl i' li')
 ·rcases hsplit b c s e with ⟨hb1,e⟩ | ⟨i,cs',hi,rfl,e2⟩
  ·rw [hgo b hb1] at hx
   obtain ⟨y,hy⟩:=hs.peer b c s cs n p e hx
   exact ⟨y,by rw [hat p (hlt p y.1 y.2 hy).1];exact hy⟩
  ·rw [hgn i cs' hi] at hx;cases hx
def GR (σ:Nat→Nat):List (List AV)→List Own→List (Option aY)
 | cs::L,o::O=>some (.cells (lmap (jo σ) cs) (len cs) o)::GR σ L O
 | _,_=>[]
theorem tM (σ:Nat→Nat): ∀(L:List (List AV)) (O:List Own),L.length=O.length→∀(i:Nat) (cs:List AV),L[i]? =some cs→∃o,O[i]? =some o∧(GR σ L O)[i]? =some (some (aY.cells (lmap (jo σ) cs) (len cs) o))
 | [],_,_,i,cs,h=>by simp at h
 | a::L,[],hl,i,cs,h=>by simp at hl
 | a::L,o::O,hl,0,cs,h=>by simp at h;subst h;exact ⟨o,rfl,rfl⟩
 | a::L,o::O,hl,i+1,cs,h=>by
   obtain ⟨o',h1,h2⟩:=tM σ L O (by simpa using hl) i cs (by simpa using h)
   exact ⟨o',by simpa using h1,by simpa [GR] using h2⟩
def Own.fits (srcs:List Nat):Own→Bool
 | .solo=>true
 | .pair p=>a9 (fun x=>aP (Nat.beq x p)) srcs
 | .ro=>false
def kj (srcs:List Nat) (lits:List (List AV)) (ows:List Own) (v0:AV):Bool:=
 bc (Nat.beq (len srcs) (len lits)) (bc (Nat.beq (len ows) (len lits)) (bc (qu srcs) (bc (a9 (Own.fits srcs) ows) (bc (a9 (a9 (GP (len lits))) lits) (TG (len lits) v0) false) false) false) false) false
theorem kK: ∀{l:List Nat},qu l=true→∀(i j:Nat),i < j→j < l.length→l[i]? ≠l[j]?
 | [],_,i,j,_,h=>by simp at h
 | a::l,hn,i,j,hij,hj=>by
   have hn:bc (a9 (fun b=>aP (Nat.beq a b)) l) (qu l) false=true:=hn
   obtain ⟨h1,h2⟩:=a7 hn (by simp)
   cases j with
   | zero=>omega
   | succ j=>
     have hj':j < l.length:=by simpa using hj
     cases i with
     | zero=>
       intro e
       have e:some a=l[j]? :=by simpa using e
       have:=aT.1 h1 a (List.mem_of_getElem? e.symm)
       rw [Nat.beq_refl] at this;cases this
     | succ i=>simpa using kK h2 i j (by omega) hj'
theorem jk {srcs:List Nat} {i:Nat} (h:i < srcs.length):srcs[i]? =some (loc srcs i):=by
 unfold loc;rw [fw,List.getElem?_eq_getElem h];rfl
theorem qD {μA:Mp} {hA:Hp} {w:World} {v0:AV} (hown: ∀c,μA.own c=false) {r:RV} {srcs:List Nat} {lits:List (List AV)} {ows:List Own}
  (key:r.cs none (fun v h=>some (v,lmap (au h) srcs))=some (jq (loc srcs) v0,GR (loc srcs) lits ows)) (fm:kj srcs lits ows v0=true):
  ∃v' h1,r= .ok v' h1∧∀{e w'},fV μA hA w v' h1 e w'→∀{μ:Mp} {h:Hp},bq μ h w→fV μ h w (jq (Nat.add h.next) v0) (fY h.next lits h) e w':=by
 cases r with
 | no=>cases key
 | ok v' h1=>
   have key:some (v',lmap (au h1) srcs)=some (jq (loc srcs) v0,GR (loc srcs) lits ows):=key
   rw [Option.some.injEq,Prod.mk.injEq] at key
   obtain ⟨k1,k2⟩:=key
   obtain ⟨c1,fm⟩:=a7 (show bc _ _ false=true from fm) (by simp)
   obtain ⟨c2,fm⟩:=a7 fm (by simp)
   obtain ⟨c3,fm⟩:=a7 fm (by simp)
   obtain ⟨c4,fm⟩:=a7 fm (by simp)
   obtain ⟨c5,c6⟩:=a7 fm (by simp)
   rw [bA] at c5 c6
   have c1:=Nat.eq_of_beq_eq_true c1
   have c2:=Nat.eq_of_beq_eq_true c2
   rw [bA,bA] at c1 c2
   refine ⟨v',h1,rfl, @fun e w' R μ h hs=>r7 hown R k1 (fun i cs hi=>?_) (fun i j hi hj q=>?_) (fun cs hc=>aT.1 c5 cs hc) c6 hs⟩
   ·obtain ⟨o,h2,h3⟩:=tM (loc srcs) lits ows c2.symm i cs hi
    have li:i < lits.length:=(List.getElem?_eq_some_iff.1 hi).1
    have h4:(lmap (au h1) srcs)[i]? =some (au h1 (loc srcs i)):=by rw [bS,List.getElem?_map,jk (by omega)];rfl
    rw [k2,h3] at h4
    have ho:=aT.1 c4 o (List.mem_of_getElem? h2)
    refine ⟨o,(Option.some.inj h4).symm,(fun q=>by rw [q] at ho;cases ho),fun p q j hj q2=>?_⟩
    rw [q] at ho
    have ho:a9 (fun x=>aP (Nat.beq x p)) srcs=true:=ho
    have:=aT.1 ho p (List.mem_of_getElem? (show srcs[j]? =some p by rw [jk (by omega),q2]))
    rw [Nat.beq_refl] at this;cases this
   ·rcases Nat.lt_trichotomy i j with hij | hij | hij
    ·exact absurd (show srcs[i]? =srcs[j]? by rw [jk (by omega),jk (by omega),q]) (kK c3 i j hij (by omega))
    ·exact hij
    ·exact absurd (show srcs[j]? =srcs[i]? by rw [jk (by omega),jk (by omega),q]) (kK c3 j i hij (by omega))
section
variable {P:Program} {D:Nat→Array Oper→AC} {M:Nat→Option (List AV→Hp→RV)} {N d f:Nat} {srcs:List Nat} {lits:List (List AV)} {ows:List Own} {v0:AV}
def tN (v0:AV) (lits:List (List AV)) (args:List AV) (h:Hp):RV:=ee (.ok (jq (Nat.add h.next) v0) (fY h.next lits h)) (fun _ _=> .no) args
theorem BL (hD:gM P D) (hM:Good P fun f args h=>av .no (fun m=>m args h) (M f)) (key:(kZ M (ae P D) N d f [] H0).cs none (fun v h=>some (v,lmap (au h) srcs))=some (jq (loc srcs) v0,GR (loc srcs) lits ows)) (fm:kj srcs lits ows v0=true)
  {args:List AV} {h h':Hp} {v:AV} {μ:Mp} {w:World} {cargs:Array Value} (e:tN v0 lits args h= .ok v h') (hs:bq μ h w) (r:bb μ args cargs.toList):Enters P f∧Calls P f cargs w (fV μ h w v h'):=by
 cases args with
 | cons a l=>cases e
 | nil=>
   cases e
   rw [aF] at r
   obtain ⟨v',h1,e1,hR⟩:=qD (μA:= .none) (hA:=H0) (w:=w) (fun _=>rfl) key fm
   have ev:=ir hD hM N d f [] H0 v' h1 .none w cargs e1 (.none w) (by rw [aF];exact r)
   exact ⟨ev.1,ev.2.mono fun e w' R=>hR R hs⟩
def OR (l:List Nat):List AV→Bool:=bV (fun _=>true) (fun a _ ih cs=>ee false (fun x xs=>x.asInt false fun k m=>bc (br k .u8) (bc (je m (.ofNat a)) (ih xs) false) false) cs) l
theorem tO: ∀{l:List Nat} {cs:List AV},OR l cs=true→∀(i:Nat) (a:Nat),l[i]? =some a→cs[i]? =some (AV.int .u8 (.ofNat a))
 | [],_,_,i,a,h=>by simp at h
 | b::l,cs,e,i,a,h=>by
   have e:ee false (fun x xs=>x.asInt false fun k m=>bc (br k .u8) (bc (je m (.ofNat b)) (OR l xs) false) false) cs=true:=e
   cases cs with
   | nil=>cases e
   | cons x xs=>
     have e:(x.asInt false fun k m=>bc (br k .u8) (bc (je m (.ofNat b)) (OR l xs) false) false)=true:=e
     obtain ⟨k,m,rfl,e1⟩:=aN e (by simp)
     obtain ⟨rfl,e2⟩:=et e1 (by simp)
     obtain ⟨e3,e4⟩:=a7 e2 (by simp)
     rw [dj] at e3
     have e3:=eq_of_beq e3
     cases i with
     | zero=>simp at h;subst h;rw [e3];rfl
     | succ i=>simpa using tO e4 i a (by simpa using h)
def hB (T:List Nat):Hp:=⟨1,cO (pathOf 0) (.cells (kr T) (len T) .ro) .lf⟩
def tP (T:List Nat) (v0:AV) (lits:List (List AV)) (args:List AV) (h:Hp):RV:=ee .no (fun x r=>ee (x.asSlice .no .no fun b o l cp sz ex=>bc (Nat.beq l (len T)) (bc (Nat.beq sz 1) (aS h b .no fun cs n ow=>bc (OR T (drop cs o)) (.ok (jq (Nat.add h.next) v0) (fY h.next lits h)) .no) .no) .no) (fun _ _=> .no) r) args
theorem uY {μ:Mp} {h:Hp} {w:World} {b o cp n:Nat} {ex:Bool} {x:Value} {T:List Nat} {cs:List AV} {ow:Own} (hs:bq μ h w) (hT:T≠ []) (r:VR μ (.slice b o T.length cp 1 ex) x) (hc:au h b=some (.cells cs n ow)) (hq: ∀(i:Nat) (a:Nat),T[i]? =some a→(cs.drop o)[i]? =some (AV.int .u8 (.ofNat a))):
  ∃μA,bq μA (hB T) w∧(∀c,μA.own c=false)∧VR μA (.slice 0 0 T.length T.length 1 false) x:=by
 rw [VR_slice] at r
 obtain ⟨c,s,s',cp',hat,rfl,h1,h2,h3,h4⟩:=r
 have hT':0 < T.length:=List.length_pos_iff.2 hT
 obtain ⟨h5,h6⟩:=h4 (by omega)
 obtain ⟨_,_,_,arr,el,fr,h7,h8,_,h9⟩:=hs.d_ b c s _ hat hc
 have hg0:au (hB T) 0=some (.cells (kr T) (len T) .ro):=cE _ _ _
 have hgn: ∀b,b≠0→au (hB T) b=none:=fun b hb=>by
  show bf (pathOf b) (cO (pathOf 0) _ .lf)=none
  rw [bD _ _ _ _ (fun e=>hb (bw e)),dA]
 let μA:Mp:=⟨fun b=>if b=0 then some (c,s+o) else none,fun _=>false,fun _=>arr.size⟩
 have hAt: ∀b c' s',μA.at_ b=some (c',s')→b=0∧c'=c∧s'=s+o:=fun b c' s' e=>by
  have e:(if b=0 then some (c,s+o) else none)=some (c',s'):=e
  split at e
  ·cases e;exact ⟨‹_›,rfl,rfl⟩
  ·cases e
 refine ⟨μA,⟨fun b hb=>?_,fun b hb=>hgn b (by have:(hB T).next=1:=rfl;omega),fun b c' s' e=>?_,fun b c' s' x e hx=>?_,fun b b' c' s1 s2 x x' hne e e'=>?_,fun b c' s' cs n p e hx=>?_⟩,fun _=>rfl,?_⟩
 ·have:(hB T).next=1:=rfl
  show (if b=0 then some (c,s+o) else none)=none
  rw [if_neg (by omega)]
 ·obtain ⟨_,rfl,_⟩:=hAt b c' s' e;exact (Array.getElem?_eq_some_iff.1 h7).1
 ·obtain ⟨rfl,rfl,rfl⟩:=hAt b c' s' e
  rw [hg0] at hx
  cases hx
  refine ⟨by rw [eQ,bA,List.length_map],fun v hv=>?_,⟨fun q=>(by cases q),fun q=>absurd rfl q⟩,arr,el,fr,h7,rfl,fun q=>(by cases q),fun i v hv=>?_⟩
  ·rw [eQ] at hv
   obtain ⟨z,_,rfl⟩:=List.mem_map.1 hv;rfl
  ·obtain ⟨a,ha,rfl⟩:=L4 hv
   have hq:=hq i a ha
   rw [List.getElem?_drop] at hq
   obtain ⟨y,hy,hr⟩:=h9 (o+i) _ hq
   rw [VR_int] at hr
   subst hr
   exact ⟨_,by rw [Nat.add_assoc];exact hy,by rw [VR_int]⟩
 ·obtain ⟨h10,_⟩:=hAt b c' s1 e
  obtain ⟨h11,_⟩:=hAt b' c' s2 e'
  exact absurd (h10.trans h11.symm) hne
 ·obtain ⟨rfl,_,_⟩:=hAt b c' s' e
  rw [hg0] at hx;cases hx
 ·rw [VR_slice]
  exact ⟨c,s+o,s',cp',rfl,rfl,Nat.le_refl _,by omega,nofun,fun _=>⟨by rw [h5];rfl,by show s+o+0+cp'*1≤arr.size;rw [h8];simpa using h6⟩⟩
theorem BM {T:List Nat} (hT:T≠ []) (hD:gM P D) (hM:Good P fun f args h=>av .no (fun m=>m args h) (M f)) (key:(kZ M (ae P D) N d f [.slice 0 0 (len T) (len T) 1 false] (hB T)).cs none (fun v h=>some (v,lmap (au h) srcs))=some (jq (loc srcs) v0,GR (loc srcs) lits ows)) (fm:kj srcs lits ows v0=true)
  {args:List AV} {h h':Hp} {v:AV} {μ:Mp} {w:World} {cargs:Array Value} (e:tP T v0 lits args h= .ok v h') (hs:bq μ h w) (r:bb μ args cargs.toList):Enters P f∧Calls P f cargs w (fV μ h w v h'):=by
 cases args with
 | nil=>cases e
 | cons a l=>
   cases l with
   | cons=>cases e
   | nil=>
     have e:(a.asSlice RV.no .no fun b o l cp sz ex=>bc (Nat.beq l (len T)) (bc (Nat.beq sz 1) (aS h b .no fun cs n ow=>bc (OR T (drop cs o)) (.ok (jq (Nat.add h.next) v0) (fY h.next lits h)) .no) .no) .no)= .ok v h':=e
     rcases bG e nofun with ⟨_,e1⟩ | ⟨b,o,l,cp,sz,ex,rfl,e1⟩
     ·cases e1
     ·obtain ⟨rfl,e2⟩:=cM e1 nofun
      obtain ⟨rfl,e3⟩:=cM e2 nofun
      obtain ⟨cs,n,ow,hc,e4⟩:=cx e3 nofun
      obtain ⟨e5,e6⟩:=a7 e4 nofun
      rw [drop_eq] at e5
      cases e6
      rw [aH] at r
      obtain ⟨x,xs,hx,rx,rxs⟩:=r
      rw [aF] at rxs
      subst rxs
      rw [bA] at rx
      obtain ⟨μA,sA,oA,vA⟩:=uY hs hT rx hc (tO e5)
      obtain ⟨v',h1,e1',hR⟩:=qD (μA:=μA) (hA:=hB T) (w:=w) oA key fm
      have ev:=ir hD hM N d f _ (hB T) v' h1 μA w cargs e1' sA (by rw [bA,hx,aH];exact ⟨x,[],rfl,vA,by rw [aF]⟩)
      exact ⟨ev.1,ev.2.mono fun e w' R=>hR R hs⟩
end
end Eng
end
section
set_option linter.unusedVariables false
set_option linter.unusedSimpArgs false
namespace Go.Proofs.YtfcljjhlijolgaaGreatDoor
open Go Go.RowKit Eng
def py:List Nat:=[702]
def m5:List (List AV):=[[.int .u8 (Int.ofNat 0), .int .u8 (Int.ofNat 97), .int .u8 (Int.ofNat 115), .int .u8 (Int.ofNat 109), .int .u8 (Int.ofNat 1), .int .u8 (Int.ofNat 0), .int .u8 (Int.ofNat 0), .int .u8 (Int.ofNat 0), .int .u8 (Int.ofNat 1), .int .u8 (Int.ofNat 18), .int .u8 (Int.ofNat 4), .int .u8 (Int.ofNat 96), .int .u8 (Int.ofNat 0), .int .u8 (Int.ofNat 0), .int .u8 (Int.ofNat 96), .int .u8 (Int.ofNat 1), .int .u8 (Int.ofNat 127), .int .u8 (Int.ofNat 1), .int .u8 (Int.ofNat 127), .int .u8 (Int.ofNat 96), .int .u8 (Int.ofNat 0), .int .u8 (Int.ofNat 1), .int .u8 (Int.ofNat 127), .int .u8 (Int.ofNat 96), .int .u8 (Int.ofNat 2), .int .u8 (Int.ofNat 127), .int .u8 (Int.ofNat 127), .int .u8 (Int.ofNat 0), .int .u8 (Int.ofNat 3), .int .u8 (Int.ofNat 9), .int .u8 (Int.ofNat 8), .int .u8 (Int.ofNat 1), .int .u8 (Int.ofNat 2), .int .u8 (Int.ofNat 0), .int .u8 (Int.ofNat 0), .int .u8 (Int.ofNat 3), .int .u8 (Int.ofNat 1), .int .u8 (Int.ofNat 1), .int .u8 (Int.ofNat 0), .int .u8 (Int.ofNat 5), .int .u8 (Int.ofNat 3), .int .u8 (Int.ofNat 1), .int .u8 (Int.ofNat 0), .int .u8 (Int.ofNat 1), .int .u8 (Int.ofNat 6), .int .u8 (Int.ofNat 6), .int .u8 (Int.ofNat 1), .int .u8 (Int.ofNat 127), .int .u8 (Int.ofNat 1), .int .u8 (Int.ofNat 65), .int .u8 (Int.ofNat 0), .int .u8 (Int.ofNat 11), .int .u8 (Int.ofNat 7), .int .u8 (Int.ofNat 54), .int .u8 (Int.ofNat 8), .int .u8 (Int.ofNat 3), .int .u8 (Int.ofNat 105), .int .u8 (Int.ofNat 110), .int .u8 (Int.ofNat 99), .int .u8 (Int.ofNat 0), .int .u8 (Int.ofNat 0), .int .u8 (Int.ofNat 3), .int .u8 (Int.ofNat 103), .int .u8 (Int.ofNat 101), .int .u8 (Int.ofNat 116), .int .u8 (Int.ofNat 0), .int .u8 (Int.ofNat 1), .int .u8 (Int.ofNat 4), .int .u8 (Int.ofNat 115), .int .u8 (Int.ofNat 112), .int .u8 (Int.ofNat 105), .int .u8 (Int.ofNat 110), .int .u8 (Int.ofNat 0), .int .u8 (Int.ofNat 2), .int .u8 (Int.ofNat 4), .int .u8 (Int.ofNat 116), .int .u8 (Int.ofNat 114), .int .u8 (Int.ofNat 97), .int .u8 (Int.ofNat 112), .int .u8 (Int.ofNat 0), .int .u8 (Int.ofNat 3), .int .u8 (Int.ofNat 3), .int .u8 (Int.ofNat 112), .int .u8 (Int.ofNat 117), .int .u8 (Int.ofNat 116), .int .u8 (Int.ofNat 0), .int .u8 (Int.ofNat 4), .int .u8 (Int.ofNat 4), .int .u8 (Int.ofNat 112), .int .u8 (Int.ofNat 101), .int .u8 (Int.ofNat 101), .int .u8 (Int.ofNat 107), .int .u8 (Int.ofNat 0), .int .u8 (Int.ofNat 5), .int .u8 (Int.ofNat 4), .int .u8 (Int.ofNat 119), .int .u8 (Int.ofNat 111), .int .u8 (Int.ofNat 114), .int .u8 (Int.ofNat 107), .int .u8 (Int.ofNat 0), .int .u8 (Int.ofNat 6), .int .u8 (Int.ofNat 4), .int .u8 (Int.ofNat 100), .int .u8 (Int.ofNat 101), .int .u8 (Int.ofNat 101), .int .u8 (Int.ofNat 112), .int .u8 (Int.ofNat 0), .int .u8 (Int.ofNat 7), .int .u8 (Int.ofNat 10), .int .u8 (Int.ofNat 102), .int .u8 (Int.ofNat 8), .int .u8 (Int.ofNat 11), .int .u8 (Int.ofNat 0), .int .u8 (Int.ofNat 35), .int .u8 (Int.ofNat 0), .int .u8 (Int.ofNat 32), .int .u8 (Int.ofNat 0), .int .u8 (Int.ofNat 106), .int .u8 (Int.ofNat 36), .int .u8 (Int.ofNat 0), .int .u8 (Int.ofNat 35), .int .u8 (Int.ofNat 0), .int .u8 (Int.ofNat 11), .int .u8 (Int.ofNat 4), .int .u8 (Int.ofNat 0), .int .u8 (Int.ofNat 35), .int .u8 (Int.ofNat 0), .int .u8 (Int.ofNat 11), .int .u8 (Int.ofNat 12), .int .u8 (Int.ofNat 0), .int .u8 (Int.ofNat 65), .int .u8 (Int.ofNat 227), .int .u8 (Int.ofNat 0), .int .u8 (Int.ofNat 36), .int .u8 (Int.ofNat 0), .int .u8 (Int.ofNat 3), .int .u8 (Int.ofNat 64), .int .u8 (Int.ofNat 12), .int .u8 (Int.ofNat 0), .int .u8 (Int.ofNat 11), .int .u8 (Int.ofNat 11), .int .u8 (Int.ofNat 11), .int .u8 (Int.ofNat 0), .int .u8 (Int.ofNat 35), .int .u8 (Int.ofNat 0), .int .u8 (Int.ofNat 65), .int .u8 (Int.ofNat 232), .int .u8 (Int.ofNat 7), .int .u8 (Int.ofNat 106), .int .u8 (Int.ofNat 36), .int .u8 (Int.ofNat 0), .int .u8 (Int.ofNat 0), .int .u8 (Int.ofNat 11), .int .u8 (Int.ofNat 9), .int .u8 (Int.ofNat 0), .int .u8 (Int.ofNat 32), .int .u8 (Int.ofNat 0), .int .u8 (Int.ofNat 32), .int .u8 (Int.ofNat 1), .int .u8 (Int.ofNat 58), .int .u8 (Int.ofNat 0), .int .u8 (Int.ofNat 0), .int .u8 (Int.ofNat 11), .int .u8 (Int.ofNat 7), .int .u8 (Int.ofNat 0), .int .u8 (Int.ofNat 32), .int .u8 (Int.ofNat 0), .int .u8 (Int.ofNat 45), .int .u8 (Int.ofNat 0), .int .u8 (Int.ofNat 0), .int .u8 (Int.ofNat 11), .int .u8 (Int.ofNat 31), .int .u8 (Int.ofNat 0), .int .u8 (Int.ofNat 2), .int .u8 (Int.ofNat 64), .int .u8 (Int.ofNat 3), .int .u8 (Int.ofNat 64), .int .u8 (Int.ofNat 32), .int .u8 (Int.ofNat 0), .int .u8 (Int.ofNat 69), .int .u8 (Int.ofNat 13), .int .u8 (Int.ofNat 1), .int .u8 (Int.ofNat 32), .int .u8 (Int.ofNat 0), .int .u8 (Int.ofNat 65), .int .u8 (Int.ofNat 1), .int .u8 (Int.ofNat 107), .int .u8 (Int.ofNat 33), .int .u8 (Int.ofNat 0), .int .u8 (Int.ofNat 35), .int .u8 (Int.ofNat 0), .int .u8 (Int.ofNat 65), .int .u8 (Int.ofNat 1), .int .u8 (Int.ofNat 106), .int .u8 (Int.ofNat 36), .int .u8 (Int.ofNat 0), .int .u8 (Int.ofNat 12), .int .u8 (Int.ofNat 0), .int .u8 (Int.ofNat 11), .int .u8 (Int.ofNat 11), .int .u8 (Int.ofNat 35), .int .u8 (Int.ofNat 0), .int .u8 (Int.ofNat 11), .int .u8 (Int.ofNat 8), .int .u8 (Int.ofNat 0), .int .u8 (Int.ofNat 65), .int .u8 (Int.ofNat 5), .int .u8 (Int.ofNat 36), .int .u8 (Int.ofNat 0), .int .u8 (Int.ofNat 16), .int .u8 (Int.ofNat 7), .int .u8 (Int.ofNat 11)]]
def HC:List Own:=[.pair 701]
def qE:AV:= .slice 0 0 212 212 1 false
theorem OS:kj py m5 HC qE=true:=by kernel_rfl
theorem OT:(kZ TA (ae Tryz.prog (ab Tryz.prog)) 100000 9 16 [] H0).cs none (fun v h=>some (v,lmap (au h) py))=some (jq (loc py) qE,GR (loc py) m5 HC):=by kernel_rfl
def mf:List Nat:=[74,92,100,113,163,382,51,53,61,71,111,189,203,231,257,277,294,360,380]
def km:List (List AV):=[[.nilSlice, .nilSlice, .slice 6 0 1 1 1 false, .slice 7 0 1 1 1 false, .nilSlice, .slice 8 0 1 1 1 false, .slice 9 0 2 2 1 false, .nilSlice],[.int .u32 (Int.ofNat 1), .int .u32 (Int.ofNat 2), .int .u32 (Int.ofNat 0), .int .u32 (Int.ofNat 0), .int .u32 (Int.ofNat 3), .int .u32 (Int.ofNat 1), .int .u32 (Int.ofNat 1), .int .u32 (Int.ofNat 0)],[.int .u32 (Int.ofNat 1), .int .u32 (Int.ofNat 0), .bool false],[.int .u8 (Int.ofNat 127), .bool true, .slice 10 0 2 2 6 false],[.str [105,110,99], .int .u8 (Int.ofNat 0), .int .u32 (Int.ofNat 0), .str [103,101,116], .int .u8 (Int.ofNat 0), .int .u32 (Int.ofNat 1), .str [115,112,105,110], .int .u8 (Int.ofNat 0), .int .u32 (Int.ofNat 2), .str [116,114,97,112], .int .u8 (Int.ofNat 0), .int .u32 (Int.ofNat 3), .str [112,117,116], .int .u8 (Int.ofNat 0), .int .u32 (Int.ofNat 4), .str [112,101,101,107], .int .u8 (Int.ofNat 0), .int .u32 (Int.ofNat 5), .str [119,111,114,107], .int .u8 (Int.ofNat 0), .int .u32 (Int.ofNat 6), .str [100,101,101,112], .int .u8 (Int.ofNat 0), .int .u32 (Int.ofNat 7)],[.nilSlice, .slice 11 0 6 6 6 false, .nilSlice, .slice 12 0 2 2 6 false, .nilSlice, .slice 13 0 6 6 6 false, .nilSlice, .slice 14 0 6 6 6 false, .nilSlice, .slice 15 0 4 4 6 false, .nilSlice, .slice 16 0 3 3 6 false, .nilSlice, .slice 17 0 18 18 6 false, .nilSlice, .slice 18 0 4 4 6 false],[.int .u8 (Int.ofNat 127)],[.int .u8 (Int.ofNat 127)],[.int .u8 (Int.ofNat 127)],[.int .u8 (Int.ofNat 127), .int .u8 (Int.ofNat 127)],[.int .i64 (Int.ofNat 65), .int .u32 (Int.ofNat 0), .int .u32 (Int.ofNat 0), .int .u64 (Int.ofNat 0), .nilSlice, .int .i64 (Int.ofNat 0), .int .i64 (Int.ofNat 11), .int .u32 (Int.ofNat 0), .int .u32 (Int.ofNat 0), .int .u64 (Int.ofNat 0), .nilSlice, .int .i64 (Int.ofNat 0)],[.int .i64 (Int.ofNat 35), .int .u32 (Int.ofNat 0), .int .u32 (Int.ofNat 0), .int .u64 (Int.ofNat 0), .nilSlice, .int .i64 (Int.ofNat 0), .int .i64 (Int.ofNat 32), .int .u32 (Int.ofNat 0), .int .u32 (Int.ofNat 0), .int .u64 (Int.ofNat 0), .nilSlice, .int .i64 (Int.ofNat 0), .int .i64 (Int.ofNat 106), .int .u32 (Int.ofNat 0), .int .u32 (Int.ofNat 0), .int .u64 (Int.ofNat 0), .nilSlice, .int .i64 (Int.ofNat 0), .int .i64 (Int.ofNat 36), .int .u32 (Int.ofNat 0), .int .u32 (Int.ofNat 0), .int .u64 (Int.ofNat 0), .nilSlice, .int .i64 (Int.ofNat 0), .int .i64 (Int.ofNat 35), .int .u32 (Int.ofNat 0), .int .u32 (Int.ofNat 0), .int .u64 (Int.ofNat 0), .nilSlice, .int .i64 (Int.ofNat 0), .int .i64 (Int.ofNat 11), .int .u32 (Int.ofNat 0), .int .u32 (Int.ofNat 0), .int .u64 (Int.ofNat 0), .nilSlice, .int .i64 (Int.ofNat 0)],[.int .i64 (Int.ofNat 35), .int .u32 (Int.ofNat 0), .int .u32 (Int.ofNat 0), .int .u64 (Int.ofNat 0), .nilSlice, .int .i64 (Int.ofNat 0), .int .i64 (Int.ofNat 11), .int .u32 (Int.ofNat 0), .int .u32 (Int.ofNat 0), .int .u64 (Int.ofNat 0), .nilSlice, .int .i64 (Int.ofNat 0)],[.int .i64 (Int.ofNat 65), .int .u32 (Int.ofNat 0), .int .u32 (Int.ofNat 0), .int .u64 (Int.ofNat 99), .nilSlice, .int .i64 (Int.ofNat 0), .int .i64 (Int.ofNat 36), .int .u32 (Int.ofNat 0), .int .u32 (Int.ofNat 0), .int .u64 (Int.ofNat 0), .nilSlice, .int .i64 (Int.ofNat 0), .int .i64 (Int.ofNat 3), .int .u32 (Int.ofNat 0), .int .u32 (Int.ofNat 0), .int .u64 (Int.ofNat 0), .nilSlice, .int .i64 (Int.negSucc 63), .int .i64 (Int.ofNat 12), .int .u32 (Int.ofNat 0), .int .u32 (Int.ofNat 0), .int .u64 (Int.ofNat 0), .nilSlice, .int .i64 (Int.ofNat 0), .int .i64 (Int.ofNat 11), .int .u32 (Int.ofNat 0), .int .u32 (Int.ofNat 0), .int .u64 (Int.ofNat 0), .nilSlice, .int .i64 (Int.ofNat 0), .int .i64 (Int.ofNat 11), .int .u32 (Int.ofNat 0), .int .u32 (Int.ofNat 0), .int .u64 (Int.ofNat 0), .nilSlice, .int .i64 (Int.ofNat 0)],[.int .i64 (Int.ofNat 35), .int .u32 (Int.ofNat 0), .int .u32 (Int.ofNat 0), .int .u64 (Int.ofNat 0), .nilSlice, .int .i64 (Int.ofNat 0), .int .i64 (Int.ofNat 65), .int .u32 (Int.ofNat 0), .int .u32 (Int.ofNat 0), .int .u64 (Int.ofNat 1000), .nilSlice, .int .i64 (Int.ofNat 0), .int .i64 (Int.ofNat 106), .int .u32 (Int.ofNat 0), .int .u32 (Int.ofNat 0), .int .u64 (Int.ofNat 0), .nilSlice, .int .i64 (Int.ofNat 0), .int .i64 (Int.ofNat 36), .int .u32 (Int.ofNat 0), .int .u32 (Int.ofNat 0), .int .u64 (Int.ofNat 0), .nilSlice, .int .i64 (Int.ofNat 0), .int .i64 (Int.ofNat 0), .int .u32 (Int.ofNat 0), .int .u32 (Int.ofNat 0), .int .u64 (Int.ofNat 0), .nilSlice, .int .i64 (Int.ofNat 0), .int .i64 (Int.ofNat 11), .int .u32 (Int.ofNat 0), .int .u32 (Int.ofNat 0), .int .u64 (Int.ofNat 0), .nilSlice, .int .i64 (Int.ofNat 0)],[.int .i64 (Int.ofNat 32), .int .u32 (Int.ofNat 0), .int .u32 (Int.ofNat 0), .int .u64 (Int.ofNat 0), .nilSlice, .int .i64 (Int.ofNat 0), .int .i64 (Int.ofNat 32), .int .u32 (Int.ofNat 1), .int .u32 (Int.ofNat 0), .int .u64 (Int.ofNat 0), .nilSlice, .int .i64 (Int.ofNat 0), .int .i64 (Int.ofNat 58), .int .u32 (Int.ofNat 0), .int .u32 (Int.ofNat 0), .int .u64 (Int.ofNat 0), .nilSlice, .int .i64 (Int.ofNat 0), .int .i64 (Int.ofNat 11), .int .u32 (Int.ofNat 0), .int .u32 (Int.ofNat 0), .int .u64 (Int.ofNat 0), .nilSlice, .int .i64 (Int.ofNat 0)],[.int .i64 (Int.ofNat 32), .int .u32 (Int.ofNat 0), .int .u32 (Int.ofNat 0), .int .u64 (Int.ofNat 0), .nilSlice, .int .i64 (Int.ofNat 0), .int .i64 (Int.ofNat 45), .int .u32 (Int.ofNat 0), .int .u32 (Int.ofNat 0), .int .u64 (Int.ofNat 0), .nilSlice, .int .i64 (Int.ofNat 0), .int .i64 (Int.ofNat 11), .int .u32 (Int.ofNat 0), .int .u32 (Int.ofNat 0), .int .u64 (Int.ofNat 0), .nilSlice, .int .i64 (Int.ofNat 0)],[.int .i64 (Int.ofNat 2), .int .u32 (Int.ofNat 0), .int .u32 (Int.ofNat 0), .int .u64 (Int.ofNat 0), .nilSlice, .int .i64 (Int.negSucc 63), .int .i64 (Int.ofNat 3), .int .u32 (Int.ofNat 0), .int .u32 (Int.ofNat 0), .int .u64 (Int.ofNat 0), .nilSlice, .int .i64 (Int.negSucc 63), .int .i64 (Int.ofNat 32), .int .u32 (Int.ofNat 0), .int .u32 (Int.ofNat 0), .int .u64 (Int.ofNat 0), .nilSlice, .int .i64 (Int.ofNat 0), .int .i64 (Int.ofNat 69), .int .u32 (Int.ofNat 0), .int .u32 (Int.ofNat 0), .int .u64 (Int.ofNat 0), .nilSlice, .int .i64 (Int.ofNat 0), .int .i64 (Int.ofNat 13), .int .u32 (Int.ofNat 1), .int .u32 (Int.ofNat 0), .int .u64 (Int.ofNat 0), .nilSlice, .int .i64 (Int.ofNat 0), .int .i64 (Int.ofNat 32), .int .u32 (Int.ofNat 0), .int .u32 (Int.ofNat 0), .int .u64 (Int.ofNat 0), .nilSlice, .int .i64 (Int.ofNat 0), .int .i64 (Int.ofNat 65), .int .u32 (Int.ofNat 0), .int .u32 (Int.ofNat 0), .int .u64 (Int.ofNat 1), .nilSlice, .int .i64 (Int.ofNat 0), .int .i64 (Int.ofNat 107), .int .u32 (Int.ofNat 0), .int .u32 (Int.ofNat 0), .int .u64 (Int.ofNat 0), .nilSlice, .int .i64 (Int.ofNat 0), .int .i64 (Int.ofNat 33), .int .u32 (Int.ofNat 0), .int .u32 (Int.ofNat 0), .int .u64 (Int.ofNat 0), .nilSlice, .int .i64 (Int.ofNat 0), .int .i64 (Int.ofNat 35), .int .u32 (Int.ofNat 0), .int .u32 (Int.ofNat 0), .int .u64 (Int.ofNat 0), .nilSlice, .int .i64 (Int.ofNat 0), .int .i64 (Int.ofNat 65), .int .u32 (Int.ofNat 0), .int .u32 (Int.ofNat 0), .int .u64 (Int.ofNat 1), .nilSlice, .int .i64 (Int.ofNat 0), .int .i64 (Int.ofNat 106), .int .u32 (Int.ofNat 0), .int .u32 (Int.ofNat 0), .int .u64 (Int.ofNat 0), .nilSlice, .int .i64 (Int.ofNat 0), .int .i64 (Int.ofNat 36), .int .u32 (Int.ofNat 0), .int .u32 (Int.ofNat 0), .int .u64 (Int.ofNat 0), .nilSlice, .int .i64 (Int.ofNat 0), .int .i64 (Int.ofNat 12), .int .u32 (Int.ofNat 0), .int .u32 (Int.ofNat 0), .int .u64 (Int.ofNat 0), .nilSlice, .int .i64 (Int.ofNat 0), .int .i64 (Int.ofNat 11), .int .u32 (Int.ofNat 0), .int .u32 (Int.ofNat 0), .int .u64 (Int.ofNat 0), .nilSlice, .int .i64 (Int.ofNat 0), .int .i64 (Int.ofNat 11), .int .u32 (Int.ofNat 0), .int .u32 (Int.ofNat 0), .int .u64 (Int.ofNat 0), .nilSlice, .int .i64 (Int.ofNat 0), .int .i64 (Int.ofNat 35), .int .u32 (Int.ofNat 0), .int .u32 (Int.ofNat 0), .int .u64 (Int.ofNat 0), .nilSlice, .int .i64 (Int.ofNat 0), .int .i64 (Int.ofNat 11), .int .u32 (Int.ofNat 0), .int .u32 (Int.ofNat 0), .int .u64 (Int.ofNat 0), .nilSlice, .int .i64 (Int.ofNat 0)],[.int .i64 (Int.ofNat 65), .int .u32 (Int.ofNat 0), .int .u32 (Int.ofNat 0), .int .u64 (Int.ofNat 5), .nilSlice, .int .i64 (Int.ofNat 0), .int .i64 (Int.ofNat 36), .int .u32 (Int.ofNat 0), .int .u32 (Int.ofNat 0), .int .u64 (Int.ofNat 0), .nilSlice, .int .i64 (Int.ofNat 0), .int .i64 (Int.ofNat 16), .int .u32 (Int.ofNat 7), .int .u32 (Int.ofNat 0), .int .u64 (Int.ofNat 0), .nilSlice, .int .i64 (Int.ofNat 0), .int .i64 (Int.ofNat 11), .int .u32 (Int.ofNat 0), .int .u32 (Int.ofNat 0), .int .u64 (Int.ofNat 0), .nilSlice, .int .i64 (Int.ofNat 0)]]
def BN:List Own:=[.pair 64, .pair 90, .solo, .solo, .pair 157, .pair 362, .solo, .solo, .solo, .pair 69, .pair 108, .pair 186, .pair 200, .pair 228, .pair 254, .pair 274, .pair 291, .pair 357, .pair 377]
def m6:AV:= .tuple [.agg [.slice 0 0 4 4 2 false, .slice 1 0 8 8 1 false, .nilSlice, .slice 2 0 1 1 3 false, .slice 3 0 1 1 3 false, .slice 4 0 8 8 3 false, .bool false, .int .u32 (Int.ofNat 0), .nilSlice, .bool false, .int .u32 (Int.ofNat 0), .slice 5 0 8 8 2 false, .nilSlice], .int .i64 (Int.ofNat 0)]
theorem Mm:kj mf km BN m6=true:=by kernel_rfl
def iB:List Nat:=[0,97,115,109,1,0,0,0,1,18,4,96,0,0,96,1,127,1,127,96,0,1,127,96,2,127,127,0,3,9,8,1,2,0,0,3,1,1,0,5,3,1,0,1,6,6,1,127,1,65,0,11,7,54,8,3,105,110,99,0,0,3,103,101,116,0,1,4,115,112,105,110,0,2,4,116,114,97,112,0,3,3,112,117,116,0,4,4,112,101,101,107,0,5,4,119,111,114,107,0,6,4,100,101,101,112,0,7,10,102,8,11,0,35,0,32,0,106,36,0,35,0,11,4,0,35,0,11,12,0,65,227,0,36,0,3,64,12,0,11,11,11,0,35,0,65,232,7,106,36,0,0,11,9,0,32,0,32,1,58,0,0,11,7,0,32,0,45,0,0,11,31,0,2,64,3,64,32,0,69,13,1,32,0,65,1,107,33,0,35,0,65,1,106,36,0,12,0,11,11,35,0,11,8,0,65,5,36,0,16,7,11]
theorem Mn:(kZ TA (ae Tryz.prog (ab Tryz.prog)) 100000 14 135 [.slice 0 0 (len iB) (len iB) 1 false] (hB iB)).cs none (fun v h=>some (v,lmap (au h) mf))=some (jq (loc mf) m6,GR (loc mf) km BN):=by kernel_rfl
def HD (f:Nat):Option (List AV→Hp→RV):=(bc (Nat.beq f 16) (some (tN qE m5)) (bc (Nat.beq f 135) (some (tP iB m6 km)) none))
theorem BO:Eng.Good Tryz.prog fun f args h=>av .no (fun m=>m args h) (HD f):=fun f args h v h' μ w cargs e hs r=>by
 replace e:av RV.no (fun m=>m args h) (bc (Nat.beq f 16) (some (tN qE m5)) (bc (Nat.beq f 135) (some (tP iB m6 km)) none))= .ok v h':=e
 cases hf0:Nat.beq f 16 with
 | true=>
   obtain rfl:f=16:=Nat.eq_of_beq_eq_true hf0
   rw [hf0] at e
   replace e:(tN qE m5) args h= .ok v h':=e
   exact BL bT pj OT OS e hs r
 | false=>
   rw [hf0,bc_false] at e
   cases hf1:Nat.beq f 135 with
   | true=>
     obtain rfl:f=135:=Nat.eq_of_beq_eq_true hf1
     rw [hf1] at e
     replace e:(tP iB m6 km) args h= .ok v h':=e
     exact BM (by unfold iB;nofun) bT pj Mn Mm e hs r
   | false=>
     rw [hf1,bc_false] at e
     cases e
abbrev Mo:Nat→Option (List AV→Hp→RV):=orM HD OQ
theorem tQ:Eng.Good Tryz.prog fun f args h=>av .no (fun m=>m args h) (Mo f):=BC BO GO
end Go.Proofs.YtfcljjhlijolgaaGreatDoor
end
section
set_option linter.unusedVariables false
namespace Eng
open Go Go.RowKit
def qm (d s:Nat):AO:=⟨some d, .q (.move (.tmp s)),none⟩
def qo (d:Nat) (o:lK):AO:=⟨some d, .q o,none⟩
def lo (d:Nat) (o:As):AO:=⟨some d, .l o,none⟩
def eo (d:Nat) (o:qV):AO:=⟨some d, .e o,none⟩
def en (o:qV):AO:=⟨none, .e o,none⟩
def tq (n:Nat):AX:= .tmp n
def BP (es:List (Nat×AF)):Tr AF:=bV .lf (fun e _ ih=>cO (pathOf e.1) e.2 ih) es
theorem qF: ∀(es:List (Nat×AF)) (f:Nat) (af:AF),bf (pathOf f) (BP es)=some af→(f,af)∈ es
 | [],f,af,h=>by
   have h:bf (pathOf f) (.lf:Tr AF)=some af:=h
   rw [dA] at h;cases h
 | e::es,f,af,h=>by
   have h:bf (pathOf f) (cO (pathOf e.1) e.2 (BP es))=some af:=h
   by_cases q:f=e.1
   ·subst q
    rw [cE] at h
    cases h
    exact List.mem_cons_self
   ·rw [bD _ _ _ _ (fun q'=>q (bw q'))] at h
    exact List.mem_cons_of_mem _ (qF es f af h)
def Mq (P:Program) (D:Nat→Array Oper→AC) (t:Tr AF) (f:Nat):Option AF:=av (ae P D f) some (bf (pathOf f) t)
theorem GS {P:Program} {D:Nat→Array Oper→AC} {es:List (Nat×AF)} (h: ∀e ∈ es,ae P D e.1=some e.2):Mq P D (BP es)=ae P D:=by
 funext f
 unfold Mq
 cases q:bf (pathOf f) (BP es) with
 | none=>rfl
 | some af=>exact (h _ (qF es f af q)).symm
end Eng
end
section
set_option linter.unusedVariables false
namespace Eng
open Go Go.RowKit
instance (n:Nat):OfNat AX n:=⟨.tmp n⟩
def ci (n:Nat):AX:= .const (.int .i64 (.ofNat n))
def cq (n:Nat):AX:= .const (.int .u64 (.ofNat n))
def cw (n:Nat):AX:= .const (.int .u32 (.ofNat n))
def cb (n:Nat):AX:= .const (.int .u8 (.ofNat n))
def cT:AX:= .const (.bool true)
def cF:AX:= .const (.bool false)
def cP:AX:= .const .nilPtr
def cS:AX:= .const .nilSlice
def cf (n:Nat):AX:= .const (.func (.func n) [] [])
def fa (d o:Nat) (s:AX):AO:=qo d (.fieldAddr o s)
def l1 (d:Nat) (s:AX):AO:=qo d (.loadS s)
def l2 (d n:Nat) (s:AX):AO:=qo d (.loadA n s)
def nk (d:Nat) (s:AX):AO:=qo d (.nilCheck s)
def mv (d:Nat) (s:AX):AO:=qo d (.move s)
def ex (d i:Nat) (s:AX):AO:=qo d (.extract i s)
def ln (d:Nat) (s:AX):AO:=qo d (.lenL s)
def ei (d:Nat) (a b:AX):AO:=qo d (.eq .int false a b)
def ix (d n:Nat) (a b:AX):AO:=qo d (.idxAddrSl n a b)
def pk (d:Nat) (a b c:AX):AO:=qo d (.pick a b c)
def ca (d f:Nat) (l:List AX):AO:=eo d (.call (cf f) l)
def rg (l:List AO):AC:= .region l
end Eng
end
section
set_option linter.unusedVariables false
namespace Eng
open Go
def GU (o:Nat→lK) (f:Nat→AV) (c:Nat→Bool) (N:Nat):Bool:=
 Nat.rec (motive:=fun _=>Bool) true (fun m ih=>bc (bc (c m) ((aq (o m) .lf H0).cs false fun v=>dB v (f m)) true) ih false) N
theorem t0 {o:lK} {v:AV} (h:((aq o .lf H0).cs false fun u=>dB u v)=true):aq o .lf H0= .ok v:=by
 cases e:aq o .lf H0 with
 | no=>rw [e] at h;cases h
 | ok u=>rw [e] at h;rw [l_ u v h]
theorem t1 {o:Nat→lK} {f:Nat→AV} {c:Nat→Bool} {N:Nat} (h:GU o f c N=true) {a:Nat} (ha:a < N) (hc:c a=true):aq (o a) .lf H0= .ok (f a):=by
 induction N with
 | zero=>omega
 | succ m ih=>
   have h:bc (bc (c m) ((aq (o m) .lf H0).cs false fun v=>dB v (f m)) true) (GU o f c m) false=true:=h
   obtain ⟨h1,h2⟩:=aR.1 h
   by_cases e:a=m
   ·subst e
    rw [hc] at h1
    exact t0 h1
   ·exact ih h2 (by omega)
def HE (o:Nat→Nat→lK) (f:Nat→Nat→AV) (c d:Nat→Bool) (M N:Nat):Bool:=
 Nat.rec (motive:=fun _=>Bool) true (fun m ih=>bc (bc (c m) (GU (o m) (f m) d M) true) ih false) N
theorem t2 {o:Nat→Nat→lK} {f:Nat→Nat→AV} {c d:Nat→Bool} {M N:Nat} (h:HE o f c d M N=true) {a b:Nat} (ha:a < N) (hb:b < M) (hc:c a=true) (hd:d b=true):aq (o a b) .lf H0= .ok (f a b):=by
 induction N with
 | zero=>omega
 | succ m ih=>
   have h:bc (bc (c m) (GU (o m) (f m) d M) true) (HE o f c d M m) false=true:=h
   obtain ⟨h1,h2⟩:=aR.1 h
   by_cases e:a=m
   ·subst e
    rw [hc] at h1
    exact t1 h1 hb hd
   ·exact ih h2 (by omega)
end Eng
end
section
set_option linter.unusedVariables false
namespace Eng
open Go
inductive AE where
 | i (n:Int)
 | s (l:List Nat)
 | j (n k:Int)
 | b (x y:Bool)
inductive PT where
 | leaf
 | tell (c w:Nat) (o:lK) (v:AV) (r:PT)
 | fork (c w:Nat) (raw:Bool) (a b:PT)
 | agn (c w:Nat) (l:List AE) (r:PT)
noncomputable section
def AE.TZ (x:AE):Prop:=AE.rec (motive:=fun _=>Prop) (fun n=>n=n) (fun l=>l=l) (fun n k=>n=k) (fun x y=>x=y) x
def AE.fm (x:AE):Bool:=AE.rec (motive:=fun _=>Bool) (fun _=>true) (fun _=>true) (fun n k=>je n k) (fun x y=>bc x y (aP y)) x
theorem AE.ok {x:AE} (h:x.fm=true):x.TZ:=by
 cases x with
 | i n=>rfl
 | s l=>rfl
 | b x y=>
   have h:bc x y (aP y)=true:=h
   show x=y
   cases x <;> cases y <;> first | rfl | cases h
 | j n k=>have h:je n k=true:=h;rw [dj] at h;have h2:n=k:=of_decide_eq_true h;exact h2
def PT.prop (t:PT):Prop:=PT.rec (motive:=fun _=>Prop) (AV.bool true= .bool true) (fun _ _ o v _ r=>aq o .lf H0= .ok v∧r) (fun _ _ raw _ _ a b=>(raw=true→a)∧(raw=false→b)) (fun _ _ l _ r=>bV r (fun x _ ih=>x.TZ∧ih) l) t
def m7 (p w:Nat):Bool:=bc (Nat.beq p 3) (bc (Nat.beq w 1) false (bc (Nat.beq w 2) false true)) (Nat.beq p w)
def PT.fm (p:Nat) (t:PT):Bool:=PT.rec (motive:=fun _=>Bool) true (fun _ w o v _ r=>bc (m7 p w) (bc ((aq o .lf H0).cs false fun u=>dB u v) r false) r)
 (fun _ w raw _ _ a b=>bc (bc (Nat.beq p 3) true (Nat.beq p w)) (bc raw a b) (bc a b false)) (fun _ w l _ r=>bc (m7 p w) (bc (a9 AE.fm l) r false) r) t
theorem qG (w:Nat):m7 1 w=true∨m7 2 w=true∨m7 3 w=true:=by
 by_cases h1:w=1
 ·subst h1;exact .inl rfl
 ·by_cases h2:w=2
  ·subst h2;exact .inr (.inl rfl)
  ·refine .inr (.inr ?_)
   show bc (Nat.beq w 1) false (bc (Nat.beq w 2) false true)=true
   rw [pS h1,pS h2];rfl
theorem PT.ok: ∀(t:PT),t.fm 1=true→t.fm 2=true→t.fm 3=true→t.prop
 | .leaf,_,_,_=>rfl
 | .tell c w o v r,h1,h2,h3=>by
   have key: ∀p,PT.fm p (.tell c w o v r)=true→r.fm p=true∧(m7 p w=true→((aq o .lf H0).cs false fun u=>dB u v)=true):=fun p h=>by
    have h:bc (m7 p w) (bc ((aq o .lf H0).cs false fun u=>dB u v) (r.fm p) false) (r.fm p)=true:=h
    cases hs:m7 p w with
    | true=>
      rw [hs] at h
      obtain ⟨k1,k2⟩:=aR.1 h
      exact ⟨k2,fun _=>k1⟩
    | false=>rw [hs] at h;exact ⟨h,nofun⟩
   obtain ⟨a1,b1⟩:=key 1 h1
   obtain ⟨a2,b2⟩:=key 2 h2
   obtain ⟨a3,b3⟩:=key 3 h3
   refine ⟨t0 ?_,PT.ok r a1 a2 a3⟩
   rcases qG w with h | h | h
   ·exact b1 h
   ·exact b2 h
   ·exact b3 h
 | .fork c w raw a b,h1,h2,h3=>by
   have key: ∀p,PT.fm p (.fork c w raw a b)=true→(raw=true→a.fm p=true)∧(raw=false→b.fm p=true):=fun p h=>by
    have h:bc (bc (Nat.beq p 3) true (Nat.beq p w)) (bc raw (a.fm p) (b.fm p)) (bc (a.fm p) (b.fm p) false)=true:=h
    cases hs:bc (Nat.beq p 3) true (Nat.beq p w) with
    | true=>rw [hs] at h;exact ⟨fun e=>(by rw [e] at h;exact h),fun e=>(by rw [e] at h;exact h)⟩
    | false=>
      rw [hs] at h
      obtain ⟨k1,k2⟩:=aR.1 h
      exact ⟨fun _=>k1,fun _=>k2⟩
   obtain ⟨a1,b1⟩:=key 1 h1
   obtain ⟨a2,b2⟩:=key 2 h2
   obtain ⟨a3,b3⟩:=key 3 h3
   exact ⟨fun e=>PT.ok a (a1 e) (a2 e) (a3 e),fun e=>PT.ok b (b1 e) (b2 e) (b3 e)⟩
 | .agn c w l r,h1,h2,h3=>by
   have key: ∀p,PT.fm p (.agn c w l r)=true→r.fm p=true∧(m7 p w=true→a9 AE.fm l=true):=fun p h=>by
    have h:bc (m7 p w) (bc (a9 AE.fm l) (r.fm p) false) (r.fm p)=true:=h
    cases hs:m7 p w with
    | true=>
      rw [hs] at h
      obtain ⟨k1,k2⟩:=aR.1 h
      exact ⟨k2,fun _=>k1⟩
    | false=>rw [hs] at h;exact ⟨h,nofun⟩
   obtain ⟨a1,b1⟩:=key 1 h1
   obtain ⟨a2,b2⟩:=key 2 h2
   obtain ⟨a3,b3⟩:=key 3 h3
   have hr:=PT.ok r a1 a2 a3
   have hl:a9 AE.fm l=true:=by
    rcases qG w with h | h | h
    ·exact b1 h
    ·exact b2 h
    ·exact b3 h
   show bV r.prop (fun x _ ih=>x.TZ∧ih) l
   clear h1 h2 h3 key b1 b2 b3
   induction l with
   | nil=>exact hr
   | cons x l ih=>
     obtain ⟨k1,k2⟩:=aR.1 (show bc x.fm (a9 AE.fm l) false=true from hl)
     exact ⟨AE.ok k1,ih k2⟩
end
end Eng
end
section
set_option linter.unusedVariables false
set_option linter.unusedSimpArgs false
namespace Eng
open Go Go.RowKit
def Mp.GV (μ μ':Mp):Prop:= ∀b c s,μ.at_ b=some (c,s)→μ'.at_ b=some (c,s)∧μ'.size c=μ.size c
mutual
theorem VR.jc {μ μ':Mp} (h:μ.GV μ'): ∀(v:AV) (x:Value),VR μ v x→VR μ' v x
 | .bool _,_,r=>by unfold VR at *;exact r
 | .int _ _,_,r=>by unfold VR at *;exact r
 | .str _,_,r=>by unfold VR at *;exact r
 | .nilPtr,_,r=>by unfold VR at *;exact r
 | .ptr b o,_,r=>by
   unfold VR at *
   obtain ⟨c,s,hb,hx⟩:=r
   exact ⟨c,s,(h _ _ _ hb).1,hx⟩
 | .nilSlice,_,r=>by unfold VR at *;exact r
 | .slice b o l cp sz ex,_,r=>by
   unfold VR at *
   obtain ⟨c,s,s',cp',hb,hx,h1,h2,h3,h4⟩:=r
   exact ⟨c,s,s',cp',(h _ _ _ hb).1,hx,h1,h2,h3,by rw [(h _ _ _ hb).2];exact h4⟩
 | .nilMap,_,r=>by unfold VR at *;exact r
 | .map b,_,r=>by
   unfold VR at *
   obtain ⟨c,s,hb,hx⟩:=r
   exact ⟨c,s,(h _ _ _ hb).1,hx⟩
 | .func fn a b,_,r=>by
   unfold VR at *
   obtain ⟨a',b',hx,ha,hb⟩:=r
   exact ⟨a',b',hx,bb.jc h a _ ha,bb.jc h b _ hb⟩
 | .nilFunc,_,r=>by unfold VR at *;exact r
 | .iface t v,_,r=>by
   unfold VR at *
   obtain ⟨v',hx,hv⟩:=r
   exact ⟨v',hx,VR.jc h v _ hv⟩
 | .nilIface,_,r=>by unfold VR at *;exact r
 | .agg l,_,r=>by
   unfold VR at *
   obtain ⟨l',hx,hl⟩:=r
   exact ⟨l',hx,bb.jc h l _ hl⟩
 | .tuple l,_,r=>by
   unfold VR at *
   rcases r with r | ⟨l',hx,hl⟩
   ·exact .inl r
   ·exact .inr ⟨l',hx,bb.jc h l _ hl⟩
theorem bb.jc {μ μ':Mp} (h:μ.GV μ'): ∀(l:List AV) (xs:List Value),bb μ l xs→bb μ' l xs
 | [],_,r=>by unfold bb at *;exact r
 | v::vs,_,r=>by
   unfold bb at *
   obtain ⟨x,xs,hx,h1,h2⟩:=r
   exact ⟨x,xs,hx,VR.jc h v _ h1,bb.jc h vs _ h2⟩
end
mutual
theorem VR.back {μ μ':Mp} (h:μ.GV μ'): ∀(v:AV) (x0 x:Value),VR μ v x0→VR μ' v x→VR μ v x
 | .bool _,_,_,_,r=>by unfold VR at *;exact r
 | .int _ _,_,_,_,r=>by unfold VR at *;exact r
 | .str _,_,_,_,r=>by unfold VR at *;exact r
 | .nilPtr,_,_,_,r=>by unfold VR at *;exact r
 | .ptr b o,_,_,r0,r=>by
   unfold VR at *
   obtain ⟨c0,s0,hb0,_⟩:=r0
   obtain ⟨c,s,hb,hx⟩:=r
   rw [(h _ _ _ hb0).1] at hb
   cases hb
   exact ⟨c0,s0,hb0,hx⟩
 | .nilSlice,_,_,_,r=>by unfold VR at *;exact r
 | .slice b o l cp sz ex,_,_,r0,r=>by
   unfold VR at *
   obtain ⟨c0,s0,_,_,hb0,_⟩:=r0
   obtain ⟨c,s,s',cp',hb,hx,h1,h2,h3,h4⟩:=r
   rw [(h _ _ _ hb0).1] at hb
   cases hb
   exact ⟨c0,s0,s',cp',hb0,hx,h1,h2,h3,by rw [←(h _ _ _ hb0).2];exact h4⟩
 | .nilMap,_,_,_,r=>by unfold VR at *;exact r
 | .map b,_,_,r0,r=>by
   unfold VR at *
   obtain ⟨c0,s0,hb0,_⟩:=r0
   obtain ⟨c,s,hb,hx⟩:=r
   rw [(h _ _ _ hb0).1] at hb
   cases hb
   exact ⟨c0,s0,hb0,hx⟩
 | .func fn a b,_,_,r0,r=>by
   unfold VR at *
   obtain ⟨a0,b0,_,ha0,hb0⟩:=r0
   obtain ⟨a',b',hx,ha,hb⟩:=r
   exact ⟨a',b',hx,bb.back h a _ _ ha0 ha,bb.back h b _ _ hb0 hb⟩
 | .nilFunc,_,_,_,r=>by unfold VR at *;exact r
 | .iface t v,_,_,r0,r=>by
   unfold VR at *
   obtain ⟨v0,_,hv0⟩:=r0
   obtain ⟨v',hx,hv⟩:=r
   exact ⟨v',hx,VR.back h v _ _ hv0 hv⟩
 | .nilIface,_,_,_,r=>by unfold VR at *;exact r
 | .agg l,_,_,r0,r=>by
   unfold VR at *
   obtain ⟨l0,_,hl0⟩:=r0
   obtain ⟨l',hx,hl⟩:=r
   exact ⟨l',hx,bb.back h l _ _ hl0 hl⟩
 | .tuple l,_,_,r0,r=>by
   unfold VR at *
   rcases r with r | ⟨l',hx,hl⟩
   ·exact .inl r
   ·rcases r0 with r0 | ⟨l0,_,hl0⟩
    ·exact .inl ⟨r0.1,fun b e=>by rw [hx] at e;cases e⟩
    ·exact .inr ⟨l',hx,bb.back h l _ _ hl0 hl⟩
theorem bb.back {μ μ':Mp} (h:μ.GV μ'): ∀(l:List AV) (xs0 xs:List Value),bb μ l xs0→bb μ' l xs→bb μ l xs
 | [],_,_,_,r=>by unfold bb at *;exact r
 | v::vs,_,_,r0,r=>by
   unfold bb at *
   obtain ⟨x0,xs0,_,h10,h20⟩:=r0
   obtain ⟨x,xs,hx,h1,h2⟩:=r
   exact ⟨x,xs,hx,VR.back h v _ _ h10 h1,bb.back h vs _ _ h20 h2⟩
end
def HF (S:List Nat) (h:Hp):Hp:=⟨h.next,bV .lf (fun b _ ih=>av ih (fun x=>cO (pathOf b) x ih) (au h b)) S⟩
def Mr (x:aY):Bool:=match x with
 | .cells _ _ w=>match w with | .pair _=>false | _=>true
 | .mp _ _ _=>true
 | .dead=>false
open Classical in
def Mp.only (μ:Mp) (S:List Nat):Mp:=⟨μ.at_,fun c=>μ.own c && decide (∃b ∈ S,∃s,μ.at_ b=some (c,s)),μ.size⟩
open Classical in
theorem pz (μ:Mp) (S:List Nat) (c:Nat):(μ.only S).own c=(μ.own c && decide (∃b ∈ S,∃s,μ.at_ b=some (c,s))):=rfl
open Classical in
theorem uZ {μ:Mp} {S:List Nat} {c:Nat} (h:(μ.only S).own c=true):μ.own c=true∧∃b ∈ S,∃s,μ.at_ b=some (c,s):=by
 rw [pz,Bool.and_eq_true] at h
 exact ⟨h.1,of_decide_eq_true h.2⟩
theorem BQ {μ:Mp} {S:List Nat} {b c s:Nat} (hb:b ∈ S) (h:μ.at_ b=some (c,s)):(μ.only S).own c=μ.own c:=by
 rw [pz]
 simp only [decide_eq_true_eq,Bool.and_eq_left_iff_imp]
 exact fun _=>⟨b,hb,s,h⟩
theorem GV.only (μ:Mp) (S:List Nat):μ.GV (μ.only S):=fun b c s h=>⟨h,rfl⟩
theorem b7.jc {μ μ':Mp} {es:List (AV×AV×Nat)} {es':List MapEntry} (hle:μ.GV μ') (r:b7 μ es es'):b7 μ' es es':=
 ⟨r.1,fun i k v n hi=>by
  obtain ⟨h1,e,h2,h3,h4,h5⟩:=r.2 i k v n hi
  exact ⟨h1,e,h2,VR.jc hle _ _ h3,VR.jc hle _ _ h4,h5⟩⟩
theorem b7.back {μ μ':Mp} {es:List (AV×AV×Nat)} {es0 es':List MapEntry} (hle:μ.GV μ') (r0:b7 μ es es0) (r:b7 μ' es es'):b7 μ es es':=
 ⟨r.1,fun i k v n hi=>by
  obtain ⟨_,e0,_,h30,h40,_⟩:=r0.2 i k v n hi
  obtain ⟨h1,e,h2,h3,h4,h5⟩:=r.2 i k v n hi
  exact ⟨h1,e,h2,VR.back hle _ _ _ h30 h3,VR.back hle _ _ _ h40 h4,h5⟩⟩
section
variable {μ:Mp} {g:Hp} {w:World} {S:List Nat}
theorem bq.fixed (hs:bq μ g w) (hS: ∀b ∈ S,∃x,au g b=some x∧Mr x=true) {μ1:Mp} {h1:Hp} {w1:World} (hs1:bq μ1 h1 w1) (go:bF (μ.only S) (HF S g) w μ1 h1 w1)
  (same: ∀b ∈ S,au h1 b=au g b):bq μ g w1∧bF μ g w μ g w1:=by
 have hle:μ.GV μ1:=fun b c s hb=>by
  have hlt:b < (HF S g).next:=by
   rcases Nat.lt_or_ge b g.next with h | h
   ·exact h
   ·rw [hs.lt b h] at hb;cases hb
  exact ⟨(go.at_ b hlt).trans hb,go.size c (hs.dW b c s hb)⟩
 refine ⟨⟨hs.lt,hs.fresh,fun b c s hb=>Nat.lt_of_lt_of_le (hs.dW b c s hb) go.heap,fun b c s x hb hx=>?_,hs.apart,hs.peer⟩,
  ⟨Nat.le_refl _,fun _ _=>rfl,fun _ _=>rfl,fun _ _=>rfl,go.heap,fun c hc ho=>go.kept c hc (by rw [pz,ho];rfl),fun _ _ _=> .inl rfl,go.os,go.tape,go.output⟩⟩
 have r0:=hs.d_ b c s x hb hx
 have hc:=hs.dW b c s hb
 by_cases hbS:b ∈ S
 ·have hat:=(hle b c s hb).1
  have r:=hs1.d_ b c s x hat ((same b hbS).trans hx)
  have ho:μ1.own c=μ.own c:=(go.own c hc).trans (BQ hbS hb)
  have hz:μ1.size c=μ.size c:=(hle b c s hb).2
  cases x with
  | cells cs n ow=>
    obtain ⟨g1,g2,g3,arr0,e0,fr0,g4,g5,g6,g7⟩:=r0
    obtain ⟨h1,h2,h3,arr,e,fr,h4,h5,h6,h7⟩:=r
    refine ⟨h1,h2,g3,arr,e,fr,h4,by rw [←hz];exact h5,by rw [←ho];exact h6,fun i v hv=>?_⟩
    obtain ⟨x0,_,r0⟩:=g7 i v hv
    obtain ⟨x,hx,r⟩:=h7 i v hv
    exact ⟨x,hx,VR.back hle _ _ _ r0 r⟩
  | mp es n ck=>
    obtain ⟨g1,g2,g3,es0,g4,g5⟩:=r0
    obtain ⟨h1,h2,h3,es',h4,h5⟩:=r
    exact ⟨h1,h2,g3,es',h4,b7.back hle g5 h5⟩
  | dead=>trivial
 ·cases x with
  | dead=>trivial
  | _=>
    have ho:(μ.only S).own c=false:=by
     cases h:(μ.only S).own c with
     | false=>rfl
     | true=>
       exfalso
       obtain ⟨ho,b',hb'S,s',hb'⟩:=uZ h
       obtain ⟨x',hx',ha⟩:=hS b' hb'S
       have hne:b≠b':=fun e=>hbS (e ▸ hb'S)
       obtain ⟨cs,n,cs',n',_,e2⟩:=hs.apart b b' c s s' _ x' hne hb hb' ho hx hx' nofun (fun e=>by rw [e] at ha;cases ha)
       rw [e2] at ha
       cases ha
    have hw:w1.heap[c]? =w.heap[c]? :=go.kept c hc ho
    exact r0.mono (Mp.Le.refl μ) hw rfl rfl
end
end Eng
end
section
set_option linter.unusedVariables false
set_option linter.unusedSimpArgs false
namespace Eng
open Go Go.RowKit
abbrev pA:=List AV→Hp→Nat→bW→KR→Prop
noncomputable section
def BR (z:Prop) (f:pA→Prop) (o:Option pA):Prop:=Option.rec (motive:=fun _=>Prop) z f o
def qH (MW:Nat→Option pA) (M:Nat→Option (List AV→Hp→RV)) (S:Nat→Option AF) (N:Nat) (d:Nat):iG:=
 Nat.rec (motive:=fun _=>iG) (fun _ _ _ _ _ _=>False) (fun d' ih f args h c r k=>
  BR (av (OH S N (kZ M S N d') ih f args h c r k) (fun m=>(m args h).cs False fun v h=>k v h c r) (M f)) (fun (w:pA)=>w args h c r k) (MW f)) d
end
theorem pB {MW:Nat→Option pA} {M:Nat→Option (List AV→Hp→RV)} {S:Nat→Option AF} {N:Nat}
  (hw: ∀f w,MW f=some w→∃m,M f=some m∧∀args h c r k,w args h c r k→∃v h' c' r',m args h= .ok v h'∧k v h' c' r'): ∀d,eP (kZ M S N d) (qH MW M S N d)
 | 0=>fun f args h c r k e=>False.elim e
 | d+1=>fun f args h c r k e=>by
   have e:(BR (av (OH S N (kZ M S N d) (qH MW M S N d) f args h c r k) (fun m=>(m args h).cs False fun v h=>k v h c r) (M f)) (fun (w:pA)=>w args h c r k) (MW f):Prop):=e
   show∃v h' c' r',av (kv S N (kZ M S N d) f args h) (fun m=>m args h) (M f)= .ok v h'∧_
   cases hq:MW f with
   | some w=>
     rw [hq] at e
     obtain ⟨m,hm,H⟩:=hw f w hq
     rw [hm]
     exact H args h c r k e
   | none=>
     rw [hq] at e
     have e:(av (OH S N (kZ M S N d) (qH MW M S N d) f args h c r k) (fun m=>(m args h).cs False fun v h=>k v h c r) (M f):Prop):=e
     cases hm:M f with
     | none=>rw [hm] at e;exact Br (pB hw d) f args h c r k e
     | some m=>rw [hm] at e;obtain ⟨v,h',h2,h3⟩:=OI e;exact ⟨v,h',_,_,h2,h3⟩
end Eng
end
section
set_option linter.unusedVariables false
set_option linter.unusedSimpArgs false
namespace Eng
open Go Go.RowKit
section
variable {k:IntKind} {a b c:Nat}
theorem Ms (h:a < b):aq (.bin .lss (.const (.int k (.ofNat a))) (.const (.int k (.ofNat b)))) .lf H0= .ok (.bool true):=by
 show bc (br k k) (OV.ok (.bool (eC (.ofNat a) (.ofNat b)))) .no=_
 rw [dX,qn h];rfl
theorem Mt (h:b≤a):aq (.bin .lss (.const (.int k (.ofNat a))) (.const (.int k (.ofNat b)))) .lf H0= .ok (.bool false):=by
 show bc (br k k) (OV.ok (.bool (eC (.ofNat a) (.ofNat b)))) .no=_
 rw [dX,cH h];rfl
theorem Mu (h:b≤a):aq (.bin .geq (.const (.int k (.ofNat a))) (.const (.int k (.ofNat b)))) .lf H0= .ok (.bool true):=by
 show bc (br k k) (OV.ok (.bool (aP (eC (.ofNat a) (.ofNat b))))) .no=_
 rw [dX,cH h];rfl
theorem Mv (h:b < a):aq (.bin .gtr (.const (.int k (.ofNat a))) (.const (.int k (.ofNat b)))) .lf H0= .ok (.bool true):=by
 show bc (br k k) (OV.ok (.bool (eC (.ofNat b) (.ofNat a)))) .no=_
 rw [dX,qn h];rfl
theorem Mw (h:a≤b):aq (.bin .gtr (.const (.int k (.ofNat a))) (.const (.int k (.ofNat b)))) .lf H0= .ok (.bool false):=by
 show bc (br k k) (OV.ok (.bool (eC (.ofNat b) (.ofNat a)))) .no=_
 rw [dX,cH h];rfl
theorem r8 (h:a≠b):je (.ofNat a) (.ofNat b)=false:=by
 rw [dj];simp;omega
end
end Eng
end
section
set_option linter.unusedVariables false
set_option linter.unusedSimpArgs false
namespace Eng
open Go Go.RowKit
noncomputable section
end
end Eng
end
section
set_option linter.unusedVariables false
set_option linter.unusedSimpArgs false
namespace Eng
open Go Go.RowKit
abbrev qB (k j:IntKind) (o:BinOp) (a b:Nat) (v:AV):Prop:=aq (.bin o (.const (.int k (.ofNat a))) (.const (.int j (.ofNat b)))) .lf H0= .ok v
abbrev qN (k j:IntKind) (o:BinOp) (a b c:Nat):Prop:=aq (.bin o (.const (.int k (.ofNat a))) (.const (.int j (.ofNat b)))) .lf H0= .ok (.int k (.ofNat c))
abbrev qC (k j:IntKind) (a c:Nat):Prop:=aq (.toInt k (.const (.int j (.ofNat a)))) .lf H0= .ok (.int k (.ofNat c))
abbrev qI (a:Nat):Prop:=Int.ofNat a=Int.ofNat a
abbrev tI (k:IntKind) (a:Nat):AV:= .int k (.ofNat a)
section
variable {k j:IntKind} {a b c:Nat}
theorem cJ (h:a < b):qB k k .lss a b (.bool true):=Ms h
theorem BS (h:b≤a):qB k k .lss a b (.bool false):=Mt h
theorem kL (h:b≤a):qB k k .geq a b (.bool true):=Mu h
theorem BT (h:b < a):qB k k .gtr a b (.bool true):=Mv h
theorem r_ (h:a≤b):qB k k .gtr a b (.bool false):=Mw h
theorem GW (h:a < 9223372036854775808):qC .i64 j a a:=L3 h
theorem BU (h:a+b < 9223372036854775808) (h2:a+b=c):qN .i64 .i64 .add a b c:=h2 ▸ HA h
theorem OU (hk:TX k=true) (hb:b≠0) (h:a % b=c):qN k k .rem a b c:=by
 show bc (br k k) (bc (je (.ofNat b) 0) .no (OV.ok (.int k (.ofNat (Nat.mod a b))))) .no=_
 rw [dX,show je (.ofNat b) 0=false from r8 hb]
 show OV.ok (.int k (.ofNat (a % b)))=_
 rw [h]
end
theorem BV {q:OV} {k:IntKind} {raw c:Int} (h:q= .ok (.int k c)) (e:q= .ok (.int k raw)):c=raw:=by
 rw [e] at h
 injection h with h
 injection h with _ h
 exact h.symm
end Eng
end
section
set_option linter.unusedVariables false
set_option linter.unusedSimpArgs false
namespace Eng
open Go Go.RowKit
section
variable {μ μ':Mp} {h h1 h2:Hp} {w w':World}
structure OW (h2 h1:Hp):Prop where
 next:h1.next≤h2.next
 get: ∀b,au h2 b=au h1 b∨au h2 b=none
theorem OW.at_ (l:OW h2 h1) {b:Nat} {x:aY} (g:au h2 b=some x):au h1 b=some x:=
 (l.get b).elim (fun e=>e ▸ g) fun e=>nomatch (e.symm.trans g)
end
end Eng
end
section
set_option linter.unusedVariables false
set_option linter.unusedSimpArgs false
namespace Eng
open Go Go.RowKit
mutual
def hE (ρ:Nat→Nat):AV→AV
 | .bool b=> .bool b
 | .int k n=> .int k n
 | .str s=> .str s
 | .nilPtr=> .nilPtr
 | .ptr b o=> .ptr (ρ b) o
 | .nilSlice=> .nilSlice
 | .slice b o l c s e=> .slice (ρ b) o l c s e
 | .nilMap=> .nilMap
 | .map b=> .map (ρ b)
 | .func fn a b=> .func fn (hH ρ a) (hH ρ b)
 | .nilFunc=> .nilFunc
 | .iface t v=> .iface t (hE ρ v)
 | .nilIface=> .nilIface
 | .agg l=> .agg (hH ρ l)
 | .tuple l=> .tuple (hH ρ l)
def hH (ρ:Nat→Nat):List AV→List AV
 | [] =>[]
 | v::vs=>hE ρ v::hH ρ vs
end
mutual
def cR (d:Nat→Bool):AV→Bool
 | .bool _=>true
 | .int _ _=>true
 | .str _=>true
 | .nilPtr=>true
 | .ptr b _=>d b
 | .nilSlice=>true
 | .slice b _ _ _ _ _=>d b
 | .nilMap=>true
 | .map b=>d b
 | .func _ a b=>bc (cN d a) (cN d b) false
 | .nilFunc=>true
 | .iface _ v=>cR d v
 | .nilIface=>true
 | .agg l=>cN d l
 | .tuple l=>cN d l
def cN (d:Nat→Bool):List AV→Bool
 | [] =>true
 | v::vs=>bc (cR d v) (cN d vs) false
end
theorem jd (ρ:Nat→Nat): ∀l,hH ρ l=l.map (hE ρ)
 | [] =>by unfold hH;rfl
 | v::l=>by unfold hH;rw [jd ρ l];rfl
theorem hI (d:Nat→Bool): ∀l,cN d l=true ↔∀v ∈ l,cR d v=true
 | [] =>by unfold cN;simp
 | v::l=>by unfold cN;rw [aR,hI d l];simp
section
variable {μ1 μ2:Mp} {ρ:Nat→Nat} {d:Nat→Bool}
mutual
theorem qJ (H: ∀b,d b=true→∀c s,μ1.at_ (ρ b)=some (c,s)→μ2.at_ b=some (c,s)∧μ2.size c=μ1.size c): ∀(v:AV) (x:Value),cR d v=true→VR μ1 (hE ρ v) x→VR μ2 v x
 | .bool _,x,_,r=>by unfold hE at r;rw [VR_bool] at *;exact r
 | .int _ _,x,_,r=>by unfold hE at r;rw [VR_int] at *;exact r
 | .str _,x,_,r=>by unfold hE at r;rw [VR_str] at *;exact r
 | .nilPtr,x,_,r=>by unfold hE at r;rw [VR_nilPtr] at *;exact r
 | .ptr b o,x,hd,r=>by
   unfold hE at r;unfold cR at hd
   rw [VR_ptr] at *
   obtain ⟨c,s,hb,hx⟩:=r
   exact ⟨c,s,(H b hd c s hb).1,hx⟩
 | .nilSlice,x,_,r=>by unfold hE at r;rw [VR_nilSlice] at *;exact r
 | .slice b o l cp sz ex,x,hd,r=>by
   unfold hE at r;unfold cR at hd
   rw [VR_slice] at *
   obtain ⟨c,s,s',cp',hb,hx,h1,h2,h3,h4⟩:=r
   exact ⟨c,s,s',cp',(H b hd c s hb).1,hx,h1,h2,h3,by rw [(H b hd c s hb).2];exact h4⟩
 | .nilMap,x,_,r=>by unfold hE at r;rw [VR_nilMap] at *;exact r
 | .map b,x,hd,r=>by
   unfold hE at r;unfold cR at hd
   rw [VR_map] at *
   obtain ⟨c,s,hb,hx⟩:=r
   exact ⟨c,s,(H b hd c s hb).1,hx⟩
 | .func fn a b,x,hd,r=>by
   unfold hE at r;unfold cR at hd
   obtain ⟨ha,hb⟩:=aR.1 hd
   rw [VR_func] at *
   obtain ⟨a',b',hx,h1,h2⟩:=r
   exact ⟨a',b',hx,m8 H a _ ha h1,m8 H b _ hb h2⟩
 | .nilFunc,x,_,r=>by unfold hE at r;rw [VR_nilFunc] at *;exact r
 | .iface t v,x,hd,r=>by
   unfold hE at r;unfold cR at hd
   rw [VR_iface] at *
   obtain ⟨v',hx,h1⟩:=r
   exact ⟨v',hx,qJ H v _ hd h1⟩
 | .nilIface,x,_,r=>by unfold hE at r;rw [VR_nilIface] at *;exact r
 | .agg l,x,hd,r=>by
   unfold hE at r;unfold cR at hd
   rw [VR_agg] at *
   obtain ⟨l',hx,h1⟩:=r
   exact ⟨l',hx,m8 H l _ hd h1⟩
 | .tuple l,x,hd,r=>by
   unfold hE at r;unfold cR at hd
   rw [VR_tuple] at *
   rcases r with ⟨r1,r2⟩ | ⟨l',hx,h1⟩
   ·exact .inl ⟨by rw [jd] at r1;simpa using r1,r2⟩
   ·exact .inr ⟨l',hx,m8 H l _ hd h1⟩
theorem m8 (H: ∀b,d b=true→∀c s,μ1.at_ (ρ b)=some (c,s)→μ2.at_ b=some (c,s)∧μ2.size c=μ1.size c): ∀(l:List AV) (xs:List Value),cN d l=true→bb μ1 (hH ρ l) xs→bb μ2 l xs
 | [],xs,_,r=>by unfold hH at r;rw [aF] at *;exact r
 | v::l,xs,hd,r=>by
   unfold hH at r;unfold cN at hd
   obtain ⟨ha,hb⟩:=aR.1 hd
   rw [aH] at *
   obtain ⟨x,xs,hx,h1,h2⟩:=r
   exact ⟨x,xs,hx,qJ H v _ ha h1,m8 H l _ hb h2⟩
end
end
theorem u0 {ρ:Nat→Nat} {v:AV}:aD (hE ρ v)=aD v:=by cases v <;> (unfold hE;rfl)
mutual
theorem pC: ∀v:AV,hE (fun b=>b) v=v
 | .bool _ | .int _ _ | .str _ | .nilPtr | .ptr _ _ | .nilSlice | .slice _ _ _ _ _ _ | .nilMap | .map _ | .nilFunc | .nilIface=>by unfold hE;rfl
 | .func _ a b=>by unfold hE;rw [kn a,kn b]
 | .iface _ v=>by unfold hE;rw [pC v]
 | .agg l=>by unfold hE;rw [kn l]
 | .tuple l=>by unfold hE;rw [kn l]
theorem kn: ∀l:List AV,hH (fun b=>b) l=l
 | [] =>by unfold hH;rfl
 | v::l=>by unfold hH;rw [pC v,kn l]
end
def nZ (l:List (Nat×aY)) (t:Tr aY):Tr aY:=bV t (fun p _ ih=>cO (pathOf p.1) p.2 ih) l
theorem mg: ∀(l:List (Nat×aY)) (t:Tr aY) (b:Nat),bf (pathOf b) (nZ l t)=match l.find? (fun p=>p.1 == b) with | some p=>some p.2 | none=>bf (pathOf b) t
 | [],t,b=>rfl
 | p::l,t,b=>by
   show bf (pathOf b) (cO (pathOf p.1) p.2 (nZ l t))=_
   by_cases h:p.1=b
   ·rw [h,cE,List.find?_cons_of_pos (by simp [h])]
   ·rw [bD _ _ _ _ (fun e=>h (bw e).symm),mg l t b,List.find?_cons_of_neg (by simp [h])]
def HG (n:Nat) (c:Nat→Nat):List AV:=Nat.rec (motive:=fun _=>(Nat→Nat)→List AV) (fun _=>[]) (fun _ ih c=> .int .u8 (.ofNat (c 0))::ih fun i=>c (Nat.succ i)) n c
theorem tR: ∀{n:Nat} {c:Nat→Nat} {v:AV},v ∈ HG n c→∃i,v= .int .u8 i
 | 0,_,_,h=>nomatch h
 | n+1,c,v,h=>by
   have h:v ∈ AV.int .u8 (.ofNat (c 0))::HG n fun i=>c (Nat.succ i):=h
   rcases List.mem_cons.1 h with rfl | h
   ·exact ⟨_,rfl⟩
   ·exact tR h
inductive KB where
 | b (x:aY)
 | m (z:AV) (n:Nat) (now:Own)
 | f (c:Nat→Nat) (n:Nat) (now:Own)
def KB.Mx (k:KB):aY:=KB.rec (motive:=fun _=>aY) (fun x=>x) (fun z n now=> .cells (ef [z] n) n now) (fun c n now=> .cells (HG n c) n now) k
structure Ke where
 to:Nat
 src:Nat
 ow:Own
 kb:KB
def Ke.d_ (e:Ke):aY:=e.kb.Mx
def GX (E:List Ke):List (Nat×aY):=lmap (fun e=>(e.to,e.d_)) E
def u1 (E:List Ke):List Nat:=lmap (fun e=>e.src) E
def iS (E:List Ke) (Nc b:Nat):Nat:=bc (Nat.blt b Nc) b (bV 0 (fun e _ ih=>bc (Nat.beq e.to b) e.src ih) E)
def mh (E:List Ke) (Nc b:Nat):Bool:=bc (Nat.blt b Nc) true (bV false (fun e _ ih=>bc (Nat.beq e.to b) true ih) E)
def pD (l:List Nat) (b:Nat):Bool:=bV false (fun a _ ih=>bc (Nat.beq a b) true ih) l
theorem m9 {l:List Nat} {b:Nat}:pD l b=true ↔ b ∈ l:=by
 induction l with
 | nil=>exact ⟨nofun,nofun⟩
 | cons a l ih=>
   show bc (Nat.beq a b) true (pD l b)=true ↔ _
   rw [di]
   split
   ·rename_i h;subst h;simp
   ·rename_i h;rw [ih];simp [Ne.symm h]
def m_ (ρ:Nat→Nat) (ow:Own):aY→aY
 | .cells cs n _=> .cells (hH ρ cs) n ow
 | .mp es n ck=> .mp (es.map fun e=>(hE ρ e.1,hE ρ e.2.1,e.2.2)) n ck
 | .dead=> .dead
def KB.gD (ρ:Nat→Nat) (ow:Own) (k:KB):aY:=KB.rec (motive:=fun _=>aY) (fun x=>m_ ρ ow x) (fun z n _=> .cells (ef [z] n) n ow) (fun c n _=> .cells (HG n c) n ow) k
def T0 (E:List Ke) (Nc:Nat):List (Option aY):=lmap (fun e=>some (e.kb.gD (iS E Nc) e.ow)) E
def fZ (E:List Ke) (Nc:Nat) (gD now:Own):Bool:=match now,gD with
 | .ro, .ro=>true
 | .ro, .solo=>true
 | .ro, .pair p=>aP (pD (u1 E) p)
 | .solo, .solo=>true
 | .solo, .pair p=>aP (pD (u1 E) p)
 | .pair q, .pair p=>bc (mh E Nc q) (bc (Nat.blt q Nc) false (Nat.beq (iS E Nc q) p)) false
 | _,_=>false
def sa (E:List Ke) (Nc:Nat) (gD:Own):aY→Bool
 | .cells cs _ now=>bc (fZ E Nc gD now) (cN (mh E Nc) cs) false
 | .mp es _ _=>a9 (fun e=>bc (cR (mh E Nc) e.1) (cR (mh E Nc) e.2.1) false) es
 | .dead=>true
def isNum (v:AV):Bool:=match v with | .int _ _=>true | _=>false
def BW (E:List Ke) (Nc:Nat) (gD:Own) (k:KB):Bool:=KB.rec (motive:=fun _=>Bool) (fun x=>sa E Nc gD x) (fun z n now=>bc (fZ E Nc gD now) (isNum z) false) (fun _ _ now=>fZ E Nc gD now) k
theorem kp {z v:AV}: ∀{n:Nat},v ∈ ef [z] n→v=z
 | 0,h=>nomatch h
 | n+1,h=>by
   have h:v ∈ z::ef [z] n:=h
   rcases List.mem_cons.1 h with h | h
   ·exact h
   ·exact kp h
theorem BX {E:List Ke} {Nc:Nat} {gD:Own} {k:KB} (h:BW E Nc gD k=true):sa E Nc gD k.Mx=true∧k.gD (iS E Nc) gD=m_ (iS E Nc) gD k.Mx:=by
 cases k with
 | b x=>exact ⟨h,rfl⟩
 | m z n now=>
   obtain ⟨h1,h2⟩:=aR.1 (show bc (fZ E Nc gD now) (isNum z) false=true from h)
   have hz: ∃k i,z= .int k i:=by cases z <;> first | exact ⟨_,_,rfl⟩ | cases h2
   obtain ⟨kk,i,rfl⟩:=hz
   refine ⟨?_,?_⟩
   ·show bc (fZ E Nc gD now) (cN (mh E Nc) (ef [.int kk i] n)) false=true
    rw [h1,bc_true,hI]
    intro v hv
    rw [kp hv];rfl
   ·show aY.cells (ef [.int kk i] n) n gD= .cells (hH (iS E Nc) (ef [.int kk i] n)) n gD
    rw [jd,List.map_congr_left (g:=id) (fun v hv=>by rw [kp hv];rfl),List.map_id]
 | f c n now=>
   have h1:fZ E Nc gD now=true:=h
   have key: ∀v ∈ HG n c,∃i,v= .int .u8 i:=fun v hv=>tR hv
   refine ⟨?_,?_⟩
   ·show bc (fZ E Nc gD now) (cN (mh E Nc) (HG n c)) false=true
    rw [h1,bc_true,hI]
    intro v hv
    obtain ⟨i,rfl⟩:=key v hv
    rfl
   ·show aY.cells (HG n c) n gD= .cells (hH (iS E Nc) (HG n c)) n gD
    rw [jd,List.map_congr_left (g:=id) (fun v hv=>by obtain ⟨i,rfl⟩:=key v hv;rfl),List.map_id]
def pE (l:List Nat):Bool:=bV true (fun a r ih=>bc (pD r a) false ih) l
theorem na {l:List Nat} (h:pE l=true):l.Nodup:=by
 induction l with
 | nil=>exact .nil
 | cons a l ih=>
   have h:bc (pD l a) false (pE l)=true:=h
   cases hh:pD l a with
   | true=>rw [hh] at h;cases h
   | false=>rw [hh] at h;exact List.nodup_cons.2 ⟨fun k=>(by rw [m9.2 k] at hh;cases hh),ih h⟩
def tS (E:List Ke) (Nc N:Nat):Bool:=
 bc (a9 (fun e=>bc (Nat.ble Nc e.to) (bc (Nat.blt e.to N) (bc (Nat.ble Nc e.src) (BW E Nc e.ow e.kb) false) false) false) E) (bc (pE (lmap (fun e=>e.to) E)) (pE (u1 E)) false) false
structure u2 (E:List Ke) (Nc N:Nat):Prop where
 to_ge: ∀e ∈ E,Nc≤e.to
 to_lt: ∀e ∈ E,e.to < N
 src_ge: ∀e ∈ E,Nc≤e.src
 fit: ∀e ∈ E,sa E Nc e.ow e.d_=true
 to_inj: ∀e ∈ E,∀e' ∈ E,e.to=e'.to→e=e'
 src_inj: ∀e ∈ E,∀e' ∈ E,e.src=e'.src→e=e'
 gD: ∀e ∈ E,e.kb.gD (iS E Nc) e.ow=m_ (iS E Nc) e.ow e.d_
theorem kM {α:Type} {f:α→Nat}: ∀{l:List α},(l.map f).Nodup→∀a ∈ l,∀b ∈ l,f a=f b→a=b
 | [],_,a,ha,_,_,_=>nomatch ha
 | x::l,h,a,ha,b,hb,e=>by
   obtain ⟨h1,h2⟩:=List.nodup_cons.1 h
   rcases List.mem_cons.1 ha with rfl | ha'
   ·rcases List.mem_cons.1 hb with rfl | hb'
    ·rfl
    ·exact absurd (List.mem_map.2 ⟨b,hb',e.symm⟩) h1
   ·rcases List.mem_cons.1 hb with rfl | hb'
    ·exact absurd (List.mem_map.2 ⟨a,ha',e⟩) h1
    ·exact kM h2 a ha' b hb' e
theorem BY {E:List Ke} {Nc N:Nat} (h:tS E Nc N=true):u2 E Nc N:=by
 obtain ⟨h1,h2⟩:=aR.1 h
 obtain ⟨h2,h3⟩:=aR.1 h2
 rw [aT] at h1
 have k1:=na h2
 have k2:=na h3
 unfold u1 at k2
 rw [bS] at k1 k2
 have g: ∀e ∈ E,Nc≤e.to∧e.to < N∧Nc≤e.src∧BW E Nc e.ow e.kb=true:=fun e he=>by
  obtain ⟨a1,a2⟩:=aR.1 (h1 e he)
  obtain ⟨a2,a3⟩:=aR.1 a2
  obtain ⟨a3,a4⟩:=aR.1 a3
  rw [ij] at a1 a3;rw [b_] at a2
  exact ⟨by simpa using a1,by simpa using a2,by simpa using a3,a4⟩
 exact ⟨fun e he=>(g e he).1,fun e he=>(g e he).2.1,fun e he=>(g e he).2.2.1,fun e he=>(BX (g e he).2.2.2).1,kM k1,kM k2,fun e he=>(BX (g e he).2.2.2).2⟩
theorem My {E:List Ke} {Nc b:Nat} (h:b < Nc):iS E Nc b=b:=by unfold iS;rw [dC,if_pos h]
theorem tT {E:List Ke} {Nc b:Nat} (h:mh E Nc b=true) (hb: ¬b < Nc): ∃e ∈ E,e.to=b:=by
 unfold mh at h;rw [dC,if_neg hb] at h
 induction E with
 | nil=>cases h
 | cons e E ih=>
   have h:bc (Nat.beq e.to b) true (bV false (fun e _ ih=>bc (Nat.beq e.to b) true ih) E)=true:=h
   rw [di] at h
   split at h
   ·exact ⟨e,by simp,by assumption⟩
   ·obtain ⟨e',h1,h2⟩:=ih h;exact ⟨e',by simp [h1],h2⟩
theorem Mz {E:List Ke} {Nc:Nat} {e:Ke} (he:e ∈ E):mh E Nc e.to=true:=by
 unfold mh;rw [dC];split
 ·rfl
 ·induction E with
  | nil=>nomatch he
  | cons a E ih=>
    show bc (Nat.beq a.to e.to) true (bV false (fun e' _ ih=>bc (Nat.beq e'.to e.to) true ih) E)=true
    rw [di];split
    ·rfl
    ·rename_i hn
     rcases List.mem_cons.1 he with rfl | he'
     ·exact absurd rfl hn
     ·exact ih he'
theorem BZ {E:List Ke} {Nc N:Nat} (k:u2 E Nc N) {e:Ke} (he:e ∈ E):iS E Nc e.to=e.src:=by
 unfold iS;rw [dC,if_neg (Nat.not_lt.2 (k.to_ge e he))]
 have inj:=k.to_inj
 clear k
 induction E with
 | nil=>nomatch he
 | cons a E ih=>
   show bc (Nat.beq a.to e.to) a.src (bV 0 (fun e' _ ih=>bc (Nat.beq e'.to e.to) e'.src ih) E)=_
   rw [di];split
   ·rename_i hn;rw [inj a (by simp) e he hn]
   ·rename_i hn
    rcases List.mem_cons.1 he with rfl | he'
    ·exact absurd rfl hn
    ·exact ih he' fun x hx y hy=>inj x (by simp [hx]) y (by simp [hy])
end Eng
end
section
set_option linter.unusedVariables false
set_option linter.unusedSimpArgs false
namespace Eng
open Go Go.RowKit
theorem B0 {ρ:Nat→Nat} {v:AV}:isKey (hE ρ v)=isKey v:=by cases v <;> (unfold hE;rfl)
structure kN (TB:Tr aY) (Nc:Nat):Prop where
 none: ∀b,Nc≤b→bf (pathOf b) TB=none
 fro: ∀b x,bf (pathOf b) TB=some x→∃cs n,x= .cells cs n .ro∧∀v ∈ cs,cR (fun i=>Nat.blt i Nc) v=true
def n3 (E:List Ke) (TB:Tr aY) (N:Nat):Hp:=⟨N,nZ (GX E) TB⟩
theorem fO {E:List Ke} {TB:Tr aY} {N:Nat} (inj: ∀e ∈ E,∀e' ∈ E,e.to=e'.to→e=e') (b:Nat):
  (∃e ∈ E,e.to=b∧au (n3 E TB N) b=some e.d_)∨((∀e ∈ E,e.to≠b)∧au (n3 E TB N) b=bf (pathOf b) TB):=by
 have hg:au (n3 E TB N) b=bf (pathOf b) (nZ (GX E) TB):=rfl
 rw [hg,mg]
 unfold GX
 rw [bS]
 cases hf:(E.map fun e=>(e.to,e.d_)).find? (fun p=>p.1 == b) with
 | none=>
   refine .inr ⟨fun e he hb=>?_,rfl⟩
   have:=List.find?_eq_none.1 hf (e.to,e.d_) (List.mem_map.2 ⟨e,he,rfl⟩)
   exact this (by simpa using hb)
 | some p=>
   have h1:=List.find?_some hf
   obtain ⟨e,he,rfl⟩:=List.mem_map.1 (List.mem_of_find?_eq_some hf)
   exact .inl ⟨e,he,by simpa using h1,rfl⟩
open Classical in
def lH (μ1:Mp) (E:List Ke) (Nc:Nat):Mp where
 at_ b:=if b < Nc then μ1.at_ b else if mh E Nc b=true then μ1.at_ (iS E Nc b) else none
 own c:=if∃e ∈ E,(∃cs n,e.d_= .cells cs n .ro)∧∃s,μ1.at_ e.src=some (c,s) then false else μ1.own c
 size:=μ1.size
section
variable {μ0 μ μ1:Mp} {h0 h h1:Hp} {w0 w w1:World} {E:List Ke} {Nc N:Nat} {TB:Tr aY}
theorem mi {c:Nat} (h:(lH μ1 E Nc).own c=true):μ1.own c=true∧∀e ∈ E,∀cs n s,e.d_= .cells cs n .ro→μ1.at_ e.src≠some (c,s):=by
 unfold lH at h
 simp only [] at h
 split at h
 ·cases h
 ·rename_i hn
  exact ⟨h,fun e he cs n s hb ha=>hn ⟨e,he,⟨cs,n,hb⟩,s,ha⟩⟩
theorem sb {c:Nat} (h:μ1.own c=true) (hn: ∀e ∈ E,∀cs n s,e.d_= .cells cs n .ro→μ1.at_ e.src≠some (c,s)):(lH μ1 E Nc).own c=true:=by
 unfold lH
 simp only []
 rw [if_neg]
 ·exact h
 ·rintro ⟨e,he,⟨cs,n,hb⟩,s,ha⟩;exact hn e he cs n s hb ha
theorem n4 {c:Nat} (h:μ1.own c=false):(lH μ1 E Nc).own c=false:=by
 cases hh:(lH μ1 E Nc).own c with
 | false=>rfl
 | true=>rw [(mi hh).1] at h;cases h
theorem kO {b:Nat} (h:b < Nc):(lH μ1 E Nc).at_ b=μ1.at_ b:=by unfold lH;simp only [];rw [if_pos h]
theorem MA (k:u2 E Nc N) {e:Ke} (he:e ∈ E):(lH μ1 E Nc).at_ e.to=μ1.at_ e.src:=by
 unfold lH;simp only []
 rw [if_neg (Nat.not_lt.2 (k.to_ge e he)),if_pos (Mz he),BZ k he]
theorem MB (k:u2 E Nc N): ∀b,mh E Nc b=true→∀c s,μ1.at_ (iS E Nc b)=some (c,s)→(lH μ1 E Nc).at_ b=some (c,s)∧(lH μ1 E Nc).size c=μ1.size c:=fun b hb c s ha=>by
 refine ⟨?_,rfl⟩
 by_cases hl:b < Nc
 ·rw [kO hl];rwa [My hl] at ha
 ·unfold lH;simp only [];rw [if_neg hl,if_pos hb];exact ha
theorem B3 {gD:Own} (h:fZ E Nc gD .ro=true):gD= .ro∨gD= .solo∨∃p,gD= .pair p∧p ∉ u1 E:=by
 cases gD with
 | ro=>exact .inl rfl
 | solo=>exact .inr (.inl rfl)
 | pair p=>
   refine .inr (.inr ⟨p,rfl,fun hp=>?_⟩)
   have h:aP (pD (u1 E) p)=true:=h
   rw [m9.2 hp] at h;cases h
theorem sc {gD:Own} (h:fZ E Nc gD .solo=true):gD= .solo∨∃p,gD= .pair p∧p ∉ u1 E:=by
 cases gD with
 | ro=>cases h
 | solo=>exact .inl rfl
 | pair p=>
   refine .inr ⟨p,rfl,fun hp=>?_⟩
   have h:aP (pD (u1 E) p)=true:=h
   rw [m9.2 hp] at h;cases h
theorem nb {gD:Own} {q:Nat} (h:fZ E Nc gD (.pair q)=true): ∃p,gD= .pair p∧mh E Nc q=true∧¬q < Nc∧iS E Nc q=p:=by
 cases gD with
 | ro=>cases h
 | solo=>cases h
 | pair p=>
   obtain ⟨h1,h2⟩:=aR.1 (show bc (mh E Nc q) (bc (Nat.blt q Nc) false (Nat.beq (iS E Nc q) p)) false=true from h)
   rw [dC] at h2
   split at h2
   ·cases h2
   ·exact ⟨p,rfl,h1,by assumption,Nat.eq_of_beq_eq_true h2⟩
theorem tU {e:Ke} (he:e ∈ E):e.src ∈ u1 E:=by unfold u1;rw [bS];exact List.mem_map.2 ⟨e,he,rfl⟩
theorem jJ {ρ:Nat→Nat} {ow:Own} {x:aY} (h:m_ ρ ow x= .dead):x= .dead:=by cases x <;> first | rfl | cases h
theorem B4 (hs1:bq μ1 h1 w1) (k:u2 E Nc N) (hk: ∀e ∈ E,au h1 e.src=some (m_ (iS E Nc) e.ow e.d_)) {e:Ke} (he:e ∈ E) {c s:Nat} (ha:μ1.at_ e.src=some (c,s)) (hd:e.d_≠ .dead) (hr: ∀cs n,e.d_≠ .cells cs n .ro):
  (lH μ1 E Nc).own c=true:=by
 have hb:=hs1.d_ _ _ _ _ ha (hk e he)
 have hf:=k.fit e he
 have h1o:μ1.own c=true:=by
  cases hx:e.d_ with
  | dead=>exact absurd hx hd
  | mp es n ck=>rw [hx] at hb;exact hb.2.2.1
  | cells cs n now=>
    rw [hx] at hb hf
    obtain ⟨_,_,h3,_⟩:=hb
    refine h3.2 fun ho=>?_
    obtain ⟨f1,_⟩:=aR.1 (show bc (fZ E Nc e.ow now) (cN (mh E Nc) cs) false=true from hf)
    cases now with
    | ro=>exact hr _ _ hx
    | solo=>rw [ho] at f1;cases f1
    | pair q=>rw [ho] at f1;cases f1
 refine sb h1o fun e' he' cs n s' hb' ha'=>?_
 have hne:e.src≠e'.src:=fun hh=>by
  have:=k.src_inj e he e' he' hh
  subst this
  exact hr _ _ hb'
 have hx':au h1 e'.src=some (.cells (hH (iS E Nc) cs) n e'.ow):=by rw [hk e' he',hb'];rfl
 obtain ⟨_,_,_,_,_,h5⟩:=hs1.apart _ _ _ _ _ _ _ hne ha ha' h1o (hk e he) hx' (fun hh=>hd (jJ hh)) nofun
 have hf':=k.fit e' he'
 rw [hb'] at hf'
 obtain ⟨f1,_⟩:=aR.1 (show bc (fZ E Nc e'.ow .ro) (cN (mh E Nc) cs) false=true from hf')
 have h6:e'.ow= .pair e.src:=by injection h5
 rcases B3 f1 with hh | hh | ⟨p,hh,hp⟩
 ·rw [h6] at hh;cases hh
 ·rw [h6] at hh;cases hh
 ·rw [h6] at hh;cases hh;exact hp (tU he)
theorem GY (hown: ∀c,c < w0.heap.size→μ0.own c=false) (g0:bF μ0 h0 w0 μ h w) (hs:bq μ h w) (g1:bF μ h w μ1 h1 w1) (hs1:bq μ1 h1 w1)
  (hN0:h0.next≤Nc) (hNc:Nc≤h.next) (hN:Nc≤N) (tb:kN TB Nc) (hc: ∀b,b < Nc→bf (pathOf b) TB=au h b∨bf (pathOf b) TB=none)
  (k:u2 E Nc N) (hk: ∀e ∈ E,au h1 e.src=some (m_ (iS E Nc) e.ow e.d_)):
  bq (lH μ1 E Nc) (n3 E TB N) w1∧bF μ0 h0 w0 (lH μ1 E Nc) (n3 E TB N) w1∧∀v x,cR (mh E Nc) v=true→VR μ1 (hE (iS E Nc) v) x→VR (lH μ1 E Nc) v x:=by
 have hrn:=MB (μ1:=μ1) k
 have hva: ∀v x,cR (mh E Nc) v=true→VR μ1 (hE (iS E Nc) v) x→VR (lH μ1 E Nc) v x:=fun v x hd r=>qJ hrn v x hd r
 have hat1: ∀b,b < Nc→μ1.at_ b=μ.at_ b:=fun b hb=>g1.at_ b (Nat.lt_of_lt_of_le hb hNc)
 have stay: ∀b c s x,(lH μ1 E Nc).at_ b=some (c,s)→bf (pathOf b) TB=some x→(lH μ1 E Nc).own c=false∧iW (lH μ1 E Nc) w1 c s x:=fun b c s x ha hx=>by
  have hb:b < Nc:=by
   rcases Nat.lt_or_ge b Nc with hb | hb
   ·exact hb
   ·rw [tb.none b hb] at hx;cases hx
  rw [kO hb,hat1 b hb] at ha
  obtain ⟨cs,n,rfl,hcs⟩:=tb.fro b x hx
  have hgx:au h b=some (.cells cs n .ro):=by
   rcases hc b hb with hh | hh
   ·rw [←hh];exact hx
   ·rw [hh] at hx;cases hx
  obtain ⟨k1,k2,k3,arr,el,fr,k4,k5,k6,k7⟩:=hs.d_ _ _ _ _ ha hgx
  have hcw:=hs.dW _ _ _ ha
  have ho:μ.own c=false:=by
   cases hh:μ.own c with
   | false=>rfl
   | true=>exact absurd rfl (k3.1 hh)
  have ho1:μ1.own c=false:=by rw [g1.own c hcw];exact ho
  have ho2:=n4 (E:=E) (Nc:=Nc) ho1
  refine ⟨ho2,k1,k2,⟨fun hh=>(by rw [ho2] at hh;cases hh),fun hh=>absurd rfl hh⟩,arr,el,fr,by rw [g1.kept c hcw ho];exact k4,by show arr.size=μ1.size c;rw [g1.size c hcw];exact k5,fun hh=>(by rw [ho2] at hh;cases hh),fun i v hv=>?_⟩
  obtain ⟨y,hy,ry⟩:=k7 i v hv
  refine ⟨y,hy,qJ (μ1:=μ) (ρ:=fun b=>b) (d:=fun i=>Nat.blt i Nc) (fun b hb c s ha=>?_) v y (hcs v (List.mem_of_getElem? hv)) (by rw [pC];exact ry)⟩
  have hb:b < Nc:=by rw [b_] at hb;simpa using hb
  exact ⟨by rw [kO hb,hat1 b hb];exact ha,by show μ1.size c=_;exact g1.size c (hs.dW _ _ _ ha)⟩
 have atE: ∀{e:Ke},e ∈ E→∀{c s},(lH μ1 E Nc).at_ e.to=some (c,s)→μ1.at_ e.src=some (c,s):=fun he c s ha=>by rw [MA k he] at ha;exact ha
 refine ⟨⟨fun b hb=>?_,fun b hb=>?_,fun b c s ha=>?_,fun b c s x ha hx=>?_,fun b b' c s s' x x' hn ha ha' ho hx hx' hd hd'=>?_,fun b c s cs n p ha hx=>?_⟩,⟨?_,fun b hb=>?_,fun c hcw=>?_,fun c hcw=>?_,Nat.le_trans g0.heap g1.heap,(g0.trans g1).kept,fun b hb hn=>?_,g1.os.trans g0.os,g1.tape.trans g0.tape,g1.output.trans g0.output⟩,hva⟩
 ·-- lt
  have hb:N≤b:=hb
  unfold lH;simp only []
  rw [if_neg (by omega)]
  split
  ·rename_i hd
   obtain ⟨e,he,rfl⟩:=tT hd (by omega)
   have:=k.to_lt e he;omega
  ·rfl
 ·-- fresh
  have hb:N≤b:=hb
  rcases fO (TB:=TB) (N:=N) k.to_inj b with ⟨e,he,rfl,_⟩ | ⟨_,hh⟩
  ·have:=k.to_lt e he;omega
  ·rw [hh];exact tb.none b (by omega)
 ·-- dW
  by_cases hb:b < Nc
  ·rw [kO hb] at ha;exact hs1.dW _ _ _ ha
  ·unfold lH at ha;simp only [] at ha
   rw [if_neg hb] at ha
   split at ha
   ·exact hs1.dW _ _ _ ha
   ·cases ha
 ·-- d_
  rcases fO (TB:=TB) (N:=N) k.to_inj b with ⟨e,he,rfl,hh⟩ | ⟨_,hh⟩
  ·rw [hh] at hx
   obtain rfl:=Option.some.inj hx
   have ha1:=atE he ha
   have hb:=hs1.d_ _ _ _ _ ha1 (hk e he)
   have hf:=k.fit e he
   cases hx:e.d_ with
   | dead=>exact trivial
   | mp es n ck=>
     have ho:=B4 hs1 k hk he ha1 (by rw [hx];nofun) (by rw [hx];nofun)
     rw [hx] at hb hf
     obtain ⟨k1,k2,k3,es',k4,k5,k6⟩:=hb
     have hf:a9 (fun e:AV×AV×Nat=>bc (cR (mh E Nc) e.1) (cR (mh E Nc) e.2.1) false) es=true:=hf
     rw [aT] at hf
     refine ⟨by simpa using k1,k2,ho,es',k4,by simpa using k5,fun i kk v m hi=>?_⟩
     obtain ⟨k7,e',k8,k9,k10,k11⟩:=k6 i (hE (iS E Nc) kk) (hE (iS E Nc) v) m (by rw [List.getElem?_map,hi];rfl)
     obtain ⟨f1,f2⟩:=aR.1 (hf _ (List.mem_of_getElem? hi))
     exact ⟨by rw [B0] at k7;exact k7,e',k8,hva _ _ f1 k9,hva _ _ f2 k10,k11⟩
   | cells cs n now=>
     have hno:(lH μ1 E Nc).own c=true ↔ now≠ .ro:=by
      constructor
      ·intro ho hr;subst hr;exact (mi ho).2 e he _ _ _ hx ha1
      ·intro hr;exact B4 hs1 k hk he ha1 (by rw [hx];nofun) (by rw [hx];intro cs n hh;cases hh;exact hr rfl)
     rw [hx] at hb hf
     obtain ⟨k1,k2,k3,arr,el,fr,k4,k5,k6,k7⟩:=hb
     obtain ⟨f1,f2⟩:=aR.1 (show bc (fZ E Nc e.ow now) (cN (mh E Nc) cs) false=true from hf)
     rw [hI] at f2
     rw [jd] at k1 k2 k7
     refine ⟨by simpa using k1,fun v hv=>by have:=k2 (hE (iS E Nc) v) (List.mem_map.2 ⟨v,hv,rfl⟩);rwa [u0] at this,hno,arr,el,fr,k4,k5,fun ho=>k6 (mi ho).1,fun i v hv=>?_⟩
     obtain ⟨y,hy,ry⟩:=k7 i (hE (iS E Nc) v) (by rw [List.getElem?_map,hv];rfl)
     exact ⟨y,hy,hva _ _ (f2 v (List.mem_of_getElem? hv)) ry⟩
  ·rw [hh] at hx;exact (stay b c s x ha hx).2
 ·-- apart
  rcases fO (TB:=TB) (N:=N) k.to_inj b with ⟨e,he,rfl,hh⟩ | ⟨_,hh⟩
  ·rcases fO (TB:=TB) (N:=N) k.to_inj b' with ⟨e',he',rfl,hh'⟩ | ⟨_,hh'⟩
   ·rw [hh] at hx;rw [hh'] at hx'
    obtain rfl:=Option.some.inj hx
    obtain rfl:=Option.some.inj hx'
    have ha1:=atE he ha
    have ha1':=atE he' ha'
    have hne:e.src≠e'.src:=fun hh=>hn (by rw [k.src_inj e he e' he' hh])
    obtain ⟨ho1,hro⟩:=mi ho
    obtain ⟨cs,n,cs',n',k1,k2⟩:=hs1.apart _ _ _ _ _ _ _ hne ha1 ha1' ho1 (hk e he) (hk e' he') (fun hh=>hd (jJ hh)) (fun hh=>hd' (jJ hh))
    have one: ∀(e:Ke),e ∈ E→∀(e':Ke),e' ∈ E→∀s,μ1.at_ e.src=some (c,s)→∀cs n,m_ (iS E Nc) e.ow e.d_= .cells cs n (.pair e'.src)→∃cs n,e.d_= .cells cs n (.pair e'.to):=fun e he e' he' s ha cs n hb=>by
     have hf:=k.fit e he
     cases hx:e.d_ with
     | dead=>rw [hx] at hb;cases hb
     | mp es n ck=>rw [hx] at hb;cases hb
     | cells cs0 n0 now=>
       rw [hx] at hb hf
       obtain ⟨f1,f2⟩:=aR.1 (show bc (fZ E Nc e.ow now) (cN (mh E Nc) cs0) false=true from hf)
       have how:e.ow= .pair e'.src:=by
        have hb:aY.cells (hH (iS E Nc) cs0) n0 e.ow= .cells cs n (.pair e'.src):=hb
        injection hb
       cases now with
       | ro=>exact absurd ha (hro e he _ _ _ hx)
       | solo=>
         rcases sc f1 with hh | ⟨p,hh,hp⟩
         ·rw [how] at hh;cases hh
         ·rw [how] at hh;cases hh;exact absurd (tU he') hp
       | pair q=>
         obtain ⟨p,hh,hq,hq',hr⟩:=nb f1
         rw [how] at hh;cases hh
         obtain ⟨e'',he'',rfl⟩:=tT hq hq'
         rw [BZ k he''] at hr
         rw [k.src_inj e'' he'' e' he' hr]
         exact ⟨_,_,rfl⟩
    obtain ⟨c1,n1,q1⟩:=one e he e' he' _ ha1 _ _ k1
    obtain ⟨c2,n2,q2⟩:=one e' he' e he _ ha1' _ _ k2
    exact ⟨c1,n1,c2,n2,q1,q2⟩
   ·rw [hh'] at hx';rw [(stay b' c s' x' ha' hx').1] at ho;cases ho
  ·rw [hh] at hx;rw [(stay b c s x ha hx).1] at ho;cases ho
 ·-- peer
  rcases fO (TB:=TB) (N:=N) k.to_inj b with ⟨e,he,rfl,hh⟩ | ⟨_,hh⟩
  ·rw [hh] at hx
   have hx:=Option.some.inj hx
   have ha1:=atE he ha
   have hf:=k.fit e he
   rw [hx] at hf
   obtain ⟨f1,f2⟩:=aR.1 (show bc (fZ E Nc e.ow (.pair p)) (cN (mh E Nc) cs) false=true from hf)
   obtain ⟨p',hh',hq,hq',hr⟩:=nb f1
   have hgk:=hk e he
   rw [hx,hh'] at hgk
   obtain ⟨y,hy⟩:=hs1.peer _ _ _ _ _ _ ha1 (show au h1 e.src=some (.cells (hH (iS E Nc) cs) n (.pair p')) from hgk)
   refine ⟨y,?_⟩
   unfold lH;simp only []
   rw [if_neg hq',if_pos hq,hr];exact hy
  ·rw [hh] at hx
   obtain ⟨_,_,hh,_⟩:=tb.fro _ _ hx
   cases hh
 ·exact Nat.le_trans hN0 hN
 ·rw [kO (Nat.lt_of_lt_of_le hb hN0),hat1 b (Nat.lt_of_lt_of_le hb hN0)];exact g0.at_ b hb
 ·have h2:c < w.heap.size:=Nat.lt_of_lt_of_le hcw g0.heap
  rw [hown c hcw]
  exact n4 (by rw [g1.own c h2,g0.own c hcw];exact hown c hcw)
 ·show μ1.size c=_
  rw [g1.size c (Nat.lt_of_lt_of_le hcw g0.heap)];exact g0.size c hcw
 ·have hb':b < Nc:=Nat.lt_of_lt_of_le hb hN0
  rcases fO (TB:=TB) (N:=N) k.to_inj b with ⟨e,he,rfl,hh⟩ | ⟨_,hh⟩
  ·have:=k.to_ge e he;omega
  ·rw [hh]
   rcases hc b hb' with q | q
   ·rw [q];exact g0.ghost b hb hn
   ·exact .inr q
end
end Eng
end
section
set_option linter.unusedVariables false
set_option linter.unusedSimpArgs false
namespace Eng
open Go Go.RowKit
def T1 (x:Value):AV:=match x with | .bool b=> .bool b | _=> .tuple [.tuple []]
theorem MC {μ:Mp} (x:Value):VR μ (T1 x) x:=by
 cases x <;> first | exact VR_bool.2 rfl | exact LH (fun b h=>by cases h)
theorem GZ (tmps:Array Value): ∃g:T,∀μ,TR μ g tmps:=by
 refine ⟨cI (tmps.toList.map T1),fun μ=>?_⟩
 have:=kD (μ:=μ) (args:=tmps.toList.map T1) (xs:=tmps) (bb.jD (by simp) fun i v hv=>by
  rw [List.getElem?_map] at hv
  cases h:tmps.toList[i]? with
  | none=>rw [h] at hv;cases hv
  | some x=>rw [h] at hv;cases hv;exact ⟨x,rfl,MC x⟩) 0
 simpa using this
theorem HH {μ:Mp} {g:T} {tmps:Array Value} (r:TR μ g tmps): ∀{fr:List (Nat×AV)},(∀p ∈ fr,VR μ p.2 (tmps.getD p.1 Go.undef))→TR μ (iR fr g) tmps
 | [],_=>r
 | p::fr,h=>fun i=>by
   show VR μ (ay (.tmp i) (cO (pathOf p.1) p.2 (iR fr g))) _
   rw [cv]
   by_cases hi:p.1=i
   ·subst hi;rw [cE];exact h p (by simp)
   ·rw [bD _ _ _ _ (fun e=>hi (bw e).symm),←cv]
    exact HH r (fun q hq=>h q (by simp [hq])) i
section
variable {P:Program} {μ0:Mp} {h0:Hp} {w0:World} {n:Nat}
def pK (μ0:Mp) (h0:Hp) (w0:World) (n:Nat) (fr:List (Nat×AV)) (h:Hp) (a:Act) (w:World):Prop:= ∃g,At μ0 h0 w0 n (iR fr g) h a w
def HI (μ0:Mp) (h0:Hp) (w0:World) (n:Nat) (hF:Hp) (L:List Nat) (sl:List (Option AV)) (h1:Hp) (a:Act) (w1:World):Prop:=
 ∃μ w t1,bq μ hF w∧bF μ0 h0 w0 μ hF w∧cu L t1=sl∧At μ hF w n t1 h1 a w1
theorem pK.of {t:T} {h:Hp} {a:Act} {w:World} (st:At μ0 h0 w0 n t h a w):pK μ0 h0 w0 n [] h a w:=⟨t,st⟩
theorem G1 {D:Nat→Array Oper→AC} (hD:gM P D) {call:aJ} (aQ:Good P call) {M:Nat} {x:Code} {fr:List (Nat×AV)} {hF:Hp} {L:List Nat}
  {Kn:List (Option AV)→Hp→Prop} {Ke:Nat→List (Option AV)→Hp→Prop} {Kr:List (Option AV)→Hp→Prop} {a:Act} {w:World} {Q:Exit→Act→World→Prop} (st:pK μ0 h0 w0 n fr hF a w)
  (ev: ∀g,∃s,ct call M (bp P D n x) (iR fr g) hF=s∧dH L Kn Ke Kr s)
  (hn: ∀sl h1 a w,Kn sl h1→HI μ0 h0 w0 n hF L sl h1 a w→Q .normal a w) (he: ∀i sl h1 a w,Ke i sl h1→HI μ0 h0 w0 n hF L sl h1 a w→Q (.exit i) a w) (hr: ∀sl h1 a w,Kr sl h1→HI μ0 h0 w0 n hF L sl h1 a w→Q .ret a w):
  x.wp P Q a w:=by
 obtain ⟨g,⟨μ,r,hs,go⟩,hdef,hsz⟩:=st
 obtain ⟨s,e,ho⟩:=ev g
 refine fJ hD aQ x Q _ _ a w (N:=M) (n:=n) (μ0:=μ) (h0:=hF) (w0:=w) ?_ ⟨⟨μ,r,hs, .refl hs⟩,hdef,hsz⟩
 rw [e]
 cases s with
 | no=>exact ho.elim
 | nor t1 h1=>exact fun a1 w1 s1=>hn _ h1 a1 w1 ho ⟨μ,w,t1,hs,go,rfl,s1⟩
 | exit i t1 h1=>exact fun a1 w1 s1=>he i _ h1 a1 w1 ho ⟨μ,w,t1,hs,go,rfl,s1⟩
 | ret t1 h1=>exact fun a1 w1 s1=>hr _ h1 a1 w1 ho ⟨μ,w,t1,hs,go,rfl,s1⟩
def MD (E:List Ke) (Nc:Nat) (fr:List (Nat×AV)):List (Option AV):=lmap (fun p=>some (hE (iS E Nc) p.2)) fr
def qK (fr:List (Nat×AV)):List Nat:=lmap (fun p=>p.1) fr
def tV (E:List Ke) (Nc:Nat) (fr:List (Nat×AV)):Bool:=a9 (fun p=>cR (mh E Nc) p.2) fr
theorem qL: ∀{fr:List (Nat×AV)} {E:List Ke} {Nc:Nat} {t:T},cu (qK fr) t=MD E Nc fr→∀p ∈ fr,bf (pathOf p.1) t=some (hE (iS E Nc) p.2)
 | q::fr,E,Nc,t,h,p,hp=>by
   have h:bf (pathOf q.1) t::cu (qK fr) t=some (hE (iS E Nc) q.2)::MD E Nc fr:=h
   obtain ⟨h1,h2⟩:=List.cons.inj h
   rcases List.mem_cons.1 hp with rfl | hp'
   ·exact h1
   ·exact qL h2 p hp'
theorem B5: ∀{E F:List Ke} {Nc:Nat} {h1:Hp},lmap (au h1) (u1 F)=lmap (fun e=>some (e.kb.gD (iS E Nc) e.ow)) F→∀e ∈ F,au h1 e.src=some (e.kb.gD (iS E Nc) e.ow)
 | E,q::F,Nc,h1,h,e,he=>by
   have h:au h1 q.src::lmap (au h1) (u1 F)=some (q.kb.gD (iS E Nc) q.ow)::lmap (fun e=>some (e.kb.gD (iS E Nc) e.ow)) F:=h
   obtain ⟨k1,k2⟩:=List.cons.inj h
   rcases List.mem_cons.1 he with rfl | he'
   ·exact k1
   ·exact B5 k2 e he'
theorem B6 {l:List (Nat×aY)} {TB:Tr aY} {Nc:Nat} (h:a9 (fun p=>Nat.ble Nc p.1) l=true) {N:Nat}: ∀b,b < Nc→bf (pathOf b) TB=au ⟨N,nZ l TB⟩ b∨bf (pathOf b) TB=none:=fun b hb=>by
 refine .inl ?_
 show _=bf (pathOf b) (nZ l TB)
 rw [mg]
 cases hf:l.find? (fun p=>p.1 == b) with
 | none=>rfl
 | some p=>
   exfalso
   have h1:=List.find?_some hf
   rw [aT] at h
   have h2:=h p (List.mem_of_find?_eq_some hf)
   rw [ij] at h2
   simp at h1 h2;omega
end
end Eng
end
section
set_option linter.unusedVariables false
set_option linter.unusedSimpArgs false
namespace Eng
open Go Go.RowKit
section
variable {P:Program} {n:Nat}
abbrev ST:=Act→World→Prop
abbrev QT:=Exit→Act→World→Prop
def hP (P:Program) (n:Nat) (A:AC) (S:ST) (Q:QT):Prop:= ∀x,bp P (ab P) n x=A→∀a w,S a w→x.wp P Q a w
theorem B7 (ops:Array Oper):(∃l,ab P n ops= .drawn l)∨∃s,ab P n ops= .fail s:=by
 unfold ab
 simp only []
 split
 ·exact .inl ⟨_,rfl⟩
 ·exact .inr ⟨_,rfl⟩
theorem sd {i:Nat} {ops:Array Oper} {draw:Bool}:(∃l,bp P (ab P) n (.region i ops draw)= .region l)∨(∃l,bp P (ab P) n (.region i ops draw)= .drawn l)∨∃s,bp P (ab P) n (.region i ops draw)= .fail s:=by
 cases draw with
 | false=>exact .inl ⟨_,rfl⟩
 | true=>exact .inr (B7 ops)
theorem n5 {x:Code} {A B:AC} (h:bp P (ab P) n x= .seq A B): ∃u v,x= .seq u v∧bp P (ab P) n u=A∧bp P (ab P) n v=B:=by
 cases x with
 | seq u v=>cases h;exact ⟨u,v,rfl,rfl,rfl⟩
 | region i ops draw=>rcases sd (P:=P) (n:=n) (i:=i) (ops:=ops) (draw:=draw) with ⟨l,e⟩ | ⟨l,e⟩ | ⟨s,e⟩ <;> (rw [e] at h;cases h)
 | cond c u v=>unfold bp at h;split at h <;> cases h
 | _=>cases h
theorem qO {x:Code} {A:AC} {i:Nat} (h:bp P (ab P) n x= .block i A): ∃u,x= .block i u∧bp P (ab P) n u=A:=by
 cases x with
 | block j u=>cases h;exact ⟨u,rfl,rfl⟩
 | region i ops draw=>rcases sd (P:=P) (n:=n) (i:=i) (ops:=ops) (draw:=draw) with ⟨l,e⟩ | ⟨l,e⟩ | ⟨s,e⟩ <;> (rw [e] at h;cases h)
 | cond c u v=>unfold bp at h;split at h <;> cases h
 | _=>cases h
theorem se {x:Code} {A:AC} (h:bp P (ab P) n x= .loop A): ∃u,x= .loop u∧bp P (ab P) n u=A:=by
 cases x with
 | loop u=>cases h;exact ⟨u,rfl,rfl⟩
 | region i ops draw=>rcases sd (P:=P) (n:=n) (i:=i) (ops:=ops) (draw:=draw) with ⟨l,e⟩ | ⟨l,e⟩ | ⟨s,e⟩ <;> (rw [e] at h;cases h)
 | cond c u v=>unfold bp at h;split at h <;> cases h
 | _=>cases h
theorem cB {A B:AC} {S R:ST} {Q:QT} (h1:hP P n A S (Exit.then R Q)) (h2:hP P n B R Q):hP P n (.seq A B) S Q:=fun x hx a w hs=>by
 obtain ⟨u,v,rfl,hu,hv⟩:=n5 hx
 refine wp_seq (wp_mono (h1 u hu a w hs) fun e a w q=>?_)
 cases e with
 | normal=>exact h2 v hv a w q
 | _=>exact q
theorem iC {A:AC} {i:Nat} {S:ST} {Q:QT} (h:hP P n A S (Exit.inBlock i Q)):hP P n (.block i A) S Q:=fun x hx a w hs=>by
 obtain ⟨u,rfl,hu⟩:=qO hx
 exact wp_block (h u hu a w hs)
theorem n9 {A:AC} {S:ST} {Q:QT} (J:Nat→ST) (zero: ∀a w,¬J 0 a w) (round: ∀k,hP P n A (J (k+1)) (Exit.then (J k) Q)) {m:Nat} (h0: ∀a w,S a w→J m a w):hP P n (.loop A) S Q:=fun x hx a w hs=>by
 obtain ⟨u,rfl,hu⟩:=se hx
 exact j0 J zero (fun k a w h=>round k u hu a w h) (h0 a w hs)
theorem jl {A:AC} {S S':ST} {Q Q':QT} (h:hP P n A S Q) (hs: ∀a w,S' a w→S a w) (hq: ∀e a w,Q e a w→Q' e a w):hP P n A S' Q':=fun x hx a w k=>wp_mono (h x hx a w (hs a w k)) hq
end
section
variable {P:Program} {n:Nat} {μ0:Mp} {h0:Hp} {w0:World}
theorem aA {M:Nat→Option (List AV→Hp→RV)} {MW:Nat→Option pA} {S:Nat→Option AF} {N d:Nat}
  (hw: ∀f w,MW f=some w→∃m,M f=some m∧∀args h c r k,w args h c r k→∃v h' c' r',m args h= .ok v h'∧k v h' c' r')
  {c:AC} {t:T} {h:Hp} (o:bW) {L:List Nat} {Kn:List (Option AV)→Hp→Prop} {Ke:Nat→List (Option AV)→Hp→Prop} {Kr:List (Option AV)→Hp→Prop} {p:Prop}
  (e:cW (kZ M S N d) (qH MW M S N d) N c t h o.n o (fun s _ _=>dH L Kn Ke Kr s)=p) (hp:p): ∃s,ct (kZ M S N d) N c t h=s∧dH L Kn Ke Kr s:=by
 rw [←e] at hp
 obtain ⟨s,_,_,h1,_,h3⟩:=kc (pB hw d) c t h _ _ _ hp
 exact ⟨s,h1,h3⟩
theorem kq {call:aJ} (aQ:Good P call) {M:Nat} {A:AC} {fr:List (Nat×AV)} {hF:Hp} {L:List Nat}
  {Kn:List (Option AV)→Hp→Prop} {Ke:Nat→List (Option AV)→Hp→Prop} {Kr:List (Option AV)→Hp→Prop} {Q:QT}
  (ev: ∀g,∃s,ct call M A (iR fr g) hF=s∧dH L Kn Ke Kr s)
  (hn: ∀sl h1 a w,Kn sl h1→HI μ0 h0 w0 n hF L sl h1 a w→Q .normal a w) (he: ∀i sl h1 a w,Ke i sl h1→HI μ0 h0 w0 n hF L sl h1 a w→Q (.exit i) a w) (hr: ∀sl h1 a w,Kr sl h1→HI μ0 h0 w0 n hF L sl h1 a w→Q .ret a w):
  hP P n A (pK μ0 h0 w0 n fr hF) Q:=fun x hx a w st=>by
 subst hx
 exact G1 bT aQ st ev hn he hr
theorem ME {M:Nat→Option (List AV→Hp→RV)} {f:Nat} {af:AF} (hf:ae P (ab P) f=some af) {μ:Mp} {h:Hp} {w:World} (hs:bq μ h w) (hm: ∀c,μ.own c=false) {args:List AV} {cargs:Array Value} (r:bb μ args cargs.toList)
  (hle:args.length≤af.ntmps) {i:Nat} (hres:af.results= [.tmp i])
  (H:hP P af.ntmps af.body (fun a w1=>w1=w∧At μ h w af.ntmps (cI args) h a w) (fun e a w1=>e= .ret∧∃L sl t1 h1,i ∈ L∧cu L t1=sl∧bf (pathOf i) t1=some (.bool true)∧At μ h w af.ntmps t1 h1 a w1)):
  Calls P f cargs w fun e w'=>e= .returned (.bool true)∧Below w.heap.size w w':=by
 have hf0:=hf
 unfold ae at hf
 cases hfn:P.funcs[f]? with
 | none=>rw [hfn] at hf;cases hf
 | some fn=>
   rw [hfn] at hf
   have hf:pL P (ab P) fn=some af:=hf
   unfold pL at hf
   split at hf
   ·cases hf
   rename_i hname
   split at hf
   ·rename_i c rs hb hrs
    cases hf
    have hres:rs= [.tmp i] :=hres
    subst hres
    refine calls_of_wp hfn hb ?_
    have hlen:cargs.size=args.length:=by have:=r.length;simpa using this
    have hle:args.length≤fn.ntmps:=hle
    have st:At μ h w fn.ntmps (cI args) h {tmps:=cargs++Array.replicate (fn.ntmps - cargs.size) Go.undef,defers:=[]} w:=
     ⟨⟨μ,kD r _,hs, .refl hs⟩,rfl,by simp;omega⟩
    refine wp_mono (H c rfl _ w ⟨rfl,st⟩) fun e a1 w1 ⟨he,L,sl,t1,h1,hi,hsl,ht,st1⟩=>?_
    subst he
    obtain ⟨μ1,r1,hs1,g1⟩:=st1.ex
    obtain ⟨vs,xs,h3,h4,h5⟩:=mO (P:=P) (β:=Option (List AV)) (z:=none) (k:=some) hs1 r1 hrs (show rF [.tmp i] t1 h1 none some=some [.bool true] from by
     show some [ay (.tmp i) t1] =_
     rw [cv,ht];rfl) nofun
    cases h3
    obtain ⟨x,hx,rx⟩:=h4.one
    rw [VR_bool] at rx
    subst rx;subst hx
    have hmm:(fn.results.mapM (lv a1.tmps)).run P w1= .ok #[.bool true] w1:=by have:=fR _ _ _ h5;simpa using this
    have hdef:Go.results fn a1.tmps=(do let vs←fn.results.mapM (lv a1.tmps);pure (if h:vs.size=1 then vs[0] else .tuple vs)):=rfl
    refine ⟨st1.defers, .bool true,?_,rfl,g1.rV hm⟩
    rw [hdef]
    simp only [Sem.run_bind,hmm,Result.andThen_ok,Sem.run_pure]
    rfl
   ·cases hf
end
end Eng
end
section
set_option linter.unusedVariables false
set_option linter.unusedSimpArgs false
namespace Eng
open Go Go.RowKit
def MF:List (Nat×KB)→List (Nat×Own)→List Ke:=fun a=>bV (fun _=>[]) (fun p _ ih l=>ee [] (fun q r=>⟨p.1,q.1,q.2,p.2⟩::ih r) l) a
def iO (l:List (Nat×KB)):List (Nat×aY):=lmap (fun p=>(p.1,p.2.Mx)) l
def sf (l:List Nat) (i:Nat):Nat:=av 0 (fun x=>x) (an l i)
def HJ (Nc:Nat) (k:KB):Bool:=KB.rec (motive:=fun _=>Bool) (fun x=>match x with | .cells cs _ .ro=>cN (fun i=>Nat.blt i Nc) cs | _=>false) (fun z _ now=>match now with | .ro=>isNum z | _=>false) (fun _ _ _=>false) k
def HK (Nc:Nat) (LB:List (Nat×KB)):Bool:=a9 (fun p=>bc (Nat.blt p.1 Nc) (HJ Nc p.2) false) LB
theorem B8 {Nc:Nat} {k:KB} (h:HJ Nc k=true): ∃cs n,k.Mx= .cells cs n .ro∧∀v ∈ cs,cR (fun i=>Nat.blt i Nc) v=true:=by
 cases k with
 | b x=>
   cases x with
   | cells cs n ow=>
     cases ow with
     | ro=>
       have h:cN (fun i=>Nat.blt i Nc) cs=true:=h
       rw [hI] at h
       exact ⟨cs,n,rfl,h⟩
     | _=>cases h
   | _=>cases h
 | m z n now=>
   cases now with
   | ro=>
     have h:isNum z=true:=h
     refine ⟨_,_,rfl,fun v hv=>?_⟩
     rw [kp hv]
     cases z <;> first | rfl | cases h
   | _=>cases h
 | f c n now=>cases h
mutual
theorem jm {d d':Nat→Bool} (h: ∀b,d b=true→d' b=true): ∀v,cR d v=true→cR d' v=true
 | .bool _,_ | .int _ _,_ | .str _,_ | .nilPtr,_ | .nilSlice,_ | .nilMap,_ | .nilFunc,_ | .nilIface,_=>by unfold cR;rfl
 | .ptr b o,k=>by unfold cR at *;exact h b k
 | .slice b o l c s e,k=>by unfold cR at *;exact h b k
 | .map b,k=>by unfold cR at *;exact h b k
 | .func f a b,k=>by unfold cR at *;obtain ⟨k1,k2⟩:=aR.1 k;exact aR.2 ⟨f_ h a k1,f_ h b k2⟩
 | .iface t v,k=>by unfold cR at *;exact jm h v k
 | .agg l,k=>by unfold cR at *;exact f_ h l k
 | .tuple l,k=>by unfold cR at *;exact f_ h l k
theorem f_ {d d':Nat→Bool} (h: ∀b,d b=true→d' b=true): ∀l,cN d l=true→cN d' l=true
 | [],_=>by unfold cN;rfl
 | v::l,k=>by unfold cN at *;obtain ⟨k1,k2⟩:=aR.1 k;exact aR.2 ⟨jm h v k1,f_ h l k2⟩
end
theorem kN.over {TB:Tr aY} {n0 Nc:Nat} (tb:kN TB n0) (h0:n0≤Nc) {LB:List (Nat×KB)} (h:HK Nc LB=true):kN (nZ (iO LB) TB) Nc:=by
 unfold HK at h
 rw [aT] at h
 have key: ∀b,(∃p ∈ LB,p.1=b∧bf (pathOf b) (nZ (iO LB) TB)=some p.2.Mx)∨bf (pathOf b) (nZ (iO LB) TB)=bf (pathOf b) TB:=fun b=>by
  rw [mg]
  unfold iO;rw [bS]
  cases hf:(LB.map fun p=>(p.1,p.2.Mx)).find? (fun p=>p.1 == b) with
  | none=>exact .inr rfl
  | some q=>
    have h1:=List.find?_some hf
    obtain ⟨p,hp,rfl⟩:=List.mem_map.1 (List.mem_of_find?_eq_some hf)
    exact .inl ⟨p,hp,by simpa using h1,rfl⟩
 refine ⟨fun b hb=>?_,fun b x hx=>?_⟩
 ·rcases key b with ⟨p,hp,rfl,_⟩ | e
  ·have:=(aR.1 (h p hp)).1
   rw [b_] at this;simp at this;omega
  ·rw [e];exact tb.none b (by omega)
 ·rcases key b with ⟨p,hp,rfl,e⟩ | e
  ·rw [e] at hx
   obtain rfl:=Option.some.inj hx
   exact B8 (aR.1 (h p hp)).2
  ·rw [e] at hx
   obtain ⟨cs,n,k1,k2⟩:=tb.fro b x hx
   exact ⟨cs,n,k1,fun v hv=>jm (fun i hi=>by rw [b_] at hi ⊢;simp at hi ⊢;omega) v (k2 v hv)⟩
theorem kN.lf:kN .lf 0:=⟨fun b _=>dA _,fun b x h=>by rw [dA] at h;cases h⟩
section
variable {P:Program} {n:Nat} {μ0:Mp} {h0:Hp} {w0:World}
def pF (D:List (Nat×aY)) (N:Nat) (E:List Ke) (Nc N':Nat) (fr:List (Nat×AV)):Bool:=
 bc (a9 (fun p=>Nat.ble Nc p.1) D) (bc (tS E Nc N') (bc (tV E Nc fr) (bc (Nat.ble Nc N) (Nat.ble Nc N') false) false) false) false
theorem sh {a b:Nat} (h:Nat.ble a b=true):a≤b:=by rw [ij] at h;simpa using h
theorem tW {hF:Hp} {fr':List (Nat×AV)} {sl:List (Option AV)} {a:Act} {w:World} (s:HI μ0 h0 w0 n hF (qK fr') sl hF a w) (hsl:sl=lmap (fun p=>some p.2) fr'):pK μ0 h0 w0 n fr' hF a w:=by
 obtain ⟨μ,w',t1,hs,go,k,⟨μ1,r1,hs1,g1⟩,hd,hz⟩:=s
 refine ⟨t1,⟨μ1,?_,hs1,go.trans g1⟩,hd,hz⟩
 rw [pv (l:=fr') (t:=t1) ?_]
 ·exact r1
 ·unfold Has
  rw [←bS,←bS]
  exact k.trans hsl
theorem df {call:aJ} (aQ:Good P call) {M:Nat} {A:AC} {fr fr':List (Nat×AV)} {hF:Hp}
  (ev: ∀g,∃s,ct call M A (iR fr g) hF=s∧dH (qK fr') (fun sl h1=>sl=lmap (fun p=>some p.2) fr'∧h1=hF) (fun _ _ _=>False) (fun _ _=>False) s) {Q:QT}:
  hP P n A (pK μ0 h0 w0 n fr hF) (Exit.then (pK μ0 h0 w0 n fr' hF) Q):=
 kq aQ ev (fun sl h1 a w k s=>by obtain ⟨k1,rfl⟩:=k;exact tW s k1) (fun _ _ _ _ _ k=>k.elim) (fun _ _ _ _ k=>k.elim)
theorem nf {call:aJ} (aQ:Good P call) {M:Nat} {A:AC} {fr fr':List (Nat×AV)} {hF:Hp} {i:Nat}
  (ev: ∀g,∃s,ct call M A (iR fr g) hF=s∧dH (qK fr') (fun _ _=>False) (fun j sl h1=>j=i∧sl=lmap (fun p=>some p.2) fr'∧h1=hF) (fun _ _=>False) s) {Q:QT} (hQ: ∀a w,pK μ0 h0 w0 n fr' hF a w→Q (.exit i) a w):
  hP P n A (pK μ0 h0 w0 n fr hF) Q:=
 kq aQ ev (fun _ _ _ _ k=>k.elim) (fun j sl h1 a w k s=>by obtain ⟨rfl,k1,rfl⟩:=k;exact hQ a w (tW s k1)) (fun _ _ _ _ k=>k.elim)
def dg (μ0:Mp) (h0:Hp) (w0:World) (n i:Nat):QT:=fun e a w1=>e= .ret∧∃L sl t1 h1,i ∈ L∧cu L t1=sl∧bf (pathOf i) t1=some (.bool true)∧At μ0 h0 w0 n t1 h1 a w1
theorem aM {call:aJ} (aQ:Good P call) {M:Nat} {A:AC} {fr:List (Nat×AV)} {hF:Hp} {i:Nat}
  (ev: ∀g,∃s,ct call M A (iR fr g) hF=s∧dH [i] (fun _ _=>False) (fun _ _ _=>False) (fun sl _=>sl= [some (.bool true)]) s):
  hP P n A (pK μ0 h0 w0 n fr hF) (dg μ0 h0 w0 n i):=
 kq aQ ev (fun _ _ _ _ k=>k.elim) (fun _ _ _ _ _ k=>k.elim) fun sl h1 a w k s=>by
  obtain ⟨μ,w',t1,hs,go,k1,⟨μ1,r1,hs1,g1⟩,hd,hz⟩:=s
  subst k
  have k2:bf (pathOf i) t1=some (.bool true):=(List.cons.inj (show bf (pathOf i) t1:: [] =some (.bool true):: [] from k1)).1
  exact ⟨rfl,[i],_,t1,h1,by simp,rfl,k2,⟨μ1,r1,hs1,go.trans g1⟩,hd,hz⟩
def ng (l:List AC):AC:=bV .skip (fun A _ ih=> .seq A ih) l
def nh (l:List AC) (B:AC):AC:=bV B (fun A _ ih=> .seq A ih) l
theorem ni {call:aJ} (aQ:Good P call) {M:Nat} {B:AC} {R:ST} {Q:QT} (hB:hP P n B R Q): ∀(l:List AC) (t:T) (h:Hp),
  jn μ0 h0 w0 n (Exit.then R Q) (ct call M (ng l) t h)→hP P n (nh l B) (At μ0 h0 w0 n t h) Q
 | [],t,h,hp=>fun x hx a w st=>hB x hx a w (hp a w st)
 | A::l,t,h,hp=>fun x hx a w st=>by
   obtain ⟨u,v,rfl,hu,hv⟩:=n5 (show bp P (ab P) n x= .seq A (nh l B) from hx)
   have hp:jn μ0 h0 w0 n (Exit.then R Q) ((ct call M A t h).then (ct call M (ng l))):=hp
   refine wp_seq (fJ bT aQ u _ t h a w (N:=M) (n:=n) (μ0:=μ0) (h0:=h0) (w0:=w0) ?_ st)
   rw [hu]
   cases e:ct call M A t h with
   | no=>rw [e] at hp;exact hp
   | nor t1 h1=>
     rw [e] at hp
     have hp:jn μ0 h0 w0 n (Exit.then R Q) (ct call M (ng l) t1 h1):=hp
     exact fun a1 w1 s1=>ni aQ hB l t1 h1 hp v hv a1 w1 s1
   | exit i t1 h1=>rw [e] at hp;exact hp
   | ret t1 h1=>rw [e] at hp;exact hp
end
abbrev qM (k:IntKind) (a b c:Nat):Prop:=aq (.mn [.const (tI k a), .const (tI k b)]) .lf H0= .ok (tI k c)
theorem B9 {k:IntKind} {a b c:Nat} (h:min a b=c):qM k a b c:=h ▸ L6 a b
def B_:List (Nat×Nat×Own)→List (Nat×Own):=fun l=>bV [] (fun p _ ih=>Nat.rec (motive:=fun _=>Nat→List (Nat×Own)) (fun _=>ih) (fun _ go a=>(a,p.2.2)::go (Nat.succ a)) p.2.1 p.1) l
end Eng
end
section
set_option linter.unusedVariables false
set_option linter.unusedSimpArgs false
namespace Eng
open Go Go.RowKit
section
variable {P:Program} {n:Nat} {μ0:Mp} {h0:Hp} {w0:World}
def bI (ks fr:List (Nat×AV)):List (Nat×AV):=bV fr (fun p _ ih=>p::ih) ks
def jK (ks fr:List (Nat×AV)):List Nat:=bV (qK fr) (fun p _ ih=>p.1::ih) ks
def qP (ks:List (Nat×AV)) (sl:List (Option AV)):List (Option AV):=bV sl (fun p _ ih=>some p.2::ih) ks
def qQ (E:List Ke) (Nc:Nat) (ks fr:List (Nat×AV)) (sl:List (Option AV)) (h1:Hp):Prop:=sl=qP ks (MD E Nc fr)∧lmap (au h1) (u1 E)=T0 E Nc
theorem VX: ∀{ks fr:List (Nat×AV)} {E:List Ke} {Nc:Nat} {t:T},cu (jK ks fr) t=qP ks (MD E Nc fr)→∀p ∈ bI ks fr,(p ∈ ks∧bf (pathOf p.1) t=some p.2)∨(p ∈ fr∧bf (pathOf p.1) t=some (hE (iS E Nc) p.2))
 | [],fr,E,Nc,t,h,p,hp=> .inr ⟨hp,qL h p hp⟩
 | q::ks,fr,E,Nc,t,h,p,hp=>by
   have h:bf (pathOf q.1) t::cu (jK ks fr) t=some q.2::qP ks (MD E Nc fr):=h
   obtain ⟨h1,h2⟩:=List.cons.inj h
   have hp:p ∈ q::bI ks fr:=hp
   rcases List.mem_cons.1 hp with rfl | hp'
   ·exact .inl ⟨by simp,h1⟩
   ·rcases VX h2 p hp' with ⟨k1,k2⟩ | k
    ·exact .inl ⟨by simp [k1],k2⟩
    ·exact .inr k
def si (ks:List (Nat×AV)) (Nc:Nat):Prop:= ∀p ∈ ks,cR (fun i=>Nat.blt i Nc) p.2=true
theorem si.up {ks:List (Nat×AV)} {a b:Nat} (h:si ks a) (k:a≤b):si ks b:=fun p hp=>jm (fun i hi=>by rw [b_] at hi ⊢;simp at hi ⊢;omega) _ (h p hp)
theorem n_ (hown: ∀c,c < w0.heap.size→μ0.own c=false) {hF h1:Hp} {ks fr:List (Nat×AV)} {E:List Ke} {Nc N:Nat} {TB:Tr aY} {sl:List (Option AV)} {a:Act} {w1:World}
  (s:HI μ0 h0 w0 n hF (jK ks fr) sl h1 a w1) (sn:qQ E Nc ks fr sl h1) (hN0:h0.next≤Nc) (hNc:Nc≤hF.next) (hN:Nc≤N) (tb:kN TB Nc) (hc: ∀b,b < Nc→bf (pathOf b) TB=au hF b∨bf (pathOf b) TB=none)
  (kf:tS E Nc N=true) (ff:tV E Nc fr=true) (kk:si ks Nc):pK μ0 h0 w0 n (bI ks fr) (n3 E TB N) a w1:=by
 obtain ⟨μ,w,t1,hs,go,hsl,⟨μ1,r1,hs1,g1⟩,hdef,hsz⟩:=s
 obtain ⟨sn1,sn2⟩:=sn
 have k:=BY kf
 obtain ⟨k1,k2,k3⟩:=GY hown go hs g1 hs1 hN0 hNc hN tb hc k (fun e he=>by rw [←k.gD e he];exact B5 sn2 e he)
 obtain ⟨g,hg⟩:=GZ a.tmps
 unfold tV at ff
 rw [aT] at ff
 refine ⟨g,⟨_,HH (hg _) fun p hp=>?_,k1,k2⟩,hdef,hsz⟩
 have h6:=r1 p.1
 rcases VX (hsl.trans sn1) p hp with ⟨m1,m2⟩ | ⟨m1,m2⟩
 ·rw [cv,m2] at h6
  refine qJ (μ1:=μ1) (ρ:=fun b=>b) (d:=fun i=>Nat.blt i Nc) (fun b hb c s ha=>?_) _ _ (kk p m1) (by rw [pC];exact h6)
  have hb:b < Nc:=by rw [b_] at hb;simpa using hb
  exact ⟨by rw [kO hb];exact ha,rfl⟩
 ·rw [cv,m2] at h6
  exact k3 _ _ (ff p m1) h6
abbrev tX (E:List Ke) (Nc:Nat) (ks fr:List (Nat×AV)):Prop:=qP ks (MD E Nc fr)=qP ks (MD E Nc fr)∧T0 E Nc=T0 E Nc
theorem Ca {E:List Ke} {Nc:Nat} {ks fr:List (Nat×AV)}:tX E Nc ks fr:=⟨rfl,rfl⟩
theorem u3 (hown: ∀c,c < w0.heap.size→μ0.own c=false) {call:aJ} (aQ:Good P call) {M:Nat} {A:AC} {ks fr fr':List (Nat×AV)} {D D':List (Nat×aY)} {N Nc N':Nat} {TB:Tr aY} {E:List Ke}
  (hN0:h0.next≤Nc) (kk:si ks Nc) (tb:kN TB Nc) (fm:pF D N E Nc N' fr'=true) (hD:GX E=D')
  (ev: ∀g,∃s,ct call M A (iR (bI ks fr) g) ⟨N,nZ D TB⟩=s∧dH (jK ks fr') (fun sl h1=>qQ E Nc ks fr' sl h1) (fun _ _ _=>False) (fun _ _=>False) s) {Q:QT}:
  hP P n A (pK μ0 h0 w0 n (bI ks fr) ⟨N,nZ D TB⟩) (Exit.then (pK μ0 h0 w0 n (bI ks fr') ⟨N',nZ D' TB⟩) Q):=by
 obtain ⟨c1,fm⟩:=aR.1 fm
 obtain ⟨c2,fm⟩:=aR.1 fm
 obtain ⟨c3,fm⟩:=aR.1 fm
 obtain ⟨c4,c5⟩:=aR.1 fm
 subst hD
 exact kq aQ ev (fun sl h1 a w k s=>n_ hown s k hN0 (sh c4) (sh c5) tb (B6 c1) c2 c3 kk) (fun _ _ _ _ _ k=>k.elim) (fun _ _ _ _ k=>k.elim)
theorem qR (hown: ∀c,c < w0.heap.size→μ0.own c=false) {call:aJ} (aQ:Good P call) {M:Nat} {l:List AC} {B:AC} {ks fr fr':List (Nat×AV)} {N':Nat} {E:List Ke} (kk:si ks h0.next) (tb:kN h0.t h0.next)
  (kf:tS E h0.next N'=true) (ff:tV E h0.next fr'=true) (hN:h0.next≤N')
  (ev: ∀g,∃s,ct call M (ng l) (iR (bI ks fr) g) h0=s∧dH (jK ks fr') (fun sl h1=>qQ E h0.next ks fr' sl h1) (fun _ _ _=>False) (fun _ _=>False) s) {Q:QT}
  (hB:hP P n B (pK μ0 h0 w0 n (bI ks fr') ⟨N',nZ (GX E) h0.t⟩) Q):hP P n (nh l B) (pK μ0 h0 w0 n (bI ks fr) h0) Q:=fun x hx a w ⟨g,st⟩=>by
 obtain ⟨⟨μ,r,hs,go⟩,hdef,hsz⟩:=st
 obtain ⟨s,e,ho⟩:=ev g
 refine ni (M:=M) (μ0:=μ) (h0:=h0) (w0:=w) aQ hB l (iR (bI ks fr) g) h0 ?_ x hx a w ⟨⟨μ,r,hs, .refl hs⟩,hdef,hsz⟩
 rw [e]
 cases s with
 | no=>exact ho.elim
 | nor t1 h1=>exact fun a1 w1 s1=>n_ hown ⟨μ,w,t1,hs,go,rfl,s1⟩ ho (Nat.le_refl _) (Nat.le_refl _) hN tb (fun b _=> .inl rfl) kf ff kk
 | exit i t1 h1=>exact ho.elim
 | ret t1 h1=>exact ho.elim
end
def FW (oa ob:Option aY):Tr aY:= .nd oa (.nd ob .lf .lf) .lf
def hO (oa ob:Option aY):Hp:=⟨2,FW oa ob⟩
theorem mj (oa ob:Option aY) (b:Nat):au (hO oa ob) b=if b=1 then ob else if b=0 then oa else none:=by
 show bf (pathOf b) (FW oa ob)=_
 by_cases h1:b=1
 ·subst h1;rfl
 by_cases h0:b=0
 ·subst h0;rfl
 rw [if_neg h1,if_neg h0]
 generalize hp:pathOf b=p
 cases p with
 | e=>exact absurd (bw (hp.trans (show kY.e=pathOf 0 from rfl))) h0
 | l q=>
   cases q with
   | e=>exact absurd (bw (hp.trans (show kY.l .e=pathOf 1 from rfl))) h1
   | l q=>exact dA q
   | r q=>exact dA q
 | r q=>exact dA q
def nj (v:AV):Bool:=match v with | .int _ _=>true | .bool _=>true | _=>false
theorem qS {d:Nat→Bool} {v:AV} (h:nj v=true):cR d v=true:=by cases v <;> first | (unfold cR;rfl) | (cases h;done)
theorem sj {v:AV} (h:nj v=true):aD v=true:=by cases v <;> first | rfl | (cases h;done)
def T2 (o:Option aY):Prop:= ∀x,o=some x→∃cs n,x= .cells cs n .ro∧∀v ∈ cs,nj v=true
theorem MG {oa ob:Option aY} (ha:T2 oa) (hb:T2 ob):kN (FW oa ob) 2:=by
 have hg: ∀b,bf (pathOf b) (FW oa ob)=_:=mj oa ob
 refine ⟨fun b h=>by rw [hg,if_neg (by omega),if_neg (by omega)],fun b x hx=>?_⟩
 rw [hg] at hx
 split at hx
 ·obtain ⟨cs,n,h1,h2⟩:=hb x hx;exact ⟨cs,n,h1,fun v hv=>qS (h2 v hv)⟩
 ·split at hx
  ·obtain ⟨cs,n,h1,h2⟩:=ha x hx;exact ⟨cs,n,h1,fun v hv=>qS (h2 v hv)⟩
  ·cases hx
end Eng
end
end
