import Derived.Test.YtfcljjhlijolgaaGreatDoorTLB
namespace Go.Proofs.YtfcljjhlijolgaaGreatDoor.topLate
open Go.ChangeShapes Go.WideShapes Go.ChangeAt Go.RowKit
open Go.ChangeMaps (open_string shut_string)
open Eng
set_option linter.unusedVariables false
set_option linter.unusedSimpArgs false
theorem Te:isTrue (nL MM (ao Tryz.prog (aa Tryz.prog)) 100000 27 4 [.nilSlice] H0)=true:=by rw [←sO];kernel_rfl
theorem Tf (W:World):Calls Tryz.prog 4 #[.slice none 0 0] W fun e W'=>e= .returned (.bool true)∧Below W.heap.size W W':=
 oN bw uR 100000 27 4 W [.nilSlice] #[.slice none 0 0] (by rw [aJ];exact ⟨_,_,rfl,by rw [VR_nilSlice],by rw [aH]⟩) Te
theorem Qx:isTrue (nL MM (ao Tryz.prog (aa Tryz.prog)) 100000 27 4 [.slice 0 0 0 0 1 false] (hB []))=true:=by rw [←sO];kernel_rfl
theorem Tg {W:World} {μ:Mp} {x:Value} (hs:bh μ (hB []) W) (hm: ∀c,μ.own c=false) (r:VR μ (.slice 0 0 0 0 1 false) x):Calls Tryz.prog 4 #[x] W fun e W'=>e= .returned (.bool true)∧Below W.heap.size W W':=by
 obtain ⟨h',e⟩:=k_ Qx
 exact qf bw uR hs hm (args:=[.slice 0 0 0 0 1 false]) (by rw [aJ];exact ⟨_,_,rfl,r,by rw [aH]⟩) e
theorem jO {MW:Nat→Option q_} {M:Nat→Option (List AV→Hp→RV)} {S:Nat→Option AF} {N d f n:Nat} {args:List AV} {h:Hp} {o:b7} {p:Prop}
  (hw: ∀f w,MW f=some w→∃m,M f=some m∧∀args h c r k,w args h c r k→∃v h' c' r',m args h= .ok v h'∧k v h' c' r')
  (e:wb MW M S N d f args h n o (fun v _ _ _=>v= .bool true)=p) (hp:p): ∃h',nL M S N d f args h= .ok (.bool true) h':=by
 obtain ⟨v,h',c',r',e1,rfl⟩:=re hw d f args h _ _ _ (e ▸ hp)
 exact ⟨h',e1⟩
theorem Uc {W:World} {μ:Mp} {x:Value} {T:List Nat} {n:Nat} (hn:4 < n) (hs:bh μ (hB T) W) (hm: ∀c,μ.own c=false) (r:VR μ (.slice 0 0 n n 1 false) x):Calls Tryz.prog 4 #[x] W fun e W'=>e= .returned (.bool true)∧Below W.heap.size W W':=by
 have q:wb TQ MM (ao Tryz.prog (aa Tryz.prog)) 100000 27 4 [.slice 0 0 n n 1 false] (hB T) 5 (.tell 5 (.bool true) .fin) (fun v _ _ _=>v= .bool true)=(qB .i64 .i64 .gtr n 4 (.bool true)∧AV.bool true= .bool true):=by rw [←sO];kernel_rfl
 obtain ⟨h',e1⟩:=jO aq q ⟨J1 hn,rfl⟩
 exact qf bw uR hs hm (args:=[.slice 0 0 n n 1 false]) (by rw [aJ];exact ⟨_,_,rfl,r,by rw [aH]⟩) e1
end Go.Proofs.YtfcljjhlijolgaaGreatDoor.topLate
