import Derived.Test.YtfcljjhlijolgaaGreatDoorSQB
namespace Go.Proofs.YtfcljjhlijolgaaGreatDoor.serverQueue
open Go.ChangeShapes Go.WideShapes Go.ChangeAt Go.RowKit
open Go.ChangeMaps (open_string shut_string)
open Eng
set_option linter.unusedVariables false
set_option linter.unusedSimpArgs false
theorem gY {MW:Nat→Option pA} {M:Nat→Option (List AV→Hp→RV)} {S:Nat→Option AF} {N d f n:Nat} {args:List AV} {h:Hp} {o:bW} {p:Prop}
  (hw: ∀f w,MW f=some w→∃m,M f=some m∧∀args h c r k,w args h c r k→∃v h' c' r',m args h= .ok v h'∧k v h' c' r')
  (e:qH MW M S N d f args h n o (fun v _ _ _=>v= .bool true)=p) (hp:p): ∃h',kZ M S N d f args h= .ok (.bool true) h':=by
 obtain ⟨v,h',c',r',e1,rfl⟩:=pB hw d f args h _ _ _ (e ▸ hp)
 exact ⟨h',e1⟩
theorem Vk {W:Wd} {m L:Nat} (hl:aq (.lenL (.const W.vw)) .lf H0= .ok (vi m)) (hm:4 < m): ∃h',kZ MM (ae Tryz.prog (ab Tryz.prog)) 100000 27 6 [W.vw,W.vf] (hO W.oa W.ob)= .ok (.bool true) h':=by
 have q0:aq (.lenL (.const W.vw)) .lf H0= .ok (vi (m)):=hl
 have q1:qB .i64 .i64 .gtr m 4 (.bool true):=BT (by omega)
 have q:qH TH MM (ae Tryz.prog (ab Tryz.prog)) 100000 27 6 [W.vw,W.vf] (hO W.oa W.ob) 4 (.tell 4 (tI .i64 m) (.tell 0 (.bool true) .fin)) (fun v _ _ _=>v= .bool true)=(aq (.lenL (.const W.vw)) .lf H0= .ok (vi (m))∧qB .i64 .i64 .gtr m 4 (.bool true)∧AV.bool true= .bool true):=by rw [←tY];kernel_rfl
 exact gY a_ q ⟨q0,q1,rfl⟩
theorem Vl {W:Wd} {m L:Nat} (hl:aq (.lenL (.const W.vw)) .lf H0= .ok (vi m)) (hm:m≤4) (hl2:aq (.lenL (.const W.vf)) .lf H0= .ok (vi L)) (hL:40 < L): ∃h',kZ MM (ae Tryz.prog (ab Tryz.prog)) 100000 27 6 [W.vw,W.vf] (hO W.oa W.ob)= .ok (.bool true) h':=by
 have q0:aq (.lenL (.const W.vw)) .lf H0= .ok (vi (m)):=hl
 have q1:qB .i64 .i64 .gtr m 4 (.bool false):=r_ (by omega)
 have q2:aq (.lenL (.const W.vf)) .lf H0= .ok (vi (L)):=hl2
 have q3:qB .i64 .i64 .gtr L 40 (.bool true):=BT (by omega)
 have q:qH TH MM (ae Tryz.prog (ab Tryz.prog)) 100000 27 6 [W.vw,W.vf] (hO W.oa W.ob) 4 (.tell 4 (tI .i64 m) (.tell 0 (.bool false) (.tell 2 (tI .i64 L) (.tell 0 (.bool true) .fin)))) (fun v _ _ _=>v= .bool true)=(aq (.lenL (.const W.vw)) .lf H0= .ok (vi (m))∧qB .i64 .i64 .gtr m 4 (.bool false)∧aq (.lenL (.const W.vf)) .lf H0= .ok (vi (L))∧qB .i64 .i64 .gtr L 40 (.bool true)∧AV.bool true= .bool true):=by rw [←tY];kernel_rfl
 exact gY a_ q ⟨q0,q1,q2,q3,rfl⟩
end Go.Proofs.YtfcljjhlijolgaaGreatDoor.serverQueue
