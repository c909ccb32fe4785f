import Derived.Test.YtfcljjhlijolgaaGreatDoorSQD
noncomputable section
namespace Go.Proofs.YtfcljjhlijolgaaGreatDoor.serverQueue
open Go.ChangeShapes Go.WideShapes Go.ChangeAt Go.RowKit
open Go.ChangeMaps (open_string shut_string)
open Eng
set_option linter.unusedVariables false
set_option linter.unusedSimpArgs false
def v0:V:=⟨14,13,26,13,sf [0,12,2,0,0,0,0,0,0,0,0,1,1,97],sf [0,11,3,0,0,0,0,0,0,0,0,1,97],sf [0,11,0,0,0,0,0,0,0,0,0,1,0,0,11,0,0,0,0,0,0,0,0,0,2,0],sf [0,11,0,0,0,0,0,0,0,0,0,1,0]⟩
def EE (B:Bt):List Ke:=app (MF (cr B v0) (B_ [(7,1, .solo),(5,1, .solo),(12,1, .solo),(17,1, .solo),(22,1, .solo),(27,1, .solo),(6,1, .solo),(900,1,(.pair 796)),(4,1, .solo),(749,1, .solo),(8,1, .solo),(10,1, .solo),(788,1,(.pair 565)),(13,1, .solo),(15,1, .solo),(892,1, .solo),(20,1, .solo),(25,1, .solo),(747,1, .solo),(611,1, .solo),(9,1, .solo),(828,1, .solo),(14,1, .solo),(19,1, .solo),(24,1, .solo),(746,1, .solo),(643,1, .solo),(745,1, .solo),(739,1,(.pair 730)),(743,1, .solo),(646,1, .solo),(657,1, .solo),(664,1, .solo),(677,1, .solo),(688,1, .solo),(697,1, .solo),(705,1, .solo),(732,1, .solo)])) (MF LB (B_ [(526,1, .solo),(11,1, .solo),(16,1, .solo),(18,1, .solo),(21,1, .solo),(23,1, .solo),(26,1, .solo),(79,6, .solo),(571,1, .solo),(85,13, .solo),(644,1, .solo),(641,2, .solo)]))
theorem Wj {W:Wd} {B:Bt} {m L:Nat} (hl:aq (.lenL (.const W.vw)) .lf H0= .ok (vi m)) (hm:m≤4) (hl2:aq (.lenL (.const W.vf)) .lf H0= .ok (vi L)) (hL:L≤40) (g:T):
  ∃s,ct CL 100000 (ng [A0,A1,A2,A3,A4]) (iR (bI W.ks []) g) (hO W.oa W.ob)=s∧dH (jK W.ks f5) (fun sl h1=>qQ (EE B) 2 W.ks f5 sl h1) (fun _ _ _=>False) (fun _ _=>False) s:=by
 have q0:aq (.lenL (.const W.vw)) .lf H0= .ok (vi (m)):=hl
 have q1:qB .i64 .i64 .gtr m 4 (.bool false):=r_ (by omega)
 have q2:aq (.lenL (.const W.vf)) .lf H0= .ok (vi (L)):=hl2
 have q3:qB .i64 .i64 .gtr L 40 (.bool false):=r_ (by omega)
 exact aA a_ (.tell 4 (tI .i64 m) (.tell 0 (.bool false) (.tell 2 (tI .i64 L) (.tell 0 (.bool false) .fin)))) (p:=aq (.lenL (.const W.vw)) .lf H0= .ok (vi (m))∧qB .i64 .i64 .gtr m 4 (.bool false)∧aq (.lenL (.const W.vf)) .lf H0= .ok (vi (L))∧qB .i64 .i64 .gtr L 40 (.bool false)∧tX (EE B) 2 W.ks f5) (by kernel_rfl) ⟨q0,q1,q2,q3,Ca⟩
theorem Wk {μ:Mp} {w:World} {W:Wd} (ok:Ok (μ,hO W.oa W.ob,w) W) {B:Bt} {m L:Nat} (hl:aq (.lenL (.const W.vw)) .lf H0= .ok (vi m)) (hm:m≤4) (hl2:aq (.lenL (.const W.vf)) .lf H0= .ok (vi L)) (hL:L≤40) {A:AC} {Q:QT}
  (h:Do A (ad (μ,hO W.oa W.ob,w) W f5 (cr B v0) 70) Q):Do (nh [A0,A1,A2,A3,A4] A) (pK μ (hO W.oa W.ob) w 148 (bI W.ks []) (hO W.oa W.ob)) Q:=
 qR (E:=EE B) (N':=70) ok.own aQ ok.kk ok.tb (by kernel_rfl) (by kernel_rfl) (by show 2≤70;decide) (Wj hl hm hl2 hL)
  (by rw [show (⟨70,nZ (GX (EE B)) (hO W.oa W.ob).t⟩:Hp)=⟨70,nZ (iO (cr B v0)) (TR W)⟩ from by kernel_rfl];exact h)
end Go.Proofs.YtfcljjhlijolgaaGreatDoor.serverQueue
end
