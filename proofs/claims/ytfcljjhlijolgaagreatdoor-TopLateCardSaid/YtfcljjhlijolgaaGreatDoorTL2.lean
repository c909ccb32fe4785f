import Derived.Test.YtfcljjhlijolgaaGreatDoorTL0
noncomputable section
section
namespace Go.Proofs.YtfcljjhlijolgaaGreatDoor.topLate
open Go.ChangeShapes Go.WideShapes Go.ChangeAt Go.RowKit
open Go.ChangeMaps (open_string shut_string)
open Eng
set_option linter.unusedVariables false
set_option linter.unusedSimpArgs false
def TV (l:Nat→Nat):List (Nat×KB):=RC 2 (l 1 % 7+1)
def T2 (l:Nat→Nat):List Nat:=[l 0,l 1]
def Df (l:Nat→Nat):Tr aC:=dk (sN (TV l)) (K5 (T2 l))
theorem s6 (l:Nat→Nat):mo (Df l) 37:=(j_ _).over (by decide) (by kernel_rfl)
def rC (c l:Nat→Nat) (u lf:Nat):List (Nat×aC):=[(37,wj),(38,ic),(39,H6),(40,ie),(41,ig),(42,ij),(43,QD l),(44,QE u),(45,il),(46,im),(47,wk),(48,sP c),(49,b9),(50,b_),(51,cc),(52,QF l),(53,cd),(54,cg),(55,QG l),(56,cj),(57, .mp [] 0 0),(58, .mp [] 0 0),(59,QH),(60,cn),(61,QI),(62,QJ),(63,lr),(64, .cells [(vq 0)] 1 .solo),(65,lu),(66,dJ),(67, .mp [] 0 0),(68, .mp [] 0 0),(69,cr),(70, .mp [] 0 0),(71, .mp [] 0 0),(72, .mp [] 0 0),(73,ct),(74, .mp [] 0 0),(75,zB),(76,Da),(77,lq)]
def zJ (c l:Nat→Nat) (u lf:Nat):Hp:=⟨78,dk (rC c l u lf) (Df l)⟩
def ly (c l:Nat→Nat) (u lf:Nat):List (Nat×aC):=[(37,wj),(38,ic),(39,H6),(40,ie),(41,ig),(42,ij),(43,QD l),(44,QE u),(45,il),(46,im),(47,wk),(48,sP c),(49,b9),(50,b_),(51,cc),(52,QF l),(53,cd),(54,cg),(55,QG l),(56,cj),(57, .mp [] 0 0),(58, .mp [] 0 0),(59,QH),(60,cn),(61,QI),(62,QJ),(63,lr),(64,bM),(65,lu),(66,dJ),(67, .mp [] 0 0),(68, .mp [] 0 0),(69,cr),(70, .mp [] 0 0),(71, .mp [] 0 0),(72, .mp [] 0 0),(73,ct),(74, .mp [] 0 0),(75,pT lf),(76,pU),(77,bM),(78,pV),(79,fR),(80,pW),(81, .cells [(vi 0)] 1 .solo),(82, .cells [(vq 0)] 1 .solo)]
def iK (c l:Nat→Nat) (u lf:Nat):Hp:=⟨83,dk (ly c l u lf) (Df l)⟩
def zK (c l:Nat→Nat) (u lf:Nat):List (Nat×aC):=[(37,wj),(38,ic),(39,mY),(40,ie),(41,ig),(42,ij),(43,QK l),(44,Ka u),(45,il),(46,im),(47,wk),(48,mZ c),(49,b9),(50,b_),(51,cc),(52,QL l),(53,cd),(54,cg),(55,QM l),(56,cj),(57, .mp [] 0 0),(58, .mp [] 0 0),(59,Kb),(60,cn),(61,QN),(62,QO),(63,kd),(64, .cells [(vq 0)] 1 .solo),(65,ke),(66, .mp [] 0 0),(67, .mp [] 0 0),(68,cr),(69, .mp [] 0 0),(70, .mp [] 0 0),(71, .mp [] 0 0),(72,ct),(73, .mp [] 0 0),(74,tR),(75,wm),(76,lq),(77,pg)]
def zL (c l:Nat→Nat) (u lf:Nat):Hp:=⟨78,dk (zK c l u lf) (Df l)⟩
def po (c l:Nat→Nat) (u lf:Nat):List (Nat×aC):=[(37,wj),(38,ic),(39,mY),(40,ie),(41,ig),(42,ij),(43, .mp [((vq 1),(.agg [.int .i64 (Int.ofNat 0), .int .i64 (Int.ofNat 4), .int .u64 (Int.ofNat 1), .int .u64 (Int.ofNat 2), .str [115,112,105,110], .nilSlice, .nilSlice, .int .u64 (Int.ofNat (l 0 % 7+1)), .int .u64 (Int.ofNat 0)]),0)] 1 2),(44,Ka u),(45,il),(46,im),(47,wk),(48,mZ c),(49,b9),(50,b_),(51,cc),(52, .cells [(vq 1),(vq (l 0 % 7+1)),(vq 0),(vq 0)] 4 .solo),(53,cd),(54,cg),(55, .cells [(vi 4),(vq 1),(vq 2),(.str [115,112,105,110]),(.nilSlice),(.nilSlice),(vq (l 0 % 7+1)),(vq 0),(vi 1),(vq 1),(.bool false),(vq 0),(vi 0),(vq 0),(.nilSlice),(vi 4),(vq 2),(vq 2),(.str [115,112,105,110]),(.nilSlice),(.nilSlice),(vq (l 1 % 7+1)),(vq 0),(vi 1),(vq 2),(.bool true),(vq 2),(vi 14),(vq 0),(.nilSlice)] 30 .solo),(56,cj),(57, .mp [] 0 0),(58, .mp [] 0 0),(59,Kb),(60,cn),(61, .mp [((vq 1),(.ptr 65 0),0)] 1 2),(62, .cells [(vq 1),(vq 0)] 2 .solo),(63,kd),(64,bM),(65,ke),(66, .mp [] 0 0),(67, .mp [] 0 0),(68,cr),(69, .mp [] 0 0),(70, .mp [] 0 0),(71, .mp [] 0 0),(72,ct),(73, .mp [] 0 0),(74,pP lf),(75,pQ),(76,bM),(77,pR),(78,fR),(79,pS),(80, .cells [(vi 0)] 1 .solo),(81, .cells [(vq 0)] 1 .solo)]
def nH (c l:Nat→Nat) (u lf:Nat):Hp:=⟨82,dk (po c l u lf) (Df l)⟩
def m0 (c l:Nat→Nat) (u lf:Nat):List (Nat×aC):=[(37,wj),(38,ic),(39,lv),(40,ie),(41,ig),(42,ij),(43, .mp [] 0 2),(44, .cells [(.slice 52 0 0 2 2 false),(vq (u))] 2 .solo),(45,il),(46,im),(47,wk),(48,lx c),(49,b9),(50,b_),(51,cc),(52,QP),(53,cd),(54,cg),(55, .cells [(vi 4),(vq 1),(vq 2),(.str [115,112,105,110]),(.nilSlice),(.nilSlice),(vq (l 0 % 7+1)),(vq 0),(vi 1),(vq 1),(.bool true),(vq 1),(vi 14),(vq 0),(.nilSlice),(vi 4),(vq 2),(vq 2),(.str [115,112,105,110]),(.nilSlice),(.nilSlice),(vq (l 1 % 7+1)),(vq 0),(vi 1),(vq 2),(.bool true),(vq 2),(vi 14),(vq 0),(.nilSlice)] 30 .solo),(56,cj),(57, .mp [] 0 0),(58, .mp [] 0 0),(59, .cells [(.slice 62 0 0 2 1 false)] 1 .solo),(60,cn),(61, .mp [] 0 2),(62,QC),(63,Db),(64, .cells [(vq 0)] 1 .solo),(65, .mp [] 0 0),(66, .mp [] 0 0),(67,cr),(68, .mp [] 0 0),(69, .mp [] 0 0),(70, .mp [] 0 0),(71,ct),(72, .mp [] 0 0)]
def mA (c l:Nat→Nat) (u lf:Nat):Hp:=⟨73,dk (m0 c l u lf) (Df l)⟩
def pq (c l:Nat→Nat) (u lf:Nat):List (Nat×aC):=[(37,wj),(38,ic),(39,mY),(40,ie),(41,ig),(42,ij),(43,QK l),(44,Ka u),(45,il),(46,im),(47,wk),(48,mZ c),(49,b9),(50,b_),(51,cc),(52,QL l),(53,cd),(54,cg),(55,QM l),(56,cj),(57, .mp [] 0 0),(58, .mp [] 0 0),(59,Kb),(60,cn),(61,QN),(62,QO),(63,kd),(64,bM),(65,ke),(66, .mp [] 0 0),(67, .mp [] 0 0),(68,cr),(69, .mp [] 0 0),(70, .mp [] 0 0),(71, .mp [] 0 0),(72,ct),(73, .mp [] 0 0),(74,pP lf),(75,pQ),(76,bM),(77,pR),(78,fR),(79,pS),(80, .cells [(vi 0)] 1 .solo),(81, .cells [(vq 0)] 1 .solo)]
def nI (c l:Nat→Nat) (u lf:Nat):Hp:=⟨82,dk (pq c l u lf) (Df l)⟩
def wo:Nat→Nat:=aT [0,11,0,0,0,0,0,0,0,0,0,1,0,0,11,0,0,0,0,0,0,0,0,0,2,0]
def pr:Nat→Nat:=aT [0,11,0,0,0,0,0,0,0,0,0,1,0,0,11,0,0,0,0,0,0,0,0,0,2,0,0,11,0,0,0,0,0,0,0,1,14,0,0]
def pX:Nat→Nat:=aT [0,11,0,0,0,0,0,0,0,0,0,1,0,0,11,0,0,0,0,0,0,0,0,0,2,0,0,11,0,0,0,0,0,0,0,2,14,0,0]
def jS:Nat→Nat:=aT [0,11,0,0,0,0,0,0,0,0,0,1,0,0,11,0,0,0,0,0,0,0,0,0,2,0,0,11,0,0,0,0,0,0,0,1,14,0,0,0,11,0,0,0,0,0,0,0,2,14,0,0]
def mB:Nat→Nat:=aT [0,11,0,0,0,0,0,0,0,0,0,1,0,0,11,0,0,0,0,0,0,0,0,0,2,0,0,11,0,0,0,0,0,0,0,2,14,0,0,0,11,0,0,0,0,0,0,0,1,14,0,0]
end Go.Proofs.YtfcljjhlijolgaaGreatDoor.topLate
end
section
namespace Go.Proofs.YtfcljjhlijolgaaGreatDoor.topLate
open Go.ChangeShapes Go.WideShapes Go.ChangeAt Go.RowKit
open Go.ChangeMaps (open_string shut_string)
open Eng
set_option linter.unusedVariables false
set_option linter.unusedSimpArgs false
section
variable {X:Mp×Hp×World} (ok:fJ X)
include ok
theorem Dg {c l:Nat→Nat} {u told:Nat} {Q:QT}:Do a7 (Sx X 2 37 told (u+1) (zJ c l u 0)) (Exit.then (Sx X 2 37 told (u+1) (iK c l u 19991)) Q):=
 ae ok.1 av (E:=(ah (ly c l u 19991) (ad [(37,40, .solo),(86,1, .solo),(77,1, .solo),(108,1, .solo),(98,1, .solo),(95,2, .solo)]))) (Nat.le_trans ok.2 (by decide)) (s6 l) (by kernel_rfl) (by kernel_rfl) fun g=>ab aq .fin (p:=(ar (ah (ly c l u 19991) (ad [(37,40, .solo),(86,1, .solo),(77,1, .solo),(108,1, .solo),(98,1, .solo),(95,2, .solo)])) 37 (FR 2 37 told (u+1)))) (by kernel_rfl) au
theorem Dh {c l:Nat→Nat} {u lf told:Nat} (f1:100 < lf) (f2:lf≤20000) {Q:QT}:Do a7 (Sx X 2 37 told (u+1) (iK c l u lf)) (Exit.then (Sx X 2 37 told (u+1) (iK c l u (lf - 9))) Q):=
 ae ok.1 av (E:=(ah (ly c l u (lf - 9)) (ad [(37,46, .solo)]))) (Nat.le_trans ok.2 (by decide)) (s6 l) (by kernel_rfl) (by kernel_rfl) fun g=>ab aq (.tell 170 (vi 9) (.agn 0 (.tell 5462 (vi (lf - 9)) (.tell 14 (.bool false) .fin)))) (p:=qM .i64 9 lf 9∧Int.ofNat 9=ed (Int.ofNat 9) (Int.ofNat lf)∧qI lf∧qI 9∧qN .i64 .i64 .sub lf 9 (lf - 9)∧qE false .i64 (lf - 9) 0 false∧(ar (ah (ly c l u (lf - 9)) (ad [(37,46, .solo)])) 37 (FR 2 37 told (u+1)))) (by kernel_rfl) ⟨bL (by omega),dy (bL (k:= .i64) (show min 9 lf=9 by omega)) rfl,rfl,rfl,bI (by omega) (by omega) (by rfl),bD (by omega),au⟩
theorem Ki {c l:Nat→Nat} {u told:Nat} {Q:QT}:Do a7 (Sx X 2 37 told (u+1) (zL c l u 0)) (Exit.then (Sx X 2 37 told (u+1) (nI c l u 19991)) Q):=
 ae ok.1 av (E:=(ah (pq c l u 19991) (ad [(37,39, .solo),(86,1, .solo),(76,1, .solo),(108,1, .solo),(98,1, .solo),(95,2, .solo)]))) (Nat.le_trans ok.2 (by decide)) (s6 l) (by kernel_rfl) (by kernel_rfl) fun g=>ab aq .fin (p:=(ar (ah (pq c l u 19991) (ad [(37,39, .solo),(86,1, .solo),(76,1, .solo),(108,1, .solo),(98,1, .solo),(95,2, .solo)])) 37 (FR 2 37 told (u+1)))) (by kernel_rfl) au
theorem Kj {c l:Nat→Nat} {u lf told:Nat} (f1:100 < lf) (f2:lf≤20000) {Q:QT}:Do a7 (Sx X 2 37 told (u+1) (nH c l u lf)) (Exit.then (Sx X 2 37 told (u+1) (nH c l u (lf - 9))) Q):=
 ae ok.1 av (E:=(ah (po c l u (lf - 9)) (ad [(37,45, .solo)]))) (Nat.le_trans ok.2 (by decide)) (s6 l) (by kernel_rfl) (by kernel_rfl) fun g=>ab aq (.tell 170 (vi 9) (.agn 0 (.tell 5462 (vi (lf - 9)) (.tell 14 (.bool false) .fin)))) (p:=qM .i64 9 lf 9∧Int.ofNat 9=ed (Int.ofNat 9) (Int.ofNat lf)∧qI lf∧qI 9∧qN .i64 .i64 .sub lf 9 (lf - 9)∧qE false .i64 (lf - 9) 0 false∧(ar (ah (po c l u (lf - 9)) (ad [(37,45, .solo)])) 37 (FR 2 37 told (u+1)))) (by kernel_rfl) ⟨bL (by omega),dy (bL (k:= .i64) (show min 9 lf=9 by omega)) rfl,rfl,rfl,bI (by omega) (by omega) (by rfl),bD (by omega),au⟩
theorem I0 {c l:Nat→Nat} {u told:Nat} {Q:QT}:Do a7 (Sx X 2 37 told (u+1) (mA c l u 0)) (Exit.then (Sx X 2 37 told (u+1) (mA c l u 0)) Q):=
 ae ok.1 av (E:=(ah (m0 c l u 0) (ad [(37,36, .solo)]))) (Nat.le_trans ok.2 (by decide)) (s6 l) (by kernel_rfl) (by kernel_rfl) fun g=>ab aq .fin (p:=(ar (ah (m0 c l u 0) (ad [(37,36, .solo)])) 37 (FR 2 37 told (u+1)))) (by kernel_rfl) au
theorem Kk {c l:Nat→Nat} {u lf told:Nat} (f1:100 < lf) (f2:lf≤20000) {Q:QT}:Do a7 (Sx X 2 37 told (u+1) (nI c l u lf)) (Exit.then (Sx X 2 37 told (u+1) (nI c l u (lf - 9))) Q):=
 ae ok.1 av (E:=(ah (pq c l u (lf - 9)) (ad [(37,45, .solo)]))) (Nat.le_trans ok.2 (by decide)) (s6 l) (by kernel_rfl) (by kernel_rfl) fun g=>ab aq (.tell 170 (vi 9) (.agn 0 (.tell 5462 (vi (lf - 9)) (.tell 14 (.bool false) .fin)))) (p:=qM .i64 9 lf 9∧Int.ofNat 9=ed (Int.ofNat 9) (Int.ofNat lf)∧qI lf∧qI 9∧qN .i64 .i64 .sub lf 9 (lf - 9)∧qE false .i64 (lf - 9) 0 false∧(ar (ah (pq c l u (lf - 9)) (ad [(37,45, .solo)])) 37 (FR 2 37 told (u+1)))) (by kernel_rfl) ⟨bL (by omega),dy (bL (k:= .i64) (show min 9 lf=9 by omega)) rfl,rfl,rfl,bI (by omega) (by omega) (by rfl),bD (by omega),au⟩
end
end Go.Proofs.YtfcljjhlijolgaaGreatDoor.topLate
end
section
namespace Go.Proofs.YtfcljjhlijolgaaGreatDoor.topLate
open Go.ChangeShapes Go.WideShapes Go.ChangeAt Go.RowKit
open Go.ChangeMaps (open_string shut_string)
open Eng
set_option linter.unusedVariables false
set_option linter.unusedSimpArgs false
section
variable {X:Mp×Hp×World} (ok:fJ X)
include ok
theorem Re {l:Nat→Nat} {u lf:Nat} (hu:u < 8) (a0:u < l 0 % 7) (a1:u < l 1 % 7) {Q:QT}:Do an (Sx X 2 37 2 (u+1) (iK wo l u lf)) (Exit.then (Sx X 2 37 2 (u+1) (iK wo l (u+1) lf)) Q):=
 ae ok.1 av (E:=(ah (ly wo l (u+1) lf) (ad [(37,46, .solo)]))) (Nat.le_trans ok.2 (by decide)) (s6 l) (by kernel_rfl) (by kernel_rfl) fun g=>ab aq (o1 52 u (o2 23 false (o2 13 false (o4 1282 (l 0 % 7) u true (o4 11 (l 1 % 7) u true .fin))))) (p:=(p1 u (p2 (l 0 % 7+1) u false (p2 (l 1 % 7+1) u false (p4 (l 0) (l 0 % 7) u true (p4 (l 1) (l 1 % 7) u true (ar (ah (ly wo l (u+1) lf) (ad [(37,46, .solo)])) 37 (FR 2 37 2 (u+1))))))))) (by kernel_rfl) (k1 (by omega) (aP (by omega) (aP (by omega) (aw rfl (by omega) (aw rfl (by omega) au)))))
theorem Kl {l:Nat→Nat} {u lf:Nat} (hu:u < 8) (a0:l 0 % 7=u) (a1:u < l 1 % 7) {Q:QT}:Do an (Sx X 2 37 2 (u+1) (iK wo l u lf)) (Exit.then (Sx X 2 37 3 (u+1) (zL pr l (u+1) 0)) Q):=
 ae ok.1 av (E:=(ah (zK pr l (u+1) 0) (ad [(37,11, .solo),(163,1,(.pair 48)),(49,16, .solo),(66,9, .solo),(119,1, .solo),(117,2, .solo),(115,1, .solo)]))) (Nat.le_trans ok.2 (by decide)) (s6 l) (by kernel_rfl) (by kernel_rfl) fun g=>ab aq (o1 52 u (o2 23 true (o2 19 false (.agn 1294 (o4 2138 u u false (o4 37 (l 1 % 7) u true .fin)))))) (p:=(p1 u (p2 (l 0 % 7+1) u true (p2 (l 1 % 7+1) u false (p3 1 (l 0 % 7+1) (p4 (l 0) u u false (p4 (l 1) (l 1 % 7) u true (ar (ah (zK pr l (u+1) 0) (ad [(37,11, .solo),(163,1,(.pair 48)),(49,16, .solo),(66,9, .solo),(119,1, .solo),(117,2, .solo),(115,1, .solo)])) 37 (FR 2 37 3 (u+1)))))))))) (by kernel_rfl) (k1 (by omega) (aO (by omega) (aP (by omega) (k3 (aQ (by omega) (aw rfl (by omega) au))))))
theorem Km {l:Nat→Nat} {u lf:Nat} (hu:u < 8) (a0:u < l 0 % 7) (a1:l 1 % 7=u) {Q:QT}:Do an (Sx X 2 37 2 (u+1) (iK wo l u lf)) (Exit.then (Sx X 2 37 3 (u+1) (nH pX l (u+1) lf)) Q):=
 ae ok.1 av (E:=(ah (po pX l (u+1) lf) (ad [(37,11, .solo),(140,1,(.pair 48)),(49,17, .solo),(67,16, .solo)]))) (Nat.le_trans ok.2 (by decide)) (s6 l) (by kernel_rfl) (by kernel_rfl) fun g=>ab aq (o1 52 u (o2 23 false (o2 13 true (.agn 498 (o4 2153 (l 0 % 7) u true (o4 11 u u false .fin)))))) (p:=(p1 u (p2 (l 0 % 7+1) u false (p2 (l 1 % 7+1) u true (p3 2 (l 1 % 7+1) (p4 (l 0) (l 0 % 7) u true (p4 (l 1) u u false (ar (ah (po pX l (u+1) lf) (ad [(37,11, .solo),(140,1,(.pair 48)),(49,17, .solo),(67,16, .solo)])) 37 (FR 2 37 3 (u+1)))))))))) (by kernel_rfl) (k1 (by omega) (aP (by omega) (aO (by omega) (k3 (aw rfl (by omega) (aQ (by omega) au))))))
theorem Di {l:Nat→Nat} {u lf:Nat} (hu:u < 8) (a0:l 0 % 7=u) (a1:l 1 % 7=u) {Q:QT}:Do an (Sx X 2 37 2 (u+1) (iK wo l u lf)) (Exit.then (Sx X 2 37 4 (u+1) (mA jS l (u+1) 0)) Q):=
 ae ok.1 av (E:=(ah (m0 jS l (u+1) 0) (ad [(37,11, .solo),(215,1,(.pair 172)),(49,16, .solo),(67,8, .solo)]))) (Nat.le_trans ok.2 (by decide)) (s6 l) (by kernel_rfl) (by kernel_rfl) fun g=>ab aq (o1 52 u (o2 23 true (o2 19 true (.agn 1571 (.agn 453 (o4 2684 u u false (o4 37 u u false .fin))))))) (p:=(p1 u (p2 (l 0 % 7+1) u true (p2 (l 1 % 7+1) u true (p3 1 (l 0 % 7+1) (p3 2 (l 1 % 7+1) (p4 (l 0) u u false (p4 (l 1) u u false (ar (ah (m0 jS l (u+1) 0) (ad [(37,11, .solo),(215,1,(.pair 172)),(49,16, .solo),(67,8, .solo)])) 37 (FR 2 37 4 (u+1))))))))))) (by kernel_rfl) (k1 (by omega) (aO (by omega) (aO (by omega) (k3 (k3 (aQ (by omega) (aQ (by omega) au)))))))
theorem Ko {l:Nat→Nat} {u lf:Nat} (hu:u < 8) (a0:l 0 % 7 < u) (a1:u < l 1 % 7) {Q:QT}:Do an (Sx X 2 37 3 (u+1) (nI pr l u lf)) (Exit.then (Sx X 2 37 3 (u+1) (nI pr l (u+1) lf)) Q):=
 ae ok.1 av (E:=(ah (pq pr l (u+1) lf) (ad [(37,45, .solo)]))) (Nat.le_trans ok.2 (by decide)) (s6 l) (by kernel_rfl) (by kernel_rfl) fun g=>ab aq (o1 52 u (o2 23 false (o4 1782 (l 0 % 7) u true (o4 11 (l 1 % 7) u true .fin)))) (p:=(p1 u (p2 (l 1 % 7+1) u false (p4 (l 0) (l 0 % 7) u true (p4 (l 1) (l 1 % 7) u true (ar (ah (pq pr l (u+1) lf) (ad [(37,45, .solo)])) 37 (FR 2 37 3 (u+1)))))))) (by kernel_rfl) (k1 (by omega) (aP (by omega) (aw rfl (by omega) (aw rfl (by omega) au))))
theorem Dj {l:Nat→Nat} {u lf:Nat} (hu:u < 8) (a0:l 0 % 7 < u) (a1:l 1 % 7=u) {Q:QT}:Do an (Sx X 2 37 3 (u+1) (nI pr l u lf)) (Exit.then (Sx X 2 37 4 (u+1) (mA jS l (u+1) 0)) Q):=
 ae ok.1 av (E:=(ah (m0 jS l (u+1) 0) (ad [(37,11, .solo),(136,1,(.pair 48)),(49,16, .solo),(66,8, .solo)]))) (Nat.le_trans ok.2 (by decide)) (s6 l) (by kernel_rfl) (by kernel_rfl) fun g=>ab aq (o1 52 u (o2 23 true (.agn 469 (o4 2684 (l 0 % 7) u true (o4 11 u u false .fin))))) (p:=(p1 u (p2 (l 1 % 7+1) u true (p3 2 (l 1 % 7+1) (p4 (l 0) (l 0 % 7) u true (p4 (l 1) u u false (ar (ah (m0 jS l (u+1) 0) (ad [(37,11, .solo),(136,1,(.pair 48)),(49,16, .solo),(66,8, .solo)])) 37 (FR 2 37 4 (u+1))))))))) (by kernel_rfl) (k1 (by omega) (aO (by omega) (k3 (aw rfl (by omega) (aQ (by omega) au)))))
theorem Kp {l:Nat→Nat} {u lf:Nat} (hu:u < 8) (a0:u < l 0 % 7) (a1:l 1 % 7 < u) {Q:QT}:Do an (Sx X 2 37 3 (u+1) (nH pX l u lf)) (Exit.then (Sx X 2 37 3 (u+1) (nH pX l (u+1) lf)) Q):=
 ae ok.1 av (E:=(ah (po pX l (u+1) lf) (ad [(37,45, .solo)]))) (Nat.le_trans ok.2 (by decide)) (s6 l) (by kernel_rfl) (by kernel_rfl) fun g=>ab aq (o1 52 u (o2 23 false (o4 1782 (l 0 % 7) u true (o4 11 (l 1 % 7) u true .fin)))) (p:=(p1 u (p2 (l 0 % 7+1) u false (p4 (l 0) (l 0 % 7) u true (p4 (l 1) (l 1 % 7) u true (ar (ah (po pX l (u+1) lf) (ad [(37,45, .solo)])) 37 (FR 2 37 3 (u+1)))))))) (by kernel_rfl) (k1 (by omega) (aP (by omega) (aw rfl (by omega) (aw rfl (by omega) au))))
theorem Dk {l:Nat→Nat} {u lf:Nat} (hu:u < 8) (a0:l 0 % 7=u) (a1:l 1 % 7 < u) {Q:QT}:Do an (Sx X 2 37 3 (u+1) (nH pX l u lf)) (Exit.then (Sx X 2 37 4 (u+1) (mA mB l (u+1) 0)) Q):=
 ae ok.1 av (E:=(ah (m0 mB l (u+1) 0) (ad [(37,11, .solo),(136,1,(.pair 48)),(49,16, .solo),(66,8, .solo)]))) (Nat.le_trans ok.2 (by decide)) (s6 l) (by kernel_rfl) (by kernel_rfl) fun g=>ab aq (o1 52 u (o2 23 true (.agn 469 (o4 2669 u u false (o4 37 (l 1 % 7) u true .fin))))) (p:=(p1 u (p2 (l 0 % 7+1) u true (p3 1 (l 0 % 7+1) (p4 (l 0) u u false (p4 (l 1) (l 1 % 7) u true (ar (ah (m0 mB l (u+1) 0) (ad [(37,11, .solo),(136,1,(.pair 48)),(49,16, .solo),(66,8, .solo)])) 37 (FR 2 37 4 (u+1))))))))) (by kernel_rfl) (k1 (by omega) (aO (by omega) (k3 (aQ (by omega) (aw rfl (by omega) au)))))
theorem Dl {l:Nat→Nat} {u lf:Nat} (hu:u < 8) (a0:l 0 % 7 < u) (a1:l 1 % 7 < u) {Q:QT}:Do an (Sx X 2 37 4 (u+1) (mA jS l u 0)) (Exit.then (Sx X 2 37 4 (u+1) (mA jS l (u+1) 0)) Q):=
 ae ok.1 av (E:=(ah (m0 jS l (u+1) 0) (ad [(37,36, .solo)]))) (Nat.le_trans ok.2 (by decide)) (s6 l) (by kernel_rfl) (by kernel_rfl) fun g=>ab aq (o1 52 u (o4 2292 (l 0 % 7) u true (o4 11 (l 1 % 7) u true .fin))) (p:=(p1 u (p4 (l 0) (l 0 % 7) u true (p4 (l 1) (l 1 % 7) u true (ar (ah (m0 jS l (u+1) 0) (ad [(37,36, .solo)])) 37 (FR 2 37 4 (u+1))))))) (by kernel_rfl) (k1 (by omega) (aw rfl (by omega) (aw rfl (by omega) au)))
theorem Dm {l:Nat→Nat} {u lf:Nat} (hu:u < 8) (a0:l 0 % 7 < u) (a1:l 1 % 7 < u) {Q:QT}:Do an (Sx X 2 37 4 (u+1) (mA mB l u 0)) (Exit.then (Sx X 2 37 4 (u+1) (mA mB l (u+1) 0)) Q):=
 ae ok.1 av (E:=(ah (m0 mB l (u+1) 0) (ad [(37,36, .solo)]))) (Nat.le_trans ok.2 (by decide)) (s6 l) (by kernel_rfl) (by kernel_rfl) fun g=>ab aq (o1 52 u (o4 2292 (l 0 % 7) u true (o4 11 (l 1 % 7) u true .fin))) (p:=(p1 u (p4 (l 0) (l 0 % 7) u true (p4 (l 1) (l 1 % 7) u true (ar (ah (m0 mB l (u+1) 0) (ad [(37,36, .solo)])) 37 (FR 2 37 4 (u+1))))))) (by kernel_rfl) (k1 (by omega) (aw rfl (by omega) (aw rfl (by omega) au)))
end
end Go.Proofs.YtfcljjhlijolgaaGreatDoor.topLate
end
section
namespace Go.Proofs.YtfcljjhlijolgaaGreatDoor.topLate
open Go.ChangeShapes Go.WideShapes Go.ChangeAt Go.RowKit
open Go.ChangeMaps (open_string shut_string)
open Eng
set_option linter.unusedVariables false
set_option linter.unusedSimpArgs false
def E2 (l:Nat→Nat):List Ke:=app (ah (rC wo l 0 0) (ad [(93,1, .solo),(91,1, .solo),(98,1, .solo),(103,1, .solo),(108,1, .solo),(113,1, .solo),(92,1, .solo),(90,1, .solo),(777,1, .solo),(96,2, .solo),(816,1,(.pair 626)),(101,1, .solo),(106,1, .solo),(111,1, .solo),(1099,1,(.pair 986)),(775,1, .solo),(95,1, .solo),(1082,1,(.pair 970)),(100,1, .solo),(105,1, .solo),(110,1, .solo),(774,1, .solo),(671,1, .solo),(773,1, .solo),(1094,1,(.pair 982)),(767,1,(.pair 758)),(771,1, .solo),(983,1, .solo),(1095,1, .solo),(674,1, .solo),(685,1, .solo),(692,1, .solo),(705,1, .solo),(716,1, .solo),(725,1, .solo),(733,1, .solo),(760,1, .solo),(1008,1, .solo),(1006,2, .solo)])) (C9 (TV l) (ad [(587,1, .solo),(899,1,(.pair 824)),(94,1, .solo),(99,1, .solo),(102,1, .solo),(891,1, .solo),(104,1, .solo),(107,1, .solo),(109,1, .solo),(112,1, .solo),(140,6, .solo),(632,1, .solo),(1055,1, .solo),(827,1, .solo),(146,13, .solo),(672,1, .solo),(669,2, .solo),(1004,1, .solo)]))
set_option maxRecDepth 100000 in
theorem Uj {l:Nat→Nat} (b: ∀i,l i < 256) (g:T): ∃s,c7 CL 100000 (ka [A0,A1,A2,A3,A4,A5]) (lE [(0, .slice 0 0 2 2 1 false)] g) (hB (T2 l))=s∧fP (s5 [(0, .slice 0 0 2 2 1 false),(3, .ptr 37 0),(5,vi 2)]) (fun sl h1=>Seen (E2 l) 1 [(0, .slice 0 0 2 2 1 false),(3, .ptr 37 0),(5,vi 2)] sl h1) (fun _ _ _=>False) (fun _ _=>False) s:=by
 have b0:=b 0
 have b1:=b 1
 have q0:qN .u8 .u8 .rem (l 0) 7 (l 0 % 7):=jQ rfl (by omega) (show (l 0) % 7=(l 0 % 7) by omega)
 have q1:qC .u64 .u8 (l 0 % 7) (l 0 % 7):=bn rfl (show (l 0 % 7) % 18446744073709551616=(l 0 % 7) by omega)
 have q2:qN .u64 .u64 .add 1 (l 0 % 7) (l 0 % 7+1):=dj rfl (show (1+(l 0 % 7)) % 18446744073709551616=(l 0 % 7+1) by omega)
 have q3:qB .u64 .u64 .geq (l 0 % 7+1) 128 (.bool false):=iI (by omega)
 have q4:qC .u8 .u64 (l 0 % 7+1) (l 0 % 7+1):=bn rfl (show (l 0 % 7+1) % 256=(l 0 % 7+1) by omega)
 have q5:qN .u8 .u8 .and (l 0 % 7+1) 127 (l 0 % 7+1):=eN rfl (show (l 0 % 7+1) < 256 by omega) (show 127 < 256 by omega) (da (n:=7) rfl (show (l 0 % 7+1) % 2 ^ 7=(l 0 % 7+1) by omega))
 have q6:qC .u64 .u8 (l 0 % 7+1) (l 0 % 7+1):=bn rfl (show (l 0 % 7+1) % 18446744073709551616=(l 0 % 7+1) by omega)
 have q7:qN .u64 .i64 .shl (l 0 % 7+1) 0 (l 0 % 7+1):=kR rfl (show (l 0 % 7+1)*2 ^ 0 % 18446744073709551616=(l 0 % 7+1) by omega)
 have q8:qN .u64 .u64 .or 0 (l 0 % 7+1) (l 0 % 7+1):=pO rfl (show 0 < 18446744073709551616 by omega) (show (l 0 % 7+1) < 18446744073709551616 by omega) ((Nat.zero_or _).trans (show (l 0 % 7+1)=(l 0 % 7+1) by omega))
 have q9:qN .u8 .u8 .and (l 0 % 7+1) 128 0:=eN rfl (show (l 0 % 7+1) < 256 by omega) (show 128 < 256 by omega) ((iH (by omega)).trans (show (l 0 % 7+1) / 128*128=0 by omega))
 have q10:qB .u64 .u64 .gtr (l 0 % 7+1) 1099511627776 (.bool false):=iJ (by omega)
 have q11:qE true .u64 (l 0 % 7+1) 0 true:=j9 (by omega)
 have q12:qE false .u64 (l 0 % 7+1) 0 false:=bD (by omega)
 have q13:qN .u64 .u64 .add 0 (l 0 % 7+1) (l 0 % 7+1):=dj rfl (show (0+(l 0 % 7+1)) % 18446744073709551616=(l 0 % 7+1) by omega)
 have q14:qN .u8 .u8 .rem (l 1) 7 (l 1 % 7):=jQ rfl (by omega) (show (l 1) % 7=(l 1 % 7) by omega)
 have q15:qC .u64 .u8 (l 1 % 7) (l 1 % 7):=bn rfl (show (l 1 % 7) % 18446744073709551616=(l 1 % 7) by omega)
 have q16:qN .u64 .u64 .add 1 (l 1 % 7) (l 1 % 7+1):=dj rfl (show (1+(l 1 % 7)) % 18446744073709551616=(l 1 % 7+1) by omega)
 have q17:qB .u64 .u64 .geq (l 1 % 7+1) 128 (.bool false):=iI (by omega)
 have q18:qC .u8 .u64 (l 1 % 7+1) (l 1 % 7+1):=bn rfl (show (l 1 % 7+1) % 256=(l 1 % 7+1) by omega)
 have q19:qN .u8 .u8 .and (l 1 % 7+1) 127 (l 1 % 7+1):=eN rfl (show (l 1 % 7+1) < 256 by omega) (show 127 < 256 by omega) (da (n:=7) rfl (show (l 1 % 7+1) % 2 ^ 7=(l 1 % 7+1) by omega))
 have q20:qC .u64 .u8 (l 1 % 7+1) (l 1 % 7+1):=bn rfl (show (l 1 % 7+1) % 18446744073709551616=(l 1 % 7+1) by omega)
 have q21:qN .u64 .i64 .shl (l 1 % 7+1) 0 (l 1 % 7+1):=kR rfl (show (l 1 % 7+1)*2 ^ 0 % 18446744073709551616=(l 1 % 7+1) by omega)
 have q22:qN .u64 .u64 .or 0 (l 1 % 7+1) (l 1 % 7+1):=pO rfl (show 0 < 18446744073709551616 by omega) (show (l 1 % 7+1) < 18446744073709551616 by omega) ((Nat.zero_or _).trans (show (l 1 % 7+1)=(l 1 % 7+1) by omega))
 have q23:qN .u8 .u8 .and (l 1 % 7+1) 128 0:=eN rfl (show (l 1 % 7+1) < 256 by omega) (show 128 < 256 by omega) ((iH (by omega)).trans (show (l 1 % 7+1) / 128*128=0 by omega))
 have q24:qB .u64 .u64 .gtr (l 1 % 7+1) 1099511627776 (.bool false):=iJ (by omega)
 have q25:qE true .u64 (l 1 % 7+1) 0 true:=j9 (by omega)
 have q26:qE false .u64 (l 1 % 7+1) 0 false:=bD (by omega)
 have q27:qN .u64 .u64 .add 0 (l 1 % 7+1) (l 1 % 7+1):=dj rfl (show (0+(l 1 % 7+1)) % 18446744073709551616=(l 1 % 7+1) by omega)
 exact ab aq (.tell 22522 (tI .u8 (l 0 % 7)) (.tell 0 (tI .u64 (l 0 % 7)) (.tell 0 (tI .u64 (l 0 % 7+1)) (.tell 244 (.bool false) (.tell 2 (tI .u8 (l 0 % 7+1)) (.tell 1061 (tI .u8 (l 0 % 7+1)) (.tell 0 (tI .u64 (l 0 % 7+1)) (.tell 1 (tI .u64 (l 0 % 7+1)) (.tell 0 (tI .u64 (l 0 % 7+1)) (.tell 2 (tI .u8 0) (.agn 156 (.agn 10 (.agn 56 (.agn 10 (.agn 37 (.agn 31 (.agn 119 (.tell 238 (.bool false) (.tell 117 (.bool true) (.tell 12 (.bool false) (.tell 3 (.bool false) (.tell 37 (tI .u64 (l 0 % 7+1)) (.agn 2 (.agn 723 (.agn 29 (.tell 35 (tI .u8 (l 1 % 7)) (.tell 0 (tI .u64 (l 1 % 7)) (.tell 0 (tI .u64 (l 1 % 7+1)) (.tell 244 (.bool false) (.tell 2 (tI .u8 (l 1 % 7+1)) (.tell 1061 (tI .u8 (l 1 % 7+1)) (.tell 0 (tI .u64 (l 1 % 7+1)) (.tell 1 (tI .u64 (l 1 % 7+1)) (.tell 0 (tI .u64 (l 1 % 7+1)) (.tell 2 (tI .u8 0) (.agn 156 (.agn 10 (.agn 71 (.agn 10 (.agn 52 (.agn 31 (.agn 119 (.tell 238 (.bool false) (.tell 128 (.bool true) (.tell 12 (.bool false) (.tell 3 (.bool false) (.tell 55 (tI .u64 (l 1 % 7+1)) (.agn 2 (.agn 32 (.agn 29 .fin)))))))))))))))))))))))))))))))))))))))))))))))))) (p:=qN .u8 .u8 .rem (l 0) 7 (l 0 % 7)∧qC .u64 .u8 (l 0 % 7) (l 0 % 7)∧qN .u64 .u64 .add 1 (l 0 % 7) (l 0 % 7+1)∧qB .u64 .u64 .geq (l 0 % 7+1) 128 (.bool false)∧qC .u8 .u64 (l 0 % 7+1) (l 0 % 7+1)∧qN .u8 .u8 .and (l 0 % 7+1) 127 (l 0 % 7+1)∧qC .u64 .u8 (l 0 % 7+1) (l 0 % 7+1)∧qN .u64 .i64 .shl (l 0 % 7+1) 0 (l 0 % 7+1)∧qN .u64 .u64 .or 0 (l 0 % 7+1) (l 0 % 7+1)∧qN .u8 .u8 .and (l 0 % 7+1) 128 0∧qI 4∧qI 1∧qI 2∧([115,112,105,110] :List Nat)= [115,112,105,110]∧qI (l 0 % 7+1)∧qI 0∧qI 1∧qI 4∧qI 1∧qI 2∧([115,112,105,110] :List Nat)= [115,112,105,110]∧qI (l 0 % 7+1)∧qI 0∧qI 1∧qI 4∧qI 1∧qI 2∧([115,112,105,110] :List Nat)= [115,112,105,110]∧qI (l 0 % 7+1)∧qI 0∧qI 1∧qI 4∧qI 1∧qI 2∧([115,112,105,110] :List Nat)= [115,112,105,110]∧qI (l 0 % 7+1)∧qI 0∧qI 1∧qI 1∧qI 4∧qI 1∧qI 2∧([115,112,105,110] :List Nat)= [115,112,105,110]∧qI (l 0 % 7+1)∧qI 0∧qI 4∧qI 1∧qI 2∧([115,112,105,110] :List Nat)= [115,112,105,110]∧qI (l 0 % 7+1)∧qI 0∧qI 1∧qI 1∧false=false∧qI 0∧qI 0∧qI 0∧qI 4∧qI 1∧qI 2∧([115,112,105,110] :List Nat)= [115,112,105,110]∧qI (l 0 % 7+1)∧qI 0∧qI 1∧qI 1∧qI (l 0 % 7+1)∧([115,112,105,110] :List Nat)= [115,112,105,110]∧qI 1∧qI 0∧qI 0∧qB .u64 .u64 .gtr (l 0 % 7+1) 1099511627776 (.bool false)∧qE true .u64 (l 0 % 7+1) 0 true∧qE false .u64 (l 0 % 7+1) 0 false∧qB .u64 .u64 .gtr (l 0 % 7+1) 1099511627776 (.bool false)∧qN .u64 .u64 .add 0 (l 0 % 7+1) (l 0 % 7+1)∧qI 1∧qI (l 0 % 7+1)∧Int.ofNat (l 0 % 7+1)=dB .u64 (Int.add (Int.ofNat 0) (Int.ofNat (l 0 % 7+1)))∧qI (l 0 % 7+1)∧qI 0∧qI 1∧qI 4∧qI 1∧qI 2∧([115,112,105,110] :List Nat)= [115,112,105,110]∧qI (l 0 % 7+1)∧qI 0∧qI 0∧qI 1∧qI 0∧qI 4∧qI 1∧qI 2∧([115,112,105,110] :List Nat)= [115,112,105,110]∧qI (l 0 % 7+1)∧qI 0∧qI 0∧qI 1∧qN .u8 .u8 .rem (l 1) 7 (l 1 % 7)∧qC .u64 .u8 (l 1 % 7) (l 1 % 7)∧qN .u64 .u64 .add 1 (l 1 % 7) (l 1 % 7+1)∧qB .u64 .u64 .geq (l 1 % 7+1) 128 (.bool false)∧qC .u8 .u64 (l 1 % 7+1) (l 1 % 7+1)∧qN .u8 .u8 .and (l 1 % 7+1) 127 (l 1 % 7+1)∧qC .u64 .u8 (l 1 % 7+1) (l 1 % 7+1)∧qN .u64 .i64 .shl (l 1 % 7+1) 0 (l 1 % 7+1)∧qN .u64 .u64 .or 0 (l 1 % 7+1) (l 1 % 7+1)∧qN .u8 .u8 .and (l 1 % 7+1) 128 0∧qI 4∧qI 2∧qI 2∧([115,112,105,110] :List Nat)= [115,112,105,110]∧qI (l 1 % 7+1)∧qI 0∧qI 2∧qI 4∧qI 2∧qI 2∧([115,112,105,110] :List Nat)= [115,112,105,110]∧qI (l 1 % 7+1)∧qI 0∧qI 2∧qI 4∧qI 2∧qI 2∧([115,112,105,110] :List Nat)= [115,112,105,110]∧qI (l 1 % 7+1)∧qI 0∧qI 2∧qI 4∧qI 2∧qI 2∧([115,112,105,110] :List Nat)= [115,112,105,110]∧qI (l 1 % 7+1)∧qI 0∧qI 2∧qI 2∧qI 4∧qI 2∧qI 2∧([115,112,105,110] :List Nat)= [115,112,105,110]∧qI (l 1 % 7+1)∧qI 0∧qI 4∧qI 2∧qI 2∧([115,112,105,110] :List Nat)= [115,112,105,110]∧qI (l 1 % 7+1)∧qI 0∧qI 1∧qI 2∧false=false∧qI 0∧qI 0∧qI 0∧qI 4∧qI 2∧qI 2∧([115,112,105,110] :List Nat)= [115,112,105,110]∧qI (l 1 % 7+1)∧qI 0∧qI 1∧qI 2∧qI (l 1 % 7+1)∧([115,112,105,110] :List Nat)= [115,112,105,110]∧qI 2∧qI 1∧qI 0∧qB .u64 .u64 .gtr (l 1 % 7+1) 1099511627776 (.bool false)∧qE true .u64 (l 1 % 7+1) 0 true∧qE false .u64 (l 1 % 7+1) 0 false∧qB .u64 .u64 .gtr (l 1 % 7+1) 1099511627776 (.bool false)∧qN .u64 .u64 .add 0 (l 1 % 7+1) (l 1 % 7+1)∧qI 2∧qI (l 1 % 7+1)∧Int.ofNat (l 1 % 7+1)=dB .u64 (Int.add (Int.ofNat 0) (Int.ofNat (l 1 % 7+1)))∧qI (l 1 % 7+1)∧qI 0∧qI 2∧qI 4∧qI 2∧qI 2∧([115,112,105,110] :List Nat)= [115,112,105,110]∧qI (l 1 % 7+1)∧qI 0∧qI 0∧qI 2∧qI 0∧qI 4∧qI 2∧qI 2∧([115,112,105,110] :List Nat)= [115,112,105,110]∧qI (l 1 % 7+1)∧qI 0∧qI 0∧qI 2∧ar (E2 l) 1 [(0, .slice 0 0 2 2 1 false),(3, .ptr 37 0),(5,vi 2)]) (by kernel_rfl) ⟨q0,q1,q2,q3,q4,q5,q6,q7,q8,q9,rfl,rfl,rfl,rfl,rfl,rfl,rfl,rfl,rfl,rfl,rfl,rfl,rfl,rfl,rfl,rfl,rfl,rfl,rfl,rfl,rfl,rfl,rfl,rfl,rfl,rfl,rfl,rfl,rfl,rfl,rfl,rfl,rfl,rfl,rfl,rfl,rfl,rfl,rfl,rfl,rfl,rfl,rfl,rfl,rfl,rfl,rfl,rfl,rfl,rfl,rfl,rfl,rfl,rfl,rfl,rfl,rfl,rfl,rfl,rfl,q10,q11,q12,q10,q13,rfl,rfl,dy q13 rfl,rfl,rfl,rfl,rfl,rfl,rfl,rfl,rfl,rfl,rfl,rfl,rfl,rfl,rfl,rfl,rfl,rfl,rfl,rfl,rfl,q14,q15,q16,q17,q18,q19,q20,q21,q22,q23,rfl,rfl,rfl,rfl,rfl,rfl,rfl,rfl,rfl,rfl,rfl,rfl,rfl,rfl,rfl,rfl,rfl,rfl,rfl,rfl,rfl,rfl,rfl,rfl,rfl,rfl,rfl,rfl,rfl,rfl,rfl,rfl,rfl,rfl,rfl,rfl,rfl,rfl,rfl,rfl,rfl,rfl,rfl,rfl,rfl,rfl,rfl,rfl,rfl,rfl,rfl,rfl,rfl,rfl,rfl,rfl,rfl,rfl,rfl,rfl,q24,q25,q26,q24,q27,rfl,rfl,dy q27 rfl,rfl,rfl,rfl,rfl,rfl,rfl,rfl,rfl,rfl,rfl,rfl,rfl,rfl,rfl,rfl,rfl,rfl,rfl,rfl,rfl,au⟩
theorem Uk {l:Nat→Nat} (b: ∀i,l i < 256) {μ:Mp} {w:World} (hown: ∀c,c < w.heap.size→μ.own c=false) {B:AC} {Q:QT} (hB':fm Tryz.prog 128 B (mF μ (hB (T2 l)) w 128 [(0, .slice 0 0 2 2 1 false),(3, .ptr 37 0),(5,vi 2)] ⟨78,dk (rC wo l 0 0) (Df l)⟩) Q):
  fm Tryz.prog 128 (kc [A0,A1,A2,A3,A4,A5] B) (mF μ (hB (T2 l)) w 128 [(0, .slice 0 0 2 2 1 false)] (hB (T2 l))) Q:=
 iz (E:=E2 l) (N':=78) hown av (j_ _) (by kernel_rfl) (by kernel_rfl) (by show 1≤78;decide) (Uj b)
  (by rw [show (⟨78,dk (C5 (E2 l)) (hB (T2 l)).t⟩:Hp)=⟨78,dk (rC wo l 0 0) (Df l)⟩ from by kernel_rfl];exact hB')
end Go.Proofs.YtfcljjhlijolgaaGreatDoor.topLate
end
section
namespace Go.Proofs.YtfcljjhlijolgaaGreatDoor.topLate
open Go.ChangeShapes Go.WideShapes Go.ChangeAt Go.RowKit
open Go.ChangeMaps (open_string shut_string)
open Eng
set_option linter.unusedVariables false
set_option linter.unusedSimpArgs false
section
variable {X:Mp×Hp×World} (ok:fJ X)
theorem Ul {c l:Nat→Nat} {u told t:Nat}:Do mu (Sx X 2 37 told t (mA c l u 0)) (rq X.1 X.2.1 X.2.2 128 2):=
 mr av fun g=>ab aq .fin (p:=[some (AV.bool true)] = [some (AV.bool true)]) (by kernel_rfl) rfl
end
inductive Dn (l:Nat→Nat) (u:Nat):Nat→Hp→Prop where
 | kF (a0:u≤l 0 % 7) (a1:u≤l 1 % 7):Dn l u 2 (zJ wo l u 0)
 | kS (lf:Nat) (f1:20000≤lf+9*u) (f2:lf≤20000) (a0:u≤l 0 % 7) (a1:u≤l 1 % 7):Dn l u 2 (iK wo l u lf)
 | k0F (a0:l 0 % 7 < u) (a1:u≤l 1 % 7):Dn l u 3 (zL pr l u 0)
 | k0S (lf:Nat) (f1:20000≤lf+9*u) (f2:lf≤20000) (a0:l 0 % 7 < u) (a1:u≤l 1 % 7):Dn l u 3 (nI pr l u lf)
 | k1S (lf:Nat) (f1:20000≤lf+9*u) (f2:lf≤20000) (a0:u≤l 0 % 7) (a1:l 1 % 7 < u):Dn l u 3 (nH pX l u lf)
 | k01N (a0:l 0 % 7 < u) (a1:l 1 % 7 < u):Dn l u 4 (mA jS l u 0)
 | k10N (a0:l 0 % 7 < u) (a1:l 1 % 7 < u):Dn l u 4 (mA mB l u 0)
def rG (X:Mp×Hp×World) (l:Nat→Nat) (u t:Nat):ST:=fun a w=> ∃told h,Dn l u told h∧Sx X 2 37 told t h a w
theorem wq {X:Mp×Hp×World} {l:Nat→Nat} {u t told:Nat} {h:Hp} (hk:Dn l u told h): ∀a w,Sx X 2 37 told t h a w→rG X l u t a w:=fun a w s=>⟨told,h,hk,s⟩
section
variable {X:Mp×Hp×World} (ok:fJ X)
include ok
theorem Rf {l:Nat→Nat} {u:Nat} (hu:u < 8) {lf:Nat} (f1:19991≤lf+9*u) (f2:lf≤20000) (a0:u≤l 0 % 7) (a1:u≤l 1 % 7) {Q:QT}:Do an (Sx X 2 37 2 (u+1) (iK wo l u lf)) (Exit.then (rG X l (u+1) (u+1)) Q):=by
 rcases ay a0 with a0 | a0
 ·
  rcases ay a1 with a1 | a1
  ·
   exact ag (Di (lf:=lf) ok hu a0 a1) (wq (.k01N (by omega) (by omega)))
  ·
   exact ag (Kl (lf:=lf) ok hu a0 a1) (wq (.k0F (by omega) (by omega)))
 ·
  rcases ay a1 with a1 | a1
  ·
   exact ag (Km (lf:=lf) ok hu a0 a1) (wq (.k1S lf (by omega) f2 (by omega) (by omega)))
  ·
   exact ag (Re (lf:=lf) ok hu a0 a1) (wq (.kS lf (by omega) f2 (by omega) (by omega)))
theorem I1 {l:Nat→Nat} {u:Nat} (hu:u < 8) {lf:Nat} (f1:19991≤lf+9*u) (f2:lf≤20000) (a0:l 0 % 7 < u) (a1:u≤l 1 % 7) {Q:QT}:Do an (Sx X 2 37 3 (u+1) (nI pr l u lf)) (Exit.then (rG X l (u+1) (u+1)) Q):=by
 rcases ay a1 with a1 | a1
 ·
  exact ag (Dj (lf:=lf) ok hu a0 a1) (wq (.k01N (by omega) (by omega)))
 ·
  exact ag (Ko (lf:=lf) ok hu a0 a1) (wq (.k0S lf (by omega) f2 (by omega) (by omega)))
theorem Rg {l:Nat→Nat} {u:Nat} (hu:u < 8) {lf:Nat} (f1:19991≤lf+9*u) (f2:lf≤20000) (a0:u≤l 0 % 7) (a1:l 1 % 7 < u) {Q:QT}:Do an (Sx X 2 37 3 (u+1) (nH pX l u lf)) (Exit.then (rG X l (u+1) (u+1)) Q):=by
 rcases ay a0 with a0 | a0
 ·
  exact ag (Dk (lf:=lf) ok hu a0 a1) (wq (.k10N (by omega) (by omega)))
 ·
  exact ag (Kp (lf:=lf) ok hu a0 a1) (wq (.k1S lf (by omega) f2 (by omega) (by omega)))
theorem Kq {l:Nat→Nat} {u:Nat} (hu:u < 8) (a0:l 0 % 7 < u) (a1:l 1 % 7 < u) {Q:QT}:Do an (Sx X 2 37 4 (u+1) (mA jS l u 0)) (Exit.then (rG X l (u+1) (u+1)) Q):=by
 exact ag (Dl (lf:=0) ok hu a0 a1) (wq (.k01N (by omega) (by omega)))
theorem Ks {l:Nat→Nat} {u:Nat} (hu:u < 8) (a0:l 0 % 7 < u) (a1:l 1 % 7 < u) {Q:QT}:Do an (Sx X 2 37 4 (u+1) (mA mB l u 0)) (Exit.then (rG X l (u+1) (u+1)) Q):=by
 exact ag (Dm (lf:=0) ok hu a0 a1) (wq (.k10N (by omega) (by omega)))
end
theorem Um {X:Mp×Hp×World} (ok:fJ X) {l:Nat→Nat} {u:Nat} (hu:u < 8) {Q:QT}:Do K6 (rG X l (u+1) (u+1)) (Exit.then (rG X l (u+1) (u+1+1)) Q):=fun x hx a w ⟨told,h,hk,st⟩=>
 ag (cx av fun g=>RB g (Nat.lt_succ_of_lt hu)) (wq hk) x hx a w st
section
variable {X:Mp×Hp×World} (ok:fJ X)
include ok
theorem Kt {l:Nat→Nat} {u told:Nat} {h h':Hp} (hu:u < 8) {Q:QT} (hp: ∀{Q},Do a7 (Sx X 2 37 told (u+1) h) (Exit.then (Sx X 2 37 told (u+1) h') Q)) (hr: ∀{Q},Do an (Sx X 2 37 told (u+1) h') (Exit.then (rG X l (u+1) (u+1)) Q)):
  Do fQ (Sx X 2 37 told (u+1) h) (Exit.then (rG X l (u+1) (u+1+1)) Q):=
 a9 (cx av fun g=>uS g hu) (a9 (dI (a9 hp (bY hr (fun _ _ h=>h) n_))) (Um ok hu))
theorem go2 {l:Nat→Nat} {u:Nat} (hu:u < 8) {Q:QT}:Do fQ (rG X l u (u+1)) (Exit.then (rG X l (u+1) (u+1+1)) Q):=fun x hx a w ⟨told,h,hk,st⟩=>by
 cases hk with
 | kF a0 a1=>exact Kt ok hu (Dg ok) (Rf ok hu (by omega) (by omega) a0 a1) x hx a w st
 | kS lf f1 f2 a0 a1=>exact Kt ok hu (Dh ok (by omega) f2) (Rf ok hu (by omega) (by omega) a0 a1) x hx a w st
 | k0F a0 a1=>exact Kt ok hu (Ki ok) (I1 ok hu (by omega) (by omega) a0 a1) x hx a w st
 | k0S lf f1 f2 a0 a1=>exact Kt ok hu (Kk ok (by omega) f2) (I1 ok hu (by omega) (by omega) a0 a1) x hx a w st
 | k1S lf f1 f2 a0 a1=>exact Kt ok hu (Kj ok (by omega) f2) (Rg ok hu (by omega) (by omega) a0 a1) x hx a w st
 | k01N a0 a1=>exact Kt ok hu (I0 ok) (Kq ok hu a0 a1) x hx a w st
 | k10N a0 a1=>exact Kt ok hu (I0 ok) (Ks ok hu a0 a1) x hx a w st
end
theorem Ku {X:Mp×Hp×World} (ok:fJ X) {l:Nat→Nat} {R':ST} {Q:QT}:Do fQ (rG X l 8 9) (Exit.then R' (Exit.inBlock 2 (Exit.then (rG X l 8 9) Q))):=fun x hx a w ⟨told,h,hk,st⟩=>
 a9 (R:=fun _ _=>False) (jC av (fun g=>ru g) (fun a w s=>mw (wq hk a w s))) (fun _ _ _ _ h=>h.elim) x hx a w st
theorem Rh {X:Mp×Hp×World} (ok:fJ X) {l:Nat→Nat}:Do mu (rG X l 8 9) (rq X.1 X.2.1 X.2.2 128 2):=fun x hx a w ⟨told,h,hk,st⟩=>by
 cases hk <;> first | omega | exact Ul x hx a w st
section
variable {X:Mp×Hp×World} (ok:fJ X)
include ok
theorem Un {l:Nat→Nat} {Q:QT}:Do (.block 2 (.loop fQ)) (rG X l 0 1) (Exit.then (rG X l 8 9) Q):=
 dI (kA (m:=9) (fun k a w=> ∃u,u≤8∧u+k=9∧rG X l u (u+1) a w) (fun a w ⟨u,h1,h2,_⟩=>by omega)
  (fun k x hx a w ⟨u,h1,h2,hd⟩=>by
   rcases Nat.lt_or_ge u 8 with h | h
   ·exact ag (go2 ok h) (fun a w q=>⟨u+1,by omega,by omega,q⟩) x hx a w hd
   ·obtain rfl:u=8:=by omega
    exact Ku ok x hx a w hd)
  fun a w h=>⟨0,by omega,by omega,h⟩)
end
theorem Tk {l:Nat→Nat} (b: ∀i,l i < 256) {μ:Mp} {w:World} {x:Value} (hs:bh μ (hB (T2 l)) w) (hm: ∀c,μ.own c=false) (r:VR μ (.slice 0 0 2 2 1 false) x):
  Calls Tryz.prog 4 #[x] w fun e w'=>e= .returned (.bool true)∧Below w.heap.size w w':=
 have ok:fJ (μ,hB (T2 l),w):=⟨fun c _=>hm c,Nat.le_refl 1⟩
 rp (M:=MM) (i:=2) RA hs hm (args:=[.slice 0 0 2 2 1 false]) (by rw [aJ];exact ⟨_,_,rfl,r,by rw [aH]⟩) (by show 1≤128;decide) rfl
  (bY (S:=mF μ (hB (T2 l)) w 128 [(0, .slice 0 0 2 2 1 false)] (hB (T2 l))) (Uk b (fun c _=>hm c) (a9 (a9 (cx av fun g=>r6 g) (bY (Un ok (l:=l)) (fun a w st=>wq (t:=1) (.kF (Nat.zero_le _) (Nat.zero_le _)) a w st) (fun _ _ _ h=>h))) (Rh ok))) (fun a w1 h=>⟨.lf,h.1 ▸ h.2⟩) (fun _ _ _ h=>h))
end Go.Proofs.YtfcljjhlijolgaaGreatDoor.topLate
end
end
