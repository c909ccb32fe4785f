import Derived.Test.YtfcljjhlijolgaaGreatDoorTL0
noncomputable section
section
namespace Go.Proofs.YtfcljjhlijolgaaGreatDoor.topLate
open Go.ChangeShapes Go.WideShapes Go.ChangeAt Go.RowKit
open Go.ChangeMaps (open_string shut_string)
open Eng
set_option linter.unusedVariables false
set_option linter.unusedSimpArgs false
def TU (l:Nat→Nat):List (Nat×KB):=RC 1 (l 0 % 7+1)
def T1 (l:Nat→Nat):List Nat:=[l 0]
def K7 (l:Nat→Nat):Tr aC:=dk (sN (TU l)) (K5 (T1 l))
theorem K8 (l:Nat→Nat):mo (K7 l) 37:=(j_ _).over (by decide) (by kernel_rfl)
def uT (c l:Nat→Nat) (u lf:Nat):List (Nat×aC):=[(37,Th),(38,ic),(39,H6),(40,ie),(41,ig),(42,ij),(43,TS l),(44,TT u),(45,il),(46,im),(47,J_),(48,sP c),(49,b9),(50,b_),(51,cc),(52,Qy l),(53,cd),(54,cg),(55,Qz l),(56,cj),(57, .mp [] 0 0),(58, .mp [] 0 0),(59,QA),(60,cn),(61,QB),(62, .cells [(vq 1)] 1 .solo),(63,kd),(64, .cells [(vq 0)] 1 .solo),(65,ke),(66, .mp [] 0 0),(67, .mp [] 0 0),(68,cr),(69, .mp [] 0 0),(70, .mp [] 0 0),(71, .mp [] 0 0),(72,ct),(73, .mp [] 0 0),(74,tR),(75,Da),(76,lq)]
def IZ (c l:Nat→Nat) (u lf:Nat):Hp:=⟨77,dk (uT c l u lf) (K7 l)⟩
def pn (c l:Nat→Nat) (u lf:Nat):List (Nat×aC):=[(37,Th),(38,ic),(39,H6),(40,ie),(41,ig),(42,ij),(43,TS l),(44,TT u),(45,il),(46,im),(47,J_),(48,sP c),(49,b9),(50,b_),(51,cc),(52,Qy l),(53,cd),(54,cg),(55,Qz l),(56,cj),(57, .mp [] 0 0),(58, .mp [] 0 0),(59,QA),(60,cn),(61,QB),(62, .cells [(vq 1)] 1 .solo),(63,kd),(64,bM),(65,ke),(66, .mp [] 0 0),(67, .mp [] 0 0),(68,cr),(69, .mp [] 0 0),(70, .mp [] 0 0),(71, .mp [] 0 0),(72,ct),(73, .mp [] 0 0),(74,pP lf),(75,pQ),(76,bM),(77,pR),(78,fR),(79,pS),(80, .cells [(vi 0)] 1 .solo),(81, .cells [(vq 0)] 1 .solo)]
def nG (c l:Nat→Nat) (u lf:Nat):Hp:=⟨82,dk (pn c l u lf) (K7 l)⟩
def tU (c l:Nat→Nat) (u lf:Nat):List (Nat×aC):=[(37,Th),(38,ic),(39,mY),(40,ie),(41,ig),(42,ij),(43, .mp [] 0 1),(44, .cells [(.slice 52 0 0 1 2 false),(vq (u))] 2 .solo),(45,il),(46,im),(47,J_),(48,mZ c),(49,b9),(50,b_),(51,cc),(52,QC),(53,cd),(54,cg),(55, .cells [(vi 4),(vq 1),(vq 2),(.str [115,112,105,110]),(.nilSlice),(.nilSlice),(vq (l 0 % 7+1)),(vq 0),(vi 1),(vq 1),(.bool true),(vq 1),(vi 14),(vq 0),(.nilSlice)] 15 .solo),(56,cj),(57, .mp [] 0 0),(58, .mp [] 0 0),(59, .cells [(.slice 62 0 0 1 1 false)] 1 .solo),(60,cn),(61, .mp [] 0 1),(62, .cells [(vq 0)] 1 .solo),(63,Db),(64, .cells [(vq 0)] 1 .solo),(65, .mp [] 0 0),(66, .mp [] 0 0),(67,cr),(68, .mp [] 0 0),(69, .mp [] 0 0),(70, .mp [] 0 0),(71,ct),(72, .mp [] 0 0)]
def sS (c l:Nat→Nat) (u lf:Nat):Hp:=⟨73,dk (tU c l u lf) (K7 l)⟩
def zI:Nat→Nat:=aT [0,11,0,0,0,0,0,0,0,0,0,1,0,0,11,0,0,0,0,0,0,0,0,0,2,0]
def rB:Nat→Nat:=aT [0,11,0,0,0,0,0,0,0,0,0,1,0,0,11,0,0,0,0,0,0,0,0,0,2,0,0,11,0,0,0,0,0,0,0,1,14,0,0]
end Go.Proofs.YtfcljjhlijolgaaGreatDoor.topLate
end
section
namespace Go.Proofs.YtfcljjhlijolgaaGreatDoor.topLate
open Go.ChangeShapes Go.WideShapes Go.ChangeAt Go.RowKit
open Go.ChangeMaps (open_string shut_string)
open Eng
set_option linter.unusedVariables false
set_option linter.unusedSimpArgs false
section
variable {X:Mp×Hp×World} (ok:fJ X)
include ok
theorem Kc {c l:Nat→Nat} {u told:Nat} {Q:QT}:Do a7 (Sx X 1 37 told (u+1) (IZ c l u 0)) (Exit.then (Sx X 1 37 told (u+1) (nG c l u 19991)) Q):=
 ae ok.1 av (E:=(ah (pn c l u 19991) (ad [(37,39, .solo),(85,1, .solo),(76,1, .solo),(107,1, .solo),(97,1, .solo),(94,2, .solo)]))) (Nat.le_trans ok.2 (by decide)) (K8 l) (by kernel_rfl) (by kernel_rfl) fun g=>ab aq .fin (p:=(ar (ah (pn c l u 19991) (ad [(37,39, .solo),(85,1, .solo),(76,1, .solo),(107,1, .solo),(97,1, .solo),(94,2, .solo)])) 37 (FR 1 37 told (u+1)))) (by kernel_rfl) au
theorem Kd {c l:Nat→Nat} {u lf told:Nat} (f1:100 < lf) (f2:lf≤20000) {Q:QT}:Do a7 (Sx X 1 37 told (u+1) (nG c l u lf)) (Exit.then (Sx X 1 37 told (u+1) (nG c l u (lf - 9))) Q):=
 ae ok.1 av (E:=(ah (pn c l u (lf - 9)) (ad [(37,45, .solo)]))) (Nat.le_trans ok.2 (by decide)) (K8 l) (by kernel_rfl) (by kernel_rfl) fun g=>ab aq (.tell 170 (vi 9) (.agn 0 (.tell 5462 (vi (lf - 9)) (.tell 14 (.bool false) .fin)))) (p:=qM .i64 9 lf 9∧Int.ofNat 9=ed (Int.ofNat 9) (Int.ofNat lf)∧qI lf∧qI 9∧qN .i64 .i64 .sub lf 9 (lf - 9)∧qE false .i64 (lf - 9) 0 false∧(ar (ah (pn c l u (lf - 9)) (ad [(37,45, .solo)])) 37 (FR 1 37 told (u+1)))) (by kernel_rfl) ⟨bL (by omega),dy (bL (k:= .i64) (show min 9 lf=9 by omega)) rfl,rfl,rfl,bI (by omega) (by omega) (by rfl),bD (by omega),au⟩
theorem Q9 {c l:Nat→Nat} {u told:Nat} {Q:QT}:Do a7 (Sx X 1 37 told (u+1) (sS c l u 0)) (Exit.then (Sx X 1 37 told (u+1) (sS c l u 0)) Q):=
 ae ok.1 av (E:=(ah (tU c l u 0) (ad [(37,36, .solo)]))) (Nat.le_trans ok.2 (by decide)) (K8 l) (by kernel_rfl) (by kernel_rfl) fun g=>ab aq .fin (p:=(ar (ah (tU c l u 0) (ad [(37,36, .solo)])) 37 (FR 1 37 told (u+1)))) (by kernel_rfl) au
end
end Go.Proofs.YtfcljjhlijolgaaGreatDoor.topLate
end
section
namespace Go.Proofs.YtfcljjhlijolgaaGreatDoor.topLate
open Go.ChangeShapes Go.WideShapes Go.ChangeAt Go.RowKit
open Go.ChangeMaps (open_string shut_string)
open Eng
set_option linter.unusedVariables false
set_option linter.unusedSimpArgs false
section
variable {X:Mp×Hp×World} (ok:fJ X)
include ok
theorem Q_ {l:Nat→Nat} {u lf:Nat} (hu:u < 8) (a0:u < l 0 % 7) {Q:QT}:Do an (Sx X 1 37 2 (u+1) (nG zI l u lf)) (Exit.then (Sx X 1 37 2 (u+1) (nG zI l (u+1) lf)) Q):=
 ae ok.1 av (E:=(ah (pn zI l (u+1) lf) (ad [(37,45, .solo)]))) (Nat.le_trans ok.2 (by decide)) (K8 l) (by kernel_rfl) (by kernel_rfl) fun g=>ab aq (o1 52 u (o2 23 false (o4 1251 (l 0 % 7) u true .fin))) (p:=(p1 u (p2 (l 0 % 7+1) u false (p4 (l 0) (l 0 % 7) u true (ar (ah (pn zI l (u+1) lf) (ad [(37,45, .solo)])) 37 (FR 1 37 2 (u+1))))))) (by kernel_rfl) (k1 (by omega) (aP (by omega) (aw rfl (by omega) au)))
theorem Kf {l:Nat→Nat} {u lf:Nat} (hu:u < 8) (a0:l 0 % 7=u) {Q:QT}:Do an (Sx X 1 37 2 (u+1) (nG zI l u lf)) (Exit.then (Sx X 1 37 3 (u+1) (sS rB l (u+1) 0)) Q):=
 ae ok.1 av (E:=(ah (tU rB l (u+1) 0) (ad [(37,11, .solo),(136,1,(.pair 48)),(49,16, .solo),(66,8, .solo)]))) (Nat.le_trans ok.2 (by decide)) (K8 l) (by kernel_rfl) (by kernel_rfl) fun g=>ab aq (o1 52 u (o2 23 true (.agn 469 (o4 2138 u u false .fin)))) (p:=(p1 u (p2 (l 0 % 7+1) u true (p3 1 (l 0 % 7+1) (p4 (l 0) u u false (ar (ah (tU rB l (u+1) 0) (ad [(37,11, .solo),(136,1,(.pair 48)),(49,16, .solo),(66,8, .solo)])) 37 (FR 1 37 3 (u+1)))))))) (by kernel_rfl) (k1 (by omega) (aO (by omega) (k3 (aQ (by omega) au))))
theorem Kg {l:Nat→Nat} {u lf:Nat} (hu:u < 8) (a0:l 0 % 7 < u) {Q:QT}:Do an (Sx X 1 37 3 (u+1) (sS rB l u 0)) (Exit.then (Sx X 1 37 3 (u+1) (sS rB l (u+1) 0)) Q):=
 ae ok.1 av (E:=(ah (tU rB l (u+1) 0) (ad [(37,36, .solo)]))) (Nat.le_trans ok.2 (by decide)) (K8 l) (by kernel_rfl) (by kernel_rfl) fun g=>ab aq (o1 52 u (o4 1761 (l 0 % 7) u true .fin)) (p:=(p1 u (p4 (l 0) (l 0 % 7) u true (ar (ah (tU rB l (u+1) 0) (ad [(37,36, .solo)])) 37 (FR 1 37 3 (u+1)))))) (by kernel_rfl) (k1 (by omega) (aw rfl (by omega) au))
end
end Go.Proofs.YtfcljjhlijolgaaGreatDoor.topLate
end
section
namespace Go.Proofs.YtfcljjhlijolgaaGreatDoor.topLate
open Go.ChangeShapes Go.WideShapes Go.ChangeAt Go.RowKit
open Go.ChangeMaps (open_string shut_string)
open Eng
set_option linter.unusedVariables false
set_option linter.unusedSimpArgs false
def E1 (l:Nat→Nat):List Ke:=app (ah (uT zI l 0 0) (ad [(93,1, .solo),(91,1, .solo),(98,1, .solo),(103,1, .solo),(108,1, .solo),(113,1, .solo),(92,1, .solo),(90,1, .solo),(777,1, .solo),(96,2, .solo),(816,1,(.pair 626)),(101,1, .solo),(106,1, .solo),(111,1, .solo),(986,1, .solo),(775,1, .solo),(95,1, .solo),(970,1, .solo),(100,1, .solo),(105,1, .solo),(110,1, .solo),(774,1, .solo),(671,1, .solo),(773,1, .solo),(982,1, .solo),(767,1,(.pair 758)),(771,1, .solo),(983,1, .solo),(674,1, .solo),(685,1, .solo),(692,1, .solo),(705,1, .solo),(716,1, .solo),(725,1, .solo),(733,1, .solo),(760,1, .solo),(1008,1, .solo),(1006,2, .solo)])) (C9 (TU l) (ad [(587,1, .solo),(899,1,(.pair 824)),(94,1, .solo),(99,1, .solo),(102,1, .solo),(891,1, .solo),(104,1, .solo),(107,1, .solo),(109,1, .solo),(112,1, .solo),(140,6, .solo),(632,1, .solo),(943,1, .solo),(827,1, .solo),(146,13, .solo),(672,1, .solo),(669,2, .solo),(1004,1, .solo)]))
set_option maxRecDepth 100000 in
theorem Ud {l:Nat→Nat} (b: ∀i,l i < 256) (g:T): ∃s,c7 CL 100000 (ka [A0,A1,A2,A3,A4,A5]) (lE [(0, .slice 0 0 1 1 1 false)] g) (hB (T1 l))=s∧fP (s5 [(0, .slice 0 0 1 1 1 false),(3, .ptr 37 0),(5,vi 2)]) (fun sl h1=>Seen (E1 l) 1 [(0, .slice 0 0 1 1 1 false),(3, .ptr 37 0),(5,vi 2)] sl h1) (fun _ _ _=>False) (fun _ _=>False) s:=by
 have b0:=b 0
 have q0:qN .u8 .u8 .rem (l 0) 7 (l 0 % 7):=jQ rfl (by omega) (show (l 0) % 7=(l 0 % 7) by omega)
 have q1:qC .u64 .u8 (l 0 % 7) (l 0 % 7):=bn rfl (show (l 0 % 7) % 18446744073709551616=(l 0 % 7) by omega)
 have q2:qN .u64 .u64 .add 1 (l 0 % 7) (l 0 % 7+1):=dj rfl (show (1+(l 0 % 7)) % 18446744073709551616=(l 0 % 7+1) by omega)
 have q3:qB .u64 .u64 .geq (l 0 % 7+1) 128 (.bool false):=iI (by omega)
 have q4:qC .u8 .u64 (l 0 % 7+1) (l 0 % 7+1):=bn rfl (show (l 0 % 7+1) % 256=(l 0 % 7+1) by omega)
 have q5:qN .u8 .u8 .and (l 0 % 7+1) 127 (l 0 % 7+1):=eN rfl (show (l 0 % 7+1) < 256 by omega) (show 127 < 256 by omega) (da (n:=7) rfl (show (l 0 % 7+1) % 2 ^ 7=(l 0 % 7+1) by omega))
 have q6:qC .u64 .u8 (l 0 % 7+1) (l 0 % 7+1):=bn rfl (show (l 0 % 7+1) % 18446744073709551616=(l 0 % 7+1) by omega)
 have q7:qN .u64 .i64 .shl (l 0 % 7+1) 0 (l 0 % 7+1):=kR rfl (show (l 0 % 7+1)*2 ^ 0 % 18446744073709551616=(l 0 % 7+1) by omega)
 have q8:qN .u64 .u64 .or 0 (l 0 % 7+1) (l 0 % 7+1):=pO rfl (show 0 < 18446744073709551616 by omega) (show (l 0 % 7+1) < 18446744073709551616 by omega) ((Nat.zero_or _).trans (show (l 0 % 7+1)=(l 0 % 7+1) by omega))
 have q9:qN .u8 .u8 .and (l 0 % 7+1) 128 0:=eN rfl (show (l 0 % 7+1) < 256 by omega) (show 128 < 256 by omega) ((iH (by omega)).trans (show (l 0 % 7+1) / 128*128=0 by omega))
 have q10:qB .u64 .u64 .gtr (l 0 % 7+1) 1099511627776 (.bool false):=iJ (by omega)
 have q11:qE true .u64 (l 0 % 7+1) 0 true:=j9 (by omega)
 have q12:qE false .u64 (l 0 % 7+1) 0 false:=bD (by omega)
 have q13:qN .u64 .u64 .add 0 (l 0 % 7+1) (l 0 % 7+1):=dj rfl (show (0+(l 0 % 7+1)) % 18446744073709551616=(l 0 % 7+1) by omega)
 exact ab aq (.tell 22522 (tI .u8 (l 0 % 7)) (.tell 0 (tI .u64 (l 0 % 7)) (.tell 0 (tI .u64 (l 0 % 7+1)) (.tell 244 (.bool false) (.tell 2 (tI .u8 (l 0 % 7+1)) (.tell 1061 (tI .u8 (l 0 % 7+1)) (.tell 0 (tI .u64 (l 0 % 7+1)) (.tell 1 (tI .u64 (l 0 % 7+1)) (.tell 0 (tI .u64 (l 0 % 7+1)) (.tell 2 (tI .u8 0) (.agn 156 (.agn 10 (.agn 56 (.agn 10 (.agn 37 (.agn 31 (.agn 119 (.tell 238 (.bool false) (.tell 117 (.bool true) (.tell 12 (.bool false) (.tell 3 (.bool false) (.tell 37 (tI .u64 (l 0 % 7+1)) (.agn 2 (.agn 723 (.agn 29 .fin))))))))))))))))))))))))) (p:=qN .u8 .u8 .rem (l 0) 7 (l 0 % 7)∧qC .u64 .u8 (l 0 % 7) (l 0 % 7)∧qN .u64 .u64 .add 1 (l 0 % 7) (l 0 % 7+1)∧qB .u64 .u64 .geq (l 0 % 7+1) 128 (.bool false)∧qC .u8 .u64 (l 0 % 7+1) (l 0 % 7+1)∧qN .u8 .u8 .and (l 0 % 7+1) 127 (l 0 % 7+1)∧qC .u64 .u8 (l 0 % 7+1) (l 0 % 7+1)∧qN .u64 .i64 .shl (l 0 % 7+1) 0 (l 0 % 7+1)∧qN .u64 .u64 .or 0 (l 0 % 7+1) (l 0 % 7+1)∧qN .u8 .u8 .and (l 0 % 7+1) 128 0∧qI 4∧qI 1∧qI 2∧([115,112,105,110] :List Nat)= [115,112,105,110]∧qI (l 0 % 7+1)∧qI 0∧qI 1∧qI 4∧qI 1∧qI 2∧([115,112,105,110] :List Nat)= [115,112,105,110]∧qI (l 0 % 7+1)∧qI 0∧qI 1∧qI 4∧qI 1∧qI 2∧([115,112,105,110] :List Nat)= [115,112,105,110]∧qI (l 0 % 7+1)∧qI 0∧qI 1∧qI 4∧qI 1∧qI 2∧([115,112,105,110] :List Nat)= [115,112,105,110]∧qI (l 0 % 7+1)∧qI 0∧qI 1∧qI 1∧qI 4∧qI 1∧qI 2∧([115,112,105,110] :List Nat)= [115,112,105,110]∧qI (l 0 % 7+1)∧qI 0∧qI 4∧qI 1∧qI 2∧([115,112,105,110] :List Nat)= [115,112,105,110]∧qI (l 0 % 7+1)∧qI 0∧qI 1∧qI 1∧false=false∧qI 0∧qI 0∧qI 0∧qI 4∧qI 1∧qI 2∧([115,112,105,110] :List Nat)= [115,112,105,110]∧qI (l 0 % 7+1)∧qI 0∧qI 1∧qI 1∧qI (l 0 % 7+1)∧([115,112,105,110] :List Nat)= [115,112,105,110]∧qI 1∧qI 0∧qI 0∧qB .u64 .u64 .gtr (l 0 % 7+1) 1099511627776 (.bool false)∧qE true .u64 (l 0 % 7+1) 0 true∧qE false .u64 (l 0 % 7+1) 0 false∧qB .u64 .u64 .gtr (l 0 % 7+1) 1099511627776 (.bool false)∧qN .u64 .u64 .add 0 (l 0 % 7+1) (l 0 % 7+1)∧qI 1∧qI (l 0 % 7+1)∧Int.ofNat (l 0 % 7+1)=dB .u64 (Int.add (Int.ofNat 0) (Int.ofNat (l 0 % 7+1)))∧qI (l 0 % 7+1)∧qI 0∧qI 1∧qI 4∧qI 1∧qI 2∧([115,112,105,110] :List Nat)= [115,112,105,110]∧qI (l 0 % 7+1)∧qI 0∧qI 0∧qI 1∧qI 0∧qI 4∧qI 1∧qI 2∧([115,112,105,110] :List Nat)= [115,112,105,110]∧qI (l 0 % 7+1)∧qI 0∧qI 0∧qI 1∧ar (E1 l) 1 [(0, .slice 0 0 1 1 1 false),(3, .ptr 37 0),(5,vi 2)]) (by kernel_rfl) ⟨q0,q1,q2,q3,q4,q5,q6,q7,q8,q9,rfl,rfl,rfl,rfl,rfl,rfl,rfl,rfl,rfl,rfl,rfl,rfl,rfl,rfl,rfl,rfl,rfl,rfl,rfl,rfl,rfl,rfl,rfl,rfl,rfl,rfl,rfl,rfl,rfl,rfl,rfl,rfl,rfl,rfl,rfl,rfl,rfl,rfl,rfl,rfl,rfl,rfl,rfl,rfl,rfl,rfl,rfl,rfl,rfl,rfl,rfl,rfl,rfl,rfl,rfl,rfl,rfl,rfl,rfl,rfl,q10,q11,q12,q10,q13,rfl,rfl,dy q13 rfl,rfl,rfl,rfl,rfl,rfl,rfl,rfl,rfl,rfl,rfl,rfl,rfl,rfl,rfl,rfl,rfl,rfl,rfl,rfl,rfl,au⟩
theorem Ue {l:Nat→Nat} (b: ∀i,l i < 256) {μ:Mp} {w:World} (hown: ∀c,c < w.heap.size→μ.own c=false) {B:AC} {Q:QT} (hB':fm Tryz.prog 128 B (mF μ (hB (T1 l)) w 128 [(0, .slice 0 0 1 1 1 false),(3, .ptr 37 0),(5,vi 2)] ⟨77,dk (uT zI l 0 0) (K7 l)⟩) Q):
  fm Tryz.prog 128 (kc [A0,A1,A2,A3,A4,A5] B) (mF μ (hB (T1 l)) w 128 [(0, .slice 0 0 1 1 1 false)] (hB (T1 l))) Q:=
 iz (E:=E1 l) (N':=77) hown av (j_ _) (by kernel_rfl) (by kernel_rfl) (by show 1≤77;decide) (Ud b)
  (by rw [show (⟨77,dk (C5 (E1 l)) (hB (T1 l)).t⟩:Hp)=⟨77,dk (uT zI l 0 0) (K7 l)⟩ from by kernel_rfl];exact hB')
end Go.Proofs.YtfcljjhlijolgaaGreatDoor.topLate
end
section
namespace Go.Proofs.YtfcljjhlijolgaaGreatDoor.topLate
open Go.ChangeShapes Go.WideShapes Go.ChangeAt Go.RowKit
open Go.ChangeMaps (open_string shut_string)
open Eng
set_option linter.unusedVariables false
set_option linter.unusedSimpArgs false
section
variable {X:Mp×Hp×World} (ok:fJ X)
theorem Uf {c l:Nat→Nat} {u told t:Nat}:Do mu (Sx X 1 37 told t (sS c l u 0)) (rq X.1 X.2.1 X.2.2 128 2):=
 mr av fun g=>ab aq .fin (p:=[some (AV.bool true)] = [some (AV.bool true)]) (by kernel_rfl) rfl
end
inductive Ra (l:Nat→Nat) (u:Nat):Nat→Hp→Prop where
 | kF (a0:u≤l 0 % 7):Ra l u 2 (IZ zI l u 0)
 | kS (lf:Nat) (f1:20000≤lf+9*u) (f2:lf≤20000) (a0:u≤l 0 % 7):Ra l u 2 (nG zI l u lf)
 | k0N (a0:l 0 % 7 < u):Ra l u 3 (sS rB l u 0)
def tV (X:Mp×Hp×World) (l:Nat→Nat) (u t:Nat):ST:=fun a w=> ∃told h,Ra l u told h∧Sx X 1 37 told t h a w
theorem K9 {X:Mp×Hp×World} {l:Nat→Nat} {u t told:Nat} {h:Hp} (hk:Ra l u told h): ∀a w,Sx X 1 37 told t h a w→tV X l u t a w:=fun a w s=>⟨told,h,hk,s⟩
section
variable {X:Mp×Hp×World} (ok:fJ X)
include ok
theorem Rb {l:Nat→Nat} {u:Nat} (hu:u < 8) {lf:Nat} (f1:19991≤lf+9*u) (f2:lf≤20000) (a0:u≤l 0 % 7) {Q:QT}:Do an (Sx X 1 37 2 (u+1) (nG zI l u lf)) (Exit.then (tV X l (u+1) (u+1)) Q):=by
 rcases ay a0 with a0 | a0
 ·
  exact ag (Kf (lf:=lf) ok hu a0) (K9 (.k0N (by omega)))
 ·
  exact ag (Q_ (lf:=lf) ok hu a0) (K9 (.kS lf (by omega) f2 (by omega)))
theorem Rc {l:Nat→Nat} {u:Nat} (hu:u < 8) (a0:l 0 % 7 < u) {Q:QT}:Do an (Sx X 1 37 3 (u+1) (sS rB l u 0)) (Exit.then (tV X l (u+1) (u+1)) Q):=by
 exact ag (Kg (lf:=0) ok hu a0) (K9 (.k0N (by omega)))
end
theorem Ug {X:Mp×Hp×World} (ok:fJ X) {l:Nat→Nat} {u:Nat} (hu:u < 8) {Q:QT}:Do K6 (tV X l (u+1) (u+1)) (Exit.then (tV X l (u+1) (u+1+1)) Q):=fun x hx a w ⟨told,h,hk,st⟩=>
 ag (cx av fun g=>RB g (Nat.lt_succ_of_lt hu)) (K9 hk) x hx a w st
section
variable {X:Mp×Hp×World} (ok:fJ X)
include ok
theorem Ti {l:Nat→Nat} {u told:Nat} {h h':Hp} (hu:u < 8) {Q:QT} (hp: ∀{Q},Do a7 (Sx X 1 37 told (u+1) h) (Exit.then (Sx X 1 37 told (u+1) h') Q)) (hr: ∀{Q},Do an (Sx X 1 37 told (u+1) h') (Exit.then (tV X l (u+1) (u+1)) Q)):
  Do fQ (Sx X 1 37 told (u+1) h) (Exit.then (tV X l (u+1) (u+1+1)) Q):=
 a9 (cx av fun g=>uS g hu) (a9 (dI (a9 hp (bY hr (fun _ _ h=>h) n_))) (Ug ok hu))
theorem Uh {l:Nat→Nat} {u:Nat} (hu:u < 8) {Q:QT}:Do fQ (tV X l u (u+1)) (Exit.then (tV X l (u+1) (u+1+1)) Q):=fun x hx a w ⟨told,h,hk,st⟩=>by
 cases hk with
 | kF a0=>exact Ti ok hu (Kc ok) (Rb ok hu (by omega) (by omega) a0) x hx a w st
 | kS lf f1 f2 a0=>exact Ti ok hu (Kd ok (by omega) f2) (Rb ok hu (by omega) (by omega) a0) x hx a w st
 | k0N a0=>exact Ti ok hu (Q9 ok) (Rc ok hu a0) x hx a w st
end
theorem Kh {X:Mp×Hp×World} (ok:fJ X) {l:Nat→Nat} {R':ST} {Q:QT}:Do fQ (tV X l 8 9) (Exit.then R' (Exit.inBlock 2 (Exit.then (tV X l 8 9) Q))):=fun x hx a w ⟨told,h,hk,st⟩=>
 a9 (R:=fun _ _=>False) (jC av (fun g=>ru g) (fun a w s=>mw (K9 hk a w s))) (fun _ _ _ _ h=>h.elim) x hx a w st
theorem Rd {X:Mp×Hp×World} (ok:fJ X) {l:Nat→Nat}:Do mu (tV X l 8 9) (rq X.1 X.2.1 X.2.2 128 2):=fun x hx a w ⟨told,h,hk,st⟩=>by
 cases hk <;> first | omega | exact Uf x hx a w st
section
variable {X:Mp×Hp×World} (ok:fJ X)
include ok
theorem Ui {l:Nat→Nat} {Q:QT}:Do (.block 2 (.loop fQ)) (tV X l 0 1) (Exit.then (tV X l 8 9) Q):=
 dI (kA (m:=9) (fun k a w=> ∃u,u≤8∧u+k=9∧tV X l u (u+1) a w) (fun a w ⟨u,h1,h2,_⟩=>by omega)
  (fun k x hx a w ⟨u,h1,h2,hd⟩=>by
   rcases Nat.lt_or_ge u 8 with h | h
   ·exact ag (Uh ok h) (fun a w q=>⟨u+1,by omega,by omega,q⟩) x hx a w hd
   ·obtain rfl:u=8:=by omega
    exact Kh ok x hx a w hd)
  fun a w h=>⟨0,by omega,by omega,h⟩)
end
theorem Tj {l:Nat→Nat} (b: ∀i,l i < 256) {μ:Mp} {w:World} {x:Value} (hs:bh μ (hB (T1 l)) w) (hm: ∀c,μ.own c=false) (r:VR μ (.slice 0 0 1 1 1 false) x):
  Calls Tryz.prog 4 #[x] w fun e w'=>e= .returned (.bool true)∧Below w.heap.size w w':=
 have ok:fJ (μ,hB (T1 l),w):=⟨fun c _=>hm c,Nat.le_refl 1⟩
 rp (M:=MM) (i:=2) RA hs hm (args:=[.slice 0 0 1 1 1 false]) (by rw [aJ];exact ⟨_,_,rfl,r,by rw [aH]⟩) (by show 1≤128;decide) rfl
  (bY (S:=mF μ (hB (T1 l)) w 128 [(0, .slice 0 0 1 1 1 false)] (hB (T1 l))) (Ue b (fun c _=>hm c) (a9 (a9 (cx av fun g=>r6 g) (bY (Ui ok (l:=l)) (fun a w st=>K9 (t:=1) (.kF (Nat.zero_le _)) a w st) (fun _ _ _ h=>h))) (Rd ok))) (fun a w1 h=>⟨.lf,h.1 ▸ h.2⟩) (fun _ _ _ h=>h))
end Go.Proofs.YtfcljjhlijolgaaGreatDoor.topLate
end
end
