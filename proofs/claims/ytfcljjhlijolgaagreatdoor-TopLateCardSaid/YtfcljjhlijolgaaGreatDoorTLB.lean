import Derived.Test.YtfcljjhlijolgaaGreatDoorTabS
import Derived.Test.YtfcljjhlijolgaaGreatDoorB4
import Derived.Test.YtfcljjhlijolgaaGreatDoorRows
import Derived.ProofKit
import Derived.OpenShut
import Derived.ShutString
import Derived.ChangeOld
import Derived.Carry
noncomputable section
namespace Go.Proofs.YtfcljjhlijolgaaGreatDoor.topLate
open Go.ChangeShapes Go.WideShapes Go.ChangeAt Go.RowKit
open Go.ChangeMaps (open_string shut_string)
open Eng
set_option linter.unusedVariables false
set_option linter.unusedSimpArgs false
theorem begun:isTrue (nL JS (ao Tryz.prog (aa Tryz.prog)) 100000 26 10 [] H0)=true:=by rw [←sO];kernel_rfl
theorem Qw:Ew Tryz.prog [10] :=fun f hf=>by
 rw [List.mem_singleton] at hf
 subst hf
 exact vJ bw uK begun
abbrev MM:Nat→Option (List AV→Hp→RV):=orM (LC [10]) JS
theorem uR:Eng.Good Tryz.prog fun f args h=>aA .no (fun m=>m args h) (MM f):=y2 (CF Qw) uK
def TQ (f:Nat):Option q_:=none
theorem aq: ∀f w,TQ f=some w→∃m,MM f=some m∧∀args h c r k,w args h c r k→∃v h' c' r',m args h= .ok v h'∧k v h' c' r':=fun f w e=>by cases e
abbrev CL:aL:=nL MM PS 100000 26
theorem av:Eng.Good Tryz.prog CL:=by
 unfold CL;rw [sO];exact jt bw uR 100000 26
def A0:AC:=(rg [mv 2 cF])
def A1:AC:=(.seq (rg [ca 12 10 [],qo 13 (.un .not 12)]) (.cond 13 (.seq (rg [mv 2 cF]) .ret) .skip))
def A2:AC:=(.seq (rg [qm 14 0,ln 15 14,qo 16 (.bin .gtr 15 (.const (AV.int .i64 (Int.ofNat 4))))]) (.cond 16 (.seq (rg [mv 2 cT]) .ret) .skip))
def A3:AC:=(rg [ca 17 11 [],qm 3 17])
def A4:AC:=(.seq (rg [qo 4 (.move (.const (AV.int .i64 (Int.ofNat 0))))]) (.block 0 (.loop (.seq (.seq (rg [qm 18 4,qm 19 0,ln 20 19,qo 21 (.bin .lss 18 20)]) (.cond 21 .skip (.exit 0))) (.seq (.block 1 (rg [qm 24 3,qm 25 4,qo 26 (.bin .add 25 (.const (AV.int .i64 (Int.ofNat 1)))),qo 27 (.toInt .u64 26),qm 28 0,qm 29 4,ix 30 1 28 29,l1 31 30,qo 32 (.bin .rem 31 (.const (AV.int .u8 (Int.ofNat 7)))),qo 33 (.toInt .u64 32),qo 34 (.bin .add (.const (AV.int .u64 (Int.ofNat 1))) 33),qo 35 (.build [(AV.int .i64 (Int.ofNat 0)),(AV.int .u64 (Int.ofNat 0)),(AV.int .u64 (Int.ofNat 0)),(AV.str []),AV.nilSlice,AV.nilSlice,(AV.int .u64 (Int.ofNat 0)),(AV.int .u64 (Int.ofNat 0))] [(0,1,(.const (AV.int .i64 (Int.ofNat 4)))),(1,1,27),(2,1,(.const (AV.int .u64 (Int.ofNat 2)))),(3,1,(.const (AV.str [115,112,105,110]))),(6,1,34)]),ca 36 13 [(.const (AV.int .i64 (Int.ofNat 0))),35],ca 37 12 [24,36]])) (rg [qm 22 4,qo 23 (.bin .add 22 (.const (AV.int .i64 (Int.ofNat 1)))),qm 4 23]))))))
def A5:AC:=(rg [qo 5 (.move (.const (AV.int .i64 (Int.ofNat 2))))])
def A6:AC:=(rg [qo 6 (.move (.const (AV.int .u64 (Int.ofNat 1))))])
def Td:AC:=(.seq (rg [qm 38 6,qo 39 (.bin .leq 38 (.const (AV.int .u64 (Int.ofNat 8))))]) (.cond 39 .skip (.exit 2)))
def a7:AC:=(rg [qm 42 3,qo 43 (.build [(AV.int .i64 (Int.ofNat 0)),(AV.int .i64 (Int.ofNat 0)),(AV.int .i64 (Int.ofNat 0)),(AV.int .i64 (Int.ofNat 0)),AV.nilSlice] [(0,1,(.const (AV.int .i64 (Int.ofNat 2)))),(3,1,(.const (AV.int .i64 (Int.ofNat 9))))]),ca 44 12 [42,43]])
def an:AC:=(.seq (rg [qm 45 3,qo 46 (.build [(AV.int .i64 (Int.ofNat 0)),(AV.int .i64 (Int.ofNat 0)),(AV.int .i64 (Int.ofNat 0)),(AV.int .i64 (Int.ofNat 0)),AV.nilSlice] [(0,1,(.const (AV.int .i64 (Int.ofNat 3))))]),ca 47 12 [45,46]]) (.seq (rg [qm 48 3,ca 49 14 [48,(.const (AV.int .i64 (Int.ofNat 0)))],qm 7 49]) (.seq (.seq (rg [qo 8 (.move (.const (AV.int .i64 (Int.ofNat 0))))]) (.block 4 (.loop (.seq (.seq (rg [qm 50 8,qm 51 0,ln 52 51,qo 53 (.bin .lss 50 52)]) (.cond 53 .skip (.exit 4))) (.seq (.block 5 (.seq (.seq (rg [qm 56 0,qm 57 8,ix 58 1 56 57,l1 59 58,qo 60 (.bin .rem 59 (.const (AV.int .u8 (Int.ofNat 7)))),qo 61 (.toInt .u64 60),qo 62 (.bin .add (.const (AV.int .u64 (Int.ofNat 1))) 61),qm 63 6,qo 64 (.eq .int true 62 63)]) (.cond 64 (.exit 5) .skip)) (.seq (.seq (rg [qm 65 5,qm 66 7,ln 67 66,qo 68 (.bin .geq 65 67),qm 69 68,⟨(some 70), .q (.move 7),(some (69,false))⟩,⟨(some 71), .q (.move 5),(some (69,false))⟩,⟨(some 72), .q (.idxAddrSl 4 70 71),(some (69,false))⟩,⟨(some 73), .q (.fieldAddr 0 72),(some (69,false))⟩,⟨(some 74), .q (.loadS 73),(some (69,false))⟩,⟨(some 75), .q (.move 8),(some (69,false))⟩,⟨(some 76), .q (.bin .add 75 (.const (AV.int .i64 (Int.ofNat 1)))),(some (69,false))⟩,⟨(some 77), .q (.toInt .u64 76),(some (69,false))⟩,⟨(some 78), .q (.eq .int true 74 77),(some (69,false))⟩,pk 79 69 cT 78,qm 80 79,⟨(some 81), .q (.move 7),(some (80,false))⟩,⟨(some 82), .q (.move 5),(some (80,false))⟩,⟨(some 83), .q (.idxAddrSl 4 81 82),(some (80,false))⟩,⟨(some 84), .q (.fieldAddr 1 83),(some (80,false))⟩,⟨(some 85), .q (.loadS 84),(some (80,false))⟩,⟨(some 86), .q (.eq .int true 85 (.const (AV.int .i64 (Int.ofNat 14)))),(some (80,false))⟩,pk 87 80 cT 86]) (.cond 87 (.seq (rg [mv 2 cF]) .ret) .skip)) (rg [qm 88 5,qo 89 (.bin .add 88 (.const (AV.int .i64 (Int.ofNat 1)))),qm 5 89])))) (rg [qm 54 8,qo 55 (.bin .add 54 (.const (AV.int .i64 (Int.ofNat 1)))),qm 8 55])))))) (.seq (rg [qm 90 7,ln 91 90,qm 92 5,qo 93 (.eq .int true 91 92)]) (.cond 93 (.seq (rg [mv 2 cF]) .ret) .skip)))))
def K6:AC:=(rg [qm 40 6,qo 41 (.bin .add 40 (.const (AV.int .u64 (Int.ofNat 1)))),qm 6 41])
def mu:AC:=(.seq (rg [qm 95 3,ca 96 17 [95,(.const (AV.int .i64 (Int.ofNat 0)))],qm 94 96,ex 97 0 94,ex 98 1 94,ex 99 2 94,qm 9 97,qm 10 98,qm 11 99]) (.seq (rg [qm 100 3,ca 101 18 [100],qo 102 (.eq .int false 101 (.const (AV.int .i64 (Int.ofNat 0)))),qm 103 102,⟨(some 104), .q (.move 11),(some (103,true))⟩,⟨(some 105), .q (.eq .int false 104 (.const (AV.int .i64 (Int.ofNat 0)))),(some (103,true))⟩,pk 106 103 105 cF,qm 107 106,⟨(some 108), .q (.move 9),(some (107,true))⟩,⟨(some 109), .q (.eq .ptr true 108 cP),(some (107,true))⟩,pk 110 107 109 cF,qm 111 110,⟨(some 112), .q (.move 9),(some (111,true))⟩,⟨(some 113), .q (.nilCheck 112),(some (111,true))⟩,⟨(some 114), .q (.fieldAddr 16 113),(some (111,true))⟩,⟨(some 115), .q (.loadS 114),(some (111,true))⟩,⟨(some 116), .q (.lenL 115),(some (111,true))⟩,⟨(some 117), .q (.eq .int false 116 (.const (AV.int .i64 (Int.ofNat 1)))),(some (111,true))⟩,pk 118 111 117 cF,qm 119 118,⟨(some 120), .q (.move 9),(some (119,true))⟩,⟨(some 121), .q (.nilCheck 120),(some (119,true))⟩,⟨(some 122), .q (.fieldAddr 16 121),(some (119,true))⟩,⟨(some 123), .q (.loadS 122),(some (119,true))⟩,⟨(some 124), .q (.idxAddrSl 1 123 (.const (AV.int .i64 (Int.ofNat 0)))),(some (119,true))⟩,⟨(some 125), .q (.loadS 124),(some (119,true))⟩,⟨(some 126), .q (.eq .int false 125 (.const (AV.int .u64 (Int.ofNat 0)))),(some (119,true))⟩,pk 127 119 126 cF,qm 2 127]) .ret))
def fQ:AC:= .seq Td (.seq (.block 3 (.seq a7 an)) K6)
def Ub:AF:=⟨128,[.tmp 2],kc [A0,A1,A2,A3,A4,A5] (.seq (.seq A6 (.block 2 (.loop fQ))) mu)⟩
theorem RA:ao Tryz.prog (aa Tryz.prog) 4=some Ub:=by kernel_rfl
abbrev fJ (X:Mp×Hp×World):Prop:=(∀c,c < X.2.2.heap.size→X.1.own c=false)∧X.2.1.next≤1
def FR (m s told t:Nat):List (Nat×AV):=[(0, .slice 0 0 m m 1 false),(3, .ptr s 0),(5,vi told),(6,vq t)]
def o1 (n u:Nat) (r:b7):b7:= .tell n (vq (u+1)) r
abbrev p1 (u:Nat) (K:Prop):Prop:=qN .u64 .u64 .add u 1 (u+1)∧K
theorem k1 {u:Nat} {K:Prop} (h:u < 9) (k:K):p1 u K:=⟨dj rfl (show (u+1) % 18446744073709551616=u+1 by omega),k⟩
def o2 (n:Nat) (b:Bool) (r:b7):b7:= .tell n (.bool b) (.agn 0 r)
abbrev p2 (x u:Nat) (b:Bool) (K:Prop):Prop:=qB .u64 .u64 .leq x (u+1) (.bool b)∧b=aY (gL (Int.ofNat (u+1)) (Int.ofNat x))∧qI (u+1)∧qI x∧K
theorem aO {x u:Nat} {K:Prop} (h:x≤u+1) (k:K):p2 x u true K:=⟨zi h,(congrArg aY (ku (by omega))).symm,rfl,rfl,k⟩
theorem aP {x u:Nat} {K:Prop} (h:u+1 < x) (k:K):p2 x u false K:=⟨J2 h,(congrArg aY (ma (by omega))).symm,rfl,rfl,k⟩
def o4 (n x u:Nat) (b:Bool) (r:b7):b7:= .tell n (aB x) (.tell 0 (vq x) (.tell 0 (vq (x+1)) (.tell 1 (.bool b) r)))
abbrev p4 (y x u:Nat) (b:Bool) (K:Prop):Prop:=qN .u8 .u8 .rem y 7 x∧qC .u64 .u8 x x∧qN .u64 .u64 .add 1 x (x+1)∧qE true .u64 (x+1) (u+1) b∧K
theorem aw {y x u:Nat} {K:Prop} (h:y % 7=x) (h2:x≠u) (k:K):p4 y x u true K:=⟨jQ rfl (by omega) h,bn rfl (show x % 18446744073709551616=x by omega),dj rfl (show (1+x) % 18446744073709551616=x+1 by omega),j9 (by omega),k⟩
theorem aQ {y u:Nat} {K:Prop} (h:y % 7=u) (k:K):p4 y u u false K:=⟨jQ rfl (by omega) h,bn rfl (show u % 18446744073709551616=u by omega),dj rfl (show (1+u) % 18446744073709551616=u+1 by omega),L2 (by omega),k⟩
abbrev p3 (d x:Nat) (K:Prop):Prop:=(true=true)∧qI 0∧qI 4∧qI d∧qI 2∧(([115,112,105,110] :List Nat)= [115,112,105,110])∧qI x∧qI 0∧qI 0∧qI 4∧qI d∧qI 2∧(([115,112,105,110] :List Nat)= [115,112,105,110])∧qI x∧qI 0∧(true=true)∧qI 0∧qI 4∧qI d∧qI 2∧(([115,112,105,110] :List Nat)= [115,112,105,110])∧qI x∧qI 0∧(true=true)∧qI d∧K
theorem k3 {d x:Nat} {K:Prop} (k:K):p3 d x K:=⟨rfl,rfl,rfl,rfl,rfl,rfl,rfl,rfl,rfl,rfl,rfl,rfl,rfl,rfl,rfl,rfl,rfl,rfl,rfl,rfl,rfl,rfl,rfl,rfl,rfl,k⟩
section
variable {x0 x3 x5:AV} {h:Hp} {u:Nat} (g:T)
theorem uS (hu:u < 8): ∃s,c7 CL 100000 Td (lE [(0,x0),(3,x3),(5,x5),(6,vq (u+1))] g) h=s∧fP (s5 [(0,x0),(3,x3),(5,x5),(6,vq (u+1))]) (fun sl h1=>sl=lmap (fun p=>some p.2) [(0,x0),(3,x3),(5,x5),(6,vq (u+1))]∧h1=h) (fun _ _ _=>False) (fun _ _=>False) s:=
 ab aq (.tell 1 (.bool true) .fin) (p:=qB .u64 .u64 .leq (u+1) 8 (.bool true)∧(lmap (fun (p:Nat×AV)=>some p.2) [(0,x0),(3,x3),(5,x5),(6,vq (u+1))] =lmap (fun (p:Nat×AV)=>some p.2) [(0,x0),(3,x3),(5,x5),(6,vq (u+1))]∧h=h)) (by kernel_rfl) ⟨zi (by omega),rfl,rfl⟩
theorem ru: ∃s,c7 CL 100000 Td (lE [(0,x0),(3,x3),(5,x5),(6,vq 9)] g) h=s∧fP (s5 [(0,x0),(3,x3),(5,x5),(6,vq 9)]) (fun _ _=>False) (fun j sl h1=>j=2∧sl=lmap (fun p=>some p.2) [(0,x0),(3,x3),(5,x5),(6,vq 9)]∧h1=h) (fun _ _=>False) s:=
 ab aq .fin (p:=2=2∧(lmap (fun (p:Nat×AV)=>some p.2) [(0,x0),(3,x3),(5,x5),(6,vq 9)] =lmap (fun (p:Nat×AV)=>some p.2) [(0,x0),(3,x3),(5,x5),(6,vq 9)]∧h=h)) (by kernel_rfl) ⟨rfl,rfl,rfl⟩
theorem RB (hu:u < 9): ∃s,c7 CL 100000 K6 (lE [(0,x0),(3,x3),(5,x5),(6,vq (u+1))] g) h=s∧fP (s5 [(0,x0),(3,x3),(5,x5),(6,vq (u+1+1))]) (fun sl h1=>sl=lmap (fun p=>some p.2) [(0,x0),(3,x3),(5,x5),(6,vq (u+1+1))]∧h1=h) (fun _ _ _=>False) (fun _ _=>False) s:=by
 have q0:qN .u64 .u64 .add (u+1) 1 (u+1+1):=dj rfl (show ((u+1)+1) % 18446744073709551616=(u+1+1) by omega)
 exact ab aq (.tell 1 (tI .u64 (u+1+1)) .fin) (p:=qN .u64 .u64 .add (u+1) 1 (u+1+1)∧(lmap (fun (p:Nat×AV)=>some p.2) [(0,x0),(3,x3),(5,x5),(6,vq (u+1+1))] =lmap (fun (p:Nat×AV)=>some p.2) [(0,x0),(3,x3),(5,x5),(6,vq (u+1+1))]∧h=h)) (by kernel_rfl) ⟨q0,rfl,rfl⟩
theorem r6: ∃s,c7 CL 100000 A6 (lE [(0,x0),(3,x3),(5,x5)] g) h=s∧fP (s5 [(0,x0),(3,x3),(5,x5),(6,vq 1)]) (fun sl h1=>sl=lmap (fun p=>some p.2) [(0,x0),(3,x3),(5,x5),(6,vq 1)]∧h1=h) (fun _ _ _=>False) (fun _ _=>False) s:=
 ab aq .fin (p:=lmap (fun (p:Nat×AV)=>some p.2) [(0,x0),(3,x3),(5,x5),(6,vq 1)] =lmap (fun (p:Nat×AV)=>some p.2) [(0,x0),(3,x3),(5,x5),(6,vq 1)]∧h=h) (by kernel_rfl) ⟨rfl,rfl⟩
end
abbrev Sx (X:Mp×Hp×World) (m s told t:Nat) (h:Hp):ST:=mF X.1 X.2.1 X.2.2 128 (FR m s told t) h
abbrev Do (A:AC) (S:ST) (Q:QT):Prop:=fm Tryz.prog 128 A S Q
theorem wi {R R':ST} {Q:QT} (h: ∀a w,R a w→R' a w): ∀e a w,Exit.then R Q e a w→Exit.then R' Q e a w:=fun e a w k=>by cases e <;> first | exact h a w k | exact k
theorem ag {A:AC} {S R R':ST} {Q:QT} (h:Do A S (Exit.then R Q)) (k: ∀a w,R a w→R' a w):Do A S (Exit.then R' Q):=bY h (fun _ _ h=>h) (wi k)
theorem mw {i:Nat} {R R':ST} {Q:QT} {a:Act} {w:World} (h:R a w):Exit.then (fun _ _=>False) (Exit.then R' (Exit.inBlock i (Exit.then R Q))) (.exit i) a w:=by
 show (if i=i then R a w else Q (.exit i) a w)
 rw [if_pos rfl];exact h
theorem ay {a b:Nat} (h:a≤b):b=a∨a < b:=by omega
theorem n_ {i:Nat} {R:ST} {Q:QT}: ∀e a w,Exit.then R (Exit.inBlock i (Exit.then R Q)) e a w→Exit.inBlock i (Exit.then R Q) e a w:=fun e a w h=>by cases e <;> exact h
end Go.Proofs.YtfcljjhlijolgaaGreatDoor.topLate
end
