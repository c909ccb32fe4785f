import Derived.Test.YtfcljjhlijolgaaGreatDoorTabS
import Derived.Test.YtfcljjhlijolgaaGreatDoorB4
import Derived.Test.YtfcljjhlijolgaaGreatDoorRows
import Derived.ProofKit
import Derived.OpenShut
import Derived.ShutString
import Derived.ChangeOld
import Derived.Carry
noncomputable section
namespace Go.Proofs.YtfcljjhlijolgaaGreatDoor.serverQueue
open Go.ChangeShapes Go.WideShapes Go.ChangeAt Go.RowKit
open Go.ChangeMaps (open_string shut_string)
open Eng
set_option linter.unusedVariables false
set_option linter.unusedSimpArgs false
theorem begun:isTrue (kZ Mo (ae Tryz.prog (ab Tryz.prog)) 100000 26 19 [] H0)=true:=by rw [←tY];kernel_rfl
theorem Tg:Ht Tryz.prog [19] :=fun f hf=>by
 rw [List.mem_singleton] at hf
 subst hf
 exact uA bT tQ begun
abbrev MM:Nat→Option (List AV→Hp→RV):=orM (OG [19]) Mo
theorem K6:Eng.Good Tryz.prog fun f args h=>av .no (fun m=>m args h) (MM f):=BC (Gw Tg) tQ
def TH (f:Nat):Option pA:=none
theorem a_: ∀f w,TH f=some w→∃m,MM f=some m∧∀args h c r k,w args h c r k→∃v h' c' r',m args h= .ok v h'∧k v h' c' r':=fun f w e=>by cases e
abbrev CL:aJ:=kZ MM PS 100000 26
theorem aQ:Eng.Good Tryz.prog CL:=by
 unfold CL;rw [tY];exact ir bT K6 100000 26
def A0:AC:=(.region [qo 4 (.move (.const (AV.bool false)))])
def A1:AC:=(.seq (.region [eo 15 (.call (.const (AV.func (.func 19) [] [])) []),qo 16 (.un .not (tq 15))]) (.cond (tq 16) (.seq (.region [qo 4 (.move (.const (AV.bool false)))]) .ret) .skip))
def A2:AC:=(.seq (.region [qm 17 0,qo 18 (.lenL (tq 17)),qo 19 (.bin .gtr (tq 18) (.const (AV.int .i64 (Int.ofNat 4)))),qm 20 19,⟨(some 21), .q (.move (tq 1)),(some (20,false))⟩,⟨(some 22), .q (.lenL (tq 21)),(some (20,false))⟩,⟨(some 23), .q (.bin .gtr (tq 22) (.const (AV.int .i64 (Int.ofNat 40)))),(some (20,false))⟩,qo 24 (.pick (tq 20) (.const (AV.bool true)) (tq 23))]) (.cond (tq 24) (.seq (.region [qo 4 (.move (.const (AV.bool true)))]) .ret) .skip))
def A3:AC:=(.region [eo 25 (.call (.const (AV.func (.func 16) [] [])) []),qo 26 (.build [(AV.int .i64 (Int.ofNat 0)),(AV.int .u64 (Int.ofNat 0)),(AV.int .u64 (Int.ofNat 0)),(AV.str []),AV.nilSlice,AV.nilSlice,(AV.int .u64 (Int.ofNat 0)),(AV.int .u64 (Int.ofNat 0))] [(0,1,(.const (AV.int .i64 (Int.ofNat 1)))),(4,1,(tq 25))]),qo 27 (.build [(AV.int .i64 (Int.ofNat 0)),(AV.int .u64 (Int.ofNat 0)),(AV.int .u64 (Int.ofNat 0)),(AV.str []),AV.nilSlice,AV.nilSlice,(AV.int .u64 (Int.ofNat 0)),(AV.int .u64 (Int.ofNat 0))] [(0,1,(.const (AV.int .i64 (Int.ofNat 2)))),(2,1,(.const (AV.int .u64 (Int.ofNat 1)))),(3,1,(.const (AV.str [97])))]),lo 28 (.buildSlice 8 2 [(AV.int .i64 (Int.ofNat 0)),(AV.int .u64 (Int.ofNat 0)),(AV.int .u64 (Int.ofNat 0)),(AV.str []),AV.nilSlice,AV.nilSlice,(AV.int .u64 (Int.ofNat 0)),(AV.int .u64 (Int.ofNat 0))] [(0,8,(tq 26)),(8,8,(tq 27))]),eo 29 (.call (.const (AV.func (.func 20) [] [])) [(tq 28)]),qm 5 29])
def A4:AC:=(.region [qm 30 5,qo 31 (.build [(AV.int .i64 (Int.ofNat 0)),(AV.int .u64 (Int.ofNat 0)),(AV.int .u64 (Int.ofNat 0)),(AV.str []),AV.nilSlice,AV.nilSlice,(AV.int .u64 (Int.ofNat 0)),(AV.int .u64 (Int.ofNat 0))] [(0,1,(.const (AV.int .i64 (Int.ofNat 3)))),(3,1,(.const (AV.str [97])))]),eo 32 (.call (.const (AV.func (.func 13) [] [])) [(.const (AV.int .i64 (Int.ofNat 1))),(tq 31)]),eo 33 (.call (.const (AV.func (.func 12) [] [])) [(tq 30),(tq 32)])])
def A6:AC:=(.region [qo 6 (.move (.const (AV.int .i64 (Int.ofNat 0))))])
def MH:AC:=(.seq (.region [qm 34 6,qm 35 0,qo 36 (.lenL (tq 35)),qo 37 (.bin .lss (tq 34) (tq 36))]) (.cond (tq 37) .skip (.exit 0)))
def cC:AC:=(.seq (.region [qm 40 6,qo 41 (.bin .add (tq 40) (.const (AV.int .i64 (Int.ofNat 1)))),qo 42 (.toInt .u64 (tq 41)),lo 43 (.buildSlice 1 1 [(AV.int .u64 (Int.ofNat 0))] [(0,1,(tq 42))]),qo 44 (.build [(AV.int .i64 (Int.ofNat 0)),(AV.int .u64 (Int.ofNat 0)),(AV.int .u64 (Int.ofNat 0)),(AV.str []),AV.nilSlice,AV.nilSlice,(AV.int .u64 (Int.ofNat 0)),(AV.int .u64 (Int.ofNat 0))] [(0,1,(.const (AV.int .i64 (Int.ofNat 4)))),(2,1,(.const (AV.int .u64 (Int.ofNat 2)))),(3,1,(.const (AV.str [105,110,99]))),(5,1,(tq 43))]),lo 7 (.alloc [(AV.int .i64 (Int.ofNat 0)),(AV.int .u64 (Int.ofNat 0)),(AV.int .u64 (Int.ofNat 0)),(AV.str []),AV.nilSlice,AV.nilSlice,(AV.int .u64 (Int.ofNat 0)),(AV.int .u64 (Int.ofNat 0))]),en (.store 8 (tq 7) (tq 44))]) (.seq (.region [qo 8 (.move (.const (AV.int .i64 (Int.ofNat 0))))]) (.seq (.seq (.region [qm 45 0,qm 46 6,qo 47 (.idxAddrSl 1 (tq 45) (tq 46)),qo 48 (.loadS (tq 47))]) (.cond (tq 48) (.region [qo 49 (.fieldAddr 2 (tq 7)),en (.store 1 (tq 49) (.const (AV.int .u64 (Int.ofNat 1)))),qo 8 (.move (.const (AV.int .i64 (Int.ofNat 1))))]) .skip)) (.region [qm 50 5,qm 51 8,qo 52 (.loadA 8 (tq 7)),eo 53 (.call (.const (AV.func (.func 13) [] [])) [(tq 51),(tq 52)]),eo 54 (.call (.const (AV.func (.func 12) [] [])) [(tq 50),(tq 53)])]))))
def V2:AC:=(.region [qm 38 6,qo 39 (.bin .add (tq 38) (.const (AV.int .i64 (Int.ofNat 1)))),qm 6 39])
def A9:AC:=(.region [qo 9 (.move (.const (AV.int .i64 (Int.ofNat 0))))])
def MI:AC:=(.seq (.region [qm 55 9,qo 56 (.bin .lss (tq 55) (.const (AV.int .i64 (Int.ofNat 60))))]) (.cond (tq 56) .skip (.exit 2)))
def Vf:AC:=(.region [qo 10 (.move (.const (AV.int .i64 (Int.ofNat 2))))])
def Th:AC:=(.seq (.region [qm 59 9,qm 60 1,qo 61 (.lenL (tq 60)),qo 62 (.bin .lss (tq 59) (tq 61))]) (.cond (tq 62) (.region [qm 63 1,qm 64 9,qo 65 (.idxAddrSl 1 (tq 63) (tq 64)),qo 66 (.loadS (tq 65)),qo 67 (.bin .rem (tq 66) (.const (AV.int .u8 (Int.ofNat 7)))),qo 68 (.toInt .i64 (tq 67)),qm 10 68]) .skip))
def ao:AC:=(.region [qm 69 5,qm 70 10,qo 71 (.build [(AV.int .i64 (Int.ofNat 0)),(AV.int .i64 (Int.ofNat 0)),(AV.int .i64 (Int.ofNat 0)),(AV.int .i64 (Int.ofNat 0)),AV.nilSlice] [(0,1,(.const (AV.int .i64 (Int.ofNat 2)))),(3,1,(tq 70))]),eo 72 (.call (.const (AV.func (.func 12) [] [])) [(tq 69),(tq 71)])])
def V3:AC:=(.region [qm 57 9,qo 58 (.bin .add (tq 57) (.const (AV.int .i64 (Int.ofNat 1)))),qm 9 58])
def bJ:AC:=(.seq (.region [qm 73 5,eo 74 (.call (.const (AV.func (.func 24) [] [])) [(tq 73)]),qm 11 74]) (.seq (.seq (.region [qm 75 11,qo 76 (.lenL (tq 75)),qm 77 0,qo 78 (.lenL (tq 77)),qo 79 (.bin .add (.const (AV.int .i64 (Int.ofNat 3))) (tq 78)),qo 80 (.eq .int true (tq 76) (tq 79)),qm 81 80,⟨(some 82), .q (.move (tq 5)),(some (81,false))⟩,⟨(some 83), .e (.call (.const (AV.func (.func 18) [] [])) [(tq 82)]),(some (81,false))⟩,⟨(some 84), .q (.eq .int true (tq 83) (.const (AV.int .i64 (Int.ofNat 0)))),(some (81,false))⟩,qo 85 (.pick (tq 81) (.const (AV.bool true)) (tq 84))]) (.cond (tq 85) (.seq (.region [qo 4 (.move (.const (AV.bool false)))]) .ret) .skip)) (.seq (.seq (.region [qo 12 (.move (.const (AV.int .i64 (Int.ofNat 0))))]) (.block 4 (.loop (.seq (.seq (.region [qm 86 12,qm 87 0,qo 88 (.lenL (tq 87)),qo 89 (.bin .lss (tq 86) (tq 88))]) (.cond (tq 89) .skip (.exit 4))) (.seq (.block 5 (.seq (.region [qm 92 11,qm 93 12,qo 94 (.bin .add (.const (AV.int .i64 (Int.ofNat 3))) (tq 93)),qo 95 (.idxAddrSl 13 (tq 92) (tq 94)),qo 96 (.loadA 13 (tq 95)),lo 13 (.alloc [(AV.int .i64 (Int.ofNat 0)),(AV.int .i64 (Int.ofNat 0)),(AV.int .u64 (Int.ofNat 0)),(AV.int .u64 (Int.ofNat 0)),(AV.str []),AV.nilSlice,AV.nilSlice,(AV.int .u64 (Int.ofNat 0)),(AV.int .u64 (Int.ofNat 0)),(AV.int .u64 (Int.ofNat 0)),(AV.int .i64 (Int.ofNat 0)),(AV.int .u64 (Int.ofNat 0)),AV.nilSlice]),en (.store 13 (tq 13) (tq 96))]) (.seq (.region [qo 14 (.move (.const (AV.int .i64 (Int.ofNat 0))))]) (.seq (.seq (.region [qm 97 0,qm 98 12,qo 99 (.idxAddrSl 1 (tq 97) (tq 98)),qo 100 (.loadS (tq 99))]) (.cond (tq 100) (.region [qo 14 (.move (.const (AV.int .i64 (Int.ofNat 1))))]) .skip)) (.seq (.region [qo 101 (.fieldAddr 0 (tq 13)),qo 102 (.loadS (tq 101)),qm 103 14,qo 104 (.eq .int true (tq 102) (tq 103)),qm 105 104,⟨(some 106), .q (.fieldAddr 1 (tq 13)),(some (105,false))⟩,⟨(some 107), .q (.fieldAddr 5 (tq 106)),(some (105,false))⟩,⟨(some 108), .q (.loadS (tq 107)),(some (105,false))⟩,⟨(some 109), .q (.lenL (tq 108)),(some (105,false))⟩,⟨(some 110), .q (.eq .int true (tq 109) (.const (AV.int .i64 (Int.ofNat 1)))),(some (105,false))⟩,qo 111 (.pick (tq 105) (.const (AV.bool true)) (tq 110)),qm 112 111,⟨(some 113), .q (.fieldAddr 1 (tq 13)),(some (112,false))⟩,⟨(some 114), .q (.fieldAddr 5 (tq 113)),(some (112,false))⟩,⟨(some 115), .q (.loadS (tq 114)),(some (112,false))⟩,⟨(some 116), .q (.idxAddrSl 1 (tq 115) (.const (AV.int .i64 (Int.ofNat 0)))),(some (112,false))⟩,⟨(some 117), .q (.loadS (tq 116)),(some (112,false))⟩,⟨(some 118), .q (.move (tq 12)),(some (112,false))⟩,⟨(some 119), .q (.bin .add (tq 118) (.const (AV.int .i64 (Int.ofNat 1)))),(some (112,false))⟩,⟨(some 120), .q (.toInt .u64 (tq 119)),(some (112,false))⟩,⟨(some 121), .q (.eq .int true (tq 117) (tq 120)),(some (112,false))⟩,qo 122 (.pick (tq 112) (.const (AV.bool true)) (tq 121)),qm 123 122,⟨(some 124), .q (.fieldAddr 9 (tq 13)),(some (123,false))⟩,⟨(some 125), .q (.fieldAddr 3 (tq 124)),(some (123,false))⟩,⟨(some 126), .q (.loadS (tq 125)),(some (123,false))⟩,⟨(some 127), .q (.lenL (tq 126)),(some (123,false))⟩,⟨(some 128), .q (.eq .int true (tq 127) (.const (AV.int .i64 (Int.ofNat 1)))),(some (123,false))⟩,qo 129 (.pick (tq 123) (.const (AV.bool true)) (tq 128)),qm 130 129,⟨(some 131), .q (.fieldAddr 9 (tq 13)),(some (130,false))⟩,⟨(some 132), .q (.fieldAddr 3 (tq 131)),(some (130,false))⟩,⟨(some 133), .q (.loadS (tq 132)),(some (130,false))⟩,⟨(some 134), .q (.idxAddrSl 1 (tq 133) (.const (AV.int .i64 (Int.ofNat 0)))),(some (130,false))⟩,⟨(some 135), .q (.loadS (tq 134)),(some (130,false))⟩,⟨(some 136), .q (.move (tq 12)),(some (130,false))⟩,⟨(some 137), .q (.bin .add (tq 136) (.const (AV.int .i64 (Int.ofNat 1)))),(some (130,false))⟩,⟨(some 138), .q (.move (tq 12)),(some (130,false))⟩,⟨(some 139), .q (.bin .add (tq 138) (.const (AV.int .i64 (Int.ofNat 2)))),(some (130,false))⟩,⟨(some 140), .q (.bin .mul (tq 137) (tq 139)),(some (130,false))⟩,⟨(some 141), .q (.bin .quo (tq 140) (.const (AV.int .i64 (Int.ofNat 2)))),(some (130,false))⟩,⟨(some 142), .q (.toInt .u64 (tq 141)),(some (130,false))⟩,⟨(some 143), .q (.eq .int true (tq 135) (tq 142)),(some (130,false))⟩,qo 144 (.pick (tq 130) (.const (AV.bool true)) (tq 143))]) (.cond (tq 144) (.seq (.region [qo 4 (.move (.const (AV.bool false)))]) .ret) .skip)))))) (.region [qm 90 12,qo 91 (.bin .add (tq 90) (.const (AV.int .i64 (Int.ofNat 1)))),qm 12 91])))))) (.seq (.region [eo 145 (.call (.const (AV.func (.func 25) [] [])) []),eo 146 (.call (.const (AV.func (.func 18) [] [])) [(tq 145)]),qo 147 (.eq .int false (tq 146) (.const (AV.int .i64 (Int.ofNat 0)))),qm 4 147]) .ret))))
def Ti:AC:= .seq MH (.seq (.block 1 cC) V2)
def TI:AC:= .seq MI (.seq (.block 3 (.seq Vf (.seq Th ao))) V3)
def We:AF:=⟨148,[.tmp 4],nh [A0,A1,A2,A3,A4] (.seq (.seq A6 (.block 0 (.loop Ti))) (.seq (.seq A9 (.block 2 (.loop TI))) bJ))⟩
theorem Wf:ae Tryz.prog (ab Tryz.prog) 6=some We:=by kernel_rfl
structure Bt where
 (b0 b1 b2 b3:Bool)
structure V where
 (k0 k1 L0 L1:Nat) (y0 y1 x0 x1:Nat→Nat)
structure Wd where
 (vw vf:AV) (oa ob:Option aY)
def sN (b:Bool):Nat:=bc b 1 0
def hN (b:Bool):Nat:=bc b 1 2
def cat (n:Nat) (c:Nat→Nat) (l:List Nat) (i:Nat):Nat:=bc (Nat.blt i n) (c i) (sf l (Nat.sub i n))
def Wd.ks (W:Wd):List (Nat×AV):=[(0,W.vw),(1,W.vf)]
def LB:List (Nat×KB):=[(2, .b (.cells [(.slice 9 0 4 4 2 false),(.slice 10 0 8 8 1 false),(.nilSlice),(.slice 11 0 1 1 3 false),(.slice 12 0 1 1 3 false),(.slice 13 0 8 8 3 false),(.bool false),(vw 0),(.nilSlice),(.bool false),(vw 0),(.slice 14 0 8 8 2 false),(.nilSlice)] 13 .ro)),(3, .b (.cells [(.nilSlice)] 1 .ro)),(4, .b (.cells [(.nilSlice)] 1 .ro)),(5, .b (.cells [(.nilSlice),(.bool false)] 2 .ro)),(6, .b (.cells [(.nilSlice)] 1 .ro)),(7, .b (.cells [(.nilSlice),(.bool false)] 2 .ro)),(8, .b (.cells [(.nilSlice)] 1 .ro)),(9, .b (.cells [(.nilSlice),(.nilSlice),(.slice 16 0 1 1 1 false),(.slice 17 0 1 1 1 false),(.nilSlice),(.slice 18 0 1 1 1 false),(.slice 19 0 2 2 1 false),(.nilSlice)] 8 .ro)),(10, .b (.cells [(vw 1),(vw 2),(vw 0),(vw 0),(vw 3),(vw 1),(vw 1),(vw 0)] 8 .ro)),(11, .b (.cells [(vw 1),(vw 0),(.bool false)] 3 .ro)),(12, .b (.cells [(aw 127),(.bool true),(.slice 20 0 2 2 6 false)] 3 .ro)),(13, .b (.cells [(.str [105,110,99]),(aw 0),(vw 0),(.str [103,101,116]),(aw 0),(vw 1),(.str [115,112,105,110]),(aw 0),(vw 2),(.str [116,114,97,112]),(aw 0),(vw 3),(.str [112,117,116]),(aw 0),(vw 4),(.str [112,101,101,107]),(aw 0),(vw 5),(.str [119,111,114,107]),(aw 0),(vw 6),(.str [100,101,101,112]),(aw 0),(vw 7)] 24 .ro)),(14, .b (.cells [(.nilSlice),(.slice 21 0 6 6 6 false),(.nilSlice),(.slice 22 0 2 2 6 false),(.nilSlice),(.slice 23 0 6 6 6 false),(.nilSlice),(.slice 24 0 6 6 6 false),(.nilSlice),(.slice 25 0 4 4 6 false),(.nilSlice),(.slice 26 0 3 3 6 false),(.nilSlice),(.slice 27 0 18 18 6 false),(.nilSlice),(.slice 28 0 4 4 6 false)] 16 .ro)),(15, .b (.cells [(aw 0),(aw 97),(aw 115),(aw 109),(aw 1),(aw 0),(aw 0),(aw 0),(aw 1),(aw 18),(aw 4),(aw 96),(aw 0),(aw 0),(aw 96),(aw 1),(aw 127),(aw 1),(aw 127),(aw 96),(aw 0),(aw 1),(aw 127),(aw 96),(aw 2),(aw 127),(aw 127),(aw 0),(aw 3),(aw 9),(aw 8),(aw 1),(aw 2),(aw 0),(aw 0),(aw 3),(aw 1),(aw 1),(aw 0),(aw 5),(aw 3),(aw 1),(aw 0),(aw 1),(aw 6),(aw 6),(aw 1),(aw 127),(aw 1),(aw 65),(aw 0),(aw 11),(aw 7),(aw 54),(aw 8),(aw 3),(aw 105),(aw 110),(aw 99),(aw 0),(aw 0),(aw 3),(aw 103),(aw 101),(aw 116),(aw 0),(aw 1),(aw 4),(aw 115),(aw 112),(aw 105),(aw 110),(aw 0),(aw 2),(aw 4),(aw 116),(aw 114),(aw 97),(aw 112),(aw 0),(aw 3),(aw 3),(aw 112),(aw 117),(aw 116),(aw 0),(aw 4),(aw 4),(aw 112),(aw 101),(aw 101),(aw 107),(aw 0),(aw 5),(aw 4),(aw 119),(aw 111),(aw 114),(aw 107),(aw 0),(aw 6),(aw 4),(aw 100),(aw 101),(aw 101),(aw 112),(aw 0),(aw 7),(aw 10),(aw 102),(aw 8),(aw 11),(aw 0),(aw 35),(aw 0),(aw 32),(aw 0),(aw 106),(aw 36),(aw 0),(aw 35),(aw 0),(aw 11),(aw 4),(aw 0),(aw 35),(aw 0),(aw 11),(aw 12),(aw 0),(aw 65),(aw 227),(aw 0),(aw 36),(aw 0),(aw 3),(aw 64),(aw 12),(aw 0),(aw 11),(aw 11),(aw 11),(aw 0),(aw 35),(aw 0),(aw 65),(aw 232),(aw 7),(aw 106),(aw 36),(aw 0),(aw 0),(aw 11),(aw 9),(aw 0),(aw 32),(aw 0),(aw 32),(aw 1),(aw 58),(aw 0),(aw 0),(aw 11),(aw 7),(aw 0),(aw 32),(aw 0),(aw 45),(aw 0),(aw 0),(aw 11),(aw 31),(aw 0),(aw 2),(aw 64),(aw 3),(aw 64),(aw 32),(aw 0),(aw 69),(aw 13),(aw 1),(aw 32),(aw 0),(aw 65),(aw 1),(aw 107),(aw 33),(aw 0),(aw 35),(aw 0),(aw 65),(aw 1),(aw 106),(aw 36),(aw 0),(aw 12),(aw 0),(aw 11),(aw 11),(aw 35),(aw 0),(aw 11),(aw 8),(aw 0),(aw 65),(aw 5),(aw 36),(aw 0),(aw 16),(aw 7),(aw 11)] 212 .ro)),(16, .b (.cells [(aw 127)] 1 .ro)),(17, .b (.cells [(aw 127)] 1 .ro)),(18, .b (.cells [(aw 127)] 1 .ro)),(19, .b (.cells [(aw 127),(aw 127)] 2 .ro)),(20, .b (.cells [(vi 65),(vw 0),(vw 0),(vq 0),(.nilSlice),(vi 0),(vi 11),(vw 0),(vw 0),(vq 0),(.nilSlice),(vi 0)] 12 .ro)),(21, .b (.cells [(vi 35),(vw 0),(vw 0),(vq 0),(.nilSlice),(vi 0),(vi 32),(vw 0),(vw 0),(vq 0),(.nilSlice),(vi 0),(vi 106),(vw 0),(vw 0),(vq 0),(.nilSlice),(vi 0),(vi 36),(vw 0),(vw 0),(vq 0),(.nilSlice),(vi 0),(vi 35),(vw 0),(vw 0),(vq 0),(.nilSlice),(vi 0),(vi 11),(vw 0),(vw 0),(vq 0),(.nilSlice),(vi 0)] 36 .ro)),(22, .b (.cells [(vi 35),(vw 0),(vw 0),(vq 0),(.nilSlice),(vi 0),(vi 11),(vw 0),(vw 0),(vq 0),(.nilSlice),(vi 0)] 12 .ro)),(23, .b (.cells [(vi 65),(vw 0),(vw 0),(vq 99),(.nilSlice),(vi 0),(vi 36),(vw 0),(vw 0),(vq 0),(.nilSlice),(vi 0),(vi 3),(vw 0),(vw 0),(vq 0),(.nilSlice),(.int .i64 (Int.negSucc 63)),(vi 12),(vw 0),(vw 0),(vq 0),(.nilSlice),(vi 0),(vi 11),(vw 0),(vw 0),(vq 0),(.nilSlice),(vi 0),(vi 11),(vw 0),(vw 0),(vq 0),(.nilSlice),(vi 0)] 36 .ro)),(24, .b (.cells [(vi 35),(vw 0),(vw 0),(vq 0),(.nilSlice),(vi 0),(vi 65),(vw 0),(vw 0),(vq 1000),(.nilSlice),(vi 0),(vi 106),(vw 0),(vw 0),(vq 0),(.nilSlice),(vi 0),(vi 36),(vw 0),(vw 0),(vq 0),(.nilSlice),(vi 0),(vi 0),(vw 0),(vw 0),(vq 0),(.nilSlice),(vi 0),(vi 11),(vw 0),(vw 0),(vq 0),(.nilSlice),(vi 0)] 36 .ro)),(25, .b (.cells [(vi 32),(vw 0),(vw 0),(vq 0),(.nilSlice),(vi 0),(vi 32),(vw 1),(vw 0),(vq 0),(.nilSlice),(vi 0),(vi 58),(vw 0),(vw 0),(vq 0),(.nilSlice),(vi 0),(vi 11),(vw 0),(vw 0),(vq 0),(.nilSlice),(vi 0)] 24 .ro)),(26, .b (.cells [(vi 32),(vw 0),(vw 0),(vq 0),(.nilSlice),(vi 0),(vi 45),(vw 0),(vw 0),(vq 0),(.nilSlice),(vi 0),(vi 11),(vw 0),(vw 0),(vq 0),(.nilSlice),(vi 0)] 18 .ro)),(27, .b (.cells [(vi 2),(vw 0),(vw 0),(vq 0),(.nilSlice),(.int .i64 (Int.negSucc 63)),(vi 3),(vw 0),(vw 0),(vq 0),(.nilSlice),(.int .i64 (Int.negSucc 63)),(vi 32),(vw 0),(vw 0),(vq 0),(.nilSlice),(vi 0),(vi 69),(vw 0),(vw 0),(vq 0),(.nilSlice),(vi 0),(vi 13),(vw 1),(vw 0),(vq 0),(.nilSlice),(vi 0),(vi 32),(vw 0),(vw 0),(vq 0),(.nilSlice),(vi 0),(vi 65),(vw 0),(vw 0),(vq 1),(.nilSlice),(vi 0),(vi 107),(vw 0),(vw 0),(vq 0),(.nilSlice),(vi 0),(vi 33),(vw 0),(vw 0),(vq 0),(.nilSlice),(vi 0),(vi 35),(vw 0),(vw 0),(vq 0),(.nilSlice),(vi 0),(vi 65),(vw 0),(vw 0),(vq 1),(.nilSlice),(vi 0),(vi 106),(vw 0),(vw 0),(vq 0),(.nilSlice),(vi 0),(vi 36),(vw 0),(vw 0),(vq 0),(.nilSlice),(vi 0),(vi 12),(vw 0),(vw 0),(vq 0),(.nilSlice),(vi 0),(vi 11),(vw 0),(vw 0),(vq 0),(.nilSlice),(vi 0),(vi 11),(vw 0),(vw 0),(vq 0),(.nilSlice),(vi 0),(vi 35),(vw 0),(vw 0),(vq 0),(.nilSlice),(vi 0),(vi 11),(vw 0),(vw 0),(vq 0),(.nilSlice),(vi 0)] 108 .ro)),(28, .b (.cells [(vi 65),(vw 0),(vw 0),(vq 5),(.nilSlice),(vi 0),(vi 36),(vw 0),(vw 0),(vq 0),(.nilSlice),(vi 0),(vi 16),(vw 7),(vw 0),(vq 0),(.nilSlice),(vi 0),(vi 11),(vw 0),(vw 0),(vq 0),(.nilSlice),(vi 0)] 24 .ro)),(29, .m (aw 0) 65536 .ro),(30, .b (.cells [] 0 .ro)),(31, .b (.cells [] 0 .ro))]
def TR (W:Wd):Tr aY:=nZ (iO LB) (FW W.oa W.ob)
theorem Vg {W:Wd} (h:kN (FW W.oa W.ob) 2):kN (TR W) 32:=h.over (by decide) (by kernel_rfl)
structure Ok (X:Mp×Hp×World) (W:Wd):Prop where
 own: ∀c,c < X.2.2.heap.size→X.1.own c=false
 heap:X.2.1=hO W.oa W.ob
 kk:si W.ks 2
 tb:kN (FW W.oa W.ob) 2
theorem Ok.next {X:Mp×Hp×World} {W:Wd} (ok:Ok X W):X.2.1.next≤32:=by rw [ok.heap];show 2≤32;decide
def f5:List (Nat×AV):=[(5, .ptr 32 0)]
def f6 (i:Nat):List (Nat×AV):=[(5, .ptr 32 0),(6,vi i)]
def f9 (i:Nat):List (Nat×AV):=[(5, .ptr 32 0),(9,vi i)]
def f2 (i n:Nat):List (Nat×AV):=[(5, .ptr 32 0),(9,vi i),(10,vi n)]
abbrev ad (X:Mp×Hp×World) (W:Wd) (fr:List (Nat×AV)) (D:List (Nat×KB)) (N:Nat):ST:=pK X.1 X.2.1 X.2.2 148 (bI W.ks fr) ⟨N,nZ (iO D) (TR W)⟩
abbrev Do (A:AC) (S:ST) (Q:QT):Prop:=hP Tryz.prog 148 A S Q
theorem u6 {R R':ST} {Q:QT} (h: ∀a w,R a w→R' a w): ∀e a w,Exit.then R Q e a w→Exit.then R' Q e a w:=fun e a w k=>by cases e <;> first | exact h a w k | exact k
theorem aa {A:AC} {S R R':ST} {Q:QT} (h:Do A S (Exit.then R Q)) (k: ∀a w,R a w→R' a w):Do A S (Exit.then R' Q):=jl h (fun _ _ h=>h) (u6 k)
theorem qT {i:Nat} {R R':ST} {Q:QT} {a:Act} {w:World} (h:R a w):Exit.then (fun _ _=>False) (Exit.then R' (Exit.inBlock i (Exit.then R Q))) (.exit i) a w:=by
 show (if i=i then R a w else Q (.exit i) a w)
 rw [if_pos rfl];exact h
theorem tZ {i:Nat} {R:ST} {Q:QT}: ∀e a w,Exit.then R (Exit.inBlock i (Exit.then R Q)) e a w→Exit.inBlock i (Exit.then R Q) e a w:=fun e a w h=>by cases e <;> exact h
section
variable {X:Mp×Hp×World} {W:Wd} {A:AC} {fr fr':List (Nat×AV)} {D D':List (Nat×KB)} {N N':Nat} {Q:QT}
abbrev eo (D:List (Nat×KB)) (rs:List (Nat×Nat×Own)):List Ke:=MF D (B_ rs)
abbrev Vh (A:AC) (W:Wd) (fr fr':List (Nat×AV)) (D D':List (Nat×KB)) (N:Nat) (rs:List (Nat×Nat×Own)) (o:bW) (g:T):Prop:=
 cW CL (qH TH MM PS 100000 26) 100000 A (iR (bI W.ks fr) g) ⟨N,nZ (iO D) (TR W)⟩ o.n o (fun s _ _=>dH (jK W.ks fr') (fun sl h1=>qQ (eo D' rs) 32 W.ks fr' sl h1) (fun _ _ _=>False) (fun _ _=>False) s)
theorem K7 (ok:Ok X W) (rs:List (Nat×Nat×Own)) (fm:pF (iO D) N (eo D' rs) 32 N' fr'=true) (hD:GX (eo D' rs)=iO D') (o:bW) {p:Prop} (e: ∀g,Vh A W fr fr' D D' N rs o g=p) (hp:p):
  Do A (ad X W fr D N) (Exit.then (ad X W fr' D' N') Q):=
 u3 ok.own aQ ok.next (ok.kk.up (by decide)) (Vg ok.tb) fm hD fun g=>aA a_ o (e g) hp
theorem ag (ok:Ok X W) (rs:List (Nat×Nat×Own)) (fm:pF (iO D) N (eo D' rs) 32 N' fr'=true) (hD:GX (eo D' rs)=iO D') (e: ∀g,Vh A W fr fr' D D' N rs .fin g=tX (eo D' rs) 32 W.ks fr'):
  Do A (ad X W fr D N) (Exit.then (ad X W fr' D' N') Q):=K7 ok rs fm hD .fin e Ca
theorem ah (ok:Ok X W) (rs:List (Nat×Nat×Own)) (fm:pF (iO D) N (eo D' rs) 32 N' fr'=true) (hD:GX (eo D' rs)=iO D') (o:bW) (q:Prop→Prop) (hq: ∀K,K→q K) (e: ∀g,Vh A W fr fr' D D' N rs o g=q (tX (eo D' rs) 32 W.ks fr')):
  Do A (ad X W fr D N) (Exit.then (ad X W fr' D' N') Q):=K7 ok rs fm hD o e (hq _ Ca)
end
def Bt.s0 (B:Bt) (b:Bool):Bt:=⟨b,B.b1,B.b2,B.b3⟩
def Bt.s1 (B:Bt) (b:Bool):Bt:=⟨B.b0,b,B.b2,B.b3⟩
def Bt.s2 (B:Bt) (b:Bool):Bt:=⟨B.b0,B.b1,b,B.b3⟩
def Bt.s3 (B:Bt) (b:Bool):Bt:=⟨B.b0,B.b1,B.b2,b⟩
def V.l (v:V) (a b:Nat):V:=⟨v.k0,v.k1,a,b,v.y0,v.y1,v.x0,v.x1⟩
def V.a0 (v:V) (a b:Nat) (l:List Nat):V:=⟨v.k0,v.k1,Nat.add a 14,b,v.y0,v.y1,cat a v.x0 l,v.x1⟩
def V.a1 (v:V) (a b:Nat) (l:List Nat):V:=⟨v.k0,v.k1,a,Nat.add b 14,v.y0,v.y1,v.x0,cat b v.x1 l⟩
def V.k (v:V) (a b:Nat):V:=⟨a,b,v.L0,v.L1,v.y0,v.y1,v.x0,v.x1⟩
def V.r0 (v:V) (a b:Nat) (l:List Nat):V:=⟨a,b,v.L0,v.L1,sf l,v.y1,v.x0,v.x1⟩
def V.r1 (v:V) (a b:Nat) (l:List Nat):V:=⟨a,b,v.L0,v.L1,v.y0,sf l,v.x0,v.x1⟩
def tl (z:Nat):List Nat:=[0,12,0,0,0,0,0,0,0,0,0,0,1,z]
def e1 (n:Nat):bW:=(.tell 46 (.bool true) (.agn 2 (.agn 9 (.tell 111 (tI .i64 n) (.agn 0 (.tell 15 (.bool true) (.tell 457 (.bool true) (.tell 815 (.bool true) (.tell 589 (.bool true) (.tell 469 (.bool true) .fin))))))))))
abbrev q1 (n:Nat) (K:Prop):Prop:=qB .i64 .i64 .geq n 0 (.bool true)∧true=true∧true=true∧true=aP (eC (Int.ofNat (n)) (Int.ofNat 0))∧qI n∧true=true∧true=true∧true=true∧qI 0∧qI n∧qI 0∧qM .i64 n 19999 n∧Int.ofNat (n)=mu (Int.ofNat (n)) (Int.ofNat 19999)∧qI 19999∧qI n∧qB .i64 .i64 .lss 0 n (.bool true)∧qB .i64 .i64 .lss 1 n (.bool true)∧qB .i64 .i64 .lss 2 n (.bool true)∧qB .i64 .i64 .lss 3 n (.bool true)∧qB .i64 .i64 .lss 4 n (.bool true)∧K
theorem hZ {n:Nat} (h1:5≤n) (h2:n≤6) (K:Prop) (k:K):q1 n K:=by
 have q0:qB .i64 .i64 .geq n 0 (.bool true):=kL (by omega)
 have q1:true=aP (eC (Int.ofNat (n)) (Int.ofNat 0)):=(congrArg aP (cH (by omega))).symm
 have q2:qM .i64 n 19999 n:=B9 (by omega)
 have q3:qB .i64 .i64 .lss 0 n (.bool true):=cJ (by omega)
 have q4:qB .i64 .i64 .lss 1 n (.bool true):=cJ (by omega)
 have q5:qB .i64 .i64 .lss 2 n (.bool true):=cJ (by omega)
 have q6:qB .i64 .i64 .lss 3 n (.bool true):=cJ (by omega)
 have q7:qB .i64 .i64 .lss 4 n (.bool true):=cJ (by omega)
 exact ⟨q0,rfl,rfl,q1,rfl,rfl,rfl,rfl,rfl,rfl,rfl,q2,BV q2 rfl,rfl,rfl,q3,q4,q5,q6,q7,k⟩
def e2 (n:Nat):bW:=(.tell 46 (.bool true) (.agn 2 (.agn 9 (.tell 111 (tI .i64 n) (.agn 0 (.tell 15 (.bool true) (.tell 815 (.bool true) (.tell 589 (.bool true) (.tell 469 (.bool true) .fin)))))))))
abbrev q2 (n:Nat) (K:Prop):Prop:=qB .i64 .i64 .geq n 0 (.bool true)∧true=true∧true=true∧true=aP (eC (Int.ofNat (n)) (Int.ofNat 0))∧qI n∧true=true∧true=true∧true=true∧qI 0∧qI n∧qI 0∧qM .i64 n 19998 n∧Int.ofNat (n)=mu (Int.ofNat (n)) (Int.ofNat 19998)∧qI 19998∧qI n∧qB .i64 .i64 .lss 0 n (.bool true)∧qB .i64 .i64 .lss 1 n (.bool true)∧qB .i64 .i64 .lss 2 n (.bool true)∧qB .i64 .i64 .lss 3 n (.bool true)∧K
theorem h_ {n:Nat} (h1:4≤n) (h2:n≤6) (K:Prop) (k:K):q2 n K:=by
 have q0:qB .i64 .i64 .geq n 0 (.bool true):=kL (by omega)
 have q1:true=aP (eC (Int.ofNat (n)) (Int.ofNat 0)):=(congrArg aP (cH (by omega))).symm
 have q2:qM .i64 n 19998 n:=B9 (by omega)
 have q3:qB .i64 .i64 .lss 0 n (.bool true):=cJ (by omega)
 have q4:qB .i64 .i64 .lss 1 n (.bool true):=cJ (by omega)
 have q5:qB .i64 .i64 .lss 2 n (.bool true):=cJ (by omega)
 have q6:qB .i64 .i64 .lss 3 n (.bool true):=cJ (by omega)
 exact ⟨q0,rfl,rfl,q1,rfl,rfl,rfl,rfl,rfl,rfl,rfl,q2,BV q2 rfl,rfl,rfl,q3,q4,q5,q6,k⟩
def e3 (n:Nat):bW:=(.tell 46 (.bool true) (.agn 2 (.agn 9 (.tell 111 (tI .i64 n) (.agn 0 (.tell 15 (.bool true) (.tell 589 (.bool true) (.tell 469 (.bool true) .fin))))))))
abbrev q3 (n:Nat) (K:Prop):Prop:=qB .i64 .i64 .geq n 0 (.bool true)∧true=true∧true=true∧true=aP (eC (Int.ofNat (n)) (Int.ofNat 0))∧qI n∧true=true∧true=true∧true=true∧qI 0∧qI n∧qI 0∧qM .i64 n 19997 n∧Int.ofNat (n)=mu (Int.ofNat (n)) (Int.ofNat 19997)∧qI 19997∧qI n∧qB .i64 .i64 .lss 0 n (.bool true)∧qB .i64 .i64 .lss 1 n (.bool true)∧qB .i64 .i64 .lss 2 n (.bool true)∧K
theorem ic {n:Nat} (h1:3≤n) (h2:n≤6) (K:Prop) (k:K):q3 n K:=by
 have q0:qB .i64 .i64 .geq n 0 (.bool true):=kL (by omega)
 have q1:true=aP (eC (Int.ofNat (n)) (Int.ofNat 0)):=(congrArg aP (cH (by omega))).symm
 have q2:qM .i64 n 19997 n:=B9 (by omega)
 have q3:qB .i64 .i64 .lss 0 n (.bool true):=cJ (by omega)
 have q4:qB .i64 .i64 .lss 1 n (.bool true):=cJ (by omega)
 have q5:qB .i64 .i64 .lss 2 n (.bool true):=cJ (by omega)
 exact ⟨q0,rfl,rfl,q1,rfl,rfl,rfl,rfl,rfl,rfl,rfl,q2,BV q2 rfl,rfl,rfl,q3,q4,q5,k⟩
def e4 (n:Nat):bW:=(.tell 46 (.bool true) (.agn 2 (.agn 9 (.tell 111 (tI .i64 n) (.agn 0 (.tell 15 (.bool true) (.tell 469 (.bool true) .fin)))))))
abbrev q4 (n:Nat) (K:Prop):Prop:=qB .i64 .i64 .geq n 0 (.bool true)∧true=true∧true=true∧true=aP (eC (Int.ofNat (n)) (Int.ofNat 0))∧qI n∧true=true∧true=true∧true=true∧qI 0∧qI n∧qI 0∧qM .i64 n 19996 n∧Int.ofNat (n)=mu (Int.ofNat (n)) (Int.ofNat 19996)∧qI 19996∧qI n∧qB .i64 .i64 .lss 0 n (.bool true)∧qB .i64 .i64 .lss 1 n (.bool true)∧K
theorem ie {n:Nat} (h1:2≤n) (h2:n≤6) (K:Prop) (k:K):q4 n K:=by
 have q0:qB .i64 .i64 .geq n 0 (.bool true):=kL (by omega)
 have q1:true=aP (eC (Int.ofNat (n)) (Int.ofNat 0)):=(congrArg aP (cH (by omega))).symm
 have q2:qM .i64 n 19996 n:=B9 (by omega)
 have q3:qB .i64 .i64 .lss 0 n (.bool true):=cJ (by omega)
 have q4:qB .i64 .i64 .lss 1 n (.bool true):=cJ (by omega)
 exact ⟨q0,rfl,rfl,q1,rfl,rfl,rfl,rfl,rfl,rfl,rfl,q2,BV q2 rfl,rfl,rfl,q3,q4,k⟩
def e5 (n:Nat):bW:=(.tell 46 (.bool true) (.agn 2 (.agn 9 (.tell 111 (tI .i64 n) (.agn 0 (.tell 15 (.bool true) .fin))))))
abbrev q5 (n:Nat) (K:Prop):Prop:=qB .i64 .i64 .geq n 0 (.bool true)∧true=true∧true=true∧true=aP (eC (Int.ofNat (n)) (Int.ofNat 0))∧qI n∧true=true∧true=true∧true=true∧qI 0∧qI n∧qI 0∧qM .i64 n 19995 n∧Int.ofNat (n)=mu (Int.ofNat (n)) (Int.ofNat 19995)∧qI 19995∧qI n∧qB .i64 .i64 .lss 0 n (.bool true)∧K
theorem ig {n:Nat} (h1:1≤n) (h2:n≤6) (K:Prop) (k:K):q5 n K:=by
 have q0:qB .i64 .i64 .geq n 0 (.bool true):=kL (by omega)
 have q1:true=aP (eC (Int.ofNat (n)) (Int.ofNat 0)):=(congrArg aP (cH (by omega))).symm
 have q2:qM .i64 n 19995 n:=B9 (by omega)
 have q3:qB .i64 .i64 .lss 0 n (.bool true):=cJ (by omega)
 exact ⟨q0,rfl,rfl,q1,rfl,rfl,rfl,rfl,rfl,rfl,rfl,q2,BV q2 rfl,rfl,rfl,q3,k⟩
end Go.Proofs.YtfcljjhlijolgaaGreatDoor.serverQueue
end
