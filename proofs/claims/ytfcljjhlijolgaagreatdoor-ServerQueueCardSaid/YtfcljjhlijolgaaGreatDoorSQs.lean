import Derived.Test.YtfcljjhlijolgaaGreatDoorSQB
namespace Go.Proofs.YtfcljjhlijolgaaGreatDoor.serverQueue
open Go.ChangeShapes Go.WideShapes Go.ChangeAt Go.RowKit
open Go.ChangeMaps (open_string shut_string)
open Eng
set_option linter.unusedVariables false
set_option linter.unusedSimpArgs false
theorem ML {vw vf s:AV} {h:Hp} {i m:Nat} (hm:m≤4) (hl:aq (.lenL (.const vw)) .lf H0= .ok (vi m)) (hi:i < m) (g:T): ∃s1,ct CL 100000 MH (iR [(0,vw),(1,vf),(5,s),(6,vi i)] g) h=s1∧dH (qK [(0,vw),(1,vf),(5,s),(6,vi i)]) (fun sl h1=>sl=lmap (fun p=>some p.2) [(0,vw),(1,vf),(5,s),(6,vi i)]∧h1=h) (fun _ _ _=>False) (fun _ _=>False) s1:=by
 have q0:aq (.lenL (.const vw)) .lf H0= .ok (vi (m)):=hl
 have q1:qB .i64 .i64 .lss i m (.bool true):=cJ (by omega)
 exact aA a_ (.tell 2 (tI .i64 m) (.tell 0 (.bool true) .fin)) (p:=aq (.lenL (.const vw)) .lf H0= .ok (vi (m))∧qB .i64 .i64 .lss i m (.bool true)∧(lmap (fun (p:Nat×AV)=>some p.2) [(0,vw),(1,vf),(5,s),(6,vi i)] =lmap (fun (p:Nat×AV)=>some p.2) [(0,vw),(1,vf),(5,s),(6,vi i)]∧(h:Hp)=h)) (by kernel_rfl) ⟨q0,q1,⟨rfl,rfl⟩⟩
theorem G4 {vw vf s:AV} {h:Hp} {m:Nat} (hl:aq (.lenL (.const vw)) .lf H0= .ok (vi m)) (g:T): ∃s1,ct CL 100000 MH (iR [(0,vw),(1,vf),(5,s),(6,vi m)] g) h=s1∧dH (qK [(0,vw),(1,vf),(5,s),(6,vi m)]) (fun _ _=>False) (fun j sl h1=>j=0∧sl=lmap (fun p=>some p.2) [(0,vw),(1,vf),(5,s),(6,vi m)]∧h1=h) (fun _ _=>False) s1:=by
 have q0:aq (.lenL (.const vw)) .lf H0= .ok (vi (m)):=hl
 have q1:qB .i64 .i64 .lss m m (.bool false):=BS (by omega)
 exact aA a_ (.tell 2 (tI .i64 m) (.tell 0 (.bool false) .fin)) (p:=aq (.lenL (.const vw)) .lf H0= .ok (vi (m))∧qB .i64 .i64 .lss m m (.bool false)∧(0=0∧(lmap (fun (p:Nat×AV)=>some p.2) [(0,vw),(1,vf),(5,s),(6,vi m)] =lmap (fun (p:Nat×AV)=>some p.2) [(0,vw),(1,vf),(5,s),(6,vi m)]∧(h:Hp)=h))) (by kernel_rfl) ⟨q0,q1,⟨rfl,rfl,rfl⟩⟩
theorem r6 {vw vf s:AV} {h:Hp} (g:T): ∃s1,ct CL 100000 A6 (iR [(0,vw),(1,vf),(5,s)] g) h=s1∧dH (qK [(0,vw),(1,vf),(5,s),(6,vi 0)]) (fun sl h1=>sl=lmap (fun p=>some p.2) [(0,vw),(1,vf),(5,s),(6,vi 0)]∧h1=h) (fun _ _ _=>False) (fun _ _=>False) s1:=by
 skip
 exact aA a_ .fin (p:=(lmap (fun (p:Nat×AV)=>some p.2) [(0,vw),(1,vf),(5,s),(6,vi 0)] =lmap (fun (p:Nat×AV)=>some p.2) [(0,vw),(1,vf),(5,s),(6,vi 0)]∧(h:Hp)=h)) (by kernel_rfl) ⟨rfl,rfl⟩
theorem Wg {vw vf s:AV} {h:Hp} {i:Nat} (hi:i < 100) (g:T): ∃s1,ct CL 100000 V2 (iR [(0,vw),(1,vf),(5,s),(6,vi i)] g) h=s1∧dH (qK [(0,vw),(1,vf),(5,s),(6,vi (i+1))]) (fun sl h1=>sl=lmap (fun p=>some p.2) [(0,vw),(1,vf),(5,s),(6,vi (i+1))]∧h1=h) (fun _ _ _=>False) (fun _ _=>False) s1:=by
 have q0:qN .i64 .i64 .add i 1 (i+1):=BU (by omega) (show i+1=(i+1) by omega)
 exact aA a_ (.tell 1 (tI .i64 (i+1)) .fin) (p:=qN .i64 .i64 .add i 1 (i+1)∧(lmap (fun (p:Nat×AV)=>some p.2) [(0,vw),(1,vf),(5,s),(6,vi (i+1))] =lmap (fun (p:Nat×AV)=>some p.2) [(0,vw),(1,vf),(5,s),(6,vi (i+1))]∧(h:Hp)=h)) (by kernel_rfl) ⟨q0,⟨rfl,rfl⟩⟩
theorem r9 {vw vf s:AV} {h:Hp} (g:T): ∃s1,ct CL 100000 A9 (iR [(0,vw),(1,vf),(5,s)] g) h=s1∧dH (qK [(0,vw),(1,vf),(5,s),(9,vi 0)]) (fun sl h1=>sl=lmap (fun p=>some p.2) [(0,vw),(1,vf),(5,s),(9,vi 0)]∧h1=h) (fun _ _ _=>False) (fun _ _=>False) s1:=by
 skip
 exact aA a_ .fin (p:=(lmap (fun (p:Nat×AV)=>some p.2) [(0,vw),(1,vf),(5,s),(9,vi 0)] =lmap (fun (p:Nat×AV)=>some p.2) [(0,vw),(1,vf),(5,s),(9,vi 0)]∧(h:Hp)=h)) (by kernel_rfl) ⟨rfl,rfl⟩
theorem MN {vw vf s:AV} {h:Hp} {i:Nat} (hi:i < 60) (g:T): ∃s1,ct CL 100000 MI (iR [(0,vw),(1,vf),(5,s),(9,vi i)] g) h=s1∧dH (qK [(0,vw),(1,vf),(5,s),(9,vi i)]) (fun sl h1=>sl=lmap (fun p=>some p.2) [(0,vw),(1,vf),(5,s),(9,vi i)]∧h1=h) (fun _ _ _=>False) (fun _ _=>False) s1:=by
 have q0:qB .i64 .i64 .lss i 60 (.bool true):=cJ (by omega)
 exact aA a_ (.tell 1 (.bool true) .fin) (p:=qB .i64 .i64 .lss i 60 (.bool true)∧(lmap (fun (p:Nat×AV)=>some p.2) [(0,vw),(1,vf),(5,s),(9,vi i)] =lmap (fun (p:Nat×AV)=>some p.2) [(0,vw),(1,vf),(5,s),(9,vi i)]∧(h:Hp)=h)) (by kernel_rfl) ⟨q0,⟨rfl,rfl⟩⟩
theorem G5 {vw vf s:AV} {h:Hp} (g:T): ∃s1,ct CL 100000 MI (iR [(0,vw),(1,vf),(5,s),(9,vi 60)] g) h=s1∧dH (qK [(0,vw),(1,vf),(5,s),(9,vi 60)]) (fun _ _=>False) (fun j sl h1=>j=2∧sl=lmap (fun p=>some p.2) [(0,vw),(1,vf),(5,s),(9,vi 60)]∧h1=h) (fun _ _=>False) s1:=by
 skip
 exact aA a_ .fin (p:=(2=2∧(lmap (fun (p:Nat×AV)=>some p.2) [(0,vw),(1,vf),(5,s),(9,vi 60)] =lmap (fun (p:Nat×AV)=>some p.2) [(0,vw),(1,vf),(5,s),(9,vi 60)]∧(h:Hp)=h))) (by kernel_rfl) ⟨rfl,rfl,rfl⟩
theorem Wh {vw vf s:AV} {h:Hp} {i:Nat} (g:T): ∃s1,ct CL 100000 Vf (iR [(0,vw),(1,vf),(5,s),(9,vi i)] g) h=s1∧dH (qK [(0,vw),(1,vf),(5,s),(9,vi i),(10,vi 2)]) (fun sl h1=>sl=lmap (fun p=>some p.2) [(0,vw),(1,vf),(5,s),(9,vi i),(10,vi 2)]∧h1=h) (fun _ _ _=>False) (fun _ _=>False) s1:=by
 skip
 exact aA a_ .fin (p:=(lmap (fun (p:Nat×AV)=>some p.2) [(0,vw),(1,vf),(5,s),(9,vi i),(10,vi 2)] =lmap (fun (p:Nat×AV)=>some p.2) [(0,vw),(1,vf),(5,s),(9,vi i),(10,vi 2)]∧(h:Hp)=h)) (by kernel_rfl) ⟨rfl,rfl⟩
theorem Wi {vw vf s:AV} {h:Hp} {i:Nat} (hi:i < 100) (g:T): ∃s1,ct CL 100000 V3 (iR [(0,vw),(1,vf),(5,s),(9,vi i)] g) h=s1∧dH (qK [(0,vw),(1,vf),(5,s),(9,vi (i+1))]) (fun sl h1=>sl=lmap (fun p=>some p.2) [(0,vw),(1,vf),(5,s),(9,vi (i+1))]∧h1=h) (fun _ _ _=>False) (fun _ _=>False) s1:=by
 have q0:qN .i64 .i64 .add i 1 (i+1):=BU (by omega) (show i+1=(i+1) by omega)
 exact aA a_ (.tell 1 (tI .i64 (i+1)) .fin) (p:=qN .i64 .i64 .add i 1 (i+1)∧(lmap (fun (p:Nat×AV)=>some p.2) [(0,vw),(1,vf),(5,s),(9,vi (i+1))] =lmap (fun (p:Nat×AV)=>some p.2) [(0,vw),(1,vf),(5,s),(9,vi (i+1))]∧(h:Hp)=h)) (by kernel_rfl) ⟨q0,⟨rfl,rfl⟩⟩
theorem MO {vw vf s:AV} {h:Hp} {i L:Nat} (hl:aq (.lenL (.const vf)) .lf H0= .ok (vi L)) (hi:L≤i) (g:T): ∃s1,ct CL 100000 Th (iR [(0,vw),(1,vf),(5,s),(9,vi i),(10,vi 2)] g) h=s1∧dH (qK [(0,vw),(1,vf),(5,s),(9,vi i),(10,vi 2)]) (fun sl h1=>sl=lmap (fun p=>some p.2) [(0,vw),(1,vf),(5,s),(9,vi i),(10,vi 2)]∧h1=h) (fun _ _ _=>False) (fun _ _=>False) s1:=by
 have q0:aq (.lenL (.const vf)) .lf H0= .ok (vi (L)):=hl
 have q1:qB .i64 .i64 .lss i L (.bool false):=BS (by omega)
 exact aA a_ (.tell 2 (tI .i64 L) (.tell 0 (.bool false) .fin)) (p:=aq (.lenL (.const vf)) .lf H0= .ok (vi (L))∧qB .i64 .i64 .lss i L (.bool false)∧(lmap (fun (p:Nat×AV)=>some p.2) [(0,vw),(1,vf),(5,s),(9,vi i),(10,vi 2)] =lmap (fun (p:Nat×AV)=>some p.2) [(0,vw),(1,vf),(5,s),(9,vi i),(10,vi 2)]∧(h:Hp)=h)) (by kernel_rfl) ⟨q0,q1,⟨rfl,rfl⟩⟩
theorem Tp {vw vf s:AV} {n:Nat} {oa:Option aY} {C:List AV} {k:Nat} {l r r2:Tr aY} {i L z:Nat} (hz:z < 256) (hl:aq (.lenL (.const vf)) .lf H0= .ok (vi L)) (hlt:i < L) (hi:aq (.idxAddrSl 1 (.const vf) (.const (vi i))) .lf H0= .ok (.ptr 1 i)) (hc:an C i=some (aw z)) (g:T): ∃s1,ct CL 100000 Th (iR [(0,vw),(1,vf),(5,s),(9,vi i),(10,vi 2)] g) ⟨n, .nd oa (.nd (some (.cells C k .ro)) l r) r2⟩=s1∧dH (qK [(0,vw),(1,vf),(5,s),(9,vi i),(10,vi (z % 7))]) (fun sl h1=>sl=lmap (fun p=>some p.2) [(0,vw),(1,vf),(5,s),(9,vi i),(10,vi (z % 7))]∧h1=⟨n, .nd oa (.nd (some (.cells C k .ro)) l r) r2⟩) (fun _ _ _=>False) (fun _ _=>False) s1:=by
 have q0:aq (.lenL (.const vf)) .lf H0= .ok (vi (L)):=hl
 have q1:qB .i64 .i64 .lss i L (.bool true):=cJ (by omega)
 have q2:qN .u8 .u8 .rem z 7 (z % 7):=OU rfl (by omega) (show z % 7=(z % 7) by omega)
 have q3:qC .i64 .u8 (z % 7) (z % 7):=GW (by omega)
 exact aA a_ (.tell 2 (tI .i64 L) (.tell 0 (.bool true) (.tell 2 (.ptr 1 (i)) (.agn 0 (.tell 0 (.int .u8 (Int.ofNat (z))) (.tell 0 (tI .u8 (z % 7)) (.tell 0 (tI .i64 (z % 7)) .fin))))))) (p:=aq (.lenL (.const vf)) .lf H0= .ok (vi (L))∧qB .i64 .i64 .lss i L (.bool true)∧aq (.idxAddrSl 1 (.const vf) (.const (vi (i)))) .lf H0= .ok (.ptr 1 (i))∧an C i=some (.int .u8 (Int.ofNat (z)))∧qN .u8 .u8 .rem z 7 (z % 7)∧qC .i64 .u8 (z % 7) (z % 7)∧(lmap (fun (p:Nat×AV)=>some p.2) [(0,vw),(1,vf),(5,s),(9,vi i),(10,vi (z % 7))] =lmap (fun (p:Nat×AV)=>some p.2) [(0,vw),(1,vf),(5,s),(9,vi i),(10,vi (z % 7))]∧(⟨n, .nd oa (.nd (some (.cells C k .ro)) l r) r2⟩:Hp)=⟨n, .nd oa (.nd (some (.cells C k .ro)) l r) r2⟩)) (by kernel_rfl) ⟨q0,q1,hi,hc,q2,q3,⟨rfl,rfl⟩⟩
end Go.Proofs.YtfcljjhlijolgaaGreatDoor.serverQueue
