import Derived.Test.YtfcljjhlijolgaaGreatDoorSQD
namespace Go.Proofs.YtfcljjhlijolgaaGreatDoor.serverQueue
open Go.ChangeShapes Go.WideShapes Go.ChangeAt Go.RowKit
open Go.ChangeMaps (open_string shut_string)
open Eng
set_option linter.unusedVariables false
set_option linter.unusedSimpArgs false
noncomputable def e9 (n:Nat):bW:=(.tell 46 (.bool true) (.agn 2 (.agn 9 .fin)))
abbrev q9 (n:Nat) (K:Prop):Prop:=qB .i64 .i64 .geq n 0 (.bool true)∧true=true∧true=true∧true=aP (eC (Int.ofNat (n)) (Int.ofNat 0))∧qI n∧true=true∧true=true∧true=true∧qI 0∧qI n∧qI 0∧K
theorem Tq {n:Nat} (K:Prop) (k:K):q9 n K:=by
 have q0:qB .i64 .i64 .geq n 0 (.bool true):=kL (by omega)
 have q1:true=aP (eC (Int.ofNat (n)) (Int.ofNat 0)):=(congrArg aP (cH (by omega))).symm
 exact ⟨q0,rfl,rfl,q1,rfl,rfl,rfl,rfl,rfl,rfl,rfl,k⟩
section
variable {X:Mp×Hp×World} {W:Wd} (ok:Ok X W) {B:Bt} {v:V} {i n:Nat} {Q:QT}
include ok
theorem z0:Do ao (ad X W (f2 i n) (cr B v) 70) (Exit.then (ad X W (f9 i) (cr B v) 70) Q):=ah ok [(32,38, .solo)] (by kernel_rfl) (by kernel_rfl) (e9 n) (q9 n) Tq fun g=>by kernel_rfl
theorem z1:Do ao (ad X W (f2 i n) (cK B v) 73) (Exit.then (ad X W (f9 i) (cK B v) 73) Q):=ah ok [(32,41, .solo)] (by kernel_rfl) (by kernel_rfl) (e9 n) (q9 n) Tq fun g=>by kernel_rfl
theorem z2:Do ao (ad X W (f2 i n) (bn B v) 75) (Exit.then (ad X W (f9 i) (bn B v) 75) Q):=ah ok [(32,43, .solo)] (by kernel_rfl) (by kernel_rfl) (e9 n) (q9 n) Tq fun g=>by kernel_rfl
theorem z3:Do ao (ad X W (f2 i n) (aL B v) 77) (Exit.then (ad X W (f9 i) (aL B v) 77) Q):=ah ok [(32,45, .solo)] (by kernel_rfl) (by kernel_rfl) (e9 n) (q9 n) Tq fun g=>by kernel_rfl
theorem z4:Do ao (ad X W (f2 i n) (az B v) 79) (Exit.then (ad X W (f9 i) (az B v) 79) Q):=ah ok [(32,47, .solo)] (by kernel_rfl) (by kernel_rfl) (e9 n) (q9 n) Tq fun g=>by kernel_rfl
end
end Go.Proofs.YtfcljjhlijolgaaGreatDoor.serverQueue
