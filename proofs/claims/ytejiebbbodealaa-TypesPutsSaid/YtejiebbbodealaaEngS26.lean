/- The engine, part 26: evaluation that is told what it does not know, and comes to what must be shown. -/
import Derived.Test.YtejiebbbodealaaEngS25
set_option linter.unusedVariables false
set_option linter.unusedSimpArgs false
namespace Eng
open Go Go.RowKit
structure Ev where
  v : AV
  t : T
  h : Hp
inductive Orc where
  | fin
  | tell (n : Nat) (x : AV) (r : Orc)
  | fork (n : Nat) (a b : Orc)
  | eff (n : Nat) (x : AV) (h : Hp) (r : Orc)
  | lp (n : Nat) (s : RS) (r : Orc)
  | again (n : Nat) (r : Orc)
  | goal (n : Nat) (r : Orc)
  | effx (n : Nat) (x : Ev → AV) (r : Ev → Orc)
  | lpx (n : Nat) (s : Ev → RS) (r : Ev → Orc)
  | ell (n : Nat) (m : MK) (x : Blk) (r : Orc)
  deriving Inhabited
noncomputable section
def Orc.n (o : Orc) : Nat := Orc.rec (motive := fun _ => Nat) 0 (fun n _ _ _ => n) (fun n _ _ _ _ => n) (fun n _ _ _ _ => n) (fun n _ _ _ => n) (fun n _ _ => n) (fun n _ _ => n) (fun n _ _ _ => n) (fun n _ _ _ => n) (fun n _ _ _ _ => n) o
def Orc.cs {β : Type} (o : Orc) (fin : β) (tell : AV → Orc → β) (fork : Orc → Orc → β) (eff : AV → Hp → Orc → β) (lp : RS → Orc → β) (again : Orc → β) (goal : Orc → β) (effx : (Ev → AV) → (Ev → Orc) → β) (lpx : (Ev → RS) → (Ev → Orc) → β) (ell : MK → Blk → Orc → β) : β :=
  Orc.rec (motive := fun _ => β) fin (fun _ x r _ => tell x r) (fun _ a b _ _ => fork a b) (fun _ x h r _ => eff x h r) (fun _ s r _ => lp s r) (fun _ r _ => again r) (fun _ r _ => goal r) (fun _ x r _ => effx x r) (fun _ s r _ => lpx s r) (fun _ m x r _ => ell m x r) o
abbrev KV := AV → Nat → Orc → Prop
abbrev KR := AV → Hp → Nat → Orc → Prop
abbrev KT := T → Hp → Nat → Orc → Prop
abbrev KS := RS → Nat → Orc → Prop
abbrev CallW := Nat → List AV → Hp → Nat → Orc → KR → Prop
abbrev CodeW := T → Hp → Nat → Orc → KS → Prop
def step (c : Nat) (r : Orc) (now : Prop) (go : Nat → Orc → Prop) : Prop := Nat.rec (motive := fun _ => Prop) now (fun m _ => go m r) c
def qW (o : QOp) (t : T) (h : Hp) (c : Nat) (r : Orc) (k : KV) : Prop :=
  step c r
    (r.cs ((evQ o t h).cs False fun v => k v 0 .fin)
      (fun x r => evQ o t h = .ok x ∧ k x r.n r)
      (fun a b => (evQ o t h).cs False fun v => (avB v).cs False fun b' => (b' = true → k (.bool true) a.n a) ∧ (b' = false → k (.bool false) b.n b))
      (fun _ _ _ => False) (fun _ _ => False) (fun _ => False)
      (fun r => (evQ o t h).cs False fun v => (avB v).cs False fun b' => b' = true ∧ k (.bool true) r.n r) (fun _ _ => False) (fun _ _ => False) (fun _ _ _ => False))
    (fun c r => (evQ o t h).cs False fun v => k v c r)
def goE (callW : CallW) (o : EOp) (t : T) (h : Hp) (k : KR) (c : Nat) (r : Orc) : Prop :=
  EOp.rec (motive := fun _ => Prop) (fun n a x => (oStore n a x t h).cs False fun v h => k v h c r) (fun s m kk v => (oMapUpdate s m kk v t h).cs False fun v h => k v h c r)
      (fun sz bytes s x => (oAppend sz bytes s x t h).cs False fun v h => k v h c r) (fun sz bytes z s n => (oAppendZ sz bytes z s n t h).cs False fun v h => k v h c r) (fun sz d s => (oCopy sz d s t h).cs False fun v h => k v h c r)
      (fun s m kk => (oDelete s m kk t h).cs False fun v h => k v h c r) (fun z x => (oClear z x t h).cs False fun v h => k v h c r) (fun x => (oMark x t h).cs False fun v h => k v h c r)
      (fun f xs => (evX f t).asFunc False fun g a b => callW g (app a (app (evXs xs t) b)) h c r k) o
def eW (call : CallT) (callW : CallW) (o : EOp) (t : T) (h : Hp) (c : Nat) (r : Orc) (k : KR) : Prop :=
  step c r
    (r.cs (goE callW o t h k 0 .fin) (fun _ _ => False) (fun _ _ => False) (fun x h' r => evE o call t h = .ok x h' ∧ k x h' r.n r) (fun _ _ => False) (fun _ => False) (fun _ => False)
      (fun x r => ∃ e : Ev, evE o call t h = .ok (x e) e.h ∧ k (x e) e.h (r e).n (r e)) (fun _ _ => False) (fun _ _ _ => False))
    (goE callW o t h k)
abbrev KL := MK → Blk → Nat → Orc → Prop
def lW (o : LOp) (t : T) (c : Nat) (r : Orc) (k : KL) : Prop :=
  step c r
    (r.cs ((evL o t).cs False fun m x => k m x 0 .fin) (fun _ _ => False) (fun _ _ => False) (fun _ _ _ => False) (fun _ _ => False) (fun _ => False) (fun _ => False) (fun _ _ => False) (fun _ _ => False)
      (fun m x r => evL o t = .ok m x ∧ k m x r.n r))
    (fun c r => (evL o t).cs False fun m x => k m x c r)
def runW (call : CallT) (callW : CallW) (op : AOp) (d : Option Nat) (t : T) (h : Hp) (c : Nat) (r : Orc) (k : KT) : Prop := op.cs
  (fun o => qW o t h c r fun v c r => k (putT d v t) h c r)
  (fun o => lW o t c r fun m x c r => k (putT d (mkAt m h.next) t) (hpush h x) c r)
  (fun o => eW call callW o t h c r fun v h c r => k (putT d v t) h c r)
def oW (call : CallT) (callW : CallW) (o : AO) (t : T) (h : Hp) (c : Nat) (r : Orc) (k : KT) : Prop :=
  ocase (runW call callW o.op o.dst t h c r k) (fun _ => bc (wanted o.guard t) (runW call callW o.op o.dst t h c r k) (k (putT o.dst undef t) h c r)) o.guard
def osW (call : CallT) (callW : CallW) (os : List AO) : T → Hp → Nat → Orc → KT → Prop :=
  lrec (fun t h c r k => k t h c r) (fun o _ ih t h c r k => oW call callW o t h c r fun t h c r => ih t h c r k) os
abbrev KP := T → Hp → List PD → Nat → Orc → Prop
def stageW (o : AO) (hi : Nat) (t : T) (h : Hp) (ps : List PD) (c : Nat) (r : Orc) (k : KP) : Prop :=
  bc (wanted o.guard t) (o.op.cs
    (fun q => qW q t h c r fun v c r => k (putT o.dst v t) h (⟨q, t, v, hi⟩ :: ps) c r)
    (fun l => lW l t c r fun m x c r => k (putT o.dst (mkAt m h.next) t) (hpush h x) ps c r)
    (fun _ => False)) (k (putT o.dst undef t) h ps c r)
def stagesW (os : List (AO × Nat)) : T → Hp → List PD → Nat → Orc → KP → Prop :=
  lrec (fun t h ps c r k => k t h ps c r) (fun o _ ih t h ps c r k => stageW o.1 o.2 t h ps c r fun t h ps c r => ih t h ps c r k) os
def againW (ps : List PD) (n : Nat) (h : Hp) : Prop := lrec True (fun p _ ih => bc (Nat.blt p.hi n) ih (again p.o p.t p.v h = true ∧ ih)) ps
def dsW (call : CallT) (callW : CallW) (l : List DS) : Nat → T → Hp → List PD → Nat → Orc → KT → Prop :=
  lrec (fun _ _ _ _ _ _ _ => False) (fun s _ ih n t h ps c r k => stagesW s.os t h ps c r fun t h ps c r =>
    step c r
      (r.cs (bc (readAgain ps n h) (ocase (k t h 0 .fin) (fun e => oW call callW e t h 0 .fin fun t h c r => ih (Nat.succ n) t h ps c r k) s.e) False) (fun _ _ => False) (fun _ _ => False) (fun _ _ _ => False) (fun _ _ => False)
        (fun r => againW ps n h ∧ ocase (k t h r.n r) (fun e => oW call callW e t h r.n r fun t h c r => ih (Nat.succ n) t h ps c r k) s.e) (fun _ => False) (fun _ _ => False) (fun _ _ => False) (fun _ _ _ => False))
      (fun c r => bc (readAgain ps n h) (ocase (k t h c r) (fun e => oW call callW e t h c r fun t h c r => ih (Nat.succ n) t h ps c r k) s.e) False)) l
def goL (f : CodeW) (N : Nat) (k : KS) (t : T) (h : Hp) (c : Nat) (r : Orc) : Prop :=
  Nat.rec (motive := fun _ => T → Hp → Nat → Orc → Prop) (fun _ _ _ _ => False)
        (fun _ ih t h c r => f t h c r fun s c r => s.cs False (fun t h => ih t h c r) (fun i t h => k (.exit i t h) c r) (fun t h => k (.ret t h) c r)) N t h c r
def cW (call : CallT) (callW : CallW) (N : Nat) (c : AC) : CodeW :=
  AC.rec (motive := fun _ => CodeW)
    (fun t h c r k => k (.nor t h) c r)
    (fun os t h c r k => osW call callW os t h c r fun t h c r => k (.nor t h) c r)
    (fun l t h c r k => dsW call callW l 0 t h [] c r fun t h c r => k (.nor t h) c r)
    (fun _ _ f g t h c r k => f t h c r fun s c r => s.cs False (fun t h => g t h c r k) (fun i t h => k (.exit i t h) c r) (fun t h => k (.ret t h) c r))
    (fun x _ _ f g t h c r k => (evX x t).asBool False fun b => bc b (f t h c r k) (g t h c r k))
    (fun i _ f t h c r k => f t h c r fun s c r => s.cs False (fun t h => k (.nor t h) c r) (fun j t h => bc (Nat.beq j i) (k (.nor t h) c r) (k (.exit j t h) c r)) (fun t h => k (.ret t h) c r))
    (fun body f t h c r k =>
      step c r (r.cs (goL f N k t h 0 .fin) (fun _ _ => False) (fun _ _ => False) (fun _ _ _ => False) (fun s r => evC call N (.loop body) t h = s ∧ s.cs False (fun _ _ => True) (fun _ _ _ => True) (fun _ _ => True) ∧ k s r.n r) (fun _ => False) (fun _ => False) (fun _ _ => False)
        (fun s r => ∃ e : Ev, evC call N (.loop body) t h = s e ∧ (s e).cs False (fun _ _ => True) (fun _ _ _ => True) (fun _ _ => True) ∧ k (s e) (r e).n (r e)) (fun _ _ _ => False)) (goL f N k t h))
    (fun i t h c r k => k (.exit i t h) c r)
    (fun t h c r k => k (.ret t h) c r)
    (fun _ _ _ _ _ _ => False) c
def resW (rs : List ARes) (t : T) (h : Hp) (c : Nat) (r : Orc) (k : KR) : Prop := (results rs t h).cs False fun v h => k v h c r
def f1W (S : Nat → Option AF) (N : Nat) (call : CallT) (callW : CallW) (f : Nat) (args : List AV) (h : Hp) (c : Nat) (r : Orc) (k : KR) : Prop :=
  ocase False (fun fn => bc (Nat.ble (len args) fn.ntmps) (cW call callW N fn.body (frame0 args) h c r fun s c r => s.cs False (fun t h => resW fn.results t h c r k) (fun _ _ _ => False) (fun t h => resW fn.results t h c r k)) False) (S f)
def evFW (M : Nat → Option (List AV → Hp → RV)) (S : Nat → Option AF) (N : Nat) (d : Nat) : CallW :=
  Nat.rec (motive := fun _ => CallW) (fun _ _ _ _ _ _ => False) (fun d' ih f args h c r k =>
    ocase (f1W S N (evF M S N d') ih f args h c r k) (fun m => (m args h).cs False fun v h => k v h c r) (M f)) d
end
end Eng
