/- The engine: how abstract code is evaluated. -/
import Derived.Test.YtejiebbbodealaaEngP
set_option linter.unusedVariables false
namespace Eng
open Go
noncomputable section
def RV.then (r : RV) (k : AV → Hp → RT) : RT := r.cs .no k
def OV.then (r : OV) (k : AV → RT) : RT := r.cs .no k
def OL.then (r : OL) (k : MK → Blk → RT) : RT := r.cs .no k
def RT.then (r : RT) (k : T → Hp → RT) : RT := r.cs .no k
def RT.done (r : RT) : RS := r.cs .no .nor
def RS.then (r : RS) (k : T → Hp → RS) : RS := r.cs .no k .exit .ret
def RS.block (r : RS) (i : Nat) : RS := r.cs .no .nor (fun j t h => bc (Nat.beq j i) (.nor t h) (.exit j t h)) .ret
def eqI (x y : Int) : Bool := intCs x (fun a => intCs y (fun b => Nat.beq a b) (fun _ => false)) (fun a => intCs y (fun _ => false) (fun b => Nat.beq a b))
def ltI (x y : Int) : Bool := intCs x (fun a => intCs y (fun b => Nat.blt a b) (fun _ => false)) (fun a => intCs y (fun _ => true) (fun b => Nat.blt b a))
def notB (b : Bool) : Bool := bc b false true
def leI (x y : Int) : Bool := notB (ltI y x)
def toU (k : IntKind) (x : Int) : Nat := intCs x (fun a => Nat.mod a (modK k)) (fun a => Nat.sub (Nat.sub (modK k) 1) (Nat.mod a (modK k)))
def cut (n m : Nat) : Nat := bc (Nat.ble n m) n m
def shlA (k : IntKind) (x : Int) (n : Nat) : Int := wrapA k (Int.mul x (.ofNat (Nat.pow 2 (cut n (bitsK k)))))
def shrN (x : Int) (d : Nat) : Int := intCs x (fun a => .ofNat (Nat.div a d)) (fun a => .negSucc (Nat.div a d))
def shrA (k : IntKind) (x : Int) (n : Nat) : Int := shrN x (Nat.pow 2 (cut n (bitsK k)))
def divA (x y : Int) : Int := intCs x (fun a => intCs y (fun b => .ofNat (Nat.div a b)) (fun _ => Int.tdiv x y)) (fun _ => Int.tdiv x y)
def modA (x y : Int) : Int := intCs x (fun a => intCs y (fun b => .ofNat (Nat.mod a b)) (fun _ => Int.tmod x y)) (fun _ => Int.tmod x y)
section
variable {β : Type} (v : AV) (z : β)
def AV.asBool (k : Bool → β) : β := (avB v).cs z k
def AV.asInt (k : IntKind → Int → β) : β := (avI v).cs z k
def AV.asStr (k : List Nat → β) : β := (avL v).cs z k
def AV.asPtr (k : Nat → Nat → β) : β := (avP v).cs z z k
def AV.asSlice (nil : β) (k : Nat → Nat → Nat → Nat → Nat → Bool → β) : β := (avS v).cs z nil k
def AV.asMap (nil : β) (k : Nat → β) : β := (avM v).cs z nil k
def AV.asAgg (k : List AV → β) : β := (avA v).cs z k
def AV.asTuple (k : List AV → β) : β := (avT v).cs z k
def AV.asFunc (k : Nat → List AV → List AV → β) : β := (avF v).cs z z k z
end
def natOf {β : Type} (x : Int) (z : β) (k : Nat → β) : β := intCs x k (fun _ => z)
def cellsOf (v : AV) : List AV := v.asAgg [v] fun l => l
def Blk.asCells {β : Type} (b : Blk) (z : β) (k : List AV → Nat → Own → β) : β := b.cs k (fun _ _ _ => z) z
def Blk.asMp {β : Type} (b : Blk) (z : β) (k : List (AV × AV × Nat) → Nat → Nat → β) : β := b.cs (fun _ _ _ => z) k z
def Own.peer {β : Type} (w : Own) (ro solo : β) (k : Nat → β) : β := w.cs ro solo k
def hget (h : Hp) (b : Nat) : Option Blk := tget (pathOf b) h.t
def hset (h : Hp) (b : Nat) (x : Blk) : Hp := ⟨h.next, tset (pathOf b) x h.t⟩
def hpush (h : Hp) (x : Blk) : Hp := ⟨Nat.succ h.next, tset (pathOf h.next) x h.t⟩
def hcells {β : Type} (h : Hp) (b : Nat) (z : β) (k : List AV → Nat → Own → β) : β := ocase z (fun x => x.asCells z k) (hget h b)
def hmap {β : Type} (h : Hp) (b : Nat) (z : β) (k : List (AV × AV × Nat) → Nat → Nat → β) : β := ocase z (fun x => x.asMp z k) (hget h b)
def rd (h : Hp) (b o : Nat) : OV := hcells h b .no fun cs _ _ => ocase .no .ok (nth? cs o)
def part (cs : List AV) (len o n : Nat) : List AV := bc (Nat.beq o 0) (bc (Nat.beq n len) cs (take cs n)) (take (drop cs o) n)
def rdN {β : Type} (h : Hp) (b o n : Nat) (z : β) (k : List AV → β) : β := hcells h b z fun cs len _ => bc (Nat.ble (Nat.add o n) len) (k (part cs len o n)) z
def put (h : Hp) (b : Nat) (cs : List AV) (n : Nat) (w : Own) (v : AV) : RV :=
  w.peer .no (.ok v (hset h b (.cells cs n .solo))) fun p => .ok v (hset (hset h p .dead) b (.cells cs n .solo))
def wr1 (h : Hp) (b o : Nat) (v : AV) : RV := hcells h b .no fun cs n w => bc (Nat.blt o n) (put h b (upd v cs o) n w undef) .no
def wrN (h : Hp) (b o : Nat) (vs : List AV) (m : Nat) (v : AV) : RV := hcells h b .no fun cs n w => bc (Nat.ble (Nat.add o m) n) (put h b (over vs cs o) n w v) .no
def mkCells (cs : List AV) (n : Nat) : Blk := .cells cs n .solo
def evX (x : AX) (t : T) : AV := x.cs (fun i => ocase undef (fun v => v) (tget (pathOf i) t)) (fun v => v)
def evXs (xs : List AX) (t : T) : List AV := lmap (fun x => evX x t) xs
def evOX {β : Type} (x : Option AX) (t : T) (z : β) (k : AV → β) : β := ocase z (fun x => k (evX x t)) x
def oMove (x : AX) (t : T) (_ : Hp) : OV := .ok (evX x t)
def oPick (c a b : AX) (t : T) (_ : Hp) : OV := (evX c t).asBool .no fun c => bc c (.ok (evX a t)) (.ok (evX b t))
def fillParts (ps : List (Nat × Nat × AX)) (t : T) (size : Nat) : List AV → Option (List AV) :=
  lrec (fun cs => some cs) (fun p _ ih cs =>
    bc (Nat.beq (len (cellsOf (evX p.2.2 t))) p.2.1) (bc (Nat.ble (Nat.add p.1 p.2.1) size) (ih (over (cellsOf (evX p.2.2 t)) cs p.1)) none) none) ps
def oBuild (z : List AV) (n : Nat) (ps : List (Nat × Nat × AX)) (t : T) (_ : Hp) : OV := ocase .no (fun cs => .ok (.agg cs)) (fillParts ps t n z)
def oLoadS (a : AX) (t : T) (h : Hp) : OV := (evX a t).asPtr .no fun b o => rd h b o
def oLoadA (n : Nat) (a : AX) (t : T) (h : Hp) : OV := (evX a t).asPtr .no fun b o => rdN h b o n .no fun l => .ok (.agg l)
def oNo (_ : T) (_ : Hp) : OV := .no
def oNil (x : AX) (t : T) (_ : Hp) : OV := (avP (evX x t)).cs ((avF (evX x t)).cs .no .no (fun _ _ _ => .ok (evX x t)) .no) .no (fun _ _ => .ok (evX x t))
def okI (k : IntKind) (n : Int) : OV := .ok (.int k (wrapA k n))
def okB (b : Bool) : OV := .ok (.bool b)
def okN (n : Nat) : OV := .ok (.int .i64 (.ofNat n))
def binIK (op : BinOp) : IntKind → IntKind → Int → Int → OV := BinOp.rec (motive := fun _ => IntKind → IntKind → Int → Int → OV)
  (fun k k2 x y => bc (ikEq k k2) (okI k (Int.add x y)) .no)
  (fun k k2 x y => bc (ikEq k k2) (okI k (Int.sub x y)) .no)
  (fun k k2 x y => bc (ikEq k k2) (okI k (Int.mul x y)) .no)
  (fun k k2 x y => bc (ikEq k k2) (bc (eqI y 0) .no (okI k (divA x y))) .no)
  (fun k k2 x y => bc (ikEq k k2) (bc (eqI y 0) .no (.ok (.int k (modA x y)))) .no)
  (fun k k2 x y => bc (ikEq k k2) (okI k (.ofNat (Nat.land (toU k x) (toU k y)))) .no)
  (fun k k2 x y => bc (ikEq k k2) (okI k (.ofNat (Nat.lor (toU k x) (toU k y)))) .no)
  (fun k k2 x y => bc (ikEq k k2) (okI k (.ofNat (Nat.xor (toU k x) (toU k y)))) .no)
  (fun k _ x y => natOf y .no fun n => .ok (.int k (shlA k x n)))
  (fun k _ x y => natOf y .no fun n => .ok (.int k (shrA k x n)))
  (fun k k2 x y => bc (ikEq k k2) (okI k (.ofNat (Nat.land (toU k x) (Nat.xor (toU k y) (Nat.sub (modK k) 1))))) .no)
  (fun _ _ _ _ => .no)
  (fun _ _ _ _ => .no)
  (fun k k2 x y => bc (ikEq k k2) (okB (ltI x y)) .no)
  (fun k k2 x y => bc (ikEq k k2) (okB (leI x y)) .no)
  (fun k k2 x y => bc (ikEq k k2) (okB (ltI y x)) .no)
  (fun k k2 x y => bc (ikEq k k2) (okB (leI y x)) .no)
  op
def binStr (op : BinOp) (x y : List Nat) : OV := match op with
  | .add => bc (Nat.ble (Nat.add (len x) (len y)) 1099511627776) (.ok (.str (app x y))) .no
  | .lss => okB (strLt x y)
  | .leq => okB (bc (strLt x y) true (strEq x y))
  | .gtr => okB (notB (bc (strLt x y) true (strEq x y)))
  | .geq => okB (notB (strLt x y))
  | _ => .no
def oBin (op : BinOp) (x y : AX) (t : T) (_ : Hp) : OV := (avI (evX x t)).cs
  ((evX x t).asStr .no fun a => (evX y t).asStr .no fun b => binStr op a b)
  (fun k a => (evX y t).asInt .no fun k' b => binIK op k k' a b)
section
variable {β : Type} (x y : AV) (z : β) (k : Bool → β)
def eqPtr : β := (avP x).cs z ((avP y).cs z (k true) (fun _ _ => k false)) (fun b o => (avP y).cs z (k false) (fun b' o' => bc (Nat.beq b b') (k (Nat.beq o o')) z))
def eqSl : β := (avS x).cs z ((avS y).cs z (k true) (fun _ _ _ _ _ _ => k false)) (fun _ _ _ _ _ _ => (avS y).cs z (k false) (fun _ _ _ _ _ _ => z))
def eqMp : β := (avM x).cs z ((avM y).cs z (k true) (fun _ => k false)) (fun _ => (avM y).cs z (k false) (fun _ => z))
def eqIf : β := (avIf x).cs z ((avIf y).cs z z (fun _ _ => k false)) (fun _ _ => (avIf y).cs z (k false) (fun _ _ => z))
def eqFn : β := (avF x).cs z ((avF y).cs z (k true) (fun _ _ _ => k false) (k false)) (fun _ _ _ => (avF y).cs z (k false) (fun _ _ _ => z) z) ((avF y).cs z (k false) (fun _ _ _ => z) z)
def eqBl : β := x.asBool z fun a => y.asBool z fun b => k (bc a b (notB b))
def eqIn : β := x.asInt z fun i a => y.asInt z fun j b => bc (ikEq i j) (k (eqI a b)) z
def eqSt : β := x.asStr z fun a => y.asStr z fun b => k (strEq a b)
end
def eqAV {β : Type} (q : EqK) : AV → AV → β → (Bool → β) → β := EqK.rec (motive := fun _ => AV → AV → β → (Bool → β) → β) eqBl eqIn eqSt eqPtr eqSl eqMp eqFn eqIf q
def oEq (q : EqK) (neg : Bool) (x y : AX) (t : T) (_ : Hp) : OV := eqAV q (evX x t) (evX y t) .no fun b => okB (bc neg (notB b) b)
def eqParts {β : Type} (ks : List (Nat × EqK)) (xs ys : List AV) (z : β) (k : Bool → β) : β :=
  lrec (k true) (fun p _ ih => ocase z (fun a => ocase z (fun b => eqAV p.2 a b z fun r => bc r ih (k false)) (nth? ys p.1)) (nth? xs p.1)) ks
def oEqs (ks : List (Nat × EqK)) (neg : Bool) (x y : AX) (t : T) (_ : Hp) : OV :=
  (evX x t).asAgg .no fun xs => (evX y t).asAgg .no fun ys => eqParts ks xs ys .no fun b => okB (bc neg (notB b) b)
def oUn (op : UnOp) (x : AX) (t : T) (_ : Hp) : OV := match op with
  | .neg => (evX x t).asInt .no fun k n => okI k (Int.sub 0 n)
  | .xor => (evX x t).asInt .no fun k n => okI k (.ofNat (Nat.xor (Nat.sub (modK k) 1) (toU k n)))
  | .not => (evX x t).asBool .no fun b => okB (notB b)
  | _ => .no
def oToInt (k : IntKind) (x : AX) (t : T) (_ : Hp) : OV := (evX x t).asInt .no fun _ n => okI k n
def u8Of {β : Type} (v : AV) (z : β) (k : Nat → β) : β := v.asInt z fun i n => bc (ikEq i .u8) (natOf n z fun n => bc (Nat.blt n 256) (k n) z) z
def bytesAV (l : List AV) : Option (List Nat) :=
  lrec (some []) (fun v _ ih => u8Of v none fun n => ocase none (fun s => some (n :: s)) ih) l
def oToStr (x : AX) (t : T) (h : Hp) : OV := (evX x t).asSlice .no (.ok (.str [])) fun b o l _ s _ =>
  bc (Nat.beq s 1) (rdN h b o l .no fun cs => ocase .no (fun s => .ok (.str s)) (bytesAV cs)) .no
def oIface (ty : Nat) (x : AX) (t : T) (_ : Hp) : OV := .ok (.iface ty (evX x t))
def oFunc (fn : Fn) (a b : List AX) (t : T) (_ : Hp) : OV := .ok (.func fn (evXs a t) (evXs b t))
def bound {β : Type} (x : AV) (most : Nat) (z : β) (k : Nat → β) : β := x.asInt z fun _ i => natOf i z fun n => bc (Nat.ble n most) (k n) z
def low {β : Type} (lo : Option AX) (t : T) (z : β) (k : Nat → Nat → Nat → β) (h m : Nat) : β := evOX lo t (k 0 h m) fun v => bound v h z fun l => k l h m
def bounds {β : Type} (n c : Nat) (lo hi mx : Option AX) (t : T) (z : β) (k : Nat → Nat → Nat → β) : β :=
  ocase (evOX hi t (low lo t z k n c) fun v => bound v c z fun h => low lo t z k h c)
    (fun mx => bound (evX mx t) c z fun m => evOX hi t z fun v => bound v m z fun h => low lo t z k h m) mx
def base (o l sz : Nat) : Nat := Nat.add o (Nat.mul l sz)
def oSliceStr (x : AX) (lo hi : Option AX) (t : T) (_ : Hp) : OV := (evX x t).asStr .no fun s =>
  bounds (len s) (len s) lo hi none t .no fun l r _ => .ok (.str (drop (take s r) l))
def oSliceSl (sz : Nat) (x : AX) (lo hi mx : Option AX) (t : T) (_ : Hp) : OV :=
  (evX x t).asSlice .no (bounds 0 0 lo hi mx t .no fun _ _ _ => .ok .nilSlice) fun b o n c s e =>
    bc (Nat.beq s sz) (bounds n c lo hi mx t .no fun l r m => .ok (.slice b (base o l sz) (Nat.sub r l) (Nat.sub m l) sz (ocase e (fun _ => true) mx))) .no
def oSliceArr (sz n : Nat) (x : AX) (lo hi mx : Option AX) (t : T) (h : Hp) : OV :=
  (evX x t).asPtr .no fun b o => hcells h b .no fun _ k _ => bc (Nat.blt o k) (bc (Nat.ble (Nat.add o (Nat.mul n sz)) k)
    (bounds n n lo hi mx t .no fun l r m => .ok (.slice b (base o l sz) (Nat.sub r l) (Nat.sub m l) sz true)) .no) .no
def oFieldAddr (off : Nat) (x : AX) (t : T) (_ : Hp) : OV := (evX x t).asPtr .no fun b o => .ok (.ptr b (Nat.add o off))
def oFieldS (off : Nat) (x : AX) (t : T) (_ : Hp) : OV := (evX x t).asAgg .no fun cs => ocase .no .ok (nth? cs off)
def oFieldA (off n : Nat) (x : AX) (t : T) (_ : Hp) : OV := (evX x t).asAgg .no fun cs => bc (hasN cs (Nat.add off n)) (.ok (.agg (take (drop cs off) n))) .no
def oIdxAddrSl (sz : Nat) (x i : AX) (t : T) (_ : Hp) : OV := (evX x t).asSlice .no .no fun b o n _ s _ => (evX i t).asInt .no fun _ i =>
  natOf i .no fun i => bc (Nat.beq s sz) (bc (Nat.blt i n) (.ok (.ptr b (Nat.add o (Nat.mul i sz)))) .no) .no
def oIdxAddrArr (sz n : Nat) (x i : AX) (t : T) (_ : Hp) : OV := (evX x t).asPtr .no fun b o => (evX i t).asInt .no fun _ i =>
  natOf i .no fun i => bc (Nat.blt i n) (.ok (.ptr b (Nat.add o (Nat.mul i sz)))) .no
def oIdxStr (x i : AX) (t : T) (_ : Hp) : OV := (evX x t).asStr .no fun s => (evX i t).asInt .no fun _ i =>
  natOf i .no fun i => ocase .no (fun (c : Nat) => .ok (.int .u8 (.ofNat c))) (nth? s i)
def oIdxArrS (n : Nat) (x i : AX) (t : T) (_ : Hp) : OV := (evX x t).asAgg .no fun cs => (evX i t).asInt .no fun _ i =>
  natOf i .no fun i => bc (Nat.blt i n) (ocase .no .ok (nth? cs i)) .no
def oIdxArrA (sz n : Nat) (x i : AX) (t : T) (_ : Hp) : OV := (evX x t).asAgg .no fun cs => (evX i t).asInt .no fun _ i =>
  natOf i .no fun i => bc (Nat.blt i n) (bc (hasN cs (Nat.add (Nat.mul i sz) sz)) (.ok (.agg (take (drop cs (Nat.mul i sz)) sz))) .no) .no
def keyEq {β : Type} (x y : AV) (z : β) (k : Bool → β) : β := (avI x).cs (eqSt x y z k) (fun i a => y.asInt z fun j b => bc (ikEq i j) (k (eqI a b)) z)
def look {β : Type} (x : AV) (es : List (AV × AV × Nat)) (z : β) (k : Option AV → β) : β :=
  lrec (k none) (fun e _ ih => keyEq x e.1 z fun b => bc b (k (some e.2.1)) ih) es
def ins (x v : AV) (es : List (AV × AV × Nat)) : List (AV × AV × Nat) :=
  lrec [] (fun e l ih => keyEq x e.1 (e :: l) fun b => bc b ((x, v, e.2.2) :: l) (e :: ih)) es
def del (x : AV) (es : List (AV × AV × Nat)) : List (AV × AV × Nat) :=
  lrec [] (fun e l ih => keyEq x e.1 (e :: l) fun b => bc b l (e :: ih)) es
def isKey (x : AV) : Bool := (avI x).cs ((avL x).cs false (fun _ => true)) (fun _ _ => true)
def goodKey (s : Bool) (x : AV) : Bool := bc s ((avL x).cs false (fun _ => true)) ((avI x).cs false (fun _ _ => true))
def found (z : AV) (ok : Bool) (r : Option AV) : OV :=
  ocase (.ok (bc ok (.tuple [z, .bool false]) z)) (fun v => .ok (bc ok (.tuple [v, .bool true]) v)) r
def oLookup (s : Bool) (z : AV) (ok : Bool) (m k : AX) (t : T) (h : Hp) : OV := bc (goodKey s (evX k t))
  ((evX m t).asMap .no (found z ok none) fun b => hmap h b .no fun es _ _ => look (evX k t) es .no fun r => found z ok r) .no
def oExtract (i : Nat) (x : AX) (t : T) (_ : Hp) : OV := (evX x t).asTuple .no fun vs => ocase .no .ok (nth? vs i)
def oLenS (x : AX) (t : T) (_ : Hp) : OV := (evX x t).asStr .no fun s => okN (len s)
def oLenL (x : AX) (t : T) (_ : Hp) : OV := (evX x t).asSlice .no (okN 0) fun _ _ n _ _ _ => okN n
def oLenM (x : AX) (t : T) (h : Hp) : OV := (evX x t).asMap .no (okN 0) fun b => hmap h b .no fun _ n _ => okN n
def oCap (x : AX) (t : T) (_ : Hp) : OV := (evX x t).asSlice .no (okN 0) fun _ _ _ c _ e => bc e (okN c) .no
def foldI (f : Int → Int → Int) (v : AV) (l : List AV) : OV := v.asInt .no fun k n =>
  lrec (fun n => .ok (.int k n)) (fun v _ ih n => v.asInt .no fun k' m => bc (ikEq k k') (ih (f n m)) .no) l n
def maxI (n m : Int) : Int := bc (ltI n m) m n
def minI (n m : Int) : Int := bc (ltI m n) m n
def oMax (xs : List AX) (t : T) (_ : Hp) : OV := lcase .no (fun x l => foldI maxI (evX x t) (evXs l t)) xs
def oMin (xs : List AX) (t : T) (_ : Hp) : OV := lcase .no (fun x l => foldI minI (evX x t) (evXs l t)) xs
def evQ (op : QOp) : T → Hp → OV := QOp.rec (motive := fun _ => T → Hp → OV)
  (fun x => oMove x)
  (fun c a b => oPick c a b)
  (fun z ps => oBuild z (len z) ps)
  (fun a => oLoadS a)
  (fun n a => oLoadA n a)
  (fun x => oNil x)
  (fun op x y => oBin op x y)
  (fun q neg x y => oEq q neg x y)
  (fun ks neg x y => oEqs ks neg x y)
  (fun op x => oUn op x)
  (fun k x => oToInt k x)
  (fun x => oToStr x)
  (fun ty x => oIface ty x)
  (fun fn a b => oFunc fn a b)
  (fun x lo hi => oSliceStr x lo hi)
  (fun sz x lo hi mx => oSliceSl sz x lo hi mx)
  (fun sz n x lo hi mx => oSliceArr sz n x lo hi mx)
  (fun off x => oFieldAddr off x)
  (fun off x => oFieldS off x)
  (fun off n x => oFieldA off n x)
  (fun sz x i => oIdxAddrSl sz x i)
  (fun sz n x i => oIdxAddrArr sz n x i)
  (fun x i => oIdxStr x i)
  (fun n x i => oIdxArrS n x i)
  (fun sz n x i => oIdxArrA sz n x i)
  (fun s z ok m k => oLookup s z ok m k)
  (fun i x => oExtract i x)
  (fun x => oLenS x)
  (fun x => oLenL x)
  (fun x => oLenM x)
  (fun x => oCap x)
  (fun xs => oMax xs)
  (fun xs => oMin xs)
  (oNo)
  op
def lAlloc (z : List AV) (n : Nat) (_ : T) : OL := bc (lall isCell z) (.ok .ptr (mkCells z n)) .no
def lBox (x : AX) (t : T) : OL := bc (lall isCell (cellsOf (evX x t))) (.ok .ptr (mkCells (cellsOf (evX x t)) (len (cellsOf (evX x t))))) .no
def lBuildSlice (sz l : Nat) (z : List AV) (ps : List (Nat × Nat × AX)) (t : T) : OL :=
  ocase .no (fun cs => bc (lall isCell cs) (.ok (.sl l l sz true) (mkCells cs (Nat.mul l sz))) .no) (fillParts ps t (Nat.mul l sz) (lrep z l))
def u8s (s : List Nat) : List AV := lmap (fun (n : Nat) => AV.int .u8 (.ofNat n)) s
def lToBytes (x : AX) (t : T) : OL := (evX x t).asStr .no fun s => .ok (.sl (len s) (len s) 1 false) (mkCells (u8s s) (len s))
def lMakeMap (_ : T) : OL := .ok .mp (.mp [] 0 0)
def lMakeSlice (sz bytes : Nat) (z : List AV) (l c : AX) (t : T) : OL :=
  (evX l t).asInt .no fun _ l => (evX c t).asInt .no fun _ c => natOf l .no fun l => natOf c .no fun c =>
    bc (lall isCell z) (bc (Nat.ble l c) (bc (Nat.ble (Nat.mul c bytes) 70368744177664) (bc (Nat.ble c 70368744177664)
      (.ok (.sl l c sz true) (mkCells (lrep z c) (Nat.mul c sz))) .no) .no) .no) .no
def mkAt (k : MK) (b : Nat) : AV := k.cs (.ptr b 0) (fun l c s e => .slice b 0 l c s e) (.map b)
def evL (op : LOp) : T → OL := LOp.rec (motive := fun _ => T → OL)
  (fun z => lAlloc z (len z))
  (fun x => lBox x)
  (fun sz l z ps => lBuildSlice sz l z ps)
  (fun x => lToBytes x)
  (lMakeMap)
  (fun sz bytes z l c => lMakeSlice sz bytes z l c)
  op
def oStore1 (a x : AX) (t : T) (h : Hp) : RV := (evX a t).asPtr .no fun b o => bc (isCell (evX x t)) (wr1 h b o (evX x t)) .no
def oStoreN (n : Nat) (a x : AX) (t : T) (h : Hp) : RV := (evX a t).asPtr .no fun b o =>
  bc (Nat.beq (len (cellsOf (evX x t))) n) (bc (lall isCell (cellsOf (evX x t))) (wrN h b o (cellsOf (evX x t)) n undef) .no) .no
def oStore (n : Nat) (a x : AX) : T → Hp → RV := bc (Nat.beq n 1) (fun t h => bc (isCell (evX x t)) (oStore1 a x t h) (oStoreN n a x t h)) (oStoreN n a x)
def putMap (h : Hp) (b : Nat) (x v : AV) : RV := hmap h b .no fun es n c => look x es .no fun r =>
  ocase (.ok undef (hset h b (.mp (app es [(x, v, c)]) (Nat.succ n) (Nat.succ c)))) (fun _ => .ok undef (hset h b (.mp (ins x v es) n c))) r
def oMapUpdate (s : Bool) (m k v : AX) (t : T) (h : Hp) : RV := bc (goodKey s (evX k t)) ((evX m t).asMap .no .no fun b => putMap h b (evX k t) (evX v t)) .no
def oDelete (s : Bool) (m k : AX) (t : T) (h : Hp) : RV := bc (goodKey s (evX k t)) ((evX m t).asMap .no (.ok undef h) fun b => hmap h b .no fun es n c => look (evX k t) es .no fun r =>
  ocase (.ok undef h) (fun _ => .ok undef (hset h b (.mp (del (evX k t) es) (Nat.sub n 1) c))) r) .no
def src {β : Type} (h : Hp) (sz : Nat) (x : AV) (z : β) (k : Nat → List AV → β) : β := (avS x).cs
  (x.asStr z fun s => bc (Nat.beq sz 1) (k (len s) (u8s s)) z)
  (k 0 [])
  (fun b o n _ s _ => bc (Nat.beq s sz) (rdN h b o (Nat.mul n sz) z fun l => k n l) z)
def grown (h : Hp) (need sz : Nat) (cs : List AV) : RV := .ok (.slice h.next 0 need need sz false) (hpush h (mkCells cs (Nat.mul need sz)))
def shared (h : Hp) (b need sz : Nat) (old : List AV) (oldn : Nat) (cs : List AV) : RV :=
  .ok (.slice h.next 0 need need sz false) (hset (hpush h (.cells cs (Nat.mul need sz) (.pair b))) b (.cells old oldn (.pair h.next)))
def more (h : Hp) (b o n sz m : Nat) (ex : Bool) (xs : List AV) : RV :=
  hcells h b .no fun cs k w => bc (Nat.ble (Nat.add o (Nat.mul n sz)) k)
    (bc ex (grown h (Nat.add n m) sz (app (part cs k o (Nat.mul n sz)) xs))
      (bc (Nat.beq (Nat.add o (Nat.mul n sz)) k)
        (w.peer .no (shared h b (Nat.add n m) sz cs k (app (part cs k o (Nat.mul n sz)) xs)) fun p => bc (Nat.beq p b) .no (shared (hset h p .dead) b (Nat.add n m) sz cs k (app (part cs k o (Nat.mul n sz)) xs)))
        (w.peer .no (grown (hset h b .dead) (Nat.add n m) sz (app (part cs k o (Nat.mul n sz)) xs)) fun p => grown (hset (hset h p .dead) b .dead) (Nat.add n m) sz (app (part cs k o (Nat.mul n sz)) xs)))) .no
def appendTo (h : Hp) (sz bytes : Nat) (s : AV) (m : Nat) (xs : List AV) : RV :=
  s.asSlice .no (bc (Nat.beq m 0) (.ok .nilSlice h) (bc (Nat.ble (Nat.mul m bytes) 70368744177664) (bc (Nat.ble m 70368744177664) (grown h m sz xs) .no) .no)) fun b o n c z ex =>
    bc (Nat.beq z sz)
      (bc (Nat.ble (Nat.add n m) c) (bc (Nat.beq m 0) (.ok s h) (wrN h b (Nat.add o (Nat.mul n sz)) xs (Nat.mul m sz) (.slice b o (Nat.add n m) c sz ex)))
        (bc (Nat.ble (Nat.mul (Nat.add n m) bytes) 70368744177664) (bc (Nat.ble (Nat.add n m) 70368744177664) (more h b o n sz m ex xs) .no) .no)) .no
def oAppend (sz bytes : Nat) (s x : AX) (t : T) (h : Hp) : RV := src h sz (evX x t) .no fun m xs => appendTo h sz bytes (evX s t) m xs
def oAppendZ (sz bytes : Nat) (z : List AV) (s n : AX) (t : T) (h : Hp) : RV := (evX n t).asInt .no fun _ n => natOf n .no fun n =>
  bc (Nat.ble (Nat.mul n bytes) 70368744177664) (bc (Nat.ble n 70368744177664) (bc (lall isCell z) (appendTo h sz bytes (evX s t) n (lrep z n)) .no) .no) .no
def rvN (n : Nat) (h : Hp) : RV := .ok (.int .i64 (.ofNat n)) h
def oCopy (sz : Nat) (d s : AX) (t : T) (h : Hp) : RV := src h sz (evX s t) .no fun m xs =>
  (evX d t).asSlice .no (rvN 0 h) fun b o n _ z _ => bc (Nat.beq z sz) (bc (Nat.beq (cut m n) 0) (rvN 0 h)
    (wrN h b o (bc (Nat.ble m n) xs (take xs (Nat.mul n sz))) (Nat.mul (cut m n) sz) (.int .i64 (.ofNat (cut m n))))) .no
def oClear (z : List AV) (x : AX) (t : T) (h : Hp) : RV := (evX x t).asSlice .no (.ok undef h) fun b o n _ s _ =>
  bc (Nat.beq n 0) (.ok undef h) (bc (Nat.beq (len z) s) (bc (lall isCell z) (wrN h b o (lrep z n) (Nat.mul n s) undef) .no) .no)
def oMark (x : AX) (t : T) (h : Hp) : RV := (evX x t).asSlice .no .no fun b _ _ _ _ _ => hcells h b .no fun _ _ w => w.peer .no (.ok (evX x t) h) fun _ => .ok (evX x t) h
def oCall (call : CallT) (f : AX) (xs : List AX) (t : T) (h : Hp) : RV := (evX f t).asFunc .no fun g a b => call g (app a (app (evXs xs t) b)) h
def evE (op : EOp) : CallT → T → Hp → RV := EOp.rec (motive := fun _ => CallT → T → Hp → RV)
  (fun n a x => fun _ => oStore n a x)
  (fun s m k v => fun _ => oMapUpdate s m k v)
  (fun sz bytes s x => fun _ => oAppend sz bytes s x)
  (fun sz bytes z s n => fun _ => oAppendZ sz bytes z s n)
  (fun sz d s => fun _ => oCopy sz d s)
  (fun s m k => fun _ => oDelete s m k)
  (fun z x => fun _ => oClear z x)
  (fun x => fun _ => oMark x)
  (fun f xs => fun call => oCall call f xs)
  op
def putT (d : Option Nat) (v : AV) (t : T) : T := ocase t (fun i => tset (pathOf i) v t) d
def wanted (g : Option (Nat × Bool)) (t : T) : Bool :=
  ocase true (fun p => ocase false (fun v => v.asBool false fun c => bc p.2 c (notB c)) (tget (pathOf p.1) t)) g
def runA (op : AOp) : Option Nat → CallT → T → Hp → RT := op.cs
  (fun o d _ t h => (evQ o t h).then fun v => .ok (putT d v t) h)
  (fun o d _ t h => (evL o t).then fun k x => .ok (putT d (mkAt k h.next) t) (hpush h x))
  (fun o d call t h => (evE o call t h).then fun v h => .ok (putT d v t) h)
def evO (call : CallT) (o : AO) (t : T) (h : Hp) : RT :=
  ocase (runA o.op o.dst call t h) (fun _ => bc (wanted o.guard t) (runA o.op o.dst call t h) (.ok (putT o.dst undef t) h)) o.guard
def evOs (call : CallT) (os : List AO) : T → Hp → RT := lrec (fun t h => .ok t h) (fun o _ ih t h => (evO call o t h).then ih) os
def avEq (v : AV) : AV → Bool := AV.rec (motive_1 := fun _ => AV → Bool) (motive_2 := fun _ => List AV → Bool)
  (fun b y => y.asBool false fun c => bc b c (notB c))
  (fun k n y => y.asInt false fun k' m => bc (ikEq k k') (eqI n m) false)
  (fun s y => y.asStr false fun r => strEq s r)
  (fun y => (avP y).cs false true (fun _ _ => false))
  (fun b o y => (avP y).cs false false (fun b' o' => bc (Nat.beq b b') (Nat.beq o o') false))
  (fun y => (avS y).cs false true (fun _ _ _ _ _ _ => false))
  (fun b o l c s e y => (avS y).cs false false (fun b' o' l' c' s' e' => bc (Nat.beq b b') (bc (Nat.beq o o') (bc (Nat.beq l l') (bc (Nat.beq c c') (bc (Nat.beq s s') (bc e e' (notB e')) false) false) false) false) false))
  (fun y => (avM y).cs false true (fun _ => false))
  (fun b y => (avM y).cs false false (fun b' => Nat.beq b b'))
  (fun f a b ia ib y => (fnView f a b).cs false false (fun f _ _ => (avF y).cs false false (fun f' a' b' => bc (Nat.beq f f') (bc (ia a') (ib b') false) false) false) false)
  (fun y => (avF y).cs false true (fun _ _ _ => false) false)
  (fun t _ ih y => (avIf y).cs false false (fun t' w => bc (Nat.beq t t') (ih w) false))
  (fun y => (avIf y).cs false true (fun _ _ => false))
  (fun _ ih y => y.asAgg false ih)
  (fun _ ih y => y.asTuple false ih)
  (fun l => lcase true (fun _ _ => false) l)
  (fun _ _ i j l => lcase false (fun a m => bc (i a) (j m) false) l) v
def again (o : QOp) (t : T) (v : AV) (h : Hp) : Bool := (evQ o t h).cs false fun v' => avEq v v'
def readAgain (ps : List PD) (k : Nat) (h : Hp) : Bool := lall (fun p => bc (Nat.blt p.hi k) true (again p.o p.t p.v h)) ps
def quietO (o : QOp) (d : Option Nat) (hi : Nat) (t : T) (h : Hp) (ps : List PD) (k : T → Hp → List PD → RT) : RT :=
  (evQ o t h).then fun v => k (putT d v t) h (⟨o, t, v, hi⟩ :: ps)
def stageO (o : AO) (hi : Nat) (t : T) (h : Hp) (ps : List PD) (k : T → Hp → List PD → RT) : RT :=
  bc (wanted o.guard t) (o.op.cs
    (fun q => quietO q o.dst hi t h ps k)
    (fun l => (evL l t).then fun m x => k (putT o.dst (mkAt m h.next) t) (hpush h x) ps)
    (fun _ => .no)) (k (putT o.dst undef t) h ps)
def stageOs (os : List (AO × Nat)) : T → Hp → List PD → (T → Hp → List PD → RT) → RT :=
  lrec (fun t h ps k => k t h ps) (fun o _ ih t h ps k => stageO o.1 o.2 t h ps fun t h ps => ih t h ps k) os
def evDs (call : CallT) (l : List DS) : Nat → T → Hp → List PD → RT :=
  lrec (fun _ _ _ _ => .no) (fun s _ ih n t h ps => stageOs s.os t h ps fun t h ps =>
    bc (readAgain ps n h) (ocase (.ok t h) (fun e => (evO call e t h).then fun t h => ih (Nat.succ n) t h ps) s.e) .no) l
def cSeq (f g : T → Hp → RS) (t : T) (h : Hp) : RS := (f t h).then g
def cCond (c : AX) (f g : T → Hp → RS) (t : T) (h : Hp) : RS := (evX c t).asBool .no fun b => bc b (f t h) (g t h)
def cRegion (f : T → Hp → RT) (t : T) (h : Hp) : RS := (f t h).done
def cBlock (i : Nat) (f : T → Hp → RS) (t : T) (h : Hp) : RS := (f t h).block i
def cLoop (N : Nat) (f : T → Hp → RS) : T → Hp → RS := rounds (fun _ _ => .no) (fun again t h => (f t h).then again) N
def cSkip (t : T) (h : Hp) : RS := .nor t h
def cExit (i : Nat) (t : T) (h : Hp) : RS := .exit i t h
def cRet (t : T) (h : Hp) : RS := .ret t h
def cFail (_ : T) (_ : Hp) : RS := .no
def cDrawn (f : Nat → T → Hp → List PD → RT) (t : T) (h : Hp) : RS := (f 0 t h []).done
def evC (call : CallT) (N : Nat) (c : AC) : T → Hp → RS :=
  acrec cSkip (fun os => cRegion (evOs call os)) (fun l => cDrawn (evDs call l)) cSeq cCond cBlock (cLoop N) cExit cRet cFail c
def evRs {β : Type} (rs : List ARes) (t : T) (h : Hp) (z : β) : (List AV → β) → β :=
  lrec (fun k => k []) (fun r _ ih k => resCs r (fun i => ih fun vs => k (evX (.tmp i) t :: vs))
    (fun a => (evX (.tmp a) t).asPtr z fun b o => hcells h b z fun cs _ _ => ocase z (fun v => ih fun vs => k (v :: vs)) (nth? cs o))
    (fun a n => (evX (.tmp a) t).asPtr z fun b o => rdN h b o n z fun l => ih fun vs => k (.agg l :: vs))) rs
def retOf (vs : List AV) : AV := lcase (.tuple []) (fun v l => lcase v (fun _ _ => .tuple vs) l) vs
def frame0 (args : List AV) : T := lrec (fun (_ : Nat) (t : T) => t) (fun v _ ih i t => ih (Nat.succ i) (tset (pathOf i) v t)) args 0 .lf
def results (rs : List ARes) (t : T) (h : Hp) : RV := evRs rs t h .no fun vs => .ok (retOf vs) h
def finish (rs : List ARes) (r : RS) : RV := r.cs .no (results rs) (fun _ _ _ => .no) (results rs)
def evF1 (S : Nat → Option AF) (N : Nat) (call : CallT) (f : Nat) (args : List AV) (h : Hp) : RV :=
  ocase .no (fun fn => bc (Nat.ble (len args) fn.ntmps) (finish fn.results (evC call N fn.body (frame0 args) h)) .no) (S f)
def evF (M : Nat → Option (List AV → Hp → RV)) (S : Nat → Option AF) (N : Nat) (d : Nat) : CallT :=
  Nat.rec (motive := fun _ => CallT) (fun _ _ _ => .no) (fun _ ih f args h => ocase (evF1 S N ih f args h) (fun m => m args h) (M f)) d
def progS (P : Program) (D : Nat → Array Oper → AC) (f : Nat) : Option AF := (P.funcs[f]?).bind (compF P D)
def H0 : Hp := ⟨0, .lf⟩
end
end Eng
