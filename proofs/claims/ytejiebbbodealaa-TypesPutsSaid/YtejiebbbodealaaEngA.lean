/- The engine's words: abstract values, code and their evaluation; and how the loaded program's code is turned into them. -/
import Derived.Calls
namespace Eng
open Go
inductive AV where
  | bool (b : Bool)
  | int (k : IntKind) (n : Int)
  | str (s : List Nat)
  | nilPtr
  | ptr (b o : Nat)
  | nilSlice
  | slice (b o len cap sz : Nat) (ex : Bool)
  | nilMap
  | map (b : Nat)
  | func (fn : Fn) (first captured : List AV)
  | nilFunc
  | iface (t : Nat) (v : AV)
  | nilIface
  | agg (cs : List AV)
  | tuple (vs : List AV)
  deriving Inhabited
def undef : AV := .tuple []
def AV.cells : AV → List AV
  | .agg cs => cs
  | v => [v]
def AV.cell : AV → Bool
  | .agg _ | .tuple _ => false
  | _ => true
inductive AX where
  | tmp (t : Nat)
  | const (v : AV)
  deriving Inhabited
inductive EqK where
  | bool | int | str | ptr | slice | map | func | iface
  deriving Inhabited, DecidableEq
inductive QOp where
  | move (x : AX)
  | pick (c a b : AX)
  | build (zero : List AV) (parts : List (Nat × Nat × AX))
  | loadS (a : AX)
  | loadA (n : Nat) (a : AX)
  | nilCheck (x : AX)
  | bin (op : BinOp) (x y : AX)
  | eq (k : EqK) (neg : Bool) (x y : AX)
  | eqs (ks : List (Nat × EqK)) (neg : Bool) (x y : AX)
  | un (op : UnOp) (x : AX)
  | toInt (k : IntKind) (x : AX)
  | toStr (x : AX)
  | makeIface (t : Nat) (x : AX)
  | makeFunc (fn : Fn) (first captured : List AX)
  | sliceStr (x : AX) (lo hi : Option AX)
  | sliceSl (sz : Nat) (x : AX) (lo hi mx : Option AX)
  | sliceArr (sz n : Nat) (x : AX) (lo hi mx : Option AX)
  | fieldAddr (off : Nat) (x : AX)
  | fieldS (off : Nat) (x : AX)
  | fieldA (off n : Nat) (x : AX)
  | idxAddrSl (sz : Nat) (x i : AX)
  | idxAddrArr (sz n : Nat) (x i : AX)
  | idxStr (x i : AX)
  | idxArrS (n : Nat) (x i : AX)
  | idxArrA (sz n : Nat) (x i : AX)
  | lookup (s : Bool) (zero : AV) (ok : Bool) (m k : AX)
  | extract (i : Nat) (x : AX)
  | lenS (x : AX)
  | lenL (x : AX)
  | lenM (x : AX)
  | cap (x : AX)
  | mx (xs : List AX)
  | mn (xs : List AX)
  | fail
  deriving Inhabited
inductive LOp where
  | alloc (zero : List AV)
  | box (x : AX)
  | buildSlice (sz len : Nat) (zero : List AV) (parts : List (Nat × Nat × AX))
  | toBytes (x : AX)
  | makeMap
  | makeSlice (sz bytes : Nat) (zero : List AV) (l c : AX)
  deriving Inhabited
inductive EOp where
  | store (n : Nat) (a x : AX)
  | mapUpdate (s : Bool) (m k v : AX)
  | append (sz bytes : Nat) (s x : AX)
  | appendZ (sz bytes : Nat) (zero : List AV) (s n : AX)
  | copy (sz : Nat) (d s : AX)
  | delete (s : Bool) (m k : AX)
  | clearSl (zero : List AV) (x : AX)
  | mark (x : AX)
  | call (f : AX) (args : List AX)
  deriving Inhabited
inductive AOp where
  | q (o : QOp)
  | l (o : LOp)
  | e (o : EOp)
  deriving Inhabited
structure AO where
  dst : Option Nat
  op : AOp
  guard : Option (Nat × Bool)
  deriving Inhabited
structure DS where
  os : List (AO × Nat)
  e : Option AO
  deriving Inhabited
inductive AC where
  | skip
  | region (ops : List AO)
  | drawn (l : List DS)
  | seq (a b : AC)
  | cond (c : AX) (a b : AC)
  | block (id : Nat) (a : AC)
  | loop (a : AC)
  | exit (id : Nat)
  | ret
  | fail (why : String)
  deriving Inhabited
inductive ARes where
  | tmp (t : Nat)
  | cellS (a : Nat)
  | cellA (a n : Nat)
  deriving Inhabited
structure AF where
  ntmps : Nat
  results : List ARes
  body : AC
  deriving Inhabited
def byteList (s : ByteArray) : List Nat := s.data.toList.map (·.toNat)
def scalarAV : Value → Option AV
  | .bool b => some (.bool b)
  | .int k n => some (.int k n)
  | .string s => some (.str (byteList s))
  | .pointer none => some .nilPtr
  | .slice none 0 0 => some .nilSlice
  | .map none => some .nilMap
  | .nilFunc => some .nilFunc
  | .nilIface => some .nilIface
  | _ => none
def scalarsAV : List Value → Option (List AV)
  | [] => some []
  | v :: vs => match scalarAV v, scalarsAV vs with
    | some a, some as => some (a :: as)
    | _, _ => none
def constAV : Value → Option AV
  | .agg cs => (scalarsAV cs.toList).map .agg
  | .tuple vs => if vs.size = 0 then some (.tuple []) else none
  | .func (.func f) fi ca => if fi.size = 0 && ca.size = 0 then some (.func (.func f) [] []) else none
  | v => scalarAV v
def compX : Operand → Option AX
  | .tmp t => some (.tmp t)
  | .const v => (constAV v).map .const
  | .func f => some (.const (.func (.func f) [] []))
  | .global _ => none
def compXs : List Operand → Option (List AX)
  | [] => some []
  | x :: xs => match compX x, compXs xs with
    | some a, some as => some (a :: as)
    | _, _ => none
def compOX : Option Operand → Option (Option AX)
  | none => some none
  | some x => (compX x).map some
section
variable (P : Program)
def szOf (t : TypeId) : Option Nat := (P.info? t).map (·.size)
def bytesOf (t : TypeId) : Option Nat := (P.info? t).map (·.bytes)
def zeroOf (t : TypeId) : Option AV := ((P.info? t).bind (·.zero)).bind constAV
def aggT (t : TypeId) : Option Bool := (P.underlying t).map fun d => match d with
  | .struct _ | .array _ _ => true
  | _ => false
def eqKOf (P : Program) : TypeDesc → Option EqK
  | .bool => some .bool
  | .int _ => some .int
  | .string => some .str
  | .pointer e => match szOf P e with
    | some 0 | none => none
    | some _ => some .ptr
  | .slice _ => some .slice
  | .map _ _ => some .map
  | .func _ _ _ => some .func
  | .interface _ => some .iface
  | _ => none
def eqKs : List Field → Option (List (Nat × EqK))
  | [] => some []
  | f :: fs => if f.name = "_" then none else
    match (P.underlying f.type).bind (eqKOf P), eqKs fs with
    | some k, some ks => some ((f.offset, k) :: ks)
    | _, _ => none
def places (fs : Array Field) (i : Nat) : Option (Nat × Nat) :=
  match fs[i]? with
  | none => none
  | some f => (szOf P f.type).map fun n => (f.offset, n)
def compParts (place : Nat → Option (Nat × Nat)) : List (Nat × Operand) → Option (List (Nat × Nat × AX))
  | [] => some []
  | (i, x) :: rest => match place i, compX x, compParts place rest with
    | some (o, n), some a, some as => some ((o, n, a) :: as)
    | _, _, _ => none
def isIface : TypeDesc → Bool
  | .interface _ => true
  | _ => false
def cellsC : AV → List AV
  | .agg cs => cs
  | v => [v]
def no : AOp := .q .fail
def compEq (neg : Bool) (t : TypeId) (x y : AX) : AOp :=
  match P.underlying t with
  | some (.struct fs) => if P.stoodInHeld t || P.eqGuardType P.depth t then no else match eqKs P fs.toList with
    | some ks => .q (.eqs ks neg x y)
    | none => no
  | some d => match eqKOf P d with
    | some k => .q (.eq k neg x y)
    | none => no
  | none => no
def compConv (src dst : TypeId) (x : AX) : AOp :=
  match P.underlying src, P.underlying dst with
  | some (.int _), some (.int k) => .q (.toInt k x)
  | some .string, some (.slice e) => match P.underlying e with
    | some (.int .u8) => .l (.toBytes x)
    | _ => no
  | some (.slice e), some .string => match P.underlying e with
    | some (.int .u8) => .q (.toStr x)
    | _ => no
  | some (.slice _), some (.slice e) => if src = dst then match P.underlying e with
    | some (.int .u8) => .e (.mark x)
    | _ => no
    else no
  | _, _ => no
def compAppend (st : TypeId) (xt : TypeId) (s x : AX) : AOp :=
  match P.underlying st, P.underlying xt with
  | some (.slice e), some (.slice _) | some (.slice e), some .string => match szOf P e, bytesOf P e, zeroOf P e with
    | some n, some m, some z => if n = 0 then no else if n = (cellsC z).length then .e (.append n m s x) else no
    | _, _, _ => no
  | some (.slice e), some (.int _) => match szOf P e, bytesOf P e, zeroOf P e with
    | some n, some m, some z => if n = 0 then no else if n = (cellsC z).length then .e (.appendZ n m (cellsC z) s x) else no
    | _, _, _ => no
  | _, _ => no
def compLen (t : TypeId) (x : AX) : AOp :=
  match P.underlying t with
  | some .string => .q (.lenS x)
  | some (.slice _) => .q (.lenL x)
  | some (.map _ _) => .q (.lenM x)
  | some (.array n _) => .q (.move (.const (.int .i64 n)))
  | some (.pointer a) => match P.underlying a with
    | some (.array n _) => .q (.move (.const (.int .i64 n)))
    | _ => no
  | _ => no
def compBuiltin (b : Builtin) (ts : List TypeId) (xs : List AX) : AOp :=
  match b, ts, xs with
  | .append, [st, xt], [s, x] => compAppend P st xt s x
  | .len, [t], [x] => compLen P t x
  | .cap, [t], [x] => match P.underlying t with
    | some (.slice _) => .q (.cap x)
    | _ => no
  | .copy, dt :: _, [d, s] => match P.underlying dt with
    | some (.slice e) => match szOf P e with
      | some n => if n = 0 then no else .e (.copy n d s)
      | none => no
    | _ => no
  | .delete, t :: _, [m, k] => match P.underlying t with
    | some (.map kt _) => match P.underlying kt with
      | some (.int _) => .e (.delete false m k)
      | some .string => .e (.delete true m k)
      | _ => no
    | _ => no
  | .max, _, xs => .q (.mx xs)
  | .min, _, xs => .q (.mn xs)
  | .clear, [t], [x] => match P.underlying t with
    | some (.slice e) => match zeroOf P e with
      | some z => .e (.clearSl (cellsC z) x)
      | none => no
    | _ => no
  | _, _, _ => no
def keyOk (t : TypeId) : Option Bool := match P.underlying t with
  | some (.int _) => some false
  | some .string => some true
  | _ => none
def compCall (c : Call) : AOp :=
  match c.callee with
  | .builtin b => match compXs c.args.toList with
    | some xs => compBuiltin P b c.argTypes.toList xs
    | none => no
  | .value f => match compX f, compXs c.args.toList with
    | some a, some xs => .e (.call a xs)
    | _, _ => no
  | .invoke _ _ => no
def comp1 (x : Operand) (f : AX → AOp) : AOp := match compX x with | some a => f a | none => no
def comp2 (x y : Operand) (f : AX → AX → AOp) : AOp := comp1 x fun a => comp1 y (f a)
def comp3 (x y z : Operand) (f : AX → AX → AX → AOp) : AOp := comp2 x y fun a b => comp1 z (f a b)
def compBuild (t : TypeId) (ps : Array (Nat × Operand)) : AOp :=
  match P.underlying t, zeroOf P t with
  | some (.struct fs), some z => if fs.toList.all fun f => (szOf P f.type).isSome then match compParts (places P fs) ps.toList with
    | some l => .q (.build (cellsC z) l)
    | none => no
    else no
  | some (.array _ e), some z => match szOf P e with
    | some n => match compParts (fun i => some (i * n, n)) ps.toList with
      | some l => .q (.build (cellsC z) l)
      | none => no
    | none => no
  | _, _ => no
def compBuildSlice (t : TypeId) (len : Nat) (ps : Array (Nat × Operand)) : AOp :=
  match P.underlying t with
  | some (.slice e) => match szOf P e, zeroOf P e with
    | some n, some z => match compParts (fun i => some (i * n, n)) ps.toList with
      | some l => if n = (cellsC z).length ∧ len * n ≤ 16777216 then .l (.buildSlice n len (cellsC z) l) else no
      | none => no
    | _, _ => no
  | _ => no
def compMakeSlice (t : TypeId) (l c : AX) : AOp :=
  match P.underlying t with
  | some (.slice e) => match szOf P e, bytesOf P e, zeroOf P e with
    | some n, some m, some z => if n = (cellsC z).length then .l (.makeSlice n m (cellsC z) l c) else no
    | _, _, _ => no
  | _ => no
def compSlice (t : TypeId) (x : AX) (lo hi mx : Option AX) : AOp :=
  match P.underlying t with
  | some .string => match mx with
    | none => .q (.sliceStr x lo hi)
    | some _ => no
  | some (.slice e) => match szOf P e with
    | some n => .q (.sliceSl n x lo hi mx)
    | none => no
  | some (.array k e) => match szOf P e with
    | some n => .q (.sliceArr n k x lo hi mx)
    | none => no
  | _ => no
def compFieldAddr (s : TypeId) (x : AX) (i : Nat) : AOp :=
  match P.underlying s with
  | some (.struct fs) => match places P fs i with
    | some (o, n) => if n = 0 then no else .q (.fieldAddr o x)
    | none => no
  | _ => no
def compField (s : TypeId) (x : AX) (i : Nat) : AOp :=
  match P.underlying s with
  | some (.struct fs) => match fs[i]? with
    | some f => match aggT P f.type, szOf P f.type with
      | some true, some n => .q (.fieldA f.offset n x)
      | some false, some _ => .q (.fieldS f.offset x)
      | _, _ => no
    | none => no
  | _ => no
def compIndexAddr (t : TypeId) (x i : AX) : AOp :=
  match P.underlying t with
  | some (.slice e) => match szOf P e with
    | some n => .q (.idxAddrSl n x i)
    | none => no
  | some (.array k e) => match szOf P e with
    | some n => .q (.idxAddrArr n k x i)
    | none => no
  | _ => no
def compIndex (t : TypeId) (x i : AX) : AOp :=
  match P.underlying t with
  | some .string => .q (.idxStr x i)
  | some (.array k e) => match aggT P e, szOf P e with
    | some true, some n => .q (.idxArrA n k x i)
    | some false, some 1 => .q (.idxArrS k x i)
    | _, _ => no
  | _ => no
def compLookup (t : TypeId) (m k : AX) (ok : Bool) : AOp :=
  match P.underlying t with
  | some (.map kt e) => match keyOk P kt, zeroOf P e with
    | some s, some z => .q (.lookup s z ok m k)
    | _, _ => no
  | _ => no
def compMapUpdate (t : TypeId) (m k v : AX) : AOp :=
  match P.underlying t with
  | some (.map kt _) => match keyOk P kt with
    | some s => .e (.mapUpdate s m k v)
    | none => no
  | _ => no
def compMakeMap (t : TypeId) : Option Operand → AOp
  | none => .l .makeMap
  | some (.const (.int _ _)) => match P.underlying t with
    | some (.map _ _) => .l .makeMap
    | _ => no
  | some _ => no
def compOp : Op → AOp
  | .move x | .assign x => comp1 x fun x => .q (.move x)
  | .pick c a b => comp3 c a b fun c a b => .q (.pick c a b)
  | .alloc t => match zeroOf P t with
    | some z => .l (.alloc (cellsC z))
    | none => no
  | .box _ x => comp1 x fun x => .l (.box x)
  | .build t ps => compBuild P t ps
  | .buildSlice t len ps => compBuildSlice P t len ps
  | .load t a => comp1 a fun a => match aggT P t, szOf P t with
    | some true, some n => .q (.loadA n a)
    | some false, some _ => .q (.loadS a)
    | _, _ => no
  | .store t a x => comp2 a x fun a x => match szOf P t with
    | some n => .e (.store n a x)
    | none => no
  | .nilCheck x => comp1 x fun x => .q (.nilCheck x)
  | .binOp .eql t x y _ => comp2 x y fun a b => compEq P false t a b
  | .binOp .neq t x y _ => comp2 x y fun a b => compEq P true t a b
  | .binOp op _ x y _ => comp2 x y fun a b => .q (.bin op a b)
  | .unOp op _ x => comp1 x fun x => .q (.un op x)
  | .convert s d x => comp1 x fun x => compConv P s d x
  | .makeInterface t x => comp1 x fun a => match P.underlying t with
    | some d => if isIface d then no else .q (.makeIface t a)
    | none => no
  | .makeFunc fn fi ca => match compXs fi.toList, compXs ca.toList with
    | some a, some b => .q (.makeFunc fn a b)
    | _, _ => no
  | .makeMap t r => compMakeMap P t r
  | .makeSlice t l c => comp2 l c fun l c => compMakeSlice P t l c
  | .slice t x lo hi mx => comp1 x fun x => match compOX lo, compOX hi, compOX mx with
    | some lo, some hi, some mx => compSlice P t x lo hi mx
    | _, _, _ => no
  | .fieldAddr s x i => comp1 x fun x => compFieldAddr P s x i
  | .field s x i => comp1 x fun x => compField P s x i
  | .indexAddr t x i => comp2 x i fun x i => compIndexAddr P t x i
  | .index t x i => comp2 x i fun x i => compIndex P t x i
  | .lookup t m k ok => comp2 m k fun m k => compLookup P t m k ok
  | .mapUpdate t m k v | .insert t m k v => comp3 m k v fun m k v => compMapUpdate P t m k v
  | .extract x i => comp1 x fun x => .q (.extract i x)
  | .call c => compCall P c
  | _ => no
def compGuard (ops : Array Oper) : Option (Nat × Bool) → Option (Option (Nat × Bool))
  | none => some none
  | some (j, want) => match (ops[j]?).bind (·.dst) with
    | some d => some (some (d, want))
    | none => none
def dstOk (n : Nat) : Option Nat → Bool
  | some d => Nat.blt d n
  | none => true
def compO (n : Nat) (ops : Array Oper) (o : Oper) : AO :=
  match compGuard ops o.guard, dstOk n o.dst with
  | some g, true => ⟨o.dst, compOp P o.op, g⟩
  | _, _ => ⟨none, no, none⟩
def isE : AOp → Bool
  | .e _ => true
  | _ => false
def ancs : List Oper → List Nat → List Nat
  | [], acc => acc
  | o :: os, acc => ancs os (acc ++ [o.after.toList.foldl (fun s e => if Region.binds .any e then s ||| 2 ^ e.on ||| acc.getD e.on 0 else s) 0])
structure NO where
  i : Nat
  o : AO
  a : Nat
  p : Oper
def numbered (n : Nat) (ops : Array Oper) : List Oper → List Nat → Nat → List NO
  | o :: os, a :: as, i => ⟨i, compO P n ops o, a, o⟩ :: numbered n ops os as (i + 1)
  | _, _, _ => []
def stageOf (es : List NO) (a : Nat) : Nat := (es.filter fun e => a.testBit e.i).length
def hiOf (es : List NO) (i : Nat) : Nat := (es.takeWhile fun e => !e.a.testBit i).length
def stagesFrom (qs es : List NO) : List NO → Nat → List (List (NO × Nat) × Option NO)
  | [], k => [((qs.filter fun q => stageOf es q.a == k).map fun q => (q, hiOf es q.i), none)]
  | e :: rest, k => ((qs.filter fun q => stageOf es q.a == k).map fun q => (q, hiOf es q.i), some e) :: stagesFrom qs es rest (k + 1)
def readsT (d : Nat) : Operand → Bool
  | .tmp t => Nat.beq t d
  | _ => false
def wellDrawn (nos : List NO) : Bool :=
  nos.all fun x =>
    (nos.all fun y => Nat.beq x.i y.i || match y.p.dst with
      | none => true
      | some d => (match x.p.dst with | some d' => !Nat.beq d' d | none => true) && (!(x.p.op.operands.toList.any (readsT d)) || x.a.testBit y.i || y.a.testBit x.i)) &&
    (match x.p.dst with | some d => !(x.p.op.operands.toList.any (readsT d)) | none => true) &&
    match x.p.guard with
    | none => true
    | some (j, _) => x.a.testBit j
def forward : List Oper → Nat → Bool
  | [], _ => true
  | o :: os, i => (o.after.toList.all fun e => !Region.binds .text e || Nat.blt e.on i) && forward os (i + 1)
def endsOk (ops : Array Oper) : Bool := !Region.departs ops || Nat.beq (Region.linearise .gc ops 0).length ops.size
inductive It where
  | op (n hi : Nat) (q : NO)
  | eff (n : Nat) (e : NO)
  | last (n : Nat)
def flat : Nat → List (List (NO × Nat) × Option NO) → List It
  | _, [] => []
  | n, (qs, some e) :: r => qs.map (fun q => It.op n q.2 q.1) ++ It.eff n e :: flat (n + 1) r
  | n, (qs, none) :: _ => qs.map (fun q => It.op n q.2 q.1) ++ [It.last n]
def behind (es : List NO) (q : NO) : Nat → Bool
  | 0 => true
  | n + 1 => match es[n]? with
    | some e => q.a.testBit e.i
    | none => false
def ahead (es : List NO) (q : NO) (hi : Nat) : Bool := match es[hi]? with
  | some e => e.a.testBit q.i
  | none => true
def itOk (es : List NO) (m : Nat) : List It → Nat → Bool
  | [], _ => false
  | .op n hi q :: r, s => Nat.beq (q.a &&& s) q.a && !s.testBit q.i && behind es q n && ahead es q hi && itOk es m r (s ||| 2 ^ q.i)
  | .eff n e :: r, s => Nat.beq (e.a &&& s) e.a && !s.testBit e.i && behind es e n && (match es[n]? with | some e' => Nat.beq e'.i e.i | none => false) && itOk es m r (s ||| 2 ^ e.i)
  | .last _ :: _, s => Nat.beq s m
def compDrawn (n : Nat) (ops : Array Oper) : AC :=
  let nos := numbered P n ops ops.toList (ancs ops.toList []) 0
  let es := nos.filter fun n => isE n.o.op
  let st := stagesFrom (nos.filter fun n => !isE n.o.op) es es 0
  if wellDrawn nos && forward ops.toList 0 && endsOk ops && itOk es (2 ^ ops.size - 1) (flat 0 st) 0 then
    .drawn (st.map fun s => ⟨s.1.map fun q => (q.1.o, q.2), s.2.map (·.o)⟩)
  else .fail "draw"
def noDraw (_ : Nat) (_ : Array Oper) : AC := .fail "draw"
section
variable (D : Nat → Array Oper → AC) (n : Nat)
def compC : Code → AC
  | .skip | .label _ => .skip
  | .region _ ops draw => if draw then D n ops else .region (ops.toList.map (compO P n ops))
  | .seq a b => .seq (compC a) (compC b)
  | .cond c a b => match compX c with
    | some x => .cond x (compC a) (compC b)
    | none => .fail "cond"
  | .block id a => .block id (compC a)
  | .loop a => .loop (compC a)
  | .exit id => .exit id
  | .ret => .ret
  | .scope _ => .fail "scope"
  | .goto _ => .fail "goto"
  | .rangeFunc _ _ _ _ => .fail "rangeFunc"
  | .refuse _ => .fail "refuse"
end
def compR : ResultVar → Option ARes
  | .tmp t => some (.tmp t)
  | .cell a t => match aggT P t, szOf P t with
    | some true, some n => some (.cellA a n)
    | some false, some _ => some (.cellS a)
    | _, _ => none
def compRs : List ResultVar → Option (List ARes)
  | [] => some []
  | r :: rs => match compR P r, compRs rs with
    | some a, some as => some (a :: as)
    | _, _ => none
def compF (D : Nat → Array Oper → AC) (fn : Func) : Option AF :=
  if fn.name = "runtime.NumGoroutine" then none else
  match fn.body, compRs P fn.results.toList with
  | some c, some rs => some ⟨fn.ntmps, rs, compC P D fn.ntmps c⟩
  | _, _ => none
end
inductive Pth where
  | e
  | l (p : Pth)
  | r (p : Pth)
  deriving Inhabited
inductive Tr (α : Type) where
  | lf
  | nd (v : Option α) (l r : Tr α)
  deriving Inhabited
inductive Own where
  | ro | solo | pair (p : Nat)
  deriving Inhabited
inductive Blk where
  | cells (cs : List AV) (n : Nat) (own : Own)
  | mp (es : List (AV × AV × Nat)) (n clock : Nat)
  | dead
  deriving Inhabited
structure Hp where
  next : Nat
  t : Tr Blk
  deriving Inhabited
inductive OV where
  | no
  | ok (v : AV)
  deriving Inhabited
inductive MK where
  | ptr
  | sl (l c s : Nat) (e : Bool)
  | mp
  deriving Inhabited
inductive OL where
  | no
  | ok (k : MK) (x : Blk)
  deriving Inhabited
inductive RV where
  | no
  | ok (v : AV) (h : Hp)
  deriving Inhabited
abbrev T := Tr AV
inductive RT where
  | no
  | ok (t : T) (h : Hp)
  deriving Inhabited
inductive RS where
  | no
  | nor (t : T) (h : Hp)
  | exit (i : Nat) (t : T) (h : Hp)
  | ret (t : T) (h : Hp)
  deriving Inhabited
abbrev CallT := Nat → List AV → Hp → RV
inductive VI where
  | no | int (k : IntKind) (n : Int)
inductive VB where
  | no | bool (b : Bool)
inductive VL where
  | no | str (s : List Nat)
inductive VP where
  | no | nil | ptr (b o : Nat)
inductive VS where
  | no | nil | sl (b o l c s : Nat) (e : Bool)
inductive VM where
  | no | nil | mp (b : Nat)
inductive VA where
  | no | agg (l : List AV)
inductive VW where
  | no | nil | ifc (t : Nat) (v : AV)
structure PD where
  o : QOp
  t : T
  v : AV
  hi : Nat
inductive VF where
  | no | nil | fn (f : Nat) (a b : List AV) | other
end Eng
