import Derived.Test.YtejiebbbodealaaB3
import Derived.WalkKit
section
set_option linter.unusedVariables false
set_option linter.unusedSimpArgs false
namespace Eng
open Go Go.RowKit
abbrev Cu := List Nat × Nat × Nat
abbrev Rd := List Nat × Nat
def tyV (x : Nat) : Bool × Nat := if x = 127 ∨ x = 126 ∨ x = 112 ∨ x = 111 then (true, 0) else if x = 125 ∨ x = 124 ∨ x = 123 then (false, 5) else (false, 2)
def refV (x : Nat) : Bool := decide (x = 112 ∨ x = 111)
def cuSkip (k : Nat) (s : Cu) : Cu := (s.1.drop k, s.2.1 + k, s.2.2)
def cuOne (s : Cu) : Nat × Cu := if s.2.2 = 0 then (match s.1 with | [] => (0, ([], s.2.1, 3)) | x :: l => (x, (l, s.2.1 + 1, 0))) else (0, s)
def cuNum (s : Cu) : Nat × Cu := if s.2.2 = 0 then ((readG 32 false s.1 0 0 0).1 % 4294967296, (s.1.drop (readG 32 false s.1 0 0 0).2.1, s.2.1 + (readG 32 false s.1 0 0 0).2.1, (readG 32 false s.1 0 0 0).2.2)) else (0, s)
def cuFail (is : Bool) (e : Nat) (s : Cu) : Cu := if is = true ∧ s.2.2 = 0 then (s.1, s.2.1, e) else s
noncomputable def cuVal (s : Cu) : Nat × Cu := ((cuOne s).1, cuFail (notB (tyV (cuOne s).1).1) (tyV (cuOne s).1).2 (cuOne s).2)
noncomputable def cuValsL : Nat → List Nat → Cu → List Nat × Cu
  | 0, acc, s => (acc, s)
  | k + 1, acc, s => if s.2.2 = 0 then cuValsL k (acc ++ [(cuVal s).1]) (cuVal s).2 else (acc, s)
noncomputable def cuVals (s : Cu) : List Nat × Cu := cuValsL (cuNum s).1 [] (cuFail (ltI (.ofNat 8) (.ofNat (cuNum s).1)) 4 (cuNum s).2)
def rByte (s : Rd) : Nat × Rd := if s.2 = 0 then (match s.1 with | [] => (0, ([], 3)) | x :: l => (x, (l, 0))) else (0, s)
def rFail (e : Nat) (s : Rd) : Rd := if s.2 = 0 then (s.1, e) else s
def rNum (size : Nat) (sg : Bool) (s : Rd) : Nat × Rd := if s.2 = 0 then ((readG size sg s.1 0 0 0).1, (s.1.drop (readG size sg s.1 0 0 0).2.1, (readG size sg s.1 0 0 0).2.2)) else (0, s)
def rVal (s : Rd) : Nat × Rd := ((rByte s).1, if (rByte s).2.2 = 0 then rFail (tyV (rByte s).1).2 (rByte s).2 else (rByte s).2)
def rValsL : Nat → List Nat → Rd → List Nat × Rd
  | 0, acc, s => (acc, s)
  | k + 1, acc, s => if s.2 = 0 then rValsL k (acc ++ [(rVal s).1]) (rVal s).2 else (acc, s)
def rU32 (s : Rd) : Nat × Rd := ((rNum 32 false s).1 % 4294967296, (rNum 32 false s).2)
def rVals (s : Rd) : List Nat × Rd := rValsL (rU32 s).1 [] (if 8 < (rU32 s).1 then rFail 4 (rU32 s).2 else (rU32 s).2)
abbrev cuC (vb : AV) (s : Cu) (rest : List AV) : List AV := vb :: .int .i64 (.ofNat s.2.1) :: .int .i64 (.ofNat s.2.2) :: rest
def CuM (call : CallT) (f : Nat) (args : List AV) (res : Cu → AV) (st : Cu → Cu) : Prop := ∀ {h h0 : Hp} {G : Nat → Prop} {R : List AObj} {b : Nat} {vb : AV} (s : Cu) (rest : List AV), BIn G h0 vb s.1 → s.1.length + s.2.1 < 80000 → s.2.2 < 64 → Sep (Cel b (cuC vb s rest) :: Frz G h0 :: R) h →
  ∃ v' h', call f (.ptr b 0 :: args) h = .ok (res s) h' ∧ BIn G h0 v' (st s).1 ∧ Sep (Cel b (cuC v' (st s) rest) :: Frz G h0 :: R) h'
def CuV (call : CallT) (f : Nat) (res : Cu → List Nat) (st : Cu → Cu) : Prop := ∀ {h h0 : Hp} {G : Nat → Prop} {R : List AObj} {b : Nat} {vb : AV} (s : Cu) (rest : List AV), BIn G h0 vb s.1 → s.1.length + s.2.1 < 80000 → s.2.2 < 64 → Sep (Cel b (cuC vb s rest) :: Frz G h0 :: R) h →
  ∃ w v' h', call f [.ptr b 0] h = .ok w h' ∧ BIn G h0 v' (st s).1 ∧ Sep (OwnO 1 w (res s).length (u8s (res s)) :: Cel b (cuC v' (st s) rest) :: Frz G h0 :: R) h'
abbrev rdC (vb : AV) (s : Rd) (rest : List AV) : List AV := vb :: .int .i64 (.ofNat s.2) :: rest
def RdM (call : CallT) (f : Nat) (args : List AV) (res : Rd → AV) (st : Rd → Rd) : Prop := ∀ {h h0 : Hp} {G : Nat → Prop} {R : List AObj} {b : Nat} {vb : AV} (s : Rd) (rest : List AV), BIn G h0 vb s.1 → s.1.length < 80000 → s.2 < 64 → Sep (Cel b (rdC vb s rest) :: Frz G h0 :: R) h →
  ∃ v' h', call f (.ptr b 0 :: args) h = .ok (res s) h' ∧ BIn G h0 v' (st s).1 ∧ Sep (Cel b (rdC v' (st s) rest) :: Frz G h0 :: R) h'
def RdV (call : CallT) (f : Nat) (res : Rd → List Nat) (st : Rd → Rd) : Prop := ∀ {h h0 : Hp} {G : Nat → Prop} {R : List AObj} {b : Nat} {vb : AV} (s : Rd) (rest : List AV), BIn G h0 vb s.1 → s.1.length < 80000 → s.2 < 64 → Sep (Cel b (rdC vb s rest) :: Frz G h0 :: R) h →
  ∃ w v' h', call f [.ptr b 0] h = .ok w h' ∧ BIn G h0 v' (st s).1 ∧ Sep (OwnO 1 w (res s).length (u8s (res s)) :: Cel b (rdC v' (st s) rest) :: Frz G h0 :: R) h'
def ValS (call : CallT) (f : Nat) : Prop := ∀ (x : Nat) (h : Hp), x < 256 → call f [.int .u8 (.ofNat x)] h = .ok (.tuple [.bool (tyV x).1, .int .i64 (.ofNat (tyV x).2)]) h
def RefS (call : CallT) (f : Nat) : Prop := ∀ (x : Nat) (h : Hp), x < 256 → call f [.int .u8 (.ofNat x)] h = .ok (.bool (refV x)) h
noncomputable def fS (l : List Nat) : Cu := cuFail (notB (eqI (.ofNat (cuOne (l, 0, 0)).1) (.ofNat 96))) 2 (cuOne (l, 0, 0)).2
noncomputable def takeF (l : List Nat) : (List Nat × List Nat) × Nat × Nat :=
  if (cuVals (cuVals (fS l)).2).2.2.2 = 0 then (((cuVals (fS l)).1, (cuVals (cuVals (fS l)).2).1), (cuVals (cuVals (fS l)).2).2.2.1, 0) else (([], []), 0, (cuVals (cuVals (fS l)).2).2.2.2)
noncomputable def lS (l : List Nat) : Cu := cuFail (ltI (.ofNat 1) (.ofNat (cuOne (l, 0, 0)).1)) 2 (cuOne (l, 0, 0)).2
noncomputable def takeL (l : List Nat) : (Nat × Nat × Bool) × Nat × Nat :=
  if (cuOne (l, 0, 0)).1 = 1 then (if (cuNum (cuNum (lS l)).2).2.2.2 = 0 then (((cuNum (lS l)).1, (cuNum (cuNum (lS l)).2).1, true), (cuNum (cuNum (lS l)).2).2.2.1, 0) else ((0, 0, false), 0, (cuNum (cuNum (lS l)).2).2.2.2))
  else (if (cuNum (lS l)).2.2.2 = 0 then (((cuNum (lS l)).1, 0, false), (cuNum (lS l)).2.2.1, 0) else ((0, 0, false), 0, (cuNum (lS l)).2.2.2))
def TakeFS (call : CallT) (f : Nat) (g : List Nat → (List Nat × List Nat) × Nat × Nat) : Prop := ∀ {h h0 : Hp} {G : Nat → Prop} {R : List AObj} {vb : AV} (l : List Nat), BIn G h0 vb l → l.length < 70000 → Sep (Frz G h0 :: R) h →
  ∃ p q h', call f [vb] h = .ok (.tuple [.agg [p, q], .int .i64 (.ofNat (g l).2.1), .int .i64 (.ofNat (g l).2.2)]) h' ∧ Sep (OwnO 1 p (g l).1.1.length (u8s (g l).1.1) :: OwnO 1 q (g l).1.2.length (u8s (g l).1.2) :: Frz G h0 :: R) h'
def TakeLS (call : CallT) (f : Nat) (g : List Nat → (Nat × Nat × Bool) × Nat × Nat) : Prop := ∀ {h h0 : Hp} {G : Nat → Prop} {R : List AObj} {vb : AV} (l : List Nat), BIn G h0 vb l → l.length < 70000 → Sep (Frz G h0 :: R) h →
  ∃ h', call f [vb] h = .ok (.tuple [.agg [.int .u32 (.ofNat (g l).1.1), .int .u32 (.ofNat (g l).1.2.1), .bool (g l).1.2.2], .int .i64 (.ofNat (g l).2.1), .int .i64 (.ofNat (g l).2.2)]) h' ∧ Sep (Frz G h0 :: R) h'
noncomputable def rfS (s : Rd) : Rd := if (rByte s).1 = 96 then (rByte s).2 else rFail 2 (rByte s).2
noncomputable def rFT (s : Rd) : (List Nat × List Nat) × Rd := (((rVals (rfS s)).1, (rVals (rVals (rfS s)).2).1), (rVals (rVals (rfS s)).2).2)
noncomputable def rlS (s : Rd) : Rd := if 1 < (rByte s).1 then rFail 2 (rByte s).2 else (rByte s).2
noncomputable def rLm (s : Rd) : (Nat × Nat × Bool) × Rd := if (rByte s).1 = 1 then (((rU32 (rlS s)).1, (rU32 (rU32 (rlS s)).2).1, true), (rU32 (rU32 (rlS s)).2).2) else (((rU32 (rlS s)).1, 0, false), (rU32 (rlS s)).2)
noncomputable def takeFr (l : List Nat) : (List Nat × List Nat) × Nat × Nat := if (rFT (l, 0)).2.2 = 0 then ((rFT (l, 0)).1, l.length - (rFT (l, 0)).2.1.length, 0) else (([], []), 0, (rFT (l, 0)).2.2)
noncomputable def takeLr (l : List Nat) : (Nat × Nat × Bool) × Nat × Nat := if (rLm (l, 0)).2.2 = 0 then ((rLm (l, 0)).1, l.length - (rLm (l, 0)).2.1.length, 0) else ((0, 0, false), 0, (rLm (l, 0)).2.2)
def RdF (call : CallT) (f : Nat) : Prop := ∀ {h h0 : Hp} {G : Nat → Prop} {R : List AObj} {b : Nat} {vb : AV} (s : Rd) (rest : List AV), BIn G h0 vb s.1 → s.1.length < 80000 → s.2 < 64 → Sep (Cel b (rdC vb s rest) :: Frz G h0 :: R) h →
  ∃ p q v' h', call f [.ptr b 0] h = .ok (.agg [p, q]) h' ∧ BIn G h0 v' (rFT s).2.1 ∧ Sep (OwnO 1 p (rFT s).1.1.length (u8s (rFT s).1.1) :: OwnO 1 q (rFT s).1.2.length (u8s (rFT s).1.2) :: Cel b (rdC v' (rFT s).2 rest) :: Frz G h0 :: R) h'
def cu (s : Cu) : Rd := (s.1, s.2.2)
end Eng
end
section
set_option linter.unusedVariables false
set_option linter.unusedSimpArgs false
namespace Go.Proofs.Ytejiebbbodealaa
open Go Eng
noncomputable def size_l1 (B4 : Nat) (B5 : Nat) (B51 : List Nat) (B52 : Nat) : Nat → Nat → Nat → Nat → Option (LO (Nat × Nat × Nat) (Nat))
  | 0, _, _, _ => none
  | m + 1, A2, A6, A53 =>
    (if A53 < B52 then (gd (A53 < B51.length) (if (B51.getD A53 0) &&& 192 ≠ 128 then (some (LO.rt 0)) else
    (gd (A6 * 2 ^ 6 < 2147483648) (gd (A53 + 1 < 9223372036854775808) (size_l1 B4 B5 B51 B52 m A2 ((A6 * 2 ^ 6) ||| ((B51.getD A53 0) &&& 63)) (A53 + 1)))))) else
    (some (LO.ex (A2, A6, A53))))
noncomputable def size_l1C : AC := (.seq (.region [⟨(some 54), .q (.bin .lss (.tmp 53) (.tmp 52)), none⟩]) (.seq (.cond (.tmp 54) .skip (.exit 1)) (.seq (.block 2 (.seq (.region [⟨(some 55), .q (.idxAddrSl 1 (.tmp 51) (.tmp 53)), none⟩, ⟨(some 56), .q (.loadS (.tmp 55)), none⟩, ⟨(some 8), .q (.move (.tmp 56)), none⟩]) (.seq (.seq (.region [⟨(some 57), .q (.move (.tmp 8)), none⟩, ⟨(some 58), .q (.bin .and (.tmp 57) (.const (vb8 192))), none⟩, ⟨(some 59), .q (.eq .int true (.tmp 58) (.const (vb8 128))), none⟩]) (.cond (.tmp 59) (.seq (.region [⟨(some 2), .q (.move (.const (vi 0))), none⟩]) .ret) .skip)) (.region [⟨(some 60), .q (.move (.tmp 6)), none⟩, ⟨(some 61), .q (.bin .shl (.tmp 60) (.const (vq 6))), none⟩, ⟨(some 62), .q (.move (.tmp 8)), none⟩, ⟨(some 63), .q (.bin .and (.tmp 62) (.const (vb8 63))), none⟩, ⟨(some 64), .q (.toInt .i32 (.tmp 63)), none⟩, ⟨(some 65), .q (.bin .or (.tmp 61) (.tmp 64)), none⟩, ⟨(some 6), .q (.move (.tmp 65)), none⟩])))) (.region [⟨(some 66), .q (.bin .add (.tmp 53) (.const (vi 1))), none⟩, ⟨(some 53), .q (.move (.tmp 66)), none⟩]))))
theorem size_l1_body {call : CallT} {N : Nat} {t : T} {h : Hp} {wB51_1 : AV} {G : Nat → Prop} {h0 : Hp} {B4 : Nat} {B5 : Nat} {B51 : List Nat} {B52 : Nat} (fB5_1 : B5 < 2147483648) (fB51_2 : BIn G h0 wB51_1 B51)  {o : LO (Nat × Nat × Nat) (Nat)} {n : Nat} {A2 : Nat} {A6 : Nat} {A53 : Nat} (hN : 90000 < N) (hi : (fun (z : Nat × Nat × Nat × Nat) (h' : Hp) => size_l1 B4 B5 B51 B52 z.1 z.2.1 z.2.2.1 z.2.2.2 = some o ∧ (z.2.2.1 < 2147483648) ∧ Eng.Sep [Frz G h0] h') (n, A2, A6, A53) h)
    : ∃ s, evC call N size_l1C (ovT [(2, (vi A2)), (4, (vi B4)), (5, (AV.int .i32 (Int.ofNat B5))), (6, (AV.int .i32 (Int.ofNat A6))), (51, wB51_1), (52, (vi B52)), (53, (vi A53))] t) h = s ∧ obsS [2, 4, 5, 6, 51, 52, 53] (fun ls h' => ∃ y, ls = ((fun (z : Nat × Nat × Nat × Nat) => [(2, (vi z.2.1)), (4, (vi B4)), (5, (AV.int .i32 (Int.ofNat B5))), (6, (AV.int .i32 (Int.ofNat z.2.2.1))), (51, wB51_1), (52, (vi B52)), (53, (vi z.2.2.2))]) y).map (fun p => some p.2) ∧ (fun (z : Nat × Nat × Nat × Nat) (h' : Hp) => size_l1 B4 B5 B51 B52 z.1 z.2.1 z.2.2.1 z.2.2.2 = some o ∧ (z.2.2.1 < 2147483648) ∧ Eng.Sep [Frz G h0] h') y h' ∧ (fun (z : Nat × Nat × Nat × Nat) => z.1) y < (fun (z : Nat × Nat × Nat × Nat) => z.1) (n, A2, A6, A53)) (fun i ls h' => ∃ y, ls = ((fun (z : Nat × Nat × Nat × Nat) => [(2, (vi z.2.1)), (4, (vi B4)), (5, (AV.int .i32 (Int.ofNat B5))), (6, (AV.int .i32 (Int.ofNat z.2.2.1))), (51, wB51_1), (52, (vi B52)), (53, (vi z.2.2.2))]) y).map (fun p => some p.2) ∧ (fun (i : Nat) (z : Nat × Nat × Nat × Nat) (h' : Hp) => (i = 1) ∧ (i = 1 → o = LO.ex (z.2.1, z.2.2.1, z.2.2.2) ∧ (z.2.2.1 < 2147483648) ∧ Eng.Sep [Frz G h0] h')) i y h') (fun ls h' => (fun (ls : List (Option AV)) (h' : Hp) => ∃ (rt : Nat) (v2 : AV), o = LO.rt rt ∧ ls[0]? = some (some v2) ∧ (v2 = (vi rt) ∧ (rt < 9223372036854775808) ∧ Eng.Sep (Frz G h0 :: []) h')) ls h') s := by
  have hi : size_l1 B4 B5 B51 B52 n A2 A6 A53 = some o ∧ (A6 < 2147483648) ∧ Eng.Sep [Frz G h0] h := hi
  obtain ⟨hp, fA6_1, S⟩ := hi
  obtain ⟨m, hm⟩ : ∃ m, n = m + 1 := by
    cases n with
    | zero => first | cases hp | (unfold size_l1 at hp; cases hp) | (simp [size_l1] at hp)
    | succ m => exact ⟨m, rfl⟩
  rw [hm] at hp
  unfold size_l1 at hp
  refine walk_ok (o := (.fork 0 (.tell 0 (elemP wB51_1 A53 1) (.tell 0 (vb8 (B51.getD A53 0)) (.tell 2 (vb8 ((B51.getD A53 0) &&& 192)) (.fork 0 .fin (.tell 1 (AV.int .i32 (Int.ofNat (A6 * 2 ^ 6))) (.tell 1 (vb8 ((B51.getD A53 0) &&& 63)) (.tell 0 (AV.int .i32 (Int.ofNat ((B51.getD A53 0) &&& 63))) (.tell 0 (AV.int .i32 (Int.ofNat ((A6 * 2 ^ 6) ||| ((B51.getD A53 0) &&& 63)))) (.tell 1 (vi (A53 + 1)) .fin))))))))) .fin)) (p := (fun (KN : List (Option AV) → Hp → Prop) (KE : Nat → List (Option AV) → Hp → Prop) (KR : List (Option AV) → Hp → Prop) => ((ltI (Int.ofNat A53) (Int.ofNat B52) = true → ((evQ (.idxAddrSl 1 (.const wB51_1) (.const (vi A53))) .lf H0 = .ok (elemP wB51_1 A53 1) ∧ ((evQ (.loadS (.const (elemP wB51_1 A53 1))) .lf h = .ok (vb8 (B51.getD A53 0)) ∧ ((evQ (.bin .and (.const (vb8 (B51.getD A53 0))) (.const (vb8 192))) .lf H0 = .ok (vb8 ((B51.getD A53 0) &&& 192)) ∧ ((notB (eqI (Int.ofNat ((B51.getD A53 0) &&& 192)) (Int.ofNat 128)) = true → KR [some (vi 0), some (vi B4), some (AV.int .i32 (Int.ofNat B5)), some (AV.int .i32 (Int.ofNat A6)), some wB51_1, some (vi B52), some (vi A53)] h) ∧ (notB (eqI (Int.ofNat ((B51.getD A53 0) &&& 192)) (Int.ofNat 128)) = false → ((evQ (.bin .shl (.const (AV.int .i32 (Int.ofNat A6))) (.const (vq 6))) .lf H0 = .ok (AV.int .i32 (Int.ofNat (A6 * 2 ^ 6))) ∧ ((evQ (.bin .and (.const (vb8 (B51.getD A53 0))) (.const (vb8 63))) .lf H0 = .ok (vb8 ((B51.getD A53 0) &&& 63)) ∧ ((evQ (.toInt .i32 (.const (vb8 ((B51.getD A53 0) &&& 63)))) .lf H0 = .ok (AV.int .i32 (Int.ofNat ((B51.getD A53 0) &&& 63))) ∧ ((evQ (.bin .or (.const (AV.int .i32 (Int.ofNat (A6 * 2 ^ 6)))) (.const (AV.int .i32 (Int.ofNat ((B51.getD A53 0) &&& 63))))) .lf H0 = .ok (AV.int .i32 (Int.ofNat ((A6 * 2 ^ 6) ||| ((B51.getD A53 0) &&& 63)))) ∧ ((evQ (.bin .add (.const (vi A53)) (.const (vi 1))) .lf H0 = .ok (vi (A53 + 1)) ∧ KN [some (vi A2), some (vi B4), some (AV.int .i32 (Int.ofNat B5)), some (AV.int .i32 (Int.ofNat ((A6 * 2 ^ 6) ||| ((B51.getD A53 0) &&& 63)))), some wB51_1, some (vi B52), some (vi (A53 + 1))] h))))))))))))))))))) ∧ (ltI (Int.ofNat A53) (Int.ofNat B52) = false → KE 1 [some (vi A2), some (vi B4), some (AV.int .i32 (Int.ofNat B5)), some (AV.int .i32 (Int.ofNat A6)), some wB51_1, some (vi B52), some (vi A53)] h))) (fun ls h' => ∃ y, ls = ((fun (z : Nat × Nat × Nat × Nat) => [(2, (vi z.2.1)), (4, (vi B4)), (5, (AV.int .i32 (Int.ofNat B5))), (6, (AV.int .i32 (Int.ofNat z.2.2.1))), (51, wB51_1), (52, (vi B52)), (53, (vi z.2.2.2))]) y).map (fun p => some p.2) ∧ (fun (z : Nat × Nat × Nat × Nat) (h' : Hp) => size_l1 B4 B5 B51 B52 z.1 z.2.1 z.2.2.1 z.2.2.2 = some o ∧ (z.2.2.1 < 2147483648) ∧ Eng.Sep [Frz G h0] h') y h' ∧ (fun (z : Nat × Nat × Nat × Nat) => z.1) y < (fun (z : Nat × Nat × Nat × Nat) => z.1) (n, A2, A6, A53)) (fun i ls h' => ∃ y, ls = ((fun (z : Nat × Nat × Nat × Nat) => [(2, (vi z.2.1)), (4, (vi B4)), (5, (AV.int .i32 (Int.ofNat B5))), (6, (AV.int .i32 (Int.ofNat z.2.2.1))), (51, wB51_1), (52, (vi B52)), (53, (vi z.2.2.2))]) y).map (fun p => some p.2) ∧ (fun (i : Nat) (z : Nat × Nat × Nat × Nat) (h' : Hp) => (i = 1) ∧ (i = 1 → o = LO.ex (z.2.1, z.2.2.1, z.2.2.2) ∧ (z.2.2.1 < 2147483648) ∧ Eng.Sep [Frz G h0] h')) i y h') (fun ls h' => (fun (ls : List (Option AV)) (h' : Hp) => ∃ (rt : Nat) (v2 : AV), o = LO.rt rt ∧ ls[0]? = some (some v2) ∧ (v2 = (vi rt) ∧ (rt < 9223372036854775808) ∧ Eng.Sep (Frz G h0 :: []) h')) ls h')) (by kernel_rfl) ?_
  refine ⟨fun c1 => ?_, fun c1 => ?_⟩
  · replace c1 := ltI_t c1
    replace hp := ift hp c1
    have ⟨g2, hp⟩ := gd_inv hp
    refine ⟨q_idxB (l := B51) (BIn.now S (i := 0) rfl fB51_2) g2, ?_⟩
    refine ⟨q_byte (l := B51) (BIn.now S (i := 0) rfl fB51_2) g2, ?_⟩
    have x3 : B51.getD A53 0 < 256 := getD_lt (BIn.now S (i := 0) rfl fB51_2).lt A53
    refine ⟨u_and rfl x3 (show 192 < 256 by decide), ?_⟩
    refine ⟨fun c5 => ?_, fun c5 => ?_⟩
    · replace c5 := eqI_f (notB_t c5)
      replace hp := ift hp c5
      refine ⟨_, (vi 0), (Option.some.inj hp).symm, rfl, ?_⟩
      exact ⟨rfl, (show 0 < 9223372036854775808 by decide), S⟩
    replace c5 := eqI_t (notB_f c5)
    replace hp := iff0 hp (nneO c5)
    have ⟨g6, hp⟩ := gd_inv hp
    refine ⟨i32_shl g6, ?_⟩
    refine ⟨u_and rfl x3 (show 63 < 256 by decide), ?_⟩
    have g7 : (B51.getD A53 0) &&& 63 < 256 := Nat.lt_of_le_of_lt Nat.and_le_left x3
    refine ⟨i32_conv (Nat.lt_of_lt_of_le g7 (by decide)), ?_⟩
    refine ⟨i32_or g6 (Nat.lt_of_lt_of_le g7 (by decide)), ?_⟩
    have ⟨g8, hp⟩ := gd_inv hp
    refine ⟨q_add g8, ?_⟩
    refine ⟨(m, A2, (A6 * 2 ^ 6) ||| ((B51.getD A53 0) &&& 63), A53 + 1), rfl, ⟨hp, (Nat.or_lt_two_pow (n := 31) g6 (Nat.lt_of_lt_of_le g7 (by decide))), S⟩, by show m < n; omega⟩
  replace c1 := ltI_f c1
  replace hp := iff0 hp (nltO c1)
  refine ⟨(m, A2, A6, A53), rfl, rfl, fun _ => ⟨(Option.some.inj hp).symm, fA6_1, S⟩⟩
theorem size_l1_t {call : CallT} {N : Nat} {wB51_1 : AV} {G : Nat → Prop} {h0 : Hp} {B4 : Nat} {B5 : Nat} {B51 : List Nat} {B52 : Nat} (fB5_1 : B5 < 2147483648) (fB51_2 : BIn G h0 wB51_1 B51)  {o : LO (Nat × Nat × Nat) (Nat)} {n : Nat} {A2 : Nat} {A6 : Nat} {A53 : Nat} {h : Hp} (hi : (fun (z : Nat × Nat × Nat × Nat) (h' : Hp) => size_l1 B4 B5 B51 B52 z.1 z.2.1 z.2.2.1 z.2.2.2 = some o ∧ (z.2.2.1 < 2147483648) ∧ Eng.Sep [Frz G h0] h') (n, A2, A6, A53) h) (hN : n < N) (hN' : 90000 < N) {t : T} (ht : Has ((fun (z : Nat × Nat × Nat × Nat) => [(2, (vi z.2.1)), (4, (vi B4)), (5, (AV.int .i32 (Int.ofNat B5))), (6, (AV.int .i32 (Int.ofNat z.2.2.1))), (51, wB51_1), (52, (vi B52)), (53, (vi z.2.2.2))]) (n, A2, A6, A53)) t) :
    (∃ i y t' h', evC call N (.loop size_l1C) t h = .exit i t' h' ∧ Has ((fun (z : Nat × Nat × Nat × Nat) => [(2, (vi z.2.1)), (4, (vi B4)), (5, (AV.int .i32 (Int.ofNat B5))), (6, (AV.int .i32 (Int.ofNat z.2.2.1))), (51, wB51_1), (52, (vi B52)), (53, (vi z.2.2.2))]) y) t' ∧ (fun (i : Nat) (z : Nat × Nat × Nat × Nat) (h' : Hp) => (i = 1) ∧ (i = 1 → o = LO.ex (z.2.1, z.2.2.1, z.2.2.2) ∧ (z.2.2.1 < 2147483648) ∧ Eng.Sep [Frz G h0] h')) i y h') ∨ (∃ t' h', evC call N (.loop size_l1C) t h = .ret t' h' ∧ (fun (ls : List (Option AV)) (h' : Hp) => ∃ (rt : Nat) (v2 : AV), o = LO.rt rt ∧ ls[0]? = some (some v2) ∧ (v2 = (vi rt) ∧ (rt < 9223372036854775808) ∧ Eng.Sep (Frz G h0 :: []) h')) (slots [2, 4, 5, 6, 51, 52, 53] t') h') :=
  loop_st (fun (z : Nat × Nat × Nat × Nat) => [(2, (vi z.2.1)), (4, (vi B4)), (5, (AV.int .i32 (Int.ofNat B5))), (6, (AV.int .i32 (Int.ofNat z.2.2.1))), (51, wB51_1), (52, (vi B52)), (53, (vi z.2.2.2))]) [2, 4, 5, 6, 51, 52, 53] (fun _ => rfl) (fun (z : Nat × Nat × Nat × Nat) (h' : Hp) => size_l1 B4 B5 B51 B52 z.1 z.2.1 z.2.2.1 z.2.2.2 = some o ∧ (z.2.2.1 < 2147483648) ∧ Eng.Sep [Frz G h0] h') (fun (z : Nat × Nat × Nat × Nat) => z.1) (fun (i : Nat) (z : Nat × Nat × Nat × Nat) (h' : Hp) => (i = 1) ∧ (i = 1 → o = LO.ex (z.2.1, z.2.2.1, z.2.2.2) ∧ (z.2.2.1 < 2147483648) ∧ Eng.Sep [Frz G h0] h')) (fun (ls : List (Option AV)) (h' : Hp) => ∃ (rt : Nat) (v2 : AV), o = LO.rt rt ∧ ls[0]? = some (some v2) ∧ (v2 = (vi rt) ∧ (rt < 9223372036854775808) ∧ Eng.Sep (Frz G h0 :: []) h')) (fun ⟨n, A2, A6, A53⟩ t h hi => size_l1_body fB5_1 fB51_2 hN' hi) (n, A2, A6, A53) h hi hN t ht
noncomputable def size_p (l : List Nat) : Option (Nat) :=
  (gd (0 < l.length) (if l.getD 0 0 < 128 then (some 1) else
    (if 192 ≤ l.getD 0 0 then (if l.getD 0 0 < 224 then (if l.length < 2 then (some 0) else
    (ob (size_l1 2 128 ((l.take 2).drop 1) (((l.take 2).drop 1).length) 90000 0 ((l.getD 0 0) &&& 31) 0) fun o8 =>
    (LO.on o8 (fun s_o8 => (if s_o8.2.1 < 128 then (some 0) else
    (if 1114111 < s_o8.2.1 then (some 0) else
    (if 55296 ≤ s_o8.2.1 then (if s_o8.2.1 ≤ 57343 then (some 0) else
    (some 2)) else
    (some 2))))) (fun y15 =>
    (some y15))))) else
    (if l.getD 0 0 < 240 then (if l.length < 3 then (some 0) else
    (ob (size_l1 3 2048 ((l.take 3).drop 1) (((l.take 3).drop 1).length) 90000 0 ((l.getD 0 0) &&& 15) 0) fun o9 =>
    (LO.on o9 (fun s_o9 => (if s_o9.2.1 < 2048 then (some 0) else
    (if 1114111 < s_o9.2.1 then (some 0) else
    (if 55296 ≤ s_o9.2.1 then (if s_o9.2.1 ≤ 57343 then (some 0) else
    (some 3)) else
    (some 3))))) (fun y16 =>
    (some y16))))) else
    (if l.getD 0 0 < 248 then (if l.length < 4 then (some 0) else
    (ob (size_l1 4 65536 ((l.take 4).drop 1) (((l.take 4).drop 1).length) 90000 0 ((l.getD 0 0) &&& 7) 0) fun o10 =>
    (LO.on o10 (fun s_o10 => (if s_o10.2.1 < 65536 then (some 0) else
    (if 1114111 < s_o10.2.1 then (some 0) else
    (if 55296 ≤ s_o10.2.1 then (if s_o10.2.1 ≤ 57343 then (some 0) else
    (some 4)) else
    (some 4))))) (fun y17 =>
    (some y17))))) else
    (some 0)))) else
    (if 224 ≤ l.getD 0 0 then (if l.getD 0 0 < 240 then (if l.length < 3 then (some 0) else
    (ob (size_l1 3 2048 ((l.take 3).drop 1) (((l.take 3).drop 1).length) 90000 0 ((l.getD 0 0) &&& 15) 0) fun o9 =>
    (LO.on o9 (fun s_o9 => (if s_o9.2.1 < 2048 then (some 0) else
    (if 1114111 < s_o9.2.1 then (some 0) else
    (if 55296 ≤ s_o9.2.1 then (if s_o9.2.1 ≤ 57343 then (some 0) else
    (some 3)) else
    (some 3))))) (fun y16 =>
    (some y16))))) else
    (if l.getD 0 0 < 248 then (if l.length < 4 then (some 0) else
    (ob (size_l1 4 65536 ((l.take 4).drop 1) (((l.take 4).drop 1).length) 90000 0 ((l.getD 0 0) &&& 7) 0) fun o10 =>
    (LO.on o10 (fun s_o10 => (if s_o10.2.1 < 65536 then (some 0) else
    (if 1114111 < s_o10.2.1 then (some 0) else
    (if 55296 ≤ s_o10.2.1 then (if s_o10.2.1 ≤ 57343 then (some 0) else
    (some 4)) else
    (some 4))))) (fun y17 =>
    (some y17))))) else
    (some 0))) else
    (if 240 ≤ l.getD 0 0 then (if l.getD 0 0 < 248 then (if l.length < 4 then (some 0) else
    (ob (size_l1 4 65536 ((l.take 4).drop 1) (((l.take 4).drop 1).length) 90000 0 ((l.getD 0 0) &&& 7) 0) fun o10 =>
    (LO.on o10 (fun s_o10 => (if s_o10.2.1 < 65536 then (some 0) else
    (if 1114111 < s_o10.2.1 then (some 0) else
    (if 55296 ≤ s_o10.2.1 then (if s_o10.2.1 ≤ 57343 then (some 0) else
    (some 4)) else
    (some 4))))) (fun y17 =>
    (some y17))))) else
    (some 0)) else
    (some 0))))))
theorem size_w {call : CallT} {N : Nat} {h : Hp} {wl_1 : AV} {l : List Nat} (fl_2 : BIn (Low h) h wl_1 l)  (hN : 90000 < N) {r : Nat} (hp : size_p l = some r) :
    ∃ rv rh, evF1 (progS Try.prog (compDrawn Try.prog)) N call 66 [wl_1] h = .ok rv rh ∧ (fun (rv : AV) (rh : Hp) => rv = (vi r) ∧ (r < 9223372036854775808) ∧ Eng.Sep (Frz (Low h) h :: []) rh) rv rh := by
  have S : Eng.Sep [Frz (Low h) h] h := Sep.start h
  unfold size_p at hp
  refine fwalk_ok (K := (fun (rv : AV) (rh : Hp) => rv = (vi r) ∧ (r < 9223372036854775808) ∧ Eng.Sep (Frz (Low h) h :: []) rh)) (o := (.tell 2 (elemP wl_1 0 1) (.tell 0 (vb8 (l.getD 0 0)) (.fork 5 .fin (.fork 2 (.fork 3 (.tell 6 (vi l.length) (.fork 2 .fin (.tell 1 (AV.int .i32 (Int.ofNat (l.getD 0 0))) (.tell 2 (AV.int .i32 (Int.ofNat ((l.getD 0 0) &&& 31))) (.tell 3 (partS wl_1 1 2) (.tell 0 (vi (((l.take 2).drop 1).length)) (.dis 1 (.exi 0 fun (A2o8 : Nat) => (.exi 0 fun (A6o8 : Nat) => (.exi 0 fun (A53o8 : Nat) => (.exi 0 fun (t11 : T) => (.exi 0 fun (h12 : Hp) => (.lp 0 (.exit 1 (ovT [(2, (vi A2o8)), (4, (vi 2)), (5, (AV.int .i32 (Int.ofNat 128))), (6, (AV.int .i32 (Int.ofNat A6o8))), (51, (partS wl_1 1 2)), (52, (vi (((l.take 2).drop 1).length))), (53, (vi A53o8))] t11) h12) (.fork 3 .fin (.fork 3 .fin (.fork 2 (.fork 3 .fin .fin) .fin))))))))) (.exi 0 fun (y15 : Nat) => (.exi 0 fun (v2o8 : AV) => (.exi 0 fun (t13 : T) => (.exi 0 fun (h14 : Hp) => (.lp 0 (.ret (ovT [(2, v2o8)] t13) h14) .fin)))))))))))) (.tell 2 (AV.bool true) (.fork 3 (.tell 6 (vi l.length) (.fork 2 .fin (.tell 1 (AV.int .i32 (Int.ofNat (l.getD 0 0))) (.tell 2 (AV.int .i32 (Int.ofNat ((l.getD 0 0) &&& 15))) (.tell 3 (partS wl_1 1 3) (.tell 0 (vi (((l.take 3).drop 1).length)) (.dis 1 (.exi 0 fun (A2o9 : Nat) => (.exi 0 fun (A6o9 : Nat) => (.exi 0 fun (A53o9 : Nat) => (.exi 0 fun (t12 : T) => (.exi 0 fun (h13 : Hp) => (.lp 0 (.exit 1 (ovT [(2, (vi A2o9)), (4, (vi 3)), (5, (AV.int .i32 (Int.ofNat 2048))), (6, (AV.int .i32 (Int.ofNat A6o9))), (51, (partS wl_1 1 3)), (52, (vi (((l.take 3).drop 1).length))), (53, (vi A53o9))] t12) h13) (.fork 3 .fin (.fork 3 .fin (.fork 2 (.fork 3 .fin .fin) .fin))))))))) (.exi 0 fun (y16 : Nat) => (.exi 0 fun (v2o9 : AV) => (.exi 0 fun (t14 : T) => (.exi 0 fun (h15 : Hp) => (.lp 0 (.ret (ovT [(2, v2o9)] t14) h15) .fin)))))))))))) (.tell 2 (AV.bool true) (.fork 3 (.tell 6 (vi l.length) (.fork 2 .fin (.tell 1 (AV.int .i32 (Int.ofNat (l.getD 0 0))) (.tell 2 (AV.int .i32 (Int.ofNat ((l.getD 0 0) &&& 7))) (.tell 3 (partS wl_1 1 4) (.tell 0 (vi (((l.take 4).drop 1).length)) (.dis 1 (.exi 0 fun (A2o10 : Nat) => (.exi 0 fun (A6o10 : Nat) => (.exi 0 fun (A53o10 : Nat) => (.exi 0 fun (t13 : T) => (.exi 0 fun (h14 : Hp) => (.lp 0 (.exit 1 (ovT [(2, (vi A2o10)), (4, (vi 4)), (5, (AV.int .i32 (Int.ofNat 65536))), (6, (AV.int .i32 (Int.ofNat A6o10))), (51, (partS wl_1 1 4)), (52, (vi (((l.take 4).drop 1).length))), (53, (vi A53o10))] t13) h14) (.fork 3 .fin (.fork 3 .fin (.fork 2 (.fork 3 .fin .fin) .fin))))))))) (.exi 0 fun (y17 : Nat) => (.exi 0 fun (v2o10 : AV) => (.exi 0 fun (t15 : T) => (.exi 0 fun (h16 : Hp) => (.lp 0 (.ret (ovT [(2, v2o10)] t15) h16) .fin)))))))))))) .fin))))) (.fork 4 (.fork 3 (.tell 6 (vi l.length) (.fork 2 .fin (.tell 1 (AV.int .i32 (Int.ofNat (l.getD 0 0))) (.tell 2 (AV.int .i32 (Int.ofNat ((l.getD 0 0) &&& 15))) (.tell 3 (partS wl_1 1 3) (.tell 0 (vi (((l.take 3).drop 1).length)) (.dis 1 (.exi 0 fun (A2o9 : Nat) => (.exi 0 fun (A6o9 : Nat) => (.exi 0 fun (A53o9 : Nat) => (.exi 0 fun (t12 : T) => (.exi 0 fun (h13 : Hp) => (.lp 0 (.exit 1 (ovT [(2, (vi A2o9)), (4, (vi 3)), (5, (AV.int .i32 (Int.ofNat 2048))), (6, (AV.int .i32 (Int.ofNat A6o9))), (51, (partS wl_1 1 3)), (52, (vi (((l.take 3).drop 1).length))), (53, (vi A53o9))] t12) h13) (.fork 3 .fin (.fork 3 .fin (.fork 2 (.fork 3 .fin .fin) .fin))))))))) (.exi 0 fun (y16 : Nat) => (.exi 0 fun (v2o9 : AV) => (.exi 0 fun (t14 : T) => (.exi 0 fun (h15 : Hp) => (.lp 0 (.ret (ovT [(2, v2o9)] t14) h15) .fin)))))))))))) (.tell 2 (AV.bool true) (.fork 3 (.tell 6 (vi l.length) (.fork 2 .fin (.tell 1 (AV.int .i32 (Int.ofNat (l.getD 0 0))) (.tell 2 (AV.int .i32 (Int.ofNat ((l.getD 0 0) &&& 7))) (.tell 3 (partS wl_1 1 4) (.tell 0 (vi (((l.take 4).drop 1).length)) (.dis 1 (.exi 0 fun (A2o10 : Nat) => (.exi 0 fun (A6o10 : Nat) => (.exi 0 fun (A53o10 : Nat) => (.exi 0 fun (t13 : T) => (.exi 0 fun (h14 : Hp) => (.lp 0 (.exit 1 (ovT [(2, (vi A2o10)), (4, (vi 4)), (5, (AV.int .i32 (Int.ofNat 65536))), (6, (AV.int .i32 (Int.ofNat A6o10))), (51, (partS wl_1 1 4)), (52, (vi (((l.take 4).drop 1).length))), (53, (vi A53o10))] t13) h14) (.fork 3 .fin (.fork 3 .fin (.fork 2 (.fork 3 .fin .fin) .fin))))))))) (.exi 0 fun (y17 : Nat) => (.exi 0 fun (v2o10 : AV) => (.exi 0 fun (t15 : T) => (.exi 0 fun (h16 : Hp) => (.lp 0 (.ret (ovT [(2, v2o10)] t15) h16) .fin)))))))))))) .fin))) (.fork 4 (.fork 3 (.tell 6 (vi l.length) (.fork 2 .fin (.tell 1 (AV.int .i32 (Int.ofNat (l.getD 0 0))) (.tell 2 (AV.int .i32 (Int.ofNat ((l.getD 0 0) &&& 7))) (.tell 3 (partS wl_1 1 4) (.tell 0 (vi (((l.take 4).drop 1).length)) (.dis 1 (.exi 0 fun (A2o10 : Nat) => (.exi 0 fun (A6o10 : Nat) => (.exi 0 fun (A53o10 : Nat) => (.exi 0 fun (t13 : T) => (.exi 0 fun (h14 : Hp) => (.lp 0 (.exit 1 (ovT [(2, (vi A2o10)), (4, (vi 4)), (5, (AV.int .i32 (Int.ofNat 65536))), (6, (AV.int .i32 (Int.ofNat A6o10))), (51, (partS wl_1 1 4)), (52, (vi (((l.take 4).drop 1).length))), (53, (vi A53o10))] t13) h14) (.fork 3 .fin (.fork 3 .fin (.fork 2 (.fork 3 .fin .fin) .fin))))))))) (.exi 0 fun (y17 : Nat) => (.exi 0 fun (v2o10 : AV) => (.exi 0 fun (t15 : T) => (.exi 0 fun (h16 : Hp) => (.lp 0 (.ret (ovT [(2, v2o10)] t15) h16) .fin)))))))))))) .fin) .fin))))))) (p := (fun (KK : AV → Hp → Prop) => ((evQ (.idxAddrSl 1 (.const wl_1) (.const (vi 0))) .lf H0 = .ok (elemP wl_1 0 1) ∧ ((evQ (.loadS (.const (elemP wl_1 0 1))) .lf h = .ok (vb8 (l.getD 0 0)) ∧ ((ltI (Int.ofNat (l.getD 0 0)) (Int.ofNat 128) = true → KK (vi 1) h) ∧ (ltI (Int.ofNat (l.getD 0 0)) (Int.ofNat 128) = false → ((notB (ltI (Int.ofNat (l.getD 0 0)) (Int.ofNat 192)) = true → ((ltI (Int.ofNat (l.getD 0 0)) (Int.ofNat 224) = true → ((evQ (.lenL (.const wl_1)) .lf H0 = .ok (vi l.length) ∧ ((ltI (Int.ofNat l.length) (Int.ofNat 2) = true → KK (vi 0) h) ∧ (ltI (Int.ofNat l.length) (Int.ofNat 2) = false → ((evQ (.toInt .i32 (.const (vb8 (l.getD 0 0)))) .lf H0 = .ok (AV.int .i32 (Int.ofNat (l.getD 0 0))) ∧ ((evQ (.bin .and (.const (AV.int .i32 (Int.ofNat (l.getD 0 0)))) (.const (AV.int .i32 (Int.ofNat 31)))) .lf H0 = .ok (AV.int .i32 (Int.ofNat ((l.getD 0 0) &&& 31))) ∧ ((evQ (.sliceSl 1 (.const wl_1) (some (.const (vi 1))) (some (.const (vi 2))) none) .lf H0 = .ok (partS wl_1 1 2) ∧ ((evQ (.lenL (.const (partS wl_1 1 2))) .lf H0 = .ok (vi (((l.take 2).drop 1).length)) ∧ ((∃ A2o8 : Nat, ∃ A6o8 : Nat, ∃ A53o8 : Nat, ∃ t11 : T, ∃ h12 : Hp, (evC call N (.loop size_l1C) (ovT [(0, wl_1), (2, (vi 0)), (3, (vb8 (l.getD 0 0))), (4, (vi 2)), (5, (AV.int .i32 (Int.ofNat 128))), (6, (AV.int .i32 (Int.ofNat ((l.getD 0 0) &&& 31)))), (9, wl_1), (10, (elemP wl_1 0 1)), (11, (vb8 (l.getD 0 0))), (12, (AV.bool false)), (13, (vb8 (l.getD 0 0))), (14, (AV.bool (ltI (Int.ofNat (l.getD 0 0)) (Int.ofNat 128)))), (15, (AV.bool true)), (16, (vb8 (l.getD 0 0))), (17, (AV.bool (notB (ltI (Int.ofNat (l.getD 0 0)) (Int.ofNat 192))))), (18, (AV.bool true)), (19, (vb8 (l.getD 0 0))), (20, (AV.bool (ltI (Int.ofNat (l.getD 0 0)) (Int.ofNat 224)))), (21, (AV.bool (ltI (Int.ofNat (l.getD 0 0)) (Int.ofNat 224)))), (36, (vi 2)), (37, (AV.bool false)), (38, (AV.bool false)), (39, wl_1), (40, (vi l.length)), (41, (vi 2)), (42, (AV.bool (ltI (Int.ofNat l.length) (Int.ofNat 2)))), (43, (AV.bool false)), (44, (vb8 (l.getD 0 0))), (45, (AV.int .i32 (Int.ofNat (l.getD 0 0)))), (46, (vi 2)), (47, (AV.int .i32 (Int.ofNat 31))), (48, (AV.int .i32 (Int.ofNat ((l.getD 0 0) &&& 31)))), (49, wl_1), (50, (vi 2)), (51, (partS wl_1 1 2)), (52, (vi (((l.take 2).drop 1).length))), (53, (vi 0))] .lf) h = (.exit 1 (ovT [(2, (vi A2o8)), (4, (vi 2)), (5, (AV.int .i32 (Int.ofNat 128))), (6, (AV.int .i32 (Int.ofNat A6o8))), (51, (partS wl_1 1 2)), (52, (vi (((l.take 2).drop 1).length))), (53, (vi A53o8))] t11) h12) ∧ True ∧ ((ltI (Int.ofNat A6o8) (Int.ofNat 128) = true → KK (vi 0) h12) ∧ (ltI (Int.ofNat A6o8) (Int.ofNat 128) = false → ((ltI (Int.ofNat 1114111) (Int.ofNat A6o8) = true → KK (vi 0) h12) ∧ (ltI (Int.ofNat 1114111) (Int.ofNat A6o8) = false → ((notB (ltI (Int.ofNat A6o8) (Int.ofNat 55296)) = true → ((notB (ltI (Int.ofNat 57343) (Int.ofNat A6o8)) = true → KK (vi 0) h12) ∧ (notB (ltI (Int.ofNat 57343) (Int.ofNat A6o8)) = false → KK (vi 2) h12))) ∧ (notB (ltI (Int.ofNat A6o8) (Int.ofNat 55296)) = false → KK (vi 2) h12)))))))) ∨ (∃ y15 : Nat, ∃ v2o8 : AV, ∃ t13 : T, ∃ h14 : Hp, (evC call N (.loop size_l1C) (ovT [(0, wl_1), (2, (vi 0)), (3, (vb8 (l.getD 0 0))), (4, (vi 2)), (5, (AV.int .i32 (Int.ofNat 128))), (6, (AV.int .i32 (Int.ofNat ((l.getD 0 0) &&& 31)))), (9, wl_1), (10, (elemP wl_1 0 1)), (11, (vb8 (l.getD 0 0))), (12, (AV.bool false)), (13, (vb8 (l.getD 0 0))), (14, (AV.bool (ltI (Int.ofNat (l.getD 0 0)) (Int.ofNat 128)))), (15, (AV.bool true)), (16, (vb8 (l.getD 0 0))), (17, (AV.bool (notB (ltI (Int.ofNat (l.getD 0 0)) (Int.ofNat 192))))), (18, (AV.bool true)), (19, (vb8 (l.getD 0 0))), (20, (AV.bool (ltI (Int.ofNat (l.getD 0 0)) (Int.ofNat 224)))), (21, (AV.bool (ltI (Int.ofNat (l.getD 0 0)) (Int.ofNat 224)))), (36, (vi 2)), (37, (AV.bool false)), (38, (AV.bool false)), (39, wl_1), (40, (vi l.length)), (41, (vi 2)), (42, (AV.bool (ltI (Int.ofNat l.length) (Int.ofNat 2)))), (43, (AV.bool false)), (44, (vb8 (l.getD 0 0))), (45, (AV.int .i32 (Int.ofNat (l.getD 0 0)))), (46, (vi 2)), (47, (AV.int .i32 (Int.ofNat 31))), (48, (AV.int .i32 (Int.ofNat ((l.getD 0 0) &&& 31)))), (49, wl_1), (50, (vi 2)), (51, (partS wl_1 1 2)), (52, (vi (((l.take 2).drop 1).length))), (53, (vi 0))] .lf) h = (.ret (ovT [(2, v2o8)] t13) h14) ∧ True ∧ KK v2o8 h14)))))))))))))))) ∧ (ltI (Int.ofNat (l.getD 0 0)) (Int.ofNat 224) = false → ((evQ (.move (.const (AV.bool (notB (ltI (Int.ofNat (l.getD 0 0)) (Int.ofNat 224)))))) .lf H0 = .ok (AV.bool true) ∧ ((ltI (Int.ofNat (l.getD 0 0)) (Int.ofNat 240) = true → ((evQ (.lenL (.const wl_1)) .lf H0 = .ok (vi l.length) ∧ ((ltI (Int.ofNat l.length) (Int.ofNat 3) = true → KK (vi 0) h) ∧ (ltI (Int.ofNat l.length) (Int.ofNat 3) = false → ((evQ (.toInt .i32 (.const (vb8 (l.getD 0 0)))) .lf H0 = .ok (AV.int .i32 (Int.ofNat (l.getD 0 0))) ∧ ((evQ (.bin .and (.const (AV.int .i32 (Int.ofNat (l.getD 0 0)))) (.const (AV.int .i32 (Int.ofNat 15)))) .lf H0 = .ok (AV.int .i32 (Int.ofNat ((l.getD 0 0) &&& 15))) ∧ ((evQ (.sliceSl 1 (.const wl_1) (some (.const (vi 1))) (some (.const (vi 3))) none) .lf H0 = .ok (partS wl_1 1 3) ∧ ((evQ (.lenL (.const (partS wl_1 1 3))) .lf H0 = .ok (vi (((l.take 3).drop 1).length)) ∧ ((∃ A2o9 : Nat, ∃ A6o9 : Nat, ∃ A53o9 : Nat, ∃ t12 : T, ∃ h13 : Hp, (evC call N (.loop size_l1C) (ovT [(0, wl_1), (2, (vi 0)), (3, (vb8 (l.getD 0 0))), (4, (vi 3)), (5, (AV.int .i32 (Int.ofNat 2048))), (6, (AV.int .i32 (Int.ofNat ((l.getD 0 0) &&& 15)))), (9, wl_1), (10, (elemP wl_1 0 1)), (11, (vb8 (l.getD 0 0))), (12, (AV.bool false)), (13, (vb8 (l.getD 0 0))), (14, (AV.bool (ltI (Int.ofNat (l.getD 0 0)) (Int.ofNat 128)))), (15, (AV.bool false)), (16, (vb8 (l.getD 0 0))), (17, (AV.bool (notB (ltI (Int.ofNat (l.getD 0 0)) (Int.ofNat 192))))), (18, (AV.bool true)), (19, (vb8 (l.getD 0 0))), (20, (AV.bool (ltI (Int.ofNat (l.getD 0 0)) (Int.ofNat 224)))), (21, (AV.bool (ltI (Int.ofNat (l.getD 0 0)) (Int.ofNat 224)))), (22, (AV.bool true)), (23, (vb8 (l.getD 0 0))), (24, (AV.bool (notB (ltI (Int.ofNat (l.getD 0 0)) (Int.ofNat 224))))), (25, (AV.bool true)), (26, (vb8 (l.getD 0 0))), (27, (AV.bool (ltI (Int.ofNat (l.getD 0 0)) (Int.ofNat 240)))), (28, (AV.bool (ltI (Int.ofNat (l.getD 0 0)) (Int.ofNat 240)))), (36, (vi 3)), (37, (AV.bool false)), (38, (AV.bool false)), (39, wl_1), (40, (vi l.length)), (41, (vi 3)), (42, (AV.bool (ltI (Int.ofNat l.length) (Int.ofNat 3)))), (43, (AV.bool false)), (44, (vb8 (l.getD 0 0))), (45, (AV.int .i32 (Int.ofNat (l.getD 0 0)))), (46, (vi 3)), (47, (AV.int .i32 (Int.ofNat 15))), (48, (AV.int .i32 (Int.ofNat ((l.getD 0 0) &&& 15)))), (49, wl_1), (50, (vi 3)), (51, (partS wl_1 1 3)), (52, (vi (((l.take 3).drop 1).length))), (53, (vi 0))] .lf) h = (.exit 1 (ovT [(2, (vi A2o9)), (4, (vi 3)), (5, (AV.int .i32 (Int.ofNat 2048))), (6, (AV.int .i32 (Int.ofNat A6o9))), (51, (partS wl_1 1 3)), (52, (vi (((l.take 3).drop 1).length))), (53, (vi A53o9))] t12) h13) ∧ True ∧ ((ltI (Int.ofNat A6o9) (Int.ofNat 2048) = true → KK (vi 0) h13) ∧ (ltI (Int.ofNat A6o9) (Int.ofNat 2048) = false → ((ltI (Int.ofNat 1114111) (Int.ofNat A6o9) = true → KK (vi 0) h13) ∧ (ltI (Int.ofNat 1114111) (Int.ofNat A6o9) = false → ((notB (ltI (Int.ofNat A6o9) (Int.ofNat 55296)) = true → ((notB (ltI (Int.ofNat 57343) (Int.ofNat A6o9)) = true → KK (vi 0) h13) ∧ (notB (ltI (Int.ofNat 57343) (Int.ofNat A6o9)) = false → KK (vi 3) h13))) ∧ (notB (ltI (Int.ofNat A6o9) (Int.ofNat 55296)) = false → KK (vi 3) h13)))))))) ∨ (∃ y16 : Nat, ∃ v2o9 : AV, ∃ t14 : T, ∃ h15 : Hp, (evC call N (.loop size_l1C) (ovT [(0, wl_1), (2, (vi 0)), (3, (vb8 (l.getD 0 0))), (4, (vi 3)), (5, (AV.int .i32 (Int.ofNat 2048))), (6, (AV.int .i32 (Int.ofNat ((l.getD 0 0) &&& 15)))), (9, wl_1), (10, (elemP wl_1 0 1)), (11, (vb8 (l.getD 0 0))), (12, (AV.bool false)), (13, (vb8 (l.getD 0 0))), (14, (AV.bool (ltI (Int.ofNat (l.getD 0 0)) (Int.ofNat 128)))), (15, (AV.bool false)), (16, (vb8 (l.getD 0 0))), (17, (AV.bool (notB (ltI (Int.ofNat (l.getD 0 0)) (Int.ofNat 192))))), (18, (AV.bool true)), (19, (vb8 (l.getD 0 0))), (20, (AV.bool (ltI (Int.ofNat (l.getD 0 0)) (Int.ofNat 224)))), (21, (AV.bool (ltI (Int.ofNat (l.getD 0 0)) (Int.ofNat 224)))), (22, (AV.bool true)), (23, (vb8 (l.getD 0 0))), (24, (AV.bool (notB (ltI (Int.ofNat (l.getD 0 0)) (Int.ofNat 224))))), (25, (AV.bool true)), (26, (vb8 (l.getD 0 0))), (27, (AV.bool (ltI (Int.ofNat (l.getD 0 0)) (Int.ofNat 240)))), (28, (AV.bool (ltI (Int.ofNat (l.getD 0 0)) (Int.ofNat 240)))), (36, (vi 3)), (37, (AV.bool false)), (38, (AV.bool false)), (39, wl_1), (40, (vi l.length)), (41, (vi 3)), (42, (AV.bool (ltI (Int.ofNat l.length) (Int.ofNat 3)))), (43, (AV.bool false)), (44, (vb8 (l.getD 0 0))), (45, (AV.int .i32 (Int.ofNat (l.getD 0 0)))), (46, (vi 3)), (47, (AV.int .i32 (Int.ofNat 15))), (48, (AV.int .i32 (Int.ofNat ((l.getD 0 0) &&& 15)))), (49, wl_1), (50, (vi 3)), (51, (partS wl_1 1 3)), (52, (vi (((l.take 3).drop 1).length))), (53, (vi 0))] .lf) h = (.ret (ovT [(2, v2o9)] t14) h15) ∧ True ∧ KK v2o9 h15)))))))))))))))) ∧ (ltI (Int.ofNat (l.getD 0 0)) (Int.ofNat 240) = false → ((evQ (.move (.const (AV.bool (notB (ltI (Int.ofNat (l.getD 0 0)) (Int.ofNat 240)))))) .lf H0 = .ok (AV.bool true) ∧ ((ltI (Int.ofNat (l.getD 0 0)) (Int.ofNat 248) = true → ((evQ (.lenL (.const wl_1)) .lf H0 = .ok (vi l.length) ∧ ((ltI (Int.ofNat l.length) (Int.ofNat 4) = true → KK (vi 0) h) ∧ (ltI (Int.ofNat l.length) (Int.ofNat 4) = false → ((evQ (.toInt .i32 (.const (vb8 (l.getD 0 0)))) .lf H0 = .ok (AV.int .i32 (Int.ofNat (l.getD 0 0))) ∧ ((evQ (.bin .and (.const (AV.int .i32 (Int.ofNat (l.getD 0 0)))) (.const (AV.int .i32 (Int.ofNat 7)))) .lf H0 = .ok (AV.int .i32 (Int.ofNat ((l.getD 0 0) &&& 7))) ∧ ((evQ (.sliceSl 1 (.const wl_1) (some (.const (vi 1))) (some (.const (vi 4))) none) .lf H0 = .ok (partS wl_1 1 4) ∧ ((evQ (.lenL (.const (partS wl_1 1 4))) .lf H0 = .ok (vi (((l.take 4).drop 1).length)) ∧ ((∃ A2o10 : Nat, ∃ A6o10 : Nat, ∃ A53o10 : Nat, ∃ t13 : T, ∃ h14 : Hp, (evC call N (.loop size_l1C) (ovT [(0, wl_1), (2, (vi 0)), (3, (vb8 (l.getD 0 0))), (4, (vi 4)), (5, (AV.int .i32 (Int.ofNat 65536))), (6, (AV.int .i32 (Int.ofNat ((l.getD 0 0) &&& 7)))), (9, wl_1), (10, (elemP wl_1 0 1)), (11, (vb8 (l.getD 0 0))), (12, (AV.bool false)), (13, (vb8 (l.getD 0 0))), (14, (AV.bool (ltI (Int.ofNat (l.getD 0 0)) (Int.ofNat 128)))), (15, (AV.bool false)), (16, (vb8 (l.getD 0 0))), (17, (AV.bool (notB (ltI (Int.ofNat (l.getD 0 0)) (Int.ofNat 192))))), (18, (AV.bool true)), (19, (vb8 (l.getD 0 0))), (20, (AV.bool (ltI (Int.ofNat (l.getD 0 0)) (Int.ofNat 224)))), (21, (AV.bool (ltI (Int.ofNat (l.getD 0 0)) (Int.ofNat 224)))), (22, (AV.bool false)), (23, (vb8 (l.getD 0 0))), (24, (AV.bool (notB (ltI (Int.ofNat (l.getD 0 0)) (Int.ofNat 224))))), (25, (AV.bool true)), (26, (vb8 (l.getD 0 0))), (27, (AV.bool (ltI (Int.ofNat (l.getD 0 0)) (Int.ofNat 240)))), (28, (AV.bool (ltI (Int.ofNat (l.getD 0 0)) (Int.ofNat 240)))), (29, (AV.bool true)), (30, (vb8 (l.getD 0 0))), (31, (AV.bool (notB (ltI (Int.ofNat (l.getD 0 0)) (Int.ofNat 240))))), (32, (AV.bool true)), (33, (vb8 (l.getD 0 0))), (34, (AV.bool (ltI (Int.ofNat (l.getD 0 0)) (Int.ofNat 248)))), (35, (AV.bool (ltI (Int.ofNat (l.getD 0 0)) (Int.ofNat 248)))), (36, (vi 4)), (37, (AV.bool false)), (38, (AV.bool false)), (39, wl_1), (40, (vi l.length)), (41, (vi 4)), (42, (AV.bool (ltI (Int.ofNat l.length) (Int.ofNat 4)))), (43, (AV.bool false)), (44, (vb8 (l.getD 0 0))), (45, (AV.int .i32 (Int.ofNat (l.getD 0 0)))), (46, (vi 4)), (47, (AV.int .i32 (Int.ofNat 7))), (48, (AV.int .i32 (Int.ofNat ((l.getD 0 0) &&& 7)))), (49, wl_1), (50, (vi 4)), (51, (partS wl_1 1 4)), (52, (vi (((l.take 4).drop 1).length))), (53, (vi 0))] .lf) h = (.exit 1 (ovT [(2, (vi A2o10)), (4, (vi 4)), (5, (AV.int .i32 (Int.ofNat 65536))), (6, (AV.int .i32 (Int.ofNat A6o10))), (51, (partS wl_1 1 4)), (52, (vi (((l.take 4).drop 1).length))), (53, (vi A53o10))] t13) h14) ∧ True ∧ ((ltI (Int.ofNat A6o10) (Int.ofNat 65536) = true → KK (vi 0) h14) ∧ (ltI (Int.ofNat A6o10) (Int.ofNat 65536) = false → ((ltI (Int.ofNat 1114111) (Int.ofNat A6o10) = true → KK (vi 0) h14) ∧ (ltI (Int.ofNat 1114111) (Int.ofNat A6o10) = false → ((notB (ltI (Int.ofNat A6o10) (Int.ofNat 55296)) = true → ((notB (ltI (Int.ofNat 57343) (Int.ofNat A6o10)) = true → KK (vi 0) h14) ∧ (notB (ltI (Int.ofNat 57343) (Int.ofNat A6o10)) = false → KK (vi 4) h14))) ∧ (notB (ltI (Int.ofNat A6o10) (Int.ofNat 55296)) = false → KK (vi 4) h14)))))))) ∨ (∃ y17 : Nat, ∃ v2o10 : AV, ∃ t15 : T, ∃ h16 : Hp, (evC call N (.loop size_l1C) (ovT [(0, wl_1), (2, (vi 0)), (3, (vb8 (l.getD 0 0))), (4, (vi 4)), (5, (AV.int .i32 (Int.ofNat 65536))), (6, (AV.int .i32 (Int.ofNat ((l.getD 0 0) &&& 7)))), (9, wl_1), (10, (elemP wl_1 0 1)), (11, (vb8 (l.getD 0 0))), (12, (AV.bool false)), (13, (vb8 (l.getD 0 0))), (14, (AV.bool (ltI (Int.ofNat (l.getD 0 0)) (Int.ofNat 128)))), (15, (AV.bool false)), (16, (vb8 (l.getD 0 0))), (17, (AV.bool (notB (ltI (Int.ofNat (l.getD 0 0)) (Int.ofNat 192))))), (18, (AV.bool true)), (19, (vb8 (l.getD 0 0))), (20, (AV.bool (ltI (Int.ofNat (l.getD 0 0)) (Int.ofNat 224)))), (21, (AV.bool (ltI (Int.ofNat (l.getD 0 0)) (Int.ofNat 224)))), (22, (AV.bool false)), (23, (vb8 (l.getD 0 0))), (24, (AV.bool (notB (ltI (Int.ofNat (l.getD 0 0)) (Int.ofNat 224))))), (25, (AV.bool true)), (26, (vb8 (l.getD 0 0))), (27, (AV.bool (ltI (Int.ofNat (l.getD 0 0)) (Int.ofNat 240)))), (28, (AV.bool (ltI (Int.ofNat (l.getD 0 0)) (Int.ofNat 240)))), (29, (AV.bool true)), (30, (vb8 (l.getD 0 0))), (31, (AV.bool (notB (ltI (Int.ofNat (l.getD 0 0)) (Int.ofNat 240))))), (32, (AV.bool true)), (33, (vb8 (l.getD 0 0))), (34, (AV.bool (ltI (Int.ofNat (l.getD 0 0)) (Int.ofNat 248)))), (35, (AV.bool (ltI (Int.ofNat (l.getD 0 0)) (Int.ofNat 248)))), (36, (vi 4)), (37, (AV.bool false)), (38, (AV.bool false)), (39, wl_1), (40, (vi l.length)), (41, (vi 4)), (42, (AV.bool (ltI (Int.ofNat l.length) (Int.ofNat 4)))), (43, (AV.bool false)), (44, (vb8 (l.getD 0 0))), (45, (AV.int .i32 (Int.ofNat (l.getD 0 0)))), (46, (vi 4)), (47, (AV.int .i32 (Int.ofNat 7))), (48, (AV.int .i32 (Int.ofNat ((l.getD 0 0) &&& 7)))), (49, wl_1), (50, (vi 4)), (51, (partS wl_1 1 4)), (52, (vi (((l.take 4).drop 1).length))), (53, (vi 0))] .lf) h = (.ret (ovT [(2, v2o10)] t15) h16) ∧ True ∧ KK v2o10 h16)))))))))))))))) ∧ (ltI (Int.ofNat (l.getD 0 0)) (Int.ofNat 248) = false → KK (vi 0) h))))))))))) ∧ (notB (ltI (Int.ofNat (l.getD 0 0)) (Int.ofNat 192)) = false → ((notB (ltI (Int.ofNat (l.getD 0 0)) (Int.ofNat 224)) = true → ((ltI (Int.ofNat (l.getD 0 0)) (Int.ofNat 240) = true → ((evQ (.lenL (.const wl_1)) .lf H0 = .ok (vi l.length) ∧ ((ltI (Int.ofNat l.length) (Int.ofNat 3) = true → KK (vi 0) h) ∧ (ltI (Int.ofNat l.length) (Int.ofNat 3) = false → ((evQ (.toInt .i32 (.const (vb8 (l.getD 0 0)))) .lf H0 = .ok (AV.int .i32 (Int.ofNat (l.getD 0 0))) ∧ ((evQ (.bin .and (.const (AV.int .i32 (Int.ofNat (l.getD 0 0)))) (.const (AV.int .i32 (Int.ofNat 15)))) .lf H0 = .ok (AV.int .i32 (Int.ofNat ((l.getD 0 0) &&& 15))) ∧ ((evQ (.sliceSl 1 (.const wl_1) (some (.const (vi 1))) (some (.const (vi 3))) none) .lf H0 = .ok (partS wl_1 1 3) ∧ ((evQ (.lenL (.const (partS wl_1 1 3))) .lf H0 = .ok (vi (((l.take 3).drop 1).length)) ∧ ((∃ A2o9 : Nat, ∃ A6o9 : Nat, ∃ A53o9 : Nat, ∃ t12 : T, ∃ h13 : Hp, (evC call N (.loop size_l1C) (ovT [(0, wl_1), (2, (vi 0)), (3, (vb8 (l.getD 0 0))), (4, (vi 3)), (5, (AV.int .i32 (Int.ofNat 2048))), (6, (AV.int .i32 (Int.ofNat ((l.getD 0 0) &&& 15)))), (9, wl_1), (10, (elemP wl_1 0 1)), (11, (vb8 (l.getD 0 0))), (12, (AV.bool false)), (13, (vb8 (l.getD 0 0))), (14, (AV.bool (ltI (Int.ofNat (l.getD 0 0)) (Int.ofNat 128)))), (15, (AV.bool false)), (16, (vb8 (l.getD 0 0))), (17, (AV.bool (notB (ltI (Int.ofNat (l.getD 0 0)) (Int.ofNat 192))))), (18, (AV.bool false)), (19, (AV.tuple [])), (20, (AV.tuple [])), (21, (AV.bool false)), (22, (AV.bool true)), (23, (vb8 (l.getD 0 0))), (24, (AV.bool (notB (ltI (Int.ofNat (l.getD 0 0)) (Int.ofNat 224))))), (25, (AV.bool true)), (26, (vb8 (l.getD 0 0))), (27, (AV.bool (ltI (Int.ofNat (l.getD 0 0)) (Int.ofNat 240)))), (28, (AV.bool (ltI (Int.ofNat (l.getD 0 0)) (Int.ofNat 240)))), (36, (vi 3)), (37, (AV.bool false)), (38, (AV.bool false)), (39, wl_1), (40, (vi l.length)), (41, (vi 3)), (42, (AV.bool (ltI (Int.ofNat l.length) (Int.ofNat 3)))), (43, (AV.bool false)), (44, (vb8 (l.getD 0 0))), (45, (AV.int .i32 (Int.ofNat (l.getD 0 0)))), (46, (vi 3)), (47, (AV.int .i32 (Int.ofNat 15))), (48, (AV.int .i32 (Int.ofNat ((l.getD 0 0) &&& 15)))), (49, wl_1), (50, (vi 3)), (51, (partS wl_1 1 3)), (52, (vi (((l.take 3).drop 1).length))), (53, (vi 0))] .lf) h = (.exit 1 (ovT [(2, (vi A2o9)), (4, (vi 3)), (5, (AV.int .i32 (Int.ofNat 2048))), (6, (AV.int .i32 (Int.ofNat A6o9))), (51, (partS wl_1 1 3)), (52, (vi (((l.take 3).drop 1).length))), (53, (vi A53o9))] t12) h13) ∧ True ∧ ((ltI (Int.ofNat A6o9) (Int.ofNat 2048) = true → KK (vi 0) h13) ∧ (ltI (Int.ofNat A6o9) (Int.ofNat 2048) = false → ((ltI (Int.ofNat 1114111) (Int.ofNat A6o9) = true → KK (vi 0) h13) ∧ (ltI (Int.ofNat 1114111) (Int.ofNat A6o9) = false → ((notB (ltI (Int.ofNat A6o9) (Int.ofNat 55296)) = true → ((notB (ltI (Int.ofNat 57343) (Int.ofNat A6o9)) = true → KK (vi 0) h13) ∧ (notB (ltI (Int.ofNat 57343) (Int.ofNat A6o9)) = false → KK (vi 3) h13))) ∧ (notB (ltI (Int.ofNat A6o9) (Int.ofNat 55296)) = false → KK (vi 3) h13)))))))) ∨ (∃ y16 : Nat, ∃ v2o9 : AV, ∃ t14 : T, ∃ h15 : Hp, (evC call N (.loop size_l1C) (ovT [(0, wl_1), (2, (vi 0)), (3, (vb8 (l.getD 0 0))), (4, (vi 3)), (5, (AV.int .i32 (Int.ofNat 2048))), (6, (AV.int .i32 (Int.ofNat ((l.getD 0 0) &&& 15)))), (9, wl_1), (10, (elemP wl_1 0 1)), (11, (vb8 (l.getD 0 0))), (12, (AV.bool false)), (13, (vb8 (l.getD 0 0))), (14, (AV.bool (ltI (Int.ofNat (l.getD 0 0)) (Int.ofNat 128)))), (15, (AV.bool false)), (16, (vb8 (l.getD 0 0))), (17, (AV.bool (notB (ltI (Int.ofNat (l.getD 0 0)) (Int.ofNat 192))))), (18, (AV.bool false)), (19, (AV.tuple [])), (20, (AV.tuple [])), (21, (AV.bool false)), (22, (AV.bool true)), (23, (vb8 (l.getD 0 0))), (24, (AV.bool (notB (ltI (Int.ofNat (l.getD 0 0)) (Int.ofNat 224))))), (25, (AV.bool true)), (26, (vb8 (l.getD 0 0))), (27, (AV.bool (ltI (Int.ofNat (l.getD 0 0)) (Int.ofNat 240)))), (28, (AV.bool (ltI (Int.ofNat (l.getD 0 0)) (Int.ofNat 240)))), (36, (vi 3)), (37, (AV.bool false)), (38, (AV.bool false)), (39, wl_1), (40, (vi l.length)), (41, (vi 3)), (42, (AV.bool (ltI (Int.ofNat l.length) (Int.ofNat 3)))), (43, (AV.bool false)), (44, (vb8 (l.getD 0 0))), (45, (AV.int .i32 (Int.ofNat (l.getD 0 0)))), (46, (vi 3)), (47, (AV.int .i32 (Int.ofNat 15))), (48, (AV.int .i32 (Int.ofNat ((l.getD 0 0) &&& 15)))), (49, wl_1), (50, (vi 3)), (51, (partS wl_1 1 3)), (52, (vi (((l.take 3).drop 1).length))), (53, (vi 0))] .lf) h = (.ret (ovT [(2, v2o9)] t14) h15) ∧ True ∧ KK v2o9 h15)))))))))))))))) ∧ (ltI (Int.ofNat (l.getD 0 0)) (Int.ofNat 240) = false → ((evQ (.move (.const (AV.bool (notB (ltI (Int.ofNat (l.getD 0 0)) (Int.ofNat 240)))))) .lf H0 = .ok (AV.bool true) ∧ ((ltI (Int.ofNat (l.getD 0 0)) (Int.ofNat 248) = true → ((evQ (.lenL (.const wl_1)) .lf H0 = .ok (vi l.length) ∧ ((ltI (Int.ofNat l.length) (Int.ofNat 4) = true → KK (vi 0) h) ∧ (ltI (Int.ofNat l.length) (Int.ofNat 4) = false → ((evQ (.toInt .i32 (.const (vb8 (l.getD 0 0)))) .lf H0 = .ok (AV.int .i32 (Int.ofNat (l.getD 0 0))) ∧ ((evQ (.bin .and (.const (AV.int .i32 (Int.ofNat (l.getD 0 0)))) (.const (AV.int .i32 (Int.ofNat 7)))) .lf H0 = .ok (AV.int .i32 (Int.ofNat ((l.getD 0 0) &&& 7))) ∧ ((evQ (.sliceSl 1 (.const wl_1) (some (.const (vi 1))) (some (.const (vi 4))) none) .lf H0 = .ok (partS wl_1 1 4) ∧ ((evQ (.lenL (.const (partS wl_1 1 4))) .lf H0 = .ok (vi (((l.take 4).drop 1).length)) ∧ ((∃ A2o10 : Nat, ∃ A6o10 : Nat, ∃ A53o10 : Nat, ∃ t13 : T, ∃ h14 : Hp, (evC call N (.loop size_l1C) (ovT [(0, wl_1), (2, (vi 0)), (3, (vb8 (l.getD 0 0))), (4, (vi 4)), (5, (AV.int .i32 (Int.ofNat 65536))), (6, (AV.int .i32 (Int.ofNat ((l.getD 0 0) &&& 7)))), (9, wl_1), (10, (elemP wl_1 0 1)), (11, (vb8 (l.getD 0 0))), (12, (AV.bool false)), (13, (vb8 (l.getD 0 0))), (14, (AV.bool (ltI (Int.ofNat (l.getD 0 0)) (Int.ofNat 128)))), (15, (AV.bool false)), (16, (vb8 (l.getD 0 0))), (17, (AV.bool (notB (ltI (Int.ofNat (l.getD 0 0)) (Int.ofNat 192))))), (18, (AV.bool false)), (19, (AV.tuple [])), (20, (AV.tuple [])), (21, (AV.bool false)), (22, (AV.bool false)), (23, (vb8 (l.getD 0 0))), (24, (AV.bool (notB (ltI (Int.ofNat (l.getD 0 0)) (Int.ofNat 224))))), (25, (AV.bool true)), (26, (vb8 (l.getD 0 0))), (27, (AV.bool (ltI (Int.ofNat (l.getD 0 0)) (Int.ofNat 240)))), (28, (AV.bool (ltI (Int.ofNat (l.getD 0 0)) (Int.ofNat 240)))), (29, (AV.bool true)), (30, (vb8 (l.getD 0 0))), (31, (AV.bool (notB (ltI (Int.ofNat (l.getD 0 0)) (Int.ofNat 240))))), (32, (AV.bool true)), (33, (vb8 (l.getD 0 0))), (34, (AV.bool (ltI (Int.ofNat (l.getD 0 0)) (Int.ofNat 248)))), (35, (AV.bool (ltI (Int.ofNat (l.getD 0 0)) (Int.ofNat 248)))), (36, (vi 4)), (37, (AV.bool false)), (38, (AV.bool false)), (39, wl_1), (40, (vi l.length)), (41, (vi 4)), (42, (AV.bool (ltI (Int.ofNat l.length) (Int.ofNat 4)))), (43, (AV.bool false)), (44, (vb8 (l.getD 0 0))), (45, (AV.int .i32 (Int.ofNat (l.getD 0 0)))), (46, (vi 4)), (47, (AV.int .i32 (Int.ofNat 7))), (48, (AV.int .i32 (Int.ofNat ((l.getD 0 0) &&& 7)))), (49, wl_1), (50, (vi 4)), (51, (partS wl_1 1 4)), (52, (vi (((l.take 4).drop 1).length))), (53, (vi 0))] .lf) h = (.exit 1 (ovT [(2, (vi A2o10)), (4, (vi 4)), (5, (AV.int .i32 (Int.ofNat 65536))), (6, (AV.int .i32 (Int.ofNat A6o10))), (51, (partS wl_1 1 4)), (52, (vi (((l.take 4).drop 1).length))), (53, (vi A53o10))] t13) h14) ∧ True ∧ ((ltI (Int.ofNat A6o10) (Int.ofNat 65536) = true → KK (vi 0) h14) ∧ (ltI (Int.ofNat A6o10) (Int.ofNat 65536) = false → ((ltI (Int.ofNat 1114111) (Int.ofNat A6o10) = true → KK (vi 0) h14) ∧ (ltI (Int.ofNat 1114111) (Int.ofNat A6o10) = false → ((notB (ltI (Int.ofNat A6o10) (Int.ofNat 55296)) = true → ((notB (ltI (Int.ofNat 57343) (Int.ofNat A6o10)) = true → KK (vi 0) h14) ∧ (notB (ltI (Int.ofNat 57343) (Int.ofNat A6o10)) = false → KK (vi 4) h14))) ∧ (notB (ltI (Int.ofNat A6o10) (Int.ofNat 55296)) = false → KK (vi 4) h14)))))))) ∨ (∃ y17 : Nat, ∃ v2o10 : AV, ∃ t15 : T, ∃ h16 : Hp, (evC call N (.loop size_l1C) (ovT [(0, wl_1), (2, (vi 0)), (3, (vb8 (l.getD 0 0))), (4, (vi 4)), (5, (AV.int .i32 (Int.ofNat 65536))), (6, (AV.int .i32 (Int.ofNat ((l.getD 0 0) &&& 7)))), (9, wl_1), (10, (elemP wl_1 0 1)), (11, (vb8 (l.getD 0 0))), (12, (AV.bool false)), (13, (vb8 (l.getD 0 0))), (14, (AV.bool (ltI (Int.ofNat (l.getD 0 0)) (Int.ofNat 128)))), (15, (AV.bool false)), (16, (vb8 (l.getD 0 0))), (17, (AV.bool (notB (ltI (Int.ofNat (l.getD 0 0)) (Int.ofNat 192))))), (18, (AV.bool false)), (19, (AV.tuple [])), (20, (AV.tuple [])), (21, (AV.bool false)), (22, (AV.bool false)), (23, (vb8 (l.getD 0 0))), (24, (AV.bool (notB (ltI (Int.ofNat (l.getD 0 0)) (Int.ofNat 224))))), (25, (AV.bool true)), (26, (vb8 (l.getD 0 0))), (27, (AV.bool (ltI (Int.ofNat (l.getD 0 0)) (Int.ofNat 240)))), (28, (AV.bool (ltI (Int.ofNat (l.getD 0 0)) (Int.ofNat 240)))), (29, (AV.bool true)), (30, (vb8 (l.getD 0 0))), (31, (AV.bool (notB (ltI (Int.ofNat (l.getD 0 0)) (Int.ofNat 240))))), (32, (AV.bool true)), (33, (vb8 (l.getD 0 0))), (34, (AV.bool (ltI (Int.ofNat (l.getD 0 0)) (Int.ofNat 248)))), (35, (AV.bool (ltI (Int.ofNat (l.getD 0 0)) (Int.ofNat 248)))), (36, (vi 4)), (37, (AV.bool false)), (38, (AV.bool false)), (39, wl_1), (40, (vi l.length)), (41, (vi 4)), (42, (AV.bool (ltI (Int.ofNat l.length) (Int.ofNat 4)))), (43, (AV.bool false)), (44, (vb8 (l.getD 0 0))), (45, (AV.int .i32 (Int.ofNat (l.getD 0 0)))), (46, (vi 4)), (47, (AV.int .i32 (Int.ofNat 7))), (48, (AV.int .i32 (Int.ofNat ((l.getD 0 0) &&& 7)))), (49, wl_1), (50, (vi 4)), (51, (partS wl_1 1 4)), (52, (vi (((l.take 4).drop 1).length))), (53, (vi 0))] .lf) h = (.ret (ovT [(2, v2o10)] t15) h16) ∧ True ∧ KK v2o10 h16)))))))))))))))) ∧ (ltI (Int.ofNat (l.getD 0 0)) (Int.ofNat 248) = false → KK (vi 0) h))))))) ∧ (notB (ltI (Int.ofNat (l.getD 0 0)) (Int.ofNat 224)) = false → ((notB (ltI (Int.ofNat (l.getD 0 0)) (Int.ofNat 240)) = true → ((ltI (Int.ofNat (l.getD 0 0)) (Int.ofNat 248) = true → ((evQ (.lenL (.const wl_1)) .lf H0 = .ok (vi l.length) ∧ ((ltI (Int.ofNat l.length) (Int.ofNat 4) = true → KK (vi 0) h) ∧ (ltI (Int.ofNat l.length) (Int.ofNat 4) = false → ((evQ (.toInt .i32 (.const (vb8 (l.getD 0 0)))) .lf H0 = .ok (AV.int .i32 (Int.ofNat (l.getD 0 0))) ∧ ((evQ (.bin .and (.const (AV.int .i32 (Int.ofNat (l.getD 0 0)))) (.const (AV.int .i32 (Int.ofNat 7)))) .lf H0 = .ok (AV.int .i32 (Int.ofNat ((l.getD 0 0) &&& 7))) ∧ ((evQ (.sliceSl 1 (.const wl_1) (some (.const (vi 1))) (some (.const (vi 4))) none) .lf H0 = .ok (partS wl_1 1 4) ∧ ((evQ (.lenL (.const (partS wl_1 1 4))) .lf H0 = .ok (vi (((l.take 4).drop 1).length)) ∧ ((∃ A2o10 : Nat, ∃ A6o10 : Nat, ∃ A53o10 : Nat, ∃ t13 : T, ∃ h14 : Hp, (evC call N (.loop size_l1C) (ovT [(0, wl_1), (2, (vi 0)), (3, (vb8 (l.getD 0 0))), (4, (vi 4)), (5, (AV.int .i32 (Int.ofNat 65536))), (6, (AV.int .i32 (Int.ofNat ((l.getD 0 0) &&& 7)))), (9, wl_1), (10, (elemP wl_1 0 1)), (11, (vb8 (l.getD 0 0))), (12, (AV.bool false)), (13, (vb8 (l.getD 0 0))), (14, (AV.bool (ltI (Int.ofNat (l.getD 0 0)) (Int.ofNat 128)))), (15, (AV.bool false)), (16, (vb8 (l.getD 0 0))), (17, (AV.bool (notB (ltI (Int.ofNat (l.getD 0 0)) (Int.ofNat 192))))), (18, (AV.bool false)), (19, (AV.tuple [])), (20, (AV.tuple [])), (21, (AV.bool false)), (22, (AV.bool false)), (23, (vb8 (l.getD 0 0))), (24, (AV.bool (notB (ltI (Int.ofNat (l.getD 0 0)) (Int.ofNat 224))))), (25, (AV.bool false)), (26, (AV.tuple [])), (27, (AV.tuple [])), (28, (AV.bool false)), (29, (AV.bool true)), (30, (vb8 (l.getD 0 0))), (31, (AV.bool (notB (ltI (Int.ofNat (l.getD 0 0)) (Int.ofNat 240))))), (32, (AV.bool true)), (33, (vb8 (l.getD 0 0))), (34, (AV.bool (ltI (Int.ofNat (l.getD 0 0)) (Int.ofNat 248)))), (35, (AV.bool (ltI (Int.ofNat (l.getD 0 0)) (Int.ofNat 248)))), (36, (vi 4)), (37, (AV.bool false)), (38, (AV.bool false)), (39, wl_1), (40, (vi l.length)), (41, (vi 4)), (42, (AV.bool (ltI (Int.ofNat l.length) (Int.ofNat 4)))), (43, (AV.bool false)), (44, (vb8 (l.getD 0 0))), (45, (AV.int .i32 (Int.ofNat (l.getD 0 0)))), (46, (vi 4)), (47, (AV.int .i32 (Int.ofNat 7))), (48, (AV.int .i32 (Int.ofNat ((l.getD 0 0) &&& 7)))), (49, wl_1), (50, (vi 4)), (51, (partS wl_1 1 4)), (52, (vi (((l.take 4).drop 1).length))), (53, (vi 0))] .lf) h = (.exit 1 (ovT [(2, (vi A2o10)), (4, (vi 4)), (5, (AV.int .i32 (Int.ofNat 65536))), (6, (AV.int .i32 (Int.ofNat A6o10))), (51, (partS wl_1 1 4)), (52, (vi (((l.take 4).drop 1).length))), (53, (vi A53o10))] t13) h14) ∧ True ∧ ((ltI (Int.ofNat A6o10) (Int.ofNat 65536) = true → KK (vi 0) h14) ∧ (ltI (Int.ofNat A6o10) (Int.ofNat 65536) = false → ((ltI (Int.ofNat 1114111) (Int.ofNat A6o10) = true → KK (vi 0) h14) ∧ (ltI (Int.ofNat 1114111) (Int.ofNat A6o10) = false → ((notB (ltI (Int.ofNat A6o10) (Int.ofNat 55296)) = true → ((notB (ltI (Int.ofNat 57343) (Int.ofNat A6o10)) = true → KK (vi 0) h14) ∧ (notB (ltI (Int.ofNat 57343) (Int.ofNat A6o10)) = false → KK (vi 4) h14))) ∧ (notB (ltI (Int.ofNat A6o10) (Int.ofNat 55296)) = false → KK (vi 4) h14)))))))) ∨ (∃ y17 : Nat, ∃ v2o10 : AV, ∃ t15 : T, ∃ h16 : Hp, (evC call N (.loop size_l1C) (ovT [(0, wl_1), (2, (vi 0)), (3, (vb8 (l.getD 0 0))), (4, (vi 4)), (5, (AV.int .i32 (Int.ofNat 65536))), (6, (AV.int .i32 (Int.ofNat ((l.getD 0 0) &&& 7)))), (9, wl_1), (10, (elemP wl_1 0 1)), (11, (vb8 (l.getD 0 0))), (12, (AV.bool false)), (13, (vb8 (l.getD 0 0))), (14, (AV.bool (ltI (Int.ofNat (l.getD 0 0)) (Int.ofNat 128)))), (15, (AV.bool false)), (16, (vb8 (l.getD 0 0))), (17, (AV.bool (notB (ltI (Int.ofNat (l.getD 0 0)) (Int.ofNat 192))))), (18, (AV.bool false)), (19, (AV.tuple [])), (20, (AV.tuple [])), (21, (AV.bool false)), (22, (AV.bool false)), (23, (vb8 (l.getD 0 0))), (24, (AV.bool (notB (ltI (Int.ofNat (l.getD 0 0)) (Int.ofNat 224))))), (25, (AV.bool false)), (26, (AV.tuple [])), (27, (AV.tuple [])), (28, (AV.bool false)), (29, (AV.bool true)), (30, (vb8 (l.getD 0 0))), (31, (AV.bool (notB (ltI (Int.ofNat (l.getD 0 0)) (Int.ofNat 240))))), (32, (AV.bool true)), (33, (vb8 (l.getD 0 0))), (34, (AV.bool (ltI (Int.ofNat (l.getD 0 0)) (Int.ofNat 248)))), (35, (AV.bool (ltI (Int.ofNat (l.getD 0 0)) (Int.ofNat 248)))), (36, (vi 4)), (37, (AV.bool false)), (38, (AV.bool false)), (39, wl_1), (40, (vi l.length)), (41, (vi 4)), (42, (AV.bool (ltI (Int.ofNat l.length) (Int.ofNat 4)))), (43, (AV.bool false)), (44, (vb8 (l.getD 0 0))), (45, (AV.int .i32 (Int.ofNat (l.getD 0 0)))), (46, (vi 4)), (47, (AV.int .i32 (Int.ofNat 7))), (48, (AV.int .i32 (Int.ofNat ((l.getD 0 0) &&& 7)))), (49, wl_1), (50, (vi 4)), (51, (partS wl_1 1 4)), (52, (vi (((l.take 4).drop 1).length))), (53, (vi 0))] .lf) h = (.ret (ovT [(2, v2o10)] t15) h16) ∧ True ∧ KK v2o10 h16)))))))))))))))) ∧ (ltI (Int.ofNat (l.getD 0 0)) (Int.ofNat 248) = false → KK (vi 0) h))) ∧ (notB (ltI (Int.ofNat (l.getD 0 0)) (Int.ofNat 240)) = false → KK (vi 0) h))))))))))))) (fun (rv : AV) (rh : Hp) => rv = (vi r) ∧ (r < 9223372036854775808) ∧ Eng.Sep (Frz (Low h) h :: []) rh)) (by kernel_rfl) ?_
  have ⟨g1, hp⟩ := gd_inv hp
  refine ⟨q_idxB (l := l) (BIn.now S (i := 0) rfl fl_2) g1, ?_⟩
  refine ⟨q_byte (l := l) (BIn.now S (i := 0) rfl fl_2) g1, ?_⟩
  have x2 : l.getD 0 0 < 256 := getD_lt (BIn.now S (i := 0) rfl fl_2).lt 0
  refine ⟨fun c3 => ?_, fun c3 => ?_⟩
  · replace c3 := ltI_t c3
    replace hp := ift hp c3
    obtain rfl := Option.some.inj hp
    exact ⟨rfl, (show 1 < 9223372036854775808 by decide), S⟩
  replace c3 := ltI_f c3
  replace hp := iff0 hp (nltO c3)
  refine ⟨fun c4 => ?_, fun c4 => ?_⟩
  · replace c4 := ltI_f (notB_t c4)
    replace hp := ift hp c4
    refine ⟨fun c5 => ?_, fun c5 => ?_⟩
    · replace c5 := ltI_t c5
      replace hp := ift hp c5
      refine ⟨q_len (BIn.now S (i := 0) rfl fl_2), ?_⟩
      refine ⟨fun c6 => ?_, fun c6 => ?_⟩
      · replace c6 := ltI_t c6
        replace hp := ift hp c6
        obtain rfl := Option.some.inj hp
        exact ⟨rfl, (show 0 < 9223372036854775808 by decide), S⟩
      replace c6 := ltI_f c6
      replace hp := iff0 hp (nltO c6)
      refine ⟨i32_conv (Nat.lt_of_lt_of_le x2 (by decide)), ?_⟩
      refine ⟨i32_and (Nat.lt_of_lt_of_le x2 (by decide)) (by decide), ?_⟩
      refine ⟨q_slice (l := l) (BIn.now S (i := 0) rfl fl_2) (by omega) c6, ?_⟩
      have b7 := BIn.part (l := l) (lo := 1) (hi := 2) fl_2 (by omega) c6
      refine ⟨q_len (BIn.now S (i := 0) rfl b7), ?_⟩
      have ⟨o8, hb9, hp⟩ := ob_inv hp
      rcases size_l1_t (show 128 < 2147483648 by decide) b7  (o := o8) (B4 := 2) (B5 := 128) (B51 := (l.take 2).drop 1) (B52 := ((l.take 2).drop 1).length) (n := 90000) (A2 := 0) (A6 := (l.getD 0 0) &&& 31) (A53 := 0) ⟨hb9, (Nat.lt_of_le_of_lt Nat.and_le_left (Nat.lt_of_lt_of_le x2 (by decide))), S⟩ hN hN (t := (ovT [(0, wl_1), (2, (vi 0)), (3, (vb8 (l.getD 0 0))), (4, (vi 2)), (5, (AV.int .i32 (Int.ofNat 128))), (6, (AV.int .i32 (Int.ofNat ((l.getD 0 0) &&& 31)))), (9, wl_1), (10, (elemP wl_1 0 1)), (11, (vb8 (l.getD 0 0))), (12, (AV.bool false)), (13, (vb8 (l.getD 0 0))), (14, (AV.bool (ltI (Int.ofNat (l.getD 0 0)) (Int.ofNat 128)))), (15, (AV.bool true)), (16, (vb8 (l.getD 0 0))), (17, (AV.bool (notB (ltI (Int.ofNat (l.getD 0 0)) (Int.ofNat 192))))), (18, (AV.bool true)), (19, (vb8 (l.getD 0 0))), (20, (AV.bool (ltI (Int.ofNat (l.getD 0 0)) (Int.ofNat 224)))), (21, (AV.bool (ltI (Int.ofNat (l.getD 0 0)) (Int.ofNat 224)))), (36, (vi 2)), (37, (AV.bool false)), (38, (AV.bool false)), (39, wl_1), (40, (vi l.length)), (41, (vi 2)), (42, (AV.bool (ltI (Int.ofNat l.length) (Int.ofNat 2)))), (43, (AV.bool false)), (44, (vb8 (l.getD 0 0))), (45, (AV.int .i32 (Int.ofNat (l.getD 0 0)))), (46, (vi 2)), (47, (AV.int .i32 (Int.ofNat 31))), (48, (AV.int .i32 (Int.ofNat ((l.getD 0 0) &&& 31)))), (49, wl_1), (50, (vi 2)), (51, (partS wl_1 1 2)), (52, (vi (((l.take 2).drop 1).length))), (53, (vi 0))] .lf)) (show slots [2, 4, 5, 6, 51, 52, 53] _ = [some (vi 0), some (vi 2), some (AV.int .i32 (Int.ofNat 128)), some (AV.int .i32 (Int.ofNat ((l.getD 0 0) &&& 31))), some (partS wl_1 1 2), some (vi (((l.take 2).drop 1).length)), some (vi 0)] by kernel_rfl) with ⟨io8, ⟨_, A2o8, A6o8, A53o8⟩, t11, h12, qo8, wo8, zo8⟩ | ⟨t13, h14, qo8, zo8⟩
      · obtain ⟨jo8, zo8⟩ := zo8
        subst jo8
        replace zo8 := zo8 rfl
        obtain ⟨uo8, fA6_1o8, So8⟩ := zo8
        replace uo8 := uo8.symm
        subst uo8
        replace hp := LO.on_ex.symm.trans hp
        try dsimp only at hp
        refine Or.inl ⟨A2o8, A6o8, A53o8, t11, h12, (qo8.trans (congrArg (fun t => RS.exit 1 t h12) (ovT_eq wo8).symm)), trivial, ?_⟩
        refine ⟨fun c16 => ?_, fun c16 => ?_⟩
        · replace c16 := ltI_t c16
          replace hp := ift hp c16
          obtain rfl := Option.some.inj hp
          exact ⟨rfl, (show 0 < 9223372036854775808 by decide), So8⟩
        replace c16 := ltI_f c16
        replace hp := iff0 hp (nltO c16)
        refine ⟨fun c17 => ?_, fun c17 => ?_⟩
        · replace c17 := ltI_t c17
          replace hp := ift hp c17
          obtain rfl := Option.some.inj hp
          exact ⟨rfl, (show 0 < 9223372036854775808 by decide), So8⟩
        replace c17 := ltI_f c17
        replace hp := iff0 hp (nltO c17)
        refine ⟨fun c18 => ?_, fun c18 => ?_⟩
        · replace c18 := ltI_f (notB_t c18)
          replace hp := ift hp c18
          refine ⟨fun c19 => ?_, fun c19 => ?_⟩
          · replace c19 := ltI_f (notB_t c19)
            replace hp := ift hp c19
            obtain rfl := Option.some.inj hp
            exact ⟨rfl, (show 0 < 9223372036854775808 by decide), So8⟩
          replace c19 := ltI_t (notB_f c19)
          replace hp := iff0 hp (nleO c19)
          obtain rfl := Option.some.inj hp
          exact ⟨rfl, (by decide), So8⟩
        replace c18 := ltI_t (notB_f c18)
        replace hp := iff0 hp (nleO c18)
        obtain rfl := Option.some.inj hp
        exact ⟨rfl, (by decide), So8⟩
      obtain ⟨y15, v2o8, uo8, go8_2, Ko8⟩ := zo8
      replace uo8 := uo8.symm
      subst uo8
      replace go8_2 : tget (pathOf 2) t13 = some v2o8 := Option.some.inj go8_2
      replace hp := LO.on_rt.symm.trans hp
      try dsimp only at hp
      refine Or.inr ⟨y15, v2o8, t13, h14, (qo8.trans (congrArg (fun t => RS.ret t h14) (ovT_eq (l := [(2, v2o8)]) (by show [tget (pathOf 2) t13] = _; rw [go8_2]; rfl)).symm)), trivial, ?_⟩
      obtain rfl := Option.some.inj hp
      exact Ko8
    have rc5 := c5
    replace c5 := ltI_f c5
    replace hp := iff0 hp (nltO c5)
    refine ⟨congrArg (fun z => OV.ok (AV.bool (notB z))) (rc5), ?_⟩
    refine ⟨fun c6 => ?_, fun c6 => ?_⟩
    · replace c6 := ltI_t c6
      replace hp := ift hp c6
      refine ⟨q_len (BIn.now S (i := 0) rfl fl_2), ?_⟩
      refine ⟨fun c7 => ?_, fun c7 => ?_⟩
      · replace c7 := ltI_t c7
        replace hp := ift hp c7
        obtain rfl := Option.some.inj hp
        exact ⟨rfl, (show 0 < 9223372036854775808 by decide), S⟩
      replace c7 := ltI_f c7
      replace hp := iff0 hp (nltO c7)
      refine ⟨i32_conv (Nat.lt_of_lt_of_le x2 (by decide)), ?_⟩
      refine ⟨i32_and (Nat.lt_of_lt_of_le x2 (by decide)) (by decide), ?_⟩
      refine ⟨q_slice (l := l) (BIn.now S (i := 0) rfl fl_2) (by omega) c7, ?_⟩
      have b8 := BIn.part (l := l) (lo := 1) (hi := 3) fl_2 (by omega) c7
      refine ⟨q_len (BIn.now S (i := 0) rfl b8), ?_⟩
      have ⟨o9, hb10, hp⟩ := ob_inv hp
      rcases size_l1_t (show 2048 < 2147483648 by decide) b8  (o := o9) (B4 := 3) (B5 := 2048) (B51 := (l.take 3).drop 1) (B52 := ((l.take 3).drop 1).length) (n := 90000) (A2 := 0) (A6 := (l.getD 0 0) &&& 15) (A53 := 0) ⟨hb10, (Nat.lt_of_le_of_lt Nat.and_le_left (Nat.lt_of_lt_of_le x2 (by decide))), S⟩ hN hN (t := (ovT [(0, wl_1), (2, (vi 0)), (3, (vb8 (l.getD 0 0))), (4, (vi 3)), (5, (AV.int .i32 (Int.ofNat 2048))), (6, (AV.int .i32 (Int.ofNat ((l.getD 0 0) &&& 15)))), (9, wl_1), (10, (elemP wl_1 0 1)), (11, (vb8 (l.getD 0 0))), (12, (AV.bool false)), (13, (vb8 (l.getD 0 0))), (14, (AV.bool (ltI (Int.ofNat (l.getD 0 0)) (Int.ofNat 128)))), (15, (AV.bool false)), (16, (vb8 (l.getD 0 0))), (17, (AV.bool (notB (ltI (Int.ofNat (l.getD 0 0)) (Int.ofNat 192))))), (18, (AV.bool true)), (19, (vb8 (l.getD 0 0))), (20, (AV.bool (ltI (Int.ofNat (l.getD 0 0)) (Int.ofNat 224)))), (21, (AV.bool (ltI (Int.ofNat (l.getD 0 0)) (Int.ofNat 224)))), (22, (AV.bool true)), (23, (vb8 (l.getD 0 0))), (24, (AV.bool (notB (ltI (Int.ofNat (l.getD 0 0)) (Int.ofNat 224))))), (25, (AV.bool true)), (26, (vb8 (l.getD 0 0))), (27, (AV.bool (ltI (Int.ofNat (l.getD 0 0)) (Int.ofNat 240)))), (28, (AV.bool (ltI (Int.ofNat (l.getD 0 0)) (Int.ofNat 240)))), (36, (vi 3)), (37, (AV.bool false)), (38, (AV.bool false)), (39, wl_1), (40, (vi l.length)), (41, (vi 3)), (42, (AV.bool (ltI (Int.ofNat l.length) (Int.ofNat 3)))), (43, (AV.bool false)), (44, (vb8 (l.getD 0 0))), (45, (AV.int .i32 (Int.ofNat (l.getD 0 0)))), (46, (vi 3)), (47, (AV.int .i32 (Int.ofNat 15))), (48, (AV.int .i32 (Int.ofNat ((l.getD 0 0) &&& 15)))), (49, wl_1), (50, (vi 3)), (51, (partS wl_1 1 3)), (52, (vi (((l.take 3).drop 1).length))), (53, (vi 0))] .lf)) (show slots [2, 4, 5, 6, 51, 52, 53] _ = [some (vi 0), some (vi 3), some (AV.int .i32 (Int.ofNat 2048)), some (AV.int .i32 (Int.ofNat ((l.getD 0 0) &&& 15))), some (partS wl_1 1 3), some (vi (((l.take 3).drop 1).length)), some (vi 0)] by kernel_rfl) with ⟨io9, ⟨_, A2o9, A6o9, A53o9⟩, t12, h13, qo9, wo9, zo9⟩ | ⟨t14, h15, qo9, zo9⟩
      · obtain ⟨jo9, zo9⟩ := zo9
        subst jo9
        replace zo9 := zo9 rfl
        obtain ⟨uo9, fA6_1o9, So9⟩ := zo9
        replace uo9 := uo9.symm
        subst uo9
        replace hp := LO.on_ex.symm.trans hp
        try dsimp only at hp
        refine Or.inl ⟨A2o9, A6o9, A53o9, t12, h13, (qo9.trans (congrArg (fun t => RS.exit 1 t h13) (ovT_eq wo9).symm)), trivial, ?_⟩
        refine ⟨fun c17 => ?_, fun c17 => ?_⟩
        · replace c17 := ltI_t c17
          replace hp := ift hp c17
          obtain rfl := Option.some.inj hp
          exact ⟨rfl, (show 0 < 9223372036854775808 by decide), So9⟩
        replace c17 := ltI_f c17
        replace hp := iff0 hp (nltO c17)
        refine ⟨fun c18 => ?_, fun c18 => ?_⟩
        · replace c18 := ltI_t c18
          replace hp := ift hp c18
          obtain rfl := Option.some.inj hp
          exact ⟨rfl, (show 0 < 9223372036854775808 by decide), So9⟩
        replace c18 := ltI_f c18
        replace hp := iff0 hp (nltO c18)
        refine ⟨fun c19 => ?_, fun c19 => ?_⟩
        · replace c19 := ltI_f (notB_t c19)
          replace hp := ift hp c19
          refine ⟨fun c20 => ?_, fun c20 => ?_⟩
          · replace c20 := ltI_f (notB_t c20)
            replace hp := ift hp c20
            obtain rfl := Option.some.inj hp
            exact ⟨rfl, (show 0 < 9223372036854775808 by decide), So9⟩
          replace c20 := ltI_t (notB_f c20)
          replace hp := iff0 hp (nleO c20)
          obtain rfl := Option.some.inj hp
          exact ⟨rfl, (by decide), So9⟩
        replace c19 := ltI_t (notB_f c19)
        replace hp := iff0 hp (nleO c19)
        obtain rfl := Option.some.inj hp
        exact ⟨rfl, (by decide), So9⟩
      obtain ⟨y16, v2o9, uo9, go9_2, Ko9⟩ := zo9
      replace uo9 := uo9.symm
      subst uo9
      replace go9_2 : tget (pathOf 2) t14 = some v2o9 := Option.some.inj go9_2
      replace hp := LO.on_rt.symm.trans hp
      try dsimp only at hp
      refine Or.inr ⟨y16, v2o9, t14, h15, (qo9.trans (congrArg (fun t => RS.ret t h15) (ovT_eq (l := [(2, v2o9)]) (by show [tget (pathOf 2) t14] = _; rw [go9_2]; rfl)).symm)), trivial, ?_⟩
      obtain rfl := Option.some.inj hp
      exact Ko9
    have rc6 := c6
    replace c6 := ltI_f c6
    replace hp := iff0 hp (nltO c6)
    refine ⟨congrArg (fun z => OV.ok (AV.bool (notB z))) (rc6), ?_⟩
    refine ⟨fun c7 => ?_, fun c7 => ?_⟩
    · replace c7 := ltI_t c7
      replace hp := ift hp c7
      refine ⟨q_len (BIn.now S (i := 0) rfl fl_2), ?_⟩
      refine ⟨fun c8 => ?_, fun c8 => ?_⟩
      · replace c8 := ltI_t c8
        replace hp := ift hp c8
        obtain rfl := Option.some.inj hp
        exact ⟨rfl, (show 0 < 9223372036854775808 by decide), S⟩
      replace c8 := ltI_f c8
      replace hp := iff0 hp (nltO c8)
      refine ⟨i32_conv (Nat.lt_of_lt_of_le x2 (by decide)), ?_⟩
      refine ⟨i32_and (Nat.lt_of_lt_of_le x2 (by decide)) (by decide), ?_⟩
      refine ⟨q_slice (l := l) (BIn.now S (i := 0) rfl fl_2) (by omega) c8, ?_⟩
      have b9 := BIn.part (l := l) (lo := 1) (hi := 4) fl_2 (by omega) c8
      refine ⟨q_len (BIn.now S (i := 0) rfl b9), ?_⟩
      have ⟨o10, hb11, hp⟩ := ob_inv hp
      rcases size_l1_t (show 65536 < 2147483648 by decide) b9  (o := o10) (B4 := 4) (B5 := 65536) (B51 := (l.take 4).drop 1) (B52 := ((l.take 4).drop 1).length) (n := 90000) (A2 := 0) (A6 := (l.getD 0 0) &&& 7) (A53 := 0) ⟨hb11, (Nat.lt_of_le_of_lt Nat.and_le_left (Nat.lt_of_lt_of_le x2 (by decide))), S⟩ hN hN (t := (ovT [(0, wl_1), (2, (vi 0)), (3, (vb8 (l.getD 0 0))), (4, (vi 4)), (5, (AV.int .i32 (Int.ofNat 65536))), (6, (AV.int .i32 (Int.ofNat ((l.getD 0 0) &&& 7)))), (9, wl_1), (10, (elemP wl_1 0 1)), (11, (vb8 (l.getD 0 0))), (12, (AV.bool false)), (13, (vb8 (l.getD 0 0))), (14, (AV.bool (ltI (Int.ofNat (l.getD 0 0)) (Int.ofNat 128)))), (15, (AV.bool false)), (16, (vb8 (l.getD 0 0))), (17, (AV.bool (notB (ltI (Int.ofNat (l.getD 0 0)) (Int.ofNat 192))))), (18, (AV.bool true)), (19, (vb8 (l.getD 0 0))), (20, (AV.bool (ltI (Int.ofNat (l.getD 0 0)) (Int.ofNat 224)))), (21, (AV.bool (ltI (Int.ofNat (l.getD 0 0)) (Int.ofNat 224)))), (22, (AV.bool false)), (23, (vb8 (l.getD 0 0))), (24, (AV.bool (notB (ltI (Int.ofNat (l.getD 0 0)) (Int.ofNat 224))))), (25, (AV.bool true)), (26, (vb8 (l.getD 0 0))), (27, (AV.bool (ltI (Int.ofNat (l.getD 0 0)) (Int.ofNat 240)))), (28, (AV.bool (ltI (Int.ofNat (l.getD 0 0)) (Int.ofNat 240)))), (29, (AV.bool true)), (30, (vb8 (l.getD 0 0))), (31, (AV.bool (notB (ltI (Int.ofNat (l.getD 0 0)) (Int.ofNat 240))))), (32, (AV.bool true)), (33, (vb8 (l.getD 0 0))), (34, (AV.bool (ltI (Int.ofNat (l.getD 0 0)) (Int.ofNat 248)))), (35, (AV.bool (ltI (Int.ofNat (l.getD 0 0)) (Int.ofNat 248)))), (36, (vi 4)), (37, (AV.bool false)), (38, (AV.bool false)), (39, wl_1), (40, (vi l.length)), (41, (vi 4)), (42, (AV.bool (ltI (Int.ofNat l.length) (Int.ofNat 4)))), (43, (AV.bool false)), (44, (vb8 (l.getD 0 0))), (45, (AV.int .i32 (Int.ofNat (l.getD 0 0)))), (46, (vi 4)), (47, (AV.int .i32 (Int.ofNat 7))), (48, (AV.int .i32 (Int.ofNat ((l.getD 0 0) &&& 7)))), (49, wl_1), (50, (vi 4)), (51, (partS wl_1 1 4)), (52, (vi (((l.take 4).drop 1).length))), (53, (vi 0))] .lf)) (show slots [2, 4, 5, 6, 51, 52, 53] _ = [some (vi 0), some (vi 4), some (AV.int .i32 (Int.ofNat 65536)), some (AV.int .i32 (Int.ofNat ((l.getD 0 0) &&& 7))), some (partS wl_1 1 4), some (vi (((l.take 4).drop 1).length)), some (vi 0)] by kernel_rfl) with ⟨io10, ⟨_, A2o10, A6o10, A53o10⟩, t13, h14, qo10, wo10, zo10⟩ | ⟨t15, h16, qo10, zo10⟩
      · obtain ⟨jo10, zo10⟩ := zo10
        subst jo10
        replace zo10 := zo10 rfl
        obtain ⟨uo10, fA6_1o10, So10⟩ := zo10
        replace uo10 := uo10.symm
        subst uo10
        replace hp := LO.on_ex.symm.trans hp
        try dsimp only at hp
        refine Or.inl ⟨A2o10, A6o10, A53o10, t13, h14, (qo10.trans (congrArg (fun t => RS.exit 1 t h14) (ovT_eq wo10).symm)), trivial, ?_⟩
        refine ⟨fun c18 => ?_, fun c18 => ?_⟩
        · replace c18 := ltI_t c18
          replace hp := ift hp c18
          obtain rfl := Option.some.inj hp
          exact ⟨rfl, (show 0 < 9223372036854775808 by decide), So10⟩
        replace c18 := ltI_f c18
        replace hp := iff0 hp (nltO c18)
        refine ⟨fun c19 => ?_, fun c19 => ?_⟩
        · replace c19 := ltI_t c19
          replace hp := ift hp c19
          obtain rfl := Option.some.inj hp
          exact ⟨rfl, (show 0 < 9223372036854775808 by decide), So10⟩
        replace c19 := ltI_f c19
        replace hp := iff0 hp (nltO c19)
        refine ⟨fun c20 => ?_, fun c20 => ?_⟩
        · replace c20 := ltI_f (notB_t c20)
          replace hp := ift hp c20
          refine ⟨fun c21 => ?_, fun c21 => ?_⟩
          · replace c21 := ltI_f (notB_t c21)
            replace hp := ift hp c21
            obtain rfl := Option.some.inj hp
            exact ⟨rfl, (show 0 < 9223372036854775808 by decide), So10⟩
          replace c21 := ltI_t (notB_f c21)
          replace hp := iff0 hp (nleO c21)
          obtain rfl := Option.some.inj hp
          exact ⟨rfl, (by decide), So10⟩
        replace c20 := ltI_t (notB_f c20)
        replace hp := iff0 hp (nleO c20)
        obtain rfl := Option.some.inj hp
        exact ⟨rfl, (by decide), So10⟩
      obtain ⟨y17, v2o10, uo10, go10_2, Ko10⟩ := zo10
      replace uo10 := uo10.symm
      subst uo10
      replace go10_2 : tget (pathOf 2) t15 = some v2o10 := Option.some.inj go10_2
      replace hp := LO.on_rt.symm.trans hp
      try dsimp only at hp
      refine Or.inr ⟨y17, v2o10, t15, h16, (qo10.trans (congrArg (fun t => RS.ret t h16) (ovT_eq (l := [(2, v2o10)]) (by show [tget (pathOf 2) t15] = _; rw [go10_2]; rfl)).symm)), trivial, ?_⟩
      obtain rfl := Option.some.inj hp
      exact Ko10
    replace c7 := ltI_f c7
    replace hp := iff0 hp (nltO c7)
    obtain rfl := Option.some.inj hp
    exact ⟨rfl, (show 0 < 9223372036854775808 by decide), S⟩
  replace c4 := ltI_t (notB_f c4)
  replace hp := iff0 hp (nleO c4)
  refine ⟨fun c5 => ?_, fun c5 => ?_⟩
  · replace c5 := ltI_f (notB_t c5)
    replace hp := ift hp c5
    refine ⟨fun c6 => ?_, fun c6 => ?_⟩
    · replace c6 := ltI_t c6
      replace hp := ift hp c6
      refine ⟨q_len (BIn.now S (i := 0) rfl fl_2), ?_⟩
      refine ⟨fun c7 => ?_, fun c7 => ?_⟩
      · replace c7 := ltI_t c7
        replace hp := ift hp c7
        obtain rfl := Option.some.inj hp
        exact ⟨rfl, (show 0 < 9223372036854775808 by decide), S⟩
      replace c7 := ltI_f c7
      replace hp := iff0 hp (nltO c7)
      refine ⟨i32_conv (Nat.lt_of_lt_of_le x2 (by decide)), ?_⟩
      refine ⟨i32_and (Nat.lt_of_lt_of_le x2 (by decide)) (by decide), ?_⟩
      refine ⟨q_slice (l := l) (BIn.now S (i := 0) rfl fl_2) (by omega) c7, ?_⟩
      have b8 := BIn.part (l := l) (lo := 1) (hi := 3) fl_2 (by omega) c7
      refine ⟨q_len (BIn.now S (i := 0) rfl b8), ?_⟩
      have ⟨o9, hb10, hp⟩ := ob_inv hp
      rcases size_l1_t (show 2048 < 2147483648 by decide) b8  (o := o9) (B4 := 3) (B5 := 2048) (B51 := (l.take 3).drop 1) (B52 := ((l.take 3).drop 1).length) (n := 90000) (A2 := 0) (A6 := (l.getD 0 0) &&& 15) (A53 := 0) ⟨hb10, (Nat.lt_of_le_of_lt Nat.and_le_left (Nat.lt_of_lt_of_le x2 (by decide))), S⟩ hN hN (t := (ovT [(0, wl_1), (2, (vi 0)), (3, (vb8 (l.getD 0 0))), (4, (vi 3)), (5, (AV.int .i32 (Int.ofNat 2048))), (6, (AV.int .i32 (Int.ofNat ((l.getD 0 0) &&& 15)))), (9, wl_1), (10, (elemP wl_1 0 1)), (11, (vb8 (l.getD 0 0))), (12, (AV.bool false)), (13, (vb8 (l.getD 0 0))), (14, (AV.bool (ltI (Int.ofNat (l.getD 0 0)) (Int.ofNat 128)))), (15, (AV.bool false)), (16, (vb8 (l.getD 0 0))), (17, (AV.bool (notB (ltI (Int.ofNat (l.getD 0 0)) (Int.ofNat 192))))), (18, (AV.bool false)), (19, (AV.tuple [])), (20, (AV.tuple [])), (21, (AV.bool false)), (22, (AV.bool true)), (23, (vb8 (l.getD 0 0))), (24, (AV.bool (notB (ltI (Int.ofNat (l.getD 0 0)) (Int.ofNat 224))))), (25, (AV.bool true)), (26, (vb8 (l.getD 0 0))), (27, (AV.bool (ltI (Int.ofNat (l.getD 0 0)) (Int.ofNat 240)))), (28, (AV.bool (ltI (Int.ofNat (l.getD 0 0)) (Int.ofNat 240)))), (36, (vi 3)), (37, (AV.bool false)), (38, (AV.bool false)), (39, wl_1), (40, (vi l.length)), (41, (vi 3)), (42, (AV.bool (ltI (Int.ofNat l.length) (Int.ofNat 3)))), (43, (AV.bool false)), (44, (vb8 (l.getD 0 0))), (45, (AV.int .i32 (Int.ofNat (l.getD 0 0)))), (46, (vi 3)), (47, (AV.int .i32 (Int.ofNat 15))), (48, (AV.int .i32 (Int.ofNat ((l.getD 0 0) &&& 15)))), (49, wl_1), (50, (vi 3)), (51, (partS wl_1 1 3)), (52, (vi (((l.take 3).drop 1).length))), (53, (vi 0))] .lf)) (show slots [2, 4, 5, 6, 51, 52, 53] _ = [some (vi 0), some (vi 3), some (AV.int .i32 (Int.ofNat 2048)), some (AV.int .i32 (Int.ofNat ((l.getD 0 0) &&& 15))), some (partS wl_1 1 3), some (vi (((l.take 3).drop 1).length)), some (vi 0)] by kernel_rfl) with ⟨io9, ⟨_, A2o9, A6o9, A53o9⟩, t12, h13, qo9, wo9, zo9⟩ | ⟨t14, h15, qo9, zo9⟩
      · obtain ⟨jo9, zo9⟩ := zo9
        subst jo9
        replace zo9 := zo9 rfl
        obtain ⟨uo9, fA6_1o9, So9⟩ := zo9
        replace uo9 := uo9.symm
        subst uo9
        replace hp := LO.on_ex.symm.trans hp
        try dsimp only at hp
        refine Or.inl ⟨A2o9, A6o9, A53o9, t12, h13, (qo9.trans (congrArg (fun t => RS.exit 1 t h13) (ovT_eq wo9).symm)), trivial, ?_⟩
        refine ⟨fun c17 => ?_, fun c17 => ?_⟩
        · replace c17 := ltI_t c17
          replace hp := ift hp c17
          obtain rfl := Option.some.inj hp
          exact ⟨rfl, (show 0 < 9223372036854775808 by decide), So9⟩
        replace c17 := ltI_f c17
        replace hp := iff0 hp (nltO c17)
        refine ⟨fun c18 => ?_, fun c18 => ?_⟩
        · replace c18 := ltI_t c18
          replace hp := ift hp c18
          obtain rfl := Option.some.inj hp
          exact ⟨rfl, (show 0 < 9223372036854775808 by decide), So9⟩
        replace c18 := ltI_f c18
        replace hp := iff0 hp (nltO c18)
        refine ⟨fun c19 => ?_, fun c19 => ?_⟩
        · replace c19 := ltI_f (notB_t c19)
          replace hp := ift hp c19
          refine ⟨fun c20 => ?_, fun c20 => ?_⟩
          · replace c20 := ltI_f (notB_t c20)
            replace hp := ift hp c20
            obtain rfl := Option.some.inj hp
            exact ⟨rfl, (show 0 < 9223372036854775808 by decide), So9⟩
          replace c20 := ltI_t (notB_f c20)
          replace hp := iff0 hp (nleO c20)
          obtain rfl := Option.some.inj hp
          exact ⟨rfl, (by decide), So9⟩
        replace c19 := ltI_t (notB_f c19)
        replace hp := iff0 hp (nleO c19)
        obtain rfl := Option.some.inj hp
        exact ⟨rfl, (by decide), So9⟩
      obtain ⟨y16, v2o9, uo9, go9_2, Ko9⟩ := zo9
      replace uo9 := uo9.symm
      subst uo9
      replace go9_2 : tget (pathOf 2) t14 = some v2o9 := Option.some.inj go9_2
      replace hp := LO.on_rt.symm.trans hp
      try dsimp only at hp
      refine Or.inr ⟨y16, v2o9, t14, h15, (qo9.trans (congrArg (fun t => RS.ret t h15) (ovT_eq (l := [(2, v2o9)]) (by show [tget (pathOf 2) t14] = _; rw [go9_2]; rfl)).symm)), trivial, ?_⟩
      obtain rfl := Option.some.inj hp
      exact Ko9
    have rc6 := c6
    replace c6 := ltI_f c6
    replace hp := iff0 hp (nltO c6)
    refine ⟨congrArg (fun z => OV.ok (AV.bool (notB z))) (rc6), ?_⟩
    refine ⟨fun c7 => ?_, fun c7 => ?_⟩
    · replace c7 := ltI_t c7
      replace hp := ift hp c7
      refine ⟨q_len (BIn.now S (i := 0) rfl fl_2), ?_⟩
      refine ⟨fun c8 => ?_, fun c8 => ?_⟩
      · replace c8 := ltI_t c8
        replace hp := ift hp c8
        obtain rfl := Option.some.inj hp
        exact ⟨rfl, (show 0 < 9223372036854775808 by decide), S⟩
      replace c8 := ltI_f c8
      replace hp := iff0 hp (nltO c8)
      refine ⟨i32_conv (Nat.lt_of_lt_of_le x2 (by decide)), ?_⟩
      refine ⟨i32_and (Nat.lt_of_lt_of_le x2 (by decide)) (by decide), ?_⟩
      refine ⟨q_slice (l := l) (BIn.now S (i := 0) rfl fl_2) (by omega) c8, ?_⟩
      have b9 := BIn.part (l := l) (lo := 1) (hi := 4) fl_2 (by omega) c8
      refine ⟨q_len (BIn.now S (i := 0) rfl b9), ?_⟩
      have ⟨o10, hb11, hp⟩ := ob_inv hp
      rcases size_l1_t (show 65536 < 2147483648 by decide) b9  (o := o10) (B4 := 4) (B5 := 65536) (B51 := (l.take 4).drop 1) (B52 := ((l.take 4).drop 1).length) (n := 90000) (A2 := 0) (A6 := (l.getD 0 0) &&& 7) (A53 := 0) ⟨hb11, (Nat.lt_of_le_of_lt Nat.and_le_left (Nat.lt_of_lt_of_le x2 (by decide))), S⟩ hN hN (t := (ovT [(0, wl_1), (2, (vi 0)), (3, (vb8 (l.getD 0 0))), (4, (vi 4)), (5, (AV.int .i32 (Int.ofNat 65536))), (6, (AV.int .i32 (Int.ofNat ((l.getD 0 0) &&& 7)))), (9, wl_1), (10, (elemP wl_1 0 1)), (11, (vb8 (l.getD 0 0))), (12, (AV.bool false)), (13, (vb8 (l.getD 0 0))), (14, (AV.bool (ltI (Int.ofNat (l.getD 0 0)) (Int.ofNat 128)))), (15, (AV.bool false)), (16, (vb8 (l.getD 0 0))), (17, (AV.bool (notB (ltI (Int.ofNat (l.getD 0 0)) (Int.ofNat 192))))), (18, (AV.bool false)), (19, (AV.tuple [])), (20, (AV.tuple [])), (21, (AV.bool false)), (22, (AV.bool false)), (23, (vb8 (l.getD 0 0))), (24, (AV.bool (notB (ltI (Int.ofNat (l.getD 0 0)) (Int.ofNat 224))))), (25, (AV.bool true)), (26, (vb8 (l.getD 0 0))), (27, (AV.bool (ltI (Int.ofNat (l.getD 0 0)) (Int.ofNat 240)))), (28, (AV.bool (ltI (Int.ofNat (l.getD 0 0)) (Int.ofNat 240)))), (29, (AV.bool true)), (30, (vb8 (l.getD 0 0))), (31, (AV.bool (notB (ltI (Int.ofNat (l.getD 0 0)) (Int.ofNat 240))))), (32, (AV.bool true)), (33, (vb8 (l.getD 0 0))), (34, (AV.bool (ltI (Int.ofNat (l.getD 0 0)) (Int.ofNat 248)))), (35, (AV.bool (ltI (Int.ofNat (l.getD 0 0)) (Int.ofNat 248)))), (36, (vi 4)), (37, (AV.bool false)), (38, (AV.bool false)), (39, wl_1), (40, (vi l.length)), (41, (vi 4)), (42, (AV.bool (ltI (Int.ofNat l.length) (Int.ofNat 4)))), (43, (AV.bool false)), (44, (vb8 (l.getD 0 0))), (45, (AV.int .i32 (Int.ofNat (l.getD 0 0)))), (46, (vi 4)), (47, (AV.int .i32 (Int.ofNat 7))), (48, (AV.int .i32 (Int.ofNat ((l.getD 0 0) &&& 7)))), (49, wl_1), (50, (vi 4)), (51, (partS wl_1 1 4)), (52, (vi (((l.take 4).drop 1).length))), (53, (vi 0))] .lf)) (show slots [2, 4, 5, 6, 51, 52, 53] _ = [some (vi 0), some (vi 4), some (AV.int .i32 (Int.ofNat 65536)), some (AV.int .i32 (Int.ofNat ((l.getD 0 0) &&& 7))), some (partS wl_1 1 4), some (vi (((l.take 4).drop 1).length)), some (vi 0)] by kernel_rfl) with ⟨io10, ⟨_, A2o10, A6o10, A53o10⟩, t13, h14, qo10, wo10, zo10⟩ | ⟨t15, h16, qo10, zo10⟩
      · obtain ⟨jo10, zo10⟩ := zo10
        subst jo10
        replace zo10 := zo10 rfl
        obtain ⟨uo10, fA6_1o10, So10⟩ := zo10
        replace uo10 := uo10.symm
        subst uo10
        replace hp := LO.on_ex.symm.trans hp
        try dsimp only at hp
        refine Or.inl ⟨A2o10, A6o10, A53o10, t13, h14, (qo10.trans (congrArg (fun t => RS.exit 1 t h14) (ovT_eq wo10).symm)), trivial, ?_⟩
        refine ⟨fun c18 => ?_, fun c18 => ?_⟩
        · replace c18 := ltI_t c18
          replace hp := ift hp c18
          obtain rfl := Option.some.inj hp
          exact ⟨rfl, (show 0 < 9223372036854775808 by decide), So10⟩
        replace c18 := ltI_f c18
        replace hp := iff0 hp (nltO c18)
        refine ⟨fun c19 => ?_, fun c19 => ?_⟩
        · replace c19 := ltI_t c19
          replace hp := ift hp c19
          obtain rfl := Option.some.inj hp
          exact ⟨rfl, (show 0 < 9223372036854775808 by decide), So10⟩
        replace c19 := ltI_f c19
        replace hp := iff0 hp (nltO c19)
        refine ⟨fun c20 => ?_, fun c20 => ?_⟩
        · replace c20 := ltI_f (notB_t c20)
          replace hp := ift hp c20
          refine ⟨fun c21 => ?_, fun c21 => ?_⟩
          · replace c21 := ltI_f (notB_t c21)
            replace hp := ift hp c21
            obtain rfl := Option.some.inj hp
            exact ⟨rfl, (show 0 < 9223372036854775808 by decide), So10⟩
          replace c21 := ltI_t (notB_f c21)
          replace hp := iff0 hp (nleO c21)
          obtain rfl := Option.some.inj hp
          exact ⟨rfl, (by decide), So10⟩
        replace c20 := ltI_t (notB_f c20)
        replace hp := iff0 hp (nleO c20)
        obtain rfl := Option.some.inj hp
        exact ⟨rfl, (by decide), So10⟩
      obtain ⟨y17, v2o10, uo10, go10_2, Ko10⟩ := zo10
      replace uo10 := uo10.symm
      subst uo10
      replace go10_2 : tget (pathOf 2) t15 = some v2o10 := Option.some.inj go10_2
      replace hp := LO.on_rt.symm.trans hp
      try dsimp only at hp
      refine Or.inr ⟨y17, v2o10, t15, h16, (qo10.trans (congrArg (fun t => RS.ret t h16) (ovT_eq (l := [(2, v2o10)]) (by show [tget (pathOf 2) t15] = _; rw [go10_2]; rfl)).symm)), trivial, ?_⟩
      obtain rfl := Option.some.inj hp
      exact Ko10
    replace c7 := ltI_f c7
    replace hp := iff0 hp (nltO c7)
    obtain rfl := Option.some.inj hp
    exact ⟨rfl, (show 0 < 9223372036854775808 by decide), S⟩
  replace c5 := ltI_t (notB_f c5)
  replace hp := iff0 hp (nleO c5)
  refine ⟨fun c6 => ?_, fun c6 => ?_⟩
  · replace c6 := ltI_f (notB_t c6)
    replace hp := ift hp c6
    refine ⟨fun c7 => ?_, fun c7 => ?_⟩
    · replace c7 := ltI_t c7
      replace hp := ift hp c7
      refine ⟨q_len (BIn.now S (i := 0) rfl fl_2), ?_⟩
      refine ⟨fun c8 => ?_, fun c8 => ?_⟩
      · replace c8 := ltI_t c8
        replace hp := ift hp c8
        obtain rfl := Option.some.inj hp
        exact ⟨rfl, (show 0 < 9223372036854775808 by decide), S⟩
      replace c8 := ltI_f c8
      replace hp := iff0 hp (nltO c8)
      refine ⟨i32_conv (Nat.lt_of_lt_of_le x2 (by decide)), ?_⟩
      refine ⟨i32_and (Nat.lt_of_lt_of_le x2 (by decide)) (by decide), ?_⟩
      refine ⟨q_slice (l := l) (BIn.now S (i := 0) rfl fl_2) (by omega) c8, ?_⟩
      have b9 := BIn.part (l := l) (lo := 1) (hi := 4) fl_2 (by omega) c8
      refine ⟨q_len (BIn.now S (i := 0) rfl b9), ?_⟩
      have ⟨o10, hb11, hp⟩ := ob_inv hp
      rcases size_l1_t (show 65536 < 2147483648 by decide) b9  (o := o10) (B4 := 4) (B5 := 65536) (B51 := (l.take 4).drop 1) (B52 := ((l.take 4).drop 1).length) (n := 90000) (A2 := 0) (A6 := (l.getD 0 0) &&& 7) (A53 := 0) ⟨hb11, (Nat.lt_of_le_of_lt Nat.and_le_left (Nat.lt_of_lt_of_le x2 (by decide))), S⟩ hN hN (t := (ovT [(0, wl_1), (2, (vi 0)), (3, (vb8 (l.getD 0 0))), (4, (vi 4)), (5, (AV.int .i32 (Int.ofNat 65536))), (6, (AV.int .i32 (Int.ofNat ((l.getD 0 0) &&& 7)))), (9, wl_1), (10, (elemP wl_1 0 1)), (11, (vb8 (l.getD 0 0))), (12, (AV.bool false)), (13, (vb8 (l.getD 0 0))), (14, (AV.bool (ltI (Int.ofNat (l.getD 0 0)) (Int.ofNat 128)))), (15, (AV.bool false)), (16, (vb8 (l.getD 0 0))), (17, (AV.bool (notB (ltI (Int.ofNat (l.getD 0 0)) (Int.ofNat 192))))), (18, (AV.bool false)), (19, (AV.tuple [])), (20, (AV.tuple [])), (21, (AV.bool false)), (22, (AV.bool false)), (23, (vb8 (l.getD 0 0))), (24, (AV.bool (notB (ltI (Int.ofNat (l.getD 0 0)) (Int.ofNat 224))))), (25, (AV.bool false)), (26, (AV.tuple [])), (27, (AV.tuple [])), (28, (AV.bool false)), (29, (AV.bool true)), (30, (vb8 (l.getD 0 0))), (31, (AV.bool (notB (ltI (Int.ofNat (l.getD 0 0)) (Int.ofNat 240))))), (32, (AV.bool true)), (33, (vb8 (l.getD 0 0))), (34, (AV.bool (ltI (Int.ofNat (l.getD 0 0)) (Int.ofNat 248)))), (35, (AV.bool (ltI (Int.ofNat (l.getD 0 0)) (Int.ofNat 248)))), (36, (vi 4)), (37, (AV.bool false)), (38, (AV.bool false)), (39, wl_1), (40, (vi l.length)), (41, (vi 4)), (42, (AV.bool (ltI (Int.ofNat l.length) (Int.ofNat 4)))), (43, (AV.bool false)), (44, (vb8 (l.getD 0 0))), (45, (AV.int .i32 (Int.ofNat (l.getD 0 0)))), (46, (vi 4)), (47, (AV.int .i32 (Int.ofNat 7))), (48, (AV.int .i32 (Int.ofNat ((l.getD 0 0) &&& 7)))), (49, wl_1), (50, (vi 4)), (51, (partS wl_1 1 4)), (52, (vi (((l.take 4).drop 1).length))), (53, (vi 0))] .lf)) (show slots [2, 4, 5, 6, 51, 52, 53] _ = [some (vi 0), some (vi 4), some (AV.int .i32 (Int.ofNat 65536)), some (AV.int .i32 (Int.ofNat ((l.getD 0 0) &&& 7))), some (partS wl_1 1 4), some (vi (((l.take 4).drop 1).length)), some (vi 0)] by kernel_rfl) with ⟨io10, ⟨_, A2o10, A6o10, A53o10⟩, t13, h14, qo10, wo10, zo10⟩ | ⟨t15, h16, qo10, zo10⟩
      · obtain ⟨jo10, zo10⟩ := zo10
        subst jo10
        replace zo10 := zo10 rfl
        obtain ⟨uo10, fA6_1o10, So10⟩ := zo10
        replace uo10 := uo10.symm
        subst uo10
        replace hp := LO.on_ex.symm.trans hp
        try dsimp only at hp
        refine Or.inl ⟨A2o10, A6o10, A53o10, t13, h14, (qo10.trans (congrArg (fun t => RS.exit 1 t h14) (ovT_eq wo10).symm)), trivial, ?_⟩
        refine ⟨fun c18 => ?_, fun c18 => ?_⟩
        · replace c18 := ltI_t c18
          replace hp := ift hp c18
          obtain rfl := Option.some.inj hp
          exact ⟨rfl, (show 0 < 9223372036854775808 by decide), So10⟩
        replace c18 := ltI_f c18
        replace hp := iff0 hp (nltO c18)
        refine ⟨fun c19 => ?_, fun c19 => ?_⟩
        · replace c19 := ltI_t c19
          replace hp := ift hp c19
          obtain rfl := Option.some.inj hp
          exact ⟨rfl, (show 0 < 9223372036854775808 by decide), So10⟩
        replace c19 := ltI_f c19
        replace hp := iff0 hp (nltO c19)
        refine ⟨fun c20 => ?_, fun c20 => ?_⟩
        · replace c20 := ltI_f (notB_t c20)
          replace hp := ift hp c20
          refine ⟨fun c21 => ?_, fun c21 => ?_⟩
          · replace c21 := ltI_f (notB_t c21)
            replace hp := ift hp c21
            obtain rfl := Option.some.inj hp
            exact ⟨rfl, (show 0 < 9223372036854775808 by decide), So10⟩
          replace c21 := ltI_t (notB_f c21)
          replace hp := iff0 hp (nleO c21)
          obtain rfl := Option.some.inj hp
          exact ⟨rfl, (by decide), So10⟩
        replace c20 := ltI_t (notB_f c20)
        replace hp := iff0 hp (nleO c20)
        obtain rfl := Option.some.inj hp
        exact ⟨rfl, (by decide), So10⟩
      obtain ⟨y17, v2o10, uo10, go10_2, Ko10⟩ := zo10
      replace uo10 := uo10.symm
      subst uo10
      replace go10_2 : tget (pathOf 2) t15 = some v2o10 := Option.some.inj go10_2
      replace hp := LO.on_rt.symm.trans hp
      try dsimp only at hp
      refine Or.inr ⟨y17, v2o10, t15, h16, (qo10.trans (congrArg (fun t => RS.ret t h16) (ovT_eq (l := [(2, v2o10)]) (by show [tget (pathOf 2) t15] = _; rw [go10_2]; rfl)).symm)), trivial, ?_⟩
      obtain rfl := Option.some.inj hp
      exact Ko10
    replace c7 := ltI_f c7
    replace hp := iff0 hp (nltO c7)
    obtain rfl := Option.some.inj hp
    exact ⟨rfl, (show 0 < 9223372036854775808 by decide), S⟩
  replace c6 := ltI_t (notB_f c6)
  replace hp := iff0 hp (nleO c6)
  obtain rfl := Option.some.inj hp
  exact ⟨rfl, (show 0 < 9223372036854775808 by decide), S⟩
def C_size (call : CallT) : Prop := ∀ {h : Hp} {wl_1 : AV} {l : List Nat} (fl_2 : BIn (Low h) h wl_1 l) {r : Nat}, size_p l = some r → ∃ rv rh, call 66 [wl_1] h = .ok rv rh ∧ rv = (vi r) ∧ (r < 9223372036854775808) ∧ Eng.Sep (Frz (Low h) h :: []) rh
theorem s_size (d : Nat) : C_size (CC (d + 1)) := by
  intro h wl_1 l fl_2 r hp
  rw [CC, evF_at (sumT_none rfl)]
  exact size_w (call := CC (d + 0)) (N := 100000) fl_2  (by decide) hp
noncomputable def utf8_l1  : Nat → List Nat → Bool → Option (LO (List Nat × Bool) (Bool))
  | 0, _, _ => none
  | m + 1, A0, A2 =>
    (if 0 < A0.length then (ob (size_p A0) fun x2 =>
    (if x2 = 0 then (some (LO.rt false)) else
    (gd (x2 ≤ A0.length) (utf8_l1  m (A0.drop x2) A2)))) else
    (some (LO.ex (A0, A2))))
noncomputable def utf8_l1C : AC := (.seq (.seq (.region [⟨(some 4), .q (.move (.tmp 0)), none⟩, ⟨(some 5), .q (.lenL (.tmp 4)), none⟩, ⟨(some 6), .q (.bin .gtr (.tmp 5) (.const (vi 0))), none⟩]) (.cond (.tmp 6) .skip (.exit 0))) (.block 1 (.seq (.region [⟨(some 7), .q (.move (.tmp 0)), none⟩, ⟨(some 8), .e (.call (.const (AV.func (.func 66) [] [])) [(.tmp 7)]), none⟩, ⟨(some 3), .q (.move (.tmp 8)), none⟩]) (.seq (.seq (.region [⟨(some 9), .q (.move (.tmp 3)), none⟩, ⟨(some 10), .q (.eq .int false (.tmp 9) (.const (vi 0))), none⟩]) (.cond (.tmp 10) (.seq (.region [⟨(some 2), .q (.move (.const (AV.bool false))), none⟩]) .ret) .skip)) (.region [⟨(some 11), .q (.move (.tmp 0)), none⟩, ⟨(some 12), .q (.move (.tmp 3)), none⟩, ⟨(some 13), .q (.sliceSl 1 (.tmp 11) (some (.tmp 12)) none none), none⟩, ⟨(some 0), .q (.move (.tmp 13)), none⟩])))))
theorem utf8_l1_body {call : CallT} {N : Nat} {t : T} {h : Hp} {G : Nat → Prop} {h0 : Hp}   (h_size : C_size call) {o : LO (List Nat × Bool) (Bool)} {n : Nat} {A0 : List Nat} {A2 : Bool} {wA0_1 : AV} (hN : 90000 < N) (hi : (fun (z : Nat × List Nat × Bool × AV) (h' : Hp) => utf8_l1  z.1 z.2.1 z.2.2.1 = some o ∧ (BIn G h0 z.2.2.2 z.2.1) ∧ Eng.Sep [Frz G h0] h') (n, A0, A2, wA0_1) h)
    : ∃ s, evC call N utf8_l1C (ovT [(0, wA0_1), (2, (AV.bool A2))] t) h = s ∧ obsS [0, 2] (fun ls h' => ∃ y, ls = ((fun (z : Nat × List Nat × Bool × AV) => [(0, z.2.2.2), (2, (AV.bool z.2.2.1))]) y).map (fun p => some p.2) ∧ (fun (z : Nat × List Nat × Bool × AV) (h' : Hp) => utf8_l1  z.1 z.2.1 z.2.2.1 = some o ∧ (BIn G h0 z.2.2.2 z.2.1) ∧ Eng.Sep [Frz G h0] h') y h' ∧ (fun (z : Nat × List Nat × Bool × AV) => z.1) y < (fun (z : Nat × List Nat × Bool × AV) => z.1) (n, A0, A2, wA0_1)) (fun i ls h' => ∃ y, ls = ((fun (z : Nat × List Nat × Bool × AV) => [(0, z.2.2.2), (2, (AV.bool z.2.2.1))]) y).map (fun p => some p.2) ∧ (fun (i : Nat) (z : Nat × List Nat × Bool × AV) (h' : Hp) => (i = 0) ∧ (i = 0 → o = LO.ex (z.2.1, z.2.2.1) ∧ (BIn G h0 z.2.2.2 z.2.1) ∧ Eng.Sep [Frz G h0] h')) i y h') (fun ls h' => (fun (ls : List (Option AV)) (h' : Hp) => ∃ (rt : Bool) (v2 : AV), o = LO.rt rt ∧ ls[1]? = some (some v2) ∧ (v2 = (AV.bool rt) ∧ Eng.Sep (Frz G h0 :: []) h')) ls h') s := by
  have hi : utf8_l1  n A0 A2 = some o ∧ (BIn G h0 wA0_1 A0) ∧ Eng.Sep [Frz G h0] h := hi
  obtain ⟨hp, fA0_2, S⟩ := hi
  obtain ⟨m, hm⟩ : ∃ m, n = m + 1 := by
    cases n with
    | zero => first | cases hp | (unfold utf8_l1 at hp; cases hp) | (simp [utf8_l1] at hp)
    | succ m => exact ⟨m, rfl⟩
  rw [hm] at hp
  unfold utf8_l1 at hp
  refine walk_ok (o := (.tell 1 (vi A0.length) (.fork 0 (.exi 1 fun (x2 : Nat) => (.exi 0 fun (h8 : Hp) => (.eff 0 (vi x2) h8 (.fork 2 .fin (.tell 2 (partS wA0_1 x2 A0.length) .fin))))) .fin))) (p := (fun (KN : List (Option AV) → Hp → Prop) (KE : Nat → List (Option AV) → Hp → Prop) (KR : List (Option AV) → Hp → Prop) => ((evQ (.lenL (.const wA0_1)) .lf H0 = .ok (vi A0.length) ∧ ((ltI (Int.ofNat 0) (Int.ofNat A0.length) = true → (∃ x2 : Nat, ∃ h8 : Hp, (call 66 [wA0_1] h = .ok (vi x2) h8 ∧ ((eqI (Int.ofNat x2) (Int.ofNat 0) = true → KR [some wA0_1, some (AV.bool false)] h8) ∧ (eqI (Int.ofNat x2) (Int.ofNat 0) = false → ((evQ (.sliceSl 1 (.const wA0_1) (some (.const (vi x2))) none none) .lf H0 = .ok (partS wA0_1 x2 A0.length) ∧ KN [some (partS wA0_1 x2 A0.length), some (AV.bool A2)] h8))))))) ∧ (ltI (Int.ofNat 0) (Int.ofNat A0.length) = false → KE 0 [some wA0_1, some (AV.bool A2)] h))))) (fun ls h' => ∃ y, ls = ((fun (z : Nat × List Nat × Bool × AV) => [(0, z.2.2.2), (2, (AV.bool z.2.2.1))]) y).map (fun p => some p.2) ∧ (fun (z : Nat × List Nat × Bool × AV) (h' : Hp) => utf8_l1  z.1 z.2.1 z.2.2.1 = some o ∧ (BIn G h0 z.2.2.2 z.2.1) ∧ Eng.Sep [Frz G h0] h') y h' ∧ (fun (z : Nat × List Nat × Bool × AV) => z.1) y < (fun (z : Nat × List Nat × Bool × AV) => z.1) (n, A0, A2, wA0_1)) (fun i ls h' => ∃ y, ls = ((fun (z : Nat × List Nat × Bool × AV) => [(0, z.2.2.2), (2, (AV.bool z.2.2.1))]) y).map (fun p => some p.2) ∧ (fun (i : Nat) (z : Nat × List Nat × Bool × AV) (h' : Hp) => (i = 0) ∧ (i = 0 → o = LO.ex (z.2.1, z.2.2.1) ∧ (BIn G h0 z.2.2.2 z.2.1) ∧ Eng.Sep [Frz G h0] h')) i y h') (fun ls h' => (fun (ls : List (Option AV)) (h' : Hp) => ∃ (rt : Bool) (v2 : AV), o = LO.rt rt ∧ ls[1]? = some (some v2) ∧ (v2 = (AV.bool rt) ∧ Eng.Sep (Frz G h0 :: []) h')) ls h')) (by kernel_rfl) ?_
  refine ⟨q_len (BIn.now S (i := 0) rfl fA0_2), ?_⟩
  refine ⟨fun c1 => ?_, fun c1 => ?_⟩
  · replace c1 := ltI_t c1
    replace hp := ift hp c1
    have ⟨x2, hb3, hp⟩ := ob_inv hp
    obtain ⟨v7, h8, q9, e10, f6, S11⟩ := h_size (BIn.up (Sep.low S (i := 0) rfl) fA0_2) hb3
    replace e10 := e10.symm
    subst e10
    have S13 := Sep.call S (news := []) S11
    refine ⟨x2, h8, q9, ?_⟩
    refine ⟨fun c14 => ?_, fun c14 => ?_⟩
    · replace c14 := eqI_t c14
      replace hp := ift hp c14
      refine ⟨_, (AV.bool false), (Option.some.inj hp).symm, rfl, ?_⟩
      exact ⟨rfl, S13⟩
    replace c14 := eqI_f c14
    replace hp := iff0 hp (c14)
    have ⟨g15, hp⟩ := gd_inv hp
    refine ⟨q_sliceFrom (l := A0) (BIn.now S13 (i := 0) rfl fA0_2) g15, ?_⟩
    have b16 := BIn.from (l := A0) (lo := x2) fA0_2 g15
    refine ⟨(m, A0.drop x2, A2, (partS wA0_1 x2 A0.length)), rfl, ⟨hp, b16, S13⟩, by show m < n; omega⟩
  replace c1 := ltI_f c1
  replace hp := iff0 hp (nltO c1)
  refine ⟨(m, A0, A2, wA0_1), rfl, rfl, fun _ => ⟨(Option.some.inj hp).symm, fA0_2, S⟩⟩
theorem utf8_l1_t {call : CallT} {N : Nat} {G : Nat → Prop} {h0 : Hp}   (h_size : C_size call) {o : LO (List Nat × Bool) (Bool)} {n : Nat} {A0 : List Nat} {A2 : Bool} {wA0_1 : AV} {h : Hp} (hi : (fun (z : Nat × List Nat × Bool × AV) (h' : Hp) => utf8_l1  z.1 z.2.1 z.2.2.1 = some o ∧ (BIn G h0 z.2.2.2 z.2.1) ∧ Eng.Sep [Frz G h0] h') (n, A0, A2, wA0_1) h) (hN : n < N) (hN' : 90000 < N) {t : T} (ht : Has ((fun (z : Nat × List Nat × Bool × AV) => [(0, z.2.2.2), (2, (AV.bool z.2.2.1))]) (n, A0, A2, wA0_1)) t) :
    (∃ i y t' h', evC call N (.loop utf8_l1C) t h = .exit i t' h' ∧ Has ((fun (z : Nat × List Nat × Bool × AV) => [(0, z.2.2.2), (2, (AV.bool z.2.2.1))]) y) t' ∧ (fun (i : Nat) (z : Nat × List Nat × Bool × AV) (h' : Hp) => (i = 0) ∧ (i = 0 → o = LO.ex (z.2.1, z.2.2.1) ∧ (BIn G h0 z.2.2.2 z.2.1) ∧ Eng.Sep [Frz G h0] h')) i y h') ∨ (∃ t' h', evC call N (.loop utf8_l1C) t h = .ret t' h' ∧ (fun (ls : List (Option AV)) (h' : Hp) => ∃ (rt : Bool) (v2 : AV), o = LO.rt rt ∧ ls[1]? = some (some v2) ∧ (v2 = (AV.bool rt) ∧ Eng.Sep (Frz G h0 :: []) h')) (slots [0, 2] t') h') :=
  loop_st (fun (z : Nat × List Nat × Bool × AV) => [(0, z.2.2.2), (2, (AV.bool z.2.2.1))]) [0, 2] (fun _ => rfl) (fun (z : Nat × List Nat × Bool × AV) (h' : Hp) => utf8_l1  z.1 z.2.1 z.2.2.1 = some o ∧ (BIn G h0 z.2.2.2 z.2.1) ∧ Eng.Sep [Frz G h0] h') (fun (z : Nat × List Nat × Bool × AV) => z.1) (fun (i : Nat) (z : Nat × List Nat × Bool × AV) (h' : Hp) => (i = 0) ∧ (i = 0 → o = LO.ex (z.2.1, z.2.2.1) ∧ (BIn G h0 z.2.2.2 z.2.1) ∧ Eng.Sep [Frz G h0] h')) (fun (ls : List (Option AV)) (h' : Hp) => ∃ (rt : Bool) (v2 : AV), o = LO.rt rt ∧ ls[1]? = some (some v2) ∧ (v2 = (AV.bool rt) ∧ Eng.Sep (Frz G h0 :: []) h')) (fun ⟨n, A0, A2, wA0_1⟩ t h hi => utf8_l1_body h_size hN' hi) (n, A0, A2, wA0_1) h hi hN t ht
noncomputable def utf8_p (l : List Nat) : Option (Bool) :=
  (ob (utf8_l1  90000 l false) fun o1 =>
    (LO.on o1 (fun s_o1 => (some true)) (fun y8 =>
    (some y8))))
theorem utf8_w {call : CallT} {N : Nat} {h : Hp} {wl_1 : AV} {l : List Nat} (fl_2 : BIn (Low h) h wl_1 l) (h_size : C_size call) (hN : 90000 < N) {r : Bool} (hp : utf8_p l = some r) :
    ∃ rv rh, evF1 (progS Try.prog (compDrawn Try.prog)) N call 37 [wl_1] h = .ok rv rh ∧ (fun (rv : AV) (rh : Hp) => rv = (AV.bool r) ∧ Eng.Sep (Frz (Low h) h :: []) rh) rv rh := by
  have S : Eng.Sep [Frz (Low h) h] h := Sep.start h
  unfold utf8_p at hp
  refine fwalk_ok (K := (fun (rv : AV) (rh : Hp) => rv = (AV.bool r) ∧ Eng.Sep (Frz (Low h) h :: []) rh)) (o := (.dis 1 (.exi 0 fun (A0o1 : List Nat) => (.exi 0 fun (A2o1 : Bool) => (.exi 0 fun (wA0_1o1 : AV) => (.exi 0 fun (t4 : T) => (.exi 0 fun (h5 : Hp) => (.lp 0 (.exit 0 (ovT [(0, wA0_1o1), (2, (AV.bool A2o1))] t4) h5) .fin)))))) (.exi 0 fun (y8 : Bool) => (.exi 0 fun (v2o1 : AV) => (.exi 0 fun (t6 : T) => (.exi 0 fun (h7 : Hp) => (.lp 0 (.ret (ovT [(2, v2o1)] t6) h7) .fin))))))) (p := (fun (KK : AV → Hp → Prop) => ((∃ A0o1 : List Nat, ∃ A2o1 : Bool, ∃ wA0_1o1 : AV, ∃ t4 : T, ∃ h5 : Hp, (evC call N (.loop utf8_l1C) (ovT [(0, wl_1), (2, (AV.bool false))] .lf) h = (.exit 0 (ovT [(0, wA0_1o1), (2, (AV.bool A2o1))] t4) h5) ∧ True ∧ KK (AV.bool true) h5)) ∨ (∃ y8 : Bool, ∃ v2o1 : AV, ∃ t6 : T, ∃ h7 : Hp, (evC call N (.loop utf8_l1C) (ovT [(0, wl_1), (2, (AV.bool false))] .lf) h = (.ret (ovT [(2, v2o1)] t6) h7) ∧ True ∧ KK v2o1 h7)))) (fun (rv : AV) (rh : Hp) => rv = (AV.bool r) ∧ Eng.Sep (Frz (Low h) h :: []) rh)) (by kernel_rfl) ?_
  have ⟨o1, hb2, hp⟩ := ob_inv hp
  rcases utf8_l1_t  h_size (o := o1) (n := 90000) (A0 := l) (A2 := false) (wA0_1 := wl_1) ⟨hb2, fl_2, S⟩ hN hN (t := (ovT [(0, wl_1), (2, (AV.bool false))] .lf)) (show slots [0, 2] _ = [some wl_1, some (AV.bool false)] by kernel_rfl) with ⟨io1, ⟨_, A0o1, A2o1, wA0_1o1⟩, t4, h5, qo1, wo1, zo1⟩ | ⟨t6, h7, qo1, zo1⟩
  · obtain ⟨jo1, zo1⟩ := zo1
    subst jo1
    replace zo1 := zo1 rfl
    obtain ⟨uo1, fA0_2o1, So1⟩ := zo1
    replace uo1 := uo1.symm
    subst uo1
    replace hp := LO.on_ex.symm.trans hp
    try dsimp only at hp
    refine Or.inl ⟨A0o1, A2o1, wA0_1o1, t4, h5, (qo1.trans (congrArg (fun t => RS.exit 0 t h5) (ovT_eq wo1).symm)), trivial, ?_⟩
    obtain rfl := Option.some.inj hp
    exact ⟨rfl, So1⟩
  obtain ⟨y8, v2o1, uo1, go1_2, Ko1⟩ := zo1
  replace uo1 := uo1.symm
  subst uo1
  replace go1_2 : tget (pathOf 2) t6 = some v2o1 := Option.some.inj go1_2
  replace hp := LO.on_rt.symm.trans hp
  try dsimp only at hp
  refine Or.inr ⟨y8, v2o1, t6, h7, (qo1.trans (congrArg (fun t => RS.ret t h7) (ovT_eq (l := [(2, v2o1)]) (by show [tget (pathOf 2) t6] = _; rw [go1_2]; rfl)).symm)), trivial, ?_⟩
  obtain rfl := Option.some.inj hp
  exact Ko1
def C_utf8 (call : CallT) : Prop := ∀ {h : Hp} {wl_1 : AV} {l : List Nat} (fl_2 : BIn (Low h) h wl_1 l) {r : Bool}, utf8_p l = some r → ∃ rv rh, call 37 [wl_1] h = .ok rv rh ∧ rv = (AV.bool r) ∧ Eng.Sep (Frz (Low h) h :: []) rh
theorem s_utf8 (d : Nat) : C_utf8 (CC (d + 2)) := by
  intro h wl_1 l fl_2 r hp
  rw [CC, evF_at (sumT_none rfl)]
  exact utf8_w (call := CC (d + 1)) (N := 100000) fl_2 (s_size (d + 0)) (by decide) hp
noncomputable def index_l1 (B0 : List Nat) (B1 : Nat) (B7 : Nat) : Nat → Nat → Nat → Option (LO (Nat × Nat) (Int))
  | 0, _, _ => none
  | m + 1, A4, A8 =>
    (if A8 < B7 then (gd (A8 < B0.length) (if B1 = B0.getD A8 0 then (some (LO.rt ((A8 : Nat) : Int))) else
    (gd (A8 + 1 < 9223372036854775808) (index_l1 B0 B1 B7 m A4 (A8 + 1))))) else
    (some (LO.ex (A4, A8))))
noncomputable def index_l1C : AC := (.seq (.region [⟨(some 9), .q (.bin .lss (.tmp 8) (.tmp 7)), none⟩]) (.seq (.cond (.tmp 9) .skip (.exit 0)) (.seq (.block 1 (.seq (.region [⟨(some 10), .q (.move (.tmp 8)), none⟩, ⟨(some 5), .q (.move (.tmp 10)), none⟩]) (.seq (.region [⟨(some 11), .q (.move (.tmp 1)), none⟩, ⟨(some 12), .q (.move (.tmp 0)), none⟩, ⟨(some 13), .q (.move (.tmp 5)), none⟩, ⟨(some 14), .q (.idxAddrSl 1 (.tmp 12) (.tmp 13)), none⟩, ⟨(some 15), .q (.loadS (.tmp 14)), none⟩, ⟨(some 16), .q (.eq .int false (.tmp 11) (.tmp 15)), none⟩]) (.cond (.tmp 16) (.seq (.region [⟨(some 17), .q (.move (.tmp 5)), none⟩, ⟨(some 4), .q (.move (.tmp 17)), none⟩]) .ret) .skip)))) (.region [⟨(some 18), .q (.bin .add (.tmp 8) (.const (vi 1))), none⟩, ⟨(some 8), .q (.move (.tmp 18)), none⟩]))))
theorem index_l1_body {call : CallT} {N : Nat} {t : T} {h : Hp} {wB0_1 : AV} {G : Nat → Prop} {h0 : Hp} {B0 : List Nat} {B1 : Nat} {B7 : Nat} (fB0_2 : BIn G h0 wB0_1 B0) (fB1_1 : B1 < 256)  {o : LO (Nat × Nat) (Int)} {n : Nat} {A4 : Nat} {A8 : Nat} (hN : 90000 < N) (hi : (fun (z : Nat × Nat × Nat) (h' : Hp) => index_l1 B0 B1 B7 z.1 z.2.1 z.2.2 = some o ∧ Eng.Sep [Frz G h0] h') (n, A4, A8) h)
    : ∃ s, evC call N index_l1C (ovT [(0, wB0_1), (1, (vb8 B1)), (4, (vi A4)), (7, (vi B7)), (8, (vi A8))] t) h = s ∧ obsS [0, 1, 4, 7, 8] (fun ls h' => ∃ y, ls = ((fun (z : Nat × Nat × Nat) => [(0, wB0_1), (1, (vb8 B1)), (4, (vi z.2.1)), (7, (vi B7)), (8, (vi z.2.2))]) y).map (fun p => some p.2) ∧ (fun (z : Nat × Nat × Nat) (h' : Hp) => index_l1 B0 B1 B7 z.1 z.2.1 z.2.2 = some o ∧ Eng.Sep [Frz G h0] h') y h' ∧ (fun (z : Nat × Nat × Nat) => z.1) y < (fun (z : Nat × Nat × Nat) => z.1) (n, A4, A8)) (fun i ls h' => ∃ y, ls = ((fun (z : Nat × Nat × Nat) => [(0, wB0_1), (1, (vb8 B1)), (4, (vi z.2.1)), (7, (vi B7)), (8, (vi z.2.2))]) y).map (fun p => some p.2) ∧ (fun (i : Nat) (z : Nat × Nat × Nat) (h' : Hp) => (i = 0) ∧ (i = 0 → o = LO.ex (z.2.1, z.2.2) ∧ Eng.Sep [Frz G h0] h')) i y h') (fun ls h' => (fun (ls : List (Option AV)) (h' : Hp) => ∃ (rt : Int) (v4 : AV), o = LO.rt rt ∧ ls[2]? = some (some v4) ∧ (v4 = (AV.int .i64 rt) ∧ Eng.Sep (Frz G h0 :: []) h')) ls h') s := by
  have hi : index_l1 B0 B1 B7 n A4 A8 = some o ∧ Eng.Sep [Frz G h0] h := hi
  obtain ⟨hp, S⟩ := hi
  obtain ⟨m, hm⟩ : ∃ m, n = m + 1 := by
    cases n with
    | zero => first | cases hp | (unfold index_l1 at hp; cases hp) | (simp [index_l1] at hp)
    | succ m => exact ⟨m, rfl⟩
  rw [hm] at hp
  unfold index_l1 at hp
  refine walk_ok (o := (.fork 0 (.tell 5 (elemP wB0_1 A8 1) (.tell 0 (vb8 (B0.getD A8 0)) (.fork 0 .fin (.tell 0 (vi (A8 + 1)) .fin)))) .fin)) (p := (fun (KN : List (Option AV) → Hp → Prop) (KE : Nat → List (Option AV) → Hp → Prop) (KR : List (Option AV) → Hp → Prop) => ((ltI (Int.ofNat A8) (Int.ofNat B7) = true → ((evQ (.idxAddrSl 1 (.const wB0_1) (.const (vi A8))) .lf H0 = .ok (elemP wB0_1 A8 1) ∧ ((evQ (.loadS (.const (elemP wB0_1 A8 1))) .lf h = .ok (vb8 (B0.getD A8 0)) ∧ ((eqI (Int.ofNat B1) (Int.ofNat (B0.getD A8 0)) = true → KR [some wB0_1, some (vb8 B1), some (vi A8), some (vi B7), some (vi A8)] h) ∧ (eqI (Int.ofNat B1) (Int.ofNat (B0.getD A8 0)) = false → ((evQ (.bin .add (.const (vi A8)) (.const (vi 1))) .lf H0 = .ok (vi (A8 + 1)) ∧ KN [some wB0_1, some (vb8 B1), some (vi A4), some (vi B7), some (vi (A8 + 1))] h))))))))) ∧ (ltI (Int.ofNat A8) (Int.ofNat B7) = false → KE 0 [some wB0_1, some (vb8 B1), some (vi A4), some (vi B7), some (vi A8)] h))) (fun ls h' => ∃ y, ls = ((fun (z : Nat × Nat × Nat) => [(0, wB0_1), (1, (vb8 B1)), (4, (vi z.2.1)), (7, (vi B7)), (8, (vi z.2.2))]) y).map (fun p => some p.2) ∧ (fun (z : Nat × Nat × Nat) (h' : Hp) => index_l1 B0 B1 B7 z.1 z.2.1 z.2.2 = some o ∧ Eng.Sep [Frz G h0] h') y h' ∧ (fun (z : Nat × Nat × Nat) => z.1) y < (fun (z : Nat × Nat × Nat) => z.1) (n, A4, A8)) (fun i ls h' => ∃ y, ls = ((fun (z : Nat × Nat × Nat) => [(0, wB0_1), (1, (vb8 B1)), (4, (vi z.2.1)), (7, (vi B7)), (8, (vi z.2.2))]) y).map (fun p => some p.2) ∧ (fun (i : Nat) (z : Nat × Nat × Nat) (h' : Hp) => (i = 0) ∧ (i = 0 → o = LO.ex (z.2.1, z.2.2) ∧ Eng.Sep [Frz G h0] h')) i y h') (fun ls h' => (fun (ls : List (Option AV)) (h' : Hp) => ∃ (rt : Int) (v4 : AV), o = LO.rt rt ∧ ls[2]? = some (some v4) ∧ (v4 = (AV.int .i64 rt) ∧ Eng.Sep (Frz G h0 :: []) h')) ls h')) (by kernel_rfl) ?_
  refine ⟨fun c1 => ?_, fun c1 => ?_⟩
  · replace c1 := ltI_t c1
    replace hp := ift hp c1
    have ⟨g2, hp⟩ := gd_inv hp
    refine ⟨q_idxB (l := B0) (BIn.now S (i := 0) rfl fB0_2) g2, ?_⟩
    refine ⟨q_byte (l := B0) (BIn.now S (i := 0) rfl fB0_2) g2, ?_⟩
    refine ⟨fun c4 => ?_, fun c4 => ?_⟩
    · replace c4 := eqI_t c4
      replace hp := ift hp c4
      refine ⟨_, (vi A8), (Option.some.inj hp).symm, rfl, ?_⟩
      exact ⟨rfl, S⟩
    replace c4 := eqI_f c4
    replace hp := iff0 hp (c4)
    have ⟨g5, hp⟩ := gd_inv hp
    refine ⟨q_add g5, ?_⟩
    refine ⟨(m, A4, A8 + 1), rfl, ⟨hp, S⟩, by show m < n; omega⟩
  replace c1 := ltI_f c1
  replace hp := iff0 hp (nltO c1)
  refine ⟨(m, A4, A8), rfl, rfl, fun _ => ⟨(Option.some.inj hp).symm, S⟩⟩
theorem index_l1_t {call : CallT} {N : Nat} {wB0_1 : AV} {G : Nat → Prop} {h0 : Hp} {B0 : List Nat} {B1 : Nat} {B7 : Nat} (fB0_2 : BIn G h0 wB0_1 B0) (fB1_1 : B1 < 256)  {o : LO (Nat × Nat) (Int)} {n : Nat} {A4 : Nat} {A8 : Nat} {h : Hp} (hi : (fun (z : Nat × Nat × Nat) (h' : Hp) => index_l1 B0 B1 B7 z.1 z.2.1 z.2.2 = some o ∧ Eng.Sep [Frz G h0] h') (n, A4, A8) h) (hN : n < N) (hN' : 90000 < N) {t : T} (ht : Has ((fun (z : Nat × Nat × Nat) => [(0, wB0_1), (1, (vb8 B1)), (4, (vi z.2.1)), (7, (vi B7)), (8, (vi z.2.2))]) (n, A4, A8)) t) :
    (∃ i y t' h', evC call N (.loop index_l1C) t h = .exit i t' h' ∧ Has ((fun (z : Nat × Nat × Nat) => [(0, wB0_1), (1, (vb8 B1)), (4, (vi z.2.1)), (7, (vi B7)), (8, (vi z.2.2))]) y) t' ∧ (fun (i : Nat) (z : Nat × Nat × Nat) (h' : Hp) => (i = 0) ∧ (i = 0 → o = LO.ex (z.2.1, z.2.2) ∧ Eng.Sep [Frz G h0] h')) i y h') ∨ (∃ t' h', evC call N (.loop index_l1C) t h = .ret t' h' ∧ (fun (ls : List (Option AV)) (h' : Hp) => ∃ (rt : Int) (v4 : AV), o = LO.rt rt ∧ ls[2]? = some (some v4) ∧ (v4 = (AV.int .i64 rt) ∧ Eng.Sep (Frz G h0 :: []) h')) (slots [0, 1, 4, 7, 8] t') h') :=
  loop_st (fun (z : Nat × Nat × Nat) => [(0, wB0_1), (1, (vb8 B1)), (4, (vi z.2.1)), (7, (vi B7)), (8, (vi z.2.2))]) [0, 1, 4, 7, 8] (fun _ => rfl) (fun (z : Nat × Nat × Nat) (h' : Hp) => index_l1 B0 B1 B7 z.1 z.2.1 z.2.2 = some o ∧ Eng.Sep [Frz G h0] h') (fun (z : Nat × Nat × Nat) => z.1) (fun (i : Nat) (z : Nat × Nat × Nat) (h' : Hp) => (i = 0) ∧ (i = 0 → o = LO.ex (z.2.1, z.2.2) ∧ Eng.Sep [Frz G h0] h')) (fun (ls : List (Option AV)) (h' : Hp) => ∃ (rt : Int) (v4 : AV), o = LO.rt rt ∧ ls[2]? = some (some v4) ∧ (v4 = (AV.int .i64 rt) ∧ Eng.Sep (Frz G h0 :: []) h')) (fun ⟨n, A4, A8⟩ t h hi => index_l1_body fB0_2 fB1_1 hN' hi) (n, A4, A8) h hi hN t ht
noncomputable def index_p (l : List Nat) (x : Nat) : Option (Int) :=
  (ob (index_l1 l x l.length 90000 0 0) fun o1 =>
    (LO.on o1 (fun s_o1 => (some (-1 : Int))) (fun y8 =>
    (some y8))))
theorem index_w {call : CallT} {N : Nat} {h : Hp} {wl_1 : AV} {l : List Nat} {x : Nat} (fl_2 : BIn (Low h) h wl_1 l) (fx_1 : x < 256)  (hN : 90000 < N) {r : Int} (hp : index_p l x = some r) :
    ∃ rv rh, evF1 (progS Try.prog (compDrawn Try.prog)) N call 76 [wl_1, (vb8 x)] h = .ok rv rh ∧ (fun (rv : AV) (rh : Hp) => rv = (AV.int .i64 r) ∧ Eng.Sep (Frz (Low h) h :: []) rh) rv rh := by
  have S : Eng.Sep [Frz (Low h) h] h := Sep.start h
  unfold index_p at hp
  refine fwalk_ok (K := (fun (rv : AV) (rh : Hp) => rv = (AV.int .i64 r) ∧ Eng.Sep (Frz (Low h) h :: []) rh)) (o := (.tell 2 (vi l.length) (.dis 1 (.exi 0 fun (A4o1 : Nat) => (.exi 0 fun (A8o1 : Nat) => (.exi 0 fun (t4 : T) => (.exi 0 fun (h5 : Hp) => (.lp 0 (.exit 0 (ovT [(0, wl_1), (1, (vb8 x)), (4, (vi A4o1)), (7, (vi l.length)), (8, (vi A8o1))] t4) h5) .fin))))) (.exi 0 fun (y8 : Int) => (.exi 0 fun (v4o1 : AV) => (.exi 0 fun (t6 : T) => (.exi 0 fun (h7 : Hp) => (.lp 0 (.ret (ovT [(4, v4o1)] t6) h7) .fin)))))))) (p := (fun (KK : AV → Hp → Prop) => ((evQ (.lenL (.const wl_1)) .lf H0 = .ok (vi l.length) ∧ ((∃ A4o1 : Nat, ∃ A8o1 : Nat, ∃ t4 : T, ∃ h5 : Hp, (evC call N (.loop index_l1C) (ovT [(0, wl_1), (1, (vb8 x)), (4, (vi 0)), (6, wl_1), (7, (vi l.length)), (8, (vi 0))] .lf) h = (.exit 0 (ovT [(0, wl_1), (1, (vb8 x)), (4, (vi A4o1)), (7, (vi l.length)), (8, (vi A8o1))] t4) h5) ∧ True ∧ KK (AV.int .i64 (Int.negSucc 0)) h5)) ∨ (∃ y8 : Int, ∃ v4o1 : AV, ∃ t6 : T, ∃ h7 : Hp, (evC call N (.loop index_l1C) (ovT [(0, wl_1), (1, (vb8 x)), (4, (vi 0)), (6, wl_1), (7, (vi l.length)), (8, (vi 0))] .lf) h = (.ret (ovT [(4, v4o1)] t6) h7) ∧ True ∧ KK v4o1 h7)))))) (fun (rv : AV) (rh : Hp) => rv = (AV.int .i64 r) ∧ Eng.Sep (Frz (Low h) h :: []) rh)) (by kernel_rfl) ?_
  refine ⟨q_len (BIn.now S (i := 0) rfl fl_2), ?_⟩
  have ⟨o1, hb2, hp⟩ := ob_inv hp
  rcases index_l1_t fl_2 fx_1  (o := o1) (B0 := l) (B1 := x) (B7 := l.length) (n := 90000) (A4 := 0) (A8 := 0) ⟨hb2, S⟩ hN hN (t := (ovT [(0, wl_1), (1, (vb8 x)), (4, (vi 0)), (6, wl_1), (7, (vi l.length)), (8, (vi 0))] .lf)) (show slots [0, 1, 4, 7, 8] _ = [some wl_1, some (vb8 x), some (vi 0), some (vi l.length), some (vi 0)] by kernel_rfl) with ⟨io1, ⟨_, A4o1, A8o1⟩, t4, h5, qo1, wo1, zo1⟩ | ⟨t6, h7, qo1, zo1⟩
  · obtain ⟨jo1, zo1⟩ := zo1
    subst jo1
    replace zo1 := zo1 rfl
    obtain ⟨uo1, So1⟩ := zo1
    replace uo1 := uo1.symm
    subst uo1
    replace hp := LO.on_ex.symm.trans hp
    try dsimp only at hp
    refine Or.inl ⟨A4o1, A8o1, t4, h5, (qo1.trans (congrArg (fun t => RS.exit 0 t h5) (ovT_eq wo1).symm)), trivial, ?_⟩
    obtain rfl := Option.some.inj hp
    exact ⟨rfl, So1⟩
  obtain ⟨y8, v4o1, uo1, go1_4, Ko1⟩ := zo1
  replace uo1 := uo1.symm
  subst uo1
  replace go1_4 : tget (pathOf 4) t6 = some v4o1 := Option.some.inj go1_4
  replace hp := LO.on_rt.symm.trans hp
  try dsimp only at hp
  refine Or.inr ⟨y8, v4o1, t6, h7, (qo1.trans (congrArg (fun t => RS.ret t h7) (ovT_eq (l := [(4, v4o1)]) (by show [tget (pathOf 4) t6] = _; rw [go1_4]; rfl)).symm)), trivial, ?_⟩
  obtain rfl := Option.some.inj hp
  exact Ko1
def C_index (call : CallT) : Prop := ∀ {h : Hp} {wl_1 : AV} {l : List Nat} {x : Nat} (fl_2 : BIn (Low h) h wl_1 l) (fx_1 : x < 256) {r : Int}, index_p l x = some r → ∃ rv rh, call 76 [wl_1, (vb8 x)] h = .ok rv rh ∧ rv = (AV.int .i64 r) ∧ Eng.Sep (Frz (Low h) h :: []) rh
theorem s_index (d : Nat) : C_index (CC (d + 1)) := by
  intro h wl_1 l x fl_2 fx_1 r hp
  rw [CC, evF_at (sumT_none rfl)]
  exact index_w (call := CC (d + 0)) (N := 100000) fl_2 fx_1  (by decide) hp
noncomputable def place_p (x : Nat) : Option (Int) :=
  (ob (index_p [1, 2, 3, 4, 5, 6, 7, 8, 9, 12, 10, 11] x) fun x2 =>
    (some x2))
theorem place_w {call : CallT} {N : Nat} {h : Hp} {x : Nat} (fx_1 : x < 256) (h_index : C_index call) {r : Int} (hp : place_p x = some r) :
    ∃ rv rh, evF1 (progS Try.prog (compDrawn Try.prog)) N call 58 [(vb8 x)] h = .ok rv rh ∧ (fun (rv : AV) (rh : Hp) => rv = (AV.int .i64 r) ∧ Eng.Sep (Frz (Low h) h :: []) rh) rv rh := by
  have S : Eng.Sep [Frz (Low h) h] h := Sep.start h
  unfold place_p at hp
  refine fwalk_ok (K := (fun (rv : AV) (rh : Hp) => rv = (AV.int .i64 r) ∧ Eng.Sep (Frz (Low h) h :: []) rh)) (o := (.exi 3 fun (x2 : Int) => (.exi 0 fun (h7 : Hp) => (.eff 0 (AV.int .i64 x2) h7 .fin)))) (p := (fun (KK : AV → Hp → Prop) => (∃ x2 : Int, ∃ h7 : Hp, (call 76 [(AV.slice (Hp.next h) 0 12 12 1 true), (vb8 x)] (hpush h (mkCells [(vb8 1), (vb8 2), (vb8 3), (vb8 4), (vb8 5), (vb8 6), (vb8 7), (vb8 8), (vb8 9), (vb8 12), (vb8 10), (vb8 11)] 12)) = .ok (AV.int .i64 x2) h7 ∧ KK (AV.int .i64 x2) h7))) (fun (rv : AV) (rh : Hp) => rv = (AV.int .i64 r) ∧ Eng.Sep (Frz (Low h) h :: []) rh)) (by kernel_rfl) ?_
  have S1 := own_new S 1 12 [(vb8 1), (vb8 2), (vb8 3), (vb8 4), (vb8 5), (vb8 6), (vb8 7), (vb8 8), (vb8 9), (vb8 12), (vb8 10), (vb8 11)] true rfl
  have ⟨x2, hb3, hp⟩ := ob_inv hp
  obtain ⟨v6, h7, q8, e9, S10⟩ := h_index (own_bin S1 (i := 0) rfl (cons_lt (show 1 < 256 by decide) (cons_lt (show 2 < 256 by decide) (cons_lt (show 3 < 256 by decide) (cons_lt (show 4 < 256 by decide) (cons_lt (show 5 < 256 by decide) (cons_lt (show 6 < 256 by decide) (cons_lt (show 7 < 256 by decide) (cons_lt (show 8 < 256 by decide) (cons_lt (show 9 < 256 by decide) (cons_lt (show 12 < 256 by decide) (cons_lt (show 10 < 256 by decide) (cons_lt (show 11 < 256 by decide) nil_lt))))))))))))) fx_1 hb3
  replace e9 := e9.symm
  subst e9
  have S12 := Sep.call S1 (news := []) S10
  refine ⟨x2, h7, q8, ?_⟩
  have S13 : Sep [Frz (Low h) h] h7 := S12.sel [1] (by decide) rfl
  obtain rfl := Option.some.inj hp
  exact ⟨rfl, S13⟩
def C_place (call : CallT) : Prop := ∀ {h : Hp} {x : Nat} (fx_1 : x < 256) {r : Int}, place_p x = some r → ∃ rv rh, call 58 [(vb8 x)] h = .ok rv rh ∧ rv = (AV.int .i64 r) ∧ Eng.Sep (Frz (Low h) h :: []) rh
theorem s_place (d : Nat) : C_place (CC (d + 2)) := by
  intro h x fx_1 r hp
  rw [CC, evF_at (sumT_none rfl)]
  exact place_w (call := CC (d + 1)) (N := 100000) fx_1 (s_index (d + 0)) hp
noncomputable def named_p (l : List Nat) : Option (Bool) :=
  (gd (l.length < 90000) (ob (some (readG 32 false l 0 0 0)) fun x2 =>
    (if x2.2.2 = 0 then (gd (x2.2.1 ≤ l.length) (gd (l.length < 9223372036854775808) (if x2.1 % 4294967296 ≤ l.length - x2.2.1 then (gd (x2.2.1 + (x2.1 % 4294967296) < 9223372036854775808) (gd (x2.2.1 + (x2.1 % 4294967296) ≤ l.length) (gd (x2.2.1 ≤ x2.2.1 + (x2.1 % 4294967296)) (ob (utf8_p ((l.take (x2.2.1 + (x2.1 % 4294967296))).drop x2.2.1)) fun x15 =>
    (if x15 = true then (some true) else
    (some false)))))) else
    (some false)))) else
    (some false))))
theorem named_w {call : CallT} {N : Nat} {h : Hp} {wl_1 : AV} {l : List Nat} (fl_2 : BIn (Low h) h wl_1 l) (h_U32 : NumS call 22 32 false .u32 (fun n => .ofNat (n % 4294967296))) (h_utf8 : C_utf8 call) {r : Bool} (hp : named_p l = some r) :
    ∃ rv rh, evF1 (progS Try.prog (compDrawn Try.prog)) N call 60 [wl_1] h = .ok rv rh ∧ (fun (rv : AV) (rh : Hp) => rv = (AV.bool r) ∧ Eng.Sep (Frz (Low h) h :: []) rh) rv rh := by
  have S : Eng.Sep [Frz (Low h) h] h := Sep.start h
  unfold named_p at hp
  refine fwalk_ok (K := (fun (rv : AV) (rh : Hp) => rv = (AV.bool r) ∧ Eng.Sep (Frz (Low h) h :: []) rh)) (o := (.exi 2 fun (x2 : Nat × Nat × Nat) => (.eff 0 (AV.tuple [(vw (x2.1 % 4294967296)), (vi x2.2.1), (vi x2.2.2)]) h (.fork 9 (.tell 1 (vq (x2.1 % 4294967296)) (.tell 1 (vi l.length) (.tell 1 (vi (l.length - x2.2.1)) (.tell 0 (vq (l.length - x2.2.1)) (.fork 2 (.tell 4 (vi (x2.1 % 4294967296)) (.tell 0 (vi (x2.2.1 + (x2.1 % 4294967296))) (.tell 0 (partS wl_1 x2.2.1 (x2.2.1 + (x2.1 % 4294967296))) (.exi 0 fun (x15 : Bool) => (.exi 0 fun (h20 : Hp) => (.eff 0 (AV.bool x15) h20 (.fork 1 .fin .fin))))))) .fin))))) .fin)))) (p := (fun (KK : AV → Hp → Prop) => (∃ x2 : Nat × Nat × Nat, (call 22 [wl_1] h = .ok (AV.tuple [(vw (x2.1 % 4294967296)), (vi x2.2.1), (vi x2.2.2)]) h ∧ ((eqI (Int.ofNat x2.2.2) (Int.ofNat 0) = true → ((evQ (.toInt .u64 (.const (vw (x2.1 % 4294967296)))) .lf H0 = .ok (vq (x2.1 % 4294967296)) ∧ ((evQ (.lenL (.const wl_1)) .lf H0 = .ok (vi l.length) ∧ ((evQ (.bin .sub (.const (vi l.length)) (.const (vi x2.2.1))) .lf H0 = .ok (vi (l.length - x2.2.1)) ∧ ((evQ (.toInt .u64 (.const (vi (l.length - x2.2.1)))) .lf H0 = .ok (vq (l.length - x2.2.1)) ∧ ((notB (ltI (Int.ofNat (l.length - x2.2.1)) (Int.ofNat (x2.1 % 4294967296))) = true → ((evQ (.toInt .i64 (.const (vw (x2.1 % 4294967296)))) .lf H0 = .ok (vi (x2.1 % 4294967296)) ∧ ((evQ (.bin .add (.const (vi x2.2.1)) (.const (vi (x2.1 % 4294967296)))) .lf H0 = .ok (vi (x2.2.1 + (x2.1 % 4294967296))) ∧ ((evQ (.sliceSl 1 (.const wl_1) (some (.const (vi x2.2.1))) (some (.const (vi (x2.2.1 + (x2.1 % 4294967296))))) none) .lf H0 = .ok (partS wl_1 x2.2.1 (x2.2.1 + (x2.1 % 4294967296))) ∧ (∃ x15 : Bool, ∃ h20 : Hp, (call 37 [(partS wl_1 x2.2.1 (x2.2.1 + (x2.1 % 4294967296)))] h = .ok (AV.bool x15) h20 ∧ ((x15 = true → KK (AV.bool true) h20) ∧ (x15 = false → KK (AV.bool false) h20))))))))))) ∧ (notB (ltI (Int.ofNat (l.length - x2.2.1)) (Int.ofNat (x2.1 % 4294967296))) = false → KK (AV.bool false) h))))))))))) ∧ (eqI (Int.ofNat x2.2.2) (Int.ofNat 0) = false → KK (AV.bool false) h))))) (fun (rv : AV) (rh : Hp) => rv = (AV.bool r) ∧ Eng.Sep (Frz (Low h) h :: []) rh)) (by kernel_rfl) ?_
  have ⟨g1, hp⟩ := gd_inv hp
  have ⟨x2, hb3, hp⟩ := ob_inv hp
  replace hb3 := Option.some.inj hb3
  refine ⟨x2, (by rw [← hb3]; exact h_U32 (BIn.now S (i := 0) rfl fl_2) g1), ?_⟩
  refine ⟨fun c5 => ?_, fun c5 => ?_⟩
  · replace c5 := eqI_t c5
    replace hp := ift hp c5
    refine ⟨u_conv' rfl (Nat.lt_of_lt_of_le (Nat.mod_lt _ (by decide)) (by decide)), ?_⟩
    refine ⟨q_len (BIn.now S (i := 0) rfl fl_2), ?_⟩
    have ⟨g7, hp⟩ := gd_inv hp
    have ⟨g8, hp⟩ := gd_inv hp
    refine ⟨q_sub g7 g8, ?_⟩
    refine ⟨u_conv' rfl (Nat.lt_of_lt_of_le (Nat.lt_of_le_of_lt (Nat.sub_le _ _) g8) (by decide)), ?_⟩
    refine ⟨fun c10 => ?_, fun c10 => ?_⟩
    · replace c10 := ltI_f (notB_t c10)
      replace hp := ift hp c10
      refine ⟨i_conv (Nat.lt_of_lt_of_le (Nat.mod_lt _ (by decide)) (by decide)), ?_⟩
      have ⟨g11, hp⟩ := gd_inv hp
      refine ⟨q_add g11, ?_⟩
      have ⟨g12, hp⟩ := gd_inv hp
      have ⟨g13, hp⟩ := gd_inv hp
      refine ⟨q_slice (l := l) (BIn.now S (i := 0) rfl fl_2) g13 g12, ?_⟩
      have b14 := BIn.part (l := l) (lo := x2.2.1) (hi := x2.2.1 + (x2.1 % 4294967296)) fl_2 g13 g12
      have ⟨x15, hb16, hp⟩ := ob_inv hp
      obtain ⟨v19, h20, q21, e22, S23⟩ := h_utf8 (BIn.up (Sep.low S (i := 0) rfl) b14) hb16
      replace e22 := e22.symm
      subst e22
      have S25 := Sep.call S (news := []) S23
      refine ⟨x15, h20, q21, ?_⟩
      refine ⟨fun c26 => ?_, fun c26 => ?_⟩
      · replace hp := ift hp c26
        obtain rfl := Option.some.inj hp
        exact ⟨rfl, S25⟩
      replace hp := iff0 hp (nbF c26)
      obtain rfl := Option.some.inj hp
      exact ⟨rfl, S25⟩
    replace c10 := ltI_t (notB_f c10)
    replace hp := iff0 hp (nleO c10)
    obtain rfl := Option.some.inj hp
    exact ⟨rfl, S⟩
  replace c5 := eqI_f c5
  replace hp := iff0 hp (c5)
  obtain rfl := Option.some.inj hp
  exact ⟨rfl, S⟩
def C_named (call : CallT) : Prop := ∀ {h : Hp} {wl_1 : AV} {l : List Nat} (fl_2 : BIn (Low h) h wl_1 l) {r : Bool}, named_p l = some r → ∃ rv rh, call 60 [wl_1] h = .ok rv rh ∧ rv = (AV.bool r) ∧ Eng.Sep (Frz (Low h) h :: []) rh
theorem s_named (d : Nat) : C_named (CC (d + 4)) := by
  intro h wl_1 l fl_2 r hp
  rw [CC, evF_at (sumT_none rfl)]
  exact named_w (call := CC (d + 3)) (N := 100000) fl_2 (s_U32 (d + 0)) (s_utf8 (d + 1)) hp
noncomputable def split_l1  : Nat → List Nat → List Nat → Nat → List (Nat × List Nat) → Int → Option (LO (List Nat × List Nat × Nat × List (Nat × List Nat) × Int) (List (Nat × List Nat) × Nat))
  | 0, _, _, _, _, _ => none
  | m + 1, A0, A2, A3, A4, A5 =>
    (if 0 < A0.length then (if 12 < A0.getD 0 0 then (some (LO.rt ([], 2))) else
    (if 0 < A0.getD 0 0 then (ob (place_p (A0.getD 0 0)) fun x5 =>
    (if x5 ≤ A5 then (some (LO.rt ([], 2))) else
    (gd (1 ≤ A0.length) (gd ((A0.drop 1).length < 90000) (ob (some (readG 32 false (A0.drop 1) 0 0 0)) fun x20 =>
    (if x20.2.2 ≠ 0 then (some (LO.rt ([], x20.2.2))) else
    (gd (1 + x20.2.1 < 9223372036854775808) (gd (1 + x20.2.1 ≤ A0.length) (gd ((A0.drop (1 + x20.2.1)).length < 9223372036854775808) (if (A0.drop (1 + x20.2.1)).length < x20.1 % 4294967296 then (some (LO.rt ([], 3))) else
    (gd (((A0.drop (1 + x20.2.1)).take (x20.1 % 4294967296)).length ≤ 1099511627776) (if A0.getD 0 0 = 0 then (ob (named_p ((A0.drop (1 + x20.2.1)).take (x20.1 % 4294967296))) fun x37 =>
    (if x37 = false then (some (LO.rt ([], 2))) else
    (ob (place_p (A0.getD 0 0)) fun x49 =>
    (gd ((A4.length + 1) * 32 ≤ 70368744177664) (split_l1  m ((A0.drop (1 + x20.2.1)).drop (x20.1 % 4294967296)) A2 A3 (A4 ++ [(A0.getD 0 0, (A0.drop (1 + x20.2.1)).take (x20.1 % 4294967296))]) (max A5 x49)))))) else
    (ob (place_p (A0.getD 0 0)) fun x37 =>
    (gd ((A4.length + 1) * 32 ≤ 70368744177664) (split_l1  m ((A0.drop (1 + x20.2.1)).drop (x20.1 % 4294967296)) A2 A3 (A4 ++ [(A0.getD 0 0, (A0.drop (1 + x20.2.1)).take (x20.1 % 4294967296))]) (max A5 x37)))))))))))))))) else
    (gd (1 ≤ A0.length) (gd ((A0.drop 1).length < 90000) (ob (some (readG 32 false (A0.drop 1) 0 0 0)) fun x8 =>
    (if x8.2.2 ≠ 0 then (some (LO.rt ([], x8.2.2))) else
    (gd (1 + x8.2.1 < 9223372036854775808) (gd (1 + x8.2.1 ≤ A0.length) (gd ((A0.drop (1 + x8.2.1)).length < 9223372036854775808) (if (A0.drop (1 + x8.2.1)).length < x8.1 % 4294967296 then (some (LO.rt ([], 3))) else
    (gd (((A0.drop (1 + x8.2.1)).take (x8.1 % 4294967296)).length ≤ 1099511627776) (if A0.getD 0 0 = 0 then (ob (named_p ((A0.drop (1 + x8.2.1)).take (x8.1 % 4294967296))) fun x25 =>
    (if x25 = false then (some (LO.rt ([], 2))) else
    (ob (place_p (A0.getD 0 0)) fun x37 =>
    (gd ((A4.length + 1) * 32 ≤ 70368744177664) (split_l1  m ((A0.drop (1 + x8.2.1)).drop (x8.1 % 4294967296)) A2 A3 (A4 ++ [(A0.getD 0 0, (A0.drop (1 + x8.2.1)).take (x8.1 % 4294967296))]) (max A5 x37)))))) else
    (ob (place_p (A0.getD 0 0)) fun x25 =>
    (gd ((A4.length + 1) * 32 ≤ 70368744177664) (split_l1  m ((A0.drop (1 + x8.2.1)).drop (x8.1 % 4294967296)) A2 A3 (A4 ++ [(A0.getD 0 0, (A0.drop (1 + x8.2.1)).take (x8.1 % 4294967296))]) (max A5 x25)))))))))))))))) else
    (some (LO.ex (A0, A2, A3, A4, A5))))
noncomputable def split_l1C : AC := (.seq (.seq (.region [⟨(some 22), .q (.move (.tmp 0)), none⟩, ⟨(some 23), .q (.lenL (.tmp 22)), none⟩, ⟨(some 24), .q (.bin .gtr (.tmp 23) (.const (vi 0))), none⟩]) (.cond (.tmp 24) .skip (.exit 1))) (.block 2 (.seq (.region [⟨(some 25), .q (.move (.tmp 0)), none⟩, ⟨(some 26), .q (.idxAddrSl 1 (.tmp 25) (.const (vi 0))), none⟩, ⟨(some 27), .q (.loadS (.tmp 26)), none⟩, ⟨(some 6), .q (.move (.tmp 27)), none⟩]) (.seq (.seq (.region [⟨(some 28), .q (.move (.tmp 6)), none⟩, ⟨(some 29), .q (.bin .gtr (.tmp 28) (.const (vb8 12))), none⟩, ⟨(some 30), .q (.move (.tmp 29)), none⟩, ⟨(some 31), .q (.move (.tmp 6)), (some (30, false))⟩, ⟨(some 32), .q (.bin .gtr (.tmp 31) (.const (vb8 0))), (some (30, false))⟩, ⟨(some 33), .q (.move (.tmp 32)), (some (30, false))⟩, ⟨(some 34), .q (.move (.tmp 6)), (some (33, true))⟩, ⟨(some 35), .e (.call (.const (AV.func (.func 58) [] [])) [(.tmp 34)]), (some (33, true))⟩, ⟨(some 36), .q (.move (.tmp 5)), (some (33, true))⟩, ⟨(some 37), .q (.bin .leq (.tmp 35) (.tmp 36)), (some (33, true))⟩, ⟨(some 38), .q (.pick (.tmp 33) (.tmp 37) (.const (AV.bool false))), (some (30, false))⟩, ⟨(some 39), .q (.pick (.tmp 30) (.const (AV.bool true)) (.tmp 38)), none⟩]) (.cond (.tmp 39) (.seq (.region [⟨(some 2), .q (.move (.const AV.nilSlice)), none⟩, ⟨(some 3), .q (.move (.const (vi 2))), none⟩]) .ret) .skip)) (.seq (.region [⟨(some 41), .q (.move (.tmp 0)), none⟩, ⟨(some 42), .q (.sliceSl 1 (.tmp 41) (some (.const (vi 1))) none none), none⟩, ⟨(some 43), .e (.call (.const (AV.func (.func 22) [] [])) [(.tmp 42)]), none⟩, ⟨(some 40), .q (.move (.tmp 43)), none⟩, ⟨(some 44), .q (.extract 0 (.tmp 40)), none⟩, ⟨(some 45), .q (.extract 1 (.tmp 40)), none⟩, ⟨(some 46), .q (.extract 2 (.tmp 40)), none⟩, ⟨(some 7), .q (.move (.tmp 44)), none⟩, ⟨(some 8), .q (.move (.tmp 45)), none⟩, ⟨(some 9), .q (.move (.tmp 46)), none⟩]) (.seq (.seq (.region [⟨(some 47), .q (.move (.tmp 9)), none⟩, ⟨(some 48), .q (.eq .int true (.tmp 47) (.const (vi 0))), none⟩]) (.cond (.tmp 48) (.seq (.region [⟨(some 49), .q (.move (.tmp 9)), none⟩, ⟨(some 2), .q (.move (.const AV.nilSlice)), none⟩, ⟨(some 3), .q (.move (.tmp 49)), none⟩]) .ret) .skip)) (.seq (.region [⟨(some 50), .q (.move (.tmp 0)), none⟩, ⟨(some 51), .q (.move (.tmp 8)), none⟩, ⟨(some 52), .q (.bin .add (.const (vi 1)) (.tmp 51)), none⟩, ⟨(some 53), .q (.sliceSl 1 (.tmp 50) (some (.tmp 52)) none none), none⟩, ⟨(some 0), .q (.move (.tmp 53)), none⟩]) (.seq (.seq (.region [⟨(some 54), .q (.move (.tmp 7)), none⟩, ⟨(some 55), .q (.toInt .u64 (.tmp 54)), none⟩, ⟨(some 56), .q (.move (.tmp 0)), none⟩, ⟨(some 57), .q (.lenL (.tmp 56)), none⟩, ⟨(some 58), .q (.toInt .u64 (.tmp 57)), none⟩, ⟨(some 59), .q (.bin .gtr (.tmp 55) (.tmp 58)), none⟩]) (.cond (.tmp 59) (.seq (.region [⟨(some 2), .q (.move (.const AV.nilSlice)), none⟩, ⟨(some 3), .q (.move (.const (vi 3))), none⟩]) .ret) .skip)) (.seq (.region [⟨(some 60), .q (.move (.tmp 0)), none⟩, ⟨(some 61), .q (.move (.tmp 7)), none⟩, ⟨(some 62), .q (.sliceSl 1 (.tmp 60) none (some (.tmp 61)) none), none⟩, ⟨(some 63), .e (.call (.const (AV.func (.func 59) [] [])) [(.tmp 62)]), none⟩, ⟨(some 10), .q (.move (.tmp 63)), none⟩]) (.seq (.region [⟨(some 64), .q (.move (.tmp 0)), none⟩, ⟨(some 65), .q (.move (.tmp 7)), none⟩, ⟨(some 66), .q (.sliceSl 1 (.tmp 64) (some (.tmp 65)) none none), none⟩, ⟨(some 0), .q (.move (.tmp 66)), none⟩]) (.seq (.seq (.region [⟨(some 67), .q (.move (.tmp 6)), none⟩, ⟨(some 68), .q (.eq .int false (.tmp 67) (.const (vb8 0))), none⟩, ⟨(some 69), .q (.move (.tmp 68)), none⟩, ⟨(some 70), .q (.move (.tmp 10)), (some (69, true))⟩, ⟨(some 71), .e (.call (.const (AV.func (.func 60) [] [])) [(.tmp 70)]), (some (69, true))⟩, ⟨(some 72), .q (.un .not (.tmp 71)), (some (69, true))⟩, ⟨(some 73), .q (.pick (.tmp 69) (.tmp 72) (.const (AV.bool false))), none⟩]) (.cond (.tmp 73) (.seq (.region [⟨(some 2), .q (.move (.const AV.nilSlice)), none⟩, ⟨(some 3), .q (.move (.const (vi 2))), none⟩]) .ret) .skip)) (.seq (.region [⟨(some 74), .q (.move (.tmp 5)), none⟩, ⟨(some 75), .q (.move (.tmp 6)), none⟩, ⟨(some 76), .e (.call (.const (AV.func (.func 58) [] [])) [(.tmp 75)]), none⟩, ⟨(some 77), .q (.mx [(.tmp 74), (.tmp 76)]), none⟩, ⟨(some 5), .q (.move (.tmp 77)), none⟩]) (.region [⟨(some 78), .q (.move (.tmp 4)), none⟩, ⟨(some 79), .q (.move (.tmp 6)), none⟩, ⟨(some 80), .q (.move (.tmp 10)), none⟩, ⟨(some 81), .q (.build [(vb8 0), AV.nilSlice] [(0, 1, (.tmp 79)), (1, 1, (.tmp 80))]), none⟩, ⟨(some 82), .l (.buildSlice 2 1 [(vb8 0), AV.nilSlice] [(0, 2, (.tmp 81))]), none⟩, ⟨(some 83), .e (.append 2 32 (.tmp 78) (.tmp 82)), none⟩, ⟨(some 4), .q (.move (.tmp 83)), none⟩])))))))))))))
theorem split_l1_body {call : CallT} {N : Nat} {t : T} {h : Hp} {ZG_101 : Nat → Prop} {Zk_101 : Hp} {G : Nat → Prop} {h0 : Hp}   (h_U32 : NumS call 22 32 false .u32 (fun n => .ofNat (n % 4294967296))) (h_place : C_place call) (h_clone : CloneS call 59) (h_named : C_named call) {o : LO (List Nat × List Nat × Nat × List (Nat × List Nat) × Int) (List (Nat × List Nat) × Nat)} {n : Nat} {A0 : List Nat} {A2 : List Nat} {A3 : Nat} {A4 : List (Nat × List Nat)} {A5 : Int} {wA0_1 : AV} {wA2_1 : AV} {wA4 : AV} {LA4 : List AV} {G_101 : Nat → Prop} {k_101 : Hp} (hN : 90000 < N) (hi : (fun (z : Nat × List Nat × List Nat × Nat × List (Nat × List Nat) × Int × AV × AV × AV × List AV × (Nat → Prop) × Hp) (h' : Hp) => split_l1  z.1 z.2.1 z.2.2.1 z.2.2.2.1 z.2.2.2.2.1 z.2.2.2.2.2.1 = some o ∧ (BIn G h0 z.2.2.2.2.2.2.1 z.2.1) ∧ (BIn G h0 z.2.2.2.2.2.2.2.1 z.2.2.1) ∧ (Eng.Rows (rP (rU .u8) rY) z.2.2.2.2.2.2.2.2.2.2.1 z.2.2.2.2.2.2.2.2.2.2.2 z.2.2.2.2.2.2.2.2.2.1 z.2.2.2.2.1) ∧ (Up ZG_101 Zk_101 z.2.2.2.2.2.2.2.2.2.2.1 z.2.2.2.2.2.2.2.2.2.2.2) ∧ Eng.Sep [OwnO 2 z.2.2.2.2.2.2.2.2.1 z.2.2.2.2.1.length z.2.2.2.2.2.2.2.2.2.1, Frz z.2.2.2.2.2.2.2.2.2.2.1 z.2.2.2.2.2.2.2.2.2.2.2, Frz G h0] h') (n, A0, A2, A3, A4, A5, wA0_1, wA2_1, wA4, LA4, G_101, k_101) h)
    : ∃ s, evC call N split_l1C (ovT [(0, wA0_1), (2, wA2_1), (3, (vi A3)), (4, wA4), (5, (AV.int .i64 A5))] t) h = s ∧ obsS [0, 2, 3, 4, 5] (fun ls h' => ∃ y, ls = ((fun (z : Nat × List Nat × List Nat × Nat × List (Nat × List Nat) × Int × AV × AV × AV × List AV × (Nat → Prop) × Hp) => [(0, z.2.2.2.2.2.2.1), (2, z.2.2.2.2.2.2.2.1), (3, (vi z.2.2.2.1)), (4, z.2.2.2.2.2.2.2.2.1), (5, (AV.int .i64 z.2.2.2.2.2.1))]) y).map (fun p => some p.2) ∧ (fun (z : Nat × List Nat × List Nat × Nat × List (Nat × List Nat) × Int × AV × AV × AV × List AV × (Nat → Prop) × Hp) (h' : Hp) => split_l1  z.1 z.2.1 z.2.2.1 z.2.2.2.1 z.2.2.2.2.1 z.2.2.2.2.2.1 = some o ∧ (BIn G h0 z.2.2.2.2.2.2.1 z.2.1) ∧ (BIn G h0 z.2.2.2.2.2.2.2.1 z.2.2.1) ∧ (Eng.Rows (rP (rU .u8) rY) z.2.2.2.2.2.2.2.2.2.2.1 z.2.2.2.2.2.2.2.2.2.2.2 z.2.2.2.2.2.2.2.2.2.1 z.2.2.2.2.1) ∧ (Up ZG_101 Zk_101 z.2.2.2.2.2.2.2.2.2.2.1 z.2.2.2.2.2.2.2.2.2.2.2) ∧ Eng.Sep [OwnO 2 z.2.2.2.2.2.2.2.2.1 z.2.2.2.2.1.length z.2.2.2.2.2.2.2.2.2.1, Frz z.2.2.2.2.2.2.2.2.2.2.1 z.2.2.2.2.2.2.2.2.2.2.2, Frz G h0] h') y h' ∧ (fun (z : Nat × List Nat × List Nat × Nat × List (Nat × List Nat) × Int × AV × AV × AV × List AV × (Nat → Prop) × Hp) => z.1) y < (fun (z : Nat × List Nat × List Nat × Nat × List (Nat × List Nat) × Int × AV × AV × AV × List AV × (Nat → Prop) × Hp) => z.1) (n, A0, A2, A3, A4, A5, wA0_1, wA2_1, wA4, LA4, G_101, k_101)) (fun i ls h' => ∃ y, ls = ((fun (z : Nat × List Nat × List Nat × Nat × List (Nat × List Nat) × Int × AV × AV × AV × List AV × (Nat → Prop) × Hp) => [(0, z.2.2.2.2.2.2.1), (2, z.2.2.2.2.2.2.2.1), (3, (vi z.2.2.2.1)), (4, z.2.2.2.2.2.2.2.2.1), (5, (AV.int .i64 z.2.2.2.2.2.1))]) y).map (fun p => some p.2) ∧ (fun (i : Nat) (z : Nat × List Nat × List Nat × Nat × List (Nat × List Nat) × Int × AV × AV × AV × List AV × (Nat → Prop) × Hp) (h' : Hp) => (i = 1) ∧ (i = 1 → o = LO.ex (z.2.1, z.2.2.1, z.2.2.2.1, z.2.2.2.2.1, z.2.2.2.2.2.1) ∧ (BIn G h0 z.2.2.2.2.2.2.1 z.2.1) ∧ (BIn G h0 z.2.2.2.2.2.2.2.1 z.2.2.1) ∧ (Eng.Rows (rP (rU .u8) rY) z.2.2.2.2.2.2.2.2.2.2.1 z.2.2.2.2.2.2.2.2.2.2.2 z.2.2.2.2.2.2.2.2.2.1 z.2.2.2.2.1) ∧ (Up ZG_101 Zk_101 z.2.2.2.2.2.2.2.2.2.2.1 z.2.2.2.2.2.2.2.2.2.2.2) ∧ Eng.Sep [OwnO 2 z.2.2.2.2.2.2.2.2.1 z.2.2.2.2.1.length z.2.2.2.2.2.2.2.2.2.1, Frz z.2.2.2.2.2.2.2.2.2.2.1 z.2.2.2.2.2.2.2.2.2.2.2, Frz G h0] h')) i y h') (fun ls h' => (fun (ls : List (Option AV)) (h' : Hp) => ∃ (rt : List (Nat × List Nat) × Nat) (v2 : AV) (v3 : AV), o = LO.rt rt ∧ ls[1]? = some (some v2) ∧ ls[2]? = some (some v3) ∧ (∃ wk1 : AV, ∃ Lk3 : List AV, ∃ Gk : Nat → Prop, ∃ kk : Hp, (.tuple [v2, v3]) = (AV.tuple [wk1, (vi rt.2)]) ∧ (Eng.Rows (rP (rU .u8) rY) Gk kk Lk3 rt.1) ∧ Eng.Sep (OwnO 2 wk1 rt.1.length Lk3 :: Frz Gk kk :: Frz G h0 :: []) h')) ls h') s := by
  have hi : split_l1  n A0 A2 A3 A4 A5 = some o ∧ (BIn G h0 wA0_1 A0) ∧ (BIn G h0 wA2_1 A2) ∧ (Eng.Rows (rP (rU .u8) rY) G_101 k_101 LA4 A4) ∧ (Up ZG_101 Zk_101 G_101 k_101) ∧ Eng.Sep [OwnO 2 wA4 A4.length LA4, Frz G_101 k_101, Frz G h0] h := hi
  obtain ⟨hp, fA0_2, fA2_2, fA4, fU_101, S⟩ := hi
  obtain ⟨m, hm⟩ : ∃ m, n = m + 1 := by
    cases n with
    | zero => first | cases hp | (unfold split_l1 at hp; cases hp) | (simp [split_l1] at hp)
    | succ m => exact ⟨m, rfl⟩
  rw [hm] at hp
  unfold split_l1 at hp
  refine walk_ok (o := (.tell 1 (vi A0.length) (.fork 0 (.tell 1 (elemP wA0_1 0 1) (.tell 0 (vb8 (A0.getD 0 0)) (.fork 3 .fin (.fork 2 (.exi 1 fun (x5 : Int) => (.exi 0 fun (h10 : Hp) => (.eff 0 (AV.int .i64 x5) h10 (.fork 3 .fin (.tell 1 (partS wA0_1 1 A0.length) (.exi 0 fun (x20 : Nat × Nat × Nat) => (.eff 0 (AV.tuple [(vw (x20.1 % 4294967296)), (vi x20.2.1), (vi x20.2.2)]) h10 (.fork 8 .fin (.tell 2 (vi (1 + x20.2.1)) (.tell 0 (partS wA0_1 (1 + x20.2.1) A0.length) (.tell 2 (vq (x20.1 % 4294967296)) (.tell 1 (vi ((A0.drop (1 + x20.2.1)).length)) (.tell 0 (vq ((A0.drop (1 + x20.2.1)).length)) (.fork 0 .fin (.tell 2 (partS (partS wA0_1 (1 + x20.2.1) A0.length) 0 (x20.1 % 4294967296)) (.effx 0 (fun e33 => e33.v) (fun e33 => (.tell 3 (partS (partS wA0_1 (1 + x20.2.1) A0.length) (x20.1 % 4294967296) (A0.drop (1 + x20.2.1)).length) (.fork 3 (.exi 1 fun (x37 : Bool) => (.exi 0 fun (h42 : Hp) => (.eff 0 (AV.bool x37) h42 (.fork 1 .fin (.exi 2 fun (x49 : Int) => (.exi 0 fun (h54 : Hp) => (.eff 0 (AV.int .i64 x49) h54 (.tell 0 (AV.int .i64 (max A5 x49)) (.tell 4 (AV.agg [(vb8 (A0.getD 0 0)), e33.v]) (.ell 0 (.sl 1 1 2 true) (mkCells [(vb8 (A0.getD 0 0)), e33.v] 2) (.effx 0 (fun e61 => e61.v) (fun e61 => .fin)))))))))))) (.exi 3 fun (x37 : Int) => (.exi 0 fun (h42 : Hp) => (.eff 0 (AV.int .i64 x37) h42 (.tell 0 (AV.int .i64 (max A5 x37)) (.tell 4 (AV.agg [(vb8 (A0.getD 0 0)), e33.v]) (.ell 0 (.sl 1 1 2 true) (mkCells [(vb8 (A0.getD 0 0)), e33.v] 2) (.effx 0 (fun e49 => e49.v) (fun e49 => .fin))))))))))))))))))))))))))) (.tell 3 (partS wA0_1 1 A0.length) (.exi 0 fun (x8 : Nat × Nat × Nat) => (.eff 0 (AV.tuple [(vw (x8.1 % 4294967296)), (vi x8.2.1), (vi x8.2.2)]) h (.fork 8 .fin (.tell 2 (vi (1 + x8.2.1)) (.tell 0 (partS wA0_1 (1 + x8.2.1) A0.length) (.tell 2 (vq (x8.1 % 4294967296)) (.tell 1 (vi ((A0.drop (1 + x8.2.1)).length)) (.tell 0 (vq ((A0.drop (1 + x8.2.1)).length)) (.fork 0 .fin (.tell 2 (partS (partS wA0_1 (1 + x8.2.1) A0.length) 0 (x8.1 % 4294967296)) (.effx 0 (fun e21 => e21.v) (fun e21 => (.tell 3 (partS (partS wA0_1 (1 + x8.2.1) A0.length) (x8.1 % 4294967296) (A0.drop (1 + x8.2.1)).length) (.fork 3 (.exi 1 fun (x25 : Bool) => (.exi 0 fun (h30 : Hp) => (.eff 0 (AV.bool x25) h30 (.fork 1 .fin (.exi 2 fun (x37 : Int) => (.exi 0 fun (h42 : Hp) => (.eff 0 (AV.int .i64 x37) h42 (.tell 0 (AV.int .i64 (max A5 x37)) (.tell 4 (AV.agg [(vb8 (A0.getD 0 0)), e21.v]) (.ell 0 (.sl 1 1 2 true) (mkCells [(vb8 (A0.getD 0 0)), e21.v] 2) (.effx 0 (fun e49 => e49.v) (fun e49 => .fin)))))))))))) (.exi 3 fun (x25 : Int) => (.exi 0 fun (h30 : Hp) => (.eff 0 (AV.int .i64 x25) h30 (.tell 0 (AV.int .i64 (max A5 x25)) (.tell 4 (AV.agg [(vb8 (A0.getD 0 0)), e21.v]) (.ell 0 (.sl 1 1 2 true) (mkCells [(vb8 (A0.getD 0 0)), e21.v] 2) (.effx 0 (fun e37 => e37.v) (fun e37 => .fin))))))))))))))))))))))))))) .fin))) (p := (fun (KN : List (Option AV) → Hp → Prop) (KE : Nat → List (Option AV) → Hp → Prop) (KR : List (Option AV) → Hp → Prop) => ((evQ (.lenL (.const wA0_1)) .lf H0 = .ok (vi A0.length) ∧ ((ltI (Int.ofNat 0) (Int.ofNat A0.length) = true → ((evQ (.idxAddrSl 1 (.const wA0_1) (.const (vi 0))) .lf H0 = .ok (elemP wA0_1 0 1) ∧ ((evQ (.loadS (.const (elemP wA0_1 0 1))) .lf h = .ok (vb8 (A0.getD 0 0)) ∧ ((ltI (Int.ofNat 12) (Int.ofNat (A0.getD 0 0)) = true → KR [some wA0_1, some AV.nilSlice, some (vi 2), some wA4, some (AV.int .i64 A5)] h) ∧ (ltI (Int.ofNat 12) (Int.ofNat (A0.getD 0 0)) = false → ((ltI (Int.ofNat 0) (Int.ofNat (A0.getD 0 0)) = true → (∃ x5 : Int, ∃ h10 : Hp, (call 58 [(vb8 (A0.getD 0 0))] h = .ok (AV.int .i64 x5) h10 ∧ ((notB (ltI A5 x5) = true → KR [some wA0_1, some AV.nilSlice, some (vi 2), some wA4, some (AV.int .i64 A5)] h10) ∧ (notB (ltI A5 x5) = false → ((evQ (.sliceSl 1 (.const wA0_1) (some (.const (vi 1))) none none) .lf H0 = .ok (partS wA0_1 1 A0.length) ∧ (∃ x20 : Nat × Nat × Nat, (call 22 [(partS wA0_1 1 A0.length)] h10 = .ok (AV.tuple [(vw (x20.1 % 4294967296)), (vi x20.2.1), (vi x20.2.2)]) h10 ∧ ((notB (eqI (Int.ofNat x20.2.2) (Int.ofNat 0)) = true → KR [some wA0_1, some AV.nilSlice, some (vi x20.2.2), some wA4, some (AV.int .i64 A5)] h10) ∧ (notB (eqI (Int.ofNat x20.2.2) (Int.ofNat 0)) = false → ((evQ (.bin .add (.const (vi 1)) (.const (vi x20.2.1))) .lf H0 = .ok (vi (1 + x20.2.1)) ∧ ((evQ (.sliceSl 1 (.const wA0_1) (some (.const (vi (1 + x20.2.1)))) none none) .lf H0 = .ok (partS wA0_1 (1 + x20.2.1) A0.length) ∧ ((evQ (.toInt .u64 (.const (vw (x20.1 % 4294967296)))) .lf H0 = .ok (vq (x20.1 % 4294967296)) ∧ ((evQ (.lenL (.const (partS wA0_1 (1 + x20.2.1) A0.length))) .lf H0 = .ok (vi ((A0.drop (1 + x20.2.1)).length)) ∧ ((evQ (.toInt .u64 (.const (vi ((A0.drop (1 + x20.2.1)).length)))) .lf H0 = .ok (vq ((A0.drop (1 + x20.2.1)).length)) ∧ ((ltI (Int.ofNat ((A0.drop (1 + x20.2.1)).length)) (Int.ofNat (x20.1 % 4294967296)) = true → KR [some (partS wA0_1 (1 + x20.2.1) A0.length), some AV.nilSlice, some (vi 3), some wA4, some (AV.int .i64 A5)] h10) ∧ (ltI (Int.ofNat ((A0.drop (1 + x20.2.1)).length)) (Int.ofNat (x20.1 % 4294967296)) = false → ((evQ (.sliceSl 1 (.const (partS wA0_1 (1 + x20.2.1) A0.length)) none (some (.const (vw (x20.1 % 4294967296)))) none) .lf H0 = .ok (partS (partS wA0_1 (1 + x20.2.1) A0.length) 0 (x20.1 % 4294967296)) ∧ (∃ e33 : Ev, call 59 [(partS (partS wA0_1 (1 + x20.2.1) A0.length) 0 (x20.1 % 4294967296))] h10 = .ok e33.v e33.h ∧ ((evQ (.sliceSl 1 (.const (partS wA0_1 (1 + x20.2.1) A0.length)) (some (.const (vw (x20.1 % 4294967296)))) none none) .lf H0 = .ok (partS (partS wA0_1 (1 + x20.2.1) A0.length) (x20.1 % 4294967296) (A0.drop (1 + x20.2.1)).length) ∧ ((eqI (Int.ofNat (A0.getD 0 0)) (Int.ofNat 0) = true → (∃ x37 : Bool, ∃ h42 : Hp, (call 60 [e33.v] e33.h = .ok (AV.bool x37) h42 ∧ ((notB x37 = true → KR [some (partS (partS wA0_1 (1 + x20.2.1) A0.length) (x20.1 % 4294967296) (A0.drop (1 + x20.2.1)).length), some AV.nilSlice, some (vi 2), some wA4, some (AV.int .i64 A5)] h42) ∧ (notB x37 = false → (∃ x49 : Int, ∃ h54 : Hp, (call 58 [(vb8 (A0.getD 0 0))] h42 = .ok (AV.int .i64 x49) h54 ∧ ((evQ (.mx [.const (AV.int .i64 A5), .const (AV.int .i64 x49)]) .lf H0 = .ok (AV.int .i64 (max A5 x49)) ∧ ((evQ (.build [(vb8 0), AV.nilSlice] [(0, 1, (.const (vb8 (A0.getD 0 0)))), (1, 1, (.const e33.v))]) .lf H0 = .ok (AV.agg [(vb8 (A0.getD 0 0)), e33.v]) ∧ (evL (.buildSlice 2 1 [(vb8 0), AV.nilSlice] [(0, 2, (.const (AV.agg [(vb8 (A0.getD 0 0)), e33.v])))]) .lf = .ok (.sl 1 1 2 true) (mkCells [(vb8 (A0.getD 0 0)), e33.v] 2) ∧ (∃ e61 : Ev, evE (.append 2 32 (.const wA4) (.const (AV.slice (Hp.next h54) 0 1 1 2 true))) call .lf (hpush h54 (mkCells [(vb8 (A0.getD 0 0)), e33.v] 2)) = .ok e61.v e61.h ∧ KN [some (partS (partS wA0_1 (1 + x20.2.1) A0.length) (x20.1 % 4294967296) (A0.drop (1 + x20.2.1)).length), some wA2_1, some (vi A3), some e61.v, some (AV.int .i64 (max A5 x49))] e61.h))))))))))))) ∧ (eqI (Int.ofNat (A0.getD 0 0)) (Int.ofNat 0) = false → (∃ x37 : Int, ∃ h42 : Hp, (call 58 [(vb8 (A0.getD 0 0))] e33.h = .ok (AV.int .i64 x37) h42 ∧ ((evQ (.mx [.const (AV.int .i64 A5), .const (AV.int .i64 x37)]) .lf H0 = .ok (AV.int .i64 (max A5 x37)) ∧ ((evQ (.build [(vb8 0), AV.nilSlice] [(0, 1, (.const (vb8 (A0.getD 0 0)))), (1, 1, (.const e33.v))]) .lf H0 = .ok (AV.agg [(vb8 (A0.getD 0 0)), e33.v]) ∧ (evL (.buildSlice 2 1 [(vb8 0), AV.nilSlice] [(0, 2, (.const (AV.agg [(vb8 (A0.getD 0 0)), e33.v])))]) .lf = .ok (.sl 1 1 2 true) (mkCells [(vb8 (A0.getD 0 0)), e33.v] 2) ∧ (∃ e49 : Ev, evE (.append 2 32 (.const wA4) (.const (AV.slice (Hp.next h42) 0 1 1 2 true))) call .lf (hpush h42 (mkCells [(vb8 (A0.getD 0 0)), e33.v] 2)) = .ok e49.v e49.h ∧ KN [some (partS (partS wA0_1 (1 + x20.2.1) A0.length) (x20.1 % 4294967296) (A0.drop (1 + x20.2.1)).length), some wA2_1, some (vi A3), some e49.v, some (AV.int .i64 (max A5 x37))] e49.h)))))))))))))))))))))))))))))))))))))) ∧ (ltI (Int.ofNat 0) (Int.ofNat (A0.getD 0 0)) = false → ((evQ (.sliceSl 1 (.const wA0_1) (some (.const (vi 1))) none none) .lf H0 = .ok (partS wA0_1 1 A0.length) ∧ (∃ x8 : Nat × Nat × Nat, (call 22 [(partS wA0_1 1 A0.length)] h = .ok (AV.tuple [(vw (x8.1 % 4294967296)), (vi x8.2.1), (vi x8.2.2)]) h ∧ ((notB (eqI (Int.ofNat x8.2.2) (Int.ofNat 0)) = true → KR [some wA0_1, some AV.nilSlice, some (vi x8.2.2), some wA4, some (AV.int .i64 A5)] h) ∧ (notB (eqI (Int.ofNat x8.2.2) (Int.ofNat 0)) = false → ((evQ (.bin .add (.const (vi 1)) (.const (vi x8.2.1))) .lf H0 = .ok (vi (1 + x8.2.1)) ∧ ((evQ (.sliceSl 1 (.const wA0_1) (some (.const (vi (1 + x8.2.1)))) none none) .lf H0 = .ok (partS wA0_1 (1 + x8.2.1) A0.length) ∧ ((evQ (.toInt .u64 (.const (vw (x8.1 % 4294967296)))) .lf H0 = .ok (vq (x8.1 % 4294967296)) ∧ ((evQ (.lenL (.const (partS wA0_1 (1 + x8.2.1) A0.length))) .lf H0 = .ok (vi ((A0.drop (1 + x8.2.1)).length)) ∧ ((evQ (.toInt .u64 (.const (vi ((A0.drop (1 + x8.2.1)).length)))) .lf H0 = .ok (vq ((A0.drop (1 + x8.2.1)).length)) ∧ ((ltI (Int.ofNat ((A0.drop (1 + x8.2.1)).length)) (Int.ofNat (x8.1 % 4294967296)) = true → KR [some (partS wA0_1 (1 + x8.2.1) A0.length), some AV.nilSlice, some (vi 3), some wA4, some (AV.int .i64 A5)] h) ∧ (ltI (Int.ofNat ((A0.drop (1 + x8.2.1)).length)) (Int.ofNat (x8.1 % 4294967296)) = false → ((evQ (.sliceSl 1 (.const (partS wA0_1 (1 + x8.2.1) A0.length)) none (some (.const (vw (x8.1 % 4294967296)))) none) .lf H0 = .ok (partS (partS wA0_1 (1 + x8.2.1) A0.length) 0 (x8.1 % 4294967296)) ∧ (∃ e21 : Ev, call 59 [(partS (partS wA0_1 (1 + x8.2.1) A0.length) 0 (x8.1 % 4294967296))] h = .ok e21.v e21.h ∧ ((evQ (.sliceSl 1 (.const (partS wA0_1 (1 + x8.2.1) A0.length)) (some (.const (vw (x8.1 % 4294967296)))) none none) .lf H0 = .ok (partS (partS wA0_1 (1 + x8.2.1) A0.length) (x8.1 % 4294967296) (A0.drop (1 + x8.2.1)).length) ∧ ((eqI (Int.ofNat (A0.getD 0 0)) (Int.ofNat 0) = true → (∃ x25 : Bool, ∃ h30 : Hp, (call 60 [e21.v] e21.h = .ok (AV.bool x25) h30 ∧ ((notB x25 = true → KR [some (partS (partS wA0_1 (1 + x8.2.1) A0.length) (x8.1 % 4294967296) (A0.drop (1 + x8.2.1)).length), some AV.nilSlice, some (vi 2), some wA4, some (AV.int .i64 A5)] h30) ∧ (notB x25 = false → (∃ x37 : Int, ∃ h42 : Hp, (call 58 [(vb8 (A0.getD 0 0))] h30 = .ok (AV.int .i64 x37) h42 ∧ ((evQ (.mx [.const (AV.int .i64 A5), .const (AV.int .i64 x37)]) .lf H0 = .ok (AV.int .i64 (max A5 x37)) ∧ ((evQ (.build [(vb8 0), AV.nilSlice] [(0, 1, (.const (vb8 (A0.getD 0 0)))), (1, 1, (.const e21.v))]) .lf H0 = .ok (AV.agg [(vb8 (A0.getD 0 0)), e21.v]) ∧ (evL (.buildSlice 2 1 [(vb8 0), AV.nilSlice] [(0, 2, (.const (AV.agg [(vb8 (A0.getD 0 0)), e21.v])))]) .lf = .ok (.sl 1 1 2 true) (mkCells [(vb8 (A0.getD 0 0)), e21.v] 2) ∧ (∃ e49 : Ev, evE (.append 2 32 (.const wA4) (.const (AV.slice (Hp.next h42) 0 1 1 2 true))) call .lf (hpush h42 (mkCells [(vb8 (A0.getD 0 0)), e21.v] 2)) = .ok e49.v e49.h ∧ KN [some (partS (partS wA0_1 (1 + x8.2.1) A0.length) (x8.1 % 4294967296) (A0.drop (1 + x8.2.1)).length), some wA2_1, some (vi A3), some e49.v, some (AV.int .i64 (max A5 x37))] e49.h))))))))))))) ∧ (eqI (Int.ofNat (A0.getD 0 0)) (Int.ofNat 0) = false → (∃ x25 : Int, ∃ h30 : Hp, (call 58 [(vb8 (A0.getD 0 0))] e21.h = .ok (AV.int .i64 x25) h30 ∧ ((evQ (.mx [.const (AV.int .i64 A5), .const (AV.int .i64 x25)]) .lf H0 = .ok (AV.int .i64 (max A5 x25)) ∧ ((evQ (.build [(vb8 0), AV.nilSlice] [(0, 1, (.const (vb8 (A0.getD 0 0)))), (1, 1, (.const e21.v))]) .lf H0 = .ok (AV.agg [(vb8 (A0.getD 0 0)), e21.v]) ∧ (evL (.buildSlice 2 1 [(vb8 0), AV.nilSlice] [(0, 2, (.const (AV.agg [(vb8 (A0.getD 0 0)), e21.v])))]) .lf = .ok (.sl 1 1 2 true) (mkCells [(vb8 (A0.getD 0 0)), e21.v] 2) ∧ (∃ e37 : Ev, evE (.append 2 32 (.const wA4) (.const (AV.slice (Hp.next h30) 0 1 1 2 true))) call .lf (hpush h30 (mkCells [(vb8 (A0.getD 0 0)), e21.v] 2)) = .ok e37.v e37.h ∧ KN [some (partS (partS wA0_1 (1 + x8.2.1) A0.length) (x8.1 % 4294967296) (A0.drop (1 + x8.2.1)).length), some wA2_1, some (vi A3), some e37.v, some (AV.int .i64 (max A5 x25))] e37.h)))))))))))))))))))))))))))))))))))))))))) ∧ (ltI (Int.ofNat 0) (Int.ofNat A0.length) = false → KE 1 [some wA0_1, some wA2_1, some (vi A3), some wA4, some (AV.int .i64 A5)] h))))) (fun ls h' => ∃ y, ls = ((fun (z : Nat × List Nat × List Nat × Nat × List (Nat × List Nat) × Int × AV × AV × AV × List AV × (Nat → Prop) × Hp) => [(0, z.2.2.2.2.2.2.1), (2, z.2.2.2.2.2.2.2.1), (3, (vi z.2.2.2.1)), (4, z.2.2.2.2.2.2.2.2.1), (5, (AV.int .i64 z.2.2.2.2.2.1))]) y).map (fun p => some p.2) ∧ (fun (z : Nat × List Nat × List Nat × Nat × List (Nat × List Nat) × Int × AV × AV × AV × List AV × (Nat → Prop) × Hp) (h' : Hp) => split_l1  z.1 z.2.1 z.2.2.1 z.2.2.2.1 z.2.2.2.2.1 z.2.2.2.2.2.1 = some o ∧ (BIn G h0 z.2.2.2.2.2.2.1 z.2.1) ∧ (BIn G h0 z.2.2.2.2.2.2.2.1 z.2.2.1) ∧ (Eng.Rows (rP (rU .u8) rY) z.2.2.2.2.2.2.2.2.2.2.1 z.2.2.2.2.2.2.2.2.2.2.2 z.2.2.2.2.2.2.2.2.2.1 z.2.2.2.2.1) ∧ (Up ZG_101 Zk_101 z.2.2.2.2.2.2.2.2.2.2.1 z.2.2.2.2.2.2.2.2.2.2.2) ∧ Eng.Sep [OwnO 2 z.2.2.2.2.2.2.2.2.1 z.2.2.2.2.1.length z.2.2.2.2.2.2.2.2.2.1, Frz z.2.2.2.2.2.2.2.2.2.2.1 z.2.2.2.2.2.2.2.2.2.2.2, Frz G h0] h') y h' ∧ (fun (z : Nat × List Nat × List Nat × Nat × List (Nat × List Nat) × Int × AV × AV × AV × List AV × (Nat → Prop) × Hp) => z.1) y < (fun (z : Nat × List Nat × List Nat × Nat × List (Nat × List Nat) × Int × AV × AV × AV × List AV × (Nat → Prop) × Hp) => z.1) (n, A0, A2, A3, A4, A5, wA0_1, wA2_1, wA4, LA4, G_101, k_101)) (fun i ls h' => ∃ y, ls = ((fun (z : Nat × List Nat × List Nat × Nat × List (Nat × List Nat) × Int × AV × AV × AV × List AV × (Nat → Prop) × Hp) => [(0, z.2.2.2.2.2.2.1), (2, z.2.2.2.2.2.2.2.1), (3, (vi z.2.2.2.1)), (4, z.2.2.2.2.2.2.2.2.1), (5, (AV.int .i64 z.2.2.2.2.2.1))]) y).map (fun p => some p.2) ∧ (fun (i : Nat) (z : Nat × List Nat × List Nat × Nat × List (Nat × List Nat) × Int × AV × AV × AV × List AV × (Nat → Prop) × Hp) (h' : Hp) => (i = 1) ∧ (i = 1 → o = LO.ex (z.2.1, z.2.2.1, z.2.2.2.1, z.2.2.2.2.1, z.2.2.2.2.2.1) ∧ (BIn G h0 z.2.2.2.2.2.2.1 z.2.1) ∧ (BIn G h0 z.2.2.2.2.2.2.2.1 z.2.2.1) ∧ (Eng.Rows (rP (rU .u8) rY) z.2.2.2.2.2.2.2.2.2.2.1 z.2.2.2.2.2.2.2.2.2.2.2 z.2.2.2.2.2.2.2.2.2.1 z.2.2.2.2.1) ∧ (Up ZG_101 Zk_101 z.2.2.2.2.2.2.2.2.2.2.1 z.2.2.2.2.2.2.2.2.2.2.2) ∧ Eng.Sep [OwnO 2 z.2.2.2.2.2.2.2.2.1 z.2.2.2.2.1.length z.2.2.2.2.2.2.2.2.2.1, Frz z.2.2.2.2.2.2.2.2.2.2.1 z.2.2.2.2.2.2.2.2.2.2.2, Frz G h0] h')) i y h') (fun ls h' => (fun (ls : List (Option AV)) (h' : Hp) => ∃ (rt : List (Nat × List Nat) × Nat) (v2 : AV) (v3 : AV), o = LO.rt rt ∧ ls[1]? = some (some v2) ∧ ls[2]? = some (some v3) ∧ (∃ wk1 : AV, ∃ Lk3 : List AV, ∃ Gk : Nat → Prop, ∃ kk : Hp, (.tuple [v2, v3]) = (AV.tuple [wk1, (vi rt.2)]) ∧ (Eng.Rows (rP (rU .u8) rY) Gk kk Lk3 rt.1) ∧ Eng.Sep (OwnO 2 wk1 rt.1.length Lk3 :: Frz Gk kk :: Frz G h0 :: []) h')) ls h')) (by kernel_rfl) ?_
  refine ⟨q_len (BIn.now S (i := 2) rfl fA0_2), ?_⟩
  refine ⟨fun c1 => ?_, fun c1 => ?_⟩
  · replace c1 := ltI_t c1
    replace hp := ift hp c1
    refine ⟨q_idxB (l := A0) (BIn.now S (i := 2) rfl fA0_2) c1, ?_⟩
    refine ⟨q_byte (l := A0) (BIn.now S (i := 2) rfl fA0_2) c1, ?_⟩
    have x2 : A0.getD 0 0 < 256 := getD_lt (BIn.now S (i := 2) rfl fA0_2).lt 0
    refine ⟨fun c3 => ?_, fun c3 => ?_⟩
    · replace c3 := ltI_t c3
      replace hp := ift hp c3
      have S4 := S.empty
      have S5 := own_nil S4 2
      have S6 : Sep [OwnO 2 AV.nilSlice (([] : List (Nat × List Nat)).length) [], Frz (fun _ => False) h, Frz G h0] h := S5.sel [0, 1, 4] (by decide) rfl
      refine ⟨_, AV.nilSlice, (vi 2), (Option.some.inj hp).symm, rfl, rfl, ?_⟩
      exact ⟨AV.nilSlice, [], (fun _ => False), h, rfl, (own_rows_nil _ _ _), S6⟩
    replace c3 := ltI_f c3
    replace hp := iff0 hp (nltO c3)
    refine ⟨fun c4 => ?_, fun c4 => ?_⟩
    · replace c4 := ltI_t c4
      replace hp := ift hp c4
      have ⟨x5, hb6, hp⟩ := ob_inv hp
      obtain ⟨v9, h10, q11, e12, S13⟩ := h_place x2 hb6
      replace e12 := e12.symm
      subst e12
      have S15 := Sep.call S (news := []) S13
      refine ⟨x5, h10, q11, ?_⟩
      refine ⟨fun c16 => ?_, fun c16 => ?_⟩
      · replace c16 : x5 ≤ A5 := ltI_F (notB_t c16)
        replace hp := ift hp c16
        have S17 := S15.empty
        have S18 := own_nil S17 2
        have S19 : Sep [OwnO 2 AV.nilSlice (([] : List (Nat × List Nat)).length) [], Frz (fun _ => False) h10, Frz G h0] h10 := S18.sel [0, 1, 4] (by decide) rfl
        refine ⟨_, AV.nilSlice, (vi 2), (Option.some.inj hp).symm, rfl, rfl, ?_⟩
        exact ⟨AV.nilSlice, [], (fun _ => False), h10, rfl, (own_rows_nil _ _ _), S19⟩
      replace c16 : A5 < x5 := ltI_T (notB_f c16)
      replace hp := iff0 hp (nleZ c16)
      have ⟨g17, hp⟩ := gd_inv hp
      refine ⟨q_sliceFrom (l := A0) (BIn.now S15 (i := 2) rfl fA0_2) g17, ?_⟩
      have b18 := BIn.from (l := A0) (lo := 1) fA0_2 g17
      have ⟨g19, hp⟩ := gd_inv hp
      have ⟨x20, hb21, hp⟩ := ob_inv hp
      replace hb21 := Option.some.inj hb21
      refine ⟨x20, (by rw [← hb21]; exact h_U32 (BIn.now S15 (i := 2) rfl b18) g19), ?_⟩
      refine ⟨fun c23 => ?_, fun c23 => ?_⟩
      · replace c23 := eqI_f (notB_t c23)
        replace hp := ift hp c23
        have S24 := S15.empty
        have S25 := own_nil S24 2
        have S26 : Sep [OwnO 2 AV.nilSlice (([] : List (Nat × List Nat)).length) [], Frz (fun _ => False) h10, Frz G h0] h10 := S25.sel [0, 1, 4] (by decide) rfl
        refine ⟨_, AV.nilSlice, (vi x20.2.2), (Option.some.inj hp).symm, rfl, rfl, ?_⟩
        exact ⟨AV.nilSlice, [], (fun _ => False), h10, rfl, (own_rows_nil _ _ _), S26⟩
      replace c23 := eqI_t (notB_f c23)
      replace hp := iff0 hp (nneO c23)
      have ⟨g24, hp⟩ := gd_inv hp
      refine ⟨q_add g24, ?_⟩
      have ⟨g25, hp⟩ := gd_inv hp
      refine ⟨q_sliceFrom (l := A0) (BIn.now S15 (i := 2) rfl fA0_2) g25, ?_⟩
      have b26 := BIn.from (l := A0) (lo := 1 + x20.2.1) fA0_2 g25
      refine ⟨u_conv' rfl (Nat.lt_of_lt_of_le (Nat.mod_lt _ (by decide)) (by decide)), ?_⟩
      refine ⟨q_len (BIn.now S15 (i := 2) rfl b26), ?_⟩
      have ⟨g29, hp⟩ := gd_inv hp
      refine ⟨u_conv' rfl (Nat.lt_of_lt_of_le g29 (by decide)), ?_⟩
      refine ⟨fun c30 => ?_, fun c30 => ?_⟩
      · replace c30 := ltI_t c30
        replace hp := ift hp c30
        have S31 := S15.empty
        have S32 := own_nil S31 2
        have S33 : Sep [OwnO 2 AV.nilSlice (([] : List (Nat × List Nat)).length) [], Frz (fun _ => False) h10, Frz G h0] h10 := S32.sel [0, 1, 4] (by decide) rfl
        refine ⟨_, AV.nilSlice, (vi 3), (Option.some.inj hp).symm, rfl, rfl, ?_⟩
        exact ⟨AV.nilSlice, [], (fun _ => False), h10, rfl, (own_rows_nil _ _ _), S33⟩
      replace c30 := ltI_f c30
      replace hp := iff0 hp (nltO c30)
      refine ⟨q_sliceToK (l := A0.drop (1 + x20.2.1)) (BIn.now S15 (i := 2) rfl b26) c30, ?_⟩
      have b31 := BIn.to (l := A0.drop (1 + x20.2.1)) (hi := x20.1 % 4294967296) b26 c30
      have ⟨g32, hp⟩ := gd_inv hp
      obtain ⟨ve33, he33, qe33, oe33, pe33, ne33⟩ := h_clone (B := h10.next) (l := (A0.drop (1 + x20.2.1)).take (x20.1 % 4294967296)) (Nat.le_refl _) g32 (BIn.now S15 (i := 2) rfl b31)
      have Se33 := Sep.owned S15 oe33 pe33
      obtain ⟨e33, rfl, rfl⟩ : ∃ e : Ev, ve33 = e.v ∧ he33 = e.h := ⟨⟨ve33, .lf, he33⟩, rfl, rfl⟩
      refine ⟨e33, qe33, ?_⟩
      refine ⟨q_sliceFromK (l := A0.drop (1 + x20.2.1)) (BIn.now Se33 (i := 3) rfl b26) c30, ?_⟩
      have b35 := BIn.from (l := A0.drop (1 + x20.2.1)) (lo := x20.1 % 4294967296) b26 c30
      refine ⟨fun c36 => ?_, fun c36 => ?_⟩
      · replace c36 := eqI_t c36
        replace hp := ift hp c36
        have ⟨x37, hb38, hp⟩ := ob_inv hp
        obtain ⟨v41, h42, q43, e44, S45⟩ := h_named (own_bin Se33 (i := 0) rfl (BIn.lt b31)) hb38
        replace e44 := e44.symm
        subst e44
        have S47 := Sep.call Se33 (news := []) S45
        refine ⟨x37, h42, q43, ?_⟩
        refine ⟨fun c48 => ?_, fun c48 => ?_⟩
        · replace c48 := notB_t c48
          replace hp := ift hp c48
          have S49 := S47.empty
          have S50 := own_nil S49 2
          have S51 : Sep [OwnO 2 AV.nilSlice (([] : List (Nat × List Nat)).length) [], Frz (fun _ => False) h42, Frz G h0] h42 := S50.sel [0, 1, 5] (by decide) rfl
          refine ⟨_, AV.nilSlice, (vi 2), (Option.some.inj hp).symm, rfl, rfl, ?_⟩
          exact ⟨AV.nilSlice, [], (fun _ => False), h42, rfl, (own_rows_nil _ _ _), S51⟩
        replace c48 := notB_f c48
        replace hp := iff0 hp (nbT c48)
        have ⟨x49, hb50, hp⟩ := ob_inv hp
        obtain ⟨v53, h54, q55, e56, S57⟩ := h_place x2 hb50
        replace e56 := e56.symm
        subst e56
        have S59 := Sep.call S47 (news := []) S57
        refine ⟨x49, h54, q55, ?_⟩
        refine ⟨q_max _ _, ?_⟩
        refine ⟨build_told (by show fillParts [(0, 1, (.const (vb8 (A0.getD 0 0)))), (1, 1, (.const e33.v))] .lf 2 [(vb8 0), AV.nilSlice] = _; rw [fill_cons (o := 0) (k := 1) (n := 2) rfl rfl (by decide), fill_cons (o := 1) (k := 1) (n := 2) (own_cells S59 (i := 0) rfl) rfl (by decide)]; rfl), ?_⟩
        refine ⟨lit_told (n := 2) (by show fillParts _ _ 2 [(vb8 0), AV.nilSlice] = _; rw [fill_cons (o := 0) (k := 2) (n := 2) rfl rfl (by decide)]; rfl) (all_cell rfl (all_cell (own_cell S59 (i := 0) rfl) all_cell0)) rfl, ?_⟩
        have S60 := own_new S59 2 1 [(vb8 (A0.getD 0 0)), e33.v] true rfl
        obtain ⟨G62, pG62, sG62⟩ := own_freeze S60 (i := 1) rfl (BIn.lt b31)
        have S64 : Sep [Frz G_101 k_101, Frz G62 (hpush h54 (mkCells [(vb8 (A0.getD 0 0)), e33.v] 2)), OwnO 2 (AV.slice (Hp.next h54) 0 1 1 2 true) 1 [(vb8 (A0.getD 0 0)), e33.v], OwnO 2 wA4 A4.length LA4, Frz G h0] (hpush h54 (mkCells [(vb8 (A0.getD 0 0)), e33.v] 2)) := sG62.sel [3, 1, 0, 2, 4] (by decide) rfl
        obtain ⟨G65, uG65, vG65, sG65⟩ := Sep.mergeX S64
        have ⟨g67, hp⟩ := gd_inv hp
        obtain ⟨e61, qe61, se61⟩ := own_append (bytes := 32) call sG65 (i := 2) rfl (x := (AV.slice (Hp.next h54) 0 1 1 2 true)) (m := 1) (xs := [(vb8 (A0.getD 0 0)), e33.v]) (fun z k => own_src sG65 (i := 1) rfl z k) (own_L sG65 (i := 1) rfl) (all_cell rfl (all_cell (BIn.cell (BIn.up vG65 pG62)) all_cell0)) g67 (by omega)
        obtain ⟨L68, rL68, eL68⟩ : ∃ L, Eng.Rows (rP (rU .u8) rY) G65 (hpush h54 (mkCells [(vb8 (A0.getD 0 0)), e33.v] 2)) L (A4 ++ [(A0.getD 0 0, (A0.drop (1 + x20.2.1)).take (x20.1 % 4294967296))]) ∧ LA4 ++ [(vb8 (A0.getD 0 0)), e33.v] = L := ⟨_, (Rows.snoc (Rows.up uG65 fA4) (a := (rP (rU .u8) rY)) (x := (A0.getD 0 0, (A0.drop (1 + x20.2.1)).take (x20.1 % 4294967296))) ⟨_, _, rfl, ⟨rfl, x2⟩, ⟨e33.v, rfl, (BIn.up vG65 pG62)⟩⟩), rfl⟩
        have S70 : Sep [Frz G65 (hpush h54 (mkCells [(vb8 (A0.getD 0 0)), e33.v] 2)), OwnO 2 (AV.slice (Hp.next h54) 0 1 1 2 true) 1 [(vb8 (A0.getD 0 0)), e33.v], OwnO 2 e61.v ((A4 ++ [(A0.getD 0 0, (A0.drop (1 + x20.2.1)).take (x20.1 % 4294967296))]).length) L68, Frz G h0] e61.h := (by have z := se61; rw [eL68, show A4.length + 1 = (A4 ++ [(A0.getD 0 0, (A0.drop (1 + x20.2.1)).take (x20.1 % 4294967296))]).length from by first | (simp; done) | (simp; omega)] at z; exact z)
        have S71 : Sep [OwnO 2 (AV.slice (Hp.next h54) 0 1 1 2 true) 1 [(vb8 (A0.getD 0 0)), e33.v], Frz G65 (hpush h54 (mkCells [(vb8 (A0.getD 0 0)), e33.v] 2)), OwnO 2 e61.v ((A4 ++ [(A0.getD 0 0, (A0.drop (1 + x20.2.1)).take (x20.1 % 4294967296))]).length) L68, Frz G h0] e61.h := S70.sel [1, 0, 2, 3] (by decide) rfl
        have S72 := S71.tail
        refine ⟨e61, qe61, ?_⟩
        have S73 : Sep [OwnO 2 e61.v ((A4 ++ [(A0.getD 0 0, (A0.drop (1 + x20.2.1)).take (x20.1 % 4294967296))]).length) L68, Frz G65 (hpush h54 (mkCells [(vb8 (A0.getD 0 0)), e33.v] 2)), Frz G h0] e61.h := S72.sel [1, 0, 2] (by decide) rfl
        refine ⟨(m, (A0.drop (1 + x20.2.1)).drop (x20.1 % 4294967296), A2, A3, A4 ++ [(A0.getD 0 0, (A0.drop (1 + x20.2.1)).take (x20.1 % 4294967296))], max A5 x49, (partS (partS wA0_1 (1 + x20.2.1) A0.length) (x20.1 % 4294967296) (A0.drop (1 + x20.2.1)).length), wA2_1, e61.v, L68, G65, hpush h54 (mkCells [(vb8 (A0.getD 0 0)), e33.v] 2)), rfl, ⟨hp, b35, fA2_2, rL68, (Up.trans fU_101 uG65), S73⟩, by show m < n; omega⟩
      replace c36 := eqI_f c36
      replace hp := iff0 hp (c36)
      have ⟨x37, hb38, hp⟩ := ob_inv hp
      obtain ⟨v41, h42, q43, e44, S45⟩ := h_place x2 hb38
      replace e44 := e44.symm
      subst e44
      have S47 := Sep.call Se33 (news := []) S45
      refine ⟨x37, h42, q43, ?_⟩
      refine ⟨q_max _ _, ?_⟩
      refine ⟨build_told (by show fillParts [(0, 1, (.const (vb8 (A0.getD 0 0)))), (1, 1, (.const e33.v))] .lf 2 [(vb8 0), AV.nilSlice] = _; rw [fill_cons (o := 0) (k := 1) (n := 2) rfl rfl (by decide), fill_cons (o := 1) (k := 1) (n := 2) (own_cells S47 (i := 0) rfl) rfl (by decide)]; rfl), ?_⟩
      refine ⟨lit_told (n := 2) (by show fillParts _ _ 2 [(vb8 0), AV.nilSlice] = _; rw [fill_cons (o := 0) (k := 2) (n := 2) rfl rfl (by decide)]; rfl) (all_cell rfl (all_cell (own_cell S47 (i := 0) rfl) all_cell0)) rfl, ?_⟩
      have S48 := own_new S47 2 1 [(vb8 (A0.getD 0 0)), e33.v] true rfl
      obtain ⟨G50, pG50, sG50⟩ := own_freeze S48 (i := 1) rfl (BIn.lt b31)
      have S52 : Sep [Frz G_101 k_101, Frz G50 (hpush h42 (mkCells [(vb8 (A0.getD 0 0)), e33.v] 2)), OwnO 2 (AV.slice (Hp.next h42) 0 1 1 2 true) 1 [(vb8 (A0.getD 0 0)), e33.v], OwnO 2 wA4 A4.length LA4, Frz G h0] (hpush h42 (mkCells [(vb8 (A0.getD 0 0)), e33.v] 2)) := sG50.sel [3, 1, 0, 2, 4] (by decide) rfl
      obtain ⟨G53, uG53, vG53, sG53⟩ := Sep.mergeX S52
      have ⟨g55, hp⟩ := gd_inv hp
      obtain ⟨e49, qe49, se49⟩ := own_append (bytes := 32) call sG53 (i := 2) rfl (x := (AV.slice (Hp.next h42) 0 1 1 2 true)) (m := 1) (xs := [(vb8 (A0.getD 0 0)), e33.v]) (fun z k => own_src sG53 (i := 1) rfl z k) (own_L sG53 (i := 1) rfl) (all_cell rfl (all_cell (BIn.cell (BIn.up vG53 pG50)) all_cell0)) g55 (by omega)
      obtain ⟨L56, rL56, eL56⟩ : ∃ L, Eng.Rows (rP (rU .u8) rY) G53 (hpush h42 (mkCells [(vb8 (A0.getD 0 0)), e33.v] 2)) L (A4 ++ [(A0.getD 0 0, (A0.drop (1 + x20.2.1)).take (x20.1 % 4294967296))]) ∧ LA4 ++ [(vb8 (A0.getD 0 0)), e33.v] = L := ⟨_, (Rows.snoc (Rows.up uG53 fA4) (a := (rP (rU .u8) rY)) (x := (A0.getD 0 0, (A0.drop (1 + x20.2.1)).take (x20.1 % 4294967296))) ⟨_, _, rfl, ⟨rfl, x2⟩, ⟨e33.v, rfl, (BIn.up vG53 pG50)⟩⟩), rfl⟩
      have S58 : Sep [Frz G53 (hpush h42 (mkCells [(vb8 (A0.getD 0 0)), e33.v] 2)), OwnO 2 (AV.slice (Hp.next h42) 0 1 1 2 true) 1 [(vb8 (A0.getD 0 0)), e33.v], OwnO 2 e49.v ((A4 ++ [(A0.getD 0 0, (A0.drop (1 + x20.2.1)).take (x20.1 % 4294967296))]).length) L56, Frz G h0] e49.h := (by have z := se49; rw [eL56, show A4.length + 1 = (A4 ++ [(A0.getD 0 0, (A0.drop (1 + x20.2.1)).take (x20.1 % 4294967296))]).length from by first | (simp; done) | (simp; omega)] at z; exact z)
      have S59 : Sep [OwnO 2 (AV.slice (Hp.next h42) 0 1 1 2 true) 1 [(vb8 (A0.getD 0 0)), e33.v], Frz G53 (hpush h42 (mkCells [(vb8 (A0.getD 0 0)), e33.v] 2)), OwnO 2 e49.v ((A4 ++ [(A0.getD 0 0, (A0.drop (1 + x20.2.1)).take (x20.1 % 4294967296))]).length) L56, Frz G h0] e49.h := S58.sel [1, 0, 2, 3] (by decide) rfl
      have S60 := S59.tail
      refine ⟨e49, qe49, ?_⟩
      have S61 : Sep [OwnO 2 e49.v ((A4 ++ [(A0.getD 0 0, (A0.drop (1 + x20.2.1)).take (x20.1 % 4294967296))]).length) L56, Frz G53 (hpush h42 (mkCells [(vb8 (A0.getD 0 0)), e33.v] 2)), Frz G h0] e49.h := S60.sel [1, 0, 2] (by decide) rfl
      refine ⟨(m, (A0.drop (1 + x20.2.1)).drop (x20.1 % 4294967296), A2, A3, A4 ++ [(A0.getD 0 0, (A0.drop (1 + x20.2.1)).take (x20.1 % 4294967296))], max A5 x37, (partS (partS wA0_1 (1 + x20.2.1) A0.length) (x20.1 % 4294967296) (A0.drop (1 + x20.2.1)).length), wA2_1, e49.v, L56, G53, hpush h42 (mkCells [(vb8 (A0.getD 0 0)), e33.v] 2)), rfl, ⟨hp, b35, fA2_2, rL56, (Up.trans fU_101 uG53), S61⟩, by show m < n; omega⟩
    replace c4 := ltI_f c4
    replace hp := iff0 hp (nltO c4)
    have ⟨g5, hp⟩ := gd_inv hp
    refine ⟨q_sliceFrom (l := A0) (BIn.now S (i := 2) rfl fA0_2) g5, ?_⟩
    have b6 := BIn.from (l := A0) (lo := 1) fA0_2 g5
    have ⟨g7, hp⟩ := gd_inv hp
    have ⟨x8, hb9, hp⟩ := ob_inv hp
    replace hb9 := Option.some.inj hb9
    refine ⟨x8, (by rw [← hb9]; exact h_U32 (BIn.now S (i := 2) rfl b6) g7), ?_⟩
    refine ⟨fun c11 => ?_, fun c11 => ?_⟩
    · replace c11 := eqI_f (notB_t c11)
      replace hp := ift hp c11
      have S12 := S.empty
      have S13 := own_nil S12 2
      have S14 : Sep [OwnO 2 AV.nilSlice (([] : List (Nat × List Nat)).length) [], Frz (fun _ => False) h, Frz G h0] h := S13.sel [0, 1, 4] (by decide) rfl
      refine ⟨_, AV.nilSlice, (vi x8.2.2), (Option.some.inj hp).symm, rfl, rfl, ?_⟩
      exact ⟨AV.nilSlice, [], (fun _ => False), h, rfl, (own_rows_nil _ _ _), S14⟩
    replace c11 := eqI_t (notB_f c11)
    replace hp := iff0 hp (nneO c11)
    have ⟨g12, hp⟩ := gd_inv hp
    refine ⟨q_add g12, ?_⟩
    have ⟨g13, hp⟩ := gd_inv hp
    refine ⟨q_sliceFrom (l := A0) (BIn.now S (i := 2) rfl fA0_2) g13, ?_⟩
    have b14 := BIn.from (l := A0) (lo := 1 + x8.2.1) fA0_2 g13
    refine ⟨u_conv' rfl (Nat.lt_of_lt_of_le (Nat.mod_lt _ (by decide)) (by decide)), ?_⟩
    refine ⟨q_len (BIn.now S (i := 2) rfl b14), ?_⟩
    have ⟨g17, hp⟩ := gd_inv hp
    refine ⟨u_conv' rfl (Nat.lt_of_lt_of_le g17 (by decide)), ?_⟩
    refine ⟨fun c18 => ?_, fun c18 => ?_⟩
    · replace c18 := ltI_t c18
      replace hp := ift hp c18
      have S19 := S.empty
      have S20 := own_nil S19 2
      have S21 : Sep [OwnO 2 AV.nilSlice (([] : List (Nat × List Nat)).length) [], Frz (fun _ => False) h, Frz G h0] h := S20.sel [0, 1, 4] (by decide) rfl
      refine ⟨_, AV.nilSlice, (vi 3), (Option.some.inj hp).symm, rfl, rfl, ?_⟩
      exact ⟨AV.nilSlice, [], (fun _ => False), h, rfl, (own_rows_nil _ _ _), S21⟩
    replace c18 := ltI_f c18
    replace hp := iff0 hp (nltO c18)
    refine ⟨q_sliceToK (l := A0.drop (1 + x8.2.1)) (BIn.now S (i := 2) rfl b14) c18, ?_⟩
    have b19 := BIn.to (l := A0.drop (1 + x8.2.1)) (hi := x8.1 % 4294967296) b14 c18
    have ⟨g20, hp⟩ := gd_inv hp
    obtain ⟨ve21, he21, qe21, oe21, pe21, ne21⟩ := h_clone (B := h.next) (l := (A0.drop (1 + x8.2.1)).take (x8.1 % 4294967296)) (Nat.le_refl _) g20 (BIn.now S (i := 2) rfl b19)
    have Se21 := Sep.owned S oe21 pe21
    obtain ⟨e21, rfl, rfl⟩ : ∃ e : Ev, ve21 = e.v ∧ he21 = e.h := ⟨⟨ve21, .lf, he21⟩, rfl, rfl⟩
    refine ⟨e21, qe21, ?_⟩
    refine ⟨q_sliceFromK (l := A0.drop (1 + x8.2.1)) (BIn.now Se21 (i := 3) rfl b14) c18, ?_⟩
    have b23 := BIn.from (l := A0.drop (1 + x8.2.1)) (lo := x8.1 % 4294967296) b14 c18
    refine ⟨fun c24 => ?_, fun c24 => ?_⟩
    · replace c24 := eqI_t c24
      replace hp := ift hp c24
      have ⟨x25, hb26, hp⟩ := ob_inv hp
      obtain ⟨v29, h30, q31, e32, S33⟩ := h_named (own_bin Se21 (i := 0) rfl (BIn.lt b19)) hb26
      replace e32 := e32.symm
      subst e32
      have S35 := Sep.call Se21 (news := []) S33
      refine ⟨x25, h30, q31, ?_⟩
      refine ⟨fun c36 => ?_, fun c36 => ?_⟩
      · replace c36 := notB_t c36
        replace hp := ift hp c36
        have S37 := S35.empty
        have S38 := own_nil S37 2
        have S39 : Sep [OwnO 2 AV.nilSlice (([] : List (Nat × List Nat)).length) [], Frz (fun _ => False) h30, Frz G h0] h30 := S38.sel [0, 1, 5] (by decide) rfl
        refine ⟨_, AV.nilSlice, (vi 2), (Option.some.inj hp).symm, rfl, rfl, ?_⟩
        exact ⟨AV.nilSlice, [], (fun _ => False), h30, rfl, (own_rows_nil _ _ _), S39⟩
      replace c36 := notB_f c36
      replace hp := iff0 hp (nbT c36)
      have ⟨x37, hb38, hp⟩ := ob_inv hp
      obtain ⟨v41, h42, q43, e44, S45⟩ := h_place x2 hb38
      replace e44 := e44.symm
      subst e44
      have S47 := Sep.call S35 (news := []) S45
      refine ⟨x37, h42, q43, ?_⟩
      refine ⟨q_max _ _, ?_⟩
      refine ⟨build_told (by show fillParts [(0, 1, (.const (vb8 (A0.getD 0 0)))), (1, 1, (.const e21.v))] .lf 2 [(vb8 0), AV.nilSlice] = _; rw [fill_cons (o := 0) (k := 1) (n := 2) rfl rfl (by decide), fill_cons (o := 1) (k := 1) (n := 2) (own_cells S47 (i := 0) rfl) rfl (by decide)]; rfl), ?_⟩
      refine ⟨lit_told (n := 2) (by show fillParts _ _ 2 [(vb8 0), AV.nilSlice] = _; rw [fill_cons (o := 0) (k := 2) (n := 2) rfl rfl (by decide)]; rfl) (all_cell rfl (all_cell (own_cell S47 (i := 0) rfl) all_cell0)) rfl, ?_⟩
      have S48 := own_new S47 2 1 [(vb8 (A0.getD 0 0)), e21.v] true rfl
      obtain ⟨G50, pG50, sG50⟩ := own_freeze S48 (i := 1) rfl (BIn.lt b19)
      have S52 : Sep [Frz G_101 k_101, Frz G50 (hpush h42 (mkCells [(vb8 (A0.getD 0 0)), e21.v] 2)), OwnO 2 (AV.slice (Hp.next h42) 0 1 1 2 true) 1 [(vb8 (A0.getD 0 0)), e21.v], OwnO 2 wA4 A4.length LA4, Frz G h0] (hpush h42 (mkCells [(vb8 (A0.getD 0 0)), e21.v] 2)) := sG50.sel [3, 1, 0, 2, 4] (by decide) rfl
      obtain ⟨G53, uG53, vG53, sG53⟩ := Sep.mergeX S52
      have ⟨g55, hp⟩ := gd_inv hp
      obtain ⟨e49, qe49, se49⟩ := own_append (bytes := 32) call sG53 (i := 2) rfl (x := (AV.slice (Hp.next h42) 0 1 1 2 true)) (m := 1) (xs := [(vb8 (A0.getD 0 0)), e21.v]) (fun z k => own_src sG53 (i := 1) rfl z k) (own_L sG53 (i := 1) rfl) (all_cell rfl (all_cell (BIn.cell (BIn.up vG53 pG50)) all_cell0)) g55 (by omega)
      obtain ⟨L56, rL56, eL56⟩ : ∃ L, Eng.Rows (rP (rU .u8) rY) G53 (hpush h42 (mkCells [(vb8 (A0.getD 0 0)), e21.v] 2)) L (A4 ++ [(A0.getD 0 0, (A0.drop (1 + x8.2.1)).take (x8.1 % 4294967296))]) ∧ LA4 ++ [(vb8 (A0.getD 0 0)), e21.v] = L := ⟨_, (Rows.snoc (Rows.up uG53 fA4) (a := (rP (rU .u8) rY)) (x := (A0.getD 0 0, (A0.drop (1 + x8.2.1)).take (x8.1 % 4294967296))) ⟨_, _, rfl, ⟨rfl, x2⟩, ⟨e21.v, rfl, (BIn.up vG53 pG50)⟩⟩), rfl⟩
      have S58 : Sep [Frz G53 (hpush h42 (mkCells [(vb8 (A0.getD 0 0)), e21.v] 2)), OwnO 2 (AV.slice (Hp.next h42) 0 1 1 2 true) 1 [(vb8 (A0.getD 0 0)), e21.v], OwnO 2 e49.v ((A4 ++ [(A0.getD 0 0, (A0.drop (1 + x8.2.1)).take (x8.1 % 4294967296))]).length) L56, Frz G h0] e49.h := (by have z := se49; rw [eL56, show A4.length + 1 = (A4 ++ [(A0.getD 0 0, (A0.drop (1 + x8.2.1)).take (x8.1 % 4294967296))]).length from by first | (simp; done) | (simp; omega)] at z; exact z)
      have S59 : Sep [OwnO 2 (AV.slice (Hp.next h42) 0 1 1 2 true) 1 [(vb8 (A0.getD 0 0)), e21.v], Frz G53 (hpush h42 (mkCells [(vb8 (A0.getD 0 0)), e21.v] 2)), OwnO 2 e49.v ((A4 ++ [(A0.getD 0 0, (A0.drop (1 + x8.2.1)).take (x8.1 % 4294967296))]).length) L56, Frz G h0] e49.h := S58.sel [1, 0, 2, 3] (by decide) rfl
      have S60 := S59.tail
      refine ⟨e49, qe49, ?_⟩
      have S61 : Sep [OwnO 2 e49.v ((A4 ++ [(A0.getD 0 0, (A0.drop (1 + x8.2.1)).take (x8.1 % 4294967296))]).length) L56, Frz G53 (hpush h42 (mkCells [(vb8 (A0.getD 0 0)), e21.v] 2)), Frz G h0] e49.h := S60.sel [1, 0, 2] (by decide) rfl
      refine ⟨(m, (A0.drop (1 + x8.2.1)).drop (x8.1 % 4294967296), A2, A3, A4 ++ [(A0.getD 0 0, (A0.drop (1 + x8.2.1)).take (x8.1 % 4294967296))], max A5 x37, (partS (partS wA0_1 (1 + x8.2.1) A0.length) (x8.1 % 4294967296) (A0.drop (1 + x8.2.1)).length), wA2_1, e49.v, L56, G53, hpush h42 (mkCells [(vb8 (A0.getD 0 0)), e21.v] 2)), rfl, ⟨hp, b23, fA2_2, rL56, (Up.trans fU_101 uG53), S61⟩, by show m < n; omega⟩
    replace c24 := eqI_f c24
    replace hp := iff0 hp (c24)
    have ⟨x25, hb26, hp⟩ := ob_inv hp
    obtain ⟨v29, h30, q31, e32, S33⟩ := h_place x2 hb26
    replace e32 := e32.symm
    subst e32
    have S35 := Sep.call Se21 (news := []) S33
    refine ⟨x25, h30, q31, ?_⟩
    refine ⟨q_max _ _, ?_⟩
    refine ⟨build_told (by show fillParts [(0, 1, (.const (vb8 (A0.getD 0 0)))), (1, 1, (.const e21.v))] .lf 2 [(vb8 0), AV.nilSlice] = _; rw [fill_cons (o := 0) (k := 1) (n := 2) rfl rfl (by decide), fill_cons (o := 1) (k := 1) (n := 2) (own_cells S35 (i := 0) rfl) rfl (by decide)]; rfl), ?_⟩
    refine ⟨lit_told (n := 2) (by show fillParts _ _ 2 [(vb8 0), AV.nilSlice] = _; rw [fill_cons (o := 0) (k := 2) (n := 2) rfl rfl (by decide)]; rfl) (all_cell rfl (all_cell (own_cell S35 (i := 0) rfl) all_cell0)) rfl, ?_⟩
    have S36 := own_new S35 2 1 [(vb8 (A0.getD 0 0)), e21.v] true rfl
    obtain ⟨G38, pG38, sG38⟩ := own_freeze S36 (i := 1) rfl (BIn.lt b19)
    have S40 : Sep [Frz G_101 k_101, Frz G38 (hpush h30 (mkCells [(vb8 (A0.getD 0 0)), e21.v] 2)), OwnO 2 (AV.slice (Hp.next h30) 0 1 1 2 true) 1 [(vb8 (A0.getD 0 0)), e21.v], OwnO 2 wA4 A4.length LA4, Frz G h0] (hpush h30 (mkCells [(vb8 (A0.getD 0 0)), e21.v] 2)) := sG38.sel [3, 1, 0, 2, 4] (by decide) rfl
    obtain ⟨G41, uG41, vG41, sG41⟩ := Sep.mergeX S40
    have ⟨g43, hp⟩ := gd_inv hp
    obtain ⟨e37, qe37, se37⟩ := own_append (bytes := 32) call sG41 (i := 2) rfl (x := (AV.slice (Hp.next h30) 0 1 1 2 true)) (m := 1) (xs := [(vb8 (A0.getD 0 0)), e21.v]) (fun z k => own_src sG41 (i := 1) rfl z k) (own_L sG41 (i := 1) rfl) (all_cell rfl (all_cell (BIn.cell (BIn.up vG41 pG38)) all_cell0)) g43 (by omega)
    obtain ⟨L44, rL44, eL44⟩ : ∃ L, Eng.Rows (rP (rU .u8) rY) G41 (hpush h30 (mkCells [(vb8 (A0.getD 0 0)), e21.v] 2)) L (A4 ++ [(A0.getD 0 0, (A0.drop (1 + x8.2.1)).take (x8.1 % 4294967296))]) ∧ LA4 ++ [(vb8 (A0.getD 0 0)), e21.v] = L := ⟨_, (Rows.snoc (Rows.up uG41 fA4) (a := (rP (rU .u8) rY)) (x := (A0.getD 0 0, (A0.drop (1 + x8.2.1)).take (x8.1 % 4294967296))) ⟨_, _, rfl, ⟨rfl, x2⟩, ⟨e21.v, rfl, (BIn.up vG41 pG38)⟩⟩), rfl⟩
    have S46 : Sep [Frz G41 (hpush h30 (mkCells [(vb8 (A0.getD 0 0)), e21.v] 2)), OwnO 2 (AV.slice (Hp.next h30) 0 1 1 2 true) 1 [(vb8 (A0.getD 0 0)), e21.v], OwnO 2 e37.v ((A4 ++ [(A0.getD 0 0, (A0.drop (1 + x8.2.1)).take (x8.1 % 4294967296))]).length) L44, Frz G h0] e37.h := (by have z := se37; rw [eL44, show A4.length + 1 = (A4 ++ [(A0.getD 0 0, (A0.drop (1 + x8.2.1)).take (x8.1 % 4294967296))]).length from by first | (simp; done) | (simp; omega)] at z; exact z)
    have S47 : Sep [OwnO 2 (AV.slice (Hp.next h30) 0 1 1 2 true) 1 [(vb8 (A0.getD 0 0)), e21.v], Frz G41 (hpush h30 (mkCells [(vb8 (A0.getD 0 0)), e21.v] 2)), OwnO 2 e37.v ((A4 ++ [(A0.getD 0 0, (A0.drop (1 + x8.2.1)).take (x8.1 % 4294967296))]).length) L44, Frz G h0] e37.h := S46.sel [1, 0, 2, 3] (by decide) rfl
    have S48 := S47.tail
    refine ⟨e37, qe37, ?_⟩
    have S49 : Sep [OwnO 2 e37.v ((A4 ++ [(A0.getD 0 0, (A0.drop (1 + x8.2.1)).take (x8.1 % 4294967296))]).length) L44, Frz G41 (hpush h30 (mkCells [(vb8 (A0.getD 0 0)), e21.v] 2)), Frz G h0] e37.h := S48.sel [1, 0, 2] (by decide) rfl
    refine ⟨(m, (A0.drop (1 + x8.2.1)).drop (x8.1 % 4294967296), A2, A3, A4 ++ [(A0.getD 0 0, (A0.drop (1 + x8.2.1)).take (x8.1 % 4294967296))], max A5 x25, (partS (partS wA0_1 (1 + x8.2.1) A0.length) (x8.1 % 4294967296) (A0.drop (1 + x8.2.1)).length), wA2_1, e37.v, L44, G41, hpush h30 (mkCells [(vb8 (A0.getD 0 0)), e21.v] 2)), rfl, ⟨hp, b23, fA2_2, rL44, (Up.trans fU_101 uG41), S49⟩, by show m < n; omega⟩
  replace c1 := ltI_f c1
  replace hp := iff0 hp (nltO c1)
  refine ⟨(m, A0, A2, A3, A4, A5, wA0_1, wA2_1, wA4, LA4, G_101, k_101), rfl, rfl, fun _ => ⟨(Option.some.inj hp).symm, fA0_2, fA2_2, fA4, fU_101, S⟩⟩
theorem split_l1_t {call : CallT} {N : Nat} {ZG_101 : Nat → Prop} {Zk_101 : Hp} {G : Nat → Prop} {h0 : Hp}   (h_U32 : NumS call 22 32 false .u32 (fun n => .ofNat (n % 4294967296))) (h_place : C_place call) (h_clone : CloneS call 59) (h_named : C_named call) {o : LO (List Nat × List Nat × Nat × List (Nat × List Nat) × Int) (List (Nat × List Nat) × Nat)} {n : Nat} {A0 : List Nat} {A2 : List Nat} {A3 : Nat} {A4 : List (Nat × List Nat)} {A5 : Int} {wA0_1 : AV} {wA2_1 : AV} {wA4 : AV} {LA4 : List AV} {G_101 : Nat → Prop} {k_101 : Hp} {h : Hp} (hi : (fun (z : Nat × List Nat × List Nat × Nat × List (Nat × List Nat) × Int × AV × AV × AV × List AV × (Nat → Prop) × Hp) (h' : Hp) => split_l1  z.1 z.2.1 z.2.2.1 z.2.2.2.1 z.2.2.2.2.1 z.2.2.2.2.2.1 = some o ∧ (BIn G h0 z.2.2.2.2.2.2.1 z.2.1) ∧ (BIn G h0 z.2.2.2.2.2.2.2.1 z.2.2.1) ∧ (Eng.Rows (rP (rU .u8) rY) z.2.2.2.2.2.2.2.2.2.2.1 z.2.2.2.2.2.2.2.2.2.2.2 z.2.2.2.2.2.2.2.2.2.1 z.2.2.2.2.1) ∧ (Up ZG_101 Zk_101 z.2.2.2.2.2.2.2.2.2.2.1 z.2.2.2.2.2.2.2.2.2.2.2) ∧ Eng.Sep [OwnO 2 z.2.2.2.2.2.2.2.2.1 z.2.2.2.2.1.length z.2.2.2.2.2.2.2.2.2.1, Frz z.2.2.2.2.2.2.2.2.2.2.1 z.2.2.2.2.2.2.2.2.2.2.2, Frz G h0] h') (n, A0, A2, A3, A4, A5, wA0_1, wA2_1, wA4, LA4, G_101, k_101) h) (hN : n < N) (hN' : 90000 < N) {t : T} (ht : Has ((fun (z : Nat × List Nat × List Nat × Nat × List (Nat × List Nat) × Int × AV × AV × AV × List AV × (Nat → Prop) × Hp) => [(0, z.2.2.2.2.2.2.1), (2, z.2.2.2.2.2.2.2.1), (3, (vi z.2.2.2.1)), (4, z.2.2.2.2.2.2.2.2.1), (5, (AV.int .i64 z.2.2.2.2.2.1))]) (n, A0, A2, A3, A4, A5, wA0_1, wA2_1, wA4, LA4, G_101, k_101)) t) :
    (∃ i y t' h', evC call N (.loop split_l1C) t h = .exit i t' h' ∧ Has ((fun (z : Nat × List Nat × List Nat × Nat × List (Nat × List Nat) × Int × AV × AV × AV × List AV × (Nat → Prop) × Hp) => [(0, z.2.2.2.2.2.2.1), (2, z.2.2.2.2.2.2.2.1), (3, (vi z.2.2.2.1)), (4, z.2.2.2.2.2.2.2.2.1), (5, (AV.int .i64 z.2.2.2.2.2.1))]) y) t' ∧ (fun (i : Nat) (z : Nat × List Nat × List Nat × Nat × List (Nat × List Nat) × Int × AV × AV × AV × List AV × (Nat → Prop) × Hp) (h' : Hp) => (i = 1) ∧ (i = 1 → o = LO.ex (z.2.1, z.2.2.1, z.2.2.2.1, z.2.2.2.2.1, z.2.2.2.2.2.1) ∧ (BIn G h0 z.2.2.2.2.2.2.1 z.2.1) ∧ (BIn G h0 z.2.2.2.2.2.2.2.1 z.2.2.1) ∧ (Eng.Rows (rP (rU .u8) rY) z.2.2.2.2.2.2.2.2.2.2.1 z.2.2.2.2.2.2.2.2.2.2.2 z.2.2.2.2.2.2.2.2.2.1 z.2.2.2.2.1) ∧ (Up ZG_101 Zk_101 z.2.2.2.2.2.2.2.2.2.2.1 z.2.2.2.2.2.2.2.2.2.2.2) ∧ Eng.Sep [OwnO 2 z.2.2.2.2.2.2.2.2.1 z.2.2.2.2.1.length z.2.2.2.2.2.2.2.2.2.1, Frz z.2.2.2.2.2.2.2.2.2.2.1 z.2.2.2.2.2.2.2.2.2.2.2, Frz G h0] h')) i y h') ∨ (∃ t' h', evC call N (.loop split_l1C) t h = .ret t' h' ∧ (fun (ls : List (Option AV)) (h' : Hp) => ∃ (rt : List (Nat × List Nat) × Nat) (v2 : AV) (v3 : AV), o = LO.rt rt ∧ ls[1]? = some (some v2) ∧ ls[2]? = some (some v3) ∧ (∃ wk1 : AV, ∃ Lk3 : List AV, ∃ Gk : Nat → Prop, ∃ kk : Hp, (.tuple [v2, v3]) = (AV.tuple [wk1, (vi rt.2)]) ∧ (Eng.Rows (rP (rU .u8) rY) Gk kk Lk3 rt.1) ∧ Eng.Sep (OwnO 2 wk1 rt.1.length Lk3 :: Frz Gk kk :: Frz G h0 :: []) h')) (slots [0, 2, 3, 4, 5] t') h') :=
  loop_st (fun (z : Nat × List Nat × List Nat × Nat × List (Nat × List Nat) × Int × AV × AV × AV × List AV × (Nat → Prop) × Hp) => [(0, z.2.2.2.2.2.2.1), (2, z.2.2.2.2.2.2.2.1), (3, (vi z.2.2.2.1)), (4, z.2.2.2.2.2.2.2.2.1), (5, (AV.int .i64 z.2.2.2.2.2.1))]) [0, 2, 3, 4, 5] (fun _ => rfl) (fun (z : Nat × List Nat × List Nat × Nat × List (Nat × List Nat) × Int × AV × AV × AV × List AV × (Nat → Prop) × Hp) (h' : Hp) => split_l1  z.1 z.2.1 z.2.2.1 z.2.2.2.1 z.2.2.2.2.1 z.2.2.2.2.2.1 = some o ∧ (BIn G h0 z.2.2.2.2.2.2.1 z.2.1) ∧ (BIn G h0 z.2.2.2.2.2.2.2.1 z.2.2.1) ∧ (Eng.Rows (rP (rU .u8) rY) z.2.2.2.2.2.2.2.2.2.2.1 z.2.2.2.2.2.2.2.2.2.2.2 z.2.2.2.2.2.2.2.2.2.1 z.2.2.2.2.1) ∧ (Up ZG_101 Zk_101 z.2.2.2.2.2.2.2.2.2.2.1 z.2.2.2.2.2.2.2.2.2.2.2) ∧ Eng.Sep [OwnO 2 z.2.2.2.2.2.2.2.2.1 z.2.2.2.2.1.length z.2.2.2.2.2.2.2.2.2.1, Frz z.2.2.2.2.2.2.2.2.2.2.1 z.2.2.2.2.2.2.2.2.2.2.2, Frz G h0] h') (fun (z : Nat × List Nat × List Nat × Nat × List (Nat × List Nat) × Int × AV × AV × AV × List AV × (Nat → Prop) × Hp) => z.1) (fun (i : Nat) (z : Nat × List Nat × List Nat × Nat × List (Nat × List Nat) × Int × AV × AV × AV × List AV × (Nat → Prop) × Hp) (h' : Hp) => (i = 1) ∧ (i = 1 → o = LO.ex (z.2.1, z.2.2.1, z.2.2.2.1, z.2.2.2.2.1, z.2.2.2.2.2.1) ∧ (BIn G h0 z.2.2.2.2.2.2.1 z.2.1) ∧ (BIn G h0 z.2.2.2.2.2.2.2.1 z.2.2.1) ∧ (Eng.Rows (rP (rU .u8) rY) z.2.2.2.2.2.2.2.2.2.2.1 z.2.2.2.2.2.2.2.2.2.2.2 z.2.2.2.2.2.2.2.2.2.1 z.2.2.2.2.1) ∧ (Up ZG_101 Zk_101 z.2.2.2.2.2.2.2.2.2.2.1 z.2.2.2.2.2.2.2.2.2.2.2) ∧ Eng.Sep [OwnO 2 z.2.2.2.2.2.2.2.2.1 z.2.2.2.2.1.length z.2.2.2.2.2.2.2.2.2.1, Frz z.2.2.2.2.2.2.2.2.2.2.1 z.2.2.2.2.2.2.2.2.2.2.2, Frz G h0] h')) (fun (ls : List (Option AV)) (h' : Hp) => ∃ (rt : List (Nat × List Nat) × Nat) (v2 : AV) (v3 : AV), o = LO.rt rt ∧ ls[1]? = some (some v2) ∧ ls[2]? = some (some v3) ∧ (∃ wk1 : AV, ∃ Lk3 : List AV, ∃ Gk : Nat → Prop, ∃ kk : Hp, (.tuple [v2, v3]) = (AV.tuple [wk1, (vi rt.2)]) ∧ (Eng.Rows (rP (rU .u8) rY) Gk kk Lk3 rt.1) ∧ Eng.Sep (OwnO 2 wk1 rt.1.length Lk3 :: Frz Gk kk :: Frz G h0 :: []) h')) (fun ⟨n, A0, A2, A3, A4, A5, wA0_1, wA2_1, wA4, LA4, G_101, k_101⟩ t h hi => split_l1_body h_U32 h_place h_clone h_named hN' hi) (n, A0, A2, A3, A4, A5, wA0_1, wA2_1, wA4, LA4, G_101, k_101) h hi hN t ht
noncomputable def split_p (l : List Nat) : Option (List (Nat × List Nat) × Nat) :=
  (if l.length < 8 then (some ([], 3)) else
    (if (l.take 8) ≠ [0, 97, 115, 109, 1, 0, 0, 0] then (some ([], 2)) else
    (ob (split_l1  90000 (l.drop 8) ([] : List Nat) 0 ([] : List (Nat × List Nat)) (-1 : Int)) fun o7 =>
    (LO.on o7 (fun s_o7 => (some (s_o7.2.2.2.1, 0))) (fun y14 =>
    (some y14))))))
theorem split_w {call : CallT} {N : Nat} {h : Hp} {wl_1 : AV} {l : List Nat} (fl_2 : BIn (Low h) h wl_1 l) (h_U32 : NumS call 22 32 false .u32 (fun n => .ofNat (n % 4294967296))) (h_place : C_place call) (h_clone : CloneS call 59) (h_named : C_named call) (hN : 90000 < N) {r : List (Nat × List Nat) × Nat} (hp : split_p l = some r) :
    ∃ rv rh, evF1 (progS Try.prog (compDrawn Try.prog)) N call 35 [wl_1] h = .ok rv rh ∧ (fun (rv : AV) (rh : Hp) => ∃ wk1 : AV, ∃ Lk3 : List AV, ∃ Gk : Nat → Prop, ∃ kk : Hp, rv = (AV.tuple [wk1, (vi r.2)]) ∧ (Eng.Rows (rP (rU .u8) rY) Gk kk Lk3 r.1) ∧ Eng.Sep (OwnO 2 wk1 r.1.length Lk3 :: Frz Gk kk :: Frz (Low h) h :: []) rh) rv rh := by
  have S : Eng.Sep [Frz (Low h) h] h := Sep.start h
  unfold split_p at hp
  refine fwalk_ok (K := (fun (rv : AV) (rh : Hp) => ∃ wk1 : AV, ∃ Lk3 : List AV, ∃ Gk : Nat → Prop, ∃ kk : Hp, rv = (AV.tuple [wk1, (vi r.2)]) ∧ (Eng.Rows (rP (rU .u8) rY) Gk kk Lk3 r.1) ∧ Eng.Sep (OwnO 2 wk1 r.1.length Lk3 :: Frz Gk kk :: Frz (Low h) h :: []) rh)) (o := (.tell 3 (vi l.length) (.fork 1 .fin (.tell 1 (partS wl_1 0 8) (.tell 0 (AV.str (l.take 8)) (.fork 1 .fin (.tell 2 (partS wl_1 8 l.length) (.dis 2 (.exi 0 fun (A0o7 : List Nat) => (.exi 0 fun (A2o7 : List Nat) => (.exi 0 fun (A3o7 : Nat) => (.exi 0 fun (A4o7 : List (Nat × List Nat)) => (.exi 0 fun (A5o7 : Int) => (.exi 0 fun (wA0_1o7 : AV) => (.exi 0 fun (wA2_1o7 : AV) => (.exi 0 fun (wA4o7 : AV) => (.exi 0 fun (t10 : T) => (.exi 0 fun (h11 : Hp) => (.lp 0 (.exit 1 (ovT [(0, wA0_1o7), (2, wA2_1o7), (3, (vi A3o7)), (4, wA4o7), (5, (AV.int .i64 A5o7))] t10) h11) .fin))))))))))) (.exi 0 fun (y14 : List (Nat × List Nat) × Nat) => (.exi 0 fun (v2o7 : AV) => (.exi 0 fun (v3o7 : AV) => (.exi 0 fun (t12 : T) => (.exi 0 fun (h13 : Hp) => (.lp 0 (.ret (ovT [(2, v2o7), (3, v3o7)] t12) h13) .fin)))))))))))))) (p := (fun (KK : AV → Hp → Prop) => ((evQ (.lenL (.const wl_1)) .lf H0 = .ok (vi l.length) ∧ ((ltI (Int.ofNat l.length) (Int.ofNat 8) = true → KK (AV.tuple [AV.nilSlice, (vi 3)]) h) ∧ (ltI (Int.ofNat l.length) (Int.ofNat 8) = false → ((evQ (.sliceSl 1 (.const wl_1) none (some (.const (vi 8))) none) .lf H0 = .ok (partS wl_1 0 8) ∧ ((evQ (.toStr (.const (partS wl_1 0 8))) .lf h = .ok (AV.str (l.take 8)) ∧ ((notB (strEq (l.take 8) [0, 97, 115, 109, 1, 0, 0, 0]) = true → KK (AV.tuple [AV.nilSlice, (vi 2)]) h) ∧ (notB (strEq (l.take 8) [0, 97, 115, 109, 1, 0, 0, 0]) = false → ((evQ (.sliceSl 1 (.const wl_1) (some (.const (vi 8))) none none) .lf H0 = .ok (partS wl_1 8 l.length) ∧ ((∃ A0o7 : List Nat, ∃ A2o7 : List Nat, ∃ A3o7 : Nat, ∃ A4o7 : List (Nat × List Nat), ∃ A5o7 : Int, ∃ wA0_1o7 : AV, ∃ wA2_1o7 : AV, ∃ wA4o7 : AV, ∃ t10 : T, ∃ h11 : Hp, (evC call N (.loop split_l1C) (ovT [(0, (partS wl_1 8 l.length)), (2, AV.nilSlice), (3, (vi 0)), (4, AV.nilSlice), (5, (AV.int .i64 (Int.negSucc 0))), (11, (AV.bool false)), (12, wl_1), (13, (vi l.length)), (14, (AV.bool (ltI (Int.ofNat l.length) (Int.ofNat 8)))), (15, (AV.bool false)), (16, wl_1), (17, (partS wl_1 0 8)), (18, (AV.str (l.take 8))), (19, (AV.bool (notB (strEq (l.take 8) [0, 97, 115, 109, 1, 0, 0, 0])))), (20, wl_1), (21, (partS wl_1 8 l.length))] .lf) h = (.exit 1 (ovT [(0, wA0_1o7), (2, wA2_1o7), (3, (vi A3o7)), (4, wA4o7), (5, (AV.int .i64 A5o7))] t10) h11) ∧ True ∧ KK (AV.tuple [wA4o7, (vi 0)]) h11)) ∨ (∃ y14 : List (Nat × List Nat) × Nat, ∃ v2o7 : AV, ∃ v3o7 : AV, ∃ t12 : T, ∃ h13 : Hp, (evC call N (.loop split_l1C) (ovT [(0, (partS wl_1 8 l.length)), (2, AV.nilSlice), (3, (vi 0)), (4, AV.nilSlice), (5, (AV.int .i64 (Int.negSucc 0))), (11, (AV.bool false)), (12, wl_1), (13, (vi l.length)), (14, (AV.bool (ltI (Int.ofNat l.length) (Int.ofNat 8)))), (15, (AV.bool false)), (16, wl_1), (17, (partS wl_1 0 8)), (18, (AV.str (l.take 8))), (19, (AV.bool (notB (strEq (l.take 8) [0, 97, 115, 109, 1, 0, 0, 0])))), (20, wl_1), (21, (partS wl_1 8 l.length))] .lf) h = (.ret (ovT [(2, v2o7), (3, v3o7)] t12) h13) ∧ True ∧ KK (AV.tuple [v2o7, v3o7]) h13)))))))))))))))) (fun (rv : AV) (rh : Hp) => ∃ wk1 : AV, ∃ Lk3 : List AV, ∃ Gk : Nat → Prop, ∃ kk : Hp, rv = (AV.tuple [wk1, (vi r.2)]) ∧ (Eng.Rows (rP (rU .u8) rY) Gk kk Lk3 r.1) ∧ Eng.Sep (OwnO 2 wk1 r.1.length Lk3 :: Frz Gk kk :: Frz (Low h) h :: []) rh)) (by kernel_rfl) ?_
  refine ⟨q_len (BIn.now S (i := 0) rfl fl_2), ?_⟩
  refine ⟨fun c1 => ?_, fun c1 => ?_⟩
  · replace c1 := ltI_t c1
    replace hp := ift hp c1
    have S2 := S.empty
    have S3 := own_nil S2 2
    obtain rfl := Option.some.inj hp
    exact ⟨AV.nilSlice, [], (fun _ => False), h, rfl, (own_rows_nil _ _ _), S3⟩
  replace c1 := ltI_f c1
  replace hp := iff0 hp (nltO c1)
  refine ⟨q_sliceTo (l := l) (BIn.now S (i := 0) rfl fl_2) c1, ?_⟩
  have b2 := BIn.to (l := l) (hi := 8) fl_2 c1
  refine ⟨q_toStr (BIn.now S (i := 0) rfl b2), ?_⟩
  refine ⟨fun c3 => ?_, fun c3 => ?_⟩
  · replace c3 := strEq_f (notB_t c3)
    replace hp := ift hp c3
    have S4 := S.empty
    have S5 := own_nil S4 2
    obtain rfl := Option.some.inj hp
    exact ⟨AV.nilSlice, [], (fun _ => False), h, rfl, (own_rows_nil _ _ _), S5⟩
  replace c3 := strEq_t (notB_f c3)
  replace hp := iff0 hp (nneO c3)
  refine ⟨q_sliceFrom (l := l) (BIn.now S (i := 0) rfl fl_2) c1, ?_⟩
  have b4 := BIn.from (l := l) (lo := 8) fl_2 c1
  have S5 := S.empty
  have S6 := own_nil S5 2
  have ⟨o7, hb8, hp⟩ := ob_inv hp
  rcases split_l1_t  h_U32 h_place h_clone h_named (o := o7) (n := 90000) (A0 := l.drop 8) (A2 := ([] : List Nat)) (A3 := 0) (A4 := ([] : List (Nat × List Nat))) (A5 := (-1 : Int)) (wA0_1 := (partS wl_1 8 l.length)) (wA2_1 := AV.nilSlice) (wA4 := AV.nilSlice) (LA4 := []) (G_101 := (fun _ => False)) (k_101 := h) ⟨hb8, b4, BIn.nil, (own_rows_nil _ _ _), (Up.refl _ _), S6⟩ hN hN (t := (ovT [(0, (partS wl_1 8 l.length)), (2, AV.nilSlice), (3, (vi 0)), (4, AV.nilSlice), (5, (AV.int .i64 (Int.negSucc 0))), (11, (AV.bool false)), (12, wl_1), (13, (vi l.length)), (14, (AV.bool (ltI (Int.ofNat l.length) (Int.ofNat 8)))), (15, (AV.bool false)), (16, wl_1), (17, (partS wl_1 0 8)), (18, (AV.str (l.take 8))), (19, (AV.bool (notB (strEq (l.take 8) [0, 97, 115, 109, 1, 0, 0, 0])))), (20, wl_1), (21, (partS wl_1 8 l.length))] .lf)) (show slots [0, 2, 3, 4, 5] _ = [some (partS wl_1 8 l.length), some AV.nilSlice, some (vi 0), some AV.nilSlice, some (AV.int .i64 (Int.negSucc 0))] by kernel_rfl) with ⟨io7, ⟨_, A0o7, A2o7, A3o7, A4o7, A5o7, wA0_1o7, wA2_1o7, wA4o7, LA4o7, G_101o7, k_101o7⟩, t10, h11, qo7, wo7, zo7⟩ | ⟨t12, h13, qo7, zo7⟩
  · obtain ⟨jo7, zo7⟩ := zo7
    subst jo7
    replace zo7 := zo7 rfl
    obtain ⟨uo7, fA0_2o7, fA2_2o7, fA4o7, fU_101o7, So7⟩ := zo7
    replace uo7 := uo7.symm
    subst uo7
    replace hp := LO.on_ex.symm.trans hp
    try dsimp only at hp
    refine Or.inl ⟨A0o7, A2o7, A3o7, A4o7, A5o7, wA0_1o7, wA2_1o7, wA4o7, t10, h11, (qo7.trans (congrArg (fun t => RS.exit 1 t h11) (ovT_eq wo7).symm)), trivial, ?_⟩
    obtain rfl := Option.some.inj hp
    exact ⟨wA4o7, LA4o7, G_101o7, k_101o7, rfl, fA4o7, So7⟩
  obtain ⟨y14, v2o7, v3o7, uo7, go7_2, go7_3, Ko7⟩ := zo7
  replace uo7 := uo7.symm
  subst uo7
  replace go7_2 : tget (pathOf 2) t12 = some v2o7 := Option.some.inj go7_2
  replace go7_3 : tget (pathOf 3) t12 = some v3o7 := Option.some.inj go7_3
  replace hp := LO.on_rt.symm.trans hp
  try dsimp only at hp
  refine Or.inr ⟨y14, v2o7, v3o7, t12, h13, (qo7.trans (congrArg (fun t => RS.ret t h13) (ovT_eq (l := [(2, v2o7), (3, v3o7)]) (by show [tget (pathOf 2) t12, tget (pathOf 3) t12] = _; rw [go7_2, go7_3]; rfl)).symm)), trivial, ?_⟩
  obtain rfl := Option.some.inj hp
  exact Ko7
def C_split (call : CallT) : Prop := ∀ {h : Hp} {wl_1 : AV} {l : List Nat} (fl_2 : BIn (Low h) h wl_1 l) {r : List (Nat × List Nat) × Nat}, split_p l = some r → ∃ rv rh, call 35 [wl_1] h = .ok rv rh ∧ ∃ wk1 : AV, ∃ Lk3 : List AV, ∃ Gk : Nat → Prop, ∃ kk : Hp, rv = (AV.tuple [wk1, (vi r.2)]) ∧ (Eng.Rows (rP (rU .u8) rY) Gk kk Lk3 r.1) ∧ Eng.Sep (OwnO 2 wk1 r.1.length Lk3 :: Frz Gk kk :: Frz (Low h) h :: []) rh
theorem s_split (d : Nat) : C_split (CC (d + 5)) := by
  intro h wl_1 l fl_2 r hp
  rw [CC, evF_at (sumT_none rfl)]
  exact split_w (call := CC (d + 4)) (N := 100000) fl_2 (s_U32 (d + 1)) (s_place (d + 2)) (s_clone (d + 3)) (s_named (d + 0)) (by decide) hp
end Go.Proofs.Ytejiebbbodealaa
end
section
set_option linter.unusedVariables false
namespace Go.Proofs.Ytejiebbbodealaa
set_option linter.unusedVariables false
set_option linter.unusedSimpArgs false
open Go Eng
noncomputable def rank_p (x : Nat) : Option (Nat) :=
  (if x = 12 then (some 95) else
    (gd (x * 10 < 9223372036854775808) (some (x * 10))))
def C_rank (call : CallT) : Prop := ∀ {h : Hp} {x : Nat} (fx_1 : x < 256) {r : Nat}, rank_p x = some r → ∃ rv rh, call 62 [(vb8 x)] h = .ok rv rh ∧ rv = (vi r) ∧ Eng.Sep (Frz (Low h) h :: []) rh
noncomputable def rutf8_l2 (B0 : List Nat) (B3 : Nat) : Nat → Bool → Nat → Nat → Option (LO (Bool × Nat × Nat) (Bool))
  | 0, _, _, _ => none
  | m + 1, A2, A5, A6 =>
    (if A6 < B3 then (gd (A6 < B0.length) (if (B0.getD A6 0) &&& 192 ≠ 128 then (some (LO.rt false)) else
    (gd (A6 + 1 < 9223372036854775808) (rutf8_l2 B0 B3 m A2 ((A5 * 2 ^ 6 % 4294967296) ||| ((B0.getD A6 0) &&& 63)) (A6 + 1))))) else
    (some (LO.ex (A2, A5, A6))))
noncomputable def rutf8_l2C : AC := (.seq (.seq (.region [⟨(some 56), .q (.move (.tmp 6)), none⟩, ⟨(some 57), .q (.move (.tmp 3)), none⟩, ⟨(some 58), .q (.bin .lss (.tmp 56) (.tmp 57)), none⟩]) (.cond (.tmp 58) .skip (.exit 3))) (.seq (.block 4 (.seq (.seq (.region [⟨(some 61), .q (.move (.tmp 0)), none⟩, ⟨(some 62), .q (.move (.tmp 6)), none⟩, ⟨(some 63), .q (.idxAddrSl 1 (.tmp 61) (.tmp 62)), none⟩, ⟨(some 64), .q (.loadS (.tmp 63)), none⟩, ⟨(some 65), .q (.bin .and (.tmp 64) (.const (vb8 192))), none⟩, ⟨(some 66), .q (.eq .int true (.tmp 65) (.const (vb8 128))), none⟩]) (.cond (.tmp 66) (.seq (.region [⟨(some 2), .q (.move (.const (AV.bool false))), none⟩]) .ret) .skip)) (.region [⟨(some 67), .q (.move (.tmp 5)), none⟩, ⟨(some 68), .q (.bin .shl (.tmp 67) (.const (vq 6))), none⟩, ⟨(some 69), .q (.move (.tmp 0)), none⟩, ⟨(some 70), .q (.move (.tmp 6)), none⟩, ⟨(some 71), .q (.idxAddrSl 1 (.tmp 69) (.tmp 70)), none⟩, ⟨(some 72), .q (.loadS (.tmp 71)), none⟩, ⟨(some 73), .q (.bin .and (.tmp 72) (.const (vb8 63))), none⟩, ⟨(some 74), .q (.toInt .u32 (.tmp 73)), none⟩, ⟨(some 75), .q (.bin .or (.tmp 68) (.tmp 74)), none⟩, ⟨(some 5), .q (.move (.tmp 75)), none⟩]))) (.region [⟨(some 59), .q (.move (.tmp 6)), none⟩, ⟨(some 60), .q (.bin .add (.tmp 59) (.const (vi 1))), none⟩, ⟨(some 6), .q (.move (.tmp 60)), none⟩])))
noncomputable def rutf8_l1  : Nat → List Nat → Bool → Option (LO (List Nat × Bool) (Bool))
  | 0, _, _ => none
  | m + 1, A0, A2 =>
    (if 0 < A0.length then (if A0.getD 0 0 < 128 then (if A0.length < 1 then (some (LO.rt false)) else
    (ob (rutf8_l2 A0 1 90000 A2 (A0.getD 0 0) 1) fun o7 =>
    (LO.on o7 (fun s_o7 => (rutf8_l1  m (A0.drop 1) s_o7.1)) (fun y14 =>
    (some (LO.rt y14)))))) else
    (if 194 ≤ A0.getD 0 0 then (if A0.getD 0 0 < 224 then (if A0.length < 2 then (some (LO.rt false)) else
    (ob (rutf8_l2 A0 2 90000 A2 ((A0.getD 0 0) &&& 31) 1) fun o10 =>
    (LO.on o10 (fun s_o10 => (rutf8_l1  m (A0.drop 2) s_o10.1)) (fun y17 =>
    (some (LO.rt y17)))))) else
    (if A0.getD 0 0 < 240 then (if A0.length < 3 then (some (LO.rt false)) else
    (ob (rutf8_l2 A0 3 90000 A2 ((A0.getD 0 0) &&& 15) 1) fun o11 =>
    (LO.on o11 (fun s_o11 => (if s_o11.2.1 < 2048 then (some (LO.rt false)) else
    (if 55296 ≤ s_o11.2.1 then (if s_o11.2.1 < 57344 then (some (LO.rt false)) else
    (rutf8_l1  m (A0.drop 3) s_o11.1)) else
    (rutf8_l1  m (A0.drop 3) s_o11.1)))) (fun y18 =>
    (some (LO.rt y18)))))) else
    (if A0.getD 0 0 < 245 then (if A0.length < 4 then (some (LO.rt false)) else
    (ob (rutf8_l2 A0 4 90000 A2 ((A0.getD 0 0) &&& 7) 1) fun o12 =>
    (LO.on o12 (fun s_o12 => (if s_o12.2.1 < 65536 then (some (LO.rt false)) else
    (if 1114111 < s_o12.2.1 then (some (LO.rt false)) else
    (rutf8_l1  m (A0.drop 4) s_o12.1)))) (fun y19 =>
    (some (LO.rt y19)))))) else
    (some (LO.rt false))))) else
    (if 224 ≤ A0.getD 0 0 then (if A0.getD 0 0 < 240 then (if A0.length < 3 then (some (LO.rt false)) else
    (ob (rutf8_l2 A0 3 90000 A2 ((A0.getD 0 0) &&& 15) 1) fun o11 =>
    (LO.on o11 (fun s_o11 => (if s_o11.2.1 < 2048 then (some (LO.rt false)) else
    (if 55296 ≤ s_o11.2.1 then (if s_o11.2.1 < 57344 then (some (LO.rt false)) else
    (rutf8_l1  m (A0.drop 3) s_o11.1)) else
    (rutf8_l1  m (A0.drop 3) s_o11.1)))) (fun y18 =>
    (some (LO.rt y18)))))) else
    (if A0.getD 0 0 < 245 then (if A0.length < 4 then (some (LO.rt false)) else
    (ob (rutf8_l2 A0 4 90000 A2 ((A0.getD 0 0) &&& 7) 1) fun o12 =>
    (LO.on o12 (fun s_o12 => (if s_o12.2.1 < 65536 then (some (LO.rt false)) else
    (if 1114111 < s_o12.2.1 then (some (LO.rt false)) else
    (rutf8_l1  m (A0.drop 4) s_o12.1)))) (fun y19 =>
    (some (LO.rt y19)))))) else
    (some (LO.rt false)))) else
    (if 240 ≤ A0.getD 0 0 then (if A0.getD 0 0 < 245 then (if A0.length < 4 then (some (LO.rt false)) else
    (ob (rutf8_l2 A0 4 90000 A2 ((A0.getD 0 0) &&& 7) 1) fun o12 =>
    (LO.on o12 (fun s_o12 => (if s_o12.2.1 < 65536 then (some (LO.rt false)) else
    (if 1114111 < s_o12.2.1 then (some (LO.rt false)) else
    (rutf8_l1  m (A0.drop 4) s_o12.1)))) (fun y19 =>
    (some (LO.rt y19)))))) else
    (some (LO.rt false))) else
    (some (LO.rt false)))))) else
    (some (LO.ex (A0, A2))))
noncomputable def rutf8_l1C : AC := (.seq (.seq (.region [⟨(some 7), .q (.move (.tmp 0)), none⟩, ⟨(some 8), .q (.lenL (.tmp 7)), none⟩, ⟨(some 9), .q (.bin .gtr (.tmp 8) (.const (vi 0))), none⟩]) (.cond (.tmp 9) .skip (.exit 0))) (.block 1 (.seq (.region [⟨(some 3), .q (.move (.const (vi 0))), none⟩]) (.seq (.seq (.region [⟨(some 10), .q (.move (.tmp 0)), none⟩, ⟨(some 11), .q (.idxAddrSl 1 (.tmp 10) (.const (vi 0))), none⟩, ⟨(some 12), .q (.loadS (.tmp 11)), none⟩, ⟨(some 4), .q (.move (.tmp 12)), none⟩]) (.block 2 (.seq (.region [⟨(some 14), .q (.move (.tmp 4)), none⟩, ⟨(some 15), .q (.bin .lss (.tmp 14) (.const (vb8 128))), none⟩, ⟨(some 13), .q (.move (.tmp 15)), none⟩]) (.cond (.tmp 13) (.region [⟨(some 3), .q (.move (.const (vi 1))), none⟩]) (.seq (.region [⟨(some 17), .q (.move (.tmp 4)), none⟩, ⟨(some 18), .q (.bin .geq (.tmp 17) (.const (vb8 194))), none⟩, ⟨(some 19), .q (.move (.tmp 18)), none⟩, ⟨(some 20), .q (.move (.tmp 4)), (some (19, true))⟩, ⟨(some 21), .q (.bin .lss (.tmp 20) (.const (vb8 224))), (some (19, true))⟩, ⟨(some 22), .q (.pick (.tmp 19) (.tmp 21) (.const (AV.bool false))), none⟩, ⟨(some 16), .q (.move (.tmp 22)), none⟩]) (.cond (.tmp 16) (.region [⟨(some 3), .q (.move (.const (vi 2))), none⟩]) (.seq (.region [⟨(some 24), .q (.move (.tmp 4)), none⟩, ⟨(some 25), .q (.bin .geq (.tmp 24) (.const (vb8 224))), none⟩, ⟨(some 26), .q (.move (.tmp 25)), none⟩, ⟨(some 27), .q (.move (.tmp 4)), (some (26, true))⟩, ⟨(some 28), .q (.bin .lss (.tmp 27) (.const (vb8 240))), (some (26, true))⟩, ⟨(some 29), .q (.pick (.tmp 26) (.tmp 28) (.const (AV.bool false))), none⟩, ⟨(some 23), .q (.move (.tmp 29)), none⟩]) (.cond (.tmp 23) (.region [⟨(some 3), .q (.move (.const (vi 3))), none⟩]) (.seq (.region [⟨(some 31), .q (.move (.tmp 4)), none⟩, ⟨(some 32), .q (.bin .geq (.tmp 31) (.const (vb8 240))), none⟩, ⟨(some 33), .q (.move (.tmp 32)), none⟩, ⟨(some 34), .q (.move (.tmp 4)), (some (33, true))⟩, ⟨(some 35), .q (.bin .lss (.tmp 34) (.const (vb8 245))), (some (33, true))⟩, ⟨(some 36), .q (.pick (.tmp 33) (.tmp 35) (.const (AV.bool false))), none⟩, ⟨(some 30), .q (.move (.tmp 36)), none⟩]) (.cond (.tmp 30) (.region [⟨(some 3), .q (.move (.const (vi 4))), none⟩]) .skip)))))))))) (.seq (.seq (.region [⟨(some 37), .q (.move (.tmp 3)), none⟩, ⟨(some 38), .q (.eq .int false (.tmp 37) (.const (vi 0))), none⟩, ⟨(some 39), .q (.move (.tmp 38)), none⟩, ⟨(some 40), .q (.move (.tmp 0)), (some (39, false))⟩, ⟨(some 41), .q (.lenL (.tmp 40)), (some (39, false))⟩, ⟨(some 42), .q (.move (.tmp 3)), (some (39, false))⟩, ⟨(some 43), .q (.bin .lss (.tmp 41) (.tmp 42)), (some (39, false))⟩, ⟨(some 44), .q (.pick (.tmp 39) (.const (AV.bool true)) (.tmp 43)), none⟩]) (.cond (.tmp 44) (.seq (.region [⟨(some 2), .q (.move (.const (AV.bool false))), none⟩]) .ret) .skip)) (.seq (.region [⟨(some 45), .q (.move (.tmp 0)), none⟩, ⟨(some 46), .q (.idxAddrSl 1 (.tmp 45) (.const (vi 0))), none⟩, ⟨(some 47), .q (.loadS (.tmp 46)), none⟩, ⟨(some 48), .q (.toInt .u32 (.tmp 47)), none⟩, ⟨(some 5), .q (.move (.tmp 48)), none⟩]) (.seq (.seq (.region [⟨(some 49), .q (.move (.tmp 3)), none⟩, ⟨(some 50), .q (.bin .gtr (.tmp 49) (.const (vi 1))), none⟩]) (.cond (.tmp 50) (.region [⟨(some 51), .q (.move (.tmp 5)), none⟩, ⟨(some 52), .q (.move (.tmp 3)), none⟩, ⟨(some 53), .q (.bin .add (.tmp 52) (.const (vi 1))), none⟩, ⟨(some 54), .q (.bin .shr (.const (vw 255)) (.tmp 53)), none⟩, ⟨(some 55), .q (.bin .and (.tmp 51) (.tmp 54)), none⟩, ⟨(some 5), .q (.move (.tmp 55)), none⟩]) .skip)) (.seq (.seq (.region [⟨(some 6), .q (.move (.const (vi 1))), none⟩]) (.block 3 (.loop (.seq (.seq (.region [⟨(some 56), .q (.move (.tmp 6)), none⟩, ⟨(some 57), .q (.move (.tmp 3)), none⟩, ⟨(some 58), .q (.bin .lss (.tmp 56) (.tmp 57)), none⟩]) (.cond (.tmp 58) .skip (.exit 3))) (.seq (.block 4 (.seq (.seq (.region [⟨(some 61), .q (.move (.tmp 0)), none⟩, ⟨(some 62), .q (.move (.tmp 6)), none⟩, ⟨(some 63), .q (.idxAddrSl 1 (.tmp 61) (.tmp 62)), none⟩, ⟨(some 64), .q (.loadS (.tmp 63)), none⟩, ⟨(some 65), .q (.bin .and (.tmp 64) (.const (vb8 192))), none⟩, ⟨(some 66), .q (.eq .int true (.tmp 65) (.const (vb8 128))), none⟩]) (.cond (.tmp 66) (.seq (.region [⟨(some 2), .q (.move (.const (AV.bool false))), none⟩]) .ret) .skip)) (.region [⟨(some 67), .q (.move (.tmp 5)), none⟩, ⟨(some 68), .q (.bin .shl (.tmp 67) (.const (vq 6))), none⟩, ⟨(some 69), .q (.move (.tmp 0)), none⟩, ⟨(some 70), .q (.move (.tmp 6)), none⟩, ⟨(some 71), .q (.idxAddrSl 1 (.tmp 69) (.tmp 70)), none⟩, ⟨(some 72), .q (.loadS (.tmp 71)), none⟩, ⟨(some 73), .q (.bin .and (.tmp 72) (.const (vb8 63))), none⟩, ⟨(some 74), .q (.toInt .u32 (.tmp 73)), none⟩, ⟨(some 75), .q (.bin .or (.tmp 68) (.tmp 74)), none⟩, ⟨(some 5), .q (.move (.tmp 75)), none⟩]))) (.region [⟨(some 59), .q (.move (.tmp 6)), none⟩, ⟨(some 60), .q (.bin .add (.tmp 59) (.const (vi 1))), none⟩, ⟨(some 6), .q (.move (.tmp 60)), none⟩])))))) (.seq (.seq (.region [⟨(some 76), .q (.move (.tmp 3)), none⟩, ⟨(some 77), .q (.eq .int false (.tmp 76) (.const (vi 3))), none⟩, ⟨(some 78), .q (.move (.tmp 77)), none⟩, ⟨(some 79), .q (.move (.tmp 5)), (some (78, true))⟩, ⟨(some 80), .q (.bin .lss (.tmp 79) (.const (vw 2048))), (some (78, true))⟩, ⟨(some 81), .q (.move (.tmp 80)), (some (78, true))⟩, ⟨(some 82), .q (.move (.tmp 5)), (some (81, false))⟩, ⟨(some 83), .q (.bin .geq (.tmp 82) (.const (vw 55296))), (some (81, false))⟩, ⟨(some 84), .q (.move (.tmp 83)), (some (81, false))⟩, ⟨(some 85), .q (.move (.tmp 5)), (some (84, true))⟩, ⟨(some 86), .q (.bin .lss (.tmp 85) (.const (vw 57344))), (some (84, true))⟩, ⟨(some 87), .q (.pick (.tmp 84) (.tmp 86) (.const (AV.bool false))), (some (81, false))⟩, ⟨(some 88), .q (.pick (.tmp 81) (.const (AV.bool true)) (.tmp 87)), (some (78, true))⟩, ⟨(some 89), .q (.pick (.tmp 78) (.tmp 88) (.const (AV.bool false))), none⟩, ⟨(some 90), .q (.move (.tmp 89)), none⟩, ⟨(some 91), .q (.move (.tmp 3)), (some (90, false))⟩, ⟨(some 92), .q (.eq .int false (.tmp 91) (.const (vi 4))), (some (90, false))⟩, ⟨(some 93), .q (.move (.tmp 92)), (some (90, false))⟩, ⟨(some 94), .q (.move (.tmp 5)), (some (93, true))⟩, ⟨(some 95), .q (.bin .lss (.tmp 94) (.const (vw 65536))), (some (93, true))⟩, ⟨(some 96), .q (.move (.tmp 95)), (some (93, true))⟩, ⟨(some 97), .q (.move (.tmp 5)), (some (96, false))⟩, ⟨(some 98), .q (.bin .gtr (.tmp 97) (.const (vw 1114111))), (some (96, false))⟩, ⟨(some 99), .q (.pick (.tmp 96) (.const (AV.bool true)) (.tmp 98)), (some (93, true))⟩, ⟨(some 100), .q (.pick (.tmp 93) (.tmp 99) (.const (AV.bool false))), (some (90, false))⟩, ⟨(some 101), .q (.pick (.tmp 90) (.const (AV.bool true)) (.tmp 100)), none⟩]) (.cond (.tmp 101) (.seq (.region [⟨(some 2), .q (.move (.const (AV.bool false))), none⟩]) .ret) .skip)) (.region [⟨(some 102), .q (.move (.tmp 0)), none⟩, ⟨(some 103), .q (.move (.tmp 3)), none⟩, ⟨(some 104), .q (.sliceSl 1 (.tmp 102) (some (.tmp 103)) none none), none⟩, ⟨(some 0), .q (.move (.tmp 104)), none⟩]))))))))))
noncomputable def rutf8_p (l : List Nat) : Option (Bool) :=
  (ob (rutf8_l1  90000 l false) fun o1 =>
    (LO.on o1 (fun s_o1 => (some true)) (fun y8 =>
    (some y8))))
def C_rutf8 (call : CallT) : Prop := ∀ {h : Hp} {wl_1 : AV} {l : List Nat} (fl_2 : BIn (Low h) h wl_1 l) {r : Bool}, rutf8_p l = some r → ∃ rv rh, call 38 [wl_1] h = .ok rv rh ∧ rv = (AV.bool r) ∧ Eng.Sep (Frz (Low h) h :: []) rh
noncomputable def rbyte_p (rb : List Nat) (re : Nat) : Option (List Nat × Nat × Nat) :=
  (if re = 0 then (if rb.length = 0 then (some (rb, 3, 0)) else
    (gd (0 < rb.length) (gd (1 ≤ rb.length) (some (rb.drop 1, re, rb.getD 0 0))))) else
    (some (rb, re, 0)))
def C_rbyte (call : CallT) : Prop := ∀ {h : Hp} {h0 : Hp} {G : Nat → Prop} {R : List AObj} {b : Nat} {rest : List AV} {wrb_1 : AV} {rb : List Nat} {re : Nat} (frb_2 : BIn G h0 wrb_1 rb) {r : List Nat × Nat × Nat}, rbyte_p rb re = some r → Eng.Sep (Cel b (wrb_1 :: (vi re) :: rest) :: Frz G h0 :: R) h → ∃ rv rh, call 61 [(AV.ptr b 0)] h = .ok rv rh ∧ ∃ wk2 : AV, rv = (vb8 r.2.2) ∧ (r.2.2 < 256) ∧ (BIn G h0 wk2 r.1) ∧ Eng.Sep (Cel b (wk2 :: (vi r.2.1) :: rest) :: Frz G h0 :: R) rh
noncomputable def rfail_p (rb : List Nat) (re : Nat) (e : Nat) : Option (List Nat × Nat) :=
  (if re = 0 then (some (rb, e)) else
    (some (rb, re)))
def C_rfail (call : CallT) : Prop := ∀ {h : Hp} {h0 : Hp} {G : Nat → Prop} {R : List AObj} {b : Nat} {rest : List AV} {wrb_1 : AV} {rb : List Nat} {re : Nat} {e : Nat} (frb_2 : BIn G h0 wrb_1 rb) {r : List Nat × Nat}, rfail_p rb re e = some r → Eng.Sep (Cel b (wrb_1 :: (vi re) :: rest) :: Frz G h0 :: R) h → ∃ rv rh, call 65 [(AV.ptr b 0), (vi e)] h = .ok rv rh ∧ ∃ wk1 : AV, rv = (AV.tuple []) ∧ (BIn G h0 wk1 r.1) ∧ Eng.Sep (Cel b (wk1 :: (vi r.2) :: rest) :: Frz G h0 :: R) rh
noncomputable def rnum32_p (rb : List Nat) (re : Nat) : Option (List Nat × Nat × Nat) :=
  (if re ≠ 0 then (some (rb, re, 0)) else
    (gd (rb.length < 90000) (ob (some (readG 32 false rb 0 0 0)) fun x3 =>
    (gd (x3.2.1 ≤ rb.length) (some (rb.drop x3.2.1, x3.2.2, x3.1))))))
def C_rnum32 (call : CallT) : Prop := ∀ {h : Hp} {h0 : Hp} {G : Nat → Prop} {R : List AObj} {b : Nat} {rest : List AV} {wrb_1 : AV} {rb : List Nat} {re : Nat} (frb_2 : BIn G h0 wrb_1 rb) {r : List Nat × Nat × Nat}, rnum32_p rb re = some r → Eng.Sep (Cel b (wrb_1 :: (vi re) :: rest) :: Frz G h0 :: R) h → ∃ rv rh, call 77 [(AV.ptr b 0), (vi 32), (AV.bool false)] h = .ok rv rh ∧ ∃ wk2 : AV, rv = (vq r.2.2) ∧ (r.2.2 < 18446744073709551616) ∧ (BIn G h0 wk2 r.1) ∧ Eng.Sep (Cel b (wk2 :: (vi r.2.1) :: rest) :: Frz G h0 :: R) rh
noncomputable def ru32_p (rb : List Nat) (re : Nat) : Option (List Nat × Nat × Nat) :=
  (ob (rnum32_p rb re) fun x1 =>
    (some (x1.1, x1.2.1, x1.2.2 % 4294967296)))
def C_ru32 (call : CallT) : Prop := ∀ {h : Hp} {h0 : Hp} {G : Nat → Prop} {R : List AObj} {b : Nat} {rest : List AV} {wrb_1 : AV} {rb : List Nat} {re : Nat} (frb_2 : BIn G h0 wrb_1 rb) {r : List Nat × Nat × Nat}, ru32_p rb re = some r → Eng.Sep (Cel b (wrb_1 :: (vi re) :: rest) :: Frz G h0 :: R) h → ∃ rv rh, call 63 [(AV.ptr b 0)] h = .ok rv rh ∧ ∃ wk2 : AV, rv = (vw r.2.2) ∧ (r.2.2 < 4294967296) ∧ (BIn G h0 wk2 r.1) ∧ Eng.Sep (Cel b (wk2 :: (vi r.2.1) :: rest) :: Frz G h0 :: R) rh
noncomputable def rtake_p (rb : List Nat) (re : Nat) (x : Nat) : Option (List Nat × Nat × List Nat) :=
  (if re = 0 then (gd (rb.length < 9223372036854775808) (if rb.length < x then (some (rb, 3, [])) else
    (gd (0 + ((rb.take x).length) ≤ 70368744177664) (some (rb.drop x, re, rb.take x))))) else
    (some (rb, re, [])))
def C_rtake (call : CallT) : Prop := ∀ {h : Hp} {h0 : Hp} {G : Nat → Prop} {R : List AObj} {b : Nat} {rest : List AV} {wrb_1 : AV} {rb : List Nat} {re : Nat} {x : Nat} (frb_2 : BIn G h0 wrb_1 rb) (fx_1 : x < 4294967296) {r : List Nat × Nat × List Nat}, rtake_p rb re x = some r → Eng.Sep (Cel b (wrb_1 :: (vi re) :: rest) :: Frz G h0 :: R) h → ∃ rv rh, call 64 [(AV.ptr b 0), (vw x)] h = .ok rv rh ∧ ∃ wk1 : AV, ∃ wk3 : AV, rv = wk1 ∧ (∀ x ∈ r.2.2, x < 256) ∧ (BIn G h0 wk3 r.1) ∧ Eng.Sep (OwnO 1 wk1 r.2.2.length (u8s r.2.2) :: Cel b (wk3 :: (vi r.2.1) :: rest) :: Frz G h0 :: R) rh
noncomputable def rsplit_l1  : Nat → List Nat → Nat → List (Nat × List Nat) → Nat → List Nat → Nat → Option (LO (List Nat × Nat × List (Nat × List Nat) × Nat × List Nat × Nat) (List (Nat × List Nat) × Nat))
  | 0, _, _, _, _, _, _ => none
  | m + 1, A2, A3, A5, A6, Q101_0, Q101_1 =>
    (if Q101_1 = 0 then (if 0 < Q101_0.length then (ob (rbyte_p Q101_0 Q101_1) fun x4 =>
    (if 12 < x4.2.2 then (some (LO.rt ([], 2))) else
    (if 0 < x4.2.2 then (ob (rank_p x4.2.2) fun x23 =>
    (if x23 ≤ A6 then (some (LO.rt ([], 2))) else
    (ob (ru32_p x4.1 x4.2.1) fun x36 =>
    (ob (rtake_p x36.1 x36.2.1 x36.2.2) fun x50 =>
    (if x50.2.1 ≠ 0 then (some (LO.ex (A2, A3, A5, A6, x50.1, x50.2.1))) else
    (if x4.2.2 = 0 then (ob (ru32_p x50.2.2 0) fun x72 =>
    (ob (rtake_p x72.1 x72.2.1 x72.2.2) fun x86 =>
    (if x86.2.1 ≠ 0 then (ob (rfail_p x50.1 x50.2.1 2) fun x103 =>
    (gd ((A5.length + 1) * 32 ≤ 70368744177664) (rsplit_l1  m A2 A3 (A5 ++ [(x4.2.2, x50.2.2)]) A6 x103.1 x103.2))) else
    (ob (rutf8_p x86.2.2) fun x102 =>
    (if x102 = false then (ob (rfail_p x50.1 x50.2.1 2) fun x115 =>
    (gd ((A5.length + 1) * 32 ≤ 70368744177664) (rsplit_l1  m A2 A3 (A5 ++ [(x4.2.2, x50.2.2)]) A6 x115.1 x115.2))) else
    (gd ((A5.length + 1) * 32 ≤ 70368744177664) (rsplit_l1  m A2 A3 (A5 ++ [(x4.2.2, x50.2.2)]) A6 x50.1 x50.2.1))))))) else
    (ob (rank_p x4.2.2) fun x69 =>
    (gd ((A5.length + 1) * 32 ≤ 70368744177664) (rsplit_l1  m A2 A3 (A5 ++ [(x4.2.2, x50.2.2)]) x69 x50.1 x50.2.1))))))))) else
    (ob (ru32_p x4.1 x4.2.1) fun x24 =>
    (ob (rtake_p x24.1 x24.2.1 x24.2.2) fun x38 =>
    (if x38.2.1 ≠ 0 then (some (LO.ex (A2, A3, A5, A6, x38.1, x38.2.1))) else
    (if x4.2.2 = 0 then (ob (ru32_p x38.2.2 0) fun x60 =>
    (ob (rtake_p x60.1 x60.2.1 x60.2.2) fun x74 =>
    (if x74.2.1 ≠ 0 then (ob (rfail_p x38.1 x38.2.1 2) fun x91 =>
    (gd ((A5.length + 1) * 32 ≤ 70368744177664) (rsplit_l1  m A2 A3 (A5 ++ [(x4.2.2, x38.2.2)]) A6 x91.1 x91.2))) else
    (ob (rutf8_p x74.2.2) fun x90 =>
    (if x90 = false then (ob (rfail_p x38.1 x38.2.1 2) fun x103 =>
    (gd ((A5.length + 1) * 32 ≤ 70368744177664) (rsplit_l1  m A2 A3 (A5 ++ [(x4.2.2, x38.2.2)]) A6 x103.1 x103.2))) else
    (gd ((A5.length + 1) * 32 ≤ 70368744177664) (rsplit_l1  m A2 A3 (A5 ++ [(x4.2.2, x38.2.2)]) A6 x38.1 x38.2.1))))))) else
    (ob (rank_p x4.2.2) fun x57 =>
    (gd ((A5.length + 1) * 32 ≤ 70368744177664) (rsplit_l1  m A2 A3 (A5 ++ [(x4.2.2, x38.2.2)]) x57 x38.1 x38.2.1)))))))))) else
    (some (LO.ex (A2, A3, A5, A6, Q101_0, Q101_1)))) else
    (some (LO.ex (A2, A3, A5, A6, Q101_0, Q101_1))))
noncomputable def rsplit_l1C : AC := (.seq (.seq (.region [⟨(some 23), .q (.move (.tmp 4)), none⟩, ⟨(some 24), .q (.nilCheck (.tmp 23)), none⟩, ⟨(some 25), .q (.fieldAddr 0 (.tmp 24)), none⟩, ⟨(some 26), .q (.fieldAddr 1 (.tmp 25)), none⟩, ⟨(some 27), .q (.loadS (.tmp 26)), none⟩, ⟨(some 28), .q (.eq .int false (.tmp 27) (.const (vi 0))), none⟩, ⟨(some 29), .q (.move (.tmp 28)), none⟩, ⟨(some 30), .q (.move (.tmp 4)), (some (29, true))⟩, ⟨(some 31), .q (.nilCheck (.tmp 30)), (some (29, true))⟩, ⟨(some 32), .q (.fieldAddr 0 (.tmp 31)), (some (29, true))⟩, ⟨(some 33), .q (.fieldAddr 0 (.tmp 32)), (some (29, true))⟩, ⟨(some 34), .q (.loadS (.tmp 33)), (some (29, true))⟩, ⟨(some 35), .q (.lenL (.tmp 34)), (some (29, true))⟩, ⟨(some 36), .q (.bin .gtr (.tmp 35) (.const (vi 0))), (some (29, true))⟩, ⟨(some 37), .q (.pick (.tmp 29) (.tmp 36) (.const (AV.bool false))), none⟩]) (.cond (.tmp 37) .skip (.exit 0))) (.block 1 (.seq (.region [⟨(some 38), .q (.move (.tmp 4)), none⟩, ⟨(some 39), .q (.nilCheck (.tmp 38)), none⟩, ⟨(some 40), .q (.fieldAddr 0 (.tmp 39)), none⟩, ⟨(some 41), .e (.call (.const (AV.func (.func 61) [] [])) [(.tmp 40)]), none⟩, ⟨(some 42), .q (.build [(vb8 0), AV.nilSlice] [(0, 1, (.tmp 41))]), none⟩, ⟨(some 7), .l (.alloc [(vb8 0), AV.nilSlice]), none⟩, ⟨none, .e (.store 2 (.tmp 7) (.tmp 42)), none⟩]) (.seq (.seq (.region [⟨(some 43), .q (.fieldAddr 0 (.tmp 7)), none⟩, ⟨(some 44), .q (.loadS (.tmp 43)), none⟩, ⟨(some 45), .q (.bin .gtr (.tmp 44) (.const (vb8 12))), none⟩, ⟨(some 46), .q (.move (.tmp 45)), none⟩, ⟨(some 47), .q (.fieldAddr 0 (.tmp 7)), (some (46, false))⟩, ⟨(some 48), .q (.loadS (.tmp 47)), (some (46, false))⟩, ⟨(some 49), .q (.bin .gtr (.tmp 48) (.const (vb8 0))), (some (46, false))⟩, ⟨(some 50), .q (.move (.tmp 49)), (some (46, false))⟩, ⟨(some 51), .q (.fieldAddr 0 (.tmp 7)), (some (50, true))⟩, ⟨(some 52), .q (.loadS (.tmp 51)), (some (50, true))⟩, ⟨(some 53), .e (.call (.const (AV.func (.func 62) [] [])) [(.tmp 52)]), (some (50, true))⟩, ⟨(some 54), .q (.move (.tmp 6)), (some (50, true))⟩, ⟨(some 55), .q (.bin .leq (.tmp 53) (.tmp 54)), (some (50, true))⟩, ⟨(some 56), .q (.pick (.tmp 50) (.tmp 55) (.const (AV.bool false))), (some (46, false))⟩, ⟨(some 57), .q (.pick (.tmp 46) (.const (AV.bool true)) (.tmp 56)), none⟩]) (.cond (.tmp 57) (.seq (.region [⟨(some 2), .q (.move (.const AV.nilSlice)), none⟩, ⟨(some 3), .q (.move (.const (vi 2))), none⟩]) .ret) .skip)) (.seq (.region [⟨(some 58), .q (.move (.tmp 4)), none⟩, ⟨(some 59), .q (.nilCheck (.tmp 58)), none⟩, ⟨(some 60), .q (.fieldAddr 0 (.tmp 59)), none⟩, ⟨(some 61), .e (.call (.const (AV.func (.func 63) [] [])) [(.tmp 60)]), none⟩, ⟨(some 8), .q (.move (.tmp 61)), none⟩]) (.seq (.region [⟨(some 62), .q (.move (.tmp 4)), none⟩, ⟨(some 63), .q (.nilCheck (.tmp 62)), none⟩, ⟨(some 64), .q (.fieldAddr 0 (.tmp 63)), none⟩, ⟨(some 65), .q (.move (.tmp 8)), none⟩, ⟨(some 66), .e (.call (.const (AV.func (.func 64) [] [])) [(.tmp 64), (.tmp 65)]), none⟩, ⟨(some 67), .q (.fieldAddr 1 (.tmp 7)), none⟩, ⟨none, .e (.store 1 (.tmp 67) (.tmp 66)), none⟩]) (.seq (.seq (.region [⟨(some 68), .q (.move (.tmp 4)), none⟩, ⟨(some 69), .q (.nilCheck (.tmp 68)), none⟩, ⟨(some 70), .q (.fieldAddr 0 (.tmp 69)), none⟩, ⟨(some 71), .q (.fieldAddr 1 (.tmp 70)), none⟩, ⟨(some 72), .q (.loadS (.tmp 71)), none⟩, ⟨(some 73), .q (.eq .int true (.tmp 72) (.const (vi 0))), none⟩]) (.cond (.tmp 73) (.exit 0) .skip)) (.seq (.block 2 (.seq (.region [⟨(some 78), .q (.fieldAddr 0 (.tmp 7)), none⟩, ⟨(some 79), .q (.loadS (.tmp 78)), none⟩, ⟨(some 80), .q (.eq .int false (.tmp 79) (.const (vb8 0))), none⟩, ⟨(some 77), .q (.move (.tmp 80)), none⟩]) (.cond (.tmp 77) (.seq (.region [⟨(some 81), .q (.fieldAddr 1 (.tmp 7)), none⟩, ⟨(some 82), .q (.loadS (.tmp 81)), none⟩, ⟨(some 83), .q (.build [AV.nilSlice, (vi 0)] [(0, 1, (.tmp 82))]), none⟩, ⟨(some 84), .l (.box (.tmp 83)), none⟩, ⟨(some 9), .q (.move (.tmp 84)), none⟩]) (.seq (.region [⟨(some 85), .q (.move (.tmp 9)), none⟩, ⟨(some 86), .q (.move (.tmp 9)), none⟩, ⟨(some 87), .e (.call (.const (AV.func (.func 63) [] [])) [(.tmp 86)]), none⟩, ⟨(some 88), .e (.call (.const (AV.func (.func 64) [] [])) [(.tmp 85), (.tmp 87)]), none⟩, ⟨(some 10), .q (.move (.tmp 88)), none⟩]) (.seq (.region [⟨(some 89), .q (.move (.tmp 9)), none⟩, ⟨(some 90), .q (.nilCheck (.tmp 89)), none⟩, ⟨(some 91), .q (.fieldAddr 1 (.tmp 90)), none⟩, ⟨(some 92), .q (.loadS (.tmp 91)), none⟩, ⟨(some 93), .q (.eq .int true (.tmp 92) (.const (vi 0))), none⟩, ⟨(some 94), .q (.move (.tmp 93)), none⟩, ⟨(some 95), .q (.move (.tmp 10)), (some (94, false))⟩, ⟨(some 96), .e (.call (.const (AV.func (.func 38) [] [])) [(.tmp 95)]), (some (94, false))⟩, ⟨(some 97), .q (.un .not (.tmp 96)), (some (94, false))⟩, ⟨(some 98), .q (.pick (.tmp 94) (.const (AV.bool true)) (.tmp 97)), none⟩]) (.cond (.tmp 98) (.region [⟨(some 99), .q (.move (.tmp 4)), none⟩, ⟨(some 100), .q (.nilCheck (.tmp 99)), none⟩, ⟨(some 101), .q (.fieldAddr 0 (.tmp 100)), none⟩, ⟨(some 102), .e (.call (.const (AV.func (.func 65) [] [])) [(.tmp 101), (.const (vi 2))]), none⟩]) .skip)))) (.region [⟨(some 74), .q (.fieldAddr 0 (.tmp 7)), none⟩, ⟨(some 75), .q (.loadS (.tmp 74)), none⟩, ⟨(some 76), .e (.call (.const (AV.func (.func 62) [] [])) [(.tmp 75)]), none⟩, ⟨(some 6), .q (.move (.tmp 76)), none⟩])))) (.region [⟨(some 103), .q (.move (.tmp 5)), none⟩, ⟨(some 104), .q (.loadA 2 (.tmp 7)), none⟩, ⟨(some 105), .l (.buildSlice 2 1 [(vb8 0), AV.nilSlice] [(0, 2, (.tmp 104))]), none⟩, ⟨(some 106), .e (.append 2 32 (.tmp 103) (.tmp 105)), none⟩, ⟨(some 5), .q (.move (.tmp 106)), none⟩])))))))))
noncomputable def rsplit_p (l : List Nat) : Option (List (Nat × List Nat) × Nat) :=
  (if l.length < 8 then (some ([], 3)) else
    (if (l.take 8) ≠ [0, 97, 115, 109, 1, 0, 0, 0] then (some ([], 2)) else
    (ob (rsplit_l1  90000 ([] : List Nat) 0 ([] : List (Nat × List Nat)) 0 (l.drop 8) 0) fun o9 =>
    (LO.on o9 (fun s_o9 => (if s_o9.2.2.2.2.2 ≠ 0 then (some ([], s_o9.2.2.2.2.2)) else
    (some (s_o9.2.2.1, 0)))) (fun y16 =>
    (some y16))))))
def C_rsplit (call : CallT) : Prop := ∀ {h : Hp} {wl_1 : AV} {l : List Nat} (fl_2 : BIn (Low h) h wl_1 l) {r : List (Nat × List Nat) × Nat}, rsplit_p l = some r → ∃ rv rh, call 36 [wl_1] h = .ok rv rh ∧ ∃ wk1 : AV, ∃ Lk3 : List AV, ∃ Gk : Nat → Prop, ∃ kk : Hp, rv = (AV.tuple [wk1, (vi r.2)]) ∧ (Eng.Rows (rP (rU .u8) rY) Gk kk Lk3 r.1) ∧ Eng.Sep (OwnO 2 wk1 r.1.length Lk3 :: Frz Gk kk :: Frz (Low h) h :: []) rh
end Go.Proofs.Ytejiebbbodealaa
end
