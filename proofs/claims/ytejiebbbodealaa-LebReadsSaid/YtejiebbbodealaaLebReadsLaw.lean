/- Proved: for all bytes b, the call of cloakroomlaw1.LebReads returns true and leaves its argument alone. Condition: none. -/
import Derived.Test.YtejiebbbodealaaLeb4
import Derived.Test.YtejiebbbodealaaLebLaws
import Derived.Test.YtejiebbbodealaaEngS32
import Derived.Test.YtejiebbbodealaaRows
import Derived.WalkKit
import Derived.ProofKit
import Derived.OpenShut
import Derived.ShutString
import Derived.ChangeOld
import Derived.Below
import Derived.SizedLaws
import Derived.Carry
import Derived.ChangeSlices
namespace Go.Proofs.Ytejiebbbodealaa.lebReads
open Go.ChangeShapes Go.WideShapes Go.ChangeAt Go.RowKit
open Go.ChangeMaps (open_string shut_string)
open Eng
set_option linter.unusedVariables false
set_option linter.unusedSimpArgs false

theorem twin_walk {call : CallT} {N : Nat} {h : Hp} {B : Nat} {vb : AV} {l : List Nat} (hB : B ≤ h.next) (hb : Bytes B h vb l) (hlen : l.length ≤ 1099511627776)
    : ∃ rv rh, evF1 (progS Try.prog (compDrawn Try.prog)) (N + 5) call 24 [vb] h = .ok rv rh ∧ (fun (v : AV) (h' : Hp) => TwinAt h' v l ∧ Old B h h' ∧ B ≤ h'.next) rv rh := by
  refine fwalk_ok (o := (.tell 2 (AV.int .i64 (Int.ofNat l.length)) (.tell 0 (AV.int .i64 (Int.ofNat (l.length + 3))) (.ell 0 (.sl (l.length + 3) (l.length + 3) 1 true) (mkCells (u8s (List.replicate (l.length + 3) 0)) ((l.length + 3) * 1)) (.effx 3 (fun e6 => (AV.int .i64 (Int.ofNat l.length))) (fun e6 => (.tell 1 (AV.int .i64 (Int.ofNat l.length)) (.tell 5 (AV.bool true) (.tell 2 (elemP (AV.slice h.next 0 (l.length + 3) (l.length + 3) 1 true) l.length 1) (.effx 0 (fun e10 => (AV.tuple [])) (fun e10 => (.tell 1 (AV.int .i64 (Int.ofNat (l.length + 1))) (.tell 4 (AV.bool true) (.tell 2 (elemP (AV.slice h.next 0 (l.length + 3) (l.length + 3) 1 true) (l.length + 1) 1) (.effx 0 (fun e14 => (AV.tuple [])) (fun e14 => (.tell 1 (AV.int .i64 (Int.ofNat ((l.length + 1) + 1))) (.tell 4 (AV.bool true) (.tell 2 (elemP (AV.slice h.next 0 (l.length + 3) (l.length + 3) 1 true) ((l.length + 1) + 1) 1) (.effx 0 (fun e18 => (AV.tuple [])) (fun e18 => (.tell 1 (AV.int .i64 (Int.ofNat (((l.length + 1) + 1) + 1))) (.tell 4 (AV.bool false) (.tell 2 (AV.int .i64 (Int.ofNat l.length)) (.tell 0 (AV.slice h.next 0 l.length (l.length + 3) 1 true) .fin))))))))))))))))))))))))) (p := (evQ (.lenL (.const vb)) .lf H0 = .ok (AV.int .i64 (Int.ofNat l.length)) ∧ (evQ (.bin .add (.const (AV.int .i64 (Int.ofNat l.length))) (.const (AV.int .i64 (Int.ofNat 3)))) .lf H0 = .ok (AV.int .i64 (Int.ofNat (l.length + 3))) ∧ (evL (.makeSlice 1 1 [AV.int .u8 (Int.ofNat 0)] (.const (AV.int .i64 (Int.ofNat (l.length + 3)))) (.const (AV.int .i64 (Int.ofNat (l.length + 3))))) .lf = .ok (.sl (l.length + 3) (l.length + 3) 1 true) (mkCells (u8s (List.replicate (l.length + 3) 0)) ((l.length + 3) * 1)) ∧ (∃ e6 : Ev, evE (.copy 1 (.const (AV.slice h.next 0 (l.length + 3) (l.length + 3) 1 true)) (.const vb)) call .lf (hpush h (mkCells (u8s (List.replicate (l.length + 3) 0)) ((l.length + 3) * 1))) = .ok (AV.int .i64 (Int.ofNat l.length)) e6.h ∧ (evQ (.lenL (.const vb)) .lf H0 = .ok (AV.int .i64 (Int.ofNat l.length)) ∧ (evQ (.bin .lss (.const (AV.int .i64 (Int.ofNat l.length))) (.const (AV.int .i64 (Int.ofNat (l.length + 3))))) .lf H0 = .ok (AV.bool true) ∧ (evQ (.idxAddrSl 1 (.const (AV.slice h.next 0 (l.length + 3) (l.length + 3) 1 true)) (.const (AV.int .i64 (Int.ofNat l.length)))) .lf H0 = .ok (elemP (AV.slice h.next 0 (l.length + 3) (l.length + 3) 1 true) l.length 1) ∧ (∃ e10 : Ev, evE (.store 1 (.const (elemP (AV.slice h.next 0 (l.length + 3) (l.length + 3) 1 true) l.length 1)) (.const (AV.int .u8 (Int.ofNat 229)))) call .lf e6.h = .ok (AV.tuple []) e10.h ∧ (evQ (.bin .add (.const (AV.int .i64 (Int.ofNat l.length))) (.const (AV.int .i64 (Int.ofNat 1)))) .lf H0 = .ok (AV.int .i64 (Int.ofNat (l.length + 1))) ∧ (evQ (.bin .lss (.const (AV.int .i64 (Int.ofNat (l.length + 1)))) (.const (AV.int .i64 (Int.ofNat (l.length + 3))))) .lf H0 = .ok (AV.bool true) ∧ (evQ (.idxAddrSl 1 (.const (AV.slice h.next 0 (l.length + 3) (l.length + 3) 1 true)) (.const (AV.int .i64 (Int.ofNat (l.length + 1))))) .lf H0 = .ok (elemP (AV.slice h.next 0 (l.length + 3) (l.length + 3) 1 true) (l.length + 1) 1) ∧ (∃ e14 : Ev, evE (.store 1 (.const (elemP (AV.slice h.next 0 (l.length + 3) (l.length + 3) 1 true) (l.length + 1) 1)) (.const (AV.int .u8 (Int.ofNat 229)))) call .lf e10.h = .ok (AV.tuple []) e14.h ∧ (evQ (.bin .add (.const (AV.int .i64 (Int.ofNat (l.length + 1)))) (.const (AV.int .i64 (Int.ofNat 1)))) .lf H0 = .ok (AV.int .i64 (Int.ofNat ((l.length + 1) + 1))) ∧ (evQ (.bin .lss (.const (AV.int .i64 (Int.ofNat ((l.length + 1) + 1)))) (.const (AV.int .i64 (Int.ofNat (l.length + 3))))) .lf H0 = .ok (AV.bool true) ∧ (evQ (.idxAddrSl 1 (.const (AV.slice h.next 0 (l.length + 3) (l.length + 3) 1 true)) (.const (AV.int .i64 (Int.ofNat ((l.length + 1) + 1))))) .lf H0 = .ok (elemP (AV.slice h.next 0 (l.length + 3) (l.length + 3) 1 true) ((l.length + 1) + 1) 1) ∧ (∃ e18 : Ev, evE (.store 1 (.const (elemP (AV.slice h.next 0 (l.length + 3) (l.length + 3) 1 true) ((l.length + 1) + 1) 1)) (.const (AV.int .u8 (Int.ofNat 229)))) call .lf e14.h = .ok (AV.tuple []) e18.h ∧ (evQ (.bin .add (.const (AV.int .i64 (Int.ofNat ((l.length + 1) + 1)))) (.const (AV.int .i64 (Int.ofNat 1)))) .lf H0 = .ok (AV.int .i64 (Int.ofNat (((l.length + 1) + 1) + 1))) ∧ (evQ (.bin .lss (.const (AV.int .i64 (Int.ofNat (((l.length + 1) + 1) + 1)))) (.const (AV.int .i64 (Int.ofNat (l.length + 3))))) .lf H0 = .ok (AV.bool false) ∧ (evQ (.lenL (.const vb)) .lf H0 = .ok (AV.int .i64 (Int.ofNat l.length)) ∧ (evQ (.sliceSl 1 (.const (AV.slice h.next 0 (l.length + 3) (l.length + 3) 1 true)) none (some (.const (AV.int .i64 (Int.ofNat l.length)))) none) .lf H0 = .ok (AV.slice h.next 0 l.length (l.length + 3) 1 true) ∧ (fun (v : AV) (h' : Hp) => TwinAt h' v l ∧ Old B h h' ∧ B ≤ h'.next) (AV.slice h.next 0 l.length (l.length + 3) 1 true) e18.h))))))))))))))))))))) (by kernel_rfl) ?_
  refine ⟨q_len hb, ?_⟩
  refine ⟨q_add (by omega), ?_⟩
  refine ⟨make_bytes (by omega), ?_⟩
  have f1 := (own_lit (sz := 1) (B := h.next) (n := l.length + 3) (h := h) (xs := u8s (List.replicate (l.length + 3) 0)) (Nat.le_refl _) (by rw [u8s_len1, List.length_replicate]))
  have f2 := (hb.old (Old.push hB (mkCells (u8s (List.replicate (l.length + 3) 0)) ((l.length + 3) * 1))))
  have l3 : h.next ≤ (hpush h (mkCells (u8s (List.replicate (l.length + 3) 0)) ((l.length + 3) * 1))).next := (Nat.le_succ_of_le (Nat.le_refl _))
  have l4 : B ≤ (hpush h (mkCells (u8s (List.replicate (l.length + 3) 0)) ((l.length + 3) * 1))).next := (Nat.le_succ_of_le hB)
  have d5 := ((Old.refl B h).trans (Old.push hB (mkCells (u8s (List.replicate (l.length + 3) 0)) ((l.length + 3) * 1))))
  obtain ⟨e6, qe6, oe6, pe6, ne6⟩ := copy_ev (B := h.next) (n := l.length + 3) (D := List.replicate (l.length + 3) 0) (l := l) call l3 f1 (fun z k => src_bytes f2 z k) (by omega)
  refine ⟨e6, qe6, ?_⟩
  have f7 := (f2.old (pe6.le hB))
  have l8 : B ≤ e6.h.next := (Nat.le_trans l4 pe6.next)
  have d9 := (d5.trans (pe6.le hB))
  refine ⟨q_len f7, ?_⟩
  refine ⟨congrArg (fun z => OV.ok (AV.bool z)) (ltI_true (a := l.length) (b := l.length + 3) (by omega)), ?_⟩
  refine ⟨q_idxO oe6 (by omega), ?_⟩
  obtain ⟨e10, qe10, oe10, pe10, ne10⟩ := store_ev (B := h.next) (n := l.length + 3) (L := u8s (l ++ (List.replicate (l.length + 3) 0).drop l.length)) (k := l.length) (x := (AV.int .u8 (Int.ofNat 229))) call ne6 oe6 (by omega) rfl
  rw [u8s_set] at oe10
  refine ⟨e10, qe10, ?_⟩
  have f11 := (f7.old (pe10.le hB))
  have l12 : B ≤ e10.h.next := (Nat.le_trans l8 pe10.next)
  have d13 := (d9.trans (pe10.le hB))
  refine ⟨q_add (by omega), ?_⟩
  refine ⟨congrArg (fun z => OV.ok (AV.bool z)) (ltI_true (a := l.length + 1) (b := l.length + 3) (by omega)), ?_⟩
  refine ⟨q_idxO oe10 (by omega), ?_⟩
  obtain ⟨e14, qe14, oe14, pe14, ne14⟩ := store_ev (B := h.next) (n := l.length + 3) (L := u8s ((l ++ (List.replicate (l.length + 3) 0).drop l.length).set l.length 229)) (k := l.length + 1) (x := (AV.int .u8 (Int.ofNat 229))) call ne10 oe10 (by omega) rfl
  rw [u8s_set] at oe14
  refine ⟨e14, qe14, ?_⟩
  have f15 := (f11.old (pe14.le hB))
  have l16 : B ≤ e14.h.next := (Nat.le_trans l12 pe14.next)
  have d17 := (d13.trans (pe14.le hB))
  refine ⟨q_add (by omega), ?_⟩
  refine ⟨congrArg (fun z => OV.ok (AV.bool z)) (ltI_true (a := (l.length + 1) + 1) (b := l.length + 3) (by omega)), ?_⟩
  refine ⟨q_idxO oe14 (by omega), ?_⟩
  obtain ⟨e18, qe18, oe18, pe18, ne18⟩ := store_ev (B := h.next) (n := l.length + 3) (L := u8s (((l ++ (List.replicate (l.length + 3) 0).drop l.length).set l.length 229).set (l.length + 1) 229)) (k := (l.length + 1) + 1) (x := (AV.int .u8 (Int.ofNat 229))) call ne14 oe14 (by omega) rfl
  rw [u8s_set] at oe18
  refine ⟨e18, qe18, ?_⟩
  have f19 := (f15.old (pe18.le hB))
  have l20 : B ≤ e18.h.next := (Nat.le_trans l16 pe18.next)
  have d21 := (d17.trans (pe18.le hB))
  refine ⟨q_add (by omega), ?_⟩
  refine ⟨congrArg (fun z => OV.ok (AV.bool z)) (ltI_false (a := ((l.length + 1) + 1) + 1) (b := l.length + 3) (by omega)), ?_⟩
  refine ⟨q_len f19, ?_⟩
  refine ⟨q_sliceOwn (by omega), ?_⟩
  have ht := oe18
  have hx : (((l ++ (List.replicate (l.length + 3) 0).drop l.length).set l.length 229).set (l.length + 1) 229).set ((l.length + 1) + 1) 229 = l ++ [229, 229, 229] := twin_text l
  rw [hx] at ht
  exact ⟨twin_of ht hb.lt, d21, l20⟩
theorem kept_walk {call : CallT} {N : Nat} {h : Hp} {B : Nat} {vb : AV} {l : List Nat} {b : Nat} (ht : TwinAt h (AV.slice b 0 l.length (l.length + 3) 1 true) l) (hy : Bytes h.next h (AV.slice b 0 (l.length + 3) (l.length + 3) 1 true) (l ++ [229, 229, 229])) (hb : Bytes B h vb l) (hB : B ≤ h.next) (hlen : l.length ≤ 1099511627776)
    : ∃ rv rh, evF1 (progS Try.prog (compDrawn Try.prog)) (N + 5) call 32 [(AV.slice b 0 l.length (l.length + 3) 1 true), vb] h = .ok rv rh ∧ (fun (v : AV) (h' : Hp) => h' = h ∧ v = .bool true) rv rh := by
  refine fwalk_ok (o := (.tell 4 (AV.slice b 0 (l.length + 3) (l.length + 3) 1 true) (.tell 2 (AV.str l) (.tell 1 (AV.str l) (.tell 0 (AV.bool false) (.tell 4 (AV.int .i64 (Int.ofNat l.length)) (.tell 0 (AV.int .i64 (Int.ofNat (l.length + 3))) (.tell 0 (AV.bool false) (.tell 2 (AV.int .i64 (Int.ofNat l.length)) (.tell 4 (AV.int .i64 (Int.ofNat l.length)) (.tell 0 (AV.int .i64 (Int.ofNat (l.length + 3))) (.tell 0 (AV.bool true) (.tell 2 (elemP (AV.slice b 0 (l.length + 3) (l.length + 3) 1 true) l.length 1) (.tell 0 (AV.int .u8 (Int.ofNat 229)) (.tell 2 (AV.int .i64 (Int.ofNat (l.length + 1))) (.tell 3 (AV.int .i64 (Int.ofNat l.length)) (.tell 0 (AV.int .i64 (Int.ofNat (l.length + 3))) (.tell 0 (AV.bool true) (.tell 2 (elemP (AV.slice b 0 (l.length + 3) (l.length + 3) 1 true) (l.length + 1) 1) (.tell 0 (AV.int .u8 (Int.ofNat 229)) (.tell 2 (AV.int .i64 (Int.ofNat ((l.length + 1) + 1))) (.tell 3 (AV.int .i64 (Int.ofNat l.length)) (.tell 0 (AV.int .i64 (Int.ofNat (l.length + 3))) (.tell 0 (AV.bool true) (.tell 2 (elemP (AV.slice b 0 (l.length + 3) (l.length + 3) 1 true) ((l.length + 1) + 1) 1) (.tell 0 (AV.int .u8 (Int.ofNat 229)) (.tell 2 (AV.int .i64 (Int.ofNat (((l.length + 1) + 1) + 1))) (.tell 3 (AV.int .i64 (Int.ofNat l.length)) (.tell 0 (AV.int .i64 (Int.ofNat (l.length + 3))) (.tell 0 (AV.bool false) .fin)))))))))))))))))))))))))))))) (p := (evQ (.sliceSl 1 (.const (AV.slice b 0 l.length (l.length + 3) 1 true)) none (some (.const (AV.int .i64 (Int.ofNat (l.length + 3))))) none) .lf H0 = .ok (AV.slice b 0 (l.length + 3) (l.length + 3) 1 true) ∧ (evQ (.toStr (.const (AV.slice b 0 l.length (l.length + 3) 1 true))) .lf h = .ok (AV.str l) ∧ (evQ (.toStr (.const vb)) .lf h = .ok (AV.str l) ∧ (evQ (.eq .str true (.const (AV.str l)) (.const (AV.str l))) .lf H0 = .ok (AV.bool false) ∧ (evQ (.lenL (.const vb)) .lf H0 = .ok (AV.int .i64 (Int.ofNat l.length)) ∧ (evQ (.bin .add (.const (AV.int .i64 (Int.ofNat l.length))) (.const (AV.int .i64 (Int.ofNat 3)))) .lf H0 = .ok (AV.int .i64 (Int.ofNat (l.length + 3))) ∧ (evQ (.bin .lss (.const (AV.int .i64 (Int.ofNat (l.length + 3)))) (.const (AV.int .i64 (Int.ofNat (l.length + 3))))) .lf H0 = .ok (AV.bool false) ∧ (evQ (.lenL (.const vb)) .lf H0 = .ok (AV.int .i64 (Int.ofNat l.length)) ∧ (evQ (.lenL (.const vb)) .lf H0 = .ok (AV.int .i64 (Int.ofNat l.length)) ∧ (evQ (.bin .add (.const (AV.int .i64 (Int.ofNat l.length))) (.const (AV.int .i64 (Int.ofNat 3)))) .lf H0 = .ok (AV.int .i64 (Int.ofNat (l.length + 3))) ∧ (evQ (.bin .lss (.const (AV.int .i64 (Int.ofNat l.length))) (.const (AV.int .i64 (Int.ofNat (l.length + 3))))) .lf H0 = .ok (AV.bool true) ∧ (evQ (.idxAddrSl 1 (.const (AV.slice b 0 (l.length + 3) (l.length + 3) 1 true)) (.const (AV.int .i64 (Int.ofNat l.length)))) .lf H0 = .ok (elemP (AV.slice b 0 (l.length + 3) (l.length + 3) 1 true) l.length 1) ∧ (evQ (.loadS (.const (elemP (AV.slice b 0 (l.length + 3) (l.length + 3) 1 true) l.length 1))) .lf h = .ok (AV.int .u8 (Int.ofNat 229)) ∧ (evQ (.bin .add (.const (AV.int .i64 (Int.ofNat l.length))) (.const (AV.int .i64 (Int.ofNat 1)))) .lf H0 = .ok (AV.int .i64 (Int.ofNat (l.length + 1))) ∧ (evQ (.lenL (.const vb)) .lf H0 = .ok (AV.int .i64 (Int.ofNat l.length)) ∧ (evQ (.bin .add (.const (AV.int .i64 (Int.ofNat l.length))) (.const (AV.int .i64 (Int.ofNat 3)))) .lf H0 = .ok (AV.int .i64 (Int.ofNat (l.length + 3))) ∧ (evQ (.bin .lss (.const (AV.int .i64 (Int.ofNat (l.length + 1)))) (.const (AV.int .i64 (Int.ofNat (l.length + 3))))) .lf H0 = .ok (AV.bool true) ∧ (evQ (.idxAddrSl 1 (.const (AV.slice b 0 (l.length + 3) (l.length + 3) 1 true)) (.const (AV.int .i64 (Int.ofNat (l.length + 1))))) .lf H0 = .ok (elemP (AV.slice b 0 (l.length + 3) (l.length + 3) 1 true) (l.length + 1) 1) ∧ (evQ (.loadS (.const (elemP (AV.slice b 0 (l.length + 3) (l.length + 3) 1 true) (l.length + 1) 1))) .lf h = .ok (AV.int .u8 (Int.ofNat 229)) ∧ (evQ (.bin .add (.const (AV.int .i64 (Int.ofNat (l.length + 1)))) (.const (AV.int .i64 (Int.ofNat 1)))) .lf H0 = .ok (AV.int .i64 (Int.ofNat ((l.length + 1) + 1))) ∧ (evQ (.lenL (.const vb)) .lf H0 = .ok (AV.int .i64 (Int.ofNat l.length)) ∧ (evQ (.bin .add (.const (AV.int .i64 (Int.ofNat l.length))) (.const (AV.int .i64 (Int.ofNat 3)))) .lf H0 = .ok (AV.int .i64 (Int.ofNat (l.length + 3))) ∧ (evQ (.bin .lss (.const (AV.int .i64 (Int.ofNat ((l.length + 1) + 1)))) (.const (AV.int .i64 (Int.ofNat (l.length + 3))))) .lf H0 = .ok (AV.bool true) ∧ (evQ (.idxAddrSl 1 (.const (AV.slice b 0 (l.length + 3) (l.length + 3) 1 true)) (.const (AV.int .i64 (Int.ofNat ((l.length + 1) + 1))))) .lf H0 = .ok (elemP (AV.slice b 0 (l.length + 3) (l.length + 3) 1 true) ((l.length + 1) + 1) 1) ∧ (evQ (.loadS (.const (elemP (AV.slice b 0 (l.length + 3) (l.length + 3) 1 true) ((l.length + 1) + 1) 1))) .lf h = .ok (AV.int .u8 (Int.ofNat 229)) ∧ (evQ (.bin .add (.const (AV.int .i64 (Int.ofNat ((l.length + 1) + 1)))) (.const (AV.int .i64 (Int.ofNat 1)))) .lf H0 = .ok (AV.int .i64 (Int.ofNat (((l.length + 1) + 1) + 1))) ∧ (evQ (.lenL (.const vb)) .lf H0 = .ok (AV.int .i64 (Int.ofNat l.length)) ∧ (evQ (.bin .add (.const (AV.int .i64 (Int.ofNat l.length))) (.const (AV.int .i64 (Int.ofNat 3)))) .lf H0 = .ok (AV.int .i64 (Int.ofNat (l.length + 3))) ∧ (evQ (.bin .lss (.const (AV.int .i64 (Int.ofNat (((l.length + 1) + 1) + 1)))) (.const (AV.int .i64 (Int.ofNat (l.length + 3))))) .lf H0 = .ok (AV.bool false) ∧ (fun (v : AV) (h' : Hp) => h' = h ∧ v = .bool true) (AV.bool true) h)))))))))))))))))))))))))))))) (by kernel_rfl) ?_
  refine ⟨q_sliceOwn (by omega), ?_⟩
  refine ⟨q_toStr ht.bytes, ?_⟩
  refine ⟨q_toStr hb, ?_⟩
  refine ⟨eqStr_sameN _, ?_⟩
  refine ⟨q_len hb, ?_⟩
  refine ⟨q_add (by omega), ?_⟩
  refine ⟨congrArg (fun z => OV.ok (AV.bool z)) (ltI_false (a := l.length + 3) (b := l.length + 3) (by omega)), ?_⟩
  refine ⟨q_len hb, ?_⟩
  refine ⟨q_len hb, ?_⟩
  refine ⟨q_add (by omega), ?_⟩
  refine ⟨congrArg (fun z => OV.ok (AV.bool z)) (ltI_true (a := l.length) (b := l.length + 3) (by omega)), ?_⟩
  refine ⟨q_idxB hy (by first | (simp; done) | (simp; omega)), ?_⟩
  refine ⟨(q_byte hy (by first | (simp; done) | (simp; omega))).trans (by rw [show l.length = l.length + 0 by omega, spare_at l (by decide)]), ?_⟩
  refine ⟨q_add (by omega), ?_⟩
  refine ⟨q_len hb, ?_⟩
  refine ⟨q_add (by omega), ?_⟩
  refine ⟨congrArg (fun z => OV.ok (AV.bool z)) (ltI_true (a := l.length + 1) (b := l.length + 3) (by omega)), ?_⟩
  refine ⟨q_idxB hy (by first | (simp; done) | (simp; omega)), ?_⟩
  refine ⟨(q_byte hy (by first | (simp; done) | (simp; omega))).trans (by rw [show l.length + 1 = l.length + 1 by omega, spare_at l (by decide)]), ?_⟩
  refine ⟨q_add (by omega), ?_⟩
  refine ⟨q_len hb, ?_⟩
  refine ⟨q_add (by omega), ?_⟩
  refine ⟨congrArg (fun z => OV.ok (AV.bool z)) (ltI_true (a := (l.length + 1) + 1) (b := l.length + 3) (by omega)), ?_⟩
  refine ⟨q_idxB hy (by first | (simp; done) | (simp; omega)), ?_⟩
  refine ⟨(q_byte hy (by first | (simp; done) | (simp; omega))).trans (by rw [show (l.length + 1) + 1 = l.length + 2 by omega, spare_at l (by decide)]), ?_⟩
  refine ⟨q_add (by omega), ?_⟩
  refine ⟨q_len hb, ?_⟩
  refine ⟨q_add (by omega), ?_⟩
  refine ⟨congrArg (fun z => OV.ok (AV.bool z)) (ltI_false (a := ((l.length + 1) + 1) + 1) (b := l.length + 3) (by omega)), ?_⟩
  exact ⟨rfl, rfl⟩
theorem s_twin (d : Nat) : TwinS (CC (d + 1)) 24 := fun {B h vb l} hB hb hl => by
  rw [CC, evF_at (sumT_none rfl)]
  exact twin_walk (call := CC d) (N := 99995) hB hb hl
theorem s_kept (d : Nat) : KeptS (CC (d + 1)) 32 := fun {h vb vt l} ht hb hl => by
  rw [CC, evF_at (sumT_none rfl)]
  have ht' := ht
  obtain ⟨b, w, rfl, hb', hg, hlt⟩ := ht'
  have hy : Bytes h.next h (.slice b 0 (l.length + 3) (l.length + 3) 1 true) (l ++ [229, 229, 229]) := by
    have e : l.length + 3 = (l ++ [229, 229, 229]).length := by simp
    rw [e] at hg ⊢
    exact .sl hb' hg (by rw [u8s_length]) (by rw [List.drop_zero, List.take_of_length_le (by rw [u8s_length]; exact Nat.le_refl _)]) (by omega) (Nat.le_refl _) (put_lt hlt (by decide))
  obtain ⟨v, h', e, rfl, rfl⟩ := kept_walk (call := CC d) (N := 99995) ht hy hb (Nat.le_refl _) hl
  exact e
theorem law_walk {call : CallT} {N : Nat} {h : Hp} {vb : AV} {l : List Nat} (hb : Bytes h.next h vb l) (hbegun : TrueS call 15) (htwin : TwinS call 24) (hkept : KeptS call 32) (hU32 : NumS call 22 32 false .u32 (fun n => .ofNat (n % 4294967296))) (hrU32 : NumS call 25 32 false .u32 (fun n => .ofNat (n % 4294967296))) (hU64 : NumS call 26 64 false .u64 (fun n => .ofNat n)) (hrU64 : NumS call 27 64 false .u64 (fun n => .ofNat n)) (hS32 : NumS call 23 32 true .i32 (sInt .i32)) (hrS32 : NumS call 28 32 true .i32 (sInt .i32)) (hS33 : NumS call 29 33 true .i64 (sInt .i64)) (hrS33 : NumS call 30 33 true .i64 (sInt .i64)) (hS64 : NumS call 20 64 true .i64 (sInt .i64)) (hrS64 : NumS call 31 64 true .i64 (sInt .i64))
    : ∃ rv rh, evF1 (progS Try.prog (compDrawn Try.prog)) N call 6 [vb] h = .ok rv rh ∧ (fun (v : AV) (_ : Hp) => v = .bool true) rv rh := by
  refine fwalk_ok (o := (.eff 1 (AV.bool true) h (.tell 2 (AV.int .i64 (Int.ofNat l.length)) (.fork 0 .fin (.effx 1 (fun e2 => e2.v) (fun e2 => (.eff 2 (AV.tuple [(AV.int .u32 (Int.ofNat ((readG 32 false l 0 0 0).1 % 4294967296))), (AV.int .i64 (Int.ofNat ((readG 32 false l 0 0 0).2.1))), (AV.int .i64 (Int.ofNat ((readG 32 false l 0 0 0).2.2)))]) e2.h (.eff 8 (AV.tuple [(AV.int .u32 (Int.ofNat ((readG 32 false l 0 0 0).1 % 4294967296))), (AV.int .i64 (Int.ofNat ((readG 32 false l 0 0 0).2.1))), (AV.int .i64 (Int.ofNat ((readG 32 false l 0 0 0).2.2)))]) e2.h (.eff 8 (AV.tuple [(AV.int .u64 (Int.ofNat ((readG 64 false l 0 0 0).1))), (AV.int .i64 (Int.ofNat ((readG 64 false l 0 0 0).2.1))), (AV.int .i64 (Int.ofNat ((readG 64 false l 0 0 0).2.2)))]) e2.h (.eff 8 (AV.tuple [(AV.int .u64 (Int.ofNat ((readG 64 false l 0 0 0).1))), (AV.int .i64 (Int.ofNat ((readG 64 false l 0 0 0).2.1))), (AV.int .i64 (Int.ofNat ((readG 64 false l 0 0 0).2.2)))]) e2.h (.tell 9 (AV.bool true) (.tell 3 (AV.bool true) (.tell 4 (AV.bool true) (.tell 4 (AV.bool true) (.tell 4 (AV.bool true) (.tell 4 (AV.bool true) (.eff 3 (AV.tuple [(AV.int .i32 (sInt .i32 (readG 32 true l 0 0 0).1)), (AV.int .i64 (Int.ofNat ((readG 32 true l 0 0 0).2.1))), (AV.int .i64 (Int.ofNat ((readG 32 true l 0 0 0).2.2)))]) e2.h (.eff 8 (AV.tuple [(AV.int .i32 (sInt .i32 (readG 32 true l 0 0 0).1)), (AV.int .i64 (Int.ofNat ((readG 32 true l 0 0 0).2.1))), (AV.int .i64 (Int.ofNat ((readG 32 true l 0 0 0).2.2)))]) e2.h (.eff 8 (AV.tuple [(AV.int .i64 (sInt .i64 (readG 33 true l 0 0 0).1)), (AV.int .i64 (Int.ofNat ((readG 33 true l 0 0 0).2.1))), (AV.int .i64 (Int.ofNat ((readG 33 true l 0 0 0).2.2)))]) e2.h (.eff 8 (AV.tuple [(AV.int .i64 (sInt .i64 (readG 33 true l 0 0 0).1)), (AV.int .i64 (Int.ofNat ((readG 33 true l 0 0 0).2.1))), (AV.int .i64 (Int.ofNat ((readG 33 true l 0 0 0).2.2)))]) e2.h (.eff 8 (AV.tuple [(AV.int .i64 (sInt .i64 (readG 64 true l 0 0 0).1)), (AV.int .i64 (Int.ofNat ((readG 64 true l 0 0 0).2.1))), (AV.int .i64 (Int.ofNat ((readG 64 true l 0 0 0).2.2)))]) e2.h (.eff 8 (AV.tuple [(AV.int .i64 (sInt .i64 (readG 64 true l 0 0 0).1)), (AV.int .i64 (Int.ofNat ((readG 64 true l 0 0 0).2.1))), (AV.int .i64 (Int.ofNat ((readG 64 true l 0 0 0).2.2)))]) e2.h (.tell 11 (AV.bool true) (.tell 4 (AV.bool true) (.tell 4 (AV.bool true) (.tell 4 (AV.bool true) (.tell 4 (AV.bool true) (.tell 4 (AV.bool true) (.tell 4 (AV.bool true) (.tell 4 (AV.bool true) (.tell 4 (AV.bool true) (.eff 4 (AV.bool true) e2.h .fin)))))))))))))))))))))))))))))))) (p := (call 15 [] h = .ok (AV.bool true) h ∧ (evQ (.lenL (.const vb)) .lf H0 = .ok (AV.int .i64 (Int.ofNat l.length)) ∧ ((ltI (Int.ofNat 20) (Int.ofNat l.length) = true → (fun (v : AV) (_ : Hp) => v = .bool true) (AV.bool true) h) ∧ (ltI (Int.ofNat 20) (Int.ofNat l.length) = false → (∃ e2 : Ev, call 24 [vb] h = .ok e2.v e2.h ∧ (call 22 [e2.v] e2.h = .ok (AV.tuple [(AV.int .u32 (Int.ofNat ((readG 32 false l 0 0 0).1 % 4294967296))), (AV.int .i64 (Int.ofNat ((readG 32 false l 0 0 0).2.1))), (AV.int .i64 (Int.ofNat ((readG 32 false l 0 0 0).2.2)))]) e2.h ∧ (call 25 [vb] e2.h = .ok (AV.tuple [(AV.int .u32 (Int.ofNat ((readG 32 false l 0 0 0).1 % 4294967296))), (AV.int .i64 (Int.ofNat ((readG 32 false l 0 0 0).2.1))), (AV.int .i64 (Int.ofNat ((readG 32 false l 0 0 0).2.2)))]) e2.h ∧ (call 26 [e2.v] e2.h = .ok (AV.tuple [(AV.int .u64 (Int.ofNat ((readG 64 false l 0 0 0).1))), (AV.int .i64 (Int.ofNat ((readG 64 false l 0 0 0).2.1))), (AV.int .i64 (Int.ofNat ((readG 64 false l 0 0 0).2.2)))]) e2.h ∧ (call 27 [vb] e2.h = .ok (AV.tuple [(AV.int .u64 (Int.ofNat ((readG 64 false l 0 0 0).1))), (AV.int .i64 (Int.ofNat ((readG 64 false l 0 0 0).2.1))), (AV.int .i64 (Int.ofNat ((readG 64 false l 0 0 0).2.2)))]) e2.h ∧ (evQ (.eq .int false (.const (AV.int .u32 (Int.ofNat ((readG 32 false l 0 0 0).1 % 4294967296)))) (.const (AV.int .u32 (Int.ofNat ((readG 32 false l 0 0 0).1 % 4294967296))))) .lf H0 = .ok (AV.bool true) ∧ (evQ (.eq .int false (.const (AV.int .i64 (Int.ofNat ((readG 32 false l 0 0 0).2.1)))) (.const (AV.int .i64 (Int.ofNat ((readG 32 false l 0 0 0).2.1))))) .lf H0 = .ok (AV.bool true) ∧ (evQ (.eq .int false (.const (AV.int .i64 (Int.ofNat ((readG 32 false l 0 0 0).2.2)))) (.const (AV.int .i64 (Int.ofNat ((readG 32 false l 0 0 0).2.2))))) .lf H0 = .ok (AV.bool true) ∧ (evQ (.eq .int false (.const (AV.int .u64 (Int.ofNat ((readG 64 false l 0 0 0).1)))) (.const (AV.int .u64 (Int.ofNat ((readG 64 false l 0 0 0).1))))) .lf H0 = .ok (AV.bool true) ∧ (evQ (.eq .int false (.const (AV.int .i64 (Int.ofNat ((readG 64 false l 0 0 0).2.1)))) (.const (AV.int .i64 (Int.ofNat ((readG 64 false l 0 0 0).2.1))))) .lf H0 = .ok (AV.bool true) ∧ (evQ (.eq .int false (.const (AV.int .i64 (Int.ofNat ((readG 64 false l 0 0 0).2.2)))) (.const (AV.int .i64 (Int.ofNat ((readG 64 false l 0 0 0).2.2))))) .lf H0 = .ok (AV.bool true) ∧ (call 23 [e2.v] e2.h = .ok (AV.tuple [(AV.int .i32 (sInt .i32 (readG 32 true l 0 0 0).1)), (AV.int .i64 (Int.ofNat ((readG 32 true l 0 0 0).2.1))), (AV.int .i64 (Int.ofNat ((readG 32 true l 0 0 0).2.2)))]) e2.h ∧ (call 28 [vb] e2.h = .ok (AV.tuple [(AV.int .i32 (sInt .i32 (readG 32 true l 0 0 0).1)), (AV.int .i64 (Int.ofNat ((readG 32 true l 0 0 0).2.1))), (AV.int .i64 (Int.ofNat ((readG 32 true l 0 0 0).2.2)))]) e2.h ∧ (call 29 [e2.v] e2.h = .ok (AV.tuple [(AV.int .i64 (sInt .i64 (readG 33 true l 0 0 0).1)), (AV.int .i64 (Int.ofNat ((readG 33 true l 0 0 0).2.1))), (AV.int .i64 (Int.ofNat ((readG 33 true l 0 0 0).2.2)))]) e2.h ∧ (call 30 [vb] e2.h = .ok (AV.tuple [(AV.int .i64 (sInt .i64 (readG 33 true l 0 0 0).1)), (AV.int .i64 (Int.ofNat ((readG 33 true l 0 0 0).2.1))), (AV.int .i64 (Int.ofNat ((readG 33 true l 0 0 0).2.2)))]) e2.h ∧ (call 20 [e2.v] e2.h = .ok (AV.tuple [(AV.int .i64 (sInt .i64 (readG 64 true l 0 0 0).1)), (AV.int .i64 (Int.ofNat ((readG 64 true l 0 0 0).2.1))), (AV.int .i64 (Int.ofNat ((readG 64 true l 0 0 0).2.2)))]) e2.h ∧ (call 31 [vb] e2.h = .ok (AV.tuple [(AV.int .i64 (sInt .i64 (readG 64 true l 0 0 0).1)), (AV.int .i64 (Int.ofNat ((readG 64 true l 0 0 0).2.1))), (AV.int .i64 (Int.ofNat ((readG 64 true l 0 0 0).2.2)))]) e2.h ∧ (evQ (.eq .int false (.const (AV.int .i32 (sInt .i32 (readG 32 true l 0 0 0).1))) (.const (AV.int .i32 (sInt .i32 (readG 32 true l 0 0 0).1)))) .lf H0 = .ok (AV.bool true) ∧ (evQ (.eq .int false (.const (AV.int .i64 (Int.ofNat ((readG 32 true l 0 0 0).2.1)))) (.const (AV.int .i64 (Int.ofNat ((readG 32 true l 0 0 0).2.1))))) .lf H0 = .ok (AV.bool true) ∧ (evQ (.eq .int false (.const (AV.int .i64 (Int.ofNat ((readG 32 true l 0 0 0).2.2)))) (.const (AV.int .i64 (Int.ofNat ((readG 32 true l 0 0 0).2.2))))) .lf H0 = .ok (AV.bool true) ∧ (evQ (.eq .int false (.const (AV.int .i64 (sInt .i64 (readG 33 true l 0 0 0).1))) (.const (AV.int .i64 (sInt .i64 (readG 33 true l 0 0 0).1)))) .lf H0 = .ok (AV.bool true) ∧ (evQ (.eq .int false (.const (AV.int .i64 (Int.ofNat ((readG 33 true l 0 0 0).2.1)))) (.const (AV.int .i64 (Int.ofNat ((readG 33 true l 0 0 0).2.1))))) .lf H0 = .ok (AV.bool true) ∧ (evQ (.eq .int false (.const (AV.int .i64 (Int.ofNat ((readG 33 true l 0 0 0).2.2)))) (.const (AV.int .i64 (Int.ofNat ((readG 33 true l 0 0 0).2.2))))) .lf H0 = .ok (AV.bool true) ∧ (evQ (.eq .int false (.const (AV.int .i64 (sInt .i64 (readG 64 true l 0 0 0).1))) (.const (AV.int .i64 (sInt .i64 (readG 64 true l 0 0 0).1)))) .lf H0 = .ok (AV.bool true) ∧ (evQ (.eq .int false (.const (AV.int .i64 (Int.ofNat ((readG 64 true l 0 0 0).2.1)))) (.const (AV.int .i64 (Int.ofNat ((readG 64 true l 0 0 0).2.1))))) .lf H0 = .ok (AV.bool true) ∧ (evQ (.eq .int false (.const (AV.int .i64 (Int.ofNat ((readG 64 true l 0 0 0).2.2)))) (.const (AV.int .i64 (Int.ofNat ((readG 64 true l 0 0 0).2.2))))) .lf H0 = .ok (AV.bool true) ∧ (call 32 [e2.v, vb] e2.h = .ok (AV.bool true) e2.h ∧ (fun (v : AV) (_ : Hp) => v = .bool true) (AV.bool true) e2.h)))))))))))))))))))))))))))))))) (by kernel_rfl) ?_
  refine ⟨hbegun _, ?_⟩
  refine ⟨q_len hb, ?_⟩
  refine ⟨fun c1 => ?_, fun c1 => ?_⟩
  · have rc1 := c1
    replace c1 : 20 < l.length := ltI_t c1
    first | exact rfl | (exfalso; omega)
  · have rc1 := c1
    replace c1 : l.length ≤ 20 := ltI_f c1
    obtain ⟨ve2, he2, qe2, oe2, pe2, ne2⟩ := htwin (B := h.next) (Nat.le_refl _) (hb.up (Nat.le_refl _)) (by omega)
    obtain ⟨e2, rfl, rfl⟩ : ∃ e : Ev, ve2 = e.v ∧ he2 = e.h := ⟨⟨ve2, .lf, he2⟩, rfl, rfl⟩
    refine ⟨e2, qe2, ?_⟩
    have f3 := (hb.old (pe2.le (Nat.le_refl _)))
    have l4 : h.next ≤ e2.h.next := (Nat.le_trans (Nat.le_refl _) pe2.next)
    have d5 := ((Old.refl h.next h).trans (pe2.le (Nat.le_refl _)))
    refine ⟨hU32 oe2.bytes (by omega), ?_⟩
    refine ⟨hrU32 f3 (by omega), ?_⟩
    refine ⟨hU64 oe2.bytes (by omega), ?_⟩
    refine ⟨hrU64 f3 (by omega), ?_⟩
    refine ⟨congrArg (fun z => OV.ok (AV.bool z)) (eqI_self (Int.ofNat ((readG 32 false l 0 0 0).1 % 4294967296))), ?_⟩
    refine ⟨congrArg (fun z => OV.ok (AV.bool z)) (eqI_self (Int.ofNat ((readG 32 false l 0 0 0).2.1))), ?_⟩
    refine ⟨congrArg (fun z => OV.ok (AV.bool z)) (eqI_self (Int.ofNat ((readG 32 false l 0 0 0).2.2))), ?_⟩
    refine ⟨congrArg (fun z => OV.ok (AV.bool z)) (eqI_self (Int.ofNat ((readG 64 false l 0 0 0).1))), ?_⟩
    refine ⟨congrArg (fun z => OV.ok (AV.bool z)) (eqI_self (Int.ofNat ((readG 64 false l 0 0 0).2.1))), ?_⟩
    refine ⟨congrArg (fun z => OV.ok (AV.bool z)) (eqI_self (Int.ofNat ((readG 64 false l 0 0 0).2.2))), ?_⟩
    refine ⟨hS32 oe2.bytes (by omega), ?_⟩
    refine ⟨hrS32 f3 (by omega), ?_⟩
    refine ⟨hS33 oe2.bytes (by omega), ?_⟩
    refine ⟨hrS33 f3 (by omega), ?_⟩
    refine ⟨hS64 oe2.bytes (by omega), ?_⟩
    refine ⟨hrS64 f3 (by omega), ?_⟩
    refine ⟨congrArg (fun z => OV.ok (AV.bool z)) (eqI_self (sInt .i32 (readG 32 true l 0 0 0).1)), ?_⟩
    refine ⟨congrArg (fun z => OV.ok (AV.bool z)) (eqI_self (Int.ofNat ((readG 32 true l 0 0 0).2.1))), ?_⟩
    refine ⟨congrArg (fun z => OV.ok (AV.bool z)) (eqI_self (Int.ofNat ((readG 32 true l 0 0 0).2.2))), ?_⟩
    refine ⟨congrArg (fun z => OV.ok (AV.bool z)) (eqI_self (sInt .i64 (readG 33 true l 0 0 0).1)), ?_⟩
    refine ⟨congrArg (fun z => OV.ok (AV.bool z)) (eqI_self (Int.ofNat ((readG 33 true l 0 0 0).2.1))), ?_⟩
    refine ⟨congrArg (fun z => OV.ok (AV.bool z)) (eqI_self (Int.ofNat ((readG 33 true l 0 0 0).2.2))), ?_⟩
    refine ⟨congrArg (fun z => OV.ok (AV.bool z)) (eqI_self (sInt .i64 (readG 64 true l 0 0 0).1)), ?_⟩
    refine ⟨congrArg (fun z => OV.ok (AV.bool z)) (eqI_self (Int.ofNat ((readG 64 true l 0 0 0).2.1))), ?_⟩
    refine ⟨congrArg (fun z => OV.ok (AV.bool z)) (eqI_self (Int.ofNat ((readG 64 true l 0 0 0).2.2))), ?_⟩
    refine ⟨hkept oe2 (f3.up l4) (by omega), ?_⟩
    first | exact rfl | (exfalso; omega)
theorem walk (a0 : BArg) (W : World) (l0 : a0.lies W) :
    Calls Try.prog 6 #[a0.v] W fun e W' => e = .returned (.bool true) ∧ Below W.heap.size W W' := by
  obtain ⟨μ, h, vs, hs, hm, hn, hvs, _⟩ := start_bytes (w := W) [a0] (by simp only [List.mem_cons, List.not_mem_nil, or_false]; rintro a (rfl) <;> assumption)
  obtain ⟨vb0, rfl⟩ : ∃ vb0, vs = [vb0] := by
    match vs, hn with
    | [vb0], _ => exact ⟨vb0, rfl⟩
  obtain ⟨r0, b0⟩ := hvs 0 vb0 a0 rfl rfl
  obtain ⟨rv, rh, e, hr⟩ := law_walk (call := CC 10) (N := 100000) (h := h) b0 (evF_sum (by decide)) (s_twin 9) (s_kept 9) (s_U32 7) (s_rU32 8) (s_U64 7) (s_rU64 8) (s_S32 7) (s_rS32 8) (s_S33 7) (s_rS33 8) (s_S64 7) (s_rS64 8)
  have hr : rv = .bool true := hr
  subst hr
  refine start_law compDrawn_ok (sumT_ok trues) (N := 100000) (d := 11) hs hm (args := [vb0]) ?_ (by rw [evF_at (sumT_none rfl)]; exact e)
  rw [VRs_cons]; exact ⟨_, _, rfl, r0, by rw [VRs_nil]⟩
theorem own : ownKnob Try.prog.godebug = none := by kernel_rfl
theorem laidOut : laidOutB Try.prog = true := by kernel_rfl
set_option maxRecDepth 100000 in
set_option maxHeartbeats 1000000 in
theorem lifted (os : Os) (started : os.Started) (H : Type) (enc : TypeId × Value → H) :
    ReturnsInHanded {} Try.checked os 6 .any (Rows.lebReadsSpec.pre6 enc Try.prog Try.f6 Rows.lebReadsRow.domain false) (Rows.lebReadsSpec.post enc Try.prog Try.f6 false true false false) := by
  refine returnsInHanded_of_change_sized (C := Try.checked) own started (by kernel_rfl) Try.func6
    (ChangeSpec.witness6 (enc := enc) (C := Try.checked) false ⟨#[], #[.slice none 0 0], []⟩ 8 (by kernel_rfl) (by kernel_rfl) (by kernel_rfl) (by kernel_rfl)) ?_
  intro W base args ds gs before hval0 hW hcnd hsz0 _
  have hval : ∀ (j : Nat) t v, Try.f6.params[j]? = some t → args[j]? = some v → Value.okWide Try.prog W .any base t v := hval0
  have hW' := hW
  obtain ⟨p, q, hA0, hV, rfl, hfz, hnd⟩ := hW
  have hA : DataW.TrodAll enc Try.prog W 0 (fun _ => true) true Try.f6.params.toList args.toList ds p := hA0
  rw [Try.params6] at hA hval
  obtain ⟨rfl, rfl⟩ := trodVars_none hV
  simp only [List.append_nil] at hW'
  obtain ⟨v0, vs0, d0, ds0, p0, q0, hargs, rfl, rfl, h0, r0⟩ := trodAll_cons hA
  obtain ⟨rfl, rfl, rfl⟩ := trodAll_nil r0
  obtain rfl : args = #[v0] := by cases args; simp_all
  have hlt : ∀ x ∈ p0, x.block < W.heap.size := fun x hx => by simpa using hW'.lt x (by simpa using hx)
  obtain ⟨a0, rfl, l0, _⟩ := bytes_arg Try.underlying22 Try.underlying5 (by kernel_rfl) h0 (hval 0 22 _ rfl rfl)
  refine (walk a0 W l0).mono fun e W' ⟨he, bel⟩ => ?_
  subst he
  have t0 := Below.trod laidOut (by kernel_rfl) (of_decide_eq_true (by kernel_rfl)) h0 bel (fun x hx => hlt x (by simp [hx]))
  exact ⟨_, rfl, _, _, _, [], _, [], hW', trodAll_mk1 (shut_bool Try.underlying4 _), (trodAll_cons_mk t0 trodAll_mk0), rfl, bel.frame _, fun h => by cases h⟩
theorem over : Rows.lebReadsRow.holds Try.pinned (OpenSpec.ofChange Rows.lebReadsSpec) :=
  OpenClaim.holds_of_wide 6 Try.f6 rfl rfl rfl rfl rfl rfl rfl ⟨rfl, rfl, rfl, rfl, rfl⟩ rfl rfl rfl rfl rfl (by kernel_rfl) Try.func6 (by kernel_rfl)
    (of_decide_eq_true (by kernel_rfl)) (by unfold Func.isWrapper; first | (rw [if_pos (by decide +kernel)]; kernel_rfl) | (rw [if_neg (by decide +kernel)]; exact ⟨rfl, rfl⟩))
    (fun os started H enc _ => lifted os started H enc)
theorem proved : Rows.LebReadsSaid := over
end Go.Proofs.Ytejiebbbodealaa.lebReads
