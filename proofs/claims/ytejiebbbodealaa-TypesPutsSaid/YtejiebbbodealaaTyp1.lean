/- Walks of package types, and of the reference's readers. -/
import Derived.Test.YtejiebbbodealaaLeb4
import Derived.Test.YtejiebbbodealaaTypesPure
import Derived.WalkKit
set_option linter.unusedVariables false
set_option linter.unusedSimpArgs false
namespace Go.Proofs.Ytejiebbbodealaa
open Go Eng
theorem one_walk_ {call : CallT} {N : Nat} {h : Hp} {h0 : Hp} {G : Nat → Prop} {R : List AObj} {b l_n e : Nat} {vb : AV} {l : List Nat} {rest : List AV} (P : BIn G h0 vb l) (hl : l.length + l_n < 80000) (he : e < 64) (S : Sep (Cel b (vb :: .int .i64 (.ofNat l_n) :: .int .i64 (.ofNat e) :: rest) :: Frz G h0 :: R) h) {k : Nat} (hk : k ≤ l.length)
    : ∃ rv rh, evF1 (progS Try.prog (compDrawn Try.prog)) N call 78 [(AV.ptr b 0), (AV.int .i64 (Int.ofNat k))] h = .ok rv rh ∧ (fun (v : AV) (h' : Hp) => ∃ v', v = .tuple [] ∧ BIn G h0 v' (cuSkip k (l, l_n, e)).1 ∧ Sep (Cel b (cuC v' (cuSkip k (l, l_n, e)) rest) :: Frz G h0 :: R) h') rv rh := by
  refine fwalk_ok (K := fun (v : AV) (h' : Hp) => ∃ v', v = .tuple [] ∧ BIn G h0 v' (cuSkip k (l, l_n, e)).1 ∧ Sep (Cel b (cuC v' (cuSkip k (l, l_n, e)) rest) :: Frz G h0 :: R) h') (o := (.tell 5 vb (.tell 1 (partS vb k l.length) (.tell 3 (AV.int .i64 (Int.ofNat l_n)) (.tell 1 (AV.int .i64 (Int.ofNat (l_n + k))) (.again 2 (.effx 0 (fun e2 => (AV.tuple [])) (fun e2 => (.again 2 (.effx 0 (fun e4 => (AV.tuple [])) (fun e4 => .fin))))))))))) (p := (evQ (.loadS (.const (AV.ptr b 0))) .lf h = .ok vb ∧ (evQ (.sliceSl 1 (.const vb) (some (.const (AV.int .i64 (Int.ofNat k)))) none none) .lf H0 = .ok (partS vb k l.length) ∧ (evQ (.loadS (.const (AV.ptr b 1))) .lf h = .ok (AV.int .i64 (Int.ofNat l_n)) ∧ (evQ (.bin .add (.const (AV.int .i64 (Int.ofNat l_n))) (.const (AV.int .i64 (Int.ofNat k)))) .lf H0 = .ok (AV.int .i64 (Int.ofNat (l_n + k))) ∧ ((again (.fieldAddr 0 (.const (AV.ptr b 0))) .lf (AV.ptr b 0) h = true ∧ again (.nilCheck (.const (AV.ptr b 0))) .lf (AV.ptr b 0) h = true ∧ again (.bin .add (.const (AV.int .i64 (Int.ofNat l_n))) (.const (AV.int .i64 (Int.ofNat k)))) .lf (AV.int .i64 (Int.ofNat (l_n + k))) h = true ∧ again (.move (.const (AV.int .i64 (Int.ofNat k)))) .lf (AV.int .i64 (Int.ofNat k)) h = true ∧ again (.loadS (.const (AV.ptr b 1))) .lf (AV.int .i64 (Int.ofNat l_n)) h = true ∧ again (.fieldAddr 1 (.const (AV.ptr b 0))) .lf (AV.ptr b 1) h = true ∧ again (.nilCheck (.const (AV.ptr b 0))) .lf (AV.ptr b 0) h = true ∧ again (.move (.const (AV.ptr b 0))) .lf (AV.ptr b 0) h = true ∧ again (.sliceSl 1 (.const vb) (some (.const (AV.int .i64 (Int.ofNat k)))) none none) .lf (partS vb k l.length) h = true ∧ again (.move (.const (AV.int .i64 (Int.ofNat k)))) .lf (AV.int .i64 (Int.ofNat k)) h = true ∧ again (.loadS (.const (AV.ptr b 0))) .lf vb h = true ∧ again (.fieldAddr 0 (.const (AV.ptr b 0))) .lf (AV.ptr b 0) h = true ∧ again (.nilCheck (.const (AV.ptr b 0))) .lf (AV.ptr b 0) h = true ∧ again (.move (.const (AV.ptr b 0))) .lf (AV.ptr b 0) h = true ∧ again (.move (.const (AV.ptr b 0))) .lf (AV.ptr b 0) h = true ∧ again (.move (.const (AV.ptr b 0))) .lf (AV.ptr b 0) h = true ∧ True) ∧ (∃ e2 : Ev, evE (.store 1 (.const (AV.ptr b 0)) (.const (partS vb k l.length))) call .lf h = .ok (AV.tuple []) e2.h ∧ ((again (.fieldAddr 1 (.const (AV.ptr b 0))) .lf (AV.ptr b 1) e2.h = true ∧ again (.nilCheck (.const (AV.ptr b 0))) .lf (AV.ptr b 0) e2.h = true ∧ again (.bin .add (.const (AV.int .i64 (Int.ofNat l_n))) (.const (AV.int .i64 (Int.ofNat k)))) .lf (AV.int .i64 (Int.ofNat (l_n + k))) e2.h = true ∧ again (.move (.const (AV.int .i64 (Int.ofNat k)))) .lf (AV.int .i64 (Int.ofNat k)) e2.h = true ∧ again (.move (.const (AV.ptr b 0))) .lf (AV.ptr b 0) e2.h = true ∧ True) ∧ (∃ e4 : Ev, evE (.store 1 (.const (AV.ptr b 1)) (.const (AV.int .i64 (Int.ofNat (l_n + k))))) call .lf e2.h = .ok (AV.tuple []) e4.h ∧ (fun (v : AV) (h' : Hp) => ∃ v', v = .tuple [] ∧ BIn G h0 v' (cuSkip k (l, l_n, e)).1 ∧ Sep (Cel b (cuC v' (cuSkip k (l, l_n, e)) rest) :: Frz G h0 :: R) h') (AV.tuple []) e4.h))))))))) (by kernel_rfl) ?_
  refine ⟨cel_load S (i := 0) rfl rfl, ?_⟩
  refine ⟨q_sliceFrom (l := l) (BIn.now S (i := 1) rfl P) (by first | omega | (simp; omega)), ?_⟩
  have b1 := BIn.from (l := l) (lo := k) P (by first | omega | (simp; omega))
  refine ⟨cel_load S (i := 0) rfl rfl, ?_⟩
  refine ⟨q_add (by omega), ?_⟩
  refine ⟨⟨again_of (rfl) (avEq_ptr _ _), again_of (rfl) (avEq_ptr _ _), again_of (q_add (by omega)) (avEq_int _ _), again_of (rfl) (avEq_int _ _), again_of (cel_load S (i := 0) rfl rfl) (avEq_int _ _), again_of (rfl) (avEq_ptr _ _), again_of (rfl) (avEq_ptr _ _), again_of (rfl) (avEq_ptr _ _), again_of (q_sliceFrom (l := l) (BIn.now S (i := 1) rfl P) (by first | omega | (simp; omega))) (BIn.same b1), again_of (rfl) (avEq_int _ _), again_of (cel_load S (i := 0) rfl rfl) (BIn.same P), again_of (rfl) (avEq_ptr _ _), again_of (rfl) (avEq_ptr _ _), again_of (rfl) (avEq_ptr _ _), again_of (rfl) (avEq_ptr _ _), again_of (rfl) (avEq_ptr _ _), trivial⟩, ?_⟩
  obtain ⟨e2, qe2, se2⟩ := cel_store call S (i := 0) (o := 0) (x := (partS vb k l.length)) rfl (by first | decide | (simp; done) | (simp only [List.length_cons, List.length_nil]; omega)) (BIn.cell b1)
  have S3 : Sep (Cel b ((partS vb k l.length) :: (AV.int .i64 (Int.ofNat l_n)) :: (AV.int .i64 (Int.ofNat e)) :: rest) :: Frz G h0 :: R) e2.h := se2
  refine ⟨e2, qe2, ?_⟩
  refine ⟨⟨again_of (rfl) (avEq_ptr _ _), again_of (rfl) (avEq_ptr _ _), again_of (q_add (by omega)) (avEq_int _ _), again_of (rfl) (avEq_int _ _), again_of (rfl) (avEq_ptr _ _), trivial⟩, ?_⟩
  obtain ⟨e4, qe4, se4⟩ := cel_store call S3 (i := 0) (o := 1) (x := (AV.int .i64 (Int.ofNat (l_n + k)))) rfl (by first | decide | (simp; done) | (simp only [List.length_cons, List.length_nil]; omega)) rfl
  have S5 : Sep (Cel b ((partS vb k l.length) :: (AV.int .i64 (Int.ofNat (l_n + k))) :: (AV.int .i64 (Int.ofNat e)) :: rest) :: Frz G h0 :: R) e4.h := se4
  refine ⟨e4, qe4, ?_⟩
  exact ⟨_, rfl, b1, S5⟩
theorem one_walk {call : CallT} {N : Nat} {h : Hp} {h0 : Hp} {G : Nat → Prop} {R : List AObj} {b l_n e : Nat} {vb : AV} {l : List Nat} {rest : List AV} (P : BIn G h0 vb l) (hl : l.length + l_n < 80000) (he : e < 64) (S : Sep (Cel b (vb :: .int .i64 (.ofNat l_n) :: .int .i64 (.ofNat e) :: rest) :: Frz G h0 :: R) h) (hskip : ∀ k : Nat, ∀ {h h0 : Hp} {G : Nat → Prop} {R : List AObj} {b : Nat} {vb : AV} (s : Cu) (rest : List AV), k ≤ s.1.length → BIn G h0 vb s.1 → s.1.length + s.2.1 < 80000 → s.2.2 < 64 → Sep (Cel b (cuC vb s rest) :: Frz G h0 :: R) h → ∃ v' h', call 78 [.ptr b 0, .int .i64 (.ofNat k)] h = .ok (.tuple []) h' ∧ BIn G h0 v' (cuSkip k s).1 ∧ Sep (Cel b (cuC v' (cuSkip k s) rest) :: Frz G h0 :: R) h')
    : ∃ rv rh, evF1 (progS Try.prog (compDrawn Try.prog)) N call 67 [(AV.ptr b 0)] h = .ok rv rh ∧ (fun (v : AV) (h' : Hp) => ∃ v', v = .int .u8 (.ofNat (cuOne (l, l_n, e)).1) ∧ BIn G h0 v' ((cuOne (l, l_n, e)).2).1 ∧ Sep (Cel b (cuC v' ((cuOne (l, l_n, e)).2) rest) :: Frz G h0 :: R) h') rv rh := by
  refine fwalk_ok (K := fun (v : AV) (h' : Hp) => ∃ v', v = .int .u8 (.ofNat (cuOne (l, l_n, e)).1) ∧ BIn G h0 v' ((cuOne (l, l_n, e)).2).1 ∧ Sep (Cel b (cuC v' ((cuOne (l, l_n, e)).2) rest) :: Frz G h0 :: R) h') (o := (.tell 4 (AV.int .i64 (Int.ofNat e)) (.fork 1 (.tell 3 vb (.tell 0 (AV.int .i64 (Int.ofNat l.length)) (.fork 1 (.effx 3 (fun e3 => (AV.tuple [])) (fun e3 => (.tell 3 (AV.int .i64 (Int.ofNat 3)) .fin))) (.tell 3 (AV.int .i64 (Int.ofNat e)) (.tell 0 (AV.bool false) (.tell 3 vb (.tell 0 (elemP vb 0 1) (.tell 0 (AV.int .u8 (Int.ofNat (l.getD 0 0))) (.effx 2 (fun e4 => (AV.tuple [])) (fun e4 => .fin)))))))))) (.tell 4 (AV.int .i64 (Int.ofNat e)) (.tell 0 (AV.bool true) .fin))))) (p := (evQ (.loadS (.const (AV.ptr b 2))) .lf h = .ok (AV.int .i64 (Int.ofNat e)) ∧ ((eqI (Int.ofNat e) (Int.ofNat 0) = true → (evQ (.loadS (.const (AV.ptr b 0))) .lf h = .ok vb ∧ (evQ (.lenL (.const vb)) .lf H0 = .ok (AV.int .i64 (Int.ofNat l.length)) ∧ ((eqI (Int.ofNat l.length) (Int.ofNat 0) = true → (∃ e3 : Ev, evE (.store 1 (.const (AV.ptr b 2)) (.const (AV.int .i64 (Int.ofNat 3)))) call .lf h = .ok (AV.tuple []) e3.h ∧ (evQ (.loadS (.const (AV.ptr b 2))) .lf e3.h = .ok (AV.int .i64 (Int.ofNat 3)) ∧ (fun (v : AV) (h' : Hp) => ∃ v', v = .int .u8 (.ofNat (cuOne (l, l_n, e)).1) ∧ BIn G h0 v' ((cuOne (l, l_n, e)).2).1 ∧ Sep (Cel b (cuC v' ((cuOne (l, l_n, e)).2) rest) :: Frz G h0 :: R) h') (AV.int .u8 (Int.ofNat 0)) e3.h))) ∧ (eqI (Int.ofNat l.length) (Int.ofNat 0) = false → (evQ (.loadS (.const (AV.ptr b 2))) .lf h = .ok (AV.int .i64 (Int.ofNat e)) ∧ (evQ (.eq .int true (.const (AV.int .i64 (Int.ofNat e))) (.const (AV.int .i64 (Int.ofNat 0)))) .lf H0 = .ok (AV.bool false) ∧ (evQ (.loadS (.const (AV.ptr b 0))) .lf h = .ok vb ∧ (evQ (.idxAddrSl 1 (.const vb) (.const (AV.int .i64 (Int.ofNat 0)))) .lf H0 = .ok (elemP vb 0 1) ∧ (evQ (.loadS (.const (elemP vb 0 1))) .lf h = .ok (AV.int .u8 (Int.ofNat (l.getD 0 0))) ∧ (∃ e4 : Ev, call 78 [(AV.ptr b 0), (AV.int .i64 (Int.ofNat 1))] h = .ok (AV.tuple []) e4.h ∧ (fun (v : AV) (h' : Hp) => ∃ v', v = .int .u8 (.ofNat (cuOne (l, l_n, e)).1) ∧ BIn G h0 v' ((cuOne (l, l_n, e)).2).1 ∧ Sep (Cel b (cuC v' ((cuOne (l, l_n, e)).2) rest) :: Frz G h0 :: R) h') (AV.int .u8 (Int.ofNat (l.getD 0 0))) e4.h))))))))))) ∧ (eqI (Int.ofNat e) (Int.ofNat 0) = false → (evQ (.loadS (.const (AV.ptr b 2))) .lf h = .ok (AV.int .i64 (Int.ofNat e)) ∧ (evQ (.eq .int true (.const (AV.int .i64 (Int.ofNat e))) (.const (AV.int .i64 (Int.ofNat 0)))) .lf H0 = .ok (AV.bool true) ∧ (fun (v : AV) (h' : Hp) => ∃ v', v = .int .u8 (.ofNat (cuOne (l, l_n, e)).1) ∧ BIn G h0 v' ((cuOne (l, l_n, e)).2).1 ∧ Sep (Cel b (cuC v' ((cuOne (l, l_n, e)).2) rest) :: Frz G h0 :: R) h') (AV.int .u8 (Int.ofNat 0)) h)))))) (by kernel_rfl) ?_
  refine ⟨cel_load S (i := 0) rfl rfl, ?_⟩
  refine ⟨fun c1 => ?_, fun c1 => ?_⟩
  · have rc1 := c1
    replace c1 : e = 0 := eqI_t c1
    refine ⟨cel_load S (i := 0) rfl rfl, ?_⟩
    refine ⟨q_len (BIn.now S (i := 1) rfl P), ?_⟩
    refine ⟨fun c2 => ?_, fun c2 => ?_⟩
    · have rc2 := c2
      replace c2 : l.length = 0 := eqI_t c2
      obtain ⟨e3, qe3, se3⟩ := cel_store call S (i := 0) (o := 2) (x := (AV.int .i64 (Int.ofNat 3))) rfl (by first | decide | (simp; done) | (simp only [List.length_cons, List.length_nil]; omega)) rfl
      have S4 : Sep (Cel b (vb :: (AV.int .i64 (Int.ofNat l_n)) :: (AV.int .i64 (Int.ofNat 3)) :: rest) :: Frz G h0 :: R) e3.h := se3
      refine ⟨e3, qe3, ?_⟩
      refine ⟨cel_load S4 (i := 0) rfl rfl, ?_⟩
      have hx : cuOne (l, l_n, e) = (0, (l, l_n, 3)) := by
        cases l with | nil => simp_all [cuOne] | cons y l => simp_all [cuOne]
      rw [hx]
      exact ⟨_, rfl, P, S4⟩
    · have rc2 := c2
      replace c2 : l.length ≠ 0 := eqI_f c2
      refine ⟨cel_load S (i := 0) rfl rfl, ?_⟩
      refine ⟨congrArg (fun z => OV.ok (AV.bool (notB z))) (rc1), ?_⟩
      refine ⟨cel_load S (i := 0) rfl rfl, ?_⟩
      refine ⟨q_idxB (l := l) (BIn.now S (i := 1) rfl P) (by first | omega | (simp; done) | (simp at *; omega)), ?_⟩
      refine ⟨q_byte (l := l) (BIn.now S (i := 1) rfl P) (by first | omega | (simp; done) | (simp at *; omega)), ?_⟩
      have x3 : l.getD 0 0 < 256 := getD_lt (BIn.now S (i := 1) rfl P).lt 0
      obtain ⟨ve4, he4, qe4, pe4, se4⟩ := hskip 1 (l, l_n, e) rest (by first | assumption | omega | (dsimp only; omega)) P (by first | assumption | omega | (dsimp only; omega)) (by first | assumption | omega | (dsimp only; omega)) S
      obtain ⟨e4, rfl, rfl⟩ : ∃ e : Ev, ve4 = e.v ∧ he4 = e.h := ⟨⟨ve4, .lf, he4⟩, rfl, rfl⟩
      have S5 : Sep (Cel b (e4.v :: (AV.int .i64 (Int.ofNat (l_n + 1))) :: (AV.int .i64 (Int.ofNat e)) :: rest) :: Frz G h0 :: R) e4.h := se4
      refine ⟨e4, qe4, ?_⟩
      have hx : cuOne (l, l_n, e) = (l.getD 0 0, (l.drop 1, l_n + 1, e)) := by
        cases l with | nil => simp_all [cuOne] | cons y l => simp_all [cuOne]
      rw [hx]
      exact ⟨_, rfl, pe4, S5⟩
  · have rc1 := c1
    replace c1 : e ≠ 0 := eqI_f c1
    refine ⟨cel_load S (i := 0) rfl rfl, ?_⟩
    refine ⟨congrArg (fun z => OV.ok (AV.bool (notB z))) (rc1), ?_⟩
    have hx : cuOne (l, l_n, e) = (0, (l, l_n, e)) := by
      cases l with | nil => simp_all [cuOne] | cons y l => simp_all [cuOne]
    rw [hx]
    exact ⟨_, rfl, P, S⟩
theorem fails_walk {call : CallT} {N : Nat} {h : Hp} {h0 : Hp} {G : Nat → Prop} {R : List AObj} {b l_n e : Nat} {vb : AV} {l : List Nat} {rest : List AV} (P : BIn G h0 vb l) (hl : l.length + l_n < 80000) (he : e < 64) (S : Sep (Cel b (vb :: .int .i64 (.ofNat l_n) :: .int .i64 (.ofNat e) :: rest) :: Frz G h0 :: R) h) {is : Bool} {er : Nat}
    : ∃ rv rh, evF1 (progS Try.prog (compDrawn Try.prog)) N call 68 [(AV.ptr b 0), (AV.bool is), (AV.int .i64 (Int.ofNat er))] h = .ok rv rh ∧ (fun (v : AV) (h' : Hp) => ∃ v', v = .tuple [] ∧ BIn G h0 v' (cuFail is er (l, l_n, e)).1 ∧ Sep (Cel b (cuC v' (cuFail is er (l, l_n, e)) rest) :: Frz G h0 :: R) h') rv rh := by
  refine fwalk_ok (K := fun (v : AV) (h' : Hp) => ∃ v', v = .tuple [] ∧ BIn G h0 v' (cuFail is er (l, l_n, e)).1 ∧ Sep (Cel b (cuC v' (cuFail is er (l, l_n, e)) rest) :: Frz G h0 :: R) h') (o := (.fork 1 (.tell 3 (AV.int .i64 (Int.ofNat e)) (.fork 1 (.effx 4 (fun e3 => (AV.tuple [])) (fun e3 => .fin)) .fin)) .fin)) (p := ((is = true → (evQ (.loadS (.const (AV.ptr b 2))) .lf h = .ok (AV.int .i64 (Int.ofNat e)) ∧ ((eqI (Int.ofNat e) (Int.ofNat 0) = true → (∃ e3 : Ev, evE (.store 1 (.const (AV.ptr b 2)) (.const (AV.int .i64 (Int.ofNat er)))) call .lf h = .ok (AV.tuple []) e3.h ∧ (fun (v : AV) (h' : Hp) => ∃ v', v = .tuple [] ∧ BIn G h0 v' (cuFail is er (l, l_n, e)).1 ∧ Sep (Cel b (cuC v' (cuFail is er (l, l_n, e)) rest) :: Frz G h0 :: R) h') (AV.tuple []) e3.h)) ∧ (eqI (Int.ofNat e) (Int.ofNat 0) = false → (fun (v : AV) (h' : Hp) => ∃ v', v = .tuple [] ∧ BIn G h0 v' (cuFail is er (l, l_n, e)).1 ∧ Sep (Cel b (cuC v' (cuFail is er (l, l_n, e)) rest) :: Frz G h0 :: R) h') (AV.tuple []) h)))) ∧ (is = false → (fun (v : AV) (h' : Hp) => ∃ v', v = .tuple [] ∧ BIn G h0 v' (cuFail is er (l, l_n, e)).1 ∧ Sep (Cel b (cuC v' (cuFail is er (l, l_n, e)) rest) :: Frz G h0 :: R) h') (AV.tuple []) h))) (by kernel_rfl) ?_
  refine ⟨fun c1 => ?_, fun c1 => ?_⟩
  · have rc1 := c1
    refine ⟨cel_load S (i := 0) rfl rfl, ?_⟩
    refine ⟨fun c2 => ?_, fun c2 => ?_⟩
    · have rc2 := c2
      replace c2 : e = 0 := eqI_t c2
      obtain ⟨e3, qe3, se3⟩ := cel_store call S (i := 0) (o := 2) (x := (AV.int .i64 (Int.ofNat er))) rfl (by first | decide | (simp; done) | (simp only [List.length_cons, List.length_nil]; omega)) rfl
      have S4 : Sep (Cel b (vb :: (AV.int .i64 (Int.ofNat l_n)) :: (AV.int .i64 (Int.ofNat er)) :: rest) :: Frz G h0 :: R) e3.h := se3
      refine ⟨e3, qe3, ?_⟩
      have hx : cuFail is er (l, l_n, e) = (l, l_n, er) := by
        simp_all [cuFail]
      rw [hx]
      exact ⟨_, rfl, P, S4⟩
    · have rc2 := c2
      replace c2 : e ≠ 0 := eqI_f c2
      have hx : cuFail is er (l, l_n, e) = (l, l_n, e) := by
        simp_all [cuFail]
      rw [hx]
      exact ⟨_, rfl, P, S⟩
  · have rc1 := c1
    have hx : cuFail is er (l, l_n, e) = (l, l_n, e) := by
      simp_all [cuFail]
    rw [hx]
    exact ⟨_, rfl, P, S⟩
theorem number_walk {call : CallT} {N : Nat} {h : Hp} {h0 : Hp} {G : Nat → Prop} {R : List AObj} {b l_n e : Nat} {vb : AV} {l : List Nat} {rest : List AV} (P : BIn G h0 vb l) (hl : l.length + l_n < 80000) (he : e < 64) (S : Sep (Cel b (vb :: .int .i64 (.ofNat l_n) :: .int .i64 (.ofNat e) :: rest) :: Frz G h0 :: R) h) (hskip : ∀ k : Nat, ∀ {h h0 : Hp} {G : Nat → Prop} {R : List AObj} {b : Nat} {vb : AV} (s : Cu) (rest : List AV), k ≤ s.1.length → BIn G h0 vb s.1 → s.1.length + s.2.1 < 80000 → s.2.2 < 64 → Sep (Cel b (cuC vb s rest) :: Frz G h0 :: R) h → ∃ v' h', call 78 [.ptr b 0, .int .i64 (.ofNat k)] h = .ok (.tuple []) h' ∧ BIn G h0 v' (cuSkip k s).1 ∧ Sep (Cel b (cuC v' (cuSkip k s) rest) :: Frz G h0 :: R) h') (hU32 : NumS call 22 32 false .u32 fun n => .ofNat (n % 4294967296))
    : ∃ rv rh, evF1 (progS Try.prog (compDrawn Try.prog)) N call 71 [(AV.ptr b 0)] h = .ok rv rh ∧ (fun (v : AV) (h' : Hp) => ∃ v', v = .int .u32 (.ofNat (cuNum (l, l_n, e)).1) ∧ BIn G h0 v' ((cuNum (l, l_n, e)).2).1 ∧ Sep (Cel b (cuC v' ((cuNum (l, l_n, e)).2) rest) :: Frz G h0 :: R) h') rv rh := by
  have bdl := readG_len (size := 32) (sg := false) l 0 0 0
  refine fwalk_ok (K := fun (v : AV) (h' : Hp) => ∃ v', v = .int .u32 (.ofNat (cuNum (l, l_n, e)).1) ∧ BIn G h0 v' ((cuNum (l, l_n, e)).2).1 ∧ Sep (Cel b (cuC v' ((cuNum (l, l_n, e)).2) rest) :: Frz G h0 :: R) h') (o := (.tell 4 (AV.int .i64 (Int.ofNat e)) (.fork 0 .fin (.tell 3 vb (.eff 0 (AV.tuple [(AV.int .u32 (Int.ofNat ((readG 32 false l 0 0 0).1 % 4294967296))), (AV.int .i64 (Int.ofNat ((readG 32 false l 0 0 0).2.1))), (AV.int .i64 (Int.ofNat ((readG 32 false l 0 0 0).2.2)))]) h (.effx 9 (fun e2 => (AV.tuple [])) (fun e2 => (.effx 4 (fun e4 => (AV.tuple [])) (fun e4 => .fin))))))))) (p := (evQ (.loadS (.const (AV.ptr b 2))) .lf h = .ok (AV.int .i64 (Int.ofNat e)) ∧ ((notB (eqI (Int.ofNat e) (Int.ofNat 0)) = true → (fun (v : AV) (h' : Hp) => ∃ v', v = .int .u32 (.ofNat (cuNum (l, l_n, e)).1) ∧ BIn G h0 v' ((cuNum (l, l_n, e)).2).1 ∧ Sep (Cel b (cuC v' ((cuNum (l, l_n, e)).2) rest) :: Frz G h0 :: R) h') (AV.int .u32 (Int.ofNat 0)) h) ∧ (notB (eqI (Int.ofNat e) (Int.ofNat 0)) = false → (evQ (.loadS (.const (AV.ptr b 0))) .lf h = .ok vb ∧ (call 22 [vb] h = .ok (AV.tuple [(AV.int .u32 (Int.ofNat ((readG 32 false l 0 0 0).1 % 4294967296))), (AV.int .i64 (Int.ofNat ((readG 32 false l 0 0 0).2.1))), (AV.int .i64 (Int.ofNat ((readG 32 false l 0 0 0).2.2)))]) h ∧ (∃ e2 : Ev, call 78 [(AV.ptr b 0), (AV.int .i64 (Int.ofNat ((readG 32 false l 0 0 0).2.1)))] h = .ok (AV.tuple []) e2.h ∧ (∃ e4 : Ev, evE (.store 1 (.const (AV.ptr b 2)) (.const (AV.int .i64 (Int.ofNat ((readG 32 false l 0 0 0).2.2))))) call .lf e2.h = .ok (AV.tuple []) e4.h ∧ (fun (v : AV) (h' : Hp) => ∃ v', v = .int .u32 (.ofNat (cuNum (l, l_n, e)).1) ∧ BIn G h0 v' ((cuNum (l, l_n, e)).2).1 ∧ Sep (Cel b (cuC v' ((cuNum (l, l_n, e)).2) rest) :: Frz G h0 :: R) h') (AV.int .u32 (Int.ofNat ((readG 32 false l 0 0 0).1 % 4294967296))) e4.h)))))))) (by kernel_rfl) ?_
  refine ⟨cel_load S (i := 0) rfl rfl, ?_⟩
  refine ⟨fun c1 => ?_, fun c1 => ?_⟩
  · have rc1 := c1
    replace c1 : e ≠ 0 := eqI_f (notB_t c1)
    have hx : cuNum (l, l_n, e) = (0, (l, l_n, e)) := by
      simp_all [cuNum]
    rw [hx]
    exact ⟨_, rfl, P, S⟩
  · have rc1 := c1
    replace c1 : e = 0 := eqI_t (notB_f c1)
    refine ⟨cel_load S (i := 0) rfl rfl, ?_⟩
    refine ⟨hU32 (BIn.now S (i := 1) rfl P) (by first | omega | (dsimp only; omega)), ?_⟩
    obtain ⟨ve2, he2, qe2, pe2, se2⟩ := hskip ((readG 32 false l 0 0 0).2.1) (l, l_n, e) rest (by first | assumption | omega | (dsimp only; omega)) P (by first | assumption | omega | (dsimp only; omega)) (by first | assumption | omega | (dsimp only; omega)) S
    obtain ⟨e2, rfl, rfl⟩ : ∃ e : Ev, ve2 = e.v ∧ he2 = e.h := ⟨⟨ve2, .lf, he2⟩, rfl, rfl⟩
    have S3 : Sep (Cel b (e2.v :: (AV.int .i64 (Int.ofNat (l_n + ((readG 32 false l 0 0 0).2.1)))) :: (AV.int .i64 (Int.ofNat e)) :: rest) :: Frz G h0 :: R) e2.h := se2
    refine ⟨e2, qe2, ?_⟩
    obtain ⟨e4, qe4, se4⟩ := cel_store call S3 (i := 0) (o := 2) (x := (AV.int .i64 (Int.ofNat ((readG 32 false l 0 0 0).2.2)))) rfl (by first | decide | (simp; done) | (simp only [List.length_cons, List.length_nil]; omega)) rfl
    have S5 : Sep (Cel b (e2.v :: (AV.int .i64 (Int.ofNat (l_n + ((readG 32 false l 0 0 0).2.1)))) :: (AV.int .i64 (Int.ofNat ((readG 32 false l 0 0 0).2.2))) :: rest) :: Frz G h0 :: R) e4.h := se4
    refine ⟨e4, qe4, ?_⟩
    have hx : cuNum (l, l_n, e) = ((readG 32 false l 0 0 0).1 % 4294967296, (l.drop ((readG 32 false l 0 0 0).2.1), l_n + ((readG 32 false l 0 0 0).2.1), (readG 32 false l 0 0 0).2.2)) := by
      simp_all [cuNum]
    rw [hx]
    exact ⟨_, rfl, pe2, S5⟩
theorem value_walk {call : CallT} {N : Nat} {h : Hp} {x : Nat} (hx : x < 256)
    : ∃ rv rh, evF1 (progS Try.prog (compDrawn Try.prog)) N call 41 [(AV.int .u8 (Int.ofNat x))] h = .ok rv rh ∧ (fun (v : AV) (h' : Hp) => h' = h ∧ v = .tuple [.bool (tyV x).1, .int .i64 (.ofNat (tyV x).2)]) rv rh := by
  refine fwalk_ok (K := fun (v : AV) (h' : Hp) => h' = h ∧ v = .tuple [.bool (tyV x).1, .int .i64 (.ofNat (tyV x).2)]) (o := (.fork 4 .fin (.fork 1 .fin (.fork 1 .fin (.fork 1 .fin (.fork 1 .fin (.fork 1 .fin (.fork 1 .fin .fin)))))))) (p := ((eqI (Int.ofNat x) (Int.ofNat 127) = true → (fun (v : AV) (h' : Hp) => h' = h ∧ v = .tuple [.bool (tyV x).1, .int .i64 (.ofNat (tyV x).2)]) (AV.tuple [(AV.bool true), (AV.int .i64 (Int.ofNat 0))]) h) ∧ (eqI (Int.ofNat x) (Int.ofNat 127) = false → ((eqI (Int.ofNat x) (Int.ofNat 126) = true → (fun (v : AV) (h' : Hp) => h' = h ∧ v = .tuple [.bool (tyV x).1, .int .i64 (.ofNat (tyV x).2)]) (AV.tuple [(AV.bool true), (AV.int .i64 (Int.ofNat 0))]) h) ∧ (eqI (Int.ofNat x) (Int.ofNat 126) = false → ((eqI (Int.ofNat x) (Int.ofNat 112) = true → (fun (v : AV) (h' : Hp) => h' = h ∧ v = .tuple [.bool (tyV x).1, .int .i64 (.ofNat (tyV x).2)]) (AV.tuple [(AV.bool true), (AV.int .i64 (Int.ofNat 0))]) h) ∧ (eqI (Int.ofNat x) (Int.ofNat 112) = false → ((eqI (Int.ofNat x) (Int.ofNat 111) = true → (fun (v : AV) (h' : Hp) => h' = h ∧ v = .tuple [.bool (tyV x).1, .int .i64 (.ofNat (tyV x).2)]) (AV.tuple [(AV.bool true), (AV.int .i64 (Int.ofNat 0))]) h) ∧ (eqI (Int.ofNat x) (Int.ofNat 111) = false → ((eqI (Int.ofNat x) (Int.ofNat 125) = true → (fun (v : AV) (h' : Hp) => h' = h ∧ v = .tuple [.bool (tyV x).1, .int .i64 (.ofNat (tyV x).2)]) (AV.tuple [(AV.bool false), (AV.int .i64 (Int.ofNat 5))]) h) ∧ (eqI (Int.ofNat x) (Int.ofNat 125) = false → ((eqI (Int.ofNat x) (Int.ofNat 124) = true → (fun (v : AV) (h' : Hp) => h' = h ∧ v = .tuple [.bool (tyV x).1, .int .i64 (.ofNat (tyV x).2)]) (AV.tuple [(AV.bool false), (AV.int .i64 (Int.ofNat 5))]) h) ∧ (eqI (Int.ofNat x) (Int.ofNat 124) = false → ((eqI (Int.ofNat x) (Int.ofNat 123) = true → (fun (v : AV) (h' : Hp) => h' = h ∧ v = .tuple [.bool (tyV x).1, .int .i64 (.ofNat (tyV x).2)]) (AV.tuple [(AV.bool false), (AV.int .i64 (Int.ofNat 5))]) h) ∧ (eqI (Int.ofNat x) (Int.ofNat 123) = false → (fun (v : AV) (h' : Hp) => h' = h ∧ v = .tuple [.bool (tyV x).1, .int .i64 (.ofNat (tyV x).2)]) (AV.tuple [(AV.bool false), (AV.int .i64 (Int.ofNat 2))]) h))))))))))))))) (by kernel_rfl) ?_
  refine ⟨fun c1 => ?_, fun c1 => ?_⟩
  · have rc1 := c1
    replace c1 : x = 127 := eqI_t c1
    refine ⟨rfl, ?_⟩
    simp_all [tyV]
  · have rc1 := c1
    replace c1 : x ≠ 127 := eqI_f c1
    refine ⟨fun c2 => ?_, fun c2 => ?_⟩
    · have rc2 := c2
      replace c2 : x = 126 := eqI_t c2
      refine ⟨rfl, ?_⟩
      simp_all [tyV]
    · have rc2 := c2
      replace c2 : x ≠ 126 := eqI_f c2
      refine ⟨fun c3 => ?_, fun c3 => ?_⟩
      · have rc3 := c3
        replace c3 : x = 112 := eqI_t c3
        refine ⟨rfl, ?_⟩
        simp_all [tyV]
      · have rc3 := c3
        replace c3 : x ≠ 112 := eqI_f c3
        refine ⟨fun c4 => ?_, fun c4 => ?_⟩
        · have rc4 := c4
          replace c4 : x = 111 := eqI_t c4
          refine ⟨rfl, ?_⟩
          simp_all [tyV]
        · have rc4 := c4
          replace c4 : x ≠ 111 := eqI_f c4
          refine ⟨fun c5 => ?_, fun c5 => ?_⟩
          · have rc5 := c5
            replace c5 : x = 125 := eqI_t c5
            refine ⟨rfl, ?_⟩
            simp_all [tyV]
          · have rc5 := c5
            replace c5 : x ≠ 125 := eqI_f c5
            refine ⟨fun c6 => ?_, fun c6 => ?_⟩
            · have rc6 := c6
              replace c6 : x = 124 := eqI_t c6
              refine ⟨rfl, ?_⟩
              simp_all [tyV]
            · have rc6 := c6
              replace c6 : x ≠ 124 := eqI_f c6
              refine ⟨fun c7 => ?_, fun c7 => ?_⟩
              · have rc7 := c7
                replace c7 : x = 123 := eqI_t c7
                refine ⟨rfl, ?_⟩
                simp_all [tyV]
              · have rc7 := c7
                replace c7 : x ≠ 123 := eqI_f c7
                refine ⟨rfl, ?_⟩
                simp_all [tyV]
theorem rvalue_walk {call : CallT} {N : Nat} {h : Hp} {x : Nat} (hx : x < 256)
    : ∃ rv rh, evF1 (progS Try.prog (compDrawn Try.prog)) N call 42 [(AV.int .u8 (Int.ofNat x))] h = .ok rv rh ∧ (fun (v : AV) (h' : Hp) => h' = h ∧ v = .tuple [.bool (tyV x).1, .int .i64 (.ofNat (tyV x).2)]) rv rh := by
  refine fwalk_ok (K := fun (v : AV) (h' : Hp) => h' = h ∧ v = .tuple [.bool (tyV x).1, .int .i64 (.ofNat (tyV x).2)]) (o := (.fork 4 .fin (.fork 1 .fin (.fork 1 .fin (.fork 1 .fin (.fork 1 .fin (.fork 1 .fin (.fork 1 .fin .fin)))))))) (p := ((eqI (Int.ofNat x) (Int.ofNat 127) = true → (fun (v : AV) (h' : Hp) => h' = h ∧ v = .tuple [.bool (tyV x).1, .int .i64 (.ofNat (tyV x).2)]) (AV.tuple [(AV.bool true), (AV.int .i64 (Int.ofNat 0))]) h) ∧ (eqI (Int.ofNat x) (Int.ofNat 127) = false → ((eqI (Int.ofNat x) (Int.ofNat 126) = true → (fun (v : AV) (h' : Hp) => h' = h ∧ v = .tuple [.bool (tyV x).1, .int .i64 (.ofNat (tyV x).2)]) (AV.tuple [(AV.bool true), (AV.int .i64 (Int.ofNat 0))]) h) ∧ (eqI (Int.ofNat x) (Int.ofNat 126) = false → ((eqI (Int.ofNat x) (Int.ofNat 112) = true → (fun (v : AV) (h' : Hp) => h' = h ∧ v = .tuple [.bool (tyV x).1, .int .i64 (.ofNat (tyV x).2)]) (AV.tuple [(AV.bool true), (AV.int .i64 (Int.ofNat 0))]) h) ∧ (eqI (Int.ofNat x) (Int.ofNat 112) = false → ((eqI (Int.ofNat x) (Int.ofNat 111) = true → (fun (v : AV) (h' : Hp) => h' = h ∧ v = .tuple [.bool (tyV x).1, .int .i64 (.ofNat (tyV x).2)]) (AV.tuple [(AV.bool true), (AV.int .i64 (Int.ofNat 0))]) h) ∧ (eqI (Int.ofNat x) (Int.ofNat 111) = false → ((eqI (Int.ofNat x) (Int.ofNat 125) = true → (fun (v : AV) (h' : Hp) => h' = h ∧ v = .tuple [.bool (tyV x).1, .int .i64 (.ofNat (tyV x).2)]) (AV.tuple [(AV.bool false), (AV.int .i64 (Int.ofNat 5))]) h) ∧ (eqI (Int.ofNat x) (Int.ofNat 125) = false → ((eqI (Int.ofNat x) (Int.ofNat 124) = true → (fun (v : AV) (h' : Hp) => h' = h ∧ v = .tuple [.bool (tyV x).1, .int .i64 (.ofNat (tyV x).2)]) (AV.tuple [(AV.bool false), (AV.int .i64 (Int.ofNat 5))]) h) ∧ (eqI (Int.ofNat x) (Int.ofNat 124) = false → ((eqI (Int.ofNat x) (Int.ofNat 123) = true → (fun (v : AV) (h' : Hp) => h' = h ∧ v = .tuple [.bool (tyV x).1, .int .i64 (.ofNat (tyV x).2)]) (AV.tuple [(AV.bool false), (AV.int .i64 (Int.ofNat 5))]) h) ∧ (eqI (Int.ofNat x) (Int.ofNat 123) = false → (fun (v : AV) (h' : Hp) => h' = h ∧ v = .tuple [.bool (tyV x).1, .int .i64 (.ofNat (tyV x).2)]) (AV.tuple [(AV.bool false), (AV.int .i64 (Int.ofNat 2))]) h))))))))))))))) (by kernel_rfl) ?_
  refine ⟨fun c1 => ?_, fun c1 => ?_⟩
  · have rc1 := c1
    replace c1 : x = 127 := eqI_t c1
    refine ⟨rfl, ?_⟩
    simp_all [tyV]
  · have rc1 := c1
    replace c1 : x ≠ 127 := eqI_f c1
    refine ⟨fun c2 => ?_, fun c2 => ?_⟩
    · have rc2 := c2
      replace c2 : x = 126 := eqI_t c2
      refine ⟨rfl, ?_⟩
      simp_all [tyV]
    · have rc2 := c2
      replace c2 : x ≠ 126 := eqI_f c2
      refine ⟨fun c3 => ?_, fun c3 => ?_⟩
      · have rc3 := c3
        replace c3 : x = 112 := eqI_t c3
        refine ⟨rfl, ?_⟩
        simp_all [tyV]
      · have rc3 := c3
        replace c3 : x ≠ 112 := eqI_f c3
        refine ⟨fun c4 => ?_, fun c4 => ?_⟩
        · have rc4 := c4
          replace c4 : x = 111 := eqI_t c4
          refine ⟨rfl, ?_⟩
          simp_all [tyV]
        · have rc4 := c4
          replace c4 : x ≠ 111 := eqI_f c4
          refine ⟨fun c5 => ?_, fun c5 => ?_⟩
          · have rc5 := c5
            replace c5 : x = 125 := eqI_t c5
            refine ⟨rfl, ?_⟩
            simp_all [tyV]
          · have rc5 := c5
            replace c5 : x ≠ 125 := eqI_f c5
            refine ⟨fun c6 => ?_, fun c6 => ?_⟩
            · have rc6 := c6
              replace c6 : x = 124 := eqI_t c6
              refine ⟨rfl, ?_⟩
              simp_all [tyV]
            · have rc6 := c6
              replace c6 : x ≠ 124 := eqI_f c6
              refine ⟨fun c7 => ?_, fun c7 => ?_⟩
              · have rc7 := c7
                replace c7 : x = 123 := eqI_t c7
                refine ⟨rfl, ?_⟩
                simp_all [tyV]
              · have rc7 := c7
                replace c7 : x ≠ 123 := eqI_f c7
                refine ⟨rfl, ?_⟩
                simp_all [tyV]
theorem ref_walk {call : CallT} {N : Nat} {h : Hp} {x : Nat} (hx : x < 256)
    : ∃ rv rh, evF1 (progS Try.prog (compDrawn Try.prog)) N call 47 [(AV.int .u8 (Int.ofNat x))] h = .ok rv rh ∧ (fun (v : AV) (h' : Hp) => h' = h ∧ v = .bool (refV x)) rv rh := by
  refine fwalk_ok (K := fun (v : AV) (h' : Hp) => h' = h ∧ v = .bool (refV x)) (o := (.fork 3 .fin (.fork 3 .fin .fin))) (p := ((eqI (Int.ofNat x) (Int.ofNat 112) = true → (fun (v : AV) (h' : Hp) => h' = h ∧ v = .bool (refV x)) (AV.bool true) h) ∧ (eqI (Int.ofNat x) (Int.ofNat 112) = false → ((eqI (Int.ofNat x) (Int.ofNat 111) = true → (fun (v : AV) (h' : Hp) => h' = h ∧ v = .bool (refV x)) (AV.bool true) h) ∧ (eqI (Int.ofNat x) (Int.ofNat 111) = false → (fun (v : AV) (h' : Hp) => h' = h ∧ v = .bool (refV x)) (AV.bool false) h))))) (by kernel_rfl) ?_
  refine ⟨fun c1 => ?_, fun c1 => ?_⟩
  · have rc1 := c1
    replace c1 : x = 112 := eqI_t c1
    refine ⟨rfl, ?_⟩
    simp_all [refV]
  · have rc1 := c1
    replace c1 : x ≠ 112 := eqI_f c1
    refine ⟨fun c2 => ?_, fun c2 => ?_⟩
    · have rc2 := c2
      replace c2 : x = 111 := eqI_t c2
      refine ⟨rfl, ?_⟩
      simp_all [refV]
    · have rc2 := c2
      replace c2 : x ≠ 111 := eqI_f c2
      refine ⟨rfl, ?_⟩
      simp_all [refV]
theorem rref_walk {call : CallT} {N : Nat} {h : Hp} {x : Nat} (hx : x < 256)
    : ∃ rv rh, evF1 (progS Try.prog (compDrawn Try.prog)) N call 48 [(AV.int .u8 (Int.ofNat x))] h = .ok rv rh ∧ (fun (v : AV) (h' : Hp) => h' = h ∧ v = .bool (refV x)) rv rh := by
  refine fwalk_ok (K := fun (v : AV) (h' : Hp) => h' = h ∧ v = .bool (refV x)) (o := (.fork 3 .fin (.fork 3 .fin .fin))) (p := ((eqI (Int.ofNat x) (Int.ofNat 112) = true → (fun (v : AV) (h' : Hp) => h' = h ∧ v = .bool (refV x)) (AV.bool true) h) ∧ (eqI (Int.ofNat x) (Int.ofNat 112) = false → ((eqI (Int.ofNat x) (Int.ofNat 111) = true → (fun (v : AV) (h' : Hp) => h' = h ∧ v = .bool (refV x)) (AV.bool true) h) ∧ (eqI (Int.ofNat x) (Int.ofNat 111) = false → (fun (v : AV) (h' : Hp) => h' = h ∧ v = .bool (refV x)) (AV.bool false) h))))) (by kernel_rfl) ?_
  refine ⟨fun c1 => ?_, fun c1 => ?_⟩
  · have rc1 := c1
    replace c1 : x = 112 := eqI_t c1
    refine ⟨rfl, ?_⟩
    simp_all [refV]
  · have rc1 := c1
    replace c1 : x ≠ 112 := eqI_f c1
    refine ⟨fun c2 => ?_, fun c2 => ?_⟩
    · have rc2 := c2
      replace c2 : x = 111 := eqI_t c2
      refine ⟨rfl, ?_⟩
      simp_all [refV]
    · have rc2 := c2
      replace c2 : x ≠ 111 := eqI_f c2
      refine ⟨rfl, ?_⟩
      simp_all [refV]
noncomputable def values_loopC : AC := (.seq (.seq (.region [⟨(some 18), .q (.move (.tmp 4)), none⟩, ⟨(some 19), .q (.bin .gtr (.tmp 18) (.const (AV.int .u32 (Int.ofNat 0)))), none⟩, ⟨(some 20), .q (.move (.tmp 19)), none⟩, ⟨(some 21), .q (.move (.tmp 0)), (some (20, true))⟩, ⟨(some 22), .q (.nilCheck (.tmp 21)), (some (20, true))⟩, ⟨(some 23), .q (.fieldAddr 0 (.tmp 22)), (some (20, true))⟩, ⟨(some 24), .q (.fieldAddr 2 (.tmp 23)), (some (20, true))⟩, ⟨(some 25), .q (.loadS (.tmp 24)), (some (20, true))⟩, ⟨(some 26), .q (.eq .int false (.tmp 25) (.const (AV.int .i64 (Int.ofNat 0)))), (some (20, true))⟩, ⟨(some 27), .q (.pick (.tmp 20) (.tmp 26) (.const (AV.bool false))), none⟩]) (.cond (.tmp 27) .skip (.exit 0))) (.seq (.block 1 (.seq (.region [⟨(some 30), .q (.move (.tmp 0)), none⟩, ⟨(some 31), .q (.nilCheck (.tmp 30)), none⟩, ⟨(some 32), .q (.fieldAddr 0 (.tmp 31)), none⟩, ⟨(some 33), .e (.call (.const (AV.func (.func 67) [] [])) [(.tmp 32)]), none⟩, ⟨(some 5), .q (.move (.tmp 33)), none⟩]) (.seq (.region [⟨(some 35), .q (.move (.tmp 5)), none⟩, ⟨(some 36), .e (.call (.const (AV.func (.func 41) [] [])) [(.tmp 35)]), none⟩, ⟨(some 34), .q (.move (.tmp 36)), none⟩, ⟨(some 37), .q (.extract 0 (.tmp 34)), none⟩, ⟨(some 38), .q (.extract 1 (.tmp 34)), none⟩, ⟨(some 6), .q (.move (.tmp 37)), none⟩, ⟨(some 7), .q (.move (.tmp 38)), none⟩]) (.seq (.region [⟨(some 39), .q (.move (.tmp 0)), none⟩, ⟨(some 40), .q (.nilCheck (.tmp 39)), none⟩, ⟨(some 41), .q (.fieldAddr 0 (.tmp 40)), none⟩, ⟨(some 42), .q (.move (.tmp 6)), none⟩, ⟨(some 43), .q (.un .not (.tmp 42)), none⟩, ⟨(some 44), .q (.move (.tmp 7)), none⟩, ⟨(some 45), .e (.call (.const (AV.func (.func 68) [] [])) [(.tmp 41), (.tmp 43), (.tmp 44)]), none⟩]) (.region [⟨(some 46), .q (.move (.tmp 3)), none⟩, ⟨(some 47), .q (.move (.tmp 5)), none⟩, ⟨(some 48), .l (.buildSlice 1 1 [(AV.int .u8 (Int.ofNat 0))] [(0, 1, (.tmp 47))]), none⟩, ⟨(some 49), .e (.append 1 1 (.tmp 46) (.tmp 48)), none⟩, ⟨(some 3), .q (.move (.tmp 49)), none⟩]))))) (.region [⟨(some 28), .q (.move (.tmp 4)), none⟩, ⟨(some 29), .q (.bin .sub (.tmp 28) (.const (AV.int .u32 (Int.ofNat 1)))), none⟩, ⟨(some 4), .q (.move (.tmp 29)), none⟩])))
theorem values_loop_body {call : CallT} {N : Nat} {t : T} {h : Hp} {h0 : Hp} {G : Nat → Prop} {R : List AObj} {b : Nat} {rest : List AV} {res : List Nat × Cu} (hone : CuM call 67 [] (fun s => .int .u8 (.ofNat (cuOne s).1)) fun s => (cuOne s).2) (hfail : ∀ (is : Bool) (er : Nat), er < 64 → CuM call 68 [.bool is, .int .i64 (.ofNat er)] (fun _ => .tuple []) (cuFail is er)) (hval : ValS call 41) {k : Nat} {acc : List Nat} {w : AV} {st : Cu} {vb : AV} (hi : (fun (z : Nat × List Nat × AV × Cu × AV) (h' : Hp) => BIn G h0 z.2.2.2.2 z.2.2.2.1.1 ∧ z.2.2.2.1.1.length + z.2.2.2.1.2.1 < 80000 ∧ z.2.2.2.1.2.2 < 64 ∧ (z.2.2.2.1.2.2 = 0 → z.1 ≤ 8) ∧ z.2.1.length + (if z.2.2.2.1.2.2 = 0 then z.1 else 0) ≤ 8 ∧ (∀ x ∈ z.2.1, x < 256) ∧ z.1 < 4294967296 ∧ cuValsL z.1 z.2.1 z.2.2.2.1 = res ∧ Sep (OwnO 1 z.2.2.1 z.2.1.length (u8s z.2.1) :: Cel b (cuC z.2.2.2.2 z.2.2.2.1 rest) :: Frz G h0 :: R) h') (k, acc, w, st, vb) h)
    : ∃ s, evC call N values_loopC (ovT [(0, (AV.ptr b 0)), (3, w), (4, (AV.int .u32 (Int.ofNat k)))] t) h = s ∧ obsS [0, 3, 4] (fun ls h' => ∃ y, ls = ((fun (z : Nat × List Nat × AV × Cu × AV) => [(0, (AV.ptr b 0)), (3, z.2.2.1), (4, (AV.int .u32 (Int.ofNat z.1)))]) y).map (fun p => some p.2) ∧ (fun (z : Nat × List Nat × AV × Cu × AV) (h' : Hp) => BIn G h0 z.2.2.2.2 z.2.2.2.1.1 ∧ z.2.2.2.1.1.length + z.2.2.2.1.2.1 < 80000 ∧ z.2.2.2.1.2.2 < 64 ∧ (z.2.2.2.1.2.2 = 0 → z.1 ≤ 8) ∧ z.2.1.length + (if z.2.2.2.1.2.2 = 0 then z.1 else 0) ≤ 8 ∧ (∀ x ∈ z.2.1, x < 256) ∧ z.1 < 4294967296 ∧ cuValsL z.1 z.2.1 z.2.2.2.1 = res ∧ Sep (OwnO 1 z.2.2.1 z.2.1.length (u8s z.2.1) :: Cel b (cuC z.2.2.2.2 z.2.2.2.1 rest) :: Frz G h0 :: R) h') y h' ∧ (fun (z : Nat × List Nat × AV × Cu × AV) => (if z.2.2.2.1.2.2 = 0 then z.1 else 0)) y < (fun (z : Nat × List Nat × AV × Cu × AV) => (if z.2.2.2.1.2.2 = 0 then z.1 else 0)) (k, acc, w, st, vb)) (fun i ls h' => ∃ y, ls = ((fun (z : Nat × List Nat × AV × Cu × AV) => [(0, (AV.ptr b 0)), (3, z.2.2.1), (4, (AV.int .u32 (Int.ofNat z.1)))]) y).map (fun p => some p.2) ∧ (fun (i : Nat) (z : Nat × List Nat × AV × Cu × AV) (h' : Hp) => (i = 0) ∧ (i = 0 → BIn G h0 z.2.2.2.2 z.2.2.2.1.1 ∧ (z.2.1, z.2.2.2.1) = res ∧ Sep (OwnO 1 z.2.2.1 z.2.1.length (u8s z.2.1) :: Cel b (cuC z.2.2.2.2 z.2.2.2.1 rest) :: Frz G h0 :: R) h')) i y h') (fun ls h' => (fun (ls : List (Option AV)) (h' : Hp) => False) ls h') s := by
  have hi : BIn G h0 vb st.1 ∧ st.1.length + st.2.1 < 80000 ∧ st.2.2 < 64 ∧ (st.2.2 = 0 → k ≤ 8) ∧ acc.length + (if st.2.2 = 0 then k else 0) ≤ 8 ∧ (∀ x ∈ acc, x < 256) ∧ k < 4294967296 ∧ cuValsL k acc st = res ∧ Sep (OwnO 1 w acc.length (u8s acc) :: Cel b (cuC vb st rest) :: Frz G h0 :: R) h := hi
  obtain ⟨P, hl, he, hk, hal, hlt, hk2, hr, S⟩ := hi
  have hst := BIn.lt P
  refine walk_ok (o := (.fork 2 (.tell 4 (AV.int .i64 (Int.ofNat st.2.2)) (.fork 1 (.effx 3 (fun e5 => (AV.int .u8 (Int.ofNat ((cuOne st).1)))) (fun e5 => (.eff 2 (AV.tuple [(AV.bool ((tyV ((cuOne st).1)).1)), (AV.int .i64 (Int.ofNat ((tyV ((cuOne st).1)).2)))]) e5.h (.effx 11 (fun e8 => (AV.tuple [])) (fun e8 => (.effx 3 (fun e11 => e11.v) (fun e11 => (.tell 2 (AV.int .u32 (Int.ofNat (k - 1))) .fin)))))))) .fin)) .fin)) (p := ((ltI (Int.ofNat 0) (Int.ofNat k) = true → (evQ (.loadS (.const (AV.ptr b 2))) .lf h = .ok (AV.int .i64 (Int.ofNat st.2.2)) ∧ ((eqI (Int.ofNat st.2.2) (Int.ofNat 0) = true → (∃ e5 : Ev, call 67 [(AV.ptr b 0)] h = .ok (AV.int .u8 (Int.ofNat ((cuOne st).1))) e5.h ∧ (call 41 [(AV.int .u8 (Int.ofNat ((cuOne st).1)))] e5.h = .ok (AV.tuple [(AV.bool ((tyV ((cuOne st).1)).1)), (AV.int .i64 (Int.ofNat ((tyV ((cuOne st).1)).2)))]) e5.h ∧ (∃ e8 : Ev, call 68 [(AV.ptr b 0), (AV.bool (notB ((tyV ((cuOne st).1)).1))), (AV.int .i64 (Int.ofNat ((tyV ((cuOne st).1)).2)))] e5.h = .ok (AV.tuple []) e8.h ∧ (∃ e11 : Ev, evE (.append 1 1 (.const w) (.const (AV.slice (Hp.next e8.h) 0 1 1 1 true))) call .lf (hpush e8.h (mkCells [(AV.int .u8 (Int.ofNat ((cuOne st).1)))] 1)) = .ok e11.v e11.h ∧ (evQ (.bin .sub (.const (AV.int .u32 (Int.ofNat k))) (.const (AV.int .u32 (Int.ofNat 1)))) .lf H0 = .ok (AV.int .u32 (Int.ofNat (k - 1))) ∧ ((fun ls h' => ∃ y, ls = ((fun (z : Nat × List Nat × AV × Cu × AV) => [(0, (AV.ptr b 0)), (3, z.2.2.1), (4, (AV.int .u32 (Int.ofNat z.1)))]) y).map (fun p => some p.2) ∧ (fun (z : Nat × List Nat × AV × Cu × AV) (h' : Hp) => BIn G h0 z.2.2.2.2 z.2.2.2.1.1 ∧ z.2.2.2.1.1.length + z.2.2.2.1.2.1 < 80000 ∧ z.2.2.2.1.2.2 < 64 ∧ (z.2.2.2.1.2.2 = 0 → z.1 ≤ 8) ∧ z.2.1.length + (if z.2.2.2.1.2.2 = 0 then z.1 else 0) ≤ 8 ∧ (∀ x ∈ z.2.1, x < 256) ∧ z.1 < 4294967296 ∧ cuValsL z.1 z.2.1 z.2.2.2.1 = res ∧ Sep (OwnO 1 z.2.2.1 z.2.1.length (u8s z.2.1) :: Cel b (cuC z.2.2.2.2 z.2.2.2.1 rest) :: Frz G h0 :: R) h') y h' ∧ (fun (z : Nat × List Nat × AV × Cu × AV) => (if z.2.2.2.1.2.2 = 0 then z.1 else 0)) y < (fun (z : Nat × List Nat × AV × Cu × AV) => (if z.2.2.2.1.2.2 = 0 then z.1 else 0)) (k, acc, w, st, vb)) : List (Option AV) → Hp → Prop) [some (AV.ptr b 0), some e11.v, some (AV.int .u32 (Int.ofNat (k - 1)))] e11.h)))))) ∧ (eqI (Int.ofNat st.2.2) (Int.ofNat 0) = false → ((fun i ls h' => ∃ y, ls = ((fun (z : Nat × List Nat × AV × Cu × AV) => [(0, (AV.ptr b 0)), (3, z.2.2.1), (4, (AV.int .u32 (Int.ofNat z.1)))]) y).map (fun p => some p.2) ∧ (fun (i : Nat) (z : Nat × List Nat × AV × Cu × AV) (h' : Hp) => (i = 0) ∧ (i = 0 → BIn G h0 z.2.2.2.2 z.2.2.2.1.1 ∧ (z.2.1, z.2.2.2.1) = res ∧ Sep (OwnO 1 z.2.2.1 z.2.1.length (u8s z.2.1) :: Cel b (cuC z.2.2.2.2 z.2.2.2.1 rest) :: Frz G h0 :: R) h')) i y h') : Nat → List (Option AV) → Hp → Prop) 0 [some (AV.ptr b 0), some w, some (AV.int .u32 (Int.ofNat k))] h)))) ∧ (ltI (Int.ofNat 0) (Int.ofNat k) = false → ((fun i ls h' => ∃ y, ls = ((fun (z : Nat × List Nat × AV × Cu × AV) => [(0, (AV.ptr b 0)), (3, z.2.2.1), (4, (AV.int .u32 (Int.ofNat z.1)))]) y).map (fun p => some p.2) ∧ (fun (i : Nat) (z : Nat × List Nat × AV × Cu × AV) (h' : Hp) => (i = 0) ∧ (i = 0 → BIn G h0 z.2.2.2.2 z.2.2.2.1.1 ∧ (z.2.1, z.2.2.2.1) = res ∧ Sep (OwnO 1 z.2.2.1 z.2.1.length (u8s z.2.1) :: Cel b (cuC z.2.2.2.2 z.2.2.2.1 rest) :: Frz G h0 :: R) h')) i y h') : Nat → List (Option AV) → Hp → Prop) 0 [some (AV.ptr b 0), some w, some (AV.int .u32 (Int.ofNat k))] h))) (by kernel_rfl) ?_
  refine ⟨fun c1 => ?_, fun c1 => ?_⟩
  · have rc1 := c1
    replace c1 : 0 < k := ltI_t c1
    refine ⟨cel_load S (i := 1) rfl rfl, ?_⟩
    refine ⟨fun c2 => ?_, fun c2 => ?_⟩
    · have rc2 := c2
      replace c2 : st.2.2 = 0 := eqI_t c2
      have S3 : Sep (Frz G h0 :: OwnO 1 w acc.length (u8s acc) :: Cel b (vb :: (AV.int .i64 (Int.ofNat st.2.1)) :: (AV.int .i64 (Int.ofNat st.2.2)) :: rest) :: R) h := S.front 2 rfl
      have S4 : Sep (Cel b (vb :: (AV.int .i64 (Int.ofNat st.2.1)) :: (AV.int .i64 (Int.ofNat st.2.2)) :: rest) :: Frz G h0 :: OwnO 1 w acc.length (u8s acc) :: R) h := S3.front 2 rfl
      obtain ⟨ve5, he5, qe5, pe5, se5⟩ := hone st rest P (by first | assumption | omega | (dsimp only; omega)) (by first | assumption | omega | (dsimp only; omega)) S4
      obtain ⟨e5, rfl, rfl⟩ : ∃ e : Ev, ve5 = e.v ∧ he5 = e.h := ⟨⟨ve5, .lf, he5⟩, rfl, rfl⟩
      have S6 : Sep (Cel b (e5.v :: (AV.int .i64 (Int.ofNat ((cuOne st).2.2.1))) :: (AV.int .i64 (Int.ofNat ((cuOne st).2.2.2))) :: rest) :: Frz G h0 :: OwnO 1 w acc.length (u8s acc) :: R) e5.h := se5
      have bde5 := cuOne_bd st
      try dsimp only at bde5
      refine ⟨e5, qe5, ?_⟩
      refine ⟨hval _ _ (cuOne_lt hst), ?_⟩
      have tvx7 := tyV_e ((cuOne st).1)
      obtain ⟨ve8, he8, qe8, pe8, se8⟩ := hfail (notB ((tyV ((cuOne st).1)).1)) ((tyV ((cuOne st).1)).2) (by first | decide | omega) ((cuOne st).2) rest pe5 (by first | assumption | omega | (dsimp only; omega)) (by first | assumption | omega | (dsimp only; omega)) S6
      obtain ⟨e8, rfl, rfl⟩ : ∃ e : Ev, ve8 = e.v ∧ he8 = e.h := ⟨⟨ve8, .lf, he8⟩, rfl, rfl⟩
      have S9 : Sep (Cel b (e8.v :: (AV.int .i64 (Int.ofNat ((cuFail (notB ((tyV ((cuOne st).1)).1)) ((tyV ((cuOne st).1)).2) ((cuOne st).2)).2.1))) :: (AV.int .i64 (Int.ofNat ((cuFail (notB ((tyV ((cuOne st).1)).1)) ((tyV ((cuOne st).1)).2) ((cuOne st).2)).2.2))) :: rest) :: Frz G h0 :: OwnO 1 w acc.length (u8s acc) :: R) e8.h := se8
      have bde8 := cuFail_bd2 (notB ((tyV ((cuOne st).1)).1)) ((tyV ((cuOne st).1)).2) ((cuOne st).2)
      try dsimp only at bde8
      refine ⟨e8, qe8, ?_⟩
      have S10 : Sep (OwnO 1 (AV.slice (Hp.next e8.h) 0 1 1 1 true) 1 (u8s [(cuOne st).1]) :: Cel b (e8.v :: (AV.int .i64 (Int.ofNat ((cuFail (notB ((tyV ((cuOne st).1)).1)) ((tyV ((cuOne st).1)).2) ((cuOne st).2)).2.1))) :: (AV.int .i64 (Int.ofNat ((cuFail (notB ((tyV ((cuOne st).1)).1)) ((tyV ((cuOne st).1)).2) ((cuOne st).2)).2.2))) :: rest) :: Frz G h0 :: OwnO 1 w acc.length (u8s acc) :: R) (hpush e8.h (mkCells [(AV.int .u8 (Int.ofNat ((cuOne st).1)))] 1)) := own_new S9 1 1 [(AV.int .u8 (Int.ofNat ((cuOne st).1)))] true rfl
      obtain ⟨e11, qe11, se11⟩ := own_append (bytes := 1) call S10 (i := 3) rfl (x := (AV.slice (Hp.next e8.h) 0 1 1 1 true)) (m := 1) (xs := u8s [(cuOne st).1]) (fun z k => own_src S10 (i := 0) rfl z k) (own_L S10 (i := 0) rfl) (u8s_cells _) (by first | omega | (simp only [List.length_append, List.length_cons, List.length_nil, List.length_take, List.length_drop] at *; omega)) (by first | omega | (simp only [List.length_append, List.length_cons, List.length_nil, List.length_take, List.length_drop] at *; omega))
      have S12 : Sep (OwnO 1 (AV.slice (Hp.next e8.h) 0 1 1 1 true) 1 (u8s [(cuOne st).1]) :: Cel b (e8.v :: (AV.int .i64 (Int.ofNat ((cuFail (notB ((tyV ((cuOne st).1)).1)) ((tyV ((cuOne st).1)).2) ((cuOne st).2)).2.1))) :: (AV.int .i64 (Int.ofNat ((cuFail (notB ((tyV ((cuOne st).1)).1)) ((tyV ((cuOne st).1)).2) ((cuOne st).2)).2.2))) :: rest) :: Frz G h0 :: OwnO 1 e11.v (acc.length + 1) ((u8s acc) ++ (u8s [(cuOne st).1])) :: R) e11.h := se11
      have S13 : Sep (OwnO 1 (AV.slice (Hp.next e8.h) 0 1 1 1 true) 1 (u8s [(cuOne st).1]) :: Cel b (e8.v :: (AV.int .i64 (Int.ofNat ((cuFail (notB ((tyV ((cuOne st).1)).1)) ((tyV ((cuOne st).1)).2) ((cuOne st).2)).2.1))) :: (AV.int .i64 (Int.ofNat ((cuFail (notB ((tyV ((cuOne st).1)).1)) ((tyV ((cuOne st).1)).2) ((cuOne st).2)).2.2))) :: rest) :: Frz G h0 :: OwnO 1 e11.v (acc.length + 1) (u8s (acc ++ [(cuOne st).1])) :: R) e11.h := by rw [show u8s (acc ++ [(cuOne st).1]) = u8s acc ++ u8s [(cuOne st).1] from (u8s_append ..).symm]; exact S12
      have S14 : Sep (Cel b (e8.v :: (AV.int .i64 (Int.ofNat ((cuFail (notB ((tyV ((cuOne st).1)).1)) ((tyV ((cuOne st).1)).2) ((cuOne st).2)).2.1))) :: (AV.int .i64 (Int.ofNat ((cuFail (notB ((tyV ((cuOne st).1)).1)) ((tyV ((cuOne st).1)).2) ((cuOne st).2)).2.2))) :: rest) :: Frz G h0 :: OwnO 1 e11.v (acc.length + 1) (u8s (acc ++ [(cuOne st).1])) :: R) e11.h := S13.tail
      refine ⟨e11, qe11, ?_⟩
      refine ⟨u_sub rfl (by omega) hk2, ?_⟩
      have g15 : k - 1 < 4294967296 := Nat.lt_of_le_of_lt (Nat.sub_le _ _) hk2
      have S16 : Sep (Frz G h0 :: Cel b (e8.v :: (AV.int .i64 (Int.ofNat ((cuFail (notB ((tyV ((cuOne st).1)).1)) ((tyV ((cuOne st).1)).2) ((cuOne st).2)).2.1))) :: (AV.int .i64 (Int.ofNat ((cuFail (notB ((tyV ((cuOne st).1)).1)) ((tyV ((cuOne st).1)).2) ((cuOne st).2)).2.2))) :: rest) :: OwnO 1 e11.v (acc.length + 1) (u8s (acc ++ [(cuOne st).1])) :: R) e11.h := S14.front 1 rfl
      have S17 : Sep (Cel b (e8.v :: (AV.int .i64 (Int.ofNat ((cuFail (notB ((tyV ((cuOne st).1)).1)) ((tyV ((cuOne st).1)).2) ((cuOne st).2)).2.1))) :: (AV.int .i64 (Int.ofNat ((cuFail (notB ((tyV ((cuOne st).1)).1)) ((tyV ((cuOne st).1)).2) ((cuOne st).2)).2.2))) :: rest) :: Frz G h0 :: OwnO 1 e11.v (acc.length + 1) (u8s (acc ++ [(cuOne st).1])) :: R) e11.h := S16.front 1 rfl
      have S18 : Sep (OwnO 1 e11.v (acc.length + 1) (u8s (acc ++ [(cuOne st).1])) :: Cel b (e8.v :: (AV.int .i64 (Int.ofNat ((cuFail (notB ((tyV ((cuOne st).1)).1)) ((tyV ((cuOne st).1)).2) ((cuOne st).2)).2.1))) :: (AV.int .i64 (Int.ofNat ((cuFail (notB ((tyV ((cuOne st).1)).1)) ((tyV ((cuOne st).1)).2) ((cuOne st).2)).2.2))) :: rest) :: Frz G h0 :: R) e11.h := S17.front 2 rfl
      have hk1 : k - 1 + 1 = k := by omega
      have hb3 := cuFail_bd (notB (tyV (cuOne st).1).1) (tyV (cuOne st).1).2 (cuOne st).2
      have hb4 := cuOne_bd st
      have hb5 := tyV_e (cuOne st).1
      have h0 : st.2.2 = 0 := by first | assumption | omega
      have hk8 := hk h0
      rw [if_pos h0] at hal
      refine ⟨(k - 1, acc ++ [(cuOne st).1], e11.v, (cuFail (notB (tyV (cuOne st).1).1) (tyV (cuOne st).1).2 (cuOne st).2), e8.v), rfl, ⟨pe8, ?_, ?_, ?_, ?_, ?_, ?_, ?_, by have z := S18; simpa only [List.length_append, List.length_singleton] using z⟩, ?_⟩
      · show (cuFail _ _ _).1.length + (cuFail _ _ _).2.1 < 80000; rw [hb3.1, hb3.2.1]; omega
      · exact hb3.2.2 (hb4.2.1 he) hb5
      · intro _; dsimp only; omega
      · dsimp only; rw [List.length_append, List.length_singleton]; split <;> omega
      · exact put_lt hlt (one_lt (cuOne_lt hst))
      · dsimp only; omega
      · dsimp only; rw [← hr]; cases k with
        | zero => omega
        | succ j => rw [cuValsL, if_pos h0]; rfl
      · dsimp only; rw [if_pos h0]; split <;> omega
    · have rc2 := c2
      replace c2 : st.2.2 ≠ 0 := eqI_f c2
      refine ⟨(k, acc, w, st, vb), rfl, rfl, fun _ => ⟨P, ?_, S⟩⟩
      rw [← hr]
      cases k with
      | zero => rfl
      | succ k => unfold cuValsL; rw [if_neg (by first | omega | (intro hh; simp_all))]
  · have rc1 := c1
    replace c1 : k ≤ 0 := ltI_f c1
    refine ⟨(k, acc, w, st, vb), rfl, rfl, fun _ => ⟨P, ?_, S⟩⟩
    rw [← hr]
    cases k with
    | zero => rfl
    | succ k => unfold cuValsL; rw [if_neg (by first | omega | (intro hh; simp_all))]
theorem values_loop {call : CallT} {N : Nat} {h0 : Hp} {G : Nat → Prop} {R : List AObj} {b : Nat} {rest : List AV} {res : List Nat × Cu} (hone : CuM call 67 [] (fun s => .int .u8 (.ofNat (cuOne s).1)) fun s => (cuOne s).2) (hfail : ∀ (is : Bool) (er : Nat), er < 64 → CuM call 68 [.bool is, .int .i64 (.ofNat er)] (fun _ => .tuple []) (cuFail is er)) (hval : ValS call 41) {k : Nat} {acc : List Nat} {w : AV} {st : Cu} {vb : AV} {h : Hp} (hi : (fun (z : Nat × List Nat × AV × Cu × AV) (h' : Hp) => BIn G h0 z.2.2.2.2 z.2.2.2.1.1 ∧ z.2.2.2.1.1.length + z.2.2.2.1.2.1 < 80000 ∧ z.2.2.2.1.2.2 < 64 ∧ (z.2.2.2.1.2.2 = 0 → z.1 ≤ 8) ∧ z.2.1.length + (if z.2.2.2.1.2.2 = 0 then z.1 else 0) ≤ 8 ∧ (∀ x ∈ z.2.1, x < 256) ∧ z.1 < 4294967296 ∧ cuValsL z.1 z.2.1 z.2.2.2.1 = res ∧ Sep (OwnO 1 z.2.2.1 z.2.1.length (u8s z.2.1) :: Cel b (cuC z.2.2.2.2 z.2.2.2.1 rest) :: Frz G h0 :: R) h') (k, acc, w, st, vb) h) (hN : (if st.2.2 = 0 then k else 0) < N) {t : T} (ht : Has ((fun (z : Nat × List Nat × AV × Cu × AV) => [(0, (AV.ptr b 0)), (3, z.2.2.1), (4, (AV.int .u32 (Int.ofNat z.1)))]) (k, acc, w, st, vb)) t) :
    (∃ i y t' h', evC call N (.loop values_loopC) t h = .exit i t' h' ∧ Has ((fun (z : Nat × List Nat × AV × Cu × AV) => [(0, (AV.ptr b 0)), (3, z.2.2.1), (4, (AV.int .u32 (Int.ofNat z.1)))]) y) t' ∧ (fun (i : Nat) (z : Nat × List Nat × AV × Cu × AV) (h' : Hp) => (i = 0) ∧ (i = 0 → BIn G h0 z.2.2.2.2 z.2.2.2.1.1 ∧ (z.2.1, z.2.2.2.1) = res ∧ Sep (OwnO 1 z.2.2.1 z.2.1.length (u8s z.2.1) :: Cel b (cuC z.2.2.2.2 z.2.2.2.1 rest) :: Frz G h0 :: R) h')) i y h') ∨ (∃ t' h', evC call N (.loop values_loopC) t h = .ret t' h' ∧ (fun (ls : List (Option AV)) (h' : Hp) => False) (slots [0, 3, 4] t') h') :=
  loop_st (fun (z : Nat × List Nat × AV × Cu × AV) => [(0, (AV.ptr b 0)), (3, z.2.2.1), (4, (AV.int .u32 (Int.ofNat z.1)))]) [0, 3, 4] (fun _ => rfl) (fun (z : Nat × List Nat × AV × Cu × AV) (h' : Hp) => BIn G h0 z.2.2.2.2 z.2.2.2.1.1 ∧ z.2.2.2.1.1.length + z.2.2.2.1.2.1 < 80000 ∧ z.2.2.2.1.2.2 < 64 ∧ (z.2.2.2.1.2.2 = 0 → z.1 ≤ 8) ∧ z.2.1.length + (if z.2.2.2.1.2.2 = 0 then z.1 else 0) ≤ 8 ∧ (∀ x ∈ z.2.1, x < 256) ∧ z.1 < 4294967296 ∧ cuValsL z.1 z.2.1 z.2.2.2.1 = res ∧ Sep (OwnO 1 z.2.2.1 z.2.1.length (u8s z.2.1) :: Cel b (cuC z.2.2.2.2 z.2.2.2.1 rest) :: Frz G h0 :: R) h') (fun (z : Nat × List Nat × AV × Cu × AV) => (if z.2.2.2.1.2.2 = 0 then z.1 else 0)) (fun (i : Nat) (z : Nat × List Nat × AV × Cu × AV) (h' : Hp) => (i = 0) ∧ (i = 0 → BIn G h0 z.2.2.2.2 z.2.2.2.1.1 ∧ (z.2.1, z.2.2.2.1) = res ∧ Sep (OwnO 1 z.2.2.1 z.2.1.length (u8s z.2.1) :: Cel b (cuC z.2.2.2.2 z.2.2.2.1 rest) :: Frz G h0 :: R) h')) (fun (ls : List (Option AV)) (h' : Hp) => False) (fun ⟨k, acc, w, st, vb⟩ t h hi => values_loop_body hone hfail hval hi) (k, acc, w, st, vb) h hi hN t ht
theorem values_loop_x {call : CallT} {N : Nat} {h0 : Hp} {G : Nat → Prop} {R : List AObj} {b : Nat} {rest : List AV} {res : List Nat × Cu} (hone : CuM call 67 [] (fun s => .int .u8 (.ofNat (cuOne s).1)) fun s => (cuOne s).2) (hfail : ∀ (is : Bool) (er : Nat), er < 64 → CuM call 68 [.bool is, .int .i64 (.ofNat er)] (fun _ => .tuple []) (cuFail is er)) (hval : ValS call 41) {k : Nat} {acc : List Nat} {w : AV} {st : Cu} {vb : AV} {h : Hp} (hi : BIn G h0 vb st.1 ∧ st.1.length + st.2.1 < 80000 ∧ st.2.2 < 64 ∧ (st.2.2 = 0 → k ≤ 8) ∧ acc.length + (if st.2.2 = 0 then k else 0) ≤ 8 ∧ (∀ x ∈ acc, x < 256) ∧ k < 4294967296 ∧ cuValsL k acc st = res ∧ Sep (OwnO 1 w acc.length (u8s acc) :: Cel b (cuC vb st rest) :: Frz G h0 :: R) h) (hN : (if st.2.2 = 0 then k else 0) < N) {t : T} (ht : slots [0, 3, 4] t = [some (AV.ptr b 0), some w, some (AV.int .u32 (Int.ofNat k))]) :
    ∃ (k1 : Nat) (acc1 : List Nat) (w1 : AV) (st1 : Cu) (vb1 : AV) (t' : T) (h' : Hp), evC call N (.loop values_loopC) t h = .exit 0 t' h' ∧ slots [0, 3, 4] t' = [some (AV.ptr b 0), some w1, some (AV.int .u32 (Int.ofNat k1))] ∧ (BIn G h0 vb1 st1.1 ∧ (acc1, st1) = res ∧ Sep (OwnO 1 w1 acc1.length (u8s acc1) :: Cel b (cuC vb1 st1 rest) :: Frz G h0 :: R) h') := by
  rcases values_loop hone hfail hval hi hN ht with ⟨i, y, t', h', q, w, e⟩ | ⟨t', h', q, e⟩
  · obtain ⟨e1, e2⟩ := e
    subst e1
    exact ⟨y.1, y.2.1, y.2.2.1, y.2.2.2.1, y.2.2.2.2, t', h', q, w, e2 rfl⟩
  · exact e.elim
theorem values_walk {call : CallT} {N : Nat} {h : Hp} {h0 : Hp} {G : Nat → Prop} {R : List AObj} {b l_n e : Nat} {vb : AV} {l : List Nat} {rest : List AV} (P : BIn G h0 vb l) (hl : l.length + l_n < 80000) (he : e < 64) (S : Sep (Cel b (vb :: .int .i64 (.ofNat l_n) :: .int .i64 (.ofNat e) :: rest) :: Frz G h0 :: R) h) (hone : CuM call 67 [] (fun s => .int .u8 (.ofNat (cuOne s).1)) fun s => (cuOne s).2) (hnum : CuM call 71 [] (fun s => .int .u32 (.ofNat (cuNum s).1)) fun s => (cuNum s).2) (hfail : ∀ (is : Bool) (er : Nat), er < 64 → CuM call 68 [.bool is, .int .i64 (.ofNat er)] (fun _ => .tuple []) (cuFail is er)) (hval : ValS call 41) (hN : 9 < N)
    : ∃ rv rh, evF1 (progS Try.prog (compDrawn Try.prog)) N call 69 [(AV.ptr b 0)] h = .ok rv rh ∧ (fun (v : AV) (h' : Hp) => ∃ v', BIn G h0 v' (cuVals (l, l_n, e)).2.1 ∧ Sep (OwnO 1 v (cuVals (l, l_n, e)).1.length (u8s (cuVals (l, l_n, e)).1) :: Cel b (cuC v' (cuVals (l, l_n, e)).2 rest) :: Frz G h0 :: R) h') rv rh := by
  have vs := vals_start (l, l_n, e) hl he
  have vs6 := Nat.lt_of_le_of_lt (Nat.le_trans (Nat.le_add_left _ ([] : List Nat).length) vs.2.2.2.1) (Nat.lt_trans (by decide : 8 < 9) hN)
  refine fwalk_ok (K := fun (v : AV) (h' : Hp) => ∃ v', BIn G h0 v' (cuVals (l, l_n, e)).2.1 ∧ Sep (OwnO 1 v (cuVals (l, l_n, e)).1.length (u8s (cuVals (l, l_n, e)).1) :: Cel b (cuC v' (cuVals (l, l_n, e)).2 rest) :: Frz G h0 :: R) h') (o := (.effx 5 (fun e1 => (AV.int .u32 (Int.ofNat ((cuNum (l, l_n, e)).1)))) (fun e1 => (.effx 6 (fun e3 => (AV.tuple [])) (fun e3 => (.lpx 0 (fun e6 => (.exit 0 (ovT [(0, (AV.ptr b 0)), (3, (avN 0 e6.v))] e6.t) e6.h)) (fun e6 => .fin))))))) (p := (∃ e1 : Ev, call 71 [(AV.ptr b 0)] h = .ok (AV.int .u32 (Int.ofNat ((cuNum (l, l_n, e)).1))) e1.h ∧ (∃ e3 : Ev, call 68 [(AV.ptr b 0), (AV.bool (ltI (Int.ofNat 8) (Int.ofNat ((cuNum (l, l_n, e)).1)))), (AV.int .i64 (Int.ofNat 4))] e1.h = .ok (AV.tuple []) e3.h ∧ (∃ e6 : Ev, evC call N (.loop values_loopC) (ovT [(0, (AV.ptr b 0)), (2, AV.nilSlice), (3, AV.nilSlice), (4, (AV.int .u32 (Int.ofNat ((cuNum (l, l_n, e)).1)))), (8, (AV.ptr b 0)), (9, (AV.ptr b 0)), (10, (AV.ptr b 0)), (11, (AV.int .u32 (Int.ofNat ((cuNum (l, l_n, e)).1)))), (12, (AV.ptr b 0)), (13, (AV.ptr b 0)), (14, (AV.ptr b 0)), (15, (AV.int .u32 (Int.ofNat ((cuNum (l, l_n, e)).1)))), (16, (AV.bool (ltI (Int.ofNat 8) (Int.ofNat ((cuNum (l, l_n, e)).1))))), (17, (AV.tuple []))] .lf) e3.h = (.exit 0 (ovT [(0, (AV.ptr b 0)), (3, (avN 0 e6.v))] e6.t) e6.h) ∧ True ∧ (fun (v : AV) (h' : Hp) => ∃ v', BIn G h0 v' (cuVals (l, l_n, e)).2.1 ∧ Sep (OwnO 1 v (cuVals (l, l_n, e)).1.length (u8s (cuVals (l, l_n, e)).1) :: Cel b (cuC v' (cuVals (l, l_n, e)).2 rest) :: Frz G h0 :: R) h') (avN 0 e6.v) e6.h)))) (by kernel_rfl) ?_
  obtain ⟨ve1, he1, qe1, pe1, se1⟩ := hnum (l, l_n, e) rest P (by first | assumption | omega | (dsimp only; omega)) (by first | assumption | omega | (dsimp only; omega)) S
  obtain ⟨e1, rfl, rfl⟩ : ∃ e : Ev, ve1 = e.v ∧ he1 = e.h := ⟨⟨ve1, .lf, he1⟩, rfl, rfl⟩
  have S2 : Sep (Cel b (e1.v :: (AV.int .i64 (Int.ofNat ((cuNum (l, l_n, e)).2.2.1))) :: (AV.int .i64 (Int.ofNat ((cuNum (l, l_n, e)).2.2.2))) :: rest) :: Frz G h0 :: R) e1.h := se1
  have bde1 := cuNum_bd (l, l_n, e)
  try dsimp only at bde1
  refine ⟨e1, qe1, ?_⟩
  obtain ⟨ve3, he3, qe3, pe3, se3⟩ := hfail (ltI (Int.ofNat 8) (Int.ofNat ((cuNum (l, l_n, e)).1))) 4 (by first | decide | omega) ((cuNum (l, l_n, e)).2) rest pe1 (by first | assumption | omega | (dsimp only; omega)) (by first | assumption | omega | (dsimp only; omega)) S2
  obtain ⟨e3, rfl, rfl⟩ : ∃ e : Ev, ve3 = e.v ∧ he3 = e.h := ⟨⟨ve3, .lf, he3⟩, rfl, rfl⟩
  have S4 : Sep (Cel b (e3.v :: (AV.int .i64 (Int.ofNat ((cuFail (ltI (Int.ofNat 8) (Int.ofNat ((cuNum (l, l_n, e)).1))) 4 ((cuNum (l, l_n, e)).2)).2.1))) :: (AV.int .i64 (Int.ofNat ((cuFail (ltI (Int.ofNat 8) (Int.ofNat ((cuNum (l, l_n, e)).1))) 4 ((cuNum (l, l_n, e)).2)).2.2))) :: rest) :: Frz G h0 :: R) e3.h := se3
  have bde3 := cuFail_bd2 (ltI (Int.ofNat 8) (Int.ofNat ((cuNum (l, l_n, e)).1))) 4 ((cuNum (l, l_n, e)).2)
  try dsimp only at bde3
  refine ⟨e3, qe3, ?_⟩
  have S5 : Sep (OwnO 1 AV.nilSlice 0 (u8s []) :: Cel b (e3.v :: (AV.int .i64 (Int.ofNat ((cuFail (ltI (Int.ofNat 8) (Int.ofNat ((cuNum (l, l_n, e)).1))) 4 ((cuNum (l, l_n, e)).2)).2.1))) :: (AV.int .i64 (Int.ofNat ((cuFail (ltI (Int.ofNat 8) (Int.ofNat ((cuNum (l, l_n, e)).1))) 4 ((cuNum (l, l_n, e)).2)).2.2))) :: rest) :: Frz G h0 :: R) e3.h := own_nil S4 1
  obtain ⟨k1e6, acc1e6, w1e6, st1e6, vb1e6, te6, he6, qe6, we6, xe6⟩ := values_loop_x hone hfail hval (res := (cuValsL ((cuNum (l, l_n, e)).1) [] (cuFail (ltI (Int.ofNat 8) (Int.ofNat ((cuNum (l, l_n, e)).1))) 4 ((cuNum (l, l_n, e)).2)))) (k := (cuNum (l, l_n, e)).1) (acc := []) (w := .nilSlice) (st := (cuFail (ltI (Int.ofNat 8) (Int.ofNat ((cuNum (l, l_n, e)).1))) 4 ((cuNum (l, l_n, e)).2))) ⟨pe3, vs.1, vs.2.1, vs.2.2.1, vs.2.2.2.1, nil_lt, vs.2.2.2.2, rfl, S5⟩ vs6 (t := ovT [(0, (AV.ptr b 0)), (2, AV.nilSlice), (3, AV.nilSlice), (4, (AV.int .u32 (Int.ofNat ((cuNum (l, l_n, e)).1)))), (8, (AV.ptr b 0)), (9, (AV.ptr b 0)), (10, (AV.ptr b 0)), (11, (AV.int .u32 (Int.ofNat ((cuNum (l, l_n, e)).1)))), (12, (AV.ptr b 0)), (13, (AV.ptr b 0)), (14, (AV.ptr b 0)), (15, (AV.int .u32 (Int.ofNat ((cuNum (l, l_n, e)).1)))), (16, (AV.bool (ltI (Int.ofNat 8) (Int.ofNat ((cuNum (l, l_n, e)).1))))), (17, (AV.tuple []))] .lf) (by kernel_rfl)
  obtain ⟨pe6, re6, se6⟩ := xe6
  obtain ⟨rfl, rfl⟩ : acc1e6 = (cuValsL ((cuNum (l, l_n, e)).1) [] (cuFail (ltI (Int.ofNat 8) (Int.ofNat ((cuNum (l, l_n, e)).1))) 4 ((cuNum (l, l_n, e)).2))).1 ∧ st1e6 = (cuValsL ((cuNum (l, l_n, e)).1) [] (cuFail (ltI (Int.ofNat 8) (Int.ofNat ((cuNum (l, l_n, e)).1))) 4 ((cuNum (l, l_n, e)).2))).2 := by rw [← re6]; exact ⟨rfl, rfl⟩
  have we6 : [tget (pathOf 0) te6, tget (pathOf 3) te6, tget (pathOf 4) te6] = _ := we6
  simp only [List.cons.injEq] at we6
  obtain ⟨ge6_0, ge6_3, ge6_4, -⟩ := we6
  obtain ⟨e6, rfl, rfl, rfl, rfl⟩ : ∃ e : Ev, te6 = e.t ∧ he6 = e.h ∧ w1e6 = avN 0 e.v ∧ vb1e6 = avN 1 e.v := ⟨⟨.tuple [w1e6, vb1e6], te6, he6⟩, rfl, rfl, rfl, rfl⟩
  have S7 : Sep (OwnO 1 (avN 0 e6.v) ((cuValsL ((cuNum (l, l_n, e)).1) [] (cuFail (ltI (Int.ofNat 8) (Int.ofNat ((cuNum (l, l_n, e)).1))) 4 ((cuNum (l, l_n, e)).2))).1.length) (u8s (cuValsL ((cuNum (l, l_n, e)).1) [] (cuFail (ltI (Int.ofNat 8) (Int.ofNat ((cuNum (l, l_n, e)).1))) 4 ((cuNum (l, l_n, e)).2))).1) :: Cel b ((avN 1 e6.v) :: (AV.int .i64 (Int.ofNat ((cuValsL ((cuNum (l, l_n, e)).1) [] (cuFail (ltI (Int.ofNat 8) (Int.ofNat ((cuNum (l, l_n, e)).1))) 4 ((cuNum (l, l_n, e)).2))).2.2.1))) :: (AV.int .i64 (Int.ofNat ((cuValsL ((cuNum (l, l_n, e)).1) [] (cuFail (ltI (Int.ofNat 8) (Int.ofNat ((cuNum (l, l_n, e)).1))) 4 ((cuNum (l, l_n, e)).2))).2.2.2))) :: rest) :: Frz G h0 :: R) e6.h := se6
  refine ⟨e6, (by rw [qe6]; exact congrArg (fun t => RS.exit 0 t _) (ovT_eq (l := [(0, (AV.ptr b 0)), (3, (avN 0 e6.v))]) (by show [tget (pathOf 0) e6.t, tget (pathOf 3) e6.t] = _; rw [ge6_0, ge6_3]; rfl)).symm), trivial, ?_⟩
  exact ⟨_, pe6, S7⟩
end Go.Proofs.Ytejiebbbodealaa
