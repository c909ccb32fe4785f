/- Functions' types that are the same. -/
import Derived.Test.YtejiebbbodealaaTy2
import Derived.Test.YtejiebbbodealaaTypesEq
set_option linter.unusedVariables false
set_option linter.unusedSimpArgs false
namespace Go.Proofs.Ytejiebbbodealaa
open Go Eng
theorem rsame_walk {call : CallT} {N : Nat} {h : Hp} {p q p' q' : AV} {l1 l2 m1 m2 : List Nat} (P : Bytes h.next h p l1) (Q : Bytes h.next h q l2) (P' : Bytes h.next h p' m1) (Q' : Bytes h.next h q' m2)
    : ∃ rv rh, evF1 (progS Try.prog (compDrawn Try.prog)) N call 49 [(AV.agg [p, q]), (AV.agg [p', q'])] h = .ok rv rh ∧ (fun (v : AV) (h' : Hp) => v = .bool (decide (l1 = m1 ∧ l2 = m2)) ∧ Old h.next h h') rv rh := by
  refine fwalk_ok (K := fun (v : AV) (h' : Hp) => v = .bool (decide (l1 = m1 ∧ l2 = m2)) ∧ Old h.next h h') (o := (.ell 0 .ptr (mkCells [p, q] 2) (.ell 0 .ptr (mkCells [p', q'] 2) (.tell 2 p (.tell 0 (AV.str l1) (.tell 1 p' (.tell 0 (AV.str m1) (.fork 1 (.tell 1 q (.tell 0 (AV.str l2) (.tell 1 q' (.tell 0 (AV.str m2) (.fork 2 .fin .fin))))) .fin)))))))) (p := (evL (.box (.const (AV.agg [p, q]))) .lf = .ok .ptr (mkCells [p, q] 2) ∧ (evL (.box (.const (AV.agg [p', q']))) .lf = .ok .ptr (mkCells [p', q'] 2) ∧ (evQ (.loadS (.const (AV.ptr (Hp.next h) 0))) .lf (hpush (hpush h (mkCells [p, q] 2)) (mkCells [p', q'] 2)) = .ok p ∧ (evQ (.toStr (.const p)) .lf (hpush (hpush h (mkCells [p, q] 2)) (mkCells [p', q'] 2)) = .ok (AV.str l1) ∧ (evQ (.loadS (.const (AV.ptr (Hp.next (hpush h (mkCells [p, q] 2))) 0))) .lf (hpush (hpush h (mkCells [p, q] 2)) (mkCells [p', q'] 2)) = .ok p' ∧ (evQ (.toStr (.const p')) .lf (hpush (hpush h (mkCells [p, q] 2)) (mkCells [p', q'] 2)) = .ok (AV.str m1) ∧ ((strEq l1 m1 = true → (evQ (.loadS (.const (AV.ptr (Hp.next h) 1))) .lf (hpush (hpush h (mkCells [p, q] 2)) (mkCells [p', q'] 2)) = .ok q ∧ (evQ (.toStr (.const q)) .lf (hpush (hpush h (mkCells [p, q] 2)) (mkCells [p', q'] 2)) = .ok (AV.str l2) ∧ (evQ (.loadS (.const (AV.ptr (Hp.next (hpush h (mkCells [p, q] 2))) 1))) .lf (hpush (hpush h (mkCells [p, q] 2)) (mkCells [p', q'] 2)) = .ok q' ∧ (evQ (.toStr (.const q')) .lf (hpush (hpush h (mkCells [p, q] 2)) (mkCells [p', q'] 2)) = .ok (AV.str m2) ∧ ((strEq l2 m2 = true → (fun (v : AV) (h' : Hp) => v = .bool (decide (l1 = m1 ∧ l2 = m2)) ∧ Old h.next h h') (AV.bool true) (hpush (hpush h (mkCells [p, q] 2)) (mkCells [p', q'] 2))) ∧ (strEq l2 m2 = false → (fun (v : AV) (h' : Hp) => v = .bool (decide (l1 = m1 ∧ l2 = m2)) ∧ Old h.next h h') (AV.bool false) (hpush (hpush h (mkCells [p, q] 2)) (mkCells [p', q'] 2))))))))) ∧ (strEq l1 m1 = false → (fun (v : AV) (h' : Hp) => v = .bool (decide (l1 = m1 ∧ l2 = m2)) ∧ Old h.next h h') (AV.bool false) (hpush (hpush h (mkCells [p, q] 2)) (mkCells [p', q'] 2))))))))))) (by kernel_rfl) ?_
  refine ⟨box_told rfl rfl (all_cell (Bytes.cell P) (all_cell (Bytes.cell Q) all_cell0)), ?_⟩
  have S1 : Sep [Cel (Hp.next h) [p, q]] (hpush h (mkCells [p, q] 2)) := cel_new (Sep.nil h) [p, q] rfl
  refine ⟨box_told rfl rfl (all_cell (Bytes.cell P') (all_cell (Bytes.cell Q') all_cell0)), ?_⟩
  have S2 : Sep [Cel (Hp.next (hpush h (mkCells [p, q] 2))) [p', q'], Cel (Hp.next h) [p, q]] (hpush (hpush h (mkCells [p, q] 2)) (mkCells [p', q'] 2)) := cel_new S1 [p', q'] rfl
  refine ⟨cel_load S2 (i := 1) rfl rfl, ?_⟩
  refine ⟨q_toStr (P.push2 _ _), ?_⟩
  refine ⟨cel_load S2 (i := 0) rfl rfl, ?_⟩
  refine ⟨q_toStr (P'.push2 _ _), ?_⟩
  refine ⟨fun c3 => ?_, fun c3 => ?_⟩
  · have rc3 := c3
    replace c3 : l1 = m1 := strEq_t c3
    refine ⟨cel_load S2 (i := 1) rfl rfl, ?_⟩
    refine ⟨q_toStr (Q.push2 _ _), ?_⟩
    refine ⟨cel_load S2 (i := 0) rfl rfl, ?_⟩
    refine ⟨q_toStr (Q'.push2 _ _), ?_⟩
    refine ⟨fun c4 => ?_, fun c4 => ?_⟩
    · have rc4 := c4
      replace c4 : l2 = m2 := strEq_t c4
      refine ⟨congrArg AV.bool ?_, Old.push2 _ _ _⟩
      simp_all
    · have rc4 := c4
      replace c4 : l2 ≠ m2 := strEq_f c4
      refine ⟨congrArg AV.bool ?_, Old.push2 _ _ _⟩
      simp_all
  · have rc3 := c3
    replace c3 : l1 ≠ m1 := strEq_f c3
    refine ⟨congrArg AV.bool ?_, Old.push2 _ _ _⟩
    simp_all
noncomputable def equal_loopC : AC := (.seq (.region [⟨(some 14), .q (.bin .lss (.tmp 13) (.tmp 12)), none⟩]) (.seq (.cond (.tmp 14) .skip (.exit 0)) (.seq (.block 1 (.seq (.region [⟨(some 15), .q (.move (.tmp 13)), none⟩, ⟨(some 5), .q (.move (.tmp 15)), none⟩]) (.seq (.drawn [⟨[(⟨(some 16), .q (.move (.tmp 0)), none⟩, 0), (⟨(some 17), .q (.move (.tmp 5)), none⟩, 0), (⟨(some 18), .q (.idxAddrSl 1 (.tmp 16) (.tmp 17)), none⟩, 0), (⟨(some 19), .q (.loadS (.tmp 18)), none⟩, 0), (⟨(some 20), .q (.move (.tmp 1)), none⟩, 0), (⟨(some 21), .q (.move (.tmp 5)), none⟩, 0), (⟨(some 22), .q (.idxAddrSl 1 (.tmp 20) (.tmp 21)), none⟩, 0), (⟨(some 23), .q (.loadS (.tmp 22)), none⟩, 0), (⟨(some 24), .q (.eq .int true (.tmp 19) (.tmp 23)), none⟩, 0)], none⟩]) (.cond (.tmp 24) (.seq (.region [⟨(some 4), .q (.move (.const (AV.bool false))), none⟩]) .ret) .skip)))) (.region [⟨(some 25), .q (.bin .add (.tmp 13) (.const (AV.int .i64 (Int.ofNat 1)))), none⟩, ⟨(some 13), .q (.move (.tmp 25)), none⟩]))))
theorem equal_loop_body {call : CallT} {N : Nat} {t : T} {h : Hp} {h0 : Hp} {B : Nat} {l m : List Nat} {va vb : AV} (P : Bytes B h0 va l) (Q : Bytes B h0 vb m) (hlm : l.length = m.length) (hlen : l.length < 90000) {i : Nat} (hi : (fun (z : Nat) (h' : Hp) => h' = h0 ∧ z ≤ l.length ∧ l.take z = m.take z) i h)
    : ∃ s, evC call N equal_loopC (ovT [(0, va), (1, vb), (12, (AV.int .i64 (Int.ofNat l.length))), (13, (AV.int .i64 (Int.ofNat i))), (4, (AV.bool false))] t) h = s ∧ obsS [0, 1, 12, 13, 4] (fun ls h' => ∃ y, ls = ((fun (z : Nat) => [(0, va), (1, vb), (12, (AV.int .i64 (Int.ofNat l.length))), (13, (AV.int .i64 (Int.ofNat z))), (4, (AV.bool false))]) y).map (fun p => some p.2) ∧ (fun (z : Nat) (h' : Hp) => h' = h0 ∧ z ≤ l.length ∧ l.take z = m.take z) y h' ∧ (fun (z : Nat) => (l.length - z)) y < (fun (z : Nat) => (l.length - z)) i) (fun i ls h' => ∃ y, ls = ((fun (z : Nat) => [(0, va), (1, vb), (12, (AV.int .i64 (Int.ofNat l.length))), (13, (AV.int .i64 (Int.ofNat z))), (4, (AV.bool false))]) y).map (fun p => some p.2) ∧ (fun (i : Nat) (z : Nat) (h' : Hp) => (i = 0) ∧ (i = 0 → h' = h0 ∧ l = m)) i y h') (fun ls h' => (fun (ls : List (Option AV)) (h' : Hp) => h' = h0 ∧ ∃ x0 x1 x2 x3, ls = [x0, x1, x2, x3, some (.bool false)] ∧ l ≠ m) ls h') s := by
  have hi : h = h0 ∧ i ≤ l.length ∧ l.take i = m.take i := hi
  obtain ⟨hh, hil, htk⟩ := hi
  have P1 : Bytes B h va l := by rw [hh]; exact P
  have Q1 : Bytes B h vb m := by rw [hh]; exact Q
  refine walk_ok (o := (.fork 0 (.tell 4 (elemP va i 1) (.tell 0 (AV.int .u8 (Int.ofNat (l.getD i 0))) (.tell 2 (elemP vb i 1) (.tell 0 (AV.int .u8 (Int.ofNat (m.getD i 0))) (.fork 0 (.again 0 .fin) (.again 0 (.tell 0 (AV.int .i64 (Int.ofNat (i + 1))) .fin))))))) .fin)) (p := ((ltI (Int.ofNat i) (Int.ofNat l.length) = true → (evQ (.idxAddrSl 1 (.const va) (.const (AV.int .i64 (Int.ofNat i)))) .lf H0 = .ok (elemP va i 1) ∧ (evQ (.loadS (.const (elemP va i 1))) .lf h = .ok (AV.int .u8 (Int.ofNat (l.getD i 0))) ∧ (evQ (.idxAddrSl 1 (.const vb) (.const (AV.int .i64 (Int.ofNat i)))) .lf H0 = .ok (elemP vb i 1) ∧ (evQ (.loadS (.const (elemP vb i 1))) .lf h = .ok (AV.int .u8 (Int.ofNat (m.getD i 0))) ∧ ((notB (eqI (Int.ofNat (l.getD i 0)) (Int.ofNat (m.getD i 0))) = true → ((again (.eq .int true (.const (AV.int .u8 (Int.ofNat (l.getD i 0)))) (.const (AV.int .u8 (Int.ofNat (m.getD i 0))))) .lf (AV.bool true) h = true ∧ again (.loadS (.const (elemP vb i 1))) .lf (AV.int .u8 (Int.ofNat (m.getD i 0))) h = true ∧ again (.idxAddrSl 1 (.const vb) (.const (AV.int .i64 (Int.ofNat i)))) .lf (elemP vb i 1) h = true ∧ again (.move (.const (AV.int .i64 (Int.ofNat i)))) .lf (AV.int .i64 (Int.ofNat i)) h = true ∧ again (.move (.const vb)) .lf vb h = true ∧ again (.loadS (.const (elemP va i 1))) .lf (AV.int .u8 (Int.ofNat (l.getD i 0))) h = true ∧ again (.idxAddrSl 1 (.const va) (.const (AV.int .i64 (Int.ofNat i)))) .lf (elemP va i 1) h = true ∧ again (.move (.const (AV.int .i64 (Int.ofNat i)))) .lf (AV.int .i64 (Int.ofNat i)) h = true ∧ again (.move (.const va)) .lf va h = true ∧ True) ∧ ((fun ls h' => (fun (ls : List (Option AV)) (h' : Hp) => h' = h0 ∧ ∃ x0 x1 x2 x3, ls = [x0, x1, x2, x3, some (.bool false)] ∧ l ≠ m) ls h') : List (Option AV) → Hp → Prop) [some va, some vb, some (AV.int .i64 (Int.ofNat l.length)), some (AV.int .i64 (Int.ofNat i)), some (AV.bool false)] h)) ∧ (notB (eqI (Int.ofNat (l.getD i 0)) (Int.ofNat (m.getD i 0))) = false → ((again (.eq .int true (.const (AV.int .u8 (Int.ofNat (l.getD i 0)))) (.const (AV.int .u8 (Int.ofNat (m.getD i 0))))) .lf (AV.bool false) h = true ∧ again (.loadS (.const (elemP vb i 1))) .lf (AV.int .u8 (Int.ofNat (m.getD i 0))) h = true ∧ again (.idxAddrSl 1 (.const vb) (.const (AV.int .i64 (Int.ofNat i)))) .lf (elemP vb i 1) h = true ∧ again (.move (.const (AV.int .i64 (Int.ofNat i)))) .lf (AV.int .i64 (Int.ofNat i)) h = true ∧ again (.move (.const vb)) .lf vb h = true ∧ again (.loadS (.const (elemP va i 1))) .lf (AV.int .u8 (Int.ofNat (l.getD i 0))) h = true ∧ again (.idxAddrSl 1 (.const va) (.const (AV.int .i64 (Int.ofNat i)))) .lf (elemP va i 1) h = true ∧ again (.move (.const (AV.int .i64 (Int.ofNat i)))) .lf (AV.int .i64 (Int.ofNat i)) h = true ∧ again (.move (.const va)) .lf va h = true ∧ True) ∧ (evQ (.bin .add (.const (AV.int .i64 (Int.ofNat i))) (.const (AV.int .i64 (Int.ofNat 1)))) .lf H0 = .ok (AV.int .i64 (Int.ofNat (i + 1))) ∧ ((fun ls h' => ∃ y, ls = ((fun (z : Nat) => [(0, va), (1, vb), (12, (AV.int .i64 (Int.ofNat l.length))), (13, (AV.int .i64 (Int.ofNat z))), (4, (AV.bool false))]) y).map (fun p => some p.2) ∧ (fun (z : Nat) (h' : Hp) => h' = h0 ∧ z ≤ l.length ∧ l.take z = m.take z) y h' ∧ (fun (z : Nat) => (l.length - z)) y < (fun (z : Nat) => (l.length - z)) i) : List (Option AV) → Hp → Prop) [some va, some vb, some (AV.int .i64 (Int.ofNat l.length)), some (AV.int .i64 (Int.ofNat (i + 1))), some (AV.bool false)] h))))))))) ∧ (ltI (Int.ofNat i) (Int.ofNat l.length) = false → ((fun i ls h' => ∃ y, ls = ((fun (z : Nat) => [(0, va), (1, vb), (12, (AV.int .i64 (Int.ofNat l.length))), (13, (AV.int .i64 (Int.ofNat z))), (4, (AV.bool false))]) y).map (fun p => some p.2) ∧ (fun (i : Nat) (z : Nat) (h' : Hp) => (i = 0) ∧ (i = 0 → h' = h0 ∧ l = m)) i y h') : Nat → List (Option AV) → Hp → Prop) 0 [some va, some vb, some (AV.int .i64 (Int.ofNat l.length)), some (AV.int .i64 (Int.ofNat i)), some (AV.bool false)] h))) (by kernel_rfl) ?_
  refine ⟨fun c1 => ?_, fun c1 => ?_⟩
  · have rc1 := c1
    replace c1 : i < l.length := ltI_t c1
    refine ⟨q_idxB (l := l) P1 (by first | omega | (simp; done) | (simp at *; omega)), ?_⟩
    refine ⟨q_byte (l := l) P1 (by first | omega | (simp; done) | (simp at *; omega)), ?_⟩
    have x2 : l.getD i 0 < 256 := getD_lt P1.lt i
    refine ⟨q_idxB (l := m) Q1 (by first | omega | (simp; done) | (simp at *; omega)), ?_⟩
    refine ⟨q_byte (l := m) Q1 (by first | omega | (simp; done) | (simp at *; omega)), ?_⟩
    have x3 : m.getD i 0 < 256 := getD_lt Q1.lt i
    refine ⟨fun c4 => ?_, fun c4 => ?_⟩
    · have rc4 := c4
      replace c4 : l.getD i 0 ≠ m.getD i 0 := eqI_f (notB_t c4)
      refine ⟨⟨again_of (congrArg (fun b => OV.ok (AV.bool b)) rc4) (avEq_bool _), again_of (q_byte (l := m) Q1 (by first | omega | (simp; done) | (simp at *; omega))) (avEq_int _ _), again_of (q_idxB (l := m) Q1 (by first | omega | (simp; done) | (simp at *; omega))) (elemP_same _ _ _), again_of (rfl) (avEq_int _ _), again_of (rfl) (Bytes.same Q1), again_of (q_byte (l := l) P1 (by first | omega | (simp; done) | (simp at *; omega))) (avEq_int _ _), again_of (q_idxB (l := l) P1 (by first | omega | (simp; done) | (simp at *; omega))) (elemP_same _ _ _), again_of (rfl) (avEq_int _ _), again_of (rfl) (Bytes.same P1), trivial⟩, ?_⟩
      refine ⟨hh, _, _, _, _, rfl, ?_⟩
      intro hh; subst hh; exact absurd rfl (by assumption)
    · have rc4 := c4
      replace c4 : l.getD i 0 = m.getD i 0 := eqI_t (notB_f c4)
      refine ⟨⟨again_of (congrArg (fun b => OV.ok (AV.bool b)) rc4) (avEq_bool _), again_of (q_byte (l := m) Q1 (by first | omega | (simp; done) | (simp at *; omega))) (avEq_int _ _), again_of (q_idxB (l := m) Q1 (by first | omega | (simp; done) | (simp at *; omega))) (elemP_same _ _ _), again_of (rfl) (avEq_int _ _), again_of (rfl) (Bytes.same Q1), again_of (q_byte (l := l) P1 (by first | omega | (simp; done) | (simp at *; omega))) (avEq_int _ _), again_of (q_idxB (l := l) P1 (by first | omega | (simp; done) | (simp at *; omega))) (elemP_same _ _ _), again_of (rfl) (avEq_int _ _), again_of (rfl) (Bytes.same P1), trivial⟩, ?_⟩
      refine ⟨q_add (by omega), ?_⟩
      refine ⟨i + 1, rfl, ⟨hh, by omega, ?_⟩, by dsimp only; omega⟩
      exact take_succ_eq htk (by omega) (by omega) (by assumption)
  · have rc1 := c1
    replace c1 : l.length ≤ i := ltI_f c1
    refine ⟨i, rfl, rfl, fun _ => ⟨hh, ?_⟩⟩
    rw [← List.take_length (l := l), ← List.take_length (l := m), ← hlm, (show l.length = i by omega)]
    exact htk
theorem equal_loop {call : CallT} {N : Nat} {h0 : Hp} {B : Nat} {l m : List Nat} {va vb : AV} (P : Bytes B h0 va l) (Q : Bytes B h0 vb m) (hlm : l.length = m.length) (hlen : l.length < 90000) {i : Nat} {h : Hp} (hi : (fun (z : Nat) (h' : Hp) => h' = h0 ∧ z ≤ l.length ∧ l.take z = m.take z) i h) (hN : (l.length - i) < N) {t : T} (ht : Has ((fun (z : Nat) => [(0, va), (1, vb), (12, (AV.int .i64 (Int.ofNat l.length))), (13, (AV.int .i64 (Int.ofNat z))), (4, (AV.bool false))]) i) t) :
    (∃ i y t' h', evC call N (.loop equal_loopC) t h = .exit i t' h' ∧ Has ((fun (z : Nat) => [(0, va), (1, vb), (12, (AV.int .i64 (Int.ofNat l.length))), (13, (AV.int .i64 (Int.ofNat z))), (4, (AV.bool false))]) y) t' ∧ (fun (i : Nat) (z : Nat) (h' : Hp) => (i = 0) ∧ (i = 0 → h' = h0 ∧ l = m)) i y h') ∨ (∃ t' h', evC call N (.loop equal_loopC) t h = .ret t' h' ∧ (fun (ls : List (Option AV)) (h' : Hp) => h' = h0 ∧ ∃ x0 x1 x2 x3, ls = [x0, x1, x2, x3, some (.bool false)] ∧ l ≠ m) (slots [0, 1, 12, 13, 4] t') h') :=
  loop_st (fun (z : Nat) => [(0, va), (1, vb), (12, (AV.int .i64 (Int.ofNat l.length))), (13, (AV.int .i64 (Int.ofNat z))), (4, (AV.bool false))]) [0, 1, 12, 13, 4] (fun _ => rfl) (fun (z : Nat) (h' : Hp) => h' = h0 ∧ z ≤ l.length ∧ l.take z = m.take z) (fun (z : Nat) => (l.length - z)) (fun (i : Nat) (z : Nat) (h' : Hp) => (i = 0) ∧ (i = 0 → h' = h0 ∧ l = m)) (fun (ls : List (Option AV)) (h' : Hp) => h' = h0 ∧ ∃ x0 x1 x2 x3, ls = [x0, x1, x2, x3, some (.bool false)] ∧ l ≠ m) (fun i t h hi => equal_loop_body P Q hlm hlen hi) i h hi hN t ht
theorem equal_t {call : CallT} {N : Nat} {h : Hp} {B : Nat} {l m : List Nat} {va vb : AV} (P : Bytes B h va l) (Q : Bytes B h vb m) (hlen : l.length < 90000) (hN : l.length < N) (hlm : l.length = m.length) (hml : l = m)
    : ∃ rv rh, evF1 (progS Try.prog (compDrawn Try.prog)) N call 74 [va, vb] h = .ok rv rh ∧ (fun (v : AV) (h' : Hp) => h' = h ∧ v = .bool true) rv rh := by
  refine fwalk_ok (K := fun (v : AV) (h' : Hp) => h' = h ∧ v = .bool true) (o := (.tell 2 (AV.int .i64 (Int.ofNat l.length)) (.tell 1 (AV.int .i64 (Int.ofNat m.length)) (.fork 0 .fin (.tell 1 (AV.int .i64 (Int.ofNat l.length)) (.lpx 1 (fun e2 => (.exit 0 (ovT [] e2.t) h)) (fun e2 => .fin))))))) (p := (evQ (.lenL (.const va)) .lf H0 = .ok (AV.int .i64 (Int.ofNat l.length)) ∧ (evQ (.lenL (.const vb)) .lf H0 = .ok (AV.int .i64 (Int.ofNat m.length)) ∧ ((notB (eqI (Int.ofNat l.length) (Int.ofNat m.length)) = true → (fun (v : AV) (h' : Hp) => h' = h ∧ v = .bool true) (AV.bool false) h) ∧ (notB (eqI (Int.ofNat l.length) (Int.ofNat m.length)) = false → (evQ (.lenL (.const va)) .lf H0 = .ok (AV.int .i64 (Int.ofNat l.length)) ∧ (∃ e2 : Ev, evC call N (.loop equal_loopC) (ovT [(0, va), (1, vb), (4, (AV.bool false)), (6, va), (7, (AV.int .i64 (Int.ofNat l.length))), (8, vb), (9, (AV.int .i64 (Int.ofNat m.length))), (10, (AV.bool false)), (11, va), (12, (AV.int .i64 (Int.ofNat l.length))), (13, (AV.int .i64 (Int.ofNat 0)))] .lf) h = (.exit 0 (ovT [] e2.t) h) ∧ True ∧ (fun (v : AV) (h' : Hp) => h' = h ∧ v = .bool true) (AV.bool true) h))))))) (by kernel_rfl) ?_
  refine ⟨q_len P, ?_⟩
  refine ⟨q_len Q, ?_⟩
  refine ⟨fun c1 => ?_, fun c1 => ?_⟩
  · have rc1 := c1
    replace c1 : l.length ≠ m.length := eqI_f (notB_t c1)
    exact absurd hlm (by assumption)
  · have rc1 := c1
    replace c1 : l.length = m.length := eqI_t (notB_f c1)
    refine ⟨q_len P, ?_⟩
    obtain ⟨te2, qe2⟩ : ∃ t', evC call N (.loop equal_loopC) (ovT [(0, va), (1, vb), (4, (AV.bool false)), (6, va), (7, (AV.int .i64 (Int.ofNat l.length))), (8, vb), (9, (AV.int .i64 (Int.ofNat m.length))), (10, (AV.bool false)), (11, va), (12, (AV.int .i64 (Int.ofNat l.length))), (13, (AV.int .i64 (Int.ofNat 0)))] .lf) h = .exit 0 t' h := by
      rcases equal_loop P Q hlm hlen (i := 0) ⟨rfl, Nat.zero_le _, rfl⟩ (show l.length - 0 < N by omega) (t := ovT [(0, va), (1, vb), (4, (AV.bool false)), (6, va), (7, (AV.int .i64 (Int.ofNat l.length))), (8, vb), (9, (AV.int .i64 (Int.ofNat m.length))), (10, (AV.bool false)), (11, va), (12, (AV.int .i64 (Int.ofNat l.length))), (13, (AV.int .i64 (Int.ofNat 0)))] .lf) (show slots [0, 1, 12, 13, 4] _ = [some va, some vb, some (.int .i64 (.ofNat l.length)), some (.int .i64 (.ofNat 0)), some (.bool false)] by kernel_rfl) with ⟨i, y, t', h', q, w, e⟩ | ⟨t', h', q, e⟩
      · obtain ⟨e1, e2⟩ := e
        subst e1
        obtain ⟨e3, _⟩ := e2 rfl
        subst e3
        exact ⟨t', q⟩
      · obtain ⟨_, _, _, _, _, _, hne⟩ := e
        exact absurd hml hne
    refine ⟨(⟨.nilPtr, te2, H0⟩ : Ev), (by rw [qe2]; rfl), trivial, ?_⟩
    exact ⟨rfl, rfl⟩
theorem equal_f {call : CallT} {N : Nat} {h : Hp} {B : Nat} {l m : List Nat} {va vb : AV} (P : Bytes B h va l) (Q : Bytes B h vb m) (hlen : l.length < 90000) (hN : l.length < N) (hml : l ≠ m)
    : ∃ rv rh, evF1 (progS Try.prog (compDrawn Try.prog)) N call 74 [va, vb] h = .ok rv rh ∧ (fun (v : AV) (h' : Hp) => h' = h ∧ v = .bool false) rv rh := by
  refine fwalk_ok (K := fun (v : AV) (h' : Hp) => h' = h ∧ v = .bool false) (o := (.tell 2 (AV.int .i64 (Int.ofNat l.length)) (.tell 1 (AV.int .i64 (Int.ofNat m.length)) (.fork 0 .fin (.tell 1 (AV.int .i64 (Int.ofNat l.length)) (.lpx 1 (fun e2 => (.ret (ovT [(4, (AV.bool false))] e2.t) h)) (fun e2 => .fin))))))) (p := (evQ (.lenL (.const va)) .lf H0 = .ok (AV.int .i64 (Int.ofNat l.length)) ∧ (evQ (.lenL (.const vb)) .lf H0 = .ok (AV.int .i64 (Int.ofNat m.length)) ∧ ((notB (eqI (Int.ofNat l.length) (Int.ofNat m.length)) = true → (fun (v : AV) (h' : Hp) => h' = h ∧ v = .bool false) (AV.bool false) h) ∧ (notB (eqI (Int.ofNat l.length) (Int.ofNat m.length)) = false → (evQ (.lenL (.const va)) .lf H0 = .ok (AV.int .i64 (Int.ofNat l.length)) ∧ (∃ e2 : Ev, evC call N (.loop equal_loopC) (ovT [(0, va), (1, vb), (4, (AV.bool false)), (6, va), (7, (AV.int .i64 (Int.ofNat l.length))), (8, vb), (9, (AV.int .i64 (Int.ofNat m.length))), (10, (AV.bool false)), (11, va), (12, (AV.int .i64 (Int.ofNat l.length))), (13, (AV.int .i64 (Int.ofNat 0)))] .lf) h = (.ret (ovT [(4, (AV.bool false))] e2.t) h) ∧ True ∧ (fun (v : AV) (h' : Hp) => h' = h ∧ v = .bool false) (AV.bool false) h))))))) (by kernel_rfl) ?_
  refine ⟨q_len P, ?_⟩
  refine ⟨q_len Q, ?_⟩
  refine ⟨fun c1 => ?_, fun c1 => ?_⟩
  · have rc1 := c1
    replace c1 : l.length ≠ m.length := eqI_f (notB_t c1)
    exact ⟨rfl, rfl⟩
  · have rc1 := c1
    replace c1 : l.length = m.length := eqI_t (notB_f c1)
    refine ⟨q_len P, ?_⟩
    have hlm : l.length = m.length := by omega
    obtain ⟨te2, qe2⟩ : ∃ t', evC call N (.loop equal_loopC) (ovT [(0, va), (1, vb), (4, (AV.bool false)), (6, va), (7, (AV.int .i64 (Int.ofNat l.length))), (8, vb), (9, (AV.int .i64 (Int.ofNat m.length))), (10, (AV.bool false)), (11, va), (12, (AV.int .i64 (Int.ofNat l.length))), (13, (AV.int .i64 (Int.ofNat 0)))] .lf) h = .ret t' h ∧ tget (pathOf 4) t' = some (.bool false) := by
      rcases equal_loop P Q hlm hlen (i := 0) ⟨rfl, Nat.zero_le _, rfl⟩ (show l.length - 0 < N by omega) (t := ovT [(0, va), (1, vb), (4, (AV.bool false)), (6, va), (7, (AV.int .i64 (Int.ofNat l.length))), (8, vb), (9, (AV.int .i64 (Int.ofNat m.length))), (10, (AV.bool false)), (11, va), (12, (AV.int .i64 (Int.ofNat l.length))), (13, (AV.int .i64 (Int.ofNat 0)))] .lf) (show slots [0, 1, 12, 13, 4] _ = [some va, some vb, some (.int .i64 (.ofNat l.length)), some (.int .i64 (.ofNat 0)), some (.bool false)] by kernel_rfl) with ⟨i, y, t', h', q, w, e⟩ | ⟨t', h', q, e⟩
      · obtain ⟨e1, e2⟩ := e
        subst e1
        exact absurd (e2 rfl).2 hml
      · obtain ⟨e3, x0, x1, x2, x3, w, hne⟩ := e
        subst e3
        have w : [tget (pathOf 0) t', tget (pathOf 1) t', tget (pathOf 12) t', tget (pathOf 13) t', tget (pathOf 4) t'] = _ := w
        simp only [List.cons.injEq] at w
        exact ⟨t', q, w.2.2.2.2.1⟩
    obtain ⟨qe2, ge2⟩ := qe2
    refine ⟨(⟨.nilPtr, te2, H0⟩ : Ev), (by rw [qe2]; exact congrArg (fun t => RS.ret t _) (ovT_eq (l := [(4, (AV.bool false))]) (by show [tget (pathOf 4) te2] = _; rw [ge2]; rfl)).symm), trivial, ?_⟩
    exact ⟨rfl, rfl⟩
theorem s_equal (d : Nat) : EqS (CC (d + 1)) 74 := fun {B h va vb l m} P Q hl => by
  rw [CC, evF_at (sumT_none rfl)]
  by_cases hml : l = m
  · obtain ⟨rv, rh, e, rfl, rfl⟩ := equal_t (call := CC d) (N := 100000) P Q hl (by omega) (by rw [hml]) hml
    rw [decide_eq_true hml]; exact e
  · obtain ⟨rv, rh, e, rfl, rfl⟩ := equal_f (call := CC d) (N := 100000) P Q hl (by omega) hml
    rw [decide_eq_false hml]; exact e
theorem same_walk {call : CallT} {N : Nat} {h : Hp} {p q p' q' : AV} {l1 l2 m1 m2 : List Nat} (P : Bytes h.next h p l1) (Q : Bytes h.next h q l2) (P' : Bytes h.next h p' m1) (Q' : Bytes h.next h q' m2) (hl1 : l1.length < 80000) (hl2 : l2.length < 80000) (heq : EqS call 74)
    : ∃ rv rh, evF1 (progS Try.prog (compDrawn Try.prog)) N call 54 [(AV.agg [p, q]), (AV.agg [p', q'])] h = .ok rv rh ∧ (fun (v : AV) (h' : Hp) => v = .bool (decide (l1 = m1 ∧ l2 = m2)) ∧ Old h.next h h') rv rh := by
  refine fwalk_ok (K := fun (v : AV) (h' : Hp) => v = .bool (decide (l1 = m1 ∧ l2 = m2)) ∧ Old h.next h h') (o := (.ell 0 .ptr (mkCells [p, q] 2) (.ell 0 .ptr (mkCells [p', q'] 2) (.tell 2 p (.tell 1 p' (.eff 0 (AV.bool (decide (l1 = m1))) (hpush (hpush h (mkCells [p, q] 2)) (mkCells [p', q'] 2)) (.fork 0 (.tell 1 q (.tell 1 q' (.eff 0 (AV.bool (decide (l2 = m2))) (hpush (hpush h (mkCells [p, q] 2)) (mkCells [p', q'] 2)) (.fork 1 .fin .fin)))) .fin))))))) (p := (evL (.box (.const (AV.agg [p, q]))) .lf = .ok .ptr (mkCells [p, q] 2) ∧ (evL (.box (.const (AV.agg [p', q']))) .lf = .ok .ptr (mkCells [p', q'] 2) ∧ (evQ (.loadS (.const (AV.ptr (Hp.next h) 0))) .lf (hpush (hpush h (mkCells [p, q] 2)) (mkCells [p', q'] 2)) = .ok p ∧ (evQ (.loadS (.const (AV.ptr (Hp.next (hpush h (mkCells [p, q] 2))) 0))) .lf (hpush (hpush h (mkCells [p, q] 2)) (mkCells [p', q'] 2)) = .ok p' ∧ (call 74 [p, p'] (hpush (hpush h (mkCells [p, q] 2)) (mkCells [p', q'] 2)) = .ok (AV.bool (decide (l1 = m1))) (hpush (hpush h (mkCells [p, q] 2)) (mkCells [p', q'] 2)) ∧ ((decide (l1 = m1) = true → (evQ (.loadS (.const (AV.ptr (Hp.next h) 1))) .lf (hpush (hpush h (mkCells [p, q] 2)) (mkCells [p', q'] 2)) = .ok q ∧ (evQ (.loadS (.const (AV.ptr (Hp.next (hpush h (mkCells [p, q] 2))) 1))) .lf (hpush (hpush h (mkCells [p, q] 2)) (mkCells [p', q'] 2)) = .ok q' ∧ (call 74 [q, q'] (hpush (hpush h (mkCells [p, q] 2)) (mkCells [p', q'] 2)) = .ok (AV.bool (decide (l2 = m2))) (hpush (hpush h (mkCells [p, q] 2)) (mkCells [p', q'] 2)) ∧ ((decide (l2 = m2) = true → (fun (v : AV) (h' : Hp) => v = .bool (decide (l1 = m1 ∧ l2 = m2)) ∧ Old h.next h h') (AV.bool true) (hpush (hpush h (mkCells [p, q] 2)) (mkCells [p', q'] 2))) ∧ (decide (l2 = m2) = false → (fun (v : AV) (h' : Hp) => v = .bool (decide (l1 = m1 ∧ l2 = m2)) ∧ Old h.next h h') (AV.bool false) (hpush (hpush h (mkCells [p, q] 2)) (mkCells [p', q'] 2)))))))) ∧ (decide (l1 = m1) = false → (fun (v : AV) (h' : Hp) => v = .bool (decide (l1 = m1 ∧ l2 = m2)) ∧ Old h.next h h') (AV.bool false) (hpush (hpush h (mkCells [p, q] 2)) (mkCells [p', q'] 2)))))))))) (by kernel_rfl) ?_
  refine ⟨box_told rfl rfl (all_cell (Bytes.cell P) (all_cell (Bytes.cell Q) all_cell0)), ?_⟩
  have S1 : Sep [Cel (Hp.next h) [p, q]] (hpush h (mkCells [p, q] 2)) := cel_new (Sep.nil h) [p, q] rfl
  refine ⟨box_told rfl rfl (all_cell (Bytes.cell P') (all_cell (Bytes.cell Q') all_cell0)), ?_⟩
  have S2 : Sep [Cel (Hp.next (hpush h (mkCells [p, q] 2))) [p', q'], Cel (Hp.next h) [p, q]] (hpush (hpush h (mkCells [p, q] 2)) (mkCells [p', q'] 2)) := cel_new S1 [p', q'] rfl
  refine ⟨cel_load S2 (i := 1) rfl rfl, ?_⟩
  refine ⟨cel_load S2 (i := 0) rfl rfl, ?_⟩
  refine ⟨heq (P.push2 _ _) (P'.push2 _ _) (by omega), ?_⟩
  refine ⟨fun c3 => ?_, fun c3 => ?_⟩
  · have rc3 := c3
    refine ⟨cel_load S2 (i := 1) rfl rfl, ?_⟩
    refine ⟨cel_load S2 (i := 0) rfl rfl, ?_⟩
    refine ⟨heq (Q.push2 _ _) (Q'.push2 _ _) (by omega), ?_⟩
    refine ⟨fun c4 => ?_, fun c4 => ?_⟩
    · have rc4 := c4
      refine ⟨congrArg AV.bool ?_, Old.push2 _ _ _⟩
      simp_all
    · have rc4 := c4
      refine ⟨congrArg AV.bool ?_, Old.push2 _ _ _⟩
      simp_all
  · have rc3 := c3
    refine ⟨congrArg AV.bool ?_, Old.push2 _ _ _⟩
    simp_all
theorem s_same (d : Nat) : SameS (CC (d + 2)) 54 := fun {h p q p' q' l1 l2 m1 m2} P Q P' Q' h1 h2 => by
  rw [CC, evF_at (sumT_none rfl)]
  obtain ⟨rv, rh, e, rfl, o⟩ := same_walk (call := CC (d + 1)) (N := 100000) P Q P' Q' h1 h2 (s_equal d)
  exact ⟨rh, e, o⟩
theorem s_rsame (d : Nat) : SameS (CC (d + 1)) 49 := fun {h p q p' q' l1 l2 m1 m2} P Q P' Q' _ _ => by
  rw [CC, evF_at (sumT_none rfl)]
  obtain ⟨rv, rh, e, rfl, o⟩ := rsame_walk (call := CC d) (N := 100000) P Q P' Q'
  exact ⟨rh, e, o⟩
theorem s_rtakeF' (d : Nat) : TakeFS (CC (d + 6)) 44 takeF := takeFr_eq ▸ s_rtakeF d
theorem s_rtakeL' (d : Nat) : TakeLS (CC (d + 5)) 46 takeL := takeLr_eq ▸ s_rtakeL d
end Go.Proofs.Ytejiebbbodealaa
