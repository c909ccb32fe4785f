/- Package types, and what stands behind it in the reference: what its readers do, over lists. -/
import Derived.Test.YtejiebbbodealaaEngS35
import Derived.Test.YtejiebbbodealaaLebLaws
set_option linter.unusedVariables false
set_option linter.unusedSimpArgs false
namespace Eng
open Go Go.RowKit
abbrev Cu := List Nat × Nat × Nat
abbrev Rd := List Nat × Nat
def tyV (x : Nat) : Bool × Nat := if x = 127 ∨ x = 126 ∨ x = 112 ∨ x = 111 then (true, 0) else if x = 125 ∨ x = 124 ∨ x = 123 then (false, 5) else (false, 2)
def refV (x : Nat) : Bool := decide (x = 112 ∨ x = 111)
theorem tyV_e (x : Nat) : (tyV x).2 < 64 := by unfold tyV; split <;> (try split) <;> decide
theorem tyV_0 (x : Nat) : (tyV x).1 = true ↔ (tyV x).2 = 0 := by unfold tyV; split <;> (try split) <;> simp
def cuSkip (k : Nat) (s : Cu) : Cu := (s.1.drop k, s.2.1 + k, s.2.2)
def cuOne (s : Cu) : Nat × Cu := if s.2.2 = 0 then (match s.1 with | [] => (0, ([], s.2.1, 3)) | x :: l => (x, (l, s.2.1 + 1, 0))) else (0, s)
def cuNum (s : Cu) : Nat × Cu := if s.2.2 = 0 then ((readG 32 false s.1 0 0 0).1 % 4294967296, (s.1.drop (readG 32 false s.1 0 0 0).2.1, s.2.1 + (readG 32 false s.1 0 0 0).2.1, (readG 32 false s.1 0 0 0).2.2)) else (0, s)
def cuFail (is : Bool) (e : Nat) (s : Cu) : Cu := if is = true ∧ s.2.2 = 0 then (s.1, s.2.1, e) else s
noncomputable def cuVal (s : Cu) : Nat × Cu := ((cuOne s).1, cuFail (notB (tyV (cuOne s).1).1) (tyV (cuOne s).1).2 (cuOne s).2)
noncomputable def cuValsL : Nat → List Nat → Cu → List Nat × Cu
  | 0, acc, s => (acc, s)
  | k + 1, acc, s => if s.2.2 = 0 then cuValsL k (acc ++ [(cuVal s).1]) (cuVal s).2 else (acc, s)
noncomputable def cuVals (s : Cu) : List Nat × Cu := cuValsL (cuNum s).1 [] (cuFail (ltI (.ofNat 8) (.ofNat (cuNum s).1)) 4 (cuNum s).2)
def rByte (s : Rd) : Nat × Rd := if s.2 = 0 then (match s.1 with | [] => (0, ([], 3)) | x :: l => (x, (l, 0))) else (0, s)
def rFail (e : Nat) (s : Rd) : Rd := if s.2 = 0 then (s.1, e) else s
def rNum (size : Nat) (sg : Bool) (s : Rd) : Nat × Rd := if s.2 = 0 then ((readG size sg s.1 0 0 0).1, (s.1.drop (readG size sg s.1 0 0 0).2.1, (readG size sg s.1 0 0 0).2.2)) else (0, s)
def rVal (s : Rd) : Nat × Rd := ((rByte s).1, if (rByte s).2.2 = 0 then rFail (tyV (rByte s).1).2 (rByte s).2 else (rByte s).2)
def rValsL : Nat → List Nat → Rd → List Nat × Rd
  | 0, acc, s => (acc, s)
  | k + 1, acc, s => if s.2 = 0 then rValsL k (acc ++ [(rVal s).1]) (rVal s).2 else (acc, s)
def rU32 (s : Rd) : Nat × Rd := ((rNum 32 false s).1 % 4294967296, (rNum 32 false s).2)
def rVals (s : Rd) : List Nat × Rd := rValsL (rU32 s).1 [] (if 8 < (rU32 s).1 then rFail 4 (rU32 s).2 else (rU32 s).2)
theorem readG_len {size : Nat} {sg : Bool} : ∀ (l : List Nat) (a n v : Nat), (readG size sg l a n v).2.1 ≤ n + l.length ∧ (readG size sg l a n v).2.2 < 64 ∧ (readG size sg l a n v).2.1 < n + l.length + 1
  | [], a, n, v => by rw [readG]; simp
  | x :: l, a, n, v => by
    rw [readG]
    split
    · simp
    · split
      · have := readG_len (size := size) (sg := sg) l (a + 7) (n + 1) (v ||| ((x &&& 127) * 2 ^ a % 18446744073709551616))
        simp only [List.length_cons]; omega
      · split
        · simp only [List.length_cons]; omega
        · simp only [List.length_cons]; omega
theorem cuOne_bd (s : Cu) : (cuOne s).2.1.length + (cuOne s).2.2.1 ≤ s.1.length + s.2.1 ∧ (s.2.2 < 64 → (cuOne s).2.2.2 < 64) ∧ (cuOne s).2.1.length ≤ s.1.length := by
  unfold cuOne
  split
  · split
    · rename_i h; rw [h]; simp
    · rename_i h; rw [h]; simp only [List.length_cons]; omega
  · simp
theorem cuNum_bd (s : Cu) : (cuNum s).2.1.length + (cuNum s).2.2.1 ≤ s.1.length + s.2.1 ∧ (s.2.2 < 64 → (cuNum s).2.2.2 < 64) ∧ (cuNum s).2.1.length ≤ s.1.length ∧ (cuNum s).1 < 4294967296 := by
  unfold cuNum
  split
  · have := readG_len (size := 32) (sg := false) s.1 0 0 0
    simp only [List.length_drop]; omega
  · simp
theorem cuFail_bd (is : Bool) (e : Nat) (s : Cu) : (cuFail is e s).1 = s.1 ∧ (cuFail is e s).2.1 = s.2.1 ∧ (s.2.2 < 64 → e < 64 → (cuFail is e s).2.2 < 64) := by
  unfold cuFail; split <;> simp_all
theorem cuFail_bd2 (is : Bool) (e : Nat) (s : Cu) : (cuFail is e s).1.length = s.1.length ∧ (cuFail is e s).2.1 = s.2.1 ∧ (s.2.2 < 64 → e < 64 → (cuFail is e s).2.2 < 64) := by
  have h := cuFail_bd is e s
  rw [h.1]; exact ⟨rfl, h.2⟩
theorem ltN_iff (a b : Nat) : ltI (.ofNat a) (.ofNat b) = true ↔ a < b := by rw [ltI_eq]; simp
theorem vals_start (s : Cu) (h : s.1.length + s.2.1 < 80000) (he : s.2.2 < 64) :
    (cuFail (ltI (.ofNat 8) (.ofNat (cuNum s).1)) 4 (cuNum s).2).1.length + (cuFail (ltI (.ofNat 8) (.ofNat (cuNum s).1)) 4 (cuNum s).2).2.1 < 80000 ∧ (cuFail (ltI (.ofNat 8) (.ofNat (cuNum s).1)) 4 (cuNum s).2).2.2 < 64 ∧
    ((cuFail (ltI (.ofNat 8) (.ofNat (cuNum s).1)) 4 (cuNum s).2).2.2 = 0 → (cuNum s).1 ≤ 8) ∧ ([] : List Nat).length + (if (cuFail (ltI (.ofNat 8) (.ofNat (cuNum s).1)) 4 (cuNum s).2).2.2 = 0 then (cuNum s).1 else 0) ≤ 8 ∧ (cuNum s).1 < 4294967296 := by
  have h1 := cuNum_bd s
  have h2 := cuFail_bd (ltI (.ofNat 8) (.ofNat (cuNum s).1)) 4 (cuNum s).2
  have h3 : (cuFail (ltI (.ofNat 8) (.ofNat (cuNum s).1)) 4 (cuNum s).2).2.2 = 0 → (cuNum s).1 ≤ 8 := fun h0 => by
    by_cases h8 : 8 < (cuNum s).1
    · exfalso
      unfold cuFail at h0
      by_cases hz : (cuNum s).2.2.2 = 0
      · rw [if_pos ⟨(ltN_iff _ _).2 h8, hz⟩] at h0; cases h0
      · rw [if_neg (fun hh => hz hh.2)] at h0; exact hz h0
    · omega
  refine ⟨by rw [h2.1, h2.2.1]; omega, h2.2.2 (h1.2.1 he) (by decide), h3, ?_, h1.2.2.2⟩
  rw [List.length_nil]
  split
  · have := h3 ‹_›; omega
  · omega
theorem cuOne_lt {s : Cu} (h : ∀ x ∈ s.1, x < 256) : (cuOne s).1 < 256 := by
  unfold cuOne
  split
  · split
    · simp
    · rename_i y l h1; exact h _ (by rw [h1]; simp)
  · simp
theorem rByte_lt {s : Rd} (h : ∀ x ∈ s.1, x < 256) : (rByte s).1 < 256 := by
  unfold rByte
  split
  · split
    · simp
    · rename_i y l h1; exact h _ (by rw [h1]; simp)
  · simp
theorem rByte_bd (s : Rd) : (rByte s).2.1.length ≤ s.1.length ∧ (s.2 < 64 → (rByte s).2.2 < 64) := by
  unfold rByte
  split
  · split
    · rename_i h; rw [h]; simp
    · rename_i h; rw [h]; simp only [List.length_cons]; omega
  · simp
theorem rFail_bd (e : Nat) (s : Rd) : (rFail e s).1 = s.1 ∧ (s.2 < 64 → e < 64 → (rFail e s).2 < 64) := by
  unfold rFail; split <;> simp_all
theorem rNum_bd (size : Nat) (sg : Bool) (s : Rd) : (rNum size sg s).2.1.length ≤ s.1.length ∧ (s.2 < 64 → (rNum size sg s).2.2 < 64) ∧ (rNum size sg s).1 < 18446744073709551616 := by
  unfold rNum
  split
  · have := readG_len (size := size) (sg := sg) s.1 0 0 0
    have h2 := readG_lt (size := size) (sg := sg) s.1 0 0 0 (by decide)
    simp only [List.length_drop]; exact ⟨by omega, fun _ => this.2.1, h2⟩
  · simp
theorem rFail_bd2 (e : Nat) (s : Rd) : (rFail e s).1.length = s.1.length ∧ (s.2 < 64 → e < 64 → (rFail e s).2 < 64) := by
  have h := rFail_bd e s
  rw [h.1]; exact ⟨rfl, h.2⟩
theorem rU32_bd (s : Rd) : (rU32 s).2.1.length ≤ s.1.length ∧ (s.2 < 64 → (rU32 s).2.2 < 64) ∧ (rU32 s).1 < 4294967296 := by
  have := rNum_bd 32 false s
  unfold rU32
  exact ⟨this.1, this.2.1, Nat.mod_lt _ (by decide)⟩
theorem rVal_bd (s : Rd) : (rVal s).2.1.length ≤ s.1.length ∧ (s.2 < 64 → (rVal s).2.2 < 64) := by
  have h1 := rByte_bd s
  have h2 := rFail_bd (tyV (rByte s).1).2 (rByte s).2
  have h3 := tyV_e (rByte s).1
  unfold rVal
  dsimp only
  split
  · rw [h2.1]; exact ⟨h1.1, fun h => h2.2 (h1.2 h) h3⟩
  · exact h1
theorem rvals_start (s : Rd) (h : s.1.length < 80000) (he : s.2 < 64) {T : Rd} (hT : T = if 8 < (rU32 s).1 then rFail 4 (rU32 s).2 else (rU32 s).2) :
    T.1.length < 80000 ∧ T.2 < 64 ∧ (T.2 = 0 → (rU32 s).1 ≤ 8) ∧ ([] : List Nat).length + (if T.2 = 0 then (rU32 s).1 - 0 else 0) ≤ 8 ∧ (rU32 s).1 < 4294967296 := by
  have h1 := rU32_bd s
  have h2 := rFail_bd 4 (rU32 s).2
  have h3 : T.2 = 0 → (rU32 s).1 ≤ 8 := fun h0 => by
    by_cases h8 : 8 < (rU32 s).1
    · exfalso
      rw [hT, if_pos h8] at h0
      unfold rFail at h0
      by_cases hz : (rU32 s).2.2 = 0
      · rw [if_pos hz] at h0; cases h0
      · rw [if_neg hz] at h0; exact hz h0
    · omega
  refine ⟨?_, ?_, h3, ?_, h1.2.2⟩
  · rw [hT]; split
    · rw [h2.1]; omega
    · omega
  · rw [hT]; split
    · exact h2.2 (h1.2.1 he) (by decide)
    · exact h1.2.1 he
  · rw [List.length_nil]
    split
    · have := h3 ‹_›; omega
    · omega
theorem rVal_lt {s : Rd} (h : ∀ x ∈ s.1, x < 256) : (rVal s).1 < 256 := rByte_lt h
abbrev cuC (vb : AV) (s : Cu) (rest : List AV) : List AV := vb :: .int .i64 (.ofNat s.2.1) :: .int .i64 (.ofNat s.2.2) :: rest
def CuM (call : CallT) (f : Nat) (args : List AV) (res : Cu → AV) (st : Cu → Cu) : Prop := ∀ {h h0 : Hp} {G : Nat → Prop} {R : List AObj} {b : Nat} {vb : AV} (s : Cu) (rest : List AV), BIn G h0 vb s.1 → s.1.length + s.2.1 < 80000 → s.2.2 < 64 → Sep (Cel b (cuC vb s rest) :: Frz G h0 :: R) h →
  ∃ v' h', call f (.ptr b 0 :: args) h = .ok (res s) h' ∧ BIn G h0 v' (st s).1 ∧ Sep (Cel b (cuC v' (st s) rest) :: Frz G h0 :: R) h'
def CuV (call : CallT) (f : Nat) (res : Cu → List Nat) (st : Cu → Cu) : Prop := ∀ {h h0 : Hp} {G : Nat → Prop} {R : List AObj} {b : Nat} {vb : AV} (s : Cu) (rest : List AV), BIn G h0 vb s.1 → s.1.length + s.2.1 < 80000 → s.2.2 < 64 → Sep (Cel b (cuC vb s rest) :: Frz G h0 :: R) h →
  ∃ w v' h', call f [.ptr b 0] h = .ok w h' ∧ BIn G h0 v' (st s).1 ∧ Sep (OwnO 1 w (res s).length (u8s (res s)) :: Cel b (cuC v' (st s) rest) :: Frz G h0 :: R) h'
abbrev rdC (vb : AV) (s : Rd) (rest : List AV) : List AV := vb :: .int .i64 (.ofNat s.2) :: rest
def RdM (call : CallT) (f : Nat) (args : List AV) (res : Rd → AV) (st : Rd → Rd) : Prop := ∀ {h h0 : Hp} {G : Nat → Prop} {R : List AObj} {b : Nat} {vb : AV} (s : Rd) (rest : List AV), BIn G h0 vb s.1 → s.1.length < 80000 → s.2 < 64 → Sep (Cel b (rdC vb s rest) :: Frz G h0 :: R) h →
  ∃ v' h', call f (.ptr b 0 :: args) h = .ok (res s) h' ∧ BIn G h0 v' (st s).1 ∧ Sep (Cel b (rdC v' (st s) rest) :: Frz G h0 :: R) h'
def RdV (call : CallT) (f : Nat) (res : Rd → List Nat) (st : Rd → Rd) : Prop := ∀ {h h0 : Hp} {G : Nat → Prop} {R : List AObj} {b : Nat} {vb : AV} (s : Rd) (rest : List AV), BIn G h0 vb s.1 → s.1.length < 80000 → s.2 < 64 → Sep (Cel b (rdC vb s rest) :: Frz G h0 :: R) h →
  ∃ w v' h', call f [.ptr b 0] h = .ok w h' ∧ BIn G h0 v' (st s).1 ∧ Sep (OwnO 1 w (res s).length (u8s (res s)) :: Cel b (rdC v' (st s) rest) :: Frz G h0 :: R) h'
def ValS (call : CallT) (f : Nat) : Prop := ∀ (x : Nat) (h : Hp), x < 256 → call f [.int .u8 (.ofNat x)] h = .ok (.tuple [.bool (tyV x).1, .int .i64 (.ofNat (tyV x).2)]) h
def RefS (call : CallT) (f : Nat) : Prop := ∀ (x : Nat) (h : Hp), x < 256 → call f [.int .u8 (.ofNat x)] h = .ok (.bool (refV x)) h
noncomputable def fS (l : List Nat) : Cu := cuFail (notB (eqI (.ofNat (cuOne (l, 0, 0)).1) (.ofNat 96))) 2 (cuOne (l, 0, 0)).2
noncomputable def takeF (l : List Nat) : (List Nat × List Nat) × Nat × Nat :=
  if (cuVals (cuVals (fS l)).2).2.2.2 = 0 then (((cuVals (fS l)).1, (cuVals (cuVals (fS l)).2).1), (cuVals (cuVals (fS l)).2).2.2.1, 0) else (([], []), 0, (cuVals (cuVals (fS l)).2).2.2.2)
noncomputable def lS (l : List Nat) : Cu := cuFail (ltI (.ofNat 1) (.ofNat (cuOne (l, 0, 0)).1)) 2 (cuOne (l, 0, 0)).2
noncomputable def takeL (l : List Nat) : (Nat × Nat × Bool) × Nat × Nat :=
  if (cuOne (l, 0, 0)).1 = 1 then (if (cuNum (cuNum (lS l)).2).2.2.2 = 0 then (((cuNum (lS l)).1, (cuNum (cuNum (lS l)).2).1, true), (cuNum (cuNum (lS l)).2).2.2.1, 0) else ((0, 0, false), 0, (cuNum (cuNum (lS l)).2).2.2.2))
  else (if (cuNum (lS l)).2.2.2 = 0 then (((cuNum (lS l)).1, 0, false), (cuNum (lS l)).2.2.1, 0) else ((0, 0, false), 0, (cuNum (lS l)).2.2.2))
def TakeFS (call : CallT) (f : Nat) (g : List Nat → (List Nat × List Nat) × Nat × Nat) : Prop := ∀ {h h0 : Hp} {G : Nat → Prop} {R : List AObj} {vb : AV} (l : List Nat), BIn G h0 vb l → l.length < 70000 → Sep (Frz G h0 :: R) h →
  ∃ p q h', call f [vb] h = .ok (.tuple [.agg [p, q], .int .i64 (.ofNat (g l).2.1), .int .i64 (.ofNat (g l).2.2)]) h' ∧ Sep (OwnO 1 p (g l).1.1.length (u8s (g l).1.1) :: OwnO 1 q (g l).1.2.length (u8s (g l).1.2) :: Frz G h0 :: R) h'
def TakeLS (call : CallT) (f : Nat) (g : List Nat → (Nat × Nat × Bool) × Nat × Nat) : Prop := ∀ {h h0 : Hp} {G : Nat → Prop} {R : List AObj} {vb : AV} (l : List Nat), BIn G h0 vb l → l.length < 70000 → Sep (Frz G h0 :: R) h →
  ∃ h', call f [vb] h = .ok (.tuple [.agg [.int .u32 (.ofNat (g l).1.1), .int .u32 (.ofNat (g l).1.2.1), .bool (g l).1.2.2], .int .i64 (.ofNat (g l).2.1), .int .i64 (.ofNat (g l).2.2)]) h' ∧ Sep (Frz G h0 :: R) h'
theorem cuValsL_bd : ∀ (k : Nat) (acc : List Nat) (s : Cu), (cuValsL k acc s).2.1.length + (cuValsL k acc s).2.2.1 ≤ s.1.length + s.2.1 ∧ (s.2.2 < 64 → (cuValsL k acc s).2.2.2 < 64)
  | 0, acc, s => by unfold cuValsL; simp
  | k + 1, acc, s => by
    unfold cuValsL
    split
    · have h1 := cuValsL_bd k (acc ++ [(cuVal s).1]) (cuVal s).2
      have h2 := cuOne_bd s
      have h3 := cuFail_bd (notB (tyV (cuOne s).1).1) (tyV (cuOne s).1).2 (cuOne s).2
      have h4 : (cuVal s).2 = cuFail (notB (tyV (cuOne s).1).1) (tyV (cuOne s).1).2 (cuOne s).2 := rfl
      rw [h4] at h1 ⊢
      rw [h3.1, h3.2.1] at h1
      exact ⟨by omega, fun h => h1.2 (h3.2.2 (h2.2.1 h) (tyV_e _))⟩
    · simp
theorem cuVals_bd (s : Cu) : (cuVals s).2.1.length + (cuVals s).2.2.1 ≤ s.1.length + s.2.1 ∧ (s.2.2 < 64 → (cuVals s).2.2.2 < 64) := by
  have h1 := cuNum_bd s
  have h2 := cuFail_bd (ltI (.ofNat 8) (.ofNat (cuNum s).1)) 4 (cuNum s).2
  have h3 := cuValsL_bd (cuNum s).1 [] (cuFail (ltI (.ofNat 8) (.ofNat (cuNum s).1)) 4 (cuNum s).2)
  rw [h2.1, h2.2.1] at h3
  unfold cuVals
  exact ⟨by omega, fun h => h3.2 (h2.2.2 (h1.2.1 h) (by decide))⟩
theorem rValsL_bd : ∀ (k : Nat) (acc : List Nat) (s : Rd), (rValsL k acc s).2.1.length ≤ s.1.length ∧ (s.2 < 64 → (rValsL k acc s).2.2 < 64)
  | 0, acc, s => by unfold rValsL; simp
  | k + 1, acc, s => by
    unfold rValsL
    split
    · have h1 := rValsL_bd k (acc ++ [(rVal s).1]) (rVal s).2
      have h2 := rVal_bd s
      exact ⟨by omega, fun h => h1.2 (h2.2 h)⟩
    · simp
theorem rVals_bd (s : Rd) : (rVals s).2.1.length ≤ s.1.length ∧ (s.2 < 64 → (rVals s).2.2 < 64) := by
  have h1 := rU32_bd s
  have h2 := rFail_bd 4 (rU32 s).2
  unfold rVals
  have h3 := rValsL_bd (rU32 s).1 [] (if 8 < (rU32 s).1 then rFail 4 (rU32 s).2 else (rU32 s).2)
  have h4 : (if 8 < (rU32 s).1 then rFail 4 (rU32 s).2 else (rU32 s).2).1.length ≤ s.1.length ∧ (s.2 < 64 → (if 8 < (rU32 s).1 then rFail 4 (rU32 s).2 else (rU32 s).2).2 < 64) := by
    split
    · rw [h2.1]; exact ⟨h1.1, fun h => h2.2 (h1.2.1 h) (by decide)⟩
    · exact ⟨h1.1, h1.2.1⟩
  exact ⟨by omega, fun h => h3.2 (h4.2 h)⟩
noncomputable def rfS (s : Rd) : Rd := if (rByte s).1 = 96 then (rByte s).2 else rFail 2 (rByte s).2
noncomputable def rFT (s : Rd) : (List Nat × List Nat) × Rd := (((rVals (rfS s)).1, (rVals (rVals (rfS s)).2).1), (rVals (rVals (rfS s)).2).2)
noncomputable def rlS (s : Rd) : Rd := if 1 < (rByte s).1 then rFail 2 (rByte s).2 else (rByte s).2
noncomputable def rLm (s : Rd) : (Nat × Nat × Bool) × Rd := if (rByte s).1 = 1 then (((rU32 (rlS s)).1, (rU32 (rU32 (rlS s)).2).1, true), (rU32 (rU32 (rlS s)).2).2) else (((rU32 (rlS s)).1, 0, false), (rU32 (rlS s)).2)
noncomputable def takeFr (l : List Nat) : (List Nat × List Nat) × Nat × Nat := if (rFT (l, 0)).2.2 = 0 then ((rFT (l, 0)).1, l.length - (rFT (l, 0)).2.1.length, 0) else (([], []), 0, (rFT (l, 0)).2.2)
noncomputable def takeLr (l : List Nat) : (Nat × Nat × Bool) × Nat × Nat := if (rLm (l, 0)).2.2 = 0 then ((rLm (l, 0)).1, l.length - (rLm (l, 0)).2.1.length, 0) else ((0, 0, false), 0, (rLm (l, 0)).2.2)
def RdF (call : CallT) (f : Nat) : Prop := ∀ {h h0 : Hp} {G : Nat → Prop} {R : List AObj} {b : Nat} {vb : AV} (s : Rd) (rest : List AV), BIn G h0 vb s.1 → s.1.length < 80000 → s.2 < 64 → Sep (Cel b (rdC vb s rest) :: Frz G h0 :: R) h →
  ∃ p q v' h', call f [.ptr b 0] h = .ok (.agg [p, q]) h' ∧ BIn G h0 v' (rFT s).2.1 ∧ Sep (OwnO 1 p (rFT s).1.1.length (u8s (rFT s).1.1) :: OwnO 1 q (rFT s).1.2.length (u8s (rFT s).1.2) :: Cel b (rdC v' (rFT s).2 rest) :: Frz G h0 :: R) h'
theorem rfS_bd (s : Rd) : (rfS s).1.length ≤ s.1.length ∧ (s.2 < 64 → (rfS s).2 < 64) := by
  have h1 := rByte_bd s
  have h2 := rFail_bd 2 (rByte s).2
  unfold rfS
  split
  · exact h1
  · rw [h2.1]; exact ⟨h1.1, fun h => h2.2 (h1.2 h) (by decide)⟩
theorem rFT_bd (s : Rd) : (rFT s).2.1.length ≤ s.1.length ∧ (s.2 < 64 → (rFT s).2.2 < 64) := by
  have h1 := rfS_bd s
  have h2 := rVals_bd (rfS s)
  have h3 := rVals_bd (rVals (rfS s)).2
  unfold rFT
  exact ⟨by dsimp only; omega, fun h => h3.2 (h2.2 (h1.2 h))⟩
theorem rLm_bd (s : Rd) : (rLm s).2.1.length ≤ s.1.length ∧ (s.2 < 64 → (rLm s).2.2 < 64) ∧ (rLm s).1.1 < 4294967296 ∧ (rLm s).1.2.1 < 4294967296 := by
  have h1 := rByte_bd s
  have h2 := rFail_bd 2 (rByte s).2
  have h0 : (rlS s).1.length ≤ s.1.length ∧ (s.2 < 64 → (rlS s).2 < 64) := by
    unfold rlS
    split
    · rw [h2.1]; exact ⟨h1.1, fun h => h2.2 (h1.2 h) (by decide)⟩
    · exact h1
  have h3 := rU32_bd (rlS s)
  have h4 := rU32_bd (rU32 (rlS s)).2
  unfold rLm
  split
  · exact ⟨by dsimp only; omega, fun h => h4.2.1 (h3.2.1 (h0.2 h)), h3.2.2, h4.2.2⟩
  · exact ⟨by dsimp only; omega, fun h => h3.2.1 (h0.2 h), h3.2.2, Nat.zero_lt_succ _⟩
def cu (s : Cu) : Rd := (s.1, s.2.2)
theorem cu_one (s : Cu) : (rByte (cu s)).1 = (cuOne s).1 ∧ (rByte (cu s)).2 = cu (cuOne s).2 := by
  unfold cu rByte cuOne
  dsimp only
  split
  · split <;> simp
  · simp
theorem cu_num (s : Cu) : (rU32 (cu s)).1 = (cuNum s).1 ∧ (rU32 (cu s)).2 = cu (cuNum s).2 := by
  unfold cu rU32 rNum cuNum
  dsimp only
  split
  · simp
  · simp
theorem cu_fail (is : Bool) (e : Nat) (s : Cu) : cu (cuFail is e s) = if is = true then rFail e (cu s) else cu s := by
  unfold cu cuFail rFail
  dsimp only
  cases is <;> simp
  split <;> simp_all
theorem cu_val (s : Cu) : (rVal (cu s)).1 = (cuVal s).1 ∧ (rVal (cu s)).2 = cu (cuVal s).2 := by
  have h := cu_one s
  unfold rVal cuVal
  rw [h.1, h.2, cu_fail]
  refine ⟨rfl, ?_⟩
  dsimp only
  have h1 := tyV_0 (cuOne s).1
  by_cases h0 : (tyV (cuOne s).1).1 = true
  · rw [h0, h1.1 h0]
    have : notB true = false := rfl
    unfold rFail cu; dsimp only
    split <;> simp_all
  · have h0 : (tyV (cuOne s).1).1 = false := by simpa using h0
    rw [h0]
    have : notB false = true := rfl
    unfold rFail cu; dsimp only
    split <;> simp_all
theorem cu_valsL : ∀ (k : Nat) (acc : List Nat) (s : Cu), (rValsL k acc (cu s)).1 = (cuValsL k acc s).1 ∧ (rValsL k acc (cu s)).2 = cu (cuValsL k acc s).2
  | 0, acc, s => ⟨rfl, rfl⟩
  | k + 1, acc, s => by
    unfold rValsL cuValsL
    have h := cu_val s
    by_cases h0 : s.2.2 = 0
    · rw [if_pos (show (cu s).2 = 0 from h0), if_pos h0, h.1, h.2]
      exact cu_valsL k _ _
    · rw [if_neg (show ¬ (cu s).2 = 0 from h0), if_neg h0]; exact ⟨rfl, rfl⟩
theorem cu_vals (s : Cu) : (rVals (cu s)).1 = (cuVals s).1 ∧ (rVals (cu s)).2 = cu (cuVals s).2 := by
  have h := cu_num s
  unfold rVals cuVals
  rw [h.1, h.2]
  have h2 : (if 8 < (cuNum s).1 then rFail 4 (cu (cuNum s).2) else cu (cuNum s).2) = cu (cuFail (ltI (.ofNat 8) (.ofNat (cuNum s).1)) 4 (cuNum s).2) := by
    rw [cu_fail]
    by_cases h8 : 8 < (cuNum s).1
    · rw [if_pos h8, if_pos (by rw [ltI_eq]; exact decide_eq_true (Int.ofNat_lt.2 h8))]
    · rw [if_neg h8, if_neg (by rw [ltI_eq]; simp; omega)]
  rw [h2]
  exact cu_valsL _ _ _
end Eng
