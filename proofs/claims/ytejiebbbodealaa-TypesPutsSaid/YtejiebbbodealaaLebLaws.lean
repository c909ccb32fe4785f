/- What is put is read: laws of numbers of seven bits, on lists. -/
import Derived.Test.YtejiebbbodealaaLebPure
set_option linter.unusedVariables false
set_option linter.unusedSimpArgs false
namespace Eng
open Go
def digU : Nat → Nat → List Nat
  | 0, v => [v % 128]
  | n + 1, v => (v % 128 ||| 128) :: digU n (v / 128)
def digS : Nat → Int → List Nat
  | 0, w => [(w % 128).toNat]
  | n + 1, w => ((w % 128).toNat ||| 128) :: digS n (w / 128)
theorem hi8 : ∀ d < 128, (d ||| 128) &&& 127 = d ∧ 128 ≤ (d ||| 128) ∧ (d ||| 128) < 256 ∧ d &&& 127 = d ∧ (d &&& 64 ≠ 0 ↔ 64 ≤ d) := by decide +kernel
theorem or_add {a b k : Nat} (h : a < 2 ^ k) : a ||| (b * 2 ^ k) = a + b * 2 ^ k := by
  rw [Nat.or_comm, Nat.mul_comm b, ← Nat.two_pow_add_eq_or_of_lt h, Nat.add_comm]
theorem acc_step {a d k : Nat} (h : a < 2 ^ k) (hd : a + d * 2 ^ k < 18446744073709551616) : a ||| (d * 2 ^ k % 18446744073709551616) = a + d * 2 ^ k := by
  rw [Nat.mod_eq_of_lt (by omega), or_add h]
theorem or_mod {a b k : Nat} (h : a < 2 ^ k) (hk : k ≤ 64) : a ||| (b * 2 ^ k % 18446744073709551616) = a + b * 2 ^ k % 18446744073709551616 := by
  have e : 18446744073709551616 = 2 ^ (64 - k) * 2 ^ k := by rw [← Nat.pow_add, show 64 - k + k = 64 by omega]
  rw [e, Nat.mul_mod_mul_right, or_add h]
theorem pow7 (i : Nat) : 2 ^ (7 * (i + 1)) = 128 * 2 ^ (7 * i) := by
  rw [show 7 * (i + 1) = 7 + 7 * i by omega, Nat.pow_add]
theorem readG_digU {size : Nat} (hs : size ≤ 64) {more : List Nat} : ∀ (n u i acc : Nat), u < 128 ^ (n + 1) → acc < 2 ^ (7 * i) → 7 * i < size →
    readG size false (digU n u ++ more) (7 * i) i acc = if 7 * (i + n) < size ∧ acc + u * 2 ^ (7 * i) < 2 ^ size then (acc + u * 2 ^ (7 * i), i + n + 1, 0) else (0, 0, 2)
  | 0, u, i, acc, hu, ha, hi => by
    have hu : u < 128 := by simpa using hu
    have hP : 2 ^ size = 2 ^ (size - 7 * i) * 2 ^ (7 * i) := by rw [← Nat.pow_add]; congr 1; omega
    have h64 : 2 ^ size ≤ 18446744073709551616 := Nat.pow_le_pow_right (n := 2) (by decide) hs
    show readG size false ((u % 128) :: more) (7 * i) i acc = _
    rw [Nat.mod_eq_of_lt hu, readG_u (by omega) hi, (hi8 u hu).2.2.2.1]
    have key : acc + u * 2 ^ (7 * i) < 2 ^ size ↔ u < 2 ^ (size - 7 * i) := by
      rw [hP]
      constructor
      · intro h
        apply Classical.byContradiction
        intro hn
        have := Nat.mul_le_mul_right (2 ^ (7 * i)) (Nat.le_of_not_lt hn)
        omega
      · intro h
        have := Nat.mul_le_mul_right (2 ^ (7 * i)) (Nat.succ_le_of_lt h)
        rw [Nat.succ_mul] at this
        omega
    by_cases hl : size - 7 * i ≤ 7
    · by_cases hv : u < 2 ^ (size - 7 * i)
      · rw [if_neg (by rintro ⟨_, h | h⟩; omega; exact h (Nat.div_eq_of_lt hv)), if_pos hu, if_pos ⟨by omega, key.2 hv⟩, acc_step ha (by have := key.2 hv; omega)]
      · rw [if_pos ⟨hl, .inr (by have := Nat.div_pos (Nat.le_of_not_lt hv) (Nat.pow_pos (by decide)); omega)⟩, if_neg (fun h => hv (key.1 h.2))]
    · have hv : u < 2 ^ (size - 7 * i) := Nat.lt_of_lt_of_le hu (by
        have : 2 ^ 7 ≤ 2 ^ (size - 7 * i) := Nat.pow_le_pow_right (by decide) (by omega)
        omega)
      rw [if_neg (fun h => hl h.1), if_pos hu, if_pos ⟨by omega, key.2 hv⟩, acc_step ha (by have := key.2 hv; omega)]
  | n + 1, u, i, acc, hu, ha, hi => by
    obtain ⟨h1, h2, h3, _⟩ := hi8 (u % 128) (Nat.mod_lt _ (by decide))
    show readG size false ((u % 128 ||| 128) :: (digU n (u / 128) ++ more)) (7 * i) i acc = _
    rw [readG_u h3 hi, h1]
    by_cases hl : size - 7 * i ≤ 7
    · rw [if_pos ⟨hl, .inl h2⟩, if_neg (by rintro ⟨h, _⟩; omega)]
    · rw [if_neg (fun h => hl h.1), if_neg (by omega)]
      have hu' : u / 128 < 128 ^ (n + 1) := by rw [Nat.pow_succ] at hu; omega
      have hlt : acc + u % 128 * 2 ^ (7 * i) < 2 ^ (7 * (i + 1)) := by
        rw [pow7]
        have := Nat.mul_le_mul_right (2 ^ (7 * i)) (show u % 128 ≤ 127 by omega)
        omega
      have h64 : 2 ^ (7 * (i + 1)) ≤ 18446744073709551616 := Nat.pow_le_pow_right (n := 2) (by decide) (by omega : 7 * (i + 1) ≤ 64)
      rw [acc_step ha (by omega), readG_digU hs n (u / 128) (i + 1) _ hu' hlt (by omega)]
      have hV : acc + u % 128 * 2 ^ (7 * i) + u / 128 * 2 ^ (7 * (i + 1)) = acc + u * 2 ^ (7 * i) := by
        rw [pow7, ← Nat.mul_assoc, Nat.add_assoc, ← Nat.add_mul]
        congr 2; omega
      rw [hV, show i + 1 + n = i + (n + 1) by omega]
theorem readG_digS {size : Nat} (hs : size = 32 ∨ size = 33 ∨ size = 64) {more : List Nat} : ∀ (n : Nat) (w : Int) (i acc : Nat), -(64 * 128 ^ n) ≤ w ∧ w < 64 * 128 ^ n → acc < 2 ^ (7 * i) → 7 * i < size →
    readG size true (digS n w ++ more) (7 * i) i acc = if 7 * (i + n) < size ∧ -(2 ^ (size - 1)) ≤ (acc : Int) + w * 2 ^ (7 * i) ∧ (acc : Int) + w * 2 ^ (7 * i) < 2 ^ (size - 1) then ((((acc : Int) + w * 2 ^ (7 * i)) % 18446744073709551616).toNat, i + n + 1, 0) else (0, 0, 2)
  | 0, w, i, acc, hw, ha, hi => by
    have hw : -64 ≤ w ∧ w < 64 := by simpa using hw
    have hx : (w % 128).toNat < 128 := by omega
    obtain ⟨_, _, _, h4, h5⟩ := hi8 _ hx
    show readG size true ((w % 128).toNat :: more) (7 * i) i acc = _
    rw [readG_s (by omega) hi, h4]
    have hcases : (size = 32 ∧ i ≤ 4) ∨ (size = 33 ∧ i ≤ 4) ∨ (size = 64 ∧ i ≤ 9) := by omega
    have hxv : ((w % 128).toNat : Int) = if w < 0 then w + 128 else w := by split <;> omega
    have e1 : acc ||| ((w % 128).toNat * 2 ^ (7 * i) % 18446744073709551616) = acc + (w % 128).toNat * 2 ^ (7 * i) % 18446744073709551616 := or_mod ha (by omega)
    have e2 : 7 * i + 7 < 64 → (acc + (w % 128).toNat * 2 ^ (7 * i) % 18446744073709551616) ||| (18446744073709551615 * 2 ^ (7 * i + 7) % 18446744073709551616) = acc + (w % 128).toNat * 2 ^ (7 * i) % 18446744073709551616 + 18446744073709551615 * 2 ^ (7 * i + 7) % 18446744073709551616 := fun h => or_mod (by
      have := Nat.mod_le ((w % 128).toNat * 2 ^ (7 * i)) 18446744073709551616
      have h2 := Nat.mul_le_mul_right (2 ^ (7 * i)) (show (w % 128).toNat ≤ 127 by omega)
      rw [show 7 * i + 7 = 7 * (i + 1) by omega, pow7]; omega) (by omega)
    rw [e1]
    have e3 : (if (w % 128).toNat &&& 64 ≠ 0 ∧ 7 * i + 7 < 64 then ((acc + (w % 128).toNat * 2 ^ (7 * i) % 18446744073709551616) ||| (18446744073709551615 * 2 ^ (7 * i + 7) % 18446744073709551616), i + 1, 0) else (acc + (w % 128).toNat * 2 ^ (7 * i) % 18446744073709551616, i + 1, 0)) =
        (if 64 ≤ (w % 128).toNat ∧ 7 * i + 7 < 64 then (acc + (w % 128).toNat * 2 ^ (7 * i) % 18446744073709551616 + 18446744073709551615 * 2 ^ (7 * i + 7) % 18446744073709551616, i + 1, 0) else (acc + (w % 128).toNat * 2 ^ (7 * i) % 18446744073709551616, i + 1, 0)) := by
      by_cases h : 64 ≤ (w % 128).toNat ∧ 7 * i + 7 < 64
      · rw [if_pos ⟨h5.2 h.1, h.2⟩, if_pos h, e2 h.2]
      · rw [if_neg (fun e => h ⟨h5.1 e.1, e.2⟩), if_neg h]
    rw [e3, if_pos hx]
    clear e1 e2 e3 h4 h5
    rcases hcases with ⟨rfl, hi'⟩ | ⟨rfl, hi'⟩ | ⟨rfl, hi'⟩
    all_goals
      have hii : i = 0 ∨ i = 1 ∨ i = 2 ∨ i = 3 ∨ i = 4 ∨ i = 5 ∨ i = 6 ∨ i = 7 ∨ i = 8 ∨ i = 9 := by omega
      generalize hxx : (w % 128).toNat = x at *
      rcases hii with rfl | rfl | rfl | rfl | rfl | rfl | rfl | rfl | rfl | rfl
    all_goals first | (exfalso; omega; done) | skip
    all_goals simp only [Nat.reduceMul, Nat.reduceSub, Nat.reduceAdd, Nat.reducePow, Nat.reduceDiv, Nat.reduceLT, Nat.reduceLeDiff, Int.reducePow, Int.reduceNeg, Nat.mul_zero, Nat.mul_one, Int.mul_one, Nat.zero_add, Nat.add_zero, Nat.pow_zero, Int.pow_zero, Nat.sub_zero, and_true, true_and, and_false, false_and, if_false, if_true, reduceIte] at *
    all_goals repeat' split
    all_goals first
      | rfl
      | (exfalso; omega; done)
      | (simp only [Prod.mk.injEq, and_true]; omega; done)
      | (trace_state; sorry)
  | n + 1, w, i, acc, hw, ha, hi => by
    have hd : (w % 128).toNat < 128 := by omega
    obtain ⟨h1, h2, h3, _⟩ := hi8 _ hd
    show readG size true (((w % 128).toNat ||| 128) :: (digS n (w / 128) ++ more)) (7 * i) i acc = _
    rw [readG_s h3 hi, h1]
    by_cases hl : size - 7 * i ≤ 7
    · rw [if_pos ⟨hl, .inl h2⟩, if_neg (by rintro ⟨h, _⟩; omega)]
    · rw [if_neg (fun h => hl h.1), if_neg (by omega)]
      have hw' : -(64 * 128 ^ n) ≤ w / 128 ∧ w / 128 < 64 * 128 ^ n := by
        have h2 : (128 : Int) ^ (n + 1) = 128 ^ n * 128 := Int.pow_succ _ _
        rw [h2] at hw; omega
      have hlt : acc + (w % 128).toNat * 2 ^ (7 * i) < 2 ^ (7 * (i + 1)) := by
        rw [pow7]
        have := Nat.mul_le_mul_right (2 ^ (7 * i)) (show (w % 128).toNat ≤ 127 by omega)
        omega
      have h64 : 2 ^ (7 * (i + 1)) ≤ 18446744073709551616 := Nat.pow_le_pow_right (n := 2) (by decide) (by omega : 7 * (i + 1) ≤ 64)
      rw [acc_step ha (by omega), readG_digS hs n (w / 128) (i + 1) _ hw' hlt (by omega)]
      have hV : ((acc + (w % 128).toNat * 2 ^ (7 * i) : Nat) : Int) + w / 128 * 2 ^ (7 * (i + 1)) = (acc : Int) + w * 2 ^ (7 * i) := by
        have hp : (2 : Int) ^ (7 * (i + 1)) = 128 * 2 ^ (7 * i) := by
          have := pow7 i
          have h := congrArg (fun n : Nat => (n : Int)) this
          simpa using h
        rw [hp]
        have hc : (((w % 128).toNat : Nat) : Int) = w % 128 := Int.toNat_of_nonneg (by omega)
        simp only [Int.natCast_add, Int.natCast_mul, hc, Int.natCast_pow]
        have hq : ((2 : Nat) : Int) ^ (7 * i) = (2 : Int) ^ (7 * i) := rfl
        rw [hq]
        generalize (2 : Int) ^ (7 * i) = Q
        have : w = w % 128 + 128 * (w / 128) := by omega
        have h2 : w * Q = (w % 128) * Q + w / 128 * (128 * Q) := by
          conv => lhs; rw [this]
          rw [Int.add_mul, Int.mul_comm 128, Int.mul_assoc]
        rw [h2, Int.add_assoc]
      rw [hV, show i + 1 + n = i + (n + 1) by omega]
end Eng
namespace Eng
open Go
theorem byte_hi (v : Nat) : v % 256 ||| 128 = v % 128 ||| 128 := by
  have h : ∀ x < 256, x ||| 128 = x % 128 ||| 128 := by decide +kernel
  rw [h (v % 256) (Nat.mod_lt _ (by decide))]
  congr 1
  omega
theorem lebU_dig : ∀ (v : Nat), ∃ n, lebU v = digU n v ∧ v < 128 ^ (n + 1) ∧ (lebU v).length = n + 1 ∧ ∀ m, v < 128 ^ (m + 1) → n ≤ m := fun v => by
  induction v using Nat.strongRecOn with
  | ind v ih =>
    by_cases h : v < 128
    · refine ⟨0, ?_, by simpa using h, by rw [lebU_lo h]; rfl, fun m _ => Nat.zero_le m⟩
      rw [lebU_lo h]
      show [v] = [v % 128]
      rw [Nat.mod_eq_of_lt h]
    · obtain ⟨n, h1, h2, h3, h4⟩ := ih (v / 128) (by omega)
      refine ⟨n + 1, ?_, by rw [Nat.pow_succ]; omega, by rw [lebU_hi (by omega), List.length_cons, h3], fun m hm => ?_⟩
      · rw [lebU_hi (by omega), h1, byte_hi]; rfl
      · cases m with
        | zero => exact absurd hm (by simp; omega)
        | succ m => have := h4 m (by rw [Nat.pow_succ] at hm; omega); omega
theorem digU_len : ∀ (n v : Nat), (digU n v).length = n + 1
  | 0, v => rfl
  | n + 1, v => by show (digU n (v / 128)).length + 1 = _; rw [digU_len n]
theorem digS_len : ∀ (n : Nat) (w : Int), (digS n w).length = n + 1
  | 0, w => rfl
  | n + 1, w => by show (digS n (w / 128)).length + 1 = _; rw [digS_len n]
theorem byte_hi' (w : Int) : (w % 256).toNat ||| 128 = (w % 128).toNat ||| 128 := by
  have h : ∀ x < 256, x ||| 128 = x % 128 ||| 128 := by decide +kernel
  rw [h (w % 256).toNat (by omega)]
  congr 1
  omega
theorem byte_lo' (w : Int) : (w % 256).toNat &&& 127 = (w % 128).toNat := by
  have h : ∀ x < 256, x &&& 127 = x % 128 := by decide +kernel
  rw [h (w % 256).toNat (by omega)]
  omega
theorem lebS_dig : ∀ (m : Nat) (w : Int), w.natAbs ≤ m → ∃ n, lebS w = digS n w ∧ (-(64 * 128 ^ n) ≤ w ∧ w < 64 * 128 ^ n) ∧ ∀ m, -(64 * 128 ^ m) ≤ w ∧ w < 64 * 128 ^ m → n ≤ m
  | m, w, hm => by
    by_cases h : sIn w
    · refine ⟨0, ?_, by unfold sIn at h; simpa using h, fun m _ => Nat.zero_le m⟩
      unfold lebS
      rw [sebH_lo h, sebL_lo h, byte_lo']; rfl
    · cases m with
      | zero => exact absurd (show sIn w by unfold sIn; omega) h
      | succ m =>
        obtain ⟨n, h1, h2, h3⟩ := lebS_dig m (w / 128) (by unfold sIn at h; omega)
        have hp : (128 : Int) ^ (n + 1) = 128 ^ n * 128 := Int.pow_succ _ _
        refine ⟨n + 1, ?_, by rw [hp]; omega, fun k hk => ?_⟩
        · unfold lebS at h1 ⊢
          rw [sebH_hi h, sebL_hi h, byte_hi', List.cons_append, h1]; rfl
        · cases k with
          | zero => exact absurd (show sIn w by unfold sIn; simpa using hk) h
          | succ k =>
            have hp : (128 : Int) ^ (k + 1) = 128 ^ k * 128 := Int.pow_succ _ _
            have := h3 k (by rw [hp] at hk; omega)
            omega
theorem readG_digU0 {size : Nat} (hs : size ≤ 64) (h0 : 0 < size) (n v : Nat) (hv : v < 128 ^ (n + 1)) (more : List Nat) :
    readG size false (digU n v ++ more) 0 0 0 = if 7 * n < size ∧ v < 2 ^ size then (v, n + 1, 0) else (0, 0, 2) := by
  have := readG_digU (size := size) hs (more := more) n v 0 0 hv (by decide) (by omega)
  simpa using this
theorem readG_digS0 {size : Nat} (hs : size = 32 ∨ size = 33 ∨ size = 64) (n : Nat) (w : Int) (hw : -(64 * 128 ^ n) ≤ w ∧ w < 64 * 128 ^ n) (more : List Nat) :
    readG size true (digS n w ++ more) 0 0 0 = if 7 * n < size ∧ -(2 ^ (size - 1)) ≤ w ∧ w < 2 ^ (size - 1) then ((w % 18446744073709551616).toNat, n + 1, 0) else (0, 0, 2) := by
  have := readG_digS (size := size) hs (more := more) n w 0 0 hw (by decide) (by omega)
  simpa using this
theorem readG_lebU {v : Nat} (hv : v < 18446744073709551616) (more : List Nat) : readG 64 false (lebU v ++ more) 0 0 0 = (v, (lebU v).length, 0) := by
  obtain ⟨n, h1, h2, h3, h4⟩ := lebU_dig v
  have hn := h4 9 (by omega)
  rw [h3, h1, readG_digU0 (by decide) (by decide) n v h2, if_pos ⟨by omega, hv⟩]
theorem readG_lebU32 {v : Nat} (hv : v < 18446744073709551616) (more : List Nat) : readG 32 false (lebU v ++ more) 0 0 0 = if v < 4294967296 then (v, (lebU v).length, 0) else (0, 0, 2) := by
  obtain ⟨n, h1, h2, h3, h4⟩ := lebU_dig v
  rw [h3, h1, readG_digU0 (by decide) (by decide) n v h2]
  by_cases h : v < 4294967296
  · have hn := h4 4 (by omega)
    rw [if_pos ⟨by omega, h⟩, if_pos h]
  · rw [if_neg (fun e => h e.2), if_neg h]
theorem readG_lebS {size : Nat} (hs : size = 32 ∨ size = 33 ∨ size = 64) {w : Int} (more : List Nat) :
    readG size true (lebS w ++ more) 0 0 0 = if -(2 ^ (size - 1)) ≤ w ∧ w < 2 ^ (size - 1) then ((w % 18446744073709551616).toNat, (lebS w).length, 0) else (0, 0, 2) := by
  obtain ⟨n, h1, h2, h4⟩ := lebS_dig _ w (Nat.le_refl _)
  rw [h1, digS_len, readG_digS0 hs n w h2]
  by_cases h : -(2 ^ (size - 1)) ≤ w ∧ w < 2 ^ (size - 1)
  · have hn : 7 * n < size := by
      rcases hs with rfl | rfl | rfl
      · have := h4 4 (by simp at h ⊢; omega); omega
      · have := h4 4 (by simp at h ⊢; omega); omega
      · have := h4 9 (by simp at h ⊢; omega); omega
    rw [if_pos ⟨hn, h⟩, if_pos h]
  · rw [if_neg (fun e => h e.2), if_neg h]
theorem readG_cut {size : Nat} {sg : Bool} : ∀ (hs : List Nat) (a n v : Nat), (∀ x ∈ hs, 128 ≤ x ∧ x < 256) → a + 7 * hs.length < size → readG size sg hs a n v = (0, 0, 3)
  | [], a, n, v, _, _ => rfl
  | x :: hs, a, n, v, h, hl => by
    have hx := h x (by simp)
    rw [List.length_cons] at hl
    obtain ⟨h1, _⟩ := bits8 x hx.2
    rw [readG]
    have hc : ¬ (size - a ≤ 7 ∧ lastB x (size - a) sg = false) := fun e => by have := e.1; omega
    · rw [if_neg hc, if_pos (fun e => by have := h1.1 e; omega)]
      exact readG_cut hs _ _ _ (fun y hy => h y (by simp [hy])) (by omega)
end Eng
namespace Eng
open Go
theorem wrap_i64z {x : Int} (h : -9223372036854775808 ≤ x ∧ x < 9223372036854775808) : wrapA .i64 x = x := by
  have e : wrapA .i64 x = wrapS 9223372036854775808 (2 * 9223372036854775808) x := rfl
  rw [e, wrapS_eq _ (by decide)]
  split <;> omega
theorem lebU_at {v i : Nat} (hi : i < (lebU v).length) : (128 ≤ (lebU v).getD i 0 ↔ i < (lebU v).length - 1) := by
  have key : ∀ (n v i : Nat), i < n + 1 → (128 ≤ (digU n v).getD i 0 ↔ i < n) := by
    intro n
    induction n with
    | zero => intro v i hi; obtain rfl : i = 0 := by omega
              show 128 ≤ v % 128 ↔ _
              omega
    | succ n ih =>
      intro v i hi
      cases i with
      | zero =>
        have := (hi8 (v % 128) (Nat.mod_lt _ (by decide))).2.1
        show 128 ≤ (v % 128 ||| 128) ↔ _
        omega
      | succ i =>
        show 128 ≤ (digU n (v / 128)).getD i 0 ↔ _
        rw [ih (v / 128) i (by omega)]; omega
  obtain ⟨n, h1, h2, h3, h4⟩ := lebU_dig v
  rw [h3] at hi ⊢
  rw [h1, key n v i hi]; omega
theorem lebS_lenD (w : Int) : ∃ n, (lebS w).length = n + 1 ∧ (-(64 * 128 ^ n) ≤ w ∧ w < 64 * 128 ^ n) ∧ ∀ m, -(64 * 128 ^ m) ≤ w ∧ w < 64 * 128 ^ m → n ≤ m := by
  obtain ⟨n, h1, h2, h3⟩ := lebS_dig _ w (Nat.le_refl _)
  exact ⟨n, by rw [h1, digS_len], h2, h3⟩
theorem lebH_lenU (v : Nat) : (lebU v).length = (lebH v).length + 1 := by rw [lebU_eq, List.length_append]; rfl
theorem sInt_back {w : Int} (h : -9223372036854775808 ≤ w ∧ w < 9223372036854775808) : sInt .i64 (w % 18446744073709551616).toNat = w := by
  have e : sInt .i64 (w % 18446744073709551616).toNat = wrapS 9223372036854775808 (2 * 9223372036854775808) (.ofNat (w % 18446744073709551616).toNat) := rfl
  rw [e, wrapS_eq _ (by decide)]
  have h2 : Int.ofNat (w % 18446744073709551616).toNat = w % 18446744073709551616 := Int.toNat_of_nonneg (by omega)
  rw [h2]
  split <;> omega
end Eng
namespace Eng
open Go
theorem put_nil {B n : Nat} {t : List Nat} {X : RV} {h : Hp} (e : ∃ rv rh, X = .ok rv rh ∧ Owned 1 B rh rv (([] : List Nat).length + n) (u8s ([] ++ t)) ∧ Old B h rh ∧ B ≤ rh.next) :
    ∃ rv rh, X = .ok rv rh ∧ Owned 1 B rh rv n (u8s t) ∧ Old B h rh ∧ B ≤ rh.next := by simpa using e
end Eng
namespace Eng
open Go
theorem eqI_T {a b : Int} (h : eqI a b = true) : a = b := by rw [eqI_eq] at h; exact eq_of_beq h
theorem eqI_F {a b : Int} (h : eqI a b = false) : a ≠ b := fun e => by subst e; rw [eqI_eq] at h; simp at h
theorem s_conv64 {j : IntKind} {w : Int} (h : -9223372036854775808 ≤ w ∧ w < 9223372036854775808) : evQ (.toInt .i64 (.const (.int j w))) .lf H0 = .ok (.int .i64 w) := by
  show OV.ok (.int .i64 (wrapA .i64 w)) = _
  rw [wrap_i64z h]
def stepL (l : List Nat) (e : Nat) : List Nat := l.set (l.length - 1) (l.getD (l.length - 1) 0 ||| 128) ++ [e]
def longerL (e : Nat) : Nat → List Nat → List Nat
  | 0, l => l
  | k + 1, l => longerL e k (stepL l e)
theorem stepL_len (l : List Nat) (e : Nat) : (stepL l e).length = l.length + 1 := by unfold stepL; simp
theorem stepL_cons {x : Nat} {l : List Nat} (e : Nat) (h : l ≠ []) : stepL (x :: l) e = x :: stepL l e := by
  unfold stepL
  cases l with
  | nil => exact absurd rfl h
  | cons y l => simp
theorem digU_ne (n v : Nat) : digU n v ≠ [] := by cases n <;> simp [digU]
theorem digS_ne (n : Nat) (w : Int) : digS n w ≠ [] := by cases n <;> simp [digS]
theorem stepL_digU : ∀ (n v : Nat), v < 128 ^ (n + 1) → stepL (digU n v) 0 = digU (n + 1) v
  | 0, v, h => by
    have h : v < 128 := by simpa using h
    show [v % 128 ||| 128] ++ [0] = [v % 128 ||| 128, v / 128 % 128]
    rw [show v / 128 % 128 = 0 by omega]; rfl
  | n + 1, v, h => by
    show stepL ((v % 128 ||| 128) :: digU n (v / 128)) 0 = _
    rw [stepL_cons 0 (digU_ne _ _), stepL_digU n (v / 128) (by rw [Nat.pow_succ] at h; omega)]; rfl
theorem stepL_digS {e : Nat} : ∀ (n : Nat) (w : Int), -(64 * 128 ^ n) ≤ w ∧ w < 64 * 128 ^ n → (e : Int) = (if w < 0 then 127 else 0) → stepL (digS n w) e = digS (n + 1) w
  | 0, w, h, he => by
    have h : -64 ≤ w ∧ w < 64 := by simpa using h
    show [(w % 128).toNat ||| 128] ++ [e] = [(w % 128).toNat ||| 128, (w / 128 % 128).toNat]
    have : (w / 128 % 128).toNat = e := by split at he <;> omega
    rw [this]; rfl
  | n + 1, w, h, he => by
    show stepL (((w % 128).toNat ||| 128) :: digS n (w / 128)) e = _
    have h2 : (128 : Int) ^ (n + 1) = 128 ^ n * 128 := Int.pow_succ _ _
    rw [stepL_cons e (digS_ne _ _), stepL_digS n (w / 128) (by rw [h2] at h; omega) (by rw [he]; split <;> split <;> omega)]; rfl
theorem longerL_digU : ∀ (k n v : Nat), v < 128 ^ (n + 1) → longerL 0 k (digU n v) = digU (n + k) v
  | 0, n, v, _ => rfl
  | k + 1, n, v, h => by
    show longerL 0 k (stepL (digU n v) 0) = _
    rw [stepL_digU n v h, longerL_digU k (n + 1) v (by rw [Nat.pow_succ]; omega), show n + 1 + k = n + (k + 1) by omega]
theorem longerL_digS {e : Nat} : ∀ (k n : Nat) (w : Int), -(64 * 128 ^ n) ≤ w ∧ w < 64 * 128 ^ n → (e : Int) = (if w < 0 then 127 else 0) → longerL e k (digS n w) = digS (n + k) w
  | 0, n, w, _, _ => rfl
  | k + 1, n, w, h, he => by
    have h2 : (128 : Int) ^ (n + 1) = 128 ^ n * 128 := Int.pow_succ _ _
    have hq : (0 : Int) < 128 ^ n := Int.pow_pos (by decide)
    show longerL e k (stepL (digS n w) e) = _
    rw [stepL_digS n w h he, longerL_digS k (n + 1) w (by rw [h2]; omega) he, show n + 1 + k = n + (k + 1) by omega]
theorem longerL_len (e : Nat) : ∀ (k : Nat) (l : List Nat), (longerL e k l).length = l.length + k
  | 0, l => rfl
  | k + 1, l => by show (longerL e k (stepL l e)).length = _; rw [longerL_len e k, stepL_len]; omega
theorem stepL_lt {l : List Nat} {e : Nat} (h : ∀ x ∈ l, x < 256) (he : e < 256) : ∀ x ∈ stepL l e, x < 256 := fun x hx => by
  rcases List.mem_append.1 hx with hx | hx
  · rcases List.mem_or_eq_of_mem_set hx with hx | rfl
    · exact h x hx
    · exact Nat.or_lt_two_pow (n := 8) (getD_lt h _) (by decide)
  · rw [List.mem_singleton] at hx; omega
theorem longerL_lt {e : Nat} (he : e < 256) : ∀ (k : Nat) (l : List Nat), (∀ x ∈ l, x < 256) → ∀ x ∈ longerL e k l, x < 256
  | 0, l, h => h
  | k + 1, l, h => longerL_lt he k _ (stepL_lt h he)
def LongerS (call : CallT) (f : Nat) : Prop := ∀ {B : Nat} {h : Hp} {vb : AV} {l : List Nat} {k e : Nat}, B ≤ h.next → Bytes B h vb l → 1 ≤ l.length → l.length ≤ 100 → k ≤ 7 → e < 256 →
  ∃ rv rh, call f [vb, .int .i64 (.ofNat k), .int .u8 (.ofNat e)] h = .ok rv rh ∧ Owned 1 B rh rv (l.length + k) (u8s (longerL e k l)) ∧ Old B h rh ∧ B ≤ rh.next
end Eng
namespace Eng
open Go
theorem nil_lt : ∀ x ∈ ([] : List Nat), x < 256 := by simp
theorem one_lt {y : Nat} (h : y < 256) : ∀ x ∈ [y], x < 256 := fun x hx => by rw [List.mem_singleton] at hx; omega
theorem set_lt {l : List Nat} {k y : Nat} (h : ∀ x ∈ l, x < 256) (hy : y < 256) : ∀ x ∈ l.set k y, x < 256 := fun x hx => by
  rcases List.mem_or_eq_of_mem_set hx with hx | rfl
  · exact h x hx
  · exact hy
theorem app_text {sz B n : Nat} {h : Hp} {v : AV} {l m : List Nat} (o : Owned sz B h v n (u8s l ++ u8s m)) : Owned sz B h v n (u8s (l ++ m)) := by rw [← u8s_append]; exact o
end Eng
namespace Eng
open Go
theorem sInt_back32 {w : Int} (h : -2147483648 ≤ w ∧ w < 2147483648) : sInt .i32 (w % 18446744073709551616).toNat = w := by
  have e : sInt .i32 (w % 18446744073709551616).toNat = wrapS 2147483648 (2 * 2147483648) (.ofNat (w % 18446744073709551616).toNat) := rfl
  rw [e, wrapS_eq _ (by decide)]
  have h2 : Int.ofNat (w % 18446744073709551616).toNat = w % 18446744073709551616 := Int.toNat_of_nonneg (by omega)
  rw [h2]
  split <;> omega
end Eng
namespace Eng
open Go
def placeN (c : Int) (n : Nat) : Nat := (c % (n : Int)).toNat
theorem placeN_lt {c : Int} {n : Nat} (h : 1 ≤ n) : placeN c n < n := by
  have h1 := Int.emod_lt_of_pos c (show (0 : Int) < n by omega)
  have h2 := Int.emod_nonneg c (show (n : Int) ≠ 0 by omega)
  unfold placeN; omega
def PlaceS (call : CallT) (f : Nat) : Prop := ∀ (c : Int) (n : Nat) (h : Hp), -9223372036854775808 ≤ c ∧ c < 9223372036854775808 → 1 ≤ n → n < 4611686018427387904 → call f [.int .i64 c, .int .i64 (.ofNat n)] h = .ok (.int .i64 (.ofNat (placeN c n))) h
theorem q_remz {a : Int} {b : Nat} (h : b ≠ 0) : evQ (.bin .rem (.const (.int .i64 a)) (.const (.int .i64 (.ofNat b)))) .lf H0 = .ok (.int .i64 (Int.tmod a b)) := by
  show bc (ikEq .i64 .i64) (bc (eqI (.ofNat b) 0) OV.no (.ok (.int .i64 (modA a (.ofNat b))))) .no = _
  have h5 : eqI (.ofNat b) 0 = false := by rw [eqI_eq]; simp; omega
  rw [ikEq_self, h5]
  show OV.ok (.int .i64 (modA a (.ofNat b))) = _
  rw [modA_eq]; rfl
theorem place_pos {c : Int} {n : Nat} (hn : 1 ≤ n) (h : 0 ≤ Int.tmod c n) : Int.tmod c n = (.ofNat (placeN c n) : Int) := by
  have h2 := Int.emod_nonneg c (show (n : Int) ≠ 0 by omega)
  have e : Int.tmod c n = c % (n : Int) := by
    rw [Int.tmod_eq_emod] at h ⊢
    split
    · simp
    · rename_i hc
      rw [if_neg hc] at h
      have h1 := Int.emod_lt_of_pos c (show (0 : Int) < n by omega)
      have : (((n : Int).natAbs : Nat) : Int) = n := by omega
      omega
  rw [e]
  unfold placeN
  rw [Int.ofNat_eq_natCast, Int.toNat_of_nonneg h2]
theorem place_neg {c : Int} {n : Nat} (hn : 1 ≤ n) (hn2 : n < 4611686018427387904) (h : Int.tmod c n < 0) : wrapA .i64 (Int.add (Int.tmod c n) (.ofNat n)) = (.ofNat (placeN c n) : Int) := by
  have h2 := Int.emod_nonneg c (show (n : Int) ≠ 0 by omega)
  have h1 := Int.emod_lt_of_pos c (show (0 : Int) < n by omega)
  have e : Int.tmod c n = c % (n : Int) - n := by
    rw [Int.tmod_eq_emod] at h ⊢
    split
    · rename_i hc; rw [if_pos hc] at h; omega
    · omega
  have e2 : Int.add (Int.tmod c n) (.ofNat n) = c % (n : Int) := by
    show Int.tmod c n + (n : Int) = _
    rw [e]; omega
  rw [e2, wrap_i64z (by omega)]
  unfold placeN
  rw [Int.ofNat_eq_natCast, Int.toNat_of_nonneg h2]
theorem digU_hi : ∀ (n v k : Nat), k ≤ n → ∀ x ∈ (digU n v).take k, 128 ≤ x ∧ x < 256
  | 0, v, k, h => by obtain rfl : k = 0 := by omega
                     simp
  | n + 1, v, k, h => by
    cases k with
    | zero => simp
    | succ k =>
      intro x hx
      rcases List.mem_cons.1 (show x ∈ (v % 128 ||| 128) :: (digU n (v / 128)).take k from hx) with rfl | hx
      · have := hi8 (v % 128) (Nat.mod_lt _ (by decide)); exact ⟨this.2.1, this.2.2.1⟩
      · exact digU_hi n _ k (by omega) x hx
theorem digS_hi : ∀ (n : Nat) (w : Int) (k : Nat), k ≤ n → ∀ x ∈ (digS n w).take k, 128 ≤ x ∧ x < 256
  | 0, w, k, h => by obtain rfl : k = 0 := by omega
                     simp
  | n + 1, w, k, h => by
    cases k with
    | zero => simp
    | succ k =>
      intro x hx
      rcases List.mem_cons.1 (show x ∈ ((w % 128).toNat ||| 128) :: (digS n (w / 128)).take k from hx) with rfl | hx
      · have := hi8 (w % 128).toNat (by omega); exact ⟨this.2.1, this.2.2.1⟩
      · exact digS_hi n _ k (by omega) x hx
theorem lebU_cut {v k : Nat} {sg : Bool} (hv : v < 18446744073709551616) (hk : k < (lebU v).length) : readG 64 sg ((lebU v).take k) 0 0 0 = (0, 0, 3) := by
  obtain ⟨n, h1, h2, h3, h4⟩ := lebU_dig v
  have := h4 9 (by omega)
  have hl : ((digU n v).take k).length = k := by rw [List.length_take, digU_len]; omega
  rw [h1]
  exact readG_cut _ 0 0 0 (digU_hi n v k (by omega)) (by rw [hl]; omega)
theorem lebS_cut {w : Int} {k : Nat} {sg : Bool} (hw : -9223372036854775808 ≤ w ∧ w < 9223372036854775808) (hk : k < (lebS w).length) : readG 64 sg ((lebS w).take k) 0 0 0 = (0, 0, 3) := by
  obtain ⟨n, h1, h2, h4⟩ := lebS_dig _ w (Nat.le_refl _)
  have := h4 9 (by constructor <;> omega)
  have hn : (lebS w).length = n + 1 := by rw [h1, digS_len]
  have hl : ((digS n w).take k).length = k := by rw [List.length_take, digS_len]; omega
  rw [h1]
  exact readG_cut _ 0 0 0 (digS_hi n w k (by omega)) (by rw [hl]; omega)
end Eng
