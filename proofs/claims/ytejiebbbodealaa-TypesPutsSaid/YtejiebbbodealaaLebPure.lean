/- Numbers of seven bits, as functions on lists. -/
import Derived.Test.YtejiebbbodealaaEngS32
set_option linter.unusedVariables false
namespace Eng
open Go
def lastB (x left : Nat) (sg : Bool) : Bool :=
  if x &&& 128 ≠ 0 then false else if sg = false then decide (x / 2 ^ left = 0) else if x / 2 ^ (left - 1) = 0 then true else decide (x / 2 ^ (left - 1) = 127 / 2 ^ (left - 1))
def readG (size : Nat) (sg : Bool) : List Nat → Nat → Nat → Nat → Nat × Nat × Nat
  | [], _, _, _ => (0, 0, 3)
  | x :: l, a, n, v =>
    if size - a ≤ 7 ∧ lastB x (size - a) sg = false then (0, 0, 2)
    else if x &&& 128 ≠ 0 then readG size sg l (a + 7) (n + 1) (v ||| ((x &&& 127) * 2 ^ a % 18446744073709551616))
    else if sg = true ∧ x &&& 64 ≠ 0 ∧ a + 7 < 64 then (v ||| ((x &&& 127) * 2 ^ a % 18446744073709551616) ||| (18446744073709551615 * 2 ^ (a + 7) % 18446744073709551616), n + 1, 0)
    else (v ||| ((x &&& 127) * 2 ^ a % 18446744073709551616), n + 1, 0)
theorem lastB_small {x left : Nat} {sg : Bool} (h : lastB x left sg = true) : x &&& 128 = 0 := by
  unfold lastB at h
  by_cases hx : x &&& 128 = 0
  · exact hx
  · rw [if_pos hx] at h; cases h
theorem drop_cons {l : List Nat} {k : Nat} (h : k < l.length) : l.drop k = l.getD k 0 :: l.drop (k + 1) := by
  rw [List.drop_eq_getElem_cons h, List.getD_eq_getElem?_getD, List.getElem?_eq_getElem h]; rfl
theorem getD_lt {l : List Nat} (hb : ∀ x ∈ l, x < 256) (k : Nat) : l.getD k 0 < 256 := by
  by_cases h : k < l.length
  · rw [List.getD_eq_getElem?_getD, List.getElem?_eq_getElem h]; exact hb _ (List.getElem_mem _)
  · rw [List.getD_eq_getElem?_getD, List.getElem?_eq_none (by omega)]; decide
theorem or64 {a b : Nat} (ha : a < 18446744073709551616) (hb : b < 18446744073709551616) : a ||| b < 18446744073709551616 := Nat.or_lt_two_pow (n := 64) ha hb
end Eng
namespace Eng
theorem eqI_nat (a b : Nat) : eqI (Int.ofNat a) (Int.ofNat b) = decide (a = b) := by
  rw [eqI_eq, Bool.eq_iff_iff]
  simp only [beq_iff_eq, decide_eq_true_eq]
  exact ⟨fun h => Int.ofNat.inj h, fun h => by rw [h]⟩
end Eng
namespace Eng
open Go
def lebU (v : Nat) : List Nat := if h : v < 128 then [v] else (v % 256 ||| 128) :: lebU (v / 128)
termination_by v
decreasing_by omega
theorem lebU_lo {v : Nat} (h : v < 128) : lebU v = [v] := by rw [lebU, dif_pos h]
theorem lebU_hi {v : Nat} (h : 128 ≤ v) : lebU v = (v % 256 ||| 128) :: lebU (v / 128) := by rw [lebU, dif_neg (by omega)]
theorem lebU_lt : ∀ (n v : Nat), v < 128 ^ n → ∀ x ∈ lebU v, x < 256
  | 0, v, h => by
    have : v = 0 := by simpa using h
    subst this
    rw [lebU_lo (by decide)]; simp
  | n + 1, v, h => by
    by_cases hv : v < 128
    · rw [lebU_lo hv]
      intro x hx
      rw [List.mem_singleton] at hx; omega
    · rw [lebU_hi (by omega)]
      intro x hx
      rcases List.mem_cons.1 hx with rfl | hx
      · exact Nat.or_lt_two_pow (n := 8) (Nat.mod_lt _ (by decide)) (by decide)
      · exact lebU_lt n (v / 128) (by rw [Nat.pow_succ] at h; omega) x hx
theorem lebU_len : ∀ (n v : Nat), v < 128 ^ (n + 1) → (lebU v).length ≤ n + 1
  | 0, v, h => by rw [lebU_lo (by omega)]; simp
  | n + 1, v, h => by
    by_cases hv : v < 128
    · rw [lebU_lo hv]; simp
    · rw [lebU_hi (by omega), List.length_cons]
      have := lebU_len n (v / 128) (by rw [Nat.pow_succ] at h; omega)
      omega
theorem u8s_append (l m : List Nat) : u8s l ++ u8s m = u8s (l ++ m) := by rw [u8s_eq, u8s_eq, u8s_eq, List.map_append]
theorem u8s_one (x : Nat) : [AV.int .u8 (.ofNat x)] = u8s [x] := rfl
end Eng
namespace Eng
open Go
def lebH (v : Nat) : List Nat := if h : v < 128 then [] else (v % 256 ||| 128) :: lebH (v / 128)
termination_by v
decreasing_by omega
def lebL (v : Nat) : Nat := if h : v < 128 then v else lebL (v / 128)
termination_by v
decreasing_by omega
theorem lebH_lo {v : Nat} (h : v < 128) : lebH v = [] := by rw [lebH, dif_pos h]
theorem lebH_hi {v : Nat} (h : 128 ≤ v) : lebH v = (v % 256 ||| 128) :: lebH (v / 128) := by rw [lebH, dif_neg (by omega)]
theorem lebL_lo {v : Nat} (h : v < 128) : lebL v = v := by rw [lebL, dif_pos h]
theorem lebL_hi {v : Nat} (h : 128 ≤ v) : lebL v = lebL (v / 128) := by rw [lebL, dif_neg (by omega)]
theorem lebU_eq (v : Nat) : lebU v = lebH v ++ [lebL v] := by
  induction v using Nat.strongRecOn with
  | ind v ih =>
    by_cases h : v < 128
    · rw [lebU_lo h, lebH_lo h, lebL_lo h]; rfl
    · rw [lebU_hi (by omega), lebH_hi (by omega), lebL_hi (by omega), ih (v / 128) (by omega)]; rfl
theorem lebL_lt (v : Nat) : lebL v < 128 := by
  induction v using Nat.strongRecOn with
  | ind v ih =>
    by_cases h : v < 128
    · rw [lebL_lo h]; exact h
    · rw [lebL_hi (by omega)]; exact ih _ (by omega)
theorem lebH_len : ∀ (n v : Nat), v < 128 ^ (n + 1) → (lebH v).length ≤ n := fun n v h => by
  have := lebU_len n v h
  rw [lebU_eq, List.length_append] at this
  simp at this; omega
def sIn (w : Int) : Prop := -64 ≤ w ∧ w < 64
instance (w : Int) : Decidable (sIn w) := inferInstanceAs (Decidable (_ ∧ _))
def sebH (w : Int) : List Nat := if h : sIn w then [] else ((w % 256).toNat ||| 128) :: sebH (w / 128)
termination_by w.natAbs
decreasing_by unfold sIn at h; omega
def sebL (w : Int) : Int := if h : sIn w then w else sebL (w / 128)
termination_by w.natAbs
decreasing_by unfold sIn at h; omega
def lebS (w : Int) : List Nat := sebH w ++ [(sebL w % 256).toNat &&& 127]
theorem sebH_lo {w : Int} (h : sIn w) : sebH w = [] := by rw [sebH, dif_pos h]
theorem sebH_hi {w : Int} (h : ¬ sIn w) : sebH w = ((w % 256).toNat ||| 128) :: sebH (w / 128) := by rw [sebH, dif_neg h]
theorem sebL_lo {w : Int} (h : sIn w) : sebL w = w := by rw [sebL, dif_pos h]
theorem sebL_hi {w : Int} (h : ¬ sIn w) : sebL w = sebL (w / 128) := by rw [sebL, dif_neg h]
theorem sebH_len : ∀ (n : Nat) (w : Int), -(64 * 128 ^ n) ≤ w ∧ w < 64 * 128 ^ n → (sebH w).length ≤ n
  | 0, w, h => by rw [sebH_lo (by unfold sIn; omega)]; simp
  | n + 1, w, h => by
    by_cases hs : sIn w
    · rw [sebH_lo hs]; simp
    · rw [sebH_hi hs, List.length_cons]
      have h2 : (128 : Int) ^ (n + 1) = 128 ^ n * 128 := Int.pow_succ _ _
      have := sebH_len n (w / 128) (by rw [h2] at h; omega)
      omega
theorem sebH_lt : ∀ (n : Nat) (w : Int), -(64 * 128 ^ n) ≤ w ∧ w < 64 * 128 ^ n → ∀ x ∈ sebH w, x < 256
  | 0, w, h => by rw [sebH_lo (by unfold sIn; omega)]; simp
  | n + 1, w, h => by
    by_cases hs : sIn w
    · rw [sebH_lo hs]; simp
    · rw [sebH_hi hs]
      intro x hx
      rcases List.mem_cons.1 hx with rfl | hx
      · exact Nat.or_lt_two_pow (n := 8) (by omega) (by decide)
      · have h2 : (128 : Int) ^ (n + 1) = 128 ^ n * 128 := Int.pow_succ _ _
        exact sebH_lt n (w / 128) (by rw [h2] at h; omega) x hx
theorem i_shr {w : Int} {n : Nat} {j : IntKind} (hn : n ≤ 64) : evQ (.bin .shr (.const (.int .i64 w)) (.const (.int j (.ofNat n)))) .lf H0 = .ok (.int .i64 (w / 2 ^ n)) := by
  show OV.ok (.int .i64 (shrA .i64 w n)) = _
  rw [shrA_eq, show min n IntKind.i64.bits = n from Nat.min_eq_left hn, Int.fdiv_eq_ediv_of_nonneg _ (Int.le_of_lt (Int.pow_pos (by decide)))]
theorem s_conv {k : IntKind} (hk : uns k = true) {j : IntKind} {w : Int} : evQ (.toInt k (.const (.int j w))) .lf H0 = .ok (.int k (.ofNat (w % (modK k : Int)).toNat)) := by
  show OV.ok (.int k (wrapA k w)) = _
  have hp : (0 : Int) < (modK k : Int) := Int.ofNat_lt.2 (modK_pos k)
  have : wrapA k w = w % (modK k : Int) := by
    cases k <;> first | exact wrapU_eq _ (by decide) _ | cases hk
  rw [this]
  have h0 : 0 ≤ w % (modK k : Int) := Int.emod_nonneg _ (by omega)
  rw [Int.ofNat_eq_natCast, Int.toNat_of_nonneg h0]
theorem ltI_T {a b : Int} (h : ltI a b = true) : a < b := by rw [ltI_eq] at h; simpa using h
theorem ltI_F {a b : Int} (h : ltI a b = false) : b ≤ a := by rw [ltI_eq] at h; simpa using h
end Eng
namespace Eng
open Go
def LastS (call : CallT) (f : Nat) : Prop := ∀ (x left : Nat) (s : Bool) (h : Hp), x < 256 → 1 ≤ left → left ≤ 64 → call f [.int .u8 (.ofNat x), .int .i64 (.ofNat left), .bool s] h = .ok (.bool (lastB x left s)) h
def numT (k : IntKind) (r : Nat × Nat × Nat) : AV := .tuple [.int k (.ofNat r.1), .int .i64 (.ofNat r.2.1), .int .i64 (.ofNat r.2.2)]
def ReadS (call : CallT) (f : Nat) (g : Nat → Bool → List Nat → Nat × Nat × Nat) : Prop := ∀ (B : Nat) (h : Hp) (vb : AV) (l : List Nat) (size : Nat) (sg : Bool), Bytes B h vb l → l.length < 90000 → size = 32 ∨ size = 33 ∨ size = 64 →
  call f [vb, .int .i64 (.ofNat size), .bool sg] h = .ok (numT .u64 (g size sg l)) h
def CloneS (call : CallT) (f : Nat) : Prop := ∀ {B : Nat} {h : Hp} {vb : AV} {l : List Nat}, B ≤ h.next → l.length ≤ 1099511627776 → Bytes B h vb l → ∃ v h', call f [vb] h = .ok v h' ∧ Owned 1 B h' v l.length (u8s l) ∧ Old B h h' ∧ B ≤ h'.next
def JoinS (call : CallT) (f : Nat) : Prop := ∀ {B : Nat} {h : Hp} {vb vl : AV} {l m : List Nat}, B ≤ h.next → Bytes B h vb l → Bytes B h vl m → l.length ≤ 1099511627776 → m.length ≤ 1099511627776 →
  ∃ v h', call f [vb, vl] h = .ok v h' ∧ Owned 1 B h' v (l.length + m.length) (u8s (l ++ m)) ∧ Old B h h' ∧ B ≤ h'.next
def PutUS (call : CallT) (f : Nat) : Prop := ∀ {B : Nat} {h : Hp} {vb : AV} {l : List Nat} {v : Nat}, B ≤ h.next → Bytes B h vb l → l.length ≤ 1099511627776 → v < 18446744073709551616 →
  ∃ rv rh, call f [vb, .int .u64 (.ofNat v)] h = .ok rv rh ∧ Owned 1 B rh rv (l.length + (lebU v).length) (u8s (l ++ lebU v)) ∧ Old B h rh ∧ B ≤ rh.next
def PutSS (call : CallT) (f : Nat) : Prop := ∀ {B : Nat} {h : Hp} {vb : AV} {l : List Nat} {v : Int}, B ≤ h.next → Bytes B h vb l → l.length ≤ 1099511627776 → (-9223372036854775808 ≤ v ∧ v < 9223372036854775808) →
  ∃ rv rh, call f [vb, .int .i64 v] h = .ok rv rh ∧ Owned 1 B rh rv (l.length + (lebS v).length) (u8s (l ++ lebS v)) ∧ Old B h rh ∧ B ≤ rh.next
def TrueS (call : CallT) (f : Nat) : Prop := ∀ h : Hp, call f [] h = .ok (.bool true) h
theorem again_of {o : QOp} {h : Hp} {v : AV} (e : evQ o .lf h = .ok v) (r : avEq v v = true) : again o .lf v h = true := by
  show (evQ o .lf h).cs false (fun v' => avEq v v') = true
  rw [e]; exact r
theorem avEq_int (k : IntKind) (n : Int) : avEq (.int k n) (.int k n) = true := by
  show bc (ikEq k k) (eqI n n) false = true
  rw [ikEq_self, eqI_eq]; simp [bc]
theorem strEq_self (s : List Nat) : strEq s s = true := by rw [strEq_iff]; simp
theorem avEq_str (s : List Nat) : avEq (.str s) (.str s) = true := strEq_self s
theorem avEq_bool (b : Bool) : avEq (.bool b) (.bool b) = true := by cases b <;> rfl
theorem beq_self (n : Nat) : Nat.beq n n = true := Nat.beq_refl n
theorem avEq_slice (b o l c s : Nat) (e : Bool) : avEq (.slice b o l c s e) (.slice b o l c s e) = true := by
  show bc (Nat.beq b b) (bc (Nat.beq o o) (bc (Nat.beq l l) (bc (Nat.beq c c) (bc (Nat.beq s s) (bc e e (notB e)) false) false) false) false) false = true
  simp only [beq_self, bc_eq, if_true]
  cases e <;> rfl
theorem avEq_ptr (b o : Nat) : avEq (.ptr b o) (.ptr b o) = true := by
  show bc (Nat.beq b b) (Nat.beq o o) false = true
  simp only [beq_self, bc_eq, if_true]
theorem Owned.same {sz B n : Nat} {h : Hp} {v : AV} {L : List AV} (o : Owned sz B h v n L) : avEq v v = true := by
  cases o with
  | nil => rfl
  | sl => exact avEq_slice ..
theorem Bytes.same {B : Nat} {h : Hp} {v : AV} {l : List Nat} (o : Bytes B h v l) : avEq v v = true := by
  cases o with
  | nil => rfl
  | sl => exact avEq_slice ..
theorem eqStr_same (s : List Nat) : evQ (.eq .str false (.const (.str s)) (.const (.str s))) .lf H0 = .ok (.bool true) := by
  show OV.ok (.bool (strEq s s)) = _
  rw [strEq_self]
theorem evF_at {M : Nat → Option (List AV → Hp → RV)} {S : Nat → Option AF} {N d f : Nat} (hM : M f = none) (args : List AV) (h : Hp) : evF M S N (d + 1) f args h = evF1 S N (evF M S N d) f args h := by
  show ocase (evF1 S N (evF M S N d) f args h) (fun m => m args h) (M f) = _
  rw [hM]; rfl
theorem evF_sum {S : Nat → Option AF} {N d : Nat} {l : List Nat} {f : Nat} (hf : f ∈ l) : TrueS (evF (sumT l) S N (d + 1)) f := fun h => by
  show ocase (evF1 S N (evF (sumT l) S N d) f [] h) (fun m => m [] h) (bc (lall (fun g => notB (Nat.beq g f)) l) none (some fun args h => lcase (RV.ok (.bool true) h) (fun _ _ => RV.no) args)) = _
  have hb : lall (fun g => notB (Nat.beq g f)) l = false := by
    cases hh : lall (fun g => notB (Nat.beq g f)) l with
    | false => rfl
    | true =>
      have := lall_iff.1 hh f hf
      rw [Nat.beq_refl] at this; cases this
  rw [hb]; rfl
theorem sumT_none {l : List Nat} {f : Nat} (hf : lall (fun g => notB (Nat.beq g f)) l = true) : sumT l f = none := by unfold sumT; rw [hf]; rfl
end Eng
namespace Eng
theorem strEq_t {a b : List Nat} (h : strEq a b = true) : a = b := by rw [strEq_iff] at h; simpa using h
theorem strEq_f {a b : List Nat} (h : strEq a b = false) : a ≠ b := by rw [strEq_iff] at h; simpa using h
end Eng
namespace Eng
open Go
set_option maxRecDepth 100000 in
theorem bits8 : ∀ x < 256, (x &&& 128 = 0 ↔ x < 128) ∧ (x < 128 → x &&& 127 = x) := by decide +kernel
theorem lastB_u {x left : Nat} (hx : x < 256) : lastB x left false = decide (x < 128 ∧ (x &&& 127) / 2 ^ left = 0) := by
  obtain ⟨h1, h2⟩ := bits8 x hx
  unfold lastB
  by_cases h : x < 128
  · rw [if_neg (by rw [h1.2 h]; simp), if_pos rfl, h2 h, Bool.eq_iff_iff]
    simp only [decide_eq_true_eq]
    exact ⟨fun e => ⟨h, e⟩, fun e => e.2⟩
  · rw [if_pos (fun e => h (h1.1 e)), decide_eq_false (fun e => h e.1)]
theorem lastB_s {x left : Nat} (hx : x < 256) : lastB x left true = decide (x < 128 ∧ ((x &&& 127) / 2 ^ (left - 1) = 0 ∨ (x &&& 127) / 2 ^ (left - 1) = 127 / 2 ^ (left - 1))) := by
  obtain ⟨h1, h2⟩ := bits8 x hx
  unfold lastB
  by_cases h : x < 128
  · rw [if_neg (by rw [h1.2 h]; simp), if_neg (by decide), h2 h, Bool.eq_iff_iff]
    simp only [decide_eq_true_eq]
    split
    · rename_i e; exact ⟨fun _ => ⟨h, .inl e⟩, fun _ => rfl⟩
    · rename_i e; simp only [decide_eq_true_eq]; exact ⟨fun e' => ⟨h, .inr e'⟩, fun e' => e'.2.resolve_left e⟩
  · rw [if_pos (fun e => h (h1.1 e)), decide_eq_false (fun e => h e.1)]
theorem readG_u {size i v x : Nat} {l : List Nat} (hx : x < 256) (h7 : 7 * i < size) : readG size false (x :: l) (7 * i) i v =
    if size - 7 * i ≤ 7 ∧ (128 ≤ x ∨ (x &&& 127) / 2 ^ (size - 7 * i) ≠ 0) then (0, 0, 2)
    else if x < 128 then (v ||| ((x &&& 127) * 2 ^ (7 * i) % 18446744073709551616), i + 1, 0)
    else readG size false l (7 * (i + 1)) (i + 1) (v ||| ((x &&& 127) * 2 ^ (7 * i) % 18446744073709551616)) := by
  obtain ⟨h1, h2⟩ := bits8 x hx
  rw [readG, lastB_u hx]
  by_cases hc : size - 7 * i ≤ 7 ∧ (128 ≤ x ∨ (x &&& 127) / 2 ^ (size - 7 * i) ≠ 0)
  · rw [if_pos hc, if_pos ⟨hc.1, decide_eq_false (fun e => by rcases hc.2 with h | h; omega; exact h e.2)⟩]
  · rw [if_neg hc, if_neg (fun e => hc ⟨e.1, Classical.byContradiction fun hn => absurd e.2 (by rw [decide_eq_true (by constructor; omega; exact Classical.byContradiction fun h => hn (.inr h))]; decide)⟩)]
    by_cases h : x < 128
    · rw [if_neg (by rw [h1.2 h]; simp), if_neg (by rintro ⟨e, _⟩; cases e), if_pos h]
    · rw [if_pos (fun e => h (h1.1 e)), if_neg h, Nat.mul_add]
theorem readG_s {size i v x : Nat} {l : List Nat} (hx : x < 256) (h7 : 7 * i < size) : readG size true (x :: l) (7 * i) i v =
    if size - 7 * i ≤ 7 ∧ (128 ≤ x ∨ ((x &&& 127) / 2 ^ (size - 7 * i - 1) ≠ 0 ∧ (x &&& 127) / 2 ^ (size - 7 * i - 1) ≠ 127 / 2 ^ (size - 7 * i - 1))) then (0, 0, 2)
    else if x < 128 then (if x &&& 64 ≠ 0 ∧ 7 * i + 7 < 64 then (v ||| ((x &&& 127) * 2 ^ (7 * i) % 18446744073709551616) ||| (18446744073709551615 * 2 ^ (7 * i + 7) % 18446744073709551616), i + 1, 0) else (v ||| ((x &&& 127) * 2 ^ (7 * i) % 18446744073709551616), i + 1, 0))
    else readG size true l (7 * (i + 1)) (i + 1) (v ||| ((x &&& 127) * 2 ^ (7 * i) % 18446744073709551616)) := by
  obtain ⟨h1, h2⟩ := bits8 x hx
  rw [readG, lastB_s hx]
  by_cases hc : size - 7 * i ≤ 7 ∧ (128 ≤ x ∨ ((x &&& 127) / 2 ^ (size - 7 * i - 1) ≠ 0 ∧ (x &&& 127) / 2 ^ (size - 7 * i - 1) ≠ 127 / 2 ^ (size - 7 * i - 1)))
  · rw [if_pos hc, if_pos ⟨hc.1, decide_eq_false (fun e => by rcases hc.2 with h | h; omega; exact (e.2.elim h.1 h.2))⟩]
  · rw [if_neg hc, if_neg (fun e => hc ⟨e.1, by
      have e2 := of_decide_eq_false e.2
      by_cases hlt : x < 128
      · exact .inr ⟨fun h => e2 ⟨hlt, .inl h⟩, fun h => e2 ⟨hlt, .inr h⟩⟩
      · exact .inl (by omega)⟩)]
    by_cases h : x < 128
    · rw [if_neg (by rw [h1.2 h]; simp), if_pos h]
      by_cases hs : x &&& 64 ≠ 0 ∧ 7 * i + 7 < 64
      · rw [if_pos hs, if_pos ⟨rfl, hs.1, hs.2⟩]
      · rw [if_neg hs, if_neg (fun e => hs ⟨e.2.1, e.2.2⟩)]
    · rw [if_pos (fun e => h (h1.1 e)), if_neg h, Nat.mul_add]
theorem readG_lt {size : Nat} {sg : Bool} : ∀ (l : List Nat) (a n v : Nat), v < 18446744073709551616 → (readG size sg l a n v).1 < 18446744073709551616
  | [], a, n, v, _ => by rw [readG]; exact Nat.zero_lt_succ _
  | x :: l, a, n, v, hv => by
    rw [readG]
    have h1 := or64 hv (Nat.mod_lt ((x &&& 127) * 2 ^ a) (by decide : 0 < 18446744073709551616))
    split
    · exact Nat.zero_lt_succ _
    · split
      · exact readG_lt l _ _ _ h1
      · split
        · exact or64 h1 (Nat.mod_lt _ (by decide))
        · exact h1
end Eng
namespace Eng
open Go
noncomputable def sInt (k : IntKind) (n : Nat) : Int := wrapA k (.ofNat n)
def NumS (call : CallT) (f : Nat) (size : Nat) (sg : Bool) (k : IntKind) (v : Nat → Int) : Prop := ∀ {B : Nat} {h : Hp} {vb : AV} {l : List Nat}, Bytes B h vb l → l.length < 90000 →
  call f [vb] h = .ok (.tuple [.int k (v (readG size sg l 0 0 0).1), .int .i64 (.ofNat (readG size sg l 0 0 0).2.1), .int .i64 (.ofNat (readG size sg l 0 0 0).2.2)]) h
theorem lebU_all {v : Nat} (hv : v < 18446744073709551616) : ∀ x ∈ lebU v, x < 256 := lebU_lt 10 v (by omega)
theorem lebS_all {v : Int} (hv : -9223372036854775808 ≤ v ∧ v < 9223372036854775808) : ∀ x ∈ lebS v, x < 256 := fun x hx => by
  rcases List.mem_append.1 hx with hx | hx
  · exact sebH_lt 9 v (by constructor <;> omega) x hx
  · rw [List.mem_singleton] at hx; subst hx; exact Nat.lt_of_le_of_lt Nat.and_le_right (by decide)
theorem put_lt {l m : List Nat} (hl : ∀ x ∈ l, x < 256) (hm : ∀ x ∈ m, x < 256) : ∀ x ∈ l ++ m, x < 256 := fun x hx => by
  rcases List.mem_append.1 hx with h | h
  · exact hl x h
  · exact hm x h
theorem lebU_len' {v : Nat} (hv : v < 18446744073709551616) : (lebU v).length ≤ 10 := lebU_len 9 v (by omega)
theorem lebS_len' {v : Int} (hv : -9223372036854775808 ≤ v ∧ v < 9223372036854775808) : (lebS v).length ≤ 10 := by
  have := sebH_len 9 v (by constructor <;> omega)
  unfold lebS; rw [List.length_append]; simp; omega
end Eng
