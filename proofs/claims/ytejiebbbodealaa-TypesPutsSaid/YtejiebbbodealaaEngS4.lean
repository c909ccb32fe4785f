/- The engine's soundness, part 4: quiet operations. -/
import Derived.Test.YtejiebbbodealaaEngS3
import Derived.Laws.Strings
set_option linter.unusedVariables false
set_option linter.unusedSimpArgs false
namespace Eng
open Go Go.RowKit
def Opnds (μ : Mp) (t : T) (ρ : Operand → Value) (l : List Operand) : Prop := ∀ x ∈ l, ∀ a, compX x = some a → VR μ (evX a t) (ρ x)
theorem comp1_inv {x : Operand} {f : AX → AOp} {r : AOp} (h : comp1 x f = r) (hr : r ≠ no) : ∃ a, compX x = some a ∧ f a = r := by
  unfold comp1 at h
  split at h
  · exact ⟨_, by assumption, h⟩
  · exact absurd h.symm hr
theorem comp2_inv {x y : Operand} {f : AX → AX → AOp} {r : AOp} (h : comp2 x y f = r) (hr : r ≠ no) : ∃ a b, compX x = some a ∧ compX y = some b ∧ f a b = r := by
  obtain ⟨a, ha, h⟩ := comp1_inv h hr
  obtain ⟨b, hb, h⟩ := comp1_inv h hr
  exact ⟨a, b, ha, hb, h⟩
theorem comp3_inv {x y z : Operand} {f : AX → AX → AX → AOp} {r : AOp} (h : comp3 x y z f = r) (hr : r ≠ no) :
    ∃ a b c, compX x = some a ∧ compX y = some b ∧ compX z = some c ∧ f a b c = r := by
  obtain ⟨a, b, ha, hb, h⟩ := comp2_inv h hr
  obtain ⟨c, hc, h⟩ := comp1_inv h hr
  exact ⟨a, b, c, ha, hb, hc, h⟩
theorem compXs_inv : ∀ {xs : List Operand} {l : List AX}, compXs xs = some l → ∀ {μ : Mp} {t : T} {ρ : Operand → Value}, Opnds μ t ρ xs → VRs μ (evXs l t) (xs.map ρ)
  | [], l, e, μ, t, ρ, h => by cases e; rw [show evXs [] t = [] from rfl, VRs_nil]; rfl
  | x :: xs, l, e, μ, t, ρ, h => by
    unfold compXs at e
    cases h1 : compX x with
    | none => rw [h1] at e; cases e
    | some a =>
      cases h2 : compXs xs with
      | none => rw [h1, h2] at e; cases e
      | some as =>
        rw [h1, h2] at e
        cases e
        rw [show evXs (a :: as) t = evX a t :: evXs as t from rfl, List.map_cons, VRs_cons]
        exact ⟨_, _, rfl, h x (by simp) a h1, compXs_inv h2 fun y hy => h y (by simp [hy])⟩
section
variable {P : Program} {μ : Mp} {h : Hp} {w : World} {t : T} {ρ : Operand → Value} {ty : TypeId}
def Gives (P : Program) (μ : Mp) (w : World) (s : Sem Value) (v : AV) : Prop := ∃ x, s.run P w = .ok x w ∧ VR μ v x
theorem gives_pure {v : AV} {x : Value} (r : VR μ v x) : Gives P μ w (pure x) v := ⟨x, rfl, r⟩
theorem run_load_cell {a : Addr} {x : Value} (hx : w.cell? a = some x) : (load a).run P w = .ok x w := by simp [hx]
theorem loadS_ok (hs : Sim μ h w) {ty : TypeId} {a : AV} {x : Value} {v : AV} (hr : VR μ a x) (ha : aggT P ty = some false)
    (e : a.asPtr .no (fun b o => rd h b o) = .ok v) : Gives P μ w (Instr.loadAt ty x) v := by
  obtain ⟨b, o, rfl, e⟩ := asPtr_inv e nofun
  rw [VR_ptr] at hr
  obtain ⟨c, s, hb, rfl⟩ := hr
  obtain ⟨y, hy, r, _⟩ := rd_ok hs hb e
  exact ⟨y, by simp [Instr.loadAt, Instr.sureAddr, loadVar, run_isAgg ha, hy], r⟩
theorem run_loadCells_of {c o n : Nat} {xs : List Value} (hl : xs.length = n) (hx : ∀ j x, xs[j]? = some x → w.cell? ⟨c, o + j, none⟩ = some x) :
    (loadCells ⟨c, o, none⟩ n).run P w = .ok xs.toArray w := by
  subst hl
  exact run_loadCells_list w _ xs fun j v hv => by rw [addr_add]; exact hx j v hv
theorem loadA_ok (hs : Sim μ h w) {ty : TypeId} {n : Nat} {a : AV} {x : Value} {v : AV} (hr : VR μ a x) (ha : aggT P ty = some true) (hn : szOf P ty = some n)
    (e : (a.asPtr .no fun b o => rdN h b o n .no fun l => OV.ok (.agg l)) = .ok v) : Gives P μ w (Instr.loadAt ty x) v := by
  obtain ⟨b, o, rfl, e1⟩ := asPtr_inv e nofun
  rw [VR_ptr] at hr
  obtain ⟨c, s, hb, rfl⟩ := hr
  obtain ⟨l, xs, e2, r, hlen, _, hx⟩ := rdN_ok hs hb e1 nofun
  cases e2
  exact ⟨.agg xs.toArray, by simp [Instr.loadAt, Instr.sureAddr, loadVar, run_isAgg ha, run_sizeOf hn, run_loadCells_of hlen hx], by simp; exact r⟩
theorem modK_eq (k : IntKind) : modK k = 2 ^ k.bits := by cases k <;> rfl
theorem bitsK_eq (k : IntKind) : bitsK k = k.bits := by cases k <;> rfl
theorem neg_mod (m a : Nat) (hm : 0 < m) : Int.negSucc a % (m : Int) = ((m - 1 - a % m : Nat) : Int) := by
  have h1 : a % m < m := Nat.mod_lt _ hm
  have h2 := Nat.div_add_mod a m
  have h5 : (m : Int) * (-((a / m : Nat) : Int) - 1) = -((m : Int) * ((a / m : Nat) : Int)) - m := by rw [Int.mul_sub, Int.mul_neg, Int.mul_one]
  have h6 : ((m * (a / m) : Nat) : Int) = (m : Int) * ((a / m : Nat) : Int) := Int.natCast_mul _ _
  have : Int.negSucc a = (m - 1 - a % m : Nat) + (m : Int) * (-((a / m : Nat) : Int) - 1) := by
    rw [h5, Int.negSucc_eq, ← h6]
    generalize m * (a / m) = q at h2
    omega
  rw [this, Int.add_mul_emod_self_left]
  exact Int.emod_eq_of_lt (by omega) (by omega)
theorem wrapU_eq (m : Nat) (hm : 0 < m) (n : Int) : wrapU m n = n % (m : Int) := by
  cases n with
  | ofNat a =>
    show bc (Nat.blt a m) (Int.ofNat a) (Int.ofNat (a % m)) = _
    rw [bc_blt]
    split
    · rw [Int.ofNat_eq_natCast]; exact (Int.emod_eq_of_lt (by omega) (by omega)).symm
    · rfl
  | negSucc a =>
    show Int.ofNat (m - 1 - a % m) = _
    rw [neg_mod m a hm]; rfl
theorem wrapS_eq (g : Nat) (hg : 0 < g) (n : Int) : wrapS g (2 * g) n = if n % ((2 * g : Nat) : Int) ≥ (g : Int) then n % ((2 * g : Nat) : Int) - ((2 * g : Nat) : Int) else n % ((2 * g : Nat) : Int) := by
  cases n with
  | ofNat a =>
    show bc (Nat.blt a g) (Int.ofNat a) (bc (Nat.blt (a % (2 * g)) g) (Int.ofNat (a % (2 * g))) (Int.negSucc (2 * g - 1 - a % (2 * g)))) = _
    have hlt : a % (2 * g) < 2 * g := Nat.mod_lt _ (by omega)
    have he : Int.ofNat a % ((2 * g : Nat) : Int) = ((a % (2 * g) : Nat) : Int) := rfl
    rw [bc_blt, bc_blt, he]
    by_cases h1 : a < g
    · rw [if_pos h1, Nat.mod_eq_of_lt (by omega), if_neg (by omega)]; rfl
    · rw [if_neg h1]
      by_cases h2 : a % (2 * g) < g
      · rw [if_pos h2, if_neg (by omega)]; rfl
      · rw [if_neg h2, if_pos (by omega), Int.negSucc_eq]; omega
  | negSucc a =>
    show bc (Nat.blt a g) (Int.negSucc a) (bc (Nat.blt (a % (2 * g)) g) (Int.negSucc (a % (2 * g))) (Int.ofNat (2 * g - 1 - a % (2 * g)))) = _
    have hlt : a % (2 * g) < 2 * g := Nat.mod_lt _ (by omega)
    rw [bc_blt, bc_blt, neg_mod _ _ (by omega)]
    by_cases h1 : a < g
    · rw [if_pos h1, Nat.mod_eq_of_lt (by omega), if_pos (by omega), Int.negSucc_eq]; omega
    · rw [if_neg h1]
      by_cases h2 : a % (2 * g) < g
      · rw [if_pos h2, if_pos (by omega), Int.negSucc_eq]; omega
      · rw [if_neg h2, if_neg (by omega)]; rfl
theorem wrapA_eq (k : IntKind) (n : Int) : wrapA k n = k.wrap n := by
  cases k
  all_goals first
    | (show wrapU _ n = _; rw [wrapU_eq _ (by decide)]; simp [IntKind.wrap, IntKind.signed, IntKind.bits]; done)
    | (show wrapS 128 (2 * 128) n = _; rw [wrapS_eq _ (by decide)]; simp [IntKind.wrap, IntKind.signed, IntKind.bits]; done)
    | (show wrapS 32768 (2 * 32768) n = _; rw [wrapS_eq _ (by decide)]; simp [IntKind.wrap, IntKind.signed, IntKind.bits]; done)
    | (show wrapS 2147483648 (2 * 2147483648) n = _; rw [wrapS_eq _ (by decide)]; simp [IntKind.wrap, IntKind.signed, IntKind.bits]; done)
    | (show wrapS 9223372036854775808 (2 * 9223372036854775808) n = _; rw [wrapS_eq _ (by decide)]; simp [IntKind.wrap, IntKind.signed, IntKind.bits]; done)
theorem toU_eq (k : IntKind) (x : Int) : toU k x = (x % (2 ^ k.bits : Int)).toNat := by
  have hp : (0 : Nat) < 2 ^ k.bits := Nat.two_pow_pos _
  have hc : ((2 ^ k.bits : Nat) : Int) = (2 ^ k.bits : Int) := by simp
  unfold toU
  rw [← hc]
  cases x with
  | ofNat a =>
    show a % modK k = _
    rw [modK_eq]; rfl
  | negSucc a =>
    show modK k - 1 - a % modK k = _
    rw [modK_eq, neg_mod _ _ hp]; rfl
theorem toU_bv (k : IntKind) (x : Int) : toU k x = (BitVec.ofInt k.bits x).toNat := by
  rw [toU_eq, BitVec.toNat_ofInt]
  simp
theorem eqI_eq (x y : Int) : eqI x y = (x == y) := by
  cases x <;> cases y
  · rename_i a b
    show Nat.beq a b = _
    rw [beq_dec, Bool.eq_iff_iff]; simp; omega
  · rfl
  · rfl
  · rename_i a b
    show Nat.beq a b = _
    rw [beq_dec, Bool.eq_iff_iff]; simp
theorem ltI_eq (x y : Int) : ltI x y = decide (x < y) := by
  cases x <;> cases y
  · rename_i a b
    show Nat.blt a b = _
    rw [blt_dec, Bool.eq_iff_iff]; simp
  · rename_i a b
    show false = _
    rw [Int.ofNat_eq_natCast, Int.negSucc_eq]; symm; simp; omega
  · rename_i a b
    show true = _
    rw [Int.ofNat_eq_natCast, Int.negSucc_eq]; symm; simp; omega
  · rename_i a b
    show Nat.blt b a = _
    rw [blt_dec, Int.negSucc_eq, Int.negSucc_eq, Bool.eq_iff_iff]; simp
theorem notB_eq (b : Bool) : notB b = !b := by cases b <;> rfl
theorem leI_eq (x y : Int) : leI x y = decide (x ≤ y) := by
  rw [show leI x y = notB (ltI y x) from rfl, notB_eq, ltI_eq, Bool.eq_iff_iff]; simp
theorem cut_eq (n m : Nat) : cut n m = min n m := by
  unfold cut; rw [bc_ble]; split <;> omega
theorem divA_eq (x y : Int) : divA x y = x.tdiv y := by cases x <;> cases y <;> rfl
theorem modA_eq (x y : Int) : modA x y = x.tmod y := by cases x <;> cases y <;> rfl
theorem shrN_eq (x : Int) (d : Nat) (hd : 0 < d) : shrN x d = x.fdiv (d : Int) := by
  obtain ⟨d, rfl⟩ : ∃ e, d = e + 1 := ⟨d - 1, by omega⟩
  cases x with
  | ofNat a =>
    cases a with
    | zero => show Int.ofNat (0 / (d + 1)) = _; simp
    | succ a => rfl
  | negSucc a => rfl
theorem shrA_eq (k : IntKind) (x : Int) (n : Nat) : shrA k x n = x.fdiv (2 ^ min n k.bits) := by
  unfold shrA
  rw [cut_eq, bitsK_eq]
  have hp : (0 : Nat) < 2 ^ min n k.bits := Nat.two_pow_pos _
  show shrN x (2 ^ min n k.bits) = _
  rw [shrN_eq _ _ hp]; simp
theorem shlA_eq (k : IntKind) (x : Int) (n : Nat) : shlA k x n = k.wrap (x * 2 ^ min n k.bits) := by
  unfold shlA
  rw [cut_eq, bitsK_eq, wrapA_eq]
  show k.wrap (x * ((2 ^ min n k.bits : Nat) : Int)) = _
  simp
theorem okI_ok {k : IntKind} {n m : Int} {v : AV} (e : okI k n = .ok v) (hm : m = n) : VR μ v (.int k (k.wrap m)) := by
  cases e; subst hm; rw [wrapA_eq]; simp
theorem okB_ok {a b : Bool} {v : AV} (e : okB b = .ok v) (hb : a = b) : VR μ v (.bool a) := by
  cases e; subst hb; simp
theorem map_toNat_inj : ∀ {a b : List UInt8}, a.map (·.toNat) = b.map (·.toNat) → a = b
  | [], [], _ => rfl
  | [], _ :: _, h => by cases h
  | _ :: _, [], h => by cases h
  | x :: a, y :: b, h => by
    rw [List.map_cons, List.map_cons, List.cons.injEq] at h
    rw [UInt8.toNat_inj.1 h.1, map_toNat_inj h.2]
theorem byteList_inj {a b : ByteArray} (h : byteList a = byteList b) : a = b := by
  have := Array.toList_inj.1 (map_toNat_inj h)
  rcases a with ⟨a⟩
  rcases b with ⟨b⟩
  exact congrArg ByteArray.mk this
theorem byteList_length (a : ByteArray) : (byteList a).length = a.size := by unfold byteList; rw [List.length_map]; rfl
theorem toList_data (a : ByteArray) : a.toList = a.data.toList := ByteArray.toList_eq a
theorem byteList_toList (a : ByteArray) : byteList a = a.toList.map (·.toNat) := by rw [toList_data]; rfl
theorem strLt_eq : ∀ (x y : List UInt8), strLt (x.map (·.toNat)) (y.map (·.toNat)) = Op.bytesLess x y
  | [], [] => rfl
  | [], _ :: _ => rfl
  | _ :: _, [] => rfl
  | a :: x, b :: y => by
    show bc (Nat.blt a.toNat b.toNat) true (bc (Nat.beq a.toNat b.toNat) (strLt (x.map (·.toNat)) (y.map (·.toNat))) false) = _
    rw [strLt_eq x y, bc_blt, bc_beq]
    show _ = (decide (a < b) || (a == b && Op.bytesLess x y))
    by_cases h1 : a.toNat < b.toNat
    · have : a < b := by rwa [UInt8.lt_iff_toNat_lt]
      simp [h1, this]
    · have h1' : ¬ a < b := by rwa [UInt8.lt_iff_toNat_lt]
      by_cases h2 : a = b
      · subst h2; simp [h1, h1']
      · have : ¬ a.toNat = b.toNat := fun e => h2 (UInt8.toNat_inj.1 e)
        simp [h1, h1', h2, this]
theorem binInt_ok {op : BinOp} {k k' : IntKind} {a b : Int} {v : AV} (e : binIK op k k' a b = .ok v) (hop : op ≠ .eql) (hop' : op ≠ .neq) :
    Gives P μ w (binOp op ty (.int k a) (.int k' b)) v := by
  cases op
  case eql => exact absurd rfl hop
  case neq => exact absurd rfl hop'
  case shl =>
    obtain ⟨n, rfl, e1⟩ := natOf_inv e nofun
    cases e1
    refine ⟨.int k (k.wrap (a * 2 ^ min n k.bits)), ?_, by rw [shlA_eq]; simp⟩
    have : ¬ ((n : Int) < 0) := by omega
    simp [binOp, Op.shift, this]
  case shr =>
    obtain ⟨n, rfl, e1⟩ := natOf_inv e nofun
    cases e1
    refine ⟨.int k (a.fdiv (2 ^ min n k.bits)), ?_, by rw [shrA_eq]; simp⟩
    have : ¬ ((n : Int) < 0) := by omega
    simp [binOp, Op.shift, this]
  all_goals
    obtain ⟨rfl, e1⟩ := ikEq_inv e nofun
  case add => exact ⟨_, by simp only [binOp, Op.intArith, ne_eq, not_true_eq_false, if_false]; rfl, okI_ok e1 rfl⟩
  case sub => exact ⟨_, by simp only [binOp, Op.intArith, ne_eq, not_true_eq_false, if_false]; rfl, okI_ok e1 rfl⟩
  case mul => exact ⟨_, by simp only [binOp, Op.intArith, ne_eq, not_true_eq_false, if_false]; rfl, okI_ok e1 rfl⟩
  case quo =>
    rw [bc_eq, eqI_eq] at e1
    split at e1
    · cases e1
    · rename_i hb
      have hb : ¬ b = 0 := by simpa using hb
      exact ⟨_, by simp [binOp, Op.intDiv, hb], okI_ok e1 (divA_eq a b).symm⟩
  case rem =>
    rw [bc_eq, eqI_eq] at e1
    split at e1
    · cases e1
    · rename_i hb
      have hb : ¬ b = 0 := by simpa using hb
      cases e1
      exact ⟨_, by simp [binOp, Op.intDiv, hb]; rfl, by rw [modA_eq]; simp⟩
  case lss => exact ⟨_, by simp [binOp, Op.intCmp], okB_ok e1 (ltI_eq a b).symm⟩
  case leq => exact ⟨_, by simp [binOp, Op.intCmp], okB_ok e1 (leI_eq a b).symm⟩
  case gtr => exact ⟨_, by simp [binOp, Op.intCmp], okB_ok e1 (ltI_eq b a).symm⟩
  case geq => exact ⟨_, by simp [binOp, Op.intCmp], okB_ok e1 (leI_eq b a).symm⟩
  case and =>
    refine ⟨_, by simp only [binOp, Op.intBits, ne_eq, not_true_eq_false, if_false]; rfl, okI_ok e1 ?_⟩
    show _ = ((toU k a &&& toU k b : Nat) : Int)
    rw [toU_bv, toU_bv, BitVec.toNat_and]
  case or =>
    refine ⟨_, by simp only [binOp, Op.intBits, ne_eq, not_true_eq_false, if_false]; rfl, okI_ok e1 ?_⟩
    show _ = ((toU k a ||| toU k b : Nat) : Int)
    rw [toU_bv, toU_bv, BitVec.toNat_or]
  case xor =>
    refine ⟨_, by simp only [binOp, Op.intBits, ne_eq, not_true_eq_false, if_false]; rfl, okI_ok e1 ?_⟩
    show _ = ((toU k a ^^^ toU k b : Nat) : Int)
    rw [toU_bv, toU_bv, BitVec.toNat_xor]
  case andNot =>
    refine ⟨_, by simp only [binOp, Op.intBits, ne_eq, not_true_eq_false, if_false]; rfl, okI_ok e1 ?_⟩
    show _ = ((toU k a &&& (toU k b ^^^ (modK k - 1)) : Nat) : Int)
    rw [toU_bv, toU_bv, modK_eq, BitVec.toNat_and]
    congr 2
    rw [← BitVec.xor_allOnes, BitVec.toNat_xor, BitVec.toNat_allOnes]
theorem binStr_ok {op : BinOp} {a b : ByteArray} {v : AV} (e : binStr op (byteList a) (byteList b) = .ok v) (hop : op ≠ .eql) (hop' : op ≠ .neq) :
    Gives P μ w (binOp op ty (.string a) (.string b)) v := by
  have hlt : strLt (byteList a) (byteList b) = Op.bytesLess a.toList b.toList := by rw [byteList_toList, byteList_toList, strLt_eq]
  have heq : strEq (byteList a) (byteList b) = (a.toList == b.toList) := by
    rw [strEq_iff, Bool.eq_iff_iff]
    simp only [decide_eq_true_eq, beq_iff_eq]
    exact ⟨fun h => by rw [byteList_inj h], fun h => by rw [byteList_toList, byteList_toList, h]⟩
  cases op
  case eql => exact absurd rfl hop
  case neq => exact absurd rfl hop'
  case add =>
    obtain ⟨hle, e1⟩ := ble_inv e nofun
    cases e1
    have hle : len (byteList a) + len (byteList b) ≤ 1099511627776 := hle
    rw [len_eq, len_eq, byteList_length, byteList_length] at hle
    refine ⟨.string (a ++ b), ?_, ?_⟩
    · have : ¬ (IntKind.i64.max < ((a.size + b.size : Nat) : Int)) := by simp [IntKind.max, IntKind.signed, IntKind.bits]; omega
      simp [binOp, Op.stringOp] at this ⊢
      omega
    · rw [VR_str]; exact ⟨_, rfl, by rw [app_eq]; simp [byteList]⟩
  case lss => exact ⟨_, by simp [binOp, Op.stringOp], okB_ok e hlt.symm⟩
  case leq =>
    refine ⟨_, by simp [binOp, Op.stringOp]; rfl, okB_ok e ?_⟩
    rw [hlt, heq, bc_eq]
    split <;> simp_all
  case gtr =>
    refine ⟨_, by simp [binOp, Op.stringOp]; rfl, okB_ok e ?_⟩
    rw [notB_eq, hlt, heq, bc_eq]
    split <;> simp_all
  case geq => exact ⟨.bool (!Op.bytesLess a.toList b.toList), by simp [binOp, Op.stringOp], okB_ok e (by rw [notB_eq, hlt])⟩
  all_goals cases e
end
end Eng
