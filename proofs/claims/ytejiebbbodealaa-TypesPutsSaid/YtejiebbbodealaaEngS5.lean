/- The engine's soundness, part 5: quiet operations, more. -/
import Derived.Test.YtejiebbbodealaaEngS4
import Derived.Laws.StructEq
set_option linter.unusedVariables false
set_option linter.unusedSimpArgs false
namespace Eng
open Go Go.RowKit
section
variable {P : Program} {μ : Mp} {h : Hp} {w : World} {t : T} {ρ : Operand → Value} {ty : TypeId}
theorem eqKOf_ptr {d : TypeDesc} (hk : eqKOf P d = some .ptr) : ∃ e n, d = .pointer e ∧ szOf P e = some (n + 1) := by
  cases d <;> first | (cases hk; done) | skip
  rename_i e
  unfold eqKOf at hk
  cases hs : szOf P e with
  | none => simp [hs] at hk
  | some n =>
    cases n with
    | zero => simp [hs] at hk
    | succ n => exact ⟨e, n, rfl, hs⟩
theorem eqKOf_ne {d : TypeDesc} {q : EqK} (hk : eqKOf P d = some q) (hq : q ≠ .ptr) : (q = .bool ∧ d = .bool) ∨ (q = .int ∧ ∃ k, d = .int k) ∨ (q = .str ∧ d = .string) ∨
    (q = .slice ∧ ∃ e, d = .slice e) ∨ (q = .map ∧ ∃ a b, d = .map a b) ∨ (q = .func ∧ ∃ a b c, d = .func a b c) ∨ (q = .iface ∧ ∃ m, d = .interface m) := by
  cases d
  case pointer e =>
    unfold eqKOf at hk
    cases hs : szOf P e with
    | none => simp [hs] at hk
    | some n =>
      cases n with
      | zero => simp [hs] at hk
      | succ n => simp [hs] at hk; exact absurd hk.symm hq
  all_goals first
    | (cases hk; done)
    | (cases hk; first
        | exact .inl ⟨rfl, rfl⟩
        | exact .inr (.inl ⟨rfl, _, rfl⟩)
        | exact .inr (.inr (.inl ⟨rfl, rfl⟩))
        | exact .inr (.inr (.inr (.inl ⟨rfl, _, rfl⟩)))
        | exact .inr (.inr (.inr (.inr (.inl ⟨rfl, _, _, rfl⟩))))
        | exact .inr (.inr (.inr (.inr (.inr (.inl ⟨rfl, _, _, _, rfl⟩)))))
        | exact .inr (.inr (.inr (.inr (.inr (.inr ⟨rfl, _, rfl⟩))))))
section
variable {β : Type} {a b : AV} {z r : β} {k : Bool → β}
theorem eqPtr_inv (e : eqPtr a b z k = r) (hz : z ≠ r) : (a = .nilPtr ∧ b = .nilPtr ∧ k true = r) ∨ (a = .nilPtr ∧ (∃ c o, b = .ptr c o) ∧ k false = r) ∨
    ((∃ c o, a = .ptr c o) ∧ b = .nilPtr ∧ k false = r) ∨ ∃ c o o', a = .ptr c o ∧ b = .ptr c o' ∧ k (Nat.beq o o') = r := by
  cases a <;> first | (exact absurd e hz) | skip
  · cases b <;> first | (exact absurd e hz) | exact .inl ⟨rfl, rfl, e⟩ | exact .inr (.inl ⟨rfl, ⟨_, _, rfl⟩, e⟩)
  · rename_i c o
    cases b <;> first | (exact absurd e hz) | exact .inr (.inr (.inl ⟨⟨_, _, rfl⟩, rfl, e⟩)) | skip
    rename_i c' o'
    obtain ⟨rfl, e1⟩ := beq_inv (show bc (Nat.beq c c') (k (Nat.beq o o')) z = r from e) hz
    exact .inr (.inr (.inr ⟨_, _, _, rfl, rfl, e1⟩))
theorem eqSl_inv (e : eqSl a b z k = r) (hz : z ≠ r) : (a = .nilSlice ∧ b = .nilSlice ∧ k true = r) ∨ (a = .nilSlice ∧ (∃ c o l p s x, b = .slice c o l p s x) ∧ k false = r) ∨
    ((∃ c o l p s x, a = .slice c o l p s x) ∧ b = .nilSlice ∧ k false = r) := by
  cases a <;> first | (exact absurd e hz) | skip
  · cases b <;> first | (exact absurd e hz) | exact .inl ⟨rfl, rfl, e⟩ | exact .inr (.inl ⟨rfl, ⟨_, _, _, _, _, _, rfl⟩, e⟩)
  · cases b <;> first | (exact absurd e hz) | exact .inr (.inr ⟨⟨_, _, _, _, _, _, rfl⟩, rfl, e⟩)
theorem eqMp_inv (e : eqMp a b z k = r) (hz : z ≠ r) : (a = .nilMap ∧ b = .nilMap ∧ k true = r) ∨ (a = .nilMap ∧ (∃ c, b = .map c) ∧ k false = r) ∨
    ((∃ c, a = .map c) ∧ b = .nilMap ∧ k false = r) := by
  cases a <;> first | (exact absurd e hz) | skip
  · cases b <;> first | (exact absurd e hz) | exact .inl ⟨rfl, rfl, e⟩ | exact .inr (.inl ⟨rfl, ⟨_, rfl⟩, e⟩)
  · cases b <;> first | (exact absurd e hz) | exact .inr (.inr ⟨⟨_, rfl⟩, rfl, e⟩)
theorem eqIf_inv (e : eqIf a b z k = r) (hz : z ≠ r) : (a = .nilIface ∧ (∃ t v, b = .iface t v) ∧ k false = r) ∨ ((∃ t v, a = .iface t v) ∧ b = .nilIface ∧ k false = r) := by
  cases a <;> first | (exact absurd e hz) | skip
  · cases b <;> first | (exact absurd e hz) | exact .inr ⟨⟨_, _, rfl⟩, rfl, e⟩
  · cases b <;> first | (exact absurd e hz) | exact .inl ⟨rfl, ⟨_, _, rfl⟩, e⟩
theorem eqFn_inv (e : eqFn a b z k = r) (hz : z ≠ r) : (a = .nilFunc ∧ b = .nilFunc ∧ k true = r) ∨ (a = .nilFunc ∧ (∃ f c d, b = .func f c d) ∧ k false = r) ∨
    ((∃ f c d, a = .func f c d) ∧ b = .nilFunc ∧ k false = r) := by
  cases a with
  | func f c d =>
    cases b with
    | nilFunc => refine .inr (.inr ⟨⟨_, _, _, rfl⟩, rfl, ?_⟩); cases f <;> exact e
    | func g => cases f <;> cases g <;> exact absurd e hz
    | _ => cases f <;> exact absurd e hz
  | nilFunc =>
    cases b with
    | nilFunc => exact .inl ⟨rfl, rfl, e⟩
    | func g c d => refine .inr (.inl ⟨rfl, ⟨_, _, _, rfl⟩, ?_⟩); cases g <;> exact e
    | _ => exact absurd e hz
  | _ => exact absurd e hz
end
theorem equalIn_ok {β : Type} {d : Nat} {desc : TypeDesc} {q : EqK} {a b : AV} {x y : Value} {z r : β} {k : Bool → β} (hu : P.underlying ty = some desc) (hk : eqKOf P desc = some q)
    (rx : VR μ a x) (ry : VR μ b y) (e : eqAV q a b z k = r) (hz : z ≠ r) : ∃ c, k c = r ∧ (Op.equalIn (d + 1) ty x y).run P w = .ok c w := by
  by_cases hq : q = .ptr
  · subst hq
    obtain ⟨el, n, rfl, hn⟩ := eqKOf_ptr hk
    rcases eqPtr_inv e hz with ⟨rfl, rfl, e'⟩ | ⟨rfl, ⟨c, o, rfl⟩, e'⟩ | ⟨⟨c, o, rfl⟩, rfl, e'⟩ | ⟨c, o, o', rfl, rfl, e'⟩
    · rw [VR_nilPtr] at rx ry; subst rx; subst ry
      exact ⟨_, e', by simp [Op.equalIn, run_underlying hu]⟩
    · rw [VR_nilPtr] at rx; rw [VR_ptr] at ry; subst rx; obtain ⟨_, _, _, rfl⟩ := ry
      exact ⟨_, e', by simp [Op.equalIn, run_underlying hu]⟩
    · rw [VR_nilPtr] at ry; rw [VR_ptr] at rx; subst ry; obtain ⟨_, _, _, rfl⟩ := rx
      exact ⟨_, e', by simp [Op.equalIn, run_underlying hu]⟩
    · rw [VR_ptr] at rx ry
      obtain ⟨c1, s1, h1, rfl⟩ := rx
      obtain ⟨c2, s2, h2, rfl⟩ := ry
      rw [h1] at h2; cases h2
      refine ⟨_, e', ?_⟩
      simp only [Op.equalIn, Sem.run_bind, run_underlying hu, Result.andThen_ok, run_sizeOf hn, Sem.run_ite]
      rw [if_pos (by simp)]
      simp only [sameAddr, beq_self_eq_true, if_true, Sem.run_ite, Sem.run_pure]
      rw [beq_dec]
      congr 1
      rw [Bool.eq_iff_iff]; simp
  · rcases eqKOf_ne hk hq with ⟨rfl, rfl⟩ | ⟨rfl, i, rfl⟩ | ⟨rfl, rfl⟩ | ⟨rfl, el, rfl⟩ | ⟨rfl, mk, me, rfl⟩ | ⟨rfl, fa, fb, fc, rfl⟩ | ⟨rfl, ms, rfl⟩
    · obtain ⟨c, rfl, e1⟩ := asBool_inv (show (a.asBool z fun a => b.asBool z fun b => k (bc a b (notB b))) = r from e) hz
      obtain ⟨c', rfl, e2⟩ := asBool_inv e1 hz
      rw [VR_bool] at rx ry; subst rx; subst ry
      refine ⟨_, e2, ?_⟩
      rw [run_equalIn_bool' w d ty c c' hu, notB_eq]
      cases c <;> cases c' <;> rfl
    · obtain ⟨k1, n1, rfl, e1⟩ := asInt_inv (show (a.asInt z fun i a => b.asInt z fun j b => bc (ikEq i j) (k (eqI a b)) z) = r from e) hz
      obtain ⟨k2, n2, rfl, e2⟩ := asInt_inv e1 hz
      obtain ⟨rfl, e3⟩ := ikEq_inv e2 hz
      rw [VR_int] at rx ry; subst rx; subst ry
      refine ⟨_, e3, ?_⟩
      rw [run_equalIn_int w d ty k1 i n1 n2 hu, eqI_eq]
    · obtain ⟨s1, rfl, e1⟩ := asStr_inv (show (a.asStr z fun a => b.asStr z fun b => k (strEq a b)) = r from e) hz
      obtain ⟨s2, rfl, e2⟩ := asStr_inv e1 hz
      rw [VR_str] at rx ry
      obtain ⟨x', rfl, rfl⟩ := rx
      obtain ⟨y', rfl, rfl⟩ := ry
      refine ⟨_, e2, ?_⟩
      rw [run_equalIn_string w d ty x' y' hu, strEq_iff]
      congr 1
      rw [Bool.eq_iff_iff]
      simp only [decide_eq_true_eq, beq_iff_eq]
      exact ⟨fun h => by rw [byteList_toList, byteList_toList, h], fun h => by rw [byteList_inj h]⟩
    · rcases eqSl_inv (show eqSl a b z k = r from e) hz with ⟨rfl, rfl, e'⟩ | ⟨rfl, ⟨_, _, _, _, _, _, rfl⟩, e'⟩ | ⟨⟨_, _, _, _, _, _, rfl⟩, rfl, e'⟩
      all_goals simp only [VR_nilSlice, VR_slice] at rx ry
      · subst rx; subst ry; exact ⟨_, e', by simp [Op.equalIn, run_underlying hu]⟩
      · subst rx; obtain ⟨_, _, _, _, _, rfl, _⟩ := ry; exact ⟨_, e', by simp [Op.equalIn, run_underlying hu]⟩
      · subst ry; obtain ⟨_, _, _, _, _, rfl, _⟩ := rx; exact ⟨_, e', by simp [Op.equalIn, run_underlying hu]⟩
    · rcases eqMp_inv (show eqMp a b z k = r from e) hz with ⟨rfl, rfl, e'⟩ | ⟨rfl, ⟨_, rfl⟩, e'⟩ | ⟨⟨_, rfl⟩, rfl, e'⟩
      all_goals simp only [VR_nilMap, VR_map] at rx ry
      · subst rx; subst ry; exact ⟨_, e', by simp [Op.equalIn, run_underlying hu]⟩
      · subst rx; obtain ⟨_, _, _, rfl⟩ := ry; exact ⟨_, e', by simp [Op.equalIn, run_underlying hu]⟩
      · subst ry; obtain ⟨_, _, _, rfl⟩ := rx; exact ⟨_, e', by simp [Op.equalIn, run_underlying hu]⟩
    · rcases eqFn_inv (show eqFn a b z k = r from e) hz with ⟨rfl, rfl, e'⟩ | ⟨rfl, ⟨_, _, _, rfl⟩, e'⟩ | ⟨⟨_, _, _, rfl⟩, rfl, e'⟩
      all_goals simp only [VR_nilFunc, VR_func] at rx ry
      · subst rx; subst ry; exact ⟨_, e', by simp [Op.equalIn, run_underlying hu]⟩
      · subst rx; obtain ⟨_, _, rfl, _⟩ := ry; exact ⟨_, e', by simp [Op.equalIn, run_underlying hu]⟩
      · subst ry; obtain ⟨_, _, rfl, _⟩ := rx; exact ⟨_, e', by simp [Op.equalIn, run_underlying hu]⟩
    · rcases eqIf_inv (show eqIf a b z k = r from e) hz with ⟨rfl, ⟨_, _, rfl⟩, e'⟩ | ⟨⟨_, _, rfl⟩, rfl, e'⟩
      all_goals simp only [VR_nilIface, VR_iface] at rx ry
      · subst rx; obtain ⟨_, rfl, _⟩ := ry; exact ⟨_, e', by simp [Op.equalIn, run_underlying hu]⟩
      · subst ry; obtain ⟨_, rfl, _⟩ := rx; exact ⟨_, e', by simp [Op.equalIn, run_underlying hu]⟩
end
end Eng
