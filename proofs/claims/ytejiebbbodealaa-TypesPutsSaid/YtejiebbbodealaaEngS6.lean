/- The engine's soundness, part 6: '==', and other quiet operations. -/
import Derived.Test.YtejiebbbodealaaEngS5
set_option linter.unusedVariables false
set_option linter.unusedSimpArgs false
namespace Eng
open Go Go.RowKit
section
variable {P : Program} {μ : Mp} {h : Hp} {w : World} {t : T} {ρ : Operand → Value} {ty : TypeId}
def Asked (x y : Value) : Prop := (∀ ty, binOp .eql ty x y = (do pure (.bool (← Op.equal ty x y)))) ∧ (∀ ty, binOp .neq ty x y = (do pure (.bool (!(← Op.equal ty x y))))) ∧
  ∀ op ty X Y, eqGuard op ty X Y x y = pure ()
theorem eqGuard_ints (op : BinOp) (ty : TypeId) (X Y : Operand) (k k' : IntKind) (a b : Int) : eqGuard op ty X Y (.int k a) (.int k' b) = pure () := by cases op <;> rfl
theorem eqGuard_strs (op : BinOp) (ty : TypeId) (X Y : Operand) (a b : ByteArray) : eqGuard op ty X Y (.string a) (.string b) = pure () := by cases op <;> rfl
theorem eqAV_asked {β : Type} {q : EqK} {a b : AV} {x y : Value} {z r : β} {k : Bool → β} (hi : q ≠ .int) (hst : q ≠ .str) (rx : VR μ a x) (ry : VR μ b y) (e : eqAV q a b z k = r) (hz : z ≠ r) :
    Asked x y := by
  cases q
  case int => exact absurd rfl hi
  case str => exact absurd rfl hst
  case bool =>
    obtain ⟨c, rfl, e1⟩ := asBool_inv (show (a.asBool z fun a => b.asBool z fun b => k (bc a b (notB b))) = r from e) hz
    obtain ⟨c', rfl, e2⟩ := asBool_inv e1 hz
    rw [VR_bool] at rx ry; subst rx; subst ry
    exact ⟨fun _ => rfl, fun _ => rfl, fun op _ _ _ => by cases op <;> rfl⟩
  case ptr =>
    rcases eqPtr_inv (show eqPtr a b z k = r from e) hz with ⟨rfl, rfl, e'⟩ | ⟨rfl, ⟨c, o, rfl⟩, e'⟩ | ⟨⟨c, o, rfl⟩, rfl, e'⟩ | ⟨c, o, o', rfl, rfl, e'⟩
    all_goals simp only [VR_nilPtr, VR_ptr] at rx ry
    · subst rx; subst ry; exact ⟨fun _ => rfl, fun _ => rfl, fun op _ _ _ => by cases op <;> rfl⟩
    · subst rx; obtain ⟨_, _, _, rfl⟩ := ry; exact ⟨fun _ => rfl, fun _ => rfl, fun op _ _ _ => by cases op <;> rfl⟩
    · subst ry; obtain ⟨_, _, _, rfl⟩ := rx; exact ⟨fun _ => rfl, fun _ => rfl, fun op _ _ _ => by cases op <;> rfl⟩
    · obtain ⟨_, _, _, rfl⟩ := rx; obtain ⟨_, _, _, rfl⟩ := ry; exact ⟨fun _ => rfl, fun _ => rfl, fun op _ _ _ => by cases op <;> rfl⟩
  case slice =>
    rcases eqSl_inv (show eqSl a b z k = r from e) hz with ⟨rfl, rfl, e'⟩ | ⟨rfl, ⟨_, _, _, _, _, _, rfl⟩, e'⟩ | ⟨⟨_, _, _, _, _, _, rfl⟩, rfl, e'⟩
    all_goals simp only [VR_nilSlice, VR_slice] at rx ry
    · subst rx; subst ry; exact ⟨fun _ => rfl, fun _ => rfl, fun op _ _ _ => by cases op <;> rfl⟩
    · subst rx; obtain ⟨_, _, _, _, _, rfl, _⟩ := ry; exact ⟨fun _ => rfl, fun _ => rfl, fun op _ _ _ => by cases op <;> rfl⟩
    · subst ry; obtain ⟨_, _, _, _, _, rfl, _⟩ := rx; exact ⟨fun _ => rfl, fun _ => rfl, fun op _ _ _ => by cases op <;> rfl⟩
  case map =>
    rcases eqMp_inv (show eqMp a b z k = r from e) hz with ⟨rfl, rfl, e'⟩ | ⟨rfl, ⟨_, rfl⟩, e'⟩ | ⟨⟨_, rfl⟩, rfl, e'⟩
    all_goals simp only [VR_nilMap, VR_map] at rx ry
    · subst rx; subst ry; exact ⟨fun _ => rfl, fun _ => rfl, fun op _ _ _ => by cases op <;> rfl⟩
    · subst rx; obtain ⟨_, _, _, rfl⟩ := ry; exact ⟨fun _ => rfl, fun _ => rfl, fun op _ _ _ => by cases op <;> rfl⟩
    · subst ry; obtain ⟨_, _, _, rfl⟩ := rx; exact ⟨fun _ => rfl, fun _ => rfl, fun op _ _ _ => by cases op <;> rfl⟩
  case func =>
    rcases eqFn_inv (show eqFn a b z k = r from e) hz with ⟨rfl, rfl, e'⟩ | ⟨rfl, ⟨_, _, _, rfl⟩, e'⟩ | ⟨⟨_, _, _, rfl⟩, rfl, e'⟩
    all_goals simp only [VR_nilFunc, VR_func] at rx ry
    · subst rx; subst ry; exact ⟨fun _ => rfl, fun _ => rfl, fun op _ _ _ => by cases op <;> rfl⟩
    · subst rx; obtain ⟨_, _, rfl, _⟩ := ry; exact ⟨fun _ => rfl, fun _ => rfl, fun op _ _ _ => by cases op <;> rfl⟩
    · subst ry; obtain ⟨_, _, rfl, _⟩ := rx; exact ⟨fun _ => rfl, fun _ => rfl, fun op _ _ _ => by cases op <;> rfl⟩
  case iface =>
    rcases eqIf_inv (show eqIf a b z k = r from e) hz with ⟨rfl, ⟨_, _, rfl⟩, e'⟩ | ⟨⟨_, _, rfl⟩, rfl, e'⟩
    all_goals simp only [VR_nilIface, VR_iface] at rx ry
    · subst rx; obtain ⟨_, rfl, _⟩ := ry; exact ⟨fun _ => rfl, fun _ => rfl, fun op _ _ _ => by cases op <;> rfl⟩
    · subst ry; obtain ⟨_, rfl, _⟩ := rx; exact ⟨fun _ => rfl, fun _ => rfl, fun op _ _ _ => by cases op <;> rfl⟩
theorem eql_ok {q : EqK} {d : TypeDesc} {neg : Bool} {a b : AV} {x y : Value} {X Y : Operand} {v : AV} (hu : P.underlying ty = some d) (hk : eqKOf P d = some q)
    (rx : VR μ a x) (ry : VR μ b y) (e : eqAV q a b .no (fun c => okB (bc neg (notB c) c)) = .ok v) :
    Gives P μ w (do eqGuard (bc neg .neq .eql) ty X Y x y; binOp (bc neg .neq .eql) ty x y) v := by
  by_cases hi : q = .int
  · subst hi
    obtain ⟨k1, n1, rfl, e1⟩ := asInt_inv (show (a.asInt .no fun i a => b.asInt .no fun j b => bc (ikEq i j) (okB (bc neg (notB (eqI a b)) (eqI a b))) .no) = .ok v from e) nofun
    obtain ⟨k2, n2, rfl, e2⟩ := asInt_inv e1 nofun
    obtain ⟨rfl, e3⟩ := ikEq_inv e2 nofun
    rw [VR_int] at rx ry; subst rx; subst ry
    rw [eqGuard_ints]
    refine ⟨.bool (bc neg (!(n1 == n2)) (n1 == n2)), ?_, okB_ok e3 (by rw [notB_eq, eqI_eq])⟩
    cases neg
    · simp [binOp, Op.intCmp]
    · simp [binOp, Op.intCmp, bne]
  · by_cases hst : q = .str
    · subst hst
      obtain ⟨s1, rfl, e1⟩ := asStr_inv (show (a.asStr .no fun a => b.asStr .no fun b => okB (bc neg (notB (strEq a b)) (strEq a b))) = .ok v from e) nofun
      obtain ⟨s2, rfl, e2⟩ := asStr_inv e1 nofun
      rw [VR_str] at rx ry
      obtain ⟨x', rfl, rfl⟩ := rx
      obtain ⟨y', rfl, rfl⟩ := ry
      rw [eqGuard_strs]
      have heq : strEq (byteList x') (byteList y') = (x'.toList == y'.toList) := by
        rw [strEq_iff, Bool.eq_iff_iff]
        simp only [decide_eq_true_eq, beq_iff_eq]
        exact ⟨fun h => by rw [byteList_inj h], fun h => by rw [byteList_toList, byteList_toList, h]⟩
      refine ⟨.bool (bc neg (!(x'.toList == y'.toList)) (x'.toList == y'.toList)), ?_, okB_ok e2 (by rw [notB_eq, heq])⟩
      cases neg
      · simp [binOp, Op.stringOp]
      · simp [binOp, Op.stringOp]
    · obtain ⟨h1, h2, h3⟩ := eqAV_asked hi hst rx ry e nofun
      obtain ⟨c, hc, hr⟩ := equalIn_ok (P := P) (w := w) (d := 9999) hu hk rx ry e nofun
      have hm : (Op.equal ty x y).run P w = .ok c w := hr
      refine ⟨.bool (bc neg (!c) c), ?_, okB_ok hc (by rw [notB_eq])⟩
      rw [h3]
      cases neg
      · simp only [bc_false, h1]
        simp [hm]
      · simp only [bc_true, h2]
        simp [hm]
theorem part_scalar {f : TypeId} {d : TypeDesc} {q : EqK} (hu : P.underlying f = some d) (hk : eqKOf P d = some q) {cs : Array Value} {o : Nat} {x : Value} (hx : cs[o]? = some x) :
    (Go.part f cs o).run P w = .ok x w := by
  have ha : aggT P f = some false := by
    unfold aggT; rw [hu]
    cases d <;> first | rfl | cases hk
  simp [Go.part, run_isAgg ha, hx]
theorem eqFields_ok {d : Nat} : ∀ {fs : List Field} {ks : List (Nat × EqK)} {xs ys : List AV} {cs ds : Array Value} {β : Type} {z r : β} {k : Bool → β}, eqKs P fs = some ks →
    VRs μ xs cs.toList → VRs μ ys ds.toList → eqParts ks xs ys z k = r → z ≠ r → ∃ c, k c = r ∧ (Op.eqFields (d + 1) cs ds fs).run P w = .ok c w
  | [], ks, xs, ys, cs, ds, β, z, r, k, hk, rx, ry, e, hz => by
    cases hk
    exact ⟨true, e, rfl⟩
  | f :: fs, ks, xs, ys, cs, ds, β, z, r, k, hk, rx, ry, e, hz => by
    unfold eqKs at hk
    split at hk
    · cases hk
    · rename_i hname
      cases hb : (P.underlying f.type).bind (eqKOf P) with
      | none => rw [hb] at hk; cases hk
      | some q =>
        cases hr : eqKs P fs with
        | none => rw [hb, hr] at hk; cases hk
        | some rest =>
          rw [hb, hr] at hk
          cases hk
          cases hu : P.underlying f.type with
          | none => rw [hu] at hb; cases hb
          | some desc =>
            rw [hu] at hb
            have hb : eqKOf P desc = some q := hb
            have e : ocase z (fun a => ocase z (fun b => eqAV q a b z fun r => bc r (eqParts rest xs ys z k) (k false)) (nth? ys f.offset)) (nth? xs f.offset) = r := e
            obtain ⟨a, ha, e1⟩ := ocase_inv e hz
            obtain ⟨b, hb', e2⟩ := ocase_inv e1 hz
            rw [nth_eq] at ha hb'
            obtain ⟨x, hx, rx'⟩ := rx.get _ _ ha
            obtain ⟨y, hy, ry'⟩ := ry.get _ _ hb'
            rw [Array.getElem?_toList] at hx hy
            obtain ⟨c, hc, hrun⟩ := equalIn_ok (P := P) (w := w) (d := d) hu hb rx' ry' e2 hz
            simp only [Op.eqFields, ne_eq, hname, not_false_eq_true, if_true, Sem.run_bind, part_scalar hu hb hx, part_scalar hu hb hy, Result.andThen_ok, hrun, Sem.run_ite]
            cases c with
            | false => exact ⟨false, hc, by simp⟩
            | true =>
              obtain ⟨c', hc', hrun'⟩ := eqFields_ok (d := d) hr rx ry (show eqParts rest xs ys z k = r from hc) hz
              exact ⟨c', hc', by simp [hrun']⟩
theorem eqls_ok {fs : Array Field} {ks : List (Nat × EqK)} {neg : Bool} {a b : AV} {x y : Value} {X Y : Operand} {v : AV} (hu : P.underlying ty = some (.struct fs))
    (hk : eqKs P fs.toList = some ks) (hst : P.stoodInHeld ty = false) (hg : P.eqGuardType P.depth ty = false)
    (rx : VR μ a x) (ry : VR μ b y) (e : (a.asAgg .no fun xs => b.asAgg .no fun ys => eqParts ks xs ys .no fun b => okB (bc neg (notB b) b)) = .ok v) :
    Gives P μ w (do eqGuard (bc neg .neq .eql) ty X Y x y; binOp (bc neg .neq .eql) ty x y) v := by
  obtain ⟨xs, rfl, e1⟩ := asAgg_inv e nofun
  obtain ⟨ys, rfl, e2⟩ := asAgg_inv e1 nofun
  rw [VR_agg] at rx ry
  obtain ⟨cs, rfl, rx⟩ := rx
  obtain ⟨ds, rfl, ry⟩ := ry
  obtain ⟨c, hc, hrun⟩ := eqFields_ok (P := P) (w := w) (d := 9998) hk rx ry e2 nofun
  have hf : P.fieldsOf ty = fs := by unfold Program.fieldsOf; rw [hu]
  have hr : (Op.equalIn 10000 ty (.agg cs) (.agg ds)).run P w = .ok c w := by
    rw [run_equalIn_struct w 9999 ty cs ds (by rw [hf]; exact hu) hst, hf]; exact hrun
  refine ⟨.bool (bc neg (!c) c), ?_, okB_ok hc (by rw [notB_eq])⟩
  cases neg
  · simp only [bc_false, Sem.run_bind, run_eqGuard_agg w _ ty X Y cs ds hg, Result.andThen_ok, run_eql_struct, hr]
  · simp only [bc_true, Sem.run_bind, run_eqGuard_agg w _ ty X Y cs ds hg, Result.andThen_ok, run_neq_struct, hr]
end
end Eng
