/- The engine's soundness, part 17: every effect but a call. -/
import Derived.Test.YtejiebbbodealaaEngS16
set_option linter.unusedVariables false
set_option linter.unusedSimpArgs false
namespace Eng
open Go Go.RowKit
section
variable {P : Program} {μ μ' : Mp} {h h' : Hp} {w w' : World} {t : T} {ρ : Operand → Value} {ty : TypeId}
theorem VRs.two {a b : AV} {l : List Value} (r : VRs μ [a, b] l) : ∃ x y, l = [x, y] ∧ VR μ a x ∧ VR μ b y := by
  rw [VRs_cons] at r
  obtain ⟨x, xs, rfl, rx, r⟩ := r
  rw [VRs_cons] at r
  obtain ⟨y, ys, rfl, ry, r⟩ := r
  rw [VRs_nil] at r; subst r
  exact ⟨x, y, rfl, rx, ry⟩
theorem VRs.one {a : AV} {l : List Value} (r : VRs μ [a] l) : ∃ x, l = [x] ∧ VR μ a x := by
  rw [VRs_cons] at r
  obtain ⟨x, xs, rfl, rx, r⟩ := r
  rw [VRs_nil] at r; subst r
  exact ⟨x, rfl, rx⟩
theorem eff_builtin (hs : Sim μ h w) {b : Builtin} {ts : Array TypeId} {ret : TypeId} {cs : Array Bool} {as : Array Operand} {xs : List AX} {op : EOp} {v : AV} {call : CallT} (hc : compBuiltin P b ts.toList xs = .e op)
    (r : VRs μ (evXs xs t) (as.map ρ).toList) (e : evE op call t h = .ok v h') : Eff P μ h w (builtin b ts ret cs (as.map ρ)) v h' := by
  generalize as.map ρ = vs at r
  obtain ⟨ts⟩ := ts
  obtain ⟨vs⟩ := vs
  simp only [] at hc r
  unfold compBuiltin at hc
  split at hc
  · -- append
    rename_i st xt s x
    obtain ⟨ys, yx, rfl, rs, rx⟩ := r.two
    exact (append_ok hs hc rs rx e).eff
  · -- len
    unfold compLen at hc
    repeat' (split at hc)
    all_goals (cases hc; done)
  · -- cap
    split at hc <;> cases hc
  · -- copy
    rename_i dt ts d s
    obtain ⟨yd, ys, rfl, rd, rs⟩ := r.two
    split at hc
    · rename_i el hu
      split at hc
      · rename_i n hn
        split at hc
        · cases hc
        · rename_i hpos
          cases hc
          exact (copy_ok hs hu hn hpos rd rs e).eff
      · cases hc
    · cases hc
  · -- delete
    rename_i t0 ts m k
    obtain ⟨ym, yk, rfl, rm, rk⟩ := r.two
    split at hc
    · rename_i kt el hu
      split at hc
      · rename_i ik hd; cases hc; exact (delete_ok hs hu hd (.inl ⟨rfl, _, rfl⟩) rm rk e).eff
      · rename_i hd; cases hc; exact (delete_ok hs hu hd (.inr ⟨rfl, rfl⟩) rm rk e).eff
      · cases hc
    · cases hc
  · cases hc
  · cases hc
  · -- clear
    rename_i t0 x
    obtain ⟨yx, rfl, rx⟩ := r.one
    split at hc
    · rename_i el hu
      split at hc
      · rename_i z hz; cases hc; exact (clear_ok hs hu hz rx e).eff
      · cases hc
    · cases hc
  · cases hc
theorem effect_ok (hs : Sim μ h w) {o : Oper} {op : EOp} (hc : compOp P o.op = .e op) (hnc : ∀ f xs, op ≠ .call f xs) (hx : Opnds μ t ρ o.op.operands.toList) {v : AV} {call : CallT} (e : evE op call t h = .ok v h') : Eff P μ h w (execOp ρ o) v h' := by
  unfold execOp
  generalize o.op = q at *
  generalize o.type = oty at *
  cases q
  case store ty a x =>
    obtain ⟨a', x', ha, hb, e1⟩ := comp2_inv hc nofun
    have ra := hx a (by simp [Op.operands]) a' ha
    have rb := hx x (by simp [Op.operands]) x' hb
    split at e1
    · rename_i n hn; cases e1; exact store_ok hs hn ra rb e
    · cases e1
  case mapUpdate ty m k x =>
    obtain ⟨m', k', x', hm, hk, hb, e1⟩ := comp3_inv hc nofun
    have rm := hx m (by simp [Op.operands]) m' hm
    have rk := hx k (by simp [Op.operands]) k' hk
    have rb := hx x (by simp [Op.operands]) x' hb
    unfold compMapUpdate at e1
    split at e1
    · rename_i kt el hu
      split at e1
      · rename_i s hs'; cases e1; exact mapUpdate_ok hs hu hs' rm rk rb e
      · cases e1
    · cases e1
  case insert ty m k x =>
    obtain ⟨m', k', x', hm, hk, hb, e1⟩ := comp3_inv hc nofun
    have rm := hx m (by simp [Op.operands]) m' hm
    have rk := hx k (by simp [Op.operands]) k' hk
    have rb := hx x (by simp [Op.operands]) x' hb
    unfold compMapUpdate at e1
    split at e1
    · rename_i kt el hu
      split at e1
      · rename_i s hs'; cases e1; exact mapUpdate_ok hs hu hs' rm rk rb e
      · cases e1
    · cases e1
  case convert s d x =>
    obtain ⟨a, ha, e1⟩ := comp1_inv hc nofun
    have ra := hx x (by simp [Op.operands]) a ha
    unfold compConv at e1
    split at e1
    · cases e1
    · split at e1 <;> cases e1
    · split at e1 <;> cases e1
    · rename_i el0 el h1 h2
      split at e1
      · rename_i hsd
        split at e1
        · rename_i h3; cases e1; exact (mark_ok hs hsd h2 h3 ra e).eff
        · cases e1
      · cases e1
    · cases e1
  case call c =>
    have hc : compCall P c = .e op := hc
    unfold compCall at hc
    split at hc
    · rename_i b hb
      split at hc
      · rename_i xs hxs
        have r := compXs_map hxs hx (fun x hx => by simp [Op.operands, Call.operands, hb]; simpa using hx)
        obtain ⟨μ', w', n, h1, rest⟩ := eff_builtin (ret := oty) (cs := c.args.map fun | .const _ => true | _ => false) hs hc r e
        refine ⟨μ', w', n, ?_, rest⟩
        simp only [resolve, hb, Sem.run_bind, Sem.run_pure, Result.andThen_ok, invoke]
        exact h1
      · cases hc
    · repeat' (split at hc)
      · cases hc; exact absurd rfl (hnc _ _)
      · cases hc
    · cases hc
  case binOp bo ty x y yt =>
    exfalso
    have h1 : ∀ neg (a b : AX), compEq P neg ty a b ≠ .e op := fun neg a b => by
      unfold compEq
      repeat' split
      all_goals nofun
    cases bo <;> simp only [compOp, comp2, comp1] at hc <;> repeat' (split at hc)
    all_goals first | (cases hc; done) | exact h1 _ _ _ hc
  all_goals
    exfalso
    simp only [compOp, comp1, comp2, comp3, compBuild, compBuildSlice, compMakeSlice, compMakeMap, compSlice, compFieldAddr, compField, compIndexAddr, compIndex, compLookup, compMapUpdate, no] at hc
    repeat' (split at hc)
    all_goals (cases hc; done)
theorem call_inv {q : Op} {f : AX} {xs : List AX} (hc : compOp P q = .e (.call f xs)) : ∃ c g, q = .call c ∧ c.callee = .value g ∧ compX g = some f ∧ compXs c.args.toList = some xs := by
  cases q
  case call c =>
    have hc : compCall P c = .e (.call f xs) := hc
    unfold compCall at hc
    split at hc
    · exfalso
      split at hc
      · unfold compBuiltin at hc
        split at hc
        · unfold compAppend at hc; repeat' (split at hc)
          all_goals (cases hc; done)
        · unfold compLen at hc; repeat' (split at hc)
          all_goals (cases hc; done)
        all_goals first | (cases hc; done) | (repeat' (split at hc)) <;> (cases hc; done)
      · cases hc
    · rename_i g hg
      split at hc
      · rename_i h1 h2; cases hc; exact ⟨c, g, rfl, hg, h1, h2⟩
      · cases hc
    · cases hc
  case binOp bo ty x y yt =>
    exfalso
    have h1 : ∀ neg (a b : AX), compEq P neg ty a b ≠ .e (.call f xs) := fun neg a b => by
      unfold compEq
      repeat' split
      all_goals nofun
    cases bo <;> simp only [compOp, comp2, comp1] at hc <;> repeat' (split at hc)
    all_goals first | (cases hc; done) | exact h1 _ _ _ hc
  all_goals
    exfalso
    simp only [compOp, comp1, comp2, comp3, compBuild, compBuildSlice, compMakeSlice, compMakeMap, compSlice, compFieldAddr, compField, compIndexAddr, compIndex, compLookup, compMapUpdate, compConv, no] at hc
    repeat' (split at hc)
    all_goals (cases hc; done)
end
end Eng
