/- The engine, part 25: closed calls, once and for all. -/
import Derived.Test.YtejiebbbodealaaEngS24
set_option linter.unusedVariables false
set_option linter.unusedSimpArgs false
namespace Eng
open Go Go.RowKit
section
variable {P : Program} {μ : Mp} {h : Hp} {w w' : World}
theorem Sim.below (hs : Sim μ h w) (b : Below w.heap.size w w') : Sim μ h w' :=
  ⟨hs.lt, hs.fresh, fun b' c s e => Nat.lt_of_lt_of_le (hs.old b' c s e) b.size, fun b' c s x e g => (hs.blk b' c s x e g).mono (Mp.Le.refl μ) (b.block c (hs.old b' c s e)) rfl rfl, hs.apart, hs.peer⟩
theorem Goes.ofBelow (b : Below w.heap.size w w') : Goes μ h w μ h w' :=
  ⟨Nat.le_refl _, fun _ _ => rfl, fun _ _ => rfl, fun _ _ => rfl, b.size, fun c hc _ => b.block c hc, fun _ _ _ => rfl, b.os, b.tape, b.output⟩
def Trues (P : Program) (l : List Nat) : Prop := ∀ f ∈ l, Enters P f ∧ ∀ w, Calls P f #[] w fun e w' => e = .returned (.bool true) ∧ Below w.heap.size w w'
noncomputable def sumT (l : List Nat) (f : Nat) : Option (List AV → Hp → RV) :=
  bc (lall (fun g => notB (Nat.beq g f)) l) none (some fun args h => lcase (.ok (.bool true) h) (fun _ _ => .no) args)
theorem sumT_ok {l : List Nat} (ht : Trues P l) : Good P fun f args h => ocase .no (fun m => m args h) (sumT l f) := fun f args h v h' μ w cargs e hs r => by
  have e : ocase RV.no (fun m => m args h) (bc (lall (fun g => notB (Nat.beq g f)) l) none (some fun args h => lcase (.ok (.bool true) h) (fun _ _ => .no) args)) = .ok v h' := e
  by_cases hm : f ∈ l
  · have hb : lall (fun g => notB (Nat.beq g f)) l = false := by
      cases hh : lall (fun g => notB (Nat.beq g f)) l with
      | false => rfl
      | true =>
        have := lall_iff.1 hh f hm
        rw [Nat.beq_refl] at this; cases this
    rw [hb] at e
    cases args with
    | cons a args => cases e
    | nil =>
      cases e
      obtain ⟨h1, h2⟩ := ht f hm
      rw [VRs_nil] at r
      obtain rfl : cargs = #[] := Array.toList_eq_nil_iff.1 r
      refine ⟨h1, (h2 w).mono fun e w' ⟨he, hb⟩ => ?_⟩
      exact ⟨μ, _, he, by rw [VR_bool], hs.below hb, .ofBelow hb⟩
  · have hb : lall (fun g => notB (Nat.beq g f)) l = true := lall_iff.2 fun g hg => by
      have : g ≠ f := fun e => hm (e ▸ hg)
      rw [beqF this]; rfl
    rw [hb] at e; cases e
theorem trues_one {D : Nat → Array Oper → AC} (hD : DrawOk P D) {M : Nat → Option (List AV → Hp → RV)} (hM : Good P fun f args h => ocase .no (fun m => m args h) (M f)) {N d f : Nat} (e : isTrue (evF M (progS P D) N d f [] H0) = true) :
    Enters P f ∧ ∀ w, Calls P f #[] w fun e w' => e = .returned (.bool true) ∧ Below w.heap.size w w' := by
  obtain ⟨h', e1⟩ := isTrue_inv e
  exact ⟨(evF_ok hD hM N d f [] H0 _ h' Mp.none default #[] e1 (.none default) (VRs_nil.2 rfl)).1, fun w => closed_law hD hM N d f w [] #[] (VRs_nil.2 rfl) e⟩
theorem spec_law {D : Nat → Array Oper → AC} (hD : DrawOk P D) {M : Nat → Option (List AV → Hp → RV)} (hM : Good P fun f args h => ocase .no (fun m => m args h) (M f)) (N d f : Nat) (w : World)
    (args : List AV) (cargs : Array Value) (r : VRs Mp.none args cargs.toList) (L : List (Nat × AV)) (hv : ∀ p ∈ L, args[p.1]? = some p.2) (σ : AO → AO → Option AV) (hσ : Tells σ L)
    (e : isTrue (evSpec σ L (progS P D) N (evF M (progS P D) N d) f args H0) = true) : Calls P f cargs w fun e w' => e = .returned (.bool true) ∧ Below w.heap.size w w' := by
  obtain ⟨h', e1⟩ := isTrue_inv e
  have e2 := evSpec_ok hv hσ e1
  refine (evF1_ok hD (evF_ok hD hM N d) N f args H0 _ h' Mp.none w cargs e2 (.none w) r).2.mono fun e w' hR => ?_
  obtain ⟨μ', y, rfl, ry, hs, g⟩ := hR
  rw [VR_bool] at ry
  subst ry
  exact ⟨rfl, g.below⟩
noncomputable def remIs (k : Nat) (i : IntKind) (b m : Nat) (p o : AO) : Option AV := match p, o with
  | ⟨some d, .q (.move (.tmp k')), none⟩, ⟨_, .q (.bin .rem (.tmp d') (.const (.int j (.ofNat c)))), _⟩ =>
    bc (Nat.beq k' k) (bc (Nat.beq d' d) (bc (ikEq i j) (bc (Nat.beq c b) (some (.int i (.ofNat m))) none) none) none) none
  | _, _ => none
theorem remIs_ok {L : List (Nat × AV)} {k b m n : Nat} {i : IntKind} (hb : b ≠ 0) (hm : n % b = m) (hL : (k, AV.int i (.ofNat n)) ∈ L) : Tells (remIs k i b m) L := fun p o x f hq hf call t0 h0 t h ht he => by
  unfold remIs at hq
  split at hq
  · rename_i d k' dst d' j c g
    obtain ⟨rfl, h0'⟩ := beq_inv hq nofun
    obtain ⟨rfl, h1⟩ := beq_inv h0' nofun
    obtain ⟨rfl, h2⟩ := ikEq_inv h1 nofun
    obtain ⟨rfl, h3⟩ := beq_inv h2 nofun
    cases h3
    cases hf
    have he : RT.ok (putT (some d') (evX (.tmp k') t0) t0) h0 = .ok t h := he
    cases he
    have hx : evX (.tmp d') (putT (some d') (evX (.tmp k') t0) t0) = .int i (.ofNat n) := by rw [evX_put_self]; exact ht _ hL
    show oBin .rem (.tmp d') (.const (.int i (.ofNat c))) (putT (some d') (evX (.tmp k') t0) t0) h0 = _
    unfold oBin
    rw [hx]
    show bc (ikEq i i) (bc (eqI (.ofNat c) 0) OV.no (.ok (.int i (modA (.ofNat n) (.ofNat c))))) .no = _
    have h4 : ikEq i i = true := by cases i <;> rfl
    have h5 : eqI (.ofNat c) 0 = false := by rw [eqI_eq]; simp; omega
    rw [h4, h5]
    show OV.ok (.int i (.ofNat (n % c))) = _
    rw [hm]
  · cases hq
noncomputable def orQ (a b : AO → AO → Option AV) (p o : AO) : Option AV := ocase (b p o) some (a p o)
theorem orQ_ok {L : List (Nat × AV)} {a b : AO → AO → Option AV} (ha : Tells a L) (hb : Tells b L) : Tells (orQ a b) L := fun p o x f hq => by
  unfold orQ at hq
  cases hq' : a p o with
  | none => rw [hq'] at hq; exact hb p o x f hq
  | some y =>
    rw [hq'] at hq
    have hq : some y = some x := hq
    have hyx := Option.some.inj hq
    subst hyx
    exact ha p o _ f hq'
end
end Eng
