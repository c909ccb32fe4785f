/- The engine, told 2: what an evaluation is told, as a tree; shown by a look at each number. -/
import Derived.Test.YtfdbedgmpnkfgaaGreatDoorEngT1
set_option linter.unusedVariables false
namespace Eng
open Go
inductive AE where
  | i (n : Int)
  | s (l : List Nat)
inductive PT where
  | leaf
  | tell (c w : Nat) (o : QOp) (v : AV) (r : PT)
  | fork (c w : Nat) (raw : Bool) (a b : PT)
  | agn (c : Nat) (l : List AE) (r : PT)
noncomputable section
def AE.eqp (x : AE) : Prop := AE.rec (motive := fun _ => Prop) (fun n => n = n) (fun l => l = l) x
def PT.orc (t : PT) : Orc := PT.rec (motive := fun _ => Orc) .fin (fun c _ _ v _ r => .tell c v r) (fun c _ _ _ _ a b => .fork c a b) (fun c _ _ r => .agn c r) t
def PT.prop (t : PT) : Prop := PT.rec (motive := fun _ => Prop) (AV.bool true = .bool true) (fun _ _ o v _ r => evQ o .lf H0 = .ok v ∧ r) (fun _ _ raw _ _ a b => (raw = true → a) ∧ (raw = false → b)) (fun _ l _ r => lrec r (fun x _ ih => x.eqp ∧ ih) l) t
def selW (p w : Nat) : Bool := bc (Nat.beq p 3) (bc (Nat.beq w 1) false (bc (Nat.beq w 2) false true)) (Nat.beq p w)
def PT.chk (p : Nat) (t : PT) : Bool := PT.rec (motive := fun _ => Bool) true (fun _ w o v _ r => bc (selW p w) (bc ((evQ o .lf H0).cs false fun u => avEq u v) r false) r)
  (fun _ w raw _ _ a b => bc (bc (Nat.beq p 3) true (Nat.beq p w)) (bc raw a b) (bc a b false)) (fun _ _ _ r => r) t
def PT.both (t : PT) : PT := PT.rec (motive := fun _ => PT) .leaf (fun c w o v _ r => bc (selW 3 w) (.tell c w o v r) r) (fun c w raw _ _ a b => .fork c w raw a b) (fun _ _ _ r => r) t
theorem PT.both_chk : ∀ t : PT, t.both.chk 3 = t.chk 3
  | .leaf => rfl
  | .tell c w o v r => by
    have ih := PT.both_chk r
    show PT.chk 3 (bc (selW 3 w) (.tell c w o v r.both) r.both) = bc (selW 3 w) (bc ((evQ o .lf H0).cs false fun u => avEq u v) (r.chk 3) false) (r.chk 3)
    cases h : selW 3 w with
    | true =>
      show bc (selW 3 w) (bc ((evQ o .lf H0).cs false fun u => avEq u v) (r.both.chk 3) false) (r.both.chk 3) = _
      rw [h, ih]
    | false => exact ih
  | .fork c w raw a b => by
    show bc raw (a.both.chk 3) (b.both.chk 3) = bc raw (a.chk 3) (b.chk 3)
    rw [PT.both_chk a, PT.both_chk b]
  | .agn c l r => PT.both_chk r
theorem selW_all (w : Nat) : selW 1 w = true ∨ selW 2 w = true ∨ selW 3 w = true := by
  by_cases h1 : w = 1
  · subst h1; exact .inl rfl
  · by_cases h2 : w = 2
    · subst h2; exact .inr (.inl rfl)
    · refine .inr (.inr ?_)
      show bc (Nat.beq w 1) false (bc (Nat.beq w 2) false true) = true
      rw [beqF h1, beqF h2]; rfl
theorem PT.ok : ∀ (t : PT), t.chk 1 = true → t.chk 2 = true → t.chk 3 = true → t.prop
  | .leaf, _, _, _ => rfl
  | .tell c w o v r, h1, h2, h3 => by
    have key : ∀ p, PT.chk p (.tell c w o v r) = true → r.chk p = true ∧ (selW p w = true → ((evQ o .lf H0).cs false fun u => avEq u v) = true) := fun p h => by
      have h : bc (selW p w) (bc ((evQ o .lf H0).cs false fun u => avEq u v) (r.chk p) false) (r.chk p) = true := h
      cases hs : selW p w with
      | true =>
        rw [hs] at h
        obtain ⟨k1, k2⟩ := bc_and.1 h
        exact ⟨k2, fun _ => k1⟩
      | false => rw [hs] at h; exact ⟨h, nofun⟩
    obtain ⟨a1, b1⟩ := key 1 h1
    obtain ⟨a2, b2⟩ := key 2 h2
    obtain ⟨a3, b3⟩ := key 3 h3
    refine ⟨t0 ?_, PT.ok r a1 a2 a3⟩
    rcases selW_all w with h | h | h
    · exact b1 h
    · exact b2 h
    · exact b3 h
  | .fork c w raw a b, h1, h2, h3 => by
    have key : ∀ p, PT.chk p (.fork c w raw a b) = true → (raw = true → a.chk p = true) ∧ (raw = false → b.chk p = true) := fun p h => by
      have h : bc (bc (Nat.beq p 3) true (Nat.beq p w)) (bc raw (a.chk p) (b.chk p)) (bc (a.chk p) (b.chk p) false) = true := h
      cases hs : bc (Nat.beq p 3) true (Nat.beq p w) with
      | true => rw [hs] at h; exact ⟨fun e => (by rw [e] at h; exact h), fun e => (by rw [e] at h; exact h)⟩
      | false =>
        rw [hs] at h
        obtain ⟨k1, k2⟩ := bc_and.1 h
        exact ⟨fun _ => k1, fun _ => k2⟩
    obtain ⟨a1, b1⟩ := key 1 h1
    obtain ⟨a2, b2⟩ := key 2 h2
    obtain ⟨a3, b3⟩ := key 3 h3
    exact ⟨fun e => PT.ok a (a1 e) (a2 e) (a3 e), fun e => PT.ok b (b1 e) (b2 e) (b3 e)⟩
  | .agn c l r, h1, h2, h3 => by
    have hr := PT.ok r h1 h2 h3
    show lrec r.prop (fun x _ ih => x.eqp ∧ ih) l
    clear h1 h2 h3
    induction l with
    | nil => exact hr
    | cons x l ih => exact ⟨by cases x <;> rfl, ih⟩
def allK (f : Nat → Bool) (N : Nat) : Bool := Nat.rec (motive := fun _ => Bool) true (fun m ih => bc (f m) ih false) N
theorem allK_ok {f : Nat → Bool} {N : Nat} (h : allK f N = true) {n : Nat} (hn : n < N) : f n = true := by
  induction N with
  | zero => omega
  | succ m ih =>
    obtain ⟨h1, h2⟩ := bc_and.1 (show bc (f m) (allK f m) false = true from h)
    by_cases e : n = m
    · rw [e]; exact h1
    · exact ih h2 (by omega)
theorem allC {f : Nat → Bool} {c : Nat → Bool} {N : Nat} (h : allK (fun n => bc (c n) (f n) true) N = true) {n : Nat} (hn : n < N) (hc : c n = true) : f n = true := by
  have := allK_ok h hn
  rw [hc] at this
  exact this
theorem all1 {t : Nat → PT} {c : Nat → Bool} {N : Nat} (h : allK (fun n => bc (c n) ((t n).chk 1) true) N = true) {n : Nat} (h2 : (t n).chk 2 = true) {u : Nat → PT} (hu : (t n).both = u n) (h3 : allK (fun n => bc (c n) ((u n).chk 3) true) N = true) (hn : n < N) (hc : c n = true) : (t n).prop :=
  PT.ok _ (allC h hn hc) h2 (by rw [← PT.both_chk, hu]; exact allC h3 hn hc)
end
theorem told_pt {P : Program} {D : Nat → Array Oper → AC} (hD : DrawOk P D) {M : Nat → Option (List AV → Hp → RV)} (hM : Good P fun f args h => ocase .no (fun m => m args h) (M f)) {N d f : Nat} {w : World}
    {args : List AV} {cargs : Array Value} (t : PT) (e : evFW M (progS P D) N d f args H0 t.orc.n t.orc (fun v _ _ _ => v = .bool true) = t.prop) (hp : t.prop) (r : VRs Mp.none args cargs.toList) :
    Calls P f cargs w fun e w' => e = .returned (.bool true) ∧ RowKit.Below w.heap.size w w' := told_law hD hM N d f w args cargs r t.orc (e ▸ hp)
end Eng
