/- The engine, told 1: what hangs on a small number is shown by a look at each. -/
import Derived.Test.YtfdbedgmpnkfgaaGreatDoorB3
set_option linter.unusedVariables false
namespace Eng
open Go
noncomputable def chkQ (o : Nat → QOp) (f : Nat → AV) (c : Nat → Bool) (N : Nat) : Bool :=
  Nat.rec (motive := fun _ => Bool) true (fun m ih => bc (bc (c m) ((evQ (o m) .lf H0).cs false fun v => avEq v (f m)) true) ih false) N
theorem t0 {o : QOp} {v : AV} (h : ((evQ o .lf H0).cs false fun u => avEq u v) = true) : evQ o .lf H0 = .ok v := by
  cases e : evQ o .lf H0 with
  | no => rw [e] at h; cases h
  | ok u => rw [e] at h; rw [avEq_eq u v h]
theorem t1 {o : Nat → QOp} {f : Nat → AV} {c : Nat → Bool} {N : Nat} (h : chkQ o f c N = true) {a : Nat} (ha : a < N) (hc : c a = true) : evQ (o a) .lf H0 = .ok (f a) := by
  induction N with
  | zero => omega
  | succ m ih =>
    have h : bc (bc (c m) ((evQ (o m) .lf H0).cs false fun v => avEq v (f m)) true) (chkQ o f c m) false = true := h
    obtain ⟨h1, h2⟩ := bc_and.1 h
    by_cases e : a = m
    · subst e
      rw [hc] at h1
      exact t0 h1
    · exact ih h2 (by omega)
noncomputable def chkQ2 (o : Nat → Nat → QOp) (f : Nat → Nat → AV) (c d : Nat → Bool) (M N : Nat) : Bool :=
  Nat.rec (motive := fun _ => Bool) true (fun m ih => bc (bc (c m) (chkQ (o m) (f m) d M) true) ih false) N
theorem t2 {o : Nat → Nat → QOp} {f : Nat → Nat → AV} {c d : Nat → Bool} {M N : Nat} (h : chkQ2 o f c d M N = true) {a b : Nat} (ha : a < N) (hb : b < M) (hc : c a = true) (hd : d b = true) : evQ (o a b) .lf H0 = .ok (f a b) := by
  induction N with
  | zero => omega
  | succ m ih =>
    have h : bc (bc (c m) (chkQ (o m) (f m) d M) true) (chkQ2 o f c d M m) false = true := h
    obtain ⟨h1, h2⟩ := bc_and.1 h
    by_cases e : a = m
    · subst e
      rw [hc] at h1
      exact t1 h1 hb hd
    · exact ih h2 (by omega)
end Eng
