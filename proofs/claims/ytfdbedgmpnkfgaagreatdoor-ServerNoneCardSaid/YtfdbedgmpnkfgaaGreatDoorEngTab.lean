/- A program's functions, turned once and told. -/
import Derived.Test.YtfdbedgmpnkfgaaGreatDoorB3
set_option linter.unusedVariables false
namespace Eng
open Go Go.RowKit
def qm (d s : Nat) : AO := ⟨some d, .q (.move (.tmp s)), none⟩
def qo (d : Nat) (o : QOp) : AO := ⟨some d, .q o, none⟩
def lo (d : Nat) (o : LOp) : AO := ⟨some d, .l o, none⟩
def eo (d : Nat) (o : EOp) : AO := ⟨some d, .e o, none⟩
def en (o : EOp) : AO := ⟨none, .e o, none⟩
def tq (n : Nat) : AX := .tmp n
noncomputable def tabT (es : List (Nat × AF)) : Tr AF := lrec .lf (fun e _ ih => tset (pathOf e.1) e.2 ih) es
theorem tabT_mem : ∀ (es : List (Nat × AF)) (f : Nat) (af : AF), tget (pathOf f) (tabT es) = some af → (f, af) ∈ es
  | [], f, af, h => by
    have h : tget (pathOf f) (.lf : Tr AF) = some af := h
    rw [tget_lf] at h; cases h
  | e :: es, f, af, h => by
    have h : tget (pathOf f) (tset (pathOf e.1) e.2 (tabT es)) = some af := h
    by_cases q : f = e.1
    · subst q
      rw [tget_tset] at h
      cases h
      exact List.mem_cons_self
    · rw [tget_tset_ne _ _ _ _ (fun q' => q (pathOf_inj q'))] at h
      exact List.mem_cons_of_mem _ (tabT_mem es f af h)
noncomputable def tabS (P : Program) (D : Nat → Array Oper → AC) (t : Tr AF) (f : Nat) : Option AF := ocase (progS P D f) some (tget (pathOf f) t)
theorem tabS_eq {P : Program} {D : Nat → Array Oper → AC} {es : List (Nat × AF)} (h : ∀ e ∈ es, progS P D e.1 = some e.2) : tabS P D (tabT es) = progS P D := by
  funext f
  unfold tabS
  cases q : tget (pathOf f) (tabT es) with
  | none => rfl
  | some af => exact (h _ (tabT_mem es f af q)).symm
end Eng
