/- A call that asks for a handle that is not there. -/
import Derived.Test.YtagidjkbggcakaaGreatDoorTabS
import Derived.Test.YtagidjkbggcakaaGreatDoorB4
import Derived.Test.YtagidjkbggcakaaGreatDoorB3
set_option linter.unusedVariables false
set_option linter.unusedSimpArgs false
namespace Go.Proofs.YtagidjkbggcakaaGreatDoor
open Go Go.RowKit Eng
theorem get_miss {call : CallT} {N : Nat} {h : Hp} {b : Nat} {k : IntKind} {n : Int} {mb : Nat} {es : List (AV × AV × Nat)} {p q : Nat} (hl : evQ (.loadS (.const (.ptr b 0))) .lf h = .ok (.map mb)) (hm : hget h mb = some (.mp es p q))
    (hk : NoneOf (.int k n) es) : evF1 (progS Tryz.prog (compDrawn Tryz.prog)) N call 172 [.ptr b 0, .int k n] h = .ok (.tuple [.int .i64 (.ofNat 0), .int .i64 (.ofNat 9)]) h := by
  have key : ∃ rv rh, evF1 (progS Tryz.prog (compDrawn Tryz.prog)) N call 172 [.ptr b 0, .int k n] h = .ok rv rh ∧ (fun (rv : AV) (rh : Hp) => rv = (.tuple [.int .i64 (.ofNat 0), .int .i64 (.ofNat 9)]) ∧ rh = h) rv rh := by
    refine fwalk_ok (K := (fun (rv : AV) (rh : Hp) => rv = (.tuple [.int .i64 (.ofNat 0), .int .i64 (.ofNat 9)]) ∧ rh = h)) (o := (.tell 7 (.map mb) (.tell 1 (.tuple [.int .i64 (.ofNat 0), .bool false]) .fin)))
      (p := (evQ (.loadS (.const (.ptr b 0))) .lf h = .ok (.map mb) ∧ (evQ (.lookup false (.int .i64 (.ofNat 0)) true (.const (.map mb)) (.const (.int k n))) .lf h = .ok (.tuple [.int .i64 (.ofNat 0), .bool false]) ∧ ((AV.tuple [.int .i64 (.ofNat 0), .int .i64 (.ofNat 9)]) = (.tuple [.int .i64 (.ofNat 0), .int .i64 (.ofNat 9)]) ∧ h = h)))) (by kernel_rfl) ?_
    exact ⟨hl, look_none hm hk, rfl, rfl⟩
  obtain ⟨rv, rh, e, rfl, rfl⟩ := key
  exact e
noncomputable def baseR : CallT := evF memK PS 100000 24
theorem baseR_ok : Eng.Good Tryz.prog baseR := by
  unfold baseR
  rw [PS_eq]
  exact evF_ok compDrawn_ok memK_ok 100000 24
theorem base_miss {h : Hp} {b : Nat} {k : IntKind} {n : Int} {mb : Nat} {es : List (AV × AV × Nat)} {p q : Nat} (hl : evQ (.loadS (.const (.ptr b 0))) .lf h = .ok (.map mb)) (hm : hget h mb = some (.mp es p q))
    (hk : NoneOf (.int k n) es) : baseR 172 [.ptr b 0, .int k n] h = .ok (.tuple [.int .i64 (.ofNat 0), .int .i64 (.ofNat 9)]) h := by
  unfold baseR
  rw [PS_eq, evF_at (show memK 172 = none from rfl)]
  exact get_miss hl hm hk
noncomputable def sumG (f : Nat) : Option (List AV → Hp → RV) := bc (Nat.beq f 172) (some (baseR 172)) none
theorem sumG_ok : Eng.Good Tryz.prog fun f args h => ocase .no (fun m => m args h) (sumG f) := fun f args h v h' μ w cargs e hs r => by
  replace e : ocase RV.no (fun m => m args h) (bc (Nat.beq f 172) (some (baseR 172)) none) = .ok v h' := e
  cases hf : Nat.beq f 172 with
  | false => rw [hf] at e; cases e
  | true =>
    obtain rfl : f = 172 := Nat.eq_of_beq_eq_true hf
    rw [hf] at e
    exact baseR_ok 172 args h v h' μ w cargs e hs r
noncomputable abbrev getK := orM memK sumG
theorem getK_ok : Eng.Good Tryz.prog fun f args h => ocase .no (fun m => m args h) (getK f) := orM_ok memK_ok sumG_ok
noncomputable def MWG (f : Nat) : Option SumW := Option.rec (motive := fun _ => Option SumW) none (fun _ => some (getQ baseR 172 (.tuple [.int .i64 (.ofNat 0), .int .i64 (.ofNat 9)]))) (bc (Nat.beq f 172) (some ()) none)
end Go.Proofs.YtagidjkbggcakaaGreatDoor
