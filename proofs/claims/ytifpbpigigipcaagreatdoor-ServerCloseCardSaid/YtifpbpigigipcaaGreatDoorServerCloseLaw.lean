/- Proved: whether the other handle is closed or not, the call of the law ServerClose returns true and leaves its arguments alone. Condition: none. -/
import Derived.Test.YtifpbpigigipcaaGreatDoorB5
import Derived.LaidMore
import Derived.Stop.Joined
import Derived.SevenTiedAt
import Derived.Test.YtifpbpigigipcaaGreatDoorCards
import Derived.Test.YtifpbpigigipcaaGreatDoorTie
import Derived.Test.YtifpbpigigipcaaGreatDoorRows
import Derived.WalkKit
import Derived.ProofKit
import Derived.OpenShut
import Derived.ShutString
import Derived.ChangeOld
import Derived.Below
import Derived.SizedLaws
import Derived.Carry
import Derived.ChangeSlices
namespace Go.Proofs.YtifpbpigigipcaaGreatDoor.serverClose
open Go.ChangeShapes Go.WideShapes Go.ChangeAt Go.RowKit
open Go.ChangeMaps (open_string shut_string)
open Eng
set_option linter.unusedVariables false
set_option linter.unusedSimpArgs false

theorem begun : isTrue (evF memK (progS Tryz.prog (compDrawn Tryz.prog)) 100000 24 5 [] H0) = true := by rw [← PS_eq]; kernel_rfl
theorem trues : Trues Tryz.prog [5] := fun f hf => by
  rw [List.mem_singleton] at hf
  subst hf
  exact trues_one compDrawn_ok memK_ok begun
noncomputable abbrev MM : Nat → Option (List AV → Hp → RV) := orM (sumT [5]) memK
theorem MM_ok : Eng.Good Tryz.prog fun f args h => ocase .no (fun m => m args h) (MM f) := orM_ok (sumT_ok trues) memK_ok

theorem clstrueE : isTrue (evF MM (progS Tryz.prog (compDrawn Tryz.prog)) 100000 24 3 [.bool true] H0) = true := by rw [← PS_eq]; kernel_rfl
theorem clstrue (W : World) : Calls Tryz.prog 3 #[.bool true] W fun e W' => e = .returned (.bool true) ∧ Below W.heap.size W W' :=
  closed_law compDrawn_ok MM_ok 100000 24 3 W [.bool true] #[.bool true] (by rw [VRs_cons]; exact ⟨_, _, rfl, by rw [VR_bool], by rw [VRs_nil]⟩) clstrueE
theorem clsfalseE : isTrue (evF MM (progS Tryz.prog (compDrawn Tryz.prog)) 100000 24 3 [.bool false] H0) = true := by rw [← PS_eq]; kernel_rfl
theorem clsfalse (W : World) : Calls Tryz.prog 3 #[.bool false] W fun e W' => e = .returned (.bool true) ∧ Below W.heap.size W W' :=
  closed_law compDrawn_ok MM_ok 100000 24 3 W [.bool false] #[.bool false] (by rw [VRs_cons]; exact ⟨_, _, rfl, by rw [VR_bool], by rw [VRs_nil]⟩) clsfalseE
theorem walk (b : Bool) (W : World) : Calls Tryz.prog 3 #[.bool b] W fun e W' => e = .returned (.bool true) ∧ Below W.heap.size W W' := by
  cases b
  · exact clsfalse W
  · exact clstrue W
theorem own : ownKnob Tryz.prog.godebug = none := by kernel_rfl
theorem door_met (os : Os) (args : Array Value) : laidMetH Tryz.prog Rows.serverCloseRow.laid ((World.doorLaid Tryz.prog 400 os).forCall (fun _ _ => 0) ⟨#[], args, []⟩).memory :=
  laidMetH_of_parts3 (fuel := 8) (laidMet_of_run' 8 (by kernel_rfl) (by kernel_rfl)) (by kernel_rfl) (by kernel_rfl)
set_option maxRecDepth 100000 in
set_option maxHeartbeats 1000000 in
theorem lifted (os : Os) (started : os.Started) (H : Type) (enc : TypeId × Value → H) :
    ReturnsInHanded {} Tryz.checked os 3 .any (fun w args => (Rows.serverCloseSpec.pre enc Tryz.prog Tryz.f3 [] false w args ∧ laidMetH Tryz.prog Rows.serverCloseRow.laid w) ∧ sizedMet enc Tryz.prog Tryz.f3 (OpenSpec.ofChange Rows.serverCloseSpec) false w args)
      (Rows.serverCloseSpec.post enc Tryz.prog Tryz.f3 false true false false) := by
  refine returnsInHanded_of_change_and (C := Tryz.checked) (X := fun w _ => laidMetH Tryz.prog Rows.serverCloseRow.laid w) (fun _ _ _ hh h => h.of_heap hh) own started (by kernel_rfl) Tryz.func3
    (ChangeSpec.witness_shaped (enc := enc) (C := Tryz.checked) (os := os) (X := fun w _ => laidMetH Tryz.prog Rows.serverCloseRow.laid w) false (World.doorLaid Tryz.prog 400 os) #[.bool true] 8 rfl (World.shaped_of_RefB (by kernel_rfl) (by kernel_rfl)) (by kernel_rfl) (by kernel_rfl) (by kernel_rfl) (door_met os _)) ?_
  intro W base args ds gs before hval0 hW _ hsz0 _ _
  have hval : ∀ (j : Nat) t v, Tryz.f3.params[j]? = some t → args[j]? = some v → Value.okWide Tryz.prog W .any base t v := hval0
  have hW' := hW
  obtain ⟨p, q, hA0, hV, rfl, hfz, hnd⟩ := hW
  have hA : DataW.TrodAll enc Tryz.prog W 0 (fun _ => true) true Tryz.f3.params.toList args.toList ds p := hA0
  rw [Tryz.params3] at hA hval
  obtain ⟨rfl, rfl⟩ := trodVars_none hV
  simp only [List.append_nil] at hW'
  obtain ⟨v0, vs0, d0, ds0, p0, q0, hargs, rfl, rfl, h0, r0⟩ := trodAll_cons hA
  obtain ⟨rfl, rfl, rfl⟩ := trodAll_nil r0
  obtain rfl : args = #[v0] := by cases args; simp_all
  clear hA0 hval0 hsz0
  obtain ⟨x0, rfl, rfl, rfl⟩ := open_bool Tryz.underlying4 (hval 0 4 v0 rfl rfl) h0
  refine (walk x0 W ).mono fun e W' ⟨he, bel⟩ => ?_
  subst he
  exact ⟨_, rfl, _, _, _, [], _, [], hW', trodAll_mk1 (shut_bool Tryz.underlying4 _), (trodAll_cons_mk (shut_bool Tryz.underlying4 _) trodAll_mk0), rfl, bel.frame _, fun h => by cases h⟩
theorem gfn : Tryz.pinned.checked.prog.funcNamed Rows.serverCloseRow.func = some 3 := by kernel_rfl
theorem ginst : Tryz.f3.isInstance Tryz.pinned.checked.prog Rows.serverCloseRow.origin Rows.serverCloseRow.targs := of_decide_eq_true (by kernel_rfl)
theorem gwrap : Tryz.f3.isWrapper Tryz.pinned.checked.prog Rows.serverCloseRow.wrapper Rows.serverCloseRow.mainSum := by unfold Func.isWrapper; first | (rw [if_pos (by decide +kernel)]; kernel_rfl) | (rw [if_neg (by decide +kernel)]; exact ⟨rfl, rfl⟩)
theorem over : Rows.serverCloseRow.holds Tryz.pinned (OpenSpec.ofChange Rows.serverCloseSpec) :=
  OpenClaim.holds_of_wide 3 Tryz.f3 rfl rfl rfl rfl rfl rfl rfl ⟨rfl, rfl, rfl, rfl, rfl⟩ rfl rfl rfl rfl rfl gfn Tryz.func3 closed ginst gwrap
    (fun os started H enc _ => lifted os started H enc)
theorem gwf : Rows.serverCloseRow.wfByText (OpenSpec.ofChange Rows.serverCloseSpec) = true := by kernel_rfl
theorem gmain : Tryz.pinned.checked.prog.mainIs = some ((true, "3a53f3a0fdb68d814e2546c47b7eff5ecd5fa0734b3315ac153185dd5ada52e9").1, (true, "3a53f3a0fdb68d814e2546c47b7eff5ecd5fa0734b3315ac153185dd5ada52e9").2.toList) := by kernel_rfl
theorem glooks : false = Tryz.pinned.checked.prog.looks [] := by kernel_rfl
theorem gstand : ([4].all fun u => !Tryz.pinned.checked.prog.wantsStandIn u) = true := by kernel_rfl
theorem gall : Tryz.pinned.checked.prog.funcs.any Func.goes = false := by kernel_rfl
theorem ggoes : false = Rows.serverCloseRow.goesBy Tryz.pinned.checked.prog := goes_of rfl gfn gall
theorem proved : Rows.ServerCloseCardSaid :=
  Claim7.holds_tied_plain_at .later [] [.data, .data] true (true, "3a53f3a0fdb68d814e2546c47b7eff5ecd5fa0734b3315ac153185dd5ada52e9") false over (fun _ h => by cases h) gwf (fun _ h => by cases h) serverClose_row_tie rfl ⟨rfl, rfl⟩ gmain rfl
    (fun f fn hf hfn => by
      obtain rfl : f = 3 := Option.some.inj (gfn.symm.trans hf) |>.symm
      obtain rfl : fn = Tryz.f3 := (Option.some.inj (Tryz.func3.symm.trans hfn)).symm
      exact ⟨glooks, fun j t ht => by
        rw [Tryz.params3] at ht
        have hm : t ∈ [4] := by simpa using Array.mem_of_getElem? ht
        exact (show Tryz.pinned.checked.prog.wantsStandIn t = false by simpa using List.all_eq_true.1 gstand t hm)⟩)
    ggoes
end Go.Proofs.YtifpbpigigipcaaGreatDoor.serverClose
