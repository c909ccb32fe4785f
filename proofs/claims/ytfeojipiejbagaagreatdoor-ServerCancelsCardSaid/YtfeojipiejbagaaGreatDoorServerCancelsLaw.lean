/- Proved: for every byte fuel and both answers second, the call of the law ServerCancels returns true and leaves its arguments alone. Condition: none. -/
import Derived.Test.YtfeojipiejbagaaGreatDoorSCc1
import Derived.Test.YtfeojipiejbagaaGreatDoorSCc2
import Derived.Test.YtfeojipiejbagaaGreatDoorSCF
import Derived.Test.YtfeojipiejbagaaGreatDoorB4
import Derived.LaidMore
import Derived.Stop.Joined
import Derived.SevenTiedAt
import Derived.Test.YtfeojipiejbagaaGreatDoorCards
import Derived.Test.YtfeojipiejbagaaGreatDoorTie
import Derived.Test.YtfeojipiejbagaaGreatDoorRows
import Derived.WalkKit
import Derived.ProofKit
import Derived.OpenShut
import Derived.ShutString
import Derived.ChangeOld
import Derived.Below
import Derived.SizedLaws
import Derived.Carry
import Derived.ChangeSlices
namespace Go.Proofs.YtfeojipiejbagaaGreatDoor.serverCancels
open Go.ChangeShapes Go.WideShapes Go.ChangeAt Go.RowKit
open Go.ChangeMaps (open_string shut_string)
open Eng
set_option linter.unusedVariables false
set_option linter.unusedSimpArgs false

theorem walk (f : Nat) (b : Bool) (W : World) (hf : f < 256) : Calls Tryz.prog 3 #[.int .u8 (.ofNat f), .bool b] W fun e W' => e = .returned (.bool true) ∧ Below W.heap.size W W' := by
  cases b with
  | false => exact c0 hf W
  | true => exact c1 hf W
theorem own : ownKnob Tryz.prog.godebug = none := by kernel_rfl
theorem door_met (os : Os) (args : Array Value) : laidMetH Tryz.prog Rows.serverCancelsRow.laid ((World.doorLaid Tryz.prog 400 os).forCall (fun _ _ => 0) ⟨#[], args, []⟩).memory :=
  laidMetH_of_parts3 (fuel := 8) (laidMet_of_run' 8 (by kernel_rfl) (by kernel_rfl)) (by kernel_rfl) (by kernel_rfl)
set_option maxRecDepth 100000 in
set_option maxHeartbeats 1000000 in
theorem lifted (os : Os) (started : os.Started) (H : Type) (enc : TypeId × Value → H) :
    ReturnsInHanded {} Tryz.checked os 3 .any (fun w args => (Rows.serverCancelsSpec.pre enc Tryz.prog Tryz.f3 [] false w args ∧ laidMetH Tryz.prog Rows.serverCancelsRow.laid w) ∧ sizedMet enc Tryz.prog Tryz.f3 (OpenSpec.ofChange Rows.serverCancelsSpec) false w args)
      (Rows.serverCancelsSpec.post enc Tryz.prog Tryz.f3 false true false false) := by
  refine returnsInHanded_of_change_and (C := Tryz.checked) (X := fun w _ => laidMetH Tryz.prog Rows.serverCancelsRow.laid w) (fun _ _ _ hh h => h.of_heap hh) own started (by kernel_rfl) Tryz.func3
    (ChangeSpec.witness_shaped (enc := enc) (C := Tryz.checked) (os := os) (X := fun w _ => laidMetH Tryz.prog Rows.serverCancelsRow.laid w) false (World.doorLaid Tryz.prog 400 os) #[.int .u8 0, .bool true] 8 rfl (World.shaped_of_RefB (by kernel_rfl) (by kernel_rfl)) (by kernel_rfl) (by kernel_rfl) (by kernel_rfl) (door_met os _)) ?_
  intro W base args ds gs before hval0 hW _ hsz0 _ _
  have hval : ∀ (j : Nat) t v, Tryz.f3.params[j]? = some t → args[j]? = some v → Value.okWide Tryz.prog W .any base t v := hval0
  have hW' := hW
  obtain ⟨p, q, hA0, hV, rfl, hfz, hnd⟩ := hW
  have hA : DataW.TrodAll enc Tryz.prog W 0 (fun _ => true) true Tryz.f3.params.toList args.toList ds p := hA0
  rw [Tryz.params3] at hA hval
  obtain ⟨rfl, rfl⟩ := trodVars_none hV
  simp only [List.append_nil] at hW'
  obtain ⟨v0, vs0, d0, ds0, p0, q0, hargs, rfl, rfl, h0, r0⟩ := trodAll_cons hA
  obtain ⟨v1, vs1, d1, ds1, p1, q1, rfl, rfl, rfl, h1, r1⟩ := trodAll_cons r0
  obtain ⟨rfl, rfl, rfl⟩ := trodAll_nil r1
  obtain rfl : args = #[v0, v1] := by cases args; simp_all
  clear hA0 hval0 hsz0
  obtain ⟨y0, rfl, rfl, rfl, w0⟩ := open_int Tryz.underlying5 (hval 0 5 v0 rfl rfl) h0
  obtain ⟨x0, rfl, f0⟩ := u8_wf w0
  obtain ⟨x1, rfl, rfl, rfl⟩ := open_bool Tryz.underlying4 (hval 1 4 v1 rfl rfl) h1
  refine (walk x0 x1 W f0).mono fun e W' ⟨he, bel⟩ => ?_
  subst he
  exact ⟨_, rfl, _, _, _, [], _, [], hW', trodAll_mk1 (shut_bool Tryz.underlying4 _), (trodAll_cons_mk (shut_int Tryz.underlying5 w0) (trodAll_cons_mk (shut_bool Tryz.underlying4 _) trodAll_mk0)), rfl, bel.frame _, fun h => by cases h⟩
theorem gfn : Tryz.pinned.checked.prog.funcNamed Rows.serverCancelsRow.func = some 3 := by kernel_rfl
theorem ginst : Tryz.f3.isInstance Tryz.pinned.checked.prog Rows.serverCancelsRow.origin Rows.serverCancelsRow.targs := of_decide_eq_true (by kernel_rfl)
theorem gwrap : Tryz.f3.isWrapper Tryz.pinned.checked.prog Rows.serverCancelsRow.wrapper Rows.serverCancelsRow.mainSum := by unfold Func.isWrapper; first | (rw [if_pos (by decide +kernel)]; kernel_rfl) | (rw [if_neg (by decide +kernel)]; exact ⟨rfl, rfl⟩)
theorem over : Rows.serverCancelsRow.holds Tryz.pinned (OpenSpec.ofChange Rows.serverCancelsSpec) :=
  OpenClaim.holds_of_wide 3 Tryz.f3 rfl rfl rfl rfl rfl rfl rfl ⟨rfl, rfl, rfl, rfl, rfl⟩ rfl rfl rfl rfl rfl gfn Tryz.func3 closed ginst gwrap
    (fun os started H enc _ => lifted os started H enc)
theorem gwf : Rows.serverCancelsRow.wfByText (OpenSpec.ofChange Rows.serverCancelsSpec) = true := by kernel_rfl
theorem gmain : Tryz.pinned.checked.prog.mainIs = some ((true, "f103011e8081e6b5342bf0a05698148dff60b914c0b3ec33aeb671bc829e1532").1, (true, "f103011e8081e6b5342bf0a05698148dff60b914c0b3ec33aeb671bc829e1532").2.toList) := by kernel_rfl
theorem glooks : false = Tryz.pinned.checked.prog.looks [] := by kernel_rfl
theorem gstand : ([5, 4].all fun u => !Tryz.pinned.checked.prog.wantsStandIn u) = true := by kernel_rfl
theorem gall : Tryz.pinned.checked.prog.funcs.any Func.goes = false := by kernel_rfl
theorem ggoes : false = Rows.serverCancelsRow.goesBy Tryz.pinned.checked.prog := goes_of rfl gfn gall
theorem proved : Rows.ServerCancelsCardSaid :=
  Claim7.holds_tied_plain_at .later [] [.data, .data] true (true, "f103011e8081e6b5342bf0a05698148dff60b914c0b3ec33aeb671bc829e1532") false over (fun _ h => by cases h) gwf (fun _ h => by cases h) serverCancels_row_tie rfl ⟨rfl, rfl⟩ gmain rfl
    (fun f fn hf hfn => by
      obtain rfl : f = 3 := Option.some.inj (gfn.symm.trans hf) |>.symm
      obtain rfl : fn = Tryz.f3 := (Option.some.inj (Tryz.func3.symm.trans hfn)).symm
      exact ⟨glooks, fun j t ht => by
        rw [Tryz.params3] at ht
        have hm : t ∈ [5, 4] := by simpa using Array.mem_of_getElem? ht
        exact (show Tryz.pinned.checked.prog.wantsStandIn t = false by simpa using List.all_eq_true.1 gstand t hm)⟩)
    ggoes
end Go.Proofs.YtfeojipiejbagaaGreatDoor.serverCancels
