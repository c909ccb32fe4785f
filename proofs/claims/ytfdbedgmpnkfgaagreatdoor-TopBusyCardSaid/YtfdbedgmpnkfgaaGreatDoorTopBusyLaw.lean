/- Proved: for every byte n, and either session, the call of the law TopBusy returns true and leaves its arguments alone. Condition: none. -/
import Derived.Test.YtfdbedgmpnkfgaaGreatDoorTBc1
import Derived.Test.YtfdbedgmpnkfgaaGreatDoorTBc2
import Derived.Test.YtfdbedgmpnkfgaaGreatDoorTBc3
import Derived.Test.YtfdbedgmpnkfgaaGreatDoorTBc4
import Derived.Test.YtfdbedgmpnkfgaaGreatDoorTBc5
import Derived.Test.YtfdbedgmpnkfgaaGreatDoorTBc6
import Derived.Test.YtfdbedgmpnkfgaaGreatDoorTBF
import Derived.Test.YtfdbedgmpnkfgaaGreatDoorEngGoes
import Derived.LaidMore
import Derived.Stop.Joined
import Derived.SevenTiedAt
import Derived.Test.YtfdbedgmpnkfgaaGreatDoorCards
import Derived.Test.YtfdbedgmpnkfgaaGreatDoorTie
import Derived.Test.YtfdbedgmpnkfgaaGreatDoorRows
import Derived.WalkKit
import Derived.ProofKit
import Derived.OpenShut
import Derived.ShutString
import Derived.ChangeOld
import Derived.Below
import Derived.SizedLaws
import Derived.Carry
import Derived.ChangeSlices
namespace Go.Proofs.YtfdbedgmpnkfgaaGreatDoor.topBusy
open Go.ChangeShapes Go.WideShapes Go.ChangeAt Go.RowKit
open Go.ChangeMaps (open_string shut_string)
open Eng
set_option linter.unusedVariables false
set_option linter.unusedSimpArgs false

theorem walk (n : Nat) (second : Bool) (W : World) (hn : n < 256) : Calls Tryz.prog 3 #[.int .u8 (.ofNat n), .bool second] W fun e W' => e = .returned (.bool true) ∧ Below W.heap.size W W' := by
  have : n % 9 = 0 ∨ n % 9 = 1 ∨ n % 9 = 2 ∨ n % 9 = 3 ∨ n % 9 = 4 ∨ n % 9 = 5 ∨ n % 9 = 6 ∨ n % 9 = 7 ∨ n % 9 = 8 := by omega
  cases second
  · rcases this with h | h | h | h | h | h | h | h | h
    · exact cfalse0 hn (by rw [h]; rfl) W
    · exact cfalse1 hn (by rw [h]; rfl) W
    · exact cfalse2 hn (by rw [h]; rfl) W
    · exact cfalse3 hn (by rw [h]; rfl) W
    · exact cfalse4 hn (by rw [h]; rfl) W
    · exact cfalse5 hn (by rw [h]; rfl) W
    · exact cfalse6 hn (by rw [h]; rfl) W
    · exact cfalse7 hn (by rw [h]; rfl) W
    · exact cfalse8 hn (by rw [h]; rfl) W
  · rcases this with h | h | h | h | h | h | h | h | h
    · exact ctrue0 hn (by rw [h]; rfl) W
    · exact ctrue1 hn (by rw [h]; rfl) W
    · exact ctrue2 hn (by rw [h]; rfl) W
    · exact ctrue3 hn (by rw [h]; rfl) W
    · exact ctrue4 hn (by rw [h]; rfl) W
    · exact ctrue5 hn (by rw [h]; rfl) W
    · exact ctrue6 hn (by rw [h]; rfl) W
    · exact ctrue7 hn (by rw [h]; rfl) W
    · exact ctrue8 hn (by rw [h]; rfl) W
theorem own : ownKnob Tryz.prog.godebug = none := by kernel_rfl
theorem door_met (os : Os) (args : Array Value) : laidMetH Tryz.prog Rows.topBusyRow.laid ((World.doorLaid Tryz.prog 400 os).forCall (fun _ _ => 0) ⟨#[], args, []⟩).memory :=
  laidMetH_of_parts3 (fuel := 8) (laidMet_of_run' 8 (by kernel_rfl) (by kernel_rfl)) (by kernel_rfl) (by kernel_rfl)
set_option maxRecDepth 100000 in
set_option maxHeartbeats 1000000 in
theorem lifted (os : Os) (started : os.Started) (H : Type) (enc : TypeId × Value → H) :
    ReturnsInHanded {} Tryz.checked os 3 .any (fun w args => (Rows.topBusySpec.pre enc Tryz.prog Tryz.f3 [] false w args ∧ laidMetH Tryz.prog Rows.topBusyRow.laid w) ∧ sizedMet enc Tryz.prog Tryz.f3 (OpenSpec.ofChange Rows.topBusySpec) false w args)
      (Rows.topBusySpec.post enc Tryz.prog Tryz.f3 false true false false) := by
  refine returnsInHanded_of_change_and (C := Tryz.checked) (X := fun w _ => laidMetH Tryz.prog Rows.topBusyRow.laid w) (fun _ _ _ hh h => h.of_heap hh) own started (by kernel_rfl) Tryz.func3
    (ChangeSpec.witness_shaped (enc := enc) (C := Tryz.checked) (os := os) (X := fun w _ => laidMetH Tryz.prog Rows.topBusyRow.laid w) false (World.doorLaid Tryz.prog 400 os) #[.int .u8 0, .bool true] 8 rfl (World.shaped_of_RefB (by kernel_rfl) (by kernel_rfl)) (by kernel_rfl) (by kernel_rfl) (by kernel_rfl) (door_met os _)) ?_
  intro W base args ds gs before hval0 hW _ hsz0 _ _
  have hval : ∀ (j : Nat) t v, Tryz.f3.params[j]? = some t → args[j]? = some v → Value.okWide Tryz.prog W .any base t v := hval0
  have hW' := hW
  obtain ⟨p, q, hA0, hV, rfl, hfz, hnd⟩ := hW
  have hA : DataW.TrodAll enc Tryz.prog W 0 (fun _ => true) true Tryz.f3.params.toList args.toList ds p := hA0
  rw [Tryz.params3] at hA hval
  obtain ⟨rfl, rfl⟩ := trodVars_none hV
  simp only [List.append_nil] at hW'
  obtain ⟨v0, vs0, d0, ds0, p0, q0, hargs, rfl, rfl, h0, r0⟩ := trodAll_cons hA
  obtain ⟨v1, vs1, d1, ds1, p1, q1, rfl, rfl, rfl, h1, r1⟩ := trodAll_cons r0
  obtain ⟨rfl, rfl, rfl⟩ := trodAll_nil r1
  obtain rfl : args = #[v0, v1] := by cases args; simp_all
  clear hA0 hval0 hsz0
  obtain ⟨y0, rfl, rfl, rfl, w0⟩ := open_int Tryz.underlying5 (hval 0 5 v0 rfl rfl) h0
  obtain ⟨x0, rfl, f0⟩ := u8_wf w0
  obtain ⟨x1, rfl, rfl, rfl⟩ := open_bool Tryz.underlying4 (hval 1 4 v1 rfl rfl) h1
  refine (walk x0 x1 W f0).mono fun e W' ⟨he, bel⟩ => ?_
  subst he
  exact ⟨_, rfl, _, _, _, [], _, [], hW', trodAll_mk1 (shut_bool Tryz.underlying4 _), (trodAll_cons_mk (shut_int Tryz.underlying5 w0) (trodAll_cons_mk (shut_bool Tryz.underlying4 _) trodAll_mk0)), rfl, bel.frame _, fun h => by cases h⟩
theorem gfn : Tryz.pinned.checked.prog.funcNamed Rows.topBusyRow.func = some 3 := by kernel_rfl
theorem ginst : Tryz.f3.isInstance Tryz.pinned.checked.prog Rows.topBusyRow.origin Rows.topBusyRow.targs := of_decide_eq_true (by kernel_rfl)
theorem gwrap : Tryz.f3.isWrapper Tryz.pinned.checked.prog Rows.topBusyRow.wrapper Rows.topBusyRow.mainSum := by unfold Func.isWrapper; first | (rw [if_pos (by decide +kernel)]; kernel_rfl) | (rw [if_neg (by decide +kernel)]; exact ⟨rfl, rfl⟩)
theorem over : Rows.topBusyRow.holds Tryz.pinned (OpenSpec.ofChange Rows.topBusySpec) :=
  OpenClaim.holds_of_wide 3 Tryz.f3 rfl rfl rfl rfl rfl rfl rfl ⟨rfl, rfl, rfl, rfl, rfl⟩ rfl rfl rfl rfl rfl gfn Tryz.func3 closed ginst gwrap
    (fun os started H enc _ => lifted os started H enc)
theorem gwf : Rows.topBusyRow.wfByText (OpenSpec.ofChange Rows.topBusySpec) = true := by kernel_rfl
theorem gmain : Tryz.pinned.checked.prog.mainIs = some ((true, "651001db83a8b6c99c1df03b06a2c7a43cdd2cd486d2188b4edae45c92e4756b").1, (true, "651001db83a8b6c99c1df03b06a2c7a43cdd2cd486d2188b4edae45c92e4756b").2.toList) := by kernel_rfl
theorem glooks : true = Tryz.pinned.checked.prog.looks [] := by kernel_rfl
theorem gstand : ([5, 4].all fun u => !Tryz.pinned.checked.prog.wantsStandIn u) = true := by kernel_rfl
theorem gall : Tryz.pinned.checked.prog.funcs.any Func.goes = false := by kernel_rfl
theorem ggoes : false = Rows.topBusyRow.goesBy Tryz.pinned.checked.prog := goes_of rfl gfn gall
theorem proved : Rows.TopBusyCardSaid :=
  Claim7.holds_tied_plain_at .later [] [.data, .data] true (true, "651001db83a8b6c99c1df03b06a2c7a43cdd2cd486d2188b4edae45c92e4756b") true over (fun _ h => by cases h) gwf (fun _ h => by cases h) topBusy_row_tie rfl ⟨rfl, rfl⟩ gmain rfl
    (fun f fn hf hfn => by
      obtain rfl : f = 3 := Option.some.inj (gfn.symm.trans hf) |>.symm
      obtain rfl : fn = Tryz.f3 := (Option.some.inj (Tryz.func3.symm.trans hfn)).symm
      exact ⟨glooks, fun j t ht => by
        rw [Tryz.params3] at ht
        have hm : t ∈ [5, 4] := by simpa using Array.mem_of_getElem? ht
        exact (show Tryz.pinned.checked.prog.wantsStandIn t = false by simpa using List.all_eq_true.1 gstand t hm)⟩)
    ggoes
end Go.Proofs.YtfdbedgmpnkfgaaGreatDoor.topBusy
