/- Proved: for every number k, the call of the law ServerNone returns true and leaves its arguments alone. Condition: none. -/
import Derived.Test.YtfdbedgmpnkfgaaGreatDoorTabB
import Derived.Test.YtfdbedgmpnkfgaaGreatDoorEngT2
import Derived.Test.YtfdbedgmpnkfgaaGreatDoorB2
import Derived.Test.YtfdbedgmpnkfgaaGreatDoorSNF
import Derived.Test.YtfdbedgmpnkfgaaGreatDoorEngGoes
import Derived.LaidMore
import Derived.Stop.Joined
import Derived.SevenTiedAt
import Derived.Test.YtfdbedgmpnkfgaaGreatDoorCards
import Derived.Test.YtfdbedgmpnkfgaaGreatDoorTie
import Derived.Test.YtfdbedgmpnkfgaaGreatDoorRows
import Derived.WalkKit
import Derived.ProofKit
import Derived.OpenShut
import Derived.ShutString
import Derived.ChangeOld
import Derived.Below
import Derived.SizedLaws
import Derived.Carry
import Derived.ChangeSlices
namespace Go.Proofs.YtfdbedgmpnkfgaaGreatDoor.serverNone
open Go.ChangeShapes Go.WideShapes Go.ChangeAt Go.RowKit
open Go.ChangeMaps (open_string shut_string)
open Eng
set_option linter.unusedVariables false
set_option linter.unusedSimpArgs false

theorem begun : isTrue (evF memK (progS Tryz.prog (compDrawn Tryz.prog)) 100000 24 13 [] H0) = true := by rw [← PS_eq]; kernel_rfl
theorem trues : Trues Tryz.prog [13] := fun f hf => by
  rw [List.mem_singleton] at hf
  subst hf
  exact trues_one compDrawn_ok memK_ok begun
noncomputable abbrev MM : Nat → Option (List AV → Hp → RV) := orM (sumT [13]) memK
theorem MM_ok : Eng.Good Tryz.prog fun f args h => ocase .no (fun m => m args h) (MM f) := orM_ok (sumT_ok trues) memK_ok

noncomputable def c0T : PT := .leaf
theorem c0 (W : World) : Calls Tryz.prog 4 #[.int .i64 (Int.ofNat 0)] W fun e W' => e = .returned (.bool true) ∧ Below W.heap.size W W' := by
  refine told_pt compDrawn_ok MM_ok (N := 100000) (d := 24) (args := [.int .i64 (Int.ofNat 0)]) (c0T) (by rw [← PS_eq]; kernel_rfl) (PT.ok _ (by kernel_rfl) (by kernel_rfl) (by kernel_rfl)) ?_
  rw [VRs_cons]; refine ⟨_, _, rfl, by rw [VR_int], ?_⟩
  rw [VRs_nil]
noncomputable def c1T : PT := .leaf
theorem c1 (W : World) : Calls Tryz.prog 4 #[.int .i64 (Int.ofNat 1)] W fun e W' => e = .returned (.bool true) ∧ Below W.heap.size W W' := by
  refine told_pt compDrawn_ok MM_ok (N := 100000) (d := 24) (args := [.int .i64 (Int.ofNat 1)]) (c1T) (by rw [← PS_eq]; kernel_rfl) (PT.ok _ (by kernel_rfl) (by kernel_rfl) (by kernel_rfl)) ?_
  rw [VRs_cons]; refine ⟨_, _, rfl, by rw [VR_int], ?_⟩
  rw [VRs_nil]
noncomputable def c2T : PT := .leaf
theorem c2 (W : World) : Calls Tryz.prog 4 #[.int .i64 (Int.ofNat 2)] W fun e W' => e = .returned (.bool true) ∧ Below W.heap.size W W' := by
  refine told_pt compDrawn_ok MM_ok (N := 100000) (d := 24) (args := [.int .i64 (Int.ofNat 2)]) (c2T) (by rw [← PS_eq]; kernel_rfl) (PT.ok _ (by kernel_rfl) (by kernel_rfl) (by kernel_rfl)) ?_
  rw [VRs_cons]; refine ⟨_, _, rfl, by rw [VR_int], ?_⟩
  rw [VRs_nil]
noncomputable def c3T : PT := .leaf
theorem c3 (W : World) : Calls Tryz.prog 4 #[.int .i64 (Int.ofNat 3)] W fun e W' => e = .returned (.bool true) ∧ Below W.heap.size W W' := by
  refine told_pt compDrawn_ok MM_ok (N := 100000) (d := 24) (args := [.int .i64 (Int.ofNat 3)]) (c3T) (by rw [← PS_eq]; kernel_rfl) (PT.ok _ (by kernel_rfl) (by kernel_rfl) (by kernel_rfl)) ?_
  rw [VRs_cons]; refine ⟨_, _, rfl, by rw [VR_int], ?_⟩
  rw [VRs_nil]
noncomputable def cposT (m : Nat) : PT := (.tell 321 1 (.bin .geq (.const (.int .i64 (Int.ofNat (m + 4)))) (.const (.int .i64 (Int.ofNat 0)))) (.bool true) (.tell 3 1 (.bin .lss (.const (.int .i64 (Int.ofNat (m + 4)))) (.const (.int .i64 (Int.ofNat 4)))) (.bool false) (.tell 43 1 (.bin .geq (.const (.int .i64 (Int.ofNat (m + 4)))) (.const (.int .i64 (Int.ofNat 0)))) (.bool true) (.agn 8 [.i (Int.ofNat (m + 4)), .i (Int.ofNat (m + 4)), .i (Int.ofNat 2)] (.tell 10 1 (.bin .lss (.const (.int .i64 (Int.ofNat (m + 4)))) (.const (.int .i64 (Int.ofNat 0)))) (.bool false) (.agn 4 [.i (Int.ofNat (m + 4))] (.tell 17 1 (.eq .int false (.const (.int .i64 (Int.ofNat (m + 4)))) (.const (.int .i64 (Int.ofNat 1)))) (.bool false) (.tell 5 1 (.eq .int false (.const (.int .i64 (Int.ofNat (m + 4)))) (.const (.int .i64 (Int.ofNat 2)))) (.bool false) (.agn 3 [.i (Int.ofNat (m + 4))] (.tell 7 1 (.eq .int false (.const (.int .i64 (Int.ofNat (m + 4)))) (.const (.int .i64 (Int.ofNat 3)))) (.bool false) (.tell 4 1 (.bin .geq (.const (.int .i64 (Int.ofNat (m + 4)))) (.const (.int .i64 (Int.ofNat 0)))) (.bool true) (.tell 2 1 (.bin .lss (.const (.int .i64 (Int.ofNat (m + 4)))) (.const (.int .i64 (Int.ofNat 4)))) (.bool false) (.tell 14 1 (.eq .int false (.const (.int .i64 (Int.ofNat (m + 4)))) (.const (.int .i64 (Int.ofNat 1)))) (.bool false) (.tell 2 1 (.eq .int false (.const (.int .i64 (Int.ofNat (m + 4)))) (.const (.int .i64 (Int.ofNat 3)))) (.bool false) (.tell 18 1 (.bin .geq (.const (.int .i64 (Int.ofNat (m + 4)))) (.const (.int .i64 (Int.ofNat 0)))) (.bool true) (.tell 3 1 (.bin .lss (.const (.int .i64 (Int.ofNat (m + 4)))) (.const (.int .i64 (Int.ofNat 4)))) (.bool false) (.tell 17 1 (.bin .geq (.const (.int .i64 (Int.ofNat (m + 4)))) (.const (.int .i64 (Int.ofNat 0)))) (.bool true) (.tell 3 1 (.bin .lss (.const (.int .i64 (Int.ofNat (m + 4)))) (.const (.int .i64 (Int.ofNat 4)))) (.bool false) (.tell 18 1 (.bin .geq (.const (.int .i64 (Int.ofNat (m + 4)))) (.const (.int .i64 (Int.ofNat 0)))) (.bool true) (.tell 3 1 (.bin .lss (.const (.int .i64 (Int.ofNat (m + 4)))) (.const (.int .i64 (Int.ofNat 4)))) (.bool false) .leaf))))))))))))))))))))
theorem cpos (m : Nat) (W : World) : Calls Tryz.prog 4 #[.int .i64 (Int.ofNat (m + 4))] W fun e W' => e = .returned (.bool true) ∧ Below W.heap.size W W' := by
  refine told_pt compDrawn_ok MM_ok (N := 100000) (d := 24) (args := [.int .i64 (Int.ofNat (m + 4))]) (cposT m) (by rw [← PS_eq]; kernel_rfl) (PT.ok _ (by kernel_rfl) (by kernel_rfl) (by kernel_rfl)) ?_
  rw [VRs_cons]; refine ⟨_, _, rfl, by rw [VR_int], ?_⟩
  rw [VRs_nil]
noncomputable def cnegT (m : Nat) : PT := (.tell 321 1 (.bin .geq (.const (.int .i64 (Int.negSucc m))) (.const (.int .i64 (Int.ofNat 0)))) (.bool false) (.tell 45 1 (.bin .geq (.const (.int .i64 (Int.negSucc m))) (.const (.int .i64 (Int.ofNat 0)))) (.bool false) (.agn 2 [.i (Int.negSucc m), .i (Int.ofNat 2)] (.tell 22 1 (.eq .int false (.const (.int .i64 (Int.negSucc m))) (.const (.int .i64 (Int.ofNat 1)))) (.bool false) (.tell 5 1 (.eq .int false (.const (.int .i64 (Int.negSucc m))) (.const (.int .i64 (Int.ofNat 2)))) (.bool false) (.agn 3 [.i (Int.negSucc m)] (.tell 7 1 (.eq .int false (.const (.int .i64 (Int.negSucc m))) (.const (.int .i64 (Int.ofNat 3)))) (.bool false) (.tell 4 1 (.bin .geq (.const (.int .i64 (Int.negSucc m))) (.const (.int .i64 (Int.ofNat 0)))) (.bool false) (.tell 15 1 (.eq .int false (.const (.int .i64 (Int.negSucc m))) (.const (.int .i64 (Int.ofNat 1)))) (.bool false) (.tell 2 1 (.eq .int false (.const (.int .i64 (Int.negSucc m))) (.const (.int .i64 (Int.ofNat 3)))) (.bool false) (.tell 18 1 (.bin .geq (.const (.int .i64 (Int.negSucc m))) (.const (.int .i64 (Int.ofNat 0)))) (.bool false) (.tell 19 1 (.bin .geq (.const (.int .i64 (Int.negSucc m))) (.const (.int .i64 (Int.ofNat 0)))) (.bool false) (.tell 20 1 (.bin .geq (.const (.int .i64 (Int.negSucc m))) (.const (.int .i64 (Int.ofNat 0)))) (.bool false) .leaf)))))))))))))
theorem cneg (m : Nat) (W : World) : Calls Tryz.prog 4 #[.int .i64 (Int.negSucc m)] W fun e W' => e = .returned (.bool true) ∧ Below W.heap.size W W' := by
  refine told_pt compDrawn_ok MM_ok (N := 100000) (d := 24) (args := [.int .i64 (Int.negSucc m)]) (cnegT m) (by rw [← PS_eq]; kernel_rfl) (PT.ok _ (by kernel_rfl) (by kernel_rfl) (by kernel_rfl)) ?_
  rw [VRs_cons]; refine ⟨_, _, rfl, by rw [VR_int], ?_⟩
  rw [VRs_nil]
theorem walk (k : Int) (W : World) : Calls Tryz.prog 4 #[.int .i64 k] W fun e W' => e = .returned (.bool true) ∧ Below W.heap.size W W' := by
  cases k with
  | negSucc m => exact cneg m W
  | ofNat n =>
    by_cases h0 : n = 0
    · subst h0; exact c0 W
    by_cases h1 : n = 1
    · subst h1; exact c1 W
    by_cases h2 : n = 2
    · subst h2; exact c2 W
    by_cases h3 : n = 3
    · subst h3; exact c3 W
    obtain ⟨m, rfl⟩ : ∃ m, n = m + 4 := ⟨n - 4, by omega⟩
    exact cpos m W
theorem own : ownKnob Tryz.prog.godebug = none := by kernel_rfl
theorem door_met (os : Os) (args : Array Value) : laidMetH Tryz.prog Rows.serverNoneRow.laid ((World.doorLaid Tryz.prog 400 os).forCall (fun _ _ => 0) ⟨#[], args, []⟩).memory :=
  laidMetH_of_parts3 (fuel := 8) (laidMet_of_run' 8 (by kernel_rfl) (by kernel_rfl)) (by kernel_rfl) (by kernel_rfl)
set_option maxRecDepth 100000 in
set_option maxHeartbeats 1000000 in
theorem lifted (os : Os) (started : os.Started) (H : Type) (enc : TypeId × Value → H) :
    ReturnsInHanded {} Tryz.checked os 4 .any (fun w args => (Rows.serverNoneSpec.pre enc Tryz.prog Tryz.f4 [] false w args ∧ laidMetH Tryz.prog Rows.serverNoneRow.laid w) ∧ sizedMet enc Tryz.prog Tryz.f4 (OpenSpec.ofChange Rows.serverNoneSpec) false w args)
      (Rows.serverNoneSpec.post enc Tryz.prog Tryz.f4 false true false false) := by
  refine returnsInHanded_of_change_and (C := Tryz.checked) (X := fun w _ => laidMetH Tryz.prog Rows.serverNoneRow.laid w) (fun _ _ _ hh h => h.of_heap hh) own started (by kernel_rfl) Tryz.func4
    (ChangeSpec.witness_shaped (enc := enc) (C := Tryz.checked) (os := os) (X := fun w _ => laidMetH Tryz.prog Rows.serverNoneRow.laid w) false (World.doorLaid Tryz.prog 400 os) #[.int .i64 0] 8 rfl (World.shaped_of_RefB (by kernel_rfl) (by kernel_rfl)) (by kernel_rfl) (by kernel_rfl) (by kernel_rfl) (door_met os _)) ?_
  intro W base args ds gs before hval0 hW _ hsz0 _ _
  have hval : ∀ (j : Nat) t v, Tryz.f4.params[j]? = some t → args[j]? = some v → Value.okWide Tryz.prog W .any base t v := hval0
  have hW' := hW
  obtain ⟨p, q, hA0, hV, rfl, hfz, hnd⟩ := hW
  have hA : DataW.TrodAll enc Tryz.prog W 0 (fun _ => true) true Tryz.f4.params.toList args.toList ds p := hA0
  rw [Tryz.params4] at hA hval
  obtain ⟨rfl, rfl⟩ := trodVars_none hV
  simp only [List.append_nil] at hW'
  obtain ⟨v0, vs0, d0, ds0, p0, q0, hargs, rfl, rfl, h0, r0⟩ := trodAll_cons hA
  obtain ⟨rfl, rfl, rfl⟩ := trodAll_nil r0
  obtain rfl : args = #[v0] := by cases args; simp_all
  clear hA0 hval0 hsz0
  obtain ⟨y0, rfl, rfl, rfl, w0⟩ := open_int Tryz.underlying3 (hval 0 3 v0 rfl rfl) h0
  refine (walk y0 W).mono fun e W' ⟨he, bel⟩ => ?_
  subst he
  exact ⟨_, rfl, _, _, _, [], _, [], hW', trodAll_mk1 (shut_bool Tryz.underlying4 _), (trodAll_cons_mk (shut_int Tryz.underlying3 w0) trodAll_mk0), rfl, bel.frame _, fun h => by cases h⟩
theorem gfn : Tryz.pinned.checked.prog.funcNamed Rows.serverNoneRow.func = some 4 := by kernel_rfl
theorem ginst : Tryz.f4.isInstance Tryz.pinned.checked.prog Rows.serverNoneRow.origin Rows.serverNoneRow.targs := of_decide_eq_true (by kernel_rfl)
theorem gwrap : Tryz.f4.isWrapper Tryz.pinned.checked.prog Rows.serverNoneRow.wrapper Rows.serverNoneRow.mainSum := by unfold Func.isWrapper; first | (rw [if_pos (by decide +kernel)]; kernel_rfl) | (rw [if_neg (by decide +kernel)]; exact ⟨rfl, rfl⟩)
theorem over : Rows.serverNoneRow.holds Tryz.pinned (OpenSpec.ofChange Rows.serverNoneSpec) :=
  OpenClaim.holds_of_wide 4 Tryz.f4 rfl rfl rfl rfl rfl rfl rfl ⟨rfl, rfl, rfl, rfl, rfl⟩ rfl rfl rfl rfl rfl gfn Tryz.func4 closed ginst gwrap
    (fun os started H enc _ => lifted os started H enc)
theorem gwf : Rows.serverNoneRow.wfByText (OpenSpec.ofChange Rows.serverNoneSpec) = true := by kernel_rfl
theorem gmain : Tryz.pinned.checked.prog.mainIs = some ((true, "651001db83a8b6c99c1df03b06a2c7a43cdd2cd486d2188b4edae45c92e4756b").1, (true, "651001db83a8b6c99c1df03b06a2c7a43cdd2cd486d2188b4edae45c92e4756b").2.toList) := by kernel_rfl
theorem glooks : true = Tryz.pinned.checked.prog.looks [] := by kernel_rfl
theorem gstand : ([3].all fun u => !Tryz.pinned.checked.prog.wantsStandIn u) = true := by kernel_rfl
theorem gall : Tryz.pinned.checked.prog.funcs.any Func.goes = false := by kernel_rfl
theorem ggoes : false = Rows.serverNoneRow.goesBy Tryz.pinned.checked.prog := goes_of rfl gfn gall
theorem proved : Rows.ServerNoneCardSaid :=
  Claim7.holds_tied_plain_at .later [] [.data, .data] true (true, "651001db83a8b6c99c1df03b06a2c7a43cdd2cd486d2188b4edae45c92e4756b") true over (fun _ h => by cases h) gwf (fun _ h => by cases h) serverNone_row_tie rfl ⟨rfl, rfl⟩ gmain rfl
    (fun f fn hf hfn => by
      obtain rfl : f = 4 := Option.some.inj (gfn.symm.trans hf) |>.symm
      obtain rfl : fn = Tryz.f4 := (Option.some.inj (Tryz.func4.symm.trans hfn)).symm
      exact ⟨glooks, fun j t ht => by
        rw [Tryz.params4] at ht
        have hm : t ∈ [3] := by simpa using Array.mem_of_getElem? ht
        exact (show Tryz.pinned.checked.prog.wantsStandIn t = false by simpa using List.all_eq_true.1 gstand t hm)⟩)
    ggoes
end Go.Proofs.YtfdbedgmpnkfgaaGreatDoor.serverNone
