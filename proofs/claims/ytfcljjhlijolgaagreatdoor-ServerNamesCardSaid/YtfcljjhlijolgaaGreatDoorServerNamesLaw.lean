/- Proved: for every name, the call of the law ServerNames returns true and leaves its arguments alone. Condition: none. -/
import Derived.Test.YtfcljjhlijolgaaGreatDoorSNc1
import Derived.Test.YtfcljjhlijolgaaGreatDoorSNc2
import Derived.Test.YtfcljjhlijolgaaGreatDoorSNc3
import Derived.Test.YtfcljjhlijolgaaGreatDoorSNc4
import Derived.Test.YtfcljjhlijolgaaGreatDoorSNc5
import Derived.Test.YtfcljjhlijolgaaGreatDoorSNc6
import Derived.Test.YtfcljjhlijolgaaGreatDoorSNc7
import Derived.Test.YtfcljjhlijolgaaGreatDoorSNc8
import Derived.Test.YtfcljjhlijolgaaGreatDoorSNe
import Derived.Test.YtfcljjhlijolgaaGreatDoorSNF
import Derived.Test.YtfcljjhlijolgaaGreatDoorB4
import Derived.LaidMore
import Derived.Stop.Joined
import Derived.SevenTiedAt
import Derived.ChangeMaps5
import Derived.Test.YtfcljjhlijolgaaGreatDoorCards
import Derived.Test.YtfcljjhlijolgaaGreatDoorTie
import Derived.Test.YtfcljjhlijolgaaGreatDoorRows
import Derived.WalkKit
import Derived.ProofKit
import Derived.OpenShut
import Derived.ShutString
import Derived.ChangeOld
import Derived.Below
import Derived.SizedLaws
import Derived.Carry
import Derived.ChangeSlices
namespace Go.Proofs.YtfcljjhlijolgaaGreatDoor.serverNames
open Go.ChangeShapes Go.WideShapes Go.ChangeAt Go.RowKit
open Go.ChangeMaps (open_string shut_string)
open Eng
set_option linter.unusedVariables false
set_option linter.unusedSimpArgs false

theorem walk (s : ByteArray) (W : World) : Calls Tryz.prog 5 #[.string s] W fun e W' => e = .returned (.bool true) ∧ Below W.heap.size W W' := by
  obtain ⟨c, hc, hl⟩ := byteList_get s
  by_cases h61 : 60 < (byteList s).length
  · exact cL rfl h61 rfl W
  by_cases h0 : (byteList s).length = 0
  · exact c0 (List.eq_nil_of_length_eq_zero h0) W
  by_cases h1 : (byteList s).length = 1
  · exact c1 hc (hl 1 h1) W
  by_cases h2 : (byteList s).length = 2
  · exact c2 hc (hl 2 h2) W
  by_cases h3 : (byteList s).length = 3
  · exact c3 hc (hl 3 h3) W
  by_cases h4 : (byteList s).length = 4
  · exact c4 hc (hl 4 h4) W
  by_cases h5 : (byteList s).length = 5
  · exact c5 hc (hl 5 h5) W
  by_cases h6 : (byteList s).length = 6
  · exact c6 hc (hl 6 h6) W
  by_cases h7 : (byteList s).length = 7
  · exact c7 hc (hl 7 h7) W
  by_cases h8 : (byteList s).length = 8
  · exact c8 hc (hl 8 h8) W
  by_cases h9 : (byteList s).length = 9
  · exact c9 hc (hl 9 h9) W
  by_cases h10 : (byteList s).length = 10
  · exact c10 hc (hl 10 h10) W
  by_cases h11 : (byteList s).length = 11
  · exact c11 hc (hl 11 h11) W
  by_cases h12 : (byteList s).length = 12
  · exact c12 hc (hl 12 h12) W
  by_cases h13 : (byteList s).length = 13
  · exact c13 hc (hl 13 h13) W
  by_cases h14 : (byteList s).length = 14
  · exact c14 hc (hl 14 h14) W
  by_cases h15 : (byteList s).length = 15
  · exact c15 hc (hl 15 h15) W
  by_cases h16 : (byteList s).length = 16
  · exact c16 hc (hl 16 h16) W
  by_cases h17 : (byteList s).length = 17
  · exact c17 hc (hl 17 h17) W
  by_cases h18 : (byteList s).length = 18
  · exact c18 hc (hl 18 h18) W
  by_cases h19 : (byteList s).length = 19
  · exact c19 hc (hl 19 h19) W
  by_cases h20 : (byteList s).length = 20
  · exact c20 hc (hl 20 h20) W
  by_cases h21 : (byteList s).length = 21
  · exact c21 hc (hl 21 h21) W
  by_cases h22 : (byteList s).length = 22
  · exact c22 hc (hl 22 h22) W
  by_cases h23 : (byteList s).length = 23
  · exact c23 hc (hl 23 h23) W
  by_cases h24 : (byteList s).length = 24
  · exact c24 hc (hl 24 h24) W
  by_cases h25 : (byteList s).length = 25
  · exact c25 hc (hl 25 h25) W
  by_cases h26 : (byteList s).length = 26
  · exact c26 hc (hl 26 h26) W
  by_cases h27 : (byteList s).length = 27
  · exact c27 hc (hl 27 h27) W
  by_cases h28 : (byteList s).length = 28
  · exact c28 hc (hl 28 h28) W
  by_cases h29 : (byteList s).length = 29
  · exact c29 hc (hl 29 h29) W
  by_cases h30 : (byteList s).length = 30
  · exact c30 hc (hl 30 h30) W
  by_cases h31 : (byteList s).length = 31
  · exact c31 hc (hl 31 h31) W
  by_cases h32 : (byteList s).length = 32
  · exact c32 hc (hl 32 h32) W
  by_cases h33 : (byteList s).length = 33
  · exact c33 hc (hl 33 h33) W
  by_cases h34 : (byteList s).length = 34
  · exact c34 hc (hl 34 h34) W
  by_cases h35 : (byteList s).length = 35
  · exact c35 hc (hl 35 h35) W
  by_cases h36 : (byteList s).length = 36
  · exact c36 hc (hl 36 h36) W
  by_cases h37 : (byteList s).length = 37
  · exact c37 hc (hl 37 h37) W
  by_cases h38 : (byteList s).length = 38
  · exact c38 hc (hl 38 h38) W
  by_cases h39 : (byteList s).length = 39
  · exact c39 hc (hl 39 h39) W
  by_cases h40 : (byteList s).length = 40
  · exact c40 hc (hl 40 h40) W
  by_cases h41 : (byteList s).length = 41
  · exact c41 hc (hl 41 h41) W
  by_cases h42 : (byteList s).length = 42
  · exact c42 hc (hl 42 h42) W
  by_cases h43 : (byteList s).length = 43
  · exact c43 hc (hl 43 h43) W
  by_cases h44 : (byteList s).length = 44
  · exact c44 hc (hl 44 h44) W
  by_cases h45 : (byteList s).length = 45
  · exact c45 hc (hl 45 h45) W
  by_cases h46 : (byteList s).length = 46
  · exact c46 hc (hl 46 h46) W
  by_cases h47 : (byteList s).length = 47
  · exact c47 hc (hl 47 h47) W
  by_cases h48 : (byteList s).length = 48
  · exact c48 hc (hl 48 h48) W
  by_cases h49 : (byteList s).length = 49
  · exact c49 hc (hl 49 h49) W
  by_cases h50 : (byteList s).length = 50
  · exact c50 hc (hl 50 h50) W
  by_cases h51 : (byteList s).length = 51
  · exact c51 hc (hl 51 h51) W
  by_cases h52 : (byteList s).length = 52
  · exact c52 hc (hl 52 h52) W
  by_cases h53 : (byteList s).length = 53
  · exact c53 hc (hl 53 h53) W
  by_cases h54 : (byteList s).length = 54
  · exact c54 hc (hl 54 h54) W
  by_cases h55 : (byteList s).length = 55
  · exact c55 hc (hl 55 h55) W
  by_cases h56 : (byteList s).length = 56
  · exact c56 hc (hl 56 h56) W
  by_cases h57 : (byteList s).length = 57
  · exact c57 hc (hl 57 h57) W
  by_cases h58 : (byteList s).length = 58
  · exact c58 hc (hl 58 h58) W
  by_cases h59 : (byteList s).length = 59
  · exact c59 hc (hl 59 h59) W
  by_cases h60 : (byteList s).length = 60
  · exact c60 hc (hl 60 h60) W
  exact absurd h61 (by omega)
theorem own : ownKnob Tryz.prog.godebug = none := by kernel_rfl
theorem door_met (os : Os) (args : Array Value) : laidMetH Tryz.prog Rows.serverNamesRow.laid ((World.doorLaid Tryz.prog 400 os).forCall (fun _ _ => 0) ⟨#[], args, []⟩).memory :=
  laidMetH_of_parts3 (fuel := 8) (laidMet_of_run' 8 (by kernel_rfl) (by kernel_rfl)) (by kernel_rfl) (by kernel_rfl)
set_option maxRecDepth 100000 in
set_option maxHeartbeats 1000000 in
theorem lifted (os : Os) (started : os.Started) (H : Type) (enc : TypeId × Value → H) :
    ReturnsInHanded {} Tryz.checked os 5 .any (fun w args => (Rows.serverNamesSpec.pre enc Tryz.prog Tryz.f5 [] false w args ∧ laidMetH Tryz.prog Rows.serverNamesRow.laid w) ∧ sizedMet enc Tryz.prog Tryz.f5 (OpenSpec.ofChange Rows.serverNamesSpec) false w args)
      (Rows.serverNamesSpec.post enc Tryz.prog Tryz.f5 false true false false) := by
  refine returnsInHanded_of_change_and (C := Tryz.checked) (X := fun w _ => laidMetH Tryz.prog Rows.serverNamesRow.laid w) (fun _ _ _ hh h => h.of_heap hh) own started (by kernel_rfl) Tryz.func5
    (ChangeSpec.witness_shaped (enc := enc) (C := Tryz.checked) (os := os) (X := fun w _ => laidMetH Tryz.prog Rows.serverNamesRow.laid w) false (World.doorLaid Tryz.prog 400 os) #[.string ⟨#[]⟩] 8 rfl (World.shaped_of_RefB (by kernel_rfl) (by kernel_rfl)) (by kernel_rfl) (by kernel_rfl) (by kernel_rfl) (door_met os _)) ?_
  intro W base args ds gs before hval0 hW _ hsz0 _ _
  have hval : ∀ (j : Nat) t v, Tryz.f5.params[j]? = some t → args[j]? = some v → Value.okWide Tryz.prog W .any base t v := hval0
  have hW' := hW
  obtain ⟨p, q, hA0, hV, rfl, hfz, hnd⟩ := hW
  have hA : DataW.TrodAll enc Tryz.prog W 0 (fun _ => true) true Tryz.f5.params.toList args.toList ds p := hA0
  rw [Tryz.params5] at hA hval
  obtain ⟨rfl, rfl⟩ := trodVars_none hV
  simp only [List.append_nil] at hW'
  obtain ⟨v0, vs0, d0, ds0, p0, q0, hargs, rfl, rfl, h0, r0⟩ := trodAll_cons hA
  obtain ⟨rfl, rfl, rfl⟩ := trodAll_nil r0
  obtain rfl : args = #[v0] := by cases args; simp_all
  clear hA0 hval0 hsz0
  obtain ⟨x0, rfl, rfl, rfl, w0⟩ := open_string Tryz.underlying9 (hval 0 9 v0 rfl rfl) h0
  refine (walk x0 W ).mono fun e W' ⟨he, bel⟩ => ?_
  subst he
  exact ⟨_, rfl, _, _, _, [], _, [], hW', trodAll_mk1 (shut_bool Tryz.underlying4 _), (trodAll_cons_mk (shut_string Tryz.underlying9 w0) trodAll_mk0), rfl, bel.frame _, fun h => by cases h⟩
theorem gfn : Tryz.pinned.checked.prog.funcNamed Rows.serverNamesRow.func = some 5 := by kernel_rfl
theorem ginst : Tryz.f5.isInstance Tryz.pinned.checked.prog Rows.serverNamesRow.origin Rows.serverNamesRow.targs := of_decide_eq_true (by kernel_rfl)
theorem gwrap : Tryz.f5.isWrapper Tryz.pinned.checked.prog Rows.serverNamesRow.wrapper Rows.serverNamesRow.mainSum := by unfold Func.isWrapper; first | (rw [if_pos (by decide +kernel)]; kernel_rfl) | (rw [if_neg (by decide +kernel)]; exact ⟨rfl, rfl⟩)
theorem over : Rows.serverNamesRow.holds Tryz.pinned (OpenSpec.ofChange Rows.serverNamesSpec) :=
  OpenClaim.holds_of_wide 5 Tryz.f5 rfl rfl rfl rfl rfl rfl rfl ⟨rfl, rfl, rfl, rfl, rfl⟩ rfl rfl rfl rfl rfl gfn Tryz.func5 closed ginst gwrap
    (fun os started H enc _ => lifted os started H enc)
theorem gwf : Rows.serverNamesRow.wfByText (OpenSpec.ofChange Rows.serverNamesSpec) = true := by kernel_rfl
theorem gmain : Tryz.pinned.checked.prog.mainIs = some ((true, "34fa7890942a5859727b2863b86f0dc625530302953ce95b5905c61d30cd137f").1, (true, "34fa7890942a5859727b2863b86f0dc625530302953ce95b5905c61d30cd137f").2.toList) := by kernel_rfl
theorem glooks : false = Tryz.pinned.checked.prog.looks [] := by kernel_rfl
theorem gstand : ([9].all fun u => !Tryz.pinned.checked.prog.wantsStandIn u) = true := by kernel_rfl
theorem gall : Tryz.pinned.checked.prog.funcs.any Func.goes = false := by kernel_rfl
theorem ggoes : false = Rows.serverNamesRow.goesBy Tryz.pinned.checked.prog := goes_of rfl gfn gall
theorem proved : Rows.ServerNamesCardSaid :=
  Claim7.holds_tied_plain_at .later [] [.data, .data] true (true, "34fa7890942a5859727b2863b86f0dc625530302953ce95b5905c61d30cd137f") false over (fun _ h => by cases h) gwf (fun _ h => by cases h) serverNames_row_tie rfl ⟨rfl, rfl⟩ gmain rfl
    (fun f fn hf hfn => by
      obtain rfl : f = 5 := Option.some.inj (gfn.symm.trans hf) |>.symm
      obtain rfl : fn = Tryz.f5 := (Option.some.inj (Tryz.func5.symm.trans hfn)).symm
      exact ⟨glooks, fun j t ht => by
        rw [Tryz.params5] at ht
        have hm : t ∈ [9] := by simpa using Array.mem_of_getElem? ht
        exact (show Tryz.pinned.checked.prog.wantsStandIn t = false by simpa using List.all_eq_true.1 gstand t hm)⟩)
    ggoes
end Go.Proofs.YtfcljjhlijolgaaGreatDoor.serverNames
