/- Proved: for every number h of 64 bits, the call of the law ServerHandles returns true and leaves its arguments alone. Condition: none. -/
import Derived.Test.YtagidjkbggcakaaGreatDoorSHc0
import Derived.Test.YtagidjkbggcakaaGreatDoorSHc1
import Derived.Test.YtagidjkbggcakaaGreatDoorSHc2
import Derived.Test.YtagidjkbggcakaaGreatDoorSHc3
import Derived.Test.YtagidjkbggcakaaGreatDoorSHc4
import Derived.Test.YtagidjkbggcakaaGreatDoorSHc5
import Derived.Test.YtagidjkbggcakaaGreatDoorSHc6
import Derived.Test.YtagidjkbggcakaaGreatDoorSHc7
import Derived.Test.YtagidjkbggcakaaGreatDoorSHc8
import Derived.Test.YtagidjkbggcakaaGreatDoorSHc9
import Derived.Test.YtagidjkbggcakaaGreatDoorSHc10
import Derived.Test.YtagidjkbggcakaaGreatDoorSHF
import Derived.Test.YtagidjkbggcakaaGreatDoorB4
import Derived.LaidMore
import Derived.Stop.Joined
import Derived.SevenTiedAt
import Derived.Test.YtagidjkbggcakaaGreatDoorCards
import Derived.Test.YtagidjkbggcakaaGreatDoorTie
import Derived.Test.YtagidjkbggcakaaGreatDoorRows
import Derived.WalkKit
import Derived.ProofKit
import Derived.OpenShut
import Derived.ShutString
import Derived.ChangeOld
import Derived.Below
import Derived.SizedLaws
import Derived.Carry
import Derived.ChangeSlices
namespace Go.Proofs.YtagidjkbggcakaaGreatDoor.serverHandles
open Go.ChangeShapes Go.WideShapes Go.ChangeAt Go.RowKit
open Go.ChangeMaps (open_string shut_string)
open Eng
set_option linter.unusedVariables false
set_option linter.unusedSimpArgs false

theorem walk (h : Nat) (W : World) (hh : h < 18446744073709551616) : Calls Tryz.prog 3 #[.int .u64 (.ofNat h)] W fun e W' => e = .returned (.bool true) ∧ Below W.heap.size W W' := by
  rcases Nat.lt_or_ge h 5 with h0 | h0
  · exact c0 h0 W
  rcases Nat.lt_or_ge h 128 with h1 | h1
  · exact c1 h0 h1 W
  rcases Nat.lt_or_ge h 16384 with h2 | h2
  · exact c2 h1 h2 W
  rcases Nat.lt_or_ge h 2097152 with h3 | h3
  · exact c3 h2 h3 W
  rcases Nat.lt_or_ge h 268435456 with h4 | h4
  · exact c4 h3 h4 W
  rcases Nat.lt_or_ge h 34359738368 with h5 | h5
  · exact c5 h4 h5 W
  rcases Nat.lt_or_ge h 4398046511104 with h6 | h6
  · exact c6 h5 h6 W
  rcases Nat.lt_or_ge h 562949953421312 with h7 | h7
  · exact c7 h6 h7 W
  rcases Nat.lt_or_ge h 72057594037927936 with h8 | h8
  · exact c8 h7 h8 W
  rcases Nat.lt_or_ge h 9223372036854775808 with h9 | h9
  · exact c9 h8 h9 W
  exact c10 h9 hh W
theorem own : ownKnob Tryz.prog.godebug = none := by kernel_rfl
theorem door_met (os : Os) (args : Array Value) : laidMetH Tryz.prog Rows.serverHandlesRow.laid ((World.doorLaid Tryz.prog 400 os).forCall (fun _ _ => 0) ⟨#[], args, []⟩).memory :=
  laidMetH_of_parts3 (fuel := 8) (laidMet_of_run' 8 (by kernel_rfl) (by kernel_rfl)) (by kernel_rfl) (by kernel_rfl)
set_option maxRecDepth 100000 in
set_option maxHeartbeats 1000000 in
theorem lifted (os : Os) (started : os.Started) (H : Type) (enc : TypeId × Value → H) :
    ReturnsInHanded {} Tryz.checked os 3 .any (fun w args => (Rows.serverHandlesSpec.pre enc Tryz.prog Tryz.f3 [] false w args ∧ laidMetH Tryz.prog Rows.serverHandlesRow.laid w) ∧ sizedMet enc Tryz.prog Tryz.f3 (OpenSpec.ofChange Rows.serverHandlesSpec) false w args)
      (Rows.serverHandlesSpec.post enc Tryz.prog Tryz.f3 false true false false) := by
  refine returnsInHanded_of_change_and (C := Tryz.checked) (X := fun w _ => laidMetH Tryz.prog Rows.serverHandlesRow.laid w) (fun _ _ _ hh h => h.of_heap hh) own started (by kernel_rfl) Tryz.func3
    (ChangeSpec.witness_shaped (enc := enc) (C := Tryz.checked) (os := os) (X := fun w _ => laidMetH Tryz.prog Rows.serverHandlesRow.laid w) false (World.doorLaid Tryz.prog 400 os) #[.int .u64 0] 8 rfl (World.shaped_of_RefB (by kernel_rfl) (by kernel_rfl)) (by kernel_rfl) (by kernel_rfl) (by kernel_rfl) (door_met os _)) ?_
  intro W base args ds gs before hval0 hW _ hsz0 _ _
  have hval : ∀ (j : Nat) t v, Tryz.f3.params[j]? = some t → args[j]? = some v → Value.okWide Tryz.prog W .any base t v := hval0
  have hW' := hW
  obtain ⟨p, q, hA0, hV, rfl, hfz, hnd⟩ := hW
  have hA : DataW.TrodAll enc Tryz.prog W 0 (fun _ => true) true Tryz.f3.params.toList args.toList ds p := hA0
  rw [Tryz.params3] at hA hval
  obtain ⟨rfl, rfl⟩ := trodVars_none hV
  simp only [List.append_nil] at hW'
  obtain ⟨v0, vs0, d0, ds0, p0, q0, hargs, rfl, rfl, h0, r0⟩ := trodAll_cons hA
  obtain ⟨rfl, rfl, rfl⟩ := trodAll_nil r0
  obtain rfl : args = #[v0] := by cases args; simp_all
  clear hA0 hval0 hsz0
  obtain ⟨y0, rfl, rfl, rfl, w0⟩ := open_int Tryz.underlying22 (hval 0 22 v0 rfl rfl) h0
  obtain ⟨x0, rfl, f0⟩ := u64_wf w0
  refine (walk x0 W f0).mono fun e W' ⟨he, bel⟩ => ?_
  subst he
  exact ⟨_, rfl, _, _, _, [], _, [], hW', trodAll_mk1 (shut_bool Tryz.underlying4 _), (trodAll_cons_mk (shut_int Tryz.underlying22 w0) trodAll_mk0), rfl, bel.frame _, fun h => by cases h⟩
theorem gfn : Tryz.pinned.checked.prog.funcNamed Rows.serverHandlesRow.func = some 3 := by kernel_rfl
theorem ginst : Tryz.f3.isInstance Tryz.pinned.checked.prog Rows.serverHandlesRow.origin Rows.serverHandlesRow.targs := of_decide_eq_true (by kernel_rfl)
theorem gwrap : Tryz.f3.isWrapper Tryz.pinned.checked.prog Rows.serverHandlesRow.wrapper Rows.serverHandlesRow.mainSum := by unfold Func.isWrapper; first | (rw [if_pos (by decide +kernel)]; kernel_rfl) | (rw [if_neg (by decide +kernel)]; exact ⟨rfl, rfl⟩)
theorem over : Rows.serverHandlesRow.holds Tryz.pinned (OpenSpec.ofChange Rows.serverHandlesSpec) :=
  OpenClaim.holds_of_wide 3 Tryz.f3 rfl rfl rfl rfl rfl rfl rfl ⟨rfl, rfl, rfl, rfl, rfl⟩ rfl rfl rfl rfl rfl gfn Tryz.func3 closed ginst gwrap
    (fun os started H enc _ => lifted os started H enc)
theorem gwf : Rows.serverHandlesRow.wfByText (OpenSpec.ofChange Rows.serverHandlesSpec) = true := by kernel_rfl
theorem gmain : Tryz.pinned.checked.prog.mainIs = some ((true, "74925286079a1d23da7f8b0105ffc040c261921fd8daf146a3112e8f3647d444").1, (true, "74925286079a1d23da7f8b0105ffc040c261921fd8daf146a3112e8f3647d444").2.toList) := by kernel_rfl
theorem glooks : false = Tryz.pinned.checked.prog.looks [] := by kernel_rfl
theorem gstand : ([22].all fun u => !Tryz.pinned.checked.prog.wantsStandIn u) = true := by kernel_rfl
theorem gall : Tryz.pinned.checked.prog.funcs.any Func.goes = false := by kernel_rfl
theorem ggoes : false = Rows.serverHandlesRow.goesBy Tryz.pinned.checked.prog := goes_of rfl gfn gall
theorem proved : Rows.ServerHandlesCardSaid :=
  Claim7.holds_tied_plain_at .later [] [.data, .data] true (true, "74925286079a1d23da7f8b0105ffc040c261921fd8daf146a3112e8f3647d444") false over (fun _ h => by cases h) gwf (fun _ h => by cases h) serverHandles_row_tie rfl ⟨rfl, rfl⟩ gmain rfl
    (fun f fn hf hfn => by
      obtain rfl : f = 3 := Option.some.inj (gfn.symm.trans hf) |>.symm
      obtain rfl : fn = Tryz.f3 := (Option.some.inj (Tryz.func3.symm.trans hfn)).symm
      exact ⟨glooks, fun j t ht => by
        rw [Tryz.params3] at ht
        have hm : t ∈ [22] := by simpa using Array.mem_of_getElem? ht
        exact (show Tryz.pinned.checked.prog.wantsStandIn t = false by simpa using List.all_eq_true.1 gstand t hm)⟩)
    ggoes
end Go.Proofs.YtagidjkbggcakaaGreatDoor.serverHandles
