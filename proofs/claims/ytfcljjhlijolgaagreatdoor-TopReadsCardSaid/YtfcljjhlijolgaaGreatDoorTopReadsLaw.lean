/- Proved: for all bytes n and at, the call of the law TopReads returns true and leaves its arguments alone. Condition: none. -/
import Derived.Test.YtfcljjhlijolgaaGreatDoorTRc00
import Derived.Test.YtfcljjhlijolgaaGreatDoorTRc01
import Derived.Test.YtfcljjhlijolgaaGreatDoorTRc10
import Derived.Test.YtfcljjhlijolgaaGreatDoorTRc11
import Derived.Test.YtfcljjhlijolgaaGreatDoorTRc20
import Derived.Test.YtfcljjhlijolgaaGreatDoorTRc21
import Derived.Test.YtfcljjhlijolgaaGreatDoorTRc30
import Derived.Test.YtfcljjhlijolgaaGreatDoorTRc31
import Derived.Test.YtfcljjhlijolgaaGreatDoorTRc40
import Derived.Test.YtfcljjhlijolgaaGreatDoorTRc41
import Derived.Test.YtfcljjhlijolgaaGreatDoorTRc50
import Derived.Test.YtfcljjhlijolgaaGreatDoorTRc51
import Derived.Test.YtfcljjhlijolgaaGreatDoorTRF
import Derived.Test.YtfcljjhlijolgaaGreatDoorB4
import Derived.LaidMore
import Derived.Stop.Joined
import Derived.SevenTiedAt
import Derived.Test.YtfcljjhlijolgaaGreatDoorCards
import Derived.Test.YtfcljjhlijolgaaGreatDoorTie
import Derived.Test.YtfcljjhlijolgaaGreatDoorRows
import Derived.WalkKit
import Derived.ProofKit
import Derived.OpenShut
import Derived.ShutString
import Derived.ChangeOld
import Derived.Below
import Derived.SizedLaws
import Derived.Carry
import Derived.ChangeSlices
namespace Go.Proofs.YtfcljjhlijolgaaGreatDoor.topReads
open Go.ChangeShapes Go.WideShapes Go.ChangeAt Go.RowKit
open Go.ChangeMaps (open_string shut_string)
open Eng
set_option linter.unusedVariables false
set_option linter.unusedSimpArgs false

theorem walk (n x : Nat) (W : World) (hn : n < 256) (hx : x < 256) : Calls Tryz.prog 3 #[.int .u8 (.ofNat n), .int .u8 (.ofNat x)] W fun e W' => e = .returned (.bool true) ∧ Below W.heap.size W W' := by
  have h6 : n % 6 < 6 := Nat.mod_lt _ (by decide)
  rcases Nat.lt_or_ge x 128 with h1 | h1
  · rcases (show n % 6 = 0 ∨ n % 6 = 1 ∨ n % 6 = 2 ∨ n % 6 = 3 ∨ n % 6 = 4 ∨ n % 6 = 5 by omega) with h | h | h | h | h | h
    · exact c00 hn h (Nat.zero_le _) h1 W
    · exact c10 hn h (Nat.zero_le _) h1 W
    · exact c20 hn h (Nat.zero_le _) h1 W
    · exact c30 hn h (Nat.zero_le _) h1 W
    · exact c40 hn h (Nat.zero_le _) h1 W
    · exact c50 hn h (Nat.zero_le _) h1 W
  · rcases (show n % 6 = 0 ∨ n % 6 = 1 ∨ n % 6 = 2 ∨ n % 6 = 3 ∨ n % 6 = 4 ∨ n % 6 = 5 by omega) with h | h | h | h | h | h
    · exact c01 hn h h1 hx W
    · exact c11 hn h h1 hx W
    · exact c21 hn h h1 hx W
    · exact c31 hn h h1 hx W
    · exact c41 hn h h1 hx W
    · exact c51 hn h h1 hx W
theorem own : ownKnob Tryz.prog.godebug = none := by kernel_rfl
theorem door_met (os : Os) (args : Array Value) : laidMetH Tryz.prog Rows.topReadsRow.laid ((World.doorLaid Tryz.prog 400 os).forCall (fun _ _ => 0) ⟨#[], args, []⟩).memory :=
  laidMetH_of_parts3 (fuel := 8) (laidMet_of_run' 8 (by kernel_rfl) (by kernel_rfl)) (by kernel_rfl) (by kernel_rfl)
set_option maxRecDepth 100000 in
set_option maxHeartbeats 1000000 in
theorem lifted (os : Os) (started : os.Started) (H : Type) (enc : TypeId × Value → H) :
    ReturnsInHanded {} Tryz.checked os 3 .any (fun w args => (Rows.topReadsSpec.pre enc Tryz.prog Tryz.f3 [] false w args ∧ laidMetH Tryz.prog Rows.topReadsRow.laid w) ∧ sizedMet enc Tryz.prog Tryz.f3 (OpenSpec.ofChange Rows.topReadsSpec) false w args)
      (Rows.topReadsSpec.post enc Tryz.prog Tryz.f3 false true false false) := by
  refine returnsInHanded_of_change_and (C := Tryz.checked) (X := fun w _ => laidMetH Tryz.prog Rows.topReadsRow.laid w) (fun _ _ _ hh h => h.of_heap hh) own started (by kernel_rfl) Tryz.func3
    (ChangeSpec.witness_shaped (enc := enc) (C := Tryz.checked) (os := os) (X := fun w _ => laidMetH Tryz.prog Rows.topReadsRow.laid w) false (World.doorLaid Tryz.prog 400 os) #[.int .u8 0, .int .u8 0] 8 rfl (World.shaped_of_RefB (by kernel_rfl) (by kernel_rfl)) (by kernel_rfl) (by kernel_rfl) (by kernel_rfl) (door_met os _)) ?_
  intro W base args ds gs before hval0 hW _ hsz0 _ _
  have hval : ∀ (j : Nat) t v, Tryz.f3.params[j]? = some t → args[j]? = some v → Value.okWide Tryz.prog W .any base t v := hval0
  have hW' := hW
  obtain ⟨p, q, hA0, hV, rfl, hfz, hnd⟩ := hW
  have hA : DataW.TrodAll enc Tryz.prog W 0 (fun _ => true) true Tryz.f3.params.toList args.toList ds p := hA0
  rw [Tryz.params3] at hA hval
  obtain ⟨rfl, rfl⟩ := trodVars_none hV
  simp only [List.append_nil] at hW'
  obtain ⟨v0, vs0, d0, ds0, p0, q0, hargs, rfl, rfl, h0, r0⟩ := trodAll_cons hA
  obtain ⟨v1, vs1, d1, ds1, p1, q1, rfl, rfl, rfl, h1, r1⟩ := trodAll_cons r0
  obtain ⟨rfl, rfl, rfl⟩ := trodAll_nil r1
  obtain rfl : args = #[v0, v1] := by cases args; simp_all
  clear hA0 hval0 hsz0
  obtain ⟨y0, rfl, rfl, rfl, w0⟩ := open_int Tryz.underlying5 (hval 0 5 v0 rfl rfl) h0
  obtain ⟨x0, rfl, f0⟩ := u8_wf w0
  obtain ⟨y1, rfl, rfl, rfl, w1⟩ := open_int Tryz.underlying5 (hval 1 5 v1 rfl rfl) h1
  obtain ⟨x1, rfl, f1⟩ := u8_wf w1
  refine (walk x0 x1 W f0 f1).mono fun e W' ⟨he, bel⟩ => ?_
  subst he
  exact ⟨_, rfl, _, _, _, [], _, [], hW', trodAll_mk1 (shut_bool Tryz.underlying4 _), (trodAll_cons_mk (shut_int Tryz.underlying5 w0) (trodAll_cons_mk (shut_int Tryz.underlying5 w1) trodAll_mk0)), rfl, bel.frame _, fun h => by cases h⟩
theorem gfn : Tryz.pinned.checked.prog.funcNamed Rows.topReadsRow.func = some 3 := by kernel_rfl
theorem ginst : Tryz.f3.isInstance Tryz.pinned.checked.prog Rows.topReadsRow.origin Rows.topReadsRow.targs := of_decide_eq_true (by kernel_rfl)
theorem gwrap : Tryz.f3.isWrapper Tryz.pinned.checked.prog Rows.topReadsRow.wrapper Rows.topReadsRow.mainSum := by unfold Func.isWrapper; first | (rw [if_pos (by decide +kernel)]; kernel_rfl) | (rw [if_neg (by decide +kernel)]; exact ⟨rfl, rfl⟩)
theorem over : Rows.topReadsRow.holds Tryz.pinned (OpenSpec.ofChange Rows.topReadsSpec) :=
  OpenClaim.holds_of_wide 3 Tryz.f3 rfl rfl rfl rfl rfl rfl rfl ⟨rfl, rfl, rfl, rfl, rfl⟩ rfl rfl rfl rfl rfl gfn Tryz.func3 closed ginst gwrap
    (fun os started H enc _ => lifted os started H enc)
theorem gwf : Rows.topReadsRow.wfByText (OpenSpec.ofChange Rows.topReadsSpec) = true := by kernel_rfl
theorem gmain : Tryz.pinned.checked.prog.mainIs = some ((true, "34fa7890942a5859727b2863b86f0dc625530302953ce95b5905c61d30cd137f").1, (true, "34fa7890942a5859727b2863b86f0dc625530302953ce95b5905c61d30cd137f").2.toList) := by kernel_rfl
theorem glooks : false = Tryz.pinned.checked.prog.looks [] := by kernel_rfl
theorem gstand : ([5, 5].all fun u => !Tryz.pinned.checked.prog.wantsStandIn u) = true := by kernel_rfl
theorem gall : Tryz.pinned.checked.prog.funcs.any Func.goes = false := by kernel_rfl
theorem ggoes : false = Rows.topReadsRow.goesBy Tryz.pinned.checked.prog := goes_of rfl gfn gall
theorem proved : Rows.TopReadsCardSaid :=
  Claim7.holds_tied_plain_at .later [] [.data, .data] true (true, "34fa7890942a5859727b2863b86f0dc625530302953ce95b5905c61d30cd137f") false over (fun _ h => by cases h) gwf (fun _ h => by cases h) topReads_row_tie rfl ⟨rfl, rfl⟩ gmain rfl
    (fun f fn hf hfn => by
      obtain rfl : f = 3 := Option.some.inj (gfn.symm.trans hf) |>.symm
      obtain rfl : fn = Tryz.f3 := (Option.some.inj (Tryz.func3.symm.trans hfn)).symm
      exact ⟨glooks, fun j t ht => by
        rw [Tryz.params3] at ht
        have hm : t ∈ [5, 5] := by simpa using Array.mem_of_getElem? ht
        exact (show Tryz.pinned.checked.prog.wantsStandIn t = false by simpa using List.all_eq_true.1 gstand t hm)⟩)
    ggoes
end Go.Proofs.YtfcljjhlijolgaaGreatDoor.topReads
