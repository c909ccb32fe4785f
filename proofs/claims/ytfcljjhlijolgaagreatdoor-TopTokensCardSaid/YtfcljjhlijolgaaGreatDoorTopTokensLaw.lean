/- Proved: for every token and all bytes x and y, the call of the law TopTokens returns true and leaves its arguments alone. Condition: none. -/
import Derived.Test.YtfcljjhlijolgaaGreatDoorTKc0
import Derived.Test.YtfcljjhlijolgaaGreatDoorTKc1
import Derived.Test.YtfcljjhlijolgaaGreatDoorTKc2
import Derived.Test.YtfcljjhlijolgaaGreatDoorTKc3
import Derived.Test.YtfcljjhlijolgaaGreatDoorTKc4
import Derived.Test.YtfcljjhlijolgaaGreatDoorTKc5
import Derived.Test.YtfcljjhlijolgaaGreatDoorTKF
import Derived.Test.YtfcljjhlijolgaaGreatDoorB4
import Derived.LaidMore
import Derived.Stop.Joined
import Derived.SevenTiedAt
import Derived.Test.YtfcljjhlijolgaaGreatDoorCards
import Derived.Test.YtfcljjhlijolgaaGreatDoorTie
import Derived.Test.YtfcljjhlijolgaaGreatDoorRows
import Derived.WalkKit
import Derived.ProofKit
import Derived.OpenShut
import Derived.ShutString
import Derived.ChangeOld
import Derived.Below
import Derived.SizedLaws
import Derived.Carry
import Derived.ChangeSlices
namespace Go.Proofs.YtfcljjhlijolgaaGreatDoor.topTokens
open Go.ChangeShapes Go.WideShapes Go.ChangeAt Go.RowKit
open Go.ChangeMaps (open_string shut_string)
open Eng
set_option linter.unusedVariables false
set_option linter.unusedSimpArgs false

theorem walk (t x y : Nat) (W : World) (ht : t < 18446744073709551616) (hx : x < 256) (hy : y < 256) : Calls Tryz.prog 9 #[.int .u64 (.ofNat t), .int .u8 (.ofNat x), .int .u8 (.ofNat y)] W fun e W' => e = .returned (.bool true) ∧ Below W.heap.size W W' := by
  rcases Nat.eq_zero_or_pos t with rfl | h0
  · exact c0 W
  · rcases Nat.lt_or_ge x 128 with h1 | h1
    · rcases Nat.lt_or_ge y 128 with h2 | h2
      · rcases Nat.lt_or_ge (x + y) 128 with h3 | h3
        · exact c1 h0 ht hx hy h1 h2 h3 W
        · exact c2 h0 ht hx hy h1 h2 h3 W
      · exact c4 h0 ht hx hy h1 h2 (by omega) W
    · rcases Nat.lt_or_ge y 128 with h2 | h2
      · exact c3 h0 ht hx hy h1 h2 (by omega) W
      · exact c5 h0 ht hx hy h1 h2 (by omega) W
theorem own : ownKnob Tryz.prog.godebug = none := by kernel_rfl
theorem door_met (os : Os) (args : Array Value) : laidMetH Tryz.prog Rows.topTokensRow.laid ((World.doorLaid Tryz.prog 400 os).forCall (fun _ _ => 0) ⟨#[], args, []⟩).memory :=
  laidMetH_of_parts3 (fuel := 8) (laidMet_of_run' 8 (by kernel_rfl) (by kernel_rfl)) (by kernel_rfl) (by kernel_rfl)
set_option maxRecDepth 100000 in
set_option maxHeartbeats 1000000 in
theorem lifted (os : Os) (started : os.Started) (H : Type) (enc : TypeId × Value → H) :
    ReturnsInHanded {} Tryz.checked os 9 .any (fun w args => (Rows.topTokensSpec.pre enc Tryz.prog Tryz.f9 [] false w args ∧ laidMetH Tryz.prog Rows.topTokensRow.laid w) ∧ sizedMet enc Tryz.prog Tryz.f9 (OpenSpec.ofChange Rows.topTokensSpec) false w args)
      (Rows.topTokensSpec.post enc Tryz.prog Tryz.f9 false true false false) := by
  refine returnsInHanded_of_change_and (C := Tryz.checked) (X := fun w _ => laidMetH Tryz.prog Rows.topTokensRow.laid w) (fun _ _ _ hh h => h.of_heap hh) own started (by kernel_rfl) Tryz.func9
    (ChangeSpec.witness_shaped (enc := enc) (C := Tryz.checked) (os := os) (X := fun w _ => laidMetH Tryz.prog Rows.topTokensRow.laid w) false (World.doorLaid Tryz.prog 400 os) #[.int .u64 0, .int .u8 0, .int .u8 0] 8 rfl (World.shaped_of_RefB (by kernel_rfl) (by kernel_rfl)) (by kernel_rfl) (by kernel_rfl) (by kernel_rfl) (door_met os _)) ?_
  intro W base args ds gs before hval0 hW _ hsz0 _ _
  have hval : ∀ (j : Nat) t v, Tryz.f9.params[j]? = some t → args[j]? = some v → Value.okWide Tryz.prog W .any base t v := hval0
  have hW' := hW
  obtain ⟨p, q, hA0, hV, rfl, hfz, hnd⟩ := hW
  have hA : DataW.TrodAll enc Tryz.prog W 0 (fun _ => true) true Tryz.f9.params.toList args.toList ds p := hA0
  rw [Tryz.params9] at hA hval
  obtain ⟨rfl, rfl⟩ := trodVars_none hV
  simp only [List.append_nil] at hW'
  obtain ⟨v0, vs0, d0, ds0, p0, q0, hargs, rfl, rfl, h0, r0⟩ := trodAll_cons hA
  obtain ⟨v1, vs1, d1, ds1, p1, q1, rfl, rfl, rfl, h1, r1⟩ := trodAll_cons r0
  obtain ⟨v2, vs2, d2, ds2, p2, q2, rfl, rfl, rfl, h2, r2⟩ := trodAll_cons r1
  obtain ⟨rfl, rfl, rfl⟩ := trodAll_nil r2
  obtain rfl : args = #[v0, v1, v2] := by cases args; simp_all
  clear hA0 hval0 hsz0
  obtain ⟨y0, rfl, rfl, rfl, w0⟩ := open_int Tryz.underlying31 (hval 0 31 v0 rfl rfl) h0
  obtain ⟨x0, rfl, f0⟩ := u64_wf w0
  obtain ⟨y1, rfl, rfl, rfl, w1⟩ := open_int Tryz.underlying5 (hval 1 5 v1 rfl rfl) h1
  obtain ⟨x1, rfl, f1⟩ := u8_wf w1
  obtain ⟨y2, rfl, rfl, rfl, w2⟩ := open_int Tryz.underlying5 (hval 2 5 v2 rfl rfl) h2
  obtain ⟨x2, rfl, f2⟩ := u8_wf w2
  refine (walk x0 x1 x2 W f0 f1 f2).mono fun e W' ⟨he, bel⟩ => ?_
  subst he
  exact ⟨_, rfl, _, _, _, [], _, [], hW', trodAll_mk1 (shut_bool Tryz.underlying4 _), (trodAll_cons_mk (shut_int Tryz.underlying31 w0) (trodAll_cons_mk (shut_int Tryz.underlying5 w1) (trodAll_cons_mk (shut_int Tryz.underlying5 w2) trodAll_mk0))), rfl, bel.frame _, fun h => by cases h⟩
theorem gfn : Tryz.pinned.checked.prog.funcNamed Rows.topTokensRow.func = some 9 := by kernel_rfl
theorem ginst : Tryz.f9.isInstance Tryz.pinned.checked.prog Rows.topTokensRow.origin Rows.topTokensRow.targs := of_decide_eq_true (by kernel_rfl)
theorem gwrap : Tryz.f9.isWrapper Tryz.pinned.checked.prog Rows.topTokensRow.wrapper Rows.topTokensRow.mainSum := by unfold Func.isWrapper; first | (rw [if_pos (by decide +kernel)]; kernel_rfl) | (rw [if_neg (by decide +kernel)]; exact ⟨rfl, rfl⟩)
theorem over : Rows.topTokensRow.holds Tryz.pinned (OpenSpec.ofChange Rows.topTokensSpec) :=
  OpenClaim.holds_of_wide 9 Tryz.f9 rfl rfl rfl rfl rfl rfl rfl ⟨rfl, rfl, rfl, rfl, rfl⟩ rfl rfl rfl rfl rfl gfn Tryz.func9 closed ginst gwrap
    (fun os started H enc _ => lifted os started H enc)
theorem gwf : Rows.topTokensRow.wfByText (OpenSpec.ofChange Rows.topTokensSpec) = true := by kernel_rfl
theorem gmain : Tryz.pinned.checked.prog.mainIs = some ((true, "34fa7890942a5859727b2863b86f0dc625530302953ce95b5905c61d30cd137f").1, (true, "34fa7890942a5859727b2863b86f0dc625530302953ce95b5905c61d30cd137f").2.toList) := by kernel_rfl
theorem glooks : false = Tryz.pinned.checked.prog.looks [] := by kernel_rfl
theorem gstand : ([31, 5, 5].all fun u => !Tryz.pinned.checked.prog.wantsStandIn u) = true := by kernel_rfl
theorem gall : Tryz.pinned.checked.prog.funcs.any Func.goes = false := by kernel_rfl
theorem ggoes : false = Rows.topTokensRow.goesBy Tryz.pinned.checked.prog := goes_of rfl gfn gall
theorem proved : Rows.TopTokensCardSaid :=
  Claim7.holds_tied_plain_at .later [] [.data, .data] true (true, "34fa7890942a5859727b2863b86f0dc625530302953ce95b5905c61d30cd137f") false over (fun _ h => by cases h) gwf (fun _ h => by cases h) topTokens_row_tie rfl ⟨rfl, rfl⟩ gmain rfl
    (fun f fn hf hfn => by
      obtain rfl : f = 9 := Option.some.inj (gfn.symm.trans hf) |>.symm
      obtain rfl : fn = Tryz.f9 := (Option.some.inj (Tryz.func9.symm.trans hfn)).symm
      exact ⟨glooks, fun j t ht => by
        rw [Tryz.params9] at ht
        have hm : t ∈ [31, 5, 5] := by simpa using Array.mem_of_getElem? ht
        exact (show Tryz.pinned.checked.prog.wantsStandIn t = false by simpa using List.all_eq_true.1 gstand t hm)⟩)
    ggoes
end Go.Proofs.YtfcljjhlijolgaaGreatDoor.topTokens
