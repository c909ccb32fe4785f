/- Proved: for all bytes b, the call of cloakroomlaw30.ScriptBack returns true and leaves its arguments alone. Condition: none. -/
import Derived.Test.YtgimoeiddjepnaaGreatDoorB4
import Derived.LaidMore
import Derived.Stop.Joined
import Derived.SevenTiedAt
import Derived.Test.YtgimoeiddjepnaaGreatDoorCards
import Derived.Test.YtgimoeiddjepnaaGreatDoorTie
import Derived.Test.YtgimoeiddjepnaaGreatDoorRows
import Derived.WalkKit
import Derived.ProofKit
import Derived.OpenShut
import Derived.ShutString
import Derived.ChangeOld
import Derived.Below
import Derived.SizedLaws
import Derived.Carry
import Derived.ChangeSlices
namespace Go.Proofs.YtgimoeiddjepnaaGreatDoor.scriptBack
open Go.ChangeShapes Go.WideShapes Go.ChangeAt Go.RowKit
open Go.ChangeMaps (open_string shut_string)
open Eng
set_option linter.unusedVariables false
set_option linter.unusedSimpArgs false

theorem law_walk {call : CallT} {N : Nat} {h : Hp} {va : AV} {l : List Nat} (b0 : Bytes h.next h va l) (h_begun : TrueS call 5) (h_decode : C_decode call) (h_encode : C_encode call) (h_samesteps : C_samesteps call) :
    ∃ rv rh, evF1 (progS Tryz.prog (compDrawn Tryz.prog)) N call 3 [va] h = .ok rv rh ∧ (fun (v : AV) (_ : Hp) => v = .bool true) rv rh := by
  obtain ⟨rv, rh, e, k⟩ := lawback_w (call := call) (N := N) (BIn.of b0) h_begun h_decode h_encode h_samesteps (lawback_true b0.lt)
  exact ⟨rv, rh, e, k.1⟩
theorem walk (a0 : BArg) (W : World) (l0 : a0.lies W) (n0 : a0.l.length ≤ 140737488351232) :
    Calls Tryz.prog 3 #[a0.v] W fun e W' => e = .returned (.bool true) ∧ Below W.heap.size W W' := by
  obtain ⟨μ, h, vs, hs, hm, hn, hvs, _⟩ := start_bytes (w := W) [a0] (by simp only [List.mem_cons, List.not_mem_nil, or_false]; rintro a (rfl) <;> assumption)
  obtain ⟨vb0, rfl⟩ : ∃ vb0, vs = [vb0] := by
    match vs, hn with
    | [vb0], _ => exact ⟨vb0, rfl⟩
  obtain ⟨r0, b0⟩ := hvs 0 vb0 a0 rfl rfl
  obtain ⟨rv, rh, e, hr⟩ := law_walk (call := CC 10) (N := 100000) (h := h) b0 (evF_sum (by decide)) (s_decode 5) (s_encode 4) (s_samesteps 9)
  have hr : rv = .bool true := hr
  subst hr
  refine start_law compDrawn_ok (sumT_ok trues) (N := 100000) (d := 11) hs hm (args := [vb0]) ?_ (by rw [evF_at (sumT_none rfl)]; exact e)
  rw [VRs_cons]; exact ⟨_, _, rfl, r0, by rw [VRs_nil]⟩
theorem laidOut : laidOutB Tryz.prog = true := by kernel_rfl
theorem own : ownKnob Tryz.prog.godebug = none := by kernel_rfl
theorem door_met (os : Os) (args : Array Value) : laidMetH Tryz.prog Rows.scriptBackRow.laid ((World.doorLaid Tryz.prog 400 os).forCall (fun _ _ => 0) ⟨#[], args, []⟩).memory :=
  laidMetH_of_parts3 (fuel := 8) (laidMet_of_run' 8 (by kernel_rfl) (by kernel_rfl)) (by kernel_rfl) (by kernel_rfl)
set_option maxRecDepth 100000 in
set_option maxHeartbeats 1000000 in
theorem lifted (os : Os) (started : os.Started) (H : Type) (enc : TypeId × Value → H) :
    ReturnsInHanded {} Tryz.checked os 3 .any (fun w args => (Rows.scriptBackSpec.pre enc Tryz.prog Tryz.f3 [] false w args ∧ laidMetH Tryz.prog Rows.scriptBackRow.laid w) ∧ sizedMet enc Tryz.prog Tryz.f3 (OpenSpec.ofChange Rows.scriptBackSpec) false w args)
      (Rows.scriptBackSpec.post enc Tryz.prog Tryz.f3 false true false false) := by
  refine returnsInHanded_of_change_and (C := Tryz.checked) (X := fun w _ => laidMetH Tryz.prog Rows.scriptBackRow.laid w) (fun _ _ _ hh h => h.of_heap hh) own started (by kernel_rfl) Tryz.func3
    (ChangeSpec.witness_shaped (enc := enc) (C := Tryz.checked) (os := os) (X := fun w _ => laidMetH Tryz.prog Rows.scriptBackRow.laid w) false (World.doorLaid Tryz.prog 400 os) #[.slice none 0 0] 8 rfl (World.shaped_of_RefB (by kernel_rfl) (by kernel_rfl)) (by kernel_rfl) (by kernel_rfl) (by kernel_rfl) (door_met os _)) ?_
  intro W base args ds gs before hval0 hW _ hsz0 _ _
  have hval : ∀ (j : Nat) t v, Tryz.f3.params[j]? = some t → args[j]? = some v → Value.okWide Tryz.prog W .any base t v := hval0
  have hW' := hW
  obtain ⟨p, q, hA0, hV, rfl, hfz, hnd⟩ := hW
  have hA : DataW.TrodAll enc Tryz.prog W 0 (fun _ => true) true Tryz.f3.params.toList args.toList ds p := hA0
  rw [Tryz.params3] at hA hval
  obtain ⟨rfl, rfl⟩ := trodVars_none hV
  simp only [List.append_nil] at hW'
  obtain ⟨v0, vs0, d0, ds0, p0, q0, hargs, rfl, rfl, h0, r0⟩ := trodAll_cons hA
  obtain ⟨rfl, rfl, rfl⟩ := trodAll_nil r0
  obtain rfl : args = #[v0] := by cases args; simp_all
  have hlt : ∀ x ∈ p0, x.block < W.heap.size := fun x hx => by simpa using hW'.lt x (by simpa using hx)
  have hwt : ∀ (j : Nat) t d, (Tryz.f3.params.toList)[j]? = some t → ([d0])[j]? = some d → ∀ n ∈ d.weights Tryz.prog t, n ≤ reachBytes := fun j t d e1 e2 n hn => by
    have := List.all_eq_true.1 hsz0 _ (DataW.weights_mem_each (P := Tryz.prog) (ts := Tryz.f3.params.toList ++ _) (j := j) (t := t) (d := d) (by rw [List.getElem?_append_left (List.getElem?_eq_some_iff.1 e1).1]; exact e1) (by rw [List.getElem?_append_left (List.getElem?_eq_some_iff.1 e2).1]; exact e2) n hn)
    simpa using this
  obtain ⟨a0, rfl, l0, n0⟩ := bytes_argW Tryz.underlying22 Tryz.underlying5 (by kernel_rfl) (by kernel_rfl) (hwt 0 _ _ (by kernel_rfl) rfl) h0 (hval 0 22 _ rfl rfl)
  refine (walk a0 W l0 n0).mono fun e W' ⟨he, bel⟩ => ?_
  subst he
  have t0 := Below.trod laidOut (by kernel_rfl) (of_decide_eq_true (by kernel_rfl)) h0 bel (fun x hx => hlt x (by simp [hx]))
  exact ⟨_, rfl, _, _, _, [], _, [], hW', trodAll_mk1 (shut_bool Tryz.underlying4 _), (trodAll_cons_mk t0 trodAll_mk0), rfl, bel.frame _, fun h => by cases h⟩

theorem gfn : Tryz.pinned.checked.prog.funcNamed Rows.scriptBackRow.func = some 3 := by kernel_rfl
theorem ginst : Tryz.f3.isInstance Tryz.pinned.checked.prog Rows.scriptBackRow.origin Rows.scriptBackRow.targs := of_decide_eq_true (by kernel_rfl)
theorem gwrap : Tryz.f3.isWrapper Tryz.pinned.checked.prog Rows.scriptBackRow.wrapper Rows.scriptBackRow.mainSum := by unfold Func.isWrapper; first | (rw [if_pos (by decide +kernel)]; kernel_rfl) | (rw [if_neg (by decide +kernel)]; exact ⟨rfl, rfl⟩)
theorem over : Rows.scriptBackRow.holds Tryz.pinned (OpenSpec.ofChange Rows.scriptBackSpec) :=
  OpenClaim.holds_of_wide 3 Tryz.f3 rfl rfl rfl rfl rfl rfl rfl ⟨rfl, rfl, rfl, rfl, rfl⟩ rfl rfl rfl rfl rfl gfn Tryz.func3 closed ginst gwrap
    (fun os started H enc _ => lifted os started H enc)
theorem gwf : Rows.scriptBackRow.wfByText (OpenSpec.ofChange Rows.scriptBackSpec) = true := by kernel_rfl
theorem gmain : Tryz.pinned.checked.prog.mainIs = some ((true, "9d884320680c5b6514c05563a2df0507730458eb14d1481f1232358ea24317b5").1, (true, "9d884320680c5b6514c05563a2df0507730458eb14d1481f1232358ea24317b5").2.toList) := by kernel_rfl
theorem glooks : false = Tryz.pinned.checked.prog.looks [] := by kernel_rfl
theorem gstand : ([22].all fun u => !Tryz.pinned.checked.prog.wantsStandIn u) = true := by kernel_rfl
theorem gall : Tryz.pinned.checked.prog.funcs.any Func.goes = false := by kernel_rfl
theorem ggoes : false = Rows.scriptBackRow.goesBy Tryz.pinned.checked.prog := goes_of rfl gfn gall
theorem proved : Rows.ScriptBackCardSaid :=
  Claim7.holds_tied_plain_at .later [] [.data, .data] true (true, "9d884320680c5b6514c05563a2df0507730458eb14d1481f1232358ea24317b5") false over (fun _ h => by cases h) gwf (fun _ h => by cases h) scriptBack_row_tie rfl ⟨rfl, rfl⟩ gmain rfl
    (fun f fn hf hfn => by
      obtain rfl : f = 3 := Option.some.inj (gfn.symm.trans hf) |>.symm
      obtain rfl : fn = Tryz.f3 := (Option.some.inj (Tryz.func3.symm.trans hfn)).symm
      exact ⟨glooks, fun j t ht => by
        rw [Tryz.params3] at ht
        have hm : t ∈ [22] := by simpa using Array.mem_of_getElem? ht
        exact (show Tryz.pinned.checked.prog.wantsStandIn t = false by simpa using List.all_eq_true.1 gstand t hm)⟩)
    ggoes
end Go.Proofs.YtgimoeiddjepnaaGreatDoor.scriptBack
