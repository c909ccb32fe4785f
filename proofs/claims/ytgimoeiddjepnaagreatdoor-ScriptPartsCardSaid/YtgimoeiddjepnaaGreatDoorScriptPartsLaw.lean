/- Proved: for all steps a and b and every cut, the call of cloakroomlaw30.ScriptParts returns true and leaves its arguments alone. Condition: none. -/
import Derived.Test.YtgimoeiddjepnaaGreatDoorB5
import Derived.LaidMore
import Derived.Stop.Joined
import Derived.SevenTiedAt
import Derived.Test.YtgimoeiddjepnaaGreatDoorCards
import Derived.Test.YtgimoeiddjepnaaGreatDoorTie
import Derived.Test.YtgimoeiddjepnaaGreatDoorRows
import Derived.WalkKit
import Derived.ProofKit
import Derived.OpenShut
import Derived.ShutString
import Derived.ChangeOld
import Derived.Below
import Derived.SizedLaws
import Derived.Carry
import Derived.ChangeSlices
namespace Go.Proofs.YtgimoeiddjepnaaGreatDoor.scriptParts
open Go.ChangeShapes Go.WideShapes Go.ChangeAt Go.RowKit
open Go.ChangeMaps (open_string shut_string)
open Eng
set_option linter.unusedVariables false
set_option linter.unusedSimpArgs false

abbrev ks : List IntKind := [.i64, .i64, .i64, .i64]
abbrev stepR := rP (rZ .i64) (rP (rZ .i64) (rP (rZ .i64) (rP (rZ .i64) rY)))
def stepV (e : EArg) : Stp := (e.ns.getD 0 0, e.ns.getD 1 0, e.ns.getD 2 0, e.ns.getD 3 0, e.y.l)
theorem form : SForm Tryz.prog 36 ks := by
  refine ⟨⟨_, Tryz.underlying36, fun i k hk => ?_, ?_⟩, by kernel_rfl⟩
  · rcases i with _ | _ | _ | _ | i
    · cases hk; exact ⟨_, rfl, rfl, by kernel_rfl, Tryz.underlying3⟩
    · cases hk; exact ⟨_, rfl, rfl, by kernel_rfl, Tryz.underlying3⟩
    · cases hk; exact ⟨_, rfl, rfl, by kernel_rfl, Tryz.underlying3⟩
    · cases hk; exact ⟨_, rfl, rfl, by kernel_rfl, Tryz.underlying3⟩
    · simp at hk
  · exact ⟨_, 5, rfl, rfl, by kernel_rfl, Tryz.underlying22, Tryz.underlying5, by kernel_rfl⟩
theorem rep {w : World} {h : Hp} (e : EArg) (y : AV) (he : e.lies w ks) (hb : BIn (Low h) h y e.y.l) : stepR.rep (Low h) h (numsA ks e.ns ++ [y]) (stepV e) := by
  obtain ⟨ns, ya⟩ := e
  have hl : ns.length = 4 := he.1
  match ns, hl with
  | [n0, n1, n2, n3], _ =>
    exact ⟨[.int .i64 n0], _, rfl, rfl, [.int .i64 n1], _, rfl, rfl, [.int .i64 n2], _, rfl, rfl, [.int .i64 n3], _, rfl, rfl, y, rfl, hb⟩
theorem piece_v (a : SArg) : (a.piece ks).v = a.v := by unfold SArg.piece; split <;> rfl
theorem low_bytes {w : World} {a : SArg} (l : a.lies w ks) : ∀ x ∈ a.es.map stepV, ∀ y ∈ x.2.2.2.2, y < 256 := fun x hx => by
  obtain ⟨e, he, rfl⟩ := List.mem_map.1 hx
  exact (l.1 e he).2.2.1
theorem walk (a0 a1 : SArg) (x2 : Nat) (W : World) (l0 : a0.lies W ks) (l1 : a1.lies W ks) (f2 : x2 < 256) (m0 : a0.es.length ≤ maxLen) (m1 : a1.es.length ≤ maxLen) :
    Calls Tryz.prog 4 #[a0.v, a1.v, .int .u8 (.ofNat x2)] W fun e W' => e = .returned (.bool true) ∧ Below W.heap.size W W' := by
  obtain ⟨μ, h, hs, hm, hp⟩ := start_pieces (w := W) [a0.piece ks, a1.piece ks] (by
    intro p hp
    rcases List.mem_cons.1 hp with rfl | hp
    · exact SArg.ok l0
    · rw [List.mem_singleton.1 hp]; exact SArg.ok l1)
  obtain ⟨B0, r0, g0⟩ := hp 0 _ rfl
  obtain ⟨B1, r1, g1⟩ := hp 1 _ rfl
  have s0 := SArg.sin l0 stepR stepV rfl g0 rep
  have s1 := SArg.sin l1 stepR stepV rfl g1 rep
  rw [piece_v] at r0 r1
  have hmax : maxLen < 9223372036854775808 := by decide
  let K := a0.es.length + a1.es.length
  have len0 : (a0.es.map stepV).length = a0.es.length := List.length_map _
  have len1 : (a1.es.map stepV).length = a1.es.length := List.length_map _
  obtain ⟨rv, rh, e, hr⟩ := lawparts_w (call := CC K 10) (N := 100000 + K) s0 s1 f2 (evF_sum (by decide)) (s_decode K 5) (s_encode K 4) (s_samesteps K 9) (s_light K 9)
    (lawparts_true K _ _ x2 (low_bytes l0) (low_bytes l1) (by omega) (by omega) (by omega) (by omega))
  have hr : rv = .bool true := hr
  subst hr
  refine start_law compDrawn_ok (sumT_ok trues) (N := 100000 + K) (d := 11) hs hm (args := [(a0.piece ks).av B0, (a1.piece ks).av B1, .int .u8 (.ofNat x2)]) ?_ (by rw [evF_at (sumT_none rfl)]; exact e)
  rw [VRs_cons]; refine ⟨_, _, rfl, r0, ?_⟩
  rw [VRs_cons]; refine ⟨_, _, rfl, r1, ?_⟩
  rw [VRs_cons]; exact ⟨_, _, rfl, by rw [VR_int], by rw [VRs_nil]⟩
theorem laidOut : laidOutB Tryz.prog = true := by kernel_rfl
theorem own : ownKnob Tryz.prog.godebug = none := by kernel_rfl
theorem door_met (os : Os) (args : Array Value) : laidMetH Tryz.prog Rows.scriptPartsRow.laid ((World.doorLaid Tryz.prog 400 os).forCall (fun _ _ => 0) ⟨#[], args, []⟩).memory :=
  laidMetH_of_parts3 (fuel := 8) (laidMet_of_run' 8 (by kernel_rfl) (by kernel_rfl)) (by kernel_rfl) (by kernel_rfl)
set_option maxRecDepth 100000 in
set_option maxHeartbeats 1000000 in
theorem lifted (os : Os) (started : os.Started) (H : Type) (enc : TypeId × Value → H) :
    ReturnsInHanded {} Tryz.checked os 4 .any (fun w args => (Rows.scriptPartsSpec.pre enc Tryz.prog Tryz.f4 [] false w args ∧ laidMetH Tryz.prog Rows.scriptPartsRow.laid w) ∧ sizedMet enc Tryz.prog Tryz.f4 (OpenSpec.ofChange Rows.scriptPartsSpec) false w args)
      (Rows.scriptPartsSpec.post enc Tryz.prog Tryz.f4 false true false false) := by
  refine returnsInHanded_of_change_and (C := Tryz.checked) (X := fun w _ => laidMetH Tryz.prog Rows.scriptPartsRow.laid w) (fun _ _ _ hh h => h.of_heap hh) own started (by kernel_rfl) Tryz.func4
    (ChangeSpec.witness_shaped (enc := enc) (C := Tryz.checked) (os := os) (X := fun w _ => laidMetH Tryz.prog Rows.scriptPartsRow.laid w) false (World.doorLaid Tryz.prog 400 os) #[.slice none 0 0, .slice none 0 0, .int .u8 0] 8 rfl (World.shaped_of_RefB (by kernel_rfl) (by kernel_rfl)) (by kernel_rfl) (by kernel_rfl) (by kernel_rfl) (door_met os _)) ?_
  intro W base args ds gs before hval0 hW _ hsz0 _ _
  have hval : ∀ (j : Nat) t v, Tryz.f4.params[j]? = some t → args[j]? = some v → Value.okWide Tryz.prog W .any base t v := hval0
  have hW' := hW
  obtain ⟨p, q, hA0, hV, rfl, hfz, hnd⟩ := hW
  have hA : DataW.TrodAll enc Tryz.prog W 0 (fun _ => true) true Tryz.f4.params.toList args.toList ds p := hA0
  rw [Tryz.params4] at hA hval
  obtain ⟨rfl, rfl⟩ := trodVars_none hV
  simp only [List.append_nil] at hW'
  obtain ⟨v0, vs0, d0, ds0, p0, q0, hargs, rfl, rfl, h0, r0⟩ := trodAll_cons hA
  obtain ⟨v1, vs1, d1, ds1, p1, q1, rfl, rfl, rfl, h1, r1⟩ := trodAll_cons r0
  obtain ⟨v2, vs2, d2, ds2, p2, q2, rfl, rfl, rfl, h2, r2⟩ := trodAll_cons r1
  obtain ⟨rfl, rfl, rfl⟩ := trodAll_nil r2
  obtain rfl : args = #[v0, v1, v2] := by cases args; simp_all
  have hlt : ∀ x ∈ p0 ++ p1 ++ p2, x.block < W.heap.size := fun x hx => by simpa using hW'.lt x (by simpa using hx)
  obtain ⟨a0, rfl, l0, m0⟩ := sarg_of Tryz.underlying24 form h0 (hval 0 24 _ rfl rfl)
  obtain ⟨a1, rfl, l1, m1⟩ := sarg_of Tryz.underlying24 form h1 (hval 1 24 _ rfl rfl)
  obtain ⟨y2, rfl, rfl, rfl, w2⟩ := open_int Tryz.underlying5 (hval 2 5 v2 rfl rfl) h2
  obtain ⟨x2, rfl, f2⟩ := u8_wf w2
  refine (walk a0 a1 x2 W l0 l1 f2 m0 m1).mono fun e W' ⟨he, bel⟩ => ?_
  subst he
  have t0 := Below.trod laidOut (by kernel_rfl) (of_decide_eq_true (by kernel_rfl)) h0 bel (fun x hx => hlt x (by simp [hx]))
  have t1 := Below.trod laidOut (by kernel_rfl) (of_decide_eq_true (by kernel_rfl)) h1 bel (fun x hx => hlt x (by simp [hx]))
  exact ⟨_, rfl, _, _, _, [], _, [], hW', trodAll_mk1 (shut_bool Tryz.underlying4 _), (trodAll_cons_mk t0 (trodAll_cons_mk t1 (trodAll_cons_mk (shut_int Tryz.underlying5 w2) trodAll_mk0))), rfl, bel.frame _, fun h => by cases h⟩

theorem gfn : Tryz.pinned.checked.prog.funcNamed Rows.scriptPartsRow.func = some 4 := by kernel_rfl
theorem ginst : Tryz.f4.isInstance Tryz.pinned.checked.prog Rows.scriptPartsRow.origin Rows.scriptPartsRow.targs := of_decide_eq_true (by kernel_rfl)
theorem gwrap : Tryz.f4.isWrapper Tryz.pinned.checked.prog Rows.scriptPartsRow.wrapper Rows.scriptPartsRow.mainSum := by unfold Func.isWrapper; first | (rw [if_pos (by decide +kernel)]; kernel_rfl) | (rw [if_neg (by decide +kernel)]; exact ⟨rfl, rfl⟩)
theorem over : Rows.scriptPartsRow.holds Tryz.pinned (OpenSpec.ofChange Rows.scriptPartsSpec) :=
  OpenClaim.holds_of_wide 4 Tryz.f4 rfl rfl rfl rfl rfl rfl rfl ⟨rfl, rfl, rfl, rfl, rfl⟩ rfl rfl rfl rfl rfl gfn Tryz.func4 closed ginst gwrap
    (fun os started H enc _ => lifted os started H enc)
theorem gwf : Rows.scriptPartsRow.wfByText (OpenSpec.ofChange Rows.scriptPartsSpec) = true := by kernel_rfl
theorem gmain : Tryz.pinned.checked.prog.mainIs = some ((true, "9d884320680c5b6514c05563a2df0507730458eb14d1481f1232358ea24317b5").1, (true, "9d884320680c5b6514c05563a2df0507730458eb14d1481f1232358ea24317b5").2.toList) := by kernel_rfl
theorem glooks : false = Tryz.pinned.checked.prog.looks [] := by kernel_rfl
theorem gstand : ([24, 5].all fun u => !Tryz.pinned.checked.prog.wantsStandIn u) = true := by kernel_rfl
theorem gall : Tryz.pinned.checked.prog.funcs.any Func.goes = false := by kernel_rfl
theorem ggoes : false = Rows.scriptPartsRow.goesBy Tryz.pinned.checked.prog := goes_of rfl gfn gall
theorem proved : Rows.ScriptPartsCardSaid :=
  Claim7.holds_tied_plain_at .later [] [.data, .data] true (true, "9d884320680c5b6514c05563a2df0507730458eb14d1481f1232358ea24317b5") false over (fun _ h => by cases h) gwf (fun _ h => by cases h) scriptParts_row_tie rfl ⟨rfl, rfl⟩ gmain rfl
    (fun f fn hf hfn => by
      obtain rfl : f = 4 := Option.some.inj (gfn.symm.trans hf) |>.symm
      obtain rfl : fn = Tryz.f4 := (Option.some.inj (Tryz.func4.symm.trans hfn)).symm
      exact ⟨glooks, fun j t ht => by
        rw [Tryz.params4] at ht
        have hm : t ∈ [24, 5] := by simpa using Array.mem_of_getElem? ht
        exact (show Tryz.pinned.checked.prog.wantsStandIn t = false by simpa using List.all_eq_true.1 gstand t hm)⟩)
    ggoes
end Go.Proofs.YtgimoeiddjepnaaGreatDoor.scriptParts
