/- Proved: for all bytes b, the call of cloakroomlaw7.SectGo returns true and leaves its argument alone. Condition: none. -/
import Derived.Test.YtejiebbbodealaaB4
import Derived.Test.YtejiebbbodealaaRows
import Derived.WalkKit
import Derived.ProofKit
import Derived.OpenShut
import Derived.ShutString
import Derived.ChangeOld
import Derived.Below
import Derived.SizedLaws
import Derived.Carry
import Derived.ChangeSlices
namespace Go.Proofs.Ytejiebbbodealaa.sectGo
open Go.ChangeShapes Go.WideShapes Go.ChangeAt Go.RowKit
open Go.ChangeMaps (open_string shut_string)
open Eng
set_option linter.unusedVariables false
set_option linter.unusedSimpArgs false

theorem law_walk {call : CallT} {N : Nat} {h : Hp} {va : AV} {l : List Nat} (b0 : Bytes h.next h va l) (h_begun : TrueS call 34) (h_utf8 : C_utf8 call) :
    ∃ rv rh, evF1 (progS Try.prog (compDrawn Try.prog)) N call 10 [va] h = .ok rv rh ∧ (fun (v : AV) (_ : Hp) => v = .bool true) rv rh :=
  lawgo_w (call := call) (N := N) (BIn.of b0) h_begun h_utf8 (go_t l b0.lt)
theorem walk (a0 : BArg) (W : World) (l0 : a0.lies W) (n0 : a0.l.length ≤ 140737488351232) :
    Calls Try.prog 10 #[a0.v] W fun e W' => e = .returned (.bool true) ∧ Below W.heap.size W W' := by
  obtain ⟨μ, h, vs, hs, hm, hn, hvs, _⟩ := start_bytes (w := W) [a0] (by simp only [List.mem_cons, List.not_mem_nil, or_false]; rintro a (rfl) <;> assumption)
  obtain ⟨vb0, rfl⟩ : ∃ vb0, vs = [vb0] := by
    match vs, hn with
    | [vb0], _ => exact ⟨vb0, rfl⟩
  obtain ⟨r0, b0⟩ := hvs 0 vb0 a0 rfl rfl
  obtain ⟨rv, rh, e, hr⟩ := law_walk (call := CC 10) (N := 100000) (h := h) b0 (evF_sum (by decide)) (s_utf8 8)
  have hr : rv = .bool true := hr
  subst hr
  refine start_law compDrawn_ok (sumT_ok trues) (N := 100000) (d := 11) hs hm (args := [vb0]) ?_ (by rw [evF_at (sumT_none rfl)]; exact e)
  rw [VRs_cons]; exact ⟨_, _, rfl, r0, by rw [VRs_nil]⟩
theorem own : ownKnob Try.prog.godebug = none := by kernel_rfl
theorem laidOut : laidOutB Try.prog = true := by kernel_rfl
set_option maxRecDepth 100000 in
set_option maxHeartbeats 1000000 in
theorem lifted (os : Os) (started : os.Started) (H : Type) (enc : TypeId × Value → H) :
    ReturnsInHanded {} Try.checked os 10 .any (Rows.sectGoSpec.pre6 enc Try.prog Try.f10 Rows.sectGoRow.domain false) (Rows.sectGoSpec.post enc Try.prog Try.f10 false true false false) := by
  refine returnsInHanded_of_change_sized (C := Try.checked) own started (by kernel_rfl) Try.func10
    (ChangeSpec.witness6 (enc := enc) (C := Try.checked) false ⟨#[], #[.slice none 0 0], []⟩ 8 (by kernel_rfl) (by kernel_rfl) (by kernel_rfl) (by kernel_rfl)) ?_
  intro W base args ds gs before hval0 hW hcnd hsz0 _
  have hval : ∀ (j : Nat) t v, Try.f10.params[j]? = some t → args[j]? = some v → Value.okWide Try.prog W .any base t v := hval0
  have hW' := hW
  obtain ⟨p, q, hA0, hV, rfl, hfz, hnd⟩ := hW
  have hA : DataW.TrodAll enc Try.prog W 0 (fun _ => true) true Try.f10.params.toList args.toList ds p := hA0
  rw [Try.params10] at hA hval
  obtain ⟨rfl, rfl⟩ := trodVars_none hV
  simp only [List.append_nil] at hW'
  obtain ⟨v0, vs0, d0, ds0, p0, q0, hargs, rfl, rfl, h0, r0⟩ := trodAll_cons hA
  obtain ⟨rfl, rfl, rfl⟩ := trodAll_nil r0
  obtain rfl : args = #[v0] := by cases args; simp_all
  have hlt : ∀ x ∈ p0, x.block < W.heap.size := fun x hx => by simpa using hW'.lt x (by simpa using hx)
  have hwt : ∀ (j : Nat) t d, (Try.f10.params.toList)[j]? = some t → ([d0])[j]? = some d → ∀ n ∈ d.weights Try.prog t, n ≤ reachBytes := fun j t d e1 e2 n hn => by
    have := List.all_eq_true.1 hsz0 _ (DataW.weights_mem_each (P := Try.prog) (ts := Try.f10.params.toList ++ _) (j := j) (t := t) (d := d) (by rw [List.getElem?_append_left (List.getElem?_eq_some_iff.1 e1).1]; exact e1) (by rw [List.getElem?_append_left (List.getElem?_eq_some_iff.1 e2).1]; exact e2) n hn)
    simpa using this
  obtain ⟨a0, rfl, l0, n0⟩ := bytes_argW Try.underlying22 Try.underlying5 (by kernel_rfl) (by kernel_rfl) (hwt 0 _ _ (by kernel_rfl) rfl) h0 (hval 0 22 _ rfl rfl)
  refine (walk a0 W l0 n0).mono fun e W' ⟨he, bel⟩ => ?_
  subst he
  have t0 := Below.trod laidOut (by kernel_rfl) (of_decide_eq_true (by kernel_rfl)) h0 bel (fun x hx => hlt x (by simp [hx]))
  exact ⟨_, rfl, _, _, _, [], _, [], hW', trodAll_mk1 (shut_bool Try.underlying4 _), (trodAll_cons_mk t0 trodAll_mk0), rfl, bel.frame _, fun h => by cases h⟩
theorem over : Rows.sectGoRow.holds Try.pinned (OpenSpec.ofChange Rows.sectGoSpec) :=
  OpenClaim.holds_of_wide 10 Try.f10 rfl rfl rfl rfl rfl rfl rfl ⟨rfl, rfl, rfl, rfl, rfl⟩ rfl rfl rfl rfl rfl (by kernel_rfl) Try.func10 (by kernel_rfl)
    (of_decide_eq_true (by kernel_rfl)) (by unfold Func.isWrapper; first | (rw [if_pos (by decide +kernel)]; kernel_rfl) | (rw [if_neg (by decide +kernel)]; exact ⟨rfl, rfl⟩))
    (fun os started H enc _ => lifted os started H enc)
theorem proved : Rows.SectGoSaid := over
end Go.Proofs.Ytejiebbbodealaa.sectGo

