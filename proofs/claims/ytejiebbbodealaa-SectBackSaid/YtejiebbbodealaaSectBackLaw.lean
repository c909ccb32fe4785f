/- Proved: for all sections l, the call of cloakroomlaw7.SectBack returns true and leaves its argument alone. Condition: none. -/
import Derived.Test.YtejiebbbodealaaB5
import Derived.Test.YtejiebbbodealaaRows
import Derived.WalkKit
import Derived.ProofKit
import Derived.OpenShut
import Derived.ShutString
import Derived.ChangeOld
import Derived.Below
import Derived.SizedLaws
import Derived.Carry
import Derived.ChangeSlices
namespace Go.Proofs.Ytejiebbbodealaa.sectBack
open Go.ChangeShapes Go.WideShapes Go.ChangeAt Go.RowKit
open Go.ChangeMaps (open_string shut_string)
open Eng
set_option linter.unusedVariables false
set_option linter.unusedSimpArgs false

abbrev ks : List IntKind := [.u8]
abbrev secR := rP (rU .u8) rY
def secV (e : EArg) : Sc := ((e.ns.getD 0 0).toNat, e.y.l)
theorem form : SForm Try.prog 56 ks := by
  refine ⟨⟨_, Try.underlying56, fun i k hk => ?_, ?_⟩, by kernel_rfl⟩
  · rcases i with _ | i
    · cases hk; exact ⟨_, rfl, rfl, by kernel_rfl, Try.underlying5⟩
    · simp at hk
  · exact ⟨_, 5, rfl, rfl, by kernel_rfl, Try.underlying22, Try.underlying5, by kernel_rfl⟩
theorem byte_wf {n : Int} (h : (Lit.int .u8 n).wf = true) : n = .ofNat n.toNat ∧ n.toNat < 256 := by
  obtain ⟨m, rfl, hm⟩ := u8_wf h
  exact ⟨rfl, hm⟩
theorem rep {w : World} {h : Hp} (e : EArg) (y : AV) (he : e.lies w ks) (hb : BIn (Low h) h y e.y.l) : secR.rep (Low h) h (numsA ks e.ns ++ [y]) (secV e) := by
  obtain ⟨ns, ya⟩ := e
  have hl : ns.length = 1 := he.1
  match ns, hl with
  | [n0], _ =>
    obtain ⟨h1, h2⟩ := byte_wf (he.2.1 0 .u8 n0 rfl rfl)
    refine ⟨[.int .u8 n0], _, rfl, ⟨?_, h2⟩, y, rfl, hb⟩
    show [AV.int .u8 n0] = [AV.int .u8 (.ofNat n0.toNat)]
    rw [← h1]
theorem piece_v (a : SArg) : (a.piece ks).v = a.v := by unfold SArg.piece; split <;> rfl
theorem low_id {w : World} {a : SArg} (l : a.lies w ks) : ∀ x ∈ a.es.map secV, x.1 < 256 := fun x hx => by
  obtain ⟨e, he, rfl⟩ := List.mem_map.1 hx
  have hl : e.ns.length = 1 := (l.1 e he).1
  have hw := (l.1 e he).2.1
  obtain ⟨ns, ya⟩ := e
  match ns, hl with
  | [n0], _ => exact (byte_wf (hw 0 .u8 n0 rfl rfl)).2
theorem walk (a0 : SArg) (W : World) (l0 : a0.lies W ks) :
    Calls Try.prog 9 #[a0.v] W fun e W' => e = .returned (.bool true) ∧ Below W.heap.size W W' := by
  obtain ⟨μ, h, hs, hm, hp⟩ := start_pieces (w := W) [a0.piece ks] (by
    intro p hp
    rw [List.mem_singleton.1 hp]; exact SArg.ok l0)
  obtain ⟨B0, r0, g0⟩ := hp 0 _ rfl
  have s0 := SArg.sin l0 secR secV rfl g0 rep
  rw [piece_v] at r0
  obtain ⟨rv, rh, e, hr⟩ := lawback_w (call := CC 10) (N := 100000) s0 (evF_sum (by decide)) (s_split 5) (s_join 6) (by decide) (lawback_t _ (low_id l0))
  have hr : rv = .bool true := hr
  subst hr
  refine start_law compDrawn_ok (sumT_ok trues) (N := 100000) (d := 11) hs hm (args := [(a0.piece ks).av B0]) ?_ (by rw [evF_at (sumT_none rfl)]; exact e)
  rw [VRs_cons]; exact ⟨_, _, rfl, r0, by rw [VRs_nil]⟩
theorem own : ownKnob Try.prog.godebug = none := by kernel_rfl
theorem laidOut : laidOutB Try.prog = true := by kernel_rfl
set_option maxRecDepth 100000 in
set_option maxHeartbeats 1000000 in
theorem lifted (os : Os) (started : os.Started) (H : Type) (enc : TypeId × Value → H) :
    ReturnsInHanded {} Try.checked os 9 .any (Rows.sectBackSpec.pre6 enc Try.prog Try.f9 Rows.sectBackRow.domain false) (Rows.sectBackSpec.post enc Try.prog Try.f9 false true false false) := by
  refine returnsInHanded_of_change_sized (C := Try.checked) own started (by kernel_rfl) Try.func9
    (ChangeSpec.witness6 (enc := enc) (C := Try.checked) false ⟨#[], #[.slice none 0 0], []⟩ 8 (by kernel_rfl) (by kernel_rfl) (by kernel_rfl) (by kernel_rfl)) ?_
  intro W base args ds gs before hval0 hW hcnd hsz0 _
  have hval : ∀ (j : Nat) t v, Try.f9.params[j]? = some t → args[j]? = some v → Value.okWide Try.prog W .any base t v := hval0
  have hW' := hW
  obtain ⟨p, q, hA0, hV, rfl, hfz, hnd⟩ := hW
  have hA : DataW.TrodAll enc Try.prog W 0 (fun _ => true) true Try.f9.params.toList args.toList ds p := hA0
  rw [Try.params9] at hA hval
  obtain ⟨rfl, rfl⟩ := trodVars_none hV
  simp only [List.append_nil] at hW'
  obtain ⟨v0, vs0, d0, ds0, p0, q0, hargs, rfl, rfl, h0, r0⟩ := trodAll_cons hA
  obtain ⟨rfl, rfl, rfl⟩ := trodAll_nil r0
  obtain rfl : args = #[v0] := by cases args; simp_all
  have hlt : ∀ x ∈ p0, x.block < W.heap.size := fun x hx => by simpa using hW'.lt x (by simpa using hx)
  obtain ⟨a0, rfl, l0, m0⟩ := sarg_of Try.underlying55 form h0 (hval 0 55 _ rfl rfl)
  refine (walk a0 W l0).mono fun e W' ⟨he, bel⟩ => ?_
  subst he
  have t0 := Below.trod laidOut (by kernel_rfl) (of_decide_eq_true (by kernel_rfl)) h0 bel (fun x hx => hlt x (by simp [hx]))
  exact ⟨_, rfl, _, _, _, [], _, [], hW', trodAll_mk1 (shut_bool Try.underlying4 _), (trodAll_cons_mk t0 trodAll_mk0), rfl, bel.frame _, fun h => by cases h⟩

theorem over : Rows.sectBackRow.holds Try.pinned (OpenSpec.ofChange Rows.sectBackSpec) :=
  OpenClaim.holds_of_wide 9 Try.f9 rfl rfl rfl rfl rfl rfl rfl ⟨rfl, rfl, rfl, rfl, rfl⟩ rfl rfl rfl rfl rfl (by kernel_rfl) Try.func9 (by kernel_rfl)
    (of_decide_eq_true (by kernel_rfl)) (by unfold Func.isWrapper; first | (rw [if_pos (by decide +kernel)]; kernel_rfl) | (rw [if_neg (by decide +kernel)]; exact ⟨rfl, rfl⟩))
    (fun os started H enc _ => lifted os started H enc)
theorem proved : Rows.SectBackSaid := over
end Go.Proofs.Ytejiebbbodealaa.sectBack
