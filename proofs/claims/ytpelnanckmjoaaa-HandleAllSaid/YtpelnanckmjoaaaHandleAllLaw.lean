/- Proved: for all operations l, the call of cloakroomlaw25.HandleAll returns true and leaves its argument alone. Condition: none. -/
import Derived.Test.YtpelnanckmjoaaaB5
import Derived.Test.YtpelnanckmjoaaaRows
import Derived.WalkKit
import Derived.ProofKit
import Derived.OpenShut
import Derived.ShutString
import Derived.ChangeOld
import Derived.Below
import Derived.SizedLaws
import Derived.Carry
import Derived.ChangeSlices
namespace Go.Proofs.Ytpelnanckmjoaaa.handleAll
open Go.ChangeShapes Go.WideShapes Go.ChangeAt Go.RowKit
open Go.ChangeMaps (open_string shut_string)
open Eng
set_option linter.unusedVariables false
set_option linter.unusedSimpArgs false

theorem begun : isTrue (evF sumKC (progS Try.prog (compDrawn Try.prog)) 100000 30 21 [] H0) = true := by kernel_rfl
theorem trues : Trues Try.prog [21] := fun f hf => by
  rw [List.mem_singleton] at hf
  subst hf
  exact trues_one compDrawn_ok sumKC_ok begun
theorem begun_t (d : Nat) : TrueS (CC (d + 1)) 21 := fun h => rfl
abbrev ks : List IntKind := [.i64, .i64, .u64]
abbrev opR := rP (rZ .i64) (rP (rZ .i64) (rU .u64))
def opV (ns : List Int) : Int × Int × Nat := (ns.getD 0 0, ns.getD 1 0, (ns.getD 2 0).toNat)
theorem form : NForm Try.prog 62 ks := by
  refine ⟨⟨_, Try.underlying62, fun i k hk => ?_⟩, by kernel_rfl, by decide⟩
  rcases i with _ | _ | _ | i
  · cases hk; exact ⟨_, rfl, rfl, by kernel_rfl, Try.underlying3⟩
  · cases hk; exact ⟨_, rfl, rfl, by kernel_rfl, Try.underlying3⟩
  · cases hk; exact ⟨_, rfl, rfl, by kernel_rfl, Try.underlying42⟩
  · simp at hk
theorem rep {h : Hp} (e : List Int) (he : NumsOk ks e) : opR.rep (Low h) h (numsA ks e) (opV e) := by
  obtain ⟨hl, hw⟩ := he
  match e, hl, hw with
  | [n0, n1, n2], _, hw =>
    have h2 := hw 2 .u64 n2 rfl rfl
    simp only [Lit.wf, Bool.and_eq_true, decide_eq_true_eq] at h2
    have h3 : IntKind.u64.min = 0 := rfl
    have h4 : IntKind.u64.max = 18446744073709551615 := rfl
    obtain ⟨m, rfl⟩ : ∃ m : Nat, n2 = (m : Int) := ⟨n2.toNat, by omega⟩
    exact ⟨[.int .i64 n0], _, rfl, rfl, [.int .i64 n1], _, rfl, rfl, rfl, by show (m : Int).toNat < 18446744073709551616; omega⟩
theorem walk (a0 : NArg) (W : World) (l0 : a0.lies W ks) :
    Calls Try.prog 10 #[a0.v] W fun e W' => e = .returned (.bool true) ∧ Below W.heap.size W W' := by
  obtain ⟨μ, h, hs, hm, hp⟩ := start_pieces (w := W) [a0.piece ks] (by
    intro p hp
    rw [List.mem_singleton.1 hp]; exact NArg.ok l0)
  obtain ⟨B0, r0, g0⟩ := hp 0 _ rfl
  have s0 := NArg.sin l0 opR opV rfl g0 rep
  rw [NArg.piece_v] at r0
  obtain ⟨rv, rh, e, hr⟩ := lawall_w (call := CC 10) (N := 100000) s0 (begun_t 9) (s_new 9) (s_hclose0 8) (s_hclose 8) (s_hget0 9) (s_hget 9) (s_hadd0 9) (s_hadd 9) (s_samenums 9) (s_hall0 9) (s_hall 8) (s_radd 9) (s_rget 8) (s_rclose 8) (s_hcopy0 9) (s_hcopy 8) (by decide) (all_t _)
  have hr : rv = .bool true := hr
  subst hr
  refine start_law compDrawn_ok (orM_ok (sumT_ok trues) sumKC_ok) (N := 100000) (d := 11) hs hm (args := [(a0.piece ks).av B0]) ?_ (by rw [evF_at (show orM (sumT [21]) sumKC 10 = none from rfl)]; exact e)
  rw [VRs_cons]; exact ⟨_, _, rfl, r0, by rw [VRs_nil]⟩
theorem own : ownKnob Try.prog.godebug = none := by kernel_rfl
theorem laidOut : laidOutB Try.prog = true := by kernel_rfl
set_option maxRecDepth 100000 in
set_option maxHeartbeats 1000000 in
theorem lifted (os : Os) (started : os.Started) (H : Type) (enc : TypeId × Value → H) :
    ReturnsInHanded {} Try.checked os 10 .any (Rows.handleAllSpec.pre6 enc Try.prog Try.f10 Rows.handleAllRow.domain false) (Rows.handleAllSpec.post enc Try.prog Try.f10 false true false false) := by
  refine returnsInHanded_of_change_sized (C := Try.checked) own started (by kernel_rfl) Try.func10
    (ChangeSpec.witness6 (enc := enc) (C := Try.checked) false ⟨#[], #[.slice none 0 0], []⟩ 8 (by kernel_rfl) (by kernel_rfl) (by kernel_rfl) (by kernel_rfl)) ?_
  intro W base args ds gs before hval0 hW hcnd hsz0 _
  have hval : ∀ (j : Nat) t v, Try.f10.params[j]? = some t → args[j]? = some v → Value.okWide Try.prog W .any base t v := hval0
  have hW' := hW
  obtain ⟨p, q, hA0, hV, rfl, hfz, hnd⟩ := hW
  have hA : DataW.TrodAll enc Try.prog W 0 (fun _ => true) true Try.f10.params.toList args.toList ds p := hA0
  rw [Try.params10] at hA hval
  obtain ⟨rfl, rfl⟩ := trodVars_none hV
  simp only [List.append_nil] at hW'
  obtain ⟨v0, vs0, d0, ds0, p0, q0, hargs, rfl, rfl, h0, r0⟩ := trodAll_cons hA
  obtain ⟨rfl, rfl, rfl⟩ := trodAll_nil r0
  obtain rfl : args = #[v0] := by cases args; simp_all
  have hlt : ∀ x ∈ p0, x.block < W.heap.size := fun x hx => by simpa using hW'.lt x (by simpa using hx)
  have hwt : ∀ (j : Nat) t d, (Try.f10.params.toList)[j]? = some t → ([d0])[j]? = some d → ∀ n ∈ d.weights Try.prog t, n ≤ reachBytes := fun j t d e1 e2 n hn => by
    have := List.all_eq_true.1 hsz0 _ (DataW.weights_mem_each (P := Try.prog) (ts := Try.f10.params.toList ++ _) (j := j) (t := t) (d := d) (by rw [List.getElem?_append_left (List.getElem?_eq_some_iff.1 e1).1]; exact e1) (by rw [List.getElem?_append_left (List.getElem?_eq_some_iff.1 e2).1]; exact e2) n hn)
    simpa using this
  obtain ⟨a0, rfl, l0, n0⟩ := narg_of Try.underlying56 form h0 (hval 0 56 _ rfl rfl)
  refine (walk a0 W l0).mono fun e W' ⟨he, bel⟩ => ?_
  subst he
  have t0 := Below.trod laidOut (by kernel_rfl) (of_decide_eq_true (by kernel_rfl)) h0 bel (fun x hx => hlt x (by simp [hx]))
  exact ⟨_, rfl, _, _, _, [], _, [], hW', trodAll_mk1 (shut_bool Try.underlying4 _), (trodAll_cons_mk t0 trodAll_mk0), rfl, bel.frame _, fun h => by cases h⟩
theorem over : Rows.handleAllRow.holds Try.pinned (OpenSpec.ofChange Rows.handleAllSpec) :=
  OpenClaim.holds_of_wide 10 Try.f10 rfl rfl rfl rfl rfl rfl rfl ⟨rfl, rfl, rfl, rfl, rfl⟩ rfl rfl rfl rfl rfl (by kernel_rfl) Try.func10 (by kernel_rfl)
    (of_decide_eq_true (by kernel_rfl)) (by unfold Func.isWrapper; first | (rw [if_pos (by decide +kernel)]; kernel_rfl) | (rw [if_neg (by decide +kernel)]; exact ⟨rfl, rfl⟩))
    (fun os started H enc _ => lifted os started H enc)
theorem proved : Rows.HandleAllSaid := over
end Go.Proofs.Ytpelnanckmjoaaa.handleAll

