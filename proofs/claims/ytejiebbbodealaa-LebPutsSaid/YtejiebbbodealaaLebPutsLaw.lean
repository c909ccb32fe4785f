/- Proved: for all bytes b, numbers v and w, the call of cloakroomlaw1.LebPuts returns true and leaves its arguments alone. Condition: none. -/
import Derived.Test.YtejiebbbodealaaLeb4
import Derived.Test.YtejiebbbodealaaEngS30
import Derived.Test.YtejiebbbodealaaRows
import Derived.WalkKit
import Derived.ProofKit
import Derived.OpenShut
import Derived.ShutString
import Derived.ChangeOld
import Derived.Below
import Derived.SizedLaws
import Derived.Carry
import Derived.ChangeSlices
namespace Go.Proofs.Ytejiebbbodealaa.lebPuts
open Go.ChangeShapes Go.WideShapes Go.ChangeAt Go.RowKit
open Go.ChangeMaps (open_string shut_string)
open Eng
set_option linter.unusedVariables false
set_option linter.unusedSimpArgs false

theorem law_walk {call : CallT} {N : Nat} {h : Hp} {vb : AV} {l : List Nat} {v : Nat} {w : Int} (hb : Bytes h.next h vb l) (hv : v < 18446744073709551616) (hw : -9223372036854775808 ≤ w ∧ w < 9223372036854775808) (hbegun : TrueS call 15) (hPutU : PutUS call 16) (hrPutU : PutUS call 17) (hPutS : PutSS call 18) (hrPutS : PutSS call 19)
    : ∃ rv rh, evF1 (progS Try.prog (compDrawn Try.prog)) N call 3 [vb, (AV.int .u64 (Int.ofNat v)), (AV.int .i64 w)] h = .ok rv rh ∧ (fun (v : AV) (_ : Hp) => v = .bool true) rv rh := by
  refine fwalk_ok (o := (.eff 1 (AV.bool true) h (.tell 2 (AV.int .i64 (Int.ofNat l.length)) (.fork 0 .fin (.again 4 (.effx 0 (fun e2 => e2.v) (fun e2 => (.tell 0 (AV.str (l ++ lebU v)) (.again 0 (.effx 0 (fun e3 => e3.v) (fun e3 => (.tell 0 (AV.str (l ++ lebU v)) (.tell 0 (AV.bool true) (.again 5 (.effx 0 (fun e4 => e4.v) (fun e4 => (.tell 0 (AV.str (l ++ lebS w)) (.again 0 (.effx 0 (fun e5 => e5.v) (fun e5 => (.tell 0 (AV.str (l ++ lebS w)) (.tell 0 (AV.bool true) (.again 2 .fin))))))))))))))))))))))) (p := (call 15 [] h = .ok (AV.bool true) h ∧ (evQ (.lenL (.const vb)) .lf H0 = .ok (AV.int .i64 (Int.ofNat l.length)) ∧ ((ltI (Int.ofNat 20) (Int.ofNat l.length) = true → (fun (v : AV) (_ : Hp) => v = .bool true) (AV.bool true) h) ∧ (ltI (Int.ofNat 20) (Int.ofNat l.length) = false → ((again (.move (.const (AV.int .u64 (Int.ofNat v)))) .lf (AV.int .u64 (Int.ofNat v)) h = true ∧ again (.move (.const vb)) .lf vb h = true ∧ again (.move (.const (AV.int .u64 (Int.ofNat v)))) .lf (AV.int .u64 (Int.ofNat v)) h = true ∧ again (.move (.const vb)) .lf vb h = true ∧ True) ∧ (∃ e2 : Ev, call 16 [vb, (AV.int .u64 (Int.ofNat v))] h = .ok e2.v e2.h ∧ (evQ (.toStr (.const e2.v)) .lf e2.h = .ok (AV.str (l ++ lebU v)) ∧ ((again (.toStr (.const e2.v)) .lf (AV.str (l ++ lebU v)) e2.h = true ∧ again (.move (.const (AV.int .u64 (Int.ofNat v)))) .lf (AV.int .u64 (Int.ofNat v)) e2.h = true ∧ again (.move (.const vb)) .lf vb e2.h = true ∧ True) ∧ (∃ e3 : Ev, call 17 [vb, (AV.int .u64 (Int.ofNat v))] e2.h = .ok e3.v e3.h ∧ (evQ (.toStr (.const e3.v)) .lf e3.h = .ok (AV.str (l ++ lebU v)) ∧ (evQ (.eq .str false (.const (AV.str (l ++ lebU v))) (.const (AV.str (l ++ lebU v)))) .lf H0 = .ok (AV.bool true) ∧ ((again (.move (.const (AV.int .i64 w))) .lf (AV.int .i64 w) e3.h = true ∧ again (.move (.const vb)) .lf vb e3.h = true ∧ again (.move (.const (AV.int .i64 w))) .lf (AV.int .i64 w) e3.h = true ∧ again (.move (.const vb)) .lf vb e3.h = true ∧ again (.move (.const (AV.bool true))) .lf (AV.bool true) e3.h = true ∧ again (.eq .str false (.const (AV.str (l ++ lebU v))) (.const (AV.str (l ++ lebU v)))) .lf (AV.bool true) e3.h = true ∧ again (.toStr (.const e3.v)) .lf (AV.str (l ++ lebU v)) e3.h = true ∧ again (.toStr (.const e2.v)) .lf (AV.str (l ++ lebU v)) e3.h = true ∧ True) ∧ (∃ e4 : Ev, call 18 [vb, (AV.int .i64 w)] e3.h = .ok e4.v e4.h ∧ (evQ (.toStr (.const e4.v)) .lf e4.h = .ok (AV.str (l ++ lebS w)) ∧ ((again (.toStr (.const e4.v)) .lf (AV.str (l ++ lebS w)) e4.h = true ∧ again (.move (.const (AV.int .i64 w))) .lf (AV.int .i64 w) e4.h = true ∧ again (.move (.const vb)) .lf vb e4.h = true ∧ True) ∧ (∃ e5 : Ev, call 19 [vb, (AV.int .i64 w)] e4.h = .ok e5.v e5.h ∧ (evQ (.toStr (.const e5.v)) .lf e5.h = .ok (AV.str (l ++ lebS w)) ∧ (evQ (.eq .str false (.const (AV.str (l ++ lebS w))) (.const (AV.str (l ++ lebS w)))) .lf H0 = .ok (AV.bool true) ∧ ((again (.move (.const (AV.bool true))) .lf (AV.bool true) e5.h = true ∧ again (.pick (.const (AV.bool true)) (.const (AV.bool true)) (.const (AV.bool false))) .lf (AV.bool true) e5.h = true ∧ again (.eq .str false (.const (AV.str (l ++ lebS w))) (.const (AV.str (l ++ lebS w)))) .lf (AV.bool true) e5.h = true ∧ again (.toStr (.const e5.v)) .lf (AV.str (l ++ lebS w)) e5.h = true ∧ again (.toStr (.const e4.v)) .lf (AV.str (l ++ lebS w)) e5.h = true ∧ True) ∧ (fun (v : AV) (_ : Hp) => v = .bool true) (AV.bool true) e5.h)))))))))))))))))))) (by kernel_rfl) ?_
  refine ⟨hbegun _, ?_⟩
  refine ⟨q_len hb, ?_⟩
  refine ⟨fun c1 => ?_, fun c1 => ?_⟩
  · have rc1 := c1
    replace c1 : 20 < l.length := ltI_t c1
    exact rfl
  · have rc1 := c1
    replace c1 : l.length ≤ 20 := ltI_f c1
    refine ⟨⟨again_of (rfl) (avEq_int _ _), again_of (rfl) hb.same, again_of (rfl) (avEq_int _ _), again_of (rfl) hb.same, trivial⟩, ?_⟩
    obtain ⟨ve2, he2, qe2, oe2, pe2, ne2⟩ := hPutU (B := h.next) (l := l) (Nat.le_refl _) (hb.up (Nat.le_refl _)) (by first | omega | decide) hv
    obtain ⟨e2, rfl, rfl⟩ : ∃ e : Ev, ve2 = e.v ∧ he2 = e.h := ⟨⟨ve2, .lf, he2⟩, rfl, rfl⟩
    refine ⟨e2, qe2, ?_⟩
    refine ⟨q_toStr (Owned.bytes (oe2.low (Nat.le_refl _)) (put_lt (hb.up (Nat.le_refl _)).lt (lebU_all hv)) (Nat.le_refl _)), ?_⟩
    refine ⟨⟨again_of (q_toStr (Owned.bytes (oe2.low (Nat.le_refl _)) (put_lt (hb.up (Nat.le_refl _)).lt (lebU_all hv)) (Nat.le_refl _))) (avEq_str _), again_of (rfl) (avEq_int _ _), again_of (rfl) (hb.old (pe2.le (Nat.le_refl _))).same, trivial⟩, ?_⟩
    obtain ⟨ve3, he3, qe3, oe3, pe3, ne3⟩ := hrPutU (B := e2.h.next) (l := l) (Nat.le_refl _) ((hb.old (pe2.le (Nat.le_refl _))).up (Nat.le_trans (Nat.le_refl _) pe2.next)) (by first | omega | decide) hv
    obtain ⟨e3, rfl, rfl⟩ : ∃ e : Ev, ve3 = e.v ∧ he3 = e.h := ⟨⟨ve3, .lf, he3⟩, rfl, rfl⟩
    refine ⟨e3, qe3, ?_⟩
    refine ⟨q_toStr (Owned.bytes (oe3.low (Nat.le_trans (Nat.le_refl _) pe2.next)) (put_lt ((hb.old (pe2.le (Nat.le_refl _))).up (Nat.le_trans (Nat.le_refl _) pe2.next)).lt (lebU_all hv)) (Nat.le_refl _)), ?_⟩
    refine ⟨eqStr_same _, ?_⟩
    refine ⟨⟨again_of (rfl) (avEq_int _ _), again_of (rfl) ((hb.old (pe2.le (Nat.le_refl _))).old (pe3.le (Nat.le_trans (Nat.le_refl _) pe2.next))).same, again_of (rfl) (avEq_int _ _), again_of (rfl) ((hb.old (pe2.le (Nat.le_refl _))).old (pe3.le (Nat.le_trans (Nat.le_refl _) pe2.next))).same, again_of (rfl) (avEq_bool _), again_of (eqStr_same _) (avEq_bool _), again_of (q_toStr (Owned.bytes (oe3.low (Nat.le_trans (Nat.le_refl _) pe2.next)) (put_lt ((hb.old (pe2.le (Nat.le_refl _))).up (Nat.le_trans (Nat.le_refl _) pe2.next)).lt (lebU_all hv)) (Nat.le_refl _))) (avEq_str _), again_of (q_toStr (Owned.bytes ((oe2.low (Nat.le_refl _)).old pe3 (Nat.le_refl _)) (put_lt (hb.up (Nat.le_refl _)).lt (lebU_all hv)) (Nat.le_refl _))) (avEq_str _), trivial⟩, ?_⟩
    obtain ⟨ve4, he4, qe4, oe4, pe4, ne4⟩ := hPutS (B := e3.h.next) (l := l) (Nat.le_refl _) (((hb.old (pe2.le (Nat.le_refl _))).old (pe3.le (Nat.le_trans (Nat.le_refl _) pe2.next))).up (Nat.le_trans (Nat.le_trans (Nat.le_refl _) pe2.next) pe3.next)) (by first | omega | decide) (by omega)
    obtain ⟨e4, rfl, rfl⟩ : ∃ e : Ev, ve4 = e.v ∧ he4 = e.h := ⟨⟨ve4, .lf, he4⟩, rfl, rfl⟩
    refine ⟨e4, qe4, ?_⟩
    refine ⟨q_toStr (Owned.bytes (oe4.low (Nat.le_trans (Nat.le_trans (Nat.le_refl _) pe2.next) pe3.next)) (put_lt (((hb.old (pe2.le (Nat.le_refl _))).old (pe3.le (Nat.le_trans (Nat.le_refl _) pe2.next))).up (Nat.le_trans (Nat.le_trans (Nat.le_refl _) pe2.next) pe3.next)).lt (lebS_all (by omega))) (Nat.le_refl _)), ?_⟩
    refine ⟨⟨again_of (q_toStr (Owned.bytes (oe4.low (Nat.le_trans (Nat.le_trans (Nat.le_refl _) pe2.next) pe3.next)) (put_lt (((hb.old (pe2.le (Nat.le_refl _))).old (pe3.le (Nat.le_trans (Nat.le_refl _) pe2.next))).up (Nat.le_trans (Nat.le_trans (Nat.le_refl _) pe2.next) pe3.next)).lt (lebS_all (by omega))) (Nat.le_refl _))) (avEq_str _), again_of (rfl) (avEq_int _ _), again_of (rfl) (((hb.old (pe2.le (Nat.le_refl _))).old (pe3.le (Nat.le_trans (Nat.le_refl _) pe2.next))).old (pe4.le (Nat.le_trans (Nat.le_trans (Nat.le_refl _) pe2.next) pe3.next))).same, trivial⟩, ?_⟩
    obtain ⟨ve5, he5, qe5, oe5, pe5, ne5⟩ := hrPutS (B := e4.h.next) (l := l) (Nat.le_refl _) ((((hb.old (pe2.le (Nat.le_refl _))).old (pe3.le (Nat.le_trans (Nat.le_refl _) pe2.next))).old (pe4.le (Nat.le_trans (Nat.le_trans (Nat.le_refl _) pe2.next) pe3.next))).up (Nat.le_trans (Nat.le_trans (Nat.le_trans (Nat.le_refl _) pe2.next) pe3.next) pe4.next)) (by first | omega | decide) (by omega)
    obtain ⟨e5, rfl, rfl⟩ : ∃ e : Ev, ve5 = e.v ∧ he5 = e.h := ⟨⟨ve5, .lf, he5⟩, rfl, rfl⟩
    refine ⟨e5, qe5, ?_⟩
    refine ⟨q_toStr (Owned.bytes (oe5.low (Nat.le_trans (Nat.le_trans (Nat.le_trans (Nat.le_refl _) pe2.next) pe3.next) pe4.next)) (put_lt ((((hb.old (pe2.le (Nat.le_refl _))).old (pe3.le (Nat.le_trans (Nat.le_refl _) pe2.next))).old (pe4.le (Nat.le_trans (Nat.le_trans (Nat.le_refl _) pe2.next) pe3.next))).up (Nat.le_trans (Nat.le_trans (Nat.le_trans (Nat.le_refl _) pe2.next) pe3.next) pe4.next)).lt (lebS_all (by omega))) (Nat.le_refl _)), ?_⟩
    refine ⟨eqStr_same _, ?_⟩
    refine ⟨⟨again_of (rfl) (avEq_bool _), again_of (rfl) (avEq_bool _), again_of (eqStr_same _) (avEq_bool _), again_of (q_toStr (Owned.bytes (oe5.low (Nat.le_trans (Nat.le_trans (Nat.le_trans (Nat.le_refl _) pe2.next) pe3.next) pe4.next)) (put_lt ((((hb.old (pe2.le (Nat.le_refl _))).old (pe3.le (Nat.le_trans (Nat.le_refl _) pe2.next))).old (pe4.le (Nat.le_trans (Nat.le_trans (Nat.le_refl _) pe2.next) pe3.next))).up (Nat.le_trans (Nat.le_trans (Nat.le_trans (Nat.le_refl _) pe2.next) pe3.next) pe4.next)).lt (lebS_all (by omega))) (Nat.le_refl _))) (avEq_str _), again_of (q_toStr (Owned.bytes ((oe4.low (Nat.le_trans (Nat.le_trans (Nat.le_refl _) pe2.next) pe3.next)).old pe5 (Nat.le_refl _)) (put_lt (((hb.old (pe2.le (Nat.le_refl _))).old (pe3.le (Nat.le_trans (Nat.le_refl _) pe2.next))).up (Nat.le_trans (Nat.le_trans (Nat.le_refl _) pe2.next) pe3.next)).lt (lebS_all (by omega))) (Nat.le_refl _))) (avEq_str _), trivial⟩, ?_⟩
    exact rfl
theorem walk (a0 : BArg) (v : Nat) (w : Int) (W : World) (h0 : a0.lies W) (hv : v < 18446744073709551616) (hw : -9223372036854775808 ≤ w ∧ w < 9223372036854775808) :
    Calls Try.prog 3 #[a0.v, .int .u64 (.ofNat v), .int .i64 w] W fun e W' => e = .returned (.bool true) ∧ Below W.heap.size W W' := by
  obtain ⟨μ, h, vs, hs, hm, hn, hvs, _⟩ := start_bytes (w := W) [a0] (by simpa using h0)
  obtain ⟨vb, rfl⟩ : ∃ vb, vs = [vb] := by
    match vs, hn with
    | [vb], _ => exact ⟨vb, rfl⟩
  obtain ⟨r0, b0⟩ := hvs 0 vb a0 rfl rfl
  obtain ⟨rv, rh, e, hr⟩ := law_walk (call := CC 10) (N := 100000) (h := h) b0 hv hw (evF_sum (by decide)) (s_putU 7) (s_rputU 9) (s_putS 7) (s_rputS 9)
  have hr : rv = .bool true := hr
  subst hr
  refine start_law compDrawn_ok (sumT_ok trues) (N := 100000) (d := 11) hs hm (args := [vb, .int .u64 (.ofNat v), .int .i64 w]) ?_ (by rw [evF_at (sumT_none rfl)]; exact e)
  rw [VRs_cons]; refine ⟨_, _, rfl, r0, ?_⟩
  rw [VRs_cons]; refine ⟨_, _, rfl, by rw [VR_int], ?_⟩
  rw [VRs_cons]; exact ⟨_, _, rfl, by rw [VR_int], by rw [VRs_nil]⟩
theorem own : ownKnob Try.prog.godebug = none := by kernel_rfl
theorem laidOut : laidOutB Try.prog = true := by kernel_rfl
set_option maxRecDepth 100000 in
set_option maxHeartbeats 1000000 in
theorem lifted (os : Os) (started : os.Started) (H : Type) (enc : TypeId × Value → H) :
    ReturnsInHanded {} Try.checked os 3 .any (Rows.lebPutsSpec.pre6 enc Try.prog Try.f3 Rows.lebPutsRow.domain false) (Rows.lebPutsSpec.post enc Try.prog Try.f3 false true false false) := by
  refine returnsInHanded_of_change_sized (C := Try.checked) own started (by kernel_rfl) Try.func3
    (ChangeSpec.witness6 (enc := enc) (C := Try.checked) false ⟨#[], #[.slice none 0 0, .int .u64 0, .int .i64 0], []⟩ 8 (by kernel_rfl) (by kernel_rfl) (by kernel_rfl) (by kernel_rfl)) ?_
  intro W base args ds gs before hval0 hW hcnd hsz0 _
  have hval : ∀ (j : Nat) t v, Try.f3.params[j]? = some t → args[j]? = some v → Value.okWide Try.prog W .any base t v := hval0
  have hW' := hW
  obtain ⟨p, q, hA0, hV, rfl, hfz, hnd⟩ := hW
  have hA : DataW.TrodAll enc Try.prog W 0 (fun _ => true) true Try.f3.params.toList args.toList ds p := hA0
  rw [Try.params3] at hA hval
  obtain ⟨rfl, rfl⟩ := trodVars_none hV
  simp only [List.append_nil] at hW'
  obtain ⟨v0, vs0, d0, ds0, p0, q0, hargs, rfl, rfl, h0, r0⟩ := trodAll_cons hA
  obtain ⟨v1, vs1, d1, ds1, p1, q1, rfl, rfl, rfl, h1, r1⟩ := trodAll_cons r0
  obtain ⟨v2, vs2, d2, ds2, p2, q2, rfl, rfl, rfl, h2, r2⟩ := trodAll_cons r1
  obtain ⟨rfl, rfl, rfl⟩ := trodAll_nil r2
  obtain rfl : args = #[v0, v1, v2] := by cases args; simp_all
  have hlt : ∀ x ∈ p0 ++ p1 ++ p2, x.block < W.heap.size := fun x hx => by simpa using hW'.lt x (by simpa using hx)
  obtain ⟨a0, rfl, l0, hlen⟩ := bytes_arg Try.underlying22 Try.underlying5 (by kernel_rfl) h0 (hval 0 22 _ rfl rfl)
  obtain ⟨a1, rfl, rfl, rfl, w1⟩ := open_int Try.underlying23 (hval 1 23 v1 rfl rfl) h1
  obtain ⟨a2, rfl, rfl, rfl, w2⟩ := open_int Try.underlying2 (hval 2 2 v2 rfl rfl) h2
  obtain ⟨n1, rfl, hn1⟩ := u64_wf w1
  refine (walk a0 n1 a2 W l0 hn1 (i64_wf w2)).mono fun e W' ⟨he, bel⟩ => ?_
  subst he
  have t0 := Below.trod laidOut (by kernel_rfl) (of_decide_eq_true (by kernel_rfl)) h0 bel (fun x hx => hlt x (by simp [hx]))
  exact ⟨_, rfl, _, _, _, [], _, [], hW', trodAll_mk1 (shut_bool Try.underlying4 _), (trodAll_cons_mk t0 (trodAll_cons_mk (shut_int Try.underlying23 w1) (trodAll_cons_mk (shut_int Try.underlying2 w2) trodAll_mk0))), rfl, bel.frame _, fun h => by cases h⟩
theorem over : Rows.lebPutsRow.holds Try.pinned (OpenSpec.ofChange Rows.lebPutsSpec) :=
  OpenClaim.holds_of_wide 3 Try.f3 rfl rfl rfl rfl rfl rfl rfl ⟨rfl, rfl, rfl, rfl, rfl⟩ rfl rfl rfl rfl rfl (by kernel_rfl) Try.func3 (by kernel_rfl)
    (of_decide_eq_true (by kernel_rfl)) (by unfold Func.isWrapper; first | (rw [if_pos (by decide +kernel)]; kernel_rfl) | (rw [if_neg (by decide +kernel)]; exact ⟨rfl, rfl⟩))
    (fun os started H enc _ => lifted os started H enc)
theorem proved : Rows.LebPutsSaid := over
end Go.Proofs.Ytejiebbbodealaa.lebPuts
