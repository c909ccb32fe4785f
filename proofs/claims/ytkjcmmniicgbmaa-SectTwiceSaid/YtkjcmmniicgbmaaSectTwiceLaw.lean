/- Proved: for all bytes a and b, the call of cloakroomlaw7.SectTwice returns true and leaves its arguments alone. Condition: none. -/
import Derived.Test.YtkjcmmniicgbmaaEngS25
import Derived.Test.YtkjcmmniicgbmaaRows
import Derived.WalkKit
import Derived.ProofKit
import Derived.OpenShut
import Derived.ShutString
import Derived.ChangeOld
import Derived.Below
import Derived.SizedLaws
namespace Go.Proofs.Ytkjcmmniicgbmaa.sectTwice
open Go.ChangeShapes Go.WideShapes Go.ChangeAt Go.RowKit
open Go.ChangeMaps (open_string shut_string)
set_option linter.unusedVariables false
theorem own : ownKnob Try.prog.godebug = none := by kernel_rfl
theorem begun : Eng.isTrue (Eng.evF Eng.noM (Eng.progS Try.prog (Eng.compDrawn Try.prog)) 1000 40 13 [] Eng.H0) = true := by kernel_rfl
theorem trues : Eng.Trues Try.prog [13] := fun f hf => by
  rw [List.mem_singleton] at hf
  subst hf
  exact Eng.trues_one Eng.compDrawn_ok Eng.noM_ok begun
noncomputable def one (r s n m : Nat) : Bool := Eng.isTrue (Eng.evSpec (Eng.orQ (Eng.remIs 0 .u8 12 r) (Eng.remIs 1 .u8 12 s)) [(0, .int .u8 (.ofNat n)), (1, .int .u8 (.ofNat m))]
  (Eng.progS Try.prog (Eng.compDrawn Try.prog)) 1000 (Eng.evF (Eng.sumT [13]) (Eng.progS Try.prog (Eng.compDrawn Try.prog)) 1000 40) 7 [.int .u8 (.ofNat n), .int .u8 (.ofNat m)] Eng.H0)
theorem t0_0 : one 0 0 = fun _ _ => true := by kernel_rfl
theorem t0_1 : one 0 1 = fun _ _ => true := by kernel_rfl
theorem t0_2 : one 0 2 = fun _ _ => true := by kernel_rfl
theorem t0_3 : one 0 3 = fun _ _ => true := by kernel_rfl
theorem t0_4 : one 0 4 = fun _ _ => true := by kernel_rfl
theorem t0_5 : one 0 5 = fun _ _ => true := by kernel_rfl
theorem t0_6 : one 0 6 = fun _ _ => true := by kernel_rfl
theorem t0_7 : one 0 7 = fun _ _ => true := by kernel_rfl
theorem t0_8 : one 0 8 = fun _ _ => true := by kernel_rfl
theorem t0_9 : one 0 9 = fun _ _ => true := by kernel_rfl
theorem t0_10 : one 0 10 = fun _ _ => true := by kernel_rfl
theorem t0_11 : one 0 11 = fun _ _ => true := by kernel_rfl
theorem row0 : ∀ s, s < 12 → one 0 s = fun _ _ => true
  | 0, _ => t0_0
  | 1, _ => t0_1
  | 2, _ => t0_2
  | 3, _ => t0_3
  | 4, _ => t0_4
  | 5, _ => t0_5
  | 6, _ => t0_6
  | 7, _ => t0_7
  | 8, _ => t0_8
  | 9, _ => t0_9
  | 10, _ => t0_10
  | 11, _ => t0_11
  | s + 12, h => absurd h (by omega)
theorem t1_0 : one 1 0 = fun _ _ => true := by kernel_rfl
theorem t1_1 : one 1 1 = fun _ _ => true := by kernel_rfl
theorem t1_2 : one 1 2 = fun _ _ => true := by kernel_rfl
theorem t1_3 : one 1 3 = fun _ _ => true := by kernel_rfl
theorem t1_4 : one 1 4 = fun _ _ => true := by kernel_rfl
theorem t1_5 : one 1 5 = fun _ _ => true := by kernel_rfl
theorem t1_6 : one 1 6 = fun _ _ => true := by kernel_rfl
theorem t1_7 : one 1 7 = fun _ _ => true := by kernel_rfl
theorem t1_8 : one 1 8 = fun _ _ => true := by kernel_rfl
theorem t1_9 : one 1 9 = fun _ _ => true := by kernel_rfl
theorem t1_10 : one 1 10 = fun _ _ => true := by kernel_rfl
theorem t1_11 : one 1 11 = fun _ _ => true := by kernel_rfl
theorem row1 : ∀ s, s < 12 → one 1 s = fun _ _ => true
  | 0, _ => t1_0
  | 1, _ => t1_1
  | 2, _ => t1_2
  | 3, _ => t1_3
  | 4, _ => t1_4
  | 5, _ => t1_5
  | 6, _ => t1_6
  | 7, _ => t1_7
  | 8, _ => t1_8
  | 9, _ => t1_9
  | 10, _ => t1_10
  | 11, _ => t1_11
  | s + 12, h => absurd h (by omega)
theorem t2_0 : one 2 0 = fun _ _ => true := by kernel_rfl
theorem t2_1 : one 2 1 = fun _ _ => true := by kernel_rfl
theorem t2_2 : one 2 2 = fun _ _ => true := by kernel_rfl
theorem t2_3 : one 2 3 = fun _ _ => true := by kernel_rfl
theorem t2_4 : one 2 4 = fun _ _ => true := by kernel_rfl
theorem t2_5 : one 2 5 = fun _ _ => true := by kernel_rfl
theorem t2_6 : one 2 6 = fun _ _ => true := by kernel_rfl
theorem t2_7 : one 2 7 = fun _ _ => true := by kernel_rfl
theorem t2_8 : one 2 8 = fun _ _ => true := by kernel_rfl
theorem t2_9 : one 2 9 = fun _ _ => true := by kernel_rfl
theorem t2_10 : one 2 10 = fun _ _ => true := by kernel_rfl
theorem t2_11 : one 2 11 = fun _ _ => true := by kernel_rfl
theorem row2 : ∀ s, s < 12 → one 2 s = fun _ _ => true
  | 0, _ => t2_0
  | 1, _ => t2_1
  | 2, _ => t2_2
  | 3, _ => t2_3
  | 4, _ => t2_4
  | 5, _ => t2_5
  | 6, _ => t2_6
  | 7, _ => t2_7
  | 8, _ => t2_8
  | 9, _ => t2_9
  | 10, _ => t2_10
  | 11, _ => t2_11
  | s + 12, h => absurd h (by omega)
theorem t3_0 : one 3 0 = fun _ _ => true := by kernel_rfl
theorem t3_1 : one 3 1 = fun _ _ => true := by kernel_rfl
theorem t3_2 : one 3 2 = fun _ _ => true := by kernel_rfl
theorem t3_3 : one 3 3 = fun _ _ => true := by kernel_rfl
theorem t3_4 : one 3 4 = fun _ _ => true := by kernel_rfl
theorem t3_5 : one 3 5 = fun _ _ => true := by kernel_rfl
theorem t3_6 : one 3 6 = fun _ _ => true := by kernel_rfl
theorem t3_7 : one 3 7 = fun _ _ => true := by kernel_rfl
theorem t3_8 : one 3 8 = fun _ _ => true := by kernel_rfl
theorem t3_9 : one 3 9 = fun _ _ => true := by kernel_rfl
theorem t3_10 : one 3 10 = fun _ _ => true := by kernel_rfl
theorem t3_11 : one 3 11 = fun _ _ => true := by kernel_rfl
theorem row3 : ∀ s, s < 12 → one 3 s = fun _ _ => true
  | 0, _ => t3_0
  | 1, _ => t3_1
  | 2, _ => t3_2
  | 3, _ => t3_3
  | 4, _ => t3_4
  | 5, _ => t3_5
  | 6, _ => t3_6
  | 7, _ => t3_7
  | 8, _ => t3_8
  | 9, _ => t3_9
  | 10, _ => t3_10
  | 11, _ => t3_11
  | s + 12, h => absurd h (by omega)
theorem t4_0 : one 4 0 = fun _ _ => true := by kernel_rfl
theorem t4_1 : one 4 1 = fun _ _ => true := by kernel_rfl
theorem t4_2 : one 4 2 = fun _ _ => true := by kernel_rfl
theorem t4_3 : one 4 3 = fun _ _ => true := by kernel_rfl
theorem t4_4 : one 4 4 = fun _ _ => true := by kernel_rfl
theorem t4_5 : one 4 5 = fun _ _ => true := by kernel_rfl
theorem t4_6 : one 4 6 = fun _ _ => true := by kernel_rfl
theorem t4_7 : one 4 7 = fun _ _ => true := by kernel_rfl
theorem t4_8 : one 4 8 = fun _ _ => true := by kernel_rfl
theorem t4_9 : one 4 9 = fun _ _ => true := by kernel_rfl
theorem t4_10 : one 4 10 = fun _ _ => true := by kernel_rfl
theorem t4_11 : one 4 11 = fun _ _ => true := by kernel_rfl
theorem row4 : ∀ s, s < 12 → one 4 s = fun _ _ => true
  | 0, _ => t4_0
  | 1, _ => t4_1
  | 2, _ => t4_2
  | 3, _ => t4_3
  | 4, _ => t4_4
  | 5, _ => t4_5
  | 6, _ => t4_6
  | 7, _ => t4_7
  | 8, _ => t4_8
  | 9, _ => t4_9
  | 10, _ => t4_10
  | 11, _ => t4_11
  | s + 12, h => absurd h (by omega)
theorem t5_0 : one 5 0 = fun _ _ => true := by kernel_rfl
theorem t5_1 : one 5 1 = fun _ _ => true := by kernel_rfl
theorem t5_2 : one 5 2 = fun _ _ => true := by kernel_rfl
theorem t5_3 : one 5 3 = fun _ _ => true := by kernel_rfl
theorem t5_4 : one 5 4 = fun _ _ => true := by kernel_rfl
theorem t5_5 : one 5 5 = fun _ _ => true := by kernel_rfl
theorem t5_6 : one 5 6 = fun _ _ => true := by kernel_rfl
theorem t5_7 : one 5 7 = fun _ _ => true := by kernel_rfl
theorem t5_8 : one 5 8 = fun _ _ => true := by kernel_rfl
theorem t5_9 : one 5 9 = fun _ _ => true := by kernel_rfl
theorem t5_10 : one 5 10 = fun _ _ => true := by kernel_rfl
theorem t5_11 : one 5 11 = fun _ _ => true := by kernel_rfl
theorem row5 : ∀ s, s < 12 → one 5 s = fun _ _ => true
  | 0, _ => t5_0
  | 1, _ => t5_1
  | 2, _ => t5_2
  | 3, _ => t5_3
  | 4, _ => t5_4
  | 5, _ => t5_5
  | 6, _ => t5_6
  | 7, _ => t5_7
  | 8, _ => t5_8
  | 9, _ => t5_9
  | 10, _ => t5_10
  | 11, _ => t5_11
  | s + 12, h => absurd h (by omega)
theorem t6_0 : one 6 0 = fun _ _ => true := by kernel_rfl
theorem t6_1 : one 6 1 = fun _ _ => true := by kernel_rfl
theorem t6_2 : one 6 2 = fun _ _ => true := by kernel_rfl
theorem t6_3 : one 6 3 = fun _ _ => true := by kernel_rfl
theorem t6_4 : one 6 4 = fun _ _ => true := by kernel_rfl
theorem t6_5 : one 6 5 = fun _ _ => true := by kernel_rfl
theorem t6_6 : one 6 6 = fun _ _ => true := by kernel_rfl
theorem t6_7 : one 6 7 = fun _ _ => true := by kernel_rfl
theorem t6_8 : one 6 8 = fun _ _ => true := by kernel_rfl
theorem t6_9 : one 6 9 = fun _ _ => true := by kernel_rfl
theorem t6_10 : one 6 10 = fun _ _ => true := by kernel_rfl
theorem t6_11 : one 6 11 = fun _ _ => true := by kernel_rfl
theorem row6 : ∀ s, s < 12 → one 6 s = fun _ _ => true
  | 0, _ => t6_0
  | 1, _ => t6_1
  | 2, _ => t6_2
  | 3, _ => t6_3
  | 4, _ => t6_4
  | 5, _ => t6_5
  | 6, _ => t6_6
  | 7, _ => t6_7
  | 8, _ => t6_8
  | 9, _ => t6_9
  | 10, _ => t6_10
  | 11, _ => t6_11
  | s + 12, h => absurd h (by omega)
theorem t7_0 : one 7 0 = fun _ _ => true := by kernel_rfl
theorem t7_1 : one 7 1 = fun _ _ => true := by kernel_rfl
theorem t7_2 : one 7 2 = fun _ _ => true := by kernel_rfl
theorem t7_3 : one 7 3 = fun _ _ => true := by kernel_rfl
theorem t7_4 : one 7 4 = fun _ _ => true := by kernel_rfl
theorem t7_5 : one 7 5 = fun _ _ => true := by kernel_rfl
theorem t7_6 : one 7 6 = fun _ _ => true := by kernel_rfl
theorem t7_7 : one 7 7 = fun _ _ => true := by kernel_rfl
theorem t7_8 : one 7 8 = fun _ _ => true := by kernel_rfl
theorem t7_9 : one 7 9 = fun _ _ => true := by kernel_rfl
theorem t7_10 : one 7 10 = fun _ _ => true := by kernel_rfl
theorem t7_11 : one 7 11 = fun _ _ => true := by kernel_rfl
theorem row7 : ∀ s, s < 12 → one 7 s = fun _ _ => true
  | 0, _ => t7_0
  | 1, _ => t7_1
  | 2, _ => t7_2
  | 3, _ => t7_3
  | 4, _ => t7_4
  | 5, _ => t7_5
  | 6, _ => t7_6
  | 7, _ => t7_7
  | 8, _ => t7_8
  | 9, _ => t7_9
  | 10, _ => t7_10
  | 11, _ => t7_11
  | s + 12, h => absurd h (by omega)
theorem t8_0 : one 8 0 = fun _ _ => true := by kernel_rfl
theorem t8_1 : one 8 1 = fun _ _ => true := by kernel_rfl
theorem t8_2 : one 8 2 = fun _ _ => true := by kernel_rfl
theorem t8_3 : one 8 3 = fun _ _ => true := by kernel_rfl
theorem t8_4 : one 8 4 = fun _ _ => true := by kernel_rfl
theorem t8_5 : one 8 5 = fun _ _ => true := by kernel_rfl
theorem t8_6 : one 8 6 = fun _ _ => true := by kernel_rfl
theorem t8_7 : one 8 7 = fun _ _ => true := by kernel_rfl
theorem t8_8 : one 8 8 = fun _ _ => true := by kernel_rfl
theorem t8_9 : one 8 9 = fun _ _ => true := by kernel_rfl
theorem t8_10 : one 8 10 = fun _ _ => true := by kernel_rfl
theorem t8_11 : one 8 11 = fun _ _ => true := by kernel_rfl
theorem row8 : ∀ s, s < 12 → one 8 s = fun _ _ => true
  | 0, _ => t8_0
  | 1, _ => t8_1
  | 2, _ => t8_2
  | 3, _ => t8_3
  | 4, _ => t8_4
  | 5, _ => t8_5
  | 6, _ => t8_6
  | 7, _ => t8_7
  | 8, _ => t8_8
  | 9, _ => t8_9
  | 10, _ => t8_10
  | 11, _ => t8_11
  | s + 12, h => absurd h (by omega)
theorem t9_0 : one 9 0 = fun _ _ => true := by kernel_rfl
theorem t9_1 : one 9 1 = fun _ _ => true := by kernel_rfl
theorem t9_2 : one 9 2 = fun _ _ => true := by kernel_rfl
theorem t9_3 : one 9 3 = fun _ _ => true := by kernel_rfl
theorem t9_4 : one 9 4 = fun _ _ => true := by kernel_rfl
theorem t9_5 : one 9 5 = fun _ _ => true := by kernel_rfl
theorem t9_6 : one 9 6 = fun _ _ => true := by kernel_rfl
theorem t9_7 : one 9 7 = fun _ _ => true := by kernel_rfl
theorem t9_8 : one 9 8 = fun _ _ => true := by kernel_rfl
theorem t9_9 : one 9 9 = fun _ _ => true := by kernel_rfl
theorem t9_10 : one 9 10 = fun _ _ => true := by kernel_rfl
theorem t9_11 : one 9 11 = fun _ _ => true := by kernel_rfl
theorem row9 : ∀ s, s < 12 → one 9 s = fun _ _ => true
  | 0, _ => t9_0
  | 1, _ => t9_1
  | 2, _ => t9_2
  | 3, _ => t9_3
  | 4, _ => t9_4
  | 5, _ => t9_5
  | 6, _ => t9_6
  | 7, _ => t9_7
  | 8, _ => t9_8
  | 9, _ => t9_9
  | 10, _ => t9_10
  | 11, _ => t9_11
  | s + 12, h => absurd h (by omega)
theorem t10_0 : one 10 0 = fun _ _ => true := by kernel_rfl
theorem t10_1 : one 10 1 = fun _ _ => true := by kernel_rfl
theorem t10_2 : one 10 2 = fun _ _ => true := by kernel_rfl
theorem t10_3 : one 10 3 = fun _ _ => true := by kernel_rfl
theorem t10_4 : one 10 4 = fun _ _ => true := by kernel_rfl
theorem t10_5 : one 10 5 = fun _ _ => true := by kernel_rfl
theorem t10_6 : one 10 6 = fun _ _ => true := by kernel_rfl
theorem t10_7 : one 10 7 = fun _ _ => true := by kernel_rfl
theorem t10_8 : one 10 8 = fun _ _ => true := by kernel_rfl
theorem t10_9 : one 10 9 = fun _ _ => true := by kernel_rfl
theorem t10_10 : one 10 10 = fun _ _ => true := by kernel_rfl
theorem t10_11 : one 10 11 = fun _ _ => true := by kernel_rfl
theorem row10 : ∀ s, s < 12 → one 10 s = fun _ _ => true
  | 0, _ => t10_0
  | 1, _ => t10_1
  | 2, _ => t10_2
  | 3, _ => t10_3
  | 4, _ => t10_4
  | 5, _ => t10_5
  | 6, _ => t10_6
  | 7, _ => t10_7
  | 8, _ => t10_8
  | 9, _ => t10_9
  | 10, _ => t10_10
  | 11, _ => t10_11
  | s + 12, h => absurd h (by omega)
theorem t11_0 : one 11 0 = fun _ _ => true := by kernel_rfl
theorem t11_1 : one 11 1 = fun _ _ => true := by kernel_rfl
theorem t11_2 : one 11 2 = fun _ _ => true := by kernel_rfl
theorem t11_3 : one 11 3 = fun _ _ => true := by kernel_rfl
theorem t11_4 : one 11 4 = fun _ _ => true := by kernel_rfl
theorem t11_5 : one 11 5 = fun _ _ => true := by kernel_rfl
theorem t11_6 : one 11 6 = fun _ _ => true := by kernel_rfl
theorem t11_7 : one 11 7 = fun _ _ => true := by kernel_rfl
theorem t11_8 : one 11 8 = fun _ _ => true := by kernel_rfl
theorem t11_9 : one 11 9 = fun _ _ => true := by kernel_rfl
theorem t11_10 : one 11 10 = fun _ _ => true := by kernel_rfl
theorem t11_11 : one 11 11 = fun _ _ => true := by kernel_rfl
theorem row11 : ∀ s, s < 12 → one 11 s = fun _ _ => true
  | 0, _ => t11_0
  | 1, _ => t11_1
  | 2, _ => t11_2
  | 3, _ => t11_3
  | 4, _ => t11_4
  | 5, _ => t11_5
  | 6, _ => t11_6
  | 7, _ => t11_7
  | 8, _ => t11_8
  | 9, _ => t11_9
  | 10, _ => t11_10
  | 11, _ => t11_11
  | s + 12, h => absurd h (by omega)
theorem all : ∀ r s, r < 12 → s < 12 → one r s = fun _ _ => true
  | 0, s, _, h => row0 s h
  | 1, s, _, h => row1 s h
  | 2, s, _, h => row2 s h
  | 3, s, _, h => row3 s h
  | 4, s, _, h => row4 s h
  | 5, s, _, h => row5 s h
  | 6, s, _, h => row6 s h
  | 7, s, _, h => row7 s h
  | 8, s, _, h => row8 s h
  | 9, s, _, h => row9 s h
  | 10, s, _, h => row10 s h
  | 11, s, _, h => row11 s h
  | r + 12, s, h, _ => absurd h (by omega)
theorem byte {a : Int} (h : (Lit.int .u8 a).wf = true) : ∃ n : Nat, a = n := by
  have h0 : 0 ≤ a := by
    have hm : IntKind.u8.min = 0 := rfl
    simp [Lit.wf, hm] at h
    omega
  exact ⟨a.toNat, by omega⟩
theorem walk (a b : Int) (W : World) (wa : (Lit.int .u8 a).wf = true) (wb : (Lit.int .u8 b).wf = true) : Calls Try.prog 7 #[.int .u8 a, .int .u8 b] W fun e W' => e = .returned (.bool true) ∧ Below W.heap.size W W' := by
  obtain ⟨n, rfl⟩ := byte wa
  obtain ⟨m, rfl⟩ := byte wb
  have e := congrFun (congrFun (all (n % 12) (m % 12) (Nat.mod_lt _ (by decide)) (Nat.mod_lt _ (by decide))) n) m
  refine Eng.spec_law Eng.compDrawn_ok (Eng.sumT_ok trues) 1000 40 7 W [.int .u8 (.ofNat n), .int .u8 (.ofNat m)] _ ?_ [(0, .int .u8 (.ofNat n)), (1, .int .u8 (.ofNat m))] ?_ _
    (Eng.orQ_ok (Eng.remIs_ok (n := n) (by decide) rfl (by simp)) (Eng.remIs_ok (n := m) (by decide) rfl (by simp))) e
  · rw [Eng.VRs_cons]
    refine ⟨_, _, rfl, by rw [Eng.VR_int]; rfl, ?_⟩
    rw [Eng.VRs_cons]
    exact ⟨_, _, rfl, by rw [Eng.VR_int]; rfl, by rw [Eng.VRs_nil]⟩
  · intro p hp
    simp only [List.mem_cons, List.not_mem_nil, or_false] at hp
    rcases hp with rfl | rfl <;> rfl
set_option maxRecDepth 100000 in
theorem lifted (os : Os) (started : os.Started) (H : Type) (enc : TypeId × Value → H) :
    ReturnsInHanded {} Try.checked os 7 .any (Rows.sectTwiceSpec.pre6 enc Try.prog Try.f7 Rows.sectTwiceRow.domain false) (Rows.sectTwiceSpec.post enc Try.prog Try.f7 false true false false) := by
  refine returnsInHanded_of_change_sized (C := Try.checked) own started (by kernel_rfl) Try.func7
    (ChangeSpec.witness6 (enc := enc) (C := Try.checked) false ⟨#[], #[.int .u8 0, .int .u8 0], []⟩ 8 (by kernel_rfl) (by kernel_rfl) (by kernel_rfl) (by kernel_rfl)) ?_
  intro W base args ds gs before hval0 hW hcnd hsz0 _
  have hval : ∀ (j : Nat) t v, Try.f7.params[j]? = some t → args[j]? = some v → Value.okWide Try.prog W .any base t v := hval0
  have hW' := hW
  obtain ⟨p, q, hA0, hV, rfl, hfz, hnd⟩ := hW
  have hA : DataW.TrodAll enc Try.prog W 0 (fun _ => true) true Try.f7.params.toList args.toList ds p := hA0
  rw [Try.params7] at hA hval
  obtain ⟨v0, vs0, d0, ds0, p0, q0, hargs, rfl, rfl, h0, r0⟩ := trodAll_cons hA
  obtain ⟨v1, vs1, d1, ds1, p1, q1, rfl, rfl, rfl, h1, r1⟩ := trodAll_cons r0
  obtain ⟨rfl, rfl, rfl⟩ := trodAll_nil r1
  obtain rfl : args = #[v0, v1] := by cases args; simp_all
  obtain ⟨rfl, rfl⟩ := trodVars_none hV
  obtain ⟨a0, rfl, rfl, rfl, w0⟩ := open_int Try.underlying5 (hval 0 5 v0 rfl rfl) h0
  obtain ⟨a1, rfl, rfl, rfl, w1⟩ := open_int Try.underlying5 (hval 1 5 v1 rfl rfl) h1
  clear hA0 hval0 hsz0
  refine (walk a0 a1 W w0 w1).mono fun e W' ⟨he, bel⟩ => ?_
  subst he
  exact ⟨_, rfl, _, _, _, [], _, [], hW', trodAll_mk1 (shut_bool Try.underlying4 _), (trodAll_cons_mk (shut_int Try.underlying5 w0) (trodAll_cons_mk (shut_int Try.underlying5 w1) trodAll_mk0)), rfl, bel.frame _, fun h => by cases h⟩
theorem over : Rows.sectTwiceRow.holds Try.pinned (OpenSpec.ofChange Rows.sectTwiceSpec) :=
  OpenClaim.holds_of_wide 7 Try.f7 rfl rfl rfl rfl rfl rfl rfl ⟨rfl, rfl, rfl, rfl, rfl⟩ rfl rfl rfl rfl rfl (by kernel_rfl) Try.func7 (by kernel_rfl)
    (of_decide_eq_true (by kernel_rfl)) (by unfold Func.isWrapper; first | (rw [if_pos (by decide +kernel)]; kernel_rfl) | (rw [if_neg (by decide +kernel)]; exact ⟨rfl, rfl⟩))
    (fun os started H enc _ => lifted os started H enc)
theorem proved : Rows.SectTwiceSaid := over
end Go.Proofs.Ytkjcmmniicgbmaa.sectTwice
