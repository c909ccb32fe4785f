/- The engine, part 36: struct arguments. -/
import Derived.Test.YtejiebbbodealaaEngS35
import Derived.ChangeSlices
import Derived.WideShapes
import Derived.SizedLaws
set_option linter.unusedVariables false
set_option linter.unusedSimpArgs false
namespace Eng
open Go Go.RowKit Go.ChangeShapes Go.WideShapes
section
variable {H : Type} {enc : TypeId × Value → H} {P : Program} {W : World}
theorem trod_struct {t : TypeId} {fs : Array Field} {v : Value} {d : DataW H} {p : List MemPlace} {base : Nat} {sp : Nat → Bool} {held : Bool} (ht : P.underlying t = some (.struct fs))
    (h0 : DataW.Trod enc P W base sp held t v d p) : ∃ fuel xs, (fs.toList.mapM fun f => DataW.trod enc P W base sp held fuel f.type ((v.cells.toList.drop f.offset).take (P.cellsOf f.type))) = some xs ∧ d = .agg (xs.map (·.1)) ∧ p = xs.flatMap (·.2) ∧ v.cells.toList.length = P.cellsOf t := by
  obtain ⟨fuel, hf⟩ := h0
  cases fuel with
  | zero => cases hf
  | succ fuel =>
    unfold DataW.trod at hf
    rw [ht] at hf
    simp only at hf
    split at hf
    · rename_i hl
      cases hm : (fs.toList.mapM fun f => DataW.trod enc P W base sp held fuel f.type ((v.cells.toList.drop f.offset).take (P.cellsOf f.type))) with
      | none => rw [hm] at hf; cases hf
      | some xs =>
        rw [hm] at hf
        cases hf
        exact ⟨fuel, xs, hm, rfl, rfl, hl⟩
    · cases hf
theorem bytes_argW {t e : TypeId} {v : Value} {d : DataW H} {p : List MemPlace} {base : Nat} (ht : P.underlying t = some (.slice e)) (he : P.underlying e = some (.int .u8)) (hc : P.cellsOf e = 1) (hb : P.bytesOf e = 1)
    (hw : ∀ n ∈ d.weights P t, n ≤ reachBytes) (h0 : DataW.Trod enc P W 0 (fun _ => true) true t v d p) (hv : Value.okWide P W .any base t v) : ∃ a : BArg, a.v = v ∧ a.lies W ∧ a.l.length ≤ 140737488351232 := by
  obtain ⟨a, h1, h2, h3, h4⟩ := bytes_arg ht he hc h0 hv
  refine ⟨a, h1, h2, ?_⟩
  rcases h4 with h4 | ⟨es, sp, rfl, h4⟩
  · rw [h4]; exact Nat.zero_le _
  · have := hw ((es.length + sp.length) * P.bytesOf e) (by simp [DataW.weights, ht])
    rw [hb] at this
    have h5 : reachBytes = 140737488351232 := rfl
    omega
theorem pair_arg {t a e : TypeId} {f1 f2 : Field} {v : Value} {d : DataW H} {p : List MemPlace} {base : Nat} (ht : P.underlying t = some (.struct #[f1, f2])) (hts : P.cellTypes P.depth t = some [a, a]) (h1 : f1.type = a) (h2 : f2.type = a) (o1 : f1.offset = 0) (o2 : f2.offset = 1) (hct : P.cellsOf t = 2) (hca : P.cellsOf a = 1)
    (hta : P.underlying a = some (.slice e)) (he : P.underlying e = some (.int .u8)) (hc : P.cellsOf e = 1) (hbs : P.bytesOf e = 1) (hw : ∀ n ∈ d.weights P t, n ≤ reachBytes)
    (h0 : DataW.Trod enc P W 0 (fun _ => true) true t v d p) (hv : Value.okWide P W .any base t v) :
    ∃ x y : BArg, v = .agg #[x.v, y.v] ∧ x.lies W ∧ y.lies W ∧ x.l.length ≤ 140737488351232 ∧ y.l.length ≤ 140737488351232 := by
  obtain ⟨fuel, xs, hm, hd, _, hl⟩ := trod_struct ht h0
  unfold Value.okWide at hv
  rw [ht] at hv
  obtain ⟨cs, rfl, hs, ts, hts', _, hcell⟩ := hv
  rw [hts] at hts'
  cases hts'
  rw [hct] at hs
  obtain ⟨x, y, rfl⟩ : ∃ x y, cs = #[x, y] := by
    obtain ⟨l⟩ := cs
    match l, hs with
    | [x, y], _ => exact ⟨x, y, rfl⟩
  have kx : Value.okWide P W .any base a x := by
    obtain ⟨u, hu, hk⟩ := hcell 0 x rfl
    cases hu
    unfold Value.okWide; rw [hta]; exact hk
  have ky : Value.okWide P W .any base a y := by
    obtain ⟨u, hu, hk⟩ := hcell 1 y rfl
    cases hu
    unfold Value.okWide; rw [hta]; exact hk
  have hm : ([f1, f2].mapM fun f => DataW.trod enc P W 0 (fun _ => true) true fuel f.type (([x, y].drop f.offset).take (P.cellsOf f.type))) = some xs := hm
  simp only [List.mapM_cons, List.mapM_nil, h1, h2, o1, o2, hca] at hm
  have hx : [x].take 1 = [x] := rfl
  simp only [List.drop_zero, List.drop_succ_cons, List.take_succ_cons, List.take_zero] at hm
  cases hm1 : DataW.trod enc P W 0 (fun _ => true) true fuel a [x] with
  | none => rw [hm1] at hm; cases hm
  | some r1 =>
    rw [hm1] at hm
    cases hm2 : DataW.trod enc P W 0 (fun _ => true) true fuel a [y] with
    | none => rw [hm2] at hm; cases hm
    | some r2 =>
      obtain ⟨ax, lx, cx, ex⟩ := okWide_slice hta kx
      obtain ⟨ay, ly, cy, ey⟩ := okWide_slice hta ky
      have tx : DataW.Trod enc P W 0 (fun _ => true) true a x r1.1 r1.2 := ⟨fuel, by subst ex; exact hm1⟩
      have ty : DataW.Trod enc P W 0 (fun _ => true) true a y r2.1 r2.2 := ⟨fuel, by subst ey; exact hm2⟩
      rw [hm2] at hm
      cases hm
      subst hd
      have hws : ∀ n ∈ DataW.weightsEach P [a, a] [r1.1, r2.1], n ≤ reachBytes := fun n hn => hw n (by
        simp only [DataW.weights, ht]
        simpa [h1, h2] using hn)
      obtain ⟨b1, e1, l1, n1⟩ := bytes_argW hta he hc hbs (fun n hn => hws n (by simp only [DataW.weightsEach]; simp [hn])) tx kx
      obtain ⟨b2, e2, l2, n2⟩ := bytes_argW hta he hc hbs (fun n hn => hws n (by simp only [DataW.weightsEach]; simp [hn])) ty ky
      exact ⟨b1, b2, by rw [e1, e2], l1, l2, n1, n2⟩
theorem lim_arg {t a c : TypeId} {fs : Array Field} {v : Value} {base : Nat} (ht : P.underlying t = some (.struct fs)) (hts : P.cellTypes P.depth t = some [a, a, c]) (hct : P.cellsOf t = 3)
    (hta : P.underlying a = some (.int .u32)) (htc : P.underlying c = some .bool)
    (hv : Value.okWide P W .any base t v) : ∃ (n m : Nat) (b : Bool), v = .agg #[.int .u32 (.ofNat n), .int .u32 (.ofNat m), .bool b] ∧ n < 4294967296 ∧ m < 4294967296 := by
  unfold Value.okWide at hv
  rw [ht] at hv
  obtain ⟨cs, rfl, hs, ts, hts', _, hcell⟩ := hv
  rw [hts] at hts'
  cases hts'
  rw [hct] at hs
  obtain ⟨x, y, z, rfl⟩ : ∃ x y z, cs = #[x, y, z] := by
    obtain ⟨l⟩ := cs
    match l, hs with
    | [x, y, z], _ => exact ⟨x, y, z, rfl⟩
  have ki : ∀ (w : Value), Cell.okWide P W .any base a w → ∃ n : Nat, w = .int .u32 (.ofNat n) ∧ n < 4294967296 := fun w hk => by
    have : ∃ n, w = .int .u32 n ∧ IntKind.u32.has n := by
      unfold Cell.okWide Cell.ok at hk
      rw [hta] at hk
      cases w <;> simp_all
    obtain ⟨n, rfl, hn⟩ := this
    have h1 : IntKind.u32.min = 0 := rfl
    have h2 : IntKind.u32.max = 4294967295 := rfl
    unfold IntKind.has at hn
    exact ⟨n.toNat, by simp; omega, by omega⟩
  obtain ⟨u1, hu1, k1⟩ := hcell 0 x rfl
  obtain ⟨u2, hu2, k2⟩ := hcell 1 y rfl
  obtain ⟨u3, hu3, k3⟩ := hcell 2 z rfl
  cases hu1; cases hu2; cases hu3
  obtain ⟨n, rfl, hn⟩ := ki x k1
  obtain ⟨m, rfl, hm⟩ := ki y k2
  obtain ⟨b, rfl⟩ : ∃ b, z = .bool b := by
    have : Value.okWide P W .any base c z := by unfold Value.okWide; rw [htc]; exact k3
    exact okWide_bool htc this
  exact ⟨n, m, b, rfl, hn, hm⟩
end
theorem VR_pair {μ : Mp} {a b : AV} {x y : Value} (h1 : VR μ a x) (h2 : VR μ b y) : VR μ (.agg [a, b]) (.agg #[x, y]) := by
  rw [VR_agg]
  refine ⟨_, rfl, ?_⟩
  show VRs μ [a, b] [x, y]
  rw [VRs_cons]
  exact ⟨_, _, rfl, h1, .cell h2⟩
theorem VR_lim {μ : Mp} {n m : Nat} {b : Bool} : VR μ (.agg [.int .u32 (.ofNat n), .int .u32 (.ofNat m), .bool b]) (.agg #[.int .u32 (.ofNat n), .int .u32 (.ofNat m), .bool b]) := by
  rw [VR_agg]
  refine ⟨_, rfl, ?_⟩
  show VRs μ [_, _, _] [_, _, _]
  rw [VRs_cons]
  refine ⟨_, _, rfl, by rw [VR_int], ?_⟩
  rw [VRs_cons]
  exact ⟨_, _, rfl, by rw [VR_int], .cell (by rw [VR_bool])⟩
end Eng
