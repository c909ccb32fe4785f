/- The engine, part 30: what a law starts from: arguments that are slices. -/
import Derived.Test.YtejiebbbodealaaEngS29
import Derived.ChangeSlices
set_option linter.unusedVariables false
set_option linter.unusedSimpArgs false
namespace Eng
open Go Go.RowKit
theorem heap_of : ∀ (n : Nat) (f : Nat → Blk), ∃ h : Hp, h.next = n ∧ (∀ b, b < n → hget h b = some (f b)) ∧ ∀ b, n ≤ b → hget h b = none
  | 0, f => ⟨⟨0, .lf⟩, rfl, fun b hb => absurd hb (Nat.not_lt_zero _), fun b _ => tget_lf _⟩
  | n + 1, f => by
    obtain ⟨h, h1, h2, h3⟩ := heap_of n f
    refine ⟨hpush h (f n), by rw [hpush_next, h1], fun b hb => ?_, fun b hb => ?_⟩
    · by_cases e : b = n
      · subst e; rw [← h1, hget_hpush, h1]
      · rw [hget_hpush_ne _ _ (by omega)]; exact h2 b (by omega)
    · rw [hget_hpush_ne _ _ (by omega)]; exact h3 b (by omega)
def startM (n : Nat) (f : Nat → Nat × Nat) (w : World) : Mp := ⟨fun b => if b < n then some (f b) else none, fun _ => false, fun c => match w.heap[c]? with | some (.cells arr _ _) => arr.size | _ => 0⟩
theorem start_ok {n : Nat} {f : Nat → Nat × Nat} {g : Nat → List AV} {w : World} (hf : ∀ b, b < n → ∃ arr e fr, w.heap[(f b).1]? = some (.cells arr e fr) ∧ (∀ v ∈ g b, isCell v = true) ∧ ∀ (i : Nat) (v : AV), (g b)[i]? = some v → ∃ x, arr[(f b).2 + i]? = some x ∧ VR (startM n f w) v x) :
    ∃ h : Hp, h.next = n ∧ (∀ b, b < n → hget h b = some (.cells (g b) (g b).length .ro)) ∧ Sim (startM n f w) h w := by
  obtain ⟨h, h1, h2, h3⟩ := heap_of n fun b => .cells (g b) (g b).length .ro
  have hat : ∀ b c s, (startM n f w).at_ b = some (c, s) → b < n ∧ f b = (c, s) := fun b c s e => by
    have e : (if b < n then some (f b) else none) = some (c, s) := e
    split at e
    · exact ⟨‹_›, Option.some.inj e⟩
    · cases e
  refine ⟨h, h1, h2, ?_, fun b hb => h3 b (by omega), ?_, ?_, ?_, ?_⟩
  · intro b hb
    show (if b < n then some (f b) else none) = none
    rw [if_neg (by omega)]
  · intro b c s e
    obtain ⟨hb, he⟩ := hat b c s e
    obtain ⟨arr, e', fr, hh, _⟩ := hf b hb
    rw [he] at hh
    exact (Array.getElem?_eq_some_iff.1 hh).1
  · intro b c s x e hg
    obtain ⟨hb, he⟩ := hat b c s e
    rw [h2 b hb] at hg
    cases hg
    obtain ⟨arr, e', fr, hh, hc, hv⟩ := hf b hb
    rw [he] at hh hv
    refine ⟨rfl, hc, ⟨fun h => (by cases h), fun h => absurd rfl h⟩, arr, e', fr, hh, ?_, fun h => (by cases h), hv⟩
    show arr.size = match w.heap[c]? with | some (.cells arr _ _) => arr.size | _ => 0
    rw [hh]
  · intro b b' c s s' x x' _ _ _ ho
    cases ho
  · intro b c s cs m p e hg
    obtain ⟨hb, he⟩ := hat b c s e
    rw [h2 b hb] at hg
    cases hg
theorem Goes.below' {μ μ' : Mp} {h h' : Hp} {w w' : World} (hm : ∀ c, μ.own c = false) (g : Goes μ h w μ' h' w') : Below w.heap.size w w' := ⟨g.os, g.tape, g.output, g.heap, fun k hk => g.kept k hk (hm k)⟩
theorem start_law {P : Program} {D : Nat → Array Oper → AC} (hD : DrawOk P D) {M : Nat → Option (List AV → Hp → RV)} (hM : Good P fun f args h => ocase .no (fun m => m args h) (M f)) {N d f : Nat} {w : World} {μ : Mp} {h h' : Hp} (hs : Sim μ h w) (hm : ∀ c, μ.own c = false)
    {args : List AV} {cargs : Array Value} (r : VRs μ args cargs.toList) (e : evF M (progS P D) N d f args h = .ok (.bool true) h') : Calls P f cargs w fun e w' => e = .returned (.bool true) ∧ Below w.heap.size w w' := by
  refine (evF_ok hD hM N d f args h _ h' μ w cargs e hs r).2.mono fun e w' hR => ?_
  obtain ⟨μ', y, rfl, ry, hs', g⟩ := hR
  rw [VR_bool] at ry
  subst ry
  exact ⟨rfl, g.below' hm⟩
structure BArg where
  v : Value
  c : Nat
  s : Nat
  l : List Nat
def BArg.lies (w : World) (a : BArg) : Prop := (∀ x ∈ a.l, x < 256) ∧ ((a.v = .slice none 0 0 ∧ a.l = []) ∨ ∃ cap arr e fr, a.v = .slice (some ⟨a.c, a.s, none⟩) a.l.length cap ∧ w.heap[a.c]? = some (.cells arr e fr) ∧ a.l.length ≤ cap ∧ (cap ≠ 0 → a.s + cap ≤ arr.size) ∧
  ∀ (i : Nat) (x : Nat), a.l[i]? = some x → arr[a.s + i]? = some (.int .u8 (.ofNat x)))
theorem u8s_at {l : List Nat} {i : Nat} {v : AV} (h : (u8s l)[i]? = some v) : ∃ x, l[i]? = some x ∧ v = .int .u8 (.ofNat x) := by
  rw [u8s_eq, List.getElem?_map] at h
  cases hl : l[i]? with
  | none => rw [hl] at h; cases h
  | some x => rw [hl] at h; cases h; exact ⟨x, rfl, rfl⟩
theorem start_bytes {w : World} (as : List BArg) (ha : ∀ a ∈ as, a.lies w) : ∃ (μ : Mp) (h : Hp) (vs : List AV), Sim μ h w ∧ (∀ c, μ.own c = false) ∧ vs.length = as.length ∧
    (∀ (i : Nat) (v : AV) (a : BArg), vs[i]? = some v → as[i]? = some a → VR μ v a.v ∧ Bytes h.next h v a.l) ∧ h.next ≤ as.length := by
  classical
  have key : ∀ (n : Nat) (bs : List BArg), bs.length = n → (∀ a ∈ bs, a.lies w ∧ a.v ≠ .slice none 0 0) → ∃ (μ : Mp) (h : Hp), Sim μ h w ∧ (∀ c, μ.own c = false) ∧ h.next = n ∧ ∀ (i : Nat) (a : BArg), bs[i]? = some a → ∃ v, VR μ v a.v ∧ Bytes h.next h v a.l := by
    intro n bs hn hbs
    let f : Nat → Nat × Nat := fun b => match bs[b]? with | some a => (a.c, a.s) | none => (0, 0)
    let g : Nat → List AV := fun b => match bs[b]? with | some a => u8s a.l | none => []
    have hfb : ∀ b a, bs[b]? = some a → f b = (a.c, a.s) := fun b a h => by show (match bs[b]? with | some a => (a.c, a.s) | none => (0, 0)) = _; rw [h]
    have hgb : ∀ b a, bs[b]? = some a → g b = u8s a.l := fun b a h => by show (match bs[b]? with | some a => u8s a.l | none => []) = _; rw [h]
    have hsome : ∀ b, b < n → ∃ a, bs[b]? = some a := fun b hb => ⟨bs[b], List.getElem?_eq_getElem (by omega)⟩
    obtain ⟨h, h1, h2, h3⟩ := start_ok (n := n) (f := f) (g := g) (w := w) fun b hb => by
      obtain ⟨a, ha⟩ := hsome b hb
      rw [hfb b a ha, hgb b a ha]
      obtain ⟨⟨hlt, hl⟩, hne⟩ := hbs a (List.mem_of_getElem? ha)
      rcases hl with ⟨h0, _⟩ | ⟨cap, arr, e, fr, hv, hh, hc, hs, hx⟩
      · exact absurd h0 hne
      · refine ⟨arr, e, fr, hh, fun v hv => ?_, fun i v hv => ?_⟩
        · obtain ⟨i, hi⟩ := List.getElem?_of_mem hv
          obtain ⟨x, _, rfl⟩ := u8s_at hi; rfl
        · obtain ⟨x, h1, rfl⟩ := u8s_at hv
          exact ⟨_, hx i x h1, by rw [VR_int]⟩
    refine ⟨_, h, h3, fun _ => rfl, h1, fun i a hi => ?_⟩
    have hin : i < n := by have := (List.getElem?_eq_some_iff.1 hi).1; omega
    obtain ⟨⟨hlt, hl⟩, hne⟩ := hbs a (List.mem_of_getElem? hi)
    rcases hl with ⟨h0, _⟩ | ⟨cap, arr, e, fr, hv, hh, hc, hs, hx⟩
    · exact absurd h0 hne
    · refine ⟨.slice i 0 a.l.length cap 1 true, ?_, ?_⟩
      · rw [hv]
        unfold VR
        refine ⟨a.c, a.s, a.s, cap, ?_, rfl, hc, Nat.le_refl _, fun _ => rfl, fun h0 => ⟨rfl, ?_⟩⟩
        · show (if i < n then some (f i) else none) = _
          rw [if_pos hin, hfb i a hi]
        · show a.s + 0 + cap * 1 ≤ match w.heap[a.c]? with | some (.cells arr _ _) => arr.size | _ => 0
          rw [hh]
          have := hs h0
          show a.s + 0 + cap * 1 ≤ arr.size
          omega
      · have hg2 := h2 i hin
        rw [hgb i a hi] at hg2
        exact .sl (by omega) hg2 rfl (by rw [List.drop_zero, List.take_of_length_le (by rw [u8s_length]; exact Nat.le_refl _)]) (by rw [u8s_length]; omega) hc hlt
  let bs := as.filter fun a => decide (a.v ≠ .slice none 0 0)
  obtain ⟨μ, h, hs, hm, hn, hv⟩ := key bs.length bs rfl fun a h => by
    have := List.mem_filter.1 h
    exact ⟨ha a this.1, by simpa using this.2⟩
  have each : ∀ a ∈ as, ∃ v, VR μ v a.v ∧ Bytes h.next h v a.l := fun a hm' => by
    by_cases h0 : a.v = .slice none 0 0
    · rcases (ha a hm').2 with ⟨_, hl⟩ | ⟨cap, arr, e, fr, hv', _⟩
      · refine ⟨.nilSlice, ?_, ?_⟩
        · rw [h0]; unfold VR; rfl
        · rw [hl]; exact .nil
      · rw [hv'] at h0; cases h0
    · have : a ∈ bs := List.mem_filter.2 ⟨hm', by simpa using h0⟩
      obtain ⟨i, hi⟩ := List.getElem?_of_mem this
      exact hv i a hi
  refine ⟨μ, h, as.attach.map fun a => (each a.1 a.2).choose, hs, hm, by simp, fun i v a hvi hai => ?_, ?_⟩
  · rw [List.getElem?_map] at hvi
    cases hat : as.attach[i]? with
    | none => rw [hat] at hvi; cases hvi
    | some a' =>
      rw [hat] at hvi
      cases hvi
      have : a'.1 = a := by
        have h2 : as.attach[i]?.map (·.1) = as[i]? := by rw [← List.getElem?_map, List.attach_map_subtype_val]
        rw [hat, hai] at h2
        exact Option.some.inj h2
      subst this
      exact (each a'.1 a'.2).choose_spec
  · rw [hn]; exact List.length_filter_le _ _
end Eng
namespace Eng
open Go Go.RowKit Go.ChangeShapes Go.WideShapes
theorem bytes_arg {H : Type} {enc : TypeId × Value → H} {P : Program} {W : World} {t e : TypeId} {v : Value} {d : DataW H} {p : List MemPlace} {base : Nat} (ht : P.underlying t = some (.slice e)) (he : P.underlying e = some (.int .u8)) (hc : P.cellsOf e = 1)
    (h0 : DataW.Trod enc P W 0 (fun _ => true) true t v d p) (hv : Value.okWide P W .any base t v)   : ∃ a : BArg, a.v = v ∧ a.lies W ∧ a.l.length ≤ maxLen ∧ (a.l = [] ∨ ∃ es sp, d = .slice es sp ∧ es.length = a.l.length) := by
  obtain ⟨a0, len, cap, rfl⟩ := okWide_slice ht hv
  obtain ⟨fuel, hf⟩ := h0
  rcases open_ints ht he hc hf with ⟨hcs, _⟩ | ⟨a, len', cap', zs, hcs, _, hl, hm, hz, hd, hcell, hwf⟩
  · simp [Value.cells] at hcs
    obtain ⟨rfl, rfl, rfl⟩ := hcs
    exact ⟨⟨.slice none 0 0, 0, 0, []⟩, rfl, ⟨by simp, .inl ⟨rfl, rfl⟩⟩, Nat.zero_le _, .inl rfl⟩
  · simp [Value.cells] at hcs
    obtain ⟨rfl, rfl, rfl⟩ := hcs
    simp only [if_true] at hz
    have hhas : W.has P .any base a e cap := by
      unfold Value.okWide Cell.okWide Cell.ok at hv
      rw [ht] at hv
      exact hv.2.2
    obtain ⟨_, hsp, row, cells, hsh, _⟩ := hhas
    obtain ⟨b, o, sp⟩ := a
    have hsp : sp = none := hsp
    subst hsp
    have hh : ∃ arr e' fr, W.heap[b]? = some (.cells arr e' fr) := by
      have hsh : W.shape? b = some (row, cells) := hsh
      unfold World.shape? at hsh
      split at hsh
      · rename_i c el fr h; exact ⟨c, el, fr, h⟩
      · cases hsh
    obtain ⟨arr, e', fr, hh⟩ := hh
    have hat : ∀ i, i < cap → arr[o + i]? = some (.int .u8 (zs.getD i 0)) := fun i hi => by
      have := hcell i (by omega)
      rw [addr_add] at this
      unfold World.cell? at this
      simpa [hh] using this
    have hbyte : ∀ z ∈ zs, 0 ≤ z ∧ z < 256 := fun z hz' => by
      have h := hwf z hz'
      have h1 : IntKind.u8.min = 0 := rfl
      have h2 : IntKind.u8.max = 255 := rfl
      simp only [Lit.wf, Bool.and_eq_true, decide_eq_true_eq] at h
      omega
    have hlen : ((zs.take len).map Int.toNat).length = len := by simp; omega
    refine ⟨⟨.slice (some ⟨b, o, none⟩) len cap, b, o, (zs.take len).map Int.toNat⟩, rfl, ⟨?_, .inr ⟨cap, arr, e', fr, by rw [hlen], hh, by rw [hlen]; exact hl, fun h0 => ?_, fun i x hx => ?_⟩⟩, by rw [hlen]; omega, .inr ⟨_, _, congrArg Prod.fst hd, by rw [hlen]; simp [lits]; omega⟩⟩
    · intro x hx
      obtain ⟨z, hz', rfl⟩ := List.mem_map.1 hx
      have := hbyte z (List.mem_of_mem_take hz')
      omega
    · have := hat (cap - 1) (by omega)
      have := (Array.getElem?_eq_some_iff.1 this).1
      show o + cap ≤ arr.size
      omega
    · have hx : ((zs.take len).map Int.toNat)[i]? = some x := hx
      have hi : i < len := by have := (List.getElem?_eq_some_iff.1 hx).1; omega
      rw [List.getElem?_map, List.getElem?_take_of_lt hi] at hx
      show arr[o + i]? = some (.int .u8 (.ofNat x))
      rw [hat i (by omega), List.getD_eq_getElem?_getD]
      cases hz' : zs[i]? with
      | none => rw [hz'] at hx; cases hx
      | some z =>
        rw [hz'] at hx
        cases hx
        have := hbyte z (List.mem_of_getElem? hz')
        simp only [Option.getD_some]
        rw [show (Int.ofNat z.toNat) = z by simp; omega]
theorem u64_wf {x : Int} (h : (Lit.int .u64 x).wf = true) : ∃ n : Nat, x = .ofNat n ∧ n < 18446744073709551616 := by
  have h1 : IntKind.u64.min = 0 := rfl
  have h2 : IntKind.u64.max = 18446744073709551615 := rfl
  simp only [Lit.wf, Bool.and_eq_true, decide_eq_true_eq] at h
  exact ⟨x.toNat, by simp; omega, by omega⟩
theorem u32_wf {x : Int} (h : (Lit.int .u32 x).wf = true) : ∃ n : Nat, x = .ofNat n ∧ n < 4294967296 := by
  have h1 : IntKind.u32.min = 0 := rfl
  have h2 : IntKind.u32.max = 4294967295 := rfl
  simp only [Lit.wf, Bool.and_eq_true, decide_eq_true_eq] at h
  exact ⟨x.toNat, by simp; omega, by omega⟩
theorem u16_wf {x : Int} (h : (Lit.int .u16 x).wf = true) : ∃ n : Nat, x = .ofNat n ∧ n < 65536 := by
  have h1 : IntKind.u16.min = 0 := rfl
  have h2 : IntKind.u16.max = 65535 := rfl
  simp only [Lit.wf, Bool.and_eq_true, decide_eq_true_eq] at h
  exact ⟨x.toNat, by simp; omega, by omega⟩
theorem u8_wf {x : Int} (h : (Lit.int .u8 x).wf = true) : ∃ n : Nat, x = .ofNat n ∧ n < 256 := by
  have h1 : IntKind.u8.min = 0 := rfl
  have h2 : IntKind.u8.max = 255 := rfl
  simp only [Lit.wf, Bool.and_eq_true, decide_eq_true_eq] at h
  exact ⟨x.toNat, by simp; omega, by omega⟩
theorem i64_wf {x : Int} (h : (Lit.int .i64 x).wf = true) : -9223372036854775808 ≤ x ∧ x < 9223372036854775808 := by
  have h1 : IntKind.i64.min = -9223372036854775808 := rfl
  have h2 : IntKind.i64.max = 9223372036854775807 := rfl
  simp only [Lit.wf, Bool.and_eq_true, decide_eq_true_eq] at h
  omega
theorem i32_wf {x : Int} (h : (Lit.int .i32 x).wf = true) : -2147483648 ≤ x ∧ x < 2147483648 := by
  have h1 : IntKind.i32.min = -2147483648 := rfl
  have h2 : IntKind.i32.max = 2147483647 := rfl
  simp only [Lit.wf, Bool.and_eq_true, decide_eq_true_eq] at h
  omega
end Eng
