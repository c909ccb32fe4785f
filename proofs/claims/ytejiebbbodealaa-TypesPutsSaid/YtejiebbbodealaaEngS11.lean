/- The engine's soundness, part 11: operations that make a block. -/
import Derived.Test.YtejiebbbodealaaEngS10
set_option linter.unusedVariables false
set_option linter.unusedSimpArgs false
namespace Eng
open Go Go.RowKit
section
variable {P : Program} {μ μ' : Mp} {h h' : Hp} {w w' : World} {t : T} {ρ : Operand → Value} {ty : TypeId}
theorem EntriesR.mono {es : List (AV × AV × Nat)} {es' : List MapEntry} (hle : μ.Le μ') (r : EntriesR μ es es') : EntriesR μ' es es' :=
  ⟨r.1, fun i k v n hi => by
    obtain ⟨h1, e, h2, h3, h4, h5⟩ := r.2 i k v n hi
    exact ⟨h1, e, h2, h3.mono hle, h4.mono hle, h5⟩⟩
theorem BlkR.mono {c s : Nat} {x : Blk} (r : BlkR μ w c s x) (hle : μ.Le μ') (hw : w'.heap[c]? = w.heap[c]?) (ho : μ'.own c = μ.own c) (hz : μ'.size c = μ.size c) : BlkR μ' w' c s x := by
  cases x with
  | cells cs n ow =>
    obtain ⟨h1, h2, h3, arr, e, fr, h4, h5, h6, h7⟩ := r
    refine ⟨h1, h2, by rw [ho]; exact h3, arr, e, fr, by rw [hw]; exact h4, by rw [hz]; exact h5, by rw [ho]; exact h6, fun i v hv => ?_⟩
    obtain ⟨x, hx, r⟩ := h7 i v hv
    exact ⟨x, hx, r.mono hle⟩
  | mp es n ck =>
    obtain ⟨h1, h2, h3, es', h4, h5⟩ := r
    exact ⟨h1, h2, by rw [ho]; exact h3, es', by rw [hw]; exact h4, h5.mono hle⟩
  | dead => trivial
def Mp.ext (μ : Mp) (b c s n : Nat) : Mp :=
  ⟨fun b' => if b' = b then some (c, s) else μ.at_ b', fun c' => if c' = c then true else μ.own c', fun c' => if c' = c then n else μ.size c'⟩
structure Pushed (w : World) (o : Obj) (w' : World) : Prop where
  heap : w'.heap = w.heap.push o
  os : w'.os = w.os
  tape : w'.tape = w.tape
  output : w'.output = w.output
theorem Pushed.size {o : Obj} (p : Pushed w o w') : w'.heap.size = w.heap.size + 1 := by rw [p.heap]; simp
theorem Pushed.old {o : Obj} (p : Pushed w o w') {c : Nat} (hc : c < w.heap.size) : w'.heap[c]? = w.heap[c]? := by
  rw [p.heap, Array.getElem?_push, if_neg (by omega)]
theorem Pushed.new {o : Obj} (p : Pushed w o w') : w'.heap[w.heap.size]? = some o := by rw [p.heap]; simp
theorem ext_le (hs : Sim μ h w) {b n : Nat} (hb : μ.at_ b = none) : μ.Le (μ.ext b w.heap.size 0 n) := fun b' c s e => by
  have hc := hs.old b' c s e
  refine ⟨?_, ?_, ?_⟩
  · show (if b' = b then _ else _) = _
    rw [if_neg (fun hh => by rw [hh, hb] at e; cases e)]; exact e
  · show (if c = _ then _ else _) = _
    rw [if_neg (by omega)]
  · show (if c = _ then _ else _) = _
    rw [if_neg (by omega)]
theorem Sim.mapNew (hs : Sim μ h w) {b n : Nat} {o : Obj} {x : Blk} (hb : μ.at_ b = none) (p : Pushed w o w') (hx : hget h' b = some x) (hget : ∀ b', b' ≠ b → hget h' b' = hget h b')
    (hlt : b < h'.next) (hnext : h.next ≤ h'.next) (hsolo : ∀ cs n p, x ≠ .cells cs n (.pair p)) (hblk : BlkR (μ.ext b w.heap.size 0 n) w' w.heap.size 0 x) : Sim (μ.ext b w.heap.size 0 n) h' w' := by
  have hle := ext_le (n := n) hs hb
  have hat : ∀ b' c s, (μ.ext b w.heap.size 0 n).at_ b' = some (c, s) → (b' = b ∧ c = w.heap.size ∧ s = 0) ∨ (b' ≠ b ∧ μ.at_ b' = some (c, s)) := by
    intro b' c s e
    by_cases h1 : b' = b
    · left
      have : (if b' = b then some (w.heap.size, 0) else μ.at_ b') = some (c, s) := e
      rw [if_pos h1] at this
      cases this
      exact ⟨h1, rfl, rfl⟩
    · right
      have : (if b' = b then some (w.heap.size, 0) else μ.at_ b') = some (c, s) := e
      rw [if_neg h1] at this
      exact ⟨h1, this⟩
  refine ⟨fun b' hb' => ?_, fun b' hb' => ?_, fun b' c s e => ?_, fun b' c s y e hy => ?_, fun b1 b2 c s s' x1 x2 hne e1 e2 ho g1 g2 d1 d2 => ?_, fun b' c s cs n' p' e g => ?_⟩
  · show (if b' = b then _ else _) = _
    rw [if_neg (by omega)]; exact hs.lt b' (by omega)
  · rw [hget b' (by omega)]; exact hs.fresh b' (by omega)
  · rw [p.size]
    rcases hat _ _ _ e with ⟨_, rfl, _⟩ | ⟨_, e⟩
    · omega
    · have := hs.old b' c s e; omega
  · rcases hat _ _ _ e with ⟨rfl, rfl, rfl⟩ | ⟨hne, e⟩
    · rw [hx] at hy; cases hy; exact hblk
    · rw [hget b' hne] at hy
      have hc := hs.old b' c s e
      exact (hs.blk b' c s y e hy).mono hle (p.old hc) (by show (if c = _ then _ else _) = _; rw [if_neg (by omega)]) (by show (if c = _ then _ else _) = _; rw [if_neg (by omega)])
  · rcases hat _ _ _ e1 with ⟨rfl, rfl, rfl⟩ | ⟨hne1, e1'⟩
    · rcases hat _ _ _ e2 with ⟨rfl, _, _⟩ | ⟨hne2, e2⟩
      · exact absurd rfl hne
      · have := hs.old _ _ _ e2; omega
    · rcases hat _ _ _ e2 with ⟨rfl, rfl, rfl⟩ | ⟨hne2, e2⟩
      · have := hs.old _ _ _ e1'; omega
      · rw [hget b1 hne1] at g1
        rw [hget b2 hne2] at g2
        have hc := hs.old _ _ _ e1'
        have ho : μ.own c = true := by
          have : (if c = w.heap.size then true else μ.own c) = true := ho
          rwa [if_neg (by omega)] at this
        exact hs.apart b1 b2 c s s' x1 x2 hne e1' e2 ho g1 g2 d1 d2
  · rcases hat _ _ _ e with ⟨rfl, rfl, rfl⟩ | ⟨hne, e'⟩
    · rw [hx] at g; exact absurd (Option.some.inj g) (hsolo _ _ _)
    · rw [hget b' hne] at g
      obtain ⟨y, hy⟩ := hs.peer b' c s cs n' p' e' g
      exact ⟨y, (hle p' y.1 y.2 hy).1⟩
def Makes (P : Program) (μ : Mp) (w : World) (s : Sem Next) (k : MK) (x : Blk) : Prop :=
  ∃ y w' o n, s.run P w = .ok (.value y) w' ∧ Pushed w o w' ∧ ∀ μ' b, μ.Le μ' → μ'.at_ b = some (w.heap.size, 0) → μ'.own w.heap.size = true → μ'.size w.heap.size = n →
    VR μ' (mkAt k b) y ∧ BlkR μ' w' w.heap.size 0 x
theorem cells_blk {cs : List AV} {arr : Array Value} {e : TypeId} {fr : Nat × Nat} {n : Nat} (hl : cs.length = n) (hc : ∀ v ∈ cs, isCell v = true) (p : Pushed w (.cells arr e fr) w') (hun : Unmarked arr.size fr)
    (r : ∀ (i : Nat) (v : AV), cs[i]? = some v → ∃ x, arr[i]? = some x ∧ VR μ v x) :
    ∀ μ', μ.Le μ' → μ'.own w.heap.size = true → μ'.size w.heap.size = arr.size → BlkR μ' w' w.heap.size 0 (mkCells cs n) := fun μ' hle ho hz =>
  ⟨hl, hc, by rw [ho]; exact ⟨fun _ => nofun, fun _ => rfl⟩, arr, e, fr, p.new, hz.symm, fun _ => hun, fun i v hv => by
    obtain ⟨x, hx, rx⟩ := r i v hv
    exact ⟨x, by rw [Nat.zero_add]; exact hx, rx.mono hle⟩⟩
theorem unmarked_zero (n : Nat) : Unmarked n (0, 0) := .inl rfl
theorem VRs.get' {l : List AV} {xs : Array Value} (r : VRs μ l xs.toList) (i : Nat) (v : AV) (hv : l[i]? = some v) : ∃ x, xs[i]? = some x ∧ VR μ v x := by
  obtain ⟨x, hx, rx⟩ := r.get i v hv
  exact ⟨x, by rwa [Array.getElem?_toList] at hx, rx⟩
theorem run_newRow (e : TypeId) (cs : Array Value) : (newRow e cs).run P w = .ok ⟨w.heap.size, 0, none⟩ { w with heap := w.heap.push (.cells cs e) } := by
  simp [newRow]
theorem pushed_mk (o : Obj) : Pushed w o { w with heap := w.heap.push o } := ⟨rfl, rfl, rfl, rfl⟩
theorem newVar_makes {e : TypeId} {cs : List AV} {y : Value} {n : Nat} (hl : cs.length = n) (hc : ∀ v ∈ cs, isCell v = true) (r : VRs μ cs y.cells.toList) :
    Makes P μ w (do pure (.value (.pointer (some (← newVar e y))))) .ptr (mkCells cs n) := by
  refine ⟨.pointer (some ⟨w.heap.size, 0, none⟩), _, .cells y.cells e, y.cells.size, by simp only [newVar, Sem.run_bind, run_newRow, Result.andThen_ok, Sem.run_pure], pushed_mk _, fun μ' b hle hb ho hz => ⟨?_, ?_⟩⟩
  · show VR μ' (.ptr b 0) _
    rw [VR_ptr]; exact ⟨_, _, hb, rfl⟩
  · exact cells_blk hl hc (pushed_mk _) (unmarked_zero _) (fun i v hv => r.get' i v hv) μ' hle ho hz
theorem sl_VR {b c n l k s : Nat} {ex : Bool} {cp' : Nat} (hb : μ.at_ b = some (c, 0)) (hlk : l ≤ k) (hk : k ≤ cp') (hex : ex = true → cp' = k) (hz : μ.size c = n) (hn : cp' * s ≤ n) :
    VR μ (.slice b 0 l k s ex) (.slice (some ⟨c, 0, none⟩) l cp') := by
  rw [VR_slice]
  exact ⟨c, 0, 0, cp', hb, rfl, hlk, hk, hex, fun _ => ⟨rfl, by rw [hz]; omega⟩⟩
theorem alloc_makes {z : AV} (hz : zeroOf P ty = some z) {k : MK} {x : Blk} (e : evL (.alloc (cellsC z)) t = .ok k x) :
    Makes P μ w (do pure (.value (← Instr.alloc ty true (.tuple #[])))) k x := by
  obtain ⟨y, r, hy⟩ := zeroOf_ok (μ := μ) hz
  obtain ⟨hc, e1⟩ := bc_inv (show bc (lall isCell (cellsC z)) (OL.ok .ptr (mkCells (cellsC z) (len (cellsC z)))) .no = .ok k x from e) nofun
  cases e1
  rw [lall_iff] at hc
  obtain ⟨y', w', o, n, h1, h2, h3⟩ := newVar_makes (P := P) (w := w) (e := ty) (len_eq (cellsC z)).symm hc (zero_cells r)
  exact ⟨y', w', o, n, by simpa [Instr.alloc, hy] using h1, h2, h3⟩
theorem box_makes {a : AX} {y : Value} (r : VR μ (evX a t) y) {k : MK} {x : Blk} (e : evL (.box a) t = .ok k x) :
    Makes P μ w (do pure (.value (← Instr.box ty y))) k x := by
  obtain ⟨hc, e1⟩ := bc_inv (show bc (lall isCell (cellsOf (evX a t))) (OL.ok .ptr (mkCells (cellsOf (evX a t)) (len (cellsOf (evX a t))))) .no = .ok k x from e) nofun
  cases e1
  rw [lall_iff] at hc
  obtain ⟨y', w', o, n, h1, h2, h3⟩ := newVar_makes (P := P) (w := w) (e := ty) (len_eq (cellsOf (evX a t))).symm hc r.cells
  exact ⟨y', w', o, n, by simpa [Instr.box] using h1, h2, h3⟩
theorem makeMap_makes {k : MK} {x : Blk} {r : Option Value} (hr : r = none ∨ ∃ k n kt el, r = some (.int k n) ∧ P.underlying ty = some (.map kt el)) (e : evL .makeMap t = .ok k x) :
    Makes P μ w (do pure (.value (← Instr.makeMap ty r))) k x := by
  cases e
  refine ⟨.map (some w.heap.size), { w with heap := w.heap.push (.map #[] 0) }, .map #[] 0, 0, ?_, pushed_mk _, fun μ' b hle hb ho hz => ⟨?_, ?_⟩⟩
  · rcases hr with rfl | ⟨k, n, kt, el, rfl, hu⟩
    · simp [Instr.makeMap]
    · simp [Instr.makeMap, run_underlying hu, asInt, asIntOf]
  · show VR μ' (.map b) _
    rw [VR_map]; exact ⟨_, _, hb, rfl⟩
  · exact ⟨rfl, rfl, ho, #[], by simp, rfl, fun i k v n hi => by simp at hi⟩
theorem u8s_get {s : List Nat} {i : Nat} {v : AV} (hv : (u8s s)[i]? = some v) : ∃ n, s[i]? = some n ∧ v = .int .u8 (n : Int) := by
  unfold u8s at hv
  rw [lmap_eq, List.getElem?_map] at hv
  cases h1 : s[i]? with
  | none => rw [h1] at hv; cases hv
  | some n => rw [h1] at hv; exact ⟨n, rfl, (Option.some.inj hv).symm⟩
theorem u8s_cell (s : List Nat) : ∀ v ∈ u8s s, isCell v = true := fun v hv => by
  unfold u8s at hv
  rw [lmap_eq, List.mem_map] at hv
  obtain ⟨n, _, rfl⟩ := hv; rfl
theorem u8s_length (s : List Nat) : (u8s s).length = s.length := by unfold u8s; rw [lmap_eq, List.length_map]
theorem freeze_push (w : World) (arr : Array Value) (el : TypeId) (k : Nat) :
    ({ w with heap := w.heap.push (.cells arr el) } : World).freeze ⟨w.heap.size, k, none⟩ 1 = { w with heap := w.heap.push (.cells arr el (k, k + 1)) } := by
  have hm : ∀ (a : Array Obj) (x : Obj) (f : Obj → Obj), (a.push x).modify a.size f = a.push (f x) := by
    intro a x f
    apply Array.ext
    · simp
    · intro i h1 h2
      simp only [Array.getElem_modify, Array.getElem_push]
      by_cases h : a.size = i
      · subst h; simp
      · have hi : i < a.size := by simp at h1; omega
        simp [h, hi]
  unfold World.freeze
  rw [if_neg (by decide)]
  simp [hm]
theorem toBytes_makes {el : TypeId} {src : TypeId} {a : AX} {y : Value} (hsrc : P.underlying src = some .string) (hu : P.underlying ty = some (.slice el)) (he : P.underlying el = some (.int .u8))
    (r : VR μ (evX a t) y) {k : MK} {x : Blk} (e : evL (.toBytes a) t = .ok k x) : Makes P μ w (do pure (.value (← convert src ty y))) k x := by
  obtain ⟨s, hs, e1⟩ := asStr_inv (show ((evX a t).asStr .no fun s => OL.ok (.sl (len s) (len s) 1 false) (mkCells (u8s s) (len s))) = .ok k x from e) nofun
  cases e1
  rw [hs, VR_str] at r
  obtain ⟨s', rfl, rfl⟩ := r
  obtain ⟨cap, hcap, hq⟩ : ∃ cap, s'.size ≤ cap ∧ (choose (.appendCap s'.size 0 el)).run P w = .ok cap { w with drawn := w.drawn + 1 } :=
    ⟨_, Nat.le_add_right _ _, by simp only [run_choose]; rfl⟩
  obtain ⟨arr, harr⟩ : ∃ arr : Array Value, arr = (s'.data.map fun (b : UInt8) => Value.int .u8 (b.toNat : Int)) ++ Array.replicate (cap - s'.size) (.int .u8 0) := ⟨_, rfl⟩
  have hsz : arr.size = cap := by
    have : s'.data.size = s'.size := rfl
    rw [harr]; simp; omega
  have hfr := freeze_push { w with drawn := w.drawn + 1 } arr el cap
  have hp : Pushed w (.cells arr el (cap, cap + 1)) { w with drawn := w.drawn + 1, heap := w.heap.push (.cells arr el (cap, cap + 1)) } := ⟨rfl, rfl, rfl, rfl⟩
  refine ⟨.slice (some ⟨w.heap.size, 0, none⟩) s'.size cap, { w with drawn := w.drawn + 1, heap := w.heap.push (.cells arr el (cap, cap + 1)) }, _, cap, ?_, hp, fun μ' b hle hb ho hz => ⟨?_, ?_⟩⟩
  · have hsh : ({ w with drawn := w.drawn + 1, heap := w.heap.push (.cells arr el) } : World).shape? w.heap.size = some (el, cap) := by
      unfold World.shape?
      have : ({ w with drawn := w.drawn + 1, heap := w.heap.push (.cells arr el) } : World).heap[w.heap.size]? = some (.cells arr el) := by show (w.heap.push _)[w.heap.size]? = _; simp
      rw [this, ← hsz]
    have hmk : (markStringish ⟨w.heap.size, 0, none⟩).run P { w with drawn := w.drawn + 1, heap := w.heap.push (.cells arr el) } = .ok () { w with drawn := w.drawn + 1, heap := w.heap.push (.cells arr el (cap, cap + 1)) } := by
      simp only [markStringish, Sem.run_bind, run_shape, Result.andThen_ok, hsh, run_freeze]
      rw [hfr]
    simp only [convert, Sem.run_bind, run_underlying hsrc, run_underlying hu, run_underlying he, Result.andThen_ok, Conv.stringToBytes, hq, ← harr, run_newRow, hmk, Sem.run_pure]
  · show VR μ' (.slice b 0 (len (byteList s')) (len (byteList s')) 1 false) _
    rw [len_eq, byteList_length]
    exact sl_VR hb (Nat.le_refl _) hcap nofun hz (by omega)
  · refine cells_blk ((u8s_length _).trans (len_eq _).symm) (u8s_cell _) hp (.inr (by omega)) (fun i v hv => ?_) μ' hle ho (by rw [hz, hsz])
    obtain ⟨n, hn, rfl⟩ := u8s_get hv
    unfold byteList at hn
    rw [List.getElem?_map] at hn
    cases hb : s'.data.toList[i]? with
    | none => rw [hb] at hn; cases hn
    | some bt =>
      rw [hb] at hn; cases hn
      rw [Array.getElem?_toList] at hb
      obtain ⟨hlt, hb'⟩ := Array.getElem?_eq_some_iff.1 hb
      refine ⟨.int .u8 bt.toNat, ?_, by simp⟩
      rw [harr, Array.getElem?_append_left (by simpa using hlt), Array.getElem?_map, hb]; rfl
theorem rep_get {z : List AV} {zs : Array Value} (r : VRs μ z zs.toList) (n : Nat) (hz : z ≠ []) : VRs μ (lrep z n) (((Array.range (n * z.length)).map (zs[· % zs.size]!)).toList) := by
  have hlz := r.length
  simp at hlz
  have hpos : 0 < z.length := List.length_pos_iff.2 hz
  refine .of_get (by rw [lrep_length]; simp) fun i v hv => ?_
  have hi : i < n * z.length := by
    have := (List.getElem?_eq_some_iff.1 hv).1
    rwa [lrep_length] at this
  rw [lrep_get z n i hi] at hv
  obtain ⟨x, hx, rx⟩ := r.get' _ _ hv
  refine ⟨x, ?_, rx⟩
  simp [hi, hlz]
  have hlt : i % z.length < zs.size := by rw [hlz]; exact Nat.mod_lt _ hpos
  rw [getElem!_pos zs _ hlt]
  rw [Array.getElem?_eq_getElem hlt] at hx
  exact Option.some.inj hx
theorem buildSlice_makes {n : Nat} {ps : Array (Nat × Operand)} {l : LOp} (hc : compBuildSlice P ty n ps = .l l) (hx : Opnds μ t ρ (ps.toList.map (·.2))) {k : MK} {x : Blk} (e : evL l t = .ok k x) :
    Makes P μ w (do pure (.value (← Instr.buildSlice ty n (ps.map fun (i, x) => (i, ρ x))))) k x := by
  unfold compBuildSlice at hc
  split at hc
  · rename_i el hu
    split at hc
    · rename_i sz z h1 h2
      split at hc
      · rename_i as hl
        split at hc
        · rename_i hcond
          cases hc
          obtain ⟨hsz, hmax⟩ := hcond
          obtain ⟨cs', hcs, e1⟩ := ocase_inv (show ocase .no (fun cs => bc (lall isCell cs) (OL.ok (.sl n n sz true) (mkCells cs (Nat.mul n sz))) .no) (fillParts as t (Nat.mul n sz) (lrep (cellsC z) n)) = .ok k x from e) nofun
          obtain ⟨hcell, e2⟩ := bc_inv e1 nofun
          cases e2
          rw [lall_iff] at hcell
          obtain ⟨xz, rz, hzr⟩ := zeroOf_ok (μ := μ) h2
          have rzc := zero_cells rz
          obtain ⟨zs, hzs, rzs⟩ : ∃ zs : Array Value, ((n * sz = 0 → zs = #[]) ∧ (n * sz ≠ 0 → zs = xz.cells)) ∧
              VRs μ (lrep (cellsC z) n) (((Array.range (n * sz)).map (zs[· % zs.size]!)).toList) := by
            by_cases h0 : n * sz = 0
            · refine ⟨#[], ⟨fun _ => rfl, fun h => absurd h0 h⟩, ?_⟩
              rw [h0]
              have : lrep (cellsC z) n = [] := by
                apply List.eq_nil_of_length_eq_zero; rw [lrep_length, ← hsz]; exact h0
              rw [this, VRs_nil]; simp
            · refine ⟨xz.cells, ⟨fun h => absurd h h0, fun _ => rfl⟩, ?_⟩
              rw [hsz]
              exact rep_get rzc n (by intro hh; rw [hh] at hsz; simp at hsz; subst hsz; exact h0 rfl)
          obtain ⟨ds', hf, hr, hlen⟩ := fill_ok hl hx rzs (by rw [lrep_length, ← hsz]; rfl) hcs
          have hds : ds'.size = n * sz := by have := hr.length; simp at this; rw [this, hlen]; rfl
          refine ⟨.slice (some ⟨w.heap.size, 0, none⟩) n n, { w with heap := w.heap.push (.cells ds' el) }, _, n * sz, ?_, pushed_mk _, fun μ' b hle hb ho hz => ⟨?_, ?_⟩⟩
          · have hno : ¬ (n * sz > 2 ^ 24) := by omega
            have hf' : Instr.fill (fun i => some (i * sz, sz)) ((Array.range (n * sz)).map (zs[· % zs.size]!)) (ps.map fun (i, x) => (i, ρ x)).toList = some ds' := by rw [← hf, Array.toList_map]
            by_cases h0 : n * sz = 0
            · rw [hzs.1 h0] at hf'
              simp only [Instr.buildSlice, Sem.run_bind, run_underlying hu, run_sizeOf h1, Result.andThen_ok, if_neg hno, if_pos h0, Sem.run_pure, hf', run_newRow]
            · rw [hzs.2 h0] at hf'
              simp only [Instr.buildSlice, Sem.run_bind, run_underlying hu, run_sizeOf h1, Result.andThen_ok, if_neg hno, if_neg h0, Sem.run_pure, hzr, hf', run_newRow]
          · exact sl_VR hb (Nat.le_refl _) (Nat.le_refl _) (fun _ => rfl) hz (Nat.le_refl _)
          · exact cells_blk hlen hcell (pushed_mk _) (unmarked_zero _) (fun i v hv => hr.get' i v hv) μ' hle ho (by rw [hz, hds])
        · cases hc
      · cases hc
    · cases hc
  · cases hc
theorem makeSlice_makes {l c : AX} {yl yc : Value} {lo : LOp} (hc : compMakeSlice P ty l c = .l lo) (rl : VR μ (evX l t) yl) (rc : VR μ (evX c t) yc) {k : MK} {x : Blk} (e : evL lo t = .ok k x) :
    Makes P μ w (do pure (.value (← Instr.makeSlice ty yl yc))) k x := by
  unfold compMakeSlice at hc
  split at hc
  · rename_i el hu
    split at hc
    · rename_i sz by_ z h1 h2 h3
      split at hc
      · rename_i hsz
        cases hc
        obtain ⟨k1, n1, hn1, e1⟩ := asInt_inv (show ((evX l t).asInt .no fun _ l => (evX c t).asInt .no fun _ c => natOf l .no fun l => natOf c .no fun c =>
          bc (lall isCell (cellsC z)) (bc (Nat.ble l c) (bc (Nat.ble (Nat.mul c by_) 70368744177664) (bc (Nat.ble c 70368744177664)
            (OL.ok (.sl l c sz true) (mkCells (lrep (cellsC z) c) (Nat.mul c sz))) .no) .no) .no) .no) = .ok k x from e) nofun
        obtain ⟨k2, n2, hn2, e2⟩ := asInt_inv e1 nofun
        obtain ⟨nl, rfl, e3⟩ := natOf_inv e2 nofun
        obtain ⟨nc, rfl, e4⟩ := natOf_inv e3 nofun
        obtain ⟨hcell, e5⟩ := bc_inv e4 nofun
        obtain ⟨hle, e6⟩ := ble_inv e5 nofun
        obtain ⟨hb1, e7⟩ := ble_inv e6 nofun
        obtain ⟨hb2, e8⟩ := ble_inv e7 nofun
        cases e8
        rw [lall_iff] at hcell
        have hb1 : nc * by_ ≤ 70368744177664 := hb1
        rw [hn1, VR_int] at rl; subst rl
        rw [hn2, VR_int] at rc; subst rc
        obtain ⟨i, hi, hbi⟩ : ∃ i, P.info? el = some i ∧ i.bytes = by_ := by
          unfold bytesOf at h2
          cases hi : P.info? el with
          | none => rw [hi] at h2; cases h2
          | some i => rw [hi] at h2; exact ⟨i, rfl, Option.some.inj h2⟩
        obtain ⟨xz, rz, hzr⟩ := zeroOf_ok (μ := μ) h3
        have rzc := zero_cells rz
        have hw : ∀ m : Nat, m ≤ 70368744177664 → IntKind.i64.wrap (m : Int) = m := fun m hm => by
          rw [← wrapA_eq]
          show bc (Nat.blt m 9223372036854775808) (Int.ofNat m) _ = _
          rw [bc_blt, if_pos (by omega)]; rfl
        have hwl := hw nl (by omega)
        have hwc := hw nc hb2
        have hcb : ((by_ : Int) * (nc : Int)) = ((nc * by_ : Nat) : Int) := by rw [Nat.mul_comm]; simp
        have hlb : ((by_ : Int) * (nl : Int)) = ((nl * by_ : Nat) : Int) := by rw [Nat.mul_comm]; simp
        have hlb2 : nl * by_ ≤ nc * by_ := Nat.mul_le_mul_right _ hle
        obtain ⟨arr, harr, hrarr, hszarr⟩ : ∃ arr : Array Value, ((nc * sz = 0 → arr = (Array.range (nc * sz)).map ((#[] : Array Value)[· % (#[] : Array Value).size]!)) ∧ (nc * sz ≠ 0 → arr = (Array.range (nc * sz)).map (xz.cells[· % xz.cells.size]!))) ∧
            VRs μ (lrep (cellsC z) nc) arr.toList ∧ arr.size = nc * sz := by
          by_cases h0 : nc * sz = 0
          · refine ⟨_, ⟨fun _ => rfl, fun h => absurd h0 h⟩, ?_, by simp⟩
            rw [h0]
            have : lrep (cellsC z) nc = [] := by
              apply List.eq_nil_of_length_eq_zero; rw [lrep_length, ← hsz]; exact h0
            rw [this, VRs_nil]; simp
          · refine ⟨_, ⟨fun h => absurd h h0, fun _ => rfl⟩, ?_, by simp⟩
            rw [hsz]
            exact rep_get rzc nc (by intro hh; rw [hh] at hsz; simp at hsz; subst hsz; exact h0 rfl)
        refine ⟨.slice (some ⟨w.heap.size, 0, none⟩) nl nc, { w with heap := w.heap.push (.cells arr el) }, _, nc * sz, ?_, pushed_mk _, fun μ' b hle' hb ho hz => ⟨?_, ?_⟩⟩
        · have hg : ¬ ((decide ((nc : Int) < 0) || decide ((by_ : Int) * (nc : Int) > 2 ^ 48) || decide ((nl : Int) < 0) || decide ((nl : Int) > (nc : Int))) = true) := by
            rw [hcb]
            simp only [Bool.or_eq_true, decide_eq_true_eq]
            omega
          simp only [Instr.makeSlice, Sem.run_bind, run_underlying hu, asInt, asIntOf, typeInfo, run_program, hi, hbi, Result.andThen_ok, Sem.run_pure, hwl, hwc, run_sizeOf h1, Sem.run_ite]
          rw [if_neg hg]
          simp only [run_askRoom, Result.andThen_ok, Int.toNat_natCast]
          by_cases h0 : nc * sz = 0
          · rw [if_pos h0, run_newRow, ← harr.1 h0]; rfl
          · rw [if_neg h0, hzr]
            simp only [Result.andThen_ok, run_newRow, ← harr.2 h0]
        · exact sl_VR hb hle (Nat.le_refl _) (fun _ => rfl) hz (Nat.le_refl _)
        · exact cells_blk (by rw [lrep_length, ← hsz]; rfl) (fun v hv => hcell v (lrep_mem hv)) (pushed_mk _) (unmarked_zero _) (fun i v hv => hrarr.get' i v hv) μ' hle' ho (by rw [hz, hszarr])
      · cases hc
    · cases hc
  · cases hc
theorem makes_ok {o : Oper} {l : LOp} (hc : compOp P o.op = .l l) (hx : Opnds μ t ρ o.op.operands.toList) {k : MK} {x : Blk} (e : evL l t = .ok k x) : Makes P μ w (execOp ρ o) k x := by
  unfold execOp
  generalize o.op = op at *
  generalize o.type = oty at *
  cases op
  case alloc ty =>
    have hc : (match zeroOf P ty with | some z => AOp.l (.alloc (cellsC z)) | none => no) = .l l := hc
    split at hc
    · rename_i z hz; cases hc; exact alloc_makes hz e
    · cases hc
  case box ty x =>
    obtain ⟨a, ha, e1⟩ := comp1_inv hc nofun; cases e1
    exact box_makes (hx x (by simp [Op.operands]) a ha) e
  case buildSlice ty n ps => exact buildSlice_makes (hc : compBuildSlice P ty n ps = .l l) (by simpa [Op.operands] using hx) e
  case makeSlice ty a b =>
    obtain ⟨a', b', ha, hb, e1⟩ := comp2_inv hc nofun
    exact makeSlice_makes e1 (hx a (by simp [Op.operands]) a' ha) (hx b (by simp [Op.operands]) b' hb) e
  case makeMap ty r =>
    have hc : compMakeMap P ty r = .l l := hc
    unfold compMakeMap at hc
    split at hc
    · cases hc; exact makeMap_makes (.inl rfl) e
    · rename_i k1 n1 _
      split at hc
      · rename_i kt el hu
        cases hc
        refine makeMap_makes (.inr ⟨k1, n1, kt, el, ?_, hu⟩) e
        have := hx (.const (.int k1 n1)) (by simp [Op.operands]) (.const (.int k1 n1)) rfl
        rw [evX_const, VR_int] at this
        rw [Option.map_some, this]
      · cases hc
    · cases hc
  case convert s d x =>
    obtain ⟨a, ha, e1⟩ := comp1_inv hc nofun
    have ra := hx x (by simp [Op.operands]) a ha
    unfold compConv at e1
    split at e1
    · cases e1
    · rename_i el h1 h2
      split at e1
      · rename_i h3; cases e1; exact toBytes_makes h1 h2 h3 ra e
      · cases e1
    · split at e1 <;> cases e1
    · split at e1
      · split at e1 <;> cases e1
      · cases e1
    · cases e1
  case binOp bo ty x y yt =>
    exfalso
    have h1 : ∀ neg (a b : AX), compEq P neg ty a b ≠ .l l := fun neg a b => by
      unfold compEq
      repeat' split
      all_goals nofun
    cases bo <;> simp only [compOp, comp2, comp1] at hc <;> repeat' (split at hc)
    all_goals first | (cases hc; done) | exact h1 _ _ _ hc
  case call c =>
    exfalso
    have hc : compCall P c = .l l := hc
    unfold compCall at hc
    split at hc
    · split at hc
      · unfold compBuiltin at hc
        split at hc
        · unfold compAppend at hc; repeat' (split at hc)
          all_goals (cases hc; done)
        · unfold compLen at hc; repeat' (split at hc)
          all_goals (cases hc; done)
        all_goals first | (cases hc; done) | (repeat' (split at hc)) <;> (cases hc; done)
      · cases hc
    · repeat' (split at hc)
      all_goals (cases hc; done)
    · cases hc
  all_goals
    exfalso
    simp only [compOp, comp1, comp2, comp3, compBuild, compSlice, compFieldAddr, compField, compIndexAddr, compIndex, compLookup, compMapUpdate, no] at hc
    repeat' (split at hc)
    all_goals (cases hc; done)
end
end Eng
