import Derived.Test.YtfcljjhlijolgaaGreatDoorB1
import Derived.Orders
section
set_option linter.unusedVariables false
set_option linter.unusedSimpArgs false
namespace Eng
open Go Go.RowKit
section
variable {P : Program} {μ μ' : Mp} {h h' : Hp} {w w' : World} {t : T} {ρ : Operand → Value} {ty : TypeId}
theorem EntriesR.mono {es : List (AV × AV × Nat)} {es' : List MapEntry} (hle : μ.Le μ') (r : EntriesR μ es es') : EntriesR μ' es es' :=
  ⟨r.1, fun i k v n hi => by
    obtain ⟨h1, e, h2, h3, h4, h5⟩ := r.2 i k v n hi
    exact ⟨h1, e, h2, h3.mono hle, h4.mono hle, h5⟩⟩
theorem BlkR.mono {c s : Nat} {x : Blk} (r : BlkR μ w c s x) (hle : μ.Le μ') (hw : w'.heap[c]? = w.heap[c]?) (ho : μ'.own c = μ.own c) (hz : μ'.size c = μ.size c) : BlkR μ' w' c s x := by
  cases x with
  | cells cs n ow =>
    obtain ⟨h1, h2, h3, arr, e, fr, h4, h5, h6, h7⟩ := r
    refine ⟨h1, h2, by rw [ho]; exact h3, arr, e, fr, by rw [hw]; exact h4, by rw [hz]; exact h5, by rw [ho]; exact h6, fun i v hv => ?_⟩
    obtain ⟨x, hx, r⟩ := h7 i v hv
    exact ⟨x, hx, r.mono hle⟩
  | mp es n ck =>
    obtain ⟨h1, h2, h3, es', h4, h5⟩ := r
    exact ⟨h1, h2, by rw [ho]; exact h3, es', by rw [hw]; exact h4, h5.mono hle⟩
  | dead => trivial
def Mp.ext (μ : Mp) (b c s n : Nat) : Mp :=
  ⟨fun b' => if b' = b then some (c, s) else μ.at_ b', fun c' => if c' = c then true else μ.own c', fun c' => if c' = c then n else μ.size c'⟩
structure Pushed (w : World) (o : Obj) (w' : World) : Prop where
  heap : w'.heap = w.heap.push o
  os : w'.os = w.os
  tape : w'.tape = w.tape
  output : w'.output = w.output
theorem Pushed.size {o : Obj} (p : Pushed w o w') : w'.heap.size = w.heap.size + 1 := by rw [p.heap]; simp
theorem Pushed.old {o : Obj} (p : Pushed w o w') {c : Nat} (hc : c < w.heap.size) : w'.heap[c]? = w.heap[c]? := by
  rw [p.heap, Array.getElem?_push, if_neg (by omega)]
theorem Pushed.new {o : Obj} (p : Pushed w o w') : w'.heap[w.heap.size]? = some o := by rw [p.heap]; simp
theorem ext_le (hs : Sim μ h w) {b n : Nat} (hb : μ.at_ b = none) : μ.Le (μ.ext b w.heap.size 0 n) := fun b' c s e => by
  have hc := hs.old b' c s e
  refine ⟨?_, ?_, ?_⟩
  · show (if b' = b then _ else _) = _
    rw [if_neg (fun hh => by rw [hh, hb] at e; cases e)]; exact e
  · show (if c = _ then _ else _) = _
    rw [if_neg (by omega)]
  · show (if c = _ then _ else _) = _
    rw [if_neg (by omega)]
theorem Sim.mapNew (hs : Sim μ h w) {b n : Nat} {o : Obj} {x : Blk} (hb : μ.at_ b = none) (p : Pushed w o w') (hx : ∀ y, hget h' b = some y → y = x) (hget : ∀ b', b' ≠ b → hget h' b' = hget h b')
    (hlt : b < h'.next) (hnext : h.next ≤ h'.next) (hsolo : ∀ cs n p, x ≠ .cells cs n (.pair p)) (hblk : BlkR (μ.ext b w.heap.size 0 n) w' w.heap.size 0 x) : Sim (μ.ext b w.heap.size 0 n) h' w' := by
  have hle := ext_le (n := n) hs hb
  have hat : ∀ b' c s, (μ.ext b w.heap.size 0 n).at_ b' = some (c, s) → (b' = b ∧ c = w.heap.size ∧ s = 0) ∨ (b' ≠ b ∧ μ.at_ b' = some (c, s)) := by
    intro b' c s e
    by_cases h1 : b' = b
    · left
      have : (if b' = b then some (w.heap.size, 0) else μ.at_ b') = some (c, s) := e
      rw [if_pos h1] at this
      cases this
      exact ⟨h1, rfl, rfl⟩
    · right
      have : (if b' = b then some (w.heap.size, 0) else μ.at_ b') = some (c, s) := e
      rw [if_neg h1] at this
      exact ⟨h1, this⟩
  refine ⟨fun b' hb' => ?_, fun b' hb' => ?_, fun b' c s e => ?_, fun b' c s y e hy => ?_, fun b1 b2 c s s' x1 x2 hne e1 e2 ho g1 g2 d1 d2 => ?_, fun b' c s cs n' p' e g => ?_⟩
  · show (if b' = b then _ else _) = _
    rw [if_neg (by omega)]; exact hs.lt b' (by omega)
  · rw [hget b' (by omega)]; exact hs.fresh b' (by omega)
  · rw [p.size]
    rcases hat _ _ _ e with ⟨_, rfl, _⟩ | ⟨_, e⟩
    · omega
    · have := hs.old b' c s e; omega
  · rcases hat _ _ _ e with ⟨rfl, rfl, rfl⟩ | ⟨hne, e⟩
    · cases hx _ hy; exact hblk
    · rw [hget b' hne] at hy
      have hc := hs.old b' c s e
      exact (hs.blk b' c s y e hy).mono hle (p.old hc) (by show (if c = _ then _ else _) = _; rw [if_neg (by omega)]) (by show (if c = _ then _ else _) = _; rw [if_neg (by omega)])
  · rcases hat _ _ _ e1 with ⟨rfl, rfl, rfl⟩ | ⟨hne1, e1'⟩
    · rcases hat _ _ _ e2 with ⟨rfl, _, _⟩ | ⟨hne2, e2⟩
      · exact absurd rfl hne
      · have := hs.old _ _ _ e2; omega
    · rcases hat _ _ _ e2 with ⟨rfl, rfl, rfl⟩ | ⟨hne2, e2⟩
      · have := hs.old _ _ _ e1'; omega
      · rw [hget b1 hne1] at g1
        rw [hget b2 hne2] at g2
        have hc := hs.old _ _ _ e1'
        have ho : μ.own c = true := by
          have : (if c = w.heap.size then true else μ.own c) = true := ho
          rwa [if_neg (by omega)] at this
        exact hs.apart b1 b2 c s s' x1 x2 hne e1' e2 ho g1 g2 d1 d2
  · rcases hat _ _ _ e with ⟨rfl, rfl, rfl⟩ | ⟨hne, e'⟩
    · exact absurd (hx _ g).symm (hsolo _ _ _)
    · rw [hget b' hne] at g
      obtain ⟨y, hy⟩ := hs.peer b' c s cs n' p' e' g
      exact ⟨y, (hle p' y.1 y.2 hy).1⟩
def Makes (P : Program) (μ : Mp) (w : World) (s : Sem Next) (k : MK) (x : Blk) : Prop :=
  ∃ y w' o n, s.run P w = .ok (.value y) w' ∧ Pushed w o w' ∧ ∀ μ' b, μ.Le μ' → μ'.at_ b = some (w.heap.size, 0) → μ'.own w.heap.size = true → μ'.size w.heap.size = n →
    VR μ' (mkAt k b) y ∧ BlkR μ' w' w.heap.size 0 x
theorem cells_blk {cs : List AV} {arr : Array Value} {e : TypeId} {fr : Nat × Nat} {n : Nat} (hl : cs.length = n) (hc : ∀ v ∈ cs, isCell v = true) (p : Pushed w (.cells arr e fr) w') (hun : Unmarked arr.size fr)
    (r : ∀ (i : Nat) (v : AV), cs[i]? = some v → ∃ x, arr[i]? = some x ∧ VR μ v x) :
    ∀ μ', μ.Le μ' → μ'.own w.heap.size = true → μ'.size w.heap.size = arr.size → BlkR μ' w' w.heap.size 0 (mkCells cs n) := fun μ' hle ho hz =>
  ⟨hl, hc, by rw [ho]; exact ⟨fun _ => nofun, fun _ => rfl⟩, arr, e, fr, p.new, hz.symm, fun _ => hun, fun i v hv => by
    obtain ⟨x, hx, rx⟩ := r i v hv
    exact ⟨x, by rw [Nat.zero_add]; exact hx, rx.mono hle⟩⟩
theorem unmarked_zero (n : Nat) : Unmarked n (0, 0) := .inl rfl
theorem VRs.get' {l : List AV} {xs : Array Value} (r : VRs μ l xs.toList) (i : Nat) (v : AV) (hv : l[i]? = some v) : ∃ x, xs[i]? = some x ∧ VR μ v x := by
  obtain ⟨x, hx, rx⟩ := r.get i v hv
  exact ⟨x, by rwa [Array.getElem?_toList] at hx, rx⟩
theorem run_newRow (e : TypeId) (cs : Array Value) : (newRow e cs).run P w = .ok ⟨w.heap.size, 0, none⟩ { w with heap := w.heap.push (.cells cs e) } := by
  simp [newRow]
theorem pushed_mk (o : Obj) : Pushed w o { w with heap := w.heap.push o } := ⟨rfl, rfl, rfl, rfl⟩
theorem newVar_makes {e : TypeId} {cs : List AV} {y : Value} {n : Nat} (hl : cs.length = n) (hc : ∀ v ∈ cs, isCell v = true) (r : VRs μ cs y.cells.toList) :
    Makes P μ w (do pure (.value (.pointer (some (← newVar e y))))) .ptr (mkCells cs n) := by
  refine ⟨.pointer (some ⟨w.heap.size, 0, none⟩), _, .cells y.cells e, y.cells.size, by simp only [newVar, Sem.run_bind, run_newRow, Result.andThen_ok, Sem.run_pure], pushed_mk _, fun μ' b hle hb ho hz => ⟨?_, ?_⟩⟩
  · show VR μ' (.ptr b 0) _
    rw [VR_ptr]; exact ⟨_, _, hb, rfl⟩
  · exact cells_blk hl hc (pushed_mk _) (unmarked_zero _) (fun i v hv => r.get' i v hv) μ' hle ho hz
theorem sl_VR {b c n l k s : Nat} {ex : Bool} {cp' : Nat} (hb : μ.at_ b = some (c, 0)) (hlk : l ≤ k) (hk : k ≤ cp') (hex : ex = true → cp' = k) (hz : μ.size c = n) (hn : cp' * s ≤ n) :
    VR μ (.slice b 0 l k s ex) (.slice (some ⟨c, 0, none⟩) l cp') := by
  rw [VR_slice]
  exact ⟨c, 0, ⟨c, 0, none⟩, cp', hb, rfl, hlk, hk, hex, fun _ => ⟨rfl, by rw [hz]; omega⟩⟩
theorem alloc_makes {z : AV} (hz : zeroOf P ty = some z) {k : MK} {x : Blk} (e : evL (.alloc (cellsC z)) t = .ok k x) :
    Makes P μ w (do pure (.value (← Instr.alloc ty true (.tuple #[])))) k x := by
  obtain ⟨y, r, hy⟩ := zeroOf_ok (μ := μ) hz
  obtain ⟨hc, e1⟩ := bc_inv (show bc (lall isCell (cellsC z)) (OL.ok .ptr (mkCells (cellsC z) (len (cellsC z)))) .no = .ok k x from e) nofun
  cases e1
  rw [lall_iff] at hc
  obtain ⟨y', w', o, n, h1, h2, h3⟩ := newVar_makes (P := P) (w := w) (e := ty) (len_eq (cellsC z)).symm hc (zero_cells r)
  exact ⟨y', w', o, n, by simpa [Instr.alloc, hy] using h1, h2, h3⟩
theorem box_makes {a : AX} {y : Value} (r : VR μ (evX a t) y) {k : MK} {x : Blk} (e : evL (.box a) t = .ok k x) :
    Makes P μ w (do pure (.value (← Instr.box ty y))) k x := by
  obtain ⟨hc, e1⟩ := bc_inv (show bc (lall isCell (cellsOf (evX a t))) (OL.ok .ptr (mkCells (cellsOf (evX a t)) (len (cellsOf (evX a t))))) .no = .ok k x from e) nofun
  cases e1
  rw [lall_iff] at hc
  obtain ⟨y', w', o, n, h1, h2, h3⟩ := newVar_makes (P := P) (w := w) (e := ty) (len_eq (cellsOf (evX a t))).symm hc r.cells
  exact ⟨y', w', o, n, by simpa [Instr.box] using h1, h2, h3⟩
theorem makeMap_makes {k : MK} {x : Blk} {r : Option Value} (hr : r = none ∨ ∃ k n kt el, r = some (.int k n) ∧ P.underlying ty = some (.map kt el)) (e : evL .makeMap t = .ok k x) :
    Makes P μ w (do pure (.value (← Instr.makeMap ty r))) k x := by
  cases e
  refine ⟨.map (some w.heap.size), { w with heap := w.heap.push (.map #[] 0) }, .map #[] 0, 0, ?_, pushed_mk _, fun μ' b hle hb ho hz => ⟨?_, ?_⟩⟩
  · rcases hr with rfl | ⟨k, n, kt, el, rfl, hu⟩
    · simp [Instr.makeMap]
    · simp [Instr.makeMap, run_underlying hu, asInt, asIntOf]
  · show VR μ' (.map b) _
    rw [VR_map]; exact ⟨_, _, hb, rfl⟩
  · exact ⟨rfl, rfl, ho, #[], by simp, rfl, fun i k v n hi => by simp at hi⟩
theorem u8s_get {s : List Nat} {i : Nat} {v : AV} (hv : (u8s s)[i]? = some v) : ∃ n, s[i]? = some n ∧ v = .int .u8 (n : Int) := by
  unfold u8s at hv
  rw [lmap_eq, List.getElem?_map] at hv
  cases h1 : s[i]? with
  | none => rw [h1] at hv; cases hv
  | some n => rw [h1] at hv; exact ⟨n, rfl, (Option.some.inj hv).symm⟩
theorem u8s_cell (s : List Nat) : ∀ v ∈ u8s s, isCell v = true := fun v hv => by
  unfold u8s at hv
  rw [lmap_eq, List.mem_map] at hv
  obtain ⟨n, _, rfl⟩ := hv; rfl
theorem u8s_length (s : List Nat) : (u8s s).length = s.length := by unfold u8s; rw [lmap_eq, List.length_map]
theorem freeze_push (w : World) (arr : Array Value) (el : TypeId) (k : Nat) :
    ({ w with heap := w.heap.push (.cells arr el) } : World).freeze ⟨w.heap.size, k, none⟩ 1 = { w with heap := w.heap.push (.cells arr el (k, k + 1)) } := by
  have hm : ∀ (a : Array Obj) (x : Obj) (f : Obj → Obj), (a.push x).modify a.size f = a.push (f x) := by
    intro a x f
    apply Array.ext
    · simp
    · intro i h1 h2
      simp only [Array.getElem_modify, Array.getElem_push]
      by_cases h : a.size = i
      · subst h; simp
      · have hi : i < a.size := by simp at h1; omega
        simp [h, hi]
  unfold World.freeze
  rw [if_neg (by decide)]
  simp [hm]
theorem toBytes_makes {el : TypeId} {src : TypeId} {a : AX} {y : Value} (hsrc : P.underlying src = some .string) (hu : P.underlying ty = some (.slice el)) (he : P.underlying el = some (.int .u8))
    (r : VR μ (evX a t) y) {k : MK} {x : Blk} (e : evL (.toBytes a) t = .ok k x) : Makes P μ w (do pure (.value (← convert src ty y))) k x := by
  obtain ⟨s, hs, e1⟩ := asStr_inv (show ((evX a t).asStr .no fun s => OL.ok (.sl (len s) (len s) 1 false) (mkCells (u8s s) (len s))) = .ok k x from e) nofun
  cases e1
  rw [hs, VR_str] at r
  obtain ⟨s', rfl, rfl⟩ := r
  obtain ⟨cap, hcap, hq⟩ : ∃ cap, s'.size ≤ cap ∧ (choose (.appendCap s'.size 0 el)).run P w = .ok cap { w with drawn := w.drawn + 1 } :=
    ⟨_, Nat.le_add_right _ _, by simp only [run_choose]; rfl⟩
  obtain ⟨arr, harr⟩ : ∃ arr : Array Value, arr = (s'.data.map fun (b : UInt8) => Value.int .u8 (b.toNat : Int)) ++ Array.replicate (cap - s'.size) (.int .u8 0) := ⟨_, rfl⟩
  have hsz : arr.size = cap := by
    have : s'.data.size = s'.size := rfl
    rw [harr]; simp; omega
  have hfr := freeze_push { w with drawn := w.drawn + 1 } arr el cap
  have hp : Pushed w (.cells arr el (cap, cap + 1)) { w with drawn := w.drawn + 1, heap := w.heap.push (.cells arr el (cap, cap + 1)) } := ⟨rfl, rfl, rfl, rfl⟩
  refine ⟨.slice (some ⟨w.heap.size, 0, none⟩) s'.size cap, { w with drawn := w.drawn + 1, heap := w.heap.push (.cells arr el (cap, cap + 1)) }, _, cap, ?_, hp, fun μ' b hle hb ho hz => ⟨?_, ?_⟩⟩
  · have hsh : ({ w with drawn := w.drawn + 1, heap := w.heap.push (.cells arr el) } : World).shape? w.heap.size = some (el, cap) := by
      unfold World.shape?
      have : ({ w with drawn := w.drawn + 1, heap := w.heap.push (.cells arr el) } : World).heap[w.heap.size]? = some (.cells arr el) := by show (w.heap.push _)[w.heap.size]? = _; simp
      rw [this, ← hsz]
    have hmk : (markStringish ⟨w.heap.size, 0, none⟩).run P { w with drawn := w.drawn + 1, heap := w.heap.push (.cells arr el) } = .ok () { w with drawn := w.drawn + 1, heap := w.heap.push (.cells arr el (cap, cap + 1)) } := by
      simp only [markStringish, Sem.run_bind, run_shape, Result.andThen_ok, hsh, run_freeze]
      rw [hfr]
    simp only [convert, Sem.run_bind, run_underlying hsrc, run_underlying hu, run_underlying he, Result.andThen_ok, Conv.stringToBytes, hq, ← harr, run_newRow, hmk, Sem.run_pure]
  · show VR μ' (.slice b 0 (len (byteList s')) (len (byteList s')) 1 false) _
    rw [len_eq, byteList_length]
    exact sl_VR hb (Nat.le_refl _) hcap nofun hz (by omega)
  · refine cells_blk ((u8s_length _).trans (len_eq _).symm) (u8s_cell _) hp (.inr (by omega)) (fun i v hv => ?_) μ' hle ho (by rw [hz, hsz])
    obtain ⟨n, hn, rfl⟩ := u8s_get hv
    unfold byteList at hn
    rw [List.getElem?_map] at hn
    cases hb : s'.data.toList[i]? with
    | none => rw [hb] at hn; cases hn
    | some bt =>
      rw [hb] at hn; cases hn
      rw [Array.getElem?_toList] at hb
      obtain ⟨hlt, hb'⟩ := Array.getElem?_eq_some_iff.1 hb
      refine ⟨.int .u8 bt.toNat, ?_, by simp⟩
      rw [harr, Array.getElem?_append_left (by simpa using hlt), Array.getElem?_map, hb]; rfl
theorem rep_get {z : List AV} {zs : Array Value} (r : VRs μ z zs.toList) (n : Nat) (hz : z ≠ []) : VRs μ (lrep z n) (((Array.range (n * z.length)).map (zs[· % zs.size]!)).toList) := by
  have hlz := r.length
  simp at hlz
  have hpos : 0 < z.length := List.length_pos_iff.2 hz
  refine .of_get (by rw [lrep_length]; simp) fun i v hv => ?_
  have hi : i < n * z.length := by
    have := (List.getElem?_eq_some_iff.1 hv).1
    rwa [lrep_length] at this
  rw [lrep_get z n i hi] at hv
  obtain ⟨x, hx, rx⟩ := r.get' _ _ hv
  refine ⟨x, ?_, rx⟩
  simp [hi, hlz]
  have hlt : i % z.length < zs.size := by rw [hlz]; exact Nat.mod_lt _ hpos
  rw [getElem!_pos zs _ hlt]
  rw [Array.getElem?_eq_getElem hlt] at hx
  exact Option.some.inj hx
theorem buildSlice_makes {n : Nat} {ps : Array (Nat × Operand)} {l : LOp} (hc : compBuildSlice P ty n ps = .l l) (hx : Opnds μ t ρ (ps.toList.map (·.2))) {k : MK} {x : Blk} (e : evL l t = .ok k x) :
    Makes P μ w (do pure (.value (← Instr.buildSlice ty n (ps.map fun (i, x) => (i, ρ x))))) k x := by
  unfold compBuildSlice at hc
  split at hc
  · rename_i el hu
    split at hc
    · rename_i sz z h1 h2
      split at hc
      · rename_i asq hl
        split at hc
        · rename_i hcond
          cases hc
          obtain ⟨hsz, hmax⟩ := hcond
          obtain ⟨cs', hcs, e1⟩ := ocase_inv (show ocase .no (fun cs => bc (lall isCell cs) (OL.ok (.sl n n sz true) (mkCells cs (Nat.mul n sz))) .no) (fillParts asq t (Nat.mul n sz) (lrep (cellsC z) n)) = .ok k x from e) nofun
          obtain ⟨hcell, e2⟩ := bc_inv e1 nofun
          cases e2
          rw [lall_iff] at hcell
          obtain ⟨xz, rz, hzr⟩ := zeroOf_ok (μ := μ) h2
          have rzc := zero_cells rz
          obtain ⟨zs, hzs, rzs⟩ : ∃ zs : Array Value, ((n * sz = 0 → zs = #[]) ∧ (n * sz ≠ 0 → zs = xz.cells)) ∧
              VRs μ (lrep (cellsC z) n) (((Array.range (n * sz)).map (zs[· % zs.size]!)).toList) := by
            by_cases h0 : n * sz = 0
            · refine ⟨#[], ⟨fun _ => rfl, fun h => absurd h0 h⟩, ?_⟩
              rw [h0]
              have : lrep (cellsC z) n = [] := by
                apply List.eq_nil_of_length_eq_zero; rw [lrep_length, ← hsz]; exact h0
              rw [this, VRs_nil]; simp
            · refine ⟨xz.cells, ⟨fun h => absurd h h0, fun _ => rfl⟩, ?_⟩
              rw [hsz]
              exact rep_get rzc n (by intro hh; rw [hh] at hsz; simp at hsz; subst hsz; exact h0 rfl)
          obtain ⟨ds', hf, hr, hlen⟩ := fill_ok hl hx rzs (by rw [lrep_length, ← hsz]; rfl) hcs
          have hds : ds'.size = n * sz := by have := hr.length; simp at this; rw [this, hlen]; rfl
          refine ⟨.slice (some ⟨w.heap.size, 0, none⟩) n n, { w with heap := w.heap.push (.cells ds' el) }, _, n * sz, ?_, pushed_mk _, fun μ' b hle hb ho hz => ⟨?_, ?_⟩⟩
          · have hno : ¬ (n * sz > 2 ^ 24) := by omega
            have hf' : Instr.fill (fun i => some (i * sz, sz)) ((Array.range (n * sz)).map (zs[· % zs.size]!)) (ps.map fun (i, x) => (i, ρ x)).toList = some ds' := by rw [← hf, Array.toList_map]
            by_cases h0 : n * sz = 0
            · rw [hzs.1 h0] at hf'
              simp only [Instr.buildSlice, Sem.run_bind, run_underlying hu, run_sizeOf h1, Result.andThen_ok, if_neg hno, if_pos h0, Sem.run_pure, hf', run_newRow]
            · rw [hzs.2 h0] at hf'
              simp only [Instr.buildSlice, Sem.run_bind, run_underlying hu, run_sizeOf h1, Result.andThen_ok, if_neg hno, if_neg h0, Sem.run_pure, hzr, hf', run_newRow]
          · exact sl_VR hb (Nat.le_refl _) (Nat.le_refl _) (fun _ => rfl) hz (Nat.le_refl _)
          · exact cells_blk hlen hcell (pushed_mk _) (unmarked_zero _) (fun i v hv => hr.get' i v hv) μ' hle ho (by rw [hz, hds])
        · cases hc
      · cases hc
    · cases hc
  · cases hc
theorem makeSlice_makes {l c : AX} {yl yc : Value} {lo : LOp} (hc : compMakeSlice P ty l c = .l lo) (rl : VR μ (evX l t) yl) (rc : VR μ (evX c t) yc) {k : MK} {x : Blk} (e : evL lo t = .ok k x) :
    Makes P μ w (do pure (.value (← Instr.makeSlice ty yl yc))) k x := by
  unfold compMakeSlice at hc
  split at hc
  · rename_i el hu
    split at hc
    · rename_i sz by_ z h1 h2 h3
      split at hc
      · rename_i hsz
        cases hc
        obtain ⟨k1, n1, hn1, e1⟩ := asInt_inv (show ((evX l t).asInt .no fun _ l => (evX c t).asInt .no fun _ c => natOf l .no fun l => natOf c .no fun c =>
          bc (lall isCell (cellsC z)) (bc (Nat.ble l c) (bc (Nat.ble (Nat.mul c by_) 70368744177664) (bc (Nat.ble c 70368744177664)
            (OL.ok (.sl l c sz true) (mkCells (lrep (cellsC z) c) (Nat.mul c sz))) .no) .no) .no) .no) = .ok k x from e) nofun
        obtain ⟨k2, n2, hn2, e2⟩ := asInt_inv e1 nofun
        obtain ⟨nl, rfl, e3⟩ := natOf_inv e2 nofun
        obtain ⟨nc, rfl, e4⟩ := natOf_inv e3 nofun
        obtain ⟨hcell, e5⟩ := bc_inv e4 nofun
        obtain ⟨hle, e6⟩ := ble_inv e5 nofun
        obtain ⟨hb1, e7⟩ := ble_inv e6 nofun
        obtain ⟨hb2, e8⟩ := ble_inv e7 nofun
        cases e8
        rw [lall_iff] at hcell
        have hb1 : nc * by_ ≤ 70368744177664 := hb1
        rw [hn1, VR_int] at rl; subst rl
        rw [hn2, VR_int] at rc; subst rc
        obtain ⟨i, hi, hbi⟩ : ∃ i, P.info? el = some i ∧ i.bytes = by_ := by
          unfold bytesOf at h2
          cases hi : P.info? el with
          | none => rw [hi] at h2; cases h2
          | some i => rw [hi] at h2; exact ⟨i, rfl, Option.some.inj h2⟩
        obtain ⟨xz, rz, hzr⟩ := zeroOf_ok (μ := μ) h3
        have rzc := zero_cells rz
        have hw : ∀ m : Nat, m ≤ 70368744177664 → IntKind.i64.wrap (m : Int) = m := fun m hm => by
          rw [← wrapA_eq]
          show bc (Nat.blt m 9223372036854775808) (Int.ofNat m) _ = _
          rw [bc_blt, if_pos (by omega)]; rfl
        have hwl := hw nl (by omega)
        have hwc := hw nc hb2
        have hcb : ((by_ : Int) * (nc : Int)) = ((nc * by_ : Nat) : Int) := by rw [Nat.mul_comm]; simp
        have hlb : ((by_ : Int) * (nl : Int)) = ((nl * by_ : Nat) : Int) := by rw [Nat.mul_comm]; simp
        have hlb2 : nl * by_ ≤ nc * by_ := Nat.mul_le_mul_right _ hle
        obtain ⟨arr, harr, hrarr, hszarr⟩ : ∃ arr : Array Value, ((nc * sz = 0 → arr = (Array.range (nc * sz)).map ((#[] : Array Value)[· % (#[] : Array Value).size]!)) ∧ (nc * sz ≠ 0 → arr = (Array.range (nc * sz)).map (xz.cells[· % xz.cells.size]!))) ∧
            VRs μ (lrep (cellsC z) nc) arr.toList ∧ arr.size = nc * sz := by
          by_cases h0 : nc * sz = 0
          · refine ⟨_, ⟨fun _ => rfl, fun h => absurd h0 h⟩, ?_, by simp⟩
            rw [h0]
            have : lrep (cellsC z) nc = [] := by
              apply List.eq_nil_of_length_eq_zero; rw [lrep_length, ← hsz]; exact h0
            rw [this, VRs_nil]; simp
          · refine ⟨_, ⟨fun h => absurd h h0, fun _ => rfl⟩, ?_, by simp⟩
            rw [hsz]
            exact rep_get rzc nc (by intro hh; rw [hh] at hsz; simp at hsz; subst hsz; exact h0 rfl)
        refine ⟨.slice (some ⟨w.heap.size, 0, none⟩) nl nc, { w with heap := w.heap.push (.cells arr el) }, _, nc * sz, ?_, pushed_mk _, fun μ' b hle' hb ho hz => ⟨?_, ?_⟩⟩
        · have hg : ¬ ((decide ((nc : Int) < 0) || decide ((by_ : Int) * (nc : Int) > 2 ^ 48) || decide ((nl : Int) < 0) || decide ((nl : Int) > (nc : Int))) = true) := by
            rw [hcb]
            simp only [Bool.or_eq_true, decide_eq_true_eq]
            omega
          simp only [Instr.makeSlice, Sem.run_bind, run_underlying hu, asInt, asIntOf, typeInfo, run_program, hi, hbi, Result.andThen_ok, Sem.run_pure, hwl, hwc, run_sizeOf h1, Sem.run_ite]
          rw [if_neg hg]
          simp only [run_askRoom, Result.andThen_ok, Int.toNat_natCast]
          by_cases h0 : nc * sz = 0
          · rw [if_pos h0, run_newRow, ← harr.1 h0]; rfl
          · rw [if_neg h0, hzr]
            simp only [Result.andThen_ok, run_newRow, ← harr.2 h0]
        · exact sl_VR hb hle (Nat.le_refl _) (fun _ => rfl) hz (Nat.le_refl _)
        · exact cells_blk (by rw [lrep_length, ← hsz]; rfl) (fun v hv => hcell v (lrep_mem hv)) (pushed_mk _) (unmarked_zero _) (fun i v hv => hrarr.get' i v hv) μ' hle' ho (by rw [hz, hszarr])
      · cases hc
    · cases hc
  · cases hc
theorem makes_ok {o : Oper} {l : LOp} (hc : compOp P o.op = .l l) (hx : Opnds μ t ρ o.op.operands.toList) {k : MK} {x : Blk} (e : evL l t = .ok k x) : Makes P μ w (execOp ρ o) k x := by
  unfold execOp
  generalize o.op = op at *
  generalize o.type = oty at *
  cases op
  case alloc ty =>
    have hc : (match zeroOf P ty with | some z => AOp.l (.alloc (cellsC z)) | none => no) = .l l := hc
    split at hc
    · rename_i z hz; cases hc; exact alloc_makes hz e
    · cases hc
  case box ty x =>
    obtain ⟨a, ha, e1⟩ := comp1_inv hc nofun; cases e1
    exact box_makes (hx x (by simp [Op.operands]) a ha) e
  case buildSlice ty n ps => exact buildSlice_makes (hc : compBuildSlice P ty n ps = .l l) (by simpa [Op.operands] using hx) e
  case makeSlice ty a b =>
    obtain ⟨a', b', ha, hb, e1⟩ := comp2_inv hc nofun
    exact makeSlice_makes e1 (hx a (by simp [Op.operands]) a' ha) (hx b (by simp [Op.operands]) b' hb) e
  case makeMap ty r =>
    have hc : compMakeMap P ty r = .l l := hc
    unfold compMakeMap at hc
    split at hc
    · cases hc; exact makeMap_makes (.inl rfl) e
    · rename_i k1 n1 _
      split at hc
      · rename_i kt el hu
        cases hc
        refine makeMap_makes (.inr ⟨k1, n1, kt, el, ?_, hu⟩) e
        have := hx (.const (.int k1 n1)) (by simp [Op.operands]) (.const (.int k1 n1)) rfl
        rw [evX_const, VR_int] at this
        rw [Option.map_some, this]
      · cases hc
    · cases hc
  case convert s d x =>
    obtain ⟨a, ha, e1⟩ := comp1_inv hc nofun
    have ra := hx x (by simp [Op.operands]) a ha
    unfold compConv at e1
    split at e1
    · cases e1
    · rename_i el h1 h2
      split at e1
      · rename_i h3; cases e1; exact toBytes_makes h1 h2 h3 ra e
      · cases e1
    · split at e1 <;> cases e1
    · split at e1
      · split at e1 <;> cases e1
      · cases e1
    · cases e1
  case binOp bo ty x y yt =>
    exfalso
    have h1 : ∀ neg (a b : AX), compEq P neg ty a b ≠ .l l := fun neg a b => by
      unfold compEq
      repeat' split
      all_goals nofun
    cases bo <;> simp only [compOp, comp2, comp1] at hc <;> repeat' (split at hc)
    all_goals first | (cases hc; done) | exact h1 _ _ _ hc
  case call c =>
    exfalso
    have hc : compCall P c = .l l := hc
    unfold compCall at hc
    split at hc
    · split at hc
      · unfold compBuiltin at hc
        split at hc
        · unfold compAppend at hc; repeat' (split at hc)
          all_goals (cases hc; done)
        · unfold compLen at hc; repeat' (split at hc)
          all_goals (cases hc; done)
        all_goals first | (cases hc; done) | (repeat' (split at hc)) <;> (cases hc; done)
      · cases hc
    · repeat' (split at hc)
      all_goals (cases hc; done)
    · cases hc
  all_goals
    exfalso
    simp only [compOp, comp1, comp2, comp3, compBuild, compSlice, compFieldAddr, compField, compIndexAddr, compIndex, compLookup, compMapUpdate, no] at hc
    repeat' (split at hc)
    all_goals (cases hc; done)
end
end Eng
end
section
set_option linter.unusedVariables false
set_option linter.unusedSimpArgs false
namespace Eng
open Go Go.RowKit
section
variable {P : Program} {μ μ' : Mp} {h h' : Hp} {w w' : World} {t : T} {ρ : Operand → Value} {ty : TypeId}
theorem setCell_heap {c o : Nat} {v : Value} {arr : Array Value} {e : TypeId} {fr : Nat × Nat} (hw : w.heap[c]? = some (.cells arr e fr)) :
    (w.setCell ⟨c, o, none⟩ v).heap[c]? = some (.cells (arr.setIfInBounds o v) e fr) ∧ (∀ c', c' ≠ c → (w.setCell ⟨c, o, none⟩ v).heap[c']? = w.heap[c']?) ∧ (w.setCell ⟨c, o, none⟩ v).heap.size = w.heap.size := by
  refine ⟨?_, fun c' hc => ?_, by simp [World.setCell]⟩
  · simp only [World.setCell, Array.getElem?_modify]
    simp [hw]
  · simp only [World.setCell, Array.getElem?_modify]
    rw [if_neg (fun e => hc e.symm)]
theorem setCells_heap {c : Nat} {e : TypeId} {fr : Nat × Nat} : ∀ {vs : List Value} {o : Nat} {w : World} {arr : Array Value}, w.heap[c]? = some (.cells arr e fr) → o + vs.length ≤ arr.size →
    (∃ arr', (w.setCells c o vs).heap[c]? = some (.cells arr' e fr) ∧ arr'.toList = arr.toList.take o ++ vs ++ arr.toList.drop (o + vs.length)) ∧
    (∀ c', c' ≠ c → (w.setCells c o vs).heap[c']? = w.heap[c']?) ∧ (w.setCells c o vs).heap.size = w.heap.size ∧ (w.setCells c o vs).os = w.os ∧ (w.setCells c o vs).tape = w.tape ∧ (w.setCells c o vs).output = w.output
  | [], o, w, arr, hw, _ => ⟨⟨arr, hw, by simp⟩, fun _ _ => rfl, rfl, rfl, rfl, rfl⟩
  | v :: vs, o, w, arr, hw, hl => by
    obtain ⟨h1, h2, h3⟩ := setCell_heap (o := o) (v := v) hw
    obtain ⟨⟨arr', h4, h5⟩, h6, h7, h8, h9, h10⟩ := setCells_heap (vs := vs) (o := o + 1) h1 (by simp at hl ⊢; omega)
    refine ⟨⟨arr', h4, ?_⟩, fun c' hc => (h6 c' hc).trans (h2 c' hc), h7.trans h3, h8, h9, h10⟩
    rw [h5, Array.toList_setIfInBounds]
    have hlt : o < arr.toList.length := by simp at hl ⊢; omega
    rw [List.take_succ_eq_append_getElem (by simpa using hlt), List.getElem_set_self, List.take_set_of_le (Nat.le_refl _), List.drop_set_of_lt (by omega)]
    rw [show o + 1 + vs.length = o + (v :: vs).length by simp; omega]
    simp
theorem cell_of_heap {c o : Nat} {arr : Array Value} {e : TypeId} {fr : Nat × Nat} (hw : w.heap[c]? = some (.cells arr e fr)) : w.cell? ⟨c, o, none⟩ = arr[o]? := by simp [World.cell?, hw]
theorem frozen_of_heap {c o : Nat} {arr : Array Value} {e : TypeId} {fr : Nat × Nat} (hw : w.heap[c]? = some (.cells arr e fr)) (hu : Unmarked arr.size fr) (ho : o < arr.size) : w.frozen? ⟨c, o, none⟩ = false := by
  simp only [World.frozen?, hw]; exact hu.at_ o ho
theorem run_storeCells_own {c o : Nat} {vs : List Value} {arr : Array Value} {e : TypeId} {fr : Nat × Nat} (hw : w.heap[c]? = some (.cells arr e fr)) (hu : Unmarked arr.size fr) (hl : o + vs.length ≤ arr.size)
    (h1 : ∀ v ∈ vs, v.oneCell' = true) : (storeCells ⟨c, o, none⟩ vs).run P w = .ok () (w.setCells c o vs) := by
  have := run_storeCells_cells (P := P) c o vs 0 w (fun j hj => by
      rw [cell_of_heap hw, Nat.add_zero]
      simp; omega) (fun j hj => by rw [Nat.add_zero]; exact frozen_of_heap hw hu (by omega)) h1
  rwa [Nat.add_zero] at this
theorem put_inv {b n : Nat} {cs : List AV} {ow : Own} {v u : AV} (e : put h b cs n ow v = .ok u h') : v = u ∧ ow ≠ .ro ∧ h'.next = h.next ∧ hget h' b = some (.cells cs n .solo) ∧
    ∀ b', b' ≠ b → (hget h' b' = hget h b' ∧ ow ≠ .pair b') ∨ (ow = .pair b' ∧ hget h' b' = some .dead) := by
  cases ow with
  | ro => cases e
  | solo =>
    cases e
    exact ⟨rfl, nofun, rfl, hget_hset _ _ _, fun b' hb => .inl ⟨hget_hset_ne _ _ hb, nofun⟩⟩
  | pair p =>
    cases e
    refine ⟨rfl, nofun, rfl, hget_hset _ _ _, fun b' hb => ?_⟩
    by_cases hp : b' = p
    · subst hp
      exact .inr ⟨rfl, by rw [hget_hset_ne _ _ hb, hget_hset]⟩
    · exact .inl ⟨by rw [hget_hset_ne _ _ hb, hget_hset_ne _ _ hp], fun hh => hp (Own.pair.inj hh).symm⟩
theorem Sim.write (hs : Sim μ h w) {b c s o n : Nat} {cs : List AV} {ow : Own} {v u : AV} {vs : List AV} {xs : List Value} (hb : μ.at_ b = some (c, s)) (hg : hget h b = some (.cells cs n ow))
    (ho : o + vs.length ≤ n) (hcell : ∀ v ∈ vs, isCell v = true) (r : VRs μ vs xs) {cs' : List AV} (hcs : cs' = cs.take o ++ vs ++ cs.drop (o + vs.length)) (hput : put h b cs' n ow v = .ok u h') :
    ∃ w', (storeCells ⟨c, s + o, none⟩ xs).run P w = .ok () w' ∧ Goes μ h w μ h' w' ∧ Sim μ h' w' ∧ v = u := by
  obtain ⟨rfl, hro, hnext, hgb, hoth⟩ := put_inv hput
  obtain ⟨hl, hc, hown, arr, el, fr, hw, hsz, hun, hcells⟩ := hs.blk b c s _ hb hg
  have hoc : μ.own c = true := hown.2 hro
  have hun := hun hoc
  have hlen := r.length
  obtain ⟨w', hrun, arr', hw', hsz', hin, hout, hother, hsize, hos, htape, houtp⟩ : ∃ w', (storeCells ⟨c, s + o, none⟩ xs).run P w = .ok () w' ∧ ∃ arr' : Array Value, w'.heap[c]? = some (.cells arr' el fr) ∧ arr'.size = arr.size ∧
      (∀ j x, xs[j]? = some x → arr'[s + o + j]? = some x) ∧ (∀ i, (i < s + o ∨ s + o + xs.length ≤ i) → arr'[i]? = arr[i]?) ∧
      (∀ c', c' ≠ c → w'.heap[c']? = w.heap[c']?) ∧ w'.heap.size = w.heap.size ∧ w'.os = w.os ∧ w'.tape = w.tape ∧ w'.output = w.output := by
    by_cases hv0 : xs = []
    · subst hv0
      exact ⟨w, rfl, arr, hw, rfl, fun j x hx => by simp at hx, fun _ _ => rfl, fun _ _ => rfl, rfl, rfl, rfl, rfl⟩
    · have hpos : 0 < xs.length := List.length_pos_iff.2 hv0
      have hroom : s + o + xs.length ≤ arr.size := by
        have := hs.room hb hg (by omega)
        omega
      have h1 : ∀ x ∈ xs, x.oneCell' = true := fun x hx => by
        obtain ⟨j, hj, rfl⟩ := List.mem_iff_getElem.1 hx
        obtain ⟨v', hv'⟩ : ∃ v', vs[j]? = some v' := ⟨_, List.getElem?_eq_getElem (by omega)⟩
        obtain ⟨y, hy, ry⟩ := r.get j v' hv'
        rw [List.getElem?_eq_getElem hj] at hy
        rw [Option.some.inj hy]
        exact ry.oneCell (hcell v' (List.mem_of_getElem? hv'))
      obtain ⟨⟨arr', h2, h3⟩, h4, h5, h6, h7, h8⟩ := setCells_heap (vs := xs) hw hroom
      have hsz2 : arr'.size = arr.size := by
        have := congrArg List.length h3
        simp at this; omega
      refine ⟨_, run_storeCells_own hw hun hroom h1, arr', h2, hsz2, fun j x hx => ?_, fun i hi => ?_, h4, h5, h6, h7, h8⟩
      · have hj := (List.getElem?_eq_some_iff.1 hx).1
        rw [← Array.getElem?_toList, h3, List.append_assoc, List.getElem?_append_right (by simp; omega)]
        rw [List.getElem?_append_left (by simp; omega), ← hx]
        congr 1; simp; omega
      · rw [← Array.getElem?_toList, h3, List.append_assoc]
        rcases hi with hi | hi
        · rw [List.getElem?_append_left (by simp; omega), List.getElem?_take, if_pos hi, Array.getElem?_toList]
        · rw [List.getElem?_append_right (by simp; omega), List.getElem?_append_right (by simp; omega), List.getElem?_drop, Array.getElem?_toList]
          congr 1; simp; omega
  have hle : μ.Le μ := Mp.Le.refl μ
  have hother' : ∀ b' x, b' ≠ b → hget h' b' = some x → x ≠ .dead → hget h b' = some x ∧ ow ≠ .pair b' := fun b' x hbb hx hd => by
    rcases hoth b' hbb with ⟨h1, h2⟩ | ⟨h1, h2⟩
    · exact ⟨by rw [← h1]; exact hx, h2⟩
    · rw [h2] at hx; cases hx; exact absurd rfl hd
  refine ⟨w', hrun, ?_, ?_, rfl⟩
  · refine ⟨by rw [hnext]; exact Nat.le_refl _, fun _ _ => rfl, fun _ _ => rfl, fun _ _ => rfl, by omega, fun c' _ hf => hother c' (fun e => by rw [e, hoc] at hf; cases hf), fun b' _ hn => ?_, hos, htape, houtp⟩
    by_cases hbb : b' = b
    · subst hbb; rw [hb] at hn; cases hn
    · rcases hoth b' hbb with ⟨h1, _⟩ | ⟨h1, h2⟩
      · exact .inl h1
      · subst h1
        obtain ⟨y, hy⟩ := hs.peer b c s cs n b' hb hg
        rw [hn] at hy; cases hy
  · refine ⟨fun b' hb' => hs.lt b' (by omega), fun b' hb' => ?_, fun b' c' s' e => by rw [hsize]; exact hs.old b' c' s' e, fun b' c' s' x e hx => ?_, fun b1 b2 c' s1 s2 x1 x2 hne e1 e2 hoo g1 g2 d1 d2 => ?_, fun b' c' s' cs2 n2 p e g => ?_⟩
    · have hbb : b' ≠ b := fun e => by
        subst e
        have := hs.lt b' (by omega)
        rw [hb] at this; cases this
      rcases hoth b' hbb with ⟨h1, _⟩ | ⟨h1, h2⟩
      · rw [h1]; exact hs.fresh b' (by omega)
      · subst h1
        obtain ⟨y, hy⟩ := hs.peer b c s cs n b' hb hg
        rw [hs.lt b' (by omega)] at hy; cases hy
    · by_cases hbb : b' = b
      · subst hbb
        rw [hgb] at hx; cases hx
        rw [hb] at e; cases e
        have hl' : cs'.length = n := by rw [hcs]; simp; omega
        refine ⟨hl', fun v' hv' => ?_, ⟨fun _ => nofun, fun _ => hoc⟩, arr', el, fr, hw', by rw [hsz']; exact hsz, fun _ => by rw [hsz']; exact hun, fun i v' hv' => ?_⟩
        · rw [hcs] at hv'
          simp only [List.mem_append] at hv'
          rcases hv' with (hv' | hv') | hv'
          · exact hc v' (List.mem_of_mem_take hv')
          · exact hcell v' hv'
          · exact hc v' (List.mem_of_mem_drop hv')
        · rw [hcs, List.append_assoc] at hv'
          by_cases h1 : i < o
          · rw [List.getElem?_append_left (by simp; omega), List.getElem?_take, if_pos h1] at hv'
            rw [hout (s + i) (.inl (by omega))]
            exact hcells i v' hv'
          · rw [List.getElem?_append_right (by simp; omega)] at hv'
            by_cases h2 : i < o + vs.length
            · rw [List.getElem?_append_left (by simp; omega)] at hv'
              obtain ⟨x, hx, rx⟩ := r.get _ _ hv'
              refine ⟨x, ?_, rx⟩
              have := hin _ _ hx
              rw [← this]; congr 1
              simp; omega
            · rw [List.getElem?_append_right (by simp; omega), List.getElem?_drop] at hv'
              rw [hout (s + i) (.inr (by omega))]
              refine hcells i v' ?_
              rw [← hv']; congr 1; simp; omega
      · by_cases hd : x = .dead
        · subst hd; trivial
        · obtain ⟨hx', hp⟩ := hother' b' x hbb hx hd
          have hr := hs.blk b' c' s' x e hx'
          by_cases hcc : c' = c
          · subst hcc
            obtain ⟨_, _, _, _, h1, _⟩ := hs.apart b b' c' s s' _ x (fun e => hbb e.symm) hb e hoc hg hx' nofun hd
            cases h1
            exact absurd rfl hp
          · exact hr.mono hle (hother c' hcc) rfl rfl
    · by_cases hb1 : b1 = b
      · subst hb1
        obtain ⟨hx', hp⟩ := hother' b2 x2 (fun e => hne e.symm) g2 d2
        rw [hb] at e1; cases e1
        obtain ⟨_, _, _, _, h1, _⟩ := hs.apart b1 b2 c s s2 _ x2 hne hb e2 hoo hg hx' nofun d2
        cases h1; exact absurd rfl hp
      · by_cases hb2 : b2 = b
        · subst hb2
          obtain ⟨hx', hp⟩ := hother' b1 x1 hne g1 d1
          rw [hb] at e2; cases e2
          obtain ⟨_, _, _, _, h1, _⟩ := hs.apart b2 b1 c s s1 _ x1 (fun e => hne e.symm) hb e1 hoo hg hx' nofun d1
          cases h1; exact absurd rfl hp
        · exact hs.apart b1 b2 c' s1 s2 x1 x2 hne e1 e2 hoo (hother' b1 x1 hb1 g1 d1).1 (hother' b2 x2 hb2 g2 d2).1 d1 d2
    · by_cases hbb : b' = b
      · subst hbb; rw [hgb] at g; cases g
      · exact hs.peer b' c' s' cs2 n2 p e (hother' b' _ hbb g nofun).1
end
end Eng
end
section
set_option linter.unusedVariables false
set_option linter.unusedSimpArgs false
namespace Eng
open Go Go.RowKit
section
variable {P : Program} {μ μ' : Mp} {h h' : Hp} {w w' : World} {t : T} {ρ : Operand → Value} {ty : TypeId}
def Eff (P : Program) (μ : Mp) (h : Hp) (w : World) (s : Sem Next) (v : AV) (h' : Hp) : Prop :=
  ∃ μ' w' n, s.run P w = .ok n w' ∧ Goes μ h w μ' h' w' ∧ Sim μ' h' w' ∧ ((∃ y, n = .value y ∧ VR μ' v y) ∨ (n = .skip ∧ v = undef))
def EffV (P : Program) (μ : Mp) (h : Hp) (w : World) (s : Sem Value) (v : AV) (h' : Hp) : Prop :=
  ∃ μ' w' y, s.run P w = .ok y w' ∧ Goes μ h w μ' h' w' ∧ Sim μ' h' w' ∧ VR μ' v y
theorem EffV.eff {s : Sem Value} {v : AV} (g : EffV P μ h w s v h') : Eff P μ h w (do pure (.value (← s))) v h' := by
  obtain ⟨μ', w', y, h1, h2, h3, h4⟩ := g
  exact ⟨μ', w', .value y, by simp [h1], h2, h3, .inl ⟨y, rfl, h4⟩⟩
theorem upd_over (cs : List AV) (o : Nat) (v : AV) (ho : o < cs.length) : upd v cs o = cs.take o ++ [v] ++ cs.drop (o + 1) := by
  rw [upd_eq, List.set_eq_take_append_cons_drop, if_pos ho]; simp
theorem wr1_ok (hs : Sim μ h w) {b c s o : Nat} (hb : μ.at_ b = some (c, s)) {v : AV} {x : Value} (r : VR μ v x) (hc : isCell v = true) {u : AV} (e : wr1 h b o v = .ok u h') :
    ∃ w', (storeCells ⟨c, s + o, none⟩ [x]).run P w = .ok () w' ∧ Goes μ h w μ h' w' ∧ Sim μ h' w' ∧ u = undef := by
  obtain ⟨cs, n, ow, hg, e1⟩ := hcells_inv e nofun
  obtain ⟨hlt, e2⟩ := blt_inv e1 nofun
  have hl := (hs.blk b c s _ hb hg).1
  obtain ⟨w', h1, h2, h3, h4⟩ := hs.write (P := P) (o := o) (vs := [v]) (xs := [x]) hb hg (by simp; omega) (fun v' hv' => by simp at hv'; rw [hv']; exact hc) (VRs.cell r)
    (upd_over cs o v (by omega)) e2
  exact ⟨w', h1, h2, h3, h4.symm⟩
theorem wrN_ok (hs : Sim μ h w) {b c s o m : Nat} (hb : μ.at_ b = some (c, s)) {vs : List AV} {xs : List Value} (r : VRs μ vs xs) (hc : ∀ v ∈ vs, isCell v = true) (hm : vs.length = m) {v u : AV}
    (e : wrN h b o vs m v = .ok u h') : ∃ w', (storeCells ⟨c, s + o, none⟩ xs).run P w = .ok () w' ∧ Goes μ h w μ h' w' ∧ Sim μ h' w' ∧ u = v := by
  obtain ⟨cs, n, ow, hg, e1⟩ := hcells_inv e nofun
  obtain ⟨hle, e2⟩ := ble_inv e1 nofun
  have hle : o + m ≤ n := hle
  have hl := (hs.blk b c s _ hb hg).1
  obtain ⟨w', h1, h2, h3, h4⟩ := hs.write (P := P) (o := o) (vs := vs) (xs := xs) hb hg (by omega) hc r (over_eq vs cs o (by omega)) e2
  exact ⟨w', h1, h2, h3, h4.symm⟩
theorem storeN_ok (hs : Sim μ h w) {n : Nat} {a x : AX} {ya yx : Value} (hn : szOf P ty = some n) (ra : VR μ (evX a t) ya) (rx : VR μ (evX x t) yx) {v : AV} (e : oStoreN n a x t h = .ok v h') :
    Eff P μ h w (do Instr.storeAt ty ya yx; pure .skip) v h' := by
  obtain ⟨b, o, hp, e1⟩ := asPtr_inv e nofun
  obtain ⟨hlen, e2⟩ := beq_inv e1 nofun
  obtain ⟨hcell, e3⟩ := bc_inv e2 nofun
  rw [lall_iff] at hcell
  rw [len_eq] at hlen
  rw [hp, VR_ptr] at ra
  obtain ⟨c, s, hb, rfl⟩ := ra
  have rc := rx.cells
  obtain ⟨w', h1, h2, h3, h4⟩ := wrN_ok (P := P) hs hb rc hcell hlen e3
  have hsz : yx.cells.size = n := by have := rc.length; simp at this; omega
  refine ⟨μ, w', .skip, ?_, h2, h3, .inr ⟨rfl, h4⟩⟩
  simp [Instr.storeAt, Instr.sureAddr, storeVar, run_sizeOf hn, hsz, h1]
theorem store_ok (hs : Sim μ h w) {n : Nat} {a x : AX} {ya yx : Value} (hn : szOf P ty = some n) (ra : VR μ (evX a t) ya) (rx : VR μ (evX x t) yx) {v : AV} {call : CallT}
    (e : evE (.store n a x) call t h = .ok v h') : Eff P μ h w (do Instr.storeAt ty ya yx; pure .skip) v h' := by
  have e : (bc (Nat.beq n 1) (fun t h => bc (isCell (evX x t)) (oStore1 a x t h) (oStoreN n a x t h)) (oStoreN n a x)) t h = .ok v h' := e
  rw [bc_beq] at e
  split at e
  · subst n
    have e : bc (isCell (evX x t)) (oStore1 a x t h) (oStoreN 1 a x t h) = .ok v h' := e
    rw [bc_eq] at e
    split at e
    · rename_i hc
      obtain ⟨b, o, hp, e1⟩ := asPtr_inv e nofun
      obtain ⟨_, e2⟩ := bc_inv e1 nofun
      rw [hp, VR_ptr] at ra
      obtain ⟨c, s, hb, rfl⟩ := ra
      obtain ⟨w', h1, h2, h3, h4⟩ := wr1_ok (P := P) hs hb rx hc e2
      have hcl : cellsOf (evX x t) = [evX x t] := cellsOf_cell (fun l hl => by rw [hl] at hc; cases hc)
      have hyc : yx.cells.toList = [yx] := by
        have r2 := rx.cells
        rw [hcl, VRs_cons] at r2
        obtain ⟨y, ys, h5, _, h6⟩ := r2
        rw [VRs_nil] at h6; subst h6
        have : yx.cells = #[yx] := by
          have hone := rx.oneCell hc
          cases yx <;> first | rfl | cases hone
        rw [this]
      have hsz : yx.cells.size = 1 := by rw [← Array.length_toList, hyc]; rfl
      refine ⟨μ, w', .skip, ?_, h2, h3, .inr ⟨rfl, h4⟩⟩
      simp [Instr.storeAt, Instr.sureAddr, storeVar, run_sizeOf hn, hsz, hyc, h1]
    · exact storeN_ok hs hn ra rx e
  · exact storeN_ok hs hn ra rx e
theorem src_ok {β : Type} (hs : Sim μ h w) {sz : Nat} {a : AV} {x : Value} {z r : β} {k : Nat → List AV → β} (hsz0 : sz ≠ 0) (rx : VR μ a x) (e : src h sz a z k = r) (hz : z ≠ r) :
    ∃ m l xs, k m l = r ∧ VRs μ l xs ∧ l.length = m * sz ∧ (∀ v ∈ l, isCell v = true) ∧ (∀ w, (Builtin.lenOf x).run P w = .ok m w) ∧
      ∀ n, n ≤ m → ∀ w1 : World, w1.heap = w.heap → (Builtin.firstCells sz n x).run P w1 = .ok (xs.take (n * sz)).toArray w1 := by
  replace e : (avS a).cs (a.asStr z fun s => bc (Nat.beq sz 1) (k (len s) (u8s s)) z) (k 0 []) (fun b o n _ s _ => bc (Nat.beq s sz) (rdN h b o (Nat.mul n sz) z fun l => k n l) z) = r := e
  cases a
  case nilSlice =>
    rw [VR_nilSlice] at rx; subst rx
    exact ⟨0, [], [], e, by rw [VRs_nil], by simp, (fun v hv => by cases hv), fun w => by simp [Builtin.lenOf], fun n hn w1 _ => by simp [Builtin.firstCells]⟩
  case slice b o n c s ex =>
    obtain ⟨rfl, e1⟩ := beq_inv (show bc (Nat.beq s sz) (rdN h b o (Nat.mul n sz) z fun l => k n l) z = r from e) hz
    rw [VR_slice] at rx
    obtain ⟨c0, s0, s', cp', hb, rfl, h1, h2, h3, h4⟩ := rx
    obtain ⟨l, xs, e2, r2, hlen, hcell, hx⟩ := rdN_ok hs hb e1 hz
    have hl := r2.length
    have hlen : xs.length = n * s := hlen
    refine ⟨n, l, xs, e2, r2, by omega, hcell, fun w => by simp [Builtin.lenOf], fun m hm w1 hw1 => ?_⟩
    have hms : m * s ≤ n * s := Nat.mul_le_mul_right _ hm
    by_cases h0 : cp' = 0
    · obtain rfl : n = 0 := by omega
      obtain rfl : m = 0 := by omega
      simp [Builtin.firstCells]; rfl
    · obtain ⟨rfl, _⟩ := h4 h0
      simp only [Builtin.firstCells]
      refine run_loadCells_of (by simp; omega) fun j x hj => ?_
      rw [List.getElem?_take] at hj
      split at hj
      · have := hx j x hj
        unfold World.cell? at this ⊢
        rw [hw1]; exact this
      · cases hj
  case str s =>
    obtain ⟨rfl, e1⟩ := beq_inv (show bc (Nat.beq sz 1) (k (len s) (u8s s)) z = r from e) hz
    rw [VR_str] at rx
    obtain ⟨s', rfl, rfl⟩ := rx
    refine ⟨_, _, (s'.data.toList.map fun (b : UInt8) => Value.int .u8 (b.toNat : Int)), e1, ?_, by rw [u8s_length, len_eq]; simp, u8s_cell _, fun w => by rw [len_eq, byteList_length]; simp [Builtin.lenOf], fun n hn w1 _ => ?_⟩
    · refine .of_get (by rw [u8s_length, byteList_length, List.length_map]; rfl) fun i v hv => ?_
      obtain ⟨n, hn, rfl⟩ := u8s_get hv
      unfold byteList at hn
      rw [List.getElem?_map] at hn ⊢
      cases hb : s'.data.toList[i]? with
      | none => rw [hb] at hn; cases hn
      | some bt => rw [hb] at hn; cases hn; exact ⟨_, rfl, by simp⟩
    · simp only [Builtin.firstCells, Sem.run_pure]
      congr 1
      apply Array.ext'
      simp [ByteArray.data_extract, Array.toList_extract, List.extract_eq_take_drop, List.map_take]
  all_goals exact absurd e hz
end
end Eng
end
section
set_option linter.unusedVariables false
set_option linter.unusedSimpArgs false
namespace Eng
open Go Go.RowKit
section
variable {P : Program} {μ μ' : Mp} {h h' : Hp} {w w' : World} {t : T} {ρ : Operand → Value} {ty : TypeId}
theorem growBy_le (n : Nat) : ∀ (r c : Nat), Builtin.growBy n r c ≤ max c (n + (n + 768) / 4)
  | 0, c => by simp [Builtin.growBy]; omega
  | r + 1, c => by
    unfold Builtin.growBy
    split
    · omega
    · have := growBy_le n r (c + (c + 768) / 4)
      omega
theorem nextcap_le {n c : Nat} (h : c < n) : Builtin.nextslicecap n c ≤ 3 * n := by
  unfold Builtin.nextslicecap
  split
  · omega
  · split
    · omega
    · have := growBy_le n 4 c
      omega
inductive Takes (P : Program) (w : World) (el xt : TypeId) (sz m : Nat) (x : Value) (xs : List Value) : Prop where
  | cells (d : TypeDesc) (hx : P.underlying xt = some d) (hd : ∀ k, d ≠ .int k) (hlen : ∀ w, (Builtin.lenOf x).run P w = .ok m w)
      (hf : ∀ w1 : World, w1.heap = w.heap → (Builtin.firstCells sz m x).run P w1 = .ok xs.toArray w1)
  | zeros (k k' : IntKind) (by_ : Nat) (z : Value) (hx : P.underlying xt = some (.int k)) (hv : x = .int k' m) (hm : m ≤ 70368744177664) (hby : bytesOf P el = some by_) (hmb : m * by_ ≤ 70368744177664)
      (hz : ∀ w, (zeroValue el).run P w = .ok z w) (h0 : m = 0 → xs = []) (hxs : m ≠ 0 → Builtin.zeroCells z.cells m = xs.toArray)
theorem bytesOf_info {el : TypeId} {by_ : Nat} (hby : bytesOf P el = some by_) (w : World) : ∃ i, P.info? el = some i ∧ i.bytes = by_ ∧ (typeInfo el).run P w = .ok i w := by
  unfold bytesOf at hby
  cases hi : P.info? el with
  | none => rw [hi] at hby; cases hby
  | some i => rw [hi] at hby; exact ⟨i, rfl, Option.some.inj hby, by simp [typeInfo, hi]⟩
theorem wrap_nat {m : Nat} (hm : m ≤ 70368744177664) : IntKind.i64.wrap (m : Int) = m := by
  rw [← wrapA_eq]
  show bc (Nat.blt m 9223372036854775808) (Int.ofNat m) _ = _
  rw [bc_blt, if_pos (by omega)]; rfl
theorem run_append_fits {st xt ret el : TypeId} {sz : Nat} {base : Option Addr} {sLen sCap m : Nat} {x : Value} {xs : List Value} (hsz : sz ≠ 0)
    (hu : P.underlying st = some (.slice el)) (hn : szOf P el = some sz) (ht : Takes P w el xt sz m x xs) (hfit : sLen + m ≤ sCap)
    (hst : match base with | some a => (storeCells (a.add (sLen * sz)) xs).run P w = .ok () w' | none => w' = w) :
    (Builtin.append_ #[st, xt] ret #[.slice base sLen sCap, x]).run P w = .ok (.slice base (sLen + m) sCap) w' := by
  cases ht with
  | cells d hx hd hlen hf =>
    have hdm : (d matches .int _) = false := by cases d <;> first | rfl | exact absurd rfl (hd _)
    simp only [Builtin.append_, Sem.run_bind, run_underlying hu, run_underlying hx, run_sizeOf hn, Result.andThen_ok, List.getElem?_toArray, List.getElem?_cons_zero, List.getElem?_cons_succ, Sem.run_pure, hdm, hlen,
      Bool.false_eq_true, if_false, Sem.run_ite, if_pos hfit, Bool.not_false, if_true, hf w rfl]
    cases base with
    | none => subst hst; simp
    | some a => simp only [Sem.run_bind, hst, Result.andThen_ok, Sem.run_pure]
  | zeros k k' by_ z hx hv hm hby hmb hz h0 hxs =>
    subst hv
    obtain ⟨i, hi, hbi, hti⟩ := bytesOf_info hby w
    have hneg : ¬ ((m : Int) < 0) := by omega
    have hbig : ¬ ((m : Int) * (i.bytes : Int) > 2 ^ 48) := by
      rw [hbi]
      have : ((m : Int) * (by_ : Int)) = ((m * by_ : Nat) : Int) := by simp
      rw [this]; omega
    have happ : (if m * sz = 0 then (Result.ok #[] w : Result (Array Value)) else ((zeroValue el).run P w).andThen fun a w' => .ok (Builtin.zeroCells a.cells m) w') = .ok xs.toArray w := by
      by_cases hm0 : m = 0
      · subst hm0; rw [if_pos (Nat.zero_mul sz), h0 rfl]
      · rw [if_neg (Nat.mul_ne_zero hm0 hsz), hz, Result.andThen_ok, hxs hm0]
    simp only [Builtin.append_, Sem.run_bind, run_underlying hu, run_underlying hx, run_sizeOf hn, Result.andThen_ok, List.getElem?_toArray, List.getElem?_cons_zero, List.getElem?_cons_succ, Sem.run_pure,
      if_true, Sem.run_ite, asInt, asIntOf, wrap_nat hm, if_neg hneg, hti, if_neg hbig, Int.toNat_natCast, if_pos hfit, Bool.not_true, Bool.false_eq_true, if_false, happ]
    cases base with
    | none => subst hst; simp
    | some a => simp only [Sem.run_bind, hst, Result.andThen_ok, Sem.run_pure]
theorem run_append_grows {st xt ret el : TypeId} {sz by_ : Nat} {base : Option Addr} {sLen sCap m : Nat} {x z : Value} {xs old : List Value} (hsz : sz ≠ 0)
    (hu : P.underlying st = some (.slice el)) (hn : szOf P el = some sz) (hby : bytesOf P el = some by_) (hz : ∀ w, (zeroValue el).run P w = .ok z w) (ht : Takes P w el xt sz m x xs) (hgrow : sCap < sLen + m)
    (hb1 : (sLen + m) * by_ ≤ 70368744177664) (hb2 : sLen + m ≤ 70368744177664)
    (hold : ∀ w1 : World, w1.heap = w.heap → (Builtin.firstCells sz sLen (.slice base sLen sCap)).run P w1 = .ok old.toArray w1) :
    ∃ cap, sLen + m ≤ cap ∧ (Builtin.append_ #[st, xt] ret #[.slice base sLen sCap, x]).run P w =
      .ok (.slice (some ⟨w.heap.size, 0, none⟩) (sLen + m) cap) { w with drawn := w.drawn + 1, heap := w.heap.push (.cells (old.toArray ++ xs.toArray ++ Builtin.zeroCells z.cells (cap - (sLen + m))) el) } := by
  obtain ⟨i, hi, hbi, _⟩ := bytesOf_info hby w
  have hti : ∀ w, (typeInfo el).run P w = .ok i w := fun w => by simp [typeInfo, hi]
  have hfit : ¬ (sLen + m ≤ sCap) := by omega
  have hmax : ¬ (((sLen + m : Nat) : Int) > IntKind.i64.max) := by
    have : IntKind.i64.max = 9223372036854775807 := rfl
    rw [this]; omega
  have hcap : ¬ (Builtin.nextslicecap (sLen + m) sCap * i.bytes > 2 ^ 48) := by
    have h1 := nextcap_le hgrow
    have h2 : Builtin.nextslicecap (sLen + m) sCap * i.bytes ≤ 3 * (sLen + m) * i.bytes := Nat.mul_le_mul_right _ h1
    rw [hbi] at *
    have h3 : 3 * (sLen + m) * by_ = 3 * ((sLen + m) * by_) := Nat.mul_assoc _ _ _
    omega
  obtain ⟨cap, hc1, hc2⟩ : ∃ cap, sLen + m ≤ cap ∧ (choose (.appendCap (sLen + m) sCap el)).run P w = .ok cap { w with drawn := w.drawn + 1 } :=
    ⟨_, Nat.le_add_right _ _, by simp only [run_choose]; rfl⟩
  refine ⟨cap, hc1, ?_⟩
  have hold' := hold { w with drawn := w.drawn + 1 } rfl
  cases ht with
  | cells d hx hd hlen hf =>
    have hdm : (d matches .int _) = false := by cases d <;> first | rfl | exact absurd rfl (hd _)
    have hf' := hf { w with drawn := w.drawn + 1 } rfl
    have hb : ¬ (((sLen + m : Nat) : Int) > IntKind.i64.max ∧ (False ∨ i.bytes = 0)) := fun h => hmax h.1
    simp only [Builtin.append_, Sem.run_bind, run_underlying hu, run_underlying hx, run_sizeOf hn, Result.andThen_ok, List.getElem?_toArray, List.getElem?_cons_zero, List.getElem?_cons_succ, Sem.run_pure, hdm, hlen,
      Bool.false_eq_true, if_false, Sem.run_ite, if_neg hfit, Bool.not_false, if_true, hti, if_neg hb, if_neg hcap, hc2, run_askRoom, hold', hf', hz, run_newRow]
  | zeros k k' by2 z2 hx hv hm hby2 hmb hz2 h0 hxs =>
    subst hv
    have hneg : ¬ ((m : Int) < 0) := by omega
    have hbig : ¬ ((m : Int) * (i.bytes : Int) > 2 ^ 48) := by
      rw [hby] at hby2; cases hby2
      rw [hbi]
      have : ((m : Int) * (by_ : Int)) = ((m * by_ : Nat) : Int) := by simp
      rw [this]; omega
    have hzz : z2 = z := by
      have h1 := hz2 w
      rw [hz w] at h1
      cases h1; rfl
    subst hzz
    have happ : (if m * sz = 0 then (Result.ok #[] { w with drawn := w.drawn + 1 } : Result (Array Value)) else .ok (Builtin.zeroCells z2.cells m) { w with drawn := w.drawn + 1 }) =
        .ok xs.toArray { w with drawn := w.drawn + 1 } := by
      by_cases hm0 : m = 0
      · subst hm0; rw [if_pos (Nat.zero_mul sz), h0 rfl]
      · rw [if_neg (Nat.mul_ne_zero hm0 hsz), hxs hm0]
    have hb : ¬ (((sLen + m : Nat) : Int) > IntKind.i64.max ∧ (True ∨ i.bytes = 0)) := fun h => hmax h.1
    simp only [Builtin.append_, Sem.run_bind, run_underlying hu, run_underlying hx, run_sizeOf hn, Result.andThen_ok, List.getElem?_toArray, List.getElem?_cons_zero, List.getElem?_cons_succ, Sem.run_pure,
      if_true, Sem.run_ite, asInt, asIntOf, wrap_nat hm, if_neg hneg, hti, if_neg hbig, Int.toNat_natCast, if_neg hfit, Bool.not_true, Bool.false_eq_true, if_false, if_neg hb, if_neg hcap, hc2, run_askRoom, hold', hz, happ, run_newRow]
theorem Sim.drawn (hs : Sim μ h w) {n : Nat} : Sim μ h { w with drawn := n } :=
  ⟨hs.lt, hs.fresh, hs.old, fun b c s x e g => (hs.blk b c s x e g).mono (Mp.Le.refl μ) rfl rfl rfl, hs.apart, hs.peer⟩
theorem Sim.kill (hs : Sim μ h w) {b : Nat} (hb : ∃ y, μ.at_ b = some y) : Sim μ (hset h b .dead) w := by
  have hget : ∀ b' x, hget (hset h b .dead) b' = some x → x ≠ .dead → hget h b' = some x := fun b' x hx hd => by
    rw [hget_if] at hx
    split at hx
    · cases hx; exact absurd rfl hd
    · exact hx
  refine ⟨hs.lt, fun b' hb' => ?_, hs.old, fun b' c s x e hx => ?_, fun b1 b2 c s1 s2 x1 x2 hne e1 e2 ho g1 g2 d1 d2 => hs.apart b1 b2 c s1 s2 x1 x2 hne e1 e2 ho (hget _ _ g1 d1) (hget _ _ g2 d2) d1 d2,
    fun b' c s cs n p e g => hs.peer b' c s cs n p e (hget _ _ g nofun)⟩
  · rw [hget_if, if_neg ?_]
    · exact hs.fresh b' hb'
    · intro e; subst e
      obtain ⟨y, hy⟩ := hb
      rw [hs.lt b' hb'] at hy; cases hy
  · by_cases hd : x = .dead
    · subst hd; trivial
    · exact hs.blk b' c s x e (hget _ _ hx hd)
theorem Goes.kill (hs : Sim μ h w) {b : Nat} (hb : ∃ y, μ.at_ b = some y) : Goes μ h w μ (hset h b .dead) w :=
  ⟨Nat.le_refl _, fun _ _ => rfl, fun _ _ => rfl, fun _ _ => rfl, Nat.le_refl _, fun _ _ _ => rfl, (fun b' _ hn => by
    refine .inl ?_
    rw [hget_if, if_neg]
    intro e; subst e
    obtain ⟨y, hy⟩ := hb
    rw [hn] at hy; cases hy), rfl, rfl, rfl⟩
theorem Sim.push (hs : Sim μ h w) {o : Obj} {x : Blk} {n : Nat} (p : Pushed w o w') (hsolo : ∀ cs n p, x ≠ .cells cs n (.pair p)) (hblk : BlkR (μ.ext h.next w.heap.size 0 n) w' w.heap.size 0 x) :
    Sim (μ.ext h.next w.heap.size 0 n) (hpush h x) w' ∧ Goes μ h w (μ.ext h.next w.heap.size 0 n) (hpush h x) w' := by
  have hnone : μ.at_ h.next = none := hs.lt _ (Nat.le_refl _)
  refine ⟨hs.mapNew hnone p (fun y hy => by rw [hget_hpush] at hy; exact (Option.some.inj hy).symm) (fun b' hb' => hget_hpush_ne _ _ hb') (Nat.lt_succ_self _) (Nat.le_succ _) hsolo hblk, ?_⟩
  refine ⟨Nat.le_succ _, fun b' hb' => ?_, fun c hc => ?_, fun c hc => ?_, by rw [p.size]; omega, fun c hc _ => p.old hc, fun b' hb' _ => .inl (hget_hpush_ne _ _ (by omega)), p.os, p.tape, p.output⟩
  · show (if b' = h.next then _ else _) = _; rw [if_neg (by omega)]
  · show (if c = w.heap.size then _ else _) = _; rw [if_neg (by omega)]
  · show (if c = w.heap.size then _ else _) = _; rw [if_neg (by omega)]
theorem grown_ok (hs : Sim μ h w) {el : TypeId} {need sz cap : Nat} {cs : List AV} {xs rest : List Value} {v : AV} (r : VRs μ cs xs) (hc : ∀ v ∈ cs, isCell v = true) (hl : cs.length = need * sz) (hcap : need ≤ cap)
    (hrest : rest.length = (cap - need) * sz) (e : grown h need sz cs = .ok v h') :
    ∃ μ', Goes μ h w μ' h' { w with drawn := w.drawn + 1, heap := w.heap.push (.cells (xs ++ rest).toArray el) } ∧ Sim μ' h' { w with drawn := w.drawn + 1, heap := w.heap.push (.cells (xs ++ rest).toArray el) } ∧
      VR μ' v (.slice (some ⟨w.heap.size, 0, none⟩) need cap) := by
  cases e
  have hp : Pushed w (.cells (xs ++ rest).toArray el) { w with drawn := w.drawn + 1, heap := w.heap.push (.cells (xs ++ rest).toArray el) } := ⟨rfl, rfl, rfl, rfl⟩
  have hlx := r.length
  have hsize : (xs ++ rest).toArray.size = cap * sz := by
    simp [hlx, hl, hrest, ← Nat.add_mul]; congr 1; omega
  have hle := ext_le (n := cap * sz) hs (hs.lt h.next (Nat.le_refl _))
  have hown : (μ.ext h.next w.heap.size 0 (cap * sz)).own w.heap.size = true := by show (if _ then _ else _) = _; rw [if_pos rfl]
  have hsz2 : (μ.ext h.next w.heap.size 0 (cap * sz)).size w.heap.size = cap * sz := by show (if _ then _ else _) = _; rw [if_pos rfl]
  have hat : (μ.ext h.next w.heap.size 0 (cap * sz)).at_ h.next = some (w.heap.size, 0) := by show (if _ then _ else _) = _; rw [if_pos rfl]
  obtain ⟨h1, h2⟩ := hs.push (x := mkCells cs (Nat.mul need sz)) (n := cap * sz) hp (fun _ _ _ e => by cases e) (cells_blk hl hc hp (unmarked_zero _) (fun i v hv => by
      obtain ⟨x, hx, rx⟩ := r.get i v hv
      refine ⟨x, ?_, rx⟩
      have : i < xs.length := (List.getElem?_eq_some_iff.1 hx).1
      simp [List.getElem?_append_left this, hx]) _ hle hown (by rw [hsz2, hsize]))
  exact ⟨_, h2, h1, sl_VR hat (Nat.le_refl _) hcap nofun hsz2 (Nat.le_refl _)⟩
theorem Sim.share (hs : Sim μ h w) {b c s k n : Nat} {old cs : List AV} {ow : Own} (hb : μ.at_ b = some (c, s)) (hg : hget h b = some (.cells old k ow)) (hro : ow ≠ .ro)
    (halone : ∀ b' s' x, b' ≠ b → μ.at_ b' = some (c, s') → hget h b' = some x → x = .dead)
    {c' s' : Nat} (hat : ∀ b', μ'.at_ b' = if b' = h.next then some (c', s') else μ.at_ b') (hle : μ.Le μ') (hc' : c' = c ∨ w.heap.size ≤ c')
    (hold : ∀ b0 c0 s0 x0, μ.at_ b0 = some (c0, s0) → hget h b0 = some x0 → BlkR μ' w' c0 s0 x0) (hnew : BlkR μ' w' c' s' (.cells cs n (.pair b))) (hsize : w.heap.size ≤ w'.heap.size) (hlt : c' < w'.heap.size) :
    Sim μ' (hset (hpush h (.cells cs n (.pair b))) b (.cells old k (.pair h.next))) w' := by
  have hbn : b ≠ h.next := fun e => by rw [e, hs.lt _ (Nat.le_refl _)] at hb; cases hb
  have hbl : b < h.next := by
    rcases Nat.lt_or_ge b h.next with hh | hh
    · exact hh
    · rw [hs.lt b hh] at hb; cases hb
  have g1 : hget (hset (hpush h (.cells cs n (.pair b))) b (.cells old k (.pair h.next))) b = some (.cells old k (.pair h.next)) := hget_hset _ _ _
  have g2 : hget (hset (hpush h (.cells cs n (.pair b))) b (.cells old k (.pair h.next))) h.next = some (.cells cs n (.pair b)) := by
    rw [hget_hset_ne _ _ hbn.symm, hget_hpush]
  have g3 : ∀ b', b' ≠ b → b' ≠ h.next → hget (hset (hpush h (.cells cs n (.pair b))) b (.cells old k (.pair h.next))) b' = hget h b' := fun b' h1 h2 => by
    rw [hget_hset_ne _ _ h1, hget_hpush_ne _ _ h2]
  have hatb : μ'.at_ b = some (c, s) := by rw [hat, if_neg hbn]; exact hb
  have hatn : μ'.at_ h.next = some (c', s') := by rw [hat, if_pos rfl]
  have hato : ∀ b' y, b' ≠ h.next → (μ'.at_ b' = some y ↔ μ.at_ b' = some y) := fun b' y hn => by rw [hat, if_neg hn]
  refine ⟨fun b' hb' => ?_, fun b' hb' => ?_, fun b' c0 s0 e => ?_, fun b' c0 s0 x e hx => ?_, fun B1 B2 C0 S1 S2 X1 X2 Hne E1 E2 Ho K1 K2 D1 D2 => ?_, fun b' c0 s0 cs0 n0 p e g => ?_⟩
  · have hb' : h.next + 1 ≤ b' := hb'
    rw [hat, if_neg (by omega)]; exact hs.lt b' (by omega)
  · have hb' : h.next + 1 ≤ b' := hb'
    rw [g3 b' (by omega) (by omega)]; exact hs.fresh b' (by omega)
  · by_cases hn : b' = h.next
    · subst hn; rw [hatn] at e; cases e; exact hlt
    · have := hs.old b' c0 s0 ((hato b' _ hn).1 e); omega
  · by_cases hn : b' = h.next
    · subst hn; rw [hatn] at e; cases e; rw [g2] at hx; cases hx; exact hnew
    · have e' := (hato b' _ hn).1 e
      by_cases hbb : b' = b
      · subst hbb
        rw [g1] at hx; cases hx
        rw [hb] at e'; cases e'
        obtain ⟨h1, h2, h3, h4⟩ := hold b' c s _ hb hg
        exact ⟨h1, h2, ⟨fun _ => nofun, fun _ => h3.2 hro⟩, h4⟩
      · rw [g3 b' hbb hn] at hx
        exact hold b' c0 s0 x e' hx
  · -- who shares memory
    have key : ∀ b1 b2 c0 s1 s2 x1 x2, b1 ≠ b2 → b1 ≠ h.next → b1 ≠ b → μ'.at_ b1 = some (c0, s1) → μ'.at_ b2 = some (c0, s2) → μ'.own c0 = true →
        hget (hset (hpush h (.cells cs n (.pair b))) b (.cells old k (.pair h.next))) b1 = some x1 → hget (hset (hpush h (.cells cs n (.pair b))) b (.cells old k (.pair h.next))) b2 = some x2 → x1 ≠ .dead → x2 ≠ .dead →
        ∃ cs n cs' n', x1 = .cells cs n (.pair b2) ∧ x2 = .cells cs' n' (.pair b1) := by
      intro b1 b2 c0 s1 s2 x1 x2 hne hn1 hb1 e1 e2 ho k1 k2 d1 d2
      have e1' := (hato b1 _ hn1).1 e1
      rw [g3 b1 hb1 hn1] at k1
      by_cases hn2 : b2 = h.next
      · subst hn2
        rw [hatn] at e2; cases e2
        rcases hc' with rfl | hc'
        · exact absurd (halone b1 s1 x1 hb1 e1' k1) d1
        · have := hs.old b1 _ _ e1'; omega
      · have e2' := (hato b2 _ hn2).1 e2
        by_cases hb2 : b2 = b
        · subst hb2
          rw [hb] at e2'; cases e2'
          exact absurd (halone b1 s1 x1 hb1 e1' k1) d1
        · rw [g3 b2 hb2 hn2] at k2
          have ho' : μ.own c0 = true := by rw [← (hle b1 c0 s1 e1').2.2]; exact ho
          exact hs.apart b1 b2 c0 s1 s2 x1 x2 hne e1' e2' ho' k1 k2 d1 d2
    by_cases hn1 : B1 = h.next
    · subst hn1
      by_cases hb2 : B2 = b
      · subst hb2
        rw [g2] at K1; rw [g1] at K2; cases K1; cases K2
        exact ⟨_, _, _, _, rfl, rfl⟩
      · obtain ⟨_, _, _, _, h1, h2⟩ := key B2 h.next C0 S2 S1 X2 X1 Hne.symm Hne.symm hb2 E2 E1 Ho K2 K1 D2 D1
        exact ⟨_, _, _, _, h2, h1⟩
    · by_cases hb1 : B1 = b
      · subst hb1
        by_cases hn2 : B2 = h.next
        · subst hn2
          rw [g1] at K1; rw [g2] at K2; cases K1; cases K2
          exact ⟨_, _, _, _, rfl, rfl⟩
        · obtain ⟨_, _, _, _, h1, h2⟩ := key B2 B1 C0 S2 S1 X2 X1 Hne.symm hn2 Hne.symm E2 E1 Ho K2 K1 D2 D1
          exact ⟨_, _, _, _, h2, h1⟩
      · exact key B1 B2 C0 S1 S2 X1 X2 Hne hn1 hb1 E1 E2 Ho K1 K2 D1 D2
  · by_cases hn : b' = h.next
    · subst hn; rw [g2] at g; cases g; exact ⟨_, hatb⟩
    · by_cases hbb : b' = b
      · subst hbb; rw [g1] at g; cases g; exact ⟨_, hatn⟩
      · rw [g3 b' hbb hn] at g
        obtain ⟨y, hy⟩ := hs.peer b' c0 s0 cs0 n0 p ((hato b' _ hn).1 e) g
        exact ⟨y, (hle p y.1 y.2 hy).1⟩
theorem Goes.share {b c s k n : Nat} {old cs : List AV} (hs : Sim μ h w) (hb : μ.at_ b = some (c, s)) {c' s' : Nat} (hat : ∀ b', μ'.at_ b' = if b' = h.next then some (c', s') else μ.at_ b')
    (hown : ∀ c, c < w.heap.size → μ'.own c = μ.own c) (hsz : ∀ c, c < w.heap.size → μ'.size c = μ.size c) (hsize : w.heap.size ≤ w'.heap.size)
    (hkept : ∀ c, c < w.heap.size → μ.own c = false → w'.heap[c]? = w.heap[c]?) (hos : w'.os = w.os) (ht : w'.tape = w.tape) (ho : w'.output = w.output) :
    Goes μ h w μ' (hset (hpush h (.cells cs n (.pair b))) b (.cells old k (.pair h.next))) w' := by
  refine ⟨Nat.le_succ _, fun b' hb' => by rw [hat, if_neg (by omega)], hown, hsz, hsize, hkept, fun b' hb' hn => .inl ?_, hos, ht, ho⟩
  rw [hget_hset_ne _ _ (fun e => by subst e; rw [hn] at hb; cases hb), hget_hpush_ne _ _ (by omega)]
end
end Eng
end
section
set_option linter.unusedVariables false
set_option linter.unusedSimpArgs false
namespace Eng
open Go Go.RowKit
section
variable {P : Program} {μ μ' : Mp} {h h' : Hp} {w w' : World} {t : T} {ρ : Operand → Value} {ty : TypeId}
theorem wrote {c o : Nat} {arr : Array Value} {el : TypeId} {fr : Nat × Nat} {xs : List Value} (hw : w.heap[c]? = some (.cells arr el fr)) (hun : Unmarked arr.size fr) (hroom : o + xs.length ≤ arr.size)
    (h1 : ∀ x ∈ xs, x.oneCell' = true) : ∃ w', (storeCells ⟨c, o, none⟩ xs).run P w = .ok () w' ∧ ∃ arr' : Array Value, w'.heap[c]? = some (.cells arr' el fr) ∧ arr'.size = arr.size ∧
      (∀ j x, xs[j]? = some x → arr'[o + j]? = some x) ∧ (∀ i, (i < o ∨ o + xs.length ≤ i) → arr'[i]? = arr[i]?) ∧
      (∀ c', c' ≠ c → w'.heap[c']? = w.heap[c']?) ∧ w'.heap.size = w.heap.size ∧ w'.os = w.os ∧ w'.tape = w.tape ∧ w'.output = w.output := by
  obtain ⟨⟨arr', h2, h3⟩, h4, h5, h6, h7, h8⟩ := setCells_heap (vs := xs) hw hroom
  have hsz2 : arr'.size = arr.size := by
    have := congrArg List.length h3
    simp at this; omega
  refine ⟨_, run_storeCells_own hw hun hroom h1, arr', h2, hsz2, fun j x hx => ?_, fun i hi => ?_, h4, h5, h6, h7, h8⟩
  · have hj := (List.getElem?_eq_some_iff.1 hx).1
    rw [← Array.getElem?_toList, h3, List.append_assoc, List.getElem?_append_right (by simp; omega)]
    rw [List.getElem?_append_left (by simp; omega), ← hx]
    congr 1; simp; omega
  · rw [← Array.getElem?_toList, h3, List.append_assoc]
    rcases hi with hi | hi
    · rw [List.getElem?_append_left (by simp; omega), List.getElem?_take, if_pos hi, Array.getElem?_toList]
    · rw [List.getElem?_append_right (by simp; omega), List.getElem?_append_right (by simp; omega), List.getElem?_drop, Array.getElem?_toList]
      congr 1; simp; omega
theorem VRs.oneCells {l : List AV} {xs : List Value} (r : VRs μ l xs) (hc : ∀ v ∈ l, isCell v = true) : ∀ x ∈ xs, x.oneCell' = true := fun x hx => by
  have hlen := r.length
  obtain ⟨j, hj, rfl⟩ := List.mem_iff_getElem.1 hx
  obtain ⟨v', hv'⟩ : ∃ v', l[j]? = some v' := ⟨_, List.getElem?_eq_getElem (by omega)⟩
  obtain ⟨y, hy, ry⟩ := r.get j v' hv'
  rw [List.getElem?_eq_getElem hj] at hy
  rw [Option.some.inj hy]
  exact ry.oneCell (hc v' (List.mem_of_getElem? hv'))
theorem Sim.alone (hs : Sim μ h w) {b c s k : Nat} {old : List AV} {ow : Own} (hb : μ.at_ b = some (c, s)) (hg : hget h b = some (.cells old k ow)) (hoc : μ.own c = true) :
    ∀ b' s' x, b' ≠ b → μ.at_ b' = some (c, s') → hget h b' = some x → ow ≠ .pair b' → x = .dead := fun b' s' x hne e g hp => by
  by_cases hd : x = .dead
  · exact hd
  · obtain ⟨_, _, _, _, h1, _⟩ := hs.apart b b' c s s' _ x hne.symm hb e hoc hg g nofun hd
    cases h1
    exact absurd rfl hp
def Mp.put (μ : Mp) (b c s : Nat) : Mp := { μ with at_ := fun b' => if b' = b then some (c, s) else μ.at_ b' }
theorem put_le {b c s : Nat} (hb : μ.at_ b = none) : μ.Le (μ.put b c s) := fun b' c' s' e => by
  refine ⟨?_, rfl, rfl⟩
  show (if b' = b then _ else _) = _
  rw [if_neg ?_]
  · exact e
  · intro hh; subst hh; rw [hb] at e; cases e
theorem Sim.alias (hs : Sim μ h w) {c s n : Nat} {cs : List AV} (hc : c < w.heap.size) (halone : ∀ b' s' x, μ.at_ b' = some (c, s') → hget h b' = some x → x = .dead)
    (hold : ∀ b0 c0 s0 x0, μ.at_ b0 = some (c0, s0) → hget h b0 = some x0 → BlkR (μ.put h.next c s) w' c0 s0 x0) (hnew : BlkR (μ.put h.next c s) w' c s (.cells cs n .solo)) (hsize : w'.heap.size = w.heap.size) :
    Sim (μ.put h.next c s) (hpush h (.cells cs n .solo)) w' := by
  have hnone : μ.at_ h.next = none := hs.lt _ (Nat.le_refl _)
  have hatn : (μ.put h.next c s).at_ h.next = some (c, s) := if_pos rfl
  have hato : ∀ b', b' ≠ h.next → (μ.put h.next c s).at_ b' = μ.at_ b' := fun b' hn => if_neg hn
  refine ⟨fun b' hb' => ?_, fun b' hb' => ?_, fun b' c0 s0 e => ?_, fun b' c0 s0 x e hx => ?_, fun b1 b2 c0 s1 s2 x1 x2 hne e1 e2 ho k1 k2 d1 d2 => ?_, fun b' c0 s0 cs0 n0 p e g => ?_⟩
  · have hb' : h.next + 1 ≤ b' := hb'
    rw [hato _ (by omega)]; exact hs.lt b' (by omega)
  · have hb' : h.next + 1 ≤ b' := hb'
    rw [hget_hpush_ne _ _ (by omega)]; exact hs.fresh b' (by omega)
  · by_cases hn : b' = h.next
    · subst hn; rw [hatn] at e; cases e; omega
    · rw [hato _ hn] at e; have := hs.old b' c0 s0 e; omega
  · by_cases hn : b' = h.next
    · subst hn; rw [hatn] at e; cases e; rw [hget_hpush] at hx; cases hx; exact hnew
    · rw [hato _ hn] at e; rw [hget_hpush_ne _ _ hn] at hx; exact hold b' c0 s0 x e hx
  · by_cases hn1 : b1 = h.next
    · subst hn1
      rw [hatn] at e1; cases e1
      rw [hato _ hne.symm] at e2; rw [hget_hpush_ne _ _ hne.symm] at k2
      exact absurd (halone b2 s2 x2 e2 k2) d2
    · rw [hato _ hn1] at e1; rw [hget_hpush_ne _ _ hn1] at k1
      by_cases hn2 : b2 = h.next
      · subst hn2
        rw [hatn] at e2; cases e2
        exact absurd (halone b1 s1 x1 e1 k1) d1
      · rw [hato _ hn2] at e2; rw [hget_hpush_ne _ _ hn2] at k2
        exact hs.apart b1 b2 c0 s1 s2 x1 x2 hne e1 e2 ho k1 k2 d1 d2
  · by_cases hn : b' = h.next
    · subst hn; rw [hget_hpush] at g; cases g
    · rw [hato _ hn] at e; rw [hget_hpush_ne _ _ hn] at g
      obtain ⟨y, hy⟩ := hs.peer b' c0 s0 cs0 n0 p e g
      exact ⟨y, (put_le hnone p y.1 y.2 hy).1⟩
theorem Goes.alias (hs : Sim μ h w) {c s : Nat} {x : Blk} (hsize : w'.heap.size = w.heap.size) (hkept : ∀ c', c' ≠ c → w'.heap[c']? = w.heap[c']?) (hoc : μ.own c = true) (hos : w'.os = w.os) (ht : w'.tape = w.tape) (ho : w'.output = w.output) :
    Goes μ h w (μ.put h.next c s) (hpush h x) w' :=
  ⟨Nat.le_succ _, fun b' hb' => if_neg (by omega), fun _ _ => rfl, fun _ _ => rfl, by omega, fun c' _ hf => hkept c' (fun e => by rw [e, hoc] at hf; cases hf),
    fun b' hb' _ => .inl (hget_hpush_ne _ _ (by omega)), hos, ht, ho⟩
structure SlR (μ : Mp) (w : World) (b o n cp sz : Nat) (ex : Bool) (c s : Nat) (s' : Addr) (cp' : Nat) : Prop where
  at_ : μ.at_ b = some (c, s)
  len : n ≤ cp
  cap : cp ≤ cp'
  exact_ : ex = true → cp' = cp
  place : cp' ≠ 0 → s' = ⟨c, s + o, none⟩ ∧ s + o + cp' * sz ≤ μ.size c
theorem old_ok (hs : Sim μ h w) {b o n cp sz c s cp' k : Nat} {s' : Addr} {ex : Bool} {cs : List AV} {ow : Own} (sl : SlR μ w b o n cp sz ex c s s' cp') (hg : hget h b = some (.cells cs k ow)) (hle : o + n * sz ≤ k) :
    ∃ X, VRs μ (part cs k o (n * sz)) X ∧ X.length = n * sz ∧ (∀ v ∈ part cs k o (n * sz), isCell v = true) ∧
      ∀ w1 : World, w1.heap = w.heap → (Builtin.firstCells sz n (.slice (some s') n cp')).run P w1 = .ok X.toArray w1 := by
  have e : rdN h b o (n * sz) none some = some (part cs k o (n * sz)) := by
    unfold rdN hcells
    rw [hg]
    show bc (Nat.ble (o + n * sz) k) _ _ = _
    rw [bc_ble, if_pos hle]
  obtain ⟨l, X, h1, h2, h3, h4, h5⟩ := rdN_ok hs sl.at_ e nofun
  cases h1
  refine ⟨X, h2, h3, h4, fun w1 hw1 => ?_⟩
  have hcell : ∀ a, w1.cell? a = w.cell? a := fun a => by unfold World.cell?; rw [hw1]
  by_cases h0 : cp' = 0
  · have := sl.len; have := sl.cap
    obtain rfl : n = 0 := by omega
    have : X = [] := List.eq_nil_of_length_eq_zero (by omega)
    subst this
    simp [Builtin.firstCells]; rfl
  · obtain ⟨rfl, _⟩ := sl.place h0
    simp only [Builtin.firstCells]
    exact run_loadCells_of h3 fun j x hj => by rw [hcell]; exact h5 j x hj
theorem zeroCells_size (z : Array Value) (n : Nat) : (Builtin.zeroCells z n).size = n * z.size := by simp [Builtin.zeroCells]
structure Elem (P : Program) (μ : Mp) (el : TypeId) (sz by_ : Nat) (z : Value) : Prop where
  pos : sz ≠ 0
  size : szOf P el = some sz
  bytes : bytesOf P el = some by_
  zero : ∀ w, (zeroValue el).run P w = .ok z w
  cells : z.cells.size = sz
theorem grow_ok (hs : Sim μ h w) {st xt ret el : TypeId} {base : Option Addr} {sz by_ n m cp' : Nat} {v : AV} {xz xv : Value} {A l : List AV} {X xs : List Value} (hu : P.underlying st = some (.slice el)) (hel : Elem P μ el sz by_ xz)
    (ht : Takes P w el xt sz m xv xs) (hgrow : cp' < n + m) (hb1 : (n + m) * by_ ≤ 70368744177664) (hb2 : n + m ≤ 70368744177664)
    (hold : ∀ w1 : World, w1.heap = w.heap → (Builtin.firstCells sz n (.slice base n cp')).run P w1 = .ok X.toArray w1)
    (rA : VRs μ A X) (cA : ∀ v ∈ A, isCell v = true) (lA : A.length = n * sz) (rl : VRs μ l xs) (cl : ∀ v ∈ l, isCell v = true) (ll : l.length = m * sz)
    (e : grown h (n + m) sz (app A l) = .ok v h') : EffV P μ h w (Builtin.append_ #[st, xt] ret #[.slice base n cp', xv]) v h' := by
  obtain ⟨cap, hcap, hrun⟩ := run_append_grows (ret := ret) hel.pos hu hel.size hel.bytes hel.zero ht hgrow hb1 hb2 hold
  rw [app_eq] at e
  obtain ⟨μ', h1, h2, h3⟩ := grown_ok (el := el) (cap := cap) (xs := X ++ xs) (rest := (Builtin.zeroCells xz.cells (cap - (n + m))).toList) hs (rA.append rl)
    (fun v hv => by rw [List.mem_append] at hv; exact hv.elim (cA v) (cl v)) (by rw [List.length_append, lA, ll, Nat.add_mul]) hcap
    (by rw [Array.length_toList, zeroCells_size, hel.cells]) e
  have harr : X.toArray ++ xs.toArray ++ Builtin.zeroCells xz.cells (cap - (n + m)) = (X ++ xs ++ (Builtin.zeroCells xz.cells (cap - (n + m))).toList).toArray := by
    apply Array.ext'; simp
  rw [harr] at hrun
  exact ⟨μ', _, _, hrun, h1, h2, h3⟩
theorem fits_ok (hs : Sim μ h w) {st xt ret el : TypeId} {sz by_ b o n cp m c s cp' k : Nat} {s' : Addr} {ex : Bool} {xz xv : Value} {cs l : List AV} {ow : Own} {xs : List Value} (hu : P.underlying st = some (.slice el)) (hel : Elem P μ el sz by_ xz)
    (ht : Takes P w el xt sz m xv xs) (sl : SlR μ w b o n cp sz ex c s s' cp') (hg : hget h b = some (.cells cs k ow)) (hro : ow ≠ .ro) (hle : o + n * sz ≤ k) (hmore : cp < n + m) (hfit : n + m ≤ cp')
    (rl : VRs μ l xs) (cl : ∀ v ∈ l, isCell v = true) (ll : l.length = m * sz) :
    ∃ w', (Builtin.append_ #[st, xt] ret #[.slice (some s') n cp', xv]).run P w = .ok (.slice (some ⟨c, s + o, none⟩) (n + m) cp') w' ∧
      μ.own c = true ∧ s' = ⟨c, s + o, none⟩ ∧ s + o + cp' * sz ≤ μ.size c ∧ (∀ c', c' ≠ c → w'.heap[c']? = w.heap[c']?) ∧ w'.heap.size = w.heap.size ∧ w'.os = w.os ∧ w'.tape = w.tape ∧ w'.output = w.output ∧
      BlkR μ w' c (s + o) (.cells (app (part cs k o (n * sz)) l) ((n + m) * sz) .solo) ∧ (k ≤ o + n * sz → BlkR μ w' c s (.cells cs k ow)) := by
  have hc0 : cp' ≠ 0 := by have := sl.len; omega
  obtain ⟨rfl, hroom⟩ := sl.place hc0
  obtain ⟨hl, hcell, hown, arr, ael, fr, hw, hsz, hun, hcells⟩ := hs.blk b c s _ sl.at_ hg
  have hoc : μ.own c = true := hown.2 hro
  have hlen := rl.length
  have hmul : (n + m) * sz ≤ cp' * sz := Nat.mul_le_mul_right _ hfit
  rw [Nat.add_mul] at hmul
  obtain ⟨w', hrun, arr', hw', hsz', hin, hout, hother, hsize, hos, htape, houtp⟩ := wrote (P := P) (o := s + o + n * sz) hw (hun hoc) (by omega) (rl.oneCells cl)
  have happ := run_append_fits (P := P) (ret := ret) (base := some ⟨c, s + o, none⟩) (w' := w') hel.pos hu hel.size ht hfit (by
    show (storeCells ((⟨c, s + o, none⟩ : Addr).add (n * sz)) xs).run P w = _
    rw [addr_add]; exact hrun)
  refine ⟨w', happ, hoc, rfl, hroom, hother, hsize, hos, htape, houtp, ⟨?_, fun v hv => ?_, ⟨fun _ => nofun, fun _ => hoc⟩, arr', ael, fr, hw', by rw [hsz']; exact hsz, fun _ => by rw [hsz']; exact hun hoc, fun i v hv => ?_⟩,
    fun hk => ⟨hl, hcell, hown, arr', ael, fr, hw', by rw [hsz']; exact hsz, fun _ => by rw [hsz']; exact hun hoc, fun i v hv => ?_⟩⟩
  · rw [app_eq, List.length_append, part_eq hl hle, ll, Nat.add_mul, List.length_take, List.length_drop]; omega
  · rw [app_eq, List.mem_append, part_eq hl hle] at hv
    rcases hv with hv | hv
    · exact hcell v (List.mem_of_mem_drop (List.mem_of_mem_take hv))
    · exact cl v hv
  · rw [app_eq, part_eq hl hle] at hv
    by_cases hi : i < n * sz
    · rw [List.getElem?_append_left (by rw [List.length_take, List.length_drop]; omega), List.getElem?_take, if_pos hi, List.getElem?_drop] at hv
      obtain ⟨y, hy, ry⟩ := hcells _ _ hv
      refine ⟨y, ?_, ry⟩
      rw [hout _ (.inl (by omega)), ← hy]; congr 1; omega
    · rw [List.getElem?_append_right (by rw [List.length_take, List.length_drop]; omega)] at hv
      obtain ⟨y, hy, ry⟩ := rl.get _ _ hv
      refine ⟨y, ?_, ry⟩
      rw [← hin _ _ hy]; congr 1
      rw [List.length_take, List.length_drop]; omega
  · have hi : i < k := by have := (List.getElem?_eq_some_iff.1 hv).1; omega
    obtain ⟨y, hy, ry⟩ := hcells _ _ hv
    exact ⟨y, by rw [hout _ (.inl (by omega))]; exact hy, ry⟩
theorem ext_at {b n : Nat} (k : Nat) : (μ.ext b k 0 n).at_ b = some (k, 0) := if_pos rfl
theorem more_ok (hs : Sim μ h w) {st xt ret el : TypeId} {sz by_ b o n cp m c s cp' : Nat} {s' : Addr} {ex : Bool} {v : AV} {xz xv : Value} {l : List AV} {xs : List Value} (hu : P.underlying st = some (.slice el)) (hel : Elem P μ el sz by_ xz)
    (ht : Takes P w el xt sz m xv xs) (sl : SlR μ w b o n cp sz ex c s s' cp') (hmore : cp < n + m) (hb1 : (n + m) * by_ ≤ 70368744177664) (hb2 : n + m ≤ 70368744177664)
    (rl : VRs μ l xs) (cl : ∀ v ∈ l, isCell v = true) (ll : l.length = m * sz) (e : more h b o n sz m ex l = .ok v h') :
    EffV P μ h w (Builtin.append_ #[st, xt] ret #[.slice (some s') n cp', xv]) v h' := by
  obtain ⟨cs, k, ow, hg, e1⟩ := hcells_inv e nofun
  obtain ⟨hle, e2⟩ := ble_inv e1 nofun
  have hle : o + n * sz ≤ k := hle
  obtain ⟨X, rA, lX, cA, hold⟩ := old_ok hs sl hg hle
  obtain ⟨hl, hcell, hown, arr, ael, fr, hw, hsz, hun, hcells⟩ := hs.blk b c s _ sl.at_ hg
  have lA : (part cs k o (n * sz)).length = n * sz := by rw [← rA.length, lX]
  have grows : ∀ (h0 : Hp), Sim μ h0 w → Goes μ h w μ h0 w → ¬ (n + m ≤ cp') → grown h0 (n + m) sz (app (part cs k o (n * sz)) l) = .ok v h' →
      EffV P μ h w (Builtin.append_ #[st, xt] ret #[.slice (some s') n cp', xv]) v h' := fun h0 hs0 g0 hgrow eg => by
    obtain ⟨μ', w', y, h1, h2, h3, h4⟩ := grow_ok hs0 hu hel ht (by omega) hb1 hb2 hold rA cA lA rl cl ll eg
    exact ⟨μ', w', y, h1, g0.trans h2, h3, h4⟩
  have hlt : c < w.heap.size := hs.old b c s sl.at_
  rw [bc_eq] at e2
  split at e2
  · rename_i hex
    have hcp := sl.exact_ hex
    exact grows h hs (.refl hs) (by omega) e2
  rw [bc_beq] at e2
  have heir : ∀ (h0 : Hp), Sim μ h0 w → Goes μ h w μ h0 w → hget h0 b = some (.cells cs k ow) → ow ≠ .ro → (∀ b' s' x, b' ≠ b → μ.at_ b' = some (c, s') → hget h0 b' = some x → x = .dead) →
      o + n * sz = k → shared h0 b (n + m) sz cs k (app (part cs k o (n * sz)) l) = .ok v h' →
      EffV P μ h w (Builtin.append_ #[st, xt] ret #[.slice (some s') n cp', xv]) v h' := fun h0 hs0 g0 hg0 hro halone hend es => by
    have hnone : μ.at_ h0.next = none := hs0.lt _ (Nat.le_refl _)
    cases es
    by_cases hfit : n + m ≤ cp'
    · obtain ⟨w', hrun, hoc, rfl, hroom, hother, hsize, hos, htape, houtp, hnew, hback⟩ := fits_ok (ret := ret) hs0 hu hel ht sl hg0 hro hle hmore hfit rl cl ll
      have hleμ := put_le (c := c) (s := s + o) hnone
      refine ⟨μ.put h0.next c (s + o), w', _, hrun, g0.trans (Goes.share hs0 sl.at_ (fun _ => rfl) (fun _ _ => rfl) (fun _ _ => rfl) (by omega) (fun c' _ hf => hother c' (fun e => by rw [e, hoc] at hf; cases hf)) hos htape houtp),
        Sim.share hs0 sl.at_ hg0 hro halone (fun _ => rfl) hleμ (.inl rfl) (fun b0 c0 s0 x0 e0 gx => ?_) ?_ (by omega) (by omega), ?_⟩
      · by_cases hcc : c0 = c
        · subst hcc
          by_cases hbb : b0 = b
          · subst hbb
            rw [hg0] at gx; cases gx
            rw [sl.at_] at e0; cases e0
            obtain ⟨q1, q2, q3, arr', q4, q5, q6, q7, q8, q9⟩ := hback (by omega)
            exact ⟨q1, q2, q3, arr', q4, q5, q6, q7, q8, fun i v hv => by obtain ⟨y, hy, ry⟩ := q9 i v hv; exact ⟨y, hy, ry.mono hleμ _ _⟩⟩
          · rw [halone b0 s0 x0 hbb e0 gx]; trivial
        · exact (hs0.blk b0 c0 s0 x0 e0 gx).mono hleμ (hother c0 hcc) rfl rfl
      · obtain ⟨q1, q2, q3, arr', q4, q5, q6, q7, q8, q9⟩ := hnew
        exact ⟨q1, q2, ⟨fun _ => nofun, fun _ => hoc⟩, arr', q4, q5, q6, q7, q8, fun i v hv => by obtain ⟨y, hy, ry⟩ := q9 i v hv; exact ⟨y, hy, ry.mono hleμ _ _⟩⟩
      · rw [VR_slice]
        exact ⟨c, s + o, ⟨c, s + o, none⟩, cp', if_pos rfl, rfl, Nat.le_refl _, hfit, nofun, fun _ => ⟨rfl, hroom⟩⟩
    · obtain ⟨cap, hcap, hrun⟩ := run_append_grows (ret := ret) hel.pos hu hel.size hel.bytes hel.zero ht (by omega) hb1 hb2 hold
      have harr : X.toArray ++ xs.toArray ++ Builtin.zeroCells xz.cells (cap - (n + m)) = (X ++ xs ++ (Builtin.zeroCells xz.cells (cap - (n + m))).toList).toArray := by
        apply Array.ext'; simp
      rw [harr] at hrun
      generalize hrest : (Builtin.zeroCells xz.cells (cap - (n + m))).toList = rest at hrun
      have lrest : rest.length = (cap - (n + m)) * sz := by rw [← hrest, Array.length_toList, zeroCells_size, hel.cells]
      have hlx := rl.length
      have hsize : (X ++ xs ++ rest).toArray.size = cap * sz := by
        rw [List.size_toArray, List.length_append, List.length_append, lX, hlx, ll, lrest, ← Nat.add_mul, ← Nat.add_mul]
        congr 1; omega
      have hleμ := ext_le (n := cap * sz) hs0 hnone
      have hp : Pushed w (.cells (X ++ xs ++ rest).toArray el) { w with drawn := w.drawn + 1, heap := w.heap.push (.cells (X ++ xs ++ rest).toArray el) } := ⟨rfl, rfl, rfl, rfl⟩
      have hown2 : (μ.ext h0.next w.heap.size 0 (cap * sz)).own w.heap.size = true := if_pos rfl
      have hsz2 : (μ.ext h0.next w.heap.size 0 (cap * sz)).size w.heap.size = cap * sz := if_pos rfl
      refine ⟨μ.ext h0.next w.heap.size 0 (cap * sz), _, _, hrun, g0.trans (Goes.share hs0 sl.at_ (fun _ => rfl) (fun c' hc' => if_neg (by omega)) (fun c' hc' => if_neg (by omega)) (by rw [hp.size]; omega) (fun c' hc' _ => hp.old hc') rfl rfl rfl),
        Sim.share hs0 sl.at_ hg0 hro halone (fun _ => rfl) hleμ (.inr (Nat.le_refl _)) (fun b0 c0 s0 x0 e0 gx => ?_) ?_ (by rw [hp.size]; omega) (by rw [hp.size]; omega), ?_⟩
      · have hc0 := hs0.old b0 c0 s0 e0
        exact (hs0.blk b0 c0 s0 x0 e0 gx).mono hleμ (hp.old hc0) (if_neg (by omega)) (if_neg (by omega))
      · refine ⟨?_, fun v hv => ?_, ⟨fun _ => nofun, fun _ => hown2⟩, _, _, _, hp.new, by rw [hsz2, hsize], fun _ => unmarked_zero _, fun i v hv => ?_⟩
        · rw [app_eq, List.length_append, lA, ll, ← Nat.add_mul]; rfl
        · rw [app_eq, List.mem_append] at hv
          exact hv.elim (cA v) (cl v)
        · rw [app_eq] at hv
          obtain ⟨y, hy, ry⟩ := (rA.append rl).get i v hv
          refine ⟨y, ?_, ry.mono hleμ _ _⟩
          have hi := (List.getElem?_eq_some_iff.1 hy).1
          rw [Nat.zero_add, List.getElem?_toArray, List.getElem?_append_left hi]; exact hy
      · exact sl_VR (ext_at _) (Nat.le_refl _) hcap nofun hsz2 (Nat.le_refl _)
  have takes : ∀ (h0 : Hp), Sim μ h0 w → Goes μ h w μ h0 w → ow ≠ .ro → (∀ b' s' x, μ.at_ b' = some (c, s') → hget h0 b' = some x → x = .dead) →
      grown h0 (n + m) sz (app (part cs k o (n * sz)) l) = .ok v h' → EffV P μ h w (Builtin.append_ #[st, xt] ret #[.slice (some s') n cp', xv]) v h' := fun h0 hs0 g0 hro halone es => by
    by_cases hfit : n + m ≤ cp'
    · have hnone : μ.at_ h0.next = none := hs0.lt _ (Nat.le_refl _)
      cases es
      obtain ⟨w', hrun, hoc, rfl, hroom, hother, hsize, hos, htape, houtp, hnew, hback⟩ := fits_ok (ret := ret) hs hu hel ht sl hg hro hle hmore hfit rl cl ll
      have hleμ := put_le (c := c) (s := s + o) hnone
      refine ⟨μ.put h0.next c (s + o), w', _, hrun, g0.trans (Goes.alias hs0 hsize hother hoc hos htape houtp), Sim.alias hs0 hlt halone (fun b0 c0 s0 x0 e0 gx => ?_) ?_ hsize, ?_⟩
      · by_cases hcc : c0 = c
        · subst hcc
          rw [halone b0 s0 x0 e0 gx]; trivial
        · exact (hs0.blk b0 c0 s0 x0 e0 gx).mono hleμ (hother c0 hcc) rfl rfl
      · obtain ⟨q1, q2, q3, arr', q4, q5, q6, q7, q8, q9⟩ := hnew
        exact ⟨q1, q2, ⟨fun _ => nofun, fun _ => hoc⟩, arr', q4, q5, q6, q7, q8, fun i v hv => by obtain ⟨y, hy, ry⟩ := q9 i v hv; exact ⟨y, hy, ry.mono hleμ _ _⟩⟩
      · rw [VR_slice]
        exact ⟨c, s + o, ⟨c, s + o, none⟩, cp', if_pos rfl, rfl, Nat.le_refl _, hfit, nofun, fun _ => ⟨rfl, hroom⟩⟩
    · exact grows h0 hs0 g0 hfit es
  have hbm : ∃ y, μ.at_ b = some y := ⟨_, sl.at_⟩
  split at e2
  · rename_i hend
    cases ow with
    | ro => cases e2
    | solo => exact heir h hs (.refl hs) hg nofun (fun b' s' x hne e g => hs.alone sl.at_ hg (hown.2 nofun) b' s' x hne e g nofun) hend e2
    | pair p =>
      have e2 : bc (Nat.beq p b) RV.no (shared (hset h p .dead) b (n + m) sz cs k (app (part cs k o (n * sz)) l)) = .ok v h' := e2
      rw [bc_beq] at e2
      split at e2
      · cases e2
      · rename_i hpb
        have hpm := hs.peer b c s cs k p sl.at_ hg
        refine heir _ (hs.kill hpm) (.kill hs hpm) (by rw [hget_hset_ne _ _ (fun e => hpb e.symm)]; exact hg) nofun (fun b' s' x hne e g => ?_) hend e2
        rw [hget_if] at g
        split at g
        · cases g; rfl
        · rename_i hbp
          exact hs.alone sl.at_ hg (hown.2 nofun) b' s' x hne e g (fun hh => hbp (Own.pair.inj hh).symm)
  · cases ow with
    | ro => cases e2
    | solo =>
      refine takes _ (hs.kill hbm) (.kill hs hbm) nofun (fun b' s' x e g => ?_) e2
      rw [hget_if] at g
      split at g
      · cases g; rfl
      · rename_i hbp
        exact hs.alone sl.at_ hg (hown.2 nofun) b' s' x hbp e g nofun
    | pair p =>
      have hpm := hs.peer b c s cs k p sl.at_ hg
      have hs1 := hs.kill hpm
      refine takes _ (hs1.kill hbm) ((Goes.kill hs hpm).trans (.kill hs1 hbm)) nofun (fun b' s' x e g => ?_) e2
      rw [hget_if] at g
      split at g
      · cases g; rfl
      · rename_i hbp
        rw [hget_if] at g
        split at g
        · cases g; rfl
        · rename_i hpp
          exact hs.alone sl.at_ hg (hown.2 nofun) b' s' x hbp e g (fun hh => hpp (Own.pair.inj hh).symm)
theorem empty_append {st xt ret el : TypeId} {sz by_ cp' : Nat} {xz xv : Value} {base : Option Addr} {n : Nat} {xs : List Value} (hu : P.underlying st = some (.slice el)) (hel : Elem P μ el sz by_ xz) (ht : Takes P w el xt sz 0 xv xs) (hxs : xs = []) (hn : n ≤ cp') :
    (Builtin.append_ #[st, xt] ret #[.slice base n cp', xv]).run P w = .ok (.slice base n cp') w := by
  subst hxs
  have := run_append_fits (P := P) (ret := ret) (w := w) (w' := w) (base := base) (sLen := n) (sCap := cp') hel.pos hu hel.size ht (by omega) (by cases base <;> rfl)
  simpa using this
theorem appendTo_ok (hs : Sim μ h w) {st xt ret el : TypeId} {sz by_ m : Nat} {a v : AV} {xz xv ya : Value} {l : List AV} {xs : List Value} (hu : P.underlying st = some (.slice el)) (hel : Elem P μ el sz by_ xz)
    (ht : Takes P w el xt sz m xv xs) (ra : VR μ a ya) (rl : VRs μ l xs) (cl : ∀ v ∈ l, isCell v = true) (ll : l.length = m * sz) (e : appendTo h sz by_ a m l = .ok v h') :
    EffV P μ h w (Builtin.append_ #[st, xt] ret #[ya, xv]) v h' := by
  have hlx := rl.length
  rcases asSlice_inv e nofun with ⟨rfl, e1⟩ | ⟨b, o, n, c, z, ex, rfl, e1⟩
  · rw [VR_nilSlice] at ra; subst ra
    rw [bc_beq] at e1
    split at e1
    · subst m
      cases e1
      exact ⟨μ, w, _, empty_append hu hel ht (List.eq_nil_of_length_eq_zero (by omega)) (Nat.le_refl _), .refl hs, hs, by rw [VR_nilSlice]⟩
    · rename_i hm
      obtain ⟨hb1, e2⟩ := ble_inv e1 nofun
      obtain ⟨hb2, e3⟩ := ble_inv e2 nofun
      have hb1 : m * by_ ≤ 70368744177664 := hb1
      refine grow_ok (n := 0) (A := []) (X := []) hs hu hel ht (by omega) (by rw [Nat.zero_add]; exact hb1) (by omega) (fun w1 _ => by simp [Builtin.firstCells]) (by rw [VRs_nil]) (fun v hv => by cases hv) (by simp) rl cl ll ?_
      rw [Nat.zero_add]; exact e3
  · obtain ⟨rfl, e2⟩ := beq_inv e1 nofun
    have ra0 := ra
    rw [VR_slice] at ra
    obtain ⟨c0, s, s', cp', hb, rfl, h1, h2, h3, h4⟩ := ra
    rw [bc_ble] at e2
    split at e2
    · rename_i hfit
      have hfit : n + m ≤ c := hfit
      rw [bc_beq] at e2
      split at e2
      · subst m
        cases e2
        exact ⟨μ, w, _, empty_append hu hel ht (List.eq_nil_of_length_eq_zero (by omega)) (by omega), .refl hs, hs, ra0⟩
      · rename_i hm0
        have hc0 : cp' ≠ 0 := by omega
        obtain ⟨rfl, hroom⟩ := h4 hc0
        obtain ⟨w', k1, k2, k3, k4⟩ := wrN_ok (P := P) hs hb rl cl ll e2
        subst k4
        have k1' : (storeCells ((⟨c0, s + o, none⟩ : Addr).add (n * z)) xs).run P w = .ok () w' := by
          rw [addr_add, Nat.add_assoc]; exact k1
        refine ⟨μ, w', _, run_append_fits (base := some ⟨c0, s + o, none⟩) hel.pos hu hel.size ht (by omega) k1', k2, k3, ?_⟩
        rw [VR_slice]
        exact ⟨c0, s, ⟨c0, s + o, none⟩, cp', hb, rfl, hfit, h2, h3, h4⟩
    · rename_i hfit
      have hfit : ¬ (n + m ≤ c) := hfit
      obtain ⟨hb1, e3⟩ := ble_inv e2 nofun
      obtain ⟨hb2, e4⟩ := ble_inv e3 nofun
      exact more_ok hs hu hel ht ⟨hb, h1, h2, h3, h4⟩ (by omega) hb1 hb2 rl cl ll e4
theorem append_ok (hs : Sim μ h w) {st xt ret : TypeId} {a x : AX} {ya xv : Value} {op : EOp} {v : AV} {call : CallT} (hc : compAppend P st xt a x = .e op) (ra : VR μ (evX a t) ya) (rx : VR μ (evX x t) xv)
    (e : evE op call t h = .ok v h') : EffV P μ h w (Builtin.append_ #[st, xt] ret #[ya, xv]) v h' := by
  have plain : ∀ {el : TypeId} {d : TypeDesc}, P.underlying st = some (.slice el) → P.underlying xt = some d → (∀ k, d ≠ .int k) →
      (match szOf P el, bytesOf P el, zeroOf P el with
        | some n, some m, some z => if n = 0 then no else if n = (cellsC z).length then AOp.e (.append n m a x) else no
        | _, _, _ => no) = .e op → EffV P μ h w (Builtin.append_ #[st, xt] ret #[ya, xv]) v h' := fun {el d} hu hx hd hc => by
    split at hc
    · rename_i sz by_ z h1 h2 h3
      split at hc
      · cases hc
      split at hc
      · rename_i hpos hz
        cases hc
        obtain ⟨xz, rz, hzr⟩ := zeroOf_ok (μ := μ) h3
        rw [cellsC_eq] at hz
        have hcs : xz.cells.size = sz := by have := rz.cells.length; simp at this; omega
        obtain ⟨m, l, xs, e1, r1, hl, hcell, hlen, hf⟩ := src_ok (P := P) hs hpos rx (show src h sz (evX x t) .no (fun m xs => appendTo h sz by_ (evX a t) m xs) = .ok v h' from e) nofun
        have hlx := r1.length
        refine appendTo_ok hs hu ⟨hpos, h1, h2, hzr, hcs⟩ (.cells d hx hd hlen fun w1 hw1 => ?_) ra r1 hcell hl e1
        rw [hf m (Nat.le_refl _) w1 hw1, List.take_of_length_le (by omega)]
      · cases hc
    · cases hc
  unfold compAppend at hc
  split at hc
  · rename_i hu hx; exact plain hu hx nofun hc
  · rename_i hu hx; exact plain hu hx nofun hc
  · rename_i el k hu hx
    split at hc
    · rename_i sz by_ z h1 h2 h3
      split at hc
      · cases hc
      split at hc
      · rename_i hpos hz
        cases hc
        obtain ⟨xz, rz, hzr⟩ := zeroOf_ok (μ := μ) h3
        rw [cellsC_eq] at hz
        have rzc := rz.cells
        have hcs : xz.cells.size = sz := by have := rzc.length; simp at this; omega
        rw [cellsC_eq] at e
        have e : ((evX x t).asInt RV.no fun _ n => natOf n .no fun n => bc (Nat.ble (Nat.mul n by_) 70368744177664) (bc (Nat.ble n 70368744177664) (bc (lall isCell (cellsOf z)) (appendTo h sz by_ (evX a t) n (lrep (cellsOf z) n)) .no) .no) .no) = .ok v h' := e
        obtain ⟨k', i, hxi, e1⟩ := asInt_inv e nofun
        obtain ⟨m, rfl, e2⟩ := natOf_inv e1 nofun
        obtain ⟨hb1, e3⟩ := ble_inv e2 nofun
        obtain ⟨hb2, e4⟩ := ble_inv e3 nofun
        obtain ⟨hcell, e5⟩ := bc_inv e4 nofun
        rw [lall_iff] at hcell
        rw [hxi, VR_int] at rx
        have hz0 : cellsOf z ≠ [] := fun hh => by rw [hh] at hz; exact hpos hz
        have hrep := rep_get rzc m hz0
        rw [← hz] at hrep
        have heq : Builtin.zeroCells xz.cells m = (Array.range (m * sz)).map (xz.cells[· % xz.cells.size]!) := by unfold Builtin.zeroCells; rw [hcs]
        rw [← heq] at hrep
        exact appendTo_ok hs hu ⟨hpos, h1, h2, hzr, hcs⟩ (.zeros k k' by_ xz hx rx hb2 h2 hb1 hzr (fun h0 => by subst h0; apply List.eq_nil_of_length_eq_zero; rw [Array.length_toList, zeroCells_size, Nat.zero_mul]) (fun _ => by simp)) ra hrep
          (fun v hv => hcell v (lrep_mem hv)) (by rw [lrep_length, ← hz]) e5
      · cases hc
    · cases hc
  · cases hc
end
end Eng
end
section
set_option linter.unusedVariables false
set_option linter.unusedSimpArgs false
namespace Eng
open Go Go.RowKit
section
variable {P : Program} {μ μ' : Mp} {h h' : Hp} {w w' : World} {t : T} {ρ : Operand → Value} {ty : TypeId}
theorem copy_ok (hs : Sim μ h w) {ret el : TypeId} {ts : List TypeId} {sz : Nat} {d x : AX} {yd xv : Value} {v : AV} (hu : P.underlying ty = some (.slice el)) (hsz : szOf P el = some sz) (hpos : sz ≠ 0)
    (rd : VR μ (evX d t) yd) (rx : VR μ (evX x t) xv) (e : oCopy sz d x t h = .ok v h') : EffV P μ h w (Builtin.copy_ (ty :: ts).toArray ret #[yd, xv]) v h' := by
  have e : src h sz (evX x t) RV.no (fun m xs => (evX d t).asSlice .no (rvN 0 h) fun b o n _ z _ => bc (Nat.beq z sz) (bc (Nat.beq (cut m n) 0) (rvN 0 h)
    (wrN h b o (bc (Nat.ble m n) xs (take xs (Nat.mul n sz))) (Nat.mul (cut m n) sz) (.int .i64 (.ofNat (cut m n))))) .no) = .ok v h' := e
  obtain ⟨m, l, xs, e1, rl, hl, hcell, hlen, hf⟩ := src_ok (P := P) hs hpos rx e nofun
  rcases asSlice_inv e1 nofun with ⟨hd, e2⟩ | ⟨b, o, n, c, z, ex, hd, e2⟩
  · rw [hd, VR_nilSlice] at rd; subst rd
    cases e2
    refine ⟨μ, w, goInt 0, ?_, .refl hs, hs, by simp [goInt]⟩
    simp [Builtin.copy_, run_underlying hu, hlen, run_sizeOf hsz, hf 0 (Nat.zero_le _) w rfl]
  · obtain ⟨rfl, e3⟩ := beq_inv e2 nofun
    rw [hd, VR_slice] at rd
    obtain ⟨c0, s, s', cp', hb, rfl, h1, h2, h3, h4⟩ := rd
    rw [cut_eq, bc_beq] at e3
    have hmin : Nat.min m n = min m n := rfl
    split at e3
    · rename_i h0
      cases e3
      refine ⟨μ, w, goInt 0, ?_, .refl hs, hs, by simp [goInt]⟩
      simp only [Builtin.copy_, Sem.run_bind, run_underlying hu, hlen, run_sizeOf hsz, Result.andThen_ok, Sem.run_pure, hmin, h0, hf 0 (Nat.zero_le _) w rfl, List.getElem?_toArray, List.getElem?_cons_zero, List.getElem?_cons_succ, Nat.zero_mul, List.take_zero]
      rfl
    · rename_i h0
      have hc0 : cp' ≠ 0 := by omega
      obtain ⟨rfl, _⟩ := h4 hc0
      have hsel : bc (Nat.ble m n) l (take l (Nat.mul n z)) = l.take (min m n * z) := by
        rw [bc_ble, take_eq]
        split
        · rename_i hmn; rw [Nat.min_eq_left hmn, List.take_of_length_le (by omega)]
        · rename_i hmn; rw [Nat.min_eq_right (by omega)]; rfl
      rw [hsel] at e3
      have hmz : min m n * z ≤ m * z := Nat.mul_le_mul_right _ (Nat.min_le_left _ _)
      obtain ⟨w', k1, k2, k3, k4⟩ := wrN_ok (P := P) (vs := l.take (min m n * z)) (xs := xs.take (min m n * z)) (m := min m n * z) hs hb (rl.take _) (fun v hv => hcell v (List.mem_of_mem_take hv)) (by rw [List.length_take]; omega) e3
      subst k4
      refine ⟨μ, w', goInt ((min m n : Nat) : Int), ?_, k2, k3, by simp [goInt]⟩
      simp only [Builtin.copy_, Sem.run_bind, run_underlying hu, hlen, run_sizeOf hsz, Result.andThen_ok, Sem.run_pure, hmin, hf (min m n) (Nat.min_le_left _ _) w rfl, k1, List.getElem?_toArray, List.getElem?_cons_zero, List.getElem?_cons_succ]
theorem clear_ok (hs : Sim μ h w) {ret el : TypeId} {z : AV} {x : AX} {xv : Value} {v : AV} (hu : P.underlying ty = some (.slice el)) (hz : zeroOf P el = some z)
    (rx : VR μ (evX x t) xv) (e : oClear (cellsC z) x t h = .ok v h') : EffV P μ h w (Builtin.clear_ #[ty] ret #[xv]) v h' := by
  have hun : VR μ undef (.tuple #[]) := by show VR μ (.tuple []) _; rw [VR_tuple]; exact ⟨#[], rfl, by rw [VRs_nil]⟩
  rcases asSlice_inv e nofun with ⟨hx, e2⟩ | ⟨b, o, n, c, s, ex, hx, e2⟩
  · rw [hx, VR_nilSlice] at rx; subst rx
    cases e2
    exact ⟨μ, w, _, by simp [Builtin.clear_, run_underlying hu], .refl hs, hs, hun⟩
  · rw [hx, VR_slice] at rx
    obtain ⟨c0, s0, s', cp', hb, rfl, h1, h2, h3, h4⟩ := rx
    rw [bc_beq] at e2
    split at e2
    · subst n
      cases e2
      exact ⟨μ, w, _, by simp [Builtin.clear_, run_underlying hu], .refl hs, hs, hun⟩
    · rename_i h0
      obtain ⟨hls, e3⟩ := beq_inv e2 nofun
      obtain ⟨hcell, e4⟩ := bc_inv e3 nofun
      rw [lall_iff] at hcell
      rw [len_eq] at hls
      have hc0 : cp' ≠ 0 := by omega
      obtain ⟨rfl, _⟩ := h4 hc0
      obtain ⟨xz, rz, hzr⟩ := zeroOf_ok (μ := μ) hz
      have rzc := rz.cells
      rw [cellsC_eq] at hls hcell e4
      have hzs : xz.cells.size = s := by have := rzc.length; simp at this; omega
      have rr : VRs μ (lrep (cellsOf z) n) (Builtin.zeroCells xz.cells n).toList := by
        by_cases hz0 : cellsOf z = []
        · have h1 : lrep (cellsOf z) n = [] := List.eq_nil_of_length_eq_zero (by rw [lrep_length, hz0]; simp)
          have h2 : (Builtin.zeroCells xz.cells n).toList = [] := List.eq_nil_of_length_eq_zero (by rw [Array.length_toList, zeroCells_size, hzs, ← hls, hz0]; simp)
          rw [h1, h2, VRs_nil]
        · have := rep_get rzc n hz0
          unfold Builtin.zeroCells
          rw [hzs, ← hls]; rw [hzs, ← hls] at this; exact this
      obtain ⟨w', k1, k2, k3, k4⟩ := wrN_ok (P := P) hs hb rr (fun v hv => hcell v (lrep_mem hv)) (by rw [lrep_length, hls]; rfl) e4
      subst k4
      refine ⟨μ, w', _, ?_, k2, k3, hun⟩
      obtain ⟨n', rfl⟩ : ∃ n', n = n' + 1 := ⟨n - 1, by omega⟩
      simp [Builtin.clear_, run_underlying hu, hzr, k1]
theorem mark_ok (hs : Sim μ h w) {src dst el : TypeId} {x : AX} {xv : Value} {v : AV} (hsd : src = dst) (hu : P.underlying dst = some (.slice el)) (he : P.underlying el = some (.int .u8)) (rx : VR μ (evX x t) xv)
    (e : oMark x t h = .ok v h') : EffV P μ h w (convert src dst xv) v h' := by
  subst hsd
  rcases asSlice_inv e nofun with ⟨hx, e2⟩ | ⟨b, o, n, c, s, ex, hx, e2⟩
  · cases e2
  · obtain ⟨hc0, e2⟩ := blt_inv e2 nofun
    obtain ⟨cs, k, ow, hg, e3⟩ := hcells_inv e2 nofun
    have hres : ow ≠ .ro ∧ v = evX x t ∧ h' = h := by
      cases ow with
      | ro => cases e3
      | solo => cases e3; exact ⟨nofun, rfl, rfl⟩
      | pair p => cases e3; exact ⟨nofun, rfl, rfl⟩
    obtain ⟨hro, rfl, rfl⟩ := hres
    have rx0 := rx
    rw [hx, VR_slice] at rx
    obtain ⟨c0, s0, s', cp', hb, rfl, h1, h2, h3, h4⟩ := rx
    obtain ⟨rfl, _⟩ := h4 (by omega)
    obtain ⟨hl, hcell, hown, arr, ael, fr, hw, hsz, hun, hcells⟩ := hs.blk b c0 s0 _ hb hg
    have hoc : μ.own c0 = true := hown.2 hro
    obtain ⟨fr', hfr', w', hw', hother, hsize, hrun, hos, ht, ho⟩ : ∃ fr', Unmarked arr.size fr' ∧ ∃ w' : World, w'.heap[c0]? = some (.cells arr ael fr') ∧ (∀ c', c' ≠ c0 → w'.heap[c']? = w.heap[c']?) ∧ w'.heap.size = w.heap.size ∧
        (convert src src (.slice (some ⟨c0, s0 + o, none⟩) n cp')).run P w = .ok (.slice (some ⟨c0, s0 + o, none⟩) n cp') w' ∧ w'.os = w.os ∧ w'.tape = w.tape ∧ w'.output = w.output := by
      obtain ⟨lo, hi⟩ := fr
      refine ⟨if lo == hi then (arr.size, arr.size + 1) else (min lo arr.size, max hi (arr.size + 1)), ?_, w.freeze ⟨c0, arr.size, none⟩ 1, ?_, fun c' hc' => ?_, ?_, ?_, ?_⟩
      · split
        · exact .inr (Nat.le_refl _)
        · rename_i hne
          rcases hun hoc with hh | hh
          · exact absurd (beq_iff_eq.2 hh) hne
          · exact .inr (by have hh : arr.size ≤ lo := hh; show arr.size ≤ min lo arr.size; omega)
      · unfold World.freeze
        rw [if_neg (by decide)]
        simp [Array.getElem?_modify, hw]
      · unfold World.freeze
        rw [if_neg (by decide)]
        simp only [Array.getElem?_modify]
        rw [if_neg (fun e => hc' e.symm)]
      · unfold World.freeze
        rw [if_neg (by decide)]
        simp
      · have hsh : w.shape? c0 = some (ael, arr.size) := by unfold World.shape?; rw [hw]
        have hmk : (markStringish ⟨c0, s0 + o, none⟩).run P w = .ok () (w.freeze ⟨c0, arr.size, none⟩ 1) := by
          simp only [markStringish, Sem.run_bind, run_shape, Result.andThen_ok, hsh, run_freeze]
        simp only [convert, Sem.run_bind, run_underlying hu, Result.andThen_ok, beq_self_eq_true, run_underlying he, hmk, Sem.run_pure]
      · unfold World.freeze
        rw [if_neg (by decide)]
        exact ⟨rfl, rfl, rfl⟩
    refine ⟨μ, w', _, hrun, ⟨Nat.le_refl _, fun _ _ => rfl, fun _ _ => rfl, fun _ _ => rfl, by omega, fun c' _ hf => hother c' (fun e => by rw [e, hoc] at hf; cases hf), fun _ _ _ => .inl rfl, hos, ht, ho⟩, ?_, rx0⟩
    refine ⟨hs.lt, hs.fresh, fun b' c' s' e => by rw [hsize]; exact hs.old b' c' s' e, fun b' c' s' y e g => ?_, hs.apart, hs.peer⟩
    have hr := hs.blk b' c' s' y e g
    by_cases hcc : c' = c0
    · subst hcc
      cases y with
      | dead => trivial
      | mp es n2 ck =>
        obtain ⟨_, _, _, es', hm, _⟩ := hr
        rw [hw] at hm; cases hm
      | cells cs2 n2 ow2 =>
        obtain ⟨q1, q2, q3, arr2, q4, q5, q6, q7, q8, q9⟩ := hr
        rw [hw] at q6; cases q6
        exact ⟨q1, q2, q3, _, _, fr', hw', q7, fun _ => hfr', q9⟩
    · exact hr.mono (Mp.Le.refl μ) (hother c' hcc) rfl rfl
theorem run_setObj_map {c ck : Nat} {es : Array MapEntry} (hw : w.heap[c]? = some (.map es ck)) (o : Obj) : (setObj c o).run P w = .ok () { w with heap := w.heap.setIfInBounds c o } := by
  simp [setObj, Sem.run, hw]
theorem set_self {c : Nat} {o : Obj} (hw : w.heap[c]? = some o) : ({ w with heap := w.heap.setIfInBounds c o } : World) = w := by
  have : w.heap.setIfInBounds c o = w.heap := by
    apply Array.ext
    · simp
    · intro i h1 h2
      rw [Array.getElem_setIfInBounds]
      split
      · rename_i hci; subst hci
        have := Array.getElem?_eq_getElem h2
        rw [hw] at this; exact Option.some.inj this
      · rfl
  rw [this]
theorem Sim.mapSet (hs : Sim μ h w) {b c s n ck n2 ck2 : Nat} {es es2 : List (AV × AV × Nat)} {es2' : Array MapEntry} (hb : μ.at_ b = some (c, s)) (hg : hget h b = some (.mp es n ck)) (hn : es2.length = n2) (r : EntriesR μ es2 es2'.toList) :
    Sim μ (hset h b (.mp es2 n2 ck2)) { w with heap := w.heap.setIfInBounds c (.map es2' ck2) } ∧ Goes μ h w μ (hset h b (.mp es2 n2 ck2)) { w with heap := w.heap.setIfInBounds c (.map es2' ck2) } := by
  obtain ⟨h1, rfl, hoc, es', hw, hes⟩ := hs.blk b c s _ hb hg
  have hother : ∀ c', c' ≠ c → (w.heap.setIfInBounds c (.map es2' ck2))[c']? = w.heap[c']? := fun c' hc' => by
    rw [Array.getElem?_setIfInBounds_ne (fun e => hc' e.symm)]
  have hlt := hs.old b c 0 hb
  have hself : (w.heap.setIfInBounds c (.map es2' ck2))[c]? = some (.map es2' ck2) := by
    rw [Array.getElem?_setIfInBounds_self_of_lt hlt]
  have hbl : b < h.next := by
    rcases Nat.lt_or_ge b h.next with hh | hh
    · exact hh
    · rw [hs.lt b hh] at hb; cases hb
  have halone : ∀ b' s' x, b' ≠ b → μ.at_ b' = some (c, s') → hget h b' = some x → x = .dead := fun b' s' x hne e g => by
    by_cases hd : x = .dead
    · exact hd
    · obtain ⟨_, _, _, _, hh, _⟩ := hs.apart b b' c 0 s' _ x hne.symm hb e hoc hg g nofun hd
      cases hh
  refine ⟨⟨hs.lt, fun b' hb' => ?_, fun b' c' s' e => ?_, fun b' c' s' x e g => ?_, fun b1 b2 c' s1 s2 x1 x2 hne e1 e2 ho g1 g2 d1 d2 => ?_, fun b' c' s' cs2 n2 p e g => ?_⟩,
    ⟨Nat.le_refl _, fun _ _ => rfl, fun _ _ => rfl, fun _ _ => rfl, by show _ ≤ (w.heap.setIfInBounds c _).size; simp, fun c' _ hf => hother c' (fun e => by rw [e, hoc] at hf; cases hf), fun b' _ hn => .inl ?_, rfl, rfl, rfl⟩⟩
  · rw [hget_hset_ne _ _ (by have : h.next ≤ b' := hb'; omega)]; exact hs.fresh b' hb'
  · show c' < (w.heap.setIfInBounds c _).size
    simp; exact hs.old b' c' s' e
  · by_cases hbb : b' = b
    · subst hbb
      rw [hget_hset] at g; cases g
      rw [hb] at e; cases e
      exact ⟨hn, rfl, hoc, es2', hself, r⟩
    · rw [hget_hset_ne _ _ hbb] at g
      by_cases hcc : c' = c
      · subst hcc; rw [halone b' s' x hbb e g]; trivial
      · exact (hs.blk b' c' s' x e g).mono (Mp.Le.refl μ) (hother c' hcc) rfl rfl
  · by_cases hb1 : b1 = b
    · subst hb1
      rw [hget_hset_ne _ _ hne.symm] at g2
      rw [hb] at e1; cases e1
      exact absurd (halone b2 s2 x2 hne.symm e2 g2) d2
    · rw [hget_hset_ne _ _ hb1] at g1
      by_cases hb2 : b2 = b
      · subst hb2
        rw [hb] at e2; cases e2
        exact absurd (halone b1 s1 x1 hb1 e1 g1) d1
      · rw [hget_hset_ne _ _ hb2] at g2
        exact hs.apart b1 b2 c' s1 s2 x1 x2 hne e1 e2 ho g1 g2 d1 d2
  · by_cases hbb : b' = b
    · subst hbb; rw [hget_hset] at g; cases g
    · rw [hget_hset_ne _ _ hbb] at g; exact hs.peer b' c' s' cs2 n2 p e g
  · exact hget_hset_ne _ _ (fun e => by subst e; rw [hb] at hn; cases hn)
theorem keyEq_false {x y : AV} {β : Type} {z : β} {k : Bool → β} (e : keyEq x y true (fun b => b) = false) : keyEq x y z k = k false := by
  unfold keyEq at *
  cases x
  case int i a =>
    cases y
    case int j b =>
      have e : bc (ikEq i j) (eqI a b) true = false := e
      show bc (ikEq i j) (k (eqI a b)) z = k false
      cases hij : ikEq i j
      · rw [hij] at e; cases e
      · rw [hij] at e
        have e : eqI a b = false := e
        rw [e]; rfl
    all_goals cases e
  case str a =>
    cases y
    case str b =>
      have e : strEq a b = false := e
      show k (strEq a b) = _
      rw [e]
    all_goals cases e
  all_goals cases e
theorem keyEq_self {x : AV} {β : Type} {z : β} {k : Bool → β} (hk : isKey x = true) : keyEq x x z k = k true := by
  rcases isKey_inv hk with ⟨i, n, rfl⟩ | ⟨s, rfl⟩
  · show bc (ikEq i i) (k (eqI n n)) z = _
    have : ikEq i i = true := by cases i <;> rfl
    rw [this, eqI_eq]; simp [bc]
  · show k (strEq s s) = _
    rw [strEq_iff]; simp
theorem ins_eq {x v : AV} (hx : isKey x = true) : ∀ {es : List (AV × AV × Nat)} {j : Nat} {u : AV} {n : Nat}, es[j]? = some (x, u, n) → (∀ j', j' < j → ∀ (k' v : AV) (n : Nat), es[j']? = some (k', v, n) → keyEq x k' true (fun b => b) = false) →
    ins x v es = es.set j (x, v, n)
  | [], j, u, n, e, _ => by simp at e
  | (k1, v1, n1) :: es, 0, u, n, e, _ => by
    simp at e
    obtain ⟨rfl, rfl, rfl⟩ := e
    show keyEq k1 k1 _ (fun b => bc b ((k1, v, n1) :: es) ((k1, v1, n1) :: ins k1 v es)) = _
    rw [keyEq_self hx]; rfl
  | (k1, v1, n1) :: es, j + 1, u, n, e, hlt => by
    show keyEq x k1 _ (fun b => bc b ((x, v, n1) :: es) ((k1, v1, n1) :: ins x v es)) = _
    rw [keyEq_false (hlt 0 (by omega) k1 v1 n1 rfl), ins_eq hx (by simpa using e) (fun j' hj' k' v n hh => hlt (j' + 1) (by omega) k' v n (by simpa using hh))]
    rfl
theorem del_eq {x : AV} (hx : isKey x = true) : ∀ {es : List (AV × AV × Nat)} {j : Nat} {u : AV} {n : Nat}, es[j]? = some (x, u, n) → (∀ j', j' < j → ∀ (k' v : AV) (n : Nat), es[j']? = some (k', v, n) → keyEq x k' true (fun b => b) = false) →
    del x es = es.eraseIdx j
  | [], j, u, n, e, _ => by simp at e
  | (k1, v1, n1) :: es, 0, u, n, e, _ => by
    simp at e
    obtain ⟨rfl, rfl, rfl⟩ := e
    show keyEq k1 k1 _ (fun b => bc b es ((k1, v1, n1) :: del k1 es)) = _
    rw [keyEq_self hx]; rfl
  | (k1, v1, n1) :: es, j + 1, u, n, e, hlt => by
    show keyEq x k1 _ (fun b => bc b es ((k1, v1, n1) :: del x es)) = _
    rw [keyEq_false (hlt 0 (by omega) k1 v1 n1 rfl), del_eq hx (by simpa using e) (fun j' hj' k' v n hh => hlt (j' + 1) (by omega) k' v n (by simpa using hh))]
    rfl
theorem key_same {a : AV} {x y : Value} (hg : isKey a = true) (rx : VR μ a x) (ry : VR μ a y) : x = y ∧ Instr.sameBits 10000 x y = true := by
  rcases isKey_inv hg with ⟨i, n, rfl⟩ | ⟨s, rfl⟩
  · rw [VR_int] at rx ry; subst rx; subst ry
    exact ⟨rfl, by simp [Instr.sameBits]⟩
  · rw [VR_str] at rx ry
    obtain ⟨p, rfl, rfl⟩ := rx
    obtain ⟨q, rfl, hq⟩ := ry
    have := byteList_inj hq
    subst this
    exact ⟨rfl, by simp [Instr.sameBits, beq_toListBytes]⟩
theorem mapUpdate_ok (hs : Sim μ h w) {kt el : TypeId} {s : Bool} {m k x : AX} {ym yk yx : Value} {v : AV} (hu : P.underlying ty = some (.map kt el)) (hk : keyOk P kt = some s) (rm : VR μ (evX m t) ym) (rk : VR μ (evX k t) yk) (rx : VR μ (evX x t) yx)
    (e : oMapUpdate s m k x t h = .ok v h') : Eff P μ h w (do Instr.mapUpdate ty ym yk yx; pure .skip) v h' := by
  obtain ⟨hg, e1⟩ := bc_inv e nofun
  obtain ⟨d, hd, hkt⟩ := keyOk_inv hk
  have hck := fun b w => run_checkKey (P := P) (μ := μ) hd hkt hg rk b w
  rcases asMap_inv e1 nofun with ⟨_, e2⟩ | ⟨b, hm, e2⟩
  · cases e2
  rw [hm, VR_map] at rm
  obtain ⟨c, s0, hb, rfl⟩ := rm
  have e2 : hmap h b RV.no (fun es n c => look (evX k t) es .no fun r => ocase (.ok undef (hset h b (.mp (app es [(evX k t, evX x t, c)]) (Nat.succ n) (Nat.succ c))))
    (fun _ => .ok undef (hset h b (.mp (ins (evX k t) (evX x t) es) n c))) r) = .ok v h' := e2
  obtain ⟨es, n, ck, hget, e3⟩ := hmap_inv e2 nofun
  obtain ⟨hn, _, _, es', hw, hlen, hes⟩ := hs.map hb hget
  have hik := goodKey_isKey hg
  rcases findNow_ok hkt rk hg 0 hlen hes e3 nofun with ⟨h1, h2, _⟩ | ⟨j, k', u, n', en, h5, h6, _, h7, rfl, h8, h9, h10⟩
  · cases h1
    rw [app_eq]
    obtain ⟨k1, k2⟩ := hs.mapSet (es2 := es ++ [(evX k t, evX x t, ck)]) (es2' := es'.push { key := yk, val := yx, born := ck }) (n2 := n + 1) (ck2 := ck + 1) hb hget (by simp [hn]) (by
      refine ⟨by simp at hlen ⊢; omega, fun i k0 v0 n0 hi => ?_⟩
      rw [Array.toList_push]
      rcases Nat.lt_or_ge i es.length with hil | hil
      · rw [List.getElem?_append_left hil] at hi
        obtain ⟨q1, e, q2, q3⟩ := hes i k0 v0 n0 hi
        exact ⟨q1, e, by rw [List.getElem?_append_left (by omega)]; exact q2, q3⟩
      · rw [List.getElem?_append_right hil] at hi
        obtain rfl : i = es.length := by
          have := (List.getElem?_eq_some_iff.1 hi).1
          simp at this; omega
        simp at hi
        obtain ⟨rfl, rfl, rfl⟩ := hi
        refine ⟨hik, { key := yk, val := yx, born := ck }, ?_, rk, rx, rfl⟩
        rw [List.getElem?_append_right (by omega), hlen]; simp)
    refine ⟨μ, _, .skip, ?_, k2, k1, .inr ⟨rfl, rfl⟩⟩
    simp only [Instr.mapUpdate, Sem.run_bind, run_underlying hu, run_getObj_map hw, hck, Instr.findKey, run_underlying hd, h2, Result.andThen_ok, Sem.run_pure, run_setObj_map hw]
  · cases h8
    rw [ins_eq hik h5 h10]
    obtain ⟨hkk, hbits⟩ := key_same hik h7 rk
    have hj : j < es'.size := by have := (List.getElem?_eq_some_iff.1 h6).1; simpa using this
    obtain ⟨k1, k2⟩ := hs.mapSet (es2 := es.set j (evX k t, evX x t, n')) (es2' := es'.modify j fun e => { e with key := yk, val := yx }) (n2 := n) (ck2 := ck) hb hget (by simp [hn]) (by
      refine ⟨by simp at hlen ⊢; omega, fun i k0 v0 n0 hi => ?_⟩
      rw [Array.getElem?_toList, Array.getElem?_modify]
      rw [List.getElem?_set] at hi
      split at hi
      · rename_i hji
        subst hji
        split at hi
        · simp at hi
          obtain ⟨rfl, rfl, rfl⟩ := hi
          rw [if_pos rfl, ← Array.getElem?_toList, h6]
          obtain ⟨_, e0, q2, _, _, q5⟩ := hes j _ _ _ h5
          rw [h6] at q2; cases q2
          exact ⟨hik, _, rfl, rk, rx, q5⟩
        · cases hi
      · rename_i hji
        rw [if_neg hji, ← Array.getElem?_toList]
        exact hes i k0 v0 n0 hi)
    refine ⟨μ, _, .skip, ?_, k2, k1, .inr ⟨rfl, rfl⟩⟩
    have hkey : ((es'[j]?).map (·.key)).getD yk = en.key := by
      rw [← Array.getElem?_toList, h6]; rfl
    simp only [Instr.mapUpdate, Sem.run_bind, run_underlying hu, run_getObj_map hw, hck, Instr.findKey, run_underlying hd, h9, Result.andThen_ok, Sem.run_pure, run_setObj_map hw, Instr.keyThatStays, Nat.zero_add, hkey, Sem.run_ite, if_pos hbits]
theorem delete_ok (hs : Sim μ h w) {kt el ret : TypeId} {ts : List TypeId} {d : TypeDesc} {s : Bool} {m k : AX} {ym yk : Value} {v : AV} (hu : P.underlying ty = some (.map kt el)) (hd : P.underlying kt = some d) (hkt : KeyT P s d) (rm : VR μ (evX m t) ym) (rk : VR μ (evX k t) yk)
    (e : oDelete s m k t h = .ok v h') : EffV P μ h w (Builtin.delete_ (ty :: ts).toArray ret #[ym, yk]) v h' := by
  have hun : VR μ undef (.tuple #[]) := by show VR μ (.tuple []) _; rw [VR_tuple]; exact ⟨#[], rfl, by rw [VRs_nil]⟩
  obtain ⟨hg, e1⟩ := bc_inv e nofun
  have hck := fun b w => run_checkKey (P := P) (μ := μ) hd hkt hg rk b w
  rcases asMap_inv e1 nofun with ⟨hm, e2⟩ | ⟨b, hm, e2⟩
  · cases e2
    rw [hm, VR_nilMap] at rm; subst rm
    refine ⟨μ, w, _, ?_, .refl hs, hs, hun⟩
    simp [Builtin.delete_, run_underlying hu, hck]
  rw [hm, VR_map] at rm
  obtain ⟨c, s0, hb, rfl⟩ := rm
  obtain ⟨es, n, ck, hget, e3⟩ := hmap_inv e2 nofun
  obtain ⟨hn, _, _, es', hw, hlen, hes⟩ := hs.map hb hget
  have hik := goodKey_isKey hg
  rcases findNow_ok hkt rk hg 0 hlen hes e3 nofun with ⟨h1, h2, _⟩ | ⟨j, k', u, n', en, h5, h6, _, h7, rfl, h8, h9, h10⟩
  · cases h1
    refine ⟨μ, w, _, ?_, .refl hs, hs, hun⟩
    simp only [Builtin.delete_, Sem.run_bind, run_underlying hu, run_getObj_map hw, hck, Instr.findKey, run_underlying hd, h2, Result.andThen_ok, Sem.run_pure, run_setObj_map hw, set_self hw, List.getElem?_toArray, List.getElem?_cons_zero, List.getElem?_cons_succ]
  · cases h8
    rw [del_eq hik h5 h10]
    have hj : j < es.length := (List.getElem?_eq_some_iff.1 h5).1
    obtain ⟨k1, k2⟩ := hs.mapSet (es2 := es.eraseIdx j) (es2' := es'.eraseIdxIfInBounds j) (n2 := n - 1) (ck2 := ck) hb hget (by rw [List.length_eraseIdx, if_pos hj, hn]) (by
      have ht : (es'.eraseIdxIfInBounds j).toList = es'.toList.eraseIdx j := by
        simp
      rw [ht]
      refine ⟨by rw [List.length_eraseIdx, List.length_eraseIdx, hlen], fun i k0 v0 n0 hi => ?_⟩
      rw [List.getElem?_eraseIdx] at hi ⊢
      split at hi
      · rw [if_pos (by assumption)]; exact hes i k0 v0 n0 hi
      · rw [if_neg (by assumption)]; exact hes (i + 1) k0 v0 n0 hi)
    refine ⟨μ, _, _, ?_, k2, k1, hun⟩
    simp only [Builtin.delete_, Sem.run_bind, run_underlying hu, run_getObj_map hw, hck, Instr.findKey, run_underlying hd, h9, Result.andThen_ok, Sem.run_pure, run_setObj_map hw, Nat.zero_add, List.getElem?_toArray, List.getElem?_cons_zero, List.getElem?_cons_succ]
end
end Eng
end
section
set_option linter.unusedVariables false
set_option linter.unusedSimpArgs false
namespace Eng
open Go Go.RowKit
section
variable {P : Program} {μ μ' : Mp} {h h' : Hp} {w w' : World} {t : T} {ρ : Operand → Value} {ty : TypeId}
theorem VRs.two {a b : AV} {l : List Value} (r : VRs μ [a, b] l) : ∃ x y, l = [x, y] ∧ VR μ a x ∧ VR μ b y := by
  rw [VRs_cons] at r
  obtain ⟨x, xs, rfl, rx, r⟩ := r
  rw [VRs_cons] at r
  obtain ⟨y, ys, rfl, ry, r⟩ := r
  rw [VRs_nil] at r; subst r
  exact ⟨x, y, rfl, rx, ry⟩
theorem VRs.one {a : AV} {l : List Value} (r : VRs μ [a] l) : ∃ x, l = [x] ∧ VR μ a x := by
  rw [VRs_cons] at r
  obtain ⟨x, xs, rfl, rx, r⟩ := r
  rw [VRs_nil] at r; subst r
  exact ⟨x, rfl, rx⟩
theorem eff_builtin (hs : Sim μ h w) {b : Builtin} {ts : Array TypeId} {ret : TypeId} {cs : Array Bool} {asq : Array Operand} {xs : List AX} {op : EOp} {v : AV} {call : CallT} (hc : compBuiltin P b ts.toList xs = .e op)
    (r : VRs μ (evXs xs t) (asq.map ρ).toList) (e : evE op call t h = .ok v h') : Eff P μ h w (builtin b ts ret cs (asq.map ρ)) v h' := by
  generalize asq.map ρ = vs at r
  obtain ⟨ts⟩ := ts
  obtain ⟨vs⟩ := vs
  simp only [] at hc r
  unfold compBuiltin at hc
  split at hc
  · -- append
    rename_i st xt s x
    obtain ⟨ys, yx, rfl, rs, rx⟩ := r.two
    exact (append_ok hs hc rs rx e).eff
  · -- len
    unfold compLen at hc
    repeat' (split at hc)
    all_goals (cases hc; done)
  · -- cap
    split at hc <;> cases hc
  · -- copy
    rename_i dt ts d s
    obtain ⟨yd, ys, rfl, rd, rs⟩ := r.two
    split at hc
    · rename_i el hu
      split at hc
      · rename_i n hn
        split at hc
        · cases hc
        · rename_i hpos
          cases hc
          exact (copy_ok hs hu hn hpos rd rs e).eff
      · cases hc
    · cases hc
  · -- delete
    rename_i t0 ts m k
    obtain ⟨ym, yk, rfl, rm, rk⟩ := r.two
    split at hc
    · rename_i kt el hu
      split at hc
      · rename_i ik hd; cases hc; exact (delete_ok hs hu hd (.inl ⟨rfl, _, rfl⟩) rm rk e).eff
      · rename_i hd; cases hc; exact (delete_ok hs hu hd (.inr ⟨rfl, rfl⟩) rm rk e).eff
      · cases hc
    · cases hc
  · cases hc
  · cases hc
  · -- clear
    rename_i t0 x
    obtain ⟨yx, rfl, rx⟩ := r.one
    split at hc
    · rename_i el hu
      split at hc
      · rename_i z hz; cases hc; exact (clear_ok hs hu hz rx e).eff
      · cases hc
    · cases hc
  · cases hc
theorem effect_ok (hs : Sim μ h w) {o : Oper} {op : EOp} (hc : compOp P o.op = .e op) (hnc : ∀ f xs, op ≠ .call f xs) (hx : Opnds μ t ρ o.op.operands.toList) {v : AV} {call : CallT} (e : evE op call t h = .ok v h') : Eff P μ h w (execOp ρ o) v h' := by
  unfold execOp
  generalize o.op = q at *
  generalize o.type = oty at *
  cases q
  case store ty a x =>
    obtain ⟨a', x', ha, hb, e1⟩ := comp2_inv hc nofun
    have ra := hx a (by simp [Op.operands]) a' ha
    have rb := hx x (by simp [Op.operands]) x' hb
    split at e1
    · rename_i n hn; cases e1; exact store_ok hs hn ra rb e
    · cases e1
  case mapUpdate ty m k x =>
    obtain ⟨m', k', x', hm, hk, hb, e1⟩ := comp3_inv hc nofun
    have rm := hx m (by simp [Op.operands]) m' hm
    have rk := hx k (by simp [Op.operands]) k' hk
    have rb := hx x (by simp [Op.operands]) x' hb
    unfold compMapUpdate at e1
    split at e1
    · rename_i kt el hu
      split at e1
      · rename_i s hs'; cases e1; exact mapUpdate_ok hs hu hs' rm rk rb e
      · cases e1
    · cases e1
  case insert ty m k x =>
    obtain ⟨m', k', x', hm, hk, hb, e1⟩ := comp3_inv hc nofun
    have rm := hx m (by simp [Op.operands]) m' hm
    have rk := hx k (by simp [Op.operands]) k' hk
    have rb := hx x (by simp [Op.operands]) x' hb
    unfold compMapUpdate at e1
    split at e1
    · rename_i kt el hu
      split at e1
      · rename_i s hs'; cases e1; exact mapUpdate_ok hs hu hs' rm rk rb e
      · cases e1
    · cases e1
  case convert s d x =>
    obtain ⟨a, ha, e1⟩ := comp1_inv hc nofun
    have ra := hx x (by simp [Op.operands]) a ha
    unfold compConv at e1
    split at e1
    · cases e1
    · split at e1 <;> cases e1
    · split at e1 <;> cases e1
    · rename_i el0 el h1 h2
      split at e1
      · rename_i hsd
        split at e1
        · rename_i h3; cases e1; exact (mark_ok hs hsd h2 h3 ra e).eff
        · cases e1
      · cases e1
    · cases e1
  case call c =>
    have hc : compCall P c = .e op := hc
    unfold compCall at hc
    split at hc
    · rename_i b hb
      split at hc
      · rename_i xs hxs
        have r := compXs_map hxs hx (fun x hx => by simp [Op.operands, Call.operands, hb]; simpa using hx)
        obtain ⟨μ', w', n, h1, rest⟩ := eff_builtin (ret := oty) (cs := c.args.map fun | .const _ => true | _ => false) hs hc r e
        refine ⟨μ', w', n, ?_, rest⟩
        simp only [resolve, hb, Sem.run_bind, Sem.run_pure, Result.andThen_ok, invoke]
        exact h1
      · cases hc
    · repeat' (split at hc)
      · cases hc; exact absurd rfl (hnc _ _)
      · cases hc
    · cases hc
  case binOp bo ty x y yt =>
    exfalso
    have h1 : ∀ neg (a b : AX), compEq P neg ty a b ≠ .e op := fun neg a b => by
      unfold compEq
      repeat' split
      all_goals nofun
    cases bo <;> simp only [compOp, comp2, comp1] at hc <;> repeat' (split at hc)
    all_goals first | (cases hc; done) | exact h1 _ _ _ hc
  all_goals
    exfalso
    simp only [compOp, comp1, comp2, comp3, compBuild, compBuildSlice, compMakeSlice, compMakeMap, compSlice, compFieldAddr, compField, compIndexAddr, compIndex, compLookup, compMapUpdate, no] at hc
    repeat' (split at hc)
    all_goals (cases hc; done)
theorem call_inv {q : Op} {f : AX} {xs : List AX} (hc : compOp P q = .e (.call f xs)) : ∃ c g, q = .call c ∧ c.callee = .value g ∧ compX g = some f ∧ compXs c.args.toList = some xs := by
  cases q
  case call c =>
    have hc : compCall P c = .e (.call f xs) := hc
    unfold compCall at hc
    split at hc
    · exfalso
      split at hc
      · unfold compBuiltin at hc
        split at hc
        · unfold compAppend at hc; repeat' (split at hc)
          all_goals (cases hc; done)
        · unfold compLen at hc; repeat' (split at hc)
          all_goals (cases hc; done)
        all_goals first | (cases hc; done) | (repeat' (split at hc)) <;> (cases hc; done)
      · cases hc
    · rename_i g hg
      split at hc
      · rename_i h1 h2; cases hc; exact ⟨c, g, rfl, hg, h1, h2⟩
      · cases hc
    · cases hc
  case binOp bo ty x y yt =>
    exfalso
    have h1 : ∀ neg (a b : AX), compEq P neg ty a b ≠ .e (.call f xs) := fun neg a b => by
      unfold compEq
      repeat' split
      all_goals nofun
    cases bo <;> simp only [compOp, comp2, comp1] at hc <;> repeat' (split at hc)
    all_goals first | (cases hc; done) | exact h1 _ _ _ hc
  all_goals
    exfalso
    simp only [compOp, comp1, comp2, comp3, compBuild, compBuildSlice, compMakeSlice, compMakeMap, compSlice, compFieldAddr, compField, compIndexAddr, compIndex, compLookup, compMapUpdate, compConv, no] at hc
    repeat' (split at hc)
    all_goals (cases hc; done)
end
end Eng
end
section
set_option linter.unusedVariables false
set_option linter.unusedSimpArgs false
namespace Eng
open Go Go.RowKit
def TR (μ : Mp) (t : T) (tmps : Array Value) : Prop := ∀ i, VR μ (evX (.tmp i) t) (tmps.getD i Go.undef)
section
variable {P : Program} {μ μ' : Mp} {h h' : Hp} {w w' : World} {t t' : T} {a : Act}
theorem VR_undef : VR μ undef Go.undef := by
  show VR μ (.tuple []) (.tuple #[])
  rw [VR_tuple]; exact ⟨#[], rfl, by rw [VRs_nil]⟩
theorem TR.mono (r : TR μ t a.tmps) (hle : μ.Le μ') : TR μ' t a.tmps := fun i => (r i).mono hle
theorem TR.put (r : TR μ t a.tmps) {d : Option Nat} {v : AV} {y : Value} (rv : VR μ v y) (hd : ∀ i, d = some i → i < a.tmps.size) : TR μ (putT d v t) (a.put d y).tmps := by
  cases d with
  | none => exact r
  | some d =>
    intro i
    have hlt := hd d rfl
    show VR μ (evX (.tmp i) (tset (pathOf d) v t)) ((a.tmps.setIfInBounds d y).getD i Go.undef)
    rw [evX_tmp]
    by_cases hi : i = d
    · subst hi
      rw [tget_tset]
      have : (a.tmps.setIfInBounds i y).getD i Go.undef = y := by
        rw [Array.getD_eq_getD_getElem?, Array.getElem?_setIfInBounds_self_of_lt hlt]; rfl
      rw [this]; exact rv
    · rw [tget_tset_ne _ _ _ _ (fun e => hi (pathOf_inj e)), ← evX_tmp]
      have : (a.tmps.setIfInBounds d y).getD i Go.undef = a.tmps.getD i Go.undef := by
        rw [Array.getD_eq_getD_getElem?, Array.getD_eq_getD_getElem?, Array.getElem?_setIfInBounds_ne (fun e => hi e.symm)]
      rw [this]; exact r i
theorem put_size {d : Option Nat} {y : Value} : (a.put d y).tmps.size = a.tmps.size := by cases d <;> simp [Act.put]
theorem put_defers {d : Option Nat} {y : Value} : (a.put d y).defers = a.defers := by cases d <;> rfl
theorem opnds_at {l : List Operand} (r : ∀ d, Operand.tmp d ∈ l → VR μ (evX (.tmp d) t) (a.tmps.getD d Go.undef)) : Opnds μ t a.eval l := fun x hm ax hx => by
  cases x with
  | tmp i => cases hx; exact r i hm
  | const v =>
    have hx : (constAV v).map AX.const = some ax := hx
    cases hc : constAV v with
    | none => rw [hc] at hx; cases hx
    | some c => rw [hc] at hx; cases hx; exact (constAV_ok hc).1
  | func f =>
    cases hx
    rw [evX_const, VR_func]
    exact ⟨#[], #[], rfl, by rw [VRs_nil], by rw [VRs_nil]⟩
  | global g => cases hx
theorem TR.opnds (r : TR μ t a.tmps) (l : List Operand) : Opnds μ t a.eval l := opnds_at fun d _ => r d
structure At (μ0 : Mp) (h0 : Hp) (w0 : World) (n : Nat) (t : T) (h : Hp) (a : Act) (w : World) : Prop where
  ex : ∃ μ, TR μ t a.tmps ∧ Sim μ h w ∧ Goes μ0 h0 w0 μ h w
  defers : a.defers = []
  size : a.tmps.size = n
def CallR (μ : Mp) (h : Hp) (w : World) (v : AV) (h' : Hp) : Ending → World → Prop := fun e w' => ∃ μ' y, e = .returned y ∧ VR μ' v y ∧ Sim μ' h' w' ∧ Goes μ h w μ' h' w'
def Enters (P : Program) (f : Nat) : Prop := ∃ fn c, P.funcs[f]? = some fn ∧ fn.name ≠ "runtime.NumGoroutine" ∧ fn.body = some c
def Good (P : Program) (call : CallT) : Prop := ∀ f args h v h' μ w (cargs : Array Value), call f args h = .ok v h' → Sim μ h w → VRs μ args cargs.toList → Enters P f ∧ Calls P f cargs w (CallR μ h w v h')
theorem run_callFunc {f : Nat} (he : Enters P f) (args : Array Value) : (callFunc f args).run P w = .ok (.enter f args) w := by
  obtain ⟨fn, c, h1, h2, h3⟩ := he
  simp [callFunc, run_program, h1, h2, h3]
theorem rv_then {r : RV} {k : AV → Hp → RT} {t' : T} (e : r.then k = .ok t' h') : ∃ v h1, r = .ok v h1 ∧ k v h1 = .ok t' h' := by
  cases r with
  | no => cases e
  | ok v h1 => exact ⟨v, h1, rfl, e⟩
theorem ov_then {r : OV} {k : AV → RT} {t' : T} (e : r.then k = .ok t' h') : ∃ v, r = .ok v ∧ k v = .ok t' h' := by
  cases r with
  | no => cases e
  | ok v => exact ⟨v, rfl, e⟩
theorem ol_then {r : OL} {k : MK → Blk → RT} {t' : T} (e : r.then k = .ok t' h') : ∃ m x, r = .ok m x ∧ k m x = .ok t' h' := by
  cases r with
  | no => cases e
  | ok m x => exact ⟨m, x, rfl, e⟩
theorem rt_then {r : RT} {k : T → Hp → RT} {t' : T} (e : r.then k = .ok t' h') : ∃ t1 h1, r = .ok t1 h1 ∧ k t1 h1 = .ok t' h' := by
  cases r with
  | no => cases e
  | ok t1 h1 => exact ⟨t1, h1, rfl, e⟩
theorem evL_solo {l : LOp} {k : MK} {x : Blk} (e : evL l t = .ok k x) : ∀ cs n p, x ≠ .cells cs n (.pair p) := by
  have hm : ∀ {cs : List AV} {n : Nat}, ∀ cs' n' p, mkCells cs n ≠ .cells cs' n' (.pair p) := fun cs' n' p hh => by cases hh
  cases l with
  | alloc z => obtain ⟨_, e1⟩ := bc_inv (show bc (lall isCell z) (OL.ok .ptr (mkCells z (len z))) .no = .ok k x from e) nofun; cases e1; exact hm
  | box a => obtain ⟨_, e1⟩ := bc_inv (show bc (lall isCell (cellsOf (evX a t))) (OL.ok .ptr (mkCells (cellsOf (evX a t)) (len (cellsOf (evX a t))))) .no = .ok k x from e) nofun; cases e1; exact hm
  | buildSlice sz n z ps =>
    obtain ⟨cs, _, e1⟩ := ocase_inv (show ocase OL.no (fun cs => bc (lall isCell cs) (OL.ok (.sl n n sz true) (mkCells cs (Nat.mul n sz))) .no) (fillParts ps t (Nat.mul n sz) (lrep z n)) = .ok k x from e) nofun
    obtain ⟨_, e2⟩ := bc_inv e1 nofun; cases e2; exact hm
  | toBytes a => obtain ⟨s, _, e1⟩ := asStr_inv (show ((evX a t).asStr OL.no fun s => .ok (.sl (len s) (len s) 1 false) (mkCells (u8s s) (len s))) = .ok k x from e) nofun; cases e1; exact hm
  | makeMap => cases e; intro _ _ _ hh; cases hh
  | makeSlice sz by_ z l c =>
    obtain ⟨_, _, _, e1⟩ := asInt_inv (show ((evX l t).asInt OL.no fun _ l => (evX c t).asInt .no fun _ c => natOf l .no fun l => natOf c .no fun c =>
      bc (lall isCell z) (bc (Nat.ble l c) (bc (Nat.ble (Nat.mul c by_) 70368744177664) (bc (Nat.ble c 70368744177664)
        (.ok (.sl l c sz true) (mkCells (lrep z c) (Nat.mul c sz))) .no) .no) .no) .no) = .ok k x from e) nofun
    obtain ⟨_, _, _, e2⟩ := asInt_inv e1 nofun
    obtain ⟨_, _, e3⟩ := natOf_inv e2 nofun
    obtain ⟨_, _, e4⟩ := natOf_inv e3 nofun
    obtain ⟨_, e5⟩ := bc_inv e4 nofun
    obtain ⟨_, e6⟩ := bc_inv e5 nofun
    obtain ⟨_, e7⟩ := bc_inv e6 nofun
    obtain ⟨_, e8⟩ := bc_inv e7 nofun
    cases e8; exact hm
theorem op_ok {call : CallT} (good : Good P call) {μ0 : Mp} {h0 : Hp} {w0 : World} {n : Nat} {o : Oper} (hd : ∀ i, o.dst = some i → i < n) {t1 : T} {h1 : Hp} (e : runA (compOp P o.op) o.dst call t h = .ok t1 h1)
    (st : At μ0 h0 w0 n t h a w) {next : Act → World → Prop} {Q : Exit → Act → World → Prop} (hn : ∀ a' w', At μ0 h0 w0 n t1 h1 a' w' → next a' w') : o.wp P a w next Q := by
  obtain ⟨⟨μ, r, hs, g⟩, hdef, hsz⟩ := st
  have hd' : ∀ i, o.dst = some i → i < a.tmps.size := fun i hi => by rw [hsz]; exact hd i hi
  unfold Oper.wp
  cases hc : compOp P o.op with
  | q q =>
    rw [hc] at e
    obtain ⟨v, hv, e1⟩ := ov_then (show (evQ q t h).then (fun v => .ok (putT o.dst v t) h) = .ok t1 h1 from e)
    cases e1
    obtain ⟨x, hx, rx⟩ := quiet_ok hs hc (r.opnds _) hv
    rw [hx]
    exact hn _ _ ⟨⟨μ, r.put rx hd', hs, g⟩, by rw [put_defers]; exact hdef, by rw [put_size]; exact hsz⟩
  | l l =>
    rw [hc] at e
    obtain ⟨m, x, hm, e1⟩ := ol_then (show (evL l t).then (fun k x => .ok (putT o.dst (mkAt k h.next) t) (hpush h x)) = .ok t1 h1 from e)
    cases e1
    obtain ⟨y, w', ob, k, hrun, hp, hmk⟩ := makes_ok hc (r.opnds _) hm
    have hnone : μ.at_ h.next = none := hs.lt _ (Nat.le_refl _)
    have hle := ext_le (n := k) hs hnone
    obtain ⟨ry, hblk⟩ := hmk (μ.ext h.next w.heap.size 0 k) h.next hle (if_pos rfl) (if_pos rfl) (if_pos rfl)
    obtain ⟨hs', g'⟩ := hs.push hp (evL_solo hm) hblk
    rw [hrun]
    exact hn _ _ ⟨⟨_, (r.mono hle).put ry hd', hs', g.trans g'⟩, by rw [put_defers]; exact hdef, by rw [put_size]; exact hsz⟩
  | e q =>
    rw [hc] at e
    obtain ⟨v, h2, hv, e1⟩ := rv_then (show (evE q call t h).then (fun v h => .ok (putT o.dst v t) h) = .ok t1 h1 from e)
    cases e1
    by_cases hcall : ∃ f xs, q = .call f xs
    · obtain ⟨f, xs, rfl⟩ := hcall
      obtain ⟨c, g0, ho, hcal, hf, hxs⟩ := call_inv hc
      have hops := r.opnds o.op.operands.toList
      obtain ⟨fid, asq, bs, hfv, e2⟩ := asFunc_inv (show ((evX f t).asFunc RV.no fun g a b => call g (app a (app (evXs xs t) b)) h) = .ok v _ from hv) nofun
      have rf := r.opnds [g0] g0 (by simp) f hf
      rw [hfv, VR_func] at rf
      obtain ⟨as', bs', hg0, ra, rb⟩ := rf
      have rxs := compXs_map hxs (r.opnds c.args.toList) (fun x hx => hx)
      rw [app_eq, app_eq] at e2
      have rall : VRs μ (asq ++ (evXs xs t ++ bs)) ((as' ++ c.args.map a.eval) ++ bs').toList := by
        rw [Array.toList_append, Array.toList_append, List.append_assoc]
        exact ra.append (rxs.append rb)
      obtain ⟨hent, hcalls⟩ := good fid _ h v _ μ w _ e2 hs rall
      have hrun : (execOp a.eval o).run P w = .ok (.enter fid ((as' ++ c.args.map a.eval) ++ bs')) w := by
        unfold execOp
        rw [ho]
        simp only [resolve, hcal, hg0, Deferred.ofValue, Sem.run_bind, Sem.run_pure, Result.andThen_ok, invoke]
        exact run_callFunc hent _
      rw [hrun, Oper.upon_enter]
      refine hcalls.mono fun e w' hR => ?_
      obtain ⟨μ', y, rfl, ry, hs', g'⟩ := hR
      exact hn _ _ ⟨⟨μ', (r.mono (g'.le hs)).put ry hd', hs', g.trans g'⟩, by rw [put_defers]; exact hdef, by rw [put_size]; exact hsz⟩
    · obtain ⟨μ', w', nx, hrun, g', hs', hval⟩ := effect_ok hs hc (fun f xs hh => hcall ⟨f, xs, hh⟩) (r.opnds _) hv
      rw [hrun]
      rcases hval with ⟨y, rfl, ry⟩ | ⟨rfl, rfl⟩
      · exact hn _ _ ⟨⟨μ', (r.mono (g'.le hs)).put ry hd', hs', g.trans g'⟩, by rw [put_defers]; exact hdef, by rw [put_size]; exact hsz⟩
      · exact hn _ _ ⟨⟨μ', (r.mono (g'.le hs)).put VR_undef hd', hs', g.trans g'⟩, by rw [put_defers]; exact hdef, by rw [put_size]; exact hsz⟩
theorem wanted_at {ops : Array Oper} {o : Oper} {g : Option (Nat × Bool)} (hg : compGuard ops o.guard = some g)
    (r : ∀ j want d, o.guard = some (j, want) → (ops[j]?).bind (·.dst) = some d → VR μ (evX (.tmp d) t) (a.tmps.getD d Go.undef)) : wanted g t = Region.wanted o (yielded ops a.tmps) := by
  unfold compGuard at hg
  unfold Region.wanted
  cases ho : o.guard with
  | none => rw [ho] at hg; cases hg; rfl
  | some p =>
    obtain ⟨j, want⟩ := p
    rw [ho] at hg
    simp only [] at hg
    cases hj : (ops[j]?).bind (·.dst) with
    | none => rw [hj] at hg; cases hg
    | some d =>
      rw [hj] at hg; cases hg
      show ocase false (fun v => v.asBool false fun c => bc want c (notB c)) (tget (pathOf d) t) = (yielded ops a.tmps j == some want)
      have hy : yielded ops a.tmps j = match a.tmps[d]? with | some (.bool b) => some b | _ => none := by
        unfold yielded; rw [hj]; rfl
      have hl : ocase false (fun v => v.asBool false fun c => bc want c (notB c)) (tget (pathOf d) t) = (evX (.tmp d) t).asBool false fun c => bc want c (notB c) := by
        rw [evX_tmp]
        cases tget (pathOf d) t <;> rfl
      rw [hl, hy]
      have rd := r j want d ho hj
      generalize evX (.tmp d) t = v at rd
      rw [Array.getD_eq_getD_getElem?] at rd
      by_cases hv : ∃ c, v = .bool c
      · obtain ⟨c, rfl⟩ := hv
        rw [VR_bool] at rd
        cases ht : a.tmps[d]? with
        | none => rw [ht] at rd; cases rd
        | some x =>
          rw [ht] at rd
          have rd : x = .bool c := rd
          subst rd
          show bc want c (notB c) = (some c == some want)
          cases want <;> cases c <;> rfl
      · have h1 : v.asBool false (fun c => bc want c (notB c)) = false := by
          cases v <;> first | rfl | exact absurd ⟨_, rfl⟩ hv
        rw [h1]
        cases ht : a.tmps[d]? with
        | none => rfl
        | some x =>
          rw [ht] at rd
          have rd : VR μ v x := rd
          cases x <;> first | rfl | skip
          rename_i b
          exfalso
          cases v <;> simp at rd
          · exact hv ⟨_, rfl⟩
theorem wanted_ok {ops : Array Oper} {o : Oper} {g : Option (Nat × Bool)} (hg : compGuard ops o.guard = some g) (r : TR μ t a.tmps) : wanted g t = Region.wanted o (yielded ops a.tmps) :=
  wanted_at hg fun _ _ d _ _ => r d
theorem evO_eq (call : CallT) (o : AO) (t : T) (h : Hp) : evO call o t h = if wanted o.guard t = true then runA o.op o.dst call t h else .ok (putT o.dst undef t) h := by
  unfold evO
  cases hg : o.guard with
  | none => rfl
  | some g => show bc (wanted (some g) t) _ _ = _; rw [bc_eq]
theorem compO_inv {n : Nat} {ops : Array Oper} {o : Oper} : (∃ g, compO P n ops o = ⟨o.dst, compOp P o.op, g⟩ ∧ compGuard ops o.guard = some g ∧ ∀ i, o.dst = some i → i < n) ∨ compO P n ops o = ⟨none, no, none⟩ := by
  unfold compO
  split
  · rename_i g hg hd
    refine .inl ⟨g, rfl, hg, fun i hi => ?_⟩
    rw [hi] at hd
    exact Nat.le_of_ble_eq_true hd
  · exact .inr rfl
theorem region_ok {call : CallT} (good : Good P call) {μ0 : Mp} {h0 : Hp} {w0 : World} {n : Nat} {ops : Array Oper} {Q : Exit → Act → World → Prop} {t1 : T} {h1 : Hp} (hQ : ∀ a' w', At μ0 h0 w0 n t1 h1 a' w' → Q .normal a' w') :
    ∀ (l : List Nat) (os : List Oper) (t : T) (h : Hp) (a : Act) (w : World), l.map (ops[·]?) = os.map some → evOs call (os.map (compO P n ops)) t h = .ok t1 h1 → At μ0 h0 w0 n t h a w → wpOps P ops Q l a w
  | [], os, t, h, a, w, hl, e, st => by
    have : os = [] := by cases os with | nil => rfl | cons o os => cases hl
    subst this
    cases e
    exact hQ a w st
  | i :: l, [], t, h, a, w, hl, e, st => by cases hl
  | i :: l, o :: os, t, h, a, w, hl, e, st => by
    simp only [List.map_cons, List.cons.injEq] at hl
    obtain ⟨hi, hl⟩ := hl
    obtain ⟨t2, h2, e1, e2⟩ := rt_then (show (evO call (compO P n ops o) t h).then (evOs call (os.map (compO P n ops))) = .ok t1 h1 from e)
    unfold wpOps
    rw [hi]
    simp only []
    rw [evO_eq] at e1
    rcases compO_inv (P := P) (n := n) (ops := ops) (o := o) with ⟨g, ho, hg, hd⟩ | ho
    · rw [ho] at e1
      simp only [] at e1
      obtain ⟨μ, r, hs, gs⟩ := st.ex
      rw [wanted_ok hg r] at e1
      split at e1
      · rename_i hw
        rw [if_pos hw]
        exact .inl (op_ok good hd e1 st fun a' w' st' => region_ok good hQ l os t2 h2 a' w' hl e2 st')
      · rename_i hw
        rw [if_neg hw]
        cases e1
        refine region_ok good hQ l os _ _ _ _ hl e2 ⟨⟨μ, r.put VR_undef fun i hi => by rw [st.size]; exact hd i hi, hs, gs⟩, by rw [put_defers]; exact st.defers, by rw [put_size]; exact st.size⟩
    · rw [ho] at e1
      cases e1
def Post (μ0 : Mp) (h0 : Hp) (w0 : World) (n : Nat) (Q : Exit → Act → World → Prop) : RS → Prop
  | .no => False
  | .nor t h => ∀ a w, At μ0 h0 w0 n t h a w → Q .normal a w
  | .exit i t h => ∀ a w, At μ0 h0 w0 n t h a w → Q (.exit i) a w
  | .ret t h => ∀ a w, At μ0 h0 w0 n t h a w → Q .ret a w
theorem wp_loop_fuel {c : Code} {Q : Exit → Act → World → Prop} (J : Nat → Act → World → Prop) (zero : ∀ a w, ¬ J 0 a w)
    (round : ∀ n a w, J (n + 1) a w → c.wp P (Exit.then (J n) Q) a w) {n : Nat} (h0 : J n a w) : (Code.loop c).wp P Q a w := by
  intro b k cs
  have key : ∀ n a w, J n a w → ∃ e a' w', Q e a' w' ∧ Arrives P (lone (b.at a (.code c :: .inLoop c :: k)) cs w) b k cs e a' w' := by
    intro n
    induction n with
    | zero => exact fun a w hJ => absurd hJ (zero a w)
    | succ n ih =>
      intro a w hJ
      obtain ⟨e, a1, w1, hq, harr⟩ := round n a w hJ b (.inLoop c :: k) cs
      cases e with
      | normal =>
        obtain ⟨e2, a2, w2, hq2, harr2⟩ := ih a1 w1 hq
        exact ⟨e2, a2, w2, hq2, .of_steps (Steps.trans harr (.one step_inLoop)) harr2⟩
      | exit id => exact ⟨_, a1, w1, hq, .pass (x := .inLoop c) rfl (fun _ _ => .inl (by simp)) harr⟩
      | goto l => exact ⟨_, a1, w1, hq, .pass (x := .inLoop c) rfl (fun _ _ => .inl (by simp)) harr⟩
      | ret => exact ⟨_, a1, w1, hq, .pass (x := .inLoop c) rfl (fun _ _ => .inl (by simp)) harr⟩
      | panic ch => exact ⟨_, a1, w1, hq, .pass (x := .inLoop c) rfl (fun _ _ => .inl (by simp)) harr⟩
      | outgrown => exact ⟨_, a1, w1, hq, .pass (x := .inLoop c) rfl (fun _ _ => .inl (by simp)) harr⟩
  obtain ⟨e, a', w', hq, harr⟩ := key n a w h0
  exact ⟨e, a', w', hq, .of_steps (.one step_loop) harr⟩
def DrawOk (P : Program) (D : Nat → Array Oper → AC) : Prop := ∀ (call : CallT) (N n id : Nat) (ops : Array Oper) (μ0 : Mp) (h0 : Hp) (w0 : World) (Q : Exit → Act → World → Prop) (t : T) (h : Hp) (a : Act) (w : World),
  Good P call → Post μ0 h0 w0 n Q (evC call N (D n ops) t h) → At μ0 h0 w0 n t h a w → (Code.region id ops true).wp P Q a w
theorem code_ok {D : Nat → Array Oper → AC} (hD : DrawOk P D) {call : CallT} (good : Good P call) {N n : Nat} {μ0 : Mp} {h0 : Hp} {w0 : World} :
    ∀ (c : Code) (Q : Exit → Act → World → Prop) (t : T) (h : Hp) (a : Act) (w : World), Post μ0 h0 w0 n Q (evC call N (compC P D n c) t h) → At μ0 h0 w0 n t h a w → c.wp P Q a w
  | .skip, Q, t, h, a, w, hp, st => wp_skip (hp a w st)
  | .label _, Q, t, h, a, w, hp, st => wp_label (hp a w st)
  | .region id ops draw, Q, t, h, a, w, hp, st => by
    cases draw with
    | true => exact hD call N n id ops μ0 h0 w0 Q t h a w good hp st
    | false =>
      have hp : Post μ0 h0 w0 n Q ((evOs call (ops.toList.map (compO P n ops)) t h).done) := hp
      cases e : evOs call (ops.toList.map (compO P n ops)) t h with
      | no => rw [e] at hp; exact hp.elim
      | ok t1 h1 =>
        rw [e] at hp
        refine wp_region (region_ok good hp (List.range ops.size) ops.toList t h a w ?_ e st)
        apply List.ext_getElem
        · simp
        · intro i h1 h2
          simp at h1
          simp [h1]
  | .seq x y, Q, t, h, a, w, hp, st => by
    have hp : Post μ0 h0 w0 n Q ((evC call N (compC P D n x) t h).then (evC call N (compC P D n y))) := hp
    refine wp_seq (code_ok (N := N) hD good x _ t h a w ?_ st)
    cases e : evC call N (compC P D n x) t h with
    | no => rw [e] at hp; exact hp
    | nor t1 h1 => rw [e] at hp; exact fun a' w' st' => code_ok (N := N) hD good y Q t1 h1 a' w' hp st'
    | exit i t1 h1 => rw [e] at hp; exact hp
    | ret t1 h1 => rw [e] at hp; exact hp
  | .cond c x y, Q, t, h, a, w, hp, st => by
    have hp : Post μ0 h0 w0 n Q (evC call N (match compX c with | some z => AC.cond z (compC P D n x) (compC P D n y) | none => .fail "cond") t h) := hp
    cases hc : compX c with
    | none => rw [hc] at hp; exact hp.elim
    | some z =>
      rw [hc] at hp
      have hp : Post μ0 h0 w0 n Q ((evX z t).asBool .no fun b => bc b (evC call N (compC P D n x) t h) (evC call N (compC P D n y) t h)) := hp
      obtain ⟨μ, r, hs, g⟩ := st.ex
      have rc := r.opnds [c] c (by simp) z hc
      by_cases hb : ∃ b, evX z t = .bool b
      · obtain ⟨b, hb⟩ := hb
        rw [hb, VR_bool] at rc
        rw [hb] at hp
        have hp : Post μ0 h0 w0 n Q (bc b (evC call N (compC P D n x) t h) (evC call N (compC P D n y) t h)) := hp
        refine wp_cond_split rc (fun hh => ?_) (fun hh => ?_)
        · subst hh; exact code_ok (N := N) hD good x Q t h a w hp st
        · subst hh; exact code_ok (N := N) hD good y Q t h a w hp st
      · exfalso
        generalize evX z t = v at *
        cases v <;> first | exact hp | exact hb ⟨_, rfl⟩
  | .block i x, Q, t, h, a, w, hp, st => by
    have hp : Post μ0 h0 w0 n Q ((evC call N (compC P D n x) t h).block i) := hp
    refine wp_block (code_ok (N := N) hD good x _ t h a w ?_ st)
    cases e : evC call N (compC P D n x) t h with
    | no => rw [e] at hp; exact hp
    | nor t1 h1 => rw [e] at hp; exact hp
    | exit j t1 h1 =>
      rw [e] at hp
      have hp : Post μ0 h0 w0 n Q (bc (Nat.beq j i) (.nor t1 h1) (.exit j t1 h1)) := hp
      intro a' w' st'
      show if j = i then Q .normal a' w' else Q (.exit j) a' w'
      rw [bc_beq] at hp
      split
      · rename_i hji; rw [if_pos hji] at hp; exact hp a' w' st'
      · rename_i hji; rw [if_neg hji] at hp; exact hp a' w' st'
    | ret t1 h1 => rw [e] at hp; exact hp
  | .loop x, Q, t, h, a, w, hp, st => by
    let R : Nat → T → Hp → RS := fun k => rounds (fun _ _ => .no) (fun again t h => (evC call N (compC P D n x) t h).then again) k
    refine wp_loop_fuel (fun k a w => ∃ t h, Post μ0 h0 w0 n Q (R k t h) ∧ At μ0 h0 w0 n t h a w) ?_ ?_ (n := N) ⟨t, h, hp, st⟩
    · rintro a w ⟨t, h, hp, _⟩; exact hp
    · rintro k a w ⟨t, h, hp, st⟩
      have hp : Post μ0 h0 w0 n Q ((evC call N (compC P D n x) t h).then (R k)) := hp
      refine code_ok (N := N) hD good x _ t h a w ?_ st
      cases e : evC call N (compC P D n x) t h with
      | no => rw [e] at hp; exact hp
      | nor t1 h1 => rw [e] at hp; exact fun a' w' st' => ⟨t1, h1, hp, st'⟩
      | exit j t1 h1 => rw [e] at hp; exact hp
      | ret t1 h1 => rw [e] at hp; exact hp
  | .exit i, Q, t, h, a, w, hp, st => wp_exit (hp a w st)
  | .ret, Q, t, h, a, w, hp, st => wp_ret (hp a w st)
  | .scope _, Q, t, h, a, w, hp, st => hp.elim
  | .goto _, Q, t, h, a, w, hp, st => hp.elim
  | .rangeFunc _ _ _ _, Q, t, h, a, w, hp, st => hp.elim
  | .refuse _, Q, t, h, a, w, hp, st => hp.elim
def resOf (tmps : Array Value) : ResultVar → Sem Value
  | .tmp t => pure (tmps.getD t Go.undef)
  | .cell c t => do loadVar t (← asAddr (tmps.getD c Go.undef))
theorem results_ok {rs : List ResultVar} (hs : Sim μ h w) (r : TR μ t a.tmps) : ∀ {l : List ARes} {β : Type} {z q : β} {k : List AV → β}, compRs P rs = some l → evRs l t h z k = q → z ≠ q →
    ∃ vs xs, k vs = q ∧ VRs μ vs xs ∧ (rs.mapM (resOf a.tmps)).run P w = .ok xs w := by
  induction rs with
  | nil => intro l β z q k hc e hz; cases hc; exact ⟨[], [], e, by rw [VRs_nil], rfl⟩
  | cons x rs ih =>
    intro l β z q k hc e hz
    unfold compRs at hc
    cases h1 : compR P x with
    | none => rw [h1] at hc; cases hc
    | some b =>
      cases h2 : compRs P rs with
      | none => rw [h1, h2] at hc; cases hc
      | some bs =>
        rw [h1, h2] at hc
        cases hc
        cases x with
        | tmp i =>
          cases h1
          have e : evRs bs t h z (fun vs => k (evX (.tmp i) t :: vs)) = q := e
          obtain ⟨vs, xs, h3, h4, h5⟩ := ih h2 e hz
          refine ⟨_, _ :: xs, h3, by rw [VRs_cons]; exact ⟨_, _, rfl, r i, h4⟩, ?_⟩
          rw [List.mapM_cons]
          simp only [resOf, Sem.run_bind, Sem.run_pure, Result.andThen_ok, h5]
        | cell c ty =>
          have h1 : (match aggT P ty, szOf P ty with
            | some true, some n => some (ARes.cellA c n)
            | some false, some _ => some (.cellS c)
            | _, _ => none) = some b := h1
          split at h1
          · rename_i n ha hn
            cases h1
            have e : ((evX (.tmp c) t).asPtr z fun b o => rdN h b o n z fun l => evRs bs t h z fun vs => k (.agg l :: vs)) = q := e
            obtain ⟨b, o, hp, e1⟩ := asPtr_inv e hz
            have rc := r c
            rw [hp, VR_ptr] at rc
            obtain ⟨c0, s0, hb, hx⟩ := rc
            obtain ⟨l, ys, e2, r2, hlen, _, hy⟩ := rdN_ok hs hb e1 hz
            obtain ⟨vs, xs, h3, h4, h5⟩ := ih h2 e2 hz
            refine ⟨_, .agg ys.toArray :: xs, h3, by rw [VRs_cons]; exact ⟨_, _, rfl, by rw [VR_agg]; exact ⟨_, rfl, r2⟩, h4⟩, ?_⟩
            rw [List.mapM_cons]
            simp only [resOf, hx, asAddr, Sem.run_bind, Sem.run_pure, Result.andThen_ok, loadVar, run_isAgg ha, run_sizeOf hn, if_true, run_loadCells_of hlen hy, h5]
          · rename_i n ha hn
            cases h1
            have e : ((evX (.tmp c) t).asPtr z fun b o => hcells h b z fun cs _ _ => ocase z (fun v => evRs bs t h z fun vs => k (v :: vs)) (nth? cs o)) = q := e
            obtain ⟨b, o, hp, e1⟩ := asPtr_inv e hz
            have rc := r c
            rw [hp, VR_ptr] at rc
            obtain ⟨c0, s0, hb, hx⟩ := rc
            obtain ⟨cs, k0, ow, hg, e2⟩ := hcells_inv e1 hz
            obtain ⟨v, hv, e3⟩ := ocase_inv e2 hz
            rw [nth_eq] at hv
            obtain ⟨y, hy, ry⟩ := hs.cell hb hg hv
            obtain ⟨vs, xs, h3, h4, h5⟩ := ih h2 e3 hz
            refine ⟨_, y :: xs, h3, by rw [VRs_cons]; exact ⟨_, _, rfl, ry, h4⟩, ?_⟩
            rw [List.mapM_cons]
            simp only [resOf, hx, asAddr, Sem.run_bind, Sem.run_pure, Result.andThen_ok, loadVar, run_isAgg ha, Bool.false_eq_true, if_false, run_load_cell hy, h5]
          · cases h1
noncomputable def frameGo (l : List AV) (k : Nat) (t : T) : T := lrec (fun (_ : Nat) (t : T) => t) (fun v _ ih i t => ih (Nat.succ i) (tset (pathOf i) v t)) l k t
theorem frameGo_ok : ∀ (l : List AV) (ys : List Value) (k : Nat) (t : T), VRs μ l ys →
    (∀ i, i < k ∨ k + ys.length ≤ i → evX (.tmp i) (frameGo l k t) = evX (.tmp i) t) ∧ ∀ i, i < ys.length → VR μ (evX (.tmp (k + i)) (frameGo l k t)) (ys.getD i Go.undef)
  | [], ys, k, t, r => by
    rw [VRs_nil] at r; subst r
    exact ⟨fun _ _ => rfl, fun i hi => absurd hi (by simp)⟩
  | v :: l, ys, k, t, r => by
    rw [VRs_cons] at r
    obtain ⟨y, ys, rfl, ry, rl⟩ := r
    obtain ⟨h1, h2⟩ := frameGo_ok l ys (k + 1) (tset (pathOf k) v t) rl
    have hf : frameGo (v :: l) k t = frameGo l (k + 1) (tset (pathOf k) v t) := rfl
    have hset : ∀ j, j ≠ k → evX (.tmp j) (tset (pathOf k) v t) = evX (.tmp j) t := fun j hj => by
      rw [evX_tmp, evX_tmp, tget_tset_ne _ _ _ _ (fun e => hj (pathOf_inj e))]
    have hself : evX (.tmp k) (tset (pathOf k) v t) = v := by rw [evX_tmp, tget_tset]; rfl
    refine ⟨fun i hi => ?_, fun i hi => ?_⟩
    · simp at hi
      rw [hf, h1 i (by omega), hset i (by omega)]
    · rw [hf]
      cases i with
      | zero => rw [h1 (k + 0) (by omega)]; rw [Nat.add_zero, hself]; simpa using ry
      | succ i =>
        have := h2 i (by simp at hi; omega)
        rw [show k + (i + 1) = k + 1 + i by omega]
        simpa using this
theorem frame0_ok {args : List AV} {xs : Array Value} (r : VRs μ args xs.toList) (k : Nat) : TR μ (frame0 args) (xs ++ Array.replicate k Go.undef) := fun i => by
  obtain ⟨h1, h2⟩ := frameGo_ok args xs.toList 0 .lf r
  have hf : frame0 args = frameGo args 0 .lf := rfl
  rw [hf]
  by_cases hi : i < xs.size
  · have := h2 i (by simpa using hi)
    rw [Nat.zero_add] at this
    have e1 : (xs ++ Array.replicate k Go.undef).getD i Go.undef = xs.toList.getD i Go.undef := by
      rw [Array.getD_eq_getD_getElem?, Array.getElem?_append_left hi]; simp
    rw [e1]; exact this
  · rw [h1 i (.inr (by simp; omega)), evX_tmp, tget_lf]
    have e1 : (xs ++ Array.replicate k Go.undef).getD i Go.undef = Go.undef := by
      rw [Array.getD_eq_getD_getElem?, Array.getElem?_append_right (by omega), Array.getElem?_replicate]
      split <;> rfl
    rw [e1]; exact VR_undef
theorem retOf_ok {vs : List AV} {xs : List Value} (r : VRs μ vs xs) : VR μ (retOf vs) (if h : xs.toArray.size = 1 then xs.toArray[0] else .tuple xs.toArray) := by
  have hl := r.length
  cases vs with
  | nil =>
    rw [VRs_nil] at r; subst r
    show VR μ (.tuple []) (.tuple #[])
    exact VR_undef
  | cons v vs =>
    cases vs with
    | nil =>
      obtain ⟨x, rfl, rx⟩ := r.one
      exact rx
    | cons u us =>
      have : ¬ xs.toArray.size = 1 := by simp at hl ⊢; omega
      rw [dif_neg this]
      show VR μ (.tuple (v :: u :: us)) _
      rw [VR_tuple]; exact ⟨_, rfl, r⟩
theorem evF1_ok {D : Nat → Array Oper → AC} (hD : DrawOk P D) {call : CallT} (good : Good P call) (N : Nat) : Good P (evF1 (progS P D) N call) := fun f args h v h' μ w cargs e hs r => by
  obtain ⟨af, hf, e1⟩ := ocase_inv (show ocase RV.no (fun fn => bc (Nat.ble (len args) fn.ntmps) (finish fn.results (evC call N fn.body (frame0 args) h)) .no) (progS P D f) = .ok v h' from e) nofun
  obtain ⟨hle, e2⟩ := ble_inv e1 nofun
  unfold progS at hf
  cases hfn : P.funcs[f]? with
  | none => rw [hfn] at hf; cases hf
  | some fn =>
    rw [hfn] at hf
    have hf : compF P D fn = some af := hf
    unfold compF at hf
    split at hf
    · cases hf
    rename_i hname
    split at hf
    · rename_i c rs hb hrs
      cases hf
      refine ⟨⟨fn, c, hfn, hname, hb⟩, calls_of_wp hfn hb ?_⟩
      have hlen : cargs.size = args.length := by have := r.length; simpa using this
      have hle : args.length ≤ fn.ntmps := by rw [len_eq] at hle; exact hle
      have st : At μ h w fn.ntmps (frame0 args) h { tmps := cargs ++ Array.replicate (fn.ntmps - cargs.size) Go.undef, defers := [] } w :=
        ⟨⟨μ, frame0_ok r _, hs, .refl hs⟩, rfl, by simp; omega⟩
      have fin : ∀ (t1 : T) (h1 : Hp), results rs t1 h1 = .ok v h' → ∀ a1 w1, At μ h w fn.ntmps t1 h1 a1 w1 → a1.defers = [] ∧ ∃ y, (Go.results fn a1.tmps).run P w1 = .ok y w1 ∧ CallR μ h w v h' (.returned y) w1 := fun t1 h1 er a1 w1 st1 => by
        obtain ⟨μ1, r1, hs1, g1⟩ := st1.ex
        obtain ⟨vs, xs, h3, h4, h5⟩ := results_ok (P := P) hs1 r1 hrs (show evRs rs t1 h1 RV.no (fun vs => .ok (retOf vs) h1) = .ok v h' from er) nofun
        cases h3
        refine ⟨st1.defers, _, ?_, μ1, _, rfl, retOf_ok h4, hs1, g1⟩
        have hm : (fn.results.mapM (resOf a1.tmps)).run P w1 = .ok xs.toArray w1 := run_mapM_array _ _ _ h5
        have hdef : Go.results fn a1.tmps = (do let vs ← fn.results.mapM (resOf a1.tmps); pure (if h : vs.size = 1 then vs[0] else .tuple vs)) := rfl
        rw [hdef]
        simp only [Sem.run_bind, hm, Result.andThen_ok, Sem.run_pure]
      refine code_ok hD good c _ _ h _ w (N := N) (n := fn.ntmps) (μ0 := μ) (h0 := h) (w0 := w) ?_ st
      show Post μ h w fn.ntmps _ (evC call N (compC P D fn.ntmps c) (frame0 args) h)
      have e2 : finish rs (evC call N (compC P D fn.ntmps c) (frame0 args) h) = .ok v h' := e2
      cases e3 : evC call N (compC P D fn.ntmps c) (frame0 args) h with
      | no => rw [e3] at e2; cases e2
      | nor t1 h1 => rw [e3] at e2; exact fun a1 w1 st1 => fin t1 h1 e2 a1 w1 st1
      | exit i t1 h1 => rw [e3] at e2; cases e2
      | ret t1 h1 => rw [e3] at e2; exact fun a1 w1 st1 => fin t1 h1 e2 a1 w1 st1
    · cases hf
theorem evF_ok {D : Nat → Array Oper → AC} (hD : DrawOk P D) {M : Nat → Option (List AV → Hp → RV)} (hM : Good P fun f args h => ocase .no (fun m => m args h) (M f)) (N : Nat) : ∀ d, Good P (evF M (progS P D) N d)
  | 0 => fun f args h v h' μ w cargs e hs r => by cases e
  | d + 1 => fun f args h v h' μ w cargs e hs r => by
    have e : ocase (evF1 (progS P D) N (evF M (progS P D) N d) f args h) (fun m => m args h) (M f) = .ok v h' := e
    cases hm : M f with
    | none =>
      rw [hm] at e
      exact evF1_ok hD (evF_ok hD hM N d) N f args h v h' μ w cargs e hs r
    | some m =>
      rw [hm] at e
      exact hM f args h v h' μ w cargs (show ocase RV.no (fun m => m args h) (M f) = .ok v h' by rw [hm]; exact e) hs r
end
end Eng
end
section
set_option linter.unusedVariables false
namespace Eng
open Go Go.RowKit
section
variable {P : Program} {μ μ' : Mp} {h h' : Hp} {w w' : World}
def Mp.none : Mp := ⟨fun _ => Option.none, fun _ => false, fun _ => 0⟩
theorem Sim.none (w : World) : Sim Mp.none H0 w :=
  ⟨fun _ _ => rfl, fun b _ => tget_lf _, nofun, nofun, nofun, nofun⟩
def noM (_ : Nat) : Option (List AV → Hp → RV) := Option.none
theorem noM_ok : Good P fun f args h => ocase .no (fun m => m args h) (noM f) := fun f args h v h' μ w cargs e hs r => by cases e
noncomputable def isTrue (r : RV) : Bool := r.cs false fun v _ => (avB v).cs false fun b => b
theorem isTrue_inv {r : RV} (h : isTrue r = true) : ∃ h', r = .ok (.bool true) h' := by
  cases r with
  | no => cases h
  | ok v h' =>
    cases v <;> first | (cases h; done) | skip
    rename_i b
    have h : b = true := h
    subst h
    exact ⟨h', rfl⟩
theorem Goes.below (g : Goes Mp.none h w μ' h' w') : Below w.heap.size w w' := ⟨g.os, g.tape, g.output, g.heap, fun k hk => g.kept k hk rfl⟩
theorem closed_law {D : Nat → Array Oper → AC} (hD : DrawOk P D) {M : Nat → Option (List AV → Hp → RV)} (hM : Good P fun f args h => ocase .no (fun m => m args h) (M f)) (N d f : Nat) (w : World)
    (args : List AV) (cargs : Array Value) (r : VRs Mp.none args cargs.toList) (e : isTrue (evF M (progS P D) N d f args H0) = true) :
    Calls P f cargs w fun e w' => e = .returned (.bool true) ∧ Below w.heap.size w w' := by
  obtain ⟨h', e1⟩ := isTrue_inv e
  refine (evF_ok hD hM N d f args H0 _ h' Mp.none w cargs e1 (.none w) r).2.mono fun e w' hR => ?_
  obtain ⟨μ', y, rfl, ry, hs, g⟩ := hR
  rw [VR_bool] at ry
  subst ry
  exact ⟨rfl, g.below⟩
end
end Eng
end
section
set_option linter.unusedVariables false
set_option linter.unusedSimpArgs false
namespace Eng
open Go Go.RowKit
def count (l : Array Bool) : Nat := (l.toList.filter id).length
theorem count_set {l : Array Bool} {i : Nat} (h : l.getD i true = false) : count (l.setIfInBounds i true) = count l + 1 := by
  unfold count
  rw [Array.toList_setIfInBounds]
  have hlt : i < l.toList.length := by
    rcases Nat.lt_or_ge i l.size with h' | h'
    · simpa using h'
    · simp [Array.getElem?_eq_none h'] at h
  have hi : l.toList[i]? = some false := by
    rw [Array.getElem?_toList, Array.getElem?_eq_getElem (by simpa using hlt)]
    have : l[i]'(by simpa using hlt) = false := by simpa [Array.getElem?_eq_getElem (by simpa using hlt : i < l.size)] using h
    rw [this]
  generalize l.toList = m at *
  clear h
  induction m generalizing i with
  | nil => simp at hi
  | cons b m ih =>
    cases i with
    | zero => simp at hi; subst hi; simp
    | succ i =>
      simp at hi
      have := ih (by simpa using hlt) hi
      cases b <;> simp [this]
theorem count_le (l : Array Bool) : count l ≤ l.size := by
  unfold count
  have := List.length_filter_le (id : Bool → Bool) l.toList
  simpa using this
theorem count_full {l : Array Bool} (h : count l = l.size) (i : Nat) : l.getD i true = true := by
  unfold count at h
  have h' : (l.toList.filter id).length = l.toList.length := by simpa using h
  have := List.filter_eq_self.1 (List.Sublist.eq_of_length List.filter_sublist h')
  rcases Nat.lt_or_ge i l.size with hlt | hge
  · have hm := this (l[i]) (by simp)
    simp [Array.getElem?_eq_getElem hlt]; simpa using hm
  · simp [Array.getElem?_eq_none hge]
section
variable {P : Program} {md : Region.Mode} {ops : Array Oper}
def Ends (md : Region.Mode) (ops : Array Oper) : Prop := ∀ listed : Array Bool, listed.size = ops.size → Region.ready md ops listed = [] → ∀ i, listed.getD i true = true
theorem go_count (listed : Array Bool) (hs : listed.size = ops.size) (hstuck : Region.ready md ops listed = []) : ∀ (fuel t : Nat) (l : Array Bool), l.size = ops.size → (∀ i, l.getD i false = true → listed.getD i false = true) →
    (Region.linearise.go md ops fuel t l []).length + count l ≤ count listed
  | 0, t, l, hl, hle => by
    simp only [Region.linearise.go, List.reverse_nil, List.length_nil, Nat.zero_add]
    unfold count
    have key : ∀ (a b : List Bool), a.length = b.length → (∀ i : Nat, a[i]? = some true → b[i]? = some true) → (a.filter id).length ≤ (b.filter id).length := by
      intro a
      induction a with
      | nil => intro b _ _; simp
      | cons x a ih =>
        intro b hlen hb
        cases b with
        | nil => simp at hlen
        | cons y b =>
          have h1 := ih b (by simpa using hlen) (fun i hi => by simpa using hb (i + 1) (by simpa using hi))
          have h2 := hb 0
          cases x <;> cases y <;> simp at h2 ⊢ <;> omega
    refine key _ _ (by simp [hl, hs]) fun i hi => ?_
    have := hle i (by rw [Array.getElem?_toList] at hi; simp [hi])
    rw [Array.getElem?_toList]
    cases hg : listed[i]? with
    | none => simp [hg] at this
    | some b => simp [hg] at this; rw [this]
  | fuel + 1, t, l, hl, hle => by
    simp only [Region.linearise.go]
    change (match (Region.ready md ops l)[t % (Region.ready md ops l).length]? with
      | some i => Region.linearise.go md ops fuel (t / (Region.ready md ops l).length) (l.setIfInBounds i true) [i]
      | none => [].reverse).length + count l ≤ count listed
    cases hi : (Region.ready md ops l)[t % (Region.ready md ops l).length]? with
    | none => have := go_count listed hs hstuck 0 t l hl hle; simpa [Region.linearise.go] using this
    | some i =>
      simp only []
      have hr := List.mem_of_getElem? hi
      obtain ⟨h0, o, ho, hall⟩ := mem_ready.1 hr
      have hin : listed.getD i false = true := by
        by_cases hc : listed.getD i true = false
        · exfalso
          have : i ∈ Region.ready md ops listed := mem_ready.2 ⟨hc, o, ho, fun e he hb => hle _ (hall e he hb)⟩
          rw [hstuck] at this; cases this
        · have hlt : i < listed.size := by rw [hs]; exact (Array.getElem?_eq_some_iff.1 ho).1
          simp [Array.getElem?_eq_getElem hlt] at hc ⊢
          exact hc
      rw [linearise_go_acc]
      have := go_count listed hs hstuck fuel (t / (Region.ready md ops l).length) (l.setIfInBounds i true) (by simpa using hl) (fun j hj => by
        by_cases hij : i = j
        · subst hij; exact hin
        · rw [getD_set_ne false hij] at hj; exact hle j hj)
      rw [count_set h0] at this
      simp only [List.reverse_singleton, List.length_append, List.length_singleton]
      omega
theorem ends_gc (h : (Region.linearise .gc ops 0).length = ops.size) : Ends .gc ops := fun listed hs hstuck => by
  have := go_count (md := .gc) listed hs hstuck ops.size 0 (Array.replicate ops.size false) (by simp) (fun i hi => by
    rw [Array.getD_eq_getD_getElem?, Array.getElem?_replicate] at hi
    split at hi <;> simp at hi)
  have h2 : (Region.linearise.go .gc ops ops.size 0 (Array.replicate ops.size false) []).length = ops.size := h
  have h3 := count_le listed
  exact count_full (by omega)
theorem forward_spec : ∀ {os : List Oper} {k : Nat}, forward os k = true → ∀ (j : Nat) (o : Oper), os[j]? = some o → ∀ e ∈ o.after, Region.binds .text e = true → e.on < k + j
  | [], k, _, j, o, ho => by simp at ho
  | o0 :: os, k, h, j, o, ho => by
    simp only [forward, Bool.and_eq_true, List.all_eq_true] at h
    cases j with
    | zero =>
      simp at ho; subst ho
      intro e he hb
      have := h.1 e (by simpa using he)
      rw [hb] at this
      simp at this
      have h2 : Nat.blt e.on k = true := by simpa using this
      have := Nat.le_of_ble_eq_true (show Nat.ble (e.on + 1) k = true from h2)
      omega
    | succ j =>
      intro e he hb
      have := forward_spec h.2 j o (by simpa using ho) e he hb
      omega
theorem binds_any_text {e : Edge} (h : Region.binds .any e = true) : Region.binds .text e = true := by
  unfold Region.binds at *; split <;> simp_all
theorem binds_any_gc {e : Edge} (h : Region.binds .any e = true) : Region.binds .gc e = true := by
  unfold Region.binds at *; split <;> simp_all
theorem ends_forward (hf : forward ops.toList 0 = true) (hm : ∀ e, Region.binds md e = true → Region.binds .text e = true) : Ends md ops := fun listed hs hstuck => by
  have key : ∀ n i, i < n → listed.getD i true = true := by
    intro n
    induction n with
    | zero => intro i hi; omega
    | succ n ih =>
      intro i hi
      by_cases hin : i < n
      · exact ih i hin
      · obtain rfl : i = n := by omega
        by_cases hc : listed.getD i true = false
        · exfalso
          have hlt : i < ops.size := by
            rcases Nat.lt_or_ge i listed.size with h' | h'
            · omega
            · simp [Array.getElem?_eq_none h'] at hc
          have : i ∈ Region.ready md ops listed := mem_ready.2 ⟨hc, ops[i], Array.getElem?_eq_getElem hlt, fun e he hb => by
            have h1 := forward_spec hf i ops[i] (by rw [Array.getElem?_toList, Array.getElem?_eq_getElem hlt]) e he (hm e hb)
            have h2 := ih e.on (by omega)
            have h3 : e.on < listed.size := by omega
            simp [Array.getElem?_eq_getElem h3] at h2 ⊢
            exact h2⟩
          rw [hstuck] at this; cases this
        · simpa using hc
  exact fun i => key (i + 1) i (by omega)
theorem wp_drawn {id : Nat} {Q : Exit → Act → World → Prop} {a : Act} {w : World} (hf : forward ops.toList 0 = true) (he : endsOk ops = true)
    (h : ∀ md, Ends md ops → wpAny P md ops Q ops.size (Array.replicate ops.size false) a { w with drawn := w.drawn + 1 }) : (Code.region id ops true).wp P Q a w := by
  refine wp_region_draw fun t => ?_
  have hany : Ends .any ops := ends_forward hf fun e => binds_any_text
  have htext : Ends .text ops := ends_forward hf fun e h => h
  unfold Region.schedule
  split
  · exact wpAny_sound ops.size t _ a _ (h .any hany)
  · rename_i hd
    split
    · exact wpAny_sound ops.size _ _ a _ (h .text htext)
    · refine wpAny_sound ops.size _ _ a _ (h .gc (ends_gc ?_))
      unfold endsOk at he
      simp only [Bool.or_eq_true, Bool.not_eq_true'] at hd he
      rcases he with he | he
      · exact absurd (Or.inr he) hd
      · exact Nat.eq_of_beq_eq_true he
theorem ancs_go : ∀ (os : List Oper) (acc : List Nat), (ancs os acc).length = acc.length + os.length ∧ (∀ i, i < acc.length → (ancs os acc).getD i 0 = acc.getD i 0) ∧
    ∀ (j : Nat) (o : Oper), os[j]? = some o → ∀ l, ((ancs os acc).getD (acc.length + j) 0).testBit l = true → ∃ e ∈ o.after, Region.binds .any e = true ∧ (l = e.on ∨ ((ancs os acc).getD e.on 0).testBit l = true)
  | [], acc => ⟨by simp [ancs], fun _ _ => rfl, fun j o ho => by simp at ho⟩
  | o0 :: os, acc => by
    obtain ⟨h1, h2, h3⟩ := ancs_go os (acc ++ [o0.after.toList.foldl (fun s e => if Region.binds .any e then s ||| 2 ^ e.on ||| acc.getD e.on 0 else s) 0])
    have hunf : ancs (o0 :: os) acc = ancs os (acc ++ [o0.after.toList.foldl (fun s e => if Region.binds .any e then s ||| 2 ^ e.on ||| acc.getD e.on 0 else s) 0]) := rfl
    rw [hunf]
    have hpre : ∀ i, i < acc.length → (ancs os (acc ++ [o0.after.toList.foldl (fun s e => if Region.binds .any e then s ||| 2 ^ e.on ||| acc.getD e.on 0 else s) 0])).getD i 0 = acc.getD i 0 := fun i hi => by
      rw [h2 i (by simp; omega)]
      simp [List.getElem?_append_left hi]
    refine ⟨by rw [h1]; simp; omega, hpre, fun j o ho l hl => ?_⟩
    cases j with
    | zero =>
      simp at ho; subst ho
      rw [Nat.add_zero, h2 acc.length (by simp)] at hl
      have hfold : ∀ (es : List Edge) (s : Nat), (es.foldl (fun s e => if Region.binds .any e then s ||| 2 ^ e.on ||| acc.getD e.on 0 else s) s).testBit l = true →
          s.testBit l = true ∨ ∃ e ∈ es, Region.binds .any e = true ∧ (l = e.on ∨ (acc.getD e.on 0).testBit l = true) := by
        intro es
        induction es with
        | nil => intro s hs; exact .inl hs
        | cons e es ih =>
          intro s hs
          rw [List.foldl_cons] at hs
          rcases ih _ hs with h | ⟨e', he', hb, hh⟩
          · split at h
            · rename_i hb
              rw [Nat.testBit_or, Nat.testBit_or] at h
              simp only [Bool.or_eq_true] at h
              rcases h with (h | h) | h
              · exact .inl h
              · refine .inr ⟨e, by simp, hb, .inl ?_⟩
                rw [Nat.testBit_two_pow] at h
                simpa using (of_decide_eq_true h).symm
              · exact .inr ⟨e, by simp, hb, .inr h⟩
            · exact .inl h
          · exact .inr ⟨e', by simp [he'], hb, hh⟩
      have hl : (o0.after.toList.foldl (fun s e => if Region.binds .any e then s ||| 2 ^ e.on ||| acc.getD e.on 0 else s) 0).testBit l = true := by
        rw [List.getD_eq_getElem?_getD, List.getElem?_append_right (Nat.le_refl _)] at hl
        simpa only [Nat.sub_self, List.getElem?_cons_zero, Option.getD_some] using hl
      rcases hfold _ _ hl with h | ⟨e, he, hb, hh⟩
      · simp at h
      · refine ⟨e, by simpa using he, hb, ?_⟩
        rcases hh with hh | hh
        · exact .inl hh
        · right
          have hlt : e.on < acc.length := by
            rcases Nat.lt_or_ge e.on acc.length with h' | h'
            · exact h'
            · simp [List.getElem?_eq_none h'] at hh
          rw [hpre _ hlt]; exact hh
    | succ j =>
      have := h3 j o (by simpa using ho) l (by
        have : (acc ++ [o0.after.toList.foldl (fun s e => if Region.binds .any e then s ||| 2 ^ e.on ||| acc.getD e.on 0 else s) 0]).length + j = acc.length + (j + 1) := by simp; omega
        rw [this]; exact hl)
      exact this
theorem numbered_mem {n : Nat} : ∀ {os : List Oper} {asq : List Nat} {k : Nat} {x : NO}, x ∈ numbered P n ops os asq k → ∃ j o, os[j]? = some o ∧ j < asq.length ∧ x = ⟨k + j, compO P n ops o, asq.getD j 0, o⟩
  | [], asq, k, x, h => by simp [numbered] at h
  | o :: os, [], k, x, h => by simp [numbered] at h
  | o :: os, a :: asq, k, x, h => by
    rw [show numbered P n ops (o :: os) (a :: asq) k = ⟨k, compO P n ops o, a, o⟩ :: numbered P n ops os asq (k + 1) from rfl, List.mem_cons] at h
    rcases h with rfl | h
    · exact ⟨0, o, rfl, by simp, by simp⟩
    · obtain ⟨j, o', h1, h2, rfl⟩ := numbered_mem h
      exact ⟨j + 1, o', by simpa using h1, by simpa using h2, by simp; omega⟩
theorem numbered_get {n : Nat} : ∀ {os : List Oper} {asq : List Nat} {k : Nat} (j : Nat) (o : Oper), os[j]? = some o → j < asq.length → (⟨k + j, compO P n ops o, asq.getD j 0, o⟩ : NO) ∈ numbered P n ops os asq k
  | [], asq, k, j, o, h, _ => by simp at h
  | o :: os, [], k, j, _, _, h => by simp at h
  | o0 :: os, a :: asq, k, j, o, h, hlt => by
    rw [show numbered P n ops (o0 :: os) (a :: asq) k = ⟨k, compO P n ops o0, a, o0⟩ :: numbered P n ops os asq (k + 1) from rfl, List.mem_cons]
    cases j with
    | zero => simp at h; subst h; left; simp
    | succ j =>
      right
      have := numbered_get (n := n) (k := k + 1) (asq := asq) j o (by simpa using h) (by simpa using hlt)
      have e : k + 1 + j = k + (j + 1) := by omega
      rw [e] at this
      simpa using this
end
end Eng
end
section
set_option linter.unusedVariables false
set_option linter.unusedSimpArgs false
namespace Eng
open Go Go.RowKit
inductive Tra (call : CallT) : List It → T → Hp → List PD → T → Hp → Prop
  | last {n t h ps r} : readAgain ps n h = true → Tra call (.last n :: r) t h ps t h
  | skip {n hi q r t h ps t' h'} : wanted q.o.guard t = false → Tra call r (putT q.o.dst undef t) h ps t' h' → Tra call (.op n hi q :: r) t h ps t' h'
  | quiet {n hi q r t h ps t' h' f v} : wanted q.o.guard t = true → q.o.op = .q f → evQ f t h = .ok v → Tra call r (putT q.o.dst v t) h (⟨f, t, v, hi⟩ :: ps) t' h' → Tra call (.op n hi q :: r) t h ps t' h'
  | alloc {n hi q r t h ps t' h' f m x} : wanted q.o.guard t = true → q.o.op = .l f → evL f t = .ok m x → Tra call r (putT q.o.dst (mkAt m h.next) t) (hpush h x) ps t' h' → Tra call (.op n hi q :: r) t h ps t' h'
  | eff {n e r t h ps t1 h1 t' h'} : readAgain ps n h = true → evO call e.o t h = .ok t1 h1 → Tra call r t1 h1 ps t' h' → Tra call (.eff n e :: r) t h ps t' h'
theorem stageOs_tra {call : CallT} {t' : T} {h' : Hp} {n : Nat} {tail : List It} {k : T → Hp → List PD → RT} (hk : ∀ t1 h1 ps1, k t1 h1 ps1 = .ok t' h' → Tra call tail t1 h1 ps1 t' h') :
    ∀ (qs : List (NO × Nat)) (t : T) (h : Hp) (ps : List PD), stageOs (qs.map fun q => (q.1.o, q.2)) t h ps k = .ok t' h' → Tra call (qs.map (fun q => It.op n q.2 q.1) ++ tail) t h ps t' h'
  | [], t, h, ps, e => hk t h ps e
  | q :: qs, t, h, ps, e => by
    have e : bc (wanted q.1.o.guard t) (q.1.o.op.cs
      (fun f => quietO f q.1.o.dst q.2 t h ps fun t h ps => stageOs (qs.map fun q => (q.1.o, q.2)) t h ps k)
      (fun l => (evL l t).then fun m x => stageOs (qs.map fun q => (q.1.o, q.2)) (putT q.1.o.dst (mkAt m h.next) t) (hpush h x) ps k)
      (fun _ => .no)) (stageOs (qs.map fun q => (q.1.o, q.2)) (putT q.1.o.dst undef t) h ps k) = .ok t' h' := e
    show Tra call (It.op n q.2 q.1 :: (qs.map (fun q => It.op n q.2 q.1) ++ tail)) t h ps t' h'
    cases hw : wanted q.1.o.guard t with
    | false =>
      rw [hw] at e
      exact .skip hw (stageOs_tra hk qs _ _ _ e)
    | true =>
      rw [hw] at e
      cases ho : q.1.o.op with
      | q f =>
        rw [ho] at e
        obtain ⟨v, hv, e1⟩ := ov_then (show (evQ f t h).then (fun v => stageOs (qs.map fun q => (q.1.o, q.2)) (putT q.1.o.dst v t) h (⟨f, t, v, q.2⟩ :: ps) k) = .ok t' h' from e)
        exact .quiet hw ho hv (stageOs_tra hk qs _ _ _ e1)
      | l f =>
        rw [ho] at e
        obtain ⟨m, x, hm, e1⟩ := ol_then (show (evL f t).then (fun m x => stageOs (qs.map fun q => (q.1.o, q.2)) (putT q.1.o.dst (mkAt m h.next) t) (hpush h x) ps k) = .ok t' h' from e)
        exact .alloc hw ho hm (stageOs_tra hk qs _ _ _ e1)
      | e f => rw [ho] at e; cases e
theorem evDs_tra {call : CallT} {t' : T} {h' : Hp} : ∀ (st : List (List (NO × Nat) × Option NO)) (n : Nat) (t : T) (h : Hp) (ps : List PD),
    evDs call (st.map fun s => ⟨s.1.map fun q => (q.1.o, q.2), s.2.map (·.o)⟩) n t h ps = .ok t' h' → Tra call (flat n st) t h ps t' h'
  | [], n, t, h, ps, e => by cases e
  | (qs, eo) :: st, n, t, h, ps, e => by
    have e : stageOs (qs.map fun q => (q.1.o, q.2)) t h ps (fun t h ps =>
      bc (readAgain ps n h) (ocase (.ok t h) (fun e => (evO call e t h).then fun t h => evDs call (st.map fun s => ⟨s.1.map fun q => (q.1.o, q.2), s.2.map (·.o)⟩) (Nat.succ n) t h ps) (eo.map (·.o))) .no) = .ok t' h' := e
    cases eo with
    | none =>
      refine stageOs_tra (tail := [It.last n]) (fun t1 h1 ps1 e1 => ?_) qs t h ps e
      obtain ⟨hr, e2⟩ := bc_inv e1 nofun
      cases e2
      exact .last hr
    | some x =>
      refine stageOs_tra (tail := It.eff n x :: flat (n + 1) st) (fun t1 h1 ps1 e1 => ?_) qs t h ps e
      obtain ⟨hr, e2⟩ := bc_inv e1 nofun
      obtain ⟨t2, h2, e3, e4⟩ := rt_then (show (evO call x.o t1 h1).then (fun t h => evDs call (st.map fun s => ⟨s.1.map fun q => (q.1.o, q.2), s.2.map (·.o)⟩) (Nat.succ n) t h ps1) = .ok t' h' from e2)
      exact .eff hr e3 (evDs_tra st (n + 1) t2 h2 ps1 e4)
def Wr (ops : Array Oper) (j d : Nat) : Prop := ∃ o, ops[j]? = some o ∧ o.dst = some d
structure Static (P : Program) (n : Nat) (ops : Array Oper) (A : Nat → Nat) : Prop where
  uniq : ∀ i j d, Wr ops i d → Wr ops j d → i = j
  order : ∀ i j d o, ops[i]? = some o → Operand.tmp d ∈ o.op.operands.toList → Wr ops j d → i ≠ j ∧ ((A i).testBit j = true ∨ (A j).testBit i = true)
  guard : ∀ i o g want, ops[i]? = some o → o.guard = some (g, want) → (A i).testBit g = true
  anc : ∀ i o l, ops[i]? = some o → (A i).testBit l = true → ∃ e ∈ o.after, Region.binds .any e = true ∧ (l = e.on ∨ (A e.on).testBit l = true)
structure Rec (P : Program) (n : Nat) (ops : Array Oper) (A : Nat → Nat) (es : List NO) (h0 : Hp) (t0 : T) (fr : T) (v : AV) (b : Nat) (al : Bool) (t : T) (h : Hp) (ps : List PD) (μ : Mp) (i : Nat) (o : Oper) (g : Option (Nat × Bool)) : Prop where
  op : ops[i]? = some o
  grd : compGuard ops o.guard = some g
  lt : ∀ d, o.dst = some d → d < n
  dst : ∀ d, o.dst = some d → evX (.tmp d) t = v
  fr1 : ∀ d j, Wr ops j d → (A i).testBit j = true → evX (.tmp d) fr = evX (.tmp d) t
  fr2 : ∀ d j, Operand.tmp d ∈ o.op.operands.toList → Wr ops j d → (A i).testBit j = false → evX (.tmp d) fr = evX (.tmp d) t0
  fr3 : ∀ d, (∀ j, ¬ Wr ops j d) → evX (.tmp d) fr = evX (.tmp d) t0
  kind : (wanted g fr = false ∧ v = undef) ∨ (wanted g fr = true ∧
    ((∃ f hi, compOp P o.op = .q f ∧ (⟨f, fr, v, hi⟩ : PD) ∈ ps ∧ ∀ e, es[hi]? = some e → (A e.i).testBit i = true) ∨
     (∃ f m x, compOp P o.op = .l f ∧ evL f fr = .ok m x ∧ v = mkAt m b ∧ μ.at_ b = none ∧ (∀ y, hget h b = some y → y = x) ∧ b < h.next ∧ h0.next ≤ b ∧ al = true)))
structure Mid (P : Program) (n : Nat) (ops : Array Oper) (A : Nat → Nat) (es : List NO) (μ0 : Mp) (h0 : Hp) (w0 : World) (t0 : T) (s : Nat) (fr : Nat → T) (v : Nat → AV) (bk : Nat → Nat) (al : Nat → Bool) (t : T) (h : Hp) (ps : List PD)
    (D : Nat → Prop) (μ : Mp) (a : Act) (w : World) : Prop where
  sub : ∀ i, D i → s.testBit i = true
  down : ∀ i, D i → ∀ l, (A i).testBit l = true → D l
  sdown : ∀ i, s.testBit i = true → ∀ l, (A i).testBit l = true → s.testBit l = true
  late : ∀ d j, Wr ops j d → ¬ D j → VR μ (evX (.tmp d) t0) (a.tmps.getD d Go.undef)
  done : ∀ d, (∀ j, Wr ops j d → D j) → VR μ (evX (.tmp d) t) (a.tmps.getD d Go.undef)
  same : ∀ d, (∀ j, Wr ops j d → s.testBit j = false) → evX (.tmp d) t = evX (.tmp d) t0
  recs : ∀ i, s.testBit i = true → ¬ D i → ∃ o g, Rec P n ops A es h0 t0 (fr i) (v i) (bk i) (al i) t h ps μ i o g
  apart : ∀ i j, s.testBit i = true → ¬ D i → s.testBit j = true → ¬ D j → al i = true → al j = true → i ≠ j → bk i ≠ bk j
  bkl : ∀ i, s.testBit i = true → ¬ D i → al i = true → bk i < h.next
  sim : Sim μ h w
  goes : Goes μ0 h0 w0 μ h w
  defers : a.defers = []
  size : a.tmps.size = n
section
variable {P : Program} {n : Nat} {ops : Array Oper} {A : Nat → Nat} {es : List NO} {μ0 : Mp} {h0 : Hp} {w0 : World} {t0 : T} {s : Nat} {fr : Nat → T} {v : Nat → AV} {bk : Nat → Nat} {al : Nat → Bool} {t t' : T} {h h' : Hp} {ps : List PD}
  {D : Nat → Prop} {μ : Mp} {a : Act} {w : World}
noncomputable def laid (x : Option Blk) (h : Hp) : Hp := match x with
  | some y => hpush h y
  | none => h
theorem evX_put {d : Option Nat} {u : AV} {i : Nat} (hd : d ≠ some i) : evX (.tmp i) (putT d u t) = evX (.tmp i) t := by
  cases d with
  | none => rfl
  | some d =>
    show evX (.tmp i) (tset (pathOf d) u t) = _
    rw [evX_tmp, evX_tmp, tget_tset_ne _ _ _ _ (fun e => hd (congrArg some (pathOf_inj e.symm)))]
theorem evX_put_self {i : Nat} {u : AV} : evX (.tmp i) (putT (some i) u t) = u := by
  show evX (.tmp i) (tset (pathOf i) u t) = _
  rw [evX_tmp, tget_tset]; rfl
theorem bit_or {s i j : Nat} : (s ||| 2 ^ i).testBit j = true ↔ s.testBit j = true ∨ j = i := by
  rw [Nat.testBit_or, Nat.testBit_two_pow, Bool.or_eq_true, decide_eq_true_eq]
  exact ⟨fun h => h.imp id Eq.symm, fun h => h.imp id Eq.symm⟩
theorem bits_sub {a s : Nat} (h : a &&& s = a) {l : Nat} (hl : a.testBit l = true) : s.testBit l = true := by
  rw [← h, Nat.testBit_and, Bool.and_eq_true] at hl
  exact hl.2
theorem Sim.ghost (hs : Sim μ h w) (x : Blk) : Sim μ (hpush h x) w := by
  have hnone : ∀ b, μ.at_ b ≠ Option.none → b ≠ h.next := fun b hb e => hb (by rw [e]; exact hs.lt _ (Nat.le_refl _))
  refine ⟨fun b hb => hs.lt b (Nat.le_of_succ_le hb), fun b hb => ?_, hs.old, fun b c s y e g => ?_, fun b b' c s s' y y' hne e e' ho g g' => ?_, fun b c s cs n p e g => ?_⟩
  · have hb : h.next + 1 ≤ b := hb
    rw [hget_hpush_ne _ _ (by omega)]; exact hs.fresh b (by omega)
  · rw [hget_hpush_ne _ _ (hnone b (by rw [e]; nofun))] at g; exact hs.blk b c s y e g
  · rw [hget_hpush_ne _ _ (hnone b (by rw [e]; nofun))] at g
    rw [hget_hpush_ne _ _ (hnone b' (by rw [e']; nofun))] at g'
    exact hs.apart b b' c s s' y y' hne e e' ho g g'
  · rw [hget_hpush_ne _ _ (hnone b (by rw [e]; nofun))] at g; exact hs.peer b c s cs n p e g
theorem Goes.ghosts (g : Goes μ0 h0 w0 μ h w) (x : Blk) : Goes μ0 h0 w0 μ (hpush h x) w :=
  ⟨Nat.le_succ_of_le g.next, g.at_, g.own, g.size, g.heap, g.kept, fun b hb hn => by
    have := g.next
    rw [hget_hpush_ne _ _ (by omega)]; exact g.ghost b hb hn, g.os, g.tape, g.output⟩
theorem absorb (st : Static P n ops A) (m : Mid P n ops A es μ0 h0 w0 t0 s fr v bk al t h ps D μ a w) {call : CallT} {k hi : Nat} {q : NO} {tail : List It} (tr : Tra call (.op k hi q :: tail) t h ps t' h')
    (hop : ops[q.i]? = some q.p) (hqo : q.o = compO P n ops q.p) (hsub : A q.i &&& s = A q.i) (hnew : s.testBit q.i = false) (hah : ∀ e, es[hi]? = some e → (A e.i).testBit q.i = true) :
    ∃ fr' v' bk' al' t1 h1 ps1, Tra call tail t1 h1 ps1 t' h' ∧ Mid P n ops A es μ0 h0 w0 t0 (s ||| 2 ^ q.i) fr' v' bk' al' t1 h1 ps1 D μ a w := by
  have hD : ¬ D q.i := fun hd => by rw [m.sub _ hd] at hnew; cases hnew
  have proper : q.o ≠ ⟨none, no, none⟩ → ∃ g, q.o = ⟨q.p.dst, compOp P q.p.op, g⟩ ∧ compGuard ops q.p.guard = some g ∧ ∀ i, q.p.dst = some i → i < n := fun hne => by
    rcases compO_inv (P := P) (n := n) (ops := ops) (o := q.p) with ⟨g, h1, h2, h3⟩ | h1
    · exact ⟨g, hqo.trans h1, h2, h3⟩
    · exact absurd (hqo.trans h1) hne
  have go : ∀ (g : Option (Nat × Bool)) (u : AV) (x : Option Blk) (ps1 : List PD), q.o = ⟨q.p.dst, compOp P q.p.op, g⟩ → compGuard ops q.p.guard = some g → (∀ i, q.p.dst = some i → i < n) → (∀ p ∈ ps, p ∈ ps1) →
      ((wanted g t = false ∧ u = undef ∧ x = none) ∨ (wanted g t = true ∧ ((∃ f hi, compOp P q.p.op = .q f ∧ (⟨f, t, u, hi⟩ : PD) ∈ ps1 ∧ (∀ e, es[hi]? = some e → (A e.i).testBit q.i = true) ∧ x = none) ∨
        ∃ f mk y, compOp P q.p.op = .l f ∧ evL f t = .ok mk y ∧ u = mkAt mk h.next ∧ x = some y))) →
      Mid P n ops A es μ0 h0 w0 t0 (s ||| 2 ^ q.i) (fun j => if j = q.i then t else fr j) (fun j => if j = q.i then u else v j) (fun j => if j = q.i then h.next else bk j) (fun j => if j = q.i then x.isSome else al j)
        (putT q.p.dst u t) (laid x h) ps1 D μ a w := fun g u x ps1 hq hg hlt hps hkind => by
    have hnext : h.next ≤ (laid x h).next := by cases x with | none => exact Nat.le_refl _ | some y => exact Nat.le_succ _
    have hold : ∀ b, b < h.next → hget (laid x h) b = hget h b := fun b hb => by
      cases x with
      | none => rfl
      | some y => exact hget_hpush_ne _ _ (by omega)
    have hwr : ∀ d, q.p.dst = some d → Wr ops q.i d := fun d hd => ⟨q.p, hop, hd⟩
    have hput : ∀ d j, Wr ops j d → j ≠ q.i → evX (.tmp d) (putT q.p.dst u t) = evX (.tmp d) t := fun d j hw hne => evX_put fun hd => hne (st.uniq _ _ _ hw (hwr d hd))
    refine ⟨fun i hi => bit_or.2 (.inl (m.sub i hi)), m.down, fun i hi l hl => ?_, m.late, fun d hd => ?_, fun d hd => ?_, fun i hi hDi => ?_, fun i j hi hDi hj hDj ai aj hne => ?_, fun i hi hDi ai => ?_, ?_, ?_, m.defers, m.size⟩
    · rcases bit_or.1 hi with hi | rfl
      · exact bit_or.2 (.inl (m.sdown i hi l hl))
      · exact bit_or.2 (.inl (bits_sub hsub hl))
    · rw [evX_put (fun hh => hD (hd _ (hwr d hh)))]
      exact m.done d hd
    · rw [evX_put (fun hh => by
        have := hd _ (hwr d hh)
        rw [bit_or.2 (.inr rfl)] at this; cases this)]
      refine m.same d fun j hj => ?_
      have := hd j hj
      cases hb : s.testBit j with
      | false => rfl
      | true => rw [bit_or.2 (.inl hb)] at this; cases this
    · by_cases hiq : i = q.i
      · subst hiq
        refine ⟨q.p, g, ?_⟩
        simp only [if_pos]
        refine ⟨hop, hg, hlt, fun d hd => by rw [hd]; exact evX_put_self, fun d j hw hb => ?_, fun d j hrd hw hb => ?_, fun d hnw => ?_, ?_⟩
        · have hne : j ≠ q.i := fun e => by
            subst e
            have := bits_sub hsub hb
            rw [hnew] at this; cases this
          exact (hput d j hw hne).symm
        · obtain ⟨hne, hor⟩ := st.order _ _ _ _ hop hrd hw
          have hji : (A j).testBit q.i = true := hor.resolve_left (by rw [hb]; nofun)
          refine m.same d fun j' hj' => ?_
          obtain rfl := st.uniq _ _ _ hj' hw
          cases hsj : s.testBit j' with
          | false => rfl
          | true => have := m.sdown _ hsj _ hji; rw [hnew] at this; cases this
        · exact m.same d fun j hj => absurd hj (hnw j)
        · rcases hkind with ⟨k1, k2, _⟩ | ⟨k1, ⟨f, hi, k2, k3, k4, _⟩ | ⟨f, mk, y, k2, k3, k4, k5⟩⟩
          · exact .inl ⟨k1, k2⟩
          · exact .inr ⟨k1, .inl ⟨f, hi, k2, k3, k4⟩⟩
          · subst k5
            exact .inr ⟨k1, .inr ⟨f, mk, y, k2, k3, k4, m.sim.lt _ (Nat.le_refl _), (fun z hz => by rw [show hget (laid (some y) h) h.next = some y from hget_hpush _ _] at hz; exact (Option.some.inj hz).symm), Nat.lt_succ_self _, m.goes.next, rfl⟩⟩
      · simp only [if_neg hiq]
        have hi := (bit_or.1 hi).resolve_right hiq
        obtain ⟨o, g', r⟩ := m.recs i hi hDi
        refine ⟨o, g', r.op, r.grd, r.lt, fun d hd => ?_, fun d j hw hb => ?_, r.fr2, r.fr3, ?_⟩
        · rw [hput d i ⟨o, r.op, hd⟩ hiq]; exact r.dst d hd
        · have hne : j ≠ q.i := fun e => by
            subst e
            have := m.sdown i hi _ hb
            rw [hnew] at this; cases this
          rw [hput d j hw hne]; exact r.fr1 d j hw hb
        · rcases r.kind with k | ⟨k1, ⟨f, hi, k2, k3, k4⟩ | ⟨f, mk, y, k2, k3, k4, k5, k6, k7, k8, k9⟩⟩
          · exact .inl k
          · exact .inr ⟨k1, .inl ⟨f, hi, k2, hps _ k3, k4⟩⟩
          · exact .inr ⟨k1, .inr ⟨f, mk, y, k2, k3, k4, k5, fun z hz => k6 z (by rw [← hold _ k7]; exact hz), Nat.lt_of_lt_of_le k7 hnext, k8, k9⟩⟩
    · by_cases hiq : i = q.i
      · subst hiq
        have hjq : j ≠ q.i := fun e => hne e.symm
        simp only [if_pos, if_neg hjq] at aj ⊢
        have := m.bkl j ((bit_or.1 hj).resolve_right hjq) hDj aj
        omega
      · by_cases hjq : j = q.i
        · subst hjq
          simp only [if_pos, if_neg hiq] at ai ⊢
          have := m.bkl i ((bit_or.1 hi).resolve_right hiq) hDi ai
          omega
        · simp only [if_neg hiq, if_neg hjq] at ai aj ⊢
          exact m.apart i j ((bit_or.1 hi).resolve_right hiq) hDi ((bit_or.1 hj).resolve_right hjq) hDj ai aj hne
    · by_cases hiq : i = q.i
      · subst hiq
        simp only [if_pos] at ai ⊢
        cases x with
        | none => cases ai
        | some y => exact Nat.lt_succ_self _
      · simp only [if_neg hiq] at ai ⊢
        exact Nat.lt_of_lt_of_le (m.bkl i ((bit_or.1 hi).resolve_right hiq) hDi ai) hnext
    · cases x with
      | none => exact m.sim
      | some y => exact m.sim.ghost y
    · cases x with
      | none => exact m.goes
      | some y => exact m.goes.ghosts y
  cases tr with
  | skip hw tr =>
    obtain ⟨g, hq, hg, hlt⟩ := proper (fun e => by rw [e] at hw; cases hw)
    rw [hq] at hw tr
    exact ⟨_, _, _, _, _, _, _, tr, go g undef none ps hq hg hlt (fun _ h => h) (.inl ⟨hw, rfl, rfl⟩)⟩
  | quiet hw hf hv tr =>
    rename_i f u
    obtain ⟨g, hq, hg, hlt⟩ := proper (fun e => by rw [e] at hf; cases hf; cases hv)
    rw [hq] at hw hf tr
    exact ⟨_, _, _, _, _, _, _, tr, go g u none _ hq hg hlt (fun _ h => List.mem_cons_of_mem _ h) (.inr ⟨hw, .inl ⟨f, hi, hf, List.mem_cons_self, hah, rfl⟩⟩)⟩
  | alloc hw hf hv tr =>
    rename_i f mk y
    obtain ⟨g, hq, hg, hlt⟩ := proper (fun e => by rw [e] at hf; cases hf)
    rw [hq] at hw hf tr
    exact ⟨_, _, _, _, _, _, _, tr, go g _ (some y) ps hq hg hlt (fun _ h => h) (.inr ⟨hw, .inr ⟨f, mk, y, hf, hv, rfl, rfl⟩⟩)⟩
end
end Eng
end
section
set_option linter.unusedVariables false
set_option linter.unusedSimpArgs false
namespace Eng
open Go Go.RowKit
noncomputable def avEqs (l m : List AV) : Bool := avEq (.agg l) (.agg m)
theorem bc_and {b c : Bool} : bc b c false = true ↔ b = true ∧ c = true := by cases b <;> simp [bc]
theorem bc_iff {b c : Bool} : bc b c (notB c) = true ↔ b = c := by cases b <;> cases c <;> simp [bc, notB]
mutual
theorem avEq_eq : ∀ (v u : AV), avEq v u = true → v = u
  | .bool b, u, e => by
    have e : u.asBool false (fun c => bc b c (notB c)) = true := e
    obtain ⟨c, rfl, e⟩ := asBool_inv e nofun
    rw [bc_iff.1 e]
  | .int k n, u, e => by
    have e : u.asInt false (fun k' m => bc (ikEq k k') (eqI n m) false) = true := e
    obtain ⟨k', m, rfl, e1⟩ := asInt_inv e nofun
    obtain ⟨rfl, e2⟩ := ikEq_inv e1 nofun
    rw [eqI_eq] at e2
    rw [eq_of_beq e2]
  | .str s, u, e => by
    have e : u.asStr false (fun r => strEq s r) = true := e
    obtain ⟨r, rfl, e1⟩ := asStr_inv e nofun
    rw [strEq_iff] at e1
    rw [of_decide_eq_true e1]
  | .nilPtr, u, e => by
    have e : (avP u).cs false true (fun _ _ => false) = true := e
    cases u <;> first | rfl | (cases e; done)
  | .ptr b o, u, e => by
    have e : (avP u).cs false false (fun b' o' => bc (Nat.beq b b') (Nat.beq o o') false) = true := e
    cases u <;> first | (cases e; done) | skip
    obtain ⟨h1, h2⟩ := bc_and.1 e
    rw [Nat.eq_of_beq_eq_true h1, Nat.eq_of_beq_eq_true h2]
  | .nilSlice, u, e => by
    have e : (avS u).cs false true (fun _ _ _ _ _ _ => false) = true := e
    cases u <;> first | rfl | (cases e; done)
  | .slice b o l c s x, u, e => by
    have e : (avS u).cs false false (fun b' o' l' c' s' e' => bc (Nat.beq b b') (bc (Nat.beq o o') (bc (Nat.beq l l') (bc (Nat.beq c c') (bc (Nat.beq s s') (bc x e' (notB e')) false) false) false) false) false) = true := e
    cases u <;> first | (cases e; done) | skip
    obtain ⟨h1, e⟩ := bc_and.1 e
    obtain ⟨h2, e⟩ := bc_and.1 e
    obtain ⟨h3, e⟩ := bc_and.1 e
    obtain ⟨h4, e⟩ := bc_and.1 e
    obtain ⟨h5, e⟩ := bc_and.1 e
    rw [Nat.eq_of_beq_eq_true h1, Nat.eq_of_beq_eq_true h2, Nat.eq_of_beq_eq_true h3, Nat.eq_of_beq_eq_true h4, Nat.eq_of_beq_eq_true h5, bc_iff.1 e]
  | .nilMap, u, e => by
    have e : (avM u).cs false true (fun _ => false) = true := e
    cases u <;> first | rfl | (cases e; done)
  | .map b, u, e => by
    have e : (avM u).cs false false (fun b' => Nat.beq b b') = true := e
    cases u <;> first | (cases e; done) | skip
    rw [Nat.eq_of_beq_eq_true e]
  | .func fn a b, u, e => by
    have e1 : (fnView fn a b).cs false false (fun f _ _ => (avF u).cs false false (fun f' a' b' => bc (Nat.beq f f') (bc (avEqs a a') (avEqs b b') false) false) false) false = true := e
    clear e
    cases fn <;> first | (cases e1; done) | skip
    rename_i f
    have e2 : (avF u).cs false false (fun f' a' b' => bc (Nat.beq f f') (bc (avEqs a a') (avEqs b b') false) false) false = true := e1
    clear e1
    cases u <;> first | (cases e2; done) | skip
    rename_i fn' a' b'
    cases fn' <;> first | (cases e2; done) | skip
    rename_i f'
    obtain ⟨h1, e3⟩ := bc_and.1 (show bc (Nat.beq f f') (bc (avEqs a a') (avEqs b b') false) false = true from e2)
    obtain ⟨h2, h3⟩ := bc_and.1 e3
    rw [Nat.eq_of_beq_eq_true h1, avEqs_eq a a' h2, avEqs_eq b b' h3]
  | .nilFunc, u, e => by
    have e1 : (avF u).cs false true (fun _ _ _ => false) false = true := e
    clear e
    cases u <;> first | rfl | (cases e1; done) | skip
    rename_i fn _ _
    cases fn <;> (cases e1; done)
  | .iface t x, u, e => by
    have e1 : (avIf u).cs false false (fun t' y => bc (Nat.beq t t') (avEq x y) false) = true := e
    clear e
    cases u <;> first | (cases e1; done) | skip
    rename_i t' y
    obtain ⟨h1, h2⟩ := bc_and.1 (show bc (Nat.beq t t') (avEq x y) false = true from e1)
    rw [Nat.eq_of_beq_eq_true h1, avEq_eq x y h2]
  | .nilIface, u, e => by
    have e : (avIf u).cs false true (fun _ _ => false) = true := e
    cases u <;> first | rfl | (cases e; done)
  | .agg l, u, e => by
    have e : u.asAgg false (avEqs l) = true := e
    obtain ⟨m, rfl, e1⟩ := asAgg_inv e nofun
    rw [avEqs_eq l m e1]
  | .tuple l, u, e => by
    have e : u.asTuple false (avEqs l) = true := e
    obtain ⟨m, rfl, e1⟩ := asTuple_inv e nofun
    rw [avEqs_eq l m e1]
theorem avEqs_eq : ∀ (l m : List AV), avEqs l m = true → l = m
  | [], [], _ => rfl
  | [], _ :: _, e => by cases e
  | _ :: _, [], e => by cases e
  | a :: l, b :: m, e => by
    obtain ⟨h1, h2⟩ := bc_and.1 (show bc (avEq a b) (avEqs l m) false = true from e)
    rw [avEq_eq a b h1, avEqs_eq l m h2]
end
section
variable {P : Program} {n : Nat} {ops : Array Oper} {A : Nat → Nat} {es : List NO} {μ0 : Mp} {h0 : Hp} {w0 : World} {t0 : T} {s : Nat} {fr : Nat → T} {v : Nat → AV} {bk : Nat → Nat} {al : Nat → Bool} {t t' t1 : T} {h h' h1 : Hp} {ps : List PD}
  {D : Nat → Prop} {μ : Mp} {a : Act} {w : World}
theorem again_ok {f : QOp} {u : AV} (e : again f t u h = true) : evQ f t h = .ok u := by
  unfold again at e
  cases hq : evQ f t h with
  | no => rw [hq] at e; cases e
  | ok x =>
    rw [hq] at e
    rw [avEq_eq u x e]
theorem getD_put {d : Option Nat} {y : Value} {i : Nat} (hd : d ≠ some i) : (a.put d y).tmps.getD i Go.undef = a.tmps.getD i Go.undef := by
  cases d with
  | none => rfl
  | some d => simp [Act.put, Array.getElem?_setIfInBounds_ne (fun e => hd (congrArg some e))]
theorem getD_put_self {y : Value} {i : Nat} (hi : i < a.tmps.size) : (a.put (some i) y).tmps.getD i Go.undef = y := by
  simp [Act.put, hi]
theorem eff_run {call : CallT} (good : Good P call) {o : Oper} {q : EOp} {u : AV} {h2 : Hp} (hs : Sim μ h w) (hx : Opnds μ t a.eval o.op.operands.toList) (hc : compOp P o.op = .e q) (hv : evE q call t h = .ok u h2)
    {next : Act → World → Prop} {Q : Exit → Act → World → Prop} (hn : ∀ μ' w' y, VR μ' u y → Sim μ' h2 w' → Goes μ h w μ' h2 w' → next (a.put o.dst y) w') : o.wp P a w next Q := by
  unfold Oper.wp
  by_cases hcall : ∃ f xs, q = .call f xs
  · obtain ⟨f, xs, rfl⟩ := hcall
    obtain ⟨c, g0, ho, hcal, hf, hxs⟩ := call_inv hc
    obtain ⟨fid, asq, bs, hfv, e2⟩ := asFunc_inv (show ((evX f t).asFunc RV.no fun g a b => call g (app a (app (evXs xs t) b)) h) = .ok u h2 from hv) nofun
    have rf := hx g0 (by rw [ho]; simp [Op.operands, Call.operands, hcal]) f hf
    rw [hfv, VR_func] at rf
    obtain ⟨as', bs', hg0, ra, rb⟩ := rf
    have rxs := compXs_map hxs hx (fun x hm => by rw [ho]; simp [Op.operands, Call.operands, hcal]; right; simpa using hm)
    rw [app_eq, app_eq] at e2
    have rall : VRs μ (asq ++ (evXs xs t ++ bs)) ((as' ++ c.args.map a.eval) ++ bs').toList := by
      rw [Array.toList_append, Array.toList_append, List.append_assoc]
      exact ra.append (rxs.append rb)
    obtain ⟨hent, hcalls⟩ := good fid _ h u h2 μ w _ e2 hs rall
    have hrun : (execOp a.eval o).run P w = .ok (.enter fid ((as' ++ c.args.map a.eval) ++ bs')) w := by
      unfold execOp
      rw [ho]
      simp only [resolve, hcal, hg0, Deferred.ofValue, Sem.run_bind, Sem.run_pure, Result.andThen_ok, invoke]
      exact run_callFunc hent _
    rw [hrun, Oper.upon_enter]
    refine hcalls.mono fun e w' hR => ?_
    obtain ⟨μ', y, rfl, ry, hs', g'⟩ := hR
    exact hn _ _ _ ry hs' g'
  · obtain ⟨μ', w', nx, hrun, g', hs', hval⟩ := effect_ok hs hc (fun f xs hh => hcall ⟨f, xs, hh⟩) hx hv
    rw [hrun]
    rcases hval with ⟨y, rfl, ry⟩ | ⟨rfl, rfl⟩
    · exact hn _ _ _ ry hs' g'
    · exact hn _ _ _ VR_undef hs' g'
theorem pend_ok (st : Static P n ops A) (m : Mid P n ops A es μ0 h0 w0 t0 s fr v bk al t h ps D μ a w) {k : Nat} (hread : readAgain ps k h = true) (hkl : k ≤ es.length) (hdone : ∀ j e, es[j]? = some e → j < k → D e.i)
    {i : Nat} (hsi : s.testBit i = true) (hDi : ¬ D i) (hready : ∀ l, (A i).testBit l = true → D l) {K : Act → World → Prop} {Q : Exit → Act → World → Prop}
    (hK : ∀ a' w' μ', Mid P n ops A es μ0 h0 w0 t0 s fr v bk al t h ps (fun j => D j ∨ j = i) μ' a' w' → K a' w') : wpOp P ops Q i K a w := by
  obtain ⟨o, g, r⟩ := m.recs i hsi hDi
  have hwi : ∀ d, Wr ops i d → o.dst = some d := fun d ⟨o', h1, h2⟩ => by rw [r.op] at h1; cases h1; exact h2
  have fin : ∀ (μ' : Mp) (w' : World) (y : Value), μ.Le μ' → Sim μ' h w' → Goes μ0 h0 w0 μ' h w' → (∀ j, s.testBit j = true → ¬ D j → j ≠ i → al j = true → μ.at_ (bk j) = Option.none → μ'.at_ (bk j) = Option.none) → VR μ' (v i) y → K (a.put o.dst y) w' := fun μ' w' y hle hs' g' hpend ry => by
    refine hK _ _ μ' ⟨fun j hj => hj.elim (m.sub j) (fun e => e ▸ hsi), fun j hj l hl => .inl (hj.elim (fun hj => m.down j hj l hl) (fun e => hready l (e ▸ hl))), m.sdown, fun d j hw hnd => ?_, fun d hd => ?_, m.same, fun j hj hnd => ?_,
      fun j j' hj hnd hj' hnd' => m.apart j j' hj (fun h => hnd (.inl h)) hj' (fun h => hnd' (.inl h)), fun j hj hnd => m.bkl j hj (fun h => hnd (.inl h)), hs', g', by rw [put_defers]; exact m.defers, by rw [put_size]; exact m.size⟩
    · have hne : j ≠ i := fun e => hnd (.inr e)
      rw [getD_put (fun hh => hne (st.uniq _ _ _ hw ⟨o, r.op, hh⟩))]
      exact (m.late d j hw fun h => hnd (.inl h)).mono hle _ _
    · by_cases hod : o.dst = some d
      · rw [r.dst d hod, hod, getD_put_self (by rw [m.size]; exact r.lt d hod)]
        exact ry
      · rw [getD_put hod]
        exact (m.done d fun j hj => (hd j hj).resolve_right fun e => hod (hwi d (e ▸ hj))).mono hle _ _
    · have hne : j ≠ i := fun e => hnd (.inr e)
      obtain ⟨o', g'', r'⟩ := m.recs j hj fun h => hnd (.inl h)
      refine ⟨o', g'', r'.op, r'.grd, r'.lt, r'.dst, r'.fr1, r'.fr2, r'.fr3, ?_⟩
      rcases r'.kind with k | ⟨k1, k2 | ⟨f, mk, y, k2, k3, k4, k5, k6, k7, k8, k9⟩⟩
      · exact .inl k
      · exact .inr ⟨k1, .inl k2⟩
      · exact .inr ⟨k1, .inr ⟨f, mk, y, k2, k3, k4, hpend j hj (fun h => hnd (.inl h)) hne k9 k5, k6, k7, k8, k9⟩⟩
  have hwant : wanted g (fr i) = Region.wanted o (yielded ops a.tmps) := wanted_at (μ := μ) r.grd fun j want d hgd hjd => by
    have hw : Wr ops j d := by
      cases hj : ops[j]? with
      | none => rw [hj] at hjd; cases hjd
      | some oj => rw [hj] at hjd; exact ⟨oj, hj, hjd⟩
    have hb := st.guard i o j want r.op hgd
    rw [r.fr1 d j hw hb]
    exact m.done d fun j' hj' => by rw [st.uniq _ _ _ hj' hw]; exact hready j hb
  have hx : Opnds μ (fr i) a.eval o.op.operands.toList := opnds_at fun d hrd => by
    by_cases hex : ∃ j, Wr ops j d
    · obtain ⟨j, hw⟩ := hex
      cases hb : (A i).testBit j with
      | true =>
        rw [r.fr1 d j hw hb]
        exact m.done d fun j' hj' => by rw [st.uniq _ _ _ hj' hw]; exact hready j hb
      | false =>
        rw [r.fr2 d j hrd hw hb]
        obtain ⟨_, hor⟩ := st.order i j d o r.op hrd hw
        exact m.late d j hw fun hDj => hDi (m.down j hDj i (hor.resolve_left (by rw [hb]; nofun)))
    · have hnw : ∀ j, ¬ Wr ops j d := fun j hj => hex ⟨j, hj⟩
      rw [r.fr3 d hnw, ← m.same d fun j hj => absurd hj (hnw j)]
      exact m.done d fun j hj => absurd hj (hnw j)
  unfold wpOp
  rw [r.op]
  simp only []
  rw [← hwant]
  rcases r.kind with ⟨k1, k2⟩ | ⟨k1, ⟨f, hi, k2, k3, k4⟩ | ⟨f, mk, x, k2, k3, k4, k5, k6, k7, k8, k9⟩⟩
  · rw [k1, if_neg (by nofun)]
    exact fin μ w _ (.refl μ) m.sim m.goes (fun _ _ _ _ _ h => h) (by rw [k2]; exact VR_undef)
  · rw [k1, if_pos rfl]
    have hhi : ¬ hi < k := fun hlt => by
      have hle : hi < es.length := by omega
      exact hDi (m.down _ (hdone hi es[hi] (List.getElem?_eq_getElem hle) hlt) i (k4 _ (List.getElem?_eq_getElem hle)))
    have hag := (lall_iff.1 hread) _ k3
    have hag : bc (Nat.blt hi k) true (again f (fr i) (v i) h) = true := hag
    rw [bc_blt, if_neg hhi] at hag
    obtain ⟨y, hy, ry⟩ := quiet_ok m.sim k2 hx (again_ok hag)
    refine .inl ?_
    unfold Oper.wp
    rw [hy]
    exact fin μ w y (.refl μ) m.sim m.goes (fun _ _ _ _ _ h => h) ry
  · rw [k1, if_pos rfl]
    obtain ⟨y, w', ob, kk, hrun, hp, hmk⟩ := makes_ok (w := w) k2 hx k3
    have hle := ext_le (n := kk) m.sim k5
    obtain ⟨ry, hblk⟩ := hmk (μ.ext (bk i) w.heap.size 0 kk) (bk i) hle (if_pos rfl) (if_pos rfl) (if_pos rfl)
    refine .inl ?_
    unfold Oper.wp
    rw [hrun]
    refine fin (μ.ext (bk i) w.heap.size 0 kk) w' y hle (m.sim.mapNew k5 hp k6 (fun _ _ => rfl) k7 (Nat.le_refl _) (evL_solo k3) hblk) ?_ (fun j hj hnd hne aj hn => ?_) (by rw [k4]; exact ry)
    · have G := m.goes
      refine ⟨G.next, fun b hb => ?_, fun c hc => ?_, fun c hc => ?_, by rw [hp.size]; have := G.heap; omega, fun c hc ho => ?_, G.ghost, hp.os.trans G.os, hp.tape.trans G.tape, hp.output.trans G.output⟩
      · show (if b = bk i then _ else _) = _
        rw [if_neg (by omega)]; exact G.at_ b hb
      · have := G.heap
        show (if c = w.heap.size then _ else _) = _
        rw [if_neg (by omega)]; exact G.own c hc
      · have := G.heap
        show (if c = w.heap.size then _ else _) = _
        rw [if_neg (by omega)]; exact G.size c hc
      · have := G.heap
        rw [hp.old (by omega)]; exact G.kept c hc ho
    · show (if bk j = bk i then _ else _) = _
      rw [if_neg (m.apart j i hj hnd hsi hDi aj k9 hne)]; exact hn
theorem eff_ok (st : Static P n ops A) (m : Mid P n ops A es μ0 h0 w0 t0 s fr v bk al t h ps D μ a w) {call : CallT} (good : Good P call) {e : NO} (hop : ops[e.i]? = some e.p) (hqo : e.o = compO P n ops e.p) (hise : isE e.o.op = true)
    (hsub : A e.i &&& s = A e.i) (hnew : s.testBit e.i = false) (hready : ∀ l, (A e.i).testBit l = true → D l) (ev : evO call e.o t h = .ok t1 h1) {K : Act → World → Prop} {Q : Exit → Act → World → Prop}
    (hK : ∀ a' w' μ', Mid P n ops A es μ0 h0 w0 t0 (s ||| 2 ^ e.i) fr v bk al t1 h1 ps (fun j => D j ∨ j = e.i) μ' a' w' → K a' w') : wpOp P ops Q e.i K a w := by
  have hDe : ¬ D e.i := fun hd => by rw [m.sub _ hd] at hnew; cases hnew
  obtain ⟨g, hq, hg, hlt⟩ : ∃ g, e.o = ⟨e.p.dst, compOp P e.p.op, g⟩ ∧ compGuard ops e.p.guard = some g ∧ ∀ i, e.p.dst = some i → i < n := by
    rcases compO_inv (P := P) (n := n) (ops := ops) (o := e.p) with ⟨g, k1, k2, k3⟩ | k1
    · exact ⟨g, hqo.trans k1, k2, k3⟩
    · rw [hqo, k1] at hise; cases hise
  have hwr : ∀ d, e.p.dst = some d → Wr ops e.i d := fun d hd => ⟨e.p, hop, hd⟩
  have hwi : ∀ d, Wr ops e.i d → e.p.dst = some d := fun d ⟨o', k1, k2⟩ => by rw [hop] at k1; cases k1; exact k2
  have fin : ∀ (u : AV) (h2 : Hp) (μ' : Mp) (w' : World) (y : Value), t1 = putT e.p.dst u t → h1 = h2 → Sim μ' h2 w' → Goes μ h w μ' h2 w' → VR μ' u y → K (a.put e.p.dst y) w' := fun u h2 μ' w' y ht hh hs' g' ry => by
    subst ht; subst hh
    have hle := g'.le m.sim
    refine hK _ _ μ' ⟨fun j hj => bit_or.2 (hj.imp (m.sub j) id), fun j hj l hl => .inl (hj.elim (fun hj => m.down j hj l hl) (fun e => hready l (e ▸ hl))), fun j hj l hl => ?_, fun d j hw hnd => ?_, fun d hd => ?_, fun d hd => ?_, fun j hj hnd => ?_,
      fun j j' hj hnd hj' hnd' => m.apart j j' ((bit_or.1 hj).resolve_right fun e => hnd (.inr e)) (fun h => hnd (.inl h)) ((bit_or.1 hj').resolve_right fun e => hnd' (.inr e)) (fun h => hnd' (.inl h)),
      fun j hj hnd aj => Nat.lt_of_lt_of_le (m.bkl j ((bit_or.1 hj).resolve_right fun e => hnd (.inr e)) (fun h => hnd (.inl h)) aj) g'.next, hs', m.goes.trans g', by rw [put_defers]; exact m.defers, by rw [put_size]; exact m.size⟩
    · rcases bit_or.1 hj with hj | rfl
      · exact bit_or.2 (.inl (m.sdown j hj l hl))
      · exact bit_or.2 (.inl (bits_sub hsub hl))
    · have hne : j ≠ e.i := fun e => hnd (.inr e)
      rw [getD_put (fun hh => hne (st.uniq _ _ _ hw (hwr d hh)))]
      exact (m.late d j hw fun h => hnd (.inl h)).mono hle _ _
    · by_cases hod : e.p.dst = some d
      · rw [hod, evX_put_self, getD_put_self (by rw [m.size]; exact hlt d hod)]
        exact ry
      · rw [evX_put hod, getD_put hod]
        exact (m.done d fun j hj => (hd j hj).resolve_right fun e' => hod (hwi d (e' ▸ hj))).mono hle _ _
    · rw [evX_put (fun hh => by
        have := hd _ (hwr d hh)
        rw [bit_or.2 (.inr rfl)] at this; cases this)]
      refine m.same d fun j hj => ?_
      have := hd j hj
      cases hb : s.testBit j with
      | false => rfl
      | true => rw [bit_or.2 (.inl hb)] at this; cases this
    · have hne : j ≠ e.i := fun e => hnd (.inr e)
      have hj := (bit_or.1 hj).resolve_right hne
      obtain ⟨o', g'', r⟩ := m.recs j hj fun h => hnd (.inl h)
      refine ⟨o', g'', r.op, r.grd, r.lt, fun d hd => ?_, fun d j' hw hb => ?_, r.fr2, r.fr3, ?_⟩
      · rw [evX_put (fun hh => hne (st.uniq _ _ _ ⟨o', r.op, hd⟩ (hwr d hh)))]; exact r.dst d hd
      · rw [evX_put (fun hh => by
          obtain rfl := st.uniq _ _ _ hw (hwr d hh)
          have := m.sdown j hj _ hb
          rw [hnew] at this; cases this)]
        exact r.fr1 d j' hw hb
      · rcases r.kind with k | ⟨k1, k2 | ⟨f, mk, y, k2, k3, k4, k5, k6, k7, k8, k9⟩⟩
        · exact .inl k
        · exact .inr ⟨k1, .inl k2⟩
        · exact .inr ⟨k1, .inr ⟨f, mk, y, k2, k3, k4, by rw [g'.at_ _ k7]; exact k5, (fun z hz => (g'.ghost _ k7 k5).elim (fun e => k6 z (e ▸ hz)) fun e => nomatch (e.symm.trans hz)), Nat.lt_of_lt_of_le k7 g'.next, k8, k9⟩⟩
  have hwant : wanted g t = Region.wanted e.p (yielded ops a.tmps) := wanted_at (μ := μ) hg fun j want d hgd hjd => by
    have hw : Wr ops j d := by
      cases hj : ops[j]? with
      | none => rw [hj] at hjd; cases hjd
      | some oj => rw [hj] at hjd; exact ⟨oj, hj, hjd⟩
    have hb := st.guard e.i e.p j want hop hgd
    exact m.done d fun j' hj' => by rw [st.uniq _ _ _ hj' hw]; exact hready j hb
  have hx : Opnds μ t a.eval e.p.op.operands.toList := opnds_at fun d hrd => by
    by_cases hex : ∃ j, Wr ops j d
    · obtain ⟨j, hw⟩ := hex
      cases hb : (A e.i).testBit j with
      | true => exact m.done d fun j' hj' => by rw [st.uniq _ _ _ hj' hw]; exact hready j hb
      | false =>
        obtain ⟨_, hor⟩ := st.order e.i j d e.p hop hrd hw
        have hje : (A j).testBit e.i = true := hor.resolve_left (by rw [hb]; nofun)
        rw [m.same d fun j' hj' => by
          obtain rfl := st.uniq _ _ _ hj' hw
          cases hsj : s.testBit j' with
          | false => rfl
          | true => have := m.sdown _ hsj _ hje; rw [hnew] at this; cases this]
        exact m.late d j hw fun hDj => hDe (m.down j hDj _ hje)
    · exact m.done d fun j hj => absurd ⟨j, hj⟩ hex
  rw [evO_eq, hq] at ev
  simp only [] at ev
  unfold wpOp
  rw [hop]
  simp only []
  rw [← hwant]
  split at ev
  · rename_i hw
    rw [hw, if_pos rfl]
    refine .inl ?_
    rw [hq] at hise
    cases hc : compOp P e.p.op with
    | q f => rw [hc] at hise; cases hise
    | l f => rw [hc] at hise; cases hise
    | e f =>
      rw [hc] at ev
      obtain ⟨u, h2, hu, e1⟩ := rv_then (show (evE f call t h).then (fun v h => .ok (putT e.p.dst v t) h) = .ok t1 h1 from ev)
      cases e1
      exact eff_run good m.sim hx hc hu fun μ' w' y ry hs' g' => fin u _ μ' w' y rfl rfl hs' g' ry
  · rename_i hw
    rw [if_neg hw]
    cases ev
    exact fin undef h μ w _ rfl rfl m.sim (.refl m.sim) VR_undef
end
end Eng
end
