/- The engine's soundness, part 15: appends, continued. -/
import Derived.Test.YtejiebbbodealaaEngS14
set_option linter.unusedVariables false
set_option linter.unusedSimpArgs false
namespace Eng
open Go Go.RowKit
section
variable {P : Program} {μ μ' : Mp} {h h' : Hp} {w w' : World} {t : T} {ρ : Operand → Value} {ty : TypeId}
theorem wrote {c o : Nat} {arr : Array Value} {el : TypeId} {fr : Nat × Nat} {xs : List Value} (hw : w.heap[c]? = some (.cells arr el fr)) (hun : Unmarked arr.size fr) (hroom : o + xs.length ≤ arr.size)
    (h1 : ∀ x ∈ xs, x.oneCell' = true) : ∃ w', (storeCells ⟨c, o, none⟩ xs).run P w = .ok () w' ∧ ∃ arr' : Array Value, w'.heap[c]? = some (.cells arr' el fr) ∧ arr'.size = arr.size ∧
      (∀ j x, xs[j]? = some x → arr'[o + j]? = some x) ∧ (∀ i, (i < o ∨ o + xs.length ≤ i) → arr'[i]? = arr[i]?) ∧
      (∀ c', c' ≠ c → w'.heap[c']? = w.heap[c']?) ∧ w'.heap.size = w.heap.size ∧ w'.os = w.os ∧ w'.tape = w.tape ∧ w'.output = w.output := by
  obtain ⟨⟨arr', h2, h3⟩, h4, h5, h6, h7, h8⟩ := setCells_heap (vs := xs) hw hroom
  have hsz2 : arr'.size = arr.size := by
    have := congrArg List.length h3
    simp at this; omega
  refine ⟨_, run_storeCells_own hw hun hroom h1, arr', h2, hsz2, fun j x hx => ?_, fun i hi => ?_, h4, h5, h6, h7, h8⟩
  · have hj := (List.getElem?_eq_some_iff.1 hx).1
    rw [← Array.getElem?_toList, h3, List.append_assoc, List.getElem?_append_right (by simp; omega)]
    rw [List.getElem?_append_left (by simp; omega), ← hx]
    congr 1; simp; omega
  · rw [← Array.getElem?_toList, h3, List.append_assoc]
    rcases hi with hi | hi
    · rw [List.getElem?_append_left (by simp; omega), List.getElem?_take, if_pos hi, Array.getElem?_toList]
    · rw [List.getElem?_append_right (by simp; omega), List.getElem?_append_right (by simp; omega), List.getElem?_drop, Array.getElem?_toList]
      congr 1; simp; omega
theorem VRs.oneCells {l : List AV} {xs : List Value} (r : VRs μ l xs) (hc : ∀ v ∈ l, isCell v = true) : ∀ x ∈ xs, x.oneCell' = true := fun x hx => by
  have hlen := r.length
  obtain ⟨j, hj, rfl⟩ := List.mem_iff_getElem.1 hx
  obtain ⟨v', hv'⟩ : ∃ v', l[j]? = some v' := ⟨_, List.getElem?_eq_getElem (by omega)⟩
  obtain ⟨y, hy, ry⟩ := r.get j v' hv'
  rw [List.getElem?_eq_getElem hj] at hy
  rw [Option.some.inj hy]
  exact ry.oneCell (hc v' (List.mem_of_getElem? hv'))
theorem Sim.alone (hs : Sim μ h w) {b c s k : Nat} {old : List AV} {ow : Own} (hb : μ.at_ b = some (c, s)) (hg : hget h b = some (.cells old k ow)) (hoc : μ.own c = true) :
    ∀ b' s' x, b' ≠ b → μ.at_ b' = some (c, s') → hget h b' = some x → ow ≠ .pair b' → x = .dead := fun b' s' x hne e g hp => by
  by_cases hd : x = .dead
  · exact hd
  · obtain ⟨_, _, _, _, h1, _⟩ := hs.apart b b' c s s' _ x hne.symm hb e hoc hg g nofun hd
    cases h1
    exact absurd rfl hp
def Mp.put (μ : Mp) (b c s : Nat) : Mp := { μ with at_ := fun b' => if b' = b then some (c, s) else μ.at_ b' }
theorem put_le {b c s : Nat} (hb : μ.at_ b = none) : μ.Le (μ.put b c s) := fun b' c' s' e => by
  refine ⟨?_, rfl, rfl⟩
  show (if b' = b then _ else _) = _
  rw [if_neg ?_]
  · exact e
  · intro hh; subst hh; rw [hb] at e; cases e
theorem Sim.alias (hs : Sim μ h w) {c s n : Nat} {cs : List AV} (hc : c < w.heap.size) (halone : ∀ b' s' x, μ.at_ b' = some (c, s') → hget h b' = some x → x = .dead)
    (hold : ∀ b0 c0 s0 x0, μ.at_ b0 = some (c0, s0) → hget h b0 = some x0 → BlkR (μ.put h.next c s) w' c0 s0 x0) (hnew : BlkR (μ.put h.next c s) w' c s (.cells cs n .solo)) (hsize : w'.heap.size = w.heap.size) :
    Sim (μ.put h.next c s) (hpush h (.cells cs n .solo)) w' := by
  have hnone : μ.at_ h.next = none := hs.lt _ (Nat.le_refl _)
  have hatn : (μ.put h.next c s).at_ h.next = some (c, s) := if_pos rfl
  have hato : ∀ b', b' ≠ h.next → (μ.put h.next c s).at_ b' = μ.at_ b' := fun b' hn => if_neg hn
  refine ⟨fun b' hb' => ?_, fun b' hb' => ?_, fun b' c0 s0 e => ?_, fun b' c0 s0 x e hx => ?_, fun b1 b2 c0 s1 s2 x1 x2 hne e1 e2 ho k1 k2 d1 d2 => ?_, fun b' c0 s0 cs0 n0 p e g => ?_⟩
  · have hb' : h.next + 1 ≤ b' := hb'
    rw [hato _ (by omega)]; exact hs.lt b' (by omega)
  · have hb' : h.next + 1 ≤ b' := hb'
    rw [hget_hpush_ne _ _ (by omega)]; exact hs.fresh b' (by omega)
  · by_cases hn : b' = h.next
    · subst hn; rw [hatn] at e; cases e; omega
    · rw [hato _ hn] at e; have := hs.old b' c0 s0 e; omega
  · by_cases hn : b' = h.next
    · subst hn; rw [hatn] at e; cases e; rw [hget_hpush] at hx; cases hx; exact hnew
    · rw [hato _ hn] at e; rw [hget_hpush_ne _ _ hn] at hx; exact hold b' c0 s0 x e hx
  · by_cases hn1 : b1 = h.next
    · subst hn1
      rw [hatn] at e1; cases e1
      rw [hato _ hne.symm] at e2; rw [hget_hpush_ne _ _ hne.symm] at k2
      exact absurd (halone b2 s2 x2 e2 k2) d2
    · rw [hato _ hn1] at e1; rw [hget_hpush_ne _ _ hn1] at k1
      by_cases hn2 : b2 = h.next
      · subst hn2
        rw [hatn] at e2; cases e2
        exact absurd (halone b1 s1 x1 e1 k1) d1
      · rw [hato _ hn2] at e2; rw [hget_hpush_ne _ _ hn2] at k2
        exact hs.apart b1 b2 c0 s1 s2 x1 x2 hne e1 e2 ho k1 k2 d1 d2
  · by_cases hn : b' = h.next
    · subst hn; rw [hget_hpush] at g; cases g
    · rw [hato _ hn] at e; rw [hget_hpush_ne _ _ hn] at g
      obtain ⟨y, hy⟩ := hs.peer b' c0 s0 cs0 n0 p e g
      exact ⟨y, (put_le hnone p y.1 y.2 hy).1⟩
theorem Goes.alias (hs : Sim μ h w) {c s : Nat} {x : Blk} (hsize : w'.heap.size = w.heap.size) (hkept : ∀ c', c' ≠ c → w'.heap[c']? = w.heap[c']?) (hoc : μ.own c = true) (hos : w'.os = w.os) (ht : w'.tape = w.tape) (ho : w'.output = w.output) :
    Goes μ h w (μ.put h.next c s) (hpush h x) w' :=
  ⟨Nat.le_succ _, fun b' hb' => if_neg (by omega), fun _ _ => rfl, fun _ _ => rfl, by omega, fun c' _ hf => hkept c' (fun e => by rw [e, hoc] at hf; cases hf),
    fun b' hb' _ => hget_hpush_ne _ _ (by omega), hos, ht, ho⟩
structure SlR (μ : Mp) (w : World) (b o n cp sz : Nat) (ex : Bool) (c s s' cp' : Nat) : Prop where
  at_ : μ.at_ b = some (c, s)
  len : n ≤ cp
  cap : cp ≤ cp'
  exact_ : ex = true → cp' = cp
  place : cp' ≠ 0 → s' = s + o ∧ s + o + cp' * sz ≤ μ.size c
theorem old_ok (hs : Sim μ h w) {b o n cp sz c s s' cp' k : Nat} {ex : Bool} {cs : List AV} {ow : Own} (sl : SlR μ w b o n cp sz ex c s s' cp') (hg : hget h b = some (.cells cs k ow)) (hle : o + n * sz ≤ k) :
    ∃ X, VRs μ (part cs k o (n * sz)) X ∧ X.length = n * sz ∧ (∀ v ∈ part cs k o (n * sz), isCell v = true) ∧
      ∀ w1 : World, w1.heap = w.heap → (Builtin.firstCells sz n (.slice (some ⟨c, s', none⟩) n cp')).run P w1 = .ok X.toArray w1 := by
  have e : rdN h b o (n * sz) none some = some (part cs k o (n * sz)) := by
    unfold rdN hcells
    rw [hg]
    show bc (Nat.ble (o + n * sz) k) _ _ = _
    rw [bc_ble, if_pos hle]
  obtain ⟨l, X, h1, h2, h3, h4, h5⟩ := rdN_ok hs sl.at_ e nofun
  cases h1
  refine ⟨X, h2, h3, h4, fun w1 hw1 => ?_⟩
  have hcell : ∀ a, w1.cell? a = w.cell? a := fun a => by unfold World.cell?; rw [hw1]
  by_cases h0 : cp' = 0
  · have := sl.len; have := sl.cap
    obtain rfl : n = 0 := by omega
    have : X = [] := List.eq_nil_of_length_eq_zero (by omega)
    subst this
    simp [Builtin.firstCells]; rfl
  · obtain ⟨rfl, _⟩ := sl.place h0
    simp only [Builtin.firstCells]
    exact run_loadCells_of h3 fun j x hj => by rw [hcell]; exact h5 j x hj
theorem zeroCells_size (z : Array Value) (n : Nat) : (Builtin.zeroCells z n).size = n * z.size := by simp [Builtin.zeroCells]
structure Elem (P : Program) (μ : Mp) (el : TypeId) (sz by_ : Nat) (z : Value) : Prop where
  pos : sz ≠ 0
  size : szOf P el = some sz
  bytes : bytesOf P el = some by_
  zero : ∀ w, (zeroValue el).run P w = .ok z w
  cells : z.cells.size = sz
theorem grow_ok (hs : Sim μ h w) {st xt ret el : TypeId} {base : Option Addr} {sz by_ n m cp' : Nat} {v : AV} {xz xv : Value} {A l : List AV} {X xs : List Value} (hu : P.underlying st = some (.slice el)) (hel : Elem P μ el sz by_ xz)
    (ht : Takes P w el xt sz m xv xs) (hgrow : cp' < n + m) (hb1 : (n + m) * by_ ≤ 70368744177664) (hb2 : n + m ≤ 70368744177664)
    (hold : ∀ w1 : World, w1.heap = w.heap → (Builtin.firstCells sz n (.slice base n cp')).run P w1 = .ok X.toArray w1)
    (rA : VRs μ A X) (cA : ∀ v ∈ A, isCell v = true) (lA : A.length = n * sz) (rl : VRs μ l xs) (cl : ∀ v ∈ l, isCell v = true) (ll : l.length = m * sz)
    (e : grown h (n + m) sz (app A l) = .ok v h') : EffV P μ h w (Builtin.append_ #[st, xt] ret #[.slice base n cp', xv]) v h' := by
  obtain ⟨cap, hcap, hrun⟩ := run_append_grows (ret := ret) hel.pos hu hel.size hel.bytes hel.zero ht hgrow hb1 hb2 hold
  rw [app_eq] at e
  obtain ⟨μ', h1, h2, h3⟩ := grown_ok (el := el) (cap := cap) (xs := X ++ xs) (rest := (Builtin.zeroCells xz.cells (cap - (n + m))).toList) hs (rA.append rl)
    (fun v hv => by rw [List.mem_append] at hv; exact hv.elim (cA v) (cl v)) (by rw [List.length_append, lA, ll, Nat.add_mul]) hcap
    (by rw [Array.length_toList, zeroCells_size, hel.cells]) e
  have harr : X.toArray ++ xs.toArray ++ Builtin.zeroCells xz.cells (cap - (n + m)) = (X ++ xs ++ (Builtin.zeroCells xz.cells (cap - (n + m))).toList).toArray := by
    apply Array.ext'; simp
  rw [harr] at hrun
  exact ⟨μ', _, _, hrun, h1, h2, h3⟩
theorem fits_ok (hs : Sim μ h w) {st xt ret el : TypeId} {sz by_ b o n cp m c s s' cp' k : Nat} {ex : Bool} {xz xv : Value} {cs l : List AV} {ow : Own} {xs : List Value} (hu : P.underlying st = some (.slice el)) (hel : Elem P μ el sz by_ xz)
    (ht : Takes P w el xt sz m xv xs) (sl : SlR μ w b o n cp sz ex c s s' cp') (hg : hget h b = some (.cells cs k ow)) (hro : ow ≠ .ro) (hle : o + n * sz ≤ k) (hmore : cp < n + m) (hfit : n + m ≤ cp')
    (rl : VRs μ l xs) (cl : ∀ v ∈ l, isCell v = true) (ll : l.length = m * sz) :
    ∃ w', (Builtin.append_ #[st, xt] ret #[.slice (some ⟨c, s', none⟩) n cp', xv]).run P w = .ok (.slice (some ⟨c, s + o, none⟩) (n + m) cp') w' ∧
      μ.own c = true ∧ s' = s + o ∧ s + o + cp' * sz ≤ μ.size c ∧ (∀ c', c' ≠ c → w'.heap[c']? = w.heap[c']?) ∧ w'.heap.size = w.heap.size ∧ w'.os = w.os ∧ w'.tape = w.tape ∧ w'.output = w.output ∧
      BlkR μ w' c (s + o) (.cells (app (part cs k o (n * sz)) l) ((n + m) * sz) .solo) ∧ (k ≤ o + n * sz → BlkR μ w' c s (.cells cs k ow)) := by
  have hc0 : cp' ≠ 0 := by have := sl.len; omega
  obtain ⟨rfl, hroom⟩ := sl.place hc0
  obtain ⟨hl, hcell, hown, arr, ael, fr, hw, hsz, hun, hcells⟩ := hs.blk b c s _ sl.at_ hg
  have hoc : μ.own c = true := hown.2 hro
  have hlen := rl.length
  have hmul : (n + m) * sz ≤ cp' * sz := Nat.mul_le_mul_right _ hfit
  rw [Nat.add_mul] at hmul
  obtain ⟨w', hrun, arr', hw', hsz', hin, hout, hother, hsize, hos, htape, houtp⟩ := wrote (P := P) (o := s + o + n * sz) hw (hun hoc) (by omega) (rl.oneCells cl)
  have happ := run_append_fits (P := P) (ret := ret) (base := some ⟨c, s + o, none⟩) (w' := w') hel.pos hu hel.size ht hfit (by
    show (storeCells ((⟨c, s + o, none⟩ : Addr).add (n * sz)) xs).run P w = _
    rw [addr_add]; exact hrun)
  refine ⟨w', happ, hoc, rfl, hroom, hother, hsize, hos, htape, houtp, ⟨?_, fun v hv => ?_, ⟨fun _ => nofun, fun _ => hoc⟩, arr', ael, fr, hw', by rw [hsz']; exact hsz, fun _ => by rw [hsz']; exact hun hoc, fun i v hv => ?_⟩,
    fun hk => ⟨hl, hcell, hown, arr', ael, fr, hw', by rw [hsz']; exact hsz, fun _ => by rw [hsz']; exact hun hoc, fun i v hv => ?_⟩⟩
  · rw [app_eq, List.length_append, part_eq hl hle, ll, Nat.add_mul, List.length_take, List.length_drop]; omega
  · rw [app_eq, List.mem_append, part_eq hl hle] at hv
    rcases hv with hv | hv
    · exact hcell v (List.mem_of_mem_drop (List.mem_of_mem_take hv))
    · exact cl v hv
  · rw [app_eq, part_eq hl hle] at hv
    by_cases hi : i < n * sz
    · rw [List.getElem?_append_left (by rw [List.length_take, List.length_drop]; omega), List.getElem?_take, if_pos hi, List.getElem?_drop] at hv
      obtain ⟨y, hy, ry⟩ := hcells _ _ hv
      refine ⟨y, ?_, ry⟩
      rw [hout _ (.inl (by omega)), ← hy]; congr 1; omega
    · rw [List.getElem?_append_right (by rw [List.length_take, List.length_drop]; omega)] at hv
      obtain ⟨y, hy, ry⟩ := rl.get _ _ hv
      refine ⟨y, ?_, ry⟩
      rw [← hin _ _ hy]; congr 1
      rw [List.length_take, List.length_drop]; omega
  · have hi : i < k := by have := (List.getElem?_eq_some_iff.1 hv).1; omega
    obtain ⟨y, hy, ry⟩ := hcells _ _ hv
    exact ⟨y, by rw [hout _ (.inl (by omega))]; exact hy, ry⟩
theorem ext_at {b n : Nat} (k : Nat) : (μ.ext b k 0 n).at_ b = some (k, 0) := if_pos rfl
theorem more_ok (hs : Sim μ h w) {st xt ret el : TypeId} {sz by_ b o n cp m c s s' cp' : Nat} {ex : Bool} {v : AV} {xz xv : Value} {l : List AV} {xs : List Value} (hu : P.underlying st = some (.slice el)) (hel : Elem P μ el sz by_ xz)
    (ht : Takes P w el xt sz m xv xs) (sl : SlR μ w b o n cp sz ex c s s' cp') (hmore : cp < n + m) (hb1 : (n + m) * by_ ≤ 70368744177664) (hb2 : n + m ≤ 70368744177664)
    (rl : VRs μ l xs) (cl : ∀ v ∈ l, isCell v = true) (ll : l.length = m * sz) (e : more h b o n sz m ex l = .ok v h') :
    EffV P μ h w (Builtin.append_ #[st, xt] ret #[.slice (some ⟨c, s', none⟩) n cp', xv]) v h' := by
  obtain ⟨cs, k, ow, hg, e1⟩ := hcells_inv e nofun
  obtain ⟨hle, e2⟩ := ble_inv e1 nofun
  have hle : o + n * sz ≤ k := hle
  obtain ⟨X, rA, lX, cA, hold⟩ := old_ok hs sl hg hle
  obtain ⟨hl, hcell, hown, arr, ael, fr, hw, hsz, hun, hcells⟩ := hs.blk b c s _ sl.at_ hg
  have lA : (part cs k o (n * sz)).length = n * sz := by rw [← rA.length, lX]
  have grows : ∀ (h0 : Hp), Sim μ h0 w → Goes μ h w μ h0 w → ¬ (n + m ≤ cp') → grown h0 (n + m) sz (app (part cs k o (n * sz)) l) = .ok v h' →
      EffV P μ h w (Builtin.append_ #[st, xt] ret #[.slice (some ⟨c, s', none⟩) n cp', xv]) v h' := fun h0 hs0 g0 hgrow eg => by
    obtain ⟨μ', w', y, h1, h2, h3, h4⟩ := grow_ok hs0 hu hel ht (by omega) hb1 hb2 hold rA cA lA rl cl ll eg
    exact ⟨μ', w', y, h1, g0.trans h2, h3, h4⟩
  have hlt : c < w.heap.size := hs.old b c s sl.at_
  rw [bc_eq] at e2
  split at e2
  · rename_i hex
    have hcp := sl.exact_ hex
    exact grows h hs (.refl hs) (by omega) e2
  rw [bc_beq] at e2
  have heir : ∀ (h0 : Hp), Sim μ h0 w → Goes μ h w μ h0 w → hget h0 b = some (.cells cs k ow) → ow ≠ .ro → (∀ b' s' x, b' ≠ b → μ.at_ b' = some (c, s') → hget h0 b' = some x → x = .dead) →
      o + n * sz = k → shared h0 b (n + m) sz cs k (app (part cs k o (n * sz)) l) = .ok v h' →
      EffV P μ h w (Builtin.append_ #[st, xt] ret #[.slice (some ⟨c, s', none⟩) n cp', xv]) v h' := fun h0 hs0 g0 hg0 hro halone hend es => by
    have hnone : μ.at_ h0.next = none := hs0.lt _ (Nat.le_refl _)
    cases es
    by_cases hfit : n + m ≤ cp'
    · obtain ⟨w', hrun, hoc, rfl, hroom, hother, hsize, hos, htape, houtp, hnew, hback⟩ := fits_ok (ret := ret) hs0 hu hel ht sl hg0 hro hle hmore hfit rl cl ll
      have hleμ := put_le (c := c) (s := s + o) hnone
      refine ⟨μ.put h0.next c (s + o), w', _, hrun, g0.trans (Goes.share hs0 sl.at_ (fun _ => rfl) (fun _ _ => rfl) (fun _ _ => rfl) (by omega) (fun c' _ hf => hother c' (fun e => by rw [e, hoc] at hf; cases hf)) hos htape houtp),
        Sim.share hs0 sl.at_ hg0 hro halone (fun _ => rfl) hleμ (.inl rfl) (fun b0 c0 s0 x0 e0 gx => ?_) ?_ (by omega) (by omega), ?_⟩
      · by_cases hcc : c0 = c
        · subst hcc
          by_cases hbb : b0 = b
          · subst hbb
            rw [hg0] at gx; cases gx
            rw [sl.at_] at e0; cases e0
            obtain ⟨q1, q2, q3, arr', q4, q5, q6, q7, q8, q9⟩ := hback (by omega)
            exact ⟨q1, q2, q3, arr', q4, q5, q6, q7, q8, fun i v hv => by obtain ⟨y, hy, ry⟩ := q9 i v hv; exact ⟨y, hy, ry.mono hleμ _ _⟩⟩
          · rw [halone b0 s0 x0 hbb e0 gx]; trivial
        · exact (hs0.blk b0 c0 s0 x0 e0 gx).mono hleμ (hother c0 hcc) rfl rfl
      · obtain ⟨q1, q2, q3, arr', q4, q5, q6, q7, q8, q9⟩ := hnew
        exact ⟨q1, q2, ⟨fun _ => nofun, fun _ => hoc⟩, arr', q4, q5, q6, q7, q8, fun i v hv => by obtain ⟨y, hy, ry⟩ := q9 i v hv; exact ⟨y, hy, ry.mono hleμ _ _⟩⟩
      · rw [VR_slice]
        exact ⟨c, s + o, s + o, cp', if_pos rfl, rfl, Nat.le_refl _, hfit, nofun, fun _ => ⟨rfl, hroom⟩⟩
    · obtain ⟨cap, hcap, hrun⟩ := run_append_grows (ret := ret) hel.pos hu hel.size hel.bytes hel.zero ht (by omega) hb1 hb2 hold
      have harr : X.toArray ++ xs.toArray ++ Builtin.zeroCells xz.cells (cap - (n + m)) = (X ++ xs ++ (Builtin.zeroCells xz.cells (cap - (n + m))).toList).toArray := by
        apply Array.ext'; simp
      rw [harr] at hrun
      generalize hrest : (Builtin.zeroCells xz.cells (cap - (n + m))).toList = rest at hrun
      have lrest : rest.length = (cap - (n + m)) * sz := by rw [← hrest, Array.length_toList, zeroCells_size, hel.cells]
      have hlx := rl.length
      have hsize : (X ++ xs ++ rest).toArray.size = cap * sz := by
        rw [List.size_toArray, List.length_append, List.length_append, lX, hlx, ll, lrest, ← Nat.add_mul, ← Nat.add_mul]
        congr 1; omega
      have hleμ := ext_le (n := cap * sz) hs0 hnone
      have hp : Pushed w (.cells (X ++ xs ++ rest).toArray el) { w with drawn := w.drawn + 1, heap := w.heap.push (.cells (X ++ xs ++ rest).toArray el) } := ⟨rfl, rfl, rfl, rfl⟩
      have hown2 : (μ.ext h0.next w.heap.size 0 (cap * sz)).own w.heap.size = true := if_pos rfl
      have hsz2 : (μ.ext h0.next w.heap.size 0 (cap * sz)).size w.heap.size = cap * sz := if_pos rfl
      refine ⟨μ.ext h0.next w.heap.size 0 (cap * sz), _, _, hrun, g0.trans (Goes.share hs0 sl.at_ (fun _ => rfl) (fun c' hc' => if_neg (by omega)) (fun c' hc' => if_neg (by omega)) (by rw [hp.size]; omega) (fun c' hc' _ => hp.old hc') rfl rfl rfl),
        Sim.share hs0 sl.at_ hg0 hro halone (fun _ => rfl) hleμ (.inr (Nat.le_refl _)) (fun b0 c0 s0 x0 e0 gx => ?_) ?_ (by rw [hp.size]; omega) (by rw [hp.size]; omega), ?_⟩
      · have hc0 := hs0.old b0 c0 s0 e0
        exact (hs0.blk b0 c0 s0 x0 e0 gx).mono hleμ (hp.old hc0) (if_neg (by omega)) (if_neg (by omega))
      · refine ⟨?_, fun v hv => ?_, ⟨fun _ => nofun, fun _ => hown2⟩, _, _, _, hp.new, by rw [hsz2, hsize], fun _ => unmarked_zero _, fun i v hv => ?_⟩
        · rw [app_eq, List.length_append, lA, ll, ← Nat.add_mul]; rfl
        · rw [app_eq, List.mem_append] at hv
          exact hv.elim (cA v) (cl v)
        · rw [app_eq] at hv
          obtain ⟨y, hy, ry⟩ := (rA.append rl).get i v hv
          refine ⟨y, ?_, ry.mono hleμ _ _⟩
          have hi := (List.getElem?_eq_some_iff.1 hy).1
          rw [Nat.zero_add, List.getElem?_toArray, List.getElem?_append_left hi]; exact hy
      · exact sl_VR (ext_at _) (Nat.le_refl _) hcap nofun hsz2 (Nat.le_refl _)
  have takes : ∀ (h0 : Hp), Sim μ h0 w → Goes μ h w μ h0 w → ow ≠ .ro → (∀ b' s' x, μ.at_ b' = some (c, s') → hget h0 b' = some x → x = .dead) →
      grown h0 (n + m) sz (app (part cs k o (n * sz)) l) = .ok v h' → EffV P μ h w (Builtin.append_ #[st, xt] ret #[.slice (some ⟨c, s', none⟩) n cp', xv]) v h' := fun h0 hs0 g0 hro halone es => by
    by_cases hfit : n + m ≤ cp'
    · have hnone : μ.at_ h0.next = none := hs0.lt _ (Nat.le_refl _)
      cases es
      obtain ⟨w', hrun, hoc, rfl, hroom, hother, hsize, hos, htape, houtp, hnew, hback⟩ := fits_ok (ret := ret) hs hu hel ht sl hg hro hle hmore hfit rl cl ll
      have hleμ := put_le (c := c) (s := s + o) hnone
      refine ⟨μ.put h0.next c (s + o), w', _, hrun, g0.trans (Goes.alias hs0 hsize hother hoc hos htape houtp), Sim.alias hs0 hlt halone (fun b0 c0 s0 x0 e0 gx => ?_) ?_ hsize, ?_⟩
      · by_cases hcc : c0 = c
        · subst hcc
          rw [halone b0 s0 x0 e0 gx]; trivial
        · exact (hs0.blk b0 c0 s0 x0 e0 gx).mono hleμ (hother c0 hcc) rfl rfl
      · obtain ⟨q1, q2, q3, arr', q4, q5, q6, q7, q8, q9⟩ := hnew
        exact ⟨q1, q2, ⟨fun _ => nofun, fun _ => hoc⟩, arr', q4, q5, q6, q7, q8, fun i v hv => by obtain ⟨y, hy, ry⟩ := q9 i v hv; exact ⟨y, hy, ry.mono hleμ _ _⟩⟩
      · rw [VR_slice]
        exact ⟨c, s + o, s + o, cp', if_pos rfl, rfl, Nat.le_refl _, hfit, nofun, fun _ => ⟨rfl, hroom⟩⟩
    · exact grows h0 hs0 g0 hfit es
  have hbm : ∃ y, μ.at_ b = some y := ⟨_, sl.at_⟩
  split at e2
  · rename_i hend
    cases ow with
    | ro => cases e2
    | solo => exact heir h hs (.refl hs) hg nofun (fun b' s' x hne e g => hs.alone sl.at_ hg (hown.2 nofun) b' s' x hne e g nofun) hend e2
    | pair p =>
      have e2 : bc (Nat.beq p b) RV.no (shared (hset h p .dead) b (n + m) sz cs k (app (part cs k o (n * sz)) l)) = .ok v h' := e2
      rw [bc_beq] at e2
      split at e2
      · cases e2
      · rename_i hpb
        have hpm := hs.peer b c s cs k p sl.at_ hg
        refine heir _ (hs.kill hpm) (.kill hs hpm) (by rw [hget_hset_ne _ _ (fun e => hpb e.symm)]; exact hg) nofun (fun b' s' x hne e g => ?_) hend e2
        rw [hget_if] at g
        split at g
        · cases g; rfl
        · rename_i hbp
          exact hs.alone sl.at_ hg (hown.2 nofun) b' s' x hne e g (fun hh => hbp (Own.pair.inj hh).symm)
  · cases ow with
    | ro => cases e2
    | solo =>
      refine takes _ (hs.kill hbm) (.kill hs hbm) nofun (fun b' s' x e g => ?_) e2
      rw [hget_if] at g
      split at g
      · cases g; rfl
      · rename_i hbp
        exact hs.alone sl.at_ hg (hown.2 nofun) b' s' x hbp e g nofun
    | pair p =>
      have hpm := hs.peer b c s cs k p sl.at_ hg
      have hs1 := hs.kill hpm
      refine takes _ (hs1.kill hbm) ((Goes.kill hs hpm).trans (.kill hs1 hbm)) nofun (fun b' s' x e g => ?_) e2
      rw [hget_if] at g
      split at g
      · cases g; rfl
      · rename_i hbp
        rw [hget_if] at g
        split at g
        · cases g; rfl
        · rename_i hpp
          exact hs.alone sl.at_ hg (hown.2 nofun) b' s' x hbp e g (fun hh => hpp (Own.pair.inj hh).symm)
theorem empty_append {st xt ret el : TypeId} {sz by_ cp' : Nat} {xz xv : Value} {base : Option Addr} {n : Nat} {xs : List Value} (hu : P.underlying st = some (.slice el)) (hel : Elem P μ el sz by_ xz) (ht : Takes P w el xt sz 0 xv xs) (hxs : xs = []) (hn : n ≤ cp') :
    (Builtin.append_ #[st, xt] ret #[.slice base n cp', xv]).run P w = .ok (.slice base n cp') w := by
  subst hxs
  have := run_append_fits (P := P) (ret := ret) (w := w) (w' := w) (base := base) (sLen := n) (sCap := cp') hel.pos hu hel.size ht (by omega) (by cases base <;> rfl)
  simpa using this
theorem appendTo_ok (hs : Sim μ h w) {st xt ret el : TypeId} {sz by_ m : Nat} {a v : AV} {xz xv ya : Value} {l : List AV} {xs : List Value} (hu : P.underlying st = some (.slice el)) (hel : Elem P μ el sz by_ xz)
    (ht : Takes P w el xt sz m xv xs) (ra : VR μ a ya) (rl : VRs μ l xs) (cl : ∀ v ∈ l, isCell v = true) (ll : l.length = m * sz) (e : appendTo h sz by_ a m l = .ok v h') :
    EffV P μ h w (Builtin.append_ #[st, xt] ret #[ya, xv]) v h' := by
  have hlx := rl.length
  rcases asSlice_inv e nofun with ⟨rfl, e1⟩ | ⟨b, o, n, c, z, ex, rfl, e1⟩
  · rw [VR_nilSlice] at ra; subst ra
    rw [bc_beq] at e1
    split at e1
    · subst m
      cases e1
      exact ⟨μ, w, _, empty_append hu hel ht (List.eq_nil_of_length_eq_zero (by omega)) (Nat.le_refl _), .refl hs, hs, by rw [VR_nilSlice]⟩
    · rename_i hm
      obtain ⟨hb1, e2⟩ := ble_inv e1 nofun
      obtain ⟨hb2, e3⟩ := ble_inv e2 nofun
      have hb1 : m * by_ ≤ 70368744177664 := hb1
      refine grow_ok (n := 0) (A := []) (X := []) hs hu hel ht (by omega) (by rw [Nat.zero_add]; exact hb1) (by omega) (fun w1 _ => by simp [Builtin.firstCells]) (by rw [VRs_nil]) (fun v hv => by cases hv) (by simp) rl cl ll ?_
      rw [Nat.zero_add]; exact e3
  · obtain ⟨rfl, e2⟩ := beq_inv e1 nofun
    have ra0 := ra
    rw [VR_slice] at ra
    obtain ⟨c0, s, s', cp', hb, rfl, h1, h2, h3, h4⟩ := ra
    rw [bc_ble] at e2
    split at e2
    · rename_i hfit
      have hfit : n + m ≤ c := hfit
      rw [bc_beq] at e2
      split at e2
      · subst m
        cases e2
        exact ⟨μ, w, _, empty_append hu hel ht (List.eq_nil_of_length_eq_zero (by omega)) (by omega), .refl hs, hs, ra0⟩
      · rename_i hm0
        have hc0 : cp' ≠ 0 := by omega
        obtain ⟨rfl, hroom⟩ := h4 hc0
        obtain ⟨w', k1, k2, k3, k4⟩ := wrN_ok (P := P) hs hb rl cl ll e2
        subst k4
        have k1' : (storeCells ((⟨c0, s + o, none⟩ : Addr).add (n * z)) xs).run P w = .ok () w' := by
          rw [addr_add, Nat.add_assoc]; exact k1
        refine ⟨μ, w', _, run_append_fits (base := some ⟨c0, s + o, none⟩) hel.pos hu hel.size ht (by omega) k1', k2, k3, ?_⟩
        rw [VR_slice]
        exact ⟨c0, s, s + o, cp', hb, rfl, hfit, h2, h3, h4⟩
    · rename_i hfit
      have hfit : ¬ (n + m ≤ c) := hfit
      obtain ⟨hb1, e3⟩ := ble_inv e2 nofun
      obtain ⟨hb2, e4⟩ := ble_inv e3 nofun
      exact more_ok hs hu hel ht ⟨hb, h1, h2, h3, h4⟩ (by omega) hb1 hb2 rl cl ll e4
theorem append_ok (hs : Sim μ h w) {st xt ret : TypeId} {a x : AX} {ya xv : Value} {op : EOp} {v : AV} {call : CallT} (hc : compAppend P st xt a x = .e op) (ra : VR μ (evX a t) ya) (rx : VR μ (evX x t) xv)
    (e : evE op call t h = .ok v h') : EffV P μ h w (Builtin.append_ #[st, xt] ret #[ya, xv]) v h' := by
  have plain : ∀ {el : TypeId} {d : TypeDesc}, P.underlying st = some (.slice el) → P.underlying xt = some d → (∀ k, d ≠ .int k) →
      (match szOf P el, bytesOf P el, zeroOf P el with
        | some n, some m, some z => if n = 0 then no else if n = (cellsC z).length then AOp.e (.append n m a x) else no
        | _, _, _ => no) = .e op → EffV P μ h w (Builtin.append_ #[st, xt] ret #[ya, xv]) v h' := fun {el d} hu hx hd hc => by
    split at hc
    · rename_i sz by_ z h1 h2 h3
      split at hc
      · cases hc
      split at hc
      · rename_i hpos hz
        cases hc
        obtain ⟨xz, rz, hzr⟩ := zeroOf_ok (μ := μ) h3
        rw [cellsC_eq] at hz
        have hcs : xz.cells.size = sz := by have := rz.cells.length; simp at this; omega
        obtain ⟨m, l, xs, e1, r1, hl, hcell, hlen, hf⟩ := src_ok (P := P) hs hpos rx (show src h sz (evX x t) .no (fun m xs => appendTo h sz by_ (evX a t) m xs) = .ok v h' from e) nofun
        have hlx := r1.length
        refine appendTo_ok hs hu ⟨hpos, h1, h2, hzr, hcs⟩ (.cells d hx hd hlen fun w1 hw1 => ?_) ra r1 hcell hl e1
        rw [hf m (Nat.le_refl _) w1 hw1, List.take_of_length_le (by omega)]
      · cases hc
    · cases hc
  unfold compAppend at hc
  split at hc
  · rename_i hu hx; exact plain hu hx nofun hc
  · rename_i hu hx; exact plain hu hx nofun hc
  · rename_i el k hu hx
    split at hc
    · rename_i sz by_ z h1 h2 h3
      split at hc
      · cases hc
      split at hc
      · rename_i hpos hz
        cases hc
        obtain ⟨xz, rz, hzr⟩ := zeroOf_ok (μ := μ) h3
        rw [cellsC_eq] at hz
        have rzc := rz.cells
        have hcs : xz.cells.size = sz := by have := rzc.length; simp at this; omega
        rw [cellsC_eq] at e
        have e : ((evX x t).asInt RV.no fun _ n => natOf n .no fun n => bc (Nat.ble (Nat.mul n by_) 70368744177664) (bc (Nat.ble n 70368744177664) (bc (lall isCell (cellsOf z)) (appendTo h sz by_ (evX a t) n (lrep (cellsOf z) n)) .no) .no) .no) = .ok v h' := e
        obtain ⟨k', i, hxi, e1⟩ := asInt_inv e nofun
        obtain ⟨m, rfl, e2⟩ := natOf_inv e1 nofun
        obtain ⟨hb1, e3⟩ := ble_inv e2 nofun
        obtain ⟨hb2, e4⟩ := ble_inv e3 nofun
        obtain ⟨hcell, e5⟩ := bc_inv e4 nofun
        rw [lall_iff] at hcell
        rw [hxi, VR_int] at rx
        have hz0 : cellsOf z ≠ [] := fun hh => by rw [hh] at hz; exact hpos hz
        have hrep := rep_get rzc m hz0
        rw [← hz] at hrep
        have heq : Builtin.zeroCells xz.cells m = (Array.range (m * sz)).map (xz.cells[· % xz.cells.size]!) := by unfold Builtin.zeroCells; rw [hcs]
        rw [← heq] at hrep
        exact appendTo_ok hs hu ⟨hpos, h1, h2, hzr, hcs⟩ (.zeros k k' by_ xz hx rx hb2 h2 hb1 hzr (fun h0 => by subst h0; apply List.eq_nil_of_length_eq_zero; rw [Array.length_toList, zeroCells_size, Nat.zero_mul]) (fun _ => by simp)) ra hrep
          (fun v hv => hcell v (lrep_mem hv)) (by rw [lrep_length, ← hz]) e5
      · cases hc
    · cases hc
  · cases hc
end
end Eng
