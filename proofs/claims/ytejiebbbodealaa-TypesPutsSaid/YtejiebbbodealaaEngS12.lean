/- The engine's soundness, part 12: operations that turn the heap. -/
import Derived.Test.YtejiebbbodealaaEngS11
set_option linter.unusedVariables false
set_option linter.unusedSimpArgs false
namespace Eng
open Go Go.RowKit
section
variable {P : Program} {μ μ' : Mp} {h h' : Hp} {w w' : World} {t : T} {ρ : Operand → Value} {ty : TypeId}
theorem setCell_heap {c o : Nat} {v : Value} {arr : Array Value} {e : TypeId} {fr : Nat × Nat} (hw : w.heap[c]? = some (.cells arr e fr)) :
    (w.setCell ⟨c, o, none⟩ v).heap[c]? = some (.cells (arr.setIfInBounds o v) e fr) ∧ (∀ c', c' ≠ c → (w.setCell ⟨c, o, none⟩ v).heap[c']? = w.heap[c']?) ∧ (w.setCell ⟨c, o, none⟩ v).heap.size = w.heap.size := by
  refine ⟨?_, fun c' hc => ?_, by simp [World.setCell]⟩
  · simp only [World.setCell, Array.getElem?_modify]
    simp [hw]
  · simp only [World.setCell, Array.getElem?_modify]
    rw [if_neg (fun e => hc e.symm)]
theorem setCells_heap {c : Nat} {e : TypeId} {fr : Nat × Nat} : ∀ {vs : List Value} {o : Nat} {w : World} {arr : Array Value}, w.heap[c]? = some (.cells arr e fr) → o + vs.length ≤ arr.size →
    (∃ arr', (w.setCells c o vs).heap[c]? = some (.cells arr' e fr) ∧ arr'.toList = arr.toList.take o ++ vs ++ arr.toList.drop (o + vs.length)) ∧
    (∀ c', c' ≠ c → (w.setCells c o vs).heap[c']? = w.heap[c']?) ∧ (w.setCells c o vs).heap.size = w.heap.size ∧ (w.setCells c o vs).os = w.os ∧ (w.setCells c o vs).tape = w.tape ∧ (w.setCells c o vs).output = w.output
  | [], o, w, arr, hw, _ => ⟨⟨arr, hw, by simp⟩, fun _ _ => rfl, rfl, rfl, rfl, rfl⟩
  | v :: vs, o, w, arr, hw, hl => by
    obtain ⟨h1, h2, h3⟩ := setCell_heap (o := o) (v := v) hw
    obtain ⟨⟨arr', h4, h5⟩, h6, h7, h8, h9, h10⟩ := setCells_heap (vs := vs) (o := o + 1) h1 (by simp at hl ⊢; omega)
    refine ⟨⟨arr', h4, ?_⟩, fun c' hc => (h6 c' hc).trans (h2 c' hc), h7.trans h3, h8, h9, h10⟩
    rw [h5, Array.toList_setIfInBounds]
    have hlt : o < arr.toList.length := by simp at hl ⊢; omega
    rw [List.take_succ_eq_append_getElem (by simpa using hlt), List.getElem_set_self, List.take_set_of_le (Nat.le_refl _), List.drop_set_of_lt (by omega)]
    rw [show o + 1 + vs.length = o + (v :: vs).length by simp; omega]
    simp
theorem cell_of_heap {c o : Nat} {arr : Array Value} {e : TypeId} {fr : Nat × Nat} (hw : w.heap[c]? = some (.cells arr e fr)) : w.cell? ⟨c, o, none⟩ = arr[o]? := by simp [World.cell?, hw]
theorem frozen_of_heap {c o : Nat} {arr : Array Value} {e : TypeId} {fr : Nat × Nat} (hw : w.heap[c]? = some (.cells arr e fr)) (hu : Unmarked arr.size fr) (ho : o < arr.size) : w.frozen? ⟨c, o, none⟩ = false := by
  simp only [World.frozen?, hw]; exact hu.at_ o ho
theorem run_storeCells_own {c o : Nat} {vs : List Value} {arr : Array Value} {e : TypeId} {fr : Nat × Nat} (hw : w.heap[c]? = some (.cells arr e fr)) (hu : Unmarked arr.size fr) (hl : o + vs.length ≤ arr.size)
    (h1 : ∀ v ∈ vs, v.oneCell' = true) : (storeCells ⟨c, o, none⟩ vs).run P w = .ok () (w.setCells c o vs) := by
  have := run_storeCells_cells (P := P) c o vs 0 w (fun j hj => by
      rw [cell_of_heap hw, Nat.add_zero]
      simp; omega) (fun j hj => by rw [Nat.add_zero]; exact frozen_of_heap hw hu (by omega)) h1
  rwa [Nat.add_zero] at this
theorem put_inv {b n : Nat} {cs : List AV} {ow : Own} {v u : AV} (e : put h b cs n ow v = .ok u h') : v = u ∧ ow ≠ .ro ∧ h'.next = h.next ∧ hget h' b = some (.cells cs n .solo) ∧
    ∀ b', b' ≠ b → (hget h' b' = hget h b' ∧ ow ≠ .pair b') ∨ (ow = .pair b' ∧ hget h' b' = some .dead) := by
  cases ow with
  | ro => cases e
  | solo =>
    cases e
    exact ⟨rfl, nofun, rfl, hget_hset _ _ _, fun b' hb => .inl ⟨hget_hset_ne _ _ hb, nofun⟩⟩
  | pair p =>
    cases e
    refine ⟨rfl, nofun, rfl, hget_hset _ _ _, fun b' hb => ?_⟩
    by_cases hp : b' = p
    · subst hp
      exact .inr ⟨rfl, by rw [hget_hset_ne _ _ hb, hget_hset]⟩
    · exact .inl ⟨by rw [hget_hset_ne _ _ hb, hget_hset_ne _ _ hp], fun hh => hp (Own.pair.inj hh).symm⟩
theorem Sim.write (hs : Sim μ h w) {b c s o n : Nat} {cs : List AV} {ow : Own} {v u : AV} {vs : List AV} {xs : List Value} (hb : μ.at_ b = some (c, s)) (hg : hget h b = some (.cells cs n ow))
    (ho : o + vs.length ≤ n) (hcell : ∀ v ∈ vs, isCell v = true) (r : VRs μ vs xs) {cs' : List AV} (hcs : cs' = cs.take o ++ vs ++ cs.drop (o + vs.length)) (hput : put h b cs' n ow v = .ok u h') :
    ∃ w', (storeCells ⟨c, s + o, none⟩ xs).run P w = .ok () w' ∧ Goes μ h w μ h' w' ∧ Sim μ h' w' ∧ v = u := by
  obtain ⟨rfl, hro, hnext, hgb, hoth⟩ := put_inv hput
  obtain ⟨hl, hc, hown, arr, el, fr, hw, hsz, hun, hcells⟩ := hs.blk b c s _ hb hg
  have hoc : μ.own c = true := hown.2 hro
  have hun := hun hoc
  have hlen := r.length
  obtain ⟨w', hrun, arr', hw', hsz', hin, hout, hother, hsize, hos, htape, houtp⟩ : ∃ w', (storeCells ⟨c, s + o, none⟩ xs).run P w = .ok () w' ∧ ∃ arr' : Array Value, w'.heap[c]? = some (.cells arr' el fr) ∧ arr'.size = arr.size ∧
      (∀ j x, xs[j]? = some x → arr'[s + o + j]? = some x) ∧ (∀ i, (i < s + o ∨ s + o + xs.length ≤ i) → arr'[i]? = arr[i]?) ∧
      (∀ c', c' ≠ c → w'.heap[c']? = w.heap[c']?) ∧ w'.heap.size = w.heap.size ∧ w'.os = w.os ∧ w'.tape = w.tape ∧ w'.output = w.output := by
    by_cases hv0 : xs = []
    · subst hv0
      exact ⟨w, rfl, arr, hw, rfl, fun j x hx => by simp at hx, fun _ _ => rfl, fun _ _ => rfl, rfl, rfl, rfl, rfl⟩
    · have hpos : 0 < xs.length := List.length_pos_iff.2 hv0
      have hroom : s + o + xs.length ≤ arr.size := by
        have := hs.room hb hg (by omega)
        omega
      have h1 : ∀ x ∈ xs, x.oneCell' = true := fun x hx => by
        obtain ⟨j, hj, rfl⟩ := List.mem_iff_getElem.1 hx
        obtain ⟨v', hv'⟩ : ∃ v', vs[j]? = some v' := ⟨_, List.getElem?_eq_getElem (by omega)⟩
        obtain ⟨y, hy, ry⟩ := r.get j v' hv'
        rw [List.getElem?_eq_getElem hj] at hy
        rw [Option.some.inj hy]
        exact ry.oneCell (hcell v' (List.mem_of_getElem? hv'))
      obtain ⟨⟨arr', h2, h3⟩, h4, h5, h6, h7, h8⟩ := setCells_heap (vs := xs) hw hroom
      have hsz2 : arr'.size = arr.size := by
        have := congrArg List.length h3
        simp at this; omega
      refine ⟨_, run_storeCells_own hw hun hroom h1, arr', h2, hsz2, fun j x hx => ?_, fun i hi => ?_, h4, h5, h6, h7, h8⟩
      · have hj := (List.getElem?_eq_some_iff.1 hx).1
        rw [← Array.getElem?_toList, h3, List.append_assoc, List.getElem?_append_right (by simp; omega)]
        rw [List.getElem?_append_left (by simp; omega), ← hx]
        congr 1; simp; omega
      · rw [← Array.getElem?_toList, h3, List.append_assoc]
        rcases hi with hi | hi
        · rw [List.getElem?_append_left (by simp; omega), List.getElem?_take, if_pos hi, Array.getElem?_toList]
        · rw [List.getElem?_append_right (by simp; omega), List.getElem?_append_right (by simp; omega), List.getElem?_drop, Array.getElem?_toList]
          congr 1; simp; omega
  have hle : μ.Le μ := Mp.Le.refl μ
  have hother' : ∀ b' x, b' ≠ b → hget h' b' = some x → x ≠ .dead → hget h b' = some x ∧ ow ≠ .pair b' := fun b' x hbb hx hd => by
    rcases hoth b' hbb with ⟨h1, h2⟩ | ⟨h1, h2⟩
    · exact ⟨by rw [← h1]; exact hx, h2⟩
    · rw [h2] at hx; cases hx; exact absurd rfl hd
  refine ⟨w', hrun, ?_, ?_, rfl⟩
  · refine ⟨by rw [hnext]; exact Nat.le_refl _, fun _ _ => rfl, fun _ _ => rfl, fun _ _ => rfl, by omega, fun c' _ hf => hother c' (fun e => by rw [e, hoc] at hf; cases hf), fun b' _ hn => ?_, hos, htape, houtp⟩
    by_cases hbb : b' = b
    · subst hbb; rw [hb] at hn; cases hn
    · rcases hoth b' hbb with ⟨h1, _⟩ | ⟨h1, h2⟩
      · exact h1
      · subst h1
        obtain ⟨y, hy⟩ := hs.peer b c s cs n b' hb hg
        rw [hn] at hy; cases hy
  · refine ⟨fun b' hb' => hs.lt b' (by omega), fun b' hb' => ?_, fun b' c' s' e => by rw [hsize]; exact hs.old b' c' s' e, fun b' c' s' x e hx => ?_, fun b1 b2 c' s1 s2 x1 x2 hne e1 e2 hoo g1 g2 d1 d2 => ?_, fun b' c' s' cs2 n2 p e g => ?_⟩
    · have hbb : b' ≠ b := fun e => by
        subst e
        have := hs.lt b' (by omega)
        rw [hb] at this; cases this
      rcases hoth b' hbb with ⟨h1, _⟩ | ⟨h1, h2⟩
      · rw [h1]; exact hs.fresh b' (by omega)
      · subst h1
        obtain ⟨y, hy⟩ := hs.peer b c s cs n b' hb hg
        rw [hs.lt b' (by omega)] at hy; cases hy
    · by_cases hbb : b' = b
      · subst hbb
        rw [hgb] at hx; cases hx
        rw [hb] at e; cases e
        have hl' : cs'.length = n := by rw [hcs]; simp; omega
        refine ⟨hl', fun v' hv' => ?_, ⟨fun _ => nofun, fun _ => hoc⟩, arr', el, fr, hw', by rw [hsz']; exact hsz, fun _ => by rw [hsz']; exact hun, fun i v' hv' => ?_⟩
        · rw [hcs] at hv'
          simp only [List.mem_append] at hv'
          rcases hv' with (hv' | hv') | hv'
          · exact hc v' (List.mem_of_mem_take hv')
          · exact hcell v' hv'
          · exact hc v' (List.mem_of_mem_drop hv')
        · rw [hcs, List.append_assoc] at hv'
          by_cases h1 : i < o
          · rw [List.getElem?_append_left (by simp; omega), List.getElem?_take, if_pos h1] at hv'
            rw [hout (s + i) (.inl (by omega))]
            exact hcells i v' hv'
          · rw [List.getElem?_append_right (by simp; omega)] at hv'
            by_cases h2 : i < o + vs.length
            · rw [List.getElem?_append_left (by simp; omega)] at hv'
              obtain ⟨x, hx, rx⟩ := r.get _ _ hv'
              refine ⟨x, ?_, rx⟩
              have := hin _ _ hx
              rw [← this]; congr 1
              simp; omega
            · rw [List.getElem?_append_right (by simp; omega), List.getElem?_drop] at hv'
              rw [hout (s + i) (.inr (by omega))]
              refine hcells i v' ?_
              rw [← hv']; congr 1; simp; omega
      · by_cases hd : x = .dead
        · subst hd; trivial
        · obtain ⟨hx', hp⟩ := hother' b' x hbb hx hd
          have hr := hs.blk b' c' s' x e hx'
          by_cases hcc : c' = c
          · subst hcc
            obtain ⟨_, _, _, _, h1, _⟩ := hs.apart b b' c' s s' _ x (fun e => hbb e.symm) hb e hoc hg hx' nofun hd
            cases h1
            exact absurd rfl hp
          · exact hr.mono hle (hother c' hcc) rfl rfl
    · by_cases hb1 : b1 = b
      · subst hb1
        obtain ⟨hx', hp⟩ := hother' b2 x2 (fun e => hne e.symm) g2 d2
        rw [hb] at e1; cases e1
        obtain ⟨_, _, _, _, h1, _⟩ := hs.apart b1 b2 c s s2 _ x2 hne hb e2 hoo hg hx' nofun d2
        cases h1; exact absurd rfl hp
      · by_cases hb2 : b2 = b
        · subst hb2
          obtain ⟨hx', hp⟩ := hother' b1 x1 hne g1 d1
          rw [hb] at e2; cases e2
          obtain ⟨_, _, _, _, h1, _⟩ := hs.apart b2 b1 c s s1 _ x1 (fun e => hne e.symm) hb e1 hoo hg hx' nofun d1
          cases h1; exact absurd rfl hp
        · exact hs.apart b1 b2 c' s1 s2 x1 x2 hne e1 e2 hoo (hother' b1 x1 hb1 g1 d1).1 (hother' b2 x2 hb2 g2 d2).1 d1 d2
    · by_cases hbb : b' = b
      · subst hbb; rw [hgb] at g; cases g
      · exact hs.peer b' c' s' cs2 n2 p e (hother' b' _ hbb g nofun).1
end
end Eng
