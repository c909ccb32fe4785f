/- The engine's soundness, part 16: copies, clears, marks, maps. -/
import Derived.Test.YtejiebbbodealaaEngS15
set_option linter.unusedVariables false
set_option linter.unusedSimpArgs false
namespace Eng
open Go Go.RowKit
section
variable {P : Program} {μ μ' : Mp} {h h' : Hp} {w w' : World} {t : T} {ρ : Operand → Value} {ty : TypeId}
theorem copy_ok (hs : Sim μ h w) {ret el : TypeId} {ts : List TypeId} {sz : Nat} {d x : AX} {yd xv : Value} {v : AV} (hu : P.underlying ty = some (.slice el)) (hsz : szOf P el = some sz) (hpos : sz ≠ 0)
    (rd : VR μ (evX d t) yd) (rx : VR μ (evX x t) xv) (e : oCopy sz d x t h = .ok v h') : EffV P μ h w (Builtin.copy_ (ty :: ts).toArray ret #[yd, xv]) v h' := by
  have e : src h sz (evX x t) RV.no (fun m xs => (evX d t).asSlice .no (rvN 0 h) fun b o n _ z _ => bc (Nat.beq z sz) (bc (Nat.beq (cut m n) 0) (rvN 0 h)
    (wrN h b o (bc (Nat.ble m n) xs (take xs (Nat.mul n sz))) (Nat.mul (cut m n) sz) (.int .i64 (.ofNat (cut m n))))) .no) = .ok v h' := e
  obtain ⟨m, l, xs, e1, rl, hl, hcell, hlen, hf⟩ := src_ok (P := P) hs hpos rx e nofun
  rcases asSlice_inv e1 nofun with ⟨hd, e2⟩ | ⟨b, o, n, c, z, ex, hd, e2⟩
  · rw [hd, VR_nilSlice] at rd; subst rd
    cases e2
    refine ⟨μ, w, goInt 0, ?_, .refl hs, hs, by simp [goInt]⟩
    simp [Builtin.copy_, run_underlying hu, hlen, run_sizeOf hsz, hf 0 (Nat.zero_le _) w rfl]
  · obtain ⟨rfl, e3⟩ := beq_inv e2 nofun
    rw [hd, VR_slice] at rd
    obtain ⟨c0, s, s', cp', hb, rfl, h1, h2, h3, h4⟩ := rd
    rw [cut_eq, bc_beq] at e3
    have hmin : Nat.min m n = min m n := rfl
    split at e3
    · rename_i h0
      cases e3
      refine ⟨μ, w, goInt 0, ?_, .refl hs, hs, by simp [goInt]⟩
      simp only [Builtin.copy_, Sem.run_bind, run_underlying hu, hlen, run_sizeOf hsz, Result.andThen_ok, Sem.run_pure, hmin, h0, hf 0 (Nat.zero_le _) w rfl, List.getElem?_toArray, List.getElem?_cons_zero, List.getElem?_cons_succ, Nat.zero_mul, List.take_zero]
      rfl
    · rename_i h0
      have hc0 : cp' ≠ 0 := by omega
      obtain ⟨rfl, _⟩ := h4 hc0
      have hsel : bc (Nat.ble m n) l (take l (Nat.mul n z)) = l.take (min m n * z) := by
        rw [bc_ble, take_eq]
        split
        · rename_i hmn; rw [Nat.min_eq_left hmn, List.take_of_length_le (by omega)]
        · rename_i hmn; rw [Nat.min_eq_right (by omega)]; rfl
      rw [hsel] at e3
      have hmz : min m n * z ≤ m * z := Nat.mul_le_mul_right _ (Nat.min_le_left _ _)
      obtain ⟨w', k1, k2, k3, k4⟩ := wrN_ok (P := P) (vs := l.take (min m n * z)) (xs := xs.take (min m n * z)) (m := min m n * z) hs hb (rl.take _) (fun v hv => hcell v (List.mem_of_mem_take hv)) (by rw [List.length_take]; omega) e3
      subst k4
      refine ⟨μ, w', goInt ((min m n : Nat) : Int), ?_, k2, k3, by simp [goInt]⟩
      simp only [Builtin.copy_, Sem.run_bind, run_underlying hu, hlen, run_sizeOf hsz, Result.andThen_ok, Sem.run_pure, hmin, hf (min m n) (Nat.min_le_left _ _) w rfl, k1, List.getElem?_toArray, List.getElem?_cons_zero, List.getElem?_cons_succ]
theorem clear_ok (hs : Sim μ h w) {ret el : TypeId} {z : AV} {x : AX} {xv : Value} {v : AV} (hu : P.underlying ty = some (.slice el)) (hz : zeroOf P el = some z)
    (rx : VR μ (evX x t) xv) (e : oClear (cellsC z) x t h = .ok v h') : EffV P μ h w (Builtin.clear_ #[ty] ret #[xv]) v h' := by
  have hun : VR μ undef (.tuple #[]) := by show VR μ (.tuple []) _; rw [VR_tuple]; exact ⟨#[], rfl, by rw [VRs_nil]⟩
  rcases asSlice_inv e nofun with ⟨hx, e2⟩ | ⟨b, o, n, c, s, ex, hx, e2⟩
  · rw [hx, VR_nilSlice] at rx; subst rx
    cases e2
    exact ⟨μ, w, _, by simp [Builtin.clear_, run_underlying hu], .refl hs, hs, hun⟩
  · rw [hx, VR_slice] at rx
    obtain ⟨c0, s0, s', cp', hb, rfl, h1, h2, h3, h4⟩ := rx
    rw [bc_beq] at e2
    split at e2
    · subst n
      cases e2
      exact ⟨μ, w, _, by simp [Builtin.clear_, run_underlying hu], .refl hs, hs, hun⟩
    · rename_i h0
      obtain ⟨hls, e3⟩ := beq_inv e2 nofun
      obtain ⟨hcell, e4⟩ := bc_inv e3 nofun
      rw [lall_iff] at hcell
      rw [len_eq] at hls
      have hc0 : cp' ≠ 0 := by omega
      obtain ⟨rfl, _⟩ := h4 hc0
      obtain ⟨xz, rz, hzr⟩ := zeroOf_ok (μ := μ) hz
      have rzc := rz.cells
      rw [cellsC_eq] at hls hcell e4
      have hzs : xz.cells.size = s := by have := rzc.length; simp at this; omega
      have rr : VRs μ (lrep (cellsOf z) n) (Builtin.zeroCells xz.cells n).toList := by
        by_cases hz0 : cellsOf z = []
        · have h1 : lrep (cellsOf z) n = [] := List.eq_nil_of_length_eq_zero (by rw [lrep_length, hz0]; simp)
          have h2 : (Builtin.zeroCells xz.cells n).toList = [] := List.eq_nil_of_length_eq_zero (by rw [Array.length_toList, zeroCells_size, hzs, ← hls, hz0]; simp)
          rw [h1, h2, VRs_nil]
        · have := rep_get rzc n hz0
          unfold Builtin.zeroCells
          rw [hzs, ← hls]; rw [hzs, ← hls] at this; exact this
      obtain ⟨w', k1, k2, k3, k4⟩ := wrN_ok (P := P) hs hb rr (fun v hv => hcell v (lrep_mem hv)) (by rw [lrep_length, hls]; rfl) e4
      subst k4
      refine ⟨μ, w', _, ?_, k2, k3, hun⟩
      obtain ⟨n', rfl⟩ : ∃ n', n = n' + 1 := ⟨n - 1, by omega⟩
      simp [Builtin.clear_, run_underlying hu, hzr, k1]
theorem mark_ok (hs : Sim μ h w) {src dst el : TypeId} {x : AX} {xv : Value} {v : AV} (hsd : src = dst) (hu : P.underlying dst = some (.slice el)) (he : P.underlying el = some (.int .u8)) (rx : VR μ (evX x t) xv)
    (e : oMark x t h = .ok v h') : EffV P μ h w (convert src dst xv) v h' := by
  subst hsd
  rcases asSlice_inv e nofun with ⟨hx, e2⟩ | ⟨b, o, n, c, s, ex, hx, e2⟩
  · cases e2
  · obtain ⟨cs, k, ow, hg, e3⟩ := hcells_inv e2 nofun
    have hres : ow ≠ .ro ∧ v = evX x t ∧ h' = h := by
      cases ow with
      | ro => cases e3
      | solo => cases e3; exact ⟨nofun, rfl, rfl⟩
      | pair p => cases e3; exact ⟨nofun, rfl, rfl⟩
    obtain ⟨hro, rfl, rfl⟩ := hres
    have rx0 := rx
    rw [hx, VR_slice] at rx
    obtain ⟨c0, s0, s', cp', hb, rfl, h1, h2, h3, h4⟩ := rx
    obtain ⟨hl, hcell, hown, arr, ael, fr, hw, hsz, hun, hcells⟩ := hs.blk b c0 s0 _ hb hg
    have hoc : μ.own c0 = true := hown.2 hro
    obtain ⟨fr', hfr', w', hw', hother, hsize, hrun, hos, ht, ho⟩ : ∃ fr', Unmarked arr.size fr' ∧ ∃ w' : World, w'.heap[c0]? = some (.cells arr ael fr') ∧ (∀ c', c' ≠ c0 → w'.heap[c']? = w.heap[c']?) ∧ w'.heap.size = w.heap.size ∧
        (convert src src (.slice (some ⟨c0, s', none⟩) n cp')).run P w = .ok (.slice (some ⟨c0, s', none⟩) n cp') w' ∧ w'.os = w.os ∧ w'.tape = w.tape ∧ w'.output = w.output := by
      obtain ⟨lo, hi⟩ := fr
      refine ⟨if lo == hi then (arr.size, arr.size + 1) else (min lo arr.size, max hi (arr.size + 1)), ?_, w.freeze ⟨c0, arr.size, none⟩ 1, ?_, fun c' hc' => ?_, ?_, ?_, ?_⟩
      · split
        · exact .inr (Nat.le_refl _)
        · rename_i hne
          rcases hun hoc with hh | hh
          · exact absurd (beq_iff_eq.2 hh) hne
          · exact .inr (by have hh : arr.size ≤ lo := hh; show arr.size ≤ min lo arr.size; omega)
      · unfold World.freeze
        rw [if_neg (by decide)]
        simp [Array.getElem?_modify, hw]
      · unfold World.freeze
        rw [if_neg (by decide)]
        simp only [Array.getElem?_modify]
        rw [if_neg (fun e => hc' e.symm)]
      · unfold World.freeze
        rw [if_neg (by decide)]
        simp
      · have hsh : w.shape? c0 = some (ael, arr.size) := by unfold World.shape?; rw [hw]
        have hmk : (markStringish ⟨c0, s', none⟩).run P w = .ok () (w.freeze ⟨c0, arr.size, none⟩ 1) := by
          simp only [markStringish, Sem.run_bind, run_shape, Result.andThen_ok, hsh, run_freeze]
        simp only [convert, Sem.run_bind, run_underlying hu, Result.andThen_ok, beq_self_eq_true, run_underlying he, hmk, Sem.run_pure]
      · unfold World.freeze
        rw [if_neg (by decide)]
        exact ⟨rfl, rfl, rfl⟩
    refine ⟨μ, w', _, hrun, ⟨Nat.le_refl _, fun _ _ => rfl, fun _ _ => rfl, fun _ _ => rfl, by omega, fun c' _ hf => hother c' (fun e => by rw [e, hoc] at hf; cases hf), fun _ _ _ => rfl, hos, ht, ho⟩, ?_, rx0⟩
    refine ⟨hs.lt, hs.fresh, fun b' c' s' e => by rw [hsize]; exact hs.old b' c' s' e, fun b' c' s' y e g => ?_, hs.apart, hs.peer⟩
    have hr := hs.blk b' c' s' y e g
    by_cases hcc : c' = c0
    · subst hcc
      cases y with
      | dead => trivial
      | mp es n2 ck =>
        obtain ⟨_, _, _, es', hm, _⟩ := hr
        rw [hw] at hm; cases hm
      | cells cs2 n2 ow2 =>
        obtain ⟨q1, q2, q3, arr2, q4, q5, q6, q7, q8, q9⟩ := hr
        rw [hw] at q6; cases q6
        exact ⟨q1, q2, q3, _, _, fr', hw', q7, fun _ => hfr', q9⟩
    · exact hr.mono (Mp.Le.refl μ) (hother c' hcc) rfl rfl
theorem run_setObj_map {c ck : Nat} {es : Array MapEntry} (hw : w.heap[c]? = some (.map es ck)) (o : Obj) : (setObj c o).run P w = .ok () { w with heap := w.heap.setIfInBounds c o } := by
  simp [setObj, Sem.run, hw]
theorem set_self {c : Nat} {o : Obj} (hw : w.heap[c]? = some o) : ({ w with heap := w.heap.setIfInBounds c o } : World) = w := by
  have : w.heap.setIfInBounds c o = w.heap := by
    apply Array.ext
    · simp
    · intro i h1 h2
      rw [Array.getElem_setIfInBounds]
      split
      · rename_i hci; subst hci
        have := Array.getElem?_eq_getElem h2
        rw [hw] at this; exact Option.some.inj this
      · rfl
  rw [this]
theorem Sim.mapSet (hs : Sim μ h w) {b c s n ck n2 ck2 : Nat} {es es2 : List (AV × AV × Nat)} {es2' : Array MapEntry} (hb : μ.at_ b = some (c, s)) (hg : hget h b = some (.mp es n ck)) (hn : es2.length = n2) (r : EntriesR μ es2 es2'.toList) :
    Sim μ (hset h b (.mp es2 n2 ck2)) { w with heap := w.heap.setIfInBounds c (.map es2' ck2) } ∧ Goes μ h w μ (hset h b (.mp es2 n2 ck2)) { w with heap := w.heap.setIfInBounds c (.map es2' ck2) } := by
  obtain ⟨h1, rfl, hoc, es', hw, hes⟩ := hs.blk b c s _ hb hg
  have hother : ∀ c', c' ≠ c → (w.heap.setIfInBounds c (.map es2' ck2))[c']? = w.heap[c']? := fun c' hc' => by
    rw [Array.getElem?_setIfInBounds_ne (fun e => hc' e.symm)]
  have hlt := hs.old b c 0 hb
  have hself : (w.heap.setIfInBounds c (.map es2' ck2))[c]? = some (.map es2' ck2) := by
    rw [Array.getElem?_setIfInBounds_self_of_lt hlt]
  have hbl : b < h.next := by
    rcases Nat.lt_or_ge b h.next with hh | hh
    · exact hh
    · rw [hs.lt b hh] at hb; cases hb
  have halone : ∀ b' s' x, b' ≠ b → μ.at_ b' = some (c, s') → hget h b' = some x → x = .dead := fun b' s' x hne e g => by
    by_cases hd : x = .dead
    · exact hd
    · obtain ⟨_, _, _, _, hh, _⟩ := hs.apart b b' c 0 s' _ x hne.symm hb e hoc hg g nofun hd
      cases hh
  refine ⟨⟨hs.lt, fun b' hb' => ?_, fun b' c' s' e => ?_, fun b' c' s' x e g => ?_, fun b1 b2 c' s1 s2 x1 x2 hne e1 e2 ho g1 g2 d1 d2 => ?_, fun b' c' s' cs2 n2 p e g => ?_⟩,
    ⟨Nat.le_refl _, fun _ _ => rfl, fun _ _ => rfl, fun _ _ => rfl, by show _ ≤ (w.heap.setIfInBounds c _).size; simp, fun c' _ hf => hother c' (fun e => by rw [e, hoc] at hf; cases hf), fun b' _ hn => ?_, rfl, rfl, rfl⟩⟩
  · rw [hget_hset_ne _ _ (by have : h.next ≤ b' := hb'; omega)]; exact hs.fresh b' hb'
  · show c' < (w.heap.setIfInBounds c _).size
    simp; exact hs.old b' c' s' e
  · by_cases hbb : b' = b
    · subst hbb
      rw [hget_hset] at g; cases g
      rw [hb] at e; cases e
      exact ⟨hn, rfl, hoc, es2', hself, r⟩
    · rw [hget_hset_ne _ _ hbb] at g
      by_cases hcc : c' = c
      · subst hcc; rw [halone b' s' x hbb e g]; trivial
      · exact (hs.blk b' c' s' x e g).mono (Mp.Le.refl μ) (hother c' hcc) rfl rfl
  · by_cases hb1 : b1 = b
    · subst hb1
      rw [hget_hset_ne _ _ hne.symm] at g2
      rw [hb] at e1; cases e1
      exact absurd (halone b2 s2 x2 hne.symm e2 g2) d2
    · rw [hget_hset_ne _ _ hb1] at g1
      by_cases hb2 : b2 = b
      · subst hb2
        rw [hb] at e2; cases e2
        exact absurd (halone b1 s1 x1 hb1 e1 g1) d1
      · rw [hget_hset_ne _ _ hb2] at g2
        exact hs.apart b1 b2 c' s1 s2 x1 x2 hne e1 e2 ho g1 g2 d1 d2
  · by_cases hbb : b' = b
    · subst hbb; rw [hget_hset] at g; cases g
    · rw [hget_hset_ne _ _ hbb] at g; exact hs.peer b' c' s' cs2 n2 p e g
  · exact hget_hset_ne _ _ (fun e => by subst e; rw [hb] at hn; cases hn)
theorem keyEq_false {x y : AV} {β : Type} {z : β} {k : Bool → β} (e : keyEq x y true (fun b => b) = false) : keyEq x y z k = k false := by
  unfold keyEq at *
  cases x
  case int i a =>
    cases y
    case int j b =>
      have e : bc (ikEq i j) (eqI a b) true = false := e
      show bc (ikEq i j) (k (eqI a b)) z = k false
      cases hij : ikEq i j
      · rw [hij] at e; cases e
      · rw [hij] at e
        have e : eqI a b = false := e
        rw [e]; rfl
    all_goals cases e
  case str a =>
    cases y
    case str b =>
      have e : strEq a b = false := e
      show k (strEq a b) = _
      rw [e]
    all_goals cases e
  all_goals cases e
theorem keyEq_self {x : AV} {β : Type} {z : β} {k : Bool → β} (hk : isKey x = true) : keyEq x x z k = k true := by
  rcases isKey_inv hk with ⟨i, n, rfl⟩ | ⟨s, rfl⟩
  · show bc (ikEq i i) (k (eqI n n)) z = _
    have : ikEq i i = true := by cases i <;> rfl
    rw [this, eqI_eq]; simp [bc]
  · show k (strEq s s) = _
    rw [strEq_iff]; simp
theorem ins_eq {x v : AV} (hx : isKey x = true) : ∀ {es : List (AV × AV × Nat)} {j : Nat} {u : AV} {n : Nat}, es[j]? = some (x, u, n) → (∀ j', j' < j → ∀ (k' v : AV) (n : Nat), es[j']? = some (k', v, n) → keyEq x k' true (fun b => b) = false) →
    ins x v es = es.set j (x, v, n)
  | [], j, u, n, e, _ => by simp at e
  | (k1, v1, n1) :: es, 0, u, n, e, _ => by
    simp at e
    obtain ⟨rfl, rfl, rfl⟩ := e
    show keyEq k1 k1 _ (fun b => bc b ((k1, v, n1) :: es) ((k1, v1, n1) :: ins k1 v es)) = _
    rw [keyEq_self hx]; rfl
  | (k1, v1, n1) :: es, j + 1, u, n, e, hlt => by
    show keyEq x k1 _ (fun b => bc b ((x, v, n1) :: es) ((k1, v1, n1) :: ins x v es)) = _
    rw [keyEq_false (hlt 0 (by omega) k1 v1 n1 rfl), ins_eq hx (by simpa using e) (fun j' hj' k' v n hh => hlt (j' + 1) (by omega) k' v n (by simpa using hh))]
    rfl
theorem del_eq {x : AV} (hx : isKey x = true) : ∀ {es : List (AV × AV × Nat)} {j : Nat} {u : AV} {n : Nat}, es[j]? = some (x, u, n) → (∀ j', j' < j → ∀ (k' v : AV) (n : Nat), es[j']? = some (k', v, n) → keyEq x k' true (fun b => b) = false) →
    del x es = es.eraseIdx j
  | [], j, u, n, e, _ => by simp at e
  | (k1, v1, n1) :: es, 0, u, n, e, _ => by
    simp at e
    obtain ⟨rfl, rfl, rfl⟩ := e
    show keyEq k1 k1 _ (fun b => bc b es ((k1, v1, n1) :: del k1 es)) = _
    rw [keyEq_self hx]; rfl
  | (k1, v1, n1) :: es, j + 1, u, n, e, hlt => by
    show keyEq x k1 _ (fun b => bc b es ((k1, v1, n1) :: del x es)) = _
    rw [keyEq_false (hlt 0 (by omega) k1 v1 n1 rfl), del_eq hx (by simpa using e) (fun j' hj' k' v n hh => hlt (j' + 1) (by omega) k' v n (by simpa using hh))]
    rfl
theorem key_same {a : AV} {x y : Value} (hg : isKey a = true) (rx : VR μ a x) (ry : VR μ a y) : x = y ∧ Instr.sameBits 10000 x y = true := by
  rcases isKey_inv hg with ⟨i, n, rfl⟩ | ⟨s, rfl⟩
  · rw [VR_int] at rx ry; subst rx; subst ry
    exact ⟨rfl, by simp [Instr.sameBits]⟩
  · rw [VR_str] at rx ry
    obtain ⟨p, rfl, rfl⟩ := rx
    obtain ⟨q, rfl, hq⟩ := ry
    have := byteList_inj hq
    subst this
    exact ⟨rfl, by simp [Instr.sameBits, beq_toListBytes]⟩
theorem mapUpdate_ok (hs : Sim μ h w) {kt el : TypeId} {s : Bool} {m k x : AX} {ym yk yx : Value} {v : AV} (hu : P.underlying ty = some (.map kt el)) (hk : keyOk P kt = some s) (rm : VR μ (evX m t) ym) (rk : VR μ (evX k t) yk) (rx : VR μ (evX x t) yx)
    (e : oMapUpdate s m k x t h = .ok v h') : Eff P μ h w (do Instr.mapUpdate ty ym yk yx; pure .skip) v h' := by
  obtain ⟨hg, e1⟩ := bc_inv e nofun
  obtain ⟨d, hd, hkt⟩ := keyOk_inv hk
  have hck := fun b w => run_checkKey (P := P) (μ := μ) hd hkt hg rk b w
  rcases asMap_inv e1 nofun with ⟨_, e2⟩ | ⟨b, hm, e2⟩
  · cases e2
  rw [hm, VR_map] at rm
  obtain ⟨c, s0, hb, rfl⟩ := rm
  have e2 : hmap h b RV.no (fun es n c => look (evX k t) es .no fun r => ocase (.ok undef (hset h b (.mp (app es [(evX k t, evX x t, c)]) (Nat.succ n) (Nat.succ c))))
    (fun _ => .ok undef (hset h b (.mp (ins (evX k t) (evX x t) es) n c))) r) = .ok v h' := e2
  obtain ⟨es, n, ck, hget, e3⟩ := hmap_inv e2 nofun
  obtain ⟨hn, _, _, es', hw, hlen, hes⟩ := hs.map hb hget
  have hik := goodKey_isKey hg
  rcases findNow_ok hkt rk hg 0 hlen hes e3 nofun with ⟨h1, h2, _⟩ | ⟨j, k', u, n', en, h5, h6, _, h7, rfl, h8, h9, h10⟩
  · cases h1
    rw [app_eq]
    obtain ⟨k1, k2⟩ := hs.mapSet (es2 := es ++ [(evX k t, evX x t, ck)]) (es2' := es'.push { key := yk, val := yx, born := ck }) (n2 := n + 1) (ck2 := ck + 1) hb hget (by simp [hn]) (by
      refine ⟨by simp at hlen ⊢; omega, fun i k0 v0 n0 hi => ?_⟩
      rw [Array.toList_push]
      rcases Nat.lt_or_ge i es.length with hil | hil
      · rw [List.getElem?_append_left hil] at hi
        obtain ⟨q1, e, q2, q3⟩ := hes i k0 v0 n0 hi
        exact ⟨q1, e, by rw [List.getElem?_append_left (by omega)]; exact q2, q3⟩
      · rw [List.getElem?_append_right hil] at hi
        obtain rfl : i = es.length := by
          have := (List.getElem?_eq_some_iff.1 hi).1
          simp at this; omega
        simp at hi
        obtain ⟨rfl, rfl, rfl⟩ := hi
        refine ⟨hik, { key := yk, val := yx, born := ck }, ?_, rk, rx, rfl⟩
        rw [List.getElem?_append_right (by omega), hlen]; simp)
    refine ⟨μ, _, .skip, ?_, k2, k1, .inr ⟨rfl, rfl⟩⟩
    simp only [Instr.mapUpdate, Sem.run_bind, run_underlying hu, run_getObj_map hw, hck, Instr.findKey, run_underlying hd, h2, Result.andThen_ok, Sem.run_pure, run_setObj_map hw]
  · cases h8
    rw [ins_eq hik h5 h10]
    obtain ⟨hkk, hbits⟩ := key_same hik h7 rk
    have hj : j < es'.size := by have := (List.getElem?_eq_some_iff.1 h6).1; simpa using this
    obtain ⟨k1, k2⟩ := hs.mapSet (es2 := es.set j (evX k t, evX x t, n')) (es2' := es'.modify j fun e => { e with key := yk, val := yx }) (n2 := n) (ck2 := ck) hb hget (by simp [hn]) (by
      refine ⟨by simp at hlen ⊢; omega, fun i k0 v0 n0 hi => ?_⟩
      rw [Array.getElem?_toList, Array.getElem?_modify]
      rw [List.getElem?_set] at hi
      split at hi
      · rename_i hji
        subst hji
        split at hi
        · simp at hi
          obtain ⟨rfl, rfl, rfl⟩ := hi
          rw [if_pos rfl, ← Array.getElem?_toList, h6]
          obtain ⟨_, e0, q2, _, _, q5⟩ := hes j _ _ _ h5
          rw [h6] at q2; cases q2
          exact ⟨hik, _, rfl, rk, rx, q5⟩
        · cases hi
      · rename_i hji
        rw [if_neg hji, ← Array.getElem?_toList]
        exact hes i k0 v0 n0 hi)
    refine ⟨μ, _, .skip, ?_, k2, k1, .inr ⟨rfl, rfl⟩⟩
    have hkey : ((es'[j]?).map (·.key)).getD yk = en.key := by
      rw [← Array.getElem?_toList, h6]; rfl
    simp only [Instr.mapUpdate, Sem.run_bind, run_underlying hu, run_getObj_map hw, hck, Instr.findKey, run_underlying hd, h9, Result.andThen_ok, Sem.run_pure, run_setObj_map hw, Instr.keyThatStays, Nat.zero_add, hkey, Sem.run_ite, if_pos hbits]
theorem delete_ok (hs : Sim μ h w) {kt el ret : TypeId} {ts : List TypeId} {d : TypeDesc} {s : Bool} {m k : AX} {ym yk : Value} {v : AV} (hu : P.underlying ty = some (.map kt el)) (hd : P.underlying kt = some d) (hkt : KeyT P s d) (rm : VR μ (evX m t) ym) (rk : VR μ (evX k t) yk)
    (e : oDelete s m k t h = .ok v h') : EffV P μ h w (Builtin.delete_ (ty :: ts).toArray ret #[ym, yk]) v h' := by
  have hun : VR μ undef (.tuple #[]) := by show VR μ (.tuple []) _; rw [VR_tuple]; exact ⟨#[], rfl, by rw [VRs_nil]⟩
  obtain ⟨hg, e1⟩ := bc_inv e nofun
  have hck := fun b w => run_checkKey (P := P) (μ := μ) hd hkt hg rk b w
  rcases asMap_inv e1 nofun with ⟨hm, e2⟩ | ⟨b, hm, e2⟩
  · cases e2
    rw [hm, VR_nilMap] at rm; subst rm
    refine ⟨μ, w, _, ?_, .refl hs, hs, hun⟩
    simp [Builtin.delete_, run_underlying hu, hck]
  rw [hm, VR_map] at rm
  obtain ⟨c, s0, hb, rfl⟩ := rm
  obtain ⟨es, n, ck, hget, e3⟩ := hmap_inv e2 nofun
  obtain ⟨hn, _, _, es', hw, hlen, hes⟩ := hs.map hb hget
  have hik := goodKey_isKey hg
  rcases findNow_ok hkt rk hg 0 hlen hes e3 nofun with ⟨h1, h2, _⟩ | ⟨j, k', u, n', en, h5, h6, _, h7, rfl, h8, h9, h10⟩
  · cases h1
    refine ⟨μ, w, _, ?_, .refl hs, hs, hun⟩
    simp only [Builtin.delete_, Sem.run_bind, run_underlying hu, run_getObj_map hw, hck, Instr.findKey, run_underlying hd, h2, Result.andThen_ok, Sem.run_pure, run_setObj_map hw, set_self hw, List.getElem?_toArray, List.getElem?_cons_zero, List.getElem?_cons_succ]
  · cases h8
    rw [del_eq hik h5 h10]
    have hj : j < es.length := (List.getElem?_eq_some_iff.1 h5).1
    obtain ⟨k1, k2⟩ := hs.mapSet (es2 := es.eraseIdx j) (es2' := es'.eraseIdxIfInBounds j) (n2 := n - 1) (ck2 := ck) hb hget (by rw [List.length_eraseIdx, if_pos hj, hn]) (by
      have ht : (es'.eraseIdxIfInBounds j).toList = es'.toList.eraseIdx j := by
        simp
      rw [ht]
      refine ⟨by rw [List.length_eraseIdx, List.length_eraseIdx, hlen], fun i k0 v0 n0 hi => ?_⟩
      rw [List.getElem?_eraseIdx] at hi ⊢
      split at hi
      · rw [if_pos (by assumption)]; exact hes i k0 v0 n0 hi
      · rw [if_neg (by assumption)]; exact hes (i + 1) k0 v0 n0 hi)
    refine ⟨μ, _, _, ?_, k2, k1, hun⟩
    simp only [Builtin.delete_, Sem.run_bind, run_underlying hu, run_getObj_map hw, hck, Instr.findKey, run_underlying hd, h9, Result.andThen_ok, Sem.run_pure, run_setObj_map hw, Nat.zero_add, List.getElem?_toArray, List.getElem?_cons_zero, List.getElem?_cons_succ]
end
end Eng
