/- The engine's soundness, part 9: quiet operations: maps, lengths, literals; and all in one. -/
import Derived.Test.YtejiebbbodealaaEngS8
set_option linter.unusedVariables false
set_option linter.unusedSimpArgs false
namespace Eng
open Go Go.RowKit
section
variable {P : Program} {μ : Mp} {h : Hp} {w : World} {t : T} {ρ : Operand → Value} {ty : TypeId}
theorem isKey_inv {a : AV} (hg : isKey a = true) : (∃ k n, a = .int k n) ∨ ∃ s, a = .str s := by
  cases a <;> first | (cases hg; done) | exact .inl ⟨_, _, rfl⟩ | exact .inr ⟨_, rfl⟩
theorem goodKey_inv {s : Bool} {a : AV} (hg : goodKey s a = true) : (s = false ∧ ∃ k n, a = .int k n) ∨ (s = true ∧ ∃ s, a = .str s) := by
  cases s <;> cases a <;> first | (cases hg; done) | exact .inl ⟨rfl, _, _, rfl⟩ | exact .inr ⟨rfl, _, rfl⟩
theorem goodKey_isKey {s : Bool} {a : AV} (hg : goodKey s a = true) : isKey a = true := by
  rcases goodKey_inv hg with ⟨_, _, _, rfl⟩ | ⟨_, _, rfl⟩ <;> rfl
def KeyT (P : Program) (s : Bool) (d : TypeDesc) : Prop := (s = false ∧ ∃ k, d = .int k) ∨ (s = true ∧ d = .string)
theorem keyOk_inv {kt : TypeId} {s : Bool} (e : keyOk P kt = some s) : ∃ d, P.underlying kt = some d ∧ KeyT P s d := by
  unfold keyOk at e
  split at e
  · cases e; exact ⟨_, by assumption, .inl ⟨rfl, _, rfl⟩⟩
  · cases e; exact ⟨_, by assumption, .inr ⟨rfl, rfl⟩⟩
  · cases e
theorem run_checkKey' {kt : TypeId} {d : TypeDesc} {s : Bool} (hd : P.underlying kt = some d) (hk : KeyT P s d) {a : AV} {x : Value} (hg : goodKey s a = true) (r : VR μ a x) (b : Bool) (n : Nat) (w : World) :
    (Instr.checkKey b (n + 1) kt x).run P w = .ok () w := by
  rcases goodKey_inv hg with ⟨rfl, k, n, rfl⟩ | ⟨rfl, s, rfl⟩
  · rw [VR_int] at r; subst r
    rcases hk with ⟨_, k', rfl⟩ | ⟨h, _⟩
    · simp [Instr.checkKey, run_underlying hd]
    · cases h
  · rw [VR_str] at r
    obtain ⟨s', rfl, rfl⟩ := r
    rcases hk with ⟨h, _⟩ | ⟨_, rfl⟩
    · cases h
    · simp [Instr.checkKey, run_underlying hd]
theorem run_checkKey {kt : TypeId} {d : TypeDesc} {s : Bool} (hd : P.underlying kt = some d) (hk : KeyT P s d) {a : AV} {x : Value} (hg : goodKey s a = true) (r : VR μ a x) (b : Bool) (w : World) :
    (Instr.checkKey b 10000 kt x).run P w = .ok () w := run_checkKey' hd hk hg r b 9999 w
theorem findNow_ok {β : Type} {s : Bool} {d : TypeDesc} {a : AV} {x : Value} (hk : KeyT P s d) (ra : VR μ a x) (hg : goodKey s a = true) :
    ∀ {es : List (AV × AV × Nat)} {es' : List MapEntry} {z r : β} {k : Option AV → β} (i : Nat), es'.length = es.length →
    (∀ (i : Nat) (k v : AV) (n : Nat), es[i]? = some (k, v, n) → isKey k = true ∧ ∃ e, es'[i]? = some e ∧ VR μ k e.key ∧ VR μ v e.val ∧ e.born = n) →
    look a es z k = r → z ≠ r →
    (k none = r ∧ Instr.findNow d x es' i = some none ∧ ∀ (j : Nat) (k' v : AV) (n : Nat), es[j]? = some (k', v, n) → keyEq a k' true (fun b => b) = false) ∨
    ∃ (j : Nat) (k' v : AV) (n : Nat) (e : MapEntry), es[j]? = some (k', v, n) ∧ es'[j]? = some e ∧ VR μ v e.val ∧ VR μ k' e.key ∧ k' = a ∧ k (some v) = r ∧ Instr.findNow d x es' i = some (some (i + j, e.val)) ∧
      (∀ j', j' < j → ∀ (k' v : AV) (n : Nat), es[j']? = some (k', v, n) → keyEq a k' true (fun b => b) = false)
  | [], es', z, r, k, i, hl, _, e, hz => by
    have : es' = [] := by simpa using hl
    subst this
    exact .inl ⟨e, rfl, fun j k' v n hj => by simp at hj⟩
  | (k1, v1, n1) :: es, [], z, r, k, i, hl, _, e, hz => by simp at hl
  | (k1, v1, n1) :: es, e1 :: es', z, r, k, i, hl, hes, e, hz => by
    obtain ⟨hg1, e0, he0, rk, rv, hb⟩ := hes 0 k1 v1 n1 rfl
    have he0 : e1 = e0 := by simpa using he0
    subst he0
    have e : keyEq a k1 z (fun b => bc b (k (some v1)) (look a es z k)) = r := e
    have hes' : ∀ (i : Nat) (k v : AV) (n : Nat), es[i]? = some (k, v, n) → isKey k = true ∧ ∃ e, es'[i]? = some e ∧ VR μ k e.key ∧ VR μ v e.val ∧ e.born = n :=
      fun i k v n hi => by
        have := hes (i + 1) k v n (by simpa using hi)
        simpa using this
    have key : ∃ b : Bool, bc b (k (some v1)) (look a es z k) = r ∧ Instr.sameNow d x e1.key = some b ∧ keyEq a k1 true (fun b => b) = b ∧ (b = true → k1 = a) := by
      rcases goodKey_inv hg with ⟨rfl, i1, m1, rfl⟩ | ⟨rfl, s1, rfl⟩
      · rcases isKey_inv hg1 with ⟨i2, m2, rfl⟩ | ⟨s2, rfl⟩
        · have e : bc (ikEq i1 i2) (bc (eqI m1 m2) (k (some v1)) (look (.int i1 m1) es z k)) z = r := e
          obtain ⟨rfl, e'⟩ := ikEq_inv e hz
          rw [VR_int] at ra rk
          subst ra
          refine ⟨eqI m1 m2, e', ?_, ?_, ?_⟩
          · rw [rk]
            rcases hk with ⟨_, k', rfl⟩ | ⟨hh, _⟩
            · simp [Instr.sameNow, eqI_eq]
            · cases hh
          · show bc (ikEq i1 i1) (eqI m1 m2) true = _
            have : ikEq i1 i1 = true := by cases i1 <;> rfl
            rw [this]; rfl
          · intro hb; rw [eqI_eq] at hb; rw [eq_of_beq hb]
        · exact absurd e hz
      · rcases isKey_inv hg1 with ⟨i2, m2, rfl⟩ | ⟨s2, rfl⟩
        · exact absurd e hz
        · have e : bc (strEq s1 s2) (k (some v1)) (look (.str s1) es z k) = r := e
          rw [VR_str] at ra rk
          obtain ⟨x', rfl, rfl⟩ := ra
          obtain ⟨y', hy, rfl⟩ := rk
          refine ⟨strEq (byteList x') (byteList y'), e, ?_, rfl, ?_⟩
          · rw [hy]
            rcases hk with ⟨hh, _⟩ | ⟨_, rfl⟩
            · cases hh
            · simp only [Instr.sameNow, strEq_iff]
              congr 1
              rw [Bool.eq_iff_iff]
              rw [beq_toListBytes]
              simp only [decide_eq_true_eq, beq_iff_eq]
              exact ⟨fun h => by rw [byteList_toList, byteList_toList, h], fun h => by rw [byteList_inj h]⟩
          · intro hb; rw [strEq_iff] at hb; rw [of_decide_eq_true hb]
    obtain ⟨b, e2, hsame, hkey, hba⟩ := key
    cases b with
    | true =>
      refine .inr ⟨0, k1, v1, n1, e1, rfl, rfl, rv, rk, hba rfl, e2, ?_, fun j' hj' => by omega⟩
      simp [Instr.findNow, hsame]
    | false =>
      have e3 : look a es z k = r := e2
      rcases findNow_ok hk ra hg (i + 1) (by simpa using hl) hes' e3 hz with ⟨h1, h2, h3⟩ | ⟨j, k', v, n, en, h1, h2, h3, h4, h5, h6, h7, h8⟩
      · refine .inl ⟨h1, by simp [Instr.findNow, hsame, h2], fun j k' v n hj => ?_⟩
        cases j with
        | zero => simp at hj; obtain ⟨rfl, _, _⟩ := hj; exact hkey
        | succ j => exact h3 j k' v n (by simpa using hj)
      · refine .inr ⟨j + 1, k', v, n, en, by simpa using h1, by simpa using h2, h3, h4, h5, h6, ?_, fun j' hj' k'' v'' n'' hj => ?_⟩
        · simp only [Instr.findNow, hsame, h7]; congr 3; omega
        · cases j' with
          | zero => simp at hj; obtain ⟨rfl, _, _⟩ := hj; exact hkey
          | succ j' => exact h8 j' (by omega) k'' v'' n'' (by simpa using hj)
theorem zeroOf_ok {t : TypeId} {z : AV} (e : zeroOf P t = some z) : ∃ x, VR μ z x ∧ ∀ w, (zeroValue t).run P w = .ok x w := by
  unfold zeroOf at e
  cases hi : P.info? t with
  | none => rw [hi] at e; cases e
  | some i =>
    rw [hi] at e
    cases hz : i.zero with
    | none => simp [hz] at e
    | some x =>
      simp [hz] at e
      exact ⟨x, (constAV_ok e).1, fun w => by simp [zeroValue, typeInfo, hi, hz]⟩
theorem found_ok {z v : AV} {ok : Bool} {r : Option AV} {xz : Value} (rz : VR μ z xz) (e : found z ok r = .ok v) {x : Value} (hr : ∀ u, r = some u → VR μ u x) :
    VR μ v (if ok then .tuple #[if r.isSome then x else xz, .bool r.isSome] else if r.isSome then x else xz) := by
  cases r with
  | none =>
    cases e
    cases ok
    · simpa using rz
    · simp; exact VRs_cons.2 ⟨_, _, rfl, rz, VRs.cell (by simp)⟩
  | some u =>
    cases e
    have := hr u rfl
    cases ok
    · simpa using this
    · simp; exact VRs_cons.2 ⟨_, _, rfl, this, VRs.cell (by simp)⟩
theorem Sim.map (hs : Sim μ h w) {b c s : Nat} (hb : μ.at_ b = some (c, s)) {es : List (AV × AV × Nat)} {n ck : Nat} (hg : hget h b = some (.mp es n ck)) :
    es.length = n ∧ s = 0 ∧ μ.own c = true ∧ ∃ es', w.heap[c]? = some (.map es' ck) ∧ EntriesR μ es es'.toList := hs.blk b c s _ hb hg
theorem run_getObj_map {c ck : Nat} {es' : Array MapEntry} (hw : w.heap[c]? = some (.map es' ck)) : (getObj c).run P w = .ok (.map es' ck) w := by
  simp [getObj, Sem.run, hw]
theorem lookup_ok (hs : Sim μ h w) {kt el : TypeId} {s ok : Bool} {z am ak v : AV} {m k : Value} (hu : P.underlying ty = some (.map kt el)) (hk : keyOk P kt = some s) (hz : zeroOf P el = some z)
    (rm : VR μ am m) (rk : VR μ ak k)
    (e : bc (goodKey s ak) (am.asMap .no (found z ok none) fun b => hmap h b .no fun es _ _ => look ak es .no fun r => found z ok r) .no = .ok v) :
    Gives P μ w (Instr.lookup ty m k ok) v := by
  obtain ⟨hg, e1⟩ := bc_inv e nofun
  obtain ⟨d, hd, hkt⟩ := keyOk_inv hk
  obtain ⟨xz, rz, hzr⟩ := zeroOf_ok (μ := μ) hz
  have hck := fun b w => run_checkKey (P := P) (μ := μ) hd hkt hg rk b w
  rcases asMap_inv e1 nofun with ⟨rfl, e2⟩ | ⟨b, rfl, e2⟩
  · rw [VR_nilMap] at rm; subst rm
    have := found_ok (x := xz) rz e2 (fun u hu => by cases hu)
    refine ⟨_, ?_, this⟩
    simp [Instr.lookup, run_underlying hu, hck, Instr.findKey, run_underlying hd, Instr.findNow, hzr]
  · rw [VR_map] at rm
    obtain ⟨c, s0, hb, rfl⟩ := rm
    obtain ⟨es, n, ck, hget, e3⟩ := hmap_inv e2 nofun
    obtain ⟨_, _, _, es', hw, hlen, hes⟩ := hs.map hb hget
    rcases findNow_ok hkt rk hg 0 hlen hes e3 nofun with ⟨h1, h2, _⟩ | ⟨j, k', u, n', en, _, _, h3, _, _, h6, h7, _⟩
    · have := found_ok (x := xz) rz h1 (fun u hu => by cases hu)
      refine ⟨_, ?_, this⟩
      simp [Instr.lookup, run_underlying hu, run_getObj_map hw, hck, Instr.findKey, run_underlying hd, h2, hzr]
    · have := found_ok (x := en.val) rz h6 (fun u' hu => by cases hu; exact h3)
      refine ⟨_, ?_, this⟩
      simp [Instr.lookup, run_underlying hu, run_getObj_map hw, hck, Instr.findKey, run_underlying hd, h7]
theorem lenS_ok {ret : TypeId} {a : AV} {x : Value} {v : AV} (hu : P.underlying ty = some .string) (rx : VR μ a x) (e : (a.asStr .no fun s => okN (len s)) = .ok v) :
    Gives P μ w (Builtin.len_ #[ty] ret #[x]) v := by
  obtain ⟨s, rfl, e1⟩ := asStr_inv e nofun
  rw [VR_str] at rx
  obtain ⟨s', rfl, rfl⟩ := rx
  cases e1
  exact ⟨goInt s'.size, by simp [Builtin.len_, run_underlying hu], by rw [len_eq, byteList_length]; simp [goInt]⟩
theorem lenL_ok {ret el : TypeId} {a : AV} {x : Value} {v : AV} (hu : P.underlying ty = some (.slice el)) (rx : VR μ a x) (e : (a.asSlice .no (okN 0) fun _ _ n _ _ _ => okN n) = .ok v) :
    Gives P μ w (Builtin.len_ #[ty] ret #[x]) v := by
  rcases asSlice_inv e nofun with ⟨rfl, e1⟩ | ⟨b, o, n, c, s, ex, rfl, e1⟩
  · rw [VR_nilSlice] at rx; subst rx; cases e1
    exact ⟨goInt 0, by simp [Builtin.len_, run_underlying hu], by simp [goInt]⟩
  · rw [VR_slice] at rx; obtain ⟨_, _, _, _, _, rfl, _⟩ := rx; cases e1
    exact ⟨goInt n, by simp [Builtin.len_, run_underlying hu], by simp [goInt]⟩
theorem lenM_ok (hs : Sim μ h w) {ret kt el : TypeId} {a : AV} {x : Value} {v : AV} (hu : P.underlying ty = some (.map kt el)) (rx : VR μ a x)
    (e : (a.asMap .no (okN 0) fun b => hmap h b .no fun _ n _ => okN n) = .ok v) : Gives P μ w (Builtin.len_ #[ty] ret #[x]) v := by
  rcases asMap_inv e nofun with ⟨rfl, e1⟩ | ⟨b, rfl, e1⟩
  · rw [VR_nilMap] at rx; subst rx; cases e1
    exact ⟨goInt 0, by simp [Builtin.len_, run_underlying hu], by simp [goInt]⟩
  · rw [VR_map] at rx
    obtain ⟨c, s0, hb, rfl⟩ := rx
    obtain ⟨es, n, ck, hget, e3⟩ := hmap_inv e1 nofun
    cases e3
    obtain ⟨hn, _, _, es', hw, hlen, hes⟩ := hs.map hb hget
    refine ⟨goInt es'.size, by simp [Builtin.len_, run_underlying hu, run_getObj_map hw], ?_⟩
    simp [goInt]
    rw [← hn]; simp at hlen; omega
theorem cap_ok {ret el : TypeId} {a : AV} {x : Value} {v : AV} (hu : P.underlying ty = some (.slice el)) (rx : VR μ a x) (e : (a.asSlice .no (okN 0) fun _ _ _ c _ e => bc e (okN c) .no) = .ok v) :
    Gives P μ w (Builtin.cap_ #[ty] ret #[x]) v := by
  rcases asSlice_inv e nofun with ⟨rfl, e1⟩ | ⟨b, o, n, c, s, ex, rfl, e1⟩
  · rw [VR_nilSlice] at rx; subst rx; cases e1
    exact ⟨goInt 0, by simp [Builtin.cap_, run_underlying hu], by simp [goInt]⟩
  · obtain ⟨rfl, e2⟩ := bc_inv e1 nofun
    rw [VR_slice] at rx; obtain ⟨_, _, _, cp', _, rfl, _, _, hc, _⟩ := rx; cases e2
    rw [hc rfl]
    exact ⟨goInt c, by simp [Builtin.cap_, run_underlying hu], by simp [goInt]⟩
theorem fold_ok (f : Int → Int → Int) (g : Value → Value → Sem Value) (hg : ∀ k n m, g (.int k n) (.int k m) = pure (.int k (f n m))) {k : IntKind} :
    ∀ {l : List AV} {xs : List Value} {n : Int} {v : AV}, VRs μ l xs →
    lrec (fun n => OV.ok (.int k n)) (fun v _ ih n => v.asInt .no fun k' m => bc (ikEq k k') (ih (f n m)) .no) l n = .ok v → Gives P μ w (xs.foldlM g (.int k n)) v
  | [], xs, n, v, r, e => by
    rw [VRs_nil] at r; subst r; cases e
    exact ⟨_, rfl, by simp⟩
  | a :: l, xs, n, v, r, e => by
    rw [VRs_cons] at r
    obtain ⟨x, xs, rfl, r1, r2⟩ := r
    rw [lrec_cons] at e
    obtain ⟨k', m, rfl, e1⟩ := asInt_inv e nofun
    obtain ⟨rfl, e2⟩ := ikEq_inv e1 nofun
    rw [VR_int] at r1; subst r1
    obtain ⟨y, hy, ry⟩ := fold_ok f g hg r2 e2
    exact ⟨y, by rw [List.foldlM_cons, hg]; simpa using hy, ry⟩
theorem maxI_eq (n m : Int) : maxI n m = if m > n then m else n := by unfold maxI; rw [bc_eq, ltI_eq]; simp
theorem minI_eq (n m : Int) : minI n m = if m < n then m else n := by unfold minI; rw [bc_eq, ltI_eq]; simp
theorem max_ok {ret : TypeId} {ts : Array TypeId} {xs : List AX} {l : List Value} {v : AV} (r : VRs μ (evXs xs t) l) (e : oMax xs t h = .ok v) : Gives P μ w (Builtin.max_ ts ret l.toArray) v := by
  cases xs with
  | nil => cases e
  | cons a xs =>
    have e : foldI maxI (evX a t) (evXs xs t) = .ok v := e
    rw [show evXs (a :: xs) t = evX a t :: evXs xs t from rfl, VRs_cons] at r
    obtain ⟨x, l, rfl, r1, r2⟩ := r
    obtain ⟨k, n, hn, e1⟩ := asInt_inv e nofun
    rw [hn, VR_int] at r1; subst r1
    exact fold_ok maxI Builtin.max2 (fun k n m => by simp [Builtin.max2, maxI_eq]) r2 e1
theorem min_ok {ret : TypeId} {ts : Array TypeId} {xs : List AX} {l : List Value} {v : AV} (r : VRs μ (evXs xs t) l) (e : oMin xs t h = .ok v) : Gives P μ w (Builtin.min_ ts ret l.toArray) v := by
  cases xs with
  | nil => cases e
  | cons a xs =>
    have e : foldI minI (evX a t) (evXs xs t) = .ok v := e
    rw [show evXs (a :: xs) t = evX a t :: evXs xs t from rfl, VRs_cons] at r
    obtain ⟨x, l, rfl, r1, r2⟩ := r
    obtain ⟨k, n, hn, e1⟩ := asInt_inv e nofun
    rw [hn, VR_int] at r1; subst r1
    exact fold_ok minI Builtin.min2 (fun k n m => by simp [Builtin.min2, minI_eq]) r2 e1
theorem setList_eq (o : Nat) : ∀ (vs : List Value) (k : Nat) (cs : Array Value), o + k + vs.length ≤ cs.size →
    ((vs.zipIdx k).foldl (fun (cs : Array Value) (p : Value × Nat) => cs.setIfInBounds (o + p.2) p.1) cs).toList = cs.toList.take (o + k) ++ vs ++ cs.toList.drop (o + k + vs.length)
  | [], k, cs, h => by simp
  | v :: vs, k, cs, h => by
    rw [List.zipIdx_cons, List.foldl_cons, setList_eq o vs (k + 1) _ (by simp at h ⊢; omega)]
    simp only [Array.toList_setIfInBounds, List.length_cons] at h ⊢
    have hlt : o + k < cs.toList.length := by simp; omega
    rw [show o + (k + 1) = o + k + 1 from rfl, List.take_succ_eq_append_getElem (by simpa using hlt), List.getElem_set_self, List.take_set_of_le (Nat.le_refl _), List.drop_set_of_lt (by omega)]
    rw [show o + k + 1 + vs.length = o + k + (vs.length + 1) by omega]
    simp only [List.append_assoc, List.singleton_append, List.cons_append, List.nil_append]
theorem setRange_eq (cs vs : Array Value) (o : Nat) (h : o + vs.size ≤ cs.size) :
    (vs.zipIdx.foldl (fun cs (c, j) => cs.setIfInBounds (o + j) c) cs).toList = cs.toList.take o ++ vs.toList ++ cs.toList.drop (o + vs.size) := by
  have := setList_eq o vs.toList 0 cs (by simpa using h)
  rw [← Array.foldl_toList, Array.toList_zipIdx]
  simpa using this
theorem fill_ok {place : Nat → Option (Nat × Nat)} {size : Nat} : ∀ {ps : List (Nat × Operand)} {l : List (Nat × Nat × AX)} {cs cs' : List AV} {ds : Array Value},
    compParts place ps = some l → Opnds μ t ρ (ps.map (·.2)) → VRs μ cs ds.toList → cs.length = size → fillParts l t size cs = some cs' →
    ∃ ds', Instr.fill place ds (ps.map fun p => (p.1, ρ p.2)) = some ds' ∧ VRs μ cs' ds'.toList ∧ cs'.length = size
  | [], l, cs, cs', ds, hl, hx, r, hlen, e => by
    cases hl; cases e
    exact ⟨ds, rfl, r, hlen⟩
  | (i, x) :: ps, l, cs, cs', ds, hl, hx, r, hlen, e => by
    unfold compParts at hl
    cases h1 : place i with
    | none => simp [h1] at hl
    | some p =>
      obtain ⟨o, n⟩ := p
      cases h2 : compX x with
      | none => simp [h1, h2] at hl
      | some a =>
        cases h3 : compParts place ps with
        | none => simp [h1, h2, h3] at hl
        | some as =>
          simp [h1, h2, h3] at hl
          subst hl
          have rx := hx x (by simp) a h2
          have rc := rx.cells
          have e : bc (Nat.beq (len (cellsOf (evX a t))) n) (bc (Nat.ble (Nat.add o n) size) (fillParts as t size (over (cellsOf (evX a t)) cs o)) none) none = some cs' := e
          obtain ⟨hn, e1⟩ := beq_inv e nofun
          obtain ⟨hle, e2⟩ := ble_inv e1 nofun
          have hle : o + n ≤ size := hle
          rw [len_eq] at hn
          have hsz : (ρ x).cells.size = n := by have := rc.length; simp at this; omega
          have hds : ds.size = size := by have := r.length; simp at this; omega
          rw [over_eq _ _ _ (by omega)] at e2
          obtain ⟨ds', hf, hr, hl'⟩ := fill_ok (cs := cs.take o ++ cellsOf (evX a t) ++ cs.drop (o + (cellsOf (evX a t)).length)) (ds := (ρ x).cells.zipIdx.foldl (fun cs (c, j) => cs.setIfInBounds (o + j) c) ds) h3
            (fun y hy => hx y (by simp at hy ⊢; exact .inr hy)) (by
              rw [setRange_eq _ _ _ (by omega), hsz, hn]
              exact ((r.take _).append rc).append (r.drop _)) (by simp; omega) e2
          refine ⟨ds', ?_, hr, hl'⟩
          rw [List.map_cons]
          simp only [Instr.fill, h1]
          rw [if_neg (by simp; omega)]
          exact hf
theorem mapM_places : ∀ (fs : List Field), (∀ f ∈ fs, (szOf P f.type).isSome) →
    ∃ ps : List (Nat × Nat), (∀ w, (fs.mapM fun f => do pure (f.offset, ← Go.sizeOf f.type) : Sem (List (Nat × Nat))).run P w = .ok ps w) ∧ ∀ i : Nat, ps[i]? = (fs[i]?).bind fun f => (szOf P f.type).map fun n => (f.offset, n)
  | [], _ => ⟨[], fun w => by simp, fun i => by simp⟩
  | f :: fs, h => by
    obtain ⟨ps, h1, h2⟩ := mapM_places fs fun g hg => h g (by simp [hg])
    obtain ⟨n, hn⟩ := Option.isSome_iff_exists.1 (h f (by simp))
    refine ⟨(f.offset, n) :: ps, fun w => by simp only [List.mapM_cons, Sem.run_bind, run_sizeOf hn, h1, Result.andThen_ok, Sem.run_pure], fun i => ?_⟩
    cases i with
    | zero => simp [hn]
    | succ i => simpa using h2 i
theorem run_mapM_array {α β : Type} (f : α → Sem β) (xs : Array α) (ys : List β) (h : (xs.toList.mapM f).run P w = .ok ys w) : (xs.mapM f).run P w = .ok ys.toArray w := by
  rw [Array.mapM_eq_mapM_toList]
  simp [h]
theorem fill_congr {p q : Nat → Option (Nat × Nat)} : ∀ {l : List (Nat × Value)} {cs : Array Value}, (∀ x ∈ l, p x.1 = q x.1) → Instr.fill p cs l = Instr.fill q cs l
  | [], _, _ => rfl
  | (i, v) :: l, cs, h => by
    have h1 := h (i, v) (by simp)
    simp only [Instr.fill, h1]
    cases q i with
    | none => rfl
    | some p =>
      simp only []
      split
      · rfl
      · exact fill_congr fun x hx => h x (by simp [hx])
theorem compParts_places {place : Nat → Option (Nat × Nat)} : ∀ {ps : List (Nat × Operand)} {l : List (Nat × Nat × AX)}, compParts place ps = some l → ∀ p ∈ ps, (place p.1).isSome
  | [], _, _, _, h => by cases h
  | (i, x) :: ps, l, hl, p, hp => by
    unfold compParts at hl
    cases h1 : place i with
    | none => simp [h1] at hl
    | some r =>
      cases h2 : compX x with
      | none => simp [h1, h2] at hl
      | some a =>
        cases h3 : compParts place ps with
        | none => simp [h1, h2, h3] at hl
        | some as =>
          cases hp with
          | head => simp [h1]
          | tail _ hp => exact compParts_places h3 p hp
theorem zero_cells {z : AV} {x : Value} (r : VR μ z x) : VRs μ (cellsC z) x.cells.toList := by rw [cellsC_eq]; exact r.cells
theorem run_build_struct {fs : Array Field} {ps : Array (Nat × Value)} {pl : List (Nat × Nat)} {x : Value} {ds : Array Value} (hu : P.underlying ty = some (.struct fs)) (hz : ∀ w, (zeroValue ty).run P w = .ok x w)
    (h1 : ∀ w, (fs.toList.mapM fun f => do pure (f.offset, ← Go.sizeOf f.type) : Sem (List (Nat × Nat))).run P w = .ok pl w)
    (hf : Instr.fill (pl[·]?) x.cells ps.toList = some ds) : (Instr.build ty ps).run P w = .ok (.agg ds) w := by
  have := run_mapM_array (P := P) (w := w) (fun (f : Field) => (do pure (f.offset, ← Go.sizeOf f.type) : Sem (Nat × Nat))) fs pl (h1 w)
  simp only [Instr.build, Sem.run_bind, hz, Result.andThen_ok, run_underlying hu, this]
  have hf' : Instr.fill (pl.toArray[·]?) x.cells ps.toList = some ds := by rw [← hf]; exact fill_congr fun x _ => by simp
  rw [hf']; rfl
theorem run_build_array {el : TypeId} {k n : Nat} {ps : Array (Nat × Value)} {x : Value} {ds : Array Value} (hu : P.underlying ty = some (.array k el)) (hz : ∀ w, (zeroValue ty).run P w = .ok x w)
    (hn : szOf P el = some n) (hf : Instr.fill (fun i => some (i * n, n)) x.cells ps.toList = some ds) : (Instr.build ty ps).run P w = .ok (.agg ds) w := by
  simp only [Instr.build, Sem.run_bind, hz, Result.andThen_ok, run_underlying hu, run_sizeOf hn, hf]; rfl
theorem build_ok {ps : Array (Nat × Operand)} {q : QOp} {v : AV} (hc : compBuild P ty ps = .q q) (hx : Opnds μ t ρ (ps.toList.map (·.2))) (e : evQ q t h = .ok v) :
    Gives P μ w (Instr.build ty (ps.map fun (i, x) => (i, ρ x))) v := by
  have hno : AOp.q q ≠ no := fun hq => by cases hq; cases e
  unfold compBuild at hc
  split at hc
  · rename_i fs z hu hz
    split at hc
    · rename_i hall
      split at hc
      · rename_i l hl
        cases hc
        obtain ⟨xz, rz, hzr⟩ := zeroOf_ok (μ := μ) hz
        obtain ⟨pl, h1, h2⟩ := mapM_places (P := P) fs.toList fun f hf => by
          rw [List.all_eq_true] at hall; exact hall f hf
        have e : ocase .no (fun cs => OV.ok (.agg cs)) (fillParts l t (len (cellsC z)) (cellsC z)) = .ok v := e
        obtain ⟨cs', hcs, e1⟩ := ocase_inv e nofun
        cases e1
        obtain ⟨ds', hf, hr, _⟩ := fill_ok hl hx (zero_cells rz) (len_eq _).symm hcs
        have hf' : Instr.fill (pl[·]?) xz.cells (ps.map fun (i, x) => (i, ρ x)).toList = some ds' := by
          rw [← hf, Array.toList_map]
          refine fill_congr fun p hp => ?_
          rw [h2, Array.getElem?_toList]
          unfold places
          cases fs[p.1]? <;> rfl
        exact ⟨.agg ds', run_build_struct hu hzr h1 hf', by rw [VR_agg]; exact ⟨_, rfl, hr⟩⟩
      · exact absurd hc.symm hno
    · exact absurd hc.symm hno
  · rename_i k el z hu hz
    split at hc
    · rename_i n hn
      split at hc
      · rename_i l hl
        cases hc
        obtain ⟨xz, rz, hzr⟩ := zeroOf_ok (μ := μ) hz
        have e : ocase .no (fun cs => OV.ok (.agg cs)) (fillParts l t (len (cellsC z)) (cellsC z)) = .ok v := e
        obtain ⟨cs', hcs, e1⟩ := ocase_inv e nofun
        cases e1
        obtain ⟨ds', hf, hr, _⟩ := fill_ok hl hx (zero_cells rz) (len_eq _).symm hcs
        exact ⟨.agg ds', run_build_array hu hzr hn (by rw [← hf, Array.toList_map]), by rw [VR_agg]; exact ⟨_, rfl, hr⟩⟩
      · exact absurd hc.symm hno
    · exact absurd hc.symm hno
  · exact absurd hc.symm hno
end
end Eng
