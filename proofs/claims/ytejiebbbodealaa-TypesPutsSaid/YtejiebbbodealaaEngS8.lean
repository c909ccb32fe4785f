/- The engine's soundness, part 8: quiet operations: all of them. -/
import Derived.Test.YtejiebbbodealaaEngS7
set_option linter.unusedVariables false
set_option linter.unusedSimpArgs false
namespace Eng
open Go Go.RowKit
section
variable {P : Program} {μ : Mp} {h : Hp} {w : World} {t : T} {ρ : Operand → Value} {ty : TypeId}
theorem pick_ok {c a b : AV} {xc xa xb : Value} {v : AV} (rc : VR μ c xc) (ra : VR μ a xa) (rb : VR μ b xb) (e : (c.asBool .no fun c => bc c (OV.ok a) (.ok b)) = .ok v) :
    Gives P μ w (do pure (if ← asBool xc then xa else xb)) v := by
  obtain ⟨c, rfl, e1⟩ := asBool_inv e nofun
  rw [VR_bool] at rc; subst rc
  cases c
  · cases e1; exact ⟨xb, by simp [asBool], rb⟩
  · cases e1; exact ⟨xa, by simp [asBool], ra⟩
theorem un_ok {op : UnOp} {a : AX} {x : Value} {v : AV} (rx : VR μ (evX a t) x) (e : oUn op a t h = .ok v) : Gives P μ w (Op.unary op x) v := by
  cases op
  case neg =>
    obtain ⟨k, n, hn, e1⟩ := asInt_inv (show ((evX a t).asInt .no fun k n => okI k (Int.sub 0 n)) = .ok v from e) nofun
    rw [hn, VR_int] at rx; subst rx
    exact ⟨_, by simp only [Op.unary, Op.intArith]; rfl, okI_ok e1 rfl⟩
  case xor =>
    obtain ⟨k, n, hn, e1⟩ := asInt_inv (show ((evX a t).asInt .no fun k n => okI k (.ofNat (Nat.xor (Nat.sub (modK k) 1) (toU k n)))) = .ok v from e) nofun
    rw [hn, VR_int] at rx; subst rx
    refine ⟨_, by simp only [Op.unary, Op.intBits]; rfl, okI_ok e1 ?_⟩
    show _ = (((modK k - 1) ^^^ toU k n : Nat) : Int)
    rw [toU_bv, BitVec.toNat_xor]
    congr 2
    cases k <;> rfl
  case not =>
    obtain ⟨b, hb, e1⟩ := asBool_inv (show ((evX a t).asBool .no fun b => okB (notB b)) = .ok v from e) nofun
    rw [hb, VR_bool] at rx; subst rx
    exact ⟨.bool (!b), by simp [Op.unary], okB_ok e1 (notB_eq b).symm⟩
  case plus => cases e
theorem bytesAV_ok : ∀ {l : List AV} {xs : List Value} {s : List Nat}, VRs μ l xs → bytesAV l = some s → xs = s.map (fun n => Value.int .u8 ((n : Nat) : Int)) ∧ ∀ n ∈ s, n < 256
  | [], xs, s, r, e => by cases e; rw [VRs_nil] at r; exact ⟨r, fun n hn => by cases hn⟩
  | a :: l, xs, s, r, e => by
    rw [VRs_cons] at r
    obtain ⟨x, xs, rfl, r1, r2⟩ := r
    have e : u8Of a none (fun n => ocase none (fun s => some (n :: s)) (bytesAV l)) = some s := e
    obtain ⟨k, n, rfl, e1⟩ := asInt_inv e nofun
    obtain ⟨rfl, e2⟩ := ikEq_inv e1 nofun
    obtain ⟨n, rfl, e3⟩ := natOf_inv e2 nofun
    obtain ⟨hn, e4⟩ := blt_inv e3 nofun
    obtain ⟨s', hs', e5⟩ := ocase_inv e4 nofun
    cases e5
    rw [VR_int] at r1; subst r1
    obtain ⟨rfl, h2⟩ := bytesAV_ok r2 hs'
    exact ⟨rfl, fun m hm => by
      cases hm with
      | head => exact hn
      | tail _ hm => exact h2 m hm⟩
theorem byteList_push (s : ByteArray) (b : UInt8) : byteList (s.push b) = byteList s ++ [b.toNat] := by
  unfold byteList
  show ((s.data.push b).toList).map (·.toNat) = _
  rw [Array.toList_push, List.map_append]; rfl
theorem pushAll_ok (f : Value → ByteArray → Sem (ForInStep ByteArray)) (hf : ∀ n s, f (.int .u8 n) s = pure (.yield (s.push (UInt8.ofNat n.toNat)))) :
    ∀ (s : List Nat) (acc : ByteArray), (∀ n ∈ s, n < 256) →
    ∃ r, ((forIn (s.map (fun n => Value.int .u8 ((n : Nat) : Int))) acc f : Sem ByteArray).run P w = .ok r w) ∧ byteList r = byteList acc ++ s
  | [], acc, _ => ⟨acc, rfl, by simp⟩
  | n :: s, acc, h => by
    obtain ⟨r, hr, hb⟩ := pushAll_ok f hf s (acc.push (UInt8.ofNat n)) fun m hm => h m (by simp [hm])
    refine ⟨r, ?_, ?_⟩
    · rw [List.map_cons, List.forIn_cons]
      simp only [Sem.run_bind, hf, Sem.run_pure, Result.andThen_ok, Int.toNat_natCast]
      exact hr
    · rw [hb, byteList_push]
      have : n < 256 := h n (by simp)
      simp [UInt8.toNat_ofNat, Nat.mod_eq_of_lt this]
theorem toStr_ok (hs : Sim μ h w) {a : AV} {x : Value} {v : AV} (rx : VR μ a x)
    (e : (a.asSlice .no (OV.ok (.str [])) fun b o l _ s _ => bc (Nat.beq s 1) (rdN h b o l .no fun cs => ocase .no (fun s => .ok (.str s)) (bytesAV cs)) .no) = .ok v) :
    Gives P μ w (Conv.bytesToString x) v := by
  rcases asSlice_inv e nofun with ⟨rfl, e1⟩ | ⟨b, o, n, c, s, ex, rfl, e1⟩
  · rw [VR_nilSlice] at rx; subst rx; cases e1
    exact ⟨.string .empty, by simp [Conv.bytesToString], by rw [VR_str]; exact ⟨_, rfl, rfl⟩⟩
  · obtain ⟨rfl, e2⟩ := beq_inv e1 nofun
    rw [VR_slice] at rx
    obtain ⟨c0, s0, s', cp', hb, rfl, h1, h2, h3, h4⟩ := rx
    obtain ⟨l, xs, e3, r, hlen, _, hx⟩ := rdN_ok hs hb e2 nofun
    obtain ⟨str, hstr, e4⟩ := ocase_inv e3 nofun
    cases e4
    obtain ⟨rfl, hlt⟩ := bytesAV_ok r hstr
    obtain ⟨res, hres, hb'⟩ := pushAll_ok (P := P) (w := w) (fun c s => match c with
      | .int .u8 n => pure (.yield (s.push (UInt8.ofNat n.toNat)))
      | _ => do stuck (α := PUnit) "bytesToString: byte expected"; pure (.yield s)) (fun _ _ => rfl) str .empty hlt
    have hload : (loadCells ⟨c0, s', none⟩ n).run P w = .ok (str.map (fun n => Value.int .u8 ((n : Nat) : Int))).toArray w := by
      by_cases h0 : cp' = 0
      · obtain rfl : n = 0 := by omega
        simp at hlen; subst hlen; rfl
      · obtain ⟨rfl, _⟩ := h4 h0
        exact run_loadCells_of hlen hx
    refine ⟨.string res, ?_, by rw [VR_str]; exact ⟨_, rfl, by rw [hb']; rfl⟩⟩
    simp only [Conv.bytesToString, Sem.run_bind, hload, Result.andThen_ok]
    rw [List.forIn_toArray]
    exact (congrArg (fun q : Result ByteArray => q.andThen fun a w' => Sem.run P (pure (Value.string a)) w') hres).trans rfl
theorem idxStr_ok {a i : AV} {x y : Value} {v : AV} (hu : P.underlying ty = some .string) (rx : VR μ a x) (ri : VR μ i y)
    (e : (a.asStr .no fun s => i.asInt .no fun _ i => natOf i .no fun i => ocase .no (fun (c : Nat) => OV.ok (.int .u8 (.ofNat c))) (nth? s i)) = .ok v) :
    Gives P μ w (Instr.index ty x y) v := by
  obtain ⟨s, rfl, e1⟩ := asStr_inv e nofun
  obtain ⟨k, n, rfl, e2⟩ := asInt_inv e1 nofun
  obtain ⟨n, rfl, e3⟩ := natOf_inv e2 nofun
  obtain ⟨c, hc, e4⟩ := ocase_inv e3 nofun
  cases e4
  rw [VR_str] at rx
  obtain ⟨s', rfl, rfl⟩ := rx
  rw [VR_int] at ri; subst ri
  rw [nth_eq] at hc
  unfold byteList at hc
  rw [List.getElem?_map] at hc
  cases hb : s'.data.toList[n]? with
  | none => rw [hb] at hc; cases hc
  | some b =>
    rw [hb] at hc
    cases hc
    have hg : s'[n]? = some b := by
      rw [Array.getElem?_toList] at hb
      obtain ⟨hlt, hb⟩ := Array.getElem?_eq_some_iff.1 hb
      have : n < s'.size := hlt
      rw [getElem?_pos s' n this, ← hb]; rfl
    exact ⟨.int .u8 b.toNat, by simp [Instr.index, asIntOf, run_underlying hu, hg], by simp⟩
theorem fieldS_ok {fs : Array Field} {f : Field} {i : Nat} {a : AV} {x : Value} {v : AV} (hu : P.underlying ty = some (.struct fs)) (hf : fs[i]? = some f) (ha : aggT P f.type = some false)
    (rx : VR μ a x) (e : (a.asAgg .no fun cs => ocase .no OV.ok (nth? cs f.offset)) = .ok v) : Gives P μ w (Instr.field ty x i) v := by
  obtain ⟨cs, rfl, e1⟩ := asAgg_inv e nofun
  obtain ⟨u, hu', e2⟩ := ocase_inv e1 nofun
  cases e2
  rw [VR_agg] at rx
  obtain ⟨ds, rfl, rx⟩ := rx
  rw [nth_eq] at hu'
  obtain ⟨y, hy, ry⟩ := rx.get _ _ hu'
  rw [Array.getElem?_toList] at hy
  exact ⟨y, by simp [Instr.field, run_underlying hu, hf, asAgg, Go.part, run_isAgg ha, hy], ry⟩
theorem agg_part {cs : List AV} {ds : Array Value} (rx : VRs μ cs ds.toList) (o n : Nat) : VR μ (.agg (take (drop cs o) n)) (.agg (ds.extract o (o + n))) := by
  rw [VR_agg]
  refine ⟨_, rfl, ?_⟩
  rw [take_eq, drop_eq, Array.toList_extract, List.extract_eq_take_drop, show o + n - o = n by omega]
  exact (rx.drop o).take n
theorem fieldA_ok {fs : Array Field} {f : Field} {i n : Nat} {a : AV} {x : Value} {v : AV} (hu : P.underlying ty = some (.struct fs)) (hf : fs[i]? = some f) (ha : aggT P f.type = some true)
    (hn : szOf P f.type = some n) (rx : VR μ a x) (e : (a.asAgg .no fun cs => bc (hasN cs (Nat.add f.offset n)) (OV.ok (.agg (take (drop cs f.offset) n))) .no) = .ok v) : Gives P μ w (Instr.field ty x i) v := by
  obtain ⟨cs, rfl, e1⟩ := asAgg_inv e nofun
  obtain ⟨_, e2⟩ := bc_inv e1 nofun
  cases e2
  rw [VR_agg] at rx
  obtain ⟨ds, rfl, rx⟩ := rx
  exact ⟨_, by simp [Instr.field, run_underlying hu, hf, asAgg, Go.part, run_isAgg ha, run_sizeOf hn], agg_part rx _ _⟩
theorem idxArrS_ok {el : TypeId} {n : Nat} {a i : AV} {x y : Value} {v : AV} (hu : P.underlying ty = some (.array n el)) (ha : aggT P el = some false) (hn : szOf P el = some 1)
    (rx : VR μ a x) (ri : VR μ i y) (e : (a.asAgg .no fun cs => i.asInt .no fun _ i => natOf i .no fun i => bc (Nat.blt i n) (ocase .no OV.ok (nth? cs i)) .no) = .ok v) :
    Gives P μ w (Instr.index ty x y) v := by
  obtain ⟨cs, rfl, e1⟩ := asAgg_inv e nofun
  obtain ⟨k, m, rfl, e2⟩ := asInt_inv e1 nofun
  obtain ⟨m, rfl, e3⟩ := natOf_inv e2 nofun
  obtain ⟨hlt, e4⟩ := blt_inv e3 nofun
  obtain ⟨u, hu', e5⟩ := ocase_inv e4 nofun
  cases e5
  rw [VR_agg] at rx
  obtain ⟨ds, rfl, rx⟩ := rx
  rw [VR_int] at ri; subst ri
  rw [nth_eq] at hu'
  obtain ⟨z, hz, rz⟩ := rx.get _ _ hu'
  rw [Array.getElem?_toList] at hz
  have hb : (0 : Int) ≤ m ∧ (m : Int) < n := ⟨by omega, by omega⟩
  exact ⟨z, by simp [Instr.index, asIntOf, run_underlying hu, hb, hlt, Go.part, run_isAgg ha, run_sizeOf hn, hz], rz⟩
theorem idxArrA_ok {el : TypeId} {n sz : Nat} {a i : AV} {x y : Value} {v : AV} (hu : P.underlying ty = some (.array n el)) (ha : aggT P el = some true) (hn : szOf P el = some sz)
    (rx : VR μ a x) (ri : VR μ i y) (e : (a.asAgg .no fun cs => i.asInt .no fun _ i => natOf i .no fun i => bc (Nat.blt i n)
      (bc (hasN cs (Nat.add (Nat.mul i sz) sz)) (OV.ok (.agg (take (drop cs (Nat.mul i sz)) sz))) .no) .no) = .ok v) :
    Gives P μ w (Instr.index ty x y) v := by
  obtain ⟨cs, rfl, e1⟩ := asAgg_inv e nofun
  obtain ⟨k, m, rfl, e2⟩ := asInt_inv e1 nofun
  obtain ⟨m, rfl, e3⟩ := natOf_inv e2 nofun
  obtain ⟨hlt, e4⟩ := blt_inv e3 nofun
  obtain ⟨_, e5⟩ := bc_inv e4 nofun
  cases e5
  rw [VR_agg] at rx
  obtain ⟨ds, rfl, rx⟩ := rx
  rw [VR_int] at ri; subst ri
  have hb : (0 : Int) ≤ m ∧ (m : Int) < n := ⟨by omega, by omega⟩
  exact ⟨_, by simp [Instr.index, asIntOf, run_underlying hu, hb, hlt, Go.part, run_isAgg ha, run_sizeOf hn], agg_part rx _ _⟩
theorem idxAddrSl_ok {el : TypeId} {sz : Nat} {a i : AV} {x y : Value} {v : AV} (hu : P.underlying ty = some (.slice el)) (hn : szOf P el = some sz) (rx : VR μ a x) (ri : VR μ i y)
    (e : (a.asSlice .no .no fun b o n _ s _ => i.asInt .no fun _ i => natOf i .no fun i => bc (Nat.beq s sz) (bc (Nat.blt i n) (OV.ok (.ptr b (Nat.add o (Nat.mul i sz)))) .no) .no) = .ok v) :
    Gives P μ w (Instr.indexAt ty x y) v := by
  rcases asSlice_inv e nofun with ⟨rfl, e1⟩ | ⟨b, o, n, c, s, ex, rfl, e1⟩
  · cases e1
  · obtain ⟨k, m, rfl, e2⟩ := asInt_inv e1 nofun
    obtain ⟨m, rfl, e3⟩ := natOf_inv e2 nofun
    obtain ⟨rfl, e4⟩ := beq_inv e3 nofun
    obtain ⟨hlt, e5⟩ := blt_inv e4 nofun
    cases e5
    rw [VR_slice] at rx
    obtain ⟨c0, s0, s', cp', hb, rfl, h1, h2, h3, h4⟩ := rx
    rw [VR_int] at ri; subst ri
    obtain ⟨rfl, _⟩ := h4 (by omega)
    have hb' : (0 : Int) ≤ m ∧ (m : Int) < n := ⟨by omega, by omega⟩
    refine ⟨.pointer (some ⟨c0, s0 + o + m * s, none⟩), ?_, ?_⟩
    · simp [Instr.indexAt, asIntOf, run_underlying hu, hb', hlt, run_sizeOf hn, addr_add]
    · rw [VR_ptr]; exact ⟨c0, s0, hb, by show _ = Value.pointer (some ⟨c0, s0 + (o + m * s), none⟩); rw [Nat.add_assoc]⟩
theorem idxAddrArr_ok {el : TypeId} {sz n : Nat} {a i : AV} {x y : Value} {v : AV} (hu : P.underlying ty = some (.array n el)) (hn : szOf P el = some sz) (rx : VR μ a x) (ri : VR μ i y)
    (e : (a.asPtr .no fun b o => i.asInt .no fun _ i => natOf i .no fun i => bc (Nat.blt i n) (OV.ok (.ptr b (Nat.add o (Nat.mul i sz)))) .no) = .ok v) :
    Gives P μ w (Instr.indexAt ty x y) v := by
  obtain ⟨b, o, rfl, e1⟩ := asPtr_inv e nofun
  obtain ⟨k, m, rfl, e2⟩ := asInt_inv e1 nofun
  obtain ⟨m, rfl, e3⟩ := natOf_inv e2 nofun
  obtain ⟨hlt, e5⟩ := blt_inv e3 nofun
  cases e5
  rw [VR_ptr] at rx
  obtain ⟨c0, s0, hb, rfl⟩ := rx
  rw [VR_int] at ri; subst ri
  have hb' : (0 : Int) ≤ m ∧ (m : Int) < n := ⟨by omega, by omega⟩
  refine ⟨.pointer (some ⟨c0, s0 + o + m * sz, none⟩), ?_, ?_⟩
  · simp [Instr.indexAt, asIntOf, run_underlying hu, hb', hlt, run_sizeOf hn, addr_add, Instr.sureAddr]
  · rw [VR_ptr]; exact ⟨c0, s0, hb, by show _ = Value.pointer (some ⟨c0, s0 + (o + m * sz), none⟩); rw [Nat.add_assoc]⟩
end
end Eng
