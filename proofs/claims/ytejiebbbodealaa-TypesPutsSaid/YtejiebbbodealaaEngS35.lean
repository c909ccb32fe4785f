/- The engine, part 35: words for walks over objects that lie apart. -/
import Derived.Test.YtejiebbbodealaaEngS34
import Derived.Test.YtejiebbbodealaaLebPure
set_option linter.unusedVariables false
set_option linter.unusedSimpArgs false
namespace Eng
open Go Go.RowKit
theorem u_sub {k : IntKind} (hk : uns k = true) {a b : Nat} (h : b ≤ a) (ha : a < modK k) : evQ (.bin .sub (.const (.int k (.ofNat a))) (.const (.int k (.ofNat b)))) .lf H0 = .ok (.int k (.ofNat (a - b))) := by
  show bc (ikEq k k) (okI k (Int.sub (.ofNat a) (.ofNat b))) .no = _
  rw [ikEq_self, sub_nat h]; show OV.ok (.int k (wrapA k (.ofNat (a - b)))) = _
  rw [wrap_u hk, Nat.mod_eq_of_lt (by omega)]
theorem BIn.cell {G : Nat → Prop} {h : Hp} {v : AV} {l : List Nat} (P : BIn G h v l) : isCell v = true := by
  obtain ⟨⟨B, P⟩, _⟩ := P; cases P <;> rfl
theorem BIn.cells {G : Nat → Prop} {h : Hp} {v : AV} {l : List Nat} (P : BIn G h v l) : cellsOf v = [v] := by
  obtain ⟨⟨B, P⟩, _⟩ := P; cases P <;> rfl
theorem BIn.same {G : Nat → Prop} {h : Hp} {v : AV} {l : List Nat} (P : BIn G h v l) : avEq v v = true := by
  obtain ⟨⟨B, P⟩, _⟩ := P; exact P.same
theorem own_cell {os : List AObj} {h : Hp} (S : Sep os h) {i sz n : Nat} {v : AV} {L : List AV} (hi : os[i]? = some (OwnO sz v n L)) : isCell v = true := by
  obtain ⟨G, o⟩ := own_get S hi; cases o <;> rfl
theorem own_cells {os : List AObj} {h : Hp} (S : Sep os h) {i sz n : Nat} {v : AV} {L : List AV} (hi : os[i]? = some (OwnO sz v n L)) : cellsOf v = [v] := by
  obtain ⟨G, o⟩ := own_get S hi; cases o <;> rfl
theorem own_same {os : List AObj} {h : Hp} (S : Sep os h) {i sz n : Nat} {v : AV} {L : List AV} (hi : os[i]? = some (OwnO sz v n L)) : avEq v v = true := by
  obtain ⟨G, o⟩ := own_get S hi
  cases o with
  | nil => rfl
  | sl => exact avEq_slice ..
theorem own_bytes {os : List AObj} {h : Hp} (S : Sep os h) {i n : Nat} {v : AV} {l : List Nat} (hi : os[i]? = some (OwnO 1 v n (u8s l))) (hb : ∀ x ∈ l, x < 256) : Bytes h.next h v l := by
  obtain ⟨G, o, hG, _⟩ := S.at hi
  obtain ⟨⟨B, P⟩, hk⟩ := OwnI.bytes o hb
  cases P with
  | nil => exact .nil
  | sl hB hg hcl hl hm hc hb => exact .sl (hG _ (hk _ rfl)) hg hcl hl hm hc hb
theorem fill_cons {v : AV} {xs : List AV} {o k n : Nat} {ps : List (Nat × Nat × AX)} {t : T} {z : List AV} (hv : cellsOf v = xs) (hk : xs.length = k) (hn : o + k ≤ n) : fillParts ((o, k, .const v) :: ps) t n z = fillParts ps t n (over xs z o) := by
  subst hk
  show bc (Nat.beq (len (cellsOf v)) xs.length) (bc (Nat.ble (o + xs.length) n) (fillParts ps t n (over (cellsOf v) z o)) none) none = _
  rw [hv, len_eq, Nat.beq_refl, ble_dec, decide_eq_true hn]; rfl
theorem build_told {z cs : List AV} {ps : List (Nat × Nat × AX)} {h : Hp} (e : fillParts ps .lf (len z) z = some cs) : evQ (.build z ps) .lf h = .ok (.agg cs) := by
  show ocase OV.no (fun cs => .ok (.agg cs)) (fillParts ps .lf (len z) z) = _
  rw [e]; rfl
theorem avEq_agg1 {v : AV} {l : List AV} (h1 : avEq v v = true) (h2 : avEq (.agg l) (.agg l) = true) : avEq (.agg (v :: l)) (.agg (v :: l)) = true := by
  show bc (avEq v v) (avEq (.agg l) (.agg l)) false = true
  rw [h1]; exact h2
theorem avEq_tuple1 {v : AV} {l : List AV} (h1 : avEq v v = true) (h2 : avEq (.tuple l) (.tuple l) = true) : avEq (.tuple (v :: l)) (.tuple (v :: l)) = true := by
  show bc (avEq v v) (avEq (.tuple l) (.tuple l)) false = true
  rw [h1]; exact h2
theorem all_cell {x : AV} {l : List AV} (h1 : isCell x = true) (h2 : ∀ y ∈ l, isCell y = true) : ∀ y ∈ x :: l, isCell y = true := fun y hy => by
  rcases List.mem_cons.1 hy with e | e
  · rw [e]; exact h1
  · exact h2 y e
theorem all_cell0 : ∀ y ∈ ([] : List AV), isCell y = true := fun y hy => by cases hy
theorem box_told {v : AV} {xs : List AV} {n : Nat} (hv : cellsOf v = xs) (hn : xs.length = n) (hx : ∀ x ∈ xs, isCell x = true) : evL (.box (.const v)) .lf = .ok .ptr (mkCells xs n) := by
  subst hn
  show bc (lall isCell (cellsOf v)) (OL.ok .ptr (mkCells (cellsOf v) (len (cellsOf v)))) .no = _
  rw [hv, lall_iff.2 hx, len_eq]; rfl
theorem lit_told {sz l n : Nat} {z cs : List AV} {ps : List (Nat × Nat × AX)} (e : fillParts ps .lf n (lrep z l) = some cs) (hx : ∀ x ∈ cs, isCell x = true) (hn : Nat.mul l sz = n) : evL (.buildSlice sz l z ps) .lf = .ok (.sl l l sz true) (mkCells cs n) := by
  subst hn
  show ocase OL.no (fun cs => bc (lall isCell cs) (.ok (.sl l l sz true) (mkCells cs (Nat.mul l sz))) .no) (fillParts ps .lf (Nat.mul l sz) (lrep z l)) = _
  rw [e]
  show bc (lall isCell cs) _ _ = _
  rw [lall_iff.2 hx]; rfl
theorem evRs_cellA {β : Type} {a n : Nat} {rs : List ARes} {t : T} {h : Hp} {z : β} {k : List AV → β} {b : Nat} {cs : List AV} {w : Own} (ha : evX (.tmp a) t = .ptr b 0) (hg : hget h b = some (.cells cs cs.length w)) (hn : cs.length = n) :
    evRs (.cellA a n :: rs) t h z k = evRs rs t h z fun vs => k (.agg cs :: vs) := by
  subst hn
  show (evX (.tmp a) t).asPtr z (fun b o => rdN h b o cs.length z fun l => evRs rs t h z fun vs => k (.agg l :: vs)) = _
  rw [ha]
  show rdN h b 0 cs.length z (fun l => evRs rs t h z fun vs => k (AV.agg l :: vs)) = _
  rw [rdN_of hg (by omega) rfl, List.drop_zero, List.take_of_length_le (Nat.le_refl _)]
theorem evRs_cellS {β : Type} {a : Nat} {rs : List ARes} {t : T} {h : Hp} {z : β} {k : List AV → β} {b n : Nat} {x : AV} {w : Own} (ha : evX (.tmp a) t = .ptr b 0) (hg : hget h b = some (.cells [x] n w)) :
    evRs (.cellS a :: rs) t h z k = evRs rs t h z fun vs => k (x :: vs) := by
  show (evX (.tmp a) t).asPtr z (fun b o => hcells h b z fun cs _ _ => ocase z (fun v => evRs rs t h z fun vs => k (v :: vs)) (nth? cs o)) = _
  rw [ha]
  show hcells h b z (fun cs _ _ => ocase z (fun v => evRs rs t h z fun vs => k (v :: vs)) (nth? cs 0)) = _
  unfold hcells
  rw [hg]; rfl
theorem evRs_tmp {β : Type} {a : Nat} {rs : List ARes} {t : T} {h : Hp} {z : β} {k : List AV → β} {x : AV} (ha : evX (.tmp a) t = x) : evRs (.tmp a :: rs) t h z k = evRs rs t h z fun vs => k (x :: vs) := by
  subst ha; rfl
theorem res_ok {rs : List ARes} {t : T} {h : Hp} {v : AV} {K : AV → Hp → Prop} (e : results rs t h = .ok v h) (k : K v h) : RV.cs (results rs t h) False (fun v h => K v h) := by rw [e]; exact k
theorem own_L {os : List AObj} {h : Hp} (S : Sep os h) {i sz n : Nat} {v : AV} {L : List AV} (hi : os[i]? = some (OwnO sz v n L)) : L.length = n * sz := by
  obtain ⟨G, o⟩ := own_get S hi; exact o.len
theorem u8s_cells (l : List Nat) : ∀ x ∈ u8s l, isCell x = true := fun x hx => by
  rw [u8s_eq] at hx
  obtain ⟨y, _, rfl⟩ := List.mem_map.1 hx; rfl
theorem cons_lt {y : Nat} {l : List Nat} (h : y < 256) (hl : ∀ x ∈ l, x < 256) : ∀ x ∈ y :: l, x < 256 := fun x hx => by
  rcases List.mem_cons.1 hx with e | e
  · omega
  · exact hl x e
theorem elemP_same (v : AV) (k sz : Nat) : avEq (elemP v k sz) (elemP v k sz) = true := by
  cases v <;> first | rfl | exact avEq_ptr _ _
def avN (i : Nat) : AV → AV
  | .tuple l => l.getD i .nilPtr
  | v => v
end Eng
