/- The engine's soundness, part 13: stores, copies, appends. -/
import Derived.Test.YtejiebbbodealaaEngS12
set_option linter.unusedVariables false
set_option linter.unusedSimpArgs false
namespace Eng
open Go Go.RowKit
section
variable {P : Program} {μ μ' : Mp} {h h' : Hp} {w w' : World} {t : T} {ρ : Operand → Value} {ty : TypeId}
def Eff (P : Program) (μ : Mp) (h : Hp) (w : World) (s : Sem Next) (v : AV) (h' : Hp) : Prop :=
  ∃ μ' w' n, s.run P w = .ok n w' ∧ Goes μ h w μ' h' w' ∧ Sim μ' h' w' ∧ ((∃ y, n = .value y ∧ VR μ' v y) ∨ (n = .skip ∧ v = undef))
def EffV (P : Program) (μ : Mp) (h : Hp) (w : World) (s : Sem Value) (v : AV) (h' : Hp) : Prop :=
  ∃ μ' w' y, s.run P w = .ok y w' ∧ Goes μ h w μ' h' w' ∧ Sim μ' h' w' ∧ VR μ' v y
theorem EffV.eff {s : Sem Value} {v : AV} (g : EffV P μ h w s v h') : Eff P μ h w (do pure (.value (← s))) v h' := by
  obtain ⟨μ', w', y, h1, h2, h3, h4⟩ := g
  exact ⟨μ', w', .value y, by simp [h1], h2, h3, .inl ⟨y, rfl, h4⟩⟩
theorem upd_over (cs : List AV) (o : Nat) (v : AV) (ho : o < cs.length) : upd v cs o = cs.take o ++ [v] ++ cs.drop (o + 1) := by
  rw [upd_eq, List.set_eq_take_append_cons_drop, if_pos ho]; simp
theorem wr1_ok (hs : Sim μ h w) {b c s o : Nat} (hb : μ.at_ b = some (c, s)) {v : AV} {x : Value} (r : VR μ v x) (hc : isCell v = true) {u : AV} (e : wr1 h b o v = .ok u h') :
    ∃ w', (storeCells ⟨c, s + o, none⟩ [x]).run P w = .ok () w' ∧ Goes μ h w μ h' w' ∧ Sim μ h' w' ∧ u = undef := by
  obtain ⟨cs, n, ow, hg, e1⟩ := hcells_inv e nofun
  obtain ⟨hlt, e2⟩ := blt_inv e1 nofun
  have hl := (hs.blk b c s _ hb hg).1
  obtain ⟨w', h1, h2, h3, h4⟩ := hs.write (P := P) (o := o) (vs := [v]) (xs := [x]) hb hg (by simp; omega) (fun v' hv' => by simp at hv'; rw [hv']; exact hc) (VRs.cell r)
    (upd_over cs o v (by omega)) e2
  exact ⟨w', h1, h2, h3, h4.symm⟩
theorem wrN_ok (hs : Sim μ h w) {b c s o m : Nat} (hb : μ.at_ b = some (c, s)) {vs : List AV} {xs : List Value} (r : VRs μ vs xs) (hc : ∀ v ∈ vs, isCell v = true) (hm : vs.length = m) {v u : AV}
    (e : wrN h b o vs m v = .ok u h') : ∃ w', (storeCells ⟨c, s + o, none⟩ xs).run P w = .ok () w' ∧ Goes μ h w μ h' w' ∧ Sim μ h' w' ∧ u = v := by
  obtain ⟨cs, n, ow, hg, e1⟩ := hcells_inv e nofun
  obtain ⟨hle, e2⟩ := ble_inv e1 nofun
  have hle : o + m ≤ n := hle
  have hl := (hs.blk b c s _ hb hg).1
  obtain ⟨w', h1, h2, h3, h4⟩ := hs.write (P := P) (o := o) (vs := vs) (xs := xs) hb hg (by omega) hc r (over_eq vs cs o (by omega)) e2
  exact ⟨w', h1, h2, h3, h4.symm⟩
theorem storeN_ok (hs : Sim μ h w) {n : Nat} {a x : AX} {ya yx : Value} (hn : szOf P ty = some n) (ra : VR μ (evX a t) ya) (rx : VR μ (evX x t) yx) {v : AV} (e : oStoreN n a x t h = .ok v h') :
    Eff P μ h w (do Instr.storeAt ty ya yx; pure .skip) v h' := by
  obtain ⟨b, o, hp, e1⟩ := asPtr_inv e nofun
  obtain ⟨hlen, e2⟩ := beq_inv e1 nofun
  obtain ⟨hcell, e3⟩ := bc_inv e2 nofun
  rw [lall_iff] at hcell
  rw [len_eq] at hlen
  rw [hp, VR_ptr] at ra
  obtain ⟨c, s, hb, rfl⟩ := ra
  have rc := rx.cells
  obtain ⟨w', h1, h2, h3, h4⟩ := wrN_ok (P := P) hs hb rc hcell hlen e3
  have hsz : yx.cells.size = n := by have := rc.length; simp at this; omega
  refine ⟨μ, w', .skip, ?_, h2, h3, .inr ⟨rfl, h4⟩⟩
  simp [Instr.storeAt, Instr.sureAddr, storeVar, run_sizeOf hn, hsz, h1]
theorem store_ok (hs : Sim μ h w) {n : Nat} {a x : AX} {ya yx : Value} (hn : szOf P ty = some n) (ra : VR μ (evX a t) ya) (rx : VR μ (evX x t) yx) {v : AV} {call : CallT}
    (e : evE (.store n a x) call t h = .ok v h') : Eff P μ h w (do Instr.storeAt ty ya yx; pure .skip) v h' := by
  have e : (bc (Nat.beq n 1) (fun t h => bc (isCell (evX x t)) (oStore1 a x t h) (oStoreN n a x t h)) (oStoreN n a x)) t h = .ok v h' := e
  rw [bc_beq] at e
  split at e
  · subst n
    have e : bc (isCell (evX x t)) (oStore1 a x t h) (oStoreN 1 a x t h) = .ok v h' := e
    rw [bc_eq] at e
    split at e
    · rename_i hc
      obtain ⟨b, o, hp, e1⟩ := asPtr_inv e nofun
      obtain ⟨_, e2⟩ := bc_inv e1 nofun
      rw [hp, VR_ptr] at ra
      obtain ⟨c, s, hb, rfl⟩ := ra
      obtain ⟨w', h1, h2, h3, h4⟩ := wr1_ok (P := P) hs hb rx hc e2
      have hcl : cellsOf (evX x t) = [evX x t] := cellsOf_cell (fun l hl => by rw [hl] at hc; cases hc)
      have hyc : yx.cells.toList = [yx] := by
        have r2 := rx.cells
        rw [hcl, VRs_cons] at r2
        obtain ⟨y, ys, h5, _, h6⟩ := r2
        rw [VRs_nil] at h6; subst h6
        have : yx.cells = #[yx] := by
          have hone := rx.oneCell hc
          cases yx <;> first | rfl | cases hone
        rw [this]
      have hsz : yx.cells.size = 1 := by rw [← Array.length_toList, hyc]; rfl
      refine ⟨μ, w', .skip, ?_, h2, h3, .inr ⟨rfl, h4⟩⟩
      simp [Instr.storeAt, Instr.sureAddr, storeVar, run_sizeOf hn, hsz, hyc, h1]
    · exact storeN_ok hs hn ra rx e
  · exact storeN_ok hs hn ra rx e
theorem src_ok {β : Type} (hs : Sim μ h w) {sz : Nat} {a : AV} {x : Value} {z r : β} {k : Nat → List AV → β} (hsz0 : sz ≠ 0) (rx : VR μ a x) (e : src h sz a z k = r) (hz : z ≠ r) :
    ∃ m l xs, k m l = r ∧ VRs μ l xs ∧ l.length = m * sz ∧ (∀ v ∈ l, isCell v = true) ∧ (∀ w, (Builtin.lenOf x).run P w = .ok m w) ∧
      ∀ n, n ≤ m → ∀ w1 : World, w1.heap = w.heap → (Builtin.firstCells sz n x).run P w1 = .ok (xs.take (n * sz)).toArray w1 := by
  replace e : (avS a).cs (a.asStr z fun s => bc (Nat.beq sz 1) (k (len s) (u8s s)) z) (k 0 []) (fun b o n _ s _ => bc (Nat.beq s sz) (rdN h b o (Nat.mul n sz) z fun l => k n l) z) = r := e
  cases a
  case nilSlice =>
    rw [VR_nilSlice] at rx; subst rx
    exact ⟨0, [], [], e, by rw [VRs_nil], by simp, (fun v hv => by cases hv), fun w => by simp [Builtin.lenOf], fun n hn w1 _ => by simp [Builtin.firstCells]⟩
  case slice b o n c s ex =>
    obtain ⟨rfl, e1⟩ := beq_inv (show bc (Nat.beq s sz) (rdN h b o (Nat.mul n sz) z fun l => k n l) z = r from e) hz
    rw [VR_slice] at rx
    obtain ⟨c0, s0, s', cp', hb, rfl, h1, h2, h3, h4⟩ := rx
    obtain ⟨l, xs, e2, r2, hlen, hcell, hx⟩ := rdN_ok hs hb e1 hz
    have hl := r2.length
    have hlen : xs.length = n * s := hlen
    refine ⟨n, l, xs, e2, r2, by omega, hcell, fun w => by simp [Builtin.lenOf], fun m hm w1 hw1 => ?_⟩
    have hms : m * s ≤ n * s := Nat.mul_le_mul_right _ hm
    by_cases h0 : cp' = 0
    · obtain rfl : n = 0 := by omega
      obtain rfl : m = 0 := by omega
      simp [Builtin.firstCells]; rfl
    · obtain ⟨rfl, _⟩ := h4 h0
      simp only [Builtin.firstCells]
      refine run_loadCells_of (by simp; omega) fun j x hj => ?_
      rw [List.getElem?_take] at hj
      split at hj
      · have := hx j x hj
        unfold World.cell? at this ⊢
        rw [hw1]; exact this
      · cases hj
  case str s =>
    obtain ⟨rfl, e1⟩ := beq_inv (show bc (Nat.beq sz 1) (k (len s) (u8s s)) z = r from e) hz
    rw [VR_str] at rx
    obtain ⟨s', rfl, rfl⟩ := rx
    refine ⟨_, _, (s'.data.toList.map fun (b : UInt8) => Value.int .u8 (b.toNat : Int)), e1, ?_, by rw [u8s_length, len_eq]; simp, u8s_cell _, fun w => by rw [len_eq, byteList_length]; simp [Builtin.lenOf], fun n hn w1 _ => ?_⟩
    · refine .of_get (by rw [u8s_length, byteList_length, List.length_map]; rfl) fun i v hv => ?_
      obtain ⟨n, hn, rfl⟩ := u8s_get hv
      unfold byteList at hn
      rw [List.getElem?_map] at hn ⊢
      cases hb : s'.data.toList[i]? with
      | none => rw [hb] at hn; cases hn
      | some bt => rw [hb] at hn; cases hn; exact ⟨_, rfl, by simp⟩
    · simp only [Builtin.firstCells, Sem.run_pure]
      congr 1
      apply Array.ext'
      simp [ByteArray.data_extract, Array.toList_extract, List.extract_eq_take_drop, List.map_take]
  all_goals exact absurd e hz
end
end Eng
