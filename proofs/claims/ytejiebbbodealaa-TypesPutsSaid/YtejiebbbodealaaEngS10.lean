/- The engine's soundness, part 10: every quiet operation. -/
import Derived.Test.YtejiebbbodealaaEngS9
set_option linter.unusedVariables false
set_option linter.unusedSimpArgs false
namespace Eng
open Go Go.RowKit
section
variable {P : Program} {μ : Mp} {h : Hp} {w : World} {t : T} {ρ : Operand → Value} {ty : TypeId}
def Quiet (P : Program) (μ : Mp) (w : World) (s : Sem Next) (v : AV) : Prop := ∃ x, s.run P w = .ok (.value x) w ∧ VR μ v x
theorem Gives.quiet {s : Sem Value} {v : AV} (g : Gives P μ w s v) : Quiet P μ w (do pure (.value (← s))) v := by
  obtain ⟨x, hx, r⟩ := g
  exact ⟨x, by simp [hx], r⟩
theorem Opnds.one {x : Operand} {a : AX} {l : List Operand} (hx : Opnds μ t ρ l) (ha : compX x = some a) (hm : x ∈ l) : VR μ (evX a t) (ρ x) := hx x hm a ha
theorem compXs_map {xs : Array Operand} {l : List AX} (e : compXs xs.toList = some l) {m : List Operand} (hx : Opnds μ t ρ m) (hm : ∀ x ∈ xs.toList, x ∈ m) : VRs μ (evXs l t) (xs.map ρ).toList := by
  rw [Array.toList_map]
  exact compXs_inv e fun x h => hx x (hm x h)
theorem const_ok {n : Nat} {v : AV} (hs : Sim μ h w) (e : evQ (.move (.const (.int .i64 n))) t h = .ok v) : VR μ v (goInt n) := by
  cases e; simp [goInt]
theorem quiet_builtin (hs : Sim μ h w) {b : Builtin} {ts : Array TypeId} {ret : TypeId} {cs : Array Bool} {as : Array Operand} {xs : List AX} {q : QOp} {v : AV} (hc : compBuiltin P b ts.toList xs = .q q)
    (r : VRs μ (evXs xs t) (as.map ρ).toList) (e : evQ q t h = .ok v) : Quiet P μ w (builtin b ts ret cs (as.map ρ)) v := by
  have hno : AOp.q q ≠ no := fun hq => by cases hq; cases e
  generalize as.map ρ = vs at r
  obtain ⟨ts⟩ := ts
  obtain ⟨vs⟩ := vs
  simp only [] at hc r
  unfold compBuiltin at hc
  split at hc
  · -- append
    rename_i st xt s x
    unfold compAppend at hc
    repeat' (split at hc)
    all_goals first | exact absurd hc.symm hno | (cases hc; done)
  · -- len
    rename_i tt x
    rw [show evXs [x] t = [evX x t] from rfl, VRs_cons] at r
    obtain ⟨y, ys, rfl, rx, r2⟩ := r
    rw [VRs_nil] at r2; subst r2
    unfold compLen at hc
    split at hc
    · rename_i hu; cases hc; exact (lenS_ok hu rx e).quiet
    · rename_i el hu; cases hc; exact (lenL_ok hu rx e).quiet
    · rename_i kt el hu; cases hc; exact (lenM_ok hs hu rx e).quiet
    · rename_i n el hu
      cases hc
      exact ⟨goInt n, by simp [builtin, Builtin.len_, run_underlying hu], const_ok hs e⟩
    · rename_i a hu
      split at hc
      · rename_i n el hu'
        cases hc
        exact ⟨goInt n, by simp [builtin, Builtin.len_, run_underlying hu, run_underlying hu'], const_ok hs e⟩
      · exact absurd hc.symm hno
    · exact absurd hc.symm hno
  · -- cap
    rename_i tt x
    rw [show evXs [x] t = [evX x t] from rfl, VRs_cons] at r
    obtain ⟨y, ys, rfl, rx, r2⟩ := r
    rw [VRs_nil] at r2; subst r2
    split at hc
    · rename_i el hu; cases hc; exact (cap_ok hu rx e).quiet
    · exact absurd hc.symm hno
  · -- copy
    split at hc
    · split at hc
      · split at hc
        · exact absurd hc.symm hno
        · cases hc
      · exact absurd hc.symm hno
    · exact absurd hc.symm hno
  · -- delete
    split at hc
    · split at hc
      · cases hc
      · cases hc
      · exact absurd hc.symm hno
    · exact absurd hc.symm hno
  · cases hc; exact (max_ok (h := h) r e).quiet
  · cases hc; exact (min_ok (h := h) r e).quiet
  · -- clear
    split at hc
    · split at hc
      · cases hc
      · exact absurd hc.symm hno
    · exact absurd hc.symm hno
  · exact absurd hc.symm hno
theorem nil_ok {a : AX} {x : Value} {v : AV} (r : VR μ (evX a t) x) (e : oNil a t h = .ok v) : v = evX a t ∧ ((∃ p, x = .pointer (some p)) ∨ ∃ f fi ca, x = .func (.func f) fi ca) := by
  have e : (avP (evX a t)).cs ((avF (evX a t)).cs .no .no (fun _ _ _ => .ok (evX a t)) .no) .no (fun _ _ => .ok (evX a t)) = OV.ok v := e
  generalize evX a t = u at *
  cases u
  case ptr b o =>
    cases e
    rw [VR_ptr] at r
    obtain ⟨_, _, _, rfl⟩ := r
    exact ⟨rfl, .inl ⟨_, rfl⟩⟩
  case func fn fi ca =>
    cases fn
    case func f =>
      cases e
      rw [VR_func] at r
      obtain ⟨_, _, rfl, _⟩ := r
      exact ⟨rfl, .inr ⟨_, _, _, rfl⟩⟩
    all_goals cases e
  all_goals cases e
theorem conv_ok (hs : Sim μ h w) {src dst : TypeId} {a : AX} {x : Value} {q : QOp} {v : AV} (hc : compConv P src dst a = .q q) (r : VR μ (evX a t) x) (e : evQ q t h = .ok v) : Gives P μ w (convert src dst x) v := by
  have hno : AOp.q q ≠ no := fun hq => by cases hq; cases e
  unfold compConv at hc
  split at hc
  · rename_i k1 k2 h1 h2
    cases hc
    obtain ⟨i, n, hn, e1⟩ := asInt_inv (show ((evX a t).asInt .no fun _ n => okI k2 n) = .ok v from e) nofun
    rw [hn, VR_int] at r; subst r
    exact ⟨_, by simp [convert, run_underlying h1, run_underlying h2, Conv.intToInt], okI_ok e1 rfl⟩
  · rename_i el h1 h2
    split at hc
    · cases hc
    · exact absurd hc.symm hno
  · rename_i el h1 h2
    split at hc
    · rename_i h3
      cases hc
      have g := toStr_ok (P := P) hs r (show _ = OV.ok v from e)
      obtain ⟨y, hy, ry⟩ := g
      refine ⟨y, ?_, ry⟩
      rcases asSlice_inv (show (evX a t).asSlice .no (OV.ok (.str [])) _ = .ok v from e) nofun with ⟨hu, _⟩ | ⟨b, o, n, c, s, ex, hu, _⟩
      · rw [hu, VR_nilSlice] at r; subst r
        simp [convert, run_underlying h1, run_underlying h2, run_underlying h3, hy]
      · rw [hu, VR_slice] at r; obtain ⟨_, _, _, _, _, rfl, _⟩ := r
        simp [convert, run_underlying h1, run_underlying h2, run_underlying h3, hy]
    · exact absurd hc.symm hno
  · rename_i e1 e2 h1 h2
    split at hc
    · split at hc
      · cases hc
      · exact absurd hc.symm hno
    · exact absurd hc.symm hno
  · exact absurd hc.symm hno
theorem iface_run {d : TypeDesc} {x : Value} (hu : P.underlying ty = some d) (hd : isIface d = false) : (Instr.makeInterface ty x).run P w = .ok (.iface ty x) w := by
  cases d <;> first | (cases hd; done) | simp [Instr.makeInterface, run_underlying hu]
theorem fieldAddr_ok {fs : Array Field} {i o n : Nat} {a : AX} {x : Value} {v : AV} (hu : P.underlying ty = some (.struct fs)) (hp : places P fs i = some (o, n)) (hn : n ≠ 0) (r : VR μ (evX a t) x)
    (e : evQ (.fieldAddr o a) t h = .ok v) : Gives P μ w (Instr.fieldAt ty x i) v := by
  obtain ⟨b, p, hb, e1⟩ := asPtr_inv (show ((evX a t).asPtr .no fun b p => OV.ok (.ptr b (Nat.add p o))) = .ok v from e) nofun
  cases e1
  rw [hb, VR_ptr] at r
  obtain ⟨c, s, hc, rfl⟩ := r
  unfold places at hp
  split at hp
  · cases hp
  · rename_i f hf
    cases hs : szOf P f.type with
    | none => rw [hs] at hp; cases hp
    | some m =>
      rw [hs] at hp
      have hp : (f.offset, m) = (o, n) := Option.some.inj hp
      obtain ⟨rfl, rfl⟩ := Prod.mk.inj hp
      refine ⟨.pointer (some ⟨c, s + p + f.offset, none⟩), ?_, ?_⟩
      · simp [Instr.fieldAt, run_underlying hu, hf, Instr.sureAddr, fieldPlace, run_sizeOf hs, hn, addr_add]
      · rw [VR_ptr]; exact ⟨c, s, hc, by show _ = Value.pointer (some ⟨c, s + (p + f.offset), none⟩); rw [Nat.add_assoc]⟩
theorem extract_ok {a : AX} {x : Value} {i : Nat} {v : AV} (r : VR μ (evX a t) x) (e : evQ (.extract i a) t h = .ok v) : Gives P μ w (Instr.extract x i) v := by
  obtain ⟨l, hl, e1⟩ := asTuple_inv (show ((evX a t).asTuple .no fun vs => ocase .no OV.ok (nth? vs i)) = .ok v from e) nofun
  obtain ⟨u, hu, e2⟩ := ocase_inv e1 nofun
  cases e2
  rw [hl, VR_tuple] at r
  obtain ⟨ds, rfl, r⟩ := r
  rw [nth_eq] at hu
  obtain ⟨y, hy, ry⟩ := r.get _ _ hu
  rw [Array.getElem?_toList] at hy
  exact ⟨y, by simp [Instr.extract, hy], ry⟩
theorem quiet_ok (hs : Sim μ h w) {o : Oper} {q : QOp} (hc : compOp P o.op = .q q) (hx : Opnds μ t ρ o.op.operands.toList) {v : AV} (e : evQ q t h = .ok v) :
    Quiet P μ w (execOp ρ o) v := by
  have hno : AOp.q q ≠ no := fun hq => by cases hq; cases e
  have hq : ∀ f : AOp, f = .q q → f ≠ no := fun f hf => by rw [hf]; exact hno
  unfold execOp
  generalize o.op = op at *
  generalize o.type = oty at *
  cases op
  case move x =>
    obtain ⟨a, ha, e1⟩ := comp1_inv hc hno; cases e1; cases e
    exact ⟨ρ x, rfl, hx x (by simp [Op.operands]) a ha⟩
  case assign x =>
    obtain ⟨a, ha, e1⟩ := comp1_inv hc hno; cases e1; cases e
    exact ⟨ρ x, rfl, hx x (by simp [Op.operands]) a ha⟩
  case pick c a b0 =>
    obtain ⟨c', a', b', hc', ha, hb, e1⟩ := comp3_inv hc hno; cases e1
    obtain ⟨b, hb', e2⟩ := asBool_inv (show ((evX c' t).asBool .no fun c => bc c (OV.ok (evX a' t)) (.ok (evX b' t))) = .ok v from e) nofun
    have rc := hx c (by simp [Op.operands]) c' hc'
    rw [hb', VR_bool] at rc
    cases b
    · cases e2; exact ⟨ρ b0, by simp [rc, asBool], hx b0 (by simp [Op.operands]) b' hb⟩
    · cases e2; exact ⟨ρ a, by simp [rc, asBool], hx a (by simp [Op.operands]) a' ha⟩
  case build ty ps =>
    exact (build_ok (hc : compBuild P ty ps = .q q) (by simpa [Op.operands] using hx) e).quiet
  case load ty a =>
    obtain ⟨a', ha, e1⟩ := comp1_inv hc hno
    have ra := hx a (by simp [Op.operands]) a' ha
    split at e1
    · rename_i n h1 h2; cases e1; exact (loadA_ok hs ra h1 h2 e).quiet
    · rename_i n h1 h2; cases e1; exact (loadS_ok hs ra h1 e).quiet
    · exact absurd e1.symm hno
  case nilCheck x =>
    obtain ⟨a, ha, e1⟩ := comp1_inv hc hno; cases e1
    have ra := hx x (by simp [Op.operands]) a ha
    obtain ⟨rfl, hp | hf⟩ := nil_ok (h := h) ra e
    · obtain ⟨p, hp⟩ := hp
      exact ⟨ρ x, by simp [hp], ra⟩
    · obtain ⟨f, fi, ca, hf⟩ := hf
      exact ⟨ρ x, by simp [hf], ra⟩
  case binOp op ty x y yt =>
    have heq : ∀ (neg : Bool), op = bc neg .neq .eql → compOp P (.binOp op ty x y yt) = (comp2 x y fun a b => compEq P neg ty a b) := by
      intro neg hop; subst hop; cases neg <;> rfl
    by_cases h1 : ∃ neg, op = bc neg .neq .eql
    · obtain ⟨neg, hop⟩ := h1
      rw [heq neg hop] at hc
      subst hop
      obtain ⟨a, b, ha, hb, e1⟩ := comp2_inv hc hno
      have ra := hx x (by simp [Op.operands]) a ha
      have rb := hx y (by simp [Op.operands]) b hb
      unfold compEq at e1
      split at e1
      · rename_i fs hu
        split at e1
        · exact absurd e1.symm hno
        · rename_i hst
          simp only [Bool.or_eq_true, not_or, Bool.not_eq_true] at hst
          split at e1
          · rename_i ks hk
            cases e1
            exact (eqls_ok hu hk hst.1 hst.2 ra rb e).quiet
          · exact absurd e1.symm hno
      · rename_i d hd hu
        split at e1
        · rename_i k hk
          cases e1
          exact (eql_ok hu hk ra rb e).quiet
        · exact absurd e1.symm hno
      · exact absurd e1.symm hno
    · have h2 : op ≠ .eql := fun h => h1 ⟨false, h⟩
      have h3 : op ≠ .neq := fun h => h1 ⟨true, h⟩
      have hc : (comp2 x y fun a b => AOp.q (.bin op a b)) = .q q := by
        rw [← hc]; cases op <;> first | rfl | exact absurd rfl h2 | exact absurd rfl h3
      obtain ⟨a, b, ha, hb, e1⟩ := comp2_inv hc hno
      cases e1
      have ra := hx x (by simp [Op.operands]) a ha
      have rb := hx y (by simp [Op.operands]) b hb
      have hgd : ∀ u v : Value, eqGuard op ty x y u v = pure () := by
        intro u v; cases op <;> first | rfl | exact absurd rfl h2 | exact absurd rfl h3
      show Quiet P μ w (do let y ← (do eqGuard op ty x y (ρ x) (ρ y); binOp op ty (ρ x) (ρ y)); pure (.value y)) v
      rw [hgd]
      have e : (avI (evX a t)).cs ((evX a t).asStr .no fun u => (evX b t).asStr .no fun v => binStr op u v) (fun k m => (evX b t).asInt .no fun k' n => binIK op k k' m n) = OV.ok v := e
      have g : Gives P μ w (binOp op ty (ρ x) (ρ y)) v := by
        generalize evX a t = u at *
        generalize evX b t = u' at *
        cases u
        case int k m =>
          obtain ⟨k', n, rfl, e1⟩ := asInt_inv (show (u'.asInt .no fun k' n => binIK op k k' m n) = .ok v from e) nofun
          rw [VR_int] at ra rb
          rw [ra, rb]
          exact binInt_ok e1 h2 h3
        all_goals first
          | (cases e; done)
          | (obtain ⟨s1, hs1, e1⟩ := asStr_inv e nofun
             obtain ⟨s2, rfl, e2⟩ := asStr_inv e1 nofun
             cases hs1
             rw [VR_str] at ra rb
             obtain ⟨x', hx', rfl⟩ := ra
             obtain ⟨y', hy', rfl⟩ := rb
             rw [hx', hy']
             exact binStr_ok e2 h2 h3)
      obtain ⟨y, hy, r⟩ := g
      exact ⟨y, by simp [hy], r⟩
  case unOp op ty x =>
    obtain ⟨a, ha, e1⟩ := comp1_inv hc hno; cases e1
    exact (un_ok (h := h) (hx x (by simp [Op.operands]) a ha) e).quiet
  case convert s d x =>
    obtain ⟨a, ha, e1⟩ := comp1_inv hc hno
    exact (conv_ok hs e1 (hx x (by simp [Op.operands]) a ha) e).quiet
  case makeInterface ty x =>
    obtain ⟨a, ha, e1⟩ := comp1_inv hc hno
    have ra := hx x (by simp [Op.operands]) a ha
    split at e1
    · rename_i d hu
      split at e1
      · exact absurd e1.symm hno
      · rename_i hd
        cases e1; cases e
        have hd : isIface d = false := by simpa using hd
        exact ⟨.iface ty (ρ x), by simp [iface_run hu hd], by simpa using ra⟩
    · exact absurd e1.symm hno
  case makeFunc fn fi ca =>
    have hc : (match compXs fi.toList, compXs ca.toList with
      | some a, some b => AOp.q (.makeFunc fn a b)
      | _, _ => no) = .q q := hc
    split at hc
    · rename_i a b h1 h2
      cases hc; cases e
      refine ⟨.func fn (fi.map ρ) (ca.map ρ), by simp [Instr.makeFunc], ?_⟩
      rw [VR_func]
      exact ⟨_, _, rfl, compXs_map h1 hx (fun x hx => by simp [Op.operands]; exact .inl (by simpa using hx)), compXs_map h2 hx (fun x hx => by simp [Op.operands]; exact .inr (by simpa using hx))⟩
    · exact absurd hc.symm hno
  case slice ty x lo hi mx =>
    obtain ⟨a, ha, e1⟩ := comp1_inv hc hno
    have ra := hx x (by simp [Op.operands]) a ha
    split at e1
    · rename_i lo' hi' mx' h1 h2 h3
      have rl := compOX_ok h1 hx (fun y hy => by simp [Op.operands, hy])
      have rh := compOX_ok h2 hx (fun y hy => by simp [Op.operands, hy])
      have rm := compOX_ok h3 hx (fun y hy => by simp [Op.operands, hy])
      unfold compSlice at e1
      split at e1
      · rename_i hu
        split at e1
        · cases e1
          cases mx with
          | some _ => exact rm.elim
          | none => exact (sliceStr_ok hu ra rl rh e).quiet
        · exact absurd e1.symm hno
      · rename_i el hu
        split at e1
        · rename_i n hn; cases e1; exact (sliceSl_ok hu hn ra rl rh rm e).quiet
        · exact absurd e1.symm hno
      · rename_i k el hu
        split at e1
        · rename_i n hn; cases e1; exact (sliceArr_ok hs hu hn ra rl rh rm e).quiet
        · exact absurd e1.symm hno
      · exact absurd e1.symm hno
    · exact absurd e1.symm hno
  case fieldAddr s x i =>
    obtain ⟨a, ha, e1⟩ := comp1_inv hc hno
    have ra := hx x (by simp [Op.operands]) a ha
    unfold compFieldAddr at e1
    split at e1
    · rename_i fs hu
      split at e1
      · rename_i o n hp
        split at e1
        · exact absurd e1.symm hno
        · rename_i hn; cases e1; exact (fieldAddr_ok hu hp hn ra e).quiet
      · exact absurd e1.symm hno
    · exact absurd e1.symm hno
  case field s x i =>
    obtain ⟨a, ha, e1⟩ := comp1_inv hc hno
    have ra := hx x (by simp [Op.operands]) a ha
    unfold compField at e1
    split at e1
    · rename_i fs hu
      split at e1
      · rename_i f hf
        split at e1
        · rename_i n h1 h2; cases e1; exact (fieldA_ok hu hf h1 h2 ra e).quiet
        · rename_i n h1 h2; cases e1; exact (fieldS_ok hu hf h1 ra e).quiet
        · exact absurd e1.symm hno
      · exact absurd e1.symm hno
    · exact absurd e1.symm hno
  case indexAddr ty x i =>
    obtain ⟨a, b, ha, hb, e1⟩ := comp2_inv hc hno
    have ra := hx x (by simp [Op.operands]) a ha
    have rb := hx i (by simp [Op.operands]) b hb
    unfold compIndexAddr at e1
    split at e1
    · rename_i el hu
      split at e1
      · rename_i n hn; cases e1; exact (idxAddrSl_ok hu hn ra rb e).quiet
      · exact absurd e1.symm hno
    · rename_i k el hu
      split at e1
      · rename_i n hn; cases e1; exact (idxAddrArr_ok hu hn ra rb e).quiet
      · exact absurd e1.symm hno
    · exact absurd e1.symm hno
  case index ty x i =>
    obtain ⟨a, b, ha, hb, e1⟩ := comp2_inv hc hno
    have ra := hx x (by simp [Op.operands]) a ha
    have rb := hx i (by simp [Op.operands]) b hb
    unfold compIndex at e1
    split at e1
    · rename_i hu; cases e1; exact (idxStr_ok hu ra rb e).quiet
    · rename_i k el hu
      split at e1
      · rename_i n h1 h2; cases e1; exact (idxArrA_ok hu h1 h2 ra rb e).quiet
      · rename_i h1 h2; cases e1; exact (idxArrS_ok hu h1 h2 ra rb e).quiet
      · exact absurd e1.symm hno
    · exact absurd e1.symm hno
  case lookup ty m k ok =>
    obtain ⟨a, b, ha, hb, e1⟩ := comp2_inv hc hno
    have ra := hx m (by simp [Op.operands]) a ha
    have rb := hx k (by simp [Op.operands]) b hb
    unfold compLookup at e1
    split at e1
    · rename_i kt el hu
      split at e1
      · rename_i s z h1 h2; cases e1; exact (lookup_ok hs hu h1 h2 ra rb e).quiet
      · exact absurd e1.symm hno
    · exact absurd e1.symm hno
  case extract x i =>
    obtain ⟨a, ha, e1⟩ := comp1_inv hc hno; cases e1
    exact (extract_ok (hx x (by simp [Op.operands]) a ha) e).quiet
  case call c =>
    have hc : compCall P c = .q q := hc
    unfold compCall at hc
    split at hc
    · rename_i b hb
      split at hc
      · rename_i xs hxs
        have r := compXs_map hxs hx (fun x hx => by simp [Op.operands, Call.operands, hb]; simpa using hx)
        obtain ⟨y, hy, ry⟩ := quiet_builtin (ret := oty) (cs := c.args.map fun | .const _ => true | _ => false) hs hc r e
        refine ⟨y, ?_, ry⟩
        simp only [resolve, hb, Sem.run_bind, Sem.run_pure, Result.andThen_ok, invoke]
        exact hy
      · exact absurd hc.symm hno
    · split at hc
      · cases hc
      · exact absurd hc.symm hno
    · exact absurd hc.symm hno
  case alloc ty =>
    have hc : (match zeroOf P ty with | some z => AOp.l (.alloc (cellsC z)) | none => no) = .q q := hc
    split at hc
    · cases hc
    · exact absurd hc.symm hno
  case box ty x => obtain ⟨a, ha, e1⟩ := comp1_inv hc hno; cases e1
  case buildSlice ty n ps =>
    have hc : compBuildSlice P ty n ps = .q q := hc
    unfold compBuildSlice at hc
    repeat' (split at hc)
    all_goals first | exact absurd hc.symm hno | (cases hc; done)
  case insert ty m k v =>
    obtain ⟨a, b, c, _, _, _, e1⟩ := comp3_inv hc hno
    unfold compMapUpdate at e1
    repeat' (split at e1)
    all_goals first | exact absurd e1.symm hno | (cases e1; done)
  case mapUpdate ty m k v =>
    obtain ⟨a, b, c, _, _, _, e1⟩ := comp3_inv hc hno
    unfold compMapUpdate at e1
    repeat' (split at e1)
    all_goals first | exact absurd e1.symm hno | (cases e1; done)
  case store ty a x =>
    obtain ⟨a, b, _, _, e1⟩ := comp2_inv hc hno
    split at e1
    · cases e1
    · exact absurd e1.symm hno
  case makeMap ty r =>
    have hc : compMakeMap P ty r = .q q := hc
    unfold compMakeMap at hc
    repeat' (split at hc)
    all_goals first | exact absurd hc.symm hno | (cases hc; done)
  case makeSlice ty l c =>
    obtain ⟨a, b, _, _, e1⟩ := comp2_inv hc hno
    unfold compMakeSlice at e1
    repeat' (split at e1)
    all_goals first | exact absurd e1.symm hno | (cases e1; done)
  all_goals exact absurd hc.symm hno
end
end Eng
