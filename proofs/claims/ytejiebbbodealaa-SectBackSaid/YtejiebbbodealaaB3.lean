import Derived.Test.YtejiebbbodealaaB2
import Derived.ChangeSlices
import Derived.WideShapes
import Derived.SizedLaws
import Derived.Test.YtejiebbbodealaaRows
import Derived.WalkKit
section
set_option linter.unusedVariables false
set_option linter.unusedSimpArgs false
namespace Eng
open Go Go.RowKit
section
variable {call : CallT} {callW : CallW} {N : Nat}
theorem peel_ok : ∀ {r : Orc} {K : Orc → Prop}, peel r K → ∃ r', K r' := by
  intro r K
  induction r with
  | exi n f ih => intro h; obtain ⟨x, h⟩ := (show ∃ x, peel (f x) K from h); exact ih x h
  | dis n a b ia ib =>
    intro h
    rcases (show peel a K ∨ peel b K from h) with h | h
    · exact ia h
    · exact ib h
  | _ => exact fun h => ⟨_, h⟩
theorem step_ok {c : Nat} {r : Orc} {now : Orc → Prop} {go : Nat → Orc → Prop} (h : step c r now go) : (∃ r', now r') ∨ ∃ m, go m r := by
  cases c with
  | zero => exact .inl (peel_ok h)
  | succ m => exact .inr ⟨m, h⟩
theorem okv {o : OV} {k : AV → Prop} (h : o.cs False k) : ∃ v, o = .ok v ∧ k v := by
  cases o with
  | no => exact h.elim
  | ok v => exact ⟨v, rfl, h⟩
theorem okr {o : RV} {k : AV → Hp → Prop} (h : o.cs False k) : ∃ v h', o = .ok v h' ∧ k v h' := by
  cases o with
  | no => exact h.elim
  | ok v h' => exact ⟨v, h', rfl, h⟩
theorem okb {v : AV} {k : Bool → Prop} (h : (avB v).cs False k) : ∃ b, v = .bool b ∧ k b := by
  cases v <;> first | exact h.elim | exact ⟨_, rfl, h⟩
theorem qW_ok {o : QOp} {t : T} {h : Hp} {c : Nat} {r : Orc} {k : KV} (e : qW o t h c r k) : ∃ v c' r', evQ o t h = .ok v ∧ k v c' r' := by
  rcases step_ok e with ⟨r, e⟩ | ⟨m, e⟩
  · cases r with
    | fin => obtain ⟨v, h1, h2⟩ := okv e; exact ⟨v, _, _, h1, h2⟩
    | tell n x r => exact ⟨x, _, _, e.1, e.2⟩
    | fork n a b =>
      obtain ⟨v, h1, h2⟩ := okv (show (evQ o t h).cs False (fun v => (avB v).cs False fun b' => (b' = true → k (.bool true) a.n a) ∧ (b' = false → k (.bool false) b.n b)) from e)
      obtain ⟨b', rfl, h3⟩ := okb h2
      cases b' with
      | true => exact ⟨_, _, _, h1, h3.1 rfl⟩
      | false => exact ⟨_, _, _, h1, h3.2 rfl⟩
    | eff n x h r => exact False.elim e
    | lp n s r => exact False.elim e
    | again n r => exact False.elim e
    | goal n r =>
      obtain ⟨v, h1, h2⟩ := okv (show (evQ o t h).cs False (fun v => (avB v).cs False fun b' => b' = true ∧ k (.bool true) r.n r) from e)
      obtain ⟨b', rfl, rfl, h3⟩ := okb h2
      exact ⟨_, _, _, h1, h3⟩
    | effx n x r => exact False.elim e
    | lpx n x r => exact False.elim e
    | ell n m x r => exact False.elim e
    | agn n r => exact False.elim e
    | exi n f => obtain ⟨v, h1, h2⟩ := okv e; exact ⟨v, _, _, h1, h2⟩
    | dis n a b => obtain ⟨v, h1, h2⟩ := okv e; exact ⟨v, _, _, h1, h2⟩
  · obtain ⟨v, h1, h2⟩ := okv e; exact ⟨v, _, _, h1, h2⟩
def CallOk (call : CallT) (callW : CallW) : Prop := ∀ g args h c r k, callW g args h c r k → ∃ v h' c' r', call g args h = .ok v h' ∧ k v h' c' r'
theorem eW_ok (hc : CallOk call callW) {o : EOp} {t : T} {h : Hp} {c : Nat} {r : Orc} {k : KR} (e : eW call callW o t h c r k) : ∃ v h' c' r', evE o call t h = .ok v h' ∧ k v h' c' r' := by
  have go : ∀ c r, goE callW o t h k c r → ∃ v h' c' r', evE o call t h = .ok v h' ∧ k v h' c' r' := by
    intro c r e
    cases o with
    | call f xs =>
      show ∃ v h' c' r', ((evX f t).asFunc RV.no fun g a b => call g (app a (app (evXs xs t) b)) h) = .ok v h' ∧ k v h' c' r'
      have e : (evX f t).asFunc False fun g a b => callW g (app a (app (evXs xs t) b)) h c r k := e
      unfold AV.asFunc at e ⊢
      cases hf : avF (evX f t) with
      | no => rw [hf] at e; exact e.elim
      | nil => rw [hf] at e; exact e.elim
      | other => rw [hf] at e; exact e.elim
      | fn g a b => rw [hf] at e; exact hc _ _ _ _ _ _ e
    | _ => obtain ⟨v, h', h1, h2⟩ := okr e; exact ⟨v, h', _, _, h1, h2⟩
  rcases step_ok (show step c r _ _ from e) with ⟨r, e⟩ | ⟨m, e⟩
  · cases r with
    | fin => exact go _ _ e
    | exi n f => exact go _ _ e
    | dis n a b => exact go _ _ e
    | eff n x h' r => exact ⟨x, h', _, _, e.1, e.2⟩
    | effx n x r => obtain ⟨w, h1, h2⟩ := e; exact ⟨x w, w.h, _, _, h1, h2⟩
    | _ => exact False.elim e
  · exact go _ _ e
theorem lW_ok {o : LOp} {t : T} {c : Nat} {r : Orc} {k : KL} (e : lW o t c r k) : ∃ m x c' r', evL o t = .ok m x ∧ k m x c' r' := by
  have go : ∀ c r, ((evL o t).cs False fun m x => k m x c r) → ∃ m x c' r', evL o t = .ok m x ∧ k m x c' r' := fun c r e => by
    cases hl : evL o t with
    | no => rw [hl] at e; exact e.elim
    | ok m x => rw [hl] at e; exact ⟨m, x, _, _, rfl, e⟩
  rcases step_ok (show step c r _ _ from e) with ⟨r, e⟩ | ⟨m, e⟩
  · cases r with
    | fin => exact go _ _ e
    | exi n f => exact go _ _ e
    | dis n a b => exact go _ _ e
    | ell n m x r => exact ⟨m, x, _, _, e.1, e.2⟩
    | _ => exact False.elim e
  · exact go _ _ e
theorem runW_ok (hc : CallOk call callW) {op : AOp} {d : Option Nat} {t : T} {h : Hp} {c : Nat} {r : Orc} {k : KT} (e : runW call callW op d t h c r k) : ∃ t' h' c' r', runA op d call t h = .ok t' h' ∧ k t' h' c' r' := by
  cases op with
  | q o =>
    obtain ⟨v, c', r', h1, h2⟩ := qW_ok (show qW o t h c r _ from e)
    refine ⟨_, _, c', r', ?_, h2⟩
    show (evQ o t h).then _ = _
    rw [h1]; rfl
  | l o =>
    obtain ⟨m, x, c', r', h1, h2⟩ := lW_ok (show lW o t c r _ from e)
    show ∃ t' h' c' r', ((evL o t).then fun m x => .ok (putT d (mkAt m h.next) t) (hpush h x)) = _ ∧ _
    rw [h1]; exact ⟨_, _, _, _, rfl, h2⟩
  | e o =>
    obtain ⟨v, h', c', r', h1, h2⟩ := eW_ok hc (show eW call callW o t h c r _ from e)
    refine ⟨_, _, c', r', ?_, h2⟩
    show (evE o call t h).then _ = _
    rw [h1]; rfl
theorem oW_ok (hc : CallOk call callW) {o : AO} {t : T} {h : Hp} {c : Nat} {r : Orc} {k : KT} (e : oW call callW o t h c r k) : ∃ t' h' c' r', evO call o t h = .ok t' h' ∧ k t' h' c' r' := by
  obtain ⟨dst, op, g⟩ := o
  cases g with
  | none => exact runW_ok hc e
  | some g =>
    have e : bc (wanted (some g) t) (runW call callW op dst t h c r k) (k (putT dst undef t) h c r) := e
    show ∃ t' h' c' r', bc (wanted (some g) t) (runA op dst call t h) (.ok (putT dst undef t) h) = .ok t' h' ∧ _
    cases hw : wanted (some g) t with
    | true => rw [hw] at e; exact runW_ok hc e
    | false => rw [hw] at e; exact ⟨_, _, _, _, rfl, e⟩
theorem osW_ok (hc : CallOk call callW) : ∀ (os : List AO) {t : T} {h : Hp} {c : Nat} {r : Orc} {k : KT}, osW call callW os t h c r k → ∃ t' h' c' r', evOs call os t h = .ok t' h' ∧ k t' h' c' r'
  | [], t, h, c, r, k, e => ⟨_, _, _, _, rfl, e⟩
  | o :: os, t, h, c, r, k, e => by
    obtain ⟨t1, h1, c1, r1, e1, e2⟩ := oW_ok hc (show oW call callW o t h c r (fun t h c r => osW call callW os t h c r k) from e)
    obtain ⟨t2, h2, c2, r2, e3, e4⟩ := osW_ok hc os e2
    refine ⟨t2, h2, c2, r2, ?_, e4⟩
    show (evO call o t h).then (evOs call os) = _
    rw [e1]; exact e3
theorem stageW_ok {o : AO} {hi : Nat} {t : T} {h : Hp} {ps : List PD} {c : Nat} {r : Orc} {k : KP} (e : stageW o hi t h ps c r k) :
    ∃ t' h' ps' c' r', (∀ kk : T → Hp → List PD → RT, stageO o hi t h ps kk = kk t' h' ps') ∧ k t' h' ps' c' r' := by
  unfold stageW at e
  unfold stageO
  cases hw : wanted o.guard t with
  | false => rw [hw] at e; exact ⟨_, _, _, _, _, fun _ => rfl, e⟩
  | true =>
    rw [hw] at e
    obtain ⟨dst, op, g⟩ := o
    cases op with
    | q f =>
      obtain ⟨v, c', r', h1, h2⟩ := qW_ok (show qW f t h c r _ from e)
      refine ⟨_, _, _, c', r', fun kk => ?_, h2⟩
      show (evQ f t h).then _ = _
      rw [h1]; rfl
    | l f =>
      obtain ⟨m, x, c', r', h1, h2⟩ := lW_ok (show lW f t c r _ from e)
      show ∃ t' h' ps' c' r', (∀ kk : T → Hp → List PD → RT, ((evL f t).then fun m x => kk (putT dst (mkAt m h.next) t) (hpush h x) ps) = kk t' h' ps') ∧ _
      rw [h1]; exact ⟨_, _, _, _, _, fun _ => rfl, h2⟩
    | e f => exact False.elim e
theorem stagesW_ok : ∀ (os : List (AO × Nat)) {t : T} {h : Hp} {ps : List PD} {c : Nat} {r : Orc} {k : KP}, stagesW os t h ps c r k →
    ∃ t' h' ps' c' r', (∀ kk : T → Hp → List PD → RT, stageOs os t h ps kk = kk t' h' ps') ∧ k t' h' ps' c' r'
  | [], t, h, ps, c, r, k, e => ⟨_, _, _, _, _, fun _ => rfl, e⟩
  | o :: os, t, h, ps, c, r, k, e => by
    obtain ⟨t1, h1, ps1, c1, r1, e1, e2⟩ := stageW_ok (show stageW o.1 o.2 t h ps c r (fun t h ps c r => stagesW os t h ps c r k) from e)
    obtain ⟨t2, h2, ps2, c2, r2, e3, e4⟩ := stagesW_ok os e2
    refine ⟨t2, h2, ps2, c2, r2, fun kk => ?_, e4⟩
    show stageO o.1 o.2 t h ps (fun t h ps => stageOs os t h ps kk) = _
    rw [e1, e3]
theorem bcF {b : Bool} {K : Prop} (h : bc b K False) : b = true ∧ K := by
  cases b with
  | true => exact ⟨rfl, h⟩
  | false => exact h.elim
mutual
theorem avC_ok : ∀ (v u : AV) {K : Prop}, avC v u K → avEq v u = true ∧ K
  | .bool b, u, K, e => by
    cases u <;> first | exact False.elim e | skip
    exact bcF e
  | .int k n, u, K, e => by
    cases u <;> first | exact False.elim e | skip
    rename_i k' m
    obtain ⟨h1, rfl, h3⟩ := bcF (show bc (ikEq k k') (n = m ∧ K) False from e)
    refine ⟨?_, h3⟩
    show bc (ikEq k k') (eqI n n) false = true
    rw [h1, eqI_eq]; simp
  | .str s, u, K, e => by
    cases u <;> first | exact False.elim e | skip
    obtain ⟨rfl, h⟩ := (show s = _ ∧ K from e)
    refine ⟨?_, h⟩
    show strEq s s = true
    rw [strEq_iff]; simp
  | .nilPtr, u, K, e => by cases u <;> first | exact ⟨rfl, e⟩ | exact False.elim e
  | .ptr b o, u, K, e => by
    cases u <;> first | exact False.elim e | skip
    rename_i b' o'
    obtain ⟨h1, e⟩ := bcF (show bc (Nat.beq b b') (bc (Nat.beq o o') K False) False from e)
    obtain ⟨h2, e⟩ := bcF e
    refine ⟨?_, e⟩
    show bc (Nat.beq b b') (Nat.beq o o') false = true
    rw [h1, h2]; rfl
  | .nilSlice, u, K, e => by cases u <;> first | exact ⟨rfl, e⟩ | exact False.elim e
  | .slice b o l c s x, u, K, e => by
    cases u <;> first | exact False.elim e | skip
    rename_i b' o' l' c' s' x'
    obtain ⟨h1, e⟩ := bcF (show bc (Nat.beq b b') (bc (Nat.beq o o') (bc (Nat.beq l l') (bc (Nat.beq c c') (bc (Nat.beq s s') (bc (bc x x' (notB x')) K False) False) False) False) False) False from e)
    obtain ⟨h2, e⟩ := bcF e
    obtain ⟨h3, e⟩ := bcF e
    obtain ⟨h4, e⟩ := bcF e
    obtain ⟨h5, e⟩ := bcF e
    obtain ⟨h6, e⟩ := bcF e
    refine ⟨?_, e⟩
    show bc (Nat.beq b b') (bc (Nat.beq o o') (bc (Nat.beq l l') (bc (Nat.beq c c') (bc (Nat.beq s s') (bc x x' (notB x')) false) false) false) false) false = true
    rw [h1, h2, h3, h4, h5, h6]; rfl
  | .nilMap, u, K, e => by cases u <;> first | exact ⟨rfl, e⟩ | exact False.elim e
  | .map b, u, K, e => by
    cases u <;> first | exact False.elim e | skip
    exact bcF e
  | .func fn a b, u, K, e => by
    have e : (fnView fn a b).cs False False (fun f _ _ => (avF u).cs False False (fun f' a' b' => bc (Nat.beq f f') (avCs a a' (avCs b b' K)) False) False) False := e
    show (fnView fn a b).cs false false (fun f _ _ => (avF u).cs false false (fun f' a' b' => bc (Nat.beq f f') (bc (avEqs a a') (avEqs b b') false) false) false) false = true ∧ K
    cases hf : fnView fn a b with
    | no => rw [hf] at e; exact False.elim e
    | nil => rw [hf] at e; exact False.elim e
    | other => rw [hf] at e; exact False.elim e
    | fn f x y =>
      rw [hf] at e
      cases hu : avF u with
      | no => rw [hu] at e; exact False.elim e
      | nil => rw [hu] at e; exact False.elim e
      | other => rw [hu] at e; exact False.elim e
      | fn f' a' b' =>
        rw [hu] at e
        obtain ⟨h1, e⟩ := bcF (show bc (Nat.beq f f') (avCs a a' (avCs b b' K)) False from e)
        obtain ⟨h2, e⟩ := avCs_ok a a' e
        obtain ⟨h3, e⟩ := avCs_ok b b' e
        refine ⟨?_, e⟩
        show bc (Nat.beq f f') (bc (avEqs a a') (avEqs b b') false) false = true
        rw [h1, h2, h3]; rfl
  | .nilFunc, u, K, e => by
    have e : (avF u).cs False K (fun _ _ _ => False) False := e
    show (avF u).cs false true (fun _ _ _ => false) false = true ∧ K
    cases hu : avF u with
    | nil => rw [hu] at e; exact ⟨rfl, e⟩
    | _ => rw [hu] at e; exact False.elim e
  | .iface t v, u, K, e => by
    cases u <;> first | exact False.elim e | skip
    rename_i t' w
    obtain ⟨h1, e⟩ := bcF (show bc (Nat.beq t t') (avC v w K) False from e)
    obtain ⟨h2, e⟩ := avC_ok v w e
    refine ⟨?_, e⟩
    show bc (Nat.beq t t') (avEq v w) false = true
    rw [h1, h2]; rfl
  | .nilIface, u, K, e => by cases u <;> first | exact ⟨rfl, e⟩ | exact False.elim e
  | .agg l, u, K, e => by
    cases u <;> first | exact False.elim e | skip
    exact avCs_ok l _ e
  | .tuple l, u, K, e => by
    cases u <;> first | exact False.elim e | skip
    exact avCs_ok l _ e
theorem avCs_ok : ∀ (l m : List AV) {K : Prop}, avCs l m K → avEqs l m = true ∧ K
  | [], m, K, e => by
    cases m with
    | nil => exact ⟨rfl, e⟩
    | cons _ _ => exact False.elim e
  | a :: l, m, K, e => by
    cases m with
    | nil => exact False.elim e
    | cons b m =>
      obtain ⟨h1, e⟩ := avC_ok a b (show avC a b (avCs l m K) from e)
      obtain ⟨h2, e⟩ := avCs_ok l m e
      refine ⟨?_, e⟩
      show bc (avEq a b) (avEqs l m) false = true
      rw [h1, h2]; rfl
end
theorem agnP_ok : ∀ {ps : List PD} {n : Nat} {h : Hp} {K : Prop}, agnP ps n h K → readAgain ps n h = true ∧ K
  | [], n, h, K, e => ⟨rfl, e⟩
  | p :: ps, n, h, K, e => by
    have e : bc (Nat.blt p.hi n) (agnP ps n h K) ((evQ p.o p.t h).cs False fun v => avC p.v v (agnP ps n h K)) := e
    show bc (bc (Nat.blt p.hi n) true (again p.o p.t p.v h)) (readAgain ps n h) false = true ∧ K
    cases hb : Nat.blt p.hi n with
    | true => rw [hb] at e; exact agnP_ok e
    | false =>
      rw [hb] at e
      obtain ⟨v, h1, h2⟩ := okv (show (evQ p.o p.t h).cs False (fun v => avC p.v v (agnP ps n h K)) from e)
      obtain ⟨h3, h4⟩ := avC_ok _ _ h2
      obtain ⟨h5, h6⟩ := agnP_ok h4
      refine ⟨?_, h6⟩
      show bc ((evQ p.o p.t h).cs false fun v' => avEq p.v v') (readAgain ps n h) false = true
      rw [h1]
      show bc (avEq p.v v) (readAgain ps n h) false = true
      rw [h3, h5]; rfl
theorem againW_ok : ∀ {ps : List PD} {n : Nat} {h : Hp}, againW ps n h → readAgain ps n h = true
  | [], n, h, _ => rfl
  | p :: ps, n, h, e => by
    have e : bc (Nat.blt p.hi n) (againW ps n h) (again p.o p.t p.v h = true ∧ againW ps n h) := e
    show bc (bc (Nat.blt p.hi n) true (again p.o p.t p.v h)) (readAgain ps n h) false = true
    cases hb : Nat.blt p.hi n with
    | true => rw [hb] at e; exact againW_ok e
    | false =>
      rw [hb] at e
      show bc (again p.o p.t p.v h) (readAgain ps n h) false = true
      rw [e.1]; exact againW_ok e.2
theorem dsW_ok (hc : CallOk call callW) : ∀ (l : List DS) {n : Nat} {t : T} {h : Hp} {ps : List PD} {c : Nat} {r : Orc} {k : KT}, dsW call callW l n t h ps c r k →
    ∃ t' h' c' r', evDs call l n t h ps = .ok t' h' ∧ k t' h' c' r'
  | [], n, t, h, ps, c, r, k, e => False.elim e
  | s :: l, n, t, h, ps, c, r, k, e => by
    obtain ⟨t1, h1, ps1, c1, r1, e1, e2⟩ := stagesW_ok s.os (show stagesW s.os t h ps c r _ from e)
    have go : ∀ c r, readAgain ps1 n h1 = true → (ocase (k t1 h1 c r) (fun e => oW call callW e t1 h1 c r fun t h c r => dsW call callW l (Nat.succ n) t h ps1 c r k) s.e : Prop) →
        ∃ t' h' c' r', evDs call (s :: l) n t h ps = .ok t' h' ∧ k t' h' c' r' := by
      intro c r hr e
      have key : evDs call (s :: l) n t h ps = ocase (.ok t1 h1) (fun e => (evO call e t1 h1).then fun t h => evDs call l (Nat.succ n) t h ps1) s.e := by
        show stageOs s.os t h ps _ = _
        rw [e1]
        show bc (readAgain ps1 n h1) _ _ = _
        rw [hr]; rfl
      rw [key]
      cases hs : s.e with
      | none => rw [hs] at e; exact ⟨_, _, _, _, rfl, e⟩
      | some e' =>
        rw [hs] at e
        obtain ⟨t2, h2, c2, r2, e3, e4⟩ := oW_ok hc (show oW call callW e' t1 h1 c r _ from e)
        obtain ⟨t3, h3, c3, r3, e5, e6⟩ := dsW_ok hc l e4
        refine ⟨t3, h3, c3, r3, ?_, e6⟩
        show (evO call e' t1 h1).then _ = _
        rw [e3]; exact e5
    have hbc : ∀ {b : Bool} {p : Prop}, bc b p False → b = true ∧ p := by
      intro b p e
      cases b with
      | true => exact ⟨rfl, e⟩
      | false => exact False.elim e
    rcases step_ok e2 with ⟨r1, e2⟩ | ⟨m, e2⟩
    · cases r1 with
      | fin => obtain ⟨hr, e3⟩ := hbc e2; exact go _ _ hr e3
      | exi n f => obtain ⟨hr, e3⟩ := hbc e2; exact go _ _ hr e3
      | dis n a b => obtain ⟨hr, e3⟩ := hbc e2; exact go _ _ hr e3
      | again n' r' => exact go _ _ (againW_ok e2.1) e2.2
      | agn n' r' => exact go _ _ (agnP_ok e2).1 (agnP_ok e2).2
      | _ => exact False.elim e2
    · obtain ⟨hr, e3⟩ := hbc e2; exact go _ _ hr e3
theorem oks {s : RS} {a : T → Hp → Prop} {b : Nat → T → Hp → Prop} {d : T → Hp → Prop} (e : s.cs False a b d) : s ≠ .no := by
  rintro rfl; exact e
def CodeOk (res : T → Hp → RS) (w : CodeW) : Prop := ∀ t h c r k, w t h c r k → ∃ s c' r', res t h = s ∧ s ≠ .no ∧ k s c' r'
theorem cW_ok (hc : CallOk call callW) : ∀ (a : AC), CodeOk (evC call N a) (cW call callW N a)
  | .skip => fun t h c r k e => ⟨_, c, r, rfl, nofun, e⟩
  | .region os => fun t h c r k e => by
    obtain ⟨t1, h1, c1, r1, e1, e2⟩ := osW_ok hc os (show osW call callW os t h c r _ from e)
    refine ⟨.nor t1 h1, c1, r1, ?_, nofun, e2⟩
    show (evOs call os t h).done = _
    rw [e1]; rfl
  | .drawn l => fun t h c r k e => by
    obtain ⟨t1, h1, c1, r1, e1, e2⟩ := dsW_ok hc l (show dsW call callW l 0 t h [] c r _ from e)
    refine ⟨.nor t1 h1, c1, r1, ?_, nofun, e2⟩
    show (evDs call l 0 t h []).done = _
    rw [e1]; rfl
  | .seq a b => fun t h c r k e => by
    obtain ⟨s, c1, r1, e1, e2, e3⟩ := cW_ok hc a t h c r _ (show cW call callW N a t h c r (fun s c r => s.cs False (fun t h => cW call callW N b t h c r k) (fun i t h => k (.exit i t h) c r) (fun t h => k (.ret t h) c r)) from e)
    show ∃ s c' r', (evC call N a t h).then (evC call N b) = s ∧ _
    rw [e1]
    cases s with
    | no => exact False.elim e3
    | nor t1 h1 => exact cW_ok hc b t1 h1 c1 r1 k e3
    | exit i t1 h1 => exact ⟨_, c1, r1, rfl, nofun, e3⟩
    | ret t1 h1 => exact ⟨_, c1, r1, rfl, nofun, e3⟩
  | .cond x a b => fun t h c r k e => by
    obtain ⟨v, hv, e1⟩ := okb (show (avB (evX x t)).cs False (fun b' => bc b' (cW call callW N a t h c r k) (cW call callW N b t h c r k)) from e)
    show ∃ s c' r', (evX x t).asBool RS.no (fun b' => bc b' (evC call N a t h) (evC call N b t h)) = s ∧ _
    rw [hv]
    cases v with
    | true => exact cW_ok hc a t h c r k e1
    | false => exact cW_ok hc b t h c r k e1
  | .block i a => fun t h c r k e => by
    obtain ⟨s, c1, r1, e1, e2, e3⟩ := cW_ok hc a t h c r _ (show cW call callW N a t h c r _ from e)
    show ∃ s c' r', (evC call N a t h).block i = s ∧ _
    rw [e1]
    cases s with
    | no => exact False.elim e3
    | nor t1 h1 => exact ⟨_, c1, r1, rfl, nofun, e3⟩
    | ret t1 h1 => exact ⟨_, c1, r1, rfl, nofun, e3⟩
    | exit j t1 h1 =>
      have e3 : bc (Nat.beq j i) (k (.nor t1 h1) c1 r1) (k (.exit j t1 h1) c1 r1) := e3
      show ∃ s c' r', bc (Nat.beq j i) (RS.nor t1 h1) (.exit j t1 h1) = s ∧ _
      cases hb : Nat.beq j i with
      | true => rw [hb] at e3; exact ⟨_, c1, r1, rfl, nofun, e3⟩
      | false => rw [hb] at e3; exact ⟨_, c1, r1, rfl, nofun, e3⟩
  | .loop a => fun t h c r k e => by
    have go : ∀ c r, goL (cW call callW N a) N k t h c r → ∃ s c' r', evC call N (.loop a) t h = s ∧ s ≠ .no ∧ k s c' r' := by
      intro c r e
      show ∃ s c' r', rounds (fun _ _ => RS.no) (fun again t h => (evC call N a t h).then again) N t h = s ∧ _
      have key : ∀ (j : Nat) (t : T) (h : Hp) (c : Nat) (r : Orc), goL (cW call callW N a) j k t h c r →
        ∃ s c' r', rounds (fun _ _ => RS.no) (fun again t h => (evC call N a t h).then again) j t h = s ∧ s ≠ .no ∧ k s c' r' := by
        intro j
        induction j with
        | zero => exact fun t h c r e => False.elim e
        | succ j ih =>
          intro t h c r e
          obtain ⟨s, c1, r1, e1, e2, e3⟩ := cW_ok hc a t h c r _ (show cW call callW N a t h c r _ from e)
          show ∃ s c' r', (evC call N a t h).then (rounds (fun _ _ => RS.no) (fun again t h => (evC call N a t h).then again) j) = s ∧ _
          rw [e1]
          cases s with
          | no => exact False.elim e3
          | nor t1 h1 => exact ih t1 h1 c1 r1 e3
          | exit i t1 h1 => exact ⟨_, c1, r1, rfl, nofun, e3⟩
          | ret t1 h1 => exact ⟨_, c1, r1, rfl, nofun, e3⟩
      exact key N t h c r e
    rcases step_ok (show step c r _ _ from e) with ⟨r, e⟩ | ⟨m, e⟩
    · cases r with
      | fin => exact go _ _ e
      | exi n f => exact go _ _ e
      | dis n a b => exact go _ _ e
      | lp n s r => exact ⟨s, _, _, e.1, oks e.2.1, e.2.2⟩
      | lpx n s r => obtain ⟨w, h1, h2, h3⟩ := e; exact ⟨s w, _, _, h1, oks h2, h3⟩
      | _ => exact False.elim e
    · exact go _ _ e
  | .exit i => fun t h c r k e => ⟨_, c, r, rfl, nofun, e⟩
  | .ret => fun t h c r k e => ⟨_, c, r, rfl, nofun, e⟩
  | .fail w => fun t h c r k e => False.elim e
theorem f1W_ok (hc : CallOk call callW) {S : Nat → Option AF} : CallOk (evF1 S N call) (f1W S N call callW) := fun f args h c r k e => by
  have e : (ocase False (fun fn => bc (Nat.ble (len args) fn.ntmps) (cW call callW N fn.body (frame0 args) h c r fun s c r => s.cs False (fun t h => resW fn.results t h c r k) (fun _ _ _ => False) (fun t h => resW fn.results t h c r k)) False) (S f) : Prop) := e
  show ∃ v h' c' r', ocase RV.no (fun fn => bc (Nat.ble (len args) fn.ntmps) (finish fn.results (evC call N fn.body (frame0 args) h)) .no) (S f) = .ok v h' ∧ _
  cases hf : S f with
  | none => rw [hf] at e; exact False.elim e
  | some fn =>
    rw [hf] at e
    have e : bc (Nat.ble (len args) fn.ntmps) (cW call callW N fn.body (frame0 args) h c r fun s c r => s.cs False (fun t h => resW fn.results t h c r k) (fun _ _ _ => False) (fun t h => resW fn.results t h c r k)) False := e
    show ∃ v h' c' r', bc (Nat.ble (len args) fn.ntmps) (finish fn.results (evC call N fn.body (frame0 args) h)) .no = .ok v h' ∧ _
    cases hb : Nat.ble (len args) fn.ntmps with
    | false => rw [hb] at e; exact False.elim e
    | true =>
      rw [hb] at e
      obtain ⟨s, c1, r1, e1, e2, e3⟩ := cW_ok hc fn.body (frame0 args) h c r _ e
      show ∃ v h' c' r', finish fn.results (evC call N fn.body (frame0 args) h) = .ok v h' ∧ _
      rw [e1]
      cases s with
      | no => exact False.elim e3
      | exit i t1 h1 => exact False.elim e3
      | nor t1 h1 => obtain ⟨v, h', h2, h3⟩ := okr e3; exact ⟨v, h', _, _, h2, h3⟩
      | ret t1 h1 => obtain ⟨v, h', h2, h3⟩ := okr e3; exact ⟨v, h', _, _, h2, h3⟩
end
section
variable {P : Program}
end
end Eng
end
section
set_option linter.unusedVariables false
set_option linter.unusedSimpArgs false
namespace Eng
open Go Go.RowKit
noncomputable def ovT (l : List (Nat × AV)) (t : T) : T := lrec t (fun p _ ih => tset (pathOf p.1) p.2 ih) l
noncomputable def slots (L : List Nat) (t : T) : List (Option AV) := lmap (fun i => tget (pathOf i) t) L
def Has (l : List (Nat × AV)) (t : T) : Prop := slots (l.map (·.1)) t = l.map fun p => some p.2
theorem tset_same {α : Type} : ∀ {p : Pth} {v : α} {t : Tr α}, tget p t = some v → tset p v t = t
  | .e, v, t, h => by
    cases t with
    | lf => cases h
    | nd a l r =>
      have h : a = some v := h
      subst h; rfl
  | .l p, v, t, h => by
    cases t with
    | lf =>
      have h : tget p (.lf : Tr α) = some v := h
      rw [tget_lf] at h; cases h
    | nd a l r =>
      show Tr.nd a (tset p v l) r = _
      rw [tset_same (show tget p l = some v from h)]
  | .r p, v, t, h => by
    cases t with
    | lf =>
      have h : tget p (.lf : Tr α) = some v := h
      rw [tget_lf] at h; cases h
    | nd a l r =>
      show Tr.nd a l (tset p v r) = _
      rw [tset_same (show tget p r = some v from h)]
theorem ovT_eq : ∀ {l : List (Nat × AV)} {t : T}, Has l t → ovT l t = t
  | [], t, _ => rfl
  | p :: l, t, h => by
    obtain ⟨h1, h2⟩ := List.cons.inj (show tget (pathOf p.1) t :: slots (l.map (·.1)) t = some p.2 :: l.map (fun p => some p.2) from h)
    show tset (pathOf p.1) p.2 (ovT l t) = t
    rw [ovT_eq (show Has l t from h2)]
    exact tset_same h1
noncomputable def obsS (L : List Nat) (Kn : List (Option AV) → Hp → Prop) (Ke : Nat → List (Option AV) → Hp → Prop) (Kr : List (Option AV) → Hp → Prop) (s : RS) : Prop :=
  s.cs False (fun t h => Kn (slots L t) h) (fun i t h => Ke i (slots L t) h) (fun t h => Kr (slots L t) h)
theorem CallOk.none (call : CallT) : CallOk call (fun _ _ _ _ _ _ => False) := fun _ _ _ _ _ _ h => h.elim
theorem walk_ok {call : CallT} {N : Nat} {c : AC} {t : T} {h : Hp} {o : Orc} {L : List Nat} {Kn : List (Option AV) → Hp → Prop} {Ke : Nat → List (Option AV) → Hp → Prop} {Kr : List (Option AV) → Hp → Prop} {p : Prop}
    (e : cW call (fun _ _ _ _ _ _ => False) N c t h o.n o (fun s _ _ => obsS L Kn Ke Kr s) = p) (hp : p) : ∃ s, evC call N c t h = s ∧ obsS L Kn Ke Kr s := by
  rw [← e] at hp
  obtain ⟨s, _, _, h1, _, h3⟩ := cW_ok (CallOk.none call) c t h _ _ _ hp
  exact ⟨s, h1, h3⟩
theorem fwalk_ok {call : CallT} {S : Nat → Option AF} {N : Nat} {f : Nat} {args : List AV} {h : Hp} {o : Orc} {K : AV → Hp → Prop} {p : Prop}
    (e : f1W S N call (fun _ _ _ _ _ _ => False) f args h o.n o (fun v h _ _ => K v h) = p) (hp : p) : ∃ v h', evF1 S N call f args h = .ok v h' ∧ K v h' := by
  rw [← e] at hp
  obtain ⟨v, h', _, _, h1, h3⟩ := f1W_ok (CallOk.none call) f args h _ _ _ hp
  exact ⟨v, h', h1, h3⟩
theorem loop_ok {call : CallT} {N : Nat} {body : AC} (L : List Nat) (Inv : Nat → List (Option AV) → Hp → Prop) (Ke : Nat → List (Option AV) → Hp → Prop) (Kr : List (Option AV) → Hp → Prop)
    (step : ∀ n t h, Inv n (slots L t) h → ∃ s, evC call N body t h = s ∧ obsS L (fun l h' => ∃ m, m < n ∧ Inv m l h') Ke Kr s) (n : Nat) (hn : n < N) (t : T) (h : Hp) (h0 : Inv n (slots L t) h) :
    ∃ s, evC call N (.loop body) t h = s ∧ obsS L (fun _ _ => False) Ke Kr s := by
  show ∃ s, rounds (fun _ _ => RS.no) (fun again t h => (evC call N body t h).then again) N t h = s ∧ obsS L (fun _ _ => False) Ke Kr s
  have key : ∀ (j n : Nat), n < j → ∀ t h, Inv n (slots L t) h → ∃ s, rounds (fun _ _ => RS.no) (fun again t h => (evC call N body t h).then again) j t h = s ∧ obsS L (fun _ _ => False) Ke Kr s := by
    intro j
    induction j with
    | zero => exact fun n hn => absurd hn (Nat.not_lt_zero _)
    | succ j ih =>
      intro n hn t h hi
      obtain ⟨s, e, hs⟩ := step n t h hi
      show ∃ s, (evC call N body t h).then (rounds (fun _ _ => RS.no) (fun again t h => (evC call N body t h).then again) j) = s ∧ _
      rw [e]
      cases s with
      | no => exact hs.elim
      | nor t' h' =>
        obtain ⟨m, hm, hi'⟩ := (show ∃ m, m < n ∧ Inv m (slots L t') h' from hs)
        exact ih m (by omega) t' h' hi'
      | exit i t' h' => exact ⟨_, rfl, hs⟩
      | ret t' h' => exact ⟨_, rfl, hs⟩
  exact key N n hn t h h0
theorem ltI_t {a b : Nat} (h : ltI (.ofNat a) (.ofNat b) = true) : a < b := by rw [ltI_eq] at h; simpa using h
theorem ltI_f {a b : Nat} (h : ltI (.ofNat a) (.ofNat b) = false) : b ≤ a := by rw [ltI_eq] at h; simpa using h
theorem eqI_t {a b : Nat} (h : eqI (.ofNat a) (.ofNat b) = true) : a = b := by rw [eqI_eq] at h; have h := eq_of_beq h; exact Int.ofNat.inj h
theorem eqI_f {a b : Nat} (h : eqI (.ofNat a) (.ofNat b) = false) : a ≠ b := fun e => by subst e; rw [eqI_eq] at h; simp at h
theorem notB_t {b : Bool} (h : notB b = true) : b = false := by cases b <;> first | rfl | cases h
theorem notB_f {b : Bool} (h : notB b = false) : b = true := by cases b <;> first | rfl | cases h
theorem wrap_i64 {n : Nat} (h : n < 9223372036854775808) : wrapA .i64 (.ofNat n) = .ofNat n := by
  show bc (Nat.blt n 9223372036854775808) (Int.ofNat n) _ = _
  rw [blt_dec, decide_eq_true h]; rfl
theorem wrapU_nat (m n : Nat) : wrapU m (.ofNat n) = .ofNat (n % m) := by
  show bc (Nat.blt n m) (Int.ofNat n) (.ofNat (Nat.mod n m)) = _
  rw [bc_blt]
  split
  · rw [Nat.mod_eq_of_lt ‹_›]
  · rfl
def uns (k : IntKind) : Bool := match k with | .u8 | .u16 | .u32 | .u64 => true | _ => false
theorem wrap_u {k : IntKind} (hk : uns k = true) (n : Nat) : wrapA k (.ofNat n) = .ofNat (n % modK k) := by
  cases k <;> first | exact wrapU_nat _ _ | cases hk
theorem ikEq_self (k : IntKind) : ikEq k k = true := by cases k <;> rfl
theorem q_add {a b : Nat} (h : a + b < 9223372036854775808) : evQ (.bin .add (.const (.int .i64 (.ofNat a))) (.const (.int .i64 (.ofNat b)))) .lf H0 = .ok (.int .i64 (.ofNat (a + b))) := by
  show OV.ok (.int .i64 (wrapA .i64 (.ofNat (a + b)))) = _
  rw [wrap_i64 h]
theorem sub_nat {a b : Nat} (h : b ≤ a) : Int.sub (.ofNat a) (.ofNat b) = .ofNat (a - b) := by
  show (Int.ofNat a - Int.ofNat b : Int) = _
  simp only [Int.ofNat_eq_natCast]; omega
theorem q_sub {a b : Nat} (h : b ≤ a) (ha : a < 9223372036854775808) : evQ (.bin .sub (.const (.int .i64 (.ofNat a))) (.const (.int .i64 (.ofNat b)))) .lf H0 = .ok (.int .i64 (.ofNat (a - b))) := by
  show OV.ok (.int .i64 (wrapA .i64 (Int.sub (.ofNat a) (.ofNat b)))) = _
  rw [sub_nat h, wrap_i64 (by omega)]
theorem u_and {k : IntKind} (hk : uns k = true) {a b : Nat} (ha : a < modK k) (hb : b < modK k) : evQ (.bin .and (.const (.int k (.ofNat a))) (.const (.int k (.ofNat b)))) .lf H0 = .ok (.int k (.ofNat (a &&& b))) := by
  show bc (ikEq k k) (okI k (.ofNat (Nat.land (a % modK k) (b % modK k)))) .no = _
  rw [ikEq_self, Nat.mod_eq_of_lt ha, Nat.mod_eq_of_lt hb]; show OV.ok (.int k (wrapA k (.ofNat (a &&& b)))) = _
  rw [wrap_u hk, Nat.mod_eq_of_lt (Nat.lt_of_le_of_lt Nat.and_le_left ha)]
theorem u_or {k : IntKind} (hk : uns k = true) {a b : Nat} (ha : a < modK k) (hb : b < modK k) : evQ (.bin .or (.const (.int k (.ofNat a))) (.const (.int k (.ofNat b)))) .lf H0 = .ok (.int k (.ofNat (a ||| b))) := by
  show bc (ikEq k k) (okI k (.ofNat (Nat.lor (a % modK k) (b % modK k)))) .no = _
  rw [ikEq_self, Nat.mod_eq_of_lt ha, Nat.mod_eq_of_lt hb]; show OV.ok (.int k (wrapA k (.ofNat (a ||| b)))) = _
  have hp : modK k = 2 ^ k.bits := modK_eq k
  rw [wrap_u hk, Nat.mod_eq_of_lt (by rw [hp] at ha hb ⊢; exact Nat.or_lt_two_pow ha hb)]
theorem u_shl {k : IntKind} (hk : uns k = true) {j : IntKind} {a n : Nat} : evQ (.bin .shl (.const (.int k (.ofNat a))) (.const (.int j (.ofNat n)))) .lf H0 = .ok (.int k (.ofNat (a * 2 ^ n % modK k))) := by
  show OV.ok (.int k (wrapA k (.ofNat (a * 2 ^ cut n (bitsK k))))) = _
  rw [wrap_u hk, cut_eq, bitsK_eq, modK_eq]
  rcases Nat.le_total n k.bits with hn | hn
  · rw [Nat.min_eq_left hn]
  · rw [Nat.min_eq_right hn]
    have : a * 2 ^ n % 2 ^ k.bits = 0 := by
      rw [show n = k.bits + (n - k.bits) by omega, Nat.pow_add, ← Nat.mul_assoc, Nat.mul_right_comm]
      exact Nat.mul_mod_left _ _
    rw [this, Nat.mul_mod_left]
theorem u_shr {k : IntKind} (hk : uns k = true) {j : IntKind} {a n : Nat} (ha : a < modK k) : evQ (.bin .shr (.const (.int k (.ofNat a))) (.const (.int j (.ofNat n)))) .lf H0 = .ok (.int k (.ofNat (a / 2 ^ n))) := by
  show OV.ok (.int k (.ofNat (a / 2 ^ cut n (bitsK k)))) = _
  rw [cut_eq, bitsK_eq]
  rw [modK_eq] at ha
  rcases Nat.le_total n k.bits with hn | hn
  · rw [Nat.min_eq_left hn]
  · rw [Nat.min_eq_right hn, Nat.div_eq_of_lt ha, Nat.div_eq_of_lt (Nat.lt_of_lt_of_le ha (Nat.pow_le_pow_right (by decide) hn))]
theorem u_conv {k : IntKind} (hk : uns k = true) {j : IntKind} {a : Nat} : evQ (.toInt k (.const (.int j (.ofNat a)))) .lf H0 = .ok (.int k (.ofNat (a % modK k))) := by
  show OV.ok (.int k (wrapA k (.ofNat a))) = _
  rw [wrap_u hk]
theorem u_conv' {k : IntKind} (hk : uns k = true) {j : IntKind} {a : Nat} (ha : a < modK k) : evQ (.toInt k (.const (.int j (.ofNat a)))) .lf H0 = .ok (.int k (.ofNat a)) := by
  rw [u_conv hk, Nat.mod_eq_of_lt ha]
theorem i_conv {j : IntKind} {a : Nat} (ha : a < 9223372036854775808) : evQ (.toInt .i64 (.const (.int j (.ofNat a)))) .lf H0 = .ok (.int .i64 (.ofNat a)) := by
  show OV.ok (.int .i64 (wrapA .i64 (.ofNat a))) = _
  rw [wrap_i64 ha]
noncomputable def elemP (v : AV) (k sz : Nat) : AV := v.asSlice .nilPtr .nilPtr fun b o _ _ _ _ => .ptr b (o + k * sz)
noncomputable def partS (v : AV) (lo hi : Nat) : AV := v.asSlice v v fun b o _ c s e => .slice b (o + lo * s) (hi - lo) (c - lo) s e
theorem q_idx {b o n c sz k : Nat} {ex : Bool} (h : k < n) : evQ (.idxAddrSl sz (.const (.slice b o n c sz ex)) (.const (.int .i64 (.ofNat k)))) .lf H0 = .ok (.ptr b (o + k * sz)) := by
  show bc (Nat.beq sz sz) (bc (Nat.blt k n) (OV.ok (.ptr b (o + k * sz))) .no) .no = _
  rw [Nat.beq_refl, blt_dec, decide_eq_true h]; rfl
theorem q_load {h : Hp} {b o : Nat} {cs : List AV} {m : Nat} {w : Own} (hg : hget h b = some (.cells cs m w)) {v : AV} (hv : cs[o]? = some v) : evQ (.loadS (.const (.ptr b o))) .lf h = .ok v := by
  show hcells h b OV.no (fun cs _ _ => ocase .no .ok (nth? cs o)) = _
  unfold hcells
  rw [hg]
  show ocase OV.no .ok (nth? cs o) = _
  rw [nth_eq, hv]; rfl
theorem u8s_eq (l : List Nat) : u8s l = l.map fun n => AV.int .u8 (.ofNat n) := lmap_eq _ _
abbrev vi (n : Nat) : AV := .int .i64 (.ofNat n)
abbrev vb8 (n : Nat) : AV := .int .u8 (.ofNat n)
abbrev vw (n : Nat) : AV := .int .u32 (.ofNat n)
abbrev vq (n : Nat) : AV := .int .u64 (.ofNat n)
end Eng
end
section
set_option linter.unusedVariables false
set_option linter.unusedSimpArgs false
namespace Eng
open Go Go.RowKit
structure Old (B : Nat) (h h' : Hp) : Prop where
  next : h.next ≤ h'.next
  get : ∀ b, b < B → hget h' b = hget h b
theorem Old.refl (B : Nat) (h : Hp) : Old B h h := ⟨Nat.le_refl _, fun _ _ => rfl⟩
theorem Old.trans {B : Nat} {h h' h'' : Hp} (a : Old B h h') (b : Old B h' h'') : Old B h h'' := ⟨Nat.le_trans a.next b.next, fun k hk => (b.get k hk).trans (a.get k hk)⟩
theorem Old.le {B C : Nat} {h h' : Hp} (a : Old B h h') (hc : C ≤ B) : Old C h h' := ⟨a.next, fun k hk => a.get k (by omega)⟩
theorem Old.push {B : Nat} {h : Hp} (hB : B ≤ h.next) (x : Blk) : Old B h (hpush h x) := ⟨Nat.le_succ _, fun k hk => hget_hpush_ne h x (by omega)⟩
theorem Old.set {B b : Nat} {h : Hp} (hB : B ≤ b) (x : Blk) : Old B h (hset h b x) := ⟨Nat.le_refl _, fun k hk => hget_hset_ne h x (by omega)⟩
inductive Owned (sz B : Nat) (h : Hp) : AV → Nat → List AV → Prop
  | nil : Owned sz B h .nilSlice 0 []
  | sl {b n : Nat} {ex : Bool} {w : Own} {L : List AV} (hB : B ≤ b) (hb : b < h.next) (hg : hget h b = some (.cells L (n * sz) w)) (hl : L.length = n * sz) (hw : w = .solo ∨ ∃ p, w = .pair p ∧ (B ≤ p ∧ p < h.next) ∧ p ≠ b) :
    Owned sz B h (.slice b 0 n n sz ex) n L
theorem Owned.push {sz B : Nat} {h : Hp} {s : AV} {n : Nat} {L : List AV} (o : Owned sz B h s n L) (x : Blk) : Owned sz B (hpush h x) s n L := by
  cases o with
  | nil => exact .nil
  | sl hB hb hg hl hw => exact .sl hB (by rw [hpush_next]; omega) (by rw [hget_hpush_ne h x (by omega)]; exact hg) hl (hw.imp id fun ⟨p, h1, h2, h3⟩ => ⟨p, h1, ⟨h2.1, by rw [hpush_next]; omega⟩, h3⟩)
theorem Owned.low {sz B C : Nat} {h : Hp} {s : AV} {n : Nat} {L : List AV} (o : Owned sz B h s n L) (hc : C ≤ B) : Owned sz C h s n L := by
  cases o with
  | nil => exact .nil
  | sl hB hb hg hl hw => exact .sl (by omega) hb hg hl (by rcases hw with h | ⟨p, h1, h2, h3⟩; exact .inl h; exact .inr ⟨p, h1, by omega, h3⟩)
theorem Owned.old {sz B C : Nat} {h h' : Hp} {s : AV} {n : Nat} {L : List AV} (o : Owned sz B h s n L) (a : Old C h h') (hc : h.next ≤ C) : Owned sz B h' s n L := by
  cases o with
  | nil => exact .nil
  | sl hB hb hg hl hw => exact .sl hB (by have := a.next; omega) (by rw [a.get _ (by omega)]; exact hg) hl (hw.imp id fun ⟨p, h1, h2, h3⟩ => ⟨p, h1, ⟨h2.1, by have := a.next; omega⟩, h3⟩)
theorem Owned.blk {sz B : Nat} {h : Hp} {s : AV} {n : Nat} {L : List AV} (o : Owned sz B h s n L) : ∀ b o' l c z ex, s = .slice b o' l c z ex → b < h.next := by
  cases o with
  | nil => intro b o' l c z ex e; cases e
  | sl hB hb hg hl hw => intro b o' l c z ex e; cases e; exact hb
theorem part_all (cs : List AV) (n : Nat) : part cs n 0 n = cs := by
  unfold part
  rw [Nat.beq_refl]
  show bc (Nat.beq n n) cs _ = cs
  rw [Nat.beq_refl]; rfl
theorem appendTo_own {sz bytes B : Nat} {h : Hp} {s : AV} {n : Nat} {L : List AV} (hBh : B ≤ h.next) (o : Owned sz B h s n L) {m : Nat} {xs : List AV} (hx : xs.length = m * sz) (hm : 0 < m)
    (h1 : (n + m) * bytes ≤ 70368744177664) (h2 : n + m ≤ 70368744177664) :
    ∃ h', appendTo h sz bytes s m xs = .ok (.slice h.next 0 (n + m) (n + m) sz false) h' ∧ Owned sz B h' (.slice h.next 0 (n + m) (n + m) sz false) (n + m) (L ++ xs) ∧ Old B h h' ∧ h'.next = h.next + 1 := by
  have hm0 : Nat.beq m 0 = false := beqF (by omega)
  cases o with
  | nil =>
    refine ⟨hpush h (mkCells xs (m * sz)), ?_, ?_, .push hBh _, rfl⟩
    · show bc (Nat.beq m 0) (RV.ok .nilSlice h) (bc (Nat.ble (Nat.mul m bytes) 70368744177664) (bc (Nat.ble m 70368744177664) (grown h m sz xs) .no) .no) = _
      rw [hm0, ble_dec, ble_dec, decide_eq_true (by simpa using h1), decide_eq_true (by simpa using h2)]
      rw [Nat.zero_add]; rfl
    · rw [Nat.zero_add, List.nil_append]
      exact .sl hBh (Nat.lt_succ_self _) (hget_hpush h _) hx (.inl rfl)
  | @sl b n ex w L hB hb hg hl hw =>
    have hnm : Nat.ble (n + m) n = false := by rw [ble_dec]; exact decide_eq_false (by omega)
    have key : appendTo h sz bytes (.slice b 0 n n sz ex) m xs = more h b 0 n sz m ex xs := by
      show bc (Nat.beq sz sz) (bc (Nat.ble (n + m) n) _ (bc (Nat.ble ((n + m) * bytes) 70368744177664) (bc (Nat.ble (n + m) 70368744177664) (more h b 0 n sz m ex xs) .no) .no)) RV.no = _
      rw [Nat.beq_refl, hnm, ble_dec, ble_dec, decide_eq_true h1, decide_eq_true h2]; rfl
    have hmul : Nat.mul n sz = n * sz := rfl
    have e0 : Nat.add 0 (Nat.mul n sz) = n * sz := Nat.zero_add _
    have key2 : more h b 0 n sz m ex xs = bc ex (grown h (n + m) sz (app L xs))
        (w.peer .no (shared h b (n + m) sz L (n * sz) (app L xs)) fun p => bc (Nat.beq p b) .no (shared (hset h p .dead) b (n + m) sz L (n * sz) (app L xs))) := by
      show hcells h b RV.no _ = _
      unfold hcells
      rw [hg]
      show bc (Nat.ble (Nat.add 0 (Nat.mul n sz)) (n * sz)) (bc ex (grown h (Nat.add n m) sz (app (part L (n * sz) 0 (Nat.mul n sz)) xs)) (bc (Nat.beq (Nat.add 0 (Nat.mul n sz)) (n * sz)) _ _)) RV.no = _
      rw [e0, hmul, part_all, Nat.beq_refl, ble_dec, decide_eq_true (Nat.le_refl _)]; rfl
    rw [key, key2, app_eq]
    have hlen : (L ++ xs).length = (n + m) * sz := by rw [List.length_append, hl, hx, Nat.add_mul]
    cases ex with
    | true =>
      exact ⟨hpush h (mkCells (L ++ xs) ((n + m) * sz)), rfl, .sl hBh (Nat.lt_succ_self _) (hget_hpush h _) hlen (.inl rfl), .push hBh _, rfl⟩
    | false =>
      have fin : ∀ g : Hp, g.next = h.next → (∀ k, k < B → hget g k = hget h k) → ∃ h', shared g b (n + m) sz L (n * sz) (L ++ xs) = .ok (.slice h.next 0 (n + m) (n + m) sz false) h' ∧ Owned sz B h' (.slice h.next 0 (n + m) (n + m) sz false) (n + m) (L ++ xs) ∧ Old B h h' ∧ h'.next = h.next + 1 := by
        intro g hgn hgo
        refine ⟨hset (hpush g (.cells (L ++ xs) ((n + m) * sz) (.pair b))) b (.cells L (n * sz) (.pair g.next)), ?_, ?_, ?_, ?_⟩
        · show RV.ok (.slice g.next 0 (n + m) (n + m) sz false) _ = _
          rw [hgn]
          rfl
        · refine .sl hBh (by rw [hset_next, hpush_next, hgn]; omega) (w := .pair b) ?_ hlen (.inr ⟨b, rfl, ⟨hB, by rw [hset_next, hpush_next, hgn]; omega⟩, by omega⟩)
          rw [hget_hset_ne _ _ (by omega), ← hgn, hget_hpush]
        · refine ⟨by rw [hset_next, hpush_next, hgn]; omega, fun k hk => ?_⟩
          rw [hget_hset_ne _ _ (by omega), hget_hpush_ne _ _ (by omega), hgo k hk]
        · rw [hset_next, hpush_next, hgn]
      show ∃ h', (w.peer RV.no (shared h b (n + m) sz L (n * sz) (L ++ xs)) fun p => bc (Nat.beq p b) .no (shared (hset h p .dead) b (n + m) sz L (n * sz) (L ++ xs))) = _ ∧ _
      rcases hw with hw | ⟨p, hw, hp1, hp2⟩
      · subst hw; exact fin h rfl fun _ _ => rfl
      · subst hw
        show ∃ h', bc (Nat.beq p b) RV.no (shared (hset h p .dead) b (n + m) sz L (n * sz) (L ++ xs)) = _ ∧ _
        rw [beqF hp2]
        exact fin (hset h p .dead) rfl fun k hk => hget_hset_ne h _ (by omega)
theorem own_lit {sz B n : Nat} {h : Hp} (hB : B ≤ h.next) {xs : List AV} (hx : xs.length = n * sz) : Owned sz B (hpush h (mkCells xs (n * sz))) (.slice h.next 0 n n sz true) n xs :=
  .sl hB (Nat.lt_succ_self _) (hget_hpush h _) hx (.inl rfl)
theorem Owned.len {sz B n : Nat} {h : Hp} {v : AV} {L : List AV} (o : Owned sz B h v n L) : L.length = n * sz := by
  cases o with
  | nil => simp
  | sl hB hb hg hl hw => exact hl
theorem appendTo_none {sz bytes : Nat} {h : Hp} {s : AV} {n B : Nat} {L : List AV} (o : Owned sz B h s n L) : appendTo h sz bytes s 0 [] = .ok s h := by
  cases o with
  | nil => rfl
  | @sl b n ex w L hB hb hg hl hw =>
    show bc (Nat.beq sz sz) (bc (Nat.ble (n + 0) n) (RV.ok (.slice b 0 n n sz ex) h) _) RV.no = _
    rw [Nat.beq_refl, ble_dec, decide_eq_true (by omega)]; rfl
theorem src_lit {β : Type} {h : Hp} {sz b m : Nat} {ex : Bool} {xs : List AV} {w : Own} {z : β} {k : Nat → List AV → β} (hg : hget h b = some (.cells xs (m * sz) w)) : src h sz (.slice b 0 m m sz ex) z k = k m xs := by
  show bc (Nat.beq sz sz) (rdN h b 0 (Nat.mul m sz) z fun l => k m l) z = _
  rw [Nat.beq_refl]
  show hcells h b z _ = _
  unfold hcells
  rw [hg]
  show bc (Nat.ble (Nat.add 0 (m * sz)) (m * sz)) (k m (part xs (m * sz) 0 (m * sz))) z = _
  have e0 : Nat.add 0 (m * sz) = m * sz := Nat.zero_add _
  rw [e0, part_all, ble_dec, decide_eq_true (Nat.le_refl _)]; rfl
theorem src_owned {β : Type} {h : Hp} {sz B : Nat} {s : AV} {n : Nat} {L : List AV} (o : Owned sz B h s n L) {z : β} {k : Nat → List AV → β} : src h sz s z k = k n L := by
  cases o with
  | nil => rfl
  | sl hB hb hg hl hw => exact src_lit hg
theorem rdN_of {β : Type} {h : Hp} {b o n m : Nat} {cs : List AV} {w : Own} {z : β} {k : List AV → β} (hg : hget h b = some (.cells cs m w)) (hm : o + n ≤ m) (hc : cs.length = m) : rdN h b o n z k = k ((cs.drop o).take n) := by
  show hcells h b z _ = _
  unfold hcells
  rw [hg]
  show bc (Nat.ble (o + n) m) (k (part cs m o n)) z = _
  rw [ble_dec, decide_eq_true hm, part_eq hc hm]; rfl
theorem bytesAV_u8s : ∀ {l : List Nat}, (∀ x ∈ l, x < 256) → bytesAV (u8s l) = some l
  | [], _ => rfl
  | x :: l, h => by
    show bc (Nat.blt x 256) (ocase none (fun s => some (x :: s)) (bytesAV (u8s l))) none = some (x :: l)
    rw [blt_dec, decide_eq_true (h x (by simp)), bytesAV_u8s fun y hy => h y (by simp [hy])]; rfl
inductive Bytes (B : Nat) (h : Hp) : AV → List Nat → Prop
  | nil : Bytes B h .nilSlice []
  | sl {b o c : Nat} {ex : Bool} {cs : List AV} {m : Nat} {w : Own} {l : List Nat} (hB : b < B) (hg : hget h b = some (.cells cs m w)) (hcl : cs.length = m) (hl : (cs.drop o).take l.length = u8s l) (hm : o + l.length ≤ m) (hc : l.length ≤ c) (hb : ∀ x ∈ l, x < 256) :
    Bytes B h (.slice b o l.length c 1 ex) l
theorem Bytes.lt {B : Nat} {h : Hp} {v : AV} {l : List Nat} (o : Bytes B h v l) : ∀ x ∈ l, x < 256 := by
  cases o with
  | nil => simp
  | sl hB hg hcl hl hm hc hb => exact hb
theorem u8s_len1 (l : List Nat) : (u8s l).length = l.length * 1 := by rw [u8s_length, Nat.mul_one]
theorem src_bytes {B : Nat} {h : Hp} {v : AV} {l : List Nat} (o : Bytes B h v l) {β : Type} (z : β) (k : Nat → List AV → β) : src h 1 v z k = k l.length (u8s l) := by
  cases o with
  | nil => rfl
  | @sl b o c ex cs m w l hB hg hcl hl hm hc hb =>
    show bc (Nat.beq 1 1) (rdN h b o (Nat.mul l.length 1) z fun l' => k l.length l') z = _
    rw [Nat.beq_refl]
    show rdN h b o (l.length * 1) z _ = _
    rw [Nat.mul_one, rdN_of hg hm hcl, hl]
theorem q_toStr {B : Nat} {h : Hp} {v : AV} {l : List Nat} (o : Bytes B h v l) : evQ (.toStr (.const v)) .lf h = .ok (.str l) := by
  cases o with
  | nil => rfl
  | @sl b o c ex cs m w l hB hg hcl hl hm hc hb =>
    show bc (Nat.beq 1 1) (rdN h b o l.length OV.no fun cs => ocase .no (fun s => .ok (.str s)) (bytesAV cs)) .no = _
    have e : Nat.beq 1 1 = true := rfl
    rw [e, bc_eq, if_pos rfl, rdN_of hg hm hcl, hl, bytesAV_u8s hb]; rfl
theorem q_len {B : Nat} {h : Hp} {v : AV} {l : List Nat} (o : Bytes B h v l) : evQ (.lenL (.const v)) .lf H0 = .ok (.int .i64 (.ofNat l.length)) := by
  cases o <;> rfl
theorem q_idxB {B : Nat} {h : Hp} {v : AV} {l : List Nat} (o : Bytes B h v l) {k : Nat} (hk : k < l.length) : evQ (.idxAddrSl 1 (.const v) (.const (.int .i64 (.ofNat k)))) .lf H0 = .ok (elemP v k 1) := by
  cases o with
  | nil => exact absurd hk (Nat.not_lt_zero _)
  | sl hB hg hcl hl hm hc hb => exact q_idx hk
theorem q_byte {B : Nat} {h : Hp} {v : AV} {l : List Nat} (o : Bytes B h v l) {k : Nat} (hk : k < l.length) : evQ (.loadS (.const (elemP v k 1))) .lf h = .ok (.int .u8 (.ofNat (l.getD k 0))) := by
  cases o with
  | nil => exact absurd hk (Nat.not_lt_zero _)
  | @sl b o c ex cs m w l hB hg hcl hl hm hc hb =>
    refine q_load hg ?_
    have h1 : ((cs.drop o).take l.length)[k]? = (u8s l)[k]? := by rw [hl]
    rw [List.getElem?_take_of_lt hk, List.getElem?_drop, u8s_eq, List.getElem?_map] at h1
    rw [Nat.mul_one, h1, List.getElem?_eq_getElem hk]
    simp [List.getD_eq_getElem?_getD, List.getElem?_eq_getElem hk]
theorem Owned.bytes {B C : Nat} {h : Hp} {s : AV} {n : Nat} {l : List Nat} (o : Owned 1 B h s n (u8s l)) (hb : ∀ x ∈ l, x < 256) (hC : h.next ≤ C) : Bytes C h s l := by
  generalize hL : u8s l = L at o
  cases o with
  | nil =>
    cases l with
    | nil => exact .nil
    | cons x l => cases hL
  | @sl b n ex w L hB hb' hg hl hw =>
    subst hL
    have hn : l.length = n := by rw [u8s_length] at hl; omega
    subst hn
    exact .sl (by omega) hg hl (by rw [List.drop_zero, List.take_of_length_le (by rw [u8s_length]; omega)]) (by omega) (Nat.le_refl _) hb
theorem Bytes.old {B : Nat} {h h' : Hp} {v : AV} {l : List Nat} (o : Bytes B h v l) (a : Old B h h') : Bytes B h' v l := by
  cases o with
  | nil => exact .nil
  | sl hB hg hcl hl hm hc hb => exact .sl hB (by rw [a.get _ hB]; exact hg) hcl hl hm hc hb
theorem Bytes.up {B C : Nat} {h : Hp} {v : AV} {l : List Nat} (o : Bytes B h v l) (hC : B ≤ C) : Bytes C h v l := by
  cases o with
  | nil => exact .nil
  | sl hB hg hcl hl hm hc hb => exact .sl (by omega) hg hcl hl hm hc hb
theorem Bytes.part {B : Nat} {h : Hp} {v : AV} {l : List Nat} (o : Bytes B h v l) {lo hi : Nat} (h1 : lo ≤ hi) (h2 : hi ≤ l.length) : Bytes B h (partS v lo hi) ((l.take hi).drop lo) := by
  cases o with
  | nil =>
    have : hi = 0 := Nat.le_zero.1 h2
    subst this
    obtain rfl : lo = 0 := Nat.le_zero.1 h1
    exact .nil
  | @sl b o c ex cs m w l hB hg hcl hl hm hc hb =>
    have hlen : ((l.take hi).drop lo).length = hi - lo := by rw [List.length_drop, List.length_take]; omega
    have key : partS (.slice b o l.length c 1 ex) lo hi = .slice b (o + lo) ((l.take hi).drop lo).length (c - lo) 1 ex := by
      rw [hlen]
      show AV.slice b (o + lo * 1) (hi - lo) (c - lo) 1 ex = _
      rw [Nat.mul_one]
    rw [key]
    refine .sl hB hg hcl ?_ (by rw [hlen]; omega) (by rw [hlen]; omega) (fun x hx => hb x (List.mem_of_mem_take (List.mem_of_mem_drop hx)))
    rw [hlen]
    have e1 : (cs.drop (o + lo)).take (hi - lo) = (((cs.drop o).take l.length).take hi).drop lo := by
      rw [List.take_take, List.drop_take, List.drop_drop, Nat.min_eq_left h2]
    rw [e1, hl, u8s_eq, u8s_eq, ← List.map_take, ← List.map_drop]
theorem q_slice {B : Nat} {h : Hp} {v : AV} {l : List Nat} (o : Bytes B h v l) {lo hi : Nat} (h1 : lo ≤ hi) (h2 : hi ≤ l.length) :
    evQ (.sliceSl 1 (.const v) (some (.const (.int .i64 (.ofNat lo)))) (some (.const (.int .i64 (.ofNat hi)))) none) .lf H0 = .ok (partS v lo hi) := by
  cases o with
  | nil =>
    have : hi = 0 := Nat.le_zero.1 h2
    subst this
    obtain rfl : lo = 0 := Nat.le_zero.1 h1
    rfl
  | @sl b o c ex cs m w l hB hg hcl hl hm hc hb =>
    show bc (Nat.beq 1 1) (bc (Nat.ble hi c) (bc (Nat.ble lo hi) (OV.ok (.slice b (o + lo * 1) (hi - lo) (c - lo) 1 (ocase ex (fun _ => true) (none : Option AX)))) .no) .no) .no = _
    rw [ble_dec, ble_dec, decide_eq_true (by omega), decide_eq_true h1]; rfl
theorem q_sliceFrom {B : Nat} {h : Hp} {v : AV} {l : List Nat} (o : Bytes B h v l) {lo : Nat} (h1 : lo ≤ l.length) :
    evQ (.sliceSl 1 (.const v) (some (.const (.int .i64 (.ofNat lo)))) none none) .lf H0 = .ok (partS v lo l.length) := by
  cases o with
  | nil =>
    obtain rfl : lo = 0 := Nat.le_zero.1 h1
    rfl
  | @sl b o c ex cs m w l hB hg hcl hl hm hc hb =>
    show bc (Nat.beq 1 1) (bc (Nat.ble lo l.length) (OV.ok (.slice b (o + lo * 1) (l.length - lo) (c - lo) 1 (ocase ex (fun _ => true) (none : Option AX)))) .no) .no = _
    rw [ble_dec, decide_eq_true h1]; rfl
end Eng
namespace Eng
open Go Go.RowKit
theorem append_ev {sz bytes B : Nat} {h : Hp} {s : AV} {n : Nat} {L : List AV} (call : CallT) (hBh : B ≤ h.next) (o : Owned sz B h s n L) {x : AV} {m : Nat} {xs : List AV} (hs : ∀ {β : Type} (z : β) (k : Nat → List AV → β), src h sz x z k = k m xs)
    (hx : xs.length = m * sz) (h1 : (n + m) * bytes ≤ 70368744177664) (h2 : n + m ≤ 70368744177664) :
    ∃ e : Ev, evE (.append sz bytes (.const s) (.const x)) call .lf h = .ok e.v e.h ∧ Owned sz B e.h e.v (n + m) (L ++ xs) ∧ Old B h e.h ∧ B ≤ e.h.next := by
  rcases Nat.eq_zero_or_pos m with hm | hm
  · subst hm
    obtain rfl : xs = [] := List.eq_nil_of_length_eq_zero (by omega)
    refine ⟨⟨s, .lf, h⟩, ?_, by simpa using o, .refl B h, hBh⟩
    show src h sz x RV.no (fun m xs => appendTo h sz bytes s m xs) = _
    rw [hs]; exact appendTo_none o
  · obtain ⟨h', e1, o1, p1, n1⟩ := appendTo_own (bytes := bytes) hBh o hx hm h1 h2
    refine ⟨⟨_, .lf, h'⟩, ?_, o1, p1, by show B ≤ h'.next; omega⟩
    show src h sz x RV.no (fun m xs => appendTo h sz bytes s m xs) = _
    rw [hs]; exact e1
end Eng
namespace Eng
open Go Go.RowKit
theorem part_from {B : Nat} {h : Hp} {v : AV} {l : List Nat} (o : Bytes B h v l) {lo : Nat} (h1 : lo ≤ l.length) : Bytes B h (partS v lo l.length) (l.drop lo) := by
  have := o.part h1 (Nat.le_refl _)
  rwa [List.take_of_length_le (Nat.le_refl _)] at this
theorem part_to {B : Nat} {h : Hp} {v : AV} {l : List Nat} (o : Bytes B h v l) {hi : Nat} (h1 : hi ≤ l.length) : Bytes B h (partS v 0 hi) (l.take hi) := by
  have := o.part (Nat.zero_le hi) h1
  rwa [List.drop_zero] at this
theorem q_sliceTo {B : Nat} {h : Hp} {v : AV} {l : List Nat} (o : Bytes B h v l) {hi : Nat} (h2 : hi ≤ l.length) :
    evQ (.sliceSl 1 (.const v) none (some (.const (.int .i64 (.ofNat hi)))) none) .lf H0 = .ok (partS v 0 hi) := by
  cases o with
  | nil =>
    have : hi = 0 := Nat.le_zero.1 h2
    subst this
    rfl
  | @sl b o c ex cs m w l hB hg hcl hl hm hc hb =>
    show bc (Nat.beq 1 1) (bc (Nat.ble hi c) (OV.ok (.slice b (o + 0 * 1) (hi - 0) (c - 0) 1 (ocase ex (fun _ => true) (none : Option AX)))) .no) .no = _
    rw [ble_dec, decide_eq_true (by omega)]; rfl
end Eng
namespace Eng
open Go Go.RowKit
end Eng
end
section
set_option linter.unusedVariables false
set_option linter.unusedSimpArgs false
namespace Eng
open Go Go.RowKit
theorem heap_of : ∀ (n : Nat) (f : Nat → Blk), ∃ h : Hp, h.next = n ∧ (∀ b, b < n → hget h b = some (f b)) ∧ ∀ b, n ≤ b → hget h b = none
  | 0, f => ⟨⟨0, .lf⟩, rfl, fun b hb => absurd hb (Nat.not_lt_zero _), fun b _ => tget_lf _⟩
  | n + 1, f => by
    obtain ⟨h, h1, h2, h3⟩ := heap_of n f
    refine ⟨hpush h (f n), by rw [hpush_next, h1], fun b hb => ?_, fun b hb => ?_⟩
    · by_cases e : b = n
      · subst e; rw [← h1, hget_hpush, h1]
      · rw [hget_hpush_ne _ _ (by omega)]; exact h2 b (by omega)
    · rw [hget_hpush_ne _ _ (by omega)]; exact h3 b (by omega)
def startM (n : Nat) (f : Nat → Nat × Nat) (w : World) : Mp := ⟨fun b => if b < n then some (f b) else none, fun _ => false, fun c => match w.heap[c]? with | some (.cells arr _ _) => arr.size | _ => 0⟩
theorem start_ok {n : Nat} {f : Nat → Nat × Nat} {g : Nat → List AV} {w : World} (hf : ∀ b, b < n → ∃ arr e fr, w.heap[(f b).1]? = some (.cells arr e fr) ∧ (∀ v ∈ g b, isCell v = true) ∧ ∀ (i : Nat) (v : AV), (g b)[i]? = some v → ∃ x, arr[(f b).2 + i]? = some x ∧ VR (startM n f w) v x) :
    ∃ h : Hp, h.next = n ∧ (∀ b, b < n → hget h b = some (.cells (g b) (g b).length .ro)) ∧ Sim (startM n f w) h w := by
  obtain ⟨h, h1, h2, h3⟩ := heap_of n fun b => .cells (g b) (g b).length .ro
  have hat : ∀ b c s, (startM n f w).at_ b = some (c, s) → b < n ∧ f b = (c, s) := fun b c s e => by
    have e : (if b < n then some (f b) else none) = some (c, s) := e
    split at e
    · exact ⟨‹_›, Option.some.inj e⟩
    · cases e
  refine ⟨h, h1, h2, ?_, fun b hb => h3 b (by omega), ?_, ?_, ?_, ?_⟩
  · intro b hb
    show (if b < n then some (f b) else none) = none
    rw [if_neg (by omega)]
  · intro b c s e
    obtain ⟨hb, he⟩ := hat b c s e
    obtain ⟨arr, e', fr, hh, _⟩ := hf b hb
    rw [he] at hh
    exact (Array.getElem?_eq_some_iff.1 hh).1
  · intro b c s x e hg
    obtain ⟨hb, he⟩ := hat b c s e
    rw [h2 b hb] at hg
    cases hg
    obtain ⟨arr, e', fr, hh, hc, hv⟩ := hf b hb
    rw [he] at hh hv
    refine ⟨rfl, hc, ⟨fun h => (by cases h), fun h => absurd rfl h⟩, arr, e', fr, hh, ?_, fun h => (by cases h), hv⟩
    show arr.size = match w.heap[c]? with | some (.cells arr _ _) => arr.size | _ => 0
    rw [hh]
  · intro b b' c s s' x x' _ _ _ ho
    cases ho
  · intro b c s cs m p e hg
    obtain ⟨hb, he⟩ := hat b c s e
    rw [h2 b hb] at hg
    cases hg
theorem Goes.below' {μ μ' : Mp} {h h' : Hp} {w w' : World} (hm : ∀ c, μ.own c = false) (g : Goes μ h w μ' h' w') : Below w.heap.size w w' := ⟨g.os, g.tape, g.output, g.heap, fun k hk => g.kept k hk (hm k)⟩
theorem start_law {P : Program} {D : Nat → Array Oper → AC} (hD : DrawOk P D) {M : Nat → Option (List AV → Hp → RV)} (hM : Good P fun f args h => ocase .no (fun m => m args h) (M f)) {N d f : Nat} {w : World} {μ : Mp} {h h' : Hp} (hs : Sim μ h w) (hm : ∀ c, μ.own c = false)
    {args : List AV} {cargs : Array Value} (r : VRs μ args cargs.toList) (e : evF M (progS P D) N d f args h = .ok (.bool true) h') : Calls P f cargs w fun e w' => e = .returned (.bool true) ∧ Below w.heap.size w w' := by
  refine (evF_ok hD hM N d f args h _ h' μ w cargs e hs r).2.mono fun e w' hR => ?_
  obtain ⟨μ', y, rfl, ry, hs', g⟩ := hR
  rw [VR_bool] at ry
  subst ry
  exact ⟨rfl, g.below' hm⟩
structure BArg where
  v : Value
  c : Nat
  s : Nat
  l : List Nat
def BArg.lies (w : World) (a : BArg) : Prop := (∀ x ∈ a.l, x < 256) ∧ ((a.v = .slice none 0 0 ∧ a.l = []) ∨ ∃ cap arr e fr, a.v = .slice (some ⟨a.c, a.s, none⟩) a.l.length cap ∧ w.heap[a.c]? = some (.cells arr e fr) ∧ a.l.length ≤ cap ∧ (cap ≠ 0 → a.s + cap ≤ arr.size) ∧
  ∀ (i : Nat) (x : Nat), a.l[i]? = some x → arr[a.s + i]? = some (.int .u8 (.ofNat x)))
theorem u8s_at {l : List Nat} {i : Nat} {v : AV} (h : (u8s l)[i]? = some v) : ∃ x, l[i]? = some x ∧ v = .int .u8 (.ofNat x) := by
  rw [u8s_eq, List.getElem?_map] at h
  cases hl : l[i]? with
  | none => rw [hl] at h; cases h
  | some x => rw [hl] at h; cases h; exact ⟨x, rfl, rfl⟩
end Eng
namespace Eng
open Go Go.RowKit Go.ChangeShapes Go.WideShapes
theorem u8_wf {x : Int} (h : (Lit.int .u8 x).wf = true) : ∃ n : Nat, x = .ofNat n ∧ n < 256 := by
  have h1 : IntKind.u8.min = 0 := rfl
  have h2 : IntKind.u8.max = 255 := rfl
  simp only [Lit.wf, Bool.and_eq_true, decide_eq_true_eq] at h
  exact ⟨x.toNat, by simp; omega, by omega⟩
end Eng
end
section
set_option linter.unusedVariables false
namespace Eng
open Go
theorem loop_st {call : CallT} {N : Nat} {body : AC} {σ : Type} (fr : σ → List (Nat × AV)) (L : List Nat) (hL : ∀ x, (fr x).map (·.1) = L) (Inv : σ → Hp → Prop) (meas : σ → Nat) (E : Nat → σ → Hp → Prop) (R : List (Option AV) → Hp → Prop)
    (step : ∀ x t h, Inv x h → ∃ s, evC call N body (ovT (fr x) t) h = s ∧ obsS L (fun ls h' => ∃ y, ls = (fr y).map (fun p => some p.2) ∧ Inv y h' ∧ meas y < meas x) (fun i ls h' => ∃ y, ls = (fr y).map (fun p => some p.2) ∧ E i y h') R s)
    (x0 : σ) (h : Hp) (hx : Inv x0 h) (hN : meas x0 < N) (t : T) (ht : Has (fr x0) t) :
    (∃ i y t' h', evC call N (.loop body) t h = .exit i t' h' ∧ Has (fr y) t' ∧ E i y h') ∨ (∃ t' h', evC call N (.loop body) t h = .ret t' h' ∧ R (slots L t') h') := by
  obtain ⟨s, e, hs⟩ := loop_ok (call := call) (N := N) (body := body) L (fun n ls h' => ∃ y, ls = (fr y).map (fun p => some p.2) ∧ Inv y h' ∧ meas y = n) (fun i ls h' => ∃ y, ls = (fr y).map (fun p => some p.2) ∧ E i y h') R
    (fun n t h ⟨y, hy, hi, hn⟩ => by
      have hh : Has (fr y) t := by unfold Has; rw [hL]; exact hy
      obtain ⟨s, e, hs⟩ := step y t h hi
      rw [ovT_eq hh] at e
      refine ⟨s, e, ?_⟩
      cases s with
      | no => exact hs
      | nor t' h' =>
        obtain ⟨z, h1, h2, h3⟩ := (show ∃ z, slots L t' = (fr z).map (fun p => some p.2) ∧ Inv z h' ∧ meas z < meas y from hs)
        exact (show ∃ m, m < n ∧ ∃ y, slots L t' = (fr y).map (fun p => some p.2) ∧ Inv y h' ∧ meas y = m from ⟨meas z, by omega, z, h1, h2, rfl⟩)
      | exit i t' h' => exact hs
      | ret t' h' => exact hs)
    (meas x0) hN t h ⟨x0, by unfold Has at ht; rw [hL] at ht; exact ht, hx, rfl⟩
  cases s with
  | no => exact hs.elim
  | nor t' h' => exact hs.elim
  | exit i t' h' =>
    obtain ⟨y, h1, h2⟩ := (show ∃ y, slots L t' = (fr y).map (fun p => some p.2) ∧ E i y h' from hs)
    exact .inl ⟨i, y, t', h', e, by unfold Has; rw [hL]; exact h1, h2⟩
  | ret t' h' => exact .inr ⟨t', h', e, hs⟩
end Eng
end
section
set_option linter.unusedVariables false
set_option linter.unusedSimpArgs false
namespace Eng
open Go Go.RowKit
def TwinAt (h : Hp) (v : AV) (l : List Nat) : Prop := ∃ b w, v = .slice b 0 l.length (l.length + 3) 1 true ∧ b < h.next ∧ hget h b = some (.cells (u8s (l ++ [229, 229, 229])) (l.length + 3) w) ∧ ∀ x ∈ l, x < 256
theorem TwinAt.bytes {h : Hp} {v : AV} {l : List Nat} (o : TwinAt h v l) : Bytes h.next h v l := by
  obtain ⟨b, w, rfl, hb, hg, hl⟩ := o
  refine .sl hb hg (by rw [u8s_length]; simp) ?_ (by omega) (by omega) hl
  rw [List.drop_zero, u8s_eq, u8s_eq, ← List.map_take, List.take_left' rfl]
def TwinS (call : CallT) (f : Nat) : Prop := ∀ {B : Nat} {h : Hp} {vb : AV} {l : List Nat}, B ≤ h.next → Bytes B h vb l → l.length ≤ 1099511627776 → ∃ rv rh, call f [vb] h = .ok rv rh ∧ TwinAt rh rv l ∧ Old B h rh ∧ B ≤ rh.next
def KeptS (call : CallT) (f : Nat) : Prop := ∀ {h : Hp} {vb vt : AV} {l : List Nat}, TwinAt h vt l → Bytes h.next h vb l → l.length ≤ 1099511627776 → call f [vt, vb] h = .ok (.bool true) h
end Eng
namespace Eng
open Go
end Eng
namespace Eng
open Go
end Eng
namespace Eng
open Go
end Eng
namespace Eng
end Eng
end
section
set_option linter.unusedVariables false
set_option linter.unusedSimpArgs false
namespace Eng
open Go Go.RowKit
structure AObj where
  p : Hp → (Nat → Prop) → Prop
  loc : ∀ {h h' : Hp} {G : Nat → Prop}, (∀ k, G k → hget h' k = hget h k) → p h G → p h' G
def Sep (os : List AObj) (h : Hp) : Prop :=
  ∃ g : Nat → Nat → Prop, (∀ (i : Nat) (o : AObj), os[i]? = some o → o.p h (g i)) ∧ (∀ i k, g i k → k < h.next) ∧ ∀ i j k, g i k → g j k → i = j
theorem Sep.nil (h : Hp) : Sep [] h := by
  refine ⟨fun _ _ => False, fun i o e => ?_, fun i k e => e.elim, fun i j k e _ => e.elim⟩
  cases e
theorem Sep.at {os : List AObj} {h : Hp} (S : Sep os h) {i : Nat} {o : AObj} (hi : os[i]? = some o) : ∃ G : Nat → Prop, o.p h G ∧ (∀ k, G k → k < h.next) ∧
    ∀ (h' : Hp) (o' : AObj) (G' : Nat → Prop), h.next ≤ h'.next → o'.p h' G' → (∀ k, G' k → G k ∨ (h.next ≤ k ∧ k < h'.next)) → (∀ k, k < h.next → ¬ G k → hget h' k = hget h k) → Sep (os.set i o') h' := by
  obtain ⟨g, g1, g2, g3⟩ := S
  have hil : i < os.length := (List.getElem?_eq_some_iff.1 hi).1
  refine ⟨g i, g1 i o hi, g2 i, fun h' o' G' hn ho hG hf => ⟨fun j k => (j = i ∧ G' k) ∨ (j ≠ i ∧ g j k), fun j x hj => ?_, fun j k hk => ?_, fun j1 j2 k h1 h2 => ?_⟩⟩
  · by_cases e : j = i
    · subst e
      rw [List.getElem?_set_self hil] at hj
      cases hj
      have : (fun k => (j = j ∧ G' k) ∨ (j ≠ j ∧ g j k)) = G' := by funext k; simp
      show o'.p h' (fun k => (j = j ∧ G' k) ∨ (j ≠ j ∧ g j k))
      rw [this]; exact ho
    · rw [List.getElem?_set_ne (Ne.symm e)] at hj
      have : (fun k => (j = i ∧ G' k) ∨ (j ≠ i ∧ g j k)) = g j := by funext k; simp [e]
      show x.p h' (fun k => (j = i ∧ G' k) ∨ (j ≠ i ∧ g j k))
      rw [this]
      exact x.loc (fun k hk => hf k (g2 j k hk) fun hc => e (g3 j i k hk hc)) (g1 j x hj)
  · rcases hk with ⟨_, hk⟩ | ⟨_, hk⟩
    · rcases hG k hk with hk | ⟨_, hk⟩
      · have := g2 i k hk; omega
      · exact hk
    · have := g2 j k hk; omega
  · rcases h1 with ⟨e1, h1⟩ | ⟨e1, h1⟩ <;> rcases h2 with ⟨e2, h2⟩ | ⟨e2, h2⟩
    · rw [e1, e2]
    · rcases hG k h1 with h1 | ⟨h1, _⟩
      · exact absurd (g3 i j2 k h1 h2) (Ne.symm e2)
      · have := g2 j2 k h2; omega
    · rcases hG k h2 with h2 | ⟨h2, _⟩
      · exact absurd (g3 i j1 k h2 h1) (Ne.symm e1)
      · have := g2 j1 k h1; omega
    · exact g3 j1 j2 k h1 h2
theorem Sep.add {os : List AObj} {h : Hp} (S : Sep os h) {h' : Hp} {o : AObj} (G : Nat → Prop) (hn : h.next ≤ h'.next) (ho : o.p h' G) (hG : ∀ k, G k → h.next ≤ k ∧ k < h'.next) (hf : ∀ k, k < h.next → hget h' k = hget h k) : Sep (o :: os) h' := by
  obtain ⟨g, g1, g2, g3⟩ := S
  refine ⟨fun j => Nat.casesOn j G g, fun j x hj => ?_, fun j k hk => ?_, fun j1 j2 k h1 h2 => ?_⟩
  · cases j with
    | zero => cases hj; exact ho
    | succ j => exact x.loc (fun k hk => hf k (g2 j k hk)) (g1 j x hj)
  · cases j with
    | zero => exact (hG k hk).2
    | succ j => have := g2 j k hk; omega
  · cases j1 with
    | zero =>
      cases j2 with
      | zero => rfl
      | succ j2 => have a := hG k h1; have b := g2 j2 k h2; omega
    | succ j1 =>
      cases j2 with
      | zero => have a := hG k h2; have b := g2 j1 k h1; omega
      | succ j2 => rw [g3 j1 j2 k h1 h2]
theorem Sep.on {os : List AObj} {h h' : Hp} (S : Sep os h) (hn : h.next ≤ h'.next) (hf : ∀ k, k < h.next → hget h' k = hget h k) : Sep os h' := by
  obtain ⟨g, g1, g2, g3⟩ := S
  exact ⟨g, fun j x hj => x.loc (fun k hk => hf k (g2 j k hk)) (g1 j x hj), fun j k hk => by have := g2 j k hk; omega, g3⟩
theorem Sep.tail {o : AObj} {os : List AObj} {h : Hp} (S : Sep (o :: os) h) : Sep os h := by
  obtain ⟨g, g1, g2, g3⟩ := S
  exact ⟨fun j => g (j + 1), fun j x hj => g1 (j + 1) x hj, fun j k hk => g2 (j + 1) k hk, fun j1 j2 k h1 h2 => by have := g3 _ _ k h1 h2; omega⟩
theorem Sep.front {os : List AObj} {h : Hp} (S : Sep os h) (i : Nat) {o : AObj} (hi : os[i]? = some o) : Sep (o :: os.eraseIdx i) h := by
  obtain ⟨g, g1, g2, g3⟩ := S
  refine ⟨fun j => Nat.casesOn j (g i) (fun j => g (if j < i then j else j + 1)), fun j x hj => ?_, fun j k hk => ?_, fun j1 j2 k h1 h2 => ?_⟩
  · cases j with
    | zero => cases hj; exact g1 i o hi
    | succ j =>
      have hj : (os.eraseIdx i)[j]? = some x := hj
      rw [List.getElem?_eraseIdx] at hj
      show x.p h (g (if j < i then j else j + 1))
      split at hj
      · rw [if_pos ‹_›]; exact g1 _ _ hj
      · rw [if_neg ‹_›]; exact g1 _ _ hj
  · cases j with
    | zero => exact g2 i k hk
    | succ j => exact g2 _ k hk
  · cases j1 with
    | zero =>
      cases j2 with
      | zero => rfl
      | succ j2 => have a := g3 i _ k h1 h2; split at a <;> omega
    | succ j1 =>
      cases j2 with
      | zero => have a := g3 _ i k h1 h2; split at a <;> omega
      | succ j2 => have a := g3 _ _ k h1 h2; split at a <;> split at a <;> omega
theorem Sep.turn {os : List AObj} {h : Hp} (S : Sep os h) {i : Nat} {o o' : AObj} (hi : os[i]? = some o) (f : ∀ G, (∀ k, G k → k < h.next) → o.p h G → o'.p h G) : Sep (os.set i o') h := by
  obtain ⟨G, hp, hb, go⟩ := S.at hi
  exact go h o' G (Nat.le_refl _) (f G hb hp) (fun k hk => .inl hk) fun k hk hn => rfl
def Frz (G0 : Nat → Prop) (h0 : Hp) : AObj where
  p h G := (∀ k, G0 k → G k) ∧ ∀ k, G0 k → hget h k = hget h0 k
  loc := fun hf ⟨h1, h2⟩ => ⟨h1, fun k hk => (hf k (h1 k hk)).trans (h2 k hk)⟩
theorem Sep.freeze {os : List AObj} {h : Hp} (S : Sep os h) {i : Nat} {o : AObj} (hi : os[i]? = some o) : ∃ G : Nat → Prop, o.p h G ∧ (∀ k, G k → k < h.next) ∧ Sep (os.set i (Frz G h)) h := by
  obtain ⟨G, hp, hb, go⟩ := S.at hi
  exact ⟨G, hp, hb, go h _ G (Nat.le_refl _) ⟨fun k hk => hk, fun _ _ => rfl⟩ (fun k hk => .inl hk) fun k hk hn => rfl⟩
theorem Sep.start (h : Hp) : Sep [Frz (fun k => k < h.next) h] h :=
by
  refine ⟨fun i k => i = 0 ∧ k < h.next, fun i o hi => ?_, fun i k hk => hk.2, fun i j k h1 h2 => h1.1.trans h2.1.symm⟩
  cases i with
  | zero => cases hi; exact ⟨fun k hk => ⟨rfl, hk⟩, fun _ _ => rfl⟩
  | succ i => cases hi
theorem Sep.frozen {os : List AObj} {h : Hp} (S : Sep os h) {i : Nat} {G : Nat → Prop} {h0 : Hp} (hi : os[i]? = some (Frz G h0)) {k : Nat} (hk : G k) : k < h.next ∧ hget h k = hget h0 k := by
  obtain ⟨G', hp, hb, go⟩ := S.at hi
  exact ⟨hb k (hp.1 k hk), hp.2 k hk⟩
def blkOf : AV → Option Nat
  | .slice b _ _ _ _ _ => some b
  | _ => none
def BIn (G : Nat → Prop) (h : Hp) (v : AV) (l : List Nat) : Prop := (∃ B, Bytes B h v l) ∧ ∀ b, blkOf v = some b → G b
theorem BIn.nil {G : Nat → Prop} {h : Hp} : BIn G h .nilSlice [] := ⟨⟨0, .nil⟩, fun b e => by cases e⟩
theorem BIn.lt {G : Nat → Prop} {h : Hp} {v : AV} {l : List Nat} (P : BIn G h v l) : ∀ x ∈ l, x < 256 := by
  obtain ⟨⟨B, P⟩, _⟩ := P; exact P.lt
theorem BIn.of {B : Nat} {h : Hp} {v : AV} {l : List Nat} (P : Bytes B h v l) : BIn (fun k => k < B) h v l := by
  refine ⟨⟨B, P⟩, fun b e => ?_⟩
  cases P with
  | nil => cases e
  | sl hB hg hcl hl hm hc hb => cases e; exact hB
theorem BIn.now {os : List AObj} {h : Hp} (S : Sep os h) {i : Nat} {G : Nat → Prop} {h0 : Hp} (hi : os[i]? = some (Frz G h0)) {v : AV} {l : List Nat} (P : BIn G h0 v l) : Bytes h.next h v l := by
  obtain ⟨⟨B, P⟩, hG⟩ := P
  cases P with
  | nil => exact .nil
  | sl hB hg hcl hl hm hc hb =>
    obtain ⟨h1, h2⟩ := S.frozen hi (hG _ rfl)
    exact .sl h1 (h2.trans hg) hcl hl hm hc hb
theorem blkOf_part (v : AV) (lo hi : Nat) : blkOf (partS v lo hi) = blkOf v := by cases v <;> rfl
theorem BIn.part {G : Nat → Prop} {h : Hp} {v : AV} {l : List Nat} (P : BIn G h v l) {lo hi : Nat} (h1 : lo ≤ hi) (h2 : hi ≤ l.length) : BIn G h (partS v lo hi) ((l.take hi).drop lo) := by
  obtain ⟨⟨B, P⟩, hG⟩ := P
  exact ⟨⟨B, P.part h1 h2⟩, fun b e => hG b (by rwa [blkOf_part] at e)⟩
theorem BIn.from {G : Nat → Prop} {h : Hp} {v : AV} {l : List Nat} (P : BIn G h v l) {lo : Nat} (h1 : lo ≤ l.length) : BIn G h (partS v lo l.length) (l.drop lo) := by
  obtain ⟨⟨B, P⟩, hG⟩ := P
  exact ⟨⟨B, part_from P h1⟩, fun b e => hG b (by rwa [blkOf_part] at e)⟩
theorem BIn.to {G : Nat → Prop} {h : Hp} {v : AV} {l : List Nat} (P : BIn G h v l) {hi : Nat} (h1 : hi ≤ l.length) : BIn G h (partS v 0 hi) (l.take hi) := by
  obtain ⟨⟨B, P⟩, hG⟩ := P
  exact ⟨⟨B, part_to P h1⟩, fun b e => hG b (by rwa [blkOf_part] at e)⟩
def Cel (b : Nat) (cs : List AV) : AObj where
  p h G := G b ∧ hget h b = some (.cells cs cs.length .solo)
  loc := fun hf ⟨h1, h2⟩ => ⟨h1, (hf _ h1).trans h2⟩
theorem cel_get {os : List AObj} {h : Hp} (S : Sep os h) {i b : Nat} {cs : List AV} (hi : os[i]? = some (Cel b cs)) : hget h b = some (.cells cs cs.length .solo) := by
  obtain ⟨G, hp, _⟩ := S.at hi; exact hp.2
theorem cel_load {os : List AObj} {h : Hp} (S : Sep os h) {i b o : Nat} {cs : List AV} (hi : os[i]? = some (Cel b cs)) {x : AV} (hx : cs[o]? = some x) : evQ (.loadS (.const (.ptr b o))) .lf h = .ok x :=
  q_load (cel_get S hi) hx
theorem cel_loadA {os : List AObj} {h : Hp} (S : Sep os h) {i b o n : Nat} {cs : List AV} (hi : os[i]? = some (Cel b cs)) (hx : o + n ≤ cs.length) : evQ (.loadA n (.const (.ptr b o))) .lf h = .ok (.agg ((cs.drop o).take n)) := by
  show rdN h b o n OV.no (fun l => .ok (.agg l)) = _
  rw [rdN_of (cel_get S hi) hx rfl]
theorem cel_new {os : List AObj} {h : Hp} (S : Sep os h) (cs : List AV) {n : Nat} (hn : cs.length = n) : Sep (Cel h.next cs :: os) (hpush h (mkCells cs n)) := by
  subst hn
  exact S.add (fun k => k = h.next) (Nat.le_succ _) ⟨rfl, hget_hpush h _⟩ (fun k hk => by subst hk; exact ⟨Nat.le_refl _, Nat.lt_succ_self _⟩) fun k hk => hget_hpush_ne h _ (by omega)
theorem cel_put {os : List AObj} {h : Hp} (S : Sep os h) {i b : Nat} {cs cs' : List AV} (hi : os[i]? = some (Cel b cs)) (hl : cs'.length = cs.length) : Sep (os.set i (Cel b cs')) (hset h b (.cells cs' cs.length .solo)) := by
  obtain ⟨G, hp, hb, go⟩ := S.at hi
  exact go _ _ G (Nat.le_refl _) ⟨hp.1, by rw [hget_hset, hl]⟩ (fun k hk => .inl hk) fun k hk hn => hget_hset_ne h _ fun e => hn (e ▸ hp.1)
theorem cel_store {os : List AObj} {h : Hp} (call : CallT) (S : Sep os h) {i b o : Nat} {cs : List AV} (hi : os[i]? = some (Cel b cs)) (ho : o < cs.length) {x : AV} (hx : isCell x = true) :
    ∃ e : Ev, evE (.store 1 (.const (.ptr b o)) (.const x)) call .lf h = .ok undef e.h ∧ Sep (os.set i (Cel b (cs.set o x))) e.h := by
  refine ⟨⟨.nilPtr, .lf, _⟩, ?_, cel_put S hi (List.length_set ..)⟩
  show oStore 1 (.const (.ptr b o)) (.const x) .lf h = _
  unfold oStore
  have e1 : Nat.beq 1 1 = true := rfl
  rw [e1, bc_eq, if_pos rfl]
  show bc (isCell x) (oStore1 (.const (.ptr b o)) (.const x) .lf h) _ = _
  rw [hx, bc_eq, if_pos rfl]
  show bc (isCell x) (wr1 h b o x) RV.no = _
  rw [hx]
  show hcells h b RV.no _ = _
  unfold hcells
  rw [cel_get S hi]
  show bc (Nat.blt o cs.length) (put h b (upd x cs o) cs.length .solo undef) .no = _
  rw [blt_dec, decide_eq_true ho, upd_eq]; rfl
theorem cel_storeN {os : List AObj} {h : Hp} (call : CallT) (S : Sep os h) {i b o n : Nat} {cs xs : List AV} (hi : os[i]? = some (Cel b cs)) (ho : o + n ≤ cs.length) (hn : xs.length = n) (h1 : n ≠ 1) (hx : ∀ x ∈ xs, isCell x = true) :
    ∃ e : Ev, evE (.store n (.const (.ptr b o)) (.const (.agg xs))) call .lf h = .ok undef e.h ∧ Sep (os.set i (Cel b (over xs cs o))) e.h := by
  subst hn
  have hl : (over xs cs o).length = cs.length := by
    rw [over_eq _ _ _ (by omega), List.length_append, List.length_append, List.length_take, List.length_drop]; omega
  refine ⟨⟨.nilPtr, .lf, _⟩, ?_, cel_put S hi hl⟩
  show oStore xs.length (.const (.ptr b o)) (.const (.agg xs)) .lf h = _
  unfold oStore
  rw [beqF h1, bc_eq, if_neg (by decide)]
  show bc (Nat.beq (len xs) xs.length) (bc (lall isCell xs) (wrN h b o xs xs.length undef) .no) RV.no = _
  rw [len_eq, Nat.beq_refl, lall_iff.2 hx]
  show hcells h b RV.no _ = _
  unfold hcells
  rw [cel_get S hi]
  show bc (Nat.ble (o + xs.length) cs.length) (put h b (over xs cs o) cs.length .solo undef) .no = _
  rw [ble_dec, decide_eq_true ho]; rfl
end Eng
end
section
set_option linter.unusedVariables false
set_option linter.unusedSimpArgs false
namespace Eng
open Go Go.RowKit
inductive OwnI (sz : Nat) (h : Hp) (G : Nat → Prop) : AV → Nat → List AV → Prop
  | nil : OwnI sz h G .nilSlice 0 []
  | sl {b n c : Nat} {ex : Bool} {w : Own} {Lc L : List AV} (hG : G b) (hg : hget h b = some (.cells Lc (c * sz) w)) (hl : Lc.length = c * sz) (hn : n ≤ c) (hL : Lc.take (n * sz) = L)
      (hw : w = .solo ∨ ∃ p, w = .pair p ∧ G p ∧ p ≠ b) : OwnI sz h G (.slice b 0 n c sz ex) n L
theorem OwnI.len {sz : Nat} {h : Hp} {G : Nat → Prop} {v : AV} {n : Nat} {L : List AV} (o : OwnI sz h G v n L) : L.length = n * sz := by
  cases o with
  | nil => simp
  | @sl b n c ex w Lc L hG hg hl hn hL hw =>
    have := Nat.mul_le_mul_right sz hn
    rw [← hL, List.length_take, hl]; omega
def OwnO (sz : Nat) (v : AV) (n : Nat) (L : List AV) : AObj where
  p h G := OwnI sz h G v n L
  loc := fun hf o => by
    cases o with
    | nil => exact .nil
    | sl hG hg hl hn hL hw => exact .sl hG ((hf _ hG).trans hg) hl hn hL hw
theorem own_get {os : List AObj} {h : Hp} (S : Sep os h) {i sz n : Nat} {v : AV} {L : List AV} (hi : os[i]? = some (OwnO sz v n L)) : ∃ G, OwnI sz h G v n L := by
  obtain ⟨G, hp, _⟩ := S.at hi; exact ⟨G, hp⟩
theorem own_nil {os : List AObj} {h : Hp} (S : Sep os h) (sz : Nat) : Sep (OwnO sz .nilSlice 0 [] :: os) h :=
  S.add (fun _ => False) (Nat.le_refl _) .nil (fun k hk => hk.elim) fun k hk => rfl
theorem own_new {os : List AObj} {h : Hp} (S : Sep os h) (sz n : Nat) (L : List AV) (ex : Bool) (hl : L.length = n * sz) : Sep (OwnO sz (.slice h.next 0 n n sz ex) n L :: os) (hpush h (mkCells L (n * sz))) :=
  S.add (fun k => k = h.next) (Nat.le_succ _) (.sl rfl (hget_hpush h _) hl (Nat.le_refl _) (List.take_of_length_le (by omega)) (.inl rfl)) (fun k hk => by subst hk; exact ⟨Nat.le_refl _, Nat.lt_succ_self _⟩) fun k hk => hget_hpush_ne h _ (by omega)
theorem Sep.owned {os : List AObj} {h h' : Hp} (S : Sep os h) {sz n : Nat} {v : AV} {L : List AV} (o : Owned sz h.next h' v n L) (a : Old h.next h h') : Sep (OwnO sz v n L :: os) h' := by
  refine S.add (fun k => h.next ≤ k ∧ k < h'.next) a.next ?_ (fun k hk => hk) a.get
  cases o with
  | nil => exact .nil
  | sl hB hb hg hl hw => exact .sl ⟨hB, hb⟩ hg hl (Nat.le_refl _) (List.take_of_length_le (by omega)) (hw.imp id fun ⟨p, h1, h2, h3⟩ => ⟨p, h1, h2, h3⟩)
theorem src_own {β : Type} {h : Hp} {sz : Nat} {G : Nat → Prop} {s : AV} {n : Nat} {L : List AV} (o : OwnI sz h G s n L) (z : β) (k : Nat → List AV → β) : src h sz s z k = k n L := by
  cases o with
  | nil => rfl
  | @sl b n c ex w Lc L hG hg hl hn hL hw =>
    have := Nat.mul_le_mul_right sz hn
    show bc (Nat.beq sz sz) (rdN h b 0 (Nat.mul n sz) z fun l => k n l) z = _
    rw [Nat.beq_refl]
    show rdN h b 0 (n * sz) z _ = _
    rw [rdN_of hg (by omega) hl, List.drop_zero, hL]
theorem q_lenI {sz : Nat} {h : Hp} {G : Nat → Prop} {v : AV} {n : Nat} {L : List AV} (o : OwnI sz h G v n L) : evQ (.lenL (.const v)) .lf H0 = .ok (.int .i64 (.ofNat n)) := by
  cases o <;> rfl
theorem own_len {os : List AObj} {h : Hp} (S : Sep os h) {i sz n : Nat} {v : AV} {L : List AV} (hi : os[i]? = some (OwnO sz v n L)) : evQ (.lenL (.const v)) .lf H0 = .ok (.int .i64 (.ofNat n)) := by
  obtain ⟨G, o⟩ := own_get S hi; exact q_lenI o
theorem own_src {os : List AObj} {h : Hp} (S : Sep os h) {i sz n : Nat} {v : AV} {L : List AV} (hi : os[i]? = some (OwnO sz v n L)) {β : Type} (z : β) (k : Nat → List AV → β) : src h sz v z k = k n L := by
  obtain ⟨G, o⟩ := own_get S hi; exact src_own o z k
theorem OwnI.bytes {h : Hp} {G : Nat → Prop} {s : AV} {n : Nat} {l : List Nat} (o : OwnI 1 h G s n (u8s l)) (hb : ∀ x ∈ l, x < 256) : BIn G h s l := by
  generalize hL : u8s l = L at o
  cases o with
  | nil =>
    cases l with
    | nil => exact .nil
    | cons x l => cases hL
  | @sl b n c ex w Lc L hG hg hl hn hLc hw =>
    subst hL
    have h1 := congrArg List.length hLc
    rw [u8s_length, List.length_take, hl] at h1
    have hnl : l.length = n := by omega
    subst hnl
    exact ⟨⟨b + 1, .sl (Nat.lt_succ_self _) hg hl (by rw [List.drop_zero, ← hLc, Nat.mul_one]) (by omega) hn hb⟩, fun b' e => by cases e; exact hG⟩
theorem own_freeze {os : List AObj} {h : Hp} (S : Sep os h) {i n : Nat} {v : AV} {l : List Nat} (hi : os[i]? = some (OwnO 1 v n (u8s l))) (hb : ∀ x ∈ l, x < 256) : ∃ G : Nat → Prop, BIn G h v l ∧ Sep (os.set i (Frz G h)) h := by
  obtain ⟨G, o, _, S'⟩ := S.freeze hi
  exact ⟨G, OwnI.bytes o hb, S'⟩
theorem own_append {os : List AObj} {h : Hp} (call : CallT) (S : Sep os h) {i sz bytes n : Nat} {s : AV} {L : List AV} (hi : os[i]? = some (OwnO sz s n L)) {x : AV} {m : Nat} {xs : List AV} (hs : ∀ {β : Type} (z : β) (k : Nat → List AV → β), src h sz x z k = k m xs)
    (hx : xs.length = m * sz) (hc : ∀ x ∈ xs, isCell x = true) (h1 : (n + m) * bytes ≤ 70368744177664) (h2 : n + m ≤ 70368744177664) :
    ∃ e : Ev, evE (.append sz bytes (.const s) (.const x)) call .lf h = .ok e.v e.h ∧ Sep (os.set i (OwnO sz e.v (n + m) (L ++ xs))) e.h := by
  obtain ⟨G, o, hGb, go⟩ := S.at hi
  have ev : evE (.append sz bytes (.const s) (.const x)) call .lf h = appendTo h sz bytes s m xs := by
    show src h sz x RV.no (fun m xs => appendTo h sz bytes s m xs) = _
    rw [hs]
  rw [ev]
  have same : m = 0 → appendTo h sz bytes s m xs = .ok s h → ∃ e : Ev, appendTo h sz bytes s m xs = .ok e.v e.h ∧ Sep (os.set i (OwnO sz e.v (n + m) (L ++ xs))) e.h := by
    intro hm e
    subst hm
    obtain rfl : xs = [] := List.eq_nil_of_length_eq_zero (by omega)
    refine ⟨⟨s, .lf, h⟩, e, ?_⟩
    rw [List.append_nil]
    exact go h _ G (Nat.le_refl _) o (fun k hk => .inl hk) fun k hk hn => rfl
  have fresh : ∀ (g : Hp) (L' : List AV), g.next = h.next → (∀ k, k < h.next → ¬ G k → hget g k = hget h k) → L' = L ++ xs → appendTo h sz bytes s m xs = grown g (n + m) sz L' →
      ∃ e : Ev, appendTo h sz bytes s m xs = .ok e.v e.h ∧ Sep (os.set i (OwnO sz e.v (n + m) (L ++ xs))) e.h := by
    intro g L' hgn hgo hL e
    subst hL
    refine ⟨⟨.slice g.next 0 (n + m) (n + m) sz false, .lf, hpush g (mkCells (L ++ xs) ((n + m) * sz))⟩, e, ?_⟩
    have hlen : (L ++ xs).length = (n + m) * sz := by rw [List.length_append, OwnI.len o, hx, Nat.add_mul]
    refine go _ _ (fun k => k = h.next) (by show h.next ≤ (hpush g _).next; rw [hpush_next, hgn]; omega) ?_ (fun k hk => .inr ⟨by omega, by show k < (hpush g _).next; rw [hpush_next, hgn]; omega⟩) fun k hk hn => by
      show hget (hpush g _) k = _
      rw [hget_hpush_ne _ _ (by omega), hgo k hk hn]
    exact .sl hgn (hget_hpush g _) hlen (Nat.le_refl _) (List.take_of_length_le (by omega)) (.inl rfl)
  rcases Nat.eq_zero_or_pos m with hm | hm
  · refine same hm ?_
    subst hm
    obtain rfl : xs = [] := List.eq_nil_of_length_eq_zero (by omega)
    cases o with
    | nil => rfl
    | @sl b n c ex w Lc L hG hg hl hn hL hw =>
      show bc (Nat.beq sz sz) (bc (Nat.ble (n + 0) c) (bc (Nat.beq 0 0) (RV.ok (.slice b 0 n c sz ex) h) _) _) RV.no = _
      rw [Nat.beq_refl, ble_dec, decide_eq_true (by omega)]; rfl
  · have hm0 : Nat.beq m 0 = false := beqF (by omega)
    cases o with
    | nil =>
      refine fresh h xs rfl (fun k hk hn => rfl) rfl ?_
      show bc (Nat.beq m 0) (RV.ok .nilSlice h) (bc (Nat.ble (Nat.mul m bytes) 70368744177664) (bc (Nat.ble m 70368744177664) (grown h m sz xs) .no) .no) = _
      rw [hm0, ble_dec, ble_dec, decide_eq_true (by simpa using h1), decide_eq_true (by simpa using h2), Nat.zero_add]; rfl
    | @sl b n c ex w Lc L hG hg hl hn hL hw =>
      have hbn := hGb _ hG
      have hmul : n * sz ≤ c * sz := Nat.mul_le_mul_right sz hn
      have hlen : L.length = n * sz := by rw [← hL, List.length_take, hl]; omega
      have key : appendTo h sz bytes (.slice b 0 n c sz ex) m xs = bc (Nat.ble (n + m) c) (wrN h b (0 + n * sz) xs (m * sz) (.slice b 0 (n + m) c sz ex)) (more h b 0 n sz m ex xs) := by
        show bc (Nat.beq sz sz) (bc (Nat.ble (n + m) c) (bc (Nat.beq m 0) _ _) (bc (Nat.ble ((n + m) * bytes) 70368744177664) (bc (Nat.ble (n + m) 70368744177664) (more h b 0 n sz m ex xs) .no) .no)) RV.no = _
        rw [Nat.beq_refl, hm0, ble_dec (a := (n + m) * bytes), ble_dec (a := n + m) (b := 70368744177664), decide_eq_true h1, decide_eq_true h2]; rfl
      by_cases hcap : n + m ≤ c
      · rw [ble_dec (a := n + m) (b := c), decide_eq_true hcap] at key
        have hcs : (n + m) * sz ≤ c * sz := Nat.mul_le_mul_right sz hcap
        rw [Nat.add_mul] at hcs
        have hw2 : wrN h b (0 + n * sz) xs (m * sz) (.slice b 0 (n + m) c sz ex) = put h b (over xs Lc (0 + n * sz)) (c * sz) w (.slice b 0 (n + m) c sz ex) := by
          show hcells h b RV.no _ = _
          unfold hcells
          rw [hg]
          show bc (Nat.ble (0 + n * sz + m * sz) (c * sz)) (put h b (over xs Lc (0 + n * sz)) (c * sz) w _) .no = _
          rw [ble_dec, decide_eq_true (by omega)]; rfl
        have hov : over xs Lc (0 + n * sz) = L ++ xs ++ Lc.drop (n * sz + m * sz) := by
          rw [Nat.zero_add, over_eq _ _ _ (by omega), hL, hx]
        rw [hw2, hov] at key
        have hl2 : (L ++ xs ++ Lc.drop (n * sz + m * sz)).length = c * sz := by rw [List.length_append, List.length_append, List.length_drop]; omega
        have fin : ∀ g : Hp, g.next = h.next → (∀ k, k < h.next → ¬ G k → hget g k = hget h k) → Sep (os.set i (OwnO sz (.slice b 0 (n + m) c sz ex) (n + m) (L ++ xs))) (hset g b (.cells (L ++ xs ++ Lc.drop (n * sz + m * sz)) (c * sz) .solo)) := fun g hgn hgo => by
          refine go _ _ G (by rw [hset_next, hgn]; exact Nat.le_refl _) (.sl hG (hget_hset _ _ _) hl2 hcap ?_ (.inl rfl)) (fun k hk => .inl hk) fun k hk hn => ?_
          · rw [List.take_append_of_le_length (by rw [List.length_append, Nat.add_mul]; omega), List.take_of_length_le (by rw [List.length_append, Nat.add_mul]; omega)]
          · rw [hget_hset_ne _ _ (fun (e : k = b) => hn (e ▸ hG)), hgo k hk hn]
        rcases hw with hw | ⟨p, hw, hp1, hp2⟩
        · subst hw
          exact ⟨⟨_, .lf, _⟩, key, fin h rfl fun _ _ _ => rfl⟩
        · subst hw
          exact ⟨⟨_, .lf, _⟩, key, fin (hset h p .dead) rfl fun k hk hn => hget_hset_ne h _ fun (e : k = p) => hn (e ▸ hp1)⟩
      · rw [ble_dec, decide_eq_false hcap] at key
        have e0 : Nat.add 0 (Nat.mul n sz) = n * sz := Nat.zero_add _
        have hpart : part Lc (c * sz) 0 (n * sz) = L := by rw [part_eq hl (by omega), List.drop_zero, hL]
        have key2 : more h b 0 n sz m ex xs = bc ex (grown h (n + m) sz (L ++ xs))
            (bc (Nat.beq (n * sz) (c * sz)) (w.peer .no (shared h b (n + m) sz Lc (c * sz) (L ++ xs)) fun p => bc (Nat.beq p b) .no (shared (hset h p .dead) b (n + m) sz Lc (c * sz) (L ++ xs)))
              (w.peer .no (grown (hset h b .dead) (n + m) sz (L ++ xs)) fun p => grown (hset (hset h p .dead) b .dead) (n + m) sz (L ++ xs))) := by
          show hcells h b RV.no _ = _
          unfold hcells
          rw [hg]
          show bc (Nat.ble (Nat.add 0 (Nat.mul n sz)) (c * sz)) (bc ex (grown h (n + m) sz (app (part Lc (c * sz) 0 (n * sz)) xs))
            (bc (Nat.beq (Nat.add 0 (Nat.mul n sz)) (c * sz)) (w.peer RV.no (shared h b (n + m) sz Lc (c * sz) (app (part Lc (c * sz) 0 (n * sz)) xs)) fun p => bc (Nat.beq p b) .no (shared (hset h p .dead) b (n + m) sz Lc (c * sz) (app (part Lc (c * sz) 0 (n * sz)) xs)))
              (w.peer RV.no (grown (hset h b .dead) (n + m) sz (app (part Lc (c * sz) 0 (n * sz)) xs)) fun p => grown (hset (hset h p .dead) b .dead) (n + m) sz (app (part Lc (c * sz) 0 (n * sz)) xs)))) RV.no = _
          rw [e0, hpart, app_eq, ble_dec, decide_eq_true hmul]; rfl
        have key : appendTo h sz bytes (.slice b 0 n c sz ex) m xs = _ := key.trans key2
        cases ex with
        | true => exact fresh h _ rfl (fun k hk hn => rfl) rfl key
        | false =>
          have key : appendTo h sz bytes (.slice b 0 n c sz false) m xs = bc (Nat.beq (n * sz) (c * sz)) (w.peer .no (shared h b (n + m) sz Lc (c * sz) (L ++ xs)) fun p => bc (Nat.beq p b) .no (shared (hset h p .dead) b (n + m) sz Lc (c * sz) (L ++ xs)))
              (w.peer .no (grown (hset h b .dead) (n + m) sz (L ++ xs)) fun p => grown (hset (hset h p .dead) b .dead) (n + m) sz (L ++ xs)) := key
          have hlen2 : (L ++ xs).length = (n + m) * sz := by rw [List.length_append, hlen, hx, Nat.add_mul]
          by_cases heq : n * sz = c * sz
          · have hb1 : Nat.beq (n * sz) (c * sz) = true := by rw [heq, Nat.beq_refl]
            rw [hb1] at key
            have fin : ∀ g : Hp, g.next = h.next → (∀ k, k < h.next → ¬ G k → hget g k = hget h k) → appendTo h sz bytes (.slice b 0 n c sz false) m xs = shared g b (n + m) sz Lc (c * sz) (L ++ xs) →
                ∃ e : Ev, appendTo h sz bytes (.slice b 0 n c sz false) m xs = .ok e.v e.h ∧ Sep (os.set i (OwnO sz e.v (n + m) (L ++ xs))) e.h := by
              intro g hgn hgo e
              refine ⟨⟨.slice g.next 0 (n + m) (n + m) sz false, .lf, hset (hpush g (.cells (L ++ xs) ((n + m) * sz) (.pair b))) b (.cells Lc (c * sz) (.pair g.next))⟩, e, ?_⟩
              refine go _ _ (fun k => G k ∨ k = h.next) (by show h.next ≤ (hset (hpush g _) b _).next; rw [hset_next, hpush_next, hgn]; omega) ?_ (fun k hk => hk.imp id fun hk => ⟨by omega, by show k < (hset (hpush g _) b _).next; rw [hset_next, hpush_next, hgn]; omega⟩) fun k hk hn => ?_
              · refine .sl (.inr hgn) (w := .pair b) ?_ hlen2 (Nat.le_refl _) (List.take_of_length_le (by omega)) (.inr ⟨b, rfl, .inl hG, by omega⟩)
                show hget (hset (hpush g _) b _) g.next = _
                rw [hget_hset_ne _ _ (by omega), hget_hpush]
              · show hget (hset (hpush g _) b _) k = _
                rw [hget_hset_ne _ _ (fun (e : k = b) => hn (e ▸ hG)), hget_hpush_ne _ _ (by omega), hgo k hk hn]
            rcases hw with hw | ⟨p, hw, hp1, hp2⟩
            · subst hw; exact fin h rfl (fun _ _ _ => rfl) key
            · subst hw
              have key : appendTo h sz bytes (.slice b 0 n c sz false) m xs = bc (Nat.beq p b) .no (shared (hset h p .dead) b (n + m) sz Lc (c * sz) (L ++ xs)) := key
              rw [beqF hp2] at key
              exact fin (hset h p .dead) rfl (fun k hk hn => hget_hset_ne h _ fun (e : k = p) => hn (e ▸ hp1)) key
          · rw [beqF heq] at key
            rcases hw with hw | ⟨p, hw, hp1, hp2⟩
            · subst hw
              exact fresh (hset h b .dead) _ rfl (fun k hk hn => hget_hset_ne h _ fun (e : k = b) => hn (e ▸ hG)) rfl key
            · subst hw
              exact fresh (hset (hset h p .dead) b .dead) _ rfl (fun k hk hn => by rw [hget_hset_ne _ _ (fun (e : k = b) => hn (e ▸ hG)), hget_hset_ne _ _ (fun (e : k = p) => hn (e ▸ hp1))]) rfl key
end Eng
end
section
set_option linter.unusedVariables false
namespace Eng
open Go
def lastB (x left : Nat) (sg : Bool) : Bool :=
  if x &&& 128 ≠ 0 then false else if sg = false then decide (x / 2 ^ left = 0) else if x / 2 ^ (left - 1) = 0 then true else decide (x / 2 ^ (left - 1) = 127 / 2 ^ (left - 1))
def readG (size : Nat) (sg : Bool) : List Nat → Nat → Nat → Nat → Nat × Nat × Nat
  | [], _, _, _ => (0, 0, 3)
  | x :: l, a, n, v =>
    if size - a ≤ 7 ∧ lastB x (size - a) sg = false then (0, 0, 2)
    else if x &&& 128 ≠ 0 then readG size sg l (a + 7) (n + 1) (v ||| ((x &&& 127) * 2 ^ a % 18446744073709551616))
    else if sg = true ∧ x &&& 64 ≠ 0 ∧ a + 7 < 64 then (v ||| ((x &&& 127) * 2 ^ a % 18446744073709551616) ||| (18446744073709551615 * 2 ^ (a + 7) % 18446744073709551616), n + 1, 0)
    else (v ||| ((x &&& 127) * 2 ^ a % 18446744073709551616), n + 1, 0)
theorem lastB_small {x left : Nat} {sg : Bool} (h : lastB x left sg = true) : x &&& 128 = 0 := by
  unfold lastB at h
  by_cases hx : x &&& 128 = 0
  · exact hx
  · rw [if_pos hx] at h; cases h
theorem drop_cons {l : List Nat} {k : Nat} (h : k < l.length) : l.drop k = l.getD k 0 :: l.drop (k + 1) := by
  rw [List.drop_eq_getElem_cons h, List.getD_eq_getElem?_getD, List.getElem?_eq_getElem h]; rfl
theorem getD_lt {l : List Nat} (hb : ∀ x ∈ l, x < 256) (k : Nat) : l.getD k 0 < 256 := by
  by_cases h : k < l.length
  · rw [List.getD_eq_getElem?_getD, List.getElem?_eq_getElem h]; exact hb _ (List.getElem_mem _)
  · rw [List.getD_eq_getElem?_getD, List.getElem?_eq_none (by omega)]; decide
theorem or64 {a b : Nat} (ha : a < 18446744073709551616) (hb : b < 18446744073709551616) : a ||| b < 18446744073709551616 := Nat.or_lt_two_pow (n := 64) ha hb
end Eng
namespace Eng
theorem eqI_nat (a b : Nat) : eqI (Int.ofNat a) (Int.ofNat b) = decide (a = b) := by
  rw [eqI_eq, Bool.eq_iff_iff]
  simp only [beq_iff_eq, decide_eq_true_eq]
  exact ⟨fun h => Int.ofNat.inj h, fun h => by rw [h]⟩
end Eng
namespace Eng
open Go
def lebU (v : Nat) : List Nat := if h : v < 128 then [v] else (v % 256 ||| 128) :: lebU (v / 128)
termination_by v
decreasing_by omega
theorem lebU_lo {v : Nat} (h : v < 128) : lebU v = [v] := by rw [lebU, dif_pos h]
theorem lebU_hi {v : Nat} (h : 128 ≤ v) : lebU v = (v % 256 ||| 128) :: lebU (v / 128) := by rw [lebU, dif_neg (by omega)]
theorem lebU_lt : ∀ (n v : Nat), v < 128 ^ n → ∀ x ∈ lebU v, x < 256
  | 0, v, h => by
    have : v = 0 := by simpa using h
    subst this
    rw [lebU_lo (by decide)]; simp
  | n + 1, v, h => by
    by_cases hv : v < 128
    · rw [lebU_lo hv]
      intro x hx
      rw [List.mem_singleton] at hx; omega
    · rw [lebU_hi (by omega)]
      intro x hx
      rcases List.mem_cons.1 hx with rfl | hx
      · exact Nat.or_lt_two_pow (n := 8) (Nat.mod_lt _ (by decide)) (by decide)
      · exact lebU_lt n (v / 128) (by rw [Nat.pow_succ] at h; omega) x hx
theorem lebU_len : ∀ (n v : Nat), v < 128 ^ (n + 1) → (lebU v).length ≤ n + 1
  | 0, v, h => by rw [lebU_lo (by omega)]; simp
  | n + 1, v, h => by
    by_cases hv : v < 128
    · rw [lebU_lo hv]; simp
    · rw [lebU_hi (by omega), List.length_cons]
      have := lebU_len n (v / 128) (by rw [Nat.pow_succ] at h; omega)
      omega
theorem u8s_append (l m : List Nat) : u8s l ++ u8s m = u8s (l ++ m) := by rw [u8s_eq, u8s_eq, u8s_eq, List.map_append]
theorem u8s_one (x : Nat) : [AV.int .u8 (.ofNat x)] = u8s [x] := rfl
end Eng
namespace Eng
open Go
def lebH (v : Nat) : List Nat := if h : v < 128 then [] else (v % 256 ||| 128) :: lebH (v / 128)
termination_by v
decreasing_by omega
def lebL (v : Nat) : Nat := if h : v < 128 then v else lebL (v / 128)
termination_by v
decreasing_by omega
theorem lebH_lo {v : Nat} (h : v < 128) : lebH v = [] := by rw [lebH, dif_pos h]
theorem lebH_hi {v : Nat} (h : 128 ≤ v) : lebH v = (v % 256 ||| 128) :: lebH (v / 128) := by rw [lebH, dif_neg (by omega)]
theorem lebL_lo {v : Nat} (h : v < 128) : lebL v = v := by rw [lebL, dif_pos h]
theorem lebL_hi {v : Nat} (h : 128 ≤ v) : lebL v = lebL (v / 128) := by rw [lebL, dif_neg (by omega)]
theorem lebU_eq (v : Nat) : lebU v = lebH v ++ [lebL v] := by
  induction v using Nat.strongRecOn with
  | ind v ih =>
    by_cases h : v < 128
    · rw [lebU_lo h, lebH_lo h, lebL_lo h]; rfl
    · rw [lebU_hi (by omega), lebH_hi (by omega), lebL_hi (by omega), ih (v / 128) (by omega)]; rfl
theorem lebL_lt (v : Nat) : lebL v < 128 := by
  induction v using Nat.strongRecOn with
  | ind v ih =>
    by_cases h : v < 128
    · rw [lebL_lo h]; exact h
    · rw [lebL_hi (by omega)]; exact ih _ (by omega)
theorem lebH_len : ∀ (n v : Nat), v < 128 ^ (n + 1) → (lebH v).length ≤ n := fun n v h => by
  have := lebU_len n v h
  rw [lebU_eq, List.length_append] at this
  simp at this; omega
def sIn (w : Int) : Prop := -64 ≤ w ∧ w < 64
instance (w : Int) : Decidable (sIn w) := inferInstanceAs (Decidable (_ ∧ _))
def sebH (w : Int) : List Nat := if h : sIn w then [] else ((w % 256).toNat ||| 128) :: sebH (w / 128)
termination_by w.natAbs
decreasing_by unfold sIn at h; omega
def sebL (w : Int) : Int := if h : sIn w then w else sebL (w / 128)
termination_by w.natAbs
decreasing_by unfold sIn at h; omega
def lebS (w : Int) : List Nat := sebH w ++ [(sebL w % 256).toNat &&& 127]
theorem ltI_T {a b : Int} (h : ltI a b = true) : a < b := by rw [ltI_eq] at h; simpa using h
theorem ltI_F {a b : Int} (h : ltI a b = false) : b ≤ a := by rw [ltI_eq] at h; simpa using h
end Eng
namespace Eng
open Go
def LastS (call : CallT) (f : Nat) : Prop := ∀ (x left : Nat) (s : Bool) (h : Hp), x < 256 → 1 ≤ left → left ≤ 64 → call f [.int .u8 (.ofNat x), .int .i64 (.ofNat left), .bool s] h = .ok (.bool (lastB x left s)) h
def numT (k : IntKind) (r : Nat × Nat × Nat) : AV := .tuple [.int k (.ofNat r.1), .int .i64 (.ofNat r.2.1), .int .i64 (.ofNat r.2.2)]
def ReadS (call : CallT) (f : Nat) (g : Nat → Bool → List Nat → Nat × Nat × Nat) : Prop := ∀ (B : Nat) (h : Hp) (vb : AV) (l : List Nat) (size : Nat) (sg : Bool), Bytes B h vb l → l.length < 90000 → size = 32 ∨ size = 33 ∨ size = 64 →
  call f [vb, .int .i64 (.ofNat size), .bool sg] h = .ok (numT .u64 (g size sg l)) h
def CloneS (call : CallT) (f : Nat) : Prop := ∀ {B : Nat} {h : Hp} {vb : AV} {l : List Nat}, B ≤ h.next → l.length ≤ 1099511627776 → Bytes B h vb l → ∃ v h', call f [vb] h = .ok v h' ∧ Owned 1 B h' v l.length (u8s l) ∧ Old B h h' ∧ B ≤ h'.next
def JoinS (call : CallT) (f : Nat) : Prop := ∀ {B : Nat} {h : Hp} {vb vl : AV} {l m : List Nat}, B ≤ h.next → Bytes B h vb l → Bytes B h vl m → l.length ≤ 1099511627776 → m.length ≤ 1099511627776 →
  ∃ v h', call f [vb, vl] h = .ok v h' ∧ Owned 1 B h' v (l.length + m.length) (u8s (l ++ m)) ∧ Old B h h' ∧ B ≤ h'.next
def PutUS (call : CallT) (f : Nat) : Prop := ∀ {B : Nat} {h : Hp} {vb : AV} {l : List Nat} {v : Nat}, B ≤ h.next → Bytes B h vb l → l.length ≤ 1099511627776 → v < 18446744073709551616 →
  ∃ rv rh, call f [vb, .int .u64 (.ofNat v)] h = .ok rv rh ∧ Owned 1 B rh rv (l.length + (lebU v).length) (u8s (l ++ lebU v)) ∧ Old B h rh ∧ B ≤ rh.next
def PutSS (call : CallT) (f : Nat) : Prop := ∀ {B : Nat} {h : Hp} {vb : AV} {l : List Nat} {v : Int}, B ≤ h.next → Bytes B h vb l → l.length ≤ 1099511627776 → (-9223372036854775808 ≤ v ∧ v < 9223372036854775808) →
  ∃ rv rh, call f [vb, .int .i64 v] h = .ok rv rh ∧ Owned 1 B rh rv (l.length + (lebS v).length) (u8s (l ++ lebS v)) ∧ Old B h rh ∧ B ≤ rh.next
def TrueS (call : CallT) (f : Nat) : Prop := ∀ h : Hp, call f [] h = .ok (.bool true) h
theorem again_of {o : QOp} {h : Hp} {v : AV} (e : evQ o .lf h = .ok v) (r : avEq v v = true) : again o .lf v h = true := by
  show (evQ o .lf h).cs false (fun v' => avEq v v') = true
  rw [e]; exact r
theorem avEq_int (k : IntKind) (n : Int) : avEq (.int k n) (.int k n) = true := by
  show bc (ikEq k k) (eqI n n) false = true
  rw [ikEq_self, eqI_eq]; simp [bc]
theorem strEq_self (s : List Nat) : strEq s s = true := by rw [strEq_iff]; simp
theorem avEq_str (s : List Nat) : avEq (.str s) (.str s) = true := strEq_self s
theorem avEq_bool (b : Bool) : avEq (.bool b) (.bool b) = true := by cases b <;> rfl
theorem beq_self (n : Nat) : Nat.beq n n = true := Nat.beq_refl n
theorem avEq_slice (b o l c s : Nat) (e : Bool) : avEq (.slice b o l c s e) (.slice b o l c s e) = true := by
  show bc (Nat.beq b b) (bc (Nat.beq o o) (bc (Nat.beq l l) (bc (Nat.beq c c) (bc (Nat.beq s s) (bc e e (notB e)) false) false) false) false) false = true
  simp only [beq_self, bc_eq, if_true]
  cases e <;> rfl
theorem avEq_ptr (b o : Nat) : avEq (.ptr b o) (.ptr b o) = true := by
  show bc (Nat.beq b b) (Nat.beq o o) false = true
  simp only [beq_self, bc_eq, if_true]
theorem Owned.same {sz B n : Nat} {h : Hp} {v : AV} {L : List AV} (o : Owned sz B h v n L) : avEq v v = true := by
  cases o with
  | nil => rfl
  | sl => exact avEq_slice ..
theorem Bytes.same {B : Nat} {h : Hp} {v : AV} {l : List Nat} (o : Bytes B h v l) : avEq v v = true := by
  cases o with
  | nil => rfl
  | sl => exact avEq_slice ..
theorem evF_at {M : Nat → Option (List AV → Hp → RV)} {S : Nat → Option AF} {N d f : Nat} (hM : M f = none) (args : List AV) (h : Hp) : evF M S N (d + 1) f args h = evF1 S N (evF M S N d) f args h := by
  show ocase (evF1 S N (evF M S N d) f args h) (fun m => m args h) (M f) = _
  rw [hM]; rfl
theorem evF_sum {S : Nat → Option AF} {N d : Nat} {l : List Nat} {f : Nat} (hf : f ∈ l) : TrueS (evF (sumT l) S N (d + 1)) f := fun h => by
  show ocase (evF1 S N (evF (sumT l) S N d) f [] h) (fun m => m [] h) (bc (lall (fun g => notB (Nat.beq g f)) l) none (some fun args h => lcase (RV.ok (.bool true) h) (fun _ _ => RV.no) args)) = _
  have hb : lall (fun g => notB (Nat.beq g f)) l = false := by
    cases hh : lall (fun g => notB (Nat.beq g f)) l with
    | false => rfl
    | true =>
      have := lall_iff.1 hh f hf
      rw [Nat.beq_refl] at this; cases this
  rw [hb]; rfl
theorem sumT_none {l : List Nat} {f : Nat} (hf : lall (fun g => notB (Nat.beq g f)) l = true) : sumT l f = none := by unfold sumT; rw [hf]; rfl
end Eng
namespace Eng
theorem strEq_t {a b : List Nat} (h : strEq a b = true) : a = b := by rw [strEq_iff] at h; simpa using h
theorem strEq_f {a b : List Nat} (h : strEq a b = false) : a ≠ b := by rw [strEq_iff] at h; simpa using h
end Eng
namespace Eng
open Go
set_option maxRecDepth 100000 in
theorem bits8 : ∀ x < 256, (x &&& 128 = 0 ↔ x < 128) ∧ (x < 128 → x &&& 127 = x) := by decide +kernel
theorem lastB_u {x left : Nat} (hx : x < 256) : lastB x left false = decide (x < 128 ∧ (x &&& 127) / 2 ^ left = 0) := by
  obtain ⟨h1, h2⟩ := bits8 x hx
  unfold lastB
  by_cases h : x < 128
  · rw [if_neg (by rw [h1.2 h]; simp), if_pos rfl, h2 h, Bool.eq_iff_iff]
    simp only [decide_eq_true_eq]
    exact ⟨fun e => ⟨h, e⟩, fun e => e.2⟩
  · rw [if_pos (fun e => h (h1.1 e)), decide_eq_false (fun e => h e.1)]
theorem readG_u {size i v x : Nat} {l : List Nat} (hx : x < 256) (h7 : 7 * i < size) : readG size false (x :: l) (7 * i) i v =
    if size - 7 * i ≤ 7 ∧ (128 ≤ x ∨ (x &&& 127) / 2 ^ (size - 7 * i) ≠ 0) then (0, 0, 2)
    else if x < 128 then (v ||| ((x &&& 127) * 2 ^ (7 * i) % 18446744073709551616), i + 1, 0)
    else readG size false l (7 * (i + 1)) (i + 1) (v ||| ((x &&& 127) * 2 ^ (7 * i) % 18446744073709551616)) := by
  obtain ⟨h1, h2⟩ := bits8 x hx
  rw [readG, lastB_u hx]
  by_cases hc : size - 7 * i ≤ 7 ∧ (128 ≤ x ∨ (x &&& 127) / 2 ^ (size - 7 * i) ≠ 0)
  · rw [if_pos hc, if_pos ⟨hc.1, decide_eq_false (fun e => by rcases hc.2 with h | h; omega; exact h e.2)⟩]
  · rw [if_neg hc, if_neg (fun e => hc ⟨e.1, Classical.byContradiction fun hn => absurd e.2 (by rw [decide_eq_true (by constructor; omega; exact Classical.byContradiction fun h => hn (.inr h))]; decide)⟩)]
    by_cases h : x < 128
    · rw [if_neg (by rw [h1.2 h]; simp), if_neg (by rintro ⟨e, _⟩; cases e), if_pos h]
    · rw [if_pos (fun e => h (h1.1 e)), if_neg h, Nat.mul_add]
end Eng
namespace Eng
open Go
noncomputable def sInt (k : IntKind) (n : Nat) : Int := wrapA k (.ofNat n)
def NumS (call : CallT) (f : Nat) (size : Nat) (sg : Bool) (k : IntKind) (v : Nat → Int) : Prop := ∀ {B : Nat} {h : Hp} {vb : AV} {l : List Nat}, Bytes B h vb l → l.length < 90000 →
  call f [vb] h = .ok (.tuple [.int k (v (readG size sg l 0 0 0).1), .int .i64 (.ofNat (readG size sg l 0 0 0).2.1), .int .i64 (.ofNat (readG size sg l 0 0 0).2.2)]) h
theorem lebU_all {v : Nat} (hv : v < 18446744073709551616) : ∀ x ∈ lebU v, x < 256 := lebU_lt 10 v (by omega)
theorem put_lt {l m : List Nat} (hl : ∀ x ∈ l, x < 256) (hm : ∀ x ∈ m, x < 256) : ∀ x ∈ l ++ m, x < 256 := fun x hx => by
  rcases List.mem_append.1 hx with h | h
  · exact hl x h
  · exact hm x h
end Eng
end
section
set_option linter.unusedVariables false
set_option linter.unusedSimpArgs false
namespace Eng
open Go Go.RowKit
theorem BIn.cell {G : Nat → Prop} {h : Hp} {v : AV} {l : List Nat} (P : BIn G h v l) : isCell v = true := by
  obtain ⟨⟨B, P⟩, _⟩ := P; cases P <;> rfl
theorem BIn.cells {G : Nat → Prop} {h : Hp} {v : AV} {l : List Nat} (P : BIn G h v l) : cellsOf v = [v] := by
  obtain ⟨⟨B, P⟩, _⟩ := P; cases P <;> rfl
theorem BIn.same {G : Nat → Prop} {h : Hp} {v : AV} {l : List Nat} (P : BIn G h v l) : avEq v v = true := by
  obtain ⟨⟨B, P⟩, _⟩ := P; exact P.same
theorem own_cell {os : List AObj} {h : Hp} (S : Sep os h) {i sz n : Nat} {v : AV} {L : List AV} (hi : os[i]? = some (OwnO sz v n L)) : isCell v = true := by
  obtain ⟨G, o⟩ := own_get S hi; cases o <;> rfl
theorem own_cells {os : List AObj} {h : Hp} (S : Sep os h) {i sz n : Nat} {v : AV} {L : List AV} (hi : os[i]? = some (OwnO sz v n L)) : cellsOf v = [v] := by
  obtain ⟨G, o⟩ := own_get S hi; cases o <;> rfl
theorem own_same {os : List AObj} {h : Hp} (S : Sep os h) {i sz n : Nat} {v : AV} {L : List AV} (hi : os[i]? = some (OwnO sz v n L)) : avEq v v = true := by
  obtain ⟨G, o⟩ := own_get S hi
  cases o with
  | nil => rfl
  | sl => exact avEq_slice ..
theorem own_bytes {os : List AObj} {h : Hp} (S : Sep os h) {i n : Nat} {v : AV} {l : List Nat} (hi : os[i]? = some (OwnO 1 v n (u8s l))) (hb : ∀ x ∈ l, x < 256) : Bytes h.next h v l := by
  obtain ⟨G, o, hG, _⟩ := S.at hi
  obtain ⟨⟨B, P⟩, hk⟩ := OwnI.bytes o hb
  cases P with
  | nil => exact .nil
  | sl hB hg hcl hl hm hc hb => exact .sl (hG _ (hk _ rfl)) hg hcl hl hm hc hb
theorem fill_cons {v : AV} {xs : List AV} {o k n : Nat} {ps : List (Nat × Nat × AX)} {t : T} {z : List AV} (hv : cellsOf v = xs) (hk : xs.length = k) (hn : o + k ≤ n) : fillParts ((o, k, .const v) :: ps) t n z = fillParts ps t n (over xs z o) := by
  subst hk
  show bc (Nat.beq (len (cellsOf v)) xs.length) (bc (Nat.ble (o + xs.length) n) (fillParts ps t n (over (cellsOf v) z o)) none) none = _
  rw [hv, len_eq, Nat.beq_refl, ble_dec, decide_eq_true hn]; rfl
theorem build_told {z cs : List AV} {ps : List (Nat × Nat × AX)} {h : Hp} (e : fillParts ps .lf (len z) z = some cs) : evQ (.build z ps) .lf h = .ok (.agg cs) := by
  show ocase OV.no (fun cs => .ok (.agg cs)) (fillParts ps .lf (len z) z) = _
  rw [e]; rfl
theorem avEq_agg1 {v : AV} {l : List AV} (h1 : avEq v v = true) (h2 : avEq (.agg l) (.agg l) = true) : avEq (.agg (v :: l)) (.agg (v :: l)) = true := by
  show bc (avEq v v) (avEq (.agg l) (.agg l)) false = true
  rw [h1]; exact h2
theorem all_cell {x : AV} {l : List AV} (h1 : isCell x = true) (h2 : ∀ y ∈ l, isCell y = true) : ∀ y ∈ x :: l, isCell y = true := fun y hy => by
  rcases List.mem_cons.1 hy with e | e
  · rw [e]; exact h1
  · exact h2 y e
theorem all_cell0 : ∀ y ∈ ([] : List AV), isCell y = true := fun y hy => by cases hy
theorem lit_told {sz l n : Nat} {z cs : List AV} {ps : List (Nat × Nat × AX)} (e : fillParts ps .lf n (lrep z l) = some cs) (hx : ∀ x ∈ cs, isCell x = true) (hn : Nat.mul l sz = n) : evL (.buildSlice sz l z ps) .lf = .ok (.sl l l sz true) (mkCells cs n) := by
  subst hn
  show ocase OL.no (fun cs => bc (lall isCell cs) (.ok (.sl l l sz true) (mkCells cs (Nat.mul l sz))) .no) (fillParts ps .lf (Nat.mul l sz) (lrep z l)) = _
  rw [e]
  show bc (lall isCell cs) _ _ = _
  rw [lall_iff.2 hx]; rfl
theorem own_L {os : List AObj} {h : Hp} (S : Sep os h) {i sz n : Nat} {v : AV} {L : List AV} (hi : os[i]? = some (OwnO sz v n L)) : L.length = n * sz := by
  obtain ⟨G, o⟩ := own_get S hi; exact o.len
theorem u8s_cells (l : List Nat) : ∀ x ∈ u8s l, isCell x = true := fun x hx => by
  rw [u8s_eq] at hx
  obtain ⟨y, _, rfl⟩ := List.mem_map.1 hx; rfl
theorem cons_lt {y : Nat} {l : List Nat} (h : y < 256) (hl : ∀ x ∈ l, x < 256) : ∀ x ∈ y :: l, x < 256 := fun x hx => by
  rcases List.mem_cons.1 hx with e | e
  · omega
  · exact hl x e
theorem elemP_same (v : AV) (k sz : Nat) : avEq (elemP v k sz) (elemP v k sz) = true := by
  cases v <;> first | rfl | exact avEq_ptr _ _
def avN (i : Nat) : AV → AV
  | .tuple l => l.getD i .nilPtr
  | v => v
end Eng
end
section
set_option linter.unusedVariables false
set_option linter.unusedSimpArgs false
namespace Eng
open Go Go.RowKit Go.ChangeShapes Go.WideShapes
section
variable {H : Type} {enc : TypeId × Value → H} {P : Program} {W : World}
theorem trod_struct {t : TypeId} {fs : Array Field} {v : Value} {d : DataW H} {p : List MemPlace} {base : Nat} {sp : Nat → Bool} {held : Bool} (ht : P.underlying t = some (.struct fs))
    (h0 : DataW.Trod enc P W base sp held t v d p) : ∃ fuel xs, (fs.toList.mapM fun f => DataW.trod enc P W base sp held fuel f.type ((v.cells.toList.drop f.offset).take (P.cellsOf f.type))) = some xs ∧ d = .agg (xs.map (·.1)) ∧ p = xs.flatMap (·.2) ∧ v.cells.toList.length = P.cellsOf t := by
  obtain ⟨fuel, hf⟩ := h0
  cases fuel with
  | zero => cases hf
  | succ fuel =>
    unfold DataW.trod at hf
    rw [ht] at hf
    simp only at hf
    split at hf
    · rename_i hl
      cases hm : (fs.toList.mapM fun f => DataW.trod enc P W base sp held fuel f.type ((v.cells.toList.drop f.offset).take (P.cellsOf f.type))) with
      | none => rw [hm] at hf; cases hf
      | some xs =>
        rw [hm] at hf
        cases hf
        exact ⟨fuel, xs, hm, rfl, rfl, hl⟩
    · cases hf
end
end Eng
end
section
set_option linter.unusedVariables false
set_option linter.unusedSimpArgs false
namespace Eng
open Go Go.RowKit
theorem lb {n m : Nat} (h : Nat.ble n m = true) : n ≤ m := Nat.le_of_ble_eq_true h
def gd {α : Type} (p : Prop) [Decidable p] (o : Option α) : Option α := if p then o else none
theorem gd_inv {α : Type} {p : Prop} [Decidable p] {o : Option α} {r : α} (h : gd p o = some r) : p ∧ o = some r := by
  unfold gd at h
  split at h
  · exact ⟨‹_›, h⟩
  · cases h
theorem gd_t {α : Type} {p : Prop} [Decidable p] {o : Option α} (h : p) : gd p o = o := if_pos h
def ob {α β : Type} (o : Option α) (f : α → Option β) : Option β := match o with | none => none | some x => f x
theorem ob_inv {α β : Type} {o : Option α} {f : α → Option β} {r : β} (h : ob o f = some r) : ∃ x, o = some x ∧ f x = some r := by
  cases o with
  | none => cases h
  | some x => exact ⟨x, rfl, h⟩
theorem ob_some {α β : Type} {x : α} {f : α → Option β} : ob (some x) f = f x := rfl
inductive LO (S R : Type) where
  | ex (s : S)
  | rt (r : R)
def LO.on {S R β : Type} (o : LO S R) (f : S → β) (g : R → β) : β := match o with | .ex s => f s | .rt r => g r
theorem LO.on_ex {S R β : Type} {s : S} {f : S → β} {g : R → β} : (LO.ex s : LO S R).on f g = f s := rfl
theorem LO.on_rt {S R β : Type} {r : R} {f : S → β} {g : R → β} : (LO.rt r : LO S R).on f g = g r := rfl
theorem ift {α : Type} {p : Prop} [Decidable p] {a b : Option α} {r : α} (h : (if p then a else b) = some r) (c : p) : a = some r := by rwa [if_pos c] at h
theorem iff0 {α : Type} {p : Prop} [Decidable p] {a b : Option α} {r : α} (h : (if p then a else b) = some r) (c : ¬ p) : b = some r := by rwa [if_neg c] at h
theorem nltO {a b : Nat} (h : b ≤ a) : ¬ a < b := Nat.not_lt.2 h
theorem nleO {a b : Nat} (h : b < a) : ¬ a ≤ b := Nat.not_le.2 h
theorem nleZ {a b : Int} (h : b < a) : ¬ a ≤ b := Int.not_le.2 h
theorem nneO {α : Sort _} {a b : α} (h : a = b) : ¬ a ≠ b := fun g => g h
theorem nbF {b : Bool} (h : b = false) : ¬ b = true := by rw [h]; decide
theorem nbT {b : Bool} (h : b = true) : ¬ b = false := by rw [h]; decide
abbrev Up (G : Nat → Prop) (h : Hp) (G' : Nat → Prop) (h' : Hp) : Prop := ∀ k, G k → G' k ∧ hget h' k = hget h k
abbrev Low (h : Hp) : Nat → Prop := fun k => k < h.next
theorem Up.refl (G : Nat → Prop) (h : Hp) : Up G h G h := fun k hk => ⟨hk, rfl⟩
theorem Up.trans {G G' G'' : Nat → Prop} {h h' h'' : Hp} (a : Up G h G' h') (b : Up G' h' G'' h'') : Up G h G'' h'' := fun k hk => ⟨(b k (a k hk).1).1, (b k (a k hk).1).2.trans (a k hk).2⟩
theorem Sep.low {os : List AObj} {h : Hp} (S : Sep os h) {i : Nat} {G : Nat → Prop} {h0 : Hp} (hi : os[i]? = some (Frz G h0)) : Up G h0 (Low h) h := fun k hk => S.frozen hi hk
theorem BIn.up {G G' : Nat → Prop} {h h' : Hp} {v : AV} {l : List Nat} (u : Up G h G' h') (P : BIn G h v l) : BIn G' h' v l := by
  obtain ⟨⟨B, P⟩, hG⟩ := P
  cases P with
  | nil => exact .nil
  | sl hB hg hcl hl hm hc hb =>
    obtain ⟨h1, h2⟩ := u _ (hG _ rfl)
    exact ⟨⟨_, .sl (Nat.lt_succ_self _) (h2.trans hg) hcl hl hm hc hb⟩, fun b e => by cases e; exact h1⟩
theorem Sep.empty {os : List AObj} {h : Hp} (S : Sep os h) : Sep (Frz (fun _ => False) h :: os) h :=
  S.add (fun _ => False) (Nat.le_refl _) ⟨fun _ e => e, fun _ e => e.elim⟩ (fun _ e => e.elim) fun _ _ => rfl
theorem Sep.merge {os : List AObj} {h : Hp} {G1 G2 : Nat → Prop} {h1 h2 : Hp} (S : Sep (Frz G1 h1 :: Frz G2 h2 :: os) h) : Sep (Frz (fun k => G1 k ∨ G2 k) h :: os) h := by
  obtain ⟨g, g1, g2, g3⟩ := S
  refine ⟨fun j => Nat.casesOn j (fun k => g 0 k ∨ g 1 k) (fun j => g (j + 2)), fun j x hj => ?_, fun j k hk => ?_, fun j1 j2 k a b => ?_⟩
  · cases j with
    | zero => cases hj; exact ⟨fun k hk => hk.imp ((g1 0 _ rfl).1 k) ((g1 1 _ rfl).1 k), fun k hk => rfl⟩
    | succ j => exact g1 (j + 2) x hj
  · cases j with
    | zero => exact hk.elim (g2 0 k) (g2 1 k)
    | succ j => exact g2 _ k hk
  · cases j1 with
    | zero =>
      cases j2 with
      | zero => rfl
      | succ j2 => rcases a with a | a <;> have := g3 _ _ k a b <;> omega
    | succ j1 =>
      cases j2 with
      | zero => rcases b with b | b <;> have := g3 _ _ k a b <;> omega
      | succ j2 => have := g3 _ _ k a b; omega
theorem Sep.up1 {os : List AObj} {h : Hp} {G1 G2 : Nat → Prop} {h1 h2 : Hp} (S : Sep (Frz G1 h1 :: Frz G2 h2 :: os) h) : Up G1 h1 (fun k => G1 k ∨ G2 k) h := fun k hk => ⟨.inl hk, (S.frozen (i := 0) rfl hk).2⟩
theorem Sep.up2 {os : List AObj} {h : Hp} {G1 G2 : Nat → Prop} {h1 h2 : Hp} (S : Sep (Frz G1 h1 :: Frz G2 h2 :: os) h) : Up G2 h2 (fun k => G1 k ∨ G2 k) h := fun k hk => ⟨.inr hk, (S.frozen (i := 1) rfl hk).2⟩
theorem Sep.call {os news : List AObj} {h rh : Hp} (S : Sep os h) (S' : Sep (news ++ [Frz (Low h) h]) rh) : Sep (news ++ os) rh := by
  have hi : (news ++ [Frz (Low h) h])[news.length]? = some (Frz (Low h) h) := by simp
  have fz : ∀ k, k < h.next → k < rh.next ∧ hget rh k = hget h k := fun k hk => S'.frozen hi hk
  obtain ⟨g, g1, g2, g3⟩ := S
  obtain ⟨f, f1, f2, f3⟩ := S'
  have fn : ∀ k, k < h.next → f news.length k := (f1 _ _ hi).1
  have fne : ∀ i k, i < news.length → f i k → ¬ k < h.next := fun i k hi' hf hk => by have := f3 _ _ k hf (fn k hk); omega
  refine ⟨fun j => if j < news.length then f j else g (j - news.length), fun j x hj => ?_, fun j k hk => ?_, fun j1 j2 k a b => ?_⟩
  · by_cases hlt : j < news.length
    · show x.p rh (if j < news.length then f j else g (j - news.length))
      rw [if_pos hlt]
      exact f1 j x (by rw [List.getElem?_append_left hlt] at hj ⊢; exact hj)
    · show x.p rh (if j < news.length then f j else g (j - news.length))
      rw [if_neg hlt]
      rw [List.getElem?_append_right (Nat.not_lt.1 hlt)] at hj
      exact x.loc (fun k hk => (fz k (g2 _ k hk)).2) (g1 _ x hj)
  · by_cases hlt : j < news.length
    · have hk : (if j < news.length then f j else g (j - news.length)) k := hk
      rw [if_pos hlt] at hk; exact f2 j k hk
    · have hk : (if j < news.length then f j else g (j - news.length)) k := hk
      rw [if_neg hlt] at hk; exact (fz k (g2 _ k hk)).1
  · have a : (if j1 < news.length then f j1 else g (j1 - news.length)) k := a
    have b : (if j2 < news.length then f j2 else g (j2 - news.length)) k := b
    by_cases h1 : j1 < news.length
    · rw [if_pos h1] at a
      by_cases h2 : j2 < news.length
      · rw [if_pos h2] at b; exact f3 _ _ k a b
      · rw [if_neg h2] at b; exact absurd (g2 _ k b) (fne _ k h1 a)
    · rw [if_neg h1] at a
      by_cases h2 : j2 < news.length
      · rw [if_pos h2] at b; exact absurd (g2 _ k a) (fne _ k h2 b)
      · rw [if_neg h2] at b; have := g3 _ _ k a b; omega
structure Rep (α : Type) where
  sz : Nat
  rep : (Nat → Prop) → Hp → List AV → α → Prop
  len : ∀ {G h cs x}, rep G h cs x → cs.length = sz
  cell : ∀ {G h cs x}, rep G h cs x → ∀ c ∈ cs, isCell c = true
  up : ∀ {G h G' h' cs x}, Up G h G' h' → rep G h cs x → rep G' h' cs x
def rU (k : IntKind) : Rep Nat where
  sz := 1
  rep _ _ cs x := cs = [.int k (.ofNat x)] ∧ x < modK k
  len := fun ⟨e, _⟩ => by rw [e]; rfl
  cell := fun ⟨e, _⟩ => by rw [e]; exact all_cell rfl all_cell0
  up := fun _ e => e
def rN (k : IntKind) : Rep Nat where
  sz := 1
  rep _ _ cs x := cs = [.int k (.ofNat x)] ∧ x < 9223372036854775808
  len := fun ⟨e, _⟩ => by rw [e]; rfl
  cell := fun ⟨e, _⟩ => by rw [e]; exact all_cell rfl all_cell0
  up := fun _ e => e
def rZ (k : IntKind) : Rep Int where
  sz := 1
  rep _ _ cs x := cs = [.int k x]
  len := fun e => by rw [e]; rfl
  cell := fun e => by rw [e]; exact all_cell rfl all_cell0
  up := fun _ e => e
def rN0 (k : IntKind) : Rep Nat where
  sz := 1
  rep _ _ cs x := cs = [.int k (.ofNat x)]
  len := fun e => by rw [e]; rfl
  cell := fun e => by rw [e]; exact all_cell rfl all_cell0
  up := fun _ e => e
def rB : Rep Bool where
  sz := 1
  rep _ _ cs x := cs = [.bool x]
  len := fun e => by rw [e]; rfl
  cell := fun e => by rw [e]; exact all_cell rfl all_cell0
  up := fun _ e => e
def rS : Rep (List Nat) where
  sz := 1
  rep _ _ cs x := cs = [.str x]
  len := fun e => by rw [e]; rfl
  cell := fun e => by rw [e]; exact all_cell rfl all_cell0
  up := fun _ e => e
def rY : Rep (List Nat) where
  sz := 1
  rep G h cs x := ∃ v, cs = [v] ∧ BIn G h v x
  len := fun ⟨v, e, _⟩ => by rw [e]; rfl
  cell := fun ⟨v, e, p⟩ => by rw [e]; exact all_cell p.cell all_cell0
  up := fun u ⟨v, e, p⟩ => ⟨v, e, p.up u⟩
def rP {α β : Type} (a : Rep α) (b : Rep β) : Rep (α × β) where
  sz := a.sz + b.sz
  rep G h cs x := ∃ c d, cs = c ++ d ∧ a.rep G h c x.1 ∧ b.rep G h d x.2
  len := fun ⟨c, d, e, p, q⟩ => by rw [e, List.length_append, a.len p, b.len q]
  cell := fun ⟨c, d, e, p, q⟩ => by
    rw [e]; intro x hx
    rcases List.mem_append.1 hx with hx | hx
    · exact a.cell p x hx
    · exact b.cell q x hx
  up := fun u ⟨c, d, e, p, q⟩ => ⟨c, d, e, a.up u p, b.up u q⟩
def Rows {α : Type} (a : Rep α) (G : Nat → Prop) (h : Hp) : List AV → List α → Prop
  | L, [] => L = []
  | L, x :: xs => ∃ c M, L = c ++ M ∧ a.rep G h c x ∧ Rows a G h M xs
theorem Rows.len {α : Type} {a : Rep α} {G : Nat → Prop} {h : Hp} : ∀ {xs : List α} {L : List AV}, Rows a G h L xs → L.length = xs.length * a.sz
  | [], L, e => by rw [show L = [] from e]; simp
  | x :: xs, L, ⟨c, M, e, p, q⟩ => by rw [e, List.length_append, a.len p, Rows.len q, List.length_cons, Nat.succ_mul]; omega
theorem Rows.cell {α : Type} {a : Rep α} {G : Nat → Prop} {h : Hp} : ∀ {xs : List α} {L : List AV}, Rows a G h L xs → ∀ c ∈ L, isCell c = true
  | [], L, e => by rw [show L = [] from e]; exact all_cell0
  | x :: xs, L, ⟨c, M, e, p, q⟩ => by
    rw [e]; intro y hy
    rcases List.mem_append.1 hy with hy | hy
    · exact a.cell p y hy
    · exact Rows.cell q y hy
theorem Rows.up {α : Type} {a : Rep α} {G G' : Nat → Prop} {h h' : Hp} (u : Up G h G' h') : ∀ {xs : List α} {L : List AV}, Rows a G h L xs → Rows a G' h' L xs
  | [], L, e => e
  | x :: xs, L, ⟨c, M, e, p, q⟩ => ⟨c, M, e, a.up u p, Rows.up u q⟩
theorem Rows.append {α : Type} {a : Rep α} {G : Nat → Prop} {h : Hp} : ∀ {xs ys : List α} {L M : List AV}, Rows a G h L xs → Rows a G h M ys → Rows a G h (L ++ M) (xs ++ ys)
  | [], ys, L, M, e, q => by rw [show L = [] from e]; exact q
  | x :: xs, ys, L, M, ⟨c, N, e, p, q⟩, r => ⟨c, N ++ M, by rw [e, List.append_assoc], p, Rows.append q r⟩
theorem Rows.one {α : Type} {a : Rep α} {G : Nat → Prop} {h : Hp} {x : α} {c : List AV} (p : a.rep G h c x) : Rows a G h c [x] := ⟨c, [], (List.append_nil c).symm, p, rfl⟩
theorem Rows.snoc {α : Type} {a : Rep α} {G : Nat → Prop} {h : Hp} {xs : List α} {L c : List AV} {x : α} (r : Rows a G h L xs) (p : a.rep G h c x) : Rows a G h (L ++ c) (xs ++ [x]) := r.append (.one p)
theorem Rows.get {α : Type} [Inhabited α] {a : Rep α} {G : Nat → Prop} {h : Hp} : ∀ {xs : List α} {L : List AV} {k : Nat}, Rows a G h L xs → k < xs.length → a.rep G h ((L.drop (k * a.sz)).take a.sz) (xs.getD k default)
  | [], L, k, _, hk => absurd hk (Nat.not_lt_zero _)
  | x :: xs, L, 0, ⟨c, M, e, p, q⟩, hk => by
    rw [Nat.zero_mul, List.drop_zero, e, List.take_append_of_le_length (by rw [a.len p]; exact Nat.le_refl _), List.take_of_length_le (by rw [a.len p]; exact Nat.le_refl _)]
    exact p
  | x :: xs, L, k + 1, ⟨c, M, e, p, q⟩, hk => by
    have hd : L.drop ((k + 1) * a.sz) = M.drop (k * a.sz) := by
      rw [e, List.drop_append, List.drop_of_length_le (by rw [a.len p, Nat.succ_mul]; omega), List.nil_append, a.len p]
      congr 1; rw [Nat.succ_mul]; omega
    rw [hd]
    exact Rows.get q (by simpa using hk)
inductive SIn {α : Type} (a : Rep α) (G : Nat → Prop) (h : Hp) : AV → List α → Prop
  | nil : SIn a G h .nilSlice []
  | sl {b o c : Nat} {ex : Bool} {cs : List AV} {m : Nat} {w : Own} {xs : List α} (hG : G b) (hg : hget h b = some (.cells cs m w)) (hcl : cs.length = m) (hm : o + xs.length * a.sz ≤ m) (hc : xs.length ≤ c)
      (hr : Rows a G h ((cs.drop o).take (xs.length * a.sz)) xs) : SIn a G h (.slice b o xs.length c a.sz ex) xs
theorem SIn.up {α : Type} {a : Rep α} {G G' : Nat → Prop} {h h' : Hp} {v : AV} {xs : List α} (u : Up G h G' h') (P : SIn a G h v xs) : SIn a G' h' v xs := by
  cases P with
  | nil => exact .nil
  | sl hG hg hcl hm hc hr => exact .sl (u _ hG).1 ((u _ hG).2.trans hg) hcl hm hc (hr.up u)
theorem SIn.cell {α : Type} {a : Rep α} {G : Nat → Prop} {h : Hp} {v : AV} {xs : List α} (P : SIn a G h v xs) : isCell v = true := by cases P <;> rfl
theorem SIn.cells {α : Type} {a : Rep α} {G : Nat → Prop} {h : Hp} {v : AV} {xs : List α} (P : SIn a G h v xs) : cellsOf v = [v] := by cases P <;> rfl
theorem SIn.same {α : Type} {a : Rep α} {G : Nat → Prop} {h : Hp} {v : AV} {xs : List α} (P : SIn a G h v xs) : avEq v v = true := by
  cases P with
  | nil => rfl
  | sl => exact avEq_slice ..
def rL {α : Type} (a : Rep α) : Rep (List α) where
  sz := 1
  rep G h cs x := ∃ v, cs = [v] ∧ SIn a G h v x
  len := fun ⟨v, e, _⟩ => by rw [e]; rfl
  cell := fun ⟨v, e, p⟩ => by rw [e]; exact all_cell p.cell all_cell0
  up := fun u ⟨v, e, p⟩ => ⟨v, e, p.up u⟩
theorem sin_len {α : Type} {a : Rep α} {G : Nat → Prop} {h : Hp} {v : AV} {xs : List α} (P : SIn a G h v xs) : evQ (.lenL (.const v)) .lf H0 = .ok (.int .i64 (.ofNat xs.length)) := by cases P <;> rfl
theorem sin_idx {α : Type} {a : Rep α} {G : Nat → Prop} {h : Hp} {v : AV} {xs : List α} (P : SIn a G h v xs) {k : Nat} (hk : k < xs.length) : evQ (.idxAddrSl a.sz (.const v) (.const (.int .i64 (.ofNat k)))) .lf H0 = .ok (elemP v k a.sz) := by
  cases P with
  | nil => exact absurd hk (Nat.not_lt_zero _)
  | sl hG hg hcl hm hc hr => exact q_idx hk
noncomputable def elemO (v : AV) (k sz off : Nat) : AV := v.asSlice .nilPtr .nilPtr fun b o _ _ _ _ => .ptr b (o + k * sz + off)
theorem elemO_same (v : AV) (k sz off : Nat) : avEq (elemO v k sz off) (elemO v k sz off) = true := by
  cases v <;> first | rfl | exact avEq_ptr _ _
def RowAt (G : Nat → Prop) (h : Hp) (v : AV) (k sz : Nat) (cs : List AV) : Prop :=
  ∃ b o n c ex L m w, v = .slice b o n c sz ex ∧ G b ∧ hget h b = some (.cells L m w) ∧ L.length = m ∧ o + k * sz + sz ≤ m ∧ (L.drop (o + k * sz)).take sz = cs
theorem sin_row {α : Type} [Inhabited α] {a : Rep α} {G : Nat → Prop} {h : Hp} {v : AV} {xs : List α} (P : SIn a G h v xs) {k : Nat} (hk : k < xs.length) : ∃ cs, a.rep G h cs (xs.getD k default) ∧ RowAt G h v k a.sz cs := by
  cases P with
  | nil => exact absurd hk (Nat.not_lt_zero _)
  | @sl b o c ex cs m w xs hG hg hcl hm hc hr =>
    refine ⟨_, hr.get hk, b, o, _, c, ex, cs, m, w, rfl, hG, hg, hcl, ?_, ?_⟩
    · have := Nat.mul_le_mul_right a.sz (show k + 1 ≤ xs.length from hk)
      rw [Nat.succ_mul] at this; omega
    · have h1 := Nat.mul_le_mul_right a.sz (show k + 1 ≤ xs.length from hk)
      rw [Nat.succ_mul] at h1
      rw [List.drop_take, List.take_take, List.drop_drop]
      congr 1; omega
theorem row_addr {G : Nat → Prop} {h : Hp} {v : AV} {k sz off : Nat} {cs : List AV} (R : RowAt G h v k sz cs) : evQ (.fieldAddr off (.const (elemP v k sz))) .lf H0 = .ok (elemO v k sz off) := by
  obtain ⟨b, o, n, c, ex, L, m, w, rfl, _⟩ := R; rfl
theorem row_elem {G : Nat → Prop} {h : Hp} {v : AV} {k sz : Nat} {cs : List AV} (R : RowAt G h v k sz cs) : elemP v k sz = elemO v k sz 0 := by
  obtain ⟨b, o, n, c, ex, L, m, w, rfl, _⟩ := R; rfl
theorem row_loadO {os : List AObj} {h : Hp} (S : Sep os h) {i : Nat} {G : Nat → Prop} {h0 : Hp} (hi : os[i]? = some (Frz G h0)) {v : AV} {k sz off : Nat} {cs : List AV} (R : RowAt G h0 v k sz cs) {x : AV} (hx : cs[off]? = some x) : evQ (.loadS (.const (elemO v k sz off))) .lf h = .ok x := by
  obtain ⟨b, o, n, c, ex, L, m, w, rfl, hG, hg, hl, hm, rfl⟩ := R
  refine q_load ((S.frozen hi hG).2.trans hg) ?_
  have hlt : off < sz := by
    have := (List.getElem?_eq_some_iff.1 hx).1
    rw [List.length_take] at this; omega
  rw [List.getElem?_take_of_lt hlt, List.getElem?_drop] at hx
  exact hx
theorem row_loadAO {os : List AObj} {h : Hp} (S : Sep os h) {i : Nat} {G : Nat → Prop} {h0 : Hp} (hi : os[i]? = some (Frz G h0)) {v : AV} {k sz off n : Nat} {cs : List AV} (R : RowAt G h0 v k sz cs) (hn : off + n ≤ cs.length) : evQ (.loadA n (.const (elemO v k sz off))) .lf h = .ok (.agg ((cs.drop off).take n)) := by
  obtain ⟨b, o, n', c, ex, L, m, w, rfl, hG, hg, hl, hm, rfl⟩ := R
  show rdN h b (o + k * sz + off) n OV.no (fun l => .ok (.agg l)) = _
  rw [List.length_take, List.length_drop] at hn
  rw [rdN_of ((S.frozen hi hG).2.trans hg) (by omega) hl, List.drop_take, List.take_take, List.drop_drop, Nat.min_eq_left (by omega)]
theorem row_loadA {os : List AObj} {h : Hp} (S : Sep os h) {i : Nat} {G : Nat → Prop} {h0 : Hp} (hi : os[i]? = some (Frz G h0)) {v : AV} {k sz n : Nat} {cs : List AV} (R : RowAt G h0 v k sz cs) (hn : n ≤ cs.length) : evQ (.loadA n (.const (elemP v k sz))) .lf h = .ok (.agg (cs.take n)) := by
  rw [row_elem R, row_loadAO S hi R (by omega), List.drop_zero]
theorem own_freezeR {α : Type} {a : Rep α} {os : List AObj} {h : Hp} {n : Nat} {v : AV} {L : List AV} {G1 : Nat → Prop} {h1 : Hp} {xs : List α} (S : Sep (OwnO a.sz v n L :: Frz G1 h1 :: os) h) (r : Rows a G1 h1 L xs) (hn : n = xs.length) :
    ∃ G : Nat → Prop, SIn a G h v xs ∧ Up G1 h1 G h ∧ Sep (Frz G h :: os) h := by
  obtain ⟨G, o, _, S'⟩ := S.freeze (i := 0) rfl
  have S' : Sep (Frz G h :: Frz G1 h1 :: os) h := S'
  refine ⟨_, ?_, S'.up2, S'.merge⟩
  subst hn
  have hr := r.up S'.up2
  have o : OwnI a.sz h G v xs.length L := o
  generalize hxs : xs.length = n at o
  cases o with
  | nil =>
    obtain rfl := List.length_eq_zero_iff.1 hxs
    exact .nil
  | @sl b n c ex w Lc L hG hg hl hn hL hw =>
    subst hxs
    have := Nat.mul_le_mul_right a.sz hn
    exact .sl (.inl hG) hg hl (by omega) hn (by rw [List.drop_zero, hL]; exact hr)
theorem own_rows_nil {α : Type} (a : Rep α) (G : Nat → Prop) (h : Hp) : Rows a G h [] [] := rfl
theorem own_bin {os : List AObj} {h : Hp} (S : Sep os h) {i n : Nat} {v : AV} {l : List Nat} (hi : os[i]? = some (OwnO 1 v n (u8s l))) (hb : ∀ x ∈ l, x < 256) : BIn (Low h) h v l := BIn.of (own_bytes S hi hb)
end Eng
end
section
set_option linter.unusedVariables false
set_option linter.unusedSimpArgs false
namespace Eng
open Go Go.RowKit
theorem cut_shl (a n b : Nat) (h : a * 2 ^ n < 2 ^ (b - 1)) (hb : 0 < b) : a * 2 ^ cut n b = a * 2 ^ n := by
  rw [cut_eq]
  rcases Nat.le_total n b with hn | hn
  · rw [Nat.min_eq_left hn]
  · rw [Nat.min_eq_right hn]
    cases a with
    | zero => simp
    | succ a =>
      exfalso
      have h1 : 2 ^ b ≤ 2 ^ n := Nat.pow_le_pow_right (by decide) hn
      have h2 : 2 ^ (b - 1) ≤ 2 ^ b := Nat.pow_le_pow_right (by decide) (by omega)
      have h3 : 2 ^ n ≤ (a + 1) * 2 ^ n := Nat.le_mul_of_pos_left _ (Nat.succ_pos _)
      omega
theorem wrap_i32 {n : Nat} (h : n < 2147483648) : wrapA .i32 (.ofNat n) = .ofNat n := by
  show bc (Nat.blt n 2147483648) (Int.ofNat n) _ = _
  rw [blt_dec, decide_eq_true h]; rfl
theorem i32_shl {j : IntKind} {a n : Nat} (h : a * 2 ^ n < 2147483648) : evQ (.bin .shl (.const (.int .i32 (.ofNat a))) (.const (.int j (.ofNat n)))) .lf H0 = .ok (.int .i32 (.ofNat (a * 2 ^ n))) := by
  show OV.ok (.int .i32 (wrapA .i32 (.ofNat (a * 2 ^ cut n 32)))) = _
  rw [cut_shl a n 32 h (by decide), wrap_i32 h]
theorem i32_and {a b : Nat} (ha : a < 2147483648) (hb : b < 2147483648) : evQ (.bin .and (.const (.int .i32 (.ofNat a))) (.const (.int .i32 (.ofNat b)))) .lf H0 = .ok (.int .i32 (.ofNat (a &&& b))) := by
  show OV.ok (.int .i32 (wrapA .i32 (.ofNat (Nat.land (a % 4294967296) (b % 4294967296))))) = _
  rw [Nat.mod_eq_of_lt (by omega), Nat.mod_eq_of_lt (by omega)]
  show OV.ok (.int .i32 (wrapA .i32 (.ofNat (a &&& b)))) = _
  rw [wrap_i32 (Nat.lt_of_le_of_lt Nat.and_le_left ha)]
theorem i32_or {a b : Nat} (ha : a < 2147483648) (hb : b < 2147483648) : evQ (.bin .or (.const (.int .i32 (.ofNat a))) (.const (.int .i32 (.ofNat b)))) .lf H0 = .ok (.int .i32 (.ofNat (a ||| b))) := by
  show OV.ok (.int .i32 (wrapA .i32 (.ofNat (Nat.lor (a % 4294967296) (b % 4294967296))))) = _
  rw [Nat.mod_eq_of_lt (by omega), Nat.mod_eq_of_lt (by omega)]
  show OV.ok (.int .i32 (wrapA .i32 (.ofNat (a ||| b)))) = _
  rw [wrap_i32 (Nat.or_lt_two_pow (n := 31) ha hb)]
theorem i32_conv {j : IntKind} {a : Nat} (ha : a < 2147483648) : evQ (.toInt .i32 (.const (.int j (.ofNat a)))) .lf H0 = .ok (.int .i32 (.ofNat a)) := by
  show OV.ok (.int .i32 (wrapA .i32 (.ofNat a))) = _
  rw [wrap_i32 ha]
theorem q_max {k : IntKind} (a b : Int) : evQ (.mx [.const (.int k a), .const (.int k b)]) .lf H0 = .ok (.int k (max a b)) := by
  show bc (ikEq k k) (OV.ok (.int k (maxI a b))) .no = _
  rw [ikEq_self, maxI_eq]; show OV.ok _ = _; congr 2; split <;> omega
theorem q_sliceFromK {k : IntKind} {B : Nat} {h : Hp} {v : AV} {l : List Nat} (o : Bytes B h v l) {lo : Nat} (h1 : lo ≤ l.length) :
    evQ (.sliceSl 1 (.const v) (some (.const (.int k (.ofNat lo)))) none none) .lf H0 = .ok (partS v lo l.length) := q_sliceFrom o h1
theorem q_sliceToK {k : IntKind} {B : Nat} {h : Hp} {v : AV} {l : List Nat} (o : Bytes B h v l) {hi : Nat} (h2 : hi ≤ l.length) :
    evQ (.sliceSl 1 (.const v) none (some (.const (.int k (.ofNat hi)))) none) .lf H0 = .ok (partS v 0 hi) := q_sliceTo o h2
theorem Sep.sel {os : List AObj} {h : Hp} (S : Sep os h) (is : List Nat) (hn : is.Nodup) {new : List AObj} (hnew : is.map (fun i => os[i]?) = new.map some) : Sep new h := by
  obtain ⟨g, g1, g2, g3⟩ := S
  have hl : is.length = new.length := by simpa using congrArg List.length hnew
  refine ⟨fun j k => ∃ i, is[j]? = some i ∧ g i k, fun j x hj => ?_, fun j k ⟨i, _, hk⟩ => g2 i k hk, fun j1 j2 k ⟨i1, h1, k1⟩ ⟨i2, h2, k2⟩ => ?_⟩
  · have hjl : j < is.length := by rw [hl]; exact (List.getElem?_eq_some_iff.1 hj).1
    have e1 : (is.map (fun i => os[i]?))[j]? = some (os[is[j]]?) := by rw [List.getElem?_map, List.getElem?_eq_getElem hjl]; rfl
    rw [hnew, List.getElem?_map, hj] at e1
    have e2 : os[is[j]]? = some x := (Option.some.inj e1).symm
    have : (fun k => ∃ i, is[j]? = some i ∧ g i k) = g is[j] := by
      funext k
      apply propext
      constructor
      · rintro ⟨i, hi, hk⟩
        rw [List.getElem?_eq_getElem hjl] at hi
        cases hi; exact hk
      · exact fun hk => ⟨_, List.getElem?_eq_getElem hjl, hk⟩
    show x.p h (fun k => ∃ i, is[j]? = some i ∧ g i k)
    rw [this]; exact g1 _ x e2
  · have := g3 i1 i2 k k1 k2
    subst this
    obtain ⟨a1, b1⟩ := List.getElem?_eq_some_iff.1 h1
    obtain ⟨a2, b2⟩ := List.getElem?_eq_some_iff.1 h2
    exact (List.getElem_inj hn).1 (b1.trans b2.symm)
theorem Sep.mergeX {os : List AObj} {h : Hp} {G1 G2 : Nat → Prop} {h1 h2 : Hp} (S : Sep (Frz G1 h1 :: Frz G2 h2 :: os) h) : ∃ G : Nat → Prop, Up G1 h1 G h ∧ Up G2 h2 G h ∧ Sep (Frz G h :: os) h :=
  ⟨_, S.up1, S.up2, S.merge⟩
theorem RowAt.up {G G' : Nat → Prop} {h h' : Hp} {v : AV} {k sz : Nat} {cs : List AV} (u : Up G h G' h') (R : RowAt G h v k sz cs) : RowAt G' h' v k sz cs := by
  obtain ⟨b, o, n, c, ex, L, m, w, e, hG, hg, r⟩ := R
  exact ⟨b, o, n, c, ex, L, m, w, e, (u b hG).1, ((u b hG).2).trans hg, r⟩
end Eng
end
section
set_option linter.unusedVariables false
set_option linter.unusedSimpArgs false
namespace Eng
open Go Go.RowKit
end Eng
namespace Eng
open Go Go.RowKit
end Eng
namespace Eng
open Go Go.RowKit
theorem TwinAt.now {os : List AObj} {h h0 : Hp} {v : AV} {l : List Nat} (S : Sep os h) {i : Nat} (hi : os[i]? = some (Frz (Low h0) h0)) (t : TwinAt h0 v l) : TwinAt h v l := by
  obtain ⟨b, w, e, hb, hg, hl⟩ := t
  obtain ⟨h1, h2⟩ := S.frozen hi hb
  exact ⟨b, w, e, h1, h2.trans hg, hl⟩
theorem own_mark {os : List AObj} {h : Hp} (call : CallT) (S : Sep os h) {i sz n : Nat} {v : AV} {L : List AV} (hi : os[i]? = some (OwnO sz v n L)) (hn : 0 < n) : evE (.mark (.const v)) call .lf h = .ok v h := by
  obtain ⟨G, o⟩ := own_get S hi
  cases o with
  | nil => exact absurd hn (Nat.lt_irrefl 0)
  | @sl b n c ex w Lc L hG hg hl hn' hL hw =>
    show bc (Nat.blt 0 c) (hcells h b RV.no fun _ _ w => w.peer RV.no (RV.ok (.slice b 0 n c sz ex) h) fun _ => RV.ok (.slice b 0 n c sz ex) h) RV.no = _
    rw [show Nat.blt 0 c = true from by rw [Nat.blt_eq]; omega]
    show hcells h b RV.no _ = _
    unfold hcells
    rw [hg]
    show w.peer RV.no (RV.ok (.slice b 0 n c sz ex) h) (fun _ => RV.ok (.slice b 0 n c sz ex) h) = _
    rcases hw with rfl | ⟨p, rfl, _⟩ <;> rfl
end Eng
end
section
set_option linter.unusedVariables false
set_option linter.unusedSimpArgs false
namespace Eng
open Go Go.RowKit Go.ChangeShapes Go.WideShapes
structure Piece where
  v : Value
  bl : List (Nat × Nat × (Nat → List AV))
  av : Nat → AV
def sizeAt (w : World) (c : Nat) : Nat := match w.heap[c]? with | some (.cells arr _ _) => arr.size | _ => 0
def Piece.ok (w : World) (p : Piece) : Prop := ∀ (μ : Mp) (B : Nat), (∀ (k c s : Nat) (g : Nat → List AV), p.bl[k]? = some (c, s, g) → μ.at_ (B + k) = some (c, s)) → (∀ c, μ.size c = sizeAt w c) →
  VR μ (p.av B) p.v ∧ ∀ (k c s : Nat) (g : Nat → List AV), p.bl[k]? = some (c, s, g) → ∃ arr e fr, w.heap[c]? = some (.cells arr e fr) ∧ (∀ v ∈ g B, isCell v = true) ∧ ∀ (i : Nat) (v : AV), (g B)[i]? = some v → ∃ x, arr[s + i]? = some x ∧ VR μ v x
def lay : Nat → List Piece → List (Nat × Nat × List AV)
  | _, [] => []
  | B, p :: ps => p.bl.map (fun q => (q.1, q.2.1, q.2.2 B)) ++ lay (B + p.bl.length) ps
theorem lay_at : ∀ (ps : List Piece) (B i : Nat) (p : Piece), ps[i]? = some p → ∃ D, ∀ (k c s : Nat) (g : Nat → List AV), p.bl[k]? = some (c, s, g) → (lay B ps)[D + k]? = some (c, s, g (B + D))
  | [], B, i, p, h => by simp at h
  | q :: ps, B, 0, p, h => ⟨0, fun k c s g hk => by
    obtain rfl : q = p := by simpa using h
    have hlt := (List.getElem?_eq_some_iff.1 hk).1
    rw [Nat.zero_add]
    show (q.bl.map (fun q => (q.1, q.2.1, q.2.2 B)) ++ lay (B + q.bl.length) ps)[k]? = _
    rw [List.getElem?_append_left (by simpa using hlt), List.getElem?_map, hk]; rfl⟩
  | q :: ps, B, i + 1, p, h => by
    obtain ⟨D, hD⟩ := lay_at ps (B + q.bl.length) i p (by simpa using h)
    refine ⟨q.bl.length + D, fun k c s g hk => ?_⟩
    have := hD k c s g hk
    show (q.bl.map (fun q => (q.1, q.2.1, q.2.2 B)) ++ lay (B + q.bl.length) ps)[q.bl.length + D + k]? = _
    rw [List.getElem?_append_right (by simp; omega), List.length_map, show q.bl.length + D + k - q.bl.length = D + k by omega, this, Nat.add_assoc]
theorem lay_from : ∀ (ps : List Piece) (B j : Nat) (q : Nat × Nat × List AV), (lay B ps)[j]? = some q → ∃ (i : Nat) (p : Piece) (D k c s : Nat) (g : Nat → List AV), ps[i]? = some p ∧ p.bl[k]? = some (c, s, g) ∧ D + k = j ∧ q = (c, s, g (B + D)) ∧
    ∀ (k c s : Nat) (g : Nat → List AV), p.bl[k]? = some (c, s, g) → (lay B ps)[D + k]? = some (c, s, g (B + D))
  | [], B, j, q, h => by simp [lay] at h
  | p :: ps, B, j, q, h => by
    have h : (p.bl.map (fun q => (q.1, q.2.1, q.2.2 B)) ++ lay (B + p.bl.length) ps)[j]? = some q := h
    by_cases hj : j < p.bl.length
    · rw [List.getElem?_append_left (by simpa using hj), List.getElem?_map, List.getElem?_eq_getElem hj] at h
      simp only [Option.map_some, Option.some.injEq] at h
      refine ⟨0, p, 0, j, _, _, _, rfl, List.getElem?_eq_getElem hj, by omega, h.symm, fun k c s g hk => ?_⟩
      have hlt := (List.getElem?_eq_some_iff.1 hk).1
      rw [Nat.zero_add]
      show (p.bl.map (fun q => (q.1, q.2.1, q.2.2 B)) ++ lay (B + p.bl.length) ps)[k]? = _
      rw [List.getElem?_append_left (by simpa using hlt), List.getElem?_map, hk]; rfl
    · rw [List.getElem?_append_right (by simp; omega), List.length_map] at h
      obtain ⟨i, p', D, k, c, s, g, h1, h2, h3, h4, h5⟩ := lay_from ps (B + p.bl.length) (j - p.bl.length) q h
      refine ⟨i + 1, p', p.bl.length + D, k, c, s, g, by simpa using h1, h2, by omega, by rw [h4, Nat.add_assoc], fun k c s g hk => ?_⟩
      have := h5 k c s g hk
      show (p.bl.map (fun q => (q.1, q.2.1, q.2.2 B)) ++ lay (B + p.bl.length) ps)[p.bl.length + D + k]? = _
      rw [List.getElem?_append_right (by simp; omega), List.length_map, show p.bl.length + D + k - p.bl.length = D + k by omega, this, Nat.add_assoc]
theorem start_pieces {w : World} (ps : List Piece) (hp : ∀ p ∈ ps, p.ok w) : ∃ (μ : Mp) (h : Hp), Sim μ h w ∧ (∀ c, μ.own c = false) ∧
    ∀ (i : Nat) (p : Piece), ps[i]? = some p → ∃ B, VR μ (p.av B) p.v ∧ ∀ (k c s : Nat) (g : Nat → List AV), p.bl[k]? = some (c, s, g) → B + k < h.next ∧ hget h (B + k) = some (.cells (g B) (g B).length .ro) := by
  let L := lay 0 ps
  let f : Nat → Nat × Nat := fun b => match L[b]? with | some q => (q.1, q.2.1) | none => (0, 0)
  let g : Nat → List AV := fun b => match L[b]? with | some q => q.2.2 | none => []
  have hfb : ∀ b q, L[b]? = some q → f b = (q.1, q.2.1) := fun b q h => by show (match L[b]? with | some q => (q.1, q.2.1) | none => (0, 0)) = _; rw [h]
  have hgb : ∀ b q, L[b]? = some q → g b = q.2.2 := fun b q h => by show (match L[b]? with | some q => q.2.2 | none => []) = _; rw [h]
  let μ := startM L.length f w
  have hat : ∀ b q, L[b]? = some q → μ.at_ b = some (q.1, q.2.1) := fun b q h => by
    show (if b < L.length then some (f b) else none) = _
    rw [if_pos (List.getElem?_eq_some_iff.1 h).1, hfb b q h]
  have hsz : ∀ c, μ.size c = sizeAt w c := fun c => rfl
  obtain ⟨h, h1, h2, h3⟩ := start_ok (n := L.length) (f := f) (g := g) (w := w) fun b hb => by
    obtain ⟨q, hq⟩ : ∃ q, L[b]? = some q := ⟨L[b], List.getElem?_eq_getElem hb⟩
    obtain ⟨i, p, D, k, c, s, gg, e1, e2, e3, e4, e5⟩ := lay_from ps 0 b q hq
    rw [Nat.zero_add] at e4 e5
    have := (hp p (List.mem_of_getElem? e1) μ D (fun k c s g hk => hat _ _ (e5 k c s g hk)) hsz).2 k c s gg e2
    rw [hfb b q hq, hgb b q hq, e4]
    exact this
  refine ⟨μ, h, h3, fun _ => rfl, fun i p hi => ?_⟩
  obtain ⟨D, hD⟩ := lay_at ps 0 i p hi
  rw [Nat.zero_add] at hD
  refine ⟨D, (hp p (List.mem_of_getElem? hi) μ D (fun k c s g hk => hat _ _ (hD k c s g hk)) hsz).1, fun k c s gg hk => ?_⟩
  have hq := hD k c s gg hk
  have hlt : D + k < L.length := (List.getElem?_eq_some_iff.1 hq).1
  refine ⟨by rw [h1]; exact hlt, ?_⟩
  rw [h2 _ hlt, hgb _ _ hq]
structure YArg where
  v : Value
  c : Nat
  s : Nat
  cap : Nat
  l : List Nat
  k : Nat
def YArg.lies (w : World) (a : YArg) : Prop := (∀ x ∈ a.l, x < 256) ∧ ((a.k = 0 ∧ a.v = .slice none 0 0 ∧ a.l = []) ∨ (a.k = 1 ∧ (∃ ad, a.v = .slice (some ad) 0 0) ∧ a.l = []) ∨
  (a.k = 2 ∧ a.v = .slice (some ⟨a.c, a.s, none⟩) a.l.length a.cap ∧ a.l.length ≤ a.cap ∧ ∃ arr e fr, w.heap[a.c]? = some (.cells arr e fr) ∧ a.s + a.cap ≤ arr.size ∧ ∀ (i : Nat) (x : Nat), a.l[i]? = some x → arr[a.s + i]? = some (.int .u8 (.ofNat x))))
def YArg.av (a : YArg) (b0 bj : Nat) : AV := if a.k = 0 then .nilSlice else if a.k = 1 then .slice b0 0 0 0 1 true else .slice bj 0 a.l.length a.cap 1 true
noncomputable def YArg.bl (a : YArg) (c0 s0 : Nat) : Nat × Nat × (Nat → List AV) := if a.k = 2 then (a.c, a.s, fun _ => u8s a.l) else (c0, s0, fun _ => [])
theorem YArg.vr {w : World} {a : YArg} (ha : a.lies w) {μ : Mp} {b0 bj c0 s0 : Nat} (h0 : μ.at_ b0 = some (c0, s0)) (hj : a.k = 2 → μ.at_ bj = some (a.c, a.s)) (hz : ∀ c, μ.size c = sizeAt w c) : VR μ (a.av b0 bj) a.v := by
  obtain ⟨_, ⟨hk, hv, _⟩ | ⟨hk, ⟨ad, hv⟩, _⟩ | ⟨hk, hv, hl, arr, e, fr, hh, hs, _⟩⟩ := ha
  · unfold YArg.av; rw [if_pos hk, hv, VR_nilSlice]
  · unfold YArg.av
    rw [if_neg (by omega), if_pos hk, hv, VR_slice]
    exact ⟨c0, s0, ad, 0, h0, rfl, Nat.le_refl _, Nat.le_refl _, fun _ => rfl, fun h => absurd rfl h⟩
  · unfold YArg.av
    rw [if_neg (by omega), if_neg (by omega), hv, VR_slice]
    refine ⟨a.c, a.s, ⟨a.c, a.s, none⟩, a.cap, hj hk, rfl, hl, Nat.le_refl _, fun _ => rfl, fun _ => ⟨rfl, ?_⟩⟩
    rw [hz]; unfold sizeAt; rw [hh]
    show a.s + 0 + a.cap * 1 ≤ arr.size
    omega
theorem YArg.cell (a : YArg) (b0 bj : Nat) : isCell (a.av b0 bj) = true := by
  unfold YArg.av
  repeat' split
  all_goals rfl
theorem YArg.bin {w : World} {a : YArg} (ha : a.lies w) {h : Hp} {b0 bj : Nat} {cs : List AV} {m : Nat} {o : Own} (h0 : b0 < h.next) (g0 : hget h b0 = some (.cells cs m o)) (hm : cs.length = m) (hj : a.k = 2 → bj < h.next ∧ hget h bj = some (.cells (u8s a.l) (u8s a.l).length .ro)) :
    BIn (fun k => k < h.next) h (a.av b0 bj) a.l := by
  obtain ⟨hb, ⟨hk, hv, hl⟩ | ⟨hk, ⟨ad, hv⟩, hl⟩ | ⟨hk, hv, hl, arr, e, fr, hh, hs, _⟩⟩ := ha
  · unfold YArg.av; rw [if_pos hk, hl]; exact BIn.nil
  · unfold YArg.av
    rw [if_neg (by omega), if_pos hk, hl]
    exact BIn.of (.sl (l := []) h0 g0 hm rfl (by simp) (by simp) (by simp))
  · unfold YArg.av
    rw [if_neg (by omega), if_neg (by omega)]
    obtain ⟨j1, j2⟩ := hj hk
    exact BIn.of (.sl j1 j2 rfl (by rw [List.drop_zero, List.take_of_length_le (by rw [u8s_length]; exact Nat.le_refl _)]) (by rw [u8s_length]; omega) hl hb)
theorem yarg_of {H : Type} {enc : TypeId × Value → H} {P : Program} {W : World} {t e : TypeId} {v : Value} {x : DataW H × List MemPlace} {fuel : Nat} (ht : P.underlying t = some (.slice e)) (he : P.underlying e = some (.int .u8)) (hc : P.cellsOf e = 1)
    (hf : DataW.trod enc P W 0 (fun _ => true) true fuel t [v] = some x) : ∃ a : YArg, a.v = v ∧ a.lies W := by
  rcases open_ints ht he hc hf with ⟨hcs, _⟩ | ⟨a, len, cap, zs, hcs, _, hl, hm, hz, hd, hcell, hwf⟩
  · obtain rfl : v = .slice none 0 0 := by simpa using hcs
    exact ⟨⟨.slice none 0 0, 0, 0, 0, [], 0⟩, rfl, by simp, .inl ⟨rfl, rfl, rfl⟩⟩
  · obtain rfl : v = .slice (some a) len cap := by simpa using hcs
    simp only [if_true] at hz
    by_cases h0 : cap = 0
    · subst h0
      obtain rfl : len = 0 := by omega
      exact ⟨⟨.slice (some a) 0 0, 0, 0, 0, [], 1⟩, rfl, by simp, .inr (.inl ⟨rfl, ⟨a, rfl⟩, rfl⟩)⟩
    · have hc0 := hcell 0 (by omega)
      obtain ⟨b, o, sp⟩ := a
      have hsp : sp = none := by
        cases sp with
        | none => rfl
        | some q =>
          exfalso
          unfold World.cell? at hc0
          split at hc0
          · have : (({ block := b, off := o, spot := some q } : Addr).add 0).spot.isSome = true := by unfold Addr.add; rw [if_pos rfl]; rfl
            rw [if_pos this] at hc0
            cases hc0
          · cases hc0
      subst hsp
      have hh : ∃ arr e' fr, W.heap[b]? = some (.cells arr e' fr) := by
        rw [addr_add] at hc0
        unfold World.cell? at hc0
        split at hc0
        · rename_i arr e' fr h; exact ⟨arr, e', fr, h⟩
        · cases hc0
      obtain ⟨arr, e', fr, hh⟩ := hh
      have hat : ∀ i, i < cap → arr[o + i]? = some (.int .u8 (zs.getD i 0)) := fun i hi => by
        have := hcell i (by omega)
        rw [addr_add] at this
        unfold World.cell? at this
        simpa [hh] using this
      have hbyte : ∀ z ∈ zs, 0 ≤ z ∧ z < 256 := fun z hz' => by
        have h := hwf z hz'
        have h1 : IntKind.u8.min = 0 := rfl
        have h2 : IntKind.u8.max = 255 := rfl
        simp only [Lit.wf, Bool.and_eq_true, decide_eq_true_eq] at h
        omega
      have hlen : ((zs.take len).map Int.toNat).length = len := by simp; omega
      refine ⟨⟨.slice (some ⟨b, o, none⟩) len cap, b, o, cap, (zs.take len).map Int.toNat, 2⟩, rfl, ?_, .inr (.inr ⟨rfl, by rw [hlen], by rw [hlen]; exact hl, arr, e', fr, hh, ?_, fun i x hx => ?_⟩)⟩
      · intro x hx
        obtain ⟨z, hz', rfl⟩ := List.mem_map.1 hx
        have := hbyte z (List.mem_of_mem_take hz')
        omega
      · have := hat (cap - 1) (by omega)
        have := (Array.getElem?_eq_some_iff.1 this).1
        show o + cap ≤ arr.size
        omega
      · have hx : ((zs.take len).map Int.toNat)[i]? = some x := hx
        have hi : i < len := by have := (List.getElem?_eq_some_iff.1 hx).1; omega
        rw [List.getElem?_map, List.getElem?_take_of_lt hi] at hx
        show arr[o + i]? = some (.int .u8 (.ofNat x))
        rw [hat i (by omega), List.getD_eq_getElem?_getD]
        cases hz' : zs[i]? with
        | none => rw [hz'] at hx; cases hx
        | some z =>
          rw [hz'] at hx
          cases hx
          have := hbyte z (List.mem_of_getElem? hz')
          simp only [Option.getD_some]
          rw [show (Int.ofNat z.toNat) = z by simp; omega]
structure EArg where
  ns : List Int
  y : YArg
def numsV (ks : List IntKind) (ns : List Int) : List Value := List.zipWith (fun k n => .int k n) ks ns
def numsA (ks : List IntKind) (ns : List Int) : List AV := List.zipWith (fun k n => .int k n) ks ns
def EArg.lies (w : World) (ks : List IntKind) (e : EArg) : Prop := e.ns.length = ks.length ∧ (∀ (i : Nat) (k : IntKind) (n : Int), ks[i]? = some k → e.ns[i]? = some n → (Lit.int k n).wf = true) ∧ e.y.lies w
def EArg.cells (ks : List IntKind) (e : EArg) : List Value := numsV ks e.ns ++ [e.y.v]
theorem nums_len {ks : List IntKind} {ns : List Int} (h : ns.length = ks.length) : (numsA ks ns).length = ks.length := by unfold numsA; rw [List.length_zipWith]; omega
theorem nums_VRs {μ : Mp} : ∀ (ks : List IntKind) (ns : List Int), VRs μ (numsA ks ns) (numsV ks ns)
  | [], ns => by show VRs μ [] _; rw [VRs_nil]; rfl
  | k :: ks, [] => by show VRs μ [] _; rw [VRs_nil]; rfl
  | k :: ks, n :: ns => by
    show VRs μ (.int k n :: numsA ks ns) (.int k n :: numsV ks ns)
    rw [VRs_cons]
    exact ⟨_, _, rfl, by rw [VR_int], nums_VRs ks ns⟩
theorem nums_cell : ∀ (ks : List IntKind) (ns : List Int), ∀ v ∈ numsA ks ns, isCell v = true
  | [], ns => fun v hv => by cases hv
  | k :: ks, [] => fun v hv => by cases hv
  | k :: ks, n :: ns => fun v hv => by
    rcases List.mem_cons.1 hv with rfl | hv
    · rfl
    · exact nums_cell ks ns v hv
def EArg.av (ks : List IntKind) (e : EArg) (b0 bj : Nat) : List AV := numsA ks e.ns ++ [e.y.av b0 bj]
def rowsAV (ks : List IntKind) (B : Nat) : Nat → List EArg → List AV
  | _, [] => []
  | j, e :: es => e.av ks B (B + 1 + j) ++ rowsAV ks B (j + 1) es
theorem rows_at {w : World} {μ : Mp} {ks : List IntKind} {B c0 s0 : Nat} {arr : Array Value} (hB : μ.at_ B = some (c0, s0)) (hz : ∀ c, μ.size c = sizeAt w c) : ∀ (es : List EArg) (j o : Nat), (∀ e ∈ es, e.lies w ks) →
    (∀ (m : Nat) (e : EArg), es[m]? = some e → e.y.k = 2 → μ.at_ (B + 1 + (j + m)) = some (e.y.c, e.y.s)) →
    (∀ (m : Nat) (e : EArg), es[m]? = some e → ∀ (q : Nat) (x : Value), (e.cells ks)[q]? = some x → arr[o + m * (ks.length + 1) + q]? = some x) →
    ∀ (i : Nat) (v : AV), (rowsAV ks B j es)[i]? = some v → ∃ x, arr[o + i]? = some x ∧ VR μ v x
  | [], j, o, hl, hj, ha, i, v, h => by simp [rowsAV] at h
  | e :: es, j, o, hl, hj, ha, i, v, h => by
    have he := hl e (by simp)
    have hlen : (e.av ks B (B + 1 + j)).length = ks.length + 1 := by unfold EArg.av; rw [List.length_append, nums_len he.1]; rfl
    have hv : VRs μ (e.av ks B (B + 1 + j)) (e.cells ks) := (nums_VRs ks e.ns).append (by
      rw [VRs_cons]
      exact ⟨_, _, rfl, YArg.vr he.2.2 hB (fun hk => by have := hj 0 e rfl hk; rwa [Nat.add_zero] at this) hz, by rw [VRs_nil]⟩)
    have h : (e.av ks B (B + 1 + j) ++ rowsAV ks B (j + 1) es)[i]? = some v := h
    by_cases hi : i < ks.length + 1
    · rw [List.getElem?_append_left (by omega)] at h
      obtain ⟨x, hx, rx⟩ := hv.get i v h
      exact ⟨x, by have := ha 0 e rfl i x hx; rwa [Nat.zero_mul, Nat.add_zero] at this, rx⟩
    · rw [List.getElem?_append_right (by omega), hlen] at h
      obtain ⟨x, hx, rx⟩ := rows_at hB hz es (j + 1) (o + (ks.length + 1)) (fun e h => hl e (by simp [h])) (fun m e' hm hk => by
          have := hj (m + 1) e' (by simpa using hm) hk
          rwa [show j + (m + 1) = j + 1 + m by omega] at this)
        (fun m e' hm q x hq => by
          have := ha (m + 1) e' (by simpa using hm) q x hq
          rwa [Nat.succ_mul, show o + (m * (ks.length + 1) + (ks.length + 1)) + q = o + (ks.length + 1) + m * (ks.length + 1) + q by omega] at this) _ _ h
      exact ⟨x, by rw [← hx]; congr 1; omega, rx⟩
theorem rows_cell {ks : List IntKind} {B : Nat} : ∀ (es : List EArg) (j : Nat), ∀ v ∈ rowsAV ks B j es, isCell v = true
  | [], j => fun v hv => by cases hv
  | e :: es, j => fun v hv => by
    rcases List.mem_append.1 (show v ∈ e.av ks B (B + 1 + j) ++ rowsAV ks B (j + 1) es from hv) with hv | hv
    · rcases List.mem_append.1 hv with hv | hv
      · exact nums_cell _ _ v hv
      · rw [List.mem_singleton.1 hv]; exact YArg.cell _ _ _
    · exact rows_cell es (j + 1) v hv
theorem rows_len {w : World} {ks : List IntKind} {B : Nat} : ∀ (es : List EArg) (j : Nat), (∀ e ∈ es, e.lies w ks) → (rowsAV ks B j es).length = es.length * (ks.length + 1)
  | [], j, h => by simp [rowsAV]
  | e :: es, j, h => by
    show (e.av ks B (B + 1 + j) ++ rowsAV ks B (j + 1) es).length = _
    rw [List.length_append, rows_len es (j + 1) (fun e h' => h e (by simp [h']))]
    have h1 : (e :: es).length * (ks.length + 1) = es.length * (ks.length + 1) + (ks.length + 1) := by rw [List.length_cons, Nat.succ_mul]
    have h2 : (e.av ks B (B + 1 + j)).length = ks.length + 1 := by unfold EArg.av; rw [List.length_append, nums_len (h e (by simp)).1]; rfl
    omega
structure SArg where
  v : Value
  c : Nat
  s : Nat
  cap : Nat
  es : List EArg
  nil : Bool
def SArg.lies (w : World) (ks : List IntKind) (a : SArg) : Prop := (∀ e ∈ a.es, e.lies w ks) ∧ ((a.nil = true ∧ a.v = .slice none 0 0 ∧ a.es = []) ∨
  (a.nil = false ∧ a.v = .slice (some ⟨a.c, a.s, none⟩) a.es.length a.cap ∧ a.es.length ≤ a.cap ∧ ∃ arr e fr, w.heap[a.c]? = some (.cells arr e fr) ∧ (a.cap ≠ 0 → a.s + a.cap * (ks.length + 1) ≤ arr.size) ∧
    ∀ (m : Nat) (e : EArg), a.es[m]? = some e → ∀ (q : Nat) (x : Value), (e.cells ks)[q]? = some x → arr[a.s + m * (ks.length + 1) + q]? = some x))
noncomputable def SArg.piece (ks : List IntKind) (a : SArg) : Piece := if a.nil = true then ⟨a.v, [], fun _ => .nilSlice⟩ else
  ⟨a.v, (a.c, a.s, fun B => rowsAV ks B 0 a.es) :: a.es.map (fun e => e.y.bl a.c a.s), fun B => .slice B 0 a.es.length a.cap (ks.length + 1) true⟩
theorem SArg.ok {w : World} {ks : List IntKind} {a : SArg} (ha : a.lies w ks) : (a.piece ks).ok w := by
  obtain ⟨hl, ⟨h1, h2, h3⟩ | ⟨h1, h2, h3, arr, el, fr, hh, hs, hc⟩⟩ := ha
  · intro μ B _ _
    unfold SArg.piece
    rw [if_pos h1]
    refine ⟨?_, fun k c s g hk => by simp at hk⟩
    show VR μ .nilSlice a.v
    rw [h2, VR_nilSlice]
  · intro μ B hat hz
    unfold SArg.piece at hat ⊢
    rw [if_neg (by rw [h1]; decide)] at hat ⊢
    have hB : μ.at_ B = some (a.c, a.s) := hat 0 _ _ _ rfl
    have hat1 : ∀ (m : Nat) (e : EArg), a.es[m]? = some e → e.y.k = 2 → μ.at_ (B + 1 + (0 + m)) = some (e.y.c, e.y.s) := fun m e hm hk => by
      have := hat (m + 1) e.y.c e.y.s (fun _ => u8s e.y.l) (by
        show (a.es.map (fun e => e.y.bl a.c a.s))[m]? = _
        rw [List.getElem?_map, hm]
        show some (e.y.bl a.c a.s) = _
        unfold YArg.bl; rw [if_pos hk])
      rwa [show B + (m + 1) = B + 1 + (0 + m) by omega] at this
    refine ⟨?_, fun k c s g hk => ?_⟩
    · show VR μ (.slice B 0 a.es.length a.cap (ks.length + 1) true) a.v
      rw [h2, VR_slice]
      refine ⟨a.c, a.s, ⟨a.c, a.s, none⟩, a.cap, hB, rfl, h3, Nat.le_refl _, fun _ => rfl, fun h0 => ⟨rfl, ?_⟩⟩
      rw [hz]; unfold sizeAt; rw [hh]
      exact hs h0
    · cases k with
      | zero =>
        cases hk
        exact ⟨arr, el, fr, hh, rows_cell _ _, rows_at hB hz a.es 0 a.s hl hat1 hc⟩
      | succ m =>
        have hk : (a.es.map (fun e => e.y.bl a.c a.s))[m]? = some (c, s, g) := hk
        rw [List.getElem?_map] at hk
        cases hm : a.es[m]? with
        | none => rw [hm] at hk; cases hk
        | some e =>
          rw [hm] at hk
          have hk : e.y.bl a.c a.s = (c, s, g) := by simpa using hk
          unfold YArg.bl at hk
          have hy := (hl e (List.mem_of_getElem? hm)).2.2
          by_cases h2 : e.y.k = 2
          · rw [if_pos h2] at hk
            cases hk
            obtain ⟨hb, ⟨k0, _⟩ | ⟨k0, _⟩ | ⟨_, _, _, arr', el', fr', hh', _, hx⟩⟩ := hy
            · omega
            · omega
            · refine ⟨arr', el', fr', hh', fun v hv => ?_, fun i v hv => ?_⟩
              · obtain ⟨i, hi⟩ := List.getElem?_of_mem hv
                obtain ⟨x, _, rfl⟩ := u8s_at hi; rfl
              · obtain ⟨x, h1, rfl⟩ := u8s_at hv
                exact ⟨_, hx i x h1, by rw [VR_int]⟩
          · rw [if_neg h2] at hk
            cases hk
            refine ⟨arr, el, fr, hh, fun v hv => ?_, fun i v hv => ?_⟩
            · cases (show v ∈ ([] : List AV) from hv)
            · cases (show ([] : List AV)[i]? = some v from hv)
theorem SArg.sin {α : Type} {w : World} {ks : List IntKind} {a : SArg} (ha : a.lies w ks) (rp : Rep α) (val : EArg → α) (hsz : rp.sz = ks.length + 1) {h : Hp} {B : Nat}
    (hg : ∀ (k c s : Nat) (g : Nat → List AV), (a.piece ks).bl[k]? = some (c, s, g) → B + k < h.next ∧ hget h (B + k) = some (.cells (g B) (g B).length .ro))
    (hrep : ∀ (e : EArg) (y : AV), e.lies w ks → BIn (Low h) h y e.y.l → rp.rep (Low h) h (numsA ks e.ns ++ [y]) (val e)) : SIn rp (Low h) h ((a.piece ks).av B) (a.es.map val) := by
  obtain ⟨hl, ⟨h1, h2, h3⟩ | ⟨h1, h2, h3, arr, el, fr, hh, hs, hc⟩⟩ := ha
  · unfold SArg.piece
    rw [if_pos h1, h3]
    exact .nil
  · unfold SArg.piece at hg ⊢
    rw [if_neg (by rw [h1]; decide)] at hg ⊢
    obtain ⟨b1, b2⟩ := hg 0 _ _ _ rfl
    rw [Nat.add_zero] at b1 b2
    have hy : ∀ (m : Nat) (e : EArg), a.es[m]? = some e → e.y.k = 2 → B + 1 + (0 + m) < h.next ∧ hget h (B + 1 + (0 + m)) = some (.cells (u8s e.y.l) (u8s e.y.l).length .ro) := fun m e hm hk => by
      have := hg (m + 1) e.y.c e.y.s (fun _ => u8s e.y.l) (by
        show (a.es.map (fun e => e.y.bl a.c a.s))[m]? = _
        rw [List.getElem?_map, hm]
        show some (e.y.bl a.c a.s) = _
        unfold YArg.bl; rw [if_pos hk])
      rwa [show B + (m + 1) = B + 1 + (0 + m) by omega] at this
    have rows : ∀ (es : List EArg) (j : Nat), (∀ e ∈ es, e.lies w ks) → (∀ (m : Nat) (e : EArg), es[m]? = some e → e.y.k = 2 → B + 1 + (j + m) < h.next ∧ hget h (B + 1 + (j + m)) = some (.cells (u8s e.y.l) (u8s e.y.l).length .ro)) →
        Rows rp (Low h) h (rowsAV ks B j es) (es.map val) := by
      intro es
      induction es with
      | nil => intro j _ _; rfl
      | cons e es ih =>
        intro j hl hj
        have he := hl e (by simp)
        refine ⟨e.av ks B (B + 1 + j), rowsAV ks B (j + 1) es, rfl, hrep e _ he (YArg.bin he.2.2 b1 b2 rfl fun hk => by have := hj 0 e rfl hk; rwa [Nat.add_zero] at this), ?_⟩
        refine ih (j + 1) (fun e h => hl e (by simp [h])) fun m e' hm hk => ?_
        have := hj (m + 1) e' (by simpa using hm) hk
        rwa [show j + (m + 1) = j + 1 + m by omega] at this
    have R := rows a.es 0 hl hy
    have hlen := rows_len (B := B) a.es 0 hl
    have key : SIn rp (Low h) h (.slice B 0 (a.es.map val).length a.cap rp.sz true) (a.es.map val) := by
      refine .sl b1 b2 rfl ?_ (by rw [List.length_map]; exact h3) ?_
      · rw [hlen, List.length_map, hsz]; omega
      · rw [List.drop_zero, List.take_of_length_le (by rw [hlen, List.length_map, hsz]; exact Nat.le_refl _)]
        exact R
    rw [List.length_map, hsz] at key
    exact key
theorem get_take1 {α : Type} {l : List α} {i : Nat} {x : α} (h : (l.drop i).take 1 = [x]) : l[i]? = some x := by
  have := congrArg (fun m => m[0]?) h
  simp only [List.getElem?_take_of_lt (Nat.zero_lt_one), List.getElem?_drop, Nat.add_zero] at this
  simpa using this
structure SForm (P : Program) (e : TypeId) (ks : List IntKind) : Prop where
  fs : ∃ fs : Array Field, P.underlying e = some (.struct fs) ∧ (∀ (i : Nat) (k : IntKind), ks[i]? = some k → ∃ f, fs[i]? = some f ∧ f.offset = i ∧ P.cellsOf f.type = 1 ∧ P.underlying f.type = some (.int k)) ∧
    ∃ f u, fs[ks.length]? = some f ∧ f.offset = ks.length ∧ P.cellsOf f.type = 1 ∧ P.underlying f.type = some (.slice u) ∧ P.underlying u = some (.int .u8) ∧ P.cellsOf u = 1
  sz : P.cellsOf e = ks.length + 1
theorem earg_of {H : Type} {enc : TypeId × Value → H} {P : Program} {W : World} {e : TypeId} {ks : List IntKind} (F : SForm P e ks) {cs : List Value} {x : DataW H × List MemPlace} {fuel : Nat}
    (h : DataW.trod enc P W 0 (fun _ => true) true fuel e cs = some x) : ∃ a : EArg, a.cells ks = cs ∧ a.lies W ks := by
  obtain ⟨fs, ht, hf, f, u, l1, l2, l3, l4, l5, l6⟩ := F.fs
  obtain ⟨xs, n, _, _, hl, hxs, hgo⟩ := DataW.trod_struct ht h
  rw [F.sz] at hl
  have each : ∀ (i : Nat) (k : IntKind), ks[i]? = some k → ∃ m : Int, cs[i]? = some (.int k m) ∧ (Lit.int k m).wf = true := fun i k hk => by
    obtain ⟨f, f1, f2, f3, f4⟩ := hf i k hk
    have := hgo i f f1
    have hx : ∃ y, xs[i]? = some y := by
      have : i < xs.length := by rw [hxs]; exact (Array.getElem?_eq_some_iff.1 f1).1
      exact ⟨_, List.getElem?_eq_getElem this⟩
    obtain ⟨y, hy⟩ := hx
    rw [f2, f3, hy] at this
    obtain ⟨m, e1, _, e3⟩ := DataW.trod_int f4 this
    exact ⟨m, get_take1 e1, e3⟩
  have nums : ∀ (j : Nat) (ks' : List IntKind), ks.drop j = ks' → ∃ ns : List Int, ns.length = ks'.length ∧ (∀ (i : Nat) (k : IntKind) (n : Int), ks'[i]? = some k → ns[i]? = some n → cs[j + i]? = some (.int k n) ∧ (Lit.int k n).wf = true) := by
    intro j ks'
    induction ks' generalizing j with
    | nil => intro _; exact ⟨[], rfl, fun i k n h => by simp at h⟩
    | cons k ks' ih =>
      intro hd
      have hk : ks[j]? = some k := by
        have := congrArg (fun m => m[0]?) hd
        simpa [List.getElem?_drop] using this
      have hd2 : ks.drop (j + 1) = ks' := by rw [← List.drop_drop, hd]; rfl
      obtain ⟨ns, n1, n2⟩ := ih (j + 1) hd2
      obtain ⟨m, m1, m2⟩ := each j k hk
      refine ⟨m :: ns, by simp [n1], fun i k' n hk' hn => ?_⟩
      cases i with
      | zero =>
        simp at hk' hn
        subst hk'; subst hn
        exact ⟨by rw [Nat.add_zero]; exact m1, m2⟩
      | succ i =>
        have := n2 i k' n (by simpa using hk') (by simpa using hn)
        rwa [show j + 1 + i = j + (i + 1) by omega] at this
  obtain ⟨ns, n1, n2⟩ := nums 0 ks rfl
  have hy : ∃ y : YArg, cs[ks.length]? = some y.v ∧ y.lies W := by
    have := hgo _ f l1
    have hx : ∃ y, xs[ks.length]? = some y := by
      have : ks.length < xs.length := by rw [hxs]; exact (Array.getElem?_eq_some_iff.1 l1).1
      exact ⟨_, List.getElem?_eq_getElem this⟩
    obtain ⟨y, hy⟩ := hx
    rw [l2, l3, hy] at this
    have hc : ∃ v, cs[ks.length]? = some v := ⟨_, List.getElem?_eq_getElem (by omega)⟩
    obtain ⟨v, hv⟩ := hc
    have hv2 : (cs.drop ks.length).take 1 = [v] := by
      rw [List.drop_eq_getElem_cons (by omega)]
      rw [List.getElem?_eq_getElem (by omega)] at hv
      simp at hv
      simp [hv]
    rw [hv2] at this
    obtain ⟨a, a1, a2⟩ := yarg_of l4 l5 l6 this
    exact ⟨a, by rw [a1]; exact hv, a2⟩
  obtain ⟨y, y1, y2⟩ := hy
  refine ⟨⟨ns, y⟩, ?_, n1, fun i k n h1 h2 => (n2 i k n h1 h2).2, y2⟩
  unfold EArg.cells
  have hnl : (numsV ks ns).length = ks.length := by unfold numsV; rw [List.length_zipWith]; omega
  refine List.ext_getElem? fun i => ?_
  show (numsV ks ns ++ [y.v])[i]? = cs[i]?
  by_cases hi : i < ks.length
  · rw [List.getElem?_append_left (by omega)]
    have hk := List.getElem?_eq_getElem hi
    have hn := List.getElem?_eq_getElem (show i < ns.length by omega)
    have := (n2 i _ _ hk hn).1
    rw [Nat.zero_add] at this
    rw [this]
    unfold numsV
    rw [List.getElem?_zipWith, hk, hn]
  · by_cases hi2 : i = ks.length
    · rw [hi2, List.getElem?_append_right (by omega), hnl, Nat.sub_self, y1]; rfl
    · rw [List.getElem?_eq_none (by rw [List.length_append, hnl]; simp; omega), List.getElem?_eq_none (by omega)]
theorem sarg_of {H : Type} {enc : TypeId × Value → H} {P : Program} {W : World} {t e : TypeId} {v : Value} {d : DataW H} {p : List MemPlace} {base : Nat} {ks : List IntKind} (ht : P.underlying t = some (.slice e)) (F : SForm P e ks)
    (h0 : DataW.Trod enc P W 0 (fun _ => true) true t v d p) (hv : Value.okWide P W .any base t v) : ∃ a : SArg, a.v = v ∧ a.lies W ks ∧ a.es.length ≤ maxLen := by
  obtain ⟨a0, len, cap, rfl⟩ := okWide_slice ht hv
  obtain ⟨fuel, hf⟩ := h0
  rcases DataW.trod_slice ht hf with ⟨hcs, _⟩ | ⟨a, len', cap', elems, rest, n, _, hcs, _, hb, hl, hm, hlen, hel, hsp, _⟩
  · simp [Value.cells] at hcs
    obtain ⟨rfl, rfl, rfl⟩ := hcs
    exact ⟨⟨.slice none 0 0, 0, 0, 0, [], true⟩, rfl, ⟨by simp, .inl ⟨rfl, rfl, rfl⟩⟩, Nat.zero_le _⟩
  · simp [Value.cells] at hcs
    obtain ⟨rfl, rfl, rfl⟩ := hcs
    obtain ⟨hrl, hr⟩ := hsp rfl
    have hhas : W.has P .any base a e cap := by
      unfold Value.okWide Cell.okWide Cell.ok at hv
      rw [ht] at hv
      exact hv.2.2
    obtain ⟨_, hsp, row, cells, hsh, _⟩ := hhas
    obtain ⟨b, o, sp⟩ := a
    have hsp : sp = none := hsp
    subst hsp
    have hh : ∃ arr e' fr, W.heap[b]? = some (.cells arr e' fr) := by
      have hsh : W.shape? b = some (row, cells) := hsh
      unfold World.shape? at hsh
      split at hsh
      · rename_i c el fr h; exact ⟨c, el, fr, h⟩
      · cases hsh
    obtain ⟨arr, e', fr, hh⟩ := hh
    rw [F.sz] at hel hr
    have cellAt : ∀ (i : Nat) (cs : List Value), W.cells? 0 ((⟨b, o, none⟩ : Addr).add (i * (ks.length + 1))) (ks.length + 1) = some cs → cs.length = ks.length + 1 ∧ ∀ (q : Nat) (x : Value), cs[q]? = some x → arr[o + i * (ks.length + 1) + q]? = some x := fun i cs hc => by
      obtain ⟨_, h1, h2⟩ := World.cells?_some hc
      refine ⟨h1, fun q x hq => ?_⟩
      have hq' : q < ks.length + 1 := by have := (List.getElem?_eq_some_iff.1 hq).1; omega
      have := h2 q hq'
      rw [addr_add, addr_add, hq] at this
      unfold World.cell? at this
      simpa [hh] using this
    have hes : ∀ (j : Nat), j ≤ len → ∃ es : List EArg, es.length = j ∧ (∀ e ∈ es, e.lies W ks) ∧ ∀ (m : Nat) (e : EArg), es[m]? = some e → ∀ (q : Nat) (x : Value), (e.cells ks)[q]? = some x → arr[o + m * (ks.length + 1) + q]? = some x := by
      intro j
      induction j with
      | zero => intro _; exact ⟨[], rfl, by simp, fun m e h => by simp at h⟩
      | succ j ih =>
        intro hj
        obtain ⟨es, e1, e2, e3⟩ := ih (by omega)
        have := hel j (by omega)
        have hx : ∃ y, elems[j]? = some y := ⟨_, List.getElem?_eq_getElem (by omega)⟩
        obtain ⟨y, hy⟩ := hx
        rw [hy, Option.bind_eq_some_iff] at this
        obtain ⟨cs, c1, c2⟩ := this
        obtain ⟨c3, c4⟩ := cellAt j cs c1
        obtain ⟨a, a1, a2⟩ := earg_of F c2
        refine ⟨es ++ [a], by simp [e1], fun e he => ?_, fun m e hm q x hq => ?_⟩
        · rcases List.mem_append.1 he with he | he
          · exact e2 e he
          · rw [List.mem_singleton.1 he]; exact a2
        · by_cases hm2 : m < j
          · rw [List.getElem?_append_left (by omega)] at hm
            exact e3 m e hm q x hq
          · rw [List.getElem?_append_right (by omega)] at hm
            have : m - es.length = 0 := by have := (List.getElem?_eq_some_iff.1 hm).1; simp at this; omega
            rw [this] at hm
            obtain rfl : a = e := by simpa using hm
            obtain rfl : m = j := by omega
            rw [a1] at hq
            exact c4 q x hq
    obtain ⟨es, e1, e2, e3⟩ := hes len (Nat.le_refl _)
    refine ⟨⟨.slice (some ⟨b, o, none⟩) len cap, b, o, cap, es, false⟩, rfl, ⟨e2, .inr ⟨rfl, by rw [e1], by rw [e1]; exact hl, arr, e', fr, hh, fun h0 => ?_, e3⟩⟩, by rw [e1]; omega⟩
    have h0 : cap ≠ 0 := h0
    have last : ∃ cs, W.cells? 0 ((⟨b, o, none⟩ : Addr).add ((cap - 1) * (ks.length + 1))) (ks.length + 1) = some cs := by
      by_cases hc : cap - 1 < len
      · have := hel (cap - 1) hc
        rw [List.getElem?_eq_getElem (by omega), Option.bind_eq_some_iff] at this
        obtain ⟨cs, c1, _⟩ := this
        exact ⟨cs, c1⟩
      · have := hr (cap - 1 - len) (by omega)
        rw [List.getElem?_eq_getElem (by omega), Option.bind_eq_some_iff, show len + (cap - 1 - len) = cap - 1 by omega] at this
        obtain ⟨cs, c1, _⟩ := this
        exact ⟨cs, c1⟩
    obtain ⟨cs, c1⟩ := last
    obtain ⟨c3, c4⟩ := cellAt _ cs c1
    have := c4 ks.length _ (List.getElem?_eq_getElem (by omega))
    have := (Array.getElem?_eq_some_iff.1 this).1
    have hmul : cap * (ks.length + 1) = (cap - 1) * (ks.length + 1) + (ks.length + 1) := by
      rw [← Nat.succ_mul]; congr 1; omega
    show o + cap * (ks.length + 1) ≤ arr.size
    omega
end Eng
end
section
set_option linter.unusedVariables false
set_option linter.unusedSimpArgs false
namespace Eng
open Go
def digU : Nat → Nat → List Nat
  | 0, v => [v % 128]
  | n + 1, v => (v % 128 ||| 128) :: digU n (v / 128)
def digS : Nat → Int → List Nat
  | 0, w => [(w % 128).toNat]
  | n + 1, w => ((w % 128).toNat ||| 128) :: digS n (w / 128)
end Eng
namespace Eng
open Go
end Eng
namespace Eng
open Go
end Eng
namespace Eng
open Go
end Eng
namespace Eng
open Go
def stepL (l : List Nat) (e : Nat) : List Nat := l.set (l.length - 1) (l.getD (l.length - 1) 0 ||| 128) ++ [e]
def longerL (e : Nat) : Nat → List Nat → List Nat
  | 0, l => l
  | k + 1, l => longerL e k (stepL l e)
def LongerS (call : CallT) (f : Nat) : Prop := ∀ {B : Nat} {h : Hp} {vb : AV} {l : List Nat} {k e : Nat}, B ≤ h.next → Bytes B h vb l → 1 ≤ l.length → l.length ≤ 100 → k ≤ 7 → e < 256 →
  ∃ rv rh, call f [vb, .int .i64 (.ofNat k), .int .u8 (.ofNat e)] h = .ok rv rh ∧ Owned 1 B rh rv (l.length + k) (u8s (longerL e k l)) ∧ Old B h rh ∧ B ≤ rh.next
end Eng
namespace Eng
open Go
theorem nil_lt : ∀ x ∈ ([] : List Nat), x < 256 := by simp
end Eng
namespace Eng
open Go
end Eng
namespace Eng
open Go
def placeN (c : Int) (n : Nat) : Nat := (c % (n : Int)).toNat
def PlaceS (call : CallT) (f : Nat) : Prop := ∀ (c : Int) (n : Nat) (h : Hp), -9223372036854775808 ≤ c ∧ c < 9223372036854775808 → 1 ≤ n → n < 4611686018427387904 → call f [.int .i64 c, .int .i64 (.ofNat n)] h = .ok (.int .i64 (.ofNat (placeN c n))) h
end Eng
end
section
set_option linter.unusedVariables false
namespace Go.Proofs.Ytejiebbbodealaa
open Go Eng
theorem last_walk {call : CallT} {N : Nat} {h : Hp} {x left : Nat} {sg : Bool} (hx : x < 256) (h1 : 1 ≤ left) (h2 : left ≤ 64)
    : ∃ rv rh, evF1 (progS Try.prog (compDrawn Try.prog)) N call 75 [(vb8 x), (vi left), (AV.bool sg)] h = .ok rv rh ∧ (fun (v : AV) (h' : Hp) => h' = h ∧ v = .bool (lastB x left sg)) rv rh := by
  refine fwalk_ok (o := (.tell 2 (vb8 (x &&& 128)) (.fork 0 .fin (.fork 1 (.tell 2 (vb8 (x / 2 ^ left)) .fin) (.tell 2 (vi (left - 1)) (.tell 0 (vb8 (x / 2 ^ (left - 1))) (.fork 3 .fin (.tell 2 (vi (left - 1)) (.tell 0 (vb8 (127 / 2 ^ (left - 1))) .fin))))))))) (p := (evQ (.bin .and (.const (vb8 x)) (.const (vb8 128))) .lf H0 = .ok (vb8 (x &&& 128)) ∧ ((notB (eqI (Int.ofNat (x &&& 128)) (Int.ofNat 0)) = true → (fun (v : AV) (h' : Hp) => h' = h ∧ v = .bool (lastB x left sg)) (AV.bool false) h) ∧ (notB (eqI (Int.ofNat (x &&& 128)) (Int.ofNat 0)) = false → ((notB sg = true → (evQ (.bin .shr (.const (vb8 x)) (.const (vi left))) .lf H0 = .ok (vb8 (x / 2 ^ left)) ∧ (fun (v : AV) (h' : Hp) => h' = h ∧ v = .bool (lastB x left sg)) (AV.bool (eqI (Int.ofNat (x / 2 ^ left)) (Int.ofNat 0))) h)) ∧ (notB sg = false → (evQ (.bin .sub (.const (vi left)) (.const (vi 1))) .lf H0 = .ok (vi (left - 1)) ∧ (evQ (.bin .shr (.const (vb8 x)) (.const (vi (left - 1)))) .lf H0 = .ok (vb8 (x / 2 ^ (left - 1))) ∧ ((eqI (Int.ofNat (x / 2 ^ (left - 1))) (Int.ofNat 0) = true → (fun (v : AV) (h' : Hp) => h' = h ∧ v = .bool (lastB x left sg)) (AV.bool true) h) ∧ (eqI (Int.ofNat (x / 2 ^ (left - 1))) (Int.ofNat 0) = false → (evQ (.bin .sub (.const (vi left)) (.const (vi 1))) .lf H0 = .ok (vi (left - 1)) ∧ (evQ (.bin .shr (.const (vb8 127)) (.const (vi (left - 1)))) .lf H0 = .ok (vb8 (127 / 2 ^ (left - 1))) ∧ (fun (v : AV) (h' : Hp) => h' = h ∧ v = .bool (lastB x left sg)) (AV.bool (eqI (Int.ofNat (x / 2 ^ (left - 1))) (Int.ofNat (127 / 2 ^ (left - 1))))) h)))))))))))) (by kernel_rfl) ?_
  refine ⟨u_and rfl hx (by decide), ?_⟩
  have g1 : x &&& 128 < 256 := Nat.lt_of_le_of_lt Nat.and_le_left hx
  refine ⟨fun c2 => ?_, fun c2 => ?_⟩
  · have rc2 := c2
    replace c2 : x &&& 128 ≠ 0 := eqI_f (notB_t c2)
    refine ⟨rfl, congrArg AV.bool ?_⟩
    try simp only [eqI_nat]
    first | (simp_all [lastB]; done) | (simp_all [lastB]; omega)
  · have rc2 := c2
    replace c2 : x &&& 128 = 0 := eqI_t (notB_f c2)
    refine ⟨fun c3 => ?_, fun c3 => ?_⟩
    · have rc3 := c3
      replace c3 : sg = false := notB_t c3
      refine ⟨u_shr rfl hx, ?_⟩
      have g4 : x / 2 ^ left < 256 := Nat.lt_of_le_of_lt (Nat.div_le_self _ _) hx
      refine ⟨rfl, congrArg AV.bool ?_⟩
      try simp only [eqI_nat]
      first | (simp_all [lastB]; done) | (simp_all [lastB]; omega)
    · have rc3 := c3
      replace c3 : sg = true := notB_f c3
      refine ⟨q_sub (by omega) (by omega), ?_⟩
      refine ⟨u_shr rfl hx, ?_⟩
      have g4 : x / 2 ^ (left - 1) < 256 := Nat.lt_of_le_of_lt (Nat.div_le_self _ _) hx
      refine ⟨fun c5 => ?_, fun c5 => ?_⟩
      · have rc5 := c5
        replace c5 : x / 2 ^ (left - 1) = 0 := eqI_t c5
        refine ⟨rfl, congrArg AV.bool ?_⟩
        try simp only [eqI_nat]
        first | (simp_all [lastB]; done) | (simp_all [lastB]; omega)
      · have rc5 := c5
        replace c5 : x / 2 ^ (left - 1) ≠ 0 := eqI_f c5
        refine ⟨q_sub (by omega) (by omega), ?_⟩
        refine ⟨u_shr rfl (by decide), ?_⟩
        have g6 : 127 / 2 ^ (left - 1) < 256 := Nat.lt_of_le_of_lt (Nat.div_le_self _ _) (by decide)
        refine ⟨rfl, congrArg AV.bool ?_⟩
        try simp only [eqI_nat]
        first | (simp_all [lastB]; done) | (simp_all [lastB]; omega)
noncomputable def readC : AC := (.seq (.block 1 (.seq (.seq (.region [⟨(some 14), .q (.move (.tmp 7)), none⟩, ⟨(some 15), .q (.move (.tmp 0)), none⟩, ⟨(some 16), .q (.lenL (.tmp 15)), none⟩, ⟨(some 17), .q (.eq .int false (.tmp 14) (.tmp 16)), none⟩]) (.cond (.tmp 17) (.seq (.region [⟨(some 6), .q (.move (.const (vq 0))), none⟩, ⟨(some 7), .q (.move (.const (vi 0))), none⟩, ⟨(some 8), .q (.move (.const (vi 3))), none⟩]) .ret) .skip)) (.seq (.region [⟨(some 18), .q (.move (.tmp 0)), none⟩, ⟨(some 19), .q (.move (.tmp 7)), none⟩, ⟨(some 20), .q (.idxAddrSl 1 (.tmp 18) (.tmp 19)), none⟩, ⟨(some 21), .q (.loadS (.tmp 20)), none⟩, ⟨(some 10), .q (.move (.tmp 21)), none⟩]) (.seq (.region [⟨(some 22), .q (.move (.tmp 7)), none⟩, ⟨(some 23), .q (.bin .add (.tmp 22) (.const (vi 1))), none⟩, ⟨(some 7), .q (.move (.tmp 23)), none⟩]) (.seq (.seq (.region [⟨(some 24), .q (.move (.tmp 1)), none⟩, ⟨(some 25), .q (.move (.tmp 9)), none⟩, ⟨(some 26), .q (.bin .sub (.tmp 24) (.tmp 25)), none⟩, ⟨(some 11), .q (.move (.tmp 26)), none⟩]) (.seq (.region [⟨(some 27), .q (.move (.tmp 11)), none⟩, ⟨(some 28), .q (.bin .leq (.tmp 27) (.const (vi 7))), none⟩, ⟨(some 29), .q (.move (.tmp 28)), none⟩, ⟨(some 30), .q (.move (.tmp 10)), (some (29, true))⟩, ⟨(some 31), .q (.move (.tmp 11)), (some (29, true))⟩, ⟨(some 32), .q (.move (.tmp 2)), (some (29, true))⟩, ⟨(some 33), .e (.call (.const (AV.func (.func 75) [] [])) [(.tmp 30), (.tmp 31), (.tmp 32)]), (some (29, true))⟩, ⟨(some 34), .q (.un .not (.tmp 33)), (some (29, true))⟩, ⟨(some 35), .q (.pick (.tmp 29) (.tmp 34) (.const (AV.bool false))), none⟩]) (.cond (.tmp 35) (.seq (.region [⟨(some 6), .q (.move (.const (vq 0))), none⟩, ⟨(some 7), .q (.move (.const (vi 0))), none⟩, ⟨(some 8), .q (.move (.const (vi 2))), none⟩]) .ret) .skip))) (.seq (.region [⟨(some 36), .q (.move (.tmp 6)), none⟩, ⟨(some 37), .q (.move (.tmp 10)), none⟩, ⟨(some 38), .q (.bin .and (.tmp 37) (.const (vb8 127))), none⟩, ⟨(some 39), .q (.toInt .u64 (.tmp 38)), none⟩, ⟨(some 40), .q (.move (.tmp 9)), none⟩, ⟨(some 41), .q (.bin .shl (.tmp 39) (.tmp 40)), none⟩, ⟨(some 42), .q (.bin .or (.tmp 36) (.tmp 41)), none⟩, ⟨(some 6), .q (.move (.tmp 42)), none⟩]) (.seq (.seq (.region [⟨(some 43), .q (.move (.tmp 10)), none⟩, ⟨(some 44), .q (.bin .and (.tmp 43) (.const (vb8 128))), none⟩, ⟨(some 45), .q (.eq .int true (.tmp 44) (.const (vb8 0))), none⟩]) (.cond (.tmp 45) (.exit 1) .skip)) (.seq (.seq (.region [⟨(some 46), .q (.move (.tmp 2)), none⟩, ⟨(some 47), .q (.move (.tmp 46)), none⟩, ⟨(some 48), .q (.move (.tmp 10)), (some (47, true))⟩, ⟨(some 49), .q (.bin .and (.tmp 48) (.const (vb8 64))), (some (47, true))⟩, ⟨(some 50), .q (.eq .int true (.tmp 49) (.const (vb8 0))), (some (47, true))⟩, ⟨(some 51), .q (.pick (.tmp 47) (.tmp 50) (.const (AV.bool false))), none⟩, ⟨(some 52), .q (.move (.tmp 51)), none⟩, ⟨(some 53), .q (.move (.tmp 9)), (some (52, true))⟩, ⟨(some 54), .q (.bin .add (.tmp 53) (.const (vi 7))), (some (52, true))⟩, ⟨(some 55), .q (.bin .lss (.tmp 54) (.const (vi 64))), (some (52, true))⟩, ⟨(some 56), .q (.pick (.tmp 52) (.tmp 55) (.const (AV.bool false))), none⟩]) (.cond (.tmp 56) (.region [⟨(some 57), .q (.move (.tmp 6)), none⟩, ⟨(some 58), .q (.move (.tmp 9)), none⟩, ⟨(some 59), .q (.bin .add (.tmp 58) (.const (vi 7))), none⟩, ⟨(some 60), .q (.bin .shl (.const (vq 18446744073709551615)) (.tmp 59)), none⟩, ⟨(some 61), .q (.bin .or (.tmp 57) (.tmp 60)), none⟩, ⟨(some 6), .q (.move (.tmp 61)), none⟩]) .skip)) (.seq (.region [⟨(some 62), .q (.move (.tmp 6)), none⟩, ⟨(some 63), .q (.move (.tmp 7)), none⟩, ⟨(some 6), .q (.move (.tmp 62)), none⟩, ⟨(some 7), .q (.move (.tmp 63)), none⟩, ⟨(some 8), .q (.move (.const (vi 0))), none⟩]) .ret))))))))) (.region [⟨(some 12), .q (.move (.tmp 9)), none⟩, ⟨(some 13), .q (.bin .add (.tmp 12) (.const (vi 7))), none⟩, ⟨(some 9), .q (.move (.tmp 13)), none⟩]))
theorem read_body {call : CallT} {N : Nat} {t : T} {h : Hp} {B : Nat} {vb : AV} {sg : Bool} {l : List Nat} (hb : Bytes B h vb l) (hk2 : l.length < 9223372036854775000) {size v k a : Nat} (hv : v < 18446744073709551616) (hat : a < size) (hs : size ≤ 64) (hk : k ≤ l.length) (hlast : ∀ x left s h, x < 256 → 1 ≤ left → left ≤ 64 → call 75 [.int .u8 (.ofNat x), .int .i64 (.ofNat left), .bool s] h = .ok (.bool (lastB x left s)) h)
    {Kn : List (Option AV) → Hp → Prop} {Ke : Nat → List (Option AV) → Hp → Prop} {Kr : List (Option AV) → Hp → Prop}
    (k0 : k = l.length → Kr [some vb, some (vi size), some (AV.bool sg), some (vq 0), some (vi 0), some (vi a), some (vi 3)] h)
    (k1 : k ≠ l.length → size - a ≤ 7 → lastB (l.getD k 0) (size - a) sg = false → Kr [some vb, some (vi size), some (AV.bool sg), some (vq 0), some (vi 0), some (vi a), some (vi 2)] h)
    (k2 : k ≠ l.length → size - a ≤ 7 → lastB (l.getD k 0) (size - a) sg = true → (l.getD k 0) &&& 128 ≠ 0 → Kn [some vb, some (vi size), some (AV.bool sg), some (vq (v ||| (((l.getD k 0) &&& 127) * 2 ^ a % 18446744073709551616))), some (vi (k + 1)), some (vi (a + 7)), some (vi 0)] h)
    (k3 : k ≠ l.length → size - a ≤ 7 → lastB (l.getD k 0) (size - a) sg = true → (l.getD k 0) &&& 128 = 0 → sg = true → (l.getD k 0) &&& 64 ≠ 0 → a + 7 < 64 → Kr [some vb, some (vi size), some (AV.bool sg), some (vq ((v ||| (((l.getD k 0) &&& 127) * 2 ^ a % 18446744073709551616)) ||| (18446744073709551615 * 2 ^ (a + 7) % 18446744073709551616))), some (vi (k + 1)), some (vi a), some (vi 0)] h)
    (k4 : k ≠ l.length → size - a ≤ 7 → lastB (l.getD k 0) (size - a) sg = true → (l.getD k 0) &&& 128 = 0 → sg = true → (l.getD k 0) &&& 64 ≠ 0 → 64 ≤ a + 7 → Kr [some vb, some (vi size), some (AV.bool sg), some (vq (v ||| (((l.getD k 0) &&& 127) * 2 ^ a % 18446744073709551616))), some (vi (k + 1)), some (vi a), some (vi 0)] h)
    (k5 : k ≠ l.length → size - a ≤ 7 → lastB (l.getD k 0) (size - a) sg = true → (l.getD k 0) &&& 128 = 0 → sg = true → (l.getD k 0) &&& 64 = 0 → Kr [some vb, some (vi size), some (AV.bool sg), some (vq (v ||| (((l.getD k 0) &&& 127) * 2 ^ a % 18446744073709551616))), some (vi (k + 1)), some (vi a), some (vi 0)] h)
    (k6 : k ≠ l.length → size - a ≤ 7 → lastB (l.getD k 0) (size - a) sg = true → (l.getD k 0) &&& 128 = 0 → sg = false → Kr [some vb, some (vi size), some (AV.bool sg), some (vq (v ||| (((l.getD k 0) &&& 127) * 2 ^ a % 18446744073709551616))), some (vi (k + 1)), some (vi a), some (vi 0)] h)
    (k7 : k ≠ l.length → 7 < size - a → (l.getD k 0) &&& 128 ≠ 0 → Kn [some vb, some (vi size), some (AV.bool sg), some (vq (v ||| (((l.getD k 0) &&& 127) * 2 ^ a % 18446744073709551616))), some (vi (k + 1)), some (vi (a + 7)), some (vi 0)] h)
    (k8 : k ≠ l.length → 7 < size - a → (l.getD k 0) &&& 128 = 0 → sg = true → (l.getD k 0) &&& 64 ≠ 0 → a + 7 < 64 → Kr [some vb, some (vi size), some (AV.bool sg), some (vq ((v ||| (((l.getD k 0) &&& 127) * 2 ^ a % 18446744073709551616)) ||| (18446744073709551615 * 2 ^ (a + 7) % 18446744073709551616))), some (vi (k + 1)), some (vi a), some (vi 0)] h)
    (k9 : k ≠ l.length → 7 < size - a → (l.getD k 0) &&& 128 = 0 → sg = true → (l.getD k 0) &&& 64 ≠ 0 → 64 ≤ a + 7 → Kr [some vb, some (vi size), some (AV.bool sg), some (vq (v ||| (((l.getD k 0) &&& 127) * 2 ^ a % 18446744073709551616))), some (vi (k + 1)), some (vi a), some (vi 0)] h)
    (k10 : k ≠ l.length → 7 < size - a → (l.getD k 0) &&& 128 = 0 → sg = true → (l.getD k 0) &&& 64 = 0 → Kr [some vb, some (vi size), some (AV.bool sg), some (vq (v ||| (((l.getD k 0) &&& 127) * 2 ^ a % 18446744073709551616))), some (vi (k + 1)), some (vi a), some (vi 0)] h)
    (k11 : k ≠ l.length → 7 < size - a → (l.getD k 0) &&& 128 = 0 → sg = false → Kr [some vb, some (vi size), some (AV.bool sg), some (vq (v ||| (((l.getD k 0) &&& 127) * 2 ^ a % 18446744073709551616))), some (vi (k + 1)), some (vi a), some (vi 0)] h)
    : ∃ s, evC call N readC (ovT [(0, vb), (1, (vi size)), (2, (AV.bool sg)), (6, (vq v)), (7, (vi k)), (9, (vi a)), (8, (vi 0))] t) h = s ∧ obsS [0, 1, 2, 6, 7, 9, 8] Kn Ke Kr s := by
  refine walk_ok (o := (.tell 2 (vi l.length) (.fork 0 .fin (.tell 2 (elemP vb k 1) (.tell 0 (vb8 (l.getD k 0)) (.tell 2 (vi (k + 1)) (.tell 3 (vi (size - a)) (.fork 3 (.eff 3 (AV.bool (lastB (l.getD k 0) (size - a) sg)) h (.fork 1 .fin (.tell 2 (vb8 ((l.getD k 0) &&& 127)) (.tell 0 (vq ((l.getD k 0) &&& 127)) (.tell 1 (vq (((l.getD k 0) &&& 127) * 2 ^ a % 18446744073709551616)) (.tell 0 (vq (v ||| (((l.getD k 0) &&& 127) * 2 ^ a % 18446744073709551616))) (.tell 2 (vb8 ((l.getD k 0) &&& 128)) (.fork 0 (.tell 1 (vi (a + 7)) .fin) (.fork 1 (.tell 1 (vb8 ((l.getD k 0) &&& 64)) (.fork 2 (.tell 1 (vi (a + 7)) (.fork 1 (.tell 2 (vi (a + 7)) (.tell 0 (vq (18446744073709551615 * 2 ^ (a + 7) % 18446744073709551616)) (.tell 0 (vq ((v ||| (((l.getD k 0) &&& 127) * 2 ^ a % 18446744073709551616)) ||| (18446744073709551615 * 2 ^ (a + 7) % 18446744073709551616))) .fin))) .fin)) .fin)) .fin))))))))) (.tell 3 (vb8 ((l.getD k 0) &&& 127)) (.tell 0 (vq ((l.getD k 0) &&& 127)) (.tell 1 (vq (((l.getD k 0) &&& 127) * 2 ^ a % 18446744073709551616)) (.tell 0 (vq (v ||| (((l.getD k 0) &&& 127) * 2 ^ a % 18446744073709551616))) (.tell 2 (vb8 ((l.getD k 0) &&& 128)) (.fork 0 (.tell 1 (vi (a + 7)) .fin) (.fork 1 (.tell 1 (vb8 ((l.getD k 0) &&& 64)) (.fork 2 (.tell 1 (vi (a + 7)) (.fork 1 (.tell 2 (vi (a + 7)) (.tell 0 (vq (18446744073709551615 * 2 ^ (a + 7) % 18446744073709551616)) (.tell 0 (vq ((v ||| (((l.getD k 0) &&& 127) * 2 ^ a % 18446744073709551616)) ||| (18446744073709551615 * 2 ^ (a + 7) % 18446744073709551616))) .fin))) .fin)) .fin)) .fin))))))))))))))) (p := (evQ (.lenL (.const vb)) .lf H0 = .ok (vi l.length) ∧ ((eqI (Int.ofNat k) (Int.ofNat l.length) = true → Kr [some vb, some (vi size), some (AV.bool sg), some (vq 0), some (vi 0), some (vi a), some (vi 3)] h) ∧ (eqI (Int.ofNat k) (Int.ofNat l.length) = false → (evQ (.idxAddrSl 1 (.const vb) (.const (vi k))) .lf H0 = .ok (elemP vb k 1) ∧ (evQ (.loadS (.const (elemP vb k 1))) .lf h = .ok (vb8 (l.getD k 0)) ∧ (evQ (.bin .add (.const (vi k)) (.const (vi 1))) .lf H0 = .ok (vi (k + 1)) ∧ (evQ (.bin .sub (.const (vi size)) (.const (vi a))) .lf H0 = .ok (vi (size - a)) ∧ ((notB (ltI (Int.ofNat 7) (Int.ofNat (size - a))) = true → (call 75 [(vb8 (l.getD k 0)), (vi (size - a)), (AV.bool sg)] h = .ok (AV.bool (lastB (l.getD k 0) (size - a) sg)) h ∧ ((notB (lastB (l.getD k 0) (size - a) sg) = true → Kr [some vb, some (vi size), some (AV.bool sg), some (vq 0), some (vi 0), some (vi a), some (vi 2)] h) ∧ (notB (lastB (l.getD k 0) (size - a) sg) = false → (evQ (.bin .and (.const (vb8 (l.getD k 0))) (.const (vb8 127))) .lf H0 = .ok (vb8 ((l.getD k 0) &&& 127)) ∧ (evQ (.toInt .u64 (.const (vb8 ((l.getD k 0) &&& 127)))) .lf H0 = .ok (vq ((l.getD k 0) &&& 127)) ∧ (evQ (.bin .shl (.const (vq ((l.getD k 0) &&& 127))) (.const (vi a))) .lf H0 = .ok (vq (((l.getD k 0) &&& 127) * 2 ^ a % 18446744073709551616)) ∧ (evQ (.bin .or (.const (vq v)) (.const (vq (((l.getD k 0) &&& 127) * 2 ^ a % 18446744073709551616)))) .lf H0 = .ok (vq (v ||| (((l.getD k 0) &&& 127) * 2 ^ a % 18446744073709551616))) ∧ (evQ (.bin .and (.const (vb8 (l.getD k 0))) (.const (vb8 128))) .lf H0 = .ok (vb8 ((l.getD k 0) &&& 128)) ∧ ((notB (eqI (Int.ofNat ((l.getD k 0) &&& 128)) (Int.ofNat 0)) = true → (evQ (.bin .add (.const (vi a)) (.const (vi 7))) .lf H0 = .ok (vi (a + 7)) ∧ Kn [some vb, some (vi size), some (AV.bool sg), some (vq (v ||| (((l.getD k 0) &&& 127) * 2 ^ a % 18446744073709551616))), some (vi (k + 1)), some (vi (a + 7)), some (vi 0)] h)) ∧ (notB (eqI (Int.ofNat ((l.getD k 0) &&& 128)) (Int.ofNat 0)) = false → ((sg = true → (evQ (.bin .and (.const (vb8 (l.getD k 0))) (.const (vb8 64))) .lf H0 = .ok (vb8 ((l.getD k 0) &&& 64)) ∧ ((notB (eqI (Int.ofNat ((l.getD k 0) &&& 64)) (Int.ofNat 0)) = true → (evQ (.bin .add (.const (vi a)) (.const (vi 7))) .lf H0 = .ok (vi (a + 7)) ∧ ((ltI (Int.ofNat (a + 7)) (Int.ofNat 64) = true → (evQ (.bin .add (.const (vi a)) (.const (vi 7))) .lf H0 = .ok (vi (a + 7)) ∧ (evQ (.bin .shl (.const (vq 18446744073709551615)) (.const (vi (a + 7)))) .lf H0 = .ok (vq (18446744073709551615 * 2 ^ (a + 7) % 18446744073709551616)) ∧ (evQ (.bin .or (.const (vq (v ||| (((l.getD k 0) &&& 127) * 2 ^ a % 18446744073709551616)))) (.const (vq (18446744073709551615 * 2 ^ (a + 7) % 18446744073709551616)))) .lf H0 = .ok (vq ((v ||| (((l.getD k 0) &&& 127) * 2 ^ a % 18446744073709551616)) ||| (18446744073709551615 * 2 ^ (a + 7) % 18446744073709551616))) ∧ Kr [some vb, some (vi size), some (AV.bool sg), some (vq ((v ||| (((l.getD k 0) &&& 127) * 2 ^ a % 18446744073709551616)) ||| (18446744073709551615 * 2 ^ (a + 7) % 18446744073709551616))), some (vi (k + 1)), some (vi a), some (vi 0)] h)))) ∧ (ltI (Int.ofNat (a + 7)) (Int.ofNat 64) = false → Kr [some vb, some (vi size), some (AV.bool sg), some (vq (v ||| (((l.getD k 0) &&& 127) * 2 ^ a % 18446744073709551616))), some (vi (k + 1)), some (vi a), some (vi 0)] h)))) ∧ (notB (eqI (Int.ofNat ((l.getD k 0) &&& 64)) (Int.ofNat 0)) = false → Kr [some vb, some (vi size), some (AV.bool sg), some (vq (v ||| (((l.getD k 0) &&& 127) * 2 ^ a % 18446744073709551616))), some (vi (k + 1)), some (vi a), some (vi 0)] h)))) ∧ (sg = false → Kr [some vb, some (vi size), some (AV.bool sg), some (vq (v ||| (((l.getD k 0) &&& 127) * 2 ^ a % 18446744073709551616))), some (vi (k + 1)), some (vi a), some (vi 0)] h))))))))))))) ∧ (notB (ltI (Int.ofNat 7) (Int.ofNat (size - a))) = false → (evQ (.bin .and (.const (vb8 (l.getD k 0))) (.const (vb8 127))) .lf H0 = .ok (vb8 ((l.getD k 0) &&& 127)) ∧ (evQ (.toInt .u64 (.const (vb8 ((l.getD k 0) &&& 127)))) .lf H0 = .ok (vq ((l.getD k 0) &&& 127)) ∧ (evQ (.bin .shl (.const (vq ((l.getD k 0) &&& 127))) (.const (vi a))) .lf H0 = .ok (vq (((l.getD k 0) &&& 127) * 2 ^ a % 18446744073709551616)) ∧ (evQ (.bin .or (.const (vq v)) (.const (vq (((l.getD k 0) &&& 127) * 2 ^ a % 18446744073709551616)))) .lf H0 = .ok (vq (v ||| (((l.getD k 0) &&& 127) * 2 ^ a % 18446744073709551616))) ∧ (evQ (.bin .and (.const (vb8 (l.getD k 0))) (.const (vb8 128))) .lf H0 = .ok (vb8 ((l.getD k 0) &&& 128)) ∧ ((notB (eqI (Int.ofNat ((l.getD k 0) &&& 128)) (Int.ofNat 0)) = true → (evQ (.bin .add (.const (vi a)) (.const (vi 7))) .lf H0 = .ok (vi (a + 7)) ∧ Kn [some vb, some (vi size), some (AV.bool sg), some (vq (v ||| (((l.getD k 0) &&& 127) * 2 ^ a % 18446744073709551616))), some (vi (k + 1)), some (vi (a + 7)), some (vi 0)] h)) ∧ (notB (eqI (Int.ofNat ((l.getD k 0) &&& 128)) (Int.ofNat 0)) = false → ((sg = true → (evQ (.bin .and (.const (vb8 (l.getD k 0))) (.const (vb8 64))) .lf H0 = .ok (vb8 ((l.getD k 0) &&& 64)) ∧ ((notB (eqI (Int.ofNat ((l.getD k 0) &&& 64)) (Int.ofNat 0)) = true → (evQ (.bin .add (.const (vi a)) (.const (vi 7))) .lf H0 = .ok (vi (a + 7)) ∧ ((ltI (Int.ofNat (a + 7)) (Int.ofNat 64) = true → (evQ (.bin .add (.const (vi a)) (.const (vi 7))) .lf H0 = .ok (vi (a + 7)) ∧ (evQ (.bin .shl (.const (vq 18446744073709551615)) (.const (vi (a + 7)))) .lf H0 = .ok (vq (18446744073709551615 * 2 ^ (a + 7) % 18446744073709551616)) ∧ (evQ (.bin .or (.const (vq (v ||| (((l.getD k 0) &&& 127) * 2 ^ a % 18446744073709551616)))) (.const (vq (18446744073709551615 * 2 ^ (a + 7) % 18446744073709551616)))) .lf H0 = .ok (vq ((v ||| (((l.getD k 0) &&& 127) * 2 ^ a % 18446744073709551616)) ||| (18446744073709551615 * 2 ^ (a + 7) % 18446744073709551616))) ∧ Kr [some vb, some (vi size), some (AV.bool sg), some (vq ((v ||| (((l.getD k 0) &&& 127) * 2 ^ a % 18446744073709551616)) ||| (18446744073709551615 * 2 ^ (a + 7) % 18446744073709551616))), some (vi (k + 1)), some (vi a), some (vi 0)] h)))) ∧ (ltI (Int.ofNat (a + 7)) (Int.ofNat 64) = false → Kr [some vb, some (vi size), some (AV.bool sg), some (vq (v ||| (((l.getD k 0) &&& 127) * 2 ^ a % 18446744073709551616))), some (vi (k + 1)), some (vi a), some (vi 0)] h)))) ∧ (notB (eqI (Int.ofNat ((l.getD k 0) &&& 64)) (Int.ofNat 0)) = false → Kr [some vb, some (vi size), some (AV.bool sg), some (vq (v ||| (((l.getD k 0) &&& 127) * 2 ^ a % 18446744073709551616))), some (vi (k + 1)), some (vi a), some (vi 0)] h)))) ∧ (sg = false → Kr [some vb, some (vi size), some (AV.bool sg), some (vq (v ||| (((l.getD k 0) &&& 127) * 2 ^ a % 18446744073709551616))), some (vi (k + 1)), some (vi a), some (vi 0)] h))))))))))))))))))) (by kernel_rfl) ?_
  refine ⟨q_len hb, ?_⟩
  refine ⟨fun c1 => ?_, fun c1 => ?_⟩
  · have rc1 := c1
    replace c1 : k = l.length := eqI_t c1
    exact k0 c1
  · have rc1 := c1
    replace c1 : k ≠ l.length := eqI_f c1
    refine ⟨q_idxB hb (by omega), ?_⟩
    refine ⟨q_byte hb (by omega), ?_⟩
    have x2 : l.getD k 0 < 256 := getD_lt hb.lt k
    refine ⟨q_add (by omega), ?_⟩
    refine ⟨q_sub (by omega) (by omega), ?_⟩
    refine ⟨fun c3 => ?_, fun c3 => ?_⟩
    · have rc3 := c3
      replace c3 : size - a ≤ 7 := ltI_f (notB_t c3)
      refine ⟨hlast _ _ _ _ x2 (by omega) (by omega), ?_⟩
      refine ⟨fun c4 => ?_, fun c4 => ?_⟩
      · have rc4 := c4
        replace c4 : lastB (l.getD k 0) (size - a) sg = false := notB_t c4
        exact k1 c1 c3 c4
      · have rc4 := c4
        replace c4 : lastB (l.getD k 0) (size - a) sg = true := notB_f c4
        refine ⟨u_and rfl x2 (by decide), ?_⟩
        have g5 : (l.getD k 0) &&& 127 < 256 := Nat.lt_of_le_of_lt Nat.and_le_left x2
        refine ⟨u_conv' rfl (Nat.lt_of_lt_of_le g5 (by decide)), ?_⟩
        have g6 : (l.getD k 0) &&& 127 < 18446744073709551616 := Nat.lt_of_lt_of_le g5 (by decide)
        refine ⟨u_shl rfl, ?_⟩
        have g7 : ((l.getD k 0) &&& 127) * 2 ^ a % 18446744073709551616 < 18446744073709551616 := Nat.mod_lt _ (by decide)
        refine ⟨u_or rfl hv g7, ?_⟩
        have g8 : v ||| (((l.getD k 0) &&& 127) * 2 ^ a % 18446744073709551616) < 18446744073709551616 := Nat.or_lt_two_pow (n := 64) hv g7
        refine ⟨u_and rfl x2 (by decide), ?_⟩
        have g9 : (l.getD k 0) &&& 128 < 256 := Nat.lt_of_le_of_lt Nat.and_le_left x2
        refine ⟨fun c10 => ?_, fun c10 => ?_⟩
        · have rc10 := c10
          replace c10 : (l.getD k 0) &&& 128 ≠ 0 := eqI_f (notB_t c10)
          refine ⟨q_add (by omega), ?_⟩
          exact k2 c1 c3 c4 c10
        · have rc10 := c10
          replace c10 : (l.getD k 0) &&& 128 = 0 := eqI_t (notB_f c10)
          refine ⟨fun c11 => ?_, fun c11 => ?_⟩
          · have rc11 := c11
            refine ⟨u_and rfl x2 (by decide), ?_⟩
            have g12 : (l.getD k 0) &&& 64 < 256 := Nat.lt_of_le_of_lt Nat.and_le_left x2
            refine ⟨fun c13 => ?_, fun c13 => ?_⟩
            · have rc13 := c13
              replace c13 : (l.getD k 0) &&& 64 ≠ 0 := eqI_f (notB_t c13)
              refine ⟨q_add (by omega), ?_⟩
              refine ⟨fun c14 => ?_, fun c14 => ?_⟩
              · have rc14 := c14
                replace c14 : a + 7 < 64 := ltI_t c14
                refine ⟨q_add (by omega), ?_⟩
                refine ⟨u_shl rfl, ?_⟩
                have g15 : 18446744073709551615 * 2 ^ (a + 7) % 18446744073709551616 < 18446744073709551616 := Nat.mod_lt _ (by decide)
                refine ⟨u_or rfl g8 g15, ?_⟩
                have g16 : (v ||| (((l.getD k 0) &&& 127) * 2 ^ a % 18446744073709551616)) ||| (18446744073709551615 * 2 ^ (a + 7) % 18446744073709551616) < 18446744073709551616 := Nat.or_lt_two_pow (n := 64) g8 g15
                exact k3 c1 c3 c4 c10 c11 c13 c14
              · have rc14 := c14
                replace c14 : 64 ≤ a + 7 := ltI_f c14
                exact k4 c1 c3 c4 c10 c11 c13 c14
            · have rc13 := c13
              replace c13 : (l.getD k 0) &&& 64 = 0 := eqI_t (notB_f c13)
              exact k5 c1 c3 c4 c10 c11 c13
          · have rc11 := c11
            exact k6 c1 c3 c4 c10 c11
    · have rc3 := c3
      replace c3 : 7 < size - a := ltI_t (notB_f c3)
      refine ⟨u_and rfl x2 (by decide), ?_⟩
      have g4 : (l.getD k 0) &&& 127 < 256 := Nat.lt_of_le_of_lt Nat.and_le_left x2
      refine ⟨u_conv' rfl (Nat.lt_of_lt_of_le g4 (by decide)), ?_⟩
      have g5 : (l.getD k 0) &&& 127 < 18446744073709551616 := Nat.lt_of_lt_of_le g4 (by decide)
      refine ⟨u_shl rfl, ?_⟩
      have g6 : ((l.getD k 0) &&& 127) * 2 ^ a % 18446744073709551616 < 18446744073709551616 := Nat.mod_lt _ (by decide)
      refine ⟨u_or rfl hv g6, ?_⟩
      have g7 : v ||| (((l.getD k 0) &&& 127) * 2 ^ a % 18446744073709551616) < 18446744073709551616 := Nat.or_lt_two_pow (n := 64) hv g6
      refine ⟨u_and rfl x2 (by decide), ?_⟩
      have g8 : (l.getD k 0) &&& 128 < 256 := Nat.lt_of_le_of_lt Nat.and_le_left x2
      refine ⟨fun c9 => ?_, fun c9 => ?_⟩
      · have rc9 := c9
        replace c9 : (l.getD k 0) &&& 128 ≠ 0 := eqI_f (notB_t c9)
        refine ⟨q_add (by omega), ?_⟩
        exact k7 c1 c3 c9
      · have rc9 := c9
        replace c9 : (l.getD k 0) &&& 128 = 0 := eqI_t (notB_f c9)
        refine ⟨fun c10 => ?_, fun c10 => ?_⟩
        · have rc10 := c10
          refine ⟨u_and rfl x2 (by decide), ?_⟩
          have g11 : (l.getD k 0) &&& 64 < 256 := Nat.lt_of_le_of_lt Nat.and_le_left x2
          refine ⟨fun c12 => ?_, fun c12 => ?_⟩
          · have rc12 := c12
            replace c12 : (l.getD k 0) &&& 64 ≠ 0 := eqI_f (notB_t c12)
            refine ⟨q_add (by omega), ?_⟩
            refine ⟨fun c13 => ?_, fun c13 => ?_⟩
            · have rc13 := c13
              replace c13 : a + 7 < 64 := ltI_t c13
              refine ⟨q_add (by omega), ?_⟩
              refine ⟨u_shl rfl, ?_⟩
              have g14 : 18446744073709551615 * 2 ^ (a + 7) % 18446744073709551616 < 18446744073709551616 := Nat.mod_lt _ (by decide)
              refine ⟨u_or rfl g7 g14, ?_⟩
              have g15 : (v ||| (((l.getD k 0) &&& 127) * 2 ^ a % 18446744073709551616)) ||| (18446744073709551615 * 2 ^ (a + 7) % 18446744073709551616) < 18446744073709551616 := Nat.or_lt_two_pow (n := 64) g7 g14
              exact k8 c1 c3 c9 c10 c12 c13
            · have rc13 := c13
              replace c13 : 64 ≤ a + 7 := ltI_f c13
              exact k9 c1 c3 c9 c10 c12 c13
          · have rc12 := c12
            replace c12 : (l.getD k 0) &&& 64 = 0 := eqI_t (notB_f c12)
            exact k10 c1 c3 c9 c10 c12
        · have rc10 := c10
          exact k11 c1 c3 c9 c10
theorem read_loop {call : CallT} {N : Nat} {t : T} {h : Hp} {B : Nat} {vb : AV} {sg : Bool} {l : List Nat} (hb : Bytes B h vb l) (hk2 : l.length < 9223372036854775000) {size : Nat} (h1 : 1 ≤ size) (hs : size ≤ 64) (hlast : ∀ x left s h, x < 256 → 1 ≤ left → left ≤ 64 → call 75 [.int .u8 (.ofNat x), .int .i64 (.ofNat left), .bool s] h = .ok (.bool (lastB x left s)) h) (hN : l.length < N)
    (h0 : slots [0, 1, 2, 6, 7, 9, 8] t = [some vb, some (vi size), some (.bool sg), some (vq 0), some (vi 0), some (vi 0), some (vi 0)]) :
    ∃ t', evC call N (.loop readC) t h = .ret t' h ∧ Has [(6, .int .u64 (.ofNat (readG size sg l 0 0 0).1)), (7, .int .i64 (.ofNat (readG size sg l 0 0 0).2.1)), (8, .int .i64 (.ofNat (readG size sg l 0 0 0).2.2))] t' := by
  refine Exists.elim (loop_ok (call := call) (N := N) (body := readC) [0, 1, 2, 6, 7, 9, 8]
    (fun n ls h' => h' = h ∧ ∃ k a v, ls = [some vb, some (vi size), some (.bool sg), some (vq v), some (vi k), some (vi a), some (vi 0)] ∧
      n = l.length - k ∧ k ≤ l.length ∧ v < 18446744073709551616 ∧ a < size ∧ readG size sg (l.drop k) a k v = readG size sg l 0 0 0)
    (fun _ _ _ => False)
    (fun ls h' => h' = h ∧ ∃ x0 x1 x2 x3, ls = [x0, x1, x2, some (vq (readG size sg l 0 0 0).1), some (vi (readG size sg l 0 0 0).2.1), x3, some (vi (readG size sg l 0 0 0).2.2)])
    ?_ (l.length - 0) (by omega) t h ⟨rfl, 0, 0, 0, h0, rfl, Nat.zero_le _, by decide, by omega, rfl⟩) ?_
  rotate_left
  · rintro s ⟨e, hs'⟩
    cases s with
    | no => exact hs'.elim
    | nor t' h' => exact hs'.elim
    | exit i t' h' => exact hs'.elim
    | ret t' h' =>
      obtain ⟨rfl, x0, x1, x2, x3, hh⟩ := hs'
      refine ⟨t', e, ?_⟩
      have hh : [tget (pathOf 0) t', tget (pathOf 1) t', tget (pathOf 2) t', tget (pathOf 6) t', tget (pathOf 7) t', tget (pathOf 9) t', tget (pathOf 8) t'] = _ := hh
      simp only [List.cons.injEq] at hh
      obtain ⟨-, -, -, g6, g7, -, g8, -⟩ := hh
      show [tget (pathOf 6) t', tget (pathOf 7) t', tget (pathOf 8) t'] = _
      rw [g6, g7, g8]; rfl
  · rintro n t h' ⟨rfl, k, a, v, hsl, rfl, hk, hv, ha, hR⟩
    have ht := ovT_eq (l := [(0, vb), (1, .int .i64 (.ofNat size)), (2, .bool sg), (6, .int .u64 (.ofNat v)), (7, .int .i64 (.ofNat k)), (9, .int .i64 (.ofNat a)), (8, .int .i64 (.ofNat 0))]) hsl
    rw [← ht]
    have hd : k ≠ l.length → l.drop k = l.getD k 0 :: l.drop (k + 1) := fun hne => drop_cons (by omega)
    have hx := getD_lt hb.lt k
    have go : ∀ v', k ≠ l.length → v' < 18446744073709551616 → a + 7 < size → readG size sg (l.drop (k + 1)) (a + 7) (k + 1) v' = readG size sg l 0 0 0 →
        ∃ m, m < l.length - k ∧ h' = h' ∧ ∃ k' a' v'', [some vb, some (vi size), some (.bool sg), some (vq v'), some (vi (k + 1)), some (vi (a + 7)), some (vi 0)] =
          [some vb, some (vi size), some (.bool sg), some (vq v''), some (vi k'), some (vi a'), some (vi 0)] ∧
          m = l.length - k' ∧ k' ≤ l.length ∧ v'' < 18446744073709551616 ∧ a' < size ∧ readG size sg (l.drop k') a' k' v'' = readG size sg l 0 0 0 :=
      fun v' hne h1 h2 h3 => ⟨l.length - (k + 1), by omega, rfl, k + 1, a + 7, v', rfl, rfl, by omega, h1, h2, h3⟩
    have fin : ∀ X Y Z : Nat, readG size sg (l.drop k) a k v = (X, Y, Z) → h' = h' ∧ ∃ x0 x1 x2 x3, [some vb, some (vi size), some (.bool sg), some (vq X), some (vi Y), some (vi a), some (vi Z)] =
        [x0, x1, x2, some (vq (readG size sg l 0 0 0).1), some (vi (readG size sg l 0 0 0).2.1), x3, some (vi (readG size sg l 0 0 0).2.2)] := by
      intro X Y Z e
      rw [hR] at e
      rw [e]
      exact ⟨rfl, _, _, _, _, rfl⟩
    have g5 : (l.getD k 0 &&& 127) * 2 ^ a % 18446744073709551616 < 18446744073709551616 := Nat.mod_lt _ (by decide)
    have g6 := or64 hv g5
    refine read_body hb hk2 hv ha hs hk hlast ?_ ?_ ?_ ?_ ?_ ?_ ?_ ?_ ?_ ?_ ?_ ?_
    · intro c1; exact fin _ _ _ (by rw [c1, List.drop_length]; rfl)
    · intro c1 c2 c3; exact fin _ _ _ (by rw [hd c1, readG, if_pos ⟨c2, c3⟩])
    · intro c1 c2 c3 c4; exact absurd (lastB_small c3) c4
    · intro c1 c2 c3 c4 c5 c6 c7; exact fin _ _ _ (by rw [hd c1, readG, if_neg (by rw [c3]; simp), if_neg (fun hh => hh c4), if_pos ⟨c5, c6, c7⟩])
    · intro c1 c2 c3 c4 c5 c6 c7; exact fin _ _ _ (by rw [hd c1, readG, if_neg (by rw [c3]; simp), if_neg (fun hh => hh c4), if_neg (fun hh => by have := hh.2.2; omega)])
    · intro c1 c2 c3 c4 c5 c6; exact fin _ _ _ (by rw [hd c1, readG, if_neg (by rw [c3]; simp), if_neg (fun hh => hh c4), if_neg (fun hh => hh.2.1 c6)])
    · intro c1 c2 c3 c4 c5; exact fin _ _ _ (by rw [hd c1, readG, if_neg (by rw [c3]; simp), if_neg (fun hh => hh c4), if_neg (fun hh => by rw [c5] at hh; exact absurd hh.1 (by decide))])
    · intro c1 c2 c4; exact go _ c1 g6 (by omega) (by rw [← hR, hd c1, readG, if_neg (fun hh => by have := hh.1; omega), if_pos c4])
    · intro c1 c2 c4 c5 c6 c7; exact fin _ _ _ (by rw [hd c1, readG, if_neg (fun hh => by have := hh.1; omega), if_neg (fun hh => hh c4), if_pos ⟨c5, c6, c7⟩])
    · intro c1 c2 c4 c5 c6 c7; exact fin _ _ _ (by rw [hd c1, readG, if_neg (fun hh => by have := hh.1; omega), if_neg (fun hh => hh c4), if_neg (fun hh => by have := hh.2.2; omega)])
    · intro c1 c2 c4 c5 c6; exact fin _ _ _ (by rw [hd c1, readG, if_neg (fun hh => by have := hh.1; omega), if_neg (fun hh => hh c4), if_neg (fun hh => hh.2.1 c6)])
    · intro c1 c2 c4 c5; exact fin _ _ _ (by rw [hd c1, readG, if_neg (fun hh => by have := hh.1; omega), if_neg (fun hh => hh c4), if_neg (fun hh => by rw [c5] at hh; exact absurd hh.1 (by decide))])
theorem read_walk {call : CallT} {N : Nat} {h : Hp} {B : Nat} {vb : AV} {sg : Bool} {l : List Nat} (hb : Bytes B h vb l) (hk2 : l.length < 9223372036854775000) {size : Nat} (h1 : 1 ≤ size) (hs : size ≤ 64) (hlast : ∀ x left s h, x < 256 → 1 ≤ left → left ≤ 64 → call 75 [.int .u8 (.ofNat x), .int .i64 (.ofNat left), .bool s] h = .ok (.bool (lastB x left s)) h) (hN : l.length < N)
    : ∃ rv rh, evF1 (progS Try.prog (compDrawn Try.prog)) N call 56 [vb, (vi size), (AV.bool sg)] h = .ok rv rh ∧ (fun (v : AV) (h' : Hp) => h' = h ∧ v = .tuple [.int .u64 (.ofNat (readG size sg l 0 0 0).1), .int .i64 (.ofNat (readG size sg l 0 0 0).2.1), .int .i64 (.ofNat (readG size sg l 0 0 0).2.2)]) rv rh := by
  refine fwalk_ok (o := (.lpx 4 (fun e1 => (.ret (ovT [(6, (vq ((readG size sg l 0 0 0).1))), (7, (vi ((readG size sg l 0 0 0).2.1))), (8, (vi ((readG size sg l 0 0 0).2.2)))] e1.t) h)) (fun e1 => .fin))) (p := (∃ e1 : Ev, evC call N (.loop readC) (ovT [(0, vb), (1, (vi size)), (2, (AV.bool sg)), (6, (vq 0)), (7, (vi 0)), (8, (vi 0)), (9, (vi 0))] .lf) h = (.ret (ovT [(6, (vq ((readG size sg l 0 0 0).1))), (7, (vi ((readG size sg l 0 0 0).2.1))), (8, (vi ((readG size sg l 0 0 0).2.2)))] e1.t) h) ∧ True ∧ (fun (v : AV) (h' : Hp) => h' = h ∧ v = .tuple [.int .u64 (.ofNat (readG size sg l 0 0 0).1), .int .i64 (.ofNat (readG size sg l 0 0 0).2.1), .int .i64 (.ofNat (readG size sg l 0 0 0).2.2)]) (AV.tuple [(vq ((readG size sg l 0 0 0).1)), (vi ((readG size sg l 0 0 0).2.1)), (vi ((readG size sg l 0 0 0).2.2))]) h)) (by kernel_rfl) ?_
  obtain ⟨t1, q1, w1⟩ := read_loop (N := N) (call := call) (t := ovT [(0, vb), (1, (vi size)), (2, (AV.bool sg)), (6, (vq 0)), (7, (vi 0)), (8, (vi 0)), (9, (vi 0))] .lf) hb hk2 h1 hs hlast hN (by kernel_rfl)
  refine ⟨⟨.nilPtr, t1, h⟩, (by rw [q1]; exact congrArg (fun t => RS.ret t h) (ovT_eq w1).symm), trivial, ?_⟩
  exact ⟨rfl, rfl⟩
theorem clone_sl {call : CallT} {N : Nat} {h : Hp} {B : Nat} {l : List Nat} (hB : B ≤ h.next) (hlen : l.length ≤ 1099511627776) {b o n c : Nat} {ex : Bool} (hb : Bytes B h (AV.slice b o n c 1 ex) l)
    : ∃ rv rh, evF1 (progS Try.prog (compDrawn Try.prog)) N call 59 [(AV.slice b o n c 1 ex)] h = .ok rv rh ∧ (fun (v : AV) (h' : Hp) => Owned 1 B h' v l.length (u8s l) ∧ Old B h h' ∧ B ≤ h'.next) rv rh := by
  refine fwalk_ok (o := (.effx 5 (fun e5 => e5.v) (fun e5 => .fin))) (p := (∃ e5 : Ev, evE (.append 1 1 (.const (AV.slice (Hp.next h) 0 0 0 1 true)) (.const (AV.slice b o n c 1 ex))) call .lf (hpush h (mkCells [] 0)) = .ok e5.v e5.h ∧ (fun (v : AV) (h' : Hp) => Owned 1 B h' v l.length (u8s l) ∧ Old B h h' ∧ B ≤ h'.next) e5.v e5.h)) (by kernel_rfl) ?_
  have f1 := (own_lit (sz := 1) (B := B) (n := 0) (h := h) (xs := []) hB rfl)
  have f2 := (hb.old (Old.push hB (mkCells [] 0)))
  have l3 : B ≤ (hpush h (mkCells [] 0)).next := (Nat.le_succ_of_le hB)
  have d4 := ((Old.refl B h).trans (Old.push hB (mkCells [] 0)))
  obtain ⟨e5, qe5, oe5, pe5, ne5⟩ := append_ev (sz := 1) (bytes := 1) (B := B) (n := 0) (L := []) (m := l.length) (xs := u8s l) call l3 f1 (fun z k => src_bytes f2 z k) (u8s_len1 _) (by omega) (by omega)
  refine ⟨e5, qe5, ?_⟩
  have f6 := (f2.old pe5)
  have d7 := (d4.trans pe5)
  refine ⟨?_, d7, ne5⟩
  simpa using oe5
theorem clone_nil {call : CallT} {N : Nat} {h : Hp} {B : Nat} {l : List Nat} (hB : B ≤ h.next) (hlen : l.length ≤ 1099511627776) (hl : l = [])
    : ∃ rv rh, evF1 (progS Try.prog (compDrawn Try.prog)) N call 59 [AV.nilSlice] h = .ok rv rh ∧ (fun (v : AV) (h' : Hp) => Owned 1 B h' v l.length (u8s l) ∧ Old B h h' ∧ B ≤ h'.next) rv rh := by
  refine fwalk_ok (o := .fin) (p := (fun (v : AV) (h' : Hp) => Owned 1 B h' v l.length (u8s l) ∧ Old B h h' ∧ B ≤ h'.next) AV.nilSlice h) (by kernel_rfl) ?_
  subst hl
  exact ⟨.nil, .refl B h, hB⟩
theorem clone_walk {call : CallT} {N : Nat} {h : Hp} {B : Nat} {l : List Nat} (hB : B ≤ h.next) (hlen : l.length ≤ 1099511627776) {vb : AV} (hb : Bytes B h vb l) :
    ∃ v h', evF1 (progS Try.prog (compDrawn Try.prog)) N call 59 [vb] h = .ok v h' ∧ (fun (v : AV) (h' : Hp) => Owned 1 B h' v l.length (u8s l) ∧ Old B h h' ∧ B ≤ h'.next) v h' := by
  cases hb with
  | nil => exact clone_nil hB hlen rfl
  | sl hB' hg hcl hl hm hc hb => exact clone_sl hB hlen (.sl hB' hg hcl hl hm hc hb)
theorem put_walk {call : CallT} {N : Nat} {h : Hp} {B : Nat} {vb vl : AV} {l m : List Nat} (hB : B ≤ h.next) (hb : Bytes B h vb l) (hm : Bytes B h vl m) (hlen : l.length ≤ 1099511627776) (hlen2 : m.length ≤ 1099511627776) (hclone : ∀ {B : Nat} {h : Hp} {vb : AV} {l : List Nat}, B ≤ h.next → l.length ≤ 1099511627776 → Bytes B h vb l → ∃ v h', call 59 [vb] h = .ok v h' ∧ Owned 1 B h' v l.length (u8s l) ∧ Old B h h' ∧ B ≤ h'.next)
    : ∃ rv rh, evF1 (progS Try.prog (compDrawn Try.prog)) N call 55 [vb, vl] h = .ok rv rh ∧ (fun (v : AV) (h' : Hp) => Owned 1 B h' v (l.length + m.length) (u8s (l ++ m)) ∧ Old B h h' ∧ B ≤ h'.next) rv rh := by
  refine fwalk_ok (o := (.effx 2 (fun e1 => e1.v) (fun e1 => (.effx 1 (fun e5 => e5.v) (fun e5 => .fin))))) (p := (∃ e1 : Ev, call 59 [vb] h = .ok e1.v e1.h ∧ (∃ e5 : Ev, evE (.append 1 1 (.const e1.v) (.const vl)) call .lf e1.h = .ok e5.v e5.h ∧ (fun (v : AV) (h' : Hp) => Owned 1 B h' v (l.length + m.length) (u8s (l ++ m)) ∧ Old B h h' ∧ B ≤ h'.next) e5.v e5.h))) (by kernel_rfl) ?_
  obtain ⟨ve1, he1, qe1, oe1, pe1, ne1⟩ := hclone hB (by omega) hb
  obtain ⟨e1, rfl, rfl⟩ : ∃ e : Ev, ve1 = e.v ∧ he1 = e.h := ⟨⟨ve1, .lf, he1⟩, rfl, rfl⟩
  refine ⟨e1, qe1, ?_⟩
  have f2 := (hb.old pe1)
  have f3 := (hm.old pe1)
  have d4 := ((Old.refl B h).trans pe1)
  obtain ⟨e5, qe5, oe5, pe5, ne5⟩ := append_ev (sz := 1) (bytes := 1) (B := B) (n := l.length) (L := u8s l) (m := m.length) (xs := u8s m) call ne1 oe1 (fun z k => src_bytes f3 z k) (u8s_len1 _) (by omega) (by omega)
  refine ⟨e5, qe5, ?_⟩
  have f6 := (f2.old pe5)
  have f7 := (f3.old pe5)
  have d8 := (d4.trans pe5)
  refine ⟨?_, d8, ne5⟩
  rw [← u8s_append]
  exact oe5
theorem lebH_lt (n v : Nat) (h : v < 128 ^ n * 128) : ∀ x ∈ lebH v, x < 256 := fun x hx => lebU_lt (n + 1) v (by rw [Nat.pow_succ]; exact h) x (by rw [lebU_eq]; exact List.mem_append_left _ hx)
noncomputable def putUC : AC := (.seq (.seq (.region [⟨(some 6), .q (.move (.tmp 1)), none⟩, ⟨(some 7), .q (.bin .gtr (.tmp 6) (.const (vq 127))), none⟩]) (.cond (.tmp 7) .skip (.exit 0))) (.block 1 (.seq (.region [⟨(some 8), .q (.move (.tmp 5)), none⟩, ⟨(some 9), .q (.move (.tmp 1)), none⟩, ⟨(some 10), .q (.toInt .u8 (.tmp 9)), none⟩, ⟨(some 11), .q (.bin .or (.tmp 10) (.const (vb8 128))), none⟩, ⟨(some 12), .l (.buildSlice 1 1 [(vb8 0)] [(0, 1, (.tmp 11))]), none⟩, ⟨(some 13), .e (.append 1 1 (.tmp 8) (.tmp 12)), none⟩, ⟨(some 5), .q (.move (.tmp 13)), none⟩]) (.region [⟨(some 14), .q (.move (.tmp 1)), none⟩, ⟨(some 15), .q (.bin .shr (.tmp 14) (.const (vq 7))), none⟩, ⟨(some 1), .q (.move (.tmp 15)), none⟩]))))
theorem putU_body {call : CallT} {N : Nat} {t : T} {h : Hp} {B n : Nat} {v : Nat} {vb vs : AV} {pre : List Nat} (hB : B ≤ h.next) (ho : Owned 1 B h vs n (u8s pre)) (hv : v < 18446744073709551616) (hn : n ≤ 2199023255552)
    {Kn : List (Option AV) → Hp → Prop} {Ke : Nat → List (Option AV) → Hp → Prop} {Kr : List (Option AV) → Hp → Prop}
    (k0 : 127 < v → ∀ e8 : Ev, Owned 1 B e8.h e8.v (n + 1) ((u8s pre) ++ [(vb8 ((v % 256) ||| 128))]) → Old B (hpush h (mkCells [(vb8 ((v % 256) ||| 128))] 1)) e8.h → B ≤ e8.h.next → Kn [some vb, some (vq (v / 2 ^ 7)), some e8.v] e8.h)
    (k1 : v ≤ 127 → Ke 0 [some vb, some (vq v), some vs] h)
    : ∃ s, evC call N putUC (ovT [(0, vb), (1, (vq v)), (5, vs)] t) h = s ∧ obsS [0, 1, 5] Kn Ke Kr s := by
  refine walk_ok (o := (.fork 1 (.tell 2 (vb8 (v % 256)) (.tell 0 (vb8 ((v % 256) ||| 128)) (.effx 1 (fun e8 => e8.v) (fun e8 => (.tell 2 (vq (v / 2 ^ 7)) .fin))))) .fin)) (p := ((ltI (Int.ofNat 127) (Int.ofNat v) = true → (evQ (.toInt .u8 (.const (vq v))) .lf H0 = .ok (vb8 (v % 256)) ∧ (evQ (.bin .or (.const (vb8 (v % 256))) (.const (vb8 128))) .lf H0 = .ok (vb8 ((v % 256) ||| 128)) ∧ (∃ e8 : Ev, evE (.append 1 1 (.const vs) (.const (AV.slice (Hp.next h) 0 1 1 1 true))) call .lf (hpush h (mkCells [(vb8 ((v % 256) ||| 128))] 1)) = .ok e8.v e8.h ∧ (evQ (.bin .shr (.const (vq v)) (.const (vq 7))) .lf H0 = .ok (vq (v / 2 ^ 7)) ∧ Kn [some vb, some (vq (v / 2 ^ 7)), some e8.v] e8.h))))) ∧ (ltI (Int.ofNat 127) (Int.ofNat v) = false → Ke 0 [some vb, some (vq v), some vs] h))) (by kernel_rfl) ?_
  refine ⟨fun c1 => ?_, fun c1 => ?_⟩
  · have rc1 := c1
    replace c1 : 127 < v := ltI_t c1
    refine ⟨u_conv rfl, ?_⟩
    have g2 : v % 256 < 256 := Nat.mod_lt _ (by decide)
    refine ⟨u_or rfl g2 (by decide), ?_⟩
    have g3 : (v % 256) ||| 128 < 256 := Nat.or_lt_two_pow (n := 8) g2 (by decide)
    have f4 := (ho.push (mkCells [(vb8 ((v % 256) ||| 128))] 1))
    have f5 := (own_lit (sz := 1) (B := B) (n := 1) (h := h) (xs := [(vb8 ((v % 256) ||| 128))]) hB rfl)
    have l6 : B ≤ (hpush h (mkCells [(vb8 ((v % 256) ||| 128))] 1)).next := (Nat.le_succ_of_le hB)
    have d7 := ((Old.refl B h).trans (Old.push hB (mkCells [(vb8 ((v % 256) ||| 128))] 1)))
    obtain ⟨e8, qe8, oe8, pe8, ne8⟩ := append_ev (sz := 1) (bytes := 1) (B := B) (n := n) (L := u8s pre) (m := 1) (xs := [(vb8 ((v % 256) ||| 128))]) call l6 f4 (fun z k => src_owned f5) (f5.len) (by omega) (by omega)
    refine ⟨e8, qe8, ?_⟩
    have d9 := (d7.trans pe8)
    refine ⟨u_shr rfl hv, ?_⟩
    have g10 : v / 2 ^ 7 < 18446744073709551616 := Nat.lt_of_le_of_lt (Nat.div_le_self _ _) hv
    exact k0 c1 e8 oe8 pe8 ne8
  · have rc1 := c1
    replace c1 : v ≤ 127 := ltI_f c1
    exact k1 c1
theorem putU_loop {call : CallT} {N : Nat} {t : T} {h : Hp} {B n : Nat} {v0 : Nat} {vb vs : AV} {pre : List Nat} (hB : B ≤ h.next) (ho : Owned 1 B h vs n (u8s pre)) (hv : v0 < 18446744073709551616) (hn : n ≤ 1099511627777) (hN : 10 < N)
    (h0 : slots [0, 1, 5] t = [some vb, some (vq v0), some vs]) :
    ∃ e : Ev, evC call N (.loop putUC) t h = .exit 0 (ovT [(0, vb), (1, (vq (lebL v0))), (5, e.v)] e.t) e.h ∧ Owned 1 B e.h e.v (n + (lebH v0).length) (u8s pre ++ u8s (lebH v0)) ∧ Old B h e.h ∧ B ≤ e.h.next := by
  refine Exists.elim (loop_ok (call := call) (N := N) (body := putUC) [0, 1, 5]
    (fun j ls h' => ∃ v s pre' k, ls = [some vb, some (vq v), some s] ∧ v < 128 ^ (j + 1) ∧ v < 18446744073709551616 ∧ Owned 1 B h' s k (u8s pre') ∧ k + j ≤ n + 9 ∧ k + (lebH v).length = n + (lebH v0).length ∧ pre' ++ lebH v = pre ++ lebH v0 ∧ lebL v = lebL v0 ∧ Old B h h' ∧ B ≤ h'.next)
    (fun i ls h' => i = 0 ∧ ∃ s, ls = [some vb, some (vq (lebL v0)), some s] ∧ Owned 1 B h' s (n + (lebH v0).length) (u8s (pre ++ lebH v0)) ∧ Old B h h' ∧ B ≤ h'.next)
    (fun _ _ => False) ?_ 9 (by omega) t h ⟨v0, vs, pre, n, h0, by omega, hv, ho, by omega, rfl, rfl, rfl, .refl B h, hB⟩) ?_
  rotate_left
  · rintro s ⟨e, hs⟩
    cases s with
    | no => exact hs.elim
    | nor t' h' => exact hs.elim
    | ret t' h' => exact hs.elim
    | exit i t' h' =>
      obtain ⟨rfl, s, hh, o1, p1, n1⟩ := hs
      rw [u8s_append]
      exact ⟨⟨s, t', h'⟩, e.trans (congrArg (fun t => RS.exit 0 t h') (ovT_eq (l := [(0, vb), (1, (vq (lebL v0))), (5, s)]) hh).symm), o1, p1, n1⟩
  · rintro j t h' ⟨v, s, pre', k, hsl, hvj, hv', ho', hk, hkk, hpre, hL, hp, hnx⟩
    rw [← ovT_eq (l := [(0, vb), (1, (vq v)), (5, s)]) hsl]
    have fin : v < 128 → 0 = 0 ∧ ∃ s', [some vb, some (vq v), some s] = [some vb, some (vq (lebL v0)), some s'] ∧ Owned 1 B h' s' (n + (lebH v0).length) (u8s (pre ++ lebH v0)) ∧ Old B h h' ∧ B ≤ h'.next := fun hlo => by
      rw [lebH_lo hlo] at hpre hkk
      rw [lebL_lo hlo] at hL
      rw [List.append_nil] at hpre
      rw [← hpre, ← hL, ← hkk]
      exact ⟨rfl, s, rfl, ho', hp, hnx⟩
    have go : ∀ e : Ev, Owned 1 B e.h e.v (k + 1) (u8s pre' ++ [AV.int .u8 (Int.ofNat (v % 256 ||| 128))]) → Old B (hpush h' (mkCells [AV.int .u8 (Int.ofNat (v % 256 ||| 128))] 1)) e.h → B ≤ e.h.next → 128 ≤ v →
        ∃ m, m < j ∧ ∃ v' s' pre'' k', [some vb, some (vq (v / 2 ^ 7)), some e.v] = [some vb, some (vq v'), some s'] ∧ v' < 128 ^ (m + 1) ∧ v' < 18446744073709551616 ∧ Owned 1 B e.h s' k' (u8s pre'') ∧ k' + m ≤ n + 9 ∧ k' + (lebH v').length = n + (lebH v0).length ∧ pre'' ++ lebH v' = pre ++ lebH v0 ∧ lebL v' = lebL v0 ∧ Old B h e.h ∧ B ≤ e.h.next := by
      intro e o' p' n' hge
      cases j with
      | zero => exact absurd hvj (by omega)
      | succ j =>
        rw [lebH_hi hge] at hpre hkk
        rw [lebL_hi hge] at hL
        have h2 : 128 ^ (j + 1 + 1) = 128 ^ (j + 1) * 128 := Nat.pow_succ _ _
        rw [h2] at hvj
        refine ⟨j, Nat.lt_succ_self _, v / 128, e.v, pre' ++ [v % 256 ||| 128], k + 1, rfl, by omega, by omega, ?_, by omega, by rw [← hkk, List.length_cons]; omega, by rw [← hpre]; simp, hL, hp.trans ((Old.push hnx _).trans p'), n'⟩
        rw [← u8s_append]; exact o'
    refine putU_body hnx ho' hv' (by omega) ?_ ?_
    · intro c0 e o' p' n'; exact go e o' p' n' (by omega)
    · intro c0; exact fin (by omega)
theorem putU_walk {call : CallT} {N : Nat} {h : Hp} {B : Nat} {vb : AV} {l : List Nat} {v : Nat} (hB : B ≤ h.next) (hb : Bytes B h vb l) (hlen : l.length ≤ 1099511627776) (hv : v < 18446744073709551616) (hN : 10 < N) (hput : ∀ {B : Nat} {h : Hp} {vb vl : AV} {l m : List Nat}, B ≤ h.next → Bytes B h vb l → Bytes B h vl m → l.length ≤ 1099511627776 → m.length ≤ 1099511627776 → ∃ v h', call 55 [vb, vl] h = .ok v h' ∧ Owned 1 B h' v (l.length + m.length) (u8s (l ++ m)) ∧ Old B h h' ∧ B ≤ h'.next)
    : ∃ rv rh, evF1 (progS Try.prog (compDrawn Try.prog)) N call 16 [vb, (vq v)] h = .ok rv rh ∧ (fun (v' : AV) (h' : Hp) => Owned 1 B h' v' (l.length + (lebU v).length) (u8s (l ++ lebU v)) ∧ Old B h h' ∧ B ≤ h'.next) rv rh := by
  have hx9 : (lebH v).length ≤ 9 := lebH_len 9 v (by omega)
  refine fwalk_ok (o := (.lpx 2 (fun e1 => (.exit 0 (ovT [(0, vb), (1, (vq (lebL v))), (5, e1.v)] e1.t) e1.h)) (fun e1 => (.tell 3 (vb8 ((lebL v) % 256)) (.effx 1 (fun e8 => e8.v) (fun e8 => (.effx 0 (fun e11 => e11.v) (fun e11 => .fin)))))))) (p := (∃ e1 : Ev, evC call N (.loop putUC) (ovT [(0, vb), (1, (vq v)), (4, AV.nilSlice), (5, AV.nilSlice)] .lf) h = (.exit 0 (ovT [(0, vb), (1, (vq (lebL v))), (5, e1.v)] e1.t) e1.h) ∧ True ∧ (evQ (.toInt .u8 (.const (vq (lebL v)))) .lf H0 = .ok (vb8 ((lebL v) % 256)) ∧ (∃ e8 : Ev, evE (.append 1 1 (.const e1.v) (.const (AV.slice (Hp.next e1.h) 0 1 1 1 true))) call .lf (hpush e1.h (mkCells [(vb8 ((lebL v) % 256))] 1)) = .ok e8.v e8.h ∧ (∃ e11 : Ev, call 55 [vb, e8.v] e8.h = .ok e11.v e11.h ∧ (fun (v' : AV) (h' : Hp) => Owned 1 B h' v' (l.length + (lebU v).length) (u8s (l ++ lebU v)) ∧ Old B h h' ∧ B ≤ h'.next) e11.v e11.h))))) (by kernel_rfl) ?_
  obtain ⟨e1, qe1, oe1, pe1, ne1⟩ := putU_loop (N := N) (call := call) (t := ovT [(0, vb), (1, (vq v)), (4, AV.nilSlice), (5, AV.nilSlice)] .lf) (n := 0) (pre := []) hB Owned.nil hv (by omega) hN (by kernel_rfl)
  refine ⟨e1, qe1, trivial, ?_⟩
  refine ⟨u_conv rfl, ?_⟩
  have g2 : (lebL v) % 256 < 256 := Nat.mod_lt _ (by decide)
  have f3 := (oe1.push (mkCells [(vb8 ((lebL v) % 256))] 1))
  have f4 := (own_lit (sz := 1) (B := B) (n := 1) (h := e1.h) (xs := [(vb8 ((lebL v) % 256))]) ne1 rfl)
  have f5 := ((hb.old pe1).old (Old.push ne1 (mkCells [(vb8 ((lebL v) % 256))] 1)))
  have l6 : B ≤ (hpush e1.h (mkCells [(vb8 ((lebL v) % 256))] 1)).next := (Nat.le_succ_of_le ne1)
  have d7 := (((Old.refl B h).trans pe1).trans (Old.push ne1 (mkCells [(vb8 ((lebL v) % 256))] 1)))
  obtain ⟨e8, qe8, oe8, pe8, ne8⟩ := append_ev (sz := 1) (bytes := 1) (B := B) (n := 0 + (lebH v).length) (L := u8s [] ++ u8s (lebH v)) (m := 1) (xs := [(vb8 ((lebL v) % 256))]) call l6 f3 (fun z k => src_owned f4) (f4.len) (by omega) (by omega)
  refine ⟨e8, qe8, ?_⟩
  have f9 := (f5.old pe8)
  have d10 := (d7.trans pe8)
  have hle11 : u8s [] ++ u8s (lebH v) ++ [AV.int .u8 (Int.ofNat (lebL v % 256))] = u8s (lebH v ++ [lebL v % 256]) := by rw [u8s_one, u8s_append, u8s_append]; rfl
  have hbe11 : Bytes e8.h.next e8.h e8.v (lebH v ++ [lebL v % 256]) := Owned.bytes (hle11 ▸ oe8) (by intro x hx; rcases List.mem_append.1 hx with hx | hx; exact lebH_lt 9 v (by omega) x hx; rw [List.mem_singleton] at hx; subst hx; exact Nat.mod_lt _ (by decide)) (Nat.le_refl _)
  have hxe11 : (lebH v).length ≤ 9 := lebH_len 9 v (by omega)
  obtain ⟨ve11, he11, qe11, oe11, pe11, ne11⟩ := hput (B := e8.h.next) (Nat.le_refl _) (f9.up ne8) hbe11 (by omega) (by rw [List.length_append]; simp only [List.length_cons, List.length_nil]; omega)
  obtain ⟨e11, rfl, rfl⟩ : ∃ e : Ev, ve11 = e.v ∧ he11 = e.h := ⟨⟨ve11, .lf, he11⟩, rfl, rfl⟩
  refine ⟨e11, qe11, ?_⟩
  have f12 := (oe11.low ne8)
  have f13 := (f9.old (pe11.le ne8))
  have l14 : B ≤ e11.h.next := (Nat.le_trans ne8 ne11)
  have d15 := (d10.trans (pe11.le ne8))
  have he : lebH v ++ [lebL v % 256] = lebU v := by rw [lebU_eq, Nat.mod_eq_of_lt (Nat.lt_trans (lebL_lt v) (by decide))]
  refine ⟨?_, d15, l14⟩
  rw [← he]
  exact f12
noncomputable def rputUC : AC := (.seq (.seq (.region [⟨(some 9), .q (.move (.tmp 1)), none⟩, ⟨(some 10), .q (.bin .geq (.tmp 9) (.const (vq 128))), none⟩]) (.cond (.tmp 10) .skip (.exit 0))) (.block 1 (.seq (.region [⟨(some 11), .q (.move (.tmp 5)), none⟩, ⟨(some 12), .q (.move (.tmp 1)), none⟩, ⟨(some 13), .q (.toInt .u8 (.tmp 12)), none⟩, ⟨(some 14), .q (.bin .or (.tmp 13) (.const (vb8 128))), none⟩, ⟨(some 15), .l (.buildSlice 1 1 [(vb8 0)] [(0, 1, (.tmp 14))]), none⟩, ⟨(some 16), .e (.append 1 1 (.tmp 11) (.tmp 15)), none⟩, ⟨(some 5), .q (.move (.tmp 16)), none⟩]) (.region [⟨(some 17), .q (.move (.tmp 1)), none⟩, ⟨(some 18), .q (.bin .shr (.tmp 17) (.const (vq 7))), none⟩, ⟨(some 1), .q (.move (.tmp 18)), none⟩]))))
noncomputable def putSC : AC := (.seq (.seq (.region [⟨(some 6), .q (.move (.tmp 1)), none⟩, ⟨(some 7), .q (.bin .lss (.tmp 6) (.const (AV.int .i64 (Int.negSucc 63)))), none⟩, ⟨(some 8), .q (.move (.tmp 7)), none⟩, ⟨(some 9), .q (.move (.tmp 1)), (some (8, false))⟩, ⟨(some 10), .q (.bin .geq (.tmp 9) (.const (vi 64))), (some (8, false))⟩, ⟨(some 11), .q (.pick (.tmp 8) (.const (AV.bool true)) (.tmp 10)), none⟩]) (.cond (.tmp 11) .skip (.exit 0))) (.block 1 (.seq (.region [⟨(some 12), .q (.move (.tmp 5)), none⟩, ⟨(some 13), .q (.move (.tmp 1)), none⟩, ⟨(some 14), .q (.toInt .u8 (.tmp 13)), none⟩, ⟨(some 15), .q (.bin .or (.tmp 14) (.const (vb8 128))), none⟩, ⟨(some 16), .l (.buildSlice 1 1 [(vb8 0)] [(0, 1, (.tmp 15))]), none⟩, ⟨(some 17), .e (.append 1 1 (.tmp 12) (.tmp 16)), none⟩, ⟨(some 5), .q (.move (.tmp 17)), none⟩]) (.region [⟨(some 18), .q (.move (.tmp 1)), none⟩, ⟨(some 19), .q (.bin .shr (.tmp 18) (.const (vq 7))), none⟩, ⟨(some 1), .q (.move (.tmp 19)), none⟩]))))
noncomputable def rputSC : AC := (.seq (.seq (.region [⟨(some 9), .q (.move (.tmp 1)), none⟩, ⟨(some 10), .q (.bin .lss (.tmp 9) (.const (AV.int .i64 (Int.negSucc 63)))), none⟩, ⟨(some 11), .q (.move (.tmp 10)), none⟩, ⟨(some 12), .q (.move (.tmp 1)), (some (11, false))⟩, ⟨(some 13), .q (.bin .gtr (.tmp 12) (.const (vi 63))), (some (11, false))⟩, ⟨(some 14), .q (.pick (.tmp 11) (.const (AV.bool true)) (.tmp 13)), none⟩]) (.cond (.tmp 14) .skip (.exit 0))) (.block 1 (.seq (.region [⟨(some 15), .q (.move (.tmp 5)), none⟩, ⟨(some 16), .q (.move (.tmp 1)), none⟩, ⟨(some 17), .q (.toInt .u8 (.tmp 16)), none⟩, ⟨(some 18), .q (.bin .or (.tmp 17) (.const (vb8 128))), none⟩, ⟨(some 19), .l (.buildSlice 1 1 [(vb8 0)] [(0, 1, (.tmp 18))]), none⟩, ⟨(some 20), .e (.append 1 1 (.tmp 15) (.tmp 19)), none⟩, ⟨(some 5), .q (.move (.tmp 20)), none⟩]) (.region [⟨(some 21), .q (.move (.tmp 1)), none⟩, ⟨(some 22), .q (.bin .shr (.tmp 21) (.const (vq 7))), none⟩, ⟨(some 1), .q (.move (.tmp 22)), none⟩]))))
end Go.Proofs.Ytejiebbbodealaa
end
section
set_option linter.unusedVariables false
namespace Go.Proofs.Ytejiebbbodealaa
set_option linter.unusedVariables false
open Go Eng
noncomputable def numC : AC := (.seq (.seq (.region [⟨(some 20), .q (.move (.tmp 11)), none⟩, ⟨(some 21), .q (.move (.tmp 10)), none⟩, ⟨(some 22), .q (.bin .lss (.tmp 20) (.tmp 21)), none⟩]) (.cond (.tmp 22) .skip (.exit 0))) (.seq (.block 1 (.seq (.seq (.region [⟨(some 25), .q (.move (.tmp 11)), none⟩, ⟨(some 26), .q (.move (.tmp 0)), none⟩, ⟨(some 27), .q (.lenL (.tmp 26)), none⟩, ⟨(some 28), .q (.bin .geq (.tmp 25) (.tmp 27)), none⟩]) (.cond (.tmp 28) (.seq (.region [⟨(some 6), .q (.move (.const (vq 0))), none⟩, ⟨(some 7), .q (.move (.const (vi 0))), none⟩, ⟨(some 8), .q (.move (.const (vi 3))), none⟩]) .ret) .skip)) (.seq (.region [⟨(some 29), .q (.move (.tmp 0)), none⟩, ⟨(some 30), .q (.move (.tmp 11)), none⟩, ⟨(some 31), .q (.idxAddrSl 1 (.tmp 29) (.tmp 30)), none⟩, ⟨(some 32), .q (.loadS (.tmp 31)), none⟩, ⟨(some 12), .q (.move (.tmp 32)), none⟩]) (.seq (.region [⟨(some 33), .q (.move (.tmp 12)), none⟩, ⟨(some 34), .q (.bin .and (.tmp 33) (.const (vb8 127))), none⟩, ⟨(some 35), .q (.toInt .u64 (.tmp 34)), none⟩, ⟨(some 13), .q (.move (.tmp 35)), none⟩]) (.seq (.seq (.region [⟨(some 36), .q (.move (.tmp 11)), none⟩, ⟨(some 37), .q (.move (.tmp 10)), none⟩, ⟨(some 38), .q (.bin .sub (.tmp 37) (.const (vi 1))), none⟩, ⟨(some 39), .q (.eq .int false (.tmp 36) (.tmp 38)), none⟩]) (.cond (.tmp 39) (.seq (.region [⟨(some 40), .q (.move (.tmp 1)), none⟩, ⟨(some 41), .q (.move (.tmp 11)), none⟩, ⟨(some 42), .q (.bin .mul (.const (vi 7)) (.tmp 41)), none⟩, ⟨(some 43), .q (.bin .sub (.tmp 40) (.tmp 42)), none⟩, ⟨(some 14), .q (.move (.tmp 43)), none⟩]) (.seq (.region [⟨(some 44), .q (.move (.tmp 13)), none⟩, ⟨(some 45), .q (.move (.tmp 14)), none⟩, ⟨(some 46), .q (.bin .shr (.tmp 44) (.tmp 45)), none⟩, ⟨(some 15), .q (.move (.tmp 46)), none⟩]) (.seq (.seq (.region [⟨(some 47), .q (.move (.tmp 2)), none⟩]) (.cond (.tmp 47) (.region [⟨(some 48), .q (.move (.tmp 13)), none⟩, ⟨(some 49), .q (.move (.tmp 14)), none⟩, ⟨(some 50), .q (.bin .sub (.tmp 49) (.const (vi 1))), none⟩, ⟨(some 51), .q (.bin .shr (.tmp 48) (.tmp 50)), none⟩, ⟨(some 15), .q (.move (.tmp 51)), none⟩]) .skip)) (.seq (.region [⟨(some 52), .q (.move (.tmp 14)), none⟩, ⟨(some 53), .q (.bin .shr (.const (vq 127)) (.tmp 52)), none⟩, ⟨(some 16), .q (.move (.tmp 53)), none⟩]) (.seq (.seq (.region [⟨(some 54), .q (.move (.tmp 2)), none⟩]) (.cond (.tmp 54) (.region [⟨(some 55), .q (.move (.tmp 14)), none⟩, ⟨(some 56), .q (.bin .sub (.tmp 55) (.const (vi 1))), none⟩, ⟨(some 57), .q (.bin .shr (.const (vq 127)) (.tmp 56)), none⟩, ⟨(some 16), .q (.move (.tmp 57)), none⟩]) .skip)) (.seq (.region [⟨(some 58), .q (.move (.tmp 12)), none⟩, ⟨(some 59), .q (.bin .geq (.tmp 58) (.const (vb8 128))), none⟩, ⟨(some 60), .q (.move (.tmp 59)), none⟩, ⟨(some 61), .q (.move (.tmp 15)), (some (60, false))⟩, ⟨(some 62), .q (.eq .int true (.tmp 61) (.const (vq 0))), (some (60, false))⟩, ⟨(some 63), .q (.move (.tmp 62)), (some (60, false))⟩, ⟨(some 64), .q (.move (.tmp 2)), (some (63, true))⟩, ⟨(some 65), .q (.un .not (.tmp 64)), (some (63, true))⟩, ⟨(some 66), .q (.move (.tmp 65)), (some (63, true))⟩, ⟨(some 67), .q (.move (.tmp 15)), (some (66, false))⟩, ⟨(some 68), .q (.move (.tmp 16)), (some (66, false))⟩, ⟨(some 69), .q (.eq .int true (.tmp 67) (.tmp 68)), (some (66, false))⟩, ⟨(some 70), .q (.pick (.tmp 66) (.const (AV.bool true)) (.tmp 69)), (some (63, true))⟩, ⟨(some 71), .q (.pick (.tmp 63) (.tmp 70) (.const (AV.bool false))), (some (60, false))⟩, ⟨(some 72), .q (.pick (.tmp 60) (.const (AV.bool true)) (.tmp 71)), none⟩]) (.cond (.tmp 72) (.seq (.region [⟨(some 6), .q (.move (.const (vq 0))), none⟩, ⟨(some 7), .q (.move (.const (vi 0))), none⟩, ⟨(some 8), .q (.move (.const (vi 2))), none⟩]) .ret) .skip))))))) .skip)) (.seq (.region [⟨(some 73), .q (.move (.tmp 9)), none⟩, ⟨(some 74), .q (.move (.tmp 13)), none⟩, ⟨(some 75), .q (.move (.tmp 11)), none⟩, ⟨(some 76), .q (.bin .mul (.const (vi 7)) (.tmp 75)), none⟩, ⟨(some 77), .q (.bin .shl (.tmp 74) (.tmp 76)), none⟩, ⟨(some 78), .q (.bin .or (.tmp 73) (.tmp 77)), none⟩, ⟨(some 9), .q (.move (.tmp 78)), none⟩]) (.seq (.region [⟨(some 79), .q (.move (.tmp 12)), none⟩, ⟨(some 80), .q (.bin .lss (.tmp 79) (.const (vb8 128))), none⟩]) (.cond (.tmp 80) (.seq (.seq (.region [⟨(some 81), .q (.move (.tmp 2)), none⟩, ⟨(some 82), .q (.move (.tmp 81)), none⟩, ⟨(some 83), .q (.move (.tmp 12)), (some (82, true))⟩, ⟨(some 84), .q (.bin .and (.tmp 83) (.const (vb8 64))), (some (82, true))⟩, ⟨(some 85), .q (.eq .int true (.tmp 84) (.const (vb8 0))), (some (82, true))⟩, ⟨(some 86), .q (.pick (.tmp 82) (.tmp 85) (.const (AV.bool false))), none⟩, ⟨(some 87), .q (.move (.tmp 86)), none⟩, ⟨(some 88), .q (.move (.tmp 11)), (some (87, true))⟩, ⟨(some 89), .q (.bin .mul (.const (vi 7)) (.tmp 88)), (some (87, true))⟩, ⟨(some 90), .q (.bin .add (.tmp 89) (.const (vi 7))), (some (87, true))⟩, ⟨(some 91), .q (.bin .lss (.tmp 90) (.const (vi 64))), (some (87, true))⟩, ⟨(some 92), .q (.pick (.tmp 87) (.tmp 91) (.const (AV.bool false))), none⟩]) (.cond (.tmp 92) (.region [⟨(some 93), .q (.move (.tmp 9)), none⟩, ⟨(some 94), .q (.move (.tmp 11)), none⟩, ⟨(some 95), .q (.bin .mul (.const (vi 7)) (.tmp 94)), none⟩, ⟨(some 96), .q (.bin .add (.tmp 95) (.const (vi 7))), none⟩, ⟨(some 97), .q (.bin .shl (.const (vq 18446744073709551615)) (.tmp 96)), none⟩, ⟨(some 98), .q (.bin .or (.tmp 93) (.tmp 97)), none⟩, ⟨(some 9), .q (.move (.tmp 98)), none⟩]) .skip)) (.seq (.region [⟨(some 99), .q (.move (.tmp 9)), none⟩, ⟨(some 100), .q (.move (.tmp 11)), none⟩, ⟨(some 101), .q (.bin .add (.tmp 100) (.const (vi 1))), none⟩, ⟨(some 6), .q (.move (.tmp 99)), none⟩, ⟨(some 7), .q (.move (.tmp 101)), none⟩, ⟨(some 8), .q (.move (.const (vi 0))), none⟩]) .ret)) .skip)))))))) (.region [⟨(some 23), .q (.move (.tmp 11)), none⟩, ⟨(some 24), .q (.bin .add (.tmp 23) (.const (vi 1))), none⟩, ⟨(some 11), .q (.move (.tmp 24)), none⟩])))
end Go.Proofs.Ytejiebbbodealaa
end
section
set_option linter.unusedVariables false
namespace Go.Proofs.Ytejiebbbodealaa
set_option linter.unusedVariables false
open Go Eng
theorem U32_walk {call : CallT} {N : Nat} {h : Hp} {B : Nat} {vb : AV} {l : List Nat} (hb : Bytes B h vb l) (hk2 : l.length < 90000) (hread : ∀ (B : Nat) (h : Hp) (vb : AV) (l : List Nat), Bytes B h vb l → l.length < 90000 → 32 = 32 → call 56 [vb, .int .i64 (.ofNat 32), .bool false] h = .ok (numT .u64 (readG 32 false l 0 0 0)) h)
    : ∃ rv rh, evF1 (progS Try.prog (compDrawn Try.prog)) N call 22 [vb] h = .ok rv rh ∧ (fun (v : AV) (h' : Hp) => h' = h ∧ v = .tuple [.int .u32 ((fun n => .ofNat (n % 4294967296)) (readG 32 false l 0 0 0).1), .int .i64 (.ofNat (readG 32 false l 0 0 0).2.1), .int .i64 (.ofNat (readG 32 false l 0 0 0).2.2)]) rv rh := by
  refine fwalk_ok (o := (.eff 4 (AV.tuple [(vq ((readG 32 false l 0 0 0).1)), (vi ((readG 32 false l 0 0 0).2.1)), (vi ((readG 32 false l 0 0 0).2.2))]) h (.tell 8 (vw (((readG 32 false l 0 0 0).1) % 4294967296)) .fin))) (p := (call 56 [vb, (vi 32), (AV.bool false)] h = .ok (AV.tuple [(vq ((readG 32 false l 0 0 0).1)), (vi ((readG 32 false l 0 0 0).2.1)), (vi ((readG 32 false l 0 0 0).2.2))]) h ∧ (evQ (.toInt .u32 (.const (vq ((readG 32 false l 0 0 0).1)))) .lf H0 = .ok (vw (((readG 32 false l 0 0 0).1) % 4294967296)) ∧ (fun (v : AV) (h' : Hp) => h' = h ∧ v = .tuple [.int .u32 ((fun n => .ofNat (n % 4294967296)) (readG 32 false l 0 0 0).1), .int .i64 (.ofNat (readG 32 false l 0 0 0).2.1), .int .i64 (.ofNat (readG 32 false l 0 0 0).2.2)]) (AV.tuple [(vw (((readG 32 false l 0 0 0).1) % 4294967296)), (vi ((readG 32 false l 0 0 0).2.1)), (vi ((readG 32 false l 0 0 0).2.2))]) h))) (by kernel_rfl) ?_
  refine ⟨hread _ _ _ _ hb (by omega) rfl, ?_⟩
  refine ⟨u_conv rfl, ?_⟩
  have g1 : ((readG 32 false l 0 0 0).1) % 4294967296 < 4294967296 := Nat.mod_lt _ (by decide)
  exact ⟨rfl, rfl⟩
end Go.Proofs.Ytejiebbbodealaa
end
section
set_option linter.unusedVariables false
namespace Go.Proofs.Ytejiebbbodealaa
set_option linter.unusedVariables false
open Go Eng
noncomputable abbrev CC (d : Nat) : CallT := evF (sumT [15, 34, 40]) (progS Try.prog (compDrawn Try.prog)) 100000 d
theorem s_last (d : Nat) : LastS (CC (d + 1)) 75 := fun x left s h hx h1 h2 => by
  rw [CC, evF_at (sumT_none rfl)]
  obtain ⟨v, h', e, rfl, rfl⟩ := last_walk (call := CC d) (N := 100000) (h := h) (sg := s) hx h1 h2
  exact e
theorem s_read (d : Nat) : ReadS (CC (d + 2)) 56 fun size sg l => readG size sg l 0 0 0 := fun B h vb l size sg hb hl hs => by
  rw [CC, evF_at (sumT_none rfl)]
  obtain ⟨v, h', e, rfl, rfl⟩ := read_walk (call := CC (d + 1)) (N := 100000) (h := h) (sg := sg) (size := size) hb (by omega) (by omega) (by omega) (s_last d) (by omega)
  exact e
theorem s_clone (d : Nat) : CloneS (CC (d + 1)) 59 := fun {B h vb l} hB hl hb => by
  rw [CC, evF_at (sumT_none rfl)]
  exact clone_walk (call := CC d) (N := 100000) hB hl hb
theorem s_put (d : Nat) : JoinS (CC (d + 2)) 55 := fun {B h vb vl l m} hB hb hm hl hl2 => by
  rw [CC, evF_at (sumT_none rfl)]
  exact put_walk (call := CC (d + 1)) (N := 100000) hB hb hm hl hl2 (s_clone d)
theorem s_putU (d : Nat) : PutUS (CC (d + 3)) 16 := fun {B h vb l v} hB hb hl hv => by
  rw [CC, evF_at (sumT_none rfl)]
  exact putU_walk (call := CC (d + 2)) (N := 100000) hB hb hl hv (by decide) (s_put d)
theorem s_U32 (d : Nat) : NumS (CC (d + 3)) 22 32 false .u32 (fun n => .ofNat (n % 4294967296)) := fun {B h vb l} hb hl => by
  rw [CC, evF_at (sumT_none rfl)]
  obtain ⟨v, h', e, rfl, rfl⟩ := U32_walk (call := CC (d + 2)) (N := 100000) (h := h) hb hl (fun B h vb l hb hl _ => s_read d B h vb l 32 false hb hl (by decide))
  exact e
theorem begun15 : Eng.isTrue (Eng.evF Eng.noM (progS Try.prog (compDrawn Try.prog)) 1000 40 15 [] Eng.H0) = true := by kernel_rfl
theorem begun34 : Eng.isTrue (Eng.evF Eng.noM (progS Try.prog (compDrawn Try.prog)) 1000 40 34 [] Eng.H0) = true := by kernel_rfl
theorem begun40 : Eng.isTrue (Eng.evF Eng.noM (progS Try.prog (compDrawn Try.prog)) 1000 40 40 [] Eng.H0) = true := by kernel_rfl
theorem trues : Eng.Trues Try.prog [15, 34, 40] := fun f hf => by
  simp only [List.mem_cons, List.not_mem_nil, or_false] at hf
  rcases hf with rfl | rfl | rfl
  · exact Eng.trues_one Eng.compDrawn_ok Eng.noM_ok begun15
  · exact Eng.trues_one Eng.compDrawn_ok Eng.noM_ok begun34
  · exact Eng.trues_one Eng.compDrawn_ok Eng.noM_ok begun40
end Go.Proofs.Ytejiebbbodealaa
end
