import Derived.Test.YtpelnanckmjoaaaB2
import Derived.ChangeSlices
import Derived.WideShapes
import Derived.SizedLaws
import Derived.Test.YtpelnanckmjoaaaRows
import Derived.WalkKit
section
set_option linter.unusedVariables false
set_option linter.unusedSimpArgs false
namespace Eng
open Go Go.RowKit
section
variable {call : CallT} {callW : CallW} {N : Nat}
theorem peel_ok : ∀ {r : Orc} {K : Orc → Prop}, peel r K → ∃ r', K r' := by
  intro r K
  induction r with
  | exi n f ih => intro h; obtain ⟨x, h⟩ := (show ∃ x, peel (f x) K from h); exact ih x h
  | dis n a b ia ib =>
    intro h
    rcases (show peel a K ∨ peel b K from h) with h | h
    · exact ia h
    · exact ib h
  | _ => exact fun h => ⟨_, h⟩
theorem step_ok {c : Nat} {r : Orc} {now : Orc → Prop} {go : Nat → Orc → Prop} (h : step c r now go) : (∃ r', now r') ∨ ∃ m, go m r := by
  cases c with
  | zero => exact .inl (peel_ok h)
  | succ m => exact .inr ⟨m, h⟩
theorem okv {o : OV} {k : AV → Prop} (h : o.cs False k) : ∃ v, o = .ok v ∧ k v := by
  cases o with
  | no => exact h.elim
  | ok v => exact ⟨v, rfl, h⟩
theorem okr {o : RV} {k : AV → Hp → Prop} (h : o.cs False k) : ∃ v h', o = .ok v h' ∧ k v h' := by
  cases o with
  | no => exact h.elim
  | ok v h' => exact ⟨v, h', rfl, h⟩
theorem okb {v : AV} {k : Bool → Prop} (h : (avB v).cs False k) : ∃ b, v = .bool b ∧ k b := by
  cases v <;> first | exact h.elim | exact ⟨_, rfl, h⟩
theorem qW_ok {o : QOp} {t : T} {h : Hp} {c : Nat} {r : Orc} {k : KV} (e : qW o t h c r k) : ∃ v c' r', evQ o t h = .ok v ∧ k v c' r' := by
  rcases step_ok e with ⟨r, e⟩ | ⟨m, e⟩
  · cases r with
    | fin => obtain ⟨v, h1, h2⟩ := okv e; exact ⟨v, _, _, h1, h2⟩
    | tell n x r => exact ⟨x, _, _, e.1, e.2⟩
    | fork n a b =>
      obtain ⟨v, h1, h2⟩ := okv (show (evQ o t h).cs False (fun v => (avB v).cs False fun b' => (b' = true → k (.bool true) a.n a) ∧ (b' = false → k (.bool false) b.n b)) from e)
      obtain ⟨b', rfl, h3⟩ := okb h2
      cases b' with
      | true => exact ⟨_, _, _, h1, h3.1 rfl⟩
      | false => exact ⟨_, _, _, h1, h3.2 rfl⟩
    | eff n x h r => exact False.elim e
    | lp n s r => exact False.elim e
    | again n r => exact False.elim e
    | goal n r =>
      obtain ⟨v, h1, h2⟩ := okv (show (evQ o t h).cs False (fun v => (avB v).cs False fun b' => b' = true ∧ k (.bool true) r.n r) from e)
      obtain ⟨b', rfl, rfl, h3⟩ := okb h2
      exact ⟨_, _, _, h1, h3⟩
    | effx n x r => exact False.elim e
    | lpx n x r => exact False.elim e
    | ell n m x r => exact False.elim e
    | agn n r => exact False.elim e
    | exi n f => obtain ⟨v, h1, h2⟩ := okv e; exact ⟨v, _, _, h1, h2⟩
    | dis n a b => obtain ⟨v, h1, h2⟩ := okv e; exact ⟨v, _, _, h1, h2⟩
  · obtain ⟨v, h1, h2⟩ := okv e; exact ⟨v, _, _, h1, h2⟩
def CallOk (call : CallT) (callW : CallW) : Prop := ∀ g args h c r k, callW g args h c r k → ∃ v h' c' r', call g args h = .ok v h' ∧ k v h' c' r'
theorem eW_ok (hc : CallOk call callW) {o : EOp} {t : T} {h : Hp} {c : Nat} {r : Orc} {k : KR} (e : eW call callW o t h c r k) : ∃ v h' c' r', evE o call t h = .ok v h' ∧ k v h' c' r' := by
  have go : ∀ c r, goE callW o t h k c r → ∃ v h' c' r', evE o call t h = .ok v h' ∧ k v h' c' r' := by
    intro c r e
    cases o with
    | call f xs =>
      show ∃ v h' c' r', ((evX f t).asFunc RV.no fun g a b => call g (app a (app (evXs xs t) b)) h) = .ok v h' ∧ k v h' c' r'
      have e : (evX f t).asFunc False fun g a b => callW g (app a (app (evXs xs t) b)) h c r k := e
      unfold AV.asFunc at e ⊢
      cases hf : avF (evX f t) with
      | no => rw [hf] at e; exact e.elim
      | nil => rw [hf] at e; exact e.elim
      | other => rw [hf] at e; exact e.elim
      | fn g a b => rw [hf] at e; exact hc _ _ _ _ _ _ e
    | _ => obtain ⟨v, h', h1, h2⟩ := okr e; exact ⟨v, h', _, _, h1, h2⟩
  rcases step_ok (show step c r _ _ from e) with ⟨r, e⟩ | ⟨m, e⟩
  · cases r with
    | fin => exact go _ _ e
    | exi n f => exact go _ _ e
    | dis n a b => exact go _ _ e
    | eff n x h' r => exact ⟨x, h', _, _, e.1, e.2⟩
    | effx n x r => obtain ⟨w, h1, h2⟩ := e; exact ⟨x w, w.h, _, _, h1, h2⟩
    | _ => exact False.elim e
  · exact go _ _ e
theorem lW_ok {o : LOp} {t : T} {c : Nat} {r : Orc} {k : KL} (e : lW o t c r k) : ∃ m x c' r', evL o t = .ok m x ∧ k m x c' r' := by
  have go : ∀ c r, ((evL o t).cs False fun m x => k m x c r) → ∃ m x c' r', evL o t = .ok m x ∧ k m x c' r' := fun c r e => by
    cases hl : evL o t with
    | no => rw [hl] at e; exact e.elim
    | ok m x => rw [hl] at e; exact ⟨m, x, _, _, rfl, e⟩
  rcases step_ok (show step c r _ _ from e) with ⟨r, e⟩ | ⟨m, e⟩
  · cases r with
    | fin => exact go _ _ e
    | exi n f => exact go _ _ e
    | dis n a b => exact go _ _ e
    | ell n m x r => exact ⟨m, x, _, _, e.1, e.2⟩
    | _ => exact False.elim e
  · exact go _ _ e
theorem runW_ok (hc : CallOk call callW) {op : AOp} {d : Option Nat} {t : T} {h : Hp} {c : Nat} {r : Orc} {k : KT} (e : runW call callW op d t h c r k) : ∃ t' h' c' r', runA op d call t h = .ok t' h' ∧ k t' h' c' r' := by
  cases op with
  | q o =>
    obtain ⟨v, c', r', h1, h2⟩ := qW_ok (show qW o t h c r _ from e)
    refine ⟨_, _, c', r', ?_, h2⟩
    show (evQ o t h).then _ = _
    rw [h1]; rfl
  | l o =>
    obtain ⟨m, x, c', r', h1, h2⟩ := lW_ok (show lW o t c r _ from e)
    show ∃ t' h' c' r', ((evL o t).then fun m x => .ok (putT d (mkAt m h.next) t) (hpush h x)) = _ ∧ _
    rw [h1]; exact ⟨_, _, _, _, rfl, h2⟩
  | e o =>
    obtain ⟨v, h', c', r', h1, h2⟩ := eW_ok hc (show eW call callW o t h c r _ from e)
    refine ⟨_, _, c', r', ?_, h2⟩
    show (evE o call t h).then _ = _
    rw [h1]; rfl
theorem oW_ok (hc : CallOk call callW) {o : AO} {t : T} {h : Hp} {c : Nat} {r : Orc} {k : KT} (e : oW call callW o t h c r k) : ∃ t' h' c' r', evO call o t h = .ok t' h' ∧ k t' h' c' r' := by
  obtain ⟨dst, op, g⟩ := o
  cases g with
  | none => exact runW_ok hc e
  | some g =>
    have e : bc (wanted (some g) t) (runW call callW op dst t h c r k) (k (putT dst undef t) h c r) := e
    show ∃ t' h' c' r', bc (wanted (some g) t) (runA op dst call t h) (.ok (putT dst undef t) h) = .ok t' h' ∧ _
    cases hw : wanted (some g) t with
    | true => rw [hw] at e; exact runW_ok hc e
    | false => rw [hw] at e; exact ⟨_, _, _, _, rfl, e⟩
theorem osW_ok (hc : CallOk call callW) : ∀ (os : List AO) {t : T} {h : Hp} {c : Nat} {r : Orc} {k : KT}, osW call callW os t h c r k → ∃ t' h' c' r', evOs call os t h = .ok t' h' ∧ k t' h' c' r'
  | [], t, h, c, r, k, e => ⟨_, _, _, _, rfl, e⟩
  | o :: os, t, h, c, r, k, e => by
    obtain ⟨t1, h1, c1, r1, e1, e2⟩ := oW_ok hc (show oW call callW o t h c r (fun t h c r => osW call callW os t h c r k) from e)
    obtain ⟨t2, h2, c2, r2, e3, e4⟩ := osW_ok hc os e2
    refine ⟨t2, h2, c2, r2, ?_, e4⟩
    show (evO call o t h).then (evOs call os) = _
    rw [e1]; exact e3
theorem stageW_ok {o : AO} {hi : Nat} {t : T} {h : Hp} {ps : List PD} {c : Nat} {r : Orc} {k : KP} (e : stageW o hi t h ps c r k) :
    ∃ t' h' ps' c' r', (∀ kk : T → Hp → List PD → RT, stageO o hi t h ps kk = kk t' h' ps') ∧ k t' h' ps' c' r' := by
  unfold stageW at e
  unfold stageO
  cases hw : wanted o.guard t with
  | false => rw [hw] at e; exact ⟨_, _, _, _, _, fun _ => rfl, e⟩
  | true =>
    rw [hw] at e
    obtain ⟨dst, op, g⟩ := o
    cases op with
    | q f =>
      obtain ⟨v, c', r', h1, h2⟩ := qW_ok (show qW f t h c r _ from e)
      refine ⟨_, _, _, c', r', fun kk => ?_, h2⟩
      show (evQ f t h).then _ = _
      rw [h1]; rfl
    | l f =>
      obtain ⟨m, x, c', r', h1, h2⟩ := lW_ok (show lW f t c r _ from e)
      show ∃ t' h' ps' c' r', (∀ kk : T → Hp → List PD → RT, ((evL f t).then fun m x => kk (putT dst (mkAt m h.next) t) (hpush h x) ps) = kk t' h' ps') ∧ _
      rw [h1]; exact ⟨_, _, _, _, _, fun _ => rfl, h2⟩
    | e f => exact False.elim e
theorem stagesW_ok : ∀ (os : List (AO × Nat)) {t : T} {h : Hp} {ps : List PD} {c : Nat} {r : Orc} {k : KP}, stagesW os t h ps c r k →
    ∃ t' h' ps' c' r', (∀ kk : T → Hp → List PD → RT, stageOs os t h ps kk = kk t' h' ps') ∧ k t' h' ps' c' r'
  | [], t, h, ps, c, r, k, e => ⟨_, _, _, _, _, fun _ => rfl, e⟩
  | o :: os, t, h, ps, c, r, k, e => by
    obtain ⟨t1, h1, ps1, c1, r1, e1, e2⟩ := stageW_ok (show stageW o.1 o.2 t h ps c r (fun t h ps c r => stagesW os t h ps c r k) from e)
    obtain ⟨t2, h2, ps2, c2, r2, e3, e4⟩ := stagesW_ok os e2
    refine ⟨t2, h2, ps2, c2, r2, fun kk => ?_, e4⟩
    show stageO o.1 o.2 t h ps (fun t h ps => stageOs os t h ps kk) = _
    rw [e1, e3]
theorem bcF {b : Bool} {K : Prop} (h : bc b K False) : b = true ∧ K := by
  cases b with
  | true => exact ⟨rfl, h⟩
  | false => exact h.elim
mutual
theorem avC_ok : ∀ (v u : AV) {K : Prop}, avC v u K → avEq v u = true ∧ K
  | .bool b, u, K, e => by
    cases u <;> first | exact False.elim e | skip
    exact bcF e
  | .int k n, u, K, e => by
    cases u <;> first | exact False.elim e | skip
    rename_i k' m
    obtain ⟨h1, rfl, h3⟩ := bcF (show bc (ikEq k k') (n = m ∧ K) False from e)
    refine ⟨?_, h3⟩
    show bc (ikEq k k') (eqI n n) false = true
    rw [h1, eqI_eq]; simp
  | .str s, u, K, e => by
    cases u <;> first | exact False.elim e | skip
    obtain ⟨rfl, h⟩ := (show s = _ ∧ K from e)
    refine ⟨?_, h⟩
    show strEq s s = true
    rw [strEq_iff]; simp
  | .nilPtr, u, K, e => by cases u <;> first | exact ⟨rfl, e⟩ | exact False.elim e
  | .ptr b o, u, K, e => by
    cases u <;> first | exact False.elim e | skip
    rename_i b' o'
    obtain ⟨h1, e⟩ := bcF (show bc (Nat.beq b b') (bc (Nat.beq o o') K False) False from e)
    obtain ⟨h2, e⟩ := bcF e
    refine ⟨?_, e⟩
    show bc (Nat.beq b b') (Nat.beq o o') false = true
    rw [h1, h2]; rfl
  | .nilSlice, u, K, e => by cases u <;> first | exact ⟨rfl, e⟩ | exact False.elim e
  | .slice b o l c s x, u, K, e => by
    cases u <;> first | exact False.elim e | skip
    rename_i b' o' l' c' s' x'
    obtain ⟨h1, e⟩ := bcF (show bc (Nat.beq b b') (bc (Nat.beq o o') (bc (Nat.beq l l') (bc (Nat.beq c c') (bc (Nat.beq s s') (bc (bc x x' (notB x')) K False) False) False) False) False) False from e)
    obtain ⟨h2, e⟩ := bcF e
    obtain ⟨h3, e⟩ := bcF e
    obtain ⟨h4, e⟩ := bcF e
    obtain ⟨h5, e⟩ := bcF e
    obtain ⟨h6, e⟩ := bcF e
    refine ⟨?_, e⟩
    show bc (Nat.beq b b') (bc (Nat.beq o o') (bc (Nat.beq l l') (bc (Nat.beq c c') (bc (Nat.beq s s') (bc x x' (notB x')) false) false) false) false) false = true
    rw [h1, h2, h3, h4, h5, h6]; rfl
  | .nilMap, u, K, e => by cases u <;> first | exact ⟨rfl, e⟩ | exact False.elim e
  | .map b, u, K, e => by
    cases u <;> first | exact False.elim e | skip
    exact bcF e
  | .func fn a b, u, K, e => by
    have e : (fnView fn a b).cs False False (fun f _ _ => (avF u).cs False False (fun f' a' b' => bc (Nat.beq f f') (avCs a a' (avCs b b' K)) False) False) False := e
    show (fnView fn a b).cs false false (fun f _ _ => (avF u).cs false false (fun f' a' b' => bc (Nat.beq f f') (bc (avEqs a a') (avEqs b b') false) false) false) false = true ∧ K
    cases hf : fnView fn a b with
    | no => rw [hf] at e; exact False.elim e
    | nil => rw [hf] at e; exact False.elim e
    | other => rw [hf] at e; exact False.elim e
    | fn f x y =>
      rw [hf] at e
      cases hu : avF u with
      | no => rw [hu] at e; exact False.elim e
      | nil => rw [hu] at e; exact False.elim e
      | other => rw [hu] at e; exact False.elim e
      | fn f' a' b' =>
        rw [hu] at e
        obtain ⟨h1, e⟩ := bcF (show bc (Nat.beq f f') (avCs a a' (avCs b b' K)) False from e)
        obtain ⟨h2, e⟩ := avCs_ok a a' e
        obtain ⟨h3, e⟩ := avCs_ok b b' e
        refine ⟨?_, e⟩
        show bc (Nat.beq f f') (bc (avEqs a a') (avEqs b b') false) false = true
        rw [h1, h2, h3]; rfl
  | .nilFunc, u, K, e => by
    have e : (avF u).cs False K (fun _ _ _ => False) False := e
    show (avF u).cs false true (fun _ _ _ => false) false = true ∧ K
    cases hu : avF u with
    | nil => rw [hu] at e; exact ⟨rfl, e⟩
    | _ => rw [hu] at e; exact False.elim e
  | .iface t v, u, K, e => by
    cases u <;> first | exact False.elim e | skip
    rename_i t' w
    obtain ⟨h1, e⟩ := bcF (show bc (Nat.beq t t') (avC v w K) False from e)
    obtain ⟨h2, e⟩ := avC_ok v w e
    refine ⟨?_, e⟩
    show bc (Nat.beq t t') (avEq v w) false = true
    rw [h1, h2]; rfl
  | .nilIface, u, K, e => by cases u <;> first | exact ⟨rfl, e⟩ | exact False.elim e
  | .agg l, u, K, e => by
    cases u <;> first | exact False.elim e | skip
    exact avCs_ok l _ e
  | .tuple l, u, K, e => by
    cases u <;> first | exact False.elim e | skip
    exact avCs_ok l _ e
theorem avCs_ok : ∀ (l m : List AV) {K : Prop}, avCs l m K → avEqs l m = true ∧ K
  | [], m, K, e => by
    cases m with
    | nil => exact ⟨rfl, e⟩
    | cons _ _ => exact False.elim e
  | a :: l, m, K, e => by
    cases m with
    | nil => exact False.elim e
    | cons b m =>
      obtain ⟨h1, e⟩ := avC_ok a b (show avC a b (avCs l m K) from e)
      obtain ⟨h2, e⟩ := avCs_ok l m e
      refine ⟨?_, e⟩
      show bc (avEq a b) (avEqs l m) false = true
      rw [h1, h2]; rfl
end
theorem agnP_ok : ∀ {ps : List PD} {n : Nat} {h : Hp} {K : Prop}, agnP ps n h K → readAgain ps n h = true ∧ K
  | [], n, h, K, e => ⟨rfl, e⟩
  | p :: ps, n, h, K, e => by
    have e : bc (Nat.blt p.hi n) (agnP ps n h K) ((evQ p.o p.t h).cs False fun v => avC p.v v (agnP ps n h K)) := e
    show bc (bc (Nat.blt p.hi n) true (again p.o p.t p.v h)) (readAgain ps n h) false = true ∧ K
    cases hb : Nat.blt p.hi n with
    | true => rw [hb] at e; exact agnP_ok e
    | false =>
      rw [hb] at e
      obtain ⟨v, h1, h2⟩ := okv (show (evQ p.o p.t h).cs False (fun v => avC p.v v (agnP ps n h K)) from e)
      obtain ⟨h3, h4⟩ := avC_ok _ _ h2
      obtain ⟨h5, h6⟩ := agnP_ok h4
      refine ⟨?_, h6⟩
      show bc ((evQ p.o p.t h).cs false fun v' => avEq p.v v') (readAgain ps n h) false = true
      rw [h1]
      show bc (avEq p.v v) (readAgain ps n h) false = true
      rw [h3, h5]; rfl
theorem againW_ok : ∀ {ps : List PD} {n : Nat} {h : Hp}, againW ps n h → readAgain ps n h = true
  | [], n, h, _ => rfl
  | p :: ps, n, h, e => by
    have e : bc (Nat.blt p.hi n) (againW ps n h) (again p.o p.t p.v h = true ∧ againW ps n h) := e
    show bc (bc (Nat.blt p.hi n) true (again p.o p.t p.v h)) (readAgain ps n h) false = true
    cases hb : Nat.blt p.hi n with
    | true => rw [hb] at e; exact againW_ok e
    | false =>
      rw [hb] at e
      show bc (again p.o p.t p.v h) (readAgain ps n h) false = true
      rw [e.1]; exact againW_ok e.2
theorem dsW_ok (hc : CallOk call callW) : ∀ (l : List DS) {n : Nat} {t : T} {h : Hp} {ps : List PD} {c : Nat} {r : Orc} {k : KT}, dsW call callW l n t h ps c r k →
    ∃ t' h' c' r', evDs call l n t h ps = .ok t' h' ∧ k t' h' c' r'
  | [], n, t, h, ps, c, r, k, e => False.elim e
  | s :: l, n, t, h, ps, c, r, k, e => by
    obtain ⟨t1, h1, ps1, c1, r1, e1, e2⟩ := stagesW_ok s.os (show stagesW s.os t h ps c r _ from e)
    have go : ∀ c r, readAgain ps1 n h1 = true → (ocase (k t1 h1 c r) (fun e => oW call callW e t1 h1 c r fun t h c r => dsW call callW l (Nat.succ n) t h ps1 c r k) s.e : Prop) →
        ∃ t' h' c' r', evDs call (s :: l) n t h ps = .ok t' h' ∧ k t' h' c' r' := by
      intro c r hr e
      have key : evDs call (s :: l) n t h ps = ocase (.ok t1 h1) (fun e => (evO call e t1 h1).then fun t h => evDs call l (Nat.succ n) t h ps1) s.e := by
        show stageOs s.os t h ps _ = _
        rw [e1]
        show bc (readAgain ps1 n h1) _ _ = _
        rw [hr]; rfl
      rw [key]
      cases hs : s.e with
      | none => rw [hs] at e; exact ⟨_, _, _, _, rfl, e⟩
      | some e' =>
        rw [hs] at e
        obtain ⟨t2, h2, c2, r2, e3, e4⟩ := oW_ok hc (show oW call callW e' t1 h1 c r _ from e)
        obtain ⟨t3, h3, c3, r3, e5, e6⟩ := dsW_ok hc l e4
        refine ⟨t3, h3, c3, r3, ?_, e6⟩
        show (evO call e' t1 h1).then _ = _
        rw [e3]; exact e5
    have hbc : ∀ {b : Bool} {p : Prop}, bc b p False → b = true ∧ p := by
      intro b p e
      cases b with
      | true => exact ⟨rfl, e⟩
      | false => exact False.elim e
    rcases step_ok e2 with ⟨r1, e2⟩ | ⟨m, e2⟩
    · cases r1 with
      | fin => obtain ⟨hr, e3⟩ := hbc e2; exact go _ _ hr e3
      | exi n f => obtain ⟨hr, e3⟩ := hbc e2; exact go _ _ hr e3
      | dis n a b => obtain ⟨hr, e3⟩ := hbc e2; exact go _ _ hr e3
      | again n' r' => exact go _ _ (againW_ok e2.1) e2.2
      | agn n' r' => exact go _ _ (agnP_ok e2).1 (agnP_ok e2).2
      | _ => exact False.elim e2
    · obtain ⟨hr, e3⟩ := hbc e2; exact go _ _ hr e3
theorem oks {s : RS} {a : T → Hp → Prop} {b : Nat → T → Hp → Prop} {d : T → Hp → Prop} (e : s.cs False a b d) : s ≠ .no := by
  rintro rfl; exact e
def CodeOk (res : T → Hp → RS) (w : CodeW) : Prop := ∀ t h c r k, w t h c r k → ∃ s c' r', res t h = s ∧ s ≠ .no ∧ k s c' r'
theorem cW_ok (hc : CallOk call callW) : ∀ (a : AC), CodeOk (evC call N a) (cW call callW N a)
  | .skip => fun t h c r k e => ⟨_, c, r, rfl, nofun, e⟩
  | .region os => fun t h c r k e => by
    obtain ⟨t1, h1, c1, r1, e1, e2⟩ := osW_ok hc os (show osW call callW os t h c r _ from e)
    refine ⟨.nor t1 h1, c1, r1, ?_, nofun, e2⟩
    show (evOs call os t h).done = _
    rw [e1]; rfl
  | .drawn l => fun t h c r k e => by
    obtain ⟨t1, h1, c1, r1, e1, e2⟩ := dsW_ok hc l (show dsW call callW l 0 t h [] c r _ from e)
    refine ⟨.nor t1 h1, c1, r1, ?_, nofun, e2⟩
    show (evDs call l 0 t h []).done = _
    rw [e1]; rfl
  | .seq a b => fun t h c r k e => by
    obtain ⟨s, c1, r1, e1, e2, e3⟩ := cW_ok hc a t h c r _ (show cW call callW N a t h c r (fun s c r => s.cs False (fun t h => cW call callW N b t h c r k) (fun i t h => k (.exit i t h) c r) (fun t h => k (.ret t h) c r)) from e)
    show ∃ s c' r', (evC call N a t h).then (evC call N b) = s ∧ _
    rw [e1]
    cases s with
    | no => exact False.elim e3
    | nor t1 h1 => exact cW_ok hc b t1 h1 c1 r1 k e3
    | exit i t1 h1 => exact ⟨_, c1, r1, rfl, nofun, e3⟩
    | ret t1 h1 => exact ⟨_, c1, r1, rfl, nofun, e3⟩
  | .cond x a b => fun t h c r k e => by
    obtain ⟨v, hv, e1⟩ := okb (show (avB (evX x t)).cs False (fun b' => bc b' (cW call callW N a t h c r k) (cW call callW N b t h c r k)) from e)
    show ∃ s c' r', (evX x t).asBool RS.no (fun b' => bc b' (evC call N a t h) (evC call N b t h)) = s ∧ _
    rw [hv]
    cases v with
    | true => exact cW_ok hc a t h c r k e1
    | false => exact cW_ok hc b t h c r k e1
  | .block i a => fun t h c r k e => by
    obtain ⟨s, c1, r1, e1, e2, e3⟩ := cW_ok hc a t h c r _ (show cW call callW N a t h c r _ from e)
    show ∃ s c' r', (evC call N a t h).block i = s ∧ _
    rw [e1]
    cases s with
    | no => exact False.elim e3
    | nor t1 h1 => exact ⟨_, c1, r1, rfl, nofun, e3⟩
    | ret t1 h1 => exact ⟨_, c1, r1, rfl, nofun, e3⟩
    | exit j t1 h1 =>
      have e3 : bc (Nat.beq j i) (k (.nor t1 h1) c1 r1) (k (.exit j t1 h1) c1 r1) := e3
      show ∃ s c' r', bc (Nat.beq j i) (RS.nor t1 h1) (.exit j t1 h1) = s ∧ _
      cases hb : Nat.beq j i with
      | true => rw [hb] at e3; exact ⟨_, c1, r1, rfl, nofun, e3⟩
      | false => rw [hb] at e3; exact ⟨_, c1, r1, rfl, nofun, e3⟩
  | .loop a => fun t h c r k e => by
    have go : ∀ c r, goL (cW call callW N a) N k t h c r → ∃ s c' r', evC call N (.loop a) t h = s ∧ s ≠ .no ∧ k s c' r' := by
      intro c r e
      show ∃ s c' r', rounds (fun _ _ => RS.no) (fun again t h => (evC call N a t h).then again) N t h = s ∧ _
      have key : ∀ (j : Nat) (t : T) (h : Hp) (c : Nat) (r : Orc), goL (cW call callW N a) j k t h c r →
        ∃ s c' r', rounds (fun _ _ => RS.no) (fun again t h => (evC call N a t h).then again) j t h = s ∧ s ≠ .no ∧ k s c' r' := by
        intro j
        induction j with
        | zero => exact fun t h c r e => False.elim e
        | succ j ih =>
          intro t h c r e
          obtain ⟨s, c1, r1, e1, e2, e3⟩ := cW_ok hc a t h c r _ (show cW call callW N a t h c r _ from e)
          show ∃ s c' r', (evC call N a t h).then (rounds (fun _ _ => RS.no) (fun again t h => (evC call N a t h).then again) j) = s ∧ _
          rw [e1]
          cases s with
          | no => exact False.elim e3
          | nor t1 h1 => exact ih t1 h1 c1 r1 e3
          | exit i t1 h1 => exact ⟨_, c1, r1, rfl, nofun, e3⟩
          | ret t1 h1 => exact ⟨_, c1, r1, rfl, nofun, e3⟩
      exact key N t h c r e
    rcases step_ok (show step c r _ _ from e) with ⟨r, e⟩ | ⟨m, e⟩
    · cases r with
      | fin => exact go _ _ e
      | exi n f => exact go _ _ e
      | dis n a b => exact go _ _ e
      | lp n s r => exact ⟨s, _, _, e.1, oks e.2.1, e.2.2⟩
      | lpx n s r => obtain ⟨w, h1, h2, h3⟩ := e; exact ⟨s w, _, _, h1, oks h2, h3⟩
      | _ => exact False.elim e
    · exact go _ _ e
  | .exit i => fun t h c r k e => ⟨_, c, r, rfl, nofun, e⟩
  | .ret => fun t h c r k e => ⟨_, c, r, rfl, nofun, e⟩
  | .fail w => fun t h c r k e => False.elim e
theorem f1W_ok (hc : CallOk call callW) {S : Nat → Option AF} : CallOk (evF1 S N call) (f1W S N call callW) := fun f args h c r k e => by
  have e : (ocase False (fun fn => bc (Nat.ble (len args) fn.ntmps) (cW call callW N fn.body (frame0 args) h c r fun s c r => s.cs False (fun t h => resW fn.results t h c r k) (fun _ _ _ => False) (fun t h => resW fn.results t h c r k)) False) (S f) : Prop) := e
  show ∃ v h' c' r', ocase RV.no (fun fn => bc (Nat.ble (len args) fn.ntmps) (finish fn.results (evC call N fn.body (frame0 args) h)) .no) (S f) = .ok v h' ∧ _
  cases hf : S f with
  | none => rw [hf] at e; exact False.elim e
  | some fn =>
    rw [hf] at e
    have e : bc (Nat.ble (len args) fn.ntmps) (cW call callW N fn.body (frame0 args) h c r fun s c r => s.cs False (fun t h => resW fn.results t h c r k) (fun _ _ _ => False) (fun t h => resW fn.results t h c r k)) False := e
    show ∃ v h' c' r', bc (Nat.ble (len args) fn.ntmps) (finish fn.results (evC call N fn.body (frame0 args) h)) .no = .ok v h' ∧ _
    cases hb : Nat.ble (len args) fn.ntmps with
    | false => rw [hb] at e; exact False.elim e
    | true =>
      rw [hb] at e
      obtain ⟨s, c1, r1, e1, e2, e3⟩ := cW_ok hc fn.body (frame0 args) h c r _ e
      show ∃ v h' c' r', finish fn.results (evC call N fn.body (frame0 args) h) = .ok v h' ∧ _
      rw [e1]
      cases s with
      | no => exact False.elim e3
      | exit i t1 h1 => exact False.elim e3
      | nor t1 h1 => obtain ⟨v, h', h2, h3⟩ := okr e3; exact ⟨v, h', _, _, h2, h3⟩
      | ret t1 h1 => obtain ⟨v, h', h2, h3⟩ := okr e3; exact ⟨v, h', _, _, h2, h3⟩
end
section
variable {P : Program}
end
end Eng
end
section
set_option linter.unusedVariables false
set_option linter.unusedSimpArgs false
namespace Eng
open Go Go.RowKit
noncomputable def ovT (l : List (Nat × AV)) (t : T) : T := lrec t (fun p _ ih => tset (pathOf p.1) p.2 ih) l
noncomputable def slots (L : List Nat) (t : T) : List (Option AV) := lmap (fun i => tget (pathOf i) t) L
def Has (l : List (Nat × AV)) (t : T) : Prop := slots (l.map (·.1)) t = l.map fun p => some p.2
theorem tset_same {α : Type} : ∀ {p : Pth} {v : α} {t : Tr α}, tget p t = some v → tset p v t = t
  | .e, v, t, h => by
    cases t with
    | lf => cases h
    | nd a l r =>
      have h : a = some v := h
      subst h; rfl
  | .l p, v, t, h => by
    cases t with
    | lf =>
      have h : tget p (.lf : Tr α) = some v := h
      rw [tget_lf] at h; cases h
    | nd a l r =>
      show Tr.nd a (tset p v l) r = _
      rw [tset_same (show tget p l = some v from h)]
  | .r p, v, t, h => by
    cases t with
    | lf =>
      have h : tget p (.lf : Tr α) = some v := h
      rw [tget_lf] at h; cases h
    | nd a l r =>
      show Tr.nd a l (tset p v r) = _
      rw [tset_same (show tget p r = some v from h)]
theorem ovT_eq : ∀ {l : List (Nat × AV)} {t : T}, Has l t → ovT l t = t
  | [], t, _ => rfl
  | p :: l, t, h => by
    obtain ⟨h1, h2⟩ := List.cons.inj (show tget (pathOf p.1) t :: slots (l.map (·.1)) t = some p.2 :: l.map (fun p => some p.2) from h)
    show tset (pathOf p.1) p.2 (ovT l t) = t
    rw [ovT_eq (show Has l t from h2)]
    exact tset_same h1
noncomputable def obsS (L : List Nat) (Kn : List (Option AV) → Hp → Prop) (Ke : Nat → List (Option AV) → Hp → Prop) (Kr : List (Option AV) → Hp → Prop) (s : RS) : Prop :=
  s.cs False (fun t h => Kn (slots L t) h) (fun i t h => Ke i (slots L t) h) (fun t h => Kr (slots L t) h)
theorem CallOk.none (call : CallT) : CallOk call (fun _ _ _ _ _ _ => False) := fun _ _ _ _ _ _ h => h.elim
theorem walk_ok {call : CallT} {N : Nat} {c : AC} {t : T} {h : Hp} {o : Orc} {L : List Nat} {Kn : List (Option AV) → Hp → Prop} {Ke : Nat → List (Option AV) → Hp → Prop} {Kr : List (Option AV) → Hp → Prop} {p : Prop}
    (e : cW call (fun _ _ _ _ _ _ => False) N c t h o.n o (fun s _ _ => obsS L Kn Ke Kr s) = p) (hp : p) : ∃ s, evC call N c t h = s ∧ obsS L Kn Ke Kr s := by
  rw [← e] at hp
  obtain ⟨s, _, _, h1, _, h3⟩ := cW_ok (CallOk.none call) c t h _ _ _ hp
  exact ⟨s, h1, h3⟩
theorem fwalk_ok {call : CallT} {S : Nat → Option AF} {N : Nat} {f : Nat} {args : List AV} {h : Hp} {o : Orc} {K : AV → Hp → Prop} {p : Prop}
    (e : f1W S N call (fun _ _ _ _ _ _ => False) f args h o.n o (fun v h _ _ => K v h) = p) (hp : p) : ∃ v h', evF1 S N call f args h = .ok v h' ∧ K v h' := by
  rw [← e] at hp
  obtain ⟨v, h', _, _, h1, h3⟩ := f1W_ok (CallOk.none call) f args h _ _ _ hp
  exact ⟨v, h', h1, h3⟩
theorem loop_ok {call : CallT} {N : Nat} {body : AC} (L : List Nat) (Inv : Nat → List (Option AV) → Hp → Prop) (Ke : Nat → List (Option AV) → Hp → Prop) (Kr : List (Option AV) → Hp → Prop)
    (step : ∀ n t h, Inv n (slots L t) h → ∃ s, evC call N body t h = s ∧ obsS L (fun l h' => ∃ m, m < n ∧ Inv m l h') Ke Kr s) (n : Nat) (hn : n < N) (t : T) (h : Hp) (h0 : Inv n (slots L t) h) :
    ∃ s, evC call N (.loop body) t h = s ∧ obsS L (fun _ _ => False) Ke Kr s := by
  show ∃ s, rounds (fun _ _ => RS.no) (fun again t h => (evC call N body t h).then again) N t h = s ∧ obsS L (fun _ _ => False) Ke Kr s
  have key : ∀ (j n : Nat), n < j → ∀ t h, Inv n (slots L t) h → ∃ s, rounds (fun _ _ => RS.no) (fun again t h => (evC call N body t h).then again) j t h = s ∧ obsS L (fun _ _ => False) Ke Kr s := by
    intro j
    induction j with
    | zero => exact fun n hn => absurd hn (Nat.not_lt_zero _)
    | succ j ih =>
      intro n hn t h hi
      obtain ⟨s, e, hs⟩ := step n t h hi
      show ∃ s, (evC call N body t h).then (rounds (fun _ _ => RS.no) (fun again t h => (evC call N body t h).then again) j) = s ∧ _
      rw [e]
      cases s with
      | no => exact hs.elim
      | nor t' h' =>
        obtain ⟨m, hm, hi'⟩ := (show ∃ m, m < n ∧ Inv m (slots L t') h' from hs)
        exact ih m (by omega) t' h' hi'
      | exit i t' h' => exact ⟨_, rfl, hs⟩
      | ret t' h' => exact ⟨_, rfl, hs⟩
  exact key N n hn t h h0
theorem ltI_t {a b : Nat} (h : ltI (.ofNat a) (.ofNat b) = true) : a < b := by rw [ltI_eq] at h; simpa using h
theorem ltI_f {a b : Nat} (h : ltI (.ofNat a) (.ofNat b) = false) : b ≤ a := by rw [ltI_eq] at h; simpa using h
theorem eqI_t {a b : Nat} (h : eqI (.ofNat a) (.ofNat b) = true) : a = b := by rw [eqI_eq] at h; have h := eq_of_beq h; exact Int.ofNat.inj h
theorem eqI_f {a b : Nat} (h : eqI (.ofNat a) (.ofNat b) = false) : a ≠ b := fun e => by subst e; rw [eqI_eq] at h; simp at h
theorem notB_t {b : Bool} (h : notB b = true) : b = false := by cases b <;> first | rfl | cases h
theorem notB_f {b : Bool} (h : notB b = false) : b = true := by cases b <;> first | rfl | cases h
theorem wrap_i64 {n : Nat} (h : n < 9223372036854775808) : wrapA .i64 (.ofNat n) = .ofNat n := by
  show bc (Nat.blt n 9223372036854775808) (Int.ofNat n) _ = _
  rw [blt_dec, decide_eq_true h]; rfl
theorem wrapU_nat (m n : Nat) : wrapU m (.ofNat n) = .ofNat (n % m) := by
  show bc (Nat.blt n m) (Int.ofNat n) (.ofNat (Nat.mod n m)) = _
  rw [bc_blt]
  split
  · rw [Nat.mod_eq_of_lt ‹_›]
  · rfl
def uns (k : IntKind) : Bool := match k with | .u8 | .u16 | .u32 | .u64 => true | _ => false
theorem wrap_u {k : IntKind} (hk : uns k = true) (n : Nat) : wrapA k (.ofNat n) = .ofNat (n % modK k) := by
  cases k <;> first | exact wrapU_nat _ _ | cases hk
theorem ikEq_self (k : IntKind) : ikEq k k = true := by cases k <;> rfl
theorem q_add {a b : Nat} (h : a + b < 9223372036854775808) : evQ (.bin .add (.const (.int .i64 (.ofNat a))) (.const (.int .i64 (.ofNat b)))) .lf H0 = .ok (.int .i64 (.ofNat (a + b))) := by
  show OV.ok (.int .i64 (wrapA .i64 (.ofNat (a + b)))) = _
  rw [wrap_i64 h]
theorem q_mul {a b : Nat} (h : a * b < 9223372036854775808) : evQ (.bin .mul (.const (.int .i64 (.ofNat a))) (.const (.int .i64 (.ofNat b)))) .lf H0 = .ok (.int .i64 (.ofNat (a * b))) := by
  show OV.ok (.int .i64 (wrapA .i64 (.ofNat (a * b)))) = _
  rw [wrap_i64 h]
theorem sub_nat {a b : Nat} (h : b ≤ a) : Int.sub (.ofNat a) (.ofNat b) = .ofNat (a - b) := by
  show (Int.ofNat a - Int.ofNat b : Int) = _
  simp only [Int.ofNat_eq_natCast]; omega
theorem q_sub {a b : Nat} (h : b ≤ a) (ha : a < 9223372036854775808) : evQ (.bin .sub (.const (.int .i64 (.ofNat a))) (.const (.int .i64 (.ofNat b)))) .lf H0 = .ok (.int .i64 (.ofNat (a - b))) := by
  show OV.ok (.int .i64 (wrapA .i64 (Int.sub (.ofNat a) (.ofNat b)))) = _
  rw [sub_nat h, wrap_i64 (by omega)]
theorem q_rem {k : IntKind} {a b : Nat} (h : b ≠ 0) : evQ (.bin .rem (.const (.int k (.ofNat a))) (.const (.int k (.ofNat b)))) .lf H0 = .ok (.int k (.ofNat (a % b))) := by
  show bc (ikEq k k) (bc (eqI (.ofNat b) 0) OV.no (.ok (.int k (modA (.ofNat a) (.ofNat b))))) .no = _
  have h5 : eqI (.ofNat b) 0 = false := by rw [eqI_eq]; simp; omega
  rw [ikEq_self, h5]; rfl
theorem modK_pos (k : IntKind) : 0 < modK k := by cases k <;> exact Nat.zero_lt_succ _
theorem u_and {k : IntKind} (hk : uns k = true) {a b : Nat} (ha : a < modK k) (hb : b < modK k) : evQ (.bin .and (.const (.int k (.ofNat a))) (.const (.int k (.ofNat b)))) .lf H0 = .ok (.int k (.ofNat (a &&& b))) := by
  show bc (ikEq k k) (okI k (.ofNat (Nat.land (a % modK k) (b % modK k)))) .no = _
  rw [ikEq_self, Nat.mod_eq_of_lt ha, Nat.mod_eq_of_lt hb]; show OV.ok (.int k (wrapA k (.ofNat (a &&& b)))) = _
  rw [wrap_u hk, Nat.mod_eq_of_lt (Nat.lt_of_le_of_lt Nat.and_le_left ha)]
theorem u_or {k : IntKind} (hk : uns k = true) {a b : Nat} (ha : a < modK k) (hb : b < modK k) : evQ (.bin .or (.const (.int k (.ofNat a))) (.const (.int k (.ofNat b)))) .lf H0 = .ok (.int k (.ofNat (a ||| b))) := by
  show bc (ikEq k k) (okI k (.ofNat (Nat.lor (a % modK k) (b % modK k)))) .no = _
  rw [ikEq_self, Nat.mod_eq_of_lt ha, Nat.mod_eq_of_lt hb]; show OV.ok (.int k (wrapA k (.ofNat (a ||| b)))) = _
  have hp : modK k = 2 ^ k.bits := modK_eq k
  rw [wrap_u hk, Nat.mod_eq_of_lt (by rw [hp] at ha hb ⊢; exact Nat.or_lt_two_pow ha hb)]
theorem u_shl {k : IntKind} (hk : uns k = true) {j : IntKind} {a n : Nat} : evQ (.bin .shl (.const (.int k (.ofNat a))) (.const (.int j (.ofNat n)))) .lf H0 = .ok (.int k (.ofNat (a * 2 ^ n % modK k))) := by
  show OV.ok (.int k (wrapA k (.ofNat (a * 2 ^ cut n (bitsK k))))) = _
  rw [wrap_u hk, cut_eq, bitsK_eq, modK_eq]
  rcases Nat.le_total n k.bits with hn | hn
  · rw [Nat.min_eq_left hn]
  · rw [Nat.min_eq_right hn]
    have : a * 2 ^ n % 2 ^ k.bits = 0 := by
      rw [show n = k.bits + (n - k.bits) by omega, Nat.pow_add, ← Nat.mul_assoc, Nat.mul_right_comm]
      exact Nat.mul_mod_left _ _
    rw [this, Nat.mul_mod_left]
theorem u_shr {k : IntKind} (hk : uns k = true) {j : IntKind} {a n : Nat} (ha : a < modK k) : evQ (.bin .shr (.const (.int k (.ofNat a))) (.const (.int j (.ofNat n)))) .lf H0 = .ok (.int k (.ofNat (a / 2 ^ n))) := by
  show OV.ok (.int k (.ofNat (a / 2 ^ cut n (bitsK k)))) = _
  rw [cut_eq, bitsK_eq]
  rw [modK_eq] at ha
  rcases Nat.le_total n k.bits with hn | hn
  · rw [Nat.min_eq_left hn]
  · rw [Nat.min_eq_right hn, Nat.div_eq_of_lt ha, Nat.div_eq_of_lt (Nat.lt_of_lt_of_le ha (Nat.pow_le_pow_right (by decide) hn))]
theorem u_conv {k : IntKind} (hk : uns k = true) {j : IntKind} {a : Nat} : evQ (.toInt k (.const (.int j (.ofNat a)))) .lf H0 = .ok (.int k (.ofNat (a % modK k))) := by
  show OV.ok (.int k (wrapA k (.ofNat a))) = _
  rw [wrap_u hk]
theorem u_conv' {k : IntKind} (hk : uns k = true) {j : IntKind} {a : Nat} (ha : a < modK k) : evQ (.toInt k (.const (.int j (.ofNat a)))) .lf H0 = .ok (.int k (.ofNat a)) := by
  rw [u_conv hk, Nat.mod_eq_of_lt ha]
theorem i_conv {j : IntKind} {a : Nat} (ha : a < 9223372036854775808) : evQ (.toInt .i64 (.const (.int j (.ofNat a)))) .lf H0 = .ok (.int .i64 (.ofNat a)) := by
  show OV.ok (.int .i64 (wrapA .i64 (.ofNat a))) = _
  rw [wrap_i64 ha]
noncomputable def elemP (v : AV) (k sz : Nat) : AV := v.asSlice .nilPtr .nilPtr fun b o _ _ _ _ => .ptr b (o + k * sz)
noncomputable def partS (v : AV) (lo hi : Nat) : AV := v.asSlice v v fun b o _ c s e => .slice b (o + lo * s) (hi - lo) (c - lo) s e
theorem q_idx {b o n c sz k : Nat} {ex : Bool} (h : k < n) : evQ (.idxAddrSl sz (.const (.slice b o n c sz ex)) (.const (.int .i64 (.ofNat k)))) .lf H0 = .ok (.ptr b (o + k * sz)) := by
  show bc (Nat.beq sz sz) (bc (Nat.blt k n) (OV.ok (.ptr b (o + k * sz))) .no) .no = _
  rw [Nat.beq_refl, blt_dec, decide_eq_true h]; rfl
theorem q_load {h : Hp} {b o : Nat} {cs : List AV} {m : Nat} {w : Own} (hg : hget h b = some (.cells cs m w)) {v : AV} (hv : cs[o]? = some v) : evQ (.loadS (.const (.ptr b o))) .lf h = .ok v := by
  show hcells h b OV.no (fun cs _ _ => ocase .no .ok (nth? cs o)) = _
  unfold hcells
  rw [hg]
  show ocase OV.no .ok (nth? cs o) = _
  rw [nth_eq, hv]; rfl
theorem u8s_eq (l : List Nat) : u8s l = l.map fun n => AV.int .u8 (.ofNat n) := lmap_eq _ _
abbrev vi (n : Nat) : AV := .int .i64 (.ofNat n)
abbrev vb8 (n : Nat) : AV := .int .u8 (.ofNat n)
abbrev vw (n : Nat) : AV := .int .u32 (.ofNat n)
abbrev vq (n : Nat) : AV := .int .u64 (.ofNat n)
end Eng
end
section
set_option linter.unusedVariables false
set_option linter.unusedSimpArgs false
namespace Eng
open Go Go.RowKit
structure Old (B : Nat) (h h' : Hp) : Prop where
  next : h.next ≤ h'.next
  get : ∀ b, b < B → hget h' b = hget h b
theorem Old.refl (B : Nat) (h : Hp) : Old B h h := ⟨Nat.le_refl _, fun _ _ => rfl⟩
theorem Old.trans {B : Nat} {h h' h'' : Hp} (a : Old B h h') (b : Old B h' h'') : Old B h h'' := ⟨Nat.le_trans a.next b.next, fun k hk => (b.get k hk).trans (a.get k hk)⟩
theorem Old.le {B C : Nat} {h h' : Hp} (a : Old B h h') (hc : C ≤ B) : Old C h h' := ⟨a.next, fun k hk => a.get k (by omega)⟩
theorem Old.push {B : Nat} {h : Hp} (hB : B ≤ h.next) (x : Blk) : Old B h (hpush h x) := ⟨Nat.le_succ _, fun k hk => hget_hpush_ne h x (by omega)⟩
theorem Old.set {B b : Nat} {h : Hp} (hB : B ≤ b) (x : Blk) : Old B h (hset h b x) := ⟨Nat.le_refl _, fun k hk => hget_hset_ne h x (by omega)⟩
inductive Owned (sz B : Nat) (h : Hp) : AV → Nat → List AV → Prop
  | nil : Owned sz B h .nilSlice 0 []
  | sl {b n : Nat} {ex : Bool} {w : Own} {L : List AV} (hB : B ≤ b) (hb : b < h.next) (hg : hget h b = some (.cells L (n * sz) w)) (hl : L.length = n * sz) (hw : w = .solo ∨ ∃ p, w = .pair p ∧ (B ≤ p ∧ p < h.next) ∧ p ≠ b) :
    Owned sz B h (.slice b 0 n n sz ex) n L
theorem Owned.push {sz B : Nat} {h : Hp} {s : AV} {n : Nat} {L : List AV} (o : Owned sz B h s n L) (x : Blk) : Owned sz B (hpush h x) s n L := by
  cases o with
  | nil => exact .nil
  | sl hB hb hg hl hw => exact .sl hB (by rw [hpush_next]; omega) (by rw [hget_hpush_ne h x (by omega)]; exact hg) hl (hw.imp id fun ⟨p, h1, h2, h3⟩ => ⟨p, h1, ⟨h2.1, by rw [hpush_next]; omega⟩, h3⟩)
theorem Owned.low {sz B C : Nat} {h : Hp} {s : AV} {n : Nat} {L : List AV} (o : Owned sz B h s n L) (hc : C ≤ B) : Owned sz C h s n L := by
  cases o with
  | nil => exact .nil
  | sl hB hb hg hl hw => exact .sl (by omega) hb hg hl (by rcases hw with h | ⟨p, h1, h2, h3⟩; exact .inl h; exact .inr ⟨p, h1, by omega, h3⟩)
theorem Owned.old {sz B C : Nat} {h h' : Hp} {s : AV} {n : Nat} {L : List AV} (o : Owned sz B h s n L) (a : Old C h h') (hc : h.next ≤ C) : Owned sz B h' s n L := by
  cases o with
  | nil => exact .nil
  | sl hB hb hg hl hw => exact .sl hB (by have := a.next; omega) (by rw [a.get _ (by omega)]; exact hg) hl (hw.imp id fun ⟨p, h1, h2, h3⟩ => ⟨p, h1, ⟨h2.1, by have := a.next; omega⟩, h3⟩)
theorem Owned.blk {sz B : Nat} {h : Hp} {s : AV} {n : Nat} {L : List AV} (o : Owned sz B h s n L) : ∀ b o' l c z ex, s = .slice b o' l c z ex → b < h.next := by
  cases o with
  | nil => intro b o' l c z ex e; cases e
  | sl hB hb hg hl hw => intro b o' l c z ex e; cases e; exact hb
theorem Owned.len {sz B n : Nat} {h : Hp} {v : AV} {L : List AV} (o : Owned sz B h v n L) : L.length = n * sz := by
  cases o with
  | nil => simp
  | sl hB hb hg hl hw => exact hl
theorem rdN_of {β : Type} {h : Hp} {b o n m : Nat} {cs : List AV} {w : Own} {z : β} {k : List AV → β} (hg : hget h b = some (.cells cs m w)) (hm : o + n ≤ m) (hc : cs.length = m) : rdN h b o n z k = k ((cs.drop o).take n) := by
  show hcells h b z _ = _
  unfold hcells
  rw [hg]
  show bc (Nat.ble (o + n) m) (k (part cs m o n)) z = _
  rw [ble_dec, decide_eq_true hm, part_eq hc hm]; rfl
inductive Bytes (B : Nat) (h : Hp) : AV → List Nat → Prop
  | nil : Bytes B h .nilSlice []
  | sl {b o c : Nat} {ex : Bool} {cs : List AV} {m : Nat} {w : Own} {l : List Nat} (hB : b < B) (hg : hget h b = some (.cells cs m w)) (hcl : cs.length = m) (hl : (cs.drop o).take l.length = u8s l) (hm : o + l.length ≤ m) (hc : l.length ≤ c) (hb : ∀ x ∈ l, x < 256) :
    Bytes B h (.slice b o l.length c 1 ex) l
theorem Bytes.lt {B : Nat} {h : Hp} {v : AV} {l : List Nat} (o : Bytes B h v l) : ∀ x ∈ l, x < 256 := by
  cases o with
  | nil => simp
  | sl hB hg hcl hl hm hc hb => exact hb
theorem q_len {B : Nat} {h : Hp} {v : AV} {l : List Nat} (o : Bytes B h v l) : evQ (.lenL (.const v)) .lf H0 = .ok (.int .i64 (.ofNat l.length)) := by
  cases o <;> rfl
theorem q_idxB {B : Nat} {h : Hp} {v : AV} {l : List Nat} (o : Bytes B h v l) {k : Nat} (hk : k < l.length) : evQ (.idxAddrSl 1 (.const v) (.const (.int .i64 (.ofNat k)))) .lf H0 = .ok (elemP v k 1) := by
  cases o with
  | nil => exact absurd hk (Nat.not_lt_zero _)
  | sl hB hg hcl hl hm hc hb => exact q_idx hk
theorem q_byte {B : Nat} {h : Hp} {v : AV} {l : List Nat} (o : Bytes B h v l) {k : Nat} (hk : k < l.length) : evQ (.loadS (.const (elemP v k 1))) .lf h = .ok (.int .u8 (.ofNat (l.getD k 0))) := by
  cases o with
  | nil => exact absurd hk (Nat.not_lt_zero _)
  | @sl b o c ex cs m w l hB hg hcl hl hm hc hb =>
    refine q_load hg ?_
    have h1 : ((cs.drop o).take l.length)[k]? = (u8s l)[k]? := by rw [hl]
    rw [List.getElem?_take_of_lt hk, List.getElem?_drop, u8s_eq, List.getElem?_map] at h1
    rw [Nat.mul_one, h1, List.getElem?_eq_getElem hk]
    simp [List.getD_eq_getElem?_getD, List.getElem?_eq_getElem hk]
theorem Owned.bytes {B C : Nat} {h : Hp} {s : AV} {n : Nat} {l : List Nat} (o : Owned 1 B h s n (u8s l)) (hb : ∀ x ∈ l, x < 256) (hC : h.next ≤ C) : Bytes C h s l := by
  generalize hL : u8s l = L at o
  cases o with
  | nil =>
    cases l with
    | nil => exact .nil
    | cons x l => cases hL
  | @sl b n ex w L hB hb' hg hl hw =>
    subst hL
    have hn : l.length = n := by rw [u8s_length] at hl; omega
    subst hn
    exact .sl (by omega) hg hl (by rw [List.drop_zero, List.take_of_length_le (by rw [u8s_length]; omega)]) (by omega) (Nat.le_refl _) hb
theorem Bytes.old {B : Nat} {h h' : Hp} {v : AV} {l : List Nat} (o : Bytes B h v l) (a : Old B h h') : Bytes B h' v l := by
  cases o with
  | nil => exact .nil
  | sl hB hg hcl hl hm hc hb => exact .sl hB (by rw [a.get _ hB]; exact hg) hcl hl hm hc hb
theorem Bytes.up {B C : Nat} {h : Hp} {v : AV} {l : List Nat} (o : Bytes B h v l) (hC : B ≤ C) : Bytes C h v l := by
  cases o with
  | nil => exact .nil
  | sl hB hg hcl hl hm hc hb => exact .sl (by omega) hg hcl hl hm hc hb
theorem Bytes.part {B : Nat} {h : Hp} {v : AV} {l : List Nat} (o : Bytes B h v l) {lo hi : Nat} (h1 : lo ≤ hi) (h2 : hi ≤ l.length) : Bytes B h (partS v lo hi) ((l.take hi).drop lo) := by
  cases o with
  | nil =>
    have : hi = 0 := Nat.le_zero.1 h2
    subst this
    obtain rfl : lo = 0 := Nat.le_zero.1 h1
    exact .nil
  | @sl b o c ex cs m w l hB hg hcl hl hm hc hb =>
    have hlen : ((l.take hi).drop lo).length = hi - lo := by rw [List.length_drop, List.length_take]; omega
    have key : partS (.slice b o l.length c 1 ex) lo hi = .slice b (o + lo) ((l.take hi).drop lo).length (c - lo) 1 ex := by
      rw [hlen]
      show AV.slice b (o + lo * 1) (hi - lo) (c - lo) 1 ex = _
      rw [Nat.mul_one]
    rw [key]
    refine .sl hB hg hcl ?_ (by rw [hlen]; omega) (by rw [hlen]; omega) (fun x hx => hb x (List.mem_of_mem_take (List.mem_of_mem_drop hx)))
    rw [hlen]
    have e1 : (cs.drop (o + lo)).take (hi - lo) = (((cs.drop o).take l.length).take hi).drop lo := by
      rw [List.take_take, List.drop_take, List.drop_drop, Nat.min_eq_left h2]
    rw [e1, hl, u8s_eq, u8s_eq, ← List.map_take, ← List.map_drop]
theorem q_sliceFrom {B : Nat} {h : Hp} {v : AV} {l : List Nat} (o : Bytes B h v l) {lo : Nat} (h1 : lo ≤ l.length) :
    evQ (.sliceSl 1 (.const v) (some (.const (.int .i64 (.ofNat lo)))) none none) .lf H0 = .ok (partS v lo l.length) := by
  cases o with
  | nil =>
    obtain rfl : lo = 0 := Nat.le_zero.1 h1
    rfl
  | @sl b o c ex cs m w l hB hg hcl hl hm hc hb =>
    show bc (Nat.beq 1 1) (bc (Nat.ble lo l.length) (OV.ok (.slice b (o + lo * 1) (l.length - lo) (c - lo) 1 (ocase ex (fun _ => true) (none : Option AX)))) .no) .no = _
    rw [ble_dec, decide_eq_true h1]; rfl
end Eng
namespace Eng
open Go Go.RowKit
end Eng
namespace Eng
open Go Go.RowKit
theorem part_from {B : Nat} {h : Hp} {v : AV} {l : List Nat} (o : Bytes B h v l) {lo : Nat} (h1 : lo ≤ l.length) : Bytes B h (partS v lo l.length) (l.drop lo) := by
  have := o.part h1 (Nat.le_refl _)
  rwa [List.take_of_length_le (Nat.le_refl _)] at this
theorem part_to {B : Nat} {h : Hp} {v : AV} {l : List Nat} (o : Bytes B h v l) {hi : Nat} (h1 : hi ≤ l.length) : Bytes B h (partS v 0 hi) (l.take hi) := by
  have := o.part (Nat.zero_le hi) h1
  rwa [List.drop_zero] at this
end Eng
namespace Eng
open Go Go.RowKit
end Eng
end
section
set_option linter.unusedVariables false
set_option linter.unusedSimpArgs false
namespace Eng
open Go Go.RowKit
theorem heap_of : ∀ (n : Nat) (f : Nat → Blk), ∃ h : Hp, h.next = n ∧ (∀ b, b < n → hget h b = some (f b)) ∧ ∀ b, n ≤ b → hget h b = none
  | 0, f => ⟨⟨0, .lf⟩, rfl, fun b hb => absurd hb (Nat.not_lt_zero _), fun b _ => tget_lf _⟩
  | n + 1, f => by
    obtain ⟨h, h1, h2, h3⟩ := heap_of n f
    refine ⟨hpush h (f n), by rw [hpush_next, h1], fun b hb => ?_, fun b hb => ?_⟩
    · by_cases e : b = n
      · subst e; rw [← h1, hget_hpush, h1]
      · rw [hget_hpush_ne _ _ (by omega)]; exact h2 b (by omega)
    · rw [hget_hpush_ne _ _ (by omega)]; exact h3 b (by omega)
def startM (n : Nat) (f : Nat → Nat × Nat) (w : World) : Mp := ⟨fun b => if b < n then some (f b) else none, fun _ => false, fun c => match w.heap[c]? with | some (.cells arr _ _) => arr.size | _ => 0⟩
theorem start_ok {n : Nat} {f : Nat → Nat × Nat} {g : Nat → List AV} {w : World} (hf : ∀ b, b < n → ∃ arr e fr, w.heap[(f b).1]? = some (.cells arr e fr) ∧ (∀ v ∈ g b, isCell v = true) ∧ ∀ (i : Nat) (v : AV), (g b)[i]? = some v → ∃ x, arr[(f b).2 + i]? = some x ∧ VR (startM n f w) v x) :
    ∃ h : Hp, h.next = n ∧ (∀ b, b < n → hget h b = some (.cells (g b) (g b).length .ro)) ∧ Sim (startM n f w) h w := by
  obtain ⟨h, h1, h2, h3⟩ := heap_of n fun b => .cells (g b) (g b).length .ro
  have hat : ∀ b c s, (startM n f w).at_ b = some (c, s) → b < n ∧ f b = (c, s) := fun b c s e => by
    have e : (if b < n then some (f b) else none) = some (c, s) := e
    split at e
    · exact ⟨‹_›, Option.some.inj e⟩
    · cases e
  refine ⟨h, h1, h2, ?_, fun b hb => h3 b (by omega), ?_, ?_, ?_, ?_⟩
  · intro b hb
    show (if b < n then some (f b) else none) = none
    rw [if_neg (by omega)]
  · intro b c s e
    obtain ⟨hb, he⟩ := hat b c s e
    obtain ⟨arr, e', fr, hh, _⟩ := hf b hb
    rw [he] at hh
    exact (Array.getElem?_eq_some_iff.1 hh).1
  · intro b c s x e hg
    obtain ⟨hb, he⟩ := hat b c s e
    rw [h2 b hb] at hg
    cases hg
    obtain ⟨arr, e', fr, hh, hc, hv⟩ := hf b hb
    rw [he] at hh hv
    refine ⟨rfl, hc, ⟨fun h => (by cases h), fun h => absurd rfl h⟩, arr, e', fr, hh, ?_, fun h => (by cases h), hv⟩
    show arr.size = match w.heap[c]? with | some (.cells arr _ _) => arr.size | _ => 0
    rw [hh]
  · intro b b' c s s' x x' _ _ _ ho
    cases ho
  · intro b c s cs m p e hg
    obtain ⟨hb, he⟩ := hat b c s e
    rw [h2 b hb] at hg
    cases hg
theorem Goes.below' {μ μ' : Mp} {h h' : Hp} {w w' : World} (hm : ∀ c, μ.own c = false) (g : Goes μ h w μ' h' w') : Below w.heap.size w w' := ⟨g.os, g.tape, g.output, g.heap, fun k hk => g.kept k hk (hm k)⟩
theorem start_law {P : Program} {D : Nat → Array Oper → AC} (hD : DrawOk P D) {M : Nat → Option (List AV → Hp → RV)} (hM : Good P fun f args h => ocase .no (fun m => m args h) (M f)) {N d f : Nat} {w : World} {μ : Mp} {h h' : Hp} (hs : Sim μ h w) (hm : ∀ c, μ.own c = false)
    {args : List AV} {cargs : Array Value} (r : VRs μ args cargs.toList) (e : evF M (progS P D) N d f args h = .ok (.bool true) h') : Calls P f cargs w fun e w' => e = .returned (.bool true) ∧ Below w.heap.size w w' := by
  refine (evF_ok hD hM N d f args h _ h' μ w cargs e hs r).2.mono fun e w' hR => ?_
  obtain ⟨μ', y, rfl, ry, hs', g⟩ := hR
  rw [VR_bool] at ry
  subst ry
  exact ⟨rfl, g.below' hm⟩
structure BArg where
  v : Value
  c : Nat
  s : Nat
  l : List Nat
def BArg.lies (w : World) (a : BArg) : Prop := (∀ x ∈ a.l, x < 256) ∧ ((a.v = .slice none 0 0 ∧ a.l = []) ∨ ∃ cap arr e fr, a.v = .slice (some ⟨a.c, a.s, none⟩) a.l.length cap ∧ w.heap[a.c]? = some (.cells arr e fr) ∧ a.l.length ≤ cap ∧ (cap ≠ 0 → a.s + cap ≤ arr.size) ∧
  ∀ (i : Nat) (x : Nat), a.l[i]? = some x → arr[a.s + i]? = some (.int .u8 (.ofNat x)))
theorem u8s_at {l : List Nat} {i : Nat} {v : AV} (h : (u8s l)[i]? = some v) : ∃ x, l[i]? = some x ∧ v = .int .u8 (.ofNat x) := by
  rw [u8s_eq, List.getElem?_map] at h
  cases hl : l[i]? with
  | none => rw [hl] at h; cases h
  | some x => rw [hl] at h; cases h; exact ⟨x, rfl, rfl⟩
theorem start_bytes {w : World} (bys : List BArg) (ha : ∀ a ∈ bys, a.lies w) : ∃ (μ : Mp) (h : Hp) (vs : List AV), Sim μ h w ∧ (∀ c, μ.own c = false) ∧ vs.length = bys.length ∧
    (∀ (i : Nat) (v : AV) (a : BArg), vs[i]? = some v → bys[i]? = some a → VR μ v a.v ∧ Bytes h.next h v a.l) ∧ h.next ≤ bys.length := by
  classical
  have key : ∀ (n : Nat) (bs : List BArg), bs.length = n → (∀ a ∈ bs, a.lies w ∧ a.v ≠ .slice none 0 0) → ∃ (μ : Mp) (h : Hp), Sim μ h w ∧ (∀ c, μ.own c = false) ∧ h.next = n ∧ ∀ (i : Nat) (a : BArg), bs[i]? = some a → ∃ v, VR μ v a.v ∧ Bytes h.next h v a.l := by
    intro n bs hn hbs
    let f : Nat → Nat × Nat := fun b => match bs[b]? with | some a => (a.c, a.s) | none => (0, 0)
    let g : Nat → List AV := fun b => match bs[b]? with | some a => u8s a.l | none => []
    have hfb : ∀ b a, bs[b]? = some a → f b = (a.c, a.s) := fun b a h => by show (match bs[b]? with | some a => (a.c, a.s) | none => (0, 0)) = _; rw [h]
    have hgb : ∀ b a, bs[b]? = some a → g b = u8s a.l := fun b a h => by show (match bs[b]? with | some a => u8s a.l | none => []) = _; rw [h]
    have hsome : ∀ b, b < n → ∃ a, bs[b]? = some a := fun b hb => ⟨bs[b], List.getElem?_eq_getElem (by omega)⟩
    obtain ⟨h, h1, h2, h3⟩ := start_ok (n := n) (f := f) (g := g) (w := w) fun b hb => by
      obtain ⟨a, ha⟩ := hsome b hb
      rw [hfb b a ha, hgb b a ha]
      obtain ⟨⟨hlt, hl⟩, hne⟩ := hbs a (List.mem_of_getElem? ha)
      rcases hl with ⟨h0, _⟩ | ⟨cap, arr, e, fr, hv, hh, hc, hs, hx⟩
      · exact absurd h0 hne
      · refine ⟨arr, e, fr, hh, fun v hv => ?_, fun i v hv => ?_⟩
        · obtain ⟨i, hi⟩ := List.getElem?_of_mem hv
          obtain ⟨x, _, rfl⟩ := u8s_at hi; rfl
        · obtain ⟨x, h1, rfl⟩ := u8s_at hv
          exact ⟨_, hx i x h1, by rw [VR_int]⟩
    refine ⟨_, h, h3, fun _ => rfl, h1, fun i a hi => ?_⟩
    have hin : i < n := by have := (List.getElem?_eq_some_iff.1 hi).1; omega
    obtain ⟨⟨hlt, hl⟩, hne⟩ := hbs a (List.mem_of_getElem? hi)
    rcases hl with ⟨h0, _⟩ | ⟨cap, arr, e, fr, hv, hh, hc, hs, hx⟩
    · exact absurd h0 hne
    · refine ⟨.slice i 0 a.l.length cap 1 true, ?_, ?_⟩
      · rw [hv]
        unfold VR
        refine ⟨a.c, a.s, a.s, cap, ?_, rfl, hc, Nat.le_refl _, fun _ => rfl, fun h0 => ⟨rfl, ?_⟩⟩
        · show (if i < n then some (f i) else none) = _
          rw [if_pos hin, hfb i a hi]
        · show a.s + 0 + cap * 1 ≤ match w.heap[a.c]? with | some (.cells arr _ _) => arr.size | _ => 0
          rw [hh]
          have := hs h0
          show a.s + 0 + cap * 1 ≤ arr.size
          omega
      · have hg2 := h2 i hin
        rw [hgb i a hi] at hg2
        exact .sl (by omega) hg2 rfl (by rw [List.drop_zero, List.take_of_length_le (by rw [u8s_length]; exact Nat.le_refl _)]) (by rw [u8s_length]; omega) hc hlt
  let bs := bys.filter fun a => decide (a.v ≠ .slice none 0 0)
  obtain ⟨μ, h, hs, hm, hn, hv⟩ := key bs.length bs rfl fun a h => by
    have := List.mem_filter.1 h
    exact ⟨ha a this.1, by simpa using this.2⟩
  have each : ∀ a ∈ bys, ∃ v, VR μ v a.v ∧ Bytes h.next h v a.l := fun a hm' => by
    by_cases h0 : a.v = .slice none 0 0
    · rcases (ha a hm').2 with ⟨_, hl⟩ | ⟨cap, arr, e, fr, hv', _⟩
      · refine ⟨.nilSlice, ?_, ?_⟩
        · rw [h0]; unfold VR; rfl
        · rw [hl]; exact .nil
      · rw [hv'] at h0; cases h0
    · have : a ∈ bs := List.mem_filter.2 ⟨hm', by simpa using h0⟩
      obtain ⟨i, hi⟩ := List.getElem?_of_mem this
      exact hv i a hi
  refine ⟨μ, h, bys.attach.map fun a => (each a.1 a.2).choose, hs, hm, by simp, fun i v a hvi hai => ?_, ?_⟩
  · rw [List.getElem?_map] at hvi
    cases hat : bys.attach[i]? with
    | none => rw [hat] at hvi; cases hvi
    | some a' =>
      rw [hat] at hvi
      cases hvi
      have : a'.1 = a := by
        have h2 : bys.attach[i]?.map (·.1) = bys[i]? := by rw [← List.getElem?_map, List.attach_map_subtype_val]
        rw [hat, hai] at h2
        exact Option.some.inj h2
      subst this
      exact (each a'.1 a'.2).choose_spec
  · rw [hn]; exact List.length_filter_le _ _
end Eng
namespace Eng
open Go Go.RowKit Go.ChangeShapes Go.WideShapes
theorem u16_wf {x : Int} (h : (Lit.int .u16 x).wf = true) : ∃ n : Nat, x = .ofNat n ∧ n < 65536 := by
  have h1 : IntKind.u16.min = 0 := rfl
  have h2 : IntKind.u16.max = 65535 := rfl
  simp only [Lit.wf, Bool.and_eq_true, decide_eq_true_eq] at h
  exact ⟨x.toNat, by simp; omega, by omega⟩
theorem u8_wf {x : Int} (h : (Lit.int .u8 x).wf = true) : ∃ n : Nat, x = .ofNat n ∧ n < 256 := by
  have h1 : IntKind.u8.min = 0 := rfl
  have h2 : IntKind.u8.max = 255 := rfl
  simp only [Lit.wf, Bool.and_eq_true, decide_eq_true_eq] at h
  exact ⟨x.toNat, by simp; omega, by omega⟩
end Eng
end
section
set_option linter.unusedVariables false
namespace Eng
open Go
theorem loop_st {call : CallT} {N : Nat} {body : AC} {σ : Type} (fr : σ → List (Nat × AV)) (L : List Nat) (hL : ∀ x, (fr x).map (·.1) = L) (Inv : σ → Hp → Prop) (meas : σ → Nat) (E : Nat → σ → Hp → Prop) (R : List (Option AV) → Hp → Prop)
    (step : ∀ x t h, Inv x h → ∃ s, evC call N body (ovT (fr x) t) h = s ∧ obsS L (fun ls h' => ∃ y, ls = (fr y).map (fun p => some p.2) ∧ Inv y h' ∧ meas y < meas x) (fun i ls h' => ∃ y, ls = (fr y).map (fun p => some p.2) ∧ E i y h') R s)
    (x0 : σ) (h : Hp) (hx : Inv x0 h) (hN : meas x0 < N) (t : T) (ht : Has (fr x0) t) :
    (∃ i y t' h', evC call N (.loop body) t h = .exit i t' h' ∧ Has (fr y) t' ∧ E i y h') ∨ (∃ t' h', evC call N (.loop body) t h = .ret t' h' ∧ R (slots L t') h') := by
  obtain ⟨s, e, hs⟩ := loop_ok (call := call) (N := N) (body := body) L (fun n ls h' => ∃ y, ls = (fr y).map (fun p => some p.2) ∧ Inv y h' ∧ meas y = n) (fun i ls h' => ∃ y, ls = (fr y).map (fun p => some p.2) ∧ E i y h') R
    (fun n t h ⟨y, hy, hi, hn⟩ => by
      have hh : Has (fr y) t := by unfold Has; rw [hL]; exact hy
      obtain ⟨s, e, hs⟩ := step y t h hi
      rw [ovT_eq hh] at e
      refine ⟨s, e, ?_⟩
      cases s with
      | no => exact hs
      | nor t' h' =>
        obtain ⟨z, h1, h2, h3⟩ := (show ∃ z, slots L t' = (fr z).map (fun p => some p.2) ∧ Inv z h' ∧ meas z < meas y from hs)
        exact (show ∃ m, m < n ∧ ∃ y, slots L t' = (fr y).map (fun p => some p.2) ∧ Inv y h' ∧ meas y = m from ⟨meas z, by omega, z, h1, h2, rfl⟩)
      | exit i t' h' => exact hs
      | ret t' h' => exact hs)
    (meas x0) hN t h ⟨x0, by unfold Has at ht; rw [hL] at ht; exact ht, hx, rfl⟩
  cases s with
  | no => exact hs.elim
  | nor t' h' => exact hs.elim
  | exit i t' h' =>
    obtain ⟨y, h1, h2⟩ := (show ∃ y, slots L t' = (fr y).map (fun p => some p.2) ∧ E i y h' from hs)
    exact .inl ⟨i, y, t', h', e, by unfold Has; rw [hL]; exact h1, h2⟩
  | ret t' h' => exact .inr ⟨t', h', e, hs⟩
end Eng
end
section
set_option linter.unusedVariables false
set_option linter.unusedSimpArgs false
namespace Eng
open Go Go.RowKit
def TwinAt (h : Hp) (v : AV) (l : List Nat) : Prop := ∃ b w, v = .slice b 0 l.length (l.length + 3) 1 true ∧ b < h.next ∧ hget h b = some (.cells (u8s (l ++ [229, 229, 229])) (l.length + 3) w) ∧ ∀ x ∈ l, x < 256
theorem TwinAt.bytes {h : Hp} {v : AV} {l : List Nat} (o : TwinAt h v l) : Bytes h.next h v l := by
  obtain ⟨b, w, rfl, hb, hg, hl⟩ := o
  refine .sl hb hg (by rw [u8s_length]; simp) ?_ (by omega) (by omega) hl
  rw [List.drop_zero, u8s_eq, u8s_eq, ← List.map_take, List.take_left' rfl]
def TwinS (call : CallT) (f : Nat) : Prop := ∀ {B : Nat} {h : Hp} {vb : AV} {l : List Nat}, B ≤ h.next → Bytes B h vb l → l.length ≤ 1099511627776 → ∃ rv rh, call f [vb] h = .ok rv rh ∧ TwinAt rh rv l ∧ Old B h rh ∧ B ≤ rh.next
def KeptS (call : CallT) (f : Nat) : Prop := ∀ {h : Hp} {vb vt : AV} {l : List Nat}, TwinAt h vt l → Bytes h.next h vb l → l.length ≤ 1099511627776 → call f [vt, vb] h = .ok (.bool true) h
end Eng
namespace Eng
open Go
end Eng
namespace Eng
open Go
end Eng
namespace Eng
open Go
end Eng
namespace Eng
end Eng
end
section
set_option linter.unusedVariables false
set_option linter.unusedSimpArgs false
namespace Eng
open Go Go.RowKit
structure AObj where
  p : Hp → (Nat → Prop) → Prop
  loc : ∀ {h h' : Hp} {G : Nat → Prop}, (∀ k, G k → hget h' k = hget h k) → p h G → p h' G
def Sep (os : List AObj) (h : Hp) : Prop :=
  ∃ g : Nat → Nat → Prop, (∀ (i : Nat) (o : AObj), os[i]? = some o → o.p h (g i)) ∧ (∀ i k, g i k → k < h.next) ∧ ∀ i j k, g i k → g j k → i = j
theorem Sep.nil (h : Hp) : Sep [] h := by
  refine ⟨fun _ _ => False, fun i o e => ?_, fun i k e => e.elim, fun i j k e _ => e.elim⟩
  cases e
theorem Sep.at {os : List AObj} {h : Hp} (S : Sep os h) {i : Nat} {o : AObj} (hi : os[i]? = some o) : ∃ G : Nat → Prop, o.p h G ∧ (∀ k, G k → k < h.next) ∧
    ∀ (h' : Hp) (o' : AObj) (G' : Nat → Prop), h.next ≤ h'.next → o'.p h' G' → (∀ k, G' k → G k ∨ (h.next ≤ k ∧ k < h'.next)) → (∀ k, k < h.next → ¬ G k → hget h' k = hget h k) → Sep (os.set i o') h' := by
  obtain ⟨g, g1, g2, g3⟩ := S
  have hil : i < os.length := (List.getElem?_eq_some_iff.1 hi).1
  refine ⟨g i, g1 i o hi, g2 i, fun h' o' G' hn ho hG hf => ⟨fun j k => (j = i ∧ G' k) ∨ (j ≠ i ∧ g j k), fun j x hj => ?_, fun j k hk => ?_, fun j1 j2 k h1 h2 => ?_⟩⟩
  · by_cases e : j = i
    · subst e
      rw [List.getElem?_set_self hil] at hj
      cases hj
      have : (fun k => (j = j ∧ G' k) ∨ (j ≠ j ∧ g j k)) = G' := by funext k; simp
      show o'.p h' (fun k => (j = j ∧ G' k) ∨ (j ≠ j ∧ g j k))
      rw [this]; exact ho
    · rw [List.getElem?_set_ne (Ne.symm e)] at hj
      have : (fun k => (j = i ∧ G' k) ∨ (j ≠ i ∧ g j k)) = g j := by funext k; simp [e]
      show x.p h' (fun k => (j = i ∧ G' k) ∨ (j ≠ i ∧ g j k))
      rw [this]
      exact x.loc (fun k hk => hf k (g2 j k hk) fun hc => e (g3 j i k hk hc)) (g1 j x hj)
  · rcases hk with ⟨_, hk⟩ | ⟨_, hk⟩
    · rcases hG k hk with hk | ⟨_, hk⟩
      · have := g2 i k hk; omega
      · exact hk
    · have := g2 j k hk; omega
  · rcases h1 with ⟨e1, h1⟩ | ⟨e1, h1⟩ <;> rcases h2 with ⟨e2, h2⟩ | ⟨e2, h2⟩
    · rw [e1, e2]
    · rcases hG k h1 with h1 | ⟨h1, _⟩
      · exact absurd (g3 i j2 k h1 h2) (Ne.symm e2)
      · have := g2 j2 k h2; omega
    · rcases hG k h2 with h2 | ⟨h2, _⟩
      · exact absurd (g3 i j1 k h2 h1) (Ne.symm e1)
      · have := g2 j1 k h1; omega
    · exact g3 j1 j2 k h1 h2
theorem Sep.add {os : List AObj} {h : Hp} (S : Sep os h) {h' : Hp} {o : AObj} (G : Nat → Prop) (hn : h.next ≤ h'.next) (ho : o.p h' G) (hG : ∀ k, G k → h.next ≤ k ∧ k < h'.next) (hf : ∀ k, k < h.next → hget h' k = hget h k) : Sep (o :: os) h' := by
  obtain ⟨g, g1, g2, g3⟩ := S
  refine ⟨fun j => Nat.casesOn j G g, fun j x hj => ?_, fun j k hk => ?_, fun j1 j2 k h1 h2 => ?_⟩
  · cases j with
    | zero => cases hj; exact ho
    | succ j => exact x.loc (fun k hk => hf k (g2 j k hk)) (g1 j x hj)
  · cases j with
    | zero => exact (hG k hk).2
    | succ j => have := g2 j k hk; omega
  · cases j1 with
    | zero =>
      cases j2 with
      | zero => rfl
      | succ j2 => have a := hG k h1; have b := g2 j2 k h2; omega
    | succ j1 =>
      cases j2 with
      | zero => have a := hG k h2; have b := g2 j1 k h1; omega
      | succ j2 => rw [g3 j1 j2 k h1 h2]
theorem Sep.on {os : List AObj} {h h' : Hp} (S : Sep os h) (hn : h.next ≤ h'.next) (hf : ∀ k, k < h.next → hget h' k = hget h k) : Sep os h' := by
  obtain ⟨g, g1, g2, g3⟩ := S
  exact ⟨g, fun j x hj => x.loc (fun k hk => hf k (g2 j k hk)) (g1 j x hj), fun j k hk => by have := g2 j k hk; omega, g3⟩
theorem Sep.tail {o : AObj} {os : List AObj} {h : Hp} (S : Sep (o :: os) h) : Sep os h := by
  obtain ⟨g, g1, g2, g3⟩ := S
  exact ⟨fun j => g (j + 1), fun j x hj => g1 (j + 1) x hj, fun j k hk => g2 (j + 1) k hk, fun j1 j2 k h1 h2 => by have := g3 _ _ k h1 h2; omega⟩
theorem Sep.front {os : List AObj} {h : Hp} (S : Sep os h) (i : Nat) {o : AObj} (hi : os[i]? = some o) : Sep (o :: os.eraseIdx i) h := by
  obtain ⟨g, g1, g2, g3⟩ := S
  refine ⟨fun j => Nat.casesOn j (g i) (fun j => g (if j < i then j else j + 1)), fun j x hj => ?_, fun j k hk => ?_, fun j1 j2 k h1 h2 => ?_⟩
  · cases j with
    | zero => cases hj; exact g1 i o hi
    | succ j =>
      have hj : (os.eraseIdx i)[j]? = some x := hj
      rw [List.getElem?_eraseIdx] at hj
      show x.p h (g (if j < i then j else j + 1))
      split at hj
      · rw [if_pos ‹_›]; exact g1 _ _ hj
      · rw [if_neg ‹_›]; exact g1 _ _ hj
  · cases j with
    | zero => exact g2 i k hk
    | succ j => exact g2 _ k hk
  · cases j1 with
    | zero =>
      cases j2 with
      | zero => rfl
      | succ j2 => have a := g3 i _ k h1 h2; split at a <;> omega
    | succ j1 =>
      cases j2 with
      | zero => have a := g3 _ i k h1 h2; split at a <;> omega
      | succ j2 => have a := g3 _ _ k h1 h2; split at a <;> split at a <;> omega
theorem Sep.turn {os : List AObj} {h : Hp} (S : Sep os h) {i : Nat} {o o' : AObj} (hi : os[i]? = some o) (f : ∀ G, (∀ k, G k → k < h.next) → o.p h G → o'.p h G) : Sep (os.set i o') h := by
  obtain ⟨G, hp, hb, go⟩ := S.at hi
  exact go h o' G (Nat.le_refl _) (f G hb hp) (fun k hk => .inl hk) fun k hk hn => rfl
def Frz (G0 : Nat → Prop) (h0 : Hp) : AObj where
  p h G := (∀ k, G0 k → G k) ∧ ∀ k, G0 k → hget h k = hget h0 k
  loc := fun hf ⟨h1, h2⟩ => ⟨h1, fun k hk => (hf k (h1 k hk)).trans (h2 k hk)⟩
theorem Sep.freeze {os : List AObj} {h : Hp} (S : Sep os h) {i : Nat} {o : AObj} (hi : os[i]? = some o) : ∃ G : Nat → Prop, o.p h G ∧ (∀ k, G k → k < h.next) ∧ Sep (os.set i (Frz G h)) h := by
  obtain ⟨G, hp, hb, go⟩ := S.at hi
  exact ⟨G, hp, hb, go h _ G (Nat.le_refl _) ⟨fun k hk => hk, fun _ _ => rfl⟩ (fun k hk => .inl hk) fun k hk hn => rfl⟩
theorem Sep.start (h : Hp) : Sep [Frz (fun k => k < h.next) h] h :=
by
  refine ⟨fun i k => i = 0 ∧ k < h.next, fun i o hi => ?_, fun i k hk => hk.2, fun i j k h1 h2 => h1.1.trans h2.1.symm⟩
  cases i with
  | zero => cases hi; exact ⟨fun k hk => ⟨rfl, hk⟩, fun _ _ => rfl⟩
  | succ i => cases hi
theorem Sep.frozen {os : List AObj} {h : Hp} (S : Sep os h) {i : Nat} {G : Nat → Prop} {h0 : Hp} (hi : os[i]? = some (Frz G h0)) {k : Nat} (hk : G k) : k < h.next ∧ hget h k = hget h0 k := by
  obtain ⟨G', hp, hb, go⟩ := S.at hi
  exact ⟨hb k (hp.1 k hk), hp.2 k hk⟩
def blkOf : AV → Option Nat
  | .slice b _ _ _ _ _ => some b
  | _ => none
def BIn (G : Nat → Prop) (h : Hp) (v : AV) (l : List Nat) : Prop := (∃ B, Bytes B h v l) ∧ ∀ b, blkOf v = some b → G b
theorem BIn.nil {G : Nat → Prop} {h : Hp} : BIn G h .nilSlice [] := ⟨⟨0, .nil⟩, fun b e => by cases e⟩
theorem BIn.lt {G : Nat → Prop} {h : Hp} {v : AV} {l : List Nat} (P : BIn G h v l) : ∀ x ∈ l, x < 256 := by
  obtain ⟨⟨B, P⟩, _⟩ := P; exact P.lt
theorem BIn.of {B : Nat} {h : Hp} {v : AV} {l : List Nat} (P : Bytes B h v l) : BIn (fun k => k < B) h v l := by
  refine ⟨⟨B, P⟩, fun b e => ?_⟩
  cases P with
  | nil => cases e
  | sl hB hg hcl hl hm hc hb => cases e; exact hB
theorem BIn.now {os : List AObj} {h : Hp} (S : Sep os h) {i : Nat} {G : Nat → Prop} {h0 : Hp} (hi : os[i]? = some (Frz G h0)) {v : AV} {l : List Nat} (P : BIn G h0 v l) : Bytes h.next h v l := by
  obtain ⟨⟨B, P⟩, hG⟩ := P
  cases P with
  | nil => exact .nil
  | sl hB hg hcl hl hm hc hb =>
    obtain ⟨h1, h2⟩ := S.frozen hi (hG _ rfl)
    exact .sl h1 (h2.trans hg) hcl hl hm hc hb
theorem blkOf_part (v : AV) (lo hi : Nat) : blkOf (partS v lo hi) = blkOf v := by cases v <;> rfl
theorem BIn.part {G : Nat → Prop} {h : Hp} {v : AV} {l : List Nat} (P : BIn G h v l) {lo hi : Nat} (h1 : lo ≤ hi) (h2 : hi ≤ l.length) : BIn G h (partS v lo hi) ((l.take hi).drop lo) := by
  obtain ⟨⟨B, P⟩, hG⟩ := P
  exact ⟨⟨B, P.part h1 h2⟩, fun b e => hG b (by rwa [blkOf_part] at e)⟩
theorem BIn.from {G : Nat → Prop} {h : Hp} {v : AV} {l : List Nat} (P : BIn G h v l) {lo : Nat} (h1 : lo ≤ l.length) : BIn G h (partS v lo l.length) (l.drop lo) := by
  obtain ⟨⟨B, P⟩, hG⟩ := P
  exact ⟨⟨B, part_from P h1⟩, fun b e => hG b (by rwa [blkOf_part] at e)⟩
theorem BIn.to {G : Nat → Prop} {h : Hp} {v : AV} {l : List Nat} (P : BIn G h v l) {hi : Nat} (h1 : hi ≤ l.length) : BIn G h (partS v 0 hi) (l.take hi) := by
  obtain ⟨⟨B, P⟩, hG⟩ := P
  exact ⟨⟨B, part_to P h1⟩, fun b e => hG b (by rwa [blkOf_part] at e)⟩
def Cel (b : Nat) (cs : List AV) : AObj where
  p h G := G b ∧ hget h b = some (.cells cs cs.length .solo)
  loc := fun hf ⟨h1, h2⟩ => ⟨h1, (hf _ h1).trans h2⟩
theorem cel_get {os : List AObj} {h : Hp} (S : Sep os h) {i b : Nat} {cs : List AV} (hi : os[i]? = some (Cel b cs)) : hget h b = some (.cells cs cs.length .solo) := by
  obtain ⟨G, hp, _⟩ := S.at hi; exact hp.2
theorem cel_load {os : List AObj} {h : Hp} (S : Sep os h) {i b o : Nat} {cs : List AV} (hi : os[i]? = some (Cel b cs)) {x : AV} (hx : cs[o]? = some x) : evQ (.loadS (.const (.ptr b o))) .lf h = .ok x :=
  q_load (cel_get S hi) hx
theorem cel_loadA {os : List AObj} {h : Hp} (S : Sep os h) {i b o n : Nat} {cs : List AV} (hi : os[i]? = some (Cel b cs)) (hx : o + n ≤ cs.length) : evQ (.loadA n (.const (.ptr b o))) .lf h = .ok (.agg ((cs.drop o).take n)) := by
  show rdN h b o n OV.no (fun l => .ok (.agg l)) = _
  rw [rdN_of (cel_get S hi) hx rfl]
theorem cel_new {os : List AObj} {h : Hp} (S : Sep os h) (cs : List AV) {n : Nat} (hn : cs.length = n) : Sep (Cel h.next cs :: os) (hpush h (mkCells cs n)) := by
  subst hn
  exact S.add (fun k => k = h.next) (Nat.le_succ _) ⟨rfl, hget_hpush h _⟩ (fun k hk => by subst hk; exact ⟨Nat.le_refl _, Nat.lt_succ_self _⟩) fun k hk => hget_hpush_ne h _ (by omega)
theorem cel_put {os : List AObj} {h : Hp} (S : Sep os h) {i b : Nat} {cs cs' : List AV} (hi : os[i]? = some (Cel b cs)) (hl : cs'.length = cs.length) : Sep (os.set i (Cel b cs')) (hset h b (.cells cs' cs.length .solo)) := by
  obtain ⟨G, hp, hb, go⟩ := S.at hi
  exact go _ _ G (Nat.le_refl _) ⟨hp.1, by rw [hget_hset, hl]⟩ (fun k hk => .inl hk) fun k hk hn => hget_hset_ne h _ fun e => hn (e ▸ hp.1)
theorem cel_store {os : List AObj} {h : Hp} (call : CallT) (S : Sep os h) {i b o : Nat} {cs : List AV} (hi : os[i]? = some (Cel b cs)) (ho : o < cs.length) {x : AV} (hx : isCell x = true) :
    ∃ e : Ev, evE (.store 1 (.const (.ptr b o)) (.const x)) call .lf h = .ok undef e.h ∧ Sep (os.set i (Cel b (cs.set o x))) e.h := by
  refine ⟨⟨.nilPtr, .lf, _⟩, ?_, cel_put S hi (List.length_set ..)⟩
  show oStore 1 (.const (.ptr b o)) (.const x) .lf h = _
  unfold oStore
  have e1 : Nat.beq 1 1 = true := rfl
  rw [e1, bc_eq, if_pos rfl]
  show bc (isCell x) (oStore1 (.const (.ptr b o)) (.const x) .lf h) _ = _
  rw [hx, bc_eq, if_pos rfl]
  show bc (isCell x) (wr1 h b o x) RV.no = _
  rw [hx]
  show hcells h b RV.no _ = _
  unfold hcells
  rw [cel_get S hi]
  show bc (Nat.blt o cs.length) (put h b (upd x cs o) cs.length .solo undef) .no = _
  rw [blt_dec, decide_eq_true ho, upd_eq]; rfl
theorem cel_storeN {os : List AObj} {h : Hp} (call : CallT) (S : Sep os h) {i b o n : Nat} {cs xs : List AV} (hi : os[i]? = some (Cel b cs)) (ho : o + n ≤ cs.length) (hn : xs.length = n) (h1 : n ≠ 1) (hx : ∀ x ∈ xs, isCell x = true) :
    ∃ e : Ev, evE (.store n (.const (.ptr b o)) (.const (.agg xs))) call .lf h = .ok undef e.h ∧ Sep (os.set i (Cel b (over xs cs o))) e.h := by
  subst hn
  have hl : (over xs cs o).length = cs.length := by
    rw [over_eq _ _ _ (by omega), List.length_append, List.length_append, List.length_take, List.length_drop]; omega
  refine ⟨⟨.nilPtr, .lf, _⟩, ?_, cel_put S hi hl⟩
  show oStore xs.length (.const (.ptr b o)) (.const (.agg xs)) .lf h = _
  unfold oStore
  rw [beqF h1, bc_eq, if_neg (by decide)]
  show bc (Nat.beq (len xs) xs.length) (bc (lall isCell xs) (wrN h b o xs xs.length undef) .no) RV.no = _
  rw [len_eq, Nat.beq_refl, lall_iff.2 hx]
  show hcells h b RV.no _ = _
  unfold hcells
  rw [cel_get S hi]
  show bc (Nat.ble (o + xs.length) cs.length) (put h b (over xs cs o) cs.length .solo undef) .no = _
  rw [ble_dec, decide_eq_true ho]; rfl
end Eng
end
section
set_option linter.unusedVariables false
set_option linter.unusedSimpArgs false
namespace Eng
open Go Go.RowKit
inductive OwnI (sz : Nat) (h : Hp) (G : Nat → Prop) : AV → Nat → List AV → Prop
  | nil : OwnI sz h G .nilSlice 0 []
  | sl {b n c : Nat} {ex : Bool} {w : Own} {Lc L : List AV} (hG : G b) (hg : hget h b = some (.cells Lc (c * sz) w)) (hl : Lc.length = c * sz) (hn : n ≤ c) (hL : Lc.take (n * sz) = L)
      (hw : w = .solo ∨ ∃ p, w = .pair p ∧ G p ∧ p ≠ b) : OwnI sz h G (.slice b 0 n c sz ex) n L
theorem OwnI.len {sz : Nat} {h : Hp} {G : Nat → Prop} {v : AV} {n : Nat} {L : List AV} (o : OwnI sz h G v n L) : L.length = n * sz := by
  cases o with
  | nil => simp
  | @sl b n c ex w Lc L hG hg hl hn hL hw =>
    have := Nat.mul_le_mul_right sz hn
    rw [← hL, List.length_take, hl]; omega
def OwnO (sz : Nat) (v : AV) (n : Nat) (L : List AV) : AObj where
  p h G := OwnI sz h G v n L
  loc := fun hf o => by
    cases o with
    | nil => exact .nil
    | sl hG hg hl hn hL hw => exact .sl hG ((hf _ hG).trans hg) hl hn hL hw
theorem own_get {os : List AObj} {h : Hp} (S : Sep os h) {i sz n : Nat} {v : AV} {L : List AV} (hi : os[i]? = some (OwnO sz v n L)) : ∃ G, OwnI sz h G v n L := by
  obtain ⟨G, hp, _⟩ := S.at hi; exact ⟨G, hp⟩
theorem own_nil {os : List AObj} {h : Hp} (S : Sep os h) (sz : Nat) : Sep (OwnO sz .nilSlice 0 [] :: os) h :=
  S.add (fun _ => False) (Nat.le_refl _) .nil (fun k hk => hk.elim) fun k hk => rfl
theorem own_new {os : List AObj} {h : Hp} (S : Sep os h) (sz n : Nat) (L : List AV) (ex : Bool) (hl : L.length = n * sz) : Sep (OwnO sz (.slice h.next 0 n n sz ex) n L :: os) (hpush h (mkCells L (n * sz))) :=
  S.add (fun k => k = h.next) (Nat.le_succ _) (.sl rfl (hget_hpush h _) hl (Nat.le_refl _) (List.take_of_length_le (by omega)) (.inl rfl)) (fun k hk => by subst hk; exact ⟨Nat.le_refl _, Nat.lt_succ_self _⟩) fun k hk => hget_hpush_ne h _ (by omega)
theorem src_own {β : Type} {h : Hp} {sz : Nat} {G : Nat → Prop} {s : AV} {n : Nat} {L : List AV} (o : OwnI sz h G s n L) (z : β) (k : Nat → List AV → β) : src h sz s z k = k n L := by
  cases o with
  | nil => rfl
  | @sl b n c ex w Lc L hG hg hl hn hL hw =>
    have := Nat.mul_le_mul_right sz hn
    show bc (Nat.beq sz sz) (rdN h b 0 (Nat.mul n sz) z fun l => k n l) z = _
    rw [Nat.beq_refl]
    show rdN h b 0 (n * sz) z _ = _
    rw [rdN_of hg (by omega) hl, List.drop_zero, hL]
theorem q_lenI {sz : Nat} {h : Hp} {G : Nat → Prop} {v : AV} {n : Nat} {L : List AV} (o : OwnI sz h G v n L) : evQ (.lenL (.const v)) .lf H0 = .ok (.int .i64 (.ofNat n)) := by
  cases o <;> rfl
theorem own_len {os : List AObj} {h : Hp} (S : Sep os h) {i sz n : Nat} {v : AV} {L : List AV} (hi : os[i]? = some (OwnO sz v n L)) : evQ (.lenL (.const v)) .lf H0 = .ok (.int .i64 (.ofNat n)) := by
  obtain ⟨G, o⟩ := own_get S hi; exact q_lenI o
theorem own_src {os : List AObj} {h : Hp} (S : Sep os h) {i sz n : Nat} {v : AV} {L : List AV} (hi : os[i]? = some (OwnO sz v n L)) {β : Type} (z : β) (k : Nat → List AV → β) : src h sz v z k = k n L := by
  obtain ⟨G, o⟩ := own_get S hi; exact src_own o z k
theorem OwnI.bytes {h : Hp} {G : Nat → Prop} {s : AV} {n : Nat} {l : List Nat} (o : OwnI 1 h G s n (u8s l)) (hb : ∀ x ∈ l, x < 256) : BIn G h s l := by
  generalize hL : u8s l = L at o
  cases o with
  | nil =>
    cases l with
    | nil => exact .nil
    | cons x l => cases hL
  | @sl b n c ex w Lc L hG hg hl hn hLc hw =>
    subst hL
    have h1 := congrArg List.length hLc
    rw [u8s_length, List.length_take, hl] at h1
    have hnl : l.length = n := by omega
    subst hnl
    exact ⟨⟨b + 1, .sl (Nat.lt_succ_self _) hg hl (by rw [List.drop_zero, ← hLc, Nat.mul_one]) (by omega) hn hb⟩, fun b' e => by cases e; exact hG⟩
theorem own_append {os : List AObj} {h : Hp} (call : CallT) (S : Sep os h) {i sz bytes n : Nat} {s : AV} {L : List AV} (hi : os[i]? = some (OwnO sz s n L)) {x : AV} {m : Nat} {xs : List AV} (hs : ∀ {β : Type} (z : β) (k : Nat → List AV → β), src h sz x z k = k m xs)
    (hx : xs.length = m * sz) (hc : ∀ x ∈ xs, isCell x = true) (h1 : (n + m) * bytes ≤ 70368744177664) (h2 : n + m ≤ 70368744177664) :
    ∃ e : Ev, evE (.append sz bytes (.const s) (.const x)) call .lf h = .ok e.v e.h ∧ Sep (os.set i (OwnO sz e.v (n + m) (L ++ xs))) e.h := by
  obtain ⟨G, o, hGb, go⟩ := S.at hi
  have ev : evE (.append sz bytes (.const s) (.const x)) call .lf h = appendTo h sz bytes s m xs := by
    show src h sz x RV.no (fun m xs => appendTo h sz bytes s m xs) = _
    rw [hs]
  rw [ev]
  have same : m = 0 → appendTo h sz bytes s m xs = .ok s h → ∃ e : Ev, appendTo h sz bytes s m xs = .ok e.v e.h ∧ Sep (os.set i (OwnO sz e.v (n + m) (L ++ xs))) e.h := by
    intro hm e
    subst hm
    obtain rfl : xs = [] := List.eq_nil_of_length_eq_zero (by omega)
    refine ⟨⟨s, .lf, h⟩, e, ?_⟩
    rw [List.append_nil]
    exact go h _ G (Nat.le_refl _) o (fun k hk => .inl hk) fun k hk hn => rfl
  have fresh : ∀ (g : Hp) (L' : List AV), g.next = h.next → (∀ k, k < h.next → ¬ G k → hget g k = hget h k) → L' = L ++ xs → appendTo h sz bytes s m xs = grown g (n + m) sz L' →
      ∃ e : Ev, appendTo h sz bytes s m xs = .ok e.v e.h ∧ Sep (os.set i (OwnO sz e.v (n + m) (L ++ xs))) e.h := by
    intro g L' hgn hgo hL e
    subst hL
    refine ⟨⟨.slice g.next 0 (n + m) (n + m) sz false, .lf, hpush g (mkCells (L ++ xs) ((n + m) * sz))⟩, e, ?_⟩
    have hlen : (L ++ xs).length = (n + m) * sz := by rw [List.length_append, OwnI.len o, hx, Nat.add_mul]
    refine go _ _ (fun k => k = h.next) (by show h.next ≤ (hpush g _).next; rw [hpush_next, hgn]; omega) ?_ (fun k hk => .inr ⟨by omega, by show k < (hpush g _).next; rw [hpush_next, hgn]; omega⟩) fun k hk hn => by
      show hget (hpush g _) k = _
      rw [hget_hpush_ne _ _ (by omega), hgo k hk hn]
    exact .sl hgn (hget_hpush g _) hlen (Nat.le_refl _) (List.take_of_length_le (by omega)) (.inl rfl)
  rcases Nat.eq_zero_or_pos m with hm | hm
  · refine same hm ?_
    subst hm
    obtain rfl : xs = [] := List.eq_nil_of_length_eq_zero (by omega)
    cases o with
    | nil => rfl
    | @sl b n c ex w Lc L hG hg hl hn hL hw =>
      show bc (Nat.beq sz sz) (bc (Nat.ble (n + 0) c) (bc (Nat.beq 0 0) (RV.ok (.slice b 0 n c sz ex) h) _) _) RV.no = _
      rw [Nat.beq_refl, ble_dec, decide_eq_true (by omega)]; rfl
  · have hm0 : Nat.beq m 0 = false := beqF (by omega)
    cases o with
    | nil =>
      refine fresh h xs rfl (fun k hk hn => rfl) rfl ?_
      show bc (Nat.beq m 0) (RV.ok .nilSlice h) (bc (Nat.ble (Nat.mul m bytes) 70368744177664) (bc (Nat.ble m 70368744177664) (grown h m sz xs) .no) .no) = _
      rw [hm0, ble_dec, ble_dec, decide_eq_true (by simpa using h1), decide_eq_true (by simpa using h2), Nat.zero_add]; rfl
    | @sl b n c ex w Lc L hG hg hl hn hL hw =>
      have hbn := hGb _ hG
      have hmul : n * sz ≤ c * sz := Nat.mul_le_mul_right sz hn
      have hlen : L.length = n * sz := by rw [← hL, List.length_take, hl]; omega
      have key : appendTo h sz bytes (.slice b 0 n c sz ex) m xs = bc (Nat.ble (n + m) c) (wrN h b (0 + n * sz) xs (m * sz) (.slice b 0 (n + m) c sz ex)) (more h b 0 n sz m ex xs) := by
        show bc (Nat.beq sz sz) (bc (Nat.ble (n + m) c) (bc (Nat.beq m 0) _ _) (bc (Nat.ble ((n + m) * bytes) 70368744177664) (bc (Nat.ble (n + m) 70368744177664) (more h b 0 n sz m ex xs) .no) .no)) RV.no = _
        rw [Nat.beq_refl, hm0, ble_dec (a := (n + m) * bytes), ble_dec (a := n + m) (b := 70368744177664), decide_eq_true h1, decide_eq_true h2]; rfl
      by_cases hcap : n + m ≤ c
      · rw [ble_dec (a := n + m) (b := c), decide_eq_true hcap] at key
        have hcs : (n + m) * sz ≤ c * sz := Nat.mul_le_mul_right sz hcap
        rw [Nat.add_mul] at hcs
        have hw2 : wrN h b (0 + n * sz) xs (m * sz) (.slice b 0 (n + m) c sz ex) = put h b (over xs Lc (0 + n * sz)) (c * sz) w (.slice b 0 (n + m) c sz ex) := by
          show hcells h b RV.no _ = _
          unfold hcells
          rw [hg]
          show bc (Nat.ble (0 + n * sz + m * sz) (c * sz)) (put h b (over xs Lc (0 + n * sz)) (c * sz) w _) .no = _
          rw [ble_dec, decide_eq_true (by omega)]; rfl
        have hov : over xs Lc (0 + n * sz) = L ++ xs ++ Lc.drop (n * sz + m * sz) := by
          rw [Nat.zero_add, over_eq _ _ _ (by omega), hL, hx]
        rw [hw2, hov] at key
        have hl2 : (L ++ xs ++ Lc.drop (n * sz + m * sz)).length = c * sz := by rw [List.length_append, List.length_append, List.length_drop]; omega
        have fin : ∀ g : Hp, g.next = h.next → (∀ k, k < h.next → ¬ G k → hget g k = hget h k) → Sep (os.set i (OwnO sz (.slice b 0 (n + m) c sz ex) (n + m) (L ++ xs))) (hset g b (.cells (L ++ xs ++ Lc.drop (n * sz + m * sz)) (c * sz) .solo)) := fun g hgn hgo => by
          refine go _ _ G (by rw [hset_next, hgn]; exact Nat.le_refl _) (.sl hG (hget_hset _ _ _) hl2 hcap ?_ (.inl rfl)) (fun k hk => .inl hk) fun k hk hn => ?_
          · rw [List.take_append_of_le_length (by rw [List.length_append, Nat.add_mul]; omega), List.take_of_length_le (by rw [List.length_append, Nat.add_mul]; omega)]
          · rw [hget_hset_ne _ _ (fun (e : k = b) => hn (e ▸ hG)), hgo k hk hn]
        rcases hw with hw | ⟨p, hw, hp1, hp2⟩
        · subst hw
          exact ⟨⟨_, .lf, _⟩, key, fin h rfl fun _ _ _ => rfl⟩
        · subst hw
          exact ⟨⟨_, .lf, _⟩, key, fin (hset h p .dead) rfl fun k hk hn => hget_hset_ne h _ fun (e : k = p) => hn (e ▸ hp1)⟩
      · rw [ble_dec, decide_eq_false hcap] at key
        have e0 : Nat.add 0 (Nat.mul n sz) = n * sz := Nat.zero_add _
        have hpart : part Lc (c * sz) 0 (n * sz) = L := by rw [part_eq hl (by omega), List.drop_zero, hL]
        have key2 : more h b 0 n sz m ex xs = bc ex (grown h (n + m) sz (L ++ xs))
            (bc (Nat.beq (n * sz) (c * sz)) (w.peer .no (shared h b (n + m) sz Lc (c * sz) (L ++ xs)) fun p => bc (Nat.beq p b) .no (shared (hset h p .dead) b (n + m) sz Lc (c * sz) (L ++ xs)))
              (w.peer .no (grown (hset h b .dead) (n + m) sz (L ++ xs)) fun p => grown (hset (hset h p .dead) b .dead) (n + m) sz (L ++ xs))) := by
          show hcells h b RV.no _ = _
          unfold hcells
          rw [hg]
          show bc (Nat.ble (Nat.add 0 (Nat.mul n sz)) (c * sz)) (bc ex (grown h (n + m) sz (app (part Lc (c * sz) 0 (n * sz)) xs))
            (bc (Nat.beq (Nat.add 0 (Nat.mul n sz)) (c * sz)) (w.peer RV.no (shared h b (n + m) sz Lc (c * sz) (app (part Lc (c * sz) 0 (n * sz)) xs)) fun p => bc (Nat.beq p b) .no (shared (hset h p .dead) b (n + m) sz Lc (c * sz) (app (part Lc (c * sz) 0 (n * sz)) xs)))
              (w.peer RV.no (grown (hset h b .dead) (n + m) sz (app (part Lc (c * sz) 0 (n * sz)) xs)) fun p => grown (hset (hset h p .dead) b .dead) (n + m) sz (app (part Lc (c * sz) 0 (n * sz)) xs)))) RV.no = _
          rw [e0, hpart, app_eq, ble_dec, decide_eq_true hmul]; rfl
        have key : appendTo h sz bytes (.slice b 0 n c sz ex) m xs = _ := key.trans key2
        cases ex with
        | true => exact fresh h _ rfl (fun k hk hn => rfl) rfl key
        | false =>
          have key : appendTo h sz bytes (.slice b 0 n c sz false) m xs = bc (Nat.beq (n * sz) (c * sz)) (w.peer .no (shared h b (n + m) sz Lc (c * sz) (L ++ xs)) fun p => bc (Nat.beq p b) .no (shared (hset h p .dead) b (n + m) sz Lc (c * sz) (L ++ xs)))
              (w.peer .no (grown (hset h b .dead) (n + m) sz (L ++ xs)) fun p => grown (hset (hset h p .dead) b .dead) (n + m) sz (L ++ xs)) := key
          have hlen2 : (L ++ xs).length = (n + m) * sz := by rw [List.length_append, hlen, hx, Nat.add_mul]
          by_cases heq : n * sz = c * sz
          · have hb1 : Nat.beq (n * sz) (c * sz) = true := by rw [heq, Nat.beq_refl]
            rw [hb1] at key
            have fin : ∀ g : Hp, g.next = h.next → (∀ k, k < h.next → ¬ G k → hget g k = hget h k) → appendTo h sz bytes (.slice b 0 n c sz false) m xs = shared g b (n + m) sz Lc (c * sz) (L ++ xs) →
                ∃ e : Ev, appendTo h sz bytes (.slice b 0 n c sz false) m xs = .ok e.v e.h ∧ Sep (os.set i (OwnO sz e.v (n + m) (L ++ xs))) e.h := by
              intro g hgn hgo e
              refine ⟨⟨.slice g.next 0 (n + m) (n + m) sz false, .lf, hset (hpush g (.cells (L ++ xs) ((n + m) * sz) (.pair b))) b (.cells Lc (c * sz) (.pair g.next))⟩, e, ?_⟩
              refine go _ _ (fun k => G k ∨ k = h.next) (by show h.next ≤ (hset (hpush g _) b _).next; rw [hset_next, hpush_next, hgn]; omega) ?_ (fun k hk => hk.imp id fun hk => ⟨by omega, by show k < (hset (hpush g _) b _).next; rw [hset_next, hpush_next, hgn]; omega⟩) fun k hk hn => ?_
              · refine .sl (.inr hgn) (w := .pair b) ?_ hlen2 (Nat.le_refl _) (List.take_of_length_le (by omega)) (.inr ⟨b, rfl, .inl hG, by omega⟩)
                show hget (hset (hpush g _) b _) g.next = _
                rw [hget_hset_ne _ _ (by omega), hget_hpush]
              · show hget (hset (hpush g _) b _) k = _
                rw [hget_hset_ne _ _ (fun (e : k = b) => hn (e ▸ hG)), hget_hpush_ne _ _ (by omega), hgo k hk hn]
            rcases hw with hw | ⟨p, hw, hp1, hp2⟩
            · subst hw; exact fin h rfl (fun _ _ _ => rfl) key
            · subst hw
              have key : appendTo h sz bytes (.slice b 0 n c sz false) m xs = bc (Nat.beq p b) .no (shared (hset h p .dead) b (n + m) sz Lc (c * sz) (L ++ xs)) := key
              rw [beqF hp2] at key
              exact fin (hset h p .dead) rfl (fun k hk hn => hget_hset_ne h _ fun (e : k = p) => hn (e ▸ hp1)) key
          · rw [beqF heq] at key
            rcases hw with hw | ⟨p, hw, hp1, hp2⟩
            · subst hw
              exact fresh (hset h b .dead) _ rfl (fun k hk hn => hget_hset_ne h _ fun (e : k = b) => hn (e ▸ hG)) rfl key
            · subst hw
              exact fresh (hset (hset h p .dead) b .dead) _ rfl (fun k hk hn => by rw [hget_hset_ne _ _ (fun (e : k = b) => hn (e ▸ hG)), hget_hset_ne _ _ (fun (e : k = p) => hn (e ▸ hp1))]) rfl key
end Eng
end
section
set_option linter.unusedVariables false
namespace Eng
open Go
def lastB (x left : Nat) (sg : Bool) : Bool :=
  if x &&& 128 ≠ 0 then false else if sg = false then decide (x / 2 ^ left = 0) else if x / 2 ^ (left - 1) = 0 then true else decide (x / 2 ^ (left - 1) = 127 / 2 ^ (left - 1))
def readG (size : Nat) (sg : Bool) : List Nat → Nat → Nat → Nat → Nat × Nat × Nat
  | [], _, _, _ => (0, 0, 3)
  | x :: l, a, n, v =>
    if size - a ≤ 7 ∧ lastB x (size - a) sg = false then (0, 0, 2)
    else if x &&& 128 ≠ 0 then readG size sg l (a + 7) (n + 1) (v ||| ((x &&& 127) * 2 ^ a % 18446744073709551616))
    else if sg = true ∧ x &&& 64 ≠ 0 ∧ a + 7 < 64 then (v ||| ((x &&& 127) * 2 ^ a % 18446744073709551616) ||| (18446744073709551615 * 2 ^ (a + 7) % 18446744073709551616), n + 1, 0)
    else (v ||| ((x &&& 127) * 2 ^ a % 18446744073709551616), n + 1, 0)
theorem lastB_small {x left : Nat} {sg : Bool} (h : lastB x left sg = true) : x &&& 128 = 0 := by
  unfold lastB at h
  by_cases hx : x &&& 128 = 0
  · exact hx
  · rw [if_pos hx] at h; cases h
theorem drop_cons {l : List Nat} {k : Nat} (h : k < l.length) : l.drop k = l.getD k 0 :: l.drop (k + 1) := by
  rw [List.drop_eq_getElem_cons h, List.getD_eq_getElem?_getD, List.getElem?_eq_getElem h]; rfl
theorem getD_lt {l : List Nat} (hb : ∀ x ∈ l, x < 256) (k : Nat) : l.getD k 0 < 256 := by
  by_cases h : k < l.length
  · rw [List.getD_eq_getElem?_getD, List.getElem?_eq_getElem h]; exact hb _ (List.getElem_mem _)
  · rw [List.getD_eq_getElem?_getD, List.getElem?_eq_none (by omega)]; decide
theorem or64 {a b : Nat} (ha : a < 18446744073709551616) (hb : b < 18446744073709551616) : a ||| b < 18446744073709551616 := Nat.or_lt_two_pow (n := 64) ha hb
end Eng
namespace Eng
theorem eqI_nat (a b : Nat) : eqI (Int.ofNat a) (Int.ofNat b) = decide (a = b) := by
  rw [eqI_eq, Bool.eq_iff_iff]
  simp only [beq_iff_eq, decide_eq_true_eq]
  exact ⟨fun h => Int.ofNat.inj h, fun h => by rw [h]⟩
end Eng
namespace Eng
open Go
def lebU (v : Nat) : List Nat := if h : v < 128 then [v] else (v % 256 ||| 128) :: lebU (v / 128)
termination_by v
decreasing_by omega
end Eng
namespace Eng
open Go
def lebH (v : Nat) : List Nat := if h : v < 128 then [] else (v % 256 ||| 128) :: lebH (v / 128)
termination_by v
decreasing_by omega
def lebL (v : Nat) : Nat := if h : v < 128 then v else lebL (v / 128)
termination_by v
decreasing_by omega
def sIn (w : Int) : Prop := -64 ≤ w ∧ w < 64
instance (w : Int) : Decidable (sIn w) := inferInstanceAs (Decidable (_ ∧ _))
def sebH (w : Int) : List Nat := if h : sIn w then [] else ((w % 256).toNat ||| 128) :: sebH (w / 128)
termination_by w.natAbs
decreasing_by unfold sIn at h; omega
def sebL (w : Int) : Int := if h : sIn w then w else sebL (w / 128)
termination_by w.natAbs
decreasing_by unfold sIn at h; omega
def lebS (w : Int) : List Nat := sebH w ++ [(sebL w % 256).toNat &&& 127]
theorem s_conv {k : IntKind} (hk : uns k = true) {j : IntKind} {w : Int} : evQ (.toInt k (.const (.int j w))) .lf H0 = .ok (.int k (.ofNat (w % (modK k : Int)).toNat)) := by
  show OV.ok (.int k (wrapA k w)) = _
  have hp : (0 : Int) < (modK k : Int) := Int.ofNat_lt.2 (modK_pos k)
  have : wrapA k w = w % (modK k : Int) := by
    cases k <;> first | exact wrapU_eq _ (by decide) _ | cases hk
  rw [this]
  have h0 : 0 ≤ w % (modK k : Int) := Int.emod_nonneg _ (by omega)
  rw [Int.ofNat_eq_natCast, Int.toNat_of_nonneg h0]
end Eng
namespace Eng
open Go
def LastS (call : CallT) (f : Nat) : Prop := ∀ (x left : Nat) (s : Bool) (h : Hp), x < 256 → 1 ≤ left → left ≤ 64 → call f [.int .u8 (.ofNat x), .int .i64 (.ofNat left), .bool s] h = .ok (.bool (lastB x left s)) h
def numT (k : IntKind) (r : Nat × Nat × Nat) : AV := .tuple [.int k (.ofNat r.1), .int .i64 (.ofNat r.2.1), .int .i64 (.ofNat r.2.2)]
def ReadS (call : CallT) (f : Nat) (g : Nat → Bool → List Nat → Nat × Nat × Nat) : Prop := ∀ (B : Nat) (h : Hp) (vb : AV) (l : List Nat) (size : Nat) (sg : Bool), Bytes B h vb l → l.length < 90000 → size = 32 ∨ size = 33 ∨ size = 64 →
  call f [vb, .int .i64 (.ofNat size), .bool sg] h = .ok (numT .u64 (g size sg l)) h
def CloneS (call : CallT) (f : Nat) : Prop := ∀ {B : Nat} {h : Hp} {vb : AV} {l : List Nat}, B ≤ h.next → l.length ≤ 1099511627776 → Bytes B h vb l → ∃ v h', call f [vb] h = .ok v h' ∧ Owned 1 B h' v l.length (u8s l) ∧ Old B h h' ∧ B ≤ h'.next
def JoinS (call : CallT) (f : Nat) : Prop := ∀ {B : Nat} {h : Hp} {vb vl : AV} {l m : List Nat}, B ≤ h.next → Bytes B h vb l → Bytes B h vl m → l.length ≤ 1099511627776 → m.length ≤ 1099511627776 →
  ∃ v h', call f [vb, vl] h = .ok v h' ∧ Owned 1 B h' v (l.length + m.length) (u8s (l ++ m)) ∧ Old B h h' ∧ B ≤ h'.next
def PutUS (call : CallT) (f : Nat) : Prop := ∀ {B : Nat} {h : Hp} {vb : AV} {l : List Nat} {v : Nat}, B ≤ h.next → Bytes B h vb l → l.length ≤ 1099511627776 → v < 18446744073709551616 →
  ∃ rv rh, call f [vb, .int .u64 (.ofNat v)] h = .ok rv rh ∧ Owned 1 B rh rv (l.length + (lebU v).length) (u8s (l ++ lebU v)) ∧ Old B h rh ∧ B ≤ rh.next
def PutSS (call : CallT) (f : Nat) : Prop := ∀ {B : Nat} {h : Hp} {vb : AV} {l : List Nat} {v : Int}, B ≤ h.next → Bytes B h vb l → l.length ≤ 1099511627776 → (-9223372036854775808 ≤ v ∧ v < 9223372036854775808) →
  ∃ rv rh, call f [vb, .int .i64 v] h = .ok rv rh ∧ Owned 1 B rh rv (l.length + (lebS v).length) (u8s (l ++ lebS v)) ∧ Old B h rh ∧ B ≤ rh.next
def TrueS (call : CallT) (f : Nat) : Prop := ∀ h : Hp, call f [] h = .ok (.bool true) h
theorem again_of {o : QOp} {h : Hp} {v : AV} (e : evQ o .lf h = .ok v) (r : avEq v v = true) : again o .lf v h = true := by
  show (evQ o .lf h).cs false (fun v' => avEq v v') = true
  rw [e]; exact r
theorem avEq_int (k : IntKind) (n : Int) : avEq (.int k n) (.int k n) = true := by
  show bc (ikEq k k) (eqI n n) false = true
  rw [ikEq_self, eqI_eq]; simp [bc]
theorem avEq_bool (b : Bool) : avEq (.bool b) (.bool b) = true := by cases b <;> rfl
theorem beq_self (n : Nat) : Nat.beq n n = true := Nat.beq_refl n
theorem avEq_slice (b o l c s : Nat) (e : Bool) : avEq (.slice b o l c s e) (.slice b o l c s e) = true := by
  show bc (Nat.beq b b) (bc (Nat.beq o o) (bc (Nat.beq l l) (bc (Nat.beq c c) (bc (Nat.beq s s) (bc e e (notB e)) false) false) false) false) false = true
  simp only [beq_self, bc_eq, if_true]
  cases e <;> rfl
theorem avEq_ptr (b o : Nat) : avEq (.ptr b o) (.ptr b o) = true := by
  show bc (Nat.beq b b) (Nat.beq o o) false = true
  simp only [beq_self, bc_eq, if_true]
theorem Owned.same {sz B n : Nat} {h : Hp} {v : AV} {L : List AV} (o : Owned sz B h v n L) : avEq v v = true := by
  cases o with
  | nil => rfl
  | sl => exact avEq_slice ..
theorem Bytes.same {B : Nat} {h : Hp} {v : AV} {l : List Nat} (o : Bytes B h v l) : avEq v v = true := by
  cases o with
  | nil => rfl
  | sl => exact avEq_slice ..
theorem evF_at {M : Nat → Option (List AV → Hp → RV)} {S : Nat → Option AF} {N d f : Nat} (hM : M f = none) (args : List AV) (h : Hp) : evF M S N (d + 1) f args h = evF1 S N (evF M S N d) f args h := by
  show ocase (evF1 S N (evF M S N d) f args h) (fun m => m args h) (M f) = _
  rw [hM]; rfl
theorem evF_sum {S : Nat → Option AF} {N d : Nat} {l : List Nat} {f : Nat} (hf : f ∈ l) : TrueS (evF (sumT l) S N (d + 1)) f := fun h => by
  show ocase (evF1 S N (evF (sumT l) S N d) f [] h) (fun m => m [] h) (bc (lall (fun g => notB (Nat.beq g f)) l) none (some fun args h => lcase (RV.ok (.bool true) h) (fun _ _ => RV.no) args)) = _
  have hb : lall (fun g => notB (Nat.beq g f)) l = false := by
    cases hh : lall (fun g => notB (Nat.beq g f)) l with
    | false => rfl
    | true =>
      have := lall_iff.1 hh f hf
      rw [Nat.beq_refl] at this; cases this
  rw [hb]; rfl
theorem sumT_none {l : List Nat} {f : Nat} (hf : lall (fun g => notB (Nat.beq g f)) l = true) : sumT l f = none := by unfold sumT; rw [hf]; rfl
end Eng
namespace Eng
end Eng
namespace Eng
open Go
theorem readG_lt {size : Nat} {sg : Bool} : ∀ (l : List Nat) (a n v : Nat), v < 18446744073709551616 → (readG size sg l a n v).1 < 18446744073709551616
  | [], a, n, v, _ => by rw [readG]; exact Nat.zero_lt_succ _
  | x :: l, a, n, v, hv => by
    rw [readG]
    have h1 := or64 hv (Nat.mod_lt ((x &&& 127) * 2 ^ a) (by decide : 0 < 18446744073709551616))
    split
    · exact Nat.zero_lt_succ _
    · split
      · exact readG_lt l _ _ _ h1
      · split
        · exact or64 h1 (Nat.mod_lt _ (by decide))
        · exact h1
end Eng
namespace Eng
open Go
noncomputable def sInt (k : IntKind) (n : Nat) : Int := wrapA k (.ofNat n)
def NumS (call : CallT) (f : Nat) (size : Nat) (sg : Bool) (k : IntKind) (v : Nat → Int) : Prop := ∀ {B : Nat} {h : Hp} {vb : AV} {l : List Nat}, Bytes B h vb l → l.length < 90000 →
  call f [vb] h = .ok (.tuple [.int k (v (readG size sg l 0 0 0).1), .int .i64 (.ofNat (readG size sg l 0 0 0).2.1), .int .i64 (.ofNat (readG size sg l 0 0 0).2.2)]) h
theorem put_lt {l m : List Nat} (hl : ∀ x ∈ l, x < 256) (hm : ∀ x ∈ m, x < 256) : ∀ x ∈ l ++ m, x < 256 := fun x hx => by
  rcases List.mem_append.1 hx with h | h
  · exact hl x h
  · exact hm x h
end Eng
end
section
set_option linter.unusedVariables false
set_option linter.unusedSimpArgs false
namespace Eng
open Go Go.RowKit
theorem u_sub {k : IntKind} (hk : uns k = true) {a b : Nat} (h : b ≤ a) (ha : a < modK k) : evQ (.bin .sub (.const (.int k (.ofNat a))) (.const (.int k (.ofNat b)))) .lf H0 = .ok (.int k (.ofNat (a - b))) := by
  show bc (ikEq k k) (okI k (Int.sub (.ofNat a) (.ofNat b))) .no = _
  rw [ikEq_self, sub_nat h]; show OV.ok (.int k (wrapA k (.ofNat (a - b)))) = _
  rw [wrap_u hk, Nat.mod_eq_of_lt (by omega)]
theorem BIn.cell {G : Nat → Prop} {h : Hp} {v : AV} {l : List Nat} (P : BIn G h v l) : isCell v = true := by
  obtain ⟨⟨B, P⟩, _⟩ := P; cases P <;> rfl
theorem BIn.cells {G : Nat → Prop} {h : Hp} {v : AV} {l : List Nat} (P : BIn G h v l) : cellsOf v = [v] := by
  obtain ⟨⟨B, P⟩, _⟩ := P; cases P <;> rfl
theorem BIn.same {G : Nat → Prop} {h : Hp} {v : AV} {l : List Nat} (P : BIn G h v l) : avEq v v = true := by
  obtain ⟨⟨B, P⟩, _⟩ := P; exact P.same
theorem own_cell {os : List AObj} {h : Hp} (S : Sep os h) {i sz n : Nat} {v : AV} {L : List AV} (hi : os[i]? = some (OwnO sz v n L)) : isCell v = true := by
  obtain ⟨G, o⟩ := own_get S hi; cases o <;> rfl
theorem own_same {os : List AObj} {h : Hp} (S : Sep os h) {i sz n : Nat} {v : AV} {L : List AV} (hi : os[i]? = some (OwnO sz v n L)) : avEq v v = true := by
  obtain ⟨G, o⟩ := own_get S hi
  cases o with
  | nil => rfl
  | sl => exact avEq_slice ..
theorem own_bytes {os : List AObj} {h : Hp} (S : Sep os h) {i n : Nat} {v : AV} {l : List Nat} (hi : os[i]? = some (OwnO 1 v n (u8s l))) (hb : ∀ x ∈ l, x < 256) : Bytes h.next h v l := by
  obtain ⟨G, o, hG, _⟩ := S.at hi
  obtain ⟨⟨B, P⟩, hk⟩ := OwnI.bytes o hb
  cases P with
  | nil => exact .nil
  | sl hB hg hcl hl hm hc hb => exact .sl (hG _ (hk _ rfl)) hg hcl hl hm hc hb
theorem fill_cons {v : AV} {xs : List AV} {o k n : Nat} {ps : List (Nat × Nat × AX)} {t : T} {z : List AV} (hv : cellsOf v = xs) (hk : xs.length = k) (hn : o + k ≤ n) : fillParts ((o, k, .const v) :: ps) t n z = fillParts ps t n (over xs z o) := by
  subst hk
  show bc (Nat.beq (len (cellsOf v)) xs.length) (bc (Nat.ble (o + xs.length) n) (fillParts ps t n (over (cellsOf v) z o)) none) none = _
  rw [hv, len_eq, Nat.beq_refl, ble_dec, decide_eq_true hn]; rfl
theorem build_told {z cs : List AV} {ps : List (Nat × Nat × AX)} {h : Hp} (e : fillParts ps .lf (len z) z = some cs) : evQ (.build z ps) .lf h = .ok (.agg cs) := by
  show ocase OV.no (fun cs => .ok (.agg cs)) (fillParts ps .lf (len z) z) = _
  rw [e]; rfl
theorem avEq_agg1 {v : AV} {l : List AV} (h1 : avEq v v = true) (h2 : avEq (.agg l) (.agg l) = true) : avEq (.agg (v :: l)) (.agg (v :: l)) = true := by
  show bc (avEq v v) (avEq (.agg l) (.agg l)) false = true
  rw [h1]; exact h2
theorem all_cell {x : AV} {l : List AV} (h1 : isCell x = true) (h2 : ∀ y ∈ l, isCell y = true) : ∀ y ∈ x :: l, isCell y = true := fun y hy => by
  rcases List.mem_cons.1 hy with e | e
  · rw [e]; exact h1
  · exact h2 y e
theorem all_cell0 : ∀ y ∈ ([] : List AV), isCell y = true := fun y hy => by cases hy
theorem box_told {v : AV} {xs : List AV} {n : Nat} (hv : cellsOf v = xs) (hn : xs.length = n) (hx : ∀ x ∈ xs, isCell x = true) : evL (.box (.const v)) .lf = .ok .ptr (mkCells xs n) := by
  subst hn
  show bc (lall isCell (cellsOf v)) (OL.ok .ptr (mkCells (cellsOf v) (len (cellsOf v)))) .no = _
  rw [hv, lall_iff.2 hx, len_eq]; rfl
theorem lit_told {sz l n : Nat} {z cs : List AV} {ps : List (Nat × Nat × AX)} (e : fillParts ps .lf n (lrep z l) = some cs) (hx : ∀ x ∈ cs, isCell x = true) (hn : Nat.mul l sz = n) : evL (.buildSlice sz l z ps) .lf = .ok (.sl l l sz true) (mkCells cs n) := by
  subst hn
  show ocase OL.no (fun cs => bc (lall isCell cs) (.ok (.sl l l sz true) (mkCells cs (Nat.mul l sz))) .no) (fillParts ps .lf (Nat.mul l sz) (lrep z l)) = _
  rw [e]
  show bc (lall isCell cs) _ _ = _
  rw [lall_iff.2 hx]; rfl
theorem own_L {os : List AObj} {h : Hp} (S : Sep os h) {i sz n : Nat} {v : AV} {L : List AV} (hi : os[i]? = some (OwnO sz v n L)) : L.length = n * sz := by
  obtain ⟨G, o⟩ := own_get S hi; exact o.len
theorem u8s_cells (l : List Nat) : ∀ x ∈ u8s l, isCell x = true := fun x hx => by
  rw [u8s_eq] at hx
  obtain ⟨y, _, rfl⟩ := List.mem_map.1 hx; rfl
theorem cons_lt {y : Nat} {l : List Nat} (h : y < 256) (hl : ∀ x ∈ l, x < 256) : ∀ x ∈ y :: l, x < 256 := fun x hx => by
  rcases List.mem_cons.1 hx with e | e
  · omega
  · exact hl x e
def avN (i : Nat) : AV → AV
  | .tuple l => l.getD i .nilPtr
  | v => v
end Eng
end
section
set_option linter.unusedVariables false
set_option linter.unusedSimpArgs false
namespace Eng
open Go Go.RowKit Go.ChangeShapes Go.WideShapes
section
variable {H : Type} {enc : TypeId × Value → H} {P : Program} {W : World}
end
end Eng
end
section
set_option linter.unusedVariables false
set_option linter.unusedSimpArgs false
namespace Eng
open Go Go.RowKit
theorem lb {n m : Nat} (h : Nat.ble n m = true) : n ≤ m := Nat.le_of_ble_eq_true h
def gd {α : Type} (p : Prop) [Decidable p] (o : Option α) : Option α := if p then o else none
theorem gd_inv {α : Type} {p : Prop} [Decidable p] {o : Option α} {r : α} (h : gd p o = some r) : p ∧ o = some r := by
  unfold gd at h
  split at h
  · exact ⟨‹_›, h⟩
  · cases h
theorem gd_t {α : Type} {p : Prop} [Decidable p] {o : Option α} (h : p) : gd p o = o := if_pos h
def ob {α β : Type} (o : Option α) (f : α → Option β) : Option β := match o with | none => none | some x => f x
theorem ob_inv {α β : Type} {o : Option α} {f : α → Option β} {r : β} (h : ob o f = some r) : ∃ x, o = some x ∧ f x = some r := by
  cases o with
  | none => cases h
  | some x => exact ⟨x, rfl, h⟩
theorem ob_some {α β : Type} {x : α} {f : α → Option β} : ob (some x) f = f x := rfl
inductive LO (S R : Type) where
  | ex (s : S)
  | rt (r : R)
def LO.on {S R β : Type} (o : LO S R) (f : S → β) (g : R → β) : β := match o with | .ex s => f s | .rt r => g r
theorem LO.on_ex {S R β : Type} {s : S} {f : S → β} {g : R → β} : (LO.ex s : LO S R).on f g = f s := rfl
theorem LO.on_rt {S R β : Type} {r : R} {f : S → β} {g : R → β} : (LO.rt r : LO S R).on f g = g r := rfl
theorem ift {α : Type} {p : Prop} [Decidable p] {a b : Option α} {r : α} (h : (if p then a else b) = some r) (c : p) : a = some r := by rwa [if_pos c] at h
theorem iff0 {α : Type} {p : Prop} [Decidable p] {a b : Option α} {r : α} (h : (if p then a else b) = some r) (c : ¬ p) : b = some r := by rwa [if_neg c] at h
theorem nltO {a b : Nat} (h : b ≤ a) : ¬ a < b := Nat.not_lt.2 h
theorem nleO {a b : Nat} (h : b < a) : ¬ a ≤ b := Nat.not_le.2 h
theorem nneO {α : Sort _} {a b : α} (h : a = b) : ¬ a ≠ b := fun g => g h
theorem nbF {b : Bool} (h : b = false) : ¬ b = true := by rw [h]; decide
theorem nbT {b : Bool} (h : b = true) : ¬ b = false := by rw [h]; decide
abbrev Up (G : Nat → Prop) (h : Hp) (G' : Nat → Prop) (h' : Hp) : Prop := ∀ k, G k → G' k ∧ hget h' k = hget h k
abbrev Low (h : Hp) : Nat → Prop := fun k => k < h.next
theorem Up.refl (G : Nat → Prop) (h : Hp) : Up G h G h := fun k hk => ⟨hk, rfl⟩
theorem Up.trans {G G' G'' : Nat → Prop} {h h' h'' : Hp} (a : Up G h G' h') (b : Up G' h' G'' h'') : Up G h G'' h'' := fun k hk => ⟨(b k (a k hk).1).1, (b k (a k hk).1).2.trans (a k hk).2⟩
theorem Sep.low {os : List AObj} {h : Hp} (S : Sep os h) {i : Nat} {G : Nat → Prop} {h0 : Hp} (hi : os[i]? = some (Frz G h0)) : Up G h0 (Low h) h := fun k hk => S.frozen hi hk
theorem BIn.up {G G' : Nat → Prop} {h h' : Hp} {v : AV} {l : List Nat} (u : Up G h G' h') (P : BIn G h v l) : BIn G' h' v l := by
  obtain ⟨⟨B, P⟩, hG⟩ := P
  cases P with
  | nil => exact .nil
  | sl hB hg hcl hl hm hc hb =>
    obtain ⟨h1, h2⟩ := u _ (hG _ rfl)
    exact ⟨⟨_, .sl (Nat.lt_succ_self _) (h2.trans hg) hcl hl hm hc hb⟩, fun b e => by cases e; exact h1⟩
theorem Sep.empty {os : List AObj} {h : Hp} (S : Sep os h) : Sep (Frz (fun _ => False) h :: os) h :=
  S.add (fun _ => False) (Nat.le_refl _) ⟨fun _ e => e, fun _ e => e.elim⟩ (fun _ e => e.elim) fun _ _ => rfl
theorem Sep.merge {os : List AObj} {h : Hp} {G1 G2 : Nat → Prop} {h1 h2 : Hp} (S : Sep (Frz G1 h1 :: Frz G2 h2 :: os) h) : Sep (Frz (fun k => G1 k ∨ G2 k) h :: os) h := by
  obtain ⟨g, g1, g2, g3⟩ := S
  refine ⟨fun j => Nat.casesOn j (fun k => g 0 k ∨ g 1 k) (fun j => g (j + 2)), fun j x hj => ?_, fun j k hk => ?_, fun j1 j2 k a b => ?_⟩
  · cases j with
    | zero => cases hj; exact ⟨fun k hk => hk.imp ((g1 0 _ rfl).1 k) ((g1 1 _ rfl).1 k), fun k hk => rfl⟩
    | succ j => exact g1 (j + 2) x hj
  · cases j with
    | zero => exact hk.elim (g2 0 k) (g2 1 k)
    | succ j => exact g2 _ k hk
  · cases j1 with
    | zero =>
      cases j2 with
      | zero => rfl
      | succ j2 => rcases a with a | a <;> have := g3 _ _ k a b <;> omega
    | succ j1 =>
      cases j2 with
      | zero => rcases b with b | b <;> have := g3 _ _ k a b <;> omega
      | succ j2 => have := g3 _ _ k a b; omega
theorem Sep.up1 {os : List AObj} {h : Hp} {G1 G2 : Nat → Prop} {h1 h2 : Hp} (S : Sep (Frz G1 h1 :: Frz G2 h2 :: os) h) : Up G1 h1 (fun k => G1 k ∨ G2 k) h := fun k hk => ⟨.inl hk, (S.frozen (i := 0) rfl hk).2⟩
theorem Sep.up2 {os : List AObj} {h : Hp} {G1 G2 : Nat → Prop} {h1 h2 : Hp} (S : Sep (Frz G1 h1 :: Frz G2 h2 :: os) h) : Up G2 h2 (fun k => G1 k ∨ G2 k) h := fun k hk => ⟨.inr hk, (S.frozen (i := 1) rfl hk).2⟩
theorem Sep.call {os news : List AObj} {h rh : Hp} (S : Sep os h) (S' : Sep (news ++ [Frz (Low h) h]) rh) : Sep (news ++ os) rh := by
  have hi : (news ++ [Frz (Low h) h])[news.length]? = some (Frz (Low h) h) := by simp
  have fz : ∀ k, k < h.next → k < rh.next ∧ hget rh k = hget h k := fun k hk => S'.frozen hi hk
  obtain ⟨g, g1, g2, g3⟩ := S
  obtain ⟨f, f1, f2, f3⟩ := S'
  have fn : ∀ k, k < h.next → f news.length k := (f1 _ _ hi).1
  have fne : ∀ i k, i < news.length → f i k → ¬ k < h.next := fun i k hi' hf hk => by have := f3 _ _ k hf (fn k hk); omega
  refine ⟨fun j => if j < news.length then f j else g (j - news.length), fun j x hj => ?_, fun j k hk => ?_, fun j1 j2 k a b => ?_⟩
  · by_cases hlt : j < news.length
    · show x.p rh (if j < news.length then f j else g (j - news.length))
      rw [if_pos hlt]
      exact f1 j x (by rw [List.getElem?_append_left hlt] at hj ⊢; exact hj)
    · show x.p rh (if j < news.length then f j else g (j - news.length))
      rw [if_neg hlt]
      rw [List.getElem?_append_right (Nat.not_lt.1 hlt)] at hj
      exact x.loc (fun k hk => (fz k (g2 _ k hk)).2) (g1 _ x hj)
  · by_cases hlt : j < news.length
    · have hk : (if j < news.length then f j else g (j - news.length)) k := hk
      rw [if_pos hlt] at hk; exact f2 j k hk
    · have hk : (if j < news.length then f j else g (j - news.length)) k := hk
      rw [if_neg hlt] at hk; exact (fz k (g2 _ k hk)).1
  · have a : (if j1 < news.length then f j1 else g (j1 - news.length)) k := a
    have b : (if j2 < news.length then f j2 else g (j2 - news.length)) k := b
    by_cases h1 : j1 < news.length
    · rw [if_pos h1] at a
      by_cases h2 : j2 < news.length
      · rw [if_pos h2] at b; exact f3 _ _ k a b
      · rw [if_neg h2] at b; exact absurd (g2 _ k b) (fne _ k h1 a)
    · rw [if_neg h1] at a
      by_cases h2 : j2 < news.length
      · rw [if_pos h2] at b; exact absurd (g2 _ k a) (fne _ k h2 b)
      · rw [if_neg h2] at b; have := g3 _ _ k a b; omega
structure Rep (α : Type) where
  sz : Nat
  rep : (Nat → Prop) → Hp → List AV → α → Prop
  len : ∀ {G h cs x}, rep G h cs x → cs.length = sz
  cell : ∀ {G h cs x}, rep G h cs x → ∀ c ∈ cs, isCell c = true
  up : ∀ {G h G' h' cs x}, Up G h G' h' → rep G h cs x → rep G' h' cs x
def rU (k : IntKind) : Rep Nat where
  sz := 1
  rep _ _ cs x := cs = [.int k (.ofNat x)] ∧ x < modK k
  len := fun ⟨e, _⟩ => by rw [e]; rfl
  cell := fun ⟨e, _⟩ => by rw [e]; exact all_cell rfl all_cell0
  up := fun _ e => e
def rN (k : IntKind) : Rep Nat where
  sz := 1
  rep _ _ cs x := cs = [.int k (.ofNat x)] ∧ x < 9223372036854775808
  len := fun ⟨e, _⟩ => by rw [e]; rfl
  cell := fun ⟨e, _⟩ => by rw [e]; exact all_cell rfl all_cell0
  up := fun _ e => e
def rZ (k : IntKind) : Rep Int where
  sz := 1
  rep _ _ cs x := cs = [.int k x]
  len := fun e => by rw [e]; rfl
  cell := fun e => by rw [e]; exact all_cell rfl all_cell0
  up := fun _ e => e
def rN0 (k : IntKind) : Rep Nat where
  sz := 1
  rep _ _ cs x := cs = [.int k (.ofNat x)]
  len := fun e => by rw [e]; rfl
  cell := fun e => by rw [e]; exact all_cell rfl all_cell0
  up := fun _ e => e
def rB : Rep Bool where
  sz := 1
  rep _ _ cs x := cs = [.bool x]
  len := fun e => by rw [e]; rfl
  cell := fun e => by rw [e]; exact all_cell rfl all_cell0
  up := fun _ e => e
def rS : Rep (List Nat) where
  sz := 1
  rep _ _ cs x := cs = [.str x]
  len := fun e => by rw [e]; rfl
  cell := fun e => by rw [e]; exact all_cell rfl all_cell0
  up := fun _ e => e
def rY : Rep (List Nat) where
  sz := 1
  rep G h cs x := ∃ v, cs = [v] ∧ BIn G h v x
  len := fun ⟨v, e, _⟩ => by rw [e]; rfl
  cell := fun ⟨v, e, p⟩ => by rw [e]; exact all_cell p.cell all_cell0
  up := fun u ⟨v, e, p⟩ => ⟨v, e, p.up u⟩
def rP {α β : Type} (a : Rep α) (b : Rep β) : Rep (α × β) where
  sz := a.sz + b.sz
  rep G h cs x := ∃ c d, cs = c ++ d ∧ a.rep G h c x.1 ∧ b.rep G h d x.2
  len := fun ⟨c, d, e, p, q⟩ => by rw [e, List.length_append, a.len p, b.len q]
  cell := fun ⟨c, d, e, p, q⟩ => by
    rw [e]; intro x hx
    rcases List.mem_append.1 hx with hx | hx
    · exact a.cell p x hx
    · exact b.cell q x hx
  up := fun u ⟨c, d, e, p, q⟩ => ⟨c, d, e, a.up u p, b.up u q⟩
def Rows {α : Type} (a : Rep α) (G : Nat → Prop) (h : Hp) : List AV → List α → Prop
  | L, [] => L = []
  | L, x :: xs => ∃ c M, L = c ++ M ∧ a.rep G h c x ∧ Rows a G h M xs
theorem Rows.len {α : Type} {a : Rep α} {G : Nat → Prop} {h : Hp} : ∀ {xs : List α} {L : List AV}, Rows a G h L xs → L.length = xs.length * a.sz
  | [], L, e => by rw [show L = [] from e]; simp
  | x :: xs, L, ⟨c, M, e, p, q⟩ => by rw [e, List.length_append, a.len p, Rows.len q, List.length_cons, Nat.succ_mul]; omega
theorem Rows.cell {α : Type} {a : Rep α} {G : Nat → Prop} {h : Hp} : ∀ {xs : List α} {L : List AV}, Rows a G h L xs → ∀ c ∈ L, isCell c = true
  | [], L, e => by rw [show L = [] from e]; exact all_cell0
  | x :: xs, L, ⟨c, M, e, p, q⟩ => by
    rw [e]; intro y hy
    rcases List.mem_append.1 hy with hy | hy
    · exact a.cell p y hy
    · exact Rows.cell q y hy
theorem Rows.up {α : Type} {a : Rep α} {G G' : Nat → Prop} {h h' : Hp} (u : Up G h G' h') : ∀ {xs : List α} {L : List AV}, Rows a G h L xs → Rows a G' h' L xs
  | [], L, e => e
  | x :: xs, L, ⟨c, M, e, p, q⟩ => ⟨c, M, e, a.up u p, Rows.up u q⟩
theorem Rows.append {α : Type} {a : Rep α} {G : Nat → Prop} {h : Hp} : ∀ {xs ys : List α} {L M : List AV}, Rows a G h L xs → Rows a G h M ys → Rows a G h (L ++ M) (xs ++ ys)
  | [], ys, L, M, e, q => by rw [show L = [] from e]; exact q
  | x :: xs, ys, L, M, ⟨c, N, e, p, q⟩, r => ⟨c, N ++ M, by rw [e, List.append_assoc], p, Rows.append q r⟩
theorem Rows.one {α : Type} {a : Rep α} {G : Nat → Prop} {h : Hp} {x : α} {c : List AV} (p : a.rep G h c x) : Rows a G h c [x] := ⟨c, [], (List.append_nil c).symm, p, rfl⟩
theorem Rows.snoc {α : Type} {a : Rep α} {G : Nat → Prop} {h : Hp} {xs : List α} {L c : List AV} {x : α} (r : Rows a G h L xs) (p : a.rep G h c x) : Rows a G h (L ++ c) (xs ++ [x]) := r.append (.one p)
theorem Rows.get {α : Type} [Inhabited α] {a : Rep α} {G : Nat → Prop} {h : Hp} : ∀ {xs : List α} {L : List AV} {k : Nat}, Rows a G h L xs → k < xs.length → a.rep G h ((L.drop (k * a.sz)).take a.sz) (xs.getD k default)
  | [], L, k, _, hk => absurd hk (Nat.not_lt_zero _)
  | x :: xs, L, 0, ⟨c, M, e, p, q⟩, hk => by
    rw [Nat.zero_mul, List.drop_zero, e, List.take_append_of_le_length (by rw [a.len p]; exact Nat.le_refl _), List.take_of_length_le (by rw [a.len p]; exact Nat.le_refl _)]
    exact p
  | x :: xs, L, k + 1, ⟨c, M, e, p, q⟩, hk => by
    have hd : L.drop ((k + 1) * a.sz) = M.drop (k * a.sz) := by
      rw [e, List.drop_append, List.drop_of_length_le (by rw [a.len p, Nat.succ_mul]; omega), List.nil_append, a.len p]
      congr 1; rw [Nat.succ_mul]; omega
    rw [hd]
    exact Rows.get q (by simpa using hk)
inductive SIn {α : Type} (a : Rep α) (G : Nat → Prop) (h : Hp) : AV → List α → Prop
  | nil : SIn a G h .nilSlice []
  | sl {b o c : Nat} {ex : Bool} {cs : List AV} {m : Nat} {w : Own} {xs : List α} (hG : G b) (hg : hget h b = some (.cells cs m w)) (hcl : cs.length = m) (hm : o + xs.length * a.sz ≤ m) (hc : xs.length ≤ c)
      (hr : Rows a G h ((cs.drop o).take (xs.length * a.sz)) xs) : SIn a G h (.slice b o xs.length c a.sz ex) xs
theorem SIn.up {α : Type} {a : Rep α} {G G' : Nat → Prop} {h h' : Hp} {v : AV} {xs : List α} (u : Up G h G' h') (P : SIn a G h v xs) : SIn a G' h' v xs := by
  cases P with
  | nil => exact .nil
  | sl hG hg hcl hm hc hr => exact .sl (u _ hG).1 ((u _ hG).2.trans hg) hcl hm hc (hr.up u)
theorem SIn.cell {α : Type} {a : Rep α} {G : Nat → Prop} {h : Hp} {v : AV} {xs : List α} (P : SIn a G h v xs) : isCell v = true := by cases P <;> rfl
theorem SIn.cells {α : Type} {a : Rep α} {G : Nat → Prop} {h : Hp} {v : AV} {xs : List α} (P : SIn a G h v xs) : cellsOf v = [v] := by cases P <;> rfl
theorem SIn.same {α : Type} {a : Rep α} {G : Nat → Prop} {h : Hp} {v : AV} {xs : List α} (P : SIn a G h v xs) : avEq v v = true := by
  cases P with
  | nil => rfl
  | sl => exact avEq_slice ..
def rL {α : Type} (a : Rep α) : Rep (List α) where
  sz := 1
  rep G h cs x := ∃ v, cs = [v] ∧ SIn a G h v x
  len := fun ⟨v, e, _⟩ => by rw [e]; rfl
  cell := fun ⟨v, e, p⟩ => by rw [e]; exact all_cell p.cell all_cell0
  up := fun u ⟨v, e, p⟩ => ⟨v, e, p.up u⟩
noncomputable def elemO (v : AV) (k sz off : Nat) : AV := v.asSlice .nilPtr .nilPtr fun b o _ _ _ _ => .ptr b (o + k * sz + off)
def RowAt (G : Nat → Prop) (h : Hp) (v : AV) (k sz : Nat) (cs : List AV) : Prop :=
  ∃ b o n c ex L m w, v = .slice b o n c sz ex ∧ G b ∧ hget h b = some (.cells L m w) ∧ L.length = m ∧ o + k * sz + sz ≤ m ∧ (L.drop (o + k * sz)).take sz = cs
theorem own_freezeR {α : Type} {a : Rep α} {os : List AObj} {h : Hp} {n : Nat} {v : AV} {L : List AV} {G1 : Nat → Prop} {h1 : Hp} {xs : List α} (S : Sep (OwnO a.sz v n L :: Frz G1 h1 :: os) h) (r : Rows a G1 h1 L xs) (hn : n = xs.length) :
    ∃ G : Nat → Prop, SIn a G h v xs ∧ Up G1 h1 G h ∧ Sep (Frz G h :: os) h := by
  obtain ⟨G, o, _, S'⟩ := S.freeze (i := 0) rfl
  have S' : Sep (Frz G h :: Frz G1 h1 :: os) h := S'
  refine ⟨_, ?_, S'.up2, S'.merge⟩
  subst hn
  have hr := r.up S'.up2
  have o : OwnI a.sz h G v xs.length L := o
  generalize hxs : xs.length = n at o
  cases o with
  | nil =>
    obtain rfl := List.length_eq_zero_iff.1 hxs
    exact .nil
  | @sl b n c ex w Lc L hG hg hl hn hL hw =>
    subst hxs
    have := Nat.mul_le_mul_right a.sz hn
    exact .sl (.inl hG) hg hl (by omega) hn (by rw [List.drop_zero, hL]; exact hr)
theorem own_rows_nil {α : Type} (a : Rep α) (G : Nat → Prop) (h : Hp) : Rows a G h [] [] := rfl
theorem own_bin {os : List AObj} {h : Hp} (S : Sep os h) {i n : Nat} {v : AV} {l : List Nat} (hi : os[i]? = some (OwnO 1 v n (u8s l))) (hb : ∀ x ∈ l, x < 256) : BIn (Low h) h v l := BIn.of (own_bytes S hi hb)
end Eng
end
section
set_option linter.unusedVariables false
set_option linter.unusedSimpArgs false
namespace Eng
open Go Go.RowKit
theorem Sep.sel {os : List AObj} {h : Hp} (S : Sep os h) (is : List Nat) (hn : is.Nodup) {new : List AObj} (hnew : is.map (fun i => os[i]?) = new.map some) : Sep new h := by
  obtain ⟨g, g1, g2, g3⟩ := S
  have hl : is.length = new.length := by simpa using congrArg List.length hnew
  refine ⟨fun j k => ∃ i, is[j]? = some i ∧ g i k, fun j x hj => ?_, fun j k ⟨i, _, hk⟩ => g2 i k hk, fun j1 j2 k ⟨i1, h1, k1⟩ ⟨i2, h2, k2⟩ => ?_⟩
  · have hjl : j < is.length := by rw [hl]; exact (List.getElem?_eq_some_iff.1 hj).1
    have e1 : (is.map (fun i => os[i]?))[j]? = some (os[is[j]]?) := by rw [List.getElem?_map, List.getElem?_eq_getElem hjl]; rfl
    rw [hnew, List.getElem?_map, hj] at e1
    have e2 : os[is[j]]? = some x := (Option.some.inj e1).symm
    have : (fun k => ∃ i, is[j]? = some i ∧ g i k) = g is[j] := by
      funext k
      apply propext
      constructor
      · rintro ⟨i, hi, hk⟩
        rw [List.getElem?_eq_getElem hjl] at hi
        cases hi; exact hk
      · exact fun hk => ⟨_, List.getElem?_eq_getElem hjl, hk⟩
    show x.p h (fun k => ∃ i, is[j]? = some i ∧ g i k)
    rw [this]; exact g1 _ x e2
  · have := g3 i1 i2 k k1 k2
    subst this
    obtain ⟨a1, b1⟩ := List.getElem?_eq_some_iff.1 h1
    obtain ⟨a2, b2⟩ := List.getElem?_eq_some_iff.1 h2
    exact (List.getElem_inj hn).1 (b1.trans b2.symm)
theorem Sep.mergeX {os : List AObj} {h : Hp} {G1 G2 : Nat → Prop} {h1 h2 : Hp} (S : Sep (Frz G1 h1 :: Frz G2 h2 :: os) h) : ∃ G : Nat → Prop, Up G1 h1 G h ∧ Up G2 h2 G h ∧ Sep (Frz G h :: os) h :=
  ⟨_, S.up1, S.up2, S.merge⟩
theorem RowAt.up {G G' : Nat → Prop} {h h' : Hp} {v : AV} {k sz : Nat} {cs : List AV} (u : Up G h G' h') (R : RowAt G h v k sz cs) : RowAt G' h' v k sz cs := by
  obtain ⟨b, o, n, c, ex, L, m, w, e, hG, hg, r⟩ := R
  exact ⟨b, o, n, c, ex, L, m, w, e, (u b hG).1, ((u b hG).2).trans hg, r⟩
end Eng
end
section
set_option linter.unusedVariables false
set_option linter.unusedSimpArgs false
namespace Eng
open Go Go.RowKit
theorem own_idx {os : List AObj} {h : Hp} (S : Sep os h) {i sz n k : Nat} {v : AV} {L : List AV} (hi : os[i]? = some (OwnO sz v n L)) (hk : k < n) : evQ (.idxAddrSl sz (.const v) (.const (.int .i64 (.ofNat k)))) .lf H0 = .ok (elemP v k sz) := by
  obtain ⟨G, o⟩ := own_get S hi
  cases o with
  | nil => exact absurd hk (Nat.not_lt_zero _)
  | sl hG hg hl hn hL hw => exact q_idx hk
theorem own_load1 {os : List AObj} {h : Hp} (S : Sep os h) {i n k : Nat} {v : AV} {L : List AV} (hi : os[i]? = some (OwnO 1 v n L)) {x : AV} (hx : L[k]? = some x) : evQ (.loadS (.const (elemP v k 1))) .lf h = .ok x := by
  obtain ⟨G, o⟩ := own_get S hi
  have hk : k < L.length := (List.getElem?_eq_some_iff.1 hx).1
  cases o with
  | nil => exact absurd hk (Nat.not_lt_zero _)
  | @sl b n c ex w Lc L hG hg hl hn hL hw =>
    refine q_load hg ?_
    rw [← hL] at hx
    rw [List.getElem?_take] at hx
    split at hx
    · rw [Nat.zero_add, Nat.mul_one]; exact hx
    · cases hx
theorem Rows.one_at {α : Type} [Inhabited α] {a : Rep α} {G : Nat → Prop} {h : Hp} {xs : List α} {L : List AV} {k : Nat} (ha : a.sz = 1) (r : Rows a G h L xs) (hk : k < xs.length) {f : α → AV} (hv : ∀ cs x, a.rep G h cs x → cs = [f x]) : L[k]? = some (f (xs.getD k default)) := by
  have := hv _ _ (r.get hk)
  rw [ha, Nat.mul_one] at this
  have h2 := congrArg (·[0]?) this
  simpa using h2
theorem own_loadR {α : Type} [Inhabited α] {a : Rep α} {G : Nat → Prop} {h0 : Hp} {os : List AObj} {h : Hp} (S : Sep os h) {i n k : Nat} {v : AV} {L : List AV} {xs : List α} (ha : a.sz = 1) (hi : os[i]? = some (OwnO 1 v n L)) (r : Rows a G h0 L xs) (hk : k < xs.length) {f : α → AV} (hv : ∀ cs x, a.rep G h0 cs x → cs = [f x]) :
    evQ (.loadS (.const (elemP v k 1))) .lf h = .ok (f (xs.getD k default)) := own_load1 S hi (r.one_at ha hk hv)
theorem Rows.set1 {α : Type} {a : Rep α} {G : Nat → Prop} {h : Hp} (ha : a.sz = 1) : ∀ {xs : List α} {L : List AV} {k : Nat} {x : AV} {y : α}, Rows a G h L xs → a.rep G h [x] y → Rows a G h (L.set k x) (xs.set k y)
  | [], L, k, x, y, r, _ => by rw [show L = [] from r]; cases k <;> exact rfl
  | z :: xs, L, k, x, y, ⟨c, M, e, p, q⟩, hr => by
    obtain ⟨c0, rfl⟩ : ∃ c0, c = [c0] := by
      have := a.len p
      rw [ha] at this
      match c, this with
      | [c0], _ => exact ⟨c0, rfl⟩
    subst e
    cases k with
    | zero => exact ⟨[x], M, rfl, hr, q⟩
    | succ k => exact ⟨[c0], M.set k x, rfl, p, Rows.set1 ha q hr⟩
theorem Rows.take1 {α : Type} {a : Rep α} {G : Nat → Prop} {h : Hp} : ∀ {xs : List α} {L : List AV} (k : Nat), Rows a G h L xs → Rows a G h (L.take (k * a.sz)) (xs.take k)
  | [], L, k, r => by rw [show L = [] from r]; simp; exact rfl
  | z :: xs, L, 0, _ => by simp; exact rfl
  | z :: xs, L, k + 1, ⟨c, M, e, p, q⟩ => by
    subst e
    refine ⟨c, M.take (k * a.sz), ?_, p, Rows.take1 k q⟩
    rw [List.take_append, List.take_of_length_le (by rw [a.len p, Nat.succ_mul]; omega), a.len p]
    congr 2; rw [Nat.succ_mul]; omega
theorem own_store1 {os : List AObj} {h : Hp} (call : CallT) (S : Sep os h) {i n k : Nat} {v : AV} {L : List AV} (hi : os[i]? = some (OwnO 1 v n L)) (hk : k < n) {x : AV} (hx : isCell x = true) :
    ∃ e : Ev, evE (.store 1 (.const (elemP v k 1)) (.const x)) call .lf h = .ok undef e.h ∧ Sep (os.set i (OwnO 1 v n (L.set k x))) e.h := by
  obtain ⟨G, o, hb, go⟩ := S.at hi
  have o : OwnI 1 h G v n L := o
  cases o with
  | nil => exact absurd hk (Nat.not_lt_zero _)
  | @sl b n c ex w Lc L hG hg hl hn hL hw =>
    have hlt : k < Lc.length := by omega
    have ev : ∀ (h1 : Hp), hget h1 b = some (.cells Lc (c * 1) w) → evE (.store 1 (.const (elemP (.slice b 0 n c 1 ex) k 1)) (.const x)) call .lf h1 = wr1 h1 b (0 + k * 1) x := fun h1 hg1 => by
      show oStore 1 (.const (.ptr b (0 + k * 1))) (.const x) .lf h1 = _
      unfold oStore
      have e1 : Nat.beq 1 1 = true := rfl
      rw [e1, bc_eq, if_pos rfl]
      show bc (isCell x) (oStore1 (.const (.ptr b (0 + k * 1))) (.const x) .lf h1) _ = _
      rw [hx, bc_eq, if_pos rfl]
      show bc (isCell x) (wr1 h1 b (0 + k * 1) x) RV.no = _
      rw [hx]; rfl
    have wr : wr1 h b (0 + k * 1) x = put h b (upd x Lc (0 + k * 1)) (c * 1) w undef := by
      show hcells h b RV.no _ = _
      unfold hcells
      rw [hg]
      show bc (Nat.blt (0 + k * 1) (c * 1)) _ _ = _
      rw [blt_dec, decide_eq_true (by omega)]; rfl
    have hu : upd x Lc (0 + k * 1) = Lc.set k x := by rw [upd_eq]; congr 1; omega
    have hLs : (Lc.set k x).take (n * 1) = L.set k x := by rw [← hL, Nat.mul_one, List.take_set]
    have fin : ∀ g : Hp, g.next = h.next → (∀ j, j < h.next → ¬ G j → hget g j = hget h j) → Sep (os.set i (OwnO 1 (.slice b 0 n c 1 ex) n (L.set k x))) (hset g b (.cells (Lc.set k x) (c * 1) .solo)) := fun g hgn hgo => by
      refine go _ _ G (by rw [hset_next, hgn]; exact Nat.le_refl _) (.sl hG (hget_hset _ _ _) (by rw [List.length_set, hl]) hn hLs (.inl rfl)) (fun j hj => .inl hj) fun j hj hn' => ?_
      rw [hget_hset_ne _ _ (fun (e : j = b) => hn' (e ▸ hG)), hgo j hj hn']
    rcases hw with hw | ⟨p, hw, hp1, hp2⟩
    · subst hw
      refine ⟨⟨undef, .lf, _⟩, ?_, fin h rfl fun _ _ _ => rfl⟩
      rw [ev h hg, wr, hu]; rfl
    · subst hw
      refine ⟨⟨undef, .lf, _⟩, ?_, fin (hset h p .dead) rfl fun j hj hn' => hget_hset_ne h _ fun (e : j = p) => hn' (e ▸ hp1)⟩
      rw [ev h hg, wr, hu]; rfl
theorem own_cut {os : List AObj} {h : Hp} (S : Sep os h) {i sz n k : Nat} {v : AV} {L : List AV} (hi : os[i]? = some (OwnO sz v n L)) (hk : k ≤ n) :
    evQ (.sliceSl sz (.const v) none (some (.const (.int .i64 (.ofNat k)))) none) .lf H0 = .ok (partS v 0 k) ∧ Sep (os.set i (OwnO sz (partS v 0 k) k (L.take (k * sz)))) h := by
  obtain ⟨G, o, hb, go⟩ := S.at hi
  have o : OwnI sz h G v n L := o
  cases o with
  | nil =>
    obtain rfl := Nat.le_zero.1 hk
    exact ⟨rfl, go _ _ G (Nat.le_refl _) (show OwnI sz h G .nilSlice 0 (List.take (0 * sz) []) by rw [List.take_nil]; exact .nil) (fun j hj => .inl hj) fun _ _ _ => rfl⟩
  | @sl b n c ex w Lc L hG hg hl hn hL hw =>
    refine ⟨?_, go _ _ G (Nat.le_refl _) ?_ (fun j hj => .inl hj) fun _ _ _ => rfl⟩
    · show bc (Nat.beq sz sz) (bc (Nat.ble k c) (OV.ok (.slice b (0 + 0 * sz) (k - 0) (c - 0) sz (ocase ex (fun _ => true) (none : Option AX)))) .no) .no = _
      rw [Nat.beq_refl, ble_dec, decide_eq_true (by omega)]; rfl
    · have e : partS (.slice b 0 n c sz ex) 0 k = .slice b 0 k c sz ex := by
        show AV.slice b (0 + 0 * sz) (k - 0) (c - 0) sz ex = _
        rw [Nat.zero_mul, Nat.add_zero, Nat.sub_zero, Nat.sub_zero]
      show OwnI sz h G (partS (.slice b 0 n c sz ex) 0 k) k (L.take (k * sz))
      rw [e]
      exact .sl hG hg hl (by omega) (by rw [← hL, List.take_take, Nat.min_eq_left (Nat.mul_le_mul_right sz hk)]) hw
end Eng
namespace Eng
open Go Go.RowKit
theorem q_sub0 {a : Nat} (h : a = 0) : evQ (.bin .sub (.const (.int .i64 (.ofNat a))) (.const (.int .i64 (.ofNat 1)))) .lf H0 = .ok (.int .i64 (.negSucc 0)) := by
  subst h; rfl
theorem own_cutR {α : Type} {xs : List α} {os : List AObj} {h : Hp} (S : Sep os h) {i sz k : Nat} {v : AV} {L : List AV} (hi : os[i]? = some (OwnO sz v xs.length L)) (hk : k ≤ xs.length) :
    evQ (.sliceSl sz (.const v) none (some (.const (.int .i64 (.ofNat k)))) none) .lf H0 = .ok (partS v 0 k) ∧ Sep (os.set i (OwnO sz (partS v 0 k) (xs.take k).length (L.take (k * sz)))) h := by
  have := own_cut S hi hk
  rwa [show (xs.take k).length = k by rw [List.length_take]; omega]
end Eng
namespace Eng
open Go Go.RowKit
theorem TwinAt.now {os : List AObj} {h h0 : Hp} {v : AV} {l : List Nat} (S : Sep os h) {i : Nat} (hi : os[i]? = some (Frz (Low h0) h0)) (t : TwinAt h0 v l) : TwinAt h v l := by
  obtain ⟨b, w, e, hb, hg, hl⟩ := t
  obtain ⟨h1, h2⟩ := S.frozen hi hb
  exact ⟨b, w, e, h1, h2.trans hg, hl⟩
end Eng
end
section
set_option linter.unusedVariables false
set_option linter.unusedSimpArgs false
namespace Eng
open Go
def digU : Nat → Nat → List Nat
  | 0, v => [v % 128]
  | n + 1, v => (v % 128 ||| 128) :: digU n (v / 128)
def digS : Nat → Int → List Nat
  | 0, w => [(w % 128).toNat]
  | n + 1, w => ((w % 128).toNat ||| 128) :: digS n (w / 128)
end Eng
namespace Eng
open Go
end Eng
namespace Eng
open Go
end Eng
namespace Eng
open Go
end Eng
namespace Eng
open Go
def stepL (l : List Nat) (e : Nat) : List Nat := l.set (l.length - 1) (l.getD (l.length - 1) 0 ||| 128) ++ [e]
def longerL (e : Nat) : Nat → List Nat → List Nat
  | 0, l => l
  | k + 1, l => longerL e k (stepL l e)
def LongerS (call : CallT) (f : Nat) : Prop := ∀ {B : Nat} {h : Hp} {vb : AV} {l : List Nat} {k e : Nat}, B ≤ h.next → Bytes B h vb l → 1 ≤ l.length → l.length ≤ 100 → k ≤ 7 → e < 256 →
  ∃ rv rh, call f [vb, .int .i64 (.ofNat k), .int .u8 (.ofNat e)] h = .ok rv rh ∧ Owned 1 B rh rv (l.length + k) (u8s (longerL e k l)) ∧ Old B h rh ∧ B ≤ rh.next
end Eng
namespace Eng
open Go
theorem nil_lt : ∀ x ∈ ([] : List Nat), x < 256 := by simp
end Eng
namespace Eng
open Go
end Eng
namespace Eng
open Go
def placeN (c : Int) (n : Nat) : Nat := (c % (n : Int)).toNat
def PlaceS (call : CallT) (f : Nat) : Prop := ∀ (c : Int) (n : Nat) (h : Hp), -9223372036854775808 ≤ c ∧ c < 9223372036854775808 → 1 ≤ n → n < 4611686018427387904 → call f [.int .i64 c, .int .i64 (.ofNat n)] h = .ok (.int .i64 (.ofNat (placeN c n))) h
end Eng
end
section
set_option linter.unusedVariables false
namespace Go.Proofs.Ytpelnanckmjoaaa
open Go Eng
theorem last_walk {call : CallT} {N : Nat} {h : Hp} {x left : Nat} {sg : Bool} (hx : x < 256) (h1 : 1 ≤ left) (h2 : left ≤ 64)
    : ∃ rv rh, evF1 (progS Try.prog (compDrawn Try.prog)) N call 140 [(vb8 x), (vi left), (AV.bool sg)] h = .ok rv rh ∧ (fun (v : AV) (h' : Hp) => h' = h ∧ v = .bool (lastB x left sg)) rv rh := by
  refine fwalk_ok (o := (.tell 2 (vb8 (x &&& 128)) (.fork 0 .fin (.fork 1 (.tell 2 (vb8 (x / 2 ^ left)) .fin) (.tell 2 (vi (left - 1)) (.tell 0 (vb8 (x / 2 ^ (left - 1))) (.fork 3 .fin (.tell 2 (vi (left - 1)) (.tell 0 (vb8 (127 / 2 ^ (left - 1))) .fin))))))))) (p := (evQ (.bin .and (.const (vb8 x)) (.const (vb8 128))) .lf H0 = .ok (vb8 (x &&& 128)) ∧ ((notB (eqI (Int.ofNat (x &&& 128)) (Int.ofNat 0)) = true → (fun (v : AV) (h' : Hp) => h' = h ∧ v = .bool (lastB x left sg)) (AV.bool false) h) ∧ (notB (eqI (Int.ofNat (x &&& 128)) (Int.ofNat 0)) = false → ((notB sg = true → (evQ (.bin .shr (.const (vb8 x)) (.const (vi left))) .lf H0 = .ok (vb8 (x / 2 ^ left)) ∧ (fun (v : AV) (h' : Hp) => h' = h ∧ v = .bool (lastB x left sg)) (AV.bool (eqI (Int.ofNat (x / 2 ^ left)) (Int.ofNat 0))) h)) ∧ (notB sg = false → (evQ (.bin .sub (.const (vi left)) (.const (vi 1))) .lf H0 = .ok (vi (left - 1)) ∧ (evQ (.bin .shr (.const (vb8 x)) (.const (vi (left - 1)))) .lf H0 = .ok (vb8 (x / 2 ^ (left - 1))) ∧ ((eqI (Int.ofNat (x / 2 ^ (left - 1))) (Int.ofNat 0) = true → (fun (v : AV) (h' : Hp) => h' = h ∧ v = .bool (lastB x left sg)) (AV.bool true) h) ∧ (eqI (Int.ofNat (x / 2 ^ (left - 1))) (Int.ofNat 0) = false → (evQ (.bin .sub (.const (vi left)) (.const (vi 1))) .lf H0 = .ok (vi (left - 1)) ∧ (evQ (.bin .shr (.const (vb8 127)) (.const (vi (left - 1)))) .lf H0 = .ok (vb8 (127 / 2 ^ (left - 1))) ∧ (fun (v : AV) (h' : Hp) => h' = h ∧ v = .bool (lastB x left sg)) (AV.bool (eqI (Int.ofNat (x / 2 ^ (left - 1))) (Int.ofNat (127 / 2 ^ (left - 1))))) h)))))))))))) (by kernel_rfl) ?_
  refine ⟨u_and rfl hx (by decide), ?_⟩
  have g1 : x &&& 128 < 256 := Nat.lt_of_le_of_lt Nat.and_le_left hx
  refine ⟨fun c2 => ?_, fun c2 => ?_⟩
  · have rc2 := c2
    replace c2 : x &&& 128 ≠ 0 := eqI_f (notB_t c2)
    refine ⟨rfl, congrArg AV.bool ?_⟩
    try simp only [eqI_nat]
    first | (simp_all [lastB]; done) | (simp_all [lastB]; omega)
  · have rc2 := c2
    replace c2 : x &&& 128 = 0 := eqI_t (notB_f c2)
    refine ⟨fun c3 => ?_, fun c3 => ?_⟩
    · have rc3 := c3
      replace c3 : sg = false := notB_t c3
      refine ⟨u_shr rfl hx, ?_⟩
      have g4 : x / 2 ^ left < 256 := Nat.lt_of_le_of_lt (Nat.div_le_self _ _) hx
      refine ⟨rfl, congrArg AV.bool ?_⟩
      try simp only [eqI_nat]
      first | (simp_all [lastB]; done) | (simp_all [lastB]; omega)
    · have rc3 := c3
      replace c3 : sg = true := notB_f c3
      refine ⟨q_sub (by omega) (by omega), ?_⟩
      refine ⟨u_shr rfl hx, ?_⟩
      have g4 : x / 2 ^ (left - 1) < 256 := Nat.lt_of_le_of_lt (Nat.div_le_self _ _) hx
      refine ⟨fun c5 => ?_, fun c5 => ?_⟩
      · have rc5 := c5
        replace c5 : x / 2 ^ (left - 1) = 0 := eqI_t c5
        refine ⟨rfl, congrArg AV.bool ?_⟩
        try simp only [eqI_nat]
        first | (simp_all [lastB]; done) | (simp_all [lastB]; omega)
      · have rc5 := c5
        replace c5 : x / 2 ^ (left - 1) ≠ 0 := eqI_f c5
        refine ⟨q_sub (by omega) (by omega), ?_⟩
        refine ⟨u_shr rfl (by decide), ?_⟩
        have g6 : 127 / 2 ^ (left - 1) < 256 := Nat.lt_of_le_of_lt (Nat.div_le_self _ _) (by decide)
        refine ⟨rfl, congrArg AV.bool ?_⟩
        try simp only [eqI_nat]
        first | (simp_all [lastB]; done) | (simp_all [lastB]; omega)
noncomputable def readC : AC := (.seq (.block 1 (.seq (.seq (.region [⟨(some 14), .q (.move (.tmp 7)), none⟩, ⟨(some 15), .q (.move (.tmp 0)), none⟩, ⟨(some 16), .q (.lenL (.tmp 15)), none⟩, ⟨(some 17), .q (.eq .int false (.tmp 14) (.tmp 16)), none⟩]) (.cond (.tmp 17) (.seq (.region [⟨(some 6), .q (.move (.const (vq 0))), none⟩, ⟨(some 7), .q (.move (.const (vi 0))), none⟩, ⟨(some 8), .q (.move (.const (vi 3))), none⟩]) .ret) .skip)) (.seq (.region [⟨(some 18), .q (.move (.tmp 0)), none⟩, ⟨(some 19), .q (.move (.tmp 7)), none⟩, ⟨(some 20), .q (.idxAddrSl 1 (.tmp 18) (.tmp 19)), none⟩, ⟨(some 21), .q (.loadS (.tmp 20)), none⟩, ⟨(some 10), .q (.move (.tmp 21)), none⟩]) (.seq (.region [⟨(some 22), .q (.move (.tmp 7)), none⟩, ⟨(some 23), .q (.bin .add (.tmp 22) (.const (vi 1))), none⟩, ⟨(some 7), .q (.move (.tmp 23)), none⟩]) (.seq (.seq (.region [⟨(some 24), .q (.move (.tmp 1)), none⟩, ⟨(some 25), .q (.move (.tmp 9)), none⟩, ⟨(some 26), .q (.bin .sub (.tmp 24) (.tmp 25)), none⟩, ⟨(some 11), .q (.move (.tmp 26)), none⟩]) (.seq (.region [⟨(some 27), .q (.move (.tmp 11)), none⟩, ⟨(some 28), .q (.bin .leq (.tmp 27) (.const (vi 7))), none⟩, ⟨(some 29), .q (.move (.tmp 28)), none⟩, ⟨(some 30), .q (.move (.tmp 10)), (some (29, true))⟩, ⟨(some 31), .q (.move (.tmp 11)), (some (29, true))⟩, ⟨(some 32), .q (.move (.tmp 2)), (some (29, true))⟩, ⟨(some 33), .e (.call (.const (AV.func (.func 140) [] [])) [(.tmp 30), (.tmp 31), (.tmp 32)]), (some (29, true))⟩, ⟨(some 34), .q (.un .not (.tmp 33)), (some (29, true))⟩, ⟨(some 35), .q (.pick (.tmp 29) (.tmp 34) (.const (AV.bool false))), none⟩]) (.cond (.tmp 35) (.seq (.region [⟨(some 6), .q (.move (.const (vq 0))), none⟩, ⟨(some 7), .q (.move (.const (vi 0))), none⟩, ⟨(some 8), .q (.move (.const (vi 2))), none⟩]) .ret) .skip))) (.seq (.region [⟨(some 36), .q (.move (.tmp 6)), none⟩, ⟨(some 37), .q (.move (.tmp 10)), none⟩, ⟨(some 38), .q (.bin .and (.tmp 37) (.const (vb8 127))), none⟩, ⟨(some 39), .q (.toInt .u64 (.tmp 38)), none⟩, ⟨(some 40), .q (.move (.tmp 9)), none⟩, ⟨(some 41), .q (.bin .shl (.tmp 39) (.tmp 40)), none⟩, ⟨(some 42), .q (.bin .or (.tmp 36) (.tmp 41)), none⟩, ⟨(some 6), .q (.move (.tmp 42)), none⟩]) (.seq (.seq (.region [⟨(some 43), .q (.move (.tmp 10)), none⟩, ⟨(some 44), .q (.bin .and (.tmp 43) (.const (vb8 128))), none⟩, ⟨(some 45), .q (.eq .int true (.tmp 44) (.const (vb8 0))), none⟩]) (.cond (.tmp 45) (.exit 1) .skip)) (.seq (.seq (.region [⟨(some 46), .q (.move (.tmp 2)), none⟩, ⟨(some 47), .q (.move (.tmp 46)), none⟩, ⟨(some 48), .q (.move (.tmp 10)), (some (47, true))⟩, ⟨(some 49), .q (.bin .and (.tmp 48) (.const (vb8 64))), (some (47, true))⟩, ⟨(some 50), .q (.eq .int true (.tmp 49) (.const (vb8 0))), (some (47, true))⟩, ⟨(some 51), .q (.pick (.tmp 47) (.tmp 50) (.const (AV.bool false))), none⟩, ⟨(some 52), .q (.move (.tmp 51)), none⟩, ⟨(some 53), .q (.move (.tmp 9)), (some (52, true))⟩, ⟨(some 54), .q (.bin .add (.tmp 53) (.const (vi 7))), (some (52, true))⟩, ⟨(some 55), .q (.bin .lss (.tmp 54) (.const (vi 64))), (some (52, true))⟩, ⟨(some 56), .q (.pick (.tmp 52) (.tmp 55) (.const (AV.bool false))), none⟩]) (.cond (.tmp 56) (.region [⟨(some 57), .q (.move (.tmp 6)), none⟩, ⟨(some 58), .q (.move (.tmp 9)), none⟩, ⟨(some 59), .q (.bin .add (.tmp 58) (.const (vi 7))), none⟩, ⟨(some 60), .q (.bin .shl (.const (vq 18446744073709551615)) (.tmp 59)), none⟩, ⟨(some 61), .q (.bin .or (.tmp 57) (.tmp 60)), none⟩, ⟨(some 6), .q (.move (.tmp 61)), none⟩]) .skip)) (.seq (.region [⟨(some 62), .q (.move (.tmp 6)), none⟩, ⟨(some 63), .q (.move (.tmp 7)), none⟩, ⟨(some 6), .q (.move (.tmp 62)), none⟩, ⟨(some 7), .q (.move (.tmp 63)), none⟩, ⟨(some 8), .q (.move (.const (vi 0))), none⟩]) .ret))))))))) (.region [⟨(some 12), .q (.move (.tmp 9)), none⟩, ⟨(some 13), .q (.bin .add (.tmp 12) (.const (vi 7))), none⟩, ⟨(some 9), .q (.move (.tmp 13)), none⟩]))
theorem read_body {call : CallT} {N : Nat} {t : T} {h : Hp} {B : Nat} {vb : AV} {sg : Bool} {l : List Nat} (hb : Bytes B h vb l) (hk2 : l.length < 9223372036854775000) {size v k a : Nat} (hv : v < 18446744073709551616) (hat : a < size) (hs : size ≤ 64) (hk : k ≤ l.length) (hlast : ∀ x left s h, x < 256 → 1 ≤ left → left ≤ 64 → call 140 [.int .u8 (.ofNat x), .int .i64 (.ofNat left), .bool s] h = .ok (.bool (lastB x left s)) h)
    {Kn : List (Option AV) → Hp → Prop} {Ke : Nat → List (Option AV) → Hp → Prop} {Kr : List (Option AV) → Hp → Prop}
    (k0 : k = l.length → Kr [some vb, some (vi size), some (AV.bool sg), some (vq 0), some (vi 0), some (vi a), some (vi 3)] h)
    (k1 : k ≠ l.length → size - a ≤ 7 → lastB (l.getD k 0) (size - a) sg = false → Kr [some vb, some (vi size), some (AV.bool sg), some (vq 0), some (vi 0), some (vi a), some (vi 2)] h)
    (k2 : k ≠ l.length → size - a ≤ 7 → lastB (l.getD k 0) (size - a) sg = true → (l.getD k 0) &&& 128 ≠ 0 → Kn [some vb, some (vi size), some (AV.bool sg), some (vq (v ||| (((l.getD k 0) &&& 127) * 2 ^ a % 18446744073709551616))), some (vi (k + 1)), some (vi (a + 7)), some (vi 0)] h)
    (k3 : k ≠ l.length → size - a ≤ 7 → lastB (l.getD k 0) (size - a) sg = true → (l.getD k 0) &&& 128 = 0 → sg = true → (l.getD k 0) &&& 64 ≠ 0 → a + 7 < 64 → Kr [some vb, some (vi size), some (AV.bool sg), some (vq ((v ||| (((l.getD k 0) &&& 127) * 2 ^ a % 18446744073709551616)) ||| (18446744073709551615 * 2 ^ (a + 7) % 18446744073709551616))), some (vi (k + 1)), some (vi a), some (vi 0)] h)
    (k4 : k ≠ l.length → size - a ≤ 7 → lastB (l.getD k 0) (size - a) sg = true → (l.getD k 0) &&& 128 = 0 → sg = true → (l.getD k 0) &&& 64 ≠ 0 → 64 ≤ a + 7 → Kr [some vb, some (vi size), some (AV.bool sg), some (vq (v ||| (((l.getD k 0) &&& 127) * 2 ^ a % 18446744073709551616))), some (vi (k + 1)), some (vi a), some (vi 0)] h)
    (k5 : k ≠ l.length → size - a ≤ 7 → lastB (l.getD k 0) (size - a) sg = true → (l.getD k 0) &&& 128 = 0 → sg = true → (l.getD k 0) &&& 64 = 0 → Kr [some vb, some (vi size), some (AV.bool sg), some (vq (v ||| (((l.getD k 0) &&& 127) * 2 ^ a % 18446744073709551616))), some (vi (k + 1)), some (vi a), some (vi 0)] h)
    (k6 : k ≠ l.length → size - a ≤ 7 → lastB (l.getD k 0) (size - a) sg = true → (l.getD k 0) &&& 128 = 0 → sg = false → Kr [some vb, some (vi size), some (AV.bool sg), some (vq (v ||| (((l.getD k 0) &&& 127) * 2 ^ a % 18446744073709551616))), some (vi (k + 1)), some (vi a), some (vi 0)] h)
    (k7 : k ≠ l.length → 7 < size - a → (l.getD k 0) &&& 128 ≠ 0 → Kn [some vb, some (vi size), some (AV.bool sg), some (vq (v ||| (((l.getD k 0) &&& 127) * 2 ^ a % 18446744073709551616))), some (vi (k + 1)), some (vi (a + 7)), some (vi 0)] h)
    (k8 : k ≠ l.length → 7 < size - a → (l.getD k 0) &&& 128 = 0 → sg = true → (l.getD k 0) &&& 64 ≠ 0 → a + 7 < 64 → Kr [some vb, some (vi size), some (AV.bool sg), some (vq ((v ||| (((l.getD k 0) &&& 127) * 2 ^ a % 18446744073709551616)) ||| (18446744073709551615 * 2 ^ (a + 7) % 18446744073709551616))), some (vi (k + 1)), some (vi a), some (vi 0)] h)
    (k9 : k ≠ l.length → 7 < size - a → (l.getD k 0) &&& 128 = 0 → sg = true → (l.getD k 0) &&& 64 ≠ 0 → 64 ≤ a + 7 → Kr [some vb, some (vi size), some (AV.bool sg), some (vq (v ||| (((l.getD k 0) &&& 127) * 2 ^ a % 18446744073709551616))), some (vi (k + 1)), some (vi a), some (vi 0)] h)
    (k10 : k ≠ l.length → 7 < size - a → (l.getD k 0) &&& 128 = 0 → sg = true → (l.getD k 0) &&& 64 = 0 → Kr [some vb, some (vi size), some (AV.bool sg), some (vq (v ||| (((l.getD k 0) &&& 127) * 2 ^ a % 18446744073709551616))), some (vi (k + 1)), some (vi a), some (vi 0)] h)
    (k11 : k ≠ l.length → 7 < size - a → (l.getD k 0) &&& 128 = 0 → sg = false → Kr [some vb, some (vi size), some (AV.bool sg), some (vq (v ||| (((l.getD k 0) &&& 127) * 2 ^ a % 18446744073709551616))), some (vi (k + 1)), some (vi a), some (vi 0)] h)
    : ∃ s, evC call N readC (ovT [(0, vb), (1, (vi size)), (2, (AV.bool sg)), (6, (vq v)), (7, (vi k)), (9, (vi a)), (8, (vi 0))] t) h = s ∧ obsS [0, 1, 2, 6, 7, 9, 8] Kn Ke Kr s := by
  refine walk_ok (o := (.tell 2 (vi l.length) (.fork 0 .fin (.tell 2 (elemP vb k 1) (.tell 0 (vb8 (l.getD k 0)) (.tell 2 (vi (k + 1)) (.tell 3 (vi (size - a)) (.fork 3 (.eff 3 (AV.bool (lastB (l.getD k 0) (size - a) sg)) h (.fork 1 .fin (.tell 2 (vb8 ((l.getD k 0) &&& 127)) (.tell 0 (vq ((l.getD k 0) &&& 127)) (.tell 1 (vq (((l.getD k 0) &&& 127) * 2 ^ a % 18446744073709551616)) (.tell 0 (vq (v ||| (((l.getD k 0) &&& 127) * 2 ^ a % 18446744073709551616))) (.tell 2 (vb8 ((l.getD k 0) &&& 128)) (.fork 0 (.tell 1 (vi (a + 7)) .fin) (.fork 1 (.tell 1 (vb8 ((l.getD k 0) &&& 64)) (.fork 2 (.tell 1 (vi (a + 7)) (.fork 1 (.tell 2 (vi (a + 7)) (.tell 0 (vq (18446744073709551615 * 2 ^ (a + 7) % 18446744073709551616)) (.tell 0 (vq ((v ||| (((l.getD k 0) &&& 127) * 2 ^ a % 18446744073709551616)) ||| (18446744073709551615 * 2 ^ (a + 7) % 18446744073709551616))) .fin))) .fin)) .fin)) .fin))))))))) (.tell 3 (vb8 ((l.getD k 0) &&& 127)) (.tell 0 (vq ((l.getD k 0) &&& 127)) (.tell 1 (vq (((l.getD k 0) &&& 127) * 2 ^ a % 18446744073709551616)) (.tell 0 (vq (v ||| (((l.getD k 0) &&& 127) * 2 ^ a % 18446744073709551616))) (.tell 2 (vb8 ((l.getD k 0) &&& 128)) (.fork 0 (.tell 1 (vi (a + 7)) .fin) (.fork 1 (.tell 1 (vb8 ((l.getD k 0) &&& 64)) (.fork 2 (.tell 1 (vi (a + 7)) (.fork 1 (.tell 2 (vi (a + 7)) (.tell 0 (vq (18446744073709551615 * 2 ^ (a + 7) % 18446744073709551616)) (.tell 0 (vq ((v ||| (((l.getD k 0) &&& 127) * 2 ^ a % 18446744073709551616)) ||| (18446744073709551615 * 2 ^ (a + 7) % 18446744073709551616))) .fin))) .fin)) .fin)) .fin))))))))))))))) (p := (evQ (.lenL (.const vb)) .lf H0 = .ok (vi l.length) ∧ ((eqI (Int.ofNat k) (Int.ofNat l.length) = true → Kr [some vb, some (vi size), some (AV.bool sg), some (vq 0), some (vi 0), some (vi a), some (vi 3)] h) ∧ (eqI (Int.ofNat k) (Int.ofNat l.length) = false → (evQ (.idxAddrSl 1 (.const vb) (.const (vi k))) .lf H0 = .ok (elemP vb k 1) ∧ (evQ (.loadS (.const (elemP vb k 1))) .lf h = .ok (vb8 (l.getD k 0)) ∧ (evQ (.bin .add (.const (vi k)) (.const (vi 1))) .lf H0 = .ok (vi (k + 1)) ∧ (evQ (.bin .sub (.const (vi size)) (.const (vi a))) .lf H0 = .ok (vi (size - a)) ∧ ((notB (ltI (Int.ofNat 7) (Int.ofNat (size - a))) = true → (call 140 [(vb8 (l.getD k 0)), (vi (size - a)), (AV.bool sg)] h = .ok (AV.bool (lastB (l.getD k 0) (size - a) sg)) h ∧ ((notB (lastB (l.getD k 0) (size - a) sg) = true → Kr [some vb, some (vi size), some (AV.bool sg), some (vq 0), some (vi 0), some (vi a), some (vi 2)] h) ∧ (notB (lastB (l.getD k 0) (size - a) sg) = false → (evQ (.bin .and (.const (vb8 (l.getD k 0))) (.const (vb8 127))) .lf H0 = .ok (vb8 ((l.getD k 0) &&& 127)) ∧ (evQ (.toInt .u64 (.const (vb8 ((l.getD k 0) &&& 127)))) .lf H0 = .ok (vq ((l.getD k 0) &&& 127)) ∧ (evQ (.bin .shl (.const (vq ((l.getD k 0) &&& 127))) (.const (vi a))) .lf H0 = .ok (vq (((l.getD k 0) &&& 127) * 2 ^ a % 18446744073709551616)) ∧ (evQ (.bin .or (.const (vq v)) (.const (vq (((l.getD k 0) &&& 127) * 2 ^ a % 18446744073709551616)))) .lf H0 = .ok (vq (v ||| (((l.getD k 0) &&& 127) * 2 ^ a % 18446744073709551616))) ∧ (evQ (.bin .and (.const (vb8 (l.getD k 0))) (.const (vb8 128))) .lf H0 = .ok (vb8 ((l.getD k 0) &&& 128)) ∧ ((notB (eqI (Int.ofNat ((l.getD k 0) &&& 128)) (Int.ofNat 0)) = true → (evQ (.bin .add (.const (vi a)) (.const (vi 7))) .lf H0 = .ok (vi (a + 7)) ∧ Kn [some vb, some (vi size), some (AV.bool sg), some (vq (v ||| (((l.getD k 0) &&& 127) * 2 ^ a % 18446744073709551616))), some (vi (k + 1)), some (vi (a + 7)), some (vi 0)] h)) ∧ (notB (eqI (Int.ofNat ((l.getD k 0) &&& 128)) (Int.ofNat 0)) = false → ((sg = true → (evQ (.bin .and (.const (vb8 (l.getD k 0))) (.const (vb8 64))) .lf H0 = .ok (vb8 ((l.getD k 0) &&& 64)) ∧ ((notB (eqI (Int.ofNat ((l.getD k 0) &&& 64)) (Int.ofNat 0)) = true → (evQ (.bin .add (.const (vi a)) (.const (vi 7))) .lf H0 = .ok (vi (a + 7)) ∧ ((ltI (Int.ofNat (a + 7)) (Int.ofNat 64) = true → (evQ (.bin .add (.const (vi a)) (.const (vi 7))) .lf H0 = .ok (vi (a + 7)) ∧ (evQ (.bin .shl (.const (vq 18446744073709551615)) (.const (vi (a + 7)))) .lf H0 = .ok (vq (18446744073709551615 * 2 ^ (a + 7) % 18446744073709551616)) ∧ (evQ (.bin .or (.const (vq (v ||| (((l.getD k 0) &&& 127) * 2 ^ a % 18446744073709551616)))) (.const (vq (18446744073709551615 * 2 ^ (a + 7) % 18446744073709551616)))) .lf H0 = .ok (vq ((v ||| (((l.getD k 0) &&& 127) * 2 ^ a % 18446744073709551616)) ||| (18446744073709551615 * 2 ^ (a + 7) % 18446744073709551616))) ∧ Kr [some vb, some (vi size), some (AV.bool sg), some (vq ((v ||| (((l.getD k 0) &&& 127) * 2 ^ a % 18446744073709551616)) ||| (18446744073709551615 * 2 ^ (a + 7) % 18446744073709551616))), some (vi (k + 1)), some (vi a), some (vi 0)] h)))) ∧ (ltI (Int.ofNat (a + 7)) (Int.ofNat 64) = false → Kr [some vb, some (vi size), some (AV.bool sg), some (vq (v ||| (((l.getD k 0) &&& 127) * 2 ^ a % 18446744073709551616))), some (vi (k + 1)), some (vi a), some (vi 0)] h)))) ∧ (notB (eqI (Int.ofNat ((l.getD k 0) &&& 64)) (Int.ofNat 0)) = false → Kr [some vb, some (vi size), some (AV.bool sg), some (vq (v ||| (((l.getD k 0) &&& 127) * 2 ^ a % 18446744073709551616))), some (vi (k + 1)), some (vi a), some (vi 0)] h)))) ∧ (sg = false → Kr [some vb, some (vi size), some (AV.bool sg), some (vq (v ||| (((l.getD k 0) &&& 127) * 2 ^ a % 18446744073709551616))), some (vi (k + 1)), some (vi a), some (vi 0)] h))))))))))))) ∧ (notB (ltI (Int.ofNat 7) (Int.ofNat (size - a))) = false → (evQ (.bin .and (.const (vb8 (l.getD k 0))) (.const (vb8 127))) .lf H0 = .ok (vb8 ((l.getD k 0) &&& 127)) ∧ (evQ (.toInt .u64 (.const (vb8 ((l.getD k 0) &&& 127)))) .lf H0 = .ok (vq ((l.getD k 0) &&& 127)) ∧ (evQ (.bin .shl (.const (vq ((l.getD k 0) &&& 127))) (.const (vi a))) .lf H0 = .ok (vq (((l.getD k 0) &&& 127) * 2 ^ a % 18446744073709551616)) ∧ (evQ (.bin .or (.const (vq v)) (.const (vq (((l.getD k 0) &&& 127) * 2 ^ a % 18446744073709551616)))) .lf H0 = .ok (vq (v ||| (((l.getD k 0) &&& 127) * 2 ^ a % 18446744073709551616))) ∧ (evQ (.bin .and (.const (vb8 (l.getD k 0))) (.const (vb8 128))) .lf H0 = .ok (vb8 ((l.getD k 0) &&& 128)) ∧ ((notB (eqI (Int.ofNat ((l.getD k 0) &&& 128)) (Int.ofNat 0)) = true → (evQ (.bin .add (.const (vi a)) (.const (vi 7))) .lf H0 = .ok (vi (a + 7)) ∧ Kn [some vb, some (vi size), some (AV.bool sg), some (vq (v ||| (((l.getD k 0) &&& 127) * 2 ^ a % 18446744073709551616))), some (vi (k + 1)), some (vi (a + 7)), some (vi 0)] h)) ∧ (notB (eqI (Int.ofNat ((l.getD k 0) &&& 128)) (Int.ofNat 0)) = false → ((sg = true → (evQ (.bin .and (.const (vb8 (l.getD k 0))) (.const (vb8 64))) .lf H0 = .ok (vb8 ((l.getD k 0) &&& 64)) ∧ ((notB (eqI (Int.ofNat ((l.getD k 0) &&& 64)) (Int.ofNat 0)) = true → (evQ (.bin .add (.const (vi a)) (.const (vi 7))) .lf H0 = .ok (vi (a + 7)) ∧ ((ltI (Int.ofNat (a + 7)) (Int.ofNat 64) = true → (evQ (.bin .add (.const (vi a)) (.const (vi 7))) .lf H0 = .ok (vi (a + 7)) ∧ (evQ (.bin .shl (.const (vq 18446744073709551615)) (.const (vi (a + 7)))) .lf H0 = .ok (vq (18446744073709551615 * 2 ^ (a + 7) % 18446744073709551616)) ∧ (evQ (.bin .or (.const (vq (v ||| (((l.getD k 0) &&& 127) * 2 ^ a % 18446744073709551616)))) (.const (vq (18446744073709551615 * 2 ^ (a + 7) % 18446744073709551616)))) .lf H0 = .ok (vq ((v ||| (((l.getD k 0) &&& 127) * 2 ^ a % 18446744073709551616)) ||| (18446744073709551615 * 2 ^ (a + 7) % 18446744073709551616))) ∧ Kr [some vb, some (vi size), some (AV.bool sg), some (vq ((v ||| (((l.getD k 0) &&& 127) * 2 ^ a % 18446744073709551616)) ||| (18446744073709551615 * 2 ^ (a + 7) % 18446744073709551616))), some (vi (k + 1)), some (vi a), some (vi 0)] h)))) ∧ (ltI (Int.ofNat (a + 7)) (Int.ofNat 64) = false → Kr [some vb, some (vi size), some (AV.bool sg), some (vq (v ||| (((l.getD k 0) &&& 127) * 2 ^ a % 18446744073709551616))), some (vi (k + 1)), some (vi a), some (vi 0)] h)))) ∧ (notB (eqI (Int.ofNat ((l.getD k 0) &&& 64)) (Int.ofNat 0)) = false → Kr [some vb, some (vi size), some (AV.bool sg), some (vq (v ||| (((l.getD k 0) &&& 127) * 2 ^ a % 18446744073709551616))), some (vi (k + 1)), some (vi a), some (vi 0)] h)))) ∧ (sg = false → Kr [some vb, some (vi size), some (AV.bool sg), some (vq (v ||| (((l.getD k 0) &&& 127) * 2 ^ a % 18446744073709551616))), some (vi (k + 1)), some (vi a), some (vi 0)] h))))))))))))))))))) (by kernel_rfl) ?_
  refine ⟨q_len hb, ?_⟩
  refine ⟨fun c1 => ?_, fun c1 => ?_⟩
  · have rc1 := c1
    replace c1 : k = l.length := eqI_t c1
    exact k0 c1
  · have rc1 := c1
    replace c1 : k ≠ l.length := eqI_f c1
    refine ⟨q_idxB hb (by omega), ?_⟩
    refine ⟨q_byte hb (by omega), ?_⟩
    have x2 : l.getD k 0 < 256 := getD_lt hb.lt k
    refine ⟨q_add (by omega), ?_⟩
    refine ⟨q_sub (by omega) (by omega), ?_⟩
    refine ⟨fun c3 => ?_, fun c3 => ?_⟩
    · have rc3 := c3
      replace c3 : size - a ≤ 7 := ltI_f (notB_t c3)
      refine ⟨hlast _ _ _ _ x2 (by omega) (by omega), ?_⟩
      refine ⟨fun c4 => ?_, fun c4 => ?_⟩
      · have rc4 := c4
        replace c4 : lastB (l.getD k 0) (size - a) sg = false := notB_t c4
        exact k1 c1 c3 c4
      · have rc4 := c4
        replace c4 : lastB (l.getD k 0) (size - a) sg = true := notB_f c4
        refine ⟨u_and rfl x2 (by decide), ?_⟩
        have g5 : (l.getD k 0) &&& 127 < 256 := Nat.lt_of_le_of_lt Nat.and_le_left x2
        refine ⟨u_conv' rfl (Nat.lt_of_lt_of_le g5 (by decide)), ?_⟩
        have g6 : (l.getD k 0) &&& 127 < 18446744073709551616 := Nat.lt_of_lt_of_le g5 (by decide)
        refine ⟨u_shl rfl, ?_⟩
        have g7 : ((l.getD k 0) &&& 127) * 2 ^ a % 18446744073709551616 < 18446744073709551616 := Nat.mod_lt _ (by decide)
        refine ⟨u_or rfl hv g7, ?_⟩
        have g8 : v ||| (((l.getD k 0) &&& 127) * 2 ^ a % 18446744073709551616) < 18446744073709551616 := Nat.or_lt_two_pow (n := 64) hv g7
        refine ⟨u_and rfl x2 (by decide), ?_⟩
        have g9 : (l.getD k 0) &&& 128 < 256 := Nat.lt_of_le_of_lt Nat.and_le_left x2
        refine ⟨fun c10 => ?_, fun c10 => ?_⟩
        · have rc10 := c10
          replace c10 : (l.getD k 0) &&& 128 ≠ 0 := eqI_f (notB_t c10)
          refine ⟨q_add (by omega), ?_⟩
          exact k2 c1 c3 c4 c10
        · have rc10 := c10
          replace c10 : (l.getD k 0) &&& 128 = 0 := eqI_t (notB_f c10)
          refine ⟨fun c11 => ?_, fun c11 => ?_⟩
          · have rc11 := c11
            refine ⟨u_and rfl x2 (by decide), ?_⟩
            have g12 : (l.getD k 0) &&& 64 < 256 := Nat.lt_of_le_of_lt Nat.and_le_left x2
            refine ⟨fun c13 => ?_, fun c13 => ?_⟩
            · have rc13 := c13
              replace c13 : (l.getD k 0) &&& 64 ≠ 0 := eqI_f (notB_t c13)
              refine ⟨q_add (by omega), ?_⟩
              refine ⟨fun c14 => ?_, fun c14 => ?_⟩
              · have rc14 := c14
                replace c14 : a + 7 < 64 := ltI_t c14
                refine ⟨q_add (by omega), ?_⟩
                refine ⟨u_shl rfl, ?_⟩
                have g15 : 18446744073709551615 * 2 ^ (a + 7) % 18446744073709551616 < 18446744073709551616 := Nat.mod_lt _ (by decide)
                refine ⟨u_or rfl g8 g15, ?_⟩
                have g16 : (v ||| (((l.getD k 0) &&& 127) * 2 ^ a % 18446744073709551616)) ||| (18446744073709551615 * 2 ^ (a + 7) % 18446744073709551616) < 18446744073709551616 := Nat.or_lt_two_pow (n := 64) g8 g15
                exact k3 c1 c3 c4 c10 c11 c13 c14
              · have rc14 := c14
                replace c14 : 64 ≤ a + 7 := ltI_f c14
                exact k4 c1 c3 c4 c10 c11 c13 c14
            · have rc13 := c13
              replace c13 : (l.getD k 0) &&& 64 = 0 := eqI_t (notB_f c13)
              exact k5 c1 c3 c4 c10 c11 c13
          · have rc11 := c11
            exact k6 c1 c3 c4 c10 c11
    · have rc3 := c3
      replace c3 : 7 < size - a := ltI_t (notB_f c3)
      refine ⟨u_and rfl x2 (by decide), ?_⟩
      have g4 : (l.getD k 0) &&& 127 < 256 := Nat.lt_of_le_of_lt Nat.and_le_left x2
      refine ⟨u_conv' rfl (Nat.lt_of_lt_of_le g4 (by decide)), ?_⟩
      have g5 : (l.getD k 0) &&& 127 < 18446744073709551616 := Nat.lt_of_lt_of_le g4 (by decide)
      refine ⟨u_shl rfl, ?_⟩
      have g6 : ((l.getD k 0) &&& 127) * 2 ^ a % 18446744073709551616 < 18446744073709551616 := Nat.mod_lt _ (by decide)
      refine ⟨u_or rfl hv g6, ?_⟩
      have g7 : v ||| (((l.getD k 0) &&& 127) * 2 ^ a % 18446744073709551616) < 18446744073709551616 := Nat.or_lt_two_pow (n := 64) hv g6
      refine ⟨u_and rfl x2 (by decide), ?_⟩
      have g8 : (l.getD k 0) &&& 128 < 256 := Nat.lt_of_le_of_lt Nat.and_le_left x2
      refine ⟨fun c9 => ?_, fun c9 => ?_⟩
      · have rc9 := c9
        replace c9 : (l.getD k 0) &&& 128 ≠ 0 := eqI_f (notB_t c9)
        refine ⟨q_add (by omega), ?_⟩
        exact k7 c1 c3 c9
      · have rc9 := c9
        replace c9 : (l.getD k 0) &&& 128 = 0 := eqI_t (notB_f c9)
        refine ⟨fun c10 => ?_, fun c10 => ?_⟩
        · have rc10 := c10
          refine ⟨u_and rfl x2 (by decide), ?_⟩
          have g11 : (l.getD k 0) &&& 64 < 256 := Nat.lt_of_le_of_lt Nat.and_le_left x2
          refine ⟨fun c12 => ?_, fun c12 => ?_⟩
          · have rc12 := c12
            replace c12 : (l.getD k 0) &&& 64 ≠ 0 := eqI_f (notB_t c12)
            refine ⟨q_add (by omega), ?_⟩
            refine ⟨fun c13 => ?_, fun c13 => ?_⟩
            · have rc13 := c13
              replace c13 : a + 7 < 64 := ltI_t c13
              refine ⟨q_add (by omega), ?_⟩
              refine ⟨u_shl rfl, ?_⟩
              have g14 : 18446744073709551615 * 2 ^ (a + 7) % 18446744073709551616 < 18446744073709551616 := Nat.mod_lt _ (by decide)
              refine ⟨u_or rfl g7 g14, ?_⟩
              have g15 : (v ||| (((l.getD k 0) &&& 127) * 2 ^ a % 18446744073709551616)) ||| (18446744073709551615 * 2 ^ (a + 7) % 18446744073709551616) < 18446744073709551616 := Nat.or_lt_two_pow (n := 64) g7 g14
              exact k8 c1 c3 c9 c10 c12 c13
            · have rc13 := c13
              replace c13 : 64 ≤ a + 7 := ltI_f c13
              exact k9 c1 c3 c9 c10 c12 c13
          · have rc12 := c12
            replace c12 : (l.getD k 0) &&& 64 = 0 := eqI_t (notB_f c12)
            exact k10 c1 c3 c9 c10 c12
        · have rc10 := c10
          exact k11 c1 c3 c9 c10
theorem read_loop {call : CallT} {N : Nat} {t : T} {h : Hp} {B : Nat} {vb : AV} {sg : Bool} {l : List Nat} (hb : Bytes B h vb l) (hk2 : l.length < 9223372036854775000) {size : Nat} (h1 : 1 ≤ size) (hs : size ≤ 64) (hlast : ∀ x left s h, x < 256 → 1 ≤ left → left ≤ 64 → call 140 [.int .u8 (.ofNat x), .int .i64 (.ofNat left), .bool s] h = .ok (.bool (lastB x left s)) h) (hN : l.length < N)
    (h0 : slots [0, 1, 2, 6, 7, 9, 8] t = [some vb, some (vi size), some (.bool sg), some (vq 0), some (vi 0), some (vi 0), some (vi 0)]) :
    ∃ t', evC call N (.loop readC) t h = .ret t' h ∧ Has [(6, .int .u64 (.ofNat (readG size sg l 0 0 0).1)), (7, .int .i64 (.ofNat (readG size sg l 0 0 0).2.1)), (8, .int .i64 (.ofNat (readG size sg l 0 0 0).2.2))] t' := by
  refine Exists.elim (loop_ok (call := call) (N := N) (body := readC) [0, 1, 2, 6, 7, 9, 8]
    (fun n ls h' => h' = h ∧ ∃ k a v, ls = [some vb, some (vi size), some (.bool sg), some (vq v), some (vi k), some (vi a), some (vi 0)] ∧
      n = l.length - k ∧ k ≤ l.length ∧ v < 18446744073709551616 ∧ a < size ∧ readG size sg (l.drop k) a k v = readG size sg l 0 0 0)
    (fun _ _ _ => False)
    (fun ls h' => h' = h ∧ ∃ x0 x1 x2 x3, ls = [x0, x1, x2, some (vq (readG size sg l 0 0 0).1), some (vi (readG size sg l 0 0 0).2.1), x3, some (vi (readG size sg l 0 0 0).2.2)])
    ?_ (l.length - 0) (by omega) t h ⟨rfl, 0, 0, 0, h0, rfl, Nat.zero_le _, by decide, by omega, rfl⟩) ?_
  rotate_left
  · rintro s ⟨e, hs'⟩
    cases s with
    | no => exact hs'.elim
    | nor t' h' => exact hs'.elim
    | exit i t' h' => exact hs'.elim
    | ret t' h' =>
      obtain ⟨rfl, x0, x1, x2, x3, hh⟩ := hs'
      refine ⟨t', e, ?_⟩
      have hh : [tget (pathOf 0) t', tget (pathOf 1) t', tget (pathOf 2) t', tget (pathOf 6) t', tget (pathOf 7) t', tget (pathOf 9) t', tget (pathOf 8) t'] = _ := hh
      simp only [List.cons.injEq] at hh
      obtain ⟨-, -, -, g6, g7, -, g8, -⟩ := hh
      show [tget (pathOf 6) t', tget (pathOf 7) t', tget (pathOf 8) t'] = _
      rw [g6, g7, g8]; rfl
  · rintro n t h' ⟨rfl, k, a, v, hsl, rfl, hk, hv, ha, hR⟩
    have ht := ovT_eq (l := [(0, vb), (1, .int .i64 (.ofNat size)), (2, .bool sg), (6, .int .u64 (.ofNat v)), (7, .int .i64 (.ofNat k)), (9, .int .i64 (.ofNat a)), (8, .int .i64 (.ofNat 0))]) hsl
    rw [← ht]
    have hd : k ≠ l.length → l.drop k = l.getD k 0 :: l.drop (k + 1) := fun hne => drop_cons (by omega)
    have hx := getD_lt hb.lt k
    have go : ∀ v', k ≠ l.length → v' < 18446744073709551616 → a + 7 < size → readG size sg (l.drop (k + 1)) (a + 7) (k + 1) v' = readG size sg l 0 0 0 →
        ∃ m, m < l.length - k ∧ h' = h' ∧ ∃ k' a' v'', [some vb, some (vi size), some (.bool sg), some (vq v'), some (vi (k + 1)), some (vi (a + 7)), some (vi 0)] =
          [some vb, some (vi size), some (.bool sg), some (vq v''), some (vi k'), some (vi a'), some (vi 0)] ∧
          m = l.length - k' ∧ k' ≤ l.length ∧ v'' < 18446744073709551616 ∧ a' < size ∧ readG size sg (l.drop k') a' k' v'' = readG size sg l 0 0 0 :=
      fun v' hne h1 h2 h3 => ⟨l.length - (k + 1), by omega, rfl, k + 1, a + 7, v', rfl, rfl, by omega, h1, h2, h3⟩
    have fin : ∀ X Y Z : Nat, readG size sg (l.drop k) a k v = (X, Y, Z) → h' = h' ∧ ∃ x0 x1 x2 x3, [some vb, some (vi size), some (.bool sg), some (vq X), some (vi Y), some (vi a), some (vi Z)] =
        [x0, x1, x2, some (vq (readG size sg l 0 0 0).1), some (vi (readG size sg l 0 0 0).2.1), x3, some (vi (readG size sg l 0 0 0).2.2)] := by
      intro X Y Z e
      rw [hR] at e
      rw [e]
      exact ⟨rfl, _, _, _, _, rfl⟩
    have g5 : (l.getD k 0 &&& 127) * 2 ^ a % 18446744073709551616 < 18446744073709551616 := Nat.mod_lt _ (by decide)
    have g6 := or64 hv g5
    refine read_body hb hk2 hv ha hs hk hlast ?_ ?_ ?_ ?_ ?_ ?_ ?_ ?_ ?_ ?_ ?_ ?_
    · intro c1; exact fin _ _ _ (by rw [c1, List.drop_length]; rfl)
    · intro c1 c2 c3; exact fin _ _ _ (by rw [hd c1, readG, if_pos ⟨c2, c3⟩])
    · intro c1 c2 c3 c4; exact absurd (lastB_small c3) c4
    · intro c1 c2 c3 c4 c5 c6 c7; exact fin _ _ _ (by rw [hd c1, readG, if_neg (by rw [c3]; simp), if_neg (fun hh => hh c4), if_pos ⟨c5, c6, c7⟩])
    · intro c1 c2 c3 c4 c5 c6 c7; exact fin _ _ _ (by rw [hd c1, readG, if_neg (by rw [c3]; simp), if_neg (fun hh => hh c4), if_neg (fun hh => by have := hh.2.2; omega)])
    · intro c1 c2 c3 c4 c5 c6; exact fin _ _ _ (by rw [hd c1, readG, if_neg (by rw [c3]; simp), if_neg (fun hh => hh c4), if_neg (fun hh => hh.2.1 c6)])
    · intro c1 c2 c3 c4 c5; exact fin _ _ _ (by rw [hd c1, readG, if_neg (by rw [c3]; simp), if_neg (fun hh => hh c4), if_neg (fun hh => by rw [c5] at hh; exact absurd hh.1 (by decide))])
    · intro c1 c2 c4; exact go _ c1 g6 (by omega) (by rw [← hR, hd c1, readG, if_neg (fun hh => by have := hh.1; omega), if_pos c4])
    · intro c1 c2 c4 c5 c6 c7; exact fin _ _ _ (by rw [hd c1, readG, if_neg (fun hh => by have := hh.1; omega), if_neg (fun hh => hh c4), if_pos ⟨c5, c6, c7⟩])
    · intro c1 c2 c4 c5 c6 c7; exact fin _ _ _ (by rw [hd c1, readG, if_neg (fun hh => by have := hh.1; omega), if_neg (fun hh => hh c4), if_neg (fun hh => by have := hh.2.2; omega)])
    · intro c1 c2 c4 c5 c6; exact fin _ _ _ (by rw [hd c1, readG, if_neg (fun hh => by have := hh.1; omega), if_neg (fun hh => hh c4), if_neg (fun hh => hh.2.1 c6)])
    · intro c1 c2 c4 c5; exact fin _ _ _ (by rw [hd c1, readG, if_neg (fun hh => by have := hh.1; omega), if_neg (fun hh => hh c4), if_neg (fun hh => by rw [c5] at hh; exact absurd hh.1 (by decide))])
theorem read_walk {call : CallT} {N : Nat} {h : Hp} {B : Nat} {vb : AV} {sg : Bool} {l : List Nat} (hb : Bytes B h vb l) (hk2 : l.length < 9223372036854775000) {size : Nat} (h1 : 1 ≤ size) (hs : size ≤ 64) (hlast : ∀ x left s h, x < 256 → 1 ≤ left → left ≤ 64 → call 140 [.int .u8 (.ofNat x), .int .i64 (.ofNat left), .bool s] h = .ok (.bool (lastB x left s)) h) (hN : l.length < N)
    : ∃ rv rh, evF1 (progS Try.prog (compDrawn Try.prog)) N call 132 [vb, (vi size), (AV.bool sg)] h = .ok rv rh ∧ (fun (v : AV) (h' : Hp) => h' = h ∧ v = .tuple [.int .u64 (.ofNat (readG size sg l 0 0 0).1), .int .i64 (.ofNat (readG size sg l 0 0 0).2.1), .int .i64 (.ofNat (readG size sg l 0 0 0).2.2)]) rv rh := by
  refine fwalk_ok (o := (.lpx 4 (fun e1 => (.ret (ovT [(6, (vq ((readG size sg l 0 0 0).1))), (7, (vi ((readG size sg l 0 0 0).2.1))), (8, (vi ((readG size sg l 0 0 0).2.2)))] e1.t) h)) (fun e1 => .fin))) (p := (∃ e1 : Ev, evC call N (.loop readC) (ovT [(0, vb), (1, (vi size)), (2, (AV.bool sg)), (6, (vq 0)), (7, (vi 0)), (8, (vi 0)), (9, (vi 0))] .lf) h = (.ret (ovT [(6, (vq ((readG size sg l 0 0 0).1))), (7, (vi ((readG size sg l 0 0 0).2.1))), (8, (vi ((readG size sg l 0 0 0).2.2)))] e1.t) h) ∧ True ∧ (fun (v : AV) (h' : Hp) => h' = h ∧ v = .tuple [.int .u64 (.ofNat (readG size sg l 0 0 0).1), .int .i64 (.ofNat (readG size sg l 0 0 0).2.1), .int .i64 (.ofNat (readG size sg l 0 0 0).2.2)]) (AV.tuple [(vq ((readG size sg l 0 0 0).1)), (vi ((readG size sg l 0 0 0).2.1)), (vi ((readG size sg l 0 0 0).2.2))]) h)) (by kernel_rfl) ?_
  obtain ⟨t1, q1, w1⟩ := read_loop (N := N) (call := call) (t := ovT [(0, vb), (1, (vi size)), (2, (AV.bool sg)), (6, (vq 0)), (7, (vi 0)), (8, (vi 0)), (9, (vi 0))] .lf) hb hk2 h1 hs hlast hN (by kernel_rfl)
  refine ⟨⟨.nilPtr, t1, h⟩, (by rw [q1]; exact congrArg (fun t => RS.ret t h) (ovT_eq w1).symm), trivial, ?_⟩
  exact ⟨rfl, rfl⟩
noncomputable def putUC : AC := (.seq (.seq (.region [⟨(some 6), .q (.move (.tmp 1)), none⟩, ⟨(some 7), .q (.bin .gtr (.tmp 6) (.const (vq 127))), none⟩]) (.cond (.tmp 7) .skip (.exit 0))) (.block 1 (.seq (.region [⟨(some 8), .q (.move (.tmp 5)), none⟩, ⟨(some 9), .q (.move (.tmp 1)), none⟩, ⟨(some 10), .q (.toInt .u8 (.tmp 9)), none⟩, ⟨(some 11), .q (.bin .or (.tmp 10) (.const (vb8 128))), none⟩, ⟨(some 12), .l (.buildSlice 1 1 [(vb8 0)] [(0, 1, (.tmp 11))]), none⟩, ⟨(some 13), .e (.append 1 1 (.tmp 8) (.tmp 12)), none⟩, ⟨(some 5), .q (.move (.tmp 13)), none⟩]) (.region [⟨(some 14), .q (.move (.tmp 1)), none⟩, ⟨(some 15), .q (.bin .shr (.tmp 14) (.const (vq 7))), none⟩, ⟨(some 1), .q (.move (.tmp 15)), none⟩]))))
noncomputable def rputUC : AC := (.seq (.seq (.region [⟨(some 9), .q (.move (.tmp 1)), none⟩, ⟨(some 10), .q (.bin .geq (.tmp 9) (.const (vq 128))), none⟩]) (.cond (.tmp 10) .skip (.exit 0))) (.block 1 (.seq (.region [⟨(some 11), .q (.move (.tmp 5)), none⟩, ⟨(some 12), .q (.move (.tmp 1)), none⟩, ⟨(some 13), .q (.toInt .u8 (.tmp 12)), none⟩, ⟨(some 14), .q (.bin .or (.tmp 13) (.const (vb8 128))), none⟩, ⟨(some 15), .l (.buildSlice 1 1 [(vb8 0)] [(0, 1, (.tmp 14))]), none⟩, ⟨(some 16), .e (.append 1 1 (.tmp 11) (.tmp 15)), none⟩, ⟨(some 5), .q (.move (.tmp 16)), none⟩]) (.region [⟨(some 17), .q (.move (.tmp 1)), none⟩, ⟨(some 18), .q (.bin .shr (.tmp 17) (.const (vq 7))), none⟩, ⟨(some 1), .q (.move (.tmp 18)), none⟩]))))
noncomputable def putSC : AC := (.seq (.seq (.region [⟨(some 6), .q (.move (.tmp 1)), none⟩, ⟨(some 7), .q (.bin .lss (.tmp 6) (.const (AV.int .i64 (Int.negSucc 63)))), none⟩, ⟨(some 8), .q (.move (.tmp 7)), none⟩, ⟨(some 9), .q (.move (.tmp 1)), (some (8, false))⟩, ⟨(some 10), .q (.bin .geq (.tmp 9) (.const (vi 64))), (some (8, false))⟩, ⟨(some 11), .q (.pick (.tmp 8) (.const (AV.bool true)) (.tmp 10)), none⟩]) (.cond (.tmp 11) .skip (.exit 0))) (.block 1 (.seq (.region [⟨(some 12), .q (.move (.tmp 5)), none⟩, ⟨(some 13), .q (.move (.tmp 1)), none⟩, ⟨(some 14), .q (.toInt .u8 (.tmp 13)), none⟩, ⟨(some 15), .q (.bin .or (.tmp 14) (.const (vb8 128))), none⟩, ⟨(some 16), .l (.buildSlice 1 1 [(vb8 0)] [(0, 1, (.tmp 15))]), none⟩, ⟨(some 17), .e (.append 1 1 (.tmp 12) (.tmp 16)), none⟩, ⟨(some 5), .q (.move (.tmp 17)), none⟩]) (.region [⟨(some 18), .q (.move (.tmp 1)), none⟩, ⟨(some 19), .q (.bin .shr (.tmp 18) (.const (vq 7))), none⟩, ⟨(some 1), .q (.move (.tmp 19)), none⟩]))))
noncomputable def rputSC : AC := (.seq (.seq (.region [⟨(some 9), .q (.move (.tmp 1)), none⟩, ⟨(some 10), .q (.bin .lss (.tmp 9) (.const (AV.int .i64 (Int.negSucc 63)))), none⟩, ⟨(some 11), .q (.move (.tmp 10)), none⟩, ⟨(some 12), .q (.move (.tmp 1)), (some (11, false))⟩, ⟨(some 13), .q (.bin .gtr (.tmp 12) (.const (vi 63))), (some (11, false))⟩, ⟨(some 14), .q (.pick (.tmp 11) (.const (AV.bool true)) (.tmp 13)), none⟩]) (.cond (.tmp 14) .skip (.exit 0))) (.block 1 (.seq (.region [⟨(some 15), .q (.move (.tmp 5)), none⟩, ⟨(some 16), .q (.move (.tmp 1)), none⟩, ⟨(some 17), .q (.toInt .u8 (.tmp 16)), none⟩, ⟨(some 18), .q (.bin .or (.tmp 17) (.const (vb8 128))), none⟩, ⟨(some 19), .l (.buildSlice 1 1 [(vb8 0)] [(0, 1, (.tmp 18))]), none⟩, ⟨(some 20), .e (.append 1 1 (.tmp 15) (.tmp 19)), none⟩, ⟨(some 5), .q (.move (.tmp 20)), none⟩]) (.region [⟨(some 21), .q (.move (.tmp 1)), none⟩, ⟨(some 22), .q (.bin .shr (.tmp 21) (.const (vq 7))), none⟩, ⟨(some 1), .q (.move (.tmp 22)), none⟩]))))
end Go.Proofs.Ytpelnanckmjoaaa
end
section
set_option linter.unusedVariables false
namespace Go.Proofs.Ytpelnanckmjoaaa
set_option linter.unusedVariables false
open Go Eng
noncomputable def numC : AC := (.seq (.seq (.region [⟨(some 20), .q (.move (.tmp 11)), none⟩, ⟨(some 21), .q (.move (.tmp 10)), none⟩, ⟨(some 22), .q (.bin .lss (.tmp 20) (.tmp 21)), none⟩]) (.cond (.tmp 22) .skip (.exit 0))) (.seq (.block 1 (.seq (.seq (.region [⟨(some 25), .q (.move (.tmp 11)), none⟩, ⟨(some 26), .q (.move (.tmp 0)), none⟩, ⟨(some 27), .q (.lenL (.tmp 26)), none⟩, ⟨(some 28), .q (.bin .geq (.tmp 25) (.tmp 27)), none⟩]) (.cond (.tmp 28) (.seq (.region [⟨(some 6), .q (.move (.const (vq 0))), none⟩, ⟨(some 7), .q (.move (.const (vi 0))), none⟩, ⟨(some 8), .q (.move (.const (vi 3))), none⟩]) .ret) .skip)) (.seq (.region [⟨(some 29), .q (.move (.tmp 0)), none⟩, ⟨(some 30), .q (.move (.tmp 11)), none⟩, ⟨(some 31), .q (.idxAddrSl 1 (.tmp 29) (.tmp 30)), none⟩, ⟨(some 32), .q (.loadS (.tmp 31)), none⟩, ⟨(some 12), .q (.move (.tmp 32)), none⟩]) (.seq (.region [⟨(some 33), .q (.move (.tmp 12)), none⟩, ⟨(some 34), .q (.bin .and (.tmp 33) (.const (vb8 127))), none⟩, ⟨(some 35), .q (.toInt .u64 (.tmp 34)), none⟩, ⟨(some 13), .q (.move (.tmp 35)), none⟩]) (.seq (.seq (.region [⟨(some 36), .q (.move (.tmp 11)), none⟩, ⟨(some 37), .q (.move (.tmp 10)), none⟩, ⟨(some 38), .q (.bin .sub (.tmp 37) (.const (vi 1))), none⟩, ⟨(some 39), .q (.eq .int false (.tmp 36) (.tmp 38)), none⟩]) (.cond (.tmp 39) (.seq (.region [⟨(some 40), .q (.move (.tmp 1)), none⟩, ⟨(some 41), .q (.move (.tmp 11)), none⟩, ⟨(some 42), .q (.bin .mul (.const (vi 7)) (.tmp 41)), none⟩, ⟨(some 43), .q (.bin .sub (.tmp 40) (.tmp 42)), none⟩, ⟨(some 14), .q (.move (.tmp 43)), none⟩]) (.seq (.region [⟨(some 44), .q (.move (.tmp 13)), none⟩, ⟨(some 45), .q (.move (.tmp 14)), none⟩, ⟨(some 46), .q (.bin .shr (.tmp 44) (.tmp 45)), none⟩, ⟨(some 15), .q (.move (.tmp 46)), none⟩]) (.seq (.seq (.region [⟨(some 47), .q (.move (.tmp 2)), none⟩]) (.cond (.tmp 47) (.region [⟨(some 48), .q (.move (.tmp 13)), none⟩, ⟨(some 49), .q (.move (.tmp 14)), none⟩, ⟨(some 50), .q (.bin .sub (.tmp 49) (.const (vi 1))), none⟩, ⟨(some 51), .q (.bin .shr (.tmp 48) (.tmp 50)), none⟩, ⟨(some 15), .q (.move (.tmp 51)), none⟩]) .skip)) (.seq (.region [⟨(some 52), .q (.move (.tmp 14)), none⟩, ⟨(some 53), .q (.bin .shr (.const (vq 127)) (.tmp 52)), none⟩, ⟨(some 16), .q (.move (.tmp 53)), none⟩]) (.seq (.seq (.region [⟨(some 54), .q (.move (.tmp 2)), none⟩]) (.cond (.tmp 54) (.region [⟨(some 55), .q (.move (.tmp 14)), none⟩, ⟨(some 56), .q (.bin .sub (.tmp 55) (.const (vi 1))), none⟩, ⟨(some 57), .q (.bin .shr (.const (vq 127)) (.tmp 56)), none⟩, ⟨(some 16), .q (.move (.tmp 57)), none⟩]) .skip)) (.seq (.region [⟨(some 58), .q (.move (.tmp 12)), none⟩, ⟨(some 59), .q (.bin .geq (.tmp 58) (.const (vb8 128))), none⟩, ⟨(some 60), .q (.move (.tmp 59)), none⟩, ⟨(some 61), .q (.move (.tmp 15)), (some (60, false))⟩, ⟨(some 62), .q (.eq .int true (.tmp 61) (.const (vq 0))), (some (60, false))⟩, ⟨(some 63), .q (.move (.tmp 62)), (some (60, false))⟩, ⟨(some 64), .q (.move (.tmp 2)), (some (63, true))⟩, ⟨(some 65), .q (.un .not (.tmp 64)), (some (63, true))⟩, ⟨(some 66), .q (.move (.tmp 65)), (some (63, true))⟩, ⟨(some 67), .q (.move (.tmp 15)), (some (66, false))⟩, ⟨(some 68), .q (.move (.tmp 16)), (some (66, false))⟩, ⟨(some 69), .q (.eq .int true (.tmp 67) (.tmp 68)), (some (66, false))⟩, ⟨(some 70), .q (.pick (.tmp 66) (.const (AV.bool true)) (.tmp 69)), (some (63, true))⟩, ⟨(some 71), .q (.pick (.tmp 63) (.tmp 70) (.const (AV.bool false))), (some (60, false))⟩, ⟨(some 72), .q (.pick (.tmp 60) (.const (AV.bool true)) (.tmp 71)), none⟩]) (.cond (.tmp 72) (.seq (.region [⟨(some 6), .q (.move (.const (vq 0))), none⟩, ⟨(some 7), .q (.move (.const (vi 0))), none⟩, ⟨(some 8), .q (.move (.const (vi 2))), none⟩]) .ret) .skip))))))) .skip)) (.seq (.region [⟨(some 73), .q (.move (.tmp 9)), none⟩, ⟨(some 74), .q (.move (.tmp 13)), none⟩, ⟨(some 75), .q (.move (.tmp 11)), none⟩, ⟨(some 76), .q (.bin .mul (.const (vi 7)) (.tmp 75)), none⟩, ⟨(some 77), .q (.bin .shl (.tmp 74) (.tmp 76)), none⟩, ⟨(some 78), .q (.bin .or (.tmp 73) (.tmp 77)), none⟩, ⟨(some 9), .q (.move (.tmp 78)), none⟩]) (.seq (.region [⟨(some 79), .q (.move (.tmp 12)), none⟩, ⟨(some 80), .q (.bin .lss (.tmp 79) (.const (vb8 128))), none⟩]) (.cond (.tmp 80) (.seq (.seq (.region [⟨(some 81), .q (.move (.tmp 2)), none⟩, ⟨(some 82), .q (.move (.tmp 81)), none⟩, ⟨(some 83), .q (.move (.tmp 12)), (some (82, true))⟩, ⟨(some 84), .q (.bin .and (.tmp 83) (.const (vb8 64))), (some (82, true))⟩, ⟨(some 85), .q (.eq .int true (.tmp 84) (.const (vb8 0))), (some (82, true))⟩, ⟨(some 86), .q (.pick (.tmp 82) (.tmp 85) (.const (AV.bool false))), none⟩, ⟨(some 87), .q (.move (.tmp 86)), none⟩, ⟨(some 88), .q (.move (.tmp 11)), (some (87, true))⟩, ⟨(some 89), .q (.bin .mul (.const (vi 7)) (.tmp 88)), (some (87, true))⟩, ⟨(some 90), .q (.bin .add (.tmp 89) (.const (vi 7))), (some (87, true))⟩, ⟨(some 91), .q (.bin .lss (.tmp 90) (.const (vi 64))), (some (87, true))⟩, ⟨(some 92), .q (.pick (.tmp 87) (.tmp 91) (.const (AV.bool false))), none⟩]) (.cond (.tmp 92) (.region [⟨(some 93), .q (.move (.tmp 9)), none⟩, ⟨(some 94), .q (.move (.tmp 11)), none⟩, ⟨(some 95), .q (.bin .mul (.const (vi 7)) (.tmp 94)), none⟩, ⟨(some 96), .q (.bin .add (.tmp 95) (.const (vi 7))), none⟩, ⟨(some 97), .q (.bin .shl (.const (vq 18446744073709551615)) (.tmp 96)), none⟩, ⟨(some 98), .q (.bin .or (.tmp 93) (.tmp 97)), none⟩, ⟨(some 9), .q (.move (.tmp 98)), none⟩]) .skip)) (.seq (.region [⟨(some 99), .q (.move (.tmp 9)), none⟩, ⟨(some 100), .q (.move (.tmp 11)), none⟩, ⟨(some 101), .q (.bin .add (.tmp 100) (.const (vi 1))), none⟩, ⟨(some 6), .q (.move (.tmp 99)), none⟩, ⟨(some 7), .q (.move (.tmp 101)), none⟩, ⟨(some 8), .q (.move (.const (vi 0))), none⟩]) .ret)) .skip)))))))) (.region [⟨(some 23), .q (.move (.tmp 11)), none⟩, ⟨(some 24), .q (.bin .add (.tmp 23) (.const (vi 1))), none⟩, ⟨(some 11), .q (.move (.tmp 24)), none⟩])))
end Go.Proofs.Ytpelnanckmjoaaa
end
section
set_option linter.unusedVariables false
namespace Go.Proofs.Ytpelnanckmjoaaa
set_option linter.unusedVariables false
open Go Eng
theorem U32_walk {call : CallT} {N : Nat} {h : Hp} {B : Nat} {vb : AV} {l : List Nat} (hb : Bytes B h vb l) (hk2 : l.length < 90000) (hread : ∀ (B : Nat) (h : Hp) (vb : AV) (l : List Nat), Bytes B h vb l → l.length < 90000 → 32 = 32 → call 132 [vb, .int .i64 (.ofNat 32), .bool false] h = .ok (numT .u64 (readG 32 false l 0 0 0)) h)
    : ∃ rv rh, evF1 (progS Try.prog (compDrawn Try.prog)) N call 107 [vb] h = .ok rv rh ∧ (fun (v : AV) (h' : Hp) => h' = h ∧ v = .tuple [.int .u32 ((fun n => .ofNat (n % 4294967296)) (readG 32 false l 0 0 0).1), .int .i64 (.ofNat (readG 32 false l 0 0 0).2.1), .int .i64 (.ofNat (readG 32 false l 0 0 0).2.2)]) rv rh := by
  refine fwalk_ok (o := (.eff 4 (AV.tuple [(vq ((readG 32 false l 0 0 0).1)), (vi ((readG 32 false l 0 0 0).2.1)), (vi ((readG 32 false l 0 0 0).2.2))]) h (.tell 8 (vw (((readG 32 false l 0 0 0).1) % 4294967296)) .fin))) (p := (call 132 [vb, (vi 32), (AV.bool false)] h = .ok (AV.tuple [(vq ((readG 32 false l 0 0 0).1)), (vi ((readG 32 false l 0 0 0).2.1)), (vi ((readG 32 false l 0 0 0).2.2))]) h ∧ (evQ (.toInt .u32 (.const (vq ((readG 32 false l 0 0 0).1)))) .lf H0 = .ok (vw (((readG 32 false l 0 0 0).1) % 4294967296)) ∧ (fun (v : AV) (h' : Hp) => h' = h ∧ v = .tuple [.int .u32 ((fun n => .ofNat (n % 4294967296)) (readG 32 false l 0 0 0).1), .int .i64 (.ofNat (readG 32 false l 0 0 0).2.1), .int .i64 (.ofNat (readG 32 false l 0 0 0).2.2)]) (AV.tuple [(vw (((readG 32 false l 0 0 0).1) % 4294967296)), (vi ((readG 32 false l 0 0 0).2.1)), (vi ((readG 32 false l 0 0 0).2.2))]) h))) (by kernel_rfl) ?_
  refine ⟨hread _ _ _ _ hb (by omega) rfl, ?_⟩
  refine ⟨u_conv rfl, ?_⟩
  have g1 : ((readG 32 false l 0 0 0).1) % 4294967296 < 4294967296 := Nat.mod_lt _ (by decide)
  exact ⟨rfl, rfl⟩
theorem S32_walk {call : CallT} {N : Nat} {h : Hp} {B : Nat} {vb : AV} {l : List Nat} (hb : Bytes B h vb l) (hk2 : l.length < 90000) (hread : ∀ (B : Nat) (h : Hp) (vb : AV) (l : List Nat), Bytes B h vb l → l.length < 90000 → 32 = 32 → call 132 [vb, .int .i64 (.ofNat 32), .bool true] h = .ok (numT .u64 (readG 32 true l 0 0 0)) h)
    : ∃ rv rh, evF1 (progS Try.prog (compDrawn Try.prog)) N call 109 [vb] h = .ok rv rh ∧ (fun (v : AV) (h' : Hp) => h' = h ∧ v = .tuple [.int .i32 ((sInt .i32) (readG 32 true l 0 0 0).1), .int .i64 (.ofNat (readG 32 true l 0 0 0).2.1), .int .i64 (.ofNat (readG 32 true l 0 0 0).2.2)]) rv rh := by
  refine fwalk_ok (o := (.eff 4 (AV.tuple [(vq ((readG 32 true l 0 0 0).1)), (vi ((readG 32 true l 0 0 0).2.1)), (vi ((readG 32 true l 0 0 0).2.2))]) h .fin)) (p := (call 132 [vb, (vi 32), (AV.bool true)] h = .ok (AV.tuple [(vq ((readG 32 true l 0 0 0).1)), (vi ((readG 32 true l 0 0 0).2.1)), (vi ((readG 32 true l 0 0 0).2.2))]) h ∧ (fun (v : AV) (h' : Hp) => h' = h ∧ v = .tuple [.int .i32 ((sInt .i32) (readG 32 true l 0 0 0).1), .int .i64 (.ofNat (readG 32 true l 0 0 0).2.1), .int .i64 (.ofNat (readG 32 true l 0 0 0).2.2)]) (AV.tuple [(AV.int .i32 (wrapA .i32 (Int.ofNat ((readG 32 true l 0 0 0).1)))), (vi ((readG 32 true l 0 0 0).2.1)), (vi ((readG 32 true l 0 0 0).2.2))]) h)) (by kernel_rfl) ?_
  refine ⟨hread _ _ _ _ hb (by omega) rfl, ?_⟩
  exact ⟨rfl, rfl⟩
theorem S33_walk {call : CallT} {N : Nat} {h : Hp} {B : Nat} {vb : AV} {l : List Nat} (hb : Bytes B h vb l) (hk2 : l.length < 90000) (hread : ∀ (B : Nat) (h : Hp) (vb : AV) (l : List Nat), Bytes B h vb l → l.length < 90000 → 32 = 32 → call 132 [vb, .int .i64 (.ofNat 33), .bool true] h = .ok (numT .u64 (readG 33 true l 0 0 0)) h)
    : ∃ rv rh, evF1 (progS Try.prog (compDrawn Try.prog)) N call 112 [vb] h = .ok rv rh ∧ (fun (v : AV) (h' : Hp) => h' = h ∧ v = .tuple [.int .i64 ((sInt .i64) (readG 33 true l 0 0 0).1), .int .i64 (.ofNat (readG 33 true l 0 0 0).2.1), .int .i64 (.ofNat (readG 33 true l 0 0 0).2.2)]) rv rh := by
  refine fwalk_ok (o := (.eff 4 (AV.tuple [(vq ((readG 33 true l 0 0 0).1)), (vi ((readG 33 true l 0 0 0).2.1)), (vi ((readG 33 true l 0 0 0).2.2))]) h .fin)) (p := (call 132 [vb, (vi 33), (AV.bool true)] h = .ok (AV.tuple [(vq ((readG 33 true l 0 0 0).1)), (vi ((readG 33 true l 0 0 0).2.1)), (vi ((readG 33 true l 0 0 0).2.2))]) h ∧ (fun (v : AV) (h' : Hp) => h' = h ∧ v = .tuple [.int .i64 ((sInt .i64) (readG 33 true l 0 0 0).1), .int .i64 (.ofNat (readG 33 true l 0 0 0).2.1), .int .i64 (.ofNat (readG 33 true l 0 0 0).2.2)]) (AV.tuple [(AV.int .i64 (wrapA .i64 (Int.ofNat ((readG 33 true l 0 0 0).1)))), (vi ((readG 33 true l 0 0 0).2.1)), (vi ((readG 33 true l 0 0 0).2.2))]) h)) (by kernel_rfl) ?_
  refine ⟨hread _ _ _ _ hb (by omega) rfl, ?_⟩
  exact ⟨rfl, rfl⟩
theorem S64_walk {call : CallT} {N : Nat} {h : Hp} {B : Nat} {vb : AV} {l : List Nat} (hb : Bytes B h vb l) (hk2 : l.length < 90000) (hread : ∀ (B : Nat) (h : Hp) (vb : AV) (l : List Nat), Bytes B h vb l → l.length < 90000 → 32 = 32 → call 132 [vb, .int .i64 (.ofNat 64), .bool true] h = .ok (numT .u64 (readG 64 true l 0 0 0)) h)
    : ∃ rv rh, evF1 (progS Try.prog (compDrawn Try.prog)) N call 110 [vb] h = .ok rv rh ∧ (fun (v : AV) (h' : Hp) => h' = h ∧ v = .tuple [.int .i64 ((sInt .i64) (readG 64 true l 0 0 0).1), .int .i64 (.ofNat (readG 64 true l 0 0 0).2.1), .int .i64 (.ofNat (readG 64 true l 0 0 0).2.2)]) rv rh := by
  refine fwalk_ok (o := (.eff 4 (AV.tuple [(vq ((readG 64 true l 0 0 0).1)), (vi ((readG 64 true l 0 0 0).2.1)), (vi ((readG 64 true l 0 0 0).2.2))]) h .fin)) (p := (call 132 [vb, (vi 64), (AV.bool true)] h = .ok (AV.tuple [(vq ((readG 64 true l 0 0 0).1)), (vi ((readG 64 true l 0 0 0).2.1)), (vi ((readG 64 true l 0 0 0).2.2))]) h ∧ (fun (v : AV) (h' : Hp) => h' = h ∧ v = .tuple [.int .i64 ((sInt .i64) (readG 64 true l 0 0 0).1), .int .i64 (.ofNat (readG 64 true l 0 0 0).2.1), .int .i64 (.ofNat (readG 64 true l 0 0 0).2.2)]) (AV.tuple [(AV.int .i64 (wrapA .i64 (Int.ofNat ((readG 64 true l 0 0 0).1)))), (vi ((readG 64 true l 0 0 0).2.1)), (vi ((readG 64 true l 0 0 0).2.2))]) h)) (by kernel_rfl) ?_
  refine ⟨hread _ _ _ _ hb (by omega) rfl, ?_⟩
  exact ⟨rfl, rfl⟩
end Go.Proofs.Ytpelnanckmjoaaa
end
section
set_option linter.unusedVariables false
namespace Go.Proofs.Ytpelnanckmjoaaa
set_option linter.unusedVariables false
open Go Eng
noncomputable abbrev CC (d : Nat) : CallT := evF (sumT [11]) (progS Try.prog (compDrawn Try.prog)) 100000 d
theorem s_last (d : Nat) : LastS (CC (d + 1)) 140 := fun x left s h hx h1 h2 => by
  rw [CC, evF_at (sumT_none rfl)]
  obtain ⟨v, h', e, rfl, rfl⟩ := last_walk (call := CC d) (N := 100000) (h := h) (sg := s) hx h1 h2
  exact e
theorem s_read (d : Nat) : ReadS (CC (d + 2)) 132 fun size sg l => readG size sg l 0 0 0 := fun B h vb l size sg hb hl hs => by
  rw [CC, evF_at (sumT_none rfl)]
  obtain ⟨v, h', e, rfl, rfl⟩ := read_walk (call := CC (d + 1)) (N := 100000) (h := h) (sg := sg) (size := size) hb (by omega) (by omega) (by omega) (s_last d) (by omega)
  exact e
theorem s_U32 (d : Nat) : NumS (CC (d + 3)) 107 32 false .u32 (fun n => .ofNat (n % 4294967296)) := fun {B h vb l} hb hl => by
  rw [CC, evF_at (sumT_none rfl)]
  obtain ⟨v, h', e, rfl, rfl⟩ := U32_walk (call := CC (d + 2)) (N := 100000) (h := h) hb hl (fun B h vb l hb hl _ => s_read d B h vb l 32 false hb hl (by decide))
  exact e
theorem s_S32 (d : Nat) : NumS (CC (d + 3)) 109 32 true .i32 (sInt .i32) := fun {B h vb l} hb hl => by
  rw [CC, evF_at (sumT_none rfl)]
  obtain ⟨v, h', e, rfl, rfl⟩ := S32_walk (call := CC (d + 2)) (N := 100000) (h := h) hb hl (fun B h vb l hb hl _ => s_read d B h vb l 32 true hb hl (by decide))
  exact e
theorem s_S33 (d : Nat) : NumS (CC (d + 3)) 112 33 true .i64 (sInt .i64) := fun {B h vb l} hb hl => by
  rw [CC, evF_at (sumT_none rfl)]
  obtain ⟨v, h', e, rfl, rfl⟩ := S33_walk (call := CC (d + 2)) (N := 100000) (h := h) hb hl (fun B h vb l hb hl _ => s_read d B h vb l 33 true hb hl (by decide))
  exact e
theorem s_S64 (d : Nat) : NumS (CC (d + 3)) 110 64 true .i64 (sInt .i64) := fun {B h vb l} hb hl => by
  rw [CC, evF_at (sumT_none rfl)]
  obtain ⟨v, h', e, rfl, rfl⟩ := S64_walk (call := CC (d + 2)) (N := 100000) (h := h) hb hl (fun B h vb l hb hl _ => s_read d B h vb l 64 true hb hl (by decide))
  exact e
theorem begun11 : Eng.isTrue (Eng.evF Eng.noM (progS Try.prog (compDrawn Try.prog)) 1000 40 11 [] Eng.H0) = true := by kernel_rfl
theorem trues : Eng.Trues Try.prog [11] := fun f hf => by
  simp only [List.mem_cons, List.not_mem_nil, or_false] at hf
  rcases hf with rfl
  · exact Eng.trues_one Eng.compDrawn_ok Eng.noM_ok begun11
end Go.Proofs.Ytpelnanckmjoaaa
end
section
set_option linter.unusedVariables false
set_option linter.unusedSimpArgs false
namespace Eng
open Go Go.RowKit
abbrev Cu := List Nat × Nat × Nat
abbrev Rd := List Nat × Nat
def tyV (x : Nat) : Bool × Nat := if x = 127 ∨ x = 126 ∨ x = 112 ∨ x = 111 then (true, 0) else if x = 125 ∨ x = 124 ∨ x = 123 then (false, 5) else (false, 2)
def refV (x : Nat) : Bool := decide (x = 112 ∨ x = 111)
def cuSkip (k : Nat) (s : Cu) : Cu := (s.1.drop k, s.2.1 + k, s.2.2)
def cuOne (s : Cu) : Nat × Cu := if s.2.2 = 0 then (match s.1 with | [] => (0, ([], s.2.1, 3)) | x :: l => (x, (l, s.2.1 + 1, 0))) else (0, s)
def cuNum (s : Cu) : Nat × Cu := if s.2.2 = 0 then ((readG 32 false s.1 0 0 0).1 % 4294967296, (s.1.drop (readG 32 false s.1 0 0 0).2.1, s.2.1 + (readG 32 false s.1 0 0 0).2.1, (readG 32 false s.1 0 0 0).2.2)) else (0, s)
def cuFail (is : Bool) (e : Nat) (s : Cu) : Cu := if is = true ∧ s.2.2 = 0 then (s.1, s.2.1, e) else s
noncomputable def cuVal (s : Cu) : Nat × Cu := ((cuOne s).1, cuFail (notB (tyV (cuOne s).1).1) (tyV (cuOne s).1).2 (cuOne s).2)
noncomputable def cuValsL : Nat → List Nat → Cu → List Nat × Cu
  | 0, acc, s => (acc, s)
  | k + 1, acc, s => if s.2.2 = 0 then cuValsL k (acc ++ [(cuVal s).1]) (cuVal s).2 else (acc, s)
noncomputable def cuVals (s : Cu) : List Nat × Cu := cuValsL (cuNum s).1 [] (cuFail (ltI (.ofNat 8) (.ofNat (cuNum s).1)) 4 (cuNum s).2)
def rByte (s : Rd) : Nat × Rd := if s.2 = 0 then (match s.1 with | [] => (0, ([], 3)) | x :: l => (x, (l, 0))) else (0, s)
def rFail (e : Nat) (s : Rd) : Rd := if s.2 = 0 then (s.1, e) else s
def rNum (size : Nat) (sg : Bool) (s : Rd) : Nat × Rd := if s.2 = 0 then ((readG size sg s.1 0 0 0).1, (s.1.drop (readG size sg s.1 0 0 0).2.1, (readG size sg s.1 0 0 0).2.2)) else (0, s)
def rVal (s : Rd) : Nat × Rd := ((rByte s).1, if (rByte s).2.2 = 0 then rFail (tyV (rByte s).1).2 (rByte s).2 else (rByte s).2)
def rValsL : Nat → List Nat → Rd → List Nat × Rd
  | 0, acc, s => (acc, s)
  | k + 1, acc, s => if s.2 = 0 then rValsL k (acc ++ [(rVal s).1]) (rVal s).2 else (acc, s)
def rU32 (s : Rd) : Nat × Rd := ((rNum 32 false s).1 % 4294967296, (rNum 32 false s).2)
def rVals (s : Rd) : List Nat × Rd := rValsL (rU32 s).1 [] (if 8 < (rU32 s).1 then rFail 4 (rU32 s).2 else (rU32 s).2)
theorem readG_len {size : Nat} {sg : Bool} : ∀ (l : List Nat) (a n v : Nat), (readG size sg l a n v).2.1 ≤ n + l.length ∧ (readG size sg l a n v).2.2 < 64 ∧ (readG size sg l a n v).2.1 < n + l.length + 1
  | [], a, n, v => by rw [readG]; simp
  | x :: l, a, n, v => by
    rw [readG]
    split
    · simp
    · split
      · have := readG_len (size := size) (sg := sg) l (a + 7) (n + 1) (v ||| ((x &&& 127) * 2 ^ a % 18446744073709551616))
        simp only [List.length_cons]; omega
      · split
        · simp only [List.length_cons]; omega
        · simp only [List.length_cons]; omega
theorem ltN_iff (a b : Nat) : ltI (.ofNat a) (.ofNat b) = true ↔ a < b := by rw [ltI_eq]; simp
abbrev cuC (vb : AV) (s : Cu) (rest : List AV) : List AV := vb :: .int .i64 (.ofNat s.2.1) :: .int .i64 (.ofNat s.2.2) :: rest
def CuM (call : CallT) (f : Nat) (args : List AV) (res : Cu → AV) (st : Cu → Cu) : Prop := ∀ {h h0 : Hp} {G : Nat → Prop} {R : List AObj} {b : Nat} {vb : AV} (s : Cu) (rest : List AV), BIn G h0 vb s.1 → s.1.length + s.2.1 < 80000 → s.2.2 < 64 → Sep (Cel b (cuC vb s rest) :: Frz G h0 :: R) h →
  ∃ v' h', call f (.ptr b 0 :: args) h = .ok (res s) h' ∧ BIn G h0 v' (st s).1 ∧ Sep (Cel b (cuC v' (st s) rest) :: Frz G h0 :: R) h'
def CuV (call : CallT) (f : Nat) (res : Cu → List Nat) (st : Cu → Cu) : Prop := ∀ {h h0 : Hp} {G : Nat → Prop} {R : List AObj} {b : Nat} {vb : AV} (s : Cu) (rest : List AV), BIn G h0 vb s.1 → s.1.length + s.2.1 < 80000 → s.2.2 < 64 → Sep (Cel b (cuC vb s rest) :: Frz G h0 :: R) h →
  ∃ w v' h', call f [.ptr b 0] h = .ok w h' ∧ BIn G h0 v' (st s).1 ∧ Sep (OwnO 1 w (res s).length (u8s (res s)) :: Cel b (cuC v' (st s) rest) :: Frz G h0 :: R) h'
abbrev rdC (vb : AV) (s : Rd) (rest : List AV) : List AV := vb :: .int .i64 (.ofNat s.2) :: rest
def RdM (call : CallT) (f : Nat) (args : List AV) (res : Rd → AV) (st : Rd → Rd) : Prop := ∀ {h h0 : Hp} {G : Nat → Prop} {R : List AObj} {b : Nat} {vb : AV} (s : Rd) (rest : List AV), BIn G h0 vb s.1 → s.1.length < 80000 → s.2 < 64 → Sep (Cel b (rdC vb s rest) :: Frz G h0 :: R) h →
  ∃ v' h', call f (.ptr b 0 :: args) h = .ok (res s) h' ∧ BIn G h0 v' (st s).1 ∧ Sep (Cel b (rdC v' (st s) rest) :: Frz G h0 :: R) h'
def RdV (call : CallT) (f : Nat) (res : Rd → List Nat) (st : Rd → Rd) : Prop := ∀ {h h0 : Hp} {G : Nat → Prop} {R : List AObj} {b : Nat} {vb : AV} (s : Rd) (rest : List AV), BIn G h0 vb s.1 → s.1.length < 80000 → s.2 < 64 → Sep (Cel b (rdC vb s rest) :: Frz G h0 :: R) h →
  ∃ w v' h', call f [.ptr b 0] h = .ok w h' ∧ BIn G h0 v' (st s).1 ∧ Sep (OwnO 1 w (res s).length (u8s (res s)) :: Cel b (rdC v' (st s) rest) :: Frz G h0 :: R) h'
def ValS (call : CallT) (f : Nat) : Prop := ∀ (x : Nat) (h : Hp), x < 256 → call f [.int .u8 (.ofNat x)] h = .ok (.tuple [.bool (tyV x).1, .int .i64 (.ofNat (tyV x).2)]) h
def RefS (call : CallT) (f : Nat) : Prop := ∀ (x : Nat) (h : Hp), x < 256 → call f [.int .u8 (.ofNat x)] h = .ok (.bool (refV x)) h
noncomputable def fS (l : List Nat) : Cu := cuFail (notB (eqI (.ofNat (cuOne (l, 0, 0)).1) (.ofNat 96))) 2 (cuOne (l, 0, 0)).2
noncomputable def takeF (l : List Nat) : (List Nat × List Nat) × Nat × Nat :=
  if (cuVals (cuVals (fS l)).2).2.2.2 = 0 then (((cuVals (fS l)).1, (cuVals (cuVals (fS l)).2).1), (cuVals (cuVals (fS l)).2).2.2.1, 0) else (([], []), 0, (cuVals (cuVals (fS l)).2).2.2.2)
noncomputable def lS (l : List Nat) : Cu := cuFail (ltI (.ofNat 1) (.ofNat (cuOne (l, 0, 0)).1)) 2 (cuOne (l, 0, 0)).2
noncomputable def takeL (l : List Nat) : (Nat × Nat × Bool) × Nat × Nat :=
  if (cuOne (l, 0, 0)).1 = 1 then (if (cuNum (cuNum (lS l)).2).2.2.2 = 0 then (((cuNum (lS l)).1, (cuNum (cuNum (lS l)).2).1, true), (cuNum (cuNum (lS l)).2).2.2.1, 0) else ((0, 0, false), 0, (cuNum (cuNum (lS l)).2).2.2.2))
  else (if (cuNum (lS l)).2.2.2 = 0 then (((cuNum (lS l)).1, 0, false), (cuNum (lS l)).2.2.1, 0) else ((0, 0, false), 0, (cuNum (lS l)).2.2.2))
def TakeFS (call : CallT) (f : Nat) (g : List Nat → (List Nat × List Nat) × Nat × Nat) : Prop := ∀ {h h0 : Hp} {G : Nat → Prop} {R : List AObj} {vb : AV} (l : List Nat), BIn G h0 vb l → l.length < 70000 → Sep (Frz G h0 :: R) h →
  ∃ p q h', call f [vb] h = .ok (.tuple [.agg [p, q], .int .i64 (.ofNat (g l).2.1), .int .i64 (.ofNat (g l).2.2)]) h' ∧ Sep (OwnO 1 p (g l).1.1.length (u8s (g l).1.1) :: OwnO 1 q (g l).1.2.length (u8s (g l).1.2) :: Frz G h0 :: R) h'
def TakeLS (call : CallT) (f : Nat) (g : List Nat → (Nat × Nat × Bool) × Nat × Nat) : Prop := ∀ {h h0 : Hp} {G : Nat → Prop} {R : List AObj} {vb : AV} (l : List Nat), BIn G h0 vb l → l.length < 70000 → Sep (Frz G h0 :: R) h →
  ∃ h', call f [vb] h = .ok (.tuple [.agg [.int .u32 (.ofNat (g l).1.1), .int .u32 (.ofNat (g l).1.2.1), .bool (g l).1.2.2], .int .i64 (.ofNat (g l).2.1), .int .i64 (.ofNat (g l).2.2)]) h' ∧ Sep (Frz G h0 :: R) h'
noncomputable def rfS (s : Rd) : Rd := if (rByte s).1 = 96 then (rByte s).2 else rFail 2 (rByte s).2
noncomputable def rFT (s : Rd) : (List Nat × List Nat) × Rd := (((rVals (rfS s)).1, (rVals (rVals (rfS s)).2).1), (rVals (rVals (rfS s)).2).2)
noncomputable def rlS (s : Rd) : Rd := if 1 < (rByte s).1 then rFail 2 (rByte s).2 else (rByte s).2
noncomputable def rLm (s : Rd) : (Nat × Nat × Bool) × Rd := if (rByte s).1 = 1 then (((rU32 (rlS s)).1, (rU32 (rU32 (rlS s)).2).1, true), (rU32 (rU32 (rlS s)).2).2) else (((rU32 (rlS s)).1, 0, false), (rU32 (rlS s)).2)
noncomputable def takeFr (l : List Nat) : (List Nat × List Nat) × Nat × Nat := if (rFT (l, 0)).2.2 = 0 then ((rFT (l, 0)).1, l.length - (rFT (l, 0)).2.1.length, 0) else (([], []), 0, (rFT (l, 0)).2.2)
noncomputable def takeLr (l : List Nat) : (Nat × Nat × Bool) × Nat × Nat := if (rLm (l, 0)).2.2 = 0 then ((rLm (l, 0)).1, l.length - (rLm (l, 0)).2.1.length, 0) else ((0, 0, false), 0, (rLm (l, 0)).2.2)
def RdF (call : CallT) (f : Nat) : Prop := ∀ {h h0 : Hp} {G : Nat → Prop} {R : List AObj} {b : Nat} {vb : AV} (s : Rd) (rest : List AV), BIn G h0 vb s.1 → s.1.length < 80000 → s.2 < 64 → Sep (Cel b (rdC vb s rest) :: Frz G h0 :: R) h →
  ∃ p q v' h', call f [.ptr b 0] h = .ok (.agg [p, q]) h' ∧ BIn G h0 v' (rFT s).2.1 ∧ Sep (OwnO 1 p (rFT s).1.1.length (u8s (rFT s).1.1) :: OwnO 1 q (rFT s).1.2.length (u8s (rFT s).1.2) :: Cel b (rdC v' (rFT s).2 rest) :: Frz G h0 :: R) h'
def cu (s : Cu) : Rd := (s.1, s.2.2)
end Eng
end
