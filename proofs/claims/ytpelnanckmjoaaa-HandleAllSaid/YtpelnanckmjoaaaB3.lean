import Derived.Test.YtpelnanckmjoaaaB2
import Derived.ChangeSlices
import Derived.WideShapes
import Derived.SizedLaws
import Derived.Sort.MapsRangeIn
import Derived.Sort.KeysCollected
import Derived.Maps.Range
import Derived.Test.YtpelnanckmjoaaaChecked
import Derived.Shelf.SlIter.Collect
import Derived.RangeFuncGives
import Derived.Maps.AppendAt
import Derived.WalkKit
import Derived.OwnWalkIn
import Derived.TacticsInMore
import Derived.RegionIn
import Derived.LoopNIn
import Derived.LoopIn
section
set_option linter.unusedVariables false
set_option linter.unusedSimpArgs false
namespace Eng
open Go Go.RowKit
section
variable {call : CallT} {callW : CallW} {N : Nat}
theorem peel_ok : ∀ {r : Orc} {K : Orc → Prop}, peel r K → ∃ r', K r' := by
  intro r K
  induction r with
  | exi n f ih => intro h; obtain ⟨x, h⟩ := (show ∃ x, peel (f x) K from h); exact ih x h
  | dis n a b ia ib =>
    intro h
    rcases (show peel a K ∨ peel b K from h) with h | h
    · exact ia h
    · exact ib h
  | _ => exact fun h => ⟨_, h⟩
theorem step_ok {c : Nat} {r : Orc} {now : Orc → Prop} {go : Nat → Orc → Prop} (h : step c r now go) : (∃ r', now r') ∨ ∃ m, go m r := by
  cases c with
  | zero => exact .inl (peel_ok h)
  | succ m => exact .inr ⟨m, h⟩
theorem okv {o : OV} {k : AV → Prop} (h : o.cs False k) : ∃ v, o = .ok v ∧ k v := by
  cases o with
  | no => exact h.elim
  | ok v => exact ⟨v, rfl, h⟩
theorem okr {o : RV} {k : AV → Hp → Prop} (h : o.cs False k) : ∃ v h', o = .ok v h' ∧ k v h' := by
  cases o with
  | no => exact h.elim
  | ok v h' => exact ⟨v, h', rfl, h⟩
theorem okb {v : AV} {k : Bool → Prop} (h : (avB v).cs False k) : ∃ b, v = .bool b ∧ k b := by
  cases v <;> first | exact h.elim | exact ⟨_, rfl, h⟩
theorem qW_ok {o : QOp} {t : T} {h : Hp} {c : Nat} {r : Orc} {k : KV} (e : qW o t h c r k) : ∃ v c' r', evQ o t h = .ok v ∧ k v c' r' := by
  rcases step_ok e with ⟨r, e⟩ | ⟨m, e⟩
  · cases r with
    | fin => obtain ⟨v, h1, h2⟩ := okv e; exact ⟨v, _, _, h1, h2⟩
    | tell n x r => exact ⟨x, _, _, e.1, e.2⟩
    | fork n a b =>
      obtain ⟨v, h1, h2⟩ := okv (show (evQ o t h).cs False (fun v => (avB v).cs False fun b' => (b' = true → k (.bool true) a.n a) ∧ (b' = false → k (.bool false) b.n b)) from e)
      obtain ⟨b', rfl, h3⟩ := okb h2
      cases b' with
      | true => exact ⟨_, _, _, h1, h3.1 rfl⟩
      | false => exact ⟨_, _, _, h1, h3.2 rfl⟩
    | eff n x h r => exact False.elim e
    | lp n s r => exact False.elim e
    | again n r => exact False.elim e
    | goal n r =>
      obtain ⟨v, h1, h2⟩ := okv (show (evQ o t h).cs False (fun v => (avB v).cs False fun b' => b' = true ∧ k (.bool true) r.n r) from e)
      obtain ⟨b', rfl, rfl, h3⟩ := okb h2
      exact ⟨_, _, _, h1, h3⟩
    | effx n x r => exact False.elim e
    | lpx n x r => exact False.elim e
    | ell n m x r => exact False.elim e
    | agn n r => exact False.elim e
    | exi n f => obtain ⟨v, h1, h2⟩ := okv e; exact ⟨v, _, _, h1, h2⟩
    | dis n a b => obtain ⟨v, h1, h2⟩ := okv e; exact ⟨v, _, _, h1, h2⟩
  · obtain ⟨v, h1, h2⟩ := okv e; exact ⟨v, _, _, h1, h2⟩
def CallOk (call : CallT) (callW : CallW) : Prop := ∀ g args h c r k, callW g args h c r k → ∃ v h' c' r', call g args h = .ok v h' ∧ k v h' c' r'
theorem eW_ok (hc : CallOk call callW) {o : EOp} {t : T} {h : Hp} {c : Nat} {r : Orc} {k : KR} (e : eW call callW o t h c r k) : ∃ v h' c' r', evE o call t h = .ok v h' ∧ k v h' c' r' := by
  have go : ∀ c r, goE callW o t h k c r → ∃ v h' c' r', evE o call t h = .ok v h' ∧ k v h' c' r' := by
    intro c r e
    cases o with
    | call f xs =>
      show ∃ v h' c' r', ((evX f t).asFunc RV.no fun g a b => call g (app a (app (evXs xs t) b)) h) = .ok v h' ∧ k v h' c' r'
      have e : (evX f t).asFunc False fun g a b => callW g (app a (app (evXs xs t) b)) h c r k := e
      unfold AV.asFunc at e ⊢
      cases hf : avF (evX f t) with
      | no => rw [hf] at e; exact e.elim
      | nil => rw [hf] at e; exact e.elim
      | other => rw [hf] at e; exact e.elim
      | fn g a b => rw [hf] at e; exact hc _ _ _ _ _ _ e
    | _ => obtain ⟨v, h', h1, h2⟩ := okr e; exact ⟨v, h', _, _, h1, h2⟩
  rcases step_ok (show step c r _ _ from e) with ⟨r, e⟩ | ⟨m, e⟩
  · cases r with
    | fin => exact go _ _ e
    | exi n f => exact go _ _ e
    | dis n a b => exact go _ _ e
    | eff n x h' r => exact ⟨x, h', _, _, e.1, e.2⟩
    | effx n x r => obtain ⟨w, h1, h2⟩ := e; exact ⟨x w, w.h, _, _, h1, h2⟩
    | _ => exact False.elim e
  · exact go _ _ e
theorem lW_ok {o : LOp} {t : T} {c : Nat} {r : Orc} {k : KL} (e : lW o t c r k) : ∃ m x c' r', evL o t = .ok m x ∧ k m x c' r' := by
  have go : ∀ c r, ((evL o t).cs False fun m x => k m x c r) → ∃ m x c' r', evL o t = .ok m x ∧ k m x c' r' := fun c r e => by
    cases hl : evL o t with
    | no => rw [hl] at e; exact e.elim
    | ok m x => rw [hl] at e; exact ⟨m, x, _, _, rfl, e⟩
  rcases step_ok (show step c r _ _ from e) with ⟨r, e⟩ | ⟨m, e⟩
  · cases r with
    | fin => exact go _ _ e
    | exi n f => exact go _ _ e
    | dis n a b => exact go _ _ e
    | ell n m x r => exact ⟨m, x, _, _, e.1, e.2⟩
    | _ => exact False.elim e
  · exact go _ _ e
theorem runW_ok (hc : CallOk call callW) {op : AOp} {d : Option Nat} {t : T} {h : Hp} {c : Nat} {r : Orc} {k : KT} (e : runW call callW op d t h c r k) : ∃ t' h' c' r', runA op d call t h = .ok t' h' ∧ k t' h' c' r' := by
  cases op with
  | q o =>
    obtain ⟨v, c', r', h1, h2⟩ := qW_ok (show qW o t h c r _ from e)
    refine ⟨_, _, c', r', ?_, h2⟩
    show (evQ o t h).then _ = _
    rw [h1]; rfl
  | l o =>
    obtain ⟨m, x, c', r', h1, h2⟩ := lW_ok (show lW o t c r _ from e)
    show ∃ t' h' c' r', ((evL o t).then fun m x => .ok (putT d (mkAt m h.next) t) (hpush h x)) = _ ∧ _
    rw [h1]; exact ⟨_, _, _, _, rfl, h2⟩
  | e o =>
    obtain ⟨v, h', c', r', h1, h2⟩ := eW_ok hc (show eW call callW o t h c r _ from e)
    refine ⟨_, _, c', r', ?_, h2⟩
    show (evE o call t h).then _ = _
    rw [h1]; rfl
theorem oW_ok (hc : CallOk call callW) {o : AO} {t : T} {h : Hp} {c : Nat} {r : Orc} {k : KT} (e : oW call callW o t h c r k) : ∃ t' h' c' r', evO call o t h = .ok t' h' ∧ k t' h' c' r' := by
  obtain ⟨dst, op, g⟩ := o
  cases g with
  | none => exact runW_ok hc e
  | some g =>
    have e : bc (wanted (some g) t) (runW call callW op dst t h c r k) (k (putT dst undef t) h c r) := e
    show ∃ t' h' c' r', bc (wanted (some g) t) (runA op dst call t h) (.ok (putT dst undef t) h) = .ok t' h' ∧ _
    cases hw : wanted (some g) t with
    | true => rw [hw] at e; exact runW_ok hc e
    | false => rw [hw] at e; exact ⟨_, _, _, _, rfl, e⟩
theorem osW_ok (hc : CallOk call callW) : ∀ (os : List AO) {t : T} {h : Hp} {c : Nat} {r : Orc} {k : KT}, osW call callW os t h c r k → ∃ t' h' c' r', evOs call os t h = .ok t' h' ∧ k t' h' c' r'
  | [], t, h, c, r, k, e => ⟨_, _, _, _, rfl, e⟩
  | o :: os, t, h, c, r, k, e => by
    obtain ⟨t1, h1, c1, r1, e1, e2⟩ := oW_ok hc (show oW call callW o t h c r (fun t h c r => osW call callW os t h c r k) from e)
    obtain ⟨t2, h2, c2, r2, e3, e4⟩ := osW_ok hc os e2
    refine ⟨t2, h2, c2, r2, ?_, e4⟩
    show (evO call o t h).then (evOs call os) = _
    rw [e1]; exact e3
theorem stageW_ok {o : AO} {hi : Nat} {t : T} {h : Hp} {ps : List PD} {c : Nat} {r : Orc} {k : KP} (e : stageW o hi t h ps c r k) :
    ∃ t' h' ps' c' r', (∀ kk : T → Hp → List PD → RT, stageO o hi t h ps kk = kk t' h' ps') ∧ k t' h' ps' c' r' := by
  unfold stageW at e
  unfold stageO
  cases hw : wanted o.guard t with
  | false => rw [hw] at e; exact ⟨_, _, _, _, _, fun _ => rfl, e⟩
  | true =>
    rw [hw] at e
    obtain ⟨dst, op, g⟩ := o
    cases op with
    | q f =>
      obtain ⟨v, c', r', h1, h2⟩ := qW_ok (show qW f t h c r _ from e)
      refine ⟨_, _, _, c', r', fun kk => ?_, h2⟩
      show (evQ f t h).then _ = _
      rw [h1]; rfl
    | l f =>
      obtain ⟨m, x, c', r', h1, h2⟩ := lW_ok (show lW f t c r _ from e)
      show ∃ t' h' ps' c' r', (∀ kk : T → Hp → List PD → RT, ((evL f t).then fun m x => kk (putT dst (mkAt m h.next) t) (hpush h x) ps) = kk t' h' ps') ∧ _
      rw [h1]; exact ⟨_, _, _, _, _, fun _ => rfl, h2⟩
    | e f => exact False.elim e
theorem stagesW_ok : ∀ (os : List (AO × Nat)) {t : T} {h : Hp} {ps : List PD} {c : Nat} {r : Orc} {k : KP}, stagesW os t h ps c r k →
    ∃ t' h' ps' c' r', (∀ kk : T → Hp → List PD → RT, stageOs os t h ps kk = kk t' h' ps') ∧ k t' h' ps' c' r'
  | [], t, h, ps, c, r, k, e => ⟨_, _, _, _, _, fun _ => rfl, e⟩
  | o :: os, t, h, ps, c, r, k, e => by
    obtain ⟨t1, h1, ps1, c1, r1, e1, e2⟩ := stageW_ok (show stageW o.1 o.2 t h ps c r (fun t h ps c r => stagesW os t h ps c r k) from e)
    obtain ⟨t2, h2, ps2, c2, r2, e3, e4⟩ := stagesW_ok os e2
    refine ⟨t2, h2, ps2, c2, r2, fun kk => ?_, e4⟩
    show stageO o.1 o.2 t h ps (fun t h ps => stageOs os t h ps kk) = _
    rw [e1, e3]
theorem bcF {b : Bool} {K : Prop} (h : bc b K False) : b = true ∧ K := by
  cases b with
  | true => exact ⟨rfl, h⟩
  | false => exact h.elim
mutual
theorem avC_ok : ∀ (v u : AV) {K : Prop}, avC v u K → avEq v u = true ∧ K
  | .bool b, u, K, e => by
    cases u <;> first | exact False.elim e | skip
    exact bcF e
  | .int k n, u, K, e => by
    cases u <;> first | exact False.elim e | skip
    rename_i k' m
    obtain ⟨h1, rfl, h3⟩ := bcF (show bc (ikEq k k') (n = m ∧ K) False from e)
    refine ⟨?_, h3⟩
    show bc (ikEq k k') (eqI n n) false = true
    rw [h1, eqI_eq]; simp
  | .str s, u, K, e => by
    cases u <;> first | exact False.elim e | skip
    obtain ⟨rfl, h⟩ := (show s = _ ∧ K from e)
    refine ⟨?_, h⟩
    show strEq s s = true
    rw [strEq_iff]; simp
  | .nilPtr, u, K, e => by cases u <;> first | exact ⟨rfl, e⟩ | exact False.elim e
  | .ptr b o, u, K, e => by
    cases u <;> first | exact False.elim e | skip
    rename_i b' o'
    obtain ⟨h1, e⟩ := bcF (show bc (Nat.beq b b') (bc (Nat.beq o o') K False) False from e)
    obtain ⟨h2, e⟩ := bcF e
    refine ⟨?_, e⟩
    show bc (Nat.beq b b') (Nat.beq o o') false = true
    rw [h1, h2]; rfl
  | .nilSlice, u, K, e => by cases u <;> first | exact ⟨rfl, e⟩ | exact False.elim e
  | .slice b o l c s x, u, K, e => by
    cases u <;> first | exact False.elim e | skip
    rename_i b' o' l' c' s' x'
    obtain ⟨h1, e⟩ := bcF (show bc (Nat.beq b b') (bc (Nat.beq o o') (bc (Nat.beq l l') (bc (Nat.beq c c') (bc (Nat.beq s s') (bc (bc x x' (notB x')) K False) False) False) False) False) False from e)
    obtain ⟨h2, e⟩ := bcF e
    obtain ⟨h3, e⟩ := bcF e
    obtain ⟨h4, e⟩ := bcF e
    obtain ⟨h5, e⟩ := bcF e
    obtain ⟨h6, e⟩ := bcF e
    refine ⟨?_, e⟩
    show bc (Nat.beq b b') (bc (Nat.beq o o') (bc (Nat.beq l l') (bc (Nat.beq c c') (bc (Nat.beq s s') (bc x x' (notB x')) false) false) false) false) false = true
    rw [h1, h2, h3, h4, h5, h6]; rfl
  | .nilMap, u, K, e => by cases u <;> first | exact ⟨rfl, e⟩ | exact False.elim e
  | .map b, u, K, e => by
    cases u <;> first | exact False.elim e | skip
    exact bcF e
  | .func fn a b, u, K, e => by
    have e : (fnView fn a b).cs False False (fun f _ _ => (avF u).cs False False (fun f' a' b' => bc (Nat.beq f f') (avCs a a' (avCs b b' K)) False) False) False := e
    show (fnView fn a b).cs false false (fun f _ _ => (avF u).cs false false (fun f' a' b' => bc (Nat.beq f f') (bc (avEqs a a') (avEqs b b') false) false) false) false = true ∧ K
    cases hf : fnView fn a b with
    | no => rw [hf] at e; exact False.elim e
    | nil => rw [hf] at e; exact False.elim e
    | other => rw [hf] at e; exact False.elim e
    | fn f x y =>
      rw [hf] at e
      cases hu : avF u with
      | no => rw [hu] at e; exact False.elim e
      | nil => rw [hu] at e; exact False.elim e
      | other => rw [hu] at e; exact False.elim e
      | fn f' a' b' =>
        rw [hu] at e
        obtain ⟨h1, e⟩ := bcF (show bc (Nat.beq f f') (avCs a a' (avCs b b' K)) False from e)
        obtain ⟨h2, e⟩ := avCs_ok a a' e
        obtain ⟨h3, e⟩ := avCs_ok b b' e
        refine ⟨?_, e⟩
        show bc (Nat.beq f f') (bc (avEqs a a') (avEqs b b') false) false = true
        rw [h1, h2, h3]; rfl
  | .nilFunc, u, K, e => by
    have e : (avF u).cs False K (fun _ _ _ => False) False := e
    show (avF u).cs false true (fun _ _ _ => false) false = true ∧ K
    cases hu : avF u with
    | nil => rw [hu] at e; exact ⟨rfl, e⟩
    | _ => rw [hu] at e; exact False.elim e
  | .iface t v, u, K, e => by
    cases u <;> first | exact False.elim e | skip
    rename_i t' w
    obtain ⟨h1, e⟩ := bcF (show bc (Nat.beq t t') (avC v w K) False from e)
    obtain ⟨h2, e⟩ := avC_ok v w e
    refine ⟨?_, e⟩
    show bc (Nat.beq t t') (avEq v w) false = true
    rw [h1, h2]; rfl
  | .nilIface, u, K, e => by cases u <;> first | exact ⟨rfl, e⟩ | exact False.elim e
  | .agg l, u, K, e => by
    cases u <;> first | exact False.elim e | skip
    exact avCs_ok l _ e
  | .tuple l, u, K, e => by
    cases u <;> first | exact False.elim e | skip
    exact avCs_ok l _ e
theorem avCs_ok : ∀ (l m : List AV) {K : Prop}, avCs l m K → avEqs l m = true ∧ K
  | [], m, K, e => by
    cases m with
    | nil => exact ⟨rfl, e⟩
    | cons _ _ => exact False.elim e
  | a :: l, m, K, e => by
    cases m with
    | nil => exact False.elim e
    | cons b m =>
      obtain ⟨h1, e⟩ := avC_ok a b (show avC a b (avCs l m K) from e)
      obtain ⟨h2, e⟩ := avCs_ok l m e
      refine ⟨?_, e⟩
      show bc (avEq a b) (avEqs l m) false = true
      rw [h1, h2]; rfl
end
theorem agnP_ok : ∀ {ps : List PD} {n : Nat} {h : Hp} {K : Prop}, agnP ps n h K → readAgain ps n h = true ∧ K
  | [], n, h, K, e => ⟨rfl, e⟩
  | p :: ps, n, h, K, e => by
    have e : bc (Nat.blt p.hi n) (agnP ps n h K) ((evQ p.o p.t h).cs False fun v => avC p.v v (agnP ps n h K)) := e
    show bc (bc (Nat.blt p.hi n) true (again p.o p.t p.v h)) (readAgain ps n h) false = true ∧ K
    cases hb : Nat.blt p.hi n with
    | true => rw [hb] at e; exact agnP_ok e
    | false =>
      rw [hb] at e
      obtain ⟨v, h1, h2⟩ := okv (show (evQ p.o p.t h).cs False (fun v => avC p.v v (agnP ps n h K)) from e)
      obtain ⟨h3, h4⟩ := avC_ok _ _ h2
      obtain ⟨h5, h6⟩ := agnP_ok h4
      refine ⟨?_, h6⟩
      show bc ((evQ p.o p.t h).cs false fun v' => avEq p.v v') (readAgain ps n h) false = true
      rw [h1]
      show bc (avEq p.v v) (readAgain ps n h) false = true
      rw [h3, h5]; rfl
theorem againW_ok : ∀ {ps : List PD} {n : Nat} {h : Hp}, againW ps n h → readAgain ps n h = true
  | [], n, h, _ => rfl
  | p :: ps, n, h, e => by
    have e : bc (Nat.blt p.hi n) (againW ps n h) (again p.o p.t p.v h = true ∧ againW ps n h) := e
    show bc (bc (Nat.blt p.hi n) true (again p.o p.t p.v h)) (readAgain ps n h) false = true
    cases hb : Nat.blt p.hi n with
    | true => rw [hb] at e; exact againW_ok e
    | false =>
      rw [hb] at e
      show bc (again p.o p.t p.v h) (readAgain ps n h) false = true
      rw [e.1]; exact againW_ok e.2
theorem dsW_ok (hc : CallOk call callW) : ∀ (l : List DS) {n : Nat} {t : T} {h : Hp} {ps : List PD} {c : Nat} {r : Orc} {k : KT}, dsW call callW l n t h ps c r k →
    ∃ t' h' c' r', evDs call l n t h ps = .ok t' h' ∧ k t' h' c' r'
  | [], n, t, h, ps, c, r, k, e => False.elim e
  | s :: l, n, t, h, ps, c, r, k, e => by
    obtain ⟨t1, h1, ps1, c1, r1, e1, e2⟩ := stagesW_ok s.os (show stagesW s.os t h ps c r _ from e)
    have go : ∀ c r, readAgain ps1 n h1 = true → (ocase (k t1 h1 c r) (fun e => oW call callW e t1 h1 c r fun t h c r => dsW call callW l (Nat.succ n) t h ps1 c r k) s.e : Prop) →
        ∃ t' h' c' r', evDs call (s :: l) n t h ps = .ok t' h' ∧ k t' h' c' r' := by
      intro c r hr e
      have key : evDs call (s :: l) n t h ps = ocase (.ok t1 h1) (fun e => (evO call e t1 h1).then fun t h => evDs call l (Nat.succ n) t h ps1) s.e := by
        show stageOs s.os t h ps _ = _
        rw [e1]
        show bc (readAgain ps1 n h1) _ _ = _
        rw [hr]; rfl
      rw [key]
      cases hs : s.e with
      | none => rw [hs] at e; exact ⟨_, _, _, _, rfl, e⟩
      | some e' =>
        rw [hs] at e
        obtain ⟨t2, h2, c2, r2, e3, e4⟩ := oW_ok hc (show oW call callW e' t1 h1 c r _ from e)
        obtain ⟨t3, h3, c3, r3, e5, e6⟩ := dsW_ok hc l e4
        refine ⟨t3, h3, c3, r3, ?_, e6⟩
        show (evO call e' t1 h1).then _ = _
        rw [e3]; exact e5
    have hbc : ∀ {b : Bool} {p : Prop}, bc b p False → b = true ∧ p := by
      intro b p e
      cases b with
      | true => exact ⟨rfl, e⟩
      | false => exact False.elim e
    rcases step_ok e2 with ⟨r1, e2⟩ | ⟨m, e2⟩
    · cases r1 with
      | fin => obtain ⟨hr, e3⟩ := hbc e2; exact go _ _ hr e3
      | exi n f => obtain ⟨hr, e3⟩ := hbc e2; exact go _ _ hr e3
      | dis n a b => obtain ⟨hr, e3⟩ := hbc e2; exact go _ _ hr e3
      | again n' r' => exact go _ _ (againW_ok e2.1) e2.2
      | agn n' r' => exact go _ _ (agnP_ok e2).1 (agnP_ok e2).2
      | _ => exact False.elim e2
    · obtain ⟨hr, e3⟩ := hbc e2; exact go _ _ hr e3
theorem oks {s : RS} {a : T → Hp → Prop} {b : Nat → T → Hp → Prop} {d : T → Hp → Prop} (e : s.cs False a b d) : s ≠ .no := by
  rintro rfl; exact e
def CodeOk (res : T → Hp → RS) (w : CodeW) : Prop := ∀ t h c r k, w t h c r k → ∃ s c' r', res t h = s ∧ s ≠ .no ∧ k s c' r'
theorem cW_ok (hc : CallOk call callW) : ∀ (a : AC), CodeOk (evC call N a) (cW call callW N a)
  | .skip => fun t h c r k e => ⟨_, c, r, rfl, nofun, e⟩
  | .region os => fun t h c r k e => by
    obtain ⟨t1, h1, c1, r1, e1, e2⟩ := osW_ok hc os (show osW call callW os t h c r _ from e)
    refine ⟨.nor t1 h1, c1, r1, ?_, nofun, e2⟩
    show (evOs call os t h).done = _
    rw [e1]; rfl
  | .drawn l => fun t h c r k e => by
    obtain ⟨t1, h1, c1, r1, e1, e2⟩ := dsW_ok hc l (show dsW call callW l 0 t h [] c r _ from e)
    refine ⟨.nor t1 h1, c1, r1, ?_, nofun, e2⟩
    show (evDs call l 0 t h []).done = _
    rw [e1]; rfl
  | .seq a b => fun t h c r k e => by
    obtain ⟨s, c1, r1, e1, e2, e3⟩ := cW_ok hc a t h c r _ (show cW call callW N a t h c r (fun s c r => s.cs False (fun t h => cW call callW N b t h c r k) (fun i t h => k (.exit i t h) c r) (fun t h => k (.ret t h) c r)) from e)
    show ∃ s c' r', (evC call N a t h).then (evC call N b) = s ∧ _
    rw [e1]
    cases s with
    | no => exact False.elim e3
    | nor t1 h1 => exact cW_ok hc b t1 h1 c1 r1 k e3
    | exit i t1 h1 => exact ⟨_, c1, r1, rfl, nofun, e3⟩
    | ret t1 h1 => exact ⟨_, c1, r1, rfl, nofun, e3⟩
  | .cond x a b => fun t h c r k e => by
    obtain ⟨v, hv, e1⟩ := okb (show (avB (evX x t)).cs False (fun b' => bc b' (cW call callW N a t h c r k) (cW call callW N b t h c r k)) from e)
    show ∃ s c' r', (evX x t).asBool RS.no (fun b' => bc b' (evC call N a t h) (evC call N b t h)) = s ∧ _
    rw [hv]
    cases v with
    | true => exact cW_ok hc a t h c r k e1
    | false => exact cW_ok hc b t h c r k e1
  | .block i a => fun t h c r k e => by
    obtain ⟨s, c1, r1, e1, e2, e3⟩ := cW_ok hc a t h c r _ (show cW call callW N a t h c r _ from e)
    show ∃ s c' r', (evC call N a t h).block i = s ∧ _
    rw [e1]
    cases s with
    | no => exact False.elim e3
    | nor t1 h1 => exact ⟨_, c1, r1, rfl, nofun, e3⟩
    | ret t1 h1 => exact ⟨_, c1, r1, rfl, nofun, e3⟩
    | exit j t1 h1 =>
      have e3 : bc (Nat.beq j i) (k (.nor t1 h1) c1 r1) (k (.exit j t1 h1) c1 r1) := e3
      show ∃ s c' r', bc (Nat.beq j i) (RS.nor t1 h1) (.exit j t1 h1) = s ∧ _
      cases hb : Nat.beq j i with
      | true => rw [hb] at e3; exact ⟨_, c1, r1, rfl, nofun, e3⟩
      | false => rw [hb] at e3; exact ⟨_, c1, r1, rfl, nofun, e3⟩
  | .loop a => fun t h c r k e => by
    have go : ∀ c r, goL (cW call callW N a) N k t h c r → ∃ s c' r', evC call N (.loop a) t h = s ∧ s ≠ .no ∧ k s c' r' := by
      intro c r e
      show ∃ s c' r', rounds (fun _ _ => RS.no) (fun again t h => (evC call N a t h).then again) N t h = s ∧ _
      have key : ∀ (j : Nat) (t : T) (h : Hp) (c : Nat) (r : Orc), goL (cW call callW N a) j k t h c r →
        ∃ s c' r', rounds (fun _ _ => RS.no) (fun again t h => (evC call N a t h).then again) j t h = s ∧ s ≠ .no ∧ k s c' r' := by
        intro j
        induction j with
        | zero => exact fun t h c r e => False.elim e
        | succ j ih =>
          intro t h c r e
          obtain ⟨s, c1, r1, e1, e2, e3⟩ := cW_ok hc a t h c r _ (show cW call callW N a t h c r _ from e)
          show ∃ s c' r', (evC call N a t h).then (rounds (fun _ _ => RS.no) (fun again t h => (evC call N a t h).then again) j) = s ∧ _
          rw [e1]
          cases s with
          | no => exact False.elim e3
          | nor t1 h1 => exact ih t1 h1 c1 r1 e3
          | exit i t1 h1 => exact ⟨_, c1, r1, rfl, nofun, e3⟩
          | ret t1 h1 => exact ⟨_, c1, r1, rfl, nofun, e3⟩
      exact key N t h c r e
    rcases step_ok (show step c r _ _ from e) with ⟨r, e⟩ | ⟨m, e⟩
    · cases r with
      | fin => exact go _ _ e
      | exi n f => exact go _ _ e
      | dis n a b => exact go _ _ e
      | lp n s r => exact ⟨s, _, _, e.1, oks e.2.1, e.2.2⟩
      | lpx n s r => obtain ⟨w, h1, h2, h3⟩ := e; exact ⟨s w, _, _, h1, oks h2, h3⟩
      | _ => exact False.elim e
    · exact go _ _ e
  | .exit i => fun t h c r k e => ⟨_, c, r, rfl, nofun, e⟩
  | .ret => fun t h c r k e => ⟨_, c, r, rfl, nofun, e⟩
  | .fail w => fun t h c r k e => False.elim e
theorem f1W_ok (hc : CallOk call callW) {S : Nat → Option AF} : CallOk (evF1 S N call) (f1W S N call callW) := fun f args h c r k e => by
  have e : (ocase False (fun fn => bc (Nat.ble (len args) fn.ntmps) (cW call callW N fn.body (frame0 args) h c r fun s c r => s.cs False (fun t h => resW fn.results t h c r k) (fun _ _ _ => False) (fun t h => resW fn.results t h c r k)) False) (S f) : Prop) := e
  show ∃ v h' c' r', ocase RV.no (fun fn => bc (Nat.ble (len args) fn.ntmps) (finish fn.results (evC call N fn.body (frame0 args) h)) .no) (S f) = .ok v h' ∧ _
  cases hf : S f with
  | none => rw [hf] at e; exact False.elim e
  | some fn =>
    rw [hf] at e
    have e : bc (Nat.ble (len args) fn.ntmps) (cW call callW N fn.body (frame0 args) h c r fun s c r => s.cs False (fun t h => resW fn.results t h c r k) (fun _ _ _ => False) (fun t h => resW fn.results t h c r k)) False := e
    show ∃ v h' c' r', bc (Nat.ble (len args) fn.ntmps) (finish fn.results (evC call N fn.body (frame0 args) h)) .no = .ok v h' ∧ _
    cases hb : Nat.ble (len args) fn.ntmps with
    | false => rw [hb] at e; exact False.elim e
    | true =>
      rw [hb] at e
      obtain ⟨s, c1, r1, e1, e2, e3⟩ := cW_ok hc fn.body (frame0 args) h c r _ e
      show ∃ v h' c' r', finish fn.results (evC call N fn.body (frame0 args) h) = .ok v h' ∧ _
      rw [e1]
      cases s with
      | no => exact False.elim e3
      | exit i t1 h1 => exact False.elim e3
      | nor t1 h1 => obtain ⟨v, h', h2, h3⟩ := okr e3; exact ⟨v, h', _, _, h2, h3⟩
      | ret t1 h1 => obtain ⟨v, h', h2, h3⟩ := okr e3; exact ⟨v, h', _, _, h2, h3⟩
end
section
variable {P : Program}
end
end Eng
end
section
set_option linter.unusedVariables false
set_option linter.unusedSimpArgs false
namespace Eng
open Go Go.RowKit
noncomputable def ovT (l : List (Nat × AV)) (t : T) : T := lrec t (fun p _ ih => tset (pathOf p.1) p.2 ih) l
noncomputable def slots (L : List Nat) (t : T) : List (Option AV) := lmap (fun i => tget (pathOf i) t) L
def Has (l : List (Nat × AV)) (t : T) : Prop := slots (l.map (·.1)) t = l.map fun p => some p.2
theorem tset_same {α : Type} : ∀ {p : Pth} {v : α} {t : Tr α}, tget p t = some v → tset p v t = t
  | .e, v, t, h => by
    cases t with
    | lf => cases h
    | nd a l r =>
      have h : a = some v := h
      subst h; rfl
  | .l p, v, t, h => by
    cases t with
    | lf =>
      have h : tget p (.lf : Tr α) = some v := h
      rw [tget_lf] at h; cases h
    | nd a l r =>
      show Tr.nd a (tset p v l) r = _
      rw [tset_same (show tget p l = some v from h)]
  | .r p, v, t, h => by
    cases t with
    | lf =>
      have h : tget p (.lf : Tr α) = some v := h
      rw [tget_lf] at h; cases h
    | nd a l r =>
      show Tr.nd a l (tset p v r) = _
      rw [tset_same (show tget p r = some v from h)]
theorem ovT_eq : ∀ {l : List (Nat × AV)} {t : T}, Has l t → ovT l t = t
  | [], t, _ => rfl
  | p :: l, t, h => by
    obtain ⟨h1, h2⟩ := List.cons.inj (show tget (pathOf p.1) t :: slots (l.map (·.1)) t = some p.2 :: l.map (fun p => some p.2) from h)
    show tset (pathOf p.1) p.2 (ovT l t) = t
    rw [ovT_eq (show Has l t from h2)]
    exact tset_same h1
noncomputable def obsS (L : List Nat) (Kn : List (Option AV) → Hp → Prop) (Ke : Nat → List (Option AV) → Hp → Prop) (Kr : List (Option AV) → Hp → Prop) (s : RS) : Prop :=
  s.cs False (fun t h => Kn (slots L t) h) (fun i t h => Ke i (slots L t) h) (fun t h => Kr (slots L t) h)
theorem CallOk.none (call : CallT) : CallOk call (fun _ _ _ _ _ _ => False) := fun _ _ _ _ _ _ h => h.elim
theorem walk_ok {call : CallT} {N : Nat} {c : AC} {t : T} {h : Hp} {o : Orc} {L : List Nat} {Kn : List (Option AV) → Hp → Prop} {Ke : Nat → List (Option AV) → Hp → Prop} {Kr : List (Option AV) → Hp → Prop} {p : Prop}
    (e : cW call (fun _ _ _ _ _ _ => False) N c t h o.n o (fun s _ _ => obsS L Kn Ke Kr s) = p) (hp : p) : ∃ s, evC call N c t h = s ∧ obsS L Kn Ke Kr s := by
  rw [← e] at hp
  obtain ⟨s, _, _, h1, _, h3⟩ := cW_ok (CallOk.none call) c t h _ _ _ hp
  exact ⟨s, h1, h3⟩
theorem fwalk_ok {call : CallT} {S : Nat → Option AF} {N : Nat} {f : Nat} {args : List AV} {h : Hp} {o : Orc} {K : AV → Hp → Prop} {p : Prop}
    (e : f1W S N call (fun _ _ _ _ _ _ => False) f args h o.n o (fun v h _ _ => K v h) = p) (hp : p) : ∃ v h', evF1 S N call f args h = .ok v h' ∧ K v h' := by
  rw [← e] at hp
  obtain ⟨v, h', _, _, h1, h3⟩ := f1W_ok (CallOk.none call) f args h _ _ _ hp
  exact ⟨v, h', h1, h3⟩
theorem loop_ok {call : CallT} {N : Nat} {body : AC} (L : List Nat) (Inv : Nat → List (Option AV) → Hp → Prop) (Ke : Nat → List (Option AV) → Hp → Prop) (Kr : List (Option AV) → Hp → Prop)
    (step : ∀ n t h, Inv n (slots L t) h → ∃ s, evC call N body t h = s ∧ obsS L (fun l h' => ∃ m, m < n ∧ Inv m l h') Ke Kr s) (n : Nat) (hn : n < N) (t : T) (h : Hp) (h0 : Inv n (slots L t) h) :
    ∃ s, evC call N (.loop body) t h = s ∧ obsS L (fun _ _ => False) Ke Kr s := by
  show ∃ s, rounds (fun _ _ => RS.no) (fun again t h => (evC call N body t h).then again) N t h = s ∧ obsS L (fun _ _ => False) Ke Kr s
  have key : ∀ (j n : Nat), n < j → ∀ t h, Inv n (slots L t) h → ∃ s, rounds (fun _ _ => RS.no) (fun again t h => (evC call N body t h).then again) j t h = s ∧ obsS L (fun _ _ => False) Ke Kr s := by
    intro j
    induction j with
    | zero => exact fun n hn => absurd hn (Nat.not_lt_zero _)
    | succ j ih =>
      intro n hn t h hi
      obtain ⟨s, e, hs⟩ := step n t h hi
      show ∃ s, (evC call N body t h).then (rounds (fun _ _ => RS.no) (fun again t h => (evC call N body t h).then again) j) = s ∧ _
      rw [e]
      cases s with
      | no => exact hs.elim
      | nor t' h' =>
        obtain ⟨m, hm, hi'⟩ := (show ∃ m, m < n ∧ Inv m (slots L t') h' from hs)
        exact ih m (by omega) t' h' hi'
      | exit i t' h' => exact ⟨_, rfl, hs⟩
      | ret t' h' => exact ⟨_, rfl, hs⟩
  exact key N n hn t h h0
theorem ltI_t {a b : Nat} (h : ltI (.ofNat a) (.ofNat b) = true) : a < b := by rw [ltI_eq] at h; simpa using h
theorem ltI_f {a b : Nat} (h : ltI (.ofNat a) (.ofNat b) = false) : b ≤ a := by rw [ltI_eq] at h; simpa using h
theorem eqI_t {a b : Nat} (h : eqI (.ofNat a) (.ofNat b) = true) : a = b := by rw [eqI_eq] at h; have h := eq_of_beq h; exact Int.ofNat.inj h
theorem eqI_f {a b : Nat} (h : eqI (.ofNat a) (.ofNat b) = false) : a ≠ b := fun e => by subst e; rw [eqI_eq] at h; simp at h
theorem notB_t {b : Bool} (h : notB b = true) : b = false := by cases b <;> first | rfl | cases h
theorem notB_f {b : Bool} (h : notB b = false) : b = true := by cases b <;> first | rfl | cases h
theorem wrap_i64 {n : Nat} (h : n < 9223372036854775808) : wrapA .i64 (.ofNat n) = .ofNat n := by
  show bc (Nat.blt n 9223372036854775808) (Int.ofNat n) _ = _
  rw [blt_dec, decide_eq_true h]; rfl
theorem wrapU_nat (m n : Nat) : wrapU m (.ofNat n) = .ofNat (n % m) := by
  show bc (Nat.blt n m) (Int.ofNat n) (.ofNat (Nat.mod n m)) = _
  rw [bc_blt]
  split
  · rw [Nat.mod_eq_of_lt ‹_›]
  · rfl
def uns (k : IntKind) : Bool := match k with | .u8 | .u16 | .u32 | .u64 => true | _ => false
theorem wrap_u {k : IntKind} (hk : uns k = true) (n : Nat) : wrapA k (.ofNat n) = .ofNat (n % modK k) := by
  cases k <;> first | exact wrapU_nat _ _ | cases hk
theorem ikEq_self (k : IntKind) : ikEq k k = true := by cases k <;> rfl
theorem q_add {a b : Nat} (h : a + b < 9223372036854775808) : evQ (.bin .add (.const (.int .i64 (.ofNat a))) (.const (.int .i64 (.ofNat b)))) .lf H0 = .ok (.int .i64 (.ofNat (a + b))) := by
  show OV.ok (.int .i64 (wrapA .i64 (.ofNat (a + b)))) = _
  rw [wrap_i64 h]
theorem sub_nat {a b : Nat} (h : b ≤ a) : Int.sub (.ofNat a) (.ofNat b) = .ofNat (a - b) := by
  show (Int.ofNat a - Int.ofNat b : Int) = _
  simp only [Int.ofNat_eq_natCast]; omega
theorem q_sub {a b : Nat} (h : b ≤ a) (ha : a < 9223372036854775808) : evQ (.bin .sub (.const (.int .i64 (.ofNat a))) (.const (.int .i64 (.ofNat b)))) .lf H0 = .ok (.int .i64 (.ofNat (a - b))) := by
  show OV.ok (.int .i64 (wrapA .i64 (Int.sub (.ofNat a) (.ofNat b)))) = _
  rw [sub_nat h, wrap_i64 (by omega)]
theorem u_add {k : IntKind} (hk : uns k = true) {a b : Nat} : evQ (.bin .add (.const (.int k (.ofNat a))) (.const (.int k (.ofNat b)))) .lf H0 = .ok (.int k (.ofNat ((a + b) % modK k))) := by
  show bc (ikEq k k) (okI k (.ofNat (a + b))) .no = _
  rw [ikEq_self]; show OV.ok (.int k (wrapA k (.ofNat (a + b)))) = _
  rw [wrap_u hk]
theorem u_conv {k : IntKind} (hk : uns k = true) {j : IntKind} {a : Nat} : evQ (.toInt k (.const (.int j (.ofNat a)))) .lf H0 = .ok (.int k (.ofNat (a % modK k))) := by
  show OV.ok (.int k (wrapA k (.ofNat a))) = _
  rw [wrap_u hk]
noncomputable def elemP (v : AV) (k sz : Nat) : AV := v.asSlice .nilPtr .nilPtr fun b o _ _ _ _ => .ptr b (o + k * sz)
noncomputable def partS (v : AV) (lo hi : Nat) : AV := v.asSlice v v fun b o _ c s e => .slice b (o + lo * s) (hi - lo) (c - lo) s e
theorem q_idx {b o n c sz k : Nat} {ex : Bool} (h : k < n) : evQ (.idxAddrSl sz (.const (.slice b o n c sz ex)) (.const (.int .i64 (.ofNat k)))) .lf H0 = .ok (.ptr b (o + k * sz)) := by
  show bc (Nat.beq sz sz) (bc (Nat.blt k n) (OV.ok (.ptr b (o + k * sz))) .no) .no = _
  rw [Nat.beq_refl, blt_dec, decide_eq_true h]; rfl
theorem q_load {h : Hp} {b o : Nat} {cs : List AV} {m : Nat} {w : Own} (hg : hget h b = some (.cells cs m w)) {v : AV} (hv : cs[o]? = some v) : evQ (.loadS (.const (.ptr b o))) .lf h = .ok v := by
  show hcells h b OV.no (fun cs _ _ => ocase .no .ok (nth? cs o)) = _
  unfold hcells
  rw [hg]
  show ocase OV.no .ok (nth? cs o) = _
  rw [nth_eq, hv]; rfl
theorem u8s_eq (l : List Nat) : u8s l = l.map fun n => AV.int .u8 (.ofNat n) := lmap_eq _ _
abbrev vi (n : Nat) : AV := .int .i64 (.ofNat n)
abbrev vb8 (n : Nat) : AV := .int .u8 (.ofNat n)
abbrev vw (n : Nat) : AV := .int .u32 (.ofNat n)
abbrev vq (n : Nat) : AV := .int .u64 (.ofNat n)
end Eng
end
section
set_option linter.unusedVariables false
set_option linter.unusedSimpArgs false
namespace Eng
open Go Go.RowKit
structure Old (B : Nat) (h h' : Hp) : Prop where
  next : h.next ≤ h'.next
  get : ∀ b, b < B → hget h' b = hget h b
theorem Old.refl (B : Nat) (h : Hp) : Old B h h := ⟨Nat.le_refl _, fun _ _ => rfl⟩
theorem Old.trans {B : Nat} {h h' h'' : Hp} (a : Old B h h') (b : Old B h' h'') : Old B h h'' := ⟨Nat.le_trans a.next b.next, fun k hk => (b.get k hk).trans (a.get k hk)⟩
theorem Old.le {B C : Nat} {h h' : Hp} (a : Old B h h') (hc : C ≤ B) : Old C h h' := ⟨a.next, fun k hk => a.get k (by omega)⟩
theorem Old.push {B : Nat} {h : Hp} (hB : B ≤ h.next) (x : Blk) : Old B h (hpush h x) := ⟨Nat.le_succ _, fun k hk => hget_hpush_ne h x (by omega)⟩
theorem Old.set {B b : Nat} {h : Hp} (hB : B ≤ b) (x : Blk) : Old B h (hset h b x) := ⟨Nat.le_refl _, fun k hk => hget_hset_ne h x (by omega)⟩
inductive Owned (sz B : Nat) (h : Hp) : AV → Nat → List AV → Prop
  | nil : Owned sz B h .nilSlice 0 []
  | sl {b n : Nat} {ex : Bool} {w : Own} {L : List AV} (hB : B ≤ b) (hb : b < h.next) (hg : hget h b = some (.cells L (n * sz) w)) (hl : L.length = n * sz) (hw : w = .solo ∨ ∃ p, w = .pair p ∧ (B ≤ p ∧ p < h.next) ∧ p ≠ b) :
    Owned sz B h (.slice b 0 n n sz ex) n L
theorem Owned.push {sz B : Nat} {h : Hp} {s : AV} {n : Nat} {L : List AV} (o : Owned sz B h s n L) (x : Blk) : Owned sz B (hpush h x) s n L := by
  cases o with
  | nil => exact .nil
  | sl hB hb hg hl hw => exact .sl hB (by rw [hpush_next]; omega) (by rw [hget_hpush_ne h x (by omega)]; exact hg) hl (hw.imp id fun ⟨p, h1, h2, h3⟩ => ⟨p, h1, ⟨h2.1, by rw [hpush_next]; omega⟩, h3⟩)
theorem Owned.low {sz B C : Nat} {h : Hp} {s : AV} {n : Nat} {L : List AV} (o : Owned sz B h s n L) (hc : C ≤ B) : Owned sz C h s n L := by
  cases o with
  | nil => exact .nil
  | sl hB hb hg hl hw => exact .sl (by omega) hb hg hl (by rcases hw with h | ⟨p, h1, h2, h3⟩; exact .inl h; exact .inr ⟨p, h1, by omega, h3⟩)
theorem Owned.old {sz B C : Nat} {h h' : Hp} {s : AV} {n : Nat} {L : List AV} (o : Owned sz B h s n L) (a : Old C h h') (hc : h.next ≤ C) : Owned sz B h' s n L := by
  cases o with
  | nil => exact .nil
  | sl hB hb hg hl hw => exact .sl hB (by have := a.next; omega) (by rw [a.get _ (by omega)]; exact hg) hl (hw.imp id fun ⟨p, h1, h2, h3⟩ => ⟨p, h1, ⟨h2.1, by have := a.next; omega⟩, h3⟩)
theorem Owned.blk {sz B : Nat} {h : Hp} {s : AV} {n : Nat} {L : List AV} (o : Owned sz B h s n L) : ∀ b o' l c z ex, s = .slice b o' l c z ex → b < h.next := by
  cases o with
  | nil => intro b o' l c z ex e; cases e
  | sl hB hb hg hl hw => intro b o' l c z ex e; cases e; exact hb
theorem Owned.len {sz B n : Nat} {h : Hp} {v : AV} {L : List AV} (o : Owned sz B h v n L) : L.length = n * sz := by
  cases o with
  | nil => simp
  | sl hB hb hg hl hw => exact hl
theorem rdN_of {β : Type} {h : Hp} {b o n m : Nat} {cs : List AV} {w : Own} {z : β} {k : List AV → β} (hg : hget h b = some (.cells cs m w)) (hm : o + n ≤ m) (hc : cs.length = m) : rdN h b o n z k = k ((cs.drop o).take n) := by
  show hcells h b z _ = _
  unfold hcells
  rw [hg]
  show bc (Nat.ble (o + n) m) (k (part cs m o n)) z = _
  rw [ble_dec, decide_eq_true hm, part_eq hc hm]; rfl
inductive Bytes (B : Nat) (h : Hp) : AV → List Nat → Prop
  | nil : Bytes B h .nilSlice []
  | sl {b o c : Nat} {ex : Bool} {cs : List AV} {m : Nat} {w : Own} {l : List Nat} (hB : b < B) (hg : hget h b = some (.cells cs m w)) (hcl : cs.length = m) (hl : (cs.drop o).take l.length = u8s l) (hm : o + l.length ≤ m) (hc : l.length ≤ c) (hb : ∀ x ∈ l, x < 256) :
    Bytes B h (.slice b o l.length c 1 ex) l
theorem Bytes.lt {B : Nat} {h : Hp} {v : AV} {l : List Nat} (o : Bytes B h v l) : ∀ x ∈ l, x < 256 := by
  cases o with
  | nil => simp
  | sl hB hg hcl hl hm hc hb => exact hb
theorem Owned.bytes {B C : Nat} {h : Hp} {s : AV} {n : Nat} {l : List Nat} (o : Owned 1 B h s n (u8s l)) (hb : ∀ x ∈ l, x < 256) (hC : h.next ≤ C) : Bytes C h s l := by
  generalize hL : u8s l = L at o
  cases o with
  | nil =>
    cases l with
    | nil => exact .nil
    | cons x l => cases hL
  | @sl b n ex w L hB hb' hg hl hw =>
    subst hL
    have hn : l.length = n := by rw [u8s_length] at hl; omega
    subst hn
    exact .sl (by omega) hg hl (by rw [List.drop_zero, List.take_of_length_le (by rw [u8s_length]; omega)]) (by omega) (Nat.le_refl _) hb
theorem Bytes.old {B : Nat} {h h' : Hp} {v : AV} {l : List Nat} (o : Bytes B h v l) (a : Old B h h') : Bytes B h' v l := by
  cases o with
  | nil => exact .nil
  | sl hB hg hcl hl hm hc hb => exact .sl hB (by rw [a.get _ hB]; exact hg) hcl hl hm hc hb
theorem Bytes.up {B C : Nat} {h : Hp} {v : AV} {l : List Nat} (o : Bytes B h v l) (hC : B ≤ C) : Bytes C h v l := by
  cases o with
  | nil => exact .nil
  | sl hB hg hcl hl hm hc hb => exact .sl (by omega) hg hcl hl hm hc hb
theorem Bytes.part {B : Nat} {h : Hp} {v : AV} {l : List Nat} (o : Bytes B h v l) {lo hi : Nat} (h1 : lo ≤ hi) (h2 : hi ≤ l.length) : Bytes B h (partS v lo hi) ((l.take hi).drop lo) := by
  cases o with
  | nil =>
    have : hi = 0 := Nat.le_zero.1 h2
    subst this
    obtain rfl : lo = 0 := Nat.le_zero.1 h1
    exact .nil
  | @sl b o c ex cs m w l hB hg hcl hl hm hc hb =>
    have hlen : ((l.take hi).drop lo).length = hi - lo := by rw [List.length_drop, List.length_take]; omega
    have key : partS (.slice b o l.length c 1 ex) lo hi = .slice b (o + lo) ((l.take hi).drop lo).length (c - lo) 1 ex := by
      rw [hlen]
      show AV.slice b (o + lo * 1) (hi - lo) (c - lo) 1 ex = _
      rw [Nat.mul_one]
    rw [key]
    refine .sl hB hg hcl ?_ (by rw [hlen]; omega) (by rw [hlen]; omega) (fun x hx => hb x (List.mem_of_mem_take (List.mem_of_mem_drop hx)))
    rw [hlen]
    have e1 : (cs.drop (o + lo)).take (hi - lo) = (((cs.drop o).take l.length).take hi).drop lo := by
      rw [List.take_take, List.drop_take, List.drop_drop, Nat.min_eq_left h2]
    rw [e1, hl, u8s_eq, u8s_eq, ← List.map_take, ← List.map_drop]
end Eng
namespace Eng
open Go Go.RowKit
end Eng
namespace Eng
open Go Go.RowKit
theorem part_from {B : Nat} {h : Hp} {v : AV} {l : List Nat} (o : Bytes B h v l) {lo : Nat} (h1 : lo ≤ l.length) : Bytes B h (partS v lo l.length) (l.drop lo) := by
  have := o.part h1 (Nat.le_refl _)
  rwa [List.take_of_length_le (Nat.le_refl _)] at this
theorem part_to {B : Nat} {h : Hp} {v : AV} {l : List Nat} (o : Bytes B h v l) {hi : Nat} (h1 : hi ≤ l.length) : Bytes B h (partS v 0 hi) (l.take hi) := by
  have := o.part (Nat.zero_le hi) h1
  rwa [List.drop_zero] at this
end Eng
namespace Eng
open Go Go.RowKit
end Eng
end
section
set_option linter.unusedVariables false
set_option linter.unusedSimpArgs false
namespace Eng
open Go Go.RowKit
theorem heap_of : ∀ (n : Nat) (f : Nat → Blk), ∃ h : Hp, h.next = n ∧ (∀ b, b < n → hget h b = some (f b)) ∧ ∀ b, n ≤ b → hget h b = none
  | 0, f => ⟨⟨0, .lf⟩, rfl, fun b hb => absurd hb (Nat.not_lt_zero _), fun b _ => tget_lf _⟩
  | n + 1, f => by
    obtain ⟨h, h1, h2, h3⟩ := heap_of n f
    refine ⟨hpush h (f n), by rw [hpush_next, h1], fun b hb => ?_, fun b hb => ?_⟩
    · by_cases e : b = n
      · subst e; rw [← h1, hget_hpush, h1]
      · rw [hget_hpush_ne _ _ (by omega)]; exact h2 b (by omega)
    · rw [hget_hpush_ne _ _ (by omega)]; exact h3 b (by omega)
def startM (n : Nat) (f : Nat → Nat × Nat) (w : World) : Mp := ⟨fun b => if b < n then some (f b) else none, fun _ => false, fun c => match w.heap[c]? with | some (.cells arr _ _) => arr.size | _ => 0⟩
theorem start_ok {n : Nat} {f : Nat → Nat × Nat} {g : Nat → List AV} {w : World} (hf : ∀ b, b < n → ∃ arr e fr, w.heap[(f b).1]? = some (.cells arr e fr) ∧ (∀ v ∈ g b, isCell v = true) ∧ ∀ (i : Nat) (v : AV), (g b)[i]? = some v → ∃ x, arr[(f b).2 + i]? = some x ∧ VR (startM n f w) v x) :
    ∃ h : Hp, h.next = n ∧ (∀ b, b < n → hget h b = some (.cells (g b) (g b).length .ro)) ∧ Sim (startM n f w) h w := by
  obtain ⟨h, h1, h2, h3⟩ := heap_of n fun b => .cells (g b) (g b).length .ro
  have hat : ∀ b c s, (startM n f w).at_ b = some (c, s) → b < n ∧ f b = (c, s) := fun b c s e => by
    have e : (if b < n then some (f b) else none) = some (c, s) := e
    split at e
    · exact ⟨‹_›, Option.some.inj e⟩
    · cases e
  refine ⟨h, h1, h2, ?_, fun b hb => h3 b (by omega), ?_, ?_, ?_, ?_⟩
  · intro b hb
    show (if b < n then some (f b) else none) = none
    rw [if_neg (by omega)]
  · intro b c s e
    obtain ⟨hb, he⟩ := hat b c s e
    obtain ⟨arr, e', fr, hh, _⟩ := hf b hb
    rw [he] at hh
    exact (Array.getElem?_eq_some_iff.1 hh).1
  · intro b c s x e hg
    obtain ⟨hb, he⟩ := hat b c s e
    rw [h2 b hb] at hg
    cases hg
    obtain ⟨arr, e', fr, hh, hc, hv⟩ := hf b hb
    rw [he] at hh hv
    refine ⟨rfl, hc, ⟨fun h => (by cases h), fun h => absurd rfl h⟩, arr, e', fr, hh, ?_, fun h => (by cases h), hv⟩
    show arr.size = match w.heap[c]? with | some (.cells arr _ _) => arr.size | _ => 0
    rw [hh]
  · intro b b' c s s' x x' _ _ _ ho
    cases ho
  · intro b c s cs m p e hg
    obtain ⟨hb, he⟩ := hat b c s e
    rw [h2 b hb] at hg
    cases hg
theorem Goes.below' {μ μ' : Mp} {h h' : Hp} {w w' : World} (hm : ∀ c, μ.own c = false) (g : Goes μ h w μ' h' w') : Below w.heap.size w w' := ⟨g.os, g.tape, g.output, g.heap, fun k hk => g.kept k hk (hm k)⟩
theorem start_law {P : Program} {D : Nat → Array Oper → AC} (hD : DrawOk P D) {M : Nat → Option (List AV → Hp → RV)} (hM : Good P fun f args h => ocase .no (fun m => m args h) (M f)) {N d f : Nat} {w : World} {μ : Mp} {h h' : Hp} (hs : Sim μ h w) (hm : ∀ c, μ.own c = false)
    {args : List AV} {cargs : Array Value} (r : VRs μ args cargs.toList) (e : evF M (progS P D) N d f args h = .ok (.bool true) h') : Calls P f cargs w fun e w' => e = .returned (.bool true) ∧ Below w.heap.size w w' := by
  refine (evF_ok hD hM N d f args h _ h' μ w cargs e hs r).2.mono fun e w' hR => ?_
  obtain ⟨μ', y, rfl, ry, hs', g⟩ := hR
  rw [VR_bool] at ry
  subst ry
  exact ⟨rfl, g.below' hm⟩
structure BArg where
  v : Value
  c : Nat
  s : Nat
  l : List Nat
def BArg.lies (w : World) (a : BArg) : Prop := (∀ x ∈ a.l, x < 256) ∧ ((a.v = .slice none 0 0 ∧ a.l = []) ∨ ∃ cap arr e fr, a.v = .slice (some ⟨a.c, a.s, none⟩) a.l.length cap ∧ w.heap[a.c]? = some (.cells arr e fr) ∧ a.l.length ≤ cap ∧ (cap ≠ 0 → a.s + cap ≤ arr.size) ∧
  ∀ (i : Nat) (x : Nat), a.l[i]? = some x → arr[a.s + i]? = some (.int .u8 (.ofNat x)))
theorem u8s_at {l : List Nat} {i : Nat} {v : AV} (h : (u8s l)[i]? = some v) : ∃ x, l[i]? = some x ∧ v = .int .u8 (.ofNat x) := by
  rw [u8s_eq, List.getElem?_map] at h
  cases hl : l[i]? with
  | none => rw [hl] at h; cases h
  | some x => rw [hl] at h; cases h; exact ⟨x, rfl, rfl⟩
end Eng
namespace Eng
open Go Go.RowKit Go.ChangeShapes Go.WideShapes
end Eng
end
section
set_option linter.unusedVariables false
namespace Eng
open Go
theorem loop_st {call : CallT} {N : Nat} {body : AC} {σ : Type} (fr : σ → List (Nat × AV)) (L : List Nat) (hL : ∀ x, (fr x).map (·.1) = L) (Inv : σ → Hp → Prop) (meas : σ → Nat) (E : Nat → σ → Hp → Prop) (R : List (Option AV) → Hp → Prop)
    (step : ∀ x t h, Inv x h → ∃ s, evC call N body (ovT (fr x) t) h = s ∧ obsS L (fun ls h' => ∃ y, ls = (fr y).map (fun p => some p.2) ∧ Inv y h' ∧ meas y < meas x) (fun i ls h' => ∃ y, ls = (fr y).map (fun p => some p.2) ∧ E i y h') R s)
    (x0 : σ) (h : Hp) (hx : Inv x0 h) (hN : meas x0 < N) (t : T) (ht : Has (fr x0) t) :
    (∃ i y t' h', evC call N (.loop body) t h = .exit i t' h' ∧ Has (fr y) t' ∧ E i y h') ∨ (∃ t' h', evC call N (.loop body) t h = .ret t' h' ∧ R (slots L t') h') := by
  obtain ⟨s, e, hs⟩ := loop_ok (call := call) (N := N) (body := body) L (fun n ls h' => ∃ y, ls = (fr y).map (fun p => some p.2) ∧ Inv y h' ∧ meas y = n) (fun i ls h' => ∃ y, ls = (fr y).map (fun p => some p.2) ∧ E i y h') R
    (fun n t h ⟨y, hy, hi, hn⟩ => by
      have hh : Has (fr y) t := by unfold Has; rw [hL]; exact hy
      obtain ⟨s, e, hs⟩ := step y t h hi
      rw [ovT_eq hh] at e
      refine ⟨s, e, ?_⟩
      cases s with
      | no => exact hs
      | nor t' h' =>
        obtain ⟨z, h1, h2, h3⟩ := (show ∃ z, slots L t' = (fr z).map (fun p => some p.2) ∧ Inv z h' ∧ meas z < meas y from hs)
        exact (show ∃ m, m < n ∧ ∃ y, slots L t' = (fr y).map (fun p => some p.2) ∧ Inv y h' ∧ meas y = m from ⟨meas z, by omega, z, h1, h2, rfl⟩)
      | exit i t' h' => exact hs
      | ret t' h' => exact hs)
    (meas x0) hN t h ⟨x0, by unfold Has at ht; rw [hL] at ht; exact ht, hx, rfl⟩
  cases s with
  | no => exact hs.elim
  | nor t' h' => exact hs.elim
  | exit i t' h' =>
    obtain ⟨y, h1, h2⟩ := (show ∃ y, slots L t' = (fr y).map (fun p => some p.2) ∧ E i y h' from hs)
    exact .inl ⟨i, y, t', h', e, by unfold Has; rw [hL]; exact h1, h2⟩
  | ret t' h' => exact .inr ⟨t', h', e, hs⟩
end Eng
end
section
set_option linter.unusedVariables false
set_option linter.unusedSimpArgs false
namespace Eng
open Go Go.RowKit
def TwinAt (h : Hp) (v : AV) (l : List Nat) : Prop := ∃ b w, v = .slice b 0 l.length (l.length + 3) 1 true ∧ b < h.next ∧ hget h b = some (.cells (u8s (l ++ [229, 229, 229])) (l.length + 3) w) ∧ ∀ x ∈ l, x < 256
theorem TwinAt.bytes {h : Hp} {v : AV} {l : List Nat} (o : TwinAt h v l) : Bytes h.next h v l := by
  obtain ⟨b, w, rfl, hb, hg, hl⟩ := o
  refine .sl hb hg (by rw [u8s_length]; simp) ?_ (by omega) (by omega) hl
  rw [List.drop_zero, u8s_eq, u8s_eq, ← List.map_take, List.take_left' rfl]
def TwinS (call : CallT) (f : Nat) : Prop := ∀ {B : Nat} {h : Hp} {vb : AV} {l : List Nat}, B ≤ h.next → Bytes B h vb l → l.length ≤ 1099511627776 → ∃ rv rh, call f [vb] h = .ok rv rh ∧ TwinAt rh rv l ∧ Old B h rh ∧ B ≤ rh.next
def KeptS (call : CallT) (f : Nat) : Prop := ∀ {h : Hp} {vb vt : AV} {l : List Nat}, TwinAt h vt l → Bytes h.next h vb l → l.length ≤ 1099511627776 → call f [vt, vb] h = .ok (.bool true) h
theorem ltI_false {a b : Nat} (h : b ≤ a) : ltI (.ofNat a) (.ofNat b) = false := by rw [ltI_eq]; simpa using h
end Eng
namespace Eng
open Go
end Eng
namespace Eng
open Go
end Eng
namespace Eng
open Go
end Eng
namespace Eng
theorem eqI_self (n : Int) : eqI n n = true := by rw [eqI_eq]; simp
end Eng
end
section
set_option linter.unusedVariables false
set_option linter.unusedSimpArgs false
namespace Eng
open Go Go.RowKit
structure AObj where
  p : Hp → (Nat → Prop) → Prop
  loc : ∀ {h h' : Hp} {G : Nat → Prop}, (∀ k, G k → hget h' k = hget h k) → p h G → p h' G
def Sep (os : List AObj) (h : Hp) : Prop :=
  ∃ g : Nat → Nat → Prop, (∀ (i : Nat) (o : AObj), os[i]? = some o → o.p h (g i)) ∧ (∀ i k, g i k → k < h.next) ∧ ∀ i j k, g i k → g j k → i = j
theorem Sep.nil (h : Hp) : Sep [] h := by
  refine ⟨fun _ _ => False, fun i o e => ?_, fun i k e => e.elim, fun i j k e _ => e.elim⟩
  cases e
theorem Sep.at {os : List AObj} {h : Hp} (S : Sep os h) {i : Nat} {o : AObj} (hi : os[i]? = some o) : ∃ G : Nat → Prop, o.p h G ∧ (∀ k, G k → k < h.next) ∧
    ∀ (h' : Hp) (o' : AObj) (G' : Nat → Prop), h.next ≤ h'.next → o'.p h' G' → (∀ k, G' k → G k ∨ (h.next ≤ k ∧ k < h'.next)) → (∀ k, k < h.next → ¬ G k → hget h' k = hget h k) → Sep (os.set i o') h' := by
  obtain ⟨g, g1, g2, g3⟩ := S
  have hil : i < os.length := (List.getElem?_eq_some_iff.1 hi).1
  refine ⟨g i, g1 i o hi, g2 i, fun h' o' G' hn ho hG hf => ⟨fun j k => (j = i ∧ G' k) ∨ (j ≠ i ∧ g j k), fun j x hj => ?_, fun j k hk => ?_, fun j1 j2 k h1 h2 => ?_⟩⟩
  · by_cases e : j = i
    · subst e
      rw [List.getElem?_set_self hil] at hj
      cases hj
      have : (fun k => (j = j ∧ G' k) ∨ (j ≠ j ∧ g j k)) = G' := by funext k; simp
      show o'.p h' (fun k => (j = j ∧ G' k) ∨ (j ≠ j ∧ g j k))
      rw [this]; exact ho
    · rw [List.getElem?_set_ne (Ne.symm e)] at hj
      have : (fun k => (j = i ∧ G' k) ∨ (j ≠ i ∧ g j k)) = g j := by funext k; simp [e]
      show x.p h' (fun k => (j = i ∧ G' k) ∨ (j ≠ i ∧ g j k))
      rw [this]
      exact x.loc (fun k hk => hf k (g2 j k hk) fun hc => e (g3 j i k hk hc)) (g1 j x hj)
  · rcases hk with ⟨_, hk⟩ | ⟨_, hk⟩
    · rcases hG k hk with hk | ⟨_, hk⟩
      · have := g2 i k hk; omega
      · exact hk
    · have := g2 j k hk; omega
  · rcases h1 with ⟨e1, h1⟩ | ⟨e1, h1⟩ <;> rcases h2 with ⟨e2, h2⟩ | ⟨e2, h2⟩
    · rw [e1, e2]
    · rcases hG k h1 with h1 | ⟨h1, _⟩
      · exact absurd (g3 i j2 k h1 h2) (Ne.symm e2)
      · have := g2 j2 k h2; omega
    · rcases hG k h2 with h2 | ⟨h2, _⟩
      · exact absurd (g3 i j1 k h2 h1) (Ne.symm e1)
      · have := g2 j1 k h1; omega
    · exact g3 j1 j2 k h1 h2
theorem Sep.add {os : List AObj} {h : Hp} (S : Sep os h) {h' : Hp} {o : AObj} (G : Nat → Prop) (hn : h.next ≤ h'.next) (ho : o.p h' G) (hG : ∀ k, G k → h.next ≤ k ∧ k < h'.next) (hf : ∀ k, k < h.next → hget h' k = hget h k) : Sep (o :: os) h' := by
  obtain ⟨g, g1, g2, g3⟩ := S
  refine ⟨fun j => Nat.casesOn j G g, fun j x hj => ?_, fun j k hk => ?_, fun j1 j2 k h1 h2 => ?_⟩
  · cases j with
    | zero => cases hj; exact ho
    | succ j => exact x.loc (fun k hk => hf k (g2 j k hk)) (g1 j x hj)
  · cases j with
    | zero => exact (hG k hk).2
    | succ j => have := g2 j k hk; omega
  · cases j1 with
    | zero =>
      cases j2 with
      | zero => rfl
      | succ j2 => have a := hG k h1; have b := g2 j2 k h2; omega
    | succ j1 =>
      cases j2 with
      | zero => have a := hG k h2; have b := g2 j1 k h1; omega
      | succ j2 => rw [g3 j1 j2 k h1 h2]
theorem Sep.on {os : List AObj} {h h' : Hp} (S : Sep os h) (hn : h.next ≤ h'.next) (hf : ∀ k, k < h.next → hget h' k = hget h k) : Sep os h' := by
  obtain ⟨g, g1, g2, g3⟩ := S
  exact ⟨g, fun j x hj => x.loc (fun k hk => hf k (g2 j k hk)) (g1 j x hj), fun j k hk => by have := g2 j k hk; omega, g3⟩
theorem Sep.tail {o : AObj} {os : List AObj} {h : Hp} (S : Sep (o :: os) h) : Sep os h := by
  obtain ⟨g, g1, g2, g3⟩ := S
  exact ⟨fun j => g (j + 1), fun j x hj => g1 (j + 1) x hj, fun j k hk => g2 (j + 1) k hk, fun j1 j2 k h1 h2 => by have := g3 _ _ k h1 h2; omega⟩
theorem Sep.front {os : List AObj} {h : Hp} (S : Sep os h) (i : Nat) {o : AObj} (hi : os[i]? = some o) : Sep (o :: os.eraseIdx i) h := by
  obtain ⟨g, g1, g2, g3⟩ := S
  refine ⟨fun j => Nat.casesOn j (g i) (fun j => g (if j < i then j else j + 1)), fun j x hj => ?_, fun j k hk => ?_, fun j1 j2 k h1 h2 => ?_⟩
  · cases j with
    | zero => cases hj; exact g1 i o hi
    | succ j =>
      have hj : (os.eraseIdx i)[j]? = some x := hj
      rw [List.getElem?_eraseIdx] at hj
      show x.p h (g (if j < i then j else j + 1))
      split at hj
      · rw [if_pos ‹_›]; exact g1 _ _ hj
      · rw [if_neg ‹_›]; exact g1 _ _ hj
  · cases j with
    | zero => exact g2 i k hk
    | succ j => exact g2 _ k hk
  · cases j1 with
    | zero =>
      cases j2 with
      | zero => rfl
      | succ j2 => have a := g3 i _ k h1 h2; split at a <;> omega
    | succ j1 =>
      cases j2 with
      | zero => have a := g3 _ i k h1 h2; split at a <;> omega
      | succ j2 => have a := g3 _ _ k h1 h2; split at a <;> split at a <;> omega
theorem Sep.turn {os : List AObj} {h : Hp} (S : Sep os h) {i : Nat} {o o' : AObj} (hi : os[i]? = some o) (f : ∀ G, (∀ k, G k → k < h.next) → o.p h G → o'.p h G) : Sep (os.set i o') h := by
  obtain ⟨G, hp, hb, go⟩ := S.at hi
  exact go h o' G (Nat.le_refl _) (f G hb hp) (fun k hk => .inl hk) fun k hk hn => rfl
def Frz (G0 : Nat → Prop) (h0 : Hp) : AObj where
  p h G := (∀ k, G0 k → G k) ∧ ∀ k, G0 k → hget h k = hget h0 k
  loc := fun hf ⟨h1, h2⟩ => ⟨h1, fun k hk => (hf k (h1 k hk)).trans (h2 k hk)⟩
theorem Sep.freeze {os : List AObj} {h : Hp} (S : Sep os h) {i : Nat} {o : AObj} (hi : os[i]? = some o) : ∃ G : Nat → Prop, o.p h G ∧ (∀ k, G k → k < h.next) ∧ Sep (os.set i (Frz G h)) h := by
  obtain ⟨G, hp, hb, go⟩ := S.at hi
  exact ⟨G, hp, hb, go h _ G (Nat.le_refl _) ⟨fun k hk => hk, fun _ _ => rfl⟩ (fun k hk => .inl hk) fun k hk hn => rfl⟩
theorem Sep.start (h : Hp) : Sep [Frz (fun k => k < h.next) h] h :=
by
  refine ⟨fun i k => i = 0 ∧ k < h.next, fun i o hi => ?_, fun i k hk => hk.2, fun i j k h1 h2 => h1.1.trans h2.1.symm⟩
  cases i with
  | zero => cases hi; exact ⟨fun k hk => ⟨rfl, hk⟩, fun _ _ => rfl⟩
  | succ i => cases hi
theorem Sep.frozen {os : List AObj} {h : Hp} (S : Sep os h) {i : Nat} {G : Nat → Prop} {h0 : Hp} (hi : os[i]? = some (Frz G h0)) {k : Nat} (hk : G k) : k < h.next ∧ hget h k = hget h0 k := by
  obtain ⟨G', hp, hb, go⟩ := S.at hi
  exact ⟨hb k (hp.1 k hk), hp.2 k hk⟩
def blkOf : AV → Option Nat
  | .slice b _ _ _ _ _ => some b
  | _ => none
def BIn (G : Nat → Prop) (h : Hp) (v : AV) (l : List Nat) : Prop := (∃ B, Bytes B h v l) ∧ ∀ b, blkOf v = some b → G b
theorem BIn.nil {G : Nat → Prop} {h : Hp} : BIn G h .nilSlice [] := ⟨⟨0, .nil⟩, fun b e => by cases e⟩
theorem BIn.lt {G : Nat → Prop} {h : Hp} {v : AV} {l : List Nat} (P : BIn G h v l) : ∀ x ∈ l, x < 256 := by
  obtain ⟨⟨B, P⟩, _⟩ := P; exact P.lt
theorem BIn.of {B : Nat} {h : Hp} {v : AV} {l : List Nat} (P : Bytes B h v l) : BIn (fun k => k < B) h v l := by
  refine ⟨⟨B, P⟩, fun b e => ?_⟩
  cases P with
  | nil => cases e
  | sl hB hg hcl hl hm hc hb => cases e; exact hB
theorem BIn.now {os : List AObj} {h : Hp} (S : Sep os h) {i : Nat} {G : Nat → Prop} {h0 : Hp} (hi : os[i]? = some (Frz G h0)) {v : AV} {l : List Nat} (P : BIn G h0 v l) : Bytes h.next h v l := by
  obtain ⟨⟨B, P⟩, hG⟩ := P
  cases P with
  | nil => exact .nil
  | sl hB hg hcl hl hm hc hb =>
    obtain ⟨h1, h2⟩ := S.frozen hi (hG _ rfl)
    exact .sl h1 (h2.trans hg) hcl hl hm hc hb
theorem blkOf_part (v : AV) (lo hi : Nat) : blkOf (partS v lo hi) = blkOf v := by cases v <;> rfl
theorem BIn.part {G : Nat → Prop} {h : Hp} {v : AV} {l : List Nat} (P : BIn G h v l) {lo hi : Nat} (h1 : lo ≤ hi) (h2 : hi ≤ l.length) : BIn G h (partS v lo hi) ((l.take hi).drop lo) := by
  obtain ⟨⟨B, P⟩, hG⟩ := P
  exact ⟨⟨B, P.part h1 h2⟩, fun b e => hG b (by rwa [blkOf_part] at e)⟩
theorem BIn.from {G : Nat → Prop} {h : Hp} {v : AV} {l : List Nat} (P : BIn G h v l) {lo : Nat} (h1 : lo ≤ l.length) : BIn G h (partS v lo l.length) (l.drop lo) := by
  obtain ⟨⟨B, P⟩, hG⟩ := P
  exact ⟨⟨B, part_from P h1⟩, fun b e => hG b (by rwa [blkOf_part] at e)⟩
theorem BIn.to {G : Nat → Prop} {h : Hp} {v : AV} {l : List Nat} (P : BIn G h v l) {hi : Nat} (h1 : hi ≤ l.length) : BIn G h (partS v 0 hi) (l.take hi) := by
  obtain ⟨⟨B, P⟩, hG⟩ := P
  exact ⟨⟨B, part_to P h1⟩, fun b e => hG b (by rwa [blkOf_part] at e)⟩
def Cel (b : Nat) (cs : List AV) : AObj where
  p h G := G b ∧ hget h b = some (.cells cs cs.length .solo)
  loc := fun hf ⟨h1, h2⟩ => ⟨h1, (hf _ h1).trans h2⟩
theorem cel_get {os : List AObj} {h : Hp} (S : Sep os h) {i b : Nat} {cs : List AV} (hi : os[i]? = some (Cel b cs)) : hget h b = some (.cells cs cs.length .solo) := by
  obtain ⟨G, hp, _⟩ := S.at hi; exact hp.2
theorem cel_load {os : List AObj} {h : Hp} (S : Sep os h) {i b o : Nat} {cs : List AV} (hi : os[i]? = some (Cel b cs)) {x : AV} (hx : cs[o]? = some x) : evQ (.loadS (.const (.ptr b o))) .lf h = .ok x :=
  q_load (cel_get S hi) hx
theorem cel_new {os : List AObj} {h : Hp} (S : Sep os h) (cs : List AV) {n : Nat} (hn : cs.length = n) : Sep (Cel h.next cs :: os) (hpush h (mkCells cs n)) := by
  subst hn
  exact S.add (fun k => k = h.next) (Nat.le_succ _) ⟨rfl, hget_hpush h _⟩ (fun k hk => by subst hk; exact ⟨Nat.le_refl _, Nat.lt_succ_self _⟩) fun k hk => hget_hpush_ne h _ (by omega)
theorem cel_put {os : List AObj} {h : Hp} (S : Sep os h) {i b : Nat} {cs cs' : List AV} (hi : os[i]? = some (Cel b cs)) (hl : cs'.length = cs.length) : Sep (os.set i (Cel b cs')) (hset h b (.cells cs' cs.length .solo)) := by
  obtain ⟨G, hp, hb, go⟩ := S.at hi
  exact go _ _ G (Nat.le_refl _) ⟨hp.1, by rw [hget_hset, hl]⟩ (fun k hk => .inl hk) fun k hk hn => hget_hset_ne h _ fun e => hn (e ▸ hp.1)
theorem cel_store {os : List AObj} {h : Hp} (call : CallT) (S : Sep os h) {i b o : Nat} {cs : List AV} (hi : os[i]? = some (Cel b cs)) (ho : o < cs.length) {x : AV} (hx : isCell x = true) :
    ∃ e : Ev, evE (.store 1 (.const (.ptr b o)) (.const x)) call .lf h = .ok undef e.h ∧ Sep (os.set i (Cel b (cs.set o x))) e.h := by
  refine ⟨⟨.nilPtr, .lf, _⟩, ?_, cel_put S hi (List.length_set ..)⟩
  show oStore 1 (.const (.ptr b o)) (.const x) .lf h = _
  unfold oStore
  have e1 : Nat.beq 1 1 = true := rfl
  rw [e1, bc_eq, if_pos rfl]
  show bc (isCell x) (oStore1 (.const (.ptr b o)) (.const x) .lf h) _ = _
  rw [hx, bc_eq, if_pos rfl]
  show bc (isCell x) (wr1 h b o x) RV.no = _
  rw [hx]
  show hcells h b RV.no _ = _
  unfold hcells
  rw [cel_get S hi]
  show bc (Nat.blt o cs.length) (put h b (upd x cs o) cs.length .solo undef) .no = _
  rw [blt_dec, decide_eq_true ho, upd_eq]; rfl
theorem cel_storeN {os : List AObj} {h : Hp} (call : CallT) (S : Sep os h) {i b o n : Nat} {cs xs : List AV} (hi : os[i]? = some (Cel b cs)) (ho : o + n ≤ cs.length) (hn : xs.length = n) (h1 : n ≠ 1) (hx : ∀ x ∈ xs, isCell x = true) :
    ∃ e : Ev, evE (.store n (.const (.ptr b o)) (.const (.agg xs))) call .lf h = .ok undef e.h ∧ Sep (os.set i (Cel b (over xs cs o))) e.h := by
  subst hn
  have hl : (over xs cs o).length = cs.length := by
    rw [over_eq _ _ _ (by omega), List.length_append, List.length_append, List.length_take, List.length_drop]; omega
  refine ⟨⟨.nilPtr, .lf, _⟩, ?_, cel_put S hi hl⟩
  show oStore xs.length (.const (.ptr b o)) (.const (.agg xs)) .lf h = _
  unfold oStore
  rw [beqF h1, bc_eq, if_neg (by decide)]
  show bc (Nat.beq (len xs) xs.length) (bc (lall isCell xs) (wrN h b o xs xs.length undef) .no) RV.no = _
  rw [len_eq, Nat.beq_refl, lall_iff.2 hx]
  show hcells h b RV.no _ = _
  unfold hcells
  rw [cel_get S hi]
  show bc (Nat.ble (o + xs.length) cs.length) (put h b (over xs cs o) cs.length .solo undef) .no = _
  rw [ble_dec, decide_eq_true ho]; rfl
end Eng
end
section
set_option linter.unusedVariables false
set_option linter.unusedSimpArgs false
namespace Eng
open Go Go.RowKit
inductive OwnI (sz : Nat) (h : Hp) (G : Nat → Prop) : AV → Nat → List AV → Prop
  | nil : OwnI sz h G .nilSlice 0 []
  | sl {b n c : Nat} {ex : Bool} {w : Own} {Lc L : List AV} (hG : G b) (hg : hget h b = some (.cells Lc (c * sz) w)) (hl : Lc.length = c * sz) (hn : n ≤ c) (hL : Lc.take (n * sz) = L)
      (hw : w = .solo ∨ ∃ p, w = .pair p ∧ G p ∧ p ≠ b) : OwnI sz h G (.slice b 0 n c sz ex) n L
theorem OwnI.len {sz : Nat} {h : Hp} {G : Nat → Prop} {v : AV} {n : Nat} {L : List AV} (o : OwnI sz h G v n L) : L.length = n * sz := by
  cases o with
  | nil => simp
  | @sl b n c ex w Lc L hG hg hl hn hL hw =>
    have := Nat.mul_le_mul_right sz hn
    rw [← hL, List.length_take, hl]; omega
def OwnO (sz : Nat) (v : AV) (n : Nat) (L : List AV) : AObj where
  p h G := OwnI sz h G v n L
  loc := fun hf o => by
    cases o with
    | nil => exact .nil
    | sl hG hg hl hn hL hw => exact .sl hG ((hf _ hG).trans hg) hl hn hL hw
theorem own_get {os : List AObj} {h : Hp} (S : Sep os h) {i sz n : Nat} {v : AV} {L : List AV} (hi : os[i]? = some (OwnO sz v n L)) : ∃ G, OwnI sz h G v n L := by
  obtain ⟨G, hp, _⟩ := S.at hi; exact ⟨G, hp⟩
theorem own_nil {os : List AObj} {h : Hp} (S : Sep os h) (sz : Nat) : Sep (OwnO sz .nilSlice 0 [] :: os) h :=
  S.add (fun _ => False) (Nat.le_refl _) .nil (fun k hk => hk.elim) fun k hk => rfl
theorem own_new {os : List AObj} {h : Hp} (S : Sep os h) (sz n : Nat) (L : List AV) (ex : Bool) (hl : L.length = n * sz) : Sep (OwnO sz (.slice h.next 0 n n sz ex) n L :: os) (hpush h (mkCells L (n * sz))) :=
  S.add (fun k => k = h.next) (Nat.le_succ _) (.sl rfl (hget_hpush h _) hl (Nat.le_refl _) (List.take_of_length_le (by omega)) (.inl rfl)) (fun k hk => by subst hk; exact ⟨Nat.le_refl _, Nat.lt_succ_self _⟩) fun k hk => hget_hpush_ne h _ (by omega)
theorem src_own {β : Type} {h : Hp} {sz : Nat} {G : Nat → Prop} {s : AV} {n : Nat} {L : List AV} (o : OwnI sz h G s n L) (z : β) (k : Nat → List AV → β) : src h sz s z k = k n L := by
  cases o with
  | nil => rfl
  | @sl b n c ex w Lc L hG hg hl hn hL hw =>
    have := Nat.mul_le_mul_right sz hn
    show bc (Nat.beq sz sz) (rdN h b 0 (Nat.mul n sz) z fun l => k n l) z = _
    rw [Nat.beq_refl]
    show rdN h b 0 (n * sz) z _ = _
    rw [rdN_of hg (by omega) hl, List.drop_zero, hL]
theorem q_lenI {sz : Nat} {h : Hp} {G : Nat → Prop} {v : AV} {n : Nat} {L : List AV} (o : OwnI sz h G v n L) : evQ (.lenL (.const v)) .lf H0 = .ok (.int .i64 (.ofNat n)) := by
  cases o <;> rfl
theorem own_len {os : List AObj} {h : Hp} (S : Sep os h) {i sz n : Nat} {v : AV} {L : List AV} (hi : os[i]? = some (OwnO sz v n L)) : evQ (.lenL (.const v)) .lf H0 = .ok (.int .i64 (.ofNat n)) := by
  obtain ⟨G, o⟩ := own_get S hi; exact q_lenI o
theorem own_src {os : List AObj} {h : Hp} (S : Sep os h) {i sz n : Nat} {v : AV} {L : List AV} (hi : os[i]? = some (OwnO sz v n L)) {β : Type} (z : β) (k : Nat → List AV → β) : src h sz v z k = k n L := by
  obtain ⟨G, o⟩ := own_get S hi; exact src_own o z k
theorem OwnI.bytes {h : Hp} {G : Nat → Prop} {s : AV} {n : Nat} {l : List Nat} (o : OwnI 1 h G s n (u8s l)) (hb : ∀ x ∈ l, x < 256) : BIn G h s l := by
  generalize hL : u8s l = L at o
  cases o with
  | nil =>
    cases l with
    | nil => exact .nil
    | cons x l => cases hL
  | @sl b n c ex w Lc L hG hg hl hn hLc hw =>
    subst hL
    have h1 := congrArg List.length hLc
    rw [u8s_length, List.length_take, hl] at h1
    have hnl : l.length = n := by omega
    subst hnl
    exact ⟨⟨b + 1, .sl (Nat.lt_succ_self _) hg hl (by rw [List.drop_zero, ← hLc, Nat.mul_one]) (by omega) hn hb⟩, fun b' e => by cases e; exact hG⟩
theorem own_append {os : List AObj} {h : Hp} (call : CallT) (S : Sep os h) {i sz bytes n : Nat} {s : AV} {L : List AV} (hi : os[i]? = some (OwnO sz s n L)) {x : AV} {m : Nat} {xs : List AV} (hs : ∀ {β : Type} (z : β) (k : Nat → List AV → β), src h sz x z k = k m xs)
    (hx : xs.length = m * sz) (hc : ∀ x ∈ xs, isCell x = true) (h1 : (n + m) * bytes ≤ 70368744177664) (h2 : n + m ≤ 70368744177664) :
    ∃ e : Ev, evE (.append sz bytes (.const s) (.const x)) call .lf h = .ok e.v e.h ∧ Sep (os.set i (OwnO sz e.v (n + m) (L ++ xs))) e.h := by
  obtain ⟨G, o, hGb, go⟩ := S.at hi
  have ev : evE (.append sz bytes (.const s) (.const x)) call .lf h = appendTo h sz bytes s m xs := by
    show src h sz x RV.no (fun m xs => appendTo h sz bytes s m xs) = _
    rw [hs]
  rw [ev]
  have same : m = 0 → appendTo h sz bytes s m xs = .ok s h → ∃ e : Ev, appendTo h sz bytes s m xs = .ok e.v e.h ∧ Sep (os.set i (OwnO sz e.v (n + m) (L ++ xs))) e.h := by
    intro hm e
    subst hm
    obtain rfl : xs = [] := List.eq_nil_of_length_eq_zero (by omega)
    refine ⟨⟨s, .lf, h⟩, e, ?_⟩
    rw [List.append_nil]
    exact go h _ G (Nat.le_refl _) o (fun k hk => .inl hk) fun k hk hn => rfl
  have fresh : ∀ (g : Hp) (L' : List AV), g.next = h.next → (∀ k, k < h.next → ¬ G k → hget g k = hget h k) → L' = L ++ xs → appendTo h sz bytes s m xs = grown g (n + m) sz L' →
      ∃ e : Ev, appendTo h sz bytes s m xs = .ok e.v e.h ∧ Sep (os.set i (OwnO sz e.v (n + m) (L ++ xs))) e.h := by
    intro g L' hgn hgo hL e
    subst hL
    refine ⟨⟨.slice g.next 0 (n + m) (n + m) sz false, .lf, hpush g (mkCells (L ++ xs) ((n + m) * sz))⟩, e, ?_⟩
    have hlen : (L ++ xs).length = (n + m) * sz := by rw [List.length_append, OwnI.len o, hx, Nat.add_mul]
    refine go _ _ (fun k => k = h.next) (by show h.next ≤ (hpush g _).next; rw [hpush_next, hgn]; omega) ?_ (fun k hk => .inr ⟨by omega, by show k < (hpush g _).next; rw [hpush_next, hgn]; omega⟩) fun k hk hn => by
      show hget (hpush g _) k = _
      rw [hget_hpush_ne _ _ (by omega), hgo k hk hn]
    exact .sl hgn (hget_hpush g _) hlen (Nat.le_refl _) (List.take_of_length_le (by omega)) (.inl rfl)
  rcases Nat.eq_zero_or_pos m with hm | hm
  · refine same hm ?_
    subst hm
    obtain rfl : xs = [] := List.eq_nil_of_length_eq_zero (by omega)
    cases o with
    | nil => rfl
    | @sl b n c ex w Lc L hG hg hl hn hL hw =>
      show bc (Nat.beq sz sz) (bc (Nat.ble (n + 0) c) (bc (Nat.beq 0 0) (RV.ok (.slice b 0 n c sz ex) h) _) _) RV.no = _
      rw [Nat.beq_refl, ble_dec, decide_eq_true (by omega)]; rfl
  · have hm0 : Nat.beq m 0 = false := beqF (by omega)
    cases o with
    | nil =>
      refine fresh h xs rfl (fun k hk hn => rfl) rfl ?_
      show bc (Nat.beq m 0) (RV.ok .nilSlice h) (bc (Nat.ble (Nat.mul m bytes) 70368744177664) (bc (Nat.ble m 70368744177664) (grown h m sz xs) .no) .no) = _
      rw [hm0, ble_dec, ble_dec, decide_eq_true (by simpa using h1), decide_eq_true (by simpa using h2), Nat.zero_add]; rfl
    | @sl b n c ex w Lc L hG hg hl hn hL hw =>
      have hbn := hGb _ hG
      have hmul : n * sz ≤ c * sz := Nat.mul_le_mul_right sz hn
      have hlen : L.length = n * sz := by rw [← hL, List.length_take, hl]; omega
      have key : appendTo h sz bytes (.slice b 0 n c sz ex) m xs = bc (Nat.ble (n + m) c) (wrN h b (0 + n * sz) xs (m * sz) (.slice b 0 (n + m) c sz ex)) (more h b 0 n sz m ex xs) := by
        show bc (Nat.beq sz sz) (bc (Nat.ble (n + m) c) (bc (Nat.beq m 0) _ _) (bc (Nat.ble ((n + m) * bytes) 70368744177664) (bc (Nat.ble (n + m) 70368744177664) (more h b 0 n sz m ex xs) .no) .no)) RV.no = _
        rw [Nat.beq_refl, hm0, ble_dec (a := (n + m) * bytes), ble_dec (a := n + m) (b := 70368744177664), decide_eq_true h1, decide_eq_true h2]; rfl
      by_cases hcap : n + m ≤ c
      · rw [ble_dec (a := n + m) (b := c), decide_eq_true hcap] at key
        have hcs : (n + m) * sz ≤ c * sz := Nat.mul_le_mul_right sz hcap
        rw [Nat.add_mul] at hcs
        have hw2 : wrN h b (0 + n * sz) xs (m * sz) (.slice b 0 (n + m) c sz ex) = put h b (over xs Lc (0 + n * sz)) (c * sz) w (.slice b 0 (n + m) c sz ex) := by
          show hcells h b RV.no _ = _
          unfold hcells
          rw [hg]
          show bc (Nat.ble (0 + n * sz + m * sz) (c * sz)) (put h b (over xs Lc (0 + n * sz)) (c * sz) w _) .no = _
          rw [ble_dec, decide_eq_true (by omega)]; rfl
        have hov : over xs Lc (0 + n * sz) = L ++ xs ++ Lc.drop (n * sz + m * sz) := by
          rw [Nat.zero_add, over_eq _ _ _ (by omega), hL, hx]
        rw [hw2, hov] at key
        have hl2 : (L ++ xs ++ Lc.drop (n * sz + m * sz)).length = c * sz := by rw [List.length_append, List.length_append, List.length_drop]; omega
        have fin : ∀ g : Hp, g.next = h.next → (∀ k, k < h.next → ¬ G k → hget g k = hget h k) → Sep (os.set i (OwnO sz (.slice b 0 (n + m) c sz ex) (n + m) (L ++ xs))) (hset g b (.cells (L ++ xs ++ Lc.drop (n * sz + m * sz)) (c * sz) .solo)) := fun g hgn hgo => by
          refine go _ _ G (by rw [hset_next, hgn]; exact Nat.le_refl _) (.sl hG (hget_hset _ _ _) hl2 hcap ?_ (.inl rfl)) (fun k hk => .inl hk) fun k hk hn => ?_
          · rw [List.take_append_of_le_length (by rw [List.length_append, Nat.add_mul]; omega), List.take_of_length_le (by rw [List.length_append, Nat.add_mul]; omega)]
          · rw [hget_hset_ne _ _ (fun (e : k = b) => hn (e ▸ hG)), hgo k hk hn]
        rcases hw with hw | ⟨p, hw, hp1, hp2⟩
        · subst hw
          exact ⟨⟨_, .lf, _⟩, key, fin h rfl fun _ _ _ => rfl⟩
        · subst hw
          exact ⟨⟨_, .lf, _⟩, key, fin (hset h p .dead) rfl fun k hk hn => hget_hset_ne h _ fun (e : k = p) => hn (e ▸ hp1)⟩
      · rw [ble_dec, decide_eq_false hcap] at key
        have e0 : Nat.add 0 (Nat.mul n sz) = n * sz := Nat.zero_add _
        have hpart : part Lc (c * sz) 0 (n * sz) = L := by rw [part_eq hl (by omega), List.drop_zero, hL]
        have key2 : more h b 0 n sz m ex xs = bc ex (grown h (n + m) sz (L ++ xs))
            (bc (Nat.beq (n * sz) (c * sz)) (w.peer .no (shared h b (n + m) sz Lc (c * sz) (L ++ xs)) fun p => bc (Nat.beq p b) .no (shared (hset h p .dead) b (n + m) sz Lc (c * sz) (L ++ xs)))
              (w.peer .no (grown (hset h b .dead) (n + m) sz (L ++ xs)) fun p => grown (hset (hset h p .dead) b .dead) (n + m) sz (L ++ xs))) := by
          show hcells h b RV.no _ = _
          unfold hcells
          rw [hg]
          show bc (Nat.ble (Nat.add 0 (Nat.mul n sz)) (c * sz)) (bc ex (grown h (n + m) sz (app (part Lc (c * sz) 0 (n * sz)) xs))
            (bc (Nat.beq (Nat.add 0 (Nat.mul n sz)) (c * sz)) (w.peer RV.no (shared h b (n + m) sz Lc (c * sz) (app (part Lc (c * sz) 0 (n * sz)) xs)) fun p => bc (Nat.beq p b) .no (shared (hset h p .dead) b (n + m) sz Lc (c * sz) (app (part Lc (c * sz) 0 (n * sz)) xs)))
              (w.peer RV.no (grown (hset h b .dead) (n + m) sz (app (part Lc (c * sz) 0 (n * sz)) xs)) fun p => grown (hset (hset h p .dead) b .dead) (n + m) sz (app (part Lc (c * sz) 0 (n * sz)) xs)))) RV.no = _
          rw [e0, hpart, app_eq, ble_dec, decide_eq_true hmul]; rfl
        have key : appendTo h sz bytes (.slice b 0 n c sz ex) m xs = _ := key.trans key2
        cases ex with
        | true => exact fresh h _ rfl (fun k hk hn => rfl) rfl key
        | false =>
          have key : appendTo h sz bytes (.slice b 0 n c sz false) m xs = bc (Nat.beq (n * sz) (c * sz)) (w.peer .no (shared h b (n + m) sz Lc (c * sz) (L ++ xs)) fun p => bc (Nat.beq p b) .no (shared (hset h p .dead) b (n + m) sz Lc (c * sz) (L ++ xs)))
              (w.peer .no (grown (hset h b .dead) (n + m) sz (L ++ xs)) fun p => grown (hset (hset h p .dead) b .dead) (n + m) sz (L ++ xs)) := key
          have hlen2 : (L ++ xs).length = (n + m) * sz := by rw [List.length_append, hlen, hx, Nat.add_mul]
          by_cases heq : n * sz = c * sz
          · have hb1 : Nat.beq (n * sz) (c * sz) = true := by rw [heq, Nat.beq_refl]
            rw [hb1] at key
            have fin : ∀ g : Hp, g.next = h.next → (∀ k, k < h.next → ¬ G k → hget g k = hget h k) → appendTo h sz bytes (.slice b 0 n c sz false) m xs = shared g b (n + m) sz Lc (c * sz) (L ++ xs) →
                ∃ e : Ev, appendTo h sz bytes (.slice b 0 n c sz false) m xs = .ok e.v e.h ∧ Sep (os.set i (OwnO sz e.v (n + m) (L ++ xs))) e.h := by
              intro g hgn hgo e
              refine ⟨⟨.slice g.next 0 (n + m) (n + m) sz false, .lf, hset (hpush g (.cells (L ++ xs) ((n + m) * sz) (.pair b))) b (.cells Lc (c * sz) (.pair g.next))⟩, e, ?_⟩
              refine go _ _ (fun k => G k ∨ k = h.next) (by show h.next ≤ (hset (hpush g _) b _).next; rw [hset_next, hpush_next, hgn]; omega) ?_ (fun k hk => hk.imp id fun hk => ⟨by omega, by show k < (hset (hpush g _) b _).next; rw [hset_next, hpush_next, hgn]; omega⟩) fun k hk hn => ?_
              · refine .sl (.inr hgn) (w := .pair b) ?_ hlen2 (Nat.le_refl _) (List.take_of_length_le (by omega)) (.inr ⟨b, rfl, .inl hG, by omega⟩)
                show hget (hset (hpush g _) b _) g.next = _
                rw [hget_hset_ne _ _ (by omega), hget_hpush]
              · show hget (hset (hpush g _) b _) k = _
                rw [hget_hset_ne _ _ (fun (e : k = b) => hn (e ▸ hG)), hget_hpush_ne _ _ (by omega), hgo k hk hn]
            rcases hw with hw | ⟨p, hw, hp1, hp2⟩
            · subst hw; exact fin h rfl (fun _ _ _ => rfl) key
            · subst hw
              have key : appendTo h sz bytes (.slice b 0 n c sz false) m xs = bc (Nat.beq p b) .no (shared (hset h p .dead) b (n + m) sz Lc (c * sz) (L ++ xs)) := key
              rw [beqF hp2] at key
              exact fin (hset h p .dead) rfl (fun k hk hn => hget_hset_ne h _ fun (e : k = p) => hn (e ▸ hp1)) key
          · rw [beqF heq] at key
            rcases hw with hw | ⟨p, hw, hp1, hp2⟩
            · subst hw
              exact fresh (hset h b .dead) _ rfl (fun k hk hn => hget_hset_ne h _ fun (e : k = b) => hn (e ▸ hG)) rfl key
            · subst hw
              exact fresh (hset (hset h p .dead) b .dead) _ rfl (fun k hk hn => by rw [hget_hset_ne _ _ (fun (e : k = b) => hn (e ▸ hG)), hget_hset_ne _ _ (fun (e : k = p) => hn (e ▸ hp1))]) rfl key
end Eng
end
section
set_option linter.unusedVariables false
namespace Eng
open Go
def lastB (x left : Nat) (sg : Bool) : Bool :=
  if x &&& 128 ≠ 0 then false else if sg = false then decide (x / 2 ^ left = 0) else if x / 2 ^ (left - 1) = 0 then true else decide (x / 2 ^ (left - 1) = 127 / 2 ^ (left - 1))
def readG (size : Nat) (sg : Bool) : List Nat → Nat → Nat → Nat → Nat × Nat × Nat
  | [], _, _, _ => (0, 0, 3)
  | x :: l, a, n, v =>
    if size - a ≤ 7 ∧ lastB x (size - a) sg = false then (0, 0, 2)
    else if x &&& 128 ≠ 0 then readG size sg l (a + 7) (n + 1) (v ||| ((x &&& 127) * 2 ^ a % 18446744073709551616))
    else if sg = true ∧ x &&& 64 ≠ 0 ∧ a + 7 < 64 then (v ||| ((x &&& 127) * 2 ^ a % 18446744073709551616) ||| (18446744073709551615 * 2 ^ (a + 7) % 18446744073709551616), n + 1, 0)
    else (v ||| ((x &&& 127) * 2 ^ a % 18446744073709551616), n + 1, 0)
end Eng
namespace Eng
theorem eqI_nat (a b : Nat) : eqI (Int.ofNat a) (Int.ofNat b) = decide (a = b) := by
  rw [eqI_eq, Bool.eq_iff_iff]
  simp only [beq_iff_eq, decide_eq_true_eq]
  exact ⟨fun h => Int.ofNat.inj h, fun h => by rw [h]⟩
end Eng
namespace Eng
open Go
def lebU (v : Nat) : List Nat := if h : v < 128 then [v] else (v % 256 ||| 128) :: lebU (v / 128)
termination_by v
decreasing_by omega
end Eng
namespace Eng
open Go
def lebH (v : Nat) : List Nat := if h : v < 128 then [] else (v % 256 ||| 128) :: lebH (v / 128)
termination_by v
decreasing_by omega
def lebL (v : Nat) : Nat := if h : v < 128 then v else lebL (v / 128)
termination_by v
decreasing_by omega
def sIn (w : Int) : Prop := -64 ≤ w ∧ w < 64
instance (w : Int) : Decidable (sIn w) := inferInstanceAs (Decidable (_ ∧ _))
def sebH (w : Int) : List Nat := if h : sIn w then [] else ((w % 256).toNat ||| 128) :: sebH (w / 128)
termination_by w.natAbs
decreasing_by unfold sIn at h; omega
def sebL (w : Int) : Int := if h : sIn w then w else sebL (w / 128)
termination_by w.natAbs
decreasing_by unfold sIn at h; omega
def lebS (w : Int) : List Nat := sebH w ++ [(sebL w % 256).toNat &&& 127]
theorem ltI_T {a b : Int} (h : ltI a b = true) : a < b := by rw [ltI_eq] at h; simpa using h
theorem ltI_F {a b : Int} (h : ltI a b = false) : b ≤ a := by rw [ltI_eq] at h; simpa using h
end Eng
namespace Eng
open Go
def LastS (call : CallT) (f : Nat) : Prop := ∀ (x left : Nat) (s : Bool) (h : Hp), x < 256 → 1 ≤ left → left ≤ 64 → call f [.int .u8 (.ofNat x), .int .i64 (.ofNat left), .bool s] h = .ok (.bool (lastB x left s)) h
def numT (k : IntKind) (r : Nat × Nat × Nat) : AV := .tuple [.int k (.ofNat r.1), .int .i64 (.ofNat r.2.1), .int .i64 (.ofNat r.2.2)]
def ReadS (call : CallT) (f : Nat) (g : Nat → Bool → List Nat → Nat × Nat × Nat) : Prop := ∀ (B : Nat) (h : Hp) (vb : AV) (l : List Nat) (size : Nat) (sg : Bool), Bytes B h vb l → l.length < 90000 → size = 32 ∨ size = 33 ∨ size = 64 →
  call f [vb, .int .i64 (.ofNat size), .bool sg] h = .ok (numT .u64 (g size sg l)) h
def CloneS (call : CallT) (f : Nat) : Prop := ∀ {B : Nat} {h : Hp} {vb : AV} {l : List Nat}, B ≤ h.next → l.length ≤ 1099511627776 → Bytes B h vb l → ∃ v h', call f [vb] h = .ok v h' ∧ Owned 1 B h' v l.length (u8s l) ∧ Old B h h' ∧ B ≤ h'.next
def JoinS (call : CallT) (f : Nat) : Prop := ∀ {B : Nat} {h : Hp} {vb vl : AV} {l m : List Nat}, B ≤ h.next → Bytes B h vb l → Bytes B h vl m → l.length ≤ 1099511627776 → m.length ≤ 1099511627776 →
  ∃ v h', call f [vb, vl] h = .ok v h' ∧ Owned 1 B h' v (l.length + m.length) (u8s (l ++ m)) ∧ Old B h h' ∧ B ≤ h'.next
def PutUS (call : CallT) (f : Nat) : Prop := ∀ {B : Nat} {h : Hp} {vb : AV} {l : List Nat} {v : Nat}, B ≤ h.next → Bytes B h vb l → l.length ≤ 1099511627776 → v < 18446744073709551616 →
  ∃ rv rh, call f [vb, .int .u64 (.ofNat v)] h = .ok rv rh ∧ Owned 1 B rh rv (l.length + (lebU v).length) (u8s (l ++ lebU v)) ∧ Old B h rh ∧ B ≤ rh.next
def PutSS (call : CallT) (f : Nat) : Prop := ∀ {B : Nat} {h : Hp} {vb : AV} {l : List Nat} {v : Int}, B ≤ h.next → Bytes B h vb l → l.length ≤ 1099511627776 → (-9223372036854775808 ≤ v ∧ v < 9223372036854775808) →
  ∃ rv rh, call f [vb, .int .i64 v] h = .ok rv rh ∧ Owned 1 B rh rv (l.length + (lebS v).length) (u8s (l ++ lebS v)) ∧ Old B h rh ∧ B ≤ rh.next
def TrueS (call : CallT) (f : Nat) : Prop := ∀ h : Hp, call f [] h = .ok (.bool true) h
theorem again_of {o : QOp} {h : Hp} {v : AV} (e : evQ o .lf h = .ok v) (r : avEq v v = true) : again o .lf v h = true := by
  show (evQ o .lf h).cs false (fun v' => avEq v v') = true
  rw [e]; exact r
theorem avEq_int (k : IntKind) (n : Int) : avEq (.int k n) (.int k n) = true := by
  show bc (ikEq k k) (eqI n n) false = true
  rw [ikEq_self, eqI_eq]; simp [bc]
theorem avEq_bool (b : Bool) : avEq (.bool b) (.bool b) = true := by cases b <;> rfl
theorem beq_self (n : Nat) : Nat.beq n n = true := Nat.beq_refl n
theorem avEq_slice (b o l c s : Nat) (e : Bool) : avEq (.slice b o l c s e) (.slice b o l c s e) = true := by
  show bc (Nat.beq b b) (bc (Nat.beq o o) (bc (Nat.beq l l) (bc (Nat.beq c c) (bc (Nat.beq s s) (bc e e (notB e)) false) false) false) false) false = true
  simp only [beq_self, bc_eq, if_true]
  cases e <;> rfl
theorem avEq_ptr (b o : Nat) : avEq (.ptr b o) (.ptr b o) = true := by
  show bc (Nat.beq b b) (Nat.beq o o) false = true
  simp only [beq_self, bc_eq, if_true]
theorem Owned.same {sz B n : Nat} {h : Hp} {v : AV} {L : List AV} (o : Owned sz B h v n L) : avEq v v = true := by
  cases o with
  | nil => rfl
  | sl => exact avEq_slice ..
theorem Bytes.same {B : Nat} {h : Hp} {v : AV} {l : List Nat} (o : Bytes B h v l) : avEq v v = true := by
  cases o with
  | nil => rfl
  | sl => exact avEq_slice ..
theorem evF_at {M : Nat → Option (List AV → Hp → RV)} {S : Nat → Option AF} {N d f : Nat} (hM : M f = none) (args : List AV) (h : Hp) : evF M S N (d + 1) f args h = evF1 S N (evF M S N d) f args h := by
  show ocase (evF1 S N (evF M S N d) f args h) (fun m => m args h) (M f) = _
  rw [hM]; rfl
end Eng
namespace Eng
end Eng
namespace Eng
open Go
end Eng
namespace Eng
open Go
noncomputable def sInt (k : IntKind) (n : Nat) : Int := wrapA k (.ofNat n)
def NumS (call : CallT) (f : Nat) (size : Nat) (sg : Bool) (k : IntKind) (v : Nat → Int) : Prop := ∀ {B : Nat} {h : Hp} {vb : AV} {l : List Nat}, Bytes B h vb l → l.length < 90000 →
  call f [vb] h = .ok (.tuple [.int k (v (readG size sg l 0 0 0).1), .int .i64 (.ofNat (readG size sg l 0 0 0).2.1), .int .i64 (.ofNat (readG size sg l 0 0 0).2.2)]) h
end Eng
end
section
set_option linter.unusedVariables false
set_option linter.unusedSimpArgs false
namespace Eng
open Go Go.RowKit
theorem BIn.cell {G : Nat → Prop} {h : Hp} {v : AV} {l : List Nat} (P : BIn G h v l) : isCell v = true := by
  obtain ⟨⟨B, P⟩, _⟩ := P; cases P <;> rfl
theorem BIn.cells {G : Nat → Prop} {h : Hp} {v : AV} {l : List Nat} (P : BIn G h v l) : cellsOf v = [v] := by
  obtain ⟨⟨B, P⟩, _⟩ := P; cases P <;> rfl
theorem BIn.same {G : Nat → Prop} {h : Hp} {v : AV} {l : List Nat} (P : BIn G h v l) : avEq v v = true := by
  obtain ⟨⟨B, P⟩, _⟩ := P; exact P.same
theorem own_cell {os : List AObj} {h : Hp} (S : Sep os h) {i sz n : Nat} {v : AV} {L : List AV} (hi : os[i]? = some (OwnO sz v n L)) : isCell v = true := by
  obtain ⟨G, o⟩ := own_get S hi; cases o <;> rfl
theorem own_same {os : List AObj} {h : Hp} (S : Sep os h) {i sz n : Nat} {v : AV} {L : List AV} (hi : os[i]? = some (OwnO sz v n L)) : avEq v v = true := by
  obtain ⟨G, o⟩ := own_get S hi
  cases o with
  | nil => rfl
  | sl => exact avEq_slice ..
theorem fill_cons {v : AV} {xs : List AV} {o k n : Nat} {ps : List (Nat × Nat × AX)} {t : T} {z : List AV} (hv : cellsOf v = xs) (hk : xs.length = k) (hn : o + k ≤ n) : fillParts ((o, k, .const v) :: ps) t n z = fillParts ps t n (over xs z o) := by
  subst hk
  show bc (Nat.beq (len (cellsOf v)) xs.length) (bc (Nat.ble (o + xs.length) n) (fillParts ps t n (over (cellsOf v) z o)) none) none = _
  rw [hv, len_eq, Nat.beq_refl, ble_dec, decide_eq_true hn]; rfl
theorem build_told {z cs : List AV} {ps : List (Nat × Nat × AX)} {h : Hp} (e : fillParts ps .lf (len z) z = some cs) : evQ (.build z ps) .lf h = .ok (.agg cs) := by
  show ocase OV.no (fun cs => .ok (.agg cs)) (fillParts ps .lf (len z) z) = _
  rw [e]; rfl
theorem avEq_agg1 {v : AV} {l : List AV} (h1 : avEq v v = true) (h2 : avEq (.agg l) (.agg l) = true) : avEq (.agg (v :: l)) (.agg (v :: l)) = true := by
  show bc (avEq v v) (avEq (.agg l) (.agg l)) false = true
  rw [h1]; exact h2
theorem all_cell {x : AV} {l : List AV} (h1 : isCell x = true) (h2 : ∀ y ∈ l, isCell y = true) : ∀ y ∈ x :: l, isCell y = true := fun y hy => by
  rcases List.mem_cons.1 hy with e | e
  · rw [e]; exact h1
  · exact h2 y e
theorem all_cell0 : ∀ y ∈ ([] : List AV), isCell y = true := fun y hy => by cases hy
theorem box_told {v : AV} {xs : List AV} {n : Nat} (hv : cellsOf v = xs) (hn : xs.length = n) (hx : ∀ x ∈ xs, isCell x = true) : evL (.box (.const v)) .lf = .ok .ptr (mkCells xs n) := by
  subst hn
  show bc (lall isCell (cellsOf v)) (OL.ok .ptr (mkCells (cellsOf v) (len (cellsOf v)))) .no = _
  rw [hv, lall_iff.2 hx, len_eq]; rfl
theorem own_L {os : List AObj} {h : Hp} (S : Sep os h) {i sz n : Nat} {v : AV} {L : List AV} (hi : os[i]? = some (OwnO sz v n L)) : L.length = n * sz := by
  obtain ⟨G, o⟩ := own_get S hi; exact o.len
theorem elemP_same (v : AV) (k sz : Nat) : avEq (elemP v k sz) (elemP v k sz) = true := by
  cases v <;> first | rfl | exact avEq_ptr _ _
def avN (i : Nat) : AV → AV
  | .tuple l => l.getD i .nilPtr
  | v => v
end Eng
end
section
set_option linter.unusedVariables false
set_option linter.unusedSimpArgs false
namespace Eng
open Go Go.RowKit Go.ChangeShapes Go.WideShapes
section
variable {H : Type} {enc : TypeId × Value → H} {P : Program} {W : World}
theorem trod_struct {t : TypeId} {fs : Array Field} {v : Value} {d : DataW H} {p : List MemPlace} {base : Nat} {sp : Nat → Bool} {held : Bool} (ht : P.underlying t = some (.struct fs))
    (h0 : DataW.Trod enc P W base sp held t v d p) : ∃ fuel xs, (fs.toList.mapM fun f => DataW.trod enc P W base sp held fuel f.type ((v.cells.toList.drop f.offset).take (P.cellsOf f.type))) = some xs ∧ d = .agg (xs.map (·.1)) ∧ p = xs.flatMap (·.2) ∧ v.cells.toList.length = P.cellsOf t := by
  obtain ⟨fuel, hf⟩ := h0
  cases fuel with
  | zero => cases hf
  | succ fuel =>
    unfold DataW.trod at hf
    rw [ht] at hf
    simp only at hf
    split at hf
    · rename_i hl
      cases hm : (fs.toList.mapM fun f => DataW.trod enc P W base sp held fuel f.type ((v.cells.toList.drop f.offset).take (P.cellsOf f.type))) with
      | none => rw [hm] at hf; cases hf
      | some xs =>
        rw [hm] at hf
        cases hf
        exact ⟨fuel, xs, hm, rfl, rfl, hl⟩
    · cases hf
end
end Eng
end
section
set_option linter.unusedVariables false
set_option linter.unusedSimpArgs false
namespace Eng
open Go Go.RowKit
theorem lb {n m : Nat} (h : Nat.ble n m = true) : n ≤ m := Nat.le_of_ble_eq_true h
def gd {α : Type} (p : Prop) [Decidable p] (o : Option α) : Option α := if p then o else none
theorem gd_inv {α : Type} {p : Prop} [Decidable p] {o : Option α} {r : α} (h : gd p o = some r) : p ∧ o = some r := by
  unfold gd at h
  split at h
  · exact ⟨‹_›, h⟩
  · cases h
theorem gd_t {α : Type} {p : Prop} [Decidable p] {o : Option α} (h : p) : gd p o = o := if_pos h
def ob {α β : Type} (o : Option α) (f : α → Option β) : Option β := match o with | none => none | some x => f x
theorem ob_inv {α β : Type} {o : Option α} {f : α → Option β} {r : β} (h : ob o f = some r) : ∃ x, o = some x ∧ f x = some r := by
  cases o with
  | none => cases h
  | some x => exact ⟨x, rfl, h⟩
theorem ob_some {α β : Type} {x : α} {f : α → Option β} : ob (some x) f = f x := rfl
inductive LO (S R : Type) where
  | ex (s : S)
  | rt (r : R)
def LO.on {S R β : Type} (o : LO S R) (f : S → β) (g : R → β) : β := match o with | .ex s => f s | .rt r => g r
theorem LO.on_ex {S R β : Type} {s : S} {f : S → β} {g : R → β} : (LO.ex s : LO S R).on f g = f s := rfl
theorem LO.on_rt {S R β : Type} {r : R} {f : S → β} {g : R → β} : (LO.rt r : LO S R).on f g = g r := rfl
theorem ift {α : Type} {p : Prop} [Decidable p] {a b : Option α} {r : α} (h : (if p then a else b) = some r) (c : p) : a = some r := by rwa [if_pos c] at h
theorem iff0 {α : Type} {p : Prop} [Decidable p] {a b : Option α} {r : α} (h : (if p then a else b) = some r) (c : ¬ p) : b = some r := by rwa [if_neg c] at h
theorem nltO {a b : Nat} (h : b ≤ a) : ¬ a < b := Nat.not_lt.2 h
theorem nleO {a b : Nat} (h : b < a) : ¬ a ≤ b := Nat.not_le.2 h
theorem nltZ {a b : Int} (h : b ≤ a) : ¬ a < b := Int.not_lt.2 h
theorem nneO {α : Sort _} {a b : α} (h : a = b) : ¬ a ≠ b := fun g => g h
theorem nbT {b : Bool} (h : b = true) : ¬ b = false := by rw [h]; decide
abbrev Up (G : Nat → Prop) (h : Hp) (G' : Nat → Prop) (h' : Hp) : Prop := ∀ k, G k → G' k ∧ hget h' k = hget h k
abbrev Low (h : Hp) : Nat → Prop := fun k => k < h.next
theorem Up.refl (G : Nat → Prop) (h : Hp) : Up G h G h := fun k hk => ⟨hk, rfl⟩
theorem Up.trans {G G' G'' : Nat → Prop} {h h' h'' : Hp} (a : Up G h G' h') (b : Up G' h' G'' h'') : Up G h G'' h'' := fun k hk => ⟨(b k (a k hk).1).1, (b k (a k hk).1).2.trans (a k hk).2⟩
theorem Sep.low {os : List AObj} {h : Hp} (S : Sep os h) {i : Nat} {G : Nat → Prop} {h0 : Hp} (hi : os[i]? = some (Frz G h0)) : Up G h0 (Low h) h := fun k hk => S.frozen hi hk
theorem BIn.up {G G' : Nat → Prop} {h h' : Hp} {v : AV} {l : List Nat} (u : Up G h G' h') (P : BIn G h v l) : BIn G' h' v l := by
  obtain ⟨⟨B, P⟩, hG⟩ := P
  cases P with
  | nil => exact .nil
  | sl hB hg hcl hl hm hc hb =>
    obtain ⟨h1, h2⟩ := u _ (hG _ rfl)
    exact ⟨⟨_, .sl (Nat.lt_succ_self _) (h2.trans hg) hcl hl hm hc hb⟩, fun b e => by cases e; exact h1⟩
theorem Sep.empty {os : List AObj} {h : Hp} (S : Sep os h) : Sep (Frz (fun _ => False) h :: os) h :=
  S.add (fun _ => False) (Nat.le_refl _) ⟨fun _ e => e, fun _ e => e.elim⟩ (fun _ e => e.elim) fun _ _ => rfl
theorem Sep.merge {os : List AObj} {h : Hp} {G1 G2 : Nat → Prop} {h1 h2 : Hp} (S : Sep (Frz G1 h1 :: Frz G2 h2 :: os) h) : Sep (Frz (fun k => G1 k ∨ G2 k) h :: os) h := by
  obtain ⟨g, g1, g2, g3⟩ := S
  refine ⟨fun j => Nat.casesOn j (fun k => g 0 k ∨ g 1 k) (fun j => g (j + 2)), fun j x hj => ?_, fun j k hk => ?_, fun j1 j2 k a b => ?_⟩
  · cases j with
    | zero => cases hj; exact ⟨fun k hk => hk.imp ((g1 0 _ rfl).1 k) ((g1 1 _ rfl).1 k), fun k hk => rfl⟩
    | succ j => exact g1 (j + 2) x hj
  · cases j with
    | zero => exact hk.elim (g2 0 k) (g2 1 k)
    | succ j => exact g2 _ k hk
  · cases j1 with
    | zero =>
      cases j2 with
      | zero => rfl
      | succ j2 => rcases a with a | a <;> have := g3 _ _ k a b <;> omega
    | succ j1 =>
      cases j2 with
      | zero => rcases b with b | b <;> have := g3 _ _ k a b <;> omega
      | succ j2 => have := g3 _ _ k a b; omega
theorem Sep.up1 {os : List AObj} {h : Hp} {G1 G2 : Nat → Prop} {h1 h2 : Hp} (S : Sep (Frz G1 h1 :: Frz G2 h2 :: os) h) : Up G1 h1 (fun k => G1 k ∨ G2 k) h := fun k hk => ⟨.inl hk, (S.frozen (i := 0) rfl hk).2⟩
theorem Sep.up2 {os : List AObj} {h : Hp} {G1 G2 : Nat → Prop} {h1 h2 : Hp} (S : Sep (Frz G1 h1 :: Frz G2 h2 :: os) h) : Up G2 h2 (fun k => G1 k ∨ G2 k) h := fun k hk => ⟨.inr hk, (S.frozen (i := 1) rfl hk).2⟩
theorem Sep.call {os news : List AObj} {h rh : Hp} (S : Sep os h) (S' : Sep (news ++ [Frz (Low h) h]) rh) : Sep (news ++ os) rh := by
  have hi : (news ++ [Frz (Low h) h])[news.length]? = some (Frz (Low h) h) := by simp
  have fz : ∀ k, k < h.next → k < rh.next ∧ hget rh k = hget h k := fun k hk => S'.frozen hi hk
  obtain ⟨g, g1, g2, g3⟩ := S
  obtain ⟨f, f1, f2, f3⟩ := S'
  have fn : ∀ k, k < h.next → f news.length k := (f1 _ _ hi).1
  have fne : ∀ i k, i < news.length → f i k → ¬ k < h.next := fun i k hi' hf hk => by have := f3 _ _ k hf (fn k hk); omega
  refine ⟨fun j => if j < news.length then f j else g (j - news.length), fun j x hj => ?_, fun j k hk => ?_, fun j1 j2 k a b => ?_⟩
  · by_cases hlt : j < news.length
    · show x.p rh (if j < news.length then f j else g (j - news.length))
      rw [if_pos hlt]
      exact f1 j x (by rw [List.getElem?_append_left hlt] at hj ⊢; exact hj)
    · show x.p rh (if j < news.length then f j else g (j - news.length))
      rw [if_neg hlt]
      rw [List.getElem?_append_right (Nat.not_lt.1 hlt)] at hj
      exact x.loc (fun k hk => (fz k (g2 _ k hk)).2) (g1 _ x hj)
  · by_cases hlt : j < news.length
    · have hk : (if j < news.length then f j else g (j - news.length)) k := hk
      rw [if_pos hlt] at hk; exact f2 j k hk
    · have hk : (if j < news.length then f j else g (j - news.length)) k := hk
      rw [if_neg hlt] at hk; exact (fz k (g2 _ k hk)).1
  · have a : (if j1 < news.length then f j1 else g (j1 - news.length)) k := a
    have b : (if j2 < news.length then f j2 else g (j2 - news.length)) k := b
    by_cases h1 : j1 < news.length
    · rw [if_pos h1] at a
      by_cases h2 : j2 < news.length
      · rw [if_pos h2] at b; exact f3 _ _ k a b
      · rw [if_neg h2] at b; exact absurd (g2 _ k b) (fne _ k h1 a)
    · rw [if_neg h1] at a
      by_cases h2 : j2 < news.length
      · rw [if_pos h2] at b; exact absurd (g2 _ k a) (fne _ k h2 b)
      · rw [if_neg h2] at b; have := g3 _ _ k a b; omega
structure Rep (α : Type) where
  sz : Nat
  rep : (Nat → Prop) → Hp → List AV → α → Prop
  len : ∀ {G h cs x}, rep G h cs x → cs.length = sz
  cell : ∀ {G h cs x}, rep G h cs x → ∀ c ∈ cs, isCell c = true
  up : ∀ {G h G' h' cs x}, Up G h G' h' → rep G h cs x → rep G' h' cs x
def rU (k : IntKind) : Rep Nat where
  sz := 1
  rep _ _ cs x := cs = [.int k (.ofNat x)] ∧ x < modK k
  len := fun ⟨e, _⟩ => by rw [e]; rfl
  cell := fun ⟨e, _⟩ => by rw [e]; exact all_cell rfl all_cell0
  up := fun _ e => e
def rN (k : IntKind) : Rep Nat where
  sz := 1
  rep _ _ cs x := cs = [.int k (.ofNat x)] ∧ x < 9223372036854775808
  len := fun ⟨e, _⟩ => by rw [e]; rfl
  cell := fun ⟨e, _⟩ => by rw [e]; exact all_cell rfl all_cell0
  up := fun _ e => e
def rZ (k : IntKind) : Rep Int where
  sz := 1
  rep _ _ cs x := cs = [.int k x]
  len := fun e => by rw [e]; rfl
  cell := fun e => by rw [e]; exact all_cell rfl all_cell0
  up := fun _ e => e
def rN0 (k : IntKind) : Rep Nat where
  sz := 1
  rep _ _ cs x := cs = [.int k (.ofNat x)]
  len := fun e => by rw [e]; rfl
  cell := fun e => by rw [e]; exact all_cell rfl all_cell0
  up := fun _ e => e
def rB : Rep Bool where
  sz := 1
  rep _ _ cs x := cs = [.bool x]
  len := fun e => by rw [e]; rfl
  cell := fun e => by rw [e]; exact all_cell rfl all_cell0
  up := fun _ e => e
def rS : Rep (List Nat) where
  sz := 1
  rep _ _ cs x := cs = [.str x]
  len := fun e => by rw [e]; rfl
  cell := fun e => by rw [e]; exact all_cell rfl all_cell0
  up := fun _ e => e
def rY : Rep (List Nat) where
  sz := 1
  rep G h cs x := ∃ v, cs = [v] ∧ BIn G h v x
  len := fun ⟨v, e, _⟩ => by rw [e]; rfl
  cell := fun ⟨v, e, p⟩ => by rw [e]; exact all_cell p.cell all_cell0
  up := fun u ⟨v, e, p⟩ => ⟨v, e, p.up u⟩
def rP {α β : Type} (a : Rep α) (b : Rep β) : Rep (α × β) where
  sz := a.sz + b.sz
  rep G h cs x := ∃ c d, cs = c ++ d ∧ a.rep G h c x.1 ∧ b.rep G h d x.2
  len := fun ⟨c, d, e, p, q⟩ => by rw [e, List.length_append, a.len p, b.len q]
  cell := fun ⟨c, d, e, p, q⟩ => by
    rw [e]; intro x hx
    rcases List.mem_append.1 hx with hx | hx
    · exact a.cell p x hx
    · exact b.cell q x hx
  up := fun u ⟨c, d, e, p, q⟩ => ⟨c, d, e, a.up u p, b.up u q⟩
def Rows {α : Type} (a : Rep α) (G : Nat → Prop) (h : Hp) : List AV → List α → Prop
  | L, [] => L = []
  | L, x :: xs => ∃ c M, L = c ++ M ∧ a.rep G h c x ∧ Rows a G h M xs
theorem Rows.len {α : Type} {a : Rep α} {G : Nat → Prop} {h : Hp} : ∀ {xs : List α} {L : List AV}, Rows a G h L xs → L.length = xs.length * a.sz
  | [], L, e => by rw [show L = [] from e]; simp
  | x :: xs, L, ⟨c, M, e, p, q⟩ => by rw [e, List.length_append, a.len p, Rows.len q, List.length_cons, Nat.succ_mul]; omega
theorem Rows.cell {α : Type} {a : Rep α} {G : Nat → Prop} {h : Hp} : ∀ {xs : List α} {L : List AV}, Rows a G h L xs → ∀ c ∈ L, isCell c = true
  | [], L, e => by rw [show L = [] from e]; exact all_cell0
  | x :: xs, L, ⟨c, M, e, p, q⟩ => by
    rw [e]; intro y hy
    rcases List.mem_append.1 hy with hy | hy
    · exact a.cell p y hy
    · exact Rows.cell q y hy
theorem Rows.up {α : Type} {a : Rep α} {G G' : Nat → Prop} {h h' : Hp} (u : Up G h G' h') : ∀ {xs : List α} {L : List AV}, Rows a G h L xs → Rows a G' h' L xs
  | [], L, e => e
  | x :: xs, L, ⟨c, M, e, p, q⟩ => ⟨c, M, e, a.up u p, Rows.up u q⟩
theorem Rows.append {α : Type} {a : Rep α} {G : Nat → Prop} {h : Hp} : ∀ {xs ys : List α} {L M : List AV}, Rows a G h L xs → Rows a G h M ys → Rows a G h (L ++ M) (xs ++ ys)
  | [], ys, L, M, e, q => by rw [show L = [] from e]; exact q
  | x :: xs, ys, L, M, ⟨c, N, e, p, q⟩, r => ⟨c, N ++ M, by rw [e, List.append_assoc], p, Rows.append q r⟩
theorem Rows.one {α : Type} {a : Rep α} {G : Nat → Prop} {h : Hp} {x : α} {c : List AV} (p : a.rep G h c x) : Rows a G h c [x] := ⟨c, [], (List.append_nil c).symm, p, rfl⟩
theorem Rows.snoc {α : Type} {a : Rep α} {G : Nat → Prop} {h : Hp} {xs : List α} {L c : List AV} {x : α} (r : Rows a G h L xs) (p : a.rep G h c x) : Rows a G h (L ++ c) (xs ++ [x]) := r.append (.one p)
theorem Rows.get {α : Type} [Inhabited α] {a : Rep α} {G : Nat → Prop} {h : Hp} : ∀ {xs : List α} {L : List AV} {k : Nat}, Rows a G h L xs → k < xs.length → a.rep G h ((L.drop (k * a.sz)).take a.sz) (xs.getD k default)
  | [], L, k, _, hk => absurd hk (Nat.not_lt_zero _)
  | x :: xs, L, 0, ⟨c, M, e, p, q⟩, hk => by
    rw [Nat.zero_mul, List.drop_zero, e, List.take_append_of_le_length (by rw [a.len p]; exact Nat.le_refl _), List.take_of_length_le (by rw [a.len p]; exact Nat.le_refl _)]
    exact p
  | x :: xs, L, k + 1, ⟨c, M, e, p, q⟩, hk => by
    have hd : L.drop ((k + 1) * a.sz) = M.drop (k * a.sz) := by
      rw [e, List.drop_append, List.drop_of_length_le (by rw [a.len p, Nat.succ_mul]; omega), List.nil_append, a.len p]
      congr 1; rw [Nat.succ_mul]; omega
    rw [hd]
    exact Rows.get q (by simpa using hk)
inductive SIn {α : Type} (a : Rep α) (G : Nat → Prop) (h : Hp) : AV → List α → Prop
  | nil : SIn a G h .nilSlice []
  | sl {b o c : Nat} {ex : Bool} {cs : List AV} {m : Nat} {w : Own} {xs : List α} (hG : G b) (hg : hget h b = some (.cells cs m w)) (hcl : cs.length = m) (hm : o + xs.length * a.sz ≤ m) (hc : xs.length ≤ c)
      (hr : Rows a G h ((cs.drop o).take (xs.length * a.sz)) xs) : SIn a G h (.slice b o xs.length c a.sz ex) xs
theorem SIn.up {α : Type} {a : Rep α} {G G' : Nat → Prop} {h h' : Hp} {v : AV} {xs : List α} (u : Up G h G' h') (P : SIn a G h v xs) : SIn a G' h' v xs := by
  cases P with
  | nil => exact .nil
  | sl hG hg hcl hm hc hr => exact .sl (u _ hG).1 ((u _ hG).2.trans hg) hcl hm hc (hr.up u)
theorem SIn.cell {α : Type} {a : Rep α} {G : Nat → Prop} {h : Hp} {v : AV} {xs : List α} (P : SIn a G h v xs) : isCell v = true := by cases P <;> rfl
theorem SIn.cells {α : Type} {a : Rep α} {G : Nat → Prop} {h : Hp} {v : AV} {xs : List α} (P : SIn a G h v xs) : cellsOf v = [v] := by cases P <;> rfl
theorem SIn.same {α : Type} {a : Rep α} {G : Nat → Prop} {h : Hp} {v : AV} {xs : List α} (P : SIn a G h v xs) : avEq v v = true := by
  cases P with
  | nil => rfl
  | sl => exact avEq_slice ..
def rL {α : Type} (a : Rep α) : Rep (List α) where
  sz := 1
  rep G h cs x := ∃ v, cs = [v] ∧ SIn a G h v x
  len := fun ⟨v, e, _⟩ => by rw [e]; rfl
  cell := fun ⟨v, e, p⟩ => by rw [e]; exact all_cell p.cell all_cell0
  up := fun u ⟨v, e, p⟩ => ⟨v, e, p.up u⟩
theorem sin_len {α : Type} {a : Rep α} {G : Nat → Prop} {h : Hp} {v : AV} {xs : List α} (P : SIn a G h v xs) : evQ (.lenL (.const v)) .lf H0 = .ok (.int .i64 (.ofNat xs.length)) := by cases P <;> rfl
theorem sin_idx {α : Type} {a : Rep α} {G : Nat → Prop} {h : Hp} {v : AV} {xs : List α} (P : SIn a G h v xs) {k : Nat} (hk : k < xs.length) : evQ (.idxAddrSl a.sz (.const v) (.const (.int .i64 (.ofNat k)))) .lf H0 = .ok (elemP v k a.sz) := by
  cases P with
  | nil => exact absurd hk (Nat.not_lt_zero _)
  | sl hG hg hcl hm hc hr => exact q_idx hk
noncomputable def elemO (v : AV) (k sz off : Nat) : AV := v.asSlice .nilPtr .nilPtr fun b o _ _ _ _ => .ptr b (o + k * sz + off)
def RowAt (G : Nat → Prop) (h : Hp) (v : AV) (k sz : Nat) (cs : List AV) : Prop :=
  ∃ b o n c ex L m w, v = .slice b o n c sz ex ∧ G b ∧ hget h b = some (.cells L m w) ∧ L.length = m ∧ o + k * sz + sz ≤ m ∧ (L.drop (o + k * sz)).take sz = cs
theorem sin_row {α : Type} [Inhabited α] {a : Rep α} {G : Nat → Prop} {h : Hp} {v : AV} {xs : List α} (P : SIn a G h v xs) {k : Nat} (hk : k < xs.length) : ∃ cs, a.rep G h cs (xs.getD k default) ∧ RowAt G h v k a.sz cs := by
  cases P with
  | nil => exact absurd hk (Nat.not_lt_zero _)
  | @sl b o c ex cs m w xs hG hg hcl hm hc hr =>
    refine ⟨_, hr.get hk, b, o, _, c, ex, cs, m, w, rfl, hG, hg, hcl, ?_, ?_⟩
    · have := Nat.mul_le_mul_right a.sz (show k + 1 ≤ xs.length from hk)
      rw [Nat.succ_mul] at this; omega
    · have h1 := Nat.mul_le_mul_right a.sz (show k + 1 ≤ xs.length from hk)
      rw [Nat.succ_mul] at h1
      rw [List.drop_take, List.take_take, List.drop_drop]
      congr 1; omega
theorem row_elem {G : Nat → Prop} {h : Hp} {v : AV} {k sz : Nat} {cs : List AV} (R : RowAt G h v k sz cs) : elemP v k sz = elemO v k sz 0 := by
  obtain ⟨b, o, n, c, ex, L, m, w, rfl, _⟩ := R; rfl
theorem row_loadO {os : List AObj} {h : Hp} (S : Sep os h) {i : Nat} {G : Nat → Prop} {h0 : Hp} (hi : os[i]? = some (Frz G h0)) {v : AV} {k sz off : Nat} {cs : List AV} (R : RowAt G h0 v k sz cs) {x : AV} (hx : cs[off]? = some x) : evQ (.loadS (.const (elemO v k sz off))) .lf h = .ok x := by
  obtain ⟨b, o, n, c, ex, L, m, w, rfl, hG, hg, hl, hm, rfl⟩ := R
  refine q_load ((S.frozen hi hG).2.trans hg) ?_
  have hlt : off < sz := by
    have := (List.getElem?_eq_some_iff.1 hx).1
    rw [List.length_take] at this; omega
  rw [List.getElem?_take_of_lt hlt, List.getElem?_drop] at hx
  exact hx
theorem row_load {os : List AObj} {h : Hp} (S : Sep os h) {i : Nat} {G : Nat → Prop} {h0 : Hp} (hi : os[i]? = some (Frz G h0)) {v : AV} {k sz : Nat} {cs : List AV} (R : RowAt G h0 v k sz cs) {x : AV} (hx : cs[0]? = some x) : evQ (.loadS (.const (elemP v k sz))) .lf h = .ok x := by
  rw [row_elem R]; exact row_loadO S hi R hx
theorem row_loadAO {os : List AObj} {h : Hp} (S : Sep os h) {i : Nat} {G : Nat → Prop} {h0 : Hp} (hi : os[i]? = some (Frz G h0)) {v : AV} {k sz off n : Nat} {cs : List AV} (R : RowAt G h0 v k sz cs) (hn : off + n ≤ cs.length) : evQ (.loadA n (.const (elemO v k sz off))) .lf h = .ok (.agg ((cs.drop off).take n)) := by
  obtain ⟨b, o, n', c, ex, L, m, w, rfl, hG, hg, hl, hm, rfl⟩ := R
  show rdN h b (o + k * sz + off) n OV.no (fun l => .ok (.agg l)) = _
  rw [List.length_take, List.length_drop] at hn
  rw [rdN_of ((S.frozen hi hG).2.trans hg) (by omega) hl, List.drop_take, List.take_take, List.drop_drop, Nat.min_eq_left (by omega)]
theorem row_loadA {os : List AObj} {h : Hp} (S : Sep os h) {i : Nat} {G : Nat → Prop} {h0 : Hp} (hi : os[i]? = some (Frz G h0)) {v : AV} {k sz n : Nat} {cs : List AV} (R : RowAt G h0 v k sz cs) (hn : n ≤ cs.length) : evQ (.loadA n (.const (elemP v k sz))) .lf h = .ok (.agg (cs.take n)) := by
  rw [row_elem R, row_loadAO S hi R (by omega), List.drop_zero]
theorem own_freezeR {α : Type} {a : Rep α} {os : List AObj} {h : Hp} {n : Nat} {v : AV} {L : List AV} {G1 : Nat → Prop} {h1 : Hp} {xs : List α} (S : Sep (OwnO a.sz v n L :: Frz G1 h1 :: os) h) (r : Rows a G1 h1 L xs) (hn : n = xs.length) :
    ∃ G : Nat → Prop, SIn a G h v xs ∧ Up G1 h1 G h ∧ Sep (Frz G h :: os) h := by
  obtain ⟨G, o, _, S'⟩ := S.freeze (i := 0) rfl
  have S' : Sep (Frz G h :: Frz G1 h1 :: os) h := S'
  refine ⟨_, ?_, S'.up2, S'.merge⟩
  subst hn
  have hr := r.up S'.up2
  have o : OwnI a.sz h G v xs.length L := o
  generalize hxs : xs.length = n at o
  cases o with
  | nil =>
    obtain rfl := List.length_eq_zero_iff.1 hxs
    exact .nil
  | @sl b n c ex w Lc L hG hg hl hn hL hw =>
    subst hxs
    have := Nat.mul_le_mul_right a.sz hn
    exact .sl (.inl hG) hg hl (by omega) hn (by rw [List.drop_zero, hL]; exact hr)
theorem own_rows_nil {α : Type} (a : Rep α) (G : Nat → Prop) (h : Hp) : Rows a G h [] [] := rfl
end Eng
end
section
set_option linter.unusedVariables false
set_option linter.unusedSimpArgs false
namespace Eng
open Go Go.RowKit
theorem Sep.sel {os : List AObj} {h : Hp} (S : Sep os h) (is : List Nat) (hn : is.Nodup) {new : List AObj} (hnew : is.map (fun i => os[i]?) = new.map some) : Sep new h := by
  obtain ⟨g, g1, g2, g3⟩ := S
  have hl : is.length = new.length := by simpa using congrArg List.length hnew
  refine ⟨fun j k => ∃ i, is[j]? = some i ∧ g i k, fun j x hj => ?_, fun j k ⟨i, _, hk⟩ => g2 i k hk, fun j1 j2 k ⟨i1, h1, k1⟩ ⟨i2, h2, k2⟩ => ?_⟩
  · have hjl : j < is.length := by rw [hl]; exact (List.getElem?_eq_some_iff.1 hj).1
    have e1 : (is.map (fun i => os[i]?))[j]? = some (os[is[j]]?) := by rw [List.getElem?_map, List.getElem?_eq_getElem hjl]; rfl
    rw [hnew, List.getElem?_map, hj] at e1
    have e2 : os[is[j]]? = some x := (Option.some.inj e1).symm
    have : (fun k => ∃ i, is[j]? = some i ∧ g i k) = g is[j] := by
      funext k
      apply propext
      constructor
      · rintro ⟨i, hi, hk⟩
        rw [List.getElem?_eq_getElem hjl] at hi
        cases hi; exact hk
      · exact fun hk => ⟨_, List.getElem?_eq_getElem hjl, hk⟩
    show x.p h (fun k => ∃ i, is[j]? = some i ∧ g i k)
    rw [this]; exact g1 _ x e2
  · have := g3 i1 i2 k k1 k2
    subst this
    obtain ⟨a1, b1⟩ := List.getElem?_eq_some_iff.1 h1
    obtain ⟨a2, b2⟩ := List.getElem?_eq_some_iff.1 h2
    exact (List.getElem_inj hn).1 (b1.trans b2.symm)
theorem Sep.mergeX {os : List AObj} {h : Hp} {G1 G2 : Nat → Prop} {h1 h2 : Hp} (S : Sep (Frz G1 h1 :: Frz G2 h2 :: os) h) : ∃ G : Nat → Prop, Up G1 h1 G h ∧ Up G2 h2 G h ∧ Sep (Frz G h :: os) h :=
  ⟨_, S.up1, S.up2, S.merge⟩
theorem RowAt.up {G G' : Nat → Prop} {h h' : Hp} {v : AV} {k sz : Nat} {cs : List AV} (u : Up G h G' h') (R : RowAt G h v k sz cs) : RowAt G' h' v k sz cs := by
  obtain ⟨b, o, n, c, ex, L, m, w, e, hG, hg, r⟩ := R
  exact ⟨b, o, n, c, ex, L, m, w, e, (u b hG).1, ((u b hG).2).trans hg, r⟩
end Eng
end
section
set_option linter.unusedVariables false
set_option linter.unusedSimpArgs false
namespace Eng
open Go Go.RowKit
theorem own_idx {os : List AObj} {h : Hp} (S : Sep os h) {i sz n k : Nat} {v : AV} {L : List AV} (hi : os[i]? = some (OwnO sz v n L)) (hk : k < n) : evQ (.idxAddrSl sz (.const v) (.const (.int .i64 (.ofNat k)))) .lf H0 = .ok (elemP v k sz) := by
  obtain ⟨G, o⟩ := own_get S hi
  cases o with
  | nil => exact absurd hk (Nat.not_lt_zero _)
  | sl hG hg hl hn hL hw => exact q_idx hk
theorem own_load1 {os : List AObj} {h : Hp} (S : Sep os h) {i n k : Nat} {v : AV} {L : List AV} (hi : os[i]? = some (OwnO 1 v n L)) {x : AV} (hx : L[k]? = some x) : evQ (.loadS (.const (elemP v k 1))) .lf h = .ok x := by
  obtain ⟨G, o⟩ := own_get S hi
  have hk : k < L.length := (List.getElem?_eq_some_iff.1 hx).1
  cases o with
  | nil => exact absurd hk (Nat.not_lt_zero _)
  | @sl b n c ex w Lc L hG hg hl hn hL hw =>
    refine q_load hg ?_
    rw [← hL] at hx
    rw [List.getElem?_take] at hx
    split at hx
    · rw [Nat.zero_add, Nat.mul_one]; exact hx
    · cases hx
theorem Rows.one_at {α : Type} [Inhabited α] {a : Rep α} {G : Nat → Prop} {h : Hp} {xs : List α} {L : List AV} {k : Nat} (ha : a.sz = 1) (r : Rows a G h L xs) (hk : k < xs.length) {f : α → AV} (hv : ∀ cs x, a.rep G h cs x → cs = [f x]) : L[k]? = some (f (xs.getD k default)) := by
  have := hv _ _ (r.get hk)
  rw [ha, Nat.mul_one] at this
  have h2 := congrArg (·[0]?) this
  simpa using h2
theorem own_loadR {α : Type} [Inhabited α] {a : Rep α} {G : Nat → Prop} {h0 : Hp} {os : List AObj} {h : Hp} (S : Sep os h) {i n k : Nat} {v : AV} {L : List AV} {xs : List α} (ha : a.sz = 1) (hi : os[i]? = some (OwnO 1 v n L)) (r : Rows a G h0 L xs) (hk : k < xs.length) {f : α → AV} (hv : ∀ cs x, a.rep G h0 cs x → cs = [f x]) :
    evQ (.loadS (.const (elemP v k 1))) .lf h = .ok (f (xs.getD k default)) := own_load1 S hi (r.one_at ha hk hv)
end Eng
namespace Eng
open Go Go.RowKit
end Eng
namespace Eng
open Go Go.RowKit
theorem TwinAt.now {os : List AObj} {h h0 : Hp} {v : AV} {l : List Nat} (S : Sep os h) {i : Nat} (hi : os[i]? = some (Frz (Low h0) h0)) (t : TwinAt h0 v l) : TwinAt h v l := by
  obtain ⟨b, w, e, hb, hg, hl⟩ := t
  obtain ⟨h1, h2⟩ := S.frozen hi hb
  exact ⟨b, w, e, h1, h2.trans hg, hl⟩
theorem sin_src {os : List AObj} {h : Hp} (S : Sep os h) {i : Nat} {G : Nat → Prop} {h0 : Hp} (hi : os[i]? = some (Frz G h0)) {α : Type} {a : Rep α} {v : AV} {xs : List α} (P : SIn a G h0 v xs) :
    ∃ cs, Eng.Rows a G h0 cs xs ∧ cs.length = xs.length * a.sz ∧ (∀ c ∈ cs, isCell c = true) ∧ ∀ {β : Type} (z : β) (k : Nat → List AV → β), src h a.sz v z k = k xs.length cs := by
  cases P with
  | nil => exact ⟨[], rfl, by simp, all_cell0, fun z k => rfl⟩
  | @sl b o c ex cs m w xs hG hg hcl hm hc hr =>
    obtain ⟨h1, h2⟩ := S.frozen hi hG
    refine ⟨_, hr, hr.len, hr.cell, fun z k => ?_⟩
    show bc (Nat.beq a.sz a.sz) (rdN h b o (Nat.mul xs.length a.sz) z fun l => k xs.length l) z = _
    rw [Nat.beq_refl]
    show rdN h b o (xs.length * a.sz) z _ = _
    rw [rdN_of (h2.trans hg) hm hcl]
end Eng
end
section
set_option linter.unusedVariables false
set_option linter.unusedSimpArgs false
namespace Eng
open Go Go.RowKit Go.ChangeShapes Go.WideShapes
structure Piece where
  v : Value
  bl : List (Nat × Nat × (Nat → List AV))
  av : Nat → AV
def sizeAt (w : World) (c : Nat) : Nat := match w.heap[c]? with | some (.cells arr _ _) => arr.size | _ => 0
def Piece.ok (w : World) (p : Piece) : Prop := ∀ (μ : Mp) (B : Nat), (∀ (k c s : Nat) (g : Nat → List AV), p.bl[k]? = some (c, s, g) → μ.at_ (B + k) = some (c, s)) → (∀ c, μ.size c = sizeAt w c) →
  VR μ (p.av B) p.v ∧ ∀ (k c s : Nat) (g : Nat → List AV), p.bl[k]? = some (c, s, g) → ∃ arr e fr, w.heap[c]? = some (.cells arr e fr) ∧ (∀ v ∈ g B, isCell v = true) ∧ ∀ (i : Nat) (v : AV), (g B)[i]? = some v → ∃ x, arr[s + i]? = some x ∧ VR μ v x
def lay : Nat → List Piece → List (Nat × Nat × List AV)
  | _, [] => []
  | B, p :: ps => p.bl.map (fun q => (q.1, q.2.1, q.2.2 B)) ++ lay (B + p.bl.length) ps
theorem lay_at : ∀ (ps : List Piece) (B i : Nat) (p : Piece), ps[i]? = some p → ∃ D, ∀ (k c s : Nat) (g : Nat → List AV), p.bl[k]? = some (c, s, g) → (lay B ps)[D + k]? = some (c, s, g (B + D))
  | [], B, i, p, h => by simp at h
  | q :: ps, B, 0, p, h => ⟨0, fun k c s g hk => by
    obtain rfl : q = p := by simpa using h
    have hlt := (List.getElem?_eq_some_iff.1 hk).1
    rw [Nat.zero_add]
    show (q.bl.map (fun q => (q.1, q.2.1, q.2.2 B)) ++ lay (B + q.bl.length) ps)[k]? = _
    rw [List.getElem?_append_left (by simpa using hlt), List.getElem?_map, hk]; rfl⟩
  | q :: ps, B, i + 1, p, h => by
    obtain ⟨D, hD⟩ := lay_at ps (B + q.bl.length) i p (by simpa using h)
    refine ⟨q.bl.length + D, fun k c s g hk => ?_⟩
    have := hD k c s g hk
    show (q.bl.map (fun q => (q.1, q.2.1, q.2.2 B)) ++ lay (B + q.bl.length) ps)[q.bl.length + D + k]? = _
    rw [List.getElem?_append_right (by simp; omega), List.length_map, show q.bl.length + D + k - q.bl.length = D + k by omega, this, Nat.add_assoc]
theorem lay_from : ∀ (ps : List Piece) (B j : Nat) (q : Nat × Nat × List AV), (lay B ps)[j]? = some q → ∃ (i : Nat) (p : Piece) (D k c s : Nat) (g : Nat → List AV), ps[i]? = some p ∧ p.bl[k]? = some (c, s, g) ∧ D + k = j ∧ q = (c, s, g (B + D)) ∧
    ∀ (k c s : Nat) (g : Nat → List AV), p.bl[k]? = some (c, s, g) → (lay B ps)[D + k]? = some (c, s, g (B + D))
  | [], B, j, q, h => by simp [lay] at h
  | p :: ps, B, j, q, h => by
    have h : (p.bl.map (fun q => (q.1, q.2.1, q.2.2 B)) ++ lay (B + p.bl.length) ps)[j]? = some q := h
    by_cases hj : j < p.bl.length
    · rw [List.getElem?_append_left (by simpa using hj), List.getElem?_map, List.getElem?_eq_getElem hj] at h
      simp only [Option.map_some, Option.some.injEq] at h
      refine ⟨0, p, 0, j, _, _, _, rfl, List.getElem?_eq_getElem hj, by omega, h.symm, fun k c s g hk => ?_⟩
      have hlt := (List.getElem?_eq_some_iff.1 hk).1
      rw [Nat.zero_add]
      show (p.bl.map (fun q => (q.1, q.2.1, q.2.2 B)) ++ lay (B + p.bl.length) ps)[k]? = _
      rw [List.getElem?_append_left (by simpa using hlt), List.getElem?_map, hk]; rfl
    · rw [List.getElem?_append_right (by simp; omega), List.length_map] at h
      obtain ⟨i, p', D, k, c, s, g, h1, h2, h3, h4, h5⟩ := lay_from ps (B + p.bl.length) (j - p.bl.length) q h
      refine ⟨i + 1, p', p.bl.length + D, k, c, s, g, by simpa using h1, h2, by omega, by rw [h4, Nat.add_assoc], fun k c s g hk => ?_⟩
      have := h5 k c s g hk
      show (p.bl.map (fun q => (q.1, q.2.1, q.2.2 B)) ++ lay (B + p.bl.length) ps)[p.bl.length + D + k]? = _
      rw [List.getElem?_append_right (by simp; omega), List.length_map, show p.bl.length + D + k - p.bl.length = D + k by omega, this, Nat.add_assoc]
theorem start_pieces {w : World} (ps : List Piece) (hp : ∀ p ∈ ps, p.ok w) : ∃ (μ : Mp) (h : Hp), Sim μ h w ∧ (∀ c, μ.own c = false) ∧
    ∀ (i : Nat) (p : Piece), ps[i]? = some p → ∃ B, VR μ (p.av B) p.v ∧ ∀ (k c s : Nat) (g : Nat → List AV), p.bl[k]? = some (c, s, g) → B + k < h.next ∧ hget h (B + k) = some (.cells (g B) (g B).length .ro) := by
  let L := lay 0 ps
  let f : Nat → Nat × Nat := fun b => match L[b]? with | some q => (q.1, q.2.1) | none => (0, 0)
  let g : Nat → List AV := fun b => match L[b]? with | some q => q.2.2 | none => []
  have hfb : ∀ b q, L[b]? = some q → f b = (q.1, q.2.1) := fun b q h => by show (match L[b]? with | some q => (q.1, q.2.1) | none => (0, 0)) = _; rw [h]
  have hgb : ∀ b q, L[b]? = some q → g b = q.2.2 := fun b q h => by show (match L[b]? with | some q => q.2.2 | none => []) = _; rw [h]
  let μ := startM L.length f w
  have hat : ∀ b q, L[b]? = some q → μ.at_ b = some (q.1, q.2.1) := fun b q h => by
    show (if b < L.length then some (f b) else none) = _
    rw [if_pos (List.getElem?_eq_some_iff.1 h).1, hfb b q h]
  have hsz : ∀ c, μ.size c = sizeAt w c := fun c => rfl
  obtain ⟨h, h1, h2, h3⟩ := start_ok (n := L.length) (f := f) (g := g) (w := w) fun b hb => by
    obtain ⟨q, hq⟩ : ∃ q, L[b]? = some q := ⟨L[b], List.getElem?_eq_getElem hb⟩
    obtain ⟨i, p, D, k, c, s, gg, e1, e2, e3, e4, e5⟩ := lay_from ps 0 b q hq
    rw [Nat.zero_add] at e4 e5
    have := (hp p (List.mem_of_getElem? e1) μ D (fun k c s g hk => hat _ _ (e5 k c s g hk)) hsz).2 k c s gg e2
    rw [hfb b q hq, hgb b q hq, e4]
    exact this
  refine ⟨μ, h, h3, fun _ => rfl, fun i p hi => ?_⟩
  obtain ⟨D, hD⟩ := lay_at ps 0 i p hi
  rw [Nat.zero_add] at hD
  refine ⟨D, (hp p (List.mem_of_getElem? hi) μ D (fun k c s g hk => hat _ _ (hD k c s g hk)) hsz).1, fun k c s gg hk => ?_⟩
  have hq := hD k c s gg hk
  have hlt : D + k < L.length := (List.getElem?_eq_some_iff.1 hq).1
  refine ⟨by rw [h1]; exact hlt, ?_⟩
  rw [h2 _ hlt, hgb _ _ hq]
structure YArg where
  v : Value
  c : Nat
  s : Nat
  cap : Nat
  l : List Nat
  k : Nat
def YArg.lies (w : World) (a : YArg) : Prop := (∀ x ∈ a.l, x < 256) ∧ ((a.k = 0 ∧ a.v = .slice none 0 0 ∧ a.l = []) ∨ (a.k = 1 ∧ (∃ ad, a.v = .slice (some ad) 0 0) ∧ a.l = []) ∨
  (a.k = 2 ∧ a.v = .slice (some ⟨a.c, a.s, none⟩) a.l.length a.cap ∧ a.l.length ≤ a.cap ∧ ∃ arr e fr, w.heap[a.c]? = some (.cells arr e fr) ∧ a.s + a.cap ≤ arr.size ∧ ∀ (i : Nat) (x : Nat), a.l[i]? = some x → arr[a.s + i]? = some (.int .u8 (.ofNat x))))
def YArg.av (a : YArg) (b0 bj : Nat) : AV := if a.k = 0 then .nilSlice else if a.k = 1 then .slice b0 0 0 0 1 true else .slice bj 0 a.l.length a.cap 1 true
noncomputable def YArg.bl (a : YArg) (c0 s0 : Nat) : Nat × Nat × (Nat → List AV) := if a.k = 2 then (a.c, a.s, fun _ => u8s a.l) else (c0, s0, fun _ => [])
theorem YArg.vr {w : World} {a : YArg} (ha : a.lies w) {μ : Mp} {b0 bj c0 s0 : Nat} (h0 : μ.at_ b0 = some (c0, s0)) (hj : a.k = 2 → μ.at_ bj = some (a.c, a.s)) (hz : ∀ c, μ.size c = sizeAt w c) : VR μ (a.av b0 bj) a.v := by
  obtain ⟨_, ⟨hk, hv, _⟩ | ⟨hk, ⟨ad, hv⟩, _⟩ | ⟨hk, hv, hl, arr, e, fr, hh, hs, _⟩⟩ := ha
  · unfold YArg.av; rw [if_pos hk, hv, VR_nilSlice]
  · unfold YArg.av
    rw [if_neg (by omega), if_pos hk, hv, VR_slice]
    exact ⟨c0, s0, ad, 0, h0, rfl, Nat.le_refl _, Nat.le_refl _, fun _ => rfl, fun h => absurd rfl h⟩
  · unfold YArg.av
    rw [if_neg (by omega), if_neg (by omega), hv, VR_slice]
    refine ⟨a.c, a.s, ⟨a.c, a.s, none⟩, a.cap, hj hk, rfl, hl, Nat.le_refl _, fun _ => rfl, fun _ => ⟨rfl, ?_⟩⟩
    rw [hz]; unfold sizeAt; rw [hh]
    show a.s + 0 + a.cap * 1 ≤ arr.size
    omega
theorem YArg.cell (a : YArg) (b0 bj : Nat) : isCell (a.av b0 bj) = true := by
  unfold YArg.av
  repeat' split
  all_goals rfl
theorem YArg.bin {w : World} {a : YArg} (ha : a.lies w) {h : Hp} {b0 bj : Nat} {cs : List AV} {m : Nat} {o : Own} (h0 : b0 < h.next) (g0 : hget h b0 = some (.cells cs m o)) (hm : cs.length = m) (hj : a.k = 2 → bj < h.next ∧ hget h bj = some (.cells (u8s a.l) (u8s a.l).length .ro)) :
    BIn (fun k => k < h.next) h (a.av b0 bj) a.l := by
  obtain ⟨hb, ⟨hk, hv, hl⟩ | ⟨hk, ⟨ad, hv⟩, hl⟩ | ⟨hk, hv, hl, arr, e, fr, hh, hs, _⟩⟩ := ha
  · unfold YArg.av; rw [if_pos hk, hl]; exact BIn.nil
  · unfold YArg.av
    rw [if_neg (by omega), if_pos hk, hl]
    exact BIn.of (.sl (l := []) h0 g0 hm rfl (by simp) (by simp) (by simp))
  · unfold YArg.av
    rw [if_neg (by omega), if_neg (by omega)]
    obtain ⟨j1, j2⟩ := hj hk
    exact BIn.of (.sl j1 j2 rfl (by rw [List.drop_zero, List.take_of_length_le (by rw [u8s_length]; exact Nat.le_refl _)]) (by rw [u8s_length]; omega) hl hb)
structure EArg where
  ns : List Int
  y : YArg
def numsV (ks : List IntKind) (ns : List Int) : List Value := List.zipWith (fun k n => .int k n) ks ns
def numsA (ks : List IntKind) (ns : List Int) : List AV := List.zipWith (fun k n => .int k n) ks ns
def EArg.lies (w : World) (ks : List IntKind) (e : EArg) : Prop := e.ns.length = ks.length ∧ (∀ (i : Nat) (k : IntKind) (n : Int), ks[i]? = some k → e.ns[i]? = some n → (Lit.int k n).wf = true) ∧ e.y.lies w
def EArg.cells (ks : List IntKind) (e : EArg) : List Value := numsV ks e.ns ++ [e.y.v]
theorem nums_len {ks : List IntKind} {ns : List Int} (h : ns.length = ks.length) : (numsA ks ns).length = ks.length := by unfold numsA; rw [List.length_zipWith]; omega
theorem nums_VRs {μ : Mp} : ∀ (ks : List IntKind) (ns : List Int), VRs μ (numsA ks ns) (numsV ks ns)
  | [], ns => by show VRs μ [] _; rw [VRs_nil]; rfl
  | k :: ks, [] => by show VRs μ [] _; rw [VRs_nil]; rfl
  | k :: ks, n :: ns => by
    show VRs μ (.int k n :: numsA ks ns) (.int k n :: numsV ks ns)
    rw [VRs_cons]
    exact ⟨_, _, rfl, by rw [VR_int], nums_VRs ks ns⟩
theorem nums_cell : ∀ (ks : List IntKind) (ns : List Int), ∀ v ∈ numsA ks ns, isCell v = true
  | [], ns => fun v hv => by cases hv
  | k :: ks, [] => fun v hv => by cases hv
  | k :: ks, n :: ns => fun v hv => by
    rcases List.mem_cons.1 hv with rfl | hv
    · rfl
    · exact nums_cell ks ns v hv
def EArg.av (ks : List IntKind) (e : EArg) (b0 bj : Nat) : List AV := numsA ks e.ns ++ [e.y.av b0 bj]
def rowsAV (ks : List IntKind) (B : Nat) : Nat → List EArg → List AV
  | _, [] => []
  | j, e :: es => e.av ks B (B + 1 + j) ++ rowsAV ks B (j + 1) es
theorem rows_at {w : World} {μ : Mp} {ks : List IntKind} {B c0 s0 : Nat} {arr : Array Value} (hB : μ.at_ B = some (c0, s0)) (hz : ∀ c, μ.size c = sizeAt w c) : ∀ (es : List EArg) (j o : Nat), (∀ e ∈ es, e.lies w ks) →
    (∀ (m : Nat) (e : EArg), es[m]? = some e → e.y.k = 2 → μ.at_ (B + 1 + (j + m)) = some (e.y.c, e.y.s)) →
    (∀ (m : Nat) (e : EArg), es[m]? = some e → ∀ (q : Nat) (x : Value), (e.cells ks)[q]? = some x → arr[o + m * (ks.length + 1) + q]? = some x) →
    ∀ (i : Nat) (v : AV), (rowsAV ks B j es)[i]? = some v → ∃ x, arr[o + i]? = some x ∧ VR μ v x
  | [], j, o, hl, hj, ha, i, v, h => by simp [rowsAV] at h
  | e :: es, j, o, hl, hj, ha, i, v, h => by
    have he := hl e (by simp)
    have hlen : (e.av ks B (B + 1 + j)).length = ks.length + 1 := by unfold EArg.av; rw [List.length_append, nums_len he.1]; rfl
    have hv : VRs μ (e.av ks B (B + 1 + j)) (e.cells ks) := (nums_VRs ks e.ns).append (by
      rw [VRs_cons]
      exact ⟨_, _, rfl, YArg.vr he.2.2 hB (fun hk => by have := hj 0 e rfl hk; rwa [Nat.add_zero] at this) hz, by rw [VRs_nil]⟩)
    have h : (e.av ks B (B + 1 + j) ++ rowsAV ks B (j + 1) es)[i]? = some v := h
    by_cases hi : i < ks.length + 1
    · rw [List.getElem?_append_left (by omega)] at h
      obtain ⟨x, hx, rx⟩ := hv.get i v h
      exact ⟨x, by have := ha 0 e rfl i x hx; rwa [Nat.zero_mul, Nat.add_zero] at this, rx⟩
    · rw [List.getElem?_append_right (by omega), hlen] at h
      obtain ⟨x, hx, rx⟩ := rows_at hB hz es (j + 1) (o + (ks.length + 1)) (fun e h => hl e (by simp [h])) (fun m e' hm hk => by
          have := hj (m + 1) e' (by simpa using hm) hk
          rwa [show j + (m + 1) = j + 1 + m by omega] at this)
        (fun m e' hm q x hq => by
          have := ha (m + 1) e' (by simpa using hm) q x hq
          rwa [Nat.succ_mul, show o + (m * (ks.length + 1) + (ks.length + 1)) + q = o + (ks.length + 1) + m * (ks.length + 1) + q by omega] at this) _ _ h
      exact ⟨x, by rw [← hx]; congr 1; omega, rx⟩
theorem rows_cell {ks : List IntKind} {B : Nat} : ∀ (es : List EArg) (j : Nat), ∀ v ∈ rowsAV ks B j es, isCell v = true
  | [], j => fun v hv => by cases hv
  | e :: es, j => fun v hv => by
    rcases List.mem_append.1 (show v ∈ e.av ks B (B + 1 + j) ++ rowsAV ks B (j + 1) es from hv) with hv | hv
    · rcases List.mem_append.1 hv with hv | hv
      · exact nums_cell _ _ v hv
      · rw [List.mem_singleton.1 hv]; exact YArg.cell _ _ _
    · exact rows_cell es (j + 1) v hv
theorem rows_len {w : World} {ks : List IntKind} {B : Nat} : ∀ (es : List EArg) (j : Nat), (∀ e ∈ es, e.lies w ks) → (rowsAV ks B j es).length = es.length * (ks.length + 1)
  | [], j, h => by simp [rowsAV]
  | e :: es, j, h => by
    show (e.av ks B (B + 1 + j) ++ rowsAV ks B (j + 1) es).length = _
    rw [List.length_append, rows_len es (j + 1) (fun e h' => h e (by simp [h']))]
    have h1 : (e :: es).length * (ks.length + 1) = es.length * (ks.length + 1) + (ks.length + 1) := by rw [List.length_cons, Nat.succ_mul]
    have h2 : (e.av ks B (B + 1 + j)).length = ks.length + 1 := by unfold EArg.av; rw [List.length_append, nums_len (h e (by simp)).1]; rfl
    omega
structure SArg where
  v : Value
  c : Nat
  s : Nat
  cap : Nat
  es : List EArg
  nil : Bool
def SArg.lies (w : World) (ks : List IntKind) (a : SArg) : Prop := (∀ e ∈ a.es, e.lies w ks) ∧ ((a.nil = true ∧ a.v = .slice none 0 0 ∧ a.es = []) ∨
  (a.nil = false ∧ a.v = .slice (some ⟨a.c, a.s, none⟩) a.es.length a.cap ∧ a.es.length ≤ a.cap ∧ ∃ arr e fr, w.heap[a.c]? = some (.cells arr e fr) ∧ (a.cap ≠ 0 → a.s + a.cap * (ks.length + 1) ≤ arr.size) ∧
    ∀ (m : Nat) (e : EArg), a.es[m]? = some e → ∀ (q : Nat) (x : Value), (e.cells ks)[q]? = some x → arr[a.s + m * (ks.length + 1) + q]? = some x))
noncomputable def SArg.piece (ks : List IntKind) (a : SArg) : Piece := if a.nil = true then ⟨a.v, [], fun _ => .nilSlice⟩ else
  ⟨a.v, (a.c, a.s, fun B => rowsAV ks B 0 a.es) :: a.es.map (fun e => e.y.bl a.c a.s), fun B => .slice B 0 a.es.length a.cap (ks.length + 1) true⟩
theorem SArg.ok {w : World} {ks : List IntKind} {a : SArg} (ha : a.lies w ks) : (a.piece ks).ok w := by
  obtain ⟨hl, ⟨h1, h2, h3⟩ | ⟨h1, h2, h3, arr, el, fr, hh, hs, hc⟩⟩ := ha
  · intro μ B _ _
    unfold SArg.piece
    rw [if_pos h1]
    refine ⟨?_, fun k c s g hk => by simp at hk⟩
    show VR μ .nilSlice a.v
    rw [h2, VR_nilSlice]
  · intro μ B hat hz
    unfold SArg.piece at hat ⊢
    rw [if_neg (by rw [h1]; decide)] at hat ⊢
    have hB : μ.at_ B = some (a.c, a.s) := hat 0 _ _ _ rfl
    have hat1 : ∀ (m : Nat) (e : EArg), a.es[m]? = some e → e.y.k = 2 → μ.at_ (B + 1 + (0 + m)) = some (e.y.c, e.y.s) := fun m e hm hk => by
      have := hat (m + 1) e.y.c e.y.s (fun _ => u8s e.y.l) (by
        show (a.es.map (fun e => e.y.bl a.c a.s))[m]? = _
        rw [List.getElem?_map, hm]
        show some (e.y.bl a.c a.s) = _
        unfold YArg.bl; rw [if_pos hk])
      rwa [show B + (m + 1) = B + 1 + (0 + m) by omega] at this
    refine ⟨?_, fun k c s g hk => ?_⟩
    · show VR μ (.slice B 0 a.es.length a.cap (ks.length + 1) true) a.v
      rw [h2, VR_slice]
      refine ⟨a.c, a.s, ⟨a.c, a.s, none⟩, a.cap, hB, rfl, h3, Nat.le_refl _, fun _ => rfl, fun h0 => ⟨rfl, ?_⟩⟩
      rw [hz]; unfold sizeAt; rw [hh]
      exact hs h0
    · cases k with
      | zero =>
        cases hk
        exact ⟨arr, el, fr, hh, rows_cell _ _, rows_at hB hz a.es 0 a.s hl hat1 hc⟩
      | succ m =>
        have hk : (a.es.map (fun e => e.y.bl a.c a.s))[m]? = some (c, s, g) := hk
        rw [List.getElem?_map] at hk
        cases hm : a.es[m]? with
        | none => rw [hm] at hk; cases hk
        | some e =>
          rw [hm] at hk
          have hk : e.y.bl a.c a.s = (c, s, g) := by simpa using hk
          unfold YArg.bl at hk
          have hy := (hl e (List.mem_of_getElem? hm)).2.2
          by_cases h2 : e.y.k = 2
          · rw [if_pos h2] at hk
            cases hk
            obtain ⟨hb, ⟨k0, _⟩ | ⟨k0, _⟩ | ⟨_, _, _, arr', el', fr', hh', _, hx⟩⟩ := hy
            · omega
            · omega
            · refine ⟨arr', el', fr', hh', fun v hv => ?_, fun i v hv => ?_⟩
              · obtain ⟨i, hi⟩ := List.getElem?_of_mem hv
                obtain ⟨x, _, rfl⟩ := u8s_at hi; rfl
              · obtain ⟨x, h1, rfl⟩ := u8s_at hv
                exact ⟨_, hx i x h1, by rw [VR_int]⟩
          · rw [if_neg h2] at hk
            cases hk
            refine ⟨arr, el, fr, hh, fun v hv => ?_, fun i v hv => ?_⟩
            · cases (show v ∈ ([] : List AV) from hv)
            · cases (show ([] : List AV)[i]? = some v from hv)
theorem SArg.sin {α : Type} {w : World} {ks : List IntKind} {a : SArg} (ha : a.lies w ks) (rp : Rep α) (val : EArg → α) (hsz : rp.sz = ks.length + 1) {h : Hp} {B : Nat}
    (hg : ∀ (k c s : Nat) (g : Nat → List AV), (a.piece ks).bl[k]? = some (c, s, g) → B + k < h.next ∧ hget h (B + k) = some (.cells (g B) (g B).length .ro))
    (hrep : ∀ (e : EArg) (y : AV), e.lies w ks → BIn (Low h) h y e.y.l → rp.rep (Low h) h (numsA ks e.ns ++ [y]) (val e)) : SIn rp (Low h) h ((a.piece ks).av B) (a.es.map val) := by
  obtain ⟨hl, ⟨h1, h2, h3⟩ | ⟨h1, h2, h3, arr, el, fr, hh, hs, hc⟩⟩ := ha
  · unfold SArg.piece
    rw [if_pos h1, h3]
    exact .nil
  · unfold SArg.piece at hg ⊢
    rw [if_neg (by rw [h1]; decide)] at hg ⊢
    obtain ⟨b1, b2⟩ := hg 0 _ _ _ rfl
    rw [Nat.add_zero] at b1 b2
    have hy : ∀ (m : Nat) (e : EArg), a.es[m]? = some e → e.y.k = 2 → B + 1 + (0 + m) < h.next ∧ hget h (B + 1 + (0 + m)) = some (.cells (u8s e.y.l) (u8s e.y.l).length .ro) := fun m e hm hk => by
      have := hg (m + 1) e.y.c e.y.s (fun _ => u8s e.y.l) (by
        show (a.es.map (fun e => e.y.bl a.c a.s))[m]? = _
        rw [List.getElem?_map, hm]
        show some (e.y.bl a.c a.s) = _
        unfold YArg.bl; rw [if_pos hk])
      rwa [show B + (m + 1) = B + 1 + (0 + m) by omega] at this
    have rows : ∀ (es : List EArg) (j : Nat), (∀ e ∈ es, e.lies w ks) → (∀ (m : Nat) (e : EArg), es[m]? = some e → e.y.k = 2 → B + 1 + (j + m) < h.next ∧ hget h (B + 1 + (j + m)) = some (.cells (u8s e.y.l) (u8s e.y.l).length .ro)) →
        Rows rp (Low h) h (rowsAV ks B j es) (es.map val) := by
      intro es
      induction es with
      | nil => intro j _ _; rfl
      | cons e es ih =>
        intro j hl hj
        have he := hl e (by simp)
        refine ⟨e.av ks B (B + 1 + j), rowsAV ks B (j + 1) es, rfl, hrep e _ he (YArg.bin he.2.2 b1 b2 rfl fun hk => by have := hj 0 e rfl hk; rwa [Nat.add_zero] at this), ?_⟩
        refine ih (j + 1) (fun e h => hl e (by simp [h])) fun m e' hm hk => ?_
        have := hj (m + 1) e' (by simpa using hm) hk
        rwa [show j + (m + 1) = j + 1 + m by omega] at this
    have R := rows a.es 0 hl hy
    have hlen := rows_len (B := B) a.es 0 hl
    have key : SIn rp (Low h) h (.slice B 0 (a.es.map val).length a.cap rp.sz true) (a.es.map val) := by
      refine .sl b1 b2 rfl ?_ (by rw [List.length_map]; exact h3) ?_
      · rw [hlen, List.length_map, hsz]; omega
      · rw [List.drop_zero, List.take_of_length_le (by rw [hlen, List.length_map, hsz]; exact Nat.le_refl _)]
        exact R
    rw [List.length_map, hsz] at key
    exact key
theorem get_take1 {α : Type} {l : List α} {i : Nat} {x : α} (h : (l.drop i).take 1 = [x]) : l[i]? = some x := by
  have := congrArg (fun m => m[0]?) h
  simp only [List.getElem?_take_of_lt (Nat.zero_lt_one), List.getElem?_drop, Nat.add_zero] at this
  simpa using this
structure SForm (P : Program) (e : TypeId) (ks : List IntKind) : Prop where
  fs : ∃ fs : Array Field, P.underlying e = some (.struct fs) ∧ (∀ (i : Nat) (k : IntKind), ks[i]? = some k → ∃ f, fs[i]? = some f ∧ f.offset = i ∧ P.cellsOf f.type = 1 ∧ P.underlying f.type = some (.int k)) ∧
    ∃ f u, fs[ks.length]? = some f ∧ f.offset = ks.length ∧ P.cellsOf f.type = 1 ∧ P.underlying f.type = some (.slice u) ∧ P.underlying u = some (.int .u8) ∧ P.cellsOf u = 1
  sz : P.cellsOf e = ks.length + 1
end Eng
end
section
set_option linter.unusedVariables false
set_option linter.unusedSimpArgs false
namespace Eng
open Go Go.RowKit
abbrev Ent := AV × AV × Nat
def EntR : List Ent → List (Nat × Int) → Prop
  | [], [] => True
  | e :: E, p :: es => e.1 = .int .u64 (.ofNat p.1) ∧ e.2.1 = .int .i64 p.2 ∧ EntR E es
  | _, _ => False
def lookM : List (Nat × Int) → Nat → Option Int
  | [], _ => none
  | p :: r, k => if k = p.1 then some p.2 else lookM r k
def replM : List (Nat × Int) → Nat → Int → List (Nat × Int)
  | [], _, _ => []
  | p :: r, k, x => if k = p.1 then (k, x) :: r else p :: replM r k x
def delM : List (Nat × Int) → Nat → List (Nat × Int)
  | [], _ => []
  | p :: r, k => if k = p.1 then r else p :: delM r k
def putM (es : List (Nat × Int)) (k : Nat) (x : Int) : List (Nat × Int) := match lookM es k with
  | none => es ++ [(k, x)]
  | some _ => replM es k x
theorem keyEq_n {β : Type} {a b : Nat} {z : β} {f : Bool → β} : keyEq (.int .u64 (.ofNat a)) (.int .u64 (.ofNat b)) z f = f (decide (a = b)) := by
  rw [← eqI_nat]; rfl
theorem look_eq {β : Type} {z : β} {f : Option AV → β} {k : Nat} : ∀ {E : List Ent} {es : List (Nat × Int)}, EntR E es → look (.int .u64 (.ofNat k)) E z f = f ((lookM es k).map fun x => .int .i64 x)
  | [], [], _ => rfl
  | e :: E, p :: es, ⟨h1, h2, h3⟩ => by
    show keyEq (.int .u64 (.ofNat k)) e.1 z (fun b => bc b (f (some e.2.1)) (look (.int .u64 (.ofNat k)) E z f)) = _
    rw [h1, keyEq_n, look_eq h3, h2]
    show bc (decide (k = p.1)) _ _ = f ((if k = p.1 then some p.2 else lookM es k).map _)
    by_cases h : k = p.1
    · rw [if_pos h, decide_eq_true h]; rfl
    · rw [if_neg h, decide_eq_false h]; rfl
  | [], _ :: _, h => h.elim
  | _ :: _, [], h => h.elim
theorem insR_eq {k : Nat} {x : Int} : ∀ {E : List Ent} {es : List (Nat × Int)}, EntR E es → EntR (ins (.int .u64 (.ofNat k)) (.int .i64 x) E) (replM es k x)
  | [], [], _ => trivial
  | e :: E, p :: es, ⟨h1, h2, h3⟩ => by
    show EntR (keyEq (.int .u64 (.ofNat k)) e.1 (e :: E) (fun b => bc b ((.int .u64 (.ofNat k), .int .i64 x, e.2.2) :: E) (e :: ins (.int .u64 (.ofNat k)) (.int .i64 x) E))) (if k = p.1 then (k, x) :: es else p :: replM es k x)
    rw [h1, keyEq_n]
    by_cases h : k = p.1
    · rw [if_pos h, decide_eq_true h]; exact ⟨rfl, rfl, h3⟩
    · rw [if_neg h, decide_eq_false h]; exact ⟨h1, h2, insR_eq h3⟩
  | [], _ :: _, h => h.elim
  | _ :: _, [], h => h.elim
theorem delR_eq {k : Nat} : ∀ {E : List Ent} {es : List (Nat × Int)}, EntR E es → EntR (del (.int .u64 (.ofNat k)) E) (delM es k)
  | [], [], _ => trivial
  | e :: E, p :: es, ⟨h1, h2, h3⟩ => by
    show EntR (keyEq (.int .u64 (.ofNat k)) e.1 (e :: E) (fun b => bc b E (e :: del (.int .u64 (.ofNat k)) E))) (if k = p.1 then es else p :: delM es k)
    rw [h1, keyEq_n]
    by_cases h : k = p.1
    · rw [if_pos h, decide_eq_true h]; exact h3
    · rw [if_neg h, decide_eq_false h]; exact ⟨h1, h2, delR_eq h3⟩
  | [], _ :: _, h => h.elim
  | _ :: _, [], h => h.elim
theorem EntR.snoc {k c : Nat} {x : Int} : ∀ {E : List Ent} {es : List (Nat × Int)}, EntR E es → EntR (E ++ [(.int .u64 (.ofNat k), .int .i64 x, c)]) (es ++ [(k, x)])
  | [], [], _ => ⟨rfl, rfl, trivial⟩
  | e :: E, p :: es, ⟨h1, h2, h3⟩ => ⟨h1, h2, h3.snoc⟩
  | [], _ :: _, h => h.elim
  | _ :: _, [], h => h.elim
theorem replM_len (k : Nat) (x : Int) : ∀ es : List (Nat × Int), (replM es k x).length = es.length
  | [] => rfl
  | p :: r => by
    show (if k = p.1 then (k, x) :: r else p :: replM r k x).length = _
    split
    · rfl
    · rw [List.length_cons, replM_len k x r]; rfl
theorem delM_len {k : Nat} : ∀ {es : List (Nat × Int)}, lookM es k ≠ none → (delM es k).length = es.length - 1
  | [], h => absurd rfl h
  | p :: r, h => by
    show (if k = p.1 then r else p :: delM r k).length = _
    by_cases hk : k = p.1
    · rw [if_pos hk]; rfl
    · rw [if_neg hk, List.length_cons]
      have h2 : lookM r k ≠ none := by
        intro e; apply h
        show (if k = p.1 then some p.2 else lookM r k) = none
        rw [if_neg hk, e]
      rw [delM_len h2]
      cases r with
      | nil => exact absurd rfl h2
      | cons q r => simp
theorem delM_none {k : Nat} : ∀ {es : List (Nat × Int)}, lookM es k = none → delM es k = es
  | [], h => rfl
  | p :: r, h => by
    have h : (if k = p.1 then some p.2 else lookM r k) = none := h
    show (if k = p.1 then r else p :: delM r k) = _
    by_cases hk : k = p.1
    · rw [if_pos hk] at h; cases h
    · rw [if_neg hk] at h ⊢
      rw [delM_none h]
def Okm (E : List Ent) (es : List (Nat × Int)) (c : Nat) : Prop := (E.map fun e => e.2.2).Nodup ∧ (∀ e ∈ E, e.2.2 < c) ∧ (es.map fun p => p.1).Nodup
theorem lookM_none {k : Nat} : ∀ {es : List (Nat × Int)}, lookM es k = none → k ∉ es.map fun p => p.1
  | [], _ => by simp
  | p :: r, h => by
    have h : (if k = p.1 then some p.2 else lookM r k) = none := h
    by_cases hk : k = p.1
    · rw [if_pos hk] at h; cases h
    · rw [if_neg hk] at h
      have := lookM_none h
      rw [List.map_cons, List.mem_cons]
      exact fun hh => hh.elim hk this
theorem replM_keys (k : Nat) (x : Int) : ∀ es : List (Nat × Int), (replM es k x).map (fun p => p.1) = es.map fun p => p.1
  | [] => rfl
  | p :: r => by
    show (if k = p.1 then (k, x) :: r else p :: replM r k x).map _ = _
    by_cases hk : k = p.1
    · rw [if_pos hk, List.map_cons, List.map_cons, hk]
    · rw [if_neg hk, List.map_cons, replM_keys k x r]; rfl
theorem delM_sub (k : Nat) : ∀ es : List (Nat × Int), (delM es k).Sublist es
  | [] => List.Sublist.refl _
  | p :: r => by
    show (if k = p.1 then r else p :: delM r k).Sublist _
    split
    · exact List.sublist_cons_self _ _
    · exact (delM_sub k r).cons_cons _
theorem ins_born {k : Nat} {x : Int} : ∀ {E : List Ent} {es : List (Nat × Int)}, EntR E es → (ins (.int .u64 (.ofNat k)) (.int .i64 x) E).map (fun e => e.2.2) = E.map fun e => e.2.2
  | [], [], _ => rfl
  | e :: E, p :: es, ⟨h1, h2, h3⟩ => by
    show (keyEq (.int .u64 (.ofNat k)) e.1 (e :: E) (fun b => bc b ((.int .u64 (.ofNat k), .int .i64 x, e.2.2) :: E) (e :: ins (.int .u64 (.ofNat k)) (.int .i64 x) E))).map _ = _
    rw [h1, keyEq_n]
    by_cases h : k = p.1
    · rw [decide_eq_true h]; rfl
    · rw [decide_eq_false h]
      show e.2.2 :: (ins (.int .u64 (.ofNat k)) (.int .i64 x) E).map _ = _
      rw [ins_born h3]; rfl
  | [], _ :: _, h => h.elim
  | _ :: _, [], h => h.elim
theorem del_sub {k : Nat} : ∀ {E : List Ent} {es : List (Nat × Int)}, EntR E es → (del (.int .u64 (.ofNat k)) E).Sublist E
  | [], [], _ => List.Sublist.refl _
  | e :: E, p :: es, ⟨h1, h2, h3⟩ => by
    show (keyEq (.int .u64 (.ofNat k)) e.1 (e :: E) (fun b => bc b E (e :: del (.int .u64 (.ofNat k)) E))).Sublist _
    rw [h1, keyEq_n]
    by_cases h : k = p.1
    · rw [decide_eq_true h]; exact List.sublist_cons_self _ _
    · rw [decide_eq_false h]; exact (del_sub h3).cons_cons _
  | [], _ :: _, h => h.elim
  | _ :: _, [], h => h.elim
theorem Okm.put0 {E : List Ent} {es : List (Nat × Int)} {c k : Nat} {x : Int} (o : Okm E es c) (hl : lookM es k = none) : Okm (E ++ [(.int .u64 (.ofNat k), .int .i64 x, c)]) (es ++ [(k, x)]) (Nat.succ c) := by
  obtain ⟨h1, h2, h3⟩ := o
  refine ⟨?_, fun e he => ?_, ?_⟩
  · rw [List.map_append, List.nodup_append]
    refine ⟨h1, by simp, fun a ha b hb => ?_⟩
    obtain ⟨e, he, rfl⟩ := List.mem_map.1 ha
    have := h2 e he
    simp at hb
    omega
  · rcases List.mem_append.1 he with he | he
    · have := h2 e he; omega
    · rw [List.mem_singleton.1 he]; exact Nat.lt_succ_self c
  · rw [List.map_append, List.nodup_append]
    refine ⟨h3, by simp, fun a ha b hb => ?_⟩
    simp at hb
    rw [hb]
    intro e
    rw [e] at ha
    exact lookM_none hl ha
theorem Okm.put1 {E : List Ent} {es : List (Nat × Int)} {c k : Nat} {x : Int} (o : Okm E es c) (r : EntR E es) : Okm (ins (.int .u64 (.ofNat k)) (.int .i64 x) E) (replM es k x) c := by
  obtain ⟨h1, h2, h3⟩ := o
  refine ⟨by rw [ins_born r]; exact h1, fun e he => ?_, by rw [replM_keys]; exact h3⟩
  have : e.2.2 ∈ E.map fun e => e.2.2 := by rw [← ins_born (k := k) (x := x) r]; exact List.mem_map.2 ⟨e, he, rfl⟩
  obtain ⟨e', he', e2⟩ := List.mem_map.1 this
  rw [← e2]; exact h2 e' he'
theorem Okm.del {E : List Ent} {es : List (Nat × Int)} {c k : Nat} (o : Okm E es c) (r : EntR E es) : Okm (Eng.del (.int .u64 (.ofNat k)) E) (delM es k) c := by
  obtain ⟨h1, h2, h3⟩ := o
  exact ⟨((del_sub r).map _).nodup h1, fun e he => h2 e ((del_sub r).subset he), ((delM_sub k es).map _).nodup h3⟩
def MapO (v : AV) (es : List (Nat × Int)) : AObj where
  p h G := ∃ b E c, v = .map b ∧ G b ∧ hget h b = some (.mp E es.length c) ∧ EntR E es ∧ Okm E es c
  loc := fun hf ⟨b, E, c, h1, h2, h3, h4, h5⟩ => ⟨b, E, c, h1, h2, (hf b h2).trans h3, h4, h5⟩
theorem map_get {os : List AObj} {h : Hp} (S : Sep os h) {i : Nat} {v : AV} {es : List (Nat × Int)} (hi : os[i]? = some (MapO v es)) : ∃ b E c, v = .map b ∧ hget h b = some (.mp E es.length c) ∧ EntR E es ∧ Okm E es c := by
  obtain ⟨G, ⟨b, E, c, h1, h2, h3, h4, h5⟩, _⟩ := S.at hi
  exact ⟨b, E, c, h1, h3, h4, h5⟩
theorem map_len {os : List AObj} {h : Hp} (S : Sep os h) {i : Nat} {v : AV} {es : List (Nat × Int)} (hi : os[i]? = some (MapO v es)) : evQ (.lenM (.const v)) .lf h = .ok (.int .i64 (.ofNat es.length)) := by
  obtain ⟨b, E, c, rfl, h3, h4, h5⟩ := map_get S hi
  show hmap h b .no (fun _ n _ => okN n) = _
  unfold hmap; rw [h3]; rfl
def lookV (z : Int) (r : Option Int) : AV := .tuple [.int .i64 (r.getD z), .bool r.isSome]
theorem map_look {os : List AObj} {h : Hp} (S : Sep os h) {i : Nat} {v : AV} {es : List (Nat × Int)} (hi : os[i]? = some (MapO v es)) {k : Nat} {z : Int} :
    evQ (.lookup false (.int .i64 z) true (.const v) (.const (.int .u64 (.ofNat k)))) .lf h = .ok (lookV z (lookM es k)) := by
  obtain ⟨b, E, c, rfl, h3, h4, h5⟩ := map_get S hi
  show hmap h b .no (fun es _ _ => look (.int .u64 (.ofNat k)) es .no fun r => found (.int .i64 z) true r) = _
  unfold hmap; rw [h3]
  show look (.int .u64 (.ofNat k)) E .no (fun r => found (.int .i64 z) true r) = _
  rw [look_eq h4]
  cases lookM es k <;> rfl
theorem map_put {os : List AObj} {h : Hp} (call : CallT) (S : Sep os h) {i : Nat} {v : AV} {es : List (Nat × Int)} (hi : os[i]? = some (MapO v es)) {k : Nat} {x : Int} :
    ∃ e : Ev, evE (.mapUpdate false (.const v) (.const (.int .u64 (.ofNat k))) (.const (.int .i64 x))) call .lf h = .ok undef e.h ∧ Sep (os.set i (MapO v (putM es k x))) e.h := by
  obtain ⟨G, ⟨b, E, c, rfl, h2, h3, h4, h5⟩, hGb, go⟩ := S.at hi
  have ev : evE (.mapUpdate false (.const (.map b)) (.const (.int .u64 (.ofNat k))) (.const (.int .i64 x))) call .lf h = putMap h b (.int .u64 (.ofNat k)) (.int .i64 x) := rfl
  rw [ev]
  have ev2 : putMap h b (.int .u64 (.ofNat k)) (.int .i64 x) = ocase (RV.ok undef (hset h b (.mp (app E [(.int .u64 (.ofNat k), .int .i64 x, c)]) (Nat.succ es.length) (Nat.succ c)))) (fun _ => RV.ok undef (hset h b (.mp (ins (.int .u64 (.ofNat k)) (.int .i64 x) E) es.length c))) ((lookM es k).map fun x => AV.int .i64 x) := by
    show hmap h b RV.no _ = _
    unfold hmap; rw [h3]
    show look (.int .u64 (.ofNat k)) E RV.no _ = _
    rw [look_eq h4]
  rw [ev2]
  unfold putM
  cases hl : lookM es k with
  | none =>
    dsimp only
    refine ⟨⟨undef, .lf, _⟩, rfl, go _ _ G (Nat.le_refl _) ⟨b, E ++ [(.int .u64 (.ofNat k), .int .i64 x, c)], Nat.succ c, rfl, h2, ?_, ?_, h5.put0 hl⟩ (fun k hk => .inl hk) fun j hj hn => hget_hset_ne _ _ (fun e => hn (e ▸ h2))⟩
    · show hget (hset h b _) b = _
      rw [hget_hset, app_eq, List.length_append]; rfl
    · exact h4.snoc
  | some y =>
    dsimp only
    refine ⟨⟨undef, .lf, _⟩, rfl, go _ _ G (Nat.le_refl _) ⟨b, _, c, rfl, h2, ?_, insR_eq h4, h5.put1 h4⟩ (fun k hk => .inl hk) fun j hj hn => hget_hset_ne _ _ (fun e => hn (e ▸ h2))⟩
    show hget (hset h b _) b = _
    rw [hget_hset, replM_len]
theorem map_del {os : List AObj} {h : Hp} (call : CallT) (S : Sep os h) {i : Nat} {v : AV} {es : List (Nat × Int)} (hi : os[i]? = some (MapO v es)) {k : Nat} :
    ∃ e : Ev, evE (.delete false (.const v) (.const (.int .u64 (.ofNat k)))) call .lf h = .ok undef e.h ∧ Sep (os.set i (MapO v (delM es k))) e.h := by
  obtain ⟨G, ⟨b, E, c, rfl, h2, h3, h4, h5⟩, hGb, go⟩ := S.at hi
  have ev2 : evE (.delete false (.const (.map b)) (.const (.int .u64 (.ofNat k)))) call .lf h = ocase (RV.ok undef h) (fun _ => RV.ok undef (hset h b (.mp (del (.int .u64 (.ofNat k)) E) (Nat.sub es.length 1) c))) ((lookM es k).map fun x => AV.int .i64 x) := by
    show hmap h b RV.no _ = _
    unfold hmap; rw [h3]
    show look (.int .u64 (.ofNat k)) E RV.no _ = _
    rw [look_eq h4]
    rfl
  rw [ev2]
  cases hl : lookM es k with
  | none =>
    refine ⟨⟨undef, .lf, h⟩, rfl, ?_⟩
    rw [delM_none hl]
    exact go h _ G (Nat.le_refl _) ⟨b, E, c, rfl, h2, h3, h4, h5⟩ (fun k hk => .inl hk) fun j hj hn => rfl
  | some y =>
    refine ⟨⟨undef, .lf, _⟩, rfl, go _ _ G (Nat.le_refl _) ⟨b, _, c, rfl, h2, ?_, delR_eq h4, h5.del h4⟩ (fun k hk => .inl hk) fun j hj hn => hget_hset_ne _ _ (fun e => hn (e ▸ h2))⟩
    show hget (hset h b _) b = _
    rw [hget_hset, delM_len (by rw [hl]; nofun)]; rfl
theorem map_new {os : List AObj} {h : Hp} (S : Sep os h) : Sep (MapO (.map h.next) [] :: os) (hpush h (.mp [] 0 0)) :=
  S.add (fun k => k = h.next) (Nat.le_succ _) ⟨h.next, [], 0, rfl, rfl, hget_hpush h _, trivial, by simp [Okm]⟩ (fun k hk => by subst hk; exact ⟨Nat.le_refl _, Nat.lt_succ_self _⟩) fun k hk => hget_hpush_ne h _ (by omega)
theorem map_same {os : List AObj} {h : Hp} (S : Sep os h) {i : Nat} {v : AV} {es : List (Nat × Int)} (hi : os[i]? = some (MapO v es)) : avEq v v = true := by
  obtain ⟨b, E, c, rfl, _⟩ := map_get S hi
  show Nat.beq b b = true
  exact Nat.beq_refl b
theorem map_cell {os : List AObj} {h : Hp} (S : Sep os h) {i : Nat} {v : AV} {es : List (Nat × Int)} (hi : os[i]? = some (MapO v es)) : isCell v = true := by
  obtain ⟨b, E, c, rfl, _⟩ := map_get S hi
  rfl
theorem map_cells {os : List AObj} {h : Hp} (S : Sep os h) {i : Nat} {v : AV} {es : List (Nat × Int)} (hi : os[i]? = some (MapO v es)) : cellsOf v = [v] := by
  obtain ⟨b, E, c, rfl, _⟩ := map_get S hi
  rfl
theorem delM_bd {es : List (Nat × Int)} {k : Nat} (h : ∀ p ∈ es, p.1 < 18446744073709551616) : ∀ p ∈ delM es k, p.1 < 18446744073709551616 := fun p hp => h p ((delM_sub k es).subset hp)
theorem putM_bd {es : List (Nat × Int)} {k : Nat} {x : Int} (h : ∀ p ∈ es, p.1 < 18446744073709551616) (hk : k < 18446744073709551616) : ∀ p ∈ putM es k x, p.1 < 18446744073709551616 := fun p hp => by
  unfold putM at hp
  cases hl : lookM es k with
  | none =>
    rw [hl] at hp
    rcases List.mem_append.1 hp with hp | hp
    · exact h p hp
    · rw [List.mem_singleton.1 hp]; exact hk
  | some y =>
    rw [hl] at hp
    have : p.1 ∈ es.map fun p => p.1 := by rw [← replM_keys k x]; exact List.mem_map.2 ⟨p, hp, rfl⟩
    obtain ⟨q, hq, e⟩ := List.mem_map.1 this
    rw [← e]; exact h q hq
end Eng
end
section
set_option linter.unusedVariables false
set_option linter.unusedSimpArgs false
namespace Eng
open Go Go.RowKit Go.Maps Go.WideElems Go.MapKept Go.WideShapes
abbrev enQ (q : IntKind) : Int → Value := Value.int q
theorem enQ_inj {q : IntKind} {x y : Int} (h : enQ q x = enQ q y) : x = y := by simpa [enQ] using h
def numL : Lit → Int
  | .int _ a => a
  | _ => 0
def keysD {H : Type} : DataW H → List Int
  | .map es => es.map fun p => numL p.1
  | _ => []
theorem keyOf_q {P : Program} {k : TypeId} {q : IntKind} (hk : P.underlying k = some (.int q)) {key : Value} {kl : Lit} (h : keyOf P k key = some kl) : ∃ x : Int, key = enQ q x ∧ kl = .int q x ∧ (Lit.int q x).wf = true := by
  cases key <;> simp [keyOf, hk, mapKey] at h
  rename_i q' a
  obtain ⟨⟨rfl, hw⟩, rfl⟩ := h
  exact ⟨a, rfl, rfl, hw⟩
def Came {H : Type} (q : IntKind) (D0 : DataW H) (left : Lit → Bool) (ss : List Int) : Prop := ss.Nodup ∧ ∀ x, x ∈ ss ↔ (has D0 (.int q x) = true ∧ left (.int q x) = false)
section
variable {H : Type} {D0 : DataW H} {left : Lit → Bool} {ss : List Int} {q : IntKind}
theorem Came.start (D0 : DataW H) : Came q D0 (has D0) [] := ⟨List.nodup_nil, fun x => by cases has D0 (.int q x) <;> simp⟩
theorem sameKey_int (x y : Int) : (Lit.int q x).sameKey (.int q y) = decide (x = y) := by simp [Lit.sameKey]
theorem Came.step (h : Came q D0 left ss) {x : Int} {y : DataW H} (hlk : left (.int q x) = true) (hat : ∀ zd, D0.atKey (.int q x) zd = y) : Came q D0 (fun z => left z && !z.sameKey (.int q x)) (ss ++ [x]) := by
  have hhas : has D0 (.int q x) = true := has_true_of_atKey hat
  have hnew : x ∉ ss := fun hx => by have := ((h.2 x).1 hx).2; rw [hlk] at this; cases this
  refine ⟨List.nodup_append.2 ⟨h.1, by simp, fun a ha b hb => by simp at hb; subst hb; exact fun e => hnew (e ▸ ha)⟩, fun y => ?_⟩
  by_cases hy : y = x
  · subst hy; simp [hhas, sameKey_int]
  · simp [h.2 y, hy, sameKey_int]
theorem Came.all {P : Program} {k : TypeId} {R : Value → Option (DataW H × List MemPlace)} {w : World} {b n : Nat} (h : Came q D0 left ss) (hown : w.ownsMap P k R b n D0) (hk : P.underlying k = some (.int q)) (hl : ∀ kl, left kl = false) :
    ss.Perm (keysD D0) := by
  obtain ⟨es, hD, hpw, _⟩ := hown.entries (int_keyed hk)
  obtain ⟨es', hD', hko⟩ := hown.keysOf
  obtain rfl : es = es' := by rw [hD] at hD'; simpa using hD'
  subst hD
  have hint : ∀ p ∈ es, ∃ x, p.1 = .int q x := fun p hp => by obtain ⟨v, hv⟩ := hko p hp; obtain ⟨x, _, hx, _⟩ := keyOf_q hk hv; exact ⟨x, hx⟩
  refine (List.perm_ext_iff_of_nodup h.1 ?_).2 fun x => ?_
  · show (es.map fun p => numL p.1).Nodup
    refine List.pairwise_map.2 (hpw.imp_of_mem fun {p r} hp' hr' hne e => hne ?_)
    obtain ⟨a, ha⟩ := hint p hp'
    obtain ⟨b, hb⟩ := hint r hr'
    rw [ha, hb] at e ⊢
    exact congrArg _ e
  · rw [h.2 x, hl, has_eq, List.any_eq_true]
    show _ ↔ x ∈ es.map fun p => numL p.1
    rw [List.mem_map]
    constructor
    · rintro ⟨⟨p, hp', hs⟩, -⟩
      obtain ⟨a, ha⟩ := hint p hp'
      rw [ha, sameKey_int] at hs
      exact ⟨p, hp', by rw [ha]; simpa [numL] using hs⟩
    · rintro ⟨p, hp', rfl⟩
      obtain ⟨a, ha⟩ := hint p hp'
      exact ⟨⟨p, hp', by rw [ha, sameKey_int]; simp [numL]⟩, rfl⟩
end
noncomputable def keyN (q : IntKind) (v : AV) : Option Int := v.asInt none fun k n => bc (ikEq k q) (bc (leI q.min n) (bc (leI n q.max) (some n) none) none) none
noncomputable def keysN (q : IntKind) (es : List (AV × AV × Nat)) : Option (List Int) :=
  lrec (some []) (fun e _ ih => ocase none (fun n => ocase none (fun l => some (n :: l)) ih) (keyN q e.1)) es
noncomputable def newN (l : List Nat) : Bool := lrec true (fun a l ih => bc (lall (fun b => notB (Nat.beq a b)) l) ih false) l
noncomputable def newI (l : List Int) : Bool := lrec true (fun a l ih => bc (lall (fun b => notB (eqI a b)) l) ih false) l
noncomputable def bornOk (ck : Nat) (es : List (AV × AV × Nat)) : Bool := bc (lall (fun e => Nat.blt e.2.2 ck) es) (newN (lmap (fun e => e.2.2) es)) false
noncomputable def keysOf (q : IntKind) (es : List (AV × AV × Nat)) (n ck : Nat) : Option (List Int) :=
  ocase none (fun l => bc (newI l) (bc (bornOk ck es) (bc (Nat.ble n 12) (some l) none) none) none) (keysN q es)
theorem newN_iff : ∀ {l : List Nat}, newN l = true ↔ l.Nodup
  | [] => by simp [newN]
  | a :: l => by
    show bc (lall (fun b => notB (Nat.beq a b)) l) (newN l) false = true ↔ _
    rw [List.nodup_cons, ← newN_iff (l := l), bc_eq]
    have : lall (fun b => notB (Nat.beq a b)) l = true ↔ a ∉ l := by
      rw [lall_iff]
      constructor
      · intro h hm
        have := h a hm
        rw [Nat.beq_refl] at this; cases this
      · intro h b hb
        have hne : a ≠ b := fun e => h (by rw [e]; exact hb)
        rw [beqF hne]; rfl
    rw [← this]
    cases lall (fun b => notB (Nat.beq a b)) l <;> simp
theorem newI_iff : ∀ {l : List Int}, newI l = true ↔ l.Nodup
  | [] => by simp [newI]
  | a :: l => by
    show bc (lall (fun b => notB (eqI a b)) l) (newI l) false = true ↔ _
    rw [List.nodup_cons, ← newI_iff (l := l), bc_eq]
    have : lall (fun b => notB (eqI a b)) l = true ↔ a ∉ l := by
      rw [lall_iff]
      constructor
      · intro h hm
        have := h a hm
        rw [eqI_eq] at this; simp [notB] at this
      · intro h b hb
        have hne : a ≠ b := fun e => h (e ▸ hb)
        rw [eqI_eq, show (a == b) = false by simpa using hne]; rfl
    rw [← this]
    cases lall (fun b => notB (eqI a b)) l <;> simp
theorem keyN_inv {q : IntKind} {v : AV} {n : Int} (h : keyN q v = some n) : v = .int q n ∧ q.min ≤ n ∧ n ≤ q.max := by
  unfold keyN AV.asInt at h
  cases v <;> try cases h
  rename_i k m
  have h : bc (ikEq k q) (bc (leI q.min m) (bc (leI m q.max) (some m) none) none) none = some n := h
  obtain ⟨rfl, h1⟩ := ikEq_inv h nofun
  cases h2 : leI k.min m with
  | false => rw [h2] at h1; cases h1
  | true =>
    rw [h2] at h1
    cases h3 : leI m k.max with
    | false => rw [h3] at h1; cases h1
    | true =>
      rw [h3] at h1
      obtain rfl := Option.some.inj (show some m = some n from h1)
      have e2 : notB (ltI m k.min) = true := h2
      have e3 : notB (ltI k.max m) = true := h3
      rw [ltI_eq] at e2 e3
      refine ⟨rfl, ?_, ?_⟩
      · by_cases hh : m < k.min
        · simp [hh, notB] at e2
        · omega
      · by_cases hh : k.max < m
        · simp [hh, notB] at e3
        · omega
theorem keysN_inv {q : IntKind} : ∀ {es : List (AV × AV × Nat)} {l : List Int}, keysN q es = some l → l.length = es.length ∧ ∀ (i : Nat) (k v : AV) (n : Nat), es[i]? = some (k, v, n) → ∃ x, l[i]? = some x ∧ k = .int q x ∧ q.min ≤ x ∧ x ≤ q.max
  | [], l, h => by
    obtain rfl := Option.some.inj (show some [] = some l from h)
    exact ⟨rfl, fun i k v n hi => by simp at hi⟩
  | e :: es, l, h => by
    have h : ocase none (fun n => ocase none (fun l => some (n :: l)) (keysN q es)) (keyN q e.1) = some l := h
    cases h1 : keyN q e.1 with
    | none => rw [h1] at h; cases h
    | some x =>
      rw [h1] at h
      cases h2 : keysN q es with
      | none => rw [h2] at h; cases h
      | some m =>
        rw [h2] at h
        obtain rfl := Option.some.inj (show some (x :: m) = some l from h)
        obtain ⟨i1, i2⟩ := keysN_inv h2
        obtain ⟨k1, k2, k3⟩ := keyN_inv h1
        refine ⟨by simp [i1], fun i k v n hi => ?_⟩
        cases i with
        | zero => simp at hi; subst hi; exact ⟨x, rfl, k1, k2, k3⟩
        | succ i => simp at hi; simpa using i2 i k v n hi
theorem wf_q {q : IntKind} {x : Int} (h1 : q.min ≤ x) (h2 : x ≤ q.max) : (Lit.int q x).wf = true := by simp [Lit.wf, h1, h2]
theorem owns_blk {μ : Mp} {w : World} {c s : Nat} {es : List (AV × AV × Nat)} {n ck : Nat} {P : Program} {k : TypeId} {q : IntKind} {l : List Int} (hk : P.underlying k = some (.int q)) (hb : BlkR μ w c s (.mp es n ck)) (hl : keysOf q es n ck = some l) :
    ∃ D0 : DataW Unit, w.ownsMap P k (fun _ => some (.nil, [])) c n D0 ∧ (keysD D0).Perm l ∧ Maps.size D0 = l.length ∧ l.length ≤ 12 := by
  obtain ⟨hn, rfl, hown, es', hh, hes⟩ := hb
  unfold keysOf at hl
  cases h1 : keysN q es with
  | none => rw [h1] at hl; cases hl
  | some m =>
    rw [h1] at hl
    have hl : bc (newI m) (bc (bornOk ck es) (bc (Nat.ble n 12) (some m) none) none) none = some l := hl
    cases h2 : newI m with
    | false => rw [h2] at hl; cases hl
    | true =>
      rw [h2] at hl
      cases h3 : bornOk ck es with
      | false => rw [h3] at hl; cases hl
      | true =>
        rw [h3] at hl
        cases h4 : Nat.ble n 12 with
        | false => rw [h4] at hl; cases hl
        | true =>
          rw [h4] at hl
          obtain rfl := Option.some.inj (show some m = some l from hl)
          obtain ⟨k1, k2⟩ := keysN_inv h1
          have hnd := newI_iff.1 h2
          have h12 : n ≤ 12 := by rw [ble_dec] at h4; simpa using h4
          have hent : ∀ i, i < es'.toList.length → ∃ (x : Int) (b : Nat) (v : AV), m[i]? = some x ∧ es[i]? = some (.int q x, v, b) ∧ ∃ e, es'.toList[i]? = some e ∧ e.key = .int q x ∧ e.born = b ∧ q.min ≤ x ∧ x ≤ q.max := fun i hi => by
            have hi' : i < es.length := by rw [← hes.1]; exact hi
            obtain ⟨k, v, b, he'⟩ : ∃ k v b, es[i]? = some (k, v, b) := ⟨es[i].1, es[i].2.1, es[i].2.2, List.getElem?_eq_getElem hi'⟩
            obtain ⟨x, hx, rfl, hx1, hx2⟩ := k2 i k v b he'
            obtain ⟨_, e, h5, h6, _, h8⟩ := hes.2 i _ v b he'
            rw [VR_int] at h6
            exact ⟨x, b, v, hx, he', e, h5, h6, h8, hx1, hx2⟩
          have hbo : (∀ e ∈ es, e.2.2 < ck) ∧ (es.map fun e => e.2.2).Nodup := by
            have h3 : bc (lall (fun e => Nat.blt e.2.2 ck) es) (newN (lmap (fun e => e.2.2) es)) false = true := h3
            cases h5 : lall (fun e => Nat.blt e.2.2 ck) es with
            | false => rw [h5] at h3; cases h3
            | true =>
              rw [h5] at h3
              refine ⟨fun e he => ?_, ?_⟩
              · have := lall_iff.1 h5 e he
                rw [blt_dec] at this; simpa using this
              · rw [← lmap_eq]; exact newN_iff.1 h3
          have hkeys : es'.toList.map (·.key) = m.map (Value.int q) := by
            apply List.ext_getElem?
            intro i
            rw [List.getElem?_map, List.getElem?_map]
            by_cases hi : i < es'.toList.length
            · obtain ⟨x, b, v, h5, _, e, h7, h8, _⟩ := hent i hi
              rw [h5, h7]; simp [h8]
            · rw [List.getElem?_eq_none (by omega), List.getElem?_eq_none (by rw [k1, ← hes.1]; omega)]; rfl
          have hborn : es'.toList.map (·.born) = es.map fun e => e.2.2 := by
            apply List.ext_getElem?
            intro i
            rw [List.getElem?_map, List.getElem?_map]
            by_cases hi : i < es'.toList.length
            · obtain ⟨x, b, v, _, h6, e, h7, _, h9, _⟩ := hent i hi
              rw [h6, h7]; simp [h9]
            · rw [List.getElem?_eq_none (by omega), List.getElem?_eq_none (by rw [← hes.1]; omega)]; rfl
          have hst : Stamped es' ck := by
            refine ⟨fun x hx => ?_, by rw [hborn]; exact hbo.2, ?_⟩
            · have : x.born ∈ es'.toList.map (·.born) := List.mem_map_of_mem hx
              rw [hborn] at this
              obtain ⟨e, he, he2⟩ := List.mem_map.1 this
              rw [← he2]; exact hbo.1 e he
            · rw [hkeys]
              exact List.pairwise_map.2 (hnd.imp fun hne e => hne (by simpa using e))
          have hrd : ∀ x ∈ es'.toList, ∃ a : Int, x.key = .int q a ∧ Go.WideElems.rd (H := Unit) P k (fun _ => some (.nil, [])) x = some (.int q a, .nil) := fun x hx => by
            obtain ⟨i, hi⟩ := List.getElem?_of_mem hx
            have hlt := (List.getElem?_eq_some_iff.1 hi).1
            obtain ⟨a, b, v, _, _, e, h7, h8, _, h10, h11⟩ := hent i hlt
            rw [hi] at h7
            obtain rfl := Option.some.inj h7
            refine ⟨a, h8, ?_⟩
            obtain ⟨key, val, born⟩ := x
            have h8 : key = .int q a := h8
            subst h8
            exact rd_mk (R := fun _ => some (DataW.nil, [])) (yv := (DataW.nil, [])) (keyOf_int_mk hk (wf_q h10 h11)) rfl
          have hF : Fit (H := Unit) P k (fun _ => some (.nil, [])) es' ck := by
            refine ⟨?_, hst, fun x hx => ?_⟩
            · have : es'.toList.length = es.length := hes.1
              have h20 : es'.size ≤ 12 := by rw [← Array.length_toList]; omega
              exact Nat.le_trans h20 (by decide)
            · obtain ⟨a, _, h⟩ := hrd x hx
              exact ⟨_, h⟩
          refine ⟨_, ⟨es', ck, hh, hF, ?_, rfl⟩, ?_, ?_, by omega⟩
          · have : es'.toList.length = es.length := hes.1
            rw [← Array.length_toList]; omega
          · show (((es'.toList.map (rg P k (fun _ => some (DataW.nil, [])))).foldr DataW.insert []).map fun p => numL p.1).Perm m
            refine ((sorted_perm _).map _).trans (.of_eq ?_)
            rw [List.map_map]
            have e1 : ∀ x ∈ es'.toList, ((fun p : Lit × DataW Unit => numL p.1) ∘ rg P k (fun _ => some (DataW.nil, []))) x = (match x.key with | .int _ a => a | _ => 0) := fun x hx => by
              obtain ⟨a, h5, h6⟩ := hrd x hx
              show numL (rg P k (fun _ => some (DataW.nil, [])) x).1 = _
              rw [rg_of h6, h5]; rfl
            rw [List.map_congr_left e1]
            have e2 : es'.toList.map (fun x => match x.key with | .int _ a => a | _ => (0 : Int)) = (es'.toList.map (·.key)).map fun v => match v with | .int _ a => a | _ => (0 : Int) := by rw [List.map_map]; rfl
            rw [e2, hkeys, List.map_map]
            exact List.map_id m
          · show (((es'.toList.map (rg P k (fun _ => some (DataW.nil, [])))).foldr DataW.insert [])).length = m.length
            rw [(sorted_perm _).length_eq, List.length_map, k1, ← hes.1]
end Eng
end
section
set_option linter.unusedVariables false
set_option linter.unusedSimpArgs false
namespace Eng
open Go Go.RowKit
def swapL (L : List Int) (j : Nat) : List Int := (L.set (j + 1) (L.getD j 0)).set j (L.getD (j + 1) 0)
def sink : List Int → Nat → List Int
  | L, 0 => L
  | L, j + 1 => if L.getD (j + 1) 0 < L.getD j 0 then sink (swapL L j) j else L
def outerL : Nat → Nat → List Int → List Int
  | 0, _, L => L
  | k + 1, i, L => outerL k (i + 1) (sink L i)
def isort (L : List Int) : List Int := outerL (L.length - 1) 1 L
theorem getD_set (L : List Int) (k m : Nat) (x : Int) (h : k < L.length) : (L.set k x).getD m 0 = if m = k then x else L.getD m 0 := by
  rw [List.getD_eq_getElem?_getD, List.getD_eq_getElem?_getD, List.getElem?_set]
  by_cases e : k = m
  · subst e; simp [h]
  · rw [if_neg e, if_neg (fun h => e h.symm)]
theorem swapL_len (L : List Int) (j : Nat) : (swapL L j).length = L.length := by simp [swapL]
theorem swapL_getD {L : List Int} {j : Nat} (h : j + 1 < L.length) (m : Nat) : (swapL L j).getD m 0 = if m = j then L.getD (j + 1) 0 else if m = j + 1 then L.getD j 0 else L.getD m 0 := by
  unfold swapL
  rw [getD_set _ _ _ _ (by simp; omega), getD_set _ _ _ _ h]
theorem sink_len : ∀ (j : Nat) (L : List Int), (sink L j).length = L.length
  | 0, L => rfl
  | j + 1, L => by
    unfold sink
    split
    · rw [sink_len j, swapL_len]
    · rfl
theorem outerL_len : ∀ (k i : Nat) (L : List Int), (outerL k i L).length = L.length
  | 0, i, L => rfl
  | k + 1, i, L => by unfold outerL; rw [outerL_len k, sink_len]
theorem isort_len (L : List Int) : (isort L).length = L.length := outerL_len _ _ _
theorem swap_perm : ∀ (j : Nat) (L : List Int), j + 1 < L.length → (swapL L j).Perm L
  | 0, a :: b :: L, _ => by
    show (b :: a :: L).Perm (a :: b :: L)
    exact List.Perm.swap a b L
  | j + 1, a :: L, h => by
    have : swapL (a :: L) (j + 1) = a :: swapL L j := by simp [swapL]
    rw [this]
    exact (swap_perm j L (by simpa using h)).cons a
  | 0, [], h => by simp at h
  | 0, [a], h => by simp at h
  | j + 1, [], h => by simp at h
theorem sink_perm : ∀ (j : Nat) (L : List Int), j < L.length → (sink L j).Perm L
  | 0, L, _ => .refl _
  | j + 1, L, h => by
    unfold sink
    split
    · exact (sink_perm j _ (by rw [swapL_len]; omega)).trans (swap_perm j L h)
    · exact .refl _
theorem outerL_perm : ∀ (k i : Nat) (L : List Int), i + k ≤ L.length → (outerL k i L).Perm L
  | 0, i, L, _ => .refl _
  | k + 1, i, L, h => by
    unfold outerL
    exact (outerL_perm k (i + 1) _ (by rw [sink_len]; omega)).trans (sink_perm i L (by omega))
theorem isort_perm (L : List Int) : (isort L).Perm L := by
  cases L with
  | nil => exact .refl _
  | cons a L => exact outerL_perm _ _ _ (by simp; omega)
def SinkI (L : List Int) (i j : Nat) : Prop := (∀ a b, a < b → b ≤ i → a ≠ j → b ≠ j → L.getD a 0 ≤ L.getD b 0) ∧ ∀ b, j < b → b ≤ i → L.getD j 0 ≤ L.getD b 0
theorem sink_sorted : ∀ (j : Nat) (L : List Int) (i : Nat), i < L.length → j ≤ i → SinkI L i j → ∀ a b, a < b → b ≤ i → (sink L j).getD a 0 ≤ (sink L j).getD b 0
  | 0, L, i, hi, hj, ⟨h1, h2⟩, a, b, hab, hb => by
    show L.getD a 0 ≤ L.getD b 0
    by_cases ha : a = 0
    · subst ha; exact h2 b hab hb
    · exact h1 a b hab hb ha (by omega)
  | j + 1, L, i, hi, hj, ⟨h1, h2⟩, a, b, hab, hb => by
    unfold sink
    split
    · rename_i hlt
      have hj1 : j + 1 < L.length := by omega
      refine sink_sorted j (swapL L j) i (by rw [swapL_len]; exact hi) (by omega) ⟨fun a b hab hb ha hb' => ?_, fun b hjb hb => ?_⟩ a b hab hb
      · rw [swapL_getD hj1, swapL_getD hj1, if_neg ha, if_neg hb']
        by_cases ea : a = j + 1
        · rw [if_pos ea, if_neg (by omega)]
          exact h1 j b (by omega) hb (by omega) (by omega)
        · rw [if_neg ea]
          by_cases eb : b = j + 1
          · rw [if_pos eb]; exact h1 a j (by omega) (by omega) (by omega) (by omega)
          · rw [if_neg eb]; exact h1 a b hab hb (by omega) (by omega)
      · rw [swapL_getD hj1, swapL_getD hj1, if_pos rfl, if_neg (by omega)]
        by_cases eb : b = j + 1
        · rw [if_pos eb]; omega
        · rw [if_neg eb]; exact h2 b (by omega) hb
    · rename_i hlt
      by_cases ea : a = j + 1
      · rw [ea]; exact h2 b (by omega) hb
      · by_cases eb : b = j + 1
        · rw [eb]
          by_cases ej : a = j
          · rw [ej]; omega
          · exact Int.le_trans (h1 a j (by omega) (by omega) (by omega) (by omega)) (by omega)
        · exact h1 a b hab hb ea eb
theorem outerL_sorted : ∀ (k i : Nat) (L : List Int), 1 ≤ i → i + k = L.length → (∀ a b, a < b → b < i → L.getD a 0 ≤ L.getD b 0) → ∀ a b, a < b → b < L.length → (outerL k i L).getD a 0 ≤ (outerL k i L).getD b 0
  | 0, i, L, _, hi, h => fun a b hab hb => h a b hab (by omega)
  | k + 1, i, L, h1, hi, h => by
    unfold outerL
    have := outerL_sorted k (i + 1) (sink L i) (by omega) (by rw [sink_len]; omega) fun a b hab hb =>
      sink_sorted i L i (by omega) (Nat.le_refl _) ⟨fun a b hab hb ha hb' => h a b hab (by omega), fun b hb hb' => by omega⟩ a b hab (by omega)
    rwa [sink_len] at this
theorem isort_sorted (L : List Int) : (isort L).Pairwise (· ≤ ·) := by
  rw [List.pairwise_iff_getElem]
  intro a b ha hb hab
  rw [isort_len] at ha hb
  have key : (isort L).getD a 0 ≤ (isort L).getD b 0 := by
    have h0 : 1 ≤ L.length := by omega
    exact outerL_sorted (L.length - 1) 1 L (Nat.le_refl _) (by omega) (fun a b hab hb => by omega) a b hab hb
  rw [List.getD_eq_getElem?_getD, List.getD_eq_getElem?_getD, List.getElem?_eq_getElem (by rw [isort_len]; exact ha), List.getElem?_eq_getElem (by rw [isort_len]; exact hb)] at key
  exact key
theorem sorted_unique {l m : List Int} (h1 : l.Pairwise (· ≤ ·)) (h2 : m.Pairwise (· ≤ ·)) (hp : l.Perm m) : l = m :=
  List.Perm.eq_of_pairwise (le := (· ≤ ·)) (fun a b _ _ => Int.le_antisymm) h1 h2 hp
theorem isort_of_perm {l m : List Int} (h : l.Perm m) : isort l = isort m := sorted_unique (isort_sorted l) (isort_sorted m) (((isort_perm l).trans h).trans (isort_perm m).symm)
noncomputable def insK (x : Int) (l : List Int) : List Int := lrec [x] (fun a t ih => bc (leI x a) (x :: a :: t) (a :: ih)) l
noncomputable def sortK (l : List Int) : List Int := lrec [] (fun a _ ih => insK a ih) l
theorem leI_iff (a b : Int) : leI a b = true ↔ a ≤ b := by
  show notB (ltI b a) = true ↔ _
  rw [ltI_eq]
  by_cases h : b < a
  · simp [h, notB]; try omega
  · simp [h, notB]; try omega
theorem insK_perm (x : Int) : ∀ l, (insK x l).Perm (x :: l)
  | [] => .refl _
  | a :: l => by
    show (bc (leI x a) (x :: a :: l) (a :: insK x l)).Perm _
    cases leI x a with
    | true => exact .refl _
    | false => exact ((insK_perm x l).cons a).trans (.swap x a l)
theorem insK_sorted (x : Int) : ∀ l, l.Pairwise (· ≤ ·) → (insK x l).Pairwise (· ≤ ·)
  | [], _ => by simp [insK]
  | a :: l, h => by
    obtain ⟨h1, h2⟩ := List.pairwise_cons.1 h
    show (bc (leI x a) (x :: a :: l) (a :: insK x l)).Pairwise _
    cases hx : leI x a with
    | true =>
      have hxa := (leI_iff x a).1 hx
      refine List.pairwise_cons.2 ⟨fun b hb => ?_, h⟩
      rcases List.mem_cons.1 hb with rfl | hb
      · exact hxa
      · exact Int.le_trans hxa (h1 b hb)
    | false =>
      have hxa : a ≤ x := by
        by_cases hh : x ≤ a
        · rw [(leI_iff x a).2 hh] at hx; cases hx
        · omega
      refine List.pairwise_cons.2 ⟨fun b hb => ?_, insK_sorted x l h2⟩
      rcases List.mem_cons.1 ((insK_perm x l).mem_iff.1 hb) with rfl | hb
      · exact hxa
      · exact h1 b hb
theorem sortK_perm : ∀ l, (sortK l).Perm l
  | [] => .refl _
  | a :: l => (insK_perm a (sortK l)).trans ((sortK_perm l).cons a)
theorem sortK_sorted : ∀ l, (sortK l).Pairwise (· ≤ ·)
  | [] => by simp [sortK]
  | a :: l => insK_sorted a _ (sortK_sorted l)
theorem isort_eq (l : List Int) : isort l = sortK l := sorted_unique (isort_sorted l) (sortK_sorted l) ((isort_perm l).trans (sortK_perm l).symm)
def intsQ (q : IntKind) (L : List Int) : List AV := L.map (AV.int q)
noncomputable def hS (q : IntKind) (L : List Int) : Hp := ⟨1, tset (pathOf 0) (.cells (intsQ q L) L.length .solo) .lf⟩
theorem hS_get (q : IntKind) (L : List Int) : hget (hS q L) 0 = some (.cells (intsQ q L) L.length .solo) := tget_tset _ _ _
theorem ld_ok {q : IntKind} {L : List Int} {k : Nat} (h : k < L.length) : evQ (.loadS (.const (.ptr 0 (0 + k * 1)))) .lf (hS q L) = .ok (.int q (L.getD k 0)) := by
  show hcells (hS q L) 0 OV.no (fun cs _ _ => ocase .no .ok (nth? cs (0 + k * 1))) = _
  unfold hcells
  rw [hS_get]
  show ocase OV.no .ok (nth? (intsQ q L) (0 + k * 1)) = _
  rw [nth_eq, Nat.zero_add, Nat.mul_one, intsQ, List.getElem?_map, List.getD_eq_getElem?_getD, List.getElem?_eq_getElem h]
  rfl
theorem st_ok {q : IntKind} {L : List Int} {k : Nat} {x : Int} (call : CallT) (h : k < L.length) : evE (.store 1 (.const (.ptr 0 (0 + k * 1))) (.const (.int q x))) call .lf (hS q L) = .ok undef (hS q (L.set k x)) := by
  show oStore 1 (.const (.ptr 0 (0 + k * 1))) (.const (.int q x)) .lf (hS q L) = _
  show wr1 (hS q L) 0 (0 + k * 1) (.int q x) = _
  unfold wr1 hcells
  rw [hS_get]
  show bc (Nat.blt (0 + k * 1) L.length) (put (hS q L) 0 (upd (.int q x) (intsQ q L) (0 + k * 1)) L.length .solo undef) .no = _
  rw [blt_dec, Nat.zero_add, Nat.mul_one, decide_eq_true h, upd_eq]
  have e : (intsQ q L).set k (.int q x) = intsQ q (L.set k x) := by unfold intsQ; rw [List.map_set]
  rw [e]
  show RV.ok undef (hset (hS q L) 0 (.cells (intsQ q (L.set k x)) L.length .solo)) = _
  unfold hS hset
  have e2 : ∀ (x y : Blk), tset (pathOf 0) x (tset (pathOf 0) y Tr.lf) = tset (pathOf 0) x Tr.lf := fun x y => rfl
  rw [List.length_set, e2]
def mpS (g cap : Nat) : Mp := ⟨fun b => if b = 0 then some (g, 0) else none, fun c => decide (c = g), fun _ => cap⟩
theorem sim_row {q : IntKind} {L : List Int} {W : World} {g : Nat} {cur : Array Value} {e : TypeId} (hg : W.heap[g]? = some (.cells cur e (0, 0))) (ht : cur.toList.take L.length = L.map (Value.int q)) (hL : L.length ≤ cur.size) : Sim (mpS g cur.size) (hS q L) W := by
  have hat : ∀ b c s, (mpS g cur.size).at_ b = some (c, s) → b = 0 ∧ c = g ∧ s = 0 := fun b c s h => by
    have h : (if b = 0 then some (g, 0) else none) = some (c, s) := h
    split at h
    · cases h; exact ⟨‹_›, rfl, rfl⟩
    · cases h
  have hget0 : ∀ b, b ≠ 0 → hget (hS q L) b = none := fun b hb => by
    show tget (pathOf b) (tset (pathOf 0) _ .lf) = none
    rw [tget_tset_ne _ _ _ _ (fun e => hb (pathOf_inj e)), tget_lf]
  refine ⟨fun b hb => ?_, fun b hb => hget0 b (by have : (hS q L).next = 1 := rfl; omega), fun b c s h => ?_, fun b c s x h hx => ?_, fun b b' c s s' x x' hne h h' => ?_, fun b c s cs n p h hx => ?_⟩
  · have : (hS q L).next = 1 := rfl
    show (if b = 0 then some (g, 0) else none) = none
    rw [if_neg (by omega)]
  · obtain ⟨_, rfl, _⟩ := hat b c s h; exact (Array.getElem?_eq_some_iff.1 hg).1
  · obtain ⟨rfl, rfl, rfl⟩ := hat b c s h
    rw [hS_get] at hx
    cases hx
    refine ⟨by simp [intsQ], fun v hv => ?_, ⟨fun _ => nofun, fun _ => by simp [mpS]⟩, cur, e, (0, 0), hg, rfl, fun _ => .inl rfl, fun i v hv => ?_⟩
    · obtain ⟨z, _, rfl⟩ := List.mem_map.1 hv; rfl
    · rw [intsQ, List.getElem?_map] at hv
      cases hz : L[i]? with
      | none => rw [hz] at hv; cases hv
      | some z =>
        rw [hz] at hv
        cases hv
        have hi : i < L.length := (List.getElem?_eq_some_iff.1 hz).1
        have h1 : (cur.toList.take L.length)[i]? = (L.map (Value.int q))[i]? := by rw [ht]
        rw [List.getElem?_take_of_lt hi, List.getElem?_map, hz] at h1
        refine ⟨.int q z, ?_, by rw [VR_int]⟩
        rw [Nat.zero_add, ← Array.getElem?_toList, h1]; rfl
  · obtain ⟨h1, _⟩ := hat b c s h
    obtain ⟨h2, _⟩ := hat b' c s' h'
    exact absurd (h1.trans h2.symm) hne
  · obtain ⟨rfl, _, _⟩ := hat b c s h
    rw [hS_get] at hx; cases hx
theorem row_after {q : IntKind} {L M : List Int} {W W' : World} {g cap : Nat} {u : AV} {e : Ending} (hg : g < W.heap.size) (r : CallR (mpS g cap) (hS q L) W u (hS q M) e W') :
    ∃ arr el fr, W'.heap[g]? = some (.cells arr el fr) ∧ arr.size = cap ∧ Unmarked arr.size fr ∧ (∀ (i : Nat) (z : Int), M[i]? = some z → arr[i]? = some (.int q z)) ∧ (∀ base, base ≤ g → Below base W W') := by
  obtain ⟨μ', y, _, _, hs, gs⟩ := r
  have hat : μ'.at_ 0 = some (g, 0) := by rw [gs.at_ 0 (by show 0 < 1; decide)]; rfl
  have hown : μ'.own g = true := by rw [gs.own g hg]; simp [mpS]
  have hsz : μ'.size g = cap := gs.size g hg
  obtain ⟨_, _, _, arr, el, fr, h1, h2, h3, h4⟩ := hs.blk 0 g 0 _ hat (hS_get q M)
  refine ⟨arr, el, fr, h1, by rw [h2, hsz], h3 hown, fun i z hz => ?_, fun base hb => ⟨gs.os, gs.tape, gs.output, gs.heap, fun k hk => ?_⟩⟩
  · obtain ⟨x, hx, hv⟩ := h4 i (.int q z) (by rw [intsQ, List.getElem?_map, hz]; rfl)
    rw [VR_int] at hv
    rw [← hv]; simpa using hx
  · refine gs.kept k (by omega) ?_
    show decide (k = g) = false
    simp; omega
theorem told_row {q : IntKind} {M : List Int} {μ : Mp} {h : Hp} {w w' : World} {g cap : Nat} {arr : Array Value} {el : TypeId} {fr : Nat × Nat} (hs : Sim μ h w) (hb : Below w.heap.size w w') (hg : w.heap.size ≤ g)
    (h1 : w'.heap[g]? = some (.cells arr el fr)) (h2 : arr.size = cap) (h3 : Unmarked arr.size fr) (h4 : ∀ (i : Nat) (z : Int), M[i]? = some z → arr[i]? = some (.int q z)) (h5 : M.length ≤ cap) :
    CallR μ h w (.slice h.next 0 M.length M.length 1 false) (hpush h (mkCells (intsQ q M) M.length)) (.returned (.slice (some ⟨g, 0, none⟩) M.length cap)) w' := by
  obtain ⟨μ', hμ⟩ : ∃ μ' : Mp, μ' = ⟨fun b => if b = h.next then some (g, 0) else μ.at_ b, fun c => if c < w.heap.size then μ.own c else decide (c = g), fun c => if c < w.heap.size then μ.size c else cap⟩ := ⟨_, rfl⟩
  have hn : μ.at_ h.next = none := hs.lt _ (Nat.le_refl _)
  have hat : ∀ b, μ'.at_ b = if b = h.next then some (g, 0) else μ.at_ b := fun b => by rw [hμ]
  have hlt : ∀ b c s, μ.at_ b = some (c, s) → b < h.next ∧ c < w.heap.size := fun b c s e => by
    refine ⟨?_, hs.old b c s e⟩
    rcases Nat.lt_or_ge b h.next with hb | hb
    · exact hb
    · rw [hs.lt b hb] at e; cases e
  have ho : ∀ c, c < w.heap.size → μ'.own c = μ.own c := fun c hc => by rw [hμ]; simp [hc]
  have hz : ∀ c, c < w.heap.size → μ'.size c = μ.size c := fun c hc => by rw [hμ]; simp [hc]
  have hog : μ'.own g = true := by rw [hμ]; simp [Nat.not_lt.2 hg]
  have hzg : μ'.size g = cap := by rw [hμ]; simp [Nat.not_lt.2 hg]
  have hle : μ.Le μ' := fun b c s e => by
    obtain ⟨h6, h7⟩ := hlt b c s e
    exact ⟨by rw [hat, if_neg (by omega)]; exact e, hz c h7, ho c h7⟩
  have hgl : g < w'.heap.size := (Array.getElem?_eq_some_iff.1 h1).1
  have hcs : ∀ (i : Nat) (v : AV), (intsQ q M)[i]? = some v → ∃ z, M[i]? = some z ∧ v = .int q z := fun i v hv => by
    rw [intsQ, List.getElem?_map] at hv
    cases hz : M[i]? with
    | none => rw [hz] at hv; cases hv
    | some z => rw [hz] at hv; cases hv; exact ⟨z, rfl, rfl⟩
  have hget : ∀ b, hget (hpush h (mkCells (intsQ q M) M.length)) b = if b = h.next then some (mkCells (intsQ q M) M.length) else Eng.hget h b := fun b => by
    split
    · subst b; exact hget_hpush _ _
    · exact hget_hpush_ne _ _ (by assumption)
  have hsplit : ∀ b c s, μ'.at_ b = some (c, s) → (b = h.next ∧ c = g ∧ s = 0) ∨ (b ≠ h.next ∧ μ.at_ b = some (c, s)) := fun b c s e => by
    rw [hat] at e
    split at e
    · cases e; exact .inl ⟨‹_›, rfl, rfl⟩
    · exact .inr ⟨‹_›, e⟩
  refine ⟨μ', _, rfl, ?_, ⟨fun b hb' => ?_, fun b hb' => ?_, fun b c s e => ?_, fun b c s x e hx => ?_, fun b b' c s s' x x' hne e e' hown hx hx' hd hd' => ?_, fun b c s cs n p e hx => ?_⟩,
    ⟨Nat.le_succ _, fun b hb' => by rw [hat, if_neg (by omega)], ho, hz, hb.size, fun c hc _ => hb.block c hc, fun b hb' _ => by rw [hget, if_neg (by omega)], hb.os, hb.tape, hb.output⟩⟩
  · unfold VR
    refine ⟨g, 0, ⟨g, 0, none⟩, cap, by rw [hat, if_pos rfl], rfl, Nat.le_refl _, h5, (fun h => by cases h), fun _ => ⟨rfl, ?_⟩⟩
    rw [hzg]; omega
  · have hb' : h.next + 1 ≤ b := hb'
    rw [hat, if_neg (by omega)]; exact hs.lt b (by omega)
  · have hb' : h.next + 1 ≤ b := hb'
    rw [hget, if_neg (by omega)]; exact hs.fresh b (by omega)
  · rcases hsplit b c s e with ⟨_, rfl, _⟩ | ⟨_, e⟩
    · exact hgl
    · exact Nat.lt_of_lt_of_le (hs.old b c s e) hb.size
  · rcases hsplit b c s e with ⟨rfl, rfl, rfl⟩ | ⟨hne, e⟩
    · rw [hget, if_pos rfl] at hx
      cases hx
      refine ⟨by simp [intsQ], fun v hv => ?_, ⟨fun _ => nofun, fun _ => hog⟩, arr, el, fr, h1, by rw [h2, hzg], fun _ => h3, fun i v hv => ?_⟩
      · obtain ⟨z, _, rfl⟩ := List.mem_map.1 hv; rfl
      · obtain ⟨z, h6, rfl⟩ := hcs i v hv
        exact ⟨_, by rw [Nat.zero_add]; exact h4 i z h6, by rw [VR_int]⟩
    · rw [hget, if_neg hne] at hx
      have hc := (hlt b c s e).2
      exact (hs.blk b c s x e hx).mono hle (hb.block c hc) (ho c hc) (hz c hc)
  · rcases hsplit b c s e with ⟨rfl, rfl, rfl⟩ | ⟨hn1, e⟩
    · rcases hsplit b' c s' e' with ⟨rfl, _, _⟩ | ⟨hn2, e'⟩
      · exact absurd rfl hne
      · exact absurd (hlt b' c s' e').2 (by omega)
    · rcases hsplit b' c s' e' with ⟨rfl, rfl, _⟩ | ⟨hn2, e'⟩
      · exact absurd (hlt b c s e).2 (by omega)
      · rw [hget, if_neg hn1] at hx
        rw [hget, if_neg hn2] at hx'
        exact hs.apart b b' c s s' x x' hne e e' (by rw [← ho c (hlt b c s e).2]; exact hown) hx hx' hd hd'
  · rcases hsplit b c s e with ⟨rfl, _, _⟩ | ⟨hn1, e⟩
    · rw [hget, if_pos rfl] at hx; cases hx
    · rw [hget, if_neg hn1] at hx
      obtain ⟨y, hy⟩ := hs.peer b c s cs n p e hx
      exact ⟨y, by rw [hat, if_neg (by have := (hlt p y.1 y.2 hy).1; omega)]; exact hy⟩
theorem told_nil {μ : Mp} {h : Hp} {w w' : World} (hs : Sim μ h w) (hb : Below w.heap.size w w') : CallR μ h w .nilSlice h (.returned (.slice none 0 0)) w' :=
  ⟨μ, _, rfl, by unfold VR; rfl, hs.below hb, .ofBelow hb⟩
theorem bc_inv' {b : Bool} {x : RV} {v : AV} {h : Hp} (e : bc b RV.no x = .ok v h) : b = false ∧ x = .ok v h := by
  cases b with
  | true => cases e
  | false => exact ⟨rfl, e⟩
noncomputable def orM (a b : Nat → Option (List AV → Hp → RV)) (f : Nat) : Option (List AV → Hp → RV) := ocase (b f) some (a f)
theorem orM_ok {P : Program} {a b : Nat → Option (List AV → Hp → RV)} (ha : Good P fun f args h => ocase .no (fun m => m args h) (a f)) (hb : Good P fun f args h => ocase .no (fun m => m args h) (b f)) :
    Good P fun f args h => ocase .no (fun m => m args h) (orM a b f) := fun f args h v h' μ w cargs e hs r => by
  have e : ocase RV.no (fun m => m args h) (ocase (b f) some (a f)) = .ok v h' := e
  cases ha' : a f with
  | none => rw [ha'] at e; exact hb f args h v h' μ w cargs e hs r
  | some m =>
    rw [ha'] at e
    exact ha f args h v h' μ w cargs (show ocase RV.no (fun m => m args h) (a f) = .ok v h' by rw [ha']; exact e) hs r
end Eng
end
section
set_option linter.unusedVariables false
set_option linter.unusedSimpArgs false
namespace Eng
open Go Go.RowKit
theorem keyN_u {n : Nat} (h : n < 18446744073709551616) : keyN .u64 (.int .u64 (.ofNat n)) = some (.ofNat n) := by
  show bc (leI IntKind.u64.min (.ofNat n)) (bc (leI (.ofNat n) IntKind.u64.max) (some (Int.ofNat n)) none) none = _
  rw [(leI_iff _ _).2 (show IntKind.u64.min ≤ Int.ofNat n from by show (0 : Int) ≤ _; simp), (leI_iff _ _).2 (show Int.ofNat n ≤ IntKind.u64.max from by show _ ≤ (18446744073709551615 : Int); simp; omega)]
  rfl
theorem keysN_eq : ∀ {E : List Ent} {es : List (Nat × Int)}, EntR E es → (∀ p ∈ es, p.1 < 18446744073709551616) → keysN .u64 E = some (es.map fun p => Int.ofNat p.1)
  | [], [], _, _ => rfl
  | e :: E, p :: es, ⟨h1, h2, h3⟩, hb => by
    show ocase none (fun n => ocase none (fun l => some (n :: l)) (keysN .u64 E)) (keyN .u64 e.1) = _
    rw [h1, keyN_u (hb p (by simp)), keysN_eq h3 fun q hq => hb q (by simp [hq])]
    rfl
  | [], _ :: _, h, _ => h.elim
  | _ :: _, [], h, _ => h.elim
theorem keysOf_eq {E : List Ent} {es : List (Nat × Int)} {c : Nat} (r : EntR E es) (o : Okm E es c) (hb : ∀ p ∈ es, p.1 < 18446744073709551616) (h12 : es.length ≤ 12) : keysOf .u64 E es.length c = some (es.map fun p => Int.ofNat p.1) := by
  obtain ⟨o1, o2, o3⟩ := o
  have n1 : newI (es.map fun p => Int.ofNat p.1) = true := by
    rw [newI_iff, show (es.map fun p => Int.ofNat p.1) = (es.map fun p => p.1).map Int.ofNat by rw [List.map_map]; rfl]
    exact List.Pairwise.map _ (fun a b h e => h (Int.ofNat.inj e)) o3
  have n2 : bornOk c E = true := by
    unfold bornOk
    rw [(lall_iff).2 fun e he => by rw [Nat.blt_eq]; exact o2 e he, lmap_eq]
    exact newN_iff.2 o1
  unfold keysOf
  rw [keysN_eq r hb]
  show bc (newI _) (bc (bornOk c E) (bc (Nat.ble es.length 12) (some _) none) none) none = _
  rw [n1, n2, Nat.ble_eq_true_of_le h12]
  rfl
end Eng
end
section
set_option linter.unusedVariables false
set_option linter.unusedSimpArgs false
namespace Eng
open Go Go.RowKit
section
variable {α : Type} {a : Rep α} {G : Nat → Prop} {h : Hp}
theorem Rows.takeN1 (h1 : a.sz = 1) : ∀ {xs : List α} {L : List AV} (n : Nat), Eng.Rows a G h L xs → Eng.Rows a G h (L.take n) (xs.take n)
  | [], L, n, e => by rw [show L = [] from e, List.take_nil, List.take_nil]; rfl
  | x :: xs, L, 0, r => rfl
  | x :: xs, L, n + 1, ⟨c, M, e, p, q⟩ => by
    have hc := a.len p
    rw [h1] at hc
    match c, hc with
    | [y], _ => exact ⟨[y], M.take n, by rw [e]; rfl, p, Rows.takeN1 h1 n q⟩
theorem Rows.dropN1 (h1 : a.sz = 1) : ∀ {xs : List α} {L : List AV} (n : Nat), Eng.Rows a G h L xs → Eng.Rows a G h (L.drop n) (xs.drop n)
  | [], L, n, e => by rw [show L = [] from e, List.drop_nil, List.drop_nil]; rfl
  | x :: xs, L, 0, r => r
  | x :: xs, L, n + 1, ⟨c, M, e, p, q⟩ => by
    have hc := a.len p
    rw [h1] at hc
    match c, hc with
    | [y], _ =>
      rw [e]
      exact Rows.dropN1 h1 n q
theorem SIn.part1 (h1 : a.sz = 1) {v : AV} {xs : List α} (P : SIn a G h v xs) {lo hi : Nat} (hl : lo ≤ hi) (hh : hi ≤ xs.length) : SIn a G h (partS v lo hi) ((xs.take hi).drop lo) := by
  cases P with
  | nil =>
    rw [List.take_nil, List.drop_nil]
    exact .nil
  | @sl b o c ex cs m w xs hG hg hcl hm hc hr =>
    have hlen : ((xs.take hi).drop lo).length = hi - lo := by rw [List.length_drop, List.length_take]; omega
    have key : partS (.slice b o xs.length c a.sz ex) lo hi = .slice b (o + lo) ((xs.take hi).drop lo).length (c - lo) a.sz ex := by
      rw [hlen]
      show AV.slice b (o + lo * a.sz) (hi - lo) (c - lo) a.sz ex = _
      rw [h1, Nat.mul_one]
    rw [key]
    rw [h1, Nat.mul_one] at hm hr
    refine .sl hG hg hcl (by rw [hlen, h1]; omega) (by rw [hlen]; omega) ?_
    have := Rows.dropN1 h1 lo (Rows.takeN1 h1 hi hr)
    rw [hlen, h1, Nat.mul_one]
    have e : (cs.drop (o + lo)).take (hi - lo) = (((cs.drop o).take xs.length).take hi).drop lo := by
      rw [List.take_take, Nat.min_eq_left hh, List.drop_take, List.drop_drop]
    rw [e]
    exact this
theorem SIn.to1 (h1 : a.sz = 1) {v : AV} {xs : List α} (P : SIn a G h v xs) {hi : Nat} (hh : hi ≤ xs.length) : SIn a G h (partS v 0 hi) (xs.take hi) := by
  have := P.part1 h1 (Nat.zero_le hi) hh
  rwa [List.drop_zero] at this
theorem SIn.from1 (h1 : a.sz = 1) {v : AV} {xs : List α} (P : SIn a G h v xs) {lo : Nat} (hl : lo ≤ xs.length) : SIn a G h (partS v lo xs.length) (xs.drop lo) := by
  have := P.part1 h1 hl (Nat.le_refl _)
  rwa [List.take_of_length_le (Nat.le_refl _)] at this
theorem sin_sliceTo (h1 : a.sz = 1) {v : AV} {xs : List α} (P : SIn a G h v xs) {hi : Nat} (h2 : hi ≤ xs.length) :
    evQ (.sliceSl 1 (.const v) none (some (.const (.int .i64 (.ofNat hi)))) none) .lf H0 = .ok (partS v 0 hi) := by
  cases P with
  | nil =>
    have : hi = 0 := Nat.le_zero.1 h2
    subst this
    rfl
  | @sl b o c ex cs m w xs hG hg hcl hm hc hr =>
    rw [h1]
    show bc (Nat.beq 1 1) (bc (Nat.ble hi c) (OV.ok (.slice b (o + 0 * 1) (hi - 0) (c - 0) 1 (ocase ex (fun _ => true) (none : Option AX)))) .no) .no = _
    rw [ble_dec, decide_eq_true (by omega)]; rfl
theorem sin_sliceFrom (h1 : a.sz = 1) {v : AV} {xs : List α} (P : SIn a G h v xs) {lo : Nat} (h2 : lo ≤ xs.length) :
    evQ (.sliceSl 1 (.const v) (some (.const (.int .i64 (.ofNat lo)))) none none) .lf H0 = .ok (partS v lo xs.length) := by
  cases P with
  | nil =>
    obtain rfl : lo = 0 := Nat.le_zero.1 h2
    rfl
  | @sl b o c ex cs m w xs hG hg hcl hm hc hr =>
    rw [h1]
    show bc (Nat.beq 1 1) (bc (Nat.ble lo xs.length) (OV.ok (.slice b (o + lo * 1) (xs.length - lo) (c - lo) 1 (ocase ex (fun _ => true) (none : Option AX)))) .no) .no = _
    rw [ble_dec, decide_eq_true h2]; rfl
end
end Eng
end
section
set_option linter.unusedVariables false
set_option linter.unusedSimpArgs false
namespace Eng
open Go Go.RowKit
theorem OwnI.mono {sz : Nat} {h h' : Hp} {G G' : Nat → Prop} {v : AV} {n : Nat} {L : List AV} (o : OwnI sz h G v n L) (hf : ∀ k, G k → G' k) (hc : ∀ k, G k → hget h' k = hget h k) : OwnI sz h' G' v n L := by
  cases o with
  | nil => exact .nil
  | sl hG hg hl hn hL hw => exact .sl (hf _ hG) ((hc _ hG).trans hg) hl hn hL (hw.imp id fun ⟨p, e, hp, hb⟩ => ⟨p, e, hf p hp, hb⟩)
theorem own_thaw {os : List AObj} {h h1 : Hp} {sz n : Nat} {v : AV} {L : List AV} {G : Nat → Prop} (S : Sep (Frz G h1 :: os) h) (o : OwnI sz h1 G v n L) : Sep (OwnO sz v n L :: os) h := by
  have := S.turn (i := 0) (o := Frz G h1) (o' := OwnO sz v n L) rfl fun G' _ hp => o.mono hp.1 hp.2
  exact this
def Flat {α : Type} (a : Rep α) : Prop := ∀ {G G' : Nat → Prop} {h h' : Hp} {cs : List AV} {x : α}, a.rep G h cs x → a.rep G' h' cs x
theorem Rows.any {α : Type} {a : Rep α} (fl : Flat a) {G G' : Nat → Prop} {h h' : Hp} : ∀ {xs : List α} {L : List AV}, Rows a G h L xs → Rows a G' h' L xs
  | [], L, e => e
  | x :: xs, L, ⟨c, M, e, p, q⟩ => ⟨c, M, e, fl p, Rows.any fl q⟩
theorem OwnI.sin {α : Type} {a : Rep α} {h : Hp} {n : Nat} {v : AV} {L : List AV} {G : Nat → Prop} {xs : List α} (o : OwnI a.sz h G v n L) (hr : Rows a G h L xs) (hn : n = xs.length) : SIn a G h v xs := by
  subst hn
  generalize hxs : xs.length = n at o
  cases o with
  | nil =>
    obtain rfl := List.length_eq_zero_iff.1 hxs
    exact .nil
  | @sl b n c ex w Lc L hG hg hl hn hL hw =>
    subst hxs
    have := Nat.mul_le_mul_right a.sz hn
    exact .sl hG hg hl (by omega) hn (by rw [List.drop_zero, hL]; exact hr)
theorem own_lend {α : Type} {a : Rep α} {os : List AObj} {h : Hp} {n : Nat} {v : AV} {L : List AV} {G1 : Nat → Prop} {h1 : Hp} {xs : List α} (S : Sep (OwnO a.sz v n L :: os) h) (fl : Flat a) (r : Rows a G1 h1 L xs) (hn : n = xs.length) :
    ∃ G : Nat → Prop, SIn a G h v xs ∧ OwnI a.sz h G v n L ∧ Sep (Frz G h :: os) h := by
  obtain ⟨G, o, _, S'⟩ := S.freeze (i := 0) rfl
  have o : OwnI a.sz h G v n L := o
  exact ⟨G, o.sin (r.any fl) hn, o, S'⟩
theorem own_sinU {α : Type} {a : Rep α} {os : List AObj} {h : Hp} {i n : Nat} {v : AV} {L : List AV} {G1 : Nat → Prop} {h1 : Hp} {xs : List α} (S : Sep os h) (hi : os[i]? = some (OwnO a.sz v n L)) (fl : Flat a) (r : Rows a G1 h1 L xs) (hn : n = xs.length) : SIn a (Low h) h v xs := by
  obtain ⟨G, o, hb, _⟩ := S.freeze hi
  have o : OwnI a.sz h G v n L := o
  exact (o.sin (r.any fl (G' := G) (h' := h)) hn).up fun k hk => ⟨hb k hk, rfl⟩
theorem flat_U {k : IntKind} : Flat (rU k) := fun e => e
theorem nn_call {r : RV} {z : Int} {h : Hp} (q : r = .ok (.int .i64 z) h) (hz : 0 ≤ z) : r = .ok (.int .i64 (.ofNat z.toNat)) h := by
  rw [q, show (Int.ofNat z.toNat) = z from Int.toNat_of_nonneg hz]
theorem nn_m1 {r : RV} {z : Int} {h : Hp} (q : r = .ok (.int .i64 z) h) (hz : z = -1) : r = .ok (.int .i64 (Int.negSucc 0)) h := by rw [q, hz]; rfl
noncomputable def cloneM (args : List AV) (h : Hp) : RV := match args with
  | [m] => m.asMap .no .no fun b => hmap h b .no fun es n ck => .ok (.map h.next) (hpush h (.mp es n ck))
  | _ => .no
theorem clone_map {os : List AObj} {h : Hp} (S : Sep os h) {i : Nat} {m : AV} {es : List (Nat × Int)} (hi : os[i]? = some (MapO m es)) : ∃ e : Ev, cloneM [m] h = .ok e.v e.h ∧ Sep (MapO e.v es :: os) e.h := by
  obtain ⟨b, E, c, rfl, h3, h4, h5⟩ := map_get S hi
  refine ⟨⟨.map h.next, .lf, hpush h (.mp E es.length c)⟩, ?_, ?_⟩
  · show hmap h b RV.no _ = _
    unfold hmap; rw [h3]; rfl
  · exact S.add (fun k => k = h.next) (Nat.le_succ _) ⟨h.next, E, c, rfl, rfl, hget_hpush h _, h4, h5⟩ (fun k hk => by subst hk; exact ⟨Nat.le_refl _, Nat.lt_succ_self _⟩) fun k hk => hget_hpush_ne h _ (by omega)
end Eng
end
section
set_option linter.unusedVariables false
set_option linter.unusedSimpArgs false
namespace Eng
open Go Go.RowKit Go.ChangeShapes Go.WideShapes
def NumsOk (ks : List IntKind) (ns : List Int) : Prop := ns.length = ks.length ∧ ∀ (i : Nat) (k : IntKind) (n : Int), ks[i]? = some k → ns[i]? = some n → (Lit.int k n).wf = true
structure NArg where
  v : Value
  c : Nat
  s : Nat
  cap : Nat
  es : List (List Int)
  nil : Bool
def rowsN (ks : List IntKind) : List (List Int) → List AV
  | [] => []
  | e :: es => numsA ks e ++ rowsN ks es
theorem numsV_len {ks : List IntKind} {ns : List Int} (h : ns.length = ks.length) : (numsV ks ns).length = ks.length := by unfold numsV; rw [List.length_zipWith]; omega
theorem rowsN_len {ks : List IntKind} : ∀ (es : List (List Int)), (∀ e ∈ es, NumsOk ks e) → (rowsN ks es).length = es.length * ks.length
  | [], h => by simp [rowsN]
  | e :: es, h => by
    show (numsA ks e ++ rowsN ks es).length = _
    rw [List.length_append, rowsN_len es (fun e h' => h e (by simp [h'])), nums_len (h e (by simp)).1, List.length_cons, Nat.succ_mul]; omega
theorem rowsN_cell {ks : List IntKind} : ∀ (es : List (List Int)), ∀ v ∈ rowsN ks es, isCell v = true
  | [] => fun v hv => by cases hv
  | e :: es => fun v hv => by
    rcases List.mem_append.1 (show v ∈ numsA ks e ++ rowsN ks es from hv) with hv | hv
    · exact nums_cell _ _ v hv
    · exact rowsN_cell es v hv
theorem rowsN_at {μ : Mp} {ks : List IntKind} {arr : Array Value} : ∀ (es : List (List Int)) (o : Nat), (∀ e ∈ es, NumsOk ks e) →
    (∀ (m : Nat) (e : List Int), es[m]? = some e → ∀ (q : Nat) (x : Value), (numsV ks e)[q]? = some x → arr[o + m * ks.length + q]? = some x) →
    ∀ (i : Nat) (v : AV), (rowsN ks es)[i]? = some v → ∃ x, arr[o + i]? = some x ∧ VR μ v x
  | [], o, hl, ha, i, v, h => by simp [rowsN] at h
  | e :: es, o, hl, ha, i, v, h => by
    have he := hl e (by simp)
    have hlen : (numsA ks e).length = ks.length := nums_len he.1
    have h : (numsA ks e ++ rowsN ks es)[i]? = some v := h
    by_cases hi : i < ks.length
    · rw [List.getElem?_append_left (by omega)] at h
      obtain ⟨x, hx, rx⟩ := (nums_VRs (μ := μ) ks e).get i v h
      exact ⟨x, by have := ha 0 e rfl i x hx; rwa [Nat.zero_mul, Nat.add_zero] at this, rx⟩
    · rw [List.getElem?_append_right (by omega), hlen] at h
      obtain ⟨x, hx, rx⟩ := rowsN_at es (o + ks.length) (fun e h => hl e (by simp [h]))
        (fun m e' hm q x hq => by
          have := ha (m + 1) e' (by simpa using hm) q x hq
          rwa [Nat.succ_mul, show o + (m * ks.length + ks.length) + q = o + ks.length + m * ks.length + q by omega] at this) _ _ h
      exact ⟨x, by rw [← hx]; congr 1; omega, rx⟩
def NArg.lies (w : World) (ks : List IntKind) (a : NArg) : Prop := (∀ e ∈ a.es, NumsOk ks e) ∧ ((a.nil = true ∧ a.v = .slice none 0 0 ∧ a.es = []) ∨
  (a.nil = false ∧ a.v = .slice (some ⟨a.c, a.s, none⟩) a.es.length a.cap ∧ a.es.length ≤ a.cap ∧ ∃ arr e fr, w.heap[a.c]? = some (.cells arr e fr) ∧ (a.cap ≠ 0 → a.s + a.cap * ks.length ≤ arr.size) ∧
    ∀ (m : Nat) (e : List Int), a.es[m]? = some e → ∀ (q : Nat) (x : Value), (numsV ks e)[q]? = some x → arr[a.s + m * ks.length + q]? = some x))
noncomputable def NArg.piece (ks : List IntKind) (a : NArg) : Piece := if a.nil = true then ⟨a.v, [], fun _ => .nilSlice⟩ else
  ⟨a.v, [(a.c, a.s, fun _ => rowsN ks a.es)], fun B => .slice B 0 a.es.length a.cap ks.length true⟩
theorem NArg.piece_v (ks : List IntKind) (a : NArg) : (a.piece ks).v = a.v := by unfold NArg.piece; split <;> rfl
theorem NArg.ok {w : World} {ks : List IntKind} {a : NArg} (ha : a.lies w ks) : (a.piece ks).ok w := by
  obtain ⟨hl, ⟨h1, h2, h3⟩ | ⟨h1, h2, h3, arr, el, fr, hh, hs, hc⟩⟩ := ha
  · intro μ B _ _
    unfold NArg.piece
    rw [if_pos h1]
    refine ⟨?_, fun k c s g hk => by simp at hk⟩
    show VR μ .nilSlice a.v
    rw [h2, VR_nilSlice]
  · intro μ B hat hz
    unfold NArg.piece at hat ⊢
    rw [if_neg (by rw [h1]; decide)] at hat ⊢
    have hB : μ.at_ B = some (a.c, a.s) := hat 0 _ _ _ rfl
    refine ⟨?_, fun k c s g hk => ?_⟩
    · show VR μ (.slice B 0 a.es.length a.cap ks.length true) a.v
      rw [h2, VR_slice]
      refine ⟨a.c, a.s, ⟨a.c, a.s, none⟩, a.cap, hB, rfl, h3, Nat.le_refl _, fun _ => rfl, fun h0 => ⟨rfl, ?_⟩⟩
      rw [hz]; unfold sizeAt; rw [hh]
      exact hs h0
    · cases k with
      | zero =>
        cases hk
        exact ⟨arr, el, fr, hh, rowsN_cell _, rowsN_at a.es a.s hl hc⟩
      | succ m => simp at hk
theorem NArg.sin {α : Type} {w : World} {ks : List IntKind} {a : NArg} (ha : a.lies w ks) (rp : Rep α) (val : List Int → α) (hsz : rp.sz = ks.length) {h : Hp} {B : Nat}
    (hg : ∀ (k c s : Nat) (g : Nat → List AV), (a.piece ks).bl[k]? = some (c, s, g) → B + k < h.next ∧ hget h (B + k) = some (.cells (g B) (g B).length .ro))
    (hrep : ∀ (e : List Int), NumsOk ks e → rp.rep (Low h) h (numsA ks e) (val e)) : SIn rp (Low h) h ((a.piece ks).av B) (a.es.map val) := by
  obtain ⟨hl, ⟨h1, h2, h3⟩ | ⟨h1, h2, h3, arr, el, fr, hh, hs, hc⟩⟩ := ha
  · unfold NArg.piece
    rw [if_pos h1, h3]
    exact .nil
  · unfold NArg.piece at hg ⊢
    rw [if_neg (by rw [h1]; decide)] at hg ⊢
    obtain ⟨b1, b2⟩ := hg 0 _ _ _ rfl
    rw [Nat.add_zero] at b1 b2
    have rows : ∀ (es : List (List Int)), (∀ e ∈ es, NumsOk ks e) → Rows rp (Low h) h (rowsN ks es) (es.map val) := by
      intro es
      induction es with
      | nil => intro _; rfl
      | cons e es ih =>
        intro hl
        exact ⟨numsA ks e, rowsN ks es, rfl, hrep e (hl e (by simp)), ih (fun e h => hl e (by simp [h]))⟩
    have R := rows a.es hl
    have hlen := rowsN_len a.es hl
    have key : SIn rp (Low h) h (.slice B 0 (a.es.map val).length a.cap rp.sz true) (a.es.map val) := by
      refine .sl b1 b2 rfl ?_ (by rw [List.length_map]; exact h3) ?_
      · rw [hlen, List.length_map, hsz]; omega
      · rw [List.drop_zero, List.take_of_length_le (by rw [hlen, List.length_map, hsz]; exact Nat.le_refl _)]
        exact R
    rw [List.length_map, hsz] at key
    exact key
structure NForm (P : Program) (e : TypeId) (ks : List IntKind) : Prop where
  fs : ∃ fs : Array Field, P.underlying e = some (.struct fs) ∧ (∀ (i : Nat) (k : IntKind), ks[i]? = some k → ∃ f, fs[i]? = some f ∧ f.offset = i ∧ P.cellsOf f.type = 1 ∧ P.underlying f.type = some (.int k))
  sz : P.cellsOf e = ks.length
  pos : 0 < ks.length
theorem nums_of {H : Type} {enc : TypeId × Value → H} {P : Program} {W : World} {e : TypeId} {ks : List IntKind} (F : NForm P e ks) {cs : List Value} {x : DataW H × List MemPlace} {fuel : Nat}
    (h : DataW.trod enc P W 0 (fun _ => true) true fuel e cs = some x) : ∃ ns : List Int, numsV ks ns = cs ∧ NumsOk ks ns := by
  obtain ⟨fs, ht, hf⟩ := F.fs
  obtain ⟨xs, n, _, _, hl, hxs, hgo⟩ := DataW.trod_struct ht h
  rw [F.sz] at hl
  have each : ∀ (i : Nat) (k : IntKind), ks[i]? = some k → ∃ m : Int, cs[i]? = some (.int k m) ∧ (Lit.int k m).wf = true := fun i k hk => by
    obtain ⟨f, f1, f2, f3, f4⟩ := hf i k hk
    have := hgo i f f1
    have hx : ∃ y, xs[i]? = some y := by
      have : i < xs.length := by rw [hxs]; exact (Array.getElem?_eq_some_iff.1 f1).1
      exact ⟨_, List.getElem?_eq_getElem this⟩
    obtain ⟨y, hy⟩ := hx
    rw [f2, f3, hy] at this
    obtain ⟨m, e1, _, e3⟩ := DataW.trod_int f4 this
    exact ⟨m, get_take1 e1, e3⟩
  have nums : ∀ (j : Nat) (ks' : List IntKind), ks.drop j = ks' → ∃ ns : List Int, ns.length = ks'.length ∧ (∀ (i : Nat) (k : IntKind) (n : Int), ks'[i]? = some k → ns[i]? = some n → cs[j + i]? = some (.int k n) ∧ (Lit.int k n).wf = true) := by
    intro j ks'
    induction ks' generalizing j with
    | nil => intro _; exact ⟨[], rfl, fun i k n h => by simp at h⟩
    | cons k ks' ih =>
      intro hd
      have hk : ks[j]? = some k := by
        have := congrArg (fun m => m[0]?) hd
        simpa [List.getElem?_drop] using this
      have hd2 : ks.drop (j + 1) = ks' := by rw [← List.drop_drop, hd]; rfl
      obtain ⟨ns, n1, n2⟩ := ih (j + 1) hd2
      obtain ⟨m, m1, m2⟩ := each j k hk
      refine ⟨m :: ns, by simp [n1], fun i k' n hk' hn => ?_⟩
      cases i with
      | zero =>
        simp at hk' hn
        subst hk'; subst hn
        exact ⟨by rw [Nat.add_zero]; exact m1, m2⟩
      | succ i =>
        have := n2 i k' n (by simpa using hk') (by simpa using hn)
        rwa [show j + 1 + i = j + (i + 1) by omega] at this
  obtain ⟨ns, n1, n2⟩ := nums 0 ks rfl
  refine ⟨ns, ?_, n1, fun i k n h1 h2 => (n2 i k n h1 h2).2⟩
  have hnl : (numsV ks ns).length = ks.length := numsV_len n1
  refine List.ext_getElem? fun i => ?_
  by_cases hi : i < ks.length
  · have hk := List.getElem?_eq_getElem hi
    have hn := List.getElem?_eq_getElem (show i < ns.length by omega)
    have := (n2 i _ _ hk hn).1
    rw [Nat.zero_add] at this
    rw [this]
    unfold numsV
    rw [List.getElem?_zipWith, hk, hn]
  · rw [List.getElem?_eq_none (by omega), List.getElem?_eq_none (by omega)]
theorem narg_of {H : Type} {enc : TypeId × Value → H} {P : Program} {W : World} {t e : TypeId} {v : Value} {d : DataW H} {p : List MemPlace} {base : Nat} {ks : List IntKind} (ht : P.underlying t = some (.slice e)) (F : NForm P e ks)
    (h0 : DataW.Trod enc P W 0 (fun _ => true) true t v d p) (hv : Value.okWide P W .any base t v) : ∃ a : NArg, a.v = v ∧ a.lies W ks ∧ a.es.length ≤ maxLen := by
  obtain ⟨a0, len, cap, rfl⟩ := okWide_slice ht hv
  obtain ⟨fuel, hf⟩ := h0
  rcases DataW.trod_slice ht hf with ⟨hcs, _⟩ | ⟨a, len', cap', elems, rest, n, _, hcs, _, hb, hl, hm, hlen, hel, hsp, _⟩
  · simp [Value.cells] at hcs
    obtain ⟨rfl, rfl, rfl⟩ := hcs
    exact ⟨⟨.slice none 0 0, 0, 0, 0, [], true⟩, rfl, ⟨by simp, .inl ⟨rfl, rfl, rfl⟩⟩, Nat.zero_le _⟩
  · simp [Value.cells] at hcs
    obtain ⟨rfl, rfl, rfl⟩ := hcs
    obtain ⟨hrl, hr⟩ := hsp rfl
    have hhas : W.has P .any base a e cap := by
      unfold Value.okWide Cell.okWide Cell.ok at hv
      rw [ht] at hv
      exact hv.2.2
    obtain ⟨_, hsp, row, cells, hsh, _⟩ := hhas
    obtain ⟨b, o, sp⟩ := a
    have hsp : sp = none := hsp
    subst hsp
    have hh : ∃ arr e' fr, W.heap[b]? = some (.cells arr e' fr) := by
      have hsh : W.shape? b = some (row, cells) := hsh
      unfold World.shape? at hsh
      split at hsh
      · rename_i c el fr h; exact ⟨c, el, fr, h⟩
      · cases hsh
    obtain ⟨arr, e', fr, hh⟩ := hh
    have hpos := F.pos
    rw [F.sz] at hel hr
    have cellAt : ∀ (i : Nat) (cs : List Value), W.cells? 0 ((⟨b, o, none⟩ : Addr).add (i * ks.length)) ks.length = some cs → cs.length = ks.length ∧ ∀ (q : Nat) (x : Value), cs[q]? = some x → arr[o + i * ks.length + q]? = some x := fun i cs hc => by
      obtain ⟨_, h1, h2⟩ := World.cells?_some hc
      refine ⟨h1, fun q x hq => ?_⟩
      have hq' : q < ks.length := by have := (List.getElem?_eq_some_iff.1 hq).1; omega
      have := h2 q hq'
      rw [addr_add, addr_add, hq] at this
      unfold World.cell? at this
      simpa [hh] using this
    have hes : ∀ (j : Nat), j ≤ len → ∃ es : List (List Int), es.length = j ∧ (∀ e ∈ es, NumsOk ks e) ∧ ∀ (m : Nat) (e : List Int), es[m]? = some e → ∀ (q : Nat) (x : Value), (numsV ks e)[q]? = some x → arr[o + m * ks.length + q]? = some x := by
      intro j
      induction j with
      | zero => intro _; exact ⟨[], rfl, by simp, fun m e h => by simp at h⟩
      | succ j ih =>
        intro hj
        obtain ⟨es, e1, e2, e3⟩ := ih (by omega)
        have := hel j (by omega)
        have hx : ∃ y, elems[j]? = some y := ⟨_, List.getElem?_eq_getElem (by omega)⟩
        obtain ⟨y, hy⟩ := hx
        rw [hy, Option.bind_eq_some_iff] at this
        obtain ⟨cs, c1, c2⟩ := this
        obtain ⟨c3, c4⟩ := cellAt j cs c1
        obtain ⟨a, a1, a2⟩ := nums_of F c2
        refine ⟨es ++ [a], by simp [e1], fun e he => ?_, fun m e hm q x hq => ?_⟩
        · rcases List.mem_append.1 he with he | he
          · exact e2 e he
          · rw [List.mem_singleton.1 he]; exact a2
        · by_cases hm2 : m < j
          · rw [List.getElem?_append_left (by omega)] at hm
            exact e3 m e hm q x hq
          · rw [List.getElem?_append_right (by omega)] at hm
            have : m - es.length = 0 := by have := (List.getElem?_eq_some_iff.1 hm).1; simp at this; omega
            rw [this] at hm
            obtain rfl : a = e := by simpa using hm
            obtain rfl : m = j := by omega
            rw [a1] at hq
            exact c4 q x hq
    obtain ⟨es, e1, e2, e3⟩ := hes len (Nat.le_refl _)
    refine ⟨⟨.slice (some ⟨b, o, none⟩) len cap, b, o, cap, es, false⟩, rfl, ⟨e2, .inr ⟨rfl, by rw [e1], by rw [e1]; exact hl, arr, e', fr, hh, fun h0 => ?_, e3⟩⟩, by rw [e1]; omega⟩
    have h0 : cap ≠ 0 := h0
    have last : ∃ cs, W.cells? 0 ((⟨b, o, none⟩ : Addr).add ((cap - 1) * ks.length)) ks.length = some cs := by
      by_cases hc : cap - 1 < len
      · have := hel (cap - 1) hc
        rw [List.getElem?_eq_getElem (by omega), Option.bind_eq_some_iff] at this
        obtain ⟨cs, c1, _⟩ := this
        exact ⟨cs, c1⟩
      · have := hr (cap - 1 - len) (by omega)
        rw [List.getElem?_eq_getElem (by omega), Option.bind_eq_some_iff, show len + (cap - 1 - len) = cap - 1 by omega] at this
        obtain ⟨cs, c1, _⟩ := this
        exact ⟨cs, c1⟩
    obtain ⟨cs, c1⟩ := last
    obtain ⟨c3, c4⟩ := cellAt _ cs c1
    have := c4 (ks.length - 1) _ (List.getElem?_eq_getElem (by omega))
    have := (Array.getElem?_eq_some_iff.1 this).1
    have hmul : cap * ks.length = (cap - 1) * ks.length + ks.length := by
      rw [← Nat.succ_mul]; congr 1; omega
    show o + cap * ks.length ≤ arr.size
    omega
end Eng
end
section
set_option linter.unusedVariables false
set_option linter.unusedSimpArgs false
namespace Eng
open Go
def digU : Nat → Nat → List Nat
  | 0, v => [v % 128]
  | n + 1, v => (v % 128 ||| 128) :: digU n (v / 128)
def digS : Nat → Int → List Nat
  | 0, w => [(w % 128).toNat]
  | n + 1, w => ((w % 128).toNat ||| 128) :: digS n (w / 128)
end Eng
namespace Eng
open Go
end Eng
namespace Eng
open Go
end Eng
namespace Eng
open Go
end Eng
namespace Eng
open Go
theorem eqI_T {a b : Int} (h : eqI a b = true) : a = b := by rw [eqI_eq] at h; exact eq_of_beq h
theorem eqI_F {a b : Int} (h : eqI a b = false) : a ≠ b := fun e => by subst e; rw [eqI_eq] at h; simp at h
def stepL (l : List Nat) (e : Nat) : List Nat := l.set (l.length - 1) (l.getD (l.length - 1) 0 ||| 128) ++ [e]
def longerL (e : Nat) : Nat → List Nat → List Nat
  | 0, l => l
  | k + 1, l => longerL e k (stepL l e)
def LongerS (call : CallT) (f : Nat) : Prop := ∀ {B : Nat} {h : Hp} {vb : AV} {l : List Nat} {k e : Nat}, B ≤ h.next → Bytes B h vb l → 1 ≤ l.length → l.length ≤ 100 → k ≤ 7 → e < 256 →
  ∃ rv rh, call f [vb, .int .i64 (.ofNat k), .int .u8 (.ofNat e)] h = .ok rv rh ∧ Owned 1 B rh rv (l.length + k) (u8s (longerL e k l)) ∧ Old B h rh ∧ B ≤ rh.next
end Eng
namespace Eng
open Go
end Eng
namespace Eng
open Go
end Eng
namespace Eng
open Go
def placeN (c : Int) (n : Nat) : Nat := (c % (n : Int)).toNat
def PlaceS (call : CallT) (f : Nat) : Prop := ∀ (c : Int) (n : Nat) (h : Hp), -9223372036854775808 ≤ c ∧ c < 9223372036854775808 → 1 ≤ n → n < 4611686018427387904 → call f [.int .i64 c, .int .i64 (.ofNat n)] h = .ok (.int .i64 (.ofNat (placeN c n))) h
end Eng
end
section
set_option linter.unusedVariables false
set_option linter.unusedSimpArgs false
namespace Go.Proofs.Ytpelnanckmjoaaa
open Go Go.RowKit Go.Maps Go.Sort Go.Shelf Eng
set_option maxRecDepth 100000 in
set_option maxHeartbeats 1000000 in
theorem keys1_68 (F : Fence) (n : Nat) (h10 : F.fn 68) (hro : F.round = none) (hn : 1 ≤ n) (l Bm ko b nn : Nat) (D0 : DataW Unit) (R : Value → Option (DataW Unit × List MemPlace)) (J : List Int → World → Prop)
    (hY : ∀ pre x W, J pre W → pre.length < Maps.size D0 → YieldAt F (n - 1) Try.prog l #[enQ .u64 x] W fun e W' => e = .returned (.bool true) ∧ J (pre ++ [x]) W' ∧ KeepsWalks W W')
    (W : World) (hJ : AbidesFrom W.heap.size J) (hm : W.cell? ⟨Bm, ko, none⟩ = some (.map (some b))) (hown : W.ownsMap Try.prog 42 R b nn D0) (h0 : J [] W) :
    CallsIn F n Try.prog 68 #[.func (.yield l) #[] #[], .pointer (some ⟨Bm, ko, none⟩)] W fun e W' => (∃ v, e = .returned v) ∧ ∃ ss : List Int, ss.Perm (keysD D0) ∧ J ss W' := by
  refine callsIn_of_wp Try.func68 rfl h10 ?_ hro
  simp only [Try.ntmps68, List.size_toArray, List.length_cons, List.length_nil, Nat.reduceAdd, Nat.reduceSub, Array.replicate_succ, Array.replicate_zero, List.push_toArray, List.append_toArray, List.nil_append, List.cons_append]
  gi_wp2_with (first
    | (gi_at_range; refine wpListIn_range_own _ rfl _ 95 rfl 42 3 (int_keyed Try.underlying42) Try.underlying95 _ b nn _ rfl hown ?_; intro w0 hrg0 hg0 hs0)
    | gi_in)
  go_frame
  gi_loopw [3] (fun _ wr => ∃ (left : Lit → Bool) (cnt : Nat) (ss : List Int), wr.ranges Try.prog 42 R b W.heap.size nn D0 left cnt ∧ ss.length + cnt ≤ Maps.size D0 ∧ Came .u64 D0 left ss ∧ J ss wr)
    (fun _ wr => wr.rangeLeft b W.heap.size)
  case atStart =>
    exact ⟨_, _, [], hrg0, by simp, Came.start D0, hJ [] W w0 none h0 hg0 (fun r e => by cases e)⟩
  case round =>
    obtain ⟨left, cnt, ss, hrg, hcs, hC, hJs⟩ := hrel
    gi_wp2_with (first
      | (gi_at_next; refine wpListIn_next_ranges _ rfl _ rfl 42 (int_keyed Try.underlying42) R (enQ .u64) id (fun key kl hk => by obtain ⟨x, hx, _⟩ := keyOf_q Try.underlying42 hk; exact ⟨x, hx⟩) (fun v _ _ => ⟨v, rfl⟩) b W.heap.size nn _ _ _ rfl hrg ?_ ?_)
      | gi_in)
    · intro hc0 hl0
      gi_wp2
      go_end0
      exact ⟨⟨_, rfl⟩, ss, hC.all hown Try.underlying42 hl0, hJs⟩
    · intro x c kl yd yp w2 cnt2 hkey hlk hv hat hrg2 hlt hg2 hs2 hen
      obtain ⟨x', ex, rfl, _⟩ := keyOf_q Try.underlying42 hkey
      obtain rfl : x = x' := enQ_inj ex
      have hJ2 : J ss w2 := hJ ss wr w2 (some W.heap.size) hJs hg2 (fun r e => by cases e; exact ⟨Nat.le_refl _, hrg.iter_walk⟩)
      obtain ⟨fn, tmps, assign, body, hy, hR⟩ := hY ss x w2 hJ2 (by omega)
      clear hs2
      gi_wp2
      refine hR.mono ?_
      rintro e W3 ⟨rfl, hJ3, hk3⟩
      gi_wp2
      have hrg3 := hrg2.of_walks hk3
      go_roundw
      case rel => exact ⟨_, cnt2, ss ++ [x], hrg3, by simp; omega, hC.step hlk hat, hJ3⟩
      case measure => rw [hrg3.left_eq, hrg.left_eq]; exact hlt
theorem gives_68 (F : Fence) (n : Nat) (h10 : F.fn 68) (hro : F.round = none) (hn : 1 ≤ n) (Bm ko b nn : Nat) (D0 : DataW Unit) (R : Value → Option (DataW Unit × List MemPlace)) (w : World) (hBm : Bm < w.heap.size)
    (hm : w.cell? ⟨Bm, ko, none⟩ = some (.map (some b))) (hown : w.ownsMap Try.prog 42 R b nn D0) :
    SeqGives F n Try.prog 68 #[.pointer (some ⟨Bm, ko, none⟩)] (enQ .u64) (fun ss => ss.Perm (keysD D0)) (Maps.size D0) w := fun l J W hW hJ hY h0 => by
  have hown' : W.ownsMap Try.prog 42 R b nn D0 := by
    have hbl := hown.lt
    obtain ⟨es, clock, hb, Ft, hs, hD⟩ := hown
    exact ⟨es, clock, (hW.block b hbl).trans hb, Ft, hs, hD⟩
  exact keys1_68 F n h10 hro hn l Bm ko b nn D0 R J hY W hJ ((hW.cell (p := ⟨Bm, ko, none⟩) hBm).trans hm) hown' h0
def apAssign : Code := (Code.region 2 #[{ dst := some 5, op := Op.assign (Operand.tmp 7), type := 42, pos := "iter.go:51", after := #[], guard := none }] false)
def apBody : Code := (Code.block 1 (Code.region 3 #[{ dst := some 8, op := Op.load 48 (Operand.tmp 2), type := 48, pos := "iter.go:52", after := #[], guard := none }, { dst := some 9, op := Op.move (Operand.tmp 5), type := 42, pos := "iter.go:52", after := #[], guard := none }, { dst := some 10, op := Op.buildSlice 48 1 #[(0, Operand.tmp 9)], type := 48, pos := "iter.go:52", after := #[{ on := 1, ground := Ground.data }], guard := none }, { dst := some 11, op := Op.call { callee := Callee.builtin Builtin.append, args := #[Operand.tmp 8, Operand.tmp 10], argTypes := #[48, 48] }, type := 48, pos := "iter.go:52", after := #[{ on := 0, ground := Ground.data }, { on := 2, ground := Ground.data }], guard := none }, { dst := none, op := Op.store 48 (Operand.tmp 2) (Operand.tmp 11), type := 0, pos := "iter.go:52", after := #[{ on := 3, ground := Ground.data }, { on := 3, ground := Ground.chain }, { on := 0, ground := Ground.phase }, { on := 1, ground := Ground.phase }, { on := 2, ground := Ground.phase }, { on := 3, ground := Ground.phase }], guard := none }] false))
def apRec (fn : FuncId) (sv : Value) (Bs D : Nat) (st : LoopState) (pend : Option Code) : Loop :=
  { state := st, pending := pend, fn, tmps := #[.slice none 0 0, sv, .pointer (some ⟨Bs, 0, none⟩), undef, .slice none 0 0, undef, sv, undef, undef, undef, undef, undef, undef], params := #[7], assign := apAssign, body := apBody, defers := D }
structure ApAt (w0 : World) (fn : FuncId) (sv : Value) (Bs l D : Nat) (ss : List Int) (W : World) : Prop where
  box : ∃ v, W.heap[Bs]? = some (.cells #[v] 48 (0, 0)) ∧ W.ownsRow w0.heap.size 42 1 v ss.length (ss.map (enQ .u64)) ∧ (v = .slice none 0 0 ↔ ss = [])
  L : W.heap[l]? = some (.loop (apRec fn sv Bs D .ready none))
  K : W.heap[D]? = some (.deferred (some []))
  below : Below w0.heap.size w0 W
theorem ap_abides (w0 : World) (fn : FuncId) (sv : Value) (Bs l D B : Nat) (hB : w0.heap.size ≤ B) : AbidesFrom B (ApAt w0 fn sv Bs l D) := fun s W W' row h hg hrow => by
  have hrow' : ∀ r, row = some r → ∃ o : Obj, W.heap[r]? = some o ∧ o.isWalk = true := fun r e => (hrow r e).2
  obtain ⟨v, hv, hr, hn⟩ := h.box
  exact ⟨⟨v, (grownBy_keeps hg hrow' hv rfl).trans hv, ownsRow_abides_a hr hg hrow', hn⟩, (grownBy_keeps hg hrow' h.L rfl).trans h.L, (grownBy_keeps hg hrow' h.K rfl).trans h.K,
    h.below.grown hg h.below.size (fun k e => Nat.le_trans hB (hrow k e).1)⟩
theorem apInfo : (Try.prog.info? 42).map (fun i => (i.zero, i.size, i.bytes)) = some (some (.int .u64 0), 1, 8) := by kernel_rfl
set_option maxRecDepth 100000 in
set_option maxHeartbeats 2000000 in
theorem apYield (F : Fence) (m : Nat) (w0 : World) (fn : FuncId) (hfn : F.fn fn) (sv : Value) (Bs l D : Nat) (hBl : Bs ≠ l) (hDl : D ≠ l) (hDB : D ≠ Bs) (h0B : w0.heap.size ≤ Bs) (h0l : w0.heap.size ≤ l)
    (N : Nat) (hN : N ≤ maxLen) (hNb : N * 8 ≤ 140737488355328) (ss : List Int) (x : Int) (W : World) (h : ApAt w0 fn sv Bs l D ss W) (hlen : ss.length < N) :
    YieldAt F m Try.prog l #[enQ .u64 x] W fun e W' => e = .returned (.bool true) ∧ ApAt w0 fn sv Bs l D (ss ++ [x]) W' ∧ KeepsWalks W W' := by
  obtain ⟨i0, hi, hz0, hz1, hz2⟩ := info_parts apInfo
  obtain ⟨v, hv, hrow, _⟩ := h.box
  refine ⟨fn, #[.slice none 0 0, sv, .pointer (some ⟨Bs, 0, none⟩), undef, .slice none 0 0, undef, sv, enQ .u64 x, undef, undef, undef, undef, undef], apAssign, apBody, by simpa [apRec] using run_yield (P := Try.prog) (args := #[enQ .u64 x]) h.L rfl, roundIn_of_wpIn hfn ?_⟩
  have hl : l < W.heap.size := (Array.getElem?_eq_some_iff.1 h.L).1
  have hbr := run_beginRound (P := Try.prog) h.L rfl
  obtain ⟨W2, hW2⟩ : ∃ W2, W.putObj l (.loop { apRec fn sv Bs D .ready none with state := .busy }) = W2 := ⟨_, rfl⟩
  rw [hW2] at hbr
  have hg2 : W.grownBy W2 (some l) := by rw [← hW2]; exact grownBy_putObj_a _ _ _
  have hk2 : KeepsWalks W W2 := by rw [← hW2]; exact KeepsWalks.putObj _ h.L rfl
  have hv2 : W2.heap[Bs]? = some (.cells #[v] 48 (0, 0)) := by rw [← hW2]; exact (World.putObj_heap_other hBl).trans hv
  have hK2 : W2.heap[D]? = some (.deferred (some [])) := by rw [← hW2]; exact (World.putObj_heap_other hDl).trans h.K
  have hL2 : W2.heap[l]? = some (.loop { apRec fn sv Bs D .ready none with state := .busy }) := by rw [← hW2]; exact World.putObj_heap_same hl
  have hrow2 : W2.ownsRow w0.heap.size 42 1 v ss.length (ss.map (enQ .u64)) := hrow.kept hg2 (ownsRow_ne_a hrow h.L (fun cur e => by cases e))
  have hb2 : Below w0.heap.size w0 W2 := h.below.grown hg2 h.below.size (fun k e => by cases e; exact h0l)
  obtain ⟨hc2, hf2⟩ := cell_of_box_a hv2
  have hBlt : Bs < W2.heap.size := (Array.getElem?_eq_some_iff.1 hv2).1
  have hl2 : l < W2.heap.size := (Array.getElem?_eq_some_iff.1 hL2).1
  have hDlt : D < W2.heap.size := (Array.getElem?_eq_some_iff.1 hK2).1
  have ne_of : ∀ {j : Nat} {o : Obj}, W2.heap[j]? = some o → (∀ cur, o ≠ .cells cur 42 (0, 0)) → some j ≠ v.ownBlock := fun hj hno => by
    rcases ownsRow_ne_a hrow2 hj hno with e | e
    · rw [e]; simp
    · exact fun e' => e e'.symm
  clear hW2
  unfold apAssign
  gi_wp2_with (rw [Oper.semAt_eq _ _ _ (fun c h => by cases h)]; go_simp; try go_bits)
  unfold apBody
  gi_wp2_with (first
    | (gi_at_builtin; refine wpListIn_append_own _ rfl _ _ 48 rfl w0.heap.size 42 i0 (.int .u64 0) 1 8 Try.underlying48 hi hz0 hz1 hz2 rfl (by decide) _ _ _ rfl (hrow2.alloc _) ⟨W2.heap.size, 0, none⟩ 1 1 [enQ .u64 x] rfl rfl (cell_one_new _ _ _) (by simp [Value.oneCell', enQ]) (by omega) (by omega) (by have := hb2.size; simp; omega) ?_; intro v' w3 hown' hg3 hnil3
       have hv3 : w3.heap[Bs]? = some (.cells #[v] 48 (0, 0)) := (hg3.block Bs (by simp; omega) (ne_of hv2 (fun cur e => by cases e))).trans ((Below.heap_alloc _ _ Bs hBlt).trans hv2)
       obtain ⟨hc3, hf3⟩ := cell_of_box_a hv3
       obtain ⟨g', cap', cur', rfl, hbase', hgb', hr1, hr2, hr3, hr4⟩ : ∃ g' cap' cur', v' = .slice (some ⟨g', 0, none⟩) (ss.length + 1) cap' ∧ w0.heap.size ≤ g' ∧ w3.heap[g']? = some (.cells cur' 42 (0, 0)) ∧ ss.length + 1 ≤ cap' ∧ cap' ≤ maxLen ∧ cur'.size = cap' * 1 ∧ cur'.toList.take ((ss.length + 1) * 1) = ss.map (enQ .u64) ++ [enQ .u64 x] := by
         rcases hown'.2 with ⟨_, h0⟩ | h'
         · exact absurd h0 (by omega)
         · exact h'
       go_frame)
    | (rw [Oper.semAt_eq _ _ _ (fun c h => by cases h)]; go_simp; try go_bits))
  have hg3' : (W2.alloc (.cells #[enQ .u64 x] 42)).grownBy w3 v.ownBlock := hg3
  have hL3 : w3.heap[l]? = some (.loop { apRec fn sv Bs D .ready none with state := .busy }) := (hg3'.block l (by simp; omega) (ne_of hL2 (fun cur e => by cases e))).trans ((Below.heap_alloc _ _ l hl2).trans hL2)
  have hK3 : w3.heap[D]? = some (.deferred (some [])) := (hg3'.block D (by simp; omega) (ne_of hK2 (fun cur e => by cases e))).trans ((Below.heap_alloc _ _ D hDlt).trans hK2)
  obtain ⟨w4, hw4⟩ : ∃ w4, w3.setCell ⟨Bs, 0, none⟩ (.slice (some ⟨g', 0, none⟩) (ss.length + 1) cap') = w4 := ⟨_, rfl⟩
  rw [hw4]
  have hg4 : w3.grownBy w4 (some Bs) := by rw [← hw4]; exact grownBy_setCell0_a _ _ _
  have hv4 : w4.heap[Bs]? = some (.cells #[.slice (some ⟨g', 0, none⟩) (ss.length + 1) cap'] 48 (0, 0)) := by rw [← hw4]; exact heap_setCell_box_a _ hv3
  have hL4 : w4.heap[l]? = some (.loop { apRec fn sv Bs D .ready none with state := .busy }) := (hg4.block l (Array.getElem?_eq_some_iff.1 hL3).1 (fun e => hBl (by cases e; rfl))).trans hL3
  have hK4 : w4.heap[D]? = some (.deferred (some [])) := (hg4.block D (Array.getElem?_eq_some_iff.1 hK3).1 (fun e => hDB (by cases e; rfl))).trans hK3
  have hrow4 := hown'.kept hg4 (ownsRow_ne_a hown' hv3 (fun cur e => by cases e))
  have hl4 : l < w4.heap.size := (Array.getElem?_eq_some_iff.1 hL4).1
  have hb3 : Below w0.heap.size w0 w3 := (hb2.alloc hb2.size _).grown hg3' (by have := hb2.size; simp; omega) (fun k e => (hrow2.lt k e).1)
  have hb4 : Below w0.heap.size w0 w4 := hb3.grown hg4 hb3.size (fun k e => by cases e; exact h0B)
  have hk4 : KeepsWalks W w4 := ((hk2.trans (KeepsWalks.alloc _ _)).trans (KeepsWalks.of_grownBy hg3' (ownsRow_not_walk_a (hrow2.alloc _)))).trans (by rw [← hw4]; exact KeepsWalks.setCell _ _ _)
  clear hw4
  refine ⟨_, _, run_endRound none hL4, rfl, ⟨⟨_, (World.putObj_heap_other hBl).trans hv4, ?_, by simp⟩, World.putObj_heap_same hl4, (World.putObj_heap_other hDl).trans hK4, hb4.grown (grownBy_putObj_a _ _ _) hb4.size (fun k e => by cases e; exact h0l)⟩, hk4.trans (KeepsWalks.putObj _ hL4 rfl)⟩
  have := hrow4.kept (grownBy_putObj_a w4 l (.loop { { apRec fn sv Bs D .ready none with state := .busy } with state := if (none : Option Code).isNone then .ready else .done, pending := none })) (ownsRow_ne_a hrow4 hL4 (fun cur e => by cases e))
  simpa using this
set_option maxRecDepth 100000 in
set_option maxHeartbeats 2000000 in
theorem appendSeq_in (F : Fence) (n : Nat) (h11 : F.fn 103) (hro : F.round = none) (hn : 2 ≤ n) (g : Nat) (lb : Array Value) (hFg : F.fn g) (eg : ∀ args w, (callFunc g args).run Try.prog w = .ok (.enter g args) w)
    (S : List Int → Prop) (N : Nat) (hN : N ≤ maxLen) (hNb : N * 8 ≤ 140737488355328) (w : World) (hseq : SeqGives F (n - 1) Try.prog g lb (enQ .u64) S N w) :
    CallsIn F n Try.prog 103 #[.slice none 0 0, .func (.func g) #[] lb] w fun e w' => ∃ (v : Value) (ss : List Int), e = .returned v ∧ S ss ∧ w'.ownsRow w.heap.size 42 1 v ss.length (ss.map (enQ .u64)) ∧ (v = .slice none 0 0 ↔ ss = []) ∧ Below w.heap.size w w' := by
  have h1 : 1 ≤ n := by omega
  refine callsIn_of_wp_marks Try.func103 rfl h11 ?_ hro
  simp only [Try.ntmps103, List.size_toArray, List.length_cons, List.length_nil, Nat.reduceAdd, Nat.reduceSub, Array.replicate_succ, Array.replicate_zero, List.push_toArray, List.append_toArray, List.nil_append, List.cons_append]
  gi_wp2
  refine wpIn_rangeFunc ?_
  intro fn hfn
  rw [hro]
  obtain ⟨W0, hW0⟩ : ∃ W0, w.alloc (.cells #[.slice none 0 0] 48) = W0 := ⟨_, rfl⟩
  have hs0 : W0.heap.size = w.heap.size + 1 := by rw [← hW0]; simp
  have hv0 : W0.heap[w.heap.size]? = some (.cells #[.slice none 0 0] 48 (0, 0)) := by rw [← hW0]; exact World.alloc_heap_new w _
  have hb0 : Below w.heap.size w W0 := by rw [← hW0]; exact (Below.refl _ w).alloc (Nat.le_refl _) _
  rw [hW0]
  obtain ⟨W1, hW1⟩ : ∃ W1, (W0.alloc (.deferred (some []))).alloc (.loop (apRec fn (.func (.func g) #[] lb) w.heap.size W0.heap.size .ready none)) = W1 := ⟨_, rfl⟩
  have hold : ∀ k, k < W0.heap.size → W1.heap[k]? = W0.heap[k]? := fun k hk => by
    rw [← hW1]; exact (Below.heap_alloc _ _ k (by simp; omega)).trans (Below.heap_alloc _ _ k hk)
  have hb1 : Below w.heap.size w W1 := by rw [← hW1]; exact (hb0.alloc hb0.size _).alloc (by have := hb0.size; simp; omega) _
  have hs1 : W1.heap.size = W0.heap.size + 2 := by rw [← hW1]; simp
  have hM : ApAt w fn (.func (.func g) #[] lb) w.heap.size (W0.heap.size + 1) W0.heap.size [] W1 :=
    ⟨⟨_, (hold w.heap.size (by omega)).trans hv0, ⟨rfl, .inl ⟨rfl, rfl⟩⟩, by simp⟩,
     by rw [← hW1]; have := World.alloc_heap_new (W0.alloc (.deferred (some []))) (.loop (apRec fn (.func (.func g) #[] lb) w.heap.size W0.heap.size .ready none)); rwa [World.size_alloc] at this,
     by rw [← hW1]; exact (Below.heap_alloc _ _ _ (by simp)).trans (World.alloc_heap_new W0 _), hb1⟩
  refine ⟨W0.heap.size + 1, [{ target := .collected W0.heap.size, args := #[] }], W1, { target := .fn (.func g) lb, args := #[.func (.yield (W0.heap.size + 1)) #[] #[]] }, W1, g,
    #[.func (.yield (W0.heap.size + 1)) #[] #[]] ++ lb, W1, ?_, ?_, ?_, ?_, fun _ => h1, ?_⟩
  · rw [← hW1]; exact run_enterLoop_outer _ _ _ _ _
  · simp [resolve, go_sem]
  · intro f' hf'; simp [Target.leads] at hf'; subst hf'; exact hFg
  · simp [invoke, go_sem, eg]
  · refine (hseq (W0.heap.size + 1) (ApAt w fn (.func (.func g) #[] lb) w.heap.size (W0.heap.size + 1) W0.heap.size) W1 hb1 (ap_abides _ _ _ _ _ _ _ hb1.size)
      (fun pre x W hJ hl => apYield F (n - 1 - 1) w fn hfn _ w.heap.size (W0.heap.size + 1) W0.heap.size (by omega) (by omega) (by omega) (Nat.le_refl _) (by omega) N hN hNb pre x W hJ hl) hM).mono ?_
    rintro e W2 ⟨⟨v0, rfl⟩, ss, hS, h2⟩
    obtain ⟨v, hv, hrow, hnil⟩ := h2.box
    have hend := run_endLoop (P := Try.prog) h2.L (by simp [apRec])
    obtain ⟨W3, hW3⟩ : ∃ W3, W2.putObj (W0.heap.size + 1) (.loop { apRec fn (.func (.func g) #[] lb) w.heap.size W0.heap.size .ready none with state := .exhausted }) = W3 := ⟨_, rfl⟩
    rw [hW3] at hend
    have hg3 : W2.grownBy W3 (some (W0.heap.size + 1)) := by rw [← hW3]; exact grownBy_putObj_a _ _ _
    have hv3 : W3.heap[w.heap.size]? = some (.cells #[v] 48 (0, 0)) := by rw [← hW3]; exact (World.putObj_heap_other (by omega)).trans hv
    have hK3 : W3.heap[W0.heap.size]? = some (.deferred (some [])) := by rw [← hW3]; exact (World.putObj_heap_other (by omega)).trans h2.K
    have hrow3 := hrow.kept hg3 (ownsRow_ne_a hrow h2.L (fun cur e => by cases e))
    have hb3 : Below w.heap.size w W3 := h2.below.grown hg3 h2.below.size (fun k e => by cases e; omega)
    obtain ⟨hc3, hf3⟩ := cell_of_box_a hv3
    clear hW3
    refine ⟨none, W3, hend, ?_⟩
    gi_wp2
    rw [← hs0]
    refine ⟨by simp, .inl ⟨_, _, rfl, run_takeDeferred hK3, ?_⟩⟩
    exact ⟨_, results_tmp rfl _ _ _, v, ss, rfl, hS, hrow3.kept (grownBy_putObj_a _ _ _) (ownsRow_ne_a hrow3 hK3 (fun cur e => by cases e)), hnil, hb3.grown (grownBy_putObj_a _ _ _) hb3.size (fun k e => by cases e; omega)⟩
set_option maxHeartbeats 1000000 in
theorem collect_in (F : Fence) (n : Nat) (h8 : F.fn 66) (h11 : F.fn 103) (hro : F.round = none) (hn : 3 ≤ n) (g : Nat) (lb : Array Value) (hFg : F.fn g) (eg : ∀ args w, (callFunc g args).run Try.prog w = .ok (.enter g args) w)
    (S : List Int → Prop) (N : Nat) (hN : N ≤ maxLen) (hNb : N * 8 ≤ 140737488355328) (w : World) (hseq : SeqGives F (n - 1 - 1) Try.prog g lb (enQ .u64) S N w) :
    CallsIn F n Try.prog 66 #[.func (.func g) #[] lb] w fun e w' => ∃ (v : Value) (ss : List Int), e = .returned v ∧ S ss ∧ w'.ownsRow w.heap.size 42 1 v ss.length (ss.map (enQ .u64)) ∧ (v = .slice none 0 0 ↔ ss = []) ∧ Below w.heap.size w w' := by
  have h1 : 1 ≤ n := by omega
  refine callsIn_of_wp Try.func66 rfl h8 ?_ hro
  simp only [Try.ntmps66, List.size_toArray, List.length_cons, List.length_nil, Nat.reduceAdd, Nat.reduceSub, Array.replicate_succ, Array.replicate_zero, List.push_toArray, List.append_toArray, List.nil_append, List.cons_append]
  gi_wp2_with (gi_at_call 103; refine (appendSeq_in F (n - 1) h11 hro (by omega) g lb hFg eg S N hN hNb _ hseq).mono ?_; rintro e w' ⟨v, ss, rfl, hS, hrow, hnil, hb⟩)
  go_ret
  exact ⟨v, ss, rfl, hS, hrow, hnil, hb⟩
end Go.Proofs.Ytpelnanckmjoaaa
end
