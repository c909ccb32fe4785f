import Derived.Test.YtejiebbbodealaaB2
import Derived.ChangeSlices
import Derived.WideShapes
import Derived.SizedLaws
import Derived.Test.YtejiebbbodealaaRows
import Derived.WalkKit
section
set_option linter.unusedVariables false
set_option linter.unusedSimpArgs false
namespace Eng
open Go Go.RowKit
section
variable {call : CallT} {callW : CallW} {N : Nat}
theorem step_ok {c : Nat} {r : Orc} {now : Prop} {go : Nat → Orc → Prop} (h : step c r now go) : now ∨ ∃ m, go m r := by
  cases c with
  | zero => exact .inl h
  | succ m => exact .inr ⟨m, h⟩
theorem okv {o : OV} {k : AV → Prop} (h : o.cs False k) : ∃ v, o = .ok v ∧ k v := by
  cases o with
  | no => exact h.elim
  | ok v => exact ⟨v, rfl, h⟩
theorem okr {o : RV} {k : AV → Hp → Prop} (h : o.cs False k) : ∃ v h', o = .ok v h' ∧ k v h' := by
  cases o with
  | no => exact h.elim
  | ok v h' => exact ⟨v, h', rfl, h⟩
theorem okb {v : AV} {k : Bool → Prop} (h : (avB v).cs False k) : ∃ b, v = .bool b ∧ k b := by
  cases v <;> first | exact h.elim | exact ⟨_, rfl, h⟩
theorem qW_ok {o : QOp} {t : T} {h : Hp} {c : Nat} {r : Orc} {k : KV} (e : qW o t h c r k) : ∃ v c' r', evQ o t h = .ok v ∧ k v c' r' := by
  rcases step_ok e with e | ⟨m, e⟩
  · cases r with
    | fin => obtain ⟨v, h1, h2⟩ := okv e; exact ⟨v, _, _, h1, h2⟩
    | tell n x r => exact ⟨x, _, _, e.1, e.2⟩
    | fork n a b =>
      obtain ⟨v, h1, h2⟩ := okv (show (evQ o t h).cs False (fun v => (avB v).cs False fun b' => (b' = true → k (.bool true) a.n a) ∧ (b' = false → k (.bool false) b.n b)) from e)
      obtain ⟨b', rfl, h3⟩ := okb h2
      cases b' with
      | true => exact ⟨_, _, _, h1, h3.1 rfl⟩
      | false => exact ⟨_, _, _, h1, h3.2 rfl⟩
    | eff n x h r => exact False.elim e
    | lp n s r => exact False.elim e
    | again n r => exact False.elim e
    | goal n r =>
      obtain ⟨v, h1, h2⟩ := okv (show (evQ o t h).cs False (fun v => (avB v).cs False fun b' => b' = true ∧ k (.bool true) r.n r) from e)
      obtain ⟨b', rfl, rfl, h3⟩ := okb h2
      exact ⟨_, _, _, h1, h3⟩
    | effx n x r => exact False.elim e
    | lpx n x r => exact False.elim e
    | ell n m x r => exact False.elim e
    | agn n r => exact False.elim e
  · obtain ⟨v, h1, h2⟩ := okv e; exact ⟨v, _, _, h1, h2⟩
def CallOk (call : CallT) (callW : CallW) : Prop := ∀ g args h c r k, callW g args h c r k → ∃ v h' c' r', call g args h = .ok v h' ∧ k v h' c' r'
theorem eW_ok (hc : CallOk call callW) {o : EOp} {t : T} {h : Hp} {c : Nat} {r : Orc} {k : KR} (e : eW call callW o t h c r k) : ∃ v h' c' r', evE o call t h = .ok v h' ∧ k v h' c' r' := by
  have go : ∀ c r, goE callW o t h k c r → ∃ v h' c' r', evE o call t h = .ok v h' ∧ k v h' c' r' := by
    intro c r e
    cases o with
    | call f xs =>
      show ∃ v h' c' r', ((evX f t).asFunc RV.no fun g a b => call g (app a (app (evXs xs t) b)) h) = .ok v h' ∧ k v h' c' r'
      have e : (evX f t).asFunc False fun g a b => callW g (app a (app (evXs xs t) b)) h c r k := e
      unfold AV.asFunc at e ⊢
      cases hf : avF (evX f t) with
      | no => rw [hf] at e; exact e.elim
      | nil => rw [hf] at e; exact e.elim
      | other => rw [hf] at e; exact e.elim
      | fn g a b => rw [hf] at e; exact hc _ _ _ _ _ _ e
    | _ => obtain ⟨v, h', h1, h2⟩ := okr e; exact ⟨v, h', _, _, h1, h2⟩
  rcases step_ok (show step c r _ _ from e) with e | ⟨m, e⟩
  · cases r with
    | fin => exact go _ _ e
    | eff n x h' r => exact ⟨x, h', _, _, e.1, e.2⟩
    | effx n x r => obtain ⟨w, h1, h2⟩ := e; exact ⟨x w, w.h, _, _, h1, h2⟩
    | _ => exact False.elim e
  · exact go _ _ e
theorem lW_ok {o : LOp} {t : T} {c : Nat} {r : Orc} {k : KL} (e : lW o t c r k) : ∃ m x c' r', evL o t = .ok m x ∧ k m x c' r' := by
  have go : ∀ c r, ((evL o t).cs False fun m x => k m x c r) → ∃ m x c' r', evL o t = .ok m x ∧ k m x c' r' := fun c r e => by
    cases hl : evL o t with
    | no => rw [hl] at e; exact e.elim
    | ok m x => rw [hl] at e; exact ⟨m, x, _, _, rfl, e⟩
  rcases step_ok (show step c r _ _ from e) with e | ⟨m, e⟩
  · cases r with
    | fin => exact go _ _ e
    | ell n m x r => exact ⟨m, x, _, _, e.1, e.2⟩
    | _ => exact False.elim e
  · exact go _ _ e
theorem runW_ok (hc : CallOk call callW) {op : AOp} {d : Option Nat} {t : T} {h : Hp} {c : Nat} {r : Orc} {k : KT} (e : runW call callW op d t h c r k) : ∃ t' h' c' r', runA op d call t h = .ok t' h' ∧ k t' h' c' r' := by
  cases op with
  | q o =>
    obtain ⟨v, c', r', h1, h2⟩ := qW_ok (show qW o t h c r _ from e)
    refine ⟨_, _, c', r', ?_, h2⟩
    show (evQ o t h).then _ = _
    rw [h1]; rfl
  | l o =>
    obtain ⟨m, x, c', r', h1, h2⟩ := lW_ok (show lW o t c r _ from e)
    show ∃ t' h' c' r', ((evL o t).then fun m x => .ok (putT d (mkAt m h.next) t) (hpush h x)) = _ ∧ _
    rw [h1]; exact ⟨_, _, _, _, rfl, h2⟩
  | e o =>
    obtain ⟨v, h', c', r', h1, h2⟩ := eW_ok hc (show eW call callW o t h c r _ from e)
    refine ⟨_, _, c', r', ?_, h2⟩
    show (evE o call t h).then _ = _
    rw [h1]; rfl
theorem oW_ok (hc : CallOk call callW) {o : AO} {t : T} {h : Hp} {c : Nat} {r : Orc} {k : KT} (e : oW call callW o t h c r k) : ∃ t' h' c' r', evO call o t h = .ok t' h' ∧ k t' h' c' r' := by
  obtain ⟨dst, op, g⟩ := o
  cases g with
  | none => exact runW_ok hc e
  | some g =>
    have e : bc (wanted (some g) t) (runW call callW op dst t h c r k) (k (putT dst undef t) h c r) := e
    show ∃ t' h' c' r', bc (wanted (some g) t) (runA op dst call t h) (.ok (putT dst undef t) h) = .ok t' h' ∧ _
    cases hw : wanted (some g) t with
    | true => rw [hw] at e; exact runW_ok hc e
    | false => rw [hw] at e; exact ⟨_, _, _, _, rfl, e⟩
theorem osW_ok (hc : CallOk call callW) : ∀ (os : List AO) {t : T} {h : Hp} {c : Nat} {r : Orc} {k : KT}, osW call callW os t h c r k → ∃ t' h' c' r', evOs call os t h = .ok t' h' ∧ k t' h' c' r'
  | [], t, h, c, r, k, e => ⟨_, _, _, _, rfl, e⟩
  | o :: os, t, h, c, r, k, e => by
    obtain ⟨t1, h1, c1, r1, e1, e2⟩ := oW_ok hc (show oW call callW o t h c r (fun t h c r => osW call callW os t h c r k) from e)
    obtain ⟨t2, h2, c2, r2, e3, e4⟩ := osW_ok hc os e2
    refine ⟨t2, h2, c2, r2, ?_, e4⟩
    show (evO call o t h).then (evOs call os) = _
    rw [e1]; exact e3
theorem stageW_ok {o : AO} {hi : Nat} {t : T} {h : Hp} {ps : List PD} {c : Nat} {r : Orc} {k : KP} (e : stageW o hi t h ps c r k) :
    ∃ t' h' ps' c' r', (∀ kk : T → Hp → List PD → RT, stageO o hi t h ps kk = kk t' h' ps') ∧ k t' h' ps' c' r' := by
  unfold stageW at e
  unfold stageO
  cases hw : wanted o.guard t with
  | false => rw [hw] at e; exact ⟨_, _, _, _, _, fun _ => rfl, e⟩
  | true =>
    rw [hw] at e
    obtain ⟨dst, op, g⟩ := o
    cases op with
    | q f =>
      obtain ⟨v, c', r', h1, h2⟩ := qW_ok (show qW f t h c r _ from e)
      refine ⟨_, _, _, c', r', fun kk => ?_, h2⟩
      show (evQ f t h).then _ = _
      rw [h1]; rfl
    | l f =>
      obtain ⟨m, x, c', r', h1, h2⟩ := lW_ok (show lW f t c r _ from e)
      show ∃ t' h' ps' c' r', (∀ kk : T → Hp → List PD → RT, ((evL f t).then fun m x => kk (putT dst (mkAt m h.next) t) (hpush h x) ps) = kk t' h' ps') ∧ _
      rw [h1]; exact ⟨_, _, _, _, _, fun _ => rfl, h2⟩
    | e f => exact False.elim e
theorem stagesW_ok : ∀ (os : List (AO × Nat)) {t : T} {h : Hp} {ps : List PD} {c : Nat} {r : Orc} {k : KP}, stagesW os t h ps c r k →
    ∃ t' h' ps' c' r', (∀ kk : T → Hp → List PD → RT, stageOs os t h ps kk = kk t' h' ps') ∧ k t' h' ps' c' r'
  | [], t, h, ps, c, r, k, e => ⟨_, _, _, _, _, fun _ => rfl, e⟩
  | o :: os, t, h, ps, c, r, k, e => by
    obtain ⟨t1, h1, ps1, c1, r1, e1, e2⟩ := stageW_ok (show stageW o.1 o.2 t h ps c r (fun t h ps c r => stagesW os t h ps c r k) from e)
    obtain ⟨t2, h2, ps2, c2, r2, e3, e4⟩ := stagesW_ok os e2
    refine ⟨t2, h2, ps2, c2, r2, fun kk => ?_, e4⟩
    show stageO o.1 o.2 t h ps (fun t h ps => stageOs os t h ps kk) = _
    rw [e1, e3]
theorem bcF {b : Bool} {K : Prop} (h : bc b K False) : b = true ∧ K := by
  cases b with
  | true => exact ⟨rfl, h⟩
  | false => exact h.elim
mutual
theorem avC_ok : ∀ (v u : AV) {K : Prop}, avC v u K → avEq v u = true ∧ K
  | .bool b, u, K, e => by
    cases u <;> first | exact False.elim e | skip
    exact bcF e
  | .int k n, u, K, e => by
    cases u <;> first | exact False.elim e | skip
    rename_i k' m
    obtain ⟨h1, rfl, h3⟩ := bcF (show bc (ikEq k k') (n = m ∧ K) False from e)
    refine ⟨?_, h3⟩
    show bc (ikEq k k') (eqI n n) false = true
    rw [h1, eqI_eq]; simp
  | .str s, u, K, e => by
    cases u <;> first | exact False.elim e | skip
    obtain ⟨rfl, h⟩ := (show s = _ ∧ K from e)
    refine ⟨?_, h⟩
    show strEq s s = true
    rw [strEq_iff]; simp
  | .nilPtr, u, K, e => by cases u <;> first | exact ⟨rfl, e⟩ | exact False.elim e
  | .ptr b o, u, K, e => by
    cases u <;> first | exact False.elim e | skip
    rename_i b' o'
    obtain ⟨h1, e⟩ := bcF (show bc (Nat.beq b b') (bc (Nat.beq o o') K False) False from e)
    obtain ⟨h2, e⟩ := bcF e
    refine ⟨?_, e⟩
    show bc (Nat.beq b b') (Nat.beq o o') false = true
    rw [h1, h2]; rfl
  | .nilSlice, u, K, e => by cases u <;> first | exact ⟨rfl, e⟩ | exact False.elim e
  | .slice b o l c s x, u, K, e => by
    cases u <;> first | exact False.elim e | skip
    rename_i b' o' l' c' s' x'
    obtain ⟨h1, e⟩ := bcF (show bc (Nat.beq b b') (bc (Nat.beq o o') (bc (Nat.beq l l') (bc (Nat.beq c c') (bc (Nat.beq s s') (bc (bc x x' (notB x')) K False) False) False) False) False) False from e)
    obtain ⟨h2, e⟩ := bcF e
    obtain ⟨h3, e⟩ := bcF e
    obtain ⟨h4, e⟩ := bcF e
    obtain ⟨h5, e⟩ := bcF e
    obtain ⟨h6, e⟩ := bcF e
    refine ⟨?_, e⟩
    show bc (Nat.beq b b') (bc (Nat.beq o o') (bc (Nat.beq l l') (bc (Nat.beq c c') (bc (Nat.beq s s') (bc x x' (notB x')) false) false) false) false) false = true
    rw [h1, h2, h3, h4, h5, h6]; rfl
  | .nilMap, u, K, e => by cases u <;> first | exact ⟨rfl, e⟩ | exact False.elim e
  | .map b, u, K, e => by
    cases u <;> first | exact False.elim e | skip
    exact bcF e
  | .func fn a b, u, K, e => by
    have e : (fnView fn a b).cs False False (fun f _ _ => (avF u).cs False False (fun f' a' b' => bc (Nat.beq f f') (avCs a a' (avCs b b' K)) False) False) False := e
    show (fnView fn a b).cs false false (fun f _ _ => (avF u).cs false false (fun f' a' b' => bc (Nat.beq f f') (bc (avEqs a a') (avEqs b b') false) false) false) false = true ∧ K
    cases hf : fnView fn a b with
    | no => rw [hf] at e; exact False.elim e
    | nil => rw [hf] at e; exact False.elim e
    | other => rw [hf] at e; exact False.elim e
    | fn f x y =>
      rw [hf] at e
      cases hu : avF u with
      | no => rw [hu] at e; exact False.elim e
      | nil => rw [hu] at e; exact False.elim e
      | other => rw [hu] at e; exact False.elim e
      | fn f' a' b' =>
        rw [hu] at e
        obtain ⟨h1, e⟩ := bcF (show bc (Nat.beq f f') (avCs a a' (avCs b b' K)) False from e)
        obtain ⟨h2, e⟩ := avCs_ok a a' e
        obtain ⟨h3, e⟩ := avCs_ok b b' e
        refine ⟨?_, e⟩
        show bc (Nat.beq f f') (bc (avEqs a a') (avEqs b b') false) false = true
        rw [h1, h2, h3]; rfl
  | .nilFunc, u, K, e => by
    have e : (avF u).cs False K (fun _ _ _ => False) False := e
    show (avF u).cs false true (fun _ _ _ => false) false = true ∧ K
    cases hu : avF u with
    | nil => rw [hu] at e; exact ⟨rfl, e⟩
    | _ => rw [hu] at e; exact False.elim e
  | .iface t v, u, K, e => by
    cases u <;> first | exact False.elim e | skip
    rename_i t' w
    obtain ⟨h1, e⟩ := bcF (show bc (Nat.beq t t') (avC v w K) False from e)
    obtain ⟨h2, e⟩ := avC_ok v w e
    refine ⟨?_, e⟩
    show bc (Nat.beq t t') (avEq v w) false = true
    rw [h1, h2]; rfl
  | .nilIface, u, K, e => by cases u <;> first | exact ⟨rfl, e⟩ | exact False.elim e
  | .agg l, u, K, e => by
    cases u <;> first | exact False.elim e | skip
    exact avCs_ok l _ e
  | .tuple l, u, K, e => by
    cases u <;> first | exact False.elim e | skip
    exact avCs_ok l _ e
theorem avCs_ok : ∀ (l m : List AV) {K : Prop}, avCs l m K → avEqs l m = true ∧ K
  | [], m, K, e => by
    cases m with
    | nil => exact ⟨rfl, e⟩
    | cons _ _ => exact False.elim e
  | a :: l, m, K, e => by
    cases m with
    | nil => exact False.elim e
    | cons b m =>
      obtain ⟨h1, e⟩ := avC_ok a b (show avC a b (avCs l m K) from e)
      obtain ⟨h2, e⟩ := avCs_ok l m e
      refine ⟨?_, e⟩
      show bc (avEq a b) (avEqs l m) false = true
      rw [h1, h2]; rfl
end
theorem agnP_ok : ∀ {ps : List PD} {n : Nat} {h : Hp} {K : Prop}, agnP ps n h K → readAgain ps n h = true ∧ K
  | [], n, h, K, e => ⟨rfl, e⟩
  | p :: ps, n, h, K, e => by
    have e : bc (Nat.blt p.hi n) (agnP ps n h K) ((evQ p.o p.t h).cs False fun v => avC p.v v (agnP ps n h K)) := e
    show bc (bc (Nat.blt p.hi n) true (again p.o p.t p.v h)) (readAgain ps n h) false = true ∧ K
    cases hb : Nat.blt p.hi n with
    | true => rw [hb] at e; exact agnP_ok e
    | false =>
      rw [hb] at e
      obtain ⟨v, h1, h2⟩ := okv (show (evQ p.o p.t h).cs False (fun v => avC p.v v (agnP ps n h K)) from e)
      obtain ⟨h3, h4⟩ := avC_ok _ _ h2
      obtain ⟨h5, h6⟩ := agnP_ok h4
      refine ⟨?_, h6⟩
      show bc ((evQ p.o p.t h).cs false fun v' => avEq p.v v') (readAgain ps n h) false = true
      rw [h1]
      show bc (avEq p.v v) (readAgain ps n h) false = true
      rw [h3, h5]; rfl
theorem againW_ok : ∀ {ps : List PD} {n : Nat} {h : Hp}, againW ps n h → readAgain ps n h = true
  | [], n, h, _ => rfl
  | p :: ps, n, h, e => by
    have e : bc (Nat.blt p.hi n) (againW ps n h) (again p.o p.t p.v h = true ∧ againW ps n h) := e
    show bc (bc (Nat.blt p.hi n) true (again p.o p.t p.v h)) (readAgain ps n h) false = true
    cases hb : Nat.blt p.hi n with
    | true => rw [hb] at e; exact againW_ok e
    | false =>
      rw [hb] at e
      show bc (again p.o p.t p.v h) (readAgain ps n h) false = true
      rw [e.1]; exact againW_ok e.2
theorem dsW_ok (hc : CallOk call callW) : ∀ (l : List DS) {n : Nat} {t : T} {h : Hp} {ps : List PD} {c : Nat} {r : Orc} {k : KT}, dsW call callW l n t h ps c r k →
    ∃ t' h' c' r', evDs call l n t h ps = .ok t' h' ∧ k t' h' c' r'
  | [], n, t, h, ps, c, r, k, e => False.elim e
  | s :: l, n, t, h, ps, c, r, k, e => by
    obtain ⟨t1, h1, ps1, c1, r1, e1, e2⟩ := stagesW_ok s.os (show stagesW s.os t h ps c r _ from e)
    have go : ∀ c r, readAgain ps1 n h1 = true → (ocase (k t1 h1 c r) (fun e => oW call callW e t1 h1 c r fun t h c r => dsW call callW l (Nat.succ n) t h ps1 c r k) s.e : Prop) →
        ∃ t' h' c' r', evDs call (s :: l) n t h ps = .ok t' h' ∧ k t' h' c' r' := by
      intro c r hr e
      have key : evDs call (s :: l) n t h ps = ocase (.ok t1 h1) (fun e => (evO call e t1 h1).then fun t h => evDs call l (Nat.succ n) t h ps1) s.e := by
        show stageOs s.os t h ps _ = _
        rw [e1]
        show bc (readAgain ps1 n h1) _ _ = _
        rw [hr]; rfl
      rw [key]
      cases hs : s.e with
      | none => rw [hs] at e; exact ⟨_, _, _, _, rfl, e⟩
      | some e' =>
        rw [hs] at e
        obtain ⟨t2, h2, c2, r2, e3, e4⟩ := oW_ok hc (show oW call callW e' t1 h1 c r _ from e)
        obtain ⟨t3, h3, c3, r3, e5, e6⟩ := dsW_ok hc l e4
        refine ⟨t3, h3, c3, r3, ?_, e6⟩
        show (evO call e' t1 h1).then _ = _
        rw [e3]; exact e5
    have hbc : ∀ {b : Bool} {p : Prop}, bc b p False → b = true ∧ p := by
      intro b p e
      cases b with
      | true => exact ⟨rfl, e⟩
      | false => exact False.elim e
    rcases step_ok e2 with e2 | ⟨m, e2⟩
    · cases r1 with
      | fin => obtain ⟨hr, e3⟩ := hbc e2; exact go _ _ hr e3
      | again n' r' => exact go _ _ (againW_ok e2.1) e2.2
      | agn n' r' => exact go _ _ (agnP_ok e2).1 (agnP_ok e2).2
      | _ => exact False.elim e2
    · obtain ⟨hr, e3⟩ := hbc e2; exact go _ _ hr e3
theorem oks {s : RS} {a : T → Hp → Prop} {b : Nat → T → Hp → Prop} {d : T → Hp → Prop} (e : s.cs False a b d) : s ≠ .no := by
  rintro rfl; exact e
def CodeOk (res : T → Hp → RS) (w : CodeW) : Prop := ∀ t h c r k, w t h c r k → ∃ s c' r', res t h = s ∧ s ≠ .no ∧ k s c' r'
theorem cW_ok (hc : CallOk call callW) : ∀ (a : AC), CodeOk (evC call N a) (cW call callW N a)
  | .skip => fun t h c r k e => ⟨_, c, r, rfl, nofun, e⟩
  | .region os => fun t h c r k e => by
    obtain ⟨t1, h1, c1, r1, e1, e2⟩ := osW_ok hc os (show osW call callW os t h c r _ from e)
    refine ⟨.nor t1 h1, c1, r1, ?_, nofun, e2⟩
    show (evOs call os t h).done = _
    rw [e1]; rfl
  | .drawn l => fun t h c r k e => by
    obtain ⟨t1, h1, c1, r1, e1, e2⟩ := dsW_ok hc l (show dsW call callW l 0 t h [] c r _ from e)
    refine ⟨.nor t1 h1, c1, r1, ?_, nofun, e2⟩
    show (evDs call l 0 t h []).done = _
    rw [e1]; rfl
  | .seq a b => fun t h c r k e => by
    obtain ⟨s, c1, r1, e1, e2, e3⟩ := cW_ok hc a t h c r _ (show cW call callW N a t h c r (fun s c r => s.cs False (fun t h => cW call callW N b t h c r k) (fun i t h => k (.exit i t h) c r) (fun t h => k (.ret t h) c r)) from e)
    show ∃ s c' r', (evC call N a t h).then (evC call N b) = s ∧ _
    rw [e1]
    cases s with
    | no => exact False.elim e3
    | nor t1 h1 => exact cW_ok hc b t1 h1 c1 r1 k e3
    | exit i t1 h1 => exact ⟨_, c1, r1, rfl, nofun, e3⟩
    | ret t1 h1 => exact ⟨_, c1, r1, rfl, nofun, e3⟩
  | .cond x a b => fun t h c r k e => by
    obtain ⟨v, hv, e1⟩ := okb (show (avB (evX x t)).cs False (fun b' => bc b' (cW call callW N a t h c r k) (cW call callW N b t h c r k)) from e)
    show ∃ s c' r', (evX x t).asBool RS.no (fun b' => bc b' (evC call N a t h) (evC call N b t h)) = s ∧ _
    rw [hv]
    cases v with
    | true => exact cW_ok hc a t h c r k e1
    | false => exact cW_ok hc b t h c r k e1
  | .block i a => fun t h c r k e => by
    obtain ⟨s, c1, r1, e1, e2, e3⟩ := cW_ok hc a t h c r _ (show cW call callW N a t h c r _ from e)
    show ∃ s c' r', (evC call N a t h).block i = s ∧ _
    rw [e1]
    cases s with
    | no => exact False.elim e3
    | nor t1 h1 => exact ⟨_, c1, r1, rfl, nofun, e3⟩
    | ret t1 h1 => exact ⟨_, c1, r1, rfl, nofun, e3⟩
    | exit j t1 h1 =>
      have e3 : bc (Nat.beq j i) (k (.nor t1 h1) c1 r1) (k (.exit j t1 h1) c1 r1) := e3
      show ∃ s c' r', bc (Nat.beq j i) (RS.nor t1 h1) (.exit j t1 h1) = s ∧ _
      cases hb : Nat.beq j i with
      | true => rw [hb] at e3; exact ⟨_, c1, r1, rfl, nofun, e3⟩
      | false => rw [hb] at e3; exact ⟨_, c1, r1, rfl, nofun, e3⟩
  | .loop a => fun t h c r k e => by
    have go : ∀ c r, goL (cW call callW N a) N k t h c r → ∃ s c' r', evC call N (.loop a) t h = s ∧ s ≠ .no ∧ k s c' r' := by
      intro c r e
      show ∃ s c' r', rounds (fun _ _ => RS.no) (fun again t h => (evC call N a t h).then again) N t h = s ∧ _
      have key : ∀ (j : Nat) (t : T) (h : Hp) (c : Nat) (r : Orc), goL (cW call callW N a) j k t h c r →
        ∃ s c' r', rounds (fun _ _ => RS.no) (fun again t h => (evC call N a t h).then again) j t h = s ∧ s ≠ .no ∧ k s c' r' := by
        intro j
        induction j with
        | zero => exact fun t h c r e => False.elim e
        | succ j ih =>
          intro t h c r e
          obtain ⟨s, c1, r1, e1, e2, e3⟩ := cW_ok hc a t h c r _ (show cW call callW N a t h c r _ from e)
          show ∃ s c' r', (evC call N a t h).then (rounds (fun _ _ => RS.no) (fun again t h => (evC call N a t h).then again) j) = s ∧ _
          rw [e1]
          cases s with
          | no => exact False.elim e3
          | nor t1 h1 => exact ih t1 h1 c1 r1 e3
          | exit i t1 h1 => exact ⟨_, c1, r1, rfl, nofun, e3⟩
          | ret t1 h1 => exact ⟨_, c1, r1, rfl, nofun, e3⟩
      exact key N t h c r e
    rcases step_ok (show step c r _ _ from e) with e | ⟨m, e⟩
    · cases r with
      | fin => exact go _ _ e
      | lp n s r => exact ⟨s, _, _, e.1, oks e.2.1, e.2.2⟩
      | lpx n s r => obtain ⟨w, h1, h2, h3⟩ := e; exact ⟨s w, _, _, h1, oks h2, h3⟩
      | _ => exact False.elim e
    · exact go _ _ e
  | .exit i => fun t h c r k e => ⟨_, c, r, rfl, nofun, e⟩
  | .ret => fun t h c r k e => ⟨_, c, r, rfl, nofun, e⟩
  | .fail w => fun t h c r k e => False.elim e
theorem f1W_ok (hc : CallOk call callW) {S : Nat → Option AF} : CallOk (evF1 S N call) (f1W S N call callW) := fun f args h c r k e => by
  have e : (ocase False (fun fn => bc (Nat.ble (len args) fn.ntmps) (cW call callW N fn.body (frame0 args) h c r fun s c r => s.cs False (fun t h => resW fn.results t h c r k) (fun _ _ _ => False) (fun t h => resW fn.results t h c r k)) False) (S f) : Prop) := e
  show ∃ v h' c' r', ocase RV.no (fun fn => bc (Nat.ble (len args) fn.ntmps) (finish fn.results (evC call N fn.body (frame0 args) h)) .no) (S f) = .ok v h' ∧ _
  cases hf : S f with
  | none => rw [hf] at e; exact False.elim e
  | some fn =>
    rw [hf] at e
    have e : bc (Nat.ble (len args) fn.ntmps) (cW call callW N fn.body (frame0 args) h c r fun s c r => s.cs False (fun t h => resW fn.results t h c r k) (fun _ _ _ => False) (fun t h => resW fn.results t h c r k)) False := e
    show ∃ v h' c' r', bc (Nat.ble (len args) fn.ntmps) (finish fn.results (evC call N fn.body (frame0 args) h)) .no = .ok v h' ∧ _
    cases hb : Nat.ble (len args) fn.ntmps with
    | false => rw [hb] at e; exact False.elim e
    | true =>
      rw [hb] at e
      obtain ⟨s, c1, r1, e1, e2, e3⟩ := cW_ok hc fn.body (frame0 args) h c r _ e
      show ∃ v h' c' r', finish fn.results (evC call N fn.body (frame0 args) h) = .ok v h' ∧ _
      rw [e1]
      cases s with
      | no => exact False.elim e3
      | exit i t1 h1 => exact False.elim e3
      | nor t1 h1 => obtain ⟨v, h', h2, h3⟩ := okr e3; exact ⟨v, h', _, _, h2, h3⟩
      | ret t1 h1 => obtain ⟨v, h', h2, h3⟩ := okr e3; exact ⟨v, h', _, _, h2, h3⟩
end
section
variable {P : Program}
end
end Eng
end
section
set_option linter.unusedVariables false
set_option linter.unusedSimpArgs false
namespace Eng
open Go Go.RowKit
noncomputable def ovT (l : List (Nat × AV)) (t : T) : T := lrec t (fun p _ ih => tset (pathOf p.1) p.2 ih) l
noncomputable def slots (L : List Nat) (t : T) : List (Option AV) := lmap (fun i => tget (pathOf i) t) L
def Has (l : List (Nat × AV)) (t : T) : Prop := slots (l.map (·.1)) t = l.map fun p => some p.2
theorem tset_same {α : Type} : ∀ {p : Pth} {v : α} {t : Tr α}, tget p t = some v → tset p v t = t
  | .e, v, t, h => by
    cases t with
    | lf => cases h
    | nd a l r =>
      have h : a = some v := h
      subst h; rfl
  | .l p, v, t, h => by
    cases t with
    | lf =>
      have h : tget p (.lf : Tr α) = some v := h
      rw [tget_lf] at h; cases h
    | nd a l r =>
      show Tr.nd a (tset p v l) r = _
      rw [tset_same (show tget p l = some v from h)]
  | .r p, v, t, h => by
    cases t with
    | lf =>
      have h : tget p (.lf : Tr α) = some v := h
      rw [tget_lf] at h; cases h
    | nd a l r =>
      show Tr.nd a l (tset p v r) = _
      rw [tset_same (show tget p r = some v from h)]
theorem ovT_eq : ∀ {l : List (Nat × AV)} {t : T}, Has l t → ovT l t = t
  | [], t, _ => rfl
  | p :: l, t, h => by
    obtain ⟨h1, h2⟩ := List.cons.inj (show tget (pathOf p.1) t :: slots (l.map (·.1)) t = some p.2 :: l.map (fun p => some p.2) from h)
    show tset (pathOf p.1) p.2 (ovT l t) = t
    rw [ovT_eq (show Has l t from h2)]
    exact tset_same h1
noncomputable def obsS (L : List Nat) (Kn : List (Option AV) → Hp → Prop) (Ke : Nat → List (Option AV) → Hp → Prop) (Kr : List (Option AV) → Hp → Prop) (s : RS) : Prop :=
  s.cs False (fun t h => Kn (slots L t) h) (fun i t h => Ke i (slots L t) h) (fun t h => Kr (slots L t) h)
theorem CallOk.none (call : CallT) : CallOk call (fun _ _ _ _ _ _ => False) := fun _ _ _ _ _ _ h => h.elim
theorem walk_ok {call : CallT} {N : Nat} {c : AC} {t : T} {h : Hp} {o : Orc} {L : List Nat} {Kn : List (Option AV) → Hp → Prop} {Ke : Nat → List (Option AV) → Hp → Prop} {Kr : List (Option AV) → Hp → Prop} {p : Prop}
    (e : cW call (fun _ _ _ _ _ _ => False) N c t h o.n o (fun s _ _ => obsS L Kn Ke Kr s) = p) (hp : p) : ∃ s, evC call N c t h = s ∧ obsS L Kn Ke Kr s := by
  rw [← e] at hp
  obtain ⟨s, _, _, h1, _, h3⟩ := cW_ok (CallOk.none call) c t h _ _ _ hp
  exact ⟨s, h1, h3⟩
theorem fwalk_ok {call : CallT} {S : Nat → Option AF} {N : Nat} {f : Nat} {args : List AV} {h : Hp} {o : Orc} {K : AV → Hp → Prop} {p : Prop}
    (e : f1W S N call (fun _ _ _ _ _ _ => False) f args h o.n o (fun v h _ _ => K v h) = p) (hp : p) : ∃ v h', evF1 S N call f args h = .ok v h' ∧ K v h' := by
  rw [← e] at hp
  obtain ⟨v, h', _, _, h1, h3⟩ := f1W_ok (CallOk.none call) f args h _ _ _ hp
  exact ⟨v, h', h1, h3⟩
theorem loop_ok {call : CallT} {N : Nat} {body : AC} (L : List Nat) (Inv : Nat → List (Option AV) → Hp → Prop) (Ke : Nat → List (Option AV) → Hp → Prop) (Kr : List (Option AV) → Hp → Prop)
    (step : ∀ n t h, Inv n (slots L t) h → ∃ s, evC call N body t h = s ∧ obsS L (fun l h' => ∃ m, m < n ∧ Inv m l h') Ke Kr s) (n : Nat) (hn : n < N) (t : T) (h : Hp) (h0 : Inv n (slots L t) h) :
    ∃ s, evC call N (.loop body) t h = s ∧ obsS L (fun _ _ => False) Ke Kr s := by
  show ∃ s, rounds (fun _ _ => RS.no) (fun again t h => (evC call N body t h).then again) N t h = s ∧ obsS L (fun _ _ => False) Ke Kr s
  have key : ∀ (j n : Nat), n < j → ∀ t h, Inv n (slots L t) h → ∃ s, rounds (fun _ _ => RS.no) (fun again t h => (evC call N body t h).then again) j t h = s ∧ obsS L (fun _ _ => False) Ke Kr s := by
    intro j
    induction j with
    | zero => exact fun n hn => absurd hn (Nat.not_lt_zero _)
    | succ j ih =>
      intro n hn t h hi
      obtain ⟨s, e, hs⟩ := step n t h hi
      show ∃ s, (evC call N body t h).then (rounds (fun _ _ => RS.no) (fun again t h => (evC call N body t h).then again) j) = s ∧ _
      rw [e]
      cases s with
      | no => exact hs.elim
      | nor t' h' =>
        obtain ⟨m, hm, hi'⟩ := (show ∃ m, m < n ∧ Inv m (slots L t') h' from hs)
        exact ih m (by omega) t' h' hi'
      | exit i t' h' => exact ⟨_, rfl, hs⟩
      | ret t' h' => exact ⟨_, rfl, hs⟩
  exact key N n hn t h h0
theorem ltI_t {a b : Nat} (h : ltI (.ofNat a) (.ofNat b) = true) : a < b := by rw [ltI_eq] at h; simpa using h
theorem ltI_f {a b : Nat} (h : ltI (.ofNat a) (.ofNat b) = false) : b ≤ a := by rw [ltI_eq] at h; simpa using h
theorem eqI_t {a b : Nat} (h : eqI (.ofNat a) (.ofNat b) = true) : a = b := by rw [eqI_eq] at h; have h := eq_of_beq h; exact Int.ofNat.inj h
theorem eqI_f {a b : Nat} (h : eqI (.ofNat a) (.ofNat b) = false) : a ≠ b := fun e => by subst e; rw [eqI_eq] at h; simp at h
theorem notB_t {b : Bool} (h : notB b = true) : b = false := by cases b <;> first | rfl | cases h
theorem notB_f {b : Bool} (h : notB b = false) : b = true := by cases b <;> first | rfl | cases h
theorem wrap_i64 {n : Nat} (h : n < 9223372036854775808) : wrapA .i64 (.ofNat n) = .ofNat n := by
  show bc (Nat.blt n 9223372036854775808) (Int.ofNat n) _ = _
  rw [blt_dec, decide_eq_true h]; rfl
theorem wrapU_nat (m n : Nat) : wrapU m (.ofNat n) = .ofNat (n % m) := by
  show bc (Nat.blt n m) (Int.ofNat n) (.ofNat (Nat.mod n m)) = _
  rw [bc_blt]
  split
  · rw [Nat.mod_eq_of_lt ‹_›]
  · rfl
def uns (k : IntKind) : Bool := match k with | .u8 | .u16 | .u32 | .u64 => true | _ => false
theorem wrap_u {k : IntKind} (hk : uns k = true) (n : Nat) : wrapA k (.ofNat n) = .ofNat (n % modK k) := by
  cases k <;> first | exact wrapU_nat _ _ | cases hk
theorem ikEq_self (k : IntKind) : ikEq k k = true := by cases k <;> rfl
theorem q_add {a b : Nat} (h : a + b < 9223372036854775808) : evQ (.bin .add (.const (.int .i64 (.ofNat a))) (.const (.int .i64 (.ofNat b)))) .lf H0 = .ok (.int .i64 (.ofNat (a + b))) := by
  show OV.ok (.int .i64 (wrapA .i64 (.ofNat (a + b)))) = _
  rw [wrap_i64 h]
theorem sub_nat {a b : Nat} (h : b ≤ a) : Int.sub (.ofNat a) (.ofNat b) = .ofNat (a - b) := by
  show (Int.ofNat a - Int.ofNat b : Int) = _
  simp only [Int.ofNat_eq_natCast]; omega
theorem q_sub {a b : Nat} (h : b ≤ a) (ha : a < 9223372036854775808) : evQ (.bin .sub (.const (.int .i64 (.ofNat a))) (.const (.int .i64 (.ofNat b)))) .lf H0 = .ok (.int .i64 (.ofNat (a - b))) := by
  show OV.ok (.int .i64 (wrapA .i64 (Int.sub (.ofNat a) (.ofNat b)))) = _
  rw [sub_nat h, wrap_i64 (by omega)]
theorem u_and {k : IntKind} (hk : uns k = true) {a b : Nat} (ha : a < modK k) (hb : b < modK k) : evQ (.bin .and (.const (.int k (.ofNat a))) (.const (.int k (.ofNat b)))) .lf H0 = .ok (.int k (.ofNat (a &&& b))) := by
  show bc (ikEq k k) (okI k (.ofNat (Nat.land (a % modK k) (b % modK k)))) .no = _
  rw [ikEq_self, Nat.mod_eq_of_lt ha, Nat.mod_eq_of_lt hb]; show OV.ok (.int k (wrapA k (.ofNat (a &&& b)))) = _
  rw [wrap_u hk, Nat.mod_eq_of_lt (Nat.lt_of_le_of_lt Nat.and_le_left ha)]
theorem u_or {k : IntKind} (hk : uns k = true) {a b : Nat} (ha : a < modK k) (hb : b < modK k) : evQ (.bin .or (.const (.int k (.ofNat a))) (.const (.int k (.ofNat b)))) .lf H0 = .ok (.int k (.ofNat (a ||| b))) := by
  show bc (ikEq k k) (okI k (.ofNat (Nat.lor (a % modK k) (b % modK k)))) .no = _
  rw [ikEq_self, Nat.mod_eq_of_lt ha, Nat.mod_eq_of_lt hb]; show OV.ok (.int k (wrapA k (.ofNat (a ||| b)))) = _
  have hp : modK k = 2 ^ k.bits := modK_eq k
  rw [wrap_u hk, Nat.mod_eq_of_lt (by rw [hp] at ha hb ⊢; exact Nat.or_lt_two_pow ha hb)]
theorem u_shl {k : IntKind} (hk : uns k = true) {j : IntKind} {a n : Nat} : evQ (.bin .shl (.const (.int k (.ofNat a))) (.const (.int j (.ofNat n)))) .lf H0 = .ok (.int k (.ofNat (a * 2 ^ n % modK k))) := by
  show OV.ok (.int k (wrapA k (.ofNat (a * 2 ^ cut n (bitsK k))))) = _
  rw [wrap_u hk, cut_eq, bitsK_eq, modK_eq]
  rcases Nat.le_total n k.bits with hn | hn
  · rw [Nat.min_eq_left hn]
  · rw [Nat.min_eq_right hn]
    have : a * 2 ^ n % 2 ^ k.bits = 0 := by
      rw [show n = k.bits + (n - k.bits) by omega, Nat.pow_add, ← Nat.mul_assoc, Nat.mul_right_comm]
      exact Nat.mul_mod_left _ _
    rw [this, Nat.mul_mod_left]
theorem u_shr {k : IntKind} (hk : uns k = true) {j : IntKind} {a n : Nat} (ha : a < modK k) : evQ (.bin .shr (.const (.int k (.ofNat a))) (.const (.int j (.ofNat n)))) .lf H0 = .ok (.int k (.ofNat (a / 2 ^ n))) := by
  show OV.ok (.int k (.ofNat (a / 2 ^ cut n (bitsK k)))) = _
  rw [cut_eq, bitsK_eq]
  rw [modK_eq] at ha
  rcases Nat.le_total n k.bits with hn | hn
  · rw [Nat.min_eq_left hn]
  · rw [Nat.min_eq_right hn, Nat.div_eq_of_lt ha, Nat.div_eq_of_lt (Nat.lt_of_lt_of_le ha (Nat.pow_le_pow_right (by decide) hn))]
theorem u_conv {k : IntKind} (hk : uns k = true) {j : IntKind} {a : Nat} : evQ (.toInt k (.const (.int j (.ofNat a)))) .lf H0 = .ok (.int k (.ofNat (a % modK k))) := by
  show OV.ok (.int k (wrapA k (.ofNat a))) = _
  rw [wrap_u hk]
theorem u_conv' {k : IntKind} (hk : uns k = true) {j : IntKind} {a : Nat} (ha : a < modK k) : evQ (.toInt k (.const (.int j (.ofNat a)))) .lf H0 = .ok (.int k (.ofNat a)) := by
  rw [u_conv hk, Nat.mod_eq_of_lt ha]
noncomputable def elemP (v : AV) (k sz : Nat) : AV := v.asSlice .nilPtr .nilPtr fun b o _ _ _ _ => .ptr b (o + k * sz)
noncomputable def partS (v : AV) (lo hi : Nat) : AV := v.asSlice v v fun b o _ c s e => .slice b (o + lo * s) (hi - lo) (c - lo) s e
theorem q_idx {b o n c sz k : Nat} {ex : Bool} (h : k < n) : evQ (.idxAddrSl sz (.const (.slice b o n c sz ex)) (.const (.int .i64 (.ofNat k)))) .lf H0 = .ok (.ptr b (o + k * sz)) := by
  show bc (Nat.beq sz sz) (bc (Nat.blt k n) (OV.ok (.ptr b (o + k * sz))) .no) .no = _
  rw [Nat.beq_refl, blt_dec, decide_eq_true h]; rfl
theorem q_load {h : Hp} {b o : Nat} {cs : List AV} {m : Nat} {w : Own} (hg : hget h b = some (.cells cs m w)) {v : AV} (hv : cs[o]? = some v) : evQ (.loadS (.const (.ptr b o))) .lf h = .ok v := by
  show hcells h b OV.no (fun cs _ _ => ocase .no .ok (nth? cs o)) = _
  unfold hcells
  rw [hg]
  show ocase OV.no .ok (nth? cs o) = _
  rw [nth_eq, hv]; rfl
theorem u8s_eq (l : List Nat) : u8s l = l.map fun n => AV.int .u8 (.ofNat n) := lmap_eq _ _
end Eng
end
section
set_option linter.unusedVariables false
set_option linter.unusedSimpArgs false
namespace Eng
open Go Go.RowKit
structure Old (B : Nat) (h h' : Hp) : Prop where
  next : h.next ≤ h'.next
  get : ∀ b, b < B → hget h' b = hget h b
theorem Old.refl (B : Nat) (h : Hp) : Old B h h := ⟨Nat.le_refl _, fun _ _ => rfl⟩
theorem Old.trans {B : Nat} {h h' h'' : Hp} (a : Old B h h') (b : Old B h' h'') : Old B h h'' := ⟨Nat.le_trans a.next b.next, fun k hk => (b.get k hk).trans (a.get k hk)⟩
theorem Old.le {B C : Nat} {h h' : Hp} (a : Old B h h') (hc : C ≤ B) : Old C h h' := ⟨a.next, fun k hk => a.get k (by omega)⟩
theorem Old.push {B : Nat} {h : Hp} (hB : B ≤ h.next) (x : Blk) : Old B h (hpush h x) := ⟨Nat.le_succ _, fun k hk => hget_hpush_ne h x (by omega)⟩
theorem Old.set {B b : Nat} {h : Hp} (hB : B ≤ b) (x : Blk) : Old B h (hset h b x) := ⟨Nat.le_refl _, fun k hk => hget_hset_ne h x (by omega)⟩
inductive Owned (sz B : Nat) (h : Hp) : AV → Nat → List AV → Prop
  | nil : Owned sz B h .nilSlice 0 []
  | sl {b n : Nat} {ex : Bool} {w : Own} {L : List AV} (hB : B ≤ b) (hb : b < h.next) (hg : hget h b = some (.cells L (n * sz) w)) (hl : L.length = n * sz) (hw : w = .solo ∨ ∃ p, w = .pair p ∧ (B ≤ p ∧ p < h.next) ∧ p ≠ b) :
    Owned sz B h (.slice b 0 n n sz ex) n L
theorem Owned.push {sz B : Nat} {h : Hp} {s : AV} {n : Nat} {L : List AV} (o : Owned sz B h s n L) (x : Blk) : Owned sz B (hpush h x) s n L := by
  cases o with
  | nil => exact .nil
  | sl hB hb hg hl hw => exact .sl hB (by rw [hpush_next]; omega) (by rw [hget_hpush_ne h x (by omega)]; exact hg) hl (hw.imp id fun ⟨p, h1, h2, h3⟩ => ⟨p, h1, ⟨h2.1, by rw [hpush_next]; omega⟩, h3⟩)
theorem Owned.low {sz B C : Nat} {h : Hp} {s : AV} {n : Nat} {L : List AV} (o : Owned sz B h s n L) (hc : C ≤ B) : Owned sz C h s n L := by
  cases o with
  | nil => exact .nil
  | sl hB hb hg hl hw => exact .sl (by omega) hb hg hl (by rcases hw with h | ⟨p, h1, h2, h3⟩; exact .inl h; exact .inr ⟨p, h1, by omega, h3⟩)
theorem Owned.old {sz B C : Nat} {h h' : Hp} {s : AV} {n : Nat} {L : List AV} (o : Owned sz B h s n L) (a : Old C h h') (hc : h.next ≤ C) : Owned sz B h' s n L := by
  cases o with
  | nil => exact .nil
  | sl hB hb hg hl hw => exact .sl hB (by have := a.next; omega) (by rw [a.get _ (by omega)]; exact hg) hl (hw.imp id fun ⟨p, h1, h2, h3⟩ => ⟨p, h1, ⟨h2.1, by have := a.next; omega⟩, h3⟩)
theorem Owned.blk {sz B : Nat} {h : Hp} {s : AV} {n : Nat} {L : List AV} (o : Owned sz B h s n L) : ∀ b o' l c z ex, s = .slice b o' l c z ex → b < h.next := by
  cases o with
  | nil => intro b o' l c z ex e; cases e
  | sl hB hb hg hl hw => intro b o' l c z ex e; cases e; exact hb
theorem part_all (cs : List AV) (n : Nat) : part cs n 0 n = cs := by
  unfold part
  rw [Nat.beq_refl]
  show bc (Nat.beq n n) cs _ = cs
  rw [Nat.beq_refl]; rfl
theorem appendTo_own {sz bytes B : Nat} {h : Hp} {s : AV} {n : Nat} {L : List AV} (hBh : B ≤ h.next) (o : Owned sz B h s n L) {m : Nat} {xs : List AV} (hx : xs.length = m * sz) (hm : 0 < m)
    (h1 : (n + m) * bytes ≤ 70368744177664) (h2 : n + m ≤ 70368744177664) :
    ∃ h', appendTo h sz bytes s m xs = .ok (.slice h.next 0 (n + m) (n + m) sz false) h' ∧ Owned sz B h' (.slice h.next 0 (n + m) (n + m) sz false) (n + m) (L ++ xs) ∧ Old B h h' ∧ h'.next = h.next + 1 := by
  have hm0 : Nat.beq m 0 = false := beqF (by omega)
  cases o with
  | nil =>
    refine ⟨hpush h (mkCells xs (m * sz)), ?_, ?_, .push hBh _, rfl⟩
    · show bc (Nat.beq m 0) (RV.ok .nilSlice h) (bc (Nat.ble (Nat.mul m bytes) 70368744177664) (bc (Nat.ble m 70368744177664) (grown h m sz xs) .no) .no) = _
      rw [hm0, ble_dec, ble_dec, decide_eq_true (by simpa using h1), decide_eq_true (by simpa using h2)]
      rw [Nat.zero_add]; rfl
    · rw [Nat.zero_add, List.nil_append]
      exact .sl hBh (Nat.lt_succ_self _) (hget_hpush h _) hx (.inl rfl)
  | @sl b n ex w L hB hb hg hl hw =>
    have hnm : Nat.ble (n + m) n = false := by rw [ble_dec]; exact decide_eq_false (by omega)
    have key : appendTo h sz bytes (.slice b 0 n n sz ex) m xs = more h b 0 n sz m ex xs := by
      show bc (Nat.beq sz sz) (bc (Nat.ble (n + m) n) _ (bc (Nat.ble ((n + m) * bytes) 70368744177664) (bc (Nat.ble (n + m) 70368744177664) (more h b 0 n sz m ex xs) .no) .no)) RV.no = _
      rw [Nat.beq_refl, hnm, ble_dec, ble_dec, decide_eq_true h1, decide_eq_true h2]; rfl
    have hmul : Nat.mul n sz = n * sz := rfl
    have e0 : Nat.add 0 (Nat.mul n sz) = n * sz := Nat.zero_add _
    have key2 : more h b 0 n sz m ex xs = bc ex (grown h (n + m) sz (app L xs))
        (w.peer .no (shared h b (n + m) sz L (n * sz) (app L xs)) fun p => bc (Nat.beq p b) .no (shared (hset h p .dead) b (n + m) sz L (n * sz) (app L xs))) := by
      show hcells h b RV.no _ = _
      unfold hcells
      rw [hg]
      show bc (Nat.ble (Nat.add 0 (Nat.mul n sz)) (n * sz)) (bc ex (grown h (Nat.add n m) sz (app (part L (n * sz) 0 (Nat.mul n sz)) xs)) (bc (Nat.beq (Nat.add 0 (Nat.mul n sz)) (n * sz)) _ _)) RV.no = _
      rw [e0, hmul, part_all, Nat.beq_refl, ble_dec, decide_eq_true (Nat.le_refl _)]; rfl
    rw [key, key2, app_eq]
    have hlen : (L ++ xs).length = (n + m) * sz := by rw [List.length_append, hl, hx, Nat.add_mul]
    cases ex with
    | true =>
      exact ⟨hpush h (mkCells (L ++ xs) ((n + m) * sz)), rfl, .sl hBh (Nat.lt_succ_self _) (hget_hpush h _) hlen (.inl rfl), .push hBh _, rfl⟩
    | false =>
      have fin : ∀ g : Hp, g.next = h.next → (∀ k, k < B → hget g k = hget h k) → ∃ h', shared g b (n + m) sz L (n * sz) (L ++ xs) = .ok (.slice h.next 0 (n + m) (n + m) sz false) h' ∧ Owned sz B h' (.slice h.next 0 (n + m) (n + m) sz false) (n + m) (L ++ xs) ∧ Old B h h' ∧ h'.next = h.next + 1 := by
        intro g hgn hgo
        refine ⟨hset (hpush g (.cells (L ++ xs) ((n + m) * sz) (.pair b))) b (.cells L (n * sz) (.pair g.next)), ?_, ?_, ?_, ?_⟩
        · show RV.ok (.slice g.next 0 (n + m) (n + m) sz false) _ = _
          rw [hgn]
          rfl
        · refine .sl hBh (by rw [hset_next, hpush_next, hgn]; omega) (w := .pair b) ?_ hlen (.inr ⟨b, rfl, ⟨hB, by rw [hset_next, hpush_next, hgn]; omega⟩, by omega⟩)
          rw [hget_hset_ne _ _ (by omega), ← hgn, hget_hpush]
        · refine ⟨by rw [hset_next, hpush_next, hgn]; omega, fun k hk => ?_⟩
          rw [hget_hset_ne _ _ (by omega), hget_hpush_ne _ _ (by omega), hgo k hk]
        · rw [hset_next, hpush_next, hgn]
      show ∃ h', (w.peer RV.no (shared h b (n + m) sz L (n * sz) (L ++ xs)) fun p => bc (Nat.beq p b) .no (shared (hset h p .dead) b (n + m) sz L (n * sz) (L ++ xs))) = _ ∧ _
      rcases hw with hw | ⟨p, hw, hp1, hp2⟩
      · subst hw; exact fin h rfl fun _ _ => rfl
      · subst hw
        show ∃ h', bc (Nat.beq p b) RV.no (shared (hset h p .dead) b (n + m) sz L (n * sz) (L ++ xs)) = _ ∧ _
        rw [beqF hp2]
        exact fin (hset h p .dead) rfl fun k hk => hget_hset_ne h _ (by omega)
theorem own_lit {sz B n : Nat} {h : Hp} (hB : B ≤ h.next) {xs : List AV} (hx : xs.length = n * sz) : Owned sz B (hpush h (mkCells xs (n * sz))) (.slice h.next 0 n n sz true) n xs :=
  .sl hB (Nat.lt_succ_self _) (hget_hpush h _) hx (.inl rfl)
theorem Owned.len {sz B n : Nat} {h : Hp} {v : AV} {L : List AV} (o : Owned sz B h v n L) : L.length = n * sz := by
  cases o with
  | nil => simp
  | sl hB hb hg hl hw => exact hl
theorem appendTo_none {sz bytes : Nat} {h : Hp} {s : AV} {n B : Nat} {L : List AV} (o : Owned sz B h s n L) : appendTo h sz bytes s 0 [] = .ok s h := by
  cases o with
  | nil => rfl
  | @sl b n ex w L hB hb hg hl hw =>
    show bc (Nat.beq sz sz) (bc (Nat.ble (n + 0) n) (RV.ok (.slice b 0 n n sz ex) h) _) RV.no = _
    rw [Nat.beq_refl, ble_dec, decide_eq_true (by omega)]; rfl
theorem src_lit {β : Type} {h : Hp} {sz b m : Nat} {ex : Bool} {xs : List AV} {w : Own} {z : β} {k : Nat → List AV → β} (hg : hget h b = some (.cells xs (m * sz) w)) : src h sz (.slice b 0 m m sz ex) z k = k m xs := by
  show bc (Nat.beq sz sz) (rdN h b 0 (Nat.mul m sz) z fun l => k m l) z = _
  rw [Nat.beq_refl]
  show hcells h b z _ = _
  unfold hcells
  rw [hg]
  show bc (Nat.ble (Nat.add 0 (m * sz)) (m * sz)) (k m (part xs (m * sz) 0 (m * sz))) z = _
  have e0 : Nat.add 0 (m * sz) = m * sz := Nat.zero_add _
  rw [e0, part_all, ble_dec, decide_eq_true (Nat.le_refl _)]; rfl
theorem src_owned {β : Type} {h : Hp} {sz B : Nat} {s : AV} {n : Nat} {L : List AV} (o : Owned sz B h s n L) {z : β} {k : Nat → List AV → β} : src h sz s z k = k n L := by
  cases o with
  | nil => rfl
  | sl hB hb hg hl hw => exact src_lit hg
theorem rdN_of {β : Type} {h : Hp} {b o n m : Nat} {cs : List AV} {w : Own} {z : β} {k : List AV → β} (hg : hget h b = some (.cells cs m w)) (hm : o + n ≤ m) (hc : cs.length = m) : rdN h b o n z k = k ((cs.drop o).take n) := by
  show hcells h b z _ = _
  unfold hcells
  rw [hg]
  show bc (Nat.ble (o + n) m) (k (part cs m o n)) z = _
  rw [ble_dec, decide_eq_true hm, part_eq hc hm]; rfl
inductive Bytes (B : Nat) (h : Hp) : AV → List Nat → Prop
  | nil : Bytes B h .nilSlice []
  | sl {b o c : Nat} {ex : Bool} {cs : List AV} {m : Nat} {w : Own} {l : List Nat} (hB : b < B) (hg : hget h b = some (.cells cs m w)) (hcl : cs.length = m) (hl : (cs.drop o).take l.length = u8s l) (hm : o + l.length ≤ m) (hc : l.length ≤ c) (hb : ∀ x ∈ l, x < 256) :
    Bytes B h (.slice b o l.length c 1 ex) l
theorem Bytes.lt {B : Nat} {h : Hp} {v : AV} {l : List Nat} (o : Bytes B h v l) : ∀ x ∈ l, x < 256 := by
  cases o with
  | nil => simp
  | sl hB hg hcl hl hm hc hb => exact hb
theorem u8s_len1 (l : List Nat) : (u8s l).length = l.length * 1 := by rw [u8s_length, Nat.mul_one]
theorem src_bytes {B : Nat} {h : Hp} {v : AV} {l : List Nat} (o : Bytes B h v l) {β : Type} (z : β) (k : Nat → List AV → β) : src h 1 v z k = k l.length (u8s l) := by
  cases o with
  | nil => rfl
  | @sl b o c ex cs m w l hB hg hcl hl hm hc hb =>
    show bc (Nat.beq 1 1) (rdN h b o (Nat.mul l.length 1) z fun l' => k l.length l') z = _
    rw [Nat.beq_refl]
    show rdN h b o (l.length * 1) z _ = _
    rw [Nat.mul_one, rdN_of hg hm hcl, hl]
theorem q_len {B : Nat} {h : Hp} {v : AV} {l : List Nat} (o : Bytes B h v l) : evQ (.lenL (.const v)) .lf H0 = .ok (.int .i64 (.ofNat l.length)) := by
  cases o <;> rfl
theorem q_idxB {B : Nat} {h : Hp} {v : AV} {l : List Nat} (o : Bytes B h v l) {k : Nat} (hk : k < l.length) : evQ (.idxAddrSl 1 (.const v) (.const (.int .i64 (.ofNat k)))) .lf H0 = .ok (elemP v k 1) := by
  cases o with
  | nil => exact absurd hk (Nat.not_lt_zero _)
  | sl hB hg hcl hl hm hc hb => exact q_idx hk
theorem q_byte {B : Nat} {h : Hp} {v : AV} {l : List Nat} (o : Bytes B h v l) {k : Nat} (hk : k < l.length) : evQ (.loadS (.const (elemP v k 1))) .lf h = .ok (.int .u8 (.ofNat (l.getD k 0))) := by
  cases o with
  | nil => exact absurd hk (Nat.not_lt_zero _)
  | @sl b o c ex cs m w l hB hg hcl hl hm hc hb =>
    refine q_load hg ?_
    have h1 : ((cs.drop o).take l.length)[k]? = (u8s l)[k]? := by rw [hl]
    rw [List.getElem?_take_of_lt hk, List.getElem?_drop, u8s_eq, List.getElem?_map] at h1
    rw [Nat.mul_one, h1, List.getElem?_eq_getElem hk]
    simp [List.getD_eq_getElem?_getD, List.getElem?_eq_getElem hk]
theorem Owned.bytes {B C : Nat} {h : Hp} {s : AV} {n : Nat} {l : List Nat} (o : Owned 1 B h s n (u8s l)) (hb : ∀ x ∈ l, x < 256) (hC : h.next ≤ C) : Bytes C h s l := by
  generalize hL : u8s l = L at o
  cases o with
  | nil =>
    cases l with
    | nil => exact .nil
    | cons x l => cases hL
  | @sl b n ex w L hB hb' hg hl hw =>
    subst hL
    have hn : l.length = n := by rw [u8s_length] at hl; omega
    subst hn
    exact .sl (by omega) hg hl (by rw [List.drop_zero, List.take_of_length_le (by rw [u8s_length]; omega)]) (by omega) (Nat.le_refl _) hb
theorem Bytes.old {B : Nat} {h h' : Hp} {v : AV} {l : List Nat} (o : Bytes B h v l) (a : Old B h h') : Bytes B h' v l := by
  cases o with
  | nil => exact .nil
  | sl hB hg hcl hl hm hc hb => exact .sl hB (by rw [a.get _ hB]; exact hg) hcl hl hm hc hb
theorem Bytes.up {B C : Nat} {h : Hp} {v : AV} {l : List Nat} (o : Bytes B h v l) (hC : B ≤ C) : Bytes C h v l := by
  cases o with
  | nil => exact .nil
  | sl hB hg hcl hl hm hc hb => exact .sl (by omega) hg hcl hl hm hc hb
theorem Bytes.part {B : Nat} {h : Hp} {v : AV} {l : List Nat} (o : Bytes B h v l) {lo hi : Nat} (h1 : lo ≤ hi) (h2 : hi ≤ l.length) : Bytes B h (partS v lo hi) ((l.take hi).drop lo) := by
  cases o with
  | nil =>
    have : hi = 0 := Nat.le_zero.1 h2
    subst this
    obtain rfl : lo = 0 := Nat.le_zero.1 h1
    exact .nil
  | @sl b o c ex cs m w l hB hg hcl hl hm hc hb =>
    have hlen : ((l.take hi).drop lo).length = hi - lo := by rw [List.length_drop, List.length_take]; omega
    have key : partS (.slice b o l.length c 1 ex) lo hi = .slice b (o + lo) ((l.take hi).drop lo).length (c - lo) 1 ex := by
      rw [hlen]
      show AV.slice b (o + lo * 1) (hi - lo) (c - lo) 1 ex = _
      rw [Nat.mul_one]
    rw [key]
    refine .sl hB hg hcl ?_ (by rw [hlen]; omega) (by rw [hlen]; omega) (fun x hx => hb x (List.mem_of_mem_take (List.mem_of_mem_drop hx)))
    rw [hlen]
    have e1 : (cs.drop (o + lo)).take (hi - lo) = (((cs.drop o).take l.length).take hi).drop lo := by
      rw [List.take_take, List.drop_take, List.drop_drop, Nat.min_eq_left h2]
    rw [e1, hl, u8s_eq, u8s_eq, ← List.map_take, ← List.map_drop]
theorem q_sliceFrom {B : Nat} {h : Hp} {v : AV} {l : List Nat} (o : Bytes B h v l) {lo : Nat} (h1 : lo ≤ l.length) :
    evQ (.sliceSl 1 (.const v) (some (.const (.int .i64 (.ofNat lo)))) none none) .lf H0 = .ok (partS v lo l.length) := by
  cases o with
  | nil =>
    obtain rfl : lo = 0 := Nat.le_zero.1 h1
    rfl
  | @sl b o c ex cs m w l hB hg hcl hl hm hc hb =>
    show bc (Nat.beq 1 1) (bc (Nat.ble lo l.length) (OV.ok (.slice b (o + lo * 1) (l.length - lo) (c - lo) 1 (ocase ex (fun _ => true) (none : Option AX)))) .no) .no = _
    rw [ble_dec, decide_eq_true h1]; rfl
end Eng
namespace Eng
open Go Go.RowKit
theorem append_ev {sz bytes B : Nat} {h : Hp} {s : AV} {n : Nat} {L : List AV} (call : CallT) (hBh : B ≤ h.next) (o : Owned sz B h s n L) {x : AV} {m : Nat} {xs : List AV} (hs : ∀ {β : Type} (z : β) (k : Nat → List AV → β), src h sz x z k = k m xs)
    (hx : xs.length = m * sz) (h1 : (n + m) * bytes ≤ 70368744177664) (h2 : n + m ≤ 70368744177664) :
    ∃ e : Ev, evE (.append sz bytes (.const s) (.const x)) call .lf h = .ok e.v e.h ∧ Owned sz B e.h e.v (n + m) (L ++ xs) ∧ Old B h e.h ∧ B ≤ e.h.next := by
  rcases Nat.eq_zero_or_pos m with hm | hm
  · subst hm
    obtain rfl : xs = [] := List.eq_nil_of_length_eq_zero (by omega)
    refine ⟨⟨s, .lf, h⟩, ?_, by simpa using o, .refl B h, hBh⟩
    show src h sz x RV.no (fun m xs => appendTo h sz bytes s m xs) = _
    rw [hs]; exact appendTo_none o
  · obtain ⟨h', e1, o1, p1, n1⟩ := appendTo_own (bytes := bytes) hBh o hx hm h1 h2
    refine ⟨⟨_, .lf, h'⟩, ?_, o1, p1, by show B ≤ h'.next; omega⟩
    show src h sz x RV.no (fun m xs => appendTo h sz bytes s m xs) = _
    rw [hs]; exact e1
end Eng
namespace Eng
open Go Go.RowKit
theorem part_from {B : Nat} {h : Hp} {v : AV} {l : List Nat} (o : Bytes B h v l) {lo : Nat} (h1 : lo ≤ l.length) : Bytes B h (partS v lo l.length) (l.drop lo) := by
  have := o.part h1 (Nat.le_refl _)
  rwa [List.take_of_length_le (Nat.le_refl _)] at this
theorem part_to {B : Nat} {h : Hp} {v : AV} {l : List Nat} (o : Bytes B h v l) {hi : Nat} (h1 : hi ≤ l.length) : Bytes B h (partS v 0 hi) (l.take hi) := by
  have := o.part (Nat.zero_le hi) h1
  rwa [List.drop_zero] at this
theorem q_sliceTo {B : Nat} {h : Hp} {v : AV} {l : List Nat} (o : Bytes B h v l) {hi : Nat} (h2 : hi ≤ l.length) :
    evQ (.sliceSl 1 (.const v) none (some (.const (.int .i64 (.ofNat hi)))) none) .lf H0 = .ok (partS v 0 hi) := by
  cases o with
  | nil =>
    have : hi = 0 := Nat.le_zero.1 h2
    subst this
    rfl
  | @sl b o c ex cs m w l hB hg hcl hl hm hc hb =>
    show bc (Nat.beq 1 1) (bc (Nat.ble hi c) (OV.ok (.slice b (o + 0 * 1) (hi - 0) (c - 0) 1 (ocase ex (fun _ => true) (none : Option AX)))) .no) .no = _
    rw [ble_dec, decide_eq_true (by omega)]; rfl
end Eng
namespace Eng
open Go Go.RowKit
end Eng
end
section
set_option linter.unusedVariables false
set_option linter.unusedSimpArgs false
namespace Eng
open Go Go.RowKit
theorem heap_of : ∀ (n : Nat) (f : Nat → Blk), ∃ h : Hp, h.next = n ∧ (∀ b, b < n → hget h b = some (f b)) ∧ ∀ b, n ≤ b → hget h b = none
  | 0, f => ⟨⟨0, .lf⟩, rfl, fun b hb => absurd hb (Nat.not_lt_zero _), fun b _ => tget_lf _⟩
  | n + 1, f => by
    obtain ⟨h, h1, h2, h3⟩ := heap_of n f
    refine ⟨hpush h (f n), by rw [hpush_next, h1], fun b hb => ?_, fun b hb => ?_⟩
    · by_cases e : b = n
      · subst e; rw [← h1, hget_hpush, h1]
      · rw [hget_hpush_ne _ _ (by omega)]; exact h2 b (by omega)
    · rw [hget_hpush_ne _ _ (by omega)]; exact h3 b (by omega)
def startM (n : Nat) (f : Nat → Nat × Nat) (w : World) : Mp := ⟨fun b => if b < n then some (f b) else none, fun _ => false, fun c => match w.heap[c]? with | some (.cells arr _ _) => arr.size | _ => 0⟩
theorem start_ok {n : Nat} {f : Nat → Nat × Nat} {g : Nat → List AV} {w : World} (hf : ∀ b, b < n → ∃ arr e fr, w.heap[(f b).1]? = some (.cells arr e fr) ∧ (∀ v ∈ g b, isCell v = true) ∧ ∀ (i : Nat) (v : AV), (g b)[i]? = some v → ∃ x, arr[(f b).2 + i]? = some x ∧ VR (startM n f w) v x) :
    ∃ h : Hp, h.next = n ∧ (∀ b, b < n → hget h b = some (.cells (g b) (g b).length .ro)) ∧ Sim (startM n f w) h w := by
  obtain ⟨h, h1, h2, h3⟩ := heap_of n fun b => .cells (g b) (g b).length .ro
  have hat : ∀ b c s, (startM n f w).at_ b = some (c, s) → b < n ∧ f b = (c, s) := fun b c s e => by
    have e : (if b < n then some (f b) else none) = some (c, s) := e
    split at e
    · exact ⟨‹_›, Option.some.inj e⟩
    · cases e
  refine ⟨h, h1, h2, ?_, fun b hb => h3 b (by omega), ?_, ?_, ?_, ?_⟩
  · intro b hb
    show (if b < n then some (f b) else none) = none
    rw [if_neg (by omega)]
  · intro b c s e
    obtain ⟨hb, he⟩ := hat b c s e
    obtain ⟨arr, e', fr, hh, _⟩ := hf b hb
    rw [he] at hh
    exact (Array.getElem?_eq_some_iff.1 hh).1
  · intro b c s x e hg
    obtain ⟨hb, he⟩ := hat b c s e
    rw [h2 b hb] at hg
    cases hg
    obtain ⟨arr, e', fr, hh, hc, hv⟩ := hf b hb
    rw [he] at hh hv
    refine ⟨rfl, hc, ⟨fun h => (by cases h), fun h => absurd rfl h⟩, arr, e', fr, hh, ?_, fun h => (by cases h), hv⟩
    show arr.size = match w.heap[c]? with | some (.cells arr _ _) => arr.size | _ => 0
    rw [hh]
  · intro b b' c s s' x x' _ _ _ ho
    cases ho
  · intro b c s cs m p e hg
    obtain ⟨hb, he⟩ := hat b c s e
    rw [h2 b hb] at hg
    cases hg
theorem Goes.below' {μ μ' : Mp} {h h' : Hp} {w w' : World} (hm : ∀ c, μ.own c = false) (g : Goes μ h w μ' h' w') : Below w.heap.size w w' := ⟨g.os, g.tape, g.output, g.heap, fun k hk => g.kept k hk (hm k)⟩
theorem start_law {P : Program} {D : Nat → Array Oper → AC} (hD : DrawOk P D) {M : Nat → Option (List AV → Hp → RV)} (hM : Good P fun f args h => ocase .no (fun m => m args h) (M f)) {N d f : Nat} {w : World} {μ : Mp} {h h' : Hp} (hs : Sim μ h w) (hm : ∀ c, μ.own c = false)
    {args : List AV} {cargs : Array Value} (r : VRs μ args cargs.toList) (e : evF M (progS P D) N d f args h = .ok (.bool true) h') : Calls P f cargs w fun e w' => e = .returned (.bool true) ∧ Below w.heap.size w w' := by
  refine (evF_ok hD hM N d f args h _ h' μ w cargs e hs r).2.mono fun e w' hR => ?_
  obtain ⟨μ', y, rfl, ry, hs', g⟩ := hR
  rw [VR_bool] at ry
  subst ry
  exact ⟨rfl, g.below' hm⟩
structure BArg where
  v : Value
  c : Nat
  s : Nat
  l : List Nat
def BArg.lies (w : World) (a : BArg) : Prop := (∀ x ∈ a.l, x < 256) ∧ ((a.v = .slice none 0 0 ∧ a.l = []) ∨ ∃ cap arr e fr, a.v = .slice (some ⟨a.c, a.s, none⟩) a.l.length cap ∧ w.heap[a.c]? = some (.cells arr e fr) ∧ a.l.length ≤ cap ∧ (cap ≠ 0 → a.s + cap ≤ arr.size) ∧
  ∀ (i : Nat) (x : Nat), a.l[i]? = some x → arr[a.s + i]? = some (.int .u8 (.ofNat x)))
theorem u8s_at {l : List Nat} {i : Nat} {v : AV} (h : (u8s l)[i]? = some v) : ∃ x, l[i]? = some x ∧ v = .int .u8 (.ofNat x) := by
  rw [u8s_eq, List.getElem?_map] at h
  cases hl : l[i]? with
  | none => rw [hl] at h; cases h
  | some x => rw [hl] at h; cases h; exact ⟨x, rfl, rfl⟩
theorem start_bytes {w : World} (bys : List BArg) (ha : ∀ a ∈ bys, a.lies w) : ∃ (μ : Mp) (h : Hp) (vs : List AV), Sim μ h w ∧ (∀ c, μ.own c = false) ∧ vs.length = bys.length ∧
    (∀ (i : Nat) (v : AV) (a : BArg), vs[i]? = some v → bys[i]? = some a → VR μ v a.v ∧ Bytes h.next h v a.l) ∧ h.next ≤ bys.length := by
  classical
  have key : ∀ (n : Nat) (bs : List BArg), bs.length = n → (∀ a ∈ bs, a.lies w ∧ a.v ≠ .slice none 0 0) → ∃ (μ : Mp) (h : Hp), Sim μ h w ∧ (∀ c, μ.own c = false) ∧ h.next = n ∧ ∀ (i : Nat) (a : BArg), bs[i]? = some a → ∃ v, VR μ v a.v ∧ Bytes h.next h v a.l := by
    intro n bs hn hbs
    let f : Nat → Nat × Nat := fun b => match bs[b]? with | some a => (a.c, a.s) | none => (0, 0)
    let g : Nat → List AV := fun b => match bs[b]? with | some a => u8s a.l | none => []
    have hfb : ∀ b a, bs[b]? = some a → f b = (a.c, a.s) := fun b a h => by show (match bs[b]? with | some a => (a.c, a.s) | none => (0, 0)) = _; rw [h]
    have hgb : ∀ b a, bs[b]? = some a → g b = u8s a.l := fun b a h => by show (match bs[b]? with | some a => u8s a.l | none => []) = _; rw [h]
    have hsome : ∀ b, b < n → ∃ a, bs[b]? = some a := fun b hb => ⟨bs[b], List.getElem?_eq_getElem (by omega)⟩
    obtain ⟨h, h1, h2, h3⟩ := start_ok (n := n) (f := f) (g := g) (w := w) fun b hb => by
      obtain ⟨a, ha⟩ := hsome b hb
      rw [hfb b a ha, hgb b a ha]
      obtain ⟨⟨hlt, hl⟩, hne⟩ := hbs a (List.mem_of_getElem? ha)
      rcases hl with ⟨h0, _⟩ | ⟨cap, arr, e, fr, hv, hh, hc, hs, hx⟩
      · exact absurd h0 hne
      · refine ⟨arr, e, fr, hh, fun v hv => ?_, fun i v hv => ?_⟩
        · obtain ⟨i, hi⟩ := List.getElem?_of_mem hv
          obtain ⟨x, _, rfl⟩ := u8s_at hi; rfl
        · obtain ⟨x, h1, rfl⟩ := u8s_at hv
          exact ⟨_, hx i x h1, by rw [VR_int]⟩
    refine ⟨_, h, h3, fun _ => rfl, h1, fun i a hi => ?_⟩
    have hin : i < n := by have := (List.getElem?_eq_some_iff.1 hi).1; omega
    obtain ⟨⟨hlt, hl⟩, hne⟩ := hbs a (List.mem_of_getElem? hi)
    rcases hl with ⟨h0, _⟩ | ⟨cap, arr, e, fr, hv, hh, hc, hs, hx⟩
    · exact absurd h0 hne
    · refine ⟨.slice i 0 a.l.length cap 1 true, ?_, ?_⟩
      · rw [hv]
        unfold VR
        refine ⟨a.c, a.s, a.s, cap, ?_, rfl, hc, Nat.le_refl _, fun _ => rfl, fun h0 => ⟨rfl, ?_⟩⟩
        · show (if i < n then some (f i) else none) = _
          rw [if_pos hin, hfb i a hi]
        · show a.s + 0 + cap * 1 ≤ match w.heap[a.c]? with | some (.cells arr _ _) => arr.size | _ => 0
          rw [hh]
          have := hs h0
          show a.s + 0 + cap * 1 ≤ arr.size
          omega
      · have hg2 := h2 i hin
        rw [hgb i a hi] at hg2
        exact .sl (by omega) hg2 rfl (by rw [List.drop_zero, List.take_of_length_le (by rw [u8s_length]; exact Nat.le_refl _)]) (by rw [u8s_length]; omega) hc hlt
  let bs := bys.filter fun a => decide (a.v ≠ .slice none 0 0)
  obtain ⟨μ, h, hs, hm, hn, hv⟩ := key bs.length bs rfl fun a h => by
    have := List.mem_filter.1 h
    exact ⟨ha a this.1, by simpa using this.2⟩
  have each : ∀ a ∈ bys, ∃ v, VR μ v a.v ∧ Bytes h.next h v a.l := fun a hm' => by
    by_cases h0 : a.v = .slice none 0 0
    · rcases (ha a hm').2 with ⟨_, hl⟩ | ⟨cap, arr, e, fr, hv', _⟩
      · refine ⟨.nilSlice, ?_, ?_⟩
        · rw [h0]; unfold VR; rfl
        · rw [hl]; exact .nil
      · rw [hv'] at h0; cases h0
    · have : a ∈ bs := List.mem_filter.2 ⟨hm', by simpa using h0⟩
      obtain ⟨i, hi⟩ := List.getElem?_of_mem this
      exact hv i a hi
  refine ⟨μ, h, bys.attach.map fun a => (each a.1 a.2).choose, hs, hm, by simp, fun i v a hvi hai => ?_, ?_⟩
  · rw [List.getElem?_map] at hvi
    cases hat : bys.attach[i]? with
    | none => rw [hat] at hvi; cases hvi
    | some a' =>
      rw [hat] at hvi
      cases hvi
      have : a'.1 = a := by
        have h2 : bys.attach[i]?.map (·.1) = bys[i]? := by rw [← List.getElem?_map, List.attach_map_subtype_val]
        rw [hat, hai] at h2
        exact Option.some.inj h2
      subst this
      exact (each a'.1 a'.2).choose_spec
  · rw [hn]; exact List.length_filter_le _ _
end Eng
namespace Eng
open Go Go.RowKit Go.ChangeShapes Go.WideShapes
theorem bytes_arg {H : Type} {enc : TypeId × Value → H} {P : Program} {W : World} {t e : TypeId} {v : Value} {d : DataW H} {p : List MemPlace} {base : Nat} (ht : P.underlying t = some (.slice e)) (he : P.underlying e = some (.int .u8)) (hc : P.cellsOf e = 1)
    (h0 : DataW.Trod enc P W 0 (fun _ => true) true t v d p) (hv : Value.okWide P W .any base t v)   : ∃ a : BArg, a.v = v ∧ a.lies W ∧ a.l.length ≤ maxLen ∧ (a.l = [] ∨ ∃ es sp, d = .slice es sp ∧ es.length = a.l.length) := by
  obtain ⟨a0, len, cap, rfl⟩ := okWide_slice ht hv
  obtain ⟨fuel, hf⟩ := h0
  rcases open_ints ht he hc hf with ⟨hcs, _⟩ | ⟨a, len', cap', zs, hcs, _, hl, hm, hz, hd, hcell, hwf⟩
  · simp [Value.cells] at hcs
    obtain ⟨rfl, rfl, rfl⟩ := hcs
    exact ⟨⟨.slice none 0 0, 0, 0, []⟩, rfl, ⟨by simp, .inl ⟨rfl, rfl⟩⟩, Nat.zero_le _, .inl rfl⟩
  · simp [Value.cells] at hcs
    obtain ⟨rfl, rfl, rfl⟩ := hcs
    simp only [if_true] at hz
    have hhas : W.has P .any base a e cap := by
      unfold Value.okWide Cell.okWide Cell.ok at hv
      rw [ht] at hv
      exact hv.2.2
    obtain ⟨_, hsp, row, cells, hsh, _⟩ := hhas
    obtain ⟨b, o, sp⟩ := a
    have hsp : sp = none := hsp
    subst hsp
    have hh : ∃ arr e' fr, W.heap[b]? = some (.cells arr e' fr) := by
      have hsh : W.shape? b = some (row, cells) := hsh
      unfold World.shape? at hsh
      split at hsh
      · rename_i c el fr h; exact ⟨c, el, fr, h⟩
      · cases hsh
    obtain ⟨arr, e', fr, hh⟩ := hh
    have hat : ∀ i, i < cap → arr[o + i]? = some (.int .u8 (zs.getD i 0)) := fun i hi => by
      have := hcell i (by omega)
      rw [addr_add] at this
      unfold World.cell? at this
      simpa [hh] using this
    have hbyte : ∀ z ∈ zs, 0 ≤ z ∧ z < 256 := fun z hz' => by
      have h := hwf z hz'
      have h1 : IntKind.u8.min = 0 := rfl
      have h2 : IntKind.u8.max = 255 := rfl
      simp only [Lit.wf, Bool.and_eq_true, decide_eq_true_eq] at h
      omega
    have hlen : ((zs.take len).map Int.toNat).length = len := by simp; omega
    refine ⟨⟨.slice (some ⟨b, o, none⟩) len cap, b, o, (zs.take len).map Int.toNat⟩, rfl, ⟨?_, .inr ⟨cap, arr, e', fr, by rw [hlen], hh, by rw [hlen]; exact hl, fun h0 => ?_, fun i x hx => ?_⟩⟩, by rw [hlen]; omega, .inr ⟨_, _, congrArg Prod.fst hd, by rw [hlen]; simp [lits]; omega⟩⟩
    · intro x hx
      obtain ⟨z, hz', rfl⟩ := List.mem_map.1 hx
      have := hbyte z (List.mem_of_mem_take hz')
      omega
    · have := hat (cap - 1) (by omega)
      have := (Array.getElem?_eq_some_iff.1 this).1
      show o + cap ≤ arr.size
      omega
    · have hx : ((zs.take len).map Int.toNat)[i]? = some x := hx
      have hi : i < len := by have := (List.getElem?_eq_some_iff.1 hx).1; omega
      rw [List.getElem?_map, List.getElem?_take_of_lt hi] at hx
      show arr[o + i]? = some (.int .u8 (.ofNat x))
      rw [hat i (by omega), List.getD_eq_getElem?_getD]
      cases hz' : zs[i]? with
      | none => rw [hz'] at hx; cases hx
      | some z =>
        rw [hz'] at hx
        cases hx
        have := hbyte z (List.mem_of_getElem? hz')
        simp only [Option.getD_some]
        rw [show (Int.ofNat z.toNat) = z by simp; omega]
theorem i64_wf {x : Int} (h : (Lit.int .i64 x).wf = true) : -9223372036854775808 ≤ x ∧ x < 9223372036854775808 := by
  have h1 : IntKind.i64.min = -9223372036854775808 := rfl
  have h2 : IntKind.i64.max = 9223372036854775807 := rfl
  simp only [Lit.wf, Bool.and_eq_true, decide_eq_true_eq] at h
  omega
end Eng
end
section
set_option linter.unusedVariables false
namespace Eng
open Go
theorem loop_st {call : CallT} {N : Nat} {body : AC} {σ : Type} (fr : σ → List (Nat × AV)) (L : List Nat) (hL : ∀ x, (fr x).map (·.1) = L) (Inv : σ → Hp → Prop) (meas : σ → Nat) (E : Nat → σ → Hp → Prop) (R : List (Option AV) → Hp → Prop)
    (step : ∀ x t h, Inv x h → ∃ s, evC call N body (ovT (fr x) t) h = s ∧ obsS L (fun ls h' => ∃ y, ls = (fr y).map (fun p => some p.2) ∧ Inv y h' ∧ meas y < meas x) (fun i ls h' => ∃ y, ls = (fr y).map (fun p => some p.2) ∧ E i y h') R s)
    (x0 : σ) (h : Hp) (hx : Inv x0 h) (hN : meas x0 < N) (t : T) (ht : Has (fr x0) t) :
    (∃ i y t' h', evC call N (.loop body) t h = .exit i t' h' ∧ Has (fr y) t' ∧ E i y h') ∨ (∃ t' h', evC call N (.loop body) t h = .ret t' h' ∧ R (slots L t') h') := by
  obtain ⟨s, e, hs⟩ := loop_ok (call := call) (N := N) (body := body) L (fun n ls h' => ∃ y, ls = (fr y).map (fun p => some p.2) ∧ Inv y h' ∧ meas y = n) (fun i ls h' => ∃ y, ls = (fr y).map (fun p => some p.2) ∧ E i y h') R
    (fun n t h ⟨y, hy, hi, hn⟩ => by
      have hh : Has (fr y) t := by unfold Has; rw [hL]; exact hy
      obtain ⟨s, e, hs⟩ := step y t h hi
      rw [ovT_eq hh] at e
      refine ⟨s, e, ?_⟩
      cases s with
      | no => exact hs
      | nor t' h' =>
        obtain ⟨z, h1, h2, h3⟩ := (show ∃ z, slots L t' = (fr z).map (fun p => some p.2) ∧ Inv z h' ∧ meas z < meas y from hs)
        exact (show ∃ m, m < n ∧ ∃ y, slots L t' = (fr y).map (fun p => some p.2) ∧ Inv y h' ∧ meas y = m from ⟨meas z, by omega, z, h1, h2, rfl⟩)
      | exit i t' h' => exact hs
      | ret t' h' => exact hs)
    (meas x0) hN t h ⟨x0, by unfold Has at ht; rw [hL] at ht; exact ht, hx, rfl⟩
  cases s with
  | no => exact hs.elim
  | nor t' h' => exact hs.elim
  | exit i t' h' =>
    obtain ⟨y, h1, h2⟩ := (show ∃ y, slots L t' = (fr y).map (fun p => some p.2) ∧ E i y h' from hs)
    exact .inl ⟨i, y, t', h', e, by unfold Has; rw [hL]; exact h1, h2⟩
  | ret t' h' => exact .inr ⟨t', h', e, hs⟩
end Eng
end
section
set_option linter.unusedVariables false
set_option linter.unusedSimpArgs false
namespace Eng
open Go Go.RowKit
def TwinAt (h : Hp) (v : AV) (l : List Nat) : Prop := ∃ b w, v = .slice b 0 l.length (l.length + 3) 1 true ∧ b < h.next ∧ hget h b = some (.cells (u8s (l ++ [229, 229, 229])) (l.length + 3) w) ∧ ∀ x ∈ l, x < 256
theorem TwinAt.bytes {h : Hp} {v : AV} {l : List Nat} (o : TwinAt h v l) : Bytes h.next h v l := by
  obtain ⟨b, w, rfl, hb, hg, hl⟩ := o
  refine .sl hb hg (by rw [u8s_length]; simp) ?_ (by omega) (by omega) hl
  rw [List.drop_zero, u8s_eq, u8s_eq, ← List.map_take, List.take_left' rfl]
def TwinS (call : CallT) (f : Nat) : Prop := ∀ {B : Nat} {h : Hp} {vb : AV} {l : List Nat}, B ≤ h.next → Bytes B h vb l → l.length ≤ 1099511627776 → ∃ rv rh, call f [vb] h = .ok rv rh ∧ TwinAt rh rv l ∧ Old B h rh ∧ B ≤ rh.next
def KeptS (call : CallT) (f : Nat) : Prop := ∀ {h : Hp} {vb vt : AV} {l : List Nat}, TwinAt h vt l → Bytes h.next h vb l → l.length ≤ 1099511627776 → call f [vt, vb] h = .ok (.bool true) h
end Eng
namespace Eng
open Go
end Eng
namespace Eng
open Go
end Eng
namespace Eng
open Go
end Eng
namespace Eng
end Eng
end
section
set_option linter.unusedVariables false
set_option linter.unusedSimpArgs false
namespace Eng
open Go Go.RowKit
structure AObj where
  p : Hp → (Nat → Prop) → Prop
  loc : ∀ {h h' : Hp} {G : Nat → Prop}, (∀ k, G k → hget h' k = hget h k) → p h G → p h' G
def Sep (os : List AObj) (h : Hp) : Prop :=
  ∃ g : Nat → Nat → Prop, (∀ (i : Nat) (o : AObj), os[i]? = some o → o.p h (g i)) ∧ (∀ i k, g i k → k < h.next) ∧ ∀ i j k, g i k → g j k → i = j
theorem Sep.nil (h : Hp) : Sep [] h := by
  refine ⟨fun _ _ => False, fun i o e => ?_, fun i k e => e.elim, fun i j k e _ => e.elim⟩
  cases e
theorem Sep.at {os : List AObj} {h : Hp} (S : Sep os h) {i : Nat} {o : AObj} (hi : os[i]? = some o) : ∃ G : Nat → Prop, o.p h G ∧ (∀ k, G k → k < h.next) ∧
    ∀ (h' : Hp) (o' : AObj) (G' : Nat → Prop), h.next ≤ h'.next → o'.p h' G' → (∀ k, G' k → G k ∨ (h.next ≤ k ∧ k < h'.next)) → (∀ k, k < h.next → ¬ G k → hget h' k = hget h k) → Sep (os.set i o') h' := by
  obtain ⟨g, g1, g2, g3⟩ := S
  have hil : i < os.length := (List.getElem?_eq_some_iff.1 hi).1
  refine ⟨g i, g1 i o hi, g2 i, fun h' o' G' hn ho hG hf => ⟨fun j k => (j = i ∧ G' k) ∨ (j ≠ i ∧ g j k), fun j x hj => ?_, fun j k hk => ?_, fun j1 j2 k h1 h2 => ?_⟩⟩
  · by_cases e : j = i
    · subst e
      rw [List.getElem?_set_self hil] at hj
      cases hj
      have : (fun k => (j = j ∧ G' k) ∨ (j ≠ j ∧ g j k)) = G' := by funext k; simp
      show o'.p h' (fun k => (j = j ∧ G' k) ∨ (j ≠ j ∧ g j k))
      rw [this]; exact ho
    · rw [List.getElem?_set_ne (Ne.symm e)] at hj
      have : (fun k => (j = i ∧ G' k) ∨ (j ≠ i ∧ g j k)) = g j := by funext k; simp [e]
      show x.p h' (fun k => (j = i ∧ G' k) ∨ (j ≠ i ∧ g j k))
      rw [this]
      exact x.loc (fun k hk => hf k (g2 j k hk) fun hc => e (g3 j i k hk hc)) (g1 j x hj)
  · rcases hk with ⟨_, hk⟩ | ⟨_, hk⟩
    · rcases hG k hk with hk | ⟨_, hk⟩
      · have := g2 i k hk; omega
      · exact hk
    · have := g2 j k hk; omega
  · rcases h1 with ⟨e1, h1⟩ | ⟨e1, h1⟩ <;> rcases h2 with ⟨e2, h2⟩ | ⟨e2, h2⟩
    · rw [e1, e2]
    · rcases hG k h1 with h1 | ⟨h1, _⟩
      · exact absurd (g3 i j2 k h1 h2) (Ne.symm e2)
      · have := g2 j2 k h2; omega
    · rcases hG k h2 with h2 | ⟨h2, _⟩
      · exact absurd (g3 i j1 k h2 h1) (Ne.symm e1)
      · have := g2 j1 k h1; omega
    · exact g3 j1 j2 k h1 h2
theorem Sep.add {os : List AObj} {h : Hp} (S : Sep os h) {h' : Hp} {o : AObj} (G : Nat → Prop) (hn : h.next ≤ h'.next) (ho : o.p h' G) (hG : ∀ k, G k → h.next ≤ k ∧ k < h'.next) (hf : ∀ k, k < h.next → hget h' k = hget h k) : Sep (o :: os) h' := by
  obtain ⟨g, g1, g2, g3⟩ := S
  refine ⟨fun j => Nat.casesOn j G g, fun j x hj => ?_, fun j k hk => ?_, fun j1 j2 k h1 h2 => ?_⟩
  · cases j with
    | zero => cases hj; exact ho
    | succ j => exact x.loc (fun k hk => hf k (g2 j k hk)) (g1 j x hj)
  · cases j with
    | zero => exact (hG k hk).2
    | succ j => have := g2 j k hk; omega
  · cases j1 with
    | zero =>
      cases j2 with
      | zero => rfl
      | succ j2 => have a := hG k h1; have b := g2 j2 k h2; omega
    | succ j1 =>
      cases j2 with
      | zero => have a := hG k h2; have b := g2 j1 k h1; omega
      | succ j2 => rw [g3 j1 j2 k h1 h2]
theorem Sep.on {os : List AObj} {h h' : Hp} (S : Sep os h) (hn : h.next ≤ h'.next) (hf : ∀ k, k < h.next → hget h' k = hget h k) : Sep os h' := by
  obtain ⟨g, g1, g2, g3⟩ := S
  exact ⟨g, fun j x hj => x.loc (fun k hk => hf k (g2 j k hk)) (g1 j x hj), fun j k hk => by have := g2 j k hk; omega, g3⟩
theorem Sep.tail {o : AObj} {os : List AObj} {h : Hp} (S : Sep (o :: os) h) : Sep os h := by
  obtain ⟨g, g1, g2, g3⟩ := S
  exact ⟨fun j => g (j + 1), fun j x hj => g1 (j + 1) x hj, fun j k hk => g2 (j + 1) k hk, fun j1 j2 k h1 h2 => by have := g3 _ _ k h1 h2; omega⟩
theorem Sep.front {os : List AObj} {h : Hp} (S : Sep os h) (i : Nat) {o : AObj} (hi : os[i]? = some o) : Sep (o :: os.eraseIdx i) h := by
  obtain ⟨g, g1, g2, g3⟩ := S
  refine ⟨fun j => Nat.casesOn j (g i) (fun j => g (if j < i then j else j + 1)), fun j x hj => ?_, fun j k hk => ?_, fun j1 j2 k h1 h2 => ?_⟩
  · cases j with
    | zero => cases hj; exact g1 i o hi
    | succ j =>
      have hj : (os.eraseIdx i)[j]? = some x := hj
      rw [List.getElem?_eraseIdx] at hj
      show x.p h (g (if j < i then j else j + 1))
      split at hj
      · rw [if_pos ‹_›]; exact g1 _ _ hj
      · rw [if_neg ‹_›]; exact g1 _ _ hj
  · cases j with
    | zero => exact g2 i k hk
    | succ j => exact g2 _ k hk
  · cases j1 with
    | zero =>
      cases j2 with
      | zero => rfl
      | succ j2 => have a := g3 i _ k h1 h2; split at a <;> omega
    | succ j1 =>
      cases j2 with
      | zero => have a := g3 _ i k h1 h2; split at a <;> omega
      | succ j2 => have a := g3 _ _ k h1 h2; split at a <;> split at a <;> omega
theorem Sep.turn {os : List AObj} {h : Hp} (S : Sep os h) {i : Nat} {o o' : AObj} (hi : os[i]? = some o) (f : ∀ G, (∀ k, G k → k < h.next) → o.p h G → o'.p h G) : Sep (os.set i o') h := by
  obtain ⟨G, hp, hb, go⟩ := S.at hi
  exact go h o' G (Nat.le_refl _) (f G hb hp) (fun k hk => .inl hk) fun k hk hn => rfl
def Frz (G0 : Nat → Prop) (h0 : Hp) : AObj where
  p h G := (∀ k, G0 k → G k) ∧ ∀ k, G0 k → hget h k = hget h0 k
  loc := fun hf ⟨h1, h2⟩ => ⟨h1, fun k hk => (hf k (h1 k hk)).trans (h2 k hk)⟩
theorem Sep.freeze {os : List AObj} {h : Hp} (S : Sep os h) {i : Nat} {o : AObj} (hi : os[i]? = some o) : ∃ G : Nat → Prop, o.p h G ∧ (∀ k, G k → k < h.next) ∧ Sep (os.set i (Frz G h)) h := by
  obtain ⟨G, hp, hb, go⟩ := S.at hi
  exact ⟨G, hp, hb, go h _ G (Nat.le_refl _) ⟨fun k hk => hk, fun _ _ => rfl⟩ (fun k hk => .inl hk) fun k hk hn => rfl⟩
theorem Sep.start (h : Hp) : Sep [Frz (fun k => k < h.next) h] h :=
by
  refine ⟨fun i k => i = 0 ∧ k < h.next, fun i o hi => ?_, fun i k hk => hk.2, fun i j k h1 h2 => h1.1.trans h2.1.symm⟩
  cases i with
  | zero => cases hi; exact ⟨fun k hk => ⟨rfl, hk⟩, fun _ _ => rfl⟩
  | succ i => cases hi
theorem Sep.frozen {os : List AObj} {h : Hp} (S : Sep os h) {i : Nat} {G : Nat → Prop} {h0 : Hp} (hi : os[i]? = some (Frz G h0)) {k : Nat} (hk : G k) : k < h.next ∧ hget h k = hget h0 k := by
  obtain ⟨G', hp, hb, go⟩ := S.at hi
  exact ⟨hb k (hp.1 k hk), hp.2 k hk⟩
def blkOf : AV → Option Nat
  | .slice b _ _ _ _ _ => some b
  | _ => none
def BIn (G : Nat → Prop) (h : Hp) (v : AV) (l : List Nat) : Prop := (∃ B, Bytes B h v l) ∧ ∀ b, blkOf v = some b → G b
theorem BIn.nil {G : Nat → Prop} {h : Hp} : BIn G h .nilSlice [] := ⟨⟨0, .nil⟩, fun b e => by cases e⟩
theorem BIn.lt {G : Nat → Prop} {h : Hp} {v : AV} {l : List Nat} (P : BIn G h v l) : ∀ x ∈ l, x < 256 := by
  obtain ⟨⟨B, P⟩, _⟩ := P; exact P.lt
theorem BIn.of {B : Nat} {h : Hp} {v : AV} {l : List Nat} (P : Bytes B h v l) : BIn (fun k => k < B) h v l := by
  refine ⟨⟨B, P⟩, fun b e => ?_⟩
  cases P with
  | nil => cases e
  | sl hB hg hcl hl hm hc hb => cases e; exact hB
theorem BIn.now {os : List AObj} {h : Hp} (S : Sep os h) {i : Nat} {G : Nat → Prop} {h0 : Hp} (hi : os[i]? = some (Frz G h0)) {v : AV} {l : List Nat} (P : BIn G h0 v l) : Bytes h.next h v l := by
  obtain ⟨⟨B, P⟩, hG⟩ := P
  cases P with
  | nil => exact .nil
  | sl hB hg hcl hl hm hc hb =>
    obtain ⟨h1, h2⟩ := S.frozen hi (hG _ rfl)
    exact .sl h1 (h2.trans hg) hcl hl hm hc hb
theorem blkOf_part (v : AV) (lo hi : Nat) : blkOf (partS v lo hi) = blkOf v := by cases v <;> rfl
theorem BIn.part {G : Nat → Prop} {h : Hp} {v : AV} {l : List Nat} (P : BIn G h v l) {lo hi : Nat} (h1 : lo ≤ hi) (h2 : hi ≤ l.length) : BIn G h (partS v lo hi) ((l.take hi).drop lo) := by
  obtain ⟨⟨B, P⟩, hG⟩ := P
  exact ⟨⟨B, P.part h1 h2⟩, fun b e => hG b (by rwa [blkOf_part] at e)⟩
theorem BIn.from {G : Nat → Prop} {h : Hp} {v : AV} {l : List Nat} (P : BIn G h v l) {lo : Nat} (h1 : lo ≤ l.length) : BIn G h (partS v lo l.length) (l.drop lo) := by
  obtain ⟨⟨B, P⟩, hG⟩ := P
  exact ⟨⟨B, part_from P h1⟩, fun b e => hG b (by rwa [blkOf_part] at e)⟩
theorem BIn.to {G : Nat → Prop} {h : Hp} {v : AV} {l : List Nat} (P : BIn G h v l) {hi : Nat} (h1 : hi ≤ l.length) : BIn G h (partS v 0 hi) (l.take hi) := by
  obtain ⟨⟨B, P⟩, hG⟩ := P
  exact ⟨⟨B, part_to P h1⟩, fun b e => hG b (by rwa [blkOf_part] at e)⟩
def Cel (b : Nat) (cs : List AV) : AObj where
  p h G := G b ∧ hget h b = some (.cells cs cs.length .solo)
  loc := fun hf ⟨h1, h2⟩ => ⟨h1, (hf _ h1).trans h2⟩
theorem cel_get {os : List AObj} {h : Hp} (S : Sep os h) {i b : Nat} {cs : List AV} (hi : os[i]? = some (Cel b cs)) : hget h b = some (.cells cs cs.length .solo) := by
  obtain ⟨G, hp, _⟩ := S.at hi; exact hp.2
theorem cel_load {os : List AObj} {h : Hp} (S : Sep os h) {i b o : Nat} {cs : List AV} (hi : os[i]? = some (Cel b cs)) {x : AV} (hx : cs[o]? = some x) : evQ (.loadS (.const (.ptr b o))) .lf h = .ok x :=
  q_load (cel_get S hi) hx
theorem cel_loadA {os : List AObj} {h : Hp} (S : Sep os h) {i b o n : Nat} {cs : List AV} (hi : os[i]? = some (Cel b cs)) (hx : o + n ≤ cs.length) : evQ (.loadA n (.const (.ptr b o))) .lf h = .ok (.agg ((cs.drop o).take n)) := by
  show rdN h b o n OV.no (fun l => .ok (.agg l)) = _
  rw [rdN_of (cel_get S hi) hx rfl]
theorem cel_new {os : List AObj} {h : Hp} (S : Sep os h) (cs : List AV) {n : Nat} (hn : cs.length = n) : Sep (Cel h.next cs :: os) (hpush h (mkCells cs n)) := by
  subst hn
  exact S.add (fun k => k = h.next) (Nat.le_succ _) ⟨rfl, hget_hpush h _⟩ (fun k hk => by subst hk; exact ⟨Nat.le_refl _, Nat.lt_succ_self _⟩) fun k hk => hget_hpush_ne h _ (by omega)
theorem cel_put {os : List AObj} {h : Hp} (S : Sep os h) {i b : Nat} {cs cs' : List AV} (hi : os[i]? = some (Cel b cs)) (hl : cs'.length = cs.length) : Sep (os.set i (Cel b cs')) (hset h b (.cells cs' cs.length .solo)) := by
  obtain ⟨G, hp, hb, go⟩ := S.at hi
  exact go _ _ G (Nat.le_refl _) ⟨hp.1, by rw [hget_hset, hl]⟩ (fun k hk => .inl hk) fun k hk hn => hget_hset_ne h _ fun e => hn (e ▸ hp.1)
theorem cel_store {os : List AObj} {h : Hp} (call : CallT) (S : Sep os h) {i b o : Nat} {cs : List AV} (hi : os[i]? = some (Cel b cs)) (ho : o < cs.length) {x : AV} (hx : isCell x = true) :
    ∃ e : Ev, evE (.store 1 (.const (.ptr b o)) (.const x)) call .lf h = .ok undef e.h ∧ Sep (os.set i (Cel b (cs.set o x))) e.h := by
  refine ⟨⟨.nilPtr, .lf, _⟩, ?_, cel_put S hi (List.length_set ..)⟩
  show oStore 1 (.const (.ptr b o)) (.const x) .lf h = _
  unfold oStore
  have e1 : Nat.beq 1 1 = true := rfl
  rw [e1, bc_eq, if_pos rfl]
  show bc (isCell x) (oStore1 (.const (.ptr b o)) (.const x) .lf h) _ = _
  rw [hx, bc_eq, if_pos rfl]
  show bc (isCell x) (wr1 h b o x) RV.no = _
  rw [hx]
  show hcells h b RV.no _ = _
  unfold hcells
  rw [cel_get S hi]
  show bc (Nat.blt o cs.length) (put h b (upd x cs o) cs.length .solo undef) .no = _
  rw [blt_dec, decide_eq_true ho, upd_eq]; rfl
theorem cel_storeN {os : List AObj} {h : Hp} (call : CallT) (S : Sep os h) {i b o n : Nat} {cs xs : List AV} (hi : os[i]? = some (Cel b cs)) (ho : o + n ≤ cs.length) (hn : xs.length = n) (h1 : n ≠ 1) (hx : ∀ x ∈ xs, isCell x = true) :
    ∃ e : Ev, evE (.store n (.const (.ptr b o)) (.const (.agg xs))) call .lf h = .ok undef e.h ∧ Sep (os.set i (Cel b (over xs cs o))) e.h := by
  subst hn
  have hl : (over xs cs o).length = cs.length := by
    rw [over_eq _ _ _ (by omega), List.length_append, List.length_append, List.length_take, List.length_drop]; omega
  refine ⟨⟨.nilPtr, .lf, _⟩, ?_, cel_put S hi hl⟩
  show oStore xs.length (.const (.ptr b o)) (.const (.agg xs)) .lf h = _
  unfold oStore
  rw [beqF h1, bc_eq, if_neg (by decide)]
  show bc (Nat.beq (len xs) xs.length) (bc (lall isCell xs) (wrN h b o xs xs.length undef) .no) RV.no = _
  rw [len_eq, Nat.beq_refl, lall_iff.2 hx]
  show hcells h b RV.no _ = _
  unfold hcells
  rw [cel_get S hi]
  show bc (Nat.ble (o + xs.length) cs.length) (put h b (over xs cs o) cs.length .solo undef) .no = _
  rw [ble_dec, decide_eq_true ho]; rfl
end Eng
end
section
set_option linter.unusedVariables false
set_option linter.unusedSimpArgs false
namespace Eng
open Go Go.RowKit
inductive OwnI (sz : Nat) (h : Hp) (G : Nat → Prop) : AV → Nat → List AV → Prop
  | nil : OwnI sz h G .nilSlice 0 []
  | sl {b n c : Nat} {ex : Bool} {w : Own} {Lc L : List AV} (hG : G b) (hg : hget h b = some (.cells Lc (c * sz) w)) (hl : Lc.length = c * sz) (hn : n ≤ c) (hL : Lc.take (n * sz) = L)
      (hw : w = .solo ∨ ∃ p, w = .pair p ∧ G p ∧ p ≠ b) : OwnI sz h G (.slice b 0 n c sz ex) n L
theorem OwnI.len {sz : Nat} {h : Hp} {G : Nat → Prop} {v : AV} {n : Nat} {L : List AV} (o : OwnI sz h G v n L) : L.length = n * sz := by
  cases o with
  | nil => simp
  | @sl b n c ex w Lc L hG hg hl hn hL hw =>
    have := Nat.mul_le_mul_right sz hn
    rw [← hL, List.length_take, hl]; omega
def OwnO (sz : Nat) (v : AV) (n : Nat) (L : List AV) : AObj where
  p h G := OwnI sz h G v n L
  loc := fun hf o => by
    cases o with
    | nil => exact .nil
    | sl hG hg hl hn hL hw => exact .sl hG ((hf _ hG).trans hg) hl hn hL hw
theorem own_get {os : List AObj} {h : Hp} (S : Sep os h) {i sz n : Nat} {v : AV} {L : List AV} (hi : os[i]? = some (OwnO sz v n L)) : ∃ G, OwnI sz h G v n L := by
  obtain ⟨G, hp, _⟩ := S.at hi; exact ⟨G, hp⟩
theorem own_nil {os : List AObj} {h : Hp} (S : Sep os h) (sz : Nat) : Sep (OwnO sz .nilSlice 0 [] :: os) h :=
  S.add (fun _ => False) (Nat.le_refl _) .nil (fun k hk => hk.elim) fun k hk => rfl
theorem own_new {os : List AObj} {h : Hp} (S : Sep os h) (sz n : Nat) (L : List AV) (ex : Bool) (hl : L.length = n * sz) : Sep (OwnO sz (.slice h.next 0 n n sz ex) n L :: os) (hpush h (mkCells L (n * sz))) :=
  S.add (fun k => k = h.next) (Nat.le_succ _) (.sl rfl (hget_hpush h _) hl (Nat.le_refl _) (List.take_of_length_le (by omega)) (.inl rfl)) (fun k hk => by subst hk; exact ⟨Nat.le_refl _, Nat.lt_succ_self _⟩) fun k hk => hget_hpush_ne h _ (by omega)
theorem Sep.owned {os : List AObj} {h h' : Hp} (S : Sep os h) {sz n : Nat} {v : AV} {L : List AV} (o : Owned sz h.next h' v n L) (a : Old h.next h h') : Sep (OwnO sz v n L :: os) h' := by
  refine S.add (fun k => h.next ≤ k ∧ k < h'.next) a.next ?_ (fun k hk => hk) a.get
  cases o with
  | nil => exact .nil
  | sl hB hb hg hl hw => exact .sl ⟨hB, hb⟩ hg hl (Nat.le_refl _) (List.take_of_length_le (by omega)) (hw.imp id fun ⟨p, h1, h2, h3⟩ => ⟨p, h1, h2, h3⟩)
theorem src_own {β : Type} {h : Hp} {sz : Nat} {G : Nat → Prop} {s : AV} {n : Nat} {L : List AV} (o : OwnI sz h G s n L) (z : β) (k : Nat → List AV → β) : src h sz s z k = k n L := by
  cases o with
  | nil => rfl
  | @sl b n c ex w Lc L hG hg hl hn hL hw =>
    have := Nat.mul_le_mul_right sz hn
    show bc (Nat.beq sz sz) (rdN h b 0 (Nat.mul n sz) z fun l => k n l) z = _
    rw [Nat.beq_refl]
    show rdN h b 0 (n * sz) z _ = _
    rw [rdN_of hg (by omega) hl, List.drop_zero, hL]
theorem q_lenI {sz : Nat} {h : Hp} {G : Nat → Prop} {v : AV} {n : Nat} {L : List AV} (o : OwnI sz h G v n L) : evQ (.lenL (.const v)) .lf H0 = .ok (.int .i64 (.ofNat n)) := by
  cases o <;> rfl
theorem own_len {os : List AObj} {h : Hp} (S : Sep os h) {i sz n : Nat} {v : AV} {L : List AV} (hi : os[i]? = some (OwnO sz v n L)) : evQ (.lenL (.const v)) .lf H0 = .ok (.int .i64 (.ofNat n)) := by
  obtain ⟨G, o⟩ := own_get S hi; exact q_lenI o
theorem own_src {os : List AObj} {h : Hp} (S : Sep os h) {i sz n : Nat} {v : AV} {L : List AV} (hi : os[i]? = some (OwnO sz v n L)) {β : Type} (z : β) (k : Nat → List AV → β) : src h sz v z k = k n L := by
  obtain ⟨G, o⟩ := own_get S hi; exact src_own o z k
theorem OwnI.bytes {h : Hp} {G : Nat → Prop} {s : AV} {n : Nat} {l : List Nat} (o : OwnI 1 h G s n (u8s l)) (hb : ∀ x ∈ l, x < 256) : BIn G h s l := by
  generalize hL : u8s l = L at o
  cases o with
  | nil =>
    cases l with
    | nil => exact .nil
    | cons x l => cases hL
  | @sl b n c ex w Lc L hG hg hl hn hLc hw =>
    subst hL
    have h1 := congrArg List.length hLc
    rw [u8s_length, List.length_take, hl] at h1
    have hnl : l.length = n := by omega
    subst hnl
    exact ⟨⟨b + 1, .sl (Nat.lt_succ_self _) hg hl (by rw [List.drop_zero, ← hLc, Nat.mul_one]) (by omega) hn hb⟩, fun b' e => by cases e; exact hG⟩
theorem own_freeze {os : List AObj} {h : Hp} (S : Sep os h) {i n : Nat} {v : AV} {l : List Nat} (hi : os[i]? = some (OwnO 1 v n (u8s l))) (hb : ∀ x ∈ l, x < 256) : ∃ G : Nat → Prop, BIn G h v l ∧ Sep (os.set i (Frz G h)) h := by
  obtain ⟨G, o, _, S'⟩ := S.freeze hi
  exact ⟨G, OwnI.bytes o hb, S'⟩
theorem own_append {os : List AObj} {h : Hp} (call : CallT) (S : Sep os h) {i sz bytes n : Nat} {s : AV} {L : List AV} (hi : os[i]? = some (OwnO sz s n L)) {x : AV} {m : Nat} {xs : List AV} (hs : ∀ {β : Type} (z : β) (k : Nat → List AV → β), src h sz x z k = k m xs)
    (hx : xs.length = m * sz) (hc : ∀ x ∈ xs, isCell x = true) (h1 : (n + m) * bytes ≤ 70368744177664) (h2 : n + m ≤ 70368744177664) :
    ∃ e : Ev, evE (.append sz bytes (.const s) (.const x)) call .lf h = .ok e.v e.h ∧ Sep (os.set i (OwnO sz e.v (n + m) (L ++ xs))) e.h := by
  obtain ⟨G, o, hGb, go⟩ := S.at hi
  have ev : evE (.append sz bytes (.const s) (.const x)) call .lf h = appendTo h sz bytes s m xs := by
    show src h sz x RV.no (fun m xs => appendTo h sz bytes s m xs) = _
    rw [hs]
  rw [ev]
  have same : m = 0 → appendTo h sz bytes s m xs = .ok s h → ∃ e : Ev, appendTo h sz bytes s m xs = .ok e.v e.h ∧ Sep (os.set i (OwnO sz e.v (n + m) (L ++ xs))) e.h := by
    intro hm e
    subst hm
    obtain rfl : xs = [] := List.eq_nil_of_length_eq_zero (by omega)
    refine ⟨⟨s, .lf, h⟩, e, ?_⟩
    rw [List.append_nil]
    exact go h _ G (Nat.le_refl _) o (fun k hk => .inl hk) fun k hk hn => rfl
  have fresh : ∀ (g : Hp) (L' : List AV), g.next = h.next → (∀ k, k < h.next → ¬ G k → hget g k = hget h k) → L' = L ++ xs → appendTo h sz bytes s m xs = grown g (n + m) sz L' →
      ∃ e : Ev, appendTo h sz bytes s m xs = .ok e.v e.h ∧ Sep (os.set i (OwnO sz e.v (n + m) (L ++ xs))) e.h := by
    intro g L' hgn hgo hL e
    subst hL
    refine ⟨⟨.slice g.next 0 (n + m) (n + m) sz false, .lf, hpush g (mkCells (L ++ xs) ((n + m) * sz))⟩, e, ?_⟩
    have hlen : (L ++ xs).length = (n + m) * sz := by rw [List.length_append, OwnI.len o, hx, Nat.add_mul]
    refine go _ _ (fun k => k = h.next) (by show h.next ≤ (hpush g _).next; rw [hpush_next, hgn]; omega) ?_ (fun k hk => .inr ⟨by omega, by show k < (hpush g _).next; rw [hpush_next, hgn]; omega⟩) fun k hk hn => by
      show hget (hpush g _) k = _
      rw [hget_hpush_ne _ _ (by omega), hgo k hk hn]
    exact .sl hgn (hget_hpush g _) hlen (Nat.le_refl _) (List.take_of_length_le (by omega)) (.inl rfl)
  rcases Nat.eq_zero_or_pos m with hm | hm
  · refine same hm ?_
    subst hm
    obtain rfl : xs = [] := List.eq_nil_of_length_eq_zero (by omega)
    cases o with
    | nil => rfl
    | @sl b n c ex w Lc L hG hg hl hn hL hw =>
      show bc (Nat.beq sz sz) (bc (Nat.ble (n + 0) c) (bc (Nat.beq 0 0) (RV.ok (.slice b 0 n c sz ex) h) _) _) RV.no = _
      rw [Nat.beq_refl, ble_dec, decide_eq_true (by omega)]; rfl
  · have hm0 : Nat.beq m 0 = false := beqF (by omega)
    cases o with
    | nil =>
      refine fresh h xs rfl (fun k hk hn => rfl) rfl ?_
      show bc (Nat.beq m 0) (RV.ok .nilSlice h) (bc (Nat.ble (Nat.mul m bytes) 70368744177664) (bc (Nat.ble m 70368744177664) (grown h m sz xs) .no) .no) = _
      rw [hm0, ble_dec, ble_dec, decide_eq_true (by simpa using h1), decide_eq_true (by simpa using h2), Nat.zero_add]; rfl
    | @sl b n c ex w Lc L hG hg hl hn hL hw =>
      have hbn := hGb _ hG
      have hmul : n * sz ≤ c * sz := Nat.mul_le_mul_right sz hn
      have hlen : L.length = n * sz := by rw [← hL, List.length_take, hl]; omega
      have key : appendTo h sz bytes (.slice b 0 n c sz ex) m xs = bc (Nat.ble (n + m) c) (wrN h b (0 + n * sz) xs (m * sz) (.slice b 0 (n + m) c sz ex)) (more h b 0 n sz m ex xs) := by
        show bc (Nat.beq sz sz) (bc (Nat.ble (n + m) c) (bc (Nat.beq m 0) _ _) (bc (Nat.ble ((n + m) * bytes) 70368744177664) (bc (Nat.ble (n + m) 70368744177664) (more h b 0 n sz m ex xs) .no) .no)) RV.no = _
        rw [Nat.beq_refl, hm0, ble_dec (a := (n + m) * bytes), ble_dec (a := n + m) (b := 70368744177664), decide_eq_true h1, decide_eq_true h2]; rfl
      by_cases hcap : n + m ≤ c
      · rw [ble_dec (a := n + m) (b := c), decide_eq_true hcap] at key
        have hcs : (n + m) * sz ≤ c * sz := Nat.mul_le_mul_right sz hcap
        rw [Nat.add_mul] at hcs
        have hw2 : wrN h b (0 + n * sz) xs (m * sz) (.slice b 0 (n + m) c sz ex) = put h b (over xs Lc (0 + n * sz)) (c * sz) w (.slice b 0 (n + m) c sz ex) := by
          show hcells h b RV.no _ = _
          unfold hcells
          rw [hg]
          show bc (Nat.ble (0 + n * sz + m * sz) (c * sz)) (put h b (over xs Lc (0 + n * sz)) (c * sz) w _) .no = _
          rw [ble_dec, decide_eq_true (by omega)]; rfl
        have hov : over xs Lc (0 + n * sz) = L ++ xs ++ Lc.drop (n * sz + m * sz) := by
          rw [Nat.zero_add, over_eq _ _ _ (by omega), hL, hx]
        rw [hw2, hov] at key
        have hl2 : (L ++ xs ++ Lc.drop (n * sz + m * sz)).length = c * sz := by rw [List.length_append, List.length_append, List.length_drop]; omega
        have fin : ∀ g : Hp, g.next = h.next → (∀ k, k < h.next → ¬ G k → hget g k = hget h k) → Sep (os.set i (OwnO sz (.slice b 0 (n + m) c sz ex) (n + m) (L ++ xs))) (hset g b (.cells (L ++ xs ++ Lc.drop (n * sz + m * sz)) (c * sz) .solo)) := fun g hgn hgo => by
          refine go _ _ G (by rw [hset_next, hgn]; exact Nat.le_refl _) (.sl hG (hget_hset _ _ _) hl2 hcap ?_ (.inl rfl)) (fun k hk => .inl hk) fun k hk hn => ?_
          · rw [List.take_append_of_le_length (by rw [List.length_append, Nat.add_mul]; omega), List.take_of_length_le (by rw [List.length_append, Nat.add_mul]; omega)]
          · rw [hget_hset_ne _ _ (fun (e : k = b) => hn (e ▸ hG)), hgo k hk hn]
        rcases hw with hw | ⟨p, hw, hp1, hp2⟩
        · subst hw
          exact ⟨⟨_, .lf, _⟩, key, fin h rfl fun _ _ _ => rfl⟩
        · subst hw
          exact ⟨⟨_, .lf, _⟩, key, fin (hset h p .dead) rfl fun k hk hn => hget_hset_ne h _ fun (e : k = p) => hn (e ▸ hp1)⟩
      · rw [ble_dec, decide_eq_false hcap] at key
        have e0 : Nat.add 0 (Nat.mul n sz) = n * sz := Nat.zero_add _
        have hpart : part Lc (c * sz) 0 (n * sz) = L := by rw [part_eq hl (by omega), List.drop_zero, hL]
        have key2 : more h b 0 n sz m ex xs = bc ex (grown h (n + m) sz (L ++ xs))
            (bc (Nat.beq (n * sz) (c * sz)) (w.peer .no (shared h b (n + m) sz Lc (c * sz) (L ++ xs)) fun p => bc (Nat.beq p b) .no (shared (hset h p .dead) b (n + m) sz Lc (c * sz) (L ++ xs)))
              (w.peer .no (grown (hset h b .dead) (n + m) sz (L ++ xs)) fun p => grown (hset (hset h p .dead) b .dead) (n + m) sz (L ++ xs))) := by
          show hcells h b RV.no _ = _
          unfold hcells
          rw [hg]
          show bc (Nat.ble (Nat.add 0 (Nat.mul n sz)) (c * sz)) (bc ex (grown h (n + m) sz (app (part Lc (c * sz) 0 (n * sz)) xs))
            (bc (Nat.beq (Nat.add 0 (Nat.mul n sz)) (c * sz)) (w.peer RV.no (shared h b (n + m) sz Lc (c * sz) (app (part Lc (c * sz) 0 (n * sz)) xs)) fun p => bc (Nat.beq p b) .no (shared (hset h p .dead) b (n + m) sz Lc (c * sz) (app (part Lc (c * sz) 0 (n * sz)) xs)))
              (w.peer RV.no (grown (hset h b .dead) (n + m) sz (app (part Lc (c * sz) 0 (n * sz)) xs)) fun p => grown (hset (hset h p .dead) b .dead) (n + m) sz (app (part Lc (c * sz) 0 (n * sz)) xs)))) RV.no = _
          rw [e0, hpart, app_eq, ble_dec, decide_eq_true hmul]; rfl
        have key : appendTo h sz bytes (.slice b 0 n c sz ex) m xs = _ := key.trans key2
        cases ex with
        | true => exact fresh h _ rfl (fun k hk hn => rfl) rfl key
        | false =>
          have key : appendTo h sz bytes (.slice b 0 n c sz false) m xs = bc (Nat.beq (n * sz) (c * sz)) (w.peer .no (shared h b (n + m) sz Lc (c * sz) (L ++ xs)) fun p => bc (Nat.beq p b) .no (shared (hset h p .dead) b (n + m) sz Lc (c * sz) (L ++ xs)))
              (w.peer .no (grown (hset h b .dead) (n + m) sz (L ++ xs)) fun p => grown (hset (hset h p .dead) b .dead) (n + m) sz (L ++ xs)) := key
          have hlen2 : (L ++ xs).length = (n + m) * sz := by rw [List.length_append, hlen, hx, Nat.add_mul]
          by_cases heq : n * sz = c * sz
          · have hb1 : Nat.beq (n * sz) (c * sz) = true := by rw [heq, Nat.beq_refl]
            rw [hb1] at key
            have fin : ∀ g : Hp, g.next = h.next → (∀ k, k < h.next → ¬ G k → hget g k = hget h k) → appendTo h sz bytes (.slice b 0 n c sz false) m xs = shared g b (n + m) sz Lc (c * sz) (L ++ xs) →
                ∃ e : Ev, appendTo h sz bytes (.slice b 0 n c sz false) m xs = .ok e.v e.h ∧ Sep (os.set i (OwnO sz e.v (n + m) (L ++ xs))) e.h := by
              intro g hgn hgo e
              refine ⟨⟨.slice g.next 0 (n + m) (n + m) sz false, .lf, hset (hpush g (.cells (L ++ xs) ((n + m) * sz) (.pair b))) b (.cells Lc (c * sz) (.pair g.next))⟩, e, ?_⟩
              refine go _ _ (fun k => G k ∨ k = h.next) (by show h.next ≤ (hset (hpush g _) b _).next; rw [hset_next, hpush_next, hgn]; omega) ?_ (fun k hk => hk.imp id fun hk => ⟨by omega, by show k < (hset (hpush g _) b _).next; rw [hset_next, hpush_next, hgn]; omega⟩) fun k hk hn => ?_
              · refine .sl (.inr hgn) (w := .pair b) ?_ hlen2 (Nat.le_refl _) (List.take_of_length_le (by omega)) (.inr ⟨b, rfl, .inl hG, by omega⟩)
                show hget (hset (hpush g _) b _) g.next = _
                rw [hget_hset_ne _ _ (by omega), hget_hpush]
              · show hget (hset (hpush g _) b _) k = _
                rw [hget_hset_ne _ _ (fun (e : k = b) => hn (e ▸ hG)), hget_hpush_ne _ _ (by omega), hgo k hk hn]
            rcases hw with hw | ⟨p, hw, hp1, hp2⟩
            · subst hw; exact fin h rfl (fun _ _ _ => rfl) key
            · subst hw
              have key : appendTo h sz bytes (.slice b 0 n c sz false) m xs = bc (Nat.beq p b) .no (shared (hset h p .dead) b (n + m) sz Lc (c * sz) (L ++ xs)) := key
              rw [beqF hp2] at key
              exact fin (hset h p .dead) rfl (fun k hk hn => hget_hset_ne h _ fun (e : k = p) => hn (e ▸ hp1)) key
          · rw [beqF heq] at key
            rcases hw with hw | ⟨p, hw, hp1, hp2⟩
            · subst hw
              exact fresh (hset h b .dead) _ rfl (fun k hk hn => hget_hset_ne h _ fun (e : k = b) => hn (e ▸ hG)) rfl key
            · subst hw
              exact fresh (hset (hset h p .dead) b .dead) _ rfl (fun k hk hn => by rw [hget_hset_ne _ _ (fun (e : k = b) => hn (e ▸ hG)), hget_hset_ne _ _ (fun (e : k = p) => hn (e ▸ hp1))]) rfl key
end Eng
end
section
set_option linter.unusedVariables false
namespace Eng
open Go
def lastB (x left : Nat) (sg : Bool) : Bool :=
  if x &&& 128 ≠ 0 then false else if sg = false then decide (x / 2 ^ left = 0) else if x / 2 ^ (left - 1) = 0 then true else decide (x / 2 ^ (left - 1) = 127 / 2 ^ (left - 1))
def readG (size : Nat) (sg : Bool) : List Nat → Nat → Nat → Nat → Nat × Nat × Nat
  | [], _, _, _ => (0, 0, 3)
  | x :: l, a, n, v =>
    if size - a ≤ 7 ∧ lastB x (size - a) sg = false then (0, 0, 2)
    else if x &&& 128 ≠ 0 then readG size sg l (a + 7) (n + 1) (v ||| ((x &&& 127) * 2 ^ a % 18446744073709551616))
    else if sg = true ∧ x &&& 64 ≠ 0 ∧ a + 7 < 64 then (v ||| ((x &&& 127) * 2 ^ a % 18446744073709551616) ||| (18446744073709551615 * 2 ^ (a + 7) % 18446744073709551616), n + 1, 0)
    else (v ||| ((x &&& 127) * 2 ^ a % 18446744073709551616), n + 1, 0)
theorem lastB_small {x left : Nat} {sg : Bool} (h : lastB x left sg = true) : x &&& 128 = 0 := by
  unfold lastB at h
  by_cases hx : x &&& 128 = 0
  · exact hx
  · rw [if_pos hx] at h; cases h
theorem drop_cons {l : List Nat} {k : Nat} (h : k < l.length) : l.drop k = l.getD k 0 :: l.drop (k + 1) := by
  rw [List.drop_eq_getElem_cons h, List.getD_eq_getElem?_getD, List.getElem?_eq_getElem h]; rfl
theorem getD_lt {l : List Nat} (hb : ∀ x ∈ l, x < 256) (k : Nat) : l.getD k 0 < 256 := by
  by_cases h : k < l.length
  · rw [List.getD_eq_getElem?_getD, List.getElem?_eq_getElem h]; exact hb _ (List.getElem_mem _)
  · rw [List.getD_eq_getElem?_getD, List.getElem?_eq_none (by omega)]; decide
theorem or64 {a b : Nat} (ha : a < 18446744073709551616) (hb : b < 18446744073709551616) : a ||| b < 18446744073709551616 := Nat.or_lt_two_pow (n := 64) ha hb
end Eng
namespace Eng
theorem eqI_nat (a b : Nat) : eqI (Int.ofNat a) (Int.ofNat b) = decide (a = b) := by
  rw [eqI_eq, Bool.eq_iff_iff]
  simp only [beq_iff_eq, decide_eq_true_eq]
  exact ⟨fun h => Int.ofNat.inj h, fun h => by rw [h]⟩
end Eng
namespace Eng
open Go
def lebU (v : Nat) : List Nat := if h : v < 128 then [v] else (v % 256 ||| 128) :: lebU (v / 128)
termination_by v
decreasing_by omega
theorem lebU_lo {v : Nat} (h : v < 128) : lebU v = [v] := by rw [lebU, dif_pos h]
theorem lebU_hi {v : Nat} (h : 128 ≤ v) : lebU v = (v % 256 ||| 128) :: lebU (v / 128) := by rw [lebU, dif_neg (by omega)]
theorem lebU_lt : ∀ (n v : Nat), v < 128 ^ n → ∀ x ∈ lebU v, x < 256
  | 0, v, h => by
    have : v = 0 := by simpa using h
    subst this
    rw [lebU_lo (by decide)]; simp
  | n + 1, v, h => by
    by_cases hv : v < 128
    · rw [lebU_lo hv]
      intro x hx
      rw [List.mem_singleton] at hx; omega
    · rw [lebU_hi (by omega)]
      intro x hx
      rcases List.mem_cons.1 hx with rfl | hx
      · exact Nat.or_lt_two_pow (n := 8) (Nat.mod_lt _ (by decide)) (by decide)
      · exact lebU_lt n (v / 128) (by rw [Nat.pow_succ] at h; omega) x hx
theorem lebU_len : ∀ (n v : Nat), v < 128 ^ (n + 1) → (lebU v).length ≤ n + 1
  | 0, v, h => by rw [lebU_lo (by omega)]; simp
  | n + 1, v, h => by
    by_cases hv : v < 128
    · rw [lebU_lo hv]; simp
    · rw [lebU_hi (by omega), List.length_cons]
      have := lebU_len n (v / 128) (by rw [Nat.pow_succ] at h; omega)
      omega
theorem u8s_append (l m : List Nat) : u8s l ++ u8s m = u8s (l ++ m) := by rw [u8s_eq, u8s_eq, u8s_eq, List.map_append]
theorem u8s_one (x : Nat) : [AV.int .u8 (.ofNat x)] = u8s [x] := rfl
end Eng
namespace Eng
open Go
def lebH (v : Nat) : List Nat := if h : v < 128 then [] else (v % 256 ||| 128) :: lebH (v / 128)
termination_by v
decreasing_by omega
def lebL (v : Nat) : Nat := if h : v < 128 then v else lebL (v / 128)
termination_by v
decreasing_by omega
theorem lebH_lo {v : Nat} (h : v < 128) : lebH v = [] := by rw [lebH, dif_pos h]
theorem lebH_hi {v : Nat} (h : 128 ≤ v) : lebH v = (v % 256 ||| 128) :: lebH (v / 128) := by rw [lebH, dif_neg (by omega)]
theorem lebL_lo {v : Nat} (h : v < 128) : lebL v = v := by rw [lebL, dif_pos h]
theorem lebL_hi {v : Nat} (h : 128 ≤ v) : lebL v = lebL (v / 128) := by rw [lebL, dif_neg (by omega)]
theorem lebU_eq (v : Nat) : lebU v = lebH v ++ [lebL v] := by
  induction v using Nat.strongRecOn with
  | ind v ih =>
    by_cases h : v < 128
    · rw [lebU_lo h, lebH_lo h, lebL_lo h]; rfl
    · rw [lebU_hi (by omega), lebH_hi (by omega), lebL_hi (by omega), ih (v / 128) (by omega)]; rfl
theorem lebL_lt (v : Nat) : lebL v < 128 := by
  induction v using Nat.strongRecOn with
  | ind v ih =>
    by_cases h : v < 128
    · rw [lebL_lo h]; exact h
    · rw [lebL_hi (by omega)]; exact ih _ (by omega)
theorem lebH_len : ∀ (n v : Nat), v < 128 ^ (n + 1) → (lebH v).length ≤ n := fun n v h => by
  have := lebU_len n v h
  rw [lebU_eq, List.length_append] at this
  simp at this; omega
def sIn (w : Int) : Prop := -64 ≤ w ∧ w < 64
instance (w : Int) : Decidable (sIn w) := inferInstanceAs (Decidable (_ ∧ _))
def sebH (w : Int) : List Nat := if h : sIn w then [] else ((w % 256).toNat ||| 128) :: sebH (w / 128)
termination_by w.natAbs
decreasing_by unfold sIn at h; omega
def sebL (w : Int) : Int := if h : sIn w then w else sebL (w / 128)
termination_by w.natAbs
decreasing_by unfold sIn at h; omega
def lebS (w : Int) : List Nat := sebH w ++ [(sebL w % 256).toNat &&& 127]
theorem ltI_T {a b : Int} (h : ltI a b = true) : a < b := by rw [ltI_eq] at h; simpa using h
theorem ltI_F {a b : Int} (h : ltI a b = false) : b ≤ a := by rw [ltI_eq] at h; simpa using h
end Eng
namespace Eng
open Go
def LastS (call : CallT) (f : Nat) : Prop := ∀ (x left : Nat) (s : Bool) (h : Hp), x < 256 → 1 ≤ left → left ≤ 64 → call f [.int .u8 (.ofNat x), .int .i64 (.ofNat left), .bool s] h = .ok (.bool (lastB x left s)) h
def numT (k : IntKind) (r : Nat × Nat × Nat) : AV := .tuple [.int k (.ofNat r.1), .int .i64 (.ofNat r.2.1), .int .i64 (.ofNat r.2.2)]
def ReadS (call : CallT) (f : Nat) (g : Nat → Bool → List Nat → Nat × Nat × Nat) : Prop := ∀ (B : Nat) (h : Hp) (vb : AV) (l : List Nat) (size : Nat) (sg : Bool), Bytes B h vb l → l.length < 90000 → size = 32 ∨ size = 33 ∨ size = 64 →
  call f [vb, .int .i64 (.ofNat size), .bool sg] h = .ok (numT .u64 (g size sg l)) h
def CloneS (call : CallT) (f : Nat) : Prop := ∀ {B : Nat} {h : Hp} {vb : AV} {l : List Nat}, B ≤ h.next → l.length ≤ 1099511627776 → Bytes B h vb l → ∃ v h', call f [vb] h = .ok v h' ∧ Owned 1 B h' v l.length (u8s l) ∧ Old B h h' ∧ B ≤ h'.next
def JoinS (call : CallT) (f : Nat) : Prop := ∀ {B : Nat} {h : Hp} {vb vl : AV} {l m : List Nat}, B ≤ h.next → Bytes B h vb l → Bytes B h vl m → l.length ≤ 1099511627776 → m.length ≤ 1099511627776 →
  ∃ v h', call f [vb, vl] h = .ok v h' ∧ Owned 1 B h' v (l.length + m.length) (u8s (l ++ m)) ∧ Old B h h' ∧ B ≤ h'.next
def PutUS (call : CallT) (f : Nat) : Prop := ∀ {B : Nat} {h : Hp} {vb : AV} {l : List Nat} {v : Nat}, B ≤ h.next → Bytes B h vb l → l.length ≤ 1099511627776 → v < 18446744073709551616 →
  ∃ rv rh, call f [vb, .int .u64 (.ofNat v)] h = .ok rv rh ∧ Owned 1 B rh rv (l.length + (lebU v).length) (u8s (l ++ lebU v)) ∧ Old B h rh ∧ B ≤ rh.next
def PutSS (call : CallT) (f : Nat) : Prop := ∀ {B : Nat} {h : Hp} {vb : AV} {l : List Nat} {v : Int}, B ≤ h.next → Bytes B h vb l → l.length ≤ 1099511627776 → (-9223372036854775808 ≤ v ∧ v < 9223372036854775808) →
  ∃ rv rh, call f [vb, .int .i64 v] h = .ok rv rh ∧ Owned 1 B rh rv (l.length + (lebS v).length) (u8s (l ++ lebS v)) ∧ Old B h rh ∧ B ≤ rh.next
def TrueS (call : CallT) (f : Nat) : Prop := ∀ h : Hp, call f [] h = .ok (.bool true) h
theorem again_of {o : QOp} {h : Hp} {v : AV} (e : evQ o .lf h = .ok v) (r : avEq v v = true) : again o .lf v h = true := by
  show (evQ o .lf h).cs false (fun v' => avEq v v') = true
  rw [e]; exact r
theorem avEq_int (k : IntKind) (n : Int) : avEq (.int k n) (.int k n) = true := by
  show bc (ikEq k k) (eqI n n) false = true
  rw [ikEq_self, eqI_eq]; simp [bc]
theorem avEq_bool (b : Bool) : avEq (.bool b) (.bool b) = true := by cases b <;> rfl
theorem beq_self (n : Nat) : Nat.beq n n = true := Nat.beq_refl n
theorem avEq_slice (b o l c s : Nat) (e : Bool) : avEq (.slice b o l c s e) (.slice b o l c s e) = true := by
  show bc (Nat.beq b b) (bc (Nat.beq o o) (bc (Nat.beq l l) (bc (Nat.beq c c) (bc (Nat.beq s s) (bc e e (notB e)) false) false) false) false) false = true
  simp only [beq_self, bc_eq, if_true]
  cases e <;> rfl
theorem avEq_ptr (b o : Nat) : avEq (.ptr b o) (.ptr b o) = true := by
  show bc (Nat.beq b b) (Nat.beq o o) false = true
  simp only [beq_self, bc_eq, if_true]
theorem Owned.same {sz B n : Nat} {h : Hp} {v : AV} {L : List AV} (o : Owned sz B h v n L) : avEq v v = true := by
  cases o with
  | nil => rfl
  | sl => exact avEq_slice ..
theorem Bytes.same {B : Nat} {h : Hp} {v : AV} {l : List Nat} (o : Bytes B h v l) : avEq v v = true := by
  cases o with
  | nil => rfl
  | sl => exact avEq_slice ..
theorem evF_at {M : Nat → Option (List AV → Hp → RV)} {S : Nat → Option AF} {N d f : Nat} (hM : M f = none) (args : List AV) (h : Hp) : evF M S N (d + 1) f args h = evF1 S N (evF M S N d) f args h := by
  show ocase (evF1 S N (evF M S N d) f args h) (fun m => m args h) (M f) = _
  rw [hM]; rfl
theorem evF_sum {S : Nat → Option AF} {N d : Nat} {l : List Nat} {f : Nat} (hf : f ∈ l) : TrueS (evF (sumT l) S N (d + 1)) f := fun h => by
  show ocase (evF1 S N (evF (sumT l) S N d) f [] h) (fun m => m [] h) (bc (lall (fun g => notB (Nat.beq g f)) l) none (some fun args h => lcase (RV.ok (.bool true) h) (fun _ _ => RV.no) args)) = _
  have hb : lall (fun g => notB (Nat.beq g f)) l = false := by
    cases hh : lall (fun g => notB (Nat.beq g f)) l with
    | false => rfl
    | true =>
      have := lall_iff.1 hh f hf
      rw [Nat.beq_refl] at this; cases this
  rw [hb]; rfl
theorem sumT_none {l : List Nat} {f : Nat} (hf : lall (fun g => notB (Nat.beq g f)) l = true) : sumT l f = none := by unfold sumT; rw [hf]; rfl
end Eng
namespace Eng
end Eng
namespace Eng
open Go
set_option maxRecDepth 100000 in
theorem bits8 : ∀ x < 256, (x &&& 128 = 0 ↔ x < 128) ∧ (x < 128 → x &&& 127 = x) := by decide +kernel
theorem lastB_u {x left : Nat} (hx : x < 256) : lastB x left false = decide (x < 128 ∧ (x &&& 127) / 2 ^ left = 0) := by
  obtain ⟨h1, h2⟩ := bits8 x hx
  unfold lastB
  by_cases h : x < 128
  · rw [if_neg (by rw [h1.2 h]; simp), if_pos rfl, h2 h, Bool.eq_iff_iff]
    simp only [decide_eq_true_eq]
    exact ⟨fun e => ⟨h, e⟩, fun e => e.2⟩
  · rw [if_pos (fun e => h (h1.1 e)), decide_eq_false (fun e => h e.1)]
theorem readG_u {size i v x : Nat} {l : List Nat} (hx : x < 256) (h7 : 7 * i < size) : readG size false (x :: l) (7 * i) i v =
    if size - 7 * i ≤ 7 ∧ (128 ≤ x ∨ (x &&& 127) / 2 ^ (size - 7 * i) ≠ 0) then (0, 0, 2)
    else if x < 128 then (v ||| ((x &&& 127) * 2 ^ (7 * i) % 18446744073709551616), i + 1, 0)
    else readG size false l (7 * (i + 1)) (i + 1) (v ||| ((x &&& 127) * 2 ^ (7 * i) % 18446744073709551616)) := by
  obtain ⟨h1, h2⟩ := bits8 x hx
  rw [readG, lastB_u hx]
  by_cases hc : size - 7 * i ≤ 7 ∧ (128 ≤ x ∨ (x &&& 127) / 2 ^ (size - 7 * i) ≠ 0)
  · rw [if_pos hc, if_pos ⟨hc.1, decide_eq_false (fun e => by rcases hc.2 with h | h; omega; exact h e.2)⟩]
  · rw [if_neg hc, if_neg (fun e => hc ⟨e.1, Classical.byContradiction fun hn => absurd e.2 (by rw [decide_eq_true (by constructor; omega; exact Classical.byContradiction fun h => hn (.inr h))]; decide)⟩)]
    by_cases h : x < 128
    · rw [if_neg (by rw [h1.2 h]; simp), if_neg (by rintro ⟨e, _⟩; cases e), if_pos h]
    · rw [if_pos (fun e => h (h1.1 e)), if_neg h, Nat.mul_add]
end Eng
namespace Eng
open Go
noncomputable def sInt (k : IntKind) (n : Nat) : Int := wrapA k (.ofNat n)
def NumS (call : CallT) (f : Nat) (size : Nat) (sg : Bool) (k : IntKind) (v : Nat → Int) : Prop := ∀ {B : Nat} {h : Hp} {vb : AV} {l : List Nat}, Bytes B h vb l → l.length < 90000 →
  call f [vb] h = .ok (.tuple [.int k (v (readG size sg l 0 0 0).1), .int .i64 (.ofNat (readG size sg l 0 0 0).2.1), .int .i64 (.ofNat (readG size sg l 0 0 0).2.2)]) h
theorem lebU_all {v : Nat} (hv : v < 18446744073709551616) : ∀ x ∈ lebU v, x < 256 := lebU_lt 10 v (by omega)
theorem put_lt {l m : List Nat} (hl : ∀ x ∈ l, x < 256) (hm : ∀ x ∈ m, x < 256) : ∀ x ∈ l ++ m, x < 256 := fun x hx => by
  rcases List.mem_append.1 hx with h | h
  · exact hl x h
  · exact hm x h
theorem lebU_len' {v : Nat} (hv : v < 18446744073709551616) : (lebU v).length ≤ 10 := lebU_len 9 v (by omega)
end Eng
end
section
set_option linter.unusedVariables false
set_option linter.unusedSimpArgs false
namespace Eng
open Go Go.RowKit
theorem u_sub {k : IntKind} (hk : uns k = true) {a b : Nat} (h : b ≤ a) (ha : a < modK k) : evQ (.bin .sub (.const (.int k (.ofNat a))) (.const (.int k (.ofNat b)))) .lf H0 = .ok (.int k (.ofNat (a - b))) := by
  show bc (ikEq k k) (okI k (Int.sub (.ofNat a) (.ofNat b))) .no = _
  rw [ikEq_self, sub_nat h]; show OV.ok (.int k (wrapA k (.ofNat (a - b)))) = _
  rw [wrap_u hk, Nat.mod_eq_of_lt (by omega)]
theorem BIn.cell {G : Nat → Prop} {h : Hp} {v : AV} {l : List Nat} (P : BIn G h v l) : isCell v = true := by
  obtain ⟨⟨B, P⟩, _⟩ := P; cases P <;> rfl
theorem BIn.cells {G : Nat → Prop} {h : Hp} {v : AV} {l : List Nat} (P : BIn G h v l) : cellsOf v = [v] := by
  obtain ⟨⟨B, P⟩, _⟩ := P; cases P <;> rfl
theorem BIn.same {G : Nat → Prop} {h : Hp} {v : AV} {l : List Nat} (P : BIn G h v l) : avEq v v = true := by
  obtain ⟨⟨B, P⟩, _⟩ := P; exact P.same
theorem own_cell {os : List AObj} {h : Hp} (S : Sep os h) {i sz n : Nat} {v : AV} {L : List AV} (hi : os[i]? = some (OwnO sz v n L)) : isCell v = true := by
  obtain ⟨G, o⟩ := own_get S hi; cases o <;> rfl
theorem own_same {os : List AObj} {h : Hp} (S : Sep os h) {i sz n : Nat} {v : AV} {L : List AV} (hi : os[i]? = some (OwnO sz v n L)) : avEq v v = true := by
  obtain ⟨G, o⟩ := own_get S hi
  cases o with
  | nil => rfl
  | sl => exact avEq_slice ..
theorem own_bytes {os : List AObj} {h : Hp} (S : Sep os h) {i n : Nat} {v : AV} {l : List Nat} (hi : os[i]? = some (OwnO 1 v n (u8s l))) (hb : ∀ x ∈ l, x < 256) : Bytes h.next h v l := by
  obtain ⟨G, o, hG, _⟩ := S.at hi
  obtain ⟨⟨B, P⟩, hk⟩ := OwnI.bytes o hb
  cases P with
  | nil => exact .nil
  | sl hB hg hcl hl hm hc hb => exact .sl (hG _ (hk _ rfl)) hg hcl hl hm hc hb
theorem fill_cons {v : AV} {xs : List AV} {o k n : Nat} {ps : List (Nat × Nat × AX)} {t : T} {z : List AV} (hv : cellsOf v = xs) (hk : xs.length = k) (hn : o + k ≤ n) : fillParts ((o, k, .const v) :: ps) t n z = fillParts ps t n (over xs z o) := by
  subst hk
  show bc (Nat.beq (len (cellsOf v)) xs.length) (bc (Nat.ble (o + xs.length) n) (fillParts ps t n (over (cellsOf v) z o)) none) none = _
  rw [hv, len_eq, Nat.beq_refl, ble_dec, decide_eq_true hn]; rfl
theorem build_told {z cs : List AV} {ps : List (Nat × Nat × AX)} {h : Hp} (e : fillParts ps .lf (len z) z = some cs) : evQ (.build z ps) .lf h = .ok (.agg cs) := by
  show ocase OV.no (fun cs => .ok (.agg cs)) (fillParts ps .lf (len z) z) = _
  rw [e]; rfl
theorem avEq_agg1 {v : AV} {l : List AV} (h1 : avEq v v = true) (h2 : avEq (.agg l) (.agg l) = true) : avEq (.agg (v :: l)) (.agg (v :: l)) = true := by
  show bc (avEq v v) (avEq (.agg l) (.agg l)) false = true
  rw [h1]; exact h2
theorem all_cell {x : AV} {l : List AV} (h1 : isCell x = true) (h2 : ∀ y ∈ l, isCell y = true) : ∀ y ∈ x :: l, isCell y = true := fun y hy => by
  rcases List.mem_cons.1 hy with e | e
  · rw [e]; exact h1
  · exact h2 y e
theorem all_cell0 : ∀ y ∈ ([] : List AV), isCell y = true := fun y hy => by cases hy
theorem box_told {v : AV} {xs : List AV} {n : Nat} (hv : cellsOf v = xs) (hn : xs.length = n) (hx : ∀ x ∈ xs, isCell x = true) : evL (.box (.const v)) .lf = .ok .ptr (mkCells xs n) := by
  subst hn
  show bc (lall isCell (cellsOf v)) (OL.ok .ptr (mkCells (cellsOf v) (len (cellsOf v)))) .no = _
  rw [hv, lall_iff.2 hx, len_eq]; rfl
theorem evRs_cellA {β : Type} {a n : Nat} {rs : List ARes} {t : T} {h : Hp} {z : β} {k : List AV → β} {b : Nat} {cs : List AV} {w : Own} (ha : evX (.tmp a) t = .ptr b 0) (hg : hget h b = some (.cells cs cs.length w)) (hn : cs.length = n) :
    evRs (.cellA a n :: rs) t h z k = evRs rs t h z fun vs => k (.agg cs :: vs) := by
  subst hn
  show (evX (.tmp a) t).asPtr z (fun b o => rdN h b o cs.length z fun l => evRs rs t h z fun vs => k (.agg l :: vs)) = _
  rw [ha]
  show rdN h b 0 cs.length z (fun l => evRs rs t h z fun vs => k (AV.agg l :: vs)) = _
  rw [rdN_of hg (by omega) rfl, List.drop_zero, List.take_of_length_le (Nat.le_refl _)]
theorem evRs_tmp {β : Type} {a : Nat} {rs : List ARes} {t : T} {h : Hp} {z : β} {k : List AV → β} {x : AV} (ha : evX (.tmp a) t = x) : evRs (.tmp a :: rs) t h z k = evRs rs t h z fun vs => k (x :: vs) := by
  subst ha; rfl
theorem res_ok {rs : List ARes} {t : T} {h : Hp} {v : AV} {K : AV → Hp → Prop} (e : results rs t h = .ok v h) (k : K v h) : RV.cs (results rs t h) False (fun v h => K v h) := by rw [e]; exact k
theorem own_L {os : List AObj} {h : Hp} (S : Sep os h) {i sz n : Nat} {v : AV} {L : List AV} (hi : os[i]? = some (OwnO sz v n L)) : L.length = n * sz := by
  obtain ⟨G, o⟩ := own_get S hi; exact o.len
theorem u8s_cells (l : List Nat) : ∀ x ∈ u8s l, isCell x = true := fun x hx => by
  rw [u8s_eq] at hx
  obtain ⟨y, _, rfl⟩ := List.mem_map.1 hx; rfl
theorem cons_lt {y : Nat} {l : List Nat} (h : y < 256) (hl : ∀ x ∈ l, x < 256) : ∀ x ∈ y :: l, x < 256 := fun x hx => by
  rcases List.mem_cons.1 hx with e | e
  · omega
  · exact hl x e
theorem elemP_same (v : AV) (k sz : Nat) : avEq (elemP v k sz) (elemP v k sz) = true := by
  cases v <;> first | rfl | exact avEq_ptr _ _
def avN (i : Nat) : AV → AV
  | .tuple l => l.getD i .nilPtr
  | v => v
end Eng
end
section
set_option linter.unusedVariables false
set_option linter.unusedSimpArgs false
namespace Eng
open Go Go.RowKit Go.ChangeShapes Go.WideShapes
section
variable {H : Type} {enc : TypeId × Value → H} {P : Program} {W : World}
theorem trod_struct {t : TypeId} {fs : Array Field} {v : Value} {d : DataW H} {p : List MemPlace} {base : Nat} {sp : Nat → Bool} {held : Bool} (ht : P.underlying t = some (.struct fs))
    (h0 : DataW.Trod enc P W base sp held t v d p) : ∃ fuel xs, (fs.toList.mapM fun f => DataW.trod enc P W base sp held fuel f.type ((v.cells.toList.drop f.offset).take (P.cellsOf f.type))) = some xs ∧ d = .agg (xs.map (·.1)) ∧ p = xs.flatMap (·.2) ∧ v.cells.toList.length = P.cellsOf t := by
  obtain ⟨fuel, hf⟩ := h0
  cases fuel with
  | zero => cases hf
  | succ fuel =>
    unfold DataW.trod at hf
    rw [ht] at hf
    simp only at hf
    split at hf
    · rename_i hl
      cases hm : (fs.toList.mapM fun f => DataW.trod enc P W base sp held fuel f.type ((v.cells.toList.drop f.offset).take (P.cellsOf f.type))) with
      | none => rw [hm] at hf; cases hf
      | some xs =>
        rw [hm] at hf
        cases hf
        exact ⟨fuel, xs, hm, rfl, rfl, hl⟩
    · cases hf
theorem bytes_argW {t e : TypeId} {v : Value} {d : DataW H} {p : List MemPlace} {base : Nat} (ht : P.underlying t = some (.slice e)) (he : P.underlying e = some (.int .u8)) (hc : P.cellsOf e = 1) (hb : P.bytesOf e = 1)
    (hw : ∀ n ∈ d.weights P t, n ≤ reachBytes) (h0 : DataW.Trod enc P W 0 (fun _ => true) true t v d p) (hv : Value.okWide P W .any base t v) : ∃ a : BArg, a.v = v ∧ a.lies W ∧ a.l.length ≤ 140737488351232 := by
  obtain ⟨a, h1, h2, h3, h4⟩ := bytes_arg ht he hc h0 hv
  refine ⟨a, h1, h2, ?_⟩
  rcases h4 with h4 | ⟨es, sp, rfl, h4⟩
  · rw [h4]; exact Nat.zero_le _
  · have := hw ((es.length + sp.length) * P.bytesOf e) (by simp [DataW.weights, ht])
    rw [hb] at this
    have h5 : reachBytes = 140737488351232 := rfl
    omega
theorem pair_arg {t a e : TypeId} {f1 f2 : Field} {v : Value} {d : DataW H} {p : List MemPlace} {base : Nat} (ht : P.underlying t = some (.struct #[f1, f2])) (hts : P.cellTypes P.depth t = some [a, a]) (h1 : f1.type = a) (h2 : f2.type = a) (o1 : f1.offset = 0) (o2 : f2.offset = 1) (hct : P.cellsOf t = 2) (hca : P.cellsOf a = 1)
    (hta : P.underlying a = some (.slice e)) (he : P.underlying e = some (.int .u8)) (hc : P.cellsOf e = 1) (hbs : P.bytesOf e = 1) (hw : ∀ n ∈ d.weights P t, n ≤ reachBytes)
    (h0 : DataW.Trod enc P W 0 (fun _ => true) true t v d p) (hv : Value.okWide P W .any base t v) :
    ∃ x y : BArg, v = .agg #[x.v, y.v] ∧ x.lies W ∧ y.lies W ∧ x.l.length ≤ 140737488351232 ∧ y.l.length ≤ 140737488351232 := by
  obtain ⟨fuel, xs, hm, hd, _, hl⟩ := trod_struct ht h0
  unfold Value.okWide at hv
  rw [ht] at hv
  obtain ⟨cs, rfl, hs, ts, hts', _, hcell⟩ := hv
  rw [hts] at hts'
  cases hts'
  rw [hct] at hs
  obtain ⟨x, y, rfl⟩ : ∃ x y, cs = #[x, y] := by
    obtain ⟨l⟩ := cs
    match l, hs with
    | [x, y], _ => exact ⟨x, y, rfl⟩
  have kx : Value.okWide P W .any base a x := by
    obtain ⟨u, hu, hk⟩ := hcell 0 x rfl
    cases hu
    unfold Value.okWide; rw [hta]; exact hk
  have ky : Value.okWide P W .any base a y := by
    obtain ⟨u, hu, hk⟩ := hcell 1 y rfl
    cases hu
    unfold Value.okWide; rw [hta]; exact hk
  have hm : ([f1, f2].mapM fun f => DataW.trod enc P W 0 (fun _ => true) true fuel f.type (([x, y].drop f.offset).take (P.cellsOf f.type))) = some xs := hm
  simp only [List.mapM_cons, List.mapM_nil, h1, h2, o1, o2, hca] at hm
  have hx : [x].take 1 = [x] := rfl
  simp only [List.drop_zero, List.drop_succ_cons, List.take_succ_cons, List.take_zero] at hm
  cases hm1 : DataW.trod enc P W 0 (fun _ => true) true fuel a [x] with
  | none => rw [hm1] at hm; cases hm
  | some r1 =>
    rw [hm1] at hm
    cases hm2 : DataW.trod enc P W 0 (fun _ => true) true fuel a [y] with
    | none => rw [hm2] at hm; cases hm
    | some r2 =>
      obtain ⟨ax, lx, cx, ex⟩ := okWide_slice hta kx
      obtain ⟨ay, ly, cy, ey⟩ := okWide_slice hta ky
      have tx : DataW.Trod enc P W 0 (fun _ => true) true a x r1.1 r1.2 := ⟨fuel, by subst ex; exact hm1⟩
      have ty : DataW.Trod enc P W 0 (fun _ => true) true a y r2.1 r2.2 := ⟨fuel, by subst ey; exact hm2⟩
      rw [hm2] at hm
      cases hm
      subst hd
      have hws : ∀ n ∈ DataW.weightsEach P [a, a] [r1.1, r2.1], n ≤ reachBytes := fun n hn => hw n (by
        simp only [DataW.weights, ht]
        simpa [h1, h2] using hn)
      obtain ⟨b1, e1, l1, n1⟩ := bytes_argW hta he hc hbs (fun n hn => hws n (by simp only [DataW.weightsEach]; simp [hn])) tx kx
      obtain ⟨b2, e2, l2, n2⟩ := bytes_argW hta he hc hbs (fun n hn => hws n (by simp only [DataW.weightsEach]; simp [hn])) ty ky
      exact ⟨b1, b2, by rw [e1, e2], l1, l2, n1, n2⟩
theorem lim_arg {t a c : TypeId} {fs : Array Field} {v : Value} {base : Nat} (ht : P.underlying t = some (.struct fs)) (hts : P.cellTypes P.depth t = some [a, a, c]) (hct : P.cellsOf t = 3)
    (hta : P.underlying a = some (.int .u32)) (htc : P.underlying c = some .bool)
    (hv : Value.okWide P W .any base t v) : ∃ (n m : Nat) (b : Bool), v = .agg #[.int .u32 (.ofNat n), .int .u32 (.ofNat m), .bool b] ∧ n < 4294967296 ∧ m < 4294967296 := by
  unfold Value.okWide at hv
  rw [ht] at hv
  obtain ⟨cs, rfl, hs, ts, hts', _, hcell⟩ := hv
  rw [hts] at hts'
  cases hts'
  rw [hct] at hs
  obtain ⟨x, y, z, rfl⟩ : ∃ x y z, cs = #[x, y, z] := by
    obtain ⟨l⟩ := cs
    match l, hs with
    | [x, y, z], _ => exact ⟨x, y, z, rfl⟩
  have ki : ∀ (w : Value), Cell.okWide P W .any base a w → ∃ n : Nat, w = .int .u32 (.ofNat n) ∧ n < 4294967296 := fun w hk => by
    have : ∃ n, w = .int .u32 n ∧ IntKind.u32.has n := by
      unfold Cell.okWide Cell.ok at hk
      rw [hta] at hk
      cases w <;> simp_all
    obtain ⟨n, rfl, hn⟩ := this
    have h1 : IntKind.u32.min = 0 := rfl
    have h2 : IntKind.u32.max = 4294967295 := rfl
    unfold IntKind.has at hn
    exact ⟨n.toNat, by simp; omega, by omega⟩
  obtain ⟨u1, hu1, k1⟩ := hcell 0 x rfl
  obtain ⟨u2, hu2, k2⟩ := hcell 1 y rfl
  obtain ⟨u3, hu3, k3⟩ := hcell 2 z rfl
  cases hu1; cases hu2; cases hu3
  obtain ⟨n, rfl, hn⟩ := ki x k1
  obtain ⟨m, rfl, hm⟩ := ki y k2
  obtain ⟨b, rfl⟩ : ∃ b, z = .bool b := by
    have : Value.okWide P W .any base c z := by unfold Value.okWide; rw [htc]; exact k3
    exact okWide_bool htc this
  exact ⟨n, m, b, rfl, hn, hm⟩
end
theorem VR_pair {μ : Mp} {a b : AV} {x y : Value} (h1 : VR μ a x) (h2 : VR μ b y) : VR μ (.agg [a, b]) (.agg #[x, y]) := by
  rw [VR_agg]
  refine ⟨_, rfl, ?_⟩
  show VRs μ [a, b] [x, y]
  rw [VRs_cons]
  exact ⟨_, _, rfl, h1, .cell h2⟩
theorem VR_lim {μ : Mp} {n m : Nat} {b : Bool} : VR μ (.agg [.int .u32 (.ofNat n), .int .u32 (.ofNat m), .bool b]) (.agg #[.int .u32 (.ofNat n), .int .u32 (.ofNat m), .bool b]) := by
  rw [VR_agg]
  refine ⟨_, rfl, ?_⟩
  show VRs μ [_, _, _] [_, _, _]
  rw [VRs_cons]
  refine ⟨_, _, rfl, by rw [VR_int], ?_⟩
  rw [VRs_cons]
  exact ⟨_, _, rfl, by rw [VR_int], .cell (by rw [VR_bool])⟩
end Eng
end
section
set_option linter.unusedVariables false
set_option linter.unusedSimpArgs false
namespace Eng
open Go
def digU : Nat → Nat → List Nat
  | 0, v => [v % 128]
  | n + 1, v => (v % 128 ||| 128) :: digU n (v / 128)
def digS : Nat → Int → List Nat
  | 0, w => [(w % 128).toNat]
  | n + 1, w => ((w % 128).toNat ||| 128) :: digS n (w / 128)
theorem hi8 : ∀ d < 128, (d ||| 128) &&& 127 = d ∧ 128 ≤ (d ||| 128) ∧ (d ||| 128) < 256 ∧ d &&& 127 = d ∧ (d &&& 64 ≠ 0 ↔ 64 ≤ d) := by decide +kernel
theorem or_add {a b k : Nat} (h : a < 2 ^ k) : a ||| (b * 2 ^ k) = a + b * 2 ^ k := by
  rw [Nat.or_comm, Nat.mul_comm b, ← Nat.two_pow_add_eq_or_of_lt h, Nat.add_comm]
theorem acc_step {a d k : Nat} (h : a < 2 ^ k) (hd : a + d * 2 ^ k < 18446744073709551616) : a ||| (d * 2 ^ k % 18446744073709551616) = a + d * 2 ^ k := by
  rw [Nat.mod_eq_of_lt (by omega), or_add h]
theorem pow7 (i : Nat) : 2 ^ (7 * (i + 1)) = 128 * 2 ^ (7 * i) := by
  rw [show 7 * (i + 1) = 7 + 7 * i by omega, Nat.pow_add]
theorem readG_digU {size : Nat} (hs : size ≤ 64) {more : List Nat} : ∀ (n u i acc : Nat), u < 128 ^ (n + 1) → acc < 2 ^ (7 * i) → 7 * i < size →
    readG size false (digU n u ++ more) (7 * i) i acc = if 7 * (i + n) < size ∧ acc + u * 2 ^ (7 * i) < 2 ^ size then (acc + u * 2 ^ (7 * i), i + n + 1, 0) else (0, 0, 2)
  | 0, u, i, acc, hu, ha, hi => by
    have hu : u < 128 := by simpa using hu
    have hP : 2 ^ size = 2 ^ (size - 7 * i) * 2 ^ (7 * i) := by rw [← Nat.pow_add]; congr 1; omega
    have h64 : 2 ^ size ≤ 18446744073709551616 := Nat.pow_le_pow_right (n := 2) (by decide) hs
    show readG size false ((u % 128) :: more) (7 * i) i acc = _
    rw [Nat.mod_eq_of_lt hu, readG_u (by omega) hi, (hi8 u hu).2.2.2.1]
    have key : acc + u * 2 ^ (7 * i) < 2 ^ size ↔ u < 2 ^ (size - 7 * i) := by
      rw [hP]
      constructor
      · intro h
        apply Classical.byContradiction
        intro hn
        have := Nat.mul_le_mul_right (2 ^ (7 * i)) (Nat.le_of_not_lt hn)
        omega
      · intro h
        have := Nat.mul_le_mul_right (2 ^ (7 * i)) (Nat.succ_le_of_lt h)
        rw [Nat.succ_mul] at this
        omega
    by_cases hl : size - 7 * i ≤ 7
    · by_cases hv : u < 2 ^ (size - 7 * i)
      · rw [if_neg (by rintro ⟨_, h | h⟩; omega; exact h (Nat.div_eq_of_lt hv)), if_pos hu, if_pos ⟨by omega, key.2 hv⟩, acc_step ha (by have := key.2 hv; omega)]
      · rw [if_pos ⟨hl, .inr (by have := Nat.div_pos (Nat.le_of_not_lt hv) (Nat.pow_pos (by decide)); omega)⟩, if_neg (fun h => hv (key.1 h.2))]
    · have hv : u < 2 ^ (size - 7 * i) := Nat.lt_of_lt_of_le hu (by
        have : 2 ^ 7 ≤ 2 ^ (size - 7 * i) := Nat.pow_le_pow_right (by decide) (by omega)
        omega)
      rw [if_neg (fun h => hl h.1), if_pos hu, if_pos ⟨by omega, key.2 hv⟩, acc_step ha (by have := key.2 hv; omega)]
  | n + 1, u, i, acc, hu, ha, hi => by
    obtain ⟨h1, h2, h3, _⟩ := hi8 (u % 128) (Nat.mod_lt _ (by decide))
    show readG size false ((u % 128 ||| 128) :: (digU n (u / 128) ++ more)) (7 * i) i acc = _
    rw [readG_u h3 hi, h1]
    by_cases hl : size - 7 * i ≤ 7
    · rw [if_pos ⟨hl, .inl h2⟩, if_neg (by rintro ⟨h, _⟩; omega)]
    · rw [if_neg (fun h => hl h.1), if_neg (by omega)]
      have hu' : u / 128 < 128 ^ (n + 1) := by rw [Nat.pow_succ] at hu; omega
      have hlt : acc + u % 128 * 2 ^ (7 * i) < 2 ^ (7 * (i + 1)) := by
        rw [pow7]
        have := Nat.mul_le_mul_right (2 ^ (7 * i)) (show u % 128 ≤ 127 by omega)
        omega
      have h64 : 2 ^ (7 * (i + 1)) ≤ 18446744073709551616 := Nat.pow_le_pow_right (n := 2) (by decide) (by omega : 7 * (i + 1) ≤ 64)
      rw [acc_step ha (by omega), readG_digU hs n (u / 128) (i + 1) _ hu' hlt (by omega)]
      have hV : acc + u % 128 * 2 ^ (7 * i) + u / 128 * 2 ^ (7 * (i + 1)) = acc + u * 2 ^ (7 * i) := by
        rw [pow7, ← Nat.mul_assoc, Nat.add_assoc, ← Nat.add_mul]
        congr 2; omega
      rw [hV, show i + 1 + n = i + (n + 1) by omega]
end Eng
namespace Eng
open Go
theorem byte_hi (v : Nat) : v % 256 ||| 128 = v % 128 ||| 128 := by
  have h : ∀ x < 256, x ||| 128 = x % 128 ||| 128 := by decide +kernel
  rw [h (v % 256) (Nat.mod_lt _ (by decide))]
  congr 1
  omega
theorem lebU_dig : ∀ (v : Nat), ∃ n, lebU v = digU n v ∧ v < 128 ^ (n + 1) ∧ (lebU v).length = n + 1 ∧ ∀ m, v < 128 ^ (m + 1) → n ≤ m := fun v => by
  induction v using Nat.strongRecOn with
  | ind v ih =>
    by_cases h : v < 128
    · refine ⟨0, ?_, by simpa using h, by rw [lebU_lo h]; rfl, fun m _ => Nat.zero_le m⟩
      rw [lebU_lo h]
      show [v] = [v % 128]
      rw [Nat.mod_eq_of_lt h]
    · obtain ⟨n, h1, h2, h3, h4⟩ := ih (v / 128) (by omega)
      refine ⟨n + 1, ?_, by rw [Nat.pow_succ]; omega, by rw [lebU_hi (by omega), List.length_cons, h3], fun m hm => ?_⟩
      · rw [lebU_hi (by omega), h1, byte_hi]; rfl
      · cases m with
        | zero => exact absurd hm (by simp; omega)
        | succ m => have := h4 m (by rw [Nat.pow_succ] at hm; omega); omega
theorem digU_len : ∀ (n v : Nat), (digU n v).length = n + 1
  | 0, v => rfl
  | n + 1, v => by show (digU n (v / 128)).length + 1 = _; rw [digU_len n]
theorem readG_digU0 {size : Nat} (hs : size ≤ 64) (h0 : 0 < size) (n v : Nat) (hv : v < 128 ^ (n + 1)) (more : List Nat) :
    readG size false (digU n v ++ more) 0 0 0 = if 7 * n < size ∧ v < 2 ^ size then (v, n + 1, 0) else (0, 0, 2) := by
  have := readG_digU (size := size) hs (more := more) n v 0 0 hv (by decide) (by omega)
  simpa using this
theorem readG_lebU32 {v : Nat} (hv : v < 18446744073709551616) (more : List Nat) : readG 32 false (lebU v ++ more) 0 0 0 = if v < 4294967296 then (v, (lebU v).length, 0) else (0, 0, 2) := by
  obtain ⟨n, h1, h2, h3, h4⟩ := lebU_dig v
  rw [h3, h1, readG_digU0 (by decide) (by decide) n v h2]
  by_cases h : v < 4294967296
  · have hn := h4 4 (by omega)
    rw [if_pos ⟨by omega, h⟩, if_pos h]
  · rw [if_neg (fun e => h e.2), if_neg h]
theorem readG_cut {size : Nat} {sg : Bool} : ∀ (hs : List Nat) (a n v : Nat), (∀ x ∈ hs, 128 ≤ x ∧ x < 256) → a + 7 * hs.length < size → readG size sg hs a n v = (0, 0, 3)
  | [], a, n, v, _, _ => rfl
  | x :: hs, a, n, v, h, hl => by
    have hx := h x (by simp)
    rw [List.length_cons] at hl
    obtain ⟨h1, _⟩ := bits8 x hx.2
    rw [readG]
    have hc : ¬ (size - a ≤ 7 ∧ lastB x (size - a) sg = false) := fun e => by have := e.1; omega
    · rw [if_neg hc, if_pos (fun e => by have := h1.1 e; omega)]
      exact readG_cut hs _ _ _ (fun y hy => h y (by simp [hy])) (by omega)
end Eng
namespace Eng
open Go
theorem wrap_i64z {x : Int} (h : -9223372036854775808 ≤ x ∧ x < 9223372036854775808) : wrapA .i64 x = x := by
  have e : wrapA .i64 x = wrapS 9223372036854775808 (2 * 9223372036854775808) x := rfl
  rw [e, wrapS_eq _ (by decide)]
  split <;> omega
end Eng
namespace Eng
open Go
end Eng
namespace Eng
open Go
def stepL (l : List Nat) (e : Nat) : List Nat := l.set (l.length - 1) (l.getD (l.length - 1) 0 ||| 128) ++ [e]
def longerL (e : Nat) : Nat → List Nat → List Nat
  | 0, l => l
  | k + 1, l => longerL e k (stepL l e)
def LongerS (call : CallT) (f : Nat) : Prop := ∀ {B : Nat} {h : Hp} {vb : AV} {l : List Nat} {k e : Nat}, B ≤ h.next → Bytes B h vb l → 1 ≤ l.length → l.length ≤ 100 → k ≤ 7 → e < 256 →
  ∃ rv rh, call f [vb, .int .i64 (.ofNat k), .int .u8 (.ofNat e)] h = .ok rv rh ∧ Owned 1 B rh rv (l.length + k) (u8s (longerL e k l)) ∧ Old B h rh ∧ B ≤ rh.next
end Eng
namespace Eng
open Go
theorem nil_lt : ∀ x ∈ ([] : List Nat), x < 256 := by simp
theorem one_lt {y : Nat} (h : y < 256) : ∀ x ∈ [y], x < 256 := fun x hx => by rw [List.mem_singleton] at hx; omega
theorem app_text {sz B n : Nat} {h : Hp} {v : AV} {l m : List Nat} (o : Owned sz B h v n (u8s l ++ u8s m)) : Owned sz B h v n (u8s (l ++ m)) := by rw [← u8s_append]; exact o
end Eng
namespace Eng
open Go
end Eng
namespace Eng
open Go
def placeN (c : Int) (n : Nat) : Nat := (c % (n : Int)).toNat
theorem placeN_lt {c : Int} {n : Nat} (h : 1 ≤ n) : placeN c n < n := by
  have h1 := Int.emod_lt_of_pos c (show (0 : Int) < n by omega)
  have h2 := Int.emod_nonneg c (show (n : Int) ≠ 0 by omega)
  unfold placeN; omega
def PlaceS (call : CallT) (f : Nat) : Prop := ∀ (c : Int) (n : Nat) (h : Hp), -9223372036854775808 ≤ c ∧ c < 9223372036854775808 → 1 ≤ n → n < 4611686018427387904 → call f [.int .i64 c, .int .i64 (.ofNat n)] h = .ok (.int .i64 (.ofNat (placeN c n))) h
theorem q_remz {a : Int} {b : Nat} (h : b ≠ 0) : evQ (.bin .rem (.const (.int .i64 a)) (.const (.int .i64 (.ofNat b)))) .lf H0 = .ok (.int .i64 (Int.tmod a b)) := by
  show bc (ikEq .i64 .i64) (bc (eqI (.ofNat b) 0) OV.no (.ok (.int .i64 (modA a (.ofNat b))))) .no = _
  have h5 : eqI (.ofNat b) 0 = false := by rw [eqI_eq]; simp; omega
  rw [ikEq_self, h5]
  show OV.ok (.int .i64 (modA a (.ofNat b))) = _
  rw [modA_eq]; rfl
theorem place_pos {c : Int} {n : Nat} (hn : 1 ≤ n) (h : 0 ≤ Int.tmod c n) : Int.tmod c n = (.ofNat (placeN c n) : Int) := by
  have h2 := Int.emod_nonneg c (show (n : Int) ≠ 0 by omega)
  have e : Int.tmod c n = c % (n : Int) := by
    rw [Int.tmod_eq_emod] at h ⊢
    split
    · simp
    · rename_i hc
      rw [if_neg hc] at h
      have h1 := Int.emod_lt_of_pos c (show (0 : Int) < n by omega)
      have : (((n : Int).natAbs : Nat) : Int) = n := by omega
      omega
  rw [e]
  unfold placeN
  rw [Int.ofNat_eq_natCast, Int.toNat_of_nonneg h2]
theorem place_neg {c : Int} {n : Nat} (hn : 1 ≤ n) (hn2 : n < 4611686018427387904) (h : Int.tmod c n < 0) : wrapA .i64 (Int.add (Int.tmod c n) (.ofNat n)) = (.ofNat (placeN c n) : Int) := by
  have h2 := Int.emod_nonneg c (show (n : Int) ≠ 0 by omega)
  have h1 := Int.emod_lt_of_pos c (show (0 : Int) < n by omega)
  have e : Int.tmod c n = c % (n : Int) - n := by
    rw [Int.tmod_eq_emod] at h ⊢
    split
    · rename_i hc; rw [if_pos hc] at h; omega
    · omega
  have e2 : Int.add (Int.tmod c n) (.ofNat n) = c % (n : Int) := by
    show Int.tmod c n + (n : Int) = _
    rw [e]; omega
  rw [e2, wrap_i64z (by omega)]
  unfold placeN
  rw [Int.ofNat_eq_natCast, Int.toNat_of_nonneg h2]
theorem digU_hi : ∀ (n v k : Nat), k ≤ n → ∀ x ∈ (digU n v).take k, 128 ≤ x ∧ x < 256
  | 0, v, k, h => by obtain rfl : k = 0 := by omega
                     simp
  | n + 1, v, k, h => by
    cases k with
    | zero => simp
    | succ k =>
      intro x hx
      rcases List.mem_cons.1 (show x ∈ (v % 128 ||| 128) :: (digU n (v / 128)).take k from hx) with rfl | hx
      · have := hi8 (v % 128) (Nat.mod_lt _ (by decide)); exact ⟨this.2.1, this.2.2.1⟩
      · exact digU_hi n _ k (by omega) x hx
end Eng
end
section
set_option linter.unusedVariables false
namespace Go.Proofs.Ytejiebbbodealaa
open Go Eng
theorem last_walk {call : CallT} {N : Nat} {h : Hp} {x left : Nat} {sg : Bool} (hx : x < 256) (h1 : 1 ≤ left) (h2 : left ≤ 64)
    : ∃ rv rh, evF1 (progS Try.prog (compDrawn Try.prog)) N call 75 [(AV.int .u8 (Int.ofNat x)), (AV.int .i64 (Int.ofNat left)), (AV.bool sg)] h = .ok rv rh ∧ (fun (v : AV) (h' : Hp) => h' = h ∧ v = .bool (lastB x left sg)) rv rh := by
  refine fwalk_ok (o := (.tell 2 (AV.int .u8 (Int.ofNat (x &&& 128))) (.fork 0 .fin (.fork 1 (.tell 2 (AV.int .u8 (Int.ofNat (x / 2 ^ left))) .fin) (.tell 2 (AV.int .i64 (Int.ofNat (left - 1))) (.tell 0 (AV.int .u8 (Int.ofNat (x / 2 ^ (left - 1)))) (.fork 3 .fin (.tell 2 (AV.int .i64 (Int.ofNat (left - 1))) (.tell 0 (AV.int .u8 (Int.ofNat (127 / 2 ^ (left - 1)))) .fin))))))))) (p := (evQ (.bin .and (.const (AV.int .u8 (Int.ofNat x))) (.const (AV.int .u8 (Int.ofNat 128)))) .lf H0 = .ok (AV.int .u8 (Int.ofNat (x &&& 128))) ∧ ((notB (eqI (Int.ofNat (x &&& 128)) (Int.ofNat 0)) = true → (fun (v : AV) (h' : Hp) => h' = h ∧ v = .bool (lastB x left sg)) (AV.bool false) h) ∧ (notB (eqI (Int.ofNat (x &&& 128)) (Int.ofNat 0)) = false → ((notB sg = true → (evQ (.bin .shr (.const (AV.int .u8 (Int.ofNat x))) (.const (AV.int .i64 (Int.ofNat left)))) .lf H0 = .ok (AV.int .u8 (Int.ofNat (x / 2 ^ left))) ∧ (fun (v : AV) (h' : Hp) => h' = h ∧ v = .bool (lastB x left sg)) (AV.bool (eqI (Int.ofNat (x / 2 ^ left)) (Int.ofNat 0))) h)) ∧ (notB sg = false → (evQ (.bin .sub (.const (AV.int .i64 (Int.ofNat left))) (.const (AV.int .i64 (Int.ofNat 1)))) .lf H0 = .ok (AV.int .i64 (Int.ofNat (left - 1))) ∧ (evQ (.bin .shr (.const (AV.int .u8 (Int.ofNat x))) (.const (AV.int .i64 (Int.ofNat (left - 1))))) .lf H0 = .ok (AV.int .u8 (Int.ofNat (x / 2 ^ (left - 1)))) ∧ ((eqI (Int.ofNat (x / 2 ^ (left - 1))) (Int.ofNat 0) = true → (fun (v : AV) (h' : Hp) => h' = h ∧ v = .bool (lastB x left sg)) (AV.bool true) h) ∧ (eqI (Int.ofNat (x / 2 ^ (left - 1))) (Int.ofNat 0) = false → (evQ (.bin .sub (.const (AV.int .i64 (Int.ofNat left))) (.const (AV.int .i64 (Int.ofNat 1)))) .lf H0 = .ok (AV.int .i64 (Int.ofNat (left - 1))) ∧ (evQ (.bin .shr (.const (AV.int .u8 (Int.ofNat 127))) (.const (AV.int .i64 (Int.ofNat (left - 1))))) .lf H0 = .ok (AV.int .u8 (Int.ofNat (127 / 2 ^ (left - 1)))) ∧ (fun (v : AV) (h' : Hp) => h' = h ∧ v = .bool (lastB x left sg)) (AV.bool (eqI (Int.ofNat (x / 2 ^ (left - 1))) (Int.ofNat (127 / 2 ^ (left - 1))))) h)))))))))))) (by kernel_rfl) ?_
  refine ⟨u_and rfl hx (by decide), ?_⟩
  have g1 : x &&& 128 < 256 := Nat.lt_of_le_of_lt Nat.and_le_left hx
  refine ⟨fun c2 => ?_, fun c2 => ?_⟩
  · have rc2 := c2
    replace c2 : x &&& 128 ≠ 0 := eqI_f (notB_t c2)
    refine ⟨rfl, congrArg AV.bool ?_⟩
    try simp only [eqI_nat]
    first | (simp_all [lastB]; done) | (simp_all [lastB]; omega)
  · have rc2 := c2
    replace c2 : x &&& 128 = 0 := eqI_t (notB_f c2)
    refine ⟨fun c3 => ?_, fun c3 => ?_⟩
    · have rc3 := c3
      replace c3 : sg = false := notB_t c3
      refine ⟨u_shr rfl hx, ?_⟩
      have g4 : x / 2 ^ left < 256 := Nat.lt_of_le_of_lt (Nat.div_le_self _ _) hx
      refine ⟨rfl, congrArg AV.bool ?_⟩
      try simp only [eqI_nat]
      first | (simp_all [lastB]; done) | (simp_all [lastB]; omega)
    · have rc3 := c3
      replace c3 : sg = true := notB_f c3
      refine ⟨q_sub (by omega) (by omega), ?_⟩
      refine ⟨u_shr rfl hx, ?_⟩
      have g4 : x / 2 ^ (left - 1) < 256 := Nat.lt_of_le_of_lt (Nat.div_le_self _ _) hx
      refine ⟨fun c5 => ?_, fun c5 => ?_⟩
      · have rc5 := c5
        replace c5 : x / 2 ^ (left - 1) = 0 := eqI_t c5
        refine ⟨rfl, congrArg AV.bool ?_⟩
        try simp only [eqI_nat]
        first | (simp_all [lastB]; done) | (simp_all [lastB]; omega)
      · have rc5 := c5
        replace c5 : x / 2 ^ (left - 1) ≠ 0 := eqI_f c5
        refine ⟨q_sub (by omega) (by omega), ?_⟩
        refine ⟨u_shr rfl (by decide), ?_⟩
        have g6 : 127 / 2 ^ (left - 1) < 256 := Nat.lt_of_le_of_lt (Nat.div_le_self _ _) (by decide)
        refine ⟨rfl, congrArg AV.bool ?_⟩
        try simp only [eqI_nat]
        first | (simp_all [lastB]; done) | (simp_all [lastB]; omega)
noncomputable def readC : AC := (.seq (.block 1 (.seq (.seq (.region [⟨(some 14), .q (.move (.tmp 7)), none⟩, ⟨(some 15), .q (.move (.tmp 0)), none⟩, ⟨(some 16), .q (.lenL (.tmp 15)), none⟩, ⟨(some 17), .q (.eq .int false (.tmp 14) (.tmp 16)), none⟩]) (.cond (.tmp 17) (.seq (.region [⟨(some 6), .q (.move (.const (AV.int .u64 (Int.ofNat 0)))), none⟩, ⟨(some 7), .q (.move (.const (AV.int .i64 (Int.ofNat 0)))), none⟩, ⟨(some 8), .q (.move (.const (AV.int .i64 (Int.ofNat 3)))), none⟩]) .ret) .skip)) (.seq (.region [⟨(some 18), .q (.move (.tmp 0)), none⟩, ⟨(some 19), .q (.move (.tmp 7)), none⟩, ⟨(some 20), .q (.idxAddrSl 1 (.tmp 18) (.tmp 19)), none⟩, ⟨(some 21), .q (.loadS (.tmp 20)), none⟩, ⟨(some 10), .q (.move (.tmp 21)), none⟩]) (.seq (.region [⟨(some 22), .q (.move (.tmp 7)), none⟩, ⟨(some 23), .q (.bin .add (.tmp 22) (.const (AV.int .i64 (Int.ofNat 1)))), none⟩, ⟨(some 7), .q (.move (.tmp 23)), none⟩]) (.seq (.seq (.region [⟨(some 24), .q (.move (.tmp 1)), none⟩, ⟨(some 25), .q (.move (.tmp 9)), none⟩, ⟨(some 26), .q (.bin .sub (.tmp 24) (.tmp 25)), none⟩, ⟨(some 11), .q (.move (.tmp 26)), none⟩]) (.seq (.region [⟨(some 27), .q (.move (.tmp 11)), none⟩, ⟨(some 28), .q (.bin .leq (.tmp 27) (.const (AV.int .i64 (Int.ofNat 7)))), none⟩, ⟨(some 29), .q (.move (.tmp 28)), none⟩, ⟨(some 30), .q (.move (.tmp 10)), (some (29, true))⟩, ⟨(some 31), .q (.move (.tmp 11)), (some (29, true))⟩, ⟨(some 32), .q (.move (.tmp 2)), (some (29, true))⟩, ⟨(some 33), .e (.call (.const (AV.func (.func 75) [] [])) [(.tmp 30), (.tmp 31), (.tmp 32)]), (some (29, true))⟩, ⟨(some 34), .q (.un .not (.tmp 33)), (some (29, true))⟩, ⟨(some 35), .q (.pick (.tmp 29) (.tmp 34) (.const (AV.bool false))), none⟩]) (.cond (.tmp 35) (.seq (.region [⟨(some 6), .q (.move (.const (AV.int .u64 (Int.ofNat 0)))), none⟩, ⟨(some 7), .q (.move (.const (AV.int .i64 (Int.ofNat 0)))), none⟩, ⟨(some 8), .q (.move (.const (AV.int .i64 (Int.ofNat 2)))), none⟩]) .ret) .skip))) (.seq (.region [⟨(some 36), .q (.move (.tmp 6)), none⟩, ⟨(some 37), .q (.move (.tmp 10)), none⟩, ⟨(some 38), .q (.bin .and (.tmp 37) (.const (AV.int .u8 (Int.ofNat 127)))), none⟩, ⟨(some 39), .q (.toInt .u64 (.tmp 38)), none⟩, ⟨(some 40), .q (.move (.tmp 9)), none⟩, ⟨(some 41), .q (.bin .shl (.tmp 39) (.tmp 40)), none⟩, ⟨(some 42), .q (.bin .or (.tmp 36) (.tmp 41)), none⟩, ⟨(some 6), .q (.move (.tmp 42)), none⟩]) (.seq (.seq (.region [⟨(some 43), .q (.move (.tmp 10)), none⟩, ⟨(some 44), .q (.bin .and (.tmp 43) (.const (AV.int .u8 (Int.ofNat 128)))), none⟩, ⟨(some 45), .q (.eq .int true (.tmp 44) (.const (AV.int .u8 (Int.ofNat 0)))), none⟩]) (.cond (.tmp 45) (.exit 1) .skip)) (.seq (.seq (.region [⟨(some 46), .q (.move (.tmp 2)), none⟩, ⟨(some 47), .q (.move (.tmp 46)), none⟩, ⟨(some 48), .q (.move (.tmp 10)), (some (47, true))⟩, ⟨(some 49), .q (.bin .and (.tmp 48) (.const (AV.int .u8 (Int.ofNat 64)))), (some (47, true))⟩, ⟨(some 50), .q (.eq .int true (.tmp 49) (.const (AV.int .u8 (Int.ofNat 0)))), (some (47, true))⟩, ⟨(some 51), .q (.pick (.tmp 47) (.tmp 50) (.const (AV.bool false))), none⟩, ⟨(some 52), .q (.move (.tmp 51)), none⟩, ⟨(some 53), .q (.move (.tmp 9)), (some (52, true))⟩, ⟨(some 54), .q (.bin .add (.tmp 53) (.const (AV.int .i64 (Int.ofNat 7)))), (some (52, true))⟩, ⟨(some 55), .q (.bin .lss (.tmp 54) (.const (AV.int .i64 (Int.ofNat 64)))), (some (52, true))⟩, ⟨(some 56), .q (.pick (.tmp 52) (.tmp 55) (.const (AV.bool false))), none⟩]) (.cond (.tmp 56) (.region [⟨(some 57), .q (.move (.tmp 6)), none⟩, ⟨(some 58), .q (.move (.tmp 9)), none⟩, ⟨(some 59), .q (.bin .add (.tmp 58) (.const (AV.int .i64 (Int.ofNat 7)))), none⟩, ⟨(some 60), .q (.bin .shl (.const (AV.int .u64 (Int.ofNat 18446744073709551615))) (.tmp 59)), none⟩, ⟨(some 61), .q (.bin .or (.tmp 57) (.tmp 60)), none⟩, ⟨(some 6), .q (.move (.tmp 61)), none⟩]) .skip)) (.seq (.region [⟨(some 62), .q (.move (.tmp 6)), none⟩, ⟨(some 63), .q (.move (.tmp 7)), none⟩, ⟨(some 6), .q (.move (.tmp 62)), none⟩, ⟨(some 7), .q (.move (.tmp 63)), none⟩, ⟨(some 8), .q (.move (.const (AV.int .i64 (Int.ofNat 0)))), none⟩]) .ret))))))))) (.region [⟨(some 12), .q (.move (.tmp 9)), none⟩, ⟨(some 13), .q (.bin .add (.tmp 12) (.const (AV.int .i64 (Int.ofNat 7)))), none⟩, ⟨(some 9), .q (.move (.tmp 13)), none⟩]))
theorem read_body {call : CallT} {N : Nat} {t : T} {h : Hp} {B : Nat} {vb : AV} {sg : Bool} {l : List Nat} (hb : Bytes B h vb l) (hk2 : l.length < 9223372036854775000) {size v k a : Nat} (hv : v < 18446744073709551616) (hat : a < size) (hs : size ≤ 64) (hk : k ≤ l.length) (hlast : ∀ x left s h, x < 256 → 1 ≤ left → left ≤ 64 → call 75 [.int .u8 (.ofNat x), .int .i64 (.ofNat left), .bool s] h = .ok (.bool (lastB x left s)) h)
    {Kn : List (Option AV) → Hp → Prop} {Ke : Nat → List (Option AV) → Hp → Prop} {Kr : List (Option AV) → Hp → Prop}
    (k0 : k = l.length → Kr [some vb, some (AV.int .i64 (Int.ofNat size)), some (AV.bool sg), some (AV.int .u64 (Int.ofNat 0)), some (AV.int .i64 (Int.ofNat 0)), some (AV.int .i64 (Int.ofNat a)), some (AV.int .i64 (Int.ofNat 3))] h)
    (k1 : k ≠ l.length → size - a ≤ 7 → lastB (l.getD k 0) (size - a) sg = false → Kr [some vb, some (AV.int .i64 (Int.ofNat size)), some (AV.bool sg), some (AV.int .u64 (Int.ofNat 0)), some (AV.int .i64 (Int.ofNat 0)), some (AV.int .i64 (Int.ofNat a)), some (AV.int .i64 (Int.ofNat 2))] h)
    (k2 : k ≠ l.length → size - a ≤ 7 → lastB (l.getD k 0) (size - a) sg = true → (l.getD k 0) &&& 128 ≠ 0 → Kn [some vb, some (AV.int .i64 (Int.ofNat size)), some (AV.bool sg), some (AV.int .u64 (Int.ofNat (v ||| (((l.getD k 0) &&& 127) * 2 ^ a % 18446744073709551616)))), some (AV.int .i64 (Int.ofNat (k + 1))), some (AV.int .i64 (Int.ofNat (a + 7))), some (AV.int .i64 (Int.ofNat 0))] h)
    (k3 : k ≠ l.length → size - a ≤ 7 → lastB (l.getD k 0) (size - a) sg = true → (l.getD k 0) &&& 128 = 0 → sg = true → (l.getD k 0) &&& 64 ≠ 0 → a + 7 < 64 → Kr [some vb, some (AV.int .i64 (Int.ofNat size)), some (AV.bool sg), some (AV.int .u64 (Int.ofNat ((v ||| (((l.getD k 0) &&& 127) * 2 ^ a % 18446744073709551616)) ||| (18446744073709551615 * 2 ^ (a + 7) % 18446744073709551616)))), some (AV.int .i64 (Int.ofNat (k + 1))), some (AV.int .i64 (Int.ofNat a)), some (AV.int .i64 (Int.ofNat 0))] h)
    (k4 : k ≠ l.length → size - a ≤ 7 → lastB (l.getD k 0) (size - a) sg = true → (l.getD k 0) &&& 128 = 0 → sg = true → (l.getD k 0) &&& 64 ≠ 0 → 64 ≤ a + 7 → Kr [some vb, some (AV.int .i64 (Int.ofNat size)), some (AV.bool sg), some (AV.int .u64 (Int.ofNat (v ||| (((l.getD k 0) &&& 127) * 2 ^ a % 18446744073709551616)))), some (AV.int .i64 (Int.ofNat (k + 1))), some (AV.int .i64 (Int.ofNat a)), some (AV.int .i64 (Int.ofNat 0))] h)
    (k5 : k ≠ l.length → size - a ≤ 7 → lastB (l.getD k 0) (size - a) sg = true → (l.getD k 0) &&& 128 = 0 → sg = true → (l.getD k 0) &&& 64 = 0 → Kr [some vb, some (AV.int .i64 (Int.ofNat size)), some (AV.bool sg), some (AV.int .u64 (Int.ofNat (v ||| (((l.getD k 0) &&& 127) * 2 ^ a % 18446744073709551616)))), some (AV.int .i64 (Int.ofNat (k + 1))), some (AV.int .i64 (Int.ofNat a)), some (AV.int .i64 (Int.ofNat 0))] h)
    (k6 : k ≠ l.length → size - a ≤ 7 → lastB (l.getD k 0) (size - a) sg = true → (l.getD k 0) &&& 128 = 0 → sg = false → Kr [some vb, some (AV.int .i64 (Int.ofNat size)), some (AV.bool sg), some (AV.int .u64 (Int.ofNat (v ||| (((l.getD k 0) &&& 127) * 2 ^ a % 18446744073709551616)))), some (AV.int .i64 (Int.ofNat (k + 1))), some (AV.int .i64 (Int.ofNat a)), some (AV.int .i64 (Int.ofNat 0))] h)
    (k7 : k ≠ l.length → 7 < size - a → (l.getD k 0) &&& 128 ≠ 0 → Kn [some vb, some (AV.int .i64 (Int.ofNat size)), some (AV.bool sg), some (AV.int .u64 (Int.ofNat (v ||| (((l.getD k 0) &&& 127) * 2 ^ a % 18446744073709551616)))), some (AV.int .i64 (Int.ofNat (k + 1))), some (AV.int .i64 (Int.ofNat (a + 7))), some (AV.int .i64 (Int.ofNat 0))] h)
    (k8 : k ≠ l.length → 7 < size - a → (l.getD k 0) &&& 128 = 0 → sg = true → (l.getD k 0) &&& 64 ≠ 0 → a + 7 < 64 → Kr [some vb, some (AV.int .i64 (Int.ofNat size)), some (AV.bool sg), some (AV.int .u64 (Int.ofNat ((v ||| (((l.getD k 0) &&& 127) * 2 ^ a % 18446744073709551616)) ||| (18446744073709551615 * 2 ^ (a + 7) % 18446744073709551616)))), some (AV.int .i64 (Int.ofNat (k + 1))), some (AV.int .i64 (Int.ofNat a)), some (AV.int .i64 (Int.ofNat 0))] h)
    (k9 : k ≠ l.length → 7 < size - a → (l.getD k 0) &&& 128 = 0 → sg = true → (l.getD k 0) &&& 64 ≠ 0 → 64 ≤ a + 7 → Kr [some vb, some (AV.int .i64 (Int.ofNat size)), some (AV.bool sg), some (AV.int .u64 (Int.ofNat (v ||| (((l.getD k 0) &&& 127) * 2 ^ a % 18446744073709551616)))), some (AV.int .i64 (Int.ofNat (k + 1))), some (AV.int .i64 (Int.ofNat a)), some (AV.int .i64 (Int.ofNat 0))] h)
    (k10 : k ≠ l.length → 7 < size - a → (l.getD k 0) &&& 128 = 0 → sg = true → (l.getD k 0) &&& 64 = 0 → Kr [some vb, some (AV.int .i64 (Int.ofNat size)), some (AV.bool sg), some (AV.int .u64 (Int.ofNat (v ||| (((l.getD k 0) &&& 127) * 2 ^ a % 18446744073709551616)))), some (AV.int .i64 (Int.ofNat (k + 1))), some (AV.int .i64 (Int.ofNat a)), some (AV.int .i64 (Int.ofNat 0))] h)
    (k11 : k ≠ l.length → 7 < size - a → (l.getD k 0) &&& 128 = 0 → sg = false → Kr [some vb, some (AV.int .i64 (Int.ofNat size)), some (AV.bool sg), some (AV.int .u64 (Int.ofNat (v ||| (((l.getD k 0) &&& 127) * 2 ^ a % 18446744073709551616)))), some (AV.int .i64 (Int.ofNat (k + 1))), some (AV.int .i64 (Int.ofNat a)), some (AV.int .i64 (Int.ofNat 0))] h)
    : ∃ s, evC call N readC (ovT [(0, vb), (1, (AV.int .i64 (Int.ofNat size))), (2, (AV.bool sg)), (6, (AV.int .u64 (Int.ofNat v))), (7, (AV.int .i64 (Int.ofNat k))), (9, (AV.int .i64 (Int.ofNat a))), (8, (AV.int .i64 (Int.ofNat 0)))] t) h = s ∧ obsS [0, 1, 2, 6, 7, 9, 8] Kn Ke Kr s := by
  refine walk_ok (o := (.tell 2 (AV.int .i64 (Int.ofNat l.length)) (.fork 0 .fin (.tell 2 (elemP vb k 1) (.tell 0 (AV.int .u8 (Int.ofNat (l.getD k 0))) (.tell 2 (AV.int .i64 (Int.ofNat (k + 1))) (.tell 3 (AV.int .i64 (Int.ofNat (size - a))) (.fork 3 (.eff 3 (AV.bool (lastB (l.getD k 0) (size - a) sg)) h (.fork 1 .fin (.tell 2 (AV.int .u8 (Int.ofNat ((l.getD k 0) &&& 127))) (.tell 0 (AV.int .u64 (Int.ofNat ((l.getD k 0) &&& 127))) (.tell 1 (AV.int .u64 (Int.ofNat (((l.getD k 0) &&& 127) * 2 ^ a % 18446744073709551616))) (.tell 0 (AV.int .u64 (Int.ofNat (v ||| (((l.getD k 0) &&& 127) * 2 ^ a % 18446744073709551616)))) (.tell 2 (AV.int .u8 (Int.ofNat ((l.getD k 0) &&& 128))) (.fork 0 (.tell 1 (AV.int .i64 (Int.ofNat (a + 7))) .fin) (.fork 1 (.tell 1 (AV.int .u8 (Int.ofNat ((l.getD k 0) &&& 64))) (.fork 2 (.tell 1 (AV.int .i64 (Int.ofNat (a + 7))) (.fork 1 (.tell 2 (AV.int .i64 (Int.ofNat (a + 7))) (.tell 0 (AV.int .u64 (Int.ofNat (18446744073709551615 * 2 ^ (a + 7) % 18446744073709551616))) (.tell 0 (AV.int .u64 (Int.ofNat ((v ||| (((l.getD k 0) &&& 127) * 2 ^ a % 18446744073709551616)) ||| (18446744073709551615 * 2 ^ (a + 7) % 18446744073709551616)))) .fin))) .fin)) .fin)) .fin))))))))) (.tell 3 (AV.int .u8 (Int.ofNat ((l.getD k 0) &&& 127))) (.tell 0 (AV.int .u64 (Int.ofNat ((l.getD k 0) &&& 127))) (.tell 1 (AV.int .u64 (Int.ofNat (((l.getD k 0) &&& 127) * 2 ^ a % 18446744073709551616))) (.tell 0 (AV.int .u64 (Int.ofNat (v ||| (((l.getD k 0) &&& 127) * 2 ^ a % 18446744073709551616)))) (.tell 2 (AV.int .u8 (Int.ofNat ((l.getD k 0) &&& 128))) (.fork 0 (.tell 1 (AV.int .i64 (Int.ofNat (a + 7))) .fin) (.fork 1 (.tell 1 (AV.int .u8 (Int.ofNat ((l.getD k 0) &&& 64))) (.fork 2 (.tell 1 (AV.int .i64 (Int.ofNat (a + 7))) (.fork 1 (.tell 2 (AV.int .i64 (Int.ofNat (a + 7))) (.tell 0 (AV.int .u64 (Int.ofNat (18446744073709551615 * 2 ^ (a + 7) % 18446744073709551616))) (.tell 0 (AV.int .u64 (Int.ofNat ((v ||| (((l.getD k 0) &&& 127) * 2 ^ a % 18446744073709551616)) ||| (18446744073709551615 * 2 ^ (a + 7) % 18446744073709551616)))) .fin))) .fin)) .fin)) .fin))))))))))))))) (p := (evQ (.lenL (.const vb)) .lf H0 = .ok (AV.int .i64 (Int.ofNat l.length)) ∧ ((eqI (Int.ofNat k) (Int.ofNat l.length) = true → Kr [some vb, some (AV.int .i64 (Int.ofNat size)), some (AV.bool sg), some (AV.int .u64 (Int.ofNat 0)), some (AV.int .i64 (Int.ofNat 0)), some (AV.int .i64 (Int.ofNat a)), some (AV.int .i64 (Int.ofNat 3))] h) ∧ (eqI (Int.ofNat k) (Int.ofNat l.length) = false → (evQ (.idxAddrSl 1 (.const vb) (.const (AV.int .i64 (Int.ofNat k)))) .lf H0 = .ok (elemP vb k 1) ∧ (evQ (.loadS (.const (elemP vb k 1))) .lf h = .ok (AV.int .u8 (Int.ofNat (l.getD k 0))) ∧ (evQ (.bin .add (.const (AV.int .i64 (Int.ofNat k))) (.const (AV.int .i64 (Int.ofNat 1)))) .lf H0 = .ok (AV.int .i64 (Int.ofNat (k + 1))) ∧ (evQ (.bin .sub (.const (AV.int .i64 (Int.ofNat size))) (.const (AV.int .i64 (Int.ofNat a)))) .lf H0 = .ok (AV.int .i64 (Int.ofNat (size - a))) ∧ ((notB (ltI (Int.ofNat 7) (Int.ofNat (size - a))) = true → (call 75 [(AV.int .u8 (Int.ofNat (l.getD k 0))), (AV.int .i64 (Int.ofNat (size - a))), (AV.bool sg)] h = .ok (AV.bool (lastB (l.getD k 0) (size - a) sg)) h ∧ ((notB (lastB (l.getD k 0) (size - a) sg) = true → Kr [some vb, some (AV.int .i64 (Int.ofNat size)), some (AV.bool sg), some (AV.int .u64 (Int.ofNat 0)), some (AV.int .i64 (Int.ofNat 0)), some (AV.int .i64 (Int.ofNat a)), some (AV.int .i64 (Int.ofNat 2))] h) ∧ (notB (lastB (l.getD k 0) (size - a) sg) = false → (evQ (.bin .and (.const (AV.int .u8 (Int.ofNat (l.getD k 0)))) (.const (AV.int .u8 (Int.ofNat 127)))) .lf H0 = .ok (AV.int .u8 (Int.ofNat ((l.getD k 0) &&& 127))) ∧ (evQ (.toInt .u64 (.const (AV.int .u8 (Int.ofNat ((l.getD k 0) &&& 127))))) .lf H0 = .ok (AV.int .u64 (Int.ofNat ((l.getD k 0) &&& 127))) ∧ (evQ (.bin .shl (.const (AV.int .u64 (Int.ofNat ((l.getD k 0) &&& 127)))) (.const (AV.int .i64 (Int.ofNat a)))) .lf H0 = .ok (AV.int .u64 (Int.ofNat (((l.getD k 0) &&& 127) * 2 ^ a % 18446744073709551616))) ∧ (evQ (.bin .or (.const (AV.int .u64 (Int.ofNat v))) (.const (AV.int .u64 (Int.ofNat (((l.getD k 0) &&& 127) * 2 ^ a % 18446744073709551616))))) .lf H0 = .ok (AV.int .u64 (Int.ofNat (v ||| (((l.getD k 0) &&& 127) * 2 ^ a % 18446744073709551616)))) ∧ (evQ (.bin .and (.const (AV.int .u8 (Int.ofNat (l.getD k 0)))) (.const (AV.int .u8 (Int.ofNat 128)))) .lf H0 = .ok (AV.int .u8 (Int.ofNat ((l.getD k 0) &&& 128))) ∧ ((notB (eqI (Int.ofNat ((l.getD k 0) &&& 128)) (Int.ofNat 0)) = true → (evQ (.bin .add (.const (AV.int .i64 (Int.ofNat a))) (.const (AV.int .i64 (Int.ofNat 7)))) .lf H0 = .ok (AV.int .i64 (Int.ofNat (a + 7))) ∧ Kn [some vb, some (AV.int .i64 (Int.ofNat size)), some (AV.bool sg), some (AV.int .u64 (Int.ofNat (v ||| (((l.getD k 0) &&& 127) * 2 ^ a % 18446744073709551616)))), some (AV.int .i64 (Int.ofNat (k + 1))), some (AV.int .i64 (Int.ofNat (a + 7))), some (AV.int .i64 (Int.ofNat 0))] h)) ∧ (notB (eqI (Int.ofNat ((l.getD k 0) &&& 128)) (Int.ofNat 0)) = false → ((sg = true → (evQ (.bin .and (.const (AV.int .u8 (Int.ofNat (l.getD k 0)))) (.const (AV.int .u8 (Int.ofNat 64)))) .lf H0 = .ok (AV.int .u8 (Int.ofNat ((l.getD k 0) &&& 64))) ∧ ((notB (eqI (Int.ofNat ((l.getD k 0) &&& 64)) (Int.ofNat 0)) = true → (evQ (.bin .add (.const (AV.int .i64 (Int.ofNat a))) (.const (AV.int .i64 (Int.ofNat 7)))) .lf H0 = .ok (AV.int .i64 (Int.ofNat (a + 7))) ∧ ((ltI (Int.ofNat (a + 7)) (Int.ofNat 64) = true → (evQ (.bin .add (.const (AV.int .i64 (Int.ofNat a))) (.const (AV.int .i64 (Int.ofNat 7)))) .lf H0 = .ok (AV.int .i64 (Int.ofNat (a + 7))) ∧ (evQ (.bin .shl (.const (AV.int .u64 (Int.ofNat 18446744073709551615))) (.const (AV.int .i64 (Int.ofNat (a + 7))))) .lf H0 = .ok (AV.int .u64 (Int.ofNat (18446744073709551615 * 2 ^ (a + 7) % 18446744073709551616))) ∧ (evQ (.bin .or (.const (AV.int .u64 (Int.ofNat (v ||| (((l.getD k 0) &&& 127) * 2 ^ a % 18446744073709551616))))) (.const (AV.int .u64 (Int.ofNat (18446744073709551615 * 2 ^ (a + 7) % 18446744073709551616))))) .lf H0 = .ok (AV.int .u64 (Int.ofNat ((v ||| (((l.getD k 0) &&& 127) * 2 ^ a % 18446744073709551616)) ||| (18446744073709551615 * 2 ^ (a + 7) % 18446744073709551616)))) ∧ Kr [some vb, some (AV.int .i64 (Int.ofNat size)), some (AV.bool sg), some (AV.int .u64 (Int.ofNat ((v ||| (((l.getD k 0) &&& 127) * 2 ^ a % 18446744073709551616)) ||| (18446744073709551615 * 2 ^ (a + 7) % 18446744073709551616)))), some (AV.int .i64 (Int.ofNat (k + 1))), some (AV.int .i64 (Int.ofNat a)), some (AV.int .i64 (Int.ofNat 0))] h)))) ∧ (ltI (Int.ofNat (a + 7)) (Int.ofNat 64) = false → Kr [some vb, some (AV.int .i64 (Int.ofNat size)), some (AV.bool sg), some (AV.int .u64 (Int.ofNat (v ||| (((l.getD k 0) &&& 127) * 2 ^ a % 18446744073709551616)))), some (AV.int .i64 (Int.ofNat (k + 1))), some (AV.int .i64 (Int.ofNat a)), some (AV.int .i64 (Int.ofNat 0))] h)))) ∧ (notB (eqI (Int.ofNat ((l.getD k 0) &&& 64)) (Int.ofNat 0)) = false → Kr [some vb, some (AV.int .i64 (Int.ofNat size)), some (AV.bool sg), some (AV.int .u64 (Int.ofNat (v ||| (((l.getD k 0) &&& 127) * 2 ^ a % 18446744073709551616)))), some (AV.int .i64 (Int.ofNat (k + 1))), some (AV.int .i64 (Int.ofNat a)), some (AV.int .i64 (Int.ofNat 0))] h)))) ∧ (sg = false → Kr [some vb, some (AV.int .i64 (Int.ofNat size)), some (AV.bool sg), some (AV.int .u64 (Int.ofNat (v ||| (((l.getD k 0) &&& 127) * 2 ^ a % 18446744073709551616)))), some (AV.int .i64 (Int.ofNat (k + 1))), some (AV.int .i64 (Int.ofNat a)), some (AV.int .i64 (Int.ofNat 0))] h))))))))))))) ∧ (notB (ltI (Int.ofNat 7) (Int.ofNat (size - a))) = false → (evQ (.bin .and (.const (AV.int .u8 (Int.ofNat (l.getD k 0)))) (.const (AV.int .u8 (Int.ofNat 127)))) .lf H0 = .ok (AV.int .u8 (Int.ofNat ((l.getD k 0) &&& 127))) ∧ (evQ (.toInt .u64 (.const (AV.int .u8 (Int.ofNat ((l.getD k 0) &&& 127))))) .lf H0 = .ok (AV.int .u64 (Int.ofNat ((l.getD k 0) &&& 127))) ∧ (evQ (.bin .shl (.const (AV.int .u64 (Int.ofNat ((l.getD k 0) &&& 127)))) (.const (AV.int .i64 (Int.ofNat a)))) .lf H0 = .ok (AV.int .u64 (Int.ofNat (((l.getD k 0) &&& 127) * 2 ^ a % 18446744073709551616))) ∧ (evQ (.bin .or (.const (AV.int .u64 (Int.ofNat v))) (.const (AV.int .u64 (Int.ofNat (((l.getD k 0) &&& 127) * 2 ^ a % 18446744073709551616))))) .lf H0 = .ok (AV.int .u64 (Int.ofNat (v ||| (((l.getD k 0) &&& 127) * 2 ^ a % 18446744073709551616)))) ∧ (evQ (.bin .and (.const (AV.int .u8 (Int.ofNat (l.getD k 0)))) (.const (AV.int .u8 (Int.ofNat 128)))) .lf H0 = .ok (AV.int .u8 (Int.ofNat ((l.getD k 0) &&& 128))) ∧ ((notB (eqI (Int.ofNat ((l.getD k 0) &&& 128)) (Int.ofNat 0)) = true → (evQ (.bin .add (.const (AV.int .i64 (Int.ofNat a))) (.const (AV.int .i64 (Int.ofNat 7)))) .lf H0 = .ok (AV.int .i64 (Int.ofNat (a + 7))) ∧ Kn [some vb, some (AV.int .i64 (Int.ofNat size)), some (AV.bool sg), some (AV.int .u64 (Int.ofNat (v ||| (((l.getD k 0) &&& 127) * 2 ^ a % 18446744073709551616)))), some (AV.int .i64 (Int.ofNat (k + 1))), some (AV.int .i64 (Int.ofNat (a + 7))), some (AV.int .i64 (Int.ofNat 0))] h)) ∧ (notB (eqI (Int.ofNat ((l.getD k 0) &&& 128)) (Int.ofNat 0)) = false → ((sg = true → (evQ (.bin .and (.const (AV.int .u8 (Int.ofNat (l.getD k 0)))) (.const (AV.int .u8 (Int.ofNat 64)))) .lf H0 = .ok (AV.int .u8 (Int.ofNat ((l.getD k 0) &&& 64))) ∧ ((notB (eqI (Int.ofNat ((l.getD k 0) &&& 64)) (Int.ofNat 0)) = true → (evQ (.bin .add (.const (AV.int .i64 (Int.ofNat a))) (.const (AV.int .i64 (Int.ofNat 7)))) .lf H0 = .ok (AV.int .i64 (Int.ofNat (a + 7))) ∧ ((ltI (Int.ofNat (a + 7)) (Int.ofNat 64) = true → (evQ (.bin .add (.const (AV.int .i64 (Int.ofNat a))) (.const (AV.int .i64 (Int.ofNat 7)))) .lf H0 = .ok (AV.int .i64 (Int.ofNat (a + 7))) ∧ (evQ (.bin .shl (.const (AV.int .u64 (Int.ofNat 18446744073709551615))) (.const (AV.int .i64 (Int.ofNat (a + 7))))) .lf H0 = .ok (AV.int .u64 (Int.ofNat (18446744073709551615 * 2 ^ (a + 7) % 18446744073709551616))) ∧ (evQ (.bin .or (.const (AV.int .u64 (Int.ofNat (v ||| (((l.getD k 0) &&& 127) * 2 ^ a % 18446744073709551616))))) (.const (AV.int .u64 (Int.ofNat (18446744073709551615 * 2 ^ (a + 7) % 18446744073709551616))))) .lf H0 = .ok (AV.int .u64 (Int.ofNat ((v ||| (((l.getD k 0) &&& 127) * 2 ^ a % 18446744073709551616)) ||| (18446744073709551615 * 2 ^ (a + 7) % 18446744073709551616)))) ∧ Kr [some vb, some (AV.int .i64 (Int.ofNat size)), some (AV.bool sg), some (AV.int .u64 (Int.ofNat ((v ||| (((l.getD k 0) &&& 127) * 2 ^ a % 18446744073709551616)) ||| (18446744073709551615 * 2 ^ (a + 7) % 18446744073709551616)))), some (AV.int .i64 (Int.ofNat (k + 1))), some (AV.int .i64 (Int.ofNat a)), some (AV.int .i64 (Int.ofNat 0))] h)))) ∧ (ltI (Int.ofNat (a + 7)) (Int.ofNat 64) = false → Kr [some vb, some (AV.int .i64 (Int.ofNat size)), some (AV.bool sg), some (AV.int .u64 (Int.ofNat (v ||| (((l.getD k 0) &&& 127) * 2 ^ a % 18446744073709551616)))), some (AV.int .i64 (Int.ofNat (k + 1))), some (AV.int .i64 (Int.ofNat a)), some (AV.int .i64 (Int.ofNat 0))] h)))) ∧ (notB (eqI (Int.ofNat ((l.getD k 0) &&& 64)) (Int.ofNat 0)) = false → Kr [some vb, some (AV.int .i64 (Int.ofNat size)), some (AV.bool sg), some (AV.int .u64 (Int.ofNat (v ||| (((l.getD k 0) &&& 127) * 2 ^ a % 18446744073709551616)))), some (AV.int .i64 (Int.ofNat (k + 1))), some (AV.int .i64 (Int.ofNat a)), some (AV.int .i64 (Int.ofNat 0))] h)))) ∧ (sg = false → Kr [some vb, some (AV.int .i64 (Int.ofNat size)), some (AV.bool sg), some (AV.int .u64 (Int.ofNat (v ||| (((l.getD k 0) &&& 127) * 2 ^ a % 18446744073709551616)))), some (AV.int .i64 (Int.ofNat (k + 1))), some (AV.int .i64 (Int.ofNat a)), some (AV.int .i64 (Int.ofNat 0))] h))))))))))))))))))) (by kernel_rfl) ?_
  refine ⟨q_len hb, ?_⟩
  refine ⟨fun c1 => ?_, fun c1 => ?_⟩
  · have rc1 := c1
    replace c1 : k = l.length := eqI_t c1
    exact k0 c1
  · have rc1 := c1
    replace c1 : k ≠ l.length := eqI_f c1
    refine ⟨q_idxB hb (by omega), ?_⟩
    refine ⟨q_byte hb (by omega), ?_⟩
    have x2 : l.getD k 0 < 256 := getD_lt hb.lt k
    refine ⟨q_add (by omega), ?_⟩
    refine ⟨q_sub (by omega) (by omega), ?_⟩
    refine ⟨fun c3 => ?_, fun c3 => ?_⟩
    · have rc3 := c3
      replace c3 : size - a ≤ 7 := ltI_f (notB_t c3)
      refine ⟨hlast _ _ _ _ x2 (by omega) (by omega), ?_⟩
      refine ⟨fun c4 => ?_, fun c4 => ?_⟩
      · have rc4 := c4
        replace c4 : lastB (l.getD k 0) (size - a) sg = false := notB_t c4
        exact k1 c1 c3 c4
      · have rc4 := c4
        replace c4 : lastB (l.getD k 0) (size - a) sg = true := notB_f c4
        refine ⟨u_and rfl x2 (by decide), ?_⟩
        have g5 : (l.getD k 0) &&& 127 < 256 := Nat.lt_of_le_of_lt Nat.and_le_left x2
        refine ⟨u_conv' rfl (Nat.lt_of_lt_of_le g5 (by decide)), ?_⟩
        have g6 : (l.getD k 0) &&& 127 < 18446744073709551616 := Nat.lt_of_lt_of_le g5 (by decide)
        refine ⟨u_shl rfl, ?_⟩
        have g7 : ((l.getD k 0) &&& 127) * 2 ^ a % 18446744073709551616 < 18446744073709551616 := Nat.mod_lt _ (by decide)
        refine ⟨u_or rfl hv g7, ?_⟩
        have g8 : v ||| (((l.getD k 0) &&& 127) * 2 ^ a % 18446744073709551616) < 18446744073709551616 := Nat.or_lt_two_pow (n := 64) hv g7
        refine ⟨u_and rfl x2 (by decide), ?_⟩
        have g9 : (l.getD k 0) &&& 128 < 256 := Nat.lt_of_le_of_lt Nat.and_le_left x2
        refine ⟨fun c10 => ?_, fun c10 => ?_⟩
        · have rc10 := c10
          replace c10 : (l.getD k 0) &&& 128 ≠ 0 := eqI_f (notB_t c10)
          refine ⟨q_add (by omega), ?_⟩
          exact k2 c1 c3 c4 c10
        · have rc10 := c10
          replace c10 : (l.getD k 0) &&& 128 = 0 := eqI_t (notB_f c10)
          refine ⟨fun c11 => ?_, fun c11 => ?_⟩
          · have rc11 := c11
            refine ⟨u_and rfl x2 (by decide), ?_⟩
            have g12 : (l.getD k 0) &&& 64 < 256 := Nat.lt_of_le_of_lt Nat.and_le_left x2
            refine ⟨fun c13 => ?_, fun c13 => ?_⟩
            · have rc13 := c13
              replace c13 : (l.getD k 0) &&& 64 ≠ 0 := eqI_f (notB_t c13)
              refine ⟨q_add (by omega), ?_⟩
              refine ⟨fun c14 => ?_, fun c14 => ?_⟩
              · have rc14 := c14
                replace c14 : a + 7 < 64 := ltI_t c14
                refine ⟨q_add (by omega), ?_⟩
                refine ⟨u_shl rfl, ?_⟩
                have g15 : 18446744073709551615 * 2 ^ (a + 7) % 18446744073709551616 < 18446744073709551616 := Nat.mod_lt _ (by decide)
                refine ⟨u_or rfl g8 g15, ?_⟩
                have g16 : (v ||| (((l.getD k 0) &&& 127) * 2 ^ a % 18446744073709551616)) ||| (18446744073709551615 * 2 ^ (a + 7) % 18446744073709551616) < 18446744073709551616 := Nat.or_lt_two_pow (n := 64) g8 g15
                exact k3 c1 c3 c4 c10 c11 c13 c14
              · have rc14 := c14
                replace c14 : 64 ≤ a + 7 := ltI_f c14
                exact k4 c1 c3 c4 c10 c11 c13 c14
            · have rc13 := c13
              replace c13 : (l.getD k 0) &&& 64 = 0 := eqI_t (notB_f c13)
              exact k5 c1 c3 c4 c10 c11 c13
          · have rc11 := c11
            exact k6 c1 c3 c4 c10 c11
    · have rc3 := c3
      replace c3 : 7 < size - a := ltI_t (notB_f c3)
      refine ⟨u_and rfl x2 (by decide), ?_⟩
      have g4 : (l.getD k 0) &&& 127 < 256 := Nat.lt_of_le_of_lt Nat.and_le_left x2
      refine ⟨u_conv' rfl (Nat.lt_of_lt_of_le g4 (by decide)), ?_⟩
      have g5 : (l.getD k 0) &&& 127 < 18446744073709551616 := Nat.lt_of_lt_of_le g4 (by decide)
      refine ⟨u_shl rfl, ?_⟩
      have g6 : ((l.getD k 0) &&& 127) * 2 ^ a % 18446744073709551616 < 18446744073709551616 := Nat.mod_lt _ (by decide)
      refine ⟨u_or rfl hv g6, ?_⟩
      have g7 : v ||| (((l.getD k 0) &&& 127) * 2 ^ a % 18446744073709551616) < 18446744073709551616 := Nat.or_lt_two_pow (n := 64) hv g6
      refine ⟨u_and rfl x2 (by decide), ?_⟩
      have g8 : (l.getD k 0) &&& 128 < 256 := Nat.lt_of_le_of_lt Nat.and_le_left x2
      refine ⟨fun c9 => ?_, fun c9 => ?_⟩
      · have rc9 := c9
        replace c9 : (l.getD k 0) &&& 128 ≠ 0 := eqI_f (notB_t c9)
        refine ⟨q_add (by omega), ?_⟩
        exact k7 c1 c3 c9
      · have rc9 := c9
        replace c9 : (l.getD k 0) &&& 128 = 0 := eqI_t (notB_f c9)
        refine ⟨fun c10 => ?_, fun c10 => ?_⟩
        · have rc10 := c10
          refine ⟨u_and rfl x2 (by decide), ?_⟩
          have g11 : (l.getD k 0) &&& 64 < 256 := Nat.lt_of_le_of_lt Nat.and_le_left x2
          refine ⟨fun c12 => ?_, fun c12 => ?_⟩
          · have rc12 := c12
            replace c12 : (l.getD k 0) &&& 64 ≠ 0 := eqI_f (notB_t c12)
            refine ⟨q_add (by omega), ?_⟩
            refine ⟨fun c13 => ?_, fun c13 => ?_⟩
            · have rc13 := c13
              replace c13 : a + 7 < 64 := ltI_t c13
              refine ⟨q_add (by omega), ?_⟩
              refine ⟨u_shl rfl, ?_⟩
              have g14 : 18446744073709551615 * 2 ^ (a + 7) % 18446744073709551616 < 18446744073709551616 := Nat.mod_lt _ (by decide)
              refine ⟨u_or rfl g7 g14, ?_⟩
              have g15 : (v ||| (((l.getD k 0) &&& 127) * 2 ^ a % 18446744073709551616)) ||| (18446744073709551615 * 2 ^ (a + 7) % 18446744073709551616) < 18446744073709551616 := Nat.or_lt_two_pow (n := 64) g7 g14
              exact k8 c1 c3 c9 c10 c12 c13
            · have rc13 := c13
              replace c13 : 64 ≤ a + 7 := ltI_f c13
              exact k9 c1 c3 c9 c10 c12 c13
          · have rc12 := c12
            replace c12 : (l.getD k 0) &&& 64 = 0 := eqI_t (notB_f c12)
            exact k10 c1 c3 c9 c10 c12
        · have rc10 := c10
          exact k11 c1 c3 c9 c10
theorem read_loop {call : CallT} {N : Nat} {t : T} {h : Hp} {B : Nat} {vb : AV} {sg : Bool} {l : List Nat} (hb : Bytes B h vb l) (hk2 : l.length < 9223372036854775000) {size : Nat} (h1 : 1 ≤ size) (hs : size ≤ 64) (hlast : ∀ x left s h, x < 256 → 1 ≤ left → left ≤ 64 → call 75 [.int .u8 (.ofNat x), .int .i64 (.ofNat left), .bool s] h = .ok (.bool (lastB x left s)) h) (hN : l.length < N)
    (h0 : slots [0, 1, 2, 6, 7, 9, 8] t = [some vb, some (.int .i64 (.ofNat size)), some (.bool sg), some (.int .u64 (.ofNat 0)), some (.int .i64 (.ofNat 0)), some (.int .i64 (.ofNat 0)), some (.int .i64 (.ofNat 0))]) :
    ∃ t', evC call N (.loop readC) t h = .ret t' h ∧ Has [(6, .int .u64 (.ofNat (readG size sg l 0 0 0).1)), (7, .int .i64 (.ofNat (readG size sg l 0 0 0).2.1)), (8, .int .i64 (.ofNat (readG size sg l 0 0 0).2.2))] t' := by
  refine Exists.elim (loop_ok (call := call) (N := N) (body := readC) [0, 1, 2, 6, 7, 9, 8]
    (fun n ls h' => h' = h ∧ ∃ k a v, ls = [some vb, some (.int .i64 (.ofNat size)), some (.bool sg), some (.int .u64 (.ofNat v)), some (.int .i64 (.ofNat k)), some (.int .i64 (.ofNat a)), some (.int .i64 (.ofNat 0))] ∧
      n = l.length - k ∧ k ≤ l.length ∧ v < 18446744073709551616 ∧ a < size ∧ readG size sg (l.drop k) a k v = readG size sg l 0 0 0)
    (fun _ _ _ => False)
    (fun ls h' => h' = h ∧ ∃ x0 x1 x2 x3, ls = [x0, x1, x2, some (.int .u64 (.ofNat (readG size sg l 0 0 0).1)), some (.int .i64 (.ofNat (readG size sg l 0 0 0).2.1)), x3, some (.int .i64 (.ofNat (readG size sg l 0 0 0).2.2))])
    ?_ (l.length - 0) (by omega) t h ⟨rfl, 0, 0, 0, h0, rfl, Nat.zero_le _, by decide, by omega, rfl⟩) ?_
  rotate_left
  · rintro s ⟨e, hs'⟩
    cases s with
    | no => exact hs'.elim
    | nor t' h' => exact hs'.elim
    | exit i t' h' => exact hs'.elim
    | ret t' h' =>
      obtain ⟨rfl, x0, x1, x2, x3, hh⟩ := hs'
      refine ⟨t', e, ?_⟩
      have hh : [tget (pathOf 0) t', tget (pathOf 1) t', tget (pathOf 2) t', tget (pathOf 6) t', tget (pathOf 7) t', tget (pathOf 9) t', tget (pathOf 8) t'] = _ := hh
      simp only [List.cons.injEq] at hh
      obtain ⟨-, -, -, g6, g7, -, g8, -⟩ := hh
      show [tget (pathOf 6) t', tget (pathOf 7) t', tget (pathOf 8) t'] = _
      rw [g6, g7, g8]; rfl
  · rintro n t h' ⟨rfl, k, a, v, hsl, rfl, hk, hv, ha, hR⟩
    have ht := ovT_eq (l := [(0, vb), (1, .int .i64 (.ofNat size)), (2, .bool sg), (6, .int .u64 (.ofNat v)), (7, .int .i64 (.ofNat k)), (9, .int .i64 (.ofNat a)), (8, .int .i64 (.ofNat 0))]) hsl
    rw [← ht]
    have hd : k ≠ l.length → l.drop k = l.getD k 0 :: l.drop (k + 1) := fun hne => drop_cons (by omega)
    have hx := getD_lt hb.lt k
    have go : ∀ v', k ≠ l.length → v' < 18446744073709551616 → a + 7 < size → readG size sg (l.drop (k + 1)) (a + 7) (k + 1) v' = readG size sg l 0 0 0 →
        ∃ m, m < l.length - k ∧ h' = h' ∧ ∃ k' a' v'', [some vb, some (.int .i64 (.ofNat size)), some (.bool sg), some (.int .u64 (.ofNat v')), some (.int .i64 (.ofNat (k + 1))), some (.int .i64 (.ofNat (a + 7))), some (.int .i64 (.ofNat 0))] =
          [some vb, some (.int .i64 (.ofNat size)), some (.bool sg), some (.int .u64 (.ofNat v'')), some (.int .i64 (.ofNat k')), some (.int .i64 (.ofNat a')), some (.int .i64 (.ofNat 0))] ∧
          m = l.length - k' ∧ k' ≤ l.length ∧ v'' < 18446744073709551616 ∧ a' < size ∧ readG size sg (l.drop k') a' k' v'' = readG size sg l 0 0 0 :=
      fun v' hne h1 h2 h3 => ⟨l.length - (k + 1), by omega, rfl, k + 1, a + 7, v', rfl, rfl, by omega, h1, h2, h3⟩
    have fin : ∀ X Y Z : Nat, readG size sg (l.drop k) a k v = (X, Y, Z) → h' = h' ∧ ∃ x0 x1 x2 x3, [some vb, some (.int .i64 (.ofNat size)), some (.bool sg), some (.int .u64 (.ofNat X)), some (.int .i64 (.ofNat Y)), some (.int .i64 (.ofNat a)), some (.int .i64 (.ofNat Z))] =
        [x0, x1, x2, some (.int .u64 (.ofNat (readG size sg l 0 0 0).1)), some (.int .i64 (.ofNat (readG size sg l 0 0 0).2.1)), x3, some (.int .i64 (.ofNat (readG size sg l 0 0 0).2.2))] := by
      intro X Y Z e
      rw [hR] at e
      rw [e]
      exact ⟨rfl, _, _, _, _, rfl⟩
    have g5 : (l.getD k 0 &&& 127) * 2 ^ a % 18446744073709551616 < 18446744073709551616 := Nat.mod_lt _ (by decide)
    have g6 := or64 hv g5
    refine read_body hb hk2 hv ha hs hk hlast ?_ ?_ ?_ ?_ ?_ ?_ ?_ ?_ ?_ ?_ ?_ ?_
    · intro c1; exact fin _ _ _ (by rw [c1, List.drop_length]; rfl)
    · intro c1 c2 c3; exact fin _ _ _ (by rw [hd c1, readG, if_pos ⟨c2, c3⟩])
    · intro c1 c2 c3 c4; exact absurd (lastB_small c3) c4
    · intro c1 c2 c3 c4 c5 c6 c7; exact fin _ _ _ (by rw [hd c1, readG, if_neg (by rw [c3]; simp), if_neg (fun hh => hh c4), if_pos ⟨c5, c6, c7⟩])
    · intro c1 c2 c3 c4 c5 c6 c7; exact fin _ _ _ (by rw [hd c1, readG, if_neg (by rw [c3]; simp), if_neg (fun hh => hh c4), if_neg (fun hh => by have := hh.2.2; omega)])
    · intro c1 c2 c3 c4 c5 c6; exact fin _ _ _ (by rw [hd c1, readG, if_neg (by rw [c3]; simp), if_neg (fun hh => hh c4), if_neg (fun hh => hh.2.1 c6)])
    · intro c1 c2 c3 c4 c5; exact fin _ _ _ (by rw [hd c1, readG, if_neg (by rw [c3]; simp), if_neg (fun hh => hh c4), if_neg (fun hh => by rw [c5] at hh; exact absurd hh.1 (by decide))])
    · intro c1 c2 c4; exact go _ c1 g6 (by omega) (by rw [← hR, hd c1, readG, if_neg (fun hh => by have := hh.1; omega), if_pos c4])
    · intro c1 c2 c4 c5 c6 c7; exact fin _ _ _ (by rw [hd c1, readG, if_neg (fun hh => by have := hh.1; omega), if_neg (fun hh => hh c4), if_pos ⟨c5, c6, c7⟩])
    · intro c1 c2 c4 c5 c6 c7; exact fin _ _ _ (by rw [hd c1, readG, if_neg (fun hh => by have := hh.1; omega), if_neg (fun hh => hh c4), if_neg (fun hh => by have := hh.2.2; omega)])
    · intro c1 c2 c4 c5 c6; exact fin _ _ _ (by rw [hd c1, readG, if_neg (fun hh => by have := hh.1; omega), if_neg (fun hh => hh c4), if_neg (fun hh => hh.2.1 c6)])
    · intro c1 c2 c4 c5; exact fin _ _ _ (by rw [hd c1, readG, if_neg (fun hh => by have := hh.1; omega), if_neg (fun hh => hh c4), if_neg (fun hh => by rw [c5] at hh; exact absurd hh.1 (by decide))])
theorem read_walk {call : CallT} {N : Nat} {h : Hp} {B : Nat} {vb : AV} {sg : Bool} {l : List Nat} (hb : Bytes B h vb l) (hk2 : l.length < 9223372036854775000) {size : Nat} (h1 : 1 ≤ size) (hs : size ≤ 64) (hlast : ∀ x left s h, x < 256 → 1 ≤ left → left ≤ 64 → call 75 [.int .u8 (.ofNat x), .int .i64 (.ofNat left), .bool s] h = .ok (.bool (lastB x left s)) h) (hN : l.length < N)
    : ∃ rv rh, evF1 (progS Try.prog (compDrawn Try.prog)) N call 56 [vb, (AV.int .i64 (Int.ofNat size)), (AV.bool sg)] h = .ok rv rh ∧ (fun (v : AV) (h' : Hp) => h' = h ∧ v = .tuple [.int .u64 (.ofNat (readG size sg l 0 0 0).1), .int .i64 (.ofNat (readG size sg l 0 0 0).2.1), .int .i64 (.ofNat (readG size sg l 0 0 0).2.2)]) rv rh := by
  refine fwalk_ok (o := (.lpx 4 (fun e1 => (.ret (ovT [(6, (AV.int .u64 (Int.ofNat ((readG size sg l 0 0 0).1)))), (7, (AV.int .i64 (Int.ofNat ((readG size sg l 0 0 0).2.1)))), (8, (AV.int .i64 (Int.ofNat ((readG size sg l 0 0 0).2.2))))] e1.t) h)) (fun e1 => .fin))) (p := (∃ e1 : Ev, evC call N (.loop readC) (ovT [(0, vb), (1, (AV.int .i64 (Int.ofNat size))), (2, (AV.bool sg)), (6, (AV.int .u64 (Int.ofNat 0))), (7, (AV.int .i64 (Int.ofNat 0))), (8, (AV.int .i64 (Int.ofNat 0))), (9, (AV.int .i64 (Int.ofNat 0)))] .lf) h = (.ret (ovT [(6, (AV.int .u64 (Int.ofNat ((readG size sg l 0 0 0).1)))), (7, (AV.int .i64 (Int.ofNat ((readG size sg l 0 0 0).2.1)))), (8, (AV.int .i64 (Int.ofNat ((readG size sg l 0 0 0).2.2))))] e1.t) h) ∧ True ∧ (fun (v : AV) (h' : Hp) => h' = h ∧ v = .tuple [.int .u64 (.ofNat (readG size sg l 0 0 0).1), .int .i64 (.ofNat (readG size sg l 0 0 0).2.1), .int .i64 (.ofNat (readG size sg l 0 0 0).2.2)]) (AV.tuple [(AV.int .u64 (Int.ofNat ((readG size sg l 0 0 0).1))), (AV.int .i64 (Int.ofNat ((readG size sg l 0 0 0).2.1))), (AV.int .i64 (Int.ofNat ((readG size sg l 0 0 0).2.2)))]) h)) (by kernel_rfl) ?_
  obtain ⟨t1, q1, w1⟩ := read_loop (N := N) (call := call) (t := ovT [(0, vb), (1, (AV.int .i64 (Int.ofNat size))), (2, (AV.bool sg)), (6, (AV.int .u64 (Int.ofNat 0))), (7, (AV.int .i64 (Int.ofNat 0))), (8, (AV.int .i64 (Int.ofNat 0))), (9, (AV.int .i64 (Int.ofNat 0)))] .lf) hb hk2 h1 hs hlast hN (by kernel_rfl)
  refine ⟨⟨.nilPtr, t1, h⟩, (by rw [q1]; exact congrArg (fun t => RS.ret t h) (ovT_eq w1).symm), trivial, ?_⟩
  exact ⟨rfl, rfl⟩
theorem clone_sl {call : CallT} {N : Nat} {h : Hp} {B : Nat} {l : List Nat} (hB : B ≤ h.next) (hlen : l.length ≤ 1099511627776) {b o n c : Nat} {ex : Bool} (hb : Bytes B h (AV.slice b o n c 1 ex) l)
    : ∃ rv rh, evF1 (progS Try.prog (compDrawn Try.prog)) N call 59 [(AV.slice b o n c 1 ex)] h = .ok rv rh ∧ (fun (v : AV) (h' : Hp) => Owned 1 B h' v l.length (u8s l) ∧ Old B h h' ∧ B ≤ h'.next) rv rh := by
  refine fwalk_ok (o := (.effx 5 (fun e5 => e5.v) (fun e5 => .fin))) (p := (∃ e5 : Ev, evE (.append 1 1 (.const (AV.slice (Hp.next h) 0 0 0 1 true)) (.const (AV.slice b o n c 1 ex))) call .lf (hpush h (mkCells [] 0)) = .ok e5.v e5.h ∧ (fun (v : AV) (h' : Hp) => Owned 1 B h' v l.length (u8s l) ∧ Old B h h' ∧ B ≤ h'.next) e5.v e5.h)) (by kernel_rfl) ?_
  have f1 := (own_lit (sz := 1) (B := B) (n := 0) (h := h) (xs := []) hB rfl)
  have f2 := (hb.old (Old.push hB (mkCells [] 0)))
  have l3 : B ≤ (hpush h (mkCells [] 0)).next := (Nat.le_succ_of_le hB)
  have d4 := ((Old.refl B h).trans (Old.push hB (mkCells [] 0)))
  obtain ⟨e5, qe5, oe5, pe5, ne5⟩ := append_ev (sz := 1) (bytes := 1) (B := B) (n := 0) (L := []) (m := l.length) (xs := u8s l) call l3 f1 (fun z k => src_bytes f2 z k) (u8s_len1 _) (by omega) (by omega)
  refine ⟨e5, qe5, ?_⟩
  have f6 := (f2.old pe5)
  have d7 := (d4.trans pe5)
  refine ⟨?_, d7, ne5⟩
  simpa using oe5
theorem clone_nil {call : CallT} {N : Nat} {h : Hp} {B : Nat} {l : List Nat} (hB : B ≤ h.next) (hlen : l.length ≤ 1099511627776) (hl : l = [])
    : ∃ rv rh, evF1 (progS Try.prog (compDrawn Try.prog)) N call 59 [AV.nilSlice] h = .ok rv rh ∧ (fun (v : AV) (h' : Hp) => Owned 1 B h' v l.length (u8s l) ∧ Old B h h' ∧ B ≤ h'.next) rv rh := by
  refine fwalk_ok (o := .fin) (p := (fun (v : AV) (h' : Hp) => Owned 1 B h' v l.length (u8s l) ∧ Old B h h' ∧ B ≤ h'.next) AV.nilSlice h) (by kernel_rfl) ?_
  subst hl
  exact ⟨.nil, .refl B h, hB⟩
theorem clone_walk {call : CallT} {N : Nat} {h : Hp} {B : Nat} {l : List Nat} (hB : B ≤ h.next) (hlen : l.length ≤ 1099511627776) {vb : AV} (hb : Bytes B h vb l) :
    ∃ v h', evF1 (progS Try.prog (compDrawn Try.prog)) N call 59 [vb] h = .ok v h' ∧ (fun (v : AV) (h' : Hp) => Owned 1 B h' v l.length (u8s l) ∧ Old B h h' ∧ B ≤ h'.next) v h' := by
  cases hb with
  | nil => exact clone_nil hB hlen rfl
  | sl hB' hg hcl hl hm hc hb => exact clone_sl hB hlen (.sl hB' hg hcl hl hm hc hb)
theorem put_walk {call : CallT} {N : Nat} {h : Hp} {B : Nat} {vb vl : AV} {l m : List Nat} (hB : B ≤ h.next) (hb : Bytes B h vb l) (hm : Bytes B h vl m) (hlen : l.length ≤ 1099511627776) (hlen2 : m.length ≤ 1099511627776) (hclone : ∀ {B : Nat} {h : Hp} {vb : AV} {l : List Nat}, B ≤ h.next → l.length ≤ 1099511627776 → Bytes B h vb l → ∃ v h', call 59 [vb] h = .ok v h' ∧ Owned 1 B h' v l.length (u8s l) ∧ Old B h h' ∧ B ≤ h'.next)
    : ∃ rv rh, evF1 (progS Try.prog (compDrawn Try.prog)) N call 55 [vb, vl] h = .ok rv rh ∧ (fun (v : AV) (h' : Hp) => Owned 1 B h' v (l.length + m.length) (u8s (l ++ m)) ∧ Old B h h' ∧ B ≤ h'.next) rv rh := by
  refine fwalk_ok (o := (.effx 2 (fun e1 => e1.v) (fun e1 => (.effx 1 (fun e5 => e5.v) (fun e5 => .fin))))) (p := (∃ e1 : Ev, call 59 [vb] h = .ok e1.v e1.h ∧ (∃ e5 : Ev, evE (.append 1 1 (.const e1.v) (.const vl)) call .lf e1.h = .ok e5.v e5.h ∧ (fun (v : AV) (h' : Hp) => Owned 1 B h' v (l.length + m.length) (u8s (l ++ m)) ∧ Old B h h' ∧ B ≤ h'.next) e5.v e5.h))) (by kernel_rfl) ?_
  obtain ⟨ve1, he1, qe1, oe1, pe1, ne1⟩ := hclone hB (by omega) hb
  obtain ⟨e1, rfl, rfl⟩ : ∃ e : Ev, ve1 = e.v ∧ he1 = e.h := ⟨⟨ve1, .lf, he1⟩, rfl, rfl⟩
  refine ⟨e1, qe1, ?_⟩
  have f2 := (hb.old pe1)
  have f3 := (hm.old pe1)
  have d4 := ((Old.refl B h).trans pe1)
  obtain ⟨e5, qe5, oe5, pe5, ne5⟩ := append_ev (sz := 1) (bytes := 1) (B := B) (n := l.length) (L := u8s l) (m := m.length) (xs := u8s m) call ne1 oe1 (fun z k => src_bytes f3 z k) (u8s_len1 _) (by omega) (by omega)
  refine ⟨e5, qe5, ?_⟩
  have f6 := (f2.old pe5)
  have f7 := (f3.old pe5)
  have d8 := (d4.trans pe5)
  refine ⟨?_, d8, ne5⟩
  rw [← u8s_append]
  exact oe5
theorem lebH_lt (n v : Nat) (h : v < 128 ^ n * 128) : ∀ x ∈ lebH v, x < 256 := fun x hx => lebU_lt (n + 1) v (by rw [Nat.pow_succ]; exact h) x (by rw [lebU_eq]; exact List.mem_append_left _ hx)
noncomputable def putUC : AC := (.seq (.seq (.region [⟨(some 6), .q (.move (.tmp 1)), none⟩, ⟨(some 7), .q (.bin .gtr (.tmp 6) (.const (AV.int .u64 (Int.ofNat 127)))), none⟩]) (.cond (.tmp 7) .skip (.exit 0))) (.block 1 (.seq (.region [⟨(some 8), .q (.move (.tmp 5)), none⟩, ⟨(some 9), .q (.move (.tmp 1)), none⟩, ⟨(some 10), .q (.toInt .u8 (.tmp 9)), none⟩, ⟨(some 11), .q (.bin .or (.tmp 10) (.const (AV.int .u8 (Int.ofNat 128)))), none⟩, ⟨(some 12), .l (.buildSlice 1 1 [(AV.int .u8 (Int.ofNat 0))] [(0, 1, (.tmp 11))]), none⟩, ⟨(some 13), .e (.append 1 1 (.tmp 8) (.tmp 12)), none⟩, ⟨(some 5), .q (.move (.tmp 13)), none⟩]) (.region [⟨(some 14), .q (.move (.tmp 1)), none⟩, ⟨(some 15), .q (.bin .shr (.tmp 14) (.const (AV.int .u64 (Int.ofNat 7)))), none⟩, ⟨(some 1), .q (.move (.tmp 15)), none⟩]))))
theorem putU_body {call : CallT} {N : Nat} {t : T} {h : Hp} {B n : Nat} {v : Nat} {vb vs : AV} {pre : List Nat} (hB : B ≤ h.next) (ho : Owned 1 B h vs n (u8s pre)) (hv : v < 18446744073709551616) (hn : n ≤ 2199023255552)
    {Kn : List (Option AV) → Hp → Prop} {Ke : Nat → List (Option AV) → Hp → Prop} {Kr : List (Option AV) → Hp → Prop}
    (k0 : 127 < v → ∀ e8 : Ev, Owned 1 B e8.h e8.v (n + 1) ((u8s pre) ++ [(AV.int .u8 (Int.ofNat ((v % 256) ||| 128)))]) → Old B (hpush h (mkCells [(AV.int .u8 (Int.ofNat ((v % 256) ||| 128)))] 1)) e8.h → B ≤ e8.h.next → Kn [some vb, some (AV.int .u64 (Int.ofNat (v / 2 ^ 7))), some e8.v] e8.h)
    (k1 : v ≤ 127 → Ke 0 [some vb, some (AV.int .u64 (Int.ofNat v)), some vs] h)
    : ∃ s, evC call N putUC (ovT [(0, vb), (1, (AV.int .u64 (Int.ofNat v))), (5, vs)] t) h = s ∧ obsS [0, 1, 5] Kn Ke Kr s := by
  refine walk_ok (o := (.fork 1 (.tell 2 (AV.int .u8 (Int.ofNat (v % 256))) (.tell 0 (AV.int .u8 (Int.ofNat ((v % 256) ||| 128))) (.effx 1 (fun e8 => e8.v) (fun e8 => (.tell 2 (AV.int .u64 (Int.ofNat (v / 2 ^ 7))) .fin))))) .fin)) (p := ((ltI (Int.ofNat 127) (Int.ofNat v) = true → (evQ (.toInt .u8 (.const (AV.int .u64 (Int.ofNat v)))) .lf H0 = .ok (AV.int .u8 (Int.ofNat (v % 256))) ∧ (evQ (.bin .or (.const (AV.int .u8 (Int.ofNat (v % 256)))) (.const (AV.int .u8 (Int.ofNat 128)))) .lf H0 = .ok (AV.int .u8 (Int.ofNat ((v % 256) ||| 128))) ∧ (∃ e8 : Ev, evE (.append 1 1 (.const vs) (.const (AV.slice (Hp.next h) 0 1 1 1 true))) call .lf (hpush h (mkCells [(AV.int .u8 (Int.ofNat ((v % 256) ||| 128)))] 1)) = .ok e8.v e8.h ∧ (evQ (.bin .shr (.const (AV.int .u64 (Int.ofNat v))) (.const (AV.int .u64 (Int.ofNat 7)))) .lf H0 = .ok (AV.int .u64 (Int.ofNat (v / 2 ^ 7))) ∧ Kn [some vb, some (AV.int .u64 (Int.ofNat (v / 2 ^ 7))), some e8.v] e8.h))))) ∧ (ltI (Int.ofNat 127) (Int.ofNat v) = false → Ke 0 [some vb, some (AV.int .u64 (Int.ofNat v)), some vs] h))) (by kernel_rfl) ?_
  refine ⟨fun c1 => ?_, fun c1 => ?_⟩
  · have rc1 := c1
    replace c1 : 127 < v := ltI_t c1
    refine ⟨u_conv rfl, ?_⟩
    have g2 : v % 256 < 256 := Nat.mod_lt _ (by decide)
    refine ⟨u_or rfl g2 (by decide), ?_⟩
    have g3 : (v % 256) ||| 128 < 256 := Nat.or_lt_two_pow (n := 8) g2 (by decide)
    have f4 := (ho.push (mkCells [(AV.int .u8 (Int.ofNat ((v % 256) ||| 128)))] 1))
    have f5 := (own_lit (sz := 1) (B := B) (n := 1) (h := h) (xs := [(AV.int .u8 (Int.ofNat ((v % 256) ||| 128)))]) hB rfl)
    have l6 : B ≤ (hpush h (mkCells [(AV.int .u8 (Int.ofNat ((v % 256) ||| 128)))] 1)).next := (Nat.le_succ_of_le hB)
    have d7 := ((Old.refl B h).trans (Old.push hB (mkCells [(AV.int .u8 (Int.ofNat ((v % 256) ||| 128)))] 1)))
    obtain ⟨e8, qe8, oe8, pe8, ne8⟩ := append_ev (sz := 1) (bytes := 1) (B := B) (n := n) (L := u8s pre) (m := 1) (xs := [(AV.int .u8 (Int.ofNat ((v % 256) ||| 128)))]) call l6 f4 (fun z k => src_owned f5) (f5.len) (by omega) (by omega)
    refine ⟨e8, qe8, ?_⟩
    have d9 := (d7.trans pe8)
    refine ⟨u_shr rfl hv, ?_⟩
    have g10 : v / 2 ^ 7 < 18446744073709551616 := Nat.lt_of_le_of_lt (Nat.div_le_self _ _) hv
    exact k0 c1 e8 oe8 pe8 ne8
  · have rc1 := c1
    replace c1 : v ≤ 127 := ltI_f c1
    exact k1 c1
theorem putU_loop {call : CallT} {N : Nat} {t : T} {h : Hp} {B n : Nat} {v0 : Nat} {vb vs : AV} {pre : List Nat} (hB : B ≤ h.next) (ho : Owned 1 B h vs n (u8s pre)) (hv : v0 < 18446744073709551616) (hn : n ≤ 1099511627777) (hN : 10 < N)
    (h0 : slots [0, 1, 5] t = [some vb, some (AV.int .u64 (.ofNat v0)), some vs]) :
    ∃ e : Ev, evC call N (.loop putUC) t h = .exit 0 (ovT [(0, vb), (1, (AV.int .u64 (.ofNat (lebL v0)))), (5, e.v)] e.t) e.h ∧ Owned 1 B e.h e.v (n + (lebH v0).length) (u8s pre ++ u8s (lebH v0)) ∧ Old B h e.h ∧ B ≤ e.h.next := by
  refine Exists.elim (loop_ok (call := call) (N := N) (body := putUC) [0, 1, 5]
    (fun j ls h' => ∃ v s pre' k, ls = [some vb, some (AV.int .u64 (.ofNat v)), some s] ∧ v < 128 ^ (j + 1) ∧ v < 18446744073709551616 ∧ Owned 1 B h' s k (u8s pre') ∧ k + j ≤ n + 9 ∧ k + (lebH v).length = n + (lebH v0).length ∧ pre' ++ lebH v = pre ++ lebH v0 ∧ lebL v = lebL v0 ∧ Old B h h' ∧ B ≤ h'.next)
    (fun i ls h' => i = 0 ∧ ∃ s, ls = [some vb, some (AV.int .u64 (.ofNat (lebL v0))), some s] ∧ Owned 1 B h' s (n + (lebH v0).length) (u8s (pre ++ lebH v0)) ∧ Old B h h' ∧ B ≤ h'.next)
    (fun _ _ => False) ?_ 9 (by omega) t h ⟨v0, vs, pre, n, h0, by omega, hv, ho, by omega, rfl, rfl, rfl, .refl B h, hB⟩) ?_
  rotate_left
  · rintro s ⟨e, hs⟩
    cases s with
    | no => exact hs.elim
    | nor t' h' => exact hs.elim
    | ret t' h' => exact hs.elim
    | exit i t' h' =>
      obtain ⟨rfl, s, hh, o1, p1, n1⟩ := hs
      rw [u8s_append]
      exact ⟨⟨s, t', h'⟩, e.trans (congrArg (fun t => RS.exit 0 t h') (ovT_eq (l := [(0, vb), (1, (AV.int .u64 (.ofNat (lebL v0)))), (5, s)]) hh).symm), o1, p1, n1⟩
  · rintro j t h' ⟨v, s, pre', k, hsl, hvj, hv', ho', hk, hkk, hpre, hL, hp, hnx⟩
    rw [← ovT_eq (l := [(0, vb), (1, (AV.int .u64 (.ofNat v))), (5, s)]) hsl]
    have fin : v < 128 → 0 = 0 ∧ ∃ s', [some vb, some (AV.int .u64 (.ofNat v)), some s] = [some vb, some (AV.int .u64 (.ofNat (lebL v0))), some s'] ∧ Owned 1 B h' s' (n + (lebH v0).length) (u8s (pre ++ lebH v0)) ∧ Old B h h' ∧ B ≤ h'.next := fun hlo => by
      rw [lebH_lo hlo] at hpre hkk
      rw [lebL_lo hlo] at hL
      rw [List.append_nil] at hpre
      rw [← hpre, ← hL, ← hkk]
      exact ⟨rfl, s, rfl, ho', hp, hnx⟩
    have go : ∀ e : Ev, Owned 1 B e.h e.v (k + 1) (u8s pre' ++ [AV.int .u8 (Int.ofNat (v % 256 ||| 128))]) → Old B (hpush h' (mkCells [AV.int .u8 (Int.ofNat (v % 256 ||| 128))] 1)) e.h → B ≤ e.h.next → 128 ≤ v →
        ∃ m, m < j ∧ ∃ v' s' pre'' k', [some vb, some (AV.int .u64 (.ofNat (v / 2 ^ 7))), some e.v] = [some vb, some (AV.int .u64 (.ofNat v')), some s'] ∧ v' < 128 ^ (m + 1) ∧ v' < 18446744073709551616 ∧ Owned 1 B e.h s' k' (u8s pre'') ∧ k' + m ≤ n + 9 ∧ k' + (lebH v').length = n + (lebH v0).length ∧ pre'' ++ lebH v' = pre ++ lebH v0 ∧ lebL v' = lebL v0 ∧ Old B h e.h ∧ B ≤ e.h.next := by
      intro e o' p' n' hge
      cases j with
      | zero => exact absurd hvj (by omega)
      | succ j =>
        rw [lebH_hi hge] at hpre hkk
        rw [lebL_hi hge] at hL
        have h2 : 128 ^ (j + 1 + 1) = 128 ^ (j + 1) * 128 := Nat.pow_succ _ _
        rw [h2] at hvj
        refine ⟨j, Nat.lt_succ_self _, v / 128, e.v, pre' ++ [v % 256 ||| 128], k + 1, rfl, by omega, by omega, ?_, by omega, by rw [← hkk, List.length_cons]; omega, by rw [← hpre]; simp, hL, hp.trans ((Old.push hnx _).trans p'), n'⟩
        rw [← u8s_append]; exact o'
    refine putU_body hnx ho' hv' (by omega) ?_ ?_
    · intro c0 e o' p' n'; exact go e o' p' n' (by omega)
    · intro c0; exact fin (by omega)
theorem putU_walk {call : CallT} {N : Nat} {h : Hp} {B : Nat} {vb : AV} {l : List Nat} {v : Nat} (hB : B ≤ h.next) (hb : Bytes B h vb l) (hlen : l.length ≤ 1099511627776) (hv : v < 18446744073709551616) (hN : 10 < N) (hput : ∀ {B : Nat} {h : Hp} {vb vl : AV} {l m : List Nat}, B ≤ h.next → Bytes B h vb l → Bytes B h vl m → l.length ≤ 1099511627776 → m.length ≤ 1099511627776 → ∃ v h', call 55 [vb, vl] h = .ok v h' ∧ Owned 1 B h' v (l.length + m.length) (u8s (l ++ m)) ∧ Old B h h' ∧ B ≤ h'.next)
    : ∃ rv rh, evF1 (progS Try.prog (compDrawn Try.prog)) N call 16 [vb, (AV.int .u64 (Int.ofNat v))] h = .ok rv rh ∧ (fun (v' : AV) (h' : Hp) => Owned 1 B h' v' (l.length + (lebU v).length) (u8s (l ++ lebU v)) ∧ Old B h h' ∧ B ≤ h'.next) rv rh := by
  have hx9 : (lebH v).length ≤ 9 := lebH_len 9 v (by omega)
  refine fwalk_ok (o := (.lpx 2 (fun e1 => (.exit 0 (ovT [(0, vb), (1, (AV.int .u64 (Int.ofNat (lebL v)))), (5, e1.v)] e1.t) e1.h)) (fun e1 => (.tell 3 (AV.int .u8 (Int.ofNat ((lebL v) % 256))) (.effx 1 (fun e8 => e8.v) (fun e8 => (.effx 0 (fun e11 => e11.v) (fun e11 => .fin)))))))) (p := (∃ e1 : Ev, evC call N (.loop putUC) (ovT [(0, vb), (1, (AV.int .u64 (Int.ofNat v))), (4, AV.nilSlice), (5, AV.nilSlice)] .lf) h = (.exit 0 (ovT [(0, vb), (1, (AV.int .u64 (Int.ofNat (lebL v)))), (5, e1.v)] e1.t) e1.h) ∧ True ∧ (evQ (.toInt .u8 (.const (AV.int .u64 (Int.ofNat (lebL v))))) .lf H0 = .ok (AV.int .u8 (Int.ofNat ((lebL v) % 256))) ∧ (∃ e8 : Ev, evE (.append 1 1 (.const e1.v) (.const (AV.slice (Hp.next e1.h) 0 1 1 1 true))) call .lf (hpush e1.h (mkCells [(AV.int .u8 (Int.ofNat ((lebL v) % 256)))] 1)) = .ok e8.v e8.h ∧ (∃ e11 : Ev, call 55 [vb, e8.v] e8.h = .ok e11.v e11.h ∧ (fun (v' : AV) (h' : Hp) => Owned 1 B h' v' (l.length + (lebU v).length) (u8s (l ++ lebU v)) ∧ Old B h h' ∧ B ≤ h'.next) e11.v e11.h))))) (by kernel_rfl) ?_
  obtain ⟨e1, qe1, oe1, pe1, ne1⟩ := putU_loop (N := N) (call := call) (t := ovT [(0, vb), (1, (AV.int .u64 (Int.ofNat v))), (4, AV.nilSlice), (5, AV.nilSlice)] .lf) (n := 0) (pre := []) hB Owned.nil hv (by omega) hN (by kernel_rfl)
  refine ⟨e1, qe1, trivial, ?_⟩
  refine ⟨u_conv rfl, ?_⟩
  have g2 : (lebL v) % 256 < 256 := Nat.mod_lt _ (by decide)
  have f3 := (oe1.push (mkCells [(AV.int .u8 (Int.ofNat ((lebL v) % 256)))] 1))
  have f4 := (own_lit (sz := 1) (B := B) (n := 1) (h := e1.h) (xs := [(AV.int .u8 (Int.ofNat ((lebL v) % 256)))]) ne1 rfl)
  have f5 := ((hb.old pe1).old (Old.push ne1 (mkCells [(AV.int .u8 (Int.ofNat ((lebL v) % 256)))] 1)))
  have l6 : B ≤ (hpush e1.h (mkCells [(AV.int .u8 (Int.ofNat ((lebL v) % 256)))] 1)).next := (Nat.le_succ_of_le ne1)
  have d7 := (((Old.refl B h).trans pe1).trans (Old.push ne1 (mkCells [(AV.int .u8 (Int.ofNat ((lebL v) % 256)))] 1)))
  obtain ⟨e8, qe8, oe8, pe8, ne8⟩ := append_ev (sz := 1) (bytes := 1) (B := B) (n := 0 + (lebH v).length) (L := u8s [] ++ u8s (lebH v)) (m := 1) (xs := [(AV.int .u8 (Int.ofNat ((lebL v) % 256)))]) call l6 f3 (fun z k => src_owned f4) (f4.len) (by omega) (by omega)
  refine ⟨e8, qe8, ?_⟩
  have f9 := (f5.old pe8)
  have d10 := (d7.trans pe8)
  have hle11 : u8s [] ++ u8s (lebH v) ++ [AV.int .u8 (Int.ofNat (lebL v % 256))] = u8s (lebH v ++ [lebL v % 256]) := by rw [u8s_one, u8s_append, u8s_append]; rfl
  have hbe11 : Bytes e8.h.next e8.h e8.v (lebH v ++ [lebL v % 256]) := Owned.bytes (hle11 ▸ oe8) (by intro x hx; rcases List.mem_append.1 hx with hx | hx; exact lebH_lt 9 v (by omega) x hx; rw [List.mem_singleton] at hx; subst hx; exact Nat.mod_lt _ (by decide)) (Nat.le_refl _)
  have hxe11 : (lebH v).length ≤ 9 := lebH_len 9 v (by omega)
  obtain ⟨ve11, he11, qe11, oe11, pe11, ne11⟩ := hput (B := e8.h.next) (Nat.le_refl _) (f9.up ne8) hbe11 (by omega) (by rw [List.length_append]; simp only [List.length_cons, List.length_nil]; omega)
  obtain ⟨e11, rfl, rfl⟩ : ∃ e : Ev, ve11 = e.v ∧ he11 = e.h := ⟨⟨ve11, .lf, he11⟩, rfl, rfl⟩
  refine ⟨e11, qe11, ?_⟩
  have f12 := (oe11.low ne8)
  have f13 := (f9.old (pe11.le ne8))
  have l14 : B ≤ e11.h.next := (Nat.le_trans ne8 ne11)
  have d15 := (d10.trans (pe11.le ne8))
  have he : lebH v ++ [lebL v % 256] = lebU v := by rw [lebU_eq, Nat.mod_eq_of_lt (Nat.lt_trans (lebL_lt v) (by decide))]
  refine ⟨?_, d15, l14⟩
  rw [← he]
  exact f12
noncomputable def rputUC : AC := (.seq (.seq (.region [⟨(some 9), .q (.move (.tmp 1)), none⟩, ⟨(some 10), .q (.bin .geq (.tmp 9) (.const (AV.int .u64 (Int.ofNat 128)))), none⟩]) (.cond (.tmp 10) .skip (.exit 0))) (.block 1 (.seq (.region [⟨(some 11), .q (.move (.tmp 5)), none⟩, ⟨(some 12), .q (.move (.tmp 1)), none⟩, ⟨(some 13), .q (.toInt .u8 (.tmp 12)), none⟩, ⟨(some 14), .q (.bin .or (.tmp 13) (.const (AV.int .u8 (Int.ofNat 128)))), none⟩, ⟨(some 15), .l (.buildSlice 1 1 [(AV.int .u8 (Int.ofNat 0))] [(0, 1, (.tmp 14))]), none⟩, ⟨(some 16), .e (.append 1 1 (.tmp 11) (.tmp 15)), none⟩, ⟨(some 5), .q (.move (.tmp 16)), none⟩]) (.region [⟨(some 17), .q (.move (.tmp 1)), none⟩, ⟨(some 18), .q (.bin .shr (.tmp 17) (.const (AV.int .u64 (Int.ofNat 7)))), none⟩, ⟨(some 1), .q (.move (.tmp 18)), none⟩]))))
noncomputable def putSC : AC := (.seq (.seq (.region [⟨(some 6), .q (.move (.tmp 1)), none⟩, ⟨(some 7), .q (.bin .lss (.tmp 6) (.const (AV.int .i64 (Int.negSucc 63)))), none⟩, ⟨(some 8), .q (.move (.tmp 7)), none⟩, ⟨(some 9), .q (.move (.tmp 1)), (some (8, false))⟩, ⟨(some 10), .q (.bin .geq (.tmp 9) (.const (AV.int .i64 (Int.ofNat 64)))), (some (8, false))⟩, ⟨(some 11), .q (.pick (.tmp 8) (.const (AV.bool true)) (.tmp 10)), none⟩]) (.cond (.tmp 11) .skip (.exit 0))) (.block 1 (.seq (.region [⟨(some 12), .q (.move (.tmp 5)), none⟩, ⟨(some 13), .q (.move (.tmp 1)), none⟩, ⟨(some 14), .q (.toInt .u8 (.tmp 13)), none⟩, ⟨(some 15), .q (.bin .or (.tmp 14) (.const (AV.int .u8 (Int.ofNat 128)))), none⟩, ⟨(some 16), .l (.buildSlice 1 1 [(AV.int .u8 (Int.ofNat 0))] [(0, 1, (.tmp 15))]), none⟩, ⟨(some 17), .e (.append 1 1 (.tmp 12) (.tmp 16)), none⟩, ⟨(some 5), .q (.move (.tmp 17)), none⟩]) (.region [⟨(some 18), .q (.move (.tmp 1)), none⟩, ⟨(some 19), .q (.bin .shr (.tmp 18) (.const (AV.int .u64 (Int.ofNat 7)))), none⟩, ⟨(some 1), .q (.move (.tmp 19)), none⟩]))))
noncomputable def rputSC : AC := (.seq (.seq (.region [⟨(some 9), .q (.move (.tmp 1)), none⟩, ⟨(some 10), .q (.bin .lss (.tmp 9) (.const (AV.int .i64 (Int.negSucc 63)))), none⟩, ⟨(some 11), .q (.move (.tmp 10)), none⟩, ⟨(some 12), .q (.move (.tmp 1)), (some (11, false))⟩, ⟨(some 13), .q (.bin .gtr (.tmp 12) (.const (AV.int .i64 (Int.ofNat 63)))), (some (11, false))⟩, ⟨(some 14), .q (.pick (.tmp 11) (.const (AV.bool true)) (.tmp 13)), none⟩]) (.cond (.tmp 14) .skip (.exit 0))) (.block 1 (.seq (.region [⟨(some 15), .q (.move (.tmp 5)), none⟩, ⟨(some 16), .q (.move (.tmp 1)), none⟩, ⟨(some 17), .q (.toInt .u8 (.tmp 16)), none⟩, ⟨(some 18), .q (.bin .or (.tmp 17) (.const (AV.int .u8 (Int.ofNat 128)))), none⟩, ⟨(some 19), .l (.buildSlice 1 1 [(AV.int .u8 (Int.ofNat 0))] [(0, 1, (.tmp 18))]), none⟩, ⟨(some 20), .e (.append 1 1 (.tmp 15) (.tmp 19)), none⟩, ⟨(some 5), .q (.move (.tmp 20)), none⟩]) (.region [⟨(some 21), .q (.move (.tmp 1)), none⟩, ⟨(some 22), .q (.bin .shr (.tmp 21) (.const (AV.int .u64 (Int.ofNat 7)))), none⟩, ⟨(some 1), .q (.move (.tmp 22)), none⟩]))))
end Go.Proofs.Ytejiebbbodealaa
end
section
set_option linter.unusedVariables false
namespace Go.Proofs.Ytejiebbbodealaa
set_option linter.unusedVariables false
open Go Eng
noncomputable def numC : AC := (.seq (.seq (.region [⟨(some 20), .q (.move (.tmp 11)), none⟩, ⟨(some 21), .q (.move (.tmp 10)), none⟩, ⟨(some 22), .q (.bin .lss (.tmp 20) (.tmp 21)), none⟩]) (.cond (.tmp 22) .skip (.exit 0))) (.seq (.block 1 (.seq (.seq (.region [⟨(some 25), .q (.move (.tmp 11)), none⟩, ⟨(some 26), .q (.move (.tmp 0)), none⟩, ⟨(some 27), .q (.lenL (.tmp 26)), none⟩, ⟨(some 28), .q (.bin .geq (.tmp 25) (.tmp 27)), none⟩]) (.cond (.tmp 28) (.seq (.region [⟨(some 6), .q (.move (.const (AV.int .u64 (Int.ofNat 0)))), none⟩, ⟨(some 7), .q (.move (.const (AV.int .i64 (Int.ofNat 0)))), none⟩, ⟨(some 8), .q (.move (.const (AV.int .i64 (Int.ofNat 3)))), none⟩]) .ret) .skip)) (.seq (.region [⟨(some 29), .q (.move (.tmp 0)), none⟩, ⟨(some 30), .q (.move (.tmp 11)), none⟩, ⟨(some 31), .q (.idxAddrSl 1 (.tmp 29) (.tmp 30)), none⟩, ⟨(some 32), .q (.loadS (.tmp 31)), none⟩, ⟨(some 12), .q (.move (.tmp 32)), none⟩]) (.seq (.region [⟨(some 33), .q (.move (.tmp 12)), none⟩, ⟨(some 34), .q (.bin .and (.tmp 33) (.const (AV.int .u8 (Int.ofNat 127)))), none⟩, ⟨(some 35), .q (.toInt .u64 (.tmp 34)), none⟩, ⟨(some 13), .q (.move (.tmp 35)), none⟩]) (.seq (.seq (.region [⟨(some 36), .q (.move (.tmp 11)), none⟩, ⟨(some 37), .q (.move (.tmp 10)), none⟩, ⟨(some 38), .q (.bin .sub (.tmp 37) (.const (AV.int .i64 (Int.ofNat 1)))), none⟩, ⟨(some 39), .q (.eq .int false (.tmp 36) (.tmp 38)), none⟩]) (.cond (.tmp 39) (.seq (.region [⟨(some 40), .q (.move (.tmp 1)), none⟩, ⟨(some 41), .q (.move (.tmp 11)), none⟩, ⟨(some 42), .q (.bin .mul (.const (AV.int .i64 (Int.ofNat 7))) (.tmp 41)), none⟩, ⟨(some 43), .q (.bin .sub (.tmp 40) (.tmp 42)), none⟩, ⟨(some 14), .q (.move (.tmp 43)), none⟩]) (.seq (.region [⟨(some 44), .q (.move (.tmp 13)), none⟩, ⟨(some 45), .q (.move (.tmp 14)), none⟩, ⟨(some 46), .q (.bin .shr (.tmp 44) (.tmp 45)), none⟩, ⟨(some 15), .q (.move (.tmp 46)), none⟩]) (.seq (.seq (.region [⟨(some 47), .q (.move (.tmp 2)), none⟩]) (.cond (.tmp 47) (.region [⟨(some 48), .q (.move (.tmp 13)), none⟩, ⟨(some 49), .q (.move (.tmp 14)), none⟩, ⟨(some 50), .q (.bin .sub (.tmp 49) (.const (AV.int .i64 (Int.ofNat 1)))), none⟩, ⟨(some 51), .q (.bin .shr (.tmp 48) (.tmp 50)), none⟩, ⟨(some 15), .q (.move (.tmp 51)), none⟩]) .skip)) (.seq (.region [⟨(some 52), .q (.move (.tmp 14)), none⟩, ⟨(some 53), .q (.bin .shr (.const (AV.int .u64 (Int.ofNat 127))) (.tmp 52)), none⟩, ⟨(some 16), .q (.move (.tmp 53)), none⟩]) (.seq (.seq (.region [⟨(some 54), .q (.move (.tmp 2)), none⟩]) (.cond (.tmp 54) (.region [⟨(some 55), .q (.move (.tmp 14)), none⟩, ⟨(some 56), .q (.bin .sub (.tmp 55) (.const (AV.int .i64 (Int.ofNat 1)))), none⟩, ⟨(some 57), .q (.bin .shr (.const (AV.int .u64 (Int.ofNat 127))) (.tmp 56)), none⟩, ⟨(some 16), .q (.move (.tmp 57)), none⟩]) .skip)) (.seq (.region [⟨(some 58), .q (.move (.tmp 12)), none⟩, ⟨(some 59), .q (.bin .geq (.tmp 58) (.const (AV.int .u8 (Int.ofNat 128)))), none⟩, ⟨(some 60), .q (.move (.tmp 59)), none⟩, ⟨(some 61), .q (.move (.tmp 15)), (some (60, false))⟩, ⟨(some 62), .q (.eq .int true (.tmp 61) (.const (AV.int .u64 (Int.ofNat 0)))), (some (60, false))⟩, ⟨(some 63), .q (.move (.tmp 62)), (some (60, false))⟩, ⟨(some 64), .q (.move (.tmp 2)), (some (63, true))⟩, ⟨(some 65), .q (.un .not (.tmp 64)), (some (63, true))⟩, ⟨(some 66), .q (.move (.tmp 65)), (some (63, true))⟩, ⟨(some 67), .q (.move (.tmp 15)), (some (66, false))⟩, ⟨(some 68), .q (.move (.tmp 16)), (some (66, false))⟩, ⟨(some 69), .q (.eq .int true (.tmp 67) (.tmp 68)), (some (66, false))⟩, ⟨(some 70), .q (.pick (.tmp 66) (.const (AV.bool true)) (.tmp 69)), (some (63, true))⟩, ⟨(some 71), .q (.pick (.tmp 63) (.tmp 70) (.const (AV.bool false))), (some (60, false))⟩, ⟨(some 72), .q (.pick (.tmp 60) (.const (AV.bool true)) (.tmp 71)), none⟩]) (.cond (.tmp 72) (.seq (.region [⟨(some 6), .q (.move (.const (AV.int .u64 (Int.ofNat 0)))), none⟩, ⟨(some 7), .q (.move (.const (AV.int .i64 (Int.ofNat 0)))), none⟩, ⟨(some 8), .q (.move (.const (AV.int .i64 (Int.ofNat 2)))), none⟩]) .ret) .skip))))))) .skip)) (.seq (.region [⟨(some 73), .q (.move (.tmp 9)), none⟩, ⟨(some 74), .q (.move (.tmp 13)), none⟩, ⟨(some 75), .q (.move (.tmp 11)), none⟩, ⟨(some 76), .q (.bin .mul (.const (AV.int .i64 (Int.ofNat 7))) (.tmp 75)), none⟩, ⟨(some 77), .q (.bin .shl (.tmp 74) (.tmp 76)), none⟩, ⟨(some 78), .q (.bin .or (.tmp 73) (.tmp 77)), none⟩, ⟨(some 9), .q (.move (.tmp 78)), none⟩]) (.seq (.region [⟨(some 79), .q (.move (.tmp 12)), none⟩, ⟨(some 80), .q (.bin .lss (.tmp 79) (.const (AV.int .u8 (Int.ofNat 128)))), none⟩]) (.cond (.tmp 80) (.seq (.seq (.region [⟨(some 81), .q (.move (.tmp 2)), none⟩, ⟨(some 82), .q (.move (.tmp 81)), none⟩, ⟨(some 83), .q (.move (.tmp 12)), (some (82, true))⟩, ⟨(some 84), .q (.bin .and (.tmp 83) (.const (AV.int .u8 (Int.ofNat 64)))), (some (82, true))⟩, ⟨(some 85), .q (.eq .int true (.tmp 84) (.const (AV.int .u8 (Int.ofNat 0)))), (some (82, true))⟩, ⟨(some 86), .q (.pick (.tmp 82) (.tmp 85) (.const (AV.bool false))), none⟩, ⟨(some 87), .q (.move (.tmp 86)), none⟩, ⟨(some 88), .q (.move (.tmp 11)), (some (87, true))⟩, ⟨(some 89), .q (.bin .mul (.const (AV.int .i64 (Int.ofNat 7))) (.tmp 88)), (some (87, true))⟩, ⟨(some 90), .q (.bin .add (.tmp 89) (.const (AV.int .i64 (Int.ofNat 7)))), (some (87, true))⟩, ⟨(some 91), .q (.bin .lss (.tmp 90) (.const (AV.int .i64 (Int.ofNat 64)))), (some (87, true))⟩, ⟨(some 92), .q (.pick (.tmp 87) (.tmp 91) (.const (AV.bool false))), none⟩]) (.cond (.tmp 92) (.region [⟨(some 93), .q (.move (.tmp 9)), none⟩, ⟨(some 94), .q (.move (.tmp 11)), none⟩, ⟨(some 95), .q (.bin .mul (.const (AV.int .i64 (Int.ofNat 7))) (.tmp 94)), none⟩, ⟨(some 96), .q (.bin .add (.tmp 95) (.const (AV.int .i64 (Int.ofNat 7)))), none⟩, ⟨(some 97), .q (.bin .shl (.const (AV.int .u64 (Int.ofNat 18446744073709551615))) (.tmp 96)), none⟩, ⟨(some 98), .q (.bin .or (.tmp 93) (.tmp 97)), none⟩, ⟨(some 9), .q (.move (.tmp 98)), none⟩]) .skip)) (.seq (.region [⟨(some 99), .q (.move (.tmp 9)), none⟩, ⟨(some 100), .q (.move (.tmp 11)), none⟩, ⟨(some 101), .q (.bin .add (.tmp 100) (.const (AV.int .i64 (Int.ofNat 1)))), none⟩, ⟨(some 6), .q (.move (.tmp 99)), none⟩, ⟨(some 7), .q (.move (.tmp 101)), none⟩, ⟨(some 8), .q (.move (.const (AV.int .i64 (Int.ofNat 0)))), none⟩]) .ret)) .skip)))))))) (.region [⟨(some 23), .q (.move (.tmp 11)), none⟩, ⟨(some 24), .q (.bin .add (.tmp 23) (.const (AV.int .i64 (Int.ofNat 1)))), none⟩, ⟨(some 11), .q (.move (.tmp 24)), none⟩])))
end Go.Proofs.Ytejiebbbodealaa
end
section
set_option linter.unusedVariables false
namespace Go.Proofs.Ytejiebbbodealaa
set_option linter.unusedVariables false
open Go Eng
theorem U32_walk {call : CallT} {N : Nat} {h : Hp} {B : Nat} {vb : AV} {l : List Nat} (hb : Bytes B h vb l) (hk2 : l.length < 90000) (hread : ∀ (B : Nat) (h : Hp) (vb : AV) (l : List Nat), Bytes B h vb l → l.length < 90000 → 32 = 32 → call 56 [vb, .int .i64 (.ofNat 32), .bool false] h = .ok (numT .u64 (readG 32 false l 0 0 0)) h)
    : ∃ rv rh, evF1 (progS Try.prog (compDrawn Try.prog)) N call 22 [vb] h = .ok rv rh ∧ (fun (v : AV) (h' : Hp) => h' = h ∧ v = .tuple [.int .u32 ((fun n => .ofNat (n % 4294967296)) (readG 32 false l 0 0 0).1), .int .i64 (.ofNat (readG 32 false l 0 0 0).2.1), .int .i64 (.ofNat (readG 32 false l 0 0 0).2.2)]) rv rh := by
  refine fwalk_ok (o := (.eff 4 (AV.tuple [(AV.int .u64 (Int.ofNat ((readG 32 false l 0 0 0).1))), (AV.int .i64 (Int.ofNat ((readG 32 false l 0 0 0).2.1))), (AV.int .i64 (Int.ofNat ((readG 32 false l 0 0 0).2.2)))]) h (.tell 8 (AV.int .u32 (Int.ofNat (((readG 32 false l 0 0 0).1) % 4294967296))) .fin))) (p := (call 56 [vb, (AV.int .i64 (Int.ofNat 32)), (AV.bool false)] h = .ok (AV.tuple [(AV.int .u64 (Int.ofNat ((readG 32 false l 0 0 0).1))), (AV.int .i64 (Int.ofNat ((readG 32 false l 0 0 0).2.1))), (AV.int .i64 (Int.ofNat ((readG 32 false l 0 0 0).2.2)))]) h ∧ (evQ (.toInt .u32 (.const (AV.int .u64 (Int.ofNat ((readG 32 false l 0 0 0).1))))) .lf H0 = .ok (AV.int .u32 (Int.ofNat (((readG 32 false l 0 0 0).1) % 4294967296))) ∧ (fun (v : AV) (h' : Hp) => h' = h ∧ v = .tuple [.int .u32 ((fun n => .ofNat (n % 4294967296)) (readG 32 false l 0 0 0).1), .int .i64 (.ofNat (readG 32 false l 0 0 0).2.1), .int .i64 (.ofNat (readG 32 false l 0 0 0).2.2)]) (AV.tuple [(AV.int .u32 (Int.ofNat (((readG 32 false l 0 0 0).1) % 4294967296))), (AV.int .i64 (Int.ofNat ((readG 32 false l 0 0 0).2.1))), (AV.int .i64 (Int.ofNat ((readG 32 false l 0 0 0).2.2)))]) h))) (by kernel_rfl) ?_
  refine ⟨hread _ _ _ _ hb (by omega) rfl, ?_⟩
  refine ⟨u_conv rfl, ?_⟩
  have g1 : ((readG 32 false l 0 0 0).1) % 4294967296 < 4294967296 := Nat.mod_lt _ (by decide)
  exact ⟨rfl, rfl⟩
end Go.Proofs.Ytejiebbbodealaa
end
section
set_option linter.unusedVariables false
namespace Go.Proofs.Ytejiebbbodealaa
set_option linter.unusedVariables false
open Go Eng
noncomputable abbrev CC (d : Nat) : CallT := evF (sumT [15, 34, 40]) (progS Try.prog (compDrawn Try.prog)) 100000 d
theorem s_last (d : Nat) : LastS (CC (d + 1)) 75 := fun x left s h hx h1 h2 => by
  rw [CC, evF_at (sumT_none rfl)]
  obtain ⟨v, h', e, rfl, rfl⟩ := last_walk (call := CC d) (N := 100000) (h := h) (sg := s) hx h1 h2
  exact e
theorem s_read (d : Nat) : ReadS (CC (d + 2)) 56 fun size sg l => readG size sg l 0 0 0 := fun B h vb l size sg hb hl hs => by
  rw [CC, evF_at (sumT_none rfl)]
  obtain ⟨v, h', e, rfl, rfl⟩ := read_walk (call := CC (d + 1)) (N := 100000) (h := h) (sg := sg) (size := size) hb (by omega) (by omega) (by omega) (s_last d) (by omega)
  exact e
theorem s_clone (d : Nat) : CloneS (CC (d + 1)) 59 := fun {B h vb l} hB hl hb => by
  rw [CC, evF_at (sumT_none rfl)]
  exact clone_walk (call := CC d) (N := 100000) hB hl hb
theorem s_put (d : Nat) : JoinS (CC (d + 2)) 55 := fun {B h vb vl l m} hB hb hm hl hl2 => by
  rw [CC, evF_at (sumT_none rfl)]
  exact put_walk (call := CC (d + 1)) (N := 100000) hB hb hm hl hl2 (s_clone d)
theorem s_putU (d : Nat) : PutUS (CC (d + 3)) 16 := fun {B h vb l v} hB hb hl hv => by
  rw [CC, evF_at (sumT_none rfl)]
  exact putU_walk (call := CC (d + 2)) (N := 100000) hB hb hl hv (by decide) (s_put d)
theorem s_U32 (d : Nat) : NumS (CC (d + 3)) 22 32 false .u32 (fun n => .ofNat (n % 4294967296)) := fun {B h vb l} hb hl => by
  rw [CC, evF_at (sumT_none rfl)]
  obtain ⟨v, h', e, rfl, rfl⟩ := U32_walk (call := CC (d + 2)) (N := 100000) (h := h) hb hl (fun B h vb l hb hl _ => s_read d B h vb l 32 false hb hl (by decide))
  exact e
theorem begun15 : Eng.isTrue (Eng.evF Eng.noM (progS Try.prog (compDrawn Try.prog)) 1000 40 15 [] Eng.H0) = true := by kernel_rfl
theorem begun34 : Eng.isTrue (Eng.evF Eng.noM (progS Try.prog (compDrawn Try.prog)) 1000 40 34 [] Eng.H0) = true := by kernel_rfl
theorem begun40 : Eng.isTrue (Eng.evF Eng.noM (progS Try.prog (compDrawn Try.prog)) 1000 40 40 [] Eng.H0) = true := by kernel_rfl
theorem trues : Eng.Trues Try.prog [15, 34, 40] := fun f hf => by
  simp only [List.mem_cons, List.not_mem_nil, or_false] at hf
  rcases hf with rfl | rfl | rfl
  · exact Eng.trues_one Eng.compDrawn_ok Eng.noM_ok begun15
  · exact Eng.trues_one Eng.compDrawn_ok Eng.noM_ok begun34
  · exact Eng.trues_one Eng.compDrawn_ok Eng.noM_ok begun40
end Go.Proofs.Ytejiebbbodealaa
end
section
set_option linter.unusedVariables false
set_option linter.unusedSimpArgs false
namespace Eng
open Go Go.RowKit
abbrev Cu := List Nat × Nat × Nat
abbrev Rd := List Nat × Nat
def tyV (x : Nat) : Bool × Nat := if x = 127 ∨ x = 126 ∨ x = 112 ∨ x = 111 then (true, 0) else if x = 125 ∨ x = 124 ∨ x = 123 then (false, 5) else (false, 2)
def refV (x : Nat) : Bool := decide (x = 112 ∨ x = 111)
theorem tyV_e (x : Nat) : (tyV x).2 < 64 := by unfold tyV; split <;> (try split) <;> decide
def cuSkip (k : Nat) (s : Cu) : Cu := (s.1.drop k, s.2.1 + k, s.2.2)
def cuOne (s : Cu) : Nat × Cu := if s.2.2 = 0 then (match s.1 with | [] => (0, ([], s.2.1, 3)) | x :: l => (x, (l, s.2.1 + 1, 0))) else (0, s)
def cuNum (s : Cu) : Nat × Cu := if s.2.2 = 0 then ((readG 32 false s.1 0 0 0).1 % 4294967296, (s.1.drop (readG 32 false s.1 0 0 0).2.1, s.2.1 + (readG 32 false s.1 0 0 0).2.1, (readG 32 false s.1 0 0 0).2.2)) else (0, s)
def cuFail (is : Bool) (e : Nat) (s : Cu) : Cu := if is = true ∧ s.2.2 = 0 then (s.1, s.2.1, e) else s
noncomputable def cuVal (s : Cu) : Nat × Cu := ((cuOne s).1, cuFail (notB (tyV (cuOne s).1).1) (tyV (cuOne s).1).2 (cuOne s).2)
noncomputable def cuValsL : Nat → List Nat → Cu → List Nat × Cu
  | 0, acc, s => (acc, s)
  | k + 1, acc, s => if s.2.2 = 0 then cuValsL k (acc ++ [(cuVal s).1]) (cuVal s).2 else (acc, s)
noncomputable def cuVals (s : Cu) : List Nat × Cu := cuValsL (cuNum s).1 [] (cuFail (ltI (.ofNat 8) (.ofNat (cuNum s).1)) 4 (cuNum s).2)
def rByte (s : Rd) : Nat × Rd := if s.2 = 0 then (match s.1 with | [] => (0, ([], 3)) | x :: l => (x, (l, 0))) else (0, s)
def rFail (e : Nat) (s : Rd) : Rd := if s.2 = 0 then (s.1, e) else s
def rNum (size : Nat) (sg : Bool) (s : Rd) : Nat × Rd := if s.2 = 0 then ((readG size sg s.1 0 0 0).1, (s.1.drop (readG size sg s.1 0 0 0).2.1, (readG size sg s.1 0 0 0).2.2)) else (0, s)
def rVal (s : Rd) : Nat × Rd := ((rByte s).1, if (rByte s).2.2 = 0 then rFail (tyV (rByte s).1).2 (rByte s).2 else (rByte s).2)
def rValsL : Nat → List Nat → Rd → List Nat × Rd
  | 0, acc, s => (acc, s)
  | k + 1, acc, s => if s.2 = 0 then rValsL k (acc ++ [(rVal s).1]) (rVal s).2 else (acc, s)
def rU32 (s : Rd) : Nat × Rd := ((rNum 32 false s).1 % 4294967296, (rNum 32 false s).2)
def rVals (s : Rd) : List Nat × Rd := rValsL (rU32 s).1 [] (if 8 < (rU32 s).1 then rFail 4 (rU32 s).2 else (rU32 s).2)
theorem readG_len {size : Nat} {sg : Bool} : ∀ (l : List Nat) (a n v : Nat), (readG size sg l a n v).2.1 ≤ n + l.length ∧ (readG size sg l a n v).2.2 < 64 ∧ (readG size sg l a n v).2.1 < n + l.length + 1
  | [], a, n, v => by rw [readG]; simp
  | x :: l, a, n, v => by
    rw [readG]
    split
    · simp
    · split
      · have := readG_len (size := size) (sg := sg) l (a + 7) (n + 1) (v ||| ((x &&& 127) * 2 ^ a % 18446744073709551616))
        simp only [List.length_cons]; omega
      · split
        · simp only [List.length_cons]; omega
        · simp only [List.length_cons]; omega
theorem cuOne_bd (s : Cu) : (cuOne s).2.1.length + (cuOne s).2.2.1 ≤ s.1.length + s.2.1 ∧ (s.2.2 < 64 → (cuOne s).2.2.2 < 64) ∧ (cuOne s).2.1.length ≤ s.1.length := by
  unfold cuOne
  split
  · split
    · rename_i h; rw [h]; simp
    · rename_i h; rw [h]; simp only [List.length_cons]; omega
  · simp
theorem cuNum_bd (s : Cu) : (cuNum s).2.1.length + (cuNum s).2.2.1 ≤ s.1.length + s.2.1 ∧ (s.2.2 < 64 → (cuNum s).2.2.2 < 64) ∧ (cuNum s).2.1.length ≤ s.1.length ∧ (cuNum s).1 < 4294967296 := by
  unfold cuNum
  split
  · have := readG_len (size := 32) (sg := false) s.1 0 0 0
    simp only [List.length_drop]; omega
  · simp
theorem cuFail_bd (is : Bool) (e : Nat) (s : Cu) : (cuFail is e s).1 = s.1 ∧ (cuFail is e s).2.1 = s.2.1 ∧ (s.2.2 < 64 → e < 64 → (cuFail is e s).2.2 < 64) := by
  unfold cuFail; split <;> simp_all
theorem cuFail_bd2 (is : Bool) (e : Nat) (s : Cu) : (cuFail is e s).1.length = s.1.length ∧ (cuFail is e s).2.1 = s.2.1 ∧ (s.2.2 < 64 → e < 64 → (cuFail is e s).2.2 < 64) := by
  have h := cuFail_bd is e s
  rw [h.1]; exact ⟨rfl, h.2⟩
theorem ltN_iff (a b : Nat) : ltI (.ofNat a) (.ofNat b) = true ↔ a < b := by rw [ltI_eq]; simp
theorem vals_start (s : Cu) (h : s.1.length + s.2.1 < 80000) (he : s.2.2 < 64) :
    (cuFail (ltI (.ofNat 8) (.ofNat (cuNum s).1)) 4 (cuNum s).2).1.length + (cuFail (ltI (.ofNat 8) (.ofNat (cuNum s).1)) 4 (cuNum s).2).2.1 < 80000 ∧ (cuFail (ltI (.ofNat 8) (.ofNat (cuNum s).1)) 4 (cuNum s).2).2.2 < 64 ∧
    ((cuFail (ltI (.ofNat 8) (.ofNat (cuNum s).1)) 4 (cuNum s).2).2.2 = 0 → (cuNum s).1 ≤ 8) ∧ ([] : List Nat).length + (if (cuFail (ltI (.ofNat 8) (.ofNat (cuNum s).1)) 4 (cuNum s).2).2.2 = 0 then (cuNum s).1 else 0) ≤ 8 ∧ (cuNum s).1 < 4294967296 := by
  have h1 := cuNum_bd s
  have h2 := cuFail_bd (ltI (.ofNat 8) (.ofNat (cuNum s).1)) 4 (cuNum s).2
  have h3 : (cuFail (ltI (.ofNat 8) (.ofNat (cuNum s).1)) 4 (cuNum s).2).2.2 = 0 → (cuNum s).1 ≤ 8 := fun h0 => by
    by_cases h8 : 8 < (cuNum s).1
    · exfalso
      unfold cuFail at h0
      by_cases hz : (cuNum s).2.2.2 = 0
      · rw [if_pos ⟨(ltN_iff _ _).2 h8, hz⟩] at h0; cases h0
      · rw [if_neg (fun hh => hz hh.2)] at h0; exact hz h0
    · omega
  refine ⟨by rw [h2.1, h2.2.1]; omega, h2.2.2 (h1.2.1 he) (by decide), h3, ?_, h1.2.2.2⟩
  rw [List.length_nil]
  split
  · have := h3 ‹_›; omega
  · omega
theorem cuOne_lt {s : Cu} (h : ∀ x ∈ s.1, x < 256) : (cuOne s).1 < 256 := by
  unfold cuOne
  split
  · split
    · simp
    · rename_i y l h1; exact h _ (by rw [h1]; simp)
  · simp
abbrev cuC (vb : AV) (s : Cu) (rest : List AV) : List AV := vb :: .int .i64 (.ofNat s.2.1) :: .int .i64 (.ofNat s.2.2) :: rest
def CuM (call : CallT) (f : Nat) (args : List AV) (res : Cu → AV) (st : Cu → Cu) : Prop := ∀ {h h0 : Hp} {G : Nat → Prop} {R : List AObj} {b : Nat} {vb : AV} (s : Cu) (rest : List AV), BIn G h0 vb s.1 → s.1.length + s.2.1 < 80000 → s.2.2 < 64 → Sep (Cel b (cuC vb s rest) :: Frz G h0 :: R) h →
  ∃ v' h', call f (.ptr b 0 :: args) h = .ok (res s) h' ∧ BIn G h0 v' (st s).1 ∧ Sep (Cel b (cuC v' (st s) rest) :: Frz G h0 :: R) h'
def CuV (call : CallT) (f : Nat) (res : Cu → List Nat) (st : Cu → Cu) : Prop := ∀ {h h0 : Hp} {G : Nat → Prop} {R : List AObj} {b : Nat} {vb : AV} (s : Cu) (rest : List AV), BIn G h0 vb s.1 → s.1.length + s.2.1 < 80000 → s.2.2 < 64 → Sep (Cel b (cuC vb s rest) :: Frz G h0 :: R) h →
  ∃ w v' h', call f [.ptr b 0] h = .ok w h' ∧ BIn G h0 v' (st s).1 ∧ Sep (OwnO 1 w (res s).length (u8s (res s)) :: Cel b (cuC v' (st s) rest) :: Frz G h0 :: R) h'
abbrev rdC (vb : AV) (s : Rd) (rest : List AV) : List AV := vb :: .int .i64 (.ofNat s.2) :: rest
def RdM (call : CallT) (f : Nat) (args : List AV) (res : Rd → AV) (st : Rd → Rd) : Prop := ∀ {h h0 : Hp} {G : Nat → Prop} {R : List AObj} {b : Nat} {vb : AV} (s : Rd) (rest : List AV), BIn G h0 vb s.1 → s.1.length < 80000 → s.2 < 64 → Sep (Cel b (rdC vb s rest) :: Frz G h0 :: R) h →
  ∃ v' h', call f (.ptr b 0 :: args) h = .ok (res s) h' ∧ BIn G h0 v' (st s).1 ∧ Sep (Cel b (rdC v' (st s) rest) :: Frz G h0 :: R) h'
def RdV (call : CallT) (f : Nat) (res : Rd → List Nat) (st : Rd → Rd) : Prop := ∀ {h h0 : Hp} {G : Nat → Prop} {R : List AObj} {b : Nat} {vb : AV} (s : Rd) (rest : List AV), BIn G h0 vb s.1 → s.1.length < 80000 → s.2 < 64 → Sep (Cel b (rdC vb s rest) :: Frz G h0 :: R) h →
  ∃ w v' h', call f [.ptr b 0] h = .ok w h' ∧ BIn G h0 v' (st s).1 ∧ Sep (OwnO 1 w (res s).length (u8s (res s)) :: Cel b (rdC v' (st s) rest) :: Frz G h0 :: R) h'
def ValS (call : CallT) (f : Nat) : Prop := ∀ (x : Nat) (h : Hp), x < 256 → call f [.int .u8 (.ofNat x)] h = .ok (.tuple [.bool (tyV x).1, .int .i64 (.ofNat (tyV x).2)]) h
def RefS (call : CallT) (f : Nat) : Prop := ∀ (x : Nat) (h : Hp), x < 256 → call f [.int .u8 (.ofNat x)] h = .ok (.bool (refV x)) h
noncomputable def fS (l : List Nat) : Cu := cuFail (notB (eqI (.ofNat (cuOne (l, 0, 0)).1) (.ofNat 96))) 2 (cuOne (l, 0, 0)).2
noncomputable def takeF (l : List Nat) : (List Nat × List Nat) × Nat × Nat :=
  if (cuVals (cuVals (fS l)).2).2.2.2 = 0 then (((cuVals (fS l)).1, (cuVals (cuVals (fS l)).2).1), (cuVals (cuVals (fS l)).2).2.2.1, 0) else (([], []), 0, (cuVals (cuVals (fS l)).2).2.2.2)
noncomputable def lS (l : List Nat) : Cu := cuFail (ltI (.ofNat 1) (.ofNat (cuOne (l, 0, 0)).1)) 2 (cuOne (l, 0, 0)).2
noncomputable def takeL (l : List Nat) : (Nat × Nat × Bool) × Nat × Nat :=
  if (cuOne (l, 0, 0)).1 = 1 then (if (cuNum (cuNum (lS l)).2).2.2.2 = 0 then (((cuNum (lS l)).1, (cuNum (cuNum (lS l)).2).1, true), (cuNum (cuNum (lS l)).2).2.2.1, 0) else ((0, 0, false), 0, (cuNum (cuNum (lS l)).2).2.2.2))
  else (if (cuNum (lS l)).2.2.2 = 0 then (((cuNum (lS l)).1, 0, false), (cuNum (lS l)).2.2.1, 0) else ((0, 0, false), 0, (cuNum (lS l)).2.2.2))
def TakeFS (call : CallT) (f : Nat) (g : List Nat → (List Nat × List Nat) × Nat × Nat) : Prop := ∀ {h h0 : Hp} {G : Nat → Prop} {R : List AObj} {vb : AV} (l : List Nat), BIn G h0 vb l → l.length < 70000 → Sep (Frz G h0 :: R) h →
  ∃ p q h', call f [vb] h = .ok (.tuple [.agg [p, q], .int .i64 (.ofNat (g l).2.1), .int .i64 (.ofNat (g l).2.2)]) h' ∧ Sep (OwnO 1 p (g l).1.1.length (u8s (g l).1.1) :: OwnO 1 q (g l).1.2.length (u8s (g l).1.2) :: Frz G h0 :: R) h'
def TakeLS (call : CallT) (f : Nat) (g : List Nat → (Nat × Nat × Bool) × Nat × Nat) : Prop := ∀ {h h0 : Hp} {G : Nat → Prop} {R : List AObj} {vb : AV} (l : List Nat), BIn G h0 vb l → l.length < 70000 → Sep (Frz G h0 :: R) h →
  ∃ h', call f [vb] h = .ok (.tuple [.agg [.int .u32 (.ofNat (g l).1.1), .int .u32 (.ofNat (g l).1.2.1), .bool (g l).1.2.2], .int .i64 (.ofNat (g l).2.1), .int .i64 (.ofNat (g l).2.2)]) h' ∧ Sep (Frz G h0 :: R) h'
theorem cuValsL_bd : ∀ (k : Nat) (acc : List Nat) (s : Cu), (cuValsL k acc s).2.1.length + (cuValsL k acc s).2.2.1 ≤ s.1.length + s.2.1 ∧ (s.2.2 < 64 → (cuValsL k acc s).2.2.2 < 64)
  | 0, acc, s => by unfold cuValsL; simp
  | k + 1, acc, s => by
    unfold cuValsL
    split
    · have h1 := cuValsL_bd k (acc ++ [(cuVal s).1]) (cuVal s).2
      have h2 := cuOne_bd s
      have h3 := cuFail_bd (notB (tyV (cuOne s).1).1) (tyV (cuOne s).1).2 (cuOne s).2
      have h4 : (cuVal s).2 = cuFail (notB (tyV (cuOne s).1).1) (tyV (cuOne s).1).2 (cuOne s).2 := rfl
      rw [h4] at h1 ⊢
      rw [h3.1, h3.2.1] at h1
      exact ⟨by omega, fun h => h1.2 (h3.2.2 (h2.2.1 h) (tyV_e _))⟩
    · simp
theorem cuVals_bd (s : Cu) : (cuVals s).2.1.length + (cuVals s).2.2.1 ≤ s.1.length + s.2.1 ∧ (s.2.2 < 64 → (cuVals s).2.2.2 < 64) := by
  have h1 := cuNum_bd s
  have h2 := cuFail_bd (ltI (.ofNat 8) (.ofNat (cuNum s).1)) 4 (cuNum s).2
  have h3 := cuValsL_bd (cuNum s).1 [] (cuFail (ltI (.ofNat 8) (.ofNat (cuNum s).1)) 4 (cuNum s).2)
  rw [h2.1, h2.2.1] at h3
  unfold cuVals
  exact ⟨by omega, fun h => h3.2 (h2.2.2 (h1.2.1 h) (by decide))⟩
noncomputable def rfS (s : Rd) : Rd := if (rByte s).1 = 96 then (rByte s).2 else rFail 2 (rByte s).2
noncomputable def rFT (s : Rd) : (List Nat × List Nat) × Rd := (((rVals (rfS s)).1, (rVals (rVals (rfS s)).2).1), (rVals (rVals (rfS s)).2).2)
noncomputable def rlS (s : Rd) : Rd := if 1 < (rByte s).1 then rFail 2 (rByte s).2 else (rByte s).2
noncomputable def rLm (s : Rd) : (Nat × Nat × Bool) × Rd := if (rByte s).1 = 1 then (((rU32 (rlS s)).1, (rU32 (rU32 (rlS s)).2).1, true), (rU32 (rU32 (rlS s)).2).2) else (((rU32 (rlS s)).1, 0, false), (rU32 (rlS s)).2)
noncomputable def takeFr (l : List Nat) : (List Nat × List Nat) × Nat × Nat := if (rFT (l, 0)).2.2 = 0 then ((rFT (l, 0)).1, l.length - (rFT (l, 0)).2.1.length, 0) else (([], []), 0, (rFT (l, 0)).2.2)
noncomputable def takeLr (l : List Nat) : (Nat × Nat × Bool) × Nat × Nat := if (rLm (l, 0)).2.2 = 0 then ((rLm (l, 0)).1, l.length - (rLm (l, 0)).2.1.length, 0) else ((0, 0, false), 0, (rLm (l, 0)).2.2)
def RdF (call : CallT) (f : Nat) : Prop := ∀ {h h0 : Hp} {G : Nat → Prop} {R : List AObj} {b : Nat} {vb : AV} (s : Rd) (rest : List AV), BIn G h0 vb s.1 → s.1.length < 80000 → s.2 < 64 → Sep (Cel b (rdC vb s rest) :: Frz G h0 :: R) h →
  ∃ p q v' h', call f [.ptr b 0] h = .ok (.agg [p, q]) h' ∧ BIn G h0 v' (rFT s).2.1 ∧ Sep (OwnO 1 p (rFT s).1.1.length (u8s (rFT s).1.1) :: OwnO 1 q (rFT s).1.2.length (u8s (rFT s).1.2) :: Cel b (rdC v' (rFT s).2 rest) :: Frz G h0 :: R) h'
def cu (s : Cu) : Rd := (s.1, s.2.2)
end Eng
end
section
set_option linter.unusedVariables false
set_option linter.unusedSimpArgs false
namespace Eng
open Go Go.RowKit
theorem eqs_lim (k : IntKind) (a b : Int) (c : Bool) : evQ (.eqs [(0, .int), (1, .int), (2, .bool)] false (.const (.agg [.int k a, .int k b, .bool c])) (.const (.agg [.int k a, .int k b, .bool c]))) .lf H0 = .ok (.bool true) := by
  have h1 : ikEq k k = true := ikEq_self k
  have h2 : eqI a a = true := by rw [eqI_eq]; simp
  have h3 : eqI b b = true := by rw [eqI_eq]; simp
  have e1 : ∀ (x : Int) (z : OV) (f : Bool → OV), eqI x x = true → eqAV .int (.int k x) (.int k x) z f = f true := fun x z f hx => by
    show bc (ikEq k k) (f (eqI x x)) z = _
    rw [h1, hx]; rfl
  show eqAV .int (.int k a) (.int k a) OV.no (fun r => bc r (eqAV .int (.int k b) (.int k b) OV.no fun r => bc r (eqAV .bool (.bool c) (.bool c) OV.no fun r => bc r (okB (bc false (notB true) true)) (okB (bc false (notB false) false))) (okB (bc false (notB false) false))) (okB (bc false (notB false) false))) = _
  rw [e1 a _ _ h2]
  show eqAV .int (.int k b) (.int k b) OV.no (fun r => bc r (eqAV .bool (.bool c) (.bool c) OV.no fun r => bc r (okB (bc false (notB true) true)) (okB (bc false (notB false) false))) (okB (bc false (notB false) false))) = _
  rw [e1 b _ _ h3]
  cases c <;> rfl
def SameS (call : CallT) (f : Nat) : Prop := ∀ {h : Hp} {p q p' q' : AV} {l1 l2 m1 m2 : List Nat}, Bytes h.next h p l1 → Bytes h.next h q l2 → Bytes h.next h p' m1 → Bytes h.next h q' m2 → l1.length < 80000 → l2.length < 80000 →
  ∃ h', call f [.agg [p, q], .agg [p', q']] h = .ok (.bool (decide (l1 = m1 ∧ l2 = m2))) h' ∧ Old h.next h h'
def EqS (call : CallT) (f : Nat) : Prop := ∀ {B : Nat} {h : Hp} {va vb : AV} {l m : List Nat}, Bytes B h va l → Bytes B h vb m → l.length < 90000 → call f [va, vb] h = .ok (.bool (decide (l = m))) h
theorem Bytes.cell {B : Nat} {h : Hp} {v : AV} {l : List Nat} (P : Bytes B h v l) : isCell v = true := by cases P <;> rfl
theorem Bytes.cells {B : Nat} {h : Hp} {v : AV} {l : List Nat} (P : Bytes B h v l) : cellsOf v = [v] := by cases P <;> rfl
theorem Bytes.push2 {h : Hp} {v : AV} {l : List Nat} (P : Bytes h.next h v l) (x y : Blk) : Bytes h.next (hpush (hpush h x) y) v l := P.old ((Old.push (Nat.le_refl _) _).trans (Old.push (Nat.le_succ _) _))
theorem Old.push2 (h : Hp) (x y : Blk) : Old h.next h (hpush (hpush h x) y) := (Old.push (Nat.le_refl _) _).trans (Old.push (Nat.le_succ _) _)
theorem take_succ_eq {l m : List Nat} {i : Nat} (h : l.take i = m.take i) (h1 : i < l.length) (h2 : i < m.length) (he : l.getD i 0 = m.getD i 0) : l.take (i + 1) = m.take (i + 1) := by
  rw [List.take_add_one, List.take_add_one, h]
  rw [List.getD_eq_getElem?_getD, List.getD_eq_getElem?_getD, List.getElem?_eq_getElem h1, List.getElem?_eq_getElem h2] at he
  rw [List.getElem?_eq_getElem h1, List.getElem?_eq_getElem h2]
  simp only [Option.getD_some] at he
  rw [he]
end Eng
end
section
set_option linter.unusedVariables false
set_option linter.unusedSimpArgs false
namespace Eng
open Go
theorem cuVal_ok {x k : Nat} {t : List Nat} (h : (tyV x).1 = true) : cuVal (x :: t, k, 0) = (x, (t, k + 1, 0)) := by
  unfold cuVal
  have e : cuOne (x :: t, k, 0) = (x, (t, k + 1, 0)) := rfl
  rw [e]
  show (x, cuFail (notB (tyV x).1) (tyV x).2 (t, k + 1, 0)) = _
  rw [h]; rfl
theorem cuValsL_ok : ∀ (vs acc rest : List Nat) (k : Nat), (∀ x ∈ vs, (tyV x).1 = true) → cuValsL vs.length acc (vs ++ rest, k, 0) = (acc ++ vs, (rest, k + vs.length, 0))
  | [], acc, rest, k, _ => by simp [cuValsL]
  | x :: vs, acc, rest, k, h => by
    show cuValsL (vs.length + 1) acc (x :: (vs ++ rest), k, 0) = _
    rw [cuValsL, if_pos rfl, cuVal_ok (h x (by simp))]
    dsimp only
    rw [cuValsL_ok vs _ rest (k + 1) (fun y hy => h y (by simp [hy]))]
    simp; omega
theorem cuValsL_e : ∀ (n : Nat) (acc : List Nat) (s : Cu), s.2.2 ≠ 0 → cuValsL n acc s = (acc, s)
  | 0, acc, s, _ => rfl
  | n + 1, acc, s, h => by rw [cuValsL, if_neg h]
theorem cuValsL_cut : ∀ (n : Nat) (vs acc : List Nat) (k : Nat), vs.length < n → (∀ x ∈ vs, (tyV x).1 = true) → (cuValsL n acc (vs, k, 0)).2.2.2 = 3
  | 0, vs, acc, k, h, _ => by omega
  | n + 1, [], acc, k, _, _ => by
    rw [cuValsL, if_pos rfl]
    have e : cuVal ([], k, 0) = (0, ([], k, 3)) := by
      unfold cuVal
      have e : cuOne ([], k, 0) = (0, ([], k, 3)) := rfl
      rw [e]
      show (0, cuFail _ _ ([], k, 3)) = _
      unfold cuFail
      rw [if_neg (by simp)]
    rw [e, cuValsL_e _ _ _ (by simp)]
  | n + 1, x :: vs, acc, k, h, hv => by
    rw [cuValsL, if_pos rfl, cuVal_ok (hv x (by simp))]
    exact cuValsL_cut n vs _ _ (by simpa using h) (fun y hy => hv y (by simp [hy]))
theorem cuVals_e (s : Cu) (h : s.2.2 ≠ 0) : cuVals s = ([], s) := by
  have e : cuNum s = (0, s) := by unfold cuNum; rw [if_neg h]
  unfold cuVals
  rw [e]
  have e2 : cuFail (ltI (.ofNat 8) (.ofNat 0)) 4 s = s := by unfold cuFail; rw [if_neg (by rintro ⟨_, h'⟩; exact h h')]
  dsimp only
  rw [e2]; rfl
theorem cuNum_put {n k : Nat} {rest : List Nat} (hn : n < 4294967296) : cuNum (lebU n ++ rest, k, 0) = (n, (rest, k + (lebU n).length, 0)) := by
  have hr := readG_lebU32 (v := n) (by omega) rest
  rw [if_pos hn] at hr
  unfold cuNum
  rw [if_pos rfl]
  dsimp only
  rw [hr]
  dsimp only
  rw [Nat.mod_eq_of_lt hn, List.drop_left]
theorem cuVals_put {vs rest : List Nat} {k : Nat} (h8 : vs.length ≤ 8) (hv : ∀ x ∈ vs, (tyV x).1 = true) : cuVals (lebU vs.length ++ vs ++ rest, k, 0) = (vs, (rest, k + (lebU vs.length).length + vs.length, 0)) := by
  unfold cuVals
  rw [List.append_assoc, cuNum_put (by omega)]
  dsimp only
  have e : cuFail (ltI (.ofNat 8) (.ofNat vs.length)) 4 (vs ++ rest, k + (lebU vs.length).length, 0) = (vs ++ rest, k + (lebU vs.length).length, 0) := by
    unfold cuFail
    rw [if_neg (by rintro ⟨h, _⟩; rw [ltI_eq] at h; simp at h; omega)]
  rw [e, cuValsL_ok vs [] rest _ hv]; rfl
theorem fS_put (r : List Nat) : fS (96 :: r) = (r, 1, 0) := by
  unfold fS
  have e : cuOne (96 :: r, 0, 0) = (96, (r, 1, 0)) := rfl
  rw [e]; rfl
theorem takeF_put {l1 l2 more : List Nat} (h1 : l1.length ≤ 8) (h2 : l2.length ≤ 8) (v1 : ∀ x ∈ l1, (tyV x).1 = true) (v2 : ∀ x ∈ l2, (tyV x).1 = true) :
    takeF (96 :: (lebU l1.length ++ l1 ++ (lebU l2.length ++ l2 ++ more))) = ((l1, l2), 1 + (lebU l1.length).length + l1.length + (lebU l2.length).length + l2.length, 0) := by
  unfold takeF
  rw [fS_put, cuVals_put h1 v1]
  dsimp only
  rw [cuVals_put h2 v2]
  rfl
theorem num_cut {a j : Nat} (ha : a < 4294967296) (hj : j < (lebU a).length) : readG 32 false ((lebU a).take j) 0 0 0 = (0, 0, 3) := by
  obtain ⟨n, e1, e2, e3, e4⟩ := lebU_dig a
  have hn : n ≤ 4 := e4 4 (by omega)
  rw [e1]
  exact readG_cut _ _ _ _ (digU_hi n a j (by omega)) (by rw [List.length_take, digU_len]; omega)
theorem cuNum_cut {a j k : Nat} (ha : a < 4294967296) (hj : j < (lebU a).length) : cuNum ((lebU a).take j, k, 0) = (0, ((lebU a).take j, k, 3)) := by
  unfold cuNum
  rw [if_pos rfl]
  dsimp only
  rw [num_cut ha hj]; rfl
theorem cuVals_cut {vs : List Nat} {k j : Nat} (h8 : vs.length ≤ 8) (hv : ∀ x ∈ vs, (tyV x).1 = true) (hj : j < (lebU vs.length ++ vs).length) : (cuVals ((lebU vs.length ++ vs).take j, k, 0)).2.2.2 = 3 := by
  rw [List.length_append] at hj
  by_cases hc : j < (lebU vs.length).length
  · have e : (lebU vs.length ++ vs).take j = (lebU vs.length).take j := by rw [List.take_append, show j - (lebU vs.length).length = 0 by omega]; simp
    unfold cuVals
    rw [e, cuNum_cut (by omega) hc]
    dsimp only
    have e2 : ∀ s : Cu, s.2.2 = 3 → cuFail (ltI (.ofNat 8) (.ofNat 0)) 4 s = s := fun s hs => by unfold cuFail; rw [if_neg (by rintro ⟨_, h'⟩; omega)]
    rw [e2 _ rfl]; rfl
  · have e : (lebU vs.length ++ vs).take j = lebU vs.length ++ vs.take (j - (lebU vs.length).length) := by rw [List.take_append, List.take_of_length_le (by omega)]
    unfold cuVals
    rw [e, cuNum_put (by omega)]
    dsimp only
    have e2 : ∀ s : Cu, cuFail (ltI (.ofNat 8) (.ofNat vs.length)) 4 s = s := fun s => by
      unfold cuFail
      rw [if_neg (by rintro ⟨h, _⟩; rw [ltI_eq] at h; simp at h; omega)]
    rw [e2]
    exact cuValsL_cut _ _ _ _ (by rw [List.length_take]; omega) (fun x hx => hv x (List.mem_of_mem_take hx))
theorem takeF_cut {l1 l2 : List Nat} {j : Nat} (h1 : l1.length ≤ 8) (h2 : l2.length ≤ 8) (v1 : ∀ x ∈ l1, (tyV x).1 = true) (v2 : ∀ x ∈ l2, (tyV x).1 = true)
    (hj : j < (96 :: (lebU l1.length ++ l1 ++ (lebU l2.length ++ l2))).length) : takeF ((96 :: (lebU l1.length ++ l1 ++ (lebU l2.length ++ l2))).take j) = (([], []), 0, 3) := by
  have key : (cuVals (cuVals (fS ((96 :: (lebU l1.length ++ l1 ++ (lebU l2.length ++ l2))).take j))).2).2.2.2 = 3 := by
    cases j with
    | zero =>
      have e : fS [] = ([], 0, 3) := rfl
      show (cuVals (cuVals (fS [])).2).2.2.2 = 3
      rw [e, cuVals_e _ (by decide), cuVals_e _ (by decide)]
    | succ j =>
      rw [List.take_succ_cons, fS_put]
      by_cases hc : j < (lebU l1.length ++ l1).length
      · rw [List.take_append, show j - (lebU l1.length ++ l1).length = 0 by omega, List.take_zero, List.append_nil]
        have h3 := cuVals_cut (k := 1) h1 v1 hc
        rw [cuVals_e _ (by rw [h3]; decide)]
        exact h3
      · rw [List.take_append, List.take_of_length_le (by omega), cuVals_put h1 v1]
        simp only [List.length_cons, List.length_append] at hj hc
        exact cuVals_cut h2 v2 (by rw [List.length_append, List.length_append]; omega)
  unfold takeF
  rw [key, if_neg (by decide)]
theorem lS_put {x : Nat} (hx : x ≤ 1) (r : List Nat) : lS (x :: r) = (r, 1, 0) := by
  unfold lS
  have e : cuOne (x :: r, 0, 0) = (x, (r, 1, 0)) := rfl
  rw [e]
  show cuFail (ltI (.ofNat 1) (.ofNat x)) 2 (r, 1, 0) = _
  unfold cuFail
  rw [if_neg (by rintro ⟨h, _⟩; rw [ltI_eq] at h; simp at h; omega)]
theorem takeL_put1 {a c : Nat} {more : List Nat} (ha : a < 4294967296) (hc : c < 4294967296) : takeL (1 :: (lebU a ++ (lebU c ++ more))) = ((a, c, true), 1 + (lebU a).length + (lebU c).length, 0) := by
  have e : (cuOne (1 :: (lebU a ++ (lebU c ++ more)), 0, 0)).1 = 1 := rfl
  unfold takeL
  rw [if_pos e, lS_put (Nat.le_refl _), cuNum_put ha]
  dsimp only
  rw [cuNum_put hc]; rfl
theorem takeL_put0 {a : Nat} {more : List Nat} (ha : a < 4294967296) : takeL (0 :: (lebU a ++ more)) = ((a, 0, false), 1 + (lebU a).length, 0) := by
  have e : (cuOne (0 :: (lebU a ++ more), 0, 0)).1 = 0 := rfl
  unfold takeL
  rw [if_neg (by rw [e]; decide), lS_put (by decide), cuNum_put ha]; rfl
theorem cuNum_e (s : Cu) (h : s.2.2 ≠ 0) : cuNum s = (0, s) := by unfold cuNum; rw [if_neg h]
theorem takeL_cut1 {a c j : Nat} (ha : a < 4294967296) (hc : c < 4294967296) (hj : j < (1 :: (lebU a ++ lebU c)).length) : takeL ((1 :: (lebU a ++ lebU c)).take j) = ((0, 0, false), 0, 3) := by
  cases j with
  | zero => rfl
  | succ j =>
    rw [List.take_succ_cons]
    simp only [List.length_cons, List.length_append] at hj
    have e : (cuOne (1 :: (lebU a ++ lebU c).take j, 0, 0)).1 = 1 := rfl
    unfold takeL
    rw [if_pos e, lS_put (Nat.le_refl _)]
    by_cases hb : j < (lebU a).length
    · rw [List.take_append, show j - (lebU a).length = 0 by omega, List.take_zero, List.append_nil, cuNum_cut ha hb]
      dsimp only
      rw [cuNum_e _ (show (3 : Nat) ≠ 0 by decide)]; rfl
    · rw [List.take_append, List.take_of_length_le (by omega), cuNum_put ha]
      dsimp only
      rw [cuNum_cut hc (by omega)]; rfl
theorem takeL_cut0 {a j : Nat} (ha : a < 4294967296) (hj : j < (0 :: lebU a).length) : takeL ((0 :: lebU a).take j) = ((0, 0, false), 0, 3) := by
  cases j with
  | zero => rfl
  | succ j =>
    rw [List.take_succ_cons]
    simp only [List.length_cons] at hj
    have e : (cuOne (0 :: (lebU a).take j, 0, 0)).1 = 0 := rfl
    unfold takeL
    rw [if_neg (by rw [e]; decide), lS_put (by decide), cuNum_cut ha (by omega)]; rfl
end Eng
end
