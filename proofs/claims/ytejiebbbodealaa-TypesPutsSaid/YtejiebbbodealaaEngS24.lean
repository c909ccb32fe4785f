/- The engine, part 24: a parameter that is only asked for what is known of it. -/
import Derived.Test.YtejiebbbodealaaEngS23
set_option linter.unusedVariables false
set_option linter.unusedSimpArgs false
namespace Eng
open Go Go.RowKit
noncomputable def specO (σ : AO → AO → Option AV) (p : Option AO) (o : AO) : AO :=
  ocase o (fun p => o.op.cs (fun q => ocase o (fun x => ⟨o.dst, .q (.move (.const x)), o.guard⟩) (σ p o)) (fun _ => o) (fun _ => o)) p
noncomputable def specOs (σ : AO → AO → Option AV) (os : List AO) : Option AO → List AO := lrec (fun _ => []) (fun o _ ih p => specO σ p o :: ih (some o)) os
noncomputable def specC (σ : AO → AO → Option AV) (c : AC) : AC :=
  AC.rec (motive := fun _ => AC) .skip (fun os => .region (specOs σ os none)) (fun l => .drawn l) (fun _ _ x y => .seq x y) (fun c _ _ x y => .cond c x y) (fun i _ x => .block i x) (fun _ x => .loop x)
    (fun i => .exit i) .ret (fun w => .fail w) c
noncomputable def dstNot (d : Nat) (o : Option Nat) : Bool := ocase true (fun i => notB (Nat.beq i d)) o
noncomputable def dstNots (L : List (Nat × AV)) (o : Option Nat) : Bool := lall (fun p => dstNot p.1 o) L
def Holds (L : List (Nat × AV)) (t : T) : Prop := ∀ p ∈ L, evX (.tmp p.1) t = p.2
noncomputable def keepsC (L : List (Nat × AV)) (c : AC) : Bool :=
  AC.rec (motive := fun _ => Bool) true (fun os => lall (fun o => dstNots L o.dst) os) (fun l => lall (fun s => bc (lall (fun o => dstNots L o.1.dst) s.os) (ocase true (fun e => dstNots L e.dst) s.e) false) l)
    (fun _ _ x y => bc x y false) (fun _ _ _ x y => bc x y false) (fun _ _ x => x) (fun _ x => x) (fun _ => true) true (fun _ => true) c
section
variable {σ : AO → AO → Option AV} {L : List (Nat × AV)} {call : CallT} {N : Nat}
def Tells (σ : AO → AO → Option AV) (L : List (Nat × AV)) : Prop :=
  ∀ p o x f, σ p o = some x → o.op = .q f → ∀ call t0 h0 t h, Holds L t0 → evO call p t0 h0 = .ok t h → evQ f t h = .ok x
theorem dstNot_ne {d : Nat} {o : Option Nat} (h : dstNot d o = true) : o ≠ some d := fun e => by
  subst e
  have h : notB (Nat.beq d d) = true := h
  rw [Nat.beq_refl] at h; cases h
theorem keep_put {o : Option Nat} (h : dstNots L o = true) {u : AV} {t : T} (ht : Holds L t) : Holds L (putT o u t) :=
  fun p hp => by rw [evX_put (dstNot_ne (lall_iff.1 h p hp))]; exact ht p hp
def KeepT (L : List (Nat × AV)) : RT → Prop
  | .no => True
  | .ok t _ => Holds L t
def KeepS (L : List (Nat × AV)) : RS → Prop
  | .no => True
  | .nor t _ => Holds L t
  | .exit _ t _ => Holds L t
  | .ret t _ => Holds L t
theorem runA_keep {op : AOp} {o : Option Nat} (h : dstNots L o = true) {t : T} {hp : Hp} (ht : Holds L t) : KeepT L (runA op o call t hp) := by
  cases op with
  | q f =>
    show KeepT L ((evQ f t hp).then fun v => .ok (putT o v t) hp)
    cases evQ f t hp with
    | no => trivial
    | ok u => exact keep_put h ht
  | l f =>
    show KeepT L ((evL f t).then fun k x => .ok (putT o (mkAt k hp.next) t) (hpush hp x))
    cases evL f t with
    | no => trivial
    | ok k x => exact keep_put h ht
  | e f =>
    show KeepT L ((evE f call t hp).then fun v h => .ok (putT o v t) h)
    cases evE f call t hp with
    | no => trivial
    | ok u h' => exact keep_put h ht
theorem evO_keep {o : AO} (h : dstNots L o.dst = true) {t : T} {hp : Hp} (ht : Holds L t) : KeepT L (evO call o t hp) := by
  rw [evO_eq]
  split
  · exact runA_keep h ht
  · exact keep_put h ht
theorem specO_ok (hσ : Tells σ L) (p : Option AO) (o : AO) {t : T} {hp : Hp} (hpre : ∀ p', p = some p' → ∃ t0 h0, Holds L t0 ∧ evO call p' t0 h0 = .ok t hp) : evO call (specO σ p o) t hp = evO call o t hp := by
  cases p with
  | none => rfl
  | some p =>
    obtain ⟨t0, h0, ht0, he⟩ := hpre p rfl
    obtain ⟨dst, op, g⟩ := o
    cases op with
    | q f =>
      show evO call (ocase ⟨dst, .q f, g⟩ (fun x => ⟨dst, .q (.move (.const x)), g⟩) (σ p ⟨dst, .q f, g⟩)) t hp = _
      cases hs : σ p ⟨dst, .q f, g⟩ with
      | none => rfl
      | some x =>
        show evO call ⟨dst, .q (.move (.const x)), g⟩ t hp = _
        rw [evO_eq, evO_eq]
        simp only []
        split
        · show (evQ (.move (.const x)) t hp).then (fun v => RT.ok (putT dst v t) hp) = (evQ f t hp).then fun v => .ok (putT dst v t) hp
          rw [hσ p ⟨dst, .q f, g⟩ x f hs rfl call t0 h0 t hp ht0 he]; rfl
        · rfl
    | l f => rfl
    | e f => rfl
theorem specOs_ok (hσ : Tells σ L) : ∀ (os : List AO) (p : Option AO), lall (fun o => dstNots L o.dst) os = true → ∀ (t : T) (hp : Hp), Holds L t → (∀ p', p = some p' → ∃ t0 h0, Holds L t0 ∧ evO call p' t0 h0 = .ok t hp) →
    evOs call (specOs σ os p) t hp = evOs call os t hp ∧ KeepT L (evOs call os t hp)
  | [], p, _, t, hp, ht, _ => ⟨rfl, ht⟩
  | o :: os, p, hk, t, hp, ht, hpre => by
    obtain ⟨h1, h2⟩ := bc_and.1 (show bc (dstNots L o.dst) (lall (fun o => dstNots L o.dst) os) false = true from hk)
    show (evO call (specO σ p o) t hp).then (evOs call (specOs σ os (some o))) = (evO call o t hp).then (evOs call os) ∧ KeepT L ((evO call o t hp).then (evOs call os))
    rw [specO_ok hσ p o hpre]
    have hk1 := evO_keep (call := call) (o := o) (hp := hp) h1 ht
    cases he : evO call o t hp with
    | no => exact ⟨rfl, trivial⟩
    | ok t1 h1' =>
      rw [he] at hk1
      exact specOs_ok hσ os (some o) h2 t1 h1' hk1 fun p' hp' => by cases hp'; exact ⟨t, hp, ht, he⟩
theorem quietO_keep {o : AO} {hi : Nat} {t : T} {hp : Hp} {ps : List PD} {k : T → Hp → List PD → RT} (h : dstNots L o.dst = true) (ht : Holds L t) (hk : ∀ t h ps, Holds L t → KeepT L (k t h ps)) :
    KeepT L (stageO o hi t hp ps k) := by
  unfold stageO
  rw [bc_eq]
  split
  · cases o.op with
    | q f =>
      show KeepT L ((evQ f t hp).then fun u => k (putT o.dst u t) hp (⟨f, t, u, hi⟩ :: ps))
      cases evQ f t hp with
      | no => trivial
      | ok u => exact hk _ _ _ (keep_put h ht)
    | l f =>
      show KeepT L ((evL f t).then fun m x => k (putT o.dst (mkAt m hp.next) t) (hpush hp x) ps)
      cases evL f t with
      | no => trivial
      | ok m x => exact hk _ _ _ (keep_put h ht)
    | e f => trivial
  · exact hk _ _ _ (keep_put h ht)
theorem stageOs_keep : ∀ (os : List (AO × Nat)), lall (fun o => dstNots L o.1.dst) os = true → ∀ (t : T) (hp : Hp) (ps : List PD) (k : T → Hp → List PD → RT), Holds L t → (∀ t h ps, Holds L t → KeepT L (k t h ps)) → KeepT L (stageOs os t hp ps k)
  | [], _, t, hp, ps, k, ht, hk => hk _ _ _ ht
  | o :: os, h, t, hp, ps, k, ht, hk => by
    obtain ⟨h1, h2⟩ := bc_and.1 (show bc (dstNots L o.1.dst) (lall (fun o => dstNots L o.1.dst) os) false = true from h)
    exact quietO_keep h1 ht fun t1 h1' ps1 ht1 => stageOs_keep os h2 t1 h1' ps1 k ht1 hk
theorem evDs_keep : ∀ (l : List DS), lall (fun s => bc (lall (fun o => dstNots L o.1.dst) s.os) (ocase true (fun e => dstNots L e.dst) s.e) false) l = true → ∀ (n : Nat) (t : T) (hp : Hp) (ps : List PD), Holds L t → KeepT L (evDs call l n t hp ps)
  | [], _, n, t, hp, ps, ht => trivial
  | s :: l, h, n, t, hp, ps, ht => by
    obtain ⟨h1, h2⟩ := bc_and.1 (show bc (bc (lall (fun o => dstNots L o.1.dst) s.os) (ocase true (fun e => dstNots L e.dst) s.e) false) (lall (fun s => bc (lall (fun o => dstNots L o.1.dst) s.os) (ocase true (fun e => dstNots L e.dst) s.e) false) l) false = true from h)
    obtain ⟨h3, h4⟩ := bc_and.1 h1
    refine stageOs_keep s.os h3 t hp ps _ ht fun t1 hp1 ps1 ht1 => ?_
    show KeepT L (bc (readAgain ps1 n hp1) (ocase (.ok t1 hp1) (fun e => (evO call e t1 hp1).then fun t h => evDs call l (Nat.succ n) t h ps1) s.e) .no)
    rw [bc_eq]
    split
    · cases hse : s.e with
      | none => exact ht1
      | some e =>
        rw [hse] at h4
        have hk1 := evO_keep (call := call) (o := e) (hp := hp1) h4 ht1
        show KeepT L ((evO call e t1 hp1).then fun t h => evDs call l (Nat.succ n) t h ps1)
        cases he : evO call e t1 hp1 with
        | no => trivial
        | ok t2 h2' => rw [he] at hk1; exact evDs_keep l h2 _ t2 h2' ps1 hk1
    · trivial
theorem specC_ok (hσ : Tells σ L) : ∀ (c : AC), keepsC L c = true → ∀ (t : T) (hp : Hp), Holds L t → evC call N (specC σ c) t hp = evC call N c t hp ∧ KeepS L (evC call N c t hp)
  | .skip, _, t, hp, ht => ⟨rfl, ht⟩
  | .region os, hk, t, hp, ht => by
    obtain ⟨h1, h2⟩ := specOs_ok (call := call) hσ os none hk t hp ht nofun
    show (evOs call (specOs σ os none) t hp).done = (evOs call os t hp).done ∧ KeepS L ((evOs call os t hp).done)
    rw [h1]
    refine ⟨rfl, ?_⟩
    cases he : evOs call os t hp with
    | no => trivial
    | ok t1 h1' => rw [he] at h2; exact h2
  | .drawn l, hk, t, hp, ht => by
    refine ⟨rfl, ?_⟩
    have h2 := evDs_keep (call := call) l hk 0 t hp [] ht
    show KeepS L ((evDs call l 0 t hp []).done)
    cases he : evDs call l 0 t hp [] with
    | no => trivial
    | ok t1 h1' => rw [he] at h2; exact h2
  | .seq x y, hk, t, hp, ht => by
    obtain ⟨k1, k2⟩ := bc_and.1 (show bc (keepsC L x) (keepsC L y) false = true from hk)
    obtain ⟨h1, h2⟩ := specC_ok hσ x k1 t hp ht
    show (evC call N (specC σ x) t hp).then (evC call N (specC σ y)) = (evC call N x t hp).then (evC call N y) ∧ KeepS L ((evC call N x t hp).then (evC call N y))
    rw [h1]
    cases he : evC call N x t hp with
    | no => exact ⟨rfl, trivial⟩
    | nor t1 h1' => rw [he] at h2; exact specC_ok hσ y k2 t1 h1' h2
    | exit i t1 h1' => rw [he] at h2; exact ⟨rfl, h2⟩
    | ret t1 h1' => rw [he] at h2; exact ⟨rfl, h2⟩
  | .cond c x y, hk, t, hp, ht => by
    obtain ⟨k1, k2⟩ := bc_and.1 (show bc (keepsC L x) (keepsC L y) false = true from hk)
    show ((evX c t).asBool RS.no fun b => bc b (evC call N (specC σ x) t hp) (evC call N (specC σ y) t hp)) = ((evX c t).asBool .no fun b => bc b (evC call N x t hp) (evC call N y t hp)) ∧ KeepS L ((evX c t).asBool .no fun b => bc b (evC call N x t hp) (evC call N y t hp))
    rw [(specC_ok hσ x k1 t hp ht).1, (specC_ok hσ y k2 t hp ht).1]
    refine ⟨rfl, ?_⟩
    generalize evX c t = u
    cases u <;> first | trivial | skip
    rename_i b
    cases b
    · exact (specC_ok hσ y k2 t hp ht).2
    · exact (specC_ok hσ x k1 t hp ht).2
  | .block i x, hk, t, hp, ht => by
    obtain ⟨h1, h2⟩ := specC_ok hσ x hk t hp ht
    show (evC call N (specC σ x) t hp).block i = (evC call N x t hp).block i ∧ KeepS L ((evC call N x t hp).block i)
    rw [h1]
    refine ⟨rfl, ?_⟩
    cases he : evC call N x t hp with
    | no => trivial
    | nor t1 h1' => rw [he] at h2; exact h2
    | exit j t1 h1' =>
      rw [he] at h2
      show KeepS L (bc (Nat.beq j i) (.nor t1 h1') (.exit j t1 h1'))
      rw [bc_beq]; split <;> exact h2
    | ret t1 h1' => rw [he] at h2; exact h2
  | .loop x, hk, t, hp, ht => by
    have key : ∀ (k : Nat) (t : T) (hp : Hp), Holds L t → rounds (fun _ _ => RS.no) (fun again t h => (evC call N (specC σ x) t h).then again) k t hp = rounds (fun _ _ => RS.no) (fun again t h => (evC call N x t h).then again) k t hp ∧
        KeepS L (rounds (fun _ _ => RS.no) (fun again t h => (evC call N x t h).then again) k t hp) := by
      intro k
      induction k with
      | zero => exact fun t hp ht => ⟨rfl, trivial⟩
      | succ k ih =>
        intro t hp ht
        obtain ⟨h1, h2⟩ := specC_ok hσ x hk t hp ht
        show (evC call N (specC σ x) t hp).then (rounds (fun _ _ => RS.no) (fun again t h => (evC call N (specC σ x) t h).then again) k) = (evC call N x t hp).then (rounds (fun _ _ => RS.no) (fun again t h => (evC call N x t h).then again) k) ∧
          KeepS L ((evC call N x t hp).then (rounds (fun _ _ => RS.no) (fun again t h => (evC call N x t h).then again) k))
        rw [h1]
        cases he : evC call N x t hp with
        | no => exact ⟨rfl, trivial⟩
        | nor t1 h1' => rw [he] at h2; exact ih t1 h1' h2
        | exit i t1 h1' => rw [he] at h2; exact ⟨rfl, h2⟩
        | ret t1 h1' => rw [he] at h2; exact ⟨rfl, h2⟩
    exact key N t hp ht
  | .exit i, _, t, hp, ht => ⟨rfl, ht⟩
  | .ret, _, t, hp, ht => ⟨rfl, ht⟩
  | .fail _, _, t, hp, ht => ⟨rfl, trivial⟩
noncomputable def evSpec (σ : AO → AO → Option AV) (L : List (Nat × AV)) (S : Nat → Option AF) (N : Nat) (call : CallT) (f : Nat) (args : List AV) (h : Hp) : RV :=
  ocase .no (fun fn => bc (Nat.ble (len args) fn.ntmps) (bc (keepsC L fn.body) (finish fn.results (evC call N (specC σ fn.body) (frame0 args) h)) .no) .no) (S f)
theorem evSpec_ok {S : Nat → Option AF} {f : Nat} {args : List AV} {h h' : Hp} {u : AV} (hv : ∀ p ∈ L, args[p.1]? = some p.2) (hσ : Tells σ L) (e : evSpec σ L S N call f args h = .ok u h') :
    evF1 S N call f args h = .ok u h' := by
  obtain ⟨fn, hf, e1⟩ := ocase_inv (show ocase RV.no (fun fn => bc (Nat.ble (len args) fn.ntmps) (bc (keepsC L fn.body) (finish fn.results (evC call N (specC σ fn.body) (frame0 args) h)) .no) .no) (S f) = .ok u h' from e) nofun
  obtain ⟨hle, e2⟩ := bc_inv e1 nofun
  obtain ⟨hk, e3⟩ := bc_inv e2 nofun
  have hfr : Holds L (frame0 args) := fun p hp => by
    have key : ∀ (l : List AV) (k : Nat) (t : T), (∀ i, i < k → evX (.tmp i) (frameGo l k t) = evX (.tmp i) t) ∧ ∀ i u, l[i]? = some u → evX (.tmp (k + i)) (frameGo l k t) = u := by
      intro l
      induction l with
      | nil => exact fun k t => ⟨fun _ _ => rfl, fun i u hu => by simp at hu⟩
      | cons x l ih =>
        intro k t
        obtain ⟨h1, h2⟩ := ih (k + 1) (tset (pathOf k) x t)
        have hg : frameGo (x :: l) k t = frameGo l (k + 1) (tset (pathOf k) x t) := rfl
        rw [hg]
        refine ⟨fun i hi => ?_, fun i u hu => ?_⟩
        · rw [h1 i (by omega), evX_tmp, evX_tmp, tget_tset_ne _ _ _ _ (fun e => by have := pathOf_inj e; omega)]
        · cases i with
          | zero => simp at hu; subst hu; rw [Nat.add_zero, h1 k (by omega), evX_tmp, tget_tset]; rfl
          | succ i => rw [show k + (i + 1) = k + 1 + i by omega]; exact h2 i u (by simpa using hu)
    have := (key args 0 .lf).2 p.1 p.2 (hv p hp)
    rw [Nat.zero_add] at this; exact this
  rw [(specC_ok (call := call) (N := N) hσ fn.body hk (frame0 args) h hfr).1] at e3
  show ocase RV.no (fun fn => bc (Nat.ble (len args) fn.ntmps) (finish fn.results (evC call N fn.body (frame0 args) h)) .no) (S f) = .ok u h'
  rw [hf]
  show bc (Nat.ble (len args) fn.ntmps) _ _ = _
  rw [hle]; exact e3
end
end Eng
