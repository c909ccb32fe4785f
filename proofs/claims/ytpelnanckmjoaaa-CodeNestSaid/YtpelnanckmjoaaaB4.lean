import Derived.Test.YtpelnanckmjoaaaB3
import Derived.WalkKit
section
set_option linter.unusedVariables false
set_option linter.unusedSimpArgs false
namespace Go.Proofs.Ytpelnanckmjoaaa
open Go Eng
noncomputable def tvalue_p (x : Nat) : Option (Bool × Nat) :=
  (if x = 127 then (some (true, 0)) else
    (if x = 126 then (some (true, 0)) else
    (if x = 112 then (some (true, 0)) else
    (if x = 111 then (some (true, 0)) else
    (if x = 125 then (some (false, 5)) else
    (if x = 124 then (some (false, 5)) else
    (if x = 123 then (some (false, 5)) else
    (some (false, 2)))))))))
theorem tvalue_w {call : CallT} {N : Nat} {h : Hp} {x : Nat} (fx_1 : x < 256)  {r : Bool × Nat} (hp : tvalue_p x = some r) :
    ∃ rv rh, evF1 (progS Try.prog (compDrawn Try.prog)) N call 111 [(vb8 x)] h = .ok rv rh ∧ (fun (rv : AV) (rh : Hp) => rv = (AV.tuple [(AV.bool r.1), (vi r.2)]) ∧ Eng.Sep (Frz (Low h) h :: []) rh) rv rh := by
  have S : Eng.Sep [Frz (Low h) h] h := Sep.start h
  unfold tvalue_p at hp
  refine fwalk_ok (K := (fun (rv : AV) (rh : Hp) => rv = (AV.tuple [(AV.bool r.1), (vi r.2)]) ∧ Eng.Sep (Frz (Low h) h :: []) rh)) (o := (.fork 4 .fin (.fork 1 .fin (.fork 1 .fin (.fork 1 .fin (.fork 1 .fin (.fork 1 .fin (.fork 1 .fin .fin)))))))) (p := (fun (KK : AV → Hp → Prop) => ((eqI (Int.ofNat x) (Int.ofNat 127) = true → KK (AV.tuple [(AV.bool true), (vi 0)]) h) ∧ (eqI (Int.ofNat x) (Int.ofNat 127) = false → ((eqI (Int.ofNat x) (Int.ofNat 126) = true → KK (AV.tuple [(AV.bool true), (vi 0)]) h) ∧ (eqI (Int.ofNat x) (Int.ofNat 126) = false → ((eqI (Int.ofNat x) (Int.ofNat 112) = true → KK (AV.tuple [(AV.bool true), (vi 0)]) h) ∧ (eqI (Int.ofNat x) (Int.ofNat 112) = false → ((eqI (Int.ofNat x) (Int.ofNat 111) = true → KK (AV.tuple [(AV.bool true), (vi 0)]) h) ∧ (eqI (Int.ofNat x) (Int.ofNat 111) = false → ((eqI (Int.ofNat x) (Int.ofNat 125) = true → KK (AV.tuple [(AV.bool false), (vi 5)]) h) ∧ (eqI (Int.ofNat x) (Int.ofNat 125) = false → ((eqI (Int.ofNat x) (Int.ofNat 124) = true → KK (AV.tuple [(AV.bool false), (vi 5)]) h) ∧ (eqI (Int.ofNat x) (Int.ofNat 124) = false → ((eqI (Int.ofNat x) (Int.ofNat 123) = true → KK (AV.tuple [(AV.bool false), (vi 5)]) h) ∧ (eqI (Int.ofNat x) (Int.ofNat 123) = false → KK (AV.tuple [(AV.bool false), (vi 2)]) h))))))))))))))) (fun (rv : AV) (rh : Hp) => rv = (AV.tuple [(AV.bool r.1), (vi r.2)]) ∧ Eng.Sep (Frz (Low h) h :: []) rh)) (by kernel_rfl) ?_
  refine ⟨fun c1 => ?_, fun c1 => ?_⟩
  · replace c1 := eqI_t c1
    replace hp := ift hp c1
    obtain rfl := Option.some.inj hp
    exact ⟨rfl, S⟩
  replace c1 := eqI_f c1
  replace hp := iff0 hp (c1)
  refine ⟨fun c2 => ?_, fun c2 => ?_⟩
  · replace c2 := eqI_t c2
    replace hp := ift hp c2
    obtain rfl := Option.some.inj hp
    exact ⟨rfl, S⟩
  replace c2 := eqI_f c2
  replace hp := iff0 hp (c2)
  refine ⟨fun c3 => ?_, fun c3 => ?_⟩
  · replace c3 := eqI_t c3
    replace hp := ift hp c3
    obtain rfl := Option.some.inj hp
    exact ⟨rfl, S⟩
  replace c3 := eqI_f c3
  replace hp := iff0 hp (c3)
  refine ⟨fun c4 => ?_, fun c4 => ?_⟩
  · replace c4 := eqI_t c4
    replace hp := ift hp c4
    obtain rfl := Option.some.inj hp
    exact ⟨rfl, S⟩
  replace c4 := eqI_f c4
  replace hp := iff0 hp (c4)
  refine ⟨fun c5 => ?_, fun c5 => ?_⟩
  · replace c5 := eqI_t c5
    replace hp := ift hp c5
    obtain rfl := Option.some.inj hp
    exact ⟨rfl, S⟩
  replace c5 := eqI_f c5
  replace hp := iff0 hp (c5)
  refine ⟨fun c6 => ?_, fun c6 => ?_⟩
  · replace c6 := eqI_t c6
    replace hp := ift hp c6
    obtain rfl := Option.some.inj hp
    exact ⟨rfl, S⟩
  replace c6 := eqI_f c6
  replace hp := iff0 hp (c6)
  refine ⟨fun c7 => ?_, fun c7 => ?_⟩
  · replace c7 := eqI_t c7
    replace hp := ift hp c7
    obtain rfl := Option.some.inj hp
    exact ⟨rfl, S⟩
  replace c7 := eqI_f c7
  replace hp := iff0 hp (c7)
  obtain rfl := Option.some.inj hp
  exact ⟨rfl, S⟩
def C_tvalue (call : CallT) : Prop := ∀ {h : Hp} {x : Nat} (fx_1 : x < 256) {r : Bool × Nat}, tvalue_p x = some r → ∃ rv rh, call 111 [(vb8 x)] h = .ok rv rh ∧ rv = (AV.tuple [(AV.bool r.1), (vi r.2)]) ∧ Eng.Sep (Frz (Low h) h :: []) rh
theorem s_tvalue (d : Nat) : C_tvalue (CC (d + 1)) := by
  intro h x fx_1 r hp
  rw [CC, evF_at (sumT_none rfl)]
  exact tvalue_w (call := CC (d + 0)) (N := 100000) fx_1  hp
noncomputable def tref_p (x : Nat) : Option (Bool) :=
  (if x = 112 then (some true) else
    (if x = 111 then (some true) else
    (some false)))
theorem tref_w {call : CallT} {N : Nat} {h : Hp} {x : Nat} (fx_1 : x < 256)  {r : Bool} (hp : tref_p x = some r) :
    ∃ rv rh, evF1 (progS Try.prog (compDrawn Try.prog)) N call 81 [(vb8 x)] h = .ok rv rh ∧ (fun (rv : AV) (rh : Hp) => rv = (AV.bool r) ∧ Eng.Sep (Frz (Low h) h :: []) rh) rv rh := by
  have S : Eng.Sep [Frz (Low h) h] h := Sep.start h
  unfold tref_p at hp
  refine fwalk_ok (K := (fun (rv : AV) (rh : Hp) => rv = (AV.bool r) ∧ Eng.Sep (Frz (Low h) h :: []) rh)) (o := (.fork 3 .fin (.fork 3 .fin .fin))) (p := (fun (KK : AV → Hp → Prop) => ((eqI (Int.ofNat x) (Int.ofNat 112) = true → KK (AV.bool true) h) ∧ (eqI (Int.ofNat x) (Int.ofNat 112) = false → ((eqI (Int.ofNat x) (Int.ofNat 111) = true → KK (AV.bool true) h) ∧ (eqI (Int.ofNat x) (Int.ofNat 111) = false → KK (AV.bool false) h))))) (fun (rv : AV) (rh : Hp) => rv = (AV.bool r) ∧ Eng.Sep (Frz (Low h) h :: []) rh)) (by kernel_rfl) ?_
  refine ⟨fun c1 => ?_, fun c1 => ?_⟩
  · replace c1 := eqI_t c1
    replace hp := ift hp c1
    obtain rfl := Option.some.inj hp
    exact ⟨rfl, S⟩
  replace c1 := eqI_f c1
  replace hp := iff0 hp (c1)
  refine ⟨fun c2 => ?_, fun c2 => ?_⟩
  · replace c2 := eqI_t c2
    replace hp := ift hp c2
    obtain rfl := Option.some.inj hp
    exact ⟨rfl, S⟩
  replace c2 := eqI_f c2
  replace hp := iff0 hp (c2)
  obtain rfl := Option.some.inj hp
  exact ⟨rfl, S⟩
def C_tref (call : CallT) : Prop := ∀ {h : Hp} {x : Nat} (fx_1 : x < 256) {r : Bool}, tref_p x = some r → ∃ rv rh, call 81 [(vb8 x)] h = .ok rv rh ∧ rv = (AV.bool r) ∧ Eng.Sep (Frz (Low h) h :: []) rh
theorem s_tref (d : Nat) : C_tref (CC (d + 1)) := by
  intro h x fx_1 r hp
  rw [CC, evF_at (sumT_none rfl)]
  exact tref_w (call := CC (d + 0)) (N := 100000) fx_1  hp
noncomputable def skip_p (cb : List Nat) (cn : Nat) (ce : Nat) (k : Nat) : Option (List Nat × Nat × Nat) :=
  (gd (k ≤ cb.length) (gd (cn + k < 9223372036854775808) (some (cb.drop k, cn + k, ce))))
theorem skip_w {call : CallT} {N : Nat} {h : Hp} {h0 : Hp} {G : Nat → Prop} {R : List AObj} {b : Nat} {rest : List AV} {wcb_1 : AV} {cb : List Nat} {cn : Nat} {ce : Nat} {k : Nat} (fcb_2 : BIn G h0 wcb_1 cb)  {r : List Nat × Nat × Nat} (hp : skip_p cb cn ce k = some r) (S : Eng.Sep (Cel b (wcb_1 :: (vi cn) :: (vi ce) :: rest) :: Frz G h0 :: R) h) :
    ∃ rv rh, evF1 (progS Try.prog (compDrawn Try.prog)) N call 106 [(AV.ptr b 0), (vi k)] h = .ok rv rh ∧ (fun (rv : AV) (rh : Hp) => ∃ wk1 : AV, rv = (AV.tuple []) ∧ (BIn G h0 wk1 r.1) ∧ Eng.Sep (Cel b (wk1 :: (vi r.2.1) :: (vi r.2.2) :: rest) :: Frz G h0 :: R) rh) rv rh := by
  unfold skip_p at hp
  refine fwalk_ok (K := (fun (rv : AV) (rh : Hp) => ∃ wk1 : AV, rv = (AV.tuple []) ∧ (BIn G h0 wk1 r.1) ∧ Eng.Sep (Cel b (wk1 :: (vi r.2.1) :: (vi r.2.2) :: rest) :: Frz G h0 :: R) rh)) (o := (.tell 5 wcb_1 (.tell 1 (partS wcb_1 k cb.length) (.tell 3 (vi cn) (.tell 1 (vi (cn + k)) (.again 2 (.effx 0 (fun e4 => (AV.tuple [])) (fun e4 => (.again 2 (.effx 0 (fun e6 => (AV.tuple [])) (fun e6 => .fin))))))))))) (p := (fun (KK : AV → Hp → Prop) => ((evQ (.loadS (.const (AV.ptr b 0))) .lf h = .ok wcb_1 ∧ ((evQ (.sliceSl 1 (.const wcb_1) (some (.const (vi k))) none none) .lf H0 = .ok (partS wcb_1 k cb.length) ∧ ((evQ (.loadS (.const (AV.ptr b 1))) .lf h = .ok (vi cn) ∧ ((evQ (.bin .add (.const (vi cn)) (.const (vi k))) .lf H0 = .ok (vi (cn + k)) ∧ ((again (.fieldAddr 0 (.const (AV.ptr b 0))) .lf (AV.ptr b 0) h = true ∧ again (.nilCheck (.const (AV.ptr b 0))) .lf (AV.ptr b 0) h = true ∧ again (.bin .add (.const (vi cn)) (.const (vi k))) .lf (vi (cn + k)) h = true ∧ again (.move (.const (vi k))) .lf (vi k) h = true ∧ again (.loadS (.const (AV.ptr b 1))) .lf (vi cn) h = true ∧ again (.fieldAddr 1 (.const (AV.ptr b 0))) .lf (AV.ptr b 1) h = true ∧ again (.nilCheck (.const (AV.ptr b 0))) .lf (AV.ptr b 0) h = true ∧ again (.move (.const (AV.ptr b 0))) .lf (AV.ptr b 0) h = true ∧ again (.sliceSl 1 (.const wcb_1) (some (.const (vi k))) none none) .lf (partS wcb_1 k cb.length) h = true ∧ again (.move (.const (vi k))) .lf (vi k) h = true ∧ again (.loadS (.const (AV.ptr b 0))) .lf wcb_1 h = true ∧ again (.fieldAddr 0 (.const (AV.ptr b 0))) .lf (AV.ptr b 0) h = true ∧ again (.nilCheck (.const (AV.ptr b 0))) .lf (AV.ptr b 0) h = true ∧ again (.move (.const (AV.ptr b 0))) .lf (AV.ptr b 0) h = true ∧ again (.move (.const (AV.ptr b 0))) .lf (AV.ptr b 0) h = true ∧ again (.move (.const (AV.ptr b 0))) .lf (AV.ptr b 0) h = true ∧ True) ∧ (∃ e4 : Ev, evE (.store 1 (.const (AV.ptr b 0)) (.const (partS wcb_1 k cb.length))) call .lf h = .ok (AV.tuple []) e4.h ∧ ((again (.fieldAddr 1 (.const (AV.ptr b 0))) .lf (AV.ptr b 1) e4.h = true ∧ again (.nilCheck (.const (AV.ptr b 0))) .lf (AV.ptr b 0) e4.h = true ∧ again (.bin .add (.const (vi cn)) (.const (vi k))) .lf (vi (cn + k)) e4.h = true ∧ again (.move (.const (vi k))) .lf (vi k) e4.h = true ∧ again (.move (.const (AV.ptr b 0))) .lf (AV.ptr b 0) e4.h = true ∧ True) ∧ (∃ e6 : Ev, evE (.store 1 (.const (AV.ptr b 1)) (.const (vi (cn + k)))) call .lf e4.h = .ok (AV.tuple []) e6.h ∧ KK (AV.tuple []) e6.h))))))))))))) (fun (rv : AV) (rh : Hp) => ∃ wk1 : AV, rv = (AV.tuple []) ∧ (BIn G h0 wk1 r.1) ∧ Eng.Sep (Cel b (wk1 :: (vi r.2.1) :: (vi r.2.2) :: rest) :: Frz G h0 :: R) rh)) (by kernel_rfl) ?_
  refine ⟨cel_load S (i := 0) rfl rfl, ?_⟩
  have ⟨g1, hp⟩ := gd_inv hp
  refine ⟨q_sliceFrom (l := cb) (BIn.now S (i := 1) rfl fcb_2) g1, ?_⟩
  have b2 := BIn.from (l := cb) (lo := k) fcb_2 g1
  refine ⟨cel_load S (i := 0) rfl rfl, ?_⟩
  have ⟨g3, hp⟩ := gd_inv hp
  refine ⟨q_add g3, ?_⟩
  refine ⟨⟨again_of (rfl) (avEq_ptr _ _), again_of (rfl) (avEq_ptr _ _), again_of (q_add g3) (avEq_int _ _), again_of (rfl) (avEq_int _ _), again_of (cel_load S (i := 0) rfl rfl) (avEq_int _ _), again_of (rfl) (avEq_ptr _ _), again_of (rfl) (avEq_ptr _ _), again_of (rfl) (avEq_ptr _ _), again_of (q_sliceFrom (l := cb) (BIn.now S (i := 1) rfl fcb_2) g1) (BIn.same b2), again_of (rfl) (avEq_int _ _), again_of (cel_load S (i := 0) rfl rfl) (BIn.same fcb_2), again_of (rfl) (avEq_ptr _ _), again_of (rfl) (avEq_ptr _ _), again_of (rfl) (avEq_ptr _ _), again_of (rfl) (avEq_ptr _ _), again_of (rfl) (avEq_ptr _ _), trivial⟩, ?_⟩
  obtain ⟨e4, qe4, se4⟩ := cel_store call S (i := 0) (o := 0) (x := (partS wcb_1 k cb.length)) rfl (lb rfl) (BIn.cell b2)
  refine ⟨e4, qe4, ?_⟩
  refine ⟨⟨again_of (rfl) (avEq_ptr _ _), again_of (rfl) (avEq_ptr _ _), again_of (q_add g3) (avEq_int _ _), again_of (rfl) (avEq_int _ _), again_of (rfl) (avEq_ptr _ _), trivial⟩, ?_⟩
  obtain ⟨e6, qe6, se6⟩ := cel_store call se4 (i := 0) (o := 1) (x := (vi (cn + k))) rfl (lb rfl) rfl
  refine ⟨e6, qe6, ?_⟩
  obtain rfl := Option.some.inj hp
  exact ⟨(partS wcb_1 k cb.length), rfl, b2, se6⟩
def C_skip (call : CallT) : Prop := ∀ {h : Hp} {h0 : Hp} {G : Nat → Prop} {R : List AObj} {b : Nat} {rest : List AV} {wcb_1 : AV} {cb : List Nat} {cn : Nat} {ce : Nat} {k : Nat} (fcb_2 : BIn G h0 wcb_1 cb) {r : List Nat × Nat × Nat}, skip_p cb cn ce k = some r → Eng.Sep (Cel b (wcb_1 :: (vi cn) :: (vi ce) :: rest) :: Frz G h0 :: R) h → ∃ rv rh, call 106 [(AV.ptr b 0), (vi k)] h = .ok rv rh ∧ ∃ wk1 : AV, rv = (AV.tuple []) ∧ (BIn G h0 wk1 r.1) ∧ Eng.Sep (Cel b (wk1 :: (vi r.2.1) :: (vi r.2.2) :: rest) :: Frz G h0 :: R) rh
theorem s_skip (d : Nat) : C_skip (CC (d + 1)) := by
  intro h h0 G R b rest wcb_1 cb cn ce k fcb_2 r hp S
  rw [CC, evF_at (sumT_none rfl)]
  exact skip_w (call := CC (d + 0)) (N := 100000) fcb_2  hp S
noncomputable def fails_p (cb : List Nat) (cn : Nat) (ce : Nat) (is : Bool) (e : Nat) : Option (List Nat × Nat × Nat) :=
  (if is = true then (if ce = 0 then (some (cb, cn, e)) else
    (some (cb, cn, ce))) else
    (some (cb, cn, ce)))
theorem fails_w {call : CallT} {N : Nat} {h : Hp} {h0 : Hp} {G : Nat → Prop} {R : List AObj} {b : Nat} {rest : List AV} {wcb_1 : AV} {cb : List Nat} {cn : Nat} {ce : Nat} {is : Bool} {e : Nat} (fcb_2 : BIn G h0 wcb_1 cb)  {r : List Nat × Nat × Nat} (hp : fails_p cb cn ce is e = some r) (S : Eng.Sep (Cel b (wcb_1 :: (vi cn) :: (vi ce) :: rest) :: Frz G h0 :: R) h) :
    ∃ rv rh, evF1 (progS Try.prog (compDrawn Try.prog)) N call 47 [(AV.ptr b 0), (AV.bool is), (vi e)] h = .ok rv rh ∧ (fun (rv : AV) (rh : Hp) => ∃ wk1 : AV, rv = (AV.tuple []) ∧ (BIn G h0 wk1 r.1) ∧ Eng.Sep (Cel b (wk1 :: (vi r.2.1) :: (vi r.2.2) :: rest) :: Frz G h0 :: R) rh) rv rh := by
  unfold fails_p at hp
  refine fwalk_ok (K := (fun (rv : AV) (rh : Hp) => ∃ wk1 : AV, rv = (AV.tuple []) ∧ (BIn G h0 wk1 r.1) ∧ Eng.Sep (Cel b (wk1 :: (vi r.2.1) :: (vi r.2.2) :: rest) :: Frz G h0 :: R) rh)) (o := (.fork 1 (.tell 3 (vi ce) (.fork 1 (.effx 4 (fun e3 => (AV.tuple [])) (fun e3 => .fin)) .fin)) .fin)) (p := (fun (KK : AV → Hp → Prop) => ((is = true → ((evQ (.loadS (.const (AV.ptr b 2))) .lf h = .ok (vi ce) ∧ ((eqI (Int.ofNat ce) (Int.ofNat 0) = true → (∃ e3 : Ev, evE (.store 1 (.const (AV.ptr b 2)) (.const (vi e))) call .lf h = .ok (AV.tuple []) e3.h ∧ KK (AV.tuple []) e3.h)) ∧ (eqI (Int.ofNat ce) (Int.ofNat 0) = false → KK (AV.tuple []) h))))) ∧ (is = false → KK (AV.tuple []) h))) (fun (rv : AV) (rh : Hp) => ∃ wk1 : AV, rv = (AV.tuple []) ∧ (BIn G h0 wk1 r.1) ∧ Eng.Sep (Cel b (wk1 :: (vi r.2.1) :: (vi r.2.2) :: rest) :: Frz G h0 :: R) rh)) (by kernel_rfl) ?_
  refine ⟨fun c1 => ?_, fun c1 => ?_⟩
  · replace hp := ift hp c1
    refine ⟨cel_load S (i := 0) rfl rfl, ?_⟩
    refine ⟨fun c2 => ?_, fun c2 => ?_⟩
    · replace c2 := eqI_t c2
      replace hp := ift hp c2
      obtain ⟨e3, qe3, se3⟩ := cel_store call S (i := 0) (o := 2) (x := (vi e)) rfl (lb rfl) rfl
      refine ⟨e3, qe3, ?_⟩
      obtain rfl := Option.some.inj hp
      exact ⟨wcb_1, rfl, fcb_2, se3⟩
    replace c2 := eqI_f c2
    replace hp := iff0 hp (c2)
    obtain rfl := Option.some.inj hp
    exact ⟨wcb_1, rfl, fcb_2, S⟩
  replace hp := iff0 hp (nbF c1)
  obtain rfl := Option.some.inj hp
  exact ⟨wcb_1, rfl, fcb_2, S⟩
def C_fails (call : CallT) : Prop := ∀ {h : Hp} {h0 : Hp} {G : Nat → Prop} {R : List AObj} {b : Nat} {rest : List AV} {wcb_1 : AV} {cb : List Nat} {cn : Nat} {ce : Nat} {is : Bool} {e : Nat} (fcb_2 : BIn G h0 wcb_1 cb) {r : List Nat × Nat × Nat}, fails_p cb cn ce is e = some r → Eng.Sep (Cel b (wcb_1 :: (vi cn) :: (vi ce) :: rest) :: Frz G h0 :: R) h → ∃ rv rh, call 47 [(AV.ptr b 0), (AV.bool is), (vi e)] h = .ok rv rh ∧ ∃ wk1 : AV, rv = (AV.tuple []) ∧ (BIn G h0 wk1 r.1) ∧ Eng.Sep (Cel b (wk1 :: (vi r.2.1) :: (vi r.2.2) :: rest) :: Frz G h0 :: R) rh
theorem s_fails (d : Nat) : C_fails (CC (d + 1)) := by
  intro h h0 G R b rest wcb_1 cb cn ce is e fcb_2 r hp S
  rw [CC, evF_at (sumT_none rfl)]
  exact fails_w (call := CC (d + 0)) (N := 100000) fcb_2  hp S
noncomputable def byte_p (cb : List Nat) (cn : Nat) (ce : Nat) : Option (List Nat × Nat × Nat × Nat) :=
  (ob (fails_p cb cn ce (eqI (Int.ofNat cb.length) (Int.ofNat 0)) 3) fun x1 =>
    (if x1.2.2 = 0 then (gd (0 < x1.1.length) (ob (skip_p x1.1 x1.2.1 x1.2.2 1) fun x17 =>
    (some (x17.1, x17.2.1, x17.2.2, x1.1.getD 0 0)))) else
    (some (x1.1, x1.2.1, x1.2.2, 0))))
theorem byte_w {call : CallT} {N : Nat} {h : Hp} {h0 : Hp} {G : Nat → Prop} {R : List AObj} {b : Nat} {rest : List AV} {wcb_1 : AV} {cb : List Nat} {cn : Nat} {ce : Nat} (fcb_2 : BIn G h0 wcb_1 cb) (h_fails : C_fails call) (h_skip : C_skip call) {r : List Nat × Nat × Nat × Nat} (hp : byte_p cb cn ce = some r) (S : Eng.Sep (Cel b (wcb_1 :: (vi cn) :: (vi ce) :: rest) :: Frz G h0 :: R) h) :
    ∃ rv rh, evF1 (progS Try.prog (compDrawn Try.prog)) N call 70 [(AV.ptr b 0)] h = .ok rv rh ∧ (fun (rv : AV) (rh : Hp) => ∃ wk2 : AV, rv = (vb8 r.2.2.2) ∧ (r.2.2.2 < 256) ∧ (BIn G h0 wk2 r.1) ∧ Eng.Sep (Cel b (wk2 :: (vi r.2.1) :: (vi r.2.2.1) :: rest) :: Frz G h0 :: R) rh) rv rh := by
  unfold byte_p at hp
  refine fwalk_ok (K := (fun (rv : AV) (rh : Hp) => ∃ wk2 : AV, rv = (vb8 r.2.2.2) ∧ (r.2.2.2 < 256) ∧ (BIn G h0 wk2 r.1) ∧ Eng.Sep (Cel b (wk2 :: (vi r.2.1) :: (vi r.2.2.1) :: rest) :: Frz G h0 :: R) rh)) (o := (.tell 5 wcb_1 (.tell 0 (vi cb.length) (.exi 1 fun (x1 : List Nat × Nat × Nat) => (.exi 0 fun (w10 : AV) => (.exi 0 fun (h6 : Hp) => (.eff 0 (AV.tuple []) h6 (.tell 3 (vi x1.2.2) (.fork 0 (.tell 3 w10 (.tell 0 (elemP w10 0 1) (.tell 0 (vb8 (x1.1.getD 0 0)) (.exi 2 fun (x17 : List Nat × Nat × Nat) => (.exi 0 fun (w26 : AV) => (.exi 0 fun (h22 : Hp) => (.eff 0 (AV.tuple []) h22 .fin))))))) .fin))))))))) (p := (fun (KK : AV → Hp → Prop) => ((evQ (.loadS (.const (AV.ptr b 0))) .lf h = .ok wcb_1 ∧ ((evQ (.lenL (.const wcb_1)) .lf H0 = .ok (vi cb.length) ∧ (∃ x1 : List Nat × Nat × Nat, ∃ w10 : AV, ∃ h6 : Hp, (call 47 [(AV.ptr b 0), (AV.bool (eqI (Int.ofNat cb.length) (Int.ofNat 0))), (vi 3)] h = .ok (AV.tuple []) h6 ∧ ((evQ (.loadS (.const (AV.ptr b 2))) .lf h6 = .ok (vi x1.2.2) ∧ ((eqI (Int.ofNat x1.2.2) (Int.ofNat 0) = true → ((evQ (.loadS (.const (AV.ptr b 0))) .lf h6 = .ok w10 ∧ ((evQ (.idxAddrSl 1 (.const w10) (.const (vi 0))) .lf H0 = .ok (elemP w10 0 1) ∧ ((evQ (.loadS (.const (elemP w10 0 1))) .lf h6 = .ok (vb8 (x1.1.getD 0 0)) ∧ (∃ x17 : List Nat × Nat × Nat, ∃ w26 : AV, ∃ h22 : Hp, (call 106 [(AV.ptr b 0), (vi 1)] h6 = .ok (AV.tuple []) h22 ∧ KK (vb8 (x1.1.getD 0 0)) h22))))))))) ∧ (eqI (Int.ofNat x1.2.2) (Int.ofNat 0) = false → KK (vb8 0) h6))))))))))) (fun (rv : AV) (rh : Hp) => ∃ wk2 : AV, rv = (vb8 r.2.2.2) ∧ (r.2.2.2 < 256) ∧ (BIn G h0 wk2 r.1) ∧ Eng.Sep (Cel b (wk2 :: (vi r.2.1) :: (vi r.2.2.1) :: rest) :: Frz G h0 :: R) rh)) (by kernel_rfl) ?_
  refine ⟨cel_load S (i := 0) rfl rfl, ?_⟩
  refine ⟨q_len (BIn.now S (i := 1) rfl fcb_2), ?_⟩
  have ⟨x1, hb2, hp⟩ := ob_inv hp
  obtain ⟨v5, h6, q7, w10, e8, f11, S9⟩ := h_fails fcb_2 hb2 S
  replace e8 := e8.symm
  subst e8
  refine ⟨x1, w10, h6, q7, ?_⟩
  refine ⟨cel_load S9 (i := 0) rfl rfl, ?_⟩
  refine ⟨fun c14 => ?_, fun c14 => ?_⟩
  · replace c14 := eqI_t c14
    replace hp := ift hp c14
    refine ⟨cel_load S9 (i := 0) rfl rfl, ?_⟩
    have ⟨g15, hp⟩ := gd_inv hp
    refine ⟨q_idxB (l := x1.1) (BIn.now S9 (i := 1) rfl f11) g15, ?_⟩
    refine ⟨q_byte (l := x1.1) (BIn.now S9 (i := 1) rfl f11) g15, ?_⟩
    have x16 : x1.1.getD 0 0 < 256 := getD_lt (BIn.now S9 (i := 1) rfl f11).lt 0
    have ⟨x17, hb18, hp⟩ := ob_inv hp
    obtain ⟨v21, h22, q23, w26, e24, f27, S25⟩ := h_skip f11 hb18 S9
    replace e24 := e24.symm
    subst e24
    refine ⟨x17, w26, h22, q23, ?_⟩
    obtain rfl := Option.some.inj hp
    exact ⟨w26, rfl, x16, f27, S25⟩
  replace c14 := eqI_f c14
  replace hp := iff0 hp (c14)
  obtain rfl := Option.some.inj hp
  exact ⟨w10, rfl, (show 0 < 256 by decide), f11, S9⟩
def C_byte (call : CallT) : Prop := ∀ {h : Hp} {h0 : Hp} {G : Nat → Prop} {R : List AObj} {b : Nat} {rest : List AV} {wcb_1 : AV} {cb : List Nat} {cn : Nat} {ce : Nat} (fcb_2 : BIn G h0 wcb_1 cb) {r : List Nat × Nat × Nat × Nat}, byte_p cb cn ce = some r → Eng.Sep (Cel b (wcb_1 :: (vi cn) :: (vi ce) :: rest) :: Frz G h0 :: R) h → ∃ rv rh, call 70 [(AV.ptr b 0)] h = .ok rv rh ∧ ∃ wk2 : AV, rv = (vb8 r.2.2.2) ∧ (r.2.2.2 < 256) ∧ (BIn G h0 wk2 r.1) ∧ Eng.Sep (Cel b (wk2 :: (vi r.2.1) :: (vi r.2.2.1) :: rest) :: Frz G h0 :: R) rh
theorem s_byte (d : Nat) : C_byte (CC (d + 2)) := by
  intro h h0 G R b rest wcb_1 cb cn ce fcb_2 r hp S
  rw [CC, evF_at (sumT_none rfl)]
  exact byte_w (call := CC (d + 1)) (N := 100000) fcb_2 (s_fails (d + 0)) (s_skip (d + 0)) hp S
noncomputable def cnum_p (cb : List Nat) (cn : Nat) (ce : Nat) : Option (List Nat × Nat × Nat × Nat) :=
  (if ce ≠ 0 then (some (cb, cn, ce, 0)) else
    (gd (cb.length < 90000) (ob (some (readG 32 false cb 0 0 0)) fun x3 =>
    (ob (skip_p cb cn ce x3.2.1) fun x6 =>
    (some (x6.1, x6.2.1, x3.2.2, x3.1 % 4294967296))))))
theorem cnum_w {call : CallT} {N : Nat} {h : Hp} {h0 : Hp} {G : Nat → Prop} {R : List AObj} {b : Nat} {rest : List AV} {wcb_1 : AV} {cb : List Nat} {cn : Nat} {ce : Nat} (fcb_2 : BIn G h0 wcb_1 cb) (h_skip : C_skip call) (h_U32 : NumS call 107 32 false .u32 (fun n => .ofNat (n % 4294967296))) {r : List Nat × Nat × Nat × Nat} (hp : cnum_p cb cn ce = some r) (S : Eng.Sep (Cel b (wcb_1 :: (vi cn) :: (vi ce) :: rest) :: Frz G h0 :: R) h) :
    ∃ rv rh, evF1 (progS Try.prog (compDrawn Try.prog)) N call 71 [(AV.ptr b 0)] h = .ok rv rh ∧ (fun (rv : AV) (rh : Hp) => ∃ wk2 : AV, rv = (vw r.2.2.2) ∧ (r.2.2.2 < 4294967296) ∧ (BIn G h0 wk2 r.1) ∧ Eng.Sep (Cel b (wk2 :: (vi r.2.1) :: (vi r.2.2.1) :: rest) :: Frz G h0 :: R) rh) rv rh := by
  unfold cnum_p at hp
  refine fwalk_ok (K := (fun (rv : AV) (rh : Hp) => ∃ wk2 : AV, rv = (vw r.2.2.2) ∧ (r.2.2.2 < 4294967296) ∧ (BIn G h0 wk2 r.1) ∧ Eng.Sep (Cel b (wk2 :: (vi r.2.1) :: (vi r.2.2.1) :: rest) :: Frz G h0 :: R) rh)) (o := (.tell 4 (vi ce) (.fork 0 .fin (.tell 3 wcb_1 (.exi 0 fun (x3 : Nat × Nat × Nat) => (.eff 0 (AV.tuple [(vw (x3.1 % 4294967296)), (vi x3.2.1), (vi x3.2.2)]) h (.exi 9 fun (x6 : List Nat × Nat × Nat) => (.exi 0 fun (w15 : AV) => (.exi 0 fun (h11 : Hp) => (.eff 0 (AV.tuple []) h11 (.effx 4 (fun e19 => (AV.tuple [])) (fun e19 => .fin)))))))))))) (p := (fun (KK : AV → Hp → Prop) => ((evQ (.loadS (.const (AV.ptr b 2))) .lf h = .ok (vi ce) ∧ ((notB (eqI (Int.ofNat ce) (Int.ofNat 0)) = true → KK (vw 0) h) ∧ (notB (eqI (Int.ofNat ce) (Int.ofNat 0)) = false → ((evQ (.loadS (.const (AV.ptr b 0))) .lf h = .ok wcb_1 ∧ (∃ x3 : Nat × Nat × Nat, (call 107 [wcb_1] h = .ok (AV.tuple [(vw (x3.1 % 4294967296)), (vi x3.2.1), (vi x3.2.2)]) h ∧ (∃ x6 : List Nat × Nat × Nat, ∃ w15 : AV, ∃ h11 : Hp, (call 106 [(AV.ptr b 0), (vi x3.2.1)] h = .ok (AV.tuple []) h11 ∧ (∃ e19 : Ev, evE (.store 1 (.const (AV.ptr b 2)) (.const (vi x3.2.2))) call .lf h11 = .ok (AV.tuple []) e19.h ∧ KK (vw (x3.1 % 4294967296)) e19.h)))))))))))) (fun (rv : AV) (rh : Hp) => ∃ wk2 : AV, rv = (vw r.2.2.2) ∧ (r.2.2.2 < 4294967296) ∧ (BIn G h0 wk2 r.1) ∧ Eng.Sep (Cel b (wk2 :: (vi r.2.1) :: (vi r.2.2.1) :: rest) :: Frz G h0 :: R) rh)) (by kernel_rfl) ?_
  refine ⟨cel_load S (i := 0) rfl rfl, ?_⟩
  refine ⟨fun c1 => ?_, fun c1 => ?_⟩
  · replace c1 := eqI_f (notB_t c1)
    replace hp := ift hp c1
    obtain rfl := Option.some.inj hp
    exact ⟨wcb_1, rfl, (show 0 < 4294967296 by decide), fcb_2, S⟩
  replace c1 := eqI_t (notB_f c1)
  replace hp := iff0 hp (nneO c1)
  refine ⟨cel_load S (i := 0) rfl rfl, ?_⟩
  have ⟨g2, hp⟩ := gd_inv hp
  have ⟨x3, hb4, hp⟩ := ob_inv hp
  replace hb4 := Option.some.inj hb4
  refine ⟨x3, (by rw [← hb4]; exact h_U32 (BIn.now S (i := 1) rfl fcb_2) g2), ?_⟩
  have ⟨x6, hb7, hp⟩ := ob_inv hp
  obtain ⟨v10, h11, q12, w15, e13, f16, S14⟩ := h_skip fcb_2 hb7 S
  replace e13 := e13.symm
  subst e13
  refine ⟨x6, w15, h11, q12, ?_⟩
  obtain ⟨e19, qe19, se19⟩ := cel_store call S14 (i := 0) (o := 2) (x := (vi x3.2.2)) rfl (lb rfl) rfl
  refine ⟨e19, qe19, ?_⟩
  obtain rfl := Option.some.inj hp
  exact ⟨w15, rfl, (Nat.mod_lt _ (by decide)), f16, se19⟩
def C_cnum (call : CallT) : Prop := ∀ {h : Hp} {h0 : Hp} {G : Nat → Prop} {R : List AObj} {b : Nat} {rest : List AV} {wcb_1 : AV} {cb : List Nat} {cn : Nat} {ce : Nat} (fcb_2 : BIn G h0 wcb_1 cb) {r : List Nat × Nat × Nat × Nat}, cnum_p cb cn ce = some r → Eng.Sep (Cel b (wcb_1 :: (vi cn) :: (vi ce) :: rest) :: Frz G h0 :: R) h → ∃ rv rh, call 71 [(AV.ptr b 0)] h = .ok rv rh ∧ ∃ wk2 : AV, rv = (vw r.2.2.2) ∧ (r.2.2.2 < 4294967296) ∧ (BIn G h0 wk2 r.1) ∧ Eng.Sep (Cel b (wk2 :: (vi r.2.1) :: (vi r.2.2.1) :: rest) :: Frz G h0 :: R) rh
theorem s_cnum (d : Nat) : C_cnum (CC (d + 4)) := by
  intro h h0 G R b rest wcb_1 cb cn ce fcb_2 r hp S
  rw [CC, evF_at (sumT_none rfl)]
  exact cnum_w (call := CC (d + 3)) (N := 100000) fcb_2 (s_skip (d + 2)) (s_U32 (d + 0)) hp S
noncomputable def nought_p (cb : List Nat) (cn : Nat) (ce : Nat) : Option (List Nat × Nat × Nat) :=
  (ob (byte_p cb cn ce) fun x1 =>
    (ob (fails_p x1.1 x1.2.1 x1.2.2.1 (notB (eqI (Int.ofNat x1.2.2.2) (Int.ofNat 0))) 2) fun x15 =>
    (some (x15.1, x15.2.1, x15.2.2))))
theorem nought_w {call : CallT} {N : Nat} {h : Hp} {h0 : Hp} {G : Nat → Prop} {R : List AObj} {b : Nat} {rest : List AV} {wcb_1 : AV} {cb : List Nat} {cn : Nat} {ce : Nat} (fcb_2 : BIn G h0 wcb_1 cb) (h_fails : C_fails call) (h_byte : C_byte call) {r : List Nat × Nat × Nat} (hp : nought_p cb cn ce = some r) (S : Eng.Sep (Cel b (wcb_1 :: (vi cn) :: (vi ce) :: rest) :: Frz G h0 :: R) h) :
    ∃ rv rh, evF1 (progS Try.prog (compDrawn Try.prog)) N call 108 [(AV.ptr b 0)] h = .ok rv rh ∧ (fun (rv : AV) (rh : Hp) => ∃ wk1 : AV, rv = (AV.tuple []) ∧ (BIn G h0 wk1 r.1) ∧ Eng.Sep (Cel b (wk1 :: (vi r.2.1) :: (vi r.2.2) :: rest) :: Frz G h0 :: R) rh) rv rh := by
  unfold nought_p at hp
  refine fwalk_ok (K := (fun (rv : AV) (rh : Hp) => ∃ wk1 : AV, rv = (AV.tuple []) ∧ (BIn G h0 wk1 r.1) ∧ Eng.Sep (Cel b (wk1 :: (vi r.2.1) :: (vi r.2.2) :: rest) :: Frz G h0 :: R) rh)) (o := (.exi 2 fun (x1 : List Nat × Nat × Nat × Nat) => (.exi 0 fun (w11 : AV) => (.exi 0 fun (h7 : Hp) => (.eff 0 (vb8 x1.2.2.2) h7 (.exi 1 fun (x15 : List Nat × Nat × Nat) => (.exi 0 fun (w24 : AV) => (.exi 0 fun (h20 : Hp) => (.eff 0 (AV.tuple []) h20 .fin))))))))) (p := (fun (KK : AV → Hp → Prop) => (∃ x1 : List Nat × Nat × Nat × Nat, ∃ w11 : AV, ∃ h7 : Hp, (call 70 [(AV.ptr b 0)] h = .ok (vb8 x1.2.2.2) h7 ∧ (∃ x15 : List Nat × Nat × Nat, ∃ w24 : AV, ∃ h20 : Hp, (call 47 [(AV.ptr b 0), (AV.bool (notB (eqI (Int.ofNat x1.2.2.2) (Int.ofNat 0)))), (vi 2)] h7 = .ok (AV.tuple []) h20 ∧ KK (AV.tuple []) h20))))) (fun (rv : AV) (rh : Hp) => ∃ wk1 : AV, rv = (AV.tuple []) ∧ (BIn G h0 wk1 r.1) ∧ Eng.Sep (Cel b (wk1 :: (vi r.2.1) :: (vi r.2.2) :: rest) :: Frz G h0 :: R) rh)) (by kernel_rfl) ?_
  have ⟨x1, hb2, hp⟩ := ob_inv hp
  obtain ⟨v6, h7, q8, w11, e9, f5, f12, S10⟩ := h_byte fcb_2 hb2 S
  replace e9 := e9.symm
  subst e9
  refine ⟨x1, w11, h7, q8, ?_⟩
  have ⟨x15, hb16, hp⟩ := ob_inv hp
  obtain ⟨v19, h20, q21, w24, e22, f25, S23⟩ := h_fails f12 hb16 S10
  replace e22 := e22.symm
  subst e22
  refine ⟨x15, w24, h20, q21, ?_⟩
  obtain rfl := Option.some.inj hp
  exact ⟨w24, rfl, f25, S23⟩
def C_nought (call : CallT) : Prop := ∀ {h : Hp} {h0 : Hp} {G : Nat → Prop} {R : List AObj} {b : Nat} {rest : List AV} {wcb_1 : AV} {cb : List Nat} {cn : Nat} {ce : Nat} (fcb_2 : BIn G h0 wcb_1 cb) {r : List Nat × Nat × Nat}, nought_p cb cn ce = some r → Eng.Sep (Cel b (wcb_1 :: (vi cn) :: (vi ce) :: rest) :: Frz G h0 :: R) h → ∃ rv rh, call 108 [(AV.ptr b 0)] h = .ok rv rh ∧ ∃ wk1 : AV, rv = (AV.tuple []) ∧ (BIn G h0 wk1 r.1) ∧ Eng.Sep (Cel b (wk1 :: (vi r.2.1) :: (vi r.2.2) :: rest) :: Frz G h0 :: R) rh
theorem s_nought (d : Nat) : C_nought (CC (d + 3)) := by
  intro h h0 G R b rest wcb_1 cb cn ce fcb_2 r hp S
  rw [CC, evF_at (sumT_none rfl)]
  exact nought_w (call := CC (d + 2)) (N := 100000) fcb_2 (s_fails (d + 1)) (s_byte (d + 0)) hp S
noncomputable def value_p (cb : List Nat) (cn : Nat) (ce : Nat) : Option (List Nat × Nat × Nat × Nat) :=
  (ob (byte_p cb cn ce) fun x1 =>
    (if x1.2.2.1 = 0 then (ob (tvalue_p x1.2.2.2) fun x16 =>
    (some (x1.1, x1.2.1, x16.2, x1.2.2.2))) else
    (some (x1.1, x1.2.1, x1.2.2.1, x1.2.2.2))))
theorem value_w {call : CallT} {N : Nat} {h : Hp} {h0 : Hp} {G : Nat → Prop} {R : List AObj} {b : Nat} {rest : List AV} {wcb_1 : AV} {cb : List Nat} {cn : Nat} {ce : Nat} (fcb_2 : BIn G h0 wcb_1 cb) (h_byte : C_byte call) (h_tvalue : C_tvalue call) {r : List Nat × Nat × Nat × Nat} (hp : value_p cb cn ce = some r) (S : Eng.Sep (Cel b (wcb_1 :: (vi cn) :: (vi ce) :: rest) :: Frz G h0 :: R) h) :
    ∃ rv rh, evF1 (progS Try.prog (compDrawn Try.prog)) N call 80 [(AV.ptr b 0)] h = .ok rv rh ∧ (fun (rv : AV) (rh : Hp) => ∃ wk2 : AV, rv = (vb8 r.2.2.2) ∧ (r.2.2.2 < 256) ∧ (BIn G h0 wk2 r.1) ∧ Eng.Sep (Cel b (wk2 :: (vi r.2.1) :: (vi r.2.2.1) :: rest) :: Frz G h0 :: R) rh) rv rh := by
  unfold value_p at hp
  refine fwalk_ok (K := (fun (rv : AV) (rh : Hp) => ∃ wk2 : AV, rv = (vb8 r.2.2.2) ∧ (r.2.2.2 < 256) ∧ (BIn G h0 wk2 r.1) ∧ Eng.Sep (Cel b (wk2 :: (vi r.2.1) :: (vi r.2.2.1) :: rest) :: Frz G h0 :: R) rh)) (o := (.exi 2 fun (x1 : List Nat × Nat × Nat × Nat) => (.exi 0 fun (w11 : AV) => (.exi 0 fun (h7 : Hp) => (.eff 0 (vb8 x1.2.2.2) h7 (.tell 4 (vi x1.2.2.1) (.fork 0 (.exi 2 fun (x16 : Bool × Nat) => (.exi 0 fun (h21 : Hp) => (.eff 0 (AV.tuple [(AV.bool x16.1), (vi x16.2)]) h21 (.effx 5 (fun e27 => (AV.tuple [])) (fun e27 => .fin))))) .fin))))))) (p := (fun (KK : AV → Hp → Prop) => (∃ x1 : List Nat × Nat × Nat × Nat, ∃ w11 : AV, ∃ h7 : Hp, (call 70 [(AV.ptr b 0)] h = .ok (vb8 x1.2.2.2) h7 ∧ ((evQ (.loadS (.const (AV.ptr b 2))) .lf h7 = .ok (vi x1.2.2.1) ∧ ((eqI (Int.ofNat x1.2.2.1) (Int.ofNat 0) = true → (∃ x16 : Bool × Nat, ∃ h21 : Hp, (call 111 [(vb8 x1.2.2.2)] h7 = .ok (AV.tuple [(AV.bool x16.1), (vi x16.2)]) h21 ∧ (∃ e27 : Ev, evE (.store 1 (.const (AV.ptr b 2)) (.const (vi x16.2))) call .lf h21 = .ok (AV.tuple []) e27.h ∧ KK (vb8 x1.2.2.2) e27.h)))) ∧ (eqI (Int.ofNat x1.2.2.1) (Int.ofNat 0) = false → KK (vb8 x1.2.2.2) h7))))))) (fun (rv : AV) (rh : Hp) => ∃ wk2 : AV, rv = (vb8 r.2.2.2) ∧ (r.2.2.2 < 256) ∧ (BIn G h0 wk2 r.1) ∧ Eng.Sep (Cel b (wk2 :: (vi r.2.1) :: (vi r.2.2.1) :: rest) :: Frz G h0 :: R) rh)) (by kernel_rfl) ?_
  have ⟨x1, hb2, hp⟩ := ob_inv hp
  obtain ⟨v6, h7, q8, w11, e9, f5, f12, S10⟩ := h_byte fcb_2 hb2 S
  replace e9 := e9.symm
  subst e9
  refine ⟨x1, w11, h7, q8, ?_⟩
  refine ⟨cel_load S10 (i := 0) rfl rfl, ?_⟩
  refine ⟨fun c15 => ?_, fun c15 => ?_⟩
  · replace c15 := eqI_t c15
    replace hp := ift hp c15
    have ⟨x16, hb17, hp⟩ := ob_inv hp
    obtain ⟨v20, h21, q22, e23, S24⟩ := h_tvalue f5 hb17
    replace e23 := e23.symm
    subst e23
    have S26 := Sep.call S10 (news := []) S24
    refine ⟨x16, h21, q22, ?_⟩
    obtain ⟨e27, qe27, se27⟩ := cel_store call S26 (i := 0) (o := 2) (x := (vi x16.2)) rfl (lb rfl) rfl
    refine ⟨e27, qe27, ?_⟩
    obtain rfl := Option.some.inj hp
    exact ⟨w11, rfl, f5, f12, se27⟩
  replace c15 := eqI_f c15
  replace hp := iff0 hp (c15)
  obtain rfl := Option.some.inj hp
  exact ⟨w11, rfl, f5, f12, S10⟩
def C_value (call : CallT) : Prop := ∀ {h : Hp} {h0 : Hp} {G : Nat → Prop} {R : List AObj} {b : Nat} {rest : List AV} {wcb_1 : AV} {cb : List Nat} {cn : Nat} {ce : Nat} (fcb_2 : BIn G h0 wcb_1 cb) {r : List Nat × Nat × Nat × Nat}, value_p cb cn ce = some r → Eng.Sep (Cel b (wcb_1 :: (vi cn) :: (vi ce) :: rest) :: Frz G h0 :: R) h → ∃ rv rh, call 80 [(AV.ptr b 0)] h = .ok rv rh ∧ ∃ wk2 : AV, rv = (vb8 r.2.2.2) ∧ (r.2.2.2 < 256) ∧ (BIn G h0 wk2 r.1) ∧ Eng.Sep (Cel b (wk2 :: (vi r.2.1) :: (vi r.2.2.1) :: rest) :: Frz G h0 :: R) rh
theorem s_value (d : Nat) : C_value (CC (d + 3)) := by
  intro h h0 G R b rest wcb_1 cb cn ce fcb_2 r hp S
  rw [CC, evF_at (sumT_none rfl)]
  exact value_w (call := CC (d + 2)) (N := 100000) fcb_2 (s_byte (d + 0)) (s_tvalue (d + 1)) hp S
noncomputable def blockType_p (cb : List Nat) (cn : Nat) (ce : Nat) : Option (List Nat × Nat × Nat × Int) :=
  (ob (fails_p cb cn ce (eqI (Int.ofNat cb.length) (Int.ofNat 0)) 3) fun x1 =>
    (if x1.2.2 ≠ 0 then (some (x1.1, x1.2.1, x1.2.2, (0 : Int))) else
    (gd (0 < x1.1.length) (ob (tvalue_p (x1.1.getD 0 0)) fun x17 =>
    (if x1.1.getD 0 0 = 64 then (ob (skip_p x1.1 x1.2.1 x1.2.2 1) fun x29 =>
    (some (x29.1, x29.2.1, x29.2.2, wrapA .i64 (Int.sub (Int.ofNat (x1.1.getD 0 0)) (Int.ofNat 128))))) else
    (if x17.2 = 0 then (ob (skip_p x1.1 x1.2.1 x1.2.2 1) fun x30 =>
    (some (x30.1, x30.2.1, x30.2.2, wrapA .i64 (Int.sub (Int.ofNat (x1.1.getD 0 0)) (Int.ofNat 128))))) else
    (ob (fails_p x1.1 x1.2.1 x1.2.2 (eqI (Int.ofNat x17.2) (Int.ofNat 5)) x17.2) fun x30 =>
    (if x30.2.2 ≠ 0 then (some (x30.1, x30.2.1, x30.2.2, (0 : Int))) else
    (gd (x30.1.length < 90000) (ob (some (readG 33 true x30.1 0 0 0)) fun x45 =>
    (ob (skip_p x30.1 x30.2.1 x30.2.2 x45.2.1) fun x48 =>
    (ob (fails_p x48.1 x48.2.1 x45.2.2 (ltI (sInt .i64 x45.1) (Int.ofNat 0)) 2) fun x63 =>
    (some (x63.1, x63.2.1, x63.2.2, sInt .i64 x45.1))))))))))))))
theorem blockType_w {call : CallT} {N : Nat} {h : Hp} {h0 : Hp} {G : Nat → Prop} {R : List AObj} {b : Nat} {rest : List AV} {wcb_1 : AV} {cb : List Nat} {cn : Nat} {ce : Nat} (fcb_2 : BIn G h0 wcb_1 cb) (h_fails : C_fails call) (h_skip : C_skip call) (h_tvalue : C_tvalue call) (h_S33 : NumS call 112 33 true .i64 (sInt .i64)) {r : List Nat × Nat × Nat × Int} (hp : blockType_p cb cn ce = some r) (S : Eng.Sep (Cel b (wcb_1 :: (vi cn) :: (vi ce) :: rest) :: Frz G h0 :: R) h) :
    ∃ rv rh, evF1 (progS Try.prog (compDrawn Try.prog)) N call 77 [(AV.ptr b 0)] h = .ok rv rh ∧ (fun (rv : AV) (rh : Hp) => ∃ wk1 : AV, rv = (AV.int .i64 r.2.2.2) ∧ (BIn G h0 wk1 r.1) ∧ Eng.Sep (Cel b (wk1 :: (vi r.2.1) :: (vi r.2.2.1) :: rest) :: Frz G h0 :: R) rh) rv rh := by
  unfold blockType_p at hp
  refine fwalk_ok (K := (fun (rv : AV) (rh : Hp) => ∃ wk1 : AV, rv = (AV.int .i64 r.2.2.2) ∧ (BIn G h0 wk1 r.1) ∧ Eng.Sep (Cel b (wk1 :: (vi r.2.1) :: (vi r.2.2.1) :: rest) :: Frz G h0 :: R) rh)) (o := (.tell 5 wcb_1 (.tell 0 (vi cb.length) (.exi 1 fun (x1 : List Nat × Nat × Nat) => (.exi 0 fun (w10 : AV) => (.exi 0 fun (h6 : Hp) => (.eff 0 (AV.tuple []) h6 (.tell 3 (vi x1.2.2) (.fork 0 .fin (.tell 3 w10 (.tell 0 (elemP w10 0 1) (.tell 0 (vb8 (x1.1.getD 0 0)) (.exi 2 fun (x17 : Bool × Nat) => (.exi 0 fun (h22 : Hp) => (.eff 0 (AV.tuple [(AV.bool x17.1), (vi x17.2)]) h22 (.fork 7 (.exi 2 fun (x29 : List Nat × Nat × Nat) => (.exi 0 fun (w38 : AV) => (.exi 0 fun (h34 : Hp) => (.eff 0 (AV.tuple []) h34 (.tell 1 (vi (x1.1.getD 0 0)) .fin))))) (.fork 2 (.exi 1 fun (x30 : List Nat × Nat × Nat) => (.exi 0 fun (w39 : AV) => (.exi 0 fun (h35 : Hp) => (.eff 0 (AV.tuple []) h35 (.tell 1 (vi (x1.1.getD 0 0)) .fin))))) (.exi 4 fun (x30 : List Nat × Nat × Nat) => (.exi 0 fun (w39 : AV) => (.exi 0 fun (h35 : Hp) => (.eff 0 (AV.tuple []) h35 (.tell 3 (vi x30.2.2) (.fork 0 .fin (.tell 3 w39 (.exi 0 fun (x45 : Nat × Nat × Nat) => (.eff 0 (AV.tuple [(AV.int .i64 (sInt .i64 x45.1)), (vi x45.2.1), (vi x45.2.2)]) h35 (.exi 9 fun (x48 : List Nat × Nat × Nat) => (.exi 0 fun (w57 : AV) => (.exi 0 fun (h53 : Hp) => (.eff 0 (AV.tuple []) h53 (.effx 4 (fun e61 => (AV.tuple [])) (fun e61 => (.exi 3 fun (x63 : List Nat × Nat × Nat) => (.exi 0 fun (w72 : AV) => (.exi 0 fun (h68 : Hp) => (.eff 0 (AV.tuple []) h68 .fin)))))))))))))))))))))))))))))))))))) (p := (fun (KK : AV → Hp → Prop) => ((evQ (.loadS (.const (AV.ptr b 0))) .lf h = .ok wcb_1 ∧ ((evQ (.lenL (.const wcb_1)) .lf H0 = .ok (vi cb.length) ∧ (∃ x1 : List Nat × Nat × Nat, ∃ w10 : AV, ∃ h6 : Hp, (call 47 [(AV.ptr b 0), (AV.bool (eqI (Int.ofNat cb.length) (Int.ofNat 0))), (vi 3)] h = .ok (AV.tuple []) h6 ∧ ((evQ (.loadS (.const (AV.ptr b 2))) .lf h6 = .ok (vi x1.2.2) ∧ ((notB (eqI (Int.ofNat x1.2.2) (Int.ofNat 0)) = true → KK (vi 0) h6) ∧ (notB (eqI (Int.ofNat x1.2.2) (Int.ofNat 0)) = false → ((evQ (.loadS (.const (AV.ptr b 0))) .lf h6 = .ok w10 ∧ ((evQ (.idxAddrSl 1 (.const w10) (.const (vi 0))) .lf H0 = .ok (elemP w10 0 1) ∧ ((evQ (.loadS (.const (elemP w10 0 1))) .lf h6 = .ok (vb8 (x1.1.getD 0 0)) ∧ (∃ x17 : Bool × Nat, ∃ h22 : Hp, (call 111 [(vb8 (x1.1.getD 0 0))] h6 = .ok (AV.tuple [(AV.bool x17.1), (vi x17.2)]) h22 ∧ ((eqI (Int.ofNat (x1.1.getD 0 0)) (Int.ofNat 64) = true → (∃ x29 : List Nat × Nat × Nat, ∃ w38 : AV, ∃ h34 : Hp, (call 106 [(AV.ptr b 0), (vi 1)] h22 = .ok (AV.tuple []) h34 ∧ ((evQ (.toInt .i64 (.const (vb8 (x1.1.getD 0 0)))) .lf H0 = .ok (vi (x1.1.getD 0 0)) ∧ KK (AV.int .i64 (wrapA .i64 (Int.sub (Int.ofNat (x1.1.getD 0 0)) (Int.ofNat 128)))) h34))))) ∧ (eqI (Int.ofNat (x1.1.getD 0 0)) (Int.ofNat 64) = false → ((eqI (Int.ofNat x17.2) (Int.ofNat 0) = true → (∃ x30 : List Nat × Nat × Nat, ∃ w39 : AV, ∃ h35 : Hp, (call 106 [(AV.ptr b 0), (vi 1)] h22 = .ok (AV.tuple []) h35 ∧ ((evQ (.toInt .i64 (.const (vb8 (x1.1.getD 0 0)))) .lf H0 = .ok (vi (x1.1.getD 0 0)) ∧ KK (AV.int .i64 (wrapA .i64 (Int.sub (Int.ofNat (x1.1.getD 0 0)) (Int.ofNat 128)))) h35))))) ∧ (eqI (Int.ofNat x17.2) (Int.ofNat 0) = false → (∃ x30 : List Nat × Nat × Nat, ∃ w39 : AV, ∃ h35 : Hp, (call 47 [(AV.ptr b 0), (AV.bool (eqI (Int.ofNat x17.2) (Int.ofNat 5))), (vi x17.2)] h22 = .ok (AV.tuple []) h35 ∧ ((evQ (.loadS (.const (AV.ptr b 2))) .lf h35 = .ok (vi x30.2.2) ∧ ((notB (eqI (Int.ofNat x30.2.2) (Int.ofNat 0)) = true → KK (vi 0) h35) ∧ (notB (eqI (Int.ofNat x30.2.2) (Int.ofNat 0)) = false → ((evQ (.loadS (.const (AV.ptr b 0))) .lf h35 = .ok w39 ∧ (∃ x45 : Nat × Nat × Nat, (call 112 [w39] h35 = .ok (AV.tuple [(AV.int .i64 (sInt .i64 x45.1)), (vi x45.2.1), (vi x45.2.2)]) h35 ∧ (∃ x48 : List Nat × Nat × Nat, ∃ w57 : AV, ∃ h53 : Hp, (call 106 [(AV.ptr b 0), (vi x45.2.1)] h35 = .ok (AV.tuple []) h53 ∧ (∃ e61 : Ev, evE (.store 1 (.const (AV.ptr b 2)) (.const (vi x45.2.2))) call .lf h53 = .ok (AV.tuple []) e61.h ∧ (∃ x63 : List Nat × Nat × Nat, ∃ w72 : AV, ∃ h68 : Hp, (call 47 [(AV.ptr b 0), (AV.bool (ltI (sInt .i64 x45.1) (Int.ofNat 0))), (vi 2)] e61.h = .ok (AV.tuple []) h68 ∧ KK (AV.int .i64 (sInt .i64 x45.1)) h68)))))))))))))))))))))))))))))))))))))) (fun (rv : AV) (rh : Hp) => ∃ wk1 : AV, rv = (AV.int .i64 r.2.2.2) ∧ (BIn G h0 wk1 r.1) ∧ Eng.Sep (Cel b (wk1 :: (vi r.2.1) :: (vi r.2.2.1) :: rest) :: Frz G h0 :: R) rh)) (by kernel_rfl) ?_
  refine ⟨cel_load S (i := 0) rfl rfl, ?_⟩
  refine ⟨q_len (BIn.now S (i := 1) rfl fcb_2), ?_⟩
  have ⟨x1, hb2, hp⟩ := ob_inv hp
  obtain ⟨v5, h6, q7, w10, e8, f11, S9⟩ := h_fails fcb_2 hb2 S
  replace e8 := e8.symm
  subst e8
  refine ⟨x1, w10, h6, q7, ?_⟩
  refine ⟨cel_load S9 (i := 0) rfl rfl, ?_⟩
  refine ⟨fun c14 => ?_, fun c14 => ?_⟩
  · replace c14 := eqI_f (notB_t c14)
    replace hp := ift hp c14
    obtain rfl := Option.some.inj hp
    exact ⟨w10, rfl, f11, S9⟩
  replace c14 := eqI_t (notB_f c14)
  replace hp := iff0 hp (nneO c14)
  refine ⟨cel_load S9 (i := 0) rfl rfl, ?_⟩
  have ⟨g15, hp⟩ := gd_inv hp
  refine ⟨q_idxB (l := x1.1) (BIn.now S9 (i := 1) rfl f11) g15, ?_⟩
  refine ⟨q_byte (l := x1.1) (BIn.now S9 (i := 1) rfl f11) g15, ?_⟩
  have x16 : x1.1.getD 0 0 < 256 := getD_lt (BIn.now S9 (i := 1) rfl f11).lt 0
  have ⟨x17, hb18, hp⟩ := ob_inv hp
  obtain ⟨v21, h22, q23, e24, S25⟩ := h_tvalue x16 hb18
  replace e24 := e24.symm
  subst e24
  have S27 := Sep.call S9 (news := []) S25
  refine ⟨x17, h22, q23, ?_⟩
  refine ⟨fun c28 => ?_, fun c28 => ?_⟩
  · replace c28 := eqI_t c28
    replace hp := ift hp c28
    have ⟨x29, hb30, hp⟩ := ob_inv hp
    obtain ⟨v33, h34, q35, w38, e36, f39, S37⟩ := h_skip f11 hb30 S27
    replace e36 := e36.symm
    subst e36
    refine ⟨x29, w38, h34, q35, ?_⟩
    refine ⟨i_conv (Nat.lt_of_lt_of_le x16 (by decide)), ?_⟩
    obtain rfl := Option.some.inj hp
    exact ⟨w38, rfl, f39, S37⟩
  replace c28 := eqI_f c28
  replace hp := iff0 hp (c28)
  refine ⟨fun c29 => ?_, fun c29 => ?_⟩
  · replace c29 := eqI_t c29
    replace hp := ift hp c29
    have ⟨x30, hb31, hp⟩ := ob_inv hp
    obtain ⟨v34, h35, q36, w39, e37, f40, S38⟩ := h_skip f11 hb31 S27
    replace e37 := e37.symm
    subst e37
    refine ⟨x30, w39, h35, q36, ?_⟩
    refine ⟨i_conv (Nat.lt_of_lt_of_le x16 (by decide)), ?_⟩
    obtain rfl := Option.some.inj hp
    exact ⟨w39, rfl, f40, S38⟩
  replace c29 := eqI_f c29
  replace hp := iff0 hp (c29)
  have ⟨x30, hb31, hp⟩ := ob_inv hp
  obtain ⟨v34, h35, q36, w39, e37, f40, S38⟩ := h_fails f11 hb31 S27
  replace e37 := e37.symm
  subst e37
  refine ⟨x30, w39, h35, q36, ?_⟩
  refine ⟨cel_load S38 (i := 0) rfl rfl, ?_⟩
  refine ⟨fun c43 => ?_, fun c43 => ?_⟩
  · replace c43 := eqI_f (notB_t c43)
    replace hp := ift hp c43
    obtain rfl := Option.some.inj hp
    exact ⟨w39, rfl, f40, S38⟩
  replace c43 := eqI_t (notB_f c43)
  replace hp := iff0 hp (nneO c43)
  refine ⟨cel_load S38 (i := 0) rfl rfl, ?_⟩
  have ⟨g44, hp⟩ := gd_inv hp
  have ⟨x45, hb46, hp⟩ := ob_inv hp
  replace hb46 := Option.some.inj hb46
  refine ⟨x45, (by rw [← hb46]; exact h_S33 (BIn.now S38 (i := 1) rfl f40) g44), ?_⟩
  have ⟨x48, hb49, hp⟩ := ob_inv hp
  obtain ⟨v52, h53, q54, w57, e55, f58, S56⟩ := h_skip f40 hb49 S38
  replace e55 := e55.symm
  subst e55
  refine ⟨x48, w57, h53, q54, ?_⟩
  obtain ⟨e61, qe61, se61⟩ := cel_store call S56 (i := 0) (o := 2) (x := (vi x45.2.2)) rfl (lb rfl) rfl
  refine ⟨e61, qe61, ?_⟩
  have ⟨x63, hb64, hp⟩ := ob_inv hp
  obtain ⟨v67, h68, q69, w72, e70, f73, S71⟩ := h_fails f58 hb64 se61
  replace e70 := e70.symm
  subst e70
  refine ⟨x63, w72, h68, q69, ?_⟩
  obtain rfl := Option.some.inj hp
  exact ⟨w72, rfl, f73, S71⟩
def C_blockType (call : CallT) : Prop := ∀ {h : Hp} {h0 : Hp} {G : Nat → Prop} {R : List AObj} {b : Nat} {rest : List AV} {wcb_1 : AV} {cb : List Nat} {cn : Nat} {ce : Nat} (fcb_2 : BIn G h0 wcb_1 cb) {r : List Nat × Nat × Nat × Int}, blockType_p cb cn ce = some r → Eng.Sep (Cel b (wcb_1 :: (vi cn) :: (vi ce) :: rest) :: Frz G h0 :: R) h → ∃ rv rh, call 77 [(AV.ptr b 0)] h = .ok rv rh ∧ ∃ wk1 : AV, rv = (AV.int .i64 r.2.2.2) ∧ (BIn G h0 wk1 r.1) ∧ Eng.Sep (Cel b (wk1 :: (vi r.2.1) :: (vi r.2.2.1) :: rest) :: Frz G h0 :: R) rh
theorem s_blockType (d : Nat) : C_blockType (CC (d + 4)) := by
  intro h h0 G R b rest wcb_1 cb cn ce fcb_2 r hp S
  rw [CC, evF_at (sumT_none rfl)]
  exact blockType_w (call := CC (d + 3)) (N := 100000) fcb_2 (s_fails (d + 2)) (s_skip (d + 2)) (s_tvalue (d + 2)) (s_S33 (d + 0)) hp S
noncomputable def op_p (cb : List Nat) (cn : Nat) (ce : Nat) : Option (List Nat × Nat × Nat × Nat) :=
  (ob (byte_p cb cn ce) fun x1 =>
    (if x1.2.2.2 = 252 then (ob (cnum_p x1.1 x1.2.1 x1.2.2.1) fun x16 =>
    (ob (fails_p x16.1 x16.2.1 x16.2.2.1 (ltI (Int.ofNat 255) (Int.ofNat x16.2.2.2)) 2) fun x30 =>
    (gd (64512 + (x16.2.2.2 &&& 255) < 9223372036854775808) (some (x30.1, x30.2.1, x30.2.2, 64512 + (x16.2.2.2 &&& 255)))))) else
    (if x1.2.2.2 = 253 then (ob (fails_p x1.1 x1.2.1 x1.2.2.1 true 5) fun x17 =>
    (some (x17.1, x17.2.1, x17.2.2, x1.2.2.2))) else
    (some (x1.1, x1.2.1, x1.2.2.1, x1.2.2.2)))))
theorem op_w {call : CallT} {N : Nat} {h : Hp} {h0 : Hp} {G : Nat → Prop} {R : List AObj} {b : Nat} {rest : List AV} {wcb_1 : AV} {cb : List Nat} {cn : Nat} {ce : Nat} (fcb_2 : BIn G h0 wcb_1 cb) (h_fails : C_fails call) (h_byte : C_byte call) (h_cnum : C_cnum call) {r : List Nat × Nat × Nat × Nat} (hp : op_p cb cn ce = some r) (S : Eng.Sep (Cel b (wcb_1 :: (vi cn) :: (vi ce) :: rest) :: Frz G h0 :: R) h) :
    ∃ rv rh, evF1 (progS Try.prog (compDrawn Try.prog)) N call 48 [(AV.ptr b 0)] h = .ok rv rh ∧ (fun (rv : AV) (rh : Hp) => ∃ wk1 : AV, rv = (vi r.2.2.2) ∧ (BIn G h0 wk1 r.1) ∧ Eng.Sep (Cel b (wk1 :: (vi r.2.1) :: (vi r.2.2.1) :: rest) :: Frz G h0 :: R) rh) rv rh := by
  unfold op_p at hp
  refine fwalk_ok (K := (fun (rv : AV) (rh : Hp) => ∃ wk1 : AV, rv = (vi r.2.2.2) ∧ (BIn G h0 wk1 r.1) ∧ Eng.Sep (Cel b (wk1 :: (vi r.2.1) :: (vi r.2.2.1) :: rest) :: Frz G h0 :: R) rh)) (o := (.exi 4 fun (x1 : List Nat × Nat × Nat × Nat) => (.exi 0 fun (w11 : AV) => (.exi 0 fun (h7 : Hp) => (.eff 0 (vb8 x1.2.2.2) h7 (.tell 0 (vi x1.2.2.2) (.fork 3 (.exi 3 fun (x16 : List Nat × Nat × Nat × Nat) => (.exi 0 fun (w26 : AV) => (.exi 0 fun (h22 : Hp) => (.eff 0 (vw x16.2.2.2) h22 (.exi 6 fun (x30 : List Nat × Nat × Nat) => (.exi 0 fun (w39 : AV) => (.exi 0 fun (h35 : Hp) => (.eff 0 (AV.tuple []) h35 (.tell 1 (vw (x16.2.2.2 &&& 255)) (.tell 0 (vi (x16.2.2.2 &&& 255)) (.tell 0 (vi (64512 + (x16.2.2.2 &&& 255))) .fin))))))))))) (.fork 1 (.exi 3 fun (x17 : List Nat × Nat × Nat) => (.exi 0 fun (w26 : AV) => (.exi 0 fun (h22 : Hp) => (.eff 0 (AV.tuple []) h22 .fin)))) .fin)))))))) (p := (fun (KK : AV → Hp → Prop) => (∃ x1 : List Nat × Nat × Nat × Nat, ∃ w11 : AV, ∃ h7 : Hp, (call 70 [(AV.ptr b 0)] h = .ok (vb8 x1.2.2.2) h7 ∧ ((evQ (.toInt .i64 (.const (vb8 x1.2.2.2))) .lf H0 = .ok (vi x1.2.2.2) ∧ ((eqI (Int.ofNat x1.2.2.2) (Int.ofNat 252) = true → (∃ x16 : List Nat × Nat × Nat × Nat, ∃ w26 : AV, ∃ h22 : Hp, (call 71 [(AV.ptr b 0)] h7 = .ok (vw x16.2.2.2) h22 ∧ (∃ x30 : List Nat × Nat × Nat, ∃ w39 : AV, ∃ h35 : Hp, (call 47 [(AV.ptr b 0), (AV.bool (ltI (Int.ofNat 255) (Int.ofNat x16.2.2.2))), (vi 2)] h22 = .ok (AV.tuple []) h35 ∧ ((evQ (.bin .and (.const (vw x16.2.2.2)) (.const (vw 255))) .lf H0 = .ok (vw (x16.2.2.2 &&& 255)) ∧ ((evQ (.toInt .i64 (.const (vw (x16.2.2.2 &&& 255)))) .lf H0 = .ok (vi (x16.2.2.2 &&& 255)) ∧ ((evQ (.bin .add (.const (vi 64512)) (.const (vi (x16.2.2.2 &&& 255)))) .lf H0 = .ok (vi (64512 + (x16.2.2.2 &&& 255))) ∧ KK (vi (64512 + (x16.2.2.2 &&& 255))) h35))))))))))) ∧ (eqI (Int.ofNat x1.2.2.2) (Int.ofNat 252) = false → ((eqI (Int.ofNat x1.2.2.2) (Int.ofNat 253) = true → (∃ x17 : List Nat × Nat × Nat, ∃ w26 : AV, ∃ h22 : Hp, (call 47 [(AV.ptr b 0), (AV.bool true), (vi 5)] h7 = .ok (AV.tuple []) h22 ∧ KK (vi x1.2.2.2) h22))) ∧ (eqI (Int.ofNat x1.2.2.2) (Int.ofNat 253) = false → KK (vi x1.2.2.2) h7))))))))) (fun (rv : AV) (rh : Hp) => ∃ wk1 : AV, rv = (vi r.2.2.2) ∧ (BIn G h0 wk1 r.1) ∧ Eng.Sep (Cel b (wk1 :: (vi r.2.1) :: (vi r.2.2.1) :: rest) :: Frz G h0 :: R) rh)) (by kernel_rfl) ?_
  have ⟨x1, hb2, hp⟩ := ob_inv hp
  obtain ⟨v6, h7, q8, w11, e9, f5, f12, S10⟩ := h_byte fcb_2 hb2 S
  replace e9 := e9.symm
  subst e9
  refine ⟨x1, w11, h7, q8, ?_⟩
  refine ⟨i_conv (Nat.lt_of_lt_of_le f5 (by decide)), ?_⟩
  refine ⟨fun c15 => ?_, fun c15 => ?_⟩
  · replace c15 := eqI_t c15
    replace hp := ift hp c15
    have ⟨x16, hb17, hp⟩ := ob_inv hp
    obtain ⟨v21, h22, q23, w26, e24, f20, f27, S25⟩ := h_cnum f12 hb17 S10
    replace e24 := e24.symm
    subst e24
    refine ⟨x16, w26, h22, q23, ?_⟩
    have ⟨x30, hb31, hp⟩ := ob_inv hp
    obtain ⟨v34, h35, q36, w39, e37, f40, S38⟩ := h_fails f27 hb31 S25
    replace e37 := e37.symm
    subst e37
    refine ⟨x30, w39, h35, q36, ?_⟩
    refine ⟨u_and rfl f20 (show 255 < 4294967296 by decide), ?_⟩
    have g43 : x16.2.2.2 &&& 255 < 4294967296 := Nat.lt_of_le_of_lt Nat.and_le_left f20
    refine ⟨i_conv (Nat.lt_of_lt_of_le g43 (by decide)), ?_⟩
    have ⟨g44, hp⟩ := gd_inv hp
    refine ⟨q_add g44, ?_⟩
    obtain rfl := Option.some.inj hp
    exact ⟨w39, rfl, f40, S38⟩
  replace c15 := eqI_f c15
  replace hp := iff0 hp (c15)
  refine ⟨fun c16 => ?_, fun c16 => ?_⟩
  · replace c16 := eqI_t c16
    replace hp := ift hp c16
    have ⟨x17, hb18, hp⟩ := ob_inv hp
    obtain ⟨v21, h22, q23, w26, e24, f27, S25⟩ := h_fails f12 hb18 S10
    replace e24 := e24.symm
    subst e24
    refine ⟨x17, w26, h22, q23, ?_⟩
    obtain rfl := Option.some.inj hp
    exact ⟨w26, rfl, f27, S25⟩
  replace c16 := eqI_f c16
  replace hp := iff0 hp (c16)
  obtain rfl := Option.some.inj hp
  exact ⟨w11, rfl, f12, S10⟩
def C_op (call : CallT) : Prop := ∀ {h : Hp} {h0 : Hp} {G : Nat → Prop} {R : List AObj} {b : Nat} {rest : List AV} {wcb_1 : AV} {cb : List Nat} {cn : Nat} {ce : Nat} (fcb_2 : BIn G h0 wcb_1 cb) {r : List Nat × Nat × Nat × Nat}, op_p cb cn ce = some r → Eng.Sep (Cel b (wcb_1 :: (vi cn) :: (vi ce) :: rest) :: Frz G h0 :: R) h → ∃ rv rh, call 48 [(AV.ptr b 0)] h = .ok rv rh ∧ ∃ wk1 : AV, rv = (vi r.2.2.2) ∧ (BIn G h0 wk1 r.1) ∧ Eng.Sep (Cel b (wk1 :: (vi r.2.1) :: (vi r.2.2.1) :: rest) :: Frz G h0 :: R) rh
theorem s_op (d : Nat) : C_op (CC (d + 5)) := by
  intro h h0 G R b rest wcb_1 cb cn ce fcb_2 r hp S
  rw [CC, evF_at (sumT_none rfl)]
  exact op_w (call := CC (d + 4)) (N := 100000) fcb_2 (s_fails (d + 3)) (s_byte (d + 2)) (s_cnum (d + 0)) hp S
noncomputable def constant_p (cb : List Nat) (cn : Nat) (ce : Nat) (kind : Nat) : Option (List Nat × Nat × Nat × Nat) :=
  (if ce ≠ 0 then (some (cb, cn, ce, 0)) else
    (if kind = 3 then (gd (cb.length < 90000) (ob (some (readG 32 true cb 0 0 0)) fun x4 =>
    (ob (skip_p cb cn ce x4.2.1) fun x7 =>
    (some (x7.1, x7.2.1, x4.2.2, ((sInt .i32 x4.1) % 4294967296).toNat))))) else
    (gd (cb.length < 90000) (ob (some (readG 64 true cb 0 0 0)) fun x4 =>
    (ob (skip_p cb cn ce x4.2.1) fun x7 =>
    (some (x7.1, x7.2.1, x4.2.2, ((sInt .i64 x4.1) % 18446744073709551616).toNat)))))))
theorem constant_w {call : CallT} {N : Nat} {h : Hp} {h0 : Hp} {G : Nat → Prop} {R : List AObj} {b : Nat} {rest : List AV} {wcb_1 : AV} {cb : List Nat} {cn : Nat} {ce : Nat} {kind : Nat} (fcb_2 : BIn G h0 wcb_1 cb) (h_skip : C_skip call) (h_S32 : NumS call 109 32 true .i32 (sInt .i32)) (h_S64 : NumS call 110 64 true .i64 (sInt .i64)) {r : List Nat × Nat × Nat × Nat} (hp : constant_p cb cn ce kind = some r) (S : Eng.Sep (Cel b (wcb_1 :: (vi cn) :: (vi ce) :: rest) :: Frz G h0 :: R) h) :
    ∃ rv rh, evF1 (progS Try.prog (compDrawn Try.prog)) N call 76 [(AV.ptr b 0), (vi kind)] h = .ok rv rh ∧ (fun (rv : AV) (rh : Hp) => ∃ wk2 : AV, rv = (vq r.2.2.2) ∧ (r.2.2.2 < 18446744073709551616) ∧ (BIn G h0 wk2 r.1) ∧ Eng.Sep (Cel b (wk2 :: (vi r.2.1) :: (vi r.2.2.1) :: rest) :: Frz G h0 :: R) rh) rv rh := by
  unfold constant_p at hp
  refine fwalk_ok (K := (fun (rv : AV) (rh : Hp) => ∃ wk2 : AV, rv = (vq r.2.2.2) ∧ (r.2.2.2 < 18446744073709551616) ∧ (BIn G h0 wk2 r.1) ∧ Eng.Sep (Cel b (wk2 :: (vi r.2.1) :: (vi r.2.2.1) :: rest) :: Frz G h0 :: R) rh)) (o := (.tell 5 (vi ce) (.fork 0 .fin (.fork 1 (.tell 4 wcb_1 (.exi 0 fun (x4 : Nat × Nat × Nat) => (.eff 0 (AV.tuple [(AV.int .i32 (sInt .i32 x4.1)), (vi x4.2.1), (vi x4.2.2)]) h (.exi 11 fun (x7 : List Nat × Nat × Nat) => (.exi 0 fun (w16 : AV) => (.exi 0 fun (h12 : Hp) => (.eff 0 (AV.tuple []) h12 (.effx 5 (fun e20 => (AV.tuple [])) (fun e20 => (.tell 1 (vw (((sInt .i32 x4.1) % 4294967296).toNat)) (.tell 0 (vq (((sInt .i32 x4.1) % 4294967296).toNat)) .fin))))))))))) (.tell 4 wcb_1 (.exi 0 fun (x4 : Nat × Nat × Nat) => (.eff 0 (AV.tuple [(AV.int .i64 (sInt .i64 x4.1)), (vi x4.2.1), (vi x4.2.2)]) h (.exi 11 fun (x7 : List Nat × Nat × Nat) => (.exi 0 fun (w16 : AV) => (.exi 0 fun (h12 : Hp) => (.eff 0 (AV.tuple []) h12 (.effx 5 (fun e20 => (AV.tuple [])) (fun e20 => (.tell 1 (vq (((sInt .i64 x4.1) % 18446744073709551616).toNat)) .fin)))))))))))))) (p := (fun (KK : AV → Hp → Prop) => ((evQ (.loadS (.const (AV.ptr b 2))) .lf h = .ok (vi ce) ∧ ((notB (eqI (Int.ofNat ce) (Int.ofNat 0)) = true → KK (vq 0) h) ∧ (notB (eqI (Int.ofNat ce) (Int.ofNat 0)) = false → ((eqI (Int.ofNat kind) (Int.ofNat 3) = true → ((evQ (.loadS (.const (AV.ptr b 0))) .lf h = .ok wcb_1 ∧ (∃ x4 : Nat × Nat × Nat, (call 109 [wcb_1] h = .ok (AV.tuple [(AV.int .i32 (sInt .i32 x4.1)), (vi x4.2.1), (vi x4.2.2)]) h ∧ (∃ x7 : List Nat × Nat × Nat, ∃ w16 : AV, ∃ h12 : Hp, (call 106 [(AV.ptr b 0), (vi x4.2.1)] h = .ok (AV.tuple []) h12 ∧ (∃ e20 : Ev, evE (.store 1 (.const (AV.ptr b 2)) (.const (vi x4.2.2))) call .lf h12 = .ok (AV.tuple []) e20.h ∧ ((evQ (.toInt .u32 (.const (AV.int .i32 (sInt .i32 x4.1)))) .lf H0 = .ok (vw (((sInt .i32 x4.1) % 4294967296).toNat)) ∧ ((evQ (.toInt .u64 (.const (vw (((sInt .i32 x4.1) % 4294967296).toNat)))) .lf H0 = .ok (vq (((sInt .i32 x4.1) % 4294967296).toNat)) ∧ KK (vq (((sInt .i32 x4.1) % 4294967296).toNat)) e20.h)))))))))))) ∧ (eqI (Int.ofNat kind) (Int.ofNat 3) = false → ((evQ (.loadS (.const (AV.ptr b 0))) .lf h = .ok wcb_1 ∧ (∃ x4 : Nat × Nat × Nat, (call 110 [wcb_1] h = .ok (AV.tuple [(AV.int .i64 (sInt .i64 x4.1)), (vi x4.2.1), (vi x4.2.2)]) h ∧ (∃ x7 : List Nat × Nat × Nat, ∃ w16 : AV, ∃ h12 : Hp, (call 106 [(AV.ptr b 0), (vi x4.2.1)] h = .ok (AV.tuple []) h12 ∧ (∃ e20 : Ev, evE (.store 1 (.const (AV.ptr b 2)) (.const (vi x4.2.2))) call .lf h12 = .ok (AV.tuple []) e20.h ∧ ((evQ (.toInt .u64 (.const (AV.int .i64 (sInt .i64 x4.1)))) .lf H0 = .ok (vq (((sInt .i64 x4.1) % 18446744073709551616).toNat)) ∧ KK (vq (((sInt .i64 x4.1) % 18446744073709551616).toNat)) e20.h)))))))))))))))) (fun (rv : AV) (rh : Hp) => ∃ wk2 : AV, rv = (vq r.2.2.2) ∧ (r.2.2.2 < 18446744073709551616) ∧ (BIn G h0 wk2 r.1) ∧ Eng.Sep (Cel b (wk2 :: (vi r.2.1) :: (vi r.2.2.1) :: rest) :: Frz G h0 :: R) rh)) (by kernel_rfl) ?_
  refine ⟨cel_load S (i := 0) rfl rfl, ?_⟩
  refine ⟨fun c1 => ?_, fun c1 => ?_⟩
  · replace c1 := eqI_f (notB_t c1)
    replace hp := ift hp c1
    obtain rfl := Option.some.inj hp
    exact ⟨wcb_1, rfl, (show 0 < 18446744073709551616 by decide), fcb_2, S⟩
  replace c1 := eqI_t (notB_f c1)
  replace hp := iff0 hp (nneO c1)
  refine ⟨fun c2 => ?_, fun c2 => ?_⟩
  · replace c2 := eqI_t c2
    replace hp := ift hp c2
    refine ⟨cel_load S (i := 0) rfl rfl, ?_⟩
    have ⟨g3, hp⟩ := gd_inv hp
    have ⟨x4, hb5, hp⟩ := ob_inv hp
    replace hb5 := Option.some.inj hb5
    refine ⟨x4, (by rw [← hb5]; exact h_S32 (BIn.now S (i := 1) rfl fcb_2) g3), ?_⟩
    have ⟨x7, hb8, hp⟩ := ob_inv hp
    obtain ⟨v11, h12, q13, w16, e14, f17, S15⟩ := h_skip fcb_2 hb8 S
    replace e14 := e14.symm
    subst e14
    refine ⟨x7, w16, h12, q13, ?_⟩
    obtain ⟨e20, qe20, se20⟩ := cel_store call S15 (i := 0) (o := 2) (x := (vi x4.2.2)) rfl (lb rfl) rfl
    refine ⟨e20, qe20, ?_⟩
    refine ⟨s_conv rfl, ?_⟩
    have g22 : ((sInt .i32 x4.1) % 4294967296).toNat < 4294967296 := by omega
    refine ⟨u_conv' rfl (Nat.lt_of_lt_of_le g22 (by decide)), ?_⟩
    have g23 : ((sInt .i32 x4.1) % 4294967296).toNat < 18446744073709551616 := Nat.lt_of_lt_of_le g22 (by decide)
    obtain rfl := Option.some.inj hp
    exact ⟨w16, rfl, g23, f17, se20⟩
  replace c2 := eqI_f c2
  replace hp := iff0 hp (c2)
  refine ⟨cel_load S (i := 0) rfl rfl, ?_⟩
  have ⟨g3, hp⟩ := gd_inv hp
  have ⟨x4, hb5, hp⟩ := ob_inv hp
  replace hb5 := Option.some.inj hb5
  refine ⟨x4, (by rw [← hb5]; exact h_S64 (BIn.now S (i := 1) rfl fcb_2) g3), ?_⟩
  have ⟨x7, hb8, hp⟩ := ob_inv hp
  obtain ⟨v11, h12, q13, w16, e14, f17, S15⟩ := h_skip fcb_2 hb8 S
  replace e14 := e14.symm
  subst e14
  refine ⟨x7, w16, h12, q13, ?_⟩
  obtain ⟨e20, qe20, se20⟩ := cel_store call S15 (i := 0) (o := 2) (x := (vi x4.2.2)) rfl (lb rfl) rfl
  refine ⟨e20, qe20, ?_⟩
  refine ⟨s_conv rfl, ?_⟩
  have g22 : ((sInt .i64 x4.1) % 18446744073709551616).toNat < 18446744073709551616 := by omega
  obtain rfl := Option.some.inj hp
  exact ⟨w16, rfl, g22, f17, se20⟩
def C_constant (call : CallT) : Prop := ∀ {h : Hp} {h0 : Hp} {G : Nat → Prop} {R : List AObj} {b : Nat} {rest : List AV} {wcb_1 : AV} {cb : List Nat} {cn : Nat} {ce : Nat} {kind : Nat} (fcb_2 : BIn G h0 wcb_1 cb) {r : List Nat × Nat × Nat × Nat}, constant_p cb cn ce kind = some r → Eng.Sep (Cel b (wcb_1 :: (vi cn) :: (vi ce) :: rest) :: Frz G h0 :: R) h → ∃ rv rh, call 76 [(AV.ptr b 0), (vi kind)] h = .ok rv rh ∧ ∃ wk2 : AV, rv = (vq r.2.2.2) ∧ (r.2.2.2 < 18446744073709551616) ∧ (BIn G h0 wk2 r.1) ∧ Eng.Sep (Cel b (wk2 :: (vi r.2.1) :: (vi r.2.2.1) :: rest) :: Frz G h0 :: R) rh
theorem s_constant (d : Nat) : C_constant (CC (d + 4)) := by
  intro h h0 G R b rest wcb_1 cb cn ce kind fcb_2 r hp S
  rw [CC, evF_at (sumT_none rfl)]
  exact constant_w (call := CC (d + 3)) (N := 100000) fcb_2 (s_skip (d + 2)) (s_S32 (d + 0)) (s_S64 (d + 0)) hp S
end Go.Proofs.Ytpelnanckmjoaaa
end
section
set_option linter.unusedVariables false
namespace Go.Proofs.Ytpelnanckmjoaaa
set_option linter.unusedVariables false
set_option linter.unusedSimpArgs false
open Go Eng
noncomputable def kT : List (Nat × Nat) := [(0, 0), (0, 0), (6, 0), (6, 0), (6, 0), (0, 0), (0, 2), (0, 2), (0, 2), (0, 2), (0, 2), (0, 0), (1, 0), (1, 0), (7, 0), (0, 0), (1, 0), (2, 0), (0, 2), (0, 2), (0, 2), (0, 2), (0, 2), (0, 2), (0, 2), (0, 2), (0, 0), (0, 0), (8, 0), (0, 2), (0, 2), (0, 2), (1, 0), (1, 0), (1, 0), (1, 0), (1, 0), (1, 0), (1, 0), (0, 2), (5, 0), (5, 0), (0, 5), (0, 5), (5, 0), (5, 0), (5, 0), (5, 0), (5, 0), (5, 0), (5, 0), (5, 0), (5, 0), (5, 0), (5, 0), (5, 0), (0, 5), (0, 5), (5, 0), (5, 0), (5, 0), (5, 0), (5, 0), (1, 0), (1, 0), (3, 0), (4, 0), (0, 5), (0, 5), (0, 0), (0, 0), (0, 0), (0, 0), (0, 0), (0, 0), (0, 0), (0, 0), (0, 0), (0, 0), (0, 0), (0, 0), (0, 0), (0, 0), (0, 0), (0, 0), (0, 0), (0, 0), (0, 0), (0, 0), (0, 0), (0, 0), (0, 5), (0, 5), (0, 5), (0, 5), (0, 5), (0, 5), (0, 5), (0, 5), (0, 5), (0, 5), (0, 5), (0, 5), (0, 0), (0, 0), (0, 0), (0, 0), (0, 0), (0, 0), (0, 0), (0, 0), (0, 0), (0, 0), (0, 0), (0, 0), (0, 0), (0, 0), (0, 0), (0, 0), (0, 0), (0, 0), (0, 0), (0, 0), (0, 0), (0, 0), (0, 0), (0, 0), (0, 0), (0, 0), (0, 0), (0, 0), (0, 0), (0, 0), (0, 0), (0, 0), (0, 0), (0, 0), (0, 0), (0, 0), (0, 5), (0, 5), (0, 5), (0, 5), (0, 5), (0, 5), (0, 5), (0, 5), (0, 5), (0, 5), (0, 5), (0, 5), (0, 5), (0, 5), (0, 5), (0, 5), (0, 5), (0, 5), (0, 5), (0, 5), (0, 5), (0, 5), (0, 5), (0, 5), (0, 5), (0, 5), (0, 5), (0, 5), (0, 0), (0, 5), (0, 5), (0, 5), (0, 5), (0, 0), (0, 0), (0, 5), (0, 5), (0, 5), (0, 5), (0, 5), (0, 5), (0, 5), (0, 5), (0, 5), (0, 5), (0, 5), (0, 5), (0, 5), (0, 5), (0, 5), (0, 5), (0, 5), (0, 5), (0, 0), (0, 0), (0, 0), (0, 0), (0, 0), (0, 2), (0, 2), (0, 2), (0, 2), (0, 2), (0, 2), (0, 2), (0, 2), (0, 2), (0, 2), (0, 2), (8, 0), (0, 0), (1, 0), (0, 2), (0, 2), (0, 2), (0, 2), (0, 2), (0, 2), (0, 2), (0, 2), (0, 2), (0, 2), (0, 2), (0, 2), (0, 2), (0, 2), (0, 2), (0, 2), (0, 2), (0, 2), (0, 2), (0, 2), (0, 2), (0, 2), (0, 2), (0, 2), (0, 2), (0, 2), (0, 2), (0, 2), (0, 2), (0, 2), (0, 2), (0, 2), (0, 2), (0, 2), (0, 2), (0, 2), (0, 2), (0, 2), (0, 2), (0, 2), (0, 2), (0, 2), (0, 5), (0, 2), (0, 2)]
noncomputable def kU : List (Nat × Nat) := [(0, 5), (0, 5), (0, 5), (0, 5), (0, 5), (0, 5), (0, 5), (0, 5), (2, 0), (1, 0), (2, 0), (1, 0), (2, 0), (1, 0), (2, 0), (1, 0), (1, 0), (1, 0), (0, 2), (0, 2), (0, 2), (0, 2), (0, 2), (0, 2), (0, 2), (0, 2), (0, 2), (0, 2), (0, 2), (0, 2), (0, 2), (0, 2), (0, 2), (0, 2), (0, 2), (0, 2), (0, 2), (0, 2), (0, 2), (0, 2), (0, 2), (0, 2), (0, 2), (0, 2), (0, 2), (0, 2), (0, 2), (0, 2), (0, 2), (0, 2), (0, 2), (0, 2), (0, 2), (0, 2), (0, 2), (0, 2), (0, 2), (0, 2), (0, 2), (0, 2), (0, 2), (0, 2), (0, 2), (0, 2), (0, 2), (0, 2), (0, 2), (0, 2), (0, 2), (0, 2), (0, 2), (0, 2), (0, 2), (0, 2), (0, 2), (0, 2), (0, 2), (0, 2), (0, 2), (0, 2), (0, 2), (0, 2), (0, 2), (0, 2), (0, 2), (0, 2), (0, 2), (0, 2), (0, 2), (0, 2), (0, 2), (0, 2), (0, 2), (0, 2), (0, 2), (0, 2), (0, 2), (0, 2), (0, 2), (0, 2), (0, 2), (0, 2), (0, 2), (0, 2), (0, 2), (0, 2), (0, 2), (0, 2), (0, 2), (0, 2), (0, 2), (0, 2), (0, 2), (0, 2), (0, 2), (0, 2), (0, 2), (0, 2), (0, 2), (0, 2), (0, 2), (0, 2), (0, 2), (0, 2), (0, 2), (0, 2), (0, 2), (0, 2), (0, 2), (0, 2), (0, 2), (0, 2), (0, 2), (0, 2), (0, 2), (0, 2), (0, 2), (0, 2), (0, 2), (0, 2), (0, 2), (0, 2), (0, 2), (0, 2), (0, 2), (0, 2), (0, 2), (0, 2), (0, 2), (0, 2), (0, 2), (0, 2), (0, 2), (0, 2), (0, 2), (0, 2), (0, 2), (0, 2), (0, 2), (0, 2), (0, 2), (0, 2), (0, 2), (0, 2), (0, 2), (0, 2), (0, 2), (0, 2), (0, 2), (0, 2), (0, 2), (0, 2), (0, 2), (0, 2), (0, 2), (0, 2), (0, 2), (0, 2), (0, 2), (0, 2), (0, 2), (0, 2), (0, 2), (0, 2), (0, 2), (0, 2), (0, 2), (0, 2), (0, 2), (0, 2), (0, 2), (0, 2), (0, 2), (0, 2), (0, 2), (0, 2), (0, 2), (0, 2), (0, 2), (0, 2), (0, 2), (0, 2), (0, 2), (0, 2), (0, 2), (0, 2), (0, 2), (0, 2), (0, 2), (0, 2), (0, 2), (0, 2), (0, 2), (0, 2), (0, 2), (0, 2), (0, 2), (0, 2), (0, 2), (0, 2), (0, 2), (0, 2), (0, 2), (0, 2), (0, 2), (0, 2), (0, 2), (0, 2), (0, 2), (0, 2), (0, 2), (0, 2), (0, 2), (0, 2), (0, 2), (0, 2), (0, 2), (0, 2), (0, 2), (0, 2), (0, 2), (0, 2), (0, 2), (0, 2), (0, 2), (0, 2), (0, 2), (0, 2), (0, 2), (0, 2), (0, 2), (0, 2), (0, 2), (0, 2), (0, 2), (0, 2)]
noncomputable def kF (x : Nat) : Nat × Nat := if x < 256 then kT.getD x (0, 0) else kU.getD (x - 64512) (0, 0)
def OpOk (x : Nat) : Prop := x < 256 ∨ (64512 ≤ x ∧ x < 64768)
instance (x : Nat) : Decidable (OpOk x) := inferInstanceAs (Decidable (_ ∨ _))
def KindS (call : CallT) (f : Nat) : Prop := ∀ {h : Hp} {x : Nat}, OpOk x → call f [vi x] h = .ok (.tuple [vi (kF x).1, vi (kF x).2]) h
theorem kT_at {f : Nat → RV} {h : Hp} {o : Nat} {l : List (Nat × Nat)} (e : (List.range 256).map (fun x => f (o + x)) = l.map fun p => RV.ok (.tuple [vi p.1, vi p.2]) h) {x : Nat} (hx : x < 256) : f (o + x) = .ok (.tuple [vi (l.getD x (0, 0)).1, vi (l.getD x (0, 0)).2]) h := by
  have h1 := congrArg (·[x]?) e
  simp only [List.getElem?_map] at h1
  rw [List.getElem?_range hx] at h1
  cases hl : l[x]? with
  | none => rw [hl] at h1; cases h1
  | some p =>
    rw [hl] at h1
    rw [List.getD_eq_getElem?_getD, hl]
    exact Option.some.inj h1
theorem kind_t (d : Nat) (h : Hp) : (List.range 256).map (fun x => CC (d + 3) 49 [vi (0 + x)] h) = kT.map fun p => RV.ok (.tuple [vi p.1, vi p.2]) h := by kernel_rfl
theorem kind_u (d : Nat) (h : Hp) : (List.range 256).map (fun x => CC (d + 3) 49 [vi (64512 + x)] h) = kU.map fun p => RV.ok (.tuple [vi p.1, vi p.2]) h := by kernel_rfl
theorem s_kind (d : Nat) : KindS (CC (d + 3)) 49 := fun {h x} hx => by
  unfold kF
  by_cases h1 : x < 256
  · rw [if_pos h1]
    have := kT_at (f := fun x => CC (d + 3) 49 [vi x] h) (kind_t d h) h1
    rwa [Nat.zero_add] at this
  · rw [if_neg h1]
    have h2 : 64512 ≤ x ∧ x < 64768 := hx.resolve_left h1
    have := kT_at (f := fun x => CC (d + 3) 49 [vi x] h) (kind_u d h) (show x - 64512 < 256 by omega)
    rwa [show 64512 + (x - 64512) = x by omega] at this
end Go.Proofs.Ytpelnanckmjoaaa
end
