import Derived.Test.YtpelnanckmjoaaaB5
section
set_option linter.unusedVariables false
namespace Go.Proofs.Ytpelnanckmjoaaa
set_option linter.unusedVariables false
set_option linter.unusedSimpArgs false
open Go Eng
noncomputable def rvalue0_p (x : Nat) : Option (Bool × Nat) :=
  (if x = 127 then (some (true, 0)) else
    (if x = 126 then (some (true, 0)) else
    (if x = 112 then (some (true, 0)) else
    (if x = 111 then (some (true, 0)) else
    (if x = 125 then (some (false, 5)) else
    (if x = 124 then (some (false, 5)) else
    (if x = 123 then (some (false, 5)) else
    (some (false, 2)))))))))
theorem rvalue0_w {call : CallT} {N : Nat} {h : Hp} {x : Nat} (fx_1 : x < 256)  {r : Bool × Nat} (hp : rvalue0_p x = some r) :
    ∃ rv rh, evF1 (progS Try.prog (compDrawn Try.prog)) N call 115 [(vb8 x)] h = .ok rv rh ∧ (fun (rv : AV) (rh : Hp) => rv = (AV.tuple [(AV.bool r.1), (vi r.2)]) ∧ Eng.Sep (Frz (Low h) h :: []) rh) rv rh := by
  have S : Eng.Sep [Frz (Low h) h] h := Sep.start h
  unfold rvalue0_p at hp
  refine fwalk_ok (K := (fun (rv : AV) (rh : Hp) => rv = (AV.tuple [(AV.bool r.1), (vi r.2)]) ∧ Eng.Sep (Frz (Low h) h :: []) rh)) (o := (.fork 4 .fin (.fork 1 .fin (.fork 1 .fin (.fork 1 .fin (.fork 1 .fin (.fork 1 .fin (.fork 1 .fin .fin)))))))) (p := (fun (KK : AV → Hp → Prop) => ((eqI (Int.ofNat x) (Int.ofNat 127) = true → KK (AV.tuple [(AV.bool true), (vi 0)]) h) ∧ (eqI (Int.ofNat x) (Int.ofNat 127) = false → ((eqI (Int.ofNat x) (Int.ofNat 126) = true → KK (AV.tuple [(AV.bool true), (vi 0)]) h) ∧ (eqI (Int.ofNat x) (Int.ofNat 126) = false → ((eqI (Int.ofNat x) (Int.ofNat 112) = true → KK (AV.tuple [(AV.bool true), (vi 0)]) h) ∧ (eqI (Int.ofNat x) (Int.ofNat 112) = false → ((eqI (Int.ofNat x) (Int.ofNat 111) = true → KK (AV.tuple [(AV.bool true), (vi 0)]) h) ∧ (eqI (Int.ofNat x) (Int.ofNat 111) = false → ((eqI (Int.ofNat x) (Int.ofNat 125) = true → KK (AV.tuple [(AV.bool false), (vi 5)]) h) ∧ (eqI (Int.ofNat x) (Int.ofNat 125) = false → ((eqI (Int.ofNat x) (Int.ofNat 124) = true → KK (AV.tuple [(AV.bool false), (vi 5)]) h) ∧ (eqI (Int.ofNat x) (Int.ofNat 124) = false → ((eqI (Int.ofNat x) (Int.ofNat 123) = true → KK (AV.tuple [(AV.bool false), (vi 5)]) h) ∧ (eqI (Int.ofNat x) (Int.ofNat 123) = false → KK (AV.tuple [(AV.bool false), (vi 2)]) h))))))))))))))) (fun (rv : AV) (rh : Hp) => rv = (AV.tuple [(AV.bool r.1), (vi r.2)]) ∧ Eng.Sep (Frz (Low h) h :: []) rh)) (by kernel_rfl) ?_
  refine ⟨fun c1 => ?_, fun c1 => ?_⟩
  · replace c1 := eqI_t c1
    replace hp := ift hp c1
    obtain rfl := Option.some.inj hp
    exact ⟨rfl, S⟩
  replace c1 := eqI_f c1
  replace hp := iff0 hp (c1)
  refine ⟨fun c2 => ?_, fun c2 => ?_⟩
  · replace c2 := eqI_t c2
    replace hp := ift hp c2
    obtain rfl := Option.some.inj hp
    exact ⟨rfl, S⟩
  replace c2 := eqI_f c2
  replace hp := iff0 hp (c2)
  refine ⟨fun c3 => ?_, fun c3 => ?_⟩
  · replace c3 := eqI_t c3
    replace hp := ift hp c3
    obtain rfl := Option.some.inj hp
    exact ⟨rfl, S⟩
  replace c3 := eqI_f c3
  replace hp := iff0 hp (c3)
  refine ⟨fun c4 => ?_, fun c4 => ?_⟩
  · replace c4 := eqI_t c4
    replace hp := ift hp c4
    obtain rfl := Option.some.inj hp
    exact ⟨rfl, S⟩
  replace c4 := eqI_f c4
  replace hp := iff0 hp (c4)
  refine ⟨fun c5 => ?_, fun c5 => ?_⟩
  · replace c5 := eqI_t c5
    replace hp := ift hp c5
    obtain rfl := Option.some.inj hp
    exact ⟨rfl, S⟩
  replace c5 := eqI_f c5
  replace hp := iff0 hp (c5)
  refine ⟨fun c6 => ?_, fun c6 => ?_⟩
  · replace c6 := eqI_t c6
    replace hp := ift hp c6
    obtain rfl := Option.some.inj hp
    exact ⟨rfl, S⟩
  replace c6 := eqI_f c6
  replace hp := iff0 hp (c6)
  refine ⟨fun c7 => ?_, fun c7 => ?_⟩
  · replace c7 := eqI_t c7
    replace hp := ift hp c7
    obtain rfl := Option.some.inj hp
    exact ⟨rfl, S⟩
  replace c7 := eqI_f c7
  replace hp := iff0 hp (c7)
  obtain rfl := Option.some.inj hp
  exact ⟨rfl, S⟩
def C_rvalue0 (call : CallT) : Prop := ∀ {h : Hp} {x : Nat} (fx_1 : x < 256) {r : Bool × Nat}, rvalue0_p x = some r → ∃ rv rh, call 115 [(vb8 x)] h = .ok rv rh ∧ rv = (AV.tuple [(AV.bool r.1), (vi r.2)]) ∧ Eng.Sep (Frz (Low h) h :: []) rh
theorem s_rvalue0 (d : Nat) : C_rvalue0 (CC (d + 1)) := by
  intro h x fx_1 r hp
  rw [CC, evF_at (sumT_none rfl)]
  exact rvalue0_w (call := CC (d + 0)) (N := 100000) fx_1  hp
noncomputable def rref_p (x : Nat) : Option (Bool) :=
  (if x = 112 then (some true) else
    (if x = 111 then (some true) else
    (some false)))
theorem rref_w {call : CallT} {N : Nat} {h : Hp} {x : Nat} (fx_1 : x < 256)  {r : Bool} (hp : rref_p x = some r) :
    ∃ rv rh, evF1 (progS Try.prog (compDrawn Try.prog)) N call 89 [(vb8 x)] h = .ok rv rh ∧ (fun (rv : AV) (rh : Hp) => rv = (AV.bool r) ∧ Eng.Sep (Frz (Low h) h :: []) rh) rv rh := by
  have S : Eng.Sep [Frz (Low h) h] h := Sep.start h
  unfold rref_p at hp
  refine fwalk_ok (K := (fun (rv : AV) (rh : Hp) => rv = (AV.bool r) ∧ Eng.Sep (Frz (Low h) h :: []) rh)) (o := (.fork 3 .fin (.fork 3 .fin .fin))) (p := (fun (KK : AV → Hp → Prop) => ((eqI (Int.ofNat x) (Int.ofNat 112) = true → KK (AV.bool true) h) ∧ (eqI (Int.ofNat x) (Int.ofNat 112) = false → ((eqI (Int.ofNat x) (Int.ofNat 111) = true → KK (AV.bool true) h) ∧ (eqI (Int.ofNat x) (Int.ofNat 111) = false → KK (AV.bool false) h))))) (fun (rv : AV) (rh : Hp) => rv = (AV.bool r) ∧ Eng.Sep (Frz (Low h) h :: []) rh)) (by kernel_rfl) ?_
  refine ⟨fun c1 => ?_, fun c1 => ?_⟩
  · replace c1 := eqI_t c1
    replace hp := ift hp c1
    obtain rfl := Option.some.inj hp
    exact ⟨rfl, S⟩
  replace c1 := eqI_f c1
  replace hp := iff0 hp (c1)
  refine ⟨fun c2 => ?_, fun c2 => ?_⟩
  · replace c2 := eqI_t c2
    replace hp := ift hp c2
    obtain rfl := Option.some.inj hp
    exact ⟨rfl, S⟩
  replace c2 := eqI_f c2
  replace hp := iff0 hp (c2)
  obtain rfl := Option.some.inj hp
  exact ⟨rfl, S⟩
def C_rref (call : CallT) : Prop := ∀ {h : Hp} {x : Nat} (fx_1 : x < 256) {r : Bool}, rref_p x = some r → ∃ rv rh, call 89 [(vb8 x)] h = .ok rv rh ∧ rv = (AV.bool r) ∧ Eng.Sep (Frz (Low h) h :: []) rh
theorem s_rref (d : Nat) : C_rref (CC (d + 1)) := by
  intro h x fx_1 r hp
  rw [CC, evF_at (sumT_none rfl)]
  exact rref_w (call := CC (d + 0)) (N := 100000) fx_1  hp
noncomputable def rbyte_p (rb : List Nat) (re : Nat) : Option (List Nat × Nat × Nat) :=
  (if re = 0 then (if rb.length = 0 then (some (rb, 3, 0)) else
    (gd (0 < rb.length) (gd (1 ≤ rb.length) (some (rb.drop 1, re, rb.getD 0 0))))) else
    (some (rb, re, 0)))
theorem rbyte_w {call : CallT} {N : Nat} {h : Hp} {h0 : Hp} {G : Nat → Prop} {R : List AObj} {b : Nat} {rest : List AV} {wrb_1 : AV} {rb : List Nat} {re : Nat} (frb_2 : BIn G h0 wrb_1 rb)  {r : List Nat × Nat × Nat} (hp : rbyte_p rb re = some r) (S : Eng.Sep (Cel b (wrb_1 :: (vi re) :: rest) :: Frz G h0 :: R) h) :
    ∃ rv rh, evF1 (progS Try.prog (compDrawn Try.prog)) N call 113 [(AV.ptr b 0)] h = .ok rv rh ∧ (fun (rv : AV) (rh : Hp) => ∃ wk2 : AV, rv = (vb8 r.2.2) ∧ (r.2.2 < 256) ∧ (BIn G h0 wk2 r.1) ∧ Eng.Sep (Cel b (wk2 :: (vi r.2.1) :: rest) :: Frz G h0 :: R) rh) rv rh := by
  unfold rbyte_p at hp
  refine fwalk_ok (K := (fun (rv : AV) (rh : Hp) => ∃ wk2 : AV, rv = (vb8 r.2.2) ∧ (r.2.2 < 256) ∧ (BIn G h0 wk2 r.1) ∧ Eng.Sep (Cel b (wk2 :: (vi r.2.1) :: rest) :: Frz G h0 :: R) rh)) (o := (.tell 4 (vi re) (.fork 1 (.tell 3 wrb_1 (.tell 0 (vi rb.length) (.fork 1 (.effx 3 (fun e3 => (AV.tuple [])) (fun e3 => (.tell 3 (vi 3) .fin))) (.tell 3 (vi re) (.tell 0 (AV.bool false) (.tell 3 wrb_1 (.tell 0 (elemP wrb_1 0 1) (.tell 0 (vb8 (rb.getD 0 0)) (.tell 5 wrb_1 (.tell 0 (partS wrb_1 1 rb.length) (.effx 2 (fun e7 => (AV.tuple [])) (fun e7 => .fin)))))))))))) (.tell 4 (vi re) (.tell 0 (AV.bool true) .fin))))) (p := (fun (KK : AV → Hp → Prop) => ((evQ (.loadS (.const (AV.ptr b 1))) .lf h = .ok (vi re) ∧ ((eqI (Int.ofNat re) (Int.ofNat 0) = true → ((evQ (.loadS (.const (AV.ptr b 0))) .lf h = .ok wrb_1 ∧ ((evQ (.lenL (.const wrb_1)) .lf H0 = .ok (vi rb.length) ∧ ((eqI (Int.ofNat rb.length) (Int.ofNat 0) = true → (∃ e3 : Ev, evE (.store 1 (.const (AV.ptr b 1)) (.const (vi 3))) call .lf h = .ok (AV.tuple []) e3.h ∧ ((evQ (.loadS (.const (AV.ptr b 1))) .lf e3.h = .ok (vi 3) ∧ KK (vb8 0) e3.h)))) ∧ (eqI (Int.ofNat rb.length) (Int.ofNat 0) = false → ((evQ (.loadS (.const (AV.ptr b 1))) .lf h = .ok (vi re) ∧ ((evQ (.eq .int true (.const (vi re)) (.const (vi 0))) .lf H0 = .ok (AV.bool false) ∧ ((evQ (.loadS (.const (AV.ptr b 0))) .lf h = .ok wrb_1 ∧ ((evQ (.idxAddrSl 1 (.const wrb_1) (.const (vi 0))) .lf H0 = .ok (elemP wrb_1 0 1) ∧ ((evQ (.loadS (.const (elemP wrb_1 0 1))) .lf h = .ok (vb8 (rb.getD 0 0)) ∧ ((evQ (.loadS (.const (AV.ptr b 0))) .lf h = .ok wrb_1 ∧ ((evQ (.sliceSl 1 (.const wrb_1) (some (.const (vi 1))) none none) .lf H0 = .ok (partS wrb_1 1 rb.length) ∧ (∃ e7 : Ev, evE (.store 1 (.const (AV.ptr b 0)) (.const (partS wrb_1 1 rb.length))) call .lf h = .ok (AV.tuple []) e7.h ∧ KK (vb8 (rb.getD 0 0)) e7.h)))))))))))))))))))))) ∧ (eqI (Int.ofNat re) (Int.ofNat 0) = false → ((evQ (.loadS (.const (AV.ptr b 1))) .lf h = .ok (vi re) ∧ ((evQ (.eq .int true (.const (vi re)) (.const (vi 0))) .lf H0 = .ok (AV.bool true) ∧ KK (vb8 0) h))))))))) (fun (rv : AV) (rh : Hp) => ∃ wk2 : AV, rv = (vb8 r.2.2) ∧ (r.2.2 < 256) ∧ (BIn G h0 wk2 r.1) ∧ Eng.Sep (Cel b (wk2 :: (vi r.2.1) :: rest) :: Frz G h0 :: R) rh)) (by kernel_rfl) ?_
  refine ⟨cel_load S (i := 0) rfl rfl, ?_⟩
  refine ⟨fun c1 => ?_, fun c1 => ?_⟩
  · have rc1 := c1
    replace c1 := eqI_t c1
    replace hp := ift hp c1
    refine ⟨cel_load S (i := 0) rfl rfl, ?_⟩
    refine ⟨q_len (BIn.now S (i := 1) rfl frb_2), ?_⟩
    refine ⟨fun c2 => ?_, fun c2 => ?_⟩
    · replace c2 := eqI_t c2
      replace hp := ift hp c2
      obtain ⟨e3, qe3, se3⟩ := cel_store call S (i := 0) (o := 1) (x := (vi 3)) rfl (lb rfl) rfl
      refine ⟨e3, qe3, ?_⟩
      refine ⟨cel_load se3 (i := 0) rfl rfl, ?_⟩
      obtain rfl := Option.some.inj hp
      exact ⟨wrb_1, rfl, (show 0 < 256 by decide), frb_2, se3⟩
    replace c2 := eqI_f c2
    replace hp := iff0 hp (c2)
    refine ⟨cel_load S (i := 0) rfl rfl, ?_⟩
    refine ⟨congrArg (fun z => OV.ok (AV.bool (notB z))) (rc1), ?_⟩
    refine ⟨cel_load S (i := 0) rfl rfl, ?_⟩
    have ⟨g3, hp⟩ := gd_inv hp
    refine ⟨q_idxB (l := rb) (BIn.now S (i := 1) rfl frb_2) g3, ?_⟩
    refine ⟨q_byte (l := rb) (BIn.now S (i := 1) rfl frb_2) g3, ?_⟩
    have x4 : rb.getD 0 0 < 256 := getD_lt (BIn.now S (i := 1) rfl frb_2).lt 0
    refine ⟨cel_load S (i := 0) rfl rfl, ?_⟩
    have ⟨g5, hp⟩ := gd_inv hp
    refine ⟨q_sliceFrom (l := rb) (BIn.now S (i := 1) rfl frb_2) g5, ?_⟩
    have b6 := BIn.from (l := rb) (lo := 1) frb_2 g5
    obtain ⟨e7, qe7, se7⟩ := cel_store call S (i := 0) (o := 0) (x := (partS wrb_1 1 rb.length)) rfl (lb rfl) (BIn.cell b6)
    refine ⟨e7, qe7, ?_⟩
    obtain rfl := Option.some.inj hp
    exact ⟨(partS wrb_1 1 rb.length), rfl, x4, b6, se7⟩
  have rc1 := c1
  replace c1 := eqI_f c1
  replace hp := iff0 hp (c1)
  refine ⟨cel_load S (i := 0) rfl rfl, ?_⟩
  refine ⟨congrArg (fun z => OV.ok (AV.bool (notB z))) (rc1), ?_⟩
  obtain rfl := Option.some.inj hp
  exact ⟨wrb_1, rfl, (show 0 < 256 by decide), frb_2, S⟩
def C_rbyte (call : CallT) : Prop := ∀ {h : Hp} {h0 : Hp} {G : Nat → Prop} {R : List AObj} {b : Nat} {rest : List AV} {wrb_1 : AV} {rb : List Nat} {re : Nat} (frb_2 : BIn G h0 wrb_1 rb) {r : List Nat × Nat × Nat}, rbyte_p rb re = some r → Eng.Sep (Cel b (wrb_1 :: (vi re) :: rest) :: Frz G h0 :: R) h → ∃ rv rh, call 113 [(AV.ptr b 0)] h = .ok rv rh ∧ ∃ wk2 : AV, rv = (vb8 r.2.2) ∧ (r.2.2 < 256) ∧ (BIn G h0 wk2 r.1) ∧ Eng.Sep (Cel b (wk2 :: (vi r.2.1) :: rest) :: Frz G h0 :: R) rh
theorem s_rbyte (d : Nat) : C_rbyte (CC (d + 1)) := by
  intro h h0 G R b rest wrb_1 rb re frb_2 r hp S
  rw [CC, evF_at (sumT_none rfl)]
  exact rbyte_w (call := CC (d + 0)) (N := 100000) frb_2  hp S
noncomputable def rfail_p (rb : List Nat) (re : Nat) (e : Nat) : Option (List Nat × Nat) :=
  (if re = 0 then (some (rb, e)) else
    (some (rb, re)))
theorem rfail_w {call : CallT} {N : Nat} {h : Hp} {h0 : Hp} {G : Nat → Prop} {R : List AObj} {b : Nat} {rest : List AV} {wrb_1 : AV} {rb : List Nat} {re : Nat} {e : Nat} (frb_2 : BIn G h0 wrb_1 rb)  {r : List Nat × Nat} (hp : rfail_p rb re e = some r) (S : Eng.Sep (Cel b (wrb_1 :: (vi re) :: rest) :: Frz G h0 :: R) h) :
    ∃ rv rh, evF1 (progS Try.prog (compDrawn Try.prog)) N call 52 [(AV.ptr b 0), (vi e)] h = .ok rv rh ∧ (fun (rv : AV) (rh : Hp) => ∃ wk1 : AV, rv = (AV.tuple []) ∧ (BIn G h0 wk1 r.1) ∧ Eng.Sep (Cel b (wk1 :: (vi r.2) :: rest) :: Frz G h0 :: R) rh) rv rh := by
  unfold rfail_p at hp
  refine fwalk_ok (K := (fun (rv : AV) (rh : Hp) => ∃ wk1 : AV, rv = (AV.tuple []) ∧ (BIn G h0 wk1 r.1) ∧ Eng.Sep (Cel b (wk1 :: (vi r.2) :: rest) :: Frz G h0 :: R) rh)) (o := (.tell 3 (vi re) (.fork 0 (.effx 4 (fun e2 => (AV.tuple [])) (fun e2 => .fin)) .fin))) (p := (fun (KK : AV → Hp → Prop) => ((evQ (.loadS (.const (AV.ptr b 1))) .lf h = .ok (vi re) ∧ ((eqI (Int.ofNat re) (Int.ofNat 0) = true → (∃ e2 : Ev, evE (.store 1 (.const (AV.ptr b 1)) (.const (vi e))) call .lf h = .ok (AV.tuple []) e2.h ∧ KK (AV.tuple []) e2.h)) ∧ (eqI (Int.ofNat re) (Int.ofNat 0) = false → KK (AV.tuple []) h))))) (fun (rv : AV) (rh : Hp) => ∃ wk1 : AV, rv = (AV.tuple []) ∧ (BIn G h0 wk1 r.1) ∧ Eng.Sep (Cel b (wk1 :: (vi r.2) :: rest) :: Frz G h0 :: R) rh)) (by kernel_rfl) ?_
  refine ⟨cel_load S (i := 0) rfl rfl, ?_⟩
  refine ⟨fun c1 => ?_, fun c1 => ?_⟩
  · replace c1 := eqI_t c1
    replace hp := ift hp c1
    obtain ⟨e2, qe2, se2⟩ := cel_store call S (i := 0) (o := 1) (x := (vi e)) rfl (lb rfl) rfl
    refine ⟨e2, qe2, ?_⟩
    obtain rfl := Option.some.inj hp
    exact ⟨wrb_1, rfl, frb_2, se2⟩
  replace c1 := eqI_f c1
  replace hp := iff0 hp (c1)
  obtain rfl := Option.some.inj hp
  exact ⟨wrb_1, rfl, frb_2, S⟩
def C_rfail (call : CallT) : Prop := ∀ {h : Hp} {h0 : Hp} {G : Nat → Prop} {R : List AObj} {b : Nat} {rest : List AV} {wrb_1 : AV} {rb : List Nat} {re : Nat} {e : Nat} (frb_2 : BIn G h0 wrb_1 rb) {r : List Nat × Nat}, rfail_p rb re e = some r → Eng.Sep (Cel b (wrb_1 :: (vi re) :: rest) :: Frz G h0 :: R) h → ∃ rv rh, call 52 [(AV.ptr b 0), (vi e)] h = .ok rv rh ∧ ∃ wk1 : AV, rv = (AV.tuple []) ∧ (BIn G h0 wk1 r.1) ∧ Eng.Sep (Cel b (wk1 :: (vi r.2) :: rest) :: Frz G h0 :: R) rh
theorem s_rfail (d : Nat) : C_rfail (CC (d + 1)) := by
  intro h h0 G R b rest wrb_1 rb re e frb_2 r hp S
  rw [CC, evF_at (sumT_none rfl)]
  exact rfail_w (call := CC (d + 0)) (N := 100000) frb_2  hp S
noncomputable def rnum32_p (rb : List Nat) (re : Nat) : Option (List Nat × Nat × Nat) :=
  (if re ≠ 0 then (some (rb, re, 0)) else
    (gd (rb.length < 90000) (ob (some (readG 32 false rb 0 0 0)) fun x3 =>
    (gd (x3.2.1 ≤ rb.length) (some (rb.drop x3.2.1, x3.2.2, x3.1))))))
theorem rnum32_w {call : CallT} {N : Nat} {h : Hp} {h0 : Hp} {G : Nat → Prop} {R : List AObj} {b : Nat} {rest : List AV} {wrb_1 : AV} {rb : List Nat} {re : Nat} (frb_2 : BIn G h0 wrb_1 rb) (h_number_32_false : ∀ {B : Nat} {h : Hp} {vb : AV} {l : List Nat}, Bytes B h vb l → l.length < 90000 → call 133 [vb, .int .i64 (.ofNat 32), .bool false] h = .ok (numT .u64 (readG 32 false l 0 0 0)) h) (h_number_32_true : ∀ {B : Nat} {h : Hp} {vb : AV} {l : List Nat}, Bytes B h vb l → l.length < 90000 → call 133 [vb, .int .i64 (.ofNat 32), .bool true] h = .ok (numT .u64 (readG 32 true l 0 0 0)) h) (h_number_33_true : ∀ {B : Nat} {h : Hp} {vb : AV} {l : List Nat}, Bytes B h vb l → l.length < 90000 → call 133 [vb, .int .i64 (.ofNat 33), .bool true] h = .ok (numT .u64 (readG 33 true l 0 0 0)) h) (h_number_64_true : ∀ {B : Nat} {h : Hp} {vb : AV} {l : List Nat}, Bytes B h vb l → l.length < 90000 → call 133 [vb, .int .i64 (.ofNat 64), .bool true] h = .ok (numT .u64 (readG 64 true l 0 0 0)) h) {r : List Nat × Nat × Nat} (hp : rnum32_p rb re = some r) (S : Eng.Sep (Cel b (wrb_1 :: (vi re) :: rest) :: Frz G h0 :: R) h) :
    ∃ rv rh, evF1 (progS Try.prog (compDrawn Try.prog)) N call 114 [(AV.ptr b 0), (vi 32), (AV.bool false)] h = .ok rv rh ∧ (fun (rv : AV) (rh : Hp) => ∃ wk2 : AV, rv = (vq r.2.2) ∧ (r.2.2 < 18446744073709551616) ∧ (BIn G h0 wk2 r.1) ∧ Eng.Sep (Cel b (wk2 :: (vi r.2.1) :: rest) :: Frz G h0 :: R) rh) rv rh := by
  unfold rnum32_p at hp
  refine fwalk_ok (K := (fun (rv : AV) (rh : Hp) => ∃ wk2 : AV, rv = (vq r.2.2) ∧ (r.2.2 < 18446744073709551616) ∧ (BIn G h0 wk2 r.1) ∧ Eng.Sep (Cel b (wk2 :: (vi r.2.1) :: rest) :: Frz G h0 :: R) rh)) (o := (.tell 4 (vi re) (.fork 0 .fin (.tell 3 wrb_1 (.exi 2 fun (x3 : Nat × Nat × Nat) => (.eff 0 (AV.tuple [(vq x3.1), (vi x3.2.1), (vi x3.2.2)]) h (.tell 13 wrb_1 (.tell 1 (partS wrb_1 x3.2.1 rb.length) (.again 2 (.effx 0 (fun e8 => (AV.tuple [])) (fun e8 => (.again 2 (.effx 0 (fun e10 => (AV.tuple [])) (fun e10 => .fin)))))))))))))) (p := (fun (KK : AV → Hp → Prop) => ((evQ (.loadS (.const (AV.ptr b 1))) .lf h = .ok (vi re) ∧ ((notB (eqI (Int.ofNat re) (Int.ofNat 0)) = true → KK (vq 0) h) ∧ (notB (eqI (Int.ofNat re) (Int.ofNat 0)) = false → ((evQ (.loadS (.const (AV.ptr b 0))) .lf h = .ok wrb_1 ∧ (∃ x3 : Nat × Nat × Nat, (call 133 [wrb_1, (vi 32), (AV.bool false)] h = .ok (AV.tuple [(vq x3.1), (vi x3.2.1), (vi x3.2.2)]) h ∧ ((evQ (.loadS (.const (AV.ptr b 0))) .lf h = .ok wrb_1 ∧ ((evQ (.sliceSl 1 (.const wrb_1) (some (.const (vi x3.2.1))) none none) .lf H0 = .ok (partS wrb_1 x3.2.1 rb.length) ∧ ((again (.fieldAddr 1 (.const (AV.ptr b 0))) .lf (AV.ptr b 1) h = true ∧ again (.nilCheck (.const (AV.ptr b 0))) .lf (AV.ptr b 0) h = true ∧ again (.sliceSl 1 (.const wrb_1) (some (.const (vi x3.2.1))) none none) .lf (partS wrb_1 x3.2.1 rb.length) h = true ∧ again (.move (.const (vi x3.2.1))) .lf (vi x3.2.1) h = true ∧ again (.loadS (.const (AV.ptr b 0))) .lf wrb_1 h = true ∧ again (.fieldAddr 0 (.const (AV.ptr b 0))) .lf (AV.ptr b 0) h = true ∧ again (.nilCheck (.const (AV.ptr b 0))) .lf (AV.ptr b 0) h = true ∧ again (.move (.const (AV.ptr b 0))) .lf (AV.ptr b 0) h = true ∧ again (.move (.const (vi x3.2.2))) .lf (vi x3.2.2) h = true ∧ again (.move (.const (AV.ptr b 0))) .lf (AV.ptr b 0) h = true ∧ again (.move (.const (AV.ptr b 0))) .lf (AV.ptr b 0) h = true ∧ True) ∧ (∃ e8 : Ev, evE (.store 1 (.const (AV.ptr b 1)) (.const (vi x3.2.2))) call .lf h = .ok (AV.tuple []) e8.h ∧ ((again (.fieldAddr 0 (.const (AV.ptr b 0))) .lf (AV.ptr b 0) e8.h = true ∧ again (.nilCheck (.const (AV.ptr b 0))) .lf (AV.ptr b 0) e8.h = true ∧ again (.sliceSl 1 (.const wrb_1) (some (.const (vi x3.2.1))) none none) .lf (partS wrb_1 x3.2.1 rb.length) e8.h = true ∧ again (.move (.const (vi x3.2.1))) .lf (vi x3.2.1) e8.h = true ∧ again (.move (.const (AV.ptr b 0))) .lf (AV.ptr b 0) e8.h = true ∧ True) ∧ (∃ e10 : Ev, evE (.store 1 (.const (AV.ptr b 0)) (.const (partS wrb_1 x3.2.1 rb.length))) call .lf e8.h = .ok (AV.tuple []) e10.h ∧ KK (vq x3.1) e10.h))))))))))))))))) (fun (rv : AV) (rh : Hp) => ∃ wk2 : AV, rv = (vq r.2.2) ∧ (r.2.2 < 18446744073709551616) ∧ (BIn G h0 wk2 r.1) ∧ Eng.Sep (Cel b (wk2 :: (vi r.2.1) :: rest) :: Frz G h0 :: R) rh)) (by kernel_rfl) ?_
  refine ⟨cel_load S (i := 0) rfl rfl, ?_⟩
  refine ⟨fun c1 => ?_, fun c1 => ?_⟩
  · replace c1 := eqI_f (notB_t c1)
    replace hp := ift hp c1
    obtain rfl := Option.some.inj hp
    exact ⟨wrb_1, rfl, (show 0 < 18446744073709551616 by decide), frb_2, S⟩
  replace c1 := eqI_t (notB_f c1)
  replace hp := iff0 hp (nneO c1)
  refine ⟨cel_load S (i := 0) rfl rfl, ?_⟩
  have ⟨g2, hp⟩ := gd_inv hp
  have ⟨x3, hb4, hp⟩ := ob_inv hp
  replace hb4 := Option.some.inj hb4
  have g5 : x3.1 < 18446744073709551616 := by rw [← hb4]; exact readG_lt _ _ _ _ (by decide)
  refine ⟨x3, (by rw [← hb4]; exact h_number_32_false (BIn.now S (i := 1) rfl frb_2) g2), ?_⟩
  refine ⟨cel_load S (i := 0) rfl rfl, ?_⟩
  have ⟨g6, hp⟩ := gd_inv hp
  refine ⟨q_sliceFrom (l := rb) (BIn.now S (i := 1) rfl frb_2) g6, ?_⟩
  have b7 := BIn.from (l := rb) (lo := x3.2.1) frb_2 g6
  refine ⟨⟨again_of (rfl) (avEq_ptr _ _), again_of (rfl) (avEq_ptr _ _), again_of (q_sliceFrom (l := rb) (BIn.now S (i := 1) rfl frb_2) g6) (BIn.same b7), again_of (rfl) (avEq_int _ _), again_of (cel_load S (i := 0) rfl rfl) (BIn.same frb_2), again_of (rfl) (avEq_ptr _ _), again_of (rfl) (avEq_ptr _ _), again_of (rfl) (avEq_ptr _ _), again_of (rfl) (avEq_int _ _), again_of (rfl) (avEq_ptr _ _), again_of (rfl) (avEq_ptr _ _), trivial⟩, ?_⟩
  obtain ⟨e8, qe8, se8⟩ := cel_store call S (i := 0) (o := 1) (x := (vi x3.2.2)) rfl (lb rfl) rfl
  refine ⟨e8, qe8, ?_⟩
  refine ⟨⟨again_of (rfl) (avEq_ptr _ _), again_of (rfl) (avEq_ptr _ _), again_of (q_sliceFrom (l := rb) (BIn.now S (i := 1) rfl frb_2) g6) (BIn.same b7), again_of (rfl) (avEq_int _ _), again_of (rfl) (avEq_ptr _ _), trivial⟩, ?_⟩
  obtain ⟨e10, qe10, se10⟩ := cel_store call se8 (i := 0) (o := 0) (x := (partS wrb_1 x3.2.1 rb.length)) rfl (lb rfl) (BIn.cell b7)
  refine ⟨e10, qe10, ?_⟩
  obtain rfl := Option.some.inj hp
  exact ⟨(partS wrb_1 x3.2.1 rb.length), rfl, g5, b7, se10⟩
def C_rnum32 (call : CallT) : Prop := ∀ {h : Hp} {h0 : Hp} {G : Nat → Prop} {R : List AObj} {b : Nat} {rest : List AV} {wrb_1 : AV} {rb : List Nat} {re : Nat} (frb_2 : BIn G h0 wrb_1 rb) {r : List Nat × Nat × Nat}, rnum32_p rb re = some r → Eng.Sep (Cel b (wrb_1 :: (vi re) :: rest) :: Frz G h0 :: R) h → ∃ rv rh, call 114 [(AV.ptr b 0), (vi 32), (AV.bool false)] h = .ok rv rh ∧ ∃ wk2 : AV, rv = (vq r.2.2) ∧ (r.2.2 < 18446744073709551616) ∧ (BIn G h0 wk2 r.1) ∧ Eng.Sep (Cel b (wk2 :: (vi r.2.1) :: rest) :: Frz G h0 :: R) rh
theorem s_rnum32 (d : Nat) : C_rnum32 (CC (d + 2)) := by
  intro h h0 G R b rest wrb_1 rb re frb_2 r hp S
  rw [CC, evF_at (sumT_none rfl)]
  exact rnum32_w (call := CC (d + 1)) (N := 100000) frb_2 (fun {B h vb l} hb hl => s_number (d + 0) 32 false (by decide) B h vb l hb hl (by decide)) (fun {B h vb l} hb hl => s_number (d + 0) 32 true (by decide) B h vb l hb hl (by decide)) (fun {B h vb l} hb hl => s_number (d + 0) 33 true (by decide) B h vb l hb hl (by decide)) (fun {B h vb l} hb hl => s_number (d + 0) 64 true (by decide) B h vb l hb hl (by decide)) hp S
noncomputable def rnum32s_p (rb : List Nat) (re : Nat) : Option (List Nat × Nat × Nat) :=
  (if re ≠ 0 then (some (rb, re, 0)) else
    (gd (rb.length < 90000) (ob (some (readG 32 true rb 0 0 0)) fun x3 =>
    (gd (x3.2.1 ≤ rb.length) (some (rb.drop x3.2.1, x3.2.2, x3.1))))))
theorem rnum32s_w {call : CallT} {N : Nat} {h : Hp} {h0 : Hp} {G : Nat → Prop} {R : List AObj} {b : Nat} {rest : List AV} {wrb_1 : AV} {rb : List Nat} {re : Nat} (frb_2 : BIn G h0 wrb_1 rb) (h_number_32_false : ∀ {B : Nat} {h : Hp} {vb : AV} {l : List Nat}, Bytes B h vb l → l.length < 90000 → call 133 [vb, .int .i64 (.ofNat 32), .bool false] h = .ok (numT .u64 (readG 32 false l 0 0 0)) h) (h_number_32_true : ∀ {B : Nat} {h : Hp} {vb : AV} {l : List Nat}, Bytes B h vb l → l.length < 90000 → call 133 [vb, .int .i64 (.ofNat 32), .bool true] h = .ok (numT .u64 (readG 32 true l 0 0 0)) h) (h_number_33_true : ∀ {B : Nat} {h : Hp} {vb : AV} {l : List Nat}, Bytes B h vb l → l.length < 90000 → call 133 [vb, .int .i64 (.ofNat 33), .bool true] h = .ok (numT .u64 (readG 33 true l 0 0 0)) h) (h_number_64_true : ∀ {B : Nat} {h : Hp} {vb : AV} {l : List Nat}, Bytes B h vb l → l.length < 90000 → call 133 [vb, .int .i64 (.ofNat 64), .bool true] h = .ok (numT .u64 (readG 64 true l 0 0 0)) h) {r : List Nat × Nat × Nat} (hp : rnum32s_p rb re = some r) (S : Eng.Sep (Cel b (wrb_1 :: (vi re) :: rest) :: Frz G h0 :: R) h) :
    ∃ rv rh, evF1 (progS Try.prog (compDrawn Try.prog)) N call 114 [(AV.ptr b 0), (vi 32), (AV.bool true)] h = .ok rv rh ∧ (fun (rv : AV) (rh : Hp) => ∃ wk2 : AV, rv = (vq r.2.2) ∧ (r.2.2 < 18446744073709551616) ∧ (BIn G h0 wk2 r.1) ∧ Eng.Sep (Cel b (wk2 :: (vi r.2.1) :: rest) :: Frz G h0 :: R) rh) rv rh := by
  unfold rnum32s_p at hp
  refine fwalk_ok (K := (fun (rv : AV) (rh : Hp) => ∃ wk2 : AV, rv = (vq r.2.2) ∧ (r.2.2 < 18446744073709551616) ∧ (BIn G h0 wk2 r.1) ∧ Eng.Sep (Cel b (wk2 :: (vi r.2.1) :: rest) :: Frz G h0 :: R) rh)) (o := (.tell 4 (vi re) (.fork 0 .fin (.tell 3 wrb_1 (.exi 2 fun (x3 : Nat × Nat × Nat) => (.eff 0 (AV.tuple [(vq x3.1), (vi x3.2.1), (vi x3.2.2)]) h (.tell 13 wrb_1 (.tell 1 (partS wrb_1 x3.2.1 rb.length) (.again 2 (.effx 0 (fun e8 => (AV.tuple [])) (fun e8 => (.again 2 (.effx 0 (fun e10 => (AV.tuple [])) (fun e10 => .fin)))))))))))))) (p := (fun (KK : AV → Hp → Prop) => ((evQ (.loadS (.const (AV.ptr b 1))) .lf h = .ok (vi re) ∧ ((notB (eqI (Int.ofNat re) (Int.ofNat 0)) = true → KK (vq 0) h) ∧ (notB (eqI (Int.ofNat re) (Int.ofNat 0)) = false → ((evQ (.loadS (.const (AV.ptr b 0))) .lf h = .ok wrb_1 ∧ (∃ x3 : Nat × Nat × Nat, (call 133 [wrb_1, (vi 32), (AV.bool true)] h = .ok (AV.tuple [(vq x3.1), (vi x3.2.1), (vi x3.2.2)]) h ∧ ((evQ (.loadS (.const (AV.ptr b 0))) .lf h = .ok wrb_1 ∧ ((evQ (.sliceSl 1 (.const wrb_1) (some (.const (vi x3.2.1))) none none) .lf H0 = .ok (partS wrb_1 x3.2.1 rb.length) ∧ ((again (.fieldAddr 1 (.const (AV.ptr b 0))) .lf (AV.ptr b 1) h = true ∧ again (.nilCheck (.const (AV.ptr b 0))) .lf (AV.ptr b 0) h = true ∧ again (.sliceSl 1 (.const wrb_1) (some (.const (vi x3.2.1))) none none) .lf (partS wrb_1 x3.2.1 rb.length) h = true ∧ again (.move (.const (vi x3.2.1))) .lf (vi x3.2.1) h = true ∧ again (.loadS (.const (AV.ptr b 0))) .lf wrb_1 h = true ∧ again (.fieldAddr 0 (.const (AV.ptr b 0))) .lf (AV.ptr b 0) h = true ∧ again (.nilCheck (.const (AV.ptr b 0))) .lf (AV.ptr b 0) h = true ∧ again (.move (.const (AV.ptr b 0))) .lf (AV.ptr b 0) h = true ∧ again (.move (.const (vi x3.2.2))) .lf (vi x3.2.2) h = true ∧ again (.move (.const (AV.ptr b 0))) .lf (AV.ptr b 0) h = true ∧ again (.move (.const (AV.ptr b 0))) .lf (AV.ptr b 0) h = true ∧ True) ∧ (∃ e8 : Ev, evE (.store 1 (.const (AV.ptr b 1)) (.const (vi x3.2.2))) call .lf h = .ok (AV.tuple []) e8.h ∧ ((again (.fieldAddr 0 (.const (AV.ptr b 0))) .lf (AV.ptr b 0) e8.h = true ∧ again (.nilCheck (.const (AV.ptr b 0))) .lf (AV.ptr b 0) e8.h = true ∧ again (.sliceSl 1 (.const wrb_1) (some (.const (vi x3.2.1))) none none) .lf (partS wrb_1 x3.2.1 rb.length) e8.h = true ∧ again (.move (.const (vi x3.2.1))) .lf (vi x3.2.1) e8.h = true ∧ again (.move (.const (AV.ptr b 0))) .lf (AV.ptr b 0) e8.h = true ∧ True) ∧ (∃ e10 : Ev, evE (.store 1 (.const (AV.ptr b 0)) (.const (partS wrb_1 x3.2.1 rb.length))) call .lf e8.h = .ok (AV.tuple []) e10.h ∧ KK (vq x3.1) e10.h))))))))))))))))) (fun (rv : AV) (rh : Hp) => ∃ wk2 : AV, rv = (vq r.2.2) ∧ (r.2.2 < 18446744073709551616) ∧ (BIn G h0 wk2 r.1) ∧ Eng.Sep (Cel b (wk2 :: (vi r.2.1) :: rest) :: Frz G h0 :: R) rh)) (by kernel_rfl) ?_
  refine ⟨cel_load S (i := 0) rfl rfl, ?_⟩
  refine ⟨fun c1 => ?_, fun c1 => ?_⟩
  · replace c1 := eqI_f (notB_t c1)
    replace hp := ift hp c1
    obtain rfl := Option.some.inj hp
    exact ⟨wrb_1, rfl, (show 0 < 18446744073709551616 by decide), frb_2, S⟩
  replace c1 := eqI_t (notB_f c1)
  replace hp := iff0 hp (nneO c1)
  refine ⟨cel_load S (i := 0) rfl rfl, ?_⟩
  have ⟨g2, hp⟩ := gd_inv hp
  have ⟨x3, hb4, hp⟩ := ob_inv hp
  replace hb4 := Option.some.inj hb4
  have g5 : x3.1 < 18446744073709551616 := by rw [← hb4]; exact readG_lt _ _ _ _ (by decide)
  refine ⟨x3, (by rw [← hb4]; exact h_number_32_true (BIn.now S (i := 1) rfl frb_2) g2), ?_⟩
  refine ⟨cel_load S (i := 0) rfl rfl, ?_⟩
  have ⟨g6, hp⟩ := gd_inv hp
  refine ⟨q_sliceFrom (l := rb) (BIn.now S (i := 1) rfl frb_2) g6, ?_⟩
  have b7 := BIn.from (l := rb) (lo := x3.2.1) frb_2 g6
  refine ⟨⟨again_of (rfl) (avEq_ptr _ _), again_of (rfl) (avEq_ptr _ _), again_of (q_sliceFrom (l := rb) (BIn.now S (i := 1) rfl frb_2) g6) (BIn.same b7), again_of (rfl) (avEq_int _ _), again_of (cel_load S (i := 0) rfl rfl) (BIn.same frb_2), again_of (rfl) (avEq_ptr _ _), again_of (rfl) (avEq_ptr _ _), again_of (rfl) (avEq_ptr _ _), again_of (rfl) (avEq_int _ _), again_of (rfl) (avEq_ptr _ _), again_of (rfl) (avEq_ptr _ _), trivial⟩, ?_⟩
  obtain ⟨e8, qe8, se8⟩ := cel_store call S (i := 0) (o := 1) (x := (vi x3.2.2)) rfl (lb rfl) rfl
  refine ⟨e8, qe8, ?_⟩
  refine ⟨⟨again_of (rfl) (avEq_ptr _ _), again_of (rfl) (avEq_ptr _ _), again_of (q_sliceFrom (l := rb) (BIn.now S (i := 1) rfl frb_2) g6) (BIn.same b7), again_of (rfl) (avEq_int _ _), again_of (rfl) (avEq_ptr _ _), trivial⟩, ?_⟩
  obtain ⟨e10, qe10, se10⟩ := cel_store call se8 (i := 0) (o := 0) (x := (partS wrb_1 x3.2.1 rb.length)) rfl (lb rfl) (BIn.cell b7)
  refine ⟨e10, qe10, ?_⟩
  obtain rfl := Option.some.inj hp
  exact ⟨(partS wrb_1 x3.2.1 rb.length), rfl, g5, b7, se10⟩
def C_rnum32s (call : CallT) : Prop := ∀ {h : Hp} {h0 : Hp} {G : Nat → Prop} {R : List AObj} {b : Nat} {rest : List AV} {wrb_1 : AV} {rb : List Nat} {re : Nat} (frb_2 : BIn G h0 wrb_1 rb) {r : List Nat × Nat × Nat}, rnum32s_p rb re = some r → Eng.Sep (Cel b (wrb_1 :: (vi re) :: rest) :: Frz G h0 :: R) h → ∃ rv rh, call 114 [(AV.ptr b 0), (vi 32), (AV.bool true)] h = .ok rv rh ∧ ∃ wk2 : AV, rv = (vq r.2.2) ∧ (r.2.2 < 18446744073709551616) ∧ (BIn G h0 wk2 r.1) ∧ Eng.Sep (Cel b (wk2 :: (vi r.2.1) :: rest) :: Frz G h0 :: R) rh
theorem s_rnum32s (d : Nat) : C_rnum32s (CC (d + 2)) := by
  intro h h0 G R b rest wrb_1 rb re frb_2 r hp S
  rw [CC, evF_at (sumT_none rfl)]
  exact rnum32s_w (call := CC (d + 1)) (N := 100000) frb_2 (fun {B h vb l} hb hl => s_number (d + 0) 32 false (by decide) B h vb l hb hl (by decide)) (fun {B h vb l} hb hl => s_number (d + 0) 32 true (by decide) B h vb l hb hl (by decide)) (fun {B h vb l} hb hl => s_number (d + 0) 33 true (by decide) B h vb l hb hl (by decide)) (fun {B h vb l} hb hl => s_number (d + 0) 64 true (by decide) B h vb l hb hl (by decide)) hp S
noncomputable def rnum33s_p (rb : List Nat) (re : Nat) : Option (List Nat × Nat × Nat) :=
  (if re ≠ 0 then (some (rb, re, 0)) else
    (gd (rb.length < 90000) (ob (some (readG 33 true rb 0 0 0)) fun x3 =>
    (gd (x3.2.1 ≤ rb.length) (some (rb.drop x3.2.1, x3.2.2, x3.1))))))
theorem rnum33s_w {call : CallT} {N : Nat} {h : Hp} {h0 : Hp} {G : Nat → Prop} {R : List AObj} {b : Nat} {rest : List AV} {wrb_1 : AV} {rb : List Nat} {re : Nat} (frb_2 : BIn G h0 wrb_1 rb) (h_number_32_false : ∀ {B : Nat} {h : Hp} {vb : AV} {l : List Nat}, Bytes B h vb l → l.length < 90000 → call 133 [vb, .int .i64 (.ofNat 32), .bool false] h = .ok (numT .u64 (readG 32 false l 0 0 0)) h) (h_number_32_true : ∀ {B : Nat} {h : Hp} {vb : AV} {l : List Nat}, Bytes B h vb l → l.length < 90000 → call 133 [vb, .int .i64 (.ofNat 32), .bool true] h = .ok (numT .u64 (readG 32 true l 0 0 0)) h) (h_number_33_true : ∀ {B : Nat} {h : Hp} {vb : AV} {l : List Nat}, Bytes B h vb l → l.length < 90000 → call 133 [vb, .int .i64 (.ofNat 33), .bool true] h = .ok (numT .u64 (readG 33 true l 0 0 0)) h) (h_number_64_true : ∀ {B : Nat} {h : Hp} {vb : AV} {l : List Nat}, Bytes B h vb l → l.length < 90000 → call 133 [vb, .int .i64 (.ofNat 64), .bool true] h = .ok (numT .u64 (readG 64 true l 0 0 0)) h) {r : List Nat × Nat × Nat} (hp : rnum33s_p rb re = some r) (S : Eng.Sep (Cel b (wrb_1 :: (vi re) :: rest) :: Frz G h0 :: R) h) :
    ∃ rv rh, evF1 (progS Try.prog (compDrawn Try.prog)) N call 114 [(AV.ptr b 0), (vi 33), (AV.bool true)] h = .ok rv rh ∧ (fun (rv : AV) (rh : Hp) => ∃ wk2 : AV, rv = (vq r.2.2) ∧ (r.2.2 < 18446744073709551616) ∧ (BIn G h0 wk2 r.1) ∧ Eng.Sep (Cel b (wk2 :: (vi r.2.1) :: rest) :: Frz G h0 :: R) rh) rv rh := by
  unfold rnum33s_p at hp
  refine fwalk_ok (K := (fun (rv : AV) (rh : Hp) => ∃ wk2 : AV, rv = (vq r.2.2) ∧ (r.2.2 < 18446744073709551616) ∧ (BIn G h0 wk2 r.1) ∧ Eng.Sep (Cel b (wk2 :: (vi r.2.1) :: rest) :: Frz G h0 :: R) rh)) (o := (.tell 4 (vi re) (.fork 0 .fin (.tell 3 wrb_1 (.exi 2 fun (x3 : Nat × Nat × Nat) => (.eff 0 (AV.tuple [(vq x3.1), (vi x3.2.1), (vi x3.2.2)]) h (.tell 13 wrb_1 (.tell 1 (partS wrb_1 x3.2.1 rb.length) (.again 2 (.effx 0 (fun e8 => (AV.tuple [])) (fun e8 => (.again 2 (.effx 0 (fun e10 => (AV.tuple [])) (fun e10 => .fin)))))))))))))) (p := (fun (KK : AV → Hp → Prop) => ((evQ (.loadS (.const (AV.ptr b 1))) .lf h = .ok (vi re) ∧ ((notB (eqI (Int.ofNat re) (Int.ofNat 0)) = true → KK (vq 0) h) ∧ (notB (eqI (Int.ofNat re) (Int.ofNat 0)) = false → ((evQ (.loadS (.const (AV.ptr b 0))) .lf h = .ok wrb_1 ∧ (∃ x3 : Nat × Nat × Nat, (call 133 [wrb_1, (vi 33), (AV.bool true)] h = .ok (AV.tuple [(vq x3.1), (vi x3.2.1), (vi x3.2.2)]) h ∧ ((evQ (.loadS (.const (AV.ptr b 0))) .lf h = .ok wrb_1 ∧ ((evQ (.sliceSl 1 (.const wrb_1) (some (.const (vi x3.2.1))) none none) .lf H0 = .ok (partS wrb_1 x3.2.1 rb.length) ∧ ((again (.fieldAddr 1 (.const (AV.ptr b 0))) .lf (AV.ptr b 1) h = true ∧ again (.nilCheck (.const (AV.ptr b 0))) .lf (AV.ptr b 0) h = true ∧ again (.sliceSl 1 (.const wrb_1) (some (.const (vi x3.2.1))) none none) .lf (partS wrb_1 x3.2.1 rb.length) h = true ∧ again (.move (.const (vi x3.2.1))) .lf (vi x3.2.1) h = true ∧ again (.loadS (.const (AV.ptr b 0))) .lf wrb_1 h = true ∧ again (.fieldAddr 0 (.const (AV.ptr b 0))) .lf (AV.ptr b 0) h = true ∧ again (.nilCheck (.const (AV.ptr b 0))) .lf (AV.ptr b 0) h = true ∧ again (.move (.const (AV.ptr b 0))) .lf (AV.ptr b 0) h = true ∧ again (.move (.const (vi x3.2.2))) .lf (vi x3.2.2) h = true ∧ again (.move (.const (AV.ptr b 0))) .lf (AV.ptr b 0) h = true ∧ again (.move (.const (AV.ptr b 0))) .lf (AV.ptr b 0) h = true ∧ True) ∧ (∃ e8 : Ev, evE (.store 1 (.const (AV.ptr b 1)) (.const (vi x3.2.2))) call .lf h = .ok (AV.tuple []) e8.h ∧ ((again (.fieldAddr 0 (.const (AV.ptr b 0))) .lf (AV.ptr b 0) e8.h = true ∧ again (.nilCheck (.const (AV.ptr b 0))) .lf (AV.ptr b 0) e8.h = true ∧ again (.sliceSl 1 (.const wrb_1) (some (.const (vi x3.2.1))) none none) .lf (partS wrb_1 x3.2.1 rb.length) e8.h = true ∧ again (.move (.const (vi x3.2.1))) .lf (vi x3.2.1) e8.h = true ∧ again (.move (.const (AV.ptr b 0))) .lf (AV.ptr b 0) e8.h = true ∧ True) ∧ (∃ e10 : Ev, evE (.store 1 (.const (AV.ptr b 0)) (.const (partS wrb_1 x3.2.1 rb.length))) call .lf e8.h = .ok (AV.tuple []) e10.h ∧ KK (vq x3.1) e10.h))))))))))))))))) (fun (rv : AV) (rh : Hp) => ∃ wk2 : AV, rv = (vq r.2.2) ∧ (r.2.2 < 18446744073709551616) ∧ (BIn G h0 wk2 r.1) ∧ Eng.Sep (Cel b (wk2 :: (vi r.2.1) :: rest) :: Frz G h0 :: R) rh)) (by kernel_rfl) ?_
  refine ⟨cel_load S (i := 0) rfl rfl, ?_⟩
  refine ⟨fun c1 => ?_, fun c1 => ?_⟩
  · replace c1 := eqI_f (notB_t c1)
    replace hp := ift hp c1
    obtain rfl := Option.some.inj hp
    exact ⟨wrb_1, rfl, (show 0 < 18446744073709551616 by decide), frb_2, S⟩
  replace c1 := eqI_t (notB_f c1)
  replace hp := iff0 hp (nneO c1)
  refine ⟨cel_load S (i := 0) rfl rfl, ?_⟩
  have ⟨g2, hp⟩ := gd_inv hp
  have ⟨x3, hb4, hp⟩ := ob_inv hp
  replace hb4 := Option.some.inj hb4
  have g5 : x3.1 < 18446744073709551616 := by rw [← hb4]; exact readG_lt _ _ _ _ (by decide)
  refine ⟨x3, (by rw [← hb4]; exact h_number_33_true (BIn.now S (i := 1) rfl frb_2) g2), ?_⟩
  refine ⟨cel_load S (i := 0) rfl rfl, ?_⟩
  have ⟨g6, hp⟩ := gd_inv hp
  refine ⟨q_sliceFrom (l := rb) (BIn.now S (i := 1) rfl frb_2) g6, ?_⟩
  have b7 := BIn.from (l := rb) (lo := x3.2.1) frb_2 g6
  refine ⟨⟨again_of (rfl) (avEq_ptr _ _), again_of (rfl) (avEq_ptr _ _), again_of (q_sliceFrom (l := rb) (BIn.now S (i := 1) rfl frb_2) g6) (BIn.same b7), again_of (rfl) (avEq_int _ _), again_of (cel_load S (i := 0) rfl rfl) (BIn.same frb_2), again_of (rfl) (avEq_ptr _ _), again_of (rfl) (avEq_ptr _ _), again_of (rfl) (avEq_ptr _ _), again_of (rfl) (avEq_int _ _), again_of (rfl) (avEq_ptr _ _), again_of (rfl) (avEq_ptr _ _), trivial⟩, ?_⟩
  obtain ⟨e8, qe8, se8⟩ := cel_store call S (i := 0) (o := 1) (x := (vi x3.2.2)) rfl (lb rfl) rfl
  refine ⟨e8, qe8, ?_⟩
  refine ⟨⟨again_of (rfl) (avEq_ptr _ _), again_of (rfl) (avEq_ptr _ _), again_of (q_sliceFrom (l := rb) (BIn.now S (i := 1) rfl frb_2) g6) (BIn.same b7), again_of (rfl) (avEq_int _ _), again_of (rfl) (avEq_ptr _ _), trivial⟩, ?_⟩
  obtain ⟨e10, qe10, se10⟩ := cel_store call se8 (i := 0) (o := 0) (x := (partS wrb_1 x3.2.1 rb.length)) rfl (lb rfl) (BIn.cell b7)
  refine ⟨e10, qe10, ?_⟩
  obtain rfl := Option.some.inj hp
  exact ⟨(partS wrb_1 x3.2.1 rb.length), rfl, g5, b7, se10⟩
def C_rnum33s (call : CallT) : Prop := ∀ {h : Hp} {h0 : Hp} {G : Nat → Prop} {R : List AObj} {b : Nat} {rest : List AV} {wrb_1 : AV} {rb : List Nat} {re : Nat} (frb_2 : BIn G h0 wrb_1 rb) {r : List Nat × Nat × Nat}, rnum33s_p rb re = some r → Eng.Sep (Cel b (wrb_1 :: (vi re) :: rest) :: Frz G h0 :: R) h → ∃ rv rh, call 114 [(AV.ptr b 0), (vi 33), (AV.bool true)] h = .ok rv rh ∧ ∃ wk2 : AV, rv = (vq r.2.2) ∧ (r.2.2 < 18446744073709551616) ∧ (BIn G h0 wk2 r.1) ∧ Eng.Sep (Cel b (wk2 :: (vi r.2.1) :: rest) :: Frz G h0 :: R) rh
theorem s_rnum33s (d : Nat) : C_rnum33s (CC (d + 2)) := by
  intro h h0 G R b rest wrb_1 rb re frb_2 r hp S
  rw [CC, evF_at (sumT_none rfl)]
  exact rnum33s_w (call := CC (d + 1)) (N := 100000) frb_2 (fun {B h vb l} hb hl => s_number (d + 0) 32 false (by decide) B h vb l hb hl (by decide)) (fun {B h vb l} hb hl => s_number (d + 0) 32 true (by decide) B h vb l hb hl (by decide)) (fun {B h vb l} hb hl => s_number (d + 0) 33 true (by decide) B h vb l hb hl (by decide)) (fun {B h vb l} hb hl => s_number (d + 0) 64 true (by decide) B h vb l hb hl (by decide)) hp S
noncomputable def rnum64s_p (rb : List Nat) (re : Nat) : Option (List Nat × Nat × Nat) :=
  (if re ≠ 0 then (some (rb, re, 0)) else
    (gd (rb.length < 90000) (ob (some (readG 64 true rb 0 0 0)) fun x3 =>
    (gd (x3.2.1 ≤ rb.length) (some (rb.drop x3.2.1, x3.2.2, x3.1))))))
theorem rnum64s_w {call : CallT} {N : Nat} {h : Hp} {h0 : Hp} {G : Nat → Prop} {R : List AObj} {b : Nat} {rest : List AV} {wrb_1 : AV} {rb : List Nat} {re : Nat} (frb_2 : BIn G h0 wrb_1 rb) (h_number_32_false : ∀ {B : Nat} {h : Hp} {vb : AV} {l : List Nat}, Bytes B h vb l → l.length < 90000 → call 133 [vb, .int .i64 (.ofNat 32), .bool false] h = .ok (numT .u64 (readG 32 false l 0 0 0)) h) (h_number_32_true : ∀ {B : Nat} {h : Hp} {vb : AV} {l : List Nat}, Bytes B h vb l → l.length < 90000 → call 133 [vb, .int .i64 (.ofNat 32), .bool true] h = .ok (numT .u64 (readG 32 true l 0 0 0)) h) (h_number_33_true : ∀ {B : Nat} {h : Hp} {vb : AV} {l : List Nat}, Bytes B h vb l → l.length < 90000 → call 133 [vb, .int .i64 (.ofNat 33), .bool true] h = .ok (numT .u64 (readG 33 true l 0 0 0)) h) (h_number_64_true : ∀ {B : Nat} {h : Hp} {vb : AV} {l : List Nat}, Bytes B h vb l → l.length < 90000 → call 133 [vb, .int .i64 (.ofNat 64), .bool true] h = .ok (numT .u64 (readG 64 true l 0 0 0)) h) {r : List Nat × Nat × Nat} (hp : rnum64s_p rb re = some r) (S : Eng.Sep (Cel b (wrb_1 :: (vi re) :: rest) :: Frz G h0 :: R) h) :
    ∃ rv rh, evF1 (progS Try.prog (compDrawn Try.prog)) N call 114 [(AV.ptr b 0), (vi 64), (AV.bool true)] h = .ok rv rh ∧ (fun (rv : AV) (rh : Hp) => ∃ wk2 : AV, rv = (vq r.2.2) ∧ (r.2.2 < 18446744073709551616) ∧ (BIn G h0 wk2 r.1) ∧ Eng.Sep (Cel b (wk2 :: (vi r.2.1) :: rest) :: Frz G h0 :: R) rh) rv rh := by
  unfold rnum64s_p at hp
  refine fwalk_ok (K := (fun (rv : AV) (rh : Hp) => ∃ wk2 : AV, rv = (vq r.2.2) ∧ (r.2.2 < 18446744073709551616) ∧ (BIn G h0 wk2 r.1) ∧ Eng.Sep (Cel b (wk2 :: (vi r.2.1) :: rest) :: Frz G h0 :: R) rh)) (o := (.tell 4 (vi re) (.fork 0 .fin (.tell 3 wrb_1 (.exi 2 fun (x3 : Nat × Nat × Nat) => (.eff 0 (AV.tuple [(vq x3.1), (vi x3.2.1), (vi x3.2.2)]) h (.tell 13 wrb_1 (.tell 1 (partS wrb_1 x3.2.1 rb.length) (.again 2 (.effx 0 (fun e8 => (AV.tuple [])) (fun e8 => (.again 2 (.effx 0 (fun e10 => (AV.tuple [])) (fun e10 => .fin)))))))))))))) (p := (fun (KK : AV → Hp → Prop) => ((evQ (.loadS (.const (AV.ptr b 1))) .lf h = .ok (vi re) ∧ ((notB (eqI (Int.ofNat re) (Int.ofNat 0)) = true → KK (vq 0) h) ∧ (notB (eqI (Int.ofNat re) (Int.ofNat 0)) = false → ((evQ (.loadS (.const (AV.ptr b 0))) .lf h = .ok wrb_1 ∧ (∃ x3 : Nat × Nat × Nat, (call 133 [wrb_1, (vi 64), (AV.bool true)] h = .ok (AV.tuple [(vq x3.1), (vi x3.2.1), (vi x3.2.2)]) h ∧ ((evQ (.loadS (.const (AV.ptr b 0))) .lf h = .ok wrb_1 ∧ ((evQ (.sliceSl 1 (.const wrb_1) (some (.const (vi x3.2.1))) none none) .lf H0 = .ok (partS wrb_1 x3.2.1 rb.length) ∧ ((again (.fieldAddr 1 (.const (AV.ptr b 0))) .lf (AV.ptr b 1) h = true ∧ again (.nilCheck (.const (AV.ptr b 0))) .lf (AV.ptr b 0) h = true ∧ again (.sliceSl 1 (.const wrb_1) (some (.const (vi x3.2.1))) none none) .lf (partS wrb_1 x3.2.1 rb.length) h = true ∧ again (.move (.const (vi x3.2.1))) .lf (vi x3.2.1) h = true ∧ again (.loadS (.const (AV.ptr b 0))) .lf wrb_1 h = true ∧ again (.fieldAddr 0 (.const (AV.ptr b 0))) .lf (AV.ptr b 0) h = true ∧ again (.nilCheck (.const (AV.ptr b 0))) .lf (AV.ptr b 0) h = true ∧ again (.move (.const (AV.ptr b 0))) .lf (AV.ptr b 0) h = true ∧ again (.move (.const (vi x3.2.2))) .lf (vi x3.2.2) h = true ∧ again (.move (.const (AV.ptr b 0))) .lf (AV.ptr b 0) h = true ∧ again (.move (.const (AV.ptr b 0))) .lf (AV.ptr b 0) h = true ∧ True) ∧ (∃ e8 : Ev, evE (.store 1 (.const (AV.ptr b 1)) (.const (vi x3.2.2))) call .lf h = .ok (AV.tuple []) e8.h ∧ ((again (.fieldAddr 0 (.const (AV.ptr b 0))) .lf (AV.ptr b 0) e8.h = true ∧ again (.nilCheck (.const (AV.ptr b 0))) .lf (AV.ptr b 0) e8.h = true ∧ again (.sliceSl 1 (.const wrb_1) (some (.const (vi x3.2.1))) none none) .lf (partS wrb_1 x3.2.1 rb.length) e8.h = true ∧ again (.move (.const (vi x3.2.1))) .lf (vi x3.2.1) e8.h = true ∧ again (.move (.const (AV.ptr b 0))) .lf (AV.ptr b 0) e8.h = true ∧ True) ∧ (∃ e10 : Ev, evE (.store 1 (.const (AV.ptr b 0)) (.const (partS wrb_1 x3.2.1 rb.length))) call .lf e8.h = .ok (AV.tuple []) e10.h ∧ KK (vq x3.1) e10.h))))))))))))))))) (fun (rv : AV) (rh : Hp) => ∃ wk2 : AV, rv = (vq r.2.2) ∧ (r.2.2 < 18446744073709551616) ∧ (BIn G h0 wk2 r.1) ∧ Eng.Sep (Cel b (wk2 :: (vi r.2.1) :: rest) :: Frz G h0 :: R) rh)) (by kernel_rfl) ?_
  refine ⟨cel_load S (i := 0) rfl rfl, ?_⟩
  refine ⟨fun c1 => ?_, fun c1 => ?_⟩
  · replace c1 := eqI_f (notB_t c1)
    replace hp := ift hp c1
    obtain rfl := Option.some.inj hp
    exact ⟨wrb_1, rfl, (show 0 < 18446744073709551616 by decide), frb_2, S⟩
  replace c1 := eqI_t (notB_f c1)
  replace hp := iff0 hp (nneO c1)
  refine ⟨cel_load S (i := 0) rfl rfl, ?_⟩
  have ⟨g2, hp⟩ := gd_inv hp
  have ⟨x3, hb4, hp⟩ := ob_inv hp
  replace hb4 := Option.some.inj hb4
  have g5 : x3.1 < 18446744073709551616 := by rw [← hb4]; exact readG_lt _ _ _ _ (by decide)
  refine ⟨x3, (by rw [← hb4]; exact h_number_64_true (BIn.now S (i := 1) rfl frb_2) g2), ?_⟩
  refine ⟨cel_load S (i := 0) rfl rfl, ?_⟩
  have ⟨g6, hp⟩ := gd_inv hp
  refine ⟨q_sliceFrom (l := rb) (BIn.now S (i := 1) rfl frb_2) g6, ?_⟩
  have b7 := BIn.from (l := rb) (lo := x3.2.1) frb_2 g6
  refine ⟨⟨again_of (rfl) (avEq_ptr _ _), again_of (rfl) (avEq_ptr _ _), again_of (q_sliceFrom (l := rb) (BIn.now S (i := 1) rfl frb_2) g6) (BIn.same b7), again_of (rfl) (avEq_int _ _), again_of (cel_load S (i := 0) rfl rfl) (BIn.same frb_2), again_of (rfl) (avEq_ptr _ _), again_of (rfl) (avEq_ptr _ _), again_of (rfl) (avEq_ptr _ _), again_of (rfl) (avEq_int _ _), again_of (rfl) (avEq_ptr _ _), again_of (rfl) (avEq_ptr _ _), trivial⟩, ?_⟩
  obtain ⟨e8, qe8, se8⟩ := cel_store call S (i := 0) (o := 1) (x := (vi x3.2.2)) rfl (lb rfl) rfl
  refine ⟨e8, qe8, ?_⟩
  refine ⟨⟨again_of (rfl) (avEq_ptr _ _), again_of (rfl) (avEq_ptr _ _), again_of (q_sliceFrom (l := rb) (BIn.now S (i := 1) rfl frb_2) g6) (BIn.same b7), again_of (rfl) (avEq_int _ _), again_of (rfl) (avEq_ptr _ _), trivial⟩, ?_⟩
  obtain ⟨e10, qe10, se10⟩ := cel_store call se8 (i := 0) (o := 0) (x := (partS wrb_1 x3.2.1 rb.length)) rfl (lb rfl) (BIn.cell b7)
  refine ⟨e10, qe10, ?_⟩
  obtain rfl := Option.some.inj hp
  exact ⟨(partS wrb_1 x3.2.1 rb.length), rfl, g5, b7, se10⟩
def C_rnum64s (call : CallT) : Prop := ∀ {h : Hp} {h0 : Hp} {G : Nat → Prop} {R : List AObj} {b : Nat} {rest : List AV} {wrb_1 : AV} {rb : List Nat} {re : Nat} (frb_2 : BIn G h0 wrb_1 rb) {r : List Nat × Nat × Nat}, rnum64s_p rb re = some r → Eng.Sep (Cel b (wrb_1 :: (vi re) :: rest) :: Frz G h0 :: R) h → ∃ rv rh, call 114 [(AV.ptr b 0), (vi 64), (AV.bool true)] h = .ok rv rh ∧ ∃ wk2 : AV, rv = (vq r.2.2) ∧ (r.2.2 < 18446744073709551616) ∧ (BIn G h0 wk2 r.1) ∧ Eng.Sep (Cel b (wk2 :: (vi r.2.1) :: rest) :: Frz G h0 :: R) rh
theorem s_rnum64s (d : Nat) : C_rnum64s (CC (d + 2)) := by
  intro h h0 G R b rest wrb_1 rb re frb_2 r hp S
  rw [CC, evF_at (sumT_none rfl)]
  exact rnum64s_w (call := CC (d + 1)) (N := 100000) frb_2 (fun {B h vb l} hb hl => s_number (d + 0) 32 false (by decide) B h vb l hb hl (by decide)) (fun {B h vb l} hb hl => s_number (d + 0) 32 true (by decide) B h vb l hb hl (by decide)) (fun {B h vb l} hb hl => s_number (d + 0) 33 true (by decide) B h vb l hb hl (by decide)) (fun {B h vb l} hb hl => s_number (d + 0) 64 true (by decide) B h vb l hb hl (by decide)) hp S
noncomputable def ru32_p (rb : List Nat) (re : Nat) : Option (List Nat × Nat × Nat) :=
  (ob (rnum32_p rb re) fun x1 =>
    (some (x1.1, x1.2.1, x1.2.2 % 4294967296)))
theorem ru32_w {call : CallT} {N : Nat} {h : Hp} {h0 : Hp} {G : Nat → Prop} {R : List AObj} {b : Nat} {rest : List AV} {wrb_1 : AV} {rb : List Nat} {re : Nat} (frb_2 : BIn G h0 wrb_1 rb) (h_rnum32 : C_rnum32 call) (h_rnum32s : C_rnum32s call) (h_rnum33s : C_rnum33s call) (h_rnum64s : C_rnum64s call) {r : List Nat × Nat × Nat} (hp : ru32_p rb re = some r) (S : Eng.Sep (Cel b (wrb_1 :: (vi re) :: rest) :: Frz G h0 :: R) h) :
    ∃ rv rh, evF1 (progS Try.prog (compDrawn Try.prog)) N call 84 [(AV.ptr b 0)] h = .ok rv rh ∧ (fun (rv : AV) (rh : Hp) => ∃ wk2 : AV, rv = (vw r.2.2) ∧ (r.2.2 < 4294967296) ∧ (BIn G h0 wk2 r.1) ∧ Eng.Sep (Cel b (wk2 :: (vi r.2.1) :: rest) :: Frz G h0 :: R) rh) rv rh := by
  unfold ru32_p at hp
  refine fwalk_ok (K := (fun (rv : AV) (rh : Hp) => ∃ wk2 : AV, rv = (vw r.2.2) ∧ (r.2.2 < 4294967296) ∧ (BIn G h0 wk2 r.1) ∧ Eng.Sep (Cel b (wk2 :: (vi r.2.1) :: rest) :: Frz G h0 :: R) rh)) (o := (.exi 2 fun (x1 : List Nat × Nat × Nat) => (.exi 0 fun (w11 : AV) => (.exi 0 fun (h7 : Hp) => (.eff 0 (vq x1.2.2) h7 (.tell 2 (vw (x1.2.2 % 4294967296)) .fin)))))) (p := (fun (KK : AV → Hp → Prop) => (∃ x1 : List Nat × Nat × Nat, ∃ w11 : AV, ∃ h7 : Hp, (call 114 [(AV.ptr b 0), (vi 32), (AV.bool false)] h = .ok (vq x1.2.2) h7 ∧ ((evQ (.toInt .u32 (.const (vq x1.2.2))) .lf H0 = .ok (vw (x1.2.2 % 4294967296)) ∧ KK (vw (x1.2.2 % 4294967296)) h7))))) (fun (rv : AV) (rh : Hp) => ∃ wk2 : AV, rv = (vw r.2.2) ∧ (r.2.2 < 4294967296) ∧ (BIn G h0 wk2 r.1) ∧ Eng.Sep (Cel b (wk2 :: (vi r.2.1) :: rest) :: Frz G h0 :: R) rh)) (by kernel_rfl) ?_
  have ⟨x1, hb2, hp⟩ := ob_inv hp
  obtain ⟨v6, h7, q8, w11, e9, f5, f12, S10⟩ := h_rnum32 frb_2 hb2 S
  replace e9 := e9.symm
  subst e9
  refine ⟨x1, w11, h7, q8, ?_⟩
  refine ⟨u_conv rfl, ?_⟩
  have g15 : x1.2.2 % 4294967296 < 4294967296 := Nat.mod_lt _ (by decide)
  obtain rfl := Option.some.inj hp
  exact ⟨w11, rfl, g15, f12, S10⟩
def C_ru32 (call : CallT) : Prop := ∀ {h : Hp} {h0 : Hp} {G : Nat → Prop} {R : List AObj} {b : Nat} {rest : List AV} {wrb_1 : AV} {rb : List Nat} {re : Nat} (frb_2 : BIn G h0 wrb_1 rb) {r : List Nat × Nat × Nat}, ru32_p rb re = some r → Eng.Sep (Cel b (wrb_1 :: (vi re) :: rest) :: Frz G h0 :: R) h → ∃ rv rh, call 84 [(AV.ptr b 0)] h = .ok rv rh ∧ ∃ wk2 : AV, rv = (vw r.2.2) ∧ (r.2.2 < 4294967296) ∧ (BIn G h0 wk2 r.1) ∧ Eng.Sep (Cel b (wk2 :: (vi r.2.1) :: rest) :: Frz G h0 :: R) rh
theorem s_ru32 (d : Nat) : C_ru32 (CC (d + 3)) := by
  intro h h0 G R b rest wrb_1 rb re frb_2 r hp S
  rw [CC, evF_at (sumT_none rfl)]
  exact ru32_w (call := CC (d + 2)) (N := 100000) frb_2 (s_rnum32 (d + 0)) (s_rnum32s (d + 0)) (s_rnum33s (d + 0)) (s_rnum64s (d + 0)) hp S
noncomputable def rs32_p (rb : List Nat) (re : Nat) : Option (List Nat × Nat × Nat) :=
  (ob (rnum32s_p rb re) fun x1 =>
    (some (x1.1, x1.2.1, x1.2.2 &&& 4294967295)))
theorem rs32_w {call : CallT} {N : Nat} {h : Hp} {h0 : Hp} {G : Nat → Prop} {R : List AObj} {b : Nat} {rest : List AV} {wrb_1 : AV} {rb : List Nat} {re : Nat} (frb_2 : BIn G h0 wrb_1 rb) (h_rnum32 : C_rnum32 call) (h_rnum32s : C_rnum32s call) (h_rnum33s : C_rnum33s call) (h_rnum64s : C_rnum64s call) {r : List Nat × Nat × Nat} (hp : rs32_p rb re = some r) (S : Eng.Sep (Cel b (wrb_1 :: (vi re) :: rest) :: Frz G h0 :: R) h) :
    ∃ rv rh, evF1 (progS Try.prog (compDrawn Try.prog)) N call 85 [(AV.ptr b 0)] h = .ok rv rh ∧ (fun (rv : AV) (rh : Hp) => ∃ wk2 : AV, rv = (vq r.2.2) ∧ (r.2.2 < 18446744073709551616) ∧ (BIn G h0 wk2 r.1) ∧ Eng.Sep (Cel b (wk2 :: (vi r.2.1) :: rest) :: Frz G h0 :: R) rh) rv rh := by
  unfold rs32_p at hp
  refine fwalk_ok (K := (fun (rv : AV) (rh : Hp) => ∃ wk2 : AV, rv = (vq r.2.2) ∧ (r.2.2 < 18446744073709551616) ∧ (BIn G h0 wk2 r.1) ∧ Eng.Sep (Cel b (wk2 :: (vi r.2.1) :: rest) :: Frz G h0 :: R) rh)) (o := (.exi 2 fun (x1 : List Nat × Nat × Nat) => (.exi 0 fun (w11 : AV) => (.exi 0 fun (h7 : Hp) => (.eff 0 (vq x1.2.2) h7 (.tell 0 (vq (x1.2.2 &&& 4294967295)) .fin)))))) (p := (fun (KK : AV → Hp → Prop) => (∃ x1 : List Nat × Nat × Nat, ∃ w11 : AV, ∃ h7 : Hp, (call 114 [(AV.ptr b 0), (vi 32), (AV.bool true)] h = .ok (vq x1.2.2) h7 ∧ ((evQ (.bin .and (.const (vq x1.2.2)) (.const (vq 4294967295))) .lf H0 = .ok (vq (x1.2.2 &&& 4294967295)) ∧ KK (vq (x1.2.2 &&& 4294967295)) h7))))) (fun (rv : AV) (rh : Hp) => ∃ wk2 : AV, rv = (vq r.2.2) ∧ (r.2.2 < 18446744073709551616) ∧ (BIn G h0 wk2 r.1) ∧ Eng.Sep (Cel b (wk2 :: (vi r.2.1) :: rest) :: Frz G h0 :: R) rh)) (by kernel_rfl) ?_
  have ⟨x1, hb2, hp⟩ := ob_inv hp
  obtain ⟨v6, h7, q8, w11, e9, f5, f12, S10⟩ := h_rnum32s frb_2 hb2 S
  replace e9 := e9.symm
  subst e9
  refine ⟨x1, w11, h7, q8, ?_⟩
  refine ⟨u_and rfl f5 (show 4294967295 < 18446744073709551616 by decide), ?_⟩
  have g15 : x1.2.2 &&& 4294967295 < 18446744073709551616 := Nat.lt_of_le_of_lt Nat.and_le_left f5
  obtain rfl := Option.some.inj hp
  exact ⟨w11, rfl, g15, f12, S10⟩
def C_rs32 (call : CallT) : Prop := ∀ {h : Hp} {h0 : Hp} {G : Nat → Prop} {R : List AObj} {b : Nat} {rest : List AV} {wrb_1 : AV} {rb : List Nat} {re : Nat} (frb_2 : BIn G h0 wrb_1 rb) {r : List Nat × Nat × Nat}, rs32_p rb re = some r → Eng.Sep (Cel b (wrb_1 :: (vi re) :: rest) :: Frz G h0 :: R) h → ∃ rv rh, call 85 [(AV.ptr b 0)] h = .ok rv rh ∧ ∃ wk2 : AV, rv = (vq r.2.2) ∧ (r.2.2 < 18446744073709551616) ∧ (BIn G h0 wk2 r.1) ∧ Eng.Sep (Cel b (wk2 :: (vi r.2.1) :: rest) :: Frz G h0 :: R) rh
theorem s_rs32 (d : Nat) : C_rs32 (CC (d + 3)) := by
  intro h h0 G R b rest wrb_1 rb re frb_2 r hp S
  rw [CC, evF_at (sumT_none rfl)]
  exact rs32_w (call := CC (d + 2)) (N := 100000) frb_2 (s_rnum32 (d + 0)) (s_rnum32s (d + 0)) (s_rnum33s (d + 0)) (s_rnum64s (d + 0)) hp S
noncomputable def rs64_p (rb : List Nat) (re : Nat) : Option (List Nat × Nat × Nat) :=
  (ob (rnum64s_p rb re) fun x1 =>
    (some (x1.1, x1.2.1, x1.2.2)))
theorem rs64_w {call : CallT} {N : Nat} {h : Hp} {h0 : Hp} {G : Nat → Prop} {R : List AObj} {b : Nat} {rest : List AV} {wrb_1 : AV} {rb : List Nat} {re : Nat} (frb_2 : BIn G h0 wrb_1 rb) (h_rnum32 : C_rnum32 call) (h_rnum32s : C_rnum32s call) (h_rnum33s : C_rnum33s call) (h_rnum64s : C_rnum64s call) {r : List Nat × Nat × Nat} (hp : rs64_p rb re = some r) (S : Eng.Sep (Cel b (wrb_1 :: (vi re) :: rest) :: Frz G h0 :: R) h) :
    ∃ rv rh, evF1 (progS Try.prog (compDrawn Try.prog)) N call 86 [(AV.ptr b 0)] h = .ok rv rh ∧ (fun (rv : AV) (rh : Hp) => ∃ wk2 : AV, rv = (vq r.2.2) ∧ (r.2.2 < 18446744073709551616) ∧ (BIn G h0 wk2 r.1) ∧ Eng.Sep (Cel b (wk2 :: (vi r.2.1) :: rest) :: Frz G h0 :: R) rh) rv rh := by
  unfold rs64_p at hp
  refine fwalk_ok (K := (fun (rv : AV) (rh : Hp) => ∃ wk2 : AV, rv = (vq r.2.2) ∧ (r.2.2 < 18446744073709551616) ∧ (BIn G h0 wk2 r.1) ∧ Eng.Sep (Cel b (wk2 :: (vi r.2.1) :: rest) :: Frz G h0 :: R) rh)) (o := (.exi 2 fun (x1 : List Nat × Nat × Nat) => (.exi 0 fun (w11 : AV) => (.exi 0 fun (h7 : Hp) => (.eff 0 (vq x1.2.2) h7 .fin))))) (p := (fun (KK : AV → Hp → Prop) => (∃ x1 : List Nat × Nat × Nat, ∃ w11 : AV, ∃ h7 : Hp, (call 114 [(AV.ptr b 0), (vi 64), (AV.bool true)] h = .ok (vq x1.2.2) h7 ∧ KK (vq x1.2.2) h7))) (fun (rv : AV) (rh : Hp) => ∃ wk2 : AV, rv = (vq r.2.2) ∧ (r.2.2 < 18446744073709551616) ∧ (BIn G h0 wk2 r.1) ∧ Eng.Sep (Cel b (wk2 :: (vi r.2.1) :: rest) :: Frz G h0 :: R) rh)) (by kernel_rfl) ?_
  have ⟨x1, hb2, hp⟩ := ob_inv hp
  obtain ⟨v6, h7, q8, w11, e9, f5, f12, S10⟩ := h_rnum64s frb_2 hb2 S
  replace e9 := e9.symm
  subst e9
  refine ⟨x1, w11, h7, q8, ?_⟩
  obtain rfl := Option.some.inj hp
  exact ⟨w11, rfl, f5, f12, S10⟩
def C_rs64 (call : CallT) : Prop := ∀ {h : Hp} {h0 : Hp} {G : Nat → Prop} {R : List AObj} {b : Nat} {rest : List AV} {wrb_1 : AV} {rb : List Nat} {re : Nat} (frb_2 : BIn G h0 wrb_1 rb) {r : List Nat × Nat × Nat}, rs64_p rb re = some r → Eng.Sep (Cel b (wrb_1 :: (vi re) :: rest) :: Frz G h0 :: R) h → ∃ rv rh, call 86 [(AV.ptr b 0)] h = .ok rv rh ∧ ∃ wk2 : AV, rv = (vq r.2.2) ∧ (r.2.2 < 18446744073709551616) ∧ (BIn G h0 wk2 r.1) ∧ Eng.Sep (Cel b (wk2 :: (vi r.2.1) :: rest) :: Frz G h0 :: R) rh
theorem s_rs64 (d : Nat) : C_rs64 (CC (d + 3)) := by
  intro h h0 G R b rest wrb_1 rb re frb_2 r hp S
  rw [CC, evF_at (sumT_none rfl)]
  exact rs64_w (call := CC (d + 2)) (N := 100000) frb_2 (s_rnum32 (d + 0)) (s_rnum32s (d + 0)) (s_rnum33s (d + 0)) (s_rnum64s (d + 0)) hp S
noncomputable def rs33_p (rb : List Nat) (re : Nat) : Option (List Nat × Nat × Int) :=
  (ob (rnum33s_p rb re) fun x1 =>
    (some (x1.1, x1.2.1, wrapA .i64 (Int.ofNat x1.2.2))))
theorem rs33_w {call : CallT} {N : Nat} {h : Hp} {h0 : Hp} {G : Nat → Prop} {R : List AObj} {b : Nat} {rest : List AV} {wrb_1 : AV} {rb : List Nat} {re : Nat} (frb_2 : BIn G h0 wrb_1 rb) (h_rnum32 : C_rnum32 call) (h_rnum32s : C_rnum32s call) (h_rnum33s : C_rnum33s call) (h_rnum64s : C_rnum64s call) {r : List Nat × Nat × Int} (hp : rs33_p rb re = some r) (S : Eng.Sep (Cel b (wrb_1 :: (vi re) :: rest) :: Frz G h0 :: R) h) :
    ∃ rv rh, evF1 (progS Try.prog (compDrawn Try.prog)) N call 116 [(AV.ptr b 0)] h = .ok rv rh ∧ (fun (rv : AV) (rh : Hp) => ∃ wk1 : AV, rv = (AV.int .i64 r.2.2) ∧ (BIn G h0 wk1 r.1) ∧ Eng.Sep (Cel b (wk1 :: (vi r.2.1) :: rest) :: Frz G h0 :: R) rh) rv rh := by
  unfold rs33_p at hp
  refine fwalk_ok (K := (fun (rv : AV) (rh : Hp) => ∃ wk1 : AV, rv = (AV.int .i64 r.2.2) ∧ (BIn G h0 wk1 r.1) ∧ Eng.Sep (Cel b (wk1 :: (vi r.2.1) :: rest) :: Frz G h0 :: R) rh)) (o := (.exi 2 fun (x1 : List Nat × Nat × Nat) => (.exi 0 fun (w11 : AV) => (.exi 0 fun (h7 : Hp) => (.eff 0 (vq x1.2.2) h7 .fin))))) (p := (fun (KK : AV → Hp → Prop) => (∃ x1 : List Nat × Nat × Nat, ∃ w11 : AV, ∃ h7 : Hp, (call 114 [(AV.ptr b 0), (vi 33), (AV.bool true)] h = .ok (vq x1.2.2) h7 ∧ KK (AV.int .i64 (wrapA .i64 (Int.ofNat x1.2.2))) h7))) (fun (rv : AV) (rh : Hp) => ∃ wk1 : AV, rv = (AV.int .i64 r.2.2) ∧ (BIn G h0 wk1 r.1) ∧ Eng.Sep (Cel b (wk1 :: (vi r.2.1) :: rest) :: Frz G h0 :: R) rh)) (by kernel_rfl) ?_
  have ⟨x1, hb2, hp⟩ := ob_inv hp
  obtain ⟨v6, h7, q8, w11, e9, f5, f12, S10⟩ := h_rnum33s frb_2 hb2 S
  replace e9 := e9.symm
  subst e9
  refine ⟨x1, w11, h7, q8, ?_⟩
  obtain rfl := Option.some.inj hp
  exact ⟨w11, rfl, f12, S10⟩
def C_rs33 (call : CallT) : Prop := ∀ {h : Hp} {h0 : Hp} {G : Nat → Prop} {R : List AObj} {b : Nat} {rest : List AV} {wrb_1 : AV} {rb : List Nat} {re : Nat} (frb_2 : BIn G h0 wrb_1 rb) {r : List Nat × Nat × Int}, rs33_p rb re = some r → Eng.Sep (Cel b (wrb_1 :: (vi re) :: rest) :: Frz G h0 :: R) h → ∃ rv rh, call 116 [(AV.ptr b 0)] h = .ok rv rh ∧ ∃ wk1 : AV, rv = (AV.int .i64 r.2.2) ∧ (BIn G h0 wk1 r.1) ∧ Eng.Sep (Cel b (wk1 :: (vi r.2.1) :: rest) :: Frz G h0 :: R) rh
theorem s_rs33 (d : Nat) : C_rs33 (CC (d + 3)) := by
  intro h h0 G R b rest wrb_1 rb re frb_2 r hp S
  rw [CC, evF_at (sumT_none rfl)]
  exact rs33_w (call := CC (d + 2)) (N := 100000) frb_2 (s_rnum32 (d + 0)) (s_rnum32s (d + 0)) (s_rnum33s (d + 0)) (s_rnum64s (d + 0)) hp S
noncomputable def rvalue_p (rb : List Nat) (re : Nat) : Option (List Nat × Nat × Nat) :=
  (ob (rbyte_p rb re) fun x1 =>
    (if x1.2.1 = 0 then (ob (rvalue0_p x1.2.2) fun x16 =>
    (ob (rfail_p x1.1 x1.2.1 x16.2) fun x27 =>
    (some (x27.1, x27.2, x1.2.2)))) else
    (some (x1.1, x1.2.1, x1.2.2))))
theorem rvalue_w {call : CallT} {N : Nat} {h : Hp} {h0 : Hp} {G : Nat → Prop} {R : List AObj} {b : Nat} {rest : List AV} {wrb_1 : AV} {rb : List Nat} {re : Nat} (frb_2 : BIn G h0 wrb_1 rb) (h_rfail : C_rfail call) (h_rbyte : C_rbyte call) (h_rvalue0 : C_rvalue0 call) {r : List Nat × Nat × Nat} (hp : rvalue_p rb re = some r) (S : Eng.Sep (Cel b (wrb_1 :: (vi re) :: rest) :: Frz G h0 :: R) h) :
    ∃ rv rh, evF1 (progS Try.prog (compDrawn Try.prog)) N call 88 [(AV.ptr b 0)] h = .ok rv rh ∧ (fun (rv : AV) (rh : Hp) => ∃ wk2 : AV, rv = (vb8 r.2.2) ∧ (r.2.2 < 256) ∧ (BIn G h0 wk2 r.1) ∧ Eng.Sep (Cel b (wk2 :: (vi r.2.1) :: rest) :: Frz G h0 :: R) rh) rv rh := by
  unfold rvalue_p at hp
  refine fwalk_ok (K := (fun (rv : AV) (rh : Hp) => ∃ wk2 : AV, rv = (vb8 r.2.2) ∧ (r.2.2 < 256) ∧ (BIn G h0 wk2 r.1) ∧ Eng.Sep (Cel b (wk2 :: (vi r.2.1) :: rest) :: Frz G h0 :: R) rh)) (o := (.exi 2 fun (x1 : List Nat × Nat × Nat) => (.exi 0 fun (w11 : AV) => (.exi 0 fun (h7 : Hp) => (.eff 0 (vb8 x1.2.2) h7 (.tell 4 (vi x1.2.1) (.fork 0 (.exi 1 fun (x16 : Bool × Nat) => (.exi 0 fun (h21 : Hp) => (.eff 0 (AV.tuple [(AV.bool x16.1), (vi x16.2)]) h21 (.exi 7 fun (x27 : List Nat × Nat) => (.exi 0 fun (w36 : AV) => (.exi 0 fun (h32 : Hp) => (.eff 0 (AV.tuple []) h32 .fin))))))) .fin))))))) (p := (fun (KK : AV → Hp → Prop) => (∃ x1 : List Nat × Nat × Nat, ∃ w11 : AV, ∃ h7 : Hp, (call 113 [(AV.ptr b 0)] h = .ok (vb8 x1.2.2) h7 ∧ ((evQ (.loadS (.const (AV.ptr b 1))) .lf h7 = .ok (vi x1.2.1) ∧ ((eqI (Int.ofNat x1.2.1) (Int.ofNat 0) = true → (∃ x16 : Bool × Nat, ∃ h21 : Hp, (call 115 [(vb8 x1.2.2)] h7 = .ok (AV.tuple [(AV.bool x16.1), (vi x16.2)]) h21 ∧ (∃ x27 : List Nat × Nat, ∃ w36 : AV, ∃ h32 : Hp, (call 52 [(AV.ptr b 0), (vi x16.2)] h21 = .ok (AV.tuple []) h32 ∧ KK (vb8 x1.2.2) h32))))) ∧ (eqI (Int.ofNat x1.2.1) (Int.ofNat 0) = false → KK (vb8 x1.2.2) h7))))))) (fun (rv : AV) (rh : Hp) => ∃ wk2 : AV, rv = (vb8 r.2.2) ∧ (r.2.2 < 256) ∧ (BIn G h0 wk2 r.1) ∧ Eng.Sep (Cel b (wk2 :: (vi r.2.1) :: rest) :: Frz G h0 :: R) rh)) (by kernel_rfl) ?_
  have ⟨x1, hb2, hp⟩ := ob_inv hp
  obtain ⟨v6, h7, q8, w11, e9, f5, f12, S10⟩ := h_rbyte frb_2 hb2 S
  replace e9 := e9.symm
  subst e9
  refine ⟨x1, w11, h7, q8, ?_⟩
  refine ⟨cel_load S10 (i := 0) rfl rfl, ?_⟩
  refine ⟨fun c15 => ?_, fun c15 => ?_⟩
  · replace c15 := eqI_t c15
    replace hp := ift hp c15
    have ⟨x16, hb17, hp⟩ := ob_inv hp
    obtain ⟨v20, h21, q22, e23, S24⟩ := h_rvalue0 f5 hb17
    replace e23 := e23.symm
    subst e23
    have S26 := Sep.call S10 (news := []) S24
    refine ⟨x16, h21, q22, ?_⟩
    have ⟨x27, hb28, hp⟩ := ob_inv hp
    obtain ⟨v31, h32, q33, w36, e34, f37, S35⟩ := h_rfail f12 hb28 S26
    replace e34 := e34.symm
    subst e34
    refine ⟨x27, w36, h32, q33, ?_⟩
    obtain rfl := Option.some.inj hp
    exact ⟨w36, rfl, f5, f37, S35⟩
  replace c15 := eqI_f c15
  replace hp := iff0 hp (c15)
  obtain rfl := Option.some.inj hp
  exact ⟨w11, rfl, f5, f12, S10⟩
def C_rvalue (call : CallT) : Prop := ∀ {h : Hp} {h0 : Hp} {G : Nat → Prop} {R : List AObj} {b : Nat} {rest : List AV} {wrb_1 : AV} {rb : List Nat} {re : Nat} (frb_2 : BIn G h0 wrb_1 rb) {r : List Nat × Nat × Nat}, rvalue_p rb re = some r → Eng.Sep (Cel b (wrb_1 :: (vi re) :: rest) :: Frz G h0 :: R) h → ∃ rv rh, call 88 [(AV.ptr b 0)] h = .ok rv rh ∧ ∃ wk2 : AV, rv = (vb8 r.2.2) ∧ (r.2.2 < 256) ∧ (BIn G h0 wk2 r.1) ∧ Eng.Sep (Cel b (wk2 :: (vi r.2.1) :: rest) :: Frz G h0 :: R) rh
theorem s_rvalue (d : Nat) : C_rvalue (CC (d + 2)) := by
  intro h h0 G R b rest wrb_1 rb re frb_2 r hp S
  rw [CC, evF_at (sumT_none rfl)]
  exact rvalue_w (call := CC (d + 1)) (N := 100000) frb_2 (s_rfail (d + 0)) (s_rbyte (d + 0)) (s_rvalue0 (d + 0)) hp S
end Go.Proofs.Ytpelnanckmjoaaa
end
section
set_option linter.unusedVariables false
namespace Go.Proofs.Ytpelnanckmjoaaa
set_option linter.unusedVariables false
set_option linter.unusedSimpArgs false
open Go Eng
noncomputable def rzero_p (rb : List Nat) (re : Nat) : Option (List Nat × Nat) :=
  (ob (rbyte_p rb re) fun x1 =>
    (if x1.2.2 ≠ 0 then (ob (rfail_p x1.1 x1.2.1 2) fun x16 =>
    (some (x16.1, x16.2))) else
    (some (x1.1, x1.2.1))))
theorem rzero_w {call : CallT} {N : Nat} {h : Hp} {h0 : Hp} {G : Nat → Prop} {R : List AObj} {b : Nat} {rest : List AV} {wrb_1 : AV} {rb : List Nat} {re : Nat} (frb_2 : BIn G h0 wrb_1 rb) (h_rfail : C_rfail call) (h_rbyte : C_rbyte call) {r : List Nat × Nat} (hp : rzero_p rb re = some r) (S : Eng.Sep (Cel b (wrb_1 :: (vi re) :: rest) :: Frz G h0 :: R) h) :
    ∃ rv rh, evF1 (progS Try.prog (compDrawn Try.prog)) N call 83 [(AV.ptr b 0)] h = .ok rv rh ∧ (fun (rv : AV) (rh : Hp) => ∃ wk1 : AV, rv = (AV.tuple []) ∧ (BIn G h0 wk1 r.1) ∧ Eng.Sep (Cel b (wk1 :: (vi r.2) :: rest) :: Frz G h0 :: R) rh) rv rh := by
  unfold rzero_p at hp
  refine fwalk_ok (K := (fun (rv : AV) (rh : Hp) => ∃ wk1 : AV, rv = (AV.tuple []) ∧ (BIn G h0 wk1 r.1) ∧ Eng.Sep (Cel b (wk1 :: (vi r.2) :: rest) :: Frz G h0 :: R) rh)) (o := (.exi 3 fun (x1 : List Nat × Nat × Nat) => (.exi 0 fun (w11 : AV) => (.exi 0 fun (h7 : Hp) => (.eff 0 (vb8 x1.2.2) h7 (.fork 0 (.exi 3 fun (x16 : List Nat × Nat) => (.exi 0 fun (w25 : AV) => (.exi 0 fun (h21 : Hp) => (.eff 0 (AV.tuple []) h21 .fin)))) .fin)))))) (p := (fun (KK : AV → Hp → Prop) => (∃ x1 : List Nat × Nat × Nat, ∃ w11 : AV, ∃ h7 : Hp, (call 113 [(AV.ptr b 0)] h = .ok (vb8 x1.2.2) h7 ∧ ((notB (eqI (Int.ofNat x1.2.2) (Int.ofNat 0)) = true → (∃ x16 : List Nat × Nat, ∃ w25 : AV, ∃ h21 : Hp, (call 52 [(AV.ptr b 0), (vi 2)] h7 = .ok (AV.tuple []) h21 ∧ KK (AV.tuple []) h21))) ∧ (notB (eqI (Int.ofNat x1.2.2) (Int.ofNat 0)) = false → KK (AV.tuple []) h7))))) (fun (rv : AV) (rh : Hp) => ∃ wk1 : AV, rv = (AV.tuple []) ∧ (BIn G h0 wk1 r.1) ∧ Eng.Sep (Cel b (wk1 :: (vi r.2) :: rest) :: Frz G h0 :: R) rh)) (by kernel_rfl) ?_
  have ⟨x1, hb2, hp⟩ := ob_inv hp
  obtain ⟨v6, h7, q8, w11, e9, f5, f12, S10⟩ := h_rbyte frb_2 hb2 S
  replace e9 := e9.symm
  subst e9
  refine ⟨x1, w11, h7, q8, ?_⟩
  refine ⟨fun c15 => ?_, fun c15 => ?_⟩
  · replace c15 := eqI_f (notB_t c15)
    replace hp := ift hp c15
    have ⟨x16, hb17, hp⟩ := ob_inv hp
    obtain ⟨v20, h21, q22, w25, e23, f26, S24⟩ := h_rfail f12 hb17 S10
    replace e23 := e23.symm
    subst e23
    refine ⟨x16, w25, h21, q22, ?_⟩
    obtain rfl := Option.some.inj hp
    exact ⟨w25, rfl, f26, S24⟩
  replace c15 := eqI_t (notB_f c15)
  replace hp := iff0 hp (nneO c15)
  obtain rfl := Option.some.inj hp
  exact ⟨w11, rfl, f12, S10⟩
def C_rzero (call : CallT) : Prop := ∀ {h : Hp} {h0 : Hp} {G : Nat → Prop} {R : List AObj} {b : Nat} {rest : List AV} {wrb_1 : AV} {rb : List Nat} {re : Nat} (frb_2 : BIn G h0 wrb_1 rb) {r : List Nat × Nat}, rzero_p rb re = some r → Eng.Sep (Cel b (wrb_1 :: (vi re) :: rest) :: Frz G h0 :: R) h → ∃ rv rh, call 83 [(AV.ptr b 0)] h = .ok rv rh ∧ ∃ wk1 : AV, rv = (AV.tuple []) ∧ (BIn G h0 wk1 r.1) ∧ Eng.Sep (Cel b (wk1 :: (vi r.2) :: rest) :: Frz G h0 :: R) rh
theorem s_rzero (d : Nat) : C_rzero (CC (d + 2)) := by
  intro h h0 G R b rest wrb_1 rb re frb_2 r hp S
  rw [CC, evF_at (sumT_none rfl)]
  exact rzero_w (call := CC (d + 1)) (N := 100000) frb_2 (s_rfail (d + 0)) (s_rbyte (d + 0)) hp S
noncomputable def rblock_p (rb : List Nat) (re : Nat) : Option (List Nat × Nat × Int) :=
  (if re = 0 then (if rb.length = 0 then (ob (rfail_p rb re 3) fun x3 =>
    (if x3.2 ≠ 0 then (some (x3.1, x3.2, (0 : Int))) else
    (gd (0 < x3.1.length) (ob (rvalue0_p (x3.1.getD 0 0)) fun x19 =>
    (if x3.1.getD 0 0 = 64 then (ob (rbyte_p x3.1 x3.2) fun x31 =>
    (some (x31.1, x31.2.1, wrapA .i64 (Int.sub (Int.ofNat (x3.1.getD 0 0)) (Int.ofNat 128))))) else
    (if x19.1 = true then (ob (rbyte_p x3.1 x3.2) fun x32 =>
    (some (x32.1, x32.2.1, wrapA .i64 (Int.sub (Int.ofNat (x3.1.getD 0 0)) (Int.ofNat 128))))) else
    (if x19.2 = 5 then (ob (rfail_p x3.1 x3.2 x19.2) fun x33 =>
    (some (x33.1, x33.2, (0 : Int)))) else
    (ob (rs33_p x3.1 x3.2) fun x33 =>
    (if x33.2.2 < 0 then (ob (rfail_p x33.1 x33.2.1 2) fun x47 =>
    (some (x47.1, x47.2, x33.2.2))) else
    (some (x33.1, x33.2.1, x33.2.2))))))))))) else
    (gd (0 < rb.length) (ob (rvalue0_p (rb.getD 0 0)) fun x5 =>
    (if rb.getD 0 0 = 64 then (ob (rbyte_p rb re) fun x17 =>
    (some (x17.1, x17.2.1, wrapA .i64 (Int.sub (Int.ofNat (rb.getD 0 0)) (Int.ofNat 128))))) else
    (if x5.1 = true then (ob (rbyte_p rb re) fun x18 =>
    (some (x18.1, x18.2.1, wrapA .i64 (Int.sub (Int.ofNat (rb.getD 0 0)) (Int.ofNat 128))))) else
    (if x5.2 = 5 then (ob (rfail_p rb re x5.2) fun x19 =>
    (some (x19.1, x19.2, (0 : Int)))) else
    (ob (rs33_p rb re) fun x19 =>
    (if x19.2.2 < 0 then (ob (rfail_p x19.1 x19.2.1 2) fun x33 =>
    (some (x33.1, x33.2, x19.2.2))) else
    (some (x19.1, x19.2.1, x19.2.2)))))))))) else
    (some (rb, re, (0 : Int))))
theorem rblock_w {call : CallT} {N : Nat} {h : Hp} {h0 : Hp} {G : Nat → Prop} {R : List AObj} {b : Nat} {rest : List AV} {wrb_1 : AV} {rb : List Nat} {re : Nat} (frb_2 : BIn G h0 wrb_1 rb) (h_rfail : C_rfail call) (h_rbyte : C_rbyte call) (h_rvalue0 : C_rvalue0 call) (h_rs33 : C_rs33 call) {r : List Nat × Nat × Int} (hp : rblock_p rb re = some r) (S : Eng.Sep (Cel b (wrb_1 :: (vi re) :: rest) :: Frz G h0 :: R) h) :
    ∃ rv rh, evF1 (progS Try.prog (compDrawn Try.prog)) N call 87 [(AV.ptr b 0)] h = .ok rv rh ∧ (fun (rv : AV) (rh : Hp) => ∃ wk1 : AV, rv = (AV.int .i64 r.2.2) ∧ (BIn G h0 wk1 r.1) ∧ Eng.Sep (Cel b (wk1 :: (vi r.2.1) :: rest) :: Frz G h0 :: R) rh) rv rh := by
  unfold rblock_p at hp
  refine fwalk_ok (K := (fun (rv : AV) (rh : Hp) => ∃ wk1 : AV, rv = (AV.int .i64 r.2.2) ∧ (BIn G h0 wk1 r.1) ∧ Eng.Sep (Cel b (wk1 :: (vi r.2.1) :: rest) :: Frz G h0 :: R) rh)) (o := (.tell 5 (vi re) (.fork 1 (.tell 4 wrb_1 (.tell 0 (vi rb.length) (.fork 1 (.exi 3 fun (x3 : List Nat × Nat) => (.exi 0 fun (w12 : AV) => (.exi 0 fun (h8 : Hp) => (.eff 0 (AV.tuple []) h8 (.tell 4 (vi x3.2) (.fork 0 .fin (.tell 4 w12 (.tell 0 (elemP w12 0 1) (.tell 0 (vb8 (x3.1.getD 0 0)) (.exi 2 fun (x19 : Bool × Nat) => (.exi 0 fun (h24 : Hp) => (.eff 0 (AV.tuple [(AV.bool x19.1), (vi x19.2)]) h24 (.fork 7 (.exi 4 fun (x31 : List Nat × Nat × Nat) => (.exi 0 fun (w41 : AV) => (.exi 0 fun (h37 : Hp) => (.eff 0 (vb8 x31.2.2) h37 (.tell 1 (vi (x3.1.getD 0 0)) .fin))))) (.fork 1 (.exi 3 fun (x32 : List Nat × Nat × Nat) => (.exi 0 fun (w42 : AV) => (.exi 0 fun (h38 : Hp) => (.eff 0 (vb8 x32.2.2) h38 (.tell 1 (vi (x3.1.getD 0 0)) .fin))))) (.fork 1 (.exi 4 fun (x33 : List Nat × Nat) => (.exi 0 fun (w42 : AV) => (.exi 0 fun (h38 : Hp) => (.eff 0 (AV.tuple []) h38 .fin)))) (.exi 3 fun (x33 : List Nat × Nat × Int) => (.exi 0 fun (w42 : AV) => (.exi 0 fun (h38 : Hp) => (.eff 0 (AV.int .i64 x33.2.2) h38 (.fork 2 (.exi 3 fun (x47 : List Nat × Nat) => (.exi 0 fun (w56 : AV) => (.exi 0 fun (h52 : Hp) => (.eff 0 (AV.tuple []) h52 .fin)))) .fin)))))))))))))))))))) (.tell 4 (vi re) (.tell 0 (AV.bool false) (.tell 4 wrb_1 (.tell 0 (elemP wrb_1 0 1) (.tell 0 (vb8 (rb.getD 0 0)) (.exi 2 fun (x5 : Bool × Nat) => (.exi 0 fun (h10 : Hp) => (.eff 0 (AV.tuple [(AV.bool x5.1), (vi x5.2)]) h10 (.fork 7 (.exi 4 fun (x17 : List Nat × Nat × Nat) => (.exi 0 fun (w27 : AV) => (.exi 0 fun (h23 : Hp) => (.eff 0 (vb8 x17.2.2) h23 (.tell 1 (vi (rb.getD 0 0)) .fin))))) (.fork 1 (.exi 3 fun (x18 : List Nat × Nat × Nat) => (.exi 0 fun (w28 : AV) => (.exi 0 fun (h24 : Hp) => (.eff 0 (vb8 x18.2.2) h24 (.tell 1 (vi (rb.getD 0 0)) .fin))))) (.fork 1 (.exi 4 fun (x19 : List Nat × Nat) => (.exi 0 fun (w28 : AV) => (.exi 0 fun (h24 : Hp) => (.eff 0 (AV.tuple []) h24 .fin)))) (.exi 3 fun (x19 : List Nat × Nat × Int) => (.exi 0 fun (w28 : AV) => (.exi 0 fun (h24 : Hp) => (.eff 0 (AV.int .i64 x19.2.2) h24 (.fork 2 (.exi 3 fun (x33 : List Nat × Nat) => (.exi 0 fun (w42 : AV) => (.exi 0 fun (h38 : Hp) => (.eff 0 (AV.tuple []) h38 .fin)))) .fin))))))))))))))))))) (.tell 5 (vi re) (.tell 0 (AV.bool true) .fin))))) (p := (fun (KK : AV → Hp → Prop) => ((evQ (.loadS (.const (AV.ptr b 1))) .lf h = .ok (vi re) ∧ ((eqI (Int.ofNat re) (Int.ofNat 0) = true → ((evQ (.loadS (.const (AV.ptr b 0))) .lf h = .ok wrb_1 ∧ ((evQ (.lenL (.const wrb_1)) .lf H0 = .ok (vi rb.length) ∧ ((eqI (Int.ofNat rb.length) (Int.ofNat 0) = true → (∃ x3 : List Nat × Nat, ∃ w12 : AV, ∃ h8 : Hp, (call 52 [(AV.ptr b 0), (vi 3)] h = .ok (AV.tuple []) h8 ∧ ((evQ (.loadS (.const (AV.ptr b 1))) .lf h8 = .ok (vi x3.2) ∧ ((notB (eqI (Int.ofNat x3.2) (Int.ofNat 0)) = true → KK (vi 0) h8) ∧ (notB (eqI (Int.ofNat x3.2) (Int.ofNat 0)) = false → ((evQ (.loadS (.const (AV.ptr b 0))) .lf h8 = .ok w12 ∧ ((evQ (.idxAddrSl 1 (.const w12) (.const (vi 0))) .lf H0 = .ok (elemP w12 0 1) ∧ ((evQ (.loadS (.const (elemP w12 0 1))) .lf h8 = .ok (vb8 (x3.1.getD 0 0)) ∧ (∃ x19 : Bool × Nat, ∃ h24 : Hp, (call 115 [(vb8 (x3.1.getD 0 0))] h8 = .ok (AV.tuple [(AV.bool x19.1), (vi x19.2)]) h24 ∧ ((eqI (Int.ofNat (x3.1.getD 0 0)) (Int.ofNat 64) = true → (∃ x31 : List Nat × Nat × Nat, ∃ w41 : AV, ∃ h37 : Hp, (call 113 [(AV.ptr b 0)] h24 = .ok (vb8 x31.2.2) h37 ∧ ((evQ (.toInt .i64 (.const (vb8 (x3.1.getD 0 0)))) .lf H0 = .ok (vi (x3.1.getD 0 0)) ∧ KK (AV.int .i64 (wrapA .i64 (Int.sub (Int.ofNat (x3.1.getD 0 0)) (Int.ofNat 128)))) h37))))) ∧ (eqI (Int.ofNat (x3.1.getD 0 0)) (Int.ofNat 64) = false → ((x19.1 = true → (∃ x32 : List Nat × Nat × Nat, ∃ w42 : AV, ∃ h38 : Hp, (call 113 [(AV.ptr b 0)] h24 = .ok (vb8 x32.2.2) h38 ∧ ((evQ (.toInt .i64 (.const (vb8 (x3.1.getD 0 0)))) .lf H0 = .ok (vi (x3.1.getD 0 0)) ∧ KK (AV.int .i64 (wrapA .i64 (Int.sub (Int.ofNat (x3.1.getD 0 0)) (Int.ofNat 128)))) h38))))) ∧ (x19.1 = false → ((eqI (Int.ofNat x19.2) (Int.ofNat 5) = true → (∃ x33 : List Nat × Nat, ∃ w42 : AV, ∃ h38 : Hp, (call 52 [(AV.ptr b 0), (vi x19.2)] h24 = .ok (AV.tuple []) h38 ∧ KK (vi 0) h38))) ∧ (eqI (Int.ofNat x19.2) (Int.ofNat 5) = false → (∃ x33 : List Nat × Nat × Int, ∃ w42 : AV, ∃ h38 : Hp, (call 116 [(AV.ptr b 0)] h24 = .ok (AV.int .i64 x33.2.2) h38 ∧ ((ltI x33.2.2 (Int.ofNat 0) = true → (∃ x47 : List Nat × Nat, ∃ w56 : AV, ∃ h52 : Hp, (call 52 [(AV.ptr b 0), (vi 2)] h38 = .ok (AV.tuple []) h52 ∧ KK (AV.int .i64 x33.2.2) h52))) ∧ (ltI x33.2.2 (Int.ofNat 0) = false → KK (AV.int .i64 x33.2.2) h38))))))))))))))))))))))))) ∧ (eqI (Int.ofNat rb.length) (Int.ofNat 0) = false → ((evQ (.loadS (.const (AV.ptr b 1))) .lf h = .ok (vi re) ∧ ((evQ (.eq .int true (.const (vi re)) (.const (vi 0))) .lf H0 = .ok (AV.bool false) ∧ ((evQ (.loadS (.const (AV.ptr b 0))) .lf h = .ok wrb_1 ∧ ((evQ (.idxAddrSl 1 (.const wrb_1) (.const (vi 0))) .lf H0 = .ok (elemP wrb_1 0 1) ∧ ((evQ (.loadS (.const (elemP wrb_1 0 1))) .lf h = .ok (vb8 (rb.getD 0 0)) ∧ (∃ x5 : Bool × Nat, ∃ h10 : Hp, (call 115 [(vb8 (rb.getD 0 0))] h = .ok (AV.tuple [(AV.bool x5.1), (vi x5.2)]) h10 ∧ ((eqI (Int.ofNat (rb.getD 0 0)) (Int.ofNat 64) = true → (∃ x17 : List Nat × Nat × Nat, ∃ w27 : AV, ∃ h23 : Hp, (call 113 [(AV.ptr b 0)] h10 = .ok (vb8 x17.2.2) h23 ∧ ((evQ (.toInt .i64 (.const (vb8 (rb.getD 0 0)))) .lf H0 = .ok (vi (rb.getD 0 0)) ∧ KK (AV.int .i64 (wrapA .i64 (Int.sub (Int.ofNat (rb.getD 0 0)) (Int.ofNat 128)))) h23))))) ∧ (eqI (Int.ofNat (rb.getD 0 0)) (Int.ofNat 64) = false → ((x5.1 = true → (∃ x18 : List Nat × Nat × Nat, ∃ w28 : AV, ∃ h24 : Hp, (call 113 [(AV.ptr b 0)] h10 = .ok (vb8 x18.2.2) h24 ∧ ((evQ (.toInt .i64 (.const (vb8 (rb.getD 0 0)))) .lf H0 = .ok (vi (rb.getD 0 0)) ∧ KK (AV.int .i64 (wrapA .i64 (Int.sub (Int.ofNat (rb.getD 0 0)) (Int.ofNat 128)))) h24))))) ∧ (x5.1 = false → ((eqI (Int.ofNat x5.2) (Int.ofNat 5) = true → (∃ x19 : List Nat × Nat, ∃ w28 : AV, ∃ h24 : Hp, (call 52 [(AV.ptr b 0), (vi x5.2)] h10 = .ok (AV.tuple []) h24 ∧ KK (vi 0) h24))) ∧ (eqI (Int.ofNat x5.2) (Int.ofNat 5) = false → (∃ x19 : List Nat × Nat × Int, ∃ w28 : AV, ∃ h24 : Hp, (call 116 [(AV.ptr b 0)] h10 = .ok (AV.int .i64 x19.2.2) h24 ∧ ((ltI x19.2.2 (Int.ofNat 0) = true → (∃ x33 : List Nat × Nat, ∃ w42 : AV, ∃ h38 : Hp, (call 52 [(AV.ptr b 0), (vi 2)] h24 = .ok (AV.tuple []) h38 ∧ KK (AV.int .i64 x19.2.2) h38))) ∧ (ltI x19.2.2 (Int.ofNat 0) = false → KK (AV.int .i64 x19.2.2) h24))))))))))))))))))))))))))))) ∧ (eqI (Int.ofNat re) (Int.ofNat 0) = false → ((evQ (.loadS (.const (AV.ptr b 1))) .lf h = .ok (vi re) ∧ ((evQ (.eq .int true (.const (vi re)) (.const (vi 0))) .lf H0 = .ok (AV.bool true) ∧ KK (vi 0) h))))))))) (fun (rv : AV) (rh : Hp) => ∃ wk1 : AV, rv = (AV.int .i64 r.2.2) ∧ (BIn G h0 wk1 r.1) ∧ Eng.Sep (Cel b (wk1 :: (vi r.2.1) :: rest) :: Frz G h0 :: R) rh)) (by kernel_rfl) ?_
  refine ⟨cel_load S (i := 0) rfl rfl, ?_⟩
  refine ⟨fun c1 => ?_, fun c1 => ?_⟩
  · have rc1 := c1
    replace c1 := eqI_t c1
    replace hp := ift hp c1
    refine ⟨cel_load S (i := 0) rfl rfl, ?_⟩
    refine ⟨q_len (BIn.now S (i := 1) rfl frb_2), ?_⟩
    refine ⟨fun c2 => ?_, fun c2 => ?_⟩
    · replace c2 := eqI_t c2
      replace hp := ift hp c2
      have ⟨x3, hb4, hp⟩ := ob_inv hp
      obtain ⟨v7, h8, q9, w12, e10, f13, S11⟩ := h_rfail frb_2 hb4 S
      replace e10 := e10.symm
      subst e10
      refine ⟨x3, w12, h8, q9, ?_⟩
      refine ⟨cel_load S11 (i := 0) rfl rfl, ?_⟩
      refine ⟨fun c16 => ?_, fun c16 => ?_⟩
      · replace c16 := eqI_f (notB_t c16)
        replace hp := ift hp c16
        obtain rfl := Option.some.inj hp
        exact ⟨w12, rfl, f13, S11⟩
      replace c16 := eqI_t (notB_f c16)
      replace hp := iff0 hp (nneO c16)
      refine ⟨cel_load S11 (i := 0) rfl rfl, ?_⟩
      have ⟨g17, hp⟩ := gd_inv hp
      refine ⟨q_idxB (l := x3.1) (BIn.now S11 (i := 1) rfl f13) g17, ?_⟩
      refine ⟨q_byte (l := x3.1) (BIn.now S11 (i := 1) rfl f13) g17, ?_⟩
      have x18 : x3.1.getD 0 0 < 256 := getD_lt (BIn.now S11 (i := 1) rfl f13).lt 0
      have ⟨x19, hb20, hp⟩ := ob_inv hp
      obtain ⟨v23, h24, q25, e26, S27⟩ := h_rvalue0 x18 hb20
      replace e26 := e26.symm
      subst e26
      have S29 := Sep.call S11 (news := []) S27
      refine ⟨x19, h24, q25, ?_⟩
      refine ⟨fun c30 => ?_, fun c30 => ?_⟩
      · replace c30 := eqI_t c30
        replace hp := ift hp c30
        have ⟨x31, hb32, hp⟩ := ob_inv hp
        obtain ⟨v36, h37, q38, w41, e39, f35, f42, S40⟩ := h_rbyte f13 hb32 S29
        replace e39 := e39.symm
        subst e39
        refine ⟨x31, w41, h37, q38, ?_⟩
        refine ⟨i_conv (Nat.lt_of_lt_of_le x18 (by decide)), ?_⟩
        obtain rfl := Option.some.inj hp
        exact ⟨w41, rfl, f42, S40⟩
      replace c30 := eqI_f c30
      replace hp := iff0 hp (c30)
      refine ⟨fun c31 => ?_, fun c31 => ?_⟩
      · replace hp := ift hp c31
        have ⟨x32, hb33, hp⟩ := ob_inv hp
        obtain ⟨v37, h38, q39, w42, e40, f36, f43, S41⟩ := h_rbyte f13 hb33 S29
        replace e40 := e40.symm
        subst e40
        refine ⟨x32, w42, h38, q39, ?_⟩
        refine ⟨i_conv (Nat.lt_of_lt_of_le x18 (by decide)), ?_⟩
        obtain rfl := Option.some.inj hp
        exact ⟨w42, rfl, f43, S41⟩
      replace hp := iff0 hp (nbF c31)
      refine ⟨fun c32 => ?_, fun c32 => ?_⟩
      · replace c32 := eqI_t c32
        replace hp := ift hp c32
        have ⟨x33, hb34, hp⟩ := ob_inv hp
        obtain ⟨v37, h38, q39, w42, e40, f43, S41⟩ := h_rfail f13 hb34 S29
        replace e40 := e40.symm
        subst e40
        refine ⟨x33, w42, h38, q39, ?_⟩
        obtain rfl := Option.some.inj hp
        exact ⟨w42, rfl, f43, S41⟩
      replace c32 := eqI_f c32
      replace hp := iff0 hp (c32)
      have ⟨x33, hb34, hp⟩ := ob_inv hp
      obtain ⟨v37, h38, q39, w42, e40, f43, S41⟩ := h_rs33 f13 hb34 S29
      replace e40 := e40.symm
      subst e40
      refine ⟨x33, w42, h38, q39, ?_⟩
      refine ⟨fun c46 => ?_, fun c46 => ?_⟩
      · replace c46 : x33.2.2 < 0 := ltI_T c46
        replace hp := ift hp c46
        have ⟨x47, hb48, hp⟩ := ob_inv hp
        obtain ⟨v51, h52, q53, w56, e54, f57, S55⟩ := h_rfail f43 hb48 S41
        replace e54 := e54.symm
        subst e54
        refine ⟨x47, w56, h52, q53, ?_⟩
        obtain rfl := Option.some.inj hp
        exact ⟨w56, rfl, f57, S55⟩
      replace c46 : 0 ≤ x33.2.2 := ltI_F c46
      replace hp := iff0 hp (nltZ c46)
      obtain rfl := Option.some.inj hp
      exact ⟨w42, rfl, f43, S41⟩
    replace c2 := eqI_f c2
    replace hp := iff0 hp (c2)
    refine ⟨cel_load S (i := 0) rfl rfl, ?_⟩
    refine ⟨congrArg (fun z => OV.ok (AV.bool (notB z))) (rc1), ?_⟩
    refine ⟨cel_load S (i := 0) rfl rfl, ?_⟩
    have ⟨g3, hp⟩ := gd_inv hp
    refine ⟨q_idxB (l := rb) (BIn.now S (i := 1) rfl frb_2) g3, ?_⟩
    refine ⟨q_byte (l := rb) (BIn.now S (i := 1) rfl frb_2) g3, ?_⟩
    have x4 : rb.getD 0 0 < 256 := getD_lt (BIn.now S (i := 1) rfl frb_2).lt 0
    have ⟨x5, hb6, hp⟩ := ob_inv hp
    obtain ⟨v9, h10, q11, e12, S13⟩ := h_rvalue0 x4 hb6
    replace e12 := e12.symm
    subst e12
    have S15 := Sep.call S (news := []) S13
    refine ⟨x5, h10, q11, ?_⟩
    refine ⟨fun c16 => ?_, fun c16 => ?_⟩
    · replace c16 := eqI_t c16
      replace hp := ift hp c16
      have ⟨x17, hb18, hp⟩ := ob_inv hp
      obtain ⟨v22, h23, q24, w27, e25, f21, f28, S26⟩ := h_rbyte frb_2 hb18 S15
      replace e25 := e25.symm
      subst e25
      refine ⟨x17, w27, h23, q24, ?_⟩
      refine ⟨i_conv (Nat.lt_of_lt_of_le x4 (by decide)), ?_⟩
      obtain rfl := Option.some.inj hp
      exact ⟨w27, rfl, f28, S26⟩
    replace c16 := eqI_f c16
    replace hp := iff0 hp (c16)
    refine ⟨fun c17 => ?_, fun c17 => ?_⟩
    · replace hp := ift hp c17
      have ⟨x18, hb19, hp⟩ := ob_inv hp
      obtain ⟨v23, h24, q25, w28, e26, f22, f29, S27⟩ := h_rbyte frb_2 hb19 S15
      replace e26 := e26.symm
      subst e26
      refine ⟨x18, w28, h24, q25, ?_⟩
      refine ⟨i_conv (Nat.lt_of_lt_of_le x4 (by decide)), ?_⟩
      obtain rfl := Option.some.inj hp
      exact ⟨w28, rfl, f29, S27⟩
    replace hp := iff0 hp (nbF c17)
    refine ⟨fun c18 => ?_, fun c18 => ?_⟩
    · replace c18 := eqI_t c18
      replace hp := ift hp c18
      have ⟨x19, hb20, hp⟩ := ob_inv hp
      obtain ⟨v23, h24, q25, w28, e26, f29, S27⟩ := h_rfail frb_2 hb20 S15
      replace e26 := e26.symm
      subst e26
      refine ⟨x19, w28, h24, q25, ?_⟩
      obtain rfl := Option.some.inj hp
      exact ⟨w28, rfl, f29, S27⟩
    replace c18 := eqI_f c18
    replace hp := iff0 hp (c18)
    have ⟨x19, hb20, hp⟩ := ob_inv hp
    obtain ⟨v23, h24, q25, w28, e26, f29, S27⟩ := h_rs33 frb_2 hb20 S15
    replace e26 := e26.symm
    subst e26
    refine ⟨x19, w28, h24, q25, ?_⟩
    refine ⟨fun c32 => ?_, fun c32 => ?_⟩
    · replace c32 : x19.2.2 < 0 := ltI_T c32
      replace hp := ift hp c32
      have ⟨x33, hb34, hp⟩ := ob_inv hp
      obtain ⟨v37, h38, q39, w42, e40, f43, S41⟩ := h_rfail f29 hb34 S27
      replace e40 := e40.symm
      subst e40
      refine ⟨x33, w42, h38, q39, ?_⟩
      obtain rfl := Option.some.inj hp
      exact ⟨w42, rfl, f43, S41⟩
    replace c32 : 0 ≤ x19.2.2 := ltI_F c32
    replace hp := iff0 hp (nltZ c32)
    obtain rfl := Option.some.inj hp
    exact ⟨w28, rfl, f29, S27⟩
  have rc1 := c1
  replace c1 := eqI_f c1
  replace hp := iff0 hp (c1)
  refine ⟨cel_load S (i := 0) rfl rfl, ?_⟩
  refine ⟨congrArg (fun z => OV.ok (AV.bool (notB z))) (rc1), ?_⟩
  obtain rfl := Option.some.inj hp
  exact ⟨wrb_1, rfl, frb_2, S⟩
def C_rblock (call : CallT) : Prop := ∀ {h : Hp} {h0 : Hp} {G : Nat → Prop} {R : List AObj} {b : Nat} {rest : List AV} {wrb_1 : AV} {rb : List Nat} {re : Nat} (frb_2 : BIn G h0 wrb_1 rb) {r : List Nat × Nat × Int}, rblock_p rb re = some r → Eng.Sep (Cel b (wrb_1 :: (vi re) :: rest) :: Frz G h0 :: R) h → ∃ rv rh, call 87 [(AV.ptr b 0)] h = .ok rv rh ∧ ∃ wk1 : AV, rv = (AV.int .i64 r.2.2) ∧ (BIn G h0 wk1 r.1) ∧ Eng.Sep (Cel b (wk1 :: (vi r.2.1) :: rest) :: Frz G h0 :: R) rh
theorem s_rblock (d : Nat) : C_rblock (CC (d + 4)) := by
  intro h h0 G R b rest wrb_1 rb re frb_2 r hp S
  rw [CC, evF_at (sumT_none rfl)]
  exact rblock_w (call := CC (d + 3)) (N := 100000) frb_2 (s_rfail (d + 2)) (s_rbyte (d + 2)) (s_rvalue0 (d + 2)) (s_rs33 (d + 0)) hp S
noncomputable def rop_p (rb : List Nat) (re : Nat) : Option (List Nat × Nat × Nat) :=
  (ob (rbyte_p rb re) fun x1 =>
    (if x1.2.2 = 252 then (if x1.2.1 = 0 then (ob (ru32_p x1.1 x1.2.1) fun x17 =>
    (if 255 < x17.2.2 then (ob (rfail_p x17.1 x17.2.1 2) fun x32 =>
    (gd (64512 + x17.2.2 < 9223372036854775808) (some (x32.1, x32.2, 64512 + x17.2.2)))) else
    (gd (64512 + x17.2.2 < 9223372036854775808) (some (x17.1, x17.2.1, 64512 + x17.2.2))))) else
    (some (x1.1, x1.2.1, x1.2.2))) else
    (some (x1.1, x1.2.1, x1.2.2))))
theorem rop_w {call : CallT} {N : Nat} {h : Hp} {h0 : Hp} {G : Nat → Prop} {R : List AObj} {b : Nat} {rest : List AV} {wrb_1 : AV} {rb : List Nat} {re : Nat} (frb_2 : BIn G h0 wrb_1 rb) (h_rfail : C_rfail call) (h_ru32 : C_ru32 call) (h_rbyte : C_rbyte call) {r : List Nat × Nat × Nat} (hp : rop_p rb re = some r) (S : Eng.Sep (Cel b (wrb_1 :: (vi re) :: rest) :: Frz G h0 :: R) h) :
    ∃ rv rh, evF1 (progS Try.prog (compDrawn Try.prog)) N call 82 [(AV.ptr b 0)] h = .ok rv rh ∧ (fun (rv : AV) (rh : Hp) => ∃ wk1 : AV, rv = (vi r.2.2) ∧ (BIn G h0 wk1 r.1) ∧ Eng.Sep (Cel b (wk1 :: (vi r.2.1) :: rest) :: Frz G h0 :: R) rh) rv rh := by
  unfold rop_p at hp
  refine fwalk_ok (K := (fun (rv : AV) (rh : Hp) => ∃ wk1 : AV, rv = (vi r.2.2) ∧ (BIn G h0 wk1 r.1) ∧ Eng.Sep (Cel b (wk1 :: (vi r.2.1) :: rest) :: Frz G h0 :: R) rh)) (o := (.exi 4 fun (x1 : List Nat × Nat × Nat) => (.exi 0 fun (w11 : AV) => (.exi 0 fun (h7 : Hp) => (.eff 0 (vb8 x1.2.2) h7 (.tell 0 (vi x1.2.2) (.fork 3 (.tell 4 (vi x1.2.1) (.fork 1 (.exi 3 fun (x17 : List Nat × Nat × Nat) => (.exi 0 fun (w27 : AV) => (.exi 0 fun (h23 : Hp) => (.eff 0 (vw x17.2.2) h23 (.fork 2 (.exi 3 fun (x32 : List Nat × Nat) => (.exi 0 fun (w41 : AV) => (.exi 0 fun (h37 : Hp) => (.eff 0 (AV.tuple []) h37 (.tell 1 (vi x17.2.2) (.tell 0 (vi (64512 + x17.2.2)) .fin)))))) (.tell 1 (vi x17.2.2) (.tell 0 (vi (64512 + x17.2.2)) .fin))))))) .fin)) .fin))))))) (p := (fun (KK : AV → Hp → Prop) => (∃ x1 : List Nat × Nat × Nat, ∃ w11 : AV, ∃ h7 : Hp, (call 113 [(AV.ptr b 0)] h = .ok (vb8 x1.2.2) h7 ∧ ((evQ (.toInt .i64 (.const (vb8 x1.2.2))) .lf H0 = .ok (vi x1.2.2) ∧ ((eqI (Int.ofNat x1.2.2) (Int.ofNat 252) = true → ((evQ (.loadS (.const (AV.ptr b 1))) .lf h7 = .ok (vi x1.2.1) ∧ ((eqI (Int.ofNat x1.2.1) (Int.ofNat 0) = true → (∃ x17 : List Nat × Nat × Nat, ∃ w27 : AV, ∃ h23 : Hp, (call 84 [(AV.ptr b 0)] h7 = .ok (vw x17.2.2) h23 ∧ ((ltI (Int.ofNat 255) (Int.ofNat x17.2.2) = true → (∃ x32 : List Nat × Nat, ∃ w41 : AV, ∃ h37 : Hp, (call 52 [(AV.ptr b 0), (vi 2)] h23 = .ok (AV.tuple []) h37 ∧ ((evQ (.toInt .i64 (.const (vw x17.2.2))) .lf H0 = .ok (vi x17.2.2) ∧ ((evQ (.bin .add (.const (vi 64512)) (.const (vi x17.2.2))) .lf H0 = .ok (vi (64512 + x17.2.2)) ∧ KK (vi (64512 + x17.2.2)) h37))))))) ∧ (ltI (Int.ofNat 255) (Int.ofNat x17.2.2) = false → ((evQ (.toInt .i64 (.const (vw x17.2.2))) .lf H0 = .ok (vi x17.2.2) ∧ ((evQ (.bin .add (.const (vi 64512)) (.const (vi x17.2.2))) .lf H0 = .ok (vi (64512 + x17.2.2)) ∧ KK (vi (64512 + x17.2.2)) h23))))))))) ∧ (eqI (Int.ofNat x1.2.1) (Int.ofNat 0) = false → KK (vi x1.2.2) h7))))) ∧ (eqI (Int.ofNat x1.2.2) (Int.ofNat 252) = false → KK (vi x1.2.2) h7))))))) (fun (rv : AV) (rh : Hp) => ∃ wk1 : AV, rv = (vi r.2.2) ∧ (BIn G h0 wk1 r.1) ∧ Eng.Sep (Cel b (wk1 :: (vi r.2.1) :: rest) :: Frz G h0 :: R) rh)) (by kernel_rfl) ?_
  have ⟨x1, hb2, hp⟩ := ob_inv hp
  obtain ⟨v6, h7, q8, w11, e9, f5, f12, S10⟩ := h_rbyte frb_2 hb2 S
  replace e9 := e9.symm
  subst e9
  refine ⟨x1, w11, h7, q8, ?_⟩
  refine ⟨i_conv (Nat.lt_of_lt_of_le f5 (by decide)), ?_⟩
  refine ⟨fun c15 => ?_, fun c15 => ?_⟩
  · replace c15 := eqI_t c15
    replace hp := ift hp c15
    refine ⟨cel_load S10 (i := 0) rfl rfl, ?_⟩
    refine ⟨fun c16 => ?_, fun c16 => ?_⟩
    · replace c16 := eqI_t c16
      replace hp := ift hp c16
      have ⟨x17, hb18, hp⟩ := ob_inv hp
      obtain ⟨v22, h23, q24, w27, e25, f21, f28, S26⟩ := h_ru32 f12 hb18 S10
      replace e25 := e25.symm
      subst e25
      refine ⟨x17, w27, h23, q24, ?_⟩
      refine ⟨fun c31 => ?_, fun c31 => ?_⟩
      · replace c31 := ltI_t c31
        replace hp := ift hp c31
        have ⟨x32, hb33, hp⟩ := ob_inv hp
        obtain ⟨v36, h37, q38, w41, e39, f42, S40⟩ := h_rfail f28 hb33 S26
        replace e39 := e39.symm
        subst e39
        refine ⟨x32, w41, h37, q38, ?_⟩
        refine ⟨i_conv (Nat.lt_of_lt_of_le f21 (by decide)), ?_⟩
        have ⟨g45, hp⟩ := gd_inv hp
        refine ⟨q_add g45, ?_⟩
        obtain rfl := Option.some.inj hp
        exact ⟨w41, rfl, f42, S40⟩
      replace c31 := ltI_f c31
      replace hp := iff0 hp (nltO c31)
      refine ⟨i_conv (Nat.lt_of_lt_of_le f21 (by decide)), ?_⟩
      have ⟨g32, hp⟩ := gd_inv hp
      refine ⟨q_add g32, ?_⟩
      obtain rfl := Option.some.inj hp
      exact ⟨w27, rfl, f28, S26⟩
    replace c16 := eqI_f c16
    replace hp := iff0 hp (c16)
    obtain rfl := Option.some.inj hp
    exact ⟨w11, rfl, f12, S10⟩
  replace c15 := eqI_f c15
  replace hp := iff0 hp (c15)
  obtain rfl := Option.some.inj hp
  exact ⟨w11, rfl, f12, S10⟩
def C_rop (call : CallT) : Prop := ∀ {h : Hp} {h0 : Hp} {G : Nat → Prop} {R : List AObj} {b : Nat} {rest : List AV} {wrb_1 : AV} {rb : List Nat} {re : Nat} (frb_2 : BIn G h0 wrb_1 rb) {r : List Nat × Nat × Nat}, rop_p rb re = some r → Eng.Sep (Cel b (wrb_1 :: (vi re) :: rest) :: Frz G h0 :: R) h → ∃ rv rh, call 82 [(AV.ptr b 0)] h = .ok rv rh ∧ ∃ wk1 : AV, rv = (vi r.2.2) ∧ (BIn G h0 wk1 r.1) ∧ Eng.Sep (Cel b (wk1 :: (vi r.2.1) :: rest) :: Frz G h0 :: R) rh
theorem s_rop (d : Nat) : C_rop (CC (d + 4)) := by
  intro h h0 G R b rest wrb_1 rb re frb_2 r hp S
  rw [CC, evF_at (sumT_none rfl)]
  exact rop_w (call := CC (d + 3)) (N := 100000) frb_2 (s_rfail (d + 2)) (s_ru32 (d + 0)) (s_rbyte (d + 2)) hp S
noncomputable def rinstr_l1 (B6 : Nat) (B29 : Nat) : Nat → Nat → List Nat → Nat → Nat → Nat → Nat → Nat → List Nat → Nat → Nat → Nat → Nat → Nat → List Nat → Nat → Option (Nat × List Nat × Nat × Nat × Nat × Nat × Nat × List Nat × Nat × Nat × Nat × Nat × Nat × List Nat × Nat)
  | 0, _, _, _, _, _, _, _, _, _, _, _, _, _, _, _ => none
  | m + 1, A7, Q1_0, Q1_1, Q102_0, Q102_1, Q102_2, Q102_3, Q102_4, Q102_5, Q101_0, Q101_1, Q101_2, Q101_3, Q101_4, Q101_5 =>
    (if A7 < B6 then (if Q1_1 = 0 then (ob (ru32_p Q1_0 Q1_1) fun x5 =>
    (gd ((Q102_4.length + 1) * 4 ≤ 70368744177664) (rinstr_l1 B6 B29 m ((A7 + 1) % 4294967296) x5.1 x5.2.1 Q102_0 Q102_1 Q102_2 Q102_3 (Q102_4 ++ [x5.2.2]) Q102_5 Q101_0 Q101_1 Q101_2 Q101_3 Q101_4 Q101_5))) else
    (some ((A7, Q1_0, Q1_1, Q102_0, Q102_1, Q102_2, Q102_3, Q102_4, Q102_5, Q101_0, Q101_1, Q101_2, Q101_3, Q101_4, Q101_5)))) else
    (some ((A7, Q1_0, Q1_1, Q102_0, Q102_1, Q102_2, Q102_3, Q102_4, Q102_5, Q101_0, Q101_1, Q101_2, Q101_3, Q101_4, Q101_5))))
noncomputable def rinstr_l1C : AC := (.seq (.seq (.region [⟨(some 126), .q (.move (.tmp 7)), none⟩, ⟨(some 127), .q (.move (.tmp 6)), none⟩, ⟨(some 128), .q (.bin .lss (.tmp 126) (.tmp 127)), none⟩, ⟨(some 129), .q (.move (.tmp 128)), none⟩, ⟨(some 130), .q (.move (.tmp 0)), (some (129, true))⟩, ⟨(some 131), .q (.nilCheck (.tmp 130)), (some (129, true))⟩, ⟨(some 132), .q (.fieldAddr 0 (.tmp 131)), (some (129, true))⟩, ⟨(some 133), .q (.fieldAddr 1 (.tmp 132)), (some (129, true))⟩, ⟨(some 134), .q (.loadS (.tmp 133)), (some (129, true))⟩, ⟨(some 135), .q (.eq .int false (.tmp 134) (.const (vi 0))), (some (129, true))⟩, ⟨(some 136), .q (.pick (.tmp 129) (.tmp 135) (.const (AV.bool false))), none⟩]) (.cond (.tmp 136) .skip (.exit 1))) (.seq (.block 2 (.drawn [⟨[(⟨(some 139), .q (.fieldAddr 4 (.tmp 3)), none⟩, 1), (⟨(some 140), .q (.loadS (.tmp 139)), none⟩, 1), (⟨(some 141), .q (.move (.tmp 0)), none⟩, 0), (⟨(some 142), .q (.nilCheck (.tmp 141)), none⟩, 0), (⟨(some 143), .q (.fieldAddr 0 (.tmp 142)), none⟩, 0)], (some ⟨(some 144), .e (.call (.const (AV.func (.func 84) [] [])) [(.tmp 143)]), none⟩)⟩, ⟨[(⟨(some 145), .l (.buildSlice 1 1 [(vw 0)] [(0, 1, (.tmp 144))]), none⟩, 1)], (some ⟨(some 146), .e (.append 1 4 (.tmp 140) (.tmp 145)), none⟩)⟩, ⟨[(⟨(some 147), .q (.fieldAddr 4 (.tmp 3)), none⟩, 2)], (some ⟨none, .e (.store 1 (.tmp 147) (.tmp 146)), none⟩)⟩, ⟨[], none⟩])) (.region [⟨(some 137), .q (.move (.tmp 7)), none⟩, ⟨(some 138), .q (.bin .add (.tmp 137) (.const (vw 1))), none⟩, ⟨(some 7), .q (.move (.tmp 138)), none⟩])))
theorem rinstr_l1_body {call : CallT} {N : Nat} {t : T} {h : Hp} {b1 : Nat} {rest : List AV} {b102 : Nat} {b101 : Nat} {ZG_105 : Nat → Prop} {Zk_105 : Hp} {ZG_103 : Nat → Prop} {Zk_103 : Hp} {G : Nat → Prop} {h0 : Hp} {R : List AObj} {B6 : Nat} {B29 : Nat} (fB6_1 : B6 < 4294967296) (h_rfail : C_rfail call) (h_rkind : KindS call 55) (h_rop : C_rop call) (h_rzero : C_rzero call) (h_ru32 : C_ru32 call) (h_rs32 : C_rs32 call) (h_rs64 : C_rs64 call) (h_rblock : C_rblock call) (h_rvalue : C_rvalue call) (h_rref : C_rref call) {o : Nat × List Nat × Nat × Nat × Nat × Nat × Nat × List Nat × Nat × Nat × Nat × Nat × Nat × List Nat × Nat} {n : Nat} {A7 : Nat} {Q1_0 : List Nat} {Q1_1 : Nat} {Q102_0 : Nat} {Q102_1 : Nat} {Q102_2 : Nat} {Q102_3 : Nat} {Q102_4 : List Nat} {Q102_5 : Nat} {Q101_0 : Nat} {Q101_1 : Nat} {Q101_2 : Nat} {Q101_3 : Nat} {Q101_4 : List Nat} {Q101_5 : Nat} {wQ1_0_1 : AV} {wQ102_4 : AV} {LQ102_4 : List AV} {wQ101_4 : AV} {LQ101_4 : List AV} {G_105 : Nat → Prop} {k_105 : Hp} {G_103 : Nat → Prop} {k_103 : Hp} (hN : 90000 < N) (hi : (fun (z : Nat × Nat × List Nat × Nat × Nat × Nat × Nat × Nat × List Nat × Nat × Nat × Nat × Nat × Nat × List Nat × Nat × AV × AV × List AV × AV × List AV × (Nat → Prop) × Hp × (Nat → Prop) × Hp) (h' : Hp) => rinstr_l1 B6 B29 z.1 z.2.1 z.2.2.1 z.2.2.2.1 z.2.2.2.2.1 z.2.2.2.2.2.1 z.2.2.2.2.2.2.1 z.2.2.2.2.2.2.2.1 z.2.2.2.2.2.2.2.2.1 z.2.2.2.2.2.2.2.2.2.1 z.2.2.2.2.2.2.2.2.2.2.1 z.2.2.2.2.2.2.2.2.2.2.2.1 z.2.2.2.2.2.2.2.2.2.2.2.2.1 z.2.2.2.2.2.2.2.2.2.2.2.2.2.1 z.2.2.2.2.2.2.2.2.2.2.2.2.2.2.1 z.2.2.2.2.2.2.2.2.2.2.2.2.2.2.2.1 = some o ∧ (z.2.1 < 4294967296) ∧ (BIn G h0 z.2.2.2.2.2.2.2.2.2.2.2.2.2.2.2.2.1 z.2.2.1) ∧ (z.2.2.2.2.2.1 < 4294967296) ∧ (z.2.2.2.2.2.2.1 < 4294967296) ∧ (z.2.2.2.2.2.2.2.1 < 18446744073709551616) ∧ (Eng.Rows (rU .u32) z.2.2.2.2.2.2.2.2.2.2.2.2.2.2.2.2.2.2.2.2.2.2.2.1 z.2.2.2.2.2.2.2.2.2.2.2.2.2.2.2.2.2.2.2.2.2.2.2.2 z.2.2.2.2.2.2.2.2.2.2.2.2.2.2.2.2.2.2.1 z.2.2.2.2.2.2.2.2.1) ∧ (z.2.2.2.2.2.2.2.2.2.2.2.1 < 4294967296) ∧ (z.2.2.2.2.2.2.2.2.2.2.2.2.1 < 4294967296) ∧ (z.2.2.2.2.2.2.2.2.2.2.2.2.2.1 < 18446744073709551616) ∧ (Eng.Rows (rU .u32) z.2.2.2.2.2.2.2.2.2.2.2.2.2.2.2.2.2.2.2.2.2.1 z.2.2.2.2.2.2.2.2.2.2.2.2.2.2.2.2.2.2.2.2.2.2.1 z.2.2.2.2.2.2.2.2.2.2.2.2.2.2.2.2.2.2.2.2.1 z.2.2.2.2.2.2.2.2.2.2.2.2.2.2.1) ∧ (Up ZG_105 Zk_105 z.2.2.2.2.2.2.2.2.2.2.2.2.2.2.2.2.2.2.2.2.2.1 z.2.2.2.2.2.2.2.2.2.2.2.2.2.2.2.2.2.2.2.2.2.2.1) ∧ (Up ZG_103 Zk_103 z.2.2.2.2.2.2.2.2.2.2.2.2.2.2.2.2.2.2.2.2.2.2.2.1 z.2.2.2.2.2.2.2.2.2.2.2.2.2.2.2.2.2.2.2.2.2.2.2.2) ∧ Eng.Sep (Cel b1 (z.2.2.2.2.2.2.2.2.2.2.2.2.2.2.2.2.1 :: (vi z.2.2.2.1) :: rest) :: Cel b102 [(vi z.2.2.2.2.1), (vw z.2.2.2.2.2.1), (vw z.2.2.2.2.2.2.1), (vq z.2.2.2.2.2.2.2.1), z.2.2.2.2.2.2.2.2.2.2.2.2.2.2.2.2.2.1, (vi z.2.2.2.2.2.2.2.2.2.1)] :: OwnO 1 z.2.2.2.2.2.2.2.2.2.2.2.2.2.2.2.2.2.1 z.2.2.2.2.2.2.2.2.1.length z.2.2.2.2.2.2.2.2.2.2.2.2.2.2.2.2.2.2.1 :: Cel b101 [(vi z.2.2.2.2.2.2.2.2.2.2.1), (vw z.2.2.2.2.2.2.2.2.2.2.2.1), (vw z.2.2.2.2.2.2.2.2.2.2.2.2.1), (vq z.2.2.2.2.2.2.2.2.2.2.2.2.2.1), z.2.2.2.2.2.2.2.2.2.2.2.2.2.2.2.2.2.2.2.1, (vi z.2.2.2.2.2.2.2.2.2.2.2.2.2.2.2.1)] :: OwnO 1 z.2.2.2.2.2.2.2.2.2.2.2.2.2.2.2.2.2.2.2.1 z.2.2.2.2.2.2.2.2.2.2.2.2.2.2.1.length z.2.2.2.2.2.2.2.2.2.2.2.2.2.2.2.2.2.2.2.2.1 :: Frz z.2.2.2.2.2.2.2.2.2.2.2.2.2.2.2.2.2.2.2.2.2.1 z.2.2.2.2.2.2.2.2.2.2.2.2.2.2.2.2.2.2.2.2.2.2.1 :: Frz z.2.2.2.2.2.2.2.2.2.2.2.2.2.2.2.2.2.2.2.2.2.2.2.1 z.2.2.2.2.2.2.2.2.2.2.2.2.2.2.2.2.2.2.2.2.2.2.2.2 :: Frz G h0 :: R) h') (n, A7, Q1_0, Q1_1, Q102_0, Q102_1, Q102_2, Q102_3, Q102_4, Q102_5, Q101_0, Q101_1, Q101_2, Q101_3, Q101_4, Q101_5, wQ1_0_1, wQ102_4, LQ102_4, wQ101_4, LQ101_4, G_105, k_105, G_103, k_103) h)
    : ∃ s, evC call N rinstr_l1C (ovT [(0, (AV.ptr b1 0)), (2, (AV.ptr b101 0)), (3, (AV.ptr b102 0)), (6, (vw B6)), (7, (vw A7)), (29, (vi B29))] t) h = s ∧ obsS [0, 2, 3, 6, 7, 29] (fun ls h' => ∃ y, ls = ((fun (z : Nat × Nat × List Nat × Nat × Nat × Nat × Nat × Nat × List Nat × Nat × Nat × Nat × Nat × Nat × List Nat × Nat × AV × AV × List AV × AV × List AV × (Nat → Prop) × Hp × (Nat → Prop) × Hp) => [(0, (AV.ptr b1 0)), (2, (AV.ptr b101 0)), (3, (AV.ptr b102 0)), (6, (vw B6)), (7, (vw z.2.1)), (29, (vi B29))]) y).map (fun p => some p.2) ∧ (fun (z : Nat × Nat × List Nat × Nat × Nat × Nat × Nat × Nat × List Nat × Nat × Nat × Nat × Nat × Nat × List Nat × Nat × AV × AV × List AV × AV × List AV × (Nat → Prop) × Hp × (Nat → Prop) × Hp) (h' : Hp) => rinstr_l1 B6 B29 z.1 z.2.1 z.2.2.1 z.2.2.2.1 z.2.2.2.2.1 z.2.2.2.2.2.1 z.2.2.2.2.2.2.1 z.2.2.2.2.2.2.2.1 z.2.2.2.2.2.2.2.2.1 z.2.2.2.2.2.2.2.2.2.1 z.2.2.2.2.2.2.2.2.2.2.1 z.2.2.2.2.2.2.2.2.2.2.2.1 z.2.2.2.2.2.2.2.2.2.2.2.2.1 z.2.2.2.2.2.2.2.2.2.2.2.2.2.1 z.2.2.2.2.2.2.2.2.2.2.2.2.2.2.1 z.2.2.2.2.2.2.2.2.2.2.2.2.2.2.2.1 = some o ∧ (z.2.1 < 4294967296) ∧ (BIn G h0 z.2.2.2.2.2.2.2.2.2.2.2.2.2.2.2.2.1 z.2.2.1) ∧ (z.2.2.2.2.2.1 < 4294967296) ∧ (z.2.2.2.2.2.2.1 < 4294967296) ∧ (z.2.2.2.2.2.2.2.1 < 18446744073709551616) ∧ (Eng.Rows (rU .u32) z.2.2.2.2.2.2.2.2.2.2.2.2.2.2.2.2.2.2.2.2.2.2.2.1 z.2.2.2.2.2.2.2.2.2.2.2.2.2.2.2.2.2.2.2.2.2.2.2.2 z.2.2.2.2.2.2.2.2.2.2.2.2.2.2.2.2.2.2.1 z.2.2.2.2.2.2.2.2.1) ∧ (z.2.2.2.2.2.2.2.2.2.2.2.1 < 4294967296) ∧ (z.2.2.2.2.2.2.2.2.2.2.2.2.1 < 4294967296) ∧ (z.2.2.2.2.2.2.2.2.2.2.2.2.2.1 < 18446744073709551616) ∧ (Eng.Rows (rU .u32) z.2.2.2.2.2.2.2.2.2.2.2.2.2.2.2.2.2.2.2.2.2.1 z.2.2.2.2.2.2.2.2.2.2.2.2.2.2.2.2.2.2.2.2.2.2.1 z.2.2.2.2.2.2.2.2.2.2.2.2.2.2.2.2.2.2.2.2.1 z.2.2.2.2.2.2.2.2.2.2.2.2.2.2.1) ∧ (Up ZG_105 Zk_105 z.2.2.2.2.2.2.2.2.2.2.2.2.2.2.2.2.2.2.2.2.2.1 z.2.2.2.2.2.2.2.2.2.2.2.2.2.2.2.2.2.2.2.2.2.2.1) ∧ (Up ZG_103 Zk_103 z.2.2.2.2.2.2.2.2.2.2.2.2.2.2.2.2.2.2.2.2.2.2.2.1 z.2.2.2.2.2.2.2.2.2.2.2.2.2.2.2.2.2.2.2.2.2.2.2.2) ∧ Eng.Sep (Cel b1 (z.2.2.2.2.2.2.2.2.2.2.2.2.2.2.2.2.1 :: (vi z.2.2.2.1) :: rest) :: Cel b102 [(vi z.2.2.2.2.1), (vw z.2.2.2.2.2.1), (vw z.2.2.2.2.2.2.1), (vq z.2.2.2.2.2.2.2.1), z.2.2.2.2.2.2.2.2.2.2.2.2.2.2.2.2.2.1, (vi z.2.2.2.2.2.2.2.2.2.1)] :: OwnO 1 z.2.2.2.2.2.2.2.2.2.2.2.2.2.2.2.2.2.1 z.2.2.2.2.2.2.2.2.1.length z.2.2.2.2.2.2.2.2.2.2.2.2.2.2.2.2.2.2.1 :: Cel b101 [(vi z.2.2.2.2.2.2.2.2.2.2.1), (vw z.2.2.2.2.2.2.2.2.2.2.2.1), (vw z.2.2.2.2.2.2.2.2.2.2.2.2.1), (vq z.2.2.2.2.2.2.2.2.2.2.2.2.2.1), z.2.2.2.2.2.2.2.2.2.2.2.2.2.2.2.2.2.2.2.1, (vi z.2.2.2.2.2.2.2.2.2.2.2.2.2.2.2.1)] :: OwnO 1 z.2.2.2.2.2.2.2.2.2.2.2.2.2.2.2.2.2.2.2.1 z.2.2.2.2.2.2.2.2.2.2.2.2.2.2.1.length z.2.2.2.2.2.2.2.2.2.2.2.2.2.2.2.2.2.2.2.2.1 :: Frz z.2.2.2.2.2.2.2.2.2.2.2.2.2.2.2.2.2.2.2.2.2.1 z.2.2.2.2.2.2.2.2.2.2.2.2.2.2.2.2.2.2.2.2.2.2.1 :: Frz z.2.2.2.2.2.2.2.2.2.2.2.2.2.2.2.2.2.2.2.2.2.2.2.1 z.2.2.2.2.2.2.2.2.2.2.2.2.2.2.2.2.2.2.2.2.2.2.2.2 :: Frz G h0 :: R) h') y h' ∧ (fun (z : Nat × Nat × List Nat × Nat × Nat × Nat × Nat × Nat × List Nat × Nat × Nat × Nat × Nat × Nat × List Nat × Nat × AV × AV × List AV × AV × List AV × (Nat → Prop) × Hp × (Nat → Prop) × Hp) => z.1) y < (fun (z : Nat × Nat × List Nat × Nat × Nat × Nat × Nat × Nat × List Nat × Nat × Nat × Nat × Nat × Nat × List Nat × Nat × AV × AV × List AV × AV × List AV × (Nat → Prop) × Hp × (Nat → Prop) × Hp) => z.1) (n, A7, Q1_0, Q1_1, Q102_0, Q102_1, Q102_2, Q102_3, Q102_4, Q102_5, Q101_0, Q101_1, Q101_2, Q101_3, Q101_4, Q101_5, wQ1_0_1, wQ102_4, LQ102_4, wQ101_4, LQ101_4, G_105, k_105, G_103, k_103)) (fun i ls h' => ∃ y, ls = ((fun (z : Nat × Nat × List Nat × Nat × Nat × Nat × Nat × Nat × List Nat × Nat × Nat × Nat × Nat × Nat × List Nat × Nat × AV × AV × List AV × AV × List AV × (Nat → Prop) × Hp × (Nat → Prop) × Hp) => [(0, (AV.ptr b1 0)), (2, (AV.ptr b101 0)), (3, (AV.ptr b102 0)), (6, (vw B6)), (7, (vw z.2.1)), (29, (vi B29))]) y).map (fun p => some p.2) ∧ (fun (i : Nat) (z : Nat × Nat × List Nat × Nat × Nat × Nat × Nat × Nat × List Nat × Nat × Nat × Nat × Nat × Nat × List Nat × Nat × AV × AV × List AV × AV × List AV × (Nat → Prop) × Hp × (Nat → Prop) × Hp) (h' : Hp) => (i = 1) ∧ (i = 1 → o = (z.2.1, z.2.2.1, z.2.2.2.1, z.2.2.2.2.1, z.2.2.2.2.2.1, z.2.2.2.2.2.2.1, z.2.2.2.2.2.2.2.1, z.2.2.2.2.2.2.2.2.1, z.2.2.2.2.2.2.2.2.2.1, z.2.2.2.2.2.2.2.2.2.2.1, z.2.2.2.2.2.2.2.2.2.2.2.1, z.2.2.2.2.2.2.2.2.2.2.2.2.1, z.2.2.2.2.2.2.2.2.2.2.2.2.2.1, z.2.2.2.2.2.2.2.2.2.2.2.2.2.2.1, z.2.2.2.2.2.2.2.2.2.2.2.2.2.2.2.1) ∧ (z.2.1 < 4294967296) ∧ (BIn G h0 z.2.2.2.2.2.2.2.2.2.2.2.2.2.2.2.2.1 z.2.2.1) ∧ (z.2.2.2.2.2.1 < 4294967296) ∧ (z.2.2.2.2.2.2.1 < 4294967296) ∧ (z.2.2.2.2.2.2.2.1 < 18446744073709551616) ∧ (Eng.Rows (rU .u32) z.2.2.2.2.2.2.2.2.2.2.2.2.2.2.2.2.2.2.2.2.2.2.2.1 z.2.2.2.2.2.2.2.2.2.2.2.2.2.2.2.2.2.2.2.2.2.2.2.2 z.2.2.2.2.2.2.2.2.2.2.2.2.2.2.2.2.2.2.1 z.2.2.2.2.2.2.2.2.1) ∧ (z.2.2.2.2.2.2.2.2.2.2.2.1 < 4294967296) ∧ (z.2.2.2.2.2.2.2.2.2.2.2.2.1 < 4294967296) ∧ (z.2.2.2.2.2.2.2.2.2.2.2.2.2.1 < 18446744073709551616) ∧ (Eng.Rows (rU .u32) z.2.2.2.2.2.2.2.2.2.2.2.2.2.2.2.2.2.2.2.2.2.1 z.2.2.2.2.2.2.2.2.2.2.2.2.2.2.2.2.2.2.2.2.2.2.1 z.2.2.2.2.2.2.2.2.2.2.2.2.2.2.2.2.2.2.2.2.1 z.2.2.2.2.2.2.2.2.2.2.2.2.2.2.1) ∧ (Up ZG_105 Zk_105 z.2.2.2.2.2.2.2.2.2.2.2.2.2.2.2.2.2.2.2.2.2.1 z.2.2.2.2.2.2.2.2.2.2.2.2.2.2.2.2.2.2.2.2.2.2.1) ∧ (Up ZG_103 Zk_103 z.2.2.2.2.2.2.2.2.2.2.2.2.2.2.2.2.2.2.2.2.2.2.2.1 z.2.2.2.2.2.2.2.2.2.2.2.2.2.2.2.2.2.2.2.2.2.2.2.2) ∧ Eng.Sep (Cel b1 (z.2.2.2.2.2.2.2.2.2.2.2.2.2.2.2.2.1 :: (vi z.2.2.2.1) :: rest) :: Cel b102 [(vi z.2.2.2.2.1), (vw z.2.2.2.2.2.1), (vw z.2.2.2.2.2.2.1), (vq z.2.2.2.2.2.2.2.1), z.2.2.2.2.2.2.2.2.2.2.2.2.2.2.2.2.2.1, (vi z.2.2.2.2.2.2.2.2.2.1)] :: OwnO 1 z.2.2.2.2.2.2.2.2.2.2.2.2.2.2.2.2.2.1 z.2.2.2.2.2.2.2.2.1.length z.2.2.2.2.2.2.2.2.2.2.2.2.2.2.2.2.2.2.1 :: Cel b101 [(vi z.2.2.2.2.2.2.2.2.2.2.1), (vw z.2.2.2.2.2.2.2.2.2.2.2.1), (vw z.2.2.2.2.2.2.2.2.2.2.2.2.1), (vq z.2.2.2.2.2.2.2.2.2.2.2.2.2.1), z.2.2.2.2.2.2.2.2.2.2.2.2.2.2.2.2.2.2.2.1, (vi z.2.2.2.2.2.2.2.2.2.2.2.2.2.2.2.1)] :: OwnO 1 z.2.2.2.2.2.2.2.2.2.2.2.2.2.2.2.2.2.2.2.1 z.2.2.2.2.2.2.2.2.2.2.2.2.2.2.1.length z.2.2.2.2.2.2.2.2.2.2.2.2.2.2.2.2.2.2.2.2.1 :: Frz z.2.2.2.2.2.2.2.2.2.2.2.2.2.2.2.2.2.2.2.2.2.1 z.2.2.2.2.2.2.2.2.2.2.2.2.2.2.2.2.2.2.2.2.2.2.1 :: Frz z.2.2.2.2.2.2.2.2.2.2.2.2.2.2.2.2.2.2.2.2.2.2.2.1 z.2.2.2.2.2.2.2.2.2.2.2.2.2.2.2.2.2.2.2.2.2.2.2.2 :: Frz G h0 :: R) h')) i y h') (fun ls h' => (fun (ls : List (Option AV)) (h' : Hp) => False) ls h') s := by
  have hi : rinstr_l1 B6 B29 n A7 Q1_0 Q1_1 Q102_0 Q102_1 Q102_2 Q102_3 Q102_4 Q102_5 Q101_0 Q101_1 Q101_2 Q101_3 Q101_4 Q101_5 = some o ∧ (A7 < 4294967296) ∧ (BIn G h0 wQ1_0_1 Q1_0) ∧ (Q102_1 < 4294967296) ∧ (Q102_2 < 4294967296) ∧ (Q102_3 < 18446744073709551616) ∧ (Eng.Rows (rU .u32) G_103 k_103 LQ102_4 Q102_4) ∧ (Q101_1 < 4294967296) ∧ (Q101_2 < 4294967296) ∧ (Q101_3 < 18446744073709551616) ∧ (Eng.Rows (rU .u32) G_105 k_105 LQ101_4 Q101_4) ∧ (Up ZG_105 Zk_105 G_105 k_105) ∧ (Up ZG_103 Zk_103 G_103 k_103) ∧ Eng.Sep (Cel b1 (wQ1_0_1 :: (vi Q1_1) :: rest) :: Cel b102 [(vi Q102_0), (vw Q102_1), (vw Q102_2), (vq Q102_3), wQ102_4, (vi Q102_5)] :: OwnO 1 wQ102_4 Q102_4.length LQ102_4 :: Cel b101 [(vi Q101_0), (vw Q101_1), (vw Q101_2), (vq Q101_3), wQ101_4, (vi Q101_5)] :: OwnO 1 wQ101_4 Q101_4.length LQ101_4 :: Frz G_105 k_105 :: Frz G_103 k_103 :: Frz G h0 :: R) h := hi
  obtain ⟨hp, fA7_1, fQ1_0_2, fQ102_1_1, fQ102_2_1, fQ102_3_1, fQ102_4, fQ101_1_1, fQ101_2_1, fQ101_3_1, fQ101_4, fU_105, fU_103, S⟩ := hi
  obtain ⟨m, hm⟩ : ∃ m, n = m + 1 := by
    cases n with
    | zero => first | cases hp | (unfold rinstr_l1 at hp; cases hp) | (simp [rinstr_l1] at hp)
    | succ m => exact ⟨m, rfl⟩
  rw [hm] at hp
  unfold rinstr_l1 at hp
  refine walk_ok (o := (.fork 3 (.tell 4 (vi Q1_1) (.fork 1 (.tell 1 wQ102_4 (.again 3 (.exi 0 fun (x5 : List Nat × Nat × Nat) => (.exi 0 fun (w15 : AV) => (.exi 0 fun (h11 : Hp) => (.eff 0 (vw x5.2.2) h11 (.again 1 (.effx 0 (fun e20 => e20.v) (fun e20 => (.again 1 (.effx 0 (fun e26 => (AV.tuple [])) (fun e26 => (.tell 2 (vw ((A7 + 1) % 4294967296)) .fin))))))))))))) .fin)) .fin)) (p := (fun (KN : List (Option AV) → Hp → Prop) (KE : Nat → List (Option AV) → Hp → Prop) (KR : List (Option AV) → Hp → Prop) => ((ltI (Int.ofNat A7) (Int.ofNat B6) = true → ((evQ (.loadS (.const (AV.ptr b1 1))) .lf h = .ok (vi Q1_1) ∧ ((eqI (Int.ofNat Q1_1) (Int.ofNat 0) = true → ((evQ (.loadS (.const (AV.ptr b102 4))) .lf h = .ok wQ102_4 ∧ ((again (.fieldAddr 0 (.const (AV.ptr b1 0))) .lf (AV.ptr b1 0) h = true ∧ again (.nilCheck (.const (AV.ptr b1 0))) .lf (AV.ptr b1 0) h = true ∧ again (.move (.const (AV.ptr b1 0))) .lf (AV.ptr b1 0) h = true ∧ again (.loadS (.const (AV.ptr b102 4))) .lf wQ102_4 h = true ∧ again (.fieldAddr 4 (.const (AV.ptr b102 0))) .lf (AV.ptr b102 4) h = true ∧ True) ∧ (∃ x5 : List Nat × Nat × Nat, ∃ w15 : AV, ∃ h11 : Hp, (call 84 [(AV.ptr b1 0)] h = .ok (vw x5.2.2) h11 ∧ ((again (.loadS (.const (AV.ptr b102 4))) .lf wQ102_4 (hpush h11 (mkCells [(vw x5.2.2)] 1)) = true ∧ again (.fieldAddr 4 (.const (AV.ptr b102 0))) .lf (AV.ptr b102 4) (hpush h11 (mkCells [(vw x5.2.2)] 1)) = true ∧ True) ∧ (∃ e20 : Ev, evE (.append 1 4 (.const wQ102_4) (.const (AV.slice (Hp.next h11) 0 1 1 1 true))) call .lf (hpush h11 (mkCells [(vw x5.2.2)] 1)) = .ok e20.v e20.h ∧ ((again (.fieldAddr 4 (.const (AV.ptr b102 0))) .lf (AV.ptr b102 4) e20.h = true ∧ True) ∧ (∃ e26 : Ev, evE (.store 1 (.const (AV.ptr b102 4)) (.const e20.v)) call .lf e20.h = .ok (AV.tuple []) e26.h ∧ ((evQ (.bin .add (.const (vw A7)) (.const (vw 1))) .lf H0 = .ok (vw ((A7 + 1) % 4294967296)) ∧ KN [some (AV.ptr b1 0), some (AV.ptr b101 0), some (AV.ptr b102 0), some (vw B6), some (vw ((A7 + 1) % 4294967296)), some (vi B29)] e26.h)))))))))))) ∧ (eqI (Int.ofNat Q1_1) (Int.ofNat 0) = false → KE 1 [some (AV.ptr b1 0), some (AV.ptr b101 0), some (AV.ptr b102 0), some (vw B6), some (vw A7), some (vi B29)] h))))) ∧ (ltI (Int.ofNat A7) (Int.ofNat B6) = false → KE 1 [some (AV.ptr b1 0), some (AV.ptr b101 0), some (AV.ptr b102 0), some (vw B6), some (vw A7), some (vi B29)] h))) (fun ls h' => ∃ y, ls = ((fun (z : Nat × Nat × List Nat × Nat × Nat × Nat × Nat × Nat × List Nat × Nat × Nat × Nat × Nat × Nat × List Nat × Nat × AV × AV × List AV × AV × List AV × (Nat → Prop) × Hp × (Nat → Prop) × Hp) => [(0, (AV.ptr b1 0)), (2, (AV.ptr b101 0)), (3, (AV.ptr b102 0)), (6, (vw B6)), (7, (vw z.2.1)), (29, (vi B29))]) y).map (fun p => some p.2) ∧ (fun (z : Nat × Nat × List Nat × Nat × Nat × Nat × Nat × Nat × List Nat × Nat × Nat × Nat × Nat × Nat × List Nat × Nat × AV × AV × List AV × AV × List AV × (Nat → Prop) × Hp × (Nat → Prop) × Hp) (h' : Hp) => rinstr_l1 B6 B29 z.1 z.2.1 z.2.2.1 z.2.2.2.1 z.2.2.2.2.1 z.2.2.2.2.2.1 z.2.2.2.2.2.2.1 z.2.2.2.2.2.2.2.1 z.2.2.2.2.2.2.2.2.1 z.2.2.2.2.2.2.2.2.2.1 z.2.2.2.2.2.2.2.2.2.2.1 z.2.2.2.2.2.2.2.2.2.2.2.1 z.2.2.2.2.2.2.2.2.2.2.2.2.1 z.2.2.2.2.2.2.2.2.2.2.2.2.2.1 z.2.2.2.2.2.2.2.2.2.2.2.2.2.2.1 z.2.2.2.2.2.2.2.2.2.2.2.2.2.2.2.1 = some o ∧ (z.2.1 < 4294967296) ∧ (BIn G h0 z.2.2.2.2.2.2.2.2.2.2.2.2.2.2.2.2.1 z.2.2.1) ∧ (z.2.2.2.2.2.1 < 4294967296) ∧ (z.2.2.2.2.2.2.1 < 4294967296) ∧ (z.2.2.2.2.2.2.2.1 < 18446744073709551616) ∧ (Eng.Rows (rU .u32) z.2.2.2.2.2.2.2.2.2.2.2.2.2.2.2.2.2.2.2.2.2.2.2.1 z.2.2.2.2.2.2.2.2.2.2.2.2.2.2.2.2.2.2.2.2.2.2.2.2 z.2.2.2.2.2.2.2.2.2.2.2.2.2.2.2.2.2.2.1 z.2.2.2.2.2.2.2.2.1) ∧ (z.2.2.2.2.2.2.2.2.2.2.2.1 < 4294967296) ∧ (z.2.2.2.2.2.2.2.2.2.2.2.2.1 < 4294967296) ∧ (z.2.2.2.2.2.2.2.2.2.2.2.2.2.1 < 18446744073709551616) ∧ (Eng.Rows (rU .u32) z.2.2.2.2.2.2.2.2.2.2.2.2.2.2.2.2.2.2.2.2.2.1 z.2.2.2.2.2.2.2.2.2.2.2.2.2.2.2.2.2.2.2.2.2.2.1 z.2.2.2.2.2.2.2.2.2.2.2.2.2.2.2.2.2.2.2.2.1 z.2.2.2.2.2.2.2.2.2.2.2.2.2.2.1) ∧ (Up ZG_105 Zk_105 z.2.2.2.2.2.2.2.2.2.2.2.2.2.2.2.2.2.2.2.2.2.1 z.2.2.2.2.2.2.2.2.2.2.2.2.2.2.2.2.2.2.2.2.2.2.1) ∧ (Up ZG_103 Zk_103 z.2.2.2.2.2.2.2.2.2.2.2.2.2.2.2.2.2.2.2.2.2.2.2.1 z.2.2.2.2.2.2.2.2.2.2.2.2.2.2.2.2.2.2.2.2.2.2.2.2) ∧ Eng.Sep (Cel b1 (z.2.2.2.2.2.2.2.2.2.2.2.2.2.2.2.2.1 :: (vi z.2.2.2.1) :: rest) :: Cel b102 [(vi z.2.2.2.2.1), (vw z.2.2.2.2.2.1), (vw z.2.2.2.2.2.2.1), (vq z.2.2.2.2.2.2.2.1), z.2.2.2.2.2.2.2.2.2.2.2.2.2.2.2.2.2.1, (vi z.2.2.2.2.2.2.2.2.2.1)] :: OwnO 1 z.2.2.2.2.2.2.2.2.2.2.2.2.2.2.2.2.2.1 z.2.2.2.2.2.2.2.2.1.length z.2.2.2.2.2.2.2.2.2.2.2.2.2.2.2.2.2.2.1 :: Cel b101 [(vi z.2.2.2.2.2.2.2.2.2.2.1), (vw z.2.2.2.2.2.2.2.2.2.2.2.1), (vw z.2.2.2.2.2.2.2.2.2.2.2.2.1), (vq z.2.2.2.2.2.2.2.2.2.2.2.2.2.1), z.2.2.2.2.2.2.2.2.2.2.2.2.2.2.2.2.2.2.2.1, (vi z.2.2.2.2.2.2.2.2.2.2.2.2.2.2.2.1)] :: OwnO 1 z.2.2.2.2.2.2.2.2.2.2.2.2.2.2.2.2.2.2.2.1 z.2.2.2.2.2.2.2.2.2.2.2.2.2.2.1.length z.2.2.2.2.2.2.2.2.2.2.2.2.2.2.2.2.2.2.2.2.1 :: Frz z.2.2.2.2.2.2.2.2.2.2.2.2.2.2.2.2.2.2.2.2.2.1 z.2.2.2.2.2.2.2.2.2.2.2.2.2.2.2.2.2.2.2.2.2.2.1 :: Frz z.2.2.2.2.2.2.2.2.2.2.2.2.2.2.2.2.2.2.2.2.2.2.2.1 z.2.2.2.2.2.2.2.2.2.2.2.2.2.2.2.2.2.2.2.2.2.2.2.2 :: Frz G h0 :: R) h') y h' ∧ (fun (z : Nat × Nat × List Nat × Nat × Nat × Nat × Nat × Nat × List Nat × Nat × Nat × Nat × Nat × Nat × List Nat × Nat × AV × AV × List AV × AV × List AV × (Nat → Prop) × Hp × (Nat → Prop) × Hp) => z.1) y < (fun (z : Nat × Nat × List Nat × Nat × Nat × Nat × Nat × Nat × List Nat × Nat × Nat × Nat × Nat × Nat × List Nat × Nat × AV × AV × List AV × AV × List AV × (Nat → Prop) × Hp × (Nat → Prop) × Hp) => z.1) (n, A7, Q1_0, Q1_1, Q102_0, Q102_1, Q102_2, Q102_3, Q102_4, Q102_5, Q101_0, Q101_1, Q101_2, Q101_3, Q101_4, Q101_5, wQ1_0_1, wQ102_4, LQ102_4, wQ101_4, LQ101_4, G_105, k_105, G_103, k_103)) (fun i ls h' => ∃ y, ls = ((fun (z : Nat × Nat × List Nat × Nat × Nat × Nat × Nat × Nat × List Nat × Nat × Nat × Nat × Nat × Nat × List Nat × Nat × AV × AV × List AV × AV × List AV × (Nat → Prop) × Hp × (Nat → Prop) × Hp) => [(0, (AV.ptr b1 0)), (2, (AV.ptr b101 0)), (3, (AV.ptr b102 0)), (6, (vw B6)), (7, (vw z.2.1)), (29, (vi B29))]) y).map (fun p => some p.2) ∧ (fun (i : Nat) (z : Nat × Nat × List Nat × Nat × Nat × Nat × Nat × Nat × List Nat × Nat × Nat × Nat × Nat × Nat × List Nat × Nat × AV × AV × List AV × AV × List AV × (Nat → Prop) × Hp × (Nat → Prop) × Hp) (h' : Hp) => (i = 1) ∧ (i = 1 → o = (z.2.1, z.2.2.1, z.2.2.2.1, z.2.2.2.2.1, z.2.2.2.2.2.1, z.2.2.2.2.2.2.1, z.2.2.2.2.2.2.2.1, z.2.2.2.2.2.2.2.2.1, z.2.2.2.2.2.2.2.2.2.1, z.2.2.2.2.2.2.2.2.2.2.1, z.2.2.2.2.2.2.2.2.2.2.2.1, z.2.2.2.2.2.2.2.2.2.2.2.2.1, z.2.2.2.2.2.2.2.2.2.2.2.2.2.1, z.2.2.2.2.2.2.2.2.2.2.2.2.2.2.1, z.2.2.2.2.2.2.2.2.2.2.2.2.2.2.2.1) ∧ (z.2.1 < 4294967296) ∧ (BIn G h0 z.2.2.2.2.2.2.2.2.2.2.2.2.2.2.2.2.1 z.2.2.1) ∧ (z.2.2.2.2.2.1 < 4294967296) ∧ (z.2.2.2.2.2.2.1 < 4294967296) ∧ (z.2.2.2.2.2.2.2.1 < 18446744073709551616) ∧ (Eng.Rows (rU .u32) z.2.2.2.2.2.2.2.2.2.2.2.2.2.2.2.2.2.2.2.2.2.2.2.1 z.2.2.2.2.2.2.2.2.2.2.2.2.2.2.2.2.2.2.2.2.2.2.2.2 z.2.2.2.2.2.2.2.2.2.2.2.2.2.2.2.2.2.2.1 z.2.2.2.2.2.2.2.2.1) ∧ (z.2.2.2.2.2.2.2.2.2.2.2.1 < 4294967296) ∧ (z.2.2.2.2.2.2.2.2.2.2.2.2.1 < 4294967296) ∧ (z.2.2.2.2.2.2.2.2.2.2.2.2.2.1 < 18446744073709551616) ∧ (Eng.Rows (rU .u32) z.2.2.2.2.2.2.2.2.2.2.2.2.2.2.2.2.2.2.2.2.2.1 z.2.2.2.2.2.2.2.2.2.2.2.2.2.2.2.2.2.2.2.2.2.2.1 z.2.2.2.2.2.2.2.2.2.2.2.2.2.2.2.2.2.2.2.2.1 z.2.2.2.2.2.2.2.2.2.2.2.2.2.2.1) ∧ (Up ZG_105 Zk_105 z.2.2.2.2.2.2.2.2.2.2.2.2.2.2.2.2.2.2.2.2.2.1 z.2.2.2.2.2.2.2.2.2.2.2.2.2.2.2.2.2.2.2.2.2.2.1) ∧ (Up ZG_103 Zk_103 z.2.2.2.2.2.2.2.2.2.2.2.2.2.2.2.2.2.2.2.2.2.2.2.1 z.2.2.2.2.2.2.2.2.2.2.2.2.2.2.2.2.2.2.2.2.2.2.2.2) ∧ Eng.Sep (Cel b1 (z.2.2.2.2.2.2.2.2.2.2.2.2.2.2.2.2.1 :: (vi z.2.2.2.1) :: rest) :: Cel b102 [(vi z.2.2.2.2.1), (vw z.2.2.2.2.2.1), (vw z.2.2.2.2.2.2.1), (vq z.2.2.2.2.2.2.2.1), z.2.2.2.2.2.2.2.2.2.2.2.2.2.2.2.2.2.1, (vi z.2.2.2.2.2.2.2.2.2.1)] :: OwnO 1 z.2.2.2.2.2.2.2.2.2.2.2.2.2.2.2.2.2.1 z.2.2.2.2.2.2.2.2.1.length z.2.2.2.2.2.2.2.2.2.2.2.2.2.2.2.2.2.2.1 :: Cel b101 [(vi z.2.2.2.2.2.2.2.2.2.2.1), (vw z.2.2.2.2.2.2.2.2.2.2.2.1), (vw z.2.2.2.2.2.2.2.2.2.2.2.2.1), (vq z.2.2.2.2.2.2.2.2.2.2.2.2.2.1), z.2.2.2.2.2.2.2.2.2.2.2.2.2.2.2.2.2.2.2.1, (vi z.2.2.2.2.2.2.2.2.2.2.2.2.2.2.2.1)] :: OwnO 1 z.2.2.2.2.2.2.2.2.2.2.2.2.2.2.2.2.2.2.2.1 z.2.2.2.2.2.2.2.2.2.2.2.2.2.2.1.length z.2.2.2.2.2.2.2.2.2.2.2.2.2.2.2.2.2.2.2.2.1 :: Frz z.2.2.2.2.2.2.2.2.2.2.2.2.2.2.2.2.2.2.2.2.2.1 z.2.2.2.2.2.2.2.2.2.2.2.2.2.2.2.2.2.2.2.2.2.2.1 :: Frz z.2.2.2.2.2.2.2.2.2.2.2.2.2.2.2.2.2.2.2.2.2.2.2.1 z.2.2.2.2.2.2.2.2.2.2.2.2.2.2.2.2.2.2.2.2.2.2.2.2 :: Frz G h0 :: R) h')) i y h') (fun ls h' => (fun (ls : List (Option AV)) (h' : Hp) => False) ls h')) (by kernel_rfl) ?_
  refine ⟨fun c1 => ?_, fun c1 => ?_⟩
  · replace c1 := ltI_t c1
    replace hp := ift hp c1
    refine ⟨cel_load S (i := 0) rfl rfl, ?_⟩
    refine ⟨fun c2 => ?_, fun c2 => ?_⟩
    · replace c2 := eqI_t c2
      replace hp := ift hp c2
      refine ⟨cel_load S (i := 1) rfl rfl, ?_⟩
      refine ⟨⟨again_of (rfl) (avEq_ptr _ _), again_of (rfl) (avEq_ptr _ _), again_of (rfl) (avEq_ptr _ _), again_of (cel_load S (i := 1) rfl rfl) (own_same S (i := 2) rfl), again_of (rfl) (avEq_ptr _ _), trivial⟩, ?_⟩
      have S3 := S.front 7 rfl
      have S4 := S3.front 1 rfl
      have ⟨x5, hb6, hp⟩ := ob_inv hp
      obtain ⟨v10, h11, q12, w15, e13, f9, f16, S14⟩ := h_ru32 fQ1_0_2 hb6 S4
      replace e13 := e13.symm
      subst e13
      refine ⟨x5, w15, h11, q12, ?_⟩
      have S19 := own_new S14 1 1 [(vw x5.2.2)] true rfl
      refine ⟨⟨again_of (cel_load S19 (i := 3) rfl rfl) (own_same S19 (i := 4) rfl), again_of (rfl) (avEq_ptr _ _), trivial⟩, ?_⟩
      have ⟨g21, hp⟩ := gd_inv hp
      obtain ⟨e20, qe20, se20⟩ := own_append (bytes := 4) call S19 (i := 4) rfl (x := (AV.slice (Hp.next h11) 0 1 1 1 true)) (m := 1) (xs := [(vw x5.2.2)]) (fun z k => own_src S19 (i := 0) rfl z k) (own_L S19 (i := 0) rfl) (all_cell rfl all_cell0) g21 (by omega)
      obtain ⟨L22, rL22, eL22⟩ : ∃ L, Eng.Rows (rU .u32) G_103 k_103 L (Q102_4 ++ [x5.2.2]) ∧ LQ102_4 ++ [(vw x5.2.2)] = L := ⟨_, (Rows.snoc fQ102_4 (a := (rU .u32)) (x := x5.2.2) ⟨rfl, f9⟩), rfl⟩
      have S24 : Sep (OwnO 1 (AV.slice (Hp.next h11) 0 1 1 1 true) 1 [(vw x5.2.2)] :: Cel b1 (w15 :: (vi x5.2.1) :: rest) :: Frz G h0 :: Cel b102 [(vi Q102_0), (vw Q102_1), (vw Q102_2), (vq Q102_3), wQ102_4, (vi Q102_5)] :: OwnO 1 e20.v ((Q102_4 ++ [x5.2.2]).length) L22 :: Cel b101 [(vi Q101_0), (vw Q101_1), (vw Q101_2), (vq Q101_3), wQ101_4, (vi Q101_5)] :: OwnO 1 wQ101_4 Q101_4.length LQ101_4 :: Frz G_105 k_105 :: Frz G_103 k_103 :: R) e20.h := (by have z := se20; rw [eL22, show Q102_4.length + 1 = (Q102_4 ++ [x5.2.2]).length from by simp] at z; exact z)
      have S25 := S24.tail
      refine ⟨e20, qe20, ?_⟩
      refine ⟨⟨again_of (rfl) (avEq_ptr _ _), trivial⟩, ?_⟩
      obtain ⟨e26, qe26, se26⟩ := cel_store call S25 (i := 2) (o := 4) (x := e20.v) rfl (lb rfl) (own_cell S25 (i := 3) rfl)
      refine ⟨e26, qe26, ?_⟩
      refine ⟨u_add rfl, ?_⟩
      have g28 : (A7 + 1) % 4294967296 < 4294967296 := Nat.mod_lt _ (by decide)
      have S29 := se26.front 1 rfl
      have S30 := S29.front 7 rfl
      have S31 := S30.front 7 rfl
      have S32 := S31.front 7 rfl
      have S33 := S32.front 7 rfl
      have S34 := S33.front 7 rfl
      have S35 := S34.front 7 rfl
      have S36 := S35.front 7 rfl
      refine ⟨(m, (A7 + 1) % 4294967296, x5.1, x5.2.1, Q102_0, Q102_1, Q102_2, Q102_3, Q102_4 ++ [x5.2.2], Q102_5, Q101_0, Q101_1, Q101_2, Q101_3, Q101_4, Q101_5, w15, e20.v, L22, wQ101_4, LQ101_4, G_105, k_105, G_103, k_103), rfl, ⟨hp, g28, f16, fQ102_1_1, fQ102_2_1, fQ102_3_1, rL22, fQ101_1_1, fQ101_2_1, fQ101_3_1, fQ101_4, fU_105, fU_103, S36⟩, by show m < n; omega⟩
    replace c2 := eqI_f c2
    replace hp := iff0 hp (c2)
    refine ⟨(m, A7, Q1_0, Q1_1, Q102_0, Q102_1, Q102_2, Q102_3, Q102_4, Q102_5, Q101_0, Q101_1, Q101_2, Q101_3, Q101_4, Q101_5, wQ1_0_1, wQ102_4, LQ102_4, wQ101_4, LQ101_4, G_105, k_105, G_103, k_103), rfl, rfl, fun _ => ⟨(Option.some.inj hp).symm, fA7_1, fQ1_0_2, fQ102_1_1, fQ102_2_1, fQ102_3_1, fQ102_4, fQ101_1_1, fQ101_2_1, fQ101_3_1, fQ101_4, fU_105, fU_103, S⟩⟩
  replace c1 := ltI_f c1
  replace hp := iff0 hp (nltO c1)
  refine ⟨(m, A7, Q1_0, Q1_1, Q102_0, Q102_1, Q102_2, Q102_3, Q102_4, Q102_5, Q101_0, Q101_1, Q101_2, Q101_3, Q101_4, Q101_5, wQ1_0_1, wQ102_4, LQ102_4, wQ101_4, LQ101_4, G_105, k_105, G_103, k_103), rfl, rfl, fun _ => ⟨(Option.some.inj hp).symm, fA7_1, fQ1_0_2, fQ102_1_1, fQ102_2_1, fQ102_3_1, fQ102_4, fQ101_1_1, fQ101_2_1, fQ101_3_1, fQ101_4, fU_105, fU_103, S⟩⟩
theorem rinstr_l1_t {call : CallT} {N : Nat} {b1 : Nat} {rest : List AV} {b102 : Nat} {b101 : Nat} {ZG_105 : Nat → Prop} {Zk_105 : Hp} {ZG_103 : Nat → Prop} {Zk_103 : Hp} {G : Nat → Prop} {h0 : Hp} {R : List AObj} {B6 : Nat} {B29 : Nat} (fB6_1 : B6 < 4294967296) (h_rfail : C_rfail call) (h_rkind : KindS call 55) (h_rop : C_rop call) (h_rzero : C_rzero call) (h_ru32 : C_ru32 call) (h_rs32 : C_rs32 call) (h_rs64 : C_rs64 call) (h_rblock : C_rblock call) (h_rvalue : C_rvalue call) (h_rref : C_rref call) {o : Nat × List Nat × Nat × Nat × Nat × Nat × Nat × List Nat × Nat × Nat × Nat × Nat × Nat × List Nat × Nat} {n : Nat} {A7 : Nat} {Q1_0 : List Nat} {Q1_1 : Nat} {Q102_0 : Nat} {Q102_1 : Nat} {Q102_2 : Nat} {Q102_3 : Nat} {Q102_4 : List Nat} {Q102_5 : Nat} {Q101_0 : Nat} {Q101_1 : Nat} {Q101_2 : Nat} {Q101_3 : Nat} {Q101_4 : List Nat} {Q101_5 : Nat} {wQ1_0_1 : AV} {wQ102_4 : AV} {LQ102_4 : List AV} {wQ101_4 : AV} {LQ101_4 : List AV} {G_105 : Nat → Prop} {k_105 : Hp} {G_103 : Nat → Prop} {k_103 : Hp} {h : Hp} (hi : (fun (z : Nat × Nat × List Nat × Nat × Nat × Nat × Nat × Nat × List Nat × Nat × Nat × Nat × Nat × Nat × List Nat × Nat × AV × AV × List AV × AV × List AV × (Nat → Prop) × Hp × (Nat → Prop) × Hp) (h' : Hp) => rinstr_l1 B6 B29 z.1 z.2.1 z.2.2.1 z.2.2.2.1 z.2.2.2.2.1 z.2.2.2.2.2.1 z.2.2.2.2.2.2.1 z.2.2.2.2.2.2.2.1 z.2.2.2.2.2.2.2.2.1 z.2.2.2.2.2.2.2.2.2.1 z.2.2.2.2.2.2.2.2.2.2.1 z.2.2.2.2.2.2.2.2.2.2.2.1 z.2.2.2.2.2.2.2.2.2.2.2.2.1 z.2.2.2.2.2.2.2.2.2.2.2.2.2.1 z.2.2.2.2.2.2.2.2.2.2.2.2.2.2.1 z.2.2.2.2.2.2.2.2.2.2.2.2.2.2.2.1 = some o ∧ (z.2.1 < 4294967296) ∧ (BIn G h0 z.2.2.2.2.2.2.2.2.2.2.2.2.2.2.2.2.1 z.2.2.1) ∧ (z.2.2.2.2.2.1 < 4294967296) ∧ (z.2.2.2.2.2.2.1 < 4294967296) ∧ (z.2.2.2.2.2.2.2.1 < 18446744073709551616) ∧ (Eng.Rows (rU .u32) z.2.2.2.2.2.2.2.2.2.2.2.2.2.2.2.2.2.2.2.2.2.2.2.1 z.2.2.2.2.2.2.2.2.2.2.2.2.2.2.2.2.2.2.2.2.2.2.2.2 z.2.2.2.2.2.2.2.2.2.2.2.2.2.2.2.2.2.2.1 z.2.2.2.2.2.2.2.2.1) ∧ (z.2.2.2.2.2.2.2.2.2.2.2.1 < 4294967296) ∧ (z.2.2.2.2.2.2.2.2.2.2.2.2.1 < 4294967296) ∧ (z.2.2.2.2.2.2.2.2.2.2.2.2.2.1 < 18446744073709551616) ∧ (Eng.Rows (rU .u32) z.2.2.2.2.2.2.2.2.2.2.2.2.2.2.2.2.2.2.2.2.2.1 z.2.2.2.2.2.2.2.2.2.2.2.2.2.2.2.2.2.2.2.2.2.2.1 z.2.2.2.2.2.2.2.2.2.2.2.2.2.2.2.2.2.2.2.2.1 z.2.2.2.2.2.2.2.2.2.2.2.2.2.2.1) ∧ (Up ZG_105 Zk_105 z.2.2.2.2.2.2.2.2.2.2.2.2.2.2.2.2.2.2.2.2.2.1 z.2.2.2.2.2.2.2.2.2.2.2.2.2.2.2.2.2.2.2.2.2.2.1) ∧ (Up ZG_103 Zk_103 z.2.2.2.2.2.2.2.2.2.2.2.2.2.2.2.2.2.2.2.2.2.2.2.1 z.2.2.2.2.2.2.2.2.2.2.2.2.2.2.2.2.2.2.2.2.2.2.2.2) ∧ Eng.Sep (Cel b1 (z.2.2.2.2.2.2.2.2.2.2.2.2.2.2.2.2.1 :: (vi z.2.2.2.1) :: rest) :: Cel b102 [(vi z.2.2.2.2.1), (vw z.2.2.2.2.2.1), (vw z.2.2.2.2.2.2.1), (vq z.2.2.2.2.2.2.2.1), z.2.2.2.2.2.2.2.2.2.2.2.2.2.2.2.2.2.1, (vi z.2.2.2.2.2.2.2.2.2.1)] :: OwnO 1 z.2.2.2.2.2.2.2.2.2.2.2.2.2.2.2.2.2.1 z.2.2.2.2.2.2.2.2.1.length z.2.2.2.2.2.2.2.2.2.2.2.2.2.2.2.2.2.2.1 :: Cel b101 [(vi z.2.2.2.2.2.2.2.2.2.2.1), (vw z.2.2.2.2.2.2.2.2.2.2.2.1), (vw z.2.2.2.2.2.2.2.2.2.2.2.2.1), (vq z.2.2.2.2.2.2.2.2.2.2.2.2.2.1), z.2.2.2.2.2.2.2.2.2.2.2.2.2.2.2.2.2.2.2.1, (vi z.2.2.2.2.2.2.2.2.2.2.2.2.2.2.2.1)] :: OwnO 1 z.2.2.2.2.2.2.2.2.2.2.2.2.2.2.2.2.2.2.2.1 z.2.2.2.2.2.2.2.2.2.2.2.2.2.2.1.length z.2.2.2.2.2.2.2.2.2.2.2.2.2.2.2.2.2.2.2.2.1 :: Frz z.2.2.2.2.2.2.2.2.2.2.2.2.2.2.2.2.2.2.2.2.2.1 z.2.2.2.2.2.2.2.2.2.2.2.2.2.2.2.2.2.2.2.2.2.2.1 :: Frz z.2.2.2.2.2.2.2.2.2.2.2.2.2.2.2.2.2.2.2.2.2.2.2.1 z.2.2.2.2.2.2.2.2.2.2.2.2.2.2.2.2.2.2.2.2.2.2.2.2 :: Frz G h0 :: R) h') (n, A7, Q1_0, Q1_1, Q102_0, Q102_1, Q102_2, Q102_3, Q102_4, Q102_5, Q101_0, Q101_1, Q101_2, Q101_3, Q101_4, Q101_5, wQ1_0_1, wQ102_4, LQ102_4, wQ101_4, LQ101_4, G_105, k_105, G_103, k_103) h) (hN : n < N) (hN' : 90000 < N) {t : T} (ht : Has ((fun (z : Nat × Nat × List Nat × Nat × Nat × Nat × Nat × Nat × List Nat × Nat × Nat × Nat × Nat × Nat × List Nat × Nat × AV × AV × List AV × AV × List AV × (Nat → Prop) × Hp × (Nat → Prop) × Hp) => [(0, (AV.ptr b1 0)), (2, (AV.ptr b101 0)), (3, (AV.ptr b102 0)), (6, (vw B6)), (7, (vw z.2.1)), (29, (vi B29))]) (n, A7, Q1_0, Q1_1, Q102_0, Q102_1, Q102_2, Q102_3, Q102_4, Q102_5, Q101_0, Q101_1, Q101_2, Q101_3, Q101_4, Q101_5, wQ1_0_1, wQ102_4, LQ102_4, wQ101_4, LQ101_4, G_105, k_105, G_103, k_103)) t) :
    (∃ i y t' h', evC call N (.loop rinstr_l1C) t h = .exit i t' h' ∧ Has ((fun (z : Nat × Nat × List Nat × Nat × Nat × Nat × Nat × Nat × List Nat × Nat × Nat × Nat × Nat × Nat × List Nat × Nat × AV × AV × List AV × AV × List AV × (Nat → Prop) × Hp × (Nat → Prop) × Hp) => [(0, (AV.ptr b1 0)), (2, (AV.ptr b101 0)), (3, (AV.ptr b102 0)), (6, (vw B6)), (7, (vw z.2.1)), (29, (vi B29))]) y) t' ∧ (fun (i : Nat) (z : Nat × Nat × List Nat × Nat × Nat × Nat × Nat × Nat × List Nat × Nat × Nat × Nat × Nat × Nat × List Nat × Nat × AV × AV × List AV × AV × List AV × (Nat → Prop) × Hp × (Nat → Prop) × Hp) (h' : Hp) => (i = 1) ∧ (i = 1 → o = (z.2.1, z.2.2.1, z.2.2.2.1, z.2.2.2.2.1, z.2.2.2.2.2.1, z.2.2.2.2.2.2.1, z.2.2.2.2.2.2.2.1, z.2.2.2.2.2.2.2.2.1, z.2.2.2.2.2.2.2.2.2.1, z.2.2.2.2.2.2.2.2.2.2.1, z.2.2.2.2.2.2.2.2.2.2.2.1, z.2.2.2.2.2.2.2.2.2.2.2.2.1, z.2.2.2.2.2.2.2.2.2.2.2.2.2.1, z.2.2.2.2.2.2.2.2.2.2.2.2.2.2.1, z.2.2.2.2.2.2.2.2.2.2.2.2.2.2.2.1) ∧ (z.2.1 < 4294967296) ∧ (BIn G h0 z.2.2.2.2.2.2.2.2.2.2.2.2.2.2.2.2.1 z.2.2.1) ∧ (z.2.2.2.2.2.1 < 4294967296) ∧ (z.2.2.2.2.2.2.1 < 4294967296) ∧ (z.2.2.2.2.2.2.2.1 < 18446744073709551616) ∧ (Eng.Rows (rU .u32) z.2.2.2.2.2.2.2.2.2.2.2.2.2.2.2.2.2.2.2.2.2.2.2.1 z.2.2.2.2.2.2.2.2.2.2.2.2.2.2.2.2.2.2.2.2.2.2.2.2 z.2.2.2.2.2.2.2.2.2.2.2.2.2.2.2.2.2.2.1 z.2.2.2.2.2.2.2.2.1) ∧ (z.2.2.2.2.2.2.2.2.2.2.2.1 < 4294967296) ∧ (z.2.2.2.2.2.2.2.2.2.2.2.2.1 < 4294967296) ∧ (z.2.2.2.2.2.2.2.2.2.2.2.2.2.1 < 18446744073709551616) ∧ (Eng.Rows (rU .u32) z.2.2.2.2.2.2.2.2.2.2.2.2.2.2.2.2.2.2.2.2.2.1 z.2.2.2.2.2.2.2.2.2.2.2.2.2.2.2.2.2.2.2.2.2.2.1 z.2.2.2.2.2.2.2.2.2.2.2.2.2.2.2.2.2.2.2.2.1 z.2.2.2.2.2.2.2.2.2.2.2.2.2.2.1) ∧ (Up ZG_105 Zk_105 z.2.2.2.2.2.2.2.2.2.2.2.2.2.2.2.2.2.2.2.2.2.1 z.2.2.2.2.2.2.2.2.2.2.2.2.2.2.2.2.2.2.2.2.2.2.1) ∧ (Up ZG_103 Zk_103 z.2.2.2.2.2.2.2.2.2.2.2.2.2.2.2.2.2.2.2.2.2.2.2.1 z.2.2.2.2.2.2.2.2.2.2.2.2.2.2.2.2.2.2.2.2.2.2.2.2) ∧ Eng.Sep (Cel b1 (z.2.2.2.2.2.2.2.2.2.2.2.2.2.2.2.2.1 :: (vi z.2.2.2.1) :: rest) :: Cel b102 [(vi z.2.2.2.2.1), (vw z.2.2.2.2.2.1), (vw z.2.2.2.2.2.2.1), (vq z.2.2.2.2.2.2.2.1), z.2.2.2.2.2.2.2.2.2.2.2.2.2.2.2.2.2.1, (vi z.2.2.2.2.2.2.2.2.2.1)] :: OwnO 1 z.2.2.2.2.2.2.2.2.2.2.2.2.2.2.2.2.2.1 z.2.2.2.2.2.2.2.2.1.length z.2.2.2.2.2.2.2.2.2.2.2.2.2.2.2.2.2.2.1 :: Cel b101 [(vi z.2.2.2.2.2.2.2.2.2.2.1), (vw z.2.2.2.2.2.2.2.2.2.2.2.1), (vw z.2.2.2.2.2.2.2.2.2.2.2.2.1), (vq z.2.2.2.2.2.2.2.2.2.2.2.2.2.1), z.2.2.2.2.2.2.2.2.2.2.2.2.2.2.2.2.2.2.2.1, (vi z.2.2.2.2.2.2.2.2.2.2.2.2.2.2.2.1)] :: OwnO 1 z.2.2.2.2.2.2.2.2.2.2.2.2.2.2.2.2.2.2.2.1 z.2.2.2.2.2.2.2.2.2.2.2.2.2.2.1.length z.2.2.2.2.2.2.2.2.2.2.2.2.2.2.2.2.2.2.2.2.1 :: Frz z.2.2.2.2.2.2.2.2.2.2.2.2.2.2.2.2.2.2.2.2.2.1 z.2.2.2.2.2.2.2.2.2.2.2.2.2.2.2.2.2.2.2.2.2.2.1 :: Frz z.2.2.2.2.2.2.2.2.2.2.2.2.2.2.2.2.2.2.2.2.2.2.2.1 z.2.2.2.2.2.2.2.2.2.2.2.2.2.2.2.2.2.2.2.2.2.2.2.2 :: Frz G h0 :: R) h')) i y h') ∨ (∃ t' h', evC call N (.loop rinstr_l1C) t h = .ret t' h' ∧ (fun (ls : List (Option AV)) (h' : Hp) => False) (slots [0, 2, 3, 6, 7, 29] t') h') :=
  loop_st (fun (z : Nat × Nat × List Nat × Nat × Nat × Nat × Nat × Nat × List Nat × Nat × Nat × Nat × Nat × Nat × List Nat × Nat × AV × AV × List AV × AV × List AV × (Nat → Prop) × Hp × (Nat → Prop) × Hp) => [(0, (AV.ptr b1 0)), (2, (AV.ptr b101 0)), (3, (AV.ptr b102 0)), (6, (vw B6)), (7, (vw z.2.1)), (29, (vi B29))]) [0, 2, 3, 6, 7, 29] (fun _ => rfl) (fun (z : Nat × Nat × List Nat × Nat × Nat × Nat × Nat × Nat × List Nat × Nat × Nat × Nat × Nat × Nat × List Nat × Nat × AV × AV × List AV × AV × List AV × (Nat → Prop) × Hp × (Nat → Prop) × Hp) (h' : Hp) => rinstr_l1 B6 B29 z.1 z.2.1 z.2.2.1 z.2.2.2.1 z.2.2.2.2.1 z.2.2.2.2.2.1 z.2.2.2.2.2.2.1 z.2.2.2.2.2.2.2.1 z.2.2.2.2.2.2.2.2.1 z.2.2.2.2.2.2.2.2.2.1 z.2.2.2.2.2.2.2.2.2.2.1 z.2.2.2.2.2.2.2.2.2.2.2.1 z.2.2.2.2.2.2.2.2.2.2.2.2.1 z.2.2.2.2.2.2.2.2.2.2.2.2.2.1 z.2.2.2.2.2.2.2.2.2.2.2.2.2.2.1 z.2.2.2.2.2.2.2.2.2.2.2.2.2.2.2.1 = some o ∧ (z.2.1 < 4294967296) ∧ (BIn G h0 z.2.2.2.2.2.2.2.2.2.2.2.2.2.2.2.2.1 z.2.2.1) ∧ (z.2.2.2.2.2.1 < 4294967296) ∧ (z.2.2.2.2.2.2.1 < 4294967296) ∧ (z.2.2.2.2.2.2.2.1 < 18446744073709551616) ∧ (Eng.Rows (rU .u32) z.2.2.2.2.2.2.2.2.2.2.2.2.2.2.2.2.2.2.2.2.2.2.2.1 z.2.2.2.2.2.2.2.2.2.2.2.2.2.2.2.2.2.2.2.2.2.2.2.2 z.2.2.2.2.2.2.2.2.2.2.2.2.2.2.2.2.2.2.1 z.2.2.2.2.2.2.2.2.1) ∧ (z.2.2.2.2.2.2.2.2.2.2.2.1 < 4294967296) ∧ (z.2.2.2.2.2.2.2.2.2.2.2.2.1 < 4294967296) ∧ (z.2.2.2.2.2.2.2.2.2.2.2.2.2.1 < 18446744073709551616) ∧ (Eng.Rows (rU .u32) z.2.2.2.2.2.2.2.2.2.2.2.2.2.2.2.2.2.2.2.2.2.1 z.2.2.2.2.2.2.2.2.2.2.2.2.2.2.2.2.2.2.2.2.2.2.1 z.2.2.2.2.2.2.2.2.2.2.2.2.2.2.2.2.2.2.2.2.1 z.2.2.2.2.2.2.2.2.2.2.2.2.2.2.1) ∧ (Up ZG_105 Zk_105 z.2.2.2.2.2.2.2.2.2.2.2.2.2.2.2.2.2.2.2.2.2.1 z.2.2.2.2.2.2.2.2.2.2.2.2.2.2.2.2.2.2.2.2.2.2.1) ∧ (Up ZG_103 Zk_103 z.2.2.2.2.2.2.2.2.2.2.2.2.2.2.2.2.2.2.2.2.2.2.2.1 z.2.2.2.2.2.2.2.2.2.2.2.2.2.2.2.2.2.2.2.2.2.2.2.2) ∧ Eng.Sep (Cel b1 (z.2.2.2.2.2.2.2.2.2.2.2.2.2.2.2.2.1 :: (vi z.2.2.2.1) :: rest) :: Cel b102 [(vi z.2.2.2.2.1), (vw z.2.2.2.2.2.1), (vw z.2.2.2.2.2.2.1), (vq z.2.2.2.2.2.2.2.1), z.2.2.2.2.2.2.2.2.2.2.2.2.2.2.2.2.2.1, (vi z.2.2.2.2.2.2.2.2.2.1)] :: OwnO 1 z.2.2.2.2.2.2.2.2.2.2.2.2.2.2.2.2.2.1 z.2.2.2.2.2.2.2.2.1.length z.2.2.2.2.2.2.2.2.2.2.2.2.2.2.2.2.2.2.1 :: Cel b101 [(vi z.2.2.2.2.2.2.2.2.2.2.1), (vw z.2.2.2.2.2.2.2.2.2.2.2.1), (vw z.2.2.2.2.2.2.2.2.2.2.2.2.1), (vq z.2.2.2.2.2.2.2.2.2.2.2.2.2.1), z.2.2.2.2.2.2.2.2.2.2.2.2.2.2.2.2.2.2.2.1, (vi z.2.2.2.2.2.2.2.2.2.2.2.2.2.2.2.1)] :: OwnO 1 z.2.2.2.2.2.2.2.2.2.2.2.2.2.2.2.2.2.2.2.1 z.2.2.2.2.2.2.2.2.2.2.2.2.2.2.1.length z.2.2.2.2.2.2.2.2.2.2.2.2.2.2.2.2.2.2.2.2.1 :: Frz z.2.2.2.2.2.2.2.2.2.2.2.2.2.2.2.2.2.2.2.2.2.1 z.2.2.2.2.2.2.2.2.2.2.2.2.2.2.2.2.2.2.2.2.2.2.1 :: Frz z.2.2.2.2.2.2.2.2.2.2.2.2.2.2.2.2.2.2.2.2.2.2.2.1 z.2.2.2.2.2.2.2.2.2.2.2.2.2.2.2.2.2.2.2.2.2.2.2.2 :: Frz G h0 :: R) h') (fun (z : Nat × Nat × List Nat × Nat × Nat × Nat × Nat × Nat × List Nat × Nat × Nat × Nat × Nat × Nat × List Nat × Nat × AV × AV × List AV × AV × List AV × (Nat → Prop) × Hp × (Nat → Prop) × Hp) => z.1) (fun (i : Nat) (z : Nat × Nat × List Nat × Nat × Nat × Nat × Nat × Nat × List Nat × Nat × Nat × Nat × Nat × Nat × List Nat × Nat × AV × AV × List AV × AV × List AV × (Nat → Prop) × Hp × (Nat → Prop) × Hp) (h' : Hp) => (i = 1) ∧ (i = 1 → o = (z.2.1, z.2.2.1, z.2.2.2.1, z.2.2.2.2.1, z.2.2.2.2.2.1, z.2.2.2.2.2.2.1, z.2.2.2.2.2.2.2.1, z.2.2.2.2.2.2.2.2.1, z.2.2.2.2.2.2.2.2.2.1, z.2.2.2.2.2.2.2.2.2.2.1, z.2.2.2.2.2.2.2.2.2.2.2.1, z.2.2.2.2.2.2.2.2.2.2.2.2.1, z.2.2.2.2.2.2.2.2.2.2.2.2.2.1, z.2.2.2.2.2.2.2.2.2.2.2.2.2.2.1, z.2.2.2.2.2.2.2.2.2.2.2.2.2.2.2.1) ∧ (z.2.1 < 4294967296) ∧ (BIn G h0 z.2.2.2.2.2.2.2.2.2.2.2.2.2.2.2.2.1 z.2.2.1) ∧ (z.2.2.2.2.2.1 < 4294967296) ∧ (z.2.2.2.2.2.2.1 < 4294967296) ∧ (z.2.2.2.2.2.2.2.1 < 18446744073709551616) ∧ (Eng.Rows (rU .u32) z.2.2.2.2.2.2.2.2.2.2.2.2.2.2.2.2.2.2.2.2.2.2.2.1 z.2.2.2.2.2.2.2.2.2.2.2.2.2.2.2.2.2.2.2.2.2.2.2.2 z.2.2.2.2.2.2.2.2.2.2.2.2.2.2.2.2.2.2.1 z.2.2.2.2.2.2.2.2.1) ∧ (z.2.2.2.2.2.2.2.2.2.2.2.1 < 4294967296) ∧ (z.2.2.2.2.2.2.2.2.2.2.2.2.1 < 4294967296) ∧ (z.2.2.2.2.2.2.2.2.2.2.2.2.2.1 < 18446744073709551616) ∧ (Eng.Rows (rU .u32) z.2.2.2.2.2.2.2.2.2.2.2.2.2.2.2.2.2.2.2.2.2.1 z.2.2.2.2.2.2.2.2.2.2.2.2.2.2.2.2.2.2.2.2.2.2.1 z.2.2.2.2.2.2.2.2.2.2.2.2.2.2.2.2.2.2.2.2.1 z.2.2.2.2.2.2.2.2.2.2.2.2.2.2.1) ∧ (Up ZG_105 Zk_105 z.2.2.2.2.2.2.2.2.2.2.2.2.2.2.2.2.2.2.2.2.2.1 z.2.2.2.2.2.2.2.2.2.2.2.2.2.2.2.2.2.2.2.2.2.2.1) ∧ (Up ZG_103 Zk_103 z.2.2.2.2.2.2.2.2.2.2.2.2.2.2.2.2.2.2.2.2.2.2.2.1 z.2.2.2.2.2.2.2.2.2.2.2.2.2.2.2.2.2.2.2.2.2.2.2.2) ∧ Eng.Sep (Cel b1 (z.2.2.2.2.2.2.2.2.2.2.2.2.2.2.2.2.1 :: (vi z.2.2.2.1) :: rest) :: Cel b102 [(vi z.2.2.2.2.1), (vw z.2.2.2.2.2.1), (vw z.2.2.2.2.2.2.1), (vq z.2.2.2.2.2.2.2.1), z.2.2.2.2.2.2.2.2.2.2.2.2.2.2.2.2.2.1, (vi z.2.2.2.2.2.2.2.2.2.1)] :: OwnO 1 z.2.2.2.2.2.2.2.2.2.2.2.2.2.2.2.2.2.1 z.2.2.2.2.2.2.2.2.1.length z.2.2.2.2.2.2.2.2.2.2.2.2.2.2.2.2.2.2.1 :: Cel b101 [(vi z.2.2.2.2.2.2.2.2.2.2.1), (vw z.2.2.2.2.2.2.2.2.2.2.2.1), (vw z.2.2.2.2.2.2.2.2.2.2.2.2.1), (vq z.2.2.2.2.2.2.2.2.2.2.2.2.2.1), z.2.2.2.2.2.2.2.2.2.2.2.2.2.2.2.2.2.2.2.1, (vi z.2.2.2.2.2.2.2.2.2.2.2.2.2.2.2.1)] :: OwnO 1 z.2.2.2.2.2.2.2.2.2.2.2.2.2.2.2.2.2.2.2.1 z.2.2.2.2.2.2.2.2.2.2.2.2.2.2.1.length z.2.2.2.2.2.2.2.2.2.2.2.2.2.2.2.2.2.2.2.2.1 :: Frz z.2.2.2.2.2.2.2.2.2.2.2.2.2.2.2.2.2.2.2.2.2.1 z.2.2.2.2.2.2.2.2.2.2.2.2.2.2.2.2.2.2.2.2.2.2.1 :: Frz z.2.2.2.2.2.2.2.2.2.2.2.2.2.2.2.2.2.2.2.2.2.2.2.1 z.2.2.2.2.2.2.2.2.2.2.2.2.2.2.2.2.2.2.2.2.2.2.2.2 :: Frz G h0 :: R) h')) (fun (ls : List (Option AV)) (h' : Hp) => False) (fun ⟨n, A7, Q1_0, Q1_1, Q102_0, Q102_1, Q102_2, Q102_3, Q102_4, Q102_5, Q101_0, Q101_1, Q101_2, Q101_3, Q101_4, Q101_5, wQ1_0_1, wQ102_4, LQ102_4, wQ101_4, LQ101_4, G_105, k_105, G_103, k_103⟩ t h hi => rinstr_l1_body fB6_1 h_rfail h_rkind h_rop h_rzero h_ru32 h_rs32 h_rs64 h_rblock h_rvalue h_rref hN' hi) (n, A7, Q1_0, Q1_1, Q102_0, Q102_1, Q102_2, Q102_3, Q102_4, Q102_5, Q101_0, Q101_1, Q101_2, Q101_3, Q101_4, Q101_5, wQ1_0_1, wQ102_4, LQ102_4, wQ101_4, LQ101_4, G_105, k_105, G_103, k_103) h hi hN t ht
noncomputable def rinstr_p (rb : List Nat) (re : Nat) : Option (List Nat × Nat × (Nat × Nat × Nat × Nat × List Nat × Int)) :=
  (ob (rop_p rb re) fun x4 =>
    (if x4.2.1 ≠ 0 then (some (x4.1, x4.2.1, (x4.2.2, 0, 0, 0, [], (0 : Int)))) else
    (gd (OpOk x4.2.2) (ob (rfail_p x4.1 x4.2.1 ((kF x4.2.2).2)) fun x24 =>
    (if (kF x4.2.2).1 = 1 then (if x4.2.2 = 63 then (ob (rzero_p x24.1 x24.2) fun x39 =>
    (some (x39.1, x39.2, (x4.2.2, 0, 0, 0, [], (0 : Int))))) else
    (if x4.2.2 = 64 then (ob (rzero_p x24.1 x24.2) fun x40 =>
    (some (x40.1, x40.2, (x4.2.2, 0, 0, 0, [], (0 : Int))))) else
    (if x4.2.2 = 64523 then (ob (rzero_p x24.1 x24.2) fun x41 =>
    (some (x41.1, x41.2, (x4.2.2, 0, 0, 0, [], (0 : Int))))) else
    (ob (ru32_p x24.1 x24.2) fun x41 =>
    (some (x41.1, x41.2.1, (x4.2.2, x41.2.2, 0, 0, [], (0 : Int)))))))) else
    (if (kF x4.2.2).1 = 2 then (if x4.2.2 = 64522 then (ob (rzero_p x24.1 x24.2) fun x40 =>
    (ob (rzero_p x40.1 x40.2) fun x53 =>
    (some (x53.1, x53.2, (x4.2.2, 0, 0, 0, [], (0 : Int)))))) else
    (ob (ru32_p x24.1 x24.2) fun x40 =>
    (if x4.2.2 = 64520 then (ob (rzero_p x40.1 x40.2.1) fun x57 =>
    (some (x57.1, x57.2, (x4.2.2, x40.2.2, 0, 0, [], (0 : Int))))) else
    (ob (ru32_p x40.1 x40.2.1) fun x57 =>
    (some (x57.1, x57.2.1, (x4.2.2, x40.2.2, x57.2.2, 0, [], (0 : Int)))))))) else
    (if (kF x4.2.2).1 = 3 then (ob (rs32_p x24.1 x24.2) fun x40 =>
    (some (x40.1, x40.2.1, (x4.2.2, 0, 0, x40.2.2, [], (0 : Int))))) else
    (if (kF x4.2.2).1 = 4 then (ob (rs64_p x24.1 x24.2) fun x41 =>
    (some (x41.1, x41.2.1, (x4.2.2, 0, 0, x41.2.2, [], (0 : Int))))) else
    (if (kF x4.2.2).1 = 5 then (ob (ru32_p x24.1 x24.2) fun x42 =>
    (if 31 < x42.2.2 then (ob (rfail_p x42.1 x42.2.1 2) fun x59 =>
    (ob (ru32_p x59.1 x59.2) fun x72 =>
    (some (x72.1, x72.2.1, (x4.2.2, x42.2.2, x72.2.2, 0, [], (0 : Int)))))) else
    (ob (ru32_p x42.1 x42.2.1) fun x59 =>
    (some (x59.1, x59.2.1, (x4.2.2, x42.2.2, x59.2.2, 0, [], (0 : Int))))))) else
    (if (kF x4.2.2).1 = 6 then (ob (rblock_p x24.1 x24.2) fun x43 =>
    (some (x43.1, x43.2.1, (x4.2.2, 0, 0, 0, [], x43.2.2)))) else
    (if (kF x4.2.2).1 = 7 then (ob (ru32_p x24.1 x24.2) fun x44 =>
    (if 600 < x44.2.2 then (ob (rfail_p x44.1 x44.2.1 4) fun x59 =>
    (ob (rinstr_l1 x44.2.2 ((kF x4.2.2).1) 90000 0 x59.1 x59.2 x4.2.2 0 0 0 ([] : List Nat) 0 0 0 0 0 ([] : List Nat) 0) fun o84 =>
    (ob (ru32_p o84.2.1 o84.2.2.1) fun x94 =>
    (some (x94.1, x94.2.1, (o84.2.2.2.1, x94.2.2, o84.2.2.2.2.2.1, o84.2.2.2.2.2.2.1, o84.2.2.2.2.2.2.2.1, ((o84.2.2.2.2.2.2.2.2.1 : Nat) : Int))))))) else
    (ob (rinstr_l1 x44.2.2 ((kF x4.2.2).1) 90000 0 x44.1 x44.2.1 x4.2.2 0 0 0 ([] : List Nat) 0 0 0 0 0 ([] : List Nat) 0) fun o71 =>
    (ob (ru32_p o71.2.1 o71.2.2.1) fun x81 =>
    (some (x81.1, x81.2.1, (o71.2.2.2.1, x81.2.2, o71.2.2.2.2.2.1, o71.2.2.2.2.2.2.1, o71.2.2.2.2.2.2.2.1, ((o71.2.2.2.2.2.2.2.2.1 : Nat) : Int)))))))) else
    (if (kF x4.2.2).1 = 8 then (if x4.2.2 = 28 then (ob (ru32_p x24.1 x24.2) fun x46 =>
    (if x46.2.2 ≠ 1 then (ob (rfail_p x46.1 x46.2.1 2) fun x61 =>
    (ob (rvalue_p x61.1 x61.2) fun x74 =>
    (if x4.2.2 = 208 then (ob (rref_p (x74.2.2 % 256)) fun x93 =>
    (if x93 = false then (ob (rfail_p x74.1 x74.2.1 2) fun x105 =>
    (some (x105.1, x105.2, (x4.2.2, x74.2.2, 0, 0, [], (0 : Int))))) else
    (some (x74.1, x74.2.1, (x4.2.2, x74.2.2, 0, 0, [], (0 : Int)))))) else
    (some (x74.1, x74.2.1, (x4.2.2, x74.2.2, 0, 0, [], (0 : Int))))))) else
    (ob (rvalue_p x46.1 x46.2.1) fun x61 =>
    (if x4.2.2 = 208 then (ob (rref_p (x61.2.2 % 256)) fun x80 =>
    (if x80 = false then (ob (rfail_p x61.1 x61.2.1 2) fun x92 =>
    (some (x92.1, x92.2, (x4.2.2, x61.2.2, 0, 0, [], (0 : Int))))) else
    (some (x61.1, x61.2.1, (x4.2.2, x61.2.2, 0, 0, [], (0 : Int)))))) else
    (some (x61.1, x61.2.1, (x4.2.2, x61.2.2, 0, 0, [], (0 : Int)))))))) else
    (ob (rvalue_p x24.1 x24.2) fun x46 =>
    (if x4.2.2 = 208 then (ob (rref_p (x46.2.2 % 256)) fun x65 =>
    (if x65 = false then (ob (rfail_p x46.1 x46.2.1 2) fun x77 =>
    (some (x77.1, x77.2, (x4.2.2, x46.2.2, 0, 0, [], (0 : Int))))) else
    (some (x46.1, x46.2.1, (x4.2.2, x46.2.2, 0, 0, [], (0 : Int)))))) else
    (some (x46.1, x46.2.1, (x4.2.2, x46.2.2, 0, 0, [], (0 : Int))))))) else
    (some (x24.1, x24.2, (x4.2.2, 0, 0, 0, [], (0 : Int))))))))))))))))
theorem rinstr_w {call : CallT} {N : Nat} {h : Hp} {h0 : Hp} {G : Nat → Prop} {R : List AObj} {b : Nat} {rest : List AV} {wrb_1 : AV} {rb : List Nat} {re : Nat} (frb_2 : BIn G h0 wrb_1 rb) (h_rfail : C_rfail call) (h_rkind : KindS call 55) (h_rop : C_rop call) (h_rzero : C_rzero call) (h_ru32 : C_ru32 call) (h_rs32 : C_rs32 call) (h_rs64 : C_rs64 call) (h_rblock : C_rblock call) (h_rvalue : C_rvalue call) (h_rref : C_rref call) (hN : 90000 < N) {r : List Nat × Nat × (Nat × Nat × Nat × Nat × List Nat × Int)} (hp : rinstr_p rb re = some r) (S : Eng.Sep (Cel b (wrb_1 :: (vi re) :: rest) :: Frz G h0 :: R) h) :
    ∃ rv rh, evF1 (progS Try.prog (compDrawn Try.prog)) N call 53 [(AV.ptr b 0)] h = .ok rv rh ∧ (fun (rv : AV) (rh : Hp) => ∃ wk4 : AV, ∃ wk6 : AV, ∃ Gk : Nat → Prop, ∃ kk : Hp, rv = (AV.agg [(vi r.2.2.1), (vw r.2.2.2.1), (vw r.2.2.2.2.1), (vq r.2.2.2.2.2.1), wk4, (AV.int .i64 r.2.2.2.2.2.2.2)]) ∧ (r.2.2.2.1 < 4294967296) ∧ (r.2.2.2.2.1 < 4294967296) ∧ (r.2.2.2.2.2.1 < 18446744073709551616) ∧ (SIn (rU .u32) Gk kk wk4 r.2.2.2.2.2.2.1) ∧ (BIn G h0 wk6 r.1) ∧ Eng.Sep (Cel b (wk6 :: (vi r.2.1) :: rest) :: Frz Gk kk :: Frz G h0 :: R) rh) rv rh := by
  unfold rinstr_p at hp
  refine fwalk_ok (K := (fun (rv : AV) (rh : Hp) => ∃ wk4 : AV, ∃ wk6 : AV, ∃ Gk : Nat → Prop, ∃ kk : Hp, rv = (AV.agg [(vi r.2.2.1), (vw r.2.2.2.1), (vw r.2.2.2.2.1), (vq r.2.2.2.2.2.1), wk4, (AV.int .i64 r.2.2.2.2.2.2.2)]) ∧ (r.2.2.2.1 < 4294967296) ∧ (r.2.2.2.2.1 < 4294967296) ∧ (r.2.2.2.2.2.1 < 18446744073709551616) ∧ (SIn (rU .u32) Gk kk wk4 r.2.2.2.2.2.2.1) ∧ (BIn G h0 wk6 r.1) ∧ Eng.Sep (Cel b (wk6 :: (vi r.2.1) :: rest) :: Frz Gk kk :: Frz G h0 :: R) rh)) (o := (.exi 2 fun (x4 : List Nat × Nat × Nat) => (.exi 0 fun (w13 : AV) => (.exi 0 fun (h9 : Hp) => (.eff 0 (vi x4.2.2) h9 (.effx 2 (fun e18 => (AV.tuple [])) (fun e18 => (.tell 4 (vi x4.2.1) (.fork 0 (.tell 0 (AV.agg [(vi x4.2.2), (vw 0), (vw 0), (vq 0), AV.nilSlice, (vi 0)]) (.effx 0 (fun e21 => (AV.tuple [])) (fun e21 => .fin))) (.tell 1 (vi x4.2.2) (.eff 0 (AV.tuple [(vi ((kF x4.2.2).1)), (vi ((kF x4.2.2).2))]) e18.h (.exi 9 fun (x24 : List Nat × Nat) => (.exi 0 fun (w33 : AV) => (.exi 0 fun (h29 : Hp) => (.eff 0 (AV.tuple []) h29 (.fork 2 (.tell 1 (vi x4.2.2) (.fork 1 (.exi 4 fun (x39 : List Nat × Nat) => (.exi 0 fun (w48 : AV) => (.exi 0 fun (h44 : Hp) => (.eff 0 (AV.tuple []) h44 (.tell 0 (AV.agg [(vi x4.2.2), (vw 0), (vw 0), (vq 0), AV.nilSlice, (vi 0)]) (.effx 0 (fun e52 => (AV.tuple [])) (fun e52 => .fin))))))) (.tell 1 (vi x4.2.2) (.fork 2 (.exi 2 fun (x40 : List Nat × Nat) => (.exi 0 fun (w49 : AV) => (.exi 0 fun (h45 : Hp) => (.eff 0 (AV.tuple []) h45 (.tell 0 (AV.agg [(vi x4.2.2), (vw 0), (vw 0), (vq 0), AV.nilSlice, (vi 0)]) (.effx 0 (fun e53 => (AV.tuple [])) (fun e53 => .fin))))))) (.tell 1 (vi x4.2.2) (.fork 1 (.exi 1 fun (x41 : List Nat × Nat) => (.exi 0 fun (w50 : AV) => (.exi 0 fun (h46 : Hp) => (.eff 0 (AV.tuple []) h46 (.tell 0 (AV.agg [(vi x4.2.2), (vw 0), (vw 0), (vq 0), AV.nilSlice, (vi 0)]) (.effx 0 (fun e54 => (AV.tuple [])) (fun e54 => .fin))))))) (.exi 3 fun (x41 : List Nat × Nat × Nat) => (.exi 0 fun (w51 : AV) => (.exi 0 fun (h47 : Hp) => (.eff 0 (vw x41.2.2) h47 (.effx 1 (fun e55 => (AV.tuple [])) (fun e55 => (.tell 0 (AV.agg [(vi x4.2.2), (vw x41.2.2), (vw 0), (vq 0), AV.nilSlice, (vi 0)]) (.effx 0 (fun e57 => (AV.tuple [])) (fun e57 => .fin))))))))))))))) (.fork 1 (.tell 1 (vi x4.2.2) (.fork 0 (.exi 1 fun (x40 : List Nat × Nat) => (.exi 0 fun (w49 : AV) => (.exi 0 fun (h45 : Hp) => (.eff 0 (AV.tuple []) h45 (.exi 1 fun (x53 : List Nat × Nat) => (.exi 0 fun (w62 : AV) => (.exi 0 fun (h58 : Hp) => (.eff 0 (AV.tuple []) h58 (.tell 0 (AV.agg [(vi x4.2.2), (vw 0), (vw 0), (vq 0), AV.nilSlice, (vi 0)]) (.effx 0 (fun e66 => (AV.tuple [])) (fun e66 => .fin))))))))))) (.exi 3 fun (x40 : List Nat × Nat × Nat) => (.exi 0 fun (w50 : AV) => (.exi 0 fun (h46 : Hp) => (.eff 0 (vw x40.2.2) h46 (.effx 1 (fun e54 => (AV.tuple [])) (fun e54 => (.tell 1 (vi x4.2.2) (.fork 0 (.exi 1 fun (x57 : List Nat × Nat) => (.exi 0 fun (w66 : AV) => (.exi 0 fun (h62 : Hp) => (.eff 0 (AV.tuple []) h62 (.tell 0 (AV.agg [(vi x4.2.2), (vw x40.2.2), (vw 0), (vq 0), AV.nilSlice, (vi 0)]) (.effx 0 (fun e70 => (AV.tuple [])) (fun e70 => .fin))))))) (.exi 3 fun (x57 : List Nat × Nat × Nat) => (.exi 0 fun (w67 : AV) => (.exi 0 fun (h63 : Hp) => (.eff 0 (vw x57.2.2) h63 (.effx 1 (fun e71 => (AV.tuple [])) (fun e71 => (.tell 0 (AV.agg [(vi x4.2.2), (vw x40.2.2), (vw x57.2.2), (vq 0), AV.nilSlice, (vi 0)]) (.effx 0 (fun e73 => (AV.tuple [])) (fun e73 => .fin))))))))))))))))))) (.fork 1 (.exi 3 fun (x40 : List Nat × Nat × Nat) => (.exi 0 fun (w50 : AV) => (.exi 0 fun (h46 : Hp) => (.eff 0 (vq x40.2.2) h46 (.effx 1 (fun e54 => (AV.tuple [])) (fun e54 => (.tell 0 (AV.agg [(vi x4.2.2), (vw 0), (vw 0), (vq x40.2.2), AV.nilSlice, (vi 0)]) (.effx 0 (fun e56 => (AV.tuple [])) (fun e56 => .fin))))))))) (.fork 1 (.exi 3 fun (x41 : List Nat × Nat × Nat) => (.exi 0 fun (w51 : AV) => (.exi 0 fun (h47 : Hp) => (.eff 0 (vq x41.2.2) h47 (.effx 1 (fun e55 => (AV.tuple [])) (fun e55 => (.tell 0 (AV.agg [(vi x4.2.2), (vw 0), (vw 0), (vq x41.2.2), AV.nilSlice, (vi 0)]) (.effx 0 (fun e57 => (AV.tuple [])) (fun e57 => .fin))))))))) (.fork 1 (.exi 3 fun (x42 : List Nat × Nat × Nat) => (.exi 0 fun (w52 : AV) => (.exi 0 fun (h48 : Hp) => (.eff 0 (vw x42.2.2) h48 (.effx 1 (fun e56 => (AV.tuple [])) (fun e56 => (.tell 1 (vw x42.2.2) (.fork 0 (.exi 3 fun (x59 : List Nat × Nat) => (.exi 0 fun (w68 : AV) => (.exi 0 fun (h64 : Hp) => (.eff 0 (AV.tuple []) h64 (.exi 3 fun (x72 : List Nat × Nat × Nat) => (.exi 0 fun (w82 : AV) => (.exi 0 fun (h78 : Hp) => (.eff 0 (vw x72.2.2) h78 (.effx 1 (fun e86 => (AV.tuple [])) (fun e86 => (.tell 0 (AV.agg [(vi x4.2.2), (vw x42.2.2), (vw x72.2.2), (vq 0), AV.nilSlice, (vi 0)]) (.effx 0 (fun e88 => (AV.tuple [])) (fun e88 => .fin))))))))))))) (.exi 3 fun (x59 : List Nat × Nat × Nat) => (.exi 0 fun (w69 : AV) => (.exi 0 fun (h65 : Hp) => (.eff 0 (vw x59.2.2) h65 (.effx 1 (fun e73 => (AV.tuple [])) (fun e73 => (.tell 0 (AV.agg [(vi x4.2.2), (vw x42.2.2), (vw x59.2.2), (vq 0), AV.nilSlice, (vi 0)]) (.effx 0 (fun e75 => (AV.tuple [])) (fun e75 => .fin))))))))))))))))) (.fork 1 (.exi 1 fun (x43 : List Nat × Nat × Int) => (.exi 0 fun (w52 : AV) => (.exi 0 fun (h48 : Hp) => (.eff 0 (AV.int .i64 x43.2.2) h48 (.effx 1 (fun e56 => (AV.tuple [])) (fun e56 => (.tell 0 (AV.agg [(vi x4.2.2), (vw 0), (vw 0), (vq 0), AV.nilSlice, (AV.int .i64 x43.2.2)]) (.effx 0 (fun e58 => (AV.tuple [])) (fun e58 => .fin))))))))) (.fork 1 (.exi 3 fun (x44 : List Nat × Nat × Nat) => (.exi 0 fun (w54 : AV) => (.exi 0 fun (h50 : Hp) => (.eff 0 (vw x44.2.2) h50 (.fork 2 (.exi 3 fun (x59 : List Nat × Nat) => (.exi 0 fun (w68 : AV) => (.exi 0 fun (h64 : Hp) => (.eff 0 (AV.tuple []) h64 (.exi 1 fun (A7o84 : Nat) => (.exi 0 fun (Q1_0o84 : List Nat) => (.exi 0 fun (Q1_1o84 : Nat) => (.exi 0 fun (Q102_0o84 : Nat) => (.exi 0 fun (Q102_1o84 : Nat) => (.exi 0 fun (Q102_2o84 : Nat) => (.exi 0 fun (Q102_3o84 : Nat) => (.exi 0 fun (Q102_4o84 : List Nat) => (.exi 0 fun (Q102_5o84 : Nat) => (.exi 0 fun (Q101_0o84 : Nat) => (.exi 0 fun (Q101_1o84 : Nat) => (.exi 0 fun (Q101_2o84 : Nat) => (.exi 0 fun (Q101_3o84 : Nat) => (.exi 0 fun (Q101_4o84 : List Nat) => (.exi 0 fun (Q101_5o84 : Nat) => (.exi 0 fun (wQ1_0_1o84 : AV) => (.exi 0 fun (wQ102_4o84 : AV) => (.exi 0 fun (wQ101_4o84 : AV) => (.exi 0 fun (t87 : T) => (.exi 0 fun (h88 : Hp) => (.lp 0 (.exit 1 (ovT [(0, (AV.ptr b 0)), (2, (AV.ptr (Hp.next h) 0)), (3, (AV.ptr (Hp.next h9) 0)), (6, (vw x44.2.2)), (7, (vw A7o84)), (29, (vi ((kF x4.2.2).1)))] t87) h88) (.exi 3 fun (x94 : List Nat × Nat × Nat) => (.exi 0 fun (w104 : AV) => (.exi 0 fun (h100 : Hp) => (.eff 0 (vw x94.2.2) h100 (.effx 1 (fun e108 => (AV.tuple [])) (fun e108 => (.tell 0 (AV.agg [(vi Q102_0o84), (vw x94.2.2), (vw Q102_2o84), (vq Q102_3o84), wQ102_4o84, (vi Q102_5o84)]) (.effx 0 (fun e110 => (AV.tuple [])) (fun e110 => .fin)))))))))))))))))))))))))))))))))) (.exi 1 fun (A7o71 : Nat) => (.exi 0 fun (Q1_0o71 : List Nat) => (.exi 0 fun (Q1_1o71 : Nat) => (.exi 0 fun (Q102_0o71 : Nat) => (.exi 0 fun (Q102_1o71 : Nat) => (.exi 0 fun (Q102_2o71 : Nat) => (.exi 0 fun (Q102_3o71 : Nat) => (.exi 0 fun (Q102_4o71 : List Nat) => (.exi 0 fun (Q102_5o71 : Nat) => (.exi 0 fun (Q101_0o71 : Nat) => (.exi 0 fun (Q101_1o71 : Nat) => (.exi 0 fun (Q101_2o71 : Nat) => (.exi 0 fun (Q101_3o71 : Nat) => (.exi 0 fun (Q101_4o71 : List Nat) => (.exi 0 fun (Q101_5o71 : Nat) => (.exi 0 fun (wQ1_0_1o71 : AV) => (.exi 0 fun (wQ102_4o71 : AV) => (.exi 0 fun (wQ101_4o71 : AV) => (.exi 0 fun (t74 : T) => (.exi 0 fun (h75 : Hp) => (.lp 0 (.exit 1 (ovT [(0, (AV.ptr b 0)), (2, (AV.ptr (Hp.next h) 0)), (3, (AV.ptr (Hp.next h9) 0)), (6, (vw x44.2.2)), (7, (vw A7o71)), (29, (vi ((kF x4.2.2).1)))] t74) h75) (.exi 3 fun (x81 : List Nat × Nat × Nat) => (.exi 0 fun (w91 : AV) => (.exi 0 fun (h87 : Hp) => (.eff 0 (vw x81.2.2) h87 (.effx 1 (fun e95 => (AV.tuple [])) (fun e95 => (.tell 0 (AV.agg [(vi Q102_0o71), (vw x81.2.2), (vw Q102_2o71), (vq Q102_3o71), wQ102_4o71, (vi Q102_5o71)]) (.effx 0 (fun e97 => (AV.tuple [])) (fun e97 => .fin))))))))))))))))))))))))))))))))))) (.fork 1 (.tell 1 (vi x4.2.2) (.fork 1 (.exi 3 fun (x46 : List Nat × Nat × Nat) => (.exi 0 fun (w56 : AV) => (.exi 0 fun (h52 : Hp) => (.eff 0 (vw x46.2.2) h52 (.fork 1 (.exi 3 fun (x61 : List Nat × Nat) => (.exi 0 fun (w70 : AV) => (.exi 0 fun (h66 : Hp) => (.eff 0 (AV.tuple []) h66 (.exi 3 fun (x74 : List Nat × Nat × Nat) => (.exi 0 fun (w84 : AV) => (.exi 0 fun (h80 : Hp) => (.eff 0 (vb8 x74.2.2) h80 (.tell 0 (vw x74.2.2) (.effx 1 (fun e89 => (AV.tuple [])) (fun e89 => (.tell 1 (vi x4.2.2) (.fork 1 (.tell 1 (vw x74.2.2) (.tell 0 (vb8 (x74.2.2 % 256)) (.exi 0 fun (x93 : Bool) => (.exi 0 fun (h98 : Hp) => (.eff 0 (AV.bool x93) h98 (.fork 1 (.exi 3 fun (x105 : List Nat × Nat) => (.exi 0 fun (w114 : AV) => (.exi 0 fun (h110 : Hp) => (.eff 0 (AV.tuple []) h110 (.tell 0 (AV.agg [(vi x4.2.2), (vw x74.2.2), (vw 0), (vq 0), AV.nilSlice, (vi 0)]) (.effx 0 (fun e118 => (AV.tuple [])) (fun e118 => .fin))))))) (.tell 0 (AV.agg [(vi x4.2.2), (vw x74.2.2), (vw 0), (vq 0), AV.nilSlice, (vi 0)]) (.effx 0 (fun e105 => (AV.tuple [])) (fun e105 => .fin))))))))) (.tell 1 (AV.agg [(vi x4.2.2), (vw x74.2.2), (vw 0), (vq 0), AV.nilSlice, (vi 0)]) (.effx 0 (fun e92 => (AV.tuple [])) (fun e92 => .fin)))))))))))))))) (.exi 3 fun (x61 : List Nat × Nat × Nat) => (.exi 0 fun (w71 : AV) => (.exi 0 fun (h67 : Hp) => (.eff 0 (vb8 x61.2.2) h67 (.tell 0 (vw x61.2.2) (.effx 1 (fun e76 => (AV.tuple [])) (fun e76 => (.tell 1 (vi x4.2.2) (.fork 1 (.tell 1 (vw x61.2.2) (.tell 0 (vb8 (x61.2.2 % 256)) (.exi 0 fun (x80 : Bool) => (.exi 0 fun (h85 : Hp) => (.eff 0 (AV.bool x80) h85 (.fork 1 (.exi 3 fun (x92 : List Nat × Nat) => (.exi 0 fun (w101 : AV) => (.exi 0 fun (h97 : Hp) => (.eff 0 (AV.tuple []) h97 (.tell 0 (AV.agg [(vi x4.2.2), (vw x61.2.2), (vw 0), (vq 0), AV.nilSlice, (vi 0)]) (.effx 0 (fun e105 => (AV.tuple [])) (fun e105 => .fin))))))) (.tell 0 (AV.agg [(vi x4.2.2), (vw x61.2.2), (vw 0), (vq 0), AV.nilSlice, (vi 0)]) (.effx 0 (fun e92 => (AV.tuple [])) (fun e92 => .fin))))))))) (.tell 1 (AV.agg [(vi x4.2.2), (vw x61.2.2), (vw 0), (vq 0), AV.nilSlice, (vi 0)]) (.effx 0 (fun e79 => (AV.tuple [])) (fun e79 => .fin))))))))))))))))) (.exi 4 fun (x46 : List Nat × Nat × Nat) => (.exi 0 fun (w56 : AV) => (.exi 0 fun (h52 : Hp) => (.eff 0 (vb8 x46.2.2) h52 (.tell 0 (vw x46.2.2) (.effx 1 (fun e61 => (AV.tuple [])) (fun e61 => (.tell 1 (vi x4.2.2) (.fork 1 (.tell 1 (vw x46.2.2) (.tell 0 (vb8 (x46.2.2 % 256)) (.exi 0 fun (x65 : Bool) => (.exi 0 fun (h70 : Hp) => (.eff 0 (AV.bool x65) h70 (.fork 1 (.exi 3 fun (x77 : List Nat × Nat) => (.exi 0 fun (w86 : AV) => (.exi 0 fun (h82 : Hp) => (.eff 0 (AV.tuple []) h82 (.tell 0 (AV.agg [(vi x4.2.2), (vw x46.2.2), (vw 0), (vq 0), AV.nilSlice, (vi 0)]) (.effx 0 (fun e90 => (AV.tuple [])) (fun e90 => .fin))))))) (.tell 0 (AV.agg [(vi x4.2.2), (vw x46.2.2), (vw 0), (vq 0), AV.nilSlice, (vi 0)]) (.effx 0 (fun e77 => (AV.tuple [])) (fun e77 => .fin))))))))) (.tell 1 (AV.agg [(vi x4.2.2), (vw x46.2.2), (vw 0), (vq 0), AV.nilSlice, (vi 0)]) (.effx 0 (fun e64 => (AV.tuple [])) (fun e64 => .fin)))))))))))))) (.tell 0 (AV.agg [(vi x4.2.2), (vw 0), (vw 0), (vq 0), AV.nilSlice, (vi 0)]) (.effx 0 (fun e45 => (AV.tuple [])) (fun e45 => .fin)))))))))))))))))))))))))) (p := (fun (KK : AV → Hp → Prop) => (∃ x4 : List Nat × Nat × Nat, ∃ w13 : AV, ∃ h9 : Hp, (call 82 [(AV.ptr b 0)] (hpush h (mkCells [(vi 0), (vw 0), (vw 0), (vq 0), AV.nilSlice, (vi 0)] 6)) = .ok (vi x4.2.2) h9 ∧ (∃ e18 : Ev, evE (.store 6 (.const (AV.ptr (Hp.next h9) 0)) (.const (AV.agg [(vi x4.2.2), (vw 0), (vw 0), (vq 0), AV.nilSlice, (vi 0)]))) call .lf (hpush h9 (mkCells [(vi 0), (vw 0), (vw 0), (vq 0), AV.nilSlice, (vi 0)] 6)) = .ok (AV.tuple []) e18.h ∧ ((evQ (.loadS (.const (AV.ptr b 1))) .lf e18.h = .ok (vi x4.2.1) ∧ ((notB (eqI (Int.ofNat x4.2.1) (Int.ofNat 0)) = true → ((evQ (.loadA 6 (.const (AV.ptr (Hp.next h9) 0))) .lf e18.h = .ok (AV.agg [(vi x4.2.2), (vw 0), (vw 0), (vq 0), AV.nilSlice, (vi 0)]) ∧ (∃ e21 : Ev, evE (.store 6 (.const (AV.ptr (Hp.next h) 0)) (.const (AV.agg [(vi x4.2.2), (vw 0), (vw 0), (vq 0), AV.nilSlice, (vi 0)]))) call .lf e18.h = .ok (AV.tuple []) e21.h ∧ RV.cs (Eng.results [.cellA 2 6] (ovT [(2, (AV.ptr (Hp.next h) 0))] .lf) e21.h) False (fun v h => KK v h))))) ∧ (notB (eqI (Int.ofNat x4.2.1) (Int.ofNat 0)) = false → ((evQ (.loadS (.const (AV.ptr (Hp.next h9) 0))) .lf e18.h = .ok (vi x4.2.2) ∧ (call 55 [(vi x4.2.2)] e18.h = .ok (AV.tuple [(vi ((kF x4.2.2).1)), (vi ((kF x4.2.2).2))]) e18.h ∧ (∃ x24 : List Nat × Nat, ∃ w33 : AV, ∃ h29 : Hp, (call 52 [(AV.ptr b 0), (vi ((kF x4.2.2).2))] e18.h = .ok (AV.tuple []) h29 ∧ ((eqI (Int.ofNat ((kF x4.2.2).1)) (Int.ofNat 1) = true → ((evQ (.loadS (.const (AV.ptr (Hp.next h9) 0))) .lf h29 = .ok (vi x4.2.2) ∧ ((eqI (Int.ofNat x4.2.2) (Int.ofNat 63) = true → (∃ x39 : List Nat × Nat, ∃ w48 : AV, ∃ h44 : Hp, (call 83 [(AV.ptr b 0)] h29 = .ok (AV.tuple []) h44 ∧ ((evQ (.loadA 6 (.const (AV.ptr (Hp.next h9) 0))) .lf h44 = .ok (AV.agg [(vi x4.2.2), (vw 0), (vw 0), (vq 0), AV.nilSlice, (vi 0)]) ∧ (∃ e52 : Ev, evE (.store 6 (.const (AV.ptr (Hp.next h) 0)) (.const (AV.agg [(vi x4.2.2), (vw 0), (vw 0), (vq 0), AV.nilSlice, (vi 0)]))) call .lf h44 = .ok (AV.tuple []) e52.h ∧ RV.cs (Eng.results [.cellA 2 6] (ovT [(2, (AV.ptr (Hp.next h) 0))] .lf) e52.h) False (fun v h => KK v h))))))) ∧ (eqI (Int.ofNat x4.2.2) (Int.ofNat 63) = false → ((evQ (.loadS (.const (AV.ptr (Hp.next h9) 0))) .lf h29 = .ok (vi x4.2.2) ∧ ((eqI (Int.ofNat x4.2.2) (Int.ofNat 64) = true → (∃ x40 : List Nat × Nat, ∃ w49 : AV, ∃ h45 : Hp, (call 83 [(AV.ptr b 0)] h29 = .ok (AV.tuple []) h45 ∧ ((evQ (.loadA 6 (.const (AV.ptr (Hp.next h9) 0))) .lf h45 = .ok (AV.agg [(vi x4.2.2), (vw 0), (vw 0), (vq 0), AV.nilSlice, (vi 0)]) ∧ (∃ e53 : Ev, evE (.store 6 (.const (AV.ptr (Hp.next h) 0)) (.const (AV.agg [(vi x4.2.2), (vw 0), (vw 0), (vq 0), AV.nilSlice, (vi 0)]))) call .lf h45 = .ok (AV.tuple []) e53.h ∧ RV.cs (Eng.results [.cellA 2 6] (ovT [(2, (AV.ptr (Hp.next h) 0))] .lf) e53.h) False (fun v h => KK v h))))))) ∧ (eqI (Int.ofNat x4.2.2) (Int.ofNat 64) = false → ((evQ (.loadS (.const (AV.ptr (Hp.next h9) 0))) .lf h29 = .ok (vi x4.2.2) ∧ ((eqI (Int.ofNat x4.2.2) (Int.ofNat 64523) = true → (∃ x41 : List Nat × Nat, ∃ w50 : AV, ∃ h46 : Hp, (call 83 [(AV.ptr b 0)] h29 = .ok (AV.tuple []) h46 ∧ ((evQ (.loadA 6 (.const (AV.ptr (Hp.next h9) 0))) .lf h46 = .ok (AV.agg [(vi x4.2.2), (vw 0), (vw 0), (vq 0), AV.nilSlice, (vi 0)]) ∧ (∃ e54 : Ev, evE (.store 6 (.const (AV.ptr (Hp.next h) 0)) (.const (AV.agg [(vi x4.2.2), (vw 0), (vw 0), (vq 0), AV.nilSlice, (vi 0)]))) call .lf h46 = .ok (AV.tuple []) e54.h ∧ RV.cs (Eng.results [.cellA 2 6] (ovT [(2, (AV.ptr (Hp.next h) 0))] .lf) e54.h) False (fun v h => KK v h))))))) ∧ (eqI (Int.ofNat x4.2.2) (Int.ofNat 64523) = false → (∃ x41 : List Nat × Nat × Nat, ∃ w51 : AV, ∃ h47 : Hp, (call 84 [(AV.ptr b 0)] h29 = .ok (vw x41.2.2) h47 ∧ (∃ e55 : Ev, evE (.store 1 (.const (AV.ptr (Hp.next h9) 1)) (.const (vw x41.2.2))) call .lf h47 = .ok (AV.tuple []) e55.h ∧ ((evQ (.loadA 6 (.const (AV.ptr (Hp.next h9) 0))) .lf e55.h = .ok (AV.agg [(vi x4.2.2), (vw x41.2.2), (vw 0), (vq 0), AV.nilSlice, (vi 0)]) ∧ (∃ e57 : Ev, evE (.store 6 (.const (AV.ptr (Hp.next h) 0)) (.const (AV.agg [(vi x4.2.2), (vw x41.2.2), (vw 0), (vq 0), AV.nilSlice, (vi 0)]))) call .lf e55.h = .ok (AV.tuple []) e57.h ∧ RV.cs (Eng.results [.cellA 2 6] (ovT [(2, (AV.ptr (Hp.next h) 0))] .lf) e57.h) False (fun v h => KK v h)))))))))))))))))))) ∧ (eqI (Int.ofNat ((kF x4.2.2).1)) (Int.ofNat 1) = false → ((eqI (Int.ofNat ((kF x4.2.2).1)) (Int.ofNat 2) = true → ((evQ (.loadS (.const (AV.ptr (Hp.next h9) 0))) .lf h29 = .ok (vi x4.2.2) ∧ ((eqI (Int.ofNat x4.2.2) (Int.ofNat 64522) = true → (∃ x40 : List Nat × Nat, ∃ w49 : AV, ∃ h45 : Hp, (call 83 [(AV.ptr b 0)] h29 = .ok (AV.tuple []) h45 ∧ (∃ x53 : List Nat × Nat, ∃ w62 : AV, ∃ h58 : Hp, (call 83 [(AV.ptr b 0)] h45 = .ok (AV.tuple []) h58 ∧ ((evQ (.loadA 6 (.const (AV.ptr (Hp.next h9) 0))) .lf h58 = .ok (AV.agg [(vi x4.2.2), (vw 0), (vw 0), (vq 0), AV.nilSlice, (vi 0)]) ∧ (∃ e66 : Ev, evE (.store 6 (.const (AV.ptr (Hp.next h) 0)) (.const (AV.agg [(vi x4.2.2), (vw 0), (vw 0), (vq 0), AV.nilSlice, (vi 0)]))) call .lf h58 = .ok (AV.tuple []) e66.h ∧ RV.cs (Eng.results [.cellA 2 6] (ovT [(2, (AV.ptr (Hp.next h) 0))] .lf) e66.h) False (fun v h => KK v h))))))))) ∧ (eqI (Int.ofNat x4.2.2) (Int.ofNat 64522) = false → (∃ x40 : List Nat × Nat × Nat, ∃ w50 : AV, ∃ h46 : Hp, (call 84 [(AV.ptr b 0)] h29 = .ok (vw x40.2.2) h46 ∧ (∃ e54 : Ev, evE (.store 1 (.const (AV.ptr (Hp.next h9) 1)) (.const (vw x40.2.2))) call .lf h46 = .ok (AV.tuple []) e54.h ∧ ((evQ (.loadS (.const (AV.ptr (Hp.next h9) 0))) .lf e54.h = .ok (vi x4.2.2) ∧ ((eqI (Int.ofNat x4.2.2) (Int.ofNat 64520) = true → (∃ x57 : List Nat × Nat, ∃ w66 : AV, ∃ h62 : Hp, (call 83 [(AV.ptr b 0)] e54.h = .ok (AV.tuple []) h62 ∧ ((evQ (.loadA 6 (.const (AV.ptr (Hp.next h9) 0))) .lf h62 = .ok (AV.agg [(vi x4.2.2), (vw x40.2.2), (vw 0), (vq 0), AV.nilSlice, (vi 0)]) ∧ (∃ e70 : Ev, evE (.store 6 (.const (AV.ptr (Hp.next h) 0)) (.const (AV.agg [(vi x4.2.2), (vw x40.2.2), (vw 0), (vq 0), AV.nilSlice, (vi 0)]))) call .lf h62 = .ok (AV.tuple []) e70.h ∧ RV.cs (Eng.results [.cellA 2 6] (ovT [(2, (AV.ptr (Hp.next h) 0))] .lf) e70.h) False (fun v h => KK v h))))))) ∧ (eqI (Int.ofNat x4.2.2) (Int.ofNat 64520) = false → (∃ x57 : List Nat × Nat × Nat, ∃ w67 : AV, ∃ h63 : Hp, (call 84 [(AV.ptr b 0)] e54.h = .ok (vw x57.2.2) h63 ∧ (∃ e71 : Ev, evE (.store 1 (.const (AV.ptr (Hp.next h9) 2)) (.const (vw x57.2.2))) call .lf h63 = .ok (AV.tuple []) e71.h ∧ ((evQ (.loadA 6 (.const (AV.ptr (Hp.next h9) 0))) .lf e71.h = .ok (AV.agg [(vi x4.2.2), (vw x40.2.2), (vw x57.2.2), (vq 0), AV.nilSlice, (vi 0)]) ∧ (∃ e73 : Ev, evE (.store 6 (.const (AV.ptr (Hp.next h) 0)) (.const (AV.agg [(vi x4.2.2), (vw x40.2.2), (vw x57.2.2), (vq 0), AV.nilSlice, (vi 0)]))) call .lf e71.h = .ok (AV.tuple []) e73.h ∧ RV.cs (Eng.results [.cellA 2 6] (ovT [(2, (AV.ptr (Hp.next h) 0))] .lf) e73.h) False (fun v h => KK v h))))))))))))))))))) ∧ (eqI (Int.ofNat ((kF x4.2.2).1)) (Int.ofNat 2) = false → ((eqI (Int.ofNat ((kF x4.2.2).1)) (Int.ofNat 3) = true → (∃ x40 : List Nat × Nat × Nat, ∃ w50 : AV, ∃ h46 : Hp, (call 85 [(AV.ptr b 0)] h29 = .ok (vq x40.2.2) h46 ∧ (∃ e54 : Ev, evE (.store 1 (.const (AV.ptr (Hp.next h9) 3)) (.const (vq x40.2.2))) call .lf h46 = .ok (AV.tuple []) e54.h ∧ ((evQ (.loadA 6 (.const (AV.ptr (Hp.next h9) 0))) .lf e54.h = .ok (AV.agg [(vi x4.2.2), (vw 0), (vw 0), (vq x40.2.2), AV.nilSlice, (vi 0)]) ∧ (∃ e56 : Ev, evE (.store 6 (.const (AV.ptr (Hp.next h) 0)) (.const (AV.agg [(vi x4.2.2), (vw 0), (vw 0), (vq x40.2.2), AV.nilSlice, (vi 0)]))) call .lf e54.h = .ok (AV.tuple []) e56.h ∧ RV.cs (Eng.results [.cellA 2 6] (ovT [(2, (AV.ptr (Hp.next h) 0))] .lf) e56.h) False (fun v h => KK v h)))))))) ∧ (eqI (Int.ofNat ((kF x4.2.2).1)) (Int.ofNat 3) = false → ((eqI (Int.ofNat ((kF x4.2.2).1)) (Int.ofNat 4) = true → (∃ x41 : List Nat × Nat × Nat, ∃ w51 : AV, ∃ h47 : Hp, (call 86 [(AV.ptr b 0)] h29 = .ok (vq x41.2.2) h47 ∧ (∃ e55 : Ev, evE (.store 1 (.const (AV.ptr (Hp.next h9) 3)) (.const (vq x41.2.2))) call .lf h47 = .ok (AV.tuple []) e55.h ∧ ((evQ (.loadA 6 (.const (AV.ptr (Hp.next h9) 0))) .lf e55.h = .ok (AV.agg [(vi x4.2.2), (vw 0), (vw 0), (vq x41.2.2), AV.nilSlice, (vi 0)]) ∧ (∃ e57 : Ev, evE (.store 6 (.const (AV.ptr (Hp.next h) 0)) (.const (AV.agg [(vi x4.2.2), (vw 0), (vw 0), (vq x41.2.2), AV.nilSlice, (vi 0)]))) call .lf e55.h = .ok (AV.tuple []) e57.h ∧ RV.cs (Eng.results [.cellA 2 6] (ovT [(2, (AV.ptr (Hp.next h) 0))] .lf) e57.h) False (fun v h => KK v h)))))))) ∧ (eqI (Int.ofNat ((kF x4.2.2).1)) (Int.ofNat 4) = false → ((eqI (Int.ofNat ((kF x4.2.2).1)) (Int.ofNat 5) = true → (∃ x42 : List Nat × Nat × Nat, ∃ w52 : AV, ∃ h48 : Hp, (call 84 [(AV.ptr b 0)] h29 = .ok (vw x42.2.2) h48 ∧ (∃ e56 : Ev, evE (.store 1 (.const (AV.ptr (Hp.next h9) 1)) (.const (vw x42.2.2))) call .lf h48 = .ok (AV.tuple []) e56.h ∧ ((evQ (.loadS (.const (AV.ptr (Hp.next h9) 1))) .lf e56.h = .ok (vw x42.2.2) ∧ ((ltI (Int.ofNat 31) (Int.ofNat x42.2.2) = true → (∃ x59 : List Nat × Nat, ∃ w68 : AV, ∃ h64 : Hp, (call 52 [(AV.ptr b 0), (vi 2)] e56.h = .ok (AV.tuple []) h64 ∧ (∃ x72 : List Nat × Nat × Nat, ∃ w82 : AV, ∃ h78 : Hp, (call 84 [(AV.ptr b 0)] h64 = .ok (vw x72.2.2) h78 ∧ (∃ e86 : Ev, evE (.store 1 (.const (AV.ptr (Hp.next h9) 2)) (.const (vw x72.2.2))) call .lf h78 = .ok (AV.tuple []) e86.h ∧ ((evQ (.loadA 6 (.const (AV.ptr (Hp.next h9) 0))) .lf e86.h = .ok (AV.agg [(vi x4.2.2), (vw x42.2.2), (vw x72.2.2), (vq 0), AV.nilSlice, (vi 0)]) ∧ (∃ e88 : Ev, evE (.store 6 (.const (AV.ptr (Hp.next h) 0)) (.const (AV.agg [(vi x4.2.2), (vw x42.2.2), (vw x72.2.2), (vq 0), AV.nilSlice, (vi 0)]))) call .lf e86.h = .ok (AV.tuple []) e88.h ∧ RV.cs (Eng.results [.cellA 2 6] (ovT [(2, (AV.ptr (Hp.next h) 0))] .lf) e88.h) False (fun v h => KK v h)))))))))) ∧ (ltI (Int.ofNat 31) (Int.ofNat x42.2.2) = false → (∃ x59 : List Nat × Nat × Nat, ∃ w69 : AV, ∃ h65 : Hp, (call 84 [(AV.ptr b 0)] e56.h = .ok (vw x59.2.2) h65 ∧ (∃ e73 : Ev, evE (.store 1 (.const (AV.ptr (Hp.next h9) 2)) (.const (vw x59.2.2))) call .lf h65 = .ok (AV.tuple []) e73.h ∧ ((evQ (.loadA 6 (.const (AV.ptr (Hp.next h9) 0))) .lf e73.h = .ok (AV.agg [(vi x4.2.2), (vw x42.2.2), (vw x59.2.2), (vq 0), AV.nilSlice, (vi 0)]) ∧ (∃ e75 : Ev, evE (.store 6 (.const (AV.ptr (Hp.next h) 0)) (.const (AV.agg [(vi x4.2.2), (vw x42.2.2), (vw x59.2.2), (vq 0), AV.nilSlice, (vi 0)]))) call .lf e73.h = .ok (AV.tuple []) e75.h ∧ RV.cs (Eng.results [.cellA 2 6] (ovT [(2, (AV.ptr (Hp.next h) 0))] .lf) e75.h) False (fun v h => KK v h))))))))))))))) ∧ (eqI (Int.ofNat ((kF x4.2.2).1)) (Int.ofNat 5) = false → ((eqI (Int.ofNat ((kF x4.2.2).1)) (Int.ofNat 6) = true → (∃ x43 : List Nat × Nat × Int, ∃ w52 : AV, ∃ h48 : Hp, (call 87 [(AV.ptr b 0)] h29 = .ok (AV.int .i64 x43.2.2) h48 ∧ (∃ e56 : Ev, evE (.store 1 (.const (AV.ptr (Hp.next h9) 5)) (.const (AV.int .i64 x43.2.2))) call .lf h48 = .ok (AV.tuple []) e56.h ∧ ((evQ (.loadA 6 (.const (AV.ptr (Hp.next h9) 0))) .lf e56.h = .ok (AV.agg [(vi x4.2.2), (vw 0), (vw 0), (vq 0), AV.nilSlice, (AV.int .i64 x43.2.2)]) ∧ (∃ e58 : Ev, evE (.store 6 (.const (AV.ptr (Hp.next h) 0)) (.const (AV.agg [(vi x4.2.2), (vw 0), (vw 0), (vq 0), AV.nilSlice, (AV.int .i64 x43.2.2)]))) call .lf e56.h = .ok (AV.tuple []) e58.h ∧ RV.cs (Eng.results [.cellA 2 6] (ovT [(2, (AV.ptr (Hp.next h) 0))] .lf) e58.h) False (fun v h => KK v h)))))))) ∧ (eqI (Int.ofNat ((kF x4.2.2).1)) (Int.ofNat 6) = false → ((eqI (Int.ofNat ((kF x4.2.2).1)) (Int.ofNat 7) = true → (∃ x44 : List Nat × Nat × Nat, ∃ w54 : AV, ∃ h50 : Hp, (call 84 [(AV.ptr b 0)] h29 = .ok (vw x44.2.2) h50 ∧ ((ltI (Int.ofNat 600) (Int.ofNat x44.2.2) = true → (∃ x59 : List Nat × Nat, ∃ w68 : AV, ∃ h64 : Hp, (call 52 [(AV.ptr b 0), (vi 4)] h50 = .ok (AV.tuple []) h64 ∧ (∃ A7o84 : Nat, ∃ Q1_0o84 : List Nat, ∃ Q1_1o84 : Nat, ∃ Q102_0o84 : Nat, ∃ Q102_1o84 : Nat, ∃ Q102_2o84 : Nat, ∃ Q102_3o84 : Nat, ∃ Q102_4o84 : List Nat, ∃ Q102_5o84 : Nat, ∃ Q101_0o84 : Nat, ∃ Q101_1o84 : Nat, ∃ Q101_2o84 : Nat, ∃ Q101_3o84 : Nat, ∃ Q101_4o84 : List Nat, ∃ Q101_5o84 : Nat, ∃ wQ1_0_1o84 : AV, ∃ wQ102_4o84 : AV, ∃ wQ101_4o84 : AV, ∃ t87 : T, ∃ h88 : Hp, (evC call N (.loop rinstr_l1C) (ovT [(0, (AV.ptr b 0)), (2, (AV.ptr (Hp.next h) 0)), (3, (AV.ptr (Hp.next h9) 0)), (4, (vi ((kF x4.2.2).1))), (5, (vi ((kF x4.2.2).2))), (6, (vw x44.2.2)), (7, (vw 0)), (8, (AV.ptr b 0)), (9, (vi x4.2.2)), (10, (AV.agg [(vi x4.2.2), (vw 0), (vw 0), (vq 0), AV.nilSlice, (vi 0)])), (11, (AV.ptr b 0)), (12, (AV.ptr b 0)), (13, (AV.ptr b 0)), (14, (AV.ptr b 1)), (15, (vi x4.2.1)), (16, (AV.bool false)), (18, (AV.tuple [(vi ((kF x4.2.2).1)), (vi ((kF x4.2.2).2))])), (19, (AV.ptr (Hp.next h9) 0)), (20, (vi x4.2.2)), (21, (AV.tuple [(vi ((kF x4.2.2).1)), (vi ((kF x4.2.2).2))])), (22, (vi ((kF x4.2.2).1))), (23, (vi ((kF x4.2.2).2))), (24, (AV.ptr b 0)), (25, (AV.ptr b 0)), (26, (AV.ptr b 0)), (27, (vi ((kF x4.2.2).2))), (28, (AV.tuple [])), (29, (vi ((kF x4.2.2).1))), (30, (AV.bool false)), (31, (AV.bool (eqI (Int.ofNat ((kF x4.2.2).1)) (Int.ofNat 1)))), (52, (AV.bool false)), (53, (AV.bool (eqI (Int.ofNat ((kF x4.2.2).1)) (Int.ofNat 2)))), (76, (AV.bool false)), (77, (AV.bool (eqI (Int.ofNat ((kF x4.2.2).1)) (Int.ofNat 3)))), (83, (AV.bool false)), (84, (AV.bool (eqI (Int.ofNat ((kF x4.2.2).1)) (Int.ofNat 4)))), (90, (AV.bool false)), (91, (AV.bool (eqI (Int.ofNat ((kF x4.2.2).1)) (Int.ofNat 5)))), (109, (AV.bool false)), (110, (AV.bool (eqI (Int.ofNat ((kF x4.2.2).1)) (Int.ofNat 6)))), (114, (AV.bool true)), (115, (AV.bool (eqI (Int.ofNat ((kF x4.2.2).1)) (Int.ofNat 7)))), (116, (AV.ptr b 0)), (117, (AV.ptr b 0)), (118, (AV.ptr b 0)), (119, (vw x44.2.2)), (120, (vw x44.2.2)), (121, (AV.bool true)), (122, (AV.ptr b 0)), (123, (AV.ptr b 0)), (124, (AV.ptr b 0)), (125, (AV.tuple []))] .lf) h64 = (.exit 1 (ovT [(0, (AV.ptr b 0)), (2, (AV.ptr (Hp.next h) 0)), (3, (AV.ptr (Hp.next h9) 0)), (6, (vw x44.2.2)), (7, (vw A7o84)), (29, (vi ((kF x4.2.2).1)))] t87) h88) ∧ True ∧ (∃ x94 : List Nat × Nat × Nat, ∃ w104 : AV, ∃ h100 : Hp, (call 84 [(AV.ptr b 0)] h88 = .ok (vw x94.2.2) h100 ∧ (∃ e108 : Ev, evE (.store 1 (.const (AV.ptr (Hp.next h9) 1)) (.const (vw x94.2.2))) call .lf h100 = .ok (AV.tuple []) e108.h ∧ ((evQ (.loadA 6 (.const (AV.ptr (Hp.next h9) 0))) .lf e108.h = .ok (AV.agg [(vi Q102_0o84), (vw x94.2.2), (vw Q102_2o84), (vq Q102_3o84), wQ102_4o84, (vi Q102_5o84)]) ∧ (∃ e110 : Ev, evE (.store 6 (.const (AV.ptr (Hp.next h) 0)) (.const (AV.agg [(vi Q102_0o84), (vw x94.2.2), (vw Q102_2o84), (vq Q102_3o84), wQ102_4o84, (vi Q102_5o84)]))) call .lf e108.h = .ok (AV.tuple []) e110.h ∧ RV.cs (Eng.results [.cellA 2 6] (ovT [(2, (AV.ptr (Hp.next h) 0))] .lf) e110.h) False (fun v h => KK v h)))))))))))) ∧ (ltI (Int.ofNat 600) (Int.ofNat x44.2.2) = false → (∃ A7o71 : Nat, ∃ Q1_0o71 : List Nat, ∃ Q1_1o71 : Nat, ∃ Q102_0o71 : Nat, ∃ Q102_1o71 : Nat, ∃ Q102_2o71 : Nat, ∃ Q102_3o71 : Nat, ∃ Q102_4o71 : List Nat, ∃ Q102_5o71 : Nat, ∃ Q101_0o71 : Nat, ∃ Q101_1o71 : Nat, ∃ Q101_2o71 : Nat, ∃ Q101_3o71 : Nat, ∃ Q101_4o71 : List Nat, ∃ Q101_5o71 : Nat, ∃ wQ1_0_1o71 : AV, ∃ wQ102_4o71 : AV, ∃ wQ101_4o71 : AV, ∃ t74 : T, ∃ h75 : Hp, (evC call N (.loop rinstr_l1C) (ovT [(0, (AV.ptr b 0)), (2, (AV.ptr (Hp.next h) 0)), (3, (AV.ptr (Hp.next h9) 0)), (4, (vi ((kF x4.2.2).1))), (5, (vi ((kF x4.2.2).2))), (6, (vw x44.2.2)), (7, (vw 0)), (8, (AV.ptr b 0)), (9, (vi x4.2.2)), (10, (AV.agg [(vi x4.2.2), (vw 0), (vw 0), (vq 0), AV.nilSlice, (vi 0)])), (11, (AV.ptr b 0)), (12, (AV.ptr b 0)), (13, (AV.ptr b 0)), (14, (AV.ptr b 1)), (15, (vi x4.2.1)), (16, (AV.bool false)), (18, (AV.tuple [(vi ((kF x4.2.2).1)), (vi ((kF x4.2.2).2))])), (19, (AV.ptr (Hp.next h9) 0)), (20, (vi x4.2.2)), (21, (AV.tuple [(vi ((kF x4.2.2).1)), (vi ((kF x4.2.2).2))])), (22, (vi ((kF x4.2.2).1))), (23, (vi ((kF x4.2.2).2))), (24, (AV.ptr b 0)), (25, (AV.ptr b 0)), (26, (AV.ptr b 0)), (27, (vi ((kF x4.2.2).2))), (28, (AV.tuple [])), (29, (vi ((kF x4.2.2).1))), (30, (AV.bool false)), (31, (AV.bool (eqI (Int.ofNat ((kF x4.2.2).1)) (Int.ofNat 1)))), (52, (AV.bool false)), (53, (AV.bool (eqI (Int.ofNat ((kF x4.2.2).1)) (Int.ofNat 2)))), (76, (AV.bool false)), (77, (AV.bool (eqI (Int.ofNat ((kF x4.2.2).1)) (Int.ofNat 3)))), (83, (AV.bool false)), (84, (AV.bool (eqI (Int.ofNat ((kF x4.2.2).1)) (Int.ofNat 4)))), (90, (AV.bool false)), (91, (AV.bool (eqI (Int.ofNat ((kF x4.2.2).1)) (Int.ofNat 5)))), (109, (AV.bool false)), (110, (AV.bool (eqI (Int.ofNat ((kF x4.2.2).1)) (Int.ofNat 6)))), (114, (AV.bool true)), (115, (AV.bool (eqI (Int.ofNat ((kF x4.2.2).1)) (Int.ofNat 7)))), (116, (AV.ptr b 0)), (117, (AV.ptr b 0)), (118, (AV.ptr b 0)), (119, (vw x44.2.2)), (120, (vw x44.2.2)), (121, (AV.bool false))] .lf) h50 = (.exit 1 (ovT [(0, (AV.ptr b 0)), (2, (AV.ptr (Hp.next h) 0)), (3, (AV.ptr (Hp.next h9) 0)), (6, (vw x44.2.2)), (7, (vw A7o71)), (29, (vi ((kF x4.2.2).1)))] t74) h75) ∧ True ∧ (∃ x81 : List Nat × Nat × Nat, ∃ w91 : AV, ∃ h87 : Hp, (call 84 [(AV.ptr b 0)] h75 = .ok (vw x81.2.2) h87 ∧ (∃ e95 : Ev, evE (.store 1 (.const (AV.ptr (Hp.next h9) 1)) (.const (vw x81.2.2))) call .lf h87 = .ok (AV.tuple []) e95.h ∧ ((evQ (.loadA 6 (.const (AV.ptr (Hp.next h9) 0))) .lf e95.h = .ok (AV.agg [(vi Q102_0o71), (vw x81.2.2), (vw Q102_2o71), (vq Q102_3o71), wQ102_4o71, (vi Q102_5o71)]) ∧ (∃ e97 : Ev, evE (.store 6 (.const (AV.ptr (Hp.next h) 0)) (.const (AV.agg [(vi Q102_0o71), (vw x81.2.2), (vw Q102_2o71), (vq Q102_3o71), wQ102_4o71, (vi Q102_5o71)]))) call .lf e95.h = .ok (AV.tuple []) e97.h ∧ RV.cs (Eng.results [.cellA 2 6] (ovT [(2, (AV.ptr (Hp.next h) 0))] .lf) e97.h) False (fun v h => KK v h)))))))))))))) ∧ (eqI (Int.ofNat ((kF x4.2.2).1)) (Int.ofNat 7) = false → ((eqI (Int.ofNat ((kF x4.2.2).1)) (Int.ofNat 8) = true → ((evQ (.loadS (.const (AV.ptr (Hp.next h9) 0))) .lf h29 = .ok (vi x4.2.2) ∧ ((eqI (Int.ofNat x4.2.2) (Int.ofNat 28) = true → (∃ x46 : List Nat × Nat × Nat, ∃ w56 : AV, ∃ h52 : Hp, (call 84 [(AV.ptr b 0)] h29 = .ok (vw x46.2.2) h52 ∧ ((notB (eqI (Int.ofNat x46.2.2) (Int.ofNat 1)) = true → (∃ x61 : List Nat × Nat, ∃ w70 : AV, ∃ h66 : Hp, (call 52 [(AV.ptr b 0), (vi 2)] h52 = .ok (AV.tuple []) h66 ∧ (∃ x74 : List Nat × Nat × Nat, ∃ w84 : AV, ∃ h80 : Hp, (call 88 [(AV.ptr b 0)] h66 = .ok (vb8 x74.2.2) h80 ∧ ((evQ (.toInt .u32 (.const (vb8 x74.2.2))) .lf H0 = .ok (vw x74.2.2) ∧ (∃ e89 : Ev, evE (.store 1 (.const (AV.ptr (Hp.next h9) 1)) (.const (vw x74.2.2))) call .lf h80 = .ok (AV.tuple []) e89.h ∧ ((evQ (.loadS (.const (AV.ptr (Hp.next h9) 0))) .lf e89.h = .ok (vi x4.2.2) ∧ ((eqI (Int.ofNat x4.2.2) (Int.ofNat 208) = true → ((evQ (.loadS (.const (AV.ptr (Hp.next h9) 1))) .lf e89.h = .ok (vw x74.2.2) ∧ ((evQ (.toInt .u8 (.const (vw x74.2.2))) .lf H0 = .ok (vb8 (x74.2.2 % 256)) ∧ (∃ x93 : Bool, ∃ h98 : Hp, (call 89 [(vb8 (x74.2.2 % 256))] e89.h = .ok (AV.bool x93) h98 ∧ ((notB x93 = true → (∃ x105 : List Nat × Nat, ∃ w114 : AV, ∃ h110 : Hp, (call 52 [(AV.ptr b 0), (vi 2)] h98 = .ok (AV.tuple []) h110 ∧ ((evQ (.loadA 6 (.const (AV.ptr (Hp.next h9) 0))) .lf h110 = .ok (AV.agg [(vi x4.2.2), (vw x74.2.2), (vw 0), (vq 0), AV.nilSlice, (vi 0)]) ∧ (∃ e118 : Ev, evE (.store 6 (.const (AV.ptr (Hp.next h) 0)) (.const (AV.agg [(vi x4.2.2), (vw x74.2.2), (vw 0), (vq 0), AV.nilSlice, (vi 0)]))) call .lf h110 = .ok (AV.tuple []) e118.h ∧ RV.cs (Eng.results [.cellA 2 6] (ovT [(2, (AV.ptr (Hp.next h) 0))] .lf) e118.h) False (fun v h => KK v h))))))) ∧ (notB x93 = false → ((evQ (.loadA 6 (.const (AV.ptr (Hp.next h9) 0))) .lf h98 = .ok (AV.agg [(vi x4.2.2), (vw x74.2.2), (vw 0), (vq 0), AV.nilSlice, (vi 0)]) ∧ (∃ e105 : Ev, evE (.store 6 (.const (AV.ptr (Hp.next h) 0)) (.const (AV.agg [(vi x4.2.2), (vw x74.2.2), (vw 0), (vq 0), AV.nilSlice, (vi 0)]))) call .lf h98 = .ok (AV.tuple []) e105.h ∧ RV.cs (Eng.results [.cellA 2 6] (ovT [(2, (AV.ptr (Hp.next h) 0))] .lf) e105.h) False (fun v h => KK v h))))))))))))) ∧ (eqI (Int.ofNat x4.2.2) (Int.ofNat 208) = false → ((evQ (.loadA 6 (.const (AV.ptr (Hp.next h9) 0))) .lf e89.h = .ok (AV.agg [(vi x4.2.2), (vw x74.2.2), (vw 0), (vq 0), AV.nilSlice, (vi 0)]) ∧ (∃ e92 : Ev, evE (.store 6 (.const (AV.ptr (Hp.next h) 0)) (.const (AV.agg [(vi x4.2.2), (vw x74.2.2), (vw 0), (vq 0), AV.nilSlice, (vi 0)]))) call .lf e89.h = .ok (AV.tuple []) e92.h ∧ RV.cs (Eng.results [.cellA 2 6] (ovT [(2, (AV.ptr (Hp.next h) 0))] .lf) e92.h) False (fun v h => KK v h)))))))))))))))) ∧ (notB (eqI (Int.ofNat x46.2.2) (Int.ofNat 1)) = false → (∃ x61 : List Nat × Nat × Nat, ∃ w71 : AV, ∃ h67 : Hp, (call 88 [(AV.ptr b 0)] h52 = .ok (vb8 x61.2.2) h67 ∧ ((evQ (.toInt .u32 (.const (vb8 x61.2.2))) .lf H0 = .ok (vw x61.2.2) ∧ (∃ e76 : Ev, evE (.store 1 (.const (AV.ptr (Hp.next h9) 1)) (.const (vw x61.2.2))) call .lf h67 = .ok (AV.tuple []) e76.h ∧ ((evQ (.loadS (.const (AV.ptr (Hp.next h9) 0))) .lf e76.h = .ok (vi x4.2.2) ∧ ((eqI (Int.ofNat x4.2.2) (Int.ofNat 208) = true → ((evQ (.loadS (.const (AV.ptr (Hp.next h9) 1))) .lf e76.h = .ok (vw x61.2.2) ∧ ((evQ (.toInt .u8 (.const (vw x61.2.2))) .lf H0 = .ok (vb8 (x61.2.2 % 256)) ∧ (∃ x80 : Bool, ∃ h85 : Hp, (call 89 [(vb8 (x61.2.2 % 256))] e76.h = .ok (AV.bool x80) h85 ∧ ((notB x80 = true → (∃ x92 : List Nat × Nat, ∃ w101 : AV, ∃ h97 : Hp, (call 52 [(AV.ptr b 0), (vi 2)] h85 = .ok (AV.tuple []) h97 ∧ ((evQ (.loadA 6 (.const (AV.ptr (Hp.next h9) 0))) .lf h97 = .ok (AV.agg [(vi x4.2.2), (vw x61.2.2), (vw 0), (vq 0), AV.nilSlice, (vi 0)]) ∧ (∃ e105 : Ev, evE (.store 6 (.const (AV.ptr (Hp.next h) 0)) (.const (AV.agg [(vi x4.2.2), (vw x61.2.2), (vw 0), (vq 0), AV.nilSlice, (vi 0)]))) call .lf h97 = .ok (AV.tuple []) e105.h ∧ RV.cs (Eng.results [.cellA 2 6] (ovT [(2, (AV.ptr (Hp.next h) 0))] .lf) e105.h) False (fun v h => KK v h))))))) ∧ (notB x80 = false → ((evQ (.loadA 6 (.const (AV.ptr (Hp.next h9) 0))) .lf h85 = .ok (AV.agg [(vi x4.2.2), (vw x61.2.2), (vw 0), (vq 0), AV.nilSlice, (vi 0)]) ∧ (∃ e92 : Ev, evE (.store 6 (.const (AV.ptr (Hp.next h) 0)) (.const (AV.agg [(vi x4.2.2), (vw x61.2.2), (vw 0), (vq 0), AV.nilSlice, (vi 0)]))) call .lf h85 = .ok (AV.tuple []) e92.h ∧ RV.cs (Eng.results [.cellA 2 6] (ovT [(2, (AV.ptr (Hp.next h) 0))] .lf) e92.h) False (fun v h => KK v h))))))))))))) ∧ (eqI (Int.ofNat x4.2.2) (Int.ofNat 208) = false → ((evQ (.loadA 6 (.const (AV.ptr (Hp.next h9) 0))) .lf e76.h = .ok (AV.agg [(vi x4.2.2), (vw x61.2.2), (vw 0), (vq 0), AV.nilSlice, (vi 0)]) ∧ (∃ e79 : Ev, evE (.store 6 (.const (AV.ptr (Hp.next h) 0)) (.const (AV.agg [(vi x4.2.2), (vw x61.2.2), (vw 0), (vq 0), AV.nilSlice, (vi 0)]))) call .lf e76.h = .ok (AV.tuple []) e79.h ∧ RV.cs (Eng.results [.cellA 2 6] (ovT [(2, (AV.ptr (Hp.next h) 0))] .lf) e79.h) False (fun v h => KK v h)))))))))))))))))) ∧ (eqI (Int.ofNat x4.2.2) (Int.ofNat 28) = false → (∃ x46 : List Nat × Nat × Nat, ∃ w56 : AV, ∃ h52 : Hp, (call 88 [(AV.ptr b 0)] h29 = .ok (vb8 x46.2.2) h52 ∧ ((evQ (.toInt .u32 (.const (vb8 x46.2.2))) .lf H0 = .ok (vw x46.2.2) ∧ (∃ e61 : Ev, evE (.store 1 (.const (AV.ptr (Hp.next h9) 1)) (.const (vw x46.2.2))) call .lf h52 = .ok (AV.tuple []) e61.h ∧ ((evQ (.loadS (.const (AV.ptr (Hp.next h9) 0))) .lf e61.h = .ok (vi x4.2.2) ∧ ((eqI (Int.ofNat x4.2.2) (Int.ofNat 208) = true → ((evQ (.loadS (.const (AV.ptr (Hp.next h9) 1))) .lf e61.h = .ok (vw x46.2.2) ∧ ((evQ (.toInt .u8 (.const (vw x46.2.2))) .lf H0 = .ok (vb8 (x46.2.2 % 256)) ∧ (∃ x65 : Bool, ∃ h70 : Hp, (call 89 [(vb8 (x46.2.2 % 256))] e61.h = .ok (AV.bool x65) h70 ∧ ((notB x65 = true → (∃ x77 : List Nat × Nat, ∃ w86 : AV, ∃ h82 : Hp, (call 52 [(AV.ptr b 0), (vi 2)] h70 = .ok (AV.tuple []) h82 ∧ ((evQ (.loadA 6 (.const (AV.ptr (Hp.next h9) 0))) .lf h82 = .ok (AV.agg [(vi x4.2.2), (vw x46.2.2), (vw 0), (vq 0), AV.nilSlice, (vi 0)]) ∧ (∃ e90 : Ev, evE (.store 6 (.const (AV.ptr (Hp.next h) 0)) (.const (AV.agg [(vi x4.2.2), (vw x46.2.2), (vw 0), (vq 0), AV.nilSlice, (vi 0)]))) call .lf h82 = .ok (AV.tuple []) e90.h ∧ RV.cs (Eng.results [.cellA 2 6] (ovT [(2, (AV.ptr (Hp.next h) 0))] .lf) e90.h) False (fun v h => KK v h))))))) ∧ (notB x65 = false → ((evQ (.loadA 6 (.const (AV.ptr (Hp.next h9) 0))) .lf h70 = .ok (AV.agg [(vi x4.2.2), (vw x46.2.2), (vw 0), (vq 0), AV.nilSlice, (vi 0)]) ∧ (∃ e77 : Ev, evE (.store 6 (.const (AV.ptr (Hp.next h) 0)) (.const (AV.agg [(vi x4.2.2), (vw x46.2.2), (vw 0), (vq 0), AV.nilSlice, (vi 0)]))) call .lf h70 = .ok (AV.tuple []) e77.h ∧ RV.cs (Eng.results [.cellA 2 6] (ovT [(2, (AV.ptr (Hp.next h) 0))] .lf) e77.h) False (fun v h => KK v h))))))))))))) ∧ (eqI (Int.ofNat x4.2.2) (Int.ofNat 208) = false → ((evQ (.loadA 6 (.const (AV.ptr (Hp.next h9) 0))) .lf e61.h = .ok (AV.agg [(vi x4.2.2), (vw x46.2.2), (vw 0), (vq 0), AV.nilSlice, (vi 0)]) ∧ (∃ e64 : Ev, evE (.store 6 (.const (AV.ptr (Hp.next h) 0)) (.const (AV.agg [(vi x4.2.2), (vw x46.2.2), (vw 0), (vq 0), AV.nilSlice, (vi 0)]))) call .lf e61.h = .ok (AV.tuple []) e64.h ∧ RV.cs (Eng.results [.cellA 2 6] (ovT [(2, (AV.ptr (Hp.next h) 0))] .lf) e64.h) False (fun v h => KK v h)))))))))))))))))) ∧ (eqI (Int.ofNat ((kF x4.2.2).1)) (Int.ofNat 8) = false → ((evQ (.loadA 6 (.const (AV.ptr (Hp.next h9) 0))) .lf h29 = .ok (AV.agg [(vi x4.2.2), (vw 0), (vw 0), (vq 0), AV.nilSlice, (vi 0)]) ∧ (∃ e45 : Ev, evE (.store 6 (.const (AV.ptr (Hp.next h) 0)) (.const (AV.agg [(vi x4.2.2), (vw 0), (vw 0), (vq 0), AV.nilSlice, (vi 0)]))) call .lf h29 = .ok (AV.tuple []) e45.h ∧ RV.cs (Eng.results [.cellA 2 6] (ovT [(2, (AV.ptr (Hp.next h) 0))] .lf) e45.h) False (fun v h => KK v h))))))))))))))))))))))))))))))))) (fun (rv : AV) (rh : Hp) => ∃ wk4 : AV, ∃ wk6 : AV, ∃ Gk : Nat → Prop, ∃ kk : Hp, rv = (AV.agg [(vi r.2.2.1), (vw r.2.2.2.1), (vw r.2.2.2.2.1), (vq r.2.2.2.2.2.1), wk4, (AV.int .i64 r.2.2.2.2.2.2.2)]) ∧ (r.2.2.2.1 < 4294967296) ∧ (r.2.2.2.2.1 < 4294967296) ∧ (r.2.2.2.2.2.1 < 18446744073709551616) ∧ (SIn (rU .u32) Gk kk wk4 r.2.2.2.2.2.2.1) ∧ (BIn G h0 wk6 r.1) ∧ Eng.Sep (Cel b (wk6 :: (vi r.2.1) :: rest) :: Frz Gk kk :: Frz G h0 :: R) rh)) (by kernel_rfl) ?_
  have S1 := cel_new S [(vi 0), (vw 0), (vw 0), (vq 0), AV.nilSlice, (vi 0)] rfl
  have S2 := S1.front 2 rfl
  have S3 := S2.front 2 rfl
  have ⟨x4, hb5, hp⟩ := ob_inv hp
  obtain ⟨v8, h9, q10, w13, e11, f14, S12⟩ := h_rop frb_2 hb5 S3
  replace e11 := e11.symm
  subst e11
  refine ⟨x4, w13, h9, q10, ?_⟩
  have S17 := cel_new S12 [(vi 0), (vw 0), (vw 0), (vq 0), AV.nilSlice, (vi 0)] rfl
  obtain ⟨e18, qe18, se18⟩ := cel_storeN call S17 (i := 0) (o := 0) (n := 6) (xs := [(vi x4.2.2), (vw 0), (vw 0), (vq 0), AV.nilSlice, (vi 0)]) rfl (lb rfl) rfl (by decide) (all_cell rfl (all_cell rfl (all_cell rfl (all_cell rfl (all_cell rfl (all_cell rfl all_cell0))))))
  refine ⟨e18, qe18, ?_⟩
  refine ⟨cel_load se18 (i := 1) rfl rfl, ?_⟩
  refine ⟨fun c20 => ?_, fun c20 => ?_⟩
  · replace c20 := eqI_f (notB_t c20)
    replace hp := ift hp c20
    refine ⟨cel_loadA se18 (i := 0) (o := 0) (n := 6) rfl (lb rfl), ?_⟩
    obtain ⟨e21, qe21, se21⟩ := cel_storeN call se18 (i := 3) (o := 0) (n := 6) (xs := [(vi x4.2.2), (vw 0), (vw 0), (vq 0), AV.nilSlice, (vi 0)]) rfl (lb rfl) rfl (by decide) (all_cell rfl (all_cell rfl (all_cell rfl (all_cell rfl (all_cell rfl (all_cell rfl all_cell0))))))
    refine ⟨e21, qe21, ?_⟩
    have S23 := se21.empty
    have S24 := S23.front 1 rfl
    have S25 := S24.tail
    have S26 := S25.front 3 rfl
    have S27 := S26.tail
    have S28 := S27.front 2 rfl
    have S29 := S28.front 1 rfl
    have S30 := S29.front 2 rfl
    obtain rfl := Option.some.inj hp
    refine res_ok (rs := [.cellA 2 6]) (t := (ovT [(2, (AV.ptr (Hp.next h) 0))] .lf)) (v := (AV.agg [(vi x4.2.2), (vw 0), (vw 0), (vq 0), AV.nilSlice, (vi 0)])) (by unfold Eng.results; rw [evRs_cellA (n := 6) (by kernel_rfl) (cel_get se21 (i := 3) rfl) rfl]; rfl) ?_
    exact ⟨AV.nilSlice, w13, (fun _ => False), e21.h, rfl, (show 0 < 4294967296 by decide), (show 0 < 4294967296 by decide), (show 0 < 18446744073709551616 by decide), SIn.nil, f14, S30⟩
  replace c20 := eqI_t (notB_f c20)
  replace hp := iff0 hp (nneO c20)
  refine ⟨cel_load se18 (i := 0) rfl rfl, ?_⟩
  have ⟨g21, hp⟩ := gd_inv hp
  refine ⟨h_rkind g21, ?_⟩
  have S22 := se18.front 2 rfl
  have S23 := S22.front 2 rfl
  have ⟨x24, hb25, hp⟩ := ob_inv hp
  obtain ⟨v28, h29, q30, w33, e31, f34, S32⟩ := h_rfail f14 hb25 S23
  replace e31 := e31.symm
  subst e31
  refine ⟨x24, w33, h29, q30, ?_⟩
  refine ⟨fun c37 => ?_, fun c37 => ?_⟩
  · replace c37 := eqI_t c37
    replace hp := ift hp c37
    refine ⟨cel_load S32 (i := 2) rfl rfl, ?_⟩
    refine ⟨fun c38 => ?_, fun c38 => ?_⟩
    · replace c38 := eqI_t c38
      replace hp := ift hp c38
      have ⟨x39, hb40, hp⟩ := ob_inv hp
      obtain ⟨v43, h44, q45, w48, e46, f49, S47⟩ := h_rzero f34 hb40 S32
      replace e46 := e46.symm
      subst e46
      refine ⟨x39, w48, h44, q45, ?_⟩
      refine ⟨cel_loadA S47 (i := 2) (o := 0) (n := 6) rfl (lb rfl), ?_⟩
      obtain ⟨e52, qe52, se52⟩ := cel_storeN call S47 (i := 3) (o := 0) (n := 6) (xs := [(vi x4.2.2), (vw 0), (vw 0), (vq 0), AV.nilSlice, (vi 0)]) rfl (lb rfl) rfl (by decide) (all_cell rfl (all_cell rfl (all_cell rfl (all_cell rfl (all_cell rfl (all_cell rfl all_cell0))))))
      refine ⟨e52, qe52, ?_⟩
      have S54 := se52.empty
      have S55 := S54.front 3 rfl
      have S56 := S55.tail
      have S57 := S56.front 3 rfl
      have S58 := S57.tail
      have S59 := S58.front 2 rfl
      have S60 := S59.front 1 rfl
      have S61 := S60.front 2 rfl
      obtain rfl := Option.some.inj hp
      refine res_ok (rs := [.cellA 2 6]) (t := (ovT [(2, (AV.ptr (Hp.next h) 0))] .lf)) (v := (AV.agg [(vi x4.2.2), (vw 0), (vw 0), (vq 0), AV.nilSlice, (vi 0)])) (by unfold Eng.results; rw [evRs_cellA (n := 6) (by kernel_rfl) (cel_get se52 (i := 3) rfl) rfl]; rfl) ?_
      exact ⟨AV.nilSlice, w48, (fun _ => False), e52.h, rfl, (show 0 < 4294967296 by decide), (show 0 < 4294967296 by decide), (show 0 < 18446744073709551616 by decide), SIn.nil, f49, S61⟩
    replace c38 := eqI_f c38
    replace hp := iff0 hp (c38)
    refine ⟨cel_load S32 (i := 2) rfl rfl, ?_⟩
    refine ⟨fun c39 => ?_, fun c39 => ?_⟩
    · replace c39 := eqI_t c39
      replace hp := ift hp c39
      have ⟨x40, hb41, hp⟩ := ob_inv hp
      obtain ⟨v44, h45, q46, w49, e47, f50, S48⟩ := h_rzero f34 hb41 S32
      replace e47 := e47.symm
      subst e47
      refine ⟨x40, w49, h45, q46, ?_⟩
      refine ⟨cel_loadA S48 (i := 2) (o := 0) (n := 6) rfl (lb rfl), ?_⟩
      obtain ⟨e53, qe53, se53⟩ := cel_storeN call S48 (i := 3) (o := 0) (n := 6) (xs := [(vi x4.2.2), (vw 0), (vw 0), (vq 0), AV.nilSlice, (vi 0)]) rfl (lb rfl) rfl (by decide) (all_cell rfl (all_cell rfl (all_cell rfl (all_cell rfl (all_cell rfl (all_cell rfl all_cell0))))))
      refine ⟨e53, qe53, ?_⟩
      have S55 := se53.empty
      have S56 := S55.front 3 rfl
      have S57 := S56.tail
      have S58 := S57.front 3 rfl
      have S59 := S58.tail
      have S60 := S59.front 2 rfl
      have S61 := S60.front 1 rfl
      have S62 := S61.front 2 rfl
      obtain rfl := Option.some.inj hp
      refine res_ok (rs := [.cellA 2 6]) (t := (ovT [(2, (AV.ptr (Hp.next h) 0))] .lf)) (v := (AV.agg [(vi x4.2.2), (vw 0), (vw 0), (vq 0), AV.nilSlice, (vi 0)])) (by unfold Eng.results; rw [evRs_cellA (n := 6) (by kernel_rfl) (cel_get se53 (i := 3) rfl) rfl]; rfl) ?_
      exact ⟨AV.nilSlice, w49, (fun _ => False), e53.h, rfl, (show 0 < 4294967296 by decide), (show 0 < 4294967296 by decide), (show 0 < 18446744073709551616 by decide), SIn.nil, f50, S62⟩
    replace c39 := eqI_f c39
    replace hp := iff0 hp (c39)
    refine ⟨cel_load S32 (i := 2) rfl rfl, ?_⟩
    refine ⟨fun c40 => ?_, fun c40 => ?_⟩
    · replace c40 := eqI_t c40
      replace hp := ift hp c40
      have ⟨x41, hb42, hp⟩ := ob_inv hp
      obtain ⟨v45, h46, q47, w50, e48, f51, S49⟩ := h_rzero f34 hb42 S32
      replace e48 := e48.symm
      subst e48
      refine ⟨x41, w50, h46, q47, ?_⟩
      refine ⟨cel_loadA S49 (i := 2) (o := 0) (n := 6) rfl (lb rfl), ?_⟩
      obtain ⟨e54, qe54, se54⟩ := cel_storeN call S49 (i := 3) (o := 0) (n := 6) (xs := [(vi x4.2.2), (vw 0), (vw 0), (vq 0), AV.nilSlice, (vi 0)]) rfl (lb rfl) rfl (by decide) (all_cell rfl (all_cell rfl (all_cell rfl (all_cell rfl (all_cell rfl (all_cell rfl all_cell0))))))
      refine ⟨e54, qe54, ?_⟩
      have S56 := se54.empty
      have S57 := S56.front 3 rfl
      have S58 := S57.tail
      have S59 := S58.front 3 rfl
      have S60 := S59.tail
      have S61 := S60.front 2 rfl
      have S62 := S61.front 1 rfl
      have S63 := S62.front 2 rfl
      obtain rfl := Option.some.inj hp
      refine res_ok (rs := [.cellA 2 6]) (t := (ovT [(2, (AV.ptr (Hp.next h) 0))] .lf)) (v := (AV.agg [(vi x4.2.2), (vw 0), (vw 0), (vq 0), AV.nilSlice, (vi 0)])) (by unfold Eng.results; rw [evRs_cellA (n := 6) (by kernel_rfl) (cel_get se54 (i := 3) rfl) rfl]; rfl) ?_
      exact ⟨AV.nilSlice, w50, (fun _ => False), e54.h, rfl, (show 0 < 4294967296 by decide), (show 0 < 4294967296 by decide), (show 0 < 18446744073709551616 by decide), SIn.nil, f51, S63⟩
    replace c40 := eqI_f c40
    replace hp := iff0 hp (c40)
    have ⟨x41, hb42, hp⟩ := ob_inv hp
    obtain ⟨v46, h47, q48, w51, e49, f45, f52, S50⟩ := h_ru32 f34 hb42 S32
    replace e49 := e49.symm
    subst e49
    refine ⟨x41, w51, h47, q48, ?_⟩
    obtain ⟨e55, qe55, se55⟩ := cel_store call S50 (i := 2) (o := 1) (x := (vw x41.2.2)) rfl (lb rfl) rfl
    refine ⟨e55, qe55, ?_⟩
    refine ⟨cel_loadA se55 (i := 2) (o := 0) (n := 6) rfl (lb rfl), ?_⟩
    obtain ⟨e57, qe57, se57⟩ := cel_storeN call se55 (i := 3) (o := 0) (n := 6) (xs := [(vi x4.2.2), (vw x41.2.2), (vw 0), (vq 0), AV.nilSlice, (vi 0)]) rfl (lb rfl) rfl (by decide) (all_cell rfl (all_cell rfl (all_cell rfl (all_cell rfl (all_cell rfl (all_cell rfl all_cell0))))))
    refine ⟨e57, qe57, ?_⟩
    have S59 := se57.empty
    have S60 := S59.front 3 rfl
    have S61 := S60.tail
    have S62 := S61.front 3 rfl
    have S63 := S62.tail
    have S64 := S63.front 2 rfl
    have S65 := S64.front 1 rfl
    have S66 := S65.front 2 rfl
    obtain rfl := Option.some.inj hp
    refine res_ok (rs := [.cellA 2 6]) (t := (ovT [(2, (AV.ptr (Hp.next h) 0))] .lf)) (v := (AV.agg [(vi x4.2.2), (vw x41.2.2), (vw 0), (vq 0), AV.nilSlice, (vi 0)])) (by unfold Eng.results; rw [evRs_cellA (n := 6) (by kernel_rfl) (cel_get se57 (i := 3) rfl) rfl]; rfl) ?_
    exact ⟨AV.nilSlice, w51, (fun _ => False), e57.h, rfl, f45, (show 0 < 4294967296 by decide), (show 0 < 18446744073709551616 by decide), SIn.nil, f52, S66⟩
  replace c37 := eqI_f c37
  replace hp := iff0 hp (c37)
  refine ⟨fun c38 => ?_, fun c38 => ?_⟩
  · replace c38 := eqI_t c38
    replace hp := ift hp c38
    refine ⟨cel_load S32 (i := 2) rfl rfl, ?_⟩
    refine ⟨fun c39 => ?_, fun c39 => ?_⟩
    · replace c39 := eqI_t c39
      replace hp := ift hp c39
      have ⟨x40, hb41, hp⟩ := ob_inv hp
      obtain ⟨v44, h45, q46, w49, e47, f50, S48⟩ := h_rzero f34 hb41 S32
      replace e47 := e47.symm
      subst e47
      refine ⟨x40, w49, h45, q46, ?_⟩
      have ⟨x53, hb54, hp⟩ := ob_inv hp
      obtain ⟨v57, h58, q59, w62, e60, f63, S61⟩ := h_rzero f50 hb54 S48
      replace e60 := e60.symm
      subst e60
      refine ⟨x53, w62, h58, q59, ?_⟩
      refine ⟨cel_loadA S61 (i := 2) (o := 0) (n := 6) rfl (lb rfl), ?_⟩
      obtain ⟨e66, qe66, se66⟩ := cel_storeN call S61 (i := 3) (o := 0) (n := 6) (xs := [(vi x4.2.2), (vw 0), (vw 0), (vq 0), AV.nilSlice, (vi 0)]) rfl (lb rfl) rfl (by decide) (all_cell rfl (all_cell rfl (all_cell rfl (all_cell rfl (all_cell rfl (all_cell rfl all_cell0))))))
      refine ⟨e66, qe66, ?_⟩
      have S68 := se66.empty
      have S69 := S68.front 3 rfl
      have S70 := S69.tail
      have S71 := S70.front 3 rfl
      have S72 := S71.tail
      have S73 := S72.front 2 rfl
      have S74 := S73.front 1 rfl
      have S75 := S74.front 2 rfl
      obtain rfl := Option.some.inj hp
      refine res_ok (rs := [.cellA 2 6]) (t := (ovT [(2, (AV.ptr (Hp.next h) 0))] .lf)) (v := (AV.agg [(vi x4.2.2), (vw 0), (vw 0), (vq 0), AV.nilSlice, (vi 0)])) (by unfold Eng.results; rw [evRs_cellA (n := 6) (by kernel_rfl) (cel_get se66 (i := 3) rfl) rfl]; rfl) ?_
      exact ⟨AV.nilSlice, w62, (fun _ => False), e66.h, rfl, (show 0 < 4294967296 by decide), (show 0 < 4294967296 by decide), (show 0 < 18446744073709551616 by decide), SIn.nil, f63, S75⟩
    replace c39 := eqI_f c39
    replace hp := iff0 hp (c39)
    have ⟨x40, hb41, hp⟩ := ob_inv hp
    obtain ⟨v45, h46, q47, w50, e48, f44, f51, S49⟩ := h_ru32 f34 hb41 S32
    replace e48 := e48.symm
    subst e48
    refine ⟨x40, w50, h46, q47, ?_⟩
    obtain ⟨e54, qe54, se54⟩ := cel_store call S49 (i := 2) (o := 1) (x := (vw x40.2.2)) rfl (lb rfl) rfl
    refine ⟨e54, qe54, ?_⟩
    refine ⟨cel_load se54 (i := 2) rfl rfl, ?_⟩
    refine ⟨fun c56 => ?_, fun c56 => ?_⟩
    · replace c56 := eqI_t c56
      replace hp := ift hp c56
      have ⟨x57, hb58, hp⟩ := ob_inv hp
      obtain ⟨v61, h62, q63, w66, e64, f67, S65⟩ := h_rzero f51 hb58 se54
      replace e64 := e64.symm
      subst e64
      refine ⟨x57, w66, h62, q63, ?_⟩
      refine ⟨cel_loadA S65 (i := 2) (o := 0) (n := 6) rfl (lb rfl), ?_⟩
      obtain ⟨e70, qe70, se70⟩ := cel_storeN call S65 (i := 3) (o := 0) (n := 6) (xs := [(vi x4.2.2), (vw x40.2.2), (vw 0), (vq 0), AV.nilSlice, (vi 0)]) rfl (lb rfl) rfl (by decide) (all_cell rfl (all_cell rfl (all_cell rfl (all_cell rfl (all_cell rfl (all_cell rfl all_cell0))))))
      refine ⟨e70, qe70, ?_⟩
      have S72 := se70.empty
      have S73 := S72.front 3 rfl
      have S74 := S73.tail
      have S75 := S74.front 3 rfl
      have S76 := S75.tail
      have S77 := S76.front 2 rfl
      have S78 := S77.front 1 rfl
      have S79 := S78.front 2 rfl
      obtain rfl := Option.some.inj hp
      refine res_ok (rs := [.cellA 2 6]) (t := (ovT [(2, (AV.ptr (Hp.next h) 0))] .lf)) (v := (AV.agg [(vi x4.2.2), (vw x40.2.2), (vw 0), (vq 0), AV.nilSlice, (vi 0)])) (by unfold Eng.results; rw [evRs_cellA (n := 6) (by kernel_rfl) (cel_get se70 (i := 3) rfl) rfl]; rfl) ?_
      exact ⟨AV.nilSlice, w66, (fun _ => False), e70.h, rfl, f44, (show 0 < 4294967296 by decide), (show 0 < 18446744073709551616 by decide), SIn.nil, f67, S79⟩
    replace c56 := eqI_f c56
    replace hp := iff0 hp (c56)
    have ⟨x57, hb58, hp⟩ := ob_inv hp
    obtain ⟨v62, h63, q64, w67, e65, f61, f68, S66⟩ := h_ru32 f51 hb58 se54
    replace e65 := e65.symm
    subst e65
    refine ⟨x57, w67, h63, q64, ?_⟩
    obtain ⟨e71, qe71, se71⟩ := cel_store call S66 (i := 2) (o := 2) (x := (vw x57.2.2)) rfl (lb rfl) rfl
    refine ⟨e71, qe71, ?_⟩
    refine ⟨cel_loadA se71 (i := 2) (o := 0) (n := 6) rfl (lb rfl), ?_⟩
    obtain ⟨e73, qe73, se73⟩ := cel_storeN call se71 (i := 3) (o := 0) (n := 6) (xs := [(vi x4.2.2), (vw x40.2.2), (vw x57.2.2), (vq 0), AV.nilSlice, (vi 0)]) rfl (lb rfl) rfl (by decide) (all_cell rfl (all_cell rfl (all_cell rfl (all_cell rfl (all_cell rfl (all_cell rfl all_cell0))))))
    refine ⟨e73, qe73, ?_⟩
    have S75 := se73.empty
    have S76 := S75.front 3 rfl
    have S77 := S76.tail
    have S78 := S77.front 3 rfl
    have S79 := S78.tail
    have S80 := S79.front 2 rfl
    have S81 := S80.front 1 rfl
    have S82 := S81.front 2 rfl
    obtain rfl := Option.some.inj hp
    refine res_ok (rs := [.cellA 2 6]) (t := (ovT [(2, (AV.ptr (Hp.next h) 0))] .lf)) (v := (AV.agg [(vi x4.2.2), (vw x40.2.2), (vw x57.2.2), (vq 0), AV.nilSlice, (vi 0)])) (by unfold Eng.results; rw [evRs_cellA (n := 6) (by kernel_rfl) (cel_get se73 (i := 3) rfl) rfl]; rfl) ?_
    exact ⟨AV.nilSlice, w67, (fun _ => False), e73.h, rfl, f44, f61, (show 0 < 18446744073709551616 by decide), SIn.nil, f68, S82⟩
  replace c38 := eqI_f c38
  replace hp := iff0 hp (c38)
  refine ⟨fun c39 => ?_, fun c39 => ?_⟩
  · replace c39 := eqI_t c39
    replace hp := ift hp c39
    have ⟨x40, hb41, hp⟩ := ob_inv hp
    obtain ⟨v45, h46, q47, w50, e48, f44, f51, S49⟩ := h_rs32 f34 hb41 S32
    replace e48 := e48.symm
    subst e48
    refine ⟨x40, w50, h46, q47, ?_⟩
    obtain ⟨e54, qe54, se54⟩ := cel_store call S49 (i := 2) (o := 3) (x := (vq x40.2.2)) rfl (lb rfl) rfl
    refine ⟨e54, qe54, ?_⟩
    refine ⟨cel_loadA se54 (i := 2) (o := 0) (n := 6) rfl (lb rfl), ?_⟩
    obtain ⟨e56, qe56, se56⟩ := cel_storeN call se54 (i := 3) (o := 0) (n := 6) (xs := [(vi x4.2.2), (vw 0), (vw 0), (vq x40.2.2), AV.nilSlice, (vi 0)]) rfl (lb rfl) rfl (by decide) (all_cell rfl (all_cell rfl (all_cell rfl (all_cell rfl (all_cell rfl (all_cell rfl all_cell0))))))
    refine ⟨e56, qe56, ?_⟩
    have S58 := se56.empty
    have S59 := S58.front 3 rfl
    have S60 := S59.tail
    have S61 := S60.front 3 rfl
    have S62 := S61.tail
    have S63 := S62.front 2 rfl
    have S64 := S63.front 1 rfl
    have S65 := S64.front 2 rfl
    obtain rfl := Option.some.inj hp
    refine res_ok (rs := [.cellA 2 6]) (t := (ovT [(2, (AV.ptr (Hp.next h) 0))] .lf)) (v := (AV.agg [(vi x4.2.2), (vw 0), (vw 0), (vq x40.2.2), AV.nilSlice, (vi 0)])) (by unfold Eng.results; rw [evRs_cellA (n := 6) (by kernel_rfl) (cel_get se56 (i := 3) rfl) rfl]; rfl) ?_
    exact ⟨AV.nilSlice, w50, (fun _ => False), e56.h, rfl, (show 0 < 4294967296 by decide), (show 0 < 4294967296 by decide), f44, SIn.nil, f51, S65⟩
  replace c39 := eqI_f c39
  replace hp := iff0 hp (c39)
  refine ⟨fun c40 => ?_, fun c40 => ?_⟩
  · replace c40 := eqI_t c40
    replace hp := ift hp c40
    have ⟨x41, hb42, hp⟩ := ob_inv hp
    obtain ⟨v46, h47, q48, w51, e49, f45, f52, S50⟩ := h_rs64 f34 hb42 S32
    replace e49 := e49.symm
    subst e49
    refine ⟨x41, w51, h47, q48, ?_⟩
    obtain ⟨e55, qe55, se55⟩ := cel_store call S50 (i := 2) (o := 3) (x := (vq x41.2.2)) rfl (lb rfl) rfl
    refine ⟨e55, qe55, ?_⟩
    refine ⟨cel_loadA se55 (i := 2) (o := 0) (n := 6) rfl (lb rfl), ?_⟩
    obtain ⟨e57, qe57, se57⟩ := cel_storeN call se55 (i := 3) (o := 0) (n := 6) (xs := [(vi x4.2.2), (vw 0), (vw 0), (vq x41.2.2), AV.nilSlice, (vi 0)]) rfl (lb rfl) rfl (by decide) (all_cell rfl (all_cell rfl (all_cell rfl (all_cell rfl (all_cell rfl (all_cell rfl all_cell0))))))
    refine ⟨e57, qe57, ?_⟩
    have S59 := se57.empty
    have S60 := S59.front 3 rfl
    have S61 := S60.tail
    have S62 := S61.front 3 rfl
    have S63 := S62.tail
    have S64 := S63.front 2 rfl
    have S65 := S64.front 1 rfl
    have S66 := S65.front 2 rfl
    obtain rfl := Option.some.inj hp
    refine res_ok (rs := [.cellA 2 6]) (t := (ovT [(2, (AV.ptr (Hp.next h) 0))] .lf)) (v := (AV.agg [(vi x4.2.2), (vw 0), (vw 0), (vq x41.2.2), AV.nilSlice, (vi 0)])) (by unfold Eng.results; rw [evRs_cellA (n := 6) (by kernel_rfl) (cel_get se57 (i := 3) rfl) rfl]; rfl) ?_
    exact ⟨AV.nilSlice, w51, (fun _ => False), e57.h, rfl, (show 0 < 4294967296 by decide), (show 0 < 4294967296 by decide), f45, SIn.nil, f52, S66⟩
  replace c40 := eqI_f c40
  replace hp := iff0 hp (c40)
  refine ⟨fun c41 => ?_, fun c41 => ?_⟩
  · replace c41 := eqI_t c41
    replace hp := ift hp c41
    have ⟨x42, hb43, hp⟩ := ob_inv hp
    obtain ⟨v47, h48, q49, w52, e50, f46, f53, S51⟩ := h_ru32 f34 hb43 S32
    replace e50 := e50.symm
    subst e50
    refine ⟨x42, w52, h48, q49, ?_⟩
    obtain ⟨e56, qe56, se56⟩ := cel_store call S51 (i := 2) (o := 1) (x := (vw x42.2.2)) rfl (lb rfl) rfl
    refine ⟨e56, qe56, ?_⟩
    refine ⟨cel_load se56 (i := 2) rfl rfl, ?_⟩
    refine ⟨fun c58 => ?_, fun c58 => ?_⟩
    · replace c58 := ltI_t c58
      replace hp := ift hp c58
      have ⟨x59, hb60, hp⟩ := ob_inv hp
      obtain ⟨v63, h64, q65, w68, e66, f69, S67⟩ := h_rfail f53 hb60 se56
      replace e66 := e66.symm
      subst e66
      refine ⟨x59, w68, h64, q65, ?_⟩
      have ⟨x72, hb73, hp⟩ := ob_inv hp
      obtain ⟨v77, h78, q79, w82, e80, f76, f83, S81⟩ := h_ru32 f69 hb73 S67
      replace e80 := e80.symm
      subst e80
      refine ⟨x72, w82, h78, q79, ?_⟩
      obtain ⟨e86, qe86, se86⟩ := cel_store call S81 (i := 2) (o := 2) (x := (vw x72.2.2)) rfl (lb rfl) rfl
      refine ⟨e86, qe86, ?_⟩
      refine ⟨cel_loadA se86 (i := 2) (o := 0) (n := 6) rfl (lb rfl), ?_⟩
      obtain ⟨e88, qe88, se88⟩ := cel_storeN call se86 (i := 3) (o := 0) (n := 6) (xs := [(vi x4.2.2), (vw x42.2.2), (vw x72.2.2), (vq 0), AV.nilSlice, (vi 0)]) rfl (lb rfl) rfl (by decide) (all_cell rfl (all_cell rfl (all_cell rfl (all_cell rfl (all_cell rfl (all_cell rfl all_cell0))))))
      refine ⟨e88, qe88, ?_⟩
      have S90 := se88.empty
      have S91 := S90.front 3 rfl
      have S92 := S91.tail
      have S93 := S92.front 3 rfl
      have S94 := S93.tail
      have S95 := S94.front 2 rfl
      have S96 := S95.front 1 rfl
      have S97 := S96.front 2 rfl
      obtain rfl := Option.some.inj hp
      refine res_ok (rs := [.cellA 2 6]) (t := (ovT [(2, (AV.ptr (Hp.next h) 0))] .lf)) (v := (AV.agg [(vi x4.2.2), (vw x42.2.2), (vw x72.2.2), (vq 0), AV.nilSlice, (vi 0)])) (by unfold Eng.results; rw [evRs_cellA (n := 6) (by kernel_rfl) (cel_get se88 (i := 3) rfl) rfl]; rfl) ?_
      exact ⟨AV.nilSlice, w82, (fun _ => False), e88.h, rfl, f46, f76, (show 0 < 18446744073709551616 by decide), SIn.nil, f83, S97⟩
    replace c58 := ltI_f c58
    replace hp := iff0 hp (nltO c58)
    have ⟨x59, hb60, hp⟩ := ob_inv hp
    obtain ⟨v64, h65, q66, w69, e67, f63, f70, S68⟩ := h_ru32 f53 hb60 se56
    replace e67 := e67.symm
    subst e67
    refine ⟨x59, w69, h65, q66, ?_⟩
    obtain ⟨e73, qe73, se73⟩ := cel_store call S68 (i := 2) (o := 2) (x := (vw x59.2.2)) rfl (lb rfl) rfl
    refine ⟨e73, qe73, ?_⟩
    refine ⟨cel_loadA se73 (i := 2) (o := 0) (n := 6) rfl (lb rfl), ?_⟩
    obtain ⟨e75, qe75, se75⟩ := cel_storeN call se73 (i := 3) (o := 0) (n := 6) (xs := [(vi x4.2.2), (vw x42.2.2), (vw x59.2.2), (vq 0), AV.nilSlice, (vi 0)]) rfl (lb rfl) rfl (by decide) (all_cell rfl (all_cell rfl (all_cell rfl (all_cell rfl (all_cell rfl (all_cell rfl all_cell0))))))
    refine ⟨e75, qe75, ?_⟩
    have S77 := se75.empty
    have S78 := S77.front 3 rfl
    have S79 := S78.tail
    have S80 := S79.front 3 rfl
    have S81 := S80.tail
    have S82 := S81.front 2 rfl
    have S83 := S82.front 1 rfl
    have S84 := S83.front 2 rfl
    obtain rfl := Option.some.inj hp
    refine res_ok (rs := [.cellA 2 6]) (t := (ovT [(2, (AV.ptr (Hp.next h) 0))] .lf)) (v := (AV.agg [(vi x4.2.2), (vw x42.2.2), (vw x59.2.2), (vq 0), AV.nilSlice, (vi 0)])) (by unfold Eng.results; rw [evRs_cellA (n := 6) (by kernel_rfl) (cel_get se75 (i := 3) rfl) rfl]; rfl) ?_
    exact ⟨AV.nilSlice, w69, (fun _ => False), e75.h, rfl, f46, f63, (show 0 < 18446744073709551616 by decide), SIn.nil, f70, S84⟩
  replace c41 := eqI_f c41
  replace hp := iff0 hp (c41)
  refine ⟨fun c42 => ?_, fun c42 => ?_⟩
  · replace c42 := eqI_t c42
    replace hp := ift hp c42
    have ⟨x43, hb44, hp⟩ := ob_inv hp
    obtain ⟨v47, h48, q49, w52, e50, f53, S51⟩ := h_rblock f34 hb44 S32
    replace e50 := e50.symm
    subst e50
    refine ⟨x43, w52, h48, q49, ?_⟩
    obtain ⟨e56, qe56, se56⟩ := cel_store call S51 (i := 2) (o := 5) (x := (AV.int .i64 x43.2.2)) rfl (lb rfl) rfl
    refine ⟨e56, qe56, ?_⟩
    refine ⟨cel_loadA se56 (i := 2) (o := 0) (n := 6) rfl (lb rfl), ?_⟩
    obtain ⟨e58, qe58, se58⟩ := cel_storeN call se56 (i := 3) (o := 0) (n := 6) (xs := [(vi x4.2.2), (vw 0), (vw 0), (vq 0), AV.nilSlice, (AV.int .i64 x43.2.2)]) rfl (lb rfl) rfl (by decide) (all_cell rfl (all_cell rfl (all_cell rfl (all_cell rfl (all_cell rfl (all_cell rfl all_cell0))))))
    refine ⟨e58, qe58, ?_⟩
    have S60 := se58.empty
    have S61 := S60.front 3 rfl
    have S62 := S61.tail
    have S63 := S62.front 3 rfl
    have S64 := S63.tail
    have S65 := S64.front 2 rfl
    have S66 := S65.front 1 rfl
    have S67 := S66.front 2 rfl
    obtain rfl := Option.some.inj hp
    refine res_ok (rs := [.cellA 2 6]) (t := (ovT [(2, (AV.ptr (Hp.next h) 0))] .lf)) (v := (AV.agg [(vi x4.2.2), (vw 0), (vw 0), (vq 0), AV.nilSlice, (AV.int .i64 x43.2.2)])) (by unfold Eng.results; rw [evRs_cellA (n := 6) (by kernel_rfl) (cel_get se58 (i := 3) rfl) rfl]; rfl) ?_
    exact ⟨AV.nilSlice, w52, (fun _ => False), e58.h, rfl, (show 0 < 4294967296 by decide), (show 0 < 4294967296 by decide), (show 0 < 18446744073709551616 by decide), SIn.nil, f53, S67⟩
  replace c42 := eqI_f c42
  replace hp := iff0 hp (c42)
  refine ⟨fun c43 => ?_, fun c43 => ?_⟩
  · replace c43 := eqI_t c43
    replace hp := ift hp c43
    have ⟨x44, hb45, hp⟩ := ob_inv hp
    obtain ⟨v49, h50, q51, w54, e52, f48, f55, S53⟩ := h_ru32 f34 hb45 S32
    replace e52 := e52.symm
    subst e52
    refine ⟨x44, w54, h50, q51, ?_⟩
    refine ⟨fun c58 => ?_, fun c58 => ?_⟩
    · replace c58 := ltI_t c58
      replace hp := ift hp c58
      have ⟨x59, hb60, hp⟩ := ob_inv hp
      obtain ⟨v63, h64, q65, w68, e66, f69, S67⟩ := h_rfail f55 hb60 S53
      replace e66 := e66.symm
      subst e66
      refine ⟨x59, w68, h64, q65, ?_⟩
      have S72 := S67.empty
      have S73 := own_nil S72 1
      have S74 := S73.empty
      have S75 := own_nil S74 1
      have S76 := S75.front 5 rfl
      have S77 := S76.front 4 rfl
      have S78 := S77.front 3 rfl
      have S79 := S78.front 3 rfl
      have S80 := S79.front 7 rfl
      have S81 := S80.front 5 rfl
      have S82 := S81.front 7 rfl
      have S83 := S82.front 7 rfl
      have ⟨o84, hb85, hp⟩ := ob_inv hp
      rcases rinstr_l1_t f48 h_rfail h_rkind h_rop h_rzero h_ru32 h_rs32 h_rs64 h_rblock h_rvalue h_rref (o := o84) (B6 := x44.2.2) (B29 := (kF x4.2.2).1) (n := 90000) (A7 := 0) (Q1_0 := x59.1) (Q1_1 := x59.2) (Q102_0 := x4.2.2) (Q102_1 := 0) (Q102_2 := 0) (Q102_3 := 0) (Q102_4 := ([] : List Nat)) (Q102_5 := 0) (Q101_0 := 0) (Q101_1 := 0) (Q101_2 := 0) (Q101_3 := 0) (Q101_4 := ([] : List Nat)) (Q101_5 := 0) (wQ1_0_1 := w68) (wQ102_4 := AV.nilSlice) (LQ102_4 := []) (wQ101_4 := AV.nilSlice) (LQ101_4 := []) (G_105 := (fun _ => False)) (k_105 := h64) (G_103 := (fun _ => False)) (k_103 := h64) ⟨hb85, (show 0 < 4294967296 by decide), f69, (show 0 < 4294967296 by decide), (show 0 < 4294967296 by decide), (show 0 < 18446744073709551616 by decide), (own_rows_nil _ _ _), (show 0 < 4294967296 by decide), (show 0 < 4294967296 by decide), (show 0 < 18446744073709551616 by decide), (own_rows_nil _ _ _), (Up.refl _ _), (Up.refl _ _), S83⟩ hN hN (t := (ovT [(0, (AV.ptr b 0)), (2, (AV.ptr (Hp.next h) 0)), (3, (AV.ptr (Hp.next h9) 0)), (4, (vi ((kF x4.2.2).1))), (5, (vi ((kF x4.2.2).2))), (6, (vw x44.2.2)), (7, (vw 0)), (8, (AV.ptr b 0)), (9, (vi x4.2.2)), (10, (AV.agg [(vi x4.2.2), (vw 0), (vw 0), (vq 0), AV.nilSlice, (vi 0)])), (11, (AV.ptr b 0)), (12, (AV.ptr b 0)), (13, (AV.ptr b 0)), (14, (AV.ptr b 1)), (15, (vi x4.2.1)), (16, (AV.bool false)), (18, (AV.tuple [(vi ((kF x4.2.2).1)), (vi ((kF x4.2.2).2))])), (19, (AV.ptr (Hp.next h9) 0)), (20, (vi x4.2.2)), (21, (AV.tuple [(vi ((kF x4.2.2).1)), (vi ((kF x4.2.2).2))])), (22, (vi ((kF x4.2.2).1))), (23, (vi ((kF x4.2.2).2))), (24, (AV.ptr b 0)), (25, (AV.ptr b 0)), (26, (AV.ptr b 0)), (27, (vi ((kF x4.2.2).2))), (28, (AV.tuple [])), (29, (vi ((kF x4.2.2).1))), (30, (AV.bool false)), (31, (AV.bool (eqI (Int.ofNat ((kF x4.2.2).1)) (Int.ofNat 1)))), (52, (AV.bool false)), (53, (AV.bool (eqI (Int.ofNat ((kF x4.2.2).1)) (Int.ofNat 2)))), (76, (AV.bool false)), (77, (AV.bool (eqI (Int.ofNat ((kF x4.2.2).1)) (Int.ofNat 3)))), (83, (AV.bool false)), (84, (AV.bool (eqI (Int.ofNat ((kF x4.2.2).1)) (Int.ofNat 4)))), (90, (AV.bool false)), (91, (AV.bool (eqI (Int.ofNat ((kF x4.2.2).1)) (Int.ofNat 5)))), (109, (AV.bool false)), (110, (AV.bool (eqI (Int.ofNat ((kF x4.2.2).1)) (Int.ofNat 6)))), (114, (AV.bool true)), (115, (AV.bool (eqI (Int.ofNat ((kF x4.2.2).1)) (Int.ofNat 7)))), (116, (AV.ptr b 0)), (117, (AV.ptr b 0)), (118, (AV.ptr b 0)), (119, (vw x44.2.2)), (120, (vw x44.2.2)), (121, (AV.bool true)), (122, (AV.ptr b 0)), (123, (AV.ptr b 0)), (124, (AV.ptr b 0)), (125, (AV.tuple []))] .lf)) (show slots [0, 2, 3, 6, 7, 29] _ = [some (AV.ptr b 0), some (AV.ptr (Hp.next h) 0), some (AV.ptr (Hp.next h9) 0), some (vw x44.2.2), some (vw 0), some (vi ((kF x4.2.2).1))] by kernel_rfl) with ⟨io84, ⟨_, A7o84, Q1_0o84, Q1_1o84, Q102_0o84, Q102_1o84, Q102_2o84, Q102_3o84, Q102_4o84, Q102_5o84, Q101_0o84, Q101_1o84, Q101_2o84, Q101_3o84, Q101_4o84, Q101_5o84, wQ1_0_1o84, wQ102_4o84, LQ102_4o84, wQ101_4o84, LQ101_4o84, G_105o84, k_105o84, G_103o84, k_103o84⟩, t87, h88, qo84, wo84, zo84⟩ | ⟨_, _, _, zo84⟩
      rotate_left
      · exact zo84.elim
      obtain ⟨jo84, zo84⟩ := zo84
      subst jo84
      replace zo84 := zo84 rfl
      obtain ⟨uo84, fA7_1o84, fQ1_0_2o84, fQ102_1_1o84, fQ102_2_1o84, fQ102_3_1o84, fQ102_4o84, fQ101_1_1o84, fQ101_2_1o84, fQ101_3_1o84, fQ101_4o84, fU_105o84, fU_103o84, So84⟩ := zo84
      replace uo84 := uo84.symm
      subst uo84
      try dsimp only at hp
      refine ⟨A7o84, Q1_0o84, Q1_1o84, Q102_0o84, Q102_1o84, Q102_2o84, Q102_3o84, Q102_4o84, Q102_5o84, Q101_0o84, Q101_1o84, Q101_2o84, Q101_3o84, Q101_4o84, Q101_5o84, wQ1_0_1o84, wQ102_4o84, wQ101_4o84, t87, h88, (qo84.trans (congrArg (fun t => RS.exit 1 t h88) (ovT_eq wo84).symm)), trivial, ?_⟩
      have S92 := So84.front 7 rfl
      have S93 := S92.front 1 rfl
      have ⟨x94, hb95, hp⟩ := ob_inv hp
      obtain ⟨v99, h100, q101, w104, e102, f98, f105, S103⟩ := h_ru32 fQ1_0_2o84 hb95 S93
      replace e102 := e102.symm
      subst e102
      refine ⟨x94, w104, h100, q101, ?_⟩
      obtain ⟨e108, qe108, se108⟩ := cel_store call S103 (i := 2) (o := 1) (x := (vw x94.2.2)) rfl (lb rfl) rfl
      refine ⟨e108, qe108, ?_⟩
      refine ⟨cel_loadA se108 (i := 2) (o := 0) (n := 6) rfl (lb rfl), ?_⟩
      obtain ⟨e110, qe110, se110⟩ := cel_storeN call se108 (i := 4) (o := 0) (n := 6) (xs := [(vi Q102_0o84), (vw x94.2.2), (vw Q102_2o84), (vq Q102_3o84), wQ102_4o84, (vi Q102_5o84)]) rfl (lb rfl) rfl (by decide) (all_cell rfl (all_cell rfl (all_cell rfl (all_cell rfl (all_cell (own_cell se108 (i := 3) rfl) (all_cell rfl all_cell0))))))
      refine ⟨e110, qe110, ?_⟩
      have S112 := se110.front 7 rfl
      have S113 := S112.front 4 rfl
      obtain ⟨G114, pG114, uG114, sG114⟩ := own_freezeR (a := (rU .u32)) S113 fQ102_4o84 rfl
      have S116 := sG114.front 3 rfl
      have S117 := S116.tail
      have S118 := S117.front 3 rfl
      have S119 := S118.tail
      have S120 := S119.front 3 rfl
      have S121 := S120.tail
      have S122 := S121.front 3 rfl
      have S123 := S122.tail
      have S124 := S123.front 2 rfl
      have S125 := S124.front 1 rfl
      have S126 := S125.front 2 rfl
      obtain rfl := Option.some.inj hp
      refine res_ok (rs := [.cellA 2 6]) (t := (ovT [(2, (AV.ptr (Hp.next h) 0))] .lf)) (v := (AV.agg [(vi Q102_0o84), (vw x94.2.2), (vw Q102_2o84), (vq Q102_3o84), wQ102_4o84, (vi Q102_5o84)])) (by unfold Eng.results; rw [evRs_cellA (n := 6) (by kernel_rfl) (cel_get se110 (i := 4) rfl) rfl]; rfl) ?_
      exact ⟨wQ102_4o84, w104, G114, e110.h, rfl, f98, fQ102_2_1o84, fQ102_3_1o84, pG114, f105, S126⟩
    replace c58 := ltI_f c58
    replace hp := iff0 hp (nltO c58)
    have S59 := S53.empty
    have S60 := own_nil S59 1
    have S61 := S60.empty
    have S62 := own_nil S61 1
    have S63 := S62.front 5 rfl
    have S64 := S63.front 4 rfl
    have S65 := S64.front 3 rfl
    have S66 := S65.front 3 rfl
    have S67 := S66.front 7 rfl
    have S68 := S67.front 5 rfl
    have S69 := S68.front 7 rfl
    have S70 := S69.front 7 rfl
    have ⟨o71, hb72, hp⟩ := ob_inv hp
    rcases rinstr_l1_t f48 h_rfail h_rkind h_rop h_rzero h_ru32 h_rs32 h_rs64 h_rblock h_rvalue h_rref (o := o71) (B6 := x44.2.2) (B29 := (kF x4.2.2).1) (n := 90000) (A7 := 0) (Q1_0 := x44.1) (Q1_1 := x44.2.1) (Q102_0 := x4.2.2) (Q102_1 := 0) (Q102_2 := 0) (Q102_3 := 0) (Q102_4 := ([] : List Nat)) (Q102_5 := 0) (Q101_0 := 0) (Q101_1 := 0) (Q101_2 := 0) (Q101_3 := 0) (Q101_4 := ([] : List Nat)) (Q101_5 := 0) (wQ1_0_1 := w54) (wQ102_4 := AV.nilSlice) (LQ102_4 := []) (wQ101_4 := AV.nilSlice) (LQ101_4 := []) (G_105 := (fun _ => False)) (k_105 := h50) (G_103 := (fun _ => False)) (k_103 := h50) ⟨hb72, (show 0 < 4294967296 by decide), f55, (show 0 < 4294967296 by decide), (show 0 < 4294967296 by decide), (show 0 < 18446744073709551616 by decide), (own_rows_nil _ _ _), (show 0 < 4294967296 by decide), (show 0 < 4294967296 by decide), (show 0 < 18446744073709551616 by decide), (own_rows_nil _ _ _), (Up.refl _ _), (Up.refl _ _), S70⟩ hN hN (t := (ovT [(0, (AV.ptr b 0)), (2, (AV.ptr (Hp.next h) 0)), (3, (AV.ptr (Hp.next h9) 0)), (4, (vi ((kF x4.2.2).1))), (5, (vi ((kF x4.2.2).2))), (6, (vw x44.2.2)), (7, (vw 0)), (8, (AV.ptr b 0)), (9, (vi x4.2.2)), (10, (AV.agg [(vi x4.2.2), (vw 0), (vw 0), (vq 0), AV.nilSlice, (vi 0)])), (11, (AV.ptr b 0)), (12, (AV.ptr b 0)), (13, (AV.ptr b 0)), (14, (AV.ptr b 1)), (15, (vi x4.2.1)), (16, (AV.bool false)), (18, (AV.tuple [(vi ((kF x4.2.2).1)), (vi ((kF x4.2.2).2))])), (19, (AV.ptr (Hp.next h9) 0)), (20, (vi x4.2.2)), (21, (AV.tuple [(vi ((kF x4.2.2).1)), (vi ((kF x4.2.2).2))])), (22, (vi ((kF x4.2.2).1))), (23, (vi ((kF x4.2.2).2))), (24, (AV.ptr b 0)), (25, (AV.ptr b 0)), (26, (AV.ptr b 0)), (27, (vi ((kF x4.2.2).2))), (28, (AV.tuple [])), (29, (vi ((kF x4.2.2).1))), (30, (AV.bool false)), (31, (AV.bool (eqI (Int.ofNat ((kF x4.2.2).1)) (Int.ofNat 1)))), (52, (AV.bool false)), (53, (AV.bool (eqI (Int.ofNat ((kF x4.2.2).1)) (Int.ofNat 2)))), (76, (AV.bool false)), (77, (AV.bool (eqI (Int.ofNat ((kF x4.2.2).1)) (Int.ofNat 3)))), (83, (AV.bool false)), (84, (AV.bool (eqI (Int.ofNat ((kF x4.2.2).1)) (Int.ofNat 4)))), (90, (AV.bool false)), (91, (AV.bool (eqI (Int.ofNat ((kF x4.2.2).1)) (Int.ofNat 5)))), (109, (AV.bool false)), (110, (AV.bool (eqI (Int.ofNat ((kF x4.2.2).1)) (Int.ofNat 6)))), (114, (AV.bool true)), (115, (AV.bool (eqI (Int.ofNat ((kF x4.2.2).1)) (Int.ofNat 7)))), (116, (AV.ptr b 0)), (117, (AV.ptr b 0)), (118, (AV.ptr b 0)), (119, (vw x44.2.2)), (120, (vw x44.2.2)), (121, (AV.bool false))] .lf)) (show slots [0, 2, 3, 6, 7, 29] _ = [some (AV.ptr b 0), some (AV.ptr (Hp.next h) 0), some (AV.ptr (Hp.next h9) 0), some (vw x44.2.2), some (vw 0), some (vi ((kF x4.2.2).1))] by kernel_rfl) with ⟨io71, ⟨_, A7o71, Q1_0o71, Q1_1o71, Q102_0o71, Q102_1o71, Q102_2o71, Q102_3o71, Q102_4o71, Q102_5o71, Q101_0o71, Q101_1o71, Q101_2o71, Q101_3o71, Q101_4o71, Q101_5o71, wQ1_0_1o71, wQ102_4o71, LQ102_4o71, wQ101_4o71, LQ101_4o71, G_105o71, k_105o71, G_103o71, k_103o71⟩, t74, h75, qo71, wo71, zo71⟩ | ⟨_, _, _, zo71⟩
    rotate_left
    · exact zo71.elim
    obtain ⟨jo71, zo71⟩ := zo71
    subst jo71
    replace zo71 := zo71 rfl
    obtain ⟨uo71, fA7_1o71, fQ1_0_2o71, fQ102_1_1o71, fQ102_2_1o71, fQ102_3_1o71, fQ102_4o71, fQ101_1_1o71, fQ101_2_1o71, fQ101_3_1o71, fQ101_4o71, fU_105o71, fU_103o71, So71⟩ := zo71
    replace uo71 := uo71.symm
    subst uo71
    try dsimp only at hp
    refine ⟨A7o71, Q1_0o71, Q1_1o71, Q102_0o71, Q102_1o71, Q102_2o71, Q102_3o71, Q102_4o71, Q102_5o71, Q101_0o71, Q101_1o71, Q101_2o71, Q101_3o71, Q101_4o71, Q101_5o71, wQ1_0_1o71, wQ102_4o71, wQ101_4o71, t74, h75, (qo71.trans (congrArg (fun t => RS.exit 1 t h75) (ovT_eq wo71).symm)), trivial, ?_⟩
    have S79 := So71.front 7 rfl
    have S80 := S79.front 1 rfl
    have ⟨x81, hb82, hp⟩ := ob_inv hp
    obtain ⟨v86, h87, q88, w91, e89, f85, f92, S90⟩ := h_ru32 fQ1_0_2o71 hb82 S80
    replace e89 := e89.symm
    subst e89
    refine ⟨x81, w91, h87, q88, ?_⟩
    obtain ⟨e95, qe95, se95⟩ := cel_store call S90 (i := 2) (o := 1) (x := (vw x81.2.2)) rfl (lb rfl) rfl
    refine ⟨e95, qe95, ?_⟩
    refine ⟨cel_loadA se95 (i := 2) (o := 0) (n := 6) rfl (lb rfl), ?_⟩
    obtain ⟨e97, qe97, se97⟩ := cel_storeN call se95 (i := 4) (o := 0) (n := 6) (xs := [(vi Q102_0o71), (vw x81.2.2), (vw Q102_2o71), (vq Q102_3o71), wQ102_4o71, (vi Q102_5o71)]) rfl (lb rfl) rfl (by decide) (all_cell rfl (all_cell rfl (all_cell rfl (all_cell rfl (all_cell (own_cell se95 (i := 3) rfl) (all_cell rfl all_cell0))))))
    refine ⟨e97, qe97, ?_⟩
    have S99 := se97.front 7 rfl
    have S100 := S99.front 4 rfl
    obtain ⟨G101, pG101, uG101, sG101⟩ := own_freezeR (a := (rU .u32)) S100 fQ102_4o71 rfl
    have S103 := sG101.front 3 rfl
    have S104 := S103.tail
    have S105 := S104.front 3 rfl
    have S106 := S105.tail
    have S107 := S106.front 3 rfl
    have S108 := S107.tail
    have S109 := S108.front 3 rfl
    have S110 := S109.tail
    have S111 := S110.front 2 rfl
    have S112 := S111.front 1 rfl
    have S113 := S112.front 2 rfl
    obtain rfl := Option.some.inj hp
    refine res_ok (rs := [.cellA 2 6]) (t := (ovT [(2, (AV.ptr (Hp.next h) 0))] .lf)) (v := (AV.agg [(vi Q102_0o71), (vw x81.2.2), (vw Q102_2o71), (vq Q102_3o71), wQ102_4o71, (vi Q102_5o71)])) (by unfold Eng.results; rw [evRs_cellA (n := 6) (by kernel_rfl) (cel_get se97 (i := 4) rfl) rfl]; rfl) ?_
    exact ⟨wQ102_4o71, w91, G101, e97.h, rfl, f85, fQ102_2_1o71, fQ102_3_1o71, pG101, f92, S113⟩
  replace c43 := eqI_f c43
  replace hp := iff0 hp (c43)
  refine ⟨fun c44 => ?_, fun c44 => ?_⟩
  · replace c44 := eqI_t c44
    replace hp := ift hp c44
    refine ⟨cel_load S32 (i := 2) rfl rfl, ?_⟩
    refine ⟨fun c45 => ?_, fun c45 => ?_⟩
    · replace c45 := eqI_t c45
      replace hp := ift hp c45
      have ⟨x46, hb47, hp⟩ := ob_inv hp
      obtain ⟨v51, h52, q53, w56, e54, f50, f57, S55⟩ := h_ru32 f34 hb47 S32
      replace e54 := e54.symm
      subst e54
      refine ⟨x46, w56, h52, q53, ?_⟩
      refine ⟨fun c60 => ?_, fun c60 => ?_⟩
      · replace c60 := eqI_f (notB_t c60)
        replace hp := ift hp c60
        have ⟨x61, hb62, hp⟩ := ob_inv hp
        obtain ⟨v65, h66, q67, w70, e68, f71, S69⟩ := h_rfail f57 hb62 S55
        replace e68 := e68.symm
        subst e68
        refine ⟨x61, w70, h66, q67, ?_⟩
        have ⟨x74, hb75, hp⟩ := ob_inv hp
        obtain ⟨v79, h80, q81, w84, e82, f78, f85, S83⟩ := h_rvalue f71 hb75 S69
        replace e82 := e82.symm
        subst e82
        refine ⟨x74, w84, h80, q81, ?_⟩
        refine ⟨u_conv' rfl (Nat.lt_of_lt_of_le f78 (by decide)), ?_⟩
        have g88 : x74.2.2 < 4294967296 := Nat.lt_of_lt_of_le f78 (by decide)
        obtain ⟨e89, qe89, se89⟩ := cel_store call S83 (i := 2) (o := 1) (x := (vw x74.2.2)) rfl (lb rfl) rfl
        refine ⟨e89, qe89, ?_⟩
        refine ⟨cel_load se89 (i := 2) rfl rfl, ?_⟩
        refine ⟨fun c91 => ?_, fun c91 => ?_⟩
        · replace c91 := eqI_t c91
          replace hp := ift hp c91
          refine ⟨cel_load se89 (i := 2) rfl rfl, ?_⟩
          refine ⟨u_conv rfl, ?_⟩
          have g92 : x74.2.2 % 256 < 256 := Nat.mod_lt _ (by decide)
          have ⟨x93, hb94, hp⟩ := ob_inv hp
          obtain ⟨v97, h98, q99, e100, S101⟩ := h_rref g92 hb94
          replace e100 := e100.symm
          subst e100
          have S103 := Sep.call se89 (news := []) S101
          refine ⟨x93, h98, q99, ?_⟩
          refine ⟨fun c104 => ?_, fun c104 => ?_⟩
          · replace c104 := notB_t c104
            replace hp := ift hp c104
            have ⟨x105, hb106, hp⟩ := ob_inv hp
            obtain ⟨v109, h110, q111, w114, e112, f115, S113⟩ := h_rfail f85 hb106 S103
            replace e112 := e112.symm
            subst e112
            refine ⟨x105, w114, h110, q111, ?_⟩
            refine ⟨cel_loadA S113 (i := 2) (o := 0) (n := 6) rfl (lb rfl), ?_⟩
            obtain ⟨e118, qe118, se118⟩ := cel_storeN call S113 (i := 3) (o := 0) (n := 6) (xs := [(vi x4.2.2), (vw x74.2.2), (vw 0), (vq 0), AV.nilSlice, (vi 0)]) rfl (lb rfl) rfl (by decide) (all_cell rfl (all_cell rfl (all_cell rfl (all_cell rfl (all_cell rfl (all_cell rfl all_cell0))))))
            refine ⟨e118, qe118, ?_⟩
            have S120 := se118.empty
            have S121 := S120.front 3 rfl
            have S122 := S121.tail
            have S123 := S122.front 3 rfl
            have S124 := S123.tail
            have S125 := S124.front 2 rfl
            have S126 := S125.front 1 rfl
            have S127 := S126.front 2 rfl
            obtain rfl := Option.some.inj hp
            refine res_ok (rs := [.cellA 2 6]) (t := (ovT [(2, (AV.ptr (Hp.next h) 0))] .lf)) (v := (AV.agg [(vi x4.2.2), (vw x74.2.2), (vw 0), (vq 0), AV.nilSlice, (vi 0)])) (by unfold Eng.results; rw [evRs_cellA (n := 6) (by kernel_rfl) (cel_get se118 (i := 3) rfl) rfl]; rfl) ?_
            exact ⟨AV.nilSlice, w114, (fun _ => False), e118.h, rfl, g88, (show 0 < 4294967296 by decide), (show 0 < 18446744073709551616 by decide), SIn.nil, f115, S127⟩
          replace c104 := notB_f c104
          replace hp := iff0 hp (nbT c104)
          refine ⟨cel_loadA S103 (i := 2) (o := 0) (n := 6) rfl (lb rfl), ?_⟩
          obtain ⟨e105, qe105, se105⟩ := cel_storeN call S103 (i := 3) (o := 0) (n := 6) (xs := [(vi x4.2.2), (vw x74.2.2), (vw 0), (vq 0), AV.nilSlice, (vi 0)]) rfl (lb rfl) rfl (by decide) (all_cell rfl (all_cell rfl (all_cell rfl (all_cell rfl (all_cell rfl (all_cell rfl all_cell0))))))
          refine ⟨e105, qe105, ?_⟩
          have S107 := se105.empty
          have S108 := S107.front 3 rfl
          have S109 := S108.tail
          have S110 := S109.front 3 rfl
          have S111 := S110.tail
          have S112 := S111.front 2 rfl
          have S113 := S112.front 1 rfl
          have S114 := S113.front 2 rfl
          obtain rfl := Option.some.inj hp
          refine res_ok (rs := [.cellA 2 6]) (t := (ovT [(2, (AV.ptr (Hp.next h) 0))] .lf)) (v := (AV.agg [(vi x4.2.2), (vw x74.2.2), (vw 0), (vq 0), AV.nilSlice, (vi 0)])) (by unfold Eng.results; rw [evRs_cellA (n := 6) (by kernel_rfl) (cel_get se105 (i := 3) rfl) rfl]; rfl) ?_
          exact ⟨AV.nilSlice, w84, (fun _ => False), e105.h, rfl, g88, (show 0 < 4294967296 by decide), (show 0 < 18446744073709551616 by decide), SIn.nil, f85, S114⟩
        replace c91 := eqI_f c91
        replace hp := iff0 hp (c91)
        refine ⟨cel_loadA se89 (i := 2) (o := 0) (n := 6) rfl (lb rfl), ?_⟩
        obtain ⟨e92, qe92, se92⟩ := cel_storeN call se89 (i := 3) (o := 0) (n := 6) (xs := [(vi x4.2.2), (vw x74.2.2), (vw 0), (vq 0), AV.nilSlice, (vi 0)]) rfl (lb rfl) rfl (by decide) (all_cell rfl (all_cell rfl (all_cell rfl (all_cell rfl (all_cell rfl (all_cell rfl all_cell0))))))
        refine ⟨e92, qe92, ?_⟩
        have S94 := se92.empty
        have S95 := S94.front 3 rfl
        have S96 := S95.tail
        have S97 := S96.front 3 rfl
        have S98 := S97.tail
        have S99 := S98.front 2 rfl
        have S100 := S99.front 1 rfl
        have S101 := S100.front 2 rfl
        obtain rfl := Option.some.inj hp
        refine res_ok (rs := [.cellA 2 6]) (t := (ovT [(2, (AV.ptr (Hp.next h) 0))] .lf)) (v := (AV.agg [(vi x4.2.2), (vw x74.2.2), (vw 0), (vq 0), AV.nilSlice, (vi 0)])) (by unfold Eng.results; rw [evRs_cellA (n := 6) (by kernel_rfl) (cel_get se92 (i := 3) rfl) rfl]; rfl) ?_
        exact ⟨AV.nilSlice, w84, (fun _ => False), e92.h, rfl, g88, (show 0 < 4294967296 by decide), (show 0 < 18446744073709551616 by decide), SIn.nil, f85, S101⟩
      replace c60 := eqI_t (notB_f c60)
      replace hp := iff0 hp (nneO c60)
      have ⟨x61, hb62, hp⟩ := ob_inv hp
      obtain ⟨v66, h67, q68, w71, e69, f65, f72, S70⟩ := h_rvalue f57 hb62 S55
      replace e69 := e69.symm
      subst e69
      refine ⟨x61, w71, h67, q68, ?_⟩
      refine ⟨u_conv' rfl (Nat.lt_of_lt_of_le f65 (by decide)), ?_⟩
      have g75 : x61.2.2 < 4294967296 := Nat.lt_of_lt_of_le f65 (by decide)
      obtain ⟨e76, qe76, se76⟩ := cel_store call S70 (i := 2) (o := 1) (x := (vw x61.2.2)) rfl (lb rfl) rfl
      refine ⟨e76, qe76, ?_⟩
      refine ⟨cel_load se76 (i := 2) rfl rfl, ?_⟩
      refine ⟨fun c78 => ?_, fun c78 => ?_⟩
      · replace c78 := eqI_t c78
        replace hp := ift hp c78
        refine ⟨cel_load se76 (i := 2) rfl rfl, ?_⟩
        refine ⟨u_conv rfl, ?_⟩
        have g79 : x61.2.2 % 256 < 256 := Nat.mod_lt _ (by decide)
        have ⟨x80, hb81, hp⟩ := ob_inv hp
        obtain ⟨v84, h85, q86, e87, S88⟩ := h_rref g79 hb81
        replace e87 := e87.symm
        subst e87
        have S90 := Sep.call se76 (news := []) S88
        refine ⟨x80, h85, q86, ?_⟩
        refine ⟨fun c91 => ?_, fun c91 => ?_⟩
        · replace c91 := notB_t c91
          replace hp := ift hp c91
          have ⟨x92, hb93, hp⟩ := ob_inv hp
          obtain ⟨v96, h97, q98, w101, e99, f102, S100⟩ := h_rfail f72 hb93 S90
          replace e99 := e99.symm
          subst e99
          refine ⟨x92, w101, h97, q98, ?_⟩
          refine ⟨cel_loadA S100 (i := 2) (o := 0) (n := 6) rfl (lb rfl), ?_⟩
          obtain ⟨e105, qe105, se105⟩ := cel_storeN call S100 (i := 3) (o := 0) (n := 6) (xs := [(vi x4.2.2), (vw x61.2.2), (vw 0), (vq 0), AV.nilSlice, (vi 0)]) rfl (lb rfl) rfl (by decide) (all_cell rfl (all_cell rfl (all_cell rfl (all_cell rfl (all_cell rfl (all_cell rfl all_cell0))))))
          refine ⟨e105, qe105, ?_⟩
          have S107 := se105.empty
          have S108 := S107.front 3 rfl
          have S109 := S108.tail
          have S110 := S109.front 3 rfl
          have S111 := S110.tail
          have S112 := S111.front 2 rfl
          have S113 := S112.front 1 rfl
          have S114 := S113.front 2 rfl
          obtain rfl := Option.some.inj hp
          refine res_ok (rs := [.cellA 2 6]) (t := (ovT [(2, (AV.ptr (Hp.next h) 0))] .lf)) (v := (AV.agg [(vi x4.2.2), (vw x61.2.2), (vw 0), (vq 0), AV.nilSlice, (vi 0)])) (by unfold Eng.results; rw [evRs_cellA (n := 6) (by kernel_rfl) (cel_get se105 (i := 3) rfl) rfl]; rfl) ?_
          exact ⟨AV.nilSlice, w101, (fun _ => False), e105.h, rfl, g75, (show 0 < 4294967296 by decide), (show 0 < 18446744073709551616 by decide), SIn.nil, f102, S114⟩
        replace c91 := notB_f c91
        replace hp := iff0 hp (nbT c91)
        refine ⟨cel_loadA S90 (i := 2) (o := 0) (n := 6) rfl (lb rfl), ?_⟩
        obtain ⟨e92, qe92, se92⟩ := cel_storeN call S90 (i := 3) (o := 0) (n := 6) (xs := [(vi x4.2.2), (vw x61.2.2), (vw 0), (vq 0), AV.nilSlice, (vi 0)]) rfl (lb rfl) rfl (by decide) (all_cell rfl (all_cell rfl (all_cell rfl (all_cell rfl (all_cell rfl (all_cell rfl all_cell0))))))
        refine ⟨e92, qe92, ?_⟩
        have S94 := se92.empty
        have S95 := S94.front 3 rfl
        have S96 := S95.tail
        have S97 := S96.front 3 rfl
        have S98 := S97.tail
        have S99 := S98.front 2 rfl
        have S100 := S99.front 1 rfl
        have S101 := S100.front 2 rfl
        obtain rfl := Option.some.inj hp
        refine res_ok (rs := [.cellA 2 6]) (t := (ovT [(2, (AV.ptr (Hp.next h) 0))] .lf)) (v := (AV.agg [(vi x4.2.2), (vw x61.2.2), (vw 0), (vq 0), AV.nilSlice, (vi 0)])) (by unfold Eng.results; rw [evRs_cellA (n := 6) (by kernel_rfl) (cel_get se92 (i := 3) rfl) rfl]; rfl) ?_
        exact ⟨AV.nilSlice, w71, (fun _ => False), e92.h, rfl, g75, (show 0 < 4294967296 by decide), (show 0 < 18446744073709551616 by decide), SIn.nil, f72, S101⟩
      replace c78 := eqI_f c78
      replace hp := iff0 hp (c78)
      refine ⟨cel_loadA se76 (i := 2) (o := 0) (n := 6) rfl (lb rfl), ?_⟩
      obtain ⟨e79, qe79, se79⟩ := cel_storeN call se76 (i := 3) (o := 0) (n := 6) (xs := [(vi x4.2.2), (vw x61.2.2), (vw 0), (vq 0), AV.nilSlice, (vi 0)]) rfl (lb rfl) rfl (by decide) (all_cell rfl (all_cell rfl (all_cell rfl (all_cell rfl (all_cell rfl (all_cell rfl all_cell0))))))
      refine ⟨e79, qe79, ?_⟩
      have S81 := se79.empty
      have S82 := S81.front 3 rfl
      have S83 := S82.tail
      have S84 := S83.front 3 rfl
      have S85 := S84.tail
      have S86 := S85.front 2 rfl
      have S87 := S86.front 1 rfl
      have S88 := S87.front 2 rfl
      obtain rfl := Option.some.inj hp
      refine res_ok (rs := [.cellA 2 6]) (t := (ovT [(2, (AV.ptr (Hp.next h) 0))] .lf)) (v := (AV.agg [(vi x4.2.2), (vw x61.2.2), (vw 0), (vq 0), AV.nilSlice, (vi 0)])) (by unfold Eng.results; rw [evRs_cellA (n := 6) (by kernel_rfl) (cel_get se79 (i := 3) rfl) rfl]; rfl) ?_
      exact ⟨AV.nilSlice, w71, (fun _ => False), e79.h, rfl, g75, (show 0 < 4294967296 by decide), (show 0 < 18446744073709551616 by decide), SIn.nil, f72, S88⟩
    replace c45 := eqI_f c45
    replace hp := iff0 hp (c45)
    have ⟨x46, hb47, hp⟩ := ob_inv hp
    obtain ⟨v51, h52, q53, w56, e54, f50, f57, S55⟩ := h_rvalue f34 hb47 S32
    replace e54 := e54.symm
    subst e54
    refine ⟨x46, w56, h52, q53, ?_⟩
    refine ⟨u_conv' rfl (Nat.lt_of_lt_of_le f50 (by decide)), ?_⟩
    have g60 : x46.2.2 < 4294967296 := Nat.lt_of_lt_of_le f50 (by decide)
    obtain ⟨e61, qe61, se61⟩ := cel_store call S55 (i := 2) (o := 1) (x := (vw x46.2.2)) rfl (lb rfl) rfl
    refine ⟨e61, qe61, ?_⟩
    refine ⟨cel_load se61 (i := 2) rfl rfl, ?_⟩
    refine ⟨fun c63 => ?_, fun c63 => ?_⟩
    · replace c63 := eqI_t c63
      replace hp := ift hp c63
      refine ⟨cel_load se61 (i := 2) rfl rfl, ?_⟩
      refine ⟨u_conv rfl, ?_⟩
      have g64 : x46.2.2 % 256 < 256 := Nat.mod_lt _ (by decide)
      have ⟨x65, hb66, hp⟩ := ob_inv hp
      obtain ⟨v69, h70, q71, e72, S73⟩ := h_rref g64 hb66
      replace e72 := e72.symm
      subst e72
      have S75 := Sep.call se61 (news := []) S73
      refine ⟨x65, h70, q71, ?_⟩
      refine ⟨fun c76 => ?_, fun c76 => ?_⟩
      · replace c76 := notB_t c76
        replace hp := ift hp c76
        have ⟨x77, hb78, hp⟩ := ob_inv hp
        obtain ⟨v81, h82, q83, w86, e84, f87, S85⟩ := h_rfail f57 hb78 S75
        replace e84 := e84.symm
        subst e84
        refine ⟨x77, w86, h82, q83, ?_⟩
        refine ⟨cel_loadA S85 (i := 2) (o := 0) (n := 6) rfl (lb rfl), ?_⟩
        obtain ⟨e90, qe90, se90⟩ := cel_storeN call S85 (i := 3) (o := 0) (n := 6) (xs := [(vi x4.2.2), (vw x46.2.2), (vw 0), (vq 0), AV.nilSlice, (vi 0)]) rfl (lb rfl) rfl (by decide) (all_cell rfl (all_cell rfl (all_cell rfl (all_cell rfl (all_cell rfl (all_cell rfl all_cell0))))))
        refine ⟨e90, qe90, ?_⟩
        have S92 := se90.empty
        have S93 := S92.front 3 rfl
        have S94 := S93.tail
        have S95 := S94.front 3 rfl
        have S96 := S95.tail
        have S97 := S96.front 2 rfl
        have S98 := S97.front 1 rfl
        have S99 := S98.front 2 rfl
        obtain rfl := Option.some.inj hp
        refine res_ok (rs := [.cellA 2 6]) (t := (ovT [(2, (AV.ptr (Hp.next h) 0))] .lf)) (v := (AV.agg [(vi x4.2.2), (vw x46.2.2), (vw 0), (vq 0), AV.nilSlice, (vi 0)])) (by unfold Eng.results; rw [evRs_cellA (n := 6) (by kernel_rfl) (cel_get se90 (i := 3) rfl) rfl]; rfl) ?_
        exact ⟨AV.nilSlice, w86, (fun _ => False), e90.h, rfl, g60, (show 0 < 4294967296 by decide), (show 0 < 18446744073709551616 by decide), SIn.nil, f87, S99⟩
      replace c76 := notB_f c76
      replace hp := iff0 hp (nbT c76)
      refine ⟨cel_loadA S75 (i := 2) (o := 0) (n := 6) rfl (lb rfl), ?_⟩
      obtain ⟨e77, qe77, se77⟩ := cel_storeN call S75 (i := 3) (o := 0) (n := 6) (xs := [(vi x4.2.2), (vw x46.2.2), (vw 0), (vq 0), AV.nilSlice, (vi 0)]) rfl (lb rfl) rfl (by decide) (all_cell rfl (all_cell rfl (all_cell rfl (all_cell rfl (all_cell rfl (all_cell rfl all_cell0))))))
      refine ⟨e77, qe77, ?_⟩
      have S79 := se77.empty
      have S80 := S79.front 3 rfl
      have S81 := S80.tail
      have S82 := S81.front 3 rfl
      have S83 := S82.tail
      have S84 := S83.front 2 rfl
      have S85 := S84.front 1 rfl
      have S86 := S85.front 2 rfl
      obtain rfl := Option.some.inj hp
      refine res_ok (rs := [.cellA 2 6]) (t := (ovT [(2, (AV.ptr (Hp.next h) 0))] .lf)) (v := (AV.agg [(vi x4.2.2), (vw x46.2.2), (vw 0), (vq 0), AV.nilSlice, (vi 0)])) (by unfold Eng.results; rw [evRs_cellA (n := 6) (by kernel_rfl) (cel_get se77 (i := 3) rfl) rfl]; rfl) ?_
      exact ⟨AV.nilSlice, w56, (fun _ => False), e77.h, rfl, g60, (show 0 < 4294967296 by decide), (show 0 < 18446744073709551616 by decide), SIn.nil, f57, S86⟩
    replace c63 := eqI_f c63
    replace hp := iff0 hp (c63)
    refine ⟨cel_loadA se61 (i := 2) (o := 0) (n := 6) rfl (lb rfl), ?_⟩
    obtain ⟨e64, qe64, se64⟩ := cel_storeN call se61 (i := 3) (o := 0) (n := 6) (xs := [(vi x4.2.2), (vw x46.2.2), (vw 0), (vq 0), AV.nilSlice, (vi 0)]) rfl (lb rfl) rfl (by decide) (all_cell rfl (all_cell rfl (all_cell rfl (all_cell rfl (all_cell rfl (all_cell rfl all_cell0))))))
    refine ⟨e64, qe64, ?_⟩
    have S66 := se64.empty
    have S67 := S66.front 3 rfl
    have S68 := S67.tail
    have S69 := S68.front 3 rfl
    have S70 := S69.tail
    have S71 := S70.front 2 rfl
    have S72 := S71.front 1 rfl
    have S73 := S72.front 2 rfl
    obtain rfl := Option.some.inj hp
    refine res_ok (rs := [.cellA 2 6]) (t := (ovT [(2, (AV.ptr (Hp.next h) 0))] .lf)) (v := (AV.agg [(vi x4.2.2), (vw x46.2.2), (vw 0), (vq 0), AV.nilSlice, (vi 0)])) (by unfold Eng.results; rw [evRs_cellA (n := 6) (by kernel_rfl) (cel_get se64 (i := 3) rfl) rfl]; rfl) ?_
    exact ⟨AV.nilSlice, w56, (fun _ => False), e64.h, rfl, g60, (show 0 < 4294967296 by decide), (show 0 < 18446744073709551616 by decide), SIn.nil, f57, S73⟩
  replace c44 := eqI_f c44
  replace hp := iff0 hp (c44)
  refine ⟨cel_loadA S32 (i := 2) (o := 0) (n := 6) rfl (lb rfl), ?_⟩
  obtain ⟨e45, qe45, se45⟩ := cel_storeN call S32 (i := 3) (o := 0) (n := 6) (xs := [(vi x4.2.2), (vw 0), (vw 0), (vq 0), AV.nilSlice, (vi 0)]) rfl (lb rfl) rfl (by decide) (all_cell rfl (all_cell rfl (all_cell rfl (all_cell rfl (all_cell rfl (all_cell rfl all_cell0))))))
  refine ⟨e45, qe45, ?_⟩
  have S47 := se45.empty
  have S48 := S47.front 3 rfl
  have S49 := S48.tail
  have S50 := S49.front 3 rfl
  have S51 := S50.tail
  have S52 := S51.front 2 rfl
  have S53 := S52.front 1 rfl
  have S54 := S53.front 2 rfl
  obtain rfl := Option.some.inj hp
  refine res_ok (rs := [.cellA 2 6]) (t := (ovT [(2, (AV.ptr (Hp.next h) 0))] .lf)) (v := (AV.agg [(vi x4.2.2), (vw 0), (vw 0), (vq 0), AV.nilSlice, (vi 0)])) (by unfold Eng.results; rw [evRs_cellA (n := 6) (by kernel_rfl) (cel_get se45 (i := 3) rfl) rfl]; rfl) ?_
  exact ⟨AV.nilSlice, w33, (fun _ => False), e45.h, rfl, (show 0 < 4294967296 by decide), (show 0 < 4294967296 by decide), (show 0 < 18446744073709551616 by decide), SIn.nil, f34, S54⟩
def C_rinstr (call : CallT) : Prop := ∀ {h : Hp} {h0 : Hp} {G : Nat → Prop} {R : List AObj} {b : Nat} {rest : List AV} {wrb_1 : AV} {rb : List Nat} {re : Nat} (frb_2 : BIn G h0 wrb_1 rb) {r : List Nat × Nat × (Nat × Nat × Nat × Nat × List Nat × Int)}, rinstr_p rb re = some r → Eng.Sep (Cel b (wrb_1 :: (vi re) :: rest) :: Frz G h0 :: R) h → ∃ rv rh, call 53 [(AV.ptr b 0)] h = .ok rv rh ∧ ∃ wk4 : AV, ∃ wk6 : AV, ∃ Gk : Nat → Prop, ∃ kk : Hp, rv = (AV.agg [(vi r.2.2.1), (vw r.2.2.2.1), (vw r.2.2.2.2.1), (vq r.2.2.2.2.2.1), wk4, (AV.int .i64 r.2.2.2.2.2.2.2)]) ∧ (r.2.2.2.1 < 4294967296) ∧ (r.2.2.2.2.1 < 4294967296) ∧ (r.2.2.2.2.2.1 < 18446744073709551616) ∧ (SIn (rU .u32) Gk kk wk4 r.2.2.2.2.2.2.1) ∧ (BIn G h0 wk6 r.1) ∧ Eng.Sep (Cel b (wk6 :: (vi r.2.1) :: rest) :: Frz Gk kk :: Frz G h0 :: R) rh
theorem s_rinstr (d : Nat) : C_rinstr (CC (d + 5)) := by
  intro h h0 G R b rest wrb_1 rb re frb_2 r hp S
  rw [CC, evF_at (sumT_none rfl)]
  exact rinstr_w (call := CC (d + 4)) (N := 100000) frb_2 (s_rfail (d + 3)) (s_rkind (d + 1)) (s_rop (d + 0)) (s_rzero (d + 2)) (s_ru32 (d + 1)) (s_rs32 (d + 1)) (s_rs64 (d + 1)) (s_rblock (d + 0)) (s_rvalue (d + 2)) (s_rref (d + 3)) (by decide) hp S
end Go.Proofs.Ytpelnanckmjoaaa
end
