import Derived.Test.YtpelnanckmjoaaaB4
section
set_option linter.unusedVariables false
namespace Go.Proofs.Ytpelnanckmjoaaa
set_option linter.unusedVariables false
set_option linter.unusedSimpArgs false
open Go Eng
noncomputable def names_p (cb : List Nat) (cn : Nat) (ce : Nat) (x_op : Nat) (x_a : Nat) (x_b : Nat) (x_n : Nat) (x_l : List Nat) (x_t : Int) (kind : Nat) : Option (List Nat × Nat × Nat × Nat × Nat × Nat × Nat × List Nat × Int) :=
  (if x_op = 63 then (ob (nought_p cb cn ce) fun x4 =>
    (some (x4.1, x4.2.1, x4.2.2, x_op, x_a, x_b, x_n, x_l, x_t))) else
    (if x_op = 64 then (ob (nought_p cb cn ce) fun x5 =>
    (some (x5.1, x5.2.1, x5.2.2, x_op, x_a, x_b, x_n, x_l, x_t))) else
    (if x_op = 64523 then (ob (nought_p cb cn ce) fun x6 =>
    (some (x6.1, x6.2.1, x6.2.2, x_op, x_a, x_b, x_n, x_l, x_t))) else
    (if x_op = 64522 then (ob (nought_p cb cn ce) fun x7 =>
    (ob (nought_p x7.1 x7.2.1 x7.2.2) fun x20 =>
    (some (x20.1, x20.2.1, x20.2.2, x_op, x_a, x_b, x_n, x_l, x_t)))) else
    (if x_op = 64520 then (ob (cnum_p cb cn ce) fun x8 =>
    (ob (nought_p x8.1 x8.2.1 x8.2.2.1) fun x24 =>
    (some (x24.1, x24.2.1, x24.2.2, x_op, x8.2.2.2, x_b, x_n, x_l, x_t)))) else
    (if kind = 1 then (ob (cnum_p cb cn ce) fun x9 =>
    (some (x9.1, x9.2.1, x9.2.2.1, x_op, x9.2.2.2, x_b, x_n, x_l, x_t))) else
    (ob (cnum_p cb cn ce) fun x9 =>
    (if kind = 5 then (ob (fails_p x9.1 x9.2.1 x9.2.2.1 (ltI (Int.ofNat 31) (Int.ofNat x9.2.2.2)) 2) fun x26 =>
    (ob (cnum_p x26.1 x26.2.1 x26.2.2) fun x39 =>
    (some (x39.1, x39.2.1, x39.2.2.1, x_op, x9.2.2.2, x39.2.2.2, x_n, x_l, x_t)))) else
    (ob (fails_p x9.1 x9.2.1 x9.2.2.1 false 2) fun x26 =>
    (ob (cnum_p x26.1 x26.2.1 x26.2.2) fun x39 =>
    (some (x39.1, x39.2.1, x39.2.2.1, x_op, x9.2.2.2, x39.2.2.2, x_n, x_l, x_t))))))))))))
theorem names_w {call : CallT} {N : Nat} {h : Hp} {h0 : Hp} {G : Nat → Prop} {R : List AObj} {Gr : Nat → Prop} {kr : Hp} {b : Nat} {b_x : Nat} {rest : List AV} {wcb_1 : AV} {wx_l_1 : AV} {Lx_l_3 : List AV} {cb : List Nat} {cn : Nat} {ce : Nat} {x_op : Nat} {x_a : Nat} {x_b : Nat} {x_n : Nat} {x_l : List Nat} {x_t : Int} {kind : Nat} (fcb_2 : BIn G h0 wcb_1 cb) (fx_a_1 : x_a < 4294967296) (fx_b_1 : x_b < 4294967296) (fx_n_1 : x_n < 18446744073709551616) (fx_l_2 : Eng.Rows (rU .u32) Gr kr Lx_l_3 x_l) (h_fails : C_fails call) (h_cnum : C_cnum call) (h_nought : C_nought call) {r : List Nat × Nat × Nat × Nat × Nat × Nat × Nat × List Nat × Int} (hp : names_p cb cn ce x_op x_a x_b x_n x_l x_t kind = some r) (S : Eng.Sep (Cel b (wcb_1 :: (vi cn) :: (vi ce) :: rest) :: Cel b_x [(vi x_op), (vw x_a), (vw x_b), (vq x_n), wx_l_1, (AV.int .i64 x_t)] :: OwnO 1 wx_l_1 x_l.length Lx_l_3 :: Frz Gr kr :: Frz G h0 :: R) h) :
    ∃ rv rh, evF1 (progS Try.prog (compDrawn Try.prog)) N call 75 [(AV.ptr b 0), (AV.ptr b_x 0), (vi kind)] h = .ok rv rh ∧ (fun (rv : AV) (rh : Hp) => ∃ wk1 : AV, ∃ wk6 : AV, ∃ Lk8 : List AV, ∃ Gk : Nat → Prop, ∃ kk : Hp, rv = (AV.tuple []) ∧ (BIn G h0 wk1 r.1) ∧ (r.2.2.2.2.1 < 4294967296) ∧ (r.2.2.2.2.2.1 < 4294967296) ∧ (r.2.2.2.2.2.2.1 < 18446744073709551616) ∧ (Eng.Rows (rU .u32) Gk kk Lk8 r.2.2.2.2.2.2.2.1) ∧ (Up Gr kr Gk kk) ∧ Eng.Sep (Cel b (wk1 :: (vi r.2.1) :: (vi r.2.2.1) :: rest) :: Cel b_x ((vi r.2.2.2.1) :: (vw r.2.2.2.2.1) :: (vw r.2.2.2.2.2.1) :: (vq r.2.2.2.2.2.2.1) :: wk6 :: (AV.int .i64 r.2.2.2.2.2.2.2.2) :: []) :: OwnO 1 wk6 r.2.2.2.2.2.2.2.1.length Lk8 :: Frz Gk kk :: Frz G h0 :: R) rh) rv rh := by
  unfold names_p at hp
  refine fwalk_ok (K := (fun (rv : AV) (rh : Hp) => ∃ wk1 : AV, ∃ wk6 : AV, ∃ Lk8 : List AV, ∃ Gk : Nat → Prop, ∃ kk : Hp, rv = (AV.tuple []) ∧ (BIn G h0 wk1 r.1) ∧ (r.2.2.2.2.1 < 4294967296) ∧ (r.2.2.2.2.2.1 < 4294967296) ∧ (r.2.2.2.2.2.2.1 < 18446744073709551616) ∧ (Eng.Rows (rU .u32) Gk kk Lk8 r.2.2.2.2.2.2.2.1) ∧ (Up Gr kr Gk kk) ∧ Eng.Sep (Cel b (wk1 :: (vi r.2.1) :: (vi r.2.2.1) :: rest) :: Cel b_x ((vi r.2.2.2.1) :: (vw r.2.2.2.2.1) :: (vw r.2.2.2.2.2.1) :: (vq r.2.2.2.2.2.2.1) :: wk6 :: (AV.int .i64 r.2.2.2.2.2.2.2.2) :: []) :: OwnO 1 wk6 r.2.2.2.2.2.2.2.1.length Lk8 :: Frz Gk kk :: Frz G h0 :: R) rh)) (o := (.tell 3 (vi x_op) (.fork 1 (.exi 3 fun (x4 : List Nat × Nat × Nat) => (.exi 0 fun (w13 : AV) => (.exi 0 fun (h9 : Hp) => (.eff 0 (AV.tuple []) h9 .fin)))) (.tell 3 (vi x_op) (.fork 1 (.exi 3 fun (x5 : List Nat × Nat × Nat) => (.exi 0 fun (w14 : AV) => (.exi 0 fun (h10 : Hp) => (.eff 0 (AV.tuple []) h10 .fin)))) (.tell 3 (vi x_op) (.fork 1 (.exi 3 fun (x6 : List Nat × Nat × Nat) => (.exi 0 fun (w15 : AV) => (.exi 0 fun (h11 : Hp) => (.eff 0 (AV.tuple []) h11 .fin)))) (.tell 3 (vi x_op) (.fork 1 (.exi 3 fun (x7 : List Nat × Nat × Nat) => (.exi 0 fun (w16 : AV) => (.exi 0 fun (h12 : Hp) => (.eff 0 (AV.tuple []) h12 (.exi 3 fun (x20 : List Nat × Nat × Nat) => (.exi 0 fun (w29 : AV) => (.exi 0 fun (h25 : Hp) => (.eff 0 (AV.tuple []) h25 .fin)))))))) (.tell 3 (vi x_op) (.fork 1 (.exi 4 fun (x8 : List Nat × Nat × Nat × Nat) => (.exi 0 fun (w18 : AV) => (.exi 0 fun (h14 : Hp) => (.eff 0 (vw x8.2.2.2) h14 (.effx 2 (fun e22 => (AV.tuple [])) (fun e22 => (.exi 3 fun (x24 : List Nat × Nat × Nat) => (.exi 0 fun (w33 : AV) => (.exi 0 fun (h29 : Hp) => (.eff 0 (AV.tuple []) h29 .fin)))))))))) (.fork 2 (.exi 4 fun (x9 : List Nat × Nat × Nat × Nat) => (.exi 0 fun (w19 : AV) => (.exi 0 fun (h15 : Hp) => (.eff 0 (vw x9.2.2.2) h15 (.effx 2 (fun e23 => (AV.tuple [])) (fun e23 => .fin)))))) (.exi 4 fun (x9 : List Nat × Nat × Nat × Nat) => (.exi 0 fun (w19 : AV) => (.exi 0 fun (h15 : Hp) => (.eff 0 (vw x9.2.2.2) h15 (.effx 2 (fun e23 => (AV.tuple [])) (fun e23 => (.fork 5 (.tell 3 (vw x9.2.2.2) (.again 2 (.exi 0 fun (x26 : List Nat × Nat × Nat) => (.exi 0 fun (w35 : AV) => (.exi 0 fun (h31 : Hp) => (.eff 0 (AV.tuple []) h31 (.exi 5 fun (x39 : List Nat × Nat × Nat × Nat) => (.exi 0 fun (w49 : AV) => (.exi 0 fun (h45 : Hp) => (.eff 0 (vw x39.2.2.2) h45 (.effx 2 (fun e53 => (AV.tuple [])) (fun e53 => .fin)))))))))))) (.again 1 (.exi 0 fun (x26 : List Nat × Nat × Nat) => (.exi 0 fun (w35 : AV) => (.exi 0 fun (h31 : Hp) => (.eff 0 (AV.tuple []) h31 (.exi 5 fun (x39 : List Nat × Nat × Nat × Nat) => (.exi 0 fun (w49 : AV) => (.exi 0 fun (h45 : Hp) => (.eff 0 (vw x39.2.2.2) h45 (.effx 2 (fun e53 => (AV.tuple [])) (fun e53 => .fin)))))))))))))))))))))))))))))) (p := (fun (KK : AV → Hp → Prop) => ((evQ (.loadS (.const (AV.ptr b_x 0))) .lf h = .ok (vi x_op) ∧ ((eqI (Int.ofNat x_op) (Int.ofNat 63) = true → (∃ x4 : List Nat × Nat × Nat, ∃ w13 : AV, ∃ h9 : Hp, (call 108 [(AV.ptr b 0)] h = .ok (AV.tuple []) h9 ∧ KK (AV.tuple []) h9))) ∧ (eqI (Int.ofNat x_op) (Int.ofNat 63) = false → ((evQ (.loadS (.const (AV.ptr b_x 0))) .lf h = .ok (vi x_op) ∧ ((eqI (Int.ofNat x_op) (Int.ofNat 64) = true → (∃ x5 : List Nat × Nat × Nat, ∃ w14 : AV, ∃ h10 : Hp, (call 108 [(AV.ptr b 0)] h = .ok (AV.tuple []) h10 ∧ KK (AV.tuple []) h10))) ∧ (eqI (Int.ofNat x_op) (Int.ofNat 64) = false → ((evQ (.loadS (.const (AV.ptr b_x 0))) .lf h = .ok (vi x_op) ∧ ((eqI (Int.ofNat x_op) (Int.ofNat 64523) = true → (∃ x6 : List Nat × Nat × Nat, ∃ w15 : AV, ∃ h11 : Hp, (call 108 [(AV.ptr b 0)] h = .ok (AV.tuple []) h11 ∧ KK (AV.tuple []) h11))) ∧ (eqI (Int.ofNat x_op) (Int.ofNat 64523) = false → ((evQ (.loadS (.const (AV.ptr b_x 0))) .lf h = .ok (vi x_op) ∧ ((eqI (Int.ofNat x_op) (Int.ofNat 64522) = true → (∃ x7 : List Nat × Nat × Nat, ∃ w16 : AV, ∃ h12 : Hp, (call 108 [(AV.ptr b 0)] h = .ok (AV.tuple []) h12 ∧ (∃ x20 : List Nat × Nat × Nat, ∃ w29 : AV, ∃ h25 : Hp, (call 108 [(AV.ptr b 0)] h12 = .ok (AV.tuple []) h25 ∧ KK (AV.tuple []) h25))))) ∧ (eqI (Int.ofNat x_op) (Int.ofNat 64522) = false → ((evQ (.loadS (.const (AV.ptr b_x 0))) .lf h = .ok (vi x_op) ∧ ((eqI (Int.ofNat x_op) (Int.ofNat 64520) = true → (∃ x8 : List Nat × Nat × Nat × Nat, ∃ w18 : AV, ∃ h14 : Hp, (call 71 [(AV.ptr b 0)] h = .ok (vw x8.2.2.2) h14 ∧ (∃ e22 : Ev, evE (.store 1 (.const (AV.ptr b_x 1)) (.const (vw x8.2.2.2))) call .lf h14 = .ok (AV.tuple []) e22.h ∧ (∃ x24 : List Nat × Nat × Nat, ∃ w33 : AV, ∃ h29 : Hp, (call 108 [(AV.ptr b 0)] e22.h = .ok (AV.tuple []) h29 ∧ KK (AV.tuple []) h29)))))) ∧ (eqI (Int.ofNat x_op) (Int.ofNat 64520) = false → ((eqI (Int.ofNat kind) (Int.ofNat 1) = true → (∃ x9 : List Nat × Nat × Nat × Nat, ∃ w19 : AV, ∃ h15 : Hp, (call 71 [(AV.ptr b 0)] h = .ok (vw x9.2.2.2) h15 ∧ (∃ e23 : Ev, evE (.store 1 (.const (AV.ptr b_x 1)) (.const (vw x9.2.2.2))) call .lf h15 = .ok (AV.tuple []) e23.h ∧ KK (AV.tuple []) e23.h)))) ∧ (eqI (Int.ofNat kind) (Int.ofNat 1) = false → (∃ x9 : List Nat × Nat × Nat × Nat, ∃ w19 : AV, ∃ h15 : Hp, (call 71 [(AV.ptr b 0)] h = .ok (vw x9.2.2.2) h15 ∧ (∃ e23 : Ev, evE (.store 1 (.const (AV.ptr b_x 1)) (.const (vw x9.2.2.2))) call .lf h15 = .ok (AV.tuple []) e23.h ∧ ((eqI (Int.ofNat kind) (Int.ofNat 5) = true → ((evQ (.loadS (.const (AV.ptr b_x 1))) .lf e23.h = .ok (vw x9.2.2.2) ∧ ((again (.pick (.const (AV.bool true)) (.const (AV.bool (ltI (Int.ofNat 31) (Int.ofNat x9.2.2.2)))) (.const (AV.bool false))) .lf (AV.bool (ltI (Int.ofNat 31) (Int.ofNat x9.2.2.2))) e23.h = true ∧ again (.bin .gtr (.const (vw x9.2.2.2)) (.const (vw 31))) .lf (AV.bool (ltI (Int.ofNat 31) (Int.ofNat x9.2.2.2))) e23.h = true ∧ again (.loadS (.const (AV.ptr b_x 1))) .lf (vw x9.2.2.2) e23.h = true ∧ again (.fieldAddr 1 (.const (AV.ptr b_x 0))) .lf (AV.ptr b_x 1) e23.h = true ∧ again (.nilCheck (.const (AV.ptr b_x 0))) .lf (AV.ptr b_x 0) e23.h = true ∧ again (.move (.const (AV.ptr b_x 0))) .lf (AV.ptr b_x 0) e23.h = true ∧ again (.move (.const (AV.bool (eqI (Int.ofNat kind) (Int.ofNat 5))))) .lf (AV.bool true) e23.h = true ∧ again (.eq .int false (.const (vi kind)) (.const (vi 5))) .lf (AV.bool (eqI (Int.ofNat kind) (Int.ofNat 5))) e23.h = true ∧ again (.move (.const (vi kind))) .lf (vi kind) e23.h = true ∧ again (.fieldAddr 0 (.const (AV.ptr b 0))) .lf (AV.ptr b 0) e23.h = true ∧ again (.nilCheck (.const (AV.ptr b 0))) .lf (AV.ptr b 0) e23.h = true ∧ again (.move (.const (AV.ptr b 0))) .lf (AV.ptr b 0) e23.h = true ∧ True) ∧ (∃ x26 : List Nat × Nat × Nat, ∃ w35 : AV, ∃ h31 : Hp, (call 47 [(AV.ptr b 0), (AV.bool (ltI (Int.ofNat 31) (Int.ofNat x9.2.2.2))), (vi 2)] e23.h = .ok (AV.tuple []) h31 ∧ (∃ x39 : List Nat × Nat × Nat × Nat, ∃ w49 : AV, ∃ h45 : Hp, (call 71 [(AV.ptr b 0)] h31 = .ok (vw x39.2.2.2) h45 ∧ (∃ e53 : Ev, evE (.store 1 (.const (AV.ptr b_x 2)) (.const (vw x39.2.2.2))) call .lf h45 = .ok (AV.tuple []) e53.h ∧ KK (AV.tuple []) e53.h))))))))) ∧ (eqI (Int.ofNat kind) (Int.ofNat 5) = false → ((again (.pick (.const (AV.bool false)) (.const (AV.tuple [])) (.const (AV.bool false))) .lf (AV.bool false) e23.h = true ∧ again (.move (.const (AV.bool (eqI (Int.ofNat kind) (Int.ofNat 5))))) .lf (AV.bool false) e23.h = true ∧ again (.eq .int false (.const (vi kind)) (.const (vi 5))) .lf (AV.bool (eqI (Int.ofNat kind) (Int.ofNat 5))) e23.h = true ∧ again (.move (.const (vi kind))) .lf (vi kind) e23.h = true ∧ again (.fieldAddr 0 (.const (AV.ptr b 0))) .lf (AV.ptr b 0) e23.h = true ∧ again (.nilCheck (.const (AV.ptr b 0))) .lf (AV.ptr b 0) e23.h = true ∧ again (.move (.const (AV.ptr b 0))) .lf (AV.ptr b 0) e23.h = true ∧ True) ∧ (∃ x26 : List Nat × Nat × Nat, ∃ w35 : AV, ∃ h31 : Hp, (call 47 [(AV.ptr b 0), (AV.bool false), (vi 2)] e23.h = .ok (AV.tuple []) h31 ∧ (∃ x39 : List Nat × Nat × Nat × Nat, ∃ w49 : AV, ∃ h45 : Hp, (call 71 [(AV.ptr b 0)] h31 = .ok (vw x39.2.2.2) h45 ∧ (∃ e53 : Ev, evE (.store 1 (.const (AV.ptr b_x 2)) (.const (vw x39.2.2.2))) call .lf h45 = .ok (AV.tuple []) e53.h ∧ KK (AV.tuple []) e53.h)))))))))))))))))))))))))))))))))) (fun (rv : AV) (rh : Hp) => ∃ wk1 : AV, ∃ wk6 : AV, ∃ Lk8 : List AV, ∃ Gk : Nat → Prop, ∃ kk : Hp, rv = (AV.tuple []) ∧ (BIn G h0 wk1 r.1) ∧ (r.2.2.2.2.1 < 4294967296) ∧ (r.2.2.2.2.2.1 < 4294967296) ∧ (r.2.2.2.2.2.2.1 < 18446744073709551616) ∧ (Eng.Rows (rU .u32) Gk kk Lk8 r.2.2.2.2.2.2.2.1) ∧ (Up Gr kr Gk kk) ∧ Eng.Sep (Cel b (wk1 :: (vi r.2.1) :: (vi r.2.2.1) :: rest) :: Cel b_x ((vi r.2.2.2.1) :: (vw r.2.2.2.2.1) :: (vw r.2.2.2.2.2.1) :: (vq r.2.2.2.2.2.2.1) :: wk6 :: (AV.int .i64 r.2.2.2.2.2.2.2.2) :: []) :: OwnO 1 wk6 r.2.2.2.2.2.2.2.1.length Lk8 :: Frz Gk kk :: Frz G h0 :: R) rh)) (by kernel_rfl) ?_
  refine ⟨cel_load S (i := 1) rfl rfl, ?_⟩
  refine ⟨fun c1 => ?_, fun c1 => ?_⟩
  · replace c1 := eqI_t c1
    replace hp := ift hp c1
    have S2 := S.front 4 rfl
    have S3 := S2.front 1 rfl
    have ⟨x4, hb5, hp⟩ := ob_inv hp
    obtain ⟨v8, h9, q10, w13, e11, f14, S12⟩ := h_nought fcb_2 hb5 S3
    replace e11 := e11.symm
    subst e11
    refine ⟨x4, w13, h9, q10, ?_⟩
    have S17 := S12.front 1 rfl
    have S18 := S17.front 4 rfl
    have S19 := S18.front 4 rfl
    have S20 := S19.front 4 rfl
    have S21 := S20.front 4 rfl
    obtain rfl := Option.some.inj hp
    exact ⟨w13, wx_l_1, Lx_l_3, Gr, kr, rfl, f14, fx_a_1, fx_b_1, fx_n_1, fx_l_2, (Up.refl _ _), S21⟩
  replace c1 := eqI_f c1
  replace hp := iff0 hp (c1)
  refine ⟨cel_load S (i := 1) rfl rfl, ?_⟩
  refine ⟨fun c2 => ?_, fun c2 => ?_⟩
  · replace c2 := eqI_t c2
    replace hp := ift hp c2
    have S3 := S.front 4 rfl
    have S4 := S3.front 1 rfl
    have ⟨x5, hb6, hp⟩ := ob_inv hp
    obtain ⟨v9, h10, q11, w14, e12, f15, S13⟩ := h_nought fcb_2 hb6 S4
    replace e12 := e12.symm
    subst e12
    refine ⟨x5, w14, h10, q11, ?_⟩
    have S18 := S13.front 1 rfl
    have S19 := S18.front 4 rfl
    have S20 := S19.front 4 rfl
    have S21 := S20.front 4 rfl
    have S22 := S21.front 4 rfl
    obtain rfl := Option.some.inj hp
    exact ⟨w14, wx_l_1, Lx_l_3, Gr, kr, rfl, f15, fx_a_1, fx_b_1, fx_n_1, fx_l_2, (Up.refl _ _), S22⟩
  replace c2 := eqI_f c2
  replace hp := iff0 hp (c2)
  refine ⟨cel_load S (i := 1) rfl rfl, ?_⟩
  refine ⟨fun c3 => ?_, fun c3 => ?_⟩
  · replace c3 := eqI_t c3
    replace hp := ift hp c3
    have S4 := S.front 4 rfl
    have S5 := S4.front 1 rfl
    have ⟨x6, hb7, hp⟩ := ob_inv hp
    obtain ⟨v10, h11, q12, w15, e13, f16, S14⟩ := h_nought fcb_2 hb7 S5
    replace e13 := e13.symm
    subst e13
    refine ⟨x6, w15, h11, q12, ?_⟩
    have S19 := S14.front 1 rfl
    have S20 := S19.front 4 rfl
    have S21 := S20.front 4 rfl
    have S22 := S21.front 4 rfl
    have S23 := S22.front 4 rfl
    obtain rfl := Option.some.inj hp
    exact ⟨w15, wx_l_1, Lx_l_3, Gr, kr, rfl, f16, fx_a_1, fx_b_1, fx_n_1, fx_l_2, (Up.refl _ _), S23⟩
  replace c3 := eqI_f c3
  replace hp := iff0 hp (c3)
  refine ⟨cel_load S (i := 1) rfl rfl, ?_⟩
  refine ⟨fun c4 => ?_, fun c4 => ?_⟩
  · replace c4 := eqI_t c4
    replace hp := ift hp c4
    have S5 := S.front 4 rfl
    have S6 := S5.front 1 rfl
    have ⟨x7, hb8, hp⟩ := ob_inv hp
    obtain ⟨v11, h12, q13, w16, e14, f17, S15⟩ := h_nought fcb_2 hb8 S6
    replace e14 := e14.symm
    subst e14
    refine ⟨x7, w16, h12, q13, ?_⟩
    have ⟨x20, hb21, hp⟩ := ob_inv hp
    obtain ⟨v24, h25, q26, w29, e27, f30, S28⟩ := h_nought f17 hb21 S15
    replace e27 := e27.symm
    subst e27
    refine ⟨x20, w29, h25, q26, ?_⟩
    have S33 := S28.front 1 rfl
    have S34 := S33.front 4 rfl
    have S35 := S34.front 4 rfl
    have S36 := S35.front 4 rfl
    have S37 := S36.front 4 rfl
    obtain rfl := Option.some.inj hp
    exact ⟨w29, wx_l_1, Lx_l_3, Gr, kr, rfl, f30, fx_a_1, fx_b_1, fx_n_1, fx_l_2, (Up.refl _ _), S37⟩
  replace c4 := eqI_f c4
  replace hp := iff0 hp (c4)
  refine ⟨cel_load S (i := 1) rfl rfl, ?_⟩
  refine ⟨fun c5 => ?_, fun c5 => ?_⟩
  · replace c5 := eqI_t c5
    replace hp := ift hp c5
    have S6 := S.front 4 rfl
    have S7 := S6.front 1 rfl
    have ⟨x8, hb9, hp⟩ := ob_inv hp
    obtain ⟨v13, h14, q15, w18, e16, f12, f19, S17⟩ := h_cnum fcb_2 hb9 S7
    replace e16 := e16.symm
    subst e16
    refine ⟨x8, w18, h14, q15, ?_⟩
    obtain ⟨e22, qe22, se22⟩ := cel_store call S17 (i := 2) (o := 1) (x := (vw x8.2.2.2)) rfl (lb rfl) rfl
    refine ⟨e22, qe22, ?_⟩
    have ⟨x24, hb25, hp⟩ := ob_inv hp
    obtain ⟨v28, h29, q30, w33, e31, f34, S32⟩ := h_nought f19 hb25 se22
    replace e31 := e31.symm
    subst e31
    refine ⟨x24, w33, h29, q30, ?_⟩
    have S37 := S32.front 1 rfl
    have S38 := S37.front 4 rfl
    have S39 := S38.front 4 rfl
    have S40 := S39.front 4 rfl
    have S41 := S40.front 4 rfl
    obtain rfl := Option.some.inj hp
    exact ⟨w33, wx_l_1, Lx_l_3, Gr, kr, rfl, f34, f12, fx_b_1, fx_n_1, fx_l_2, (Up.refl _ _), S41⟩
  replace c5 := eqI_f c5
  replace hp := iff0 hp (c5)
  refine ⟨fun c6 => ?_, fun c6 => ?_⟩
  · replace c6 := eqI_t c6
    replace hp := ift hp c6
    have S7 := S.front 4 rfl
    have S8 := S7.front 1 rfl
    have ⟨x9, hb10, hp⟩ := ob_inv hp
    obtain ⟨v14, h15, q16, w19, e17, f13, f20, S18⟩ := h_cnum fcb_2 hb10 S8
    replace e17 := e17.symm
    subst e17
    refine ⟨x9, w19, h15, q16, ?_⟩
    obtain ⟨e23, qe23, se23⟩ := cel_store call S18 (i := 2) (o := 1) (x := (vw x9.2.2.2)) rfl (lb rfl) rfl
    refine ⟨e23, qe23, ?_⟩
    have S25 := se23.front 1 rfl
    have S26 := S25.front 4 rfl
    have S27 := S26.front 4 rfl
    have S28 := S27.front 4 rfl
    have S29 := S28.front 4 rfl
    obtain rfl := Option.some.inj hp
    exact ⟨w19, wx_l_1, Lx_l_3, Gr, kr, rfl, f20, f13, fx_b_1, fx_n_1, fx_l_2, (Up.refl _ _), S29⟩
  replace c6 := eqI_f c6
  replace hp := iff0 hp (c6)
  have S7 := S.front 4 rfl
  have S8 := S7.front 1 rfl
  have ⟨x9, hb10, hp⟩ := ob_inv hp
  obtain ⟨v14, h15, q16, w19, e17, f13, f20, S18⟩ := h_cnum fcb_2 hb10 S8
  replace e17 := e17.symm
  subst e17
  refine ⟨x9, w19, h15, q16, ?_⟩
  obtain ⟨e23, qe23, se23⟩ := cel_store call S18 (i := 2) (o := 1) (x := (vw x9.2.2.2)) rfl (lb rfl) rfl
  refine ⟨e23, qe23, ?_⟩
  refine ⟨fun c25 => ?_, fun c25 => ?_⟩
  · have rc25 := c25
    replace c25 := eqI_t c25
    replace hp := ift hp c25
    refine ⟨cel_load se23 (i := 2) rfl rfl, ?_⟩
    refine ⟨⟨again_of (rfl) (avEq_bool _), again_of (rfl) (avEq_bool _), again_of (cel_load se23 (i := 2) rfl rfl) (avEq_int _ _), again_of (rfl) (avEq_ptr _ _), again_of (rfl) (avEq_ptr _ _), again_of (rfl) (avEq_ptr _ _), again_of (congrArg (fun b => OV.ok (AV.bool b)) rc25) (avEq_bool _), again_of (rfl) (avEq_bool _), again_of (rfl) (avEq_int _ _), again_of (rfl) (avEq_ptr _ _), again_of (rfl) (avEq_ptr _ _), again_of (rfl) (avEq_ptr _ _), trivial⟩, ?_⟩
    have ⟨x26, hb27, hp⟩ := ob_inv hp
    obtain ⟨v30, h31, q32, w35, e33, f36, S34⟩ := h_fails f20 hb27 se23
    replace e33 := e33.symm
    subst e33
    refine ⟨x26, w35, h31, q32, ?_⟩
    have ⟨x39, hb40, hp⟩ := ob_inv hp
    obtain ⟨v44, h45, q46, w49, e47, f43, f50, S48⟩ := h_cnum f36 hb40 S34
    replace e47 := e47.symm
    subst e47
    refine ⟨x39, w49, h45, q46, ?_⟩
    obtain ⟨e53, qe53, se53⟩ := cel_store call S48 (i := 2) (o := 2) (x := (vw x39.2.2.2)) rfl (lb rfl) rfl
    refine ⟨e53, qe53, ?_⟩
    have S55 := se53.front 1 rfl
    have S56 := S55.front 4 rfl
    have S57 := S56.front 4 rfl
    have S58 := S57.front 4 rfl
    have S59 := S58.front 4 rfl
    obtain rfl := Option.some.inj hp
    exact ⟨w49, wx_l_1, Lx_l_3, Gr, kr, rfl, f50, f13, f43, fx_n_1, fx_l_2, (Up.refl _ _), S59⟩
  have rc25 := c25
  replace c25 := eqI_f c25
  replace hp := iff0 hp (c25)
  refine ⟨⟨again_of (rfl) (avEq_bool _), again_of (congrArg (fun b => OV.ok (AV.bool b)) rc25) (avEq_bool _), again_of (rfl) (avEq_bool _), again_of (rfl) (avEq_int _ _), again_of (rfl) (avEq_ptr _ _), again_of (rfl) (avEq_ptr _ _), again_of (rfl) (avEq_ptr _ _), trivial⟩, ?_⟩
  have ⟨x26, hb27, hp⟩ := ob_inv hp
  obtain ⟨v30, h31, q32, w35, e33, f36, S34⟩ := h_fails f20 hb27 se23
  replace e33 := e33.symm
  subst e33
  refine ⟨x26, w35, h31, q32, ?_⟩
  have ⟨x39, hb40, hp⟩ := ob_inv hp
  obtain ⟨v44, h45, q46, w49, e47, f43, f50, S48⟩ := h_cnum f36 hb40 S34
  replace e47 := e47.symm
  subst e47
  refine ⟨x39, w49, h45, q46, ?_⟩
  obtain ⟨e53, qe53, se53⟩ := cel_store call S48 (i := 2) (o := 2) (x := (vw x39.2.2.2)) rfl (lb rfl) rfl
  refine ⟨e53, qe53, ?_⟩
  have S55 := se53.front 1 rfl
  have S56 := S55.front 4 rfl
  have S57 := S56.front 4 rfl
  have S58 := S57.front 4 rfl
  have S59 := S58.front 4 rfl
  obtain rfl := Option.some.inj hp
  exact ⟨w49, wx_l_1, Lx_l_3, Gr, kr, rfl, f50, f13, f43, fx_n_1, fx_l_2, (Up.refl _ _), S59⟩
def C_names (call : CallT) : Prop := ∀ {h : Hp} {h0 : Hp} {G : Nat → Prop} {R : List AObj} {Gr : Nat → Prop} {kr : Hp} {b : Nat} {b_x : Nat} {rest : List AV} {wcb_1 : AV} {wx_l_1 : AV} {Lx_l_3 : List AV} {cb : List Nat} {cn : Nat} {ce : Nat} {x_op : Nat} {x_a : Nat} {x_b : Nat} {x_n : Nat} {x_l : List Nat} {x_t : Int} {kind : Nat} (fcb_2 : BIn G h0 wcb_1 cb) (fx_a_1 : x_a < 4294967296) (fx_b_1 : x_b < 4294967296) (fx_n_1 : x_n < 18446744073709551616) (fx_l_2 : Eng.Rows (rU .u32) Gr kr Lx_l_3 x_l) {r : List Nat × Nat × Nat × Nat × Nat × Nat × Nat × List Nat × Int}, names_p cb cn ce x_op x_a x_b x_n x_l x_t kind = some r → Eng.Sep (Cel b (wcb_1 :: (vi cn) :: (vi ce) :: rest) :: Cel b_x [(vi x_op), (vw x_a), (vw x_b), (vq x_n), wx_l_1, (AV.int .i64 x_t)] :: OwnO 1 wx_l_1 x_l.length Lx_l_3 :: Frz Gr kr :: Frz G h0 :: R) h → ∃ rv rh, call 75 [(AV.ptr b 0), (AV.ptr b_x 0), (vi kind)] h = .ok rv rh ∧ ∃ wk1 : AV, ∃ wk6 : AV, ∃ Lk8 : List AV, ∃ Gk : Nat → Prop, ∃ kk : Hp, rv = (AV.tuple []) ∧ (BIn G h0 wk1 r.1) ∧ (r.2.2.2.2.1 < 4294967296) ∧ (r.2.2.2.2.2.1 < 4294967296) ∧ (r.2.2.2.2.2.2.1 < 18446744073709551616) ∧ (Eng.Rows (rU .u32) Gk kk Lk8 r.2.2.2.2.2.2.2.1) ∧ (Up Gr kr Gk kk) ∧ Eng.Sep (Cel b (wk1 :: (vi r.2.1) :: (vi r.2.2.1) :: rest) :: Cel b_x ((vi r.2.2.2.1) :: (vw r.2.2.2.2.1) :: (vw r.2.2.2.2.2.1) :: (vq r.2.2.2.2.2.2.1) :: wk6 :: (AV.int .i64 r.2.2.2.2.2.2.2.2) :: []) :: OwnO 1 wk6 r.2.2.2.2.2.2.2.1.length Lk8 :: Frz Gk kk :: Frz G h0 :: R) rh
theorem s_names (d : Nat) : C_names (CC (d + 5)) := by
  intro h h0 G R Gr kr b b_x rest wcb_1 wx_l_1 Lx_l_3 cb cn ce x_op x_a x_b x_n x_l x_t kind fcb_2 fx_a_1 fx_b_1 fx_n_1 fx_l_2 r hp S
  rw [CC, evF_at (sumT_none rfl)]
  exact names_w (call := CC (d + 4)) (N := 100000) fcb_2 fx_a_1 fx_b_1 fx_n_1 fx_l_2 (s_fails (d + 3)) (s_cnum (d + 0)) (s_nought (d + 1)) hp S
noncomputable def labels_l1  : Nat → Nat → List Nat → Nat → Nat → Nat → Nat → Nat → Nat → List Nat → Int → Option (Nat × List Nat × Nat × Nat × Nat × Nat × Nat × Nat × List Nat × Int)
  | 0, _, _, _, _, _, _, _, _, _, _ => none
  | m + 1, A4, Q1_0, Q1_1, Q1_2, Q11_0, Q11_1, Q11_2, Q11_3, Q11_4, Q11_5 =>
    (if 0 < A4 then (if Q1_2 = 0 then (ob (cnum_p Q1_0 Q1_1 Q1_2) fun x5 =>
    (gd ((Q11_4.length + 1) * 4 ≤ 70368744177664) (gd (1 ≤ A4) (labels_l1  m (A4 - 1) x5.1 x5.2.1 x5.2.2.1 Q11_0 Q11_1 Q11_2 Q11_3 (Q11_4 ++ [x5.2.2.2]) Q11_5)))) else
    (some ((A4, Q1_0, Q1_1, Q1_2, Q11_0, Q11_1, Q11_2, Q11_3, Q11_4, Q11_5)))) else
    (some ((A4, Q1_0, Q1_1, Q1_2, Q11_0, Q11_1, Q11_2, Q11_3, Q11_4, Q11_5))))
noncomputable def labels_l1C : AC := (.seq (.seq (.region [⟨(some 15), .q (.move (.tmp 4)), none⟩, ⟨(some 16), .q (.bin .gtr (.tmp 15) (.const (vw 0))), none⟩, ⟨(some 17), .q (.move (.tmp 16)), none⟩, ⟨(some 18), .q (.move (.tmp 0)), (some (17, true))⟩, ⟨(some 19), .q (.nilCheck (.tmp 18)), (some (17, true))⟩, ⟨(some 20), .q (.fieldAddr 0 (.tmp 19)), (some (17, true))⟩, ⟨(some 21), .q (.fieldAddr 2 (.tmp 20)), (some (17, true))⟩, ⟨(some 22), .q (.loadS (.tmp 21)), (some (17, true))⟩, ⟨(some 23), .q (.eq .int false (.tmp 22) (.const (vi 0))), (some (17, true))⟩, ⟨(some 24), .q (.pick (.tmp 17) (.tmp 23) (.const (AV.bool false))), none⟩]) (.cond (.tmp 24) .skip (.exit 0))) (.seq (.block 1 (.drawn [⟨[(⟨(some 27), .q (.move (.tmp 1)), none⟩, 2), (⟨(some 28), .q (.move (.tmp 1)), none⟩, 1), (⟨(some 29), .q (.nilCheck (.tmp 28)), none⟩, 1), (⟨(some 30), .q (.fieldAddr 4 (.tmp 29)), none⟩, 1), (⟨(some 31), .q (.loadS (.tmp 30)), none⟩, 1), (⟨(some 32), .q (.move (.tmp 0)), none⟩, 0), (⟨(some 33), .q (.nilCheck (.tmp 32)), none⟩, 0), (⟨(some 34), .q (.fieldAddr 0 (.tmp 33)), none⟩, 0)], (some ⟨(some 35), .e (.call (.const (AV.func (.func 71) [] [])) [(.tmp 34)]), none⟩)⟩, ⟨[(⟨(some 36), .l (.buildSlice 1 1 [(vw 0)] [(0, 1, (.tmp 35))]), none⟩, 1)], (some ⟨(some 37), .e (.append 1 4 (.tmp 31) (.tmp 36)), none⟩)⟩, ⟨[(⟨(some 38), .q (.nilCheck (.tmp 27)), none⟩, 2), (⟨(some 39), .q (.fieldAddr 4 (.tmp 38)), none⟩, 2)], (some ⟨none, .e (.store 1 (.tmp 39) (.tmp 37)), none⟩)⟩, ⟨[], none⟩])) (.region [⟨(some 25), .q (.move (.tmp 4)), none⟩, ⟨(some 26), .q (.bin .sub (.tmp 25) (.const (vw 1))), none⟩, ⟨(some 4), .q (.move (.tmp 26)), none⟩])))
theorem labels_l1_body {call : CallT} {N : Nat} {t : T} {h : Hp} {b1 : Nat} {rest : List AV} {b11 : Nat} {ZG_3 : Nat → Prop} {Zk_3 : Hp} {G : Nat → Prop} {h0 : Hp} {R : List AObj}   (h_fails : C_fails call) (h_cnum : C_cnum call) {o : Nat × List Nat × Nat × Nat × Nat × Nat × Nat × Nat × List Nat × Int} {n : Nat} {A4 : Nat} {Q1_0 : List Nat} {Q1_1 : Nat} {Q1_2 : Nat} {Q11_0 : Nat} {Q11_1 : Nat} {Q11_2 : Nat} {Q11_3 : Nat} {Q11_4 : List Nat} {Q11_5 : Int} {wQ1_0_1 : AV} {wQ11_4 : AV} {LQ11_4 : List AV} {G_3 : Nat → Prop} {k_3 : Hp} (hN : 90000 < N) (hi : (fun (z : Nat × Nat × List Nat × Nat × Nat × Nat × Nat × Nat × Nat × List Nat × Int × AV × AV × List AV × (Nat → Prop) × Hp) (h' : Hp) => labels_l1  z.1 z.2.1 z.2.2.1 z.2.2.2.1 z.2.2.2.2.1 z.2.2.2.2.2.1 z.2.2.2.2.2.2.1 z.2.2.2.2.2.2.2.1 z.2.2.2.2.2.2.2.2.1 z.2.2.2.2.2.2.2.2.2.1 z.2.2.2.2.2.2.2.2.2.2.1 = some o ∧ (z.2.1 < 4294967296) ∧ (BIn G h0 z.2.2.2.2.2.2.2.2.2.2.2.1 z.2.2.1) ∧ (z.2.2.2.2.2.2.1 < 4294967296) ∧ (z.2.2.2.2.2.2.2.1 < 4294967296) ∧ (z.2.2.2.2.2.2.2.2.1 < 18446744073709551616) ∧ (Eng.Rows (rU .u32) z.2.2.2.2.2.2.2.2.2.2.2.2.2.2.1 z.2.2.2.2.2.2.2.2.2.2.2.2.2.2.2 z.2.2.2.2.2.2.2.2.2.2.2.2.2.1 z.2.2.2.2.2.2.2.2.2.1) ∧ (Up ZG_3 Zk_3 z.2.2.2.2.2.2.2.2.2.2.2.2.2.2.1 z.2.2.2.2.2.2.2.2.2.2.2.2.2.2.2) ∧ Eng.Sep (Cel b1 (z.2.2.2.2.2.2.2.2.2.2.2.1 :: (vi z.2.2.2.1) :: (vi z.2.2.2.2.1) :: rest) :: Cel b11 [(vi z.2.2.2.2.2.1), (vw z.2.2.2.2.2.2.1), (vw z.2.2.2.2.2.2.2.1), (vq z.2.2.2.2.2.2.2.2.1), z.2.2.2.2.2.2.2.2.2.2.2.2.1, (AV.int .i64 z.2.2.2.2.2.2.2.2.2.2.1)] :: OwnO 1 z.2.2.2.2.2.2.2.2.2.2.2.2.1 z.2.2.2.2.2.2.2.2.2.1.length z.2.2.2.2.2.2.2.2.2.2.2.2.2.1 :: Frz z.2.2.2.2.2.2.2.2.2.2.2.2.2.2.1 z.2.2.2.2.2.2.2.2.2.2.2.2.2.2.2 :: Frz G h0 :: R) h') (n, A4, Q1_0, Q1_1, Q1_2, Q11_0, Q11_1, Q11_2, Q11_3, Q11_4, Q11_5, wQ1_0_1, wQ11_4, LQ11_4, G_3, k_3) h)
    : ∃ s, evC call N labels_l1C (ovT [(0, (AV.ptr b1 0)), (1, (AV.ptr b11 0)), (4, (vw A4))] t) h = s ∧ obsS [0, 1, 4] (fun ls h' => ∃ y, ls = ((fun (z : Nat × Nat × List Nat × Nat × Nat × Nat × Nat × Nat × Nat × List Nat × Int × AV × AV × List AV × (Nat → Prop) × Hp) => [(0, (AV.ptr b1 0)), (1, (AV.ptr b11 0)), (4, (vw z.2.1))]) y).map (fun p => some p.2) ∧ (fun (z : Nat × Nat × List Nat × Nat × Nat × Nat × Nat × Nat × Nat × List Nat × Int × AV × AV × List AV × (Nat → Prop) × Hp) (h' : Hp) => labels_l1  z.1 z.2.1 z.2.2.1 z.2.2.2.1 z.2.2.2.2.1 z.2.2.2.2.2.1 z.2.2.2.2.2.2.1 z.2.2.2.2.2.2.2.1 z.2.2.2.2.2.2.2.2.1 z.2.2.2.2.2.2.2.2.2.1 z.2.2.2.2.2.2.2.2.2.2.1 = some o ∧ (z.2.1 < 4294967296) ∧ (BIn G h0 z.2.2.2.2.2.2.2.2.2.2.2.1 z.2.2.1) ∧ (z.2.2.2.2.2.2.1 < 4294967296) ∧ (z.2.2.2.2.2.2.2.1 < 4294967296) ∧ (z.2.2.2.2.2.2.2.2.1 < 18446744073709551616) ∧ (Eng.Rows (rU .u32) z.2.2.2.2.2.2.2.2.2.2.2.2.2.2.1 z.2.2.2.2.2.2.2.2.2.2.2.2.2.2.2 z.2.2.2.2.2.2.2.2.2.2.2.2.2.1 z.2.2.2.2.2.2.2.2.2.1) ∧ (Up ZG_3 Zk_3 z.2.2.2.2.2.2.2.2.2.2.2.2.2.2.1 z.2.2.2.2.2.2.2.2.2.2.2.2.2.2.2) ∧ Eng.Sep (Cel b1 (z.2.2.2.2.2.2.2.2.2.2.2.1 :: (vi z.2.2.2.1) :: (vi z.2.2.2.2.1) :: rest) :: Cel b11 [(vi z.2.2.2.2.2.1), (vw z.2.2.2.2.2.2.1), (vw z.2.2.2.2.2.2.2.1), (vq z.2.2.2.2.2.2.2.2.1), z.2.2.2.2.2.2.2.2.2.2.2.2.1, (AV.int .i64 z.2.2.2.2.2.2.2.2.2.2.1)] :: OwnO 1 z.2.2.2.2.2.2.2.2.2.2.2.2.1 z.2.2.2.2.2.2.2.2.2.1.length z.2.2.2.2.2.2.2.2.2.2.2.2.2.1 :: Frz z.2.2.2.2.2.2.2.2.2.2.2.2.2.2.1 z.2.2.2.2.2.2.2.2.2.2.2.2.2.2.2 :: Frz G h0 :: R) h') y h' ∧ (fun (z : Nat × Nat × List Nat × Nat × Nat × Nat × Nat × Nat × Nat × List Nat × Int × AV × AV × List AV × (Nat → Prop) × Hp) => z.1) y < (fun (z : Nat × Nat × List Nat × Nat × Nat × Nat × Nat × Nat × Nat × List Nat × Int × AV × AV × List AV × (Nat → Prop) × Hp) => z.1) (n, A4, Q1_0, Q1_1, Q1_2, Q11_0, Q11_1, Q11_2, Q11_3, Q11_4, Q11_5, wQ1_0_1, wQ11_4, LQ11_4, G_3, k_3)) (fun i ls h' => ∃ y, ls = ((fun (z : Nat × Nat × List Nat × Nat × Nat × Nat × Nat × Nat × Nat × List Nat × Int × AV × AV × List AV × (Nat → Prop) × Hp) => [(0, (AV.ptr b1 0)), (1, (AV.ptr b11 0)), (4, (vw z.2.1))]) y).map (fun p => some p.2) ∧ (fun (i : Nat) (z : Nat × Nat × List Nat × Nat × Nat × Nat × Nat × Nat × Nat × List Nat × Int × AV × AV × List AV × (Nat → Prop) × Hp) (h' : Hp) => (i = 0) ∧ (i = 0 → o = (z.2.1, z.2.2.1, z.2.2.2.1, z.2.2.2.2.1, z.2.2.2.2.2.1, z.2.2.2.2.2.2.1, z.2.2.2.2.2.2.2.1, z.2.2.2.2.2.2.2.2.1, z.2.2.2.2.2.2.2.2.2.1, z.2.2.2.2.2.2.2.2.2.2.1) ∧ (z.2.1 < 4294967296) ∧ (BIn G h0 z.2.2.2.2.2.2.2.2.2.2.2.1 z.2.2.1) ∧ (z.2.2.2.2.2.2.1 < 4294967296) ∧ (z.2.2.2.2.2.2.2.1 < 4294967296) ∧ (z.2.2.2.2.2.2.2.2.1 < 18446744073709551616) ∧ (Eng.Rows (rU .u32) z.2.2.2.2.2.2.2.2.2.2.2.2.2.2.1 z.2.2.2.2.2.2.2.2.2.2.2.2.2.2.2 z.2.2.2.2.2.2.2.2.2.2.2.2.2.1 z.2.2.2.2.2.2.2.2.2.1) ∧ (Up ZG_3 Zk_3 z.2.2.2.2.2.2.2.2.2.2.2.2.2.2.1 z.2.2.2.2.2.2.2.2.2.2.2.2.2.2.2) ∧ Eng.Sep (Cel b1 (z.2.2.2.2.2.2.2.2.2.2.2.1 :: (vi z.2.2.2.1) :: (vi z.2.2.2.2.1) :: rest) :: Cel b11 [(vi z.2.2.2.2.2.1), (vw z.2.2.2.2.2.2.1), (vw z.2.2.2.2.2.2.2.1), (vq z.2.2.2.2.2.2.2.2.1), z.2.2.2.2.2.2.2.2.2.2.2.2.1, (AV.int .i64 z.2.2.2.2.2.2.2.2.2.2.1)] :: OwnO 1 z.2.2.2.2.2.2.2.2.2.2.2.2.1 z.2.2.2.2.2.2.2.2.2.1.length z.2.2.2.2.2.2.2.2.2.2.2.2.2.1 :: Frz z.2.2.2.2.2.2.2.2.2.2.2.2.2.2.1 z.2.2.2.2.2.2.2.2.2.2.2.2.2.2.2 :: Frz G h0 :: R) h')) i y h') (fun ls h' => (fun (ls : List (Option AV)) (h' : Hp) => False) ls h') s := by
  have hi : labels_l1  n A4 Q1_0 Q1_1 Q1_2 Q11_0 Q11_1 Q11_2 Q11_3 Q11_4 Q11_5 = some o ∧ (A4 < 4294967296) ∧ (BIn G h0 wQ1_0_1 Q1_0) ∧ (Q11_1 < 4294967296) ∧ (Q11_2 < 4294967296) ∧ (Q11_3 < 18446744073709551616) ∧ (Eng.Rows (rU .u32) G_3 k_3 LQ11_4 Q11_4) ∧ (Up ZG_3 Zk_3 G_3 k_3) ∧ Eng.Sep (Cel b1 (wQ1_0_1 :: (vi Q1_1) :: (vi Q1_2) :: rest) :: Cel b11 [(vi Q11_0), (vw Q11_1), (vw Q11_2), (vq Q11_3), wQ11_4, (AV.int .i64 Q11_5)] :: OwnO 1 wQ11_4 Q11_4.length LQ11_4 :: Frz G_3 k_3 :: Frz G h0 :: R) h := hi
  obtain ⟨hp, fA4_1, fQ1_0_2, fQ11_1_1, fQ11_2_1, fQ11_3_1, fQ11_4, fU_3, S⟩ := hi
  obtain ⟨m, hm⟩ : ∃ m, n = m + 1 := by
    cases n with
    | zero => first | cases hp | (unfold labels_l1 at hp; cases hp) | (simp [labels_l1] at hp)
    | succ m => exact ⟨m, rfl⟩
  rw [hm] at hp
  unfold labels_l1 at hp
  refine walk_ok (o := (.fork 2 (.tell 4 (vi Q1_2) (.fork 1 (.tell 4 wQ11_4 (.again 3 (.exi 0 fun (x5 : List Nat × Nat × Nat × Nat) => (.exi 0 fun (w15 : AV) => (.exi 0 fun (h11 : Hp) => (.eff 0 (vw x5.2.2.2) h11 (.again 1 (.effx 0 (fun e20 => e20.v) (fun e20 => (.again 2 (.effx 0 (fun e26 => (AV.tuple [])) (fun e26 => (.tell 2 (vw (A4 - 1)) .fin))))))))))))) .fin)) .fin)) (p := (fun (KN : List (Option AV) → Hp → Prop) (KE : Nat → List (Option AV) → Hp → Prop) (KR : List (Option AV) → Hp → Prop) => ((ltI (Int.ofNat 0) (Int.ofNat A4) = true → ((evQ (.loadS (.const (AV.ptr b1 2))) .lf h = .ok (vi Q1_2) ∧ ((eqI (Int.ofNat Q1_2) (Int.ofNat 0) = true → ((evQ (.loadS (.const (AV.ptr b11 4))) .lf h = .ok wQ11_4 ∧ ((again (.fieldAddr 0 (.const (AV.ptr b1 0))) .lf (AV.ptr b1 0) h = true ∧ again (.nilCheck (.const (AV.ptr b1 0))) .lf (AV.ptr b1 0) h = true ∧ again (.move (.const (AV.ptr b1 0))) .lf (AV.ptr b1 0) h = true ∧ again (.loadS (.const (AV.ptr b11 4))) .lf wQ11_4 h = true ∧ again (.fieldAddr 4 (.const (AV.ptr b11 0))) .lf (AV.ptr b11 4) h = true ∧ again (.nilCheck (.const (AV.ptr b11 0))) .lf (AV.ptr b11 0) h = true ∧ again (.move (.const (AV.ptr b11 0))) .lf (AV.ptr b11 0) h = true ∧ again (.move (.const (AV.ptr b11 0))) .lf (AV.ptr b11 0) h = true ∧ True) ∧ (∃ x5 : List Nat × Nat × Nat × Nat, ∃ w15 : AV, ∃ h11 : Hp, (call 71 [(AV.ptr b1 0)] h = .ok (vw x5.2.2.2) h11 ∧ ((again (.loadS (.const (AV.ptr b11 4))) .lf wQ11_4 (hpush h11 (mkCells [(vw x5.2.2.2)] 1)) = true ∧ again (.fieldAddr 4 (.const (AV.ptr b11 0))) .lf (AV.ptr b11 4) (hpush h11 (mkCells [(vw x5.2.2.2)] 1)) = true ∧ again (.nilCheck (.const (AV.ptr b11 0))) .lf (AV.ptr b11 0) (hpush h11 (mkCells [(vw x5.2.2.2)] 1)) = true ∧ again (.move (.const (AV.ptr b11 0))) .lf (AV.ptr b11 0) (hpush h11 (mkCells [(vw x5.2.2.2)] 1)) = true ∧ again (.move (.const (AV.ptr b11 0))) .lf (AV.ptr b11 0) (hpush h11 (mkCells [(vw x5.2.2.2)] 1)) = true ∧ True) ∧ (∃ e20 : Ev, evE (.append 1 4 (.const wQ11_4) (.const (AV.slice (Hp.next h11) 0 1 1 1 true))) call .lf (hpush h11 (mkCells [(vw x5.2.2.2)] 1)) = .ok e20.v e20.h ∧ ((again (.fieldAddr 4 (.const (AV.ptr b11 0))) .lf (AV.ptr b11 4) e20.h = true ∧ again (.nilCheck (.const (AV.ptr b11 0))) .lf (AV.ptr b11 0) e20.h = true ∧ again (.move (.const (AV.ptr b11 0))) .lf (AV.ptr b11 0) e20.h = true ∧ True) ∧ (∃ e26 : Ev, evE (.store 1 (.const (AV.ptr b11 4)) (.const e20.v)) call .lf e20.h = .ok (AV.tuple []) e26.h ∧ ((evQ (.bin .sub (.const (vw A4)) (.const (vw 1))) .lf H0 = .ok (vw (A4 - 1)) ∧ KN [some (AV.ptr b1 0), some (AV.ptr b11 0), some (vw (A4 - 1))] e26.h)))))))))))) ∧ (eqI (Int.ofNat Q1_2) (Int.ofNat 0) = false → KE 0 [some (AV.ptr b1 0), some (AV.ptr b11 0), some (vw A4)] h))))) ∧ (ltI (Int.ofNat 0) (Int.ofNat A4) = false → KE 0 [some (AV.ptr b1 0), some (AV.ptr b11 0), some (vw A4)] h))) (fun ls h' => ∃ y, ls = ((fun (z : Nat × Nat × List Nat × Nat × Nat × Nat × Nat × Nat × Nat × List Nat × Int × AV × AV × List AV × (Nat → Prop) × Hp) => [(0, (AV.ptr b1 0)), (1, (AV.ptr b11 0)), (4, (vw z.2.1))]) y).map (fun p => some p.2) ∧ (fun (z : Nat × Nat × List Nat × Nat × Nat × Nat × Nat × Nat × Nat × List Nat × Int × AV × AV × List AV × (Nat → Prop) × Hp) (h' : Hp) => labels_l1  z.1 z.2.1 z.2.2.1 z.2.2.2.1 z.2.2.2.2.1 z.2.2.2.2.2.1 z.2.2.2.2.2.2.1 z.2.2.2.2.2.2.2.1 z.2.2.2.2.2.2.2.2.1 z.2.2.2.2.2.2.2.2.2.1 z.2.2.2.2.2.2.2.2.2.2.1 = some o ∧ (z.2.1 < 4294967296) ∧ (BIn G h0 z.2.2.2.2.2.2.2.2.2.2.2.1 z.2.2.1) ∧ (z.2.2.2.2.2.2.1 < 4294967296) ∧ (z.2.2.2.2.2.2.2.1 < 4294967296) ∧ (z.2.2.2.2.2.2.2.2.1 < 18446744073709551616) ∧ (Eng.Rows (rU .u32) z.2.2.2.2.2.2.2.2.2.2.2.2.2.2.1 z.2.2.2.2.2.2.2.2.2.2.2.2.2.2.2 z.2.2.2.2.2.2.2.2.2.2.2.2.2.1 z.2.2.2.2.2.2.2.2.2.1) ∧ (Up ZG_3 Zk_3 z.2.2.2.2.2.2.2.2.2.2.2.2.2.2.1 z.2.2.2.2.2.2.2.2.2.2.2.2.2.2.2) ∧ Eng.Sep (Cel b1 (z.2.2.2.2.2.2.2.2.2.2.2.1 :: (vi z.2.2.2.1) :: (vi z.2.2.2.2.1) :: rest) :: Cel b11 [(vi z.2.2.2.2.2.1), (vw z.2.2.2.2.2.2.1), (vw z.2.2.2.2.2.2.2.1), (vq z.2.2.2.2.2.2.2.2.1), z.2.2.2.2.2.2.2.2.2.2.2.2.1, (AV.int .i64 z.2.2.2.2.2.2.2.2.2.2.1)] :: OwnO 1 z.2.2.2.2.2.2.2.2.2.2.2.2.1 z.2.2.2.2.2.2.2.2.2.1.length z.2.2.2.2.2.2.2.2.2.2.2.2.2.1 :: Frz z.2.2.2.2.2.2.2.2.2.2.2.2.2.2.1 z.2.2.2.2.2.2.2.2.2.2.2.2.2.2.2 :: Frz G h0 :: R) h') y h' ∧ (fun (z : Nat × Nat × List Nat × Nat × Nat × Nat × Nat × Nat × Nat × List Nat × Int × AV × AV × List AV × (Nat → Prop) × Hp) => z.1) y < (fun (z : Nat × Nat × List Nat × Nat × Nat × Nat × Nat × Nat × Nat × List Nat × Int × AV × AV × List AV × (Nat → Prop) × Hp) => z.1) (n, A4, Q1_0, Q1_1, Q1_2, Q11_0, Q11_1, Q11_2, Q11_3, Q11_4, Q11_5, wQ1_0_1, wQ11_4, LQ11_4, G_3, k_3)) (fun i ls h' => ∃ y, ls = ((fun (z : Nat × Nat × List Nat × Nat × Nat × Nat × Nat × Nat × Nat × List Nat × Int × AV × AV × List AV × (Nat → Prop) × Hp) => [(0, (AV.ptr b1 0)), (1, (AV.ptr b11 0)), (4, (vw z.2.1))]) y).map (fun p => some p.2) ∧ (fun (i : Nat) (z : Nat × Nat × List Nat × Nat × Nat × Nat × Nat × Nat × Nat × List Nat × Int × AV × AV × List AV × (Nat → Prop) × Hp) (h' : Hp) => (i = 0) ∧ (i = 0 → o = (z.2.1, z.2.2.1, z.2.2.2.1, z.2.2.2.2.1, z.2.2.2.2.2.1, z.2.2.2.2.2.2.1, z.2.2.2.2.2.2.2.1, z.2.2.2.2.2.2.2.2.1, z.2.2.2.2.2.2.2.2.2.1, z.2.2.2.2.2.2.2.2.2.2.1) ∧ (z.2.1 < 4294967296) ∧ (BIn G h0 z.2.2.2.2.2.2.2.2.2.2.2.1 z.2.2.1) ∧ (z.2.2.2.2.2.2.1 < 4294967296) ∧ (z.2.2.2.2.2.2.2.1 < 4294967296) ∧ (z.2.2.2.2.2.2.2.2.1 < 18446744073709551616) ∧ (Eng.Rows (rU .u32) z.2.2.2.2.2.2.2.2.2.2.2.2.2.2.1 z.2.2.2.2.2.2.2.2.2.2.2.2.2.2.2 z.2.2.2.2.2.2.2.2.2.2.2.2.2.1 z.2.2.2.2.2.2.2.2.2.1) ∧ (Up ZG_3 Zk_3 z.2.2.2.2.2.2.2.2.2.2.2.2.2.2.1 z.2.2.2.2.2.2.2.2.2.2.2.2.2.2.2) ∧ Eng.Sep (Cel b1 (z.2.2.2.2.2.2.2.2.2.2.2.1 :: (vi z.2.2.2.1) :: (vi z.2.2.2.2.1) :: rest) :: Cel b11 [(vi z.2.2.2.2.2.1), (vw z.2.2.2.2.2.2.1), (vw z.2.2.2.2.2.2.2.1), (vq z.2.2.2.2.2.2.2.2.1), z.2.2.2.2.2.2.2.2.2.2.2.2.1, (AV.int .i64 z.2.2.2.2.2.2.2.2.2.2.1)] :: OwnO 1 z.2.2.2.2.2.2.2.2.2.2.2.2.1 z.2.2.2.2.2.2.2.2.2.1.length z.2.2.2.2.2.2.2.2.2.2.2.2.2.1 :: Frz z.2.2.2.2.2.2.2.2.2.2.2.2.2.2.1 z.2.2.2.2.2.2.2.2.2.2.2.2.2.2.2 :: Frz G h0 :: R) h')) i y h') (fun ls h' => (fun (ls : List (Option AV)) (h' : Hp) => False) ls h')) (by kernel_rfl) ?_
  refine ⟨fun c1 => ?_, fun c1 => ?_⟩
  · replace c1 := ltI_t c1
    replace hp := ift hp c1
    refine ⟨cel_load S (i := 0) rfl rfl, ?_⟩
    refine ⟨fun c2 => ?_, fun c2 => ?_⟩
    · replace c2 := eqI_t c2
      replace hp := ift hp c2
      refine ⟨cel_load S (i := 1) rfl rfl, ?_⟩
      refine ⟨⟨again_of (rfl) (avEq_ptr _ _), again_of (rfl) (avEq_ptr _ _), again_of (rfl) (avEq_ptr _ _), again_of (cel_load S (i := 1) rfl rfl) (own_same S (i := 2) rfl), again_of (rfl) (avEq_ptr _ _), again_of (rfl) (avEq_ptr _ _), again_of (rfl) (avEq_ptr _ _), again_of (rfl) (avEq_ptr _ _), trivial⟩, ?_⟩
      have S3 := S.front 4 rfl
      have S4 := S3.front 1 rfl
      have ⟨x5, hb6, hp⟩ := ob_inv hp
      obtain ⟨v10, h11, q12, w15, e13, f9, f16, S14⟩ := h_cnum fQ1_0_2 hb6 S4
      replace e13 := e13.symm
      subst e13
      refine ⟨x5, w15, h11, q12, ?_⟩
      have S19 := own_new S14 1 1 [(vw x5.2.2.2)] true rfl
      refine ⟨⟨again_of (cel_load S19 (i := 3) rfl rfl) (own_same S19 (i := 4) rfl), again_of (rfl) (avEq_ptr _ _), again_of (rfl) (avEq_ptr _ _), again_of (rfl) (avEq_ptr _ _), again_of (rfl) (avEq_ptr _ _), trivial⟩, ?_⟩
      have ⟨g21, hp⟩ := gd_inv hp
      obtain ⟨e20, qe20, se20⟩ := own_append (bytes := 4) call S19 (i := 4) rfl (x := (AV.slice (Hp.next h11) 0 1 1 1 true)) (m := 1) (xs := [(vw x5.2.2.2)]) (fun z k => own_src S19 (i := 0) rfl z k) (own_L S19 (i := 0) rfl) (all_cell rfl all_cell0) g21 (by omega)
      obtain ⟨L22, rL22, eL22⟩ : ∃ L, Eng.Rows (rU .u32) G_3 k_3 L (Q11_4 ++ [x5.2.2.2]) ∧ LQ11_4 ++ [(vw x5.2.2.2)] = L := ⟨_, (Rows.snoc fQ11_4 (a := (rU .u32)) (x := x5.2.2.2) ⟨rfl, f9⟩), rfl⟩
      have S24 : Sep (OwnO 1 (AV.slice (Hp.next h11) 0 1 1 1 true) 1 [(vw x5.2.2.2)] :: Cel b1 (w15 :: (vi x5.2.1) :: (vi x5.2.2.1) :: rest) :: Frz G h0 :: Cel b11 [(vi Q11_0), (vw Q11_1), (vw Q11_2), (vq Q11_3), wQ11_4, (AV.int .i64 Q11_5)] :: OwnO 1 e20.v ((Q11_4 ++ [x5.2.2.2]).length) L22 :: Frz G_3 k_3 :: R) e20.h := (by have z := se20; rw [eL22, show Q11_4.length + 1 = (Q11_4 ++ [x5.2.2.2]).length from by simp] at z; exact z)
      have S25 := S24.tail
      refine ⟨e20, qe20, ?_⟩
      refine ⟨⟨again_of (rfl) (avEq_ptr _ _), again_of (rfl) (avEq_ptr _ _), again_of (rfl) (avEq_ptr _ _), trivial⟩, ?_⟩
      obtain ⟨e26, qe26, se26⟩ := cel_store call S25 (i := 2) (o := 4) (x := e20.v) rfl (lb rfl) (own_cell S25 (i := 3) rfl)
      refine ⟨e26, qe26, ?_⟩
      have ⟨g28, hp⟩ := gd_inv hp
      refine ⟨u_sub rfl g28 fA4_1, ?_⟩
      have g29 : A4 - 1 < 4294967296 := Nat.lt_of_le_of_lt (Nat.sub_le _ _) fA4_1
      have S30 := se26.front 1 rfl
      have S31 := S30.front 4 rfl
      have S32 := S31.front 4 rfl
      have S33 := S32.front 4 rfl
      have S34 := S33.front 4 rfl
      refine ⟨(m, A4 - 1, x5.1, x5.2.1, x5.2.2.1, Q11_0, Q11_1, Q11_2, Q11_3, Q11_4 ++ [x5.2.2.2], Q11_5, w15, e20.v, L22, G_3, k_3), rfl, ⟨hp, g29, f16, fQ11_1_1, fQ11_2_1, fQ11_3_1, rL22, fU_3, S34⟩, by show m < n; omega⟩
    replace c2 := eqI_f c2
    replace hp := iff0 hp (c2)
    refine ⟨(m, A4, Q1_0, Q1_1, Q1_2, Q11_0, Q11_1, Q11_2, Q11_3, Q11_4, Q11_5, wQ1_0_1, wQ11_4, LQ11_4, G_3, k_3), rfl, rfl, fun _ => ⟨(Option.some.inj hp).symm, fA4_1, fQ1_0_2, fQ11_1_1, fQ11_2_1, fQ11_3_1, fQ11_4, fU_3, S⟩⟩
  replace c1 := ltI_f c1
  replace hp := iff0 hp (nltO c1)
  refine ⟨(m, A4, Q1_0, Q1_1, Q1_2, Q11_0, Q11_1, Q11_2, Q11_3, Q11_4, Q11_5, wQ1_0_1, wQ11_4, LQ11_4, G_3, k_3), rfl, rfl, fun _ => ⟨(Option.some.inj hp).symm, fA4_1, fQ1_0_2, fQ11_1_1, fQ11_2_1, fQ11_3_1, fQ11_4, fU_3, S⟩⟩
theorem labels_l1_t {call : CallT} {N : Nat} {b1 : Nat} {rest : List AV} {b11 : Nat} {ZG_3 : Nat → Prop} {Zk_3 : Hp} {G : Nat → Prop} {h0 : Hp} {R : List AObj}   (h_fails : C_fails call) (h_cnum : C_cnum call) {o : Nat × List Nat × Nat × Nat × Nat × Nat × Nat × Nat × List Nat × Int} {n : Nat} {A4 : Nat} {Q1_0 : List Nat} {Q1_1 : Nat} {Q1_2 : Nat} {Q11_0 : Nat} {Q11_1 : Nat} {Q11_2 : Nat} {Q11_3 : Nat} {Q11_4 : List Nat} {Q11_5 : Int} {wQ1_0_1 : AV} {wQ11_4 : AV} {LQ11_4 : List AV} {G_3 : Nat → Prop} {k_3 : Hp} {h : Hp} (hi : (fun (z : Nat × Nat × List Nat × Nat × Nat × Nat × Nat × Nat × Nat × List Nat × Int × AV × AV × List AV × (Nat → Prop) × Hp) (h' : Hp) => labels_l1  z.1 z.2.1 z.2.2.1 z.2.2.2.1 z.2.2.2.2.1 z.2.2.2.2.2.1 z.2.2.2.2.2.2.1 z.2.2.2.2.2.2.2.1 z.2.2.2.2.2.2.2.2.1 z.2.2.2.2.2.2.2.2.2.1 z.2.2.2.2.2.2.2.2.2.2.1 = some o ∧ (z.2.1 < 4294967296) ∧ (BIn G h0 z.2.2.2.2.2.2.2.2.2.2.2.1 z.2.2.1) ∧ (z.2.2.2.2.2.2.1 < 4294967296) ∧ (z.2.2.2.2.2.2.2.1 < 4294967296) ∧ (z.2.2.2.2.2.2.2.2.1 < 18446744073709551616) ∧ (Eng.Rows (rU .u32) z.2.2.2.2.2.2.2.2.2.2.2.2.2.2.1 z.2.2.2.2.2.2.2.2.2.2.2.2.2.2.2 z.2.2.2.2.2.2.2.2.2.2.2.2.2.1 z.2.2.2.2.2.2.2.2.2.1) ∧ (Up ZG_3 Zk_3 z.2.2.2.2.2.2.2.2.2.2.2.2.2.2.1 z.2.2.2.2.2.2.2.2.2.2.2.2.2.2.2) ∧ Eng.Sep (Cel b1 (z.2.2.2.2.2.2.2.2.2.2.2.1 :: (vi z.2.2.2.1) :: (vi z.2.2.2.2.1) :: rest) :: Cel b11 [(vi z.2.2.2.2.2.1), (vw z.2.2.2.2.2.2.1), (vw z.2.2.2.2.2.2.2.1), (vq z.2.2.2.2.2.2.2.2.1), z.2.2.2.2.2.2.2.2.2.2.2.2.1, (AV.int .i64 z.2.2.2.2.2.2.2.2.2.2.1)] :: OwnO 1 z.2.2.2.2.2.2.2.2.2.2.2.2.1 z.2.2.2.2.2.2.2.2.2.1.length z.2.2.2.2.2.2.2.2.2.2.2.2.2.1 :: Frz z.2.2.2.2.2.2.2.2.2.2.2.2.2.2.1 z.2.2.2.2.2.2.2.2.2.2.2.2.2.2.2 :: Frz G h0 :: R) h') (n, A4, Q1_0, Q1_1, Q1_2, Q11_0, Q11_1, Q11_2, Q11_3, Q11_4, Q11_5, wQ1_0_1, wQ11_4, LQ11_4, G_3, k_3) h) (hN : n < N) (hN' : 90000 < N) {t : T} (ht : Has ((fun (z : Nat × Nat × List Nat × Nat × Nat × Nat × Nat × Nat × Nat × List Nat × Int × AV × AV × List AV × (Nat → Prop) × Hp) => [(0, (AV.ptr b1 0)), (1, (AV.ptr b11 0)), (4, (vw z.2.1))]) (n, A4, Q1_0, Q1_1, Q1_2, Q11_0, Q11_1, Q11_2, Q11_3, Q11_4, Q11_5, wQ1_0_1, wQ11_4, LQ11_4, G_3, k_3)) t) :
    (∃ i y t' h', evC call N (.loop labels_l1C) t h = .exit i t' h' ∧ Has ((fun (z : Nat × Nat × List Nat × Nat × Nat × Nat × Nat × Nat × Nat × List Nat × Int × AV × AV × List AV × (Nat → Prop) × Hp) => [(0, (AV.ptr b1 0)), (1, (AV.ptr b11 0)), (4, (vw z.2.1))]) y) t' ∧ (fun (i : Nat) (z : Nat × Nat × List Nat × Nat × Nat × Nat × Nat × Nat × Nat × List Nat × Int × AV × AV × List AV × (Nat → Prop) × Hp) (h' : Hp) => (i = 0) ∧ (i = 0 → o = (z.2.1, z.2.2.1, z.2.2.2.1, z.2.2.2.2.1, z.2.2.2.2.2.1, z.2.2.2.2.2.2.1, z.2.2.2.2.2.2.2.1, z.2.2.2.2.2.2.2.2.1, z.2.2.2.2.2.2.2.2.2.1, z.2.2.2.2.2.2.2.2.2.2.1) ∧ (z.2.1 < 4294967296) ∧ (BIn G h0 z.2.2.2.2.2.2.2.2.2.2.2.1 z.2.2.1) ∧ (z.2.2.2.2.2.2.1 < 4294967296) ∧ (z.2.2.2.2.2.2.2.1 < 4294967296) ∧ (z.2.2.2.2.2.2.2.2.1 < 18446744073709551616) ∧ (Eng.Rows (rU .u32) z.2.2.2.2.2.2.2.2.2.2.2.2.2.2.1 z.2.2.2.2.2.2.2.2.2.2.2.2.2.2.2 z.2.2.2.2.2.2.2.2.2.2.2.2.2.1 z.2.2.2.2.2.2.2.2.2.1) ∧ (Up ZG_3 Zk_3 z.2.2.2.2.2.2.2.2.2.2.2.2.2.2.1 z.2.2.2.2.2.2.2.2.2.2.2.2.2.2.2) ∧ Eng.Sep (Cel b1 (z.2.2.2.2.2.2.2.2.2.2.2.1 :: (vi z.2.2.2.1) :: (vi z.2.2.2.2.1) :: rest) :: Cel b11 [(vi z.2.2.2.2.2.1), (vw z.2.2.2.2.2.2.1), (vw z.2.2.2.2.2.2.2.1), (vq z.2.2.2.2.2.2.2.2.1), z.2.2.2.2.2.2.2.2.2.2.2.2.1, (AV.int .i64 z.2.2.2.2.2.2.2.2.2.2.1)] :: OwnO 1 z.2.2.2.2.2.2.2.2.2.2.2.2.1 z.2.2.2.2.2.2.2.2.2.1.length z.2.2.2.2.2.2.2.2.2.2.2.2.2.1 :: Frz z.2.2.2.2.2.2.2.2.2.2.2.2.2.2.1 z.2.2.2.2.2.2.2.2.2.2.2.2.2.2.2 :: Frz G h0 :: R) h')) i y h') ∨ (∃ t' h', evC call N (.loop labels_l1C) t h = .ret t' h' ∧ (fun (ls : List (Option AV)) (h' : Hp) => False) (slots [0, 1, 4] t') h') :=
  loop_st (fun (z : Nat × Nat × List Nat × Nat × Nat × Nat × Nat × Nat × Nat × List Nat × Int × AV × AV × List AV × (Nat → Prop) × Hp) => [(0, (AV.ptr b1 0)), (1, (AV.ptr b11 0)), (4, (vw z.2.1))]) [0, 1, 4] (fun _ => rfl) (fun (z : Nat × Nat × List Nat × Nat × Nat × Nat × Nat × Nat × Nat × List Nat × Int × AV × AV × List AV × (Nat → Prop) × Hp) (h' : Hp) => labels_l1  z.1 z.2.1 z.2.2.1 z.2.2.2.1 z.2.2.2.2.1 z.2.2.2.2.2.1 z.2.2.2.2.2.2.1 z.2.2.2.2.2.2.2.1 z.2.2.2.2.2.2.2.2.1 z.2.2.2.2.2.2.2.2.2.1 z.2.2.2.2.2.2.2.2.2.2.1 = some o ∧ (z.2.1 < 4294967296) ∧ (BIn G h0 z.2.2.2.2.2.2.2.2.2.2.2.1 z.2.2.1) ∧ (z.2.2.2.2.2.2.1 < 4294967296) ∧ (z.2.2.2.2.2.2.2.1 < 4294967296) ∧ (z.2.2.2.2.2.2.2.2.1 < 18446744073709551616) ∧ (Eng.Rows (rU .u32) z.2.2.2.2.2.2.2.2.2.2.2.2.2.2.1 z.2.2.2.2.2.2.2.2.2.2.2.2.2.2.2 z.2.2.2.2.2.2.2.2.2.2.2.2.2.1 z.2.2.2.2.2.2.2.2.2.1) ∧ (Up ZG_3 Zk_3 z.2.2.2.2.2.2.2.2.2.2.2.2.2.2.1 z.2.2.2.2.2.2.2.2.2.2.2.2.2.2.2) ∧ Eng.Sep (Cel b1 (z.2.2.2.2.2.2.2.2.2.2.2.1 :: (vi z.2.2.2.1) :: (vi z.2.2.2.2.1) :: rest) :: Cel b11 [(vi z.2.2.2.2.2.1), (vw z.2.2.2.2.2.2.1), (vw z.2.2.2.2.2.2.2.1), (vq z.2.2.2.2.2.2.2.2.1), z.2.2.2.2.2.2.2.2.2.2.2.2.1, (AV.int .i64 z.2.2.2.2.2.2.2.2.2.2.1)] :: OwnO 1 z.2.2.2.2.2.2.2.2.2.2.2.2.1 z.2.2.2.2.2.2.2.2.2.1.length z.2.2.2.2.2.2.2.2.2.2.2.2.2.1 :: Frz z.2.2.2.2.2.2.2.2.2.2.2.2.2.2.1 z.2.2.2.2.2.2.2.2.2.2.2.2.2.2.2 :: Frz G h0 :: R) h') (fun (z : Nat × Nat × List Nat × Nat × Nat × Nat × Nat × Nat × Nat × List Nat × Int × AV × AV × List AV × (Nat → Prop) × Hp) => z.1) (fun (i : Nat) (z : Nat × Nat × List Nat × Nat × Nat × Nat × Nat × Nat × Nat × List Nat × Int × AV × AV × List AV × (Nat → Prop) × Hp) (h' : Hp) => (i = 0) ∧ (i = 0 → o = (z.2.1, z.2.2.1, z.2.2.2.1, z.2.2.2.2.1, z.2.2.2.2.2.1, z.2.2.2.2.2.2.1, z.2.2.2.2.2.2.2.1, z.2.2.2.2.2.2.2.2.1, z.2.2.2.2.2.2.2.2.2.1, z.2.2.2.2.2.2.2.2.2.2.1) ∧ (z.2.1 < 4294967296) ∧ (BIn G h0 z.2.2.2.2.2.2.2.2.2.2.2.1 z.2.2.1) ∧ (z.2.2.2.2.2.2.1 < 4294967296) ∧ (z.2.2.2.2.2.2.2.1 < 4294967296) ∧ (z.2.2.2.2.2.2.2.2.1 < 18446744073709551616) ∧ (Eng.Rows (rU .u32) z.2.2.2.2.2.2.2.2.2.2.2.2.2.2.1 z.2.2.2.2.2.2.2.2.2.2.2.2.2.2.2 z.2.2.2.2.2.2.2.2.2.2.2.2.2.1 z.2.2.2.2.2.2.2.2.2.1) ∧ (Up ZG_3 Zk_3 z.2.2.2.2.2.2.2.2.2.2.2.2.2.2.1 z.2.2.2.2.2.2.2.2.2.2.2.2.2.2.2) ∧ Eng.Sep (Cel b1 (z.2.2.2.2.2.2.2.2.2.2.2.1 :: (vi z.2.2.2.1) :: (vi z.2.2.2.2.1) :: rest) :: Cel b11 [(vi z.2.2.2.2.2.1), (vw z.2.2.2.2.2.2.1), (vw z.2.2.2.2.2.2.2.1), (vq z.2.2.2.2.2.2.2.2.1), z.2.2.2.2.2.2.2.2.2.2.2.2.1, (AV.int .i64 z.2.2.2.2.2.2.2.2.2.2.1)] :: OwnO 1 z.2.2.2.2.2.2.2.2.2.2.2.2.1 z.2.2.2.2.2.2.2.2.2.1.length z.2.2.2.2.2.2.2.2.2.2.2.2.2.1 :: Frz z.2.2.2.2.2.2.2.2.2.2.2.2.2.2.1 z.2.2.2.2.2.2.2.2.2.2.2.2.2.2.2 :: Frz G h0 :: R) h')) (fun (ls : List (Option AV)) (h' : Hp) => False) (fun ⟨n, A4, Q1_0, Q1_1, Q1_2, Q11_0, Q11_1, Q11_2, Q11_3, Q11_4, Q11_5, wQ1_0_1, wQ11_4, LQ11_4, G_3, k_3⟩ t h hi => labels_l1_body h_fails h_cnum hN' hi) (n, A4, Q1_0, Q1_1, Q1_2, Q11_0, Q11_1, Q11_2, Q11_3, Q11_4, Q11_5, wQ1_0_1, wQ11_4, LQ11_4, G_3, k_3) h hi hN t ht
noncomputable def labels_p (cb : List Nat) (cn : Nat) (ce : Nat) (x_op : Nat) (x_a : Nat) (x_b : Nat) (x_n : Nat) (x_l : List Nat) (x_t : Int) : Option (List Nat × Nat × Nat × Nat × Nat × Nat × Nat × List Nat × Int) :=
  (ob (cnum_p cb cn ce) fun x3 =>
    (ob (fails_p x3.1 x3.2.1 x3.2.2.1 (ltI (Int.ofNat 600) (Int.ofNat x3.2.2.2)) 4) fun x17 =>
    (ob (labels_l1  90000 x3.2.2.2 x17.1 x17.2.1 x17.2.2 x_op x_a x_b x_n x_l x_t) fun o35 =>
    (ob (cnum_p o35.2.1 o35.2.2.1 o35.2.2.2.1) fun x45 =>
    (some (x45.1, x45.2.1, x45.2.2.1, o35.2.2.2.2.1, x45.2.2.2, o35.2.2.2.2.2.2.1, o35.2.2.2.2.2.2.2.1, o35.2.2.2.2.2.2.2.2.1, o35.2.2.2.2.2.2.2.2.2))))))
theorem labels_w {call : CallT} {N : Nat} {h : Hp} {h0 : Hp} {G : Nat → Prop} {R : List AObj} {Gr : Nat → Prop} {kr : Hp} {b : Nat} {b_x : Nat} {rest : List AV} {wcb_1 : AV} {wx_l_1 : AV} {Lx_l_3 : List AV} {cb : List Nat} {cn : Nat} {ce : Nat} {x_op : Nat} {x_a : Nat} {x_b : Nat} {x_n : Nat} {x_l : List Nat} {x_t : Int} (fcb_2 : BIn G h0 wcb_1 cb) (fx_a_1 : x_a < 4294967296) (fx_b_1 : x_b < 4294967296) (fx_n_1 : x_n < 18446744073709551616) (fx_l_2 : Eng.Rows (rU .u32) Gr kr Lx_l_3 x_l) (h_fails : C_fails call) (h_cnum : C_cnum call) (hN : 90000 < N) {r : List Nat × Nat × Nat × Nat × Nat × Nat × Nat × List Nat × Int} (hp : labels_p cb cn ce x_op x_a x_b x_n x_l x_t = some r) (S : Eng.Sep (Cel b (wcb_1 :: (vi cn) :: (vi ce) :: rest) :: Cel b_x [(vi x_op), (vw x_a), (vw x_b), (vq x_n), wx_l_1, (AV.int .i64 x_t)] :: OwnO 1 wx_l_1 x_l.length Lx_l_3 :: Frz Gr kr :: Frz G h0 :: R) h) :
    ∃ rv rh, evF1 (progS Try.prog (compDrawn Try.prog)) N call 79 [(AV.ptr b 0), (AV.ptr b_x 0)] h = .ok rv rh ∧ (fun (rv : AV) (rh : Hp) => ∃ wk1 : AV, ∃ wk6 : AV, ∃ Lk8 : List AV, ∃ Gk : Nat → Prop, ∃ kk : Hp, rv = (AV.tuple []) ∧ (BIn G h0 wk1 r.1) ∧ (r.2.2.2.2.1 < 4294967296) ∧ (r.2.2.2.2.2.1 < 4294967296) ∧ (r.2.2.2.2.2.2.1 < 18446744073709551616) ∧ (Eng.Rows (rU .u32) Gk kk Lk8 r.2.2.2.2.2.2.2.1) ∧ (Up Gr kr Gk kk) ∧ Eng.Sep (Cel b (wk1 :: (vi r.2.1) :: (vi r.2.2.1) :: rest) :: Cel b_x ((vi r.2.2.2.1) :: (vw r.2.2.2.2.1) :: (vw r.2.2.2.2.2.1) :: (vq r.2.2.2.2.2.2.1) :: wk6 :: (AV.int .i64 r.2.2.2.2.2.2.2.2) :: []) :: OwnO 1 wk6 r.2.2.2.2.2.2.2.1.length Lk8 :: Frz Gk kk :: Frz G h0 :: R) rh) rv rh := by
  unfold labels_p at hp
  refine fwalk_ok (K := (fun (rv : AV) (rh : Hp) => ∃ wk1 : AV, ∃ wk6 : AV, ∃ Lk8 : List AV, ∃ Gk : Nat → Prop, ∃ kk : Hp, rv = (AV.tuple []) ∧ (BIn G h0 wk1 r.1) ∧ (r.2.2.2.2.1 < 4294967296) ∧ (r.2.2.2.2.2.1 < 4294967296) ∧ (r.2.2.2.2.2.2.1 < 18446744073709551616) ∧ (Eng.Rows (rU .u32) Gk kk Lk8 r.2.2.2.2.2.2.2.1) ∧ (Up Gr kr Gk kk) ∧ Eng.Sep (Cel b (wk1 :: (vi r.2.1) :: (vi r.2.2.1) :: rest) :: Cel b_x ((vi r.2.2.2.1) :: (vw r.2.2.2.2.1) :: (vw r.2.2.2.2.2.1) :: (vq r.2.2.2.2.2.2.1) :: wk6 :: (AV.int .i64 r.2.2.2.2.2.2.2.2) :: []) :: OwnO 1 wk6 r.2.2.2.2.2.2.2.1.length Lk8 :: Frz Gk kk :: Frz G h0 :: R) rh)) (o := (.exi 3 fun (x3 : List Nat × Nat × Nat × Nat) => (.exi 0 fun (w13 : AV) => (.exi 0 fun (h9 : Hp) => (.eff 0 (vw x3.2.2.2) h9 (.exi 6 fun (x17 : List Nat × Nat × Nat) => (.exi 0 fun (w26 : AV) => (.exi 0 fun (h22 : Hp) => (.eff 0 (AV.tuple []) h22 (.exi 0 fun (A4o35 : Nat) => (.exi 0 fun (Q1_0o35 : List Nat) => (.exi 0 fun (Q1_1o35 : Nat) => (.exi 0 fun (Q1_2o35 : Nat) => (.exi 0 fun (Q11_0o35 : Nat) => (.exi 0 fun (Q11_1o35 : Nat) => (.exi 0 fun (Q11_2o35 : Nat) => (.exi 0 fun (Q11_3o35 : Nat) => (.exi 0 fun (Q11_4o35 : List Nat) => (.exi 0 fun (Q11_5o35 : Int) => (.exi 0 fun (wQ1_0_1o35 : AV) => (.exi 0 fun (wQ11_4o35 : AV) => (.exi 0 fun (t38 : T) => (.exi 0 fun (h39 : Hp) => (.lp 0 (.exit 0 (ovT [(0, (AV.ptr b 0)), (1, (AV.ptr b_x 0)), (4, (vw A4o35))] t38) h39) (.exi 4 fun (x45 : List Nat × Nat × Nat × Nat) => (.exi 0 fun (w55 : AV) => (.exi 0 fun (h51 : Hp) => (.eff 0 (vw x45.2.2.2) h51 (.effx 2 (fun e59 => (AV.tuple [])) (fun e59 => .fin)))))))))))))))))))))))))))))) (p := (fun (KK : AV → Hp → Prop) => (∃ x3 : List Nat × Nat × Nat × Nat, ∃ w13 : AV, ∃ h9 : Hp, (call 71 [(AV.ptr b 0)] h = .ok (vw x3.2.2.2) h9 ∧ (∃ x17 : List Nat × Nat × Nat, ∃ w26 : AV, ∃ h22 : Hp, (call 47 [(AV.ptr b 0), (AV.bool (ltI (Int.ofNat 600) (Int.ofNat x3.2.2.2))), (vi 4)] h9 = .ok (AV.tuple []) h22 ∧ (∃ A4o35 : Nat, ∃ Q1_0o35 : List Nat, ∃ Q1_1o35 : Nat, ∃ Q1_2o35 : Nat, ∃ Q11_0o35 : Nat, ∃ Q11_1o35 : Nat, ∃ Q11_2o35 : Nat, ∃ Q11_3o35 : Nat, ∃ Q11_4o35 : List Nat, ∃ Q11_5o35 : Int, ∃ wQ1_0_1o35 : AV, ∃ wQ11_4o35 : AV, ∃ t38 : T, ∃ h39 : Hp, (evC call N (.loop labels_l1C) (ovT [(0, (AV.ptr b 0)), (1, (AV.ptr b_x 0)), (4, (vw x3.2.2.2)), (5, (AV.ptr b 0)), (6, (AV.ptr b 0)), (7, (AV.ptr b 0)), (8, (vw x3.2.2.2)), (9, (AV.ptr b 0)), (10, (AV.ptr b 0)), (11, (AV.ptr b 0)), (12, (vw x3.2.2.2)), (13, (AV.bool (ltI (Int.ofNat 600) (Int.ofNat x3.2.2.2)))), (14, (AV.tuple []))] .lf) h22 = (.exit 0 (ovT [(0, (AV.ptr b 0)), (1, (AV.ptr b_x 0)), (4, (vw A4o35))] t38) h39) ∧ True ∧ (∃ x45 : List Nat × Nat × Nat × Nat, ∃ w55 : AV, ∃ h51 : Hp, (call 71 [(AV.ptr b 0)] h39 = .ok (vw x45.2.2.2) h51 ∧ (∃ e59 : Ev, evE (.store 1 (.const (AV.ptr b_x 1)) (.const (vw x45.2.2.2))) call .lf h51 = .ok (AV.tuple []) e59.h ∧ KK (AV.tuple []) e59.h)))))))))) (fun (rv : AV) (rh : Hp) => ∃ wk1 : AV, ∃ wk6 : AV, ∃ Lk8 : List AV, ∃ Gk : Nat → Prop, ∃ kk : Hp, rv = (AV.tuple []) ∧ (BIn G h0 wk1 r.1) ∧ (r.2.2.2.2.1 < 4294967296) ∧ (r.2.2.2.2.2.1 < 4294967296) ∧ (r.2.2.2.2.2.2.1 < 18446744073709551616) ∧ (Eng.Rows (rU .u32) Gk kk Lk8 r.2.2.2.2.2.2.2.1) ∧ (Up Gr kr Gk kk) ∧ Eng.Sep (Cel b (wk1 :: (vi r.2.1) :: (vi r.2.2.1) :: rest) :: Cel b_x ((vi r.2.2.2.1) :: (vw r.2.2.2.2.1) :: (vw r.2.2.2.2.2.1) :: (vq r.2.2.2.2.2.2.1) :: wk6 :: (AV.int .i64 r.2.2.2.2.2.2.2.2) :: []) :: OwnO 1 wk6 r.2.2.2.2.2.2.2.1.length Lk8 :: Frz Gk kk :: Frz G h0 :: R) rh)) (by kernel_rfl) ?_
  have S1 := S.front 4 rfl
  have S2 := S1.front 1 rfl
  have ⟨x3, hb4, hp⟩ := ob_inv hp
  obtain ⟨v8, h9, q10, w13, e11, f7, f14, S12⟩ := h_cnum fcb_2 hb4 S2
  replace e11 := e11.symm
  subst e11
  refine ⟨x3, w13, h9, q10, ?_⟩
  have ⟨x17, hb18, hp⟩ := ob_inv hp
  obtain ⟨v21, h22, q23, w26, e24, f27, S25⟩ := h_fails f14 hb18 S12
  replace e24 := e24.symm
  subst e24
  refine ⟨x17, w26, h22, q23, ?_⟩
  have S30 := S25.front 1 rfl
  have S31 := S30.front 4 rfl
  have S32 := S31.front 4 rfl
  have S33 := S32.front 4 rfl
  have S34 := S33.front 4 rfl
  have ⟨o35, hb36, hp⟩ := ob_inv hp
  rcases labels_l1_t  h_fails h_cnum (o := o35) (n := 90000) (A4 := x3.2.2.2) (Q1_0 := x17.1) (Q1_1 := x17.2.1) (Q1_2 := x17.2.2) (Q11_0 := x_op) (Q11_1 := x_a) (Q11_2 := x_b) (Q11_3 := x_n) (Q11_4 := x_l) (Q11_5 := x_t) (wQ1_0_1 := w26) (wQ11_4 := wx_l_1) (LQ11_4 := Lx_l_3) (G_3 := Gr) (k_3 := kr) ⟨hb36, f7, f27, fx_a_1, fx_b_1, fx_n_1, fx_l_2, (Up.refl _ _), S34⟩ hN hN (t := (ovT [(0, (AV.ptr b 0)), (1, (AV.ptr b_x 0)), (4, (vw x3.2.2.2)), (5, (AV.ptr b 0)), (6, (AV.ptr b 0)), (7, (AV.ptr b 0)), (8, (vw x3.2.2.2)), (9, (AV.ptr b 0)), (10, (AV.ptr b 0)), (11, (AV.ptr b 0)), (12, (vw x3.2.2.2)), (13, (AV.bool (ltI (Int.ofNat 600) (Int.ofNat x3.2.2.2)))), (14, (AV.tuple []))] .lf)) (show slots [0, 1, 4] _ = [some (AV.ptr b 0), some (AV.ptr b_x 0), some (vw x3.2.2.2)] by kernel_rfl) with ⟨io35, ⟨_, A4o35, Q1_0o35, Q1_1o35, Q1_2o35, Q11_0o35, Q11_1o35, Q11_2o35, Q11_3o35, Q11_4o35, Q11_5o35, wQ1_0_1o35, wQ11_4o35, LQ11_4o35, G_3o35, k_3o35⟩, t38, h39, qo35, wo35, zo35⟩ | ⟨_, _, _, zo35⟩
  rotate_left
  · exact zo35.elim
  obtain ⟨jo35, zo35⟩ := zo35
  subst jo35
  replace zo35 := zo35 rfl
  obtain ⟨uo35, fA4_1o35, fQ1_0_2o35, fQ11_1_1o35, fQ11_2_1o35, fQ11_3_1o35, fQ11_4o35, fU_3o35, So35⟩ := zo35
  replace uo35 := uo35.symm
  subst uo35
  try dsimp only at hp
  refine ⟨A4o35, Q1_0o35, Q1_1o35, Q1_2o35, Q11_0o35, Q11_1o35, Q11_2o35, Q11_3o35, Q11_4o35, Q11_5o35, wQ1_0_1o35, wQ11_4o35, t38, h39, (qo35.trans (congrArg (fun t => RS.exit 0 t h39) (ovT_eq wo35).symm)), trivial, ?_⟩
  have S43 := So35.front 4 rfl
  have S44 := S43.front 1 rfl
  have ⟨x45, hb46, hp⟩ := ob_inv hp
  obtain ⟨v50, h51, q52, w55, e53, f49, f56, S54⟩ := h_cnum fQ1_0_2o35 hb46 S44
  replace e53 := e53.symm
  subst e53
  refine ⟨x45, w55, h51, q52, ?_⟩
  obtain ⟨e59, qe59, se59⟩ := cel_store call S54 (i := 2) (o := 1) (x := (vw x45.2.2.2)) rfl (lb rfl) rfl
  refine ⟨e59, qe59, ?_⟩
  have S61 := se59.front 1 rfl
  have S62 := S61.front 4 rfl
  have S63 := S62.front 4 rfl
  have S64 := S63.front 4 rfl
  have S65 := S64.front 4 rfl
  obtain rfl := Option.some.inj hp
  exact ⟨w55, wQ11_4o35, LQ11_4o35, G_3o35, k_3o35, rfl, f56, f49, fQ11_2_1o35, fQ11_3_1o35, fQ11_4o35, (Up.trans (Up.refl _ _) fU_3o35), S65⟩
def C_labels (call : CallT) : Prop := ∀ {h : Hp} {h0 : Hp} {G : Nat → Prop} {R : List AObj} {Gr : Nat → Prop} {kr : Hp} {b : Nat} {b_x : Nat} {rest : List AV} {wcb_1 : AV} {wx_l_1 : AV} {Lx_l_3 : List AV} {cb : List Nat} {cn : Nat} {ce : Nat} {x_op : Nat} {x_a : Nat} {x_b : Nat} {x_n : Nat} {x_l : List Nat} {x_t : Int} (fcb_2 : BIn G h0 wcb_1 cb) (fx_a_1 : x_a < 4294967296) (fx_b_1 : x_b < 4294967296) (fx_n_1 : x_n < 18446744073709551616) (fx_l_2 : Eng.Rows (rU .u32) Gr kr Lx_l_3 x_l) {r : List Nat × Nat × Nat × Nat × Nat × Nat × Nat × List Nat × Int}, labels_p cb cn ce x_op x_a x_b x_n x_l x_t = some r → Eng.Sep (Cel b (wcb_1 :: (vi cn) :: (vi ce) :: rest) :: Cel b_x [(vi x_op), (vw x_a), (vw x_b), (vq x_n), wx_l_1, (AV.int .i64 x_t)] :: OwnO 1 wx_l_1 x_l.length Lx_l_3 :: Frz Gr kr :: Frz G h0 :: R) h → ∃ rv rh, call 79 [(AV.ptr b 0), (AV.ptr b_x 0)] h = .ok rv rh ∧ ∃ wk1 : AV, ∃ wk6 : AV, ∃ Lk8 : List AV, ∃ Gk : Nat → Prop, ∃ kk : Hp, rv = (AV.tuple []) ∧ (BIn G h0 wk1 r.1) ∧ (r.2.2.2.2.1 < 4294967296) ∧ (r.2.2.2.2.2.1 < 4294967296) ∧ (r.2.2.2.2.2.2.1 < 18446744073709551616) ∧ (Eng.Rows (rU .u32) Gk kk Lk8 r.2.2.2.2.2.2.2.1) ∧ (Up Gr kr Gk kk) ∧ Eng.Sep (Cel b (wk1 :: (vi r.2.1) :: (vi r.2.2.1) :: rest) :: Cel b_x ((vi r.2.2.2.1) :: (vw r.2.2.2.2.1) :: (vw r.2.2.2.2.2.1) :: (vq r.2.2.2.2.2.2.1) :: wk6 :: (AV.int .i64 r.2.2.2.2.2.2.2.2) :: []) :: OwnO 1 wk6 r.2.2.2.2.2.2.2.1.length Lk8 :: Frz Gk kk :: Frz G h0 :: R) rh
theorem s_labels (d : Nat) : C_labels (CC (d + 5)) := by
  intro h h0 G R Gr kr b b_x rest wcb_1 wx_l_1 Lx_l_3 cb cn ce x_op x_a x_b x_n x_l x_t fcb_2 fx_a_1 fx_b_1 fx_n_1 fx_l_2 r hp S
  rw [CC, evF_at (sumT_none rfl)]
  exact labels_w (call := CC (d + 4)) (N := 100000) fcb_2 fx_a_1 fx_b_1 fx_n_1 fx_l_2 (s_fails (d + 3)) (s_cnum (d + 0)) (by decide) hp S
noncomputable def opens_p (cb : List Nat) (cn : Nat) (ce : Nat) (rl : List (Nat × Nat × Nat × Nat × List Nat × Int)) (ro : List Bool) (x : Nat) : Option (List Nat × Nat × Nat × List (Nat × Nat × Nat × Nat × List Nat × Int) × List Bool) :=
  (ob (fails_p cb cn ce (notB (ltI (Int.ofNat ro.length) (Int.ofNat 32))) 4) fun x3 =>
    (gd ((ro.length + 1) * 1 ≤ 70368744177664) (some (x3.1, x3.2.1, x3.2.2, rl, ro ++ [(eqI (Int.ofNat x) (Int.ofNat 4))]))))
theorem opens_w {call : CallT} {N : Nat} {h : Hp} {h0 : Hp} {G : Nat → Prop} {R : List AObj} {Gr : Nat → Prop} {kr : Hp} {b : Nat} {wcb_1 : AV} {wrl_1 : AV} {Lrl_3 : List AV} {wro_1 : AV} {Lro_3 : List AV} {cb : List Nat} {cn : Nat} {ce : Nat} {rl : List (Nat × Nat × Nat × Nat × List Nat × Int)} {ro : List Bool} {x : Nat} (fcb_2 : BIn G h0 wcb_1 cb) (frl_2 : Eng.Rows (rP (rN0 .i64) (rP (rU .u32) (rP (rU .u32) (rP (rU .u64) (rP (rL (rU .u32)) (rZ .i64)))))) Gr kr Lrl_3 rl) (fro_2 : Eng.Rows rB Gr kr Lro_3 ro) (h_fails : C_fails call) {r : List Nat × Nat × Nat × List (Nat × Nat × Nat × Nat × List Nat × Int) × List Bool} (hp : opens_p cb cn ce rl ro x = some r) (S : Eng.Sep (Cel b [wcb_1, (vi cn), (vi ce), wrl_1, wro_1] :: OwnO 6 wrl_1 rl.length Lrl_3 :: OwnO 1 wro_1 ro.length Lro_3 :: Frz Gr kr :: Frz G h0 :: R) h) :
    ∃ rv rh, evF1 (progS Try.prog (compDrawn Try.prog)) N call 78 [(AV.ptr b 0), (vi x)] h = .ok rv rh ∧ (fun (rv : AV) (rh : Hp) => ∃ wk1 : AV, ∃ wk3 : AV, ∃ wk6 : AV, ∃ Lk5 : List AV, ∃ Lk8 : List AV, ∃ Gk : Nat → Prop, ∃ kk : Hp, rv = (AV.tuple []) ∧ (BIn G h0 wk1 r.1) ∧ (Eng.Rows (rP (rN0 .i64) (rP (rU .u32) (rP (rU .u32) (rP (rU .u64) (rP (rL (rU .u32)) (rZ .i64)))))) Gk kk Lk5 r.2.2.2.1) ∧ (Eng.Rows rB Gk kk Lk8 r.2.2.2.2) ∧ (Up Gr kr Gk kk) ∧ Eng.Sep (Cel b (wk1 :: (vi r.2.1) :: (vi r.2.2.1) :: wk3 :: wk6 :: []) :: OwnO 6 wk3 r.2.2.2.1.length Lk5 :: OwnO 1 wk6 r.2.2.2.2.length Lk8 :: Frz Gk kk :: Frz G h0 :: R) rh) rv rh := by
  unfold opens_p at hp
  refine fwalk_ok (K := (fun (rv : AV) (rh : Hp) => ∃ wk1 : AV, ∃ wk3 : AV, ∃ wk6 : AV, ∃ Lk5 : List AV, ∃ Lk8 : List AV, ∃ Gk : Nat → Prop, ∃ kk : Hp, rv = (AV.tuple []) ∧ (BIn G h0 wk1 r.1) ∧ (Eng.Rows (rP (rN0 .i64) (rP (rU .u32) (rP (rU .u32) (rP (rU .u64) (rP (rL (rU .u32)) (rZ .i64)))))) Gk kk Lk5 r.2.2.2.1) ∧ (Eng.Rows rB Gk kk Lk8 r.2.2.2.2) ∧ (Up Gr kr Gk kk) ∧ Eng.Sep (Cel b (wk1 :: (vi r.2.1) :: (vi r.2.2.1) :: wk3 :: wk6 :: []) :: OwnO 6 wk3 r.2.2.2.1.length Lk5 :: OwnO 1 wk6 r.2.2.2.2.length Lk8 :: Frz Gk kk :: Frz G h0 :: R) rh)) (o := (.tell 6 wro_1 (.tell 0 (vi ro.length) (.again 1 (.exi 0 fun (x3 : List Nat × Nat × Nat) => (.exi 0 fun (w12 : AV) => (.exi 0 fun (h8 : Hp) => (.eff 0 (AV.tuple []) h8 (.tell 5 wro_1 (.effx 3 (fun e17 => e17.v) (fun e17 => (.effx 2 (fun e23 => (AV.tuple [])) (fun e23 => .fin))))))))))))) (p := (fun (KK : AV → Hp → Prop) => ((evQ (.loadS (.const (AV.ptr b 4))) .lf h = .ok wro_1 ∧ ((evQ (.lenL (.const wro_1)) .lf H0 = .ok (vi ro.length) ∧ ((again (.bin .geq (.const (vi ro.length)) (.const (vi 32))) .lf (AV.bool (notB (ltI (Int.ofNat ro.length) (Int.ofNat 32)))) h = true ∧ again (.lenL (.const wro_1)) .lf (vi ro.length) h = true ∧ again (.loadS (.const (AV.ptr b 4))) .lf wro_1 h = true ∧ again (.fieldAddr 4 (.const (AV.ptr b 0))) .lf (AV.ptr b 4) h = true ∧ again (.nilCheck (.const (AV.ptr b 0))) .lf (AV.ptr b 0) h = true ∧ again (.move (.const (AV.ptr b 0))) .lf (AV.ptr b 0) h = true ∧ again (.fieldAddr 0 (.const (AV.ptr b 0))) .lf (AV.ptr b 0) h = true ∧ again (.nilCheck (.const (AV.ptr b 0))) .lf (AV.ptr b 0) h = true ∧ again (.move (.const (AV.ptr b 0))) .lf (AV.ptr b 0) h = true ∧ True) ∧ (∃ x3 : List Nat × Nat × Nat, ∃ w12 : AV, ∃ h8 : Hp, (call 47 [(AV.ptr b 0), (AV.bool (notB (ltI (Int.ofNat ro.length) (Int.ofNat 32)))), (vi 4)] h = .ok (AV.tuple []) h8 ∧ ((evQ (.loadS (.const (AV.ptr b 4))) .lf h8 = .ok wro_1 ∧ (∃ e17 : Ev, evE (.append 1 1 (.const wro_1) (.const (AV.slice (Hp.next h8) 0 1 1 1 true))) call .lf (hpush h8 (mkCells [(AV.bool (eqI (Int.ofNat x) (Int.ofNat 4)))] 1)) = .ok e17.v e17.h ∧ (∃ e23 : Ev, evE (.store 1 (.const (AV.ptr b 4)) (.const e17.v)) call .lf e17.h = .ok (AV.tuple []) e23.h ∧ KK (AV.tuple []) e23.h)))))))))))) (fun (rv : AV) (rh : Hp) => ∃ wk1 : AV, ∃ wk3 : AV, ∃ wk6 : AV, ∃ Lk5 : List AV, ∃ Lk8 : List AV, ∃ Gk : Nat → Prop, ∃ kk : Hp, rv = (AV.tuple []) ∧ (BIn G h0 wk1 r.1) ∧ (Eng.Rows (rP (rN0 .i64) (rP (rU .u32) (rP (rU .u32) (rP (rU .u64) (rP (rL (rU .u32)) (rZ .i64)))))) Gk kk Lk5 r.2.2.2.1) ∧ (Eng.Rows rB Gk kk Lk8 r.2.2.2.2) ∧ (Up Gr kr Gk kk) ∧ Eng.Sep (Cel b (wk1 :: (vi r.2.1) :: (vi r.2.2.1) :: wk3 :: wk6 :: []) :: OwnO 6 wk3 r.2.2.2.1.length Lk5 :: OwnO 1 wk6 r.2.2.2.2.length Lk8 :: Frz Gk kk :: Frz G h0 :: R) rh)) (by kernel_rfl) ?_
  refine ⟨cel_load S (i := 0) rfl rfl, ?_⟩
  refine ⟨own_len S (i := 2) rfl, ?_⟩
  refine ⟨⟨again_of (rfl) (avEq_bool _), again_of (own_len S (i := 2) rfl) (avEq_int _ _), again_of (cel_load S (i := 0) rfl rfl) (own_same S (i := 2) rfl), again_of (rfl) (avEq_ptr _ _), again_of (rfl) (avEq_ptr _ _), again_of (rfl) (avEq_ptr _ _), again_of (rfl) (avEq_ptr _ _), again_of (rfl) (avEq_ptr _ _), again_of (rfl) (avEq_ptr _ _), trivial⟩, ?_⟩
  have S1 := S.front 4 rfl
  have S2 := S1.front 1 rfl
  have ⟨x3, hb4, hp⟩ := ob_inv hp
  obtain ⟨v7, h8, q9, w12, e10, f13, S11⟩ := h_fails fcb_2 hb4 S2
  replace e10 := e10.symm
  subst e10
  refine ⟨x3, w12, h8, q9, ?_⟩
  refine ⟨cel_load S11 (i := 0) rfl rfl, ?_⟩
  have S16 := own_new S11 1 1 [(AV.bool (eqI (Int.ofNat x) (Int.ofNat 4)))] true rfl
  have ⟨g18, hp⟩ := gd_inv hp
  obtain ⟨e17, qe17, se17⟩ := own_append (bytes := 1) call S16 (i := 4) rfl (x := (AV.slice (Hp.next h8) 0 1 1 1 true)) (m := 1) (xs := [(AV.bool (eqI (Int.ofNat x) (Int.ofNat 4)))]) (fun z k => own_src S16 (i := 0) rfl z k) (own_L S16 (i := 0) rfl) (all_cell rfl all_cell0) g18 (by omega)
  obtain ⟨L19, rL19, eL19⟩ : ∃ L, Eng.Rows rB Gr kr L (ro ++ [(eqI (Int.ofNat x) (Int.ofNat 4))]) ∧ Lro_3 ++ [(AV.bool (eqI (Int.ofNat x) (Int.ofNat 4)))] = L := ⟨_, (Rows.snoc fro_2 (a := rB) (x := (eqI (Int.ofNat x) (Int.ofNat 4))) rfl), rfl⟩
  have S21 : Sep (OwnO 1 (AV.slice (Hp.next h8) 0 1 1 1 true) 1 [(AV.bool (eqI (Int.ofNat x) (Int.ofNat 4)))] :: Cel b [w12, (vi x3.2.1), (vi x3.2.2), wrl_1, wro_1] :: Frz G h0 :: OwnO 6 wrl_1 rl.length Lrl_3 :: OwnO 1 e17.v ((ro ++ [(eqI (Int.ofNat x) (Int.ofNat 4))]).length) L19 :: Frz Gr kr :: R) e17.h := (by have z := se17; rw [eL19, show ro.length + 1 = (ro ++ [(eqI (Int.ofNat x) (Int.ofNat 4))]).length from by simp] at z; exact z)
  have S22 := S21.tail
  refine ⟨e17, qe17, ?_⟩
  obtain ⟨e23, qe23, se23⟩ := cel_store call S22 (i := 0) (o := 4) (x := e17.v) rfl (lb rfl) (own_cell S22 (i := 3) rfl)
  refine ⟨e23, qe23, ?_⟩
  have S25 := se23.front 1 rfl
  have S26 := S25.front 4 rfl
  have S27 := S26.front 4 rfl
  have S28 := S27.front 4 rfl
  have S29 := S28.front 4 rfl
  obtain rfl := Option.some.inj hp
  exact ⟨w12, wrl_1, e17.v, Lrl_3, L19, Gr, kr, rfl, f13, frl_2, rL19, (Up.refl _ _), S29⟩
def C_opens (call : CallT) : Prop := ∀ {h : Hp} {h0 : Hp} {G : Nat → Prop} {R : List AObj} {Gr : Nat → Prop} {kr : Hp} {b : Nat} {wcb_1 : AV} {wrl_1 : AV} {Lrl_3 : List AV} {wro_1 : AV} {Lro_3 : List AV} {cb : List Nat} {cn : Nat} {ce : Nat} {rl : List (Nat × Nat × Nat × Nat × List Nat × Int)} {ro : List Bool} {x : Nat} (fcb_2 : BIn G h0 wcb_1 cb) (frl_2 : Eng.Rows (rP (rN0 .i64) (rP (rU .u32) (rP (rU .u32) (rP (rU .u64) (rP (rL (rU .u32)) (rZ .i64)))))) Gr kr Lrl_3 rl) (fro_2 : Eng.Rows rB Gr kr Lro_3 ro) {r : List Nat × Nat × Nat × List (Nat × Nat × Nat × Nat × List Nat × Int) × List Bool}, opens_p cb cn ce rl ro x = some r → Eng.Sep (Cel b [wcb_1, (vi cn), (vi ce), wrl_1, wro_1] :: OwnO 6 wrl_1 rl.length Lrl_3 :: OwnO 1 wro_1 ro.length Lro_3 :: Frz Gr kr :: Frz G h0 :: R) h → ∃ rv rh, call 78 [(AV.ptr b 0), (vi x)] h = .ok rv rh ∧ ∃ wk1 : AV, ∃ wk3 : AV, ∃ wk6 : AV, ∃ Lk5 : List AV, ∃ Lk8 : List AV, ∃ Gk : Nat → Prop, ∃ kk : Hp, rv = (AV.tuple []) ∧ (BIn G h0 wk1 r.1) ∧ (Eng.Rows (rP (rN0 .i64) (rP (rU .u32) (rP (rU .u32) (rP (rU .u64) (rP (rL (rU .u32)) (rZ .i64)))))) Gk kk Lk5 r.2.2.2.1) ∧ (Eng.Rows rB Gk kk Lk8 r.2.2.2.2) ∧ (Up Gr kr Gk kk) ∧ Eng.Sep (Cel b (wk1 :: (vi r.2.1) :: (vi r.2.2.1) :: wk3 :: wk6 :: []) :: OwnO 6 wk3 r.2.2.2.1.length Lk5 :: OwnO 1 wk6 r.2.2.2.2.length Lk8 :: Frz Gk kk :: Frz G h0 :: R) rh
theorem s_opens (d : Nat) : C_opens (CC (d + 2)) := by
  intro h h0 G R Gr kr b wcb_1 wrl_1 Lrl_3 wro_1 Lro_3 cb cn ce rl ro x fcb_2 frl_2 fro_2 r hp S
  rw [CC, evF_at (sumT_none rfl)]
  exact opens_w (call := CC (d + 1)) (N := 100000) fcb_2 frl_2 fro_2 (s_fails (d + 0)) hp S
noncomputable def closes_p (cb : List Nat) (cn : Nat) (ce : Nat) (rl : List (Nat × Nat × Nat × Nat × List Nat × Int)) (ro : List Bool) (x : Nat) : Option (List Nat × Nat × Nat × List (Nat × Nat × Nat × Nat × List Nat × Int) × List Bool × Bool) :=
  (gd (ro.length < 9223372036854775808) (if 1 ≤ ro.length then (if x = 5 then (if ro.length - 1 < 0 then (ob (fails_p cb cn ce true 2) fun x7 =>
    (some (x7.1, x7.2.1, x7.2.2, rl, ro, false))) else
    (gd (ro.length - 1 < ro.length) (if (ro.getD (ro.length - 1) default) = false then (ob (fails_p cb cn ce true 2) fun x9 =>
    (some (x9.1, x9.2.1, x9.2.2, rl, ro, false))) else
    (some (cb, cn, ce, rl, ro.set (ro.length - 1) false, false))))) else
    (if x = 11 then (if 0 ≤ ro.length - 1 then (gd (ro.length - 1 ≤ ro.length) (some (cb, cn, ce, rl, ro.take (ro.length - 1), false))) else
    (some (cb, cn, ce, rl, ro, true))) else
    (some (cb, cn, ce, rl, ro, false)))) else
    (if x = 5 then (ob (fails_p cb cn ce true 2) fun x6 =>
    (some (x6.1, x6.2.1, x6.2.2, rl, ro, false))) else
    (if x = 11 then (some (cb, cn, ce, rl, ro, true)) else
    (some (cb, cn, ce, rl, ro, false))))))
theorem closes_w {call : CallT} {N : Nat} {h : Hp} {h0 : Hp} {G : Nat → Prop} {R : List AObj} {Gr : Nat → Prop} {kr : Hp} {b : Nat} {wcb_1 : AV} {wrl_1 : AV} {Lrl_3 : List AV} {wro_1 : AV} {Lro_3 : List AV} {cb : List Nat} {cn : Nat} {ce : Nat} {rl : List (Nat × Nat × Nat × Nat × List Nat × Int)} {ro : List Bool} {x : Nat} (fcb_2 : BIn G h0 wcb_1 cb) (frl_2 : Eng.Rows (rP (rN0 .i64) (rP (rU .u32) (rP (rU .u32) (rP (rU .u64) (rP (rL (rU .u32)) (rZ .i64)))))) Gr kr Lrl_3 rl) (fro_2 : Eng.Rows rB Gr kr Lro_3 ro) (h_fails : C_fails call) {r : List Nat × Nat × Nat × List (Nat × Nat × Nat × Nat × List Nat × Int) × List Bool × Bool} (hp : closes_p cb cn ce rl ro x = some r) (S : Eng.Sep (Cel b [wcb_1, (vi cn), (vi ce), wrl_1, wro_1] :: OwnO 6 wrl_1 rl.length Lrl_3 :: OwnO 1 wro_1 ro.length Lro_3 :: Frz Gr kr :: Frz G h0 :: R) h) :
    ∃ rv rh, evF1 (progS Try.prog (compDrawn Try.prog)) N call 51 [(AV.ptr b 0), (vi x)] h = .ok rv rh ∧ (fun (rv : AV) (rh : Hp) => ∃ wk1 : AV, ∃ wk3 : AV, ∃ wk6 : AV, ∃ Lk5 : List AV, ∃ Lk8 : List AV, ∃ Gk : Nat → Prop, ∃ kk : Hp, rv = (AV.bool r.2.2.2.2.2) ∧ (BIn G h0 wk1 r.1) ∧ (Eng.Rows (rP (rN0 .i64) (rP (rU .u32) (rP (rU .u32) (rP (rU .u64) (rP (rL (rU .u32)) (rZ .i64)))))) Gk kk Lk5 r.2.2.2.1) ∧ (Eng.Rows rB Gk kk Lk8 r.2.2.2.2.1) ∧ (Up Gr kr Gk kk) ∧ Eng.Sep (Cel b (wk1 :: (vi r.2.1) :: (vi r.2.2.1) :: wk3 :: wk6 :: []) :: OwnO 6 wk3 r.2.2.2.1.length Lk5 :: OwnO 1 wk6 r.2.2.2.2.1.length Lk8 :: Frz Gk kk :: Frz G h0 :: R) rh) rv rh := by
  unfold closes_p at hp
  refine fwalk_ok (K := (fun (rv : AV) (rh : Hp) => ∃ wk1 : AV, ∃ wk3 : AV, ∃ wk6 : AV, ∃ Lk5 : List AV, ∃ Lk8 : List AV, ∃ Gk : Nat → Prop, ∃ kk : Hp, rv = (AV.bool r.2.2.2.2.2) ∧ (BIn G h0 wk1 r.1) ∧ (Eng.Rows (rP (rN0 .i64) (rP (rU .u32) (rP (rU .u32) (rP (rU .u64) (rP (rL (rU .u32)) (rZ .i64)))))) Gk kk Lk5 r.2.2.2.1) ∧ (Eng.Rows rB Gk kk Lk8 r.2.2.2.2.1) ∧ (Up Gr kr Gk kk) ∧ Eng.Sep (Cel b (wk1 :: (vi r.2.1) :: (vi r.2.2.1) :: wk3 :: wk6 :: []) :: OwnO 6 wk3 r.2.2.2.1.length Lk5 :: OwnO 1 wk6 r.2.2.2.2.1.length Lk8 :: Frz Gk kk :: Frz G h0 :: R) rh)) (o := (.tell 4 wro_1 (.tell 0 (vi ro.length) (.dis 0 (.tell 0 (vi (ro.length - 1)) (.fork 3 (.fork 2 (.exi 6 fun (x7 : List Nat × Nat × Nat) => (.exi 0 fun (w16 : AV) => (.exi 0 fun (h12 : Hp) => (.eff 0 (AV.tuple []) h12 .fin)))) (.tell 3 wro_1 (.tell 1 (elemP wro_1 (ro.length - 1) 1) (.tell 0 (AV.bool (ro.getD (ro.length - 1) default)) (.fork 3 (.exi 3 fun (x9 : List Nat × Nat × Nat) => (.exi 0 fun (w18 : AV) => (.exi 0 fun (h14 : Hp) => (.eff 0 (AV.tuple []) h14 .fin)))) (.tell 2 (AV.bool true) (.tell 3 wro_1 (.tell 1 (elemP wro_1 (ro.length - 1) 1) (.effx 0 (fun e7 => (AV.tuple [])) (fun e7 => .fin)))))))))) (.tell 4 (AV.bool false) (.fork 2 (.fork 3 (.tell 4 wro_1 (.tell 1 (partS wro_1 0 (ro.length - 1)) (.effx 2 (fun e10 => (AV.tuple [])) (fun e10 => .fin)))) (.tell 2 (AV.bool true) .fin)) (.tell 4 (AV.bool false) .fin))))) (.tell 0 (AV.int .i64 (Int.negSucc 0)) (.fork 3 (.exi 9 fun (x6 : List Nat × Nat × Nat) => (.exi 0 fun (w15 : AV) => (.exi 0 fun (h11 : Hp) => (.eff 0 (AV.tuple []) h11 .fin)))) (.tell 4 (AV.bool false) (.fork 2 (.tell 6 (AV.bool true) .fin) (.tell 4 (AV.bool false) .fin))))))))) (p := (fun (KK : AV → Hp → Prop) => ((evQ (.loadS (.const (AV.ptr b 4))) .lf h = .ok wro_1 ∧ ((evQ (.lenL (.const wro_1)) .lf H0 = .ok (vi ro.length) ∧ ((evQ (.bin .sub (.const (vi ro.length)) (.const (vi 1))) .lf H0 = .ok (vi (ro.length - 1)) ∧ ((eqI (Int.ofNat x) (Int.ofNat 5) = true → ((ltI (Int.ofNat (ro.length - 1)) (Int.ofNat 0) = true → (∃ x7 : List Nat × Nat × Nat, ∃ w16 : AV, ∃ h12 : Hp, (call 47 [(AV.ptr b 0), (AV.bool true), (vi 2)] h = .ok (AV.tuple []) h12 ∧ KK (AV.bool false) h12))) ∧ (ltI (Int.ofNat (ro.length - 1)) (Int.ofNat 0) = false → ((evQ (.loadS (.const (AV.ptr b 4))) .lf h = .ok wro_1 ∧ ((evQ (.idxAddrSl 1 (.const wro_1) (.const (vi (ro.length - 1)))) .lf H0 = .ok (elemP wro_1 (ro.length - 1) 1) ∧ ((evQ (.loadS (.const (elemP wro_1 (ro.length - 1) 1))) .lf h = .ok (AV.bool (ro.getD (ro.length - 1) default)) ∧ ((notB (ro.getD (ro.length - 1) default) = true → (∃ x9 : List Nat × Nat × Nat, ∃ w18 : AV, ∃ h14 : Hp, (call 47 [(AV.ptr b 0), (AV.bool true), (vi 2)] h = .ok (AV.tuple []) h14 ∧ KK (AV.bool false) h14))) ∧ (notB (ro.getD (ro.length - 1) default) = false → ((evQ (.move (.const (AV.bool (eqI (Int.ofNat x) (Int.ofNat 5))))) .lf H0 = .ok (AV.bool true) ∧ ((evQ (.loadS (.const (AV.ptr b 4))) .lf h = .ok wro_1 ∧ ((evQ (.idxAddrSl 1 (.const wro_1) (.const (vi (ro.length - 1)))) .lf H0 = .ok (elemP wro_1 (ro.length - 1) 1) ∧ (∃ e7 : Ev, evE (.store 1 (.const (elemP wro_1 (ro.length - 1) 1)) (.const (AV.bool false))) call .lf h = .ok (AV.tuple []) e7.h ∧ KK (AV.bool false) e7.h)))))))))))))))))) ∧ (eqI (Int.ofNat x) (Int.ofNat 5) = false → ((evQ (.move (.const (AV.bool (eqI (Int.ofNat x) (Int.ofNat 5))))) .lf H0 = .ok (AV.bool false) ∧ ((eqI (Int.ofNat x) (Int.ofNat 11) = true → ((notB (ltI (Int.ofNat (ro.length - 1)) (Int.ofNat 0)) = true → ((evQ (.loadS (.const (AV.ptr b 4))) .lf h = .ok wro_1 ∧ ((evQ (.sliceSl 1 (.const wro_1) none (some (.const (vi (ro.length - 1)))) none) .lf H0 = .ok (partS wro_1 0 (ro.length - 1)) ∧ (∃ e10 : Ev, evE (.store 1 (.const (AV.ptr b 4)) (.const (partS wro_1 0 (ro.length - 1)))) call .lf h = .ok (AV.tuple []) e10.h ∧ KK (AV.bool false) e10.h)))))) ∧ (notB (ltI (Int.ofNat (ro.length - 1)) (Int.ofNat 0)) = false → ((evQ (.move (.const (AV.bool (eqI (Int.ofNat x) (Int.ofNat 11))))) .lf H0 = .ok (AV.bool true) ∧ KK (AV.bool true) h))))) ∧ (eqI (Int.ofNat x) (Int.ofNat 11) = false → ((evQ (.move (.const (AV.bool (eqI (Int.ofNat x) (Int.ofNat 11))))) .lf H0 = .ok (AV.bool false) ∧ KK (AV.bool false) h))))))))) ∨ (evQ (.bin .sub (.const (vi ro.length)) (.const (vi 1))) .lf H0 = .ok (AV.int .i64 (Int.negSucc 0)) ∧ ((eqI (Int.ofNat x) (Int.ofNat 5) = true → (∃ x6 : List Nat × Nat × Nat, ∃ w15 : AV, ∃ h11 : Hp, (call 47 [(AV.ptr b 0), (AV.bool true), (vi 2)] h = .ok (AV.tuple []) h11 ∧ KK (AV.bool false) h11))) ∧ (eqI (Int.ofNat x) (Int.ofNat 5) = false → ((evQ (.move (.const (AV.bool (eqI (Int.ofNat x) (Int.ofNat 5))))) .lf H0 = .ok (AV.bool false) ∧ ((eqI (Int.ofNat x) (Int.ofNat 11) = true → ((evQ (.move (.const (AV.bool (eqI (Int.ofNat x) (Int.ofNat 11))))) .lf H0 = .ok (AV.bool true) ∧ KK (AV.bool true) h))) ∧ (eqI (Int.ofNat x) (Int.ofNat 11) = false → ((evQ (.move (.const (AV.bool (eqI (Int.ofNat x) (Int.ofNat 11))))) .lf H0 = .ok (AV.bool false) ∧ KK (AV.bool false) h))))))))))))))) (fun (rv : AV) (rh : Hp) => ∃ wk1 : AV, ∃ wk3 : AV, ∃ wk6 : AV, ∃ Lk5 : List AV, ∃ Lk8 : List AV, ∃ Gk : Nat → Prop, ∃ kk : Hp, rv = (AV.bool r.2.2.2.2.2) ∧ (BIn G h0 wk1 r.1) ∧ (Eng.Rows (rP (rN0 .i64) (rP (rU .u32) (rP (rU .u32) (rP (rU .u64) (rP (rL (rU .u32)) (rZ .i64)))))) Gk kk Lk5 r.2.2.2.1) ∧ (Eng.Rows rB Gk kk Lk8 r.2.2.2.2.1) ∧ (Up Gr kr Gk kk) ∧ Eng.Sep (Cel b (wk1 :: (vi r.2.1) :: (vi r.2.2.1) :: wk3 :: wk6 :: []) :: OwnO 6 wk3 r.2.2.2.1.length Lk5 :: OwnO 1 wk6 r.2.2.2.2.1.length Lk8 :: Frz Gk kk :: Frz G h0 :: R) rh)) (by kernel_rfl) ?_
  refine ⟨cel_load S (i := 0) rfl rfl, ?_⟩
  refine ⟨own_len S (i := 2) rfl, ?_⟩
  have ⟨g1, hp⟩ := gd_inv hp
  by_cases c2 : 1 ≤ ro.length
  · replace hp := ift hp c2
    refine Or.inl ⟨q_sub c2 g1, ?_⟩
    refine ⟨fun c3 => ?_, fun c3 => ?_⟩
    · have rc3 := c3
      replace c3 := eqI_t c3
      replace hp := ift hp c3
      refine ⟨fun c4 => ?_, fun c4 => ?_⟩
      · replace c4 := ltI_t c4
        replace hp := ift hp c4
        have S5 := S.front 4 rfl
        have S6 := S5.front 1 rfl
        have ⟨x7, hb8, hp⟩ := ob_inv hp
        obtain ⟨v11, h12, q13, w16, e14, f17, S15⟩ := h_fails fcb_2 hb8 S6
        replace e14 := e14.symm
        subst e14
        refine ⟨x7, w16, h12, q13, ?_⟩
        have S20 := S15.front 1 rfl
        have S21 := S20.front 4 rfl
        have S22 := S21.front 4 rfl
        have S23 := S22.front 4 rfl
        have S24 := S23.front 4 rfl
        obtain rfl := Option.some.inj hp
        exact ⟨w16, wrl_1, wro_1, Lrl_3, Lro_3, Gr, kr, rfl, f17, frl_2, fro_2, (Up.refl _ _), S24⟩
      replace c4 := ltI_f c4
      replace hp := iff0 hp (nltO c4)
      refine ⟨cel_load S (i := 0) rfl rfl, ?_⟩
      have ⟨g5, hp⟩ := gd_inv hp
      refine ⟨own_idx S (i := 2) rfl g5, ?_⟩
      refine ⟨own_loadR S (i := 2) rfl rfl fro_2 g5 (f := AV.bool) (fun _ _ e => e), ?_⟩
      refine ⟨fun c6 => ?_, fun c6 => ?_⟩
      · replace c6 := notB_t c6
        replace hp := ift hp c6
        have S7 := S.front 4 rfl
        have S8 := S7.front 1 rfl
        have ⟨x9, hb10, hp⟩ := ob_inv hp
        obtain ⟨v13, h14, q15, w18, e16, f19, S17⟩ := h_fails fcb_2 hb10 S8
        replace e16 := e16.symm
        subst e16
        refine ⟨x9, w18, h14, q15, ?_⟩
        have S22 := S17.front 1 rfl
        have S23 := S22.front 4 rfl
        have S24 := S23.front 4 rfl
        have S25 := S24.front 4 rfl
        have S26 := S25.front 4 rfl
        obtain rfl := Option.some.inj hp
        exact ⟨w18, wrl_1, wro_1, Lrl_3, Lro_3, Gr, kr, rfl, f19, frl_2, fro_2, (Up.refl _ _), S26⟩
      replace c6 := notB_f c6
      replace hp := iff0 hp (nbT c6)
      refine ⟨congrArg (fun z => OV.ok (AV.bool z)) (rc3), ?_⟩
      refine ⟨cel_load S (i := 0) rfl rfl, ?_⟩
      refine ⟨own_idx S (i := 2) rfl g5, ?_⟩
      obtain ⟨e7, qe7, se7⟩ := own_store1 call S (i := 2) (k := ro.length - 1) (x := (AV.bool false)) rfl g5 rfl
      obtain ⟨L8, rL8, eL8⟩ : ∃ L, Eng.Rows rB Gr kr L (ro.set (ro.length - 1) false) ∧ Lro_3.set (ro.length - 1) (AV.bool false) = L := ⟨_, Rows.set1 rfl fro_2 rfl, rfl⟩
      have S9 : Sep (Cel b [wcb_1, (vi cn), (vi ce), wrl_1, wro_1] :: OwnO 6 wrl_1 rl.length Lrl_3 :: OwnO 1 wro_1 ((ro.set (ro.length - 1) false).length) L8 :: Frz Gr kr :: Frz G h0 :: R) e7.h := (by have z := se7; rw [eL8, show ro.length = (ro.set (ro.length - 1) false).length from by simp] at z; exact z)
      refine ⟨e7, qe7, ?_⟩
      obtain rfl := Option.some.inj hp
      exact ⟨wcb_1, wrl_1, wro_1, Lrl_3, L8, Gr, kr, rfl, fcb_2, frl_2, rL8, (Up.refl _ _), S9⟩
    have rc3 := c3
    replace c3 := eqI_f c3
    replace hp := iff0 hp (c3)
    refine ⟨congrArg (fun z => OV.ok (AV.bool z)) (rc3), ?_⟩
    refine ⟨fun c4 => ?_, fun c4 => ?_⟩
    · have rc4 := c4
      replace c4 := eqI_t c4
      replace hp := ift hp c4
      refine ⟨fun c5 => ?_, fun c5 => ?_⟩
      · replace c5 := ltI_f (notB_t c5)
        replace hp := ift hp c5
        refine ⟨cel_load S (i := 0) rfl rfl, ?_⟩
        have ⟨g6, hp⟩ := gd_inv hp
        obtain ⟨qS7, sS7⟩ := own_cutR (xs := ro) S (i := 2) (k := ro.length - 1) rfl g6
        obtain ⟨L8, rL8, eL8⟩ : ∃ L, Eng.Rows rB Gr kr L (ro.take (ro.length - 1)) ∧ Lro_3.take ((ro.length - 1) * 1) = L := ⟨_, Rows.take1 (ro.length - 1) fro_2, rfl⟩
        have S9 : Sep (Cel b [wcb_1, (vi cn), (vi ce), wrl_1, wro_1] :: OwnO 6 wrl_1 rl.length Lrl_3 :: OwnO 1 (partS wro_1 0 (ro.length - 1)) ((ro.take (ro.length - 1)).length) L8 :: Frz Gr kr :: Frz G h0 :: R) h := (by have z := sS7; rw [eL8] at z; exact z)
        refine ⟨qS7, ?_⟩
        obtain ⟨e10, qe10, se10⟩ := cel_store call S9 (i := 0) (o := 4) (x := (partS wro_1 0 (ro.length - 1))) rfl (lb rfl) (own_cell S9 (i := 2) rfl)
        refine ⟨e10, qe10, ?_⟩
        obtain rfl := Option.some.inj hp
        exact ⟨wcb_1, wrl_1, (partS wro_1 0 (ro.length - 1)), Lrl_3, L8, Gr, kr, rfl, fcb_2, frl_2, rL8, (Up.refl _ _), se10⟩
      replace c5 := ltI_t (notB_f c5)
      replace hp := iff0 hp (nleO c5)
      refine ⟨congrArg (fun z => OV.ok (AV.bool z)) (rc4), ?_⟩
      obtain rfl := Option.some.inj hp
      exact ⟨wcb_1, wrl_1, wro_1, Lrl_3, Lro_3, Gr, kr, rfl, fcb_2, frl_2, fro_2, (Up.refl _ _), S⟩
    have rc4 := c4
    replace c4 := eqI_f c4
    replace hp := iff0 hp (c4)
    refine ⟨congrArg (fun z => OV.ok (AV.bool z)) (rc4), ?_⟩
    obtain rfl := Option.some.inj hp
    exact ⟨wcb_1, wrl_1, wro_1, Lrl_3, Lro_3, Gr, kr, rfl, fcb_2, frl_2, fro_2, (Up.refl _ _), S⟩
  replace hp := iff0 hp c2
  replace c2 := Nat.lt_one_iff.1 (Nat.not_le.1 c2)
  refine Or.inr ⟨q_sub0 c2, ?_⟩
  refine ⟨fun c3 => ?_, fun c3 => ?_⟩
  · replace c3 := eqI_t c3
    replace hp := ift hp c3
    have S4 := S.front 4 rfl
    have S5 := S4.front 1 rfl
    have ⟨x6, hb7, hp⟩ := ob_inv hp
    obtain ⟨v10, h11, q12, w15, e13, f16, S14⟩ := h_fails fcb_2 hb7 S5
    replace e13 := e13.symm
    subst e13
    refine ⟨x6, w15, h11, q12, ?_⟩
    have S19 := S14.front 1 rfl
    have S20 := S19.front 4 rfl
    have S21 := S20.front 4 rfl
    have S22 := S21.front 4 rfl
    have S23 := S22.front 4 rfl
    obtain rfl := Option.some.inj hp
    exact ⟨w15, wrl_1, wro_1, Lrl_3, Lro_3, Gr, kr, rfl, f16, frl_2, fro_2, (Up.refl _ _), S23⟩
  have rc3 := c3
  replace c3 := eqI_f c3
  replace hp := iff0 hp (c3)
  refine ⟨congrArg (fun z => OV.ok (AV.bool z)) (rc3), ?_⟩
  refine ⟨fun c4 => ?_, fun c4 => ?_⟩
  · have rc4 := c4
    replace c4 := eqI_t c4
    replace hp := ift hp c4
    refine ⟨congrArg (fun z => OV.ok (AV.bool z)) (rc4), ?_⟩
    obtain rfl := Option.some.inj hp
    exact ⟨wcb_1, wrl_1, wro_1, Lrl_3, Lro_3, Gr, kr, rfl, fcb_2, frl_2, fro_2, (Up.refl _ _), S⟩
  have rc4 := c4
  replace c4 := eqI_f c4
  replace hp := iff0 hp (c4)
  refine ⟨congrArg (fun z => OV.ok (AV.bool z)) (rc4), ?_⟩
  obtain rfl := Option.some.inj hp
  exact ⟨wcb_1, wrl_1, wro_1, Lrl_3, Lro_3, Gr, kr, rfl, fcb_2, frl_2, fro_2, (Up.refl _ _), S⟩
def C_closes (call : CallT) : Prop := ∀ {h : Hp} {h0 : Hp} {G : Nat → Prop} {R : List AObj} {Gr : Nat → Prop} {kr : Hp} {b : Nat} {wcb_1 : AV} {wrl_1 : AV} {Lrl_3 : List AV} {wro_1 : AV} {Lro_3 : List AV} {cb : List Nat} {cn : Nat} {ce : Nat} {rl : List (Nat × Nat × Nat × Nat × List Nat × Int)} {ro : List Bool} {x : Nat} (fcb_2 : BIn G h0 wcb_1 cb) (frl_2 : Eng.Rows (rP (rN0 .i64) (rP (rU .u32) (rP (rU .u32) (rP (rU .u64) (rP (rL (rU .u32)) (rZ .i64)))))) Gr kr Lrl_3 rl) (fro_2 : Eng.Rows rB Gr kr Lro_3 ro) {r : List Nat × Nat × Nat × List (Nat × Nat × Nat × Nat × List Nat × Int) × List Bool × Bool}, closes_p cb cn ce rl ro x = some r → Eng.Sep (Cel b [wcb_1, (vi cn), (vi ce), wrl_1, wro_1] :: OwnO 6 wrl_1 rl.length Lrl_3 :: OwnO 1 wro_1 ro.length Lro_3 :: Frz Gr kr :: Frz G h0 :: R) h → ∃ rv rh, call 51 [(AV.ptr b 0), (vi x)] h = .ok rv rh ∧ ∃ wk1 : AV, ∃ wk3 : AV, ∃ wk6 : AV, ∃ Lk5 : List AV, ∃ Lk8 : List AV, ∃ Gk : Nat → Prop, ∃ kk : Hp, rv = (AV.bool r.2.2.2.2.2) ∧ (BIn G h0 wk1 r.1) ∧ (Eng.Rows (rP (rN0 .i64) (rP (rU .u32) (rP (rU .u32) (rP (rU .u64) (rP (rL (rU .u32)) (rZ .i64)))))) Gk kk Lk5 r.2.2.2.1) ∧ (Eng.Rows rB Gk kk Lk8 r.2.2.2.2.1) ∧ (Up Gr kr Gk kk) ∧ Eng.Sep (Cel b (wk1 :: (vi r.2.1) :: (vi r.2.2.1) :: wk3 :: wk6 :: []) :: OwnO 6 wk3 r.2.2.2.1.length Lk5 :: OwnO 1 wk6 r.2.2.2.2.1.length Lk8 :: Frz Gk kk :: Frz G h0 :: R) rh
theorem s_closes (d : Nat) : C_closes (CC (d + 2)) := by
  intro h h0 G R Gr kr b wcb_1 wrl_1 Lrl_3 wro_1 Lro_3 cb cn ce rl ro x fcb_2 frl_2 fro_2 r hp S
  rw [CC, evF_at (sumT_none rfl)]
  exact closes_w (call := CC (d + 1)) (N := 100000) fcb_2 frl_2 fro_2 (s_fails (d + 0)) hp S
noncomputable def behind_p (cb : List Nat) (cn : Nat) (ce : Nat) (rl : List (Nat × Nat × Nat × Nat × List Nat × Int)) (ro : List Bool) (x_op : Nat) (x_a : Nat) (x_b : Nat) (x_n : Nat) (x_l : List Nat) (x_t : Int) (kind : Nat) : Option (List Nat × Nat × Nat × List (Nat × Nat × Nat × Nat × List Nat × Int) × List Bool × Nat × Nat × Nat × Nat × List Nat × Int) :=
  (if kind = 1 then (ob (names_p cb cn ce x_op x_a x_b x_n x_l x_t kind) fun x7 =>
    (some (x7.1, x7.2.1, x7.2.2.1, rl, ro, x7.2.2.2.1, x7.2.2.2.2.1, x7.2.2.2.2.2.1, x7.2.2.2.2.2.2.1, x7.2.2.2.2.2.2.2.1, x7.2.2.2.2.2.2.2.2))) else
    (if kind = 2 then (ob (names_p cb cn ce x_op x_a x_b x_n x_l x_t kind) fun x8 =>
    (some (x8.1, x8.2.1, x8.2.2.1, rl, ro, x8.2.2.2.1, x8.2.2.2.2.1, x8.2.2.2.2.2.1, x8.2.2.2.2.2.2.1, x8.2.2.2.2.2.2.2.1, x8.2.2.2.2.2.2.2.2))) else
    (if kind = 5 then (ob (names_p cb cn ce x_op x_a x_b x_n x_l x_t kind) fun x9 =>
    (some (x9.1, x9.2.1, x9.2.2.1, rl, ro, x9.2.2.2.1, x9.2.2.2.2.1, x9.2.2.2.2.2.1, x9.2.2.2.2.2.2.1, x9.2.2.2.2.2.2.2.1, x9.2.2.2.2.2.2.2.2))) else
    (if kind = 3 then (ob (constant_p cb cn ce kind) fun x7 =>
    (some (x7.1, x7.2.1, x7.2.2.1, rl, ro, x_op, x_a, x_b, x7.2.2.2, x_l, x_t))) else
    (if kind = 4 then (ob (constant_p cb cn ce kind) fun x8 =>
    (some (x8.1, x8.2.1, x8.2.2.1, rl, ro, x_op, x_a, x_b, x8.2.2.2, x_l, x_t))) else
    (if kind = 6 then (ob (blockType_p cb cn ce) fun x9 =>
    (ob (opens_p x9.1 x9.2.1 x9.2.2.1 rl ro x_op) fun x29 =>
    (some (x29.1, x29.2.1, x29.2.2.1, x29.2.2.2.1, x29.2.2.2.2, x_op, x_a, x_b, x_n, x_l, x9.2.2.2)))) else
    (if kind = 7 then (ob (labels_p cb cn ce x_op x_a x_b x_n x_l x_t) fun x13 =>
    (some (x13.1, x13.2.1, x13.2.2.1, rl, ro, x13.2.2.2.1, x13.2.2.2.2.1, x13.2.2.2.2.2.1, x13.2.2.2.2.2.2.1, x13.2.2.2.2.2.2.2.1, x13.2.2.2.2.2.2.2.2))) else
    (if kind = 8 then (if x_op = 28 then (ob (cnum_p cb cn ce) fun x12 =>
    (ob (fails_p x12.1 x12.2.1 x12.2.2.1 (notB (eqI (Int.ofNat x12.2.2.2) (Int.ofNat 1))) 2) fun x26 =>
    (ob (value_p x26.1 x26.2.1 x26.2.2) fun x39 =>
    (ob (fails_p x39.1 x39.2.1 x39.2.2.1 false 2) fun x56 =>
    (some (x56.1, x56.2.1, x56.2.2, rl, ro, x_op, x39.2.2.2, x_b, x_n, x_l, x_t)))))) else
    (ob (fails_p cb cn ce false 2) fun x12 =>
    (ob (value_p x12.1 x12.2.1 x12.2.2) fun x25 =>
    (ob (tref_p (x25.2.2.2 % 256)) fun x43 =>
    (ob (fails_p x25.1 x25.2.1 x25.2.2.1 (notB x43) 2) fun x54 =>
    (some (x54.1, x54.2.1, x54.2.2, rl, ro, x_op, x25.2.2.2, x_b, x_n, x_l, x_t))))))) else
    (some (cb, cn, ce, rl, ro, x_op, x_a, x_b, x_n, x_l, x_t))))))))))
theorem behind_w {call : CallT} {N : Nat} {h : Hp} {h0 : Hp} {G : Nat → Prop} {R : List AObj} {Gr : Nat → Prop} {kr : Hp} {b : Nat} {b_x : Nat} {wcb_1 : AV} {wrl_1 : AV} {Lrl_3 : List AV} {wro_1 : AV} {Lro_3 : List AV} {wx_l_1 : AV} {Lx_l_3 : List AV} {cb : List Nat} {cn : Nat} {ce : Nat} {rl : List (Nat × Nat × Nat × Nat × List Nat × Int)} {ro : List Bool} {x_op : Nat} {x_a : Nat} {x_b : Nat} {x_n : Nat} {x_l : List Nat} {x_t : Int} {kind : Nat} (fcb_2 : BIn G h0 wcb_1 cb) (frl_2 : Eng.Rows (rP (rN0 .i64) (rP (rU .u32) (rP (rU .u32) (rP (rU .u64) (rP (rL (rU .u32)) (rZ .i64)))))) Gr kr Lrl_3 rl) (fro_2 : Eng.Rows rB Gr kr Lro_3 ro) (fx_a_1 : x_a < 4294967296) (fx_b_1 : x_b < 4294967296) (fx_n_1 : x_n < 18446744073709551616) (fx_l_2 : Eng.Rows (rU .u32) Gr kr Lx_l_3 x_l) (h_fails : C_fails call) (h_cnum : C_cnum call) (h_names : C_names call) (h_constant : C_constant call) (h_blockType : C_blockType call) (h_opens : C_opens call) (h_labels : C_labels call) (h_value : C_value call) (h_tref : C_tref call) {r : List Nat × Nat × Nat × List (Nat × Nat × Nat × Nat × List Nat × Int) × List Bool × Nat × Nat × Nat × Nat × List Nat × Int} (hp : behind_p cb cn ce rl ro x_op x_a x_b x_n x_l x_t kind = some r) (S : Eng.Sep (Cel b [wcb_1, (vi cn), (vi ce), wrl_1, wro_1] :: Cel b_x [(vi x_op), (vw x_a), (vw x_b), (vq x_n), wx_l_1, (AV.int .i64 x_t)] :: OwnO 6 wrl_1 rl.length Lrl_3 :: OwnO 1 wro_1 ro.length Lro_3 :: OwnO 1 wx_l_1 x_l.length Lx_l_3 :: Frz Gr kr :: Frz G h0 :: R) h) :
    ∃ rv rh, evF1 (progS Try.prog (compDrawn Try.prog)) N call 50 [(AV.ptr b 0), (AV.ptr b_x 0), (vi kind)] h = .ok rv rh ∧ (fun (rv : AV) (rh : Hp) => ∃ wk1 : AV, ∃ wk3 : AV, ∃ wk6 : AV, ∃ Lk5 : List AV, ∃ Lk8 : List AV, ∃ wk12 : AV, ∃ Lk14 : List AV, ∃ Gk : Nat → Prop, ∃ kk : Hp, rv = (AV.tuple []) ∧ (BIn G h0 wk1 r.1) ∧ (Eng.Rows (rP (rN0 .i64) (rP (rU .u32) (rP (rU .u32) (rP (rU .u64) (rP (rL (rU .u32)) (rZ .i64)))))) Gk kk Lk5 r.2.2.2.1) ∧ (Eng.Rows rB Gk kk Lk8 r.2.2.2.2.1) ∧ (r.2.2.2.2.2.2.1 < 4294967296) ∧ (r.2.2.2.2.2.2.2.1 < 4294967296) ∧ (r.2.2.2.2.2.2.2.2.1 < 18446744073709551616) ∧ (Eng.Rows (rU .u32) Gk kk Lk14 r.2.2.2.2.2.2.2.2.2.1) ∧ (Up Gr kr Gk kk) ∧ Eng.Sep (Cel b (wk1 :: (vi r.2.1) :: (vi r.2.2.1) :: wk3 :: wk6 :: []) :: Cel b_x ((vi r.2.2.2.2.2.1) :: (vw r.2.2.2.2.2.2.1) :: (vw r.2.2.2.2.2.2.2.1) :: (vq r.2.2.2.2.2.2.2.2.1) :: wk12 :: (AV.int .i64 r.2.2.2.2.2.2.2.2.2.2) :: []) :: OwnO 6 wk3 r.2.2.2.1.length Lk5 :: OwnO 1 wk6 r.2.2.2.2.1.length Lk8 :: OwnO 1 wk12 r.2.2.2.2.2.2.2.2.2.1.length Lk14 :: Frz Gk kk :: Frz G h0 :: R) rh) rv rh := by
  unfold behind_p at hp
  refine fwalk_ok (K := (fun (rv : AV) (rh : Hp) => ∃ wk1 : AV, ∃ wk3 : AV, ∃ wk6 : AV, ∃ Lk5 : List AV, ∃ Lk8 : List AV, ∃ wk12 : AV, ∃ Lk14 : List AV, ∃ Gk : Nat → Prop, ∃ kk : Hp, rv = (AV.tuple []) ∧ (BIn G h0 wk1 r.1) ∧ (Eng.Rows (rP (rN0 .i64) (rP (rU .u32) (rP (rU .u32) (rP (rU .u64) (rP (rL (rU .u32)) (rZ .i64)))))) Gk kk Lk5 r.2.2.2.1) ∧ (Eng.Rows rB Gk kk Lk8 r.2.2.2.2.1) ∧ (r.2.2.2.2.2.2.1 < 4294967296) ∧ (r.2.2.2.2.2.2.2.1 < 4294967296) ∧ (r.2.2.2.2.2.2.2.2.1 < 18446744073709551616) ∧ (Eng.Rows (rU .u32) Gk kk Lk14 r.2.2.2.2.2.2.2.2.2.1) ∧ (Up Gr kr Gk kk) ∧ Eng.Sep (Cel b (wk1 :: (vi r.2.1) :: (vi r.2.2.1) :: wk3 :: wk6 :: []) :: Cel b_x ((vi r.2.2.2.2.2.1) :: (vw r.2.2.2.2.2.2.1) :: (vw r.2.2.2.2.2.2.2.1) :: (vq r.2.2.2.2.2.2.2.2.1) :: wk12 :: (AV.int .i64 r.2.2.2.2.2.2.2.2.2.2) :: []) :: OwnO 6 wk3 r.2.2.2.1.length Lk5 :: OwnO 1 wk6 r.2.2.2.2.1.length Lk8 :: OwnO 1 wk12 r.2.2.2.2.2.2.2.2.2.1.length Lk14 :: Frz Gk kk :: Frz G h0 :: R) rh)) (o := (.fork 2 (.exi 3 fun (x7 : List Nat × Nat × Nat × Nat × Nat × Nat × Nat × List Nat × Int) => (.exi 0 fun (w16 : AV) => (.exi 0 fun (w21 : AV) => (.exi 0 fun (h12 : Hp) => (.eff 0 (AV.tuple []) h12 .fin))))) (.fork 1 (.exi 3 fun (x8 : List Nat × Nat × Nat × Nat × Nat × Nat × Nat × List Nat × Int) => (.exi 0 fun (w17 : AV) => (.exi 0 fun (w22 : AV) => (.exi 0 fun (h13 : Hp) => (.eff 0 (AV.tuple []) h13 .fin))))) (.fork 1 (.exi 3 fun (x9 : List Nat × Nat × Nat × Nat × Nat × Nat × Nat × List Nat × Int) => (.exi 0 fun (w18 : AV) => (.exi 0 fun (w23 : AV) => (.exi 0 fun (h14 : Hp) => (.eff 0 (AV.tuple []) h14 .fin))))) (.fork 1 (.exi 3 fun (x7 : List Nat × Nat × Nat × Nat) => (.exi 0 fun (w17 : AV) => (.exi 0 fun (h13 : Hp) => (.eff 0 (vq x7.2.2.2) h13 (.effx 2 (fun e21 => (AV.tuple [])) (fun e21 => .fin)))))) (.fork 1 (.exi 3 fun (x8 : List Nat × Nat × Nat × Nat) => (.exi 0 fun (w18 : AV) => (.exi 0 fun (h14 : Hp) => (.eff 0 (vq x8.2.2.2) h14 (.effx 2 (fun e22 => (AV.tuple [])) (fun e22 => .fin)))))) (.fork 1 (.exi 4 fun (x9 : List Nat × Nat × Nat × Int) => (.exi 0 fun (w18 : AV) => (.exi 0 fun (h14 : Hp) => (.eff 0 (AV.int .i64 x9.2.2.2) h14 (.effx 2 (fun e22 => (AV.tuple [])) (fun e22 => (.tell 4 (vi x_op) (.exi 0 fun (x29 : List Nat × Nat × Nat × List (Nat × Nat × Nat × Nat × List Nat × Int) × List Bool) => (.exi 0 fun (w38 : AV) => (.exi 0 fun (w40 : AV) => (.exi 0 fun (w43 : AV) => (.exi 0 fun (h34 : Hp) => (.eff 0 (AV.tuple []) h34 .fin))))))))))))) (.fork 1 (.exi 2 fun (x13 : List Nat × Nat × Nat × Nat × Nat × Nat × Nat × List Nat × Int) => (.exi 0 fun (w22 : AV) => (.exi 0 fun (w27 : AV) => (.exi 0 fun (h18 : Hp) => (.eff 0 (AV.tuple []) h18 .fin))))) (.fork 1 (.tell 6 (vi x_op) (.fork 1 (.again 3 (.exi 0 fun (x12 : List Nat × Nat × Nat × Nat) => (.exi 0 fun (w22 : AV) => (.exi 0 fun (h18 : Hp) => (.eff 0 (vw x12.2.2.2) h18 (.again 2 (.exi 0 fun (x26 : List Nat × Nat × Nat) => (.exi 0 fun (w35 : AV) => (.exi 0 fun (h31 : Hp) => (.eff 0 (AV.tuple []) h31 (.exi 5 fun (x39 : List Nat × Nat × Nat × Nat) => (.exi 0 fun (w49 : AV) => (.exi 0 fun (h45 : Hp) => (.eff 0 (vb8 x39.2.2.2) h45 (.tell 0 (vw x39.2.2.2) (.effx 2 (fun e54 => (AV.tuple [])) (fun e54 => (.tell 6 (vi x_op) (.tell 1 (AV.bool false) (.again 0 (.again 1 (.exi 0 fun (x56 : List Nat × Nat × Nat) => (.exi 0 fun (w65 : AV) => (.exi 0 fun (h61 : Hp) => (.eff 0 (AV.tuple []) h61 .fin))))))))))))))))))))))))) (.again 0 (.again 1 (.exi 0 fun (x12 : List Nat × Nat × Nat) => (.exi 0 fun (w21 : AV) => (.exi 0 fun (h17 : Hp) => (.eff 0 (AV.tuple []) h17 (.exi 5 fun (x25 : List Nat × Nat × Nat × Nat) => (.exi 0 fun (w35 : AV) => (.exi 0 fun (h31 : Hp) => (.eff 0 (vb8 x25.2.2.2) h31 (.tell 0 (vw x25.2.2.2) (.effx 2 (fun e40 => (AV.tuple [])) (fun e40 => (.tell 6 (vi x_op) (.tell 1 (AV.bool true) (.tell 3 (vw x25.2.2.2) (.tell 0 (vb8 (x25.2.2.2 % 256)) (.again 0 (.exi 0 fun (x43 : Bool) => (.exi 0 fun (h48 : Hp) => (.eff 0 (AV.bool x43) h48 (.again 2 (.exi 0 fun (x54 : List Nat × Nat × Nat) => (.exi 0 fun (w63 : AV) => (.exi 0 fun (h59 : Hp) => (.eff 0 (AV.tuple []) h59 .fin)))))))))))))))))))))))))))) .fin))))))))) (p := (fun (KK : AV → Hp → Prop) => ((eqI (Int.ofNat kind) (Int.ofNat 1) = true → (∃ x7 : List Nat × Nat × Nat × Nat × Nat × Nat × Nat × List Nat × Int, ∃ w16 : AV, ∃ w21 : AV, ∃ h12 : Hp, (call 75 [(AV.ptr b 0), (AV.ptr b_x 0), (vi kind)] h = .ok (AV.tuple []) h12 ∧ KK (AV.tuple []) h12))) ∧ (eqI (Int.ofNat kind) (Int.ofNat 1) = false → ((eqI (Int.ofNat kind) (Int.ofNat 2) = true → (∃ x8 : List Nat × Nat × Nat × Nat × Nat × Nat × Nat × List Nat × Int, ∃ w17 : AV, ∃ w22 : AV, ∃ h13 : Hp, (call 75 [(AV.ptr b 0), (AV.ptr b_x 0), (vi kind)] h = .ok (AV.tuple []) h13 ∧ KK (AV.tuple []) h13))) ∧ (eqI (Int.ofNat kind) (Int.ofNat 2) = false → ((eqI (Int.ofNat kind) (Int.ofNat 5) = true → (∃ x9 : List Nat × Nat × Nat × Nat × Nat × Nat × Nat × List Nat × Int, ∃ w18 : AV, ∃ w23 : AV, ∃ h14 : Hp, (call 75 [(AV.ptr b 0), (AV.ptr b_x 0), (vi kind)] h = .ok (AV.tuple []) h14 ∧ KK (AV.tuple []) h14))) ∧ (eqI (Int.ofNat kind) (Int.ofNat 5) = false → ((eqI (Int.ofNat kind) (Int.ofNat 3) = true → (∃ x7 : List Nat × Nat × Nat × Nat, ∃ w17 : AV, ∃ h13 : Hp, (call 76 [(AV.ptr b 0), (vi kind)] h = .ok (vq x7.2.2.2) h13 ∧ (∃ e21 : Ev, evE (.store 1 (.const (AV.ptr b_x 3)) (.const (vq x7.2.2.2))) call .lf h13 = .ok (AV.tuple []) e21.h ∧ KK (AV.tuple []) e21.h)))) ∧ (eqI (Int.ofNat kind) (Int.ofNat 3) = false → ((eqI (Int.ofNat kind) (Int.ofNat 4) = true → (∃ x8 : List Nat × Nat × Nat × Nat, ∃ w18 : AV, ∃ h14 : Hp, (call 76 [(AV.ptr b 0), (vi kind)] h = .ok (vq x8.2.2.2) h14 ∧ (∃ e22 : Ev, evE (.store 1 (.const (AV.ptr b_x 3)) (.const (vq x8.2.2.2))) call .lf h14 = .ok (AV.tuple []) e22.h ∧ KK (AV.tuple []) e22.h)))) ∧ (eqI (Int.ofNat kind) (Int.ofNat 4) = false → ((eqI (Int.ofNat kind) (Int.ofNat 6) = true → (∃ x9 : List Nat × Nat × Nat × Int, ∃ w18 : AV, ∃ h14 : Hp, (call 77 [(AV.ptr b 0)] h = .ok (AV.int .i64 x9.2.2.2) h14 ∧ (∃ e22 : Ev, evE (.store 1 (.const (AV.ptr b_x 5)) (.const (AV.int .i64 x9.2.2.2))) call .lf h14 = .ok (AV.tuple []) e22.h ∧ ((evQ (.loadS (.const (AV.ptr b_x 0))) .lf e22.h = .ok (vi x_op) ∧ (∃ x29 : List Nat × Nat × Nat × List (Nat × Nat × Nat × Nat × List Nat × Int) × List Bool, ∃ w38 : AV, ∃ w40 : AV, ∃ w43 : AV, ∃ h34 : Hp, (call 78 [(AV.ptr b 0), (vi x_op)] e22.h = .ok (AV.tuple []) h34 ∧ KK (AV.tuple []) h34)))))))) ∧ (eqI (Int.ofNat kind) (Int.ofNat 6) = false → ((eqI (Int.ofNat kind) (Int.ofNat 7) = true → (∃ x13 : List Nat × Nat × Nat × Nat × Nat × Nat × Nat × List Nat × Int, ∃ w22 : AV, ∃ w27 : AV, ∃ h18 : Hp, (call 79 [(AV.ptr b 0), (AV.ptr b_x 0)] h = .ok (AV.tuple []) h18 ∧ KK (AV.tuple []) h18))) ∧ (eqI (Int.ofNat kind) (Int.ofNat 7) = false → ((eqI (Int.ofNat kind) (Int.ofNat 8) = true → ((evQ (.loadS (.const (AV.ptr b_x 0))) .lf h = .ok (vi x_op) ∧ ((eqI (Int.ofNat x_op) (Int.ofNat 28) = true → ((again (.fieldAddr 0 (.const (AV.ptr b 0))) .lf (AV.ptr b 0) h = true ∧ again (.nilCheck (.const (AV.ptr b 0))) .lf (AV.ptr b 0) h = true ∧ again (.move (.const (AV.ptr b 0))) .lf (AV.ptr b 0) h = true ∧ again (.move (.const (AV.bool (eqI (Int.ofNat x_op) (Int.ofNat 28))))) .lf (AV.bool true) h = true ∧ again (.eq .int false (.const (vi x_op)) (.const (vi 28))) .lf (AV.bool (eqI (Int.ofNat x_op) (Int.ofNat 28))) h = true ∧ again (.loadS (.const (AV.ptr b_x 0))) .lf (vi x_op) h = true ∧ again (.fieldAddr 0 (.const (AV.ptr b_x 0))) .lf (AV.ptr b_x 0) h = true ∧ again (.nilCheck (.const (AV.ptr b_x 0))) .lf (AV.ptr b_x 0) h = true ∧ again (.move (.const (AV.ptr b_x 0))) .lf (AV.ptr b_x 0) h = true ∧ again (.fieldAddr 0 (.const (AV.ptr b 0))) .lf (AV.ptr b 0) h = true ∧ again (.nilCheck (.const (AV.ptr b 0))) .lf (AV.ptr b 0) h = true ∧ again (.move (.const (AV.ptr b 0))) .lf (AV.ptr b 0) h = true ∧ True) ∧ (∃ x12 : List Nat × Nat × Nat × Nat, ∃ w22 : AV, ∃ h18 : Hp, (call 71 [(AV.ptr b 0)] h = .ok (vw x12.2.2.2) h18 ∧ ((again (.pick (.const (AV.bool true)) (.const (AV.bool (notB (eqI (Int.ofNat x12.2.2.2) (Int.ofNat 1))))) (.const (AV.bool false))) .lf (AV.bool (notB (eqI (Int.ofNat x12.2.2.2) (Int.ofNat 1)))) h18 = true ∧ again (.eq .int true (.const (vw x12.2.2.2)) (.const (vw 1))) .lf (AV.bool (notB (eqI (Int.ofNat x12.2.2.2) (Int.ofNat 1)))) h18 = true ∧ again (.fieldAddr 0 (.const (AV.ptr b 0))) .lf (AV.ptr b 0) h18 = true ∧ again (.nilCheck (.const (AV.ptr b 0))) .lf (AV.ptr b 0) h18 = true ∧ again (.move (.const (AV.ptr b 0))) .lf (AV.ptr b 0) h18 = true ∧ True) ∧ (∃ x26 : List Nat × Nat × Nat, ∃ w35 : AV, ∃ h31 : Hp, (call 47 [(AV.ptr b 0), (AV.bool (notB (eqI (Int.ofNat x12.2.2.2) (Int.ofNat 1)))), (vi 2)] h18 = .ok (AV.tuple []) h31 ∧ (∃ x39 : List Nat × Nat × Nat × Nat, ∃ w49 : AV, ∃ h45 : Hp, (call 80 [(AV.ptr b 0)] h31 = .ok (vb8 x39.2.2.2) h45 ∧ ((evQ (.toInt .u32 (.const (vb8 x39.2.2.2))) .lf H0 = .ok (vw x39.2.2.2) ∧ (∃ e54 : Ev, evE (.store 1 (.const (AV.ptr b_x 1)) (.const (vw x39.2.2.2))) call .lf h45 = .ok (AV.tuple []) e54.h ∧ ((evQ (.loadS (.const (AV.ptr b_x 0))) .lf e54.h = .ok (vi x_op) ∧ ((evQ (.move (.const (AV.bool (notB (eqI (Int.ofNat x_op) (Int.ofNat 28)))))) .lf H0 = .ok (AV.bool false) ∧ ((again (.move (.const (AV.bool (notB (eqI (Int.ofNat x_op) (Int.ofNat 28)))))) .lf (AV.bool false) e54.h = true ∧ again (.eq .int true (.const (vi x_op)) (.const (vi 28))) .lf (AV.bool (notB (eqI (Int.ofNat x_op) (Int.ofNat 28)))) e54.h = true ∧ again (.loadS (.const (AV.ptr b_x 0))) .lf (vi x_op) e54.h = true ∧ again (.fieldAddr 0 (.const (AV.ptr b_x 0))) .lf (AV.ptr b_x 0) e54.h = true ∧ again (.nilCheck (.const (AV.ptr b_x 0))) .lf (AV.ptr b_x 0) e54.h = true ∧ again (.move (.const (AV.ptr b_x 0))) .lf (AV.ptr b_x 0) e54.h = true ∧ again (.fieldAddr 0 (.const (AV.ptr b 0))) .lf (AV.ptr b 0) e54.h = true ∧ again (.nilCheck (.const (AV.ptr b 0))) .lf (AV.ptr b 0) e54.h = true ∧ again (.move (.const (AV.ptr b 0))) .lf (AV.ptr b 0) e54.h = true ∧ True) ∧ ((again (.pick (.const (AV.bool false)) (.const (AV.tuple [])) (.const (AV.bool false))) .lf (AV.bool false) e54.h = true ∧ again (.fieldAddr 0 (.const (AV.ptr b 0))) .lf (AV.ptr b 0) e54.h = true ∧ again (.nilCheck (.const (AV.ptr b 0))) .lf (AV.ptr b 0) e54.h = true ∧ again (.move (.const (AV.ptr b 0))) .lf (AV.ptr b 0) e54.h = true ∧ True) ∧ (∃ x56 : List Nat × Nat × Nat, ∃ w65 : AV, ∃ h61 : Hp, (call 47 [(AV.ptr b 0), (AV.bool false), (vi 2)] e54.h = .ok (AV.tuple []) h61 ∧ KK (AV.tuple []) h61)))))))))))))))))))) ∧ (eqI (Int.ofNat x_op) (Int.ofNat 28) = false → ((again (.move (.const (AV.bool (eqI (Int.ofNat x_op) (Int.ofNat 28))))) .lf (AV.bool false) h = true ∧ again (.eq .int false (.const (vi x_op)) (.const (vi 28))) .lf (AV.bool (eqI (Int.ofNat x_op) (Int.ofNat 28))) h = true ∧ again (.loadS (.const (AV.ptr b_x 0))) .lf (vi x_op) h = true ∧ again (.fieldAddr 0 (.const (AV.ptr b_x 0))) .lf (AV.ptr b_x 0) h = true ∧ again (.nilCheck (.const (AV.ptr b_x 0))) .lf (AV.ptr b_x 0) h = true ∧ again (.move (.const (AV.ptr b_x 0))) .lf (AV.ptr b_x 0) h = true ∧ again (.fieldAddr 0 (.const (AV.ptr b 0))) .lf (AV.ptr b 0) h = true ∧ again (.nilCheck (.const (AV.ptr b 0))) .lf (AV.ptr b 0) h = true ∧ again (.move (.const (AV.ptr b 0))) .lf (AV.ptr b 0) h = true ∧ True) ∧ ((again (.pick (.const (AV.bool false)) (.const (AV.tuple [])) (.const (AV.bool false))) .lf (AV.bool false) h = true ∧ again (.fieldAddr 0 (.const (AV.ptr b 0))) .lf (AV.ptr b 0) h = true ∧ again (.nilCheck (.const (AV.ptr b 0))) .lf (AV.ptr b 0) h = true ∧ again (.move (.const (AV.ptr b 0))) .lf (AV.ptr b 0) h = true ∧ True) ∧ (∃ x12 : List Nat × Nat × Nat, ∃ w21 : AV, ∃ h17 : Hp, (call 47 [(AV.ptr b 0), (AV.bool false), (vi 2)] h = .ok (AV.tuple []) h17 ∧ (∃ x25 : List Nat × Nat × Nat × Nat, ∃ w35 : AV, ∃ h31 : Hp, (call 80 [(AV.ptr b 0)] h17 = .ok (vb8 x25.2.2.2) h31 ∧ ((evQ (.toInt .u32 (.const (vb8 x25.2.2.2))) .lf H0 = .ok (vw x25.2.2.2) ∧ (∃ e40 : Ev, evE (.store 1 (.const (AV.ptr b_x 1)) (.const (vw x25.2.2.2))) call .lf h31 = .ok (AV.tuple []) e40.h ∧ ((evQ (.loadS (.const (AV.ptr b_x 0))) .lf e40.h = .ok (vi x_op) ∧ ((evQ (.move (.const (AV.bool (notB (eqI (Int.ofNat x_op) (Int.ofNat 28)))))) .lf H0 = .ok (AV.bool true) ∧ ((evQ (.loadS (.const (AV.ptr b_x 1))) .lf e40.h = .ok (vw x25.2.2.2) ∧ ((evQ (.toInt .u8 (.const (vw x25.2.2.2))) .lf H0 = .ok (vb8 (x25.2.2.2 % 256)) ∧ ((again (.toInt .u8 (.const (vw x25.2.2.2))) .lf (vb8 (x25.2.2.2 % 256)) e40.h = true ∧ again (.loadS (.const (AV.ptr b_x 1))) .lf (vw x25.2.2.2) e40.h = true ∧ again (.fieldAddr 1 (.const (AV.ptr b_x 0))) .lf (AV.ptr b_x 1) e40.h = true ∧ again (.nilCheck (.const (AV.ptr b_x 0))) .lf (AV.ptr b_x 0) e40.h = true ∧ again (.move (.const (AV.ptr b_x 0))) .lf (AV.ptr b_x 0) e40.h = true ∧ again (.move (.const (AV.bool (notB (eqI (Int.ofNat x_op) (Int.ofNat 28)))))) .lf (AV.bool true) e40.h = true ∧ again (.eq .int true (.const (vi x_op)) (.const (vi 28))) .lf (AV.bool (notB (eqI (Int.ofNat x_op) (Int.ofNat 28)))) e40.h = true ∧ again (.loadS (.const (AV.ptr b_x 0))) .lf (vi x_op) e40.h = true ∧ again (.fieldAddr 0 (.const (AV.ptr b_x 0))) .lf (AV.ptr b_x 0) e40.h = true ∧ again (.nilCheck (.const (AV.ptr b_x 0))) .lf (AV.ptr b_x 0) e40.h = true ∧ again (.move (.const (AV.ptr b_x 0))) .lf (AV.ptr b_x 0) e40.h = true ∧ again (.fieldAddr 0 (.const (AV.ptr b 0))) .lf (AV.ptr b 0) e40.h = true ∧ again (.nilCheck (.const (AV.ptr b 0))) .lf (AV.ptr b 0) e40.h = true ∧ again (.move (.const (AV.ptr b 0))) .lf (AV.ptr b 0) e40.h = true ∧ True) ∧ (∃ x43 : Bool, ∃ h48 : Hp, (call 81 [(vb8 (x25.2.2.2 % 256))] e40.h = .ok (AV.bool x43) h48 ∧ ((again (.pick (.const (AV.bool true)) (.const (AV.bool (notB x43))) (.const (AV.bool false))) .lf (AV.bool (notB x43)) h48 = true ∧ again (.un .not (.const (AV.bool x43))) .lf (AV.bool (notB x43)) h48 = true ∧ again (.fieldAddr 0 (.const (AV.ptr b 0))) .lf (AV.ptr b 0) h48 = true ∧ again (.nilCheck (.const (AV.ptr b 0))) .lf (AV.ptr b 0) h48 = true ∧ again (.move (.const (AV.ptr b 0))) .lf (AV.ptr b 0) h48 = true ∧ True) ∧ (∃ x54 : List Nat × Nat × Nat, ∃ w63 : AV, ∃ h59 : Hp, (call 47 [(AV.ptr b 0), (AV.bool (notB x43)), (vi 2)] h48 = .ok (AV.tuple []) h59 ∧ KK (AV.tuple []) h59)))))))))))))))))))))))))))) ∧ (eqI (Int.ofNat kind) (Int.ofNat 8) = false → KK (AV.tuple []) h))))))))))))))))) (fun (rv : AV) (rh : Hp) => ∃ wk1 : AV, ∃ wk3 : AV, ∃ wk6 : AV, ∃ Lk5 : List AV, ∃ Lk8 : List AV, ∃ wk12 : AV, ∃ Lk14 : List AV, ∃ Gk : Nat → Prop, ∃ kk : Hp, rv = (AV.tuple []) ∧ (BIn G h0 wk1 r.1) ∧ (Eng.Rows (rP (rN0 .i64) (rP (rU .u32) (rP (rU .u32) (rP (rU .u64) (rP (rL (rU .u32)) (rZ .i64)))))) Gk kk Lk5 r.2.2.2.1) ∧ (Eng.Rows rB Gk kk Lk8 r.2.2.2.2.1) ∧ (r.2.2.2.2.2.2.1 < 4294967296) ∧ (r.2.2.2.2.2.2.2.1 < 4294967296) ∧ (r.2.2.2.2.2.2.2.2.1 < 18446744073709551616) ∧ (Eng.Rows (rU .u32) Gk kk Lk14 r.2.2.2.2.2.2.2.2.2.1) ∧ (Up Gr kr Gk kk) ∧ Eng.Sep (Cel b (wk1 :: (vi r.2.1) :: (vi r.2.2.1) :: wk3 :: wk6 :: []) :: Cel b_x ((vi r.2.2.2.2.2.1) :: (vw r.2.2.2.2.2.2.1) :: (vw r.2.2.2.2.2.2.2.1) :: (vq r.2.2.2.2.2.2.2.2.1) :: wk12 :: (AV.int .i64 r.2.2.2.2.2.2.2.2.2.2) :: []) :: OwnO 6 wk3 r.2.2.2.1.length Lk5 :: OwnO 1 wk6 r.2.2.2.2.1.length Lk8 :: OwnO 1 wk12 r.2.2.2.2.2.2.2.2.2.1.length Lk14 :: Frz Gk kk :: Frz G h0 :: R) rh)) (by kernel_rfl) ?_
  refine ⟨fun c1 => ?_, fun c1 => ?_⟩
  · replace c1 := eqI_t c1
    replace hp := ift hp c1
    have S2 := S.front 6 rfl
    have S3 := S2.front 6 rfl
    have S4 := S3.front 6 rfl
    have S5 := S4.front 4 rfl
    have S6 := S5.front 4 rfl
    have ⟨x7, hb8, hp⟩ := ob_inv hp
    obtain ⟨v11, h12, q13, w16, w21, L23, G9, k10, e14, f17, f18, f19, f20, f22, u24, S15⟩ := h_names fcb_2 fx_a_1 fx_b_1 fx_n_1 fx_l_2 hb8 S6
    replace e14 := e14.symm
    subst e14
    refine ⟨x7, w16, w21, h12, q13, ?_⟩
    have S26 := S15.front 4 rfl
    have S27 := S26.front 4 rfl
    have S28 := S27.front 4 rfl
    have S29 := S28.front 6 rfl
    have S30 := S29.front 6 rfl
    have S31 := S30.front 6 rfl
    have S32 := S31.front 6 rfl
    obtain rfl := Option.some.inj hp
    exact ⟨w16, wrl_1, wro_1, Lrl_3, Lro_3, w21, L23, G9, k10, rfl, f17, (Rows.up u24 frl_2), (Rows.up u24 fro_2), f18, f19, f20, f22, (Up.trans (Up.refl _ _) u24), S32⟩
  replace c1 := eqI_f c1
  replace hp := iff0 hp (c1)
  refine ⟨fun c2 => ?_, fun c2 => ?_⟩
  · replace c2 := eqI_t c2
    replace hp := ift hp c2
    have S3 := S.front 6 rfl
    have S4 := S3.front 6 rfl
    have S5 := S4.front 6 rfl
    have S6 := S5.front 4 rfl
    have S7 := S6.front 4 rfl
    have ⟨x8, hb9, hp⟩ := ob_inv hp
    obtain ⟨v12, h13, q14, w17, w22, L24, G10, k11, e15, f18, f19, f20, f21, f23, u25, S16⟩ := h_names fcb_2 fx_a_1 fx_b_1 fx_n_1 fx_l_2 hb9 S7
    replace e15 := e15.symm
    subst e15
    refine ⟨x8, w17, w22, h13, q14, ?_⟩
    have S27 := S16.front 4 rfl
    have S28 := S27.front 4 rfl
    have S29 := S28.front 4 rfl
    have S30 := S29.front 6 rfl
    have S31 := S30.front 6 rfl
    have S32 := S31.front 6 rfl
    have S33 := S32.front 6 rfl
    obtain rfl := Option.some.inj hp
    exact ⟨w17, wrl_1, wro_1, Lrl_3, Lro_3, w22, L24, G10, k11, rfl, f18, (Rows.up u25 frl_2), (Rows.up u25 fro_2), f19, f20, f21, f23, (Up.trans (Up.refl _ _) u25), S33⟩
  replace c2 := eqI_f c2
  replace hp := iff0 hp (c2)
  refine ⟨fun c3 => ?_, fun c3 => ?_⟩
  · replace c3 := eqI_t c3
    replace hp := ift hp c3
    have S4 := S.front 6 rfl
    have S5 := S4.front 6 rfl
    have S6 := S5.front 6 rfl
    have S7 := S6.front 4 rfl
    have S8 := S7.front 4 rfl
    have ⟨x9, hb10, hp⟩ := ob_inv hp
    obtain ⟨v13, h14, q15, w18, w23, L25, G11, k12, e16, f19, f20, f21, f22, f24, u26, S17⟩ := h_names fcb_2 fx_a_1 fx_b_1 fx_n_1 fx_l_2 hb10 S8
    replace e16 := e16.symm
    subst e16
    refine ⟨x9, w18, w23, h14, q15, ?_⟩
    have S28 := S17.front 4 rfl
    have S29 := S28.front 4 rfl
    have S30 := S29.front 4 rfl
    have S31 := S30.front 6 rfl
    have S32 := S31.front 6 rfl
    have S33 := S32.front 6 rfl
    have S34 := S33.front 6 rfl
    obtain rfl := Option.some.inj hp
    exact ⟨w18, wrl_1, wro_1, Lrl_3, Lro_3, w23, L25, G11, k12, rfl, f19, (Rows.up u26 frl_2), (Rows.up u26 fro_2), f20, f21, f22, f24, (Up.trans (Up.refl _ _) u26), S34⟩
  replace c3 := eqI_f c3
  replace hp := iff0 hp (c3)
  refine ⟨fun c4 => ?_, fun c4 => ?_⟩
  · replace c4 := eqI_t c4
    replace hp := ift hp c4
    have S5 := S.front 6 rfl
    have S6 := S5.front 1 rfl
    have ⟨x7, hb8, hp⟩ := ob_inv hp
    obtain ⟨v12, h13, q14, w17, e15, f11, f18, S16⟩ := h_constant fcb_2 hb8 S6
    replace e15 := e15.symm
    subst e15
    refine ⟨x7, w17, h13, q14, ?_⟩
    obtain ⟨e21, qe21, se21⟩ := cel_store call S16 (i := 2) (o := 3) (x := (vq x7.2.2.2)) rfl (lb rfl) rfl
    refine ⟨e21, qe21, ?_⟩
    have S23 := se21.front 1 rfl
    have S24 := S23.front 6 rfl
    have S25 := S24.front 6 rfl
    have S26 := S25.front 6 rfl
    have S27 := S26.front 6 rfl
    have S28 := S27.front 6 rfl
    have S29 := S28.front 6 rfl
    obtain rfl := Option.some.inj hp
    exact ⟨w17, wrl_1, wro_1, Lrl_3, Lro_3, wx_l_1, Lx_l_3, Gr, kr, rfl, f18, frl_2, fro_2, fx_a_1, fx_b_1, f11, fx_l_2, (Up.refl _ _), S29⟩
  replace c4 := eqI_f c4
  replace hp := iff0 hp (c4)
  refine ⟨fun c5 => ?_, fun c5 => ?_⟩
  · replace c5 := eqI_t c5
    replace hp := ift hp c5
    have S6 := S.front 6 rfl
    have S7 := S6.front 1 rfl
    have ⟨x8, hb9, hp⟩ := ob_inv hp
    obtain ⟨v13, h14, q15, w18, e16, f12, f19, S17⟩ := h_constant fcb_2 hb9 S7
    replace e16 := e16.symm
    subst e16
    refine ⟨x8, w18, h14, q15, ?_⟩
    obtain ⟨e22, qe22, se22⟩ := cel_store call S17 (i := 2) (o := 3) (x := (vq x8.2.2.2)) rfl (lb rfl) rfl
    refine ⟨e22, qe22, ?_⟩
    have S24 := se22.front 1 rfl
    have S25 := S24.front 6 rfl
    have S26 := S25.front 6 rfl
    have S27 := S26.front 6 rfl
    have S28 := S27.front 6 rfl
    have S29 := S28.front 6 rfl
    have S30 := S29.front 6 rfl
    obtain rfl := Option.some.inj hp
    exact ⟨w18, wrl_1, wro_1, Lrl_3, Lro_3, wx_l_1, Lx_l_3, Gr, kr, rfl, f19, frl_2, fro_2, fx_a_1, fx_b_1, f12, fx_l_2, (Up.refl _ _), S30⟩
  replace c5 := eqI_f c5
  replace hp := iff0 hp (c5)
  refine ⟨fun c6 => ?_, fun c6 => ?_⟩
  · replace c6 := eqI_t c6
    replace hp := ift hp c6
    have S7 := S.front 6 rfl
    have S8 := S7.front 1 rfl
    have ⟨x9, hb10, hp⟩ := ob_inv hp
    obtain ⟨v13, h14, q15, w18, e16, f19, S17⟩ := h_blockType fcb_2 hb10 S8
    replace e16 := e16.symm
    subst e16
    refine ⟨x9, w18, h14, q15, ?_⟩
    obtain ⟨e22, qe22, se22⟩ := cel_store call S17 (i := 2) (o := 5) (x := (AV.int .i64 x9.2.2.2)) rfl (lb rfl) rfl
    refine ⟨e22, qe22, ?_⟩
    refine ⟨cel_load se22 (i := 2) rfl rfl, ?_⟩
    have S24 := se22.front 1 rfl
    have S25 := S24.front 6 rfl
    have S26 := S25.front 5 rfl
    have S27 := S26.front 5 rfl
    have S28 := S27.front 4 rfl
    have ⟨x29, hb30, hp⟩ := ob_inv hp
    obtain ⟨v33, h34, q35, w38, w40, w43, L42, L45, G31, k32, e36, f39, f41, f44, u46, S37⟩ := h_opens f19 frl_2 fro_2 hb30 S28
    replace e36 := e36.symm
    subst e36
    refine ⟨x29, w38, w40, w43, h34, q35, ?_⟩
    have S48 := S37.front 4 rfl
    have S49 := S48.front 4 rfl
    have S50 := S49.front 6 rfl
    have S51 := S50.front 5 rfl
    have S52 := S51.front 5 rfl
    have S53 := S52.front 6 rfl
    have S54 := S53.front 6 rfl
    obtain rfl := Option.some.inj hp
    exact ⟨w38, w40, w43, L42, L45, wx_l_1, Lx_l_3, G31, k32, rfl, f39, f41, f44, fx_a_1, fx_b_1, fx_n_1, (Rows.up u46 fx_l_2), (Up.trans (Up.refl _ _) u46), S54⟩
  replace c6 := eqI_f c6
  replace hp := iff0 hp (c6)
  refine ⟨fun c7 => ?_, fun c7 => ?_⟩
  · replace c7 := eqI_t c7
    replace hp := ift hp c7
    have S8 := S.front 6 rfl
    have S9 := S8.front 6 rfl
    have S10 := S9.front 6 rfl
    have S11 := S10.front 4 rfl
    have S12 := S11.front 4 rfl
    have ⟨x13, hb14, hp⟩ := ob_inv hp
    obtain ⟨v17, h18, q19, w22, w27, L29, G15, k16, e20, f23, f24, f25, f26, f28, u30, S21⟩ := h_labels fcb_2 fx_a_1 fx_b_1 fx_n_1 fx_l_2 hb14 S12
    replace e20 := e20.symm
    subst e20
    refine ⟨x13, w22, w27, h18, q19, ?_⟩
    have S32 := S21.front 4 rfl
    have S33 := S32.front 4 rfl
    have S34 := S33.front 4 rfl
    have S35 := S34.front 6 rfl
    have S36 := S35.front 6 rfl
    have S37 := S36.front 6 rfl
    have S38 := S37.front 6 rfl
    obtain rfl := Option.some.inj hp
    exact ⟨w22, wrl_1, wro_1, Lrl_3, Lro_3, w27, L29, G15, k16, rfl, f23, (Rows.up u30 frl_2), (Rows.up u30 fro_2), f24, f25, f26, f28, (Up.trans (Up.refl _ _) u30), S38⟩
  replace c7 := eqI_f c7
  replace hp := iff0 hp (c7)
  refine ⟨fun c8 => ?_, fun c8 => ?_⟩
  · replace c8 := eqI_t c8
    replace hp := ift hp c8
    refine ⟨cel_load S (i := 1) rfl rfl, ?_⟩
    refine ⟨fun c9 => ?_, fun c9 => ?_⟩
    · have rc9 := c9
      replace c9 := eqI_t c9
      replace hp := ift hp c9
      refine ⟨⟨again_of (rfl) (avEq_ptr _ _), again_of (rfl) (avEq_ptr _ _), again_of (rfl) (avEq_ptr _ _), again_of (congrArg (fun b => OV.ok (AV.bool b)) rc9) (avEq_bool _), again_of (rfl) (avEq_bool _), again_of (cel_load S (i := 1) rfl rfl) (avEq_int _ _), again_of (rfl) (avEq_ptr _ _), again_of (rfl) (avEq_ptr _ _), again_of (rfl) (avEq_ptr _ _), again_of (rfl) (avEq_ptr _ _), again_of (rfl) (avEq_ptr _ _), again_of (rfl) (avEq_ptr _ _), trivial⟩, ?_⟩
      have S10 := S.front 6 rfl
      have S11 := S10.front 1 rfl
      have ⟨x12, hb13, hp⟩ := ob_inv hp
      obtain ⟨v17, h18, q19, w22, e20, f16, f23, S21⟩ := h_cnum fcb_2 hb13 S11
      replace e20 := e20.symm
      subst e20
      refine ⟨x12, w22, h18, q19, ?_⟩
      refine ⟨⟨again_of (rfl) (avEq_bool _), again_of (rfl) (avEq_bool _), again_of (rfl) (avEq_ptr _ _), again_of (rfl) (avEq_ptr _ _), again_of (rfl) (avEq_ptr _ _), trivial⟩, ?_⟩
      have ⟨x26, hb27, hp⟩ := ob_inv hp
      obtain ⟨v30, h31, q32, w35, e33, f36, S34⟩ := h_fails f23 hb27 S21
      replace e33 := e33.symm
      subst e33
      refine ⟨x26, w35, h31, q32, ?_⟩
      have ⟨x39, hb40, hp⟩ := ob_inv hp
      obtain ⟨v44, h45, q46, w49, e47, f43, f50, S48⟩ := h_value f36 hb40 S34
      replace e47 := e47.symm
      subst e47
      refine ⟨x39, w49, h45, q46, ?_⟩
      refine ⟨u_conv' rfl (Nat.lt_of_lt_of_le f43 (by decide)), ?_⟩
      have g53 : x39.2.2.2 < 4294967296 := Nat.lt_of_lt_of_le f43 (by decide)
      obtain ⟨e54, qe54, se54⟩ := cel_store call S48 (i := 2) (o := 1) (x := (vw x39.2.2.2)) rfl (lb rfl) rfl
      refine ⟨e54, qe54, ?_⟩
      refine ⟨cel_load se54 (i := 2) rfl rfl, ?_⟩
      refine ⟨congrArg (fun z => OV.ok (AV.bool (notB z))) (rc9), ?_⟩
      refine ⟨⟨again_of (congrArg (fun z => OV.ok (AV.bool (notB z))) (rc9)) (avEq_bool _), again_of (rfl) (avEq_bool _), again_of (cel_load se54 (i := 2) rfl rfl) (avEq_int _ _), again_of (rfl) (avEq_ptr _ _), again_of (rfl) (avEq_ptr _ _), again_of (rfl) (avEq_ptr _ _), again_of (rfl) (avEq_ptr _ _), again_of (rfl) (avEq_ptr _ _), again_of (rfl) (avEq_ptr _ _), trivial⟩, ?_⟩
      refine ⟨⟨again_of (rfl) (avEq_bool _), again_of (rfl) (avEq_ptr _ _), again_of (rfl) (avEq_ptr _ _), again_of (rfl) (avEq_ptr _ _), trivial⟩, ?_⟩
      have ⟨x56, hb57, hp⟩ := ob_inv hp
      obtain ⟨v60, h61, q62, w65, e63, f66, S64⟩ := h_fails f50 hb57 se54
      replace e63 := e63.symm
      subst e63
      refine ⟨x56, w65, h61, q62, ?_⟩
      have S69 := S64.front 1 rfl
      have S70 := S69.front 6 rfl
      have S71 := S70.front 6 rfl
      have S72 := S71.front 6 rfl
      have S73 := S72.front 6 rfl
      have S74 := S73.front 6 rfl
      have S75 := S74.front 6 rfl
      obtain rfl := Option.some.inj hp
      exact ⟨w65, wrl_1, wro_1, Lrl_3, Lro_3, wx_l_1, Lx_l_3, Gr, kr, rfl, f66, frl_2, fro_2, g53, fx_b_1, fx_n_1, fx_l_2, (Up.refl _ _), S75⟩
    have rc9 := c9
    replace c9 := eqI_f c9
    replace hp := iff0 hp (c9)
    refine ⟨⟨again_of (congrArg (fun b => OV.ok (AV.bool b)) rc9) (avEq_bool _), again_of (rfl) (avEq_bool _), again_of (cel_load S (i := 1) rfl rfl) (avEq_int _ _), again_of (rfl) (avEq_ptr _ _), again_of (rfl) (avEq_ptr _ _), again_of (rfl) (avEq_ptr _ _), again_of (rfl) (avEq_ptr _ _), again_of (rfl) (avEq_ptr _ _), again_of (rfl) (avEq_ptr _ _), trivial⟩, ?_⟩
    refine ⟨⟨again_of (rfl) (avEq_bool _), again_of (rfl) (avEq_ptr _ _), again_of (rfl) (avEq_ptr _ _), again_of (rfl) (avEq_ptr _ _), trivial⟩, ?_⟩
    have S10 := S.front 6 rfl
    have S11 := S10.front 1 rfl
    have ⟨x12, hb13, hp⟩ := ob_inv hp
    obtain ⟨v16, h17, q18, w21, e19, f22, S20⟩ := h_fails fcb_2 hb13 S11
    replace e19 := e19.symm
    subst e19
    refine ⟨x12, w21, h17, q18, ?_⟩
    have ⟨x25, hb26, hp⟩ := ob_inv hp
    obtain ⟨v30, h31, q32, w35, e33, f29, f36, S34⟩ := h_value f22 hb26 S20
    replace e33 := e33.symm
    subst e33
    refine ⟨x25, w35, h31, q32, ?_⟩
    refine ⟨u_conv' rfl (Nat.lt_of_lt_of_le f29 (by decide)), ?_⟩
    have g39 : x25.2.2.2 < 4294967296 := Nat.lt_of_lt_of_le f29 (by decide)
    obtain ⟨e40, qe40, se40⟩ := cel_store call S34 (i := 2) (o := 1) (x := (vw x25.2.2.2)) rfl (lb rfl) rfl
    refine ⟨e40, qe40, ?_⟩
    refine ⟨cel_load se40 (i := 2) rfl rfl, ?_⟩
    refine ⟨congrArg (fun z => OV.ok (AV.bool (notB z))) (rc9), ?_⟩
    refine ⟨cel_load se40 (i := 2) rfl rfl, ?_⟩
    refine ⟨u_conv rfl, ?_⟩
    have g42 : x25.2.2.2 % 256 < 256 := Nat.mod_lt _ (by decide)
    refine ⟨⟨again_of (u_conv rfl) (avEq_int _ _), again_of (cel_load se40 (i := 2) rfl rfl) (avEq_int _ _), again_of (rfl) (avEq_ptr _ _), again_of (rfl) (avEq_ptr _ _), again_of (rfl) (avEq_ptr _ _), again_of (congrArg (fun z => OV.ok (AV.bool (notB z))) (rc9)) (avEq_bool _), again_of (rfl) (avEq_bool _), again_of (cel_load se40 (i := 2) rfl rfl) (avEq_int _ _), again_of (rfl) (avEq_ptr _ _), again_of (rfl) (avEq_ptr _ _), again_of (rfl) (avEq_ptr _ _), again_of (rfl) (avEq_ptr _ _), again_of (rfl) (avEq_ptr _ _), again_of (rfl) (avEq_ptr _ _), trivial⟩, ?_⟩
    have ⟨x43, hb44, hp⟩ := ob_inv hp
    obtain ⟨v47, h48, q49, e50, S51⟩ := h_tref g42 hb44
    replace e50 := e50.symm
    subst e50
    have S53 := Sep.call se40 (news := []) S51
    refine ⟨x43, h48, q49, ?_⟩
    refine ⟨⟨again_of (rfl) (avEq_bool _), again_of (rfl) (avEq_bool _), again_of (rfl) (avEq_ptr _ _), again_of (rfl) (avEq_ptr _ _), again_of (rfl) (avEq_ptr _ _), trivial⟩, ?_⟩
    have ⟨x54, hb55, hp⟩ := ob_inv hp
    obtain ⟨v58, h59, q60, w63, e61, f64, S62⟩ := h_fails f36 hb55 S53
    replace e61 := e61.symm
    subst e61
    refine ⟨x54, w63, h59, q60, ?_⟩
    have S67 := S62.front 1 rfl
    have S68 := S67.front 6 rfl
    have S69 := S68.front 6 rfl
    have S70 := S69.front 6 rfl
    have S71 := S70.front 6 rfl
    have S72 := S71.front 6 rfl
    have S73 := S72.front 6 rfl
    obtain rfl := Option.some.inj hp
    exact ⟨w63, wrl_1, wro_1, Lrl_3, Lro_3, wx_l_1, Lx_l_3, Gr, kr, rfl, f64, frl_2, fro_2, g39, fx_b_1, fx_n_1, fx_l_2, (Up.refl _ _), S73⟩
  replace c8 := eqI_f c8
  replace hp := iff0 hp (c8)
  obtain rfl := Option.some.inj hp
  exact ⟨wcb_1, wrl_1, wro_1, Lrl_3, Lro_3, wx_l_1, Lx_l_3, Gr, kr, rfl, fcb_2, frl_2, fro_2, fx_a_1, fx_b_1, fx_n_1, fx_l_2, (Up.refl _ _), S⟩
def C_behind (call : CallT) : Prop := ∀ {h : Hp} {h0 : Hp} {G : Nat → Prop} {R : List AObj} {Gr : Nat → Prop} {kr : Hp} {b : Nat} {b_x : Nat} {wcb_1 : AV} {wrl_1 : AV} {Lrl_3 : List AV} {wro_1 : AV} {Lro_3 : List AV} {wx_l_1 : AV} {Lx_l_3 : List AV} {cb : List Nat} {cn : Nat} {ce : Nat} {rl : List (Nat × Nat × Nat × Nat × List Nat × Int)} {ro : List Bool} {x_op : Nat} {x_a : Nat} {x_b : Nat} {x_n : Nat} {x_l : List Nat} {x_t : Int} {kind : Nat} (fcb_2 : BIn G h0 wcb_1 cb) (frl_2 : Eng.Rows (rP (rN0 .i64) (rP (rU .u32) (rP (rU .u32) (rP (rU .u64) (rP (rL (rU .u32)) (rZ .i64)))))) Gr kr Lrl_3 rl) (fro_2 : Eng.Rows rB Gr kr Lro_3 ro) (fx_a_1 : x_a < 4294967296) (fx_b_1 : x_b < 4294967296) (fx_n_1 : x_n < 18446744073709551616) (fx_l_2 : Eng.Rows (rU .u32) Gr kr Lx_l_3 x_l) {r : List Nat × Nat × Nat × List (Nat × Nat × Nat × Nat × List Nat × Int) × List Bool × Nat × Nat × Nat × Nat × List Nat × Int}, behind_p cb cn ce rl ro x_op x_a x_b x_n x_l x_t kind = some r → Eng.Sep (Cel b [wcb_1, (vi cn), (vi ce), wrl_1, wro_1] :: Cel b_x [(vi x_op), (vw x_a), (vw x_b), (vq x_n), wx_l_1, (AV.int .i64 x_t)] :: OwnO 6 wrl_1 rl.length Lrl_3 :: OwnO 1 wro_1 ro.length Lro_3 :: OwnO 1 wx_l_1 x_l.length Lx_l_3 :: Frz Gr kr :: Frz G h0 :: R) h → ∃ rv rh, call 50 [(AV.ptr b 0), (AV.ptr b_x 0), (vi kind)] h = .ok rv rh ∧ ∃ wk1 : AV, ∃ wk3 : AV, ∃ wk6 : AV, ∃ Lk5 : List AV, ∃ Lk8 : List AV, ∃ wk12 : AV, ∃ Lk14 : List AV, ∃ Gk : Nat → Prop, ∃ kk : Hp, rv = (AV.tuple []) ∧ (BIn G h0 wk1 r.1) ∧ (Eng.Rows (rP (rN0 .i64) (rP (rU .u32) (rP (rU .u32) (rP (rU .u64) (rP (rL (rU .u32)) (rZ .i64)))))) Gk kk Lk5 r.2.2.2.1) ∧ (Eng.Rows rB Gk kk Lk8 r.2.2.2.2.1) ∧ (r.2.2.2.2.2.2.1 < 4294967296) ∧ (r.2.2.2.2.2.2.2.1 < 4294967296) ∧ (r.2.2.2.2.2.2.2.2.1 < 18446744073709551616) ∧ (Eng.Rows (rU .u32) Gk kk Lk14 r.2.2.2.2.2.2.2.2.2.1) ∧ (Up Gr kr Gk kk) ∧ Eng.Sep (Cel b (wk1 :: (vi r.2.1) :: (vi r.2.2.1) :: wk3 :: wk6 :: []) :: Cel b_x ((vi r.2.2.2.2.2.1) :: (vw r.2.2.2.2.2.2.1) :: (vw r.2.2.2.2.2.2.2.1) :: (vq r.2.2.2.2.2.2.2.2.1) :: wk12 :: (AV.int .i64 r.2.2.2.2.2.2.2.2.2.2) :: []) :: OwnO 6 wk3 r.2.2.2.1.length Lk5 :: OwnO 1 wk6 r.2.2.2.2.1.length Lk8 :: OwnO 1 wk12 r.2.2.2.2.2.2.2.2.2.1.length Lk14 :: Frz Gk kk :: Frz G h0 :: R) rh
theorem s_behind (d : Nat) : C_behind (CC (d + 6)) := by
  intro h h0 G R Gr kr b b_x wcb_1 wrl_1 Lrl_3 wro_1 Lro_3 wx_l_1 Lx_l_3 cb cn ce rl ro x_op x_a x_b x_n x_l x_t kind fcb_2 frl_2 fro_2 fx_a_1 fx_b_1 fx_n_1 fx_l_2 r hp S
  rw [CC, evF_at (sumT_none rfl)]
  exact behind_w (call := CC (d + 5)) (N := 100000) fcb_2 frl_2 fro_2 fx_a_1 fx_b_1 fx_n_1 fx_l_2 (s_fails (d + 4)) (s_cnum (d + 1)) (s_names (d + 0)) (s_constant (d + 1)) (s_blockType (d + 1)) (s_opens (d + 3)) (s_labels (d + 0)) (s_value (d + 2)) (s_tref (d + 4)) hp S
noncomputable def next_p (cb : List Nat) (cn : Nat) (ce : Nat) (rl : List (Nat × Nat × Nat × Nat × List Nat × Int)) (ro : List Bool) : Option (List Nat × Nat × Nat × List (Nat × Nat × Nat × Nat × List Nat × Int) × List Bool × Bool) :=
  (ob (fails_p cb cn ce (notB (ltI (Int.ofNat rl.length) (Int.ofNat 600))) 4) fun x3 =>
    (ob (op_p x3.1 x3.2.1 x3.2.2) fun x16 =>
    (if x16.2.2.1 ≠ 0 then (some (x16.1, x16.2.1, x16.2.2.1, rl, ro, false)) else
    (gd (OpOk x16.2.2.2) (if (kF x16.2.2.2).2 ≠ 0 then (some (x16.1, x16.2.1, (kF x16.2.2.2).2, rl, ro, false)) else
    (ob (behind_p x16.1 x16.2.1 ((kF x16.2.2.2).2) rl ro x16.2.2.2 0 0 0 ([] : List Nat) (0 : Int) ((kF x16.2.2.2).1)) fun x50 =>
    (gd ((x50.2.2.2.1.length + 1) * 56 ≤ 70368744177664) (ob (closes_p x50.1 x50.2.1 x50.2.2.1 (x50.2.2.2.1 ++ [(x50.2.2.2.2.2.1, x50.2.2.2.2.2.2.1, x50.2.2.2.2.2.2.2.1, x50.2.2.2.2.2.2.2.2.1, x50.2.2.2.2.2.2.2.2.2.1, x50.2.2.2.2.2.2.2.2.2.2)]) x50.2.2.2.2.1 x50.2.2.2.2.2.1) fun x94 =>
    (if x94.2.2.2.2.2 = true then (some (x94.1, x94.2.1, x94.2.2.1, x94.2.2.2.1, x94.2.2.2.2.1, true)) else
    (some (x94.1, x94.2.1, x94.2.2.1, x94.2.2.2.1, x94.2.2.2.2.1, false)))))))))))
theorem next_w {call : CallT} {N : Nat} {h : Hp} {h0 : Hp} {G : Nat → Prop} {R : List AObj} {Gr : Nat → Prop} {kr : Hp} {b : Nat} {wcb_1 : AV} {wrl_1 : AV} {Lrl_3 : List AV} {wro_1 : AV} {Lro_3 : List AV} {cb : List Nat} {cn : Nat} {ce : Nat} {rl : List (Nat × Nat × Nat × Nat × List Nat × Int)} {ro : List Bool} (fcb_2 : BIn G h0 wcb_1 cb) (frl_2 : Eng.Rows (rP (rN0 .i64) (rP (rU .u32) (rP (rU .u32) (rP (rU .u64) (rP (rL (rU .u32)) (rZ .i64)))))) Gr kr Lrl_3 rl) (fro_2 : Eng.Rows rB Gr kr Lro_3 ro) (h_fails : C_fails call) (h_op : C_op call) (h_kind : KindS call 49) (h_behind : C_behind call) (h_closes : C_closes call) {r : List Nat × Nat × Nat × List (Nat × Nat × Nat × Nat × List Nat × Int) × List Bool × Bool} (hp : next_p cb cn ce rl ro = some r) (S : Eng.Sep (Cel b [wcb_1, (vi cn), (vi ce), wrl_1, wro_1] :: OwnO 6 wrl_1 rl.length Lrl_3 :: OwnO 1 wro_1 ro.length Lro_3 :: Frz Gr kr :: Frz G h0 :: R) h) :
    ∃ rv rh, evF1 (progS Try.prog (compDrawn Try.prog)) N call 32 [(AV.ptr b 0)] h = .ok rv rh ∧ (fun (rv : AV) (rh : Hp) => ∃ wk1 : AV, ∃ wk3 : AV, ∃ wk6 : AV, ∃ Lk5 : List AV, ∃ Lk8 : List AV, ∃ Gk : Nat → Prop, ∃ kk : Hp, rv = (AV.bool r.2.2.2.2.2) ∧ (BIn G h0 wk1 r.1) ∧ (Eng.Rows (rP (rN0 .i64) (rP (rU .u32) (rP (rU .u32) (rP (rU .u64) (rP (rL (rU .u32)) (rZ .i64)))))) Gk kk Lk5 r.2.2.2.1) ∧ (Eng.Rows rB Gk kk Lk8 r.2.2.2.2.1) ∧ (Up Gr kr Gk kk) ∧ Eng.Sep (Cel b (wk1 :: (vi r.2.1) :: (vi r.2.2.1) :: wk3 :: wk6 :: []) :: OwnO 6 wk3 r.2.2.2.1.length Lk5 :: OwnO 1 wk6 r.2.2.2.2.1.length Lk8 :: Frz Gk kk :: Frz G h0 :: R) rh) rv rh := by
  unfold next_p at hp
  refine fwalk_ok (K := (fun (rv : AV) (rh : Hp) => ∃ wk1 : AV, ∃ wk3 : AV, ∃ wk6 : AV, ∃ Lk5 : List AV, ∃ Lk8 : List AV, ∃ Gk : Nat → Prop, ∃ kk : Hp, rv = (AV.bool r.2.2.2.2.2) ∧ (BIn G h0 wk1 r.1) ∧ (Eng.Rows (rP (rN0 .i64) (rP (rU .u32) (rP (rU .u32) (rP (rU .u64) (rP (rL (rU .u32)) (rZ .i64)))))) Gk kk Lk5 r.2.2.2.1) ∧ (Eng.Rows rB Gk kk Lk8 r.2.2.2.2.1) ∧ (Up Gr kr Gk kk) ∧ Eng.Sep (Cel b (wk1 :: (vi r.2.1) :: (vi r.2.2.1) :: wk3 :: wk6 :: []) :: OwnO 6 wk3 r.2.2.2.1.length Lk5 :: OwnO 1 wk6 r.2.2.2.2.1.length Lk8 :: Frz Gk kk :: Frz G h0 :: R) rh)) (o := (.tell 7 wrl_1 (.tell 0 (vi rl.length) (.again 1 (.exi 0 fun (x3 : List Nat × Nat × Nat) => (.exi 0 fun (w12 : AV) => (.exi 0 fun (h8 : Hp) => (.eff 0 (AV.tuple []) h8 (.exi 2 fun (x16 : List Nat × Nat × Nat × Nat) => (.exi 0 fun (w25 : AV) => (.exi 0 fun (h21 : Hp) => (.eff 0 (vi x16.2.2.2) h21 (.effx 2 (fun e30 => (AV.tuple [])) (fun e30 => (.tell 4 (vi x16.2.2.1) (.fork 0 .fin (.tell 1 (vi x16.2.2.2) (.eff 0 (AV.tuple [(vi ((kF x16.2.2.2).1)), (vi ((kF x16.2.2.2).2))]) e30.h (.effx 10 (fun e34 => (AV.tuple [])) (fun e34 => (.fork 1 .fin (.exi 2 fun (x50 : List Nat × Nat × Nat × List (Nat × Nat × Nat × Nat × List Nat × Int) × List Bool × Nat × Nat × Nat × Nat × List Nat × Int) => (.exi 0 fun (w59 : AV) => (.exi 0 fun (w61 : AV) => (.exi 0 fun (w64 : AV) => (.exi 0 fun (w70 : AV) => (.exi 0 fun (h55 : Hp) => (.eff 0 (AV.tuple []) h55 (.tell 4 w61 (.tell 0 (AV.agg [(vi x50.2.2.2.2.2.1), (vw x50.2.2.2.2.2.2.1), (vw x50.2.2.2.2.2.2.2.1), (vq x50.2.2.2.2.2.2.2.2.1), w70, (AV.int .i64 x50.2.2.2.2.2.2.2.2.2.2)]) (.ell 0 (.sl 1 1 6 true) (mkCells [(vi x50.2.2.2.2.2.1), (vw x50.2.2.2.2.2.2.1), (vw x50.2.2.2.2.2.2.2.1), (vq x50.2.2.2.2.2.2.2.2.1), w70, (AV.int .i64 x50.2.2.2.2.2.2.2.2.2.2)] 6) (.again 0 (.effx 0 (fun e76 => e76.v) (fun e76 => (.again 2 (.effx 0 (fun e87 => (AV.tuple [])) (fun e87 => (.tell 3 (vi x50.2.2.2.2.2.1) (.exi 0 fun (x94 : List Nat × Nat × Nat × List (Nat × Nat × Nat × Nat × List Nat × Int) × List Bool × Bool) => (.exi 0 fun (w103 : AV) => (.exi 0 fun (w105 : AV) => (.exi 0 fun (w108 : AV) => (.exi 0 fun (h99 : Hp) => (.eff 0 (AV.bool x94.2.2.2.2.2) h99 (.fork 0 .fin .fin))))))))))))))))))))))))))))))))))))))))))))) (p := (fun (KK : AV → Hp → Prop) => ((evQ (.loadS (.const (AV.ptr b 3))) .lf h = .ok wrl_1 ∧ ((evQ (.lenL (.const wrl_1)) .lf H0 = .ok (vi rl.length) ∧ ((again (.bin .geq (.const (vi rl.length)) (.const (vi 600))) .lf (AV.bool (notB (ltI (Int.ofNat rl.length) (Int.ofNat 600)))) h = true ∧ again (.lenL (.const wrl_1)) .lf (vi rl.length) h = true ∧ again (.loadS (.const (AV.ptr b 3))) .lf wrl_1 h = true ∧ again (.fieldAddr 3 (.const (AV.ptr b 0))) .lf (AV.ptr b 3) h = true ∧ again (.nilCheck (.const (AV.ptr b 0))) .lf (AV.ptr b 0) h = true ∧ again (.move (.const (AV.ptr b 0))) .lf (AV.ptr b 0) h = true ∧ again (.fieldAddr 0 (.const (AV.ptr b 0))) .lf (AV.ptr b 0) h = true ∧ again (.nilCheck (.const (AV.ptr b 0))) .lf (AV.ptr b 0) h = true ∧ again (.move (.const (AV.ptr b 0))) .lf (AV.ptr b 0) h = true ∧ True) ∧ (∃ x3 : List Nat × Nat × Nat, ∃ w12 : AV, ∃ h8 : Hp, (call 47 [(AV.ptr b 0), (AV.bool (notB (ltI (Int.ofNat rl.length) (Int.ofNat 600)))), (vi 4)] h = .ok (AV.tuple []) h8 ∧ (∃ x16 : List Nat × Nat × Nat × Nat, ∃ w25 : AV, ∃ h21 : Hp, (call 48 [(AV.ptr b 0)] h8 = .ok (vi x16.2.2.2) h21 ∧ (∃ e30 : Ev, evE (.store 6 (.const (AV.ptr (Hp.next h21) 0)) (.const (AV.agg [(vi x16.2.2.2), (vw 0), (vw 0), (vq 0), AV.nilSlice, (vi 0)]))) call .lf (hpush h21 (mkCells [(vi 0), (vw 0), (vw 0), (vq 0), AV.nilSlice, (vi 0)] 6)) = .ok (AV.tuple []) e30.h ∧ ((evQ (.loadS (.const (AV.ptr b 2))) .lf e30.h = .ok (vi x16.2.2.1) ∧ ((notB (eqI (Int.ofNat x16.2.2.1) (Int.ofNat 0)) = true → KK (AV.bool false) e30.h) ∧ (notB (eqI (Int.ofNat x16.2.2.1) (Int.ofNat 0)) = false → ((evQ (.loadS (.const (AV.ptr (Hp.next h21) 0))) .lf e30.h = .ok (vi x16.2.2.2) ∧ (call 49 [(vi x16.2.2.2)] e30.h = .ok (AV.tuple [(vi ((kF x16.2.2.2).1)), (vi ((kF x16.2.2.2).2))]) e30.h ∧ (∃ e34 : Ev, evE (.store 1 (.const (AV.ptr b 2)) (.const (vi ((kF x16.2.2.2).2)))) call .lf e30.h = .ok (AV.tuple []) e34.h ∧ ((notB (eqI (Int.ofNat ((kF x16.2.2.2).2)) (Int.ofNat 0)) = true → KK (AV.bool false) e34.h) ∧ (notB (eqI (Int.ofNat ((kF x16.2.2.2).2)) (Int.ofNat 0)) = false → (∃ x50 : List Nat × Nat × Nat × List (Nat × Nat × Nat × Nat × List Nat × Int) × List Bool × Nat × Nat × Nat × Nat × List Nat × Int, ∃ w59 : AV, ∃ w61 : AV, ∃ w64 : AV, ∃ w70 : AV, ∃ h55 : Hp, (call 50 [(AV.ptr b 0), (AV.ptr (Hp.next h21) 0), (vi ((kF x16.2.2.2).1))] e34.h = .ok (AV.tuple []) h55 ∧ ((evQ (.loadS (.const (AV.ptr b 3))) .lf h55 = .ok w61 ∧ ((evQ (.loadA 6 (.const (AV.ptr (Hp.next h21) 0))) .lf h55 = .ok (AV.agg [(vi x50.2.2.2.2.2.1), (vw x50.2.2.2.2.2.2.1), (vw x50.2.2.2.2.2.2.2.1), (vq x50.2.2.2.2.2.2.2.2.1), w70, (AV.int .i64 x50.2.2.2.2.2.2.2.2.2.2)]) ∧ (evL (.buildSlice 6 1 [(vi 0), (vw 0), (vw 0), (vq 0), AV.nilSlice, (vi 0)] [(0, 6, (.const (AV.agg [(vi x50.2.2.2.2.2.1), (vw x50.2.2.2.2.2.2.1), (vw x50.2.2.2.2.2.2.2.1), (vq x50.2.2.2.2.2.2.2.2.1), w70, (AV.int .i64 x50.2.2.2.2.2.2.2.2.2.2)])))]) .lf = .ok (.sl 1 1 6 true) (mkCells [(vi x50.2.2.2.2.2.1), (vw x50.2.2.2.2.2.2.1), (vw x50.2.2.2.2.2.2.2.1), (vq x50.2.2.2.2.2.2.2.2.1), w70, (AV.int .i64 x50.2.2.2.2.2.2.2.2.2.2)] 6) ∧ ((again (.loadA 6 (.const (AV.ptr (Hp.next h21) 0))) .lf (AV.agg [(vi x50.2.2.2.2.2.1), (vw x50.2.2.2.2.2.2.1), (vw x50.2.2.2.2.2.2.2.1), (vq x50.2.2.2.2.2.2.2.2.1), w70, (AV.int .i64 x50.2.2.2.2.2.2.2.2.2.2)]) (hpush h55 (mkCells [(vi x50.2.2.2.2.2.1), (vw x50.2.2.2.2.2.2.1), (vw x50.2.2.2.2.2.2.2.1), (vq x50.2.2.2.2.2.2.2.2.1), w70, (AV.int .i64 x50.2.2.2.2.2.2.2.2.2.2)] 6)) = true ∧ again (.loadS (.const (AV.ptr b 3))) .lf w61 (hpush h55 (mkCells [(vi x50.2.2.2.2.2.1), (vw x50.2.2.2.2.2.2.1), (vw x50.2.2.2.2.2.2.2.1), (vq x50.2.2.2.2.2.2.2.2.1), w70, (AV.int .i64 x50.2.2.2.2.2.2.2.2.2.2)] 6)) = true ∧ again (.fieldAddr 3 (.const (AV.ptr b 0))) .lf (AV.ptr b 3) (hpush h55 (mkCells [(vi x50.2.2.2.2.2.1), (vw x50.2.2.2.2.2.2.1), (vw x50.2.2.2.2.2.2.2.1), (vq x50.2.2.2.2.2.2.2.2.1), w70, (AV.int .i64 x50.2.2.2.2.2.2.2.2.2.2)] 6)) = true ∧ again (.nilCheck (.const (AV.ptr b 0))) .lf (AV.ptr b 0) (hpush h55 (mkCells [(vi x50.2.2.2.2.2.1), (vw x50.2.2.2.2.2.2.1), (vw x50.2.2.2.2.2.2.2.1), (vq x50.2.2.2.2.2.2.2.2.1), w70, (AV.int .i64 x50.2.2.2.2.2.2.2.2.2.2)] 6)) = true ∧ again (.move (.const (AV.ptr b 0))) .lf (AV.ptr b 0) (hpush h55 (mkCells [(vi x50.2.2.2.2.2.1), (vw x50.2.2.2.2.2.2.1), (vw x50.2.2.2.2.2.2.2.1), (vq x50.2.2.2.2.2.2.2.2.1), w70, (AV.int .i64 x50.2.2.2.2.2.2.2.2.2.2)] 6)) = true ∧ again (.move (.const (AV.ptr b 0))) .lf (AV.ptr b 0) (hpush h55 (mkCells [(vi x50.2.2.2.2.2.1), (vw x50.2.2.2.2.2.2.1), (vw x50.2.2.2.2.2.2.2.1), (vq x50.2.2.2.2.2.2.2.2.1), w70, (AV.int .i64 x50.2.2.2.2.2.2.2.2.2.2)] 6)) = true ∧ True) ∧ (∃ e76 : Ev, evE (.append 6 56 (.const w61) (.const (AV.slice (Hp.next h55) 0 1 1 6 true))) call .lf (hpush h55 (mkCells [(vi x50.2.2.2.2.2.1), (vw x50.2.2.2.2.2.2.1), (vw x50.2.2.2.2.2.2.2.1), (vq x50.2.2.2.2.2.2.2.2.1), w70, (AV.int .i64 x50.2.2.2.2.2.2.2.2.2.2)] 6)) = .ok e76.v e76.h ∧ ((again (.fieldAddr 3 (.const (AV.ptr b 0))) .lf (AV.ptr b 3) e76.h = true ∧ again (.nilCheck (.const (AV.ptr b 0))) .lf (AV.ptr b 0) e76.h = true ∧ again (.move (.const (AV.ptr b 0))) .lf (AV.ptr b 0) e76.h = true ∧ True) ∧ (∃ e87 : Ev, evE (.store 1 (.const (AV.ptr b 3)) (.const e76.v)) call .lf e76.h = .ok (AV.tuple []) e87.h ∧ ((evQ (.loadS (.const (AV.ptr (Hp.next h21) 0))) .lf e87.h = .ok (vi x50.2.2.2.2.2.1) ∧ (∃ x94 : List Nat × Nat × Nat × List (Nat × Nat × Nat × Nat × List Nat × Int) × List Bool × Bool, ∃ w103 : AV, ∃ w105 : AV, ∃ w108 : AV, ∃ h99 : Hp, (call 51 [(AV.ptr b 0), (vi x50.2.2.2.2.2.1)] e87.h = .ok (AV.bool x94.2.2.2.2.2) h99 ∧ ((x94.2.2.2.2.2 = true → KK (AV.bool true) h99) ∧ (x94.2.2.2.2.2 = false → KK (AV.bool false) h99)))))))))))))))))))))))))))))))))))))) (fun (rv : AV) (rh : Hp) => ∃ wk1 : AV, ∃ wk3 : AV, ∃ wk6 : AV, ∃ Lk5 : List AV, ∃ Lk8 : List AV, ∃ Gk : Nat → Prop, ∃ kk : Hp, rv = (AV.bool r.2.2.2.2.2) ∧ (BIn G h0 wk1 r.1) ∧ (Eng.Rows (rP (rN0 .i64) (rP (rU .u32) (rP (rU .u32) (rP (rU .u64) (rP (rL (rU .u32)) (rZ .i64)))))) Gk kk Lk5 r.2.2.2.1) ∧ (Eng.Rows rB Gk kk Lk8 r.2.2.2.2.1) ∧ (Up Gr kr Gk kk) ∧ Eng.Sep (Cel b (wk1 :: (vi r.2.1) :: (vi r.2.2.1) :: wk3 :: wk6 :: []) :: OwnO 6 wk3 r.2.2.2.1.length Lk5 :: OwnO 1 wk6 r.2.2.2.2.1.length Lk8 :: Frz Gk kk :: Frz G h0 :: R) rh)) (by kernel_rfl) ?_
  refine ⟨cel_load S (i := 0) rfl rfl, ?_⟩
  refine ⟨own_len S (i := 1) rfl, ?_⟩
  refine ⟨⟨again_of (rfl) (avEq_bool _), again_of (own_len S (i := 1) rfl) (avEq_int _ _), again_of (cel_load S (i := 0) rfl rfl) (own_same S (i := 1) rfl), again_of (rfl) (avEq_ptr _ _), again_of (rfl) (avEq_ptr _ _), again_of (rfl) (avEq_ptr _ _), again_of (rfl) (avEq_ptr _ _), again_of (rfl) (avEq_ptr _ _), again_of (rfl) (avEq_ptr _ _), trivial⟩, ?_⟩
  have S1 := S.front 4 rfl
  have S2 := S1.front 1 rfl
  have ⟨x3, hb4, hp⟩ := ob_inv hp
  obtain ⟨v7, h8, q9, w12, e10, f13, S11⟩ := h_fails fcb_2 hb4 S2
  replace e10 := e10.symm
  subst e10
  refine ⟨x3, w12, h8, q9, ?_⟩
  have ⟨x16, hb17, hp⟩ := ob_inv hp
  obtain ⟨v20, h21, q22, w25, e23, f26, S24⟩ := h_op f13 hb17 S11
  replace e23 := e23.symm
  subst e23
  refine ⟨x16, w25, h21, q22, ?_⟩
  have S29 := cel_new S24 [(vi 0), (vw 0), (vw 0), (vq 0), AV.nilSlice, (vi 0)] rfl
  obtain ⟨e30, qe30, se30⟩ := cel_storeN call S29 (i := 0) (o := 0) (n := 6) (xs := [(vi x16.2.2.2), (vw 0), (vw 0), (vq 0), AV.nilSlice, (vi 0)]) rfl (lb rfl) rfl (by decide) (all_cell rfl (all_cell rfl (all_cell rfl (all_cell rfl (all_cell rfl (all_cell rfl all_cell0))))))
  refine ⟨e30, qe30, ?_⟩
  refine ⟨cel_load se30 (i := 1) rfl rfl, ?_⟩
  refine ⟨fun c32 => ?_, fun c32 => ?_⟩
  · replace c32 := eqI_f (notB_t c32)
    replace hp := ift hp c32
    have S33 := se30.tail
    have S34 := S33.front 1 rfl
    have S35 := S34.front 4 rfl
    have S36 := S35.front 4 rfl
    have S37 := S36.front 4 rfl
    have S38 := S37.front 4 rfl
    obtain rfl := Option.some.inj hp
    exact ⟨w25, wrl_1, wro_1, Lrl_3, Lro_3, Gr, kr, rfl, f26, frl_2, fro_2, (Up.refl _ _), S38⟩
  replace c32 := eqI_t (notB_f c32)
  replace hp := iff0 hp (nneO c32)
  refine ⟨cel_load se30 (i := 0) rfl rfl, ?_⟩
  have ⟨g33, hp⟩ := gd_inv hp
  refine ⟨h_kind g33, ?_⟩
  obtain ⟨e34, qe34, se34⟩ := cel_store call se30 (i := 1) (o := 2) (x := (vi ((kF x16.2.2.2).2))) rfl (lb rfl) rfl
  refine ⟨e34, qe34, ?_⟩
  refine ⟨fun c36 => ?_, fun c36 => ?_⟩
  · replace c36 := eqI_f (notB_t c36)
    replace hp := ift hp c36
    have S37 := se34.tail
    have S38 := S37.front 1 rfl
    have S39 := S38.front 4 rfl
    have S40 := S39.front 4 rfl
    have S41 := S40.front 4 rfl
    have S42 := S41.front 4 rfl
    obtain rfl := Option.some.inj hp
    exact ⟨w25, wrl_1, wro_1, Lrl_3, Lro_3, Gr, kr, rfl, f26, frl_2, fro_2, (Up.refl _ _), S42⟩
  replace c36 := eqI_t (notB_f c36)
  replace hp := iff0 hp (nneO c36)
  have S37 := se34.empty
  have S38 := own_nil S37 1
  have S39 := S38.front 1 rfl
  have S40 := S39.front 7 rfl
  obtain ⟨G41, uG41, vG41, sG41⟩ := Sep.mergeX S40
  have S43 := sG41.front 4 rfl
  have S44 := S43.front 1 rfl
  have S45 := S44.front 2 rfl
  have S46 := S45.front 6 rfl
  have S47 := S46.front 6 rfl
  have S48 := S47.front 5 rfl
  have S49 := S48.front 6 rfl
  have ⟨x50, hb51, hp⟩ := ob_inv hp
  obtain ⟨v54, h55, q56, w59, w61, w64, L63, L66, w70, L72, G52, k53, e57, f60, f62, f65, f67, f68, f69, f71, u73, S58⟩ := h_behind f26 (Rows.up uG41 frl_2) (Rows.up uG41 fro_2) (show 0 < 4294967296 by decide) (show 0 < 4294967296 by decide) (show 0 < 18446744073709551616 by decide) (Rows.up vG41 (own_rows_nil _ _ _)) hb51 S49
  replace e57 := e57.symm
  subst e57
  refine ⟨x50, w59, w61, w64, w70, h55, q56, ?_⟩
  refine ⟨cel_load S58 (i := 0) rfl rfl, ?_⟩
  refine ⟨cel_loadA S58 (i := 1) (o := 0) (n := 6) rfl (lb rfl), ?_⟩
  refine ⟨lit_told (n := 6) (by show fillParts _ _ 6 [(vi 0), (vw 0), (vw 0), (vq 0), AV.nilSlice, (vi 0)] = _; rw [fill_cons (o := 0) (k := 6) (n := 6) rfl rfl (by decide)]; rfl) (all_cell rfl (all_cell rfl (all_cell rfl (all_cell rfl (all_cell (own_cell S58 (i := 4) rfl) (all_cell rfl all_cell0)))))) rfl, ?_⟩
  have S75 := own_new S58 6 1 [(vi x50.2.2.2.2.2.1), (vw x50.2.2.2.2.2.2.1), (vw x50.2.2.2.2.2.2.2.1), (vq x50.2.2.2.2.2.2.2.2.1), w70, (AV.int .i64 x50.2.2.2.2.2.2.2.2.2.2)] true rfl
  refine ⟨⟨again_of (cel_loadA S75 (i := 2) (o := 0) (n := 6) rfl (lb rfl)) (avEq_agg1 (avEq_int _ _) (avEq_agg1 (avEq_int _ _) (avEq_agg1 (avEq_int _ _) (avEq_agg1 (avEq_int _ _) (avEq_agg1 (own_same S75 (i := 5) rfl) (avEq_agg1 (avEq_int _ _) rfl)))))), again_of (cel_load S75 (i := 1) rfl rfl) (own_same S75 (i := 3) rfl), again_of (rfl) (avEq_ptr _ _), again_of (rfl) (avEq_ptr _ _), again_of (rfl) (avEq_ptr _ _), again_of (rfl) (avEq_ptr _ _), trivial⟩, ?_⟩
  have S77 := S75.front 6 rfl
  have S78 := S77.front 6 rfl
  obtain ⟨G79, pG79, uG79, sG79⟩ := own_freezeR (a := (rU .u32)) S78 f71 rfl
  have ⟨g81, hp⟩ := gd_inv hp
  obtain ⟨e76, qe76, se76⟩ := own_append (bytes := 56) call sG79 (i := 4) rfl (x := (AV.slice (Hp.next h55) 0 1 1 6 true)) (m := 1) (xs := [(vi x50.2.2.2.2.2.1), (vw x50.2.2.2.2.2.2.1), (vw x50.2.2.2.2.2.2.2.1), (vq x50.2.2.2.2.2.2.2.2.1), w70, (AV.int .i64 x50.2.2.2.2.2.2.2.2.2.2)]) (fun z k => own_src sG79 (i := 1) rfl z k) (own_L sG79 (i := 1) rfl) (all_cell rfl (all_cell rfl (all_cell rfl (all_cell rfl (all_cell (SIn.cell pG79) (all_cell rfl all_cell0)))))) g81 (by omega)
  obtain ⟨L82, rL82, eL82⟩ : ∃ L, Eng.Rows (rP (rN0 .i64) (rP (rU .u32) (rP (rU .u32) (rP (rU .u64) (rP (rL (rU .u32)) (rZ .i64)))))) G79 (hpush h55 (mkCells [(vi x50.2.2.2.2.2.1), (vw x50.2.2.2.2.2.2.1), (vw x50.2.2.2.2.2.2.2.1), (vq x50.2.2.2.2.2.2.2.2.1), w70, (AV.int .i64 x50.2.2.2.2.2.2.2.2.2.2)] 6)) L (x50.2.2.2.1 ++ [(x50.2.2.2.2.2.1, x50.2.2.2.2.2.2.1, x50.2.2.2.2.2.2.2.1, x50.2.2.2.2.2.2.2.2.1, x50.2.2.2.2.2.2.2.2.2.1, x50.2.2.2.2.2.2.2.2.2.2)]) ∧ L63 ++ [(vi x50.2.2.2.2.2.1), (vw x50.2.2.2.2.2.2.1), (vw x50.2.2.2.2.2.2.2.1), (vq x50.2.2.2.2.2.2.2.2.1), w70, (AV.int .i64 x50.2.2.2.2.2.2.2.2.2.2)] = L := ⟨_, (Rows.snoc (Rows.up uG79 f62) (a := (rP (rN0 .i64) (rP (rU .u32) (rP (rU .u32) (rP (rU .u64) (rP (rL (rU .u32)) (rZ .i64))))))) (x := (x50.2.2.2.2.2.1, x50.2.2.2.2.2.2.1, x50.2.2.2.2.2.2.2.1, x50.2.2.2.2.2.2.2.2.1, x50.2.2.2.2.2.2.2.2.2.1, x50.2.2.2.2.2.2.2.2.2.2)) ⟨_, _, rfl, rfl, ⟨_, _, rfl, ⟨rfl, f67⟩, ⟨_, _, rfl, ⟨rfl, f68⟩, ⟨_, _, rfl, ⟨rfl, f69⟩, ⟨_, _, rfl, ⟨w70, rfl, pG79⟩, rfl⟩⟩⟩⟩⟩), rfl⟩
  have S84 : Sep (Frz G79 (hpush h55 (mkCells [(vi x50.2.2.2.2.2.1), (vw x50.2.2.2.2.2.2.1), (vw x50.2.2.2.2.2.2.2.1), (vq x50.2.2.2.2.2.2.2.2.1), w70, (AV.int .i64 x50.2.2.2.2.2.2.2.2.2.2)] 6)) :: OwnO 6 (AV.slice (Hp.next h55) 0 1 1 6 true) 1 [(vi x50.2.2.2.2.2.1), (vw x50.2.2.2.2.2.2.1), (vw x50.2.2.2.2.2.2.2.1), (vq x50.2.2.2.2.2.2.2.2.1), w70, (AV.int .i64 x50.2.2.2.2.2.2.2.2.2.2)] :: Cel b [w59, (vi x50.2.1), (vi x50.2.2.1), w61, w64] :: Cel (Hp.next h21) [(vi x50.2.2.2.2.2.1), (vw x50.2.2.2.2.2.2.1), (vw x50.2.2.2.2.2.2.2.1), (vq x50.2.2.2.2.2.2.2.2.1), w70, (AV.int .i64 x50.2.2.2.2.2.2.2.2.2.2)] :: OwnO 6 e76.v ((x50.2.2.2.1 ++ [(x50.2.2.2.2.2.1, x50.2.2.2.2.2.2.1, x50.2.2.2.2.2.2.2.1, x50.2.2.2.2.2.2.2.2.1, x50.2.2.2.2.2.2.2.2.2.1, x50.2.2.2.2.2.2.2.2.2.2)]).length) L82 :: OwnO 1 w64 x50.2.2.2.2.1.length L66 :: Frz G h0 :: R) e76.h := (by have z := se76; rw [eL82, show x50.2.2.2.1.length + 1 = (x50.2.2.2.1 ++ [(x50.2.2.2.2.2.1, x50.2.2.2.2.2.2.1, x50.2.2.2.2.2.2.2.1, x50.2.2.2.2.2.2.2.2.1, x50.2.2.2.2.2.2.2.2.2.1, x50.2.2.2.2.2.2.2.2.2.2)]).length from by simp] at z; exact z)
  have S85 := S84.front 1 rfl
  have S86 := S85.tail
  refine ⟨e76, qe76, ?_⟩
  refine ⟨⟨again_of (rfl) (avEq_ptr _ _), again_of (rfl) (avEq_ptr _ _), again_of (rfl) (avEq_ptr _ _), trivial⟩, ?_⟩
  obtain ⟨e87, qe87, se87⟩ := cel_store call S86 (i := 1) (o := 3) (x := e76.v) rfl (lb rfl) (own_cell S86 (i := 3) rfl)
  refine ⟨e87, qe87, ?_⟩
  refine ⟨cel_load se87 (i := 2) rfl rfl, ?_⟩
  have S89 := se87.front 5 rfl
  have S90 := S89.front 1 rfl
  have S91 := S90.front 5 rfl
  have S92 := S91.front 5 rfl
  have S93 := S92.front 4 rfl
  have ⟨x94, hb95, hp⟩ := ob_inv hp
  obtain ⟨v98, h99, q100, w103, w105, w108, L107, L110, G96, k97, e101, f104, f106, f109, u111, S102⟩ := h_closes f60 rL82 (Rows.up uG79 f65) hb95 S93
  replace e101 := e101.symm
  subst e101
  refine ⟨x94, w103, w105, w108, h99, q100, ?_⟩
  refine ⟨fun c113 => ?_, fun c113 => ?_⟩
  · replace hp := ift hp c113
    have S114 := S102.front 5 rfl
    have S115 := S114.tail
    obtain rfl := Option.some.inj hp
    exact ⟨w103, w105, w108, L107, L110, G96, k97, rfl, f104, f106, f109, (Up.trans (Up.trans (Up.trans (Up.trans (Up.refl _ _) uG41) u73) uG79) u111), S115⟩
  replace hp := iff0 hp (nbF c113)
  have S114 := S102.front 5 rfl
  have S115 := S114.tail
  obtain rfl := Option.some.inj hp
  exact ⟨w103, w105, w108, L107, L110, G96, k97, rfl, f104, f106, f109, (Up.trans (Up.trans (Up.trans (Up.trans (Up.refl _ _) uG41) u73) uG79) u111), S115⟩
def C_next (call : CallT) : Prop := ∀ {h : Hp} {h0 : Hp} {G : Nat → Prop} {R : List AObj} {Gr : Nat → Prop} {kr : Hp} {b : Nat} {wcb_1 : AV} {wrl_1 : AV} {Lrl_3 : List AV} {wro_1 : AV} {Lro_3 : List AV} {cb : List Nat} {cn : Nat} {ce : Nat} {rl : List (Nat × Nat × Nat × Nat × List Nat × Int)} {ro : List Bool} (fcb_2 : BIn G h0 wcb_1 cb) (frl_2 : Eng.Rows (rP (rN0 .i64) (rP (rU .u32) (rP (rU .u32) (rP (rU .u64) (rP (rL (rU .u32)) (rZ .i64)))))) Gr kr Lrl_3 rl) (fro_2 : Eng.Rows rB Gr kr Lro_3 ro) {r : List Nat × Nat × Nat × List (Nat × Nat × Nat × Nat × List Nat × Int) × List Bool × Bool}, next_p cb cn ce rl ro = some r → Eng.Sep (Cel b [wcb_1, (vi cn), (vi ce), wrl_1, wro_1] :: OwnO 6 wrl_1 rl.length Lrl_3 :: OwnO 1 wro_1 ro.length Lro_3 :: Frz Gr kr :: Frz G h0 :: R) h → ∃ rv rh, call 32 [(AV.ptr b 0)] h = .ok rv rh ∧ ∃ wk1 : AV, ∃ wk3 : AV, ∃ wk6 : AV, ∃ Lk5 : List AV, ∃ Lk8 : List AV, ∃ Gk : Nat → Prop, ∃ kk : Hp, rv = (AV.bool r.2.2.2.2.2) ∧ (BIn G h0 wk1 r.1) ∧ (Eng.Rows (rP (rN0 .i64) (rP (rU .u32) (rP (rU .u32) (rP (rU .u64) (rP (rL (rU .u32)) (rZ .i64)))))) Gk kk Lk5 r.2.2.2.1) ∧ (Eng.Rows rB Gk kk Lk8 r.2.2.2.2.1) ∧ (Up Gr kr Gk kk) ∧ Eng.Sep (Cel b (wk1 :: (vi r.2.1) :: (vi r.2.2.1) :: wk3 :: wk6 :: []) :: OwnO 6 wk3 r.2.2.2.1.length Lk5 :: OwnO 1 wk6 r.2.2.2.2.1.length Lk8 :: Frz Gk kk :: Frz G h0 :: R) rh
theorem s_next (d : Nat) : C_next (CC (d + 7)) := by
  intro h h0 G R Gr kr b wcb_1 wrl_1 Lrl_3 wro_1 Lro_3 cb cn ce rl ro fcb_2 frl_2 fro_2 r hp S
  rw [CC, evF_at (sumT_none rfl)]
  exact next_w (call := CC (d + 6)) (N := 100000) fcb_2 frl_2 fro_2 (s_fails (d + 5)) (s_op (d + 1)) (s_kind (d + 3)) (s_behind (d + 0)) (s_closes (d + 4)) hp S
noncomputable def take_l1  : Nat → List Nat → Nat → Nat → List Nat → Nat → Nat → List (Nat × Nat × Nat × Nat × List Nat × Int) → List Bool → Option (LO (List Nat × Nat × Nat × List Nat × Nat × Nat × List (Nat × Nat × Nat × Nat × List Nat × Int) × List Bool) (List (Nat × Nat × Nat × Nat × List Nat × Int) × Nat × Nat))
  | 0, _, _, _, _, _, _, _, _ => none
  | m + 1, A2, A3, A4, Q101_0, Q101_1, Q101_2, Q101_3, Q101_4 =>
    (ob (next_p Q101_0 Q101_1 Q101_2 Q101_3 Q101_4) fun x1 =>
    (if x1.2.2.2.2.2 = false then (if x1.2.2.1 ≠ 0 then (some (LO.rt ([], 0, x1.2.2.1))) else
    (take_l1  m A2 A3 A4 x1.1 x1.2.1 x1.2.2.1 x1.2.2.2.1 x1.2.2.2.2.1)) else
    (some (LO.ex (A2, A3, A4, x1.1, x1.2.1, x1.2.2.1, x1.2.2.2.1, x1.2.2.2.2.1)))))
noncomputable def take_l1C : AC := (.seq (.seq (.region [⟨(some 10), .q (.move (.tmp 5)), none⟩, ⟨(some 11), .e (.call (.const (AV.func (.func 32) [] [])) [(.tmp 10)]), none⟩, ⟨(some 12), .q (.un .not (.tmp 11)), none⟩]) (.cond (.tmp 12) .skip (.exit 0))) (.block 1 (.seq (.region [⟨(some 13), .q (.move (.tmp 5)), none⟩, ⟨(some 14), .q (.nilCheck (.tmp 13)), none⟩, ⟨(some 15), .q (.fieldAddr 0 (.tmp 14)), none⟩, ⟨(some 16), .q (.fieldAddr 2 (.tmp 15)), none⟩, ⟨(some 17), .q (.loadS (.tmp 16)), none⟩, ⟨(some 18), .q (.eq .int true (.tmp 17) (.const (vi 0))), none⟩]) (.cond (.tmp 18) (.seq (.drawn [⟨[(⟨(some 19), .q (.move (.tmp 5)), none⟩, 0), (⟨(some 20), .q (.nilCheck (.tmp 19)), none⟩, 0), (⟨(some 21), .q (.fieldAddr 0 (.tmp 20)), none⟩, 0), (⟨(some 22), .q (.fieldAddr 2 (.tmp 21)), none⟩, 0), (⟨(some 23), .q (.loadS (.tmp 22)), none⟩, 0), (⟨(some 2), .q (.move (.const AV.nilSlice)), none⟩, 0), (⟨(some 3), .q (.move (.const (vi 0))), none⟩, 0), (⟨(some 4), .q (.move (.tmp 23)), none⟩, 0)], none⟩]) .ret) .skip))))
theorem take_l1_body {call : CallT} {N : Nat} {t : T} {h : Hp} {b101 : Nat} {ZG_102 : Nat → Prop} {Zk_102 : Hp} {G : Nat → Prop} {h0 : Hp}   (h_next : C_next call) {o : LO (List Nat × Nat × Nat × List Nat × Nat × Nat × List (Nat × Nat × Nat × Nat × List Nat × Int) × List Bool) (List (Nat × Nat × Nat × Nat × List Nat × Int) × Nat × Nat)} {n : Nat} {A2 : List Nat} {A3 : Nat} {A4 : Nat} {Q101_0 : List Nat} {Q101_1 : Nat} {Q101_2 : Nat} {Q101_3 : List (Nat × Nat × Nat × Nat × List Nat × Int)} {Q101_4 : List Bool} {wA2_1 : AV} {wQ101_0_1 : AV} {wQ101_3 : AV} {LQ101_3 : List AV} {wQ101_4 : AV} {LQ101_4 : List AV} {G_102 : Nat → Prop} {k_102 : Hp} (hN : 90000 < N) (hi : (fun (z : Nat × List Nat × Nat × Nat × List Nat × Nat × Nat × List (Nat × Nat × Nat × Nat × List Nat × Int) × List Bool × AV × AV × AV × List AV × AV × List AV × (Nat → Prop) × Hp) (h' : Hp) => take_l1  z.1 z.2.1 z.2.2.1 z.2.2.2.1 z.2.2.2.2.1 z.2.2.2.2.2.1 z.2.2.2.2.2.2.1 z.2.2.2.2.2.2.2.1 z.2.2.2.2.2.2.2.2.1 = some o ∧ (BIn G h0 z.2.2.2.2.2.2.2.2.2.1 z.2.1) ∧ (BIn G h0 z.2.2.2.2.2.2.2.2.2.2.1 z.2.2.2.2.1) ∧ (Eng.Rows (rP (rN0 .i64) (rP (rU .u32) (rP (rU .u32) (rP (rU .u64) (rP (rL (rU .u32)) (rZ .i64)))))) z.2.2.2.2.2.2.2.2.2.2.2.2.2.2.2.1 z.2.2.2.2.2.2.2.2.2.2.2.2.2.2.2.2 z.2.2.2.2.2.2.2.2.2.2.2.2.1 z.2.2.2.2.2.2.2.1) ∧ (Eng.Rows rB z.2.2.2.2.2.2.2.2.2.2.2.2.2.2.2.1 z.2.2.2.2.2.2.2.2.2.2.2.2.2.2.2.2 z.2.2.2.2.2.2.2.2.2.2.2.2.2.2.1 z.2.2.2.2.2.2.2.2.1) ∧ (Up ZG_102 Zk_102 z.2.2.2.2.2.2.2.2.2.2.2.2.2.2.2.1 z.2.2.2.2.2.2.2.2.2.2.2.2.2.2.2.2) ∧ Eng.Sep [Cel b101 [z.2.2.2.2.2.2.2.2.2.2.1, (vi z.2.2.2.2.2.1), (vi z.2.2.2.2.2.2.1), z.2.2.2.2.2.2.2.2.2.2.2.1, z.2.2.2.2.2.2.2.2.2.2.2.2.2.1], OwnO 6 z.2.2.2.2.2.2.2.2.2.2.2.1 z.2.2.2.2.2.2.2.1.length z.2.2.2.2.2.2.2.2.2.2.2.2.1, OwnO 1 z.2.2.2.2.2.2.2.2.2.2.2.2.2.1 z.2.2.2.2.2.2.2.2.1.length z.2.2.2.2.2.2.2.2.2.2.2.2.2.2.1, Frz z.2.2.2.2.2.2.2.2.2.2.2.2.2.2.2.1 z.2.2.2.2.2.2.2.2.2.2.2.2.2.2.2.2, Frz G h0] h') (n, A2, A3, A4, Q101_0, Q101_1, Q101_2, Q101_3, Q101_4, wA2_1, wQ101_0_1, wQ101_3, LQ101_3, wQ101_4, LQ101_4, G_102, k_102) h)
    : ∃ s, evC call N take_l1C (ovT [(2, wA2_1), (3, (vi A3)), (4, (vi A4)), (5, (AV.ptr b101 0))] t) h = s ∧ obsS [2, 3, 4, 5] (fun ls h' => ∃ y, ls = ((fun (z : Nat × List Nat × Nat × Nat × List Nat × Nat × Nat × List (Nat × Nat × Nat × Nat × List Nat × Int) × List Bool × AV × AV × AV × List AV × AV × List AV × (Nat → Prop) × Hp) => [(2, z.2.2.2.2.2.2.2.2.2.1), (3, (vi z.2.2.1)), (4, (vi z.2.2.2.1)), (5, (AV.ptr b101 0))]) y).map (fun p => some p.2) ∧ (fun (z : Nat × List Nat × Nat × Nat × List Nat × Nat × Nat × List (Nat × Nat × Nat × Nat × List Nat × Int) × List Bool × AV × AV × AV × List AV × AV × List AV × (Nat → Prop) × Hp) (h' : Hp) => take_l1  z.1 z.2.1 z.2.2.1 z.2.2.2.1 z.2.2.2.2.1 z.2.2.2.2.2.1 z.2.2.2.2.2.2.1 z.2.2.2.2.2.2.2.1 z.2.2.2.2.2.2.2.2.1 = some o ∧ (BIn G h0 z.2.2.2.2.2.2.2.2.2.1 z.2.1) ∧ (BIn G h0 z.2.2.2.2.2.2.2.2.2.2.1 z.2.2.2.2.1) ∧ (Eng.Rows (rP (rN0 .i64) (rP (rU .u32) (rP (rU .u32) (rP (rU .u64) (rP (rL (rU .u32)) (rZ .i64)))))) z.2.2.2.2.2.2.2.2.2.2.2.2.2.2.2.1 z.2.2.2.2.2.2.2.2.2.2.2.2.2.2.2.2 z.2.2.2.2.2.2.2.2.2.2.2.2.1 z.2.2.2.2.2.2.2.1) ∧ (Eng.Rows rB z.2.2.2.2.2.2.2.2.2.2.2.2.2.2.2.1 z.2.2.2.2.2.2.2.2.2.2.2.2.2.2.2.2 z.2.2.2.2.2.2.2.2.2.2.2.2.2.2.1 z.2.2.2.2.2.2.2.2.1) ∧ (Up ZG_102 Zk_102 z.2.2.2.2.2.2.2.2.2.2.2.2.2.2.2.1 z.2.2.2.2.2.2.2.2.2.2.2.2.2.2.2.2) ∧ Eng.Sep [Cel b101 [z.2.2.2.2.2.2.2.2.2.2.1, (vi z.2.2.2.2.2.1), (vi z.2.2.2.2.2.2.1), z.2.2.2.2.2.2.2.2.2.2.2.1, z.2.2.2.2.2.2.2.2.2.2.2.2.2.1], OwnO 6 z.2.2.2.2.2.2.2.2.2.2.2.1 z.2.2.2.2.2.2.2.1.length z.2.2.2.2.2.2.2.2.2.2.2.2.1, OwnO 1 z.2.2.2.2.2.2.2.2.2.2.2.2.2.1 z.2.2.2.2.2.2.2.2.1.length z.2.2.2.2.2.2.2.2.2.2.2.2.2.2.1, Frz z.2.2.2.2.2.2.2.2.2.2.2.2.2.2.2.1 z.2.2.2.2.2.2.2.2.2.2.2.2.2.2.2.2, Frz G h0] h') y h' ∧ (fun (z : Nat × List Nat × Nat × Nat × List Nat × Nat × Nat × List (Nat × Nat × Nat × Nat × List Nat × Int) × List Bool × AV × AV × AV × List AV × AV × List AV × (Nat → Prop) × Hp) => z.1) y < (fun (z : Nat × List Nat × Nat × Nat × List Nat × Nat × Nat × List (Nat × Nat × Nat × Nat × List Nat × Int) × List Bool × AV × AV × AV × List AV × AV × List AV × (Nat → Prop) × Hp) => z.1) (n, A2, A3, A4, Q101_0, Q101_1, Q101_2, Q101_3, Q101_4, wA2_1, wQ101_0_1, wQ101_3, LQ101_3, wQ101_4, LQ101_4, G_102, k_102)) (fun i ls h' => ∃ y, ls = ((fun (z : Nat × List Nat × Nat × Nat × List Nat × Nat × Nat × List (Nat × Nat × Nat × Nat × List Nat × Int) × List Bool × AV × AV × AV × List AV × AV × List AV × (Nat → Prop) × Hp) => [(2, z.2.2.2.2.2.2.2.2.2.1), (3, (vi z.2.2.1)), (4, (vi z.2.2.2.1)), (5, (AV.ptr b101 0))]) y).map (fun p => some p.2) ∧ (fun (i : Nat) (z : Nat × List Nat × Nat × Nat × List Nat × Nat × Nat × List (Nat × Nat × Nat × Nat × List Nat × Int) × List Bool × AV × AV × AV × List AV × AV × List AV × (Nat → Prop) × Hp) (h' : Hp) => (i = 0) ∧ (i = 0 → o = LO.ex (z.2.1, z.2.2.1, z.2.2.2.1, z.2.2.2.2.1, z.2.2.2.2.2.1, z.2.2.2.2.2.2.1, z.2.2.2.2.2.2.2.1, z.2.2.2.2.2.2.2.2.1) ∧ (BIn G h0 z.2.2.2.2.2.2.2.2.2.1 z.2.1) ∧ (BIn G h0 z.2.2.2.2.2.2.2.2.2.2.1 z.2.2.2.2.1) ∧ (Eng.Rows (rP (rN0 .i64) (rP (rU .u32) (rP (rU .u32) (rP (rU .u64) (rP (rL (rU .u32)) (rZ .i64)))))) z.2.2.2.2.2.2.2.2.2.2.2.2.2.2.2.1 z.2.2.2.2.2.2.2.2.2.2.2.2.2.2.2.2 z.2.2.2.2.2.2.2.2.2.2.2.2.1 z.2.2.2.2.2.2.2.1) ∧ (Eng.Rows rB z.2.2.2.2.2.2.2.2.2.2.2.2.2.2.2.1 z.2.2.2.2.2.2.2.2.2.2.2.2.2.2.2.2 z.2.2.2.2.2.2.2.2.2.2.2.2.2.2.1 z.2.2.2.2.2.2.2.2.1) ∧ (Up ZG_102 Zk_102 z.2.2.2.2.2.2.2.2.2.2.2.2.2.2.2.1 z.2.2.2.2.2.2.2.2.2.2.2.2.2.2.2.2) ∧ Eng.Sep [Cel b101 [z.2.2.2.2.2.2.2.2.2.2.1, (vi z.2.2.2.2.2.1), (vi z.2.2.2.2.2.2.1), z.2.2.2.2.2.2.2.2.2.2.2.1, z.2.2.2.2.2.2.2.2.2.2.2.2.2.1], OwnO 6 z.2.2.2.2.2.2.2.2.2.2.2.1 z.2.2.2.2.2.2.2.1.length z.2.2.2.2.2.2.2.2.2.2.2.2.1, OwnO 1 z.2.2.2.2.2.2.2.2.2.2.2.2.2.1 z.2.2.2.2.2.2.2.2.1.length z.2.2.2.2.2.2.2.2.2.2.2.2.2.2.1, Frz z.2.2.2.2.2.2.2.2.2.2.2.2.2.2.2.1 z.2.2.2.2.2.2.2.2.2.2.2.2.2.2.2.2, Frz G h0] h')) i y h') (fun ls h' => (fun (ls : List (Option AV)) (h' : Hp) => ∃ (rt : List (Nat × Nat × Nat × Nat × List Nat × Int) × Nat × Nat) (v2 : AV) (v3 : AV) (v4 : AV), o = LO.rt rt ∧ ls[0]? = some (some v2) ∧ ls[1]? = some (some v3) ∧ ls[2]? = some (some v4) ∧ (∃ wk1 : AV, ∃ Lk3 : List AV, ∃ Gk : Nat → Prop, ∃ kk : Hp, (.tuple [v2, v3, v4]) = (AV.tuple [wk1, (vi rt.2.1), (vi rt.2.2)]) ∧ (Eng.Rows (rP (rN0 .i64) (rP (rU .u32) (rP (rU .u32) (rP (rU .u64) (rP (rL (rU .u32)) (rZ .i64)))))) Gk kk Lk3 rt.1) ∧ Eng.Sep (OwnO 6 wk1 rt.1.length Lk3 :: Frz Gk kk :: Frz G h0 :: []) h')) ls h') s := by
  have hi : take_l1  n A2 A3 A4 Q101_0 Q101_1 Q101_2 Q101_3 Q101_4 = some o ∧ (BIn G h0 wA2_1 A2) ∧ (BIn G h0 wQ101_0_1 Q101_0) ∧ (Eng.Rows (rP (rN0 .i64) (rP (rU .u32) (rP (rU .u32) (rP (rU .u64) (rP (rL (rU .u32)) (rZ .i64)))))) G_102 k_102 LQ101_3 Q101_3) ∧ (Eng.Rows rB G_102 k_102 LQ101_4 Q101_4) ∧ (Up ZG_102 Zk_102 G_102 k_102) ∧ Eng.Sep [Cel b101 [wQ101_0_1, (vi Q101_1), (vi Q101_2), wQ101_3, wQ101_4], OwnO 6 wQ101_3 Q101_3.length LQ101_3, OwnO 1 wQ101_4 Q101_4.length LQ101_4, Frz G_102 k_102, Frz G h0] h := hi
  obtain ⟨hp, fA2_2, fQ101_0_2, fQ101_3, fQ101_4, fU_102, S⟩ := hi
  obtain ⟨m, hm⟩ : ∃ m, n = m + 1 := by
    cases n with
    | zero => first | cases hp | (unfold take_l1 at hp; cases hp) | (simp [take_l1] at hp)
    | succ m => exact ⟨m, rfl⟩
  rw [hm] at hp
  unfold take_l1 at hp
  refine walk_ok (o := (.exi 1 fun (x1 : List Nat × Nat × Nat × List (Nat × Nat × Nat × Nat × List Nat × Int) × List Bool × Bool) => (.exi 0 fun (w10 : AV) => (.exi 0 fun (w12 : AV) => (.exi 0 fun (w15 : AV) => (.exi 0 fun (h6 : Hp) => (.eff 0 (AV.bool x1.2.2.2.2.2) h6 (.fork 0 (.tell 4 (vi x1.2.2.1) (.fork 0 (.tell 4 (vi x1.2.2.1) (.again 3 .fin)) .fin)) .fin)))))))) (p := (fun (KN : List (Option AV) → Hp → Prop) (KE : Nat → List (Option AV) → Hp → Prop) (KR : List (Option AV) → Hp → Prop) => (∃ x1 : List Nat × Nat × Nat × List (Nat × Nat × Nat × Nat × List Nat × Int) × List Bool × Bool, ∃ w10 : AV, ∃ w12 : AV, ∃ w15 : AV, ∃ h6 : Hp, (call 32 [(AV.ptr b101 0)] h = .ok (AV.bool x1.2.2.2.2.2) h6 ∧ ((notB x1.2.2.2.2.2 = true → ((evQ (.loadS (.const (AV.ptr b101 2))) .lf h6 = .ok (vi x1.2.2.1) ∧ ((notB (eqI (Int.ofNat x1.2.2.1) (Int.ofNat 0)) = true → ((evQ (.loadS (.const (AV.ptr b101 2))) .lf h6 = .ok (vi x1.2.2.1) ∧ ((again (.move (.const (vi x1.2.2.1))) .lf (vi x1.2.2.1) h6 = true ∧ again (.move (.const (vi 0))) .lf (vi 0) h6 = true ∧ again (.move (.const AV.nilSlice)) .lf AV.nilSlice h6 = true ∧ again (.loadS (.const (AV.ptr b101 2))) .lf (vi x1.2.2.1) h6 = true ∧ again (.fieldAddr 2 (.const (AV.ptr b101 0))) .lf (AV.ptr b101 2) h6 = true ∧ again (.fieldAddr 0 (.const (AV.ptr b101 0))) .lf (AV.ptr b101 0) h6 = true ∧ again (.nilCheck (.const (AV.ptr b101 0))) .lf (AV.ptr b101 0) h6 = true ∧ again (.move (.const (AV.ptr b101 0))) .lf (AV.ptr b101 0) h6 = true ∧ True) ∧ KR [some AV.nilSlice, some (vi 0), some (vi x1.2.2.1), some (AV.ptr b101 0)] h6)))) ∧ (notB (eqI (Int.ofNat x1.2.2.1) (Int.ofNat 0)) = false → KN [some wA2_1, some (vi A3), some (vi A4), some (AV.ptr b101 0)] h6))))) ∧ (notB x1.2.2.2.2.2 = false → KE 0 [some wA2_1, some (vi A3), some (vi A4), some (AV.ptr b101 0)] h6))))) (fun ls h' => ∃ y, ls = ((fun (z : Nat × List Nat × Nat × Nat × List Nat × Nat × Nat × List (Nat × Nat × Nat × Nat × List Nat × Int) × List Bool × AV × AV × AV × List AV × AV × List AV × (Nat → Prop) × Hp) => [(2, z.2.2.2.2.2.2.2.2.2.1), (3, (vi z.2.2.1)), (4, (vi z.2.2.2.1)), (5, (AV.ptr b101 0))]) y).map (fun p => some p.2) ∧ (fun (z : Nat × List Nat × Nat × Nat × List Nat × Nat × Nat × List (Nat × Nat × Nat × Nat × List Nat × Int) × List Bool × AV × AV × AV × List AV × AV × List AV × (Nat → Prop) × Hp) (h' : Hp) => take_l1  z.1 z.2.1 z.2.2.1 z.2.2.2.1 z.2.2.2.2.1 z.2.2.2.2.2.1 z.2.2.2.2.2.2.1 z.2.2.2.2.2.2.2.1 z.2.2.2.2.2.2.2.2.1 = some o ∧ (BIn G h0 z.2.2.2.2.2.2.2.2.2.1 z.2.1) ∧ (BIn G h0 z.2.2.2.2.2.2.2.2.2.2.1 z.2.2.2.2.1) ∧ (Eng.Rows (rP (rN0 .i64) (rP (rU .u32) (rP (rU .u32) (rP (rU .u64) (rP (rL (rU .u32)) (rZ .i64)))))) z.2.2.2.2.2.2.2.2.2.2.2.2.2.2.2.1 z.2.2.2.2.2.2.2.2.2.2.2.2.2.2.2.2 z.2.2.2.2.2.2.2.2.2.2.2.2.1 z.2.2.2.2.2.2.2.1) ∧ (Eng.Rows rB z.2.2.2.2.2.2.2.2.2.2.2.2.2.2.2.1 z.2.2.2.2.2.2.2.2.2.2.2.2.2.2.2.2 z.2.2.2.2.2.2.2.2.2.2.2.2.2.2.1 z.2.2.2.2.2.2.2.2.1) ∧ (Up ZG_102 Zk_102 z.2.2.2.2.2.2.2.2.2.2.2.2.2.2.2.1 z.2.2.2.2.2.2.2.2.2.2.2.2.2.2.2.2) ∧ Eng.Sep [Cel b101 [z.2.2.2.2.2.2.2.2.2.2.1, (vi z.2.2.2.2.2.1), (vi z.2.2.2.2.2.2.1), z.2.2.2.2.2.2.2.2.2.2.2.1, z.2.2.2.2.2.2.2.2.2.2.2.2.2.1], OwnO 6 z.2.2.2.2.2.2.2.2.2.2.2.1 z.2.2.2.2.2.2.2.1.length z.2.2.2.2.2.2.2.2.2.2.2.2.1, OwnO 1 z.2.2.2.2.2.2.2.2.2.2.2.2.2.1 z.2.2.2.2.2.2.2.2.1.length z.2.2.2.2.2.2.2.2.2.2.2.2.2.2.1, Frz z.2.2.2.2.2.2.2.2.2.2.2.2.2.2.2.1 z.2.2.2.2.2.2.2.2.2.2.2.2.2.2.2.2, Frz G h0] h') y h' ∧ (fun (z : Nat × List Nat × Nat × Nat × List Nat × Nat × Nat × List (Nat × Nat × Nat × Nat × List Nat × Int) × List Bool × AV × AV × AV × List AV × AV × List AV × (Nat → Prop) × Hp) => z.1) y < (fun (z : Nat × List Nat × Nat × Nat × List Nat × Nat × Nat × List (Nat × Nat × Nat × Nat × List Nat × Int) × List Bool × AV × AV × AV × List AV × AV × List AV × (Nat → Prop) × Hp) => z.1) (n, A2, A3, A4, Q101_0, Q101_1, Q101_2, Q101_3, Q101_4, wA2_1, wQ101_0_1, wQ101_3, LQ101_3, wQ101_4, LQ101_4, G_102, k_102)) (fun i ls h' => ∃ y, ls = ((fun (z : Nat × List Nat × Nat × Nat × List Nat × Nat × Nat × List (Nat × Nat × Nat × Nat × List Nat × Int) × List Bool × AV × AV × AV × List AV × AV × List AV × (Nat → Prop) × Hp) => [(2, z.2.2.2.2.2.2.2.2.2.1), (3, (vi z.2.2.1)), (4, (vi z.2.2.2.1)), (5, (AV.ptr b101 0))]) y).map (fun p => some p.2) ∧ (fun (i : Nat) (z : Nat × List Nat × Nat × Nat × List Nat × Nat × Nat × List (Nat × Nat × Nat × Nat × List Nat × Int) × List Bool × AV × AV × AV × List AV × AV × List AV × (Nat → Prop) × Hp) (h' : Hp) => (i = 0) ∧ (i = 0 → o = LO.ex (z.2.1, z.2.2.1, z.2.2.2.1, z.2.2.2.2.1, z.2.2.2.2.2.1, z.2.2.2.2.2.2.1, z.2.2.2.2.2.2.2.1, z.2.2.2.2.2.2.2.2.1) ∧ (BIn G h0 z.2.2.2.2.2.2.2.2.2.1 z.2.1) ∧ (BIn G h0 z.2.2.2.2.2.2.2.2.2.2.1 z.2.2.2.2.1) ∧ (Eng.Rows (rP (rN0 .i64) (rP (rU .u32) (rP (rU .u32) (rP (rU .u64) (rP (rL (rU .u32)) (rZ .i64)))))) z.2.2.2.2.2.2.2.2.2.2.2.2.2.2.2.1 z.2.2.2.2.2.2.2.2.2.2.2.2.2.2.2.2 z.2.2.2.2.2.2.2.2.2.2.2.2.1 z.2.2.2.2.2.2.2.1) ∧ (Eng.Rows rB z.2.2.2.2.2.2.2.2.2.2.2.2.2.2.2.1 z.2.2.2.2.2.2.2.2.2.2.2.2.2.2.2.2 z.2.2.2.2.2.2.2.2.2.2.2.2.2.2.1 z.2.2.2.2.2.2.2.2.1) ∧ (Up ZG_102 Zk_102 z.2.2.2.2.2.2.2.2.2.2.2.2.2.2.2.1 z.2.2.2.2.2.2.2.2.2.2.2.2.2.2.2.2) ∧ Eng.Sep [Cel b101 [z.2.2.2.2.2.2.2.2.2.2.1, (vi z.2.2.2.2.2.1), (vi z.2.2.2.2.2.2.1), z.2.2.2.2.2.2.2.2.2.2.2.1, z.2.2.2.2.2.2.2.2.2.2.2.2.2.1], OwnO 6 z.2.2.2.2.2.2.2.2.2.2.2.1 z.2.2.2.2.2.2.2.1.length z.2.2.2.2.2.2.2.2.2.2.2.2.1, OwnO 1 z.2.2.2.2.2.2.2.2.2.2.2.2.2.1 z.2.2.2.2.2.2.2.2.1.length z.2.2.2.2.2.2.2.2.2.2.2.2.2.2.1, Frz z.2.2.2.2.2.2.2.2.2.2.2.2.2.2.2.1 z.2.2.2.2.2.2.2.2.2.2.2.2.2.2.2.2, Frz G h0] h')) i y h') (fun ls h' => (fun (ls : List (Option AV)) (h' : Hp) => ∃ (rt : List (Nat × Nat × Nat × Nat × List Nat × Int) × Nat × Nat) (v2 : AV) (v3 : AV) (v4 : AV), o = LO.rt rt ∧ ls[0]? = some (some v2) ∧ ls[1]? = some (some v3) ∧ ls[2]? = some (some v4) ∧ (∃ wk1 : AV, ∃ Lk3 : List AV, ∃ Gk : Nat → Prop, ∃ kk : Hp, (.tuple [v2, v3, v4]) = (AV.tuple [wk1, (vi rt.2.1), (vi rt.2.2)]) ∧ (Eng.Rows (rP (rN0 .i64) (rP (rU .u32) (rP (rU .u32) (rP (rU .u64) (rP (rL (rU .u32)) (rZ .i64)))))) Gk kk Lk3 rt.1) ∧ Eng.Sep (OwnO 6 wk1 rt.1.length Lk3 :: Frz Gk kk :: Frz G h0 :: []) h')) ls h')) (by kernel_rfl) ?_
  have ⟨x1, hb2, hp⟩ := ob_inv hp
  obtain ⟨v5, h6, q7, w10, w12, w15, L14, L17, G3, k4, e8, f11, f13, f16, u18, S9⟩ := h_next fQ101_0_2 fQ101_3 fQ101_4 hb2 S
  replace e8 := e8.symm
  subst e8
  refine ⟨x1, w10, w12, w15, h6, q7, ?_⟩
  refine ⟨fun c20 => ?_, fun c20 => ?_⟩
  · replace c20 := notB_t c20
    replace hp := ift hp c20
    refine ⟨cel_load S9 (i := 0) rfl rfl, ?_⟩
    refine ⟨fun c21 => ?_, fun c21 => ?_⟩
    · replace c21 := eqI_f (notB_t c21)
      replace hp := ift hp c21
      refine ⟨cel_load S9 (i := 0) rfl rfl, ?_⟩
      refine ⟨⟨again_of (rfl) (avEq_int _ _), again_of (rfl) (avEq_int _ _), again_of (rfl) rfl, again_of (cel_load S9 (i := 0) rfl rfl) (avEq_int _ _), again_of (rfl) (avEq_ptr _ _), again_of (rfl) (avEq_ptr _ _), again_of (rfl) (avEq_ptr _ _), again_of (rfl) (avEq_ptr _ _), trivial⟩, ?_⟩
      have S22 := S9.empty
      have S23 := own_nil S22 6
      have S24 : Sep [OwnO 6 AV.nilSlice (([] : List (Nat × Nat × Nat × Nat × List Nat × Int)).length) [], Frz (fun _ => False) h6, Frz G h0] h6 := S23.sel [0, 1, 6] (by decide) rfl
      refine ⟨_, AV.nilSlice, (vi 0), (vi x1.2.2.1), (Option.some.inj hp).symm, rfl, rfl, rfl, ?_⟩
      exact ⟨AV.nilSlice, [], (fun _ => False), h6, rfl, (own_rows_nil _ _ _), S24⟩
    replace c21 := eqI_t (notB_f c21)
    replace hp := iff0 hp (nneO c21)
    refine ⟨(m, A2, A3, A4, x1.1, x1.2.1, x1.2.2.1, x1.2.2.2.1, x1.2.2.2.2.1, wA2_1, w10, w12, L14, w15, L17, G3, k4), rfl, ⟨hp, fA2_2, f11, f13, f16, (Up.trans fU_102 u18), S9⟩, by show m < n; omega⟩
  replace c20 := notB_f c20
  replace hp := iff0 hp (nbT c20)
  refine ⟨(m, A2, A3, A4, x1.1, x1.2.1, x1.2.2.1, x1.2.2.2.1, x1.2.2.2.2.1, wA2_1, w10, w12, L14, w15, L17, G3, k4), rfl, rfl, fun _ => ⟨(Option.some.inj hp).symm, fA2_2, f11, f13, f16, (Up.trans fU_102 u18), S9⟩⟩
theorem take_l1_t {call : CallT} {N : Nat} {b101 : Nat} {ZG_102 : Nat → Prop} {Zk_102 : Hp} {G : Nat → Prop} {h0 : Hp}   (h_next : C_next call) {o : LO (List Nat × Nat × Nat × List Nat × Nat × Nat × List (Nat × Nat × Nat × Nat × List Nat × Int) × List Bool) (List (Nat × Nat × Nat × Nat × List Nat × Int) × Nat × Nat)} {n : Nat} {A2 : List Nat} {A3 : Nat} {A4 : Nat} {Q101_0 : List Nat} {Q101_1 : Nat} {Q101_2 : Nat} {Q101_3 : List (Nat × Nat × Nat × Nat × List Nat × Int)} {Q101_4 : List Bool} {wA2_1 : AV} {wQ101_0_1 : AV} {wQ101_3 : AV} {LQ101_3 : List AV} {wQ101_4 : AV} {LQ101_4 : List AV} {G_102 : Nat → Prop} {k_102 : Hp} {h : Hp} (hi : (fun (z : Nat × List Nat × Nat × Nat × List Nat × Nat × Nat × List (Nat × Nat × Nat × Nat × List Nat × Int) × List Bool × AV × AV × AV × List AV × AV × List AV × (Nat → Prop) × Hp) (h' : Hp) => take_l1  z.1 z.2.1 z.2.2.1 z.2.2.2.1 z.2.2.2.2.1 z.2.2.2.2.2.1 z.2.2.2.2.2.2.1 z.2.2.2.2.2.2.2.1 z.2.2.2.2.2.2.2.2.1 = some o ∧ (BIn G h0 z.2.2.2.2.2.2.2.2.2.1 z.2.1) ∧ (BIn G h0 z.2.2.2.2.2.2.2.2.2.2.1 z.2.2.2.2.1) ∧ (Eng.Rows (rP (rN0 .i64) (rP (rU .u32) (rP (rU .u32) (rP (rU .u64) (rP (rL (rU .u32)) (rZ .i64)))))) z.2.2.2.2.2.2.2.2.2.2.2.2.2.2.2.1 z.2.2.2.2.2.2.2.2.2.2.2.2.2.2.2.2 z.2.2.2.2.2.2.2.2.2.2.2.2.1 z.2.2.2.2.2.2.2.1) ∧ (Eng.Rows rB z.2.2.2.2.2.2.2.2.2.2.2.2.2.2.2.1 z.2.2.2.2.2.2.2.2.2.2.2.2.2.2.2.2 z.2.2.2.2.2.2.2.2.2.2.2.2.2.2.1 z.2.2.2.2.2.2.2.2.1) ∧ (Up ZG_102 Zk_102 z.2.2.2.2.2.2.2.2.2.2.2.2.2.2.2.1 z.2.2.2.2.2.2.2.2.2.2.2.2.2.2.2.2) ∧ Eng.Sep [Cel b101 [z.2.2.2.2.2.2.2.2.2.2.1, (vi z.2.2.2.2.2.1), (vi z.2.2.2.2.2.2.1), z.2.2.2.2.2.2.2.2.2.2.2.1, z.2.2.2.2.2.2.2.2.2.2.2.2.2.1], OwnO 6 z.2.2.2.2.2.2.2.2.2.2.2.1 z.2.2.2.2.2.2.2.1.length z.2.2.2.2.2.2.2.2.2.2.2.2.1, OwnO 1 z.2.2.2.2.2.2.2.2.2.2.2.2.2.1 z.2.2.2.2.2.2.2.2.1.length z.2.2.2.2.2.2.2.2.2.2.2.2.2.2.1, Frz z.2.2.2.2.2.2.2.2.2.2.2.2.2.2.2.1 z.2.2.2.2.2.2.2.2.2.2.2.2.2.2.2.2, Frz G h0] h') (n, A2, A3, A4, Q101_0, Q101_1, Q101_2, Q101_3, Q101_4, wA2_1, wQ101_0_1, wQ101_3, LQ101_3, wQ101_4, LQ101_4, G_102, k_102) h) (hN : n < N) (hN' : 90000 < N) {t : T} (ht : Has ((fun (z : Nat × List Nat × Nat × Nat × List Nat × Nat × Nat × List (Nat × Nat × Nat × Nat × List Nat × Int) × List Bool × AV × AV × AV × List AV × AV × List AV × (Nat → Prop) × Hp) => [(2, z.2.2.2.2.2.2.2.2.2.1), (3, (vi z.2.2.1)), (4, (vi z.2.2.2.1)), (5, (AV.ptr b101 0))]) (n, A2, A3, A4, Q101_0, Q101_1, Q101_2, Q101_3, Q101_4, wA2_1, wQ101_0_1, wQ101_3, LQ101_3, wQ101_4, LQ101_4, G_102, k_102)) t) :
    (∃ i y t' h', evC call N (.loop take_l1C) t h = .exit i t' h' ∧ Has ((fun (z : Nat × List Nat × Nat × Nat × List Nat × Nat × Nat × List (Nat × Nat × Nat × Nat × List Nat × Int) × List Bool × AV × AV × AV × List AV × AV × List AV × (Nat → Prop) × Hp) => [(2, z.2.2.2.2.2.2.2.2.2.1), (3, (vi z.2.2.1)), (4, (vi z.2.2.2.1)), (5, (AV.ptr b101 0))]) y) t' ∧ (fun (i : Nat) (z : Nat × List Nat × Nat × Nat × List Nat × Nat × Nat × List (Nat × Nat × Nat × Nat × List Nat × Int) × List Bool × AV × AV × AV × List AV × AV × List AV × (Nat → Prop) × Hp) (h' : Hp) => (i = 0) ∧ (i = 0 → o = LO.ex (z.2.1, z.2.2.1, z.2.2.2.1, z.2.2.2.2.1, z.2.2.2.2.2.1, z.2.2.2.2.2.2.1, z.2.2.2.2.2.2.2.1, z.2.2.2.2.2.2.2.2.1) ∧ (BIn G h0 z.2.2.2.2.2.2.2.2.2.1 z.2.1) ∧ (BIn G h0 z.2.2.2.2.2.2.2.2.2.2.1 z.2.2.2.2.1) ∧ (Eng.Rows (rP (rN0 .i64) (rP (rU .u32) (rP (rU .u32) (rP (rU .u64) (rP (rL (rU .u32)) (rZ .i64)))))) z.2.2.2.2.2.2.2.2.2.2.2.2.2.2.2.1 z.2.2.2.2.2.2.2.2.2.2.2.2.2.2.2.2 z.2.2.2.2.2.2.2.2.2.2.2.2.1 z.2.2.2.2.2.2.2.1) ∧ (Eng.Rows rB z.2.2.2.2.2.2.2.2.2.2.2.2.2.2.2.1 z.2.2.2.2.2.2.2.2.2.2.2.2.2.2.2.2 z.2.2.2.2.2.2.2.2.2.2.2.2.2.2.1 z.2.2.2.2.2.2.2.2.1) ∧ (Up ZG_102 Zk_102 z.2.2.2.2.2.2.2.2.2.2.2.2.2.2.2.1 z.2.2.2.2.2.2.2.2.2.2.2.2.2.2.2.2) ∧ Eng.Sep [Cel b101 [z.2.2.2.2.2.2.2.2.2.2.1, (vi z.2.2.2.2.2.1), (vi z.2.2.2.2.2.2.1), z.2.2.2.2.2.2.2.2.2.2.2.1, z.2.2.2.2.2.2.2.2.2.2.2.2.2.1], OwnO 6 z.2.2.2.2.2.2.2.2.2.2.2.1 z.2.2.2.2.2.2.2.1.length z.2.2.2.2.2.2.2.2.2.2.2.2.1, OwnO 1 z.2.2.2.2.2.2.2.2.2.2.2.2.2.1 z.2.2.2.2.2.2.2.2.1.length z.2.2.2.2.2.2.2.2.2.2.2.2.2.2.1, Frz z.2.2.2.2.2.2.2.2.2.2.2.2.2.2.2.1 z.2.2.2.2.2.2.2.2.2.2.2.2.2.2.2.2, Frz G h0] h')) i y h') ∨ (∃ t' h', evC call N (.loop take_l1C) t h = .ret t' h' ∧ (fun (ls : List (Option AV)) (h' : Hp) => ∃ (rt : List (Nat × Nat × Nat × Nat × List Nat × Int) × Nat × Nat) (v2 : AV) (v3 : AV) (v4 : AV), o = LO.rt rt ∧ ls[0]? = some (some v2) ∧ ls[1]? = some (some v3) ∧ ls[2]? = some (some v4) ∧ (∃ wk1 : AV, ∃ Lk3 : List AV, ∃ Gk : Nat → Prop, ∃ kk : Hp, (.tuple [v2, v3, v4]) = (AV.tuple [wk1, (vi rt.2.1), (vi rt.2.2)]) ∧ (Eng.Rows (rP (rN0 .i64) (rP (rU .u32) (rP (rU .u32) (rP (rU .u64) (rP (rL (rU .u32)) (rZ .i64)))))) Gk kk Lk3 rt.1) ∧ Eng.Sep (OwnO 6 wk1 rt.1.length Lk3 :: Frz Gk kk :: Frz G h0 :: []) h')) (slots [2, 3, 4, 5] t') h') :=
  loop_st (fun (z : Nat × List Nat × Nat × Nat × List Nat × Nat × Nat × List (Nat × Nat × Nat × Nat × List Nat × Int) × List Bool × AV × AV × AV × List AV × AV × List AV × (Nat → Prop) × Hp) => [(2, z.2.2.2.2.2.2.2.2.2.1), (3, (vi z.2.2.1)), (4, (vi z.2.2.2.1)), (5, (AV.ptr b101 0))]) [2, 3, 4, 5] (fun _ => rfl) (fun (z : Nat × List Nat × Nat × Nat × List Nat × Nat × Nat × List (Nat × Nat × Nat × Nat × List Nat × Int) × List Bool × AV × AV × AV × List AV × AV × List AV × (Nat → Prop) × Hp) (h' : Hp) => take_l1  z.1 z.2.1 z.2.2.1 z.2.2.2.1 z.2.2.2.2.1 z.2.2.2.2.2.1 z.2.2.2.2.2.2.1 z.2.2.2.2.2.2.2.1 z.2.2.2.2.2.2.2.2.1 = some o ∧ (BIn G h0 z.2.2.2.2.2.2.2.2.2.1 z.2.1) ∧ (BIn G h0 z.2.2.2.2.2.2.2.2.2.2.1 z.2.2.2.2.1) ∧ (Eng.Rows (rP (rN0 .i64) (rP (rU .u32) (rP (rU .u32) (rP (rU .u64) (rP (rL (rU .u32)) (rZ .i64)))))) z.2.2.2.2.2.2.2.2.2.2.2.2.2.2.2.1 z.2.2.2.2.2.2.2.2.2.2.2.2.2.2.2.2 z.2.2.2.2.2.2.2.2.2.2.2.2.1 z.2.2.2.2.2.2.2.1) ∧ (Eng.Rows rB z.2.2.2.2.2.2.2.2.2.2.2.2.2.2.2.1 z.2.2.2.2.2.2.2.2.2.2.2.2.2.2.2.2 z.2.2.2.2.2.2.2.2.2.2.2.2.2.2.1 z.2.2.2.2.2.2.2.2.1) ∧ (Up ZG_102 Zk_102 z.2.2.2.2.2.2.2.2.2.2.2.2.2.2.2.1 z.2.2.2.2.2.2.2.2.2.2.2.2.2.2.2.2) ∧ Eng.Sep [Cel b101 [z.2.2.2.2.2.2.2.2.2.2.1, (vi z.2.2.2.2.2.1), (vi z.2.2.2.2.2.2.1), z.2.2.2.2.2.2.2.2.2.2.2.1, z.2.2.2.2.2.2.2.2.2.2.2.2.2.1], OwnO 6 z.2.2.2.2.2.2.2.2.2.2.2.1 z.2.2.2.2.2.2.2.1.length z.2.2.2.2.2.2.2.2.2.2.2.2.1, OwnO 1 z.2.2.2.2.2.2.2.2.2.2.2.2.2.1 z.2.2.2.2.2.2.2.2.1.length z.2.2.2.2.2.2.2.2.2.2.2.2.2.2.1, Frz z.2.2.2.2.2.2.2.2.2.2.2.2.2.2.2.1 z.2.2.2.2.2.2.2.2.2.2.2.2.2.2.2.2, Frz G h0] h') (fun (z : Nat × List Nat × Nat × Nat × List Nat × Nat × Nat × List (Nat × Nat × Nat × Nat × List Nat × Int) × List Bool × AV × AV × AV × List AV × AV × List AV × (Nat → Prop) × Hp) => z.1) (fun (i : Nat) (z : Nat × List Nat × Nat × Nat × List Nat × Nat × Nat × List (Nat × Nat × Nat × Nat × List Nat × Int) × List Bool × AV × AV × AV × List AV × AV × List AV × (Nat → Prop) × Hp) (h' : Hp) => (i = 0) ∧ (i = 0 → o = LO.ex (z.2.1, z.2.2.1, z.2.2.2.1, z.2.2.2.2.1, z.2.2.2.2.2.1, z.2.2.2.2.2.2.1, z.2.2.2.2.2.2.2.1, z.2.2.2.2.2.2.2.2.1) ∧ (BIn G h0 z.2.2.2.2.2.2.2.2.2.1 z.2.1) ∧ (BIn G h0 z.2.2.2.2.2.2.2.2.2.2.1 z.2.2.2.2.1) ∧ (Eng.Rows (rP (rN0 .i64) (rP (rU .u32) (rP (rU .u32) (rP (rU .u64) (rP (rL (rU .u32)) (rZ .i64)))))) z.2.2.2.2.2.2.2.2.2.2.2.2.2.2.2.1 z.2.2.2.2.2.2.2.2.2.2.2.2.2.2.2.2 z.2.2.2.2.2.2.2.2.2.2.2.2.1 z.2.2.2.2.2.2.2.1) ∧ (Eng.Rows rB z.2.2.2.2.2.2.2.2.2.2.2.2.2.2.2.1 z.2.2.2.2.2.2.2.2.2.2.2.2.2.2.2.2 z.2.2.2.2.2.2.2.2.2.2.2.2.2.2.1 z.2.2.2.2.2.2.2.2.1) ∧ (Up ZG_102 Zk_102 z.2.2.2.2.2.2.2.2.2.2.2.2.2.2.2.1 z.2.2.2.2.2.2.2.2.2.2.2.2.2.2.2.2) ∧ Eng.Sep [Cel b101 [z.2.2.2.2.2.2.2.2.2.2.1, (vi z.2.2.2.2.2.1), (vi z.2.2.2.2.2.2.1), z.2.2.2.2.2.2.2.2.2.2.2.1, z.2.2.2.2.2.2.2.2.2.2.2.2.2.1], OwnO 6 z.2.2.2.2.2.2.2.2.2.2.2.1 z.2.2.2.2.2.2.2.1.length z.2.2.2.2.2.2.2.2.2.2.2.2.1, OwnO 1 z.2.2.2.2.2.2.2.2.2.2.2.2.2.1 z.2.2.2.2.2.2.2.2.1.length z.2.2.2.2.2.2.2.2.2.2.2.2.2.2.1, Frz z.2.2.2.2.2.2.2.2.2.2.2.2.2.2.2.1 z.2.2.2.2.2.2.2.2.2.2.2.2.2.2.2.2, Frz G h0] h')) (fun (ls : List (Option AV)) (h' : Hp) => ∃ (rt : List (Nat × Nat × Nat × Nat × List Nat × Int) × Nat × Nat) (v2 : AV) (v3 : AV) (v4 : AV), o = LO.rt rt ∧ ls[0]? = some (some v2) ∧ ls[1]? = some (some v3) ∧ ls[2]? = some (some v4) ∧ (∃ wk1 : AV, ∃ Lk3 : List AV, ∃ Gk : Nat → Prop, ∃ kk : Hp, (.tuple [v2, v3, v4]) = (AV.tuple [wk1, (vi rt.2.1), (vi rt.2.2)]) ∧ (Eng.Rows (rP (rN0 .i64) (rP (rU .u32) (rP (rU .u32) (rP (rU .u64) (rP (rL (rU .u32)) (rZ .i64)))))) Gk kk Lk3 rt.1) ∧ Eng.Sep (OwnO 6 wk1 rt.1.length Lk3 :: Frz Gk kk :: Frz G h0 :: []) h')) (fun ⟨n, A2, A3, A4, Q101_0, Q101_1, Q101_2, Q101_3, Q101_4, wA2_1, wQ101_0_1, wQ101_3, LQ101_3, wQ101_4, LQ101_4, G_102, k_102⟩ t h hi => take_l1_body h_next hN' hi) (n, A2, A3, A4, Q101_0, Q101_1, Q101_2, Q101_3, Q101_4, wA2_1, wQ101_0_1, wQ101_3, LQ101_3, wQ101_4, LQ101_4, G_102, k_102) h hi hN t ht
noncomputable def take_p (b : List Nat) : Option (List (Nat × Nat × Nat × Nat × List Nat × Int) × Nat × Nat) :=
  (ob (take_l1  90000 ([] : List Nat) 0 0 b 0 0 ([] : List (Nat × Nat × Nat × Nat × List Nat × Int)) ([] : List Bool)) fun o10 =>
    (LO.on o10 (fun s_o10 => (if s_o10.2.2.2.2.2.1 ≠ 0 then (some ([], 0, s_o10.2.2.2.2.2.1)) else
    (some (s_o10.2.2.2.2.2.2.1, s_o10.2.2.2.2.1, 0)))) (fun y17 =>
    (some y17))))
theorem take_w {call : CallT} {N : Nat} {h : Hp} {wb_1 : AV} {b : List Nat} (fb_2 : BIn (Low h) h wb_1 b) (h_next : C_next call) (hN : 90000 < N) {r : List (Nat × Nat × Nat × Nat × List Nat × Int) × Nat × Nat} (hp : take_p b = some r) :
    ∃ rv rh, evF1 (progS Try.prog (compDrawn Try.prog)) N call 13 [wb_1] h = .ok rv rh ∧ (fun (rv : AV) (rh : Hp) => ∃ wk1 : AV, ∃ Lk3 : List AV, ∃ Gk : Nat → Prop, ∃ kk : Hp, rv = (AV.tuple [wk1, (vi r.2.1), (vi r.2.2)]) ∧ (Eng.Rows (rP (rN0 .i64) (rP (rU .u32) (rP (rU .u32) (rP (rU .u64) (rP (rL (rU .u32)) (rZ .i64)))))) Gk kk Lk3 r.1) ∧ Eng.Sep (OwnO 6 wk1 r.1.length Lk3 :: Frz Gk kk :: Frz (Low h) h :: []) rh) rv rh := by
  have S : Eng.Sep [Frz (Low h) h] h := Sep.start h
  unfold take_p at hp
  refine fwalk_ok (K := (fun (rv : AV) (rh : Hp) => ∃ wk1 : AV, ∃ Lk3 : List AV, ∃ Gk : Nat → Prop, ∃ kk : Hp, rv = (AV.tuple [wk1, (vi r.2.1), (vi r.2.2)]) ∧ (Eng.Rows (rP (rN0 .i64) (rP (rU .u32) (rP (rU .u32) (rP (rU .u64) (rP (rL (rU .u32)) (rZ .i64)))))) Gk kk Lk3 r.1) ∧ Eng.Sep (OwnO 6 wk1 r.1.length Lk3 :: Frz Gk kk :: Frz (Low h) h :: []) rh)) (o := (.tell 4 (AV.agg [wb_1, (vi 0), (vi 0)]) (.ell 1 .ptr (mkCells [wb_1, (vi 0), (vi 0), AV.nilSlice, AV.nilSlice] 5) (.dis 1 (.exi 0 fun (A2o10 : List Nat) => (.exi 0 fun (A3o10 : Nat) => (.exi 0 fun (A4o10 : Nat) => (.exi 0 fun (Q101_0o10 : List Nat) => (.exi 0 fun (Q101_1o10 : Nat) => (.exi 0 fun (Q101_2o10 : Nat) => (.exi 0 fun (Q101_3o10 : List (Nat × Nat × Nat × Nat × List Nat × Int)) => (.exi 0 fun (Q101_4o10 : List Bool) => (.exi 0 fun (wA2_1o10 : AV) => (.exi 0 fun (wQ101_0_1o10 : AV) => (.exi 0 fun (wQ101_3o10 : AV) => (.exi 0 fun (wQ101_4o10 : AV) => (.exi 0 fun (t13 : T) => (.exi 0 fun (h14 : Hp) => (.lp 0 (.exit 0 (ovT [(2, wA2_1o10), (3, (vi A3o10)), (4, (vi A4o10)), (5, (AV.ptr (Hp.next h) 0))] t13) h14) (.tell 4 (vi Q101_2o10) (.fork 0 (.tell 4 (vi Q101_2o10) (.again 3 .fin)) (.tell 3 wQ101_3o10 (.tell 4 (vi Q101_1o10) (.again 3 .fin)))))))))))))))))))) (.exi 0 fun (y17 : List (Nat × Nat × Nat × Nat × List Nat × Int) × Nat × Nat) => (.exi 0 fun (v2o10 : AV) => (.exi 0 fun (v3o10 : AV) => (.exi 0 fun (v4o10 : AV) => (.exi 0 fun (t15 : T) => (.exi 0 fun (h16 : Hp) => (.lp 0 (.ret (ovT [(2, v2o10), (3, v3o10), (4, v4o10)] t15) h16) .fin))))))))))) (p := (fun (KK : AV → Hp → Prop) => ((evQ (.build [AV.nilSlice, (vi 0), (vi 0)] [(0, 1, (.const wb_1))]) .lf H0 = .ok (AV.agg [wb_1, (vi 0), (vi 0)]) ∧ (evL (.box (.const (AV.agg [wb_1, (vi 0), (vi 0), AV.nilSlice, AV.nilSlice]))) .lf = .ok .ptr (mkCells [wb_1, (vi 0), (vi 0), AV.nilSlice, AV.nilSlice] 5) ∧ ((∃ A2o10 : List Nat, ∃ A3o10 : Nat, ∃ A4o10 : Nat, ∃ Q101_0o10 : List Nat, ∃ Q101_1o10 : Nat, ∃ Q101_2o10 : Nat, ∃ Q101_3o10 : List (Nat × Nat × Nat × Nat × List Nat × Int), ∃ Q101_4o10 : List Bool, ∃ wA2_1o10 : AV, ∃ wQ101_0_1o10 : AV, ∃ wQ101_3o10 : AV, ∃ wQ101_4o10 : AV, ∃ t13 : T, ∃ h14 : Hp, (evC call N (.loop take_l1C) (ovT [(0, wb_1), (2, AV.nilSlice), (3, (vi 0)), (4, (vi 0)), (5, (AV.ptr (Hp.next h) 0)), (6, wb_1), (7, (AV.agg [wb_1, (vi 0), (vi 0)])), (8, (AV.agg [wb_1, (vi 0), (vi 0), AV.nilSlice, AV.nilSlice])), (9, (AV.ptr (Hp.next h) 0))] .lf) (hpush h (mkCells [wb_1, (vi 0), (vi 0), AV.nilSlice, AV.nilSlice] 5)) = (.exit 0 (ovT [(2, wA2_1o10), (3, (vi A3o10)), (4, (vi A4o10)), (5, (AV.ptr (Hp.next h) 0))] t13) h14) ∧ True ∧ ((evQ (.loadS (.const (AV.ptr (Hp.next h) 2))) .lf h14 = .ok (vi Q101_2o10) ∧ ((notB (eqI (Int.ofNat Q101_2o10) (Int.ofNat 0)) = true → ((evQ (.loadS (.const (AV.ptr (Hp.next h) 2))) .lf h14 = .ok (vi Q101_2o10) ∧ ((again (.move (.const (vi Q101_2o10))) .lf (vi Q101_2o10) h14 = true ∧ again (.move (.const (vi 0))) .lf (vi 0) h14 = true ∧ again (.move (.const AV.nilSlice)) .lf AV.nilSlice h14 = true ∧ again (.loadS (.const (AV.ptr (Hp.next h) 2))) .lf (vi Q101_2o10) h14 = true ∧ again (.fieldAddr 2 (.const (AV.ptr (Hp.next h) 0))) .lf (AV.ptr (Hp.next h) 2) h14 = true ∧ again (.fieldAddr 0 (.const (AV.ptr (Hp.next h) 0))) .lf (AV.ptr (Hp.next h) 0) h14 = true ∧ again (.nilCheck (.const (AV.ptr (Hp.next h) 0))) .lf (AV.ptr (Hp.next h) 0) h14 = true ∧ again (.move (.const (AV.ptr (Hp.next h) 0))) .lf (AV.ptr (Hp.next h) 0) h14 = true ∧ True) ∧ KK (AV.tuple [AV.nilSlice, (vi 0), (vi Q101_2o10)]) h14)))) ∧ (notB (eqI (Int.ofNat Q101_2o10) (Int.ofNat 0)) = false → ((evQ (.loadS (.const (AV.ptr (Hp.next h) 3))) .lf h14 = .ok wQ101_3o10 ∧ ((evQ (.loadS (.const (AV.ptr (Hp.next h) 1))) .lf h14 = .ok (vi Q101_1o10) ∧ ((again (.move (.const (vi 0))) .lf (vi 0) h14 = true ∧ again (.move (.const (vi Q101_1o10))) .lf (vi Q101_1o10) h14 = true ∧ again (.move (.const wQ101_3o10)) .lf wQ101_3o10 h14 = true ∧ again (.loadS (.const (AV.ptr (Hp.next h) 1))) .lf (vi Q101_1o10) h14 = true ∧ again (.fieldAddr 1 (.const (AV.ptr (Hp.next h) 0))) .lf (AV.ptr (Hp.next h) 1) h14 = true ∧ again (.fieldAddr 0 (.const (AV.ptr (Hp.next h) 0))) .lf (AV.ptr (Hp.next h) 0) h14 = true ∧ again (.nilCheck (.const (AV.ptr (Hp.next h) 0))) .lf (AV.ptr (Hp.next h) 0) h14 = true ∧ again (.move (.const (AV.ptr (Hp.next h) 0))) .lf (AV.ptr (Hp.next h) 0) h14 = true ∧ again (.loadS (.const (AV.ptr (Hp.next h) 3))) .lf wQ101_3o10 h14 = true ∧ again (.fieldAddr 3 (.const (AV.ptr (Hp.next h) 0))) .lf (AV.ptr (Hp.next h) 3) h14 = true ∧ again (.nilCheck (.const (AV.ptr (Hp.next h) 0))) .lf (AV.ptr (Hp.next h) 0) h14 = true ∧ again (.move (.const (AV.ptr (Hp.next h) 0))) .lf (AV.ptr (Hp.next h) 0) h14 = true ∧ True) ∧ KK (AV.tuple [wQ101_3o10, (vi Q101_1o10), (vi 0)]) h14))))))))))) ∨ (∃ y17 : List (Nat × Nat × Nat × Nat × List Nat × Int) × Nat × Nat, ∃ v2o10 : AV, ∃ v3o10 : AV, ∃ v4o10 : AV, ∃ t15 : T, ∃ h16 : Hp, (evC call N (.loop take_l1C) (ovT [(0, wb_1), (2, AV.nilSlice), (3, (vi 0)), (4, (vi 0)), (5, (AV.ptr (Hp.next h) 0)), (6, wb_1), (7, (AV.agg [wb_1, (vi 0), (vi 0)])), (8, (AV.agg [wb_1, (vi 0), (vi 0), AV.nilSlice, AV.nilSlice])), (9, (AV.ptr (Hp.next h) 0))] .lf) (hpush h (mkCells [wb_1, (vi 0), (vi 0), AV.nilSlice, AV.nilSlice] 5)) = (.ret (ovT [(2, v2o10), (3, v3o10), (4, v4o10)] t15) h16) ∧ True ∧ KK (AV.tuple [v2o10, v3o10, v4o10]) h16))))))) (fun (rv : AV) (rh : Hp) => ∃ wk1 : AV, ∃ Lk3 : List AV, ∃ Gk : Nat → Prop, ∃ kk : Hp, rv = (AV.tuple [wk1, (vi r.2.1), (vi r.2.2)]) ∧ (Eng.Rows (rP (rN0 .i64) (rP (rU .u32) (rP (rU .u32) (rP (rU .u64) (rP (rL (rU .u32)) (rZ .i64)))))) Gk kk Lk3 r.1) ∧ Eng.Sep (OwnO 6 wk1 r.1.length Lk3 :: Frz Gk kk :: Frz (Low h) h :: []) rh)) (by kernel_rfl) ?_
  refine ⟨build_told (by show fillParts [(0, 1, (.const wb_1))] .lf 3 [AV.nilSlice, (vi 0), (vi 0)] = _; rw [fill_cons (o := 0) (k := 1) (n := 3) (BIn.cells fb_2) rfl (by decide)]; rfl), ?_⟩
  refine ⟨box_told rfl rfl (all_cell (BIn.cell fb_2) (all_cell rfl (all_cell rfl (all_cell rfl (all_cell rfl all_cell0))))), ?_⟩
  have S1 := cel_new S [wb_1, (vi 0), (vi 0), AV.nilSlice, AV.nilSlice] rfl
  have S2 := S1.empty
  have S3 := own_nil S2 6
  have S4 := S3.empty
  have S5 := own_nil S4 1
  have S6 : Sep [Frz (fun _ => False) (hpush h (mkCells [wb_1, (vi 0), (vi 0), AV.nilSlice, AV.nilSlice] 5)), Frz (fun _ => False) (hpush h (mkCells [wb_1, (vi 0), (vi 0), AV.nilSlice, AV.nilSlice] 5)), OwnO 1 AV.nilSlice (([] : List Bool).length) [], OwnO 6 AV.nilSlice (([] : List (Nat × Nat × Nat × Nat × List Nat × Int)).length) [], Cel (Hp.next h) [wb_1, (vi 0), (vi 0), AV.nilSlice, AV.nilSlice], Frz (Low h) h] (hpush h (mkCells [wb_1, (vi 0), (vi 0), AV.nilSlice, AV.nilSlice] 5)) := S5.sel [3, 1, 0, 2, 4, 5] (by decide) rfl
  obtain ⟨G7, uG7, vG7, sG7⟩ := Sep.mergeX S6
  have S9 : Sep [Cel (Hp.next h) [wb_1, (vi 0), (vi 0), AV.nilSlice, AV.nilSlice], OwnO 6 AV.nilSlice (([] : List (Nat × Nat × Nat × Nat × List Nat × Int)).length) [], OwnO 1 AV.nilSlice (([] : List Bool).length) [], Frz G7 (hpush h (mkCells [wb_1, (vi 0), (vi 0), AV.nilSlice, AV.nilSlice] 5)), Frz (Low h) h] (hpush h (mkCells [wb_1, (vi 0), (vi 0), AV.nilSlice, AV.nilSlice] 5)) := sG7.sel [3, 2, 1, 0, 4] (by decide) rfl
  have ⟨o10, hb11, hp⟩ := ob_inv hp
  rcases take_l1_t  h_next (o := o10) (n := 90000) (A2 := ([] : List Nat)) (A3 := 0) (A4 := 0) (Q101_0 := b) (Q101_1 := 0) (Q101_2 := 0) (Q101_3 := ([] : List (Nat × Nat × Nat × Nat × List Nat × Int))) (Q101_4 := ([] : List Bool)) (wA2_1 := AV.nilSlice) (wQ101_0_1 := wb_1) (wQ101_3 := AV.nilSlice) (LQ101_3 := []) (wQ101_4 := AV.nilSlice) (LQ101_4 := []) (G_102 := G7) (k_102 := hpush h (mkCells [wb_1, (vi 0), (vi 0), AV.nilSlice, AV.nilSlice] 5)) ⟨hb11, BIn.nil, fb_2, (Rows.up uG7 (own_rows_nil _ _ _)), (Rows.up vG7 (own_rows_nil _ _ _)), (Up.refl _ _), S9⟩ hN hN (t := (ovT [(0, wb_1), (2, AV.nilSlice), (3, (vi 0)), (4, (vi 0)), (5, (AV.ptr (Hp.next h) 0)), (6, wb_1), (7, (AV.agg [wb_1, (vi 0), (vi 0)])), (8, (AV.agg [wb_1, (vi 0), (vi 0), AV.nilSlice, AV.nilSlice])), (9, (AV.ptr (Hp.next h) 0))] .lf)) (show slots [2, 3, 4, 5] _ = [some AV.nilSlice, some (vi 0), some (vi 0), some (AV.ptr (Hp.next h) 0)] by kernel_rfl) with ⟨io10, ⟨_, A2o10, A3o10, A4o10, Q101_0o10, Q101_1o10, Q101_2o10, Q101_3o10, Q101_4o10, wA2_1o10, wQ101_0_1o10, wQ101_3o10, LQ101_3o10, wQ101_4o10, LQ101_4o10, G_102o10, k_102o10⟩, t13, h14, qo10, wo10, zo10⟩ | ⟨t15, h16, qo10, zo10⟩
  · obtain ⟨jo10, zo10⟩ := zo10
    subst jo10
    replace zo10 := zo10 rfl
    obtain ⟨uo10, fA2_2o10, fQ101_0_2o10, fQ101_3o10, fQ101_4o10, fU_102o10, So10⟩ := zo10
    replace uo10 := uo10.symm
    subst uo10
    replace hp := LO.on_ex.symm.trans hp
    try dsimp only at hp
    refine Or.inl ⟨A2o10, A3o10, A4o10, Q101_0o10, Q101_1o10, Q101_2o10, Q101_3o10, Q101_4o10, wA2_1o10, wQ101_0_1o10, wQ101_3o10, wQ101_4o10, t13, h14, (qo10.trans (congrArg (fun t => RS.exit 0 t h14) (ovT_eq wo10).symm)), trivial, ?_⟩
    refine ⟨cel_load So10 (i := 0) rfl rfl, ?_⟩
    refine ⟨fun c18 => ?_, fun c18 => ?_⟩
    · replace c18 := eqI_f (notB_t c18)
      replace hp := ift hp c18
      refine ⟨cel_load So10 (i := 0) rfl rfl, ?_⟩
      refine ⟨⟨again_of (rfl) (avEq_int _ _), again_of (rfl) (avEq_int _ _), again_of (rfl) rfl, again_of (cel_load So10 (i := 0) rfl rfl) (avEq_int _ _), again_of (rfl) (avEq_ptr _ _), again_of (rfl) (avEq_ptr _ _), again_of (rfl) (avEq_ptr _ _), again_of (rfl) (avEq_ptr _ _), trivial⟩, ?_⟩
      have S19 := So10.empty
      have S20 := own_nil S19 6
      have S21 : Sep [OwnO 6 AV.nilSlice (([] : List (Nat × Nat × Nat × Nat × List Nat × Int)).length) [], Frz (fun _ => False) h14, Frz (Low h) h] h14 := S20.sel [0, 1, 6] (by decide) rfl
      obtain rfl := Option.some.inj hp
      exact ⟨AV.nilSlice, [], (fun _ => False), h14, rfl, (own_rows_nil _ _ _), S21⟩
    replace c18 := eqI_t (notB_f c18)
    replace hp := iff0 hp (nneO c18)
    refine ⟨cel_load So10 (i := 0) rfl rfl, ?_⟩
    refine ⟨cel_load So10 (i := 0) rfl rfl, ?_⟩
    refine ⟨⟨again_of (rfl) (avEq_int _ _), again_of (rfl) (avEq_int _ _), again_of (rfl) (own_same So10 (i := 1) rfl), again_of (cel_load So10 (i := 0) rfl rfl) (avEq_int _ _), again_of (rfl) (avEq_ptr _ _), again_of (rfl) (avEq_ptr _ _), again_of (rfl) (avEq_ptr _ _), again_of (rfl) (avEq_ptr _ _), again_of (cel_load So10 (i := 0) rfl rfl) (own_same So10 (i := 1) rfl), again_of (rfl) (avEq_ptr _ _), again_of (rfl) (avEq_ptr _ _), again_of (rfl) (avEq_ptr _ _), trivial⟩, ?_⟩
    have S19 : Sep [OwnO 6 wQ101_3o10 Q101_3o10.length LQ101_3o10, Frz G_102o10 k_102o10, Frz (Low h) h] h14 := So10.sel [1, 3, 4] (by decide) rfl
    obtain rfl := Option.some.inj hp
    exact ⟨wQ101_3o10, LQ101_3o10, G_102o10, k_102o10, rfl, fQ101_3o10, S19⟩
  obtain ⟨y17, v2o10, v3o10, v4o10, uo10, go10_2, go10_3, go10_4, Ko10⟩ := zo10
  replace uo10 := uo10.symm
  subst uo10
  replace go10_2 : tget (pathOf 2) t15 = some v2o10 := Option.some.inj go10_2
  replace go10_3 : tget (pathOf 3) t15 = some v3o10 := Option.some.inj go10_3
  replace go10_4 : tget (pathOf 4) t15 = some v4o10 := Option.some.inj go10_4
  replace hp := LO.on_rt.symm.trans hp
  try dsimp only at hp
  refine Or.inr ⟨y17, v2o10, v3o10, v4o10, t15, h16, (qo10.trans (congrArg (fun t => RS.ret t h16) (ovT_eq (l := [(2, v2o10), (3, v3o10), (4, v4o10)]) (by show [tget (pathOf 2) t15, tget (pathOf 3) t15, tget (pathOf 4) t15] = _; rw [go10_2, go10_3, go10_4]; rfl)).symm)), trivial, ?_⟩
  obtain rfl := Option.some.inj hp
  exact Ko10
def C_take (call : CallT) : Prop := ∀ {h : Hp} {wb_1 : AV} {b : List Nat} (fb_2 : BIn (Low h) h wb_1 b) {r : List (Nat × Nat × Nat × Nat × List Nat × Int) × Nat × Nat}, take_p b = some r → ∃ rv rh, call 13 [wb_1] h = .ok rv rh ∧ ∃ wk1 : AV, ∃ Lk3 : List AV, ∃ Gk : Nat → Prop, ∃ kk : Hp, rv = (AV.tuple [wk1, (vi r.2.1), (vi r.2.2)]) ∧ (Eng.Rows (rP (rN0 .i64) (rP (rU .u32) (rP (rU .u32) (rP (rU .u64) (rP (rL (rU .u32)) (rZ .i64)))))) Gk kk Lk3 r.1) ∧ Eng.Sep (OwnO 6 wk1 r.1.length Lk3 :: Frz Gk kk :: Frz (Low h) h :: []) rh
theorem s_take (d : Nat) : C_take (CC (d + 8)) := by
  intro h wb_1 b fb_2 r hp
  rw [CC, evF_at (sumT_none rfl)]
  exact take_w (call := CC (d + 7)) (N := 100000) fb_2 (s_next (d + 0)) (by decide) hp
end Go.Proofs.Ytpelnanckmjoaaa
end
section
set_option linter.unusedVariables false
namespace Go.Proofs.Ytpelnanckmjoaaa
set_option linter.unusedVariables false
set_option linter.unusedSimpArgs false
open Go Eng
noncomputable def rvalue0_p (x : Nat) : Option (Bool × Nat) :=
  (if x = 127 then (some (true, 0)) else
    (if x = 126 then (some (true, 0)) else
    (if x = 112 then (some (true, 0)) else
    (if x = 111 then (some (true, 0)) else
    (if x = 125 then (some (false, 5)) else
    (if x = 124 then (some (false, 5)) else
    (if x = 123 then (some (false, 5)) else
    (some (false, 2)))))))))
def C_rvalue0 (call : CallT) : Prop := ∀ {h : Hp} {x : Nat} (fx_1 : x < 256) {r : Bool × Nat}, rvalue0_p x = some r → ∃ rv rh, call 115 [(vb8 x)] h = .ok rv rh ∧ rv = (AV.tuple [(AV.bool r.1), (vi r.2)]) ∧ Eng.Sep (Frz (Low h) h :: []) rh
noncomputable def rref_p (x : Nat) : Option (Bool) :=
  (if x = 112 then (some true) else
    (if x = 111 then (some true) else
    (some false)))
def C_rref (call : CallT) : Prop := ∀ {h : Hp} {x : Nat} (fx_1 : x < 256) {r : Bool}, rref_p x = some r → ∃ rv rh, call 89 [(vb8 x)] h = .ok rv rh ∧ rv = (AV.bool r) ∧ Eng.Sep (Frz (Low h) h :: []) rh
noncomputable def rbyte_p (rb : List Nat) (re : Nat) : Option (List Nat × Nat × Nat) :=
  (if re = 0 then (if rb.length = 0 then (some (rb, 3, 0)) else
    (gd (0 < rb.length) (gd (1 ≤ rb.length) (some (rb.drop 1, re, rb.getD 0 0))))) else
    (some (rb, re, 0)))
def C_rbyte (call : CallT) : Prop := ∀ {h : Hp} {h0 : Hp} {G : Nat → Prop} {R : List AObj} {b : Nat} {rest : List AV} {wrb_1 : AV} {rb : List Nat} {re : Nat} (frb_2 : BIn G h0 wrb_1 rb) {r : List Nat × Nat × Nat}, rbyte_p rb re = some r → Eng.Sep (Cel b (wrb_1 :: (vi re) :: rest) :: Frz G h0 :: R) h → ∃ rv rh, call 113 [(AV.ptr b 0)] h = .ok rv rh ∧ ∃ wk2 : AV, rv = (vb8 r.2.2) ∧ (r.2.2 < 256) ∧ (BIn G h0 wk2 r.1) ∧ Eng.Sep (Cel b (wk2 :: (vi r.2.1) :: rest) :: Frz G h0 :: R) rh
noncomputable def rfail_p (rb : List Nat) (re : Nat) (e : Nat) : Option (List Nat × Nat) :=
  (if re = 0 then (some (rb, e)) else
    (some (rb, re)))
def C_rfail (call : CallT) : Prop := ∀ {h : Hp} {h0 : Hp} {G : Nat → Prop} {R : List AObj} {b : Nat} {rest : List AV} {wrb_1 : AV} {rb : List Nat} {re : Nat} {e : Nat} (frb_2 : BIn G h0 wrb_1 rb) {r : List Nat × Nat}, rfail_p rb re e = some r → Eng.Sep (Cel b (wrb_1 :: (vi re) :: rest) :: Frz G h0 :: R) h → ∃ rv rh, call 52 [(AV.ptr b 0), (vi e)] h = .ok rv rh ∧ ∃ wk1 : AV, rv = (AV.tuple []) ∧ (BIn G h0 wk1 r.1) ∧ Eng.Sep (Cel b (wk1 :: (vi r.2) :: rest) :: Frz G h0 :: R) rh
noncomputable def rnum32_p (rb : List Nat) (re : Nat) : Option (List Nat × Nat × Nat) :=
  (if re ≠ 0 then (some (rb, re, 0)) else
    (gd (rb.length < 90000) (ob (some (readG 32 false rb 0 0 0)) fun x3 =>
    (gd (x3.2.1 ≤ rb.length) (some (rb.drop x3.2.1, x3.2.2, x3.1))))))
def C_rnum32 (call : CallT) : Prop := ∀ {h : Hp} {h0 : Hp} {G : Nat → Prop} {R : List AObj} {b : Nat} {rest : List AV} {wrb_1 : AV} {rb : List Nat} {re : Nat} (frb_2 : BIn G h0 wrb_1 rb) {r : List Nat × Nat × Nat}, rnum32_p rb re = some r → Eng.Sep (Cel b (wrb_1 :: (vi re) :: rest) :: Frz G h0 :: R) h → ∃ rv rh, call 114 [(AV.ptr b 0), (vi 32), (AV.bool false)] h = .ok rv rh ∧ ∃ wk2 : AV, rv = (vq r.2.2) ∧ (r.2.2 < 18446744073709551616) ∧ (BIn G h0 wk2 r.1) ∧ Eng.Sep (Cel b (wk2 :: (vi r.2.1) :: rest) :: Frz G h0 :: R) rh
noncomputable def rnum32s_p (rb : List Nat) (re : Nat) : Option (List Nat × Nat × Nat) :=
  (if re ≠ 0 then (some (rb, re, 0)) else
    (gd (rb.length < 90000) (ob (some (readG 32 true rb 0 0 0)) fun x3 =>
    (gd (x3.2.1 ≤ rb.length) (some (rb.drop x3.2.1, x3.2.2, x3.1))))))
def C_rnum32s (call : CallT) : Prop := ∀ {h : Hp} {h0 : Hp} {G : Nat → Prop} {R : List AObj} {b : Nat} {rest : List AV} {wrb_1 : AV} {rb : List Nat} {re : Nat} (frb_2 : BIn G h0 wrb_1 rb) {r : List Nat × Nat × Nat}, rnum32s_p rb re = some r → Eng.Sep (Cel b (wrb_1 :: (vi re) :: rest) :: Frz G h0 :: R) h → ∃ rv rh, call 114 [(AV.ptr b 0), (vi 32), (AV.bool true)] h = .ok rv rh ∧ ∃ wk2 : AV, rv = (vq r.2.2) ∧ (r.2.2 < 18446744073709551616) ∧ (BIn G h0 wk2 r.1) ∧ Eng.Sep (Cel b (wk2 :: (vi r.2.1) :: rest) :: Frz G h0 :: R) rh
noncomputable def rnum33s_p (rb : List Nat) (re : Nat) : Option (List Nat × Nat × Nat) :=
  (if re ≠ 0 then (some (rb, re, 0)) else
    (gd (rb.length < 90000) (ob (some (readG 33 true rb 0 0 0)) fun x3 =>
    (gd (x3.2.1 ≤ rb.length) (some (rb.drop x3.2.1, x3.2.2, x3.1))))))
def C_rnum33s (call : CallT) : Prop := ∀ {h : Hp} {h0 : Hp} {G : Nat → Prop} {R : List AObj} {b : Nat} {rest : List AV} {wrb_1 : AV} {rb : List Nat} {re : Nat} (frb_2 : BIn G h0 wrb_1 rb) {r : List Nat × Nat × Nat}, rnum33s_p rb re = some r → Eng.Sep (Cel b (wrb_1 :: (vi re) :: rest) :: Frz G h0 :: R) h → ∃ rv rh, call 114 [(AV.ptr b 0), (vi 33), (AV.bool true)] h = .ok rv rh ∧ ∃ wk2 : AV, rv = (vq r.2.2) ∧ (r.2.2 < 18446744073709551616) ∧ (BIn G h0 wk2 r.1) ∧ Eng.Sep (Cel b (wk2 :: (vi r.2.1) :: rest) :: Frz G h0 :: R) rh
noncomputable def rnum64s_p (rb : List Nat) (re : Nat) : Option (List Nat × Nat × Nat) :=
  (if re ≠ 0 then (some (rb, re, 0)) else
    (gd (rb.length < 90000) (ob (some (readG 64 true rb 0 0 0)) fun x3 =>
    (gd (x3.2.1 ≤ rb.length) (some (rb.drop x3.2.1, x3.2.2, x3.1))))))
def C_rnum64s (call : CallT) : Prop := ∀ {h : Hp} {h0 : Hp} {G : Nat → Prop} {R : List AObj} {b : Nat} {rest : List AV} {wrb_1 : AV} {rb : List Nat} {re : Nat} (frb_2 : BIn G h0 wrb_1 rb) {r : List Nat × Nat × Nat}, rnum64s_p rb re = some r → Eng.Sep (Cel b (wrb_1 :: (vi re) :: rest) :: Frz G h0 :: R) h → ∃ rv rh, call 114 [(AV.ptr b 0), (vi 64), (AV.bool true)] h = .ok rv rh ∧ ∃ wk2 : AV, rv = (vq r.2.2) ∧ (r.2.2 < 18446744073709551616) ∧ (BIn G h0 wk2 r.1) ∧ Eng.Sep (Cel b (wk2 :: (vi r.2.1) :: rest) :: Frz G h0 :: R) rh
noncomputable def ru32_p (rb : List Nat) (re : Nat) : Option (List Nat × Nat × Nat) :=
  (ob (rnum32_p rb re) fun x1 =>
    (some (x1.1, x1.2.1, x1.2.2 % 4294967296)))
def C_ru32 (call : CallT) : Prop := ∀ {h : Hp} {h0 : Hp} {G : Nat → Prop} {R : List AObj} {b : Nat} {rest : List AV} {wrb_1 : AV} {rb : List Nat} {re : Nat} (frb_2 : BIn G h0 wrb_1 rb) {r : List Nat × Nat × Nat}, ru32_p rb re = some r → Eng.Sep (Cel b (wrb_1 :: (vi re) :: rest) :: Frz G h0 :: R) h → ∃ rv rh, call 84 [(AV.ptr b 0)] h = .ok rv rh ∧ ∃ wk2 : AV, rv = (vw r.2.2) ∧ (r.2.2 < 4294967296) ∧ (BIn G h0 wk2 r.1) ∧ Eng.Sep (Cel b (wk2 :: (vi r.2.1) :: rest) :: Frz G h0 :: R) rh
noncomputable def rs32_p (rb : List Nat) (re : Nat) : Option (List Nat × Nat × Nat) :=
  (ob (rnum32s_p rb re) fun x1 =>
    (some (x1.1, x1.2.1, x1.2.2 &&& 4294967295)))
def C_rs32 (call : CallT) : Prop := ∀ {h : Hp} {h0 : Hp} {G : Nat → Prop} {R : List AObj} {b : Nat} {rest : List AV} {wrb_1 : AV} {rb : List Nat} {re : Nat} (frb_2 : BIn G h0 wrb_1 rb) {r : List Nat × Nat × Nat}, rs32_p rb re = some r → Eng.Sep (Cel b (wrb_1 :: (vi re) :: rest) :: Frz G h0 :: R) h → ∃ rv rh, call 85 [(AV.ptr b 0)] h = .ok rv rh ∧ ∃ wk2 : AV, rv = (vq r.2.2) ∧ (r.2.2 < 18446744073709551616) ∧ (BIn G h0 wk2 r.1) ∧ Eng.Sep (Cel b (wk2 :: (vi r.2.1) :: rest) :: Frz G h0 :: R) rh
noncomputable def rs64_p (rb : List Nat) (re : Nat) : Option (List Nat × Nat × Nat) :=
  (ob (rnum64s_p rb re) fun x1 =>
    (some (x1.1, x1.2.1, x1.2.2)))
def C_rs64 (call : CallT) : Prop := ∀ {h : Hp} {h0 : Hp} {G : Nat → Prop} {R : List AObj} {b : Nat} {rest : List AV} {wrb_1 : AV} {rb : List Nat} {re : Nat} (frb_2 : BIn G h0 wrb_1 rb) {r : List Nat × Nat × Nat}, rs64_p rb re = some r → Eng.Sep (Cel b (wrb_1 :: (vi re) :: rest) :: Frz G h0 :: R) h → ∃ rv rh, call 86 [(AV.ptr b 0)] h = .ok rv rh ∧ ∃ wk2 : AV, rv = (vq r.2.2) ∧ (r.2.2 < 18446744073709551616) ∧ (BIn G h0 wk2 r.1) ∧ Eng.Sep (Cel b (wk2 :: (vi r.2.1) :: rest) :: Frz G h0 :: R) rh
noncomputable def rs33_p (rb : List Nat) (re : Nat) : Option (List Nat × Nat × Int) :=
  (ob (rnum33s_p rb re) fun x1 =>
    (some (x1.1, x1.2.1, wrapA .i64 (Int.ofNat x1.2.2))))
def C_rs33 (call : CallT) : Prop := ∀ {h : Hp} {h0 : Hp} {G : Nat → Prop} {R : List AObj} {b : Nat} {rest : List AV} {wrb_1 : AV} {rb : List Nat} {re : Nat} (frb_2 : BIn G h0 wrb_1 rb) {r : List Nat × Nat × Int}, rs33_p rb re = some r → Eng.Sep (Cel b (wrb_1 :: (vi re) :: rest) :: Frz G h0 :: R) h → ∃ rv rh, call 116 [(AV.ptr b 0)] h = .ok rv rh ∧ ∃ wk1 : AV, rv = (AV.int .i64 r.2.2) ∧ (BIn G h0 wk1 r.1) ∧ Eng.Sep (Cel b (wk1 :: (vi r.2.1) :: rest) :: Frz G h0 :: R) rh
noncomputable def rvalue_p (rb : List Nat) (re : Nat) : Option (List Nat × Nat × Nat) :=
  (ob (rbyte_p rb re) fun x1 =>
    (if x1.2.1 = 0 then (ob (rvalue0_p x1.2.2) fun x16 =>
    (ob (rfail_p x1.1 x1.2.1 x16.2) fun x27 =>
    (some (x27.1, x27.2, x1.2.2)))) else
    (some (x1.1, x1.2.1, x1.2.2))))
def C_rvalue (call : CallT) : Prop := ∀ {h : Hp} {h0 : Hp} {G : Nat → Prop} {R : List AObj} {b : Nat} {rest : List AV} {wrb_1 : AV} {rb : List Nat} {re : Nat} (frb_2 : BIn G h0 wrb_1 rb) {r : List Nat × Nat × Nat}, rvalue_p rb re = some r → Eng.Sep (Cel b (wrb_1 :: (vi re) :: rest) :: Frz G h0 :: R) h → ∃ rv rh, call 88 [(AV.ptr b 0)] h = .ok rv rh ∧ ∃ wk2 : AV, rv = (vb8 r.2.2) ∧ (r.2.2 < 256) ∧ (BIn G h0 wk2 r.1) ∧ Eng.Sep (Cel b (wk2 :: (vi r.2.1) :: rest) :: Frz G h0 :: R) rh
end Go.Proofs.Ytpelnanckmjoaaa
end
section
set_option linter.unusedVariables false
namespace Go.Proofs.Ytpelnanckmjoaaa
set_option linter.unusedVariables false
set_option linter.unusedSimpArgs false
open Go Eng
noncomputable def rzero_p (rb : List Nat) (re : Nat) : Option (List Nat × Nat) :=
  (ob (rbyte_p rb re) fun x1 =>
    (if x1.2.2 ≠ 0 then (ob (rfail_p x1.1 x1.2.1 2) fun x16 =>
    (some (x16.1, x16.2))) else
    (some (x1.1, x1.2.1))))
def C_rzero (call : CallT) : Prop := ∀ {h : Hp} {h0 : Hp} {G : Nat → Prop} {R : List AObj} {b : Nat} {rest : List AV} {wrb_1 : AV} {rb : List Nat} {re : Nat} (frb_2 : BIn G h0 wrb_1 rb) {r : List Nat × Nat}, rzero_p rb re = some r → Eng.Sep (Cel b (wrb_1 :: (vi re) :: rest) :: Frz G h0 :: R) h → ∃ rv rh, call 83 [(AV.ptr b 0)] h = .ok rv rh ∧ ∃ wk1 : AV, rv = (AV.tuple []) ∧ (BIn G h0 wk1 r.1) ∧ Eng.Sep (Cel b (wk1 :: (vi r.2) :: rest) :: Frz G h0 :: R) rh
noncomputable def rblock_p (rb : List Nat) (re : Nat) : Option (List Nat × Nat × Int) :=
  (if re = 0 then (if rb.length = 0 then (ob (rfail_p rb re 3) fun x3 =>
    (if x3.2 ≠ 0 then (some (x3.1, x3.2, (0 : Int))) else
    (gd (0 < x3.1.length) (ob (rvalue0_p (x3.1.getD 0 0)) fun x19 =>
    (if x3.1.getD 0 0 = 64 then (ob (rbyte_p x3.1 x3.2) fun x31 =>
    (some (x31.1, x31.2.1, wrapA .i64 (Int.sub (Int.ofNat (x3.1.getD 0 0)) (Int.ofNat 128))))) else
    (if x19.1 = true then (ob (rbyte_p x3.1 x3.2) fun x32 =>
    (some (x32.1, x32.2.1, wrapA .i64 (Int.sub (Int.ofNat (x3.1.getD 0 0)) (Int.ofNat 128))))) else
    (if x19.2 = 5 then (ob (rfail_p x3.1 x3.2 x19.2) fun x33 =>
    (some (x33.1, x33.2, (0 : Int)))) else
    (ob (rs33_p x3.1 x3.2) fun x33 =>
    (if x33.2.2 < 0 then (ob (rfail_p x33.1 x33.2.1 2) fun x47 =>
    (some (x47.1, x47.2, x33.2.2))) else
    (some (x33.1, x33.2.1, x33.2.2))))))))))) else
    (gd (0 < rb.length) (ob (rvalue0_p (rb.getD 0 0)) fun x5 =>
    (if rb.getD 0 0 = 64 then (ob (rbyte_p rb re) fun x17 =>
    (some (x17.1, x17.2.1, wrapA .i64 (Int.sub (Int.ofNat (rb.getD 0 0)) (Int.ofNat 128))))) else
    (if x5.1 = true then (ob (rbyte_p rb re) fun x18 =>
    (some (x18.1, x18.2.1, wrapA .i64 (Int.sub (Int.ofNat (rb.getD 0 0)) (Int.ofNat 128))))) else
    (if x5.2 = 5 then (ob (rfail_p rb re x5.2) fun x19 =>
    (some (x19.1, x19.2, (0 : Int)))) else
    (ob (rs33_p rb re) fun x19 =>
    (if x19.2.2 < 0 then (ob (rfail_p x19.1 x19.2.1 2) fun x33 =>
    (some (x33.1, x33.2, x19.2.2))) else
    (some (x19.1, x19.2.1, x19.2.2)))))))))) else
    (some (rb, re, (0 : Int))))
def C_rblock (call : CallT) : Prop := ∀ {h : Hp} {h0 : Hp} {G : Nat → Prop} {R : List AObj} {b : Nat} {rest : List AV} {wrb_1 : AV} {rb : List Nat} {re : Nat} (frb_2 : BIn G h0 wrb_1 rb) {r : List Nat × Nat × Int}, rblock_p rb re = some r → Eng.Sep (Cel b (wrb_1 :: (vi re) :: rest) :: Frz G h0 :: R) h → ∃ rv rh, call 87 [(AV.ptr b 0)] h = .ok rv rh ∧ ∃ wk1 : AV, rv = (AV.int .i64 r.2.2) ∧ (BIn G h0 wk1 r.1) ∧ Eng.Sep (Cel b (wk1 :: (vi r.2.1) :: rest) :: Frz G h0 :: R) rh
noncomputable def rop_p (rb : List Nat) (re : Nat) : Option (List Nat × Nat × Nat) :=
  (ob (rbyte_p rb re) fun x1 =>
    (if x1.2.2 = 252 then (if x1.2.1 = 0 then (ob (ru32_p x1.1 x1.2.1) fun x17 =>
    (if 255 < x17.2.2 then (ob (rfail_p x17.1 x17.2.1 2) fun x32 =>
    (gd (64512 + x17.2.2 < 9223372036854775808) (some (x32.1, x32.2, 64512 + x17.2.2)))) else
    (gd (64512 + x17.2.2 < 9223372036854775808) (some (x17.1, x17.2.1, 64512 + x17.2.2))))) else
    (some (x1.1, x1.2.1, x1.2.2))) else
    (some (x1.1, x1.2.1, x1.2.2))))
def C_rop (call : CallT) : Prop := ∀ {h : Hp} {h0 : Hp} {G : Nat → Prop} {R : List AObj} {b : Nat} {rest : List AV} {wrb_1 : AV} {rb : List Nat} {re : Nat} (frb_2 : BIn G h0 wrb_1 rb) {r : List Nat × Nat × Nat}, rop_p rb re = some r → Eng.Sep (Cel b (wrb_1 :: (vi re) :: rest) :: Frz G h0 :: R) h → ∃ rv rh, call 82 [(AV.ptr b 0)] h = .ok rv rh ∧ ∃ wk1 : AV, rv = (vi r.2.2) ∧ (BIn G h0 wk1 r.1) ∧ Eng.Sep (Cel b (wk1 :: (vi r.2.1) :: rest) :: Frz G h0 :: R) rh
noncomputable def rinstr_l1 (B6 : Nat) (B29 : Nat) : Nat → Nat → List Nat → Nat → Nat → Nat → Nat → Nat → List Nat → Nat → Nat → Nat → Nat → Nat → List Nat → Nat → Option (Nat × List Nat × Nat × Nat × Nat × Nat × Nat × List Nat × Nat × Nat × Nat × Nat × Nat × List Nat × Nat)
  | 0, _, _, _, _, _, _, _, _, _, _, _, _, _, _, _ => none
  | m + 1, A7, Q1_0, Q1_1, Q102_0, Q102_1, Q102_2, Q102_3, Q102_4, Q102_5, Q101_0, Q101_1, Q101_2, Q101_3, Q101_4, Q101_5 =>
    (if A7 < B6 then (if Q1_1 = 0 then (ob (ru32_p Q1_0 Q1_1) fun x5 =>
    (gd ((Q102_4.length + 1) * 4 ≤ 70368744177664) (rinstr_l1 B6 B29 m ((A7 + 1) % 4294967296) x5.1 x5.2.1 Q102_0 Q102_1 Q102_2 Q102_3 (Q102_4 ++ [x5.2.2]) Q102_5 Q101_0 Q101_1 Q101_2 Q101_3 Q101_4 Q101_5))) else
    (some ((A7, Q1_0, Q1_1, Q102_0, Q102_1, Q102_2, Q102_3, Q102_4, Q102_5, Q101_0, Q101_1, Q101_2, Q101_3, Q101_4, Q101_5)))) else
    (some ((A7, Q1_0, Q1_1, Q102_0, Q102_1, Q102_2, Q102_3, Q102_4, Q102_5, Q101_0, Q101_1, Q101_2, Q101_3, Q101_4, Q101_5))))
noncomputable def rinstr_l1C : AC := (.seq (.seq (.region [⟨(some 126), .q (.move (.tmp 7)), none⟩, ⟨(some 127), .q (.move (.tmp 6)), none⟩, ⟨(some 128), .q (.bin .lss (.tmp 126) (.tmp 127)), none⟩, ⟨(some 129), .q (.move (.tmp 128)), none⟩, ⟨(some 130), .q (.move (.tmp 0)), (some (129, true))⟩, ⟨(some 131), .q (.nilCheck (.tmp 130)), (some (129, true))⟩, ⟨(some 132), .q (.fieldAddr 0 (.tmp 131)), (some (129, true))⟩, ⟨(some 133), .q (.fieldAddr 1 (.tmp 132)), (some (129, true))⟩, ⟨(some 134), .q (.loadS (.tmp 133)), (some (129, true))⟩, ⟨(some 135), .q (.eq .int false (.tmp 134) (.const (vi 0))), (some (129, true))⟩, ⟨(some 136), .q (.pick (.tmp 129) (.tmp 135) (.const (AV.bool false))), none⟩]) (.cond (.tmp 136) .skip (.exit 1))) (.seq (.block 2 (.drawn [⟨[(⟨(some 139), .q (.fieldAddr 4 (.tmp 3)), none⟩, 1), (⟨(some 140), .q (.loadS (.tmp 139)), none⟩, 1), (⟨(some 141), .q (.move (.tmp 0)), none⟩, 0), (⟨(some 142), .q (.nilCheck (.tmp 141)), none⟩, 0), (⟨(some 143), .q (.fieldAddr 0 (.tmp 142)), none⟩, 0)], (some ⟨(some 144), .e (.call (.const (AV.func (.func 84) [] [])) [(.tmp 143)]), none⟩)⟩, ⟨[(⟨(some 145), .l (.buildSlice 1 1 [(vw 0)] [(0, 1, (.tmp 144))]), none⟩, 1)], (some ⟨(some 146), .e (.append 1 4 (.tmp 140) (.tmp 145)), none⟩)⟩, ⟨[(⟨(some 147), .q (.fieldAddr 4 (.tmp 3)), none⟩, 2)], (some ⟨none, .e (.store 1 (.tmp 147) (.tmp 146)), none⟩)⟩, ⟨[], none⟩])) (.region [⟨(some 137), .q (.move (.tmp 7)), none⟩, ⟨(some 138), .q (.bin .add (.tmp 137) (.const (vw 1))), none⟩, ⟨(some 7), .q (.move (.tmp 138)), none⟩])))
noncomputable def rinstr_p (rb : List Nat) (re : Nat) : Option (List Nat × Nat × (Nat × Nat × Nat × Nat × List Nat × Int)) :=
  (ob (rop_p rb re) fun x4 =>
    (if x4.2.1 ≠ 0 then (some (x4.1, x4.2.1, (x4.2.2, 0, 0, 0, [], (0 : Int)))) else
    (gd (OpOk x4.2.2) (ob (rfail_p x4.1 x4.2.1 ((kF x4.2.2).2)) fun x24 =>
    (if (kF x4.2.2).1 = 1 then (if x4.2.2 = 63 then (ob (rzero_p x24.1 x24.2) fun x39 =>
    (some (x39.1, x39.2, (x4.2.2, 0, 0, 0, [], (0 : Int))))) else
    (if x4.2.2 = 64 then (ob (rzero_p x24.1 x24.2) fun x40 =>
    (some (x40.1, x40.2, (x4.2.2, 0, 0, 0, [], (0 : Int))))) else
    (if x4.2.2 = 64523 then (ob (rzero_p x24.1 x24.2) fun x41 =>
    (some (x41.1, x41.2, (x4.2.2, 0, 0, 0, [], (0 : Int))))) else
    (ob (ru32_p x24.1 x24.2) fun x41 =>
    (some (x41.1, x41.2.1, (x4.2.2, x41.2.2, 0, 0, [], (0 : Int)))))))) else
    (if (kF x4.2.2).1 = 2 then (if x4.2.2 = 64522 then (ob (rzero_p x24.1 x24.2) fun x40 =>
    (ob (rzero_p x40.1 x40.2) fun x53 =>
    (some (x53.1, x53.2, (x4.2.2, 0, 0, 0, [], (0 : Int)))))) else
    (ob (ru32_p x24.1 x24.2) fun x40 =>
    (if x4.2.2 = 64520 then (ob (rzero_p x40.1 x40.2.1) fun x57 =>
    (some (x57.1, x57.2, (x4.2.2, x40.2.2, 0, 0, [], (0 : Int))))) else
    (ob (ru32_p x40.1 x40.2.1) fun x57 =>
    (some (x57.1, x57.2.1, (x4.2.2, x40.2.2, x57.2.2, 0, [], (0 : Int)))))))) else
    (if (kF x4.2.2).1 = 3 then (ob (rs32_p x24.1 x24.2) fun x40 =>
    (some (x40.1, x40.2.1, (x4.2.2, 0, 0, x40.2.2, [], (0 : Int))))) else
    (if (kF x4.2.2).1 = 4 then (ob (rs64_p x24.1 x24.2) fun x41 =>
    (some (x41.1, x41.2.1, (x4.2.2, 0, 0, x41.2.2, [], (0 : Int))))) else
    (if (kF x4.2.2).1 = 5 then (ob (ru32_p x24.1 x24.2) fun x42 =>
    (if 31 < x42.2.2 then (ob (rfail_p x42.1 x42.2.1 2) fun x59 =>
    (ob (ru32_p x59.1 x59.2) fun x72 =>
    (some (x72.1, x72.2.1, (x4.2.2, x42.2.2, x72.2.2, 0, [], (0 : Int)))))) else
    (ob (ru32_p x42.1 x42.2.1) fun x59 =>
    (some (x59.1, x59.2.1, (x4.2.2, x42.2.2, x59.2.2, 0, [], (0 : Int))))))) else
    (if (kF x4.2.2).1 = 6 then (ob (rblock_p x24.1 x24.2) fun x43 =>
    (some (x43.1, x43.2.1, (x4.2.2, 0, 0, 0, [], x43.2.2)))) else
    (if (kF x4.2.2).1 = 7 then (ob (ru32_p x24.1 x24.2) fun x44 =>
    (if 600 < x44.2.2 then (ob (rfail_p x44.1 x44.2.1 4) fun x59 =>
    (ob (rinstr_l1 x44.2.2 ((kF x4.2.2).1) 90000 0 x59.1 x59.2 x4.2.2 0 0 0 ([] : List Nat) 0 0 0 0 0 ([] : List Nat) 0) fun o84 =>
    (ob (ru32_p o84.2.1 o84.2.2.1) fun x94 =>
    (some (x94.1, x94.2.1, (o84.2.2.2.1, x94.2.2, o84.2.2.2.2.2.1, o84.2.2.2.2.2.2.1, o84.2.2.2.2.2.2.2.1, ((o84.2.2.2.2.2.2.2.2.1 : Nat) : Int))))))) else
    (ob (rinstr_l1 x44.2.2 ((kF x4.2.2).1) 90000 0 x44.1 x44.2.1 x4.2.2 0 0 0 ([] : List Nat) 0 0 0 0 0 ([] : List Nat) 0) fun o71 =>
    (ob (ru32_p o71.2.1 o71.2.2.1) fun x81 =>
    (some (x81.1, x81.2.1, (o71.2.2.2.1, x81.2.2, o71.2.2.2.2.2.1, o71.2.2.2.2.2.2.1, o71.2.2.2.2.2.2.2.1, ((o71.2.2.2.2.2.2.2.2.1 : Nat) : Int)))))))) else
    (if (kF x4.2.2).1 = 8 then (if x4.2.2 = 28 then (ob (ru32_p x24.1 x24.2) fun x46 =>
    (if x46.2.2 ≠ 1 then (ob (rfail_p x46.1 x46.2.1 2) fun x61 =>
    (ob (rvalue_p x61.1 x61.2) fun x74 =>
    (if x4.2.2 = 208 then (ob (rref_p (x74.2.2 % 256)) fun x93 =>
    (if x93 = false then (ob (rfail_p x74.1 x74.2.1 2) fun x105 =>
    (some (x105.1, x105.2, (x4.2.2, x74.2.2, 0, 0, [], (0 : Int))))) else
    (some (x74.1, x74.2.1, (x4.2.2, x74.2.2, 0, 0, [], (0 : Int)))))) else
    (some (x74.1, x74.2.1, (x4.2.2, x74.2.2, 0, 0, [], (0 : Int))))))) else
    (ob (rvalue_p x46.1 x46.2.1) fun x61 =>
    (if x4.2.2 = 208 then (ob (rref_p (x61.2.2 % 256)) fun x80 =>
    (if x80 = false then (ob (rfail_p x61.1 x61.2.1 2) fun x92 =>
    (some (x92.1, x92.2, (x4.2.2, x61.2.2, 0, 0, [], (0 : Int))))) else
    (some (x61.1, x61.2.1, (x4.2.2, x61.2.2, 0, 0, [], (0 : Int)))))) else
    (some (x61.1, x61.2.1, (x4.2.2, x61.2.2, 0, 0, [], (0 : Int)))))))) else
    (ob (rvalue_p x24.1 x24.2) fun x46 =>
    (if x4.2.2 = 208 then (ob (rref_p (x46.2.2 % 256)) fun x65 =>
    (if x65 = false then (ob (rfail_p x46.1 x46.2.1 2) fun x77 =>
    (some (x77.1, x77.2, (x4.2.2, x46.2.2, 0, 0, [], (0 : Int))))) else
    (some (x46.1, x46.2.1, (x4.2.2, x46.2.2, 0, 0, [], (0 : Int)))))) else
    (some (x46.1, x46.2.1, (x4.2.2, x46.2.2, 0, 0, [], (0 : Int))))))) else
    (some (x24.1, x24.2, (x4.2.2, 0, 0, 0, [], (0 : Int))))))))))))))))
def C_rinstr (call : CallT) : Prop := ∀ {h : Hp} {h0 : Hp} {G : Nat → Prop} {R : List AObj} {b : Nat} {rest : List AV} {wrb_1 : AV} {rb : List Nat} {re : Nat} (frb_2 : BIn G h0 wrb_1 rb) {r : List Nat × Nat × (Nat × Nat × Nat × Nat × List Nat × Int)}, rinstr_p rb re = some r → Eng.Sep (Cel b (wrb_1 :: (vi re) :: rest) :: Frz G h0 :: R) h → ∃ rv rh, call 53 [(AV.ptr b 0)] h = .ok rv rh ∧ ∃ wk4 : AV, ∃ wk6 : AV, ∃ Gk : Nat → Prop, ∃ kk : Hp, rv = (AV.agg [(vi r.2.2.1), (vw r.2.2.2.1), (vw r.2.2.2.2.1), (vq r.2.2.2.2.2.1), wk4, (AV.int .i64 r.2.2.2.2.2.2.2)]) ∧ (r.2.2.2.1 < 4294967296) ∧ (r.2.2.2.2.1 < 4294967296) ∧ (r.2.2.2.2.2.1 < 18446744073709551616) ∧ (SIn (rU .u32) Gk kk wk4 r.2.2.2.2.2.2.1) ∧ (BIn G h0 wk6 r.1) ∧ Eng.Sep (Cel b (wk6 :: (vi r.2.1) :: rest) :: Frz Gk kk :: Frz G h0 :: R) rh
end Go.Proofs.Ytpelnanckmjoaaa
end
section
set_option linter.unusedVariables false
namespace Go.Proofs.Ytpelnanckmjoaaa
set_option linter.unusedVariables false
set_option linter.unusedSimpArgs false
open Go Eng
noncomputable def rbody_l1  : Nat → List Nat → List (Nat × Nat × Nat × Nat × List Nat × Int) → List Nat → List Nat → Nat → Option (LO (List Nat × List (Nat × Nat × Nat × Nat × List Nat × Int) × List Nat × List Nat × Nat) (List Nat × Nat × List (Nat × Nat × Nat × Nat × List Nat × Int)))
  | 0, _, _, _, _, _ => none
  | m + 1, A2, A3, A4, Q1_0, Q1_1 =>
    (if Q1_1 = 0 then (if 600 ≤ A3.length then (ob (rfail_p Q1_0 Q1_1 4) fun x5 =>
    (some (LO.rt (x5.1, x5.2, A3)))) else
    (ob (rinstr_p Q1_0 Q1_1) fun x5 =>
    (if x5.2.1 ≠ 0 then (some (LO.rt (x5.1, x5.2.1, A3))) else
    (gd ((A3.length + 1) * 56 ≤ 70368744177664) (if 2 ≤ x5.2.2.1 then (if x5.2.2.1 ≤ 4 then (gd ((A4.length + 1) * 8 ≤ 70368744177664) (if 32 < (A4 ++ [x5.2.2.1]).length then (ob (rfail_p x5.1 x5.2.1 4) fun x51 =>
    (rbody_l1  m A2 (A3 ++ [(x5.2.2.1, x5.2.2.2.1, x5.2.2.2.2.1, x5.2.2.2.2.2.1, x5.2.2.2.2.2.2.1, x5.2.2.2.2.2.2.2)]) (A4 ++ [x5.2.2.1]) x51.1 x51.2)) else
    (rbody_l1  m A2 (A3 ++ [(x5.2.2.1, x5.2.2.2.1, x5.2.2.2.2.1, x5.2.2.2.2.2.1, x5.2.2.2.2.2.2.1, x5.2.2.2.2.2.2.2)]) (A4 ++ [x5.2.2.1]) x5.1 x5.2.1))) else
    (if x5.2.2.1 = 5 then (if A4.length = 0 then (ob (rfail_p x5.1 x5.2.1 2) fun x45 =>
    (some (LO.rt (x45.1, x45.2, A3 ++ [(x5.2.2.1, x5.2.2.2.1, x5.2.2.2.2.1, x5.2.2.2.2.2.1, x5.2.2.2.2.2.2.1, x5.2.2.2.2.2.2.2)])))) else
    (gd (1 ≤ A4.length) (gd (A4.length < 9223372036854775808) (gd (A4.length - 1 < A4.length) (if (A4.getD (A4.length - 1) default) ≠ 4 then (ob (rfail_p x5.1 x5.2.1 2) fun x49 =>
    (some (LO.rt (x49.1, x49.2, A3 ++ [(x5.2.2.1, x5.2.2.2.1, x5.2.2.2.2.1, x5.2.2.2.2.2.1, x5.2.2.2.2.2.2.1, x5.2.2.2.2.2.2.2)])))) else
    (rbody_l1  m A2 (A3 ++ [(x5.2.2.1, x5.2.2.2.1, x5.2.2.2.2.1, x5.2.2.2.2.2.1, x5.2.2.2.2.2.2.1, x5.2.2.2.2.2.2.2)]) (A4.set (A4.length - 1) 5) x5.1 x5.2.1)))))) else
    (if x5.2.2.1 = 11 then (if A4.length = 0 then (some (LO.rt (x5.1, x5.2.1, A3 ++ [(x5.2.2.1, x5.2.2.2.1, x5.2.2.2.2.1, x5.2.2.2.2.2.1, x5.2.2.2.2.2.2.1, x5.2.2.2.2.2.2.2)]))) else
    (gd (1 ≤ A4.length) (gd (A4.length < 9223372036854775808) (gd (A4.length - 1 ≤ A4.length) (rbody_l1  m A2 (A3 ++ [(x5.2.2.1, x5.2.2.2.1, x5.2.2.2.2.1, x5.2.2.2.2.2.1, x5.2.2.2.2.2.2.1, x5.2.2.2.2.2.2.2)]) (A4.take (A4.length - 1)) x5.1 x5.2.1))))) else
    (rbody_l1  m A2 (A3 ++ [(x5.2.2.1, x5.2.2.2.1, x5.2.2.2.2.1, x5.2.2.2.2.2.1, x5.2.2.2.2.2.2.1, x5.2.2.2.2.2.2.2)]) A4 x5.1 x5.2.1)))) else
    (if x5.2.2.1 = 5 then (if A4.length = 0 then (ob (rfail_p x5.1 x5.2.1 2) fun x44 =>
    (some (LO.rt (x44.1, x44.2, A3 ++ [(x5.2.2.1, x5.2.2.2.1, x5.2.2.2.2.1, x5.2.2.2.2.2.1, x5.2.2.2.2.2.2.1, x5.2.2.2.2.2.2.2)])))) else
    (gd (1 ≤ A4.length) (gd (A4.length < 9223372036854775808) (gd (A4.length - 1 < A4.length) (if (A4.getD (A4.length - 1) default) ≠ 4 then (ob (rfail_p x5.1 x5.2.1 2) fun x48 =>
    (some (LO.rt (x48.1, x48.2, A3 ++ [(x5.2.2.1, x5.2.2.2.1, x5.2.2.2.2.1, x5.2.2.2.2.2.1, x5.2.2.2.2.2.2.1, x5.2.2.2.2.2.2.2)])))) else
    (rbody_l1  m A2 (A3 ++ [(x5.2.2.1, x5.2.2.2.1, x5.2.2.2.2.1, x5.2.2.2.2.2.1, x5.2.2.2.2.2.2.1, x5.2.2.2.2.2.2.2)]) (A4.set (A4.length - 1) 5) x5.1 x5.2.1)))))) else
    (if x5.2.2.1 = 11 then (if A4.length = 0 then (some (LO.rt (x5.1, x5.2.1, A3 ++ [(x5.2.2.1, x5.2.2.2.1, x5.2.2.2.2.1, x5.2.2.2.2.2.1, x5.2.2.2.2.2.2.1, x5.2.2.2.2.2.2.2)]))) else
    (gd (1 ≤ A4.length) (gd (A4.length < 9223372036854775808) (gd (A4.length - 1 ≤ A4.length) (rbody_l1  m A2 (A3 ++ [(x5.2.2.1, x5.2.2.2.1, x5.2.2.2.2.1, x5.2.2.2.2.2.1, x5.2.2.2.2.2.2.1, x5.2.2.2.2.2.2.2)]) (A4.take (A4.length - 1)) x5.1 x5.2.1))))) else
    (rbody_l1  m A2 (A3 ++ [(x5.2.2.1, x5.2.2.2.1, x5.2.2.2.2.1, x5.2.2.2.2.2.1, x5.2.2.2.2.2.2.1, x5.2.2.2.2.2.2.2)]) A4 x5.1 x5.2.1)))))))) else
    (some (LO.ex (A2, A3, A4, Q1_0, Q1_1))))
noncomputable def rbody_l1C : AC := (.seq (.seq (.region [⟨(some 6), .q (.move (.tmp 0)), none⟩, ⟨(some 7), .q (.nilCheck (.tmp 6)), none⟩, ⟨(some 8), .q (.fieldAddr 0 (.tmp 7)), none⟩, ⟨(some 9), .q (.fieldAddr 1 (.tmp 8)), none⟩, ⟨(some 10), .q (.loadS (.tmp 9)), none⟩, ⟨(some 11), .q (.eq .int false (.tmp 10) (.const (vi 0))), none⟩]) (.cond (.tmp 11) .skip (.exit 0))) (.block 1 (.seq (.seq (.region [⟨(some 12), .q (.move (.tmp 3)), none⟩, ⟨(some 13), .q (.lenL (.tmp 12)), none⟩, ⟨(some 14), .q (.bin .geq (.tmp 13) (.const (vi 600))), none⟩]) (.cond (.tmp 14) (.seq (.region [⟨(some 15), .q (.move (.tmp 0)), none⟩, ⟨(some 16), .q (.nilCheck (.tmp 15)), none⟩, ⟨(some 17), .q (.fieldAddr 0 (.tmp 16)), none⟩, ⟨(some 18), .e (.call (.const (AV.func (.func 52) [] [])) [(.tmp 17), (.const (vi 4))]), none⟩]) (.seq (.region [⟨(some 19), .q (.move (.tmp 3)), none⟩, ⟨(some 2), .q (.move (.tmp 19)), none⟩]) .ret)) .skip)) (.seq (.region [⟨(some 20), .q (.move (.tmp 0)), none⟩, ⟨(some 21), .e (.call (.const (AV.func (.func 53) [] [])) [(.tmp 20)]), none⟩, ⟨(some 5), .l (.alloc [(vi 0), (vw 0), (vw 0), (vq 0), AV.nilSlice, (vi 0)]), none⟩, ⟨none, .e (.store 6 (.tmp 5) (.tmp 21)), none⟩]) (.seq (.seq (.region [⟨(some 22), .q (.move (.tmp 0)), none⟩, ⟨(some 23), .q (.nilCheck (.tmp 22)), none⟩, ⟨(some 24), .q (.fieldAddr 0 (.tmp 23)), none⟩, ⟨(some 25), .q (.fieldAddr 1 (.tmp 24)), none⟩, ⟨(some 26), .q (.loadS (.tmp 25)), none⟩, ⟨(some 27), .q (.eq .int true (.tmp 26) (.const (vi 0))), none⟩]) (.cond (.tmp 27) (.seq (.region [⟨(some 28), .q (.move (.tmp 3)), none⟩, ⟨(some 2), .q (.move (.tmp 28)), none⟩]) .ret) .skip)) (.seq (.region [⟨(some 29), .q (.move (.tmp 3)), none⟩, ⟨(some 30), .q (.loadA 6 (.tmp 5)), none⟩, ⟨(some 31), .l (.buildSlice 6 1 [(vi 0), (vw 0), (vw 0), (vq 0), AV.nilSlice, (vi 0)] [(0, 6, (.tmp 30))]), none⟩, ⟨(some 32), .e (.append 6 56 (.tmp 29) (.tmp 31)), none⟩, ⟨(some 3), .q (.move (.tmp 32)), none⟩]) (.block 2 (.seq (.region [⟨(some 34), .q (.fieldAddr 0 (.tmp 5)), none⟩, ⟨(some 35), .q (.loadS (.tmp 34)), none⟩, ⟨(some 36), .q (.bin .geq (.tmp 35) (.const (vi 2))), none⟩, ⟨(some 37), .q (.move (.tmp 36)), none⟩, ⟨(some 38), .q (.fieldAddr 0 (.tmp 5)), (some (37, true))⟩, ⟨(some 39), .q (.loadS (.tmp 38)), (some (37, true))⟩, ⟨(some 40), .q (.bin .leq (.tmp 39) (.const (vi 4))), (some (37, true))⟩, ⟨(some 41), .q (.pick (.tmp 37) (.tmp 40) (.const (AV.bool false))), none⟩, ⟨(some 33), .q (.move (.tmp 41)), none⟩]) (.cond (.tmp 33) (.seq (.region [⟨(some 42), .q (.move (.tmp 4)), none⟩, ⟨(some 43), .q (.fieldAddr 0 (.tmp 5)), none⟩, ⟨(some 44), .q (.loadS (.tmp 43)), none⟩, ⟨(some 45), .l (.buildSlice 1 1 [(vi 0)] [(0, 1, (.tmp 44))]), none⟩, ⟨(some 46), .e (.append 1 8 (.tmp 42) (.tmp 45)), none⟩, ⟨(some 4), .q (.move (.tmp 46)), none⟩]) (.seq (.region [⟨(some 47), .q (.move (.tmp 4)), none⟩, ⟨(some 48), .q (.lenL (.tmp 47)), none⟩, ⟨(some 49), .q (.bin .gtr (.tmp 48) (.const (vi 32))), none⟩]) (.cond (.tmp 49) (.region [⟨(some 50), .q (.move (.tmp 0)), none⟩, ⟨(some 51), .q (.nilCheck (.tmp 50)), none⟩, ⟨(some 52), .q (.fieldAddr 0 (.tmp 51)), none⟩, ⟨(some 53), .e (.call (.const (AV.func (.func 52) [] [])) [(.tmp 52), (.const (vi 4))]), none⟩]) .skip))) (.seq (.region [⟨(some 55), .q (.fieldAddr 0 (.tmp 5)), none⟩, ⟨(some 56), .q (.loadS (.tmp 55)), none⟩, ⟨(some 57), .q (.eq .int false (.tmp 56) (.const (vi 5))), none⟩, ⟨(some 54), .q (.move (.tmp 57)), none⟩]) (.cond (.tmp 54) (.seq (.seq (.region [⟨(some 58), .q (.move (.tmp 4)), none⟩, ⟨(some 59), .q (.lenL (.tmp 58)), none⟩, ⟨(some 60), .q (.eq .int false (.tmp 59) (.const (vi 0))), none⟩, ⟨(some 61), .q (.move (.tmp 60)), none⟩, ⟨(some 62), .q (.move (.tmp 4)), (some (61, false))⟩, ⟨(some 63), .q (.move (.tmp 4)), (some (61, false))⟩, ⟨(some 64), .q (.lenL (.tmp 63)), (some (61, false))⟩, ⟨(some 65), .q (.bin .sub (.tmp 64) (.const (vi 1))), (some (61, false))⟩, ⟨(some 66), .q (.idxAddrSl 1 (.tmp 62) (.tmp 65)), (some (61, false))⟩, ⟨(some 67), .q (.loadS (.tmp 66)), (some (61, false))⟩, ⟨(some 68), .q (.eq .int true (.tmp 67) (.const (vi 4))), (some (61, false))⟩, ⟨(some 69), .q (.pick (.tmp 61) (.const (AV.bool true)) (.tmp 68)), none⟩]) (.cond (.tmp 69) (.seq (.region [⟨(some 70), .q (.move (.tmp 0)), none⟩, ⟨(some 71), .q (.nilCheck (.tmp 70)), none⟩, ⟨(some 72), .q (.fieldAddr 0 (.tmp 71)), none⟩, ⟨(some 73), .e (.call (.const (AV.func (.func 52) [] [])) [(.tmp 72), (.const (vi 2))]), none⟩]) (.seq (.region [⟨(some 74), .q (.move (.tmp 3)), none⟩, ⟨(some 2), .q (.move (.tmp 74)), none⟩]) .ret)) .skip)) (.region [⟨(some 75), .q (.move (.tmp 4)), none⟩, ⟨(some 76), .q (.move (.tmp 4)), none⟩, ⟨(some 77), .q (.lenL (.tmp 76)), none⟩, ⟨(some 78), .q (.bin .sub (.tmp 77) (.const (vi 1))), none⟩, ⟨(some 79), .q (.idxAddrSl 1 (.tmp 75) (.tmp 78)), none⟩, ⟨none, .e (.store 1 (.tmp 79) (.const (vi 5))), none⟩])) (.seq (.region [⟨(some 81), .q (.fieldAddr 0 (.tmp 5)), none⟩, ⟨(some 82), .q (.loadS (.tmp 81)), none⟩, ⟨(some 83), .q (.eq .int false (.tmp 82) (.const (vi 11))), none⟩, ⟨(some 80), .q (.move (.tmp 83)), none⟩]) (.cond (.tmp 80) (.seq (.seq (.region [⟨(some 84), .q (.move (.tmp 4)), none⟩, ⟨(some 85), .q (.lenL (.tmp 84)), none⟩, ⟨(some 86), .q (.eq .int false (.tmp 85) (.const (vi 0))), none⟩]) (.cond (.tmp 86) (.seq (.region [⟨(some 87), .q (.move (.tmp 3)), none⟩, ⟨(some 2), .q (.move (.tmp 87)), none⟩]) .ret) .skip)) (.region [⟨(some 88), .q (.move (.tmp 4)), none⟩, ⟨(some 89), .q (.move (.tmp 4)), none⟩, ⟨(some 90), .q (.lenL (.tmp 89)), none⟩, ⟨(some 91), .q (.bin .sub (.tmp 90) (.const (vi 1))), none⟩, ⟨(some 92), .q (.sliceSl 1 (.tmp 88) none (some (.tmp 91)) none), none⟩, ⟨(some 4), .q (.move (.tmp 92)), none⟩])) .skip)))))))))))))
noncomputable def rbody_p (rb : List Nat) (re : Nat) : Option (List Nat × Nat × List (Nat × Nat × Nat × Nat × List Nat × Int)) :=
  (ob (rbody_l1  90000 ([] : List Nat) ([] : List (Nat × Nat × Nat × Nat × List Nat × Int)) ([] : List Nat) rb re) fun o11 =>
    (LO.on o11 (fun s_o11 => (some (s_o11.2.2.2.1, s_o11.2.2.2.2, s_o11.2.1))) (fun y18 =>
    (some y18))))
def C_rbody (call : CallT) : Prop := ∀ {h : Hp} {h0 : Hp} {G : Nat → Prop} {R : List AObj} {b : Nat} {rest : List AV} {wrb_1 : AV} {rb : List Nat} {re : Nat} (frb_2 : BIn G h0 wrb_1 rb) {r : List Nat × Nat × List (Nat × Nat × Nat × Nat × List Nat × Int)}, rbody_p rb re = some r → Eng.Sep (Cel b (wrb_1 :: (vi re) :: rest) :: Frz G h0 :: R) h → ∃ rv rh, call 33 [(AV.ptr b 0)] h = .ok rv rh ∧ ∃ wk1 : AV, ∃ Lk3 : List AV, ∃ wk4 : AV, ∃ Gk : Nat → Prop, ∃ kk : Hp, rv = wk1 ∧ (Eng.Rows (rP (rN0 .i64) (rP (rU .u32) (rP (rU .u32) (rP (rU .u64) (rP (rL (rU .u32)) (rZ .i64)))))) Gk kk Lk3 r.2.2) ∧ (BIn G h0 wk4 r.1) ∧ Eng.Sep (OwnO 6 wk1 r.2.2.length Lk3 :: Cel b (wk4 :: (vi r.2.1) :: rest) :: Frz Gk kk :: Frz G h0 :: R) rh
noncomputable def rBody_p (b : List Nat) : Option (List (Nat × Nat × Nat × Nat × List Nat × Int) × Nat × Nat) :=
  (ob (rbody_p b 0) fun x2 =>
    (if x2.2.1 ≠ 0 then (some ([], 0, x2.2.1)) else
    (gd (x2.1.length ≤ b.length) (gd (b.length < 9223372036854775808) (some (x2.2.2, b.length - x2.1.length, 0))))))
def C_rBody (call : CallT) : Prop := ∀ {h : Hp} {wb_1 : AV} {b : List Nat} (fb_2 : BIn (Low h) h wb_1 b) {r : List (Nat × Nat × Nat × Nat × List Nat × Int) × Nat × Nat}, rBody_p b = some r → ∃ rv rh, call 14 [wb_1] h = .ok rv rh ∧ ∃ wk1 : AV, ∃ Lk3 : List AV, ∃ Gk : Nat → Prop, ∃ kk : Hp, rv = (AV.tuple [wk1, (vi r.2.1), (vi r.2.2)]) ∧ (Eng.Rows (rP (rN0 .i64) (rP (rU .u32) (rP (rU .u32) (rP (rU .u64) (rP (rL (rU .u32)) (rZ .i64)))))) Gk kk Lk3 r.1) ∧ Eng.Sep (OwnO 6 wk1 r.1.length Lk3 :: Frz Gk kk :: Frz (Low h) h :: []) rh
noncomputable def sameInstr_l1  : Nat → Bool → Nat → Nat → Nat → Nat → Nat → List Nat → Int → Nat → Nat → Nat → Nat → List Nat → Int → Option (LO (Bool × Nat × Nat × Nat × Nat × Nat × List Nat × Int × Nat × Nat × Nat × Nat × List Nat × Int) (Bool))
  | 0, _, _, _, _, _, _, _, _, _, _, _, _, _, _ => none
  | m + 1, A4, A5, Q102_0, Q102_1, Q102_2, Q102_3, Q102_4, Q102_5, Q101_0, Q101_1, Q101_2, Q101_3, Q101_4, Q101_5 =>
    (if A5 < Q101_4.length then (gd (A5 < Q102_4.length) (if (Q101_4.getD A5 default) ≠ (Q102_4.getD A5 default) then (some (LO.rt false)) else
    (gd (A5 + 1 < 9223372036854775808) (sameInstr_l1  m A4 (A5 + 1) Q102_0 Q102_1 Q102_2 Q102_3 Q102_4 Q102_5 Q101_0 Q101_1 Q101_2 Q101_3 Q101_4 Q101_5)))) else
    (some (LO.ex (A4, A5, Q102_0, Q102_1, Q102_2, Q102_3, Q102_4, Q102_5, Q101_0, Q101_1, Q101_2, Q101_3, Q101_4, Q101_5))))
noncomputable def sameInstr_l1C : AC := (.seq (.seq (.region [⟨(some 48), .q (.move (.tmp 5)), none⟩, ⟨(some 49), .q (.fieldAddr 4 (.tmp 2)), none⟩, ⟨(some 50), .q (.loadS (.tmp 49)), none⟩, ⟨(some 51), .q (.lenL (.tmp 50)), none⟩, ⟨(some 52), .q (.bin .lss (.tmp 48) (.tmp 51)), none⟩]) (.cond (.tmp 52) .skip (.exit 0))) (.seq (.block 1 (.seq (.drawn [⟨[(⟨(some 55), .q (.fieldAddr 4 (.tmp 2)), none⟩, 0), (⟨(some 56), .q (.loadS (.tmp 55)), none⟩, 0), (⟨(some 57), .q (.move (.tmp 5)), none⟩, 0), (⟨(some 58), .q (.idxAddrSl 1 (.tmp 56) (.tmp 57)), none⟩, 0), (⟨(some 59), .q (.loadS (.tmp 58)), none⟩, 0), (⟨(some 60), .q (.fieldAddr 4 (.tmp 3)), none⟩, 0), (⟨(some 61), .q (.loadS (.tmp 60)), none⟩, 0), (⟨(some 62), .q (.move (.tmp 5)), none⟩, 0), (⟨(some 63), .q (.idxAddrSl 1 (.tmp 61) (.tmp 62)), none⟩, 0), (⟨(some 64), .q (.loadS (.tmp 63)), none⟩, 0), (⟨(some 65), .q (.eq .int true (.tmp 59) (.tmp 64)), none⟩, 0)], none⟩]) (.cond (.tmp 65) (.seq (.region [⟨(some 4), .q (.move (.const (AV.bool false))), none⟩]) .ret) .skip))) (.region [⟨(some 53), .q (.move (.tmp 5)), none⟩, ⟨(some 54), .q (.bin .add (.tmp 53) (.const (vi 1))), none⟩, ⟨(some 5), .q (.move (.tmp 54)), none⟩])))
noncomputable def sameInstr_p (a : (Nat × Nat × Nat × Nat × List Nat × Int)) (b : (Nat × Nat × Nat × Nat × List Nat × Int)) : Option (Bool) :=
  (if a.1 ≠ b.1 then (some false) else
    (if a.2.1 ≠ b.2.1 then (some false) else
    (if a.2.2.1 ≠ b.2.2.1 then (some false) else
    (if a.2.2.2.1 ≠ b.2.2.2.1 then (some false) else
    (if a.2.2.2.2.2 ≠ b.2.2.2.2.2 then (some false) else
    (if a.2.2.2.2.1.length ≠ b.2.2.2.2.1.length then (some false) else
    (ob (sameInstr_l1  90000 false 0 b.1 b.2.1 b.2.2.1 b.2.2.2.1 b.2.2.2.2.1 b.2.2.2.2.2 a.1 a.2.1 a.2.2.1 a.2.2.2.1 a.2.2.2.2.1 a.2.2.2.2.2) fun o9 =>
    (LO.on o9 (fun s_o9 => (some true)) (fun y16 =>
    (some y16))))))))))
def C_sameInstr (call : CallT) : Prop := ∀ {h : Hp} {wa_4 : AV} {wb_4 : AV} {a : (Nat × Nat × Nat × Nat × List Nat × Int)} {b : (Nat × Nat × Nat × Nat × List Nat × Int)} (fa_1 : a.2.1 < 4294967296) (fa_2 : a.2.2.1 < 4294967296) (fa_3 : a.2.2.2.1 < 18446744073709551616) (fa_5 : SIn (rU .u32) (Low h) h wa_4 a.2.2.2.2.1) (fb_1 : b.2.1 < 4294967296) (fb_2 : b.2.2.1 < 4294967296) (fb_3 : b.2.2.2.1 < 18446744073709551616) (fb_5 : SIn (rU .u32) (Low h) h wb_4 b.2.2.2.2.1) {r : Bool}, sameInstr_p a b = some r → ∃ rv rh, call 34 [(AV.agg [(vi a.1), (vw a.2.1), (vw a.2.2.1), (vq a.2.2.2.1), wa_4, (AV.int .i64 a.2.2.2.2.2)]), (AV.agg [(vi b.1), (vw b.2.1), (vw b.2.2.1), (vq b.2.2.2.1), wb_4, (AV.int .i64 b.2.2.2.2.2)])] h = .ok rv rh ∧ rv = (AV.bool r) ∧ Eng.Sep (Frz (Low h) h :: []) rh
noncomputable def sameBody_l1 (B0 : List (Nat × Nat × Nat × Nat × List Nat × Int)) (B1 : List (Nat × Nat × Nat × Nat × List Nat × Int)) : Nat → Bool → Nat → Option (LO (Bool × Nat) (Bool))
  | 0, _, _ => none
  | m + 1, A4, A5 =>
    (if A5 < B0.length then (gd (A5 < B1.length) (ob (sameInstr_p ((B0.getD A5 default).1, (B0.getD A5 default).2.1, (B0.getD A5 default).2.2.1, (B0.getD A5 default).2.2.2.1, (B0.getD A5 default).2.2.2.2.1, (B0.getD A5 default).2.2.2.2.2) ((B1.getD A5 default).1, (B1.getD A5 default).2.1, (B1.getD A5 default).2.2.1, (B1.getD A5 default).2.2.2.1, (B1.getD A5 default).2.2.2.2.1, (B1.getD A5 default).2.2.2.2.2)) fun x15 =>
    (if x15 = false then (some (LO.rt false)) else
    (gd (A5 + 1 < 9223372036854775808) (sameBody_l1 B0 B1 m A4 (A5 + 1)))))) else
    (some (LO.ex (A4, A5))))
noncomputable def sameBody_l1C : AC := (.seq (.seq (.region [⟨(some 11), .q (.move (.tmp 5)), none⟩, ⟨(some 12), .q (.move (.tmp 0)), none⟩, ⟨(some 13), .q (.lenL (.tmp 12)), none⟩, ⟨(some 14), .q (.bin .lss (.tmp 11) (.tmp 13)), none⟩]) (.cond (.tmp 14) .skip (.exit 0))) (.seq (.block 1 (.seq (.drawn [⟨[(⟨(some 17), .q (.move (.tmp 0)), none⟩, 0), (⟨(some 18), .q (.move (.tmp 5)), none⟩, 0), (⟨(some 19), .q (.idxAddrSl 6 (.tmp 17) (.tmp 18)), none⟩, 0), (⟨(some 20), .q (.loadA 6 (.tmp 19)), none⟩, 0), (⟨(some 21), .q (.move (.tmp 1)), none⟩, 0), (⟨(some 22), .q (.move (.tmp 5)), none⟩, 0), (⟨(some 23), .q (.idxAddrSl 6 (.tmp 21) (.tmp 22)), none⟩, 0), (⟨(some 24), .q (.loadA 6 (.tmp 23)), none⟩, 0)], (some ⟨(some 25), .e (.call (.const (AV.func (.func 34) [] [])) [(.tmp 20), (.tmp 24)]), none⟩)⟩, ⟨[(⟨(some 26), .q (.un .not (.tmp 25)), none⟩, 1)], none⟩]) (.cond (.tmp 26) (.seq (.region [⟨(some 4), .q (.move (.const (AV.bool false))), none⟩]) .ret) .skip))) (.region [⟨(some 15), .q (.move (.tmp 5)), none⟩, ⟨(some 16), .q (.bin .add (.tmp 15) (.const (vi 1))), none⟩, ⟨(some 5), .q (.move (.tmp 16)), none⟩])))
noncomputable def sameBody_p (a : List (Nat × Nat × Nat × Nat × List Nat × Int)) (b : List (Nat × Nat × Nat × Nat × List Nat × Int)) : Option (Bool) :=
  (if a.length ≠ b.length then (some false) else
    (ob (sameBody_l1 a b 90000 false 0) fun o2 =>
    (LO.on o2 (fun s_o2 => (some true)) (fun y9 =>
    (some y9)))))
def C_sameBody (call : CallT) : Prop := ∀ {h : Hp} {wa_1 : AV} {wb_1 : AV} {a : List (Nat × Nat × Nat × Nat × List Nat × Int)} {b : List (Nat × Nat × Nat × Nat × List Nat × Int)} (fa_2 : SIn (rP (rN0 .i64) (rP (rU .u32) (rP (rU .u32) (rP (rU .u64) (rP (rL (rU .u32)) (rZ .i64)))))) (Low h) h wa_1 a) (fb_2 : SIn (rP (rN0 .i64) (rP (rU .u32) (rP (rU .u32) (rP (rU .u64) (rP (rL (rU .u32)) (rZ .i64)))))) (Low h) h wb_1 b) {r : Bool}, sameBody_p a b = some r → ∃ rv rh, call 15 [wa_1, wb_1] h = .ok rv rh ∧ rv = (AV.bool r) ∧ Eng.Sep (Frz (Low h) h :: []) rh
end Go.Proofs.Ytpelnanckmjoaaa
end
