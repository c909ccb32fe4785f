/- A run of instructions each of which, but the first, leaves what it looks at as it was. -/
import Derived.Test.YtfeojipiejbagaaGreatDoorTabS
import Derived.Test.YtfeojipiejbagaaGreatDoorB4
import Derived.Test.YtfeojipiejbagaaGreatDoorB3
import Derived.Test.YtfeojipiejbagaaGreatDoorB2
set_option linter.unusedVariables false
set_option linter.unusedSimpArgs false
namespace Go.Proofs.YtfeojipiejbagaaGreatDoor
open Go Go.RowKit Eng
noncomputable def runC : AC := (.seq (.seq (.region [⟨(some 9), .q (.move (.tmp 1)), none⟩, ⟨(some 10), .q (.eq .ptr true (.tmp 9) (.const AV.nilPtr)), none⟩, ⟨(some 11), .q (.move (.tmp 10)), none⟩, ⟨(some 12), .q (.move (.tmp 1)), (some (11, true))⟩, ⟨(some 13), .q (.nilCheck (.tmp 12)), (some (11, true))⟩, ⟨(some 14), .q (.fieldAddr 2 (.tmp 13)), (some (11, true))⟩, ⟨(some 15), .q (.loadS (.tmp 14)), (some (11, true))⟩, ⟨(some 16), .q (.un .not (.tmp 15)), (some (11, true))⟩, ⟨(some 17), .q (.pick (.tmp 11) (.tmp 16) (.const (AV.bool false))), none⟩, ⟨(some 18), .q (.move (.tmp 17)), none⟩, ⟨(some 19), .q (.move (.tmp 8)), (some (18, true))⟩, ⟨(some 20), .q (.move (.tmp 3)), (some (18, true))⟩, ⟨(some 21), .q (.bin .lss (.tmp 19) (.tmp 20)), (some (18, true))⟩, ⟨(some 22), .q (.pick (.tmp 18) (.tmp 21) (.const (AV.bool false))), none⟩]) (.cond (.tmp 22) .skip (.exit 0))) (.block 1 (.seq (.region [⟨(some 23), .q (.move (.tmp 0)), none⟩, ⟨(some 24), .q (.move (.tmp 1)), none⟩, ⟨(some 25), .q (.move (.tmp 2)), none⟩, ⟨(some 26), .e (.call (.const (AV.func (.func 135) [] [])) [(.tmp 23), (.tmp 24), (.tmp 25)]), none⟩]) (.region [⟨(some 27), .q (.move (.tmp 8)), none⟩, ⟨(some 28), .q (.bin .add (.tmp 27) (.const (AV.int .i64 (Int.ofNat 1)))), none⟩, ⟨(some 8), .q (.move (.tmp 28)), none⟩]))))
abbrev LdF (b : Nat) (h : Hp) : Prop := evQ (.loadS (.const (.ptr b 2))) .lf h = .ok (.bool false)
noncomputable def isF (v : AV) : Bool := match v with | .bool b => notB b | _ => false
theorem isF_eq {v : AV} (h : isF v = true) : v = .bool false := by
  unfold isF at h; split at h
  · rename_i b; cases b
    · rfl
    · cases h
  · cases h
noncomputable def overB (b : Nat) (h : Hp) : Bool := (evQ (.loadS (.const (.ptr b 2))) .lf h).cs false isF
theorem overB_ok {b : Nat} {h : Hp} (e : overB b h = true) : LdF b h := by
  unfold overB at e
  unfold LdF
  cases hq : evQ (.loadS (.const (.ptr b 2))) .lf h with
  | no => rw [hq] at e; cases e
  | ok v => rw [hq] at e; rw [isF_eq (show isF v = true from e)]
noncomputable def runL (base : CallT) (S : List Nat) (A : List AV) (b n : Nat) : Hp → Option Hp := Nat.rec (motive := fun _ => Hp → Option Hp) some
  (fun _ ih h => bc (fixB base S 135 A h) (some h) ((base 135 A h).cs none fun v h1 => bc (isUnit v) (bc (overB b h1) (ih h1) none) none)) n
theorem bcO {b : Bool} {x : Option Hp} {v : Hp} (e : bc b x none = some v) : b = true ∧ x = some v := by
  cases b with
  | true => exact ⟨rfl, e⟩
  | false => cases e
open Classical in
noncomputable def callX (base : CallT) (S : List Nat) (A : List AV) : CallT := fun f args g => if f = 135 ∧ args = A ∧ fixB base S 135 A g = true then .ok (.tuple []) g else base f args g
theorem callX_ok {base : CallT} (hb : Eng.Good Tryz.prog base) (S : List Nat) (A : List AV) : Eng.Good Tryz.prog (callX base S A) := fun f args h v h' μ w cargs e hs r => by
  unfold callX at e
  split at e
  · rename_i k
    obtain ⟨rfl, rfl, hx⟩ := k
    cases e
    exact fix_ok hb hx hs r
  · exact hb f args h v h' μ w cargs e hs r
theorem runL_step {base : CallT} {S : List Nat} {A : List AV} {b n : Nat} {h hF : Hp} (ld : LdF b h) (e : runL base S A b (n + 1) h = some hF) : ∃ h1, (callX base S A) 135 A h = .ok (.tuple []) h1 ∧ LdF b h1 ∧ runL base S A b n h1 = some hF := by
  have e : bc (fixB base S 135 A h) (some h) ((base 135 A h).cs none fun v h1 => bc (isUnit v) (bc (overB b h1) (runL base S A b n h1) none) none) = some hF := e
  cases hx : fixB base S 135 A h with
  | true =>
    rw [hx] at e
    cases e
    refine ⟨h, by unfold callX; rw [if_pos ⟨rfl, rfl, hx⟩], ld, ?_⟩
    cases n with
    | zero => rfl
    | succ n =>
      show bc (fixB base S 135 A h) (some h) _ = some h
      rw [hx]; rfl
  | false =>
    rw [hx] at e
    have e : ((base 135 A h).cs none fun v h1 => bc (isUnit v) (bc (overB b h1) (runL base S A b n h1) none) none) = some hF := e
    cases hq : base 135 A h with
    | no => rw [hq] at e; cases e
    | ok v h1 =>
      rw [hq] at e
      obtain ⟨k1, e2⟩ := bcO (show bc (isUnit v) (bc (overB b h1) (runL base S A b n h1) none) none = some hF from e)
      obtain ⟨k2, e3⟩ := bcO e2
      obtain rfl := isUnit_eq k1
      refine ⟨h1, ?_, overB_ok k2, e3⟩
      unfold callX
      rw [if_neg (fun k => by rw [hx] at k; exact absurd k.2.2 (by decide))]
      exact hq
theorem run_body {base : CallT} {S : List Nat} {A : List AV} {N : Nat} {ai aj : AV} {b fuel : Nat} {hF : Hp} (hA : A = [ai, .ptr b 0, aj]) (hf : fuel < 9223372036854775807)
    {n u : Nat} {t : T} {h : Hp} (hi : (fun (z : Nat × Nat) (h' : Hp) => z.1 + z.2 = fuel ∧ LdF b h' ∧ runL base S A b z.1 h' = some hF) (n, u) h) :
    ∃ s, evC (callX base S A) N runC (ovT [(0, ai), (1, .ptr b 0), (2, aj), (3, .int .i64 (.ofNat fuel)), (8, .int .i64 (.ofNat u))] t) h = s ∧ obsS [0, 1, 2, 3, 8] (fun ls h' => ∃ y, ls = ((fun (z : Nat × Nat) => [(0, ai), (1, .ptr b 0), (2, aj), (3, .int .i64 (.ofNat fuel)), (8, .int .i64 (.ofNat z.2))]) y).map (fun p => some p.2) ∧ (fun (z : Nat × Nat) (h' : Hp) => z.1 + z.2 = fuel ∧ LdF b h' ∧ runL base S A b z.1 h' = some hF) y h' ∧ (fun (z : Nat × Nat) => z.1) y < (fun (z : Nat × Nat) => z.1) (n, u)) (fun i ls h' => ∃ y, ls = ((fun (z : Nat × Nat) => [(0, ai), (1, .ptr b 0), (2, aj), (3, .int .i64 (.ofNat fuel)), (8, .int .i64 (.ofNat z.2))]) y).map (fun p => some p.2) ∧ (fun (i : Nat) (z : Nat × Nat) (h' : Hp) => i = 0 ∧ z.2 = fuel ∧ h' = hF) i y h') (fun (_ : List (Option AV)) (_ : Hp) => False) s := by
  have hi : n + u = fuel ∧ LdF b h ∧ runL base S A b n h = some hF := hi
  obtain ⟨hn, ld, hr⟩ := hi
  obtain ⟨h1, H⟩ : ∃ h1, 0 < n → (callX base S A) 135 [ai, .ptr b 0, aj] h = .ok (.tuple []) h1 ∧ LdF b h1 ∧ runL base S A b (n - 1) h1 = some hF := by
    cases n with
    | zero => exact ⟨h, fun k => absurd k (Nat.lt_irrefl _)⟩
    | succ n => obtain ⟨h1, k1, k2, k3⟩ := runL_step ld hr; exact ⟨h1, fun _ => ⟨by rw [← hA]; exact k1, k2, k3⟩⟩
  refine walk_ok (o := (.tell 6 (.bool false) (.fork 6 (.eff 3 (.tuple []) h1 (.tell 1 (.int .i64 (.ofNat (u + 1))) .fin)) .fin))) (p := (fun (KN : List (Option AV) → Hp → Prop) (KE : Nat → List (Option AV) → Hp → Prop) (KR : List (Option AV) → Hp → Prop) =>
    ((evQ (.loadS (.const (.ptr b 2))) .lf h = .ok (.bool false) ∧ ((ltI (Int.ofNat u) (Int.ofNat fuel) = true → ((callX base S A) 135 [ai, .ptr b 0, aj] h = .ok (.tuple []) h1 ∧ ((evQ (.bin .add (.const (.int .i64 (.ofNat u))) (.const (.int .i64 (.ofNat 1)))) .lf H0 = .ok (.int .i64 (.ofNat (u + 1))) ∧ KN [some ai, some (.ptr b 0), some aj, some (.int .i64 (.ofNat fuel)), some (.int .i64 (.ofNat (u + 1)))] h1)))) ∧ (ltI (Int.ofNat u) (Int.ofNat fuel) = false → KE 0 [some ai, some (.ptr b 0), some aj, some (.int .i64 (.ofNat fuel)), some (.int .i64 (.ofNat u))] h))))) (fun ls h' => ∃ y, ls = ((fun (z : Nat × Nat) => [(0, ai), (1, .ptr b 0), (2, aj), (3, .int .i64 (.ofNat fuel)), (8, .int .i64 (.ofNat z.2))]) y).map (fun p => some p.2) ∧ (fun (z : Nat × Nat) (h' : Hp) => z.1 + z.2 = fuel ∧ LdF b h' ∧ runL base S A b z.1 h' = some hF) y h' ∧ (fun (z : Nat × Nat) => z.1) y < (fun (z : Nat × Nat) => z.1) (n, u)) (fun i ls h' => ∃ y, ls = ((fun (z : Nat × Nat) => [(0, ai), (1, .ptr b 0), (2, aj), (3, .int .i64 (.ofNat fuel)), (8, .int .i64 (.ofNat z.2))]) y).map (fun p => some p.2) ∧ (fun (i : Nat) (z : Nat × Nat) (h' : Hp) => i = 0 ∧ z.2 = fuel ∧ h' = hF) i y h') (fun (_ : List (Option AV)) (_ : Hp) => False)) (by kernel_rfl) ?_
  refine ⟨ld, fun k => ?_, fun k => ?_⟩
  · replace k := ltI_t k
    obtain ⟨k1, k2, k3⟩ := H (by omega)
    refine ⟨k1, q_add (by omega), ⟨(n - 1, u + 1), rfl, ⟨by show n - 1 + (u + 1) = fuel; omega, k2, k3⟩, by show n - 1 < n; omega⟩⟩
  · replace k := ltI_f k
    obtain rfl : n = 0 := by omega
    exact ⟨(0, u), rfl, rfl, by show u = fuel; omega, Option.some.inj hr⟩
theorem run_w {base : CallT} {S : List Nat} {A : List AV} {N : Nat} {ai aj : AV} {b fuel : Nat} {h hF : Hp} (hA : A = [ai, .ptr b 0, aj]) (hf : fuel < 9223372036854775807) (ld : LdF b h) (hr : runL base S A b fuel h = some hF) (hN : fuel < N) :
    evF1 (progS Tryz.prog (compDrawn Tryz.prog)) N (callX base S A) 99 [ai, .ptr b 0, aj, .int .i64 (.ofNat fuel)] h = .ok (.int .i64 (.ofNat fuel)) hF := by
  have key : ∃ rv rh, evF1 (progS Tryz.prog (compDrawn Tryz.prog)) N (callX base S A) 99 [ai, .ptr b 0, aj, .int .i64 (.ofNat fuel)] h = .ok rv rh ∧ (fun (rv : AV) (rh : Hp) => rv = .int .i64 (.ofNat fuel) ∧ rh = hF) rv rh := by
    refine fwalk_ok (K := (fun (rv : AV) (rh : Hp) => rv = .int .i64 (.ofNat fuel) ∧ rh = hF)) (o := (.exi 1 fun (u : Nat) => (.exi 0 fun (t4 : T) => (.exi 0 fun (h5 : Hp) => (.lp 0 (.exit 0 (ovT [(0, ai), (1, .ptr b 0), (2, aj), (3, .int .i64 (.ofNat fuel)), (8, .int .i64 (.ofNat u))] t4) h5) .fin))))) (p := (fun (KK : AV → Hp → Prop) => (∃ u : Nat, ∃ t4 : T, ∃ h5 : Hp, (evC (callX base S A) N (.loop runC) (ovT [(0, ai), (1, .ptr b 0), (2, aj), (3, .int .i64 (.ofNat fuel)), (8, .int .i64 (.ofNat 0))] .lf) h = (.exit 0 (ovT [(0, ai), (1, .ptr b 0), (2, aj), (3, .int .i64 (.ofNat fuel)), (8, .int .i64 (.ofNat u))] t4) h5) ∧ True ∧ KK (.int .i64 (.ofNat u)) h5))) (fun (rv : AV) (rh : Hp) => rv = .int .i64 (.ofNat fuel) ∧ rh = hF)) (by kernel_rfl) ?_
    have lem := loop_st (call := (callX base S A)) (N := N) (body := runC) (fun (z : Nat × Nat) => [(0, ai), (1, .ptr b 0), (2, aj), (3, .int .i64 (.ofNat fuel)), (8, .int .i64 (.ofNat z.2))]) [0, 1, 2, 3, 8] (fun _ => rfl) (fun (z : Nat × Nat) (h' : Hp) => z.1 + z.2 = fuel ∧ LdF b h' ∧ runL base S A b z.1 h' = some hF) (fun (z : Nat × Nat) => z.1) (fun (i : Nat) (z : Nat × Nat) (h' : Hp) => i = 0 ∧ z.2 = fuel ∧ h' = hF) (fun (_ : List (Option AV)) (_ : Hp) => False)
      (fun ⟨n, u⟩ t h hi => run_body hA hf hi) (fuel, 0) h ⟨rfl, ld, hr⟩ hN (ovT [(0, ai), (1, .ptr b 0), (2, aj), (3, .int .i64 (.ofNat fuel)), (8, .int .i64 (.ofNat 0))] .lf) (show slots [0, 1, 2, 3, 8] _ = [some ai, some (.ptr b 0), some aj, some (.int .i64 (.ofNat fuel)), some (.int .i64 (.ofNat 0))] by kernel_rfl)
    rcases lem with ⟨i, ⟨n, u⟩, t', h', q, w, z⟩ | ⟨_, _, _, z⟩
    rotate_left
    · exact z.elim
    have z : i = 0 ∧ u = fuel ∧ h' = hF := z
    obtain ⟨rfl, rfl, rfl⟩ := z
    exact ⟨u, t', h', (q.trans (congrArg (fun t => RS.exit 0 t h') (ovT_eq w).symm)), trivial, rfl, rfl⟩
  obtain ⟨rv, rh, e, rfl, rfl⟩ := key
  exact e
noncomputable def runM (base : CallT) (S : List Nat) (args : List AV) (h : Hp) : RV := match args with
  | [ai, .ptr b o, aj, .int .i64 (.ofNat n)] => bc (Nat.beq o 0) (bc (overB b h) (ocase .no (fun h' => .ok (.int .i64 (.ofNat n)) h') (runL base S [ai, .ptr b 0, aj] b n h)) .no) .no
  | _ => .no
noncomputable def runF (base : CallT) (S : List Nat) (args : List AV) (h : Hp) : RV := (runM base S args h).cs (base 99 args h) fun v h' => .ok v h'
noncomputable def fixmode (base : CallT) (S : List Nat) (a0 a1 a2 a3 : AV) (h : Hp) (r : Orc) (k : KR) : Prop := match a1, a3 with
  | .ptr b o, .int .i64 (.ofNat n) => bc (Nat.beq o 0) (bc (overB b h) (fixP base S 135 [a0, .ptr b 0, a2] h (k (.int .i64 (.ofNat n)) h r.n r)) False) False
  | _, _ => False
noncomputable def runQ (base : CallT) (S : List Nat) : SumW := fun args h c r k => match args with
  | [a0, a1, a2, a3] => Nat.rec (motive := fun _ => Prop)
    (r.cs False (fun x r => evQ (lessOp a3) .lf H0 = .ok x ∧ bc (isT x) (agnCs r (fun r2 => fixmode base S a0 a1 a2 a3 h r2 k) ((runF base S [a0, a1, a2, a3] h).cs False fun v h => k v h r.n r)) False)
      (fun _ _ => False) (fun _ _ _ => False) (fun _ _ => False) (fun _ => False) (fun _ => False) (fun _ _ => False) (fun _ _ => False) (fun _ _ _ => False) (fun _ => False))
    (fun _ _ => False) c
  | _ => False
theorem runQ_ok {base : CallT} {S : List Nat} {args : List AV} {h : Hp} {c : Nat} {r : Orc} {k : KR} (e : runQ base S args h c r k) : ∃ v h' c' r', fitM (runF base S) args h = .ok v h' ∧ k v h' c' r' := by
  unfold runQ at e
  split at e
  · rename_i args a0 a1 a2 a3
    cases c with
    | succ c => exact e.elim
    | zero =>
      cases r with
      | tell n x r =>
        have e : evQ (lessOp a3) .lf H0 = .ok x ∧ bc (isT x) (agnCs r (fun r2 => fixmode base S a0 a1 a2 a3 h r2 k) ((runF base S [a0, a1, a2, a3] h).cs False fun v h => k v h r.n r)) False := e
        obtain ⟨e1, e2⟩ := e
        cases hx : isT x with
        | false => rw [hx] at e2; exact e2.elim
        | true =>
          rw [hx] at e2
          have e2 : agnCs r (fun r2 => fixmode base S a0 a1 a2 a3 h r2 k) ((runF base S [a0, a1, a2, a3] h).cs False fun v h => k v h r.n r) := e2
          have hf : fitsB [a0, a1, a2, a3] = true := by
            show (evQ (lessOp a3) .lf H0).cs false isT = true
            rw [e1]; exact hx
          have plain : ((runF base S [a0, a1, a2, a3] h).cs False fun v h => k v h r.n r) → ∃ v h' c' r', fitM (runF base S) [a0, a1, a2, a3] h = .ok v h' ∧ k v h' c' r' := fun e2 => by
            obtain ⟨v, h', h2, h3⟩ := okr e2
            refine ⟨v, h', _, _, ?_, h3⟩
            unfold fitM
            rw [hf]; exact h2
          rcases agnCs_or e2 with ⟨r2, e3⟩ | e3
          · unfold fixmode at e3
            split at e3
            · rename_i b o n _
              obtain ⟨k0, e4⟩ := bcP e3
              obtain rfl : o = 0 := Nat.eq_of_beq_eq_true k0
              obtain ⟨k1, e5⟩ := bcP e4
              obtain ⟨k2, e6⟩ := fixP_ok e5
              refine ⟨_, _, _, _, ?_, e6⟩
              unfold fitM
              rw [hf]
              show (runM base S [a0, .ptr b 0, a2, .int .i64 (.ofNat n)] h).cs (base 99 [a0, .ptr b 0, a2, .int .i64 (.ofNat n)] h) (fun v h' => .ok v h') = _
              have hl : runL base S [a0, .ptr b 0, a2] b n h = some h := by
                cases n with
                | zero => rfl
                | succ n =>
                  show bc (fixB base S 135 [a0, .ptr b 0, a2] h) (some h) _ = some h
                  rw [k2]; rfl
              have hm : runM base S [a0, .ptr b 0, a2, .int .i64 (.ofNat n)] h = .ok (.int .i64 (.ofNat n)) h := by
                show bc (Nat.beq 0 0) (bc (overB b h) (ocase RV.no (fun h' => RV.ok (.int .i64 (.ofNat n)) h') (runL base S [a0, .ptr b 0, a2] b n h)) RV.no) RV.no = _
                rw [k1, hl]; rfl
              rw [hm]; rfl
            · exact e3.elim
          · exact plain e3
      | _ => exact e.elim
  · exact e.elim
theorem bcRV {b : Bool} {x : RV} {v : AV} {h : Hp} (e : bc b x .no = .ok v h) : b = true ∧ x = .ok v h := by
  cases b with
  | true => exact ⟨rfl, e⟩
  | false => cases e
theorem runF_ok {base : CallT} (hb : Eng.Good Tryz.prog base) {S : List Nat} {args : List AV} {h h' : Hp} {v : AV} (hf : fitsB args = true) (e : runF base S args h = .ok v h') {μ : Mp} {w : World} {cargs : Array Value} (hs : Sim μ h w) (r : VRs μ args cargs.toList) :
    Eng.Enters Tryz.prog 99 ∧ Calls Tryz.prog 99 cargs w (CallR μ h w v h') := by
  unfold runF at e
  cases hm : runM base S args h with
  | no => rw [hm] at e; exact hb 99 args h v h' μ w cargs e hs r
  | ok v2 h2 =>
    rw [hm] at e
    cases e
    unfold runM at hm
    split at hm
    · rename_i args ai b o aj n
      obtain ⟨k0, hm1⟩ := bcRV hm
      obtain rfl : o = 0 := Nat.eq_of_beq_eq_true k0
      obtain ⟨k1, hm2⟩ := bcRV hm1
      clear hm hm1
      cases hq : runL base S [ai, .ptr b 0, aj] b n h with
      | none => rw [hq] at hm2; cases hm2
      | some hF =>
        rw [hq] at hm2
        cases hm2
        have hev := run_w (N := n + 1) (A := [ai, .ptr b 0, aj]) rfl (fits_lt hf) (overB_ok k1) hq (by omega)
        exact evF1_ok compDrawn_ok (callX_ok hb S [ai, .ptr b 0, aj]) (n + 1) 99 _ h _ _ μ w cargs hev hs r
    · cases hm
noncomputable def baseR : CallT := evF memK PS 100000 24
theorem baseR_ok : Eng.Good Tryz.prog baseR := by
  unfold baseR
  rw [PS_eq]
  exact evF_ok compDrawn_ok memK_ok 100000 24
end Go.Proofs.YtfeojipiejbagaaGreatDoor
