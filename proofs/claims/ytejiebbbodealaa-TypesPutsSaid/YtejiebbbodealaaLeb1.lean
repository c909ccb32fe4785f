/- Walks of package leb. -/
import Derived.Test.YtejiebbbodealaaLebPure
import Derived.Test.YtejiebbbodealaaLebLaws
import Derived.Test.YtejiebbbodealaaEngS32
import Derived.Test.YtejiebbbodealaaRows
import Derived.WalkKit
set_option linter.unusedVariables false
namespace Go.Proofs.Ytejiebbbodealaa
open Go Eng
theorem last_walk {call : CallT} {N : Nat} {h : Hp} {x left : Nat} {sg : Bool} (hx : x < 256) (h1 : 1 ≤ left) (h2 : left ≤ 64)
    : ∃ rv rh, evF1 (progS Try.prog (compDrawn Try.prog)) N call 75 [(AV.int .u8 (Int.ofNat x)), (AV.int .i64 (Int.ofNat left)), (AV.bool sg)] h = .ok rv rh ∧ (fun (v : AV) (h' : Hp) => h' = h ∧ v = .bool (lastB x left sg)) rv rh := by
  refine fwalk_ok (o := (.tell 2 (AV.int .u8 (Int.ofNat (x &&& 128))) (.fork 0 .fin (.fork 1 (.tell 2 (AV.int .u8 (Int.ofNat (x / 2 ^ left))) .fin) (.tell 2 (AV.int .i64 (Int.ofNat (left - 1))) (.tell 0 (AV.int .u8 (Int.ofNat (x / 2 ^ (left - 1)))) (.fork 3 .fin (.tell 2 (AV.int .i64 (Int.ofNat (left - 1))) (.tell 0 (AV.int .u8 (Int.ofNat (127 / 2 ^ (left - 1)))) .fin))))))))) (p := (evQ (.bin .and (.const (AV.int .u8 (Int.ofNat x))) (.const (AV.int .u8 (Int.ofNat 128)))) .lf H0 = .ok (AV.int .u8 (Int.ofNat (x &&& 128))) ∧ ((notB (eqI (Int.ofNat (x &&& 128)) (Int.ofNat 0)) = true → (fun (v : AV) (h' : Hp) => h' = h ∧ v = .bool (lastB x left sg)) (AV.bool false) h) ∧ (notB (eqI (Int.ofNat (x &&& 128)) (Int.ofNat 0)) = false → ((notB sg = true → (evQ (.bin .shr (.const (AV.int .u8 (Int.ofNat x))) (.const (AV.int .i64 (Int.ofNat left)))) .lf H0 = .ok (AV.int .u8 (Int.ofNat (x / 2 ^ left))) ∧ (fun (v : AV) (h' : Hp) => h' = h ∧ v = .bool (lastB x left sg)) (AV.bool (eqI (Int.ofNat (x / 2 ^ left)) (Int.ofNat 0))) h)) ∧ (notB sg = false → (evQ (.bin .sub (.const (AV.int .i64 (Int.ofNat left))) (.const (AV.int .i64 (Int.ofNat 1)))) .lf H0 = .ok (AV.int .i64 (Int.ofNat (left - 1))) ∧ (evQ (.bin .shr (.const (AV.int .u8 (Int.ofNat x))) (.const (AV.int .i64 (Int.ofNat (left - 1))))) .lf H0 = .ok (AV.int .u8 (Int.ofNat (x / 2 ^ (left - 1)))) ∧ ((eqI (Int.ofNat (x / 2 ^ (left - 1))) (Int.ofNat 0) = true → (fun (v : AV) (h' : Hp) => h' = h ∧ v = .bool (lastB x left sg)) (AV.bool true) h) ∧ (eqI (Int.ofNat (x / 2 ^ (left - 1))) (Int.ofNat 0) = false → (evQ (.bin .sub (.const (AV.int .i64 (Int.ofNat left))) (.const (AV.int .i64 (Int.ofNat 1)))) .lf H0 = .ok (AV.int .i64 (Int.ofNat (left - 1))) ∧ (evQ (.bin .shr (.const (AV.int .u8 (Int.ofNat 127))) (.const (AV.int .i64 (Int.ofNat (left - 1))))) .lf H0 = .ok (AV.int .u8 (Int.ofNat (127 / 2 ^ (left - 1)))) ∧ (fun (v : AV) (h' : Hp) => h' = h ∧ v = .bool (lastB x left sg)) (AV.bool (eqI (Int.ofNat (x / 2 ^ (left - 1))) (Int.ofNat (127 / 2 ^ (left - 1))))) h)))))))))))) (by kernel_rfl) ?_
  refine ⟨u_and rfl hx (by decide), ?_⟩
  have g1 : x &&& 128 < 256 := Nat.lt_of_le_of_lt Nat.and_le_left hx
  refine ⟨fun c2 => ?_, fun c2 => ?_⟩
  · have rc2 := c2
    replace c2 : x &&& 128 ≠ 0 := eqI_f (notB_t c2)
    refine ⟨rfl, congrArg AV.bool ?_⟩
    try simp only [eqI_nat]
    first | (simp_all [lastB]; done) | (simp_all [lastB]; omega)
  · have rc2 := c2
    replace c2 : x &&& 128 = 0 := eqI_t (notB_f c2)
    refine ⟨fun c3 => ?_, fun c3 => ?_⟩
    · have rc3 := c3
      replace c3 : sg = false := notB_t c3
      refine ⟨u_shr rfl hx, ?_⟩
      have g4 : x / 2 ^ left < 256 := Nat.lt_of_le_of_lt (Nat.div_le_self _ _) hx
      refine ⟨rfl, congrArg AV.bool ?_⟩
      try simp only [eqI_nat]
      first | (simp_all [lastB]; done) | (simp_all [lastB]; omega)
    · have rc3 := c3
      replace c3 : sg = true := notB_f c3
      refine ⟨q_sub (by omega) (by omega), ?_⟩
      refine ⟨u_shr rfl hx, ?_⟩
      have g4 : x / 2 ^ (left - 1) < 256 := Nat.lt_of_le_of_lt (Nat.div_le_self _ _) hx
      refine ⟨fun c5 => ?_, fun c5 => ?_⟩
      · have rc5 := c5
        replace c5 : x / 2 ^ (left - 1) = 0 := eqI_t c5
        refine ⟨rfl, congrArg AV.bool ?_⟩
        try simp only [eqI_nat]
        first | (simp_all [lastB]; done) | (simp_all [lastB]; omega)
      · have rc5 := c5
        replace c5 : x / 2 ^ (left - 1) ≠ 0 := eqI_f c5
        refine ⟨q_sub (by omega) (by omega), ?_⟩
        refine ⟨u_shr rfl (by decide), ?_⟩
        have g6 : 127 / 2 ^ (left - 1) < 256 := Nat.lt_of_le_of_lt (Nat.div_le_self _ _) (by decide)
        refine ⟨rfl, congrArg AV.bool ?_⟩
        try simp only [eqI_nat]
        first | (simp_all [lastB]; done) | (simp_all [lastB]; omega)
noncomputable def readC : AC := (.seq (.block 1 (.seq (.seq (.region [⟨(some 14), .q (.move (.tmp 7)), none⟩, ⟨(some 15), .q (.move (.tmp 0)), none⟩, ⟨(some 16), .q (.lenL (.tmp 15)), none⟩, ⟨(some 17), .q (.eq .int false (.tmp 14) (.tmp 16)), none⟩]) (.cond (.tmp 17) (.seq (.region [⟨(some 6), .q (.move (.const (AV.int .u64 (Int.ofNat 0)))), none⟩, ⟨(some 7), .q (.move (.const (AV.int .i64 (Int.ofNat 0)))), none⟩, ⟨(some 8), .q (.move (.const (AV.int .i64 (Int.ofNat 3)))), none⟩]) .ret) .skip)) (.seq (.region [⟨(some 18), .q (.move (.tmp 0)), none⟩, ⟨(some 19), .q (.move (.tmp 7)), none⟩, ⟨(some 20), .q (.idxAddrSl 1 (.tmp 18) (.tmp 19)), none⟩, ⟨(some 21), .q (.loadS (.tmp 20)), none⟩, ⟨(some 10), .q (.move (.tmp 21)), none⟩]) (.seq (.region [⟨(some 22), .q (.move (.tmp 7)), none⟩, ⟨(some 23), .q (.bin .add (.tmp 22) (.const (AV.int .i64 (Int.ofNat 1)))), none⟩, ⟨(some 7), .q (.move (.tmp 23)), none⟩]) (.seq (.seq (.region [⟨(some 24), .q (.move (.tmp 1)), none⟩, ⟨(some 25), .q (.move (.tmp 9)), none⟩, ⟨(some 26), .q (.bin .sub (.tmp 24) (.tmp 25)), none⟩, ⟨(some 11), .q (.move (.tmp 26)), none⟩]) (.seq (.region [⟨(some 27), .q (.move (.tmp 11)), none⟩, ⟨(some 28), .q (.bin .leq (.tmp 27) (.const (AV.int .i64 (Int.ofNat 7)))), none⟩, ⟨(some 29), .q (.move (.tmp 28)), none⟩, ⟨(some 30), .q (.move (.tmp 10)), (some (29, true))⟩, ⟨(some 31), .q (.move (.tmp 11)), (some (29, true))⟩, ⟨(some 32), .q (.move (.tmp 2)), (some (29, true))⟩, ⟨(some 33), .e (.call (.const (AV.func (.func 75) [] [])) [(.tmp 30), (.tmp 31), (.tmp 32)]), (some (29, true))⟩, ⟨(some 34), .q (.un .not (.tmp 33)), (some (29, true))⟩, ⟨(some 35), .q (.pick (.tmp 29) (.tmp 34) (.const (AV.bool false))), none⟩]) (.cond (.tmp 35) (.seq (.region [⟨(some 6), .q (.move (.const (AV.int .u64 (Int.ofNat 0)))), none⟩, ⟨(some 7), .q (.move (.const (AV.int .i64 (Int.ofNat 0)))), none⟩, ⟨(some 8), .q (.move (.const (AV.int .i64 (Int.ofNat 2)))), none⟩]) .ret) .skip))) (.seq (.region [⟨(some 36), .q (.move (.tmp 6)), none⟩, ⟨(some 37), .q (.move (.tmp 10)), none⟩, ⟨(some 38), .q (.bin .and (.tmp 37) (.const (AV.int .u8 (Int.ofNat 127)))), none⟩, ⟨(some 39), .q (.toInt .u64 (.tmp 38)), none⟩, ⟨(some 40), .q (.move (.tmp 9)), none⟩, ⟨(some 41), .q (.bin .shl (.tmp 39) (.tmp 40)), none⟩, ⟨(some 42), .q (.bin .or (.tmp 36) (.tmp 41)), none⟩, ⟨(some 6), .q (.move (.tmp 42)), none⟩]) (.seq (.seq (.region [⟨(some 43), .q (.move (.tmp 10)), none⟩, ⟨(some 44), .q (.bin .and (.tmp 43) (.const (AV.int .u8 (Int.ofNat 128)))), none⟩, ⟨(some 45), .q (.eq .int true (.tmp 44) (.const (AV.int .u8 (Int.ofNat 0)))), none⟩]) (.cond (.tmp 45) (.exit 1) .skip)) (.seq (.seq (.region [⟨(some 46), .q (.move (.tmp 2)), none⟩, ⟨(some 47), .q (.move (.tmp 46)), none⟩, ⟨(some 48), .q (.move (.tmp 10)), (some (47, true))⟩, ⟨(some 49), .q (.bin .and (.tmp 48) (.const (AV.int .u8 (Int.ofNat 64)))), (some (47, true))⟩, ⟨(some 50), .q (.eq .int true (.tmp 49) (.const (AV.int .u8 (Int.ofNat 0)))), (some (47, true))⟩, ⟨(some 51), .q (.pick (.tmp 47) (.tmp 50) (.const (AV.bool false))), none⟩, ⟨(some 52), .q (.move (.tmp 51)), none⟩, ⟨(some 53), .q (.move (.tmp 9)), (some (52, true))⟩, ⟨(some 54), .q (.bin .add (.tmp 53) (.const (AV.int .i64 (Int.ofNat 7)))), (some (52, true))⟩, ⟨(some 55), .q (.bin .lss (.tmp 54) (.const (AV.int .i64 (Int.ofNat 64)))), (some (52, true))⟩, ⟨(some 56), .q (.pick (.tmp 52) (.tmp 55) (.const (AV.bool false))), none⟩]) (.cond (.tmp 56) (.region [⟨(some 57), .q (.move (.tmp 6)), none⟩, ⟨(some 58), .q (.move (.tmp 9)), none⟩, ⟨(some 59), .q (.bin .add (.tmp 58) (.const (AV.int .i64 (Int.ofNat 7)))), none⟩, ⟨(some 60), .q (.bin .shl (.const (AV.int .u64 (Int.ofNat 18446744073709551615))) (.tmp 59)), none⟩, ⟨(some 61), .q (.bin .or (.tmp 57) (.tmp 60)), none⟩, ⟨(some 6), .q (.move (.tmp 61)), none⟩]) .skip)) (.seq (.region [⟨(some 62), .q (.move (.tmp 6)), none⟩, ⟨(some 63), .q (.move (.tmp 7)), none⟩, ⟨(some 6), .q (.move (.tmp 62)), none⟩, ⟨(some 7), .q (.move (.tmp 63)), none⟩, ⟨(some 8), .q (.move (.const (AV.int .i64 (Int.ofNat 0)))), none⟩]) .ret))))))))) (.region [⟨(some 12), .q (.move (.tmp 9)), none⟩, ⟨(some 13), .q (.bin .add (.tmp 12) (.const (AV.int .i64 (Int.ofNat 7)))), none⟩, ⟨(some 9), .q (.move (.tmp 13)), none⟩]))
theorem read_body {call : CallT} {N : Nat} {t : T} {h : Hp} {B : Nat} {vb : AV} {sg : Bool} {l : List Nat} (hb : Bytes B h vb l) (hk2 : l.length < 9223372036854775000) {size v k a : Nat} (hv : v < 18446744073709551616) (hat : a < size) (hs : size ≤ 64) (hk : k ≤ l.length) (hlast : ∀ x left s h, x < 256 → 1 ≤ left → left ≤ 64 → call 75 [.int .u8 (.ofNat x), .int .i64 (.ofNat left), .bool s] h = .ok (.bool (lastB x left s)) h)
    {Kn : List (Option AV) → Hp → Prop} {Ke : Nat → List (Option AV) → Hp → Prop} {Kr : List (Option AV) → Hp → Prop}
    (k0 : k = l.length → Kr [some vb, some (AV.int .i64 (Int.ofNat size)), some (AV.bool sg), some (AV.int .u64 (Int.ofNat 0)), some (AV.int .i64 (Int.ofNat 0)), some (AV.int .i64 (Int.ofNat a)), some (AV.int .i64 (Int.ofNat 3))] h)
    (k1 : k ≠ l.length → size - a ≤ 7 → lastB (l.getD k 0) (size - a) sg = false → Kr [some vb, some (AV.int .i64 (Int.ofNat size)), some (AV.bool sg), some (AV.int .u64 (Int.ofNat 0)), some (AV.int .i64 (Int.ofNat 0)), some (AV.int .i64 (Int.ofNat a)), some (AV.int .i64 (Int.ofNat 2))] h)
    (k2 : k ≠ l.length → size - a ≤ 7 → lastB (l.getD k 0) (size - a) sg = true → (l.getD k 0) &&& 128 ≠ 0 → Kn [some vb, some (AV.int .i64 (Int.ofNat size)), some (AV.bool sg), some (AV.int .u64 (Int.ofNat (v ||| (((l.getD k 0) &&& 127) * 2 ^ a % 18446744073709551616)))), some (AV.int .i64 (Int.ofNat (k + 1))), some (AV.int .i64 (Int.ofNat (a + 7))), some (AV.int .i64 (Int.ofNat 0))] h)
    (k3 : k ≠ l.length → size - a ≤ 7 → lastB (l.getD k 0) (size - a) sg = true → (l.getD k 0) &&& 128 = 0 → sg = true → (l.getD k 0) &&& 64 ≠ 0 → a + 7 < 64 → Kr [some vb, some (AV.int .i64 (Int.ofNat size)), some (AV.bool sg), some (AV.int .u64 (Int.ofNat ((v ||| (((l.getD k 0) &&& 127) * 2 ^ a % 18446744073709551616)) ||| (18446744073709551615 * 2 ^ (a + 7) % 18446744073709551616)))), some (AV.int .i64 (Int.ofNat (k + 1))), some (AV.int .i64 (Int.ofNat a)), some (AV.int .i64 (Int.ofNat 0))] h)
    (k4 : k ≠ l.length → size - a ≤ 7 → lastB (l.getD k 0) (size - a) sg = true → (l.getD k 0) &&& 128 = 0 → sg = true → (l.getD k 0) &&& 64 ≠ 0 → 64 ≤ a + 7 → Kr [some vb, some (AV.int .i64 (Int.ofNat size)), some (AV.bool sg), some (AV.int .u64 (Int.ofNat (v ||| (((l.getD k 0) &&& 127) * 2 ^ a % 18446744073709551616)))), some (AV.int .i64 (Int.ofNat (k + 1))), some (AV.int .i64 (Int.ofNat a)), some (AV.int .i64 (Int.ofNat 0))] h)
    (k5 : k ≠ l.length → size - a ≤ 7 → lastB (l.getD k 0) (size - a) sg = true → (l.getD k 0) &&& 128 = 0 → sg = true → (l.getD k 0) &&& 64 = 0 → Kr [some vb, some (AV.int .i64 (Int.ofNat size)), some (AV.bool sg), some (AV.int .u64 (Int.ofNat (v ||| (((l.getD k 0) &&& 127) * 2 ^ a % 18446744073709551616)))), some (AV.int .i64 (Int.ofNat (k + 1))), some (AV.int .i64 (Int.ofNat a)), some (AV.int .i64 (Int.ofNat 0))] h)
    (k6 : k ≠ l.length → size - a ≤ 7 → lastB (l.getD k 0) (size - a) sg = true → (l.getD k 0) &&& 128 = 0 → sg = false → Kr [some vb, some (AV.int .i64 (Int.ofNat size)), some (AV.bool sg), some (AV.int .u64 (Int.ofNat (v ||| (((l.getD k 0) &&& 127) * 2 ^ a % 18446744073709551616)))), some (AV.int .i64 (Int.ofNat (k + 1))), some (AV.int .i64 (Int.ofNat a)), some (AV.int .i64 (Int.ofNat 0))] h)
    (k7 : k ≠ l.length → 7 < size - a → (l.getD k 0) &&& 128 ≠ 0 → Kn [some vb, some (AV.int .i64 (Int.ofNat size)), some (AV.bool sg), some (AV.int .u64 (Int.ofNat (v ||| (((l.getD k 0) &&& 127) * 2 ^ a % 18446744073709551616)))), some (AV.int .i64 (Int.ofNat (k + 1))), some (AV.int .i64 (Int.ofNat (a + 7))), some (AV.int .i64 (Int.ofNat 0))] h)
    (k8 : k ≠ l.length → 7 < size - a → (l.getD k 0) &&& 128 = 0 → sg = true → (l.getD k 0) &&& 64 ≠ 0 → a + 7 < 64 → Kr [some vb, some (AV.int .i64 (Int.ofNat size)), some (AV.bool sg), some (AV.int .u64 (Int.ofNat ((v ||| (((l.getD k 0) &&& 127) * 2 ^ a % 18446744073709551616)) ||| (18446744073709551615 * 2 ^ (a + 7) % 18446744073709551616)))), some (AV.int .i64 (Int.ofNat (k + 1))), some (AV.int .i64 (Int.ofNat a)), some (AV.int .i64 (Int.ofNat 0))] h)
    (k9 : k ≠ l.length → 7 < size - a → (l.getD k 0) &&& 128 = 0 → sg = true → (l.getD k 0) &&& 64 ≠ 0 → 64 ≤ a + 7 → Kr [some vb, some (AV.int .i64 (Int.ofNat size)), some (AV.bool sg), some (AV.int .u64 (Int.ofNat (v ||| (((l.getD k 0) &&& 127) * 2 ^ a % 18446744073709551616)))), some (AV.int .i64 (Int.ofNat (k + 1))), some (AV.int .i64 (Int.ofNat a)), some (AV.int .i64 (Int.ofNat 0))] h)
    (k10 : k ≠ l.length → 7 < size - a → (l.getD k 0) &&& 128 = 0 → sg = true → (l.getD k 0) &&& 64 = 0 → Kr [some vb, some (AV.int .i64 (Int.ofNat size)), some (AV.bool sg), some (AV.int .u64 (Int.ofNat (v ||| (((l.getD k 0) &&& 127) * 2 ^ a % 18446744073709551616)))), some (AV.int .i64 (Int.ofNat (k + 1))), some (AV.int .i64 (Int.ofNat a)), some (AV.int .i64 (Int.ofNat 0))] h)
    (k11 : k ≠ l.length → 7 < size - a → (l.getD k 0) &&& 128 = 0 → sg = false → Kr [some vb, some (AV.int .i64 (Int.ofNat size)), some (AV.bool sg), some (AV.int .u64 (Int.ofNat (v ||| (((l.getD k 0) &&& 127) * 2 ^ a % 18446744073709551616)))), some (AV.int .i64 (Int.ofNat (k + 1))), some (AV.int .i64 (Int.ofNat a)), some (AV.int .i64 (Int.ofNat 0))] h)
    : ∃ s, evC call N readC (ovT [(0, vb), (1, (AV.int .i64 (Int.ofNat size))), (2, (AV.bool sg)), (6, (AV.int .u64 (Int.ofNat v))), (7, (AV.int .i64 (Int.ofNat k))), (9, (AV.int .i64 (Int.ofNat a))), (8, (AV.int .i64 (Int.ofNat 0)))] t) h = s ∧ obsS [0, 1, 2, 6, 7, 9, 8] Kn Ke Kr s := by
  refine walk_ok (o := (.tell 2 (AV.int .i64 (Int.ofNat l.length)) (.fork 0 .fin (.tell 2 (elemP vb k 1) (.tell 0 (AV.int .u8 (Int.ofNat (l.getD k 0))) (.tell 2 (AV.int .i64 (Int.ofNat (k + 1))) (.tell 3 (AV.int .i64 (Int.ofNat (size - a))) (.fork 3 (.eff 3 (AV.bool (lastB (l.getD k 0) (size - a) sg)) h (.fork 1 .fin (.tell 2 (AV.int .u8 (Int.ofNat ((l.getD k 0) &&& 127))) (.tell 0 (AV.int .u64 (Int.ofNat ((l.getD k 0) &&& 127))) (.tell 1 (AV.int .u64 (Int.ofNat (((l.getD k 0) &&& 127) * 2 ^ a % 18446744073709551616))) (.tell 0 (AV.int .u64 (Int.ofNat (v ||| (((l.getD k 0) &&& 127) * 2 ^ a % 18446744073709551616)))) (.tell 2 (AV.int .u8 (Int.ofNat ((l.getD k 0) &&& 128))) (.fork 0 (.tell 1 (AV.int .i64 (Int.ofNat (a + 7))) .fin) (.fork 1 (.tell 1 (AV.int .u8 (Int.ofNat ((l.getD k 0) &&& 64))) (.fork 2 (.tell 1 (AV.int .i64 (Int.ofNat (a + 7))) (.fork 1 (.tell 2 (AV.int .i64 (Int.ofNat (a + 7))) (.tell 0 (AV.int .u64 (Int.ofNat (18446744073709551615 * 2 ^ (a + 7) % 18446744073709551616))) (.tell 0 (AV.int .u64 (Int.ofNat ((v ||| (((l.getD k 0) &&& 127) * 2 ^ a % 18446744073709551616)) ||| (18446744073709551615 * 2 ^ (a + 7) % 18446744073709551616)))) .fin))) .fin)) .fin)) .fin))))))))) (.tell 3 (AV.int .u8 (Int.ofNat ((l.getD k 0) &&& 127))) (.tell 0 (AV.int .u64 (Int.ofNat ((l.getD k 0) &&& 127))) (.tell 1 (AV.int .u64 (Int.ofNat (((l.getD k 0) &&& 127) * 2 ^ a % 18446744073709551616))) (.tell 0 (AV.int .u64 (Int.ofNat (v ||| (((l.getD k 0) &&& 127) * 2 ^ a % 18446744073709551616)))) (.tell 2 (AV.int .u8 (Int.ofNat ((l.getD k 0) &&& 128))) (.fork 0 (.tell 1 (AV.int .i64 (Int.ofNat (a + 7))) .fin) (.fork 1 (.tell 1 (AV.int .u8 (Int.ofNat ((l.getD k 0) &&& 64))) (.fork 2 (.tell 1 (AV.int .i64 (Int.ofNat (a + 7))) (.fork 1 (.tell 2 (AV.int .i64 (Int.ofNat (a + 7))) (.tell 0 (AV.int .u64 (Int.ofNat (18446744073709551615 * 2 ^ (a + 7) % 18446744073709551616))) (.tell 0 (AV.int .u64 (Int.ofNat ((v ||| (((l.getD k 0) &&& 127) * 2 ^ a % 18446744073709551616)) ||| (18446744073709551615 * 2 ^ (a + 7) % 18446744073709551616)))) .fin))) .fin)) .fin)) .fin))))))))))))))) (p := (evQ (.lenL (.const vb)) .lf H0 = .ok (AV.int .i64 (Int.ofNat l.length)) ∧ ((eqI (Int.ofNat k) (Int.ofNat l.length) = true → Kr [some vb, some (AV.int .i64 (Int.ofNat size)), some (AV.bool sg), some (AV.int .u64 (Int.ofNat 0)), some (AV.int .i64 (Int.ofNat 0)), some (AV.int .i64 (Int.ofNat a)), some (AV.int .i64 (Int.ofNat 3))] h) ∧ (eqI (Int.ofNat k) (Int.ofNat l.length) = false → (evQ (.idxAddrSl 1 (.const vb) (.const (AV.int .i64 (Int.ofNat k)))) .lf H0 = .ok (elemP vb k 1) ∧ (evQ (.loadS (.const (elemP vb k 1))) .lf h = .ok (AV.int .u8 (Int.ofNat (l.getD k 0))) ∧ (evQ (.bin .add (.const (AV.int .i64 (Int.ofNat k))) (.const (AV.int .i64 (Int.ofNat 1)))) .lf H0 = .ok (AV.int .i64 (Int.ofNat (k + 1))) ∧ (evQ (.bin .sub (.const (AV.int .i64 (Int.ofNat size))) (.const (AV.int .i64 (Int.ofNat a)))) .lf H0 = .ok (AV.int .i64 (Int.ofNat (size - a))) ∧ ((notB (ltI (Int.ofNat 7) (Int.ofNat (size - a))) = true → (call 75 [(AV.int .u8 (Int.ofNat (l.getD k 0))), (AV.int .i64 (Int.ofNat (size - a))), (AV.bool sg)] h = .ok (AV.bool (lastB (l.getD k 0) (size - a) sg)) h ∧ ((notB (lastB (l.getD k 0) (size - a) sg) = true → Kr [some vb, some (AV.int .i64 (Int.ofNat size)), some (AV.bool sg), some (AV.int .u64 (Int.ofNat 0)), some (AV.int .i64 (Int.ofNat 0)), some (AV.int .i64 (Int.ofNat a)), some (AV.int .i64 (Int.ofNat 2))] h) ∧ (notB (lastB (l.getD k 0) (size - a) sg) = false → (evQ (.bin .and (.const (AV.int .u8 (Int.ofNat (l.getD k 0)))) (.const (AV.int .u8 (Int.ofNat 127)))) .lf H0 = .ok (AV.int .u8 (Int.ofNat ((l.getD k 0) &&& 127))) ∧ (evQ (.toInt .u64 (.const (AV.int .u8 (Int.ofNat ((l.getD k 0) &&& 127))))) .lf H0 = .ok (AV.int .u64 (Int.ofNat ((l.getD k 0) &&& 127))) ∧ (evQ (.bin .shl (.const (AV.int .u64 (Int.ofNat ((l.getD k 0) &&& 127)))) (.const (AV.int .i64 (Int.ofNat a)))) .lf H0 = .ok (AV.int .u64 (Int.ofNat (((l.getD k 0) &&& 127) * 2 ^ a % 18446744073709551616))) ∧ (evQ (.bin .or (.const (AV.int .u64 (Int.ofNat v))) (.const (AV.int .u64 (Int.ofNat (((l.getD k 0) &&& 127) * 2 ^ a % 18446744073709551616))))) .lf H0 = .ok (AV.int .u64 (Int.ofNat (v ||| (((l.getD k 0) &&& 127) * 2 ^ a % 18446744073709551616)))) ∧ (evQ (.bin .and (.const (AV.int .u8 (Int.ofNat (l.getD k 0)))) (.const (AV.int .u8 (Int.ofNat 128)))) .lf H0 = .ok (AV.int .u8 (Int.ofNat ((l.getD k 0) &&& 128))) ∧ ((notB (eqI (Int.ofNat ((l.getD k 0) &&& 128)) (Int.ofNat 0)) = true → (evQ (.bin .add (.const (AV.int .i64 (Int.ofNat a))) (.const (AV.int .i64 (Int.ofNat 7)))) .lf H0 = .ok (AV.int .i64 (Int.ofNat (a + 7))) ∧ Kn [some vb, some (AV.int .i64 (Int.ofNat size)), some (AV.bool sg), some (AV.int .u64 (Int.ofNat (v ||| (((l.getD k 0) &&& 127) * 2 ^ a % 18446744073709551616)))), some (AV.int .i64 (Int.ofNat (k + 1))), some (AV.int .i64 (Int.ofNat (a + 7))), some (AV.int .i64 (Int.ofNat 0))] h)) ∧ (notB (eqI (Int.ofNat ((l.getD k 0) &&& 128)) (Int.ofNat 0)) = false → ((sg = true → (evQ (.bin .and (.const (AV.int .u8 (Int.ofNat (l.getD k 0)))) (.const (AV.int .u8 (Int.ofNat 64)))) .lf H0 = .ok (AV.int .u8 (Int.ofNat ((l.getD k 0) &&& 64))) ∧ ((notB (eqI (Int.ofNat ((l.getD k 0) &&& 64)) (Int.ofNat 0)) = true → (evQ (.bin .add (.const (AV.int .i64 (Int.ofNat a))) (.const (AV.int .i64 (Int.ofNat 7)))) .lf H0 = .ok (AV.int .i64 (Int.ofNat (a + 7))) ∧ ((ltI (Int.ofNat (a + 7)) (Int.ofNat 64) = true → (evQ (.bin .add (.const (AV.int .i64 (Int.ofNat a))) (.const (AV.int .i64 (Int.ofNat 7)))) .lf H0 = .ok (AV.int .i64 (Int.ofNat (a + 7))) ∧ (evQ (.bin .shl (.const (AV.int .u64 (Int.ofNat 18446744073709551615))) (.const (AV.int .i64 (Int.ofNat (a + 7))))) .lf H0 = .ok (AV.int .u64 (Int.ofNat (18446744073709551615 * 2 ^ (a + 7) % 18446744073709551616))) ∧ (evQ (.bin .or (.const (AV.int .u64 (Int.ofNat (v ||| (((l.getD k 0) &&& 127) * 2 ^ a % 18446744073709551616))))) (.const (AV.int .u64 (Int.ofNat (18446744073709551615 * 2 ^ (a + 7) % 18446744073709551616))))) .lf H0 = .ok (AV.int .u64 (Int.ofNat ((v ||| (((l.getD k 0) &&& 127) * 2 ^ a % 18446744073709551616)) ||| (18446744073709551615 * 2 ^ (a + 7) % 18446744073709551616)))) ∧ Kr [some vb, some (AV.int .i64 (Int.ofNat size)), some (AV.bool sg), some (AV.int .u64 (Int.ofNat ((v ||| (((l.getD k 0) &&& 127) * 2 ^ a % 18446744073709551616)) ||| (18446744073709551615 * 2 ^ (a + 7) % 18446744073709551616)))), some (AV.int .i64 (Int.ofNat (k + 1))), some (AV.int .i64 (Int.ofNat a)), some (AV.int .i64 (Int.ofNat 0))] h)))) ∧ (ltI (Int.ofNat (a + 7)) (Int.ofNat 64) = false → Kr [some vb, some (AV.int .i64 (Int.ofNat size)), some (AV.bool sg), some (AV.int .u64 (Int.ofNat (v ||| (((l.getD k 0) &&& 127) * 2 ^ a % 18446744073709551616)))), some (AV.int .i64 (Int.ofNat (k + 1))), some (AV.int .i64 (Int.ofNat a)), some (AV.int .i64 (Int.ofNat 0))] h)))) ∧ (notB (eqI (Int.ofNat ((l.getD k 0) &&& 64)) (Int.ofNat 0)) = false → Kr [some vb, some (AV.int .i64 (Int.ofNat size)), some (AV.bool sg), some (AV.int .u64 (Int.ofNat (v ||| (((l.getD k 0) &&& 127) * 2 ^ a % 18446744073709551616)))), some (AV.int .i64 (Int.ofNat (k + 1))), some (AV.int .i64 (Int.ofNat a)), some (AV.int .i64 (Int.ofNat 0))] h)))) ∧ (sg = false → Kr [some vb, some (AV.int .i64 (Int.ofNat size)), some (AV.bool sg), some (AV.int .u64 (Int.ofNat (v ||| (((l.getD k 0) &&& 127) * 2 ^ a % 18446744073709551616)))), some (AV.int .i64 (Int.ofNat (k + 1))), some (AV.int .i64 (Int.ofNat a)), some (AV.int .i64 (Int.ofNat 0))] h))))))))))))) ∧ (notB (ltI (Int.ofNat 7) (Int.ofNat (size - a))) = false → (evQ (.bin .and (.const (AV.int .u8 (Int.ofNat (l.getD k 0)))) (.const (AV.int .u8 (Int.ofNat 127)))) .lf H0 = .ok (AV.int .u8 (Int.ofNat ((l.getD k 0) &&& 127))) ∧ (evQ (.toInt .u64 (.const (AV.int .u8 (Int.ofNat ((l.getD k 0) &&& 127))))) .lf H0 = .ok (AV.int .u64 (Int.ofNat ((l.getD k 0) &&& 127))) ∧ (evQ (.bin .shl (.const (AV.int .u64 (Int.ofNat ((l.getD k 0) &&& 127)))) (.const (AV.int .i64 (Int.ofNat a)))) .lf H0 = .ok (AV.int .u64 (Int.ofNat (((l.getD k 0) &&& 127) * 2 ^ a % 18446744073709551616))) ∧ (evQ (.bin .or (.const (AV.int .u64 (Int.ofNat v))) (.const (AV.int .u64 (Int.ofNat (((l.getD k 0) &&& 127) * 2 ^ a % 18446744073709551616))))) .lf H0 = .ok (AV.int .u64 (Int.ofNat (v ||| (((l.getD k 0) &&& 127) * 2 ^ a % 18446744073709551616)))) ∧ (evQ (.bin .and (.const (AV.int .u8 (Int.ofNat (l.getD k 0)))) (.const (AV.int .u8 (Int.ofNat 128)))) .lf H0 = .ok (AV.int .u8 (Int.ofNat ((l.getD k 0) &&& 128))) ∧ ((notB (eqI (Int.ofNat ((l.getD k 0) &&& 128)) (Int.ofNat 0)) = true → (evQ (.bin .add (.const (AV.int .i64 (Int.ofNat a))) (.const (AV.int .i64 (Int.ofNat 7)))) .lf H0 = .ok (AV.int .i64 (Int.ofNat (a + 7))) ∧ Kn [some vb, some (AV.int .i64 (Int.ofNat size)), some (AV.bool sg), some (AV.int .u64 (Int.ofNat (v ||| (((l.getD k 0) &&& 127) * 2 ^ a % 18446744073709551616)))), some (AV.int .i64 (Int.ofNat (k + 1))), some (AV.int .i64 (Int.ofNat (a + 7))), some (AV.int .i64 (Int.ofNat 0))] h)) ∧ (notB (eqI (Int.ofNat ((l.getD k 0) &&& 128)) (Int.ofNat 0)) = false → ((sg = true → (evQ (.bin .and (.const (AV.int .u8 (Int.ofNat (l.getD k 0)))) (.const (AV.int .u8 (Int.ofNat 64)))) .lf H0 = .ok (AV.int .u8 (Int.ofNat ((l.getD k 0) &&& 64))) ∧ ((notB (eqI (Int.ofNat ((l.getD k 0) &&& 64)) (Int.ofNat 0)) = true → (evQ (.bin .add (.const (AV.int .i64 (Int.ofNat a))) (.const (AV.int .i64 (Int.ofNat 7)))) .lf H0 = .ok (AV.int .i64 (Int.ofNat (a + 7))) ∧ ((ltI (Int.ofNat (a + 7)) (Int.ofNat 64) = true → (evQ (.bin .add (.const (AV.int .i64 (Int.ofNat a))) (.const (AV.int .i64 (Int.ofNat 7)))) .lf H0 = .ok (AV.int .i64 (Int.ofNat (a + 7))) ∧ (evQ (.bin .shl (.const (AV.int .u64 (Int.ofNat 18446744073709551615))) (.const (AV.int .i64 (Int.ofNat (a + 7))))) .lf H0 = .ok (AV.int .u64 (Int.ofNat (18446744073709551615 * 2 ^ (a + 7) % 18446744073709551616))) ∧ (evQ (.bin .or (.const (AV.int .u64 (Int.ofNat (v ||| (((l.getD k 0) &&& 127) * 2 ^ a % 18446744073709551616))))) (.const (AV.int .u64 (Int.ofNat (18446744073709551615 * 2 ^ (a + 7) % 18446744073709551616))))) .lf H0 = .ok (AV.int .u64 (Int.ofNat ((v ||| (((l.getD k 0) &&& 127) * 2 ^ a % 18446744073709551616)) ||| (18446744073709551615 * 2 ^ (a + 7) % 18446744073709551616)))) ∧ Kr [some vb, some (AV.int .i64 (Int.ofNat size)), some (AV.bool sg), some (AV.int .u64 (Int.ofNat ((v ||| (((l.getD k 0) &&& 127) * 2 ^ a % 18446744073709551616)) ||| (18446744073709551615 * 2 ^ (a + 7) % 18446744073709551616)))), some (AV.int .i64 (Int.ofNat (k + 1))), some (AV.int .i64 (Int.ofNat a)), some (AV.int .i64 (Int.ofNat 0))] h)))) ∧ (ltI (Int.ofNat (a + 7)) (Int.ofNat 64) = false → Kr [some vb, some (AV.int .i64 (Int.ofNat size)), some (AV.bool sg), some (AV.int .u64 (Int.ofNat (v ||| (((l.getD k 0) &&& 127) * 2 ^ a % 18446744073709551616)))), some (AV.int .i64 (Int.ofNat (k + 1))), some (AV.int .i64 (Int.ofNat a)), some (AV.int .i64 (Int.ofNat 0))] h)))) ∧ (notB (eqI (Int.ofNat ((l.getD k 0) &&& 64)) (Int.ofNat 0)) = false → Kr [some vb, some (AV.int .i64 (Int.ofNat size)), some (AV.bool sg), some (AV.int .u64 (Int.ofNat (v ||| (((l.getD k 0) &&& 127) * 2 ^ a % 18446744073709551616)))), some (AV.int .i64 (Int.ofNat (k + 1))), some (AV.int .i64 (Int.ofNat a)), some (AV.int .i64 (Int.ofNat 0))] h)))) ∧ (sg = false → Kr [some vb, some (AV.int .i64 (Int.ofNat size)), some (AV.bool sg), some (AV.int .u64 (Int.ofNat (v ||| (((l.getD k 0) &&& 127) * 2 ^ a % 18446744073709551616)))), some (AV.int .i64 (Int.ofNat (k + 1))), some (AV.int .i64 (Int.ofNat a)), some (AV.int .i64 (Int.ofNat 0))] h))))))))))))))))))) (by kernel_rfl) ?_
  refine ⟨q_len hb, ?_⟩
  refine ⟨fun c1 => ?_, fun c1 => ?_⟩
  · have rc1 := c1
    replace c1 : k = l.length := eqI_t c1
    exact k0 c1
  · have rc1 := c1
    replace c1 : k ≠ l.length := eqI_f c1
    refine ⟨q_idxB hb (by omega), ?_⟩
    refine ⟨q_byte hb (by omega), ?_⟩
    have x2 : l.getD k 0 < 256 := getD_lt hb.lt k
    refine ⟨q_add (by omega), ?_⟩
    refine ⟨q_sub (by omega) (by omega), ?_⟩
    refine ⟨fun c3 => ?_, fun c3 => ?_⟩
    · have rc3 := c3
      replace c3 : size - a ≤ 7 := ltI_f (notB_t c3)
      refine ⟨hlast _ _ _ _ x2 (by omega) (by omega), ?_⟩
      refine ⟨fun c4 => ?_, fun c4 => ?_⟩
      · have rc4 := c4
        replace c4 : lastB (l.getD k 0) (size - a) sg = false := notB_t c4
        exact k1 c1 c3 c4
      · have rc4 := c4
        replace c4 : lastB (l.getD k 0) (size - a) sg = true := notB_f c4
        refine ⟨u_and rfl x2 (by decide), ?_⟩
        have g5 : (l.getD k 0) &&& 127 < 256 := Nat.lt_of_le_of_lt Nat.and_le_left x2
        refine ⟨u_conv' rfl (Nat.lt_of_lt_of_le g5 (by decide)), ?_⟩
        have g6 : (l.getD k 0) &&& 127 < 18446744073709551616 := Nat.lt_of_lt_of_le g5 (by decide)
        refine ⟨u_shl rfl, ?_⟩
        have g7 : ((l.getD k 0) &&& 127) * 2 ^ a % 18446744073709551616 < 18446744073709551616 := Nat.mod_lt _ (by decide)
        refine ⟨u_or rfl hv g7, ?_⟩
        have g8 : v ||| (((l.getD k 0) &&& 127) * 2 ^ a % 18446744073709551616) < 18446744073709551616 := Nat.or_lt_two_pow (n := 64) hv g7
        refine ⟨u_and rfl x2 (by decide), ?_⟩
        have g9 : (l.getD k 0) &&& 128 < 256 := Nat.lt_of_le_of_lt Nat.and_le_left x2
        refine ⟨fun c10 => ?_, fun c10 => ?_⟩
        · have rc10 := c10
          replace c10 : (l.getD k 0) &&& 128 ≠ 0 := eqI_f (notB_t c10)
          refine ⟨q_add (by omega), ?_⟩
          exact k2 c1 c3 c4 c10
        · have rc10 := c10
          replace c10 : (l.getD k 0) &&& 128 = 0 := eqI_t (notB_f c10)
          refine ⟨fun c11 => ?_, fun c11 => ?_⟩
          · have rc11 := c11
            refine ⟨u_and rfl x2 (by decide), ?_⟩
            have g12 : (l.getD k 0) &&& 64 < 256 := Nat.lt_of_le_of_lt Nat.and_le_left x2
            refine ⟨fun c13 => ?_, fun c13 => ?_⟩
            · have rc13 := c13
              replace c13 : (l.getD k 0) &&& 64 ≠ 0 := eqI_f (notB_t c13)
              refine ⟨q_add (by omega), ?_⟩
              refine ⟨fun c14 => ?_, fun c14 => ?_⟩
              · have rc14 := c14
                replace c14 : a + 7 < 64 := ltI_t c14
                refine ⟨q_add (by omega), ?_⟩
                refine ⟨u_shl rfl, ?_⟩
                have g15 : 18446744073709551615 * 2 ^ (a + 7) % 18446744073709551616 < 18446744073709551616 := Nat.mod_lt _ (by decide)
                refine ⟨u_or rfl g8 g15, ?_⟩
                have g16 : (v ||| (((l.getD k 0) &&& 127) * 2 ^ a % 18446744073709551616)) ||| (18446744073709551615 * 2 ^ (a + 7) % 18446744073709551616) < 18446744073709551616 := Nat.or_lt_two_pow (n := 64) g8 g15
                exact k3 c1 c3 c4 c10 c11 c13 c14
              · have rc14 := c14
                replace c14 : 64 ≤ a + 7 := ltI_f c14
                exact k4 c1 c3 c4 c10 c11 c13 c14
            · have rc13 := c13
              replace c13 : (l.getD k 0) &&& 64 = 0 := eqI_t (notB_f c13)
              exact k5 c1 c3 c4 c10 c11 c13
          · have rc11 := c11
            exact k6 c1 c3 c4 c10 c11
    · have rc3 := c3
      replace c3 : 7 < size - a := ltI_t (notB_f c3)
      refine ⟨u_and rfl x2 (by decide), ?_⟩
      have g4 : (l.getD k 0) &&& 127 < 256 := Nat.lt_of_le_of_lt Nat.and_le_left x2
      refine ⟨u_conv' rfl (Nat.lt_of_lt_of_le g4 (by decide)), ?_⟩
      have g5 : (l.getD k 0) &&& 127 < 18446744073709551616 := Nat.lt_of_lt_of_le g4 (by decide)
      refine ⟨u_shl rfl, ?_⟩
      have g6 : ((l.getD k 0) &&& 127) * 2 ^ a % 18446744073709551616 < 18446744073709551616 := Nat.mod_lt _ (by decide)
      refine ⟨u_or rfl hv g6, ?_⟩
      have g7 : v ||| (((l.getD k 0) &&& 127) * 2 ^ a % 18446744073709551616) < 18446744073709551616 := Nat.or_lt_two_pow (n := 64) hv g6
      refine ⟨u_and rfl x2 (by decide), ?_⟩
      have g8 : (l.getD k 0) &&& 128 < 256 := Nat.lt_of_le_of_lt Nat.and_le_left x2
      refine ⟨fun c9 => ?_, fun c9 => ?_⟩
      · have rc9 := c9
        replace c9 : (l.getD k 0) &&& 128 ≠ 0 := eqI_f (notB_t c9)
        refine ⟨q_add (by omega), ?_⟩
        exact k7 c1 c3 c9
      · have rc9 := c9
        replace c9 : (l.getD k 0) &&& 128 = 0 := eqI_t (notB_f c9)
        refine ⟨fun c10 => ?_, fun c10 => ?_⟩
        · have rc10 := c10
          refine ⟨u_and rfl x2 (by decide), ?_⟩
          have g11 : (l.getD k 0) &&& 64 < 256 := Nat.lt_of_le_of_lt Nat.and_le_left x2
          refine ⟨fun c12 => ?_, fun c12 => ?_⟩
          · have rc12 := c12
            replace c12 : (l.getD k 0) &&& 64 ≠ 0 := eqI_f (notB_t c12)
            refine ⟨q_add (by omega), ?_⟩
            refine ⟨fun c13 => ?_, fun c13 => ?_⟩
            · have rc13 := c13
              replace c13 : a + 7 < 64 := ltI_t c13
              refine ⟨q_add (by omega), ?_⟩
              refine ⟨u_shl rfl, ?_⟩
              have g14 : 18446744073709551615 * 2 ^ (a + 7) % 18446744073709551616 < 18446744073709551616 := Nat.mod_lt _ (by decide)
              refine ⟨u_or rfl g7 g14, ?_⟩
              have g15 : (v ||| (((l.getD k 0) &&& 127) * 2 ^ a % 18446744073709551616)) ||| (18446744073709551615 * 2 ^ (a + 7) % 18446744073709551616) < 18446744073709551616 := Nat.or_lt_two_pow (n := 64) g7 g14
              exact k8 c1 c3 c9 c10 c12 c13
            · have rc13 := c13
              replace c13 : 64 ≤ a + 7 := ltI_f c13
              exact k9 c1 c3 c9 c10 c12 c13
          · have rc12 := c12
            replace c12 : (l.getD k 0) &&& 64 = 0 := eqI_t (notB_f c12)
            exact k10 c1 c3 c9 c10 c12
        · have rc10 := c10
          exact k11 c1 c3 c9 c10
theorem read_loop {call : CallT} {N : Nat} {t : T} {h : Hp} {B : Nat} {vb : AV} {sg : Bool} {l : List Nat} (hb : Bytes B h vb l) (hk2 : l.length < 9223372036854775000) {size : Nat} (h1 : 1 ≤ size) (hs : size ≤ 64) (hlast : ∀ x left s h, x < 256 → 1 ≤ left → left ≤ 64 → call 75 [.int .u8 (.ofNat x), .int .i64 (.ofNat left), .bool s] h = .ok (.bool (lastB x left s)) h) (hN : l.length < N)
    (h0 : slots [0, 1, 2, 6, 7, 9, 8] t = [some vb, some (.int .i64 (.ofNat size)), some (.bool sg), some (.int .u64 (.ofNat 0)), some (.int .i64 (.ofNat 0)), some (.int .i64 (.ofNat 0)), some (.int .i64 (.ofNat 0))]) :
    ∃ t', evC call N (.loop readC) t h = .ret t' h ∧ Has [(6, .int .u64 (.ofNat (readG size sg l 0 0 0).1)), (7, .int .i64 (.ofNat (readG size sg l 0 0 0).2.1)), (8, .int .i64 (.ofNat (readG size sg l 0 0 0).2.2))] t' := by
  refine Exists.elim (loop_ok (call := call) (N := N) (body := readC) [0, 1, 2, 6, 7, 9, 8]
    (fun n ls h' => h' = h ∧ ∃ k a v, ls = [some vb, some (.int .i64 (.ofNat size)), some (.bool sg), some (.int .u64 (.ofNat v)), some (.int .i64 (.ofNat k)), some (.int .i64 (.ofNat a)), some (.int .i64 (.ofNat 0))] ∧
      n = l.length - k ∧ k ≤ l.length ∧ v < 18446744073709551616 ∧ a < size ∧ readG size sg (l.drop k) a k v = readG size sg l 0 0 0)
    (fun _ _ _ => False)
    (fun ls h' => h' = h ∧ ∃ x0 x1 x2 x3, ls = [x0, x1, x2, some (.int .u64 (.ofNat (readG size sg l 0 0 0).1)), some (.int .i64 (.ofNat (readG size sg l 0 0 0).2.1)), x3, some (.int .i64 (.ofNat (readG size sg l 0 0 0).2.2))])
    ?_ (l.length - 0) (by omega) t h ⟨rfl, 0, 0, 0, h0, rfl, Nat.zero_le _, by decide, by omega, rfl⟩) ?_
  rotate_left
  · rintro s ⟨e, hs'⟩
    cases s with
    | no => exact hs'.elim
    | nor t' h' => exact hs'.elim
    | exit i t' h' => exact hs'.elim
    | ret t' h' =>
      obtain ⟨rfl, x0, x1, x2, x3, hh⟩ := hs'
      refine ⟨t', e, ?_⟩
      have hh : [tget (pathOf 0) t', tget (pathOf 1) t', tget (pathOf 2) t', tget (pathOf 6) t', tget (pathOf 7) t', tget (pathOf 9) t', tget (pathOf 8) t'] = _ := hh
      simp only [List.cons.injEq] at hh
      obtain ⟨-, -, -, g6, g7, -, g8, -⟩ := hh
      show [tget (pathOf 6) t', tget (pathOf 7) t', tget (pathOf 8) t'] = _
      rw [g6, g7, g8]; rfl
  · rintro n t h' ⟨rfl, k, a, v, hsl, rfl, hk, hv, ha, hR⟩
    have ht := ovT_eq (l := [(0, vb), (1, .int .i64 (.ofNat size)), (2, .bool sg), (6, .int .u64 (.ofNat v)), (7, .int .i64 (.ofNat k)), (9, .int .i64 (.ofNat a)), (8, .int .i64 (.ofNat 0))]) hsl
    rw [← ht]
    have hd : k ≠ l.length → l.drop k = l.getD k 0 :: l.drop (k + 1) := fun hne => drop_cons (by omega)
    have hx := getD_lt hb.lt k
    have go : ∀ v', k ≠ l.length → v' < 18446744073709551616 → a + 7 < size → readG size sg (l.drop (k + 1)) (a + 7) (k + 1) v' = readG size sg l 0 0 0 →
        ∃ m, m < l.length - k ∧ h' = h' ∧ ∃ k' a' v'', [some vb, some (.int .i64 (.ofNat size)), some (.bool sg), some (.int .u64 (.ofNat v')), some (.int .i64 (.ofNat (k + 1))), some (.int .i64 (.ofNat (a + 7))), some (.int .i64 (.ofNat 0))] =
          [some vb, some (.int .i64 (.ofNat size)), some (.bool sg), some (.int .u64 (.ofNat v'')), some (.int .i64 (.ofNat k')), some (.int .i64 (.ofNat a')), some (.int .i64 (.ofNat 0))] ∧
          m = l.length - k' ∧ k' ≤ l.length ∧ v'' < 18446744073709551616 ∧ a' < size ∧ readG size sg (l.drop k') a' k' v'' = readG size sg l 0 0 0 :=
      fun v' hne h1 h2 h3 => ⟨l.length - (k + 1), by omega, rfl, k + 1, a + 7, v', rfl, rfl, by omega, h1, h2, h3⟩
    have fin : ∀ X Y Z : Nat, readG size sg (l.drop k) a k v = (X, Y, Z) → h' = h' ∧ ∃ x0 x1 x2 x3, [some vb, some (.int .i64 (.ofNat size)), some (.bool sg), some (.int .u64 (.ofNat X)), some (.int .i64 (.ofNat Y)), some (.int .i64 (.ofNat a)), some (.int .i64 (.ofNat Z))] =
        [x0, x1, x2, some (.int .u64 (.ofNat (readG size sg l 0 0 0).1)), some (.int .i64 (.ofNat (readG size sg l 0 0 0).2.1)), x3, some (.int .i64 (.ofNat (readG size sg l 0 0 0).2.2))] := by
      intro X Y Z e
      rw [hR] at e
      rw [e]
      exact ⟨rfl, _, _, _, _, rfl⟩
    have g5 : (l.getD k 0 &&& 127) * 2 ^ a % 18446744073709551616 < 18446744073709551616 := Nat.mod_lt _ (by decide)
    have g6 := or64 hv g5
    refine read_body hb hk2 hv ha hs hk hlast ?_ ?_ ?_ ?_ ?_ ?_ ?_ ?_ ?_ ?_ ?_ ?_
    · intro c1; exact fin _ _ _ (by rw [c1, List.drop_length]; rfl)
    · intro c1 c2 c3; exact fin _ _ _ (by rw [hd c1, readG, if_pos ⟨c2, c3⟩])
    · intro c1 c2 c3 c4; exact absurd (lastB_small c3) c4
    · intro c1 c2 c3 c4 c5 c6 c7; exact fin _ _ _ (by rw [hd c1, readG, if_neg (by rw [c3]; simp), if_neg (fun hh => hh c4), if_pos ⟨c5, c6, c7⟩])
    · intro c1 c2 c3 c4 c5 c6 c7; exact fin _ _ _ (by rw [hd c1, readG, if_neg (by rw [c3]; simp), if_neg (fun hh => hh c4), if_neg (fun hh => by have := hh.2.2; omega)])
    · intro c1 c2 c3 c4 c5 c6; exact fin _ _ _ (by rw [hd c1, readG, if_neg (by rw [c3]; simp), if_neg (fun hh => hh c4), if_neg (fun hh => hh.2.1 c6)])
    · intro c1 c2 c3 c4 c5; exact fin _ _ _ (by rw [hd c1, readG, if_neg (by rw [c3]; simp), if_neg (fun hh => hh c4), if_neg (fun hh => by rw [c5] at hh; exact absurd hh.1 (by decide))])
    · intro c1 c2 c4; exact go _ c1 g6 (by omega) (by rw [← hR, hd c1, readG, if_neg (fun hh => by have := hh.1; omega), if_pos c4])
    · intro c1 c2 c4 c5 c6 c7; exact fin _ _ _ (by rw [hd c1, readG, if_neg (fun hh => by have := hh.1; omega), if_neg (fun hh => hh c4), if_pos ⟨c5, c6, c7⟩])
    · intro c1 c2 c4 c5 c6 c7; exact fin _ _ _ (by rw [hd c1, readG, if_neg (fun hh => by have := hh.1; omega), if_neg (fun hh => hh c4), if_neg (fun hh => by have := hh.2.2; omega)])
    · intro c1 c2 c4 c5 c6; exact fin _ _ _ (by rw [hd c1, readG, if_neg (fun hh => by have := hh.1; omega), if_neg (fun hh => hh c4), if_neg (fun hh => hh.2.1 c6)])
    · intro c1 c2 c4 c5; exact fin _ _ _ (by rw [hd c1, readG, if_neg (fun hh => by have := hh.1; omega), if_neg (fun hh => hh c4), if_neg (fun hh => by rw [c5] at hh; exact absurd hh.1 (by decide))])
theorem read_walk {call : CallT} {N : Nat} {h : Hp} {B : Nat} {vb : AV} {sg : Bool} {l : List Nat} (hb : Bytes B h vb l) (hk2 : l.length < 9223372036854775000) {size : Nat} (h1 : 1 ≤ size) (hs : size ≤ 64) (hlast : ∀ x left s h, x < 256 → 1 ≤ left → left ≤ 64 → call 75 [.int .u8 (.ofNat x), .int .i64 (.ofNat left), .bool s] h = .ok (.bool (lastB x left s)) h) (hN : l.length < N)
    : ∃ rv rh, evF1 (progS Try.prog (compDrawn Try.prog)) N call 56 [vb, (AV.int .i64 (Int.ofNat size)), (AV.bool sg)] h = .ok rv rh ∧ (fun (v : AV) (h' : Hp) => h' = h ∧ v = .tuple [.int .u64 (.ofNat (readG size sg l 0 0 0).1), .int .i64 (.ofNat (readG size sg l 0 0 0).2.1), .int .i64 (.ofNat (readG size sg l 0 0 0).2.2)]) rv rh := by
  refine fwalk_ok (o := (.lpx 4 (fun e1 => (.ret (ovT [(6, (AV.int .u64 (Int.ofNat ((readG size sg l 0 0 0).1)))), (7, (AV.int .i64 (Int.ofNat ((readG size sg l 0 0 0).2.1)))), (8, (AV.int .i64 (Int.ofNat ((readG size sg l 0 0 0).2.2))))] e1.t) h)) (fun e1 => .fin))) (p := (∃ e1 : Ev, evC call N (.loop readC) (ovT [(0, vb), (1, (AV.int .i64 (Int.ofNat size))), (2, (AV.bool sg)), (6, (AV.int .u64 (Int.ofNat 0))), (7, (AV.int .i64 (Int.ofNat 0))), (8, (AV.int .i64 (Int.ofNat 0))), (9, (AV.int .i64 (Int.ofNat 0)))] .lf) h = (.ret (ovT [(6, (AV.int .u64 (Int.ofNat ((readG size sg l 0 0 0).1)))), (7, (AV.int .i64 (Int.ofNat ((readG size sg l 0 0 0).2.1)))), (8, (AV.int .i64 (Int.ofNat ((readG size sg l 0 0 0).2.2))))] e1.t) h) ∧ True ∧ (fun (v : AV) (h' : Hp) => h' = h ∧ v = .tuple [.int .u64 (.ofNat (readG size sg l 0 0 0).1), .int .i64 (.ofNat (readG size sg l 0 0 0).2.1), .int .i64 (.ofNat (readG size sg l 0 0 0).2.2)]) (AV.tuple [(AV.int .u64 (Int.ofNat ((readG size sg l 0 0 0).1))), (AV.int .i64 (Int.ofNat ((readG size sg l 0 0 0).2.1))), (AV.int .i64 (Int.ofNat ((readG size sg l 0 0 0).2.2)))]) h)) (by kernel_rfl) ?_
  obtain ⟨t1, q1, w1⟩ := read_loop (N := N) (call := call) (t := ovT [(0, vb), (1, (AV.int .i64 (Int.ofNat size))), (2, (AV.bool sg)), (6, (AV.int .u64 (Int.ofNat 0))), (7, (AV.int .i64 (Int.ofNat 0))), (8, (AV.int .i64 (Int.ofNat 0))), (9, (AV.int .i64 (Int.ofNat 0)))] .lf) hb hk2 h1 hs hlast hN (by kernel_rfl)
  refine ⟨⟨.nilPtr, t1, h⟩, (by rw [q1]; exact congrArg (fun t => RS.ret t h) (ovT_eq w1).symm), trivial, ?_⟩
  exact ⟨rfl, rfl⟩
theorem clone_sl {call : CallT} {N : Nat} {h : Hp} {B : Nat} {l : List Nat} (hB : B ≤ h.next) (hlen : l.length ≤ 1099511627776) {b o n c : Nat} {ex : Bool} (hb : Bytes B h (AV.slice b o n c 1 ex) l)
    : ∃ rv rh, evF1 (progS Try.prog (compDrawn Try.prog)) N call 59 [(AV.slice b o n c 1 ex)] h = .ok rv rh ∧ (fun (v : AV) (h' : Hp) => Owned 1 B h' v l.length (u8s l) ∧ Old B h h' ∧ B ≤ h'.next) rv rh := by
  refine fwalk_ok (o := (.effx 5 (fun e5 => e5.v) (fun e5 => .fin))) (p := (∃ e5 : Ev, evE (.append 1 1 (.const (AV.slice (Hp.next h) 0 0 0 1 true)) (.const (AV.slice b o n c 1 ex))) call .lf (hpush h (mkCells [] 0)) = .ok e5.v e5.h ∧ (fun (v : AV) (h' : Hp) => Owned 1 B h' v l.length (u8s l) ∧ Old B h h' ∧ B ≤ h'.next) e5.v e5.h)) (by kernel_rfl) ?_
  have f1 := (own_lit (sz := 1) (B := B) (n := 0) (h := h) (xs := []) hB rfl)
  have f2 := (hb.old (Old.push hB (mkCells [] 0)))
  have l3 : B ≤ (hpush h (mkCells [] 0)).next := (Nat.le_succ_of_le hB)
  have d4 := ((Old.refl B h).trans (Old.push hB (mkCells [] 0)))
  obtain ⟨e5, qe5, oe5, pe5, ne5⟩ := append_ev (sz := 1) (bytes := 1) (B := B) (n := 0) (L := []) (m := l.length) (xs := u8s l) call l3 f1 (fun z k => src_bytes f2 z k) (u8s_len1 _) (by omega) (by omega)
  refine ⟨e5, qe5, ?_⟩
  have f6 := (f2.old pe5)
  have d7 := (d4.trans pe5)
  refine ⟨?_, d7, ne5⟩
  simpa using oe5
theorem clone_nil {call : CallT} {N : Nat} {h : Hp} {B : Nat} {l : List Nat} (hB : B ≤ h.next) (hlen : l.length ≤ 1099511627776) (hl : l = [])
    : ∃ rv rh, evF1 (progS Try.prog (compDrawn Try.prog)) N call 59 [AV.nilSlice] h = .ok rv rh ∧ (fun (v : AV) (h' : Hp) => Owned 1 B h' v l.length (u8s l) ∧ Old B h h' ∧ B ≤ h'.next) rv rh := by
  refine fwalk_ok (o := .fin) (p := (fun (v : AV) (h' : Hp) => Owned 1 B h' v l.length (u8s l) ∧ Old B h h' ∧ B ≤ h'.next) AV.nilSlice h) (by kernel_rfl) ?_
  subst hl
  exact ⟨.nil, .refl B h, hB⟩
theorem clone_walk {call : CallT} {N : Nat} {h : Hp} {B : Nat} {l : List Nat} (hB : B ≤ h.next) (hlen : l.length ≤ 1099511627776) {vb : AV} (hb : Bytes B h vb l) :
    ∃ v h', evF1 (progS Try.prog (compDrawn Try.prog)) N call 59 [vb] h = .ok v h' ∧ (fun (v : AV) (h' : Hp) => Owned 1 B h' v l.length (u8s l) ∧ Old B h h' ∧ B ≤ h'.next) v h' := by
  cases hb with
  | nil => exact clone_nil hB hlen rfl
  | sl hB' hg hcl hl hm hc hb => exact clone_sl hB hlen (.sl hB' hg hcl hl hm hc hb)
theorem put_walk {call : CallT} {N : Nat} {h : Hp} {B : Nat} {vb vl : AV} {l m : List Nat} (hB : B ≤ h.next) (hb : Bytes B h vb l) (hm : Bytes B h vl m) (hlen : l.length ≤ 1099511627776) (hlen2 : m.length ≤ 1099511627776) (hclone : ∀ {B : Nat} {h : Hp} {vb : AV} {l : List Nat}, B ≤ h.next → l.length ≤ 1099511627776 → Bytes B h vb l → ∃ v h', call 59 [vb] h = .ok v h' ∧ Owned 1 B h' v l.length (u8s l) ∧ Old B h h' ∧ B ≤ h'.next)
    : ∃ rv rh, evF1 (progS Try.prog (compDrawn Try.prog)) N call 55 [vb, vl] h = .ok rv rh ∧ (fun (v : AV) (h' : Hp) => Owned 1 B h' v (l.length + m.length) (u8s (l ++ m)) ∧ Old B h h' ∧ B ≤ h'.next) rv rh := by
  refine fwalk_ok (o := (.effx 2 (fun e1 => e1.v) (fun e1 => (.effx 1 (fun e5 => e5.v) (fun e5 => .fin))))) (p := (∃ e1 : Ev, call 59 [vb] h = .ok e1.v e1.h ∧ (∃ e5 : Ev, evE (.append 1 1 (.const e1.v) (.const vl)) call .lf e1.h = .ok e5.v e5.h ∧ (fun (v : AV) (h' : Hp) => Owned 1 B h' v (l.length + m.length) (u8s (l ++ m)) ∧ Old B h h' ∧ B ≤ h'.next) e5.v e5.h))) (by kernel_rfl) ?_
  obtain ⟨ve1, he1, qe1, oe1, pe1, ne1⟩ := hclone hB (by omega) hb
  obtain ⟨e1, rfl, rfl⟩ : ∃ e : Ev, ve1 = e.v ∧ he1 = e.h := ⟨⟨ve1, .lf, he1⟩, rfl, rfl⟩
  refine ⟨e1, qe1, ?_⟩
  have f2 := (hb.old pe1)
  have f3 := (hm.old pe1)
  have d4 := ((Old.refl B h).trans pe1)
  obtain ⟨e5, qe5, oe5, pe5, ne5⟩ := append_ev (sz := 1) (bytes := 1) (B := B) (n := l.length) (L := u8s l) (m := m.length) (xs := u8s m) call ne1 oe1 (fun z k => src_bytes f3 z k) (u8s_len1 _) (by omega) (by omega)
  refine ⟨e5, qe5, ?_⟩
  have f6 := (f2.old pe5)
  have f7 := (f3.old pe5)
  have d8 := (d4.trans pe5)
  refine ⟨?_, d8, ne5⟩
  rw [← u8s_append]
  exact oe5
theorem lebH_lt (n v : Nat) (h : v < 128 ^ n * 128) : ∀ x ∈ lebH v, x < 256 := fun x hx => lebU_lt (n + 1) v (by rw [Nat.pow_succ]; exact h) x (by rw [lebU_eq]; exact List.mem_append_left _ hx)
noncomputable def putUC : AC := (.seq (.seq (.region [⟨(some 6), .q (.move (.tmp 1)), none⟩, ⟨(some 7), .q (.bin .gtr (.tmp 6) (.const (AV.int .u64 (Int.ofNat 127)))), none⟩]) (.cond (.tmp 7) .skip (.exit 0))) (.block 1 (.seq (.region [⟨(some 8), .q (.move (.tmp 5)), none⟩, ⟨(some 9), .q (.move (.tmp 1)), none⟩, ⟨(some 10), .q (.toInt .u8 (.tmp 9)), none⟩, ⟨(some 11), .q (.bin .or (.tmp 10) (.const (AV.int .u8 (Int.ofNat 128)))), none⟩, ⟨(some 12), .l (.buildSlice 1 1 [(AV.int .u8 (Int.ofNat 0))] [(0, 1, (.tmp 11))]), none⟩, ⟨(some 13), .e (.append 1 1 (.tmp 8) (.tmp 12)), none⟩, ⟨(some 5), .q (.move (.tmp 13)), none⟩]) (.region [⟨(some 14), .q (.move (.tmp 1)), none⟩, ⟨(some 15), .q (.bin .shr (.tmp 14) (.const (AV.int .u64 (Int.ofNat 7)))), none⟩, ⟨(some 1), .q (.move (.tmp 15)), none⟩]))))
theorem putU_body {call : CallT} {N : Nat} {t : T} {h : Hp} {B n : Nat} {v : Nat} {vb vs : AV} {pre : List Nat} (hB : B ≤ h.next) (ho : Owned 1 B h vs n (u8s pre)) (hv : v < 18446744073709551616) (hn : n ≤ 2199023255552)
    {Kn : List (Option AV) → Hp → Prop} {Ke : Nat → List (Option AV) → Hp → Prop} {Kr : List (Option AV) → Hp → Prop}
    (k0 : 127 < v → ∀ e8 : Ev, Owned 1 B e8.h e8.v (n + 1) ((u8s pre) ++ [(AV.int .u8 (Int.ofNat ((v % 256) ||| 128)))]) → Old B (hpush h (mkCells [(AV.int .u8 (Int.ofNat ((v % 256) ||| 128)))] 1)) e8.h → B ≤ e8.h.next → Kn [some vb, some (AV.int .u64 (Int.ofNat (v / 2 ^ 7))), some e8.v] e8.h)
    (k1 : v ≤ 127 → Ke 0 [some vb, some (AV.int .u64 (Int.ofNat v)), some vs] h)
    : ∃ s, evC call N putUC (ovT [(0, vb), (1, (AV.int .u64 (Int.ofNat v))), (5, vs)] t) h = s ∧ obsS [0, 1, 5] Kn Ke Kr s := by
  refine walk_ok (o := (.fork 1 (.tell 2 (AV.int .u8 (Int.ofNat (v % 256))) (.tell 0 (AV.int .u8 (Int.ofNat ((v % 256) ||| 128))) (.effx 1 (fun e8 => e8.v) (fun e8 => (.tell 2 (AV.int .u64 (Int.ofNat (v / 2 ^ 7))) .fin))))) .fin)) (p := ((ltI (Int.ofNat 127) (Int.ofNat v) = true → (evQ (.toInt .u8 (.const (AV.int .u64 (Int.ofNat v)))) .lf H0 = .ok (AV.int .u8 (Int.ofNat (v % 256))) ∧ (evQ (.bin .or (.const (AV.int .u8 (Int.ofNat (v % 256)))) (.const (AV.int .u8 (Int.ofNat 128)))) .lf H0 = .ok (AV.int .u8 (Int.ofNat ((v % 256) ||| 128))) ∧ (∃ e8 : Ev, evE (.append 1 1 (.const vs) (.const (AV.slice (Hp.next h) 0 1 1 1 true))) call .lf (hpush h (mkCells [(AV.int .u8 (Int.ofNat ((v % 256) ||| 128)))] 1)) = .ok e8.v e8.h ∧ (evQ (.bin .shr (.const (AV.int .u64 (Int.ofNat v))) (.const (AV.int .u64 (Int.ofNat 7)))) .lf H0 = .ok (AV.int .u64 (Int.ofNat (v / 2 ^ 7))) ∧ Kn [some vb, some (AV.int .u64 (Int.ofNat (v / 2 ^ 7))), some e8.v] e8.h))))) ∧ (ltI (Int.ofNat 127) (Int.ofNat v) = false → Ke 0 [some vb, some (AV.int .u64 (Int.ofNat v)), some vs] h))) (by kernel_rfl) ?_
  refine ⟨fun c1 => ?_, fun c1 => ?_⟩
  · have rc1 := c1
    replace c1 : 127 < v := ltI_t c1
    refine ⟨u_conv rfl, ?_⟩
    have g2 : v % 256 < 256 := Nat.mod_lt _ (by decide)
    refine ⟨u_or rfl g2 (by decide), ?_⟩
    have g3 : (v % 256) ||| 128 < 256 := Nat.or_lt_two_pow (n := 8) g2 (by decide)
    have f4 := (ho.push (mkCells [(AV.int .u8 (Int.ofNat ((v % 256) ||| 128)))] 1))
    have f5 := (own_lit (sz := 1) (B := B) (n := 1) (h := h) (xs := [(AV.int .u8 (Int.ofNat ((v % 256) ||| 128)))]) hB rfl)
    have l6 : B ≤ (hpush h (mkCells [(AV.int .u8 (Int.ofNat ((v % 256) ||| 128)))] 1)).next := (Nat.le_succ_of_le hB)
    have d7 := ((Old.refl B h).trans (Old.push hB (mkCells [(AV.int .u8 (Int.ofNat ((v % 256) ||| 128)))] 1)))
    obtain ⟨e8, qe8, oe8, pe8, ne8⟩ := append_ev (sz := 1) (bytes := 1) (B := B) (n := n) (L := u8s pre) (m := 1) (xs := [(AV.int .u8 (Int.ofNat ((v % 256) ||| 128)))]) call l6 f4 (fun z k => src_owned f5) (f5.len) (by omega) (by omega)
    refine ⟨e8, qe8, ?_⟩
    have d9 := (d7.trans pe8)
    refine ⟨u_shr rfl hv, ?_⟩
    have g10 : v / 2 ^ 7 < 18446744073709551616 := Nat.lt_of_le_of_lt (Nat.div_le_self _ _) hv
    exact k0 c1 e8 oe8 pe8 ne8
  · have rc1 := c1
    replace c1 : v ≤ 127 := ltI_f c1
    exact k1 c1
theorem putU_loop {call : CallT} {N : Nat} {t : T} {h : Hp} {B n : Nat} {v0 : Nat} {vb vs : AV} {pre : List Nat} (hB : B ≤ h.next) (ho : Owned 1 B h vs n (u8s pre)) (hv : v0 < 18446744073709551616) (hn : n ≤ 1099511627777) (hN : 10 < N)
    (h0 : slots [0, 1, 5] t = [some vb, some (AV.int .u64 (.ofNat v0)), some vs]) :
    ∃ e : Ev, evC call N (.loop putUC) t h = .exit 0 (ovT [(0, vb), (1, (AV.int .u64 (.ofNat (lebL v0)))), (5, e.v)] e.t) e.h ∧ Owned 1 B e.h e.v (n + (lebH v0).length) (u8s pre ++ u8s (lebH v0)) ∧ Old B h e.h ∧ B ≤ e.h.next := by
  refine Exists.elim (loop_ok (call := call) (N := N) (body := putUC) [0, 1, 5]
    (fun j ls h' => ∃ v s pre' k, ls = [some vb, some (AV.int .u64 (.ofNat v)), some s] ∧ v < 128 ^ (j + 1) ∧ v < 18446744073709551616 ∧ Owned 1 B h' s k (u8s pre') ∧ k + j ≤ n + 9 ∧ k + (lebH v).length = n + (lebH v0).length ∧ pre' ++ lebH v = pre ++ lebH v0 ∧ lebL v = lebL v0 ∧ Old B h h' ∧ B ≤ h'.next)
    (fun i ls h' => i = 0 ∧ ∃ s, ls = [some vb, some (AV.int .u64 (.ofNat (lebL v0))), some s] ∧ Owned 1 B h' s (n + (lebH v0).length) (u8s (pre ++ lebH v0)) ∧ Old B h h' ∧ B ≤ h'.next)
    (fun _ _ => False) ?_ 9 (by omega) t h ⟨v0, vs, pre, n, h0, by omega, hv, ho, by omega, rfl, rfl, rfl, .refl B h, hB⟩) ?_
  rotate_left
  · rintro s ⟨e, hs⟩
    cases s with
    | no => exact hs.elim
    | nor t' h' => exact hs.elim
    | ret t' h' => exact hs.elim
    | exit i t' h' =>
      obtain ⟨rfl, s, hh, o1, p1, n1⟩ := hs
      rw [u8s_append]
      exact ⟨⟨s, t', h'⟩, e.trans (congrArg (fun t => RS.exit 0 t h') (ovT_eq (l := [(0, vb), (1, (AV.int .u64 (.ofNat (lebL v0)))), (5, s)]) hh).symm), o1, p1, n1⟩
  · rintro j t h' ⟨v, s, pre', k, hsl, hvj, hv', ho', hk, hkk, hpre, hL, hp, hnx⟩
    rw [← ovT_eq (l := [(0, vb), (1, (AV.int .u64 (.ofNat v))), (5, s)]) hsl]
    have fin : v < 128 → 0 = 0 ∧ ∃ s', [some vb, some (AV.int .u64 (.ofNat v)), some s] = [some vb, some (AV.int .u64 (.ofNat (lebL v0))), some s'] ∧ Owned 1 B h' s' (n + (lebH v0).length) (u8s (pre ++ lebH v0)) ∧ Old B h h' ∧ B ≤ h'.next := fun hlo => by
      rw [lebH_lo hlo] at hpre hkk
      rw [lebL_lo hlo] at hL
      rw [List.append_nil] at hpre
      rw [← hpre, ← hL, ← hkk]
      exact ⟨rfl, s, rfl, ho', hp, hnx⟩
    have go : ∀ e : Ev, Owned 1 B e.h e.v (k + 1) (u8s pre' ++ [AV.int .u8 (Int.ofNat (v % 256 ||| 128))]) → Old B (hpush h' (mkCells [AV.int .u8 (Int.ofNat (v % 256 ||| 128))] 1)) e.h → B ≤ e.h.next → 128 ≤ v →
        ∃ m, m < j ∧ ∃ v' s' pre'' k', [some vb, some (AV.int .u64 (.ofNat (v / 2 ^ 7))), some e.v] = [some vb, some (AV.int .u64 (.ofNat v')), some s'] ∧ v' < 128 ^ (m + 1) ∧ v' < 18446744073709551616 ∧ Owned 1 B e.h s' k' (u8s pre'') ∧ k' + m ≤ n + 9 ∧ k' + (lebH v').length = n + (lebH v0).length ∧ pre'' ++ lebH v' = pre ++ lebH v0 ∧ lebL v' = lebL v0 ∧ Old B h e.h ∧ B ≤ e.h.next := by
      intro e o' p' n' hge
      cases j with
      | zero => exact absurd hvj (by omega)
      | succ j =>
        rw [lebH_hi hge] at hpre hkk
        rw [lebL_hi hge] at hL
        have h2 : 128 ^ (j + 1 + 1) = 128 ^ (j + 1) * 128 := Nat.pow_succ _ _
        rw [h2] at hvj
        refine ⟨j, Nat.lt_succ_self _, v / 128, e.v, pre' ++ [v % 256 ||| 128], k + 1, rfl, by omega, by omega, ?_, by omega, by rw [← hkk, List.length_cons]; omega, by rw [← hpre]; simp, hL, hp.trans ((Old.push hnx _).trans p'), n'⟩
        rw [← u8s_append]; exact o'
    refine putU_body hnx ho' hv' (by omega) ?_ ?_
    · intro c0 e o' p' n'; exact go e o' p' n' (by omega)
    · intro c0; exact fin (by omega)
theorem putU_walk {call : CallT} {N : Nat} {h : Hp} {B : Nat} {vb : AV} {l : List Nat} {v : Nat} (hB : B ≤ h.next) (hb : Bytes B h vb l) (hlen : l.length ≤ 1099511627776) (hv : v < 18446744073709551616) (hN : 10 < N) (hput : ∀ {B : Nat} {h : Hp} {vb vl : AV} {l m : List Nat}, B ≤ h.next → Bytes B h vb l → Bytes B h vl m → l.length ≤ 1099511627776 → m.length ≤ 1099511627776 → ∃ v h', call 55 [vb, vl] h = .ok v h' ∧ Owned 1 B h' v (l.length + m.length) (u8s (l ++ m)) ∧ Old B h h' ∧ B ≤ h'.next)
    : ∃ rv rh, evF1 (progS Try.prog (compDrawn Try.prog)) N call 16 [vb, (AV.int .u64 (Int.ofNat v))] h = .ok rv rh ∧ (fun (v' : AV) (h' : Hp) => Owned 1 B h' v' (l.length + (lebU v).length) (u8s (l ++ lebU v)) ∧ Old B h h' ∧ B ≤ h'.next) rv rh := by
  have hx9 : (lebH v).length ≤ 9 := lebH_len 9 v (by omega)
  refine fwalk_ok (o := (.lpx 2 (fun e1 => (.exit 0 (ovT [(0, vb), (1, (AV.int .u64 (Int.ofNat (lebL v)))), (5, e1.v)] e1.t) e1.h)) (fun e1 => (.tell 3 (AV.int .u8 (Int.ofNat ((lebL v) % 256))) (.effx 1 (fun e8 => e8.v) (fun e8 => (.effx 0 (fun e11 => e11.v) (fun e11 => .fin)))))))) (p := (∃ e1 : Ev, evC call N (.loop putUC) (ovT [(0, vb), (1, (AV.int .u64 (Int.ofNat v))), (4, AV.nilSlice), (5, AV.nilSlice)] .lf) h = (.exit 0 (ovT [(0, vb), (1, (AV.int .u64 (Int.ofNat (lebL v)))), (5, e1.v)] e1.t) e1.h) ∧ True ∧ (evQ (.toInt .u8 (.const (AV.int .u64 (Int.ofNat (lebL v))))) .lf H0 = .ok (AV.int .u8 (Int.ofNat ((lebL v) % 256))) ∧ (∃ e8 : Ev, evE (.append 1 1 (.const e1.v) (.const (AV.slice (Hp.next e1.h) 0 1 1 1 true))) call .lf (hpush e1.h (mkCells [(AV.int .u8 (Int.ofNat ((lebL v) % 256)))] 1)) = .ok e8.v e8.h ∧ (∃ e11 : Ev, call 55 [vb, e8.v] e8.h = .ok e11.v e11.h ∧ (fun (v' : AV) (h' : Hp) => Owned 1 B h' v' (l.length + (lebU v).length) (u8s (l ++ lebU v)) ∧ Old B h h' ∧ B ≤ h'.next) e11.v e11.h))))) (by kernel_rfl) ?_
  obtain ⟨e1, qe1, oe1, pe1, ne1⟩ := putU_loop (N := N) (call := call) (t := ovT [(0, vb), (1, (AV.int .u64 (Int.ofNat v))), (4, AV.nilSlice), (5, AV.nilSlice)] .lf) (n := 0) (pre := []) hB Owned.nil hv (by omega) hN (by kernel_rfl)
  refine ⟨e1, qe1, trivial, ?_⟩
  refine ⟨u_conv rfl, ?_⟩
  have g2 : (lebL v) % 256 < 256 := Nat.mod_lt _ (by decide)
  have f3 := (oe1.push (mkCells [(AV.int .u8 (Int.ofNat ((lebL v) % 256)))] 1))
  have f4 := (own_lit (sz := 1) (B := B) (n := 1) (h := e1.h) (xs := [(AV.int .u8 (Int.ofNat ((lebL v) % 256)))]) ne1 rfl)
  have f5 := ((hb.old pe1).old (Old.push ne1 (mkCells [(AV.int .u8 (Int.ofNat ((lebL v) % 256)))] 1)))
  have l6 : B ≤ (hpush e1.h (mkCells [(AV.int .u8 (Int.ofNat ((lebL v) % 256)))] 1)).next := (Nat.le_succ_of_le ne1)
  have d7 := (((Old.refl B h).trans pe1).trans (Old.push ne1 (mkCells [(AV.int .u8 (Int.ofNat ((lebL v) % 256)))] 1)))
  obtain ⟨e8, qe8, oe8, pe8, ne8⟩ := append_ev (sz := 1) (bytes := 1) (B := B) (n := 0 + (lebH v).length) (L := u8s [] ++ u8s (lebH v)) (m := 1) (xs := [(AV.int .u8 (Int.ofNat ((lebL v) % 256)))]) call l6 f3 (fun z k => src_owned f4) (f4.len) (by omega) (by omega)
  refine ⟨e8, qe8, ?_⟩
  have f9 := (f5.old pe8)
  have d10 := (d7.trans pe8)
  have hle11 : u8s [] ++ u8s (lebH v) ++ [AV.int .u8 (Int.ofNat (lebL v % 256))] = u8s (lebH v ++ [lebL v % 256]) := by rw [u8s_one, u8s_append, u8s_append]; rfl
  have hbe11 : Bytes e8.h.next e8.h e8.v (lebH v ++ [lebL v % 256]) := Owned.bytes (hle11 ▸ oe8) (by intro x hx; rcases List.mem_append.1 hx with hx | hx; exact lebH_lt 9 v (by omega) x hx; rw [List.mem_singleton] at hx; subst hx; exact Nat.mod_lt _ (by decide)) (Nat.le_refl _)
  have hxe11 : (lebH v).length ≤ 9 := lebH_len 9 v (by omega)
  obtain ⟨ve11, he11, qe11, oe11, pe11, ne11⟩ := hput (B := e8.h.next) (Nat.le_refl _) (f9.up ne8) hbe11 (by omega) (by rw [List.length_append]; simp only [List.length_cons, List.length_nil]; omega)
  obtain ⟨e11, rfl, rfl⟩ : ∃ e : Ev, ve11 = e.v ∧ he11 = e.h := ⟨⟨ve11, .lf, he11⟩, rfl, rfl⟩
  refine ⟨e11, qe11, ?_⟩
  have f12 := (oe11.low ne8)
  have f13 := (f9.old (pe11.le ne8))
  have l14 : B ≤ e11.h.next := (Nat.le_trans ne8 ne11)
  have d15 := (d10.trans (pe11.le ne8))
  have he : lebH v ++ [lebL v % 256] = lebU v := by rw [lebU_eq, Nat.mod_eq_of_lt (Nat.lt_trans (lebL_lt v) (by decide))]
  refine ⟨?_, d15, l14⟩
  rw [← he]
  exact f12
noncomputable def rputUC : AC := (.seq (.seq (.region [⟨(some 9), .q (.move (.tmp 1)), none⟩, ⟨(some 10), .q (.bin .geq (.tmp 9) (.const (AV.int .u64 (Int.ofNat 128)))), none⟩]) (.cond (.tmp 10) .skip (.exit 0))) (.block 1 (.seq (.region [⟨(some 11), .q (.move (.tmp 5)), none⟩, ⟨(some 12), .q (.move (.tmp 1)), none⟩, ⟨(some 13), .q (.toInt .u8 (.tmp 12)), none⟩, ⟨(some 14), .q (.bin .or (.tmp 13) (.const (AV.int .u8 (Int.ofNat 128)))), none⟩, ⟨(some 15), .l (.buildSlice 1 1 [(AV.int .u8 (Int.ofNat 0))] [(0, 1, (.tmp 14))]), none⟩, ⟨(some 16), .e (.append 1 1 (.tmp 11) (.tmp 15)), none⟩, ⟨(some 5), .q (.move (.tmp 16)), none⟩]) (.region [⟨(some 17), .q (.move (.tmp 1)), none⟩, ⟨(some 18), .q (.bin .shr (.tmp 17) (.const (AV.int .u64 (Int.ofNat 7)))), none⟩, ⟨(some 1), .q (.move (.tmp 18)), none⟩]))))
theorem rputU_body {call : CallT} {N : Nat} {t : T} {h : Hp} {B n : Nat} {v : Nat} {vb vs : AV} {pre : List Nat} (hB : B ≤ h.next) (ho : Owned 1 B h vs n (u8s pre)) (hv : v < 18446744073709551616) (hn : n ≤ 2199023255552)
    {Kn : List (Option AV) → Hp → Prop} {Ke : Nat → List (Option AV) → Hp → Prop} {Kr : List (Option AV) → Hp → Prop}
    (k0 : 128 ≤ v → ∀ e8 : Ev, Owned 1 B e8.h e8.v (n + 1) ((u8s pre) ++ [(AV.int .u8 (Int.ofNat ((v % 256) ||| 128)))]) → Old B (hpush h (mkCells [(AV.int .u8 (Int.ofNat ((v % 256) ||| 128)))] 1)) e8.h → B ≤ e8.h.next → Kn [some vb, some (AV.int .u64 (Int.ofNat (v / 2 ^ 7))), some e8.v] e8.h)
    (k1 : v < 128 → Ke 0 [some vb, some (AV.int .u64 (Int.ofNat v)), some vs] h)
    : ∃ s, evC call N rputUC (ovT [(0, vb), (1, (AV.int .u64 (Int.ofNat v))), (5, vs)] t) h = s ∧ obsS [0, 1, 5] Kn Ke Kr s := by
  refine walk_ok (o := (.fork 1 (.tell 2 (AV.int .u8 (Int.ofNat (v % 256))) (.tell 0 (AV.int .u8 (Int.ofNat ((v % 256) ||| 128))) (.effx 1 (fun e8 => e8.v) (fun e8 => (.tell 2 (AV.int .u64 (Int.ofNat (v / 2 ^ 7))) .fin))))) .fin)) (p := ((notB (ltI (Int.ofNat v) (Int.ofNat 128)) = true → (evQ (.toInt .u8 (.const (AV.int .u64 (Int.ofNat v)))) .lf H0 = .ok (AV.int .u8 (Int.ofNat (v % 256))) ∧ (evQ (.bin .or (.const (AV.int .u8 (Int.ofNat (v % 256)))) (.const (AV.int .u8 (Int.ofNat 128)))) .lf H0 = .ok (AV.int .u8 (Int.ofNat ((v % 256) ||| 128))) ∧ (∃ e8 : Ev, evE (.append 1 1 (.const vs) (.const (AV.slice (Hp.next h) 0 1 1 1 true))) call .lf (hpush h (mkCells [(AV.int .u8 (Int.ofNat ((v % 256) ||| 128)))] 1)) = .ok e8.v e8.h ∧ (evQ (.bin .shr (.const (AV.int .u64 (Int.ofNat v))) (.const (AV.int .u64 (Int.ofNat 7)))) .lf H0 = .ok (AV.int .u64 (Int.ofNat (v / 2 ^ 7))) ∧ Kn [some vb, some (AV.int .u64 (Int.ofNat (v / 2 ^ 7))), some e8.v] e8.h))))) ∧ (notB (ltI (Int.ofNat v) (Int.ofNat 128)) = false → Ke 0 [some vb, some (AV.int .u64 (Int.ofNat v)), some vs] h))) (by kernel_rfl) ?_
  refine ⟨fun c1 => ?_, fun c1 => ?_⟩
  · have rc1 := c1
    replace c1 : 128 ≤ v := ltI_f (notB_t c1)
    refine ⟨u_conv rfl, ?_⟩
    have g2 : v % 256 < 256 := Nat.mod_lt _ (by decide)
    refine ⟨u_or rfl g2 (by decide), ?_⟩
    have g3 : (v % 256) ||| 128 < 256 := Nat.or_lt_two_pow (n := 8) g2 (by decide)
    have f4 := (ho.push (mkCells [(AV.int .u8 (Int.ofNat ((v % 256) ||| 128)))] 1))
    have f5 := (own_lit (sz := 1) (B := B) (n := 1) (h := h) (xs := [(AV.int .u8 (Int.ofNat ((v % 256) ||| 128)))]) hB rfl)
    have l6 : B ≤ (hpush h (mkCells [(AV.int .u8 (Int.ofNat ((v % 256) ||| 128)))] 1)).next := (Nat.le_succ_of_le hB)
    have d7 := ((Old.refl B h).trans (Old.push hB (mkCells [(AV.int .u8 (Int.ofNat ((v % 256) ||| 128)))] 1)))
    obtain ⟨e8, qe8, oe8, pe8, ne8⟩ := append_ev (sz := 1) (bytes := 1) (B := B) (n := n) (L := u8s pre) (m := 1) (xs := [(AV.int .u8 (Int.ofNat ((v % 256) ||| 128)))]) call l6 f4 (fun z k => src_owned f5) (f5.len) (by omega) (by omega)
    refine ⟨e8, qe8, ?_⟩
    have d9 := (d7.trans pe8)
    refine ⟨u_shr rfl hv, ?_⟩
    have g10 : v / 2 ^ 7 < 18446744073709551616 := Nat.lt_of_le_of_lt (Nat.div_le_self _ _) hv
    exact k0 c1 e8 oe8 pe8 ne8
  · have rc1 := c1
    replace c1 : v < 128 := ltI_t (notB_f c1)
    exact k1 c1
theorem rputU_loop {call : CallT} {N : Nat} {t : T} {h : Hp} {B n : Nat} {v0 : Nat} {vb vs : AV} {pre : List Nat} (hB : B ≤ h.next) (ho : Owned 1 B h vs n (u8s pre)) (hv : v0 < 18446744073709551616) (hn : n ≤ 1099511627777) (hN : 10 < N)
    (h0 : slots [0, 1, 5] t = [some vb, some (AV.int .u64 (.ofNat v0)), some vs]) :
    ∃ e : Ev, evC call N (.loop rputUC) t h = .exit 0 (ovT [(0, vb), (1, (AV.int .u64 (.ofNat (lebL v0)))), (5, e.v)] e.t) e.h ∧ Owned 1 B e.h e.v (n + (lebH v0).length) (u8s pre ++ u8s (lebH v0)) ∧ Old B h e.h ∧ B ≤ e.h.next := by
  refine Exists.elim (loop_ok (call := call) (N := N) (body := rputUC) [0, 1, 5]
    (fun j ls h' => ∃ v s pre' k, ls = [some vb, some (AV.int .u64 (.ofNat v)), some s] ∧ v < 128 ^ (j + 1) ∧ v < 18446744073709551616 ∧ Owned 1 B h' s k (u8s pre') ∧ k + j ≤ n + 9 ∧ k + (lebH v).length = n + (lebH v0).length ∧ pre' ++ lebH v = pre ++ lebH v0 ∧ lebL v = lebL v0 ∧ Old B h h' ∧ B ≤ h'.next)
    (fun i ls h' => i = 0 ∧ ∃ s, ls = [some vb, some (AV.int .u64 (.ofNat (lebL v0))), some s] ∧ Owned 1 B h' s (n + (lebH v0).length) (u8s (pre ++ lebH v0)) ∧ Old B h h' ∧ B ≤ h'.next)
    (fun _ _ => False) ?_ 9 (by omega) t h ⟨v0, vs, pre, n, h0, by omega, hv, ho, by omega, rfl, rfl, rfl, .refl B h, hB⟩) ?_
  rotate_left
  · rintro s ⟨e, hs⟩
    cases s with
    | no => exact hs.elim
    | nor t' h' => exact hs.elim
    | ret t' h' => exact hs.elim
    | exit i t' h' =>
      obtain ⟨rfl, s, hh, o1, p1, n1⟩ := hs
      rw [u8s_append]
      exact ⟨⟨s, t', h'⟩, e.trans (congrArg (fun t => RS.exit 0 t h') (ovT_eq (l := [(0, vb), (1, (AV.int .u64 (.ofNat (lebL v0)))), (5, s)]) hh).symm), o1, p1, n1⟩
  · rintro j t h' ⟨v, s, pre', k, hsl, hvj, hv', ho', hk, hkk, hpre, hL, hp, hnx⟩
    rw [← ovT_eq (l := [(0, vb), (1, (AV.int .u64 (.ofNat v))), (5, s)]) hsl]
    have fin : v < 128 → 0 = 0 ∧ ∃ s', [some vb, some (AV.int .u64 (.ofNat v)), some s] = [some vb, some (AV.int .u64 (.ofNat (lebL v0))), some s'] ∧ Owned 1 B h' s' (n + (lebH v0).length) (u8s (pre ++ lebH v0)) ∧ Old B h h' ∧ B ≤ h'.next := fun hlo => by
      rw [lebH_lo hlo] at hpre hkk
      rw [lebL_lo hlo] at hL
      rw [List.append_nil] at hpre
      rw [← hpre, ← hL, ← hkk]
      exact ⟨rfl, s, rfl, ho', hp, hnx⟩
    have go : ∀ e : Ev, Owned 1 B e.h e.v (k + 1) (u8s pre' ++ [AV.int .u8 (Int.ofNat (v % 256 ||| 128))]) → Old B (hpush h' (mkCells [AV.int .u8 (Int.ofNat (v % 256 ||| 128))] 1)) e.h → B ≤ e.h.next → 128 ≤ v →
        ∃ m, m < j ∧ ∃ v' s' pre'' k', [some vb, some (AV.int .u64 (.ofNat (v / 2 ^ 7))), some e.v] = [some vb, some (AV.int .u64 (.ofNat v')), some s'] ∧ v' < 128 ^ (m + 1) ∧ v' < 18446744073709551616 ∧ Owned 1 B e.h s' k' (u8s pre'') ∧ k' + m ≤ n + 9 ∧ k' + (lebH v').length = n + (lebH v0).length ∧ pre'' ++ lebH v' = pre ++ lebH v0 ∧ lebL v' = lebL v0 ∧ Old B h e.h ∧ B ≤ e.h.next := by
      intro e o' p' n' hge
      cases j with
      | zero => exact absurd hvj (by omega)
      | succ j =>
        rw [lebH_hi hge] at hpre hkk
        rw [lebL_hi hge] at hL
        have h2 : 128 ^ (j + 1 + 1) = 128 ^ (j + 1) * 128 := Nat.pow_succ _ _
        rw [h2] at hvj
        refine ⟨j, Nat.lt_succ_self _, v / 128, e.v, pre' ++ [v % 256 ||| 128], k + 1, rfl, by omega, by omega, ?_, by omega, by rw [← hkk, List.length_cons]; omega, by rw [← hpre]; simp, hL, hp.trans ((Old.push hnx _).trans p'), n'⟩
        rw [← u8s_append]; exact o'
    refine rputU_body hnx ho' hv' (by omega) ?_ ?_
    · intro c0 e o' p' n'; exact go e o' p' n' (by omega)
    · intro c0; exact fin (by omega)
theorem rputU_walk {call : CallT} {N : Nat} {h : Hp} {B : Nat} {vb : AV} {l : List Nat} {v : Nat} (hB : B ≤ h.next) (hb : Bytes B h vb l) (hlen : l.length ≤ 1099511627776) (hv : v < 18446744073709551616) (hN : 10 < N) 
    : ∃ rv rh, evF1 (progS Try.prog (compDrawn Try.prog)) N call 17 [vb, (AV.int .u64 (Int.ofNat v))] h = .ok rv rh ∧ (fun (v' : AV) (h' : Hp) => Owned 1 B h' v' (l.length + (lebU v).length) (u8s (l ++ lebU v)) ∧ Old B h h' ∧ B ≤ h'.next) rv rh := by
  have hx9 : (lebH v).length ≤ 9 := lebH_len 9 v (by omega)
  refine fwalk_ok (o := (.effx 3 (fun e5 => e5.v) (fun e5 => (.lpx 1 (fun e8 => (.exit 0 (ovT [(0, vb), (1, (AV.int .u64 (Int.ofNat (lebL v)))), (5, e8.v)] e8.t) e8.h)) (fun e8 => (.tell 2 (AV.int .u8 (Int.ofNat ((lebL v) % 256))) (.effx 1 (fun e15 => e15.v) (fun e15 => .fin)))))))) (p := (∃ e5 : Ev, evE (.append 1 1 (.const (AV.slice (Hp.next h) 0 0 0 1 true)) (.const vb)) call .lf (hpush h (mkCells [] 0)) = .ok e5.v e5.h ∧ (∃ e8 : Ev, evC call N (.loop rputUC) (ovT [(0, vb), (1, (AV.int .u64 (Int.ofNat v))), (4, AV.nilSlice), (5, e5.v), (6, (AV.slice (Hp.next h) 0 0 0 1 true)), (7, vb), (8, e5.v)] .lf) e5.h = (.exit 0 (ovT [(0, vb), (1, (AV.int .u64 (Int.ofNat (lebL v)))), (5, e8.v)] e8.t) e8.h) ∧ True ∧ (evQ (.toInt .u8 (.const (AV.int .u64 (Int.ofNat (lebL v))))) .lf H0 = .ok (AV.int .u8 (Int.ofNat ((lebL v) % 256))) ∧ (∃ e15 : Ev, evE (.append 1 1 (.const e8.v) (.const (AV.slice (Hp.next e8.h) 0 1 1 1 true))) call .lf (hpush e8.h (mkCells [(AV.int .u8 (Int.ofNat ((lebL v) % 256)))] 1)) = .ok e15.v e15.h ∧ (fun (v' : AV) (h' : Hp) => Owned 1 B h' v' (l.length + (lebU v).length) (u8s (l ++ lebU v)) ∧ Old B h h' ∧ B ≤ h'.next) e15.v e15.h))))) (by kernel_rfl) ?_
  have f1 := (own_lit (sz := 1) (B := B) (n := 0) (h := h) (xs := []) hB rfl)
  have f2 := (hb.old (Old.push hB (mkCells [] 0)))
  have l3 : B ≤ (hpush h (mkCells [] 0)).next := (Nat.le_succ_of_le hB)
  have d4 := ((Old.refl B h).trans (Old.push hB (mkCells [] 0)))
  obtain ⟨e5, qe5, oe5, pe5, ne5⟩ := append_ev (sz := 1) (bytes := 1) (B := B) (n := 0) (L := []) (m := l.length) (xs := u8s l) call l3 f1 (fun z k => src_bytes f2 z k) (u8s_len1 _) (by omega) (by omega)
  refine ⟨e5, qe5, ?_⟩
  have f6 := (f2.old pe5)
  have d7 := (d4.trans pe5)
  obtain ⟨e8, qe8, oe8, pe8, ne8⟩ := rputU_loop (N := N) (call := call) (t := ovT [(0, vb), (1, (AV.int .u64 (Int.ofNat v))), (4, AV.nilSlice), (5, e5.v), (6, (AV.slice (Hp.next h) 0 0 0 1 true)), (7, vb), (8, e5.v)] .lf) (n := 0 + l.length) (pre := l) ne5 (by simpa using oe5) hv (by omega) hN (by kernel_rfl)
  refine ⟨e8, qe8, trivial, ?_⟩
  refine ⟨u_conv rfl, ?_⟩
  have g9 : (lebL v) % 256 < 256 := Nat.mod_lt _ (by decide)
  have f10 := (oe8.push (mkCells [(AV.int .u8 (Int.ofNat ((lebL v) % 256)))] 1))
  have f11 := (own_lit (sz := 1) (B := B) (n := 1) (h := e8.h) (xs := [(AV.int .u8 (Int.ofNat ((lebL v) % 256)))]) ne8 rfl)
  have f12 := ((f6.old pe8).old (Old.push ne8 (mkCells [(AV.int .u8 (Int.ofNat ((lebL v) % 256)))] 1)))
  have l13 : B ≤ (hpush e8.h (mkCells [(AV.int .u8 (Int.ofNat ((lebL v) % 256)))] 1)).next := (Nat.le_succ_of_le ne8)
  have d14 := ((d7.trans pe8).trans (Old.push ne8 (mkCells [(AV.int .u8 (Int.ofNat ((lebL v) % 256)))] 1)))
  obtain ⟨e15, qe15, oe15, pe15, ne15⟩ := append_ev (sz := 1) (bytes := 1) (B := B) (n := (0 + l.length) + (lebH v).length) (L := u8s l ++ u8s (lebH v)) (m := 1) (xs := [(AV.int .u8 (Int.ofNat ((lebL v) % 256)))]) call l13 f10 (fun z k => src_owned f11) (f11.len) (by omega) (by omega)
  refine ⟨e15, qe15, ?_⟩
  have f16 := (f12.old pe15)
  have d17 := (d14.trans pe15)
  have he : lebH v ++ [lebL v % 256] = lebU v := by rw [lebU_eq, Nat.mod_eq_of_lt (Nat.lt_trans (lebL_lt v) (by decide))]
  refine ⟨?_, d17, ne15⟩
  rw [← he, ← List.append_assoc, ← u8s_append, ← u8s_append, List.length_append, ← Nat.add_assoc]
  have hz := oe15
  rw [Nat.zero_add] at hz
  exact hz
noncomputable def putSC : AC := (.seq (.seq (.region [⟨(some 6), .q (.move (.tmp 1)), none⟩, ⟨(some 7), .q (.bin .lss (.tmp 6) (.const (AV.int .i64 (Int.negSucc 63)))), none⟩, ⟨(some 8), .q (.move (.tmp 7)), none⟩, ⟨(some 9), .q (.move (.tmp 1)), (some (8, false))⟩, ⟨(some 10), .q (.bin .geq (.tmp 9) (.const (AV.int .i64 (Int.ofNat 64)))), (some (8, false))⟩, ⟨(some 11), .q (.pick (.tmp 8) (.const (AV.bool true)) (.tmp 10)), none⟩]) (.cond (.tmp 11) .skip (.exit 0))) (.block 1 (.seq (.region [⟨(some 12), .q (.move (.tmp 5)), none⟩, ⟨(some 13), .q (.move (.tmp 1)), none⟩, ⟨(some 14), .q (.toInt .u8 (.tmp 13)), none⟩, ⟨(some 15), .q (.bin .or (.tmp 14) (.const (AV.int .u8 (Int.ofNat 128)))), none⟩, ⟨(some 16), .l (.buildSlice 1 1 [(AV.int .u8 (Int.ofNat 0))] [(0, 1, (.tmp 15))]), none⟩, ⟨(some 17), .e (.append 1 1 (.tmp 12) (.tmp 16)), none⟩, ⟨(some 5), .q (.move (.tmp 17)), none⟩]) (.region [⟨(some 18), .q (.move (.tmp 1)), none⟩, ⟨(some 19), .q (.bin .shr (.tmp 18) (.const (AV.int .u64 (Int.ofNat 7)))), none⟩, ⟨(some 1), .q (.move (.tmp 19)), none⟩]))))
theorem putS_body {call : CallT} {N : Nat} {t : T} {h : Hp} {B n : Nat} {v : Int} {vb vs : AV} {pre : List Nat} (hB : B ≤ h.next) (ho : Owned 1 B h vs n (u8s pre)) (hv : (-9223372036854775808 ≤ v ∧ v < 9223372036854775808)) (hn : n ≤ 2199023255552)
    {Kn : List (Option AV) → Hp → Prop} {Ke : Nat → List (Option AV) → Hp → Prop} {Kr : List (Option AV) → Hp → Prop}
    (k0 : v < -64 → ∀ e8 : Ev, Owned 1 B e8.h e8.v (n + 1) ((u8s pre) ++ [(AV.int .u8 (Int.ofNat (((v % 256).toNat) ||| 128)))]) → Old B (hpush h (mkCells [(AV.int .u8 (Int.ofNat (((v % 256).toNat) ||| 128)))] 1)) e8.h → B ≤ e8.h.next → Kn [some vb, some (AV.int .i64 (v / 2 ^ 7)), some e8.v] e8.h)
    (k1 : -64 ≤ v → 64 ≤ v → ∀ e9 : Ev, Owned 1 B e9.h e9.v (n + 1) ((u8s pre) ++ [(AV.int .u8 (Int.ofNat (((v % 256).toNat) ||| 128)))]) → Old B (hpush h (mkCells [(AV.int .u8 (Int.ofNat (((v % 256).toNat) ||| 128)))] 1)) e9.h → B ≤ e9.h.next → Kn [some vb, some (AV.int .i64 (v / 2 ^ 7)), some e9.v] e9.h)
    (k2 : -64 ≤ v → v < 64 → Ke 0 [some vb, some (AV.int .i64 v), some vs] h)
    : ∃ s, evC call N putSC (ovT [(0, vb), (1, (AV.int .i64 v)), (5, vs)] t) h = s ∧ obsS [0, 1, 5] Kn Ke Kr s := by
  refine walk_ok (o := (.fork 2 (.tell 3 (AV.int .u8 (Int.ofNat ((v % 256).toNat))) (.tell 0 (AV.int .u8 (Int.ofNat (((v % 256).toNat) ||| 128))) (.effx 1 (fun e8 => e8.v) (fun e8 => (.tell 2 (AV.int .i64 (v / 2 ^ 7)) .fin))))) (.fork 2 (.tell 2 (AV.int .u8 (Int.ofNat ((v % 256).toNat))) (.tell 0 (AV.int .u8 (Int.ofNat (((v % 256).toNat) ||| 128))) (.effx 1 (fun e9 => e9.v) (fun e9 => (.tell 2 (AV.int .i64 (v / 2 ^ 7)) .fin))))) .fin))) (p := ((ltI v (Int.negSucc 63) = true → (evQ (.toInt .u8 (.const (AV.int .i64 v))) .lf H0 = .ok (AV.int .u8 (Int.ofNat ((v % 256).toNat))) ∧ (evQ (.bin .or (.const (AV.int .u8 (Int.ofNat ((v % 256).toNat)))) (.const (AV.int .u8 (Int.ofNat 128)))) .lf H0 = .ok (AV.int .u8 (Int.ofNat (((v % 256).toNat) ||| 128))) ∧ (∃ e8 : Ev, evE (.append 1 1 (.const vs) (.const (AV.slice (Hp.next h) 0 1 1 1 true))) call .lf (hpush h (mkCells [(AV.int .u8 (Int.ofNat (((v % 256).toNat) ||| 128)))] 1)) = .ok e8.v e8.h ∧ (evQ (.bin .shr (.const (AV.int .i64 v)) (.const (AV.int .u64 (Int.ofNat 7)))) .lf H0 = .ok (AV.int .i64 (v / 2 ^ 7)) ∧ Kn [some vb, some (AV.int .i64 (v / 2 ^ 7)), some e8.v] e8.h))))) ∧ (ltI v (Int.negSucc 63) = false → ((notB (ltI v (Int.ofNat 64)) = true → (evQ (.toInt .u8 (.const (AV.int .i64 v))) .lf H0 = .ok (AV.int .u8 (Int.ofNat ((v % 256).toNat))) ∧ (evQ (.bin .or (.const (AV.int .u8 (Int.ofNat ((v % 256).toNat)))) (.const (AV.int .u8 (Int.ofNat 128)))) .lf H0 = .ok (AV.int .u8 (Int.ofNat (((v % 256).toNat) ||| 128))) ∧ (∃ e9 : Ev, evE (.append 1 1 (.const vs) (.const (AV.slice (Hp.next h) 0 1 1 1 true))) call .lf (hpush h (mkCells [(AV.int .u8 (Int.ofNat (((v % 256).toNat) ||| 128)))] 1)) = .ok e9.v e9.h ∧ (evQ (.bin .shr (.const (AV.int .i64 v)) (.const (AV.int .u64 (Int.ofNat 7)))) .lf H0 = .ok (AV.int .i64 (v / 2 ^ 7)) ∧ Kn [some vb, some (AV.int .i64 (v / 2 ^ 7)), some e9.v] e9.h))))) ∧ (notB (ltI v (Int.ofNat 64)) = false → Ke 0 [some vb, some (AV.int .i64 v), some vs] h))))) (by kernel_rfl) ?_
  refine ⟨fun c1 => ?_, fun c1 => ?_⟩
  · have rc1 := c1
    replace c1 : v < -64 := ltI_T c1
    refine ⟨s_conv rfl, ?_⟩
    have g2 : (v % 256).toNat < 256 := by omega
    refine ⟨u_or rfl g2 (by decide), ?_⟩
    have g3 : ((v % 256).toNat) ||| 128 < 256 := Nat.or_lt_two_pow (n := 8) g2 (by decide)
    have f4 := (ho.push (mkCells [(AV.int .u8 (Int.ofNat (((v % 256).toNat) ||| 128)))] 1))
    have f5 := (own_lit (sz := 1) (B := B) (n := 1) (h := h) (xs := [(AV.int .u8 (Int.ofNat (((v % 256).toNat) ||| 128)))]) hB rfl)
    have l6 : B ≤ (hpush h (mkCells [(AV.int .u8 (Int.ofNat (((v % 256).toNat) ||| 128)))] 1)).next := (Nat.le_succ_of_le hB)
    have d7 := ((Old.refl B h).trans (Old.push hB (mkCells [(AV.int .u8 (Int.ofNat (((v % 256).toNat) ||| 128)))] 1)))
    obtain ⟨e8, qe8, oe8, pe8, ne8⟩ := append_ev (sz := 1) (bytes := 1) (B := B) (n := n) (L := u8s pre) (m := 1) (xs := [(AV.int .u8 (Int.ofNat (((v % 256).toNat) ||| 128)))]) call l6 f4 (fun z k => src_owned f5) (f5.len) (by omega) (by omega)
    refine ⟨e8, qe8, ?_⟩
    have d9 := (d7.trans pe8)
    refine ⟨i_shr (by decide), ?_⟩
    exact k0 c1 e8 oe8 pe8 ne8
  · have rc1 := c1
    replace c1 : -64 ≤ v := ltI_F c1
    refine ⟨fun c2 => ?_, fun c2 => ?_⟩
    · have rc2 := c2
      replace c2 : 64 ≤ v := ltI_F (notB_t c2)
      refine ⟨s_conv rfl, ?_⟩
      have g3 : (v % 256).toNat < 256 := by omega
      refine ⟨u_or rfl g3 (by decide), ?_⟩
      have g4 : ((v % 256).toNat) ||| 128 < 256 := Nat.or_lt_two_pow (n := 8) g3 (by decide)
      have f5 := (ho.push (mkCells [(AV.int .u8 (Int.ofNat (((v % 256).toNat) ||| 128)))] 1))
      have f6 := (own_lit (sz := 1) (B := B) (n := 1) (h := h) (xs := [(AV.int .u8 (Int.ofNat (((v % 256).toNat) ||| 128)))]) hB rfl)
      have l7 : B ≤ (hpush h (mkCells [(AV.int .u8 (Int.ofNat (((v % 256).toNat) ||| 128)))] 1)).next := (Nat.le_succ_of_le hB)
      have d8 := ((Old.refl B h).trans (Old.push hB (mkCells [(AV.int .u8 (Int.ofNat (((v % 256).toNat) ||| 128)))] 1)))
      obtain ⟨e9, qe9, oe9, pe9, ne9⟩ := append_ev (sz := 1) (bytes := 1) (B := B) (n := n) (L := u8s pre) (m := 1) (xs := [(AV.int .u8 (Int.ofNat (((v % 256).toNat) ||| 128)))]) call l7 f5 (fun z k => src_owned f6) (f6.len) (by omega) (by omega)
      refine ⟨e9, qe9, ?_⟩
      have d10 := (d8.trans pe9)
      refine ⟨i_shr (by decide), ?_⟩
      exact k1 c1 c2 e9 oe9 pe9 ne9
    · have rc2 := c2
      replace c2 : v < 64 := ltI_T (notB_f c2)
      exact k2 c1 c2
theorem putS_loop {call : CallT} {N : Nat} {t : T} {h : Hp} {B n : Nat} {v0 : Int} {vb vs : AV} {pre : List Nat} (hB : B ≤ h.next) (ho : Owned 1 B h vs n (u8s pre)) (hv : (-9223372036854775808 ≤ v0 ∧ v0 < 9223372036854775808)) (hn : n ≤ 1099511627777) (hN : 10 < N)
    (h0 : slots [0, 1, 5] t = [some vb, some (AV.int .i64 v0), some vs]) :
    ∃ e : Ev, evC call N (.loop putSC) t h = .exit 0 (ovT [(0, vb), (1, (AV.int .i64 (sebL v0))), (5, e.v)] e.t) e.h ∧ Owned 1 B e.h e.v (n + (sebH v0).length) (u8s pre ++ u8s (sebH v0)) ∧ Old B h e.h ∧ B ≤ e.h.next := by
  refine Exists.elim (loop_ok (call := call) (N := N) (body := putSC) [0, 1, 5]
    (fun j ls h' => ∃ v s pre' k, ls = [some vb, some (AV.int .i64 v), some s] ∧ (-(64 * 128 ^ (j)) ≤ v ∧ v < 64 * 128 ^ (j)) ∧ (-9223372036854775808 ≤ v ∧ v < 9223372036854775808) ∧ Owned 1 B h' s k (u8s pre') ∧ k + j ≤ n + 9 ∧ k + (sebH v).length = n + (sebH v0).length ∧ pre' ++ sebH v = pre ++ sebH v0 ∧ sebL v = sebL v0 ∧ Old B h h' ∧ B ≤ h'.next)
    (fun i ls h' => i = 0 ∧ ∃ s, ls = [some vb, some (AV.int .i64 (sebL v0)), some s] ∧ Owned 1 B h' s (n + (sebH v0).length) (u8s (pre ++ sebH v0)) ∧ Old B h h' ∧ B ≤ h'.next)
    (fun _ _ => False) ?_ 9 (by omega) t h ⟨v0, vs, pre, n, h0, by constructor <;> omega, hv, ho, by omega, rfl, rfl, rfl, .refl B h, hB⟩) ?_
  rotate_left
  · rintro s ⟨e, hs⟩
    cases s with
    | no => exact hs.elim
    | nor t' h' => exact hs.elim
    | ret t' h' => exact hs.elim
    | exit i t' h' =>
      obtain ⟨rfl, s, hh, o1, p1, n1⟩ := hs
      rw [u8s_append]
      exact ⟨⟨s, t', h'⟩, e.trans (congrArg (fun t => RS.exit 0 t h') (ovT_eq (l := [(0, vb), (1, (AV.int .i64 (sebL v0))), (5, s)]) hh).symm), o1, p1, n1⟩
  · rintro j t h' ⟨v, s, pre', k, hsl, hvj, hv', ho', hk, hkk, hpre, hL, hp, hnx⟩
    rw [← ovT_eq (l := [(0, vb), (1, (AV.int .i64 v)), (5, s)]) hsl]
    have fin : sIn v → 0 = 0 ∧ ∃ s', [some vb, some (AV.int .i64 v), some s] = [some vb, some (AV.int .i64 (sebL v0)), some s'] ∧ Owned 1 B h' s' (n + (sebH v0).length) (u8s (pre ++ sebH v0)) ∧ Old B h h' ∧ B ≤ h'.next := fun hlo => by
      rw [sebH_lo hlo] at hpre hkk
      rw [sebL_lo hlo] at hL
      rw [List.append_nil] at hpre
      rw [← hpre, ← hL, ← hkk]
      exact ⟨rfl, s, rfl, ho', hp, hnx⟩
    have go : ∀ e : Ev, Owned 1 B e.h e.v (k + 1) (u8s pre' ++ [AV.int .u8 (Int.ofNat ((v % 256).toNat ||| 128))]) → Old B (hpush h' (mkCells [AV.int .u8 (Int.ofNat ((v % 256).toNat ||| 128))] 1)) e.h → B ≤ e.h.next → ¬ sIn v →
        ∃ m, m < j ∧ ∃ v' s' pre'' k', [some vb, some (AV.int .i64 (v / 2 ^ 7)), some e.v] = [some vb, some (AV.int .i64 v'), some s'] ∧ (-(64 * 128 ^ (m)) ≤ v' ∧ v' < 64 * 128 ^ (m)) ∧ (-9223372036854775808 ≤ v' ∧ v' < 9223372036854775808) ∧ Owned 1 B e.h s' k' (u8s pre'') ∧ k' + m ≤ n + 9 ∧ k' + (sebH v').length = n + (sebH v0).length ∧ pre'' ++ sebH v' = pre ++ sebH v0 ∧ sebL v' = sebL v0 ∧ Old B h e.h ∧ B ≤ e.h.next := by
      intro e o' p' n' hge
      cases j with
      | zero => exact absurd hvj (by unfold sIn at hge; omega)
      | succ j =>
        rw [sebH_hi hge] at hpre hkk
        rw [sebL_hi hge] at hL
        have h2 : (128 : Int) ^ (j + 1) = 128 ^ j * 128 := Int.pow_succ _ _
        rw [h2] at hvj
        refine ⟨j, Nat.lt_succ_self _, v / 128, e.v, pre' ++ [(v % 256).toNat ||| 128], k + 1, rfl, by omega, by omega, ?_, by omega, by rw [← hkk, List.length_cons]; omega, by rw [← hpre]; simp, hL, hp.trans ((Old.push hnx _).trans p'), n'⟩
        rw [← u8s_append]; exact o'
    refine putS_body hnx ho' hv' (by omega) ?_ ?_ ?_
    · intro c0 e o' p' n'; exact go e o' p' n' (by unfold sIn; omega)
    · intro c0 c1 e o' p' n'; exact go e o' p' n' (by unfold sIn; omega)
    · intro c0 c1; exact fin (by unfold sIn; omega)
theorem putS_walk {call : CallT} {N : Nat} {h : Hp} {B : Nat} {vb : AV} {l : List Nat} {v : Int} (hB : B ≤ h.next) (hb : Bytes B h vb l) (hlen : l.length ≤ 1099511627776) (hv : (-9223372036854775808 ≤ v ∧ v < 9223372036854775808)) (hN : 10 < N) (hput : ∀ {B : Nat} {h : Hp} {vb vl : AV} {l m : List Nat}, B ≤ h.next → Bytes B h vb l → Bytes B h vl m → l.length ≤ 1099511627776 → m.length ≤ 1099511627776 → ∃ v h', call 55 [vb, vl] h = .ok v h' ∧ Owned 1 B h' v (l.length + m.length) (u8s (l ++ m)) ∧ Old B h h' ∧ B ≤ h'.next)
    : ∃ rv rh, evF1 (progS Try.prog (compDrawn Try.prog)) N call 18 [vb, (AV.int .i64 v)] h = .ok rv rh ∧ (fun (v' : AV) (h' : Hp) => Owned 1 B h' v' (l.length + (lebS v).length) (u8s (l ++ lebS v)) ∧ Old B h h' ∧ B ≤ h'.next) rv rh := by
  have hx9 : (sebH v).length ≤ 9 := sebH_len 9 v (by constructor <;> omega)
  refine fwalk_ok (o := (.lpx 2 (fun e1 => (.exit 0 (ovT [(0, vb), (1, (AV.int .i64 (sebL v))), (5, e1.v)] e1.t) e1.h)) (fun e1 => (.tell 3 (AV.int .u8 (Int.ofNat (((sebL v) % 256).toNat))) (.tell 0 (AV.int .u8 (Int.ofNat ((((sebL v) % 256).toNat) &&& 127))) (.effx 1 (fun e9 => e9.v) (fun e9 => (.effx 0 (fun e12 => e12.v) (fun e12 => .fin))))))))) (p := (∃ e1 : Ev, evC call N (.loop putSC) (ovT [(0, vb), (1, (AV.int .i64 v)), (4, AV.nilSlice), (5, AV.nilSlice)] .lf) h = (.exit 0 (ovT [(0, vb), (1, (AV.int .i64 (sebL v))), (5, e1.v)] e1.t) e1.h) ∧ True ∧ (evQ (.toInt .u8 (.const (AV.int .i64 (sebL v)))) .lf H0 = .ok (AV.int .u8 (Int.ofNat (((sebL v) % 256).toNat))) ∧ (evQ (.bin .and (.const (AV.int .u8 (Int.ofNat (((sebL v) % 256).toNat)))) (.const (AV.int .u8 (Int.ofNat 127)))) .lf H0 = .ok (AV.int .u8 (Int.ofNat ((((sebL v) % 256).toNat) &&& 127))) ∧ (∃ e9 : Ev, evE (.append 1 1 (.const e1.v) (.const (AV.slice (Hp.next e1.h) 0 1 1 1 true))) call .lf (hpush e1.h (mkCells [(AV.int .u8 (Int.ofNat ((((sebL v) % 256).toNat) &&& 127)))] 1)) = .ok e9.v e9.h ∧ (∃ e12 : Ev, call 55 [vb, e9.v] e9.h = .ok e12.v e12.h ∧ (fun (v' : AV) (h' : Hp) => Owned 1 B h' v' (l.length + (lebS v).length) (u8s (l ++ lebS v)) ∧ Old B h h' ∧ B ≤ h'.next) e12.v e12.h)))))) (by kernel_rfl) ?_
  obtain ⟨e1, qe1, oe1, pe1, ne1⟩ := putS_loop (N := N) (call := call) (t := ovT [(0, vb), (1, (AV.int .i64 v)), (4, AV.nilSlice), (5, AV.nilSlice)] .lf) (n := 0) (pre := []) hB Owned.nil hv (by omega) hN (by kernel_rfl)
  refine ⟨e1, qe1, trivial, ?_⟩
  refine ⟨s_conv rfl, ?_⟩
  have g2 : ((sebL v) % 256).toNat < 256 := by omega
  refine ⟨u_and rfl g2 (by decide), ?_⟩
  have g3 : (((sebL v) % 256).toNat) &&& 127 < 256 := Nat.lt_of_le_of_lt Nat.and_le_left g2
  have f4 := (oe1.push (mkCells [(AV.int .u8 (Int.ofNat ((((sebL v) % 256).toNat) &&& 127)))] 1))
  have f5 := (own_lit (sz := 1) (B := B) (n := 1) (h := e1.h) (xs := [(AV.int .u8 (Int.ofNat ((((sebL v) % 256).toNat) &&& 127)))]) ne1 rfl)
  have f6 := ((hb.old pe1).old (Old.push ne1 (mkCells [(AV.int .u8 (Int.ofNat ((((sebL v) % 256).toNat) &&& 127)))] 1)))
  have l7 : B ≤ (hpush e1.h (mkCells [(AV.int .u8 (Int.ofNat ((((sebL v) % 256).toNat) &&& 127)))] 1)).next := (Nat.le_succ_of_le ne1)
  have d8 := (((Old.refl B h).trans pe1).trans (Old.push ne1 (mkCells [(AV.int .u8 (Int.ofNat ((((sebL v) % 256).toNat) &&& 127)))] 1)))
  obtain ⟨e9, qe9, oe9, pe9, ne9⟩ := append_ev (sz := 1) (bytes := 1) (B := B) (n := 0 + (sebH v).length) (L := u8s [] ++ u8s (sebH v)) (m := 1) (xs := [(AV.int .u8 (Int.ofNat ((((sebL v) % 256).toNat) &&& 127)))]) call l7 f4 (fun z k => src_owned f5) (f5.len) (by omega) (by omega)
  refine ⟨e9, qe9, ?_⟩
  have f10 := (f6.old pe9)
  have d11 := (d8.trans pe9)
  have hle12 : u8s [] ++ u8s (sebH v) ++ [AV.int .u8 (Int.ofNat ((sebL v % 256).toNat &&& 127))] = u8s (sebH v ++ [(sebL v % 256).toNat &&& 127]) := by rw [u8s_one, u8s_append, u8s_append]; rfl
  have hbe12 : Bytes e9.h.next e9.h e9.v (sebH v ++ [(sebL v % 256).toNat &&& 127]) := Owned.bytes (hle12 ▸ oe9) (by intro x hx; rcases List.mem_append.1 hx with hx | hx; exact sebH_lt 9 v (by constructor <;> omega) x hx; rw [List.mem_singleton] at hx; subst hx; exact Nat.lt_of_le_of_lt Nat.and_le_left (by omega)) (Nat.le_refl _)
  have hxe12 : (sebH v).length ≤ 9 := sebH_len 9 v (by constructor <;> omega)
  obtain ⟨ve12, he12, qe12, oe12, pe12, ne12⟩ := hput (B := e9.h.next) (Nat.le_refl _) (f10.up ne9) hbe12 (by omega) (by rw [List.length_append]; simp only [List.length_cons, List.length_nil]; omega)
  obtain ⟨e12, rfl, rfl⟩ : ∃ e : Ev, ve12 = e.v ∧ he12 = e.h := ⟨⟨ve12, .lf, he12⟩, rfl, rfl⟩
  refine ⟨e12, qe12, ?_⟩
  have f13 := (oe12.low ne9)
  have f14 := (f10.old (pe12.le ne9))
  have l15 : B ≤ e12.h.next := (Nat.le_trans ne9 ne12)
  have d16 := (d11.trans (pe12.le ne9))
  have he : sebH v ++ [(sebL v % 256).toNat &&& 127] = lebS v := rfl
  refine ⟨?_, d16, l15⟩
  rw [← he]
  exact f13
noncomputable def rputSC : AC := (.seq (.seq (.region [⟨(some 9), .q (.move (.tmp 1)), none⟩, ⟨(some 10), .q (.bin .lss (.tmp 9) (.const (AV.int .i64 (Int.negSucc 63)))), none⟩, ⟨(some 11), .q (.move (.tmp 10)), none⟩, ⟨(some 12), .q (.move (.tmp 1)), (some (11, false))⟩, ⟨(some 13), .q (.bin .gtr (.tmp 12) (.const (AV.int .i64 (Int.ofNat 63)))), (some (11, false))⟩, ⟨(some 14), .q (.pick (.tmp 11) (.const (AV.bool true)) (.tmp 13)), none⟩]) (.cond (.tmp 14) .skip (.exit 0))) (.block 1 (.seq (.region [⟨(some 15), .q (.move (.tmp 5)), none⟩, ⟨(some 16), .q (.move (.tmp 1)), none⟩, ⟨(some 17), .q (.toInt .u8 (.tmp 16)), none⟩, ⟨(some 18), .q (.bin .or (.tmp 17) (.const (AV.int .u8 (Int.ofNat 128)))), none⟩, ⟨(some 19), .l (.buildSlice 1 1 [(AV.int .u8 (Int.ofNat 0))] [(0, 1, (.tmp 18))]), none⟩, ⟨(some 20), .e (.append 1 1 (.tmp 15) (.tmp 19)), none⟩, ⟨(some 5), .q (.move (.tmp 20)), none⟩]) (.region [⟨(some 21), .q (.move (.tmp 1)), none⟩, ⟨(some 22), .q (.bin .shr (.tmp 21) (.const (AV.int .u64 (Int.ofNat 7)))), none⟩, ⟨(some 1), .q (.move (.tmp 22)), none⟩]))))
theorem rputS_body {call : CallT} {N : Nat} {t : T} {h : Hp} {B n : Nat} {v : Int} {vb vs : AV} {pre : List Nat} (hB : B ≤ h.next) (ho : Owned 1 B h vs n (u8s pre)) (hv : (-9223372036854775808 ≤ v ∧ v < 9223372036854775808)) (hn : n ≤ 2199023255552)
    {Kn : List (Option AV) → Hp → Prop} {Ke : Nat → List (Option AV) → Hp → Prop} {Kr : List (Option AV) → Hp → Prop}
    (k0 : v < -64 → ∀ e8 : Ev, Owned 1 B e8.h e8.v (n + 1) ((u8s pre) ++ [(AV.int .u8 (Int.ofNat (((v % 256).toNat) ||| 128)))]) → Old B (hpush h (mkCells [(AV.int .u8 (Int.ofNat (((v % 256).toNat) ||| 128)))] 1)) e8.h → B ≤ e8.h.next → Kn [some vb, some (AV.int .i64 (v / 2 ^ 7)), some e8.v] e8.h)
    (k1 : -64 ≤ v → 63 < v → ∀ e9 : Ev, Owned 1 B e9.h e9.v (n + 1) ((u8s pre) ++ [(AV.int .u8 (Int.ofNat (((v % 256).toNat) ||| 128)))]) → Old B (hpush h (mkCells [(AV.int .u8 (Int.ofNat (((v % 256).toNat) ||| 128)))] 1)) e9.h → B ≤ e9.h.next → Kn [some vb, some (AV.int .i64 (v / 2 ^ 7)), some e9.v] e9.h)
    (k2 : -64 ≤ v → v ≤ 63 → Ke 0 [some vb, some (AV.int .i64 v), some vs] h)
    : ∃ s, evC call N rputSC (ovT [(0, vb), (1, (AV.int .i64 v)), (5, vs)] t) h = s ∧ obsS [0, 1, 5] Kn Ke Kr s := by
  refine walk_ok (o := (.fork 2 (.tell 3 (AV.int .u8 (Int.ofNat ((v % 256).toNat))) (.tell 0 (AV.int .u8 (Int.ofNat (((v % 256).toNat) ||| 128))) (.effx 1 (fun e8 => e8.v) (fun e8 => (.tell 2 (AV.int .i64 (v / 2 ^ 7)) .fin))))) (.fork 2 (.tell 2 (AV.int .u8 (Int.ofNat ((v % 256).toNat))) (.tell 0 (AV.int .u8 (Int.ofNat (((v % 256).toNat) ||| 128))) (.effx 1 (fun e9 => e9.v) (fun e9 => (.tell 2 (AV.int .i64 (v / 2 ^ 7)) .fin))))) .fin))) (p := ((ltI v (Int.negSucc 63) = true → (evQ (.toInt .u8 (.const (AV.int .i64 v))) .lf H0 = .ok (AV.int .u8 (Int.ofNat ((v % 256).toNat))) ∧ (evQ (.bin .or (.const (AV.int .u8 (Int.ofNat ((v % 256).toNat)))) (.const (AV.int .u8 (Int.ofNat 128)))) .lf H0 = .ok (AV.int .u8 (Int.ofNat (((v % 256).toNat) ||| 128))) ∧ (∃ e8 : Ev, evE (.append 1 1 (.const vs) (.const (AV.slice (Hp.next h) 0 1 1 1 true))) call .lf (hpush h (mkCells [(AV.int .u8 (Int.ofNat (((v % 256).toNat) ||| 128)))] 1)) = .ok e8.v e8.h ∧ (evQ (.bin .shr (.const (AV.int .i64 v)) (.const (AV.int .u64 (Int.ofNat 7)))) .lf H0 = .ok (AV.int .i64 (v / 2 ^ 7)) ∧ Kn [some vb, some (AV.int .i64 (v / 2 ^ 7)), some e8.v] e8.h))))) ∧ (ltI v (Int.negSucc 63) = false → ((ltI (Int.ofNat 63) v = true → (evQ (.toInt .u8 (.const (AV.int .i64 v))) .lf H0 = .ok (AV.int .u8 (Int.ofNat ((v % 256).toNat))) ∧ (evQ (.bin .or (.const (AV.int .u8 (Int.ofNat ((v % 256).toNat)))) (.const (AV.int .u8 (Int.ofNat 128)))) .lf H0 = .ok (AV.int .u8 (Int.ofNat (((v % 256).toNat) ||| 128))) ∧ (∃ e9 : Ev, evE (.append 1 1 (.const vs) (.const (AV.slice (Hp.next h) 0 1 1 1 true))) call .lf (hpush h (mkCells [(AV.int .u8 (Int.ofNat (((v % 256).toNat) ||| 128)))] 1)) = .ok e9.v e9.h ∧ (evQ (.bin .shr (.const (AV.int .i64 v)) (.const (AV.int .u64 (Int.ofNat 7)))) .lf H0 = .ok (AV.int .i64 (v / 2 ^ 7)) ∧ Kn [some vb, some (AV.int .i64 (v / 2 ^ 7)), some e9.v] e9.h))))) ∧ (ltI (Int.ofNat 63) v = false → Ke 0 [some vb, some (AV.int .i64 v), some vs] h))))) (by kernel_rfl) ?_
  refine ⟨fun c1 => ?_, fun c1 => ?_⟩
  · have rc1 := c1
    replace c1 : v < -64 := ltI_T c1
    refine ⟨s_conv rfl, ?_⟩
    have g2 : (v % 256).toNat < 256 := by omega
    refine ⟨u_or rfl g2 (by decide), ?_⟩
    have g3 : ((v % 256).toNat) ||| 128 < 256 := Nat.or_lt_two_pow (n := 8) g2 (by decide)
    have f4 := (ho.push (mkCells [(AV.int .u8 (Int.ofNat (((v % 256).toNat) ||| 128)))] 1))
    have f5 := (own_lit (sz := 1) (B := B) (n := 1) (h := h) (xs := [(AV.int .u8 (Int.ofNat (((v % 256).toNat) ||| 128)))]) hB rfl)
    have l6 : B ≤ (hpush h (mkCells [(AV.int .u8 (Int.ofNat (((v % 256).toNat) ||| 128)))] 1)).next := (Nat.le_succ_of_le hB)
    have d7 := ((Old.refl B h).trans (Old.push hB (mkCells [(AV.int .u8 (Int.ofNat (((v % 256).toNat) ||| 128)))] 1)))
    obtain ⟨e8, qe8, oe8, pe8, ne8⟩ := append_ev (sz := 1) (bytes := 1) (B := B) (n := n) (L := u8s pre) (m := 1) (xs := [(AV.int .u8 (Int.ofNat (((v % 256).toNat) ||| 128)))]) call l6 f4 (fun z k => src_owned f5) (f5.len) (by omega) (by omega)
    refine ⟨e8, qe8, ?_⟩
    have d9 := (d7.trans pe8)
    refine ⟨i_shr (by decide), ?_⟩
    exact k0 c1 e8 oe8 pe8 ne8
  · have rc1 := c1
    replace c1 : -64 ≤ v := ltI_F c1
    refine ⟨fun c2 => ?_, fun c2 => ?_⟩
    · have rc2 := c2
      replace c2 : 63 < v := ltI_T c2
      refine ⟨s_conv rfl, ?_⟩
      have g3 : (v % 256).toNat < 256 := by omega
      refine ⟨u_or rfl g3 (by decide), ?_⟩
      have g4 : ((v % 256).toNat) ||| 128 < 256 := Nat.or_lt_two_pow (n := 8) g3 (by decide)
      have f5 := (ho.push (mkCells [(AV.int .u8 (Int.ofNat (((v % 256).toNat) ||| 128)))] 1))
      have f6 := (own_lit (sz := 1) (B := B) (n := 1) (h := h) (xs := [(AV.int .u8 (Int.ofNat (((v % 256).toNat) ||| 128)))]) hB rfl)
      have l7 : B ≤ (hpush h (mkCells [(AV.int .u8 (Int.ofNat (((v % 256).toNat) ||| 128)))] 1)).next := (Nat.le_succ_of_le hB)
      have d8 := ((Old.refl B h).trans (Old.push hB (mkCells [(AV.int .u8 (Int.ofNat (((v % 256).toNat) ||| 128)))] 1)))
      obtain ⟨e9, qe9, oe9, pe9, ne9⟩ := append_ev (sz := 1) (bytes := 1) (B := B) (n := n) (L := u8s pre) (m := 1) (xs := [(AV.int .u8 (Int.ofNat (((v % 256).toNat) ||| 128)))]) call l7 f5 (fun z k => src_owned f6) (f6.len) (by omega) (by omega)
      refine ⟨e9, qe9, ?_⟩
      have d10 := (d8.trans pe9)
      refine ⟨i_shr (by decide), ?_⟩
      exact k1 c1 c2 e9 oe9 pe9 ne9
    · have rc2 := c2
      replace c2 : v ≤ 63 := ltI_F c2
      exact k2 c1 c2
theorem rputS_loop {call : CallT} {N : Nat} {t : T} {h : Hp} {B n : Nat} {v0 : Int} {vb vs : AV} {pre : List Nat} (hB : B ≤ h.next) (ho : Owned 1 B h vs n (u8s pre)) (hv : (-9223372036854775808 ≤ v0 ∧ v0 < 9223372036854775808)) (hn : n ≤ 1099511627777) (hN : 10 < N)
    (h0 : slots [0, 1, 5] t = [some vb, some (AV.int .i64 v0), some vs]) :
    ∃ e : Ev, evC call N (.loop rputSC) t h = .exit 0 (ovT [(0, vb), (1, (AV.int .i64 (sebL v0))), (5, e.v)] e.t) e.h ∧ Owned 1 B e.h e.v (n + (sebH v0).length) (u8s pre ++ u8s (sebH v0)) ∧ Old B h e.h ∧ B ≤ e.h.next := by
  refine Exists.elim (loop_ok (call := call) (N := N) (body := rputSC) [0, 1, 5]
    (fun j ls h' => ∃ v s pre' k, ls = [some vb, some (AV.int .i64 v), some s] ∧ (-(64 * 128 ^ (j)) ≤ v ∧ v < 64 * 128 ^ (j)) ∧ (-9223372036854775808 ≤ v ∧ v < 9223372036854775808) ∧ Owned 1 B h' s k (u8s pre') ∧ k + j ≤ n + 9 ∧ k + (sebH v).length = n + (sebH v0).length ∧ pre' ++ sebH v = pre ++ sebH v0 ∧ sebL v = sebL v0 ∧ Old B h h' ∧ B ≤ h'.next)
    (fun i ls h' => i = 0 ∧ ∃ s, ls = [some vb, some (AV.int .i64 (sebL v0)), some s] ∧ Owned 1 B h' s (n + (sebH v0).length) (u8s (pre ++ sebH v0)) ∧ Old B h h' ∧ B ≤ h'.next)
    (fun _ _ => False) ?_ 9 (by omega) t h ⟨v0, vs, pre, n, h0, by constructor <;> omega, hv, ho, by omega, rfl, rfl, rfl, .refl B h, hB⟩) ?_
  rotate_left
  · rintro s ⟨e, hs⟩
    cases s with
    | no => exact hs.elim
    | nor t' h' => exact hs.elim
    | ret t' h' => exact hs.elim
    | exit i t' h' =>
      obtain ⟨rfl, s, hh, o1, p1, n1⟩ := hs
      rw [u8s_append]
      exact ⟨⟨s, t', h'⟩, e.trans (congrArg (fun t => RS.exit 0 t h') (ovT_eq (l := [(0, vb), (1, (AV.int .i64 (sebL v0))), (5, s)]) hh).symm), o1, p1, n1⟩
  · rintro j t h' ⟨v, s, pre', k, hsl, hvj, hv', ho', hk, hkk, hpre, hL, hp, hnx⟩
    rw [← ovT_eq (l := [(0, vb), (1, (AV.int .i64 v)), (5, s)]) hsl]
    have fin : sIn v → 0 = 0 ∧ ∃ s', [some vb, some (AV.int .i64 v), some s] = [some vb, some (AV.int .i64 (sebL v0)), some s'] ∧ Owned 1 B h' s' (n + (sebH v0).length) (u8s (pre ++ sebH v0)) ∧ Old B h h' ∧ B ≤ h'.next := fun hlo => by
      rw [sebH_lo hlo] at hpre hkk
      rw [sebL_lo hlo] at hL
      rw [List.append_nil] at hpre
      rw [← hpre, ← hL, ← hkk]
      exact ⟨rfl, s, rfl, ho', hp, hnx⟩
    have go : ∀ e : Ev, Owned 1 B e.h e.v (k + 1) (u8s pre' ++ [AV.int .u8 (Int.ofNat ((v % 256).toNat ||| 128))]) → Old B (hpush h' (mkCells [AV.int .u8 (Int.ofNat ((v % 256).toNat ||| 128))] 1)) e.h → B ≤ e.h.next → ¬ sIn v →
        ∃ m, m < j ∧ ∃ v' s' pre'' k', [some vb, some (AV.int .i64 (v / 2 ^ 7)), some e.v] = [some vb, some (AV.int .i64 v'), some s'] ∧ (-(64 * 128 ^ (m)) ≤ v' ∧ v' < 64 * 128 ^ (m)) ∧ (-9223372036854775808 ≤ v' ∧ v' < 9223372036854775808) ∧ Owned 1 B e.h s' k' (u8s pre'') ∧ k' + m ≤ n + 9 ∧ k' + (sebH v').length = n + (sebH v0).length ∧ pre'' ++ sebH v' = pre ++ sebH v0 ∧ sebL v' = sebL v0 ∧ Old B h e.h ∧ B ≤ e.h.next := by
      intro e o' p' n' hge
      cases j with
      | zero => exact absurd hvj (by unfold sIn at hge; omega)
      | succ j =>
        rw [sebH_hi hge] at hpre hkk
        rw [sebL_hi hge] at hL
        have h2 : (128 : Int) ^ (j + 1) = 128 ^ j * 128 := Int.pow_succ _ _
        rw [h2] at hvj
        refine ⟨j, Nat.lt_succ_self _, v / 128, e.v, pre' ++ [(v % 256).toNat ||| 128], k + 1, rfl, by omega, by omega, ?_, by omega, by rw [← hkk, List.length_cons]; omega, by rw [← hpre]; simp, hL, hp.trans ((Old.push hnx _).trans p'), n'⟩
        rw [← u8s_append]; exact o'
    refine rputS_body hnx ho' hv' (by omega) ?_ ?_ ?_
    · intro c0 e o' p' n'; exact go e o' p' n' (by unfold sIn; omega)
    · intro c0 c1 e o' p' n'; exact go e o' p' n' (by unfold sIn; omega)
    · intro c0 c1; exact fin (by unfold sIn; omega)
theorem rputS_walk {call : CallT} {N : Nat} {h : Hp} {B : Nat} {vb : AV} {l : List Nat} {v : Int} (hB : B ≤ h.next) (hb : Bytes B h vb l) (hlen : l.length ≤ 1099511627776) (hv : (-9223372036854775808 ≤ v ∧ v < 9223372036854775808)) (hN : 10 < N) 
    : ∃ rv rh, evF1 (progS Try.prog (compDrawn Try.prog)) N call 19 [vb, (AV.int .i64 v)] h = .ok rv rh ∧ (fun (v' : AV) (h' : Hp) => Owned 1 B h' v' (l.length + (lebS v).length) (u8s (l ++ lebS v)) ∧ Old B h h' ∧ B ≤ h'.next) rv rh := by
  have hx9 : (sebH v).length ≤ 9 := sebH_len 9 v (by constructor <;> omega)
  refine fwalk_ok (o := (.effx 3 (fun e5 => e5.v) (fun e5 => (.lpx 1 (fun e8 => (.exit 0 (ovT [(0, vb), (1, (AV.int .i64 (sebL v))), (5, e8.v)] e8.t) e8.h)) (fun e8 => (.tell 2 (AV.int .u8 (Int.ofNat (((sebL v) % 256).toNat))) (.tell 0 (AV.int .u8 (Int.ofNat ((((sebL v) % 256).toNat) &&& 127))) (.effx 1 (fun e16 => e16.v) (fun e16 => .fin))))))))) (p := (∃ e5 : Ev, evE (.append 1 1 (.const (AV.slice (Hp.next h) 0 0 0 1 true)) (.const vb)) call .lf (hpush h (mkCells [] 0)) = .ok e5.v e5.h ∧ (∃ e8 : Ev, evC call N (.loop rputSC) (ovT [(0, vb), (1, (AV.int .i64 v)), (4, AV.nilSlice), (5, e5.v), (6, (AV.slice (Hp.next h) 0 0 0 1 true)), (7, vb), (8, e5.v)] .lf) e5.h = (.exit 0 (ovT [(0, vb), (1, (AV.int .i64 (sebL v))), (5, e8.v)] e8.t) e8.h) ∧ True ∧ (evQ (.toInt .u8 (.const (AV.int .i64 (sebL v)))) .lf H0 = .ok (AV.int .u8 (Int.ofNat (((sebL v) % 256).toNat))) ∧ (evQ (.bin .and (.const (AV.int .u8 (Int.ofNat (((sebL v) % 256).toNat)))) (.const (AV.int .u8 (Int.ofNat 127)))) .lf H0 = .ok (AV.int .u8 (Int.ofNat ((((sebL v) % 256).toNat) &&& 127))) ∧ (∃ e16 : Ev, evE (.append 1 1 (.const e8.v) (.const (AV.slice (Hp.next e8.h) 0 1 1 1 true))) call .lf (hpush e8.h (mkCells [(AV.int .u8 (Int.ofNat ((((sebL v) % 256).toNat) &&& 127)))] 1)) = .ok e16.v e16.h ∧ (fun (v' : AV) (h' : Hp) => Owned 1 B h' v' (l.length + (lebS v).length) (u8s (l ++ lebS v)) ∧ Old B h h' ∧ B ≤ h'.next) e16.v e16.h)))))) (by kernel_rfl) ?_
  have f1 := (own_lit (sz := 1) (B := B) (n := 0) (h := h) (xs := []) hB rfl)
  have f2 := (hb.old (Old.push hB (mkCells [] 0)))
  have l3 : B ≤ (hpush h (mkCells [] 0)).next := (Nat.le_succ_of_le hB)
  have d4 := ((Old.refl B h).trans (Old.push hB (mkCells [] 0)))
  obtain ⟨e5, qe5, oe5, pe5, ne5⟩ := append_ev (sz := 1) (bytes := 1) (B := B) (n := 0) (L := []) (m := l.length) (xs := u8s l) call l3 f1 (fun z k => src_bytes f2 z k) (u8s_len1 _) (by omega) (by omega)
  refine ⟨e5, qe5, ?_⟩
  have f6 := (f2.old pe5)
  have d7 := (d4.trans pe5)
  obtain ⟨e8, qe8, oe8, pe8, ne8⟩ := rputS_loop (N := N) (call := call) (t := ovT [(0, vb), (1, (AV.int .i64 v)), (4, AV.nilSlice), (5, e5.v), (6, (AV.slice (Hp.next h) 0 0 0 1 true)), (7, vb), (8, e5.v)] .lf) (n := 0 + l.length) (pre := l) ne5 (by simpa using oe5) hv (by omega) hN (by kernel_rfl)
  refine ⟨e8, qe8, trivial, ?_⟩
  refine ⟨s_conv rfl, ?_⟩
  have g9 : ((sebL v) % 256).toNat < 256 := by omega
  refine ⟨u_and rfl g9 (by decide), ?_⟩
  have g10 : (((sebL v) % 256).toNat) &&& 127 < 256 := Nat.lt_of_le_of_lt Nat.and_le_left g9
  have f11 := (oe8.push (mkCells [(AV.int .u8 (Int.ofNat ((((sebL v) % 256).toNat) &&& 127)))] 1))
  have f12 := (own_lit (sz := 1) (B := B) (n := 1) (h := e8.h) (xs := [(AV.int .u8 (Int.ofNat ((((sebL v) % 256).toNat) &&& 127)))]) ne8 rfl)
  have f13 := ((f6.old pe8).old (Old.push ne8 (mkCells [(AV.int .u8 (Int.ofNat ((((sebL v) % 256).toNat) &&& 127)))] 1)))
  have l14 : B ≤ (hpush e8.h (mkCells [(AV.int .u8 (Int.ofNat ((((sebL v) % 256).toNat) &&& 127)))] 1)).next := (Nat.le_succ_of_le ne8)
  have d15 := ((d7.trans pe8).trans (Old.push ne8 (mkCells [(AV.int .u8 (Int.ofNat ((((sebL v) % 256).toNat) &&& 127)))] 1)))
  obtain ⟨e16, qe16, oe16, pe16, ne16⟩ := append_ev (sz := 1) (bytes := 1) (B := B) (n := (0 + l.length) + (sebH v).length) (L := u8s l ++ u8s (sebH v)) (m := 1) (xs := [(AV.int .u8 (Int.ofNat ((((sebL v) % 256).toNat) &&& 127)))]) call l14 f11 (fun z k => src_owned f12) (f12.len) (by omega) (by omega)
  refine ⟨e16, qe16, ?_⟩
  have f17 := (f13.old pe16)
  have d18 := (d15.trans pe16)
  have he : sebH v ++ [(sebL v % 256).toNat &&& 127] = lebS v := rfl
  refine ⟨?_, d18, ne16⟩
  rw [← he, ← List.append_assoc, ← u8s_append, ← u8s_append, List.length_append, ← Nat.add_assoc]
  have hz := oe16
  rw [Nat.zero_add] at hz
  exact hz
end Go.Proofs.Ytejiebbbodealaa
