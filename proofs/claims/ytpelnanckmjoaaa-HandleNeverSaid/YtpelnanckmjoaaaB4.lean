import Derived.Test.YtpelnanckmjoaaaB3
import Derived.Test.YtpelnanckmjoaaaRows
import Derived.WalkKit
section
set_option linter.unusedVariables false
set_option linter.unusedSimpArgs false
namespace Go.Proofs.Ytpelnanckmjoaaa
open Go Go.RowKit Go.Maps Go.Sort Go.Shelf Eng
noncomputable abbrev CC0 (d : Nat) : CallT := evF noM (progS Try.prog (compDrawn Try.prog)) 100000 d
noncomputable def ins_inC : AC := (.seq (.seq (.drawn [⟨[(⟨(some 16), .q (.move (.tmp 7)), none⟩, 0), (⟨(some 17), .q (.move (.tmp 1)), none⟩, 0), (⟨(some 18), .q (.bin .gtr (.tmp 16) (.tmp 17)), none⟩, 0), (⟨(some 19), .q (.move (.tmp 18)), none⟩, 0), (⟨(some 20), .q (.move (.tmp 0)), (some (19, true))⟩, 0), (⟨(some 21), .q (.move (.tmp 7)), (some (19, true))⟩, 0), (⟨(some 22), .q (.idxAddrSl 1 (.tmp 20) (.tmp 21)), (some (19, true))⟩, 0), (⟨(some 23), .q (.loadS (.tmp 22)), (some (19, true))⟩, 0), (⟨(some 24), .q (.move (.tmp 0)), (some (19, true))⟩, 0), (⟨(some 25), .q (.move (.tmp 7)), (some (19, true))⟩, 0), (⟨(some 26), .q (.bin .sub (.tmp 25) (.const (AV.int .i64 (Int.ofNat 1)))), (some (19, true))⟩, 0), (⟨(some 27), .q (.idxAddrSl 1 (.tmp 24) (.tmp 26)), (some (19, true))⟩, 0), (⟨(some 28), .q (.loadS (.tmp 27)), (some (19, true))⟩, 0)], (some ⟨(some 29), .e (.call (.const (AV.func (.func 127) [] [])) [(.tmp 23), (.tmp 28)]), (some (19, true))⟩)⟩, ⟨[(⟨(some 30), .q (.pick (.tmp 19) (.tmp 29) (.const (AV.bool false))), none⟩, 1)], none⟩]) (.cond (.tmp 30) .skip (.exit 2))) (.seq (.block 3 (.drawn [⟨[(⟨(some 33), .q (.move (.tmp 0)), none⟩, 0), (⟨(some 34), .q (.move (.tmp 7)), none⟩, 0), (⟨(some 35), .q (.move (.tmp 0)), none⟩, 1), (⟨(some 36), .q (.move (.tmp 7)), none⟩, 1), (⟨(some 37), .q (.bin .sub (.tmp 36) (.const (AV.int .i64 (Int.ofNat 1)))), none⟩, 1), (⟨(some 38), .q (.move (.tmp 0)), none⟩, 0), (⟨(some 39), .q (.move (.tmp 7)), none⟩, 0), (⟨(some 40), .q (.bin .sub (.tmp 39) (.const (AV.int .i64 (Int.ofNat 1)))), none⟩, 0), (⟨(some 41), .q (.idxAddrSl 1 (.tmp 38) (.tmp 40)), none⟩, 0), (⟨(some 42), .q (.loadS (.tmp 41)), none⟩, 0), (⟨(some 43), .q (.move (.tmp 0)), none⟩, 0), (⟨(some 44), .q (.move (.tmp 7)), none⟩, 0), (⟨(some 45), .q (.idxAddrSl 1 (.tmp 43) (.tmp 44)), none⟩, 0), (⟨(some 46), .q (.loadS (.tmp 45)), none⟩, 0), (⟨(some 47), .q (.idxAddrSl 1 (.tmp 33) (.tmp 34)), none⟩, 0)], (some ⟨none, .e (.store 1 (.tmp 47) (.tmp 42)), none⟩)⟩, ⟨[(⟨(some 48), .q (.idxAddrSl 1 (.tmp 35) (.tmp 37)), none⟩, 1)], (some ⟨none, .e (.store 1 (.tmp 48) (.tmp 46)), none⟩)⟩, ⟨[], none⟩])) (.region [⟨(some 31), .q (.move (.tmp 7)), none⟩, ⟨(some 32), .q (.bin .sub (.tmp 31) (.const (AV.int .i64 (Int.ofNat 1)))), none⟩, ⟨(some 7), .q (.move (.tmp 32)), none⟩])))
theorem ins_in_body {call : CallT} {N : Nat} {t : T} {h : Hp} {n i0 : Nat} {res : List Int} (hn : n ≤ 12) (hless : ∀ (x y : Int) (h : Hp), call 127 [.int .u64 x, .int .u64 y] h = .ok (.bool (ltI x y)) h) {L : List Int} {j : Nat} (hi : (fun (z : List Int × Nat) (h' : Hp) => h' = hS .u64 z.1 ∧ z.2 < n ∧ z.1.length = n ∧ sink z.1 z.2 = res) (L, j) h)
    : ∃ s, evC call N ins_inC (ovT [(0, (AV.slice 0 0 n n 1 false)), (1, (AV.int .i64 (Int.ofNat 0))), (2, (AV.int .i64 (Int.ofNat n))), (6, (AV.int .i64 (Int.ofNat i0))), (7, (AV.int .i64 (Int.ofNat j)))] t) h = s ∧ obsS [0, 1, 2, 6, 7] (fun ls h' => ∃ y, ls = ((fun (z : List Int × Nat) => [(0, (AV.slice 0 0 n n 1 false)), (1, (AV.int .i64 (Int.ofNat 0))), (2, (AV.int .i64 (Int.ofNat n))), (6, (AV.int .i64 (Int.ofNat i0))), (7, (AV.int .i64 (Int.ofNat z.2)))]) y).map (fun p => some p.2) ∧ (fun (z : List Int × Nat) (h' : Hp) => h' = hS .u64 z.1 ∧ z.2 < n ∧ z.1.length = n ∧ sink z.1 z.2 = res) y h' ∧ (fun (z : List Int × Nat) => z.2) y < (fun (z : List Int × Nat) => z.2) (L, j)) (fun i ls h' => ∃ y, ls = ((fun (z : List Int × Nat) => [(0, (AV.slice 0 0 n n 1 false)), (1, (AV.int .i64 (Int.ofNat 0))), (2, (AV.int .i64 (Int.ofNat n))), (6, (AV.int .i64 (Int.ofNat i0))), (7, (AV.int .i64 (Int.ofNat z.2)))]) y).map (fun p => some p.2) ∧ (fun (i : Nat) (z : List Int × Nat) (h' : Hp) => (i = 2) ∧ (i = 2 → h' = hS .u64 z.1 ∧ z.1 = res)) i y h') (fun ls h' => (fun (ls : List (Option AV)) (h' : Hp) => False) ls h') s := by
  have hi : h = hS .u64 L ∧ j < n ∧ L.length = n ∧ sink L j = res := hi
  obtain ⟨rfl, hjn, hLn, hres⟩ := hi
  refine walk_ok (o := (.fork 3 (.tell 2 (AV.ptr 0 (0 + j * 1)) (.tell 0 (AV.int .u64 (L.getD j 0)) (.tell 2 (AV.int .i64 (Int.ofNat (j - 1))) (.tell 0 (AV.ptr 0 (0 + (j - 1) * 1)) (.tell 0 (AV.int .u64 (L.getD (j - 1) 0)) (.again 0 (.eff 0 (AV.bool (ltI (L.getD j 0) (L.getD (j - 1) 0))) (hS .u64 L) (.fork 0 (.again 0 (.tell 4 (AV.int .i64 (Int.ofNat (j - 1))) (.tell 2 (AV.int .i64 (Int.ofNat (j - 1))) (.tell 0 (AV.ptr 0 (0 + (j - 1) * 1)) (.tell 0 (AV.int .u64 (L.getD (j - 1) 0)) (.tell 2 (AV.ptr 0 (0 + j * 1)) (.tell 0 (AV.int .u64 (L.getD j 0)) (.tell 0 (AV.ptr 0 (0 + j * 1)) (.again 0 (.eff 0 (AV.tuple []) (hS .u64 (L.set j (L.getD (j - 1) 0))) (.tell 0 (AV.ptr 0 (0 + (j - 1) * 1)) (.again 0 (.eff 0 (AV.tuple []) (hS .u64 ((L.set j (L.getD (j - 1) 0)).set (j - 1) (L.getD j 0))) (.tell 2 (AV.int .i64 (Int.ofNat (j - 1))) .fin)))))))))))))) (.again 0 .fin))))))))) (.again 0 .fin))) (p := ((ltI (Int.ofNat 0) (Int.ofNat j) = true → (evQ (.idxAddrSl 1 (.const (AV.slice 0 0 n n 1 false)) (.const (AV.int .i64 (Int.ofNat j)))) .lf H0 = .ok (AV.ptr 0 (0 + j * 1)) ∧ (evQ (.loadS (.const (AV.ptr 0 (0 + j * 1)))) .lf (hS .u64 L) = .ok (AV.int .u64 (L.getD j 0)) ∧ (evQ (.bin .sub (.const (AV.int .i64 (Int.ofNat j))) (.const (AV.int .i64 (Int.ofNat 1)))) .lf H0 = .ok (AV.int .i64 (Int.ofNat (j - 1))) ∧ (evQ (.idxAddrSl 1 (.const (AV.slice 0 0 n n 1 false)) (.const (AV.int .i64 (Int.ofNat (j - 1))))) .lf H0 = .ok (AV.ptr 0 (0 + (j - 1) * 1)) ∧ (evQ (.loadS (.const (AV.ptr 0 (0 + (j - 1) * 1)))) .lf (hS .u64 L) = .ok (AV.int .u64 (L.getD (j - 1) 0)) ∧ ((again (.loadS (.const (AV.ptr 0 (0 + (j - 1) * 1)))) .lf (AV.int .u64 (L.getD (j - 1) 0)) (hS .u64 L) = true ∧ again (.idxAddrSl 1 (.const (AV.slice 0 0 n n 1 false)) (.const (AV.int .i64 (Int.ofNat (j - 1))))) .lf (AV.ptr 0 (0 + (j - 1) * 1)) (hS .u64 L) = true ∧ again (.bin .sub (.const (AV.int .i64 (Int.ofNat j))) (.const (AV.int .i64 (Int.ofNat 1)))) .lf (AV.int .i64 (Int.ofNat (j - 1))) (hS .u64 L) = true ∧ again (.move (.const (AV.int .i64 (Int.ofNat j)))) .lf (AV.int .i64 (Int.ofNat j)) (hS .u64 L) = true ∧ again (.move (.const (AV.slice 0 0 n n 1 false))) .lf (AV.slice 0 0 n n 1 false) (hS .u64 L) = true ∧ again (.loadS (.const (AV.ptr 0 (0 + j * 1)))) .lf (AV.int .u64 (L.getD j 0)) (hS .u64 L) = true ∧ again (.idxAddrSl 1 (.const (AV.slice 0 0 n n 1 false)) (.const (AV.int .i64 (Int.ofNat j)))) .lf (AV.ptr 0 (0 + j * 1)) (hS .u64 L) = true ∧ again (.move (.const (AV.int .i64 (Int.ofNat j)))) .lf (AV.int .i64 (Int.ofNat j)) (hS .u64 L) = true ∧ again (.move (.const (AV.slice 0 0 n n 1 false))) .lf (AV.slice 0 0 n n 1 false) (hS .u64 L) = true ∧ again (.move (.const (AV.bool (ltI (Int.ofNat 0) (Int.ofNat j))))) .lf (AV.bool true) (hS .u64 L) = true ∧ again (.bin .gtr (.const (AV.int .i64 (Int.ofNat j))) (.const (AV.int .i64 (Int.ofNat 0)))) .lf (AV.bool (ltI (Int.ofNat 0) (Int.ofNat j))) (hS .u64 L) = true ∧ again (.move (.const (AV.int .i64 (Int.ofNat 0)))) .lf (AV.int .i64 (Int.ofNat 0)) (hS .u64 L) = true ∧ again (.move (.const (AV.int .i64 (Int.ofNat j)))) .lf (AV.int .i64 (Int.ofNat j)) (hS .u64 L) = true ∧ True) ∧ (call 127 [(AV.int .u64 (L.getD j 0)), (AV.int .u64 (L.getD (j - 1) 0))] (hS .u64 L) = .ok (AV.bool (ltI (L.getD j 0) (L.getD (j - 1) 0))) (hS .u64 L) ∧ ((ltI (L.getD j 0) (L.getD (j - 1) 0) = true → ((again (.pick (.const (AV.bool true)) (.const (AV.bool (ltI (L.getD j 0) (L.getD (j - 1) 0)))) (.const (AV.bool false))) .lf (AV.bool true) (hS .u64 L) = true ∧ True) ∧ (evQ (.bin .sub (.const (AV.int .i64 (Int.ofNat j))) (.const (AV.int .i64 (Int.ofNat 1)))) .lf H0 = .ok (AV.int .i64 (Int.ofNat (j - 1))) ∧ (evQ (.bin .sub (.const (AV.int .i64 (Int.ofNat j))) (.const (AV.int .i64 (Int.ofNat 1)))) .lf H0 = .ok (AV.int .i64 (Int.ofNat (j - 1))) ∧ (evQ (.idxAddrSl 1 (.const (AV.slice 0 0 n n 1 false)) (.const (AV.int .i64 (Int.ofNat (j - 1))))) .lf H0 = .ok (AV.ptr 0 (0 + (j - 1) * 1)) ∧ (evQ (.loadS (.const (AV.ptr 0 (0 + (j - 1) * 1)))) .lf (hS .u64 L) = .ok (AV.int .u64 (L.getD (j - 1) 0)) ∧ (evQ (.idxAddrSl 1 (.const (AV.slice 0 0 n n 1 false)) (.const (AV.int .i64 (Int.ofNat j)))) .lf H0 = .ok (AV.ptr 0 (0 + j * 1)) ∧ (evQ (.loadS (.const (AV.ptr 0 (0 + j * 1)))) .lf (hS .u64 L) = .ok (AV.int .u64 (L.getD j 0)) ∧ (evQ (.idxAddrSl 1 (.const (AV.slice 0 0 n n 1 false)) (.const (AV.int .i64 (Int.ofNat j)))) .lf H0 = .ok (AV.ptr 0 (0 + j * 1)) ∧ ((again (.idxAddrSl 1 (.const (AV.slice 0 0 n n 1 false)) (.const (AV.int .i64 (Int.ofNat j)))) .lf (AV.ptr 0 (0 + j * 1)) (hS .u64 L) = true ∧ again (.loadS (.const (AV.ptr 0 (0 + j * 1)))) .lf (AV.int .u64 (L.getD j 0)) (hS .u64 L) = true ∧ again (.idxAddrSl 1 (.const (AV.slice 0 0 n n 1 false)) (.const (AV.int .i64 (Int.ofNat j)))) .lf (AV.ptr 0 (0 + j * 1)) (hS .u64 L) = true ∧ again (.move (.const (AV.int .i64 (Int.ofNat j)))) .lf (AV.int .i64 (Int.ofNat j)) (hS .u64 L) = true ∧ again (.move (.const (AV.slice 0 0 n n 1 false))) .lf (AV.slice 0 0 n n 1 false) (hS .u64 L) = true ∧ again (.loadS (.const (AV.ptr 0 (0 + (j - 1) * 1)))) .lf (AV.int .u64 (L.getD (j - 1) 0)) (hS .u64 L) = true ∧ again (.idxAddrSl 1 (.const (AV.slice 0 0 n n 1 false)) (.const (AV.int .i64 (Int.ofNat (j - 1))))) .lf (AV.ptr 0 (0 + (j - 1) * 1)) (hS .u64 L) = true ∧ again (.bin .sub (.const (AV.int .i64 (Int.ofNat j))) (.const (AV.int .i64 (Int.ofNat 1)))) .lf (AV.int .i64 (Int.ofNat (j - 1))) (hS .u64 L) = true ∧ again (.move (.const (AV.int .i64 (Int.ofNat j)))) .lf (AV.int .i64 (Int.ofNat j)) (hS .u64 L) = true ∧ again (.move (.const (AV.slice 0 0 n n 1 false))) .lf (AV.slice 0 0 n n 1 false) (hS .u64 L) = true ∧ again (.bin .sub (.const (AV.int .i64 (Int.ofNat j))) (.const (AV.int .i64 (Int.ofNat 1)))) .lf (AV.int .i64 (Int.ofNat (j - 1))) (hS .u64 L) = true ∧ again (.move (.const (AV.int .i64 (Int.ofNat j)))) .lf (AV.int .i64 (Int.ofNat j)) (hS .u64 L) = true ∧ again (.move (.const (AV.slice 0 0 n n 1 false))) .lf (AV.slice 0 0 n n 1 false) (hS .u64 L) = true ∧ again (.move (.const (AV.int .i64 (Int.ofNat j)))) .lf (AV.int .i64 (Int.ofNat j)) (hS .u64 L) = true ∧ again (.move (.const (AV.slice 0 0 n n 1 false))) .lf (AV.slice 0 0 n n 1 false) (hS .u64 L) = true ∧ True) ∧ (evE (.store 1 (.const (AV.ptr 0 (0 + j * 1))) (.const (AV.int .u64 (L.getD (j - 1) 0)))) call .lf (hS .u64 L) = .ok (AV.tuple []) (hS .u64 (L.set j (L.getD (j - 1) 0))) ∧ (evQ (.idxAddrSl 1 (.const (AV.slice 0 0 n n 1 false)) (.const (AV.int .i64 (Int.ofNat (j - 1))))) .lf H0 = .ok (AV.ptr 0 (0 + (j - 1) * 1)) ∧ ((again (.idxAddrSl 1 (.const (AV.slice 0 0 n n 1 false)) (.const (AV.int .i64 (Int.ofNat (j - 1))))) .lf (AV.ptr 0 (0 + (j - 1) * 1)) (hS .u64 (L.set j (L.getD (j - 1) 0))) = true ∧ again (.bin .sub (.const (AV.int .i64 (Int.ofNat j))) (.const (AV.int .i64 (Int.ofNat 1)))) .lf (AV.int .i64 (Int.ofNat (j - 1))) (hS .u64 (L.set j (L.getD (j - 1) 0))) = true ∧ again (.move (.const (AV.int .i64 (Int.ofNat j)))) .lf (AV.int .i64 (Int.ofNat j)) (hS .u64 (L.set j (L.getD (j - 1) 0))) = true ∧ again (.move (.const (AV.slice 0 0 n n 1 false))) .lf (AV.slice 0 0 n n 1 false) (hS .u64 (L.set j (L.getD (j - 1) 0))) = true ∧ True) ∧ (evE (.store 1 (.const (AV.ptr 0 (0 + (j - 1) * 1))) (.const (AV.int .u64 (L.getD j 0)))) call .lf (hS .u64 (L.set j (L.getD (j - 1) 0))) = .ok (AV.tuple []) (hS .u64 ((L.set j (L.getD (j - 1) 0)).set (j - 1) (L.getD j 0))) ∧ (evQ (.bin .sub (.const (AV.int .i64 (Int.ofNat j))) (.const (AV.int .i64 (Int.ofNat 1)))) .lf H0 = .ok (AV.int .i64 (Int.ofNat (j - 1))) ∧ ((fun ls h' => ∃ y, ls = ((fun (z : List Int × Nat) => [(0, (AV.slice 0 0 n n 1 false)), (1, (AV.int .i64 (Int.ofNat 0))), (2, (AV.int .i64 (Int.ofNat n))), (6, (AV.int .i64 (Int.ofNat i0))), (7, (AV.int .i64 (Int.ofNat z.2)))]) y).map (fun p => some p.2) ∧ (fun (z : List Int × Nat) (h' : Hp) => h' = hS .u64 z.1 ∧ z.2 < n ∧ z.1.length = n ∧ sink z.1 z.2 = res) y h' ∧ (fun (z : List Int × Nat) => z.2) y < (fun (z : List Int × Nat) => z.2) (L, j)) : List (Option AV) → Hp → Prop) [some (AV.slice 0 0 n n 1 false), some (AV.int .i64 (Int.ofNat 0)), some (AV.int .i64 (Int.ofNat n)), some (AV.int .i64 (Int.ofNat i0)), some (AV.int .i64 (Int.ofNat (j - 1)))] (hS .u64 ((L.set j (L.getD (j - 1) 0)).set (j - 1) (L.getD j 0)))))))))))))))))) ∧ (ltI (L.getD j 0) (L.getD (j - 1) 0) = false → ((again (.pick (.const (AV.bool true)) (.const (AV.bool (ltI (L.getD j 0) (L.getD (j - 1) 0)))) (.const (AV.bool false))) .lf (AV.bool false) (hS .u64 L) = true ∧ True) ∧ ((fun i ls h' => ∃ y, ls = ((fun (z : List Int × Nat) => [(0, (AV.slice 0 0 n n 1 false)), (1, (AV.int .i64 (Int.ofNat 0))), (2, (AV.int .i64 (Int.ofNat n))), (6, (AV.int .i64 (Int.ofNat i0))), (7, (AV.int .i64 (Int.ofNat z.2)))]) y).map (fun p => some p.2) ∧ (fun (i : Nat) (z : List Int × Nat) (h' : Hp) => (i = 2) ∧ (i = 2 → h' = hS .u64 z.1 ∧ z.1 = res)) i y h') : Nat → List (Option AV) → Hp → Prop) 2 [some (AV.slice 0 0 n n 1 false), some (AV.int .i64 (Int.ofNat 0)), some (AV.int .i64 (Int.ofNat n)), some (AV.int .i64 (Int.ofNat i0)), some (AV.int .i64 (Int.ofNat j))] (hS .u64 L)))))))))))) ∧ (ltI (Int.ofNat 0) (Int.ofNat j) = false → ((again (.move (.const (AV.bool (ltI (Int.ofNat 0) (Int.ofNat j))))) .lf (AV.bool false) (hS .u64 L) = true ∧ again (.bin .gtr (.const (AV.int .i64 (Int.ofNat j))) (.const (AV.int .i64 (Int.ofNat 0)))) .lf (AV.bool (ltI (Int.ofNat 0) (Int.ofNat j))) (hS .u64 L) = true ∧ again (.move (.const (AV.int .i64 (Int.ofNat 0)))) .lf (AV.int .i64 (Int.ofNat 0)) (hS .u64 L) = true ∧ again (.move (.const (AV.int .i64 (Int.ofNat j)))) .lf (AV.int .i64 (Int.ofNat j)) (hS .u64 L) = true ∧ True) ∧ ((fun i ls h' => ∃ y, ls = ((fun (z : List Int × Nat) => [(0, (AV.slice 0 0 n n 1 false)), (1, (AV.int .i64 (Int.ofNat 0))), (2, (AV.int .i64 (Int.ofNat n))), (6, (AV.int .i64 (Int.ofNat i0))), (7, (AV.int .i64 (Int.ofNat z.2)))]) y).map (fun p => some p.2) ∧ (fun (i : Nat) (z : List Int × Nat) (h' : Hp) => (i = 2) ∧ (i = 2 → h' = hS .u64 z.1 ∧ z.1 = res)) i y h') : Nat → List (Option AV) → Hp → Prop) 2 [some (AV.slice 0 0 n n 1 false), some (AV.int .i64 (Int.ofNat 0)), some (AV.int .i64 (Int.ofNat n)), some (AV.int .i64 (Int.ofNat i0)), some (AV.int .i64 (Int.ofNat j))] (hS .u64 L))))) (by kernel_rfl) ?_
  refine ⟨fun c1 => ?_, fun c1 => ?_⟩
  · have rc1 := c1
    replace c1 : 0 < j := ltI_t c1
    refine ⟨q_idx (by omega), ?_⟩
    refine ⟨ld_ok (by omega), ?_⟩
    refine ⟨q_sub (by omega) (by omega), ?_⟩
    refine ⟨q_idx (by omega), ?_⟩
    refine ⟨ld_ok (by omega), ?_⟩
    refine ⟨⟨again_of (ld_ok (by omega)) (avEq_int _ _), again_of (q_idx (by omega)) (avEq_ptr _ _), again_of (q_sub (by omega) (by omega)) (avEq_int _ _), again_of (rfl) (avEq_int _ _), again_of (rfl) (avEq_slice _ _ _ _ _ _), again_of (ld_ok (by omega)) (avEq_int _ _), again_of (q_idx (by omega)) (avEq_ptr _ _), again_of (rfl) (avEq_int _ _), again_of (rfl) (avEq_slice _ _ _ _ _ _), again_of (congrArg (fun b => OV.ok (AV.bool b)) rc1) (avEq_bool _), again_of (rfl) (avEq_bool _), again_of (rfl) (avEq_int _ _), again_of (rfl) (avEq_int _ _), trivial⟩, ?_⟩
    refine ⟨hless _ _ _, ?_⟩
    refine ⟨fun c2 => ?_, fun c2 => ?_⟩
    · have rc2 := c2
      replace c2 : (L.getD j 0) < (L.getD (j - 1) 0) := ltI_T c2
      refine ⟨⟨again_of (congrArg (fun b => OV.ok (AV.bool b)) rc2) (avEq_bool _), trivial⟩, ?_⟩
      refine ⟨q_sub (by omega) (by omega), ?_⟩
      refine ⟨q_sub (by omega) (by omega), ?_⟩
      refine ⟨q_idx (by omega), ?_⟩
      refine ⟨ld_ok (by omega), ?_⟩
      refine ⟨q_idx (by omega), ?_⟩
      refine ⟨ld_ok (by omega), ?_⟩
      refine ⟨q_idx (by omega), ?_⟩
      refine ⟨⟨again_of (q_idx (by omega)) (avEq_ptr _ _), again_of (ld_ok (by omega)) (avEq_int _ _), again_of (q_idx (by omega)) (avEq_ptr _ _), again_of (rfl) (avEq_int _ _), again_of (rfl) (avEq_slice _ _ _ _ _ _), again_of (ld_ok (by omega)) (avEq_int _ _), again_of (q_idx (by omega)) (avEq_ptr _ _), again_of (q_sub (by omega) (by omega)) (avEq_int _ _), again_of (rfl) (avEq_int _ _), again_of (rfl) (avEq_slice _ _ _ _ _ _), again_of (q_sub (by omega) (by omega)) (avEq_int _ _), again_of (rfl) (avEq_int _ _), again_of (rfl) (avEq_slice _ _ _ _ _ _), again_of (rfl) (avEq_int _ _), again_of (rfl) (avEq_slice _ _ _ _ _ _), trivial⟩, ?_⟩
      refine ⟨st_ok call (by first | omega | (simp; omega)), ?_⟩
      refine ⟨q_idx (by omega), ?_⟩
      refine ⟨⟨again_of (q_idx (by omega)) (avEq_ptr _ _), again_of (q_sub (by omega) (by omega)) (avEq_int _ _), again_of (rfl) (avEq_int _ _), again_of (rfl) (avEq_slice _ _ _ _ _ _), trivial⟩, ?_⟩
      refine ⟨st_ok call (by first | omega | (simp; omega)), ?_⟩
      refine ⟨q_sub (by omega) (by omega), ?_⟩
      obtain ⟨k, rfl⟩ : ∃ k, j = k + 1 := ⟨j - 1, by omega⟩
      refine ⟨(swapL L k, k), rfl, ⟨rfl, by dsimp only; omega, by dsimp only; rw [swapL_len]; exact hLn, ?_⟩, by dsimp only; omega⟩
      dsimp only
      rw [sink, if_pos (by have := c2; simp only [Nat.add_sub_cancel] at this; omega)] at hres
      exact hres
    · have rc2 := c2
      replace c2 : (L.getD (j - 1) 0) ≤ (L.getD j 0) := ltI_F c2
      refine ⟨⟨again_of (congrArg (fun b => OV.ok (AV.bool b)) rc2) (avEq_bool _), trivial⟩, ?_⟩
      refine ⟨(L, j), rfl, rfl, fun _ => ⟨rfl, ?_⟩⟩
      obtain ⟨k, rfl⟩ : ∃ k, j = k + 1 := ⟨j - 1, by omega⟩
      rw [sink, if_neg (by have := c2; simp only [Nat.add_sub_cancel] at this; omega)] at hres
      exact hres
  · have rc1 := c1
    replace c1 : j ≤ 0 := ltI_f c1
    refine ⟨⟨again_of (congrArg (fun b => OV.ok (AV.bool b)) rc1) (avEq_bool _), again_of (rfl) (avEq_bool _), again_of (rfl) (avEq_int _ _), again_of (rfl) (avEq_int _ _), trivial⟩, ?_⟩
    refine ⟨(L, j), rfl, rfl, fun _ => ⟨rfl, ?_⟩⟩
    obtain rfl : j = 0 := by omega
    exact hres
theorem ins_in {call : CallT} {N : Nat} {n i0 : Nat} {res : List Int} (hn : n ≤ 12) (hless : ∀ (x y : Int) (h : Hp), call 127 [.int .u64 x, .int .u64 y] h = .ok (.bool (ltI x y)) h) {L : List Int} {j : Nat} {h : Hp} (hi : (fun (z : List Int × Nat) (h' : Hp) => h' = hS .u64 z.1 ∧ z.2 < n ∧ z.1.length = n ∧ sink z.1 z.2 = res) (L, j) h) (hN : j < N) {t : T} (ht : Has ((fun (z : List Int × Nat) => [(0, (AV.slice 0 0 n n 1 false)), (1, (AV.int .i64 (Int.ofNat 0))), (2, (AV.int .i64 (Int.ofNat n))), (6, (AV.int .i64 (Int.ofNat i0))), (7, (AV.int .i64 (Int.ofNat z.2)))]) (L, j)) t) :
    (∃ i y t' h', evC call N (.loop ins_inC) t h = .exit i t' h' ∧ Has ((fun (z : List Int × Nat) => [(0, (AV.slice 0 0 n n 1 false)), (1, (AV.int .i64 (Int.ofNat 0))), (2, (AV.int .i64 (Int.ofNat n))), (6, (AV.int .i64 (Int.ofNat i0))), (7, (AV.int .i64 (Int.ofNat z.2)))]) y) t' ∧ (fun (i : Nat) (z : List Int × Nat) (h' : Hp) => (i = 2) ∧ (i = 2 → h' = hS .u64 z.1 ∧ z.1 = res)) i y h') ∨ (∃ t' h', evC call N (.loop ins_inC) t h = .ret t' h' ∧ (fun (ls : List (Option AV)) (h' : Hp) => False) (slots [0, 1, 2, 6, 7] t') h') :=
  loop_st (fun (z : List Int × Nat) => [(0, (AV.slice 0 0 n n 1 false)), (1, (AV.int .i64 (Int.ofNat 0))), (2, (AV.int .i64 (Int.ofNat n))), (6, (AV.int .i64 (Int.ofNat i0))), (7, (AV.int .i64 (Int.ofNat z.2)))]) [0, 1, 2, 6, 7] (fun _ => rfl) (fun (z : List Int × Nat) (h' : Hp) => h' = hS .u64 z.1 ∧ z.2 < n ∧ z.1.length = n ∧ sink z.1 z.2 = res) (fun (z : List Int × Nat) => z.2) (fun (i : Nat) (z : List Int × Nat) (h' : Hp) => (i = 2) ∧ (i = 2 → h' = hS .u64 z.1 ∧ z.1 = res)) (fun (ls : List (Option AV)) (h' : Hp) => False) (fun ⟨L, j⟩ t h hi => ins_in_body hn hless hi) (L, j) h hi hN t ht
theorem ins_in_x {call : CallT} {N : Nat} {n i0 : Nat} {res : List Int} (hn : n ≤ 12) (hless : ∀ (x y : Int) (h : Hp), call 127 [.int .u64 x, .int .u64 y] h = .ok (.bool (ltI x y)) h) {L : List Int} {j : Nat} {h : Hp} (hi : h = hS .u64 L ∧ j < n ∧ L.length = n ∧ sink L j = res) (hN : j < N) {t : T} (ht : slots [0, 1, 2, 6, 7] t = [some (AV.slice 0 0 n n 1 false), some (AV.int .i64 (Int.ofNat 0)), some (AV.int .i64 (Int.ofNat n)), some (AV.int .i64 (Int.ofNat i0)), some (AV.int .i64 (Int.ofNat j))]) :
    ∃ (L1 : List Int) (j1 : Nat) (t' : T) (h' : Hp), evC call N (.loop ins_inC) t h = .exit 2 t' h' ∧ slots [0, 1, 2, 6, 7] t' = [some (AV.slice 0 0 n n 1 false), some (AV.int .i64 (Int.ofNat 0)), some (AV.int .i64 (Int.ofNat n)), some (AV.int .i64 (Int.ofNat i0)), some (AV.int .i64 (Int.ofNat j1))] ∧ (h' = hS .u64 L1 ∧ L1 = res) := by
  rcases ins_in hn hless hi hN ht with ⟨i, y, t', h', q, w, e⟩ | ⟨t', h', q, e⟩
  · obtain ⟨e1, e2⟩ := e
    subst e1
    exact ⟨y.1, y.2, t', h', q, w, e2 rfl⟩
  · exact e.elim
noncomputable def ins_outC : AC := (.seq (.seq (.region [⟨(some 10), .q (.move (.tmp 6)), none⟩, ⟨(some 11), .q (.move (.tmp 2)), none⟩, ⟨(some 12), .q (.bin .lss (.tmp 10) (.tmp 11)), none⟩]) (.cond (.tmp 12) .skip (.exit 0))) (.seq (.block 1 (.seq (.region [⟨(some 15), .q (.move (.tmp 6)), none⟩, ⟨(some 7), .q (.move (.tmp 15)), none⟩]) (.block 2 (.loop (.seq (.seq (.drawn [⟨[(⟨(some 16), .q (.move (.tmp 7)), none⟩, 0), (⟨(some 17), .q (.move (.tmp 1)), none⟩, 0), (⟨(some 18), .q (.bin .gtr (.tmp 16) (.tmp 17)), none⟩, 0), (⟨(some 19), .q (.move (.tmp 18)), none⟩, 0), (⟨(some 20), .q (.move (.tmp 0)), (some (19, true))⟩, 0), (⟨(some 21), .q (.move (.tmp 7)), (some (19, true))⟩, 0), (⟨(some 22), .q (.idxAddrSl 1 (.tmp 20) (.tmp 21)), (some (19, true))⟩, 0), (⟨(some 23), .q (.loadS (.tmp 22)), (some (19, true))⟩, 0), (⟨(some 24), .q (.move (.tmp 0)), (some (19, true))⟩, 0), (⟨(some 25), .q (.move (.tmp 7)), (some (19, true))⟩, 0), (⟨(some 26), .q (.bin .sub (.tmp 25) (.const (AV.int .i64 (Int.ofNat 1)))), (some (19, true))⟩, 0), (⟨(some 27), .q (.idxAddrSl 1 (.tmp 24) (.tmp 26)), (some (19, true))⟩, 0), (⟨(some 28), .q (.loadS (.tmp 27)), (some (19, true))⟩, 0)], (some ⟨(some 29), .e (.call (.const (AV.func (.func 127) [] [])) [(.tmp 23), (.tmp 28)]), (some (19, true))⟩)⟩, ⟨[(⟨(some 30), .q (.pick (.tmp 19) (.tmp 29) (.const (AV.bool false))), none⟩, 1)], none⟩]) (.cond (.tmp 30) .skip (.exit 2))) (.seq (.block 3 (.drawn [⟨[(⟨(some 33), .q (.move (.tmp 0)), none⟩, 0), (⟨(some 34), .q (.move (.tmp 7)), none⟩, 0), (⟨(some 35), .q (.move (.tmp 0)), none⟩, 1), (⟨(some 36), .q (.move (.tmp 7)), none⟩, 1), (⟨(some 37), .q (.bin .sub (.tmp 36) (.const (AV.int .i64 (Int.ofNat 1)))), none⟩, 1), (⟨(some 38), .q (.move (.tmp 0)), none⟩, 0), (⟨(some 39), .q (.move (.tmp 7)), none⟩, 0), (⟨(some 40), .q (.bin .sub (.tmp 39) (.const (AV.int .i64 (Int.ofNat 1)))), none⟩, 0), (⟨(some 41), .q (.idxAddrSl 1 (.tmp 38) (.tmp 40)), none⟩, 0), (⟨(some 42), .q (.loadS (.tmp 41)), none⟩, 0), (⟨(some 43), .q (.move (.tmp 0)), none⟩, 0), (⟨(some 44), .q (.move (.tmp 7)), none⟩, 0), (⟨(some 45), .q (.idxAddrSl 1 (.tmp 43) (.tmp 44)), none⟩, 0), (⟨(some 46), .q (.loadS (.tmp 45)), none⟩, 0), (⟨(some 47), .q (.idxAddrSl 1 (.tmp 33) (.tmp 34)), none⟩, 0)], (some ⟨none, .e (.store 1 (.tmp 47) (.tmp 42)), none⟩)⟩, ⟨[(⟨(some 48), .q (.idxAddrSl 1 (.tmp 35) (.tmp 37)), none⟩, 1)], (some ⟨none, .e (.store 1 (.tmp 48) (.tmp 46)), none⟩)⟩, ⟨[], none⟩])) (.region [⟨(some 31), .q (.move (.tmp 7)), none⟩, ⟨(some 32), .q (.bin .sub (.tmp 31) (.const (AV.int .i64 (Int.ofNat 1)))), none⟩, ⟨(some 7), .q (.move (.tmp 32)), none⟩]))))))) (.region [⟨(some 13), .q (.move (.tmp 6)), none⟩, ⟨(some 14), .q (.bin .add (.tmp 13) (.const (AV.int .i64 (Int.ofNat 1)))), none⟩, ⟨(some 6), .q (.move (.tmp 14)), none⟩])))
theorem ins_out_body {call : CallT} {N : Nat} {t : T} {h : Hp} {n : Nat} {res : List Int} (hn : n ≤ 12) (hless : ∀ (x y : Int) (h : Hp), call 127 [.int .u64 x, .int .u64 y] h = .ok (.bool (ltI x y)) h) (hNN : 12 < N) {L : List Int} {i : Nat} (hi : (fun (z : List Int × Nat) (h' : Hp) => h' = hS .u64 z.1 ∧ 1 ≤ z.2 ∧ z.1.length = n ∧ outerL (n - z.2) z.2 z.1 = res) (L, i) h)
    : ∃ s, evC call N ins_outC (ovT [(0, (AV.slice 0 0 n n 1 false)), (1, (AV.int .i64 (Int.ofNat 0))), (2, (AV.int .i64 (Int.ofNat n))), (6, (AV.int .i64 (Int.ofNat i)))] t) h = s ∧ obsS [0, 1, 2, 6] (fun ls h' => ∃ y, ls = ((fun (z : List Int × Nat) => [(0, (AV.slice 0 0 n n 1 false)), (1, (AV.int .i64 (Int.ofNat 0))), (2, (AV.int .i64 (Int.ofNat n))), (6, (AV.int .i64 (Int.ofNat z.2)))]) y).map (fun p => some p.2) ∧ (fun (z : List Int × Nat) (h' : Hp) => h' = hS .u64 z.1 ∧ 1 ≤ z.2 ∧ z.1.length = n ∧ outerL (n - z.2) z.2 z.1 = res) y h' ∧ (fun (z : List Int × Nat) => (n - z.2)) y < (fun (z : List Int × Nat) => (n - z.2)) (L, i)) (fun i ls h' => ∃ y, ls = ((fun (z : List Int × Nat) => [(0, (AV.slice 0 0 n n 1 false)), (1, (AV.int .i64 (Int.ofNat 0))), (2, (AV.int .i64 (Int.ofNat n))), (6, (AV.int .i64 (Int.ofNat z.2)))]) y).map (fun p => some p.2) ∧ (fun (i : Nat) (z : List Int × Nat) (h' : Hp) => (i = 0) ∧ (i = 0 → h' = hS .u64 z.1 ∧ z.1 = res)) i y h') (fun ls h' => (fun (ls : List (Option AV)) (h' : Hp) => False) ls h') s := by
  have hi : h = hS .u64 L ∧ 1 ≤ i ∧ L.length = n ∧ outerL (n - i) i L = res := hi
  obtain ⟨rfl, hi1, hLn, hres⟩ := hi
  refine walk_ok (o := (.fork 2 (.lpx 2 (fun e2 => (.exit 2 (ovT [(0, (AV.slice 0 0 n n 1 false)), (1, (AV.int .i64 (Int.ofNat 0))), (2, (AV.int .i64 (Int.ofNat n))), (6, (AV.int .i64 (Int.ofNat i)))] e2.t) (hS .u64 (sink L i)))) (fun e2 => (.tell 1 (AV.int .i64 (Int.ofNat (i + 1))) .fin))) .fin)) (p := ((ltI (Int.ofNat i) (Int.ofNat n) = true → (∃ e2 : Ev, evC call N (.loop ins_inC) (ovT [(0, (AV.slice 0 0 n n 1 false)), (1, (AV.int .i64 (Int.ofNat 0))), (2, (AV.int .i64 (Int.ofNat n))), (6, (AV.int .i64 (Int.ofNat i))), (7, (AV.int .i64 (Int.ofNat i))), (10, (AV.int .i64 (Int.ofNat i))), (11, (AV.int .i64 (Int.ofNat n))), (12, (AV.bool true)), (15, (AV.int .i64 (Int.ofNat i)))] t) (hS .u64 L) = (.exit 2 (ovT [(0, (AV.slice 0 0 n n 1 false)), (1, (AV.int .i64 (Int.ofNat 0))), (2, (AV.int .i64 (Int.ofNat n))), (6, (AV.int .i64 (Int.ofNat i)))] e2.t) (hS .u64 (sink L i))) ∧ True ∧ (evQ (.bin .add (.const (AV.int .i64 (Int.ofNat i))) (.const (AV.int .i64 (Int.ofNat 1)))) .lf H0 = .ok (AV.int .i64 (Int.ofNat (i + 1))) ∧ ((fun ls h' => ∃ y, ls = ((fun (z : List Int × Nat) => [(0, (AV.slice 0 0 n n 1 false)), (1, (AV.int .i64 (Int.ofNat 0))), (2, (AV.int .i64 (Int.ofNat n))), (6, (AV.int .i64 (Int.ofNat z.2)))]) y).map (fun p => some p.2) ∧ (fun (z : List Int × Nat) (h' : Hp) => h' = hS .u64 z.1 ∧ 1 ≤ z.2 ∧ z.1.length = n ∧ outerL (n - z.2) z.2 z.1 = res) y h' ∧ (fun (z : List Int × Nat) => (n - z.2)) y < (fun (z : List Int × Nat) => (n - z.2)) (L, i)) : List (Option AV) → Hp → Prop) [some (AV.slice 0 0 n n 1 false), some (AV.int .i64 (Int.ofNat 0)), some (AV.int .i64 (Int.ofNat n)), some (AV.int .i64 (Int.ofNat (i + 1)))] (hS .u64 (sink L i))))) ∧ (ltI (Int.ofNat i) (Int.ofNat n) = false → ((fun i ls h' => ∃ y, ls = ((fun (z : List Int × Nat) => [(0, (AV.slice 0 0 n n 1 false)), (1, (AV.int .i64 (Int.ofNat 0))), (2, (AV.int .i64 (Int.ofNat n))), (6, (AV.int .i64 (Int.ofNat z.2)))]) y).map (fun p => some p.2) ∧ (fun (i : Nat) (z : List Int × Nat) (h' : Hp) => (i = 0) ∧ (i = 0 → h' = hS .u64 z.1 ∧ z.1 = res)) i y h') : Nat → List (Option AV) → Hp → Prop) 0 [some (AV.slice 0 0 n n 1 false), some (AV.int .i64 (Int.ofNat 0)), some (AV.int .i64 (Int.ofNat n)), some (AV.int .i64 (Int.ofNat i))] (hS .u64 L)))) (by kernel_rfl) ?_
  refine ⟨fun c1 => ?_, fun c1 => ?_⟩
  · have rc1 := c1
    replace c1 : i < n := ltI_t c1
    obtain ⟨L1, j1, t1, h1, q1, w1, x1⟩ := ins_in_x (N := N) (i0 := i) (res := sink L i) (L := L) (j := i) hn hless ⟨rfl, by omega, hLn, rfl⟩ (show i < N by omega) (t := ovT [(0, (AV.slice 0 0 n n 1 false)), (1, (AV.int .i64 (Int.ofNat 0))), (2, (AV.int .i64 (Int.ofNat n))), (6, (AV.int .i64 (Int.ofNat i))), (7, (AV.int .i64 (Int.ofNat i))), (10, (AV.int .i64 (Int.ofNat i))), (11, (AV.int .i64 (Int.ofNat n))), (12, (AV.bool true)), (15, (AV.int .i64 (Int.ofNat i)))] t) (by kernel_rfl)
    obtain ⟨rfl, rfl⟩ := x1
    have w1 : [tget (pathOf 0) t1, tget (pathOf 1) t1, tget (pathOf 2) t1, tget (pathOf 6) t1, tget (pathOf 7) t1] = _ := w1
    simp only [List.cons.injEq] at w1
    obtain ⟨g0, g1, g2, g6, -⟩ := w1
    refine ⟨(⟨.nilPtr, t1, H0⟩ : Ev), (by rw [q1]; exact congrArg (fun t => RS.exit 2 t _) (ovT_eq (l := [(0, (AV.slice 0 0 n n 1 false)), (1, (AV.int .i64 (Int.ofNat 0))), (2, (AV.int .i64 (Int.ofNat n))), (6, (AV.int .i64 (Int.ofNat i)))]) (by show [tget (pathOf 0) t1, tget (pathOf 1) t1, tget (pathOf 2) t1, tget (pathOf 6) t1] = _; rw [g0, g1, g2, g6]; rfl)).symm), trivial, ?_⟩
    refine ⟨q_add (by omega), ?_⟩
    refine ⟨(sink L i, i + 1), rfl, ⟨rfl, by dsimp only; omega, by dsimp only; rw [sink_len]; exact hLn, ?_⟩, by dsimp only; omega⟩
    dsimp only
    rw [show n - i = (n - (i + 1)) + 1 by omega, outerL] at hres
    exact hres
  · have rc1 := c1
    replace c1 : n ≤ i := ltI_f c1
    refine ⟨(L, i), rfl, rfl, fun _ => ⟨rfl, ?_⟩⟩
    rw [show n - i = 0 by omega] at hres
    exact hres
theorem ins_out {call : CallT} {N : Nat} {n : Nat} {res : List Int} (hn : n ≤ 12) (hless : ∀ (x y : Int) (h : Hp), call 127 [.int .u64 x, .int .u64 y] h = .ok (.bool (ltI x y)) h) (hNN : 12 < N) {L : List Int} {i : Nat} {h : Hp} (hi : (fun (z : List Int × Nat) (h' : Hp) => h' = hS .u64 z.1 ∧ 1 ≤ z.2 ∧ z.1.length = n ∧ outerL (n - z.2) z.2 z.1 = res) (L, i) h) (hN : (n - i) < N) {t : T} (ht : Has ((fun (z : List Int × Nat) => [(0, (AV.slice 0 0 n n 1 false)), (1, (AV.int .i64 (Int.ofNat 0))), (2, (AV.int .i64 (Int.ofNat n))), (6, (AV.int .i64 (Int.ofNat z.2)))]) (L, i)) t) :
    (∃ i y t' h', evC call N (.loop ins_outC) t h = .exit i t' h' ∧ Has ((fun (z : List Int × Nat) => [(0, (AV.slice 0 0 n n 1 false)), (1, (AV.int .i64 (Int.ofNat 0))), (2, (AV.int .i64 (Int.ofNat n))), (6, (AV.int .i64 (Int.ofNat z.2)))]) y) t' ∧ (fun (i : Nat) (z : List Int × Nat) (h' : Hp) => (i = 0) ∧ (i = 0 → h' = hS .u64 z.1 ∧ z.1 = res)) i y h') ∨ (∃ t' h', evC call N (.loop ins_outC) t h = .ret t' h' ∧ (fun (ls : List (Option AV)) (h' : Hp) => False) (slots [0, 1, 2, 6] t') h') :=
  loop_st (fun (z : List Int × Nat) => [(0, (AV.slice 0 0 n n 1 false)), (1, (AV.int .i64 (Int.ofNat 0))), (2, (AV.int .i64 (Int.ofNat n))), (6, (AV.int .i64 (Int.ofNat z.2)))]) [0, 1, 2, 6] (fun _ => rfl) (fun (z : List Int × Nat) (h' : Hp) => h' = hS .u64 z.1 ∧ 1 ≤ z.2 ∧ z.1.length = n ∧ outerL (n - z.2) z.2 z.1 = res) (fun (z : List Int × Nat) => (n - z.2)) (fun (i : Nat) (z : List Int × Nat) (h' : Hp) => (i = 0) ∧ (i = 0 → h' = hS .u64 z.1 ∧ z.1 = res)) (fun (ls : List (Option AV)) (h' : Hp) => False) (fun ⟨L, i⟩ t h hi => ins_out_body hn hless hNN hi) (L, i) h hi hN t ht
theorem ins_out_x {call : CallT} {N : Nat} {n : Nat} {res : List Int} (hn : n ≤ 12) (hless : ∀ (x y : Int) (h : Hp), call 127 [.int .u64 x, .int .u64 y] h = .ok (.bool (ltI x y)) h) (hNN : 12 < N) {L : List Int} {i : Nat} {h : Hp} (hi : h = hS .u64 L ∧ 1 ≤ i ∧ L.length = n ∧ outerL (n - i) i L = res) (hN : (n - i) < N) {t : T} (ht : slots [0, 1, 2, 6] t = [some (AV.slice 0 0 n n 1 false), some (AV.int .i64 (Int.ofNat 0)), some (AV.int .i64 (Int.ofNat n)), some (AV.int .i64 (Int.ofNat i))]) :
    ∃ (L1 : List Int) (i1 : Nat) (t' : T) (h' : Hp), evC call N (.loop ins_outC) t h = .exit 0 t' h' ∧ slots [0, 1, 2, 6] t' = [some (AV.slice 0 0 n n 1 false), some (AV.int .i64 (Int.ofNat 0)), some (AV.int .i64 (Int.ofNat n)), some (AV.int .i64 (Int.ofNat i1))] ∧ (h' = hS .u64 L1 ∧ L1 = res) := by
  rcases ins_out hn hless hNN hi hN ht with ⟨i, y, t', h', q, w, e⟩ | ⟨t', h', q, e⟩
  · obtain ⟨e1, e2⟩ := e
    subst e1
    exact ⟨y.1, y.2, t', h', q, w, e2 rfl⟩
  · exact e.elim
theorem ins_walk {call : CallT} {N : Nat} {h : Hp} {n : Nat} {L : List Int} (hn : n ≤ 12) (hLn : L.length = n) (hless : ∀ (x y : Int) (h : Hp), call 127 [.int .u64 x, .int .u64 y] h = .ok (.bool (ltI x y)) h) (hNN : 12 < N)
    : ∃ rv rh, evF1 (progS Try.prog (compDrawn Try.prog)) N call 121 [(AV.slice 0 0 n n 1 false), (AV.int .i64 (Int.ofNat 0)), (AV.int .i64 (Int.ofNat n))] (hS .u64 L) = .ok rv rh ∧ (fun (v : AV) (h' : Hp) => v = .tuple [] ∧ h' = hS .u64 (isort L)) rv rh := by
  refine fwalk_ok (o := (.lpx 3 (fun e1 => (.exit 0 e1.t (hS .u64 (isort L)))) (fun e1 => .fin))) (p := (∃ e1 : Ev, evC call N (.loop ins_outC) (ovT [(0, (AV.slice 0 0 n n 1 false)), (1, (AV.int .i64 (Int.ofNat 0))), (2, (AV.int .i64 (Int.ofNat n))), (6, (AV.int .i64 (Int.ofNat 1))), (8, (AV.int .i64 (Int.ofNat 0))), (9, (AV.int .i64 (Int.ofNat 1)))] .lf) (hS .u64 L) = (.exit 0 e1.t (hS .u64 (isort L))) ∧ True ∧ (fun (v : AV) (h' : Hp) => v = .tuple [] ∧ h' = hS .u64 (isort L)) (AV.tuple []) (hS .u64 (isort L)))) (by kernel_rfl) ?_
  obtain ⟨L1, j1, t1, h1, q1, w1, x1⟩ := ins_out_x (N := N) (res := isort L) (L := L) (i := 1) hn hless hNN ⟨rfl, Nat.le_refl _, hLn, by rw [isort, hLn]⟩ (show n - 1 < N by omega) (t := ovT [(0, (AV.slice 0 0 n n 1 false)), (1, (AV.int .i64 (Int.ofNat 0))), (2, (AV.int .i64 (Int.ofNat n))), (6, (AV.int .i64 (Int.ofNat 1))), (8, (AV.int .i64 (Int.ofNat 0))), (9, (AV.int .i64 (Int.ofNat 1)))] .lf) (by kernel_rfl)
  obtain ⟨rfl, rfl⟩ := x1
  refine ⟨(⟨.nilPtr, t1, H0⟩ : Ev), q1, trivial, ?_⟩
  exact ⟨rfl, rfl⟩
theorem pdq_walk {call : CallT} {N : Nat} {h : Hp} {n : Nat} {L : List Int} {lim : Int} (hn : n ≤ 12) (hins : call 121 [AV.slice 0 0 n n 1 false, .int .i64 (.ofNat 0), .int .i64 (.ofNat n)] (hS .u64 L) = .ok (.tuple []) (hS .u64 (isort L)))
    : ∃ rv rh, evF1 (progS Try.prog (compDrawn Try.prog)) (N + 1) call 104 [(AV.slice 0 0 n n 1 false), (AV.int .i64 (Int.ofNat 0)), (AV.int .i64 (Int.ofNat n)), (AV.int .i64 lim)] (hS .u64 L) = .ok rv rh ∧ (fun (v : AV) (h' : Hp) => v = .tuple [] ∧ h' = hS .u64 (isort L)) rv rh := by
  refine fwalk_ok (o := (.tell 5 (AV.int .i64 (Int.ofNat (n - 0))) (.tell 2 (AV.bool true) (.eff 3 (AV.tuple []) (hS .u64 (isort L)) .fin)))) (p := (evQ (.bin .sub (.const (AV.int .i64 (Int.ofNat n))) (.const (AV.int .i64 (Int.ofNat 0)))) .lf H0 = .ok (AV.int .i64 (Int.ofNat (n - 0))) ∧ (evQ (.bin .leq (.const (AV.int .i64 (Int.ofNat (n - 0)))) (.const (AV.int .i64 (Int.ofNat 12)))) .lf H0 = .ok (AV.bool true) ∧ (call 121 [(AV.slice 0 0 n n 1 false), (AV.int .i64 (Int.ofNat 0)), (AV.int .i64 (Int.ofNat n))] (hS .u64 L) = .ok (AV.tuple []) (hS .u64 (isort L)) ∧ (fun (v : AV) (h' : Hp) => v = .tuple [] ∧ h' = hS .u64 (isort L)) (AV.tuple []) (hS .u64 (isort L)))))) (by kernel_rfl) ?_
  refine ⟨q_sub (by omega) (by omega), ?_⟩
  refine ⟨congrArg (fun z => OV.ok (AV.bool (notB z))) (ltI_false (a := 12) (b := n - 0) (by omega)), ?_⟩
  refine ⟨hins, ?_⟩
  exact ⟨rfl, rfl⟩
def bitN (m : Nat) : Int := if m = 0 then 0 else if m < 2 then 1 else if m < 4 then 2 else if m < 8 then 3 else 4
theorem sort_walk {call : CallT} {N : Nat} {h : Hp} {n : Nat} {L : List Int} (hn : n ≤ 12) (hbits : ∀ (m : Nat) (h : Hp), m ≤ 12 → call 105 [.int .u64 (.ofNat m)] h = .ok (.int .i64 (bitN m)) h) (hpdq : ∀ lim : Int, call 104 [AV.slice 0 0 n n 1 false, .int .i64 (.ofNat 0), .int .i64 (.ofNat n), .int .i64 lim] (hS .u64 L) = .ok (.tuple []) (hS .u64 (isort L)))
    : ∃ rv rh, evF1 (progS Try.prog (compDrawn Try.prog)) N call 67 [(AV.slice 0 0 n n 1 false)] (hS .u64 L) = .ok rv rh ∧ (fun (v : AV) (h' : Hp) => v = .tuple [] ∧ h' = hS .u64 (isort L)) rv rh := by
  refine fwalk_ok (o := (.tell 6 (AV.int .u64 (Int.ofNat (n % 18446744073709551616))) (.eff 0 (AV.int .i64 (bitN (n % 18446744073709551616))) (hS .u64 L) (.eff 0 (AV.tuple []) (hS .u64 (isort L)) .fin)))) (p := (evQ (.toInt .u64 (.const (AV.int .i64 (Int.ofNat n)))) .lf H0 = .ok (AV.int .u64 (Int.ofNat (n % 18446744073709551616))) ∧ (call 105 [(AV.int .u64 (Int.ofNat (n % 18446744073709551616)))] (hS .u64 L) = .ok (AV.int .i64 (bitN (n % 18446744073709551616))) (hS .u64 L) ∧ (call 104 [(AV.slice 0 0 n n 1 false), (AV.int .i64 (Int.ofNat 0)), (AV.int .i64 (Int.ofNat n)), (AV.int .i64 (bitN (n % 18446744073709551616)))] (hS .u64 L) = .ok (AV.tuple []) (hS .u64 (isort L)) ∧ (fun (v : AV) (h' : Hp) => v = .tuple [] ∧ h' = hS .u64 (isort L)) (AV.tuple []) (hS .u64 (isort L)))))) (by kernel_rfl) ?_
  refine ⟨u_conv rfl, ?_⟩
  have g1 : n % 18446744073709551616 < 18446744073709551616 := Nat.mod_lt _ (by decide)
  refine ⟨hbits _ _ (by omega), ?_⟩
  refine ⟨hpdq _, ?_⟩
  exact ⟨rfl, rfl⟩
theorem less_walk {call : CallT} {N : Nat} {h : Hp} {x y : Int} (hnan : ∀ (x : Int) (h : Hp), call 139 [.int .u64 x] h = .ok (.bool false) h)
    : ∃ rv rh, evF1 (progS Try.prog (compDrawn Try.prog)) N call 127 [(AV.int .u64 x), (AV.int .u64 y)] h = .ok rv rh ∧ (fun (v : AV) (h' : Hp) => h' = h ∧ v = .bool (ltI x y)) rv rh := by
  refine fwalk_ok (o := (.eff 2 (AV.bool false) h .fin)) (p := (call 139 [(AV.int .u64 x)] h = .ok (AV.bool false) h ∧ (fun (v : AV) (h' : Hp) => h' = h ∧ v = .bool (ltI x y)) (AV.bool (ltI x y)) h)) (by kernel_rfl) ?_
  refine ⟨hnan _ _, ?_⟩
  exact ⟨rfl, rfl⟩
theorem s_nan (d : Nat) (x : Int) (h : Hp) : CC0 (d + 1) 139 [.int .u64 x] h = .ok (.bool false) h := by
  rw [CC0, evF_at rfl]
  refine (show evF1 (progS Try.prog (compDrawn Try.prog)) 100000 _ 139 [.int .u64 x] h = .ok (.bool (notB (eqI x x))) h by kernel_rfl).trans ?_
  rw [show eqI x x = true from eqI_self x]; rfl
theorem s_less (d : Nat) (x y : Int) (h : Hp) : CC0 (d + 2) 127 [.int .u64 x, .int .u64 y] h = .ok (.bool (ltI x y)) h := by
  rw [CC0, evF_at rfl]
  obtain ⟨rv, rh, e, rfl, rfl⟩ := less_walk (call := CC0 (d + 1)) (N := 100000) (x := x) (y := y) (h := h) (s_nan d)
  exact e
theorem bits_0 (d : Nat) (h : Hp) : CC0 (d + 4) 105 [.int .u64 (.ofNat 0)] h = .ok (.int .i64 0) h := by kernel_rfl
theorem bits_1 (d : Nat) (h : Hp) : CC0 (d + 4) 105 [.int .u64 (.ofNat 1)] h = .ok (.int .i64 1) h := by kernel_rfl
theorem bits_2 (d : Nat) (h : Hp) : CC0 (d + 4) 105 [.int .u64 (.ofNat 2)] h = .ok (.int .i64 2) h := by kernel_rfl
theorem bits_3 (d : Nat) (h : Hp) : CC0 (d + 4) 105 [.int .u64 (.ofNat 3)] h = .ok (.int .i64 2) h := by kernel_rfl
theorem bits_4 (d : Nat) (h : Hp) : CC0 (d + 4) 105 [.int .u64 (.ofNat 4)] h = .ok (.int .i64 3) h := by kernel_rfl
theorem bits_5 (d : Nat) (h : Hp) : CC0 (d + 4) 105 [.int .u64 (.ofNat 5)] h = .ok (.int .i64 3) h := by kernel_rfl
theorem bits_6 (d : Nat) (h : Hp) : CC0 (d + 4) 105 [.int .u64 (.ofNat 6)] h = .ok (.int .i64 3) h := by kernel_rfl
theorem bits_7 (d : Nat) (h : Hp) : CC0 (d + 4) 105 [.int .u64 (.ofNat 7)] h = .ok (.int .i64 3) h := by kernel_rfl
theorem bits_8 (d : Nat) (h : Hp) : CC0 (d + 4) 105 [.int .u64 (.ofNat 8)] h = .ok (.int .i64 4) h := by kernel_rfl
theorem bits_9 (d : Nat) (h : Hp) : CC0 (d + 4) 105 [.int .u64 (.ofNat 9)] h = .ok (.int .i64 4) h := by kernel_rfl
theorem bits_10 (d : Nat) (h : Hp) : CC0 (d + 4) 105 [.int .u64 (.ofNat 10)] h = .ok (.int .i64 4) h := by kernel_rfl
theorem bits_11 (d : Nat) (h : Hp) : CC0 (d + 4) 105 [.int .u64 (.ofNat 11)] h = .ok (.int .i64 4) h := by kernel_rfl
theorem bits_12 (d : Nat) (h : Hp) : CC0 (d + 4) 105 [.int .u64 (.ofNat 12)] h = .ok (.int .i64 4) h := by kernel_rfl
theorem s_bits (d m : Nat) (h : Hp) (hm : m ≤ 12) : CC0 (d + 4) 105 [.int .u64 (.ofNat m)] h = .ok (.int .i64 (bitN m)) h := by
  have : m = 0 ∨ m = 1 ∨ m = 2 ∨ m = 3 ∨ m = 4 ∨ m = 5 ∨ m = 6 ∨ m = 7 ∨ m = 8 ∨ m = 9 ∨ m = 10 ∨ m = 11 ∨ m = 12 := by omega
  rcases this with rfl | rfl | rfl | rfl | rfl | rfl | rfl | rfl | rfl | rfl | rfl | rfl | rfl
  · exact bits_0 d h
  · exact bits_1 d h
  · exact bits_2 d h
  · exact bits_3 d h
  · exact bits_4 d h
  · exact bits_5 d h
  · exact bits_6 d h
  · exact bits_7 d h
  · exact bits_8 d h
  · exact bits_9 d h
  · exact bits_10 d h
  · exact bits_11 d h
  · exact bits_12 d h
theorem s_sort {n : Nat} {L : List Int} (hn : n ≤ 12) (hLn : L.length = n) : CC0 8 67 [AV.slice 0 0 n n 1 false] (hS .u64 L) = .ok (.tuple []) (hS .u64 (isort L)) := by
  rw [CC0, evF_at rfl]
  obtain ⟨rv, rh, e, rfl, rfl⟩ := sort_walk (call := CC0 7) (N := 100000) (h := H0) hn (s_bits 3) (fun lim => by
    rw [CC0, evF_at rfl]
    obtain ⟨rv, rh, e, rfl, rfl⟩ := pdq_walk (call := CC0 6) (N := 99999) (h := H0) (lim := lim) (L := L) hn (by
      rw [CC0, evF_at rfl]
      obtain ⟨rv, rh, e, rfl, rfl⟩ := ins_walk (call := CC0 5) (N := 100000) (h := H0) hn hLn (s_less 3) (by decide)
      exact e)
    exact e)
  exact e
theorem sort_row {L : List Int} {W : World} {g : Nat} {cur : Array Value} {el : TypeId} (hg : W.heap[g]? = some (.cells cur el (0, 0))) (ht : cur.toList.take L.length = L.map (Value.int .u64)) (hL : L.length ≤ cur.size) (hn : L.length ≤ 12) :
    Calls Try.prog 67 #[.slice (some ⟨g, 0, none⟩) L.length cur.size] W fun e W' => e = .returned (.tuple #[]) ∧ CallR (mpS g cur.size) (hS .u64 L) W (.tuple []) (hS .u64 (isort L)) e W' := by
  refine (evF_ok compDrawn_ok noM_ok 100000 8 67 [AV.slice 0 0 L.length L.length 1 false] (hS .u64 L) _ _ (mpS g cur.size) W _ (s_sort hn rfl) (sim_row hg ht hL) ?_).2.mono fun e W' r => ⟨?_, r⟩
  · rw [VRs_cons]
    refine ⟨_, _, rfl, ?_, by rw [VRs_nil]⟩
    unfold VR
    exact ⟨g, 0, ⟨g, 0, none⟩, cur.size, rfl, rfl, Nat.le_refl _, hL, (fun h => by cases h), fun _ => ⟨rfl, by show 0 + 0 + cur.size * 1 ≤ cur.size; omega⟩⟩
  · obtain ⟨μ', y, rfl, ry, _⟩ := r
    unfold VR at ry
    obtain ⟨l, rfl, hl⟩ := ry
    rw [VRs_nil] at hl
    obtain rfl : l = #[] := Array.toList_eq_nil_iff.1 hl
    rfl
theorem sort_nil (W : World) : Calls Try.prog 67 #[.slice none 0 0] W fun e W' => e = .returned (.tuple #[]) ∧ Below W.heap.size W W' := by
  refine (evF_ok compDrawn_ok noM_ok 100000 8 67 [.nilSlice] H0 (.tuple []) H0 Mp.none W _ (by kernel_rfl) (.none W) ?_).2.mono fun e W' r => ?_
  · rw [VRs_cons]
    exact ⟨_, _, rfl, by unfold VR; rfl, by rw [VRs_nil]⟩
  · obtain ⟨μ', y, rfl, ry, _, gs⟩ := r
    unfold VR at ry
    obtain ⟨l, rfl, hl⟩ := ry
    rw [VRs_nil] at hl
    obtain rfl : l = #[] := Array.toList_eq_nil_iff.1 hl
    exact ⟨rfl, gs.below⟩
set_option maxRecDepth 100000 in
set_option maxHeartbeats 2000000 in
theorem sorted_in (g : Nat) (lb : Array Value) (eg : ∀ args w, (callFunc g args).run Try.prog w = .ok (.enter g args) w) (K : List Int) (hK : K.length ≤ 12) (w : World) (hseq : SeqGives Fence.wide 3 Try.prog g lb (enQ .u64) (fun ss => ss.Perm K) K.length w) :
    Calls Try.prog 43 #[.func (.func g) #[] lb] w fun e w' => Below w.heap.size w w' ∧ ((e = .returned (.slice none 0 0) ∧ K = []) ∨ ∃ gb cap arr el fr, e = .returned (.slice (some ⟨gb, 0, none⟩) K.length cap) ∧ K ≠ [] ∧ w.heap.size ≤ gb ∧ w'.heap[gb]? = some (.cells arr el fr) ∧ arr.size = cap ∧ Unmarked arr.size fr ∧ (∀ (i : Nat) (z : Int), (isort K)[i]? = some z → arr[i]? = some (.int .u64 z)) ∧ K.length ≤ cap) := by
  refine (callsIn_wide (n := 6)).1 ?_
  have hfC : Fence.wide.fn 66 := trivial
  have hfS : Fence.wide.fn 67 := trivial
  have cS := collect_in Fence.wide 5 trivial trivial rfl (by omega) g lb trivial eg _ K.length (Nat.le_trans hK (by decide)) (by omega) w hseq
  refine callsIn_of_wp Try.func43 rfl trivial ?_ rfl
  simp only [Try.ntmps43, List.size_toArray, List.length_cons, List.length_nil, Nat.reduceAdd, Nat.reduceSub, Array.replicate_succ, Array.replicate_zero, List.push_toArray, List.append_toArray, List.nil_append, List.cons_append]
  gi_wp2_with (gi_at_call 66; refine cS.mono ?_; rintro e W ⟨v, ss, rfl, hS, hrow, hnil, hb⟩)
  rcases hrow.2 with ⟨rfl, hz⟩ | ⟨gb, cap, cur, rfl, hbase, hgb, r1, r2, r3, r4⟩
  · have hss : ss = [] := List.eq_nil_of_length_eq_zero hz
    subst hss
    have hKn : K = [] := by have := hS.length_eq; exact List.eq_nil_of_length_eq_zero this.symm
    gi_wp2_with (gi_at_call 67; refine (callsIn_wide.2 (sort_nil W)).mono ?_; rintro e w' ⟨rfl, hb2⟩)
    go_ret
    exact ⟨hb.trans (hb2.mono hb.size), .inl ⟨rfl, hKn⟩⟩
  · have hlen : ss.length = K.length := hS.length_eq
    have hsz : cur.size = cap := by omega
    subst hsz
    clear r3
    have r5 : cur.toList.take ss.length = ss.map (Value.int .u64) := by rw [← Nat.mul_one ss.length]; exact r4
    have hKn : ss ≠ [] := fun e => by have h5 := hnil.2 e; cases h5
    gi_wp2_with (gi_at_call 67; refine (callsIn_wide.2 (sort_row hgb r5 (by omega) (by omega))).mono ?_; rintro e w' ⟨rfl, hr⟩; obtain ⟨arr, el, fr, h1, h2, h3, h4, h5⟩ := row_after (Array.getElem?_eq_some_iff.1 hgb).1 hr; clear hr cS hseq)
    go_ret
    refine ⟨hb.trans (h5 _ hbase), .inr ⟨gb, _, arr, el, fr, rfl, fun e => hKn (by rw [e] at hlen; exact List.eq_nil_of_length_eq_zero hlen), hbase, h1, h2, h3, ?_, by omega⟩⟩
    rw [← isort_of_perm hS]; exact h4
noncomputable def rowOf (l : List Int) (h : Hp) : RV := lcase (.ok .nilSlice h) (fun _ _ => .ok (.slice h.next 0 (len l) (len l) 1 false) (hpush h (mkCells (lmap (AV.int .u64) l) (len l)))) l
theorem row_call {g : Nat} {lb : Array Value} (eg : ∀ args w, (callFunc g args).run Try.prog w = .ok (.enter g args) w) {K l : List Int} (hp : K.Perm l) (hK : l.length ≤ 12) {μ : Mp} {h h' : Hp} {v : AV} {w : World} (hs : Sim μ h w) (hseq : SeqGives Fence.wide 3 Try.prog g lb (enQ .u64) (fun ss => ss.Perm K) K.length w) (e : rowOf (sortK l) h = .ok v h') :
    Calls Try.prog 43 #[.func (.func g) #[] lb] w (CallR μ h w v h') := by
  have hlen := hp.length_eq
  refine (sorted_in g lb eg K (by omega) w hseq).mono fun e' w' ⟨hb, hr⟩ => ?_
  have hKl : isort K = sortK l := by rw [isort_of_perm hp, isort_eq]
  have hsl : (sortK l).length = l.length := (sortK_perm l).length_eq
  rcases hr with ⟨rfl, hn⟩ | ⟨gb, cap, arr, el, fr, rfl, hn, hg, h1, h2, h3, h4, h5⟩
  · subst hn
    have h0 : sortK l = [] := List.eq_nil_of_length_eq_zero (by rw [hsl, ← hlen]; rfl)
    rw [h0] at e
    cases e
    exact told_nil hs hb
  · rw [hKl] at h4
    have hkl : K.length = (sortK l).length := by omega
    rw [hkl]
    rw [hkl] at h5
    cases hq : sortK l with
    | nil => rw [hq] at hkl; exact absurd (List.eq_nil_of_length_eq_zero hkl) hn
    | cons a t =>
      rw [hq] at e h4 h5
      have e : RV.ok (.slice h.next 0 (len (a :: t)) (len (a :: t)) 1 false) (hpush h (mkCells (lmap (AV.int .u64) (a :: t)) (len (a :: t)))) = .ok v h' := e
      rw [len_eq, lmap_eq] at e
      cases e
      exact told_row hs hb hg h1 h2 h3 h4 h5
noncomputable def keysM (args : List AV) (h : Hp) : RV := match args with
  | [.func (.func g) [] [.ptr b o]] => bc (lall (fun k => notB (Nat.beq k g)) [68]) .no ((rd h b o).cs .no fun m => m.asMap .no .no fun mb => hmap h mb .no fun es n ck => ocase .no (fun l => rowOf (sortK l) h) (keysOf .u64 es n ck))
  | _ => .no
noncomputable def sumK (f : Nat) : Option (List AV → Hp → RV) := bc (Nat.beq f 43) (some keysM) none
theorem keys_call_68 {μ : Mp} {h h' : Hp} {v m : AV} {w : World} {b o c s : Nat} (hs : Sim μ h w) (hat : μ.at_ b = some (c, s)) (hr : rd h b o = .ok m) (e : (m.asMap RV.no .no fun mb => hmap h mb .no fun es n ck => ocase .no (fun l => rowOf (sortK l) h) (keysOf .u64 es n ck)) = .ok v h') :
    Calls Try.prog 43 #[.func (.func 68) #[] #[.pointer (some ⟨c, s + o, none⟩)]] w (CallR μ h w v h') := by
  rcases asMap_inv e nofun with ⟨rfl, e1⟩ | ⟨mb, rfl, e1⟩
  · cases e1
  · obtain ⟨es, n, ck, hm, e2⟩ := hmap_inv e1 nofun
    obtain ⟨l, hk, e3⟩ := ocase_inv e2 nofun
    obtain ⟨x, hx, hv, _⟩ := rd_ok hs hat hr
    unfold VR at hv
    obtain ⟨cm, sm, hatm, rfl⟩ := hv
    obtain ⟨D0, hown, hp, hz, h12⟩ := owns_blk (P := Try.prog) (k := 42) Try.underlying42 (hs.blk mb cm sm _ hatm hm) hk
    have hseq := gives_68 Fence.wide 3 trivial rfl (by decide) c (s + o) cm n D0 _ w (hs.old b c s hat) hx hown
    rw [show Maps.size D0 = (keysD D0).length by rw [hz, hp.length_eq]] at hseq
    exact row_call (enters_of Try.func68 (by kernel_rfl) rfl) hp h12 hs hseq e3
theorem sumK_ok : Eng.Good Try.prog fun f args h => ocase .no (fun m => m args h) (sumK f) := fun f args h v h' μ w cargs e hs r => by
  replace e : ocase RV.no (fun m => m args h) (bc (Nat.beq f 43) (some keysM) none) = .ok v h' := e
  cases hf : Nat.beq f 43 with
  | false => rw [hf] at e; cases e
  | true =>
    obtain rfl : f = 43 := Nat.eq_of_beq_eq_true hf
    rw [hf] at e
    replace e : keysM args h = .ok v h' := e
    refine ⟨⟨_, _, Try.func43, by decide, rfl⟩, ?_⟩
    unfold keysM at e
    split at e
    · rename_i args g b o
      replace e := bc_inv' e
      obtain ⟨hg, e⟩ := e
      rw [VRs_cons] at r
      obtain ⟨x0, xs, hx, rx, rxs⟩ := r
      rw [VRs_nil] at rxs
      subst rxs
      unfold VR at rx
      obtain ⟨a', b', rfl, ra, rb⟩ := rx
      rw [VRs_nil] at ra
      obtain rfl : a' = #[] := Array.toList_eq_nil_iff.1 ra
      rw [VRs_cons] at rb
      obtain ⟨y0, ys, hy, ry, rys⟩ := rb
      rw [VRs_nil] at rys
      subst rys
      unfold VR at ry
      obtain ⟨c, s, hat, rfl⟩ := ry
      obtain rfl : cargs = #[.func (.func g) #[] b'] := by cases cargs; simp at hx; simp [hx]
      obtain rfl : b' = #[.pointer (some ⟨c, s + o, none⟩)] := by cases b'; simp at hy; simp [hy]
      cases hr : rd h b o with
      | no => rw [hr] at e; cases e
      | ok m =>
        rw [hr] at e
        have hin : g ∈ [68] := by
          apply Classical.byContradiction
          intro hne
          have : lall (fun k => notB (Nat.beq k g)) [68] = true := lall_iff.2 fun k hk => by
            rw [beqF (fun e => hne (by rw [← e]; exact hk))]; rfl
          rw [this] at hg; cases hg
        simp only [List.mem_cons, List.not_mem_nil, or_false] at hin
        subst hin
        exact keys_call_68 hs hat hr e
    · cases e
end Go.Proofs.Ytpelnanckmjoaaa
end
section
set_option linter.unusedVariables false
set_option linter.unusedSimpArgs false
namespace Go.Proofs.Ytpelnanckmjoaaa
open Go Eng
noncomputable abbrev HC (d : Nat) : CallT := evF (orM (sumT [21]) sumK) (progS Try.prog (compDrawn Try.prog)) 100000 d
noncomputable def keyS (es : List (Nat × Int)) : List Nat := (sortK (es.map fun p => Int.ofNat p.1)).map Int.toNat
theorem sortK_nat (es : List (Nat × Int)) : sortK (es.map fun p => Int.ofNat p.1) = (keyS es).map Int.ofNat := by
  have hm : ∀ z ∈ sortK (es.map fun p => Int.ofNat p.1), z = Int.ofNat z.toNat := fun z hz => by
    have := (sortK_perm (es.map fun p => Int.ofNat p.1)).mem_iff.1 hz
    obtain ⟨p, _, rfl⟩ := List.mem_map.1 this
    rfl
  unfold keyS
  rw [List.map_map]
  have : ∀ l : List Int, (∀ z ∈ l, z = Int.ofNat z.toNat) → l = l.map (Int.ofNat ∘ Int.toNat) := fun l h => by
    induction l with
    | nil => rfl
    | cons a l ih => rw [List.map_cons, ← ih fun z hz => h z (by simp [hz])]; show a :: l = Int.ofNat a.toNat :: l; rw [← h a (by simp)]
  exact this _ hm
theorem sorted_call {os : List AObj} {h : Hp} (d : Nat) (S : Sep os h) {i j bx : Nat} {m : AV} {es : List (Nat × Int)} (hi : os[i]? = some (Cel bx [m])) (hj : os[j]? = some (MapO m es)) (hb : ∀ p ∈ es, p.1 < 18446744073709551616) (h12 : es.length ≤ 12) :
    ∃ e : Ev, HC (d + 1) 43 [.func (.func 68) [] [.ptr bx 0]] h = .ok e.v e.h ∧ Sep (OwnO 1 e.v (keyS es).length ((keyS es).map fun n => .int .u64 (.ofNat n)) :: os) e.h := by
  have hcel := cel_get S hi
  obtain ⟨b, E, c, rfl, h3, h4, h5⟩ := map_get S hj
  have ev : HC (d + 1) 43 [.func (.func 68) [] [.ptr bx 0]] h = (rd h bx 0).cs .no fun m => m.asMap .no .no fun mb => hmap h mb .no fun es n ck => ocase .no (fun l => rowOf (sortK l) h) (keysOf .u64 es n ck) := rfl
  have hr : rd h bx 0 = .ok (.map b) := by
    show hcells h bx OV.no _ = _
    unfold hcells; rw [hcel]; rfl
  have ev2 : HC (d + 1) 43 [.func (.func 68) [] [.ptr bx 0]] h = rowOf ((keyS es).map Int.ofNat) h := by
    rw [ev, hr]
    show hmap h b RV.no (fun es n ck => ocase RV.no (fun l => rowOf (sortK l) h) (keysOf .u64 es n ck)) = _
    unfold hmap; rw [h3]
    show ocase RV.no (fun l => rowOf (sortK l) h) (keysOf .u64 E es.length c) = _
    rw [keysOf_eq h4 h5 hb h12]
    show rowOf (sortK _) h = _
    rw [sortK_nat]
  rw [ev2]
  cases hk : keyS es with
  | nil => exact ⟨⟨.nilSlice, .lf, h⟩, rfl, own_nil S 1⟩
  | cons a l =>
    refine ⟨⟨_, .lf, _⟩, rfl, ?_⟩
    have e1 : lmap (AV.int .u64) ((a :: l).map Int.ofNat) = (a :: l).map fun n => AV.int .u64 (.ofNat n) := by rw [lmap_eq, List.map_map]; rfl
    have e2 : len ((a :: l).map Int.ofNat) = (a :: l).length := by rw [len_eq, List.length_map]
    show Sep (OwnO 1 (.slice h.next 0 (len ((a :: l).map Int.ofNat)) (len ((a :: l).map Int.ofNat)) 1 false) _ _ :: os) (hpush h (mkCells (lmap (AV.int .u64) ((a :: l).map Int.ofNat)) (len ((a :: l).map Int.ofNat))))
    rw [e1, e2]
    have := own_new S 1 (a :: l).length ((a :: l).map fun n => AV.int .u64 (.ofNat n)) false (by rw [List.length_map, Nat.mul_one])
    rw [Nat.mul_one] at this
    exact this
theorem new_call (d : Nat) (h : Hp) : HC (d + 1) 22 [] h = .ok (.ptr (hpush h (.mp [] 0 0)).next 0) (hpush (hpush h (.mp [] 0 0)) (mkCells [.map h.next, .int .u64 (.ofNat 0)] 2)) := by
  rw [HC, evF_at (show orM (sumT [21]) sumK 22 = none from rfl)]
  kernel_rfl
theorem keys_call (d : Nat) (h : Hp) (b : Nat) : HC (d + 1) 44 [.map b] h = .ok (.func (.func 68) [] [.ptr h.next 0]) (hpush h (mkCells [.map b] 1)) := by
  rw [HC, evF_at (show orM (sumT [21]) sumK 44 = none from rfl)]
  kernel_rfl
theorem rows_u64 {G : Nat → Prop} {h : Hp} : ∀ {l : List Nat}, (∀ x ∈ l, x < 18446744073709551616) → Eng.Rows (rU .u64) G h (l.map fun n => .int .u64 (.ofNat n)) l
  | [], _ => rfl
  | x :: l, hb => ⟨[.int .u64 (.ofNat x)], l.map fun n => .int .u64 (.ofNat n), rfl, ⟨rfl, hb x (by simp)⟩, rows_u64 fun y hy => hb y (by simp [hy])⟩
theorem keyS_bd {es : List (Nat × Int)} (hb : ∀ p ∈ es, p.1 < 18446744073709551616) : ∀ x ∈ keyS es, x < 18446744073709551616 := fun x hx => by
  unfold keyS at hx
  obtain ⟨z, hz, rfl⟩ := List.mem_map.1 hx
  have := (sortK_perm (es.map fun p => Int.ofNat p.1)).mem_iff.1 hz
  obtain ⟨p, hp, rfl⟩ := List.mem_map.1 this
  exact hb p hp
def NewS (call : CallT) : Prop := ∀ h : Hp, call 22 [] h = .ok (.ptr (hpush h (.mp [] 0 0)).next 0) (hpush (hpush h (.mp [] 0 0)) (mkCells [.map h.next, .int .u64 (.ofNat 0)] 2))
def KeyIS (call : CallT) : Prop := ∀ {os : List AObj} {h : Hp}, Sep os h → ∀ {i : Nat} {m : AV} {es : List (Nat × Int)}, os[i]? = some (MapO m es) → call 44 [m] h = .ok (.func (.func 68) [] [.ptr h.next 0]) (hpush h (mkCells [m] 1))
def SortS (call : CallT) : Prop := ∀ {os : List AObj} {h : Hp}, Sep os h → ∀ {i j bx : Nat} {m : AV} {es : List (Nat × Int)}, os[i]? = some (Cel bx [m]) → os[j]? = some (MapO m es) → (∀ p ∈ es, p.1 < 18446744073709551616) → es.length ≤ 12 →
    ∃ e : Ev, call 43 [.func (.func 68) [] [.ptr bx 0]] h = .ok e.v e.h ∧ Sep (OwnO 1 e.v (keyS es).length ((keyS es).map fun n => .int .u64 (.ofNat n)) :: os) e.h
theorem s_new (d : Nat) : NewS (HC (d + 1)) := new_call d
theorem s_keyi (d : Nat) : KeyIS (HC (d + 1)) := by
  intro os h S i m es hi
  obtain ⟨b, E, c, rfl, _⟩ := map_get S hi
  exact keys_call d _ b
theorem s_sorted (d : Nat) : SortS (HC (d + 1)) := by
  intro os h S i j bx m es hi hj hb h12
  exact sorted_call d S hi hj hb h12
end Go.Proofs.Ytpelnanckmjoaaa
end
section
set_option linter.unusedVariables false
set_option linter.unusedSimpArgs false
namespace Go.Proofs.Ytpelnanckmjoaaa
open Go Eng
noncomputable abbrev CC (d : Nat) : CallT := evF (orM (sumT [21]) sumK) (progS Try.prog (compDrawn Try.prog)) 100000 d
noncomputable def hadd_p (m : List (Nat × Int)) (last : Nat) (x : Int) : Option (List (Nat × Int) × Nat × Nat × Nat) :=
  (if 8 ≤ m.length then (some (m, last, 0, 12)) else
    (some (putM m ((last + 1) % 18446744073709551616) x, (last + 1) % 18446744073709551616, (last + 1) % 18446744073709551616, 0)))
theorem hadd_w {call : CallT} {N : Nat} {h : Hp} {h0 : Hp} {G : Nat → Prop} {R : List AObj} {b : Nat} {wm_1 : AV} {m : List (Nat × Int)} {last : Nat} {x : Int} (fm_2 : ∀ p ∈ m, p.1 < 18446744073709551616) (flast_1 : last < 18446744073709551616)  {r : List (Nat × Int) × Nat × Nat × Nat} (hp : hadd_p m last x = some r) (S : Eng.Sep (Cel b [wm_1, (vq last)] :: MapO wm_1 m :: Frz G h0 :: R) h) :
    ∃ rv rh, evF1 (progS Try.prog (compDrawn Try.prog)) N call 25 [(AV.ptr b 0), (AV.int .i64 x)] h = .ok rv rh ∧ (fun (rv : AV) (rh : Hp) => ∃ wk2 : AV, rv = (AV.tuple [(vq r.2.2.1), (vi r.2.2.2)]) ∧ (r.2.2.1 < 18446744073709551616) ∧ (∀ p ∈ r.1, p.1 < 18446744073709551616) ∧ (r.2.1 < 18446744073709551616) ∧ Eng.Sep (Cel b (wk2 :: (vq r.2.1) :: []) :: MapO wk2 r.1 :: Frz G h0 :: R) rh) rv rh := by
  unfold hadd_p at hp
  refine fwalk_ok (K := (fun (rv : AV) (rh : Hp) => ∃ wk2 : AV, rv = (AV.tuple [(vq r.2.2.1), (vi r.2.2.2)]) ∧ (r.2.2.1 < 18446744073709551616) ∧ (∀ p ∈ r.1, p.1 < 18446744073709551616) ∧ (r.2.1 < 18446744073709551616) ∧ Eng.Sep (Cel b (wk2 :: (vq r.2.1) :: []) :: MapO wk2 r.1 :: Frz G h0 :: R) rh)) (o := (.tell 8 wm_1 (.tell 0 (vi m.length) (.fork 1 .fin (.tell 3 (vq last) (.tell 0 (vq ((last + 1) % 18446744073709551616)) (.effx 2 (fun e3 => (AV.tuple [])) (fun e3 => (.tell 3 wm_1 (.tell 3 (vq ((last + 1) % 18446744073709551616)) (.again 1 (.effx 0 (fun e5 => (AV.tuple [])) (fun e5 => (.tell 4 (vq ((last + 1) % 18446744073709551616)) .fin)))))))))))))) (p := (fun (KK : AV → Hp → Prop) => ((evQ (.loadS (.const (AV.ptr b 0))) .lf h = .ok wm_1 ∧ ((evQ (.lenM (.const wm_1)) .lf h = .ok (vi m.length) ∧ ((notB (ltI (Int.ofNat m.length) (Int.ofNat 8)) = true → KK (AV.tuple [(vq 0), (vi 12)]) h) ∧ (notB (ltI (Int.ofNat m.length) (Int.ofNat 8)) = false → ((evQ (.loadS (.const (AV.ptr b 1))) .lf h = .ok (vq last) ∧ ((evQ (.bin .add (.const (vq last)) (.const (vq 1))) .lf H0 = .ok (vq ((last + 1) % 18446744073709551616)) ∧ (∃ e3 : Ev, evE (.store 1 (.const (AV.ptr b 1)) (.const (vq ((last + 1) % 18446744073709551616)))) call .lf h = .ok (AV.tuple []) e3.h ∧ ((evQ (.loadS (.const (AV.ptr b 0))) .lf e3.h = .ok wm_1 ∧ ((evQ (.loadS (.const (AV.ptr b 1))) .lf e3.h = .ok (vq ((last + 1) % 18446744073709551616)) ∧ ((again (.move (.const (AV.int .i64 x))) .lf (AV.int .i64 x) e3.h = true ∧ again (.loadS (.const (AV.ptr b 1))) .lf (vq ((last + 1) % 18446744073709551616)) e3.h = true ∧ again (.fieldAddr 1 (.const (AV.ptr b 0))) .lf (AV.ptr b 1) e3.h = true ∧ again (.nilCheck (.const (AV.ptr b 0))) .lf (AV.ptr b 0) e3.h = true ∧ again (.move (.const (AV.ptr b 0))) .lf (AV.ptr b 0) e3.h = true ∧ again (.loadS (.const (AV.ptr b 0))) .lf wm_1 e3.h = true ∧ again (.fieldAddr 0 (.const (AV.ptr b 0))) .lf (AV.ptr b 0) e3.h = true ∧ again (.nilCheck (.const (AV.ptr b 0))) .lf (AV.ptr b 0) e3.h = true ∧ again (.move (.const (AV.ptr b 0))) .lf (AV.ptr b 0) e3.h = true ∧ True) ∧ (∃ e5 : Ev, evE (.mapUpdate false (.const wm_1) (.const (vq ((last + 1) % 18446744073709551616))) (.const (AV.int .i64 x))) call .lf e3.h = .ok (AV.tuple []) e5.h ∧ ((evQ (.loadS (.const (AV.ptr b 1))) .lf e5.h = .ok (vq ((last + 1) % 18446744073709551616)) ∧ KK (AV.tuple [(vq ((last + 1) % 18446744073709551616)), (vi 0)]) e5.h)))))))))))))))))))) (fun (rv : AV) (rh : Hp) => ∃ wk2 : AV, rv = (AV.tuple [(vq r.2.2.1), (vi r.2.2.2)]) ∧ (r.2.2.1 < 18446744073709551616) ∧ (∀ p ∈ r.1, p.1 < 18446744073709551616) ∧ (r.2.1 < 18446744073709551616) ∧ Eng.Sep (Cel b (wk2 :: (vq r.2.1) :: []) :: MapO wk2 r.1 :: Frz G h0 :: R) rh)) (by kernel_rfl) ?_
  refine ⟨cel_load S (i := 0) rfl rfl, ?_⟩
  refine ⟨map_len S (i := 1) rfl, ?_⟩
  refine ⟨fun c1 => ?_, fun c1 => ?_⟩
  · replace c1 := ltI_f (notB_t c1)
    replace hp := ift hp c1
    obtain rfl := Option.some.inj hp
    exact ⟨wm_1, rfl, (show 0 < 18446744073709551616 by decide), fm_2, flast_1, S⟩
  replace c1 := ltI_t (notB_f c1)
  replace hp := iff0 hp (nleO c1)
  refine ⟨cel_load S (i := 0) rfl rfl, ?_⟩
  refine ⟨u_add rfl, ?_⟩
  have g2 : (last + 1) % 18446744073709551616 < 18446744073709551616 := Nat.mod_lt _ (by decide)
  obtain ⟨e3, qe3, se3⟩ := cel_store call S (i := 0) (o := 1) (x := (vq ((last + 1) % 18446744073709551616))) rfl (lb rfl) rfl
  refine ⟨e3, qe3, ?_⟩
  refine ⟨cel_load se3 (i := 0) rfl rfl, ?_⟩
  refine ⟨cel_load se3 (i := 0) rfl rfl, ?_⟩
  refine ⟨⟨again_of (rfl) (avEq_int _ _), again_of (cel_load se3 (i := 0) rfl rfl) (avEq_int _ _), again_of (rfl) (avEq_ptr _ _), again_of (rfl) (avEq_ptr _ _), again_of (rfl) (avEq_ptr _ _), again_of (cel_load se3 (i := 0) rfl rfl) (map_same se3 (i := 1) rfl), again_of (rfl) (avEq_ptr _ _), again_of (rfl) (avEq_ptr _ _), again_of (rfl) (avEq_ptr _ _), trivial⟩, ?_⟩
  obtain ⟨e5, qe5, se5⟩ := map_put call se3 (i := 1) rfl (k := (last + 1) % 18446744073709551616) (x := x)
  refine ⟨e5, qe5, ?_⟩
  refine ⟨cel_load se5 (i := 0) rfl rfl, ?_⟩
  obtain rfl := Option.some.inj hp
  exact ⟨wm_1, rfl, g2, (putM_bd fm_2 g2), g2, se5⟩
def C_hadd (call : CallT) : Prop := ∀ {h : Hp} {h0 : Hp} {G : Nat → Prop} {R : List AObj} {b : Nat} {wm_1 : AV} {m : List (Nat × Int)} {last : Nat} {x : Int} (fm_2 : ∀ p ∈ m, p.1 < 18446744073709551616) (flast_1 : last < 18446744073709551616) {r : List (Nat × Int) × Nat × Nat × Nat}, hadd_p m last x = some r → Eng.Sep (Cel b [wm_1, (vq last)] :: MapO wm_1 m :: Frz G h0 :: R) h → ∃ rv rh, call 25 [(AV.ptr b 0), (AV.int .i64 x)] h = .ok rv rh ∧ ∃ wk2 : AV, rv = (AV.tuple [(vq r.2.2.1), (vi r.2.2.2)]) ∧ (r.2.2.1 < 18446744073709551616) ∧ (∀ p ∈ r.1, p.1 < 18446744073709551616) ∧ (r.2.1 < 18446744073709551616) ∧ Eng.Sep (Cel b (wk2 :: (vq r.2.1) :: []) :: MapO wk2 r.1 :: Frz G h0 :: R) rh
theorem s_hadd (d : Nat) : C_hadd (CC (d + 1)) := by
  intro h h0 G R b wm_1 m last x fm_2 flast_1 r hp S
  rw [CC, evF_at (show orM (sumT [21]) sumK 25 = none from rfl)]
  exact hadd_w (call := CC (d + 0)) (N := 100000) fm_2 flast_1  hp S
noncomputable def hget_p (m : List (Nat × Int)) (last : Nat) (k : Nat) : Option (List (Nat × Int) × Nat × Int × Nat) :=
  (if (lookM m k).isSome = false then (some (m, last, (0 : Int), 9)) else
    (some (m, last, (lookM m k).getD 0, 0)))
theorem hget_w {call : CallT} {N : Nat} {h : Hp} {h0 : Hp} {G : Nat → Prop} {R : List AObj} {b : Nat} {wm_1 : AV} {m : List (Nat × Int)} {last : Nat} {k : Nat} (fm_2 : ∀ p ∈ m, p.1 < 18446744073709551616) (flast_1 : last < 18446744073709551616) (fk_1 : k < 18446744073709551616)  {r : List (Nat × Int) × Nat × Int × Nat} (hp : hget_p m last k = some r) (S : Eng.Sep (Cel b [wm_1, (vq last)] :: MapO wm_1 m :: Frz G h0 :: R) h) :
    ∃ rv rh, evF1 (progS Try.prog (compDrawn Try.prog)) N call 24 [(AV.ptr b 0), (vq k)] h = .ok rv rh ∧ (fun (rv : AV) (rh : Hp) => ∃ wk1 : AV, rv = (AV.tuple [(AV.int .i64 r.2.2.1), (vi r.2.2.2)]) ∧ (∀ p ∈ r.1, p.1 < 18446744073709551616) ∧ (r.2.1 < 18446744073709551616) ∧ Eng.Sep (Cel b (wk1 :: (vq r.2.1) :: []) :: MapO wk1 r.1 :: Frz G h0 :: R) rh) rv rh := by
  unfold hget_p at hp
  refine fwalk_ok (K := (fun (rv : AV) (rh : Hp) => ∃ wk1 : AV, rv = (AV.tuple [(AV.int .i64 r.2.2.1), (vi r.2.2.2)]) ∧ (∀ p ∈ r.1, p.1 < 18446744073709551616) ∧ (r.2.1 < 18446744073709551616) ∧ Eng.Sep (Cel b (wk1 :: (vq r.2.1) :: []) :: MapO wk1 r.1 :: Frz G h0 :: R) rh)) (o := (.tell 7 wm_1 (.tell 1 (AV.tuple [(AV.int .i64 ((lookM m k).getD 0)), (AV.bool ((lookM m k).isSome))]) (.fork 6 .fin .fin)))) (p := (fun (KK : AV → Hp → Prop) => ((evQ (.loadS (.const (AV.ptr b 0))) .lf h = .ok wm_1 ∧ ((evQ (.lookup false (AV.int .i64 0) true (.const wm_1) (.const (vq k))) .lf h = .ok (AV.tuple [(AV.int .i64 ((lookM m k).getD 0)), (AV.bool ((lookM m k).isSome))]) ∧ ((notB ((lookM m k).isSome) = true → KK (AV.tuple [(vi 0), (vi 9)]) h) ∧ (notB ((lookM m k).isSome) = false → KK (AV.tuple [(AV.int .i64 ((lookM m k).getD 0)), (vi 0)]) h))))))) (fun (rv : AV) (rh : Hp) => ∃ wk1 : AV, rv = (AV.tuple [(AV.int .i64 r.2.2.1), (vi r.2.2.2)]) ∧ (∀ p ∈ r.1, p.1 < 18446744073709551616) ∧ (r.2.1 < 18446744073709551616) ∧ Eng.Sep (Cel b (wk1 :: (vq r.2.1) :: []) :: MapO wk1 r.1 :: Frz G h0 :: R) rh)) (by kernel_rfl) ?_
  refine ⟨cel_load S (i := 0) rfl rfl, ?_⟩
  refine ⟨map_look S (i := 1) rfl, ?_⟩
  refine ⟨fun c1 => ?_, fun c1 => ?_⟩
  · replace c1 := notB_t c1
    replace hp := ift hp c1
    obtain rfl := Option.some.inj hp
    exact ⟨wm_1, rfl, fm_2, flast_1, S⟩
  replace c1 := notB_f c1
  replace hp := iff0 hp (nbT c1)
  obtain rfl := Option.some.inj hp
  exact ⟨wm_1, rfl, fm_2, flast_1, S⟩
def C_hget (call : CallT) : Prop := ∀ {h : Hp} {h0 : Hp} {G : Nat → Prop} {R : List AObj} {b : Nat} {wm_1 : AV} {m : List (Nat × Int)} {last : Nat} {k : Nat} (fm_2 : ∀ p ∈ m, p.1 < 18446744073709551616) (flast_1 : last < 18446744073709551616) (fk_1 : k < 18446744073709551616) {r : List (Nat × Int) × Nat × Int × Nat}, hget_p m last k = some r → Eng.Sep (Cel b [wm_1, (vq last)] :: MapO wm_1 m :: Frz G h0 :: R) h → ∃ rv rh, call 24 [(AV.ptr b 0), (vq k)] h = .ok rv rh ∧ ∃ wk1 : AV, rv = (AV.tuple [(AV.int .i64 r.2.2.1), (vi r.2.2.2)]) ∧ (∀ p ∈ r.1, p.1 < 18446744073709551616) ∧ (r.2.1 < 18446744073709551616) ∧ Eng.Sep (Cel b (wk1 :: (vq r.2.1) :: []) :: MapO wk1 r.1 :: Frz G h0 :: R) rh
theorem s_hget (d : Nat) : C_hget (CC (d + 1)) := by
  intro h h0 G R b wm_1 m last k fm_2 flast_1 fk_1 r hp S
  rw [CC, evF_at (show orM (sumT [21]) sumK 24 = none from rfl)]
  exact hget_w (call := CC (d + 0)) (N := 100000) fm_2 flast_1 fk_1  hp S
noncomputable def hclose_p (m : List (Nat × Int)) (last : Nat) (k : Nat) : Option (List (Nat × Int) × Nat × Int × Nat) :=
  (ob (hget_p m last k) fun x1 =>
    (if x1.2.2.2 = 0 then (some (delM x1.1 k, x1.2.1, x1.2.2.1, x1.2.2.2)) else
    (some (x1.1, x1.2.1, x1.2.2.1, x1.2.2.2))))
theorem hclose_w {call : CallT} {N : Nat} {h : Hp} {h0 : Hp} {G : Nat → Prop} {R : List AObj} {b : Nat} {wm_1 : AV} {m : List (Nat × Int)} {last : Nat} {k : Nat} (fm_2 : ∀ p ∈ m, p.1 < 18446744073709551616) (flast_1 : last < 18446744073709551616) (fk_1 : k < 18446744073709551616) (h_hget : C_hget call) {r : List (Nat × Int) × Nat × Int × Nat} (hp : hclose_p m last k = some r) (S : Eng.Sep (Cel b [wm_1, (vq last)] :: MapO wm_1 m :: Frz G h0 :: R) h) :
    ∃ rv rh, evF1 (progS Try.prog (compDrawn Try.prog)) N call 23 [(AV.ptr b 0), (vq k)] h = .ok rv rh ∧ (fun (rv : AV) (rh : Hp) => ∃ wk1 : AV, rv = (AV.tuple [(AV.int .i64 r.2.2.1), (vi r.2.2.2)]) ∧ (∀ p ∈ r.1, p.1 < 18446744073709551616) ∧ (r.2.1 < 18446744073709551616) ∧ Eng.Sep (Cel b (wk1 :: (vq r.2.1) :: []) :: MapO wk1 r.1 :: Frz G h0 :: R) rh) rv rh := by
  unfold hclose_p at hp
  refine fwalk_ok (K := (fun (rv : AV) (rh : Hp) => ∃ wk1 : AV, rv = (AV.tuple [(AV.int .i64 r.2.2.1), (vi r.2.2.2)]) ∧ (∀ p ∈ r.1, p.1 < 18446744073709551616) ∧ (r.2.1 < 18446744073709551616) ∧ Eng.Sep (Cel b (wk1 :: (vq r.2.1) :: []) :: MapO wk1 r.1 :: Frz G h0 :: R) rh)) (o := (.exi 4 fun (x1 : List (Nat × Int) × Nat × Int × Nat) => (.exi 0 fun (w10 : AV) => (.exi 0 fun (h6 : Hp) => (.eff 0 (AV.tuple [(AV.int .i64 x1.2.2.1), (vi x1.2.2.2)]) h6 (.fork 6 (.tell 3 w10 (.effx 1 (fun e16 => (AV.tuple [])) (fun e16 => .fin))) .fin)))))) (p := (fun (KK : AV → Hp → Prop) => (∃ x1 : List (Nat × Int) × Nat × Int × Nat, ∃ w10 : AV, ∃ h6 : Hp, (call 24 [(AV.ptr b 0), (vq k)] h = .ok (AV.tuple [(AV.int .i64 x1.2.2.1), (vi x1.2.2.2)]) h6 ∧ ((eqI (Int.ofNat x1.2.2.2) (Int.ofNat 0) = true → ((evQ (.loadS (.const (AV.ptr b 0))) .lf h6 = .ok w10 ∧ (∃ e16 : Ev, evE (.delete false (.const w10) (.const (vq k))) call .lf h6 = .ok (AV.tuple []) e16.h ∧ KK (AV.tuple [(AV.int .i64 x1.2.2.1), (vi x1.2.2.2)]) e16.h)))) ∧ (eqI (Int.ofNat x1.2.2.2) (Int.ofNat 0) = false → KK (AV.tuple [(AV.int .i64 x1.2.2.1), (vi x1.2.2.2)]) h6))))) (fun (rv : AV) (rh : Hp) => ∃ wk1 : AV, rv = (AV.tuple [(AV.int .i64 r.2.2.1), (vi r.2.2.2)]) ∧ (∀ p ∈ r.1, p.1 < 18446744073709551616) ∧ (r.2.1 < 18446744073709551616) ∧ Eng.Sep (Cel b (wk1 :: (vq r.2.1) :: []) :: MapO wk1 r.1 :: Frz G h0 :: R) rh)) (by kernel_rfl) ?_
  have ⟨x1, hb2, hp⟩ := ob_inv hp
  obtain ⟨v5, h6, q7, w10, e8, f11, f12, S9⟩ := h_hget fm_2 flast_1 fk_1 hb2 S
  replace e8 := e8.symm
  subst e8
  refine ⟨x1, w10, h6, q7, ?_⟩
  refine ⟨fun c15 => ?_, fun c15 => ?_⟩
  · replace c15 := eqI_t c15
    replace hp := ift hp c15
    refine ⟨cel_load S9 (i := 0) rfl rfl, ?_⟩
    obtain ⟨e16, qe16, se16⟩ := map_del call S9 (i := 1) rfl (k := k)
    refine ⟨e16, qe16, ?_⟩
    obtain rfl := Option.some.inj hp
    exact ⟨w10, rfl, (delM_bd f11), f12, se16⟩
  replace c15 := eqI_f c15
  replace hp := iff0 hp (c15)
  obtain rfl := Option.some.inj hp
  exact ⟨w10, rfl, f11, f12, S9⟩
def C_hclose (call : CallT) : Prop := ∀ {h : Hp} {h0 : Hp} {G : Nat → Prop} {R : List AObj} {b : Nat} {wm_1 : AV} {m : List (Nat × Int)} {last : Nat} {k : Nat} (fm_2 : ∀ p ∈ m, p.1 < 18446744073709551616) (flast_1 : last < 18446744073709551616) (fk_1 : k < 18446744073709551616) {r : List (Nat × Int) × Nat × Int × Nat}, hclose_p m last k = some r → Eng.Sep (Cel b [wm_1, (vq last)] :: MapO wm_1 m :: Frz G h0 :: R) h → ∃ rv rh, call 23 [(AV.ptr b 0), (vq k)] h = .ok rv rh ∧ ∃ wk1 : AV, rv = (AV.tuple [(AV.int .i64 r.2.2.1), (vi r.2.2.2)]) ∧ (∀ p ∈ r.1, p.1 < 18446744073709551616) ∧ (r.2.1 < 18446744073709551616) ∧ Eng.Sep (Cel b (wk1 :: (vq r.2.1) :: []) :: MapO wk1 r.1 :: Frz G h0 :: R) rh
theorem s_hclose (d : Nat) : C_hclose (CC (d + 2)) := by
  intro h h0 G R b wm_1 m last k fm_2 flast_1 fk_1 r hp S
  rw [CC, evF_at (show orM (sumT [21]) sumK 23 = none from rfl)]
  exact hclose_w (call := CC (d + 1)) (N := 100000) fm_2 flast_1 fk_1 (s_hget (d + 0)) hp S
noncomputable def hall_p (m : List (Nat × Int)) (last : Nat) : Option (List (Nat × Int) × Nat × List Nat) :=
  (gd (m.length ≤ 12) (some (m, last, keyS m)))
theorem hall_w {call : CallT} {N : Nat} {h : Hp} {h0 : Hp} {G : Nat → Prop} {R : List AObj} {b : Nat} {wm_1 : AV} {m : List (Nat × Int)} {last : Nat} (fm_2 : ∀ p ∈ m, p.1 < 18446744073709551616) (flast_1 : last < 18446744073709551616) (h_sort : SortS call) (h_keyi : KeyIS call) {r : List (Nat × Int) × Nat × List Nat} (hp : hall_p m last = some r) (S : Eng.Sep (Cel b [wm_1, (vq last)] :: MapO wm_1 m :: Frz G h0 :: R) h) :
    ∃ rv rh, evF1 (progS Try.prog (compDrawn Try.prog)) N call 27 [(AV.ptr b 0)] h = .ok rv rh ∧ (fun (rv : AV) (rh : Hp) => ∃ wk1 : AV, ∃ Lk3 : List AV, ∃ wk4 : AV, ∃ Gk : Nat → Prop, ∃ kk : Hp, rv = wk1 ∧ (Eng.Rows (rU .u64) Gk kk Lk3 r.2.2) ∧ (∀ p ∈ r.1, p.1 < 18446744073709551616) ∧ (r.2.1 < 18446744073709551616) ∧ Eng.Sep (OwnO 1 wk1 r.2.2.length Lk3 :: Cel b (wk4 :: (vq r.2.1) :: []) :: MapO wk4 r.1 :: Frz Gk kk :: Frz G h0 :: R) rh) rv rh := by
  unfold hall_p at hp
  refine fwalk_ok (K := (fun (rv : AV) (rh : Hp) => ∃ wk1 : AV, ∃ Lk3 : List AV, ∃ wk4 : AV, ∃ Gk : Nat → Prop, ∃ kk : Hp, rv = wk1 ∧ (Eng.Rows (rU .u64) Gk kk Lk3 r.2.2) ∧ (∀ p ∈ r.1, p.1 < 18446744073709551616) ∧ (r.2.1 < 18446744073709551616) ∧ Eng.Sep (OwnO 1 wk1 r.2.2.length Lk3 :: Cel b (wk4 :: (vq r.2.1) :: []) :: MapO wk4 r.1 :: Frz Gk kk :: Frz G h0 :: R) rh)) (o := (.tell 6 wm_1 (.eff 0 (AV.func (.func 68) [] [(AV.ptr (Hp.next h) 0)]) (hpush h (mkCells [wm_1] 1)) (.effx 0 (fun e4 => e4.v) (fun e4 => .fin))))) (p := (fun (KK : AV → Hp → Prop) => ((evQ (.loadS (.const (AV.ptr b 0))) .lf h = .ok wm_1 ∧ (call 44 [wm_1] h = .ok (AV.func (.func 68) [] [(AV.ptr (Hp.next h) 0)]) (hpush h (mkCells [wm_1] 1)) ∧ (∃ e4 : Ev, call 43 [(AV.func (.func 68) [] [(AV.ptr (Hp.next h) 0)])] (hpush h (mkCells [wm_1] 1)) = .ok e4.v e4.h ∧ KK e4.v e4.h))))) (fun (rv : AV) (rh : Hp) => ∃ wk1 : AV, ∃ Lk3 : List AV, ∃ wk4 : AV, ∃ Gk : Nat → Prop, ∃ kk : Hp, rv = wk1 ∧ (Eng.Rows (rU .u64) Gk kk Lk3 r.2.2) ∧ (∀ p ∈ r.1, p.1 < 18446744073709551616) ∧ (r.2.1 < 18446744073709551616) ∧ Eng.Sep (OwnO 1 wk1 r.2.2.length Lk3 :: Cel b (wk4 :: (vq r.2.1) :: []) :: MapO wk4 r.1 :: Frz Gk kk :: Frz G h0 :: R) rh)) (by kernel_rfl) ?_
  refine ⟨cel_load S (i := 0) rfl rfl, ?_⟩
  refine ⟨h_keyi S (i := 1) rfl, ?_⟩
  have S1 := cel_new S [wm_1] rfl
  have ⟨g2, hp⟩ := gd_inv hp
  have S3 := S1.empty
  obtain ⟨e4, qe4, se4⟩ := h_sort S3 (i := 1) (j := 3) rfl rfl fm_2 g2
  obtain ⟨L6, rL6, eL6⟩ : ∃ L, Eng.Rows (rU .u64) (fun _ => False) (hpush h (mkCells [wm_1] 1)) L (keyS m) ∧ (List.map (fun n => AV.int .u64 (.ofNat n)) (keyS m)) = L := ⟨_, rows_u64 (keyS_bd fm_2), rfl⟩
  have S7 : Sep (OwnO 1 e4.v ((keyS m).length) L6 :: Frz (fun _ => False) (hpush h (mkCells [wm_1] 1)) :: Cel (Hp.next h) [wm_1] :: Cel b [wm_1, (vq last)] :: MapO wm_1 m :: Frz G h0 :: R) e4.h := (by have z := se4; rw [eL6] at z; exact z)
  refine ⟨e4, qe4, ?_⟩
  have S8 := S7.front 2 rfl
  have S9 := S8.tail
  have S10 := S9.front 4 rfl
  have S11 := S10.front 2 rfl
  have S12 := S11.front 4 rfl
  have S13 := S12.front 4 rfl
  have S14 := S13.front 4 rfl
  obtain rfl := Option.some.inj hp
  exact ⟨e4.v, L6, wm_1, (fun _ => False), hpush h (mkCells [wm_1] 1), rfl, rL6, fm_2, flast_1, S14⟩
def C_hall (call : CallT) : Prop := ∀ {h : Hp} {h0 : Hp} {G : Nat → Prop} {R : List AObj} {b : Nat} {wm_1 : AV} {m : List (Nat × Int)} {last : Nat} (fm_2 : ∀ p ∈ m, p.1 < 18446744073709551616) (flast_1 : last < 18446744073709551616) {r : List (Nat × Int) × Nat × List Nat}, hall_p m last = some r → Eng.Sep (Cel b [wm_1, (vq last)] :: MapO wm_1 m :: Frz G h0 :: R) h → ∃ rv rh, call 27 [(AV.ptr b 0)] h = .ok rv rh ∧ ∃ wk1 : AV, ∃ Lk3 : List AV, ∃ wk4 : AV, ∃ Gk : Nat → Prop, ∃ kk : Hp, rv = wk1 ∧ (Eng.Rows (rU .u64) Gk kk Lk3 r.2.2) ∧ (∀ p ∈ r.1, p.1 < 18446744073709551616) ∧ (r.2.1 < 18446744073709551616) ∧ Eng.Sep (OwnO 1 wk1 r.2.2.length Lk3 :: Cel b (wk4 :: (vq r.2.1) :: []) :: MapO wk4 r.1 :: Frz Gk kk :: Frz G h0 :: R) rh
theorem s_hall (d : Nat) : C_hall (CC (d + 2)) := by
  intro h h0 G R b wm_1 m last fm_2 flast_1 r hp S
  rw [CC, evF_at (show orM (sumT [21]) sumK 27 = none from rfl)]
  exact hall_w (call := CC (d + 1)) (N := 100000) fm_2 flast_1 (s_sorted (d + 0)) (s_keyi (d + 0)) hp S
noncomputable def samenums_l1 (B0 : List Nat) (B1 : List Nat) : Nat → Bool → Nat → Option (LO (Bool × Nat) (Bool))
  | 0, _, _ => none
  | m + 1, A4, A5 =>
    (if A5 < B0.length then (gd (A5 < B1.length) (if (B0.getD A5 default) ≠ (B1.getD A5 default) then (some (LO.rt false)) else
    (gd (A5 + 1 < 9223372036854775808) (samenums_l1 B0 B1 m A4 (A5 + 1))))) else
    (some (LO.ex (A4, A5))))
noncomputable def samenums_l1C : AC := (.seq (.seq (.region [⟨(some 11), .q (.move (.tmp 5)), none⟩, ⟨(some 12), .q (.move (.tmp 0)), none⟩, ⟨(some 13), .q (.lenL (.tmp 12)), none⟩, ⟨(some 14), .q (.bin .lss (.tmp 11) (.tmp 13)), none⟩]) (.cond (.tmp 14) .skip (.exit 0))) (.seq (.block 1 (.seq (.drawn [⟨[(⟨(some 17), .q (.move (.tmp 0)), none⟩, 0), (⟨(some 18), .q (.move (.tmp 5)), none⟩, 0), (⟨(some 19), .q (.idxAddrSl 1 (.tmp 17) (.tmp 18)), none⟩, 0), (⟨(some 20), .q (.loadS (.tmp 19)), none⟩, 0), (⟨(some 21), .q (.move (.tmp 1)), none⟩, 0), (⟨(some 22), .q (.move (.tmp 5)), none⟩, 0), (⟨(some 23), .q (.idxAddrSl 1 (.tmp 21) (.tmp 22)), none⟩, 0), (⟨(some 24), .q (.loadS (.tmp 23)), none⟩, 0), (⟨(some 25), .q (.eq .int true (.tmp 20) (.tmp 24)), none⟩, 0)], none⟩]) (.cond (.tmp 25) (.seq (.region [⟨(some 4), .q (.move (.const (AV.bool false))), none⟩]) .ret) .skip))) (.region [⟨(some 15), .q (.move (.tmp 5)), none⟩, ⟨(some 16), .q (.bin .add (.tmp 15) (.const (vi 1))), none⟩, ⟨(some 5), .q (.move (.tmp 16)), none⟩])))
theorem samenums_l1_body {call : CallT} {N : Nat} {t : T} {h : Hp} {wB0_1 : AV} {wB1_1 : AV} {G : Nat → Prop} {h0 : Hp} {B0 : List Nat} {B1 : List Nat} (fB0_2 : SIn (rU .u64) G h0 wB0_1 B0) (fB1_2 : SIn (rU .u64) G h0 wB1_1 B1)  {o : LO (Bool × Nat) (Bool)} {n : Nat} {A4 : Bool} {A5 : Nat} (hN : 90000 < N) (hi : (fun (z : Nat × Bool × Nat) (h' : Hp) => samenums_l1 B0 B1 z.1 z.2.1 z.2.2 = some o ∧ Eng.Sep [Frz G h0] h') (n, A4, A5) h)
    : ∃ s, evC call N samenums_l1C (ovT [(0, wB0_1), (1, wB1_1), (4, (AV.bool A4)), (5, (vi A5))] t) h = s ∧ obsS [0, 1, 4, 5] (fun ls h' => ∃ y, ls = ((fun (z : Nat × Bool × Nat) => [(0, wB0_1), (1, wB1_1), (4, (AV.bool z.2.1)), (5, (vi z.2.2))]) y).map (fun p => some p.2) ∧ (fun (z : Nat × Bool × Nat) (h' : Hp) => samenums_l1 B0 B1 z.1 z.2.1 z.2.2 = some o ∧ Eng.Sep [Frz G h0] h') y h' ∧ (fun (z : Nat × Bool × Nat) => z.1) y < (fun (z : Nat × Bool × Nat) => z.1) (n, A4, A5)) (fun i ls h' => ∃ y, ls = ((fun (z : Nat × Bool × Nat) => [(0, wB0_1), (1, wB1_1), (4, (AV.bool z.2.1)), (5, (vi z.2.2))]) y).map (fun p => some p.2) ∧ (fun (i : Nat) (z : Nat × Bool × Nat) (h' : Hp) => (i = 0) ∧ (i = 0 → o = LO.ex (z.2.1, z.2.2) ∧ Eng.Sep [Frz G h0] h')) i y h') (fun ls h' => (fun (ls : List (Option AV)) (h' : Hp) => ∃ (rt : Bool) (v4 : AV), o = LO.rt rt ∧ ls[2]? = some (some v4) ∧ (v4 = (AV.bool rt) ∧ Eng.Sep (Frz G h0 :: []) h')) ls h') s := by
  have hi : samenums_l1 B0 B1 n A4 A5 = some o ∧ Eng.Sep [Frz G h0] h := hi
  obtain ⟨hp, S⟩ := hi
  obtain ⟨m, hm⟩ : ∃ m, n = m + 1 := by
    cases n with
    | zero => first | cases hp | (unfold samenums_l1 at hp; cases hp) | (simp [samenums_l1] at hp)
    | succ m => exact ⟨m, rfl⟩
  rw [hm] at hp
  unfold samenums_l1 at hp
  refine walk_ok (o := (.tell 2 (vi B0.length) (.fork 0 (.tell 2 (elemP wB0_1 A5 1) (.tell 0 (vq (B0.getD A5 default)) (.tell 2 (elemP wB1_1 A5 1) (.tell 0 (vq (B1.getD A5 default)) (.fork 0 (.again 0 .fin) (.again 0 (.tell 1 (vi (A5 + 1)) .fin))))))) .fin))) (p := (fun (KN : List (Option AV) → Hp → Prop) (KE : Nat → List (Option AV) → Hp → Prop) (KR : List (Option AV) → Hp → Prop) => ((evQ (.lenL (.const wB0_1)) .lf H0 = .ok (vi B0.length) ∧ ((ltI (Int.ofNat A5) (Int.ofNat B0.length) = true → ((evQ (.idxAddrSl 1 (.const wB0_1) (.const (vi A5))) .lf H0 = .ok (elemP wB0_1 A5 1) ∧ ((evQ (.loadS (.const (elemP wB0_1 A5 1))) .lf h = .ok (vq (B0.getD A5 default)) ∧ ((evQ (.idxAddrSl 1 (.const wB1_1) (.const (vi A5))) .lf H0 = .ok (elemP wB1_1 A5 1) ∧ ((evQ (.loadS (.const (elemP wB1_1 A5 1))) .lf h = .ok (vq (B1.getD A5 default)) ∧ ((notB (eqI (Int.ofNat (B0.getD A5 default)) (Int.ofNat (B1.getD A5 default))) = true → ((again (.eq .int true (.const (vq (B0.getD A5 default))) (.const (vq (B1.getD A5 default)))) .lf (AV.bool true) h = true ∧ again (.loadS (.const (elemP wB1_1 A5 1))) .lf (vq (B1.getD A5 default)) h = true ∧ again (.idxAddrSl 1 (.const wB1_1) (.const (vi A5))) .lf (elemP wB1_1 A5 1) h = true ∧ again (.move (.const (vi A5))) .lf (vi A5) h = true ∧ again (.move (.const wB1_1)) .lf wB1_1 h = true ∧ again (.loadS (.const (elemP wB0_1 A5 1))) .lf (vq (B0.getD A5 default)) h = true ∧ again (.idxAddrSl 1 (.const wB0_1) (.const (vi A5))) .lf (elemP wB0_1 A5 1) h = true ∧ again (.move (.const (vi A5))) .lf (vi A5) h = true ∧ again (.move (.const wB0_1)) .lf wB0_1 h = true ∧ True) ∧ KR [some wB0_1, some wB1_1, some (AV.bool false), some (vi A5)] h)) ∧ (notB (eqI (Int.ofNat (B0.getD A5 default)) (Int.ofNat (B1.getD A5 default))) = false → ((again (.eq .int true (.const (vq (B0.getD A5 default))) (.const (vq (B1.getD A5 default)))) .lf (AV.bool false) h = true ∧ again (.loadS (.const (elemP wB1_1 A5 1))) .lf (vq (B1.getD A5 default)) h = true ∧ again (.idxAddrSl 1 (.const wB1_1) (.const (vi A5))) .lf (elemP wB1_1 A5 1) h = true ∧ again (.move (.const (vi A5))) .lf (vi A5) h = true ∧ again (.move (.const wB1_1)) .lf wB1_1 h = true ∧ again (.loadS (.const (elemP wB0_1 A5 1))) .lf (vq (B0.getD A5 default)) h = true ∧ again (.idxAddrSl 1 (.const wB0_1) (.const (vi A5))) .lf (elemP wB0_1 A5 1) h = true ∧ again (.move (.const (vi A5))) .lf (vi A5) h = true ∧ again (.move (.const wB0_1)) .lf wB0_1 h = true ∧ True) ∧ ((evQ (.bin .add (.const (vi A5)) (.const (vi 1))) .lf H0 = .ok (vi (A5 + 1)) ∧ KN [some wB0_1, some wB1_1, some (AV.bool A4), some (vi (A5 + 1))] h)))))))))))))) ∧ (ltI (Int.ofNat A5) (Int.ofNat B0.length) = false → KE 0 [some wB0_1, some wB1_1, some (AV.bool A4), some (vi A5)] h))))) (fun ls h' => ∃ y, ls = ((fun (z : Nat × Bool × Nat) => [(0, wB0_1), (1, wB1_1), (4, (AV.bool z.2.1)), (5, (vi z.2.2))]) y).map (fun p => some p.2) ∧ (fun (z : Nat × Bool × Nat) (h' : Hp) => samenums_l1 B0 B1 z.1 z.2.1 z.2.2 = some o ∧ Eng.Sep [Frz G h0] h') y h' ∧ (fun (z : Nat × Bool × Nat) => z.1) y < (fun (z : Nat × Bool × Nat) => z.1) (n, A4, A5)) (fun i ls h' => ∃ y, ls = ((fun (z : Nat × Bool × Nat) => [(0, wB0_1), (1, wB1_1), (4, (AV.bool z.2.1)), (5, (vi z.2.2))]) y).map (fun p => some p.2) ∧ (fun (i : Nat) (z : Nat × Bool × Nat) (h' : Hp) => (i = 0) ∧ (i = 0 → o = LO.ex (z.2.1, z.2.2) ∧ Eng.Sep [Frz G h0] h')) i y h') (fun ls h' => (fun (ls : List (Option AV)) (h' : Hp) => ∃ (rt : Bool) (v4 : AV), o = LO.rt rt ∧ ls[2]? = some (some v4) ∧ (v4 = (AV.bool rt) ∧ Eng.Sep (Frz G h0 :: []) h')) ls h')) (by kernel_rfl) ?_
  refine ⟨sin_len fB0_2, ?_⟩
  refine ⟨fun c1 => ?_, fun c1 => ?_⟩
  · replace c1 := ltI_t c1
    replace hp := ift hp c1
    obtain ⟨csR3, hcR3, R3⟩ := sin_row fB0_2 c1
    obtain ⟨rfl, f2⟩ := hcR3
    refine ⟨sin_idx fB0_2 c1, ?_⟩
    refine ⟨row_load S (i := 0) rfl R3 rfl, ?_⟩
    have ⟨g4, hp⟩ := gd_inv hp
    obtain ⟨csR6, hcR6, R6⟩ := sin_row fB1_2 g4
    obtain ⟨rfl, f5⟩ := hcR6
    refine ⟨sin_idx fB1_2 g4, ?_⟩
    refine ⟨row_load S (i := 0) rfl R6 rfl, ?_⟩
    refine ⟨fun c7 => ?_, fun c7 => ?_⟩
    · have rc7 := c7
      replace c7 := eqI_f (notB_t c7)
      replace hp := ift hp c7
      refine ⟨⟨again_of (congrArg (fun b => OV.ok (AV.bool b)) rc7) (avEq_bool _), again_of (row_load S (i := 0) rfl R6 rfl) (avEq_int _ _), again_of (sin_idx fB1_2 g4) (elemP_same _ _ _), again_of (rfl) (avEq_int _ _), again_of (rfl) (SIn.same fB1_2), again_of (row_load S (i := 0) rfl R3 rfl) (avEq_int _ _), again_of (sin_idx fB0_2 c1) (elemP_same _ _ _), again_of (rfl) (avEq_int _ _), again_of (rfl) (SIn.same fB0_2), trivial⟩, ?_⟩
      refine ⟨_, (AV.bool false), (Option.some.inj hp).symm, rfl, ?_⟩
      exact ⟨rfl, S⟩
    have rc7 := c7
    replace c7 := eqI_t (notB_f c7)
    replace hp := iff0 hp (nneO c7)
    refine ⟨⟨again_of (congrArg (fun b => OV.ok (AV.bool b)) rc7) (avEq_bool _), again_of (row_load S (i := 0) rfl R6 rfl) (avEq_int _ _), again_of (sin_idx fB1_2 g4) (elemP_same _ _ _), again_of (rfl) (avEq_int _ _), again_of (rfl) (SIn.same fB1_2), again_of (row_load S (i := 0) rfl R3 rfl) (avEq_int _ _), again_of (sin_idx fB0_2 c1) (elemP_same _ _ _), again_of (rfl) (avEq_int _ _), again_of (rfl) (SIn.same fB0_2), trivial⟩, ?_⟩
    have ⟨g8, hp⟩ := gd_inv hp
    refine ⟨q_add g8, ?_⟩
    refine ⟨(m, A4, A5 + 1), rfl, ⟨hp, S⟩, by show m < n; omega⟩
  replace c1 := ltI_f c1
  replace hp := iff0 hp (nltO c1)
  refine ⟨(m, A4, A5), rfl, rfl, fun _ => ⟨(Option.some.inj hp).symm, S⟩⟩
theorem samenums_l1_t {call : CallT} {N : Nat} {wB0_1 : AV} {wB1_1 : AV} {G : Nat → Prop} {h0 : Hp} {B0 : List Nat} {B1 : List Nat} (fB0_2 : SIn (rU .u64) G h0 wB0_1 B0) (fB1_2 : SIn (rU .u64) G h0 wB1_1 B1)  {o : LO (Bool × Nat) (Bool)} {n : Nat} {A4 : Bool} {A5 : Nat} {h : Hp} (hi : (fun (z : Nat × Bool × Nat) (h' : Hp) => samenums_l1 B0 B1 z.1 z.2.1 z.2.2 = some o ∧ Eng.Sep [Frz G h0] h') (n, A4, A5) h) (hN : n < N) (hN' : 90000 < N) {t : T} (ht : Has ((fun (z : Nat × Bool × Nat) => [(0, wB0_1), (1, wB1_1), (4, (AV.bool z.2.1)), (5, (vi z.2.2))]) (n, A4, A5)) t) :
    (∃ i y t' h', evC call N (.loop samenums_l1C) t h = .exit i t' h' ∧ Has ((fun (z : Nat × Bool × Nat) => [(0, wB0_1), (1, wB1_1), (4, (AV.bool z.2.1)), (5, (vi z.2.2))]) y) t' ∧ (fun (i : Nat) (z : Nat × Bool × Nat) (h' : Hp) => (i = 0) ∧ (i = 0 → o = LO.ex (z.2.1, z.2.2) ∧ Eng.Sep [Frz G h0] h')) i y h') ∨ (∃ t' h', evC call N (.loop samenums_l1C) t h = .ret t' h' ∧ (fun (ls : List (Option AV)) (h' : Hp) => ∃ (rt : Bool) (v4 : AV), o = LO.rt rt ∧ ls[2]? = some (some v4) ∧ (v4 = (AV.bool rt) ∧ Eng.Sep (Frz G h0 :: []) h')) (slots [0, 1, 4, 5] t') h') :=
  loop_st (fun (z : Nat × Bool × Nat) => [(0, wB0_1), (1, wB1_1), (4, (AV.bool z.2.1)), (5, (vi z.2.2))]) [0, 1, 4, 5] (fun _ => rfl) (fun (z : Nat × Bool × Nat) (h' : Hp) => samenums_l1 B0 B1 z.1 z.2.1 z.2.2 = some o ∧ Eng.Sep [Frz G h0] h') (fun (z : Nat × Bool × Nat) => z.1) (fun (i : Nat) (z : Nat × Bool × Nat) (h' : Hp) => (i = 0) ∧ (i = 0 → o = LO.ex (z.2.1, z.2.2) ∧ Eng.Sep [Frz G h0] h')) (fun (ls : List (Option AV)) (h' : Hp) => ∃ (rt : Bool) (v4 : AV), o = LO.rt rt ∧ ls[2]? = some (some v4) ∧ (v4 = (AV.bool rt) ∧ Eng.Sep (Frz G h0 :: []) h')) (fun ⟨n, A4, A5⟩ t h hi => samenums_l1_body fB0_2 fB1_2 hN' hi) (n, A4, A5) h hi hN t ht
noncomputable def samenums_p (a : List Nat) (b : List Nat) : Option (Bool) :=
  (if a.length ≠ b.length then (some false) else
    (ob (samenums_l1 a b 90000 false 0) fun o2 =>
    (LO.on o2 (fun s_o2 => (some true)) (fun y9 =>
    (some y9)))))
theorem samenums_w {call : CallT} {N : Nat} {h : Hp} {wa_1 : AV} {wb_1 : AV} {a : List Nat} {b : List Nat} (fa_2 : SIn (rU .u64) (Low h) h wa_1 a) (fb_2 : SIn (rU .u64) (Low h) h wb_1 b)  (hN : 90000 < N) {r : Bool} (hp : samenums_p a b = some r) :
    ∃ rv rh, evF1 (progS Try.prog (compDrawn Try.prog)) N call 26 [wa_1, wb_1] h = .ok rv rh ∧ (fun (rv : AV) (rh : Hp) => rv = (AV.bool r) ∧ Eng.Sep (Frz (Low h) h :: []) rh) rv rh := by
  have S : Eng.Sep [Frz (Low h) h] h := Sep.start h
  unfold samenums_p at hp
  refine fwalk_ok (K := (fun (rv : AV) (rh : Hp) => rv = (AV.bool r) ∧ Eng.Sep (Frz (Low h) h :: []) rh)) (o := (.tell 2 (vi a.length) (.tell 1 (vi b.length) (.fork 0 .fin (.dis 1 (.exi 0 fun (A4o2 : Bool) => (.exi 0 fun (A5o2 : Nat) => (.exi 0 fun (t5 : T) => (.exi 0 fun (h6 : Hp) => (.lp 0 (.exit 0 (ovT [(0, wa_1), (1, wb_1), (4, (AV.bool A4o2)), (5, (vi A5o2))] t5) h6) .fin))))) (.exi 0 fun (y9 : Bool) => (.exi 0 fun (v4o2 : AV) => (.exi 0 fun (t7 : T) => (.exi 0 fun (h8 : Hp) => (.lp 0 (.ret (ovT [(4, v4o2)] t7) h8) .fin)))))))))) (p := (fun (KK : AV → Hp → Prop) => ((evQ (.lenL (.const wa_1)) .lf H0 = .ok (vi a.length) ∧ ((evQ (.lenL (.const wb_1)) .lf H0 = .ok (vi b.length) ∧ ((notB (eqI (Int.ofNat a.length) (Int.ofNat b.length)) = true → KK (AV.bool false) h) ∧ (notB (eqI (Int.ofNat a.length) (Int.ofNat b.length)) = false → ((∃ A4o2 : Bool, ∃ A5o2 : Nat, ∃ t5 : T, ∃ h6 : Hp, (evC call N (.loop samenums_l1C) (ovT [(0, wa_1), (1, wb_1), (4, (AV.bool false)), (5, (vi 0)), (6, wa_1), (7, (vi a.length)), (8, wb_1), (9, (vi b.length)), (10, (AV.bool false))] .lf) h = (.exit 0 (ovT [(0, wa_1), (1, wb_1), (4, (AV.bool A4o2)), (5, (vi A5o2))] t5) h6) ∧ True ∧ KK (AV.bool true) h6)) ∨ (∃ y9 : Bool, ∃ v4o2 : AV, ∃ t7 : T, ∃ h8 : Hp, (evC call N (.loop samenums_l1C) (ovT [(0, wa_1), (1, wb_1), (4, (AV.bool false)), (5, (vi 0)), (6, wa_1), (7, (vi a.length)), (8, wb_1), (9, (vi b.length)), (10, (AV.bool false))] .lf) h = (.ret (ovT [(4, v4o2)] t7) h8) ∧ True ∧ KK v4o2 h8)))))))))) (fun (rv : AV) (rh : Hp) => rv = (AV.bool r) ∧ Eng.Sep (Frz (Low h) h :: []) rh)) (by kernel_rfl) ?_
  refine ⟨sin_len fa_2, ?_⟩
  refine ⟨sin_len fb_2, ?_⟩
  refine ⟨fun c1 => ?_, fun c1 => ?_⟩
  · replace c1 := eqI_f (notB_t c1)
    replace hp := ift hp c1
    obtain rfl := Option.some.inj hp
    exact ⟨rfl, S⟩
  replace c1 := eqI_t (notB_f c1)
  replace hp := iff0 hp (nneO c1)
  have ⟨o2, hb3, hp⟩ := ob_inv hp
  rcases samenums_l1_t fa_2 fb_2  (o := o2) (B0 := a) (B1 := b) (n := 90000) (A4 := false) (A5 := 0) ⟨hb3, S⟩ hN hN (t := (ovT [(0, wa_1), (1, wb_1), (4, (AV.bool false)), (5, (vi 0)), (6, wa_1), (7, (vi a.length)), (8, wb_1), (9, (vi b.length)), (10, (AV.bool false))] .lf)) (show slots [0, 1, 4, 5] _ = [some wa_1, some wb_1, some (AV.bool false), some (vi 0)] by kernel_rfl) with ⟨io2, ⟨_, A4o2, A5o2⟩, t5, h6, qo2, wo2, zo2⟩ | ⟨t7, h8, qo2, zo2⟩
  · obtain ⟨jo2, zo2⟩ := zo2
    subst jo2
    replace zo2 := zo2 rfl
    obtain ⟨uo2, So2⟩ := zo2
    replace uo2 := uo2.symm
    subst uo2
    replace hp := LO.on_ex.symm.trans hp
    try dsimp only at hp
    refine Or.inl ⟨A4o2, A5o2, t5, h6, (qo2.trans (congrArg (fun t => RS.exit 0 t h6) (ovT_eq wo2).symm)), trivial, ?_⟩
    obtain rfl := Option.some.inj hp
    exact ⟨rfl, So2⟩
  obtain ⟨y9, v4o2, uo2, go2_4, Ko2⟩ := zo2
  replace uo2 := uo2.symm
  subst uo2
  replace go2_4 : tget (pathOf 4) t7 = some v4o2 := Option.some.inj go2_4
  replace hp := LO.on_rt.symm.trans hp
  try dsimp only at hp
  refine Or.inr ⟨y9, v4o2, t7, h8, (qo2.trans (congrArg (fun t => RS.ret t h8) (ovT_eq (l := [(4, v4o2)]) (by show [tget (pathOf 4) t7] = _; rw [go2_4]; rfl)).symm)), trivial, ?_⟩
  obtain rfl := Option.some.inj hp
  exact Ko2
def C_samenums (call : CallT) : Prop := ∀ {h : Hp} {wa_1 : AV} {wb_1 : AV} {a : List Nat} {b : List Nat} (fa_2 : SIn (rU .u64) (Low h) h wa_1 a) (fb_2 : SIn (rU .u64) (Low h) h wb_1 b) {r : Bool}, samenums_p a b = some r → ∃ rv rh, call 26 [wa_1, wb_1] h = .ok rv rh ∧ rv = (AV.bool r) ∧ Eng.Sep (Frz (Low h) h :: []) rh
theorem s_samenums (d : Nat) : C_samenums (CC (d + 1)) := by
  intro h wa_1 wb_1 a b fa_2 fb_2 r hp
  rw [CC, evF_at (show orM (sumT [21]) sumK 26 = none from rfl)]
  exact samenums_w (call := CC (d + 0)) (N := 100000) fa_2 fb_2  (by decide) hp
end Go.Proofs.Ytpelnanckmjoaaa
end
section
set_option linter.unusedVariables false
namespace Go.Proofs.Ytpelnanckmjoaaa
set_option linter.unusedVariables false
set_option linter.unusedSimpArgs false
open Go Eng
noncomputable def lawnever_l1 (B0 : List Nat) : Nat → Bool → List Nat → Nat → Nat → List (Nat × Int) → Nat → Option (LO (Bool × List Nat × Nat × Nat × List (Nat × Int) × Nat) (Bool))
  | 0, _, _, _, _, _, _ => none
  | m + 1, A2, A4, A5, A6, Q102_0, Q102_1 =>
    (if A6 < B0.length then (if (B0.getD A6 0) % 3 = 0 then (if 0 < A4.length then (gd (A4.length ≠ 0) (gd (((B0.getD A6 0) / 3) % A4.length < A4.length) (ob (hclose_p Q102_0 Q102_1 (A4.getD (((B0.getD A6 0) / 3) % A4.length) default)) fun x12 =>
    (ob (hclose_p x12.1 x12.2.1 (A4.getD (((B0.getD A6 0) / 3) % A4.length) default)) fun x27 =>
    (ob (hget_p x27.1 x27.2.1 (A4.getD (((B0.getD A6 0) / 3) % A4.length) default)) fun x42 =>
    (if x12.2.2.2 ≠ 0 then (some (LO.rt false)) else
    (gd ((A4.getD (((B0.getD A6 0) / 3) % A4.length) default) < 9223372036854775808) (gd ((A4.getD (((B0.getD A6 0) / 3) % A4.length) default) + 100 < 9223372036854775808) (if x12.2.2.1 ≠ (((A4.getD (((B0.getD A6 0) / 3) % A4.length) default) + 100 : Nat) : Int) then (some (LO.rt false)) else
    (if x27.2.2.2 ≠ 9 then (some (LO.rt false)) else
    (if x42.2.2.2 ≠ 9 then (some (LO.rt false)) else
    (gd (((B0.getD A6 0) / 3) % A4.length ≤ A4.length) (gd ((((B0.getD A6 0) / 3) % A4.length) + 1 < 9223372036854775808) (gd ((((B0.getD A6 0) / 3) % A4.length) + 1 ≤ A4.length) (gd ((0 + (A4.take (((B0.getD A6 0) / 3) % A4.length)).length) * 8 ≤ 70368744177664) (gd (((A4.take (((B0.getD A6 0) / 3) % A4.length)).length + (A4.drop ((((B0.getD A6 0) / 3) % A4.length) + 1)).length) * 8 ≤ 70368744177664) (gd (A6 + 1 < 9223372036854775808) (lawnever_l1 B0 m A2 ((A4.take (((B0.getD A6 0) / 3) % A4.length)) ++ (A4.drop ((((B0.getD A6 0) / 3) % A4.length) + 1))) A5 (A6 + 1) x42.1 x42.2.1)))))))))))))))))) else
    (gd (A5 < 9223372036854775808) (gd (A5 + 101 < 9223372036854775808) (ob (hadd_p Q102_0 Q102_1 ((A5 + 101 : Nat) : Int)) fun x9 =>
    (if 8 ≤ A4.length then (if x9.2.2.2 ≠ 12 then (some (LO.rt false)) else
    (if x9.2.2.1 ≠ 0 then (some (LO.rt false)) else
    (gd (A6 + 1 < 9223372036854775808) (lawnever_l1 B0 m A2 A4 A5 (A6 + 1) x9.1 x9.2.1)))) else
    (if x9.2.2.2 ≠ 0 then (some (LO.rt false)) else
    (if x9.2.2.1 ≠ (A5 + 1) % 18446744073709551616 then (some (LO.rt false)) else
    (gd ((A4.length + 1) * 8 ≤ 70368744177664) (gd (A6 + 1 < 9223372036854775808) (lawnever_l1 B0 m A2 (A4 ++ [x9.2.2.1]) x9.2.2.1 (A6 + 1) x9.1 x9.2.1)))))))))) else
    (gd (A5 < 9223372036854775808) (gd (A5 + 101 < 9223372036854775808) (ob (hadd_p Q102_0 Q102_1 ((A5 + 101 : Nat) : Int)) fun x8 =>
    (if 8 ≤ A4.length then (if x8.2.2.2 ≠ 12 then (some (LO.rt false)) else
    (if x8.2.2.1 ≠ 0 then (some (LO.rt false)) else
    (gd (A6 + 1 < 9223372036854775808) (lawnever_l1 B0 m A2 A4 A5 (A6 + 1) x8.1 x8.2.1)))) else
    (if x8.2.2.2 ≠ 0 then (some (LO.rt false)) else
    (if x8.2.2.1 ≠ (A5 + 1) % 18446744073709551616 then (some (LO.rt false)) else
    (gd ((A4.length + 1) * 8 ≤ 70368744177664) (gd (A6 + 1 < 9223372036854775808) (lawnever_l1 B0 m A2 (A4 ++ [x8.2.2.1]) x8.2.2.1 (A6 + 1) x8.1 x8.2.1)))))))))) else
    (some (LO.ex (A2, A4, A5, A6, Q102_0, Q102_1))))
noncomputable def lawnever_l1C : AC := (.seq (.seq (.region [⟨(some 22), .q (.move (.tmp 6)), none⟩, ⟨(some 23), .q (.move (.tmp 0)), none⟩, ⟨(some 24), .q (.lenL (.tmp 23)), none⟩, ⟨(some 25), .q (.bin .lss (.tmp 22) (.tmp 24)), none⟩]) (.cond (.tmp 25) .skip (.exit 0))) (.seq (.block 1 (.seq (.seq (.region [⟨(some 28), .q (.move (.tmp 0)), none⟩, ⟨(some 29), .q (.move (.tmp 6)), none⟩, ⟨(some 30), .q (.idxAddrSl 1 (.tmp 28) (.tmp 29)), none⟩, ⟨(some 31), .q (.loadS (.tmp 30)), none⟩, ⟨(some 32), .q (.bin .rem (.tmp 31) (.const (vb8 3))), none⟩, ⟨(some 33), .q (.eq .int false (.tmp 32) (.const (vb8 0))), none⟩, ⟨(some 34), .q (.move (.tmp 33)), none⟩, ⟨(some 35), .q (.move (.tmp 4)), (some (34, true))⟩, ⟨(some 36), .q (.lenL (.tmp 35)), (some (34, true))⟩, ⟨(some 37), .q (.bin .gtr (.tmp 36) (.const (vi 0))), (some (34, true))⟩, ⟨(some 38), .q (.pick (.tmp 34) (.tmp 37) (.const (AV.bool false))), none⟩]) (.cond (.tmp 38) (.seq (.region [⟨(some 39), .q (.move (.tmp 0)), none⟩, ⟨(some 40), .q (.move (.tmp 6)), none⟩, ⟨(some 41), .q (.idxAddrSl 1 (.tmp 39) (.tmp 40)), none⟩, ⟨(some 42), .q (.loadS (.tmp 41)), none⟩, ⟨(some 43), .q (.bin .quo (.tmp 42) (.const (vb8 3))), none⟩, ⟨(some 44), .q (.toInt .i64 (.tmp 43)), none⟩, ⟨(some 45), .q (.move (.tmp 4)), none⟩, ⟨(some 46), .q (.lenL (.tmp 45)), none⟩, ⟨(some 47), .q (.bin .rem (.tmp 44) (.tmp 46)), none⟩, ⟨(some 7), .q (.move (.tmp 47)), none⟩]) (.seq (.region [⟨(some 49), .q (.move (.tmp 3)), none⟩, ⟨(some 50), .q (.move (.tmp 4)), none⟩, ⟨(some 51), .q (.move (.tmp 7)), none⟩, ⟨(some 52), .q (.idxAddrSl 1 (.tmp 50) (.tmp 51)), none⟩, ⟨(some 53), .q (.loadS (.tmp 52)), none⟩, ⟨(some 54), .e (.call (.const (AV.func (.func 23) [] [])) [(.tmp 49), (.tmp 53)]), none⟩, ⟨(some 48), .q (.move (.tmp 54)), none⟩, ⟨(some 55), .q (.extract 0 (.tmp 48)), none⟩, ⟨(some 56), .q (.extract 1 (.tmp 48)), none⟩, ⟨(some 8), .q (.move (.tmp 55)), none⟩, ⟨(some 9), .q (.move (.tmp 56)), none⟩]) (.seq (.region [⟨(some 58), .q (.move (.tmp 3)), none⟩, ⟨(some 59), .q (.move (.tmp 4)), none⟩, ⟨(some 60), .q (.move (.tmp 7)), none⟩, ⟨(some 61), .q (.idxAddrSl 1 (.tmp 59) (.tmp 60)), none⟩, ⟨(some 62), .q (.loadS (.tmp 61)), none⟩, ⟨(some 63), .e (.call (.const (AV.func (.func 23) [] [])) [(.tmp 58), (.tmp 62)]), none⟩, ⟨(some 57), .q (.move (.tmp 63)), none⟩, ⟨(some 64), .q (.extract 0 (.tmp 57)), none⟩, ⟨(some 65), .q (.extract 1 (.tmp 57)), none⟩, ⟨(some 10), .q (.move (.tmp 64)), none⟩, ⟨(some 11), .q (.move (.tmp 65)), none⟩]) (.seq (.region [⟨(some 67), .q (.move (.tmp 3)), none⟩, ⟨(some 68), .q (.move (.tmp 4)), none⟩, ⟨(some 69), .q (.move (.tmp 7)), none⟩, ⟨(some 70), .q (.idxAddrSl 1 (.tmp 68) (.tmp 69)), none⟩, ⟨(some 71), .q (.loadS (.tmp 70)), none⟩, ⟨(some 72), .e (.call (.const (AV.func (.func 24) [] [])) [(.tmp 67), (.tmp 71)]), none⟩, ⟨(some 66), .q (.move (.tmp 72)), none⟩, ⟨(some 73), .q (.extract 0 (.tmp 66)), none⟩, ⟨(some 74), .q (.extract 1 (.tmp 66)), none⟩, ⟨(some 12), .q (.move (.tmp 73)), none⟩, ⟨(some 13), .q (.move (.tmp 74)), none⟩]) (.seq (.seq (.region [⟨(some 75), .q (.move (.tmp 9)), none⟩, ⟨(some 76), .q (.eq .int true (.tmp 75) (.const (vi 0))), none⟩, ⟨(some 77), .q (.move (.tmp 76)), none⟩, ⟨(some 78), .q (.move (.tmp 8)), (some (77, false))⟩, ⟨(some 79), .q (.move (.tmp 4)), (some (77, false))⟩, ⟨(some 80), .q (.move (.tmp 7)), (some (77, false))⟩, ⟨(some 81), .q (.idxAddrSl 1 (.tmp 79) (.tmp 80)), (some (77, false))⟩, ⟨(some 82), .q (.loadS (.tmp 81)), (some (77, false))⟩, ⟨(some 83), .q (.toInt .i64 (.tmp 82)), (some (77, false))⟩, ⟨(some 84), .q (.bin .add (.tmp 83) (.const (vi 100))), (some (77, false))⟩, ⟨(some 85), .q (.eq .int true (.tmp 78) (.tmp 84)), (some (77, false))⟩, ⟨(some 86), .q (.pick (.tmp 77) (.const (AV.bool true)) (.tmp 85)), none⟩, ⟨(some 87), .q (.move (.tmp 86)), none⟩, ⟨(some 88), .q (.move (.tmp 11)), (some (87, false))⟩, ⟨(some 89), .q (.eq .int true (.tmp 88) (.const (vi 9))), (some (87, false))⟩, ⟨(some 90), .q (.pick (.tmp 87) (.const (AV.bool true)) (.tmp 89)), none⟩, ⟨(some 91), .q (.move (.tmp 90)), none⟩, ⟨(some 92), .q (.move (.tmp 13)), (some (91, false))⟩, ⟨(some 93), .q (.eq .int true (.tmp 92) (.const (vi 9))), (some (91, false))⟩, ⟨(some 94), .q (.pick (.tmp 91) (.const (AV.bool true)) (.tmp 93)), none⟩]) (.cond (.tmp 94) (.seq (.region [⟨(some 2), .q (.move (.const (AV.bool false))), none⟩]) .ret) .skip)) (.seq (.drawn [⟨[(⟨(some 95), .l (.buildSlice 1 0 [(vq 0)] []), none⟩, 0), (⟨(some 96), .q (.move (.tmp 4)), none⟩, 0), (⟨(some 97), .q (.move (.tmp 7)), none⟩, 0), (⟨(some 98), .q (.sliceSl 1 (.tmp 96) none (some (.tmp 97)) none), none⟩, 0), (⟨(some 100), .q (.move (.tmp 4)), none⟩, 1), (⟨(some 101), .q (.move (.tmp 7)), none⟩, 1), (⟨(some 102), .q (.bin .add (.tmp 101) (.const (vi 1))), none⟩, 1), (⟨(some 103), .q (.sliceSl 1 (.tmp 100) (some (.tmp 102)) none none), none⟩, 1)], (some ⟨(some 99), .e (.append 1 8 (.tmp 95) (.tmp 98)), none⟩)⟩, ⟨[], (some ⟨(some 104), .e (.append 1 8 (.tmp 99) (.tmp 103)), none⟩)⟩, ⟨[(⟨(some 4), .q (.move (.tmp 104)), none⟩, 2)], none⟩]) (.exit 1))))))) .skip)) (.seq (.region [⟨(some 106), .q (.move (.tmp 3)), none⟩, ⟨(some 107), .q (.move (.tmp 5)), none⟩, ⟨(some 108), .q (.toInt .i64 (.tmp 107)), none⟩, ⟨(some 109), .q (.bin .add (.tmp 108) (.const (vi 101))), none⟩, ⟨(some 110), .e (.call (.const (AV.func (.func 25) [] [])) [(.tmp 106), (.tmp 109)]), none⟩, ⟨(some 105), .q (.move (.tmp 110)), none⟩, ⟨(some 111), .q (.extract 0 (.tmp 105)), none⟩, ⟨(some 112), .q (.extract 1 (.tmp 105)), none⟩, ⟨(some 14), .q (.move (.tmp 111)), none⟩, ⟨(some 15), .q (.move (.tmp 112)), none⟩]) (.seq (.seq (.region [⟨(some 113), .q (.move (.tmp 4)), none⟩, ⟨(some 114), .q (.lenL (.tmp 113)), none⟩, ⟨(some 115), .q (.bin .geq (.tmp 114) (.const (vi 8))), none⟩]) (.cond (.tmp 115) (.seq (.seq (.region [⟨(some 116), .q (.move (.tmp 15)), none⟩, ⟨(some 117), .q (.eq .int true (.tmp 116) (.const (vi 12))), none⟩, ⟨(some 118), .q (.move (.tmp 117)), none⟩, ⟨(some 119), .q (.move (.tmp 14)), (some (118, false))⟩, ⟨(some 120), .q (.eq .int true (.tmp 119) (.const (vq 0))), (some (118, false))⟩, ⟨(some 121), .q (.pick (.tmp 118) (.const (AV.bool true)) (.tmp 120)), none⟩]) (.cond (.tmp 121) (.seq (.region [⟨(some 2), .q (.move (.const (AV.bool false))), none⟩]) .ret) .skip)) (.exit 1)) .skip)) (.seq (.seq (.region [⟨(some 122), .q (.move (.tmp 15)), none⟩, ⟨(some 123), .q (.eq .int true (.tmp 122) (.const (vi 0))), none⟩, ⟨(some 124), .q (.move (.tmp 123)), none⟩, ⟨(some 125), .q (.move (.tmp 14)), (some (124, false))⟩, ⟨(some 126), .q (.move (.tmp 5)), (some (124, false))⟩, ⟨(some 127), .q (.bin .add (.tmp 126) (.const (vq 1))), (some (124, false))⟩, ⟨(some 128), .q (.eq .int true (.tmp 125) (.tmp 127)), (some (124, false))⟩, ⟨(some 129), .q (.pick (.tmp 124) (.const (AV.bool true)) (.tmp 128)), none⟩]) (.cond (.tmp 129) (.seq (.region [⟨(some 2), .q (.move (.const (AV.bool false))), none⟩]) .ret) .skip)) (.seq (.region [⟨(some 130), .q (.move (.tmp 14)), none⟩, ⟨(some 5), .q (.move (.tmp 130)), none⟩]) (.region [⟨(some 131), .q (.move (.tmp 4)), none⟩, ⟨(some 132), .q (.move (.tmp 14)), none⟩, ⟨(some 133), .l (.buildSlice 1 1 [(vq 0)] [(0, 1, (.tmp 132))]), none⟩, ⟨(some 134), .e (.append 1 8 (.tmp 131) (.tmp 133)), none⟩, ⟨(some 4), .q (.move (.tmp 134)), none⟩]))))))) (.region [⟨(some 26), .q (.move (.tmp 6)), none⟩, ⟨(some 27), .q (.bin .add (.tmp 26) (.const (vi 1))), none⟩, ⟨(some 6), .q (.move (.tmp 27)), none⟩])))
theorem lawnever_l1_body {call : CallT} {N : Nat} {t : T} {h : Hp} {wB0_1 : AV} {b102 : Nat} {ZG_103 : Nat → Prop} {Zk_103 : Hp} {G : Nat → Prop} {h0 : Hp} {B0 : List Nat} (fB0_2 : BIn G h0 wB0_1 B0) (h_begun : TrueS call 21) (h_new : NewS call) (h_hclose : C_hclose call) (h_hget : C_hget call) (h_hadd : C_hadd call) (h_samenums : C_samenums call) (h_hall : C_hall call) {o : LO (Bool × List Nat × Nat × Nat × List (Nat × Int) × Nat) (Bool)} {n : Nat} {A2 : Bool} {A4 : List Nat} {A5 : Nat} {A6 : Nat} {Q102_0 : List (Nat × Int)} {Q102_1 : Nat} {wA4 : AV} {LA4 : List AV} {wQ102_0 : AV} {G_103 : Nat → Prop} {k_103 : Hp} (hN : 90000 < N) (hi : (fun (z : Nat × Bool × List Nat × Nat × Nat × List (Nat × Int) × Nat × AV × List AV × AV × (Nat → Prop) × Hp) (h' : Hp) => lawnever_l1 B0 z.1 z.2.1 z.2.2.1 z.2.2.2.1 z.2.2.2.2.1 z.2.2.2.2.2.1 z.2.2.2.2.2.2.1 = some o ∧ (Eng.Rows (rU .u64) z.2.2.2.2.2.2.2.2.2.2.1 z.2.2.2.2.2.2.2.2.2.2.2 z.2.2.2.2.2.2.2.2.1 z.2.2.1) ∧ (z.2.2.2.1 < 18446744073709551616) ∧ (∀ p ∈ z.2.2.2.2.2.1, p.1 < 18446744073709551616) ∧ (z.2.2.2.2.2.2.1 < 18446744073709551616) ∧ (Up ZG_103 Zk_103 z.2.2.2.2.2.2.2.2.2.2.1 z.2.2.2.2.2.2.2.2.2.2.2) ∧ Eng.Sep [OwnO 1 z.2.2.2.2.2.2.2.1 z.2.2.1.length z.2.2.2.2.2.2.2.2.1, Cel b102 [z.2.2.2.2.2.2.2.2.2.1, (vq z.2.2.2.2.2.2.1)], MapO z.2.2.2.2.2.2.2.2.2.1 z.2.2.2.2.2.1, Frz z.2.2.2.2.2.2.2.2.2.2.1 z.2.2.2.2.2.2.2.2.2.2.2, Frz G h0] h') (n, A2, A4, A5, A6, Q102_0, Q102_1, wA4, LA4, wQ102_0, G_103, k_103) h)
    : ∃ s, evC call N lawnever_l1C (ovT [(0, wB0_1), (2, (AV.bool A2)), (3, (AV.ptr b102 0)), (4, wA4), (5, (vq A5)), (6, (vi A6))] t) h = s ∧ obsS [0, 2, 3, 4, 5, 6] (fun ls h' => ∃ y, ls = ((fun (z : Nat × Bool × List Nat × Nat × Nat × List (Nat × Int) × Nat × AV × List AV × AV × (Nat → Prop) × Hp) => [(0, wB0_1), (2, (AV.bool z.2.1)), (3, (AV.ptr b102 0)), (4, z.2.2.2.2.2.2.2.1), (5, (vq z.2.2.2.1)), (6, (vi z.2.2.2.2.1))]) y).map (fun p => some p.2) ∧ (fun (z : Nat × Bool × List Nat × Nat × Nat × List (Nat × Int) × Nat × AV × List AV × AV × (Nat → Prop) × Hp) (h' : Hp) => lawnever_l1 B0 z.1 z.2.1 z.2.2.1 z.2.2.2.1 z.2.2.2.2.1 z.2.2.2.2.2.1 z.2.2.2.2.2.2.1 = some o ∧ (Eng.Rows (rU .u64) z.2.2.2.2.2.2.2.2.2.2.1 z.2.2.2.2.2.2.2.2.2.2.2 z.2.2.2.2.2.2.2.2.1 z.2.2.1) ∧ (z.2.2.2.1 < 18446744073709551616) ∧ (∀ p ∈ z.2.2.2.2.2.1, p.1 < 18446744073709551616) ∧ (z.2.2.2.2.2.2.1 < 18446744073709551616) ∧ (Up ZG_103 Zk_103 z.2.2.2.2.2.2.2.2.2.2.1 z.2.2.2.2.2.2.2.2.2.2.2) ∧ Eng.Sep [OwnO 1 z.2.2.2.2.2.2.2.1 z.2.2.1.length z.2.2.2.2.2.2.2.2.1, Cel b102 [z.2.2.2.2.2.2.2.2.2.1, (vq z.2.2.2.2.2.2.1)], MapO z.2.2.2.2.2.2.2.2.2.1 z.2.2.2.2.2.1, Frz z.2.2.2.2.2.2.2.2.2.2.1 z.2.2.2.2.2.2.2.2.2.2.2, Frz G h0] h') y h' ∧ (fun (z : Nat × Bool × List Nat × Nat × Nat × List (Nat × Int) × Nat × AV × List AV × AV × (Nat → Prop) × Hp) => z.1) y < (fun (z : Nat × Bool × List Nat × Nat × Nat × List (Nat × Int) × Nat × AV × List AV × AV × (Nat → Prop) × Hp) => z.1) (n, A2, A4, A5, A6, Q102_0, Q102_1, wA4, LA4, wQ102_0, G_103, k_103)) (fun i ls h' => ∃ y, ls = ((fun (z : Nat × Bool × List Nat × Nat × Nat × List (Nat × Int) × Nat × AV × List AV × AV × (Nat → Prop) × Hp) => [(0, wB0_1), (2, (AV.bool z.2.1)), (3, (AV.ptr b102 0)), (4, z.2.2.2.2.2.2.2.1), (5, (vq z.2.2.2.1)), (6, (vi z.2.2.2.2.1))]) y).map (fun p => some p.2) ∧ (fun (i : Nat) (z : Nat × Bool × List Nat × Nat × Nat × List (Nat × Int) × Nat × AV × List AV × AV × (Nat → Prop) × Hp) (h' : Hp) => (i = 0) ∧ (i = 0 → o = LO.ex (z.2.1, z.2.2.1, z.2.2.2.1, z.2.2.2.2.1, z.2.2.2.2.2.1, z.2.2.2.2.2.2.1) ∧ (Eng.Rows (rU .u64) z.2.2.2.2.2.2.2.2.2.2.1 z.2.2.2.2.2.2.2.2.2.2.2 z.2.2.2.2.2.2.2.2.1 z.2.2.1) ∧ (z.2.2.2.1 < 18446744073709551616) ∧ (∀ p ∈ z.2.2.2.2.2.1, p.1 < 18446744073709551616) ∧ (z.2.2.2.2.2.2.1 < 18446744073709551616) ∧ (Up ZG_103 Zk_103 z.2.2.2.2.2.2.2.2.2.2.1 z.2.2.2.2.2.2.2.2.2.2.2) ∧ Eng.Sep [OwnO 1 z.2.2.2.2.2.2.2.1 z.2.2.1.length z.2.2.2.2.2.2.2.2.1, Cel b102 [z.2.2.2.2.2.2.2.2.2.1, (vq z.2.2.2.2.2.2.1)], MapO z.2.2.2.2.2.2.2.2.2.1 z.2.2.2.2.2.1, Frz z.2.2.2.2.2.2.2.2.2.2.1 z.2.2.2.2.2.2.2.2.2.2.2, Frz G h0] h')) i y h') (fun ls h' => (fun (ls : List (Option AV)) (h' : Hp) => ∃ (rt : Bool) (v2 : AV), o = LO.rt rt ∧ ls[1]? = some (some v2) ∧ (v2 = (AV.bool rt))) ls h') s := by
  have hi : lawnever_l1 B0 n A2 A4 A5 A6 Q102_0 Q102_1 = some o ∧ (Eng.Rows (rU .u64) G_103 k_103 LA4 A4) ∧ (A5 < 18446744073709551616) ∧ (∀ p ∈ Q102_0, p.1 < 18446744073709551616) ∧ (Q102_1 < 18446744073709551616) ∧ (Up ZG_103 Zk_103 G_103 k_103) ∧ Eng.Sep [OwnO 1 wA4 A4.length LA4, Cel b102 [wQ102_0, (vq Q102_1)], MapO wQ102_0 Q102_0, Frz G_103 k_103, Frz G h0] h := hi
  obtain ⟨hp, fA4, fA5_1, fQ102_0, fQ102_1_1, fU_103, S⟩ := hi
  obtain ⟨m, hm⟩ : ∃ m, n = m + 1 := by
    cases n with
    | zero => first | cases hp | (unfold lawnever_l1 at hp; cases hp) | (simp [lawnever_l1] at hp)
    | succ m => exact ⟨m, rfl⟩
  rw [hm] at hp
  unfold lawnever_l1 at hp
  refine walk_ok (o := (.tell 2 (vi B0.length) (.fork 0 (.tell 2 (elemP wB0_1 A6 1) (.tell 0 (vb8 (B0.getD A6 0)) (.tell 0 (vb8 ((B0.getD A6 0) % 3)) (.fork 1 (.tell 1 (vi A4.length) (.fork 1 (.tell 2 (elemP wB0_1 A6 1) (.tell 0 (vb8 (B0.getD A6 0)) (.tell 0 (vb8 ((B0.getD A6 0) / 3)) (.tell 0 (vi ((B0.getD A6 0) / 3)) (.tell 1 (vi A4.length) (.tell 0 (vi (((B0.getD A6 0) / 3) % A4.length)) (.tell 4 (elemP wA4 (((B0.getD A6 0) / 3) % A4.length) 1) (.tell 0 (vq (A4.getD (((B0.getD A6 0) / 3) % A4.length) default)) (.exi 0 fun (x12 : List (Nat × Int) × Nat × Int × Nat) => (.exi 0 fun (w21 : AV) => (.exi 0 fun (h17 : Hp) => (.eff 0 (AV.tuple [(AV.int .i64 x12.2.2.1), (vi x12.2.2.2)]) h17 (.tell 8 (elemP wA4 (((B0.getD A6 0) / 3) % A4.length) 1) (.tell 0 (vq (A4.getD (((B0.getD A6 0) / 3) % A4.length) default)) (.exi 0 fun (x27 : List (Nat × Int) × Nat × Int × Nat) => (.exi 0 fun (w36 : AV) => (.exi 0 fun (h32 : Hp) => (.eff 0 (AV.tuple [(AV.int .i64 x27.2.2.1), (vi x27.2.2.2)]) h32 (.tell 8 (elemP wA4 (((B0.getD A6 0) / 3) % A4.length) 1) (.tell 0 (vq (A4.getD (((B0.getD A6 0) / 3) % A4.length) default)) (.exi 0 fun (x42 : List (Nat × Int) × Nat × Int × Nat) => (.exi 0 fun (w51 : AV) => (.exi 0 fun (h47 : Hp) => (.eff 0 (AV.tuple [(AV.int .i64 x42.2.2.1), (vi x42.2.2.2)]) h47 (.fork 7 .fin (.tell 3 (elemP wA4 (((B0.getD A6 0) / 3) % A4.length) 1) (.tell 0 (vq (A4.getD (((B0.getD A6 0) / 3) % A4.length) default)) (.tell 0 (vi (A4.getD (((B0.getD A6 0) / 3) % A4.length) default)) (.tell 0 (vi ((A4.getD (((B0.getD A6 0) / 3) % A4.length) default) + 100)) (.fork 2 .fin (.fork 3 .fin (.fork 2 .fin (.tell 3 (partS wA4 0 (((B0.getD A6 0) / 3) % A4.length)) (.tell 2 (vi ((((B0.getD A6 0) / 3) % A4.length) + 1)) (.tell 0 (partS wA4 ((((B0.getD A6 0) / 3) % A4.length) + 1) A4.length) (.again 0 (.effx 0 (fun e73 => e73.v) (fun e73 => (.again 0 (.effx 0 (fun e82 => e82.v) (fun e82 => (.again 1 (.tell 1 (vi (A6 + 1)) .fin))))))))))))))))))))))))))))))))))))))))))) (.tell 2 (vi A5) (.tell 0 (vi (A5 + 101)) (.exi 0 fun (x9 : List (Nat × Int) × Nat × Nat × Nat) => (.exi 0 fun (w19 : AV) => (.exi 0 fun (h15 : Hp) => (.eff 0 (AV.tuple [(vq x9.2.2.1), (vi x9.2.2.2)]) h15 (.tell 6 (vi A4.length) (.fork 0 (.fork 2 .fin (.fork 2 .fin (.tell 1 (vi (A6 + 1)) .fin))) (.fork 2 .fin (.tell 2 (vq ((A5 + 1) % 18446744073709551616)) (.fork 1 .fin (.effx 5 (fun e29 => e29.v) (fun e29 => (.tell 2 (vi (A6 + 1)) .fin)))))))))))))))) (.tell 3 (vi A5) (.tell 0 (vi (A5 + 101)) (.exi 0 fun (x8 : List (Nat × Int) × Nat × Nat × Nat) => (.exi 0 fun (w18 : AV) => (.exi 0 fun (h14 : Hp) => (.eff 0 (AV.tuple [(vq x8.2.2.1), (vi x8.2.2.2)]) h14 (.tell 6 (vi A4.length) (.fork 0 (.fork 2 .fin (.fork 2 .fin (.tell 1 (vi (A6 + 1)) .fin))) (.fork 2 .fin (.tell 2 (vq ((A5 + 1) % 18446744073709551616)) (.fork 1 .fin (.effx 5 (fun e28 => e28.v) (fun e28 => (.tell 2 (vi (A6 + 1)) .fin)))))))))))))))))) .fin))) (p := (fun (KN : List (Option AV) → Hp → Prop) (KE : Nat → List (Option AV) → Hp → Prop) (KR : List (Option AV) → Hp → Prop) => ((evQ (.lenL (.const wB0_1)) .lf H0 = .ok (vi B0.length) ∧ ((ltI (Int.ofNat A6) (Int.ofNat B0.length) = true → ((evQ (.idxAddrSl 1 (.const wB0_1) (.const (vi A6))) .lf H0 = .ok (elemP wB0_1 A6 1) ∧ ((evQ (.loadS (.const (elemP wB0_1 A6 1))) .lf h = .ok (vb8 (B0.getD A6 0)) ∧ ((evQ (.bin .rem (.const (vb8 (B0.getD A6 0))) (.const (vb8 3))) .lf H0 = .ok (vb8 ((B0.getD A6 0) % 3)) ∧ ((eqI (Int.ofNat ((B0.getD A6 0) % 3)) (Int.ofNat 0) = true → ((evQ (.lenL (.const wA4)) .lf H0 = .ok (vi A4.length) ∧ ((ltI (Int.ofNat 0) (Int.ofNat A4.length) = true → ((evQ (.idxAddrSl 1 (.const wB0_1) (.const (vi A6))) .lf H0 = .ok (elemP wB0_1 A6 1) ∧ ((evQ (.loadS (.const (elemP wB0_1 A6 1))) .lf h = .ok (vb8 (B0.getD A6 0)) ∧ ((evQ (.bin .quo (.const (vb8 (B0.getD A6 0))) (.const (vb8 3))) .lf H0 = .ok (vb8 ((B0.getD A6 0) / 3)) ∧ ((evQ (.toInt .i64 (.const (vb8 ((B0.getD A6 0) / 3)))) .lf H0 = .ok (vi ((B0.getD A6 0) / 3)) ∧ ((evQ (.lenL (.const wA4)) .lf H0 = .ok (vi A4.length) ∧ ((evQ (.bin .rem (.const (vi ((B0.getD A6 0) / 3))) (.const (vi A4.length))) .lf H0 = .ok (vi (((B0.getD A6 0) / 3) % A4.length)) ∧ ((evQ (.idxAddrSl 1 (.const wA4) (.const (vi (((B0.getD A6 0) / 3) % A4.length)))) .lf H0 = .ok (elemP wA4 (((B0.getD A6 0) / 3) % A4.length) 1) ∧ ((evQ (.loadS (.const (elemP wA4 (((B0.getD A6 0) / 3) % A4.length) 1))) .lf h = .ok (vq (A4.getD (((B0.getD A6 0) / 3) % A4.length) default)) ∧ (∃ x12 : List (Nat × Int) × Nat × Int × Nat, ∃ w21 : AV, ∃ h17 : Hp, (call 23 [(AV.ptr b102 0), (vq (A4.getD (((B0.getD A6 0) / 3) % A4.length) default))] h = .ok (AV.tuple [(AV.int .i64 x12.2.2.1), (vi x12.2.2.2)]) h17 ∧ ((evQ (.idxAddrSl 1 (.const wA4) (.const (vi (((B0.getD A6 0) / 3) % A4.length)))) .lf H0 = .ok (elemP wA4 (((B0.getD A6 0) / 3) % A4.length) 1) ∧ ((evQ (.loadS (.const (elemP wA4 (((B0.getD A6 0) / 3) % A4.length) 1))) .lf h17 = .ok (vq (A4.getD (((B0.getD A6 0) / 3) % A4.length) default)) ∧ (∃ x27 : List (Nat × Int) × Nat × Int × Nat, ∃ w36 : AV, ∃ h32 : Hp, (call 23 [(AV.ptr b102 0), (vq (A4.getD (((B0.getD A6 0) / 3) % A4.length) default))] h17 = .ok (AV.tuple [(AV.int .i64 x27.2.2.1), (vi x27.2.2.2)]) h32 ∧ ((evQ (.idxAddrSl 1 (.const wA4) (.const (vi (((B0.getD A6 0) / 3) % A4.length)))) .lf H0 = .ok (elemP wA4 (((B0.getD A6 0) / 3) % A4.length) 1) ∧ ((evQ (.loadS (.const (elemP wA4 (((B0.getD A6 0) / 3) % A4.length) 1))) .lf h32 = .ok (vq (A4.getD (((B0.getD A6 0) / 3) % A4.length) default)) ∧ (∃ x42 : List (Nat × Int) × Nat × Int × Nat, ∃ w51 : AV, ∃ h47 : Hp, (call 24 [(AV.ptr b102 0), (vq (A4.getD (((B0.getD A6 0) / 3) % A4.length) default))] h32 = .ok (AV.tuple [(AV.int .i64 x42.2.2.1), (vi x42.2.2.2)]) h47 ∧ ((notB (eqI (Int.ofNat x12.2.2.2) (Int.ofNat 0)) = true → KR [some wB0_1, some (AV.bool false), some (AV.ptr b102 0), some wA4, some (vq A5), some (vi A6)] h47) ∧ (notB (eqI (Int.ofNat x12.2.2.2) (Int.ofNat 0)) = false → ((evQ (.idxAddrSl 1 (.const wA4) (.const (vi (((B0.getD A6 0) / 3) % A4.length)))) .lf H0 = .ok (elemP wA4 (((B0.getD A6 0) / 3) % A4.length) 1) ∧ ((evQ (.loadS (.const (elemP wA4 (((B0.getD A6 0) / 3) % A4.length) 1))) .lf h47 = .ok (vq (A4.getD (((B0.getD A6 0) / 3) % A4.length) default)) ∧ ((evQ (.toInt .i64 (.const (vq (A4.getD (((B0.getD A6 0) / 3) % A4.length) default)))) .lf H0 = .ok (vi (A4.getD (((B0.getD A6 0) / 3) % A4.length) default)) ∧ ((evQ (.bin .add (.const (vi (A4.getD (((B0.getD A6 0) / 3) % A4.length) default))) (.const (vi 100))) .lf H0 = .ok (vi ((A4.getD (((B0.getD A6 0) / 3) % A4.length) default) + 100)) ∧ ((notB (eqI x12.2.2.1 (Int.ofNat ((A4.getD (((B0.getD A6 0) / 3) % A4.length) default) + 100))) = true → KR [some wB0_1, some (AV.bool false), some (AV.ptr b102 0), some wA4, some (vq A5), some (vi A6)] h47) ∧ (notB (eqI x12.2.2.1 (Int.ofNat ((A4.getD (((B0.getD A6 0) / 3) % A4.length) default) + 100))) = false → ((notB (eqI (Int.ofNat x27.2.2.2) (Int.ofNat 9)) = true → KR [some wB0_1, some (AV.bool false), some (AV.ptr b102 0), some wA4, some (vq A5), some (vi A6)] h47) ∧ (notB (eqI (Int.ofNat x27.2.2.2) (Int.ofNat 9)) = false → ((notB (eqI (Int.ofNat x42.2.2.2) (Int.ofNat 9)) = true → KR [some wB0_1, some (AV.bool false), some (AV.ptr b102 0), some wA4, some (vq A5), some (vi A6)] h47) ∧ (notB (eqI (Int.ofNat x42.2.2.2) (Int.ofNat 9)) = false → ((evQ (.sliceSl 1 (.const wA4) none (some (.const (vi (((B0.getD A6 0) / 3) % A4.length)))) none) .lf H0 = .ok (partS wA4 0 (((B0.getD A6 0) / 3) % A4.length)) ∧ ((evQ (.bin .add (.const (vi (((B0.getD A6 0) / 3) % A4.length))) (.const (vi 1))) .lf H0 = .ok (vi ((((B0.getD A6 0) / 3) % A4.length) + 1)) ∧ ((evQ (.sliceSl 1 (.const wA4) (some (.const (vi ((((B0.getD A6 0) / 3) % A4.length) + 1)))) none none) .lf H0 = .ok (partS wA4 ((((B0.getD A6 0) / 3) % A4.length) + 1) A4.length) ∧ ((again (.sliceSl 1 (.const wA4) (some (.const (vi ((((B0.getD A6 0) / 3) % A4.length) + 1)))) none none) .lf (partS wA4 ((((B0.getD A6 0) / 3) % A4.length) + 1) A4.length) (hpush h47 (mkCells [] 0)) = true ∧ again (.bin .add (.const (vi (((B0.getD A6 0) / 3) % A4.length))) (.const (vi 1))) .lf (vi ((((B0.getD A6 0) / 3) % A4.length) + 1)) (hpush h47 (mkCells [] 0)) = true ∧ again (.move (.const (vi (((B0.getD A6 0) / 3) % A4.length)))) .lf (vi (((B0.getD A6 0) / 3) % A4.length)) (hpush h47 (mkCells [] 0)) = true ∧ again (.move (.const wA4)) .lf wA4 (hpush h47 (mkCells [] 0)) = true ∧ again (.sliceSl 1 (.const wA4) none (some (.const (vi (((B0.getD A6 0) / 3) % A4.length)))) none) .lf (partS wA4 0 (((B0.getD A6 0) / 3) % A4.length)) (hpush h47 (mkCells [] 0)) = true ∧ again (.move (.const (vi (((B0.getD A6 0) / 3) % A4.length)))) .lf (vi (((B0.getD A6 0) / 3) % A4.length)) (hpush h47 (mkCells [] 0)) = true ∧ again (.move (.const wA4)) .lf wA4 (hpush h47 (mkCells [] 0)) = true ∧ True) ∧ (∃ e73 : Ev, evE (.append 1 8 (.const (AV.slice (Hp.next h47) 0 0 0 1 true)) (.const (partS wA4 0 (((B0.getD A6 0) / 3) % A4.length)))) call .lf (hpush h47 (mkCells [] 0)) = .ok e73.v e73.h ∧ ((again (.sliceSl 1 (.const wA4) (some (.const (vi ((((B0.getD A6 0) / 3) % A4.length) + 1)))) none none) .lf (partS wA4 ((((B0.getD A6 0) / 3) % A4.length) + 1) A4.length) e73.h = true ∧ again (.bin .add (.const (vi (((B0.getD A6 0) / 3) % A4.length))) (.const (vi 1))) .lf (vi ((((B0.getD A6 0) / 3) % A4.length) + 1)) e73.h = true ∧ again (.move (.const (vi (((B0.getD A6 0) / 3) % A4.length)))) .lf (vi (((B0.getD A6 0) / 3) % A4.length)) e73.h = true ∧ again (.move (.const wA4)) .lf wA4 e73.h = true ∧ True) ∧ (∃ e82 : Ev, evE (.append 1 8 (.const e73.v) (.const (partS wA4 ((((B0.getD A6 0) / 3) % A4.length) + 1) A4.length))) call .lf e73.h = .ok e82.v e82.h ∧ ((again (.move (.const e82.v)) .lf e82.v e82.h = true ∧ True) ∧ ((evQ (.bin .add (.const (vi A6)) (.const (vi 1))) .lf H0 = .ok (vi (A6 + 1)) ∧ KN [some wB0_1, some (AV.bool A2), some (AV.ptr b102 0), some e82.v, some (vq A5), some (vi (A6 + 1))] e82.h)))))))))))))))))))))))))))))))))))))))))))))))))))))))))))) ∧ (ltI (Int.ofNat 0) (Int.ofNat A4.length) = false → ((evQ (.toInt .i64 (.const (vq A5))) .lf H0 = .ok (vi A5) ∧ ((evQ (.bin .add (.const (vi A5)) (.const (vi 101))) .lf H0 = .ok (vi (A5 + 101)) ∧ (∃ x9 : List (Nat × Int) × Nat × Nat × Nat, ∃ w19 : AV, ∃ h15 : Hp, (call 25 [(AV.ptr b102 0), (vi (A5 + 101))] h = .ok (AV.tuple [(vq x9.2.2.1), (vi x9.2.2.2)]) h15 ∧ ((evQ (.lenL (.const wA4)) .lf H0 = .ok (vi A4.length) ∧ ((notB (ltI (Int.ofNat A4.length) (Int.ofNat 8)) = true → ((notB (eqI (Int.ofNat x9.2.2.2) (Int.ofNat 12)) = true → KR [some wB0_1, some (AV.bool false), some (AV.ptr b102 0), some wA4, some (vq A5), some (vi A6)] h15) ∧ (notB (eqI (Int.ofNat x9.2.2.2) (Int.ofNat 12)) = false → ((notB (eqI (Int.ofNat x9.2.2.1) (Int.ofNat 0)) = true → KR [some wB0_1, some (AV.bool false), some (AV.ptr b102 0), some wA4, some (vq A5), some (vi A6)] h15) ∧ (notB (eqI (Int.ofNat x9.2.2.1) (Int.ofNat 0)) = false → ((evQ (.bin .add (.const (vi A6)) (.const (vi 1))) .lf H0 = .ok (vi (A6 + 1)) ∧ KN [some wB0_1, some (AV.bool A2), some (AV.ptr b102 0), some wA4, some (vq A5), some (vi (A6 + 1))] h15))))))) ∧ (notB (ltI (Int.ofNat A4.length) (Int.ofNat 8)) = false → ((notB (eqI (Int.ofNat x9.2.2.2) (Int.ofNat 0)) = true → KR [some wB0_1, some (AV.bool false), some (AV.ptr b102 0), some wA4, some (vq A5), some (vi A6)] h15) ∧ (notB (eqI (Int.ofNat x9.2.2.2) (Int.ofNat 0)) = false → ((evQ (.bin .add (.const (vq A5)) (.const (vq 1))) .lf H0 = .ok (vq ((A5 + 1) % 18446744073709551616)) ∧ ((notB (eqI (Int.ofNat x9.2.2.1) (Int.ofNat ((A5 + 1) % 18446744073709551616))) = true → KR [some wB0_1, some (AV.bool false), some (AV.ptr b102 0), some wA4, some (vq A5), some (vi A6)] h15) ∧ (notB (eqI (Int.ofNat x9.2.2.1) (Int.ofNat ((A5 + 1) % 18446744073709551616))) = false → (∃ e29 : Ev, evE (.append 1 8 (.const wA4) (.const (AV.slice (Hp.next h15) 0 1 1 1 true))) call .lf (hpush h15 (mkCells [(vq x9.2.2.1)] 1)) = .ok e29.v e29.h ∧ ((evQ (.bin .add (.const (vi A6)) (.const (vi 1))) .lf H0 = .ok (vi (A6 + 1)) ∧ KN [some wB0_1, some (AV.bool A2), some (AV.ptr b102 0), some e29.v, some (vq x9.2.2.1), some (vi (A6 + 1))] e29.h)))))))))))))))))))))))) ∧ (eqI (Int.ofNat ((B0.getD A6 0) % 3)) (Int.ofNat 0) = false → ((evQ (.toInt .i64 (.const (vq A5))) .lf H0 = .ok (vi A5) ∧ ((evQ (.bin .add (.const (vi A5)) (.const (vi 101))) .lf H0 = .ok (vi (A5 + 101)) ∧ (∃ x8 : List (Nat × Int) × Nat × Nat × Nat, ∃ w18 : AV, ∃ h14 : Hp, (call 25 [(AV.ptr b102 0), (vi (A5 + 101))] h = .ok (AV.tuple [(vq x8.2.2.1), (vi x8.2.2.2)]) h14 ∧ ((evQ (.lenL (.const wA4)) .lf H0 = .ok (vi A4.length) ∧ ((notB (ltI (Int.ofNat A4.length) (Int.ofNat 8)) = true → ((notB (eqI (Int.ofNat x8.2.2.2) (Int.ofNat 12)) = true → KR [some wB0_1, some (AV.bool false), some (AV.ptr b102 0), some wA4, some (vq A5), some (vi A6)] h14) ∧ (notB (eqI (Int.ofNat x8.2.2.2) (Int.ofNat 12)) = false → ((notB (eqI (Int.ofNat x8.2.2.1) (Int.ofNat 0)) = true → KR [some wB0_1, some (AV.bool false), some (AV.ptr b102 0), some wA4, some (vq A5), some (vi A6)] h14) ∧ (notB (eqI (Int.ofNat x8.2.2.1) (Int.ofNat 0)) = false → ((evQ (.bin .add (.const (vi A6)) (.const (vi 1))) .lf H0 = .ok (vi (A6 + 1)) ∧ KN [some wB0_1, some (AV.bool A2), some (AV.ptr b102 0), some wA4, some (vq A5), some (vi (A6 + 1))] h14))))))) ∧ (notB (ltI (Int.ofNat A4.length) (Int.ofNat 8)) = false → ((notB (eqI (Int.ofNat x8.2.2.2) (Int.ofNat 0)) = true → KR [some wB0_1, some (AV.bool false), some (AV.ptr b102 0), some wA4, some (vq A5), some (vi A6)] h14) ∧ (notB (eqI (Int.ofNat x8.2.2.2) (Int.ofNat 0)) = false → ((evQ (.bin .add (.const (vq A5)) (.const (vq 1))) .lf H0 = .ok (vq ((A5 + 1) % 18446744073709551616)) ∧ ((notB (eqI (Int.ofNat x8.2.2.1) (Int.ofNat ((A5 + 1) % 18446744073709551616))) = true → KR [some wB0_1, some (AV.bool false), some (AV.ptr b102 0), some wA4, some (vq A5), some (vi A6)] h14) ∧ (notB (eqI (Int.ofNat x8.2.2.1) (Int.ofNat ((A5 + 1) % 18446744073709551616))) = false → (∃ e28 : Ev, evE (.append 1 8 (.const wA4) (.const (AV.slice (Hp.next h14) 0 1 1 1 true))) call .lf (hpush h14 (mkCells [(vq x8.2.2.1)] 1)) = .ok e28.v e28.h ∧ ((evQ (.bin .add (.const (vi A6)) (.const (vi 1))) .lf H0 = .ok (vi (A6 + 1)) ∧ KN [some wB0_1, some (AV.bool A2), some (AV.ptr b102 0), some e28.v, some (vq x8.2.2.1), some (vi (A6 + 1))] e28.h)))))))))))))))))))))))))))) ∧ (ltI (Int.ofNat A6) (Int.ofNat B0.length) = false → KE 0 [some wB0_1, some (AV.bool A2), some (AV.ptr b102 0), some wA4, some (vq A5), some (vi A6)] h))))) (fun ls h' => ∃ y, ls = ((fun (z : Nat × Bool × List Nat × Nat × Nat × List (Nat × Int) × Nat × AV × List AV × AV × (Nat → Prop) × Hp) => [(0, wB0_1), (2, (AV.bool z.2.1)), (3, (AV.ptr b102 0)), (4, z.2.2.2.2.2.2.2.1), (5, (vq z.2.2.2.1)), (6, (vi z.2.2.2.2.1))]) y).map (fun p => some p.2) ∧ (fun (z : Nat × Bool × List Nat × Nat × Nat × List (Nat × Int) × Nat × AV × List AV × AV × (Nat → Prop) × Hp) (h' : Hp) => lawnever_l1 B0 z.1 z.2.1 z.2.2.1 z.2.2.2.1 z.2.2.2.2.1 z.2.2.2.2.2.1 z.2.2.2.2.2.2.1 = some o ∧ (Eng.Rows (rU .u64) z.2.2.2.2.2.2.2.2.2.2.1 z.2.2.2.2.2.2.2.2.2.2.2 z.2.2.2.2.2.2.2.2.1 z.2.2.1) ∧ (z.2.2.2.1 < 18446744073709551616) ∧ (∀ p ∈ z.2.2.2.2.2.1, p.1 < 18446744073709551616) ∧ (z.2.2.2.2.2.2.1 < 18446744073709551616) ∧ (Up ZG_103 Zk_103 z.2.2.2.2.2.2.2.2.2.2.1 z.2.2.2.2.2.2.2.2.2.2.2) ∧ Eng.Sep [OwnO 1 z.2.2.2.2.2.2.2.1 z.2.2.1.length z.2.2.2.2.2.2.2.2.1, Cel b102 [z.2.2.2.2.2.2.2.2.2.1, (vq z.2.2.2.2.2.2.1)], MapO z.2.2.2.2.2.2.2.2.2.1 z.2.2.2.2.2.1, Frz z.2.2.2.2.2.2.2.2.2.2.1 z.2.2.2.2.2.2.2.2.2.2.2, Frz G h0] h') y h' ∧ (fun (z : Nat × Bool × List Nat × Nat × Nat × List (Nat × Int) × Nat × AV × List AV × AV × (Nat → Prop) × Hp) => z.1) y < (fun (z : Nat × Bool × List Nat × Nat × Nat × List (Nat × Int) × Nat × AV × List AV × AV × (Nat → Prop) × Hp) => z.1) (n, A2, A4, A5, A6, Q102_0, Q102_1, wA4, LA4, wQ102_0, G_103, k_103)) (fun i ls h' => ∃ y, ls = ((fun (z : Nat × Bool × List Nat × Nat × Nat × List (Nat × Int) × Nat × AV × List AV × AV × (Nat → Prop) × Hp) => [(0, wB0_1), (2, (AV.bool z.2.1)), (3, (AV.ptr b102 0)), (4, z.2.2.2.2.2.2.2.1), (5, (vq z.2.2.2.1)), (6, (vi z.2.2.2.2.1))]) y).map (fun p => some p.2) ∧ (fun (i : Nat) (z : Nat × Bool × List Nat × Nat × Nat × List (Nat × Int) × Nat × AV × List AV × AV × (Nat → Prop) × Hp) (h' : Hp) => (i = 0) ∧ (i = 0 → o = LO.ex (z.2.1, z.2.2.1, z.2.2.2.1, z.2.2.2.2.1, z.2.2.2.2.2.1, z.2.2.2.2.2.2.1) ∧ (Eng.Rows (rU .u64) z.2.2.2.2.2.2.2.2.2.2.1 z.2.2.2.2.2.2.2.2.2.2.2 z.2.2.2.2.2.2.2.2.1 z.2.2.1) ∧ (z.2.2.2.1 < 18446744073709551616) ∧ (∀ p ∈ z.2.2.2.2.2.1, p.1 < 18446744073709551616) ∧ (z.2.2.2.2.2.2.1 < 18446744073709551616) ∧ (Up ZG_103 Zk_103 z.2.2.2.2.2.2.2.2.2.2.1 z.2.2.2.2.2.2.2.2.2.2.2) ∧ Eng.Sep [OwnO 1 z.2.2.2.2.2.2.2.1 z.2.2.1.length z.2.2.2.2.2.2.2.2.1, Cel b102 [z.2.2.2.2.2.2.2.2.2.1, (vq z.2.2.2.2.2.2.1)], MapO z.2.2.2.2.2.2.2.2.2.1 z.2.2.2.2.2.1, Frz z.2.2.2.2.2.2.2.2.2.2.1 z.2.2.2.2.2.2.2.2.2.2.2, Frz G h0] h')) i y h') (fun ls h' => (fun (ls : List (Option AV)) (h' : Hp) => ∃ (rt : Bool) (v2 : AV), o = LO.rt rt ∧ ls[1]? = some (some v2) ∧ (v2 = (AV.bool rt))) ls h')) (by kernel_rfl) ?_
  refine ⟨q_len (BIn.now S (i := 4) rfl fB0_2), ?_⟩
  refine ⟨fun c1 => ?_, fun c1 => ?_⟩
  · replace c1 := ltI_t c1
    replace hp := ift hp c1
    refine ⟨q_idxB (l := B0) (BIn.now S (i := 4) rfl fB0_2) c1, ?_⟩
    refine ⟨q_byte (l := B0) (BIn.now S (i := 4) rfl fB0_2) c1, ?_⟩
    refine ⟨q_rem (by decide), ?_⟩
    refine ⟨fun c4 => ?_, fun c4 => ?_⟩
    · replace c4 := eqI_t c4
      replace hp := ift hp c4
      refine ⟨own_len S (i := 0) rfl, ?_⟩
      refine ⟨fun c5 => ?_, fun c5 => ?_⟩
      · replace c5 := ltI_t c5
        replace hp := ift hp c5
        refine ⟨q_idxB (l := B0) (BIn.now S (i := 4) rfl fB0_2) c1, ?_⟩
        refine ⟨q_byte (l := B0) (BIn.now S (i := 4) rfl fB0_2) c1, ?_⟩
        have x6 : B0.getD A6 0 < 256 := getD_lt (BIn.now S (i := 4) rfl fB0_2).lt A6
        refine ⟨q_quo rfl (by decide) x6, ?_⟩
        have g7 : (B0.getD A6 0) / 3 < 256 := Nat.lt_of_le_of_lt (Nat.div_le_self _ _) x6
        refine ⟨i_conv (Nat.lt_of_lt_of_le g7 (by decide)), ?_⟩
        refine ⟨own_len S (i := 0) rfl, ?_⟩
        have ⟨g8, hp⟩ := gd_inv hp
        refine ⟨q_rem g8, ?_⟩
        have ⟨g9, hp⟩ := gd_inv hp
        refine ⟨own_idx S (i := 0) rfl g9, ?_⟩
        refine ⟨own_loadR S (i := 0) rfl rfl fA4 g9 (f := (fun x => AV.int .u64 (Int.ofNat x))) (fun _ _ e => e.1), ?_⟩
        have f10 : (A4.getD (((B0.getD A6 0) / 3) % A4.length) default) < 18446744073709551616 := (show (rU .u64).rep _ _ _ _ from Rows.get fA4 g9).2
        have S11 : Sep [Cel b102 [wQ102_0, (vq Q102_1)], MapO wQ102_0 Q102_0, Frz G_103 k_103, OwnO 1 wA4 A4.length LA4, Frz G h0] h := S.sel [1, 2, 3, 0, 4] (by decide) rfl
        have ⟨x12, hb13, hp⟩ := ob_inv hp
        obtain ⟨v16, h17, q18, w21, e19, f22, f23, S20⟩ := h_hclose fQ102_0 fQ102_1_1 f10 hb13 S11
        replace e19 := e19.symm
        subst e19
        refine ⟨x12, w21, h17, q18, ?_⟩
        refine ⟨own_idx S20 (i := 3) rfl g9, ?_⟩
        refine ⟨own_loadR S20 (i := 3) rfl rfl fA4 g9 (f := (fun x => AV.int .u64 (Int.ofNat x))) (fun _ _ e => e.1), ?_⟩
        have f26 : (A4.getD (((B0.getD A6 0) / 3) % A4.length) default) < 18446744073709551616 := (show (rU .u64).rep _ _ _ _ from Rows.get fA4 g9).2
        have ⟨x27, hb28, hp⟩ := ob_inv hp
        obtain ⟨v31, h32, q33, w36, e34, f37, f38, S35⟩ := h_hclose f22 f23 f26 hb28 S20
        replace e34 := e34.symm
        subst e34
        refine ⟨x27, w36, h32, q33, ?_⟩
        refine ⟨own_idx S35 (i := 3) rfl g9, ?_⟩
        refine ⟨own_loadR S35 (i := 3) rfl rfl fA4 g9 (f := (fun x => AV.int .u64 (Int.ofNat x))) (fun _ _ e => e.1), ?_⟩
        have f41 : (A4.getD (((B0.getD A6 0) / 3) % A4.length) default) < 18446744073709551616 := (show (rU .u64).rep _ _ _ _ from Rows.get fA4 g9).2
        have ⟨x42, hb43, hp⟩ := ob_inv hp
        obtain ⟨v46, h47, q48, w51, e49, f52, f53, S50⟩ := h_hget f37 f38 f41 hb43 S35
        replace e49 := e49.symm
        subst e49
        refine ⟨x42, w51, h47, q48, ?_⟩
        refine ⟨fun c56 => ?_, fun c56 => ?_⟩
        · replace c56 := eqI_f (notB_t c56)
          replace hp := ift hp c56
          refine ⟨_, (AV.bool false), (Option.some.inj hp).symm, rfl, ?_⟩
          exact rfl
        replace c56 := eqI_t (notB_f c56)
        replace hp := iff0 hp (nneO c56)
        refine ⟨own_idx S50 (i := 3) rfl g9, ?_⟩
        refine ⟨own_loadR S50 (i := 3) rfl rfl fA4 g9 (f := (fun x => AV.int .u64 (Int.ofNat x))) (fun _ _ e => e.1), ?_⟩
        have ⟨g58, hp⟩ := gd_inv hp
        refine ⟨i_conv g58, ?_⟩
        have ⟨g59, hp⟩ := gd_inv hp
        refine ⟨q_add g59, ?_⟩
        refine ⟨fun c60 => ?_, fun c60 => ?_⟩
        · replace c60 : x12.2.2.1 ≠ (((A4.getD (((B0.getD A6 0) / 3) % A4.length) default) + 100 : Nat) : Int) := eqI_F (notB_t c60)
          replace hp := ift hp c60
          refine ⟨_, (AV.bool false), (Option.some.inj hp).symm, rfl, ?_⟩
          exact rfl
        replace c60 : x12.2.2.1 = (((A4.getD (((B0.getD A6 0) / 3) % A4.length) default) + 100 : Nat) : Int) := eqI_T (notB_f c60)
        replace hp := iff0 hp (nneO c60)
        refine ⟨fun c61 => ?_, fun c61 => ?_⟩
        · replace c61 := eqI_f (notB_t c61)
          replace hp := ift hp c61
          refine ⟨_, (AV.bool false), (Option.some.inj hp).symm, rfl, ?_⟩
          exact rfl
        replace c61 := eqI_t (notB_f c61)
        replace hp := iff0 hp (nneO c61)
        refine ⟨fun c62 => ?_, fun c62 => ?_⟩
        · replace c62 := eqI_f (notB_t c62)
          replace hp := ift hp c62
          refine ⟨_, (AV.bool false), (Option.some.inj hp).symm, rfl, ?_⟩
          exact rfl
        replace c62 := eqI_t (notB_f c62)
        replace hp := iff0 hp (nneO c62)
        have S63 := own_new S50 1 0 [] true rfl
        have S64 : Sep [OwnO 1 wA4 A4.length LA4, Frz G_103 k_103, OwnO 1 (AV.slice (Hp.next h47) 0 0 0 1 true) 0 (u8s []), Cel b102 [w51, (vq x42.2.1)], MapO w51 x42.1, Frz G h0] (hpush h47 (mkCells [] 0)) := S63.sel [4, 3, 0, 1, 2, 5] (by decide) rfl
        obtain ⟨G65, pG65, uG65, sG65⟩ := own_freezeR (a := (rU .u64)) S64 fA4 rfl
        have ⟨g67, hp⟩ := gd_inv hp
        refine ⟨sin_sliceTo rfl pG65 g67, ?_⟩
        have b68 := SIn.to1 rfl pG65 g67
        have ⟨g69, hp⟩ := gd_inv hp
        refine ⟨q_add g69, ?_⟩
        have ⟨g70, hp⟩ := gd_inv hp
        refine ⟨sin_sliceFrom rfl pG65 g70, ?_⟩
        have b71 := SIn.from1 rfl pG65 g70
        refine ⟨⟨again_of (sin_sliceFrom rfl pG65 g70) (SIn.same b71), again_of (q_add g69) (avEq_int _ _), again_of (rfl) (avEq_int _ _), again_of (rfl) (SIn.same pG65), again_of (sin_sliceTo rfl pG65 g67) (SIn.same b68), again_of (rfl) (avEq_int _ _), again_of (rfl) (SIn.same pG65), trivial⟩, ?_⟩
        have S72 := sG65.empty
        have S74 : Sep [Frz G65 (hpush h47 (mkCells [] 0)), Frz (fun _ => False) (hpush h47 (mkCells [] 0)), OwnO 1 (AV.slice (Hp.next h47) 0 0 0 1 true) 0 (u8s []), Cel b102 [w51, (vq x42.2.1)], MapO w51 x42.1, Frz G h0] (hpush h47 (mkCells [] 0)) := S72.sel [1, 0, 2, 3, 4, 5] (by decide) rfl
        obtain ⟨G75, uG75, vG75, sG75⟩ := Sep.mergeX S74
        obtain ⟨c77, rc77, lc77, kc77, qc77⟩ := sin_src sG75 (i := 0) rfl (SIn.up uG75 b68)
        have ⟨g78, hp⟩ := gd_inv hp
        obtain ⟨e73, qe73, se73⟩ := own_append (bytes := 8) call sG75 (i := 1) rfl (x := (partS wA4 0 (((B0.getD A6 0) / 3) % A4.length))) (m := (A4.take (((B0.getD A6 0) / 3) % A4.length)).length) (xs := c77) (fun z k => qc77 z k) lc77 kc77 g78 (by omega)
        obtain ⟨L79, rL79, eL79⟩ : ∃ L, Eng.Rows (rU .u64) G75 (hpush h47 (mkCells [] 0)) L (A4.take (((B0.getD A6 0) / 3) % A4.length)) ∧ (u8s []) ++ c77 = L := ⟨_, (Rows.append (Rows.up vG75 (own_rows_nil _ _ _)) rc77), rfl⟩
        have S81 : Sep [Frz G75 (hpush h47 (mkCells [] 0)), OwnO 1 e73.v ((A4.take (((B0.getD A6 0) / 3) % A4.length)).length) L79, Cel b102 [w51, (vq x42.2.1)], MapO w51 x42.1, Frz G h0] e73.h := (by have z := se73; rw [eL79, show 0 + ((A4.take (((B0.getD A6 0) / 3) % A4.length)).length) = (A4.take (((B0.getD A6 0) / 3) % A4.length)).length from by simp] at z; exact z)
        refine ⟨e73, qe73, ?_⟩
        refine ⟨⟨again_of (sin_sliceFrom rfl pG65 g70) (SIn.same (SIn.up uG75 b71)), again_of (q_add g69) (avEq_int _ _), again_of (rfl) (avEq_int _ _), again_of (rfl) (SIn.same (SIn.up uG75 pG65)), trivial⟩, ?_⟩
        obtain ⟨c83, rc83, lc83, kc83, qc83⟩ := sin_src S81 (i := 0) rfl (SIn.up uG75 b71)
        have ⟨g84, hp⟩ := gd_inv hp
        obtain ⟨e82, qe82, se82⟩ := own_append (bytes := 8) call S81 (i := 1) rfl (x := (partS wA4 ((((B0.getD A6 0) / 3) % A4.length) + 1) A4.length)) (m := (A4.drop ((((B0.getD A6 0) / 3) % A4.length) + 1)).length) (xs := c83) (fun z k => qc83 z k) lc83 kc83 g84 (by omega)
        obtain ⟨L85, rL85, eL85⟩ : ∃ L, Eng.Rows (rU .u64) G75 (hpush h47 (mkCells [] 0)) L ((A4.take (((B0.getD A6 0) / 3) % A4.length)) ++ (A4.drop ((((B0.getD A6 0) / 3) % A4.length) + 1))) ∧ L79 ++ c83 = L := ⟨_, (Rows.append rL79 rc83), rfl⟩
        have S87 : Sep [Frz G75 (hpush h47 (mkCells [] 0)), OwnO 1 e82.v (((A4.take (((B0.getD A6 0) / 3) % A4.length)) ++ (A4.drop ((((B0.getD A6 0) / 3) % A4.length) + 1))).length) L85, Cel b102 [w51, (vq x42.2.1)], MapO w51 x42.1, Frz G h0] e82.h := (by have z := se82; rw [eL85, show ((A4.take (((B0.getD A6 0) / 3) % A4.length)).length) + ((A4.drop ((((B0.getD A6 0) / 3) % A4.length) + 1)).length) = ((A4.take (((B0.getD A6 0) / 3) % A4.length)) ++ (A4.drop ((((B0.getD A6 0) / 3) % A4.length) + 1))).length from by simp] at z; exact z)
        refine ⟨e82, qe82, ?_⟩
        refine ⟨⟨again_of (rfl) (own_same S87 (i := 1) rfl), trivial⟩, ?_⟩
        have ⟨g88, hp⟩ := gd_inv hp
        refine ⟨q_add g88, ?_⟩
        have S89 : Sep [OwnO 1 e82.v (((A4.take (((B0.getD A6 0) / 3) % A4.length)) ++ (A4.drop ((((B0.getD A6 0) / 3) % A4.length) + 1))).length) L85, Cel b102 [w51, (vq x42.2.1)], MapO w51 x42.1, Frz G75 (hpush h47 (mkCells [] 0)), Frz G h0] e82.h := S87.sel [1, 2, 3, 0, 4] (by decide) rfl
        refine ⟨(m, A2, (A4.take (((B0.getD A6 0) / 3) % A4.length)) ++ (A4.drop ((((B0.getD A6 0) / 3) % A4.length) + 1)), A5, A6 + 1, x42.1, x42.2.1, e82.v, L85, w51, G75, hpush h47 (mkCells [] 0)), rfl, ⟨hp, rL85, fA5_1, f52, f53, (Up.trans (Up.trans fU_103 uG65) uG75), S89⟩, by show m < n; omega⟩
      replace c5 := ltI_f c5
      replace hp := iff0 hp (nltO c5)
      have ⟨g6, hp⟩ := gd_inv hp
      refine ⟨i_conv g6, ?_⟩
      have ⟨g7, hp⟩ := gd_inv hp
      refine ⟨q_add g7, ?_⟩
      have S8 : Sep [Cel b102 [wQ102_0, (vq Q102_1)], MapO wQ102_0 Q102_0, Frz G_103 k_103, OwnO 1 wA4 A4.length LA4, Frz G h0] h := S.sel [1, 2, 3, 0, 4] (by decide) rfl
      have ⟨x9, hb10, hp⟩ := ob_inv hp
      obtain ⟨v14, h15, q16, w19, e17, f13, f20, f21, S18⟩ := h_hadd fQ102_0 fQ102_1_1 hb10 S8
      replace e17 := e17.symm
      subst e17
      refine ⟨x9, w19, h15, q16, ?_⟩
      refine ⟨own_len S18 (i := 3) rfl, ?_⟩
      refine ⟨fun c24 => ?_, fun c24 => ?_⟩
      · replace c24 := ltI_f (notB_t c24)
        replace hp := ift hp c24
        refine ⟨fun c25 => ?_, fun c25 => ?_⟩
        · replace c25 := eqI_f (notB_t c25)
          replace hp := ift hp c25
          refine ⟨_, (AV.bool false), (Option.some.inj hp).symm, rfl, ?_⟩
          exact rfl
        replace c25 := eqI_t (notB_f c25)
        replace hp := iff0 hp (nneO c25)
        refine ⟨fun c26 => ?_, fun c26 => ?_⟩
        · replace c26 := eqI_f (notB_t c26)
          replace hp := ift hp c26
          refine ⟨_, (AV.bool false), (Option.some.inj hp).symm, rfl, ?_⟩
          exact rfl
        replace c26 := eqI_t (notB_f c26)
        replace hp := iff0 hp (nneO c26)
        have ⟨g27, hp⟩ := gd_inv hp
        refine ⟨q_add g27, ?_⟩
        have S28 : Sep [OwnO 1 wA4 A4.length LA4, Cel b102 [w19, (vq x9.2.1)], MapO w19 x9.1, Frz G_103 k_103, Frz G h0] h15 := S18.sel [3, 0, 1, 2, 4] (by decide) rfl
        refine ⟨(m, A2, A4, A5, A6 + 1, x9.1, x9.2.1, wA4, LA4, w19, G_103, k_103), rfl, ⟨hp, fA4, fA5_1, f20, f21, fU_103, S28⟩, by show m < n; omega⟩
      replace c24 := ltI_t (notB_f c24)
      replace hp := iff0 hp (nleO c24)
      refine ⟨fun c25 => ?_, fun c25 => ?_⟩
      · replace c25 := eqI_f (notB_t c25)
        replace hp := ift hp c25
        refine ⟨_, (AV.bool false), (Option.some.inj hp).symm, rfl, ?_⟩
        exact rfl
      replace c25 := eqI_t (notB_f c25)
      replace hp := iff0 hp (nneO c25)
      refine ⟨u_add rfl, ?_⟩
      refine ⟨fun c27 => ?_, fun c27 => ?_⟩
      · replace c27 := eqI_f (notB_t c27)
        replace hp := ift hp c27
        refine ⟨_, (AV.bool false), (Option.some.inj hp).symm, rfl, ?_⟩
        exact rfl
      replace c27 := eqI_t (notB_f c27)
      replace hp := iff0 hp (nneO c27)
      have S28 := own_new S18 1 1 [(vq x9.2.2.1)] true rfl
      have ⟨g30, hp⟩ := gd_inv hp
      obtain ⟨e29, qe29, se29⟩ := own_append (bytes := 8) call S28 (i := 4) rfl (x := (AV.slice (Hp.next h15) 0 1 1 1 true)) (m := 1) (xs := [(vq x9.2.2.1)]) (fun z k => own_src S28 (i := 0) rfl z k) (own_L S28 (i := 0) rfl) (all_cell rfl all_cell0) g30 (by omega)
      obtain ⟨L31, rL31, eL31⟩ : ∃ L, Eng.Rows (rU .u64) G_103 k_103 L (A4 ++ [x9.2.2.1]) ∧ LA4 ++ [(vq x9.2.2.1)] = L := ⟨_, (Rows.snoc fA4 (a := (rU .u64)) (x := x9.2.2.1) ⟨rfl, f13⟩), rfl⟩
      have S33 : Sep [OwnO 1 (AV.slice (Hp.next h15) 0 1 1 1 true) 1 [(vq x9.2.2.1)], Cel b102 [w19, (vq x9.2.1)], MapO w19 x9.1, Frz G_103 k_103, OwnO 1 e29.v ((A4 ++ [x9.2.2.1]).length) L31, Frz G h0] e29.h := (by have z := se29; rw [eL31, show A4.length + 1 = (A4 ++ [x9.2.2.1]).length from by simp] at z; exact z)
      have S34 := S33.tail
      refine ⟨e29, qe29, ?_⟩
      have ⟨g35, hp⟩ := gd_inv hp
      refine ⟨q_add g35, ?_⟩
      have S36 : Sep [OwnO 1 e29.v ((A4 ++ [x9.2.2.1]).length) L31, Cel b102 [w19, (vq x9.2.1)], MapO w19 x9.1, Frz G_103 k_103, Frz G h0] e29.h := S34.sel [3, 0, 1, 2, 4] (by decide) rfl
      refine ⟨(m, A2, A4 ++ [x9.2.2.1], x9.2.2.1, A6 + 1, x9.1, x9.2.1, e29.v, L31, w19, G_103, k_103), rfl, ⟨hp, rL31, f13, f20, f21, fU_103, S36⟩, by show m < n; omega⟩
    replace c4 := eqI_f c4
    replace hp := iff0 hp (c4)
    have ⟨g5, hp⟩ := gd_inv hp
    refine ⟨i_conv g5, ?_⟩
    have ⟨g6, hp⟩ := gd_inv hp
    refine ⟨q_add g6, ?_⟩
    have S7 : Sep [Cel b102 [wQ102_0, (vq Q102_1)], MapO wQ102_0 Q102_0, Frz G_103 k_103, OwnO 1 wA4 A4.length LA4, Frz G h0] h := S.sel [1, 2, 3, 0, 4] (by decide) rfl
    have ⟨x8, hb9, hp⟩ := ob_inv hp
    obtain ⟨v13, h14, q15, w18, e16, f12, f19, f20, S17⟩ := h_hadd fQ102_0 fQ102_1_1 hb9 S7
    replace e16 := e16.symm
    subst e16
    refine ⟨x8, w18, h14, q15, ?_⟩
    refine ⟨own_len S17 (i := 3) rfl, ?_⟩
    refine ⟨fun c23 => ?_, fun c23 => ?_⟩
    · replace c23 := ltI_f (notB_t c23)
      replace hp := ift hp c23
      refine ⟨fun c24 => ?_, fun c24 => ?_⟩
      · replace c24 := eqI_f (notB_t c24)
        replace hp := ift hp c24
        refine ⟨_, (AV.bool false), (Option.some.inj hp).symm, rfl, ?_⟩
        exact rfl
      replace c24 := eqI_t (notB_f c24)
      replace hp := iff0 hp (nneO c24)
      refine ⟨fun c25 => ?_, fun c25 => ?_⟩
      · replace c25 := eqI_f (notB_t c25)
        replace hp := ift hp c25
        refine ⟨_, (AV.bool false), (Option.some.inj hp).symm, rfl, ?_⟩
        exact rfl
      replace c25 := eqI_t (notB_f c25)
      replace hp := iff0 hp (nneO c25)
      have ⟨g26, hp⟩ := gd_inv hp
      refine ⟨q_add g26, ?_⟩
      have S27 : Sep [OwnO 1 wA4 A4.length LA4, Cel b102 [w18, (vq x8.2.1)], MapO w18 x8.1, Frz G_103 k_103, Frz G h0] h14 := S17.sel [3, 0, 1, 2, 4] (by decide) rfl
      refine ⟨(m, A2, A4, A5, A6 + 1, x8.1, x8.2.1, wA4, LA4, w18, G_103, k_103), rfl, ⟨hp, fA4, fA5_1, f19, f20, fU_103, S27⟩, by show m < n; omega⟩
    replace c23 := ltI_t (notB_f c23)
    replace hp := iff0 hp (nleO c23)
    refine ⟨fun c24 => ?_, fun c24 => ?_⟩
    · replace c24 := eqI_f (notB_t c24)
      replace hp := ift hp c24
      refine ⟨_, (AV.bool false), (Option.some.inj hp).symm, rfl, ?_⟩
      exact rfl
    replace c24 := eqI_t (notB_f c24)
    replace hp := iff0 hp (nneO c24)
    refine ⟨u_add rfl, ?_⟩
    refine ⟨fun c26 => ?_, fun c26 => ?_⟩
    · replace c26 := eqI_f (notB_t c26)
      replace hp := ift hp c26
      refine ⟨_, (AV.bool false), (Option.some.inj hp).symm, rfl, ?_⟩
      exact rfl
    replace c26 := eqI_t (notB_f c26)
    replace hp := iff0 hp (nneO c26)
    have S27 := own_new S17 1 1 [(vq x8.2.2.1)] true rfl
    have ⟨g29, hp⟩ := gd_inv hp
    obtain ⟨e28, qe28, se28⟩ := own_append (bytes := 8) call S27 (i := 4) rfl (x := (AV.slice (Hp.next h14) 0 1 1 1 true)) (m := 1) (xs := [(vq x8.2.2.1)]) (fun z k => own_src S27 (i := 0) rfl z k) (own_L S27 (i := 0) rfl) (all_cell rfl all_cell0) g29 (by omega)
    obtain ⟨L30, rL30, eL30⟩ : ∃ L, Eng.Rows (rU .u64) G_103 k_103 L (A4 ++ [x8.2.2.1]) ∧ LA4 ++ [(vq x8.2.2.1)] = L := ⟨_, (Rows.snoc fA4 (a := (rU .u64)) (x := x8.2.2.1) ⟨rfl, f12⟩), rfl⟩
    have S32 : Sep [OwnO 1 (AV.slice (Hp.next h14) 0 1 1 1 true) 1 [(vq x8.2.2.1)], Cel b102 [w18, (vq x8.2.1)], MapO w18 x8.1, Frz G_103 k_103, OwnO 1 e28.v ((A4 ++ [x8.2.2.1]).length) L30, Frz G h0] e28.h := (by have z := se28; rw [eL30, show A4.length + 1 = (A4 ++ [x8.2.2.1]).length from by simp] at z; exact z)
    have S33 := S32.tail
    refine ⟨e28, qe28, ?_⟩
    have ⟨g34, hp⟩ := gd_inv hp
    refine ⟨q_add g34, ?_⟩
    have S35 : Sep [OwnO 1 e28.v ((A4 ++ [x8.2.2.1]).length) L30, Cel b102 [w18, (vq x8.2.1)], MapO w18 x8.1, Frz G_103 k_103, Frz G h0] e28.h := S33.sel [3, 0, 1, 2, 4] (by decide) rfl
    refine ⟨(m, A2, A4 ++ [x8.2.2.1], x8.2.2.1, A6 + 1, x8.1, x8.2.1, e28.v, L30, w18, G_103, k_103), rfl, ⟨hp, rL30, f12, f19, f20, fU_103, S35⟩, by show m < n; omega⟩
  replace c1 := ltI_f c1
  replace hp := iff0 hp (nltO c1)
  refine ⟨(m, A2, A4, A5, A6, Q102_0, Q102_1, wA4, LA4, wQ102_0, G_103, k_103), rfl, rfl, fun _ => ⟨(Option.some.inj hp).symm, fA4, fA5_1, fQ102_0, fQ102_1_1, fU_103, S⟩⟩
theorem lawnever_l1_t {call : CallT} {N : Nat} {wB0_1 : AV} {b102 : Nat} {ZG_103 : Nat → Prop} {Zk_103 : Hp} {G : Nat → Prop} {h0 : Hp} {B0 : List Nat} (fB0_2 : BIn G h0 wB0_1 B0) (h_begun : TrueS call 21) (h_new : NewS call) (h_hclose : C_hclose call) (h_hget : C_hget call) (h_hadd : C_hadd call) (h_samenums : C_samenums call) (h_hall : C_hall call) {o : LO (Bool × List Nat × Nat × Nat × List (Nat × Int) × Nat) (Bool)} {n : Nat} {A2 : Bool} {A4 : List Nat} {A5 : Nat} {A6 : Nat} {Q102_0 : List (Nat × Int)} {Q102_1 : Nat} {wA4 : AV} {LA4 : List AV} {wQ102_0 : AV} {G_103 : Nat → Prop} {k_103 : Hp} {h : Hp} (hi : (fun (z : Nat × Bool × List Nat × Nat × Nat × List (Nat × Int) × Nat × AV × List AV × AV × (Nat → Prop) × Hp) (h' : Hp) => lawnever_l1 B0 z.1 z.2.1 z.2.2.1 z.2.2.2.1 z.2.2.2.2.1 z.2.2.2.2.2.1 z.2.2.2.2.2.2.1 = some o ∧ (Eng.Rows (rU .u64) z.2.2.2.2.2.2.2.2.2.2.1 z.2.2.2.2.2.2.2.2.2.2.2 z.2.2.2.2.2.2.2.2.1 z.2.2.1) ∧ (z.2.2.2.1 < 18446744073709551616) ∧ (∀ p ∈ z.2.2.2.2.2.1, p.1 < 18446744073709551616) ∧ (z.2.2.2.2.2.2.1 < 18446744073709551616) ∧ (Up ZG_103 Zk_103 z.2.2.2.2.2.2.2.2.2.2.1 z.2.2.2.2.2.2.2.2.2.2.2) ∧ Eng.Sep [OwnO 1 z.2.2.2.2.2.2.2.1 z.2.2.1.length z.2.2.2.2.2.2.2.2.1, Cel b102 [z.2.2.2.2.2.2.2.2.2.1, (vq z.2.2.2.2.2.2.1)], MapO z.2.2.2.2.2.2.2.2.2.1 z.2.2.2.2.2.1, Frz z.2.2.2.2.2.2.2.2.2.2.1 z.2.2.2.2.2.2.2.2.2.2.2, Frz G h0] h') (n, A2, A4, A5, A6, Q102_0, Q102_1, wA4, LA4, wQ102_0, G_103, k_103) h) (hN : n < N) (hN' : 90000 < N) {t : T} (ht : Has ((fun (z : Nat × Bool × List Nat × Nat × Nat × List (Nat × Int) × Nat × AV × List AV × AV × (Nat → Prop) × Hp) => [(0, wB0_1), (2, (AV.bool z.2.1)), (3, (AV.ptr b102 0)), (4, z.2.2.2.2.2.2.2.1), (5, (vq z.2.2.2.1)), (6, (vi z.2.2.2.2.1))]) (n, A2, A4, A5, A6, Q102_0, Q102_1, wA4, LA4, wQ102_0, G_103, k_103)) t) :
    (∃ i y t' h', evC call N (.loop lawnever_l1C) t h = .exit i t' h' ∧ Has ((fun (z : Nat × Bool × List Nat × Nat × Nat × List (Nat × Int) × Nat × AV × List AV × AV × (Nat → Prop) × Hp) => [(0, wB0_1), (2, (AV.bool z.2.1)), (3, (AV.ptr b102 0)), (4, z.2.2.2.2.2.2.2.1), (5, (vq z.2.2.2.1)), (6, (vi z.2.2.2.2.1))]) y) t' ∧ (fun (i : Nat) (z : Nat × Bool × List Nat × Nat × Nat × List (Nat × Int) × Nat × AV × List AV × AV × (Nat → Prop) × Hp) (h' : Hp) => (i = 0) ∧ (i = 0 → o = LO.ex (z.2.1, z.2.2.1, z.2.2.2.1, z.2.2.2.2.1, z.2.2.2.2.2.1, z.2.2.2.2.2.2.1) ∧ (Eng.Rows (rU .u64) z.2.2.2.2.2.2.2.2.2.2.1 z.2.2.2.2.2.2.2.2.2.2.2 z.2.2.2.2.2.2.2.2.1 z.2.2.1) ∧ (z.2.2.2.1 < 18446744073709551616) ∧ (∀ p ∈ z.2.2.2.2.2.1, p.1 < 18446744073709551616) ∧ (z.2.2.2.2.2.2.1 < 18446744073709551616) ∧ (Up ZG_103 Zk_103 z.2.2.2.2.2.2.2.2.2.2.1 z.2.2.2.2.2.2.2.2.2.2.2) ∧ Eng.Sep [OwnO 1 z.2.2.2.2.2.2.2.1 z.2.2.1.length z.2.2.2.2.2.2.2.2.1, Cel b102 [z.2.2.2.2.2.2.2.2.2.1, (vq z.2.2.2.2.2.2.1)], MapO z.2.2.2.2.2.2.2.2.2.1 z.2.2.2.2.2.1, Frz z.2.2.2.2.2.2.2.2.2.2.1 z.2.2.2.2.2.2.2.2.2.2.2, Frz G h0] h')) i y h') ∨ (∃ t' h', evC call N (.loop lawnever_l1C) t h = .ret t' h' ∧ (fun (ls : List (Option AV)) (h' : Hp) => ∃ (rt : Bool) (v2 : AV), o = LO.rt rt ∧ ls[1]? = some (some v2) ∧ (v2 = (AV.bool rt))) (slots [0, 2, 3, 4, 5, 6] t') h') :=
  loop_st (fun (z : Nat × Bool × List Nat × Nat × Nat × List (Nat × Int) × Nat × AV × List AV × AV × (Nat → Prop) × Hp) => [(0, wB0_1), (2, (AV.bool z.2.1)), (3, (AV.ptr b102 0)), (4, z.2.2.2.2.2.2.2.1), (5, (vq z.2.2.2.1)), (6, (vi z.2.2.2.2.1))]) [0, 2, 3, 4, 5, 6] (fun _ => rfl) (fun (z : Nat × Bool × List Nat × Nat × Nat × List (Nat × Int) × Nat × AV × List AV × AV × (Nat → Prop) × Hp) (h' : Hp) => lawnever_l1 B0 z.1 z.2.1 z.2.2.1 z.2.2.2.1 z.2.2.2.2.1 z.2.2.2.2.2.1 z.2.2.2.2.2.2.1 = some o ∧ (Eng.Rows (rU .u64) z.2.2.2.2.2.2.2.2.2.2.1 z.2.2.2.2.2.2.2.2.2.2.2 z.2.2.2.2.2.2.2.2.1 z.2.2.1) ∧ (z.2.2.2.1 < 18446744073709551616) ∧ (∀ p ∈ z.2.2.2.2.2.1, p.1 < 18446744073709551616) ∧ (z.2.2.2.2.2.2.1 < 18446744073709551616) ∧ (Up ZG_103 Zk_103 z.2.2.2.2.2.2.2.2.2.2.1 z.2.2.2.2.2.2.2.2.2.2.2) ∧ Eng.Sep [OwnO 1 z.2.2.2.2.2.2.2.1 z.2.2.1.length z.2.2.2.2.2.2.2.2.1, Cel b102 [z.2.2.2.2.2.2.2.2.2.1, (vq z.2.2.2.2.2.2.1)], MapO z.2.2.2.2.2.2.2.2.2.1 z.2.2.2.2.2.1, Frz z.2.2.2.2.2.2.2.2.2.2.1 z.2.2.2.2.2.2.2.2.2.2.2, Frz G h0] h') (fun (z : Nat × Bool × List Nat × Nat × Nat × List (Nat × Int) × Nat × AV × List AV × AV × (Nat → Prop) × Hp) => z.1) (fun (i : Nat) (z : Nat × Bool × List Nat × Nat × Nat × List (Nat × Int) × Nat × AV × List AV × AV × (Nat → Prop) × Hp) (h' : Hp) => (i = 0) ∧ (i = 0 → o = LO.ex (z.2.1, z.2.2.1, z.2.2.2.1, z.2.2.2.2.1, z.2.2.2.2.2.1, z.2.2.2.2.2.2.1) ∧ (Eng.Rows (rU .u64) z.2.2.2.2.2.2.2.2.2.2.1 z.2.2.2.2.2.2.2.2.2.2.2 z.2.2.2.2.2.2.2.2.1 z.2.2.1) ∧ (z.2.2.2.1 < 18446744073709551616) ∧ (∀ p ∈ z.2.2.2.2.2.1, p.1 < 18446744073709551616) ∧ (z.2.2.2.2.2.2.1 < 18446744073709551616) ∧ (Up ZG_103 Zk_103 z.2.2.2.2.2.2.2.2.2.2.1 z.2.2.2.2.2.2.2.2.2.2.2) ∧ Eng.Sep [OwnO 1 z.2.2.2.2.2.2.2.1 z.2.2.1.length z.2.2.2.2.2.2.2.2.1, Cel b102 [z.2.2.2.2.2.2.2.2.2.1, (vq z.2.2.2.2.2.2.1)], MapO z.2.2.2.2.2.2.2.2.2.1 z.2.2.2.2.2.1, Frz z.2.2.2.2.2.2.2.2.2.2.1 z.2.2.2.2.2.2.2.2.2.2.2, Frz G h0] h')) (fun (ls : List (Option AV)) (h' : Hp) => ∃ (rt : Bool) (v2 : AV), o = LO.rt rt ∧ ls[1]? = some (some v2) ∧ (v2 = (AV.bool rt))) (fun ⟨n, A2, A4, A5, A6, Q102_0, Q102_1, wA4, LA4, wQ102_0, G_103, k_103⟩ t h hi => lawnever_l1_body fB0_2 h_begun h_new h_hclose h_hget h_hadd h_samenums h_hall hN' hi) (n, A2, A4, A5, A6, Q102_0, Q102_1, wA4, LA4, wQ102_0, G_103, k_103) h hi hN t ht
noncomputable def lawnever_p (l : List Nat) : Option (Bool) :=
  (if 40 < l.length then (some true) else
    (ob (lawnever_l1 l 90000 false ([] : List Nat) 0 0 ([] : List (Nat × Int)) 0) fun o7 =>
    (LO.on o7 (fun s_o7 => (ob (hall_p s_o7.2.2.2.2.1 s_o7.2.2.2.2.2) fun x16 =>
    (ob (samenums_p x16.2.2 s_o7.2.1) fun x39 =>
    (if x39 = true then (some true) else
    (some false))))) (fun y14 =>
    (some y14)))))
theorem lawnever_w {call : CallT} {N : Nat} {h : Hp} {wl_1 : AV} {l : List Nat} (fl_2 : BIn (Low h) h wl_1 l) (h_begun : TrueS call 21) (h_new : NewS call) (h_hclose : C_hclose call) (h_hget : C_hget call) (h_hadd : C_hadd call) (h_samenums : C_samenums call) (h_hall : C_hall call) (hN : 90000 < N) {r : Bool} (hp : lawnever_p l = some r) :
    ∃ rv rh, evF1 (progS Try.prog (compDrawn Try.prog)) N call 8 [wl_1] h = .ok rv rh ∧ (fun (rv : AV) (rh : Hp) => rv = (AV.bool r)) rv rh := by
  have S : Eng.Sep [Frz (Low h) h] h := Sep.start h
  unfold lawnever_p at hp
  refine fwalk_ok (K := (fun (rv : AV) (rh : Hp) => rv = (AV.bool r))) (o := (.eff 1 (AV.bool true) h (.tell 2 (vi l.length) (.fork 0 .fin (.eff 0 (AV.ptr (Hp.next (hpush h (.mp [] 0 0))) 0) (hpush (hpush h (.mp [] 0 0)) (mkCells [(AV.map (Hp.next h)), (vq 0)] 2)) (.dis 4 (.exi 0 fun (A2o7 : Bool) => (.exi 0 fun (A4o7 : List Nat) => (.exi 0 fun (A5o7 : Nat) => (.exi 0 fun (A6o7 : Nat) => (.exi 0 fun (Q102_0o7 : List (Nat × Int)) => (.exi 0 fun (Q102_1o7 : Nat) => (.exi 0 fun (wA4o7 : AV) => (.exi 0 fun (wQ102_0o7 : AV) => (.exi 0 fun (t10 : T) => (.exi 0 fun (h11 : Hp) => (.lp 0 (.exit 0 (ovT [(0, wl_1), (2, (AV.bool A2o7)), (3, (AV.ptr (Hp.next (hpush h (.mp [] 0 0))) 0)), (4, wA4o7), (5, (vq A5o7)), (6, (vi A6o7))] t10) h11) (.exi 1 fun (x16 : List (Nat × Int) × Nat × List Nat) => (.exi 0 fun (w20 : AV) => (.exi 0 fun (w28 : AV) => (.exi 0 fun (h24 : Hp) => (.eff 0 w20 h24 (.exi 1 fun (x39 : Bool) => (.exi 0 fun (h44 : Hp) => (.eff 0 (AV.bool x39) h44 (.fork 0 .fin .fin)))))))))))))))))))) (.exi 0 fun (y14 : Bool) => (.exi 0 fun (v2o7 : AV) => (.exi 0 fun (t12 : T) => (.exi 0 fun (h13 : Hp) => (.lp 0 (.ret (ovT [(2, v2o7)] t12) h13) .fin))))))))))) (p := (fun (KK : AV → Hp → Prop) => (call 21 [] h = .ok (AV.bool true) h ∧ ((evQ (.lenL (.const wl_1)) .lf H0 = .ok (vi l.length) ∧ ((ltI (Int.ofNat 40) (Int.ofNat l.length) = true → KK (AV.bool true) h) ∧ (ltI (Int.ofNat 40) (Int.ofNat l.length) = false → (call 22 [] h = .ok (AV.ptr (Hp.next (hpush h (.mp [] 0 0))) 0) (hpush (hpush h (.mp [] 0 0)) (mkCells [(AV.map (Hp.next h)), (vq 0)] 2)) ∧ ((∃ A2o7 : Bool, ∃ A4o7 : List Nat, ∃ A5o7 : Nat, ∃ A6o7 : Nat, ∃ Q102_0o7 : List (Nat × Int), ∃ Q102_1o7 : Nat, ∃ wA4o7 : AV, ∃ wQ102_0o7 : AV, ∃ t10 : T, ∃ h11 : Hp, (evC call N (.loop lawnever_l1C) (ovT [(0, wl_1), (2, (AV.bool false)), (3, (AV.ptr (Hp.next (hpush h (.mp [] 0 0))) 0)), (4, AV.nilSlice), (5, (vq 0)), (6, (vi 0)), (16, (AV.bool true)), (17, (AV.bool false)), (18, wl_1), (19, (vi l.length)), (20, (AV.bool false)), (21, (AV.ptr (Hp.next (hpush h (.mp [] 0 0))) 0))] .lf) (hpush (hpush h (.mp [] 0 0)) (mkCells [(AV.map (Hp.next h)), (vq 0)] 2)) = (.exit 0 (ovT [(0, wl_1), (2, (AV.bool A2o7)), (3, (AV.ptr (Hp.next (hpush h (.mp [] 0 0))) 0)), (4, wA4o7), (5, (vq A5o7)), (6, (vi A6o7))] t10) h11) ∧ True ∧ (∃ x16 : List (Nat × Int) × Nat × List Nat, ∃ w20 : AV, ∃ w28 : AV, ∃ h24 : Hp, (call 27 [(AV.ptr (Hp.next (hpush h (.mp [] 0 0))) 0)] h11 = .ok w20 h24 ∧ (∃ x39 : Bool, ∃ h44 : Hp, (call 26 [w20, wA4o7] h24 = .ok (AV.bool x39) h44 ∧ ((x39 = true → KK (AV.bool true) h44) ∧ (x39 = false → KK (AV.bool false) h44)))))))) ∨ (∃ y14 : Bool, ∃ v2o7 : AV, ∃ t12 : T, ∃ h13 : Hp, (evC call N (.loop lawnever_l1C) (ovT [(0, wl_1), (2, (AV.bool false)), (3, (AV.ptr (Hp.next (hpush h (.mp [] 0 0))) 0)), (4, AV.nilSlice), (5, (vq 0)), (6, (vi 0)), (16, (AV.bool true)), (17, (AV.bool false)), (18, wl_1), (19, (vi l.length)), (20, (AV.bool false)), (21, (AV.ptr (Hp.next (hpush h (.mp [] 0 0))) 0))] .lf) (hpush (hpush h (.mp [] 0 0)) (mkCells [(AV.map (Hp.next h)), (vq 0)] 2)) = (.ret (ovT [(2, v2o7)] t12) h13) ∧ True ∧ KK v2o7 h13)))))))))) (fun (rv : AV) (rh : Hp) => rv = (AV.bool r))) (by kernel_rfl) ?_
  refine ⟨h_begun _, ?_⟩
  refine ⟨q_len (BIn.now S (i := 0) rfl fl_2), ?_⟩
  refine ⟨fun c1 => ?_, fun c1 => ?_⟩
  · replace c1 := ltI_t c1
    replace hp := ift hp c1
    obtain rfl := Option.some.inj hp
    exact rfl
  replace c1 := ltI_f c1
  replace hp := iff0 hp (nltO c1)
  refine ⟨h_new _, ?_⟩
  have S2 := map_new S
  have S3 := cel_new S2 [(AV.map (Hp.next h)), (vq 0)] rfl
  have S4 := S3.empty
  have S5 := own_nil S4 1
  have S6 : Sep [OwnO 1 AV.nilSlice (([] : List Nat).length) [], Cel (Hp.next (hpush h (.mp [] 0 0))) [(AV.map (Hp.next h)), (vq 0)], MapO (AV.map (Hp.next h)) ([] : List (Nat × Int)), Frz (fun _ => False) (hpush (hpush h (.mp [] 0 0)) (mkCells [(AV.map (Hp.next h)), (vq 0)] 2)), Frz (Low h) h] (hpush (hpush h (.mp [] 0 0)) (mkCells [(AV.map (Hp.next h)), (vq 0)] 2)) := S5.sel [0, 2, 3, 1, 4] (by decide) rfl
  have ⟨o7, hb8, hp⟩ := ob_inv hp
  rcases lawnever_l1_t fl_2 h_begun h_new h_hclose h_hget h_hadd h_samenums h_hall (o := o7) (B0 := l) (n := 90000) (A2 := false) (A4 := ([] : List Nat)) (A5 := 0) (A6 := 0) (Q102_0 := ([] : List (Nat × Int))) (Q102_1 := 0) (wA4 := AV.nilSlice) (LA4 := []) (wQ102_0 := (AV.map (Hp.next h))) (G_103 := (fun _ => False)) (k_103 := hpush (hpush h (.mp [] 0 0)) (mkCells [(AV.map (Hp.next h)), (vq 0)] 2)) ⟨hb8, (own_rows_nil _ _ _), (show 0 < 18446744073709551616 by decide), (by simp), (show 0 < 18446744073709551616 by decide), (Up.refl _ _), S6⟩ hN hN (t := (ovT [(0, wl_1), (2, (AV.bool false)), (3, (AV.ptr (Hp.next (hpush h (.mp [] 0 0))) 0)), (4, AV.nilSlice), (5, (vq 0)), (6, (vi 0)), (16, (AV.bool true)), (17, (AV.bool false)), (18, wl_1), (19, (vi l.length)), (20, (AV.bool false)), (21, (AV.ptr (Hp.next (hpush h (.mp [] 0 0))) 0))] .lf)) (show slots [0, 2, 3, 4, 5, 6] _ = [some wl_1, some (AV.bool false), some (AV.ptr (Hp.next (hpush h (.mp [] 0 0))) 0), some AV.nilSlice, some (vq 0), some (vi 0)] by kernel_rfl) with ⟨io7, ⟨_, A2o7, A4o7, A5o7, A6o7, Q102_0o7, Q102_1o7, wA4o7, LA4o7, wQ102_0o7, G_103o7, k_103o7⟩, t10, h11, qo7, wo7, zo7⟩ | ⟨t12, h13, qo7, zo7⟩
  · obtain ⟨jo7, zo7⟩ := zo7
    subst jo7
    replace zo7 := zo7 rfl
    obtain ⟨uo7, fA4o7, fA5_1o7, fQ102_0o7, fQ102_1_1o7, fU_103o7, So7⟩ := zo7
    replace uo7 := uo7.symm
    subst uo7
    replace hp := LO.on_ex.symm.trans hp
    try dsimp only at hp
    refine Or.inl ⟨A2o7, A4o7, A5o7, A6o7, Q102_0o7, Q102_1o7, wA4o7, wQ102_0o7, t10, h11, (qo7.trans (congrArg (fun t => RS.exit 0 t h11) (ovT_eq wo7).symm)), trivial, ?_⟩
    have S15 : Sep [Cel (Hp.next (hpush h (.mp [] 0 0))) [wQ102_0o7, (vq Q102_1o7)], MapO wQ102_0o7 Q102_0o7, Frz G_103o7 k_103o7, OwnO 1 wA4o7 A4o7.length LA4o7, Frz (Low h) h] h11 := So7.sel [1, 2, 3, 0, 4] (by decide) rfl
    have ⟨x16, hb17, hp⟩ := ob_inv hp
    obtain ⟨v23, h24, q25, w20, L22, w28, G18, k19, e26, f21, f29, f30, S27⟩ := h_hall fQ102_0o7 fQ102_1_1o7 hb17 S15
    replace e26 := e26.symm
    subst e26
    refine ⟨x16, w20, w28, h24, q25, ?_⟩
    have S33 : Sep [OwnO 1 w20 x16.2.2.length L22, Frz G18 k19, Cel (Hp.next (hpush h (.mp [] 0 0))) [w28, (vq x16.2.1)], MapO w28 x16.1, Frz G_103o7 k_103o7, OwnO 1 wA4o7 A4o7.length LA4o7, Frz (Low h) h] h24 := S27.sel [0, 3, 1, 2, 4, 5, 6] (by decide) rfl
    obtain ⟨G34, pG34, uG34, sG34⟩ := own_freezeR (a := (rU .u64)) S33 f21 rfl
    have S36 : Sep [OwnO 1 wA4o7 A4o7.length LA4o7, Frz G_103o7 k_103o7, Frz G34 h24, Cel (Hp.next (hpush h (.mp [] 0 0))) [w28, (vq x16.2.1)], MapO w28 x16.1, Frz (Low h) h] h24 := sG34.sel [4, 3, 0, 1, 2, 5] (by decide) rfl
    obtain ⟨G37, pG37, uG37, sG37⟩ := own_freezeR (a := (rU .u64)) S36 fA4o7 rfl
    have ⟨x39, hb40, hp⟩ := ob_inv hp
    obtain ⟨v43, h44, q45, e46, S47⟩ := h_samenums (SIn.up (Sep.low sG34 (i := 0) rfl) pG34) (SIn.up (Sep.low sG37 (i := 0) rfl) pG37) hb40
    replace e46 := e46.symm
    subst e46
    refine ⟨x39, h44, q45, ?_⟩
    refine ⟨fun c50 => ?_, fun c50 => ?_⟩
    · replace hp := ift hp c50
      obtain rfl := Option.some.inj hp
      exact rfl
    replace hp := iff0 hp (nbF c50)
    obtain rfl := Option.some.inj hp
    exact rfl
  obtain ⟨y14, v2o7, uo7, go7_2, Ko7⟩ := zo7
  replace uo7 := uo7.symm
  subst uo7
  replace go7_2 : tget (pathOf 2) t12 = some v2o7 := Option.some.inj go7_2
  replace hp := LO.on_rt.symm.trans hp
  try dsimp only at hp
  refine Or.inr ⟨y14, v2o7, t12, h13, (qo7.trans (congrArg (fun t => RS.ret t h13) (ovT_eq (l := [(2, v2o7)]) (by show [tget (pathOf 2) t12] = _; rw [go7_2]; rfl)).symm)), trivial, ?_⟩
  obtain rfl := Option.some.inj hp
  exact Ko7
end Go.Proofs.Ytpelnanckmjoaaa
end
section
set_option linter.unusedVariables false
set_option linter.unusedSimpArgs false
namespace Go.Proofs.Ytpelnanckmjoaaa
open Go Eng
abbrev fE (h : Nat) : Nat × Int := (h, ((h + 100 : Nat) : Int))
theorem look_t {k : Nat} : ∀ {l : List Nat}, k ∈ l → lookM (l.map fE) k = some ((k + 100 : Nat) : Int)
  | a :: l, h => by
    show (if k = a then some (((a + 100 : Nat) : Int)) else lookM (l.map fE) k) = _
    by_cases e : k = a
    · rw [if_pos e, e]
    · rw [if_neg e, look_t ((List.mem_cons.1 h).resolve_left e)]
theorem look_f {k : Nat} : ∀ {l : List Nat}, k ∉ l → lookM (l.map fE) k = none
  | [], h => rfl
  | a :: l, h => by
    show (if k = a then some (((a + 100 : Nat) : Int)) else lookM (l.map fE) k) = _
    rw [if_neg (fun e => h (by rw [e]; simp)), look_f (fun hh => h (by simp [hh]))]
theorem del_at : ∀ {l : List Nat} {i : Nat}, l.Pairwise (· < ·) → i < l.length → delM (l.map fE) (l.getD i default) = (l.take i ++ l.drop (i + 1)).map fE
  | a :: l, 0, hp, hi => by
    show (if a = a then l.map fE else _) = _
    rw [if_pos rfl]; rfl
  | a :: l, i + 1, hp, hi => by
    have hp2 := List.pairwise_cons.1 hp
    have hi2 : i < l.length := by simpa using hi
    have hm : l.getD i default ∈ l := by rw [List.getD_eq_getElem?_getD, List.getElem?_eq_getElem hi2]; exact List.getElem_mem hi2
    have hlt := hp2.1 _ hm
    show (if l.getD i default = a then l.map fE else fE a :: delM (l.map fE) (l.getD i default)) = _
    rw [if_neg (by omega), del_at hp2.2 hi2]; rfl
theorem sortK_id : ∀ {l : List Nat}, l.Pairwise (· < ·) → sortK (l.map Int.ofNat) = l.map Int.ofNat
  | [], _ => rfl
  | [a], _ => rfl
  | a :: b :: l, hp => by
    have hp2 := List.pairwise_cons.1 hp
    show insK (Int.ofNat a) (sortK ((b :: l).map Int.ofNat)) = _
    rw [sortK_id hp2.2]
    show bc (leI (Int.ofNat a) (Int.ofNat b)) (Int.ofNat a :: Int.ofNat b :: l.map Int.ofNat) _ = _
    rw [(leI_iff _ _).2 (by have := hp2.1 b (by simp); simp; omega)]; rfl
theorem keyS_map {l : List Nat} (hp : l.Pairwise (· < ·)) : keyS (l.map fE) = l := by
  unfold keyS
  rw [List.map_map, show ((fun p : Nat × Int => Int.ofNat p.1) ∘ fE) = Int.ofNat from rfl, sortK_id hp, List.map_map]
  have : (Int.toNat ∘ Int.ofNat) = id := rfl
  rw [this, List.map_id]
theorem same_l (l : List Nat) (hl : l.length ≤ 100) : ∀ (k m i : Nat) (b : Bool), i + k = l.length → k < m → ∃ z, samenums_l1 l l m b i = some (LO.ex z)
  | 0, m + 1, i, b, hi, hm => by rw [samenums_l1, if_neg (by omega)]; exact ⟨_, rfl⟩
  | k + 1, m + 1, i, b, hi, hm => by
    rw [samenums_l1, if_pos (by omega), gd_t (by omega), if_neg (fun h => h rfl), gd_t (by omega)]
    exact same_l l hl k m (i + 1) b (by omega) (by omega)
theorem same_t (l : List Nat) (hl : l.length ≤ 100) : samenums_p l l = some true := by
  unfold samenums_p
  obtain ⟨z, e⟩ := same_l l hl l.length 90000 0 false (by omega) (by omega)
  rw [if_neg (fun h => h rfl), e, ob_some, LO.on_ex]
theorem never_l (B0 : List Nat) (hB : B0.length ≤ 40) : ∀ (k m : Nat) (A2 : Bool) (A4 : List Nat) (A5 A6 : Nat), A6 + k = B0.length → k < m → A4.Pairwise (· < ·) → (∀ x ∈ A4, x ≤ A5) → A5 ≤ A6 → A4.length ≤ 8 →
    ∃ A4' A5', lawnever_l1 B0 m A2 A4 A5 A6 (A4.map fE) A5 = some (LO.ex (A2, A4', A5', B0.length, A4'.map fE, A5')) ∧ A4'.Pairwise (· < ·) ∧ A4'.length ≤ 8
  | 0, m + 1, A2, A4, A5, A6, hk, hm, hp, hx, h5, h8 => by
    rw [lawnever_l1, if_neg (by omega)]
    obtain rfl : A6 = B0.length := by omega
    exact ⟨A4, A5, rfl, hp, h8⟩
  | k + 1, m + 1, A2, A4, A5, A6, hk, hm, hp, hx, h5, h8 => by
    have add : ∃ A4' A5', (gd (A5 < 9223372036854775808) (gd (A5 + 101 < 9223372036854775808) (ob (hadd_p (A4.map fE) A5 ((A5 + 101 : Nat) : Int)) fun x9 =>
        (if 8 ≤ A4.length then (if x9.2.2.2 ≠ 12 then (some (LO.rt false)) else
        (if x9.2.2.1 ≠ 0 then (some (LO.rt false)) else
        (gd (A6 + 1 < 9223372036854775808) (lawnever_l1 B0 m A2 A4 A5 (A6 + 1) x9.1 x9.2.1)))) else
        (if x9.2.2.2 ≠ 0 then (some (LO.rt false)) else
        (if x9.2.2.1 ≠ (A5 + 1) % 18446744073709551616 then (some (LO.rt false)) else
        (gd ((A4.length + 1) * 8 ≤ 70368744177664) (gd (A6 + 1 < 9223372036854775808) (lawnever_l1 B0 m A2 (A4 ++ [x9.2.2.1]) x9.2.2.1 (A6 + 1) x9.1 x9.2.1))))))))) = some (LO.ex (A2, A4', A5', B0.length, A4'.map fE, A5')) ∧ A4'.Pairwise (· < ·) ∧ A4'.length ≤ 8 := by
      rw [gd_t (by omega), gd_t (by omega)]
      unfold hadd_p
      rw [List.length_map]
      by_cases h : 8 ≤ A4.length
      · rw [if_pos h, ob_some, if_pos h]
        dsimp only
        rw [if_neg (by decide), if_neg (by decide), gd_t (by omega)]
        exact never_l B0 hB k m A2 A4 A5 (A6 + 1) (by omega) (by omega) hp hx (by omega) h8
      · have hmod : (A5 + 1) % 18446744073709551616 = A5 + 1 := Nat.mod_eq_of_lt (by omega)
        have hno : A5 + 1 ∉ A4 := fun hh => by have := hx _ hh; omega
        rw [if_neg h, ob_some, if_neg h]
        dsimp only
        rw [if_neg (by decide), hmod, if_neg (fun h => h rfl), gd_t (by omega), gd_t (by omega)]
        have hput : putM (A4.map fE) (A5 + 1) ((A5 + 101 : Nat) : Int) = (A4 ++ [A5 + 1]).map fE := by
          unfold putM; rw [look_f hno, List.map_append]; rfl
        rw [hput]
        refine never_l B0 hB k m A2 (A4 ++ [A5 + 1]) (A5 + 1) (A6 + 1) (by omega) (by omega) ?_ ?_ (by omega) (by simp; omega)
        · rw [List.pairwise_append]
          exact ⟨hp, by simp, fun a ha b hb => by have := hx a ha; rw [List.mem_singleton.1 hb]; omega⟩
        · intro x hx2
          rcases List.mem_append.1 hx2 with h | h
          · have := hx x h; omega
          · rw [List.mem_singleton.1 h]; exact Nat.le_refl _
    rw [lawnever_l1, if_pos (by omega)]
    by_cases h3 : B0.getD A6 0 % 3 = 0
    · rw [if_pos h3]
      by_cases h0 : 0 < A4.length
      · have hi : B0.getD A6 0 / 3 % A4.length < A4.length := Nat.mod_lt _ h0
        rw [if_pos h0, gd_t (by omega), gd_t hi]
        generalize B0.getD A6 0 / 3 % A4.length = i at *
        have hm4 : A4.getD i default ∈ A4 := by rw [List.getD_eq_getElem?_getD, List.getElem?_eq_getElem hi]; exact List.getElem_mem hi
        have hle := hx _ hm4
        have hdel := del_at hp hi
        generalize hg : A4.getD i default = g at *
        have hsub : (A4.take i ++ A4.drop (i + 1)).Sublist A4 := by
          conv => rhs; rw [← List.take_append_drop i A4]
          exact List.Sublist.append (List.Sublist.refl _) (by rw [← List.drop_drop (i := 1) (j := i)]; exact List.drop_sublist _ _)
        have hno : g ∉ A4.take i ++ A4.drop (i + 1) := by
          intro hh
          have hnd : A4.Pairwise (· ≠ ·) := hp.imp fun h => by omega
          rw [← hg, List.getD_eq_getElem?_getD, List.getElem?_eq_getElem hi] at hh
          rw [← List.take_append_drop i A4, List.drop_eq_getElem_cons hi, List.pairwise_append] at hnd
          rcases List.mem_append.1 hh with hh | hh
          · exact hnd.2.2 _ hh A4[i] List.mem_cons_self rfl
          · exact (List.pairwise_cons.1 hnd.2.1).1 _ hh rfl
        have c1 : hclose_p (A4.map fE) A5 g = some ((A4.take i ++ A4.drop (i + 1)).map fE, A5, ((g + 100 : Nat) : Int), 0) := by
          unfold hclose_p hget_p
          rw [look_t hm4, if_neg (by simp), ob_some, if_pos rfl, hdel]; rfl
        have c2 : hget_p ((A4.take i ++ A4.drop (i + 1)).map fE) A5 g = some ((A4.take i ++ A4.drop (i + 1)).map fE, A5, 0, 9) := by
          unfold hget_p
          rw [look_f hno]; rfl
        have c3 : hclose_p ((A4.take i ++ A4.drop (i + 1)).map fE) A5 g = some ((A4.take i ++ A4.drop (i + 1)).map fE, A5, 0, 9) := by
          unfold hclose_p
          rw [c2, ob_some, if_neg (show ¬ (9 : Nat) = 0 by decide)]
        rw [c1, ob_some]
        dsimp only
        rw [c3, ob_some]
        dsimp only
        rw [c2, ob_some]
        dsimp only
        have hl1 : (A4.take i).length ≤ 8 := by rw [List.length_take]; omega
        have hl2 : (A4.drop (i + 1)).length ≤ 8 := by rw [List.length_drop]; omega
        rw [if_neg (by decide), gd_t (by omega), gd_t (by omega), if_neg (fun h => h rfl), if_neg (by decide), if_neg (by decide), gd_t (by omega), gd_t (by omega), gd_t (by omega), gd_t (by omega), gd_t (by omega), gd_t (by omega)]
        exact never_l B0 hB k m A2 _ A5 (A6 + 1) (by omega) (by omega) (hp.sublist hsub) (fun x h => hx x (hsub.subset h)) (by omega) (Nat.le_trans hsub.length_le h8)
      · rw [if_neg h0]
        exact add
    · rw [if_neg h3]
      exact add
theorem never_t (l : List Nat) : lawnever_p l = some true := by
  unfold lawnever_p
  by_cases h : 40 < l.length
  · rw [if_pos h]
  · obtain ⟨A4, A5, e, hp, h8⟩ := never_l l (by omega) l.length 90000 false [] 0 0 (by omega) (by omega) (by simp) (by simp) (by omega) (by simp)
    rw [if_neg h, show ([] : List (Nat × Int)) = ([] : List Nat).map fE from rfl, e, ob_some, LO.on_ex]
    unfold hall_p
    dsimp only
    rw [List.length_map, gd_t (by omega), ob_some, keyS_map hp]
    dsimp only
    rw [same_t A4 (by omega), ob_some, if_pos rfl]
end Go.Proofs.Ytpelnanckmjoaaa
end
