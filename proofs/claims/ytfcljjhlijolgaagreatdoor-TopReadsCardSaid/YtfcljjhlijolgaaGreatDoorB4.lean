import Derived.Test.YtfcljjhlijolgaaGreatDoorB3
import GoSem.ClaimGoes
section
set_option linter.unusedVariables false
set_option linter.unusedSimpArgs false
namespace Go.Proofs.YtfcljjhlijolgaaGreatDoor
open Go Go.RowKit Go.Maps Go.Sort Go.Shelf Eng
noncomputable abbrev CC0 (d : Nat) : CallT := evF noM (progS Tryz.prog (compDrawn Tryz.prog)) 100000 d
noncomputable def ins_inC : AC := (.seq (.seq (.drawn [⟨[(⟨(some 16), .q (.move (.tmp 7)), none⟩, 0), (⟨(some 17), .q (.move (.tmp 1)), none⟩, 0), (⟨(some 18), .q (.bin .gtr (.tmp 16) (.tmp 17)), none⟩, 0), (⟨(some 19), .q (.move (.tmp 18)), none⟩, 0), (⟨(some 20), .q (.move (.tmp 0)), (some (19, true))⟩, 0), (⟨(some 21), .q (.move (.tmp 7)), (some (19, true))⟩, 0), (⟨(some 22), .q (.idxAddrSl 1 (.tmp 20) (.tmp 21)), (some (19, true))⟩, 0), (⟨(some 23), .q (.loadS (.tmp 22)), (some (19, true))⟩, 0), (⟨(some 24), .q (.move (.tmp 0)), (some (19, true))⟩, 0), (⟨(some 25), .q (.move (.tmp 7)), (some (19, true))⟩, 0), (⟨(some 26), .q (.bin .sub (.tmp 25) (.const (AV.int .i64 (Int.ofNat 1)))), (some (19, true))⟩, 0), (⟨(some 27), .q (.idxAddrSl 1 (.tmp 24) (.tmp 26)), (some (19, true))⟩, 0), (⟨(some 28), .q (.loadS (.tmp 27)), (some (19, true))⟩, 0)], (some ⟨(some 29), .e (.call (.const (AV.func (.func 238) [] [])) [(.tmp 23), (.tmp 28)]), (some (19, true))⟩)⟩, ⟨[(⟨(some 30), .q (.pick (.tmp 19) (.tmp 29) (.const (AV.bool false))), none⟩, 1)], none⟩]) (.cond (.tmp 30) .skip (.exit 2))) (.seq (.block 3 (.drawn [⟨[(⟨(some 33), .q (.move (.tmp 0)), none⟩, 0), (⟨(some 34), .q (.move (.tmp 7)), none⟩, 0), (⟨(some 35), .q (.move (.tmp 0)), none⟩, 1), (⟨(some 36), .q (.move (.tmp 7)), none⟩, 1), (⟨(some 37), .q (.bin .sub (.tmp 36) (.const (AV.int .i64 (Int.ofNat 1)))), none⟩, 1), (⟨(some 38), .q (.move (.tmp 0)), none⟩, 0), (⟨(some 39), .q (.move (.tmp 7)), none⟩, 0), (⟨(some 40), .q (.bin .sub (.tmp 39) (.const (AV.int .i64 (Int.ofNat 1)))), none⟩, 0), (⟨(some 41), .q (.idxAddrSl 1 (.tmp 38) (.tmp 40)), none⟩, 0), (⟨(some 42), .q (.loadS (.tmp 41)), none⟩, 0), (⟨(some 43), .q (.move (.tmp 0)), none⟩, 0), (⟨(some 44), .q (.move (.tmp 7)), none⟩, 0), (⟨(some 45), .q (.idxAddrSl 1 (.tmp 43) (.tmp 44)), none⟩, 0), (⟨(some 46), .q (.loadS (.tmp 45)), none⟩, 0), (⟨(some 47), .q (.idxAddrSl 1 (.tmp 33) (.tmp 34)), none⟩, 0)], (some ⟨none, .e (.store 1 (.tmp 47) (.tmp 42)), none⟩)⟩, ⟨[(⟨(some 48), .q (.idxAddrSl 1 (.tmp 35) (.tmp 37)), none⟩, 1)], (some ⟨none, .e (.store 1 (.tmp 48) (.tmp 46)), none⟩)⟩, ⟨[], none⟩])) (.region [⟨(some 31), .q (.move (.tmp 7)), none⟩, ⟨(some 32), .q (.bin .sub (.tmp 31) (.const (AV.int .i64 (Int.ofNat 1)))), none⟩, ⟨(some 7), .q (.move (.tmp 32)), none⟩])))
theorem ins_in_body {call : CallT} {N : Nat} {t : T} {h : Hp} {n i0 : Nat} {res : List Int} (hn : n ≤ 12) (hless : ∀ (x y : Int) (h : Hp), call 238 [.int .u64 x, .int .u64 y] h = .ok (.bool (ltI x y)) h) {L : List Int} {j : Nat} (hi : (fun (z : List Int × Nat) (h' : Hp) => h' = hS .u64 z.1 ∧ z.2 < n ∧ z.1.length = n ∧ sink z.1 z.2 = res) (L, j) h)
    : ∃ s, evC call N ins_inC (ovT [(0, (AV.slice 0 0 n n 1 false)), (1, (AV.int .i64 (Int.ofNat 0))), (2, (AV.int .i64 (Int.ofNat n))), (6, (AV.int .i64 (Int.ofNat i0))), (7, (AV.int .i64 (Int.ofNat j)))] t) h = s ∧ obsS [0, 1, 2, 6, 7] (fun ls h' => ∃ y, ls = ((fun (z : List Int × Nat) => [(0, (AV.slice 0 0 n n 1 false)), (1, (AV.int .i64 (Int.ofNat 0))), (2, (AV.int .i64 (Int.ofNat n))), (6, (AV.int .i64 (Int.ofNat i0))), (7, (AV.int .i64 (Int.ofNat z.2)))]) y).map (fun p => some p.2) ∧ (fun (z : List Int × Nat) (h' : Hp) => h' = hS .u64 z.1 ∧ z.2 < n ∧ z.1.length = n ∧ sink z.1 z.2 = res) y h' ∧ (fun (z : List Int × Nat) => z.2) y < (fun (z : List Int × Nat) => z.2) (L, j)) (fun i ls h' => ∃ y, ls = ((fun (z : List Int × Nat) => [(0, (AV.slice 0 0 n n 1 false)), (1, (AV.int .i64 (Int.ofNat 0))), (2, (AV.int .i64 (Int.ofNat n))), (6, (AV.int .i64 (Int.ofNat i0))), (7, (AV.int .i64 (Int.ofNat z.2)))]) y).map (fun p => some p.2) ∧ (fun (i : Nat) (z : List Int × Nat) (h' : Hp) => (i = 2) ∧ (i = 2 → h' = hS .u64 z.1 ∧ z.1 = res)) i y h') (fun ls h' => (fun (ls : List (Option AV)) (h' : Hp) => False) ls h') s := by
  have hi : h = hS .u64 L ∧ j < n ∧ L.length = n ∧ sink L j = res := hi
  obtain ⟨rfl, hjn, hLn, hres⟩ := hi
  refine walk_ok (o := (.fork 3 (.tell 2 (AV.ptr 0 (0 + j * 1)) (.tell 0 (AV.int .u64 (L.getD j 0)) (.tell 2 (AV.int .i64 (Int.ofNat (j - 1))) (.tell 0 (AV.ptr 0 (0 + (j - 1) * 1)) (.tell 0 (AV.int .u64 (L.getD (j - 1) 0)) (.again 0 (.eff 0 (AV.bool (ltI (L.getD j 0) (L.getD (j - 1) 0))) (hS .u64 L) (.fork 0 (.again 0 (.tell 4 (AV.int .i64 (Int.ofNat (j - 1))) (.tell 2 (AV.int .i64 (Int.ofNat (j - 1))) (.tell 0 (AV.ptr 0 (0 + (j - 1) * 1)) (.tell 0 (AV.int .u64 (L.getD (j - 1) 0)) (.tell 2 (AV.ptr 0 (0 + j * 1)) (.tell 0 (AV.int .u64 (L.getD j 0)) (.tell 0 (AV.ptr 0 (0 + j * 1)) (.again 0 (.eff 0 (AV.tuple []) (hS .u64 (L.set j (L.getD (j - 1) 0))) (.tell 0 (AV.ptr 0 (0 + (j - 1) * 1)) (.again 0 (.eff 0 (AV.tuple []) (hS .u64 ((L.set j (L.getD (j - 1) 0)).set (j - 1) (L.getD j 0))) (.tell 2 (AV.int .i64 (Int.ofNat (j - 1))) .fin)))))))))))))) (.again 0 .fin))))))))) (.again 0 .fin))) (p := ((ltI (Int.ofNat 0) (Int.ofNat j) = true → (evQ (.idxAddrSl 1 (.const (AV.slice 0 0 n n 1 false)) (.const (AV.int .i64 (Int.ofNat j)))) .lf H0 = .ok (AV.ptr 0 (0 + j * 1)) ∧ (evQ (.loadS (.const (AV.ptr 0 (0 + j * 1)))) .lf (hS .u64 L) = .ok (AV.int .u64 (L.getD j 0)) ∧ (evQ (.bin .sub (.const (AV.int .i64 (Int.ofNat j))) (.const (AV.int .i64 (Int.ofNat 1)))) .lf H0 = .ok (AV.int .i64 (Int.ofNat (j - 1))) ∧ (evQ (.idxAddrSl 1 (.const (AV.slice 0 0 n n 1 false)) (.const (AV.int .i64 (Int.ofNat (j - 1))))) .lf H0 = .ok (AV.ptr 0 (0 + (j - 1) * 1)) ∧ (evQ (.loadS (.const (AV.ptr 0 (0 + (j - 1) * 1)))) .lf (hS .u64 L) = .ok (AV.int .u64 (L.getD (j - 1) 0)) ∧ ((again (.loadS (.const (AV.ptr 0 (0 + (j - 1) * 1)))) .lf (AV.int .u64 (L.getD (j - 1) 0)) (hS .u64 L) = true ∧ again (.idxAddrSl 1 (.const (AV.slice 0 0 n n 1 false)) (.const (AV.int .i64 (Int.ofNat (j - 1))))) .lf (AV.ptr 0 (0 + (j - 1) * 1)) (hS .u64 L) = true ∧ again (.bin .sub (.const (AV.int .i64 (Int.ofNat j))) (.const (AV.int .i64 (Int.ofNat 1)))) .lf (AV.int .i64 (Int.ofNat (j - 1))) (hS .u64 L) = true ∧ again (.move (.const (AV.int .i64 (Int.ofNat j)))) .lf (AV.int .i64 (Int.ofNat j)) (hS .u64 L) = true ∧ again (.move (.const (AV.slice 0 0 n n 1 false))) .lf (AV.slice 0 0 n n 1 false) (hS .u64 L) = true ∧ again (.loadS (.const (AV.ptr 0 (0 + j * 1)))) .lf (AV.int .u64 (L.getD j 0)) (hS .u64 L) = true ∧ again (.idxAddrSl 1 (.const (AV.slice 0 0 n n 1 false)) (.const (AV.int .i64 (Int.ofNat j)))) .lf (AV.ptr 0 (0 + j * 1)) (hS .u64 L) = true ∧ again (.move (.const (AV.int .i64 (Int.ofNat j)))) .lf (AV.int .i64 (Int.ofNat j)) (hS .u64 L) = true ∧ again (.move (.const (AV.slice 0 0 n n 1 false))) .lf (AV.slice 0 0 n n 1 false) (hS .u64 L) = true ∧ again (.move (.const (AV.bool (ltI (Int.ofNat 0) (Int.ofNat j))))) .lf (AV.bool true) (hS .u64 L) = true ∧ again (.bin .gtr (.const (AV.int .i64 (Int.ofNat j))) (.const (AV.int .i64 (Int.ofNat 0)))) .lf (AV.bool (ltI (Int.ofNat 0) (Int.ofNat j))) (hS .u64 L) = true ∧ again (.move (.const (AV.int .i64 (Int.ofNat 0)))) .lf (AV.int .i64 (Int.ofNat 0)) (hS .u64 L) = true ∧ again (.move (.const (AV.int .i64 (Int.ofNat j)))) .lf (AV.int .i64 (Int.ofNat j)) (hS .u64 L) = true ∧ True) ∧ (call 238 [(AV.int .u64 (L.getD j 0)), (AV.int .u64 (L.getD (j - 1) 0))] (hS .u64 L) = .ok (AV.bool (ltI (L.getD j 0) (L.getD (j - 1) 0))) (hS .u64 L) ∧ ((ltI (L.getD j 0) (L.getD (j - 1) 0) = true → ((again (.pick (.const (AV.bool true)) (.const (AV.bool (ltI (L.getD j 0) (L.getD (j - 1) 0)))) (.const (AV.bool false))) .lf (AV.bool true) (hS .u64 L) = true ∧ True) ∧ (evQ (.bin .sub (.const (AV.int .i64 (Int.ofNat j))) (.const (AV.int .i64 (Int.ofNat 1)))) .lf H0 = .ok (AV.int .i64 (Int.ofNat (j - 1))) ∧ (evQ (.bin .sub (.const (AV.int .i64 (Int.ofNat j))) (.const (AV.int .i64 (Int.ofNat 1)))) .lf H0 = .ok (AV.int .i64 (Int.ofNat (j - 1))) ∧ (evQ (.idxAddrSl 1 (.const (AV.slice 0 0 n n 1 false)) (.const (AV.int .i64 (Int.ofNat (j - 1))))) .lf H0 = .ok (AV.ptr 0 (0 + (j - 1) * 1)) ∧ (evQ (.loadS (.const (AV.ptr 0 (0 + (j - 1) * 1)))) .lf (hS .u64 L) = .ok (AV.int .u64 (L.getD (j - 1) 0)) ∧ (evQ (.idxAddrSl 1 (.const (AV.slice 0 0 n n 1 false)) (.const (AV.int .i64 (Int.ofNat j)))) .lf H0 = .ok (AV.ptr 0 (0 + j * 1)) ∧ (evQ (.loadS (.const (AV.ptr 0 (0 + j * 1)))) .lf (hS .u64 L) = .ok (AV.int .u64 (L.getD j 0)) ∧ (evQ (.idxAddrSl 1 (.const (AV.slice 0 0 n n 1 false)) (.const (AV.int .i64 (Int.ofNat j)))) .lf H0 = .ok (AV.ptr 0 (0 + j * 1)) ∧ ((again (.idxAddrSl 1 (.const (AV.slice 0 0 n n 1 false)) (.const (AV.int .i64 (Int.ofNat j)))) .lf (AV.ptr 0 (0 + j * 1)) (hS .u64 L) = true ∧ again (.loadS (.const (AV.ptr 0 (0 + j * 1)))) .lf (AV.int .u64 (L.getD j 0)) (hS .u64 L) = true ∧ again (.idxAddrSl 1 (.const (AV.slice 0 0 n n 1 false)) (.const (AV.int .i64 (Int.ofNat j)))) .lf (AV.ptr 0 (0 + j * 1)) (hS .u64 L) = true ∧ again (.move (.const (AV.int .i64 (Int.ofNat j)))) .lf (AV.int .i64 (Int.ofNat j)) (hS .u64 L) = true ∧ again (.move (.const (AV.slice 0 0 n n 1 false))) .lf (AV.slice 0 0 n n 1 false) (hS .u64 L) = true ∧ again (.loadS (.const (AV.ptr 0 (0 + (j - 1) * 1)))) .lf (AV.int .u64 (L.getD (j - 1) 0)) (hS .u64 L) = true ∧ again (.idxAddrSl 1 (.const (AV.slice 0 0 n n 1 false)) (.const (AV.int .i64 (Int.ofNat (j - 1))))) .lf (AV.ptr 0 (0 + (j - 1) * 1)) (hS .u64 L) = true ∧ again (.bin .sub (.const (AV.int .i64 (Int.ofNat j))) (.const (AV.int .i64 (Int.ofNat 1)))) .lf (AV.int .i64 (Int.ofNat (j - 1))) (hS .u64 L) = true ∧ again (.move (.const (AV.int .i64 (Int.ofNat j)))) .lf (AV.int .i64 (Int.ofNat j)) (hS .u64 L) = true ∧ again (.move (.const (AV.slice 0 0 n n 1 false))) .lf (AV.slice 0 0 n n 1 false) (hS .u64 L) = true ∧ again (.bin .sub (.const (AV.int .i64 (Int.ofNat j))) (.const (AV.int .i64 (Int.ofNat 1)))) .lf (AV.int .i64 (Int.ofNat (j - 1))) (hS .u64 L) = true ∧ again (.move (.const (AV.int .i64 (Int.ofNat j)))) .lf (AV.int .i64 (Int.ofNat j)) (hS .u64 L) = true ∧ again (.move (.const (AV.slice 0 0 n n 1 false))) .lf (AV.slice 0 0 n n 1 false) (hS .u64 L) = true ∧ again (.move (.const (AV.int .i64 (Int.ofNat j)))) .lf (AV.int .i64 (Int.ofNat j)) (hS .u64 L) = true ∧ again (.move (.const (AV.slice 0 0 n n 1 false))) .lf (AV.slice 0 0 n n 1 false) (hS .u64 L) = true ∧ True) ∧ (evE (.store 1 (.const (AV.ptr 0 (0 + j * 1))) (.const (AV.int .u64 (L.getD (j - 1) 0)))) call .lf (hS .u64 L) = .ok (AV.tuple []) (hS .u64 (L.set j (L.getD (j - 1) 0))) ∧ (evQ (.idxAddrSl 1 (.const (AV.slice 0 0 n n 1 false)) (.const (AV.int .i64 (Int.ofNat (j - 1))))) .lf H0 = .ok (AV.ptr 0 (0 + (j - 1) * 1)) ∧ ((again (.idxAddrSl 1 (.const (AV.slice 0 0 n n 1 false)) (.const (AV.int .i64 (Int.ofNat (j - 1))))) .lf (AV.ptr 0 (0 + (j - 1) * 1)) (hS .u64 (L.set j (L.getD (j - 1) 0))) = true ∧ again (.bin .sub (.const (AV.int .i64 (Int.ofNat j))) (.const (AV.int .i64 (Int.ofNat 1)))) .lf (AV.int .i64 (Int.ofNat (j - 1))) (hS .u64 (L.set j (L.getD (j - 1) 0))) = true ∧ again (.move (.const (AV.int .i64 (Int.ofNat j)))) .lf (AV.int .i64 (Int.ofNat j)) (hS .u64 (L.set j (L.getD (j - 1) 0))) = true ∧ again (.move (.const (AV.slice 0 0 n n 1 false))) .lf (AV.slice 0 0 n n 1 false) (hS .u64 (L.set j (L.getD (j - 1) 0))) = true ∧ True) ∧ (evE (.store 1 (.const (AV.ptr 0 (0 + (j - 1) * 1))) (.const (AV.int .u64 (L.getD j 0)))) call .lf (hS .u64 (L.set j (L.getD (j - 1) 0))) = .ok (AV.tuple []) (hS .u64 ((L.set j (L.getD (j - 1) 0)).set (j - 1) (L.getD j 0))) ∧ (evQ (.bin .sub (.const (AV.int .i64 (Int.ofNat j))) (.const (AV.int .i64 (Int.ofNat 1)))) .lf H0 = .ok (AV.int .i64 (Int.ofNat (j - 1))) ∧ ((fun ls h' => ∃ y, ls = ((fun (z : List Int × Nat) => [(0, (AV.slice 0 0 n n 1 false)), (1, (AV.int .i64 (Int.ofNat 0))), (2, (AV.int .i64 (Int.ofNat n))), (6, (AV.int .i64 (Int.ofNat i0))), (7, (AV.int .i64 (Int.ofNat z.2)))]) y).map (fun p => some p.2) ∧ (fun (z : List Int × Nat) (h' : Hp) => h' = hS .u64 z.1 ∧ z.2 < n ∧ z.1.length = n ∧ sink z.1 z.2 = res) y h' ∧ (fun (z : List Int × Nat) => z.2) y < (fun (z : List Int × Nat) => z.2) (L, j)) : List (Option AV) → Hp → Prop) [some (AV.slice 0 0 n n 1 false), some (AV.int .i64 (Int.ofNat 0)), some (AV.int .i64 (Int.ofNat n)), some (AV.int .i64 (Int.ofNat i0)), some (AV.int .i64 (Int.ofNat (j - 1)))] (hS .u64 ((L.set j (L.getD (j - 1) 0)).set (j - 1) (L.getD j 0)))))))))))))))))) ∧ (ltI (L.getD j 0) (L.getD (j - 1) 0) = false → ((again (.pick (.const (AV.bool true)) (.const (AV.bool (ltI (L.getD j 0) (L.getD (j - 1) 0)))) (.const (AV.bool false))) .lf (AV.bool false) (hS .u64 L) = true ∧ True) ∧ ((fun i ls h' => ∃ y, ls = ((fun (z : List Int × Nat) => [(0, (AV.slice 0 0 n n 1 false)), (1, (AV.int .i64 (Int.ofNat 0))), (2, (AV.int .i64 (Int.ofNat n))), (6, (AV.int .i64 (Int.ofNat i0))), (7, (AV.int .i64 (Int.ofNat z.2)))]) y).map (fun p => some p.2) ∧ (fun (i : Nat) (z : List Int × Nat) (h' : Hp) => (i = 2) ∧ (i = 2 → h' = hS .u64 z.1 ∧ z.1 = res)) i y h') : Nat → List (Option AV) → Hp → Prop) 2 [some (AV.slice 0 0 n n 1 false), some (AV.int .i64 (Int.ofNat 0)), some (AV.int .i64 (Int.ofNat n)), some (AV.int .i64 (Int.ofNat i0)), some (AV.int .i64 (Int.ofNat j))] (hS .u64 L)))))))))))) ∧ (ltI (Int.ofNat 0) (Int.ofNat j) = false → ((again (.move (.const (AV.bool (ltI (Int.ofNat 0) (Int.ofNat j))))) .lf (AV.bool false) (hS .u64 L) = true ∧ again (.bin .gtr (.const (AV.int .i64 (Int.ofNat j))) (.const (AV.int .i64 (Int.ofNat 0)))) .lf (AV.bool (ltI (Int.ofNat 0) (Int.ofNat j))) (hS .u64 L) = true ∧ again (.move (.const (AV.int .i64 (Int.ofNat 0)))) .lf (AV.int .i64 (Int.ofNat 0)) (hS .u64 L) = true ∧ again (.move (.const (AV.int .i64 (Int.ofNat j)))) .lf (AV.int .i64 (Int.ofNat j)) (hS .u64 L) = true ∧ True) ∧ ((fun i ls h' => ∃ y, ls = ((fun (z : List Int × Nat) => [(0, (AV.slice 0 0 n n 1 false)), (1, (AV.int .i64 (Int.ofNat 0))), (2, (AV.int .i64 (Int.ofNat n))), (6, (AV.int .i64 (Int.ofNat i0))), (7, (AV.int .i64 (Int.ofNat z.2)))]) y).map (fun p => some p.2) ∧ (fun (i : Nat) (z : List Int × Nat) (h' : Hp) => (i = 2) ∧ (i = 2 → h' = hS .u64 z.1 ∧ z.1 = res)) i y h') : Nat → List (Option AV) → Hp → Prop) 2 [some (AV.slice 0 0 n n 1 false), some (AV.int .i64 (Int.ofNat 0)), some (AV.int .i64 (Int.ofNat n)), some (AV.int .i64 (Int.ofNat i0)), some (AV.int .i64 (Int.ofNat j))] (hS .u64 L))))) (by kernel_rfl) ?_
  refine ⟨fun c1 => ?_, fun c1 => ?_⟩
  · have rc1 := c1
    replace c1 : 0 < j := ltI_t c1
    refine ⟨q_idx (by omega), ?_⟩
    refine ⟨ld_ok (by omega), ?_⟩
    refine ⟨q_sub (by omega) (by omega), ?_⟩
    refine ⟨q_idx (by omega), ?_⟩
    refine ⟨ld_ok (by omega), ?_⟩
    refine ⟨⟨again_of (ld_ok (by omega)) (avEq_int _ _), again_of (q_idx (by omega)) (avEq_ptr _ _), again_of (q_sub (by omega) (by omega)) (avEq_int _ _), again_of (rfl) (avEq_int _ _), again_of (rfl) (avEq_slice _ _ _ _ _ _), again_of (ld_ok (by omega)) (avEq_int _ _), again_of (q_idx (by omega)) (avEq_ptr _ _), again_of (rfl) (avEq_int _ _), again_of (rfl) (avEq_slice _ _ _ _ _ _), again_of (congrArg (fun b => OV.ok (AV.bool b)) rc1) (avEq_bool _), again_of (rfl) (avEq_bool _), again_of (rfl) (avEq_int _ _), again_of (rfl) (avEq_int _ _), trivial⟩, ?_⟩
    refine ⟨hless _ _ _, ?_⟩
    refine ⟨fun c2 => ?_, fun c2 => ?_⟩
    · have rc2 := c2
      replace c2 : (L.getD j 0) < (L.getD (j - 1) 0) := ltI_T c2
      refine ⟨⟨again_of (congrArg (fun b => OV.ok (AV.bool b)) rc2) (avEq_bool _), trivial⟩, ?_⟩
      refine ⟨q_sub (by omega) (by omega), ?_⟩
      refine ⟨q_sub (by omega) (by omega), ?_⟩
      refine ⟨q_idx (by omega), ?_⟩
      refine ⟨ld_ok (by omega), ?_⟩
      refine ⟨q_idx (by omega), ?_⟩
      refine ⟨ld_ok (by omega), ?_⟩
      refine ⟨q_idx (by omega), ?_⟩
      refine ⟨⟨again_of (q_idx (by omega)) (avEq_ptr _ _), again_of (ld_ok (by omega)) (avEq_int _ _), again_of (q_idx (by omega)) (avEq_ptr _ _), again_of (rfl) (avEq_int _ _), again_of (rfl) (avEq_slice _ _ _ _ _ _), again_of (ld_ok (by omega)) (avEq_int _ _), again_of (q_idx (by omega)) (avEq_ptr _ _), again_of (q_sub (by omega) (by omega)) (avEq_int _ _), again_of (rfl) (avEq_int _ _), again_of (rfl) (avEq_slice _ _ _ _ _ _), again_of (q_sub (by omega) (by omega)) (avEq_int _ _), again_of (rfl) (avEq_int _ _), again_of (rfl) (avEq_slice _ _ _ _ _ _), again_of (rfl) (avEq_int _ _), again_of (rfl) (avEq_slice _ _ _ _ _ _), trivial⟩, ?_⟩
      refine ⟨st_ok call (by first | omega | (simp; omega)), ?_⟩
      refine ⟨q_idx (by omega), ?_⟩
      refine ⟨⟨again_of (q_idx (by omega)) (avEq_ptr _ _), again_of (q_sub (by omega) (by omega)) (avEq_int _ _), again_of (rfl) (avEq_int _ _), again_of (rfl) (avEq_slice _ _ _ _ _ _), trivial⟩, ?_⟩
      refine ⟨st_ok call (by first | omega | (simp; omega)), ?_⟩
      refine ⟨q_sub (by omega) (by omega), ?_⟩
      obtain ⟨k, rfl⟩ : ∃ k, j = k + 1 := ⟨j - 1, by omega⟩
      refine ⟨(swapL L k, k), rfl, ⟨rfl, by dsimp only; omega, by dsimp only; rw [swapL_len]; exact hLn, ?_⟩, by dsimp only; omega⟩
      dsimp only
      rw [sink, if_pos (by have := c2; simp only [Nat.add_sub_cancel] at this; omega)] at hres
      exact hres
    · have rc2 := c2
      replace c2 : (L.getD (j - 1) 0) ≤ (L.getD j 0) := ltI_F c2
      refine ⟨⟨again_of (congrArg (fun b => OV.ok (AV.bool b)) rc2) (avEq_bool _), trivial⟩, ?_⟩
      refine ⟨(L, j), rfl, rfl, fun _ => ⟨rfl, ?_⟩⟩
      obtain ⟨k, rfl⟩ : ∃ k, j = k + 1 := ⟨j - 1, by omega⟩
      rw [sink, if_neg (by have := c2; simp only [Nat.add_sub_cancel] at this; omega)] at hres
      exact hres
  · have rc1 := c1
    replace c1 : j ≤ 0 := ltI_f c1
    refine ⟨⟨again_of (congrArg (fun b => OV.ok (AV.bool b)) rc1) (avEq_bool _), again_of (rfl) (avEq_bool _), again_of (rfl) (avEq_int _ _), again_of (rfl) (avEq_int _ _), trivial⟩, ?_⟩
    refine ⟨(L, j), rfl, rfl, fun _ => ⟨rfl, ?_⟩⟩
    obtain rfl : j = 0 := by omega
    exact hres
theorem ins_in {call : CallT} {N : Nat} {n i0 : Nat} {res : List Int} (hn : n ≤ 12) (hless : ∀ (x y : Int) (h : Hp), call 238 [.int .u64 x, .int .u64 y] h = .ok (.bool (ltI x y)) h) {L : List Int} {j : Nat} {h : Hp} (hi : (fun (z : List Int × Nat) (h' : Hp) => h' = hS .u64 z.1 ∧ z.2 < n ∧ z.1.length = n ∧ sink z.1 z.2 = res) (L, j) h) (hN : j < N) {t : T} (ht : Has ((fun (z : List Int × Nat) => [(0, (AV.slice 0 0 n n 1 false)), (1, (AV.int .i64 (Int.ofNat 0))), (2, (AV.int .i64 (Int.ofNat n))), (6, (AV.int .i64 (Int.ofNat i0))), (7, (AV.int .i64 (Int.ofNat z.2)))]) (L, j)) t) :
    (∃ i y t' h', evC call N (.loop ins_inC) t h = .exit i t' h' ∧ Has ((fun (z : List Int × Nat) => [(0, (AV.slice 0 0 n n 1 false)), (1, (AV.int .i64 (Int.ofNat 0))), (2, (AV.int .i64 (Int.ofNat n))), (6, (AV.int .i64 (Int.ofNat i0))), (7, (AV.int .i64 (Int.ofNat z.2)))]) y) t' ∧ (fun (i : Nat) (z : List Int × Nat) (h' : Hp) => (i = 2) ∧ (i = 2 → h' = hS .u64 z.1 ∧ z.1 = res)) i y h') ∨ (∃ t' h', evC call N (.loop ins_inC) t h = .ret t' h' ∧ (fun (ls : List (Option AV)) (h' : Hp) => False) (slots [0, 1, 2, 6, 7] t') h') :=
  loop_st (fun (z : List Int × Nat) => [(0, (AV.slice 0 0 n n 1 false)), (1, (AV.int .i64 (Int.ofNat 0))), (2, (AV.int .i64 (Int.ofNat n))), (6, (AV.int .i64 (Int.ofNat i0))), (7, (AV.int .i64 (Int.ofNat z.2)))]) [0, 1, 2, 6, 7] (fun _ => rfl) (fun (z : List Int × Nat) (h' : Hp) => h' = hS .u64 z.1 ∧ z.2 < n ∧ z.1.length = n ∧ sink z.1 z.2 = res) (fun (z : List Int × Nat) => z.2) (fun (i : Nat) (z : List Int × Nat) (h' : Hp) => (i = 2) ∧ (i = 2 → h' = hS .u64 z.1 ∧ z.1 = res)) (fun (ls : List (Option AV)) (h' : Hp) => False) (fun ⟨L, j⟩ t h hi => ins_in_body hn hless hi) (L, j) h hi hN t ht
theorem ins_in_x {call : CallT} {N : Nat} {n i0 : Nat} {res : List Int} (hn : n ≤ 12) (hless : ∀ (x y : Int) (h : Hp), call 238 [.int .u64 x, .int .u64 y] h = .ok (.bool (ltI x y)) h) {L : List Int} {j : Nat} {h : Hp} (hi : h = hS .u64 L ∧ j < n ∧ L.length = n ∧ sink L j = res) (hN : j < N) {t : T} (ht : slots [0, 1, 2, 6, 7] t = [some (AV.slice 0 0 n n 1 false), some (AV.int .i64 (Int.ofNat 0)), some (AV.int .i64 (Int.ofNat n)), some (AV.int .i64 (Int.ofNat i0)), some (AV.int .i64 (Int.ofNat j))]) :
    ∃ (L1 : List Int) (j1 : Nat) (t' : T) (h' : Hp), evC call N (.loop ins_inC) t h = .exit 2 t' h' ∧ slots [0, 1, 2, 6, 7] t' = [some (AV.slice 0 0 n n 1 false), some (AV.int .i64 (Int.ofNat 0)), some (AV.int .i64 (Int.ofNat n)), some (AV.int .i64 (Int.ofNat i0)), some (AV.int .i64 (Int.ofNat j1))] ∧ (h' = hS .u64 L1 ∧ L1 = res) := by
  rcases ins_in hn hless hi hN ht with ⟨i, y, t', h', q, w, e⟩ | ⟨t', h', q, e⟩
  · obtain ⟨e1, e2⟩ := e
    subst e1
    exact ⟨y.1, y.2, t', h', q, w, e2 rfl⟩
  · exact e.elim
noncomputable def ins_outC : AC := (.seq (.seq (.region [⟨(some 10), .q (.move (.tmp 6)), none⟩, ⟨(some 11), .q (.move (.tmp 2)), none⟩, ⟨(some 12), .q (.bin .lss (.tmp 10) (.tmp 11)), none⟩]) (.cond (.tmp 12) .skip (.exit 0))) (.seq (.block 1 (.seq (.region [⟨(some 15), .q (.move (.tmp 6)), none⟩, ⟨(some 7), .q (.move (.tmp 15)), none⟩]) (.block 2 (.loop (.seq (.seq (.drawn [⟨[(⟨(some 16), .q (.move (.tmp 7)), none⟩, 0), (⟨(some 17), .q (.move (.tmp 1)), none⟩, 0), (⟨(some 18), .q (.bin .gtr (.tmp 16) (.tmp 17)), none⟩, 0), (⟨(some 19), .q (.move (.tmp 18)), none⟩, 0), (⟨(some 20), .q (.move (.tmp 0)), (some (19, true))⟩, 0), (⟨(some 21), .q (.move (.tmp 7)), (some (19, true))⟩, 0), (⟨(some 22), .q (.idxAddrSl 1 (.tmp 20) (.tmp 21)), (some (19, true))⟩, 0), (⟨(some 23), .q (.loadS (.tmp 22)), (some (19, true))⟩, 0), (⟨(some 24), .q (.move (.tmp 0)), (some (19, true))⟩, 0), (⟨(some 25), .q (.move (.tmp 7)), (some (19, true))⟩, 0), (⟨(some 26), .q (.bin .sub (.tmp 25) (.const (AV.int .i64 (Int.ofNat 1)))), (some (19, true))⟩, 0), (⟨(some 27), .q (.idxAddrSl 1 (.tmp 24) (.tmp 26)), (some (19, true))⟩, 0), (⟨(some 28), .q (.loadS (.tmp 27)), (some (19, true))⟩, 0)], (some ⟨(some 29), .e (.call (.const (AV.func (.func 238) [] [])) [(.tmp 23), (.tmp 28)]), (some (19, true))⟩)⟩, ⟨[(⟨(some 30), .q (.pick (.tmp 19) (.tmp 29) (.const (AV.bool false))), none⟩, 1)], none⟩]) (.cond (.tmp 30) .skip (.exit 2))) (.seq (.block 3 (.drawn [⟨[(⟨(some 33), .q (.move (.tmp 0)), none⟩, 0), (⟨(some 34), .q (.move (.tmp 7)), none⟩, 0), (⟨(some 35), .q (.move (.tmp 0)), none⟩, 1), (⟨(some 36), .q (.move (.tmp 7)), none⟩, 1), (⟨(some 37), .q (.bin .sub (.tmp 36) (.const (AV.int .i64 (Int.ofNat 1)))), none⟩, 1), (⟨(some 38), .q (.move (.tmp 0)), none⟩, 0), (⟨(some 39), .q (.move (.tmp 7)), none⟩, 0), (⟨(some 40), .q (.bin .sub (.tmp 39) (.const (AV.int .i64 (Int.ofNat 1)))), none⟩, 0), (⟨(some 41), .q (.idxAddrSl 1 (.tmp 38) (.tmp 40)), none⟩, 0), (⟨(some 42), .q (.loadS (.tmp 41)), none⟩, 0), (⟨(some 43), .q (.move (.tmp 0)), none⟩, 0), (⟨(some 44), .q (.move (.tmp 7)), none⟩, 0), (⟨(some 45), .q (.idxAddrSl 1 (.tmp 43) (.tmp 44)), none⟩, 0), (⟨(some 46), .q (.loadS (.tmp 45)), none⟩, 0), (⟨(some 47), .q (.idxAddrSl 1 (.tmp 33) (.tmp 34)), none⟩, 0)], (some ⟨none, .e (.store 1 (.tmp 47) (.tmp 42)), none⟩)⟩, ⟨[(⟨(some 48), .q (.idxAddrSl 1 (.tmp 35) (.tmp 37)), none⟩, 1)], (some ⟨none, .e (.store 1 (.tmp 48) (.tmp 46)), none⟩)⟩, ⟨[], none⟩])) (.region [⟨(some 31), .q (.move (.tmp 7)), none⟩, ⟨(some 32), .q (.bin .sub (.tmp 31) (.const (AV.int .i64 (Int.ofNat 1)))), none⟩, ⟨(some 7), .q (.move (.tmp 32)), none⟩]))))))) (.region [⟨(some 13), .q (.move (.tmp 6)), none⟩, ⟨(some 14), .q (.bin .add (.tmp 13) (.const (AV.int .i64 (Int.ofNat 1)))), none⟩, ⟨(some 6), .q (.move (.tmp 14)), none⟩])))
theorem ins_out_body {call : CallT} {N : Nat} {t : T} {h : Hp} {n : Nat} {res : List Int} (hn : n ≤ 12) (hless : ∀ (x y : Int) (h : Hp), call 238 [.int .u64 x, .int .u64 y] h = .ok (.bool (ltI x y)) h) (hNN : 12 < N) {L : List Int} {i : Nat} (hi : (fun (z : List Int × Nat) (h' : Hp) => h' = hS .u64 z.1 ∧ 1 ≤ z.2 ∧ z.1.length = n ∧ outerL (n - z.2) z.2 z.1 = res) (L, i) h)
    : ∃ s, evC call N ins_outC (ovT [(0, (AV.slice 0 0 n n 1 false)), (1, (AV.int .i64 (Int.ofNat 0))), (2, (AV.int .i64 (Int.ofNat n))), (6, (AV.int .i64 (Int.ofNat i)))] t) h = s ∧ obsS [0, 1, 2, 6] (fun ls h' => ∃ y, ls = ((fun (z : List Int × Nat) => [(0, (AV.slice 0 0 n n 1 false)), (1, (AV.int .i64 (Int.ofNat 0))), (2, (AV.int .i64 (Int.ofNat n))), (6, (AV.int .i64 (Int.ofNat z.2)))]) y).map (fun p => some p.2) ∧ (fun (z : List Int × Nat) (h' : Hp) => h' = hS .u64 z.1 ∧ 1 ≤ z.2 ∧ z.1.length = n ∧ outerL (n - z.2) z.2 z.1 = res) y h' ∧ (fun (z : List Int × Nat) => (n - z.2)) y < (fun (z : List Int × Nat) => (n - z.2)) (L, i)) (fun i ls h' => ∃ y, ls = ((fun (z : List Int × Nat) => [(0, (AV.slice 0 0 n n 1 false)), (1, (AV.int .i64 (Int.ofNat 0))), (2, (AV.int .i64 (Int.ofNat n))), (6, (AV.int .i64 (Int.ofNat z.2)))]) y).map (fun p => some p.2) ∧ (fun (i : Nat) (z : List Int × Nat) (h' : Hp) => (i = 0) ∧ (i = 0 → h' = hS .u64 z.1 ∧ z.1 = res)) i y h') (fun ls h' => (fun (ls : List (Option AV)) (h' : Hp) => False) ls h') s := by
  have hi : h = hS .u64 L ∧ 1 ≤ i ∧ L.length = n ∧ outerL (n - i) i L = res := hi
  obtain ⟨rfl, hi1, hLn, hres⟩ := hi
  refine walk_ok (o := (.fork 2 (.lpx 2 (fun e2 => (.exit 2 (ovT [(0, (AV.slice 0 0 n n 1 false)), (1, (AV.int .i64 (Int.ofNat 0))), (2, (AV.int .i64 (Int.ofNat n))), (6, (AV.int .i64 (Int.ofNat i)))] e2.t) (hS .u64 (sink L i)))) (fun e2 => (.tell 1 (AV.int .i64 (Int.ofNat (i + 1))) .fin))) .fin)) (p := ((ltI (Int.ofNat i) (Int.ofNat n) = true → (∃ e2 : Ev, evC call N (.loop ins_inC) (ovT [(0, (AV.slice 0 0 n n 1 false)), (1, (AV.int .i64 (Int.ofNat 0))), (2, (AV.int .i64 (Int.ofNat n))), (6, (AV.int .i64 (Int.ofNat i))), (7, (AV.int .i64 (Int.ofNat i))), (10, (AV.int .i64 (Int.ofNat i))), (11, (AV.int .i64 (Int.ofNat n))), (12, (AV.bool true)), (15, (AV.int .i64 (Int.ofNat i)))] t) (hS .u64 L) = (.exit 2 (ovT [(0, (AV.slice 0 0 n n 1 false)), (1, (AV.int .i64 (Int.ofNat 0))), (2, (AV.int .i64 (Int.ofNat n))), (6, (AV.int .i64 (Int.ofNat i)))] e2.t) (hS .u64 (sink L i))) ∧ True ∧ (evQ (.bin .add (.const (AV.int .i64 (Int.ofNat i))) (.const (AV.int .i64 (Int.ofNat 1)))) .lf H0 = .ok (AV.int .i64 (Int.ofNat (i + 1))) ∧ ((fun ls h' => ∃ y, ls = ((fun (z : List Int × Nat) => [(0, (AV.slice 0 0 n n 1 false)), (1, (AV.int .i64 (Int.ofNat 0))), (2, (AV.int .i64 (Int.ofNat n))), (6, (AV.int .i64 (Int.ofNat z.2)))]) y).map (fun p => some p.2) ∧ (fun (z : List Int × Nat) (h' : Hp) => h' = hS .u64 z.1 ∧ 1 ≤ z.2 ∧ z.1.length = n ∧ outerL (n - z.2) z.2 z.1 = res) y h' ∧ (fun (z : List Int × Nat) => (n - z.2)) y < (fun (z : List Int × Nat) => (n - z.2)) (L, i)) : List (Option AV) → Hp → Prop) [some (AV.slice 0 0 n n 1 false), some (AV.int .i64 (Int.ofNat 0)), some (AV.int .i64 (Int.ofNat n)), some (AV.int .i64 (Int.ofNat (i + 1)))] (hS .u64 (sink L i))))) ∧ (ltI (Int.ofNat i) (Int.ofNat n) = false → ((fun i ls h' => ∃ y, ls = ((fun (z : List Int × Nat) => [(0, (AV.slice 0 0 n n 1 false)), (1, (AV.int .i64 (Int.ofNat 0))), (2, (AV.int .i64 (Int.ofNat n))), (6, (AV.int .i64 (Int.ofNat z.2)))]) y).map (fun p => some p.2) ∧ (fun (i : Nat) (z : List Int × Nat) (h' : Hp) => (i = 0) ∧ (i = 0 → h' = hS .u64 z.1 ∧ z.1 = res)) i y h') : Nat → List (Option AV) → Hp → Prop) 0 [some (AV.slice 0 0 n n 1 false), some (AV.int .i64 (Int.ofNat 0)), some (AV.int .i64 (Int.ofNat n)), some (AV.int .i64 (Int.ofNat i))] (hS .u64 L)))) (by kernel_rfl) ?_
  refine ⟨fun c1 => ?_, fun c1 => ?_⟩
  · have rc1 := c1
    replace c1 : i < n := ltI_t c1
    obtain ⟨L1, j1, t1, h1, q1, w1, x1⟩ := ins_in_x (N := N) (i0 := i) (res := sink L i) (L := L) (j := i) hn hless ⟨rfl, by omega, hLn, rfl⟩ (show i < N by omega) (t := ovT [(0, (AV.slice 0 0 n n 1 false)), (1, (AV.int .i64 (Int.ofNat 0))), (2, (AV.int .i64 (Int.ofNat n))), (6, (AV.int .i64 (Int.ofNat i))), (7, (AV.int .i64 (Int.ofNat i))), (10, (AV.int .i64 (Int.ofNat i))), (11, (AV.int .i64 (Int.ofNat n))), (12, (AV.bool true)), (15, (AV.int .i64 (Int.ofNat i)))] t) (by kernel_rfl)
    obtain ⟨rfl, rfl⟩ := x1
    have w1 : [tget (pathOf 0) t1, tget (pathOf 1) t1, tget (pathOf 2) t1, tget (pathOf 6) t1, tget (pathOf 7) t1] = _ := w1
    simp only [List.cons.injEq] at w1
    obtain ⟨g0, g1, g2, g6, -⟩ := w1
    refine ⟨(⟨.nilPtr, t1, H0⟩ : Ev), (by rw [q1]; exact congrArg (fun t => RS.exit 2 t _) (ovT_eq (l := [(0, (AV.slice 0 0 n n 1 false)), (1, (AV.int .i64 (Int.ofNat 0))), (2, (AV.int .i64 (Int.ofNat n))), (6, (AV.int .i64 (Int.ofNat i)))]) (by show [tget (pathOf 0) t1, tget (pathOf 1) t1, tget (pathOf 2) t1, tget (pathOf 6) t1] = _; rw [g0, g1, g2, g6]; rfl)).symm), trivial, ?_⟩
    refine ⟨q_add (by omega), ?_⟩
    refine ⟨(sink L i, i + 1), rfl, ⟨rfl, by dsimp only; omega, by dsimp only; rw [sink_len]; exact hLn, ?_⟩, by dsimp only; omega⟩
    dsimp only
    rw [show n - i = (n - (i + 1)) + 1 by omega, outerL] at hres
    exact hres
  · have rc1 := c1
    replace c1 : n ≤ i := ltI_f c1
    refine ⟨(L, i), rfl, rfl, fun _ => ⟨rfl, ?_⟩⟩
    rw [show n - i = 0 by omega] at hres
    exact hres
theorem ins_out {call : CallT} {N : Nat} {n : Nat} {res : List Int} (hn : n ≤ 12) (hless : ∀ (x y : Int) (h : Hp), call 238 [.int .u64 x, .int .u64 y] h = .ok (.bool (ltI x y)) h) (hNN : 12 < N) {L : List Int} {i : Nat} {h : Hp} (hi : (fun (z : List Int × Nat) (h' : Hp) => h' = hS .u64 z.1 ∧ 1 ≤ z.2 ∧ z.1.length = n ∧ outerL (n - z.2) z.2 z.1 = res) (L, i) h) (hN : (n - i) < N) {t : T} (ht : Has ((fun (z : List Int × Nat) => [(0, (AV.slice 0 0 n n 1 false)), (1, (AV.int .i64 (Int.ofNat 0))), (2, (AV.int .i64 (Int.ofNat n))), (6, (AV.int .i64 (Int.ofNat z.2)))]) (L, i)) t) :
    (∃ i y t' h', evC call N (.loop ins_outC) t h = .exit i t' h' ∧ Has ((fun (z : List Int × Nat) => [(0, (AV.slice 0 0 n n 1 false)), (1, (AV.int .i64 (Int.ofNat 0))), (2, (AV.int .i64 (Int.ofNat n))), (6, (AV.int .i64 (Int.ofNat z.2)))]) y) t' ∧ (fun (i : Nat) (z : List Int × Nat) (h' : Hp) => (i = 0) ∧ (i = 0 → h' = hS .u64 z.1 ∧ z.1 = res)) i y h') ∨ (∃ t' h', evC call N (.loop ins_outC) t h = .ret t' h' ∧ (fun (ls : List (Option AV)) (h' : Hp) => False) (slots [0, 1, 2, 6] t') h') :=
  loop_st (fun (z : List Int × Nat) => [(0, (AV.slice 0 0 n n 1 false)), (1, (AV.int .i64 (Int.ofNat 0))), (2, (AV.int .i64 (Int.ofNat n))), (6, (AV.int .i64 (Int.ofNat z.2)))]) [0, 1, 2, 6] (fun _ => rfl) (fun (z : List Int × Nat) (h' : Hp) => h' = hS .u64 z.1 ∧ 1 ≤ z.2 ∧ z.1.length = n ∧ outerL (n - z.2) z.2 z.1 = res) (fun (z : List Int × Nat) => (n - z.2)) (fun (i : Nat) (z : List Int × Nat) (h' : Hp) => (i = 0) ∧ (i = 0 → h' = hS .u64 z.1 ∧ z.1 = res)) (fun (ls : List (Option AV)) (h' : Hp) => False) (fun ⟨L, i⟩ t h hi => ins_out_body hn hless hNN hi) (L, i) h hi hN t ht
theorem ins_out_x {call : CallT} {N : Nat} {n : Nat} {res : List Int} (hn : n ≤ 12) (hless : ∀ (x y : Int) (h : Hp), call 238 [.int .u64 x, .int .u64 y] h = .ok (.bool (ltI x y)) h) (hNN : 12 < N) {L : List Int} {i : Nat} {h : Hp} (hi : h = hS .u64 L ∧ 1 ≤ i ∧ L.length = n ∧ outerL (n - i) i L = res) (hN : (n - i) < N) {t : T} (ht : slots [0, 1, 2, 6] t = [some (AV.slice 0 0 n n 1 false), some (AV.int .i64 (Int.ofNat 0)), some (AV.int .i64 (Int.ofNat n)), some (AV.int .i64 (Int.ofNat i))]) :
    ∃ (L1 : List Int) (i1 : Nat) (t' : T) (h' : Hp), evC call N (.loop ins_outC) t h = .exit 0 t' h' ∧ slots [0, 1, 2, 6] t' = [some (AV.slice 0 0 n n 1 false), some (AV.int .i64 (Int.ofNat 0)), some (AV.int .i64 (Int.ofNat n)), some (AV.int .i64 (Int.ofNat i1))] ∧ (h' = hS .u64 L1 ∧ L1 = res) := by
  rcases ins_out hn hless hNN hi hN ht with ⟨i, y, t', h', q, w, e⟩ | ⟨t', h', q, e⟩
  · obtain ⟨e1, e2⟩ := e
    subst e1
    exact ⟨y.1, y.2, t', h', q, w, e2 rfl⟩
  · exact e.elim
theorem ins_walk {call : CallT} {N : Nat} {h : Hp} {n : Nat} {L : List Int} (hn : n ≤ 12) (hLn : L.length = n) (hless : ∀ (x y : Int) (h : Hp), call 238 [.int .u64 x, .int .u64 y] h = .ok (.bool (ltI x y)) h) (hNN : 12 < N)
    : ∃ rv rh, evF1 (progS Tryz.prog (compDrawn Tryz.prog)) N call 232 [(AV.slice 0 0 n n 1 false), (AV.int .i64 (Int.ofNat 0)), (AV.int .i64 (Int.ofNat n))] (hS .u64 L) = .ok rv rh ∧ (fun (v : AV) (h' : Hp) => v = .tuple [] ∧ h' = hS .u64 (isort L)) rv rh := by
  refine fwalk_ok (o := (.lpx 3 (fun e1 => (.exit 0 e1.t (hS .u64 (isort L)))) (fun e1 => .fin))) (p := (∃ e1 : Ev, evC call N (.loop ins_outC) (ovT [(0, (AV.slice 0 0 n n 1 false)), (1, (AV.int .i64 (Int.ofNat 0))), (2, (AV.int .i64 (Int.ofNat n))), (6, (AV.int .i64 (Int.ofNat 1))), (8, (AV.int .i64 (Int.ofNat 0))), (9, (AV.int .i64 (Int.ofNat 1)))] .lf) (hS .u64 L) = (.exit 0 e1.t (hS .u64 (isort L))) ∧ True ∧ (fun (v : AV) (h' : Hp) => v = .tuple [] ∧ h' = hS .u64 (isort L)) (AV.tuple []) (hS .u64 (isort L)))) (by kernel_rfl) ?_
  obtain ⟨L1, j1, t1, h1, q1, w1, x1⟩ := ins_out_x (N := N) (res := isort L) (L := L) (i := 1) hn hless hNN ⟨rfl, Nat.le_refl _, hLn, by rw [isort, hLn]⟩ (show n - 1 < N by omega) (t := ovT [(0, (AV.slice 0 0 n n 1 false)), (1, (AV.int .i64 (Int.ofNat 0))), (2, (AV.int .i64 (Int.ofNat n))), (6, (AV.int .i64 (Int.ofNat 1))), (8, (AV.int .i64 (Int.ofNat 0))), (9, (AV.int .i64 (Int.ofNat 1)))] .lf) (by kernel_rfl)
  obtain ⟨rfl, rfl⟩ := x1
  refine ⟨(⟨.nilPtr, t1, H0⟩ : Ev), q1, trivial, ?_⟩
  exact ⟨rfl, rfl⟩
theorem pdq_walk {call : CallT} {N : Nat} {h : Hp} {n : Nat} {L : List Int} {lim : Int} (hn : n ≤ 12) (hins : call 232 [AV.slice 0 0 n n 1 false, .int .i64 (.ofNat 0), .int .i64 (.ofNat n)] (hS .u64 L) = .ok (.tuple []) (hS .u64 (isort L)))
    : ∃ rv rh, evF1 (progS Tryz.prog (compDrawn Tryz.prog)) (N + 1) call 174 [(AV.slice 0 0 n n 1 false), (AV.int .i64 (Int.ofNat 0)), (AV.int .i64 (Int.ofNat n)), (AV.int .i64 lim)] (hS .u64 L) = .ok rv rh ∧ (fun (v : AV) (h' : Hp) => v = .tuple [] ∧ h' = hS .u64 (isort L)) rv rh := by
  refine fwalk_ok (o := (.tell 5 (AV.int .i64 (Int.ofNat (n - 0))) (.tell 2 (AV.bool true) (.eff 3 (AV.tuple []) (hS .u64 (isort L)) .fin)))) (p := (evQ (.bin .sub (.const (AV.int .i64 (Int.ofNat n))) (.const (AV.int .i64 (Int.ofNat 0)))) .lf H0 = .ok (AV.int .i64 (Int.ofNat (n - 0))) ∧ (evQ (.bin .leq (.const (AV.int .i64 (Int.ofNat (n - 0)))) (.const (AV.int .i64 (Int.ofNat 12)))) .lf H0 = .ok (AV.bool true) ∧ (call 232 [(AV.slice 0 0 n n 1 false), (AV.int .i64 (Int.ofNat 0)), (AV.int .i64 (Int.ofNat n))] (hS .u64 L) = .ok (AV.tuple []) (hS .u64 (isort L)) ∧ (fun (v : AV) (h' : Hp) => v = .tuple [] ∧ h' = hS .u64 (isort L)) (AV.tuple []) (hS .u64 (isort L)))))) (by kernel_rfl) ?_
  refine ⟨q_sub (by omega) (by omega), ?_⟩
  refine ⟨congrArg (fun z => OV.ok (AV.bool (notB z))) (ltI_false (a := 12) (b := n - 0) (by omega)), ?_⟩
  refine ⟨hins, ?_⟩
  exact ⟨rfl, rfl⟩
def bitN (m : Nat) : Int := if m = 0 then 0 else if m < 2 then 1 else if m < 4 then 2 else if m < 8 then 3 else 4
theorem sort_walk {call : CallT} {N : Nat} {h : Hp} {n : Nat} {L : List Int} (hn : n ≤ 12) (hbits : ∀ (m : Nat) (h : Hp), m ≤ 12 → call 175 [.int .u64 (.ofNat m)] h = .ok (.int .i64 (bitN m)) h) (hpdq : ∀ lim : Int, call 174 [AV.slice 0 0 n n 1 false, .int .i64 (.ofNat 0), .int .i64 (.ofNat n), .int .i64 lim] (hS .u64 L) = .ok (.tuple []) (hS .u64 (isort L)))
    : ∃ rv rh, evF1 (progS Tryz.prog (compDrawn Tryz.prog)) N call 133 [(AV.slice 0 0 n n 1 false)] (hS .u64 L) = .ok rv rh ∧ (fun (v : AV) (h' : Hp) => v = .tuple [] ∧ h' = hS .u64 (isort L)) rv rh := by
  refine fwalk_ok (o := (.tell 6 (AV.int .u64 (Int.ofNat (n % 18446744073709551616))) (.eff 0 (AV.int .i64 (bitN (n % 18446744073709551616))) (hS .u64 L) (.eff 0 (AV.tuple []) (hS .u64 (isort L)) .fin)))) (p := (evQ (.toInt .u64 (.const (AV.int .i64 (Int.ofNat n)))) .lf H0 = .ok (AV.int .u64 (Int.ofNat (n % 18446744073709551616))) ∧ (call 175 [(AV.int .u64 (Int.ofNat (n % 18446744073709551616)))] (hS .u64 L) = .ok (AV.int .i64 (bitN (n % 18446744073709551616))) (hS .u64 L) ∧ (call 174 [(AV.slice 0 0 n n 1 false), (AV.int .i64 (Int.ofNat 0)), (AV.int .i64 (Int.ofNat n)), (AV.int .i64 (bitN (n % 18446744073709551616)))] (hS .u64 L) = .ok (AV.tuple []) (hS .u64 (isort L)) ∧ (fun (v : AV) (h' : Hp) => v = .tuple [] ∧ h' = hS .u64 (isort L)) (AV.tuple []) (hS .u64 (isort L)))))) (by kernel_rfl) ?_
  refine ⟨u_conv rfl, ?_⟩
  have g1 : n % 18446744073709551616 < 18446744073709551616 := Nat.mod_lt _ (by decide)
  refine ⟨hbits _ _ (by omega), ?_⟩
  refine ⟨hpdq _, ?_⟩
  exact ⟨rfl, rfl⟩
theorem less_walk {call : CallT} {N : Nat} {h : Hp} {x y : Int} (hnan : ∀ (x : Int) (h : Hp), call 328 [.int .u64 x] h = .ok (.bool false) h)
    : ∃ rv rh, evF1 (progS Tryz.prog (compDrawn Tryz.prog)) N call 238 [(AV.int .u64 x), (AV.int .u64 y)] h = .ok rv rh ∧ (fun (v : AV) (h' : Hp) => h' = h ∧ v = .bool (ltI x y)) rv rh := by
  refine fwalk_ok (o := (.eff 2 (AV.bool false) h .fin)) (p := (call 328 [(AV.int .u64 x)] h = .ok (AV.bool false) h ∧ (fun (v : AV) (h' : Hp) => h' = h ∧ v = .bool (ltI x y)) (AV.bool (ltI x y)) h)) (by kernel_rfl) ?_
  refine ⟨hnan _ _, ?_⟩
  exact ⟨rfl, rfl⟩
theorem s_nan (d : Nat) (x : Int) (h : Hp) : CC0 (d + 1) 328 [.int .u64 x] h = .ok (.bool false) h := by
  rw [CC0, evF_at rfl]
  refine (show evF1 (progS Tryz.prog (compDrawn Tryz.prog)) 100000 _ 328 [.int .u64 x] h = .ok (.bool (notB (eqI x x))) h by kernel_rfl).trans ?_
  rw [show eqI x x = true from eqI_self x]; rfl
theorem s_less (d : Nat) (x y : Int) (h : Hp) : CC0 (d + 2) 238 [.int .u64 x, .int .u64 y] h = .ok (.bool (ltI x y)) h := by
  rw [CC0, evF_at rfl]
  obtain ⟨rv, rh, e, rfl, rfl⟩ := less_walk (call := CC0 (d + 1)) (N := 100000) (x := x) (y := y) (h := h) (s_nan d)
  exact e
theorem bits_0 (d : Nat) (h : Hp) : CC0 (d + 4) 175 [.int .u64 (.ofNat 0)] h = .ok (.int .i64 0) h := by kernel_rfl
theorem bits_1 (d : Nat) (h : Hp) : CC0 (d + 4) 175 [.int .u64 (.ofNat 1)] h = .ok (.int .i64 1) h := by kernel_rfl
theorem bits_2 (d : Nat) (h : Hp) : CC0 (d + 4) 175 [.int .u64 (.ofNat 2)] h = .ok (.int .i64 2) h := by kernel_rfl
theorem bits_3 (d : Nat) (h : Hp) : CC0 (d + 4) 175 [.int .u64 (.ofNat 3)] h = .ok (.int .i64 2) h := by kernel_rfl
theorem bits_4 (d : Nat) (h : Hp) : CC0 (d + 4) 175 [.int .u64 (.ofNat 4)] h = .ok (.int .i64 3) h := by kernel_rfl
theorem bits_5 (d : Nat) (h : Hp) : CC0 (d + 4) 175 [.int .u64 (.ofNat 5)] h = .ok (.int .i64 3) h := by kernel_rfl
theorem bits_6 (d : Nat) (h : Hp) : CC0 (d + 4) 175 [.int .u64 (.ofNat 6)] h = .ok (.int .i64 3) h := by kernel_rfl
theorem bits_7 (d : Nat) (h : Hp) : CC0 (d + 4) 175 [.int .u64 (.ofNat 7)] h = .ok (.int .i64 3) h := by kernel_rfl
theorem bits_8 (d : Nat) (h : Hp) : CC0 (d + 4) 175 [.int .u64 (.ofNat 8)] h = .ok (.int .i64 4) h := by kernel_rfl
theorem bits_9 (d : Nat) (h : Hp) : CC0 (d + 4) 175 [.int .u64 (.ofNat 9)] h = .ok (.int .i64 4) h := by kernel_rfl
theorem bits_10 (d : Nat) (h : Hp) : CC0 (d + 4) 175 [.int .u64 (.ofNat 10)] h = .ok (.int .i64 4) h := by kernel_rfl
theorem bits_11 (d : Nat) (h : Hp) : CC0 (d + 4) 175 [.int .u64 (.ofNat 11)] h = .ok (.int .i64 4) h := by kernel_rfl
theorem bits_12 (d : Nat) (h : Hp) : CC0 (d + 4) 175 [.int .u64 (.ofNat 12)] h = .ok (.int .i64 4) h := by kernel_rfl
theorem s_bits (d m : Nat) (h : Hp) (hm : m ≤ 12) : CC0 (d + 4) 175 [.int .u64 (.ofNat m)] h = .ok (.int .i64 (bitN m)) h := by
  have : m = 0 ∨ m = 1 ∨ m = 2 ∨ m = 3 ∨ m = 4 ∨ m = 5 ∨ m = 6 ∨ m = 7 ∨ m = 8 ∨ m = 9 ∨ m = 10 ∨ m = 11 ∨ m = 12 := by omega
  rcases this with rfl | rfl | rfl | rfl | rfl | rfl | rfl | rfl | rfl | rfl | rfl | rfl | rfl
  · exact bits_0 d h
  · exact bits_1 d h
  · exact bits_2 d h
  · exact bits_3 d h
  · exact bits_4 d h
  · exact bits_5 d h
  · exact bits_6 d h
  · exact bits_7 d h
  · exact bits_8 d h
  · exact bits_9 d h
  · exact bits_10 d h
  · exact bits_11 d h
  · exact bits_12 d h
theorem s_sort {n : Nat} {L : List Int} (hn : n ≤ 12) (hLn : L.length = n) : CC0 8 133 [AV.slice 0 0 n n 1 false] (hS .u64 L) = .ok (.tuple []) (hS .u64 (isort L)) := by
  rw [CC0, evF_at rfl]
  obtain ⟨rv, rh, e, rfl, rfl⟩ := sort_walk (call := CC0 7) (N := 100000) (h := H0) hn (s_bits 3) (fun lim => by
    rw [CC0, evF_at rfl]
    obtain ⟨rv, rh, e, rfl, rfl⟩ := pdq_walk (call := CC0 6) (N := 99999) (h := H0) (lim := lim) (L := L) hn (by
      rw [CC0, evF_at rfl]
      obtain ⟨rv, rh, e, rfl, rfl⟩ := ins_walk (call := CC0 5) (N := 100000) (h := H0) hn hLn (s_less 3) (by decide)
      exact e)
    exact e)
  exact e
theorem sort_row {L : List Int} {W : World} {g : Nat} {cur : Array Value} {el : TypeId} (hg : W.heap[g]? = some (.cells cur el (0, 0))) (ht : cur.toList.take L.length = L.map (Value.int .u64)) (hL : L.length ≤ cur.size) (hn : L.length ≤ 12) :
    Calls Tryz.prog 133 #[.slice (some ⟨g, 0, none⟩) L.length cur.size] W fun e W' => e = .returned (.tuple #[]) ∧ CallR (mpS g cur.size) (hS .u64 L) W (.tuple []) (hS .u64 (isort L)) e W' := by
  refine (evF_ok compDrawn_ok noM_ok 100000 8 133 [AV.slice 0 0 L.length L.length 1 false] (hS .u64 L) _ _ (mpS g cur.size) W _ (s_sort hn rfl) (sim_row hg ht hL) ?_).2.mono fun e W' r => ⟨?_, r⟩
  · rw [VRs_cons]
    refine ⟨_, _, rfl, ?_, by rw [VRs_nil]⟩
    unfold VR
    exact ⟨g, 0, ⟨g, 0, none⟩, cur.size, rfl, rfl, Nat.le_refl _, hL, (fun h => by cases h), fun _ => ⟨rfl, by show 0 + 0 + cur.size * 1 ≤ cur.size; omega⟩⟩
  · obtain ⟨μ', y, rfl, ry, _⟩ := r
    unfold VR at ry
    obtain ⟨l, rfl, hl⟩ := ry
    rw [VRs_nil] at hl
    obtain rfl : l = #[] := Array.toList_eq_nil_iff.1 hl
    rfl
theorem sort_nil (W : World) : Calls Tryz.prog 133 #[.slice none 0 0] W fun e W' => e = .returned (.tuple #[]) ∧ Below W.heap.size W W' := by
  refine (evF_ok compDrawn_ok noM_ok 100000 8 133 [.nilSlice] H0 (.tuple []) H0 Mp.none W _ (by kernel_rfl) (.none W) ?_).2.mono fun e W' r => ?_
  · rw [VRs_cons]
    exact ⟨_, _, rfl, by unfold VR; rfl, by rw [VRs_nil]⟩
  · obtain ⟨μ', y, rfl, ry, _, gs⟩ := r
    unfold VR at ry
    obtain ⟨l, rfl, hl⟩ := ry
    rw [VRs_nil] at hl
    obtain rfl : l = #[] := Array.toList_eq_nil_iff.1 hl
    exact ⟨rfl, gs.below⟩
set_option maxRecDepth 100000 in
set_option maxHeartbeats 2000000 in
theorem sorted_in (g : Nat) (lb : Array Value) (eg : ∀ args w, (callFunc g args).run Tryz.prog w = .ok (.enter g args) w) (K : List Int) (hK : K.length ≤ 12) (w : World) (hseq : SeqGives Fence.wide 3 Tryz.prog g lb (enQ .u64) (fun ss => ss.Perm K) K.length w) :
    Calls Tryz.prog 95 #[.func (.func g) #[] lb] w fun e w' => Below w.heap.size w w' ∧ ((e = .returned (.slice none 0 0) ∧ K = []) ∨ ∃ gb cap arr el fr, e = .returned (.slice (some ⟨gb, 0, none⟩) K.length cap) ∧ K ≠ [] ∧ w.heap.size ≤ gb ∧ w'.heap[gb]? = some (.cells arr el fr) ∧ arr.size = cap ∧ Unmarked arr.size fr ∧ (∀ (i : Nat) (z : Int), (isort K)[i]? = some z → arr[i]? = some (.int .u64 z)) ∧ K.length ≤ cap) := by
  refine (callsIn_wide (n := 6)).1 ?_
  have hfC : Fence.wide.fn 132 := trivial
  have hfS : Fence.wide.fn 133 := trivial
  have cS := collect_in Fence.wide 5 trivial trivial rfl (by omega) g lb trivial eg _ K.length (Nat.le_trans hK (by decide)) (by omega) w hseq
  refine callsIn_of_wp Tryz.func95 rfl trivial ?_ rfl
  simp only [Tryz.ntmps95, List.size_toArray, List.length_cons, List.length_nil, Nat.reduceAdd, Nat.reduceSub, Array.replicate_succ, Array.replicate_zero, List.push_toArray, List.append_toArray, List.nil_append, List.cons_append]
  gi_wp2_with (gi_at_call 132; refine cS.mono ?_; rintro e W ⟨v, ss, rfl, hS, hrow, hnil, hb⟩)
  rcases hrow.2 with ⟨rfl, hz⟩ | ⟨gb, cap, cur, rfl, hbase, hgb, r1, r2, r3, r4⟩
  · have hss : ss = [] := List.eq_nil_of_length_eq_zero hz
    subst hss
    have hKn : K = [] := by have := hS.length_eq; exact List.eq_nil_of_length_eq_zero this.symm
    gi_wp2_with (gi_at_call 133; refine (callsIn_wide.2 (sort_nil W)).mono ?_; rintro e w' ⟨rfl, hb2⟩)
    go_ret
    exact ⟨hb.trans (hb2.mono hb.size), .inl ⟨rfl, hKn⟩⟩
  · have hlen : ss.length = K.length := hS.length_eq
    have hsz : cur.size = cap := by omega
    subst hsz
    clear r3
    have r5 : cur.toList.take ss.length = ss.map (Value.int .u64) := by rw [← Nat.mul_one ss.length]; exact r4
    have hKn : ss ≠ [] := fun e => by have h5 := hnil.2 e; cases h5
    gi_wp2_with (gi_at_call 133; refine (callsIn_wide.2 (sort_row hgb r5 (by omega) (by omega))).mono ?_; rintro e w' ⟨rfl, hr⟩; obtain ⟨arr, el, fr, h1, h2, h3, h4, h5⟩ := row_after (Array.getElem?_eq_some_iff.1 hgb).1 hr; clear hr cS hseq)
    go_ret
    refine ⟨hb.trans (h5 _ hbase), .inr ⟨gb, _, arr, el, fr, rfl, fun e => hKn (by rw [e] at hlen; exact List.eq_nil_of_length_eq_zero hlen), hbase, h1, h2, h3, ?_, by omega⟩⟩
    rw [← isort_of_perm hS]; exact h4
noncomputable def rowOf (l : List Int) (h : Hp) : RV := lcase (.ok .nilSlice h) (fun _ _ => .ok (.slice h.next 0 (len l) (len l) 1 false) (hpush h (mkCells (lmap (AV.int .u64) l) (len l)))) l
theorem row_call {g : Nat} {lb : Array Value} (eg : ∀ args w, (callFunc g args).run Tryz.prog w = .ok (.enter g args) w) {K l : List Int} (hp : K.Perm l) (hK : l.length ≤ 12) {μ : Mp} {h h' : Hp} {v : AV} {w : World} (hs : Sim μ h w) (hseq : SeqGives Fence.wide 3 Tryz.prog g lb (enQ .u64) (fun ss => ss.Perm K) K.length w) (e : rowOf (sortK l) h = .ok v h') :
    Calls Tryz.prog 95 #[.func (.func g) #[] lb] w (CallR μ h w v h') := by
  have hlen := hp.length_eq
  refine (sorted_in g lb eg K (by omega) w hseq).mono fun e' w' ⟨hb, hr⟩ => ?_
  have hKl : isort K = sortK l := by rw [isort_of_perm hp, isort_eq]
  have hsl : (sortK l).length = l.length := (sortK_perm l).length_eq
  rcases hr with ⟨rfl, hn⟩ | ⟨gb, cap, arr, el, fr, rfl, hn, hg, h1, h2, h3, h4, h5⟩
  · subst hn
    have h0 : sortK l = [] := List.eq_nil_of_length_eq_zero (by rw [hsl, ← hlen]; rfl)
    rw [h0] at e
    cases e
    exact told_nil hs hb
  · rw [hKl] at h4
    have hkl : K.length = (sortK l).length := by omega
    rw [hkl]
    rw [hkl] at h5
    cases hq : sortK l with
    | nil => rw [hq] at hkl; exact absurd (List.eq_nil_of_length_eq_zero hkl) hn
    | cons a t =>
      rw [hq] at e h4 h5
      have e : RV.ok (.slice h.next 0 (len (a :: t)) (len (a :: t)) 1 false) (hpush h (mkCells (lmap (AV.int .u64) (a :: t)) (len (a :: t)))) = .ok v h' := e
      rw [len_eq, lmap_eq] at e
      cases e
      exact told_row hs hb hg h1 h2 h3 h4 h5
noncomputable def keysM (args : List AV) (h : Hp) : RV := match args with
  | [.func (.func g) [] [.ptr b o]] => bc (lall (fun k => notB (Nat.beq k g)) [134, 357]) .no ((rd h b o).cs .no fun m => m.asMap .no .no fun mb => hmap h mb .no fun es n ck => ocase .no (fun l => rowOf (sortK l) h) (keysOf .u64 es n ck))
  | _ => .no
noncomputable def sumK (f : Nat) : Option (List AV → Hp → RV) := bc (Nat.beq f 95) (some keysM) none
theorem keys_call_134 {μ : Mp} {h h' : Hp} {v m : AV} {w : World} {b o c s : Nat} (hs : Sim μ h w) (hat : μ.at_ b = some (c, s)) (hr : rd h b o = .ok m) (e : (m.asMap RV.no .no fun mb => hmap h mb .no fun es n ck => ocase .no (fun l => rowOf (sortK l) h) (keysOf .u64 es n ck)) = .ok v h') :
    Calls Tryz.prog 95 #[.func (.func 134) #[] #[.pointer (some ⟨c, s + o, none⟩)]] w (CallR μ h w v h') := by
  rcases asMap_inv e nofun with ⟨rfl, e1⟩ | ⟨mb, rfl, e1⟩
  · cases e1
  · obtain ⟨es, n, ck, hm, e2⟩ := hmap_inv e1 nofun
    obtain ⟨l, hk, e3⟩ := ocase_inv e2 nofun
    obtain ⟨x, hx, hv, _⟩ := rd_ok hs hat hr
    unfold VR at hv
    obtain ⟨cm, sm, hatm, rfl⟩ := hv
    obtain ⟨D0, hown, hp, hz, h12⟩ := owns_blk (P := Tryz.prog) (k := 31) Tryz.underlying31 (hs.blk mb cm sm _ hatm hm) hk
    have hseq := gives_134 Fence.wide 3 trivial rfl (by decide) c (s + o) cm n D0 _ w (hs.old b c s hat) hx hown
    rw [show Maps.size D0 = (keysD D0).length by rw [hz, hp.length_eq]] at hseq
    exact row_call (enters_of Tryz.func134 (by kernel_rfl) rfl) hp h12 hs hseq e3
theorem keys_call_357 {μ : Mp} {h h' : Hp} {v m : AV} {w : World} {b o c s : Nat} (hs : Sim μ h w) (hat : μ.at_ b = some (c, s)) (hr : rd h b o = .ok m) (e : (m.asMap RV.no .no fun mb => hmap h mb .no fun es n ck => ocase .no (fun l => rowOf (sortK l) h) (keysOf .u64 es n ck)) = .ok v h') :
    Calls Tryz.prog 95 #[.func (.func 357) #[] #[.pointer (some ⟨c, s + o, none⟩)]] w (CallR μ h w v h') := by
  rcases asMap_inv e nofun with ⟨rfl, e1⟩ | ⟨mb, rfl, e1⟩
  · cases e1
  · obtain ⟨es, n, ck, hm, e2⟩ := hmap_inv e1 nofun
    obtain ⟨l, hk, e3⟩ := ocase_inv e2 nofun
    obtain ⟨x, hx, hv, _⟩ := rd_ok hs hat hr
    unfold VR at hv
    obtain ⟨cm, sm, hatm, rfl⟩ := hv
    obtain ⟨D0, hown, hp, hz, h12⟩ := owns_blk (P := Tryz.prog) (k := 31) Tryz.underlying31 (hs.blk mb cm sm _ hatm hm) hk
    have hseq := gives_357 Fence.wide 3 trivial rfl (by decide) c (s + o) cm n D0 _ w (hs.old b c s hat) hx hown
    rw [show Maps.size D0 = (keysD D0).length by rw [hz, hp.length_eq]] at hseq
    exact row_call (enters_of Tryz.func357 (by kernel_rfl) rfl) hp h12 hs hseq e3
theorem sumK_ok : Eng.Good Tryz.prog fun f args h => ocase .no (fun m => m args h) (sumK f) := fun f args h v h' μ w cargs e hs r => by
  replace e : ocase RV.no (fun m => m args h) (bc (Nat.beq f 95) (some keysM) none) = .ok v h' := e
  cases hf : Nat.beq f 95 with
  | false => rw [hf] at e; cases e
  | true =>
    obtain rfl : f = 95 := Nat.eq_of_beq_eq_true hf
    rw [hf] at e
    replace e : keysM args h = .ok v h' := e
    refine ⟨⟨_, _, Tryz.func95, by decide, rfl⟩, ?_⟩
    unfold keysM at e
    split at e
    · rename_i args g b o
      replace e := bc_inv' e
      obtain ⟨hg, e⟩ := e
      rw [VRs_cons] at r
      obtain ⟨x0, xs, hx, rx, rxs⟩ := r
      rw [VRs_nil] at rxs
      subst rxs
      unfold VR at rx
      obtain ⟨a', b', rfl, ra, rb⟩ := rx
      rw [VRs_nil] at ra
      obtain rfl : a' = #[] := Array.toList_eq_nil_iff.1 ra
      rw [VRs_cons] at rb
      obtain ⟨y0, ys, hy, ry, rys⟩ := rb
      rw [VRs_nil] at rys
      subst rys
      unfold VR at ry
      obtain ⟨c, s, hat, rfl⟩ := ry
      obtain rfl : cargs = #[.func (.func g) #[] b'] := by cases cargs; simp at hx; simp [hx]
      obtain rfl : b' = #[.pointer (some ⟨c, s + o, none⟩)] := by cases b'; simp at hy; simp [hy]
      cases hr : rd h b o with
      | no => rw [hr] at e; cases e
      | ok m =>
        rw [hr] at e
        have hin : g ∈ [134, 357] := by
          apply Classical.byContradiction
          intro hne
          have : lall (fun k => notB (Nat.beq k g)) [134, 357] = true := lall_iff.2 fun k hk => by
            rw [beqF (fun e => hne (by rw [← e]; exact hk))]; rfl
          rw [this] at hg; cases hg
        simp only [List.mem_cons, List.not_mem_nil, or_false] at hin
        rcases hin with rfl | rfl
        · exact keys_call_134 hs hat hr e
        · exact keys_call_357 hs hat hr e
    · cases e
end Go.Proofs.YtfcljjhlijolgaaGreatDoor
end
section
set_option linter.unusedVariables false
set_option linter.unusedSimpArgs false
namespace Eng
open Go Go.RowKit
def ren (ρ : Nat → Nat) (v : AV) : AV := match v with
  | .ptr b o => .ptr (ρ b) o
  | .slice b o l c s e => .slice (ρ b) o l c s e
  | v => v
def okV (k : Nat) (v : AV) : Bool := match v with
  | .bool _ => true
  | .int _ _ => true
  | .str _ => true
  | .nilPtr => true
  | .nilSlice => true
  | .nilMap => true
  | .nilFunc => true
  | .nilIface => true
  | .ptr b _ => Nat.blt b k
  | .slice b _ _ _ _ _ => Nat.blt b k
  | _ => false
noncomputable def renA (ρ : Nat → Nat) (v : AV) : AV := match v with
  | .agg l => .agg (lmap (ren ρ) l)
  | v => ren ρ v
noncomputable def okA (k : Nat) (v : AV) : Bool := match v with
  | .agg l => lall (okV k) l
  | v => okV k v
noncomputable def renT (ρ : Nat → Nat) (v : AV) : AV := match v with
  | .tuple l => .tuple (lmap (renA ρ) l)
  | v => renA ρ v
noncomputable def okT (k : Nat) (v : AV) : Bool := match v with
  | .tuple l => lall (okA k) l
  | v => okA k v
section
variable {μ1 μ2 : Mp} {σ ρ : Nat → Nat} {k : Nat}
def Alike (μ1 μ2 : Mp) (σ ρ : Nat → Nat) (k : Nat) : Prop := ∀ j, j < k → ∀ c s, μ1.at_ (σ j) = some (c, s) → μ2.at_ (ρ j) = some (c, s) ∧ μ2.size c = μ1.size c
theorem VR_ren (H : Alike μ1 μ2 σ ρ k) {v : AV} {x : Value} (o : okV k v = true) (r : VR μ1 (ren σ v) x) : VR μ2 (ren ρ v) x := by
  cases v with
  | ptr b o' =>
    have hb : b < k := Nat.le_of_ble_eq_true o
    have r : VR μ1 (.ptr (σ b) o') x := r
    show VR μ2 (.ptr (ρ b) o') x
    rw [VR_ptr] at r ⊢
    obtain ⟨c, s, h1, h2⟩ := r
    exact ⟨c, s, (H b hb c s h1).1, h2⟩
  | slice b o' l cp sz ex =>
    have hb : b < k := Nat.le_of_ble_eq_true o
    have r : VR μ1 (.slice (σ b) o' l cp sz ex) x := r
    show VR μ2 (.slice (ρ b) o' l cp sz ex) x
    rw [VR_slice] at r ⊢
    obtain ⟨c, s, s', cp', h1, h2, h3, h4, h5, h6⟩ := r
    exact ⟨c, s, s', cp', (H b hb c s h1).1, h2, h3, h4, h5, by rw [(H b hb c s h1).2]; exact h6⟩
  | bool => rw [show ren σ (.bool _) = .bool _ from rfl, VR_bool] at r; rw [show ren ρ (.bool _) = .bool _ from rfl, VR_bool]; exact r
  | int => rw [show ren σ (.int _ _) = .int _ _ from rfl, VR_int] at r; rw [show ren ρ (.int _ _) = .int _ _ from rfl, VR_int]; exact r
  | str => rw [show ren σ (.str _) = .str _ from rfl, VR_str] at r; rw [show ren ρ (.str _) = .str _ from rfl, VR_str]; exact r
  | nilPtr => rw [show ren σ .nilPtr = .nilPtr from rfl, VR_nilPtr] at r; rw [show ren ρ .nilPtr = .nilPtr from rfl, VR_nilPtr]; exact r
  | nilSlice => rw [show ren σ .nilSlice = .nilSlice from rfl, VR_nilSlice] at r; rw [show ren ρ .nilSlice = .nilSlice from rfl, VR_nilSlice]; exact r
  | nilMap => rw [show ren σ .nilMap = .nilMap from rfl, VR_nilMap] at r; rw [show ren ρ .nilMap = .nilMap from rfl, VR_nilMap]; exact r
  | nilFunc => rw [show ren σ .nilFunc = .nilFunc from rfl, VR_nilFunc] at r; rw [show ren ρ .nilFunc = .nilFunc from rfl, VR_nilFunc]; exact r
  | nilIface => rw [show ren σ .nilIface = .nilIface from rfl, VR_nilIface] at r; rw [show ren ρ .nilIface = .nilIface from rfl, VR_nilIface]; exact r
  | _ => cases o
theorem VRs_map (f g : AV → AV) (ok : AV → Bool) (hf : ∀ v x, ok v = true → VR μ1 (f v) x → VR μ2 (g v) x) : ∀ (l : List AV) (xs : List Value), lall ok l = true → VRs μ1 (lmap f l) xs → VRs μ2 (lmap g l) xs
  | [], xs, _, r => by
    have r : VRs μ1 [] xs := r
    show VRs μ2 [] xs
    rw [VRs_nil] at r ⊢; exact r
  | v :: l, xs, o, r => by
    have r : VRs μ1 (f v :: lmap f l) xs := r
    show VRs μ2 (g v :: lmap g l) xs
    rw [VRs_cons] at r ⊢
    obtain ⟨x, ys, h1, h2, h3⟩ := r
    have o' := lall_iff.1 o
    exact ⟨x, ys, h1, hf v x (o' v (by simp)) h2, VRs_map f g ok hf l ys (lall_iff.2 fun a ha => o' a (by simp [ha])) h3⟩
theorem okA_cases {v : AV} (o : okA k v = true) : (∃ l, v = .agg l ∧ lall (okV k) l = true) ∨ (okV k v = true ∧ renA σ v = ren σ v ∧ renA ρ v = ren ρ v) := by
  cases v <;> first | exact .inr ⟨o, rfl, rfl⟩ | exact .inl ⟨_, rfl, o⟩
theorem okT_cases {v : AV} (o : okT k v = true) : (∃ l, v = .tuple l ∧ lall (okA k) l = true) ∨ (okA k v = true ∧ renT σ v = renA σ v ∧ renT ρ v = renA ρ v) := by
  cases v <;> first | exact .inr ⟨o, rfl, rfl⟩ | exact .inl ⟨_, rfl, o⟩
theorem VR_renA (H : Alike μ1 μ2 σ ρ k) {v : AV} {x : Value} (o : okA k v = true) (r : VR μ1 (renA σ v) x) : VR μ2 (renA ρ v) x := by
  rcases okA_cases (σ := σ) (ρ := ρ) o with ⟨l, rfl, o⟩ | ⟨o, e1, e2⟩
  · have r : VR μ1 (.agg (lmap (ren σ) l)) x := r
    show VR μ2 (.agg (lmap (ren ρ) l)) x
    rw [VR_agg] at r ⊢
    obtain ⟨l', h1, h2⟩ := r
    exact ⟨l', h1, VRs_map _ _ (okV k) (fun v x => VR_ren H) l _ o h2⟩
  · rw [e1] at r; rw [e2]; exact VR_ren H o r
theorem VR_renT (H : Alike μ1 μ2 σ ρ k) {v : AV} {x : Value} (o : okT k v = true) (r : VR μ1 (renT σ v) x) : VR μ2 (renT ρ v) x := by
  rcases okT_cases (σ := σ) (ρ := ρ) o with ⟨l, rfl, o⟩ | ⟨o, e1, e2⟩
  · have r : VR μ1 (.tuple (lmap (renA σ) l)) x := r
    show VR μ2 (.tuple (lmap (renA ρ) l)) x
    rw [VR_tuple] at r ⊢
    obtain ⟨l', h1, h2⟩ := r
    exact ⟨l', h1, VRs_map _ _ (okA k) (fun v x => VR_renA H) l _ o h2⟩
  · rw [e1] at r; rw [e2]; exact VR_renA H o r
theorem isCell_ren {v : AV} (o : okV k v = true) : isCell (ren ρ v) = true := by
  cases v <;> first | rfl | cases o
end
noncomputable def loc (srcs : List Nat) (j : Nat) : Nat := ocase 0 (fun x => x) (nth? srcs j)
noncomputable def pushes (n0 : Nat) (L : List (List AV)) : Hp → Hp := lrec (fun h => h) (fun cs _ ih h => ih (hpush h (mkCells (lmap (ren (Nat.add n0)) cs) (len cs)))) L
theorem pushes_cons (n0 : Nat) (cs : List AV) (L : List (List AV)) (h : Hp) : pushes n0 (cs :: L) h = pushes n0 L (hpush h (mkCells (lmap (ren (Nat.add n0)) cs) (len cs))) := rfl
theorem pushes_next (n0 : Nat) : ∀ (L : List (List AV)) (h : Hp), (pushes n0 L h).next = h.next + L.length
  | [], h => rfl
  | cs :: L, h => by rw [pushes_cons, pushes_next n0 L, hpush_next, List.length_cons]; omega
theorem pushes_get (n0 : Nat) : ∀ (L : List (List AV)) (h : Hp) (b : Nat), hget (pushes n0 L h) b = if h.next ≤ b then (match L[b - h.next]? with | some cs => some (mkCells (lmap (ren (Nat.add n0)) cs) (len cs)) | none => hget h b) else hget h b
  | [], h, b => by simp; rfl
  | cs :: L, h, b => by
    rw [pushes_cons, pushes_get n0 L, hpush_next]
    rcases Nat.lt_trichotomy b h.next with hb | rfl | hb
    · rw [if_neg (by omega), if_neg (by omega), hget_hpush_ne _ _ (by omega)]
    · rw [if_neg (by omega), if_pos (Nat.le_refl _), hget_hpush, Nat.sub_self]; rfl
    · rw [if_pos (by omega), if_pos (by omega), hget_hpush_ne _ _ (by omega)]
      obtain ⟨d, rfl⟩ : ∃ d, b = h.next + 1 + d := ⟨b - (h.next + 1), by omega⟩
      rw [show h.next + 1 + d - (h.next + 1) = d by omega, show h.next + 1 + d - h.next = d + 1 by omega, List.getElem?_cons_succ]
theorem memo_after {μA : Mp} {hA h1 : Hp} {w w' : World} {v0 v' : AV} {e : Ending} (hown : ∀ c, μA.own c = false) (R : CallR μA hA w v' h1 e w') {srcs : List Nat} {lits : List (List AV)} (hv : v' = renT (loc srcs) v0)
    (hb : ∀ i cs, lits[i]? = some cs → ∃ ow, hget h1 (loc srcs i) = some (.cells (lmap (ren (loc srcs)) cs) (len cs) ow) ∧ ow ≠ .ro ∧ ∀ p, ow = .pair p → ∀ j, j < lits.length → loc srcs j ≠ p)
    (hinj : ∀ i j, i < lits.length → j < lits.length → loc srcs i = loc srcs j → i = j) (hok : ∀ cs ∈ lits, lall (okV lits.length) cs = true) (hokT : okT lits.length v0 = true) {μ : Mp} {h : Hp} (hs : Sim μ h w) :
    CallR μ h w (renT (Nat.add h.next) v0) (pushes h.next lits h) e w' := by
  obtain ⟨μ1, y, rfl, hy, hs1, g⟩ := R
  have hbel : Below w.heap.size w w' := g.below' hown
  obtain ⟨μ', hμ⟩ : ∃ μ' : Mp, μ' = ⟨fun b => if b < h.next then μ.at_ b else if b - h.next < lits.length then μ1.at_ (loc srcs (b - h.next)) else none, fun c => if c < w.heap.size then μ.own c else μ1.own c, fun c => if c < w.heap.size then μ.size c else μ1.size c⟩ := ⟨_, rfl⟩
  have hat : ∀ b, b < h.next → μ'.at_ b = μ.at_ b := fun b hb => by rw [hμ]; simp [hb]
  have hatn : ∀ j, j < lits.length → μ'.at_ (h.next + j) = μ1.at_ (loc srcs j) := fun j hj => by
    rw [hμ]
    show (if h.next + j < h.next then μ.at_ (h.next + j) else if h.next + j - h.next < lits.length then μ1.at_ (loc srcs (h.next + j - h.next)) else none) = _
    rw [if_neg (by omega), Nat.add_sub_cancel_left, if_pos hj]
  have hlt : ∀ b c s, μ.at_ b = some (c, s) → b < h.next ∧ c < w.heap.size := fun b c s e => by
    refine ⟨?_, hs.old b c s e⟩
    rcases Nat.lt_or_ge b h.next with hb | hb
    · exact hb
    · rw [hs.lt b hb] at e; cases e
  have ho : ∀ c, c < w.heap.size → μ'.own c = μ.own c := fun c hc => by rw [hμ]; simp [hc]
  have hz : ∀ c, c < w.heap.size → μ'.size c = μ.size c := fun c hc => by rw [hμ]; simp [hc]
  have hon : ∀ c, ¬ c < w.heap.size → μ'.own c = μ1.own c := fun c hc => by rw [hμ]; simp [hc]
  have hzn : ∀ c, ¬ c < w.heap.size → μ'.size c = μ1.size c := fun c hc => by rw [hμ]; simp [hc]
  have hle : μ.Le μ' := fun b c s e => by
    obtain ⟨h6, h7⟩ := hlt b c s e
    exact ⟨by rw [hat b h6]; exact e, hz c h7, ho c h7⟩
  have hnew : ∀ i cs c s, lits[i]? = some cs → μ1.at_ (loc srcs i) = some (c, s) → ¬ c < w.heap.size ∧ μ1.own c = true := fun i cs c s hi hc => by
    obtain ⟨ow, h2, h3, _⟩ := hb i cs hi
    obtain ⟨_, _, h4, _⟩ := hs1.blk _ c s _ hc h2
    have h5 : μ1.own c = true := h4.2 h3
    refine ⟨fun h6 => ?_, h5⟩
    rw [g.own c h6, hown] at h5
    cases h5
  have hal : Alike μ1 μ' (loc srcs) (Nat.add h.next) lits.length := fun j hj c s e => by
    obtain ⟨h2, _⟩ := hnew j _ c s (List.getElem?_eq_getElem hj) e
    exact ⟨by show μ'.at_ (h.next + j) = _; rw [hatn j hj]; exact e, hzn c h2⟩
  have hsplit : ∀ b c s, μ'.at_ b = some (c, s) → (b < h.next ∧ μ.at_ b = some (c, s)) ∨ ∃ i cs, lits[i]? = some cs ∧ b = h.next + i ∧ μ1.at_ (loc srcs i) = some (c, s) := fun b c s e => by
    rcases Nat.lt_or_ge b h.next with hb' | hb'
    · exact .inl ⟨hb', by rw [← hat b hb']; exact e⟩
    · rw [hμ] at e
      replace e : (if b < h.next then μ.at_ b else if b - h.next < lits.length then μ1.at_ (loc srcs (b - h.next)) else none) = some (c, s) := e
      rw [if_neg (by omega)] at e
      split at e
      · rename_i hl
        exact .inr ⟨b - h.next, _, List.getElem?_eq_getElem hl, by omega, e⟩
      · cases e
  have hgo : ∀ b, b < h.next → hget (pushes h.next lits h) b = hget h b := fun b hb' => by rw [pushes_get, if_neg (by omega)]
  have hgn : ∀ i cs, lits[i]? = some cs → hget (pushes h.next lits h) (h.next + i) = some (.cells (lmap (ren (Nat.add h.next)) cs) (len cs) .solo) := fun i cs hi => by
    rw [pushes_get, if_pos (by omega), show h.next + i - h.next = i by omega, hi]; rfl
  refine ⟨μ', y, rfl, ?_, ⟨fun b hb' => ?_, fun b hb' => ?_, fun b c s e => ?_, fun b c s x e hx => ?_, fun b b' c s s' x x' hne e e' hwn hx hx' hd hd' => ?_, fun b c s cs n p e hx => ?_⟩,
    ⟨by rw [pushes_next]; omega, fun b hb' => hat b hb', ho, hz, hbel.size, fun c hc _ => hbel.block c hc, fun b hb' _ => .inl (hgo b hb'), hbel.os, hbel.tape, hbel.output⟩⟩
  · rw [hv] at hy
    exact VR_renT hal hokT hy
  · rw [pushes_next] at hb'
    rw [hμ]
    show (if b < h.next then μ.at_ b else if b - h.next < lits.length then μ1.at_ (loc srcs (b - h.next)) else none) = none
    rw [if_neg (by omega), if_neg (by omega)]
  · rw [pushes_next] at hb'
    rw [pushes_get, if_pos (by omega), List.getElem?_eq_none (by omega)]
    exact hs.fresh b (by omega)
  · rcases hsplit b c s e with ⟨_, e⟩ | ⟨i, cs, hi, rfl, e2⟩
    · exact Nat.lt_of_lt_of_le (hs.old b c s e) hbel.size
    · exact hs1.old _ c s e2
  · rcases hsplit b c s e with ⟨hb', e⟩ | ⟨i, cs, hi, rfl, e2⟩
    · rw [hgo b hb'] at hx
      have hc := (hlt b c s e).2
      exact (hs.blk b c s x e hx).mono hle (hbel.block c hc) (ho c hc) (hz c hc)
    · rw [hgn i cs hi] at hx
      cases hx
      obtain ⟨hc, hcw⟩ := hnew i cs c s hi e2
      obtain ⟨ow, h2, h3, _⟩ := hb i cs hi
      obtain ⟨_, _, h4, arr, el, fr, h5, h6, h7, h8⟩ := hs1.blk _ c s _ e2 h2
      have hcs := hok cs (List.mem_of_getElem? hi)
      have hcs' := lall_iff.1 hcs
      refine ⟨by rw [lmap_eq, len_eq, List.length_map], fun v hv' => ?_, ⟨fun _ => nofun, fun _ => by rw [hon c hc]; exact hcw⟩, arr, el, fr, h5, by rw [h6, hzn c hc], fun _ => h7 hcw, fun j v hv' => ?_⟩
      · rw [lmap_eq] at hv'
        obtain ⟨u, hu, rfl⟩ := List.mem_map.1 hv'
        exact isCell_ren (hcs' u hu)
      · rw [lmap_eq, List.getElem?_map] at hv'
        cases hu : cs[j]? with
        | none => rw [hu] at hv'; cases hv'
        | some u =>
          rw [hu] at hv'
          cases hv'
          obtain ⟨x, hx, hr⟩ := h8 j (ren (loc srcs) u) (by rw [lmap_eq, List.getElem?_map, hu]; rfl)
          exact ⟨x, hx, VR_ren hal (hcs' u (List.mem_of_getElem? hu)) hr⟩
  · rcases hsplit b c s e with ⟨hb1, e⟩ | ⟨i, cs, hi, rfl, e2⟩
    · rcases hsplit b' c s' e' with ⟨hb2, e'⟩ | ⟨i', cs', hi', rfl, e2'⟩
      · rw [hgo b hb1] at hx
        rw [hgo b' hb2] at hx'
        exact hs.apart b b' c s s' x x' hne e e' (by rw [← ho c (hlt b c s e).2]; exact hwn) hx hx' hd hd'
      · exact absurd (hlt b c s e).2 (hnew i' cs' c s' hi' e2').1
    · rcases hsplit b' c s' e' with ⟨hb2, e'⟩ | ⟨i', cs', hi', rfl, e2'⟩
      · exact absurd (hlt b' c s' e').2 (hnew i cs c s hi e2).1
      · obtain ⟨hc, hcw⟩ := hnew i cs c s hi e2
        obtain ⟨ow, h2, h3, h4⟩ := hb i cs hi
        obtain ⟨ow', h2', h3', h4'⟩ := hb i' cs' hi'
        have li : i < lits.length := (List.getElem?_eq_some_iff.1 hi).1
        have li' : i' < lits.length := (List.getElem?_eq_some_iff.1 hi').1
        obtain ⟨a1, a2, a3, a4, a5, a6⟩ := hs1.apart (loc srcs i) (loc srcs i') c s s' _ _ (fun q => hne (by rw [hinj i i' li li' q])) e2 e2' hcw h2 h2' nofun nofun
        cases a5
        exact absurd rfl (h4 _ rfl i' li')
  · rcases hsplit b c s e with ⟨hb1, e⟩ | ⟨i, cs', hi, rfl, e2⟩
    · rw [hgo b hb1] at hx
      obtain ⟨y, hy⟩ := hs.peer b c s cs n p e hx
      exact ⟨y, by rw [hat p (hlt p y.1 y.2 hy).1]; exact hy⟩
    · rw [hgn i cs' hi] at hx; cases hx
noncomputable def mkB (σ : Nat → Nat) : List (List AV) → List Own → List (Option Blk)
  | cs :: L, o :: O => some (.cells (lmap (ren σ) cs) (len cs) o) :: mkB σ L O
  | _, _ => []
theorem mkB_get (σ : Nat → Nat) : ∀ (L : List (List AV)) (O : List Own), L.length = O.length → ∀ (i : Nat) (cs : List AV), L[i]? = some cs → ∃ o, O[i]? = some o ∧ (mkB σ L O)[i]? = some (some (Blk.cells (lmap (ren σ) cs) (len cs) o))
  | [], _, _, i, cs, h => by simp at h
  | a :: L, [], hl, i, cs, h => by simp at hl
  | a :: L, o :: O, hl, 0, cs, h => by simp at h; subst h; exact ⟨o, rfl, rfl⟩
  | a :: L, o :: O, hl, i + 1, cs, h => by
    obtain ⟨o', h1, h2⟩ := mkB_get σ L O (by simpa using hl) i cs (by simpa using h)
    exact ⟨o', by simpa using h1, by simpa [mkB] using h2⟩
noncomputable def Own.fits (srcs : List Nat) : Own → Bool
  | .solo => true
  | .pair p => lall (fun x => notB (Nat.beq x p)) srcs
  | .ro => false
noncomputable def memoChk (srcs : List Nat) (lits : List (List AV)) (ows : List Own) (v0 : AV) : Bool :=
  bc (Nat.beq (len srcs) (len lits)) (bc (Nat.beq (len ows) (len lits)) (bc (newN srcs) (bc (lall (Own.fits srcs) ows) (bc (lall (lall (okV (len lits))) lits) (okT (len lits) v0) false) false) false) false) false
theorem newN_pair : ∀ {l : List Nat}, newN l = true → ∀ (i j : Nat), i < j → j < l.length → l[i]? ≠ l[j]?
  | [], _, i, j, _, h => by simp at h
  | a :: l, hn, i, j, hij, hj => by
    have hn : bc (lall (fun b => notB (Nat.beq a b)) l) (newN l) false = true := hn
    obtain ⟨h1, h2⟩ := bc_inv hn (by simp)
    cases j with
    | zero => omega
    | succ j =>
      have hj' : j < l.length := by simpa using hj
      cases i with
      | zero =>
        intro e
        have e : some a = l[j]? := by simpa using e
        have := lall_iff.1 h1 a (List.mem_of_getElem? e.symm)
        rw [Nat.beq_refl] at this; cases this
      | succ i => simpa using newN_pair h2 i j (by omega) hj'
theorem loc_get {srcs : List Nat} {i : Nat} (h : i < srcs.length) : srcs[i]? = some (loc srcs i) := by
  unfold loc; rw [nth_eq, List.getElem?_eq_getElem h]; rfl
theorem memo_key {μA : Mp} {hA : Hp} {w : World} {v0 : AV} (hown : ∀ c, μA.own c = false) {r : RV} {srcs : List Nat} {lits : List (List AV)} {ows : List Own}
    (key : r.cs none (fun v h => some (v, lmap (hget h) srcs)) = some (renT (loc srcs) v0, mkB (loc srcs) lits ows)) (chk : memoChk srcs lits ows v0 = true) :
    ∃ v' h1, r = .ok v' h1 ∧ ∀ {e w'}, CallR μA hA w v' h1 e w' → ∀ {μ : Mp} {h : Hp}, Sim μ h w → CallR μ h w (renT (Nat.add h.next) v0) (pushes h.next lits h) e w' := by
  cases r with
  | no => cases key
  | ok v' h1 =>
    have key : some (v', lmap (hget h1) srcs) = some (renT (loc srcs) v0, mkB (loc srcs) lits ows) := key
    rw [Option.some.injEq, Prod.mk.injEq] at key
    obtain ⟨k1, k2⟩ := key
    obtain ⟨c1, chk⟩ := bc_inv (show bc _ _ false = true from chk) (by simp)
    obtain ⟨c2, chk⟩ := bc_inv chk (by simp)
    obtain ⟨c3, chk⟩ := bc_inv chk (by simp)
    obtain ⟨c4, chk⟩ := bc_inv chk (by simp)
    obtain ⟨c5, c6⟩ := bc_inv chk (by simp)
    rw [len_eq] at c5 c6
    have c1 := Nat.eq_of_beq_eq_true c1
    have c2 := Nat.eq_of_beq_eq_true c2
    rw [len_eq, len_eq] at c1 c2
    refine ⟨v', h1, rfl, @fun e w' R μ h hs => memo_after hown R k1 (fun i cs hi => ?_) (fun i j hi hj q => ?_) (fun cs hc => lall_iff.1 c5 cs hc) c6 hs⟩
    · obtain ⟨o, h2, h3⟩ := mkB_get (loc srcs) lits ows c2.symm i cs hi
      have li : i < lits.length := (List.getElem?_eq_some_iff.1 hi).1
      have h4 : (lmap (hget h1) srcs)[i]? = some (hget h1 (loc srcs i)) := by rw [lmap_eq, List.getElem?_map, loc_get (by omega)]; rfl
      rw [k2, h3] at h4
      have ho := lall_iff.1 c4 o (List.mem_of_getElem? h2)
      refine ⟨o, (Option.some.inj h4).symm, (fun q => by rw [q] at ho; cases ho), fun p q j hj q2 => ?_⟩
      rw [q] at ho
      have ho : lall (fun x => notB (Nat.beq x p)) srcs = true := ho
      have := lall_iff.1 ho p (List.mem_of_getElem? (show srcs[j]? = some p by rw [loc_get (by omega), q2]))
      rw [Nat.beq_refl] at this; cases this
    · rcases Nat.lt_trichotomy i j with hij | hij | hij
      · exact absurd (show srcs[i]? = srcs[j]? by rw [loc_get (by omega), loc_get (by omega), q]) (newN_pair c3 i j hij (by omega))
      · exact hij
      · exact absurd (show srcs[j]? = srcs[i]? by rw [loc_get (by omega), loc_get (by omega), q]) (newN_pair c3 j i hij (by omega))
section
variable {P : Program} {D : Nat → Array Oper → AC} {M : Nat → Option (List AV → Hp → RV)} {N d f : Nat} {srcs : List Nat} {lits : List (List AV)} {ows : List Own} {v0 : AV}
noncomputable def memo0 (v0 : AV) (lits : List (List AV)) (args : List AV) (h : Hp) : RV := lcase (.ok (renT (Nat.add h.next) v0) (pushes h.next lits h)) (fun _ _ => .no) args
theorem memo0_ok (hD : DrawOk P D) (hM : Good P fun f args h => ocase .no (fun m => m args h) (M f)) (key : (evF M (progS P D) N d f [] H0).cs none (fun v h => some (v, lmap (hget h) srcs)) = some (renT (loc srcs) v0, mkB (loc srcs) lits ows)) (chk : memoChk srcs lits ows v0 = true)
    {args : List AV} {h h' : Hp} {v : AV} {μ : Mp} {w : World} {cargs : Array Value} (e : memo0 v0 lits args h = .ok v h') (hs : Sim μ h w) (r : VRs μ args cargs.toList) : Enters P f ∧ Calls P f cargs w (CallR μ h w v h') := by
  cases args with
  | cons a l => cases e
  | nil =>
    cases e
    rw [VRs_nil] at r
    obtain ⟨v', h1, e1, hR⟩ := memo_key (μA := .none) (hA := H0) (w := w) (fun _ => rfl) key chk
    have ev := evF_ok hD hM N d f [] H0 v' h1 .none w cargs e1 (.none w) (by rw [VRs_nil]; exact r)
    exact ⟨ev.1, ev.2.mono fun e w' R => hR R hs⟩
noncomputable def eqU (l : List Nat) : List AV → Bool := lrec (fun _ => true) (fun a _ ih cs => lcase false (fun x xs => x.asInt false fun k m => bc (ikEq k .u8) (bc (eqI m (.ofNat a)) (ih xs) false) false) cs) l
theorem eqU_get : ∀ {l : List Nat} {cs : List AV}, eqU l cs = true → ∀ (i : Nat) (a : Nat), l[i]? = some a → cs[i]? = some (AV.int .u8 (.ofNat a))
  | [], _, _, i, a, h => by simp at h
  | b :: l, cs, e, i, a, h => by
    have e : lcase false (fun x xs => x.asInt false fun k m => bc (ikEq k .u8) (bc (eqI m (.ofNat b)) (eqU l xs) false) false) cs = true := e
    cases cs with
    | nil => cases e
    | cons x xs =>
      have e : (x.asInt false fun k m => bc (ikEq k .u8) (bc (eqI m (.ofNat b)) (eqU l xs) false) false) = true := e
      obtain ⟨k, m, rfl, e1⟩ := asInt_inv e (by simp)
      obtain ⟨rfl, e2⟩ := ikEq_inv e1 (by simp)
      obtain ⟨e3, e4⟩ := bc_inv e2 (by simp)
      rw [eqI_eq] at e3
      have e3 := eq_of_beq e3
      cases i with
      | zero => simp at h; subst h; rw [e3]; rfl
      | succ i => simpa using eqU_get e4 i a (by simpa using h)
noncomputable def hB (T : List Nat) : Hp := ⟨1, tset (pathOf 0) (.cells (u8s T) (len T) .ro) .lf⟩
noncomputable def memo1 (T : List Nat) (v0 : AV) (lits : List (List AV)) (args : List AV) (h : Hp) : RV := lcase .no (fun x r => lcase (x.asSlice .no .no fun b o l cp sz ex => bc (Nat.beq l (len T)) (bc (Nat.beq sz 1) (hcells h b .no fun cs n ow => bc (eqU T (drop cs o)) (.ok (renT (Nat.add h.next) v0) (pushes h.next lits h)) .no) .no) .no) (fun _ _ => .no) r) args
theorem start_one {μ : Mp} {h : Hp} {w : World} {b o cp n : Nat} {ex : Bool} {x : Value} {T : List Nat} {cs : List AV} {ow : Own} (hs : Sim μ h w) (hT : T ≠ []) (r : VR μ (.slice b o T.length cp 1 ex) x) (hc : hget h b = some (.cells cs n ow)) (hq : ∀ (i : Nat) (a : Nat), T[i]? = some a → (cs.drop o)[i]? = some (AV.int .u8 (.ofNat a))) :
    ∃ μA, Sim μA (hB T) w ∧ (∀ c, μA.own c = false) ∧ VR μA (.slice 0 0 T.length T.length 1 false) x := by
  rw [VR_slice] at r
  obtain ⟨c, s, s', cp', hat, rfl, h1, h2, h3, h4⟩ := r
  have hT' : 0 < T.length := List.length_pos_iff.2 hT
  obtain ⟨h5, h6⟩ := h4 (by omega)
  obtain ⟨_, _, _, arr, el, fr, h7, h8, _, h9⟩ := hs.blk b c s _ hat hc
  have hg0 : hget (hB T) 0 = some (.cells (u8s T) (len T) .ro) := tget_tset _ _ _
  have hgn : ∀ b, b ≠ 0 → hget (hB T) b = none := fun b hb => by
    show tget (pathOf b) (tset (pathOf 0) _ .lf) = none
    rw [tget_tset_ne _ _ _ _ (fun e => hb (pathOf_inj e)), tget_lf]
  let μA : Mp := ⟨fun b => if b = 0 then some (c, s + o) else none, fun _ => false, fun _ => arr.size⟩
  have hAt : ∀ b c' s', μA.at_ b = some (c', s') → b = 0 ∧ c' = c ∧ s' = s + o := fun b c' s' e => by
    have e : (if b = 0 then some (c, s + o) else none) = some (c', s') := e
    split at e
    · cases e; exact ⟨‹_›, rfl, rfl⟩
    · cases e
  refine ⟨μA, ⟨fun b hb => ?_, fun b hb => hgn b (by have : (hB T).next = 1 := rfl; omega), fun b c' s' e => ?_, fun b c' s' x e hx => ?_, fun b b' c' s1 s2 x x' hne e e' => ?_, fun b c' s' cs n p e hx => ?_⟩, fun _ => rfl, ?_⟩
  · have : (hB T).next = 1 := rfl
    show (if b = 0 then some (c, s + o) else none) = none
    rw [if_neg (by omega)]
  · obtain ⟨_, rfl, _⟩ := hAt b c' s' e; exact (Array.getElem?_eq_some_iff.1 h7).1
  · obtain ⟨rfl, rfl, rfl⟩ := hAt b c' s' e
    rw [hg0] at hx
    cases hx
    refine ⟨by rw [u8s_eq, len_eq, List.length_map], fun v hv => ?_, ⟨fun q => (by cases q), fun q => absurd rfl q⟩, arr, el, fr, h7, rfl, fun q => (by cases q), fun i v hv => ?_⟩
    · rw [u8s_eq] at hv
      obtain ⟨z, _, rfl⟩ := List.mem_map.1 hv; rfl
    · obtain ⟨a, ha, rfl⟩ := u8s_at hv
      have hq := hq i a ha
      rw [List.getElem?_drop] at hq
      obtain ⟨y, hy, hr⟩ := h9 (o + i) _ hq
      rw [VR_int] at hr
      subst hr
      exact ⟨_, by rw [Nat.add_assoc]; exact hy, by rw [VR_int]⟩
  · obtain ⟨h10, _⟩ := hAt b c' s1 e
    obtain ⟨h11, _⟩ := hAt b' c' s2 e'
    exact absurd (h10.trans h11.symm) hne
  · obtain ⟨rfl, _, _⟩ := hAt b c' s' e
    rw [hg0] at hx; cases hx
  · rw [VR_slice]
    exact ⟨c, s + o, s', cp', rfl, rfl, Nat.le_refl _, by omega, nofun, fun _ => ⟨by rw [h5]; rfl, by show s + o + 0 + cp' * 1 ≤ arr.size; rw [h8]; simpa using h6⟩⟩
theorem memo1_ok {T : List Nat} (hT : T ≠ []) (hD : DrawOk P D) (hM : Good P fun f args h => ocase .no (fun m => m args h) (M f)) (key : (evF M (progS P D) N d f [.slice 0 0 (len T) (len T) 1 false] (hB T)).cs none (fun v h => some (v, lmap (hget h) srcs)) = some (renT (loc srcs) v0, mkB (loc srcs) lits ows)) (chk : memoChk srcs lits ows v0 = true)
    {args : List AV} {h h' : Hp} {v : AV} {μ : Mp} {w : World} {cargs : Array Value} (e : memo1 T v0 lits args h = .ok v h') (hs : Sim μ h w) (r : VRs μ args cargs.toList) : Enters P f ∧ Calls P f cargs w (CallR μ h w v h') := by
  cases args with
  | nil => cases e
  | cons a l =>
    cases l with
    | cons => cases e
    | nil =>
      have e : (a.asSlice RV.no .no fun b o l cp sz ex => bc (Nat.beq l (len T)) (bc (Nat.beq sz 1) (hcells h b .no fun cs n ow => bc (eqU T (drop cs o)) (.ok (renT (Nat.add h.next) v0) (pushes h.next lits h)) .no) .no) .no) = .ok v h' := e
      rcases asSlice_inv e nofun with ⟨_, e1⟩ | ⟨b, o, l, cp, sz, ex, rfl, e1⟩
      · cases e1
      · obtain ⟨rfl, e2⟩ := beq_inv e1 nofun
        obtain ⟨rfl, e3⟩ := beq_inv e2 nofun
        obtain ⟨cs, n, ow, hc, e4⟩ := hcells_inv e3 nofun
        obtain ⟨e5, e6⟩ := bc_inv e4 nofun
        rw [drop_eq] at e5
        cases e6
        rw [VRs_cons] at r
        obtain ⟨x, xs, hx, rx, rxs⟩ := r
        rw [VRs_nil] at rxs
        subst rxs
        rw [len_eq] at rx
        obtain ⟨μA, sA, oA, vA⟩ := start_one hs hT rx hc (eqU_get e5)
        obtain ⟨v', h1, e1', hR⟩ := memo_key (μA := μA) (hA := hB T) (w := w) oA key chk
        have ev := evF_ok hD hM N d f _ (hB T) v' h1 μA w cargs e1' sA (by rw [len_eq, hx, VRs_cons]; exact ⟨x, [], rfl, vA, by rw [VRs_nil]⟩)
        exact ⟨ev.1, ev.2.mono fun e w' R => hR R hs⟩
end
end Eng
end
section
set_option linter.unusedVariables false
set_option linter.unusedSimpArgs false
namespace Go.Proofs.YtfcljjhlijolgaaGreatDoor
open Go Go.RowKit Eng
noncomputable def srcs16 : List Nat := [702]
noncomputable def lits16 : List (List AV) := [[.int .u8 (Int.ofNat 0), .int .u8 (Int.ofNat 97), .int .u8 (Int.ofNat 115), .int .u8 (Int.ofNat 109), .int .u8 (Int.ofNat 1), .int .u8 (Int.ofNat 0), .int .u8 (Int.ofNat 0), .int .u8 (Int.ofNat 0), .int .u8 (Int.ofNat 1), .int .u8 (Int.ofNat 18), .int .u8 (Int.ofNat 4), .int .u8 (Int.ofNat 96), .int .u8 (Int.ofNat 0), .int .u8 (Int.ofNat 0), .int .u8 (Int.ofNat 96), .int .u8 (Int.ofNat 1), .int .u8 (Int.ofNat 127), .int .u8 (Int.ofNat 1), .int .u8 (Int.ofNat 127), .int .u8 (Int.ofNat 96), .int .u8 (Int.ofNat 0), .int .u8 (Int.ofNat 1), .int .u8 (Int.ofNat 127), .int .u8 (Int.ofNat 96), .int .u8 (Int.ofNat 2), .int .u8 (Int.ofNat 127), .int .u8 (Int.ofNat 127), .int .u8 (Int.ofNat 0), .int .u8 (Int.ofNat 3), .int .u8 (Int.ofNat 9), .int .u8 (Int.ofNat 8), .int .u8 (Int.ofNat 1), .int .u8 (Int.ofNat 2), .int .u8 (Int.ofNat 0), .int .u8 (Int.ofNat 0), .int .u8 (Int.ofNat 3), .int .u8 (Int.ofNat 1), .int .u8 (Int.ofNat 1), .int .u8 (Int.ofNat 0), .int .u8 (Int.ofNat 5), .int .u8 (Int.ofNat 3), .int .u8 (Int.ofNat 1), .int .u8 (Int.ofNat 0), .int .u8 (Int.ofNat 1), .int .u8 (Int.ofNat 6), .int .u8 (Int.ofNat 6), .int .u8 (Int.ofNat 1), .int .u8 (Int.ofNat 127), .int .u8 (Int.ofNat 1), .int .u8 (Int.ofNat 65), .int .u8 (Int.ofNat 0), .int .u8 (Int.ofNat 11), .int .u8 (Int.ofNat 7), .int .u8 (Int.ofNat 54), .int .u8 (Int.ofNat 8), .int .u8 (Int.ofNat 3), .int .u8 (Int.ofNat 105), .int .u8 (Int.ofNat 110), .int .u8 (Int.ofNat 99), .int .u8 (Int.ofNat 0), .int .u8 (Int.ofNat 0), .int .u8 (Int.ofNat 3), .int .u8 (Int.ofNat 103), .int .u8 (Int.ofNat 101), .int .u8 (Int.ofNat 116), .int .u8 (Int.ofNat 0), .int .u8 (Int.ofNat 1), .int .u8 (Int.ofNat 4), .int .u8 (Int.ofNat 115), .int .u8 (Int.ofNat 112), .int .u8 (Int.ofNat 105), .int .u8 (Int.ofNat 110), .int .u8 (Int.ofNat 0), .int .u8 (Int.ofNat 2), .int .u8 (Int.ofNat 4), .int .u8 (Int.ofNat 116), .int .u8 (Int.ofNat 114), .int .u8 (Int.ofNat 97), .int .u8 (Int.ofNat 112), .int .u8 (Int.ofNat 0), .int .u8 (Int.ofNat 3), .int .u8 (Int.ofNat 3), .int .u8 (Int.ofNat 112), .int .u8 (Int.ofNat 117), .int .u8 (Int.ofNat 116), .int .u8 (Int.ofNat 0), .int .u8 (Int.ofNat 4), .int .u8 (Int.ofNat 4), .int .u8 (Int.ofNat 112), .int .u8 (Int.ofNat 101), .int .u8 (Int.ofNat 101), .int .u8 (Int.ofNat 107), .int .u8 (Int.ofNat 0), .int .u8 (Int.ofNat 5), .int .u8 (Int.ofNat 4), .int .u8 (Int.ofNat 119), .int .u8 (Int.ofNat 111), .int .u8 (Int.ofNat 114), .int .u8 (Int.ofNat 107), .int .u8 (Int.ofNat 0), .int .u8 (Int.ofNat 6), .int .u8 (Int.ofNat 4), .int .u8 (Int.ofNat 100), .int .u8 (Int.ofNat 101), .int .u8 (Int.ofNat 101), .int .u8 (Int.ofNat 112), .int .u8 (Int.ofNat 0), .int .u8 (Int.ofNat 7), .int .u8 (Int.ofNat 10), .int .u8 (Int.ofNat 102), .int .u8 (Int.ofNat 8), .int .u8 (Int.ofNat 11), .int .u8 (Int.ofNat 0), .int .u8 (Int.ofNat 35), .int .u8 (Int.ofNat 0), .int .u8 (Int.ofNat 32), .int .u8 (Int.ofNat 0), .int .u8 (Int.ofNat 106), .int .u8 (Int.ofNat 36), .int .u8 (Int.ofNat 0), .int .u8 (Int.ofNat 35), .int .u8 (Int.ofNat 0), .int .u8 (Int.ofNat 11), .int .u8 (Int.ofNat 4), .int .u8 (Int.ofNat 0), .int .u8 (Int.ofNat 35), .int .u8 (Int.ofNat 0), .int .u8 (Int.ofNat 11), .int .u8 (Int.ofNat 12), .int .u8 (Int.ofNat 0), .int .u8 (Int.ofNat 65), .int .u8 (Int.ofNat 227), .int .u8 (Int.ofNat 0), .int .u8 (Int.ofNat 36), .int .u8 (Int.ofNat 0), .int .u8 (Int.ofNat 3), .int .u8 (Int.ofNat 64), .int .u8 (Int.ofNat 12), .int .u8 (Int.ofNat 0), .int .u8 (Int.ofNat 11), .int .u8 (Int.ofNat 11), .int .u8 (Int.ofNat 11), .int .u8 (Int.ofNat 0), .int .u8 (Int.ofNat 35), .int .u8 (Int.ofNat 0), .int .u8 (Int.ofNat 65), .int .u8 (Int.ofNat 232), .int .u8 (Int.ofNat 7), .int .u8 (Int.ofNat 106), .int .u8 (Int.ofNat 36), .int .u8 (Int.ofNat 0), .int .u8 (Int.ofNat 0), .int .u8 (Int.ofNat 11), .int .u8 (Int.ofNat 9), .int .u8 (Int.ofNat 0), .int .u8 (Int.ofNat 32), .int .u8 (Int.ofNat 0), .int .u8 (Int.ofNat 32), .int .u8 (Int.ofNat 1), .int .u8 (Int.ofNat 58), .int .u8 (Int.ofNat 0), .int .u8 (Int.ofNat 0), .int .u8 (Int.ofNat 11), .int .u8 (Int.ofNat 7), .int .u8 (Int.ofNat 0), .int .u8 (Int.ofNat 32), .int .u8 (Int.ofNat 0), .int .u8 (Int.ofNat 45), .int .u8 (Int.ofNat 0), .int .u8 (Int.ofNat 0), .int .u8 (Int.ofNat 11), .int .u8 (Int.ofNat 31), .int .u8 (Int.ofNat 0), .int .u8 (Int.ofNat 2), .int .u8 (Int.ofNat 64), .int .u8 (Int.ofNat 3), .int .u8 (Int.ofNat 64), .int .u8 (Int.ofNat 32), .int .u8 (Int.ofNat 0), .int .u8 (Int.ofNat 69), .int .u8 (Int.ofNat 13), .int .u8 (Int.ofNat 1), .int .u8 (Int.ofNat 32), .int .u8 (Int.ofNat 0), .int .u8 (Int.ofNat 65), .int .u8 (Int.ofNat 1), .int .u8 (Int.ofNat 107), .int .u8 (Int.ofNat 33), .int .u8 (Int.ofNat 0), .int .u8 (Int.ofNat 35), .int .u8 (Int.ofNat 0), .int .u8 (Int.ofNat 65), .int .u8 (Int.ofNat 1), .int .u8 (Int.ofNat 106), .int .u8 (Int.ofNat 36), .int .u8 (Int.ofNat 0), .int .u8 (Int.ofNat 12), .int .u8 (Int.ofNat 0), .int .u8 (Int.ofNat 11), .int .u8 (Int.ofNat 11), .int .u8 (Int.ofNat 35), .int .u8 (Int.ofNat 0), .int .u8 (Int.ofNat 11), .int .u8 (Int.ofNat 8), .int .u8 (Int.ofNat 0), .int .u8 (Int.ofNat 65), .int .u8 (Int.ofNat 5), .int .u8 (Int.ofNat 36), .int .u8 (Int.ofNat 0), .int .u8 (Int.ofNat 16), .int .u8 (Int.ofNat 7), .int .u8 (Int.ofNat 11)]]
noncomputable def ows16 : List Own := [.pair 701]
noncomputable def val16 : AV := .slice 0 0 212 212 1 false
theorem chk16 : memoChk srcs16 lits16 ows16 val16 = true := by kernel_rfl
theorem key16 : (evF noM (progS Tryz.prog (compDrawn Tryz.prog)) 100000 9 16 [] H0).cs none (fun v h => some (v, lmap (hget h) srcs16)) = some (renT (loc srcs16) val16, mkB (loc srcs16) lits16 ows16) := by kernel_rfl
noncomputable def srcs135 : List Nat := [74, 92, 100, 113, 163, 382, 51, 53, 61, 71, 111, 189, 203, 231, 257, 277, 294, 360, 380]
noncomputable def lits135 : List (List AV) := [[.nilSlice, .nilSlice, .slice 6 0 1 1 1 false, .slice 7 0 1 1 1 false, .nilSlice, .slice 8 0 1 1 1 false, .slice 9 0 2 2 1 false, .nilSlice], [.int .u32 (Int.ofNat 1), .int .u32 (Int.ofNat 2), .int .u32 (Int.ofNat 0), .int .u32 (Int.ofNat 0), .int .u32 (Int.ofNat 3), .int .u32 (Int.ofNat 1), .int .u32 (Int.ofNat 1), .int .u32 (Int.ofNat 0)], [.int .u32 (Int.ofNat 1), .int .u32 (Int.ofNat 0), .bool false], [.int .u8 (Int.ofNat 127), .bool true, .slice 10 0 2 2 6 false], [.str [105, 110, 99], .int .u8 (Int.ofNat 0), .int .u32 (Int.ofNat 0), .str [103, 101, 116], .int .u8 (Int.ofNat 0), .int .u32 (Int.ofNat 1), .str [115, 112, 105, 110], .int .u8 (Int.ofNat 0), .int .u32 (Int.ofNat 2), .str [116, 114, 97, 112], .int .u8 (Int.ofNat 0), .int .u32 (Int.ofNat 3), .str [112, 117, 116], .int .u8 (Int.ofNat 0), .int .u32 (Int.ofNat 4), .str [112, 101, 101, 107], .int .u8 (Int.ofNat 0), .int .u32 (Int.ofNat 5), .str [119, 111, 114, 107], .int .u8 (Int.ofNat 0), .int .u32 (Int.ofNat 6), .str [100, 101, 101, 112], .int .u8 (Int.ofNat 0), .int .u32 (Int.ofNat 7)], [.nilSlice, .slice 11 0 6 6 6 false, .nilSlice, .slice 12 0 2 2 6 false, .nilSlice, .slice 13 0 6 6 6 false, .nilSlice, .slice 14 0 6 6 6 false, .nilSlice, .slice 15 0 4 4 6 false, .nilSlice, .slice 16 0 3 3 6 false, .nilSlice, .slice 17 0 18 18 6 false, .nilSlice, .slice 18 0 4 4 6 false], [.int .u8 (Int.ofNat 127)], [.int .u8 (Int.ofNat 127)], [.int .u8 (Int.ofNat 127)], [.int .u8 (Int.ofNat 127), .int .u8 (Int.ofNat 127)], [.int .i64 (Int.ofNat 65), .int .u32 (Int.ofNat 0), .int .u32 (Int.ofNat 0), .int .u64 (Int.ofNat 0), .nilSlice, .int .i64 (Int.ofNat 0), .int .i64 (Int.ofNat 11), .int .u32 (Int.ofNat 0), .int .u32 (Int.ofNat 0), .int .u64 (Int.ofNat 0), .nilSlice, .int .i64 (Int.ofNat 0)], [.int .i64 (Int.ofNat 35), .int .u32 (Int.ofNat 0), .int .u32 (Int.ofNat 0), .int .u64 (Int.ofNat 0), .nilSlice, .int .i64 (Int.ofNat 0), .int .i64 (Int.ofNat 32), .int .u32 (Int.ofNat 0), .int .u32 (Int.ofNat 0), .int .u64 (Int.ofNat 0), .nilSlice, .int .i64 (Int.ofNat 0), .int .i64 (Int.ofNat 106), .int .u32 (Int.ofNat 0), .int .u32 (Int.ofNat 0), .int .u64 (Int.ofNat 0), .nilSlice, .int .i64 (Int.ofNat 0), .int .i64 (Int.ofNat 36), .int .u32 (Int.ofNat 0), .int .u32 (Int.ofNat 0), .int .u64 (Int.ofNat 0), .nilSlice, .int .i64 (Int.ofNat 0), .int .i64 (Int.ofNat 35), .int .u32 (Int.ofNat 0), .int .u32 (Int.ofNat 0), .int .u64 (Int.ofNat 0), .nilSlice, .int .i64 (Int.ofNat 0), .int .i64 (Int.ofNat 11), .int .u32 (Int.ofNat 0), .int .u32 (Int.ofNat 0), .int .u64 (Int.ofNat 0), .nilSlice, .int .i64 (Int.ofNat 0)], [.int .i64 (Int.ofNat 35), .int .u32 (Int.ofNat 0), .int .u32 (Int.ofNat 0), .int .u64 (Int.ofNat 0), .nilSlice, .int .i64 (Int.ofNat 0), .int .i64 (Int.ofNat 11), .int .u32 (Int.ofNat 0), .int .u32 (Int.ofNat 0), .int .u64 (Int.ofNat 0), .nilSlice, .int .i64 (Int.ofNat 0)], [.int .i64 (Int.ofNat 65), .int .u32 (Int.ofNat 0), .int .u32 (Int.ofNat 0), .int .u64 (Int.ofNat 99), .nilSlice, .int .i64 (Int.ofNat 0), .int .i64 (Int.ofNat 36), .int .u32 (Int.ofNat 0), .int .u32 (Int.ofNat 0), .int .u64 (Int.ofNat 0), .nilSlice, .int .i64 (Int.ofNat 0), .int .i64 (Int.ofNat 3), .int .u32 (Int.ofNat 0), .int .u32 (Int.ofNat 0), .int .u64 (Int.ofNat 0), .nilSlice, .int .i64 (Int.negSucc 63), .int .i64 (Int.ofNat 12), .int .u32 (Int.ofNat 0), .int .u32 (Int.ofNat 0), .int .u64 (Int.ofNat 0), .nilSlice, .int .i64 (Int.ofNat 0), .int .i64 (Int.ofNat 11), .int .u32 (Int.ofNat 0), .int .u32 (Int.ofNat 0), .int .u64 (Int.ofNat 0), .nilSlice, .int .i64 (Int.ofNat 0), .int .i64 (Int.ofNat 11), .int .u32 (Int.ofNat 0), .int .u32 (Int.ofNat 0), .int .u64 (Int.ofNat 0), .nilSlice, .int .i64 (Int.ofNat 0)], [.int .i64 (Int.ofNat 35), .int .u32 (Int.ofNat 0), .int .u32 (Int.ofNat 0), .int .u64 (Int.ofNat 0), .nilSlice, .int .i64 (Int.ofNat 0), .int .i64 (Int.ofNat 65), .int .u32 (Int.ofNat 0), .int .u32 (Int.ofNat 0), .int .u64 (Int.ofNat 1000), .nilSlice, .int .i64 (Int.ofNat 0), .int .i64 (Int.ofNat 106), .int .u32 (Int.ofNat 0), .int .u32 (Int.ofNat 0), .int .u64 (Int.ofNat 0), .nilSlice, .int .i64 (Int.ofNat 0), .int .i64 (Int.ofNat 36), .int .u32 (Int.ofNat 0), .int .u32 (Int.ofNat 0), .int .u64 (Int.ofNat 0), .nilSlice, .int .i64 (Int.ofNat 0), .int .i64 (Int.ofNat 0), .int .u32 (Int.ofNat 0), .int .u32 (Int.ofNat 0), .int .u64 (Int.ofNat 0), .nilSlice, .int .i64 (Int.ofNat 0), .int .i64 (Int.ofNat 11), .int .u32 (Int.ofNat 0), .int .u32 (Int.ofNat 0), .int .u64 (Int.ofNat 0), .nilSlice, .int .i64 (Int.ofNat 0)], [.int .i64 (Int.ofNat 32), .int .u32 (Int.ofNat 0), .int .u32 (Int.ofNat 0), .int .u64 (Int.ofNat 0), .nilSlice, .int .i64 (Int.ofNat 0), .int .i64 (Int.ofNat 32), .int .u32 (Int.ofNat 1), .int .u32 (Int.ofNat 0), .int .u64 (Int.ofNat 0), .nilSlice, .int .i64 (Int.ofNat 0), .int .i64 (Int.ofNat 58), .int .u32 (Int.ofNat 0), .int .u32 (Int.ofNat 0), .int .u64 (Int.ofNat 0), .nilSlice, .int .i64 (Int.ofNat 0), .int .i64 (Int.ofNat 11), .int .u32 (Int.ofNat 0), .int .u32 (Int.ofNat 0), .int .u64 (Int.ofNat 0), .nilSlice, .int .i64 (Int.ofNat 0)], [.int .i64 (Int.ofNat 32), .int .u32 (Int.ofNat 0), .int .u32 (Int.ofNat 0), .int .u64 (Int.ofNat 0), .nilSlice, .int .i64 (Int.ofNat 0), .int .i64 (Int.ofNat 45), .int .u32 (Int.ofNat 0), .int .u32 (Int.ofNat 0), .int .u64 (Int.ofNat 0), .nilSlice, .int .i64 (Int.ofNat 0), .int .i64 (Int.ofNat 11), .int .u32 (Int.ofNat 0), .int .u32 (Int.ofNat 0), .int .u64 (Int.ofNat 0), .nilSlice, .int .i64 (Int.ofNat 0)], [.int .i64 (Int.ofNat 2), .int .u32 (Int.ofNat 0), .int .u32 (Int.ofNat 0), .int .u64 (Int.ofNat 0), .nilSlice, .int .i64 (Int.negSucc 63), .int .i64 (Int.ofNat 3), .int .u32 (Int.ofNat 0), .int .u32 (Int.ofNat 0), .int .u64 (Int.ofNat 0), .nilSlice, .int .i64 (Int.negSucc 63), .int .i64 (Int.ofNat 32), .int .u32 (Int.ofNat 0), .int .u32 (Int.ofNat 0), .int .u64 (Int.ofNat 0), .nilSlice, .int .i64 (Int.ofNat 0), .int .i64 (Int.ofNat 69), .int .u32 (Int.ofNat 0), .int .u32 (Int.ofNat 0), .int .u64 (Int.ofNat 0), .nilSlice, .int .i64 (Int.ofNat 0), .int .i64 (Int.ofNat 13), .int .u32 (Int.ofNat 1), .int .u32 (Int.ofNat 0), .int .u64 (Int.ofNat 0), .nilSlice, .int .i64 (Int.ofNat 0), .int .i64 (Int.ofNat 32), .int .u32 (Int.ofNat 0), .int .u32 (Int.ofNat 0), .int .u64 (Int.ofNat 0), .nilSlice, .int .i64 (Int.ofNat 0), .int .i64 (Int.ofNat 65), .int .u32 (Int.ofNat 0), .int .u32 (Int.ofNat 0), .int .u64 (Int.ofNat 1), .nilSlice, .int .i64 (Int.ofNat 0), .int .i64 (Int.ofNat 107), .int .u32 (Int.ofNat 0), .int .u32 (Int.ofNat 0), .int .u64 (Int.ofNat 0), .nilSlice, .int .i64 (Int.ofNat 0), .int .i64 (Int.ofNat 33), .int .u32 (Int.ofNat 0), .int .u32 (Int.ofNat 0), .int .u64 (Int.ofNat 0), .nilSlice, .int .i64 (Int.ofNat 0), .int .i64 (Int.ofNat 35), .int .u32 (Int.ofNat 0), .int .u32 (Int.ofNat 0), .int .u64 (Int.ofNat 0), .nilSlice, .int .i64 (Int.ofNat 0), .int .i64 (Int.ofNat 65), .int .u32 (Int.ofNat 0), .int .u32 (Int.ofNat 0), .int .u64 (Int.ofNat 1), .nilSlice, .int .i64 (Int.ofNat 0), .int .i64 (Int.ofNat 106), .int .u32 (Int.ofNat 0), .int .u32 (Int.ofNat 0), .int .u64 (Int.ofNat 0), .nilSlice, .int .i64 (Int.ofNat 0), .int .i64 (Int.ofNat 36), .int .u32 (Int.ofNat 0), .int .u32 (Int.ofNat 0), .int .u64 (Int.ofNat 0), .nilSlice, .int .i64 (Int.ofNat 0), .int .i64 (Int.ofNat 12), .int .u32 (Int.ofNat 0), .int .u32 (Int.ofNat 0), .int .u64 (Int.ofNat 0), .nilSlice, .int .i64 (Int.ofNat 0), .int .i64 (Int.ofNat 11), .int .u32 (Int.ofNat 0), .int .u32 (Int.ofNat 0), .int .u64 (Int.ofNat 0), .nilSlice, .int .i64 (Int.ofNat 0), .int .i64 (Int.ofNat 11), .int .u32 (Int.ofNat 0), .int .u32 (Int.ofNat 0), .int .u64 (Int.ofNat 0), .nilSlice, .int .i64 (Int.ofNat 0), .int .i64 (Int.ofNat 35), .int .u32 (Int.ofNat 0), .int .u32 (Int.ofNat 0), .int .u64 (Int.ofNat 0), .nilSlice, .int .i64 (Int.ofNat 0), .int .i64 (Int.ofNat 11), .int .u32 (Int.ofNat 0), .int .u32 (Int.ofNat 0), .int .u64 (Int.ofNat 0), .nilSlice, .int .i64 (Int.ofNat 0)], [.int .i64 (Int.ofNat 65), .int .u32 (Int.ofNat 0), .int .u32 (Int.ofNat 0), .int .u64 (Int.ofNat 5), .nilSlice, .int .i64 (Int.ofNat 0), .int .i64 (Int.ofNat 36), .int .u32 (Int.ofNat 0), .int .u32 (Int.ofNat 0), .int .u64 (Int.ofNat 0), .nilSlice, .int .i64 (Int.ofNat 0), .int .i64 (Int.ofNat 16), .int .u32 (Int.ofNat 7), .int .u32 (Int.ofNat 0), .int .u64 (Int.ofNat 0), .nilSlice, .int .i64 (Int.ofNat 0), .int .i64 (Int.ofNat 11), .int .u32 (Int.ofNat 0), .int .u32 (Int.ofNat 0), .int .u64 (Int.ofNat 0), .nilSlice, .int .i64 (Int.ofNat 0)]]
noncomputable def ows135 : List Own := [.pair 64, .pair 90, .solo, .solo, .pair 157, .pair 362, .solo, .solo, .solo, .pair 69, .pair 108, .pair 186, .pair 200, .pair 228, .pair 254, .pair 274, .pair 291, .pair 357, .pair 377]
noncomputable def val135 : AV := .tuple [.agg [.slice 0 0 4 4 2 false, .slice 1 0 8 8 1 false, .nilSlice, .slice 2 0 1 1 3 false, .slice 3 0 1 1 3 false, .slice 4 0 8 8 3 false, .bool false, .int .u32 (Int.ofNat 0), .nilSlice, .bool false, .int .u32 (Int.ofNat 0), .slice 5 0 8 8 2 false, .nilSlice], .int .i64 (Int.ofNat 0)]
theorem chk135 : memoChk srcs135 lits135 ows135 val135 = true := by kernel_rfl
noncomputable def text135 : List Nat := [0, 97, 115, 109, 1, 0, 0, 0, 1, 18, 4, 96, 0, 0, 96, 1, 127, 1, 127, 96, 0, 1, 127, 96, 2, 127, 127, 0, 3, 9, 8, 1, 2, 0, 0, 3, 1, 1, 0, 5, 3, 1, 0, 1, 6, 6, 1, 127, 1, 65, 0, 11, 7, 54, 8, 3, 105, 110, 99, 0, 0, 3, 103, 101, 116, 0, 1, 4, 115, 112, 105, 110, 0, 2, 4, 116, 114, 97, 112, 0, 3, 3, 112, 117, 116, 0, 4, 4, 112, 101, 101, 107, 0, 5, 4, 119, 111, 114, 107, 0, 6, 4, 100, 101, 101, 112, 0, 7, 10, 102, 8, 11, 0, 35, 0, 32, 0, 106, 36, 0, 35, 0, 11, 4, 0, 35, 0, 11, 12, 0, 65, 227, 0, 36, 0, 3, 64, 12, 0, 11, 11, 11, 0, 35, 0, 65, 232, 7, 106, 36, 0, 0, 11, 9, 0, 32, 0, 32, 1, 58, 0, 0, 11, 7, 0, 32, 0, 45, 0, 0, 11, 31, 0, 2, 64, 3, 64, 32, 0, 69, 13, 1, 32, 0, 65, 1, 107, 33, 0, 35, 0, 65, 1, 106, 36, 0, 12, 0, 11, 11, 35, 0, 11, 8, 0, 65, 5, 36, 0, 16, 7, 11]
theorem key135 : (evF noM (progS Tryz.prog (compDrawn Tryz.prog)) 100000 14 135 [.slice 0 0 (len text135) (len text135) 1 false] (hB text135)).cs none (fun v h => some (v, lmap (hget h) srcs135)) = some (renT (loc srcs135) val135, mkB (loc srcs135) lits135 ows135) := by kernel_rfl
noncomputable def memoS (f : Nat) : Option (List AV → Hp → RV) := (bc (Nat.beq f 16) (some (memo0 val16 lits16)) (bc (Nat.beq f 135) (some (memo1 text135 val135 lits135)) none))
theorem memoS_ok : Eng.Good Tryz.prog fun f args h => ocase .no (fun m => m args h) (memoS f) := fun f args h v h' μ w cargs e hs r => by
  replace e : ocase RV.no (fun m => m args h) (bc (Nat.beq f 16) (some (memo0 val16 lits16)) (bc (Nat.beq f 135) (some (memo1 text135 val135 lits135)) none)) = .ok v h' := e
  cases hf0 : Nat.beq f 16 with
  | true =>
    obtain rfl : f = 16 := Nat.eq_of_beq_eq_true hf0
    rw [hf0] at e
    replace e : (memo0 val16 lits16) args h = .ok v h' := e
    exact memo0_ok compDrawn_ok noM_ok key16 chk16 e hs r
  | false =>
    rw [hf0, bc_false] at e
    cases hf1 : Nat.beq f 135 with
    | true =>
      obtain rfl : f = 135 := Nat.eq_of_beq_eq_true hf1
      rw [hf1] at e
      replace e : (memo1 text135 val135 lits135) args h = .ok v h' := e
      exact memo1_ok (by unfold text135; nofun) compDrawn_ok noM_ok key135 chk135 e hs r
    | false =>
      rw [hf1, bc_false] at e
      cases e
noncomputable abbrev memK : Nat → Option (List AV → Hp → RV) := orM memoS sumK
theorem memK_ok : Eng.Good Tryz.prog fun f args h => ocase .no (fun m => m args h) (memK f) := orM_ok memoS_ok sumK_ok
end Go.Proofs.YtfcljjhlijolgaaGreatDoor
end
section
set_option linter.unusedVariables false
namespace Eng
open Go Go.RowKit
def qm (d s : Nat) : AO := ⟨some d, .q (.move (.tmp s)), none⟩
def qo (d : Nat) (o : QOp) : AO := ⟨some d, .q o, none⟩
def lo (d : Nat) (o : LOp) : AO := ⟨some d, .l o, none⟩
def eo (d : Nat) (o : EOp) : AO := ⟨some d, .e o, none⟩
def en (o : EOp) : AO := ⟨none, .e o, none⟩
def tq (n : Nat) : AX := .tmp n
noncomputable def tabT (es : List (Nat × AF)) : Tr AF := lrec .lf (fun e _ ih => tset (pathOf e.1) e.2 ih) es
theorem tabT_mem : ∀ (es : List (Nat × AF)) (f : Nat) (af : AF), tget (pathOf f) (tabT es) = some af → (f, af) ∈ es
  | [], f, af, h => by
    have h : tget (pathOf f) (.lf : Tr AF) = some af := h
    rw [tget_lf] at h; cases h
  | e :: es, f, af, h => by
    have h : tget (pathOf f) (tset (pathOf e.1) e.2 (tabT es)) = some af := h
    by_cases q : f = e.1
    · subst q
      rw [tget_tset] at h
      cases h
      exact List.mem_cons_self
    · rw [tget_tset_ne _ _ _ _ (fun q' => q (pathOf_inj q'))] at h
      exact List.mem_cons_of_mem _ (tabT_mem es f af h)
noncomputable def tabS (P : Program) (D : Nat → Array Oper → AC) (t : Tr AF) (f : Nat) : Option AF := ocase (progS P D f) some (tget (pathOf f) t)
theorem tabS_eq {P : Program} {D : Nat → Array Oper → AC} {es : List (Nat × AF)} (h : ∀ e ∈ es, progS P D e.1 = some e.2) : tabS P D (tabT es) = progS P D := by
  funext f
  unfold tabS
  cases q : tget (pathOf f) (tabT es) with
  | none => rfl
  | some af => exact (h _ (tabT_mem es f af q)).symm
end Eng
end
section
set_option linter.unusedVariables false
namespace Eng
open Go
noncomputable def chkQ (o : Nat → QOp) (f : Nat → AV) (c : Nat → Bool) (N : Nat) : Bool :=
  Nat.rec (motive := fun _ => Bool) true (fun m ih => bc (bc (c m) ((evQ (o m) .lf H0).cs false fun v => avEq v (f m)) true) ih false) N
theorem t0 {o : QOp} {v : AV} (h : ((evQ o .lf H0).cs false fun u => avEq u v) = true) : evQ o .lf H0 = .ok v := by
  cases e : evQ o .lf H0 with
  | no => rw [e] at h; cases h
  | ok u => rw [e] at h; rw [avEq_eq u v h]
theorem t1 {o : Nat → QOp} {f : Nat → AV} {c : Nat → Bool} {N : Nat} (h : chkQ o f c N = true) {a : Nat} (ha : a < N) (hc : c a = true) : evQ (o a) .lf H0 = .ok (f a) := by
  induction N with
  | zero => omega
  | succ m ih =>
    have h : bc (bc (c m) ((evQ (o m) .lf H0).cs false fun v => avEq v (f m)) true) (chkQ o f c m) false = true := h
    obtain ⟨h1, h2⟩ := bc_and.1 h
    by_cases e : a = m
    · subst e
      rw [hc] at h1
      exact t0 h1
    · exact ih h2 (by omega)
noncomputable def chkQ2 (o : Nat → Nat → QOp) (f : Nat → Nat → AV) (c d : Nat → Bool) (M N : Nat) : Bool :=
  Nat.rec (motive := fun _ => Bool) true (fun m ih => bc (bc (c m) (chkQ (o m) (f m) d M) true) ih false) N
theorem t2 {o : Nat → Nat → QOp} {f : Nat → Nat → AV} {c d : Nat → Bool} {M N : Nat} (h : chkQ2 o f c d M N = true) {a b : Nat} (ha : a < N) (hb : b < M) (hc : c a = true) (hd : d b = true) : evQ (o a b) .lf H0 = .ok (f a b) := by
  induction N with
  | zero => omega
  | succ m ih =>
    have h : bc (bc (c m) (chkQ (o m) (f m) d M) true) (chkQ2 o f c d M m) false = true := h
    obtain ⟨h1, h2⟩ := bc_and.1 h
    by_cases e : a = m
    · subst e
      rw [hc] at h1
      exact t1 h1 hb hd
    · exact ih h2 (by omega)
end Eng
end
section
set_option linter.unusedVariables false
namespace Eng
open Go
inductive AE where
  | i (n : Int)
  | s (l : List Nat)
  | j (n k : Int)
  | b (x y : Bool)
inductive PT where
  | leaf
  | tell (c w : Nat) (o : QOp) (v : AV) (r : PT)
  | fork (c w : Nat) (raw : Bool) (a b : PT)
  | agn (c w : Nat) (l : List AE) (r : PT)
noncomputable section
def AE.eqp (x : AE) : Prop := AE.rec (motive := fun _ => Prop) (fun n => n = n) (fun l => l = l) (fun n k => n = k) (fun x y => x = y) x
def AE.chk (x : AE) : Bool := AE.rec (motive := fun _ => Bool) (fun _ => true) (fun _ => true) (fun n k => eqI n k) (fun x y => bc x y (notB y)) x
theorem AE.ok {x : AE} (h : x.chk = true) : x.eqp := by
  cases x with
  | i n => rfl
  | s l => rfl
  | b x y =>
    have h : bc x y (notB y) = true := h
    show x = y
    cases x <;> cases y <;> first | rfl | cases h
  | j n k => have h : eqI n k = true := h; rw [eqI_eq] at h; have h2 : n = k := of_decide_eq_true h; exact h2
def PT.orc (t : PT) : Orc := PT.rec (motive := fun _ => Orc) .fin (fun c _ _ v _ r => .tell c v r) (fun c _ _ _ _ a b => .fork c a b) (fun c _ _ _ r => .agn c r) t
def PT.prop (t : PT) : Prop := PT.rec (motive := fun _ => Prop) (AV.bool true = .bool true) (fun _ _ o v _ r => evQ o .lf H0 = .ok v ∧ r) (fun _ _ raw _ _ a b => (raw = true → a) ∧ (raw = false → b)) (fun _ _ l _ r => lrec r (fun x _ ih => x.eqp ∧ ih) l) t
def selW (p w : Nat) : Bool := bc (Nat.beq p 3) (bc (Nat.beq w 1) false (bc (Nat.beq w 2) false true)) (Nat.beq p w)
def PT.chk (p : Nat) (t : PT) : Bool := PT.rec (motive := fun _ => Bool) true (fun _ w o v _ r => bc (selW p w) (bc ((evQ o .lf H0).cs false fun u => avEq u v) r false) r)
  (fun _ w raw _ _ a b => bc (bc (Nat.beq p 3) true (Nat.beq p w)) (bc raw a b) (bc a b false)) (fun _ w l _ r => bc (selW p w) (bc (lall AE.chk l) r false) r) t
def PT.both (t : PT) : PT := PT.rec (motive := fun _ => PT) .leaf (fun c w o v _ r => bc (selW 3 w) (.tell c w o v r) r) (fun c w raw _ _ a b => .fork c w raw a b) (fun c w l _ r => bc (selW 3 w) (.agn c w l r) r) t
theorem selW_all (w : Nat) : selW 1 w = true ∨ selW 2 w = true ∨ selW 3 w = true := by
  by_cases h1 : w = 1
  · subst h1; exact .inl rfl
  · by_cases h2 : w = 2
    · subst h2; exact .inr (.inl rfl)
    · refine .inr (.inr ?_)
      show bc (Nat.beq w 1) false (bc (Nat.beq w 2) false true) = true
      rw [beqF h1, beqF h2]; rfl
theorem PT.ok : ∀ (t : PT), t.chk 1 = true → t.chk 2 = true → t.chk 3 = true → t.prop
  | .leaf, _, _, _ => rfl
  | .tell c w o v r, h1, h2, h3 => by
    have key : ∀ p, PT.chk p (.tell c w o v r) = true → r.chk p = true ∧ (selW p w = true → ((evQ o .lf H0).cs false fun u => avEq u v) = true) := fun p h => by
      have h : bc (selW p w) (bc ((evQ o .lf H0).cs false fun u => avEq u v) (r.chk p) false) (r.chk p) = true := h
      cases hs : selW p w with
      | true =>
        rw [hs] at h
        obtain ⟨k1, k2⟩ := bc_and.1 h
        exact ⟨k2, fun _ => k1⟩
      | false => rw [hs] at h; exact ⟨h, nofun⟩
    obtain ⟨a1, b1⟩ := key 1 h1
    obtain ⟨a2, b2⟩ := key 2 h2
    obtain ⟨a3, b3⟩ := key 3 h3
    refine ⟨t0 ?_, PT.ok r a1 a2 a3⟩
    rcases selW_all w with h | h | h
    · exact b1 h
    · exact b2 h
    · exact b3 h
  | .fork c w raw a b, h1, h2, h3 => by
    have key : ∀ p, PT.chk p (.fork c w raw a b) = true → (raw = true → a.chk p = true) ∧ (raw = false → b.chk p = true) := fun p h => by
      have h : bc (bc (Nat.beq p 3) true (Nat.beq p w)) (bc raw (a.chk p) (b.chk p)) (bc (a.chk p) (b.chk p) false) = true := h
      cases hs : bc (Nat.beq p 3) true (Nat.beq p w) with
      | true => rw [hs] at h; exact ⟨fun e => (by rw [e] at h; exact h), fun e => (by rw [e] at h; exact h)⟩
      | false =>
        rw [hs] at h
        obtain ⟨k1, k2⟩ := bc_and.1 h
        exact ⟨fun _ => k1, fun _ => k2⟩
    obtain ⟨a1, b1⟩ := key 1 h1
    obtain ⟨a2, b2⟩ := key 2 h2
    obtain ⟨a3, b3⟩ := key 3 h3
    exact ⟨fun e => PT.ok a (a1 e) (a2 e) (a3 e), fun e => PT.ok b (b1 e) (b2 e) (b3 e)⟩
  | .agn c w l r, h1, h2, h3 => by
    have key : ∀ p, PT.chk p (.agn c w l r) = true → r.chk p = true ∧ (selW p w = true → lall AE.chk l = true) := fun p h => by
      have h : bc (selW p w) (bc (lall AE.chk l) (r.chk p) false) (r.chk p) = true := h
      cases hs : selW p w with
      | true =>
        rw [hs] at h
        obtain ⟨k1, k2⟩ := bc_and.1 h
        exact ⟨k2, fun _ => k1⟩
      | false => rw [hs] at h; exact ⟨h, nofun⟩
    obtain ⟨a1, b1⟩ := key 1 h1
    obtain ⟨a2, b2⟩ := key 2 h2
    obtain ⟨a3, b3⟩ := key 3 h3
    have hr := PT.ok r a1 a2 a3
    have hl : lall AE.chk l = true := by
      rcases selW_all w with h | h | h
      · exact b1 h
      · exact b2 h
      · exact b3 h
    show lrec r.prop (fun x _ ih => x.eqp ∧ ih) l
    clear h1 h2 h3 key b1 b2 b3
    induction l with
    | nil => exact hr
    | cons x l ih =>
      obtain ⟨k1, k2⟩ := bc_and.1 (show bc x.chk (lall AE.chk l) false = true from hl)
      exact ⟨AE.ok k1, ih k2⟩
def allK (f : Nat → Bool) (N : Nat) : Bool := Nat.rec (motive := fun _ => Bool) true (fun m ih => bc (f m) ih false) N
end
end Eng
end
section
set_option linter.unusedVariables false
set_option linter.unusedSimpArgs false
namespace Eng
open Go Go.RowKit
def Mp.LeV (μ μ' : Mp) : Prop := ∀ b c s, μ.at_ b = some (c, s) → μ'.at_ b = some (c, s) ∧ μ'.size c = μ.size c
mutual
theorem VR.monoV {μ μ' : Mp} (h : μ.LeV μ') : ∀ (v : AV) (x : Value), VR μ v x → VR μ' v x
  | .bool _, _, r => by unfold VR at *; exact r
  | .int _ _, _, r => by unfold VR at *; exact r
  | .str _, _, r => by unfold VR at *; exact r
  | .nilPtr, _, r => by unfold VR at *; exact r
  | .ptr b o, _, r => by
    unfold VR at *
    obtain ⟨c, s, hb, hx⟩ := r
    exact ⟨c, s, (h _ _ _ hb).1, hx⟩
  | .nilSlice, _, r => by unfold VR at *; exact r
  | .slice b o l cp sz ex, _, r => by
    unfold VR at *
    obtain ⟨c, s, s', cp', hb, hx, h1, h2, h3, h4⟩ := r
    exact ⟨c, s, s', cp', (h _ _ _ hb).1, hx, h1, h2, h3, by rw [(h _ _ _ hb).2]; exact h4⟩
  | .nilMap, _, r => by unfold VR at *; exact r
  | .map b, _, r => by
    unfold VR at *
    obtain ⟨c, s, hb, hx⟩ := r
    exact ⟨c, s, (h _ _ _ hb).1, hx⟩
  | .func fn a b, _, r => by
    unfold VR at *
    obtain ⟨a', b', hx, ha, hb⟩ := r
    exact ⟨a', b', hx, VRs.monoV h a _ ha, VRs.monoV h b _ hb⟩
  | .nilFunc, _, r => by unfold VR at *; exact r
  | .iface t v, _, r => by
    unfold VR at *
    obtain ⟨v', hx, hv⟩ := r
    exact ⟨v', hx, VR.monoV h v _ hv⟩
  | .nilIface, _, r => by unfold VR at *; exact r
  | .agg l, _, r => by
    unfold VR at *
    obtain ⟨l', hx, hl⟩ := r
    exact ⟨l', hx, VRs.monoV h l _ hl⟩
  | .tuple l, _, r => by
    unfold VR at *
    obtain ⟨l', hx, hl⟩ := r
    exact ⟨l', hx, VRs.monoV h l _ hl⟩
theorem VRs.monoV {μ μ' : Mp} (h : μ.LeV μ') : ∀ (l : List AV) (xs : List Value), VRs μ l xs → VRs μ' l xs
  | [], _, r => by unfold VRs at *; exact r
  | v :: vs, _, r => by
    unfold VRs at *
    obtain ⟨x, xs, hx, h1, h2⟩ := r
    exact ⟨x, xs, hx, VR.monoV h v _ h1, VRs.monoV h vs _ h2⟩
end
mutual
theorem VR.back {μ μ' : Mp} (h : μ.LeV μ') : ∀ (v : AV) (x0 x : Value), VR μ v x0 → VR μ' v x → VR μ v x
  | .bool _, _, _, _, r => by unfold VR at *; exact r
  | .int _ _, _, _, _, r => by unfold VR at *; exact r
  | .str _, _, _, _, r => by unfold VR at *; exact r
  | .nilPtr, _, _, _, r => by unfold VR at *; exact r
  | .ptr b o, _, _, r0, r => by
    unfold VR at *
    obtain ⟨c0, s0, hb0, _⟩ := r0
    obtain ⟨c, s, hb, hx⟩ := r
    rw [(h _ _ _ hb0).1] at hb
    cases hb
    exact ⟨c0, s0, hb0, hx⟩
  | .nilSlice, _, _, _, r => by unfold VR at *; exact r
  | .slice b o l cp sz ex, _, _, r0, r => by
    unfold VR at *
    obtain ⟨c0, s0, _, _, hb0, _⟩ := r0
    obtain ⟨c, s, s', cp', hb, hx, h1, h2, h3, h4⟩ := r
    rw [(h _ _ _ hb0).1] at hb
    cases hb
    exact ⟨c0, s0, s', cp', hb0, hx, h1, h2, h3, by rw [← (h _ _ _ hb0).2]; exact h4⟩
  | .nilMap, _, _, _, r => by unfold VR at *; exact r
  | .map b, _, _, r0, r => by
    unfold VR at *
    obtain ⟨c0, s0, hb0, _⟩ := r0
    obtain ⟨c, s, hb, hx⟩ := r
    rw [(h _ _ _ hb0).1] at hb
    cases hb
    exact ⟨c0, s0, hb0, hx⟩
  | .func fn a b, _, _, r0, r => by
    unfold VR at *
    obtain ⟨a0, b0, _, ha0, hb0⟩ := r0
    obtain ⟨a', b', hx, ha, hb⟩ := r
    exact ⟨a', b', hx, VRs.back h a _ _ ha0 ha, VRs.back h b _ _ hb0 hb⟩
  | .nilFunc, _, _, _, r => by unfold VR at *; exact r
  | .iface t v, _, _, r0, r => by
    unfold VR at *
    obtain ⟨v0, _, hv0⟩ := r0
    obtain ⟨v', hx, hv⟩ := r
    exact ⟨v', hx, VR.back h v _ _ hv0 hv⟩
  | .nilIface, _, _, _, r => by unfold VR at *; exact r
  | .agg l, _, _, r0, r => by
    unfold VR at *
    obtain ⟨l0, _, hl0⟩ := r0
    obtain ⟨l', hx, hl⟩ := r
    exact ⟨l', hx, VRs.back h l _ _ hl0 hl⟩
  | .tuple l, _, _, r0, r => by
    unfold VR at *
    obtain ⟨l0, _, hl0⟩ := r0
    obtain ⟨l', hx, hl⟩ := r
    exact ⟨l', hx, VRs.back h l _ _ hl0 hl⟩
theorem VRs.back {μ μ' : Mp} (h : μ.LeV μ') : ∀ (l : List AV) (xs0 xs : List Value), VRs μ l xs0 → VRs μ' l xs → VRs μ l xs
  | [], _, _, _, r => by unfold VRs at *; exact r
  | v :: vs, _, _, r0, r => by
    unfold VRs at *
    obtain ⟨x0, xs0, _, h10, h20⟩ := r0
    obtain ⟨x, xs, hx, h1, h2⟩ := r
    exact ⟨x, xs, hx, VR.back h v _ _ h10 h1, VRs.back h vs _ _ h20 h2⟩
end
noncomputable def keepS (S : List Nat) (h : Hp) : Hp := ⟨h.next, lrec .lf (fun b _ ih => ocase ih (fun x => tset (pathOf b) x ih) (hget h b)) S⟩
def aloneB (x : Blk) : Bool := match x with
  | .cells _ _ w => match w with | .pair _ => false | _ => true
  | .mp _ _ _ => true
  | .dead => false
open Classical in
noncomputable def Mp.only (μ : Mp) (S : List Nat) : Mp := ⟨μ.at_, fun c => μ.own c && decide (∃ b ∈ S, ∃ s, μ.at_ b = some (c, s)), μ.size⟩
open Classical in
theorem only_eq (μ : Mp) (S : List Nat) (c : Nat) : (μ.only S).own c = (μ.own c && decide (∃ b ∈ S, ∃ s, μ.at_ b = some (c, s))) := rfl
open Classical in
theorem only_true {μ : Mp} {S : List Nat} {c : Nat} (h : (μ.only S).own c = true) : μ.own c = true ∧ ∃ b ∈ S, ∃ s, μ.at_ b = some (c, s) := by
  rw [only_eq, Bool.and_eq_true] at h
  exact ⟨h.1, of_decide_eq_true h.2⟩
theorem only_own {μ : Mp} {S : List Nat} {b c s : Nat} (hb : b ∈ S) (h : μ.at_ b = some (c, s)) : (μ.only S).own c = μ.own c := by
  rw [only_eq]
  simp only [decide_eq_true_eq, Bool.and_eq_left_iff_imp]
  exact fun _ => ⟨b, hb, s, h⟩
theorem LeV.only (μ : Mp) (S : List Nat) : μ.LeV (μ.only S) := fun b c s h => ⟨h, rfl⟩
theorem EntriesR.monoV {μ μ' : Mp} {es : List (AV × AV × Nat)} {es' : List MapEntry} (hle : μ.LeV μ') (r : EntriesR μ es es') : EntriesR μ' es es' :=
  ⟨r.1, fun i k v n hi => by
    obtain ⟨h1, e, h2, h3, h4, h5⟩ := r.2 i k v n hi
    exact ⟨h1, e, h2, VR.monoV hle _ _ h3, VR.monoV hle _ _ h4, h5⟩⟩
theorem EntriesR.back {μ μ' : Mp} {es : List (AV × AV × Nat)} {es0 es' : List MapEntry} (hle : μ.LeV μ') (r0 : EntriesR μ es es0) (r : EntriesR μ' es es') : EntriesR μ es es' :=
  ⟨r.1, fun i k v n hi => by
    obtain ⟨_, e0, _, h30, h40, _⟩ := r0.2 i k v n hi
    obtain ⟨h1, e, h2, h3, h4, h5⟩ := r.2 i k v n hi
    exact ⟨h1, e, h2, VR.back hle _ _ _ h30 h3, VR.back hle _ _ _ h40 h4, h5⟩⟩
section
variable {μ : Mp} {g : Hp} {w : World} {S : List Nat}
theorem Sim.fixed (hs : Sim μ g w) (hS : ∀ b ∈ S, ∃ x, hget g b = some x ∧ aloneB x = true) {μ1 : Mp} {h1 : Hp} {w1 : World} (hs1 : Sim μ1 h1 w1) (go : Goes (μ.only S) (keepS S g) w μ1 h1 w1)
    (same : ∀ b ∈ S, hget h1 b = hget g b) : Sim μ g w1 ∧ Goes μ g w μ g w1 := by
  have hle : μ.LeV μ1 := fun b c s hb => by
    have hlt : b < (keepS S g).next := by
      rcases Nat.lt_or_ge b g.next with h | h
      · exact h
      · rw [hs.lt b h] at hb; cases hb
    exact ⟨(go.at_ b hlt).trans hb, go.size c (hs.old b c s hb)⟩
  refine ⟨⟨hs.lt, hs.fresh, fun b c s hb => Nat.lt_of_lt_of_le (hs.old b c s hb) go.heap, fun b c s x hb hx => ?_, hs.apart, hs.peer⟩,
    ⟨Nat.le_refl _, fun _ _ => rfl, fun _ _ => rfl, fun _ _ => rfl, go.heap, fun c hc ho => go.kept c hc (by rw [only_eq, ho]; rfl), fun _ _ _ => .inl rfl, go.os, go.tape, go.output⟩⟩
  have r0 := hs.blk b c s x hb hx
  have hc := hs.old b c s hb
  by_cases hbS : b ∈ S
  · have hat := (hle b c s hb).1
    have r := hs1.blk b c s x hat ((same b hbS).trans hx)
    have ho : μ1.own c = μ.own c := (go.own c hc).trans (only_own hbS hb)
    have hz : μ1.size c = μ.size c := (hle b c s hb).2
    cases x with
    | cells cs n ow =>
      obtain ⟨g1, g2, g3, arr0, e0, fr0, g4, g5, g6, g7⟩ := r0
      obtain ⟨h1, h2, h3, arr, e, fr, h4, h5, h6, h7⟩ := r
      refine ⟨h1, h2, g3, arr, e, fr, h4, by rw [← hz]; exact h5, by rw [← ho]; exact h6, fun i v hv => ?_⟩
      obtain ⟨x0, _, r0⟩ := g7 i v hv
      obtain ⟨x, hx, r⟩ := h7 i v hv
      exact ⟨x, hx, VR.back hle _ _ _ r0 r⟩
    | mp es n ck =>
      obtain ⟨g1, g2, g3, es0, g4, g5⟩ := r0
      obtain ⟨h1, h2, h3, es', h4, h5⟩ := r
      exact ⟨h1, h2, g3, es', h4, EntriesR.back hle g5 h5⟩
    | dead => trivial
  · cases x with
    | dead => trivial
    | _ =>
      have ho : (μ.only S).own c = false := by
        cases h : (μ.only S).own c with
        | false => rfl
        | true =>
          exfalso
          obtain ⟨ho, b', hb'S, s', hb'⟩ := only_true h
          obtain ⟨x', hx', ha⟩ := hS b' hb'S
          have hne : b ≠ b' := fun e => hbS (e ▸ hb'S)
          obtain ⟨cs, n, cs', n', _, e2⟩ := hs.apart b b' c s s' _ x' hne hb hb' ho hx hx' nofun (fun e => by rw [e] at ha; cases ha)
          rw [e2] at ha
          cases ha
      have hw : w1.heap[c]? = w.heap[c]? := go.kept c hc ho
      exact r0.mono (Mp.Le.refl μ) hw rfl rfl
end
noncomputable def entB (e f : AV × AV × Nat) : Bool := bc (avEq e.1 f.1) (bc (avEq e.2.1 f.2.1) (Nat.beq e.2.2 f.2.2) false) false
noncomputable def entsB (l : List (AV × AV × Nat)) : List (AV × AV × Nat) → Bool := lrec (fun m => lcase true (fun _ _ => false) m) (fun e _ ih m => lcase false (fun f m => bc (entB e f) (ih m) false) m) l
noncomputable def ownB (a b : Own) : Bool := match a, b with
  | .solo, .solo => true
  | .ro, .ro => true
  | _, _ => false
noncomputable def blkB (x y : Blk) : Bool := match x, y with
  | .cells cs n w, .cells cs' n' w' => bc (Nat.beq n n') (bc (ownB w w') (avEq (.agg cs) (.agg cs')) false) false
  | .mp es n c, .mp es' n' c' => bc (Nat.beq n n') (bc (Nat.beq c c') (entsB es es') false) false
  | _, _ => false
noncomputable def stillB (S : List Nat) (g h : Hp) : Bool := lall (fun b => ocase false (fun x => ocase false (fun y => bc (aloneB x) (blkB x y) false) (hget h b)) (hget g b)) S
noncomputable def isUnit (v : AV) : Bool := match v with | .tuple [] => true | _ => false
noncomputable def fixB (call : CallT) (S : List Nat) (f : Nat) (args : List AV) (g : Hp) : Bool := (call f args (keepS S g)).cs false fun v h => bc (isUnit v) (stillB S g h) false
end Eng
end
section
set_option linter.unusedVariables false
set_option linter.unusedSimpArgs false
namespace Eng
open Go Go.RowKit
abbrev SumW := List AV → Hp → Nat → Orc → KR → Prop
noncomputable section
def owcase (z : Prop) (f : SumW → Prop) (o : Option SumW) : Prop := Option.rec (motive := fun _ => Prop) z f o
def evFX (MW : Nat → Option SumW) (M : Nat → Option (List AV → Hp → RV)) (S : Nat → Option AF) (N : Nat) (d : Nat) : CallW :=
  Nat.rec (motive := fun _ => CallW) (fun _ _ _ _ _ _ => False) (fun d' ih f args h c r k =>
    owcase (ocase (f1W S N (evF M S N d') ih f args h c r k) (fun m => (m args h).cs False fun v h => k v h c r) (M f)) (fun (w : SumW) => w args h c r k) (MW f)) d
end
theorem evFX_ok {MW : Nat → Option SumW} {M : Nat → Option (List AV → Hp → RV)} {S : Nat → Option AF} {N : Nat}
    (hw : ∀ f w, MW f = some w → ∃ m, M f = some m ∧ ∀ args h c r k, w args h c r k → ∃ v h' c' r', m args h = .ok v h' ∧ k v h' c' r') : ∀ d, CallOk (evF M S N d) (evFX MW M S N d)
  | 0 => fun f args h c r k e => False.elim e
  | d + 1 => fun f args h c r k e => by
    have e : (owcase (ocase (f1W S N (evF M S N d) (evFX MW M S N d) f args h c r k) (fun m => (m args h).cs False fun v h => k v h c r) (M f)) (fun (w : SumW) => w args h c r k) (MW f) : Prop) := e
    show ∃ v h' c' r', ocase (evF1 S N (evF M S N d) f args h) (fun m => m args h) (M f) = .ok v h' ∧ _
    cases hq : MW f with
    | some w =>
      rw [hq] at e
      obtain ⟨m, hm, H⟩ := hw f w hq
      rw [hm]
      exact H args h c r k e
    | none =>
      rw [hq] at e
      have e : (ocase (f1W S N (evF M S N d) (evFX MW M S N d) f args h c r k) (fun m => (m args h).cs False fun v h => k v h c r) (M f) : Prop) := e
      cases hm : M f with
      | none => rw [hm] at e; exact f1W_ok (evFX_ok hw d) f args h c r k e
      | some m => rw [hm] at e; obtain ⟨v, h', h2, h3⟩ := okr e; exact ⟨v, h', _, _, h2, h3⟩
noncomputable def lessOp (a : AV) : QOp := .bin .lss (.const a) (.const (.int .i64 (.ofNat 9223372036854775807)))
noncomputable def isT (v : AV) : Bool := match v with | .bool b => b | _ => false
noncomputable def fitsB (args : List AV) : Bool := match args with
  | [_, _, _, a] => (evQ (lessOp a) .lf H0).cs false isT
  | _ => false
noncomputable def fitW (m : List AV → Hp → RV) (args : List AV) (h : Hp) (c : Nat) (r : Orc) (k : KR) : Prop := match args with
  | [a0, a1, a2, a3] => Nat.rec (motive := fun _ => Prop)
    (r.cs False (fun x r => evQ (lessOp a3) .lf H0 = .ok x ∧ bc (isT x) ((m [a0, a1, a2, a3] h).cs False fun v h => k v h r.n r) False) (fun _ _ => False) (fun _ _ _ => False) (fun _ _ => False) (fun _ => False) (fun _ => False) (fun _ _ => False) (fun _ _ => False) (fun _ _ _ => False) (fun _ => False))
    (fun _ _ => False) c
  | _ => False
noncomputable def fitM (m : List AV → Hp → RV) (args : List AV) (h : Hp) : RV := bc (fitsB args) (m args h) .no
noncomputable def blkP (x y : Blk) (K : Prop) : Prop := match x, y with
  | .cells cs n w, .cells cs' n' w' => bc (Nat.beq n n') (bc (ownB w w') (avC (.agg cs) (.agg cs') K) False) False
  | .mp es n c, .mp es' n' c' => bc (blkB (.mp es n c) (.mp es' n' c')) K False
  | _, _ => False
noncomputable def stillP (S : List Nat) (g h : Hp) (K : Prop) : Prop := lrec K (fun b _ ih => owB (hget g b) (hget h b) ih) S
where owB (a b : Option Blk) (K : Prop) : Prop := ocase False (fun x => ocase False (fun y => bc (aloneB x) (blkP x y K) False) b) a
noncomputable def fixP (call : CallT) (S : List Nat) (f : Nat) (args : List AV) (g : Hp) (K : Prop) : Prop := (call f args (keepS S g)).cs False fun v h => bc (isUnit v) (stillP S g h K) False
noncomputable def agnCs (r : Orc) (a : Orc → Prop) (z : Prop) : Prop := r.cs z (fun _ _ => z) (fun _ _ => z) (fun _ _ _ => z) (fun _ _ => z) (fun _ => z) (fun _ => z) (fun _ _ => z) (fun _ _ => z) (fun _ _ _ => z)
  (fun r2 => Nat.rec (motive := fun _ => Prop) (a r2) (fun _ _ => z) r.n)
end Eng
end
section
set_option linter.unusedVariables false
set_option linter.unusedSimpArgs false
namespace Eng
open Go Go.RowKit
theorem told_lawX {P : Program} {D : Nat → Array Oper → AC} (hD : DrawOk P D) {MW : Nat → Option SumW} {M : Nat → Option (List AV → Hp → RV)} (hM : Good P fun f args h => ocase .no (fun m => m args h) (M f))
    (hw : ∀ f w, MW f = some w → ∃ m, M f = some m ∧ ∀ args h c r k, w args h c r k → ∃ v h' c' r', m args h = .ok v h' ∧ k v h' c' r') {N d f : Nat} {w : World}
    {args : List AV} {cargs : Array Value} (o : Orc) {p : Prop} (e : evFX MW M (progS P D) N d f args H0 o.n o (fun v _ _ _ => v = .bool true) = p) (hp : p) (r : VRs Mp.none args cargs.toList) :
    Calls P f cargs w fun e w' => e = .returned (.bool true) ∧ RowKit.Below w.heap.size w w' := by
  obtain ⟨v, h', c', r', e1, rfl⟩ := evFX_ok hw d f args H0 _ _ _ (e ▸ hp)
  exact closed_law hD hM N d f w args cargs r (by rw [e1]; rfl)
section
variable {k : IntKind} {a b c : Nat}
theorem t_lssT (h : a < b) : evQ (.bin .lss (.const (.int k (.ofNat a))) (.const (.int k (.ofNat b)))) .lf H0 = .ok (.bool true) := by
  show bc (ikEq k k) (OV.ok (.bool (ltI (.ofNat a) (.ofNat b)))) .no = _
  rw [ikEq_self, ltI_true h]; rfl
theorem t_lssF (h : b ≤ a) : evQ (.bin .lss (.const (.int k (.ofNat a))) (.const (.int k (.ofNat b)))) .lf H0 = .ok (.bool false) := by
  show bc (ikEq k k) (OV.ok (.bool (ltI (.ofNat a) (.ofNat b)))) .no = _
  rw [ikEq_self, ltI_false h]; rfl
theorem t_geqT (h : b ≤ a) : evQ (.bin .geq (.const (.int k (.ofNat a))) (.const (.int k (.ofNat b)))) .lf H0 = .ok (.bool true) := by
  show bc (ikEq k k) (OV.ok (.bool (notB (ltI (.ofNat a) (.ofNat b))))) .no = _
  rw [ikEq_self, ltI_false h]; rfl
theorem t_geqF (h : a < b) : evQ (.bin .geq (.const (.int k (.ofNat a))) (.const (.int k (.ofNat b)))) .lf H0 = .ok (.bool false) := by
  show bc (ikEq k k) (OV.ok (.bool (notB (ltI (.ofNat a) (.ofNat b))))) .no = _
  rw [ikEq_self, ltI_true h]; rfl
theorem t_gtrF (h : a ≤ b) : evQ (.bin .gtr (.const (.int k (.ofNat a))) (.const (.int k (.ofNat b)))) .lf H0 = .ok (.bool false) := by
  show bc (ikEq k k) (OV.ok (.bool (ltI (.ofNat b) (.ofNat a)))) .no = _
  rw [ikEq_self, ltI_false h]; rfl
theorem t_leqT (h : a ≤ b) : evQ (.bin .leq (.const (.int k (.ofNat a))) (.const (.int k (.ofNat b)))) .lf H0 = .ok (.bool true) := by
  show bc (ikEq k k) (OV.ok (.bool (notB (ltI (.ofNat b) (.ofNat a))))) .no = _
  rw [ikEq_self, ltI_false h]; rfl
theorem eqI_false' (h : a ≠ b) : eqI (.ofNat a) (.ofNat b) = false := by
  rw [eqI_eq]; simp; omega
theorem t_conv (hk : uns k = true) {j : IntKind} (h : a % modK k = c) : evQ (.toInt k (.const (.int j (.ofNat a)))) .lf H0 = .ok (.int k (.ofNat c)) := h ▸ u_conv hk
theorem t_and (hk : uns k = true) (ha : a < modK k) (hb : b < modK k) (h : a &&& b = c) : evQ (.bin .and (.const (.int k (.ofNat a))) (.const (.int k (.ofNat b)))) .lf H0 = .ok (.int k (.ofNat c)) := h ▸ u_and hk ha hb
theorem t_or (hk : uns k = true) (ha : a < modK k) (hb : b < modK k) (h : a ||| b = c) : evQ (.bin .or (.const (.int k (.ofNat a))) (.const (.int k (.ofNat b)))) .lf H0 = .ok (.int k (.ofNat c)) := h ▸ u_or hk ha hb
theorem t_shl (hk : uns k = true) {j : IntKind} (h : a * 2 ^ b % modK k = c) : evQ (.bin .shl (.const (.int k (.ofNat a))) (.const (.int j (.ofNat b)))) .lf H0 = .ok (.int k (.ofNat c)) := h ▸ u_shl hk
theorem t_shr (hk : uns k = true) {j : IntKind} (ha : a < modK k) (h : a / 2 ^ b = c) : evQ (.bin .shr (.const (.int k (.ofNat a))) (.const (.int j (.ofNat b)))) .lf H0 = .ok (.int k (.ofNat c)) := h ▸ u_shr hk ha
theorem bits128 : ∀ x < 256, x &&& 128 = x / 128 * 128 ∧ x ||| 128 = x % 128 + 128 := by decide +kernel
theorem and128 (h : a < 256) : a &&& 128 = a / 128 * 128 := (bits128 a h).1
theorem or128 (h : a < 256) : a ||| 128 = a % 128 + 128 := (bits128 a h).2
theorem or_addF {n : Nat} (ha : a < 2 ^ n) : a ||| b * 2 ^ n = a + b * 2 ^ n := by
  rw [Nat.mul_comm, Nat.or_comm, ← Nat.two_pow_add_eq_or_of_lt ha, Nat.add_comm]
theorem or_add' {n d : Nat} (ha : a < 2 ^ n) (hd : d % 2 ^ n = 0) : a ||| d = a + d := by
  have e : d = d / 2 ^ n * 2 ^ n := by have := Nat.div_add_mod d (2 ^ n); rw [hd, Nat.mul_comm] at this; omega
  rw [e]; exact or_addF ha
end
noncomputable def wayOp (b : Bool) : QOp := .move (.const (.bool b))
noncomputable def missW (es : List (AV × AV × Nat)) (key : AV) : Orc → (Orc → Prop) → Prop := lrec1 (fun r K => K r)
  (fun e _ ih r K => r.cs False (fun x r => evQ (.eq .int false (.const key) (.const e.1)) .lf H0 = .ok x ∧ bc (isN x) (ih r K) False) (fun _ _ => False) (fun _ _ _ => False) (fun _ _ => False) (fun _ => False) (fun _ => False) (fun _ _ => False) (fun _ _ => False) (fun _ _ _ => False) (fun _ => False)) es
where isN (v : AV) : Bool := match v with | .bool b => notB b | _ => false
end Eng
end
section
set_option linter.unusedVariables false
set_option linter.unusedSimpArgs false
namespace Eng
open Go Go.RowKit
noncomputable def wayQ (v : AV) : QOp := .move (.const v)
noncomputable def isNo (v : AV) : Bool := match v with | .bool b => notB b | _ => false
noncomputable def neqOp (key e : AV) : QOp := .eq .int false (.const key) (.const e)
noncomputable section
def tellCs (r : Orc) (c : Nat) (k : AV → Orc → Prop) : Prop := Nat.rec (motive := fun _ => Prop)
  (r.cs False (fun x r => k x r) (fun _ _ => False) (fun _ _ _ => False) (fun _ _ => False) (fun _ => False) (fun _ => False) (fun _ _ => False) (fun _ _ => False) (fun _ _ _ => False) (fun _ => False))
  (fun _ _ => False) c
def missQ (key : AV) (es : List (AV × AV × Nat)) : Orc → (Orc → Prop) → Prop := lrec1 (fun r K => K r)
  (fun e _ ih r K => tellCs r r.n fun x r2 => evQ (neqOp key e.1) .lf H0 = .ok x ∧ bc (isNo x) (ih r2 K) False) es
def mapAt (a : AV) (h : Hp) (k : List (AV × AV × Nat) → Prop) : Prop := a.asPtr False fun b o => bc (Nat.beq o 0) ((evQ (.loadS (.const (.ptr b 0))) .lf h).cs False fun m => m.asMap False False fun mb => hmap h mb False fun es _ _ => k es) False
def missAt (args : List AV) (h : Hp) (r : Orc) (K : Orc → Prop) : Prop := lcase False (fun a l => lcase False (fun key l2 => lcase (key.asInt False fun _ _ => mapAt a h fun es => missQ key es r K) (fun _ _ => False) l2) l) args
def getQ (base : CallT) (f : Nat) (res : AV) : SumW := fun args h c r k => tellCs r c fun x r2 => evQ (wayQ x) .lf H0 = .ok x ∧
  bc (isNo x) (missAt args h r2 fun r3 => k res h r3.n r3) ((base f args h).cs False fun v h2 => k v h2 r2.n r2)
end
def NoneOf (key : AV) (es : List (AV × AV × Nat)) : Prop := ∀ e ∈ es, evQ (neqOp key e.1) .lf H0 = .ok (.bool false)
end Eng
end
section
set_option linter.unusedVariables false
set_option linter.unusedSimpArgs false
namespace Eng
open Go Go.RowKit
abbrev qB (k j : IntKind) (o : BinOp) (a b : Nat) (v : AV) : Prop := evQ (.bin o (.const (.int k (.ofNat a))) (.const (.int j (.ofNat b)))) .lf H0 = .ok v
abbrev qN (k j : IntKind) (o : BinOp) (a b c : Nat) : Prop := evQ (.bin o (.const (.int k (.ofNat a))) (.const (.int j (.ofNat b)))) .lf H0 = .ok (.int k (.ofNat c))
abbrev qC (k j : IntKind) (a c : Nat) : Prop := evQ (.toInt k (.const (.int j (.ofNat a)))) .lf H0 = .ok (.int k (.ofNat c))
abbrev qE (g : Bool) (k : IntKind) (a b : Nat) (r : Bool) : Prop := evQ (.eq .int g (.const (.int k (.ofNat a))) (.const (.int k (.ofNat b)))) .lf H0 = .ok (.bool r)
abbrev qS (g : Bool) (a b : List Nat) (r : Bool) : Prop := evQ (.eq .str g (.const (.str a)) (.const (.str b))) .lf H0 = .ok (.bool r)
abbrev qI (a : Nat) : Prop := Int.ofNat a = Int.ofNat a
abbrev tI (k : IntKind) (a : Nat) : AV := .int k (.ofNat a)
section
variable {k j : IntKind} {a b c : Nat}
theorem p_lssT (h : a < b) : qB k k .lss a b (.bool true) := t_lssT h
theorem p_lssF (h : b ≤ a) : qB k k .lss a b (.bool false) := t_lssF h
theorem p_geqT (h : b ≤ a) : qB k k .geq a b (.bool true) := t_geqT h
theorem p_geqF (h : a < b) : qB k k .geq a b (.bool false) := t_geqF h
theorem p_gtrF (h : a ≤ b) : qB k k .gtr a b (.bool false) := t_gtrF h
theorem p_leqT (h : a ≤ b) : qB k k .leq a b (.bool true) := t_leqT h
theorem p_conv (hk : uns k = true) (h : a % modK k = c) : qC k j a c := t_conv hk h
theorem p_convI (h : a < 9223372036854775808) : qC .i64 j a a := i_conv h
theorem p_and (hk : uns k = true) (ha : a < modK k) (hb : b < modK k) (h : a &&& b = c) : qN k k .and a b c := t_and hk ha hb h
theorem p_or (hk : uns k = true) (ha : a < modK k) (hb : b < modK k) (h : a ||| b = c) : qN k k .or a b c := t_or hk ha hb h
theorem p_shl (hk : uns k = true) (h : a * 2 ^ b % modK k = c) : qN k j .shl a b c := t_shl hk h
theorem p_shr (hk : uns k = true) (ha : a < modK k) (h : a / 2 ^ b = c) : qN k j .shr a b c := t_shr hk ha h
theorem p_add (hk : uns k = true) (h : (a + b) % modK k = c) : qN k k .add a b c := h ▸ u_add hk
theorem p_addI (h : a + b < 9223372036854775808) (h2 : a + b = c) : qN .i64 .i64 .add a b c := h2 ▸ q_add h
theorem p_sub (hk : uns k = true) (ha : a < modK k) (hb : b ≤ a) (h : a - b = c) : qN k k .sub a b c := by
  show bc (ikEq k k) (okI k (Int.sub (.ofNat a) (.ofNat b))) .no = _
  rw [ikEq_self, sub_nat hb]
  show OV.ok (.int k (wrapA k (.ofNat (a - b)))) = _
  rw [wrap_u hk, h, Nat.mod_eq_of_lt (by omega)]
theorem p_subI (ha : a < 9223372036854775808) (hb : b ≤ a) (h : a - b = c) : qN .i64 .i64 .sub a b c := by
  show OV.ok (.int .i64 (wrapA .i64 (Int.sub (.ofNat a) (.ofNat b)))) = _
  rw [sub_nat hb, wrap_i64 (by omega), h]
theorem p_rem (hk : uns k = true) (hb : b ≠ 0) (h : a % b = c) : qN k k .rem a b c := by
  show bc (ikEq k k) (bc (eqI (.ofNat b) 0) .no (OV.ok (.int k (.ofNat (Nat.mod a b))))) .no = _
  rw [ikEq_self, show eqI (.ofNat b) 0 = false from eqI_false' hb]
  show OV.ok (.int k (.ofNat (a % b))) = _
  rw [h]
theorem p_slice {i j : IntKind} {B o l c a d o' n' m' : Nat} {e : Bool} (h1 : a ≤ d) (h2 : d ≤ c) (ho : o + a = o') (hn : d - a = n') (hm : c - a = m') :
    evQ (.sliceSl 1 (.const (.slice B o l c 1 e)) (some (.const (.int i (.ofNat a)))) (some (.const (.int j (.ofNat d)))) none) .lf H0 = .ok (.slice B o' n' m' 1 e) := by
  show bc (Nat.beq 1 1) (bc (Nat.ble d c) (bc (Nat.ble a d) (OV.ok (.slice B (Nat.add o (Nat.mul a 1)) (Nat.sub d a) (Nat.sub c a) 1 e)) .no) .no) .no = _
  rw [show Nat.ble d c = true by rw [ble_dec]; exact decide_eq_true h2, show Nat.ble a d = true by rw [ble_dec]; exact decide_eq_true h1]
  show OV.ok (.slice B (o + a * 1) (d - a) (c - a) 1 e) = _
  rw [Nat.mul_one, ho, hn, hm]
noncomputable def memZ : List AV := lrep [.int .u8 (.ofNat 0)] 65536
theorem nth_lrep {z : AV} : ∀ {n x : Nat}, x < n → nth? (lrep [z] n) x = some z
  | 0, x, h => absurd h (Nat.not_lt_zero x)
  | n + 1, 0, h => rfl
  | n + 1, x + 1, h => nth_lrep (n := n) (x := x) (by omega)
theorem lrep_len {z : AV} : ∀ {n : Nat}, (lrep [z] n).length = n
  | 0 => rfl
  | n + 1 => congrArg Nat.succ (lrep_len (n := n))
theorem nth_memZ {x : Nat} (h : x < 65536) : nth? memZ x = some (.int .u8 (.ofNat 0)) := nth_lrep h
theorem nth_setA {x : Nat} {v : AV} (h : x < 65536) : nth? (setA memZ x v) x = some v := by
  unfold setA
  rw [nth_eq, upd_eq, List.getElem?_set_self (by unfold memZ; rw [lrep_len]; exact h)]
theorem and_mask (n a : Nat) : a &&& (2 ^ n - 1) = a % 2 ^ n := Nat.and_two_pow_sub_one_eq_mod _ _
theorem and_mask' {n m : Nat} (hm : 2 ^ n - 1 = m) (h : a % 2 ^ n = c) : a &&& m = c := by rw [← hm, and_mask]; exact h
end
theorem j_of {q : OV} {k : IntKind} {raw c : Int} (h : q = .ok (.int k c)) (e : q = .ok (.int k raw)) : c = raw := by
  rw [e] at h
  injection h with h
  injection h with _ h
  exact h.symm
end Eng
end
section
namespace Eng
open Go
theorem goes_of {c : OpenClaim} {P : Program} {f : FuncId} (hst : c.start = .entering) (hfn : P.funcNamed c.func = some f) (hall : P.funcs.any Func.goes = false) : false = c.goesBy P := by
  have h : ∀ g : Nat, (P.funcs[g]?).any Func.goes = false := fun g => by
    cases e : P.funcs[g]? with
    | none => rfl
    | some fn =>
      cases hp : fn.goes with
      | false => exact hp
      | true =>
        have := Array.any_eq_true'.2 ⟨fn, Array.mem_of_getElem? e, hp⟩
        rw [hall] at this; cases this
  unfold OpenClaim.goesBy Program.goesAt Program.goesFrom
  rw [hfn, hst]
  show false = (P.goes f || false)
  rw [Bool.or_false]
  unfold Program.goes
  rw [hall, Bool.and_false, Bool.or_false, show (fun g => (P.funcs[g]?).any Func.goes) = fun _ => false from funext h]
  simp
end Eng
end
