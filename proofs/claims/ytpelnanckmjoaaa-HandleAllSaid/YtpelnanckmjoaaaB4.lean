import Derived.Test.YtpelnanckmjoaaaB3
import Derived.Shelf.SlMaps.Clone
import Derived.Test.YtpelnanckmjoaaaChecked
import Derived.WalkKit
import Derived.Test.YtpelnanckmjoaaaRows
section
set_option linter.unusedVariables false
set_option linter.unusedSimpArgs false
namespace Go.Proofs.Ytpelnanckmjoaaa
open Go Go.RowKit Go.Maps Go.Sort Go.Shelf Eng
noncomputable abbrev CC0 (d : Nat) : CallT := evF noM (progS Try.prog (compDrawn Try.prog)) 100000 d
noncomputable def ins_inC : AC := (.seq (.seq (.drawn [⟨[(⟨(some 16), .q (.move (.tmp 7)), none⟩, 0), (⟨(some 17), .q (.move (.tmp 1)), none⟩, 0), (⟨(some 18), .q (.bin .gtr (.tmp 16) (.tmp 17)), none⟩, 0), (⟨(some 19), .q (.move (.tmp 18)), none⟩, 0), (⟨(some 20), .q (.move (.tmp 0)), (some (19, true))⟩, 0), (⟨(some 21), .q (.move (.tmp 7)), (some (19, true))⟩, 0), (⟨(some 22), .q (.idxAddrSl 1 (.tmp 20) (.tmp 21)), (some (19, true))⟩, 0), (⟨(some 23), .q (.loadS (.tmp 22)), (some (19, true))⟩, 0), (⟨(some 24), .q (.move (.tmp 0)), (some (19, true))⟩, 0), (⟨(some 25), .q (.move (.tmp 7)), (some (19, true))⟩, 0), (⟨(some 26), .q (.bin .sub (.tmp 25) (.const (AV.int .i64 (Int.ofNat 1)))), (some (19, true))⟩, 0), (⟨(some 27), .q (.idxAddrSl 1 (.tmp 24) (.tmp 26)), (some (19, true))⟩, 0), (⟨(some 28), .q (.loadS (.tmp 27)), (some (19, true))⟩, 0)], (some ⟨(some 29), .e (.call (.const (AV.func (.func 127) [] [])) [(.tmp 23), (.tmp 28)]), (some (19, true))⟩)⟩, ⟨[(⟨(some 30), .q (.pick (.tmp 19) (.tmp 29) (.const (AV.bool false))), none⟩, 1)], none⟩]) (.cond (.tmp 30) .skip (.exit 2))) (.seq (.block 3 (.drawn [⟨[(⟨(some 33), .q (.move (.tmp 0)), none⟩, 0), (⟨(some 34), .q (.move (.tmp 7)), none⟩, 0), (⟨(some 35), .q (.move (.tmp 0)), none⟩, 1), (⟨(some 36), .q (.move (.tmp 7)), none⟩, 1), (⟨(some 37), .q (.bin .sub (.tmp 36) (.const (AV.int .i64 (Int.ofNat 1)))), none⟩, 1), (⟨(some 38), .q (.move (.tmp 0)), none⟩, 0), (⟨(some 39), .q (.move (.tmp 7)), none⟩, 0), (⟨(some 40), .q (.bin .sub (.tmp 39) (.const (AV.int .i64 (Int.ofNat 1)))), none⟩, 0), (⟨(some 41), .q (.idxAddrSl 1 (.tmp 38) (.tmp 40)), none⟩, 0), (⟨(some 42), .q (.loadS (.tmp 41)), none⟩, 0), (⟨(some 43), .q (.move (.tmp 0)), none⟩, 0), (⟨(some 44), .q (.move (.tmp 7)), none⟩, 0), (⟨(some 45), .q (.idxAddrSl 1 (.tmp 43) (.tmp 44)), none⟩, 0), (⟨(some 46), .q (.loadS (.tmp 45)), none⟩, 0), (⟨(some 47), .q (.idxAddrSl 1 (.tmp 33) (.tmp 34)), none⟩, 0)], (some ⟨none, .e (.store 1 (.tmp 47) (.tmp 42)), none⟩)⟩, ⟨[(⟨(some 48), .q (.idxAddrSl 1 (.tmp 35) (.tmp 37)), none⟩, 1)], (some ⟨none, .e (.store 1 (.tmp 48) (.tmp 46)), none⟩)⟩, ⟨[], none⟩])) (.region [⟨(some 31), .q (.move (.tmp 7)), none⟩, ⟨(some 32), .q (.bin .sub (.tmp 31) (.const (AV.int .i64 (Int.ofNat 1)))), none⟩, ⟨(some 7), .q (.move (.tmp 32)), none⟩])))
theorem ins_in_body {call : CallT} {N : Nat} {t : T} {h : Hp} {n i0 : Nat} {res : List Int} (hn : n ≤ 12) (hless : ∀ (x y : Int) (h : Hp), call 127 [.int .u64 x, .int .u64 y] h = .ok (.bool (ltI x y)) h) {L : List Int} {j : Nat} (hi : (fun (z : List Int × Nat) (h' : Hp) => h' = hS .u64 z.1 ∧ z.2 < n ∧ z.1.length = n ∧ sink z.1 z.2 = res) (L, j) h)
    : ∃ s, evC call N ins_inC (ovT [(0, (AV.slice 0 0 n n 1 false)), (1, (AV.int .i64 (Int.ofNat 0))), (2, (AV.int .i64 (Int.ofNat n))), (6, (AV.int .i64 (Int.ofNat i0))), (7, (AV.int .i64 (Int.ofNat j)))] t) h = s ∧ obsS [0, 1, 2, 6, 7] (fun ls h' => ∃ y, ls = ((fun (z : List Int × Nat) => [(0, (AV.slice 0 0 n n 1 false)), (1, (AV.int .i64 (Int.ofNat 0))), (2, (AV.int .i64 (Int.ofNat n))), (6, (AV.int .i64 (Int.ofNat i0))), (7, (AV.int .i64 (Int.ofNat z.2)))]) y).map (fun p => some p.2) ∧ (fun (z : List Int × Nat) (h' : Hp) => h' = hS .u64 z.1 ∧ z.2 < n ∧ z.1.length = n ∧ sink z.1 z.2 = res) y h' ∧ (fun (z : List Int × Nat) => z.2) y < (fun (z : List Int × Nat) => z.2) (L, j)) (fun i ls h' => ∃ y, ls = ((fun (z : List Int × Nat) => [(0, (AV.slice 0 0 n n 1 false)), (1, (AV.int .i64 (Int.ofNat 0))), (2, (AV.int .i64 (Int.ofNat n))), (6, (AV.int .i64 (Int.ofNat i0))), (7, (AV.int .i64 (Int.ofNat z.2)))]) y).map (fun p => some p.2) ∧ (fun (i : Nat) (z : List Int × Nat) (h' : Hp) => (i = 2) ∧ (i = 2 → h' = hS .u64 z.1 ∧ z.1 = res)) i y h') (fun ls h' => (fun (ls : List (Option AV)) (h' : Hp) => False) ls h') s := by
  have hi : h = hS .u64 L ∧ j < n ∧ L.length = n ∧ sink L j = res := hi
  obtain ⟨rfl, hjn, hLn, hres⟩ := hi
  refine walk_ok (o := (.fork 3 (.tell 2 (AV.ptr 0 (0 + j * 1)) (.tell 0 (AV.int .u64 (L.getD j 0)) (.tell 2 (AV.int .i64 (Int.ofNat (j - 1))) (.tell 0 (AV.ptr 0 (0 + (j - 1) * 1)) (.tell 0 (AV.int .u64 (L.getD (j - 1) 0)) (.again 0 (.eff 0 (AV.bool (ltI (L.getD j 0) (L.getD (j - 1) 0))) (hS .u64 L) (.fork 0 (.again 0 (.tell 4 (AV.int .i64 (Int.ofNat (j - 1))) (.tell 2 (AV.int .i64 (Int.ofNat (j - 1))) (.tell 0 (AV.ptr 0 (0 + (j - 1) * 1)) (.tell 0 (AV.int .u64 (L.getD (j - 1) 0)) (.tell 2 (AV.ptr 0 (0 + j * 1)) (.tell 0 (AV.int .u64 (L.getD j 0)) (.tell 0 (AV.ptr 0 (0 + j * 1)) (.again 0 (.eff 0 (AV.tuple []) (hS .u64 (L.set j (L.getD (j - 1) 0))) (.tell 0 (AV.ptr 0 (0 + (j - 1) * 1)) (.again 0 (.eff 0 (AV.tuple []) (hS .u64 ((L.set j (L.getD (j - 1) 0)).set (j - 1) (L.getD j 0))) (.tell 2 (AV.int .i64 (Int.ofNat (j - 1))) .fin)))))))))))))) (.again 0 .fin))))))))) (.again 0 .fin))) (p := ((ltI (Int.ofNat 0) (Int.ofNat j) = true → (evQ (.idxAddrSl 1 (.const (AV.slice 0 0 n n 1 false)) (.const (AV.int .i64 (Int.ofNat j)))) .lf H0 = .ok (AV.ptr 0 (0 + j * 1)) ∧ (evQ (.loadS (.const (AV.ptr 0 (0 + j * 1)))) .lf (hS .u64 L) = .ok (AV.int .u64 (L.getD j 0)) ∧ (evQ (.bin .sub (.const (AV.int .i64 (Int.ofNat j))) (.const (AV.int .i64 (Int.ofNat 1)))) .lf H0 = .ok (AV.int .i64 (Int.ofNat (j - 1))) ∧ (evQ (.idxAddrSl 1 (.const (AV.slice 0 0 n n 1 false)) (.const (AV.int .i64 (Int.ofNat (j - 1))))) .lf H0 = .ok (AV.ptr 0 (0 + (j - 1) * 1)) ∧ (evQ (.loadS (.const (AV.ptr 0 (0 + (j - 1) * 1)))) .lf (hS .u64 L) = .ok (AV.int .u64 (L.getD (j - 1) 0)) ∧ ((again (.loadS (.const (AV.ptr 0 (0 + (j - 1) * 1)))) .lf (AV.int .u64 (L.getD (j - 1) 0)) (hS .u64 L) = true ∧ again (.idxAddrSl 1 (.const (AV.slice 0 0 n n 1 false)) (.const (AV.int .i64 (Int.ofNat (j - 1))))) .lf (AV.ptr 0 (0 + (j - 1) * 1)) (hS .u64 L) = true ∧ again (.bin .sub (.const (AV.int .i64 (Int.ofNat j))) (.const (AV.int .i64 (Int.ofNat 1)))) .lf (AV.int .i64 (Int.ofNat (j - 1))) (hS .u64 L) = true ∧ again (.move (.const (AV.int .i64 (Int.ofNat j)))) .lf (AV.int .i64 (Int.ofNat j)) (hS .u64 L) = true ∧ again (.move (.const (AV.slice 0 0 n n 1 false))) .lf (AV.slice 0 0 n n 1 false) (hS .u64 L) = true ∧ again (.loadS (.const (AV.ptr 0 (0 + j * 1)))) .lf (AV.int .u64 (L.getD j 0)) (hS .u64 L) = true ∧ again (.idxAddrSl 1 (.const (AV.slice 0 0 n n 1 false)) (.const (AV.int .i64 (Int.ofNat j)))) .lf (AV.ptr 0 (0 + j * 1)) (hS .u64 L) = true ∧ again (.move (.const (AV.int .i64 (Int.ofNat j)))) .lf (AV.int .i64 (Int.ofNat j)) (hS .u64 L) = true ∧ again (.move (.const (AV.slice 0 0 n n 1 false))) .lf (AV.slice 0 0 n n 1 false) (hS .u64 L) = true ∧ again (.move (.const (AV.bool (ltI (Int.ofNat 0) (Int.ofNat j))))) .lf (AV.bool true) (hS .u64 L) = true ∧ again (.bin .gtr (.const (AV.int .i64 (Int.ofNat j))) (.const (AV.int .i64 (Int.ofNat 0)))) .lf (AV.bool (ltI (Int.ofNat 0) (Int.ofNat j))) (hS .u64 L) = true ∧ again (.move (.const (AV.int .i64 (Int.ofNat 0)))) .lf (AV.int .i64 (Int.ofNat 0)) (hS .u64 L) = true ∧ again (.move (.const (AV.int .i64 (Int.ofNat j)))) .lf (AV.int .i64 (Int.ofNat j)) (hS .u64 L) = true ∧ True) ∧ (call 127 [(AV.int .u64 (L.getD j 0)), (AV.int .u64 (L.getD (j - 1) 0))] (hS .u64 L) = .ok (AV.bool (ltI (L.getD j 0) (L.getD (j - 1) 0))) (hS .u64 L) ∧ ((ltI (L.getD j 0) (L.getD (j - 1) 0) = true → ((again (.pick (.const (AV.bool true)) (.const (AV.bool (ltI (L.getD j 0) (L.getD (j - 1) 0)))) (.const (AV.bool false))) .lf (AV.bool true) (hS .u64 L) = true ∧ True) ∧ (evQ (.bin .sub (.const (AV.int .i64 (Int.ofNat j))) (.const (AV.int .i64 (Int.ofNat 1)))) .lf H0 = .ok (AV.int .i64 (Int.ofNat (j - 1))) ∧ (evQ (.bin .sub (.const (AV.int .i64 (Int.ofNat j))) (.const (AV.int .i64 (Int.ofNat 1)))) .lf H0 = .ok (AV.int .i64 (Int.ofNat (j - 1))) ∧ (evQ (.idxAddrSl 1 (.const (AV.slice 0 0 n n 1 false)) (.const (AV.int .i64 (Int.ofNat (j - 1))))) .lf H0 = .ok (AV.ptr 0 (0 + (j - 1) * 1)) ∧ (evQ (.loadS (.const (AV.ptr 0 (0 + (j - 1) * 1)))) .lf (hS .u64 L) = .ok (AV.int .u64 (L.getD (j - 1) 0)) ∧ (evQ (.idxAddrSl 1 (.const (AV.slice 0 0 n n 1 false)) (.const (AV.int .i64 (Int.ofNat j)))) .lf H0 = .ok (AV.ptr 0 (0 + j * 1)) ∧ (evQ (.loadS (.const (AV.ptr 0 (0 + j * 1)))) .lf (hS .u64 L) = .ok (AV.int .u64 (L.getD j 0)) ∧ (evQ (.idxAddrSl 1 (.const (AV.slice 0 0 n n 1 false)) (.const (AV.int .i64 (Int.ofNat j)))) .lf H0 = .ok (AV.ptr 0 (0 + j * 1)) ∧ ((again (.idxAddrSl 1 (.const (AV.slice 0 0 n n 1 false)) (.const (AV.int .i64 (Int.ofNat j)))) .lf (AV.ptr 0 (0 + j * 1)) (hS .u64 L) = true ∧ again (.loadS (.const (AV.ptr 0 (0 + j * 1)))) .lf (AV.int .u64 (L.getD j 0)) (hS .u64 L) = true ∧ again (.idxAddrSl 1 (.const (AV.slice 0 0 n n 1 false)) (.const (AV.int .i64 (Int.ofNat j)))) .lf (AV.ptr 0 (0 + j * 1)) (hS .u64 L) = true ∧ again (.move (.const (AV.int .i64 (Int.ofNat j)))) .lf (AV.int .i64 (Int.ofNat j)) (hS .u64 L) = true ∧ again (.move (.const (AV.slice 0 0 n n 1 false))) .lf (AV.slice 0 0 n n 1 false) (hS .u64 L) = true ∧ again (.loadS (.const (AV.ptr 0 (0 + (j - 1) * 1)))) .lf (AV.int .u64 (L.getD (j - 1) 0)) (hS .u64 L) = true ∧ again (.idxAddrSl 1 (.const (AV.slice 0 0 n n 1 false)) (.const (AV.int .i64 (Int.ofNat (j - 1))))) .lf (AV.ptr 0 (0 + (j - 1) * 1)) (hS .u64 L) = true ∧ again (.bin .sub (.const (AV.int .i64 (Int.ofNat j))) (.const (AV.int .i64 (Int.ofNat 1)))) .lf (AV.int .i64 (Int.ofNat (j - 1))) (hS .u64 L) = true ∧ again (.move (.const (AV.int .i64 (Int.ofNat j)))) .lf (AV.int .i64 (Int.ofNat j)) (hS .u64 L) = true ∧ again (.move (.const (AV.slice 0 0 n n 1 false))) .lf (AV.slice 0 0 n n 1 false) (hS .u64 L) = true ∧ again (.bin .sub (.const (AV.int .i64 (Int.ofNat j))) (.const (AV.int .i64 (Int.ofNat 1)))) .lf (AV.int .i64 (Int.ofNat (j - 1))) (hS .u64 L) = true ∧ again (.move (.const (AV.int .i64 (Int.ofNat j)))) .lf (AV.int .i64 (Int.ofNat j)) (hS .u64 L) = true ∧ again (.move (.const (AV.slice 0 0 n n 1 false))) .lf (AV.slice 0 0 n n 1 false) (hS .u64 L) = true ∧ again (.move (.const (AV.int .i64 (Int.ofNat j)))) .lf (AV.int .i64 (Int.ofNat j)) (hS .u64 L) = true ∧ again (.move (.const (AV.slice 0 0 n n 1 false))) .lf (AV.slice 0 0 n n 1 false) (hS .u64 L) = true ∧ True) ∧ (evE (.store 1 (.const (AV.ptr 0 (0 + j * 1))) (.const (AV.int .u64 (L.getD (j - 1) 0)))) call .lf (hS .u64 L) = .ok (AV.tuple []) (hS .u64 (L.set j (L.getD (j - 1) 0))) ∧ (evQ (.idxAddrSl 1 (.const (AV.slice 0 0 n n 1 false)) (.const (AV.int .i64 (Int.ofNat (j - 1))))) .lf H0 = .ok (AV.ptr 0 (0 + (j - 1) * 1)) ∧ ((again (.idxAddrSl 1 (.const (AV.slice 0 0 n n 1 false)) (.const (AV.int .i64 (Int.ofNat (j - 1))))) .lf (AV.ptr 0 (0 + (j - 1) * 1)) (hS .u64 (L.set j (L.getD (j - 1) 0))) = true ∧ again (.bin .sub (.const (AV.int .i64 (Int.ofNat j))) (.const (AV.int .i64 (Int.ofNat 1)))) .lf (AV.int .i64 (Int.ofNat (j - 1))) (hS .u64 (L.set j (L.getD (j - 1) 0))) = true ∧ again (.move (.const (AV.int .i64 (Int.ofNat j)))) .lf (AV.int .i64 (Int.ofNat j)) (hS .u64 (L.set j (L.getD (j - 1) 0))) = true ∧ again (.move (.const (AV.slice 0 0 n n 1 false))) .lf (AV.slice 0 0 n n 1 false) (hS .u64 (L.set j (L.getD (j - 1) 0))) = true ∧ True) ∧ (evE (.store 1 (.const (AV.ptr 0 (0 + (j - 1) * 1))) (.const (AV.int .u64 (L.getD j 0)))) call .lf (hS .u64 (L.set j (L.getD (j - 1) 0))) = .ok (AV.tuple []) (hS .u64 ((L.set j (L.getD (j - 1) 0)).set (j - 1) (L.getD j 0))) ∧ (evQ (.bin .sub (.const (AV.int .i64 (Int.ofNat j))) (.const (AV.int .i64 (Int.ofNat 1)))) .lf H0 = .ok (AV.int .i64 (Int.ofNat (j - 1))) ∧ ((fun ls h' => ∃ y, ls = ((fun (z : List Int × Nat) => [(0, (AV.slice 0 0 n n 1 false)), (1, (AV.int .i64 (Int.ofNat 0))), (2, (AV.int .i64 (Int.ofNat n))), (6, (AV.int .i64 (Int.ofNat i0))), (7, (AV.int .i64 (Int.ofNat z.2)))]) y).map (fun p => some p.2) ∧ (fun (z : List Int × Nat) (h' : Hp) => h' = hS .u64 z.1 ∧ z.2 < n ∧ z.1.length = n ∧ sink z.1 z.2 = res) y h' ∧ (fun (z : List Int × Nat) => z.2) y < (fun (z : List Int × Nat) => z.2) (L, j)) : List (Option AV) → Hp → Prop) [some (AV.slice 0 0 n n 1 false), some (AV.int .i64 (Int.ofNat 0)), some (AV.int .i64 (Int.ofNat n)), some (AV.int .i64 (Int.ofNat i0)), some (AV.int .i64 (Int.ofNat (j - 1)))] (hS .u64 ((L.set j (L.getD (j - 1) 0)).set (j - 1) (L.getD j 0)))))))))))))))))) ∧ (ltI (L.getD j 0) (L.getD (j - 1) 0) = false → ((again (.pick (.const (AV.bool true)) (.const (AV.bool (ltI (L.getD j 0) (L.getD (j - 1) 0)))) (.const (AV.bool false))) .lf (AV.bool false) (hS .u64 L) = true ∧ True) ∧ ((fun i ls h' => ∃ y, ls = ((fun (z : List Int × Nat) => [(0, (AV.slice 0 0 n n 1 false)), (1, (AV.int .i64 (Int.ofNat 0))), (2, (AV.int .i64 (Int.ofNat n))), (6, (AV.int .i64 (Int.ofNat i0))), (7, (AV.int .i64 (Int.ofNat z.2)))]) y).map (fun p => some p.2) ∧ (fun (i : Nat) (z : List Int × Nat) (h' : Hp) => (i = 2) ∧ (i = 2 → h' = hS .u64 z.1 ∧ z.1 = res)) i y h') : Nat → List (Option AV) → Hp → Prop) 2 [some (AV.slice 0 0 n n 1 false), some (AV.int .i64 (Int.ofNat 0)), some (AV.int .i64 (Int.ofNat n)), some (AV.int .i64 (Int.ofNat i0)), some (AV.int .i64 (Int.ofNat j))] (hS .u64 L)))))))))))) ∧ (ltI (Int.ofNat 0) (Int.ofNat j) = false → ((again (.move (.const (AV.bool (ltI (Int.ofNat 0) (Int.ofNat j))))) .lf (AV.bool false) (hS .u64 L) = true ∧ again (.bin .gtr (.const (AV.int .i64 (Int.ofNat j))) (.const (AV.int .i64 (Int.ofNat 0)))) .lf (AV.bool (ltI (Int.ofNat 0) (Int.ofNat j))) (hS .u64 L) = true ∧ again (.move (.const (AV.int .i64 (Int.ofNat 0)))) .lf (AV.int .i64 (Int.ofNat 0)) (hS .u64 L) = true ∧ again (.move (.const (AV.int .i64 (Int.ofNat j)))) .lf (AV.int .i64 (Int.ofNat j)) (hS .u64 L) = true ∧ True) ∧ ((fun i ls h' => ∃ y, ls = ((fun (z : List Int × Nat) => [(0, (AV.slice 0 0 n n 1 false)), (1, (AV.int .i64 (Int.ofNat 0))), (2, (AV.int .i64 (Int.ofNat n))), (6, (AV.int .i64 (Int.ofNat i0))), (7, (AV.int .i64 (Int.ofNat z.2)))]) y).map (fun p => some p.2) ∧ (fun (i : Nat) (z : List Int × Nat) (h' : Hp) => (i = 2) ∧ (i = 2 → h' = hS .u64 z.1 ∧ z.1 = res)) i y h') : Nat → List (Option AV) → Hp → Prop) 2 [some (AV.slice 0 0 n n 1 false), some (AV.int .i64 (Int.ofNat 0)), some (AV.int .i64 (Int.ofNat n)), some (AV.int .i64 (Int.ofNat i0)), some (AV.int .i64 (Int.ofNat j))] (hS .u64 L))))) (by kernel_rfl) ?_
  refine ⟨fun c1 => ?_, fun c1 => ?_⟩
  · have rc1 := c1
    replace c1 : 0 < j := ltI_t c1
    refine ⟨q_idx (by omega), ?_⟩
    refine ⟨ld_ok (by omega), ?_⟩
    refine ⟨q_sub (by omega) (by omega), ?_⟩
    refine ⟨q_idx (by omega), ?_⟩
    refine ⟨ld_ok (by omega), ?_⟩
    refine ⟨⟨again_of (ld_ok (by omega)) (avEq_int _ _), again_of (q_idx (by omega)) (avEq_ptr _ _), again_of (q_sub (by omega) (by omega)) (avEq_int _ _), again_of (rfl) (avEq_int _ _), again_of (rfl) (avEq_slice _ _ _ _ _ _), again_of (ld_ok (by omega)) (avEq_int _ _), again_of (q_idx (by omega)) (avEq_ptr _ _), again_of (rfl) (avEq_int _ _), again_of (rfl) (avEq_slice _ _ _ _ _ _), again_of (congrArg (fun b => OV.ok (AV.bool b)) rc1) (avEq_bool _), again_of (rfl) (avEq_bool _), again_of (rfl) (avEq_int _ _), again_of (rfl) (avEq_int _ _), trivial⟩, ?_⟩
    refine ⟨hless _ _ _, ?_⟩
    refine ⟨fun c2 => ?_, fun c2 => ?_⟩
    · have rc2 := c2
      replace c2 : (L.getD j 0) < (L.getD (j - 1) 0) := ltI_T c2
      refine ⟨⟨again_of (congrArg (fun b => OV.ok (AV.bool b)) rc2) (avEq_bool _), trivial⟩, ?_⟩
      refine ⟨q_sub (by omega) (by omega), ?_⟩
      refine ⟨q_sub (by omega) (by omega), ?_⟩
      refine ⟨q_idx (by omega), ?_⟩
      refine ⟨ld_ok (by omega), ?_⟩
      refine ⟨q_idx (by omega), ?_⟩
      refine ⟨ld_ok (by omega), ?_⟩
      refine ⟨q_idx (by omega), ?_⟩
      refine ⟨⟨again_of (q_idx (by omega)) (avEq_ptr _ _), again_of (ld_ok (by omega)) (avEq_int _ _), again_of (q_idx (by omega)) (avEq_ptr _ _), again_of (rfl) (avEq_int _ _), again_of (rfl) (avEq_slice _ _ _ _ _ _), again_of (ld_ok (by omega)) (avEq_int _ _), again_of (q_idx (by omega)) (avEq_ptr _ _), again_of (q_sub (by omega) (by omega)) (avEq_int _ _), again_of (rfl) (avEq_int _ _), again_of (rfl) (avEq_slice _ _ _ _ _ _), again_of (q_sub (by omega) (by omega)) (avEq_int _ _), again_of (rfl) (avEq_int _ _), again_of (rfl) (avEq_slice _ _ _ _ _ _), again_of (rfl) (avEq_int _ _), again_of (rfl) (avEq_slice _ _ _ _ _ _), trivial⟩, ?_⟩
      refine ⟨st_ok call (by first | omega | (simp; omega)), ?_⟩
      refine ⟨q_idx (by omega), ?_⟩
      refine ⟨⟨again_of (q_idx (by omega)) (avEq_ptr _ _), again_of (q_sub (by omega) (by omega)) (avEq_int _ _), again_of (rfl) (avEq_int _ _), again_of (rfl) (avEq_slice _ _ _ _ _ _), trivial⟩, ?_⟩
      refine ⟨st_ok call (by first | omega | (simp; omega)), ?_⟩
      refine ⟨q_sub (by omega) (by omega), ?_⟩
      obtain ⟨k, rfl⟩ : ∃ k, j = k + 1 := ⟨j - 1, by omega⟩
      refine ⟨(swapL L k, k), rfl, ⟨rfl, by dsimp only; omega, by dsimp only; rw [swapL_len]; exact hLn, ?_⟩, by dsimp only; omega⟩
      dsimp only
      rw [sink, if_pos (by have := c2; simp only [Nat.add_sub_cancel] at this; omega)] at hres
      exact hres
    · have rc2 := c2
      replace c2 : (L.getD (j - 1) 0) ≤ (L.getD j 0) := ltI_F c2
      refine ⟨⟨again_of (congrArg (fun b => OV.ok (AV.bool b)) rc2) (avEq_bool _), trivial⟩, ?_⟩
      refine ⟨(L, j), rfl, rfl, fun _ => ⟨rfl, ?_⟩⟩
      obtain ⟨k, rfl⟩ : ∃ k, j = k + 1 := ⟨j - 1, by omega⟩
      rw [sink, if_neg (by have := c2; simp only [Nat.add_sub_cancel] at this; omega)] at hres
      exact hres
  · have rc1 := c1
    replace c1 : j ≤ 0 := ltI_f c1
    refine ⟨⟨again_of (congrArg (fun b => OV.ok (AV.bool b)) rc1) (avEq_bool _), again_of (rfl) (avEq_bool _), again_of (rfl) (avEq_int _ _), again_of (rfl) (avEq_int _ _), trivial⟩, ?_⟩
    refine ⟨(L, j), rfl, rfl, fun _ => ⟨rfl, ?_⟩⟩
    obtain rfl : j = 0 := by omega
    exact hres
theorem ins_in {call : CallT} {N : Nat} {n i0 : Nat} {res : List Int} (hn : n ≤ 12) (hless : ∀ (x y : Int) (h : Hp), call 127 [.int .u64 x, .int .u64 y] h = .ok (.bool (ltI x y)) h) {L : List Int} {j : Nat} {h : Hp} (hi : (fun (z : List Int × Nat) (h' : Hp) => h' = hS .u64 z.1 ∧ z.2 < n ∧ z.1.length = n ∧ sink z.1 z.2 = res) (L, j) h) (hN : j < N) {t : T} (ht : Has ((fun (z : List Int × Nat) => [(0, (AV.slice 0 0 n n 1 false)), (1, (AV.int .i64 (Int.ofNat 0))), (2, (AV.int .i64 (Int.ofNat n))), (6, (AV.int .i64 (Int.ofNat i0))), (7, (AV.int .i64 (Int.ofNat z.2)))]) (L, j)) t) :
    (∃ i y t' h', evC call N (.loop ins_inC) t h = .exit i t' h' ∧ Has ((fun (z : List Int × Nat) => [(0, (AV.slice 0 0 n n 1 false)), (1, (AV.int .i64 (Int.ofNat 0))), (2, (AV.int .i64 (Int.ofNat n))), (6, (AV.int .i64 (Int.ofNat i0))), (7, (AV.int .i64 (Int.ofNat z.2)))]) y) t' ∧ (fun (i : Nat) (z : List Int × Nat) (h' : Hp) => (i = 2) ∧ (i = 2 → h' = hS .u64 z.1 ∧ z.1 = res)) i y h') ∨ (∃ t' h', evC call N (.loop ins_inC) t h = .ret t' h' ∧ (fun (ls : List (Option AV)) (h' : Hp) => False) (slots [0, 1, 2, 6, 7] t') h') :=
  loop_st (fun (z : List Int × Nat) => [(0, (AV.slice 0 0 n n 1 false)), (1, (AV.int .i64 (Int.ofNat 0))), (2, (AV.int .i64 (Int.ofNat n))), (6, (AV.int .i64 (Int.ofNat i0))), (7, (AV.int .i64 (Int.ofNat z.2)))]) [0, 1, 2, 6, 7] (fun _ => rfl) (fun (z : List Int × Nat) (h' : Hp) => h' = hS .u64 z.1 ∧ z.2 < n ∧ z.1.length = n ∧ sink z.1 z.2 = res) (fun (z : List Int × Nat) => z.2) (fun (i : Nat) (z : List Int × Nat) (h' : Hp) => (i = 2) ∧ (i = 2 → h' = hS .u64 z.1 ∧ z.1 = res)) (fun (ls : List (Option AV)) (h' : Hp) => False) (fun ⟨L, j⟩ t h hi => ins_in_body hn hless hi) (L, j) h hi hN t ht
theorem ins_in_x {call : CallT} {N : Nat} {n i0 : Nat} {res : List Int} (hn : n ≤ 12) (hless : ∀ (x y : Int) (h : Hp), call 127 [.int .u64 x, .int .u64 y] h = .ok (.bool (ltI x y)) h) {L : List Int} {j : Nat} {h : Hp} (hi : h = hS .u64 L ∧ j < n ∧ L.length = n ∧ sink L j = res) (hN : j < N) {t : T} (ht : slots [0, 1, 2, 6, 7] t = [some (AV.slice 0 0 n n 1 false), some (AV.int .i64 (Int.ofNat 0)), some (AV.int .i64 (Int.ofNat n)), some (AV.int .i64 (Int.ofNat i0)), some (AV.int .i64 (Int.ofNat j))]) :
    ∃ (L1 : List Int) (j1 : Nat) (t' : T) (h' : Hp), evC call N (.loop ins_inC) t h = .exit 2 t' h' ∧ slots [0, 1, 2, 6, 7] t' = [some (AV.slice 0 0 n n 1 false), some (AV.int .i64 (Int.ofNat 0)), some (AV.int .i64 (Int.ofNat n)), some (AV.int .i64 (Int.ofNat i0)), some (AV.int .i64 (Int.ofNat j1))] ∧ (h' = hS .u64 L1 ∧ L1 = res) := by
  rcases ins_in hn hless hi hN ht with ⟨i, y, t', h', q, w, e⟩ | ⟨t', h', q, e⟩
  · obtain ⟨e1, e2⟩ := e
    subst e1
    exact ⟨y.1, y.2, t', h', q, w, e2 rfl⟩
  · exact e.elim
noncomputable def ins_outC : AC := (.seq (.seq (.region [⟨(some 10), .q (.move (.tmp 6)), none⟩, ⟨(some 11), .q (.move (.tmp 2)), none⟩, ⟨(some 12), .q (.bin .lss (.tmp 10) (.tmp 11)), none⟩]) (.cond (.tmp 12) .skip (.exit 0))) (.seq (.block 1 (.seq (.region [⟨(some 15), .q (.move (.tmp 6)), none⟩, ⟨(some 7), .q (.move (.tmp 15)), none⟩]) (.block 2 (.loop (.seq (.seq (.drawn [⟨[(⟨(some 16), .q (.move (.tmp 7)), none⟩, 0), (⟨(some 17), .q (.move (.tmp 1)), none⟩, 0), (⟨(some 18), .q (.bin .gtr (.tmp 16) (.tmp 17)), none⟩, 0), (⟨(some 19), .q (.move (.tmp 18)), none⟩, 0), (⟨(some 20), .q (.move (.tmp 0)), (some (19, true))⟩, 0), (⟨(some 21), .q (.move (.tmp 7)), (some (19, true))⟩, 0), (⟨(some 22), .q (.idxAddrSl 1 (.tmp 20) (.tmp 21)), (some (19, true))⟩, 0), (⟨(some 23), .q (.loadS (.tmp 22)), (some (19, true))⟩, 0), (⟨(some 24), .q (.move (.tmp 0)), (some (19, true))⟩, 0), (⟨(some 25), .q (.move (.tmp 7)), (some (19, true))⟩, 0), (⟨(some 26), .q (.bin .sub (.tmp 25) (.const (AV.int .i64 (Int.ofNat 1)))), (some (19, true))⟩, 0), (⟨(some 27), .q (.idxAddrSl 1 (.tmp 24) (.tmp 26)), (some (19, true))⟩, 0), (⟨(some 28), .q (.loadS (.tmp 27)), (some (19, true))⟩, 0)], (some ⟨(some 29), .e (.call (.const (AV.func (.func 127) [] [])) [(.tmp 23), (.tmp 28)]), (some (19, true))⟩)⟩, ⟨[(⟨(some 30), .q (.pick (.tmp 19) (.tmp 29) (.const (AV.bool false))), none⟩, 1)], none⟩]) (.cond (.tmp 30) .skip (.exit 2))) (.seq (.block 3 (.drawn [⟨[(⟨(some 33), .q (.move (.tmp 0)), none⟩, 0), (⟨(some 34), .q (.move (.tmp 7)), none⟩, 0), (⟨(some 35), .q (.move (.tmp 0)), none⟩, 1), (⟨(some 36), .q (.move (.tmp 7)), none⟩, 1), (⟨(some 37), .q (.bin .sub (.tmp 36) (.const (AV.int .i64 (Int.ofNat 1)))), none⟩, 1), (⟨(some 38), .q (.move (.tmp 0)), none⟩, 0), (⟨(some 39), .q (.move (.tmp 7)), none⟩, 0), (⟨(some 40), .q (.bin .sub (.tmp 39) (.const (AV.int .i64 (Int.ofNat 1)))), none⟩, 0), (⟨(some 41), .q (.idxAddrSl 1 (.tmp 38) (.tmp 40)), none⟩, 0), (⟨(some 42), .q (.loadS (.tmp 41)), none⟩, 0), (⟨(some 43), .q (.move (.tmp 0)), none⟩, 0), (⟨(some 44), .q (.move (.tmp 7)), none⟩, 0), (⟨(some 45), .q (.idxAddrSl 1 (.tmp 43) (.tmp 44)), none⟩, 0), (⟨(some 46), .q (.loadS (.tmp 45)), none⟩, 0), (⟨(some 47), .q (.idxAddrSl 1 (.tmp 33) (.tmp 34)), none⟩, 0)], (some ⟨none, .e (.store 1 (.tmp 47) (.tmp 42)), none⟩)⟩, ⟨[(⟨(some 48), .q (.idxAddrSl 1 (.tmp 35) (.tmp 37)), none⟩, 1)], (some ⟨none, .e (.store 1 (.tmp 48) (.tmp 46)), none⟩)⟩, ⟨[], none⟩])) (.region [⟨(some 31), .q (.move (.tmp 7)), none⟩, ⟨(some 32), .q (.bin .sub (.tmp 31) (.const (AV.int .i64 (Int.ofNat 1)))), none⟩, ⟨(some 7), .q (.move (.tmp 32)), none⟩]))))))) (.region [⟨(some 13), .q (.move (.tmp 6)), none⟩, ⟨(some 14), .q (.bin .add (.tmp 13) (.const (AV.int .i64 (Int.ofNat 1)))), none⟩, ⟨(some 6), .q (.move (.tmp 14)), none⟩])))
theorem ins_out_body {call : CallT} {N : Nat} {t : T} {h : Hp} {n : Nat} {res : List Int} (hn : n ≤ 12) (hless : ∀ (x y : Int) (h : Hp), call 127 [.int .u64 x, .int .u64 y] h = .ok (.bool (ltI x y)) h) (hNN : 12 < N) {L : List Int} {i : Nat} (hi : (fun (z : List Int × Nat) (h' : Hp) => h' = hS .u64 z.1 ∧ 1 ≤ z.2 ∧ z.1.length = n ∧ outerL (n - z.2) z.2 z.1 = res) (L, i) h)
    : ∃ s, evC call N ins_outC (ovT [(0, (AV.slice 0 0 n n 1 false)), (1, (AV.int .i64 (Int.ofNat 0))), (2, (AV.int .i64 (Int.ofNat n))), (6, (AV.int .i64 (Int.ofNat i)))] t) h = s ∧ obsS [0, 1, 2, 6] (fun ls h' => ∃ y, ls = ((fun (z : List Int × Nat) => [(0, (AV.slice 0 0 n n 1 false)), (1, (AV.int .i64 (Int.ofNat 0))), (2, (AV.int .i64 (Int.ofNat n))), (6, (AV.int .i64 (Int.ofNat z.2)))]) y).map (fun p => some p.2) ∧ (fun (z : List Int × Nat) (h' : Hp) => h' = hS .u64 z.1 ∧ 1 ≤ z.2 ∧ z.1.length = n ∧ outerL (n - z.2) z.2 z.1 = res) y h' ∧ (fun (z : List Int × Nat) => (n - z.2)) y < (fun (z : List Int × Nat) => (n - z.2)) (L, i)) (fun i ls h' => ∃ y, ls = ((fun (z : List Int × Nat) => [(0, (AV.slice 0 0 n n 1 false)), (1, (AV.int .i64 (Int.ofNat 0))), (2, (AV.int .i64 (Int.ofNat n))), (6, (AV.int .i64 (Int.ofNat z.2)))]) y).map (fun p => some p.2) ∧ (fun (i : Nat) (z : List Int × Nat) (h' : Hp) => (i = 0) ∧ (i = 0 → h' = hS .u64 z.1 ∧ z.1 = res)) i y h') (fun ls h' => (fun (ls : List (Option AV)) (h' : Hp) => False) ls h') s := by
  have hi : h = hS .u64 L ∧ 1 ≤ i ∧ L.length = n ∧ outerL (n - i) i L = res := hi
  obtain ⟨rfl, hi1, hLn, hres⟩ := hi
  refine walk_ok (o := (.fork 2 (.lpx 2 (fun e2 => (.exit 2 (ovT [(0, (AV.slice 0 0 n n 1 false)), (1, (AV.int .i64 (Int.ofNat 0))), (2, (AV.int .i64 (Int.ofNat n))), (6, (AV.int .i64 (Int.ofNat i)))] e2.t) (hS .u64 (sink L i)))) (fun e2 => (.tell 1 (AV.int .i64 (Int.ofNat (i + 1))) .fin))) .fin)) (p := ((ltI (Int.ofNat i) (Int.ofNat n) = true → (∃ e2 : Ev, evC call N (.loop ins_inC) (ovT [(0, (AV.slice 0 0 n n 1 false)), (1, (AV.int .i64 (Int.ofNat 0))), (2, (AV.int .i64 (Int.ofNat n))), (6, (AV.int .i64 (Int.ofNat i))), (7, (AV.int .i64 (Int.ofNat i))), (10, (AV.int .i64 (Int.ofNat i))), (11, (AV.int .i64 (Int.ofNat n))), (12, (AV.bool true)), (15, (AV.int .i64 (Int.ofNat i)))] t) (hS .u64 L) = (.exit 2 (ovT [(0, (AV.slice 0 0 n n 1 false)), (1, (AV.int .i64 (Int.ofNat 0))), (2, (AV.int .i64 (Int.ofNat n))), (6, (AV.int .i64 (Int.ofNat i)))] e2.t) (hS .u64 (sink L i))) ∧ True ∧ (evQ (.bin .add (.const (AV.int .i64 (Int.ofNat i))) (.const (AV.int .i64 (Int.ofNat 1)))) .lf H0 = .ok (AV.int .i64 (Int.ofNat (i + 1))) ∧ ((fun ls h' => ∃ y, ls = ((fun (z : List Int × Nat) => [(0, (AV.slice 0 0 n n 1 false)), (1, (AV.int .i64 (Int.ofNat 0))), (2, (AV.int .i64 (Int.ofNat n))), (6, (AV.int .i64 (Int.ofNat z.2)))]) y).map (fun p => some p.2) ∧ (fun (z : List Int × Nat) (h' : Hp) => h' = hS .u64 z.1 ∧ 1 ≤ z.2 ∧ z.1.length = n ∧ outerL (n - z.2) z.2 z.1 = res) y h' ∧ (fun (z : List Int × Nat) => (n - z.2)) y < (fun (z : List Int × Nat) => (n - z.2)) (L, i)) : List (Option AV) → Hp → Prop) [some (AV.slice 0 0 n n 1 false), some (AV.int .i64 (Int.ofNat 0)), some (AV.int .i64 (Int.ofNat n)), some (AV.int .i64 (Int.ofNat (i + 1)))] (hS .u64 (sink L i))))) ∧ (ltI (Int.ofNat i) (Int.ofNat n) = false → ((fun i ls h' => ∃ y, ls = ((fun (z : List Int × Nat) => [(0, (AV.slice 0 0 n n 1 false)), (1, (AV.int .i64 (Int.ofNat 0))), (2, (AV.int .i64 (Int.ofNat n))), (6, (AV.int .i64 (Int.ofNat z.2)))]) y).map (fun p => some p.2) ∧ (fun (i : Nat) (z : List Int × Nat) (h' : Hp) => (i = 0) ∧ (i = 0 → h' = hS .u64 z.1 ∧ z.1 = res)) i y h') : Nat → List (Option AV) → Hp → Prop) 0 [some (AV.slice 0 0 n n 1 false), some (AV.int .i64 (Int.ofNat 0)), some (AV.int .i64 (Int.ofNat n)), some (AV.int .i64 (Int.ofNat i))] (hS .u64 L)))) (by kernel_rfl) ?_
  refine ⟨fun c1 => ?_, fun c1 => ?_⟩
  · have rc1 := c1
    replace c1 : i < n := ltI_t c1
    obtain ⟨L1, j1, t1, h1, q1, w1, x1⟩ := ins_in_x (N := N) (i0 := i) (res := sink L i) (L := L) (j := i) hn hless ⟨rfl, by omega, hLn, rfl⟩ (show i < N by omega) (t := ovT [(0, (AV.slice 0 0 n n 1 false)), (1, (AV.int .i64 (Int.ofNat 0))), (2, (AV.int .i64 (Int.ofNat n))), (6, (AV.int .i64 (Int.ofNat i))), (7, (AV.int .i64 (Int.ofNat i))), (10, (AV.int .i64 (Int.ofNat i))), (11, (AV.int .i64 (Int.ofNat n))), (12, (AV.bool true)), (15, (AV.int .i64 (Int.ofNat i)))] t) (by kernel_rfl)
    obtain ⟨rfl, rfl⟩ := x1
    have w1 : [tget (pathOf 0) t1, tget (pathOf 1) t1, tget (pathOf 2) t1, tget (pathOf 6) t1, tget (pathOf 7) t1] = _ := w1
    simp only [List.cons.injEq] at w1
    obtain ⟨g0, g1, g2, g6, -⟩ := w1
    refine ⟨(⟨.nilPtr, t1, H0⟩ : Ev), (by rw [q1]; exact congrArg (fun t => RS.exit 2 t _) (ovT_eq (l := [(0, (AV.slice 0 0 n n 1 false)), (1, (AV.int .i64 (Int.ofNat 0))), (2, (AV.int .i64 (Int.ofNat n))), (6, (AV.int .i64 (Int.ofNat i)))]) (by show [tget (pathOf 0) t1, tget (pathOf 1) t1, tget (pathOf 2) t1, tget (pathOf 6) t1] = _; rw [g0, g1, g2, g6]; rfl)).symm), trivial, ?_⟩
    refine ⟨q_add (by omega), ?_⟩
    refine ⟨(sink L i, i + 1), rfl, ⟨rfl, by dsimp only; omega, by dsimp only; rw [sink_len]; exact hLn, ?_⟩, by dsimp only; omega⟩
    dsimp only
    rw [show n - i = (n - (i + 1)) + 1 by omega, outerL] at hres
    exact hres
  · have rc1 := c1
    replace c1 : n ≤ i := ltI_f c1
    refine ⟨(L, i), rfl, rfl, fun _ => ⟨rfl, ?_⟩⟩
    rw [show n - i = 0 by omega] at hres
    exact hres
theorem ins_out {call : CallT} {N : Nat} {n : Nat} {res : List Int} (hn : n ≤ 12) (hless : ∀ (x y : Int) (h : Hp), call 127 [.int .u64 x, .int .u64 y] h = .ok (.bool (ltI x y)) h) (hNN : 12 < N) {L : List Int} {i : Nat} {h : Hp} (hi : (fun (z : List Int × Nat) (h' : Hp) => h' = hS .u64 z.1 ∧ 1 ≤ z.2 ∧ z.1.length = n ∧ outerL (n - z.2) z.2 z.1 = res) (L, i) h) (hN : (n - i) < N) {t : T} (ht : Has ((fun (z : List Int × Nat) => [(0, (AV.slice 0 0 n n 1 false)), (1, (AV.int .i64 (Int.ofNat 0))), (2, (AV.int .i64 (Int.ofNat n))), (6, (AV.int .i64 (Int.ofNat z.2)))]) (L, i)) t) :
    (∃ i y t' h', evC call N (.loop ins_outC) t h = .exit i t' h' ∧ Has ((fun (z : List Int × Nat) => [(0, (AV.slice 0 0 n n 1 false)), (1, (AV.int .i64 (Int.ofNat 0))), (2, (AV.int .i64 (Int.ofNat n))), (6, (AV.int .i64 (Int.ofNat z.2)))]) y) t' ∧ (fun (i : Nat) (z : List Int × Nat) (h' : Hp) => (i = 0) ∧ (i = 0 → h' = hS .u64 z.1 ∧ z.1 = res)) i y h') ∨ (∃ t' h', evC call N (.loop ins_outC) t h = .ret t' h' ∧ (fun (ls : List (Option AV)) (h' : Hp) => False) (slots [0, 1, 2, 6] t') h') :=
  loop_st (fun (z : List Int × Nat) => [(0, (AV.slice 0 0 n n 1 false)), (1, (AV.int .i64 (Int.ofNat 0))), (2, (AV.int .i64 (Int.ofNat n))), (6, (AV.int .i64 (Int.ofNat z.2)))]) [0, 1, 2, 6] (fun _ => rfl) (fun (z : List Int × Nat) (h' : Hp) => h' = hS .u64 z.1 ∧ 1 ≤ z.2 ∧ z.1.length = n ∧ outerL (n - z.2) z.2 z.1 = res) (fun (z : List Int × Nat) => (n - z.2)) (fun (i : Nat) (z : List Int × Nat) (h' : Hp) => (i = 0) ∧ (i = 0 → h' = hS .u64 z.1 ∧ z.1 = res)) (fun (ls : List (Option AV)) (h' : Hp) => False) (fun ⟨L, i⟩ t h hi => ins_out_body hn hless hNN hi) (L, i) h hi hN t ht
theorem ins_out_x {call : CallT} {N : Nat} {n : Nat} {res : List Int} (hn : n ≤ 12) (hless : ∀ (x y : Int) (h : Hp), call 127 [.int .u64 x, .int .u64 y] h = .ok (.bool (ltI x y)) h) (hNN : 12 < N) {L : List Int} {i : Nat} {h : Hp} (hi : h = hS .u64 L ∧ 1 ≤ i ∧ L.length = n ∧ outerL (n - i) i L = res) (hN : (n - i) < N) {t : T} (ht : slots [0, 1, 2, 6] t = [some (AV.slice 0 0 n n 1 false), some (AV.int .i64 (Int.ofNat 0)), some (AV.int .i64 (Int.ofNat n)), some (AV.int .i64 (Int.ofNat i))]) :
    ∃ (L1 : List Int) (i1 : Nat) (t' : T) (h' : Hp), evC call N (.loop ins_outC) t h = .exit 0 t' h' ∧ slots [0, 1, 2, 6] t' = [some (AV.slice 0 0 n n 1 false), some (AV.int .i64 (Int.ofNat 0)), some (AV.int .i64 (Int.ofNat n)), some (AV.int .i64 (Int.ofNat i1))] ∧ (h' = hS .u64 L1 ∧ L1 = res) := by
  rcases ins_out hn hless hNN hi hN ht with ⟨i, y, t', h', q, w, e⟩ | ⟨t', h', q, e⟩
  · obtain ⟨e1, e2⟩ := e
    subst e1
    exact ⟨y.1, y.2, t', h', q, w, e2 rfl⟩
  · exact e.elim
theorem ins_walk {call : CallT} {N : Nat} {h : Hp} {n : Nat} {L : List Int} (hn : n ≤ 12) (hLn : L.length = n) (hless : ∀ (x y : Int) (h : Hp), call 127 [.int .u64 x, .int .u64 y] h = .ok (.bool (ltI x y)) h) (hNN : 12 < N)
    : ∃ rv rh, evF1 (progS Try.prog (compDrawn Try.prog)) N call 121 [(AV.slice 0 0 n n 1 false), (AV.int .i64 (Int.ofNat 0)), (AV.int .i64 (Int.ofNat n))] (hS .u64 L) = .ok rv rh ∧ (fun (v : AV) (h' : Hp) => v = .tuple [] ∧ h' = hS .u64 (isort L)) rv rh := by
  refine fwalk_ok (o := (.lpx 3 (fun e1 => (.exit 0 e1.t (hS .u64 (isort L)))) (fun e1 => .fin))) (p := (∃ e1 : Ev, evC call N (.loop ins_outC) (ovT [(0, (AV.slice 0 0 n n 1 false)), (1, (AV.int .i64 (Int.ofNat 0))), (2, (AV.int .i64 (Int.ofNat n))), (6, (AV.int .i64 (Int.ofNat 1))), (8, (AV.int .i64 (Int.ofNat 0))), (9, (AV.int .i64 (Int.ofNat 1)))] .lf) (hS .u64 L) = (.exit 0 e1.t (hS .u64 (isort L))) ∧ True ∧ (fun (v : AV) (h' : Hp) => v = .tuple [] ∧ h' = hS .u64 (isort L)) (AV.tuple []) (hS .u64 (isort L)))) (by kernel_rfl) ?_
  obtain ⟨L1, j1, t1, h1, q1, w1, x1⟩ := ins_out_x (N := N) (res := isort L) (L := L) (i := 1) hn hless hNN ⟨rfl, Nat.le_refl _, hLn, by rw [isort, hLn]⟩ (show n - 1 < N by omega) (t := ovT [(0, (AV.slice 0 0 n n 1 false)), (1, (AV.int .i64 (Int.ofNat 0))), (2, (AV.int .i64 (Int.ofNat n))), (6, (AV.int .i64 (Int.ofNat 1))), (8, (AV.int .i64 (Int.ofNat 0))), (9, (AV.int .i64 (Int.ofNat 1)))] .lf) (by kernel_rfl)
  obtain ⟨rfl, rfl⟩ := x1
  refine ⟨(⟨.nilPtr, t1, H0⟩ : Ev), q1, trivial, ?_⟩
  exact ⟨rfl, rfl⟩
theorem pdq_walk {call : CallT} {N : Nat} {h : Hp} {n : Nat} {L : List Int} {lim : Int} (hn : n ≤ 12) (hins : call 121 [AV.slice 0 0 n n 1 false, .int .i64 (.ofNat 0), .int .i64 (.ofNat n)] (hS .u64 L) = .ok (.tuple []) (hS .u64 (isort L)))
    : ∃ rv rh, evF1 (progS Try.prog (compDrawn Try.prog)) (N + 1) call 104 [(AV.slice 0 0 n n 1 false), (AV.int .i64 (Int.ofNat 0)), (AV.int .i64 (Int.ofNat n)), (AV.int .i64 lim)] (hS .u64 L) = .ok rv rh ∧ (fun (v : AV) (h' : Hp) => v = .tuple [] ∧ h' = hS .u64 (isort L)) rv rh := by
  refine fwalk_ok (o := (.tell 5 (AV.int .i64 (Int.ofNat (n - 0))) (.tell 2 (AV.bool true) (.eff 3 (AV.tuple []) (hS .u64 (isort L)) .fin)))) (p := (evQ (.bin .sub (.const (AV.int .i64 (Int.ofNat n))) (.const (AV.int .i64 (Int.ofNat 0)))) .lf H0 = .ok (AV.int .i64 (Int.ofNat (n - 0))) ∧ (evQ (.bin .leq (.const (AV.int .i64 (Int.ofNat (n - 0)))) (.const (AV.int .i64 (Int.ofNat 12)))) .lf H0 = .ok (AV.bool true) ∧ (call 121 [(AV.slice 0 0 n n 1 false), (AV.int .i64 (Int.ofNat 0)), (AV.int .i64 (Int.ofNat n))] (hS .u64 L) = .ok (AV.tuple []) (hS .u64 (isort L)) ∧ (fun (v : AV) (h' : Hp) => v = .tuple [] ∧ h' = hS .u64 (isort L)) (AV.tuple []) (hS .u64 (isort L)))))) (by kernel_rfl) ?_
  refine ⟨q_sub (by omega) (by omega), ?_⟩
  refine ⟨congrArg (fun z => OV.ok (AV.bool (notB z))) (ltI_false (a := 12) (b := n - 0) (by omega)), ?_⟩
  refine ⟨hins, ?_⟩
  exact ⟨rfl, rfl⟩
def bitN (m : Nat) : Int := if m = 0 then 0 else if m < 2 then 1 else if m < 4 then 2 else if m < 8 then 3 else 4
theorem sort_walk {call : CallT} {N : Nat} {h : Hp} {n : Nat} {L : List Int} (hn : n ≤ 12) (hbits : ∀ (m : Nat) (h : Hp), m ≤ 12 → call 105 [.int .u64 (.ofNat m)] h = .ok (.int .i64 (bitN m)) h) (hpdq : ∀ lim : Int, call 104 [AV.slice 0 0 n n 1 false, .int .i64 (.ofNat 0), .int .i64 (.ofNat n), .int .i64 lim] (hS .u64 L) = .ok (.tuple []) (hS .u64 (isort L)))
    : ∃ rv rh, evF1 (progS Try.prog (compDrawn Try.prog)) N call 67 [(AV.slice 0 0 n n 1 false)] (hS .u64 L) = .ok rv rh ∧ (fun (v : AV) (h' : Hp) => v = .tuple [] ∧ h' = hS .u64 (isort L)) rv rh := by
  refine fwalk_ok (o := (.tell 6 (AV.int .u64 (Int.ofNat (n % 18446744073709551616))) (.eff 0 (AV.int .i64 (bitN (n % 18446744073709551616))) (hS .u64 L) (.eff 0 (AV.tuple []) (hS .u64 (isort L)) .fin)))) (p := (evQ (.toInt .u64 (.const (AV.int .i64 (Int.ofNat n)))) .lf H0 = .ok (AV.int .u64 (Int.ofNat (n % 18446744073709551616))) ∧ (call 105 [(AV.int .u64 (Int.ofNat (n % 18446744073709551616)))] (hS .u64 L) = .ok (AV.int .i64 (bitN (n % 18446744073709551616))) (hS .u64 L) ∧ (call 104 [(AV.slice 0 0 n n 1 false), (AV.int .i64 (Int.ofNat 0)), (AV.int .i64 (Int.ofNat n)), (AV.int .i64 (bitN (n % 18446744073709551616)))] (hS .u64 L) = .ok (AV.tuple []) (hS .u64 (isort L)) ∧ (fun (v : AV) (h' : Hp) => v = .tuple [] ∧ h' = hS .u64 (isort L)) (AV.tuple []) (hS .u64 (isort L)))))) (by kernel_rfl) ?_
  refine ⟨u_conv rfl, ?_⟩
  have g1 : n % 18446744073709551616 < 18446744073709551616 := Nat.mod_lt _ (by decide)
  refine ⟨hbits _ _ (by omega), ?_⟩
  refine ⟨hpdq _, ?_⟩
  exact ⟨rfl, rfl⟩
theorem less_walk {call : CallT} {N : Nat} {h : Hp} {x y : Int} (hnan : ∀ (x : Int) (h : Hp), call 139 [.int .u64 x] h = .ok (.bool false) h)
    : ∃ rv rh, evF1 (progS Try.prog (compDrawn Try.prog)) N call 127 [(AV.int .u64 x), (AV.int .u64 y)] h = .ok rv rh ∧ (fun (v : AV) (h' : Hp) => h' = h ∧ v = .bool (ltI x y)) rv rh := by
  refine fwalk_ok (o := (.eff 2 (AV.bool false) h .fin)) (p := (call 139 [(AV.int .u64 x)] h = .ok (AV.bool false) h ∧ (fun (v : AV) (h' : Hp) => h' = h ∧ v = .bool (ltI x y)) (AV.bool (ltI x y)) h)) (by kernel_rfl) ?_
  refine ⟨hnan _ _, ?_⟩
  exact ⟨rfl, rfl⟩
theorem s_nan (d : Nat) (x : Int) (h : Hp) : CC0 (d + 1) 139 [.int .u64 x] h = .ok (.bool false) h := by
  rw [CC0, evF_at rfl]
  refine (show evF1 (progS Try.prog (compDrawn Try.prog)) 100000 _ 139 [.int .u64 x] h = .ok (.bool (notB (eqI x x))) h by kernel_rfl).trans ?_
  rw [show eqI x x = true from eqI_self x]; rfl
theorem s_less (d : Nat) (x y : Int) (h : Hp) : CC0 (d + 2) 127 [.int .u64 x, .int .u64 y] h = .ok (.bool (ltI x y)) h := by
  rw [CC0, evF_at rfl]
  obtain ⟨rv, rh, e, rfl, rfl⟩ := less_walk (call := CC0 (d + 1)) (N := 100000) (x := x) (y := y) (h := h) (s_nan d)
  exact e
theorem bits_0 (d : Nat) (h : Hp) : CC0 (d + 4) 105 [.int .u64 (.ofNat 0)] h = .ok (.int .i64 0) h := by kernel_rfl
theorem bits_1 (d : Nat) (h : Hp) : CC0 (d + 4) 105 [.int .u64 (.ofNat 1)] h = .ok (.int .i64 1) h := by kernel_rfl
theorem bits_2 (d : Nat) (h : Hp) : CC0 (d + 4) 105 [.int .u64 (.ofNat 2)] h = .ok (.int .i64 2) h := by kernel_rfl
theorem bits_3 (d : Nat) (h : Hp) : CC0 (d + 4) 105 [.int .u64 (.ofNat 3)] h = .ok (.int .i64 2) h := by kernel_rfl
theorem bits_4 (d : Nat) (h : Hp) : CC0 (d + 4) 105 [.int .u64 (.ofNat 4)] h = .ok (.int .i64 3) h := by kernel_rfl
theorem bits_5 (d : Nat) (h : Hp) : CC0 (d + 4) 105 [.int .u64 (.ofNat 5)] h = .ok (.int .i64 3) h := by kernel_rfl
theorem bits_6 (d : Nat) (h : Hp) : CC0 (d + 4) 105 [.int .u64 (.ofNat 6)] h = .ok (.int .i64 3) h := by kernel_rfl
theorem bits_7 (d : Nat) (h : Hp) : CC0 (d + 4) 105 [.int .u64 (.ofNat 7)] h = .ok (.int .i64 3) h := by kernel_rfl
theorem bits_8 (d : Nat) (h : Hp) : CC0 (d + 4) 105 [.int .u64 (.ofNat 8)] h = .ok (.int .i64 4) h := by kernel_rfl
theorem bits_9 (d : Nat) (h : Hp) : CC0 (d + 4) 105 [.int .u64 (.ofNat 9)] h = .ok (.int .i64 4) h := by kernel_rfl
theorem bits_10 (d : Nat) (h : Hp) : CC0 (d + 4) 105 [.int .u64 (.ofNat 10)] h = .ok (.int .i64 4) h := by kernel_rfl
theorem bits_11 (d : Nat) (h : Hp) : CC0 (d + 4) 105 [.int .u64 (.ofNat 11)] h = .ok (.int .i64 4) h := by kernel_rfl
theorem bits_12 (d : Nat) (h : Hp) : CC0 (d + 4) 105 [.int .u64 (.ofNat 12)] h = .ok (.int .i64 4) h := by kernel_rfl
theorem s_bits (d m : Nat) (h : Hp) (hm : m ≤ 12) : CC0 (d + 4) 105 [.int .u64 (.ofNat m)] h = .ok (.int .i64 (bitN m)) h := by
  have : m = 0 ∨ m = 1 ∨ m = 2 ∨ m = 3 ∨ m = 4 ∨ m = 5 ∨ m = 6 ∨ m = 7 ∨ m = 8 ∨ m = 9 ∨ m = 10 ∨ m = 11 ∨ m = 12 := by omega
  rcases this with rfl | rfl | rfl | rfl | rfl | rfl | rfl | rfl | rfl | rfl | rfl | rfl | rfl
  · exact bits_0 d h
  · exact bits_1 d h
  · exact bits_2 d h
  · exact bits_3 d h
  · exact bits_4 d h
  · exact bits_5 d h
  · exact bits_6 d h
  · exact bits_7 d h
  · exact bits_8 d h
  · exact bits_9 d h
  · exact bits_10 d h
  · exact bits_11 d h
  · exact bits_12 d h
theorem s_sort {n : Nat} {L : List Int} (hn : n ≤ 12) (hLn : L.length = n) : CC0 8 67 [AV.slice 0 0 n n 1 false] (hS .u64 L) = .ok (.tuple []) (hS .u64 (isort L)) := by
  rw [CC0, evF_at rfl]
  obtain ⟨rv, rh, e, rfl, rfl⟩ := sort_walk (call := CC0 7) (N := 100000) (h := H0) hn (s_bits 3) (fun lim => by
    rw [CC0, evF_at rfl]
    obtain ⟨rv, rh, e, rfl, rfl⟩ := pdq_walk (call := CC0 6) (N := 99999) (h := H0) (lim := lim) (L := L) hn (by
      rw [CC0, evF_at rfl]
      obtain ⟨rv, rh, e, rfl, rfl⟩ := ins_walk (call := CC0 5) (N := 100000) (h := H0) hn hLn (s_less 3) (by decide)
      exact e)
    exact e)
  exact e
theorem sort_row {L : List Int} {W : World} {g : Nat} {cur : Array Value} {el : TypeId} (hg : W.heap[g]? = some (.cells cur el (0, 0))) (ht : cur.toList.take L.length = L.map (Value.int .u64)) (hL : L.length ≤ cur.size) (hn : L.length ≤ 12) :
    Calls Try.prog 67 #[.slice (some ⟨g, 0, none⟩) L.length cur.size] W fun e W' => e = .returned (.tuple #[]) ∧ CallR (mpS g cur.size) (hS .u64 L) W (.tuple []) (hS .u64 (isort L)) e W' := by
  refine (evF_ok compDrawn_ok noM_ok 100000 8 67 [AV.slice 0 0 L.length L.length 1 false] (hS .u64 L) _ _ (mpS g cur.size) W _ (s_sort hn rfl) (sim_row hg ht hL) ?_).2.mono fun e W' r => ⟨?_, r⟩
  · rw [VRs_cons]
    refine ⟨_, _, rfl, ?_, by rw [VRs_nil]⟩
    unfold VR
    exact ⟨g, 0, ⟨g, 0, none⟩, cur.size, rfl, rfl, Nat.le_refl _, hL, (fun h => by cases h), fun _ => ⟨rfl, by show 0 + 0 + cur.size * 1 ≤ cur.size; omega⟩⟩
  · obtain ⟨μ', y, rfl, ry, _⟩ := r
    unfold VR at ry
    obtain ⟨l, rfl, hl⟩ := ry
    rw [VRs_nil] at hl
    obtain rfl : l = #[] := Array.toList_eq_nil_iff.1 hl
    rfl
theorem sort_nil (W : World) : Calls Try.prog 67 #[.slice none 0 0] W fun e W' => e = .returned (.tuple #[]) ∧ Below W.heap.size W W' := by
  refine (evF_ok compDrawn_ok noM_ok 100000 8 67 [.nilSlice] H0 (.tuple []) H0 Mp.none W _ (by kernel_rfl) (.none W) ?_).2.mono fun e W' r => ?_
  · rw [VRs_cons]
    exact ⟨_, _, rfl, by unfold VR; rfl, by rw [VRs_nil]⟩
  · obtain ⟨μ', y, rfl, ry, _, gs⟩ := r
    unfold VR at ry
    obtain ⟨l, rfl, hl⟩ := ry
    rw [VRs_nil] at hl
    obtain rfl : l = #[] := Array.toList_eq_nil_iff.1 hl
    exact ⟨rfl, gs.below⟩
set_option maxRecDepth 100000 in
set_option maxHeartbeats 2000000 in
theorem sorted_in (g : Nat) (lb : Array Value) (eg : ∀ args w, (callFunc g args).run Try.prog w = .ok (.enter g args) w) (K : List Int) (hK : K.length ≤ 12) (w : World) (hseq : SeqGives Fence.wide 3 Try.prog g lb (enQ .u64) (fun ss => ss.Perm K) K.length w) :
    Calls Try.prog 43 #[.func (.func g) #[] lb] w fun e w' => Below w.heap.size w w' ∧ ((e = .returned (.slice none 0 0) ∧ K = []) ∨ ∃ gb cap arr el fr, e = .returned (.slice (some ⟨gb, 0, none⟩) K.length cap) ∧ K ≠ [] ∧ w.heap.size ≤ gb ∧ w'.heap[gb]? = some (.cells arr el fr) ∧ arr.size = cap ∧ Unmarked arr.size fr ∧ (∀ (i : Nat) (z : Int), (isort K)[i]? = some z → arr[i]? = some (.int .u64 z)) ∧ K.length ≤ cap) := by
  refine (callsIn_wide (n := 6)).1 ?_
  have hfC : Fence.wide.fn 66 := trivial
  have hfS : Fence.wide.fn 67 := trivial
  have cS := collect_in Fence.wide 5 trivial trivial rfl (by omega) g lb trivial eg _ K.length (Nat.le_trans hK (by decide)) (by omega) w hseq
  refine callsIn_of_wp Try.func43 rfl trivial ?_ rfl
  simp only [Try.ntmps43, List.size_toArray, List.length_cons, List.length_nil, Nat.reduceAdd, Nat.reduceSub, Array.replicate_succ, Array.replicate_zero, List.push_toArray, List.append_toArray, List.nil_append, List.cons_append]
  gi_wp2_with (gi_at_call 66; refine cS.mono ?_; rintro e W ⟨v, ss, rfl, hS, hrow, hnil, hb⟩)
  rcases hrow.2 with ⟨rfl, hz⟩ | ⟨gb, cap, cur, rfl, hbase, hgb, r1, r2, r3, r4⟩
  · have hss : ss = [] := List.eq_nil_of_length_eq_zero hz
    subst hss
    have hKn : K = [] := by have := hS.length_eq; exact List.eq_nil_of_length_eq_zero this.symm
    gi_wp2_with (gi_at_call 67; refine (callsIn_wide.2 (sort_nil W)).mono ?_; rintro e w' ⟨rfl, hb2⟩)
    go_ret
    exact ⟨hb.trans (hb2.mono hb.size), .inl ⟨rfl, hKn⟩⟩
  · have hlen : ss.length = K.length := hS.length_eq
    have hsz : cur.size = cap := by omega
    subst hsz
    clear r3
    have r5 : cur.toList.take ss.length = ss.map (Value.int .u64) := by rw [← Nat.mul_one ss.length]; exact r4
    have hKn : ss ≠ [] := fun e => by have h5 := hnil.2 e; cases h5
    gi_wp2_with (gi_at_call 67; refine (callsIn_wide.2 (sort_row hgb r5 (by omega) (by omega))).mono ?_; rintro e w' ⟨rfl, hr⟩; obtain ⟨arr, el, fr, h1, h2, h3, h4, h5⟩ := row_after (Array.getElem?_eq_some_iff.1 hgb).1 hr; clear hr cS hseq)
    go_ret
    refine ⟨hb.trans (h5 _ hbase), .inr ⟨gb, _, arr, el, fr, rfl, fun e => hKn (by rw [e] at hlen; exact List.eq_nil_of_length_eq_zero hlen), hbase, h1, h2, h3, ?_, by omega⟩⟩
    rw [← isort_of_perm hS]; exact h4
noncomputable def rowOf (l : List Int) (h : Hp) : RV := lcase (.ok .nilSlice h) (fun _ _ => .ok (.slice h.next 0 (len l) (len l) 1 false) (hpush h (mkCells (lmap (AV.int .u64) l) (len l)))) l
theorem row_call {g : Nat} {lb : Array Value} (eg : ∀ args w, (callFunc g args).run Try.prog w = .ok (.enter g args) w) {K l : List Int} (hp : K.Perm l) (hK : l.length ≤ 12) {μ : Mp} {h h' : Hp} {v : AV} {w : World} (hs : Sim μ h w) (hseq : SeqGives Fence.wide 3 Try.prog g lb (enQ .u64) (fun ss => ss.Perm K) K.length w) (e : rowOf (sortK l) h = .ok v h') :
    Calls Try.prog 43 #[.func (.func g) #[] lb] w (CallR μ h w v h') := by
  have hlen := hp.length_eq
  refine (sorted_in g lb eg K (by omega) w hseq).mono fun e' w' ⟨hb, hr⟩ => ?_
  have hKl : isort K = sortK l := by rw [isort_of_perm hp, isort_eq]
  have hsl : (sortK l).length = l.length := (sortK_perm l).length_eq
  rcases hr with ⟨rfl, hn⟩ | ⟨gb, cap, arr, el, fr, rfl, hn, hg, h1, h2, h3, h4, h5⟩
  · subst hn
    have h0 : sortK l = [] := List.eq_nil_of_length_eq_zero (by rw [hsl, ← hlen]; rfl)
    rw [h0] at e
    cases e
    exact told_nil hs hb
  · rw [hKl] at h4
    have hkl : K.length = (sortK l).length := by omega
    rw [hkl]
    rw [hkl] at h5
    cases hq : sortK l with
    | nil => rw [hq] at hkl; exact absurd (List.eq_nil_of_length_eq_zero hkl) hn
    | cons a t =>
      rw [hq] at e h4 h5
      have e : RV.ok (.slice h.next 0 (len (a :: t)) (len (a :: t)) 1 false) (hpush h (mkCells (lmap (AV.int .u64) (a :: t)) (len (a :: t)))) = .ok v h' := e
      rw [len_eq, lmap_eq] at e
      cases e
      exact told_row hs hb hg h1 h2 h3 h4 h5
noncomputable def keysM (args : List AV) (h : Hp) : RV := match args with
  | [.func (.func g) [] [.ptr b o]] => bc (lall (fun k => notB (Nat.beq k g)) [68]) .no ((rd h b o).cs .no fun m => m.asMap .no .no fun mb => hmap h mb .no fun es n ck => ocase .no (fun l => rowOf (sortK l) h) (keysOf .u64 es n ck))
  | _ => .no
noncomputable def sumK (f : Nat) : Option (List AV → Hp → RV) := bc (Nat.beq f 43) (some keysM) none
theorem keys_call_68 {μ : Mp} {h h' : Hp} {v m : AV} {w : World} {b o c s : Nat} (hs : Sim μ h w) (hat : μ.at_ b = some (c, s)) (hr : rd h b o = .ok m) (e : (m.asMap RV.no .no fun mb => hmap h mb .no fun es n ck => ocase .no (fun l => rowOf (sortK l) h) (keysOf .u64 es n ck)) = .ok v h') :
    Calls Try.prog 43 #[.func (.func 68) #[] #[.pointer (some ⟨c, s + o, none⟩)]] w (CallR μ h w v h') := by
  rcases asMap_inv e nofun with ⟨rfl, e1⟩ | ⟨mb, rfl, e1⟩
  · cases e1
  · obtain ⟨es, n, ck, hm, e2⟩ := hmap_inv e1 nofun
    obtain ⟨l, hk, e3⟩ := ocase_inv e2 nofun
    obtain ⟨x, hx, hv, _⟩ := rd_ok hs hat hr
    unfold VR at hv
    obtain ⟨cm, sm, hatm, rfl⟩ := hv
    obtain ⟨D0, hown, hp, hz, h12⟩ := owns_blk (P := Try.prog) (k := 42) Try.underlying42 (hs.blk mb cm sm _ hatm hm) hk
    have hseq := gives_68 Fence.wide 3 trivial rfl (by decide) c (s + o) cm n D0 _ w (hs.old b c s hat) hx hown
    rw [show Maps.size D0 = (keysD D0).length by rw [hz, hp.length_eq]] at hseq
    exact row_call (enters_of Try.func68 (by kernel_rfl) rfl) hp h12 hs hseq e3
theorem sumK_ok : Eng.Good Try.prog fun f args h => ocase .no (fun m => m args h) (sumK f) := fun f args h v h' μ w cargs e hs r => by
  replace e : ocase RV.no (fun m => m args h) (bc (Nat.beq f 43) (some keysM) none) = .ok v h' := e
  cases hf : Nat.beq f 43 with
  | false => rw [hf] at e; cases e
  | true =>
    obtain rfl : f = 43 := Nat.eq_of_beq_eq_true hf
    rw [hf] at e
    replace e : keysM args h = .ok v h' := e
    refine ⟨⟨_, _, Try.func43, by decide, rfl⟩, ?_⟩
    unfold keysM at e
    split at e
    · rename_i args g b o
      replace e := bc_inv' e
      obtain ⟨hg, e⟩ := e
      rw [VRs_cons] at r
      obtain ⟨x0, xs, hx, rx, rxs⟩ := r
      rw [VRs_nil] at rxs
      subst rxs
      unfold VR at rx
      obtain ⟨a', b', rfl, ra, rb⟩ := rx
      rw [VRs_nil] at ra
      obtain rfl : a' = #[] := Array.toList_eq_nil_iff.1 ra
      rw [VRs_cons] at rb
      obtain ⟨y0, ys, hy, ry, rys⟩ := rb
      rw [VRs_nil] at rys
      subst rys
      unfold VR at ry
      obtain ⟨c, s, hat, rfl⟩ := ry
      obtain rfl : cargs = #[.func (.func g) #[] b'] := by cases cargs; simp at hx; simp [hx]
      obtain rfl : b' = #[.pointer (some ⟨c, s + o, none⟩)] := by cases b'; simp at hy; simp [hy]
      cases hr : rd h b o with
      | no => rw [hr] at e; cases e
      | ok m =>
        rw [hr] at e
        have hin : g ∈ [68] := by
          apply Classical.byContradiction
          intro hne
          have : lall (fun k => notB (Nat.beq k g)) [68] = true := lall_iff.2 fun k hk => by
            rw [beqF (fun e => hne (by rw [← e]; exact hk))]; rfl
          rw [this] at hg; cases hg
        simp only [List.mem_cons, List.not_mem_nil, or_false] at hin
        subst hin
        exact keys_call_68 hs hat hr e
    · cases e
end Go.Proofs.Ytpelnanckmjoaaa
end
section
set_option linter.unusedVariables false
set_option linter.unusedSimpArgs false
namespace Go.Proofs.Ytpelnanckmjoaaa
open Go Go.RowKit Go.Shelf Go.Maps Eng
set_option maxRecDepth 100000 in
set_option maxHeartbeats 2000000 in
theorem clone_calls (b : Nat) (es : Array MapEntry) (clock : Nat) (w : World) (hb : w.heap[b]? = some (.map es clock)) :
    Calls Try.prog 46 #[.map (some b)] w fun e w' => e = .returned (.map (some w.heap.size)) ∧ w' = w.alloc (.map es clock) := by
  have hq := fun w => run_eql_map_nil_sl (P := Try.prog) w 95 _ _ (some b) Try.underlying95
  go_enter Try.func46, Try.ntmps46
  go_wp2
  rw [run_callFunc_extern Try.func69 (by kernel_rfl) (by kernel_rfl) (by kernel_rfl) (e := Extern.MapsClone.clone) (by kernel_rfl), run_maps_clone_sl w 95 hb]
  simp only [Result.andThen]
  rw [Oper.upon_value]
  go_wp2
  rw [run_typeAssert_map_sl _ 95 20 _ _ _ Try.underlying95]
  simp only [Result.andThen]
  rw [Oper.upon_value]
  go_wp2
  go_ret
  exact ⟨rfl, rfl⟩
theorem clone_ok {μ : Mp} {h h' : Hp} {v : AV} {w : World} {args : List AV} {cargs : Array Value} (e : cloneM args h = .ok v h') (hs : Sim μ h w) (r : VRs μ args cargs.toList) : Calls Try.prog 46 cargs w (CallR μ h w v h') := by
  unfold cloneM at e
  split at e
  · rename_i args m
    rw [VRs_cons] at r
    obtain ⟨x0, xs, hx, rx, rxs⟩ := r
    rw [VRs_nil] at rxs
    subst rxs
    obtain rfl : cargs = #[x0] := by cases cargs; simp at hx; simp [hx]
    rcases asMap_inv e nofun with ⟨rfl, e1⟩ | ⟨mb, rfl, e1⟩
    · cases e1
    · obtain ⟨es, n, ck, hm, e2⟩ := hmap_inv e1 nofun
      unfold VR at rx
      obtain ⟨cm, sm, hatm, rfl⟩ := rx
      obtain ⟨hn, hz, ho, es', hw, hE⟩ := hs.blk mb cm sm _ hatm hm
      cases e2
      refine (clone_calls cm es' ck w hw).mono fun e' w' ⟨he, hw'⟩ => ?_
      subst he
      subst hw'
      have hp : Pushed w (.map es' ck) (w.alloc (.map es' ck)) := ⟨rfl, rfl, rfl, rfl⟩
      have hle := ext_le (n := 0) hs (hs.lt h.next (Nat.le_refl _))
      have hat : (μ.ext h.next w.heap.size 0 0).at_ h.next = some (w.heap.size, 0) := by show (if _ then _ else _) = _; rw [if_pos rfl]
      obtain ⟨h1, h2⟩ := hs.push (x := .mp es n ck) (n := 0) hp (fun _ _ _ e => by cases e) ⟨hn, rfl, by show (if _ then _ else _) = _; rw [if_pos rfl], es', by show (w.heap.push _)[w.heap.size]? = _; simp, hE.mono hle⟩
      exact ⟨_, _, rfl, by unfold VR; exact ⟨w.heap.size, 0, hat, rfl⟩, h1, h2⟩
  · cases e
noncomputable def sumC (f : Nat) : Option (List AV → Hp → RV) := bc (Nat.beq f 46) (some cloneM) none
theorem sumC_ok : Eng.Good Try.prog fun f args h => ocase .no (fun m => m args h) (sumC f) := fun f args h v h' μ w cargs e hs r => by
  replace e : ocase RV.no (fun m => m args h) (bc (Nat.beq f 46) (some cloneM) none) = .ok v h' := e
  cases hf : Nat.beq f 46 with
  | false => rw [hf] at e; cases e
  | true =>
    obtain rfl : f = 46 := Nat.eq_of_beq_eq_true hf
    rw [hf] at e
    exact ⟨⟨_, _, Try.func46, by decide, rfl⟩, clone_ok e hs r⟩
noncomputable abbrev sumKC := orM sumK sumC
theorem sumKC_ok : Eng.Good Try.prog fun f args h => ocase .no (fun m => m args h) (sumKC f) := orM_ok sumK_ok sumC_ok
end Go.Proofs.Ytpelnanckmjoaaa
end
section
set_option linter.unusedVariables false
set_option linter.unusedSimpArgs false
namespace Go.Proofs.Ytpelnanckmjoaaa
open Go Eng
noncomputable abbrev HC (d : Nat) : CallT := evF (orM (sumT [21]) sumKC) (progS Try.prog (compDrawn Try.prog)) 100000 d
noncomputable def keyS (es : List (Nat × Int)) : List Nat := (sortK (es.map fun p => Int.ofNat p.1)).map Int.toNat
theorem sortK_nat (es : List (Nat × Int)) : sortK (es.map fun p => Int.ofNat p.1) = (keyS es).map Int.ofNat := by
  have hm : ∀ z ∈ sortK (es.map fun p => Int.ofNat p.1), z = Int.ofNat z.toNat := fun z hz => by
    have := (sortK_perm (es.map fun p => Int.ofNat p.1)).mem_iff.1 hz
    obtain ⟨p, _, rfl⟩ := List.mem_map.1 this
    rfl
  unfold keyS
  rw [List.map_map]
  have : ∀ l : List Int, (∀ z ∈ l, z = Int.ofNat z.toNat) → l = l.map (Int.ofNat ∘ Int.toNat) := fun l h => by
    induction l with
    | nil => rfl
    | cons a l ih => rw [List.map_cons, ← ih fun z hz => h z (by simp [hz])]; show a :: l = Int.ofNat a.toNat :: l; rw [← h a (by simp)]
  exact this _ hm
theorem sorted_call {os : List AObj} {h : Hp} (d : Nat) (S : Sep os h) {i j bx : Nat} {m : AV} {es : List (Nat × Int)} (hi : os[i]? = some (Cel bx [m])) (hj : os[j]? = some (MapO m es)) (hb : ∀ p ∈ es, p.1 < 18446744073709551616) (h12 : es.length ≤ 12) :
    ∃ e : Ev, HC (d + 1) 43 [.func (.func 68) [] [.ptr bx 0]] h = .ok e.v e.h ∧ Sep (OwnO 1 e.v (keyS es).length ((keyS es).map fun n => .int .u64 (.ofNat n)) :: os) e.h := by
  have hcel := cel_get S hi
  obtain ⟨b, E, c, rfl, h3, h4, h5⟩ := map_get S hj
  have ev : HC (d + 1) 43 [.func (.func 68) [] [.ptr bx 0]] h = (rd h bx 0).cs .no fun m => m.asMap .no .no fun mb => hmap h mb .no fun es n ck => ocase .no (fun l => rowOf (sortK l) h) (keysOf .u64 es n ck) := rfl
  have hr : rd h bx 0 = .ok (.map b) := by
    show hcells h bx OV.no _ = _
    unfold hcells; rw [hcel]; rfl
  have ev2 : HC (d + 1) 43 [.func (.func 68) [] [.ptr bx 0]] h = rowOf ((keyS es).map Int.ofNat) h := by
    rw [ev, hr]
    show hmap h b RV.no (fun es n ck => ocase RV.no (fun l => rowOf (sortK l) h) (keysOf .u64 es n ck)) = _
    unfold hmap; rw [h3]
    show ocase RV.no (fun l => rowOf (sortK l) h) (keysOf .u64 E es.length c) = _
    rw [keysOf_eq h4 h5 hb h12]
    show rowOf (sortK _) h = _
    rw [sortK_nat]
  rw [ev2]
  cases hk : keyS es with
  | nil => exact ⟨⟨.nilSlice, .lf, h⟩, rfl, own_nil S 1⟩
  | cons a l =>
    refine ⟨⟨_, .lf, _⟩, rfl, ?_⟩
    have e1 : lmap (AV.int .u64) ((a :: l).map Int.ofNat) = (a :: l).map fun n => AV.int .u64 (.ofNat n) := by rw [lmap_eq, List.map_map]; rfl
    have e2 : len ((a :: l).map Int.ofNat) = (a :: l).length := by rw [len_eq, List.length_map]
    show Sep (OwnO 1 (.slice h.next 0 (len ((a :: l).map Int.ofNat)) (len ((a :: l).map Int.ofNat)) 1 false) _ _ :: os) (hpush h (mkCells (lmap (AV.int .u64) ((a :: l).map Int.ofNat)) (len ((a :: l).map Int.ofNat))))
    rw [e1, e2]
    have := own_new S 1 (a :: l).length ((a :: l).map fun n => AV.int .u64 (.ofNat n)) false (by rw [List.length_map, Nat.mul_one])
    rw [Nat.mul_one] at this
    exact this
theorem new_call (d : Nat) (h : Hp) : HC (d + 1) 22 [] h = .ok (.ptr (hpush h (.mp [] 0 0)).next 0) (hpush (hpush h (.mp [] 0 0)) (mkCells [.map h.next, .int .u64 (.ofNat 0)] 2)) := by
  rw [HC, evF_at (show orM (sumT [21]) sumKC 22 = none from rfl)]
  kernel_rfl
theorem keys_call (d : Nat) (h : Hp) (b : Nat) : HC (d + 1) 44 [.map b] h = .ok (.func (.func 68) [] [.ptr h.next 0]) (hpush h (mkCells [.map b] 1)) := by
  rw [HC, evF_at (show orM (sumT [21]) sumKC 44 = none from rfl)]
  kernel_rfl
theorem rows_u64 {G : Nat → Prop} {h : Hp} : ∀ {l : List Nat}, (∀ x ∈ l, x < 18446744073709551616) → Eng.Rows (rU .u64) G h (l.map fun n => .int .u64 (.ofNat n)) l
  | [], _ => rfl
  | x :: l, hb => ⟨[.int .u64 (.ofNat x)], l.map fun n => .int .u64 (.ofNat n), rfl, ⟨rfl, hb x (by simp)⟩, rows_u64 fun y hy => hb y (by simp [hy])⟩
theorem keyS_bd {es : List (Nat × Int)} (hb : ∀ p ∈ es, p.1 < 18446744073709551616) : ∀ x ∈ keyS es, x < 18446744073709551616 := fun x hx => by
  unfold keyS at hx
  obtain ⟨z, hz, rfl⟩ := List.mem_map.1 hx
  have := (sortK_perm (es.map fun p => Int.ofNat p.1)).mem_iff.1 hz
  obtain ⟨p, hp, rfl⟩ := List.mem_map.1 this
  exact hb p hp
def NewS (call : CallT) : Prop := ∀ h : Hp, call 22 [] h = .ok (.ptr (hpush h (.mp [] 0 0)).next 0) (hpush (hpush h (.mp [] 0 0)) (mkCells [.map h.next, .int .u64 (.ofNat 0)] 2))
def KeyIS (call : CallT) : Prop := ∀ {os : List AObj} {h : Hp}, Sep os h → ∀ {i : Nat} {m : AV} {es : List (Nat × Int)}, os[i]? = some (MapO m es) → call 44 [m] h = .ok (.func (.func 68) [] [.ptr h.next 0]) (hpush h (mkCells [m] 1))
def SortS (call : CallT) : Prop := ∀ {os : List AObj} {h : Hp}, Sep os h → ∀ {i j bx : Nat} {m : AV} {es : List (Nat × Int)}, os[i]? = some (Cel bx [m]) → os[j]? = some (MapO m es) → (∀ p ∈ es, p.1 < 18446744073709551616) → es.length ≤ 12 →
    ∃ e : Ev, call 43 [.func (.func 68) [] [.ptr bx 0]] h = .ok e.v e.h ∧ Sep (OwnO 1 e.v (keyS es).length ((keyS es).map fun n => .int .u64 (.ofNat n)) :: os) e.h
theorem s_new (d : Nat) : NewS (HC (d + 1)) := new_call d
theorem s_keyi (d : Nat) : KeyIS (HC (d + 1)) := by
  intro os h S i m es hi
  obtain ⟨b, E, c, rfl, _⟩ := map_get S hi
  exact keys_call d _ b
theorem s_sorted (d : Nat) : SortS (HC (d + 1)) := by
  intro os h S i j bx m es hi hj hb h12
  exact sorted_call d S hi hj hb h12
def CloneMS (call : CallT) : Prop := ∀ {os : List AObj} {h : Hp}, Sep os h → ∀ {i : Nat} {m : AV} {es : List (Nat × Int)}, os[i]? = some (MapO m es) → ∃ e : Ev, call 46 [m] h = .ok e.v e.h ∧ Sep (MapO e.v es :: os) e.h
theorem s_clonem (d : Nat) : CloneMS (HC (d + 1)) := by
  intro os h S i m es hi
  exact clone_map S hi
end Go.Proofs.Ytpelnanckmjoaaa
end
section
set_option linter.unusedVariables false
set_option linter.unusedSimpArgs false
namespace Go.Proofs.Ytpelnanckmjoaaa
open Go Eng
noncomputable abbrev CC (d : Nat) : CallT := evF (orM (sumT [21]) sumKC) (progS Try.prog (compDrawn Try.prog)) 100000 d
noncomputable def hadd_p (m : List (Nat × Int)) (last : Nat) (x : Int) : Option (List (Nat × Int) × Nat × Nat × Nat) :=
  (if 8 ≤ m.length then (some (m, last, 0, 12)) else
    (some (putM m ((last + 1) % 18446744073709551616) x, (last + 1) % 18446744073709551616, (last + 1) % 18446744073709551616, 0)))
theorem hadd_w {call : CallT} {N : Nat} {h : Hp} {h0 : Hp} {G : Nat → Prop} {R : List AObj} {b : Nat} {wm_1 : AV} {m : List (Nat × Int)} {last : Nat} {x : Int} (fm_2 : ∀ p ∈ m, p.1 < 18446744073709551616) (flast_1 : last < 18446744073709551616)  {r : List (Nat × Int) × Nat × Nat × Nat} (hp : hadd_p m last x = some r) (S : Eng.Sep (Cel b [wm_1, (vq last)] :: MapO wm_1 m :: Frz G h0 :: R) h) :
    ∃ rv rh, evF1 (progS Try.prog (compDrawn Try.prog)) N call 25 [(AV.ptr b 0), (AV.int .i64 x)] h = .ok rv rh ∧ (fun (rv : AV) (rh : Hp) => ∃ wk2 : AV, rv = (AV.tuple [(vq r.2.2.1), (vi r.2.2.2)]) ∧ (r.2.2.1 < 18446744073709551616) ∧ (∀ p ∈ r.1, p.1 < 18446744073709551616) ∧ (r.2.1 < 18446744073709551616) ∧ Eng.Sep (Cel b (wk2 :: (vq r.2.1) :: []) :: MapO wk2 r.1 :: Frz G h0 :: R) rh) rv rh := by
  unfold hadd_p at hp
  refine fwalk_ok (K := (fun (rv : AV) (rh : Hp) => ∃ wk2 : AV, rv = (AV.tuple [(vq r.2.2.1), (vi r.2.2.2)]) ∧ (r.2.2.1 < 18446744073709551616) ∧ (∀ p ∈ r.1, p.1 < 18446744073709551616) ∧ (r.2.1 < 18446744073709551616) ∧ Eng.Sep (Cel b (wk2 :: (vq r.2.1) :: []) :: MapO wk2 r.1 :: Frz G h0 :: R) rh)) (o := (.tell 8 wm_1 (.tell 0 (vi m.length) (.fork 1 .fin (.tell 3 (vq last) (.tell 0 (vq ((last + 1) % 18446744073709551616)) (.effx 2 (fun e3 => (AV.tuple [])) (fun e3 => (.tell 3 wm_1 (.tell 3 (vq ((last + 1) % 18446744073709551616)) (.again 1 (.effx 0 (fun e5 => (AV.tuple [])) (fun e5 => (.tell 4 (vq ((last + 1) % 18446744073709551616)) .fin)))))))))))))) (p := (fun (KK : AV → Hp → Prop) => ((evQ (.loadS (.const (AV.ptr b 0))) .lf h = .ok wm_1 ∧ ((evQ (.lenM (.const wm_1)) .lf h = .ok (vi m.length) ∧ ((notB (ltI (Int.ofNat m.length) (Int.ofNat 8)) = true → KK (AV.tuple [(vq 0), (vi 12)]) h) ∧ (notB (ltI (Int.ofNat m.length) (Int.ofNat 8)) = false → ((evQ (.loadS (.const (AV.ptr b 1))) .lf h = .ok (vq last) ∧ ((evQ (.bin .add (.const (vq last)) (.const (vq 1))) .lf H0 = .ok (vq ((last + 1) % 18446744073709551616)) ∧ (∃ e3 : Ev, evE (.store 1 (.const (AV.ptr b 1)) (.const (vq ((last + 1) % 18446744073709551616)))) call .lf h = .ok (AV.tuple []) e3.h ∧ ((evQ (.loadS (.const (AV.ptr b 0))) .lf e3.h = .ok wm_1 ∧ ((evQ (.loadS (.const (AV.ptr b 1))) .lf e3.h = .ok (vq ((last + 1) % 18446744073709551616)) ∧ ((again (.move (.const (AV.int .i64 x))) .lf (AV.int .i64 x) e3.h = true ∧ again (.loadS (.const (AV.ptr b 1))) .lf (vq ((last + 1) % 18446744073709551616)) e3.h = true ∧ again (.fieldAddr 1 (.const (AV.ptr b 0))) .lf (AV.ptr b 1) e3.h = true ∧ again (.nilCheck (.const (AV.ptr b 0))) .lf (AV.ptr b 0) e3.h = true ∧ again (.move (.const (AV.ptr b 0))) .lf (AV.ptr b 0) e3.h = true ∧ again (.loadS (.const (AV.ptr b 0))) .lf wm_1 e3.h = true ∧ again (.fieldAddr 0 (.const (AV.ptr b 0))) .lf (AV.ptr b 0) e3.h = true ∧ again (.nilCheck (.const (AV.ptr b 0))) .lf (AV.ptr b 0) e3.h = true ∧ again (.move (.const (AV.ptr b 0))) .lf (AV.ptr b 0) e3.h = true ∧ True) ∧ (∃ e5 : Ev, evE (.mapUpdate false (.const wm_1) (.const (vq ((last + 1) % 18446744073709551616))) (.const (AV.int .i64 x))) call .lf e3.h = .ok (AV.tuple []) e5.h ∧ ((evQ (.loadS (.const (AV.ptr b 1))) .lf e5.h = .ok (vq ((last + 1) % 18446744073709551616)) ∧ KK (AV.tuple [(vq ((last + 1) % 18446744073709551616)), (vi 0)]) e5.h)))))))))))))))))))) (fun (rv : AV) (rh : Hp) => ∃ wk2 : AV, rv = (AV.tuple [(vq r.2.2.1), (vi r.2.2.2)]) ∧ (r.2.2.1 < 18446744073709551616) ∧ (∀ p ∈ r.1, p.1 < 18446744073709551616) ∧ (r.2.1 < 18446744073709551616) ∧ Eng.Sep (Cel b (wk2 :: (vq r.2.1) :: []) :: MapO wk2 r.1 :: Frz G h0 :: R) rh)) (by kernel_rfl) ?_
  refine ⟨cel_load S (i := 0) rfl rfl, ?_⟩
  refine ⟨map_len S (i := 1) rfl, ?_⟩
  refine ⟨fun c1 => ?_, fun c1 => ?_⟩
  · replace c1 := ltI_f (notB_t c1)
    replace hp := ift hp c1
    obtain rfl := Option.some.inj hp
    exact ⟨wm_1, rfl, (show 0 < 18446744073709551616 by decide), fm_2, flast_1, S⟩
  replace c1 := ltI_t (notB_f c1)
  replace hp := iff0 hp (nleO c1)
  refine ⟨cel_load S (i := 0) rfl rfl, ?_⟩
  refine ⟨u_add rfl, ?_⟩
  have g2 : (last + 1) % 18446744073709551616 < 18446744073709551616 := Nat.mod_lt _ (by decide)
  obtain ⟨e3, qe3, se3⟩ := cel_store call S (i := 0) (o := 1) (x := (vq ((last + 1) % 18446744073709551616))) rfl (lb rfl) rfl
  refine ⟨e3, qe3, ?_⟩
  refine ⟨cel_load se3 (i := 0) rfl rfl, ?_⟩
  refine ⟨cel_load se3 (i := 0) rfl rfl, ?_⟩
  refine ⟨⟨again_of (rfl) (avEq_int _ _), again_of (cel_load se3 (i := 0) rfl rfl) (avEq_int _ _), again_of (rfl) (avEq_ptr _ _), again_of (rfl) (avEq_ptr _ _), again_of (rfl) (avEq_ptr _ _), again_of (cel_load se3 (i := 0) rfl rfl) (map_same se3 (i := 1) rfl), again_of (rfl) (avEq_ptr _ _), again_of (rfl) (avEq_ptr _ _), again_of (rfl) (avEq_ptr _ _), trivial⟩, ?_⟩
  obtain ⟨e5, qe5, se5⟩ := map_put call se3 (i := 1) rfl (k := (last + 1) % 18446744073709551616) (x := x)
  refine ⟨e5, qe5, ?_⟩
  refine ⟨cel_load se5 (i := 0) rfl rfl, ?_⟩
  obtain rfl := Option.some.inj hp
  exact ⟨wm_1, rfl, g2, (putM_bd fm_2 g2), g2, se5⟩
def C_hadd (call : CallT) : Prop := ∀ {h : Hp} {h0 : Hp} {G : Nat → Prop} {R : List AObj} {b : Nat} {wm_1 : AV} {m : List (Nat × Int)} {last : Nat} {x : Int} (fm_2 : ∀ p ∈ m, p.1 < 18446744073709551616) (flast_1 : last < 18446744073709551616) {r : List (Nat × Int) × Nat × Nat × Nat}, hadd_p m last x = some r → Eng.Sep (Cel b [wm_1, (vq last)] :: MapO wm_1 m :: Frz G h0 :: R) h → ∃ rv rh, call 25 [(AV.ptr b 0), (AV.int .i64 x)] h = .ok rv rh ∧ ∃ wk2 : AV, rv = (AV.tuple [(vq r.2.2.1), (vi r.2.2.2)]) ∧ (r.2.2.1 < 18446744073709551616) ∧ (∀ p ∈ r.1, p.1 < 18446744073709551616) ∧ (r.2.1 < 18446744073709551616) ∧ Eng.Sep (Cel b (wk2 :: (vq r.2.1) :: []) :: MapO wk2 r.1 :: Frz G h0 :: R) rh
theorem s_hadd (d : Nat) : C_hadd (CC (d + 1)) := by
  intro h h0 G R b wm_1 m last x fm_2 flast_1 r hp S
  rw [CC, evF_at (show orM (sumT [21]) sumKC 25 = none from rfl)]
  exact hadd_w (call := CC (d + 0)) (N := 100000) fm_2 flast_1  hp S
noncomputable def hget_p (m : List (Nat × Int)) (last : Nat) (k : Nat) : Option (List (Nat × Int) × Nat × Int × Nat) :=
  (if (lookM m k).isSome = false then (some (m, last, (0 : Int), 9)) else
    (some (m, last, (lookM m k).getD 0, 0)))
theorem hget_w {call : CallT} {N : Nat} {h : Hp} {h0 : Hp} {G : Nat → Prop} {R : List AObj} {b : Nat} {wm_1 : AV} {m : List (Nat × Int)} {last : Nat} {k : Nat} (fm_2 : ∀ p ∈ m, p.1 < 18446744073709551616) (flast_1 : last < 18446744073709551616) (fk_1 : k < 18446744073709551616)  {r : List (Nat × Int) × Nat × Int × Nat} (hp : hget_p m last k = some r) (S : Eng.Sep (Cel b [wm_1, (vq last)] :: MapO wm_1 m :: Frz G h0 :: R) h) :
    ∃ rv rh, evF1 (progS Try.prog (compDrawn Try.prog)) N call 24 [(AV.ptr b 0), (vq k)] h = .ok rv rh ∧ (fun (rv : AV) (rh : Hp) => ∃ wk1 : AV, rv = (AV.tuple [(AV.int .i64 r.2.2.1), (vi r.2.2.2)]) ∧ (∀ p ∈ r.1, p.1 < 18446744073709551616) ∧ (r.2.1 < 18446744073709551616) ∧ Eng.Sep (Cel b (wk1 :: (vq r.2.1) :: []) :: MapO wk1 r.1 :: Frz G h0 :: R) rh) rv rh := by
  unfold hget_p at hp
  refine fwalk_ok (K := (fun (rv : AV) (rh : Hp) => ∃ wk1 : AV, rv = (AV.tuple [(AV.int .i64 r.2.2.1), (vi r.2.2.2)]) ∧ (∀ p ∈ r.1, p.1 < 18446744073709551616) ∧ (r.2.1 < 18446744073709551616) ∧ Eng.Sep (Cel b (wk1 :: (vq r.2.1) :: []) :: MapO wk1 r.1 :: Frz G h0 :: R) rh)) (o := (.tell 7 wm_1 (.tell 1 (AV.tuple [(AV.int .i64 ((lookM m k).getD 0)), (AV.bool ((lookM m k).isSome))]) (.fork 6 .fin .fin)))) (p := (fun (KK : AV → Hp → Prop) => ((evQ (.loadS (.const (AV.ptr b 0))) .lf h = .ok wm_1 ∧ ((evQ (.lookup false (AV.int .i64 0) true (.const wm_1) (.const (vq k))) .lf h = .ok (AV.tuple [(AV.int .i64 ((lookM m k).getD 0)), (AV.bool ((lookM m k).isSome))]) ∧ ((notB ((lookM m k).isSome) = true → KK (AV.tuple [(vi 0), (vi 9)]) h) ∧ (notB ((lookM m k).isSome) = false → KK (AV.tuple [(AV.int .i64 ((lookM m k).getD 0)), (vi 0)]) h))))))) (fun (rv : AV) (rh : Hp) => ∃ wk1 : AV, rv = (AV.tuple [(AV.int .i64 r.2.2.1), (vi r.2.2.2)]) ∧ (∀ p ∈ r.1, p.1 < 18446744073709551616) ∧ (r.2.1 < 18446744073709551616) ∧ Eng.Sep (Cel b (wk1 :: (vq r.2.1) :: []) :: MapO wk1 r.1 :: Frz G h0 :: R) rh)) (by kernel_rfl) ?_
  refine ⟨cel_load S (i := 0) rfl rfl, ?_⟩
  refine ⟨map_look S (i := 1) rfl, ?_⟩
  refine ⟨fun c1 => ?_, fun c1 => ?_⟩
  · replace c1 := notB_t c1
    replace hp := ift hp c1
    obtain rfl := Option.some.inj hp
    exact ⟨wm_1, rfl, fm_2, flast_1, S⟩
  replace c1 := notB_f c1
  replace hp := iff0 hp (nbT c1)
  obtain rfl := Option.some.inj hp
  exact ⟨wm_1, rfl, fm_2, flast_1, S⟩
def C_hget (call : CallT) : Prop := ∀ {h : Hp} {h0 : Hp} {G : Nat → Prop} {R : List AObj} {b : Nat} {wm_1 : AV} {m : List (Nat × Int)} {last : Nat} {k : Nat} (fm_2 : ∀ p ∈ m, p.1 < 18446744073709551616) (flast_1 : last < 18446744073709551616) (fk_1 : k < 18446744073709551616) {r : List (Nat × Int) × Nat × Int × Nat}, hget_p m last k = some r → Eng.Sep (Cel b [wm_1, (vq last)] :: MapO wm_1 m :: Frz G h0 :: R) h → ∃ rv rh, call 24 [(AV.ptr b 0), (vq k)] h = .ok rv rh ∧ ∃ wk1 : AV, rv = (AV.tuple [(AV.int .i64 r.2.2.1), (vi r.2.2.2)]) ∧ (∀ p ∈ r.1, p.1 < 18446744073709551616) ∧ (r.2.1 < 18446744073709551616) ∧ Eng.Sep (Cel b (wk1 :: (vq r.2.1) :: []) :: MapO wk1 r.1 :: Frz G h0 :: R) rh
theorem s_hget (d : Nat) : C_hget (CC (d + 1)) := by
  intro h h0 G R b wm_1 m last k fm_2 flast_1 fk_1 r hp S
  rw [CC, evF_at (show orM (sumT [21]) sumKC 24 = none from rfl)]
  exact hget_w (call := CC (d + 0)) (N := 100000) fm_2 flast_1 fk_1  hp S
noncomputable def hclose_p (m : List (Nat × Int)) (last : Nat) (k : Nat) : Option (List (Nat × Int) × Nat × Int × Nat) :=
  (ob (hget_p m last k) fun x1 =>
    (if x1.2.2.2 = 0 then (some (delM x1.1 k, x1.2.1, x1.2.2.1, x1.2.2.2)) else
    (some (x1.1, x1.2.1, x1.2.2.1, x1.2.2.2))))
theorem hclose_w {call : CallT} {N : Nat} {h : Hp} {h0 : Hp} {G : Nat → Prop} {R : List AObj} {b : Nat} {wm_1 : AV} {m : List (Nat × Int)} {last : Nat} {k : Nat} (fm_2 : ∀ p ∈ m, p.1 < 18446744073709551616) (flast_1 : last < 18446744073709551616) (fk_1 : k < 18446744073709551616) (h_hget : C_hget call) {r : List (Nat × Int) × Nat × Int × Nat} (hp : hclose_p m last k = some r) (S : Eng.Sep (Cel b [wm_1, (vq last)] :: MapO wm_1 m :: Frz G h0 :: R) h) :
    ∃ rv rh, evF1 (progS Try.prog (compDrawn Try.prog)) N call 23 [(AV.ptr b 0), (vq k)] h = .ok rv rh ∧ (fun (rv : AV) (rh : Hp) => ∃ wk1 : AV, rv = (AV.tuple [(AV.int .i64 r.2.2.1), (vi r.2.2.2)]) ∧ (∀ p ∈ r.1, p.1 < 18446744073709551616) ∧ (r.2.1 < 18446744073709551616) ∧ Eng.Sep (Cel b (wk1 :: (vq r.2.1) :: []) :: MapO wk1 r.1 :: Frz G h0 :: R) rh) rv rh := by
  unfold hclose_p at hp
  refine fwalk_ok (K := (fun (rv : AV) (rh : Hp) => ∃ wk1 : AV, rv = (AV.tuple [(AV.int .i64 r.2.2.1), (vi r.2.2.2)]) ∧ (∀ p ∈ r.1, p.1 < 18446744073709551616) ∧ (r.2.1 < 18446744073709551616) ∧ Eng.Sep (Cel b (wk1 :: (vq r.2.1) :: []) :: MapO wk1 r.1 :: Frz G h0 :: R) rh)) (o := (.exi 4 fun (x1 : List (Nat × Int) × Nat × Int × Nat) => (.exi 0 fun (w10 : AV) => (.exi 0 fun (h6 : Hp) => (.eff 0 (AV.tuple [(AV.int .i64 x1.2.2.1), (vi x1.2.2.2)]) h6 (.fork 6 (.tell 3 w10 (.effx 1 (fun e16 => (AV.tuple [])) (fun e16 => .fin))) .fin)))))) (p := (fun (KK : AV → Hp → Prop) => (∃ x1 : List (Nat × Int) × Nat × Int × Nat, ∃ w10 : AV, ∃ h6 : Hp, (call 24 [(AV.ptr b 0), (vq k)] h = .ok (AV.tuple [(AV.int .i64 x1.2.2.1), (vi x1.2.2.2)]) h6 ∧ ((eqI (Int.ofNat x1.2.2.2) (Int.ofNat 0) = true → ((evQ (.loadS (.const (AV.ptr b 0))) .lf h6 = .ok w10 ∧ (∃ e16 : Ev, evE (.delete false (.const w10) (.const (vq k))) call .lf h6 = .ok (AV.tuple []) e16.h ∧ KK (AV.tuple [(AV.int .i64 x1.2.2.1), (vi x1.2.2.2)]) e16.h)))) ∧ (eqI (Int.ofNat x1.2.2.2) (Int.ofNat 0) = false → KK (AV.tuple [(AV.int .i64 x1.2.2.1), (vi x1.2.2.2)]) h6))))) (fun (rv : AV) (rh : Hp) => ∃ wk1 : AV, rv = (AV.tuple [(AV.int .i64 r.2.2.1), (vi r.2.2.2)]) ∧ (∀ p ∈ r.1, p.1 < 18446744073709551616) ∧ (r.2.1 < 18446744073709551616) ∧ Eng.Sep (Cel b (wk1 :: (vq r.2.1) :: []) :: MapO wk1 r.1 :: Frz G h0 :: R) rh)) (by kernel_rfl) ?_
  have ⟨x1, hb2, hp⟩ := ob_inv hp
  obtain ⟨v5, h6, q7, w10, e8, f11, f12, S9⟩ := h_hget fm_2 flast_1 fk_1 hb2 S
  replace e8 := e8.symm
  subst e8
  refine ⟨x1, w10, h6, q7, ?_⟩
  refine ⟨fun c15 => ?_, fun c15 => ?_⟩
  · replace c15 := eqI_t c15
    replace hp := ift hp c15
    refine ⟨cel_load S9 (i := 0) rfl rfl, ?_⟩
    obtain ⟨e16, qe16, se16⟩ := map_del call S9 (i := 1) rfl (k := k)
    refine ⟨e16, qe16, ?_⟩
    obtain rfl := Option.some.inj hp
    exact ⟨w10, rfl, (delM_bd f11), f12, se16⟩
  replace c15 := eqI_f c15
  replace hp := iff0 hp (c15)
  obtain rfl := Option.some.inj hp
  exact ⟨w10, rfl, f11, f12, S9⟩
def C_hclose (call : CallT) : Prop := ∀ {h : Hp} {h0 : Hp} {G : Nat → Prop} {R : List AObj} {b : Nat} {wm_1 : AV} {m : List (Nat × Int)} {last : Nat} {k : Nat} (fm_2 : ∀ p ∈ m, p.1 < 18446744073709551616) (flast_1 : last < 18446744073709551616) (fk_1 : k < 18446744073709551616) {r : List (Nat × Int) × Nat × Int × Nat}, hclose_p m last k = some r → Eng.Sep (Cel b [wm_1, (vq last)] :: MapO wm_1 m :: Frz G h0 :: R) h → ∃ rv rh, call 23 [(AV.ptr b 0), (vq k)] h = .ok rv rh ∧ ∃ wk1 : AV, rv = (AV.tuple [(AV.int .i64 r.2.2.1), (vi r.2.2.2)]) ∧ (∀ p ∈ r.1, p.1 < 18446744073709551616) ∧ (r.2.1 < 18446744073709551616) ∧ Eng.Sep (Cel b (wk1 :: (vq r.2.1) :: []) :: MapO wk1 r.1 :: Frz G h0 :: R) rh
theorem s_hclose (d : Nat) : C_hclose (CC (d + 2)) := by
  intro h h0 G R b wm_1 m last k fm_2 flast_1 fk_1 r hp S
  rw [CC, evF_at (show orM (sumT [21]) sumKC 23 = none from rfl)]
  exact hclose_w (call := CC (d + 1)) (N := 100000) fm_2 flast_1 fk_1 (s_hget (d + 0)) hp S
noncomputable def hall_p (m : List (Nat × Int)) (last : Nat) : Option (List (Nat × Int) × Nat × List Nat) :=
  (gd (m.length ≤ 12) (some (m, last, keyS m)))
theorem hall_w {call : CallT} {N : Nat} {h : Hp} {h0 : Hp} {G : Nat → Prop} {R : List AObj} {b : Nat} {wm_1 : AV} {m : List (Nat × Int)} {last : Nat} (fm_2 : ∀ p ∈ m, p.1 < 18446744073709551616) (flast_1 : last < 18446744073709551616) (h_sort : SortS call) (h_keyi : KeyIS call) {r : List (Nat × Int) × Nat × List Nat} (hp : hall_p m last = some r) (S : Eng.Sep (Cel b [wm_1, (vq last)] :: MapO wm_1 m :: Frz G h0 :: R) h) :
    ∃ rv rh, evF1 (progS Try.prog (compDrawn Try.prog)) N call 27 [(AV.ptr b 0)] h = .ok rv rh ∧ (fun (rv : AV) (rh : Hp) => ∃ wk1 : AV, ∃ Lk3 : List AV, ∃ wk4 : AV, ∃ Gk : Nat → Prop, ∃ kk : Hp, rv = wk1 ∧ (Eng.Rows (rU .u64) Gk kk Lk3 r.2.2) ∧ (∀ p ∈ r.1, p.1 < 18446744073709551616) ∧ (r.2.1 < 18446744073709551616) ∧ Eng.Sep (OwnO 1 wk1 r.2.2.length Lk3 :: Cel b (wk4 :: (vq r.2.1) :: []) :: MapO wk4 r.1 :: Frz Gk kk :: Frz G h0 :: R) rh) rv rh := by
  unfold hall_p at hp
  refine fwalk_ok (K := (fun (rv : AV) (rh : Hp) => ∃ wk1 : AV, ∃ Lk3 : List AV, ∃ wk4 : AV, ∃ Gk : Nat → Prop, ∃ kk : Hp, rv = wk1 ∧ (Eng.Rows (rU .u64) Gk kk Lk3 r.2.2) ∧ (∀ p ∈ r.1, p.1 < 18446744073709551616) ∧ (r.2.1 < 18446744073709551616) ∧ Eng.Sep (OwnO 1 wk1 r.2.2.length Lk3 :: Cel b (wk4 :: (vq r.2.1) :: []) :: MapO wk4 r.1 :: Frz Gk kk :: Frz G h0 :: R) rh)) (o := (.tell 6 wm_1 (.eff 0 (AV.func (.func 68) [] [(AV.ptr (Hp.next h) 0)]) (hpush h (mkCells [wm_1] 1)) (.effx 0 (fun e4 => e4.v) (fun e4 => .fin))))) (p := (fun (KK : AV → Hp → Prop) => ((evQ (.loadS (.const (AV.ptr b 0))) .lf h = .ok wm_1 ∧ (call 44 [wm_1] h = .ok (AV.func (.func 68) [] [(AV.ptr (Hp.next h) 0)]) (hpush h (mkCells [wm_1] 1)) ∧ (∃ e4 : Ev, call 43 [(AV.func (.func 68) [] [(AV.ptr (Hp.next h) 0)])] (hpush h (mkCells [wm_1] 1)) = .ok e4.v e4.h ∧ KK e4.v e4.h))))) (fun (rv : AV) (rh : Hp) => ∃ wk1 : AV, ∃ Lk3 : List AV, ∃ wk4 : AV, ∃ Gk : Nat → Prop, ∃ kk : Hp, rv = wk1 ∧ (Eng.Rows (rU .u64) Gk kk Lk3 r.2.2) ∧ (∀ p ∈ r.1, p.1 < 18446744073709551616) ∧ (r.2.1 < 18446744073709551616) ∧ Eng.Sep (OwnO 1 wk1 r.2.2.length Lk3 :: Cel b (wk4 :: (vq r.2.1) :: []) :: MapO wk4 r.1 :: Frz Gk kk :: Frz G h0 :: R) rh)) (by kernel_rfl) ?_
  refine ⟨cel_load S (i := 0) rfl rfl, ?_⟩
  refine ⟨h_keyi S (i := 1) rfl, ?_⟩
  have S1 := cel_new S [wm_1] rfl
  have ⟨g2, hp⟩ := gd_inv hp
  have S3 := S1.empty
  obtain ⟨e4, qe4, se4⟩ := h_sort S3 (i := 1) (j := 3) rfl rfl fm_2 g2
  obtain ⟨L6, rL6, eL6⟩ : ∃ L, Eng.Rows (rU .u64) (fun _ => False) (hpush h (mkCells [wm_1] 1)) L (keyS m) ∧ (List.map (fun n => AV.int .u64 (.ofNat n)) (keyS m)) = L := ⟨_, rows_u64 (keyS_bd fm_2), rfl⟩
  have S7 : Sep (OwnO 1 e4.v ((keyS m).length) L6 :: Frz (fun _ => False) (hpush h (mkCells [wm_1] 1)) :: Cel (Hp.next h) [wm_1] :: Cel b [wm_1, (vq last)] :: MapO wm_1 m :: Frz G h0 :: R) e4.h := (by have z := se4; rw [eL6] at z; exact z)
  refine ⟨e4, qe4, ?_⟩
  have S8 := S7.front 2 rfl
  have S9 := S8.tail
  have S10 := S9.front 4 rfl
  have S11 := S10.front 2 rfl
  have S12 := S11.front 4 rfl
  have S13 := S12.front 4 rfl
  have S14 := S13.front 4 rfl
  obtain rfl := Option.some.inj hp
  exact ⟨e4.v, L6, wm_1, (fun _ => False), hpush h (mkCells [wm_1] 1), rfl, rL6, fm_2, flast_1, S14⟩
def C_hall (call : CallT) : Prop := ∀ {h : Hp} {h0 : Hp} {G : Nat → Prop} {R : List AObj} {b : Nat} {wm_1 : AV} {m : List (Nat × Int)} {last : Nat} (fm_2 : ∀ p ∈ m, p.1 < 18446744073709551616) (flast_1 : last < 18446744073709551616) {r : List (Nat × Int) × Nat × List Nat}, hall_p m last = some r → Eng.Sep (Cel b [wm_1, (vq last)] :: MapO wm_1 m :: Frz G h0 :: R) h → ∃ rv rh, call 27 [(AV.ptr b 0)] h = .ok rv rh ∧ ∃ wk1 : AV, ∃ Lk3 : List AV, ∃ wk4 : AV, ∃ Gk : Nat → Prop, ∃ kk : Hp, rv = wk1 ∧ (Eng.Rows (rU .u64) Gk kk Lk3 r.2.2) ∧ (∀ p ∈ r.1, p.1 < 18446744073709551616) ∧ (r.2.1 < 18446744073709551616) ∧ Eng.Sep (OwnO 1 wk1 r.2.2.length Lk3 :: Cel b (wk4 :: (vq r.2.1) :: []) :: MapO wk4 r.1 :: Frz Gk kk :: Frz G h0 :: R) rh
theorem s_hall (d : Nat) : C_hall (CC (d + 2)) := by
  intro h h0 G R b wm_1 m last fm_2 flast_1 r hp S
  rw [CC, evF_at (show orM (sumT [21]) sumKC 27 = none from rfl)]
  exact hall_w (call := CC (d + 1)) (N := 100000) fm_2 flast_1 (s_sorted (d + 0)) (s_keyi (d + 0)) hp S
noncomputable def hcopy_p (m : List (Nat × Int)) (last : Nat) : Option (List (Nat × Int) × Nat × (List (Nat × Int) × Nat)) :=
  (some (m, last, (m, last)))
theorem hcopy_w {call : CallT} {N : Nat} {h : Hp} {h0 : Hp} {G : Nat → Prop} {R : List AObj} {b : Nat} {wm_1 : AV} {m : List (Nat × Int)} {last : Nat} (fm_2 : ∀ p ∈ m, p.1 < 18446744073709551616) (flast_1 : last < 18446744073709551616) (h_clonem : CloneMS call) {r : List (Nat × Int) × Nat × (List (Nat × Int) × Nat)} (hp : hcopy_p m last = some r) (S : Eng.Sep (Cel b [wm_1, (vq last)] :: MapO wm_1 m :: Frz G h0 :: R) h) :
    ∃ rv rh, evF1 (progS Try.prog (compDrawn Try.prog)) N call 31 [(AV.ptr b 0)] h = .ok rv rh ∧ (fun (rv : AV) (rh : Hp) => ∃ bk1 : Nat, ∃ wk2 : AV, ∃ wk5 : AV, rv = (AV.ptr bk1 0) ∧ (∀ p ∈ r.2.2.1, p.1 < 18446744073709551616) ∧ (r.2.2.2 < 18446744073709551616) ∧ (∀ p ∈ r.1, p.1 < 18446744073709551616) ∧ (r.2.1 < 18446744073709551616) ∧ Eng.Sep (Cel bk1 [wk2, (vq r.2.2.2)] :: MapO wk2 r.2.2.1 :: Cel b (wk5 :: (vq r.2.1) :: []) :: MapO wk5 r.1 :: Frz G h0 :: R) rh) rv rh := by
  unfold hcopy_p at hp
  refine fwalk_ok (K := (fun (rv : AV) (rh : Hp) => ∃ bk1 : Nat, ∃ wk2 : AV, ∃ wk5 : AV, rv = (AV.ptr bk1 0) ∧ (∀ p ∈ r.2.2.1, p.1 < 18446744073709551616) ∧ (r.2.2.2 < 18446744073709551616) ∧ (∀ p ∈ r.1, p.1 < 18446744073709551616) ∧ (r.2.1 < 18446744073709551616) ∧ Eng.Sep (Cel bk1 [wk2, (vq r.2.2.2)] :: MapO wk2 r.2.2.1 :: Cel b (wk5 :: (vq r.2.1) :: []) :: MapO wk5 r.1 :: Frz G h0 :: R) rh)) (o := (.tell 6 wm_1 (.tell 3 (vq last) (.again 0 (.effx 0 (fun e1 => e1.v) (fun e1 => (.tell 0 (AV.agg [e1.v, (vq last)]) (.ell 0 .ptr (mkCells [e1.v, (vq last)] 2) (.again 1 .fin))))))))) (p := (fun (KK : AV → Hp → Prop) => ((evQ (.loadS (.const (AV.ptr b 0))) .lf h = .ok wm_1 ∧ ((evQ (.loadS (.const (AV.ptr b 1))) .lf h = .ok (vq last) ∧ ((again (.loadS (.const (AV.ptr b 1))) .lf (vq last) h = true ∧ again (.fieldAddr 1 (.const (AV.ptr b 0))) .lf (AV.ptr b 1) h = true ∧ again (.nilCheck (.const (AV.ptr b 0))) .lf (AV.ptr b 0) h = true ∧ again (.move (.const (AV.ptr b 0))) .lf (AV.ptr b 0) h = true ∧ again (.loadS (.const (AV.ptr b 0))) .lf wm_1 h = true ∧ again (.fieldAddr 0 (.const (AV.ptr b 0))) .lf (AV.ptr b 0) h = true ∧ again (.nilCheck (.const (AV.ptr b 0))) .lf (AV.ptr b 0) h = true ∧ again (.move (.const (AV.ptr b 0))) .lf (AV.ptr b 0) h = true ∧ True) ∧ (∃ e1 : Ev, call 46 [wm_1] h = .ok e1.v e1.h ∧ ((evQ (.build [AV.nilMap, (vq 0)] [(0, 1, (.const e1.v)), (1, 1, (.const (vq last)))]) .lf H0 = .ok (AV.agg [e1.v, (vq last)]) ∧ (evL (.box (.const (AV.agg [e1.v, (vq last)]))) .lf = .ok .ptr (mkCells [e1.v, (vq last)] 2) ∧ ((again (.move (.const (AV.ptr (Hp.next e1.h) 0))) .lf (AV.ptr (Hp.next e1.h) 0) (hpush e1.h (mkCells [e1.v, (vq last)] 2)) = true ∧ again (.build [AV.nilMap, (vq 0)] [(0, 1, (.const e1.v)), (1, 1, (.const (vq last)))]) .lf (AV.agg [e1.v, (vq last)]) (hpush e1.h (mkCells [e1.v, (vq last)] 2)) = true ∧ again (.loadS (.const (AV.ptr b 1))) .lf (vq last) (hpush e1.h (mkCells [e1.v, (vq last)] 2)) = true ∧ again (.fieldAddr 1 (.const (AV.ptr b 0))) .lf (AV.ptr b 1) (hpush e1.h (mkCells [e1.v, (vq last)] 2)) = true ∧ again (.nilCheck (.const (AV.ptr b 0))) .lf (AV.ptr b 0) (hpush e1.h (mkCells [e1.v, (vq last)] 2)) = true ∧ again (.move (.const (AV.ptr b 0))) .lf (AV.ptr b 0) (hpush e1.h (mkCells [e1.v, (vq last)] 2)) = true ∧ True) ∧ KK (AV.ptr (Hp.next e1.h) 0) (hpush e1.h (mkCells [e1.v, (vq last)] 2))))))))))))) (fun (rv : AV) (rh : Hp) => ∃ bk1 : Nat, ∃ wk2 : AV, ∃ wk5 : AV, rv = (AV.ptr bk1 0) ∧ (∀ p ∈ r.2.2.1, p.1 < 18446744073709551616) ∧ (r.2.2.2 < 18446744073709551616) ∧ (∀ p ∈ r.1, p.1 < 18446744073709551616) ∧ (r.2.1 < 18446744073709551616) ∧ Eng.Sep (Cel bk1 [wk2, (vq r.2.2.2)] :: MapO wk2 r.2.2.1 :: Cel b (wk5 :: (vq r.2.1) :: []) :: MapO wk5 r.1 :: Frz G h0 :: R) rh)) (by kernel_rfl) ?_
  refine ⟨cel_load S (i := 0) rfl rfl, ?_⟩
  refine ⟨cel_load S (i := 0) rfl rfl, ?_⟩
  refine ⟨⟨again_of (cel_load S (i := 0) rfl rfl) (avEq_int _ _), again_of (rfl) (avEq_ptr _ _), again_of (rfl) (avEq_ptr _ _), again_of (rfl) (avEq_ptr _ _), again_of (cel_load S (i := 0) rfl rfl) (map_same S (i := 1) rfl), again_of (rfl) (avEq_ptr _ _), again_of (rfl) (avEq_ptr _ _), again_of (rfl) (avEq_ptr _ _), trivial⟩, ?_⟩
  obtain ⟨e1, qe1, se1⟩ := h_clonem S (i := 1) rfl
  refine ⟨e1, qe1, ?_⟩
  refine ⟨build_told (by show fillParts [(0, 1, (.const e1.v)), (1, 1, (.const (vq last)))] .lf 2 [AV.nilMap, (vq 0)] = _; rw [fill_cons (o := 0) (k := 1) (n := 2) (map_cells se1 (i := 0) rfl) rfl (by decide), fill_cons (o := 1) (k := 1) (n := 2) rfl rfl (by decide)]; rfl), ?_⟩
  refine ⟨box_told rfl rfl (all_cell (map_cell se1 (i := 0) rfl) (all_cell rfl all_cell0)), ?_⟩
  have S3 := cel_new se1 [e1.v, (vq last)] rfl
  refine ⟨⟨again_of (rfl) (avEq_ptr _ _), again_of (build_told (by show fillParts [(0, 1, (.const e1.v)), (1, 1, (.const (vq last)))] .lf 2 [AV.nilMap, (vq 0)] = _; rw [fill_cons (o := 0) (k := 1) (n := 2) (map_cells se1 (i := 0) rfl) rfl (by decide), fill_cons (o := 1) (k := 1) (n := 2) rfl rfl (by decide)]; rfl)) (avEq_agg1 (map_same S3 (i := 1) rfl) (avEq_agg1 (avEq_int _ _) rfl)), again_of (cel_load S3 (i := 2) rfl rfl) (avEq_int _ _), again_of (rfl) (avEq_ptr _ _), again_of (rfl) (avEq_ptr _ _), again_of (rfl) (avEq_ptr _ _), trivial⟩, ?_⟩
  obtain rfl := Option.some.inj hp
  exact ⟨Hp.next e1.h, e1.v, wm_1, rfl, fm_2, flast_1, fm_2, flast_1, S3⟩
def C_hcopy (call : CallT) : Prop := ∀ {h : Hp} {h0 : Hp} {G : Nat → Prop} {R : List AObj} {b : Nat} {wm_1 : AV} {m : List (Nat × Int)} {last : Nat} (fm_2 : ∀ p ∈ m, p.1 < 18446744073709551616) (flast_1 : last < 18446744073709551616) {r : List (Nat × Int) × Nat × (List (Nat × Int) × Nat)}, hcopy_p m last = some r → Eng.Sep (Cel b [wm_1, (vq last)] :: MapO wm_1 m :: Frz G h0 :: R) h → ∃ rv rh, call 31 [(AV.ptr b 0)] h = .ok rv rh ∧ ∃ bk1 : Nat, ∃ wk2 : AV, ∃ wk5 : AV, rv = (AV.ptr bk1 0) ∧ (∀ p ∈ r.2.2.1, p.1 < 18446744073709551616) ∧ (r.2.2.2 < 18446744073709551616) ∧ (∀ p ∈ r.1, p.1 < 18446744073709551616) ∧ (r.2.1 < 18446744073709551616) ∧ Eng.Sep (Cel bk1 [wk2, (vq r.2.2.2)] :: MapO wk2 r.2.2.1 :: Cel b (wk5 :: (vq r.2.1) :: []) :: MapO wk5 r.1 :: Frz G h0 :: R) rh
theorem s_hcopy (d : Nat) : C_hcopy (CC (d + 2)) := by
  intro h h0 G R b wm_1 m last fm_2 flast_1 r hp S
  rw [CC, evF_at (show orM (sumT [21]) sumKC 31 = none from rfl)]
  exact hcopy_w (call := CC (d + 1)) (N := 100000) fm_2 flast_1 (s_clonem (d + 0)) hp S
noncomputable def samenums_l1 (B0 : List Nat) (B1 : List Nat) : Nat → Bool → Nat → Option (LO (Bool × Nat) (Bool))
  | 0, _, _ => none
  | m + 1, A4, A5 =>
    (if A5 < B0.length then (gd (A5 < B1.length) (if (B0.getD A5 default) ≠ (B1.getD A5 default) then (some (LO.rt false)) else
    (gd (A5 + 1 < 9223372036854775808) (samenums_l1 B0 B1 m A4 (A5 + 1))))) else
    (some (LO.ex (A4, A5))))
noncomputable def samenums_l1C : AC := (.seq (.seq (.region [⟨(some 11), .q (.move (.tmp 5)), none⟩, ⟨(some 12), .q (.move (.tmp 0)), none⟩, ⟨(some 13), .q (.lenL (.tmp 12)), none⟩, ⟨(some 14), .q (.bin .lss (.tmp 11) (.tmp 13)), none⟩]) (.cond (.tmp 14) .skip (.exit 0))) (.seq (.block 1 (.seq (.drawn [⟨[(⟨(some 17), .q (.move (.tmp 0)), none⟩, 0), (⟨(some 18), .q (.move (.tmp 5)), none⟩, 0), (⟨(some 19), .q (.idxAddrSl 1 (.tmp 17) (.tmp 18)), none⟩, 0), (⟨(some 20), .q (.loadS (.tmp 19)), none⟩, 0), (⟨(some 21), .q (.move (.tmp 1)), none⟩, 0), (⟨(some 22), .q (.move (.tmp 5)), none⟩, 0), (⟨(some 23), .q (.idxAddrSl 1 (.tmp 21) (.tmp 22)), none⟩, 0), (⟨(some 24), .q (.loadS (.tmp 23)), none⟩, 0), (⟨(some 25), .q (.eq .int true (.tmp 20) (.tmp 24)), none⟩, 0)], none⟩]) (.cond (.tmp 25) (.seq (.region [⟨(some 4), .q (.move (.const (AV.bool false))), none⟩]) .ret) .skip))) (.region [⟨(some 15), .q (.move (.tmp 5)), none⟩, ⟨(some 16), .q (.bin .add (.tmp 15) (.const (vi 1))), none⟩, ⟨(some 5), .q (.move (.tmp 16)), none⟩])))
theorem samenums_l1_body {call : CallT} {N : Nat} {t : T} {h : Hp} {wB0_1 : AV} {wB1_1 : AV} {G : Nat → Prop} {h0 : Hp} {B0 : List Nat} {B1 : List Nat} (fB0_2 : SIn (rU .u64) G h0 wB0_1 B0) (fB1_2 : SIn (rU .u64) G h0 wB1_1 B1)  {o : LO (Bool × Nat) (Bool)} {n : Nat} {A4 : Bool} {A5 : Nat} (hN : 90000 < N) (hi : (fun (z : Nat × Bool × Nat) (h' : Hp) => samenums_l1 B0 B1 z.1 z.2.1 z.2.2 = some o ∧ Eng.Sep [Frz G h0] h') (n, A4, A5) h)
    : ∃ s, evC call N samenums_l1C (ovT [(0, wB0_1), (1, wB1_1), (4, (AV.bool A4)), (5, (vi A5))] t) h = s ∧ obsS [0, 1, 4, 5] (fun ls h' => ∃ y, ls = ((fun (z : Nat × Bool × Nat) => [(0, wB0_1), (1, wB1_1), (4, (AV.bool z.2.1)), (5, (vi z.2.2))]) y).map (fun p => some p.2) ∧ (fun (z : Nat × Bool × Nat) (h' : Hp) => samenums_l1 B0 B1 z.1 z.2.1 z.2.2 = some o ∧ Eng.Sep [Frz G h0] h') y h' ∧ (fun (z : Nat × Bool × Nat) => z.1) y < (fun (z : Nat × Bool × Nat) => z.1) (n, A4, A5)) (fun i ls h' => ∃ y, ls = ((fun (z : Nat × Bool × Nat) => [(0, wB0_1), (1, wB1_1), (4, (AV.bool z.2.1)), (5, (vi z.2.2))]) y).map (fun p => some p.2) ∧ (fun (i : Nat) (z : Nat × Bool × Nat) (h' : Hp) => (i = 0) ∧ (i = 0 → o = LO.ex (z.2.1, z.2.2) ∧ Eng.Sep [Frz G h0] h')) i y h') (fun ls h' => (fun (ls : List (Option AV)) (h' : Hp) => ∃ (rt : Bool) (v4 : AV), o = LO.rt rt ∧ ls[2]? = some (some v4) ∧ (v4 = (AV.bool rt) ∧ Eng.Sep (Frz G h0 :: []) h')) ls h') s := by
  have hi : samenums_l1 B0 B1 n A4 A5 = some o ∧ Eng.Sep [Frz G h0] h := hi
  obtain ⟨hp, S⟩ := hi
  obtain ⟨m, hm⟩ : ∃ m, n = m + 1 := by
    cases n with
    | zero => first | cases hp | (unfold samenums_l1 at hp; cases hp) | (simp [samenums_l1] at hp)
    | succ m => exact ⟨m, rfl⟩
  rw [hm] at hp
  unfold samenums_l1 at hp
  refine walk_ok (o := (.tell 2 (vi B0.length) (.fork 0 (.tell 2 (elemP wB0_1 A5 1) (.tell 0 (vq (B0.getD A5 default)) (.tell 2 (elemP wB1_1 A5 1) (.tell 0 (vq (B1.getD A5 default)) (.fork 0 (.again 0 .fin) (.again 0 (.tell 1 (vi (A5 + 1)) .fin))))))) .fin))) (p := (fun (KN : List (Option AV) → Hp → Prop) (KE : Nat → List (Option AV) → Hp → Prop) (KR : List (Option AV) → Hp → Prop) => ((evQ (.lenL (.const wB0_1)) .lf H0 = .ok (vi B0.length) ∧ ((ltI (Int.ofNat A5) (Int.ofNat B0.length) = true → ((evQ (.idxAddrSl 1 (.const wB0_1) (.const (vi A5))) .lf H0 = .ok (elemP wB0_1 A5 1) ∧ ((evQ (.loadS (.const (elemP wB0_1 A5 1))) .lf h = .ok (vq (B0.getD A5 default)) ∧ ((evQ (.idxAddrSl 1 (.const wB1_1) (.const (vi A5))) .lf H0 = .ok (elemP wB1_1 A5 1) ∧ ((evQ (.loadS (.const (elemP wB1_1 A5 1))) .lf h = .ok (vq (B1.getD A5 default)) ∧ ((notB (eqI (Int.ofNat (B0.getD A5 default)) (Int.ofNat (B1.getD A5 default))) = true → ((again (.eq .int true (.const (vq (B0.getD A5 default))) (.const (vq (B1.getD A5 default)))) .lf (AV.bool true) h = true ∧ again (.loadS (.const (elemP wB1_1 A5 1))) .lf (vq (B1.getD A5 default)) h = true ∧ again (.idxAddrSl 1 (.const wB1_1) (.const (vi A5))) .lf (elemP wB1_1 A5 1) h = true ∧ again (.move (.const (vi A5))) .lf (vi A5) h = true ∧ again (.move (.const wB1_1)) .lf wB1_1 h = true ∧ again (.loadS (.const (elemP wB0_1 A5 1))) .lf (vq (B0.getD A5 default)) h = true ∧ again (.idxAddrSl 1 (.const wB0_1) (.const (vi A5))) .lf (elemP wB0_1 A5 1) h = true ∧ again (.move (.const (vi A5))) .lf (vi A5) h = true ∧ again (.move (.const wB0_1)) .lf wB0_1 h = true ∧ True) ∧ KR [some wB0_1, some wB1_1, some (AV.bool false), some (vi A5)] h)) ∧ (notB (eqI (Int.ofNat (B0.getD A5 default)) (Int.ofNat (B1.getD A5 default))) = false → ((again (.eq .int true (.const (vq (B0.getD A5 default))) (.const (vq (B1.getD A5 default)))) .lf (AV.bool false) h = true ∧ again (.loadS (.const (elemP wB1_1 A5 1))) .lf (vq (B1.getD A5 default)) h = true ∧ again (.idxAddrSl 1 (.const wB1_1) (.const (vi A5))) .lf (elemP wB1_1 A5 1) h = true ∧ again (.move (.const (vi A5))) .lf (vi A5) h = true ∧ again (.move (.const wB1_1)) .lf wB1_1 h = true ∧ again (.loadS (.const (elemP wB0_1 A5 1))) .lf (vq (B0.getD A5 default)) h = true ∧ again (.idxAddrSl 1 (.const wB0_1) (.const (vi A5))) .lf (elemP wB0_1 A5 1) h = true ∧ again (.move (.const (vi A5))) .lf (vi A5) h = true ∧ again (.move (.const wB0_1)) .lf wB0_1 h = true ∧ True) ∧ ((evQ (.bin .add (.const (vi A5)) (.const (vi 1))) .lf H0 = .ok (vi (A5 + 1)) ∧ KN [some wB0_1, some wB1_1, some (AV.bool A4), some (vi (A5 + 1))] h)))))))))))))) ∧ (ltI (Int.ofNat A5) (Int.ofNat B0.length) = false → KE 0 [some wB0_1, some wB1_1, some (AV.bool A4), some (vi A5)] h))))) (fun ls h' => ∃ y, ls = ((fun (z : Nat × Bool × Nat) => [(0, wB0_1), (1, wB1_1), (4, (AV.bool z.2.1)), (5, (vi z.2.2))]) y).map (fun p => some p.2) ∧ (fun (z : Nat × Bool × Nat) (h' : Hp) => samenums_l1 B0 B1 z.1 z.2.1 z.2.2 = some o ∧ Eng.Sep [Frz G h0] h') y h' ∧ (fun (z : Nat × Bool × Nat) => z.1) y < (fun (z : Nat × Bool × Nat) => z.1) (n, A4, A5)) (fun i ls h' => ∃ y, ls = ((fun (z : Nat × Bool × Nat) => [(0, wB0_1), (1, wB1_1), (4, (AV.bool z.2.1)), (5, (vi z.2.2))]) y).map (fun p => some p.2) ∧ (fun (i : Nat) (z : Nat × Bool × Nat) (h' : Hp) => (i = 0) ∧ (i = 0 → o = LO.ex (z.2.1, z.2.2) ∧ Eng.Sep [Frz G h0] h')) i y h') (fun ls h' => (fun (ls : List (Option AV)) (h' : Hp) => ∃ (rt : Bool) (v4 : AV), o = LO.rt rt ∧ ls[2]? = some (some v4) ∧ (v4 = (AV.bool rt) ∧ Eng.Sep (Frz G h0 :: []) h')) ls h')) (by kernel_rfl) ?_
  refine ⟨sin_len fB0_2, ?_⟩
  refine ⟨fun c1 => ?_, fun c1 => ?_⟩
  · replace c1 := ltI_t c1
    replace hp := ift hp c1
    obtain ⟨csR3, hcR3, R3⟩ := sin_row fB0_2 c1
    obtain ⟨rfl, f2⟩ := hcR3
    refine ⟨sin_idx fB0_2 c1, ?_⟩
    refine ⟨row_load S (i := 0) rfl R3 rfl, ?_⟩
    have ⟨g4, hp⟩ := gd_inv hp
    obtain ⟨csR6, hcR6, R6⟩ := sin_row fB1_2 g4
    obtain ⟨rfl, f5⟩ := hcR6
    refine ⟨sin_idx fB1_2 g4, ?_⟩
    refine ⟨row_load S (i := 0) rfl R6 rfl, ?_⟩
    refine ⟨fun c7 => ?_, fun c7 => ?_⟩
    · have rc7 := c7
      replace c7 := eqI_f (notB_t c7)
      replace hp := ift hp c7
      refine ⟨⟨again_of (congrArg (fun b => OV.ok (AV.bool b)) rc7) (avEq_bool _), again_of (row_load S (i := 0) rfl R6 rfl) (avEq_int _ _), again_of (sin_idx fB1_2 g4) (elemP_same _ _ _), again_of (rfl) (avEq_int _ _), again_of (rfl) (SIn.same fB1_2), again_of (row_load S (i := 0) rfl R3 rfl) (avEq_int _ _), again_of (sin_idx fB0_2 c1) (elemP_same _ _ _), again_of (rfl) (avEq_int _ _), again_of (rfl) (SIn.same fB0_2), trivial⟩, ?_⟩
      refine ⟨_, (AV.bool false), (Option.some.inj hp).symm, rfl, ?_⟩
      exact ⟨rfl, S⟩
    have rc7 := c7
    replace c7 := eqI_t (notB_f c7)
    replace hp := iff0 hp (nneO c7)
    refine ⟨⟨again_of (congrArg (fun b => OV.ok (AV.bool b)) rc7) (avEq_bool _), again_of (row_load S (i := 0) rfl R6 rfl) (avEq_int _ _), again_of (sin_idx fB1_2 g4) (elemP_same _ _ _), again_of (rfl) (avEq_int _ _), again_of (rfl) (SIn.same fB1_2), again_of (row_load S (i := 0) rfl R3 rfl) (avEq_int _ _), again_of (sin_idx fB0_2 c1) (elemP_same _ _ _), again_of (rfl) (avEq_int _ _), again_of (rfl) (SIn.same fB0_2), trivial⟩, ?_⟩
    have ⟨g8, hp⟩ := gd_inv hp
    refine ⟨q_add g8, ?_⟩
    refine ⟨(m, A4, A5 + 1), rfl, ⟨hp, S⟩, by show m < n; omega⟩
  replace c1 := ltI_f c1
  replace hp := iff0 hp (nltO c1)
  refine ⟨(m, A4, A5), rfl, rfl, fun _ => ⟨(Option.some.inj hp).symm, S⟩⟩
theorem samenums_l1_t {call : CallT} {N : Nat} {wB0_1 : AV} {wB1_1 : AV} {G : Nat → Prop} {h0 : Hp} {B0 : List Nat} {B1 : List Nat} (fB0_2 : SIn (rU .u64) G h0 wB0_1 B0) (fB1_2 : SIn (rU .u64) G h0 wB1_1 B1)  {o : LO (Bool × Nat) (Bool)} {n : Nat} {A4 : Bool} {A5 : Nat} {h : Hp} (hi : (fun (z : Nat × Bool × Nat) (h' : Hp) => samenums_l1 B0 B1 z.1 z.2.1 z.2.2 = some o ∧ Eng.Sep [Frz G h0] h') (n, A4, A5) h) (hN : n < N) (hN' : 90000 < N) {t : T} (ht : Has ((fun (z : Nat × Bool × Nat) => [(0, wB0_1), (1, wB1_1), (4, (AV.bool z.2.1)), (5, (vi z.2.2))]) (n, A4, A5)) t) :
    (∃ i y t' h', evC call N (.loop samenums_l1C) t h = .exit i t' h' ∧ Has ((fun (z : Nat × Bool × Nat) => [(0, wB0_1), (1, wB1_1), (4, (AV.bool z.2.1)), (5, (vi z.2.2))]) y) t' ∧ (fun (i : Nat) (z : Nat × Bool × Nat) (h' : Hp) => (i = 0) ∧ (i = 0 → o = LO.ex (z.2.1, z.2.2) ∧ Eng.Sep [Frz G h0] h')) i y h') ∨ (∃ t' h', evC call N (.loop samenums_l1C) t h = .ret t' h' ∧ (fun (ls : List (Option AV)) (h' : Hp) => ∃ (rt : Bool) (v4 : AV), o = LO.rt rt ∧ ls[2]? = some (some v4) ∧ (v4 = (AV.bool rt) ∧ Eng.Sep (Frz G h0 :: []) h')) (slots [0, 1, 4, 5] t') h') :=
  loop_st (fun (z : Nat × Bool × Nat) => [(0, wB0_1), (1, wB1_1), (4, (AV.bool z.2.1)), (5, (vi z.2.2))]) [0, 1, 4, 5] (fun _ => rfl) (fun (z : Nat × Bool × Nat) (h' : Hp) => samenums_l1 B0 B1 z.1 z.2.1 z.2.2 = some o ∧ Eng.Sep [Frz G h0] h') (fun (z : Nat × Bool × Nat) => z.1) (fun (i : Nat) (z : Nat × Bool × Nat) (h' : Hp) => (i = 0) ∧ (i = 0 → o = LO.ex (z.2.1, z.2.2) ∧ Eng.Sep [Frz G h0] h')) (fun (ls : List (Option AV)) (h' : Hp) => ∃ (rt : Bool) (v4 : AV), o = LO.rt rt ∧ ls[2]? = some (some v4) ∧ (v4 = (AV.bool rt) ∧ Eng.Sep (Frz G h0 :: []) h')) (fun ⟨n, A4, A5⟩ t h hi => samenums_l1_body fB0_2 fB1_2 hN' hi) (n, A4, A5) h hi hN t ht
noncomputable def samenums_p (a : List Nat) (b : List Nat) : Option (Bool) :=
  (if a.length ≠ b.length then (some false) else
    (ob (samenums_l1 a b 90000 false 0) fun o2 =>
    (LO.on o2 (fun s_o2 => (some true)) (fun y9 =>
    (some y9)))))
theorem samenums_w {call : CallT} {N : Nat} {h : Hp} {wa_1 : AV} {wb_1 : AV} {a : List Nat} {b : List Nat} (fa_2 : SIn (rU .u64) (Low h) h wa_1 a) (fb_2 : SIn (rU .u64) (Low h) h wb_1 b)  (hN : 90000 < N) {r : Bool} (hp : samenums_p a b = some r) :
    ∃ rv rh, evF1 (progS Try.prog (compDrawn Try.prog)) N call 26 [wa_1, wb_1] h = .ok rv rh ∧ (fun (rv : AV) (rh : Hp) => rv = (AV.bool r) ∧ Eng.Sep (Frz (Low h) h :: []) rh) rv rh := by
  have S : Eng.Sep [Frz (Low h) h] h := Sep.start h
  unfold samenums_p at hp
  refine fwalk_ok (K := (fun (rv : AV) (rh : Hp) => rv = (AV.bool r) ∧ Eng.Sep (Frz (Low h) h :: []) rh)) (o := (.tell 2 (vi a.length) (.tell 1 (vi b.length) (.fork 0 .fin (.dis 1 (.exi 0 fun (A4o2 : Bool) => (.exi 0 fun (A5o2 : Nat) => (.exi 0 fun (t5 : T) => (.exi 0 fun (h6 : Hp) => (.lp 0 (.exit 0 (ovT [(0, wa_1), (1, wb_1), (4, (AV.bool A4o2)), (5, (vi A5o2))] t5) h6) .fin))))) (.exi 0 fun (y9 : Bool) => (.exi 0 fun (v4o2 : AV) => (.exi 0 fun (t7 : T) => (.exi 0 fun (h8 : Hp) => (.lp 0 (.ret (ovT [(4, v4o2)] t7) h8) .fin)))))))))) (p := (fun (KK : AV → Hp → Prop) => ((evQ (.lenL (.const wa_1)) .lf H0 = .ok (vi a.length) ∧ ((evQ (.lenL (.const wb_1)) .lf H0 = .ok (vi b.length) ∧ ((notB (eqI (Int.ofNat a.length) (Int.ofNat b.length)) = true → KK (AV.bool false) h) ∧ (notB (eqI (Int.ofNat a.length) (Int.ofNat b.length)) = false → ((∃ A4o2 : Bool, ∃ A5o2 : Nat, ∃ t5 : T, ∃ h6 : Hp, (evC call N (.loop samenums_l1C) (ovT [(0, wa_1), (1, wb_1), (4, (AV.bool false)), (5, (vi 0)), (6, wa_1), (7, (vi a.length)), (8, wb_1), (9, (vi b.length)), (10, (AV.bool false))] .lf) h = (.exit 0 (ovT [(0, wa_1), (1, wb_1), (4, (AV.bool A4o2)), (5, (vi A5o2))] t5) h6) ∧ True ∧ KK (AV.bool true) h6)) ∨ (∃ y9 : Bool, ∃ v4o2 : AV, ∃ t7 : T, ∃ h8 : Hp, (evC call N (.loop samenums_l1C) (ovT [(0, wa_1), (1, wb_1), (4, (AV.bool false)), (5, (vi 0)), (6, wa_1), (7, (vi a.length)), (8, wb_1), (9, (vi b.length)), (10, (AV.bool false))] .lf) h = (.ret (ovT [(4, v4o2)] t7) h8) ∧ True ∧ KK v4o2 h8)))))))))) (fun (rv : AV) (rh : Hp) => rv = (AV.bool r) ∧ Eng.Sep (Frz (Low h) h :: []) rh)) (by kernel_rfl) ?_
  refine ⟨sin_len fa_2, ?_⟩
  refine ⟨sin_len fb_2, ?_⟩
  refine ⟨fun c1 => ?_, fun c1 => ?_⟩
  · replace c1 := eqI_f (notB_t c1)
    replace hp := ift hp c1
    obtain rfl := Option.some.inj hp
    exact ⟨rfl, S⟩
  replace c1 := eqI_t (notB_f c1)
  replace hp := iff0 hp (nneO c1)
  have ⟨o2, hb3, hp⟩ := ob_inv hp
  rcases samenums_l1_t fa_2 fb_2  (o := o2) (B0 := a) (B1 := b) (n := 90000) (A4 := false) (A5 := 0) ⟨hb3, S⟩ hN hN (t := (ovT [(0, wa_1), (1, wb_1), (4, (AV.bool false)), (5, (vi 0)), (6, wa_1), (7, (vi a.length)), (8, wb_1), (9, (vi b.length)), (10, (AV.bool false))] .lf)) (show slots [0, 1, 4, 5] _ = [some wa_1, some wb_1, some (AV.bool false), some (vi 0)] by kernel_rfl) with ⟨io2, ⟨_, A4o2, A5o2⟩, t5, h6, qo2, wo2, zo2⟩ | ⟨t7, h8, qo2, zo2⟩
  · obtain ⟨jo2, zo2⟩ := zo2
    subst jo2
    replace zo2 := zo2 rfl
    obtain ⟨uo2, So2⟩ := zo2
    replace uo2 := uo2.symm
    subst uo2
    replace hp := LO.on_ex.symm.trans hp
    try dsimp only at hp
    refine Or.inl ⟨A4o2, A5o2, t5, h6, (qo2.trans (congrArg (fun t => RS.exit 0 t h6) (ovT_eq wo2).symm)), trivial, ?_⟩
    obtain rfl := Option.some.inj hp
    exact ⟨rfl, So2⟩
  obtain ⟨y9, v4o2, uo2, go2_4, Ko2⟩ := zo2
  replace uo2 := uo2.symm
  subst uo2
  replace go2_4 : tget (pathOf 4) t7 = some v4o2 := Option.some.inj go2_4
  replace hp := LO.on_rt.symm.trans hp
  try dsimp only at hp
  refine Or.inr ⟨y9, v4o2, t7, h8, (qo2.trans (congrArg (fun t => RS.ret t h8) (ovT_eq (l := [(4, v4o2)]) (by show [tget (pathOf 4) t7] = _; rw [go2_4]; rfl)).symm)), trivial, ?_⟩
  obtain rfl := Option.some.inj hp
  exact Ko2
def C_samenums (call : CallT) : Prop := ∀ {h : Hp} {wa_1 : AV} {wb_1 : AV} {a : List Nat} {b : List Nat} (fa_2 : SIn (rU .u64) (Low h) h wa_1 a) (fb_2 : SIn (rU .u64) (Low h) h wb_1 b) {r : Bool}, samenums_p a b = some r → ∃ rv rh, call 26 [wa_1, wb_1] h = .ok rv rh ∧ rv = (AV.bool r) ∧ Eng.Sep (Frz (Low h) h :: []) rh
theorem s_samenums (d : Nat) : C_samenums (CC (d + 1)) := by
  intro h wa_1 wb_1 a b fa_2 fb_2 r hp
  rw [CC, evF_at (show orM (sumT [21]) sumKC 26 = none from rfl)]
  exact samenums_w (call := CC (d + 0)) (N := 100000) fa_2 fb_2  (by decide) hp
theorem s_hadd0 (d : Nat) : ∀ h : Hp, CC (d + 1) 25 [AV.nilPtr, (vi 1)] h = .ok (AV.tuple [(vq 0), (vi 1)]) h := fun h => by
  rw [CC, evF_at (show orM (sumT [21]) sumKC 25 = none from rfl)]
  kernel_rfl
theorem s_hget0 (d : Nat) : ∀ h : Hp, CC (d + 1) 24 [AV.nilPtr, (vq 1)] h = .ok (AV.tuple [(vi 0), (vi 1)]) h := fun h => by
  rw [CC, evF_at (show orM (sumT [21]) sumKC 24 = none from rfl)]
  kernel_rfl
theorem s_hclose0 (d : Nat) : ∀ h : Hp, CC (d + 2) 23 [AV.nilPtr, (vq 1)] h = .ok (AV.tuple [(vi 0), (vi 1)]) h := fun h => by
  rw [CC, evF_at (show orM (sumT [21]) sumKC 23 = none from rfl)]
  kernel_rfl
theorem s_hall0 (d : Nat) : ∀ h : Hp, CC (d + 1) 27 [AV.nilPtr] h = .ok AV.nilSlice h := fun h => by
  rw [CC, evF_at (show orM (sumT [21]) sumKC 27 = none from rfl)]
  kernel_rfl
theorem s_hcopy0 (d : Nat) : ∀ h : Hp, CC (d + 1) 31 [AV.nilPtr] h = .ok AV.nilPtr h := fun h => by
  rw [CC, evF_at (show orM (sumT [21]) sumKC 31 = none from rfl)]
  kernel_rfl
end Go.Proofs.Ytpelnanckmjoaaa
end
section
set_option linter.unusedVariables false
namespace Go.Proofs.Ytpelnanckmjoaaa
set_option linter.unusedVariables false
set_option linter.unusedSimpArgs false
open Go Eng
noncomputable def rfind_l1 (B1 : Nat) (hh : List Nat) : Nat → Nat → Nat → Nat → Option (LO (Nat × Nat × Nat) (Nat × Int))
  | 0, _, _, _ => none
  | m + 1, A4, A5, Q1_0 =>
    (if A5 < hh.length then (if (hh.getD A5 default) = B1 then (some (LO.rt (Q1_0, ((A5 : Nat) : Int)))) else
    (gd (A5 + 1 < 9223372036854775808) (rfind_l1 B1 hh m A4 (A5 + 1) Q1_0))) else
    (some (LO.ex (A4, A5, Q1_0))))
noncomputable def rfind_l1C : AC := (.seq (.seq (.region [⟨(some 6), .q (.move (.tmp 5)), none⟩, ⟨(some 7), .q (.move (.tmp 0)), none⟩, ⟨(some 8), .q (.nilCheck (.tmp 7)), none⟩, ⟨(some 9), .q (.fieldAddr 1 (.tmp 8)), none⟩, ⟨(some 10), .q (.loadS (.tmp 9)), none⟩, ⟨(some 11), .q (.lenL (.tmp 10)), none⟩, ⟨(some 12), .q (.bin .lss (.tmp 6) (.tmp 11)), none⟩]) (.cond (.tmp 12) .skip (.exit 0))) (.seq (.block 1 (.seq (.region [⟨(some 15), .q (.move (.tmp 0)), none⟩, ⟨(some 16), .q (.nilCheck (.tmp 15)), none⟩, ⟨(some 17), .q (.fieldAddr 1 (.tmp 16)), none⟩, ⟨(some 18), .q (.loadS (.tmp 17)), none⟩, ⟨(some 19), .q (.move (.tmp 5)), none⟩, ⟨(some 20), .q (.idxAddrSl 1 (.tmp 18) (.tmp 19)), none⟩, ⟨(some 21), .q (.loadS (.tmp 20)), none⟩, ⟨(some 22), .q (.move (.tmp 1)), none⟩, ⟨(some 23), .q (.eq .int false (.tmp 21) (.tmp 22)), none⟩]) (.cond (.tmp 23) (.seq (.region [⟨(some 24), .q (.move (.tmp 5)), none⟩, ⟨(some 4), .q (.move (.tmp 24)), none⟩]) .ret) .skip))) (.region [⟨(some 13), .q (.move (.tmp 5)), none⟩, ⟨(some 14), .q (.bin .add (.tmp 13) (.const (vi 1))), none⟩, ⟨(some 5), .q (.move (.tmp 14)), none⟩])))
theorem rfind_l1_body {call : CallT} {N : Nat} {t : T} {h : Hp} {b1 : Nat} {whh_1 : AV} {rest : List AV} {G : Nat → Prop} {h0 : Hp} {R : List AObj} {B1 : Nat} {hh : List Nat} (fB1_1 : B1 < 18446744073709551616) (fhh_2 : SIn (rU .u64) G h0 whh_1 hh)  {o : LO (Nat × Nat × Nat) (Nat × Int)} {n : Nat} {A4 : Nat} {A5 : Nat} {Q1_0 : Nat} (hN : 90000 < N) (hi : (fun (z : Nat × Nat × Nat × Nat) (h' : Hp) => rfind_l1 B1 hh z.1 z.2.1 z.2.2.1 z.2.2.2 = some o ∧ (z.2.2.2 < 18446744073709551616) ∧ Eng.Sep (Cel b1 ((vq z.2.2.2) :: whh_1 :: rest) :: Frz G h0 :: R) h') (n, A4, A5, Q1_0) h)
    : ∃ s, evC call N rfind_l1C (ovT [(0, (AV.ptr b1 0)), (1, (vq B1)), (4, (vi A4)), (5, (vi A5))] t) h = s ∧ obsS [0, 1, 4, 5] (fun ls h' => ∃ y, ls = ((fun (z : Nat × Nat × Nat × Nat) => [(0, (AV.ptr b1 0)), (1, (vq B1)), (4, (vi z.2.1)), (5, (vi z.2.2.1))]) y).map (fun p => some p.2) ∧ (fun (z : Nat × Nat × Nat × Nat) (h' : Hp) => rfind_l1 B1 hh z.1 z.2.1 z.2.2.1 z.2.2.2 = some o ∧ (z.2.2.2 < 18446744073709551616) ∧ Eng.Sep (Cel b1 ((vq z.2.2.2) :: whh_1 :: rest) :: Frz G h0 :: R) h') y h' ∧ (fun (z : Nat × Nat × Nat × Nat) => z.1) y < (fun (z : Nat × Nat × Nat × Nat) => z.1) (n, A4, A5, Q1_0)) (fun i ls h' => ∃ y, ls = ((fun (z : Nat × Nat × Nat × Nat) => [(0, (AV.ptr b1 0)), (1, (vq B1)), (4, (vi z.2.1)), (5, (vi z.2.2.1))]) y).map (fun p => some p.2) ∧ (fun (i : Nat) (z : Nat × Nat × Nat × Nat) (h' : Hp) => (i = 0) ∧ (i = 0 → o = LO.ex (z.2.1, z.2.2.1, z.2.2.2) ∧ (z.2.2.2 < 18446744073709551616) ∧ Eng.Sep (Cel b1 ((vq z.2.2.2) :: whh_1 :: rest) :: Frz G h0 :: R) h')) i y h') (fun ls h' => (fun (ls : List (Option AV)) (h' : Hp) => ∃ (rt : Nat × Int) (v4 : AV), o = LO.rt rt ∧ ls[2]? = some (some v4) ∧ (v4 = (AV.int .i64 rt.2) ∧ (rt.1 < 18446744073709551616) ∧ Eng.Sep (Cel b1 ((vq rt.1) :: whh_1 :: rest) :: Frz G h0 :: R) h')) ls h') s := by
  have hi : rfind_l1 B1 hh n A4 A5 Q1_0 = some o ∧ (Q1_0 < 18446744073709551616) ∧ Eng.Sep (Cel b1 ((vq Q1_0) :: whh_1 :: rest) :: Frz G h0 :: R) h := hi
  obtain ⟨hp, fQ1_0_1, S⟩ := hi
  obtain ⟨m, hm⟩ : ∃ m, n = m + 1 := by
    cases n with
    | zero => first | cases hp | (unfold rfind_l1 at hp; cases hp) | (simp [rfind_l1] at hp)
    | succ m => exact ⟨m, rfl⟩
  rw [hm] at hp
  unfold rfind_l1 at hp
  refine walk_ok (o := (.tell 4 whh_1 (.tell 0 (vi hh.length) (.fork 0 (.tell 3 whh_1 (.tell 1 (elemP whh_1 A5 1) (.tell 0 (vq (hh.getD A5 default)) (.fork 1 .fin (.tell 1 (vi (A5 + 1)) .fin))))) .fin)))) (p := (fun (KN : List (Option AV) → Hp → Prop) (KE : Nat → List (Option AV) → Hp → Prop) (KR : List (Option AV) → Hp → Prop) => ((evQ (.loadS (.const (AV.ptr b1 1))) .lf h = .ok whh_1 ∧ ((evQ (.lenL (.const whh_1)) .lf H0 = .ok (vi hh.length) ∧ ((ltI (Int.ofNat A5) (Int.ofNat hh.length) = true → ((evQ (.loadS (.const (AV.ptr b1 1))) .lf h = .ok whh_1 ∧ ((evQ (.idxAddrSl 1 (.const whh_1) (.const (vi A5))) .lf H0 = .ok (elemP whh_1 A5 1) ∧ ((evQ (.loadS (.const (elemP whh_1 A5 1))) .lf h = .ok (vq (hh.getD A5 default)) ∧ ((eqI (Int.ofNat (hh.getD A5 default)) (Int.ofNat B1) = true → KR [some (AV.ptr b1 0), some (vq B1), some (vi A5), some (vi A5)] h) ∧ (eqI (Int.ofNat (hh.getD A5 default)) (Int.ofNat B1) = false → ((evQ (.bin .add (.const (vi A5)) (.const (vi 1))) .lf H0 = .ok (vi (A5 + 1)) ∧ KN [some (AV.ptr b1 0), some (vq B1), some (vi A4), some (vi (A5 + 1))] h))))))))))) ∧ (ltI (Int.ofNat A5) (Int.ofNat hh.length) = false → KE 0 [some (AV.ptr b1 0), some (vq B1), some (vi A4), some (vi A5)] h))))))) (fun ls h' => ∃ y, ls = ((fun (z : Nat × Nat × Nat × Nat) => [(0, (AV.ptr b1 0)), (1, (vq B1)), (4, (vi z.2.1)), (5, (vi z.2.2.1))]) y).map (fun p => some p.2) ∧ (fun (z : Nat × Nat × Nat × Nat) (h' : Hp) => rfind_l1 B1 hh z.1 z.2.1 z.2.2.1 z.2.2.2 = some o ∧ (z.2.2.2 < 18446744073709551616) ∧ Eng.Sep (Cel b1 ((vq z.2.2.2) :: whh_1 :: rest) :: Frz G h0 :: R) h') y h' ∧ (fun (z : Nat × Nat × Nat × Nat) => z.1) y < (fun (z : Nat × Nat × Nat × Nat) => z.1) (n, A4, A5, Q1_0)) (fun i ls h' => ∃ y, ls = ((fun (z : Nat × Nat × Nat × Nat) => [(0, (AV.ptr b1 0)), (1, (vq B1)), (4, (vi z.2.1)), (5, (vi z.2.2.1))]) y).map (fun p => some p.2) ∧ (fun (i : Nat) (z : Nat × Nat × Nat × Nat) (h' : Hp) => (i = 0) ∧ (i = 0 → o = LO.ex (z.2.1, z.2.2.1, z.2.2.2) ∧ (z.2.2.2 < 18446744073709551616) ∧ Eng.Sep (Cel b1 ((vq z.2.2.2) :: whh_1 :: rest) :: Frz G h0 :: R) h')) i y h') (fun ls h' => (fun (ls : List (Option AV)) (h' : Hp) => ∃ (rt : Nat × Int) (v4 : AV), o = LO.rt rt ∧ ls[2]? = some (some v4) ∧ (v4 = (AV.int .i64 rt.2) ∧ (rt.1 < 18446744073709551616) ∧ Eng.Sep (Cel b1 ((vq rt.1) :: whh_1 :: rest) :: Frz G h0 :: R) h')) ls h')) (by kernel_rfl) ?_
  refine ⟨cel_load S (i := 0) rfl rfl, ?_⟩
  refine ⟨sin_len fhh_2, ?_⟩
  refine ⟨fun c1 => ?_, fun c1 => ?_⟩
  · replace c1 := ltI_t c1
    replace hp := ift hp c1
    refine ⟨cel_load S (i := 0) rfl rfl, ?_⟩
    obtain ⟨csR3, hcR3, R3⟩ := sin_row fhh_2 c1
    obtain ⟨rfl, f2⟩ := hcR3
    refine ⟨sin_idx fhh_2 c1, ?_⟩
    refine ⟨row_load S (i := 1) rfl R3 rfl, ?_⟩
    refine ⟨fun c4 => ?_, fun c4 => ?_⟩
    · replace c4 := eqI_t c4
      replace hp := ift hp c4
      refine ⟨_, (vi A5), (Option.some.inj hp).symm, rfl, ?_⟩
      exact ⟨rfl, fQ1_0_1, S⟩
    replace c4 := eqI_f c4
    replace hp := iff0 hp (c4)
    have ⟨g5, hp⟩ := gd_inv hp
    refine ⟨q_add g5, ?_⟩
    refine ⟨(m, A4, A5 + 1, Q1_0), rfl, ⟨hp, fQ1_0_1, S⟩, by show m < n; omega⟩
  replace c1 := ltI_f c1
  replace hp := iff0 hp (nltO c1)
  refine ⟨(m, A4, A5, Q1_0), rfl, rfl, fun _ => ⟨(Option.some.inj hp).symm, fQ1_0_1, S⟩⟩
theorem rfind_l1_t {call : CallT} {N : Nat} {b1 : Nat} {whh_1 : AV} {rest : List AV} {G : Nat → Prop} {h0 : Hp} {R : List AObj} {B1 : Nat} {hh : List Nat} (fB1_1 : B1 < 18446744073709551616) (fhh_2 : SIn (rU .u64) G h0 whh_1 hh)  {o : LO (Nat × Nat × Nat) (Nat × Int)} {n : Nat} {A4 : Nat} {A5 : Nat} {Q1_0 : Nat} {h : Hp} (hi : (fun (z : Nat × Nat × Nat × Nat) (h' : Hp) => rfind_l1 B1 hh z.1 z.2.1 z.2.2.1 z.2.2.2 = some o ∧ (z.2.2.2 < 18446744073709551616) ∧ Eng.Sep (Cel b1 ((vq z.2.2.2) :: whh_1 :: rest) :: Frz G h0 :: R) h') (n, A4, A5, Q1_0) h) (hN : n < N) (hN' : 90000 < N) {t : T} (ht : Has ((fun (z : Nat × Nat × Nat × Nat) => [(0, (AV.ptr b1 0)), (1, (vq B1)), (4, (vi z.2.1)), (5, (vi z.2.2.1))]) (n, A4, A5, Q1_0)) t) :
    (∃ i y t' h', evC call N (.loop rfind_l1C) t h = .exit i t' h' ∧ Has ((fun (z : Nat × Nat × Nat × Nat) => [(0, (AV.ptr b1 0)), (1, (vq B1)), (4, (vi z.2.1)), (5, (vi z.2.2.1))]) y) t' ∧ (fun (i : Nat) (z : Nat × Nat × Nat × Nat) (h' : Hp) => (i = 0) ∧ (i = 0 → o = LO.ex (z.2.1, z.2.2.1, z.2.2.2) ∧ (z.2.2.2 < 18446744073709551616) ∧ Eng.Sep (Cel b1 ((vq z.2.2.2) :: whh_1 :: rest) :: Frz G h0 :: R) h')) i y h') ∨ (∃ t' h', evC call N (.loop rfind_l1C) t h = .ret t' h' ∧ (fun (ls : List (Option AV)) (h' : Hp) => ∃ (rt : Nat × Int) (v4 : AV), o = LO.rt rt ∧ ls[2]? = some (some v4) ∧ (v4 = (AV.int .i64 rt.2) ∧ (rt.1 < 18446744073709551616) ∧ Eng.Sep (Cel b1 ((vq rt.1) :: whh_1 :: rest) :: Frz G h0 :: R) h')) (slots [0, 1, 4, 5] t') h') :=
  loop_st (fun (z : Nat × Nat × Nat × Nat) => [(0, (AV.ptr b1 0)), (1, (vq B1)), (4, (vi z.2.1)), (5, (vi z.2.2.1))]) [0, 1, 4, 5] (fun _ => rfl) (fun (z : Nat × Nat × Nat × Nat) (h' : Hp) => rfind_l1 B1 hh z.1 z.2.1 z.2.2.1 z.2.2.2 = some o ∧ (z.2.2.2 < 18446744073709551616) ∧ Eng.Sep (Cel b1 ((vq z.2.2.2) :: whh_1 :: rest) :: Frz G h0 :: R) h') (fun (z : Nat × Nat × Nat × Nat) => z.1) (fun (i : Nat) (z : Nat × Nat × Nat × Nat) (h' : Hp) => (i = 0) ∧ (i = 0 → o = LO.ex (z.2.1, z.2.2.1, z.2.2.2) ∧ (z.2.2.2 < 18446744073709551616) ∧ Eng.Sep (Cel b1 ((vq z.2.2.2) :: whh_1 :: rest) :: Frz G h0 :: R) h')) (fun (ls : List (Option AV)) (h' : Hp) => ∃ (rt : Nat × Int) (v4 : AV), o = LO.rt rt ∧ ls[2]? = some (some v4) ∧ (v4 = (AV.int .i64 rt.2) ∧ (rt.1 < 18446744073709551616) ∧ Eng.Sep (Cel b1 ((vq rt.1) :: whh_1 :: rest) :: Frz G h0 :: R) h')) (fun ⟨n, A4, A5, Q1_0⟩ t h hi => rfind_l1_body fB1_1 fhh_2 hN' hi) (n, A4, A5, Q1_0) h hi hN t ht
noncomputable def rfind_p (last : Nat) (hh : List Nat) (k : Nat) : Option (Nat × Int) :=
  (ob (rfind_l1 k hh 90000 0 0 last) fun o1 =>
    (LO.on o1 (fun s_o1 => (some (s_o1.2.2, (-1 : Int)))) (fun y8 =>
    (some y8))))
theorem rfind_w {call : CallT} {N : Nat} {h : Hp} {h0 : Hp} {G : Nat → Prop} {R : List AObj} {b : Nat} {rest : List AV} {whh_1 : AV} {last : Nat} {hh : List Nat} {k : Nat} (flast_1 : last < 18446744073709551616) (fhh_2 : SIn (rU .u64) G h0 whh_1 hh) (fk_1 : k < 18446744073709551616)  (hN : 90000 < N) {r : Nat × Int} (hp : rfind_p last hh k = some r) (S : Eng.Sep (Cel b ((vq last) :: whh_1 :: rest) :: Frz G h0 :: R) h) :
    ∃ rv rh, evF1 (progS Try.prog (compDrawn Try.prog)) N call 45 [(AV.ptr b 0), (vq k)] h = .ok rv rh ∧ (fun (rv : AV) (rh : Hp) => rv = (AV.int .i64 r.2) ∧ (r.1 < 18446744073709551616) ∧ Eng.Sep (Cel b ((vq r.1) :: whh_1 :: rest) :: Frz G h0 :: R) rh) rv rh := by
  unfold rfind_p at hp
  refine fwalk_ok (K := (fun (rv : AV) (rh : Hp) => rv = (AV.int .i64 r.2) ∧ (r.1 < 18446744073709551616) ∧ Eng.Sep (Cel b ((vq r.1) :: whh_1 :: rest) :: Frz G h0 :: R) rh)) (o := (.dis 2 (.exi 0 fun (A4o1 : Nat) => (.exi 0 fun (A5o1 : Nat) => (.exi 0 fun (Q1_0o1 : Nat) => (.exi 0 fun (t4 : T) => (.exi 0 fun (h5 : Hp) => (.lp 0 (.exit 0 (ovT [(0, (AV.ptr b 0)), (1, (vq k)), (4, (vi A4o1)), (5, (vi A5o1))] t4) h5) .fin)))))) (.exi 0 fun (y8 : Nat × Int) => (.exi 0 fun (v4o1 : AV) => (.exi 0 fun (t6 : T) => (.exi 0 fun (h7 : Hp) => (.lp 0 (.ret (ovT [(4, v4o1)] t6) h7) .fin))))))) (p := (fun (KK : AV → Hp → Prop) => ((∃ A4o1 : Nat, ∃ A5o1 : Nat, ∃ Q1_0o1 : Nat, ∃ t4 : T, ∃ h5 : Hp, (evC call N (.loop rfind_l1C) (ovT [(0, (AV.ptr b 0)), (1, (vq k)), (4, (vi 0)), (5, (vi 0))] .lf) h = (.exit 0 (ovT [(0, (AV.ptr b 0)), (1, (vq k)), (4, (vi A4o1)), (5, (vi A5o1))] t4) h5) ∧ True ∧ KK (AV.int .i64 (Int.negSucc 0)) h5)) ∨ (∃ y8 : Nat × Int, ∃ v4o1 : AV, ∃ t6 : T, ∃ h7 : Hp, (evC call N (.loop rfind_l1C) (ovT [(0, (AV.ptr b 0)), (1, (vq k)), (4, (vi 0)), (5, (vi 0))] .lf) h = (.ret (ovT [(4, v4o1)] t6) h7) ∧ True ∧ KK v4o1 h7)))) (fun (rv : AV) (rh : Hp) => rv = (AV.int .i64 r.2) ∧ (r.1 < 18446744073709551616) ∧ Eng.Sep (Cel b ((vq r.1) :: whh_1 :: rest) :: Frz G h0 :: R) rh)) (by kernel_rfl) ?_
  have ⟨o1, hb2, hp⟩ := ob_inv hp
  rcases rfind_l1_t fk_1 fhh_2  (o := o1) (B1 := k) (hh := hh) (n := 90000) (A4 := 0) (A5 := 0) (Q1_0 := last) ⟨hb2, flast_1, S⟩ hN hN (t := (ovT [(0, (AV.ptr b 0)), (1, (vq k)), (4, (vi 0)), (5, (vi 0))] .lf)) (show slots [0, 1, 4, 5] _ = [some (AV.ptr b 0), some (vq k), some (vi 0), some (vi 0)] by kernel_rfl) with ⟨io1, ⟨_, A4o1, A5o1, Q1_0o1⟩, t4, h5, qo1, wo1, zo1⟩ | ⟨t6, h7, qo1, zo1⟩
  · obtain ⟨jo1, zo1⟩ := zo1
    subst jo1
    replace zo1 := zo1 rfl
    obtain ⟨uo1, fQ1_0_1o1, So1⟩ := zo1
    replace uo1 := uo1.symm
    subst uo1
    replace hp := LO.on_ex.symm.trans hp
    try dsimp only at hp
    refine Or.inl ⟨A4o1, A5o1, Q1_0o1, t4, h5, (qo1.trans (congrArg (fun t => RS.exit 0 t h5) (ovT_eq wo1).symm)), trivial, ?_⟩
    obtain rfl := Option.some.inj hp
    exact ⟨rfl, fQ1_0_1o1, So1⟩
  obtain ⟨y8, v4o1, uo1, go1_4, Ko1⟩ := zo1
  replace uo1 := uo1.symm
  subst uo1
  replace go1_4 : tget (pathOf 4) t6 = some v4o1 := Option.some.inj go1_4
  replace hp := LO.on_rt.symm.trans hp
  try dsimp only at hp
  refine Or.inr ⟨y8, v4o1, t6, h7, (qo1.trans (congrArg (fun t => RS.ret t h7) (ovT_eq (l := [(4, v4o1)]) (by show [tget (pathOf 4) t6] = _; rw [go1_4]; rfl)).symm)), trivial, ?_⟩
  obtain rfl := Option.some.inj hp
  exact Ko1
def C_rfind (call : CallT) : Prop := ∀ {h : Hp} {h0 : Hp} {G : Nat → Prop} {R : List AObj} {b : Nat} {rest : List AV} {whh_1 : AV} {last : Nat} {hh : List Nat} {k : Nat} (flast_1 : last < 18446744073709551616) (fhh_2 : SIn (rU .u64) G h0 whh_1 hh) (fk_1 : k < 18446744073709551616) {r : Nat × Int}, rfind_p last hh k = some r → Eng.Sep (Cel b ((vq last) :: whh_1 :: rest) :: Frz G h0 :: R) h → ∃ rv rh, call 45 [(AV.ptr b 0), (vq k)] h = .ok rv rh ∧ rv = (AV.int .i64 r.2) ∧ (r.1 < 18446744073709551616) ∧ Eng.Sep (Cel b ((vq r.1) :: whh_1 :: rest) :: Frz G h0 :: R) rh
theorem s_rfind (d : Nat) : C_rfind (CC (d + 1)) := by
  intro h h0 G R b rest whh_1 last hh k flast_1 fhh_2 fk_1 r hp S
  rw [CC, evF_at (show orM (sumT [21]) sumKC 45 = none from rfl)]
  exact rfind_w (call := CC (d + 0)) (N := 100000) flast_1 fhh_2 fk_1  (by decide) hp S
noncomputable def radd_p (last : Nat) (hh : List Nat) (xx : List Int) (x : Int) : Option (Nat × List Nat × List Int × Nat × Nat) :=
  (if 8 ≤ hh.length then (some (last, hh, xx, 0, 12)) else
    (gd ((0 + hh.length) * 8 ≤ 70368744177664) (gd ((hh.length + 1) * 8 ≤ 70368744177664) (gd ((0 + xx.length) * 8 ≤ 70368744177664) (gd ((xx.length + 1) * 8 ≤ 70368744177664) (some ((last + 1) % 18446744073709551616, hh ++ [(last + 1) % 18446744073709551616], xx ++ [x], (last + 1) % 18446744073709551616, 0)))))))
theorem radd_w {call : CallT} {N : Nat} {h : Hp} {h0 : Hp} {G : Nat → Prop} {R : List AObj} {Gr : Nat → Prop} {kr : Hp} {b : Nat} {whh_1 : AV} {Lhh_3 : List AV} {wxx_1 : AV} {Lxx_3 : List AV} {last : Nat} {hh : List Nat} {xx : List Int} {x : Int} (flast_1 : last < 18446744073709551616) (fhh_2 : Eng.Rows (rU .u64) Gr kr Lhh_3 hh) (fxx_2 : Eng.Rows (rZ .i64) Gr kr Lxx_3 xx)  {r : Nat × List Nat × List Int × Nat × Nat} (hp : radd_p last hh xx x = some r) (S : Eng.Sep (Cel b [(vq last), whh_1, wxx_1] :: OwnO 1 whh_1 hh.length Lhh_3 :: OwnO 1 wxx_1 xx.length Lxx_3 :: Frz Gr kr :: Frz G h0 :: R) h) :
    ∃ rv rh, evF1 (progS Try.prog (compDrawn Try.prog)) N call 28 [(AV.ptr b 0), (AV.int .i64 x)] h = .ok rv rh ∧ (fun (rv : AV) (rh : Hp) => ∃ wk3 : AV, ∃ wk6 : AV, ∃ Lk5 : List AV, ∃ Lk8 : List AV, ∃ Gk : Nat → Prop, ∃ kk : Hp, rv = (AV.tuple [(vq r.2.2.2.1), (vi r.2.2.2.2)]) ∧ (r.2.2.2.1 < 18446744073709551616) ∧ (r.1 < 18446744073709551616) ∧ (Eng.Rows (rU .u64) Gk kk Lk5 r.2.1) ∧ (Eng.Rows (rZ .i64) Gk kk Lk8 r.2.2.1) ∧ (Up Gr kr Gk kk) ∧ Eng.Sep (Cel b ((vq r.1) :: wk3 :: wk6 :: []) :: OwnO 1 wk3 r.2.1.length Lk5 :: OwnO 1 wk6 r.2.2.1.length Lk8 :: Frz Gk kk :: Frz G h0 :: R) rh) rv rh := by
  unfold radd_p at hp
  refine fwalk_ok (K := (fun (rv : AV) (rh : Hp) => ∃ wk3 : AV, ∃ wk6 : AV, ∃ Lk5 : List AV, ∃ Lk8 : List AV, ∃ Gk : Nat → Prop, ∃ kk : Hp, rv = (AV.tuple [(vq r.2.2.2.1), (vi r.2.2.2.2)]) ∧ (r.2.2.2.1 < 18446744073709551616) ∧ (r.1 < 18446744073709551616) ∧ (Eng.Rows (rU .u64) Gk kk Lk5 r.2.1) ∧ (Eng.Rows (rZ .i64) Gk kk Lk8 r.2.2.1) ∧ (Up Gr kr Gk kk) ∧ Eng.Sep (Cel b ((vq r.1) :: wk3 :: wk6 :: []) :: OwnO 1 wk3 r.2.1.length Lk5 :: OwnO 1 wk6 r.2.2.1.length Lk8 :: Frz Gk kk :: Frz G h0 :: R) rh)) (o := (.tell 5 whh_1 (.tell 0 (vi hh.length) (.fork 0 .fin (.tell 3 (vq last) (.tell 0 (vq ((last + 1) % 18446744073709551616)) (.effx 2 (fun e3 => (AV.tuple [])) (fun e3 => (.tell 6 whh_1 (.tell 3 (vq ((last + 1) % 18446744073709551616)) (.tell 5 wxx_1 (.again 2 (.effx 0 (fun e14 => e14.v) (fun e14 => (.again 0 (.effx 0 (fun e24 => e24.v) (fun e24 => (.again 0 (.effx 0 (fun e36 => e36.v) (fun e36 => (.again 0 (.effx 0 (fun e46 => e46.v) (fun e46 => (.again 2 (.effx 0 (fun e53 => (AV.tuple [])) (fun e53 => (.again 2 (.effx 0 (fun e55 => (AV.tuple [])) (fun e55 => (.tell 4 (vq ((last + 1) % 18446744073709551616)) .fin)))))))))))))))))))))))))))))) (p := (fun (KK : AV → Hp → Prop) => ((evQ (.loadS (.const (AV.ptr b 1))) .lf h = .ok whh_1 ∧ ((evQ (.lenL (.const whh_1)) .lf H0 = .ok (vi hh.length) ∧ ((notB (ltI (Int.ofNat hh.length) (Int.ofNat 8)) = true → KK (AV.tuple [(vq 0), (vi 12)]) h) ∧ (notB (ltI (Int.ofNat hh.length) (Int.ofNat 8)) = false → ((evQ (.loadS (.const (AV.ptr b 0))) .lf h = .ok (vq last) ∧ ((evQ (.bin .add (.const (vq last)) (.const (vq 1))) .lf H0 = .ok (vq ((last + 1) % 18446744073709551616)) ∧ (∃ e3 : Ev, evE (.store 1 (.const (AV.ptr b 0)) (.const (vq ((last + 1) % 18446744073709551616)))) call .lf h = .ok (AV.tuple []) e3.h ∧ ((evQ (.loadS (.const (AV.ptr b 1))) .lf (hpush e3.h (mkCells [] 0)) = .ok whh_1 ∧ ((evQ (.loadS (.const (AV.ptr b 0))) .lf (hpush e3.h (mkCells [] 0)) = .ok (vq ((last + 1) % 18446744073709551616)) ∧ ((evQ (.loadS (.const (AV.ptr b 2))) .lf (hpush (hpush (hpush e3.h (mkCells [] 0)) (mkCells [(vq ((last + 1) % 18446744073709551616))] 1)) (mkCells [] 0)) = .ok wxx_1 ∧ ((again (.move (.const (AV.int .i64 x))) .lf (AV.int .i64 x) (hpush (hpush (hpush (hpush e3.h (mkCells [] 0)) (mkCells [(vq ((last + 1) % 18446744073709551616))] 1)) (mkCells [] 0)) (mkCells [(AV.int .i64 x)] 1)) = true ∧ again (.loadS (.const (AV.ptr b 2))) .lf wxx_1 (hpush (hpush (hpush (hpush e3.h (mkCells [] 0)) (mkCells [(vq ((last + 1) % 18446744073709551616))] 1)) (mkCells [] 0)) (mkCells [(AV.int .i64 x)] 1)) = true ∧ again (.fieldAddr 2 (.const (AV.ptr b 0))) .lf (AV.ptr b 2) (hpush (hpush (hpush (hpush e3.h (mkCells [] 0)) (mkCells [(vq ((last + 1) % 18446744073709551616))] 1)) (mkCells [] 0)) (mkCells [(AV.int .i64 x)] 1)) = true ∧ again (.nilCheck (.const (AV.ptr b 0))) .lf (AV.ptr b 0) (hpush (hpush (hpush (hpush e3.h (mkCells [] 0)) (mkCells [(vq ((last + 1) % 18446744073709551616))] 1)) (mkCells [] 0)) (mkCells [(AV.int .i64 x)] 1)) = true ∧ again (.move (.const (AV.ptr b 0))) .lf (AV.ptr b 0) (hpush (hpush (hpush (hpush e3.h (mkCells [] 0)) (mkCells [(vq ((last + 1) % 18446744073709551616))] 1)) (mkCells [] 0)) (mkCells [(AV.int .i64 x)] 1)) = true ∧ again (.loadS (.const (AV.ptr b 0))) .lf (vq ((last + 1) % 18446744073709551616)) (hpush (hpush (hpush (hpush e3.h (mkCells [] 0)) (mkCells [(vq ((last + 1) % 18446744073709551616))] 1)) (mkCells [] 0)) (mkCells [(AV.int .i64 x)] 1)) = true ∧ again (.fieldAddr 0 (.const (AV.ptr b 0))) .lf (AV.ptr b 0) (hpush (hpush (hpush (hpush e3.h (mkCells [] 0)) (mkCells [(vq ((last + 1) % 18446744073709551616))] 1)) (mkCells [] 0)) (mkCells [(AV.int .i64 x)] 1)) = true ∧ again (.nilCheck (.const (AV.ptr b 0))) .lf (AV.ptr b 0) (hpush (hpush (hpush (hpush e3.h (mkCells [] 0)) (mkCells [(vq ((last + 1) % 18446744073709551616))] 1)) (mkCells [] 0)) (mkCells [(AV.int .i64 x)] 1)) = true ∧ again (.move (.const (AV.ptr b 0))) .lf (AV.ptr b 0) (hpush (hpush (hpush (hpush e3.h (mkCells [] 0)) (mkCells [(vq ((last + 1) % 18446744073709551616))] 1)) (mkCells [] 0)) (mkCells [(AV.int .i64 x)] 1)) = true ∧ again (.loadS (.const (AV.ptr b 1))) .lf whh_1 (hpush (hpush (hpush (hpush e3.h (mkCells [] 0)) (mkCells [(vq ((last + 1) % 18446744073709551616))] 1)) (mkCells [] 0)) (mkCells [(AV.int .i64 x)] 1)) = true ∧ again (.fieldAddr 1 (.const (AV.ptr b 0))) .lf (AV.ptr b 1) (hpush (hpush (hpush (hpush e3.h (mkCells [] 0)) (mkCells [(vq ((last + 1) % 18446744073709551616))] 1)) (mkCells [] 0)) (mkCells [(AV.int .i64 x)] 1)) = true ∧ again (.nilCheck (.const (AV.ptr b 0))) .lf (AV.ptr b 0) (hpush (hpush (hpush (hpush e3.h (mkCells [] 0)) (mkCells [(vq ((last + 1) % 18446744073709551616))] 1)) (mkCells [] 0)) (mkCells [(AV.int .i64 x)] 1)) = true ∧ again (.move (.const (AV.ptr b 0))) .lf (AV.ptr b 0) (hpush (hpush (hpush (hpush e3.h (mkCells [] 0)) (mkCells [(vq ((last + 1) % 18446744073709551616))] 1)) (mkCells [] 0)) (mkCells [(AV.int .i64 x)] 1)) = true ∧ again (.move (.const (AV.ptr b 0))) .lf (AV.ptr b 0) (hpush (hpush (hpush (hpush e3.h (mkCells [] 0)) (mkCells [(vq ((last + 1) % 18446744073709551616))] 1)) (mkCells [] 0)) (mkCells [(AV.int .i64 x)] 1)) = true ∧ again (.move (.const (AV.ptr b 0))) .lf (AV.ptr b 0) (hpush (hpush (hpush (hpush e3.h (mkCells [] 0)) (mkCells [(vq ((last + 1) % 18446744073709551616))] 1)) (mkCells [] 0)) (mkCells [(AV.int .i64 x)] 1)) = true ∧ True) ∧ (∃ e14 : Ev, evE (.append 1 8 (.const (AV.slice (Hp.next e3.h) 0 0 0 1 true)) (.const whh_1)) call .lf (hpush (hpush (hpush (hpush e3.h (mkCells [] 0)) (mkCells [(vq ((last + 1) % 18446744073709551616))] 1)) (mkCells [] 0)) (mkCells [(AV.int .i64 x)] 1)) = .ok e14.v e14.h ∧ ((again (.move (.const (AV.int .i64 x))) .lf (AV.int .i64 x) e14.h = true ∧ again (.loadS (.const (AV.ptr b 2))) .lf wxx_1 e14.h = true ∧ again (.fieldAddr 2 (.const (AV.ptr b 0))) .lf (AV.ptr b 2) e14.h = true ∧ again (.nilCheck (.const (AV.ptr b 0))) .lf (AV.ptr b 0) e14.h = true ∧ again (.move (.const (AV.ptr b 0))) .lf (AV.ptr b 0) e14.h = true ∧ again (.loadS (.const (AV.ptr b 0))) .lf (vq ((last + 1) % 18446744073709551616)) e14.h = true ∧ again (.fieldAddr 0 (.const (AV.ptr b 0))) .lf (AV.ptr b 0) e14.h = true ∧ again (.nilCheck (.const (AV.ptr b 0))) .lf (AV.ptr b 0) e14.h = true ∧ again (.move (.const (AV.ptr b 0))) .lf (AV.ptr b 0) e14.h = true ∧ again (.move (.const (AV.ptr b 0))) .lf (AV.ptr b 0) e14.h = true ∧ again (.move (.const (AV.ptr b 0))) .lf (AV.ptr b 0) e14.h = true ∧ True) ∧ (∃ e24 : Ev, evE (.append 1 8 (.const e14.v) (.const (AV.slice (Hp.next (hpush e3.h (mkCells [] 0))) 0 1 1 1 true))) call .lf e14.h = .ok e24.v e24.h ∧ ((again (.move (.const (AV.int .i64 x))) .lf (AV.int .i64 x) e24.h = true ∧ again (.loadS (.const (AV.ptr b 2))) .lf wxx_1 e24.h = true ∧ again (.fieldAddr 2 (.const (AV.ptr b 0))) .lf (AV.ptr b 2) e24.h = true ∧ again (.nilCheck (.const (AV.ptr b 0))) .lf (AV.ptr b 0) e24.h = true ∧ again (.move (.const (AV.ptr b 0))) .lf (AV.ptr b 0) e24.h = true ∧ again (.move (.const (AV.ptr b 0))) .lf (AV.ptr b 0) e24.h = true ∧ again (.move (.const (AV.ptr b 0))) .lf (AV.ptr b 0) e24.h = true ∧ True) ∧ (∃ e36 : Ev, evE (.append 1 8 (.const (AV.slice (Hp.next (hpush (hpush e3.h (mkCells [] 0)) (mkCells [(vq ((last + 1) % 18446744073709551616))] 1))) 0 0 0 1 true)) (.const wxx_1)) call .lf e24.h = .ok e36.v e36.h ∧ ((again (.move (.const (AV.int .i64 x))) .lf (AV.int .i64 x) e36.h = true ∧ again (.move (.const (AV.ptr b 0))) .lf (AV.ptr b 0) e36.h = true ∧ again (.move (.const (AV.ptr b 0))) .lf (AV.ptr b 0) e36.h = true ∧ True) ∧ (∃ e46 : Ev, evE (.append 1 8 (.const e36.v) (.const (AV.slice (Hp.next (hpush (hpush (hpush e3.h (mkCells [] 0)) (mkCells [(vq ((last + 1) % 18446744073709551616))] 1)) (mkCells [] 0))) 0 1 1 1 true))) call .lf e36.h = .ok e46.v e46.h ∧ ((again (.fieldAddr 1 (.const (AV.ptr b 0))) .lf (AV.ptr b 1) e46.h = true ∧ again (.nilCheck (.const (AV.ptr b 0))) .lf (AV.ptr b 0) e46.h = true ∧ again (.move (.const (AV.ptr b 0))) .lf (AV.ptr b 0) e46.h = true ∧ again (.move (.const (AV.ptr b 0))) .lf (AV.ptr b 0) e46.h = true ∧ True) ∧ (∃ e53 : Ev, evE (.store 1 (.const (AV.ptr b 1)) (.const e24.v)) call .lf e46.h = .ok (AV.tuple []) e53.h ∧ ((again (.fieldAddr 2 (.const (AV.ptr b 0))) .lf (AV.ptr b 2) e53.h = true ∧ again (.nilCheck (.const (AV.ptr b 0))) .lf (AV.ptr b 0) e53.h = true ∧ again (.move (.const (AV.ptr b 0))) .lf (AV.ptr b 0) e53.h = true ∧ True) ∧ (∃ e55 : Ev, evE (.store 1 (.const (AV.ptr b 2)) (.const e46.v)) call .lf e53.h = .ok (AV.tuple []) e55.h ∧ ((evQ (.loadS (.const (AV.ptr b 0))) .lf e55.h = .ok (vq ((last + 1) % 18446744073709551616)) ∧ KK (AV.tuple [(vq ((last + 1) % 18446744073709551616)), (vi 0)]) e55.h)))))))))))))))))))))))))))))))) (fun (rv : AV) (rh : Hp) => ∃ wk3 : AV, ∃ wk6 : AV, ∃ Lk5 : List AV, ∃ Lk8 : List AV, ∃ Gk : Nat → Prop, ∃ kk : Hp, rv = (AV.tuple [(vq r.2.2.2.1), (vi r.2.2.2.2)]) ∧ (r.2.2.2.1 < 18446744073709551616) ∧ (r.1 < 18446744073709551616) ∧ (Eng.Rows (rU .u64) Gk kk Lk5 r.2.1) ∧ (Eng.Rows (rZ .i64) Gk kk Lk8 r.2.2.1) ∧ (Up Gr kr Gk kk) ∧ Eng.Sep (Cel b ((vq r.1) :: wk3 :: wk6 :: []) :: OwnO 1 wk3 r.2.1.length Lk5 :: OwnO 1 wk6 r.2.2.1.length Lk8 :: Frz Gk kk :: Frz G h0 :: R) rh)) (by kernel_rfl) ?_
  refine ⟨cel_load S (i := 0) rfl rfl, ?_⟩
  refine ⟨own_len S (i := 1) rfl, ?_⟩
  refine ⟨fun c1 => ?_, fun c1 => ?_⟩
  · replace c1 := ltI_f (notB_t c1)
    replace hp := ift hp c1
    obtain rfl := Option.some.inj hp
    exact ⟨whh_1, wxx_1, Lhh_3, Lxx_3, Gr, kr, rfl, (show 0 < 18446744073709551616 by decide), flast_1, fhh_2, fxx_2, (Up.refl _ _), S⟩
  replace c1 := ltI_t (notB_f c1)
  replace hp := iff0 hp (nleO c1)
  refine ⟨cel_load S (i := 0) rfl rfl, ?_⟩
  refine ⟨u_add rfl, ?_⟩
  have g2 : (last + 1) % 18446744073709551616 < 18446744073709551616 := Nat.mod_lt _ (by decide)
  obtain ⟨e3, qe3, se3⟩ := cel_store call S (i := 0) (o := 0) (x := (vq ((last + 1) % 18446744073709551616))) rfl (lb rfl) rfl
  refine ⟨e3, qe3, ?_⟩
  have S5 := own_new se3 1 0 [] true rfl
  refine ⟨cel_load S5 (i := 1) rfl rfl, ?_⟩
  refine ⟨cel_load S5 (i := 1) rfl rfl, ?_⟩
  have S6 := own_new S5 1 1 [(vq ((last + 1) % 18446744073709551616))] true rfl
  have S7 := own_new S6 1 0 [] true rfl
  refine ⟨cel_load S7 (i := 3) rfl rfl, ?_⟩
  have S8 := own_new S7 1 1 [(AV.int .i64 x)] true rfl
  refine ⟨⟨again_of (rfl) (avEq_int _ _), again_of (cel_load S8 (i := 4) rfl rfl) (own_same S8 (i := 6) rfl), again_of (rfl) (avEq_ptr _ _), again_of (rfl) (avEq_ptr _ _), again_of (rfl) (avEq_ptr _ _), again_of (cel_load S8 (i := 4) rfl rfl) (avEq_int _ _), again_of (rfl) (avEq_ptr _ _), again_of (rfl) (avEq_ptr _ _), again_of (rfl) (avEq_ptr _ _), again_of (cel_load S8 (i := 4) rfl rfl) (own_same S8 (i := 5) rfl), again_of (rfl) (avEq_ptr _ _), again_of (rfl) (avEq_ptr _ _), again_of (rfl) (avEq_ptr _ _), again_of (rfl) (avEq_ptr _ _), again_of (rfl) (avEq_ptr _ _), trivial⟩, ?_⟩
  have S9 := S8.front 7 rfl
  have S10 := S9.front 6 rfl
  obtain ⟨G11, pG11, uG11, sG11⟩ := own_freezeR (a := (rU .u64)) S10 fhh_2 rfl
  have S13 := sG11.empty
  have S15 := S13.front 0 rfl
  have S16 := S15.front 1 rfl
  obtain ⟨G17, uG17, vG17, sG17⟩ := Sep.mergeX S16
  obtain ⟨c19, rc19, lc19, kc19, qc19⟩ := sin_src sG17 (i := 0) rfl (SIn.up uG17 pG11)
  have ⟨g20, hp⟩ := gd_inv hp
  obtain ⟨e14, qe14, se14⟩ := own_append (bytes := 8) call sG17 (i := 4) rfl (x := whh_1) (m := hh.length) (xs := c19) (fun z k => qc19 z k) lc19 kc19 g20 (by omega)
  obtain ⟨L21, rL21, eL21⟩ : ∃ L, Eng.Rows (rU .u64) G17 (hpush (hpush (hpush (hpush e3.h (mkCells [] 0)) (mkCells [(vq ((last + 1) % 18446744073709551616))] 1)) (mkCells [] 0)) (mkCells [(AV.int .i64 x)] 1)) L hh ∧ (u8s []) ++ c19 = L := ⟨_, (Rows.append (Rows.up vG17 (own_rows_nil _ _ _)) rc19), rfl⟩
  have S23 : Sep (Frz G17 (hpush (hpush (hpush (hpush e3.h (mkCells [] 0)) (mkCells [(vq ((last + 1) % 18446744073709551616))] 1)) (mkCells [] 0)) (mkCells [(AV.int .i64 x)] 1)) :: OwnO 1 (AV.slice (Hp.next (hpush (hpush (hpush e3.h (mkCells [] 0)) (mkCells [(vq ((last + 1) % 18446744073709551616))] 1)) (mkCells [] 0))) 0 1 1 1 true) 1 [(AV.int .i64 x)] :: OwnO 1 (AV.slice (Hp.next (hpush (hpush e3.h (mkCells [] 0)) (mkCells [(vq ((last + 1) % 18446744073709551616))] 1))) 0 0 0 1 true) 0 (u8s []) :: OwnO 1 (AV.slice (Hp.next (hpush e3.h (mkCells [] 0))) 0 1 1 1 true) 1 [(vq ((last + 1) % 18446744073709551616))] :: OwnO 1 e14.v hh.length L21 :: Cel b [(vq ((last + 1) % 18446744073709551616)), whh_1, wxx_1] :: OwnO 1 wxx_1 xx.length Lxx_3 :: Frz G h0 :: R) e14.h := (by have z := se14; (first | (rw [eL21, show 0 + hh.length = hh.length from by simp] at z) | (rw [show ([] : List AV) ++ c19 = L21 from eL21, show 0 + hh.length = hh.length from by simp] at z)); exact z)
  refine ⟨e14, qe14, ?_⟩
  refine ⟨⟨again_of (rfl) (avEq_int _ _), again_of (cel_load S23 (i := 5) rfl rfl) (own_same S23 (i := 6) rfl), again_of (rfl) (avEq_ptr _ _), again_of (rfl) (avEq_ptr _ _), again_of (rfl) (avEq_ptr _ _), again_of (cel_load S23 (i := 5) rfl rfl) (avEq_int _ _), again_of (rfl) (avEq_ptr _ _), again_of (rfl) (avEq_ptr _ _), again_of (rfl) (avEq_ptr _ _), again_of (rfl) (avEq_ptr _ _), again_of (rfl) (avEq_ptr _ _), trivial⟩, ?_⟩
  have ⟨g25, hp⟩ := gd_inv hp
  obtain ⟨e24, qe24, se24⟩ := own_append (bytes := 8) call S23 (i := 4) rfl (x := (AV.slice (Hp.next (hpush e3.h (mkCells [] 0))) 0 1 1 1 true)) (m := 1) (xs := [(vq ((last + 1) % 18446744073709551616))]) (fun z k => own_src S23 (i := 3) rfl z k) (own_L S23 (i := 3) rfl) (all_cell rfl all_cell0) g25 (by omega)
  obtain ⟨L26, rL26, eL26⟩ : ∃ L, Eng.Rows (rU .u64) G17 (hpush (hpush (hpush (hpush e3.h (mkCells [] 0)) (mkCells [(vq ((last + 1) % 18446744073709551616))] 1)) (mkCells [] 0)) (mkCells [(AV.int .i64 x)] 1)) L (hh ++ [(last + 1) % 18446744073709551616]) ∧ L21 ++ [(vq ((last + 1) % 18446744073709551616))] = L := ⟨_, (Rows.snoc rL21 (a := (rU .u64)) (x := (last + 1) % 18446744073709551616) ⟨rfl, g2⟩), rfl⟩
  have S28 : Sep (Frz G17 (hpush (hpush (hpush (hpush e3.h (mkCells [] 0)) (mkCells [(vq ((last + 1) % 18446744073709551616))] 1)) (mkCells [] 0)) (mkCells [(AV.int .i64 x)] 1)) :: OwnO 1 (AV.slice (Hp.next (hpush (hpush (hpush e3.h (mkCells [] 0)) (mkCells [(vq ((last + 1) % 18446744073709551616))] 1)) (mkCells [] 0))) 0 1 1 1 true) 1 [(AV.int .i64 x)] :: OwnO 1 (AV.slice (Hp.next (hpush (hpush e3.h (mkCells [] 0)) (mkCells [(vq ((last + 1) % 18446744073709551616))] 1))) 0 0 0 1 true) 0 (u8s []) :: OwnO 1 (AV.slice (Hp.next (hpush e3.h (mkCells [] 0))) 0 1 1 1 true) 1 [(vq ((last + 1) % 18446744073709551616))] :: OwnO 1 e24.v ((hh ++ [(last + 1) % 18446744073709551616]).length) L26 :: Cel b [(vq ((last + 1) % 18446744073709551616)), whh_1, wxx_1] :: OwnO 1 wxx_1 xx.length Lxx_3 :: Frz G h0 :: R) e24.h := (by have z := se24; rw [eL26, show hh.length + 1 = (hh ++ [(last + 1) % 18446744073709551616]).length from by simp] at z; exact z)
  have S29 := S28.front 3 rfl
  have S30 := S29.tail
  refine ⟨e24, qe24, ?_⟩
  refine ⟨⟨again_of (rfl) (avEq_int _ _), again_of (cel_load S30 (i := 4) rfl rfl) (own_same S30 (i := 5) rfl), again_of (rfl) (avEq_ptr _ _), again_of (rfl) (avEq_ptr _ _), again_of (rfl) (avEq_ptr _ _), again_of (rfl) (avEq_ptr _ _), again_of (rfl) (avEq_ptr _ _), trivial⟩, ?_⟩
  have S31 := S30.front 0 rfl
  have S32 := S31.front 5 rfl
  obtain ⟨G33, pG33, uG33, sG33⟩ := own_freezeR (a := (rZ .i64)) S32 (Rows.up uG17 (Rows.up uG11 fxx_2)) rfl
  have S35 := sG33.empty
  have S37 := S35.front 0 rfl
  have S38 := S37.front 1 rfl
  obtain ⟨G39, uG39, vG39, sG39⟩ := Sep.mergeX S38
  obtain ⟨c41, rc41, lc41, kc41, qc41⟩ := sin_src sG39 (i := 0) rfl (SIn.up uG39 pG33)
  have ⟨g42, hp⟩ := gd_inv hp
  obtain ⟨e36, qe36, se36⟩ := own_append (bytes := 8) call sG39 (i := 2) rfl (x := wxx_1) (m := xx.length) (xs := c41) (fun z k => qc41 z k) lc41 kc41 g42 (by omega)
  obtain ⟨L43, rL43, eL43⟩ : ∃ L, Eng.Rows (rZ .i64) G39 e24.h L xx ∧ (u8s []) ++ c41 = L := ⟨_, (Rows.append (Rows.up vG39 (own_rows_nil _ _ _)) rc41), rfl⟩
  have S45 : Sep (Frz G39 e24.h :: OwnO 1 (AV.slice (Hp.next (hpush (hpush (hpush e3.h (mkCells [] 0)) (mkCells [(vq ((last + 1) % 18446744073709551616))] 1)) (mkCells [] 0))) 0 1 1 1 true) 1 [(AV.int .i64 x)] :: OwnO 1 e36.v xx.length L43 :: OwnO 1 e24.v ((hh ++ [(last + 1) % 18446744073709551616]).length) L26 :: Cel b [(vq ((last + 1) % 18446744073709551616)), whh_1, wxx_1] :: Frz G h0 :: R) e36.h := (by have z := se36; (first | (rw [eL43, show 0 + xx.length = xx.length from by simp] at z) | (rw [show ([] : List AV) ++ c41 = L43 from eL43, show 0 + xx.length = xx.length from by simp] at z)); exact z)
  refine ⟨e36, qe36, ?_⟩
  refine ⟨⟨again_of (rfl) (avEq_int _ _), again_of (rfl) (avEq_ptr _ _), again_of (rfl) (avEq_ptr _ _), trivial⟩, ?_⟩
  have ⟨g47, hp⟩ := gd_inv hp
  obtain ⟨e46, qe46, se46⟩ := own_append (bytes := 8) call S45 (i := 2) rfl (x := (AV.slice (Hp.next (hpush (hpush (hpush e3.h (mkCells [] 0)) (mkCells [(vq ((last + 1) % 18446744073709551616))] 1)) (mkCells [] 0))) 0 1 1 1 true)) (m := 1) (xs := [(AV.int .i64 x)]) (fun z k => own_src S45 (i := 1) rfl z k) (own_L S45 (i := 1) rfl) (all_cell rfl all_cell0) g47 (by omega)
  obtain ⟨L48, rL48, eL48⟩ : ∃ L, Eng.Rows (rZ .i64) G39 e24.h L (xx ++ [x]) ∧ L43 ++ [(AV.int .i64 x)] = L := ⟨_, (Rows.snoc rL43 (a := (rZ .i64)) (x := x) rfl), rfl⟩
  have S50 : Sep (Frz G39 e24.h :: OwnO 1 (AV.slice (Hp.next (hpush (hpush (hpush e3.h (mkCells [] 0)) (mkCells [(vq ((last + 1) % 18446744073709551616))] 1)) (mkCells [] 0))) 0 1 1 1 true) 1 [(AV.int .i64 x)] :: OwnO 1 e46.v ((xx ++ [x]).length) L48 :: OwnO 1 e24.v ((hh ++ [(last + 1) % 18446744073709551616]).length) L26 :: Cel b [(vq ((last + 1) % 18446744073709551616)), whh_1, wxx_1] :: Frz G h0 :: R) e46.h := (by have z := se46; rw [eL48, show xx.length + 1 = (xx ++ [x]).length from by simp] at z; exact z)
  have S51 := S50.front 1 rfl
  have S52 := S51.tail
  refine ⟨e46, qe46, ?_⟩
  refine ⟨⟨again_of (rfl) (avEq_ptr _ _), again_of (rfl) (avEq_ptr _ _), again_of (rfl) (avEq_ptr _ _), again_of (rfl) (avEq_ptr _ _), trivial⟩, ?_⟩
  obtain ⟨e53, qe53, se53⟩ := cel_store call S52 (i := 3) (o := 1) (x := e24.v) rfl (lb rfl) (own_cell S52 (i := 2) rfl)
  refine ⟨e53, qe53, ?_⟩
  refine ⟨⟨again_of (rfl) (avEq_ptr _ _), again_of (rfl) (avEq_ptr _ _), again_of (rfl) (avEq_ptr _ _), trivial⟩, ?_⟩
  obtain ⟨e55, qe55, se55⟩ := cel_store call se53 (i := 3) (o := 2) (x := e46.v) rfl (lb rfl) (own_cell se53 (i := 1) rfl)
  refine ⟨e55, qe55, ?_⟩
  refine ⟨cel_load se55 (i := 3) rfl rfl, ?_⟩
  have S57 := se55.front 4 rfl
  have S58 := S57.front 1 rfl
  have S59 := S58.front 2 rfl
  have S60 := S59.front 3 rfl
  have S61 := S60.front 4 rfl
  obtain rfl := Option.some.inj hp
  exact ⟨e24.v, e46.v, L26, L48, G39, e24.h, rfl, g2, g2, (Rows.up uG39 (Rows.up uG33 rL26)), rL48, (Up.trans (Up.trans (Up.trans (Up.trans (Up.refl _ _) uG11) uG17) uG33) uG39), S61⟩
def C_radd (call : CallT) : Prop := ∀ {h : Hp} {h0 : Hp} {G : Nat → Prop} {R : List AObj} {Gr : Nat → Prop} {kr : Hp} {b : Nat} {whh_1 : AV} {Lhh_3 : List AV} {wxx_1 : AV} {Lxx_3 : List AV} {last : Nat} {hh : List Nat} {xx : List Int} {x : Int} (flast_1 : last < 18446744073709551616) (fhh_2 : Eng.Rows (rU .u64) Gr kr Lhh_3 hh) (fxx_2 : Eng.Rows (rZ .i64) Gr kr Lxx_3 xx) {r : Nat × List Nat × List Int × Nat × Nat}, radd_p last hh xx x = some r → Eng.Sep (Cel b [(vq last), whh_1, wxx_1] :: OwnO 1 whh_1 hh.length Lhh_3 :: OwnO 1 wxx_1 xx.length Lxx_3 :: Frz Gr kr :: Frz G h0 :: R) h → ∃ rv rh, call 28 [(AV.ptr b 0), (AV.int .i64 x)] h = .ok rv rh ∧ ∃ wk3 : AV, ∃ wk6 : AV, ∃ Lk5 : List AV, ∃ Lk8 : List AV, ∃ Gk : Nat → Prop, ∃ kk : Hp, rv = (AV.tuple [(vq r.2.2.2.1), (vi r.2.2.2.2)]) ∧ (r.2.2.2.1 < 18446744073709551616) ∧ (r.1 < 18446744073709551616) ∧ (Eng.Rows (rU .u64) Gk kk Lk5 r.2.1) ∧ (Eng.Rows (rZ .i64) Gk kk Lk8 r.2.2.1) ∧ (Up Gr kr Gk kk) ∧ Eng.Sep (Cel b ((vq r.1) :: wk3 :: wk6 :: []) :: OwnO 1 wk3 r.2.1.length Lk5 :: OwnO 1 wk6 r.2.2.1.length Lk8 :: Frz Gk kk :: Frz G h0 :: R) rh
theorem s_radd (d : Nat) : C_radd (CC (d + 1)) := by
  intro h h0 G R Gr kr b whh_1 Lhh_3 wxx_1 Lxx_3 last hh xx x flast_1 fhh_2 fxx_2 r hp S
  rw [CC, evF_at (show orM (sumT [21]) sumKC 28 = none from rfl)]
  exact radd_w (call := CC (d + 0)) (N := 100000) flast_1 fhh_2 fxx_2  hp S
noncomputable def rget_p (last : Nat) (hh : List Nat) (xx : List Int) (k : Nat) : Option (Nat × List Nat × List Int × Int × Nat) :=
  (ob (rfind_p last hh k) fun x6 =>
    (if x6.2 = -1 then (some (x6.1, hh, xx, (0 : Int), 9)) else
    (gd (0 ≤ x6.2) (if x6.2.toNat < 0 then (some (x6.1, hh, xx, (0 : Int), 9)) else
    (gd (x6.2.toNat < xx.length) (some (x6.1, hh, xx, (xx.getD x6.2.toNat default), 0)))))))
theorem rget_w {call : CallT} {N : Nat} {h : Hp} {h0 : Hp} {G : Nat → Prop} {R : List AObj} {Gr : Nat → Prop} {kr : Hp} {b : Nat} {whh_1 : AV} {Lhh_3 : List AV} {wxx_1 : AV} {Lxx_3 : List AV} {last : Nat} {hh : List Nat} {xx : List Int} {k : Nat} (flast_1 : last < 18446744073709551616) (fhh_2 : Eng.Rows (rU .u64) Gr kr Lhh_3 hh) (fxx_2 : Eng.Rows (rZ .i64) Gr kr Lxx_3 xx) (fk_1 : k < 18446744073709551616) (h_rfind : C_rfind call) {r : Nat × List Nat × List Int × Int × Nat} (hp : rget_p last hh xx k = some r) (S : Eng.Sep (Cel b [(vq last), whh_1, wxx_1] :: OwnO 1 whh_1 hh.length Lhh_3 :: OwnO 1 wxx_1 xx.length Lxx_3 :: Frz Gr kr :: Frz G h0 :: R) h) :
    ∃ rv rh, evF1 (progS Try.prog (compDrawn Try.prog)) N call 29 [(AV.ptr b 0), (vq k)] h = .ok rv rh ∧ (fun (rv : AV) (rh : Hp) => ∃ wk2 : AV, ∃ wk5 : AV, ∃ Lk4 : List AV, ∃ Lk7 : List AV, ∃ Gk : Nat → Prop, ∃ kk : Hp, rv = (AV.tuple [(AV.int .i64 r.2.2.2.1), (vi r.2.2.2.2)]) ∧ (r.1 < 18446744073709551616) ∧ (Eng.Rows (rU .u64) Gk kk Lk4 r.2.1) ∧ (Eng.Rows (rZ .i64) Gk kk Lk7 r.2.2.1) ∧ (Up Gr kr Gk kk) ∧ Eng.Sep (Cel b ((vq r.1) :: wk2 :: wk5 :: []) :: OwnO 1 wk2 r.2.1.length Lk4 :: OwnO 1 wk5 r.2.2.1.length Lk7 :: Frz Gk kk :: Frz G h0 :: R) rh) rv rh := by
  unfold rget_p at hp
  refine fwalk_ok (K := (fun (rv : AV) (rh : Hp) => ∃ wk2 : AV, ∃ wk5 : AV, ∃ Lk4 : List AV, ∃ Lk7 : List AV, ∃ Gk : Nat → Prop, ∃ kk : Hp, rv = (AV.tuple [(AV.int .i64 r.2.2.2.1), (vi r.2.2.2.2)]) ∧ (r.1 < 18446744073709551616) ∧ (Eng.Rows (rU .u64) Gk kk Lk4 r.2.1) ∧ (Eng.Rows (rZ .i64) Gk kk Lk7 r.2.2.1) ∧ (Up Gr kr Gk kk) ∧ Eng.Sep (Cel b ((vq r.1) :: wk2 :: wk5 :: []) :: OwnO 1 wk2 r.2.1.length Lk4 :: OwnO 1 wk5 r.2.2.1.length Lk7 :: Frz Gk kk :: Frz G h0 :: R) rh)) (o := (.dis 4 (.exi 0 fun (x6 : Nat × Int) => (.exi 0 fun (h11 : Hp) => (.eff 0 (AV.int .i64 (Int.negSucc 0)) h11 .fin))) (.exi 0 fun (x6 : Nat × Int) => (.exi 0 fun (h11 : Hp) => (.eff 0 (vi x6.2.toNat) h11 (.fork 2 .fin (.tell 3 wxx_1 (.tell 1 (elemP wxx_1 x6.2.toNat 1) (.tell 0 (AV.int .i64 (xx.getD x6.2.toNat default)) .fin))))))))) (p := (fun (KK : AV → Hp → Prop) => ((∃ x6 : Nat × Int, ∃ h11 : Hp, (call 45 [(AV.ptr b 0), (vq k)] h = .ok (AV.int .i64 (Int.negSucc 0)) h11 ∧ KK (AV.tuple [(vi 0), (vi 9)]) h11)) ∨ (∃ x6 : Nat × Int, ∃ h11 : Hp, (call 45 [(AV.ptr b 0), (vq k)] h = .ok (vi x6.2.toNat) h11 ∧ ((ltI (Int.ofNat x6.2.toNat) (Int.ofNat 0) = true → KK (AV.tuple [(vi 0), (vi 9)]) h11) ∧ (ltI (Int.ofNat x6.2.toNat) (Int.ofNat 0) = false → ((evQ (.loadS (.const (AV.ptr b 2))) .lf h11 = .ok wxx_1 ∧ ((evQ (.idxAddrSl 1 (.const wxx_1) (.const (vi x6.2.toNat))) .lf H0 = .ok (elemP wxx_1 x6.2.toNat 1) ∧ ((evQ (.loadS (.const (elemP wxx_1 x6.2.toNat 1))) .lf h11 = .ok (AV.int .i64 (xx.getD x6.2.toNat default)) ∧ KK (AV.tuple [(AV.int .i64 (xx.getD x6.2.toNat default)), (vi 0)]) h11)))))))))))) (fun (rv : AV) (rh : Hp) => ∃ wk2 : AV, ∃ wk5 : AV, ∃ Lk4 : List AV, ∃ Lk7 : List AV, ∃ Gk : Nat → Prop, ∃ kk : Hp, rv = (AV.tuple [(AV.int .i64 r.2.2.2.1), (vi r.2.2.2.2)]) ∧ (r.1 < 18446744073709551616) ∧ (Eng.Rows (rU .u64) Gk kk Lk4 r.2.1) ∧ (Eng.Rows (rZ .i64) Gk kk Lk7 r.2.2.1) ∧ (Up Gr kr Gk kk) ∧ Eng.Sep (Cel b ((vq r.1) :: wk2 :: wk5 :: []) :: OwnO 1 wk2 r.2.1.length Lk4 :: OwnO 1 wk5 r.2.2.1.length Lk7 :: Frz Gk kk :: Frz G h0 :: R) rh)) (by kernel_rfl) ?_
  have S1 := S.front 1 rfl
  obtain ⟨G2, pG2, oG2, sG2⟩ := own_lend (a := (rU .u64)) S1 flat_U fhh_2 (by first | rfl | simp)
  have S4 := sG2.front 0 rfl
  have S5 := S4.front 1 rfl
  have ⟨x6, hb7, hp⟩ := ob_inv hp
  obtain ⟨v10, h11, q12, e13, f15, S14⟩ := h_rfind flast_1 pG2 fk_1 hb7 S5
  replace e13 := e13.symm
  subst e13
  have S18 := S14.front 1 rfl
  have S19 := own_thaw S18 oG2
  by_cases c20 : x6.2 = -1
  · replace hp := ift hp c20
    refine Or.inl ⟨x6, h11, nn_m1 q12 c20, ?_⟩
    have S21 := S19.front 4 rfl
    have S22 := S21.front 4 rfl
    have S23 := S22.front 4 rfl
    have S24 := S23.front 3 rfl
    have S25 := S24.front 4 rfl
    obtain rfl := Option.some.inj hp
    exact ⟨whh_1, wxx_1, Lhh_3, Lxx_3, Gr, kr, rfl, f15, fhh_2, fxx_2, (Up.refl _ _), S25⟩
  replace hp := iff0 hp c20
  have ⟨gc20, hp⟩ := gd_inv hp
  refine Or.inr ⟨x6, h11, nn_call q12 gc20, ?_⟩
  refine ⟨fun c21 => ?_, fun c21 => ?_⟩
  · replace c21 := ltI_t c21
    replace hp := ift hp c21
    have S22 := S19.front 4 rfl
    have S23 := S22.front 4 rfl
    have S24 := S23.front 4 rfl
    have S25 := S24.front 3 rfl
    have S26 := S25.front 4 rfl
    obtain rfl := Option.some.inj hp
    exact ⟨whh_1, wxx_1, Lhh_3, Lxx_3, Gr, kr, rfl, f15, fhh_2, fxx_2, (Up.refl _ _), S26⟩
  replace c21 := ltI_f c21
  replace hp := iff0 hp (nltO c21)
  refine ⟨cel_load S19 (i := 1) rfl rfl, ?_⟩
  have ⟨g22, hp⟩ := gd_inv hp
  refine ⟨own_idx S19 (i := 2) rfl g22, ?_⟩
  refine ⟨own_loadR S19 (i := 2) rfl rfl fxx_2 g22 (f := (fun x => AV.int .i64 x)) (fun _ _ e => e), ?_⟩
  have S23 := S19.front 4 rfl
  have S24 := S23.front 4 rfl
  have S25 := S24.front 4 rfl
  have S26 := S25.front 3 rfl
  have S27 := S26.front 4 rfl
  obtain rfl := Option.some.inj hp
  exact ⟨whh_1, wxx_1, Lhh_3, Lxx_3, Gr, kr, rfl, f15, fhh_2, fxx_2, (Up.refl _ _), S27⟩
def C_rget (call : CallT) : Prop := ∀ {h : Hp} {h0 : Hp} {G : Nat → Prop} {R : List AObj} {Gr : Nat → Prop} {kr : Hp} {b : Nat} {whh_1 : AV} {Lhh_3 : List AV} {wxx_1 : AV} {Lxx_3 : List AV} {last : Nat} {hh : List Nat} {xx : List Int} {k : Nat} (flast_1 : last < 18446744073709551616) (fhh_2 : Eng.Rows (rU .u64) Gr kr Lhh_3 hh) (fxx_2 : Eng.Rows (rZ .i64) Gr kr Lxx_3 xx) (fk_1 : k < 18446744073709551616) {r : Nat × List Nat × List Int × Int × Nat}, rget_p last hh xx k = some r → Eng.Sep (Cel b [(vq last), whh_1, wxx_1] :: OwnO 1 whh_1 hh.length Lhh_3 :: OwnO 1 wxx_1 xx.length Lxx_3 :: Frz Gr kr :: Frz G h0 :: R) h → ∃ rv rh, call 29 [(AV.ptr b 0), (vq k)] h = .ok rv rh ∧ ∃ wk2 : AV, ∃ wk5 : AV, ∃ Lk4 : List AV, ∃ Lk7 : List AV, ∃ Gk : Nat → Prop, ∃ kk : Hp, rv = (AV.tuple [(AV.int .i64 r.2.2.2.1), (vi r.2.2.2.2)]) ∧ (r.1 < 18446744073709551616) ∧ (Eng.Rows (rU .u64) Gk kk Lk4 r.2.1) ∧ (Eng.Rows (rZ .i64) Gk kk Lk7 r.2.2.1) ∧ (Up Gr kr Gk kk) ∧ Eng.Sep (Cel b ((vq r.1) :: wk2 :: wk5 :: []) :: OwnO 1 wk2 r.2.1.length Lk4 :: OwnO 1 wk5 r.2.2.1.length Lk7 :: Frz Gk kk :: Frz G h0 :: R) rh
theorem s_rget (d : Nat) : C_rget (CC (d + 2)) := by
  intro h h0 G R Gr kr b whh_1 Lhh_3 wxx_1 Lxx_3 last hh xx k flast_1 fhh_2 fxx_2 fk_1 r hp S
  rw [CC, evF_at (show orM (sumT [21]) sumKC 29 = none from rfl)]
  exact rget_w (call := CC (d + 1)) (N := 100000) flast_1 fhh_2 fxx_2 fk_1 (s_rfind (d + 0)) hp S
noncomputable def rclose_p (last : Nat) (hh : List Nat) (xx : List Int) (k : Nat) : Option (Nat × List Nat × List Int × Int × Nat) :=
  (ob (rfind_p last hh k) fun x6 =>
    (if x6.2 = -1 then (some (x6.1, hh, xx, (0 : Int), 9)) else
    (gd (0 ≤ x6.2) (if x6.2.toNat < 0 then (some (x6.1, hh, xx, (0 : Int), 9)) else
    (gd (x6.2.toNat < xx.length) (gd (x6.2.toNat ≤ hh.length) (gd (x6.2.toNat + 1 < 9223372036854775808) (gd (x6.2.toNat + 1 ≤ hh.length) (gd (x6.2.toNat ≤ xx.length) (gd (x6.2.toNat + 1 ≤ xx.length) (gd ((0 + (hh.take x6.2.toNat).length) * 8 ≤ 70368744177664) (gd (((hh.take x6.2.toNat).length + (hh.drop (x6.2.toNat + 1)).length) * 8 ≤ 70368744177664) (gd ((0 + (xx.take x6.2.toNat).length) * 8 ≤ 70368744177664) (gd (((xx.take x6.2.toNat).length + (xx.drop (x6.2.toNat + 1)).length) * 8 ≤ 70368744177664) (some (x6.1, (hh.take x6.2.toNat) ++ (hh.drop (x6.2.toNat + 1)), (xx.take x6.2.toNat) ++ (xx.drop (x6.2.toNat + 1)), (xx.getD x6.2.toNat default), 0))))))))))))))))
theorem rclose_w {call : CallT} {N : Nat} {h : Hp} {h0 : Hp} {G : Nat → Prop} {R : List AObj} {Gr : Nat → Prop} {kr : Hp} {b : Nat} {whh_1 : AV} {Lhh_3 : List AV} {wxx_1 : AV} {Lxx_3 : List AV} {last : Nat} {hh : List Nat} {xx : List Int} {k : Nat} (flast_1 : last < 18446744073709551616) (fhh_2 : Eng.Rows (rU .u64) Gr kr Lhh_3 hh) (fxx_2 : Eng.Rows (rZ .i64) Gr kr Lxx_3 xx) (fk_1 : k < 18446744073709551616) (h_rfind : C_rfind call) {r : Nat × List Nat × List Int × Int × Nat} (hp : rclose_p last hh xx k = some r) (S : Eng.Sep (Cel b [(vq last), whh_1, wxx_1] :: OwnO 1 whh_1 hh.length Lhh_3 :: OwnO 1 wxx_1 xx.length Lxx_3 :: Frz Gr kr :: Frz G h0 :: R) h) :
    ∃ rv rh, evF1 (progS Try.prog (compDrawn Try.prog)) N call 30 [(AV.ptr b 0), (vq k)] h = .ok rv rh ∧ (fun (rv : AV) (rh : Hp) => ∃ wk2 : AV, ∃ wk5 : AV, ∃ Lk4 : List AV, ∃ Lk7 : List AV, ∃ Gk : Nat → Prop, ∃ kk : Hp, rv = (AV.tuple [(AV.int .i64 r.2.2.2.1), (vi r.2.2.2.2)]) ∧ (r.1 < 18446744073709551616) ∧ (Eng.Rows (rU .u64) Gk kk Lk4 r.2.1) ∧ (Eng.Rows (rZ .i64) Gk kk Lk7 r.2.2.1) ∧ (Up Gr kr Gk kk) ∧ Eng.Sep (Cel b ((vq r.1) :: wk2 :: wk5 :: []) :: OwnO 1 wk2 r.2.1.length Lk4 :: OwnO 1 wk5 r.2.2.1.length Lk7 :: Frz Gk kk :: Frz G h0 :: R) rh) rv rh := by
  unfold rclose_p at hp
  refine fwalk_ok (K := (fun (rv : AV) (rh : Hp) => ∃ wk2 : AV, ∃ wk5 : AV, ∃ Lk4 : List AV, ∃ Lk7 : List AV, ∃ Gk : Nat → Prop, ∃ kk : Hp, rv = (AV.tuple [(AV.int .i64 r.2.2.2.1), (vi r.2.2.2.2)]) ∧ (r.1 < 18446744073709551616) ∧ (Eng.Rows (rU .u64) Gk kk Lk4 r.2.1) ∧ (Eng.Rows (rZ .i64) Gk kk Lk7 r.2.2.1) ∧ (Up Gr kr Gk kk) ∧ Eng.Sep (Cel b ((vq r.1) :: wk2 :: wk5 :: []) :: OwnO 1 wk2 r.2.1.length Lk4 :: OwnO 1 wk5 r.2.2.1.length Lk7 :: Frz Gk kk :: Frz G h0 :: R) rh)) (o := (.dis 4 (.exi 0 fun (x6 : Nat × Int) => (.exi 0 fun (h11 : Hp) => (.eff 0 (AV.int .i64 (Int.negSucc 0)) h11 .fin))) (.exi 0 fun (x6 : Nat × Int) => (.exi 0 fun (h11 : Hp) => (.eff 0 (vi x6.2.toNat) h11 (.fork 2 .fin (.tell 3 wxx_1 (.tell 1 (elemP wxx_1 x6.2.toNat 1) (.tell 0 (AV.int .i64 (xx.getD x6.2.toNat default)) (.tell 7 whh_1 (.tell 1 (partS whh_1 0 x6.2.toNat) (.tell 3 whh_1 (.tell 1 (vi (x6.2.toNat + 1)) (.tell 0 (partS whh_1 (x6.2.toNat + 1) hh.length) (.tell 4 wxx_1 (.tell 1 (partS wxx_1 0 x6.2.toNat) (.tell 3 wxx_1 (.tell 1 (vi (x6.2.toNat + 1)) (.tell 0 (partS wxx_1 (x6.2.toNat + 1) xx.length) (.again 0 (.effx 0 (fun e43 => e43.v) (fun e43 => (.again 0 (.effx 0 (fun e53 => e53.v) (fun e53 => (.again 0 (.effx 0 (fun e60 => e60.v) (fun e60 => (.again 0 (.effx 0 (fun e70 => e70.v) (fun e70 => (.again 2 (.effx 0 (fun e76 => (AV.tuple [])) (fun e76 => (.again 2 (.effx 0 (fun e78 => (AV.tuple [])) (fun e78 => .fin))))))))))))))))))))))))))))))))))))) (p := (fun (KK : AV → Hp → Prop) => ((∃ x6 : Nat × Int, ∃ h11 : Hp, (call 45 [(AV.ptr b 0), (vq k)] h = .ok (AV.int .i64 (Int.negSucc 0)) h11 ∧ KK (AV.tuple [(vi 0), (vi 9)]) h11)) ∨ (∃ x6 : Nat × Int, ∃ h11 : Hp, (call 45 [(AV.ptr b 0), (vq k)] h = .ok (vi x6.2.toNat) h11 ∧ ((ltI (Int.ofNat x6.2.toNat) (Int.ofNat 0) = true → KK (AV.tuple [(vi 0), (vi 9)]) h11) ∧ (ltI (Int.ofNat x6.2.toNat) (Int.ofNat 0) = false → ((evQ (.loadS (.const (AV.ptr b 2))) .lf h11 = .ok wxx_1 ∧ ((evQ (.idxAddrSl 1 (.const wxx_1) (.const (vi x6.2.toNat))) .lf H0 = .ok (elemP wxx_1 x6.2.toNat 1) ∧ ((evQ (.loadS (.const (elemP wxx_1 x6.2.toNat 1))) .lf h11 = .ok (AV.int .i64 (xx.getD x6.2.toNat default)) ∧ ((evQ (.loadS (.const (AV.ptr b 1))) .lf (hpush h11 (mkCells [] 0)) = .ok whh_1 ∧ ((evQ (.sliceSl 1 (.const whh_1) none (some (.const (vi x6.2.toNat))) none) .lf H0 = .ok (partS whh_1 0 x6.2.toNat) ∧ ((evQ (.loadS (.const (AV.ptr b 1))) .lf (hpush h11 (mkCells [] 0)) = .ok whh_1 ∧ ((evQ (.bin .add (.const (vi x6.2.toNat)) (.const (vi 1))) .lf H0 = .ok (vi (x6.2.toNat + 1)) ∧ ((evQ (.sliceSl 1 (.const whh_1) (some (.const (vi (x6.2.toNat + 1)))) none none) .lf H0 = .ok (partS whh_1 (x6.2.toNat + 1) hh.length) ∧ ((evQ (.loadS (.const (AV.ptr b 2))) .lf (hpush (hpush h11 (mkCells [] 0)) (mkCells [] 0)) = .ok wxx_1 ∧ ((evQ (.sliceSl 1 (.const wxx_1) none (some (.const (vi x6.2.toNat))) none) .lf H0 = .ok (partS wxx_1 0 x6.2.toNat) ∧ ((evQ (.loadS (.const (AV.ptr b 2))) .lf (hpush (hpush h11 (mkCells [] 0)) (mkCells [] 0)) = .ok wxx_1 ∧ ((evQ (.bin .add (.const (vi x6.2.toNat)) (.const (vi 1))) .lf H0 = .ok (vi (x6.2.toNat + 1)) ∧ ((evQ (.sliceSl 1 (.const wxx_1) (some (.const (vi (x6.2.toNat + 1)))) none none) .lf H0 = .ok (partS wxx_1 (x6.2.toNat + 1) xx.length) ∧ ((again (.sliceSl 1 (.const wxx_1) (some (.const (vi (x6.2.toNat + 1)))) none none) .lf (partS wxx_1 (x6.2.toNat + 1) xx.length) (hpush (hpush h11 (mkCells [] 0)) (mkCells [] 0)) = true ∧ again (.bin .add (.const (vi x6.2.toNat)) (.const (vi 1))) .lf (vi (x6.2.toNat + 1)) (hpush (hpush h11 (mkCells [] 0)) (mkCells [] 0)) = true ∧ again (.move (.const (vi x6.2.toNat))) .lf (vi x6.2.toNat) (hpush (hpush h11 (mkCells [] 0)) (mkCells [] 0)) = true ∧ again (.loadS (.const (AV.ptr b 2))) .lf wxx_1 (hpush (hpush h11 (mkCells [] 0)) (mkCells [] 0)) = true ∧ again (.fieldAddr 2 (.const (AV.ptr b 0))) .lf (AV.ptr b 2) (hpush (hpush h11 (mkCells [] 0)) (mkCells [] 0)) = true ∧ again (.nilCheck (.const (AV.ptr b 0))) .lf (AV.ptr b 0) (hpush (hpush h11 (mkCells [] 0)) (mkCells [] 0)) = true ∧ again (.move (.const (AV.ptr b 0))) .lf (AV.ptr b 0) (hpush (hpush h11 (mkCells [] 0)) (mkCells [] 0)) = true ∧ again (.sliceSl 1 (.const wxx_1) none (some (.const (vi x6.2.toNat))) none) .lf (partS wxx_1 0 x6.2.toNat) (hpush (hpush h11 (mkCells [] 0)) (mkCells [] 0)) = true ∧ again (.move (.const (vi x6.2.toNat))) .lf (vi x6.2.toNat) (hpush (hpush h11 (mkCells [] 0)) (mkCells [] 0)) = true ∧ again (.loadS (.const (AV.ptr b 2))) .lf wxx_1 (hpush (hpush h11 (mkCells [] 0)) (mkCells [] 0)) = true ∧ again (.fieldAddr 2 (.const (AV.ptr b 0))) .lf (AV.ptr b 2) (hpush (hpush h11 (mkCells [] 0)) (mkCells [] 0)) = true ∧ again (.nilCheck (.const (AV.ptr b 0))) .lf (AV.ptr b 0) (hpush (hpush h11 (mkCells [] 0)) (mkCells [] 0)) = true ∧ again (.move (.const (AV.ptr b 0))) .lf (AV.ptr b 0) (hpush (hpush h11 (mkCells [] 0)) (mkCells [] 0)) = true ∧ again (.sliceSl 1 (.const whh_1) (some (.const (vi (x6.2.toNat + 1)))) none none) .lf (partS whh_1 (x6.2.toNat + 1) hh.length) (hpush (hpush h11 (mkCells [] 0)) (mkCells [] 0)) = true ∧ again (.bin .add (.const (vi x6.2.toNat)) (.const (vi 1))) .lf (vi (x6.2.toNat + 1)) (hpush (hpush h11 (mkCells [] 0)) (mkCells [] 0)) = true ∧ again (.move (.const (vi x6.2.toNat))) .lf (vi x6.2.toNat) (hpush (hpush h11 (mkCells [] 0)) (mkCells [] 0)) = true ∧ again (.loadS (.const (AV.ptr b 1))) .lf whh_1 (hpush (hpush h11 (mkCells [] 0)) (mkCells [] 0)) = true ∧ again (.fieldAddr 1 (.const (AV.ptr b 0))) .lf (AV.ptr b 1) (hpush (hpush h11 (mkCells [] 0)) (mkCells [] 0)) = true ∧ again (.nilCheck (.const (AV.ptr b 0))) .lf (AV.ptr b 0) (hpush (hpush h11 (mkCells [] 0)) (mkCells [] 0)) = true ∧ again (.move (.const (AV.ptr b 0))) .lf (AV.ptr b 0) (hpush (hpush h11 (mkCells [] 0)) (mkCells [] 0)) = true ∧ again (.sliceSl 1 (.const whh_1) none (some (.const (vi x6.2.toNat))) none) .lf (partS whh_1 0 x6.2.toNat) (hpush (hpush h11 (mkCells [] 0)) (mkCells [] 0)) = true ∧ again (.move (.const (vi x6.2.toNat))) .lf (vi x6.2.toNat) (hpush (hpush h11 (mkCells [] 0)) (mkCells [] 0)) = true ∧ again (.loadS (.const (AV.ptr b 1))) .lf whh_1 (hpush (hpush h11 (mkCells [] 0)) (mkCells [] 0)) = true ∧ again (.fieldAddr 1 (.const (AV.ptr b 0))) .lf (AV.ptr b 1) (hpush (hpush h11 (mkCells [] 0)) (mkCells [] 0)) = true ∧ again (.nilCheck (.const (AV.ptr b 0))) .lf (AV.ptr b 0) (hpush (hpush h11 (mkCells [] 0)) (mkCells [] 0)) = true ∧ again (.move (.const (AV.ptr b 0))) .lf (AV.ptr b 0) (hpush (hpush h11 (mkCells [] 0)) (mkCells [] 0)) = true ∧ again (.move (.const (AV.ptr b 0))) .lf (AV.ptr b 0) (hpush (hpush h11 (mkCells [] 0)) (mkCells [] 0)) = true ∧ again (.move (.const (AV.ptr b 0))) .lf (AV.ptr b 0) (hpush (hpush h11 (mkCells [] 0)) (mkCells [] 0)) = true ∧ True) ∧ (∃ e43 : Ev, evE (.append 1 8 (.const (AV.slice (Hp.next h11) 0 0 0 1 true)) (.const (partS whh_1 0 x6.2.toNat))) call .lf (hpush (hpush h11 (mkCells [] 0)) (mkCells [] 0)) = .ok e43.v e43.h ∧ ((again (.sliceSl 1 (.const wxx_1) (some (.const (vi (x6.2.toNat + 1)))) none none) .lf (partS wxx_1 (x6.2.toNat + 1) xx.length) e43.h = true ∧ again (.bin .add (.const (vi x6.2.toNat)) (.const (vi 1))) .lf (vi (x6.2.toNat + 1)) e43.h = true ∧ again (.move (.const (vi x6.2.toNat))) .lf (vi x6.2.toNat) e43.h = true ∧ again (.loadS (.const (AV.ptr b 2))) .lf wxx_1 e43.h = true ∧ again (.fieldAddr 2 (.const (AV.ptr b 0))) .lf (AV.ptr b 2) e43.h = true ∧ again (.nilCheck (.const (AV.ptr b 0))) .lf (AV.ptr b 0) e43.h = true ∧ again (.move (.const (AV.ptr b 0))) .lf (AV.ptr b 0) e43.h = true ∧ again (.sliceSl 1 (.const wxx_1) none (some (.const (vi x6.2.toNat))) none) .lf (partS wxx_1 0 x6.2.toNat) e43.h = true ∧ again (.move (.const (vi x6.2.toNat))) .lf (vi x6.2.toNat) e43.h = true ∧ again (.loadS (.const (AV.ptr b 2))) .lf wxx_1 e43.h = true ∧ again (.fieldAddr 2 (.const (AV.ptr b 0))) .lf (AV.ptr b 2) e43.h = true ∧ again (.nilCheck (.const (AV.ptr b 0))) .lf (AV.ptr b 0) e43.h = true ∧ again (.move (.const (AV.ptr b 0))) .lf (AV.ptr b 0) e43.h = true ∧ again (.sliceSl 1 (.const whh_1) (some (.const (vi (x6.2.toNat + 1)))) none none) .lf (partS whh_1 (x6.2.toNat + 1) hh.length) e43.h = true ∧ again (.bin .add (.const (vi x6.2.toNat)) (.const (vi 1))) .lf (vi (x6.2.toNat + 1)) e43.h = true ∧ again (.move (.const (vi x6.2.toNat))) .lf (vi x6.2.toNat) e43.h = true ∧ again (.loadS (.const (AV.ptr b 1))) .lf whh_1 e43.h = true ∧ again (.fieldAddr 1 (.const (AV.ptr b 0))) .lf (AV.ptr b 1) e43.h = true ∧ again (.nilCheck (.const (AV.ptr b 0))) .lf (AV.ptr b 0) e43.h = true ∧ again (.move (.const (AV.ptr b 0))) .lf (AV.ptr b 0) e43.h = true ∧ again (.move (.const (AV.ptr b 0))) .lf (AV.ptr b 0) e43.h = true ∧ again (.move (.const (AV.ptr b 0))) .lf (AV.ptr b 0) e43.h = true ∧ True) ∧ (∃ e53 : Ev, evE (.append 1 8 (.const e43.v) (.const (partS whh_1 (x6.2.toNat + 1) hh.length))) call .lf e43.h = .ok e53.v e53.h ∧ ((again (.sliceSl 1 (.const wxx_1) (some (.const (vi (x6.2.toNat + 1)))) none none) .lf (partS wxx_1 (x6.2.toNat + 1) xx.length) e53.h = true ∧ again (.bin .add (.const (vi x6.2.toNat)) (.const (vi 1))) .lf (vi (x6.2.toNat + 1)) e53.h = true ∧ again (.move (.const (vi x6.2.toNat))) .lf (vi x6.2.toNat) e53.h = true ∧ again (.loadS (.const (AV.ptr b 2))) .lf wxx_1 e53.h = true ∧ again (.fieldAddr 2 (.const (AV.ptr b 0))) .lf (AV.ptr b 2) e53.h = true ∧ again (.nilCheck (.const (AV.ptr b 0))) .lf (AV.ptr b 0) e53.h = true ∧ again (.move (.const (AV.ptr b 0))) .lf (AV.ptr b 0) e53.h = true ∧ again (.sliceSl 1 (.const wxx_1) none (some (.const (vi x6.2.toNat))) none) .lf (partS wxx_1 0 x6.2.toNat) e53.h = true ∧ again (.move (.const (vi x6.2.toNat))) .lf (vi x6.2.toNat) e53.h = true ∧ again (.loadS (.const (AV.ptr b 2))) .lf wxx_1 e53.h = true ∧ again (.fieldAddr 2 (.const (AV.ptr b 0))) .lf (AV.ptr b 2) e53.h = true ∧ again (.nilCheck (.const (AV.ptr b 0))) .lf (AV.ptr b 0) e53.h = true ∧ again (.move (.const (AV.ptr b 0))) .lf (AV.ptr b 0) e53.h = true ∧ again (.move (.const (AV.ptr b 0))) .lf (AV.ptr b 0) e53.h = true ∧ again (.move (.const (AV.ptr b 0))) .lf (AV.ptr b 0) e53.h = true ∧ True) ∧ (∃ e60 : Ev, evE (.append 1 8 (.const (AV.slice (Hp.next (hpush h11 (mkCells [] 0))) 0 0 0 1 true)) (.const (partS wxx_1 0 x6.2.toNat))) call .lf e53.h = .ok e60.v e60.h ∧ ((again (.sliceSl 1 (.const wxx_1) (some (.const (vi (x6.2.toNat + 1)))) none none) .lf (partS wxx_1 (x6.2.toNat + 1) xx.length) e60.h = true ∧ again (.bin .add (.const (vi x6.2.toNat)) (.const (vi 1))) .lf (vi (x6.2.toNat + 1)) e60.h = true ∧ again (.move (.const (vi x6.2.toNat))) .lf (vi x6.2.toNat) e60.h = true ∧ again (.loadS (.const (AV.ptr b 2))) .lf wxx_1 e60.h = true ∧ again (.fieldAddr 2 (.const (AV.ptr b 0))) .lf (AV.ptr b 2) e60.h = true ∧ again (.nilCheck (.const (AV.ptr b 0))) .lf (AV.ptr b 0) e60.h = true ∧ again (.move (.const (AV.ptr b 0))) .lf (AV.ptr b 0) e60.h = true ∧ again (.move (.const (AV.ptr b 0))) .lf (AV.ptr b 0) e60.h = true ∧ again (.move (.const (AV.ptr b 0))) .lf (AV.ptr b 0) e60.h = true ∧ True) ∧ (∃ e70 : Ev, evE (.append 1 8 (.const e60.v) (.const (partS wxx_1 (x6.2.toNat + 1) xx.length))) call .lf e60.h = .ok e70.v e70.h ∧ ((again (.fieldAddr 1 (.const (AV.ptr b 0))) .lf (AV.ptr b 1) e70.h = true ∧ again (.nilCheck (.const (AV.ptr b 0))) .lf (AV.ptr b 0) e70.h = true ∧ again (.move (.const (AV.ptr b 0))) .lf (AV.ptr b 0) e70.h = true ∧ again (.move (.const (AV.ptr b 0))) .lf (AV.ptr b 0) e70.h = true ∧ True) ∧ (∃ e76 : Ev, evE (.store 1 (.const (AV.ptr b 1)) (.const e53.v)) call .lf e70.h = .ok (AV.tuple []) e76.h ∧ ((again (.fieldAddr 2 (.const (AV.ptr b 0))) .lf (AV.ptr b 2) e76.h = true ∧ again (.nilCheck (.const (AV.ptr b 0))) .lf (AV.ptr b 0) e76.h = true ∧ again (.move (.const (AV.ptr b 0))) .lf (AV.ptr b 0) e76.h = true ∧ True) ∧ (∃ e78 : Ev, evE (.store 1 (.const (AV.ptr b 2)) (.const e70.v)) call .lf e76.h = .ok (AV.tuple []) e78.h ∧ KK (AV.tuple [(AV.int .i64 (xx.getD x6.2.toNat default)), (vi 0)]) e78.h)))))))))))))))))))))))))))))))))))))))))))) (fun (rv : AV) (rh : Hp) => ∃ wk2 : AV, ∃ wk5 : AV, ∃ Lk4 : List AV, ∃ Lk7 : List AV, ∃ Gk : Nat → Prop, ∃ kk : Hp, rv = (AV.tuple [(AV.int .i64 r.2.2.2.1), (vi r.2.2.2.2)]) ∧ (r.1 < 18446744073709551616) ∧ (Eng.Rows (rU .u64) Gk kk Lk4 r.2.1) ∧ (Eng.Rows (rZ .i64) Gk kk Lk7 r.2.2.1) ∧ (Up Gr kr Gk kk) ∧ Eng.Sep (Cel b ((vq r.1) :: wk2 :: wk5 :: []) :: OwnO 1 wk2 r.2.1.length Lk4 :: OwnO 1 wk5 r.2.2.1.length Lk7 :: Frz Gk kk :: Frz G h0 :: R) rh)) (by kernel_rfl) ?_
  have S1 := S.front 1 rfl
  obtain ⟨G2, pG2, oG2, sG2⟩ := own_lend (a := (rU .u64)) S1 flat_U fhh_2 (by first | rfl | simp)
  have S4 := sG2.front 0 rfl
  have S5 := S4.front 1 rfl
  have ⟨x6, hb7, hp⟩ := ob_inv hp
  obtain ⟨v10, h11, q12, e13, f15, S14⟩ := h_rfind flast_1 pG2 fk_1 hb7 S5
  replace e13 := e13.symm
  subst e13
  have S18 := S14.front 1 rfl
  have S19 := own_thaw S18 oG2
  by_cases c20 : x6.2 = -1
  · replace hp := ift hp c20
    refine Or.inl ⟨x6, h11, nn_m1 q12 c20, ?_⟩
    have S21 := S19.front 4 rfl
    have S22 := S21.front 4 rfl
    have S23 := S22.front 4 rfl
    have S24 := S23.front 3 rfl
    have S25 := S24.front 4 rfl
    obtain rfl := Option.some.inj hp
    exact ⟨whh_1, wxx_1, Lhh_3, Lxx_3, Gr, kr, rfl, f15, fhh_2, fxx_2, (Up.refl _ _), S25⟩
  replace hp := iff0 hp c20
  have ⟨gc20, hp⟩ := gd_inv hp
  refine Or.inr ⟨x6, h11, nn_call q12 gc20, ?_⟩
  refine ⟨fun c21 => ?_, fun c21 => ?_⟩
  · replace c21 := ltI_t c21
    replace hp := ift hp c21
    have S22 := S19.front 4 rfl
    have S23 := S22.front 4 rfl
    have S24 := S23.front 4 rfl
    have S25 := S24.front 3 rfl
    have S26 := S25.front 4 rfl
    obtain rfl := Option.some.inj hp
    exact ⟨whh_1, wxx_1, Lhh_3, Lxx_3, Gr, kr, rfl, f15, fhh_2, fxx_2, (Up.refl _ _), S26⟩
  replace c21 := ltI_f c21
  replace hp := iff0 hp (nltO c21)
  refine ⟨cel_load S19 (i := 1) rfl rfl, ?_⟩
  have ⟨g22, hp⟩ := gd_inv hp
  refine ⟨own_idx S19 (i := 2) rfl g22, ?_⟩
  refine ⟨own_loadR S19 (i := 2) rfl rfl fxx_2 g22 (f := (fun x => AV.int .i64 x)) (fun _ _ e => e), ?_⟩
  have S23 := own_new S19 1 0 [] true rfl
  refine ⟨cel_load S23 (i := 2) rfl rfl, ?_⟩
  have S24 := S23.front 4 rfl
  have S25 := S24.front 2 rfl
  obtain ⟨G26, pG26, uG26, sG26⟩ := own_freezeR (a := (rU .u64)) S25 fhh_2 rfl
  have ⟨g28, hp⟩ := gd_inv hp
  refine ⟨sin_sliceTo rfl pG26 g28, ?_⟩
  have b29 := SIn.to1 rfl pG26 g28
  refine ⟨cel_load sG26 (i := 2) rfl rfl, ?_⟩
  have ⟨g30, hp⟩ := gd_inv hp
  refine ⟨q_add g30, ?_⟩
  have ⟨g31, hp⟩ := gd_inv hp
  refine ⟨sin_sliceFrom rfl pG26 g31, ?_⟩
  have b32 := SIn.from1 rfl pG26 g31
  have S33 := own_new sG26 1 0 [] true rfl
  refine ⟨cel_load S33 (i := 3) rfl rfl, ?_⟩
  have S34 := S33.front 1 rfl
  have S35 := S34.front 4 rfl
  obtain ⟨G36, pG36, uG36, sG36⟩ := own_freezeR (a := (rZ .i64)) S35 (Rows.up uG26 fxx_2) rfl
  have ⟨g38, hp⟩ := gd_inv hp
  refine ⟨sin_sliceTo rfl pG36 g38, ?_⟩
  have b39 := SIn.to1 rfl pG36 g38
  refine ⟨cel_load sG36 (i := 3) rfl rfl, ?_⟩
  refine ⟨q_add g30, ?_⟩
  have ⟨g40, hp⟩ := gd_inv hp
  refine ⟨sin_sliceFrom rfl pG36 g40, ?_⟩
  have b41 := SIn.from1 rfl pG36 g40
  refine ⟨⟨again_of (sin_sliceFrom rfl pG36 g40) (SIn.same b41), again_of (q_add g30) (avEq_int _ _), again_of (rfl) (avEq_int _ _), again_of (cel_load sG36 (i := 3) rfl rfl) (SIn.same pG36), again_of (rfl) (avEq_ptr _ _), again_of (rfl) (avEq_ptr _ _), again_of (rfl) (avEq_ptr _ _), again_of (sin_sliceTo rfl pG36 g38) (SIn.same b39), again_of (rfl) (avEq_int _ _), again_of (cel_load sG36 (i := 3) rfl rfl) (SIn.same pG36), again_of (rfl) (avEq_ptr _ _), again_of (rfl) (avEq_ptr _ _), again_of (rfl) (avEq_ptr _ _), again_of (sin_sliceFrom rfl pG26 g31) (SIn.same (SIn.up uG36 b32)), again_of (q_add g30) (avEq_int _ _), again_of (rfl) (avEq_int _ _), again_of (cel_load sG36 (i := 3) rfl rfl) (SIn.same (SIn.up uG36 pG26)), again_of (rfl) (avEq_ptr _ _), again_of (rfl) (avEq_ptr _ _), again_of (rfl) (avEq_ptr _ _), again_of (sin_sliceTo rfl pG26 g28) (SIn.same (SIn.up uG36 b29)), again_of (rfl) (avEq_int _ _), again_of (cel_load sG36 (i := 3) rfl rfl) (SIn.same (SIn.up uG36 pG26)), again_of (rfl) (avEq_ptr _ _), again_of (rfl) (avEq_ptr _ _), again_of (rfl) (avEq_ptr _ _), again_of (rfl) (avEq_ptr _ _), again_of (rfl) (avEq_ptr _ _), trivial⟩, ?_⟩
  have S42 := sG36.empty
  have S44 := S42.front 0 rfl
  have S45 := S44.front 1 rfl
  obtain ⟨G46, uG46, vG46, sG46⟩ := Sep.mergeX S45
  obtain ⟨c48, rc48, lc48, kc48, qc48⟩ := sin_src sG46 (i := 0) rfl (SIn.up uG46 (SIn.up uG36 b29))
  have ⟨g49, hp⟩ := gd_inv hp
  obtain ⟨e43, qe43, se43⟩ := own_append (bytes := 8) call sG46 (i := 2) rfl (x := (partS whh_1 0 x6.2.toNat)) (m := (hh.take x6.2.toNat).length) (xs := c48) (fun z k => qc48 z k) lc48 kc48 g49 (by omega)
  obtain ⟨L50, rL50, eL50⟩ : ∃ L, Eng.Rows (rU .u64) G46 (hpush (hpush h11 (mkCells [] 0)) (mkCells [] 0)) L (hh.take x6.2.toNat) ∧ (u8s []) ++ c48 = L := ⟨_, (Rows.append (Rows.up vG46 (own_rows_nil _ _ _)) rc48), rfl⟩
  have S52 : Sep (Frz G46 (hpush (hpush h11 (mkCells [] 0)) (mkCells [] 0)) :: OwnO 1 (AV.slice (Hp.next (hpush h11 (mkCells [] 0))) 0 0 0 1 true) 0 (u8s []) :: OwnO 1 e43.v ((hh.take x6.2.toNat).length) L50 :: Cel b [(vq x6.1), whh_1, wxx_1] :: Frz G h0 :: R) e43.h := (by have z := se43; (first | (rw [eL50, show 0 + ((hh.take x6.2.toNat).length) = (hh.take x6.2.toNat).length from by simp] at z) | (rw [show ([] : List AV) ++ c48 = L50 from eL50, show 0 + ((hh.take x6.2.toNat).length) = (hh.take x6.2.toNat).length from by simp] at z)); exact z)
  refine ⟨e43, qe43, ?_⟩
  refine ⟨⟨again_of (sin_sliceFrom rfl pG36 g40) (SIn.same (SIn.up uG46 b41)), again_of (q_add g30) (avEq_int _ _), again_of (rfl) (avEq_int _ _), again_of (cel_load S52 (i := 3) rfl rfl) (SIn.same (SIn.up uG46 pG36)), again_of (rfl) (avEq_ptr _ _), again_of (rfl) (avEq_ptr _ _), again_of (rfl) (avEq_ptr _ _), again_of (sin_sliceTo rfl pG36 g38) (SIn.same (SIn.up uG46 b39)), again_of (rfl) (avEq_int _ _), again_of (cel_load S52 (i := 3) rfl rfl) (SIn.same (SIn.up uG46 pG36)), again_of (rfl) (avEq_ptr _ _), again_of (rfl) (avEq_ptr _ _), again_of (rfl) (avEq_ptr _ _), again_of (sin_sliceFrom rfl pG26 g31) (SIn.same (SIn.up uG46 (SIn.up uG36 b32))), again_of (q_add g30) (avEq_int _ _), again_of (rfl) (avEq_int _ _), again_of (cel_load S52 (i := 3) rfl rfl) (SIn.same (SIn.up uG46 (SIn.up uG36 pG26))), again_of (rfl) (avEq_ptr _ _), again_of (rfl) (avEq_ptr _ _), again_of (rfl) (avEq_ptr _ _), again_of (rfl) (avEq_ptr _ _), again_of (rfl) (avEq_ptr _ _), trivial⟩, ?_⟩
  obtain ⟨c54, rc54, lc54, kc54, qc54⟩ := sin_src S52 (i := 0) rfl (SIn.up uG46 (SIn.up uG36 b32))
  have ⟨g55, hp⟩ := gd_inv hp
  obtain ⟨e53, qe53, se53⟩ := own_append (bytes := 8) call S52 (i := 2) rfl (x := (partS whh_1 (x6.2.toNat + 1) hh.length)) (m := (hh.drop (x6.2.toNat + 1)).length) (xs := c54) (fun z k => qc54 z k) lc54 kc54 g55 (by omega)
  obtain ⟨L56, rL56, eL56⟩ : ∃ L, Eng.Rows (rU .u64) G46 (hpush (hpush h11 (mkCells [] 0)) (mkCells [] 0)) L ((hh.take x6.2.toNat) ++ (hh.drop (x6.2.toNat + 1))) ∧ L50 ++ c54 = L := ⟨_, (Rows.append rL50 rc54), rfl⟩
  have S58 : Sep (Frz G46 (hpush (hpush h11 (mkCells [] 0)) (mkCells [] 0)) :: OwnO 1 (AV.slice (Hp.next (hpush h11 (mkCells [] 0))) 0 0 0 1 true) 0 (u8s []) :: OwnO 1 e53.v (((hh.take x6.2.toNat) ++ (hh.drop (x6.2.toNat + 1))).length) L56 :: Cel b [(vq x6.1), whh_1, wxx_1] :: Frz G h0 :: R) e53.h := (by have z := se53; rw [eL56, show ((hh.take x6.2.toNat).length) + ((hh.drop (x6.2.toNat + 1)).length) = ((hh.take x6.2.toNat) ++ (hh.drop (x6.2.toNat + 1))).length from by simp] at z; exact z)
  refine ⟨e53, qe53, ?_⟩
  refine ⟨⟨again_of (sin_sliceFrom rfl pG36 g40) (SIn.same (SIn.up uG46 b41)), again_of (q_add g30) (avEq_int _ _), again_of (rfl) (avEq_int _ _), again_of (cel_load S58 (i := 3) rfl rfl) (SIn.same (SIn.up uG46 pG36)), again_of (rfl) (avEq_ptr _ _), again_of (rfl) (avEq_ptr _ _), again_of (rfl) (avEq_ptr _ _), again_of (sin_sliceTo rfl pG36 g38) (SIn.same (SIn.up uG46 b39)), again_of (rfl) (avEq_int _ _), again_of (cel_load S58 (i := 3) rfl rfl) (SIn.same (SIn.up uG46 pG36)), again_of (rfl) (avEq_ptr _ _), again_of (rfl) (avEq_ptr _ _), again_of (rfl) (avEq_ptr _ _), again_of (rfl) (avEq_ptr _ _), again_of (rfl) (avEq_ptr _ _), trivial⟩, ?_⟩
  have S59 := S58.empty
  have S61 := S59.front 0 rfl
  have S62 := S61.front 1 rfl
  obtain ⟨G63, uG63, vG63, sG63⟩ := Sep.mergeX S62
  obtain ⟨c65, rc65, lc65, kc65, qc65⟩ := sin_src sG63 (i := 0) rfl (SIn.up uG63 (SIn.up uG46 b39))
  have ⟨g66, hp⟩ := gd_inv hp
  obtain ⟨e60, qe60, se60⟩ := own_append (bytes := 8) call sG63 (i := 1) rfl (x := (partS wxx_1 0 x6.2.toNat)) (m := (xx.take x6.2.toNat).length) (xs := c65) (fun z k => qc65 z k) lc65 kc65 g66 (by omega)
  obtain ⟨L67, rL67, eL67⟩ : ∃ L, Eng.Rows (rZ .i64) G63 e53.h L (xx.take x6.2.toNat) ∧ (u8s []) ++ c65 = L := ⟨_, (Rows.append (Rows.up vG63 (own_rows_nil _ _ _)) rc65), rfl⟩
  have S69 : Sep (Frz G63 e53.h :: OwnO 1 e60.v ((xx.take x6.2.toNat).length) L67 :: OwnO 1 e53.v (((hh.take x6.2.toNat) ++ (hh.drop (x6.2.toNat + 1))).length) L56 :: Cel b [(vq x6.1), whh_1, wxx_1] :: Frz G h0 :: R) e60.h := (by have z := se60; (first | (rw [eL67, show 0 + ((xx.take x6.2.toNat).length) = (xx.take x6.2.toNat).length from by simp] at z) | (rw [show ([] : List AV) ++ c65 = L67 from eL67, show 0 + ((xx.take x6.2.toNat).length) = (xx.take x6.2.toNat).length from by simp] at z)); exact z)
  refine ⟨e60, qe60, ?_⟩
  refine ⟨⟨again_of (sin_sliceFrom rfl pG36 g40) (SIn.same (SIn.up uG63 (SIn.up uG46 b41))), again_of (q_add g30) (avEq_int _ _), again_of (rfl) (avEq_int _ _), again_of (cel_load S69 (i := 3) rfl rfl) (SIn.same (SIn.up uG63 (SIn.up uG46 pG36))), again_of (rfl) (avEq_ptr _ _), again_of (rfl) (avEq_ptr _ _), again_of (rfl) (avEq_ptr _ _), again_of (rfl) (avEq_ptr _ _), again_of (rfl) (avEq_ptr _ _), trivial⟩, ?_⟩
  obtain ⟨c71, rc71, lc71, kc71, qc71⟩ := sin_src S69 (i := 0) rfl (SIn.up uG63 (SIn.up uG46 b41))
  have ⟨g72, hp⟩ := gd_inv hp
  obtain ⟨e70, qe70, se70⟩ := own_append (bytes := 8) call S69 (i := 1) rfl (x := (partS wxx_1 (x6.2.toNat + 1) xx.length)) (m := (xx.drop (x6.2.toNat + 1)).length) (xs := c71) (fun z k => qc71 z k) lc71 kc71 g72 (by omega)
  obtain ⟨L73, rL73, eL73⟩ : ∃ L, Eng.Rows (rZ .i64) G63 e53.h L ((xx.take x6.2.toNat) ++ (xx.drop (x6.2.toNat + 1))) ∧ L67 ++ c71 = L := ⟨_, (Rows.append rL67 rc71), rfl⟩
  have S75 : Sep (Frz G63 e53.h :: OwnO 1 e70.v (((xx.take x6.2.toNat) ++ (xx.drop (x6.2.toNat + 1))).length) L73 :: OwnO 1 e53.v (((hh.take x6.2.toNat) ++ (hh.drop (x6.2.toNat + 1))).length) L56 :: Cel b [(vq x6.1), whh_1, wxx_1] :: Frz G h0 :: R) e70.h := (by have z := se70; rw [eL73, show ((xx.take x6.2.toNat).length) + ((xx.drop (x6.2.toNat + 1)).length) = ((xx.take x6.2.toNat) ++ (xx.drop (x6.2.toNat + 1))).length from by simp] at z; exact z)
  refine ⟨e70, qe70, ?_⟩
  refine ⟨⟨again_of (rfl) (avEq_ptr _ _), again_of (rfl) (avEq_ptr _ _), again_of (rfl) (avEq_ptr _ _), again_of (rfl) (avEq_ptr _ _), trivial⟩, ?_⟩
  obtain ⟨e76, qe76, se76⟩ := cel_store call S75 (i := 3) (o := 1) (x := e53.v) rfl (lb rfl) (own_cell S75 (i := 2) rfl)
  refine ⟨e76, qe76, ?_⟩
  refine ⟨⟨again_of (rfl) (avEq_ptr _ _), again_of (rfl) (avEq_ptr _ _), again_of (rfl) (avEq_ptr _ _), trivial⟩, ?_⟩
  obtain ⟨e78, qe78, se78⟩ := cel_store call se76 (i := 3) (o := 2) (x := e70.v) rfl (lb rfl) (own_cell se76 (i := 1) rfl)
  refine ⟨e78, qe78, ?_⟩
  have S80 := se78.front 4 rfl
  have S81 := S80.front 1 rfl
  have S82 := S81.front 2 rfl
  have S83 := S82.front 3 rfl
  have S84 := S83.front 4 rfl
  obtain rfl := Option.some.inj hp
  exact ⟨e53.v, e70.v, L56, L73, G63, e53.h, rfl, f15, (Rows.up uG63 rL56), rL73, (Up.trans (Up.trans (Up.trans (Up.trans (Up.refl _ _) uG26) uG36) uG46) uG63), S84⟩
def C_rclose (call : CallT) : Prop := ∀ {h : Hp} {h0 : Hp} {G : Nat → Prop} {R : List AObj} {Gr : Nat → Prop} {kr : Hp} {b : Nat} {whh_1 : AV} {Lhh_3 : List AV} {wxx_1 : AV} {Lxx_3 : List AV} {last : Nat} {hh : List Nat} {xx : List Int} {k : Nat} (flast_1 : last < 18446744073709551616) (fhh_2 : Eng.Rows (rU .u64) Gr kr Lhh_3 hh) (fxx_2 : Eng.Rows (rZ .i64) Gr kr Lxx_3 xx) (fk_1 : k < 18446744073709551616) {r : Nat × List Nat × List Int × Int × Nat}, rclose_p last hh xx k = some r → Eng.Sep (Cel b [(vq last), whh_1, wxx_1] :: OwnO 1 whh_1 hh.length Lhh_3 :: OwnO 1 wxx_1 xx.length Lxx_3 :: Frz Gr kr :: Frz G h0 :: R) h → ∃ rv rh, call 30 [(AV.ptr b 0), (vq k)] h = .ok rv rh ∧ ∃ wk2 : AV, ∃ wk5 : AV, ∃ Lk4 : List AV, ∃ Lk7 : List AV, ∃ Gk : Nat → Prop, ∃ kk : Hp, rv = (AV.tuple [(AV.int .i64 r.2.2.2.1), (vi r.2.2.2.2)]) ∧ (r.1 < 18446744073709551616) ∧ (Eng.Rows (rU .u64) Gk kk Lk4 r.2.1) ∧ (Eng.Rows (rZ .i64) Gk kk Lk7 r.2.2.1) ∧ (Up Gr kr Gk kk) ∧ Eng.Sep (Cel b ((vq r.1) :: wk2 :: wk5 :: []) :: OwnO 1 wk2 r.2.1.length Lk4 :: OwnO 1 wk5 r.2.2.1.length Lk7 :: Frz Gk kk :: Frz G h0 :: R) rh
theorem s_rclose (d : Nat) : C_rclose (CC (d + 2)) := by
  intro h h0 G R Gr kr b whh_1 Lhh_3 wxx_1 Lxx_3 last hh xx k flast_1 fhh_2 fxx_2 fk_1 r hp S
  rw [CC, evF_at (show orM (sumT [21]) sumKC 30 = none from rfl)]
  exact rclose_w (call := CC (d + 1)) (N := 100000) flast_1 fhh_2 fxx_2 fk_1 (s_rfind (d + 0)) hp S
end Go.Proofs.Ytpelnanckmjoaaa
end
