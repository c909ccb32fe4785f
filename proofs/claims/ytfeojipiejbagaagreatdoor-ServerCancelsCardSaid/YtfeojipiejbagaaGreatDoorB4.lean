import Derived.Test.YtfeojipiejbagaaGreatDoorB3
import GoSem.ClaimGoes
section
set_option linter.unusedVariables false
set_option linter.unusedSimpArgs false
namespace Go.Proofs.YtfeojipiejbagaaGreatDoor
open Go Go.RowKit Eng
noncomputable def srcs7 : List Nat := [702]
noncomputable def lits7 : List (List AV) := [[.int .u8 (Int.ofNat 0), .int .u8 (Int.ofNat 97), .int .u8 (Int.ofNat 115), .int .u8 (Int.ofNat 109), .int .u8 (Int.ofNat 1), .int .u8 (Int.ofNat 0), .int .u8 (Int.ofNat 0), .int .u8 (Int.ofNat 0), .int .u8 (Int.ofNat 1), .int .u8 (Int.ofNat 18), .int .u8 (Int.ofNat 4), .int .u8 (Int.ofNat 96), .int .u8 (Int.ofNat 0), .int .u8 (Int.ofNat 0), .int .u8 (Int.ofNat 96), .int .u8 (Int.ofNat 1), .int .u8 (Int.ofNat 127), .int .u8 (Int.ofNat 1), .int .u8 (Int.ofNat 127), .int .u8 (Int.ofNat 96), .int .u8 (Int.ofNat 0), .int .u8 (Int.ofNat 1), .int .u8 (Int.ofNat 127), .int .u8 (Int.ofNat 96), .int .u8 (Int.ofNat 2), .int .u8 (Int.ofNat 127), .int .u8 (Int.ofNat 127), .int .u8 (Int.ofNat 0), .int .u8 (Int.ofNat 3), .int .u8 (Int.ofNat 9), .int .u8 (Int.ofNat 8), .int .u8 (Int.ofNat 1), .int .u8 (Int.ofNat 2), .int .u8 (Int.ofNat 0), .int .u8 (Int.ofNat 0), .int .u8 (Int.ofNat 3), .int .u8 (Int.ofNat 1), .int .u8 (Int.ofNat 1), .int .u8 (Int.ofNat 0), .int .u8 (Int.ofNat 5), .int .u8 (Int.ofNat 3), .int .u8 (Int.ofNat 1), .int .u8 (Int.ofNat 0), .int .u8 (Int.ofNat 1), .int .u8 (Int.ofNat 6), .int .u8 (Int.ofNat 6), .int .u8 (Int.ofNat 1), .int .u8 (Int.ofNat 127), .int .u8 (Int.ofNat 1), .int .u8 (Int.ofNat 65), .int .u8 (Int.ofNat 0), .int .u8 (Int.ofNat 11), .int .u8 (Int.ofNat 7), .int .u8 (Int.ofNat 54), .int .u8 (Int.ofNat 8), .int .u8 (Int.ofNat 3), .int .u8 (Int.ofNat 105), .int .u8 (Int.ofNat 110), .int .u8 (Int.ofNat 99), .int .u8 (Int.ofNat 0), .int .u8 (Int.ofNat 0), .int .u8 (Int.ofNat 3), .int .u8 (Int.ofNat 103), .int .u8 (Int.ofNat 101), .int .u8 (Int.ofNat 116), .int .u8 (Int.ofNat 0), .int .u8 (Int.ofNat 1), .int .u8 (Int.ofNat 4), .int .u8 (Int.ofNat 115), .int .u8 (Int.ofNat 112), .int .u8 (Int.ofNat 105), .int .u8 (Int.ofNat 110), .int .u8 (Int.ofNat 0), .int .u8 (Int.ofNat 2), .int .u8 (Int.ofNat 4), .int .u8 (Int.ofNat 116), .int .u8 (Int.ofNat 114), .int .u8 (Int.ofNat 97), .int .u8 (Int.ofNat 112), .int .u8 (Int.ofNat 0), .int .u8 (Int.ofNat 3), .int .u8 (Int.ofNat 3), .int .u8 (Int.ofNat 112), .int .u8 (Int.ofNat 117), .int .u8 (Int.ofNat 116), .int .u8 (Int.ofNat 0), .int .u8 (Int.ofNat 4), .int .u8 (Int.ofNat 4), .int .u8 (Int.ofNat 112), .int .u8 (Int.ofNat 101), .int .u8 (Int.ofNat 101), .int .u8 (Int.ofNat 107), .int .u8 (Int.ofNat 0), .int .u8 (Int.ofNat 5), .int .u8 (Int.ofNat 4), .int .u8 (Int.ofNat 119), .int .u8 (Int.ofNat 111), .int .u8 (Int.ofNat 114), .int .u8 (Int.ofNat 107), .int .u8 (Int.ofNat 0), .int .u8 (Int.ofNat 6), .int .u8 (Int.ofNat 4), .int .u8 (Int.ofNat 100), .int .u8 (Int.ofNat 101), .int .u8 (Int.ofNat 101), .int .u8 (Int.ofNat 112), .int .u8 (Int.ofNat 0), .int .u8 (Int.ofNat 7), .int .u8 (Int.ofNat 10), .int .u8 (Int.ofNat 102), .int .u8 (Int.ofNat 8), .int .u8 (Int.ofNat 11), .int .u8 (Int.ofNat 0), .int .u8 (Int.ofNat 35), .int .u8 (Int.ofNat 0), .int .u8 (Int.ofNat 32), .int .u8 (Int.ofNat 0), .int .u8 (Int.ofNat 106), .int .u8 (Int.ofNat 36), .int .u8 (Int.ofNat 0), .int .u8 (Int.ofNat 35), .int .u8 (Int.ofNat 0), .int .u8 (Int.ofNat 11), .int .u8 (Int.ofNat 4), .int .u8 (Int.ofNat 0), .int .u8 (Int.ofNat 35), .int .u8 (Int.ofNat 0), .int .u8 (Int.ofNat 11), .int .u8 (Int.ofNat 12), .int .u8 (Int.ofNat 0), .int .u8 (Int.ofNat 65), .int .u8 (Int.ofNat 227), .int .u8 (Int.ofNat 0), .int .u8 (Int.ofNat 36), .int .u8 (Int.ofNat 0), .int .u8 (Int.ofNat 3), .int .u8 (Int.ofNat 64), .int .u8 (Int.ofNat 12), .int .u8 (Int.ofNat 0), .int .u8 (Int.ofNat 11), .int .u8 (Int.ofNat 11), .int .u8 (Int.ofNat 11), .int .u8 (Int.ofNat 0), .int .u8 (Int.ofNat 35), .int .u8 (Int.ofNat 0), .int .u8 (Int.ofNat 65), .int .u8 (Int.ofNat 232), .int .u8 (Int.ofNat 7), .int .u8 (Int.ofNat 106), .int .u8 (Int.ofNat 36), .int .u8 (Int.ofNat 0), .int .u8 (Int.ofNat 0), .int .u8 (Int.ofNat 11), .int .u8 (Int.ofNat 9), .int .u8 (Int.ofNat 0), .int .u8 (Int.ofNat 32), .int .u8 (Int.ofNat 0), .int .u8 (Int.ofNat 32), .int .u8 (Int.ofNat 1), .int .u8 (Int.ofNat 58), .int .u8 (Int.ofNat 0), .int .u8 (Int.ofNat 0), .int .u8 (Int.ofNat 11), .int .u8 (Int.ofNat 7), .int .u8 (Int.ofNat 0), .int .u8 (Int.ofNat 32), .int .u8 (Int.ofNat 0), .int .u8 (Int.ofNat 45), .int .u8 (Int.ofNat 0), .int .u8 (Int.ofNat 0), .int .u8 (Int.ofNat 11), .int .u8 (Int.ofNat 31), .int .u8 (Int.ofNat 0), .int .u8 (Int.ofNat 2), .int .u8 (Int.ofNat 64), .int .u8 (Int.ofNat 3), .int .u8 (Int.ofNat 64), .int .u8 (Int.ofNat 32), .int .u8 (Int.ofNat 0), .int .u8 (Int.ofNat 69), .int .u8 (Int.ofNat 13), .int .u8 (Int.ofNat 1), .int .u8 (Int.ofNat 32), .int .u8 (Int.ofNat 0), .int .u8 (Int.ofNat 65), .int .u8 (Int.ofNat 1), .int .u8 (Int.ofNat 107), .int .u8 (Int.ofNat 33), .int .u8 (Int.ofNat 0), .int .u8 (Int.ofNat 35), .int .u8 (Int.ofNat 0), .int .u8 (Int.ofNat 65), .int .u8 (Int.ofNat 1), .int .u8 (Int.ofNat 106), .int .u8 (Int.ofNat 36), .int .u8 (Int.ofNat 0), .int .u8 (Int.ofNat 12), .int .u8 (Int.ofNat 0), .int .u8 (Int.ofNat 11), .int .u8 (Int.ofNat 11), .int .u8 (Int.ofNat 35), .int .u8 (Int.ofNat 0), .int .u8 (Int.ofNat 11), .int .u8 (Int.ofNat 8), .int .u8 (Int.ofNat 0), .int .u8 (Int.ofNat 65), .int .u8 (Int.ofNat 5), .int .u8 (Int.ofNat 36), .int .u8 (Int.ofNat 0), .int .u8 (Int.ofNat 16), .int .u8 (Int.ofNat 7), .int .u8 (Int.ofNat 11)]]
noncomputable def ows7 : List Own := [.pair 701]
noncomputable def val7 : AV := .slice 0 0 212 212 1 false
theorem chk7 : memoChk srcs7 lits7 ows7 val7 = true := by kernel_rfl
theorem key7 : (evF noM (progS Tryz.prog (compDrawn Tryz.prog)) 100000 9 7 [] H0).cs none (fun v h => some (v, lmap (hget h) srcs7)) = some (renT (loc srcs7) val7, mkB (loc srcs7) lits7 ows7) := by kernel_rfl
noncomputable def srcs158 : List Nat := [74, 92, 100, 113, 163, 382, 51, 53, 61, 71, 111, 189, 203, 231, 257, 277, 294, 360, 380]
noncomputable def lits158 : List (List AV) := [[.nilSlice, .nilSlice, .slice 6 0 1 1 1 false, .slice 7 0 1 1 1 false, .nilSlice, .slice 8 0 1 1 1 false, .slice 9 0 2 2 1 false, .nilSlice], [.int .u32 (Int.ofNat 1), .int .u32 (Int.ofNat 2), .int .u32 (Int.ofNat 0), .int .u32 (Int.ofNat 0), .int .u32 (Int.ofNat 3), .int .u32 (Int.ofNat 1), .int .u32 (Int.ofNat 1), .int .u32 (Int.ofNat 0)], [.int .u32 (Int.ofNat 1), .int .u32 (Int.ofNat 0), .bool false], [.int .u8 (Int.ofNat 127), .bool true, .slice 10 0 2 2 6 false], [.str [105, 110, 99], .int .u8 (Int.ofNat 0), .int .u32 (Int.ofNat 0), .str [103, 101, 116], .int .u8 (Int.ofNat 0), .int .u32 (Int.ofNat 1), .str [115, 112, 105, 110], .int .u8 (Int.ofNat 0), .int .u32 (Int.ofNat 2), .str [116, 114, 97, 112], .int .u8 (Int.ofNat 0), .int .u32 (Int.ofNat 3), .str [112, 117, 116], .int .u8 (Int.ofNat 0), .int .u32 (Int.ofNat 4), .str [112, 101, 101, 107], .int .u8 (Int.ofNat 0), .int .u32 (Int.ofNat 5), .str [119, 111, 114, 107], .int .u8 (Int.ofNat 0), .int .u32 (Int.ofNat 6), .str [100, 101, 101, 112], .int .u8 (Int.ofNat 0), .int .u32 (Int.ofNat 7)], [.nilSlice, .slice 11 0 6 6 6 false, .nilSlice, .slice 12 0 2 2 6 false, .nilSlice, .slice 13 0 6 6 6 false, .nilSlice, .slice 14 0 6 6 6 false, .nilSlice, .slice 15 0 4 4 6 false, .nilSlice, .slice 16 0 3 3 6 false, .nilSlice, .slice 17 0 18 18 6 false, .nilSlice, .slice 18 0 4 4 6 false], [.int .u8 (Int.ofNat 127)], [.int .u8 (Int.ofNat 127)], [.int .u8 (Int.ofNat 127)], [.int .u8 (Int.ofNat 127), .int .u8 (Int.ofNat 127)], [.int .i64 (Int.ofNat 65), .int .u32 (Int.ofNat 0), .int .u32 (Int.ofNat 0), .int .u64 (Int.ofNat 0), .nilSlice, .int .i64 (Int.ofNat 0), .int .i64 (Int.ofNat 11), .int .u32 (Int.ofNat 0), .int .u32 (Int.ofNat 0), .int .u64 (Int.ofNat 0), .nilSlice, .int .i64 (Int.ofNat 0)], [.int .i64 (Int.ofNat 35), .int .u32 (Int.ofNat 0), .int .u32 (Int.ofNat 0), .int .u64 (Int.ofNat 0), .nilSlice, .int .i64 (Int.ofNat 0), .int .i64 (Int.ofNat 32), .int .u32 (Int.ofNat 0), .int .u32 (Int.ofNat 0), .int .u64 (Int.ofNat 0), .nilSlice, .int .i64 (Int.ofNat 0), .int .i64 (Int.ofNat 106), .int .u32 (Int.ofNat 0), .int .u32 (Int.ofNat 0), .int .u64 (Int.ofNat 0), .nilSlice, .int .i64 (Int.ofNat 0), .int .i64 (Int.ofNat 36), .int .u32 (Int.ofNat 0), .int .u32 (Int.ofNat 0), .int .u64 (Int.ofNat 0), .nilSlice, .int .i64 (Int.ofNat 0), .int .i64 (Int.ofNat 35), .int .u32 (Int.ofNat 0), .int .u32 (Int.ofNat 0), .int .u64 (Int.ofNat 0), .nilSlice, .int .i64 (Int.ofNat 0), .int .i64 (Int.ofNat 11), .int .u32 (Int.ofNat 0), .int .u32 (Int.ofNat 0), .int .u64 (Int.ofNat 0), .nilSlice, .int .i64 (Int.ofNat 0)], [.int .i64 (Int.ofNat 35), .int .u32 (Int.ofNat 0), .int .u32 (Int.ofNat 0), .int .u64 (Int.ofNat 0), .nilSlice, .int .i64 (Int.ofNat 0), .int .i64 (Int.ofNat 11), .int .u32 (Int.ofNat 0), .int .u32 (Int.ofNat 0), .int .u64 (Int.ofNat 0), .nilSlice, .int .i64 (Int.ofNat 0)], [.int .i64 (Int.ofNat 65), .int .u32 (Int.ofNat 0), .int .u32 (Int.ofNat 0), .int .u64 (Int.ofNat 99), .nilSlice, .int .i64 (Int.ofNat 0), .int .i64 (Int.ofNat 36), .int .u32 (Int.ofNat 0), .int .u32 (Int.ofNat 0), .int .u64 (Int.ofNat 0), .nilSlice, .int .i64 (Int.ofNat 0), .int .i64 (Int.ofNat 3), .int .u32 (Int.ofNat 0), .int .u32 (Int.ofNat 0), .int .u64 (Int.ofNat 0), .nilSlice, .int .i64 (Int.negSucc 63), .int .i64 (Int.ofNat 12), .int .u32 (Int.ofNat 0), .int .u32 (Int.ofNat 0), .int .u64 (Int.ofNat 0), .nilSlice, .int .i64 (Int.ofNat 0), .int .i64 (Int.ofNat 11), .int .u32 (Int.ofNat 0), .int .u32 (Int.ofNat 0), .int .u64 (Int.ofNat 0), .nilSlice, .int .i64 (Int.ofNat 0), .int .i64 (Int.ofNat 11), .int .u32 (Int.ofNat 0), .int .u32 (Int.ofNat 0), .int .u64 (Int.ofNat 0), .nilSlice, .int .i64 (Int.ofNat 0)], [.int .i64 (Int.ofNat 35), .int .u32 (Int.ofNat 0), .int .u32 (Int.ofNat 0), .int .u64 (Int.ofNat 0), .nilSlice, .int .i64 (Int.ofNat 0), .int .i64 (Int.ofNat 65), .int .u32 (Int.ofNat 0), .int .u32 (Int.ofNat 0), .int .u64 (Int.ofNat 1000), .nilSlice, .int .i64 (Int.ofNat 0), .int .i64 (Int.ofNat 106), .int .u32 (Int.ofNat 0), .int .u32 (Int.ofNat 0), .int .u64 (Int.ofNat 0), .nilSlice, .int .i64 (Int.ofNat 0), .int .i64 (Int.ofNat 36), .int .u32 (Int.ofNat 0), .int .u32 (Int.ofNat 0), .int .u64 (Int.ofNat 0), .nilSlice, .int .i64 (Int.ofNat 0), .int .i64 (Int.ofNat 0), .int .u32 (Int.ofNat 0), .int .u32 (Int.ofNat 0), .int .u64 (Int.ofNat 0), .nilSlice, .int .i64 (Int.ofNat 0), .int .i64 (Int.ofNat 11), .int .u32 (Int.ofNat 0), .int .u32 (Int.ofNat 0), .int .u64 (Int.ofNat 0), .nilSlice, .int .i64 (Int.ofNat 0)], [.int .i64 (Int.ofNat 32), .int .u32 (Int.ofNat 0), .int .u32 (Int.ofNat 0), .int .u64 (Int.ofNat 0), .nilSlice, .int .i64 (Int.ofNat 0), .int .i64 (Int.ofNat 32), .int .u32 (Int.ofNat 1), .int .u32 (Int.ofNat 0), .int .u64 (Int.ofNat 0), .nilSlice, .int .i64 (Int.ofNat 0), .int .i64 (Int.ofNat 58), .int .u32 (Int.ofNat 0), .int .u32 (Int.ofNat 0), .int .u64 (Int.ofNat 0), .nilSlice, .int .i64 (Int.ofNat 0), .int .i64 (Int.ofNat 11), .int .u32 (Int.ofNat 0), .int .u32 (Int.ofNat 0), .int .u64 (Int.ofNat 0), .nilSlice, .int .i64 (Int.ofNat 0)], [.int .i64 (Int.ofNat 32), .int .u32 (Int.ofNat 0), .int .u32 (Int.ofNat 0), .int .u64 (Int.ofNat 0), .nilSlice, .int .i64 (Int.ofNat 0), .int .i64 (Int.ofNat 45), .int .u32 (Int.ofNat 0), .int .u32 (Int.ofNat 0), .int .u64 (Int.ofNat 0), .nilSlice, .int .i64 (Int.ofNat 0), .int .i64 (Int.ofNat 11), .int .u32 (Int.ofNat 0), .int .u32 (Int.ofNat 0), .int .u64 (Int.ofNat 0), .nilSlice, .int .i64 (Int.ofNat 0)], [.int .i64 (Int.ofNat 2), .int .u32 (Int.ofNat 0), .int .u32 (Int.ofNat 0), .int .u64 (Int.ofNat 0), .nilSlice, .int .i64 (Int.negSucc 63), .int .i64 (Int.ofNat 3), .int .u32 (Int.ofNat 0), .int .u32 (Int.ofNat 0), .int .u64 (Int.ofNat 0), .nilSlice, .int .i64 (Int.negSucc 63), .int .i64 (Int.ofNat 32), .int .u32 (Int.ofNat 0), .int .u32 (Int.ofNat 0), .int .u64 (Int.ofNat 0), .nilSlice, .int .i64 (Int.ofNat 0), .int .i64 (Int.ofNat 69), .int .u32 (Int.ofNat 0), .int .u32 (Int.ofNat 0), .int .u64 (Int.ofNat 0), .nilSlice, .int .i64 (Int.ofNat 0), .int .i64 (Int.ofNat 13), .int .u32 (Int.ofNat 1), .int .u32 (Int.ofNat 0), .int .u64 (Int.ofNat 0), .nilSlice, .int .i64 (Int.ofNat 0), .int .i64 (Int.ofNat 32), .int .u32 (Int.ofNat 0), .int .u32 (Int.ofNat 0), .int .u64 (Int.ofNat 0), .nilSlice, .int .i64 (Int.ofNat 0), .int .i64 (Int.ofNat 65), .int .u32 (Int.ofNat 0), .int .u32 (Int.ofNat 0), .int .u64 (Int.ofNat 1), .nilSlice, .int .i64 (Int.ofNat 0), .int .i64 (Int.ofNat 107), .int .u32 (Int.ofNat 0), .int .u32 (Int.ofNat 0), .int .u64 (Int.ofNat 0), .nilSlice, .int .i64 (Int.ofNat 0), .int .i64 (Int.ofNat 33), .int .u32 (Int.ofNat 0), .int .u32 (Int.ofNat 0), .int .u64 (Int.ofNat 0), .nilSlice, .int .i64 (Int.ofNat 0), .int .i64 (Int.ofNat 35), .int .u32 (Int.ofNat 0), .int .u32 (Int.ofNat 0), .int .u64 (Int.ofNat 0), .nilSlice, .int .i64 (Int.ofNat 0), .int .i64 (Int.ofNat 65), .int .u32 (Int.ofNat 0), .int .u32 (Int.ofNat 0), .int .u64 (Int.ofNat 1), .nilSlice, .int .i64 (Int.ofNat 0), .int .i64 (Int.ofNat 106), .int .u32 (Int.ofNat 0), .int .u32 (Int.ofNat 0), .int .u64 (Int.ofNat 0), .nilSlice, .int .i64 (Int.ofNat 0), .int .i64 (Int.ofNat 36), .int .u32 (Int.ofNat 0), .int .u32 (Int.ofNat 0), .int .u64 (Int.ofNat 0), .nilSlice, .int .i64 (Int.ofNat 0), .int .i64 (Int.ofNat 12), .int .u32 (Int.ofNat 0), .int .u32 (Int.ofNat 0), .int .u64 (Int.ofNat 0), .nilSlice, .int .i64 (Int.ofNat 0), .int .i64 (Int.ofNat 11), .int .u32 (Int.ofNat 0), .int .u32 (Int.ofNat 0), .int .u64 (Int.ofNat 0), .nilSlice, .int .i64 (Int.ofNat 0), .int .i64 (Int.ofNat 11), .int .u32 (Int.ofNat 0), .int .u32 (Int.ofNat 0), .int .u64 (Int.ofNat 0), .nilSlice, .int .i64 (Int.ofNat 0), .int .i64 (Int.ofNat 35), .int .u32 (Int.ofNat 0), .int .u32 (Int.ofNat 0), .int .u64 (Int.ofNat 0), .nilSlice, .int .i64 (Int.ofNat 0), .int .i64 (Int.ofNat 11), .int .u32 (Int.ofNat 0), .int .u32 (Int.ofNat 0), .int .u64 (Int.ofNat 0), .nilSlice, .int .i64 (Int.ofNat 0)], [.int .i64 (Int.ofNat 65), .int .u32 (Int.ofNat 0), .int .u32 (Int.ofNat 0), .int .u64 (Int.ofNat 5), .nilSlice, .int .i64 (Int.ofNat 0), .int .i64 (Int.ofNat 36), .int .u32 (Int.ofNat 0), .int .u32 (Int.ofNat 0), .int .u64 (Int.ofNat 0), .nilSlice, .int .i64 (Int.ofNat 0), .int .i64 (Int.ofNat 16), .int .u32 (Int.ofNat 7), .int .u32 (Int.ofNat 0), .int .u64 (Int.ofNat 0), .nilSlice, .int .i64 (Int.ofNat 0), .int .i64 (Int.ofNat 11), .int .u32 (Int.ofNat 0), .int .u32 (Int.ofNat 0), .int .u64 (Int.ofNat 0), .nilSlice, .int .i64 (Int.ofNat 0)]]
noncomputable def ows158 : List Own := [.pair 64, .pair 90, .solo, .solo, .pair 157, .pair 362, .solo, .solo, .solo, .pair 69, .pair 108, .pair 186, .pair 200, .pair 228, .pair 254, .pair 274, .pair 291, .pair 357, .pair 377]
noncomputable def val158 : AV := .tuple [.agg [.slice 0 0 4 4 2 false, .slice 1 0 8 8 1 false, .nilSlice, .slice 2 0 1 1 3 false, .slice 3 0 1 1 3 false, .slice 4 0 8 8 3 false, .bool false, .int .u32 (Int.ofNat 0), .nilSlice, .bool false, .int .u32 (Int.ofNat 0), .slice 5 0 8 8 2 false, .nilSlice], .int .i64 (Int.ofNat 0)]
theorem chk158 : memoChk srcs158 lits158 ows158 val158 = true := by kernel_rfl
noncomputable def text158 : List Nat := [0, 97, 115, 109, 1, 0, 0, 0, 1, 18, 4, 96, 0, 0, 96, 1, 127, 1, 127, 96, 0, 1, 127, 96, 2, 127, 127, 0, 3, 9, 8, 1, 2, 0, 0, 3, 1, 1, 0, 5, 3, 1, 0, 1, 6, 6, 1, 127, 1, 65, 0, 11, 7, 54, 8, 3, 105, 110, 99, 0, 0, 3, 103, 101, 116, 0, 1, 4, 115, 112, 105, 110, 0, 2, 4, 116, 114, 97, 112, 0, 3, 3, 112, 117, 116, 0, 4, 4, 112, 101, 101, 107, 0, 5, 4, 119, 111, 114, 107, 0, 6, 4, 100, 101, 101, 112, 0, 7, 10, 102, 8, 11, 0, 35, 0, 32, 0, 106, 36, 0, 35, 0, 11, 4, 0, 35, 0, 11, 12, 0, 65, 227, 0, 36, 0, 3, 64, 12, 0, 11, 11, 11, 0, 35, 0, 65, 232, 7, 106, 36, 0, 0, 11, 9, 0, 32, 0, 32, 1, 58, 0, 0, 11, 7, 0, 32, 0, 45, 0, 0, 11, 31, 0, 2, 64, 3, 64, 32, 0, 69, 13, 1, 32, 0, 65, 1, 107, 33, 0, 35, 0, 65, 1, 106, 36, 0, 12, 0, 11, 11, 35, 0, 11, 8, 0, 65, 5, 36, 0, 16, 7, 11]
theorem key158 : (evF noM (progS Tryz.prog (compDrawn Tryz.prog)) 100000 14 158 [.slice 0 0 (len text158) (len text158) 1 false] (hB text158)).cs none (fun v h => some (v, lmap (hget h) srcs158)) = some (renT (loc srcs158) val158, mkB (loc srcs158) lits158 ows158) := by kernel_rfl
noncomputable def memoS (f : Nat) : Option (List AV → Hp → RV) := (bc (Nat.beq f 7) (some (memo0 val7 lits7)) (bc (Nat.beq f 158) (some (memo1 text158 val158 lits158)) none))
theorem memoS_ok : Eng.Good Tryz.prog fun f args h => ocase .no (fun m => m args h) (memoS f) := fun f args h v h' μ w cargs e hs r => by
  replace e : ocase RV.no (fun m => m args h) (bc (Nat.beq f 7) (some (memo0 val7 lits7)) (bc (Nat.beq f 158) (some (memo1 text158 val158 lits158)) none)) = .ok v h' := e
  cases hf0 : Nat.beq f 7 with
  | true =>
    obtain rfl : f = 7 := Nat.eq_of_beq_eq_true hf0
    rw [hf0] at e
    replace e : (memo0 val7 lits7) args h = .ok v h' := e
    exact memo0_ok compDrawn_ok noM_ok key7 chk7 e hs r
  | false =>
    rw [hf0, bc_false] at e
    cases hf1 : Nat.beq f 158 with
    | true =>
      obtain rfl : f = 158 := Nat.eq_of_beq_eq_true hf1
      rw [hf1] at e
      replace e : (memo1 text158 val158 lits158) args h = .ok v h' := e
      exact memo1_ok (by unfold text158; nofun) compDrawn_ok noM_ok key158 chk158 e hs r
    | false =>
      rw [hf1, bc_false] at e
      cases e
noncomputable abbrev memK : Nat → Option (List AV → Hp → RV) := orM memoS sumK
theorem memK_ok : Eng.Good Tryz.prog fun f args h => ocase .no (fun m => m args h) (memK f) := orM_ok memoS_ok sumK_ok
end Go.Proofs.YtfeojipiejbagaaGreatDoor
end
section
set_option linter.unusedVariables false
namespace Eng
open Go Go.RowKit
def qm (d s : Nat) : AO := ⟨some d, .q (.move (.tmp s)), none⟩
def qo (d : Nat) (o : QOp) : AO := ⟨some d, .q o, none⟩
def lo (d : Nat) (o : LOp) : AO := ⟨some d, .l o, none⟩
def eo (d : Nat) (o : EOp) : AO := ⟨some d, .e o, none⟩
def en (o : EOp) : AO := ⟨none, .e o, none⟩
def tq (n : Nat) : AX := .tmp n
noncomputable def tabT (es : List (Nat × AF)) : Tr AF := lrec .lf (fun e _ ih => tset (pathOf e.1) e.2 ih) es
theorem tabT_mem : ∀ (es : List (Nat × AF)) (f : Nat) (af : AF), tget (pathOf f) (tabT es) = some af → (f, af) ∈ es
  | [], f, af, h => by
    have h : tget (pathOf f) (.lf : Tr AF) = some af := h
    rw [tget_lf] at h; cases h
  | e :: es, f, af, h => by
    have h : tget (pathOf f) (tset (pathOf e.1) e.2 (tabT es)) = some af := h
    by_cases q : f = e.1
    · subst q
      rw [tget_tset] at h
      cases h
      exact List.mem_cons_self
    · rw [tget_tset_ne _ _ _ _ (fun q' => q (pathOf_inj q'))] at h
      exact List.mem_cons_of_mem _ (tabT_mem es f af h)
noncomputable def tabS (P : Program) (D : Nat → Array Oper → AC) (t : Tr AF) (f : Nat) : Option AF := ocase (progS P D f) some (tget (pathOf f) t)
theorem tabS_eq {P : Program} {D : Nat → Array Oper → AC} {es : List (Nat × AF)} (h : ∀ e ∈ es, progS P D e.1 = some e.2) : tabS P D (tabT es) = progS P D := by
  funext f
  unfold tabS
  cases q : tget (pathOf f) (tabT es) with
  | none => rfl
  | some af => exact (h _ (tabT_mem es f af q)).symm
end Eng
end
section
set_option linter.unusedVariables false
namespace Eng
open Go
noncomputable def chkQ (o : Nat → QOp) (f : Nat → AV) (c : Nat → Bool) (N : Nat) : Bool :=
  Nat.rec (motive := fun _ => Bool) true (fun m ih => bc (bc (c m) ((evQ (o m) .lf H0).cs false fun v => avEq v (f m)) true) ih false) N
theorem t0 {o : QOp} {v : AV} (h : ((evQ o .lf H0).cs false fun u => avEq u v) = true) : evQ o .lf H0 = .ok v := by
  cases e : evQ o .lf H0 with
  | no => rw [e] at h; cases h
  | ok u => rw [e] at h; rw [avEq_eq u v h]
theorem t1 {o : Nat → QOp} {f : Nat → AV} {c : Nat → Bool} {N : Nat} (h : chkQ o f c N = true) {a : Nat} (ha : a < N) (hc : c a = true) : evQ (o a) .lf H0 = .ok (f a) := by
  induction N with
  | zero => omega
  | succ m ih =>
    have h : bc (bc (c m) ((evQ (o m) .lf H0).cs false fun v => avEq v (f m)) true) (chkQ o f c m) false = true := h
    obtain ⟨h1, h2⟩ := bc_and.1 h
    by_cases e : a = m
    · subst e
      rw [hc] at h1
      exact t0 h1
    · exact ih h2 (by omega)
noncomputable def chkQ2 (o : Nat → Nat → QOp) (f : Nat → Nat → AV) (c d : Nat → Bool) (M N : Nat) : Bool :=
  Nat.rec (motive := fun _ => Bool) true (fun m ih => bc (bc (c m) (chkQ (o m) (f m) d M) true) ih false) N
theorem t2 {o : Nat → Nat → QOp} {f : Nat → Nat → AV} {c d : Nat → Bool} {M N : Nat} (h : chkQ2 o f c d M N = true) {a b : Nat} (ha : a < N) (hb : b < M) (hc : c a = true) (hd : d b = true) : evQ (o a b) .lf H0 = .ok (f a b) := by
  induction N with
  | zero => omega
  | succ m ih =>
    have h : bc (bc (c m) (chkQ (o m) (f m) d M) true) (chkQ2 o f c d M m) false = true := h
    obtain ⟨h1, h2⟩ := bc_and.1 h
    by_cases e : a = m
    · subst e
      rw [hc] at h1
      exact t1 h1 hb hd
    · exact ih h2 (by omega)
end Eng
end
section
set_option linter.unusedVariables false
namespace Eng
open Go
inductive AE where
  | i (n : Int)
  | s (l : List Nat)
  | j (n k : Int)
inductive PT where
  | leaf
  | tell (c w : Nat) (o : QOp) (v : AV) (r : PT)
  | fork (c w : Nat) (raw : Bool) (a b : PT)
  | agn (c w : Nat) (l : List AE) (r : PT)
noncomputable section
def AE.eqp (x : AE) : Prop := AE.rec (motive := fun _ => Prop) (fun n => n = n) (fun l => l = l) (fun n k => n = k) x
def AE.chk (x : AE) : Bool := AE.rec (motive := fun _ => Bool) (fun _ => true) (fun _ => true) (fun n k => eqI n k) x
theorem AE.ok {x : AE} (h : x.chk = true) : x.eqp := by
  cases x with
  | i n => rfl
  | s l => rfl
  | j n k => have h : eqI n k = true := h; rw [eqI_eq] at h; have h2 : n = k := of_decide_eq_true h; exact h2
def PT.orc (t : PT) : Orc := PT.rec (motive := fun _ => Orc) .fin (fun c _ _ v _ r => .tell c v r) (fun c _ _ _ _ a b => .fork c a b) (fun c _ _ _ r => .agn c r) t
def PT.prop (t : PT) : Prop := PT.rec (motive := fun _ => Prop) (AV.bool true = .bool true) (fun _ _ o v _ r => evQ o .lf H0 = .ok v ∧ r) (fun _ _ raw _ _ a b => (raw = true → a) ∧ (raw = false → b)) (fun _ _ l _ r => lrec r (fun x _ ih => x.eqp ∧ ih) l) t
def selW (p w : Nat) : Bool := bc (Nat.beq p 3) (bc (Nat.beq w 1) false (bc (Nat.beq w 2) false true)) (Nat.beq p w)
def PT.chk (p : Nat) (t : PT) : Bool := PT.rec (motive := fun _ => Bool) true (fun _ w o v _ r => bc (selW p w) (bc ((evQ o .lf H0).cs false fun u => avEq u v) r false) r)
  (fun _ w raw _ _ a b => bc (bc (Nat.beq p 3) true (Nat.beq p w)) (bc raw a b) (bc a b false)) (fun _ w l _ r => bc (selW p w) (bc (lall AE.chk l) r false) r) t
def PT.both (t : PT) : PT := PT.rec (motive := fun _ => PT) .leaf (fun c w o v _ r => bc (selW 3 w) (.tell c w o v r) r) (fun c w raw _ _ a b => .fork c w raw a b) (fun c w l _ r => bc (selW 3 w) (.agn c w l r) r) t
theorem PT.both_chk : ∀ t : PT, t.both.chk 3 = t.chk 3
  | .leaf => rfl
  | .tell c w o v r => by
    have ih := PT.both_chk r
    show PT.chk 3 (bc (selW 3 w) (.tell c w o v r.both) r.both) = bc (selW 3 w) (bc ((evQ o .lf H0).cs false fun u => avEq u v) (r.chk 3) false) (r.chk 3)
    cases h : selW 3 w with
    | true =>
      show bc (selW 3 w) (bc ((evQ o .lf H0).cs false fun u => avEq u v) (r.both.chk 3) false) (r.both.chk 3) = _
      rw [h, ih]
    | false => exact ih
  | .fork c w raw a b => by
    show bc raw (a.both.chk 3) (b.both.chk 3) = bc raw (a.chk 3) (b.chk 3)
    rw [PT.both_chk a, PT.both_chk b]
  | .agn c w l r => by
    have ih := PT.both_chk r
    show PT.chk 3 (bc (selW 3 w) (.agn c w l r.both) r.both) = bc (selW 3 w) (bc (lall AE.chk l) (r.chk 3) false) (r.chk 3)
    cases h : selW 3 w with
    | true =>
      show bc (selW 3 w) (bc (lall AE.chk l) (r.both.chk 3) false) (r.both.chk 3) = _
      rw [h, ih]
    | false => exact ih
theorem selW_all (w : Nat) : selW 1 w = true ∨ selW 2 w = true ∨ selW 3 w = true := by
  by_cases h1 : w = 1
  · subst h1; exact .inl rfl
  · by_cases h2 : w = 2
    · subst h2; exact .inr (.inl rfl)
    · refine .inr (.inr ?_)
      show bc (Nat.beq w 1) false (bc (Nat.beq w 2) false true) = true
      rw [beqF h1, beqF h2]; rfl
theorem PT.ok : ∀ (t : PT), t.chk 1 = true → t.chk 2 = true → t.chk 3 = true → t.prop
  | .leaf, _, _, _ => rfl
  | .tell c w o v r, h1, h2, h3 => by
    have key : ∀ p, PT.chk p (.tell c w o v r) = true → r.chk p = true ∧ (selW p w = true → ((evQ o .lf H0).cs false fun u => avEq u v) = true) := fun p h => by
      have h : bc (selW p w) (bc ((evQ o .lf H0).cs false fun u => avEq u v) (r.chk p) false) (r.chk p) = true := h
      cases hs : selW p w with
      | true =>
        rw [hs] at h
        obtain ⟨k1, k2⟩ := bc_and.1 h
        exact ⟨k2, fun _ => k1⟩
      | false => rw [hs] at h; exact ⟨h, nofun⟩
    obtain ⟨a1, b1⟩ := key 1 h1
    obtain ⟨a2, b2⟩ := key 2 h2
    obtain ⟨a3, b3⟩ := key 3 h3
    refine ⟨t0 ?_, PT.ok r a1 a2 a3⟩
    rcases selW_all w with h | h | h
    · exact b1 h
    · exact b2 h
    · exact b3 h
  | .fork c w raw a b, h1, h2, h3 => by
    have key : ∀ p, PT.chk p (.fork c w raw a b) = true → (raw = true → a.chk p = true) ∧ (raw = false → b.chk p = true) := fun p h => by
      have h : bc (bc (Nat.beq p 3) true (Nat.beq p w)) (bc raw (a.chk p) (b.chk p)) (bc (a.chk p) (b.chk p) false) = true := h
      cases hs : bc (Nat.beq p 3) true (Nat.beq p w) with
      | true => rw [hs] at h; exact ⟨fun e => (by rw [e] at h; exact h), fun e => (by rw [e] at h; exact h)⟩
      | false =>
        rw [hs] at h
        obtain ⟨k1, k2⟩ := bc_and.1 h
        exact ⟨fun _ => k1, fun _ => k2⟩
    obtain ⟨a1, b1⟩ := key 1 h1
    obtain ⟨a2, b2⟩ := key 2 h2
    obtain ⟨a3, b3⟩ := key 3 h3
    exact ⟨fun e => PT.ok a (a1 e) (a2 e) (a3 e), fun e => PT.ok b (b1 e) (b2 e) (b3 e)⟩
  | .agn c w l r, h1, h2, h3 => by
    have key : ∀ p, PT.chk p (.agn c w l r) = true → r.chk p = true ∧ (selW p w = true → lall AE.chk l = true) := fun p h => by
      have h : bc (selW p w) (bc (lall AE.chk l) (r.chk p) false) (r.chk p) = true := h
      cases hs : selW p w with
      | true =>
        rw [hs] at h
        obtain ⟨k1, k2⟩ := bc_and.1 h
        exact ⟨k2, fun _ => k1⟩
      | false => rw [hs] at h; exact ⟨h, nofun⟩
    obtain ⟨a1, b1⟩ := key 1 h1
    obtain ⟨a2, b2⟩ := key 2 h2
    obtain ⟨a3, b3⟩ := key 3 h3
    have hr := PT.ok r a1 a2 a3
    have hl : lall AE.chk l = true := by
      rcases selW_all w with h | h | h
      · exact b1 h
      · exact b2 h
      · exact b3 h
    show lrec r.prop (fun x _ ih => x.eqp ∧ ih) l
    clear h1 h2 h3 key b1 b2 b3
    induction l with
    | nil => exact hr
    | cons x l ih =>
      obtain ⟨k1, k2⟩ := bc_and.1 (show bc x.chk (lall AE.chk l) false = true from hl)
      exact ⟨AE.ok k1, ih k2⟩
def allK (f : Nat → Bool) (N : Nat) : Bool := Nat.rec (motive := fun _ => Bool) true (fun m ih => bc (f m) ih false) N
theorem allK_ok {f : Nat → Bool} {N : Nat} (h : allK f N = true) {n : Nat} (hn : n < N) : f n = true := by
  induction N with
  | zero => omega
  | succ m ih =>
    obtain ⟨h1, h2⟩ := bc_and.1 (show bc (f m) (allK f m) false = true from h)
    by_cases e : n = m
    · rw [e]; exact h1
    · exact ih h2 (by omega)
theorem allC {f : Nat → Bool} {c : Nat → Bool} {N : Nat} (h : allK (fun n => bc (c n) (f n) true) N = true) {n : Nat} (hn : n < N) (hc : c n = true) : f n = true := by
  have := allK_ok h hn
  rw [hc] at this
  exact this
theorem all1 {t : Nat → PT} {c : Nat → Bool} {N : Nat} (h : allK (fun n => bc (c n) ((t n).chk 1) true) N = true) {n : Nat} (h2 : (t n).chk 2 = true) {u : Nat → PT} (hu : (t n).both = u n) (h3 : allK (fun n => bc (c n) ((u n).chk 3) true) N = true) (hn : n < N) (hc : c n = true) : (t n).prop :=
  PT.ok _ (allC h hn hc) h2 (by rw [← PT.both_chk, hu]; exact allC h3 hn hc)
end
end Eng
end
section
set_option linter.unusedVariables false
set_option linter.unusedSimpArgs false
namespace Eng
open Go Go.RowKit
def Mp.LeV (μ μ' : Mp) : Prop := ∀ b c s, μ.at_ b = some (c, s) → μ'.at_ b = some (c, s) ∧ μ'.size c = μ.size c
mutual
theorem VR.monoV {μ μ' : Mp} (h : μ.LeV μ') : ∀ (v : AV) (x : Value), VR μ v x → VR μ' v x
  | .bool _, _, r => by unfold VR at *; exact r
  | .int _ _, _, r => by unfold VR at *; exact r
  | .str _, _, r => by unfold VR at *; exact r
  | .nilPtr, _, r => by unfold VR at *; exact r
  | .ptr b o, _, r => by
    unfold VR at *
    obtain ⟨c, s, hb, hx⟩ := r
    exact ⟨c, s, (h _ _ _ hb).1, hx⟩
  | .nilSlice, _, r => by unfold VR at *; exact r
  | .slice b o l cp sz ex, _, r => by
    unfold VR at *
    obtain ⟨c, s, s', cp', hb, hx, h1, h2, h3, h4⟩ := r
    exact ⟨c, s, s', cp', (h _ _ _ hb).1, hx, h1, h2, h3, by rw [(h _ _ _ hb).2]; exact h4⟩
  | .nilMap, _, r => by unfold VR at *; exact r
  | .map b, _, r => by
    unfold VR at *
    obtain ⟨c, s, hb, hx⟩ := r
    exact ⟨c, s, (h _ _ _ hb).1, hx⟩
  | .func fn a b, _, r => by
    unfold VR at *
    obtain ⟨a', b', hx, ha, hb⟩ := r
    exact ⟨a', b', hx, VRs.monoV h a _ ha, VRs.monoV h b _ hb⟩
  | .nilFunc, _, r => by unfold VR at *; exact r
  | .iface t v, _, r => by
    unfold VR at *
    obtain ⟨v', hx, hv⟩ := r
    exact ⟨v', hx, VR.monoV h v _ hv⟩
  | .nilIface, _, r => by unfold VR at *; exact r
  | .agg l, _, r => by
    unfold VR at *
    obtain ⟨l', hx, hl⟩ := r
    exact ⟨l', hx, VRs.monoV h l _ hl⟩
  | .tuple l, _, r => by
    unfold VR at *
    obtain ⟨l', hx, hl⟩ := r
    exact ⟨l', hx, VRs.monoV h l _ hl⟩
theorem VRs.monoV {μ μ' : Mp} (h : μ.LeV μ') : ∀ (l : List AV) (xs : List Value), VRs μ l xs → VRs μ' l xs
  | [], _, r => by unfold VRs at *; exact r
  | v :: vs, _, r => by
    unfold VRs at *
    obtain ⟨x, xs, hx, h1, h2⟩ := r
    exact ⟨x, xs, hx, VR.monoV h v _ h1, VRs.monoV h vs _ h2⟩
end
mutual
theorem VR.back {μ μ' : Mp} (h : μ.LeV μ') : ∀ (v : AV) (x0 x : Value), VR μ v x0 → VR μ' v x → VR μ v x
  | .bool _, _, _, _, r => by unfold VR at *; exact r
  | .int _ _, _, _, _, r => by unfold VR at *; exact r
  | .str _, _, _, _, r => by unfold VR at *; exact r
  | .nilPtr, _, _, _, r => by unfold VR at *; exact r
  | .ptr b o, _, _, r0, r => by
    unfold VR at *
    obtain ⟨c0, s0, hb0, _⟩ := r0
    obtain ⟨c, s, hb, hx⟩ := r
    rw [(h _ _ _ hb0).1] at hb
    cases hb
    exact ⟨c0, s0, hb0, hx⟩
  | .nilSlice, _, _, _, r => by unfold VR at *; exact r
  | .slice b o l cp sz ex, _, _, r0, r => by
    unfold VR at *
    obtain ⟨c0, s0, _, _, hb0, _⟩ := r0
    obtain ⟨c, s, s', cp', hb, hx, h1, h2, h3, h4⟩ := r
    rw [(h _ _ _ hb0).1] at hb
    cases hb
    exact ⟨c0, s0, s', cp', hb0, hx, h1, h2, h3, by rw [← (h _ _ _ hb0).2]; exact h4⟩
  | .nilMap, _, _, _, r => by unfold VR at *; exact r
  | .map b, _, _, r0, r => by
    unfold VR at *
    obtain ⟨c0, s0, hb0, _⟩ := r0
    obtain ⟨c, s, hb, hx⟩ := r
    rw [(h _ _ _ hb0).1] at hb
    cases hb
    exact ⟨c0, s0, hb0, hx⟩
  | .func fn a b, _, _, r0, r => by
    unfold VR at *
    obtain ⟨a0, b0, _, ha0, hb0⟩ := r0
    obtain ⟨a', b', hx, ha, hb⟩ := r
    exact ⟨a', b', hx, VRs.back h a _ _ ha0 ha, VRs.back h b _ _ hb0 hb⟩
  | .nilFunc, _, _, _, r => by unfold VR at *; exact r
  | .iface t v, _, _, r0, r => by
    unfold VR at *
    obtain ⟨v0, _, hv0⟩ := r0
    obtain ⟨v', hx, hv⟩ := r
    exact ⟨v', hx, VR.back h v _ _ hv0 hv⟩
  | .nilIface, _, _, _, r => by unfold VR at *; exact r
  | .agg l, _, _, r0, r => by
    unfold VR at *
    obtain ⟨l0, _, hl0⟩ := r0
    obtain ⟨l', hx, hl⟩ := r
    exact ⟨l', hx, VRs.back h l _ _ hl0 hl⟩
  | .tuple l, _, _, r0, r => by
    unfold VR at *
    obtain ⟨l0, _, hl0⟩ := r0
    obtain ⟨l', hx, hl⟩ := r
    exact ⟨l', hx, VRs.back h l _ _ hl0 hl⟩
theorem VRs.back {μ μ' : Mp} (h : μ.LeV μ') : ∀ (l : List AV) (xs0 xs : List Value), VRs μ l xs0 → VRs μ' l xs → VRs μ l xs
  | [], _, _, _, r => by unfold VRs at *; exact r
  | v :: vs, _, _, r0, r => by
    unfold VRs at *
    obtain ⟨x0, xs0, _, h10, h20⟩ := r0
    obtain ⟨x, xs, hx, h1, h2⟩ := r
    exact ⟨x, xs, hx, VR.back h v _ _ h10 h1, VRs.back h vs _ _ h20 h2⟩
end
noncomputable def keepS (S : List Nat) (h : Hp) : Hp := ⟨h.next, lrec .lf (fun b _ ih => ocase ih (fun x => tset (pathOf b) x ih) (hget h b)) S⟩
theorem keep_get (h : Hp) (k : Nat) : ∀ S : List Nat, hget (keepS S h) k = if k ∈ S then hget h k else none
  | [] => by
    show tget (pathOf k) .lf = _
    rw [if_neg (by simp)]
    have : ∀ p : Pth, tget p (.lf : Tr Blk) = none := by
      intro p
      induction p with
      | e => rfl
      | l p ih => exact ih
      | r p ih => exact ih
    exact this _
  | b :: S => by
    have ih := keep_get h k S
    have e : hget (keepS (b :: S) h) k = hget ⟨h.next, ocase (keepS S h).t (fun x => tset (pathOf b) x (keepS S h).t) (hget h b)⟩ k := rfl
    rw [e]
    cases hb : hget h b with
    | none =>
      show hget (keepS S h) k = _
      rw [ih]
      by_cases hk : k ∈ S
      · rw [if_pos hk, if_pos (by simp [hk])]
      · rw [if_neg hk]
        by_cases e : k = b
        · rw [if_pos (by simp [e]), e, hb]
        · rw [if_neg (by simp [e, hk])]
    | some x =>
      show hget (hset (keepS S h) b x) k = _
      by_cases e : k = b
      · rw [e, hget_hset, if_pos (by simp), hb]
      · rw [hget_hset_ne _ _ e, ih]
        by_cases hk : k ∈ S
        · rw [if_pos hk, if_pos (by simp [hk])]
        · rw [if_neg hk, if_neg (by simp [e, hk])]
def aloneB (x : Blk) : Bool := match x with
  | .cells _ _ w => match w with | .pair _ => false | _ => true
  | .mp _ _ _ => true
  | .dead => false
open Classical in
noncomputable def Mp.only (μ : Mp) (S : List Nat) : Mp := ⟨μ.at_, fun c => μ.own c && decide (∃ b ∈ S, ∃ s, μ.at_ b = some (c, s)), μ.size⟩
open Classical in
theorem only_eq (μ : Mp) (S : List Nat) (c : Nat) : (μ.only S).own c = (μ.own c && decide (∃ b ∈ S, ∃ s, μ.at_ b = some (c, s))) := rfl
open Classical in
theorem only_true {μ : Mp} {S : List Nat} {c : Nat} (h : (μ.only S).own c = true) : μ.own c = true ∧ ∃ b ∈ S, ∃ s, μ.at_ b = some (c, s) := by
  rw [only_eq, Bool.and_eq_true] at h
  exact ⟨h.1, of_decide_eq_true h.2⟩
theorem only_own {μ : Mp} {S : List Nat} {b c s : Nat} (hb : b ∈ S) (h : μ.at_ b = some (c, s)) : (μ.only S).own c = μ.own c := by
  rw [only_eq]
  simp only [decide_eq_true_eq, Bool.and_eq_left_iff_imp]
  exact fun _ => ⟨b, hb, s, h⟩
theorem LeV.only (μ : Mp) (S : List Nat) : μ.LeV (μ.only S) := fun b c s h => ⟨h, rfl⟩
theorem EntriesR.monoV {μ μ' : Mp} {es : List (AV × AV × Nat)} {es' : List MapEntry} (hle : μ.LeV μ') (r : EntriesR μ es es') : EntriesR μ' es es' :=
  ⟨r.1, fun i k v n hi => by
    obtain ⟨h1, e, h2, h3, h4, h5⟩ := r.2 i k v n hi
    exact ⟨h1, e, h2, VR.monoV hle _ _ h3, VR.monoV hle _ _ h4, h5⟩⟩
theorem EntriesR.back {μ μ' : Mp} {es : List (AV × AV × Nat)} {es0 es' : List MapEntry} (hle : μ.LeV μ') (r0 : EntriesR μ es es0) (r : EntriesR μ' es es') : EntriesR μ es es' :=
  ⟨r.1, fun i k v n hi => by
    obtain ⟨_, e0, _, h30, h40, _⟩ := r0.2 i k v n hi
    obtain ⟨h1, e, h2, h3, h4, h5⟩ := r.2 i k v n hi
    exact ⟨h1, e, h2, VR.back hle _ _ _ h30 h3, VR.back hle _ _ _ h40 h4, h5⟩⟩
section
variable {μ : Mp} {g : Hp} {w : World} {S : List Nat}
theorem Sim.keep (hs : Sim μ g w) : Sim (μ.only S) (keepS S g) w where
  lt := hs.lt
  fresh := fun b hb => by
    rw [keep_get]
    split
    · exact hs.fresh b hb
    · rfl
  old := hs.old
  blk := fun b c s x hb hx => by
    rw [keep_get] at hx
    split at hx
    · rename_i hS
      have ho := only_own (μ := μ) hS hb
      have r := hs.blk b c s x hb hx
      cases x with
      | cells cs n ow =>
        obtain ⟨h1, h2, h3, arr, e, fr, h4, h5, h6, h7⟩ := r
        refine ⟨h1, h2, by rw [ho]; exact h3, arr, e, fr, h4, h5, by rw [ho]; exact h6, fun i v hv => ?_⟩
        obtain ⟨x, hx, r⟩ := h7 i v hv
        exact ⟨x, hx, VR.monoV (LeV.only μ S) _ _ r⟩
      | mp es n ck =>
        obtain ⟨h1, h2, h3, es', h4, h5⟩ := r
        exact ⟨h1, h2, by rw [ho]; exact h3, es', h4, h5.monoV (LeV.only μ S)⟩
      | dead => trivial
    · cases hx
  apart := fun b b' c s s' x x' hn hb hb' ho hx hx' => by
    rw [keep_get] at hx hx'
    split at hx
    · split at hx'
      · rename_i h1 h2
        rw [only_eq, Bool.and_eq_true] at ho
        exact hs.apart b b' c s s' x x' hn hb hb' ho.1 hx hx'
      · cases hx'
    · cases hx
  peer := fun b c s cs n p hb hx => by
    rw [keep_get] at hx
    split at hx
    · exact hs.peer b c s cs n p hb hx
    · cases hx
theorem Sim.fixed (hs : Sim μ g w) (hS : ∀ b ∈ S, ∃ x, hget g b = some x ∧ aloneB x = true) {μ1 : Mp} {h1 : Hp} {w1 : World} (hs1 : Sim μ1 h1 w1) (go : Goes (μ.only S) (keepS S g) w μ1 h1 w1)
    (same : ∀ b ∈ S, hget h1 b = hget g b) : Sim μ g w1 ∧ Goes μ g w μ g w1 := by
  have hle : μ.LeV μ1 := fun b c s hb => by
    have hlt : b < (keepS S g).next := by
      rcases Nat.lt_or_ge b g.next with h | h
      · exact h
      · rw [hs.lt b h] at hb; cases hb
    exact ⟨(go.at_ b hlt).trans hb, go.size c (hs.old b c s hb)⟩
  refine ⟨⟨hs.lt, hs.fresh, fun b c s hb => Nat.lt_of_lt_of_le (hs.old b c s hb) go.heap, fun b c s x hb hx => ?_, hs.apart, hs.peer⟩,
    ⟨Nat.le_refl _, fun _ _ => rfl, fun _ _ => rfl, fun _ _ => rfl, go.heap, fun c hc ho => go.kept c hc (by rw [only_eq, ho]; rfl), fun _ _ _ => rfl, go.os, go.tape, go.output⟩⟩
  have r0 := hs.blk b c s x hb hx
  have hc := hs.old b c s hb
  by_cases hbS : b ∈ S
  · have hat := (hle b c s hb).1
    have r := hs1.blk b c s x hat ((same b hbS).trans hx)
    have ho : μ1.own c = μ.own c := (go.own c hc).trans (only_own hbS hb)
    have hz : μ1.size c = μ.size c := (hle b c s hb).2
    cases x with
    | cells cs n ow =>
      obtain ⟨g1, g2, g3, arr0, e0, fr0, g4, g5, g6, g7⟩ := r0
      obtain ⟨h1, h2, h3, arr, e, fr, h4, h5, h6, h7⟩ := r
      refine ⟨h1, h2, g3, arr, e, fr, h4, by rw [← hz]; exact h5, by rw [← ho]; exact h6, fun i v hv => ?_⟩
      obtain ⟨x0, _, r0⟩ := g7 i v hv
      obtain ⟨x, hx, r⟩ := h7 i v hv
      exact ⟨x, hx, VR.back hle _ _ _ r0 r⟩
    | mp es n ck =>
      obtain ⟨g1, g2, g3, es0, g4, g5⟩ := r0
      obtain ⟨h1, h2, h3, es', h4, h5⟩ := r
      exact ⟨h1, h2, g3, es', h4, EntriesR.back hle g5 h5⟩
    | dead => trivial
  · cases x with
    | dead => trivial
    | _ =>
      have ho : (μ.only S).own c = false := by
        cases h : (μ.only S).own c with
        | false => rfl
        | true =>
          exfalso
          obtain ⟨ho, b', hb'S, s', hb'⟩ := only_true h
          obtain ⟨x', hx', ha⟩ := hS b' hb'S
          have hne : b ≠ b' := fun e => hbS (e ▸ hb'S)
          obtain ⟨cs, n, cs', n', _, e2⟩ := hs.apart b b' c s s' _ x' hne hb hb' ho hx hx' nofun (fun e => by rw [e] at ha; cases ha)
          rw [e2] at ha
          cases ha
      have hw : w1.heap[c]? = w.heap[c]? := go.kept c hc ho
      exact r0.mono (Mp.Le.refl μ) hw rfl rfl
end
noncomputable def entB (e f : AV × AV × Nat) : Bool := bc (avEq e.1 f.1) (bc (avEq e.2.1 f.2.1) (Nat.beq e.2.2 f.2.2) false) false
noncomputable def entsB (l : List (AV × AV × Nat)) : List (AV × AV × Nat) → Bool := lrec (fun m => lcase true (fun _ _ => false) m) (fun e _ ih m => lcase false (fun f m => bc (entB e f) (ih m) false) m) l
noncomputable def ownB (a b : Own) : Bool := match a, b with
  | .solo, .solo => true
  | .ro, .ro => true
  | _, _ => false
noncomputable def blkB (x y : Blk) : Bool := match x, y with
  | .cells cs n w, .cells cs' n' w' => bc (Nat.beq n n') (bc (ownB w w') (avEq (.agg cs) (.agg cs')) false) false
  | .mp es n c, .mp es' n' c' => bc (Nat.beq n n') (bc (Nat.beq c c') (entsB es es') false) false
  | _, _ => false
theorem entB_eq {e f : AV × AV × Nat} (h : entB e f = true) : e = f := by
  obtain ⟨a, b, c⟩ := e
  obtain ⟨a', b', c'⟩ := f
  obtain ⟨h1, h2⟩ := bc_and.1 (show bc (avEq a a') (bc (avEq b b') (Nat.beq c c') false) false = true from h)
  obtain ⟨h3, h4⟩ := bc_and.1 h2
  rw [avEq_eq _ _ h1, avEq_eq _ _ h3, Nat.eq_of_beq_eq_true h4]
theorem entsB_eq : ∀ {l m : List (AV × AV × Nat)}, entsB l m = true → l = m
  | [], [], _ => rfl
  | [], _ :: _, h => by cases h
  | _ :: _, [], h => by cases h
  | e :: l, f :: m, h => by
    obtain ⟨h1, h2⟩ := bc_and.1 (show bc (entB e f) (entsB l m) false = true from h)
    rw [entB_eq h1, entsB_eq h2]
theorem ownB_eq {a b : Own} (h : ownB a b = true) : a = b := by
  cases a <;> cases b <;> first | rfl | cases h
theorem blkB_eq {x y : Blk} (h : blkB x y = true) : x = y := by
  cases x with
  | cells cs n w =>
    cases y with
    | cells cs' n' w' =>
      obtain ⟨h1, h2⟩ := bc_and.1 (show bc (Nat.beq n n') (bc (ownB w w') (avEq (.agg cs) (.agg cs')) false) false = true from h)
      obtain ⟨h3, h4⟩ := bc_and.1 h2
      have := avEq_eq _ _ h4
      cases this
      rw [Nat.eq_of_beq_eq_true h1, ownB_eq h3]
    | _ => cases h
  | mp es n c =>
    cases y with
    | mp es' n' c' =>
      obtain ⟨h1, h2⟩ := bc_and.1 (show bc (Nat.beq n n') (bc (Nat.beq c c') (entsB es es') false) false = true from h)
      obtain ⟨h3, h4⟩ := bc_and.1 h2
      rw [Nat.eq_of_beq_eq_true h1, Nat.eq_of_beq_eq_true h3, entsB_eq h4]
    | _ => cases h
  | dead => cases y <;> cases h
noncomputable def stillB (S : List Nat) (g h : Hp) : Bool := lall (fun b => ocase false (fun x => ocase false (fun y => bc (aloneB x) (blkB x y) false) (hget h b)) (hget g b)) S
theorem stillB_ok {S : List Nat} {g h : Hp} (e : stillB S g h = true) : ∀ b ∈ S, ∃ x, hget g b = some x ∧ aloneB x = true ∧ hget h b = some x := fun b hb => by
  have := lall_iff.1 e b hb
  cases hx : hget g b with
  | none => rw [hx] at this; cases this
  | some x =>
    rw [hx] at this
    cases hy : hget h b with
    | none => rw [hy] at this; cases this
    | some y =>
      rw [hy] at this
      obtain ⟨h1, h2⟩ := bc_and.1 (show bc (aloneB x) (blkB x y) false = true from this)
      exact ⟨x, rfl, h1, by rw [blkB_eq h2]⟩
noncomputable def isUnit (v : AV) : Bool := match v with | .tuple [] => true | _ => false
theorem isUnit_eq {v : AV} (h : isUnit v = true) : v = .tuple [] := by
  unfold isUnit at h; split at h
  · rfl
  · cases h
noncomputable def fixB (call : CallT) (S : List Nat) (f : Nat) (args : List AV) (g : Hp) : Bool := (call f args (keepS S g)).cs false fun v h => bc (isUnit v) (stillB S g h) false
theorem fix_ok {P : Program} {call : CallT} (hc : Good P call) {S : List Nat} {f : Nat} {args : List AV} {g : Hp} (e : fixB call S f args g = true) {μ : Mp} {w : World} {cargs : Array Value} (hs : Sim μ g w) (r : VRs μ args cargs.toList) :
    Enters P f ∧ Calls P f cargs w (CallR μ g w (.tuple []) g) := by
  cases hr : call f args (keepS S g) with
  | no => unfold fixB at e; rw [hr] at e; cases e
  | ok v h =>
    unfold fixB at e
    rw [hr] at e
    obtain ⟨h1, h2⟩ := bc_and.1 (show bc (isUnit v) (stillB S g h) false = true from e)
    obtain rfl := isUnit_eq h1
    have hst := stillB_ok h2
    obtain ⟨he, hcall⟩ := hc f args (keepS S g) (.tuple []) h (μ.only S) w cargs hr hs.keep (VRs.monoV (LeV.only μ S) _ _ r)
    refine ⟨he, hcall.mono fun e' w' ⟨μ', y, e1, ry, hs', go⟩ => ?_⟩
    rw [VR_tuple] at ry
    obtain ⟨l', rfl, rl⟩ := ry
    rw [VRs_nil] at rl
    obtain ⟨k1, k2⟩ := hs.fixed (fun b hb => by obtain ⟨x, h1, h2, _⟩ := hst b hb; exact ⟨x, h1, h2⟩) hs' go (fun b hb => by obtain ⟨x, h1, _, h3⟩ := hst b hb; rw [h3, h1])
    exact ⟨μ, _, e1, by rw [VR_tuple]; exact ⟨l', rfl, by rw [VRs_nil]; exact rl⟩, k1, k2⟩
end Eng
end
section
set_option linter.unusedVariables false
set_option linter.unusedSimpArgs false
namespace Eng
open Go Go.RowKit
abbrev SumW := List AV → Hp → Nat → Orc → KR → Prop
noncomputable section
def owcase (z : Prop) (f : SumW → Prop) (o : Option SumW) : Prop := Option.rec (motive := fun _ => Prop) z f o
def evFX (MW : Nat → Option SumW) (M : Nat → Option (List AV → Hp → RV)) (S : Nat → Option AF) (N : Nat) (d : Nat) : CallW :=
  Nat.rec (motive := fun _ => CallW) (fun _ _ _ _ _ _ => False) (fun d' ih f args h c r k =>
    owcase (ocase (f1W S N (evF M S N d') ih f args h c r k) (fun m => (m args h).cs False fun v h => k v h c r) (M f)) (fun (w : SumW) => w args h c r k) (MW f)) d
end
theorem evFX_ok {MW : Nat → Option SumW} {M : Nat → Option (List AV → Hp → RV)} {S : Nat → Option AF} {N : Nat}
    (hw : ∀ f w, MW f = some w → ∃ m, M f = some m ∧ ∀ args h c r k, w args h c r k → ∃ v h' c' r', m args h = .ok v h' ∧ k v h' c' r') : ∀ d, CallOk (evF M S N d) (evFX MW M S N d)
  | 0 => fun f args h c r k e => False.elim e
  | d + 1 => fun f args h c r k e => by
    have e : (owcase (ocase (f1W S N (evF M S N d) (evFX MW M S N d) f args h c r k) (fun m => (m args h).cs False fun v h => k v h c r) (M f)) (fun (w : SumW) => w args h c r k) (MW f) : Prop) := e
    show ∃ v h' c' r', ocase (evF1 S N (evF M S N d) f args h) (fun m => m args h) (M f) = .ok v h' ∧ _
    cases hq : MW f with
    | some w =>
      rw [hq] at e
      obtain ⟨m, hm, H⟩ := hw f w hq
      rw [hm]
      exact H args h c r k e
    | none =>
      rw [hq] at e
      have e : (ocase (f1W S N (evF M S N d) (evFX MW M S N d) f args h c r k) (fun m => (m args h).cs False fun v h => k v h c r) (M f) : Prop) := e
      cases hm : M f with
      | none => rw [hm] at e; exact f1W_ok (evFX_ok hw d) f args h c r k e
      | some m => rw [hm] at e; obtain ⟨v, h', h2, h3⟩ := okr e; exact ⟨v, h', _, _, h2, h3⟩
theorem told_ptX {P : Program} {D : Nat → Array Oper → AC} (hD : DrawOk P D) {MW : Nat → Option SumW} {M : Nat → Option (List AV → Hp → RV)} (hM : Good P fun f args h => ocase .no (fun m => m args h) (M f))
    (hw : ∀ f w, MW f = some w → ∃ m, M f = some m ∧ ∀ args h c r k, w args h c r k → ∃ v h' c' r', m args h = .ok v h' ∧ k v h' c' r') {N d f : Nat} {w : World}
    {args : List AV} {cargs : Array Value} (t : PT) (e : evFX MW M (progS P D) N d f args H0 t.orc.n t.orc (fun v _ _ _ => v = .bool true) = t.prop) (hp : t.prop) (r : VRs Mp.none args cargs.toList) :
    Calls P f cargs w fun e w' => e = .returned (.bool true) ∧ RowKit.Below w.heap.size w w' := by
  obtain ⟨v, h', c', r', e1, rfl⟩ := evFX_ok hw d f args H0 _ _ _ (e ▸ hp)
  exact closed_law hD hM N d f w args cargs r (by rw [e1]; rfl)
noncomputable def lessOp (a : AV) : QOp := .bin .lss (.const a) (.const (.int .i64 (.ofNat 9223372036854775807)))
noncomputable def isT (v : AV) : Bool := match v with | .bool b => b | _ => false
noncomputable def fitsB (args : List AV) : Bool := match args with
  | [_, _, _, a] => (evQ (lessOp a) .lf H0).cs false isT
  | _ => false
theorem fits_lt {a b c : AV} {n : Nat} (h : fitsB [a, b, c, .int .i64 (.ofNat n)] = true) : n < 9223372036854775807 := by
  have h : ltI (.ofNat n) (.ofNat 9223372036854775807) = true := h
  exact ltI_t h
noncomputable def fitW (m : List AV → Hp → RV) (args : List AV) (h : Hp) (c : Nat) (r : Orc) (k : KR) : Prop := match args with
  | [a0, a1, a2, a3] => Nat.rec (motive := fun _ => Prop)
    (r.cs False (fun x r => evQ (lessOp a3) .lf H0 = .ok x ∧ bc (isT x) ((m [a0, a1, a2, a3] h).cs False fun v h => k v h r.n r) False) (fun _ _ => False) (fun _ _ _ => False) (fun _ _ => False) (fun _ => False) (fun _ => False) (fun _ _ => False) (fun _ _ => False) (fun _ _ _ => False) (fun _ => False))
    (fun _ _ => False) c
  | _ => False
noncomputable def fitM (m : List AV → Hp → RV) (args : List AV) (h : Hp) : RV := bc (fitsB args) (m args h) .no
theorem bcP {b : Bool} {x : Prop} (e : bc b x False) : b = true ∧ x := by
  cases b with
  | true => exact ⟨rfl, e⟩
  | false => exact e.elim
noncomputable def blkP (x y : Blk) (K : Prop) : Prop := match x, y with
  | .cells cs n w, .cells cs' n' w' => bc (Nat.beq n n') (bc (ownB w w') (avC (.agg cs) (.agg cs') K) False) False
  | .mp es n c, .mp es' n' c' => bc (blkB (.mp es n c) (.mp es' n' c')) K False
  | _, _ => False
theorem blkP_ok {x y : Blk} {K : Prop} (e : blkP x y K) : blkB x y = true ∧ K := by
  unfold blkP at e
  split at e
  · rename_i cs n w cs' n' w'
    obtain ⟨h1, e1⟩ := bcP e
    obtain ⟨h2, e2⟩ := bcP e1
    obtain ⟨h3, h4⟩ := avC_ok _ _ e2
    refine ⟨?_, h4⟩
    show bc (Nat.beq n n') (bc (ownB w w') (avEq (.agg cs) (.agg cs')) false) false = true
    rw [h1, h2, h3]; rfl
  · exact bcP e
  · exact e.elim
noncomputable def stillP (S : List Nat) (g h : Hp) (K : Prop) : Prop := lrec K (fun b _ ih => owB (hget g b) (hget h b) ih) S
where owB (a b : Option Blk) (K : Prop) : Prop := ocase False (fun x => ocase False (fun y => bc (aloneB x) (blkP x y K) False) b) a
theorem stillP_ok {g h : Hp} {K : Prop} : ∀ {S : List Nat}, stillP S g h K → stillB S g h = true ∧ K
  | [], e => ⟨rfl, e⟩
  | b :: S, e => by
    have e : stillP.owB (hget g b) (hget h b) (stillP S g h K) := e
    show bc (ocase false (fun x => ocase false (fun y => bc (aloneB x) (blkB x y) false) (hget h b)) (hget g b)) (stillB S g h) false = true ∧ K
    unfold stillP.owB at e
    cases hx : hget g b with
    | none => rw [hx] at e; exact e.elim
    | some x =>
      rw [hx] at e
      cases hy : hget h b with
      | none => rw [hy] at e; exact e.elim
      | some y =>
        rw [hy] at e
        obtain ⟨h1, e1⟩ := bcP (show bc (aloneB x) (blkP x y (stillP S g h K)) False from e)
        obtain ⟨h2, e2⟩ := blkP_ok e1
        obtain ⟨h3, h4⟩ := stillP_ok e2
        refine ⟨?_, h4⟩
        show bc (bc (aloneB x) (blkB x y) false) (stillB S g h) false = true
        rw [h1, h2, h3]; rfl
noncomputable def fixP (call : CallT) (S : List Nat) (f : Nat) (args : List AV) (g : Hp) (K : Prop) : Prop := (call f args (keepS S g)).cs False fun v h => bc (isUnit v) (stillP S g h K) False
theorem fixP_ok {call : CallT} {S : List Nat} {f : Nat} {args : List AV} {g : Hp} {K : Prop} (e : fixP call S f args g K) : fixB call S f args g = true ∧ K := by
  unfold fixP at e
  unfold fixB
  cases hr : call f args (keepS S g) with
  | no => rw [hr] at e; exact e.elim
  | ok v h =>
    rw [hr] at e
    obtain ⟨h1, e1⟩ := bcP (show bc (isUnit v) (stillP S g h K) False from e)
    obtain ⟨h2, h3⟩ := stillP_ok e1
    refine ⟨?_, h3⟩
    show bc (isUnit v) (stillB S g h) false = true
    rw [h1, h2]; rfl
noncomputable def agnCs (r : Orc) (a : Orc → Prop) (z : Prop) : Prop := r.cs z (fun _ _ => z) (fun _ _ => z) (fun _ _ _ => z) (fun _ _ => z) (fun _ => z) (fun _ => z) (fun _ _ => z) (fun _ _ => z) (fun _ _ _ => z)
  (fun r2 => Nat.rec (motive := fun _ => Prop) (a r2) (fun _ _ => z) r.n)
theorem agnCs_or {r : Orc} {a : Orc → Prop} {z : Prop} (e : agnCs r a z) : (∃ r2, a r2) ∨ z := by
  cases r with
  | agn n r2 =>
    cases n with
    | zero => exact .inl ⟨r2, e⟩
    | succ n => exact .inr e
  | _ => exact .inr e
end Eng
end
section
namespace Eng
open Go
theorem goes_of {c : OpenClaim} {P : Program} {f : FuncId} (hst : c.start = .entering) (hfn : P.funcNamed c.func = some f) (hall : P.funcs.any Func.goes = false) : false = c.goesBy P := by
  have h : ∀ g : Nat, (P.funcs[g]?).any Func.goes = false := fun g => by
    cases e : P.funcs[g]? with
    | none => rfl
    | some fn =>
      cases hp : fn.goes with
      | false => exact hp
      | true =>
        have := Array.any_eq_true'.2 ⟨fn, Array.mem_of_getElem? e, hp⟩
        rw [hall] at this; cases this
  unfold OpenClaim.goesBy Program.goesAt Program.goesFrom
  rw [hfn, hst]
  show false = (P.goes f || false)
  rw [Bool.or_false]
  unfold Program.goes
  rw [hall, Bool.and_false, Bool.or_false, show (fun g => (P.funcs[g]?).any Func.goes) = fun _ => false from funext h]
  simp
end Eng
end
