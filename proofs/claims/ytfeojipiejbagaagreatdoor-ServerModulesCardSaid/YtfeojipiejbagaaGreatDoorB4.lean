import Derived.Test.YtfeojipiejbagaaGreatDoorB3
import GoSem.ClaimGoes
section
set_option linter.unusedVariables false
set_option linter.unusedSimpArgs false
namespace Go.Proofs.YtfeojipiejbagaaGreatDoor
open Go Go.RowKit Eng
noncomputable def srcs7 : List Nat := [702]
noncomputable def lits7 : List (List AV) := [[.int .u8 (Int.ofNat 0), .int .u8 (Int.ofNat 97), .int .u8 (Int.ofNat 115), .int .u8 (Int.ofNat 109), .int .u8 (Int.ofNat 1), .int .u8 (Int.ofNat 0), .int .u8 (Int.ofNat 0), .int .u8 (Int.ofNat 0), .int .u8 (Int.ofNat 1), .int .u8 (Int.ofNat 18), .int .u8 (Int.ofNat 4), .int .u8 (Int.ofNat 96), .int .u8 (Int.ofNat 0), .int .u8 (Int.ofNat 0), .int .u8 (Int.ofNat 96), .int .u8 (Int.ofNat 1), .int .u8 (Int.ofNat 127), .int .u8 (Int.ofNat 1), .int .u8 (Int.ofNat 127), .int .u8 (Int.ofNat 96), .int .u8 (Int.ofNat 0), .int .u8 (Int.ofNat 1), .int .u8 (Int.ofNat 127), .int .u8 (Int.ofNat 96), .int .u8 (Int.ofNat 2), .int .u8 (Int.ofNat 127), .int .u8 (Int.ofNat 127), .int .u8 (Int.ofNat 0), .int .u8 (Int.ofNat 3), .int .u8 (Int.ofNat 9), .int .u8 (Int.ofNat 8), .int .u8 (Int.ofNat 1), .int .u8 (Int.ofNat 2), .int .u8 (Int.ofNat 0), .int .u8 (Int.ofNat 0), .int .u8 (Int.ofNat 3), .int .u8 (Int.ofNat 1), .int .u8 (Int.ofNat 1), .int .u8 (Int.ofNat 0), .int .u8 (Int.ofNat 5), .int .u8 (Int.ofNat 3), .int .u8 (Int.ofNat 1), .int .u8 (Int.ofNat 0), .int .u8 (Int.ofNat 1), .int .u8 (Int.ofNat 6), .int .u8 (Int.ofNat 6), .int .u8 (Int.ofNat 1), .int .u8 (Int.ofNat 127), .int .u8 (Int.ofNat 1), .int .u8 (Int.ofNat 65), .int .u8 (Int.ofNat 0), .int .u8 (Int.ofNat 11), .int .u8 (Int.ofNat 7), .int .u8 (Int.ofNat 54), .int .u8 (Int.ofNat 8), .int .u8 (Int.ofNat 3), .int .u8 (Int.ofNat 105), .int .u8 (Int.ofNat 110), .int .u8 (Int.ofNat 99), .int .u8 (Int.ofNat 0), .int .u8 (Int.ofNat 0), .int .u8 (Int.ofNat 3), .int .u8 (Int.ofNat 103), .int .u8 (Int.ofNat 101), .int .u8 (Int.ofNat 116), .int .u8 (Int.ofNat 0), .int .u8 (Int.ofNat 1), .int .u8 (Int.ofNat 4), .int .u8 (Int.ofNat 115), .int .u8 (Int.ofNat 112), .int .u8 (Int.ofNat 105), .int .u8 (Int.ofNat 110), .int .u8 (Int.ofNat 0), .int .u8 (Int.ofNat 2), .int .u8 (Int.ofNat 4), .int .u8 (Int.ofNat 116), .int .u8 (Int.ofNat 114), .int .u8 (Int.ofNat 97), .int .u8 (Int.ofNat 112), .int .u8 (Int.ofNat 0), .int .u8 (Int.ofNat 3), .int .u8 (Int.ofNat 3), .int .u8 (Int.ofNat 112), .int .u8 (Int.ofNat 117), .int .u8 (Int.ofNat 116), .int .u8 (Int.ofNat 0), .int .u8 (Int.ofNat 4), .int .u8 (Int.ofNat 4), .int .u8 (Int.ofNat 112), .int .u8 (Int.ofNat 101), .int .u8 (Int.ofNat 101), .int .u8 (Int.ofNat 107), .int .u8 (Int.ofNat 0), .int .u8 (Int.ofNat 5), .int .u8 (Int.ofNat 4), .int .u8 (Int.ofNat 119), .int .u8 (Int.ofNat 111), .int .u8 (Int.ofNat 114), .int .u8 (Int.ofNat 107), .int .u8 (Int.ofNat 0), .int .u8 (Int.ofNat 6), .int .u8 (Int.ofNat 4), .int .u8 (Int.ofNat 100), .int .u8 (Int.ofNat 101), .int .u8 (Int.ofNat 101), .int .u8 (Int.ofNat 112), .int .u8 (Int.ofNat 0), .int .u8 (Int.ofNat 7), .int .u8 (Int.ofNat 10), .int .u8 (Int.ofNat 102), .int .u8 (Int.ofNat 8), .int .u8 (Int.ofNat 11), .int .u8 (Int.ofNat 0), .int .u8 (Int.ofNat 35), .int .u8 (Int.ofNat 0), .int .u8 (Int.ofNat 32), .int .u8 (Int.ofNat 0), .int .u8 (Int.ofNat 106), .int .u8 (Int.ofNat 36), .int .u8 (Int.ofNat 0), .int .u8 (Int.ofNat 35), .int .u8 (Int.ofNat 0), .int .u8 (Int.ofNat 11), .int .u8 (Int.ofNat 4), .int .u8 (Int.ofNat 0), .int .u8 (Int.ofNat 35), .int .u8 (Int.ofNat 0), .int .u8 (Int.ofNat 11), .int .u8 (Int.ofNat 12), .int .u8 (Int.ofNat 0), .int .u8 (Int.ofNat 65), .int .u8 (Int.ofNat 227), .int .u8 (Int.ofNat 0), .int .u8 (Int.ofNat 36), .int .u8 (Int.ofNat 0), .int .u8 (Int.ofNat 3), .int .u8 (Int.ofNat 64), .int .u8 (Int.ofNat 12), .int .u8 (Int.ofNat 0), .int .u8 (Int.ofNat 11), .int .u8 (Int.ofNat 11), .int .u8 (Int.ofNat 11), .int .u8 (Int.ofNat 0), .int .u8 (Int.ofNat 35), .int .u8 (Int.ofNat 0), .int .u8 (Int.ofNat 65), .int .u8 (Int.ofNat 232), .int .u8 (Int.ofNat 7), .int .u8 (Int.ofNat 106), .int .u8 (Int.ofNat 36), .int .u8 (Int.ofNat 0), .int .u8 (Int.ofNat 0), .int .u8 (Int.ofNat 11), .int .u8 (Int.ofNat 9), .int .u8 (Int.ofNat 0), .int .u8 (Int.ofNat 32), .int .u8 (Int.ofNat 0), .int .u8 (Int.ofNat 32), .int .u8 (Int.ofNat 1), .int .u8 (Int.ofNat 58), .int .u8 (Int.ofNat 0), .int .u8 (Int.ofNat 0), .int .u8 (Int.ofNat 11), .int .u8 (Int.ofNat 7), .int .u8 (Int.ofNat 0), .int .u8 (Int.ofNat 32), .int .u8 (Int.ofNat 0), .int .u8 (Int.ofNat 45), .int .u8 (Int.ofNat 0), .int .u8 (Int.ofNat 0), .int .u8 (Int.ofNat 11), .int .u8 (Int.ofNat 31), .int .u8 (Int.ofNat 0), .int .u8 (Int.ofNat 2), .int .u8 (Int.ofNat 64), .int .u8 (Int.ofNat 3), .int .u8 (Int.ofNat 64), .int .u8 (Int.ofNat 32), .int .u8 (Int.ofNat 0), .int .u8 (Int.ofNat 69), .int .u8 (Int.ofNat 13), .int .u8 (Int.ofNat 1), .int .u8 (Int.ofNat 32), .int .u8 (Int.ofNat 0), .int .u8 (Int.ofNat 65), .int .u8 (Int.ofNat 1), .int .u8 (Int.ofNat 107), .int .u8 (Int.ofNat 33), .int .u8 (Int.ofNat 0), .int .u8 (Int.ofNat 35), .int .u8 (Int.ofNat 0), .int .u8 (Int.ofNat 65), .int .u8 (Int.ofNat 1), .int .u8 (Int.ofNat 106), .int .u8 (Int.ofNat 36), .int .u8 (Int.ofNat 0), .int .u8 (Int.ofNat 12), .int .u8 (Int.ofNat 0), .int .u8 (Int.ofNat 11), .int .u8 (Int.ofNat 11), .int .u8 (Int.ofNat 35), .int .u8 (Int.ofNat 0), .int .u8 (Int.ofNat 11), .int .u8 (Int.ofNat 8), .int .u8 (Int.ofNat 0), .int .u8 (Int.ofNat 65), .int .u8 (Int.ofNat 5), .int .u8 (Int.ofNat 36), .int .u8 (Int.ofNat 0), .int .u8 (Int.ofNat 16), .int .u8 (Int.ofNat 7), .int .u8 (Int.ofNat 11)]]
noncomputable def ows7 : List Own := [.pair 701]
noncomputable def val7 : AV := .slice 0 0 212 212 1 false
theorem chk7 : memoChk srcs7 lits7 ows7 val7 = true := by kernel_rfl
theorem key7 : (evF noM (progS Tryz.prog (compDrawn Tryz.prog)) 100000 9 7 [] H0).cs none (fun v h => some (v, lmap (hget h) srcs7)) = some (renT (loc srcs7) val7, mkB (loc srcs7) lits7 ows7) := by kernel_rfl
noncomputable def srcs158 : List Nat := [74, 92, 100, 113, 163, 382, 51, 53, 61, 71, 111, 189, 203, 231, 257, 277, 294, 360, 380]
noncomputable def lits158 : List (List AV) := [[.nilSlice, .nilSlice, .slice 6 0 1 1 1 false, .slice 7 0 1 1 1 false, .nilSlice, .slice 8 0 1 1 1 false, .slice 9 0 2 2 1 false, .nilSlice], [.int .u32 (Int.ofNat 1), .int .u32 (Int.ofNat 2), .int .u32 (Int.ofNat 0), .int .u32 (Int.ofNat 0), .int .u32 (Int.ofNat 3), .int .u32 (Int.ofNat 1), .int .u32 (Int.ofNat 1), .int .u32 (Int.ofNat 0)], [.int .u32 (Int.ofNat 1), .int .u32 (Int.ofNat 0), .bool false], [.int .u8 (Int.ofNat 127), .bool true, .slice 10 0 2 2 6 false], [.str [105, 110, 99], .int .u8 (Int.ofNat 0), .int .u32 (Int.ofNat 0), .str [103, 101, 116], .int .u8 (Int.ofNat 0), .int .u32 (Int.ofNat 1), .str [115, 112, 105, 110], .int .u8 (Int.ofNat 0), .int .u32 (Int.ofNat 2), .str [116, 114, 97, 112], .int .u8 (Int.ofNat 0), .int .u32 (Int.ofNat 3), .str [112, 117, 116], .int .u8 (Int.ofNat 0), .int .u32 (Int.ofNat 4), .str [112, 101, 101, 107], .int .u8 (Int.ofNat 0), .int .u32 (Int.ofNat 5), .str [119, 111, 114, 107], .int .u8 (Int.ofNat 0), .int .u32 (Int.ofNat 6), .str [100, 101, 101, 112], .int .u8 (Int.ofNat 0), .int .u32 (Int.ofNat 7)], [.nilSlice, .slice 11 0 6 6 6 false, .nilSlice, .slice 12 0 2 2 6 false, .nilSlice, .slice 13 0 6 6 6 false, .nilSlice, .slice 14 0 6 6 6 false, .nilSlice, .slice 15 0 4 4 6 false, .nilSlice, .slice 16 0 3 3 6 false, .nilSlice, .slice 17 0 18 18 6 false, .nilSlice, .slice 18 0 4 4 6 false], [.int .u8 (Int.ofNat 127)], [.int .u8 (Int.ofNat 127)], [.int .u8 (Int.ofNat 127)], [.int .u8 (Int.ofNat 127), .int .u8 (Int.ofNat 127)], [.int .i64 (Int.ofNat 65), .int .u32 (Int.ofNat 0), .int .u32 (Int.ofNat 0), .int .u64 (Int.ofNat 0), .nilSlice, .int .i64 (Int.ofNat 0), .int .i64 (Int.ofNat 11), .int .u32 (Int.ofNat 0), .int .u32 (Int.ofNat 0), .int .u64 (Int.ofNat 0), .nilSlice, .int .i64 (Int.ofNat 0)], [.int .i64 (Int.ofNat 35), .int .u32 (Int.ofNat 0), .int .u32 (Int.ofNat 0), .int .u64 (Int.ofNat 0), .nilSlice, .int .i64 (Int.ofNat 0), .int .i64 (Int.ofNat 32), .int .u32 (Int.ofNat 0), .int .u32 (Int.ofNat 0), .int .u64 (Int.ofNat 0), .nilSlice, .int .i64 (Int.ofNat 0), .int .i64 (Int.ofNat 106), .int .u32 (Int.ofNat 0), .int .u32 (Int.ofNat 0), .int .u64 (Int.ofNat 0), .nilSlice, .int .i64 (Int.ofNat 0), .int .i64 (Int.ofNat 36), .int .u32 (Int.ofNat 0), .int .u32 (Int.ofNat 0), .int .u64 (Int.ofNat 0), .nilSlice, .int .i64 (Int.ofNat 0), .int .i64 (Int.ofNat 35), .int .u32 (Int.ofNat 0), .int .u32 (Int.ofNat 0), .int .u64 (Int.ofNat 0), .nilSlice, .int .i64 (Int.ofNat 0), .int .i64 (Int.ofNat 11), .int .u32 (Int.ofNat 0), .int .u32 (Int.ofNat 0), .int .u64 (Int.ofNat 0), .nilSlice, .int .i64 (Int.ofNat 0)], [.int .i64 (Int.ofNat 35), .int .u32 (Int.ofNat 0), .int .u32 (Int.ofNat 0), .int .u64 (Int.ofNat 0), .nilSlice, .int .i64 (Int.ofNat 0), .int .i64 (Int.ofNat 11), .int .u32 (Int.ofNat 0), .int .u32 (Int.ofNat 0), .int .u64 (Int.ofNat 0), .nilSlice, .int .i64 (Int.ofNat 0)], [.int .i64 (Int.ofNat 65), .int .u32 (Int.ofNat 0), .int .u32 (Int.ofNat 0), .int .u64 (Int.ofNat 99), .nilSlice, .int .i64 (Int.ofNat 0), .int .i64 (Int.ofNat 36), .int .u32 (Int.ofNat 0), .int .u32 (Int.ofNat 0), .int .u64 (Int.ofNat 0), .nilSlice, .int .i64 (Int.ofNat 0), .int .i64 (Int.ofNat 3), .int .u32 (Int.ofNat 0), .int .u32 (Int.ofNat 0), .int .u64 (Int.ofNat 0), .nilSlice, .int .i64 (Int.negSucc 63), .int .i64 (Int.ofNat 12), .int .u32 (Int.ofNat 0), .int .u32 (Int.ofNat 0), .int .u64 (Int.ofNat 0), .nilSlice, .int .i64 (Int.ofNat 0), .int .i64 (Int.ofNat 11), .int .u32 (Int.ofNat 0), .int .u32 (Int.ofNat 0), .int .u64 (Int.ofNat 0), .nilSlice, .int .i64 (Int.ofNat 0), .int .i64 (Int.ofNat 11), .int .u32 (Int.ofNat 0), .int .u32 (Int.ofNat 0), .int .u64 (Int.ofNat 0), .nilSlice, .int .i64 (Int.ofNat 0)], [.int .i64 (Int.ofNat 35), .int .u32 (Int.ofNat 0), .int .u32 (Int.ofNat 0), .int .u64 (Int.ofNat 0), .nilSlice, .int .i64 (Int.ofNat 0), .int .i64 (Int.ofNat 65), .int .u32 (Int.ofNat 0), .int .u32 (Int.ofNat 0), .int .u64 (Int.ofNat 1000), .nilSlice, .int .i64 (Int.ofNat 0), .int .i64 (Int.ofNat 106), .int .u32 (Int.ofNat 0), .int .u32 (Int.ofNat 0), .int .u64 (Int.ofNat 0), .nilSlice, .int .i64 (Int.ofNat 0), .int .i64 (Int.ofNat 36), .int .u32 (Int.ofNat 0), .int .u32 (Int.ofNat 0), .int .u64 (Int.ofNat 0), .nilSlice, .int .i64 (Int.ofNat 0), .int .i64 (Int.ofNat 0), .int .u32 (Int.ofNat 0), .int .u32 (Int.ofNat 0), .int .u64 (Int.ofNat 0), .nilSlice, .int .i64 (Int.ofNat 0), .int .i64 (Int.ofNat 11), .int .u32 (Int.ofNat 0), .int .u32 (Int.ofNat 0), .int .u64 (Int.ofNat 0), .nilSlice, .int .i64 (Int.ofNat 0)], [.int .i64 (Int.ofNat 32), .int .u32 (Int.ofNat 0), .int .u32 (Int.ofNat 0), .int .u64 (Int.ofNat 0), .nilSlice, .int .i64 (Int.ofNat 0), .int .i64 (Int.ofNat 32), .int .u32 (Int.ofNat 1), .int .u32 (Int.ofNat 0), .int .u64 (Int.ofNat 0), .nilSlice, .int .i64 (Int.ofNat 0), .int .i64 (Int.ofNat 58), .int .u32 (Int.ofNat 0), .int .u32 (Int.ofNat 0), .int .u64 (Int.ofNat 0), .nilSlice, .int .i64 (Int.ofNat 0), .int .i64 (Int.ofNat 11), .int .u32 (Int.ofNat 0), .int .u32 (Int.ofNat 0), .int .u64 (Int.ofNat 0), .nilSlice, .int .i64 (Int.ofNat 0)], [.int .i64 (Int.ofNat 32), .int .u32 (Int.ofNat 0), .int .u32 (Int.ofNat 0), .int .u64 (Int.ofNat 0), .nilSlice, .int .i64 (Int.ofNat 0), .int .i64 (Int.ofNat 45), .int .u32 (Int.ofNat 0), .int .u32 (Int.ofNat 0), .int .u64 (Int.ofNat 0), .nilSlice, .int .i64 (Int.ofNat 0), .int .i64 (Int.ofNat 11), .int .u32 (Int.ofNat 0), .int .u32 (Int.ofNat 0), .int .u64 (Int.ofNat 0), .nilSlice, .int .i64 (Int.ofNat 0)], [.int .i64 (Int.ofNat 2), .int .u32 (Int.ofNat 0), .int .u32 (Int.ofNat 0), .int .u64 (Int.ofNat 0), .nilSlice, .int .i64 (Int.negSucc 63), .int .i64 (Int.ofNat 3), .int .u32 (Int.ofNat 0), .int .u32 (Int.ofNat 0), .int .u64 (Int.ofNat 0), .nilSlice, .int .i64 (Int.negSucc 63), .int .i64 (Int.ofNat 32), .int .u32 (Int.ofNat 0), .int .u32 (Int.ofNat 0), .int .u64 (Int.ofNat 0), .nilSlice, .int .i64 (Int.ofNat 0), .int .i64 (Int.ofNat 69), .int .u32 (Int.ofNat 0), .int .u32 (Int.ofNat 0), .int .u64 (Int.ofNat 0), .nilSlice, .int .i64 (Int.ofNat 0), .int .i64 (Int.ofNat 13), .int .u32 (Int.ofNat 1), .int .u32 (Int.ofNat 0), .int .u64 (Int.ofNat 0), .nilSlice, .int .i64 (Int.ofNat 0), .int .i64 (Int.ofNat 32), .int .u32 (Int.ofNat 0), .int .u32 (Int.ofNat 0), .int .u64 (Int.ofNat 0), .nilSlice, .int .i64 (Int.ofNat 0), .int .i64 (Int.ofNat 65), .int .u32 (Int.ofNat 0), .int .u32 (Int.ofNat 0), .int .u64 (Int.ofNat 1), .nilSlice, .int .i64 (Int.ofNat 0), .int .i64 (Int.ofNat 107), .int .u32 (Int.ofNat 0), .int .u32 (Int.ofNat 0), .int .u64 (Int.ofNat 0), .nilSlice, .int .i64 (Int.ofNat 0), .int .i64 (Int.ofNat 33), .int .u32 (Int.ofNat 0), .int .u32 (Int.ofNat 0), .int .u64 (Int.ofNat 0), .nilSlice, .int .i64 (Int.ofNat 0), .int .i64 (Int.ofNat 35), .int .u32 (Int.ofNat 0), .int .u32 (Int.ofNat 0), .int .u64 (Int.ofNat 0), .nilSlice, .int .i64 (Int.ofNat 0), .int .i64 (Int.ofNat 65), .int .u32 (Int.ofNat 0), .int .u32 (Int.ofNat 0), .int .u64 (Int.ofNat 1), .nilSlice, .int .i64 (Int.ofNat 0), .int .i64 (Int.ofNat 106), .int .u32 (Int.ofNat 0), .int .u32 (Int.ofNat 0), .int .u64 (Int.ofNat 0), .nilSlice, .int .i64 (Int.ofNat 0), .int .i64 (Int.ofNat 36), .int .u32 (Int.ofNat 0), .int .u32 (Int.ofNat 0), .int .u64 (Int.ofNat 0), .nilSlice, .int .i64 (Int.ofNat 0), .int .i64 (Int.ofNat 12), .int .u32 (Int.ofNat 0), .int .u32 (Int.ofNat 0), .int .u64 (Int.ofNat 0), .nilSlice, .int .i64 (Int.ofNat 0), .int .i64 (Int.ofNat 11), .int .u32 (Int.ofNat 0), .int .u32 (Int.ofNat 0), .int .u64 (Int.ofNat 0), .nilSlice, .int .i64 (Int.ofNat 0), .int .i64 (Int.ofNat 11), .int .u32 (Int.ofNat 0), .int .u32 (Int.ofNat 0), .int .u64 (Int.ofNat 0), .nilSlice, .int .i64 (Int.ofNat 0), .int .i64 (Int.ofNat 35), .int .u32 (Int.ofNat 0), .int .u32 (Int.ofNat 0), .int .u64 (Int.ofNat 0), .nilSlice, .int .i64 (Int.ofNat 0), .int .i64 (Int.ofNat 11), .int .u32 (Int.ofNat 0), .int .u32 (Int.ofNat 0), .int .u64 (Int.ofNat 0), .nilSlice, .int .i64 (Int.ofNat 0)], [.int .i64 (Int.ofNat 65), .int .u32 (Int.ofNat 0), .int .u32 (Int.ofNat 0), .int .u64 (Int.ofNat 5), .nilSlice, .int .i64 (Int.ofNat 0), .int .i64 (Int.ofNat 36), .int .u32 (Int.ofNat 0), .int .u32 (Int.ofNat 0), .int .u64 (Int.ofNat 0), .nilSlice, .int .i64 (Int.ofNat 0), .int .i64 (Int.ofNat 16), .int .u32 (Int.ofNat 7), .int .u32 (Int.ofNat 0), .int .u64 (Int.ofNat 0), .nilSlice, .int .i64 (Int.ofNat 0), .int .i64 (Int.ofNat 11), .int .u32 (Int.ofNat 0), .int .u32 (Int.ofNat 0), .int .u64 (Int.ofNat 0), .nilSlice, .int .i64 (Int.ofNat 0)]]
noncomputable def ows158 : List Own := [.pair 64, .pair 90, .solo, .solo, .pair 157, .pair 362, .solo, .solo, .solo, .pair 69, .pair 108, .pair 186, .pair 200, .pair 228, .pair 254, .pair 274, .pair 291, .pair 357, .pair 377]
noncomputable def val158 : AV := .tuple [.agg [.slice 0 0 4 4 2 false, .slice 1 0 8 8 1 false, .nilSlice, .slice 2 0 1 1 3 false, .slice 3 0 1 1 3 false, .slice 4 0 8 8 3 false, .bool false, .int .u32 (Int.ofNat 0), .nilSlice, .bool false, .int .u32 (Int.ofNat 0), .slice 5 0 8 8 2 false, .nilSlice], .int .i64 (Int.ofNat 0)]
theorem chk158 : memoChk srcs158 lits158 ows158 val158 = true := by kernel_rfl
noncomputable def text158 : List Nat := [0, 97, 115, 109, 1, 0, 0, 0, 1, 18, 4, 96, 0, 0, 96, 1, 127, 1, 127, 96, 0, 1, 127, 96, 2, 127, 127, 0, 3, 9, 8, 1, 2, 0, 0, 3, 1, 1, 0, 5, 3, 1, 0, 1, 6, 6, 1, 127, 1, 65, 0, 11, 7, 54, 8, 3, 105, 110, 99, 0, 0, 3, 103, 101, 116, 0, 1, 4, 115, 112, 105, 110, 0, 2, 4, 116, 114, 97, 112, 0, 3, 3, 112, 117, 116, 0, 4, 4, 112, 101, 101, 107, 0, 5, 4, 119, 111, 114, 107, 0, 6, 4, 100, 101, 101, 112, 0, 7, 10, 102, 8, 11, 0, 35, 0, 32, 0, 106, 36, 0, 35, 0, 11, 4, 0, 35, 0, 11, 12, 0, 65, 227, 0, 36, 0, 3, 64, 12, 0, 11, 11, 11, 0, 35, 0, 65, 232, 7, 106, 36, 0, 0, 11, 9, 0, 32, 0, 32, 1, 58, 0, 0, 11, 7, 0, 32, 0, 45, 0, 0, 11, 31, 0, 2, 64, 3, 64, 32, 0, 69, 13, 1, 32, 0, 65, 1, 107, 33, 0, 35, 0, 65, 1, 106, 36, 0, 12, 0, 11, 11, 35, 0, 11, 8, 0, 65, 5, 36, 0, 16, 7, 11]
theorem key158 : (evF noM (progS Tryz.prog (compDrawn Tryz.prog)) 100000 14 158 [.slice 0 0 (len text158) (len text158) 1 false] (hB text158)).cs none (fun v h => some (v, lmap (hget h) srcs158)) = some (renT (loc srcs158) val158, mkB (loc srcs158) lits158 ows158) := by kernel_rfl
noncomputable def memoS (f : Nat) : Option (List AV → Hp → RV) := (bc (Nat.beq f 7) (some (memo0 val7 lits7)) (bc (Nat.beq f 158) (some (memo1 text158 val158 lits158)) none))
theorem memoS_ok : Eng.Good Tryz.prog fun f args h => ocase .no (fun m => m args h) (memoS f) := fun f args h v h' μ w cargs e hs r => by
  replace e : ocase RV.no (fun m => m args h) (bc (Nat.beq f 7) (some (memo0 val7 lits7)) (bc (Nat.beq f 158) (some (memo1 text158 val158 lits158)) none)) = .ok v h' := e
  cases hf0 : Nat.beq f 7 with
  | true =>
    obtain rfl : f = 7 := Nat.eq_of_beq_eq_true hf0
    rw [hf0] at e
    replace e : (memo0 val7 lits7) args h = .ok v h' := e
    exact memo0_ok compDrawn_ok noM_ok key7 chk7 e hs r
  | false =>
    rw [hf0, bc_false] at e
    cases hf1 : Nat.beq f 158 with
    | true =>
      obtain rfl : f = 158 := Nat.eq_of_beq_eq_true hf1
      rw [hf1] at e
      replace e : (memo1 text158 val158 lits158) args h = .ok v h' := e
      exact memo1_ok (by unfold text158; nofun) compDrawn_ok noM_ok key158 chk158 e hs r
    | false =>
      rw [hf1, bc_false] at e
      cases e
noncomputable abbrev memK : Nat → Option (List AV → Hp → RV) := orM memoS sumK
theorem memK_ok : Eng.Good Tryz.prog fun f args h => ocase .no (fun m => m args h) (memK f) := orM_ok memoS_ok sumK_ok
end Go.Proofs.YtfeojipiejbagaaGreatDoor
end
section
set_option linter.unusedVariables false
namespace Eng
open Go Go.RowKit
def qm (d s : Nat) : AO := ⟨some d, .q (.move (.tmp s)), none⟩
def qo (d : Nat) (o : QOp) : AO := ⟨some d, .q o, none⟩
def lo (d : Nat) (o : LOp) : AO := ⟨some d, .l o, none⟩
def eo (d : Nat) (o : EOp) : AO := ⟨some d, .e o, none⟩
def en (o : EOp) : AO := ⟨none, .e o, none⟩
def tq (n : Nat) : AX := .tmp n
noncomputable def tabT (es : List (Nat × AF)) : Tr AF := lrec .lf (fun e _ ih => tset (pathOf e.1) e.2 ih) es
theorem tabT_mem : ∀ (es : List (Nat × AF)) (f : Nat) (af : AF), tget (pathOf f) (tabT es) = some af → (f, af) ∈ es
  | [], f, af, h => by
    have h : tget (pathOf f) (.lf : Tr AF) = some af := h
    rw [tget_lf] at h; cases h
  | e :: es, f, af, h => by
    have h : tget (pathOf f) (tset (pathOf e.1) e.2 (tabT es)) = some af := h
    by_cases q : f = e.1
    · subst q
      rw [tget_tset] at h
      cases h
      exact List.mem_cons_self
    · rw [tget_tset_ne _ _ _ _ (fun q' => q (pathOf_inj q'))] at h
      exact List.mem_cons_of_mem _ (tabT_mem es f af h)
noncomputable def tabS (P : Program) (D : Nat → Array Oper → AC) (t : Tr AF) (f : Nat) : Option AF := ocase (progS P D f) some (tget (pathOf f) t)
theorem tabS_eq {P : Program} {D : Nat → Array Oper → AC} {es : List (Nat × AF)} (h : ∀ e ∈ es, progS P D e.1 = some e.2) : tabS P D (tabT es) = progS P D := by
  funext f
  unfold tabS
  cases q : tget (pathOf f) (tabT es) with
  | none => rfl
  | some af => exact (h _ (tabT_mem es f af q)).symm
end Eng
end
section
set_option linter.unusedVariables false
namespace Eng
open Go
noncomputable def chkQ (o : Nat → QOp) (f : Nat → AV) (c : Nat → Bool) (N : Nat) : Bool :=
  Nat.rec (motive := fun _ => Bool) true (fun m ih => bc (bc (c m) ((evQ (o m) .lf H0).cs false fun v => avEq v (f m)) true) ih false) N
theorem t0 {o : QOp} {v : AV} (h : ((evQ o .lf H0).cs false fun u => avEq u v) = true) : evQ o .lf H0 = .ok v := by
  cases e : evQ o .lf H0 with
  | no => rw [e] at h; cases h
  | ok u => rw [e] at h; rw [avEq_eq u v h]
theorem t1 {o : Nat → QOp} {f : Nat → AV} {c : Nat → Bool} {N : Nat} (h : chkQ o f c N = true) {a : Nat} (ha : a < N) (hc : c a = true) : evQ (o a) .lf H0 = .ok (f a) := by
  induction N with
  | zero => omega
  | succ m ih =>
    have h : bc (bc (c m) ((evQ (o m) .lf H0).cs false fun v => avEq v (f m)) true) (chkQ o f c m) false = true := h
    obtain ⟨h1, h2⟩ := bc_and.1 h
    by_cases e : a = m
    · subst e
      rw [hc] at h1
      exact t0 h1
    · exact ih h2 (by omega)
noncomputable def chkQ2 (o : Nat → Nat → QOp) (f : Nat → Nat → AV) (c d : Nat → Bool) (M N : Nat) : Bool :=
  Nat.rec (motive := fun _ => Bool) true (fun m ih => bc (bc (c m) (chkQ (o m) (f m) d M) true) ih false) N
theorem t2 {o : Nat → Nat → QOp} {f : Nat → Nat → AV} {c d : Nat → Bool} {M N : Nat} (h : chkQ2 o f c d M N = true) {a b : Nat} (ha : a < N) (hb : b < M) (hc : c a = true) (hd : d b = true) : evQ (o a b) .lf H0 = .ok (f a b) := by
  induction N with
  | zero => omega
  | succ m ih =>
    have h : bc (bc (c m) (chkQ (o m) (f m) d M) true) (chkQ2 o f c d M m) false = true := h
    obtain ⟨h1, h2⟩ := bc_and.1 h
    by_cases e : a = m
    · subst e
      rw [hc] at h1
      exact t1 h1 hb hd
    · exact ih h2 (by omega)
end Eng
end
section
set_option linter.unusedVariables false
namespace Eng
open Go
inductive AE where
  | i (n : Int)
  | s (l : List Nat)
  | j (n k : Int)
  | b (x y : Bool)
inductive PT where
  | leaf
  | tell (c w : Nat) (o : QOp) (v : AV) (r : PT)
  | fork (c w : Nat) (raw : Bool) (a b : PT)
  | agn (c w : Nat) (l : List AE) (r : PT)
noncomputable section
def AE.eqp (x : AE) : Prop := AE.rec (motive := fun _ => Prop) (fun n => n = n) (fun l => l = l) (fun n k => n = k) (fun x y => x = y) x
def AE.chk (x : AE) : Bool := AE.rec (motive := fun _ => Bool) (fun _ => true) (fun _ => true) (fun n k => eqI n k) (fun x y => bc x y (notB y)) x
theorem AE.ok {x : AE} (h : x.chk = true) : x.eqp := by
  cases x with
  | i n => rfl
  | s l => rfl
  | b x y =>
    have h : bc x y (notB y) = true := h
    show x = y
    cases x <;> cases y <;> first | rfl | cases h
  | j n k => have h : eqI n k = true := h; rw [eqI_eq] at h; have h2 : n = k := of_decide_eq_true h; exact h2
def PT.orc (t : PT) : Orc := PT.rec (motive := fun _ => Orc) .fin (fun c _ _ v _ r => .tell c v r) (fun c _ _ _ _ a b => .fork c a b) (fun c _ _ _ r => .agn c r) t
def PT.prop (t : PT) : Prop := PT.rec (motive := fun _ => Prop) (AV.bool true = .bool true) (fun _ _ o v _ r => evQ o .lf H0 = .ok v ∧ r) (fun _ _ raw _ _ a b => (raw = true → a) ∧ (raw = false → b)) (fun _ _ l _ r => lrec r (fun x _ ih => x.eqp ∧ ih) l) t
def selW (p w : Nat) : Bool := bc (Nat.beq p 3) (bc (Nat.beq w 1) false (bc (Nat.beq w 2) false true)) (Nat.beq p w)
def PT.chk (p : Nat) (t : PT) : Bool := PT.rec (motive := fun _ => Bool) true (fun _ w o v _ r => bc (selW p w) (bc ((evQ o .lf H0).cs false fun u => avEq u v) r false) r)
  (fun _ w raw _ _ a b => bc (bc (Nat.beq p 3) true (Nat.beq p w)) (bc raw a b) (bc a b false)) (fun _ w l _ r => bc (selW p w) (bc (lall AE.chk l) r false) r) t
def PT.both (t : PT) : PT := PT.rec (motive := fun _ => PT) .leaf (fun c w o v _ r => bc (selW 3 w) (.tell c w o v r) r) (fun c w raw _ _ a b => .fork c w raw a b) (fun c w l _ r => bc (selW 3 w) (.agn c w l r) r) t
theorem PT.both_chk : ∀ t : PT, t.both.chk 3 = t.chk 3
  | .leaf => rfl
  | .tell c w o v r => by
    have ih := PT.both_chk r
    show PT.chk 3 (bc (selW 3 w) (.tell c w o v r.both) r.both) = bc (selW 3 w) (bc ((evQ o .lf H0).cs false fun u => avEq u v) (r.chk 3) false) (r.chk 3)
    cases h : selW 3 w with
    | true =>
      show bc (selW 3 w) (bc ((evQ o .lf H0).cs false fun u => avEq u v) (r.both.chk 3) false) (r.both.chk 3) = _
      rw [h, ih]
    | false => exact ih
  | .fork c w raw a b => by
    show bc raw (a.both.chk 3) (b.both.chk 3) = bc raw (a.chk 3) (b.chk 3)
    rw [PT.both_chk a, PT.both_chk b]
  | .agn c w l r => by
    have ih := PT.both_chk r
    show PT.chk 3 (bc (selW 3 w) (.agn c w l r.both) r.both) = bc (selW 3 w) (bc (lall AE.chk l) (r.chk 3) false) (r.chk 3)
    cases h : selW 3 w with
    | true =>
      show bc (selW 3 w) (bc (lall AE.chk l) (r.both.chk 3) false) (r.both.chk 3) = _
      rw [h, ih]
    | false => exact ih
theorem selW_all (w : Nat) : selW 1 w = true ∨ selW 2 w = true ∨ selW 3 w = true := by
  by_cases h1 : w = 1
  · subst h1; exact .inl rfl
  · by_cases h2 : w = 2
    · subst h2; exact .inr (.inl rfl)
    · refine .inr (.inr ?_)
      show bc (Nat.beq w 1) false (bc (Nat.beq w 2) false true) = true
      rw [beqF h1, beqF h2]; rfl
theorem PT.ok : ∀ (t : PT), t.chk 1 = true → t.chk 2 = true → t.chk 3 = true → t.prop
  | .leaf, _, _, _ => rfl
  | .tell c w o v r, h1, h2, h3 => by
    have key : ∀ p, PT.chk p (.tell c w o v r) = true → r.chk p = true ∧ (selW p w = true → ((evQ o .lf H0).cs false fun u => avEq u v) = true) := fun p h => by
      have h : bc (selW p w) (bc ((evQ o .lf H0).cs false fun u => avEq u v) (r.chk p) false) (r.chk p) = true := h
      cases hs : selW p w with
      | true =>
        rw [hs] at h
        obtain ⟨k1, k2⟩ := bc_and.1 h
        exact ⟨k2, fun _ => k1⟩
      | false => rw [hs] at h; exact ⟨h, nofun⟩
    obtain ⟨a1, b1⟩ := key 1 h1
    obtain ⟨a2, b2⟩ := key 2 h2
    obtain ⟨a3, b3⟩ := key 3 h3
    refine ⟨t0 ?_, PT.ok r a1 a2 a3⟩
    rcases selW_all w with h | h | h
    · exact b1 h
    · exact b2 h
    · exact b3 h
  | .fork c w raw a b, h1, h2, h3 => by
    have key : ∀ p, PT.chk p (.fork c w raw a b) = true → (raw = true → a.chk p = true) ∧ (raw = false → b.chk p = true) := fun p h => by
      have h : bc (bc (Nat.beq p 3) true (Nat.beq p w)) (bc raw (a.chk p) (b.chk p)) (bc (a.chk p) (b.chk p) false) = true := h
      cases hs : bc (Nat.beq p 3) true (Nat.beq p w) with
      | true => rw [hs] at h; exact ⟨fun e => (by rw [e] at h; exact h), fun e => (by rw [e] at h; exact h)⟩
      | false =>
        rw [hs] at h
        obtain ⟨k1, k2⟩ := bc_and.1 h
        exact ⟨fun _ => k1, fun _ => k2⟩
    obtain ⟨a1, b1⟩ := key 1 h1
    obtain ⟨a2, b2⟩ := key 2 h2
    obtain ⟨a3, b3⟩ := key 3 h3
    exact ⟨fun e => PT.ok a (a1 e) (a2 e) (a3 e), fun e => PT.ok b (b1 e) (b2 e) (b3 e)⟩
  | .agn c w l r, h1, h2, h3 => by
    have key : ∀ p, PT.chk p (.agn c w l r) = true → r.chk p = true ∧ (selW p w = true → lall AE.chk l = true) := fun p h => by
      have h : bc (selW p w) (bc (lall AE.chk l) (r.chk p) false) (r.chk p) = true := h
      cases hs : selW p w with
      | true =>
        rw [hs] at h
        obtain ⟨k1, k2⟩ := bc_and.1 h
        exact ⟨k2, fun _ => k1⟩
      | false => rw [hs] at h; exact ⟨h, nofun⟩
    obtain ⟨a1, b1⟩ := key 1 h1
    obtain ⟨a2, b2⟩ := key 2 h2
    obtain ⟨a3, b3⟩ := key 3 h3
    have hr := PT.ok r a1 a2 a3
    have hl : lall AE.chk l = true := by
      rcases selW_all w with h | h | h
      · exact b1 h
      · exact b2 h
      · exact b3 h
    show lrec r.prop (fun x _ ih => x.eqp ∧ ih) l
    clear h1 h2 h3 key b1 b2 b3
    induction l with
    | nil => exact hr
    | cons x l ih =>
      obtain ⟨k1, k2⟩ := bc_and.1 (show bc x.chk (lall AE.chk l) false = true from hl)
      exact ⟨AE.ok k1, ih k2⟩
def allK (f : Nat → Bool) (N : Nat) : Bool := Nat.rec (motive := fun _ => Bool) true (fun m ih => bc (f m) ih false) N
theorem allK_ok {f : Nat → Bool} {N : Nat} (h : allK f N = true) {n : Nat} (hn : n < N) : f n = true := by
  induction N with
  | zero => omega
  | succ m ih =>
    obtain ⟨h1, h2⟩ := bc_and.1 (show bc (f m) (allK f m) false = true from h)
    by_cases e : n = m
    · rw [e]; exact h1
    · exact ih h2 (by omega)
theorem allC {f : Nat → Bool} {c : Nat → Bool} {N : Nat} (h : allK (fun n => bc (c n) (f n) true) N = true) {n : Nat} (hn : n < N) (hc : c n = true) : f n = true := by
  have := allK_ok h hn
  rw [hc] at this
  exact this
theorem all2 {t u : Nat → Nat → PT} {c d : Nat → Bool} {N M : Nat} {n m : Nat} (h1 : allK (fun n => bc (c n) ((t n m).chk 1) true) N = true) (h2 : allK (fun m => bc (d m) ((t n m).chk 2) true) M = true)
    (hu : (t n m).both = u n m) (h3 : allK (fun n => bc (c n) (allK (fun m => bc (d m) ((u n m).chk 3) true) M) true) N = true) (hn : n < N) (hm : m < M) (hc : c n = true) (hd : d m = true) : (t n m).prop :=
  PT.ok _ (allC (f := fun n => (t n m).chk 1) h1 hn hc) (allC (f := fun m => (t n m).chk 2) h2 hm hd) (by
    rw [← PT.both_chk, hu]
    exact allC (f := fun m => (u n m).chk 3) (allC (f := fun n => allK (fun m => bc (d m) ((u n m).chk 3) true) M) h3 hn hc) hm hd)
end
theorem told_pt {P : Program} {D : Nat → Array Oper → AC} (hD : DrawOk P D) {M : Nat → Option (List AV → Hp → RV)} (hM : Good P fun f args h => ocase .no (fun m => m args h) (M f)) {N d f : Nat} {w : World}
    {args : List AV} {cargs : Array Value} (t : PT) (e : evFW M (progS P D) N d f args H0 t.orc.n t.orc (fun v _ _ _ => v = .bool true) = t.prop) (hp : t.prop) (r : VRs Mp.none args cargs.toList) :
    Calls P f cargs w fun e w' => e = .returned (.bool true) ∧ RowKit.Below w.heap.size w w' := told_law hD hM N d f w args cargs r t.orc (e ▸ hp)
end Eng
end
section
namespace Eng
open Go
theorem goes_of {c : OpenClaim} {P : Program} {f : FuncId} (hst : c.start = .entering) (hfn : P.funcNamed c.func = some f) (hall : P.funcs.any Func.goes = false) : false = c.goesBy P := by
  have h : ∀ g : Nat, (P.funcs[g]?).any Func.goes = false := fun g => by
    cases e : P.funcs[g]? with
    | none => rfl
    | some fn =>
      cases hp : fn.goes with
      | false => exact hp
      | true =>
        have := Array.any_eq_true'.2 ⟨fn, Array.mem_of_getElem? e, hp⟩
        rw [hall] at this; cases this
  unfold OpenClaim.goesBy Program.goesAt Program.goesFrom
  rw [hfn, hst]
  show false = (P.goes f || false)
  rw [Bool.or_false]
  unfold Program.goes
  rw [hall, Bool.and_false, Bool.or_false, show (fun g => (P.funcs[g]?).any Func.goes) = fun _ => false from funext h]
  simp
end Eng
end
