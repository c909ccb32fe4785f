/- More walks. -/
import Derived.Test.YtejiebbbodealaaLeb3
set_option linter.unusedVariables false
namespace Go.Proofs.Ytejiebbbodealaa
set_option linter.unusedVariables false
open Go Eng
noncomputable abbrev CC (d : Nat) : CallT := evF (sumT [15, 34, 40]) (progS Try.prog (compDrawn Try.prog)) 100000 d
theorem s_last (d : Nat) : LastS (CC (d + 1)) 75 := fun x left s h hx h1 h2 => by
  rw [CC, evF_at (sumT_none rfl)]
  obtain ⟨v, h', e, rfl, rfl⟩ := last_walk (call := CC d) (N := 100000) (h := h) (sg := s) hx h1 h2
  exact e
theorem s_read (d : Nat) : ReadS (CC (d + 2)) 56 fun size sg l => readG size sg l 0 0 0 := fun B h vb l size sg hb hl hs => by
  rw [CC, evF_at (sumT_none rfl)]
  obtain ⟨v, h', e, rfl, rfl⟩ := read_walk (call := CC (d + 1)) (N := 100000) (h := h) (sg := sg) (size := size) hb (by omega) (by omega) (by omega) (s_last d) (by omega)
  exact e
theorem s_clone (d : Nat) : CloneS (CC (d + 1)) 59 := fun {B h vb l} hB hl hb => by
  rw [CC, evF_at (sumT_none rfl)]
  exact clone_walk (call := CC d) (N := 100000) hB hl hb
theorem s_put (d : Nat) : JoinS (CC (d + 2)) 55 := fun {B h vb vl l m} hB hb hm hl hl2 => by
  rw [CC, evF_at (sumT_none rfl)]
  exact put_walk (call := CC (d + 1)) (N := 100000) hB hb hm hl hl2 (s_clone d)
theorem s_putU (d : Nat) : PutUS (CC (d + 3)) 16 := fun {B h vb l v} hB hb hl hv => by
  rw [CC, evF_at (sumT_none rfl)]
  exact putU_walk (call := CC (d + 2)) (N := 100000) hB hb hl hv (by decide) (s_put d)
theorem s_putS (d : Nat) : PutSS (CC (d + 3)) 18 := fun {B h vb l v} hB hb hl hv => by
  rw [CC, evF_at (sumT_none rfl)]
  exact putS_walk (call := CC (d + 2)) (N := 100000) hB hb hl hv (by decide) (s_put d)
theorem s_rputU (d : Nat) : PutUS (CC (d + 1)) 17 := fun {B h vb l v} hB hb hl hv => by
  rw [CC, evF_at (sumT_none rfl)]
  exact rputU_walk (call := CC d) (N := 100000) hB hb hl hv (by decide)
theorem s_rputS (d : Nat) : PutSS (CC (d + 1)) 19 := fun {B h vb l v} hB hb hl hv => by
  rw [CC, evF_at (sumT_none rfl)]
  exact rputS_walk (call := CC d) (N := 100000) hB hb hl hv (by decide)
theorem s_number (d : Nat) (size : Nat) (sg : Bool) (hp : size = 33 → sg = true) : ∀ (B : Nat) (h : Hp) (vb : AV) (l : List Nat), Bytes B h vb l → l.length < 90000 → size = 32 ∨ size = 33 ∨ size = 64 →
    CC (d + 1) 57 [vb, .int .i64 (.ofNat size), .bool sg] h = .ok (numT .u64 (readG size sg l 0 0 0)) h := fun B h vb l hb hl hs => by
  rw [CC, evF_at (sumT_none rfl)]
  rcases hs with rfl | rfl | rfl
  · cases sg with
    | false => obtain ⟨v, h', e, rfl, rfl⟩ := num32u_walk (call := CC d) (N := 100000) (h := h) hb (by omega) (by decide); exact e
    | true => obtain ⟨v, h', e, rfl, rfl⟩ := num32s_walk (call := CC d) (N := 100000) (h := h) hb (by omega) (by decide); exact e
  · obtain rfl := hp rfl
    obtain ⟨v, h', e, rfl, rfl⟩ := num33s_walk (call := CC d) (N := 100000) (h := h) hb (by omega) (by decide); exact e
  · cases sg with
    | false => obtain ⟨v, h', e, rfl, rfl⟩ := num64u_walk (call := CC d) (N := 100000) (h := h) hb (by omega) (by decide); exact e
    | true => obtain ⟨v, h', e, rfl, rfl⟩ := num64s_walk (call := CC d) (N := 100000) (h := h) hb (by omega) (by decide); exact e
theorem s_U32 (d : Nat) : NumS (CC (d + 3)) 22 32 false .u32 (fun n => .ofNat (n % 4294967296)) := fun {B h vb l} hb hl => by
  rw [CC, evF_at (sumT_none rfl)]
  obtain ⟨v, h', e, rfl, rfl⟩ := U32_walk (call := CC (d + 2)) (N := 100000) (h := h) hb hl (fun B h vb l hb hl _ => s_read d B h vb l 32 false hb hl (by decide))
  exact e
theorem s_U64 (d : Nat) : NumS (CC (d + 3)) 26 64 false .u64 (fun n => .ofNat n) := fun {B h vb l} hb hl => by
  rw [CC, evF_at (sumT_none rfl)]
  obtain ⟨v, h', e, rfl, rfl⟩ := U64_walk (call := CC (d + 2)) (N := 100000) (h := h) hb hl (fun B h vb l hb hl _ => s_read d B h vb l 64 false hb hl (by decide))
  exact e
theorem s_S32 (d : Nat) : NumS (CC (d + 3)) 23 32 true .i32 (sInt .i32) := fun {B h vb l} hb hl => by
  rw [CC, evF_at (sumT_none rfl)]
  obtain ⟨v, h', e, rfl, rfl⟩ := S32_walk (call := CC (d + 2)) (N := 100000) (h := h) hb hl (fun B h vb l hb hl _ => s_read d B h vb l 32 true hb hl (by decide))
  exact e
theorem s_S33 (d : Nat) : NumS (CC (d + 3)) 29 33 true .i64 (sInt .i64) := fun {B h vb l} hb hl => by
  rw [CC, evF_at (sumT_none rfl)]
  obtain ⟨v, h', e, rfl, rfl⟩ := S33_walk (call := CC (d + 2)) (N := 100000) (h := h) hb hl (fun B h vb l hb hl _ => s_read d B h vb l 33 true hb hl (by decide))
  exact e
theorem s_S64 (d : Nat) : NumS (CC (d + 3)) 20 64 true .i64 (sInt .i64) := fun {B h vb l} hb hl => by
  rw [CC, evF_at (sumT_none rfl)]
  obtain ⟨v, h', e, rfl, rfl⟩ := S64_walk (call := CC (d + 2)) (N := 100000) (h := h) hb hl (fun B h vb l hb hl _ => s_read d B h vb l 64 true hb hl (by decide))
  exact e
theorem s_rU32 (d : Nat) : NumS (CC (d + 2)) 25 32 false .u32 (fun n => .ofNat (n % 4294967296)) := fun {B h vb l} hb hl => by
  rw [CC, evF_at (sumT_none rfl)]
  obtain ⟨v, h', e, rfl, rfl⟩ := rU32_walk (call := CC (d + 1)) (N := 100000) (h := h) hb hl (fun B h vb l hb hl _ => s_number d 32 false (by decide) B h vb l hb hl (by decide))
  exact e
theorem s_rU64 (d : Nat) : NumS (CC (d + 2)) 27 64 false .u64 (fun n => .ofNat n) := fun {B h vb l} hb hl => by
  rw [CC, evF_at (sumT_none rfl)]
  obtain ⟨v, h', e, rfl, rfl⟩ := rU64_walk (call := CC (d + 1)) (N := 100000) (h := h) hb hl (fun B h vb l hb hl _ => s_number d 64 false (by decide) B h vb l hb hl (by decide))
  exact e
theorem s_rS32 (d : Nat) : NumS (CC (d + 2)) 28 32 true .i32 (sInt .i32) := fun {B h vb l} hb hl => by
  rw [CC, evF_at (sumT_none rfl)]
  obtain ⟨v, h', e, rfl, rfl⟩ := rS32_walk (call := CC (d + 1)) (N := 100000) (h := h) hb hl (fun B h vb l hb hl _ => s_number d 32 true (by decide) B h vb l hb hl (by decide))
  exact e
theorem s_rS33 (d : Nat) : NumS (CC (d + 2)) 30 33 true .i64 (sInt .i64) := fun {B h vb l} hb hl => by
  rw [CC, evF_at (sumT_none rfl)]
  obtain ⟨v, h', e, rfl, rfl⟩ := rS33_walk (call := CC (d + 1)) (N := 100000) (h := h) hb hl (fun B h vb l hb hl _ => s_number d 33 true (by decide) B h vb l hb hl (by decide))
  exact e
theorem s_rS64 (d : Nat) : NumS (CC (d + 2)) 31 64 true .i64 (sInt .i64) := fun {B h vb l} hb hl => by
  rw [CC, evF_at (sumT_none rfl)]
  obtain ⟨v, h', e, rfl, rfl⟩ := rS64_walk (call := CC (d + 1)) (N := 100000) (h := h) hb hl (fun B h vb l hb hl _ => s_number d 64 true (by decide) B h vb l hb hl (by decide))
  exact e
theorem begun15 : Eng.isTrue (Eng.evF Eng.noM (progS Try.prog (compDrawn Try.prog)) 1000 40 15 [] Eng.H0) = true := by kernel_rfl
theorem begun34 : Eng.isTrue (Eng.evF Eng.noM (progS Try.prog (compDrawn Try.prog)) 1000 40 34 [] Eng.H0) = true := by kernel_rfl
theorem begun40 : Eng.isTrue (Eng.evF Eng.noM (progS Try.prog (compDrawn Try.prog)) 1000 40 40 [] Eng.H0) = true := by kernel_rfl
theorem trues : Eng.Trues Try.prog [15, 34, 40] := fun f hf => by
  simp only [List.mem_cons, List.not_mem_nil, or_false] at hf
  rcases hf with rfl | rfl | rfl
  · exact Eng.trues_one Eng.compDrawn_ok Eng.noM_ok begun15
  · exact Eng.trues_one Eng.compDrawn_ok Eng.noM_ok begun34
  · exact Eng.trues_one Eng.compDrawn_ok Eng.noM_ok begun40
end Go.Proofs.Ytejiebbbodealaa
