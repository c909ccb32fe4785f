/- The contracts of package types, and of the reference's readers. -/
import Derived.Test.YtejiebbbodealaaTyp3
set_option linter.unusedVariables false
set_option linter.unusedSimpArgs false
namespace Go.Proofs.Ytejiebbbodealaa
open Go Eng
theorem s_cuskip (d k : Nat) : ∀ {h h0 : Hp} {G : Nat → Prop} {R : List AObj} {b : Nat} {vb : AV} (s : Cu) (rest : List AV), k ≤ s.1.length → BIn G h0 vb s.1 → s.1.length + s.2.1 < 80000 → s.2.2 < 64 → Eng.Sep (Cel b (cuC vb s rest) :: Frz G h0 :: R) h → ∃ v' h', CC (d + 1) 78 [.ptr b 0, .int .i64 (.ofNat k)] h = .ok (.tuple []) h' ∧ BIn G h0 v' (cuSkip k s).1 ∧ Eng.Sep (Cel b (cuC v' (cuSkip k s) rest) :: Frz G h0 :: R) h' :=
  fun {h h0 G R b vb} s rest hk P hl he S => by
  obtain ⟨l, n, e⟩ := s
  rw [CC, evF_at (sumT_none rfl)]
  obtain ⟨rv, rh, q, v', rfl, p, S'⟩ := one_walk_ (call := CC d) (N := 100000) (l := l) (l_n := n) (e := e) P hl he S hk
  exact ⟨v', rh, q, p, S'⟩
theorem s_val (d : Nat) : ValS (CC (d + 1)) 41 := fun x h hx => by
  rw [CC, evF_at (sumT_none rfl)]
  obtain ⟨v, h', e, rfl, rfl⟩ := value_walk (call := CC d) (N := 100000) (h := h) hx
  exact e
theorem s_rval (d : Nat) : ValS (CC (d + 1)) 42 := fun x h hx => by
  rw [CC, evF_at (sumT_none rfl)]
  obtain ⟨v, h', e, rfl, rfl⟩ := rvalue_walk (call := CC d) (N := 100000) (h := h) hx
  exact e
theorem s_ref (d : Nat) : RefS (CC (d + 1)) 47 := fun x h hx => by
  rw [CC, evF_at (sumT_none rfl)]
  obtain ⟨v, h', e, rfl, rfl⟩ := ref_walk (call := CC d) (N := 100000) (h := h) hx
  exact e
theorem s_rref (d : Nat) : RefS (CC (d + 1)) 48 := fun x h hx => by
  rw [CC, evF_at (sumT_none rfl)]
  obtain ⟨v, h', e, rfl, rfl⟩ := rref_walk (call := CC d) (N := 100000) (h := h) hx
  exact e
theorem s_cuone (d : Nat) : CuM (CC (d + 2)) 67 [] (fun s => .int .u8 (.ofNat (cuOne s).1)) (fun s => (cuOne s).2) := fun {h h0 G R b vb} s rest P hl he S => by
  obtain ⟨l, n, e⟩ := s
  rw [CC, evF_at (sumT_none rfl)]
  obtain ⟨rv, rh, q, v', rfl, p, S'⟩ := one_walk (call := CC (d + 1)) (N := 100000) (l := l) (l_n := n) (e := e) P hl he S (fun k => s_cuskip d k)
  exact ⟨v', rh, q, p, S'⟩
theorem s_cufail (d : Nat) (is : Bool) (er : Nat) : CuM (CC (d + 1)) 68 [.bool is, .int .i64 (.ofNat er)] (fun _ => .tuple []) (cuFail is er) := fun {h h0 G R b vb} s rest P hl he S => by
  obtain ⟨l, n, e⟩ := s
  rw [CC, evF_at (sumT_none rfl)]
  obtain ⟨rv, rh, q, v', rfl, p, S'⟩ := fails_walk (call := CC (d + 0)) (N := 100000) (l := l) (l_n := n) (e := e) P hl he S 
  exact ⟨v', rh, q, p, S'⟩
theorem s_cunum (d : Nat) : CuM (CC (d + 4)) 71 [] (fun s => .int .u32 (.ofNat (cuNum s).1)) (fun s => (cuNum s).2) := fun {h h0 G R b vb} s rest P hl he S => by
  obtain ⟨l, n, e⟩ := s
  rw [CC, evF_at (sumT_none rfl)]
  obtain ⟨rv, rh, q, v', rfl, p, S'⟩ := number_walk (call := CC (d + 3)) (N := 100000) (l := l) (l_n := n) (e := e) P hl he S (fun k => s_cuskip (d + 2) k) (s_U32 d)
  exact ⟨v', rh, q, p, S'⟩
theorem s_cuvals (d : Nat) : CuV (CC (d + 5)) 69 (fun s => (cuVals s).1) (fun s => (cuVals s).2) := fun {h h0 G R b vb} s rest P hl he S => by
  obtain ⟨l, n, e⟩ := s
  rw [CC, evF_at (sumT_none rfl)]
  obtain ⟨rv, rh, q, v', p, S'⟩ := values_walk (call := CC (d + 4)) (N := 100000) (l := l) (l_n := n) (e := e) P hl he S (s_cuone (d + 2)) (s_cunum d) (fun is er _ => (s_cufail (d + 3) is er)) (s_val (d + 3)) (by decide)
  exact ⟨rv, v', rh, q, p, S'⟩
theorem s_rbyte (d : Nat) : RdM (CC (d + 1)) 61 [] (fun s => .int .u8 (.ofNat (rByte s).1)) (fun s => (rByte s).2) := fun {h h0 G R b vb} s rest P hl he S => by
  obtain ⟨l, e⟩ := s
  rw [CC, evF_at (sumT_none rfl)]
  obtain ⟨rv, rh, q, v', rfl, p, S'⟩ := byte_walk (call := CC (d + 0)) (N := 100000) (l := l) (e := e) P hl he S 
  exact ⟨v', rh, q, p, S'⟩
theorem s_rfail (d : Nat) (er : Nat) : RdM (CC (d + 1)) 65 [.int .i64 (.ofNat er)] (fun _ => .tuple []) (rFail er) := fun {h h0 G R b vb} s rest P hl he S => by
  obtain ⟨l, e⟩ := s
  rw [CC, evF_at (sumT_none rfl)]
  obtain ⟨rv, rh, q, v', rfl, p, S'⟩ := fail_walk (call := CC (d + 0)) (N := 100000) (l := l) (e := e) P hl he S 
  exact ⟨v', rh, q, p, S'⟩
theorem s_rnum (d : Nat) : RdM (CC (d + 2)) 77 [.int .i64 (.ofNat 32), .bool false] (fun s => .int .u64 (.ofNat (rNum 32 false s).1)) (fun s => (rNum 32 false s).2) := fun {h h0 G R b vb} s rest P hl he S => by
  obtain ⟨l, e⟩ := s
  rw [CC, evF_at (sumT_none rfl)]
  obtain ⟨rv, rh, q, v', rfl, p, S'⟩ := num_walk (call := CC (d + 1)) (N := 100000) (l := l) (e := e) P hl he S (fun {B h vb l} hb hl => s_number d 32 false (by decide) B h vb l hb hl (by decide))
  exact ⟨v', rh, q, p, S'⟩
theorem s_ru32 (d : Nat) : RdM (CC (d + 3)) 63 [] (fun s => .int .u32 (.ofNat (rU32 s).1)) (fun s => (rU32 s).2) := fun {h h0 G R b vb} s rest P hl he S => by
  obtain ⟨l, e⟩ := s
  rw [CC, evF_at (sumT_none rfl)]
  obtain ⟨rv, rh, q, v', rfl, p, S'⟩ := u32_walk (call := CC (d + 2)) (N := 100000) (l := l) (e := e) P hl he S (s_rnum d)
  exact ⟨v', rh, q, p, S'⟩
theorem s_rvalue (d : Nat) : RdM (CC (d + 2)) 80 [] (fun s => .int .u8 (.ofNat (rVal s).1)) (fun s => (rVal s).2) := fun {h h0 G R b vb} s rest P hl he S => by
  obtain ⟨l, e⟩ := s
  rw [CC, evF_at (sumT_none rfl)]
  obtain ⟨rv, rh, q, v', rfl, p, S'⟩ := rval_walk (call := CC (d + 1)) (N := 100000) (l := l) (e := e) P hl he S (s_rbyte d) (fun er _ => (s_rfail d er)) (s_rval d)
  exact ⟨v', rh, q, p, S'⟩
theorem s_rvals (d : Nat) : RdV (CC (d + 4)) 79 (fun s => (rVals s).1) (fun s => (rVals s).2) := fun {h h0 G R b vb} s rest P hl he S => by
  obtain ⟨l, e⟩ := s
  rw [CC, evF_at (sumT_none rfl)]
  obtain ⟨rv, rh, q, v', p, S'⟩ := rvalues_walk (call := CC (d + 3)) (N := 100000) (l := l) (e := e) P hl he S (s_ru32 d) (fun er _ => (s_rfail (d + 2) er)) (s_rvalue (d + 1)) (by decide)
  exact ⟨rv, v', rh, q, p, S'⟩
theorem s_takeF (d : Nat) : TakeFS (CC (d + 6)) 43 takeF := fun {h h0 G R vb} l P hl S => by
  rw [CC, evF_at (sumT_none rfl)]
  obtain ⟨rv, rh, q, x, y, rfl, S'⟩ := takeF_walk (call := CC (d + 5)) (N := 100000) P hl S (s_cuone (d + 3)) (fun is er _ => (s_cufail (d + 4) is er)) (s_cuvals d)
  exact ⟨x, y, rh, q, S'⟩
theorem s_takeL (d : Nat) : TakeLS (CC (d + 5)) 45 takeL := fun {h h0 G R vb} l P hl S => by
  rw [CC, evF_at (sumT_none rfl)]
  obtain ⟨rv, rh, q, rfl, S'⟩ := takeL_walk (call := CC (d + 4)) (N := 100000) P hl S (s_cuone (d + 2)) (fun is er _ => (s_cufail (d + 3) is er)) (s_cunum d)
  exact ⟨rh, q, S'⟩
theorem s_rft (d : Nat) : RdF (CC (d + 5)) 70 := fun {h h0 G R b vb} s rest P hl he S => by
  obtain ⟨l, e⟩ := s
  rw [CC, evF_at (sumT_none rfl)]
  obtain ⟨rv, rh, q, x, y, v', rfl, p, S'⟩ := functype_walk (call := CC (d + 4)) (N := 100000) (l := l) (e := e) P hl he S (s_rbyte (d + 3)) (fun er _ => (s_rfail (d + 3) er)) (s_rvals d)
  exact ⟨x, y, v', rh, q, p, S'⟩
theorem s_rtakeF (d : Nat) : TakeFS (CC (d + 6)) 44 takeFr := fun {h h0 G R vb} l P hl S => by
  rw [CC, evF_at (sumT_none rfl)]
  obtain ⟨rv, rh, q, x, y, rfl, S'⟩ := rtakeF_walk (call := CC (d + 5)) (N := 100000) P hl S (s_rft d)
  exact ⟨x, y, rh, q, S'⟩
theorem s_rlm (d : Nat) : RdM (CC (d + 4)) 72 [] (fun s => .agg [.int .u32 (.ofNat (rLm s).1.1), .int .u32 (.ofNat (rLm s).1.2.1), .bool (rLm s).1.2.2]) (fun s => (rLm s).2) := fun {h h0 G R b vb} s rest P hl he S => by
  obtain ⟨l, e⟩ := s
  rw [CC, evF_at (sumT_none rfl)]
  obtain ⟨rv, rh, q, v', rfl, p, S'⟩ := limits_walk (call := CC (d + 3)) (N := 100000) (l := l) (e := e) P hl he S (s_rbyte (d + 2)) (fun er _ => (s_rfail (d + 2) er)) (s_ru32 d)
  exact ⟨v', rh, q, p, S'⟩
theorem s_rtakeL (d : Nat) : TakeLS (CC (d + 5)) 46 takeLr := fun {h h0 G R vb} l P hl S => by
  rw [CC, evF_at (sumT_none rfl)]
  obtain ⟨rv, rh, q, rfl, S'⟩ := rtakeL_walk (call := CC (d + 4)) (N := 100000) P hl S (s_rlm d)
  exact ⟨rh, q, S'⟩
end Go.Proofs.Ytejiebbbodealaa
