/- ShiftCalls' plain statement: whatever byte is moved or turned, what comes, and the flags, are what the document says, for every operator, bit, byte and flags. -/
import Derived.Test.YtpmmneipfmbmlaaHShiftCallsx3
import Derived.Test.YtpmmneipfmbmlaaBits
import Derived.Test.YtpmmneipfmbmlaaBitsS
set_option linter.unusedVariables false
set_option linter.unusedSimpArgs false
namespace Go.Proofs.Ytpmmneipfmbmlaa.Pure
open Go.RowKit Go.Proofs.Ytpmmneipfmbmlaa.HShiftCalls Go.Proofs.YtpmmneipfmbmlaaW.PrintWords Go.Proofs.YtpmmneipfmbmlaaW.PrintLast
open Go.Proofs.Ytpmmneipfmbmlaa

theorem s_shift_if1 (b : Bool) (x : Int) : shift_if1.f b x = some (B.fl b x) := by unfold shift_if1.f B.fl; split <;> rfl

theorem s_pendulumref05_Flag (b : Bool) (x : Int) : pendulumref05_Flag.f x b = some (B.fl b x) := by unfold pendulumref05_Flag.f B.fl; split <;> rfl

theorem s_alu_Own (r : Int) (h0 : 0 ≤ r) (h1 : r < 256) : alu_Own.f r = some (B.own r) := by
  unfold alu_Own.f B.own
  by_cases h : r = 0
  · subst h; rfl
  · rw [if_neg h, if_neg h, B.and168 h0 h1]; simp

theorem s_pendulumref05_Own (r : Int) (h0 : 0 ≤ r) (h1 : r < 256) : pendulumref05_Own.f r = some (B.own r) := by
  unfold pendulumref05_Own.f B.own
  by_cases h : r = 0
  · subst h; rfl
  · rw [if_neg h, if_neg h, B.and168 h0 h1]; simp

theorem s_alu_Parity (r : Int) (h0 : 0 ≤ r) (h1 : r < 256) : alu_Parity.f r = some (B.par r) :=
  B.all8 (P := fun r => alu_Parity.f r = some (B.par r)) (by decide +kernel) r h0 h1

theorem s_pendulumref05_Parity (k : Nat) (hk : 9 ≤ k) (r : Int) (h0 : 0 ≤ r) (h1 : r < 256) : pendulumref05_Parity.f k r = some (B.par r) := by
  obtain ⟨d, rfl⟩ := Nat.exists_eq_add_of_le hk
  clear hk
  induction d with
  | zero => exact B.all8 (P := fun r => pendulumref05_Parity.f 9 r = some (B.par r)) (by decide +kernel) r h0 h1
  | succ d ih => exact pendulumref05_Parity.mono r (9 + d) _ ih

theorem s_pendulumref05_Logic (k : Nat) (hk : 9 ≤ k) (r : Int) (h0 : 0 ≤ r) (h1 : r < 256) : pendulumref05_Logic.f k r = some (B.logic r) := by
  unfold pendulumref05_Logic.f B.logic
  rw [s_pendulumref05_Own r h0 h1, Option.bind_some, s_pendulumref05_Parity k hk r h0 h1, Option.bind_some, s_pendulumref05_Flag, Option.bind_some]

theorem s_shift_whole (r : Int) (h0 : 0 ≤ r) (h1 : r < 256) : shift_whole.f r = some (B.logic r) := by
  unfold shift_whole.f B.logic
  rw [s_alu_Own r h0 h1, Option.bind_some, s_alu_Parity r h0 h1, Option.bind_some, s_shift_if1, Option.bind_some]

theorem b_shift_moved : ∀ o : Fin 8, ∀ a : Fin 256, ∀ c : Fin 2, shift_moved.f 3 (o.val : Int) (a.val : Int) (c.val : Int) = some (B.mvR o.val a.val c.val, B.mvO o.val a.val) := by decide +kernel
theorem s_shift_moved (k : Nat) (op a f : Int) (a0 : 0 ≤ a) (a1 : a < 256) (f0 : 0 ≤ f) (f1 : f < 256) : shift_moved.f (k + 3) op a f = some (B.mvR (op % 8) a (f % 2), B.mvO (op % 8) a) := by
  have e1 : Go.bits .and .i64 op 7 = Go.bits .and .i64 (op % 8) 7 := by rw [B.i64_7, B.i64_7]; omega
  have e2 : Go.bits .and .i64 op 1 = Go.bits .and .i64 (op % 8) 1 := by rw [B.i64_1, B.i64_1]; omega
  have e3 : Go.bits .and .u8 f 1 = Go.bits .and .u8 (f % 2) 1 := by rw [B.and1 f0 f1, B.and1 (by omega) (by omega)]; omega
  have h : shift_moved.f 3 op a f = some (B.mvR (op % 8) a (f % 2), B.mvO (op % 8) a) := by
    have b := b_shift_moved ⟨(op % 8).toNat, by omega⟩ ⟨a.toNat, by omega⟩ ⟨(f % 2).toNat, by omega⟩
    simp only [Int.toNat_of_nonneg a0, Int.toNat_of_nonneg (show 0 ≤ op % 8 by omega), Int.toNat_of_nonneg (show 0 ≤ f % 2 by omega)] at b
    rw [← b]
    simp only [shift_moved.f, shift_moved.j0, shift_moved.j1, shift_moved.j2, e1, e2, e3]
  induction k with
  | zero => exact h
  | succ k ih => exact shift_moved.mono op a f (k + 3) _ ih

theorem s_shift_Shift (k : Nat) (op a f : Int) (a0 : 0 ≤ a) (a1 : a < 256) (f0 : 0 ≤ f) (f1 : f < 256) : shift_Shift.f (k + 3) op a f = some (B.mvR (op % 8) a (f % 2), Go.bits .or .u8 (B.logic (B.mvR (op % 8) a (f % 2))) (B.mvO (op % 8) a)) := by
  have r := B.mv_range (op % 8) a (f % 2) a0 a1 (by omega)
  unfold shift_Shift.f
  rw [s_shift_moved k op a f a0 a1 f0 f1, Option.bind_some]
  dsimp only
  rw [s_shift_whole _ r.1 r.2.1, Option.bind_some]

theorem s_shift_Turn (k : Nat) (op a f : Int) (a0 : 0 ≤ a) (a1 : a < 256) (f0 : 0 ≤ f) (f1 : f < 256) : shift_Turn.f (k + 3) op a f = some (B.mvR (op % 4) a (f % 2), Go.bits .or .u8 (Go.bits .or .u8 (Go.bits .and .u8 f 196) (Go.bits .and .u8 (B.mvR (op % 4) a (f % 2)) 40)) (B.mvO (op % 4) a)) := by
  unfold shift_Turn.f
  rw [B.i64_3, s_shift_moved k (op % 4) a f a0 a1 f0 f1, show op % 4 % 8 = op % 4 by omega, Option.bind_some]

theorem s_Mod8 (n : Int) (n0 : -9223372036854775808 ≤ n) (n1 : n ≤ 9223372036854775807) : pendulumref05_Mod.f n 8 = some (n % 8) := by
  unfold pendulumref05_Mod.f
  have h := Int.tmod_add_mul_tdiv n 8
  have h1 : n.tmod 8 < 8 := Int.tmod_lt_of_pos n (by decide)
  have h2 : -8 < n.tmod 8 := Int.lt_tmod_of_pos n (by decide)
  rw [if_neg (by decide)]
  split
  · rw [B.w64 (by omega) (by omega)]; congr 1; omega
  · congr 1; omega
theorem s_Mod4 (n : Int) (n0 : -9223372036854775808 ≤ n) (n1 : n ≤ 9223372036854775807) : pendulumref05_Mod.f n 4 = some (n % 4) := by
  unfold pendulumref05_Mod.f
  have h := Int.tmod_add_mul_tdiv n 4
  have h1 : n.tmod 4 < 4 := Int.tmod_lt_of_pos n (by decide)
  have h2 : -4 < n.tmod 4 := Int.lt_tmod_of_pos n (by decide)
  rw [if_neg (by decide)]
  split
  · rw [B.w64 (by omega) (by omega)]; congr 1; omega
  · congr 1; omega

theorem b_ref_moved : ∀ o : Fin 8, ∀ a : Fin 256, ∀ c : Fin 2, pendulumref06_moved.f 1 (o.val : Int) (a.val : Int) (c.val : Int) = some (B.mvR o.val a.val c.val, decide (B.mvO o.val a.val = 1)) := by decide +kernel
theorem s_ref_moved (k : Nat) (o a f : Int) (o0 : 0 ≤ o) (o1 : o < 8) (a0 : 0 ≤ a) (a1 : a < 256) (f0 : 0 ≤ f) (f1 : f < 256) : pendulumref06_moved.f (k + 1) o a f = some (B.mvR o a (f % 2), decide (B.mvO o a = 1)) := by
  have h : pendulumref06_moved.f 1 o a f = some (B.mvR o a (f % 2), decide (B.mvO o a = 1)) := by
    have b := b_ref_moved ⟨o.toNat, by omega⟩ ⟨a.toNat, by omega⟩ ⟨(f % 2).toNat, by omega⟩
    simp only [Int.toNat_of_nonneg a0, Int.toNat_of_nonneg o0, Int.toNat_of_nonneg (show 0 ≤ f % 2 by omega)] at b
    rw [← b]
    have e : Int.tmod f 2 = Int.tmod (f % 2) 2 := by rw [B.tm 2 f0, B.tm 2 (by omega)]; omega
    simp only [pendulumref06_moved.f, e]
  induction k with
  | zero => exact h
  | succ k ih => exact pendulumref06_moved.mono o a f (k + 1) _ ih
theorem fl_out (o a : Int) (h : B.mvO o a = 0 ∨ B.mvO o a = 1) : B.fl (decide (B.mvO o a = 1)) 1 = B.mvO o a := by
  rcases h with h | h <;> rw [h] <;> rfl
theorem lives : pendulumlaw06_lives.f 20 = some true := by decide +kernel
theorem nat_bit8 (a j : Nat) : a &&& 2 ^ j = a / 2 ^ j % 2 * 2 ^ j := nat_bit j a
theorem bit_eq (n a b f : Int) (n0 : -9223372036854775808 ≤ n) (n1 : n ≤ 9223372036854775807) (a0 : 0 ≤ a) (a1 : a < 256) (b0 : 0 ≤ b) (b1 : b < 256) (f0 : 0 ≤ f) (f1 : f < 256) :
    shift_Bit.f n a b f = pendulumref06_Bit.f n a b f ∧ ∃ z, shift_Bit.f n a b f = some z := by
  have w : IntKind.u64.wrap (n % 8) = n % 8 := by rw [B.wu64]; omega
  obtain ⟨j, hj⟩ : ∃ j : Fin 8, n % 8 = (j.val : Int) := ⟨⟨(n % 8).toNat, by omega⟩, by simp; omega⟩
  have hb : pendulumref06_bit.f n = some ((2 ^ j.val : Nat) : Int) := by
    unfold pendulumref06_bit.f
    rw [s_Mod8 n n0 n1, Option.bind_some, w, if_pos (by omega), hj]
    have : ∀ j : Fin 8, shl .u8 1 (j.val : Int) = ((2 ^ j.val : Nat) : Int) := by decide +kernel
    rw [this]
  have hs : Go.bits .and .u8 (shr .u8 a (n % 8)) 1 = a / (2 ^ j.val : Nat) % 2 := by
    have : ∀ j : Fin 8, ∀ a : Fin 256, Go.bits .and .u8 (shr .u8 (a.val : Int) (j.val : Int)) 1 = (a.val : Int) / (2 ^ j.val : Nat) % 2 := by decide +kernel
    have h := this j ⟨a.toNat, by omega⟩
    simp only [Int.toNat_of_nonneg a0] at h
    rw [hj, h]
  have ha : Go.bits .and .u8 a ((2 ^ j.val : Nat) : Int) = a / (2 ^ j.val : Nat) % 2 * (2 ^ j.val : Nat) := by
    have : ∀ j : Fin 8, ∀ a : Fin 256, Go.bits .and .u8 (a.val : Int) ((2 ^ j.val : Nat) : Int) = (a.val : Int) / (2 ^ j.val : Nat) % 2 * (2 ^ j.val : Nat) := by decide +kernel
    have h := this j ⟨a.toNat, by omega⟩
    simp only [Int.toNat_of_nonneg a0] at h
    exact h
  have h7 : (n % 8 == 7) = (decide (j.val = 7)) := by rw [hj, B.beqi]; exact B.bdec (by omega)
  have hk : Go.bits .and .u8 ((2 ^ j.val : Nat) : Int) 128 = B.fl (decide (j.val = 7)) 128 := by
    have : ∀ j : Fin 8, Go.bits .and .u8 ((2 ^ j.val : Nat) : Int) 128 = B.fl (decide (j.val = 7)) 128 := by decide +kernel
    exact this j
  have t0 : a / (2 ^ j.val : Nat) % 2 = 0 ∨ a / (2 ^ j.val : Nat) % 2 = 1 := Int.emod_two_eq _
  have p0 : (0 : Int) < (2 ^ j.val : Nat) := by have := Nat.two_pow_pos j.val; omega
  unfold shift_Bit.f pendulumref06_Bit.f pendulumref06_yx.f
  rw [B.i64_7, w, if_pos (by omega), hs, h7, hb, Option.bind_some, Option.bind_some, Option.bind_some, ha, hk, B.and40 b0 b1, B.and1 f0 f1]
  have y0 : b / 32 % 2 = 0 ∨ b / 32 % 2 = 1 := Int.emod_two_eq _
  have x0 : b / 8 % 2 = 0 ∨ b / 8 % 2 = 1 := Int.emod_two_eq _
  have c0 : f % 2 = 0 ∨ f % 2 = 1 := Int.emod_two_eq _
  clear hs hb ha hk h7 w hj
  generalize b / 32 % 2 = y at *
  generalize b / 8 % 2 = x at *
  generalize f % 2 = c at *
  generalize a / ((2 ^ j.val : Nat) : Int) % 2 = t at *
  have s7 : decide (j.val = 7) = true ∨ decide (j.val = 7) = false := by cases decide (j.val = 7) <;> simp
  generalize decide (j.val = 7) = q at *
  simp only [s_shift_if1, Option.bind_some]
  rcases t0 with rfl | rfl
  · rw [if_neg (by decide), if_pos (by simp)]
    rcases y0 with rfl | rfl <;> rcases x0 with rfl | rfl <;> rcases c0 with rfl | rfl <;> exact ⟨by decide +kernel, _, rfl⟩
  · rw [if_pos rfl, if_neg (by omega)]
    rcases y0 with rfl | rfl <;> rcases x0 with rfl | rfl <;> rcases c0 with rfl | rfl <;> rcases s7 with rfl | rfl <;> exact ⟨by decide +kernel, _, rfl⟩
theorem ShiftCalls : pendulumlaw06_ShiftCalls.Pure := by
  intro op n a b f ho hn ha hb hf
  obtain ⟨o0, o1⟩ := bounds_i64 ho
  obtain ⟨n0, n1⟩ := bounds_i64 hn
  obtain ⟨a0, a1⟩ := bounds_u8 ha
  obtain ⟨b0, b1⟩ := bounds_u8 hb
  obtain ⟨f0, f1⟩ := bounds_u8 hf
  have a2 : a < 256 := by omega
  have b2 : b < 256 := by omega
  have f2 : f < 256 := by omega
  have m8 := B.mv_range (op % 8) a (f % 2) a0 a2 (by omega)
  have m4 := B.mv_range (op % 4) a (f % 2) a0 a2 (by omega)
  have w : IntKind.u64.wrap (n % 8) = n % 8 := by rw [B.wu64]; omega
  refine ⟨20, ?_⟩
  unfold pendulumlaw06_ShiftCalls.f
  have hS : pendulumref06_Shift.f 20 op a f = shift_Shift.f 20 op a f := by
    unfold pendulumref06_Shift.f
    rw [s_shift_Shift 17 op a f a0 a2 f0 f2, s_Mod8 op o0 o1, Option.bind_some, s_ref_moved 19 (op % 8) a f (by omega) (by omega) a0 a2 f0 f2, Option.bind_some]
    dsimp only
    rw [s_pendulumref05_Logic 20 (by omega) _ m8.1 m8.2.1, Option.bind_some, s_pendulumref05_Flag, Option.bind_some, fl_out _ _ m8.2.2]
  have hT : pendulumref06_Turn.f 20 op a f = shift_Turn.f 20 op a f := by
    unfold pendulumref06_Turn.f pendulumref06_kept.f pendulumref06_yx.f
    rw [s_shift_Turn 17 op a f a0 a2 f0 f2, s_Mod4 op o0 o1, Option.bind_some, s_ref_moved 19 (op % 4) a f (by omega) (by omega) a0 a2 f0 f2, Option.bind_some, Option.bind_some, Option.bind_some, s_pendulumref05_Flag, Option.bind_some, fl_out _ _ m4.2.2]
  rw [lives, Option.bind_some, if_pos rfl, hS, hT, s_shift_Shift 17 op a f a0 a2 f0 f2, s_shift_Turn 17 op a f a0 a2 f0 f2]
  simp only [Option.bind_some, if_true]
  obtain ⟨hB, z, hz⟩ := bit_eq n a b f n0 n1 a0 a2 b0 b2 f0 f2
  rw [← hB, hz, Option.bind_some, Option.bind_some, if_pos rfl]
  unfold shift_Res.f pendulumref06_Res.f shift_Set.f pendulumref06_Set.f pendulumref06_bit.f
  rw [B.i64_7, s_Mod8 n n0 n1, Option.bind_some, w, if_pos (by omega), if_pos (by omega), if_pos (by omega)]
  simp

end Go.Proofs.Ytpmmneipfmbmlaa.Pure
