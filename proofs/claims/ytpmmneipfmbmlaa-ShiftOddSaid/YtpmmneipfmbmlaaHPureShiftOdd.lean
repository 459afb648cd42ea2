/- ShiftOdd's plain statement: the accumulator's odd operations are what the document says, for all bytes and flags. -/
import Derived.Test.YtpmmneipfmbmlaaHShiftOddx4
import Derived.Test.YtpmmneipfmbmlaaBits
import Derived.Test.YtpmmneipfmbmlaaBitsS
set_option linter.unusedVariables false
set_option linter.unusedSimpArgs false
namespace Go.Proofs.Ytpmmneipfmbmlaa.Pure
open Go.RowKit Go.Proofs.Ytpmmneipfmbmlaa.HShiftOdd Go.Proofs.YtpmmneipfmbmlaaW.PrintWords Go.Proofs.YtpmmneipfmbmlaaW.PrintLast
open Go.Proofs.Ytpmmneipfmbmlaa

theorem s_shift_if1 (b : Bool) (x : Int) : shift_if1.f b x = some (B.fl b x) := by unfold shift_if1.f B.fl; split <;> rfl

theorem s_pendulumref05_Flag (b : Bool) (x : Int) : pendulumref05_Flag.f x b = some (B.fl b x) := by unfold pendulumref05_Flag.f B.fl; split <;> rfl

theorem s_alu_Own (r : Int) (h0 : 0 ≤ r) (h1 : r < 256) : alu_Own.f r = some (B.own r) := by
  unfold alu_Own.f B.own
  by_cases h : r = 0
  · subst h; rfl
  · rw [if_neg h, if_neg h, B.and168 h0 h1]; simp

theorem s_pendulumref05_Own (r : Int) (h0 : 0 ≤ r) (h1 : r < 256) : pendulumref05_Own.f r = some (B.own r) := by
  unfold pendulumref05_Own.f B.own
  by_cases h : r = 0
  · subst h; rfl
  · rw [if_neg h, if_neg h, B.and168 h0 h1]; simp

theorem s_alu_Parity (r : Int) (h0 : 0 ≤ r) (h1 : r < 256) : alu_Parity.f r = some (B.par r) :=
  B.all8 (P := fun r => alu_Parity.f r = some (B.par r)) (by decide +kernel) r h0 h1

theorem s_pendulumref05_Parity (k : Nat) (hk : 9 ≤ k) (r : Int) (h0 : 0 ≤ r) (h1 : r < 256) : pendulumref05_Parity.f k r = some (B.par r) := by
  obtain ⟨d, rfl⟩ := Nat.exists_eq_add_of_le hk
  clear hk
  induction d with
  | zero => exact B.all8 (P := fun r => pendulumref05_Parity.f 9 r = some (B.par r)) (by decide +kernel) r h0 h1
  | succ d ih => exact pendulumref05_Parity.mono r (9 + d) _ ih

theorem s_pendulumref05_Logic (k : Nat) (hk : 9 ≤ k) (r : Int) (h0 : 0 ≤ r) (h1 : r < 256) : pendulumref05_Logic.f k r = some (B.logic r) := by
  unfold pendulumref05_Logic.f B.logic
  rw [s_pendulumref05_Own r h0 h1, Option.bind_some, s_pendulumref05_Parity k hk r h0 h1, Option.bind_some, s_pendulumref05_Flag, Option.bind_some]

theorem s_shift_whole (r : Int) (h0 : 0 ≤ r) (h1 : r < 256) : shift_whole.f r = some (B.logic r) := by
  unfold shift_whole.f B.logic
  rw [s_alu_Own r h0 h1, Option.bind_some, s_alu_Parity r h0 h1, Option.bind_some, s_shift_if1, Option.bind_some]

theorem s_shift_Daa (k : Nat) (a f : Int) (a0 : 0 ≤ a) (a1 : a < 256) (f0 : 0 ≤ f) (f1 : f < 256) : shift_Daa.f (k + 4) a f = some (B.daaR a f, B.daaF a f) := by
  have w1 : ∀ x : Int, shift_whole.f (x % 256) = some (B.logic (x % 256)) := fun x => s_shift_whole _ (by omega) (by omega)
  simp only [shift_Daa.f, shift_Daa.j0, shift_Daa.j1, shift_Daa.j2, shift_Daa.j3, s_shift_if1, w1, Option.bind_some, B.daaR, B.daaF, B.daaBy, B.daaC, B.daaH]
  by_cases c1 : Go.bits .and .u8 f 1 = 0 <;> by_cases c2 : a > 153 <;> by_cases c3 : Go.bits .and .u8 f 16 = 0 <;> by_cases c4 : Go.bits .and .u8 a 15 > 9 <;> by_cases c5 : Go.bits .and .u8 f 2 = 0 <;> by_cases c6 : Go.bits .and .u8 a 15 < 6 <;>
    simp [c1, c2, c3, c4, c5, c6, B.fl]

theorem s_ref_Daa (k : Nat) (a f : Int) (a0 : 0 ≤ a) (a1 : a < 256) (f0 : 0 ≤ f) (f1 : f < 256) : pendulumref06_Daa.f (k + 20) a f = some (B.daaR a f, B.daaF a f) := by
  have w1 : ∀ (n : Nat) (x : Int), pendulumref05_Logic.f (k + n + 9) (x % 256) = some (B.logic (x % 256)) := fun n x => s_pendulumref05_Logic (k + n + 9) (by omega) _ (by omega) (by omega)
  have w2 := w1 7
  have e : Int.tmod a 16 = Go.bits .and .u8 a 15 := by rw [B.and15 a0 a1, B.tm16 a0]
  simp only [pendulumref06_Daa.f, pendulumref06_Daa.j0, pendulumref06_Daa.j1, pendulumref06_Daa.j2, pendulumref06_Daa.j3, s_pendulumref05_Flag, w2, e, Option.bind_some, B.daaR, B.daaF, B.daaBy, B.daaC, B.daaH]
  by_cases c1 : Go.bits .and .u8 f 1 = 0 <;> by_cases c2 : a > 153 <;> by_cases c3 : Go.bits .and .u8 f 16 = 0 <;> by_cases c4 : Go.bits .and .u8 a 15 > 9 <;> by_cases c5 : Go.bits .and .u8 f 2 = 0 <;> by_cases c6 : Go.bits .and .u8 a 15 < 6 <;>
    simp [c1, c2, c3, c4, c5, c6, B.fl]
theorem lives : pendulumlaw06_lives.f 20 = some true := by decide +kernel
theorem ShiftOdd : pendulumlaw06_ShiftOdd.Pure := by
  intro a m f ha hm hf
  obtain ⟨a0, a1⟩ := bounds_u8 ha
  obtain ⟨m0, m1⟩ := bounds_u8 hm
  obtain ⟨f0, f1⟩ := bounds_u8 hf
  have a2 : a < 256 := by omega
  have m2 : m < 256 := by omega
  have f2 : f < 256 := by omega
  refine ⟨20, ?_⟩
  unfold pendulumlaw06_ShiftOdd.f
  rw [lives, Option.bind_some, if_pos rfl, s_shift_Daa 16 a f a0 a2 f0 f2, s_ref_Daa 0 a f a0 a2 f0 f2, Option.bind_some, Option.bind_some]
  have ex : Go.bits .xor .u8 255 a = 255 - a := B.all8 (P := fun a => Go.bits .xor .u8 255 a = 255 - a) (by decide +kernel) a a0 a2
  have ec : Go.bits .or .u8 (Go.bits .and .u8 f 196) (Go.bits .and .u8 f 1) = Go.bits .and .u8 f 197 := B.all8 (P := fun f => Go.bits .or .u8 (Go.bits .and .u8 f 196) (Go.bits .and .u8 f 1) = Go.bits .and .u8 f 197) (by decide +kernel) f f0 f2
  unfold shift_Cpl.f pendulumref06_Cpl.f pendulumref06_kept.f pendulumref06_yx.f
  rw [ex, show (255 - a) % 256 = 255 - a by omega]
  simp only [Option.bind_some]
  rw [ec, if_pos trivial, if_pos trivial, if_pos trivial, if_pos rfl]
  unfold shift_Scf.f pendulumref06_Scf.f pendulumref06_kept.f pendulumref06_yx.f
  simp only [Option.bind_some]
  rw [if_pos trivial]
  have z0 : ∀ x : Int, 0 ≤ x → x < 256 → Go.bits .or .u8 x 0 = x := fun x h0 h1 => B.all8 (P := fun x => Go.bits .or .u8 x 0 = x) (by decide +kernel) x h0 h1
  have A := B.and_range f 196 f0 f2 (by omega) (by omega)
  have C := B.and_range a 40 a0 a2 (by omega) (by omega)
  have O := B.or_range _ _ A.1 A.2 C.1 C.2
  have O2 := B.or_range _ 16 O.1 O.2 (by omega) (by omega)
  have hccf : shift_Ccf.f a f = pendulumref06_Ccf.f a f ∧ (∃ z, shift_Ccf.f a f = some z) := by
    unfold shift_Ccf.f pendulumref06_Ccf.f pendulumref06_kept.f pendulumref06_yx.f
    rw [s_shift_if1, Option.bind_some, s_shift_if1, Option.bind_some]
    simp only [Option.bind_some]
    by_cases c : Go.bits .and .u8 f 1 = 0
    · rw [if_pos c, c]; simp [B.fl, z0 _ O.1 O.2]
    · rw [if_neg c]; simp [B.fl, c, z0 _ O2.1 O2.2]
  obtain ⟨z, hz⟩ := hccf.2
  rw [← hccf.1, hz, Option.bind_some, Option.bind_some]
  simp only [bne_self_eq_false, pendulumlaw06_ShiftOdd.j0]
  rw [if_neg (by decide)]
  have A240 := B.and240 a0 a2
  have A15 := B.and15 a0 a2
  have M15 := B.and15 m0 m2
  unfold shift_Rld.f pendulumref06_Rld.f shift_Rrd.f pendulumref06_Rrd.f
  rw [A240, A15, M15, B.or_join8 (x := a / 16 * 16) (y := m / 16) (by omega) (by omega) (by omega) (by omega) (by omega), B.or_join8 (x := m * 16 % 256) (y := a % 16) (by omega) (by omega) (by omega) (by omega) (by omega),
    B.or_join8 (x := a / 16 * 16) (y := m % 16) (by omega) (by omega) (by omega) (by omega) (by omega), B.or_join8 (x := a * 16 % 256) (y := m / 16) (by omega) (by omega) (by omega) (by omega) (by omega)]
  rw [B.td 16 a0, B.td 16 m0, B.tm 16 m0, B.tm 16 a0]
  rw [show ((a / 16 % 256 * 16 % 256) + m / 16 % 256) % 256 = a / 16 * 16 + m / 16 by omega, show ((m % 16 * 16 % 256) + a % 16) % 256 = m * 16 % 256 + a % 16 by omega,
    show ((a / 16 % 256 * 16 % 256) + m % 16) % 256 = a / 16 * 16 + m % 16 by omega, show ((a % 16 * 16 % 256) + m / 16 % 256) % 256 = a * 16 % 256 + m / 16 by omega]
  rw [s_shift_whole _ (by omega) (by omega), s_shift_whole _ (by omega) (by omega), s_pendulumref05_Logic 19 (by omega) _ (by omega) (by omega), s_pendulumref05_Logic 19 (by omega) _ (by omega) (by omega)]
  simp

end Go.Proofs.Ytpmmneipfmbmlaa.Pure
