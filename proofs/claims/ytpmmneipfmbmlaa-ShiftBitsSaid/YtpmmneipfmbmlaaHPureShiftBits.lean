/- ShiftBits' plain statement: a bit that is set is set, and no other one changes; looking at it tells it; what is turned twice is itself; for every bit, bytes and flags. -/
import Derived.Test.YtpmmneipfmbmlaaHShiftBitsx3
import Derived.Test.YtpmmneipfmbmlaaBits
import Derived.Test.YtpmmneipfmbmlaaBitsS
set_option linter.unusedVariables false
set_option linter.unusedSimpArgs false
namespace Go.Proofs.Ytpmmneipfmbmlaa.Pure
open Go.RowKit Go.Proofs.Ytpmmneipfmbmlaa.HShiftBits Go.Proofs.YtpmmneipfmbmlaaW.PrintWords Go.Proofs.YtpmmneipfmbmlaaW.PrintLast
open Go.Proofs.Ytpmmneipfmbmlaa

theorem s_shift_if1 (b : Bool) (x : Int) : shift_if1.f b x = some (B.fl b x) := by unfold shift_if1.f B.fl; split <;> rfl

theorem s_alu_Own (r : Int) (h0 : 0 ≤ r) (h1 : r < 256) : alu_Own.f r = some (B.own r) := by
  unfold alu_Own.f B.own
  by_cases h : r = 0
  · subst h; rfl
  · rw [if_neg h, if_neg h, B.and168 h0 h1]; simp

theorem s_alu_Parity (r : Int) (h0 : 0 ≤ r) (h1 : r < 256) : alu_Parity.f r = some (B.par r) :=
  B.all8 (P := fun r => alu_Parity.f r = some (B.par r)) (by decide +kernel) r h0 h1

theorem s_shift_whole (r : Int) (h0 : 0 ≤ r) (h1 : r < 256) : shift_whole.f r = some (B.logic r) := by
  unfold shift_whole.f B.logic
  rw [s_alu_Own r h0 h1, Option.bind_some, s_alu_Parity r h0 h1, Option.bind_some, s_shift_if1, Option.bind_some]

theorem s_tmod8 (n : Int) (n0 : -9223372036854775808 ≤ n) (n1 : n ≤ 9223372036854775807) : (if Int.tmod n 8 < 0 then wrap64 (Int.tmod n 8 + 8) else Int.tmod n 8) = n % 8 := by
  have h := Int.tmod_add_mul_tdiv n 8
  have h1 : n.tmod 8 < 8 := Int.tmod_lt_of_pos n (by decide)
  have h2 : -8 < n.tmod 8 := Int.lt_tmod_of_pos n (by decide)
  split
  · rw [B.w64 (by omega) (by omega)]; omega
  · omega
theorem lives : pendulumlaw06_lives.f 20 = some true := by decide +kernel
theorem bit_z (n a b f : Int) (a0 : 0 ≤ a) (a1 : a < 256) (b0 : 0 ≤ b) (b1 : b < 256) (f0 : 0 ≤ f) (f1 : f < 256) (j : Fin 8) (hj : n % 8 = (j.val : Int)) :
    ∃ z, shift_Bit.f n a b f = some z ∧ 0 ≤ z ∧ z < 256 ∧ (z / 64 % 2 = 1 ↔ a / (2 ^ j.val : Nat) % 2 = 0) := by
  have w : IntKind.u64.wrap (n % 8) = n % 8 := by rw [B.wu64]; omega
  have hs : Go.bits .and .u8 (shr .u8 a (n % 8)) 1 = a / (2 ^ j.val : Nat) % 2 := by
    have : ∀ j : Fin 8, ∀ a : Fin 256, Go.bits .and .u8 (shr .u8 (a.val : Int) (j.val : Int)) 1 = (a.val : Int) / (2 ^ j.val : Nat) % 2 := by decide +kernel
    have h := this j ⟨a.toNat, by omega⟩
    simp only [Int.toNat_of_nonneg a0] at h
    rw [hj, h]
  have h7 : (n % 8 == 7) = (decide (j.val = 7)) := by rw [hj, B.beqi]; exact B.bdec (by omega)
  have t0 : a / (2 ^ j.val : Nat) % 2 = 0 ∨ a / (2 ^ j.val : Nat) % 2 = 1 := Int.emod_two_eq _
  unfold shift_Bit.f
  rw [B.i64_7, w, if_pos (by omega), hs, h7, B.and40 b0 b1, B.and1 f0 f1]
  have y0 : b / 32 % 2 = 0 ∨ b / 32 % 2 = 1 := Int.emod_two_eq _
  have x0 : b / 8 % 2 = 0 ∨ b / 8 % 2 = 1 := Int.emod_two_eq _
  have c0 : f % 2 = 0 ∨ f % 2 = 1 := Int.emod_two_eq _
  clear hs h7 w hj
  generalize b / 32 % 2 = y at *
  generalize b / 8 % 2 = x at *
  generalize f % 2 = c at *
  generalize a / ((2 ^ j.val : Nat) : Int) % 2 = t at *
  have s7 : decide (j.val = 7) = true ∨ decide (j.val = 7) = false := by cases decide (j.val = 7) <;> simp
  generalize decide (j.val = 7) = q at *
  simp only [s_shift_if1, Option.bind_some]
  rcases t0 with rfl | rfl
  · rw [if_neg (by decide)]
    rcases y0 with rfl | rfl <;> rcases x0 with rfl | rfl <;> rcases c0 with rfl | rfl <;> exact ⟨_, rfl, by decide +kernel, by decide +kernel, by decide +kernel⟩
  · rw [if_pos rfl]
    rcases y0 with rfl | rfl <;> rcases x0 with rfl | rfl <;> rcases c0 with rfl | rfl <;> rcases s7 with rfl | rfl <;> exact ⟨_, rfl, by decide +kernel, by decide +kernel, by decide +kernel⟩
theorem ShiftBits : pendulumlaw06_ShiftBits.Pure := by
  intro n a m f hn ha hm hf
  obtain ⟨n0, n1⟩ := bounds_i64 hn
  obtain ⟨a0, a1⟩ := bounds_u8 ha
  obtain ⟨m0, m1⟩ := bounds_u8 hm
  obtain ⟨f0, f1⟩ := bounds_u8 hf
  have a2 : a < 256 := by omega
  have m2 : m < 256 := by omega
  have f2 : f < 256 := by omega
  refine ⟨20, ?_⟩
  have w : IntKind.u64.wrap (n % 8) = n % 8 := by rw [B.wu64]; omega
  obtain ⟨j, hj⟩ : ∃ j : Fin 8, n % 8 = (j.val : Int) := ⟨⟨(n % 8).toNat, by omega⟩, by simp; omega⟩
  have hp : shl .u8 1 (n % 8) = ((2 ^ j.val : Nat) : Int) := by
    have : ∀ j : Fin 8, shl .u8 1 (j.val : Int) = ((2 ^ j.val : Nat) : Int) := by decide +kernel
    rw [hj, this]
  have E : ∀ j : Fin 8, ∀ a : Fin 256, Go.bits .andNot .u8 (a.val : Int) ((2 ^ j.val : Nat) : Int) = Go.bits .and .u8 (a.val : Int) ((255 - ((2 ^ j.val : Nat) : Int)) % 256) ∧
      Go.bits .and .u8 (a.val : Int) ((2 ^ j.val : Nat) : Int) = (a.val : Int) / (2 ^ j.val : Nat) % 2 * (2 ^ j.val : Nat) ∧
      0 ≤ Go.bits .or .u8 (a.val : Int) ((2 ^ j.val : Nat) : Int) ∧ Go.bits .or .u8 (a.val : Int) ((2 ^ j.val : Nat) : Int) < 256 ∧
      Go.bits .or .u8 (a.val : Int) ((2 ^ j.val : Nat) : Int) / (2 ^ j.val : Nat) % 2 = 1 := by decide +kernel
  have e := E j ⟨a.toNat, by omega⟩
  simp only [Int.toNat_of_nonneg a0] at e
  obtain ⟨e1, e2, e3, e4, e5⟩ := e
  have p0 : (0 : Int) < (2 ^ j.val : Nat) := by have := Nat.two_pow_pos j.val; omega
  obtain ⟨z, hz, z0, z1, hzz⟩ := bit_z n a m f a0 a2 m0 m2 f0 f2 j hj
  obtain ⟨u, hu, u0, u1, huu⟩ := bit_z n (Go.bits .or .u8 a ((2 ^ j.val : Nat) : Int)) m f e3 e4 m0 m2 f0 f2 j hj
  have hk : shift_Bit.f (n % 8) a m f = shift_Bit.f n a m f := by
    unfold shift_Bit.f; rw [B.i64_7, B.i64_7, show n % 8 % 8 = n % 8 by omega]
  have t0 : a / (2 ^ j.val : Nat) % 2 = 0 ∨ a / (2 ^ j.val : Nat) % 2 = 1 := Int.emod_two_eq _
  have key : pendulumlaw06_ShiftBits.j0 20 n a m f (n % 8) = some true := by
    simp only [pendulumlaw06_ShiftBits.j0]
    unfold shift_Set.f shift_Res.f
    rw [B.i64_7, w, hp, if_pos (by omega), if_pos (by omega), Option.bind_some, if_pos (by omega), Option.bind_some, if_pos rfl, if_pos e1, hz, Option.bind_some, e2, B.and64 z0 z1]
    rw [if_neg (B.not_bne (by rw [B.bnei, B.beqi]; refine B.bdec ((B.nz64 hzz).trans ?_); rcases t0 with h | h <;> rw [h] <;> omega))]
    rw [hk, hz, Option.bind_some, Option.bind_some, if_pos rfl, hu, Option.bind_some, B.and64 u0 u1]
    have hu2 : u / 64 % 2 = 0 := by
      rcases Int.emod_two_eq (u / 64) with h | h
      · exact h
      · have := huu.1 h; rw [e5] at this; exact absurd this (by decide)
    rw [hu2]
    simp only [pendulumlaw06_ShiftBits.j1]
    rw [if_neg (by decide)]
    have ex : ∀ a : Int, 0 ≤ a → a < 256 → Go.bits .xor .u8 255 a = 255 - a := fun a h0 h1 => B.all8 (P := fun a => Go.bits .xor .u8 255 a = 255 - a) (by decide +kernel) a h0 h1
    unfold shift_Cpl.f
    rw [Option.bind_some, Option.bind_some]
    dsimp only
    rw [ex a a0 a2, ex (255 - a) (by omega) (by omega)]
    -- Ccf turns C, and nothing else matters
    have A40 := B.and40 a0 a2
    have ccf : ∀ g : Int, 0 ≤ g → g < 256 → ∃ h, shift_Ccf.f a g = some h ∧ 0 ≤ h ∧ h < 256 ∧ h % 2 = 1 - g % 2 := by
      intro g g0 g1
      have H : ∀ y x : Fin 2, ∀ g : Fin 256, ∃ h, ((shift_if1.f ((Go.bits .and .u8 (g.val : Int) 1) != 0) 16).bind fun t128 => ((shift_if1.f ((Go.bits .and .u8 (g.val : Int) 1) == 0) 1).bind fun t129 => (some (Go.bits .or .u8 (Go.bits .or .u8 (Go.bits .or .u8 (Go.bits .and .u8 (g.val : Int) 196) ((y.val : Int) * 32 + (x.val : Int) * 8)) t128) t129)))) = some h ∧ 0 ≤ h ∧ h < 256 ∧ h % 2 = 1 - (g.val : Int) % 2 := by
        have H' : ∀ y x : Fin 2, ∀ g : Fin 256, (match ((shift_if1.f ((Go.bits .and .u8 (g.val : Int) 1) != 0) 16).bind fun t128 => ((shift_if1.f ((Go.bits .and .u8 (g.val : Int) 1) == 0) 1).bind fun t129 => (some (Go.bits .or .u8 (Go.bits .or .u8 (Go.bits .or .u8 (Go.bits .and .u8 (g.val : Int) 196) ((y.val : Int) * 32 + (x.val : Int) * 8)) t128) t129)))) with | some h => decide (0 ≤ h ∧ h < 256 ∧ h % 2 = 1 - (g.val : Int) % 2) | none => false) = true := by decide +kernel
        intro y x g
        have := H' y x g
        split at this
        · rename_i h e; exact ⟨h, e, of_decide_eq_true this⟩
        · exact absurd this (by decide)
      have h := H ⟨(a / 32 % 2).toNat, by omega⟩ ⟨(a / 8 % 2).toNat, by omega⟩ ⟨g.toNat, by omega⟩
      simp only [Int.toNat_of_nonneg g0, Int.toNat_of_nonneg (show 0 ≤ a / 32 % 2 by omega), Int.toNat_of_nonneg (show 0 ≤ a / 8 % 2 by omega)] at h
      unfold shift_Ccf.f
      rw [A40]; exact h
    obtain ⟨h1, hh1, h10, h11, h1c⟩ := ccf f f0 f2
    obtain ⟨h2, hh2, h20, h21, h2c⟩ := ccf h1 h10 h11
    rw [hh1, Option.bind_some, hh2, Option.bind_some]
    have A240 := B.and240 a0 a2
    have A15 := B.and15 a0 a2
    have p1 : 0 ≤ a / 16 * 16 + m / 16 ∧ a / 16 * 16 + m / 16 < 256 := by omega
    have q1 : 0 ≤ m * 16 % 256 + a % 16 ∧ m * 16 % 256 + a % 16 < 256 := by omega
    unfold shift_Rld.f
    rw [A240, A15, B.or_join8 (x := a / 16 * 16) (y := m / 16) (by omega) (by omega) (by omega) (by omega) (by omega), B.or_join8 (x := m * 16 % 256) (y := a % 16) (by omega) (by omega) (by omega) (by omega) (by omega),
      s_shift_whole _ p1.1 p1.2, Option.bind_some, Option.bind_some]
    dsimp only
    unfold shift_Rrd.f
    rw [B.and240 p1.1 p1.2, B.and15 q1.1 q1.2, B.or_join8 (x := (a / 16 * 16 + m / 16) / 16 * 16) (y := (m * 16 % 256 + a % 16) % 16) (by omega) (by omega) (by omega) (by omega) (by omega),
      B.or_join8 (x := (a / 16 * 16 + m / 16) * 16 % 256) (y := (m * 16 % 256 + a % 16) / 16) (by omega) (by omega) (by omega) (by omega) (by omega), s_shift_whole _ (by omega) (by omega), Option.bind_some, Option.bind_some]
    dsimp only
    have scf : ∃ h, shift_Scf.f a f = some h ∧ (Go.bits .and .u8 h 1 != 0) = true := by
      unfold shift_Scf.f
      refine ⟨_, rfl, ?_⟩
      have A := B.and_range f 196 f0 f2 (by omega) (by omega)
      have C := B.and_range a 40 a0 a2 (by omega) (by omega)
      have O := B.or_range _ _ A.1 A.2 C.1 C.2
      exact B.all8 (P := fun x => (Go.bits .and .u8 (Go.bits .or .u8 x 1) 1 != 0) = true) (by decide +kernel) _ O.1 O.2
    obtain ⟨h3, hh3, h3c⟩ := scf
    rw [if_pos (by omega), if_pos (by omega), if_pos (by rw [B.and1 h20 h21, B.and1 f0 f2]; omega), if_pos (by omega), if_pos (by omega), hh3, Option.bind_some, h3c]
  unfold pendulumlaw06_ShiftBits.f
  have M := s_tmod8 n n0 n1
  rw [lives, Option.bind_some, if_pos rfl]
  by_cases c : Int.tmod n 8 < 0
  · rw [if_pos c] at M ⊢; rw [M]; exact key
  · rw [if_neg c] at M ⊢; rw [M]; exact key

end Go.Proofs.Ytpmmneipfmbmlaa.Pure
