/- WideBytes' plain statement: words are added and taken away as their bytes are, the low ones first, for all words and flags. -/
import Derived.Test.YtpmmneipfmbmlaaPWideBytesx1
import Derived.Test.YtpmmneipfmbmlaaBits
import Derived.Test.YtpmmneipfmbmlaaBitsW
set_option linter.unusedVariables false
set_option linter.unusedSimpArgs false
namespace Go.Proofs.Ytpmmneipfmbmlaa.Pure
open Go.RowKit Go.Proofs.Ytpmmneipfmbmlaa.PWideBytes Go.Proofs.YtpmmneipfmbmlaaW.PrintWords Go.Proofs.YtpmmneipfmbmlaaW.PrintLast
open Go.Proofs.Ytpmmneipfmbmlaa

theorem s_wide_if1 (b : Bool) (x : Int) : wide_if1.f b x = some (B.fl b x) := by unfold wide_if1.f B.fl; split <;> rfl

theorem s_pendulumref05_Flag (b : Bool) (x : Int) : pendulumref05_Flag.f x b = some (B.fl b x) := by unfold pendulumref05_Flag.f B.fl; split <;> rfl

theorem s_pendulumref05_Own (r : Int) (h0 : 0 ≤ r) (h1 : r < 256) : pendulumref05_Own.f r = some (B.own r) := by
  unfold pendulumref05_Own.f B.own
  by_cases h : r = 0
  · subst h; rfl
  · rw [if_neg h, if_neg h, B.and168 h0 h1]; simp

theorem s_pendulumref05_one (b : Bool) : pendulumref05_one.f b = some (B.fl b 1) := by unfold pendulumref05_one.f B.fl; split <;> rfl

theorem s_pendulumref05_signed (a : Int) (h0 : 0 ≤ a) (h1 : a < 256) : pendulumref05_signed.f a = some (B.s8 a) := by
  unfold pendulumref05_signed.f B.s8
  split
  · have e : wrap64 (wrap64 a - 256) = (a + 128) % 256 - 128 := by simp (disch := omega) only [B.w64]; omega
    rw [e]
  · have e : wrap64 a = (a + 128) % 256 - 128 := by simp (disch := omega) only [B.w64]; omega
    rw [e]

theorem s_pendulumref05_Add (a b : Int) (c : Bool) (a0 : 0 ≤ a) (a1 : a < 256) (b0 : 0 ≤ b) (b1 : b < 256) :
    pendulumref05_Add.f a b c = some (B.addR a b (B.fl c 1), B.addF a b (B.fl c 1)) := by
  unfold pendulumref05_Add.f
  rw [s_pendulumref05_one, s_pendulumref05_signed a a0 a1, s_pendulumref05_signed b b0 b1]
  have k0 := B.fl_or c 1
  generalize B.fl c 1 = k at *
  have e1 : wrap64 (wrap64 (wrap64 a + wrap64 b) + k) = a + b + k := by simp (disch := omega) only [B.w64]
  have e2 : wrap64 (wrap64 (wrap64 (Int.tmod a 16) + wrap64 (Int.tmod b 16)) + k) = a % 16 + b % 16 + k := by
    simp (disch := omega) only [B.and15, B.tm16, B.w64]
  have e3 : wrap64 (wrap64 (B.s8 a + B.s8 b) + k) = B.s8 a + B.s8 b + k := by
    unfold B.s8; simp (disch := omega) only [B.wi8, B.w64]
  rw [Option.bind_some, Option.bind_some, Option.bind_some, e1, e2, e3]
  have hr := B.own_range (r := (a + b + k) % 256) (by omega) (by omega)
  have ho := B.own_form (r := (a + b + k) % 256) (by omega) (by omega)
  rw [s_pendulumref05_Own _ (by omega) (by omega)]
  simp only [s_pendulumref05_Flag, Option.bind_some]
  unfold B.addF B.addR
  generalize B.own ((a + b + k) % 256) = o at *
  rw [B.orAdd hr.1 hr.2 ho.1 ho.2.1 (B.fl_or _ _) (B.fl_or _ _) (B.fl_or _ _), B.orAdd hr.1 hr.2 ho.1 ho.2.1 (B.fl_or _ _) (B.fl_or _ _) (B.fl_or _ _)]
  by_cases h : B.s8 a + B.s8 b + k < -128
  · rw [if_pos h, decide_eq_true (Or.inl h)]
  · rw [if_neg h]
    have : decide (B.s8 a + B.s8 b + k > 127) = decide (B.s8 a + B.s8 b + k < -128 ∨ B.s8 a + B.s8 b + k > 127) := by
      rw [decide_eq_decide]; omega
    rw [this]

theorem s_pendulumref05_Sub (a b : Int) (c : Bool) (a0 : 0 ≤ a) (a1 : a < 256) (b0 : 0 ≤ b) (b1 : b < 256) :
    pendulumref05_Sub.f a b c = some (B.subR a b (B.fl c 1), B.subF a b (B.fl c 1)) := by
  unfold pendulumref05_Sub.f
  rw [s_pendulumref05_one, s_pendulumref05_signed a a0 a1, s_pendulumref05_signed b b0 b1]
  have k0 := B.fl_or c 1
  generalize B.fl c 1 = k at *
  have e1 : wrap64 (wrap64 (wrap64 a - wrap64 b) - k) = a - b - k := by simp (disch := omega) only [B.w64]
  have e2 : wrap64 (wrap64 (wrap64 (Int.tmod a 16) - wrap64 (Int.tmod b 16)) - k) = a % 16 - b % 16 - k := by
    simp (disch := omega) only [B.and15, B.tm16, B.w64]
  have e3 : wrap64 (wrap64 (B.s8 a - B.s8 b) - k) = B.s8 a - B.s8 b - k := by
    unfold B.s8; simp (disch := omega) only [B.wi8, B.w64]
  rw [Option.bind_some, Option.bind_some, Option.bind_some, e1, e2, e3]
  have hr := B.own_range (r := (a - b - k) % 256) (by omega) (by omega)
  have ho := B.own_form (r := (a - b - k) % 256) (by omega) (by omega)
  rw [s_pendulumref05_Own _ (by omega) (by omega)]
  simp only [s_pendulumref05_Flag, Option.bind_some]
  unfold B.subF B.subR
  generalize B.own ((a - b - k) % 256) = o at *
  rw [B.orSubR hr.1 hr.2 ho.1 ho.2.1 (B.fl_or _ _) (B.fl_or _ _) (B.fl_or _ _), B.orSubR hr.1 hr.2 ho.1 ho.2.1 (B.fl_or _ _) (B.fl_or _ _) (B.fl_or _ _)]
  by_cases h : B.s8 a - B.s8 b - k < -128
  · rw [if_pos h, decide_eq_true (Or.inl h)]
  · rw [if_neg h]
    have : decide (B.s8 a - B.s8 b - k > 127) = decide (B.s8 a - B.s8 b - k < -128 ∨ B.s8 a - B.s8 b - k > 127) := by
      rw [decide_eq_decide]; omega
    rw [this]

theorem s_wide_all (r : Int) (h0 : 0 ≤ r) (h1 : r < 65536) : wide_all.f r = some (B.all16 r) := by
  unfold wide_all.f B.all16
  rw [s_wide_if1, Option.bind_some, show r / 256 % 256 = r / 256 by omega, B.and168 (by omega) (by omega), B.beqi]
  rcases B.fl_cases (r = 0) 64 with ⟨h, e⟩ | ⟨h, e⟩
  · rw [e, if_pos h, B.or64 (by omega) (by omega) (by omega) (.inr rfl)]
  · rw [e, if_neg h]
    have a : 0 ≤ r / 256 ∧ r / 256 < 256 := by omega
    generalize r / 256 = n at *
    rw [B.or1 (y := 0) (by omega) (by omega) (by omega) (.inl rfl)]

theorem s_wide_Adc (a b f : Int) (a0 : 0 ≤ a) (a1 : a < 65536) (b0 : 0 ≤ b) (b1 : b < 65536) (f0 : 0 ≤ f) (f1 : f < 256) :
    wide_Adc.f a b f = some (B.adcR a b (f % 2), B.adcF a b (f % 2)) := by
  unfold wide_Adc.f
  rw [B.and1 f0 f1]
  have k0 : 0 ≤ f % 2 ∧ f % 2 < 2 := by omega
  generalize f % 2 = k at *
  have e1 : wrap64 (wrap64 (wrap64 a + wrap64 b) + wrap64 k) = a + b + k := by simp (disch := omega) only [B.w64]
  have e2 : wrap64 (wrap64 (wrap64 (Go.bits .and .u16 a 4095) + wrap64 (Go.bits .and .u16 b 4095)) + wrap64 k) = a % 4096 + b % 4096 + k := by
    simp (disch := omega) only [B.and4095, B.tm, B.w64]
  have e3 : wrap64 (wrap64 (wrap64 (IntKind.i16.wrap a) + wrap64 (IntKind.i16.wrap b)) + wrap64 k) = B.s16 a + B.s16 b + k := by
    unfold B.s16; simp (disch := omega) only [B.wi16, B.w64]
  rw [e1, e2, e3, B.wu16]
  have hr : 0 ≤ (a + b + k) % 65536 ∧ (a + b + k) % 65536 < 65536 := by omega
  have ho := B.all16_form hr.1 hr.2
  rw [s_wide_all _ hr.1 hr.2]
  simp only [s_wide_if1, Option.bind_some]
  unfold B.adcF B.adcR
  generalize B.all16 ((a + b + k) % 65536) = o at *
  rw [B.orAdd ho.1 ho.2.1 ho.2.2.1 ho.2.2.2 (B.fl_or _ _) (B.fl_or _ _) (B.fl_or _ _), B.orAdd ho.1 ho.2.1 ho.2.2.1 ho.2.2.2 (B.fl_or _ _) (B.fl_or _ _) (B.fl_or _ _)]
  by_cases h : B.s16 a + B.s16 b + k < -32768
  · rw [if_pos h, decide_eq_true (Or.inl h)]
  · rw [if_neg h]
    have : decide (B.s16 a + B.s16 b + k ≥ 32768) = decide (B.s16 a + B.s16 b + k < -32768 ∨ B.s16 a + B.s16 b + k > 32767) := by
      rw [decide_eq_decide]; omega
    rw [this]

theorem s_wide_Sbc (a b f : Int) (a0 : 0 ≤ a) (a1 : a < 65536) (b0 : 0 ≤ b) (b1 : b < 65536) (f0 : 0 ≤ f) (f1 : f < 256) :
    wide_Sbc.f a b f = some (B.sbcR a b (f % 2), B.sbcF a b (f % 2)) := by
  unfold wide_Sbc.f
  rw [B.and1 f0 f1]
  have k0 : 0 ≤ f % 2 ∧ f % 2 < 2 := by omega
  generalize f % 2 = k at *
  have e1 : wrap64 (wrap64 (wrap64 a - wrap64 b) - wrap64 k) = a - b - k := by simp (disch := omega) only [B.w64]
  have e2 : wrap64 (wrap64 (wrap64 (Go.bits .and .u16 a 4095) - wrap64 (Go.bits .and .u16 b 4095)) - wrap64 k) = a % 4096 - b % 4096 - k := by
    simp (disch := omega) only [B.and4095, B.tm, B.w64]
  have e3 : wrap64 (wrap64 (wrap64 (IntKind.i16.wrap a) - wrap64 (IntKind.i16.wrap b)) - wrap64 k) = B.s16 a - B.s16 b - k := by
    unfold B.s16; simp (disch := omega) only [B.wi16, B.w64]
  rw [e1, e2, e3, B.wu16]
  have hr : 0 ≤ (a - b - k) % 65536 ∧ (a - b - k) % 65536 < 65536 := by omega
  have ho := B.all16_form hr.1 hr.2
  rw [s_wide_all _ hr.1 hr.2]
  simp only [s_wide_if1, Option.bind_some]
  unfold B.sbcF B.sbcR
  generalize B.all16 ((a - b - k) % 65536) = o at *
  rw [B.orSub ho.1 ho.2.1 ho.2.2.1 ho.2.2.2 (B.fl_or _ _) (B.fl_or _ _) (B.fl_or _ _), B.orSub ho.1 ho.2.1 ho.2.2.1 ho.2.2.2 (B.fl_or _ _) (B.fl_or _ _) (B.fl_or _ _)]
  by_cases h : B.s16 a - B.s16 b - k < -32768
  · rw [if_pos h, decide_eq_true (Or.inl h)]
  · rw [if_neg h]
    have : decide (B.s16 a - B.s16 b - k ≥ 32768) = decide (B.s16 a - B.s16 b - k < -32768 ∨ B.s16 a - B.s16 b - k > 32767) := by
      rw [decide_eq_decide]; omega
    rw [this]

theorem s_wide_Add (a b f : Int) (a0 : 0 ≤ a) (a1 : a < 65536) (b0 : 0 ≤ b) (b1 : b < 65536) : wide_Add.f a b f = some ((a + b) % 65536, B.addW a b f) := by
  unfold wide_Add.f B.addW
  have e1 : IntKind.u16.wrap (Go.bits .and .u16 a 4095 + Go.bits .and .u16 b 4095) = a % 4096 + b % 4096 := by
    rw [B.and4095 a0 a1, B.and4095 b0 b1, B.wu16]; omega
  have e2 : decide ((a + b) % 65536 < a) = decide (a + b > 65535) := B.bdec (by omega)
  rw [e1, B.wu16, e2, s_wide_if1, Option.bind_some, s_wide_if1, Option.bind_some, show (a + b) % 65536 / 256 % 256 = (a + b) % 65536 / 256 by omega]
theorem lives : pendulumlaw07_lives.f = some true := by decide +kernel
theorem join (h l : Int) (h0 : 0 ≤ h) (h1 : h < 256) (l0 : 0 ≤ l) (l1 : l < 256) : Go.bits .or .u16 (IntKind.u16.wrap (IntKind.u16.wrap h * 256)) (IntKind.u16.wrap l) = h * 256 + l := by
  rw [B.wu16, B.wu16, B.wu16, show h % 65536 * 256 % 65536 = h * 256 by omega, show l % 65536 = l by omega, B.or_join16 (by omega) (by omega) (by omega) l0 l1]
theorem not64 (F : Int) (h0 : 0 ≤ F) (h1 : F < 256) : Go.bits .andNot .u8 F 64 = F - F / 64 % 2 * 64 := by
  rw [B.andNot8 h0 h1 (by omega) (by omega), B.and64 h0 h1]
section
variable (a b k : Int) (a0 : 0 ≤ a) (a1 : a < 65536) (b0 : 0 ≤ b) (b1 : b < 65536) (k0 : k = 0 ∨ k = 1)
include a0 a1 b0 b1 k0
theorem adc_bytes (j : Int) (hj : j = B.addF (a % 256) (b % 256) k % 2) :
    B.adcR a b k = B.addR (a / 256) (b / 256) j * 256 + B.addR (a % 256) (b % 256) k ∧ Go.bits .andNot .u8 (B.adcF a b k) 64 = Go.bits .andNot .u8 (B.addF (a / 256) (b / 256) j) 64 ∧
    ((Go.bits .and .u8 (B.adcF a b k) 64 != 0) = (B.adcR a b k == 0)) := by
  have jc := (B.addF_parts (a := a % 256) (b := b % 256) (by omega) (by omega) (by omega) (by omega) k0).2.2.1
  rw [← hj] at jc
  have j0 : j = 0 ∨ j = 1 := by omega
  clear hj
  have e : B.adcR a b k = B.addR (a / 256) (b / 256) j * 256 + B.addR (a % 256) (b % 256) k := by unfold B.adcR B.addR; omega
  have r0 : 0 ≤ B.addR (a / 256) (b / 256) j ∧ B.addR (a / 256) (b / 256) j < 256 := by unfold B.addR; omega
  have l0 : 0 ≤ B.addR (a % 256) (b % 256) k ∧ B.addR (a % 256) (b % 256) k < 256 := by unfold B.addR; omega
  have eh : B.adcR a b k / 256 = B.addR (a / 256) (b / 256) j := by omega
  have pC : a + b + k > 65535 ↔ a / 256 + b / 256 + j > 255 := by omega
  have pH : a % 4096 + b % 4096 + k > 4095 ↔ a / 256 % 16 + b / 256 % 16 + j > 15 := by omega
  have pV : (B.s16 a + B.s16 b + k < -32768 ∨ B.s16 a + B.s16 b + k > 32767) ↔ (B.s8 (a / 256) + B.s8 (b / 256) + j < -128 ∨ B.s8 (a / 256) + B.s8 (b / 256) + j > 127) := by unfold B.s16 B.s8; omega
  have A := B.drop64 (h := B.adcR a b k / 256) (z := B.fl (decide (B.adcR a b k = 0)) 64) (n := 0) (by omega) (by omega) (B.fl_or (decide (a + b + k > 65535)) 1) (B.fl_or (decide (a % 4096 + b % 4096 + k > 4095)) 16) (B.fl_or (decide (B.s16 a + B.s16 b + k < -32768 ∨ B.s16 a + B.s16 b + k > 32767)) 4) (.inl rfl) (B.fl_or _ _) (B.adcF a b k) (by unfold B.adcF; rw [B.all16_hi]; omega)
  have C := B.drop64 (h := B.addR (a / 256) (b / 256) j) (z := B.fl (decide (B.addR (a / 256) (b / 256) j = 0)) 64) (n := 0) (by omega) (by omega) (B.fl_or (decide (a / 256 + b / 256 + j > 255)) 1) (B.fl_or (decide (a / 256 % 16 + b / 256 % 16 + j > 15)) 16) (B.fl_or (decide (B.s8 (a / 256) + B.s8 (b / 256) + j < -128 ∨ B.s8 (a / 256) + B.s8 (b / 256) + j > 127)) 4) (.inl rfl) (B.fl_or _ _) (B.addF (a / 256) (b / 256) j) (by unfold B.addF; rw [B.own_hi]; omega)
  refine ⟨e, ?_, ?_⟩
  · rw [not64 _ A.1 A.2.1, not64 _ C.1 C.2.1, A.2.2.1, C.2.2.1, eh, B.fl_congr 1 pC, B.fl_congr 16 pH, B.fl_congr 4 pV]
  · rw [B.and64 A.1 A.2.1, A.2.2.2.1, B.bnei, B.beqi]
    refine B.bdec ?_
    rcases B.fl_cases (B.adcR a b k = 0) 64 with ⟨h, e⟩ | ⟨h, e⟩ <;> rw [e]
    · exact ⟨fun _ => h, fun _ => by decide⟩
    · exact ⟨fun q => absurd rfl q, fun q => absurd q h⟩
theorem sbc_bytes (j : Int) (hj : j = B.subF (a % 256) (b % 256) k % 2) :
    B.sbcR a b k = B.subR (a / 256) (b / 256) j * 256 + B.subR (a % 256) (b % 256) k ∧ Go.bits .andNot .u8 (B.sbcF a b k) 64 = Go.bits .andNot .u8 (B.subF (a / 256) (b / 256) j) 64 ∧
    ((Go.bits .and .u8 (B.sbcF a b k) 64 != 0) = (B.sbcR a b k == 0)) := by
  have jc := (B.subF_parts (a := a % 256) (b := b % 256) (by omega) (by omega) (by omega) (by omega) k0).2.2.1
  rw [← hj] at jc
  have j0 : j = 0 ∨ j = 1 := by omega
  clear hj
  have e : B.sbcR a b k = B.subR (a / 256) (b / 256) j * 256 + B.subR (a % 256) (b % 256) k := by unfold B.sbcR B.subR; omega
  have r0 : 0 ≤ B.subR (a / 256) (b / 256) j ∧ B.subR (a / 256) (b / 256) j < 256 := by unfold B.subR; omega
  have l0 : 0 ≤ B.subR (a % 256) (b % 256) k ∧ B.subR (a % 256) (b % 256) k < 256 := by unfold B.subR; omega
  have eh : B.sbcR a b k / 256 = B.subR (a / 256) (b / 256) j := by omega
  have pC : a - b - k < 0 ↔ a / 256 - b / 256 - j < 0 := by omega
  have pH : a % 4096 - b % 4096 - k < 0 ↔ a / 256 % 16 - b / 256 % 16 - j < 0 := by omega
  have pV : (B.s16 a - B.s16 b - k < -32768 ∨ B.s16 a - B.s16 b - k > 32767) ↔ (B.s8 (a / 256) - B.s8 (b / 256) - j < -128 ∨ B.s8 (a / 256) - B.s8 (b / 256) - j > 127) := by unfold B.s16 B.s8; omega
  have A := B.drop64 (h := B.sbcR a b k / 256) (z := B.fl (decide (B.sbcR a b k = 0)) 64) (n := 2) (by omega) (by omega) (B.fl_or (decide (a - b - k < 0)) 1) (B.fl_or (decide (a % 4096 - b % 4096 - k < 0)) 16) (B.fl_or (decide (B.s16 a - B.s16 b - k < -32768 ∨ B.s16 a - B.s16 b - k > 32767)) 4) (.inr rfl) (B.fl_or _ _) (B.sbcF a b k) (by unfold B.sbcF; rw [B.all16_hi] <;> omega)
  have C := B.drop64 (h := B.subR (a / 256) (b / 256) j) (z := B.fl (decide (B.subR (a / 256) (b / 256) j = 0)) 64) (n := 2) (by omega) (by omega) (B.fl_or (decide (a / 256 - b / 256 - j < 0)) 1) (B.fl_or (decide (a / 256 % 16 - b / 256 % 16 - j < 0)) 16) (B.fl_or (decide (B.s8 (a / 256) - B.s8 (b / 256) - j < -128 ∨ B.s8 (a / 256) - B.s8 (b / 256) - j > 127)) 4) (.inr rfl) (B.fl_or _ _) (B.subF (a / 256) (b / 256) j) (by unfold B.subF; rw [B.own_hi] <;> omega)
  refine ⟨e, ?_, ?_⟩
  · rw [not64 _ A.1 A.2.1, not64 _ C.1 C.2.1, A.2.2.1, C.2.2.1, eh, B.fl_congr 1 pC, B.fl_congr 16 pH, B.fl_congr 4 pV]
  · rw [B.and64 A.1 A.2.1, A.2.2.2.1, B.bnei, B.beqi]
    refine B.bdec ?_
    rcases B.fl_cases (B.sbcR a b k = 0) 64 with ⟨h, e⟩ | ⟨h, e⟩ <;> rw [e]
    · exact ⟨fun _ => h, fun _ => by decide⟩
    · exact ⟨fun q => absurd rfl q, fun q => absurd q h⟩
end
theorem not196 (F : Int) (h0 : 0 ≤ F) (h1 : F < 256) : Go.bits .andNot .u8 F 196 = F - (F / 64 * 64 + F / 4 % 2 * 4) := by
  rw [B.andNot8 h0 h1 (by omega) (by omega), B.and196 h0 h1]
theorem kept (s z p y x c q F : Int) (s0 : s = 0 ∨ s = 1) (z0 : z = 0 ∨ z = 1) (p0 : p = 0 ∨ p = 1) (y0 : y = 0 ∨ y = 1) (x0 : x = 0 ∨ x = 1) (c0 : c = 0 ∨ c = 1) (q0 : q = 0 ∨ q = 1) (n : Int) (n0 : n = 0 ∨ n = 1)
    (hF : F = 128 * s + 64 * z + 32 * y + 8 * x + c + 16 * q + 4 * p + 2 * n) : F / 64 * 64 + F / 4 % 2 * 4 = 128 * s + 64 * z + 4 * p ∧ F - (F / 64 * 64 + F / 4 % 2 * 4) = 32 * y + 8 * x + c + 16 * q + 2 * n ∧ 0 ≤ F ∧ F < 256 := by
  obtain ⟨h1, h2, h3, h4, h5, h6, h7, h8, h9, h10⟩ := B.bits_sum s z y x c q p n F s0 z0 y0 x0 c0 q0 p0 n0 hF
  have : F / 64 = 2 * (F / 128) + F / 64 % 2 := by omega
  refine ⟨?_, ?_, h1, h2⟩ <;> omega
theorem add_bytes (a b f : Int) (a0 : 0 ≤ a) (a1 : a < 65536) (b0 : 0 ≤ b) (b1 : b < 65536) (f0 : 0 ≤ f) (f1 : f < 256) (j : Int) (hj : j = B.addF (a % 256) (b % 256) 0 % 2) :
    (a + b) % 65536 = B.addR (a / 256) (b / 256) j * 256 + B.addR (a % 256) (b % 256) 0 ∧ Go.bits .and .u8 (B.addW a b f) 196 = Go.bits .and .u8 f 196 ∧
    Go.bits .andNot .u8 (B.addW a b f) 196 = Go.bits .andNot .u8 (B.addF (a / 256) (b / 256) j) 196 := by
  have jc := (B.addF_parts (a := a % 256) (b := b % 256) (k := 0) (by omega) (by omega) (by omega) (by omega) (.inl rfl)).2.2.1
  rw [← hj] at jc
  have j0 : j = 0 ∨ j = 1 := by omega
  clear hj
  have e : (a + b) % 65536 = B.addR (a / 256) (b / 256) j * 256 + B.addR (a % 256) (b % 256) 0 := by unfold B.addR; omega
  have r0 : 0 ≤ B.addR (a / 256) (b / 256) j ∧ B.addR (a / 256) (b / 256) j < 256 := by unfold B.addR; omega
  have l0 : 0 ≤ B.addR (a % 256) (b % 256) 0 ∧ B.addR (a % 256) (b % 256) 0 < 256 := by unfold B.addR; omega
  have eh : (a + b) % 65536 / 256 = B.addR (a / 256) (b / 256) j := by omega
  have pC : a + b > 65535 ↔ a / 256 + b / 256 + j > 255 := by omega
  have pH : a % 4096 + b % 4096 > 4095 ↔ a / 256 % 16 + b / 256 % 16 + j > 15 := by omega
  refine ⟨e, ?_⟩
  have e16 : ∀ (c : Bool) (m : Int), B.fl c m = m * B.fl c 1 := by intro c m; cases c <;> simp [B.fl]
  have W : B.addW a b f = 128 * (f / 128) + 64 * (f / 64 % 2) + 32 * (B.addR (a / 256) (b / 256) j / 32 % 2) + 8 * (B.addR (a / 256) (b / 256) j / 8 % 2) + B.fl (decide (a / 256 + b / 256 + j > 255)) 1 + 16 * B.fl (decide (a / 256 % 16 + b / 256 % 16 + j > 15)) 1 + 4 * (f / 4 % 2) + 2 * 0 := by
    unfold B.addW
    rw [eh, B.and196 f0 f1, B.and40 r0.1 r0.2, B.fl_congr 1 pC, B.fl_congr 16 pH, e16 _ 16]
    have c0 := B.fl_or (decide (a / 256 + b / 256 + j > 255)) 1
    have q0 := B.fl_or (decide (a / 256 % 16 + b / 256 % 16 + j > 15)) 1
    generalize B.fl (decide (a / 256 + b / 256 + j > 255)) 1 = c at *
    generalize B.fl (decide (a / 256 % 16 + b / 256 % 16 + j > 15)) 1 = q at *
    generalize B.addR (a / 256) (b / 256) j = r at *
    clear e pC pH eh jc e16
    have y0 : r / 32 % 2 = 0 ∨ r / 32 % 2 = 1 := by omega
    have x0 : r / 8 % 2 = 0 ∨ r / 8 % 2 = 1 := by omega
    generalize r / 32 % 2 = y at *
    generalize r / 8 % 2 = x at *
    rw [B.or40 (x := f / 64 * 64 + f / 4 % 2 * 4) (by omega) (by omega) (by omega) (by omega) y0 x0]
    have s0 : 0 ≤ f / 128 ∧ f / 128 ≤ 1 := by omega
    have z0 : 0 ≤ f / 64 % 2 ∧ f / 64 % 2 ≤ 1 := by omega
    have p0 : 0 ≤ f / 4 % 2 ∧ f / 4 % 2 ≤ 1 := by omega
    have g : f / 64 * 64 = f / 128 * 128 + f / 64 % 2 * 64 := by omega
    rw [g]
    generalize f / 128 = s at *
    generalize f / 64 % 2 = z at *
    generalize f / 4 % 2 = p at *
    clear g f0 f1 r0 l0
    rw [B.or1 (x := s * 128 + z * 64 + p * 4 + (y * 32 + x * 8)) (by omega) (by omega) (by omega) c0, B.or16 (x := s * 128 + z * 64 + p * 4 + (y * 32 + x * 8) + c) (by omega) (by omega) (by omega) (by omega)]
    omega
  have M : B.addF (a / 256) (b / 256) j = 128 * (B.addR (a / 256) (b / 256) j / 128) + 64 * B.fl (decide (B.addR (a / 256) (b / 256) j = 0)) 1 + 32 * (B.addR (a / 256) (b / 256) j / 32 % 2) + 8 * (B.addR (a / 256) (b / 256) j / 8 % 2) + B.fl (decide (a / 256 + b / 256 + j > 255)) 1 + 16 * B.fl (decide (a / 256 % 16 + b / 256 % 16 + j > 15)) 1 + 4 * B.fl (decide (B.s8 (a / 256) + B.s8 (b / 256) + j < -128 ∨ B.s8 (a / 256) + B.s8 (b / 256) + j > 127)) 1 + 2 * 0 := by
    unfold B.addF
    rw [B.own_hi, e16 _ 64, e16 _ 16, e16 _ 4]; unfold B.hiF; omega
  have two : ∀ x : Int, x % 2 = 0 ∨ x % 2 = 1 := by intro x; omega
  have top : ∀ x : Int, 0 ≤ x → x < 256 → x / 128 = 0 ∨ x / 128 = 1 := by intro x _ _; omega
  have kW := kept _ _ _ _ _ _ _ _ (top f f0 f1) (two _) (two _) (two _) (two _) (B.fl_or _ _) (B.fl_or _ _) 0 (.inl rfl) W
  have kM := kept _ _ _ _ _ _ _ _ (top _ r0.1 r0.2) (B.fl_or _ _) (B.fl_or _ _) (two _) (two _) (B.fl_or _ _) (B.fl_or _ _) 0 (.inl rfl) M
  constructor
  · rw [B.and196 kW.2.2.1 kW.2.2.2, kW.1, B.and196 f0 f1]
    clear kW kM W M jc pC pH eh e e16
    omega
  · rw [not196 _ kW.2.2.1 kW.2.2.2, not196 _ kM.2.2.1 kM.2.2.2, kW.2.1, kM.2.1]
theorem WideBytes : pendulumlaw07_WideBytes.Pure := by
  intro a b f ha hb hf
  obtain ⟨a0, a1⟩ := bounds_u16 ha
  obtain ⟨b0, b1⟩ := bounds_u16 hb
  obtain ⟨f0, f1⟩ := bounds_u8 hf
  have a2 : a < 65536 := by omega
  have b2 : b < 65536 := by omega
  have f2 : f < 256 := by omega
  have ea : a / 256 % 256 = a / 256 := by omega
  have eb : b / 256 % 256 = b / 256 := by omega
  have al : 0 ≤ a % 256 ∧ a % 256 < 256 := by omega
  have bl : 0 ≤ b % 256 ∧ b % 256 < 256 := by omega
  have ah : 0 ≤ a / 256 ∧ a / 256 < 256 := by omega
  have bh : 0 ≤ b / 256 ∧ b / 256 < 256 := by omega
  have k0 : f % 2 = 0 ∨ f % 2 = 1 := by omega
  have ef := B.fl_bit f0 f2
  have sr : ∀ x y k : Int, 0 ≤ B.addR x y k ∧ B.addR x y k < 256 := by intro x y k; unfold B.addR; omega
  have tr : ∀ x y k : Int, 0 ≤ B.subR x y k ∧ B.subR x y k < 256 := by intro x y k; unfold B.subR; omega
  refine ⟨4, ?_⟩
  unfold pendulumlaw07_WideBytes.f
  rw [lives, Option.bind_some, if_pos rfl, s_wide_Adc a b f a0 a2 b0 b2 f0 f2, Option.bind_some, s_pendulumref05_Add (a % 256) (b % 256) _ al.1 al.2 bl.1 bl.2, Option.bind_some, ea, eb,
    s_pendulumref05_Add (a / 256) (b / 256) _ ah.1 ah.2 bh.1 bh.2, Option.bind_some]
  dsimp only
  have P1 := B.addF_parts al.1 al.2 bl.1 bl.2 k0
  rw [ef, B.fl_bit P1.1 P1.2.1]
  have A := adc_bytes a b (f % 2) a0 a2 b0 b2 k0 _ rfl
  rw [join _ _ (sr _ _ _).1 (sr _ _ _).2 (sr _ _ _).1 (sr _ _ _).2, if_pos A.1, if_pos A.2.1, A.2.2]
  simp only [bne_self_eq_false, pendulumlaw07_WideBytes.j0]
  rw [if_neg (by decide), s_wide_Sbc a b f a0 a2 b0 b2 f0 f2, Option.bind_some, s_pendulumref05_Sub (a % 256) (b % 256) _ al.1 al.2 bl.1 bl.2, Option.bind_some, ea, eb,
    s_pendulumref05_Sub (a / 256) (b / 256) _ ah.1 ah.2 bh.1 bh.2, Option.bind_some]
  dsimp only
  have P2 := B.subF_parts al.1 al.2 bl.1 bl.2 k0
  rw [ef, B.fl_bit P2.1 P2.2.1]
  have S := sbc_bytes a b (f % 2) a0 a2 b0 b2 k0 _ rfl
  rw [join _ _ (tr _ _ _).1 (tr _ _ _).2 (tr _ _ _).1 (tr _ _ _).2, if_pos S.1, if_pos S.2.1, S.2.2]
  simp only [bne_self_eq_false, pendulumlaw07_WideBytes.j1]
  rw [if_neg (by decide), s_wide_Add a b f a0 a2 b0 b2, Option.bind_some, s_pendulumref05_Add (a % 256) (b % 256) _ al.1 al.2 bl.1 bl.2, Option.bind_some, ea, eb,
    s_pendulumref05_Add (a / 256) (b / 256) _ ah.1 ah.2 bh.1 bh.2, Option.bind_some]
  dsimp only
  have P3 := B.addF_parts (k := B.fl false 1) al.1 al.2 bl.1 bl.2 (.inl rfl)
  rw [B.fl_bit P3.1 P3.2.1]
  have D := add_bytes a b f a0 a2 b0 b2 f0 f2 _ rfl
  rw [show B.fl false 1 = 0 from rfl, join _ _ (sr _ _ _).1 (sr _ _ _).2 (sr _ _ _).1 (sr _ _ _).2, if_pos D.1, if_pos D.2.1, D.2.2]
  simp

end Go.Proofs.Ytpmmneipfmbmlaa.Pure
