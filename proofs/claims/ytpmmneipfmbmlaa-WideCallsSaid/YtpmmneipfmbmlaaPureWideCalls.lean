/- WideCalls' plain statement: whatever two words are put together, what comes, and the flags, are what the document says, for all words, flags and a byte. -/
import Derived.Test.YtpmmneipfmbmlaaPWideCallsx1
import Derived.Test.YtpmmneipfmbmlaaBits
import Derived.Test.YtpmmneipfmbmlaaBitsW
set_option linter.unusedVariables false
set_option linter.unusedSimpArgs false
namespace Go.Proofs.Ytpmmneipfmbmlaa.Pure
open Go.RowKit Go.Proofs.Ytpmmneipfmbmlaa.PWideCalls Go.Proofs.YtpmmneipfmbmlaaW.PrintWords Go.Proofs.YtpmmneipfmbmlaaW.PrintLast
open Go.Proofs.Ytpmmneipfmbmlaa

theorem s_wide_if1 (b : Bool) (x : Int) : wide_if1.f b x = some (B.fl b x) := by unfold wide_if1.f B.fl; split <;> rfl

theorem s_pendulumref05_Flag (b : Bool) (x : Int) : pendulumref05_Flag.f x b = some (B.fl b x) := by unfold pendulumref05_Flag.f B.fl; split <;> rfl

theorem s_wide_all (r : Int) (h0 : 0 ≤ r) (h1 : r < 65536) : wide_all.f r = some (B.all16 r) := by
  unfold wide_all.f B.all16
  rw [s_wide_if1, Option.bind_some, show r / 256 % 256 = r / 256 by omega, B.and168 (by omega) (by omega), B.beqi]
  rcases B.fl_cases (r = 0) 64 with ⟨h, e⟩ | ⟨h, e⟩
  · rw [e, if_pos h, B.or64 (by omega) (by omega) (by omega) (.inr rfl)]
  · rw [e, if_neg h]
    have a : 0 ≤ r / 256 ∧ r / 256 < 256 := by omega
    generalize r / 256 = n at *
    rw [B.or1 (y := 0) (by omega) (by omega) (by omega) (.inl rfl)]

theorem s_pendulumref07_yx (r : Int) (h0 : 0 ≤ r) (h1 : r < 65536) : pendulumref07_yx.f r = some (Go.bits .and .u8 (r / 256) 40) := by
  unfold pendulumref07_yx.f
  rw [B.td 256 h0, B.wu16, show r / 256 % 65536 % 256 = r / 256 by omega]

theorem s_pendulumref07_signed (a : Int) (h0 : 0 ≤ a) (h1 : a < 65536) : pendulumref07_signed.f a = some (B.s16 a) := by
  unfold pendulumref07_signed.f B.s16
  split
  · have e : wrap64 (wrap64 a - 65536) = (a + 32768) % 65536 - 32768 := by simp (disch := omega) only [B.w64]; omega
    rw [e]
  · have e : wrap64 a = (a + 32768) % 65536 - 32768 := by simp (disch := omega) only [B.w64]; omega
    rw [e]

theorem s_pendulumref07_sz (r : Int) (h0 : 0 ≤ r) (h1 : r < 65536) : pendulumref07_sz.f r = some (B.all16 r) := by
  unfold pendulumref07_sz.f B.all16
  rw [s_pendulumref05_Flag, Option.bind_some, s_pendulumref07_yx r h0 h1, Option.bind_some, B.td 256 h0, B.wu16, show r / 256 % 65536 % 256 = r / 256 by omega, B.beqi]
  have a : 0 ≤ r / 256 ∧ r / 256 < 256 := by omega
  have e := B.fl_cases (r = 0) 64
  generalize B.fl (decide (r = 0)) 64 = z at *
  have hz : (if r = 0 then (64 : Int) else 0) = z := by rcases e with ⟨h, rfl⟩ | ⟨h, rfl⟩ <;> simp [h]
  rw [hz]
  have z0 : z = 0 ∨ z = 64 := by rcases e with ⟨_, h⟩ | ⟨_, h⟩ <;> omega
  clear e hz
  generalize r / 256 = n at *
  rw [B.and128 a.1 a.2, B.and40 a.1 a.2, B.or64 (x := n / 128 * 128) (by omega) (by omega) (by omega) z0, B.or_join64 (by omega) (by omega) (by omega) (by omega) (by omega)]
  congr 1; omega

theorem s_wide_Adc (a b f : Int) (a0 : 0 ≤ a) (a1 : a < 65536) (b0 : 0 ≤ b) (b1 : b < 65536) (f0 : 0 ≤ f) (f1 : f < 256) :
    wide_Adc.f a b f = some (B.adcR a b (f % 2), B.adcF a b (f % 2)) := by
  unfold wide_Adc.f
  rw [B.and1 f0 f1]
  have k0 : 0 ≤ f % 2 ∧ f % 2 < 2 := by omega
  generalize f % 2 = k at *
  have e1 : wrap64 (wrap64 (wrap64 a + wrap64 b) + wrap64 k) = a + b + k := by simp (disch := omega) only [B.w64]
  have e2 : wrap64 (wrap64 (wrap64 (Go.bits .and .u16 a 4095) + wrap64 (Go.bits .and .u16 b 4095)) + wrap64 k) = a % 4096 + b % 4096 + k := by
    simp (disch := omega) only [B.and4095, B.tm, B.w64]
  have e3 : wrap64 (wrap64 (wrap64 (IntKind.i16.wrap a) + wrap64 (IntKind.i16.wrap b)) + wrap64 k) = B.s16 a + B.s16 b + k := by
    unfold B.s16; simp (disch := omega) only [B.wi16, B.w64]
  rw [e1, e2, e3, B.wu16]
  have hr : 0 ≤ (a + b + k) % 65536 ∧ (a + b + k) % 65536 < 65536 := by omega
  have ho := B.all16_form hr.1 hr.2
  rw [s_wide_all _ hr.1 hr.2]
  simp only [s_wide_if1, Option.bind_some]
  unfold B.adcF B.adcR
  generalize B.all16 ((a + b + k) % 65536) = o at *
  rw [B.orAdd ho.1 ho.2.1 ho.2.2.1 ho.2.2.2 (B.fl_or _ _) (B.fl_or _ _) (B.fl_or _ _), B.orAdd ho.1 ho.2.1 ho.2.2.1 ho.2.2.2 (B.fl_or _ _) (B.fl_or _ _) (B.fl_or _ _)]
  by_cases h : B.s16 a + B.s16 b + k < -32768
  · rw [if_pos h, decide_eq_true (Or.inl h)]
  · rw [if_neg h]
    have : decide (B.s16 a + B.s16 b + k ≥ 32768) = decide (B.s16 a + B.s16 b + k < -32768 ∨ B.s16 a + B.s16 b + k > 32767) := by
      rw [decide_eq_decide]; omega
    rw [this]

theorem s_wide_Sbc (a b f : Int) (a0 : 0 ≤ a) (a1 : a < 65536) (b0 : 0 ≤ b) (b1 : b < 65536) (f0 : 0 ≤ f) (f1 : f < 256) :
    wide_Sbc.f a b f = some (B.sbcR a b (f % 2), B.sbcF a b (f % 2)) := by
  unfold wide_Sbc.f
  rw [B.and1 f0 f1]
  have k0 : 0 ≤ f % 2 ∧ f % 2 < 2 := by omega
  generalize f % 2 = k at *
  have e1 : wrap64 (wrap64 (wrap64 a - wrap64 b) - wrap64 k) = a - b - k := by simp (disch := omega) only [B.w64]
  have e2 : wrap64 (wrap64 (wrap64 (Go.bits .and .u16 a 4095) - wrap64 (Go.bits .and .u16 b 4095)) - wrap64 k) = a % 4096 - b % 4096 - k := by
    simp (disch := omega) only [B.and4095, B.tm, B.w64]
  have e3 : wrap64 (wrap64 (wrap64 (IntKind.i16.wrap a) - wrap64 (IntKind.i16.wrap b)) - wrap64 k) = B.s16 a - B.s16 b - k := by
    unfold B.s16; simp (disch := omega) only [B.wi16, B.w64]
  rw [e1, e2, e3, B.wu16]
  have hr : 0 ≤ (a - b - k) % 65536 ∧ (a - b - k) % 65536 < 65536 := by omega
  have ho := B.all16_form hr.1 hr.2
  rw [s_wide_all _ hr.1 hr.2]
  simp only [s_wide_if1, Option.bind_some]
  unfold B.sbcF B.sbcR
  generalize B.all16 ((a - b - k) % 65536) = o at *
  rw [B.orSub ho.1 ho.2.1 ho.2.2.1 ho.2.2.2 (B.fl_or _ _) (B.fl_or _ _) (B.fl_or _ _), B.orSub ho.1 ho.2.1 ho.2.2.1 ho.2.2.2 (B.fl_or _ _) (B.fl_or _ _) (B.fl_or _ _)]
  by_cases h : B.s16 a - B.s16 b - k < -32768
  · rw [if_pos h, decide_eq_true (Or.inl h)]
  · rw [if_neg h]
    have : decide (B.s16 a - B.s16 b - k ≥ 32768) = decide (B.s16 a - B.s16 b - k < -32768 ∨ B.s16 a - B.s16 b - k > 32767) := by
      rw [decide_eq_decide]; omega
    rw [this]

theorem s_pendulumref07_Adc (a b f : Int) (a0 : 0 ≤ a) (a1 : a < 65536) (b0 : 0 ≤ b) (b1 : b < 65536) (f0 : 0 ≤ f) (f1 : f < 256) :
    pendulumref07_Adc.f a b f = some (B.adcR a b (f % 2), B.adcF a b (f % 2)) := by
  unfold pendulumref07_Adc.f
  rw [s_pendulumref07_signed a a0 a1, Option.bind_some, s_pendulumref07_signed b b0 b1, Option.bind_some, B.tm 2 f0]
  have k0 : 0 ≤ f % 2 ∧ f % 2 < 2 := by omega
  generalize f % 2 = k at *
  have e1 : wrap64 (wrap64 (wrap64 a + wrap64 b) + wrap64 k) = a + b + k := by simp (disch := omega) only [B.w64]
  have e2 : wrap64 (wrap64 (wrap64 (Int.tmod a 4096) + wrap64 (Int.tmod b 4096)) + wrap64 k) = a % 4096 + b % 4096 + k := by
    simp (disch := omega) only [B.and4095, B.tm, B.w64]
  have e3 : wrap64 (wrap64 (B.s16 a + B.s16 b) + wrap64 k) = B.s16 a + B.s16 b + k := by
    unfold B.s16; simp (disch := omega) only [B.wi16, B.w64]
  rw [e1, e2, e3, B.wu16]
  have hr : 0 ≤ (a + b + k) % 65536 ∧ (a + b + k) % 65536 < 65536 := by omega
  have ho := B.all16_form hr.1 hr.2
  rw [s_pendulumref07_sz _ hr.1 hr.2]
  simp only [s_pendulumref05_Flag, Option.bind_some]
  unfold B.adcF B.adcR
  generalize B.all16 ((a + b + k) % 65536) = o at *
  rw [B.orAdd ho.1 ho.2.1 ho.2.2.1 ho.2.2.2 (B.fl_or _ _) (B.fl_or _ _) (B.fl_or _ _), B.orAdd ho.1 ho.2.1 ho.2.2.1 ho.2.2.2 (B.fl_or _ _) (B.fl_or _ _) (B.fl_or _ _)]
  by_cases h : B.s16 a + B.s16 b + k < -32768
  · rw [if_pos h, decide_eq_true (Or.inl h)]
  · rw [if_neg h]
    have : decide (B.s16 a + B.s16 b + k > 32767) = decide (B.s16 a + B.s16 b + k < -32768 ∨ B.s16 a + B.s16 b + k > 32767) := by
      rw [decide_eq_decide]; omega
    rw [this]

theorem s_pendulumref07_Sbc (a b f : Int) (a0 : 0 ≤ a) (a1 : a < 65536) (b0 : 0 ≤ b) (b1 : b < 65536) (f0 : 0 ≤ f) (f1 : f < 256) :
    pendulumref07_Sbc.f a b f = some (B.sbcR a b (f % 2), B.sbcF a b (f % 2)) := by
  unfold pendulumref07_Sbc.f
  rw [s_pendulumref07_signed a a0 a1, Option.bind_some, s_pendulumref07_signed b b0 b1, Option.bind_some, B.tm 2 f0]
  have k0 : 0 ≤ f % 2 ∧ f % 2 < 2 := by omega
  generalize f % 2 = k at *
  have e1 : wrap64 (wrap64 (wrap64 a - wrap64 b) - wrap64 k) = a - b - k := by simp (disch := omega) only [B.w64]
  have e2 : wrap64 (wrap64 (wrap64 (Int.tmod a 4096) - wrap64 (Int.tmod b 4096)) - wrap64 k) = a % 4096 - b % 4096 - k := by
    simp (disch := omega) only [B.and4095, B.tm, B.w64]
  have e3 : wrap64 (wrap64 (B.s16 a - B.s16 b) - wrap64 k) = B.s16 a - B.s16 b - k := by
    unfold B.s16; simp (disch := omega) only [B.wi16, B.w64]
  rw [e1, e2, e3, B.wu16]
  have hr : 0 ≤ (a - b - k) % 65536 ∧ (a - b - k) % 65536 < 65536 := by omega
  have ho := B.all16_form hr.1 hr.2
  rw [s_pendulumref07_sz _ hr.1 hr.2]
  simp only [s_pendulumref05_Flag, Option.bind_some]
  unfold B.sbcF B.sbcR
  generalize B.all16 ((a - b - k) % 65536) = o at *
  rw [B.orSubR ho.1 ho.2.1 ho.2.2.1 ho.2.2.2 (B.fl_or _ _) (B.fl_or _ _) (B.fl_or _ _), B.orSubR ho.1 ho.2.1 ho.2.2.1 ho.2.2.2 (B.fl_or _ _) (B.fl_or _ _) (B.fl_or _ _)]
  by_cases h : B.s16 a - B.s16 b - k < -32768
  · rw [if_pos h, decide_eq_true (Or.inl h)]
  · rw [if_neg h]
    have : decide (B.s16 a - B.s16 b - k > 32767) = decide (B.s16 a - B.s16 b - k < -32768 ∨ B.s16 a - B.s16 b - k > 32767) := by
      rw [decide_eq_decide]; omega
    rw [this]

theorem s_wide_Add (a b f : Int) (a0 : 0 ≤ a) (a1 : a < 65536) (b0 : 0 ≤ b) (b1 : b < 65536) : wide_Add.f a b f = some ((a + b) % 65536, B.addW a b f) := by
  unfold wide_Add.f B.addW
  have e1 : IntKind.u16.wrap (Go.bits .and .u16 a 4095 + Go.bits .and .u16 b 4095) = a % 4096 + b % 4096 := by
    rw [B.and4095 a0 a1, B.and4095 b0 b1, B.wu16]; omega
  have e2 : decide ((a + b) % 65536 < a) = decide (a + b > 65535) := B.bdec (by omega)
  rw [e1, B.wu16, e2, s_wide_if1, Option.bind_some, s_wide_if1, Option.bind_some, show (a + b) % 65536 / 256 % 256 = (a + b) % 65536 / 256 by omega]

theorem s_pendulumref07_Add (a b f : Int) (a0 : 0 ≤ a) (a1 : a < 65536) (b0 : 0 ≤ b) (b1 : b < 65536) : pendulumref07_Add.f a b f = some ((a + b) % 65536, B.addW a b f) := by
  unfold pendulumref07_Add.f B.addW
  have e1 : wrap64 (wrap64 (Int.tmod a 4096) + wrap64 (Int.tmod b 4096)) = a % 4096 + b % 4096 := by simp (disch := omega) only [B.tm, B.w64]
  have e2 : wrap64 (wrap64 a + wrap64 b) = a + b := by simp (disch := omega) only [B.w64]
  rw [e1, e2, B.wu16, s_pendulumref07_yx _ (by omega) (by omega), Option.bind_some, s_pendulumref05_Flag, Option.bind_some, s_pendulumref05_Flag, Option.bind_some]

theorem s_wide_Split (a : Int) (a0 : 0 ≤ a) (a1 : a < 65536) : wide_Split.f a = some (a / 256, a % 256) := by
  unfold wide_Split.f; rw [show a / 256 % 256 = a / 256 by omega]

theorem s_pendulumref07_Split (a : Int) (a0 : 0 ≤ a) (a1 : a < 65536) : pendulumref07_Split.f a = some (a / 256, a % 256) := by
  unfold pendulumref07_Split.f; rw [B.td 256 a0, B.tm 256 a0, B.wu16, show a / 256 % 65536 % 256 = a / 256 by omega, show a % 256 % 256 = a % 256 by omega]

theorem s_wide_Pair (a b : Int) (a0 : 0 ≤ a) (a1 : a < 256) (b0 : 0 ≤ b) (b1 : b < 256) : wide_Pair.f a b = some (a * 256 + b) := by
  unfold wide_Pair.f
  rw [B.wu16, B.wu16, B.wu16, show a % 65536 * 256 % 65536 = a * 256 by omega, show b % 65536 = b by omega, B.or_join16 (by omega) (by omega) (by omega) b0 b1]

theorem s_pendulumref07_Pair (a b : Int) (a0 : 0 ≤ a) (a1 : a < 256) (b0 : 0 ≤ b) (b1 : b < 256) : pendulumref07_Pair.f a b = some (a * 256 + b) := by
  unfold pendulumref07_Pair.f
  rw [B.wu16, B.wu16, B.wu16, B.wu16]; congr 1; omega

theorem s_wide_Signed (a : Int) : wide_Signed.f a = some (B.s8 a) := by
  unfold wide_Signed.f B.s8
  have : wrap64 (IntKind.i8.wrap a) = (a + 128) % 256 - 128 := by rw [B.wi8]; exact B.w64 (by omega) (by omega)
  rw [this]

theorem s_pendulumref07_Signed (a : Int) (h0 : 0 ≤ a) (h1 : a < 256) : pendulumref07_Signed.f a = some (B.s8 a) := by
  unfold pendulumref07_Signed.f B.s8
  split
  · have e : wrap64 (wrap64 a - 256) = (a + 128) % 256 - 128 := by simp (disch := omega) only [B.w64]; omega
    rw [e]
  · have e : wrap64 a = (a + 128) % 256 - 128 := by simp (disch := omega) only [B.w64]; omega
    rw [e]

theorem s_wide_Plus (a d : Int) : wide_Plus.f a d = some ((a + B.s8 d) % 65536) := by
  unfold wide_Plus.f B.s8
  rw [B.wi8, B.wi16, B.wu16, B.wu16]; congr 1; omega

theorem s_pendulumref07_Plus (a d : Int) (a0 : 0 ≤ a) (a1 : a < 65536) (d0 : 0 ≤ d) (d1 : d < 256) : pendulumref07_Plus.f a d = some ((a + B.s8 d) % 65536) := by
  unfold pendulumref07_Plus.f
  have : wrap64 (wrap64 a + B.s8 d) = a + B.s8 d := by unfold B.s8; simp (disch := omega) only [B.w64]
  rw [s_pendulumref07_Signed d d0 d1, Option.bind_some, this, B.wu16]
theorem lives : pendulumlaw07_lives.f = some true := by decide +kernel
theorem WideCalls : pendulumlaw07_WideCalls.Pure := by
  intro a b f d ha hb hf hd
  obtain ⟨a0, a1⟩ := bounds_u16 ha
  obtain ⟨b0, b1⟩ := bounds_u16 hb
  obtain ⟨f0, f1⟩ := bounds_u8 hf
  obtain ⟨d0, d1⟩ := bounds_u8 hd
  have a2 : a < 65536 := by omega
  have b2 : b < 65536 := by omega
  have f2 : f < 256 := by omega
  have d2 : d < 256 := by omega
  unfold pendulumlaw07_WideCalls.f
  rw [lives, Option.bind_some, if_pos rfl]
  rw [s_wide_Add a b f a0 a2 b0 b2, s_pendulumref07_Add a b f a0 a2 b0 b2, s_wide_Adc a b f a0 a2 b0 b2 f0 f2, s_pendulumref07_Adc a b f a0 a2 b0 b2 f0 f2,
    s_wide_Sbc a b f a0 a2 b0 b2 f0 f2, s_pendulumref07_Sbc a b f a0 a2 b0 b2 f0 f2, s_wide_Split a a0 a2, s_pendulumref07_Split a a0 a2, s_wide_Pair f d f0 f2 d0 d2, s_pendulumref07_Pair f d f0 f2 d0 d2,
    s_wide_Signed d, s_pendulumref07_Signed d d0 d2, s_wide_Plus a d, s_pendulumref07_Plus a d a0 a2 d0 d2]
  simp

end Go.Proofs.Ytpmmneipfmbmlaa.Pure
