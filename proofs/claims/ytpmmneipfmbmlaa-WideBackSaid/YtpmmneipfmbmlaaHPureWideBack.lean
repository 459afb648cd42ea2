/- WideBack's plain statement: a sum less what was added is what there was; pairs are split and put together; a byte's sign goes along; for all words and bytes. -/
import Derived.Test.YtpmmneipfmbmlaaHWideBackx1
import Derived.Test.YtpmmneipfmbmlaaBits
import Derived.Test.YtpmmneipfmbmlaaBitsW
set_option linter.unusedVariables false
set_option linter.unusedSimpArgs false
namespace Go.Proofs.Ytpmmneipfmbmlaa.Pure
open Go.RowKit Go.Proofs.Ytpmmneipfmbmlaa.HWideBack Go.Proofs.YtpmmneipfmbmlaaW.PrintWords Go.Proofs.YtpmmneipfmbmlaaW.PrintLast
open Go.Proofs.Ytpmmneipfmbmlaa

theorem s_wide_if1 (b : Bool) (x : Int) : wide_if1.f b x = some (B.fl b x) := by unfold wide_if1.f B.fl; split <;> rfl

theorem s_wide_all (r : Int) (h0 : 0 ≤ r) (h1 : r < 65536) : wide_all.f r = some (B.all16 r) := by
  unfold wide_all.f B.all16
  rw [s_wide_if1, Option.bind_some, show r / 256 % 256 = r / 256 by omega, B.and168 (by omega) (by omega), B.beqi]
  rcases B.fl_cases (r = 0) 64 with ⟨h, e⟩ | ⟨h, e⟩
  · rw [e, if_pos h, B.or64 (by omega) (by omega) (by omega) (.inr rfl)]
  · rw [e, if_neg h]
    have a : 0 ≤ r / 256 ∧ r / 256 < 256 := by omega
    generalize r / 256 = n at *
    rw [B.or1 (y := 0) (by omega) (by omega) (by omega) (.inl rfl)]

theorem s_wide_Adc (a b f : Int) (a0 : 0 ≤ a) (a1 : a < 65536) (b0 : 0 ≤ b) (b1 : b < 65536) (f0 : 0 ≤ f) (f1 : f < 256) :
    wide_Adc.f a b f = some (B.adcR a b (f % 2), B.adcF a b (f % 2)) := by
  unfold wide_Adc.f
  rw [B.and1 f0 f1]
  have k0 : 0 ≤ f % 2 ∧ f % 2 < 2 := by omega
  generalize f % 2 = k at *
  have e1 : wrap64 (wrap64 (wrap64 a + wrap64 b) + wrap64 k) = a + b + k := by simp (disch := omega) only [B.w64]
  have e2 : wrap64 (wrap64 (wrap64 (Go.bits .and .u16 a 4095) + wrap64 (Go.bits .and .u16 b 4095)) + wrap64 k) = a % 4096 + b % 4096 + k := by
    simp (disch := omega) only [B.and4095, B.tm, B.w64]
  have e3 : wrap64 (wrap64 (wrap64 (IntKind.i16.wrap a) + wrap64 (IntKind.i16.wrap b)) + wrap64 k) = B.s16 a + B.s16 b + k := by
    unfold B.s16; simp (disch := omega) only [B.wi16, B.w64]
  rw [e1, e2, e3, B.wu16]
  have hr : 0 ≤ (a + b + k) % 65536 ∧ (a + b + k) % 65536 < 65536 := by omega
  have ho := B.all16_form hr.1 hr.2
  rw [s_wide_all _ hr.1 hr.2]
  simp only [s_wide_if1, Option.bind_some]
  unfold B.adcF B.adcR
  generalize B.all16 ((a + b + k) % 65536) = o at *
  rw [B.orAdd ho.1 ho.2.1 ho.2.2.1 ho.2.2.2 (B.fl_or _ _) (B.fl_or _ _) (B.fl_or _ _), B.orAdd ho.1 ho.2.1 ho.2.2.1 ho.2.2.2 (B.fl_or _ _) (B.fl_or _ _) (B.fl_or _ _)]
  by_cases h : B.s16 a + B.s16 b + k < -32768
  · rw [if_pos h, decide_eq_true (Or.inl h)]
  · rw [if_neg h]
    have : decide (B.s16 a + B.s16 b + k ≥ 32768) = decide (B.s16 a + B.s16 b + k < -32768 ∨ B.s16 a + B.s16 b + k > 32767) := by
      rw [decide_eq_decide]; omega
    rw [this]

theorem s_wide_Sbc (a b f : Int) (a0 : 0 ≤ a) (a1 : a < 65536) (b0 : 0 ≤ b) (b1 : b < 65536) (f0 : 0 ≤ f) (f1 : f < 256) :
    wide_Sbc.f a b f = some (B.sbcR a b (f % 2), B.sbcF a b (f % 2)) := by
  unfold wide_Sbc.f
  rw [B.and1 f0 f1]
  have k0 : 0 ≤ f % 2 ∧ f % 2 < 2 := by omega
  generalize f % 2 = k at *
  have e1 : wrap64 (wrap64 (wrap64 a - wrap64 b) - wrap64 k) = a - b - k := by simp (disch := omega) only [B.w64]
  have e2 : wrap64 (wrap64 (wrap64 (Go.bits .and .u16 a 4095) - wrap64 (Go.bits .and .u16 b 4095)) - wrap64 k) = a % 4096 - b % 4096 - k := by
    simp (disch := omega) only [B.and4095, B.tm, B.w64]
  have e3 : wrap64 (wrap64 (wrap64 (IntKind.i16.wrap a) - wrap64 (IntKind.i16.wrap b)) - wrap64 k) = B.s16 a - B.s16 b - k := by
    unfold B.s16; simp (disch := omega) only [B.wi16, B.w64]
  rw [e1, e2, e3, B.wu16]
  have hr : 0 ≤ (a - b - k) % 65536 ∧ (a - b - k) % 65536 < 65536 := by omega
  have ho := B.all16_form hr.1 hr.2
  rw [s_wide_all _ hr.1 hr.2]
  simp only [s_wide_if1, Option.bind_some]
  unfold B.sbcF B.sbcR
  generalize B.all16 ((a - b - k) % 65536) = o at *
  rw [B.orSub ho.1 ho.2.1 ho.2.2.1 ho.2.2.2 (B.fl_or _ _) (B.fl_or _ _) (B.fl_or _ _), B.orSub ho.1 ho.2.1 ho.2.2.1 ho.2.2.2 (B.fl_or _ _) (B.fl_or _ _) (B.fl_or _ _)]
  by_cases h : B.s16 a - B.s16 b - k < -32768
  · rw [if_pos h, decide_eq_true (Or.inl h)]
  · rw [if_neg h]
    have : decide (B.s16 a - B.s16 b - k ≥ 32768) = decide (B.s16 a - B.s16 b - k < -32768 ∨ B.s16 a - B.s16 b - k > 32767) := by
      rw [decide_eq_decide]; omega
    rw [this]

theorem s_wide_Split (a : Int) (a0 : 0 ≤ a) (a1 : a < 65536) : wide_Split.f a = some (a / 256, a % 256) := by
  unfold wide_Split.f; rw [show a / 256 % 256 = a / 256 by omega]

theorem s_wide_Pair (a b : Int) (a0 : 0 ≤ a) (a1 : a < 256) (b0 : 0 ≤ b) (b1 : b < 256) : wide_Pair.f a b = some (a * 256 + b) := by
  unfold wide_Pair.f
  rw [B.wu16, B.wu16, B.wu16, show a % 65536 * 256 % 65536 = a * 256 by omega, show b % 65536 = b by omega, B.or_join16 (by omega) (by omega) (by omega) b0 b1]

theorem s_wide_Signed (a : Int) : wide_Signed.f a = some (B.s8 a) := by
  unfold wide_Signed.f B.s8
  have : wrap64 (IntKind.i8.wrap a) = (a + 128) % 256 - 128 := by rw [B.wi8]; exact B.w64 (by omega) (by omega)
  rw [this]

theorem s_wide_Plus (a d : Int) : wide_Plus.f a d = some ((a + B.s8 d) % 65536) := by
  unfold wide_Plus.f B.s8
  rw [B.wi8, B.wi16, B.wu16, B.wu16]; congr 1; omega
theorem lives : pendulumlaw07_lives.f = some true := by decide +kernel
theorem WideBack : pendulumlaw07_WideBack.Pure := by
  intro a b d f ha hb hd hf
  obtain ⟨a0, a1⟩ := bounds_u16 ha
  obtain ⟨b0, b1⟩ := bounds_u16 hb
  obtain ⟨f0, f1⟩ := bounds_u8 hf
  obtain ⟨d0, d1⟩ := bounds_u8 hd
  have a2 : a < 65536 := by omega
  have b2 : b < 65536 := by omega
  have f2 : f < 256 := by omega
  have d2 : d < 256 := by omega
  have r0 : 0 ≤ B.adcR a b (f % 2) ∧ B.adcR a b (f % 2) < 65536 := by unfold B.adcR; omega
  have hback : B.sbcR (B.adcR a b (f % 2)) b (f % 2) = a := by unfold B.sbcR B.adcR; omega
  have s0 : -128 ≤ B.s8 d ∧ B.s8 d ≤ 127 := by unfold B.s8; omega
  have s1 : B.s8 d % 256 = d := by unfold B.s8; omega
  unfold pendulumlaw07_WideBack.f
  rw [lives, Option.bind_some, if_pos rfl]
  rw [s_wide_Adc a b f a0 a2 b0 b2 f0 f2, Option.bind_some, s_wide_Sbc _ b f r0.1 r0.2 b0 b2 f0 f2, Option.bind_some, s_wide_Split a a0 a2, Option.bind_some, s_wide_Pair f d f0 f2 d0 d2, Option.bind_some,
    s_wide_Split (f * 256 + d) (by omega) (by omega), Option.bind_some, s_wide_Signed d, Option.bind_some]
  dsimp only
  rw [hback, if_pos rfl, s_wide_Pair (a / 256) (a % 256) (by omega) (by omega) (by omega) (by omega), Option.bind_some, if_pos (by omega), if_pos (by omega), if_pos (by omega),
    s_wide_Plus a d, Option.bind_some, s_wide_Plus, Option.bind_some, s_wide_Signed, Option.bind_some, B.wu16, B.wu16, B.wu16, B.wu16]
  rw [if_pos (by omega), if_pos (by omega), if_pos (by omega), if_pos s1, Option.bind_some]
  refine congrArg some (beq_iff_eq.2 ?_)
  clear hback r0 s0 s1
  omega

end Go.Proofs.Ytpmmneipfmbmlaa.Pure
