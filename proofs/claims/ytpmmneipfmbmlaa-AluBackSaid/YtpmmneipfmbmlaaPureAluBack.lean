/- AluBack's plain statement: a sum less what was added is what there was, and the flags say of both what they are, for all bytes and a carry. -/
import Derived.Test.YtpmmneipfmbmlaaPAluBackx1
import Derived.Test.YtpmmneipfmbmlaaBits
set_option linter.unusedVariables false
set_option linter.unusedSimpArgs false
namespace Go.Proofs.Ytpmmneipfmbmlaa.Pure
open Go.RowKit Go.Proofs.Ytpmmneipfmbmlaa.PAluBack Go.Proofs.YtpmmneipfmbmlaaW.PrintWords Go.Proofs.YtpmmneipfmbmlaaW.PrintLast
open Go.Proofs.Ytpmmneipfmbmlaa

theorem s_alu_if1 (b : Bool) (x : Int) : alu_if1.f b x = some (B.fl b x) := by unfold alu_if1.f B.fl; split <;> rfl

theorem s_alu_Own (r : Int) (h0 : 0 ≤ r) (h1 : r < 256) : alu_Own.f r = some (B.own r) := by
  unfold alu_Own.f B.own
  by_cases h : r = 0
  · subst h; rfl
  · rw [if_neg h, if_neg h, B.and168 h0 h1]; simp

theorem s_alu_Add (a b : Int) (c : Bool) (a0 : 0 ≤ a) (a1 : a < 256) (b0 : 0 ≤ b) (b1 : b < 256) :
    alu_Add.f a b c = some (B.addR a b (B.fl c 1), B.addF a b (B.fl c 1)) := by
  unfold alu_Add.f
  rw [s_alu_if1]
  have k0 := B.fl_or c 1
  generalize B.fl c 1 = k at *
  have e1 : wrap64 (wrap64 (wrap64 a + wrap64 b) + wrap64 k) = a + b + k := by simp (disch := omega) only [B.w64]
  have e2 : wrap64 (wrap64 (wrap64 (Go.bits .and .u8 a 15) + wrap64 (Go.bits .and .u8 b 15)) + wrap64 k) = a % 16 + b % 16 + k := by
    simp (disch := omega) only [B.and15, B.tm16, B.w64]
  have e3 : wrap64 (wrap64 (wrap64 (IntKind.i8.wrap a) + wrap64 (IntKind.i8.wrap b)) + wrap64 k) = B.s8 a + B.s8 b + k := by
    unfold B.s8; simp (disch := omega) only [B.wi8, B.w64]
  rw [Option.bind_some, e1, e2, e3]
  have hr := B.own_range (r := (a + b + k) % 256) (by omega) (by omega)
  have ho := B.own_form (r := (a + b + k) % 256) (by omega) (by omega)
  rw [s_alu_Own _ (by omega) (by omega)]
  simp only [s_alu_if1, Option.bind_some]
  unfold B.addF B.addR
  generalize B.own ((a + b + k) % 256) = o at *
  rw [B.orAdd hr.1 hr.2 ho.1 ho.2.1 (B.fl_or _ _) (B.fl_or _ _) (B.fl_or _ _), B.orAdd hr.1 hr.2 ho.1 ho.2.1 (B.fl_or _ _) (B.fl_or _ _) (B.fl_or _ _)]
  by_cases h : B.s8 a + B.s8 b + k < -128
  · rw [if_pos h, decide_eq_true (Or.inl h)]
  · rw [if_neg h]
    have : decide (B.s8 a + B.s8 b + k > 127) = decide (B.s8 a + B.s8 b + k < -128 ∨ B.s8 a + B.s8 b + k > 127) := by
      rw [decide_eq_decide]; omega
    rw [this]

theorem s_alu_Sub (a b : Int) (c : Bool) (a0 : 0 ≤ a) (a1 : a < 256) (b0 : 0 ≤ b) (b1 : b < 256) :
    alu_Sub.f a b c = some (B.subR a b (B.fl c 1), B.subF a b (B.fl c 1)) := by
  unfold alu_Sub.f
  rw [s_alu_if1]
  have k0 := B.fl_or c 1
  generalize B.fl c 1 = k at *
  have e1 : wrap64 (wrap64 (wrap64 a - wrap64 b) - wrap64 k) = a - b - k := by simp (disch := omega) only [B.w64]
  have e2 : wrap64 (wrap64 (wrap64 (Go.bits .and .u8 a 15) - wrap64 (Go.bits .and .u8 b 15)) - wrap64 k) = a % 16 - b % 16 - k := by
    simp (disch := omega) only [B.and15, B.tm16, B.w64]
  have e3 : wrap64 (wrap64 (wrap64 (IntKind.i8.wrap a) - wrap64 (IntKind.i8.wrap b)) - wrap64 k) = B.s8 a - B.s8 b - k := by
    unfold B.s8; simp (disch := omega) only [B.wi8, B.w64]
  rw [Option.bind_some, e1, e2, e3]
  have hr := B.own_range (r := (a - b - k) % 256) (by omega) (by omega)
  have ho := B.own_form (r := (a - b - k) % 256) (by omega) (by omega)
  rw [s_alu_Own _ (by omega) (by omega)]
  simp only [s_alu_if1, Option.bind_some]
  unfold B.subF B.subR
  generalize B.own ((a - b - k) % 256) = o at *
  rw [B.orSub hr.1 hr.2 ho.1 ho.2.1 (B.fl_or _ _) (B.fl_or _ _) (B.fl_or _ _), B.orSub hr.1 hr.2 ho.1 ho.2.1 (B.fl_or _ _) (B.fl_or _ _) (B.fl_or _ _)]
  by_cases h : B.s8 a - B.s8 b - k < -128
  · rw [if_pos h, decide_eq_true (Or.inl h)]
  · rw [if_neg h]
    have : decide (B.s8 a - B.s8 b - k > 127) = decide (B.s8 a - B.s8 b - k < -128 ∨ B.s8 a - B.s8 b - k > 127) := by
      rw [decide_eq_decide]; omega
    rw [this]
theorem lives : pendulumlaw05_lives.f = some true := by decide +kernel
theorem AluBack : pendulumlaw05_AluBack.Pure := by
  intro a b c ha hb
  obtain ⟨a0, a1⟩ := bounds_u8 ha
  obtain ⟨b0, b1⟩ := bounds_u8 hb
  refine ⟨3, ?_⟩
  have key : ∀ k : Int, k = B.fl c 1 → pendulumlaw05_AluBack.j0 3 a b c k = some true := by
    intro k hk
    have k0 := B.fl_or c 1
    rw [← hk] at k0
    have hr0 : 0 ≤ B.addR a b k ∧ B.addR a b k < 256 := by unfold B.addR; omega
    have hb' : B.subR (B.addR a b k) b k = a := by unfold B.subR B.addR; omega
    have hR : B.addR a b k = (a + b + k) % 256 := rfl
    have e1 : wrap64 (wrap64 (wrap64 a + wrap64 b) + k) = a + b + k := by simp (disch := omega) only [B.w64]
    have e2 : ∀ r c : Int, 0 ≤ r → r < 256 → 0 ≤ c → c < 2 → wrap64 (wrap64 r + wrap64 (256 * wrap64 c)) = r + 256 * c := by
      intro r c _ _ _ _; simp (disch := omega) only [B.w64]
    have e3 : ∀ r : Int, 0 ≤ r → r < 256 → wrap64 (wrap64 (wrap64 r - wrap64 b) - k) = r - b - k := by
      intro r _ _; simp (disch := omega) only [B.w64]
    have i1 : wrap64 (wrap64 (wrap64 (IntKind.i8.wrap a) + wrap64 (IntKind.i8.wrap b)) + k) = B.s8 a + B.s8 b + k := by
      unfold B.s8; simp (disch := omega) only [B.wi8, B.w64]
    have i2 : ∀ r : Int, wrap64 (IntKind.i8.wrap r) = B.s8 r := by
      intro r; unfold B.s8; simp (disch := omega) only [B.wi8, B.w64]
    have i3 : ∀ r : Int, wrap64 (wrap64 (wrap64 (IntKind.i8.wrap r) - wrap64 (IntKind.i8.wrap b)) - k) = B.s8 r - B.s8 b - k := by
      intro r; unfold B.s8; simp (disch := omega) only [B.wi8, B.w64]
    have i5 : wrap64 (wrap64 (wrap64 (Int.tmod a 16) + wrap64 (Int.tmod b 16)) + k) = a % 16 + b % 16 + k := by
      simp (disch := omega) only [B.tm16, B.w64]
    have p1 : B.s8 a + B.s8 b + k ≠ B.s8 (B.addR a b k) ↔ (B.s8 a + B.s8 b + k < -128 ∨ B.s8 a + B.s8 b + k > 127) := by
      rw [hR]; unfold B.s8; omega
    have p2 : B.s8 (B.addR a b k) - B.s8 b - k ≠ B.s8 a ↔ (B.s8 (B.addR a b k) - B.s8 b - k < -128 ∨ B.s8 (B.addR a b k) - B.s8 b - k > 127) := by
      rw [hR]; unfold B.s8; omega
    have p3 : B.addR a b k - b - k < 0 ↔ a + b + k > 255 := by rw [hR]; omega
    have p4 : B.addF a b k % 2 = 1 ↔ a + b + k > 255 := (B.addF_parts a0 (by omega) b0 (by omega) k0).2.2.1
    have p5 : B.addR a b k + 256 * (B.addF a b k % 2) = a + b + k := by rw [hR]; omega
    simp only [pendulumlaw05_AluBack.j0]
    rw [s_alu_Add a b c a0 (by omega) b0 (by omega), Option.bind_some, ← hk]
    rw [s_alu_Sub _ b c hr0.1 hr0.2 b0 (by omega), Option.bind_some, ← hk]
    rw [hb', if_pos rfl]
    obtain ⟨r0, r1⟩ := hr0
    obtain ⟨f0, f1, fC, fN, fP, fH, fZ, fS, fY, fX⟩ := B.addF_parts a0 (by omega) b0 (by omega) k0
    obtain ⟨g0, g1, gC, gN, gP, gH, _⟩ := B.subF_parts r0 r1 b0 (by omega) k0
    have c0 := Int.emod_nonneg (B.addF a b k) (show (2 : Int) ≠ 0 by decide)
    have c1 := Int.emod_lt_of_pos (B.addF a b k) (show (0 : Int) < 2 by decide)
    rw [e1, B.and1 f0 f1, e2 _ _ r0 r1 c0 c1, e3 _ r0 r1, B.and64 f0 f1, B.and168 f0 f1, B.and168 r0 r1, B.and2 f0 f1]
    rw [if_neg (B.not_bne (by rw [B.bnei]; exact B.bdec (B.nz1 fC))), if_pos p5, if_neg (B.not_bne (by rw [B.bnei, B.beqi]; exact B.bdec (B.nz64 fZ))), if_pos (by rw [fS, fY, fX])]
    rw [show (B.addF a b k / 2 % 2 * 2 != 0) = false by rw [fN]; rfl]
    simp only [pendulumlaw05_AluBack.j1]
    rw [if_neg (by decide)]
    rw [i1, i3, i2, i2, i5, B.and4 f0 f1, B.and1 g0 g1, B.and4 g0 g1, B.and2 g0 g1, B.and1 f0 f1, B.and16 f0 f1]
    rw [if_neg (B.not_bne (by rw [B.bnei, B.bnei]; exact B.bdec ((B.nz4 fP).trans p1.symm))), if_neg (B.not_bne (by rw [B.bnei]; exact B.bdec (B.nz1 gC))),
      if_neg (B.not_bne (by rw [B.bnei, B.bnei]; exact B.bdec ((B.nz4 gP).trans p2.symm))), if_neg (by rw [gN]; decide),
      if_pos (B.is_beq (by rw [B.bnei, B.bnei]; exact B.bdec ((B.nz1 gC).trans (p3.trans (B.nz1 fC).symm))))]
    exact congrArg some (B.is_beq (by rw [B.bnei]; exact B.bdec (B.nz16 fH)))
  unfold pendulumlaw05_AluBack.f
  rw [lives, Option.bind_some, if_pos rfl]
  cases c
  · rw [if_neg (by decide)]; exact key 0 rfl
  · rw [if_pos rfl]; exact key 1 rfl

end Go.Proofs.Ytpmmneipfmbmlaa.Pure
