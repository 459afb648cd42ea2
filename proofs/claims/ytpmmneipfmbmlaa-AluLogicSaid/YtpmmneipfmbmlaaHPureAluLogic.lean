/- AluLogic's plain statement: and, or, exclusive or, one less, and from 0, are what the document says, for all bytes and flags. -/
import Derived.Test.YtpmmneipfmbmlaaHAluLogicx2
import Derived.Test.YtpmmneipfmbmlaaBits
set_option linter.unusedVariables false
set_option linter.unusedSimpArgs false
namespace Go.Proofs.Ytpmmneipfmbmlaa.Pure
open Go.RowKit Go.Proofs.Ytpmmneipfmbmlaa.HAluLogic Go.Proofs.YtpmmneipfmbmlaaW.PrintWords Go.Proofs.YtpmmneipfmbmlaaW.PrintLast
open Go.Proofs.Ytpmmneipfmbmlaa

theorem s_alu_if1 (b : Bool) (x : Int) : alu_if1.f b x = some (B.fl b x) := by unfold alu_if1.f B.fl; split <;> rfl

theorem s_pendulumref05_Flag (b : Bool) (x : Int) : pendulumref05_Flag.f x b = some (B.fl b x) := by unfold pendulumref05_Flag.f B.fl; split <;> rfl

theorem s_alu_Own (r : Int) (h0 : 0 ≤ r) (h1 : r < 256) : alu_Own.f r = some (B.own r) := by
  unfold alu_Own.f B.own
  by_cases h : r = 0
  · subst h; rfl
  · rw [if_neg h, if_neg h, B.and168 h0 h1]; simp

theorem s_pendulumref05_Own (r : Int) (h0 : 0 ≤ r) (h1 : r < 256) : pendulumref05_Own.f r = some (B.own r) := by
  unfold pendulumref05_Own.f B.own
  by_cases h : r = 0
  · subst h; rfl
  · rw [if_neg h, if_neg h, B.and168 h0 h1]; simp

theorem s_alu_Sub (a b : Int) (c : Bool) (a0 : 0 ≤ a) (a1 : a < 256) (b0 : 0 ≤ b) (b1 : b < 256) :
    alu_Sub.f a b c = some (B.subR a b (B.fl c 1), B.subF a b (B.fl c 1)) := by
  unfold alu_Sub.f
  rw [s_alu_if1]
  have k0 := B.fl_or c 1
  generalize B.fl c 1 = k at *
  have e1 : wrap64 (wrap64 (wrap64 a - wrap64 b) - wrap64 k) = a - b - k := by simp (disch := omega) only [B.w64]
  have e2 : wrap64 (wrap64 (wrap64 (Go.bits .and .u8 a 15) - wrap64 (Go.bits .and .u8 b 15)) - wrap64 k) = a % 16 - b % 16 - k := by
    simp (disch := omega) only [B.and15, B.tm16, B.w64]
  have e3 : wrap64 (wrap64 (wrap64 (IntKind.i8.wrap a) - wrap64 (IntKind.i8.wrap b)) - wrap64 k) = B.s8 a - B.s8 b - k := by
    unfold B.s8; simp (disch := omega) only [B.wi8, B.w64]
  rw [Option.bind_some, e1, e2, e3]
  have hr := B.own_range (r := (a - b - k) % 256) (by omega) (by omega)
  have ho := B.own_form (r := (a - b - k) % 256) (by omega) (by omega)
  rw [s_alu_Own _ (by omega) (by omega)]
  simp only [s_alu_if1, Option.bind_some]
  unfold B.subF B.subR
  generalize B.own ((a - b - k) % 256) = o at *
  rw [B.orSub hr.1 hr.2 ho.1 ho.2.1 (B.fl_or _ _) (B.fl_or _ _) (B.fl_or _ _), B.orSub hr.1 hr.2 ho.1 ho.2.1 (B.fl_or _ _) (B.fl_or _ _) (B.fl_or _ _)]
  by_cases h : B.s8 a - B.s8 b - k < -128
  · rw [if_pos h, decide_eq_true (Or.inl h)]
  · rw [if_neg h]
    have : decide (B.s8 a - B.s8 b - k > 127) = decide (B.s8 a - B.s8 b - k < -128 ∨ B.s8 a - B.s8 b - k > 127) := by
      rw [decide_eq_decide]; omega
    rw [this]

theorem s_pendulumref05_one (b : Bool) : pendulumref05_one.f b = some (B.fl b 1) := by unfold pendulumref05_one.f B.fl; split <;> rfl

theorem s_pendulumref05_signed (a : Int) (h0 : 0 ≤ a) (h1 : a < 256) : pendulumref05_signed.f a = some (B.s8 a) := by
  unfold pendulumref05_signed.f B.s8
  split
  · have e : wrap64 (wrap64 a - 256) = (a + 128) % 256 - 128 := by simp (disch := omega) only [B.w64]; omega
    rw [e]
  · have e : wrap64 a = (a + 128) % 256 - 128 := by simp (disch := omega) only [B.w64]; omega
    rw [e]

theorem s_pendulumref05_Sub (a b : Int) (c : Bool) (a0 : 0 ≤ a) (a1 : a < 256) (b0 : 0 ≤ b) (b1 : b < 256) :
    pendulumref05_Sub.f a b c = some (B.subR a b (B.fl c 1), B.subF a b (B.fl c 1)) := by
  unfold pendulumref05_Sub.f
  rw [s_pendulumref05_one, s_pendulumref05_signed a a0 a1, s_pendulumref05_signed b b0 b1]
  have k0 := B.fl_or c 1
  generalize B.fl c 1 = k at *
  have e1 : wrap64 (wrap64 (wrap64 a - wrap64 b) - k) = a - b - k := by simp (disch := omega) only [B.w64]
  have e2 : wrap64 (wrap64 (wrap64 (Int.tmod a 16) - wrap64 (Int.tmod b 16)) - k) = a % 16 - b % 16 - k := by
    simp (disch := omega) only [B.and15, B.tm16, B.w64]
  have e3 : wrap64 (wrap64 (B.s8 a - B.s8 b) - k) = B.s8 a - B.s8 b - k := by
    unfold B.s8; simp (disch := omega) only [B.wi8, B.w64]
  rw [Option.bind_some, Option.bind_some, Option.bind_some, e1, e2, e3]
  have hr := B.own_range (r := (a - b - k) % 256) (by omega) (by omega)
  have ho := B.own_form (r := (a - b - k) % 256) (by omega) (by omega)
  rw [s_pendulumref05_Own _ (by omega) (by omega)]
  simp only [s_pendulumref05_Flag, Option.bind_some]
  unfold B.subF B.subR
  generalize B.own ((a - b - k) % 256) = o at *
  rw [B.orSubR hr.1 hr.2 ho.1 ho.2.1 (B.fl_or _ _) (B.fl_or _ _) (B.fl_or _ _), B.orSubR hr.1 hr.2 ho.1 ho.2.1 (B.fl_or _ _) (B.fl_or _ _) (B.fl_or _ _)]
  by_cases h : B.s8 a - B.s8 b - k < -128
  · rw [if_pos h, decide_eq_true (Or.inl h)]
  · rw [if_neg h]
    have : decide (B.s8 a - B.s8 b - k > 127) = decide (B.s8 a - B.s8 b - k < -128 ∨ B.s8 a - B.s8 b - k > 127) := by
      rw [decide_eq_decide]; omega
    rw [this]

theorem s_alu_Parity (r : Int) (h0 : 0 ≤ r) (h1 : r < 256) : alu_Parity.f r = some (B.par r) :=
  B.all8 (P := fun r => alu_Parity.f r = some (B.par r)) (by decide +kernel) r h0 h1

theorem s_pendulumref05_Parity (k : Nat) (hk : 9 ≤ k) (r : Int) (h0 : 0 ≤ r) (h1 : r < 256) : pendulumref05_Parity.f k r = some (B.par r) := by
  obtain ⟨d, rfl⟩ := Nat.exists_eq_add_of_le hk
  clear hk
  induction d with
  | zero => exact B.all8 (P := fun r => pendulumref05_Parity.f 9 r = some (B.par r)) (by decide +kernel) r h0 h1
  | succ d ih => exact pendulumref05_Parity.mono r (9 + d) _ ih

theorem s_pendulumref05_Logic (k : Nat) (hk : 9 ≤ k) (r : Int) (h0 : 0 ≤ r) (h1 : r < 256) : pendulumref05_Logic.f k r = some (B.logic r) := by
  unfold pendulumref05_Logic.f B.logic
  rw [s_pendulumref05_Own r h0 h1, Option.bind_some, s_pendulumref05_Parity k hk r h0 h1, Option.bind_some, s_pendulumref05_Flag, Option.bind_some]

theorem s_alu_logic (r h : Int) (h0 : 0 ≤ r) (h1 : r < 256) : alu_logic.f r h = some (r, Go.bits .or .u8 (B.logic r) h) := by
  unfold alu_logic.f B.logic
  rw [s_alu_Own r h0 h1, Option.bind_some, s_alu_Parity r h0 h1, Option.bind_some, s_alu_if1, Option.bind_some]
theorem lives : pendulumlaw05_lives.f = some true := by decide +kernel
theorem or_zero (x : Int) (h0 : 0 ≤ x) (h1 : x < 256) : Go.bits .or .u8 x 0 = x := by
  have := B.or1 (x := x - x % 2) (y := 0) (by omega) (by omega) (by omega) (.inl rfl)
  exact B.all8 (P := fun x => Go.bits .or .u8 x 0 = x) (by decide +kernel) x h0 h1
theorem logic_range (r : Int) (h0 : 0 ≤ r) (h1 : r < 256) : 0 ≤ B.logic r ∧ B.logic r < 256 :=
  B.all8 (P := fun r => 0 ≤ B.logic r ∧ B.logic r < 256) (by decide +kernel) r h0 h1
theorem AluLogic : pendulumlaw05_AluLogic.Pure := by
  intro a b f ha hb hf
  obtain ⟨a0, a1⟩ := bounds_u8 ha
  obtain ⟨b0, b1⟩ := bounds_u8 hb
  have A := B.and_range a b a0 (by omega) b0 (by omega)
  have O := B.or_range a b a0 (by omega) b0 (by omega)
  have X := B.xor_range a b a0 (by omega) b0 (by omega)
  have LO := logic_range _ O.1 O.2
  have LX := logic_range _ X.1 X.2
  refine ⟨12, ?_⟩
  unfold pendulumlaw05_AluLogic.f
  rw [lives, Option.bind_some, if_pos rfl]
  unfold alu_And.f pendulumref05_And.f alu_Or.f pendulumref05_Or.f
  rw [s_alu_logic _ _ A.1 A.2, s_pendulumref05_Logic 12 (by omega) _ A.1 A.2, s_alu_logic _ _ O.1 O.2, s_pendulumref05_Logic 12 (by omega) _ O.1 O.2]
  simp only [Option.bind_some]
  rw [if_pos trivial, if_pos trivial, if_pos trivial, or_zero _ LO.1 LO.2]
  simp only [bne_self_eq_false, pendulumlaw05_AluLogic.j0]
  rw [if_neg (by decide)]
  unfold alu_Xor.f pendulumref05_Xor.f alu_Dec.f pendulumref05_Dec.f alu_Neg.f pendulumref05_Neg.f
  rw [s_alu_logic _ _ X.1 X.2, s_pendulumref05_Logic 11 (by omega) _ X.1 X.2, s_alu_Sub a 1 false a0 (by omega) (by omega) (by omega), s_pendulumref05_Sub a 1 false a0 (by omega) (by omega) (by omega),
    s_alu_Sub 0 a false (by omega) (by omega) a0 (by omega), s_pendulumref05_Sub 0 a false (by omega) (by omega) a0 (by omega)]
  simp only [Option.bind_some]
  rw [or_zero _ LX.1 LX.2]
  simp

end Go.Proofs.Ytpmmneipfmbmlaa.Pure
