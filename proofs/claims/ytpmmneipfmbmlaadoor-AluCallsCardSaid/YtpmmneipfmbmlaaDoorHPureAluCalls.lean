/- AluCalls' plain statement: whatever two bytes are put together, what comes, and the flags, are what the document says, for all bytes, flags, a carry, an operator. -/
import Derived.Test.YtpmmneipfmbmlaaDoorHAluCallsx2
import Derived.Test.YtpmmneipfmbmlaaDoorBits
import Derived.Test.YtpmmneipfmbmlaaDoorBitsS
set_option linter.unusedVariables false
set_option linter.unusedSimpArgs false
namespace Go.Proofs.YtpmmneipfmbmlaaDoor.Pure
open Go.RowKit Go.Proofs.YtpmmneipfmbmlaaDoor.HAluCalls Go.Proofs.YtpmmneipfmbmlaaDoorW.PrintWords Go.Proofs.YtpmmneipfmbmlaaDoorW.PrintLast
open Go.Proofs.YtpmmneipfmbmlaaDoor

theorem s_alu_if1 (b : Bool) (x : Int) : alu_if1.f b x = some (B.fl b x) := by unfold alu_if1.f B.fl; split <;> rfl

theorem s_pendulumref05_Flag (b : Bool) (x : Int) : pendulumref05_Flag.f x b = some (B.fl b x) := by unfold pendulumref05_Flag.f B.fl; split <;> rfl

theorem s_alu_Own (r : Int) (h0 : 0 ≤ r) (h1 : r < 256) : alu_Own.f r = some (B.own r) := by
  unfold alu_Own.f B.own
  by_cases h : r = 0
  · subst h; rfl
  · rw [if_neg h, if_neg h, B.and168 h0 h1]; simp

theorem s_pendulumref05_Own (r : Int) (h0 : 0 ≤ r) (h1 : r < 256) : pendulumref05_Own.f r = some (B.own r) := by
  unfold pendulumref05_Own.f B.own
  by_cases h : r = 0
  · subst h; rfl
  · rw [if_neg h, if_neg h, B.and168 h0 h1]; simp

theorem s_alu_Add (a b : Int) (c : Bool) (a0 : 0 ≤ a) (a1 : a < 256) (b0 : 0 ≤ b) (b1 : b < 256) :
    alu_Add.f a b c = some (B.addR a b (B.fl c 1), B.addF a b (B.fl c 1)) := by
  unfold alu_Add.f
  rw [s_alu_if1]
  have k0 := B.fl_or c 1
  generalize B.fl c 1 = k at *
  have e1 : wrap64 (wrap64 (wrap64 a + wrap64 b) + wrap64 k) = a + b + k := by simp (disch := omega) only [B.w64]
  have e2 : wrap64 (wrap64 (wrap64 (Go.bits .and .u8 a 15) + wrap64 (Go.bits .and .u8 b 15)) + wrap64 k) = a % 16 + b % 16 + k := by
    simp (disch := omega) only [B.and15, B.tm16, B.w64]
  have e3 : wrap64 (wrap64 (wrap64 (IntKind.i8.wrap a) + wrap64 (IntKind.i8.wrap b)) + wrap64 k) = B.s8 a + B.s8 b + k := by
    unfold B.s8; simp (disch := omega) only [B.wi8, B.w64]
  rw [Option.bind_some, e1, e2, e3]
  have hr := B.own_range (r := (a + b + k) % 256) (by omega) (by omega)
  have ho := B.own_form (r := (a + b + k) % 256) (by omega) (by omega)
  rw [s_alu_Own _ (by omega) (by omega)]
  simp only [s_alu_if1, Option.bind_some]
  unfold B.addF B.addR
  generalize B.own ((a + b + k) % 256) = o at *
  rw [B.orAdd hr.1 hr.2 ho.1 ho.2.1 (B.fl_or _ _) (B.fl_or _ _) (B.fl_or _ _), B.orAdd hr.1 hr.2 ho.1 ho.2.1 (B.fl_or _ _) (B.fl_or _ _) (B.fl_or _ _)]
  by_cases h : B.s8 a + B.s8 b + k < -128
  · rw [if_pos h, decide_eq_true (Or.inl h)]
  · rw [if_neg h]
    have : decide (B.s8 a + B.s8 b + k > 127) = decide (B.s8 a + B.s8 b + k < -128 ∨ B.s8 a + B.s8 b + k > 127) := by
      rw [decide_eq_decide]; omega
    rw [this]

theorem s_alu_Sub (a b : Int) (c : Bool) (a0 : 0 ≤ a) (a1 : a < 256) (b0 : 0 ≤ b) (b1 : b < 256) :
    alu_Sub.f a b c = some (B.subR a b (B.fl c 1), B.subF a b (B.fl c 1)) := by
  unfold alu_Sub.f
  rw [s_alu_if1]
  have k0 := B.fl_or c 1
  generalize B.fl c 1 = k at *
  have e1 : wrap64 (wrap64 (wrap64 a - wrap64 b) - wrap64 k) = a - b - k := by simp (disch := omega) only [B.w64]
  have e2 : wrap64 (wrap64 (wrap64 (Go.bits .and .u8 a 15) - wrap64 (Go.bits .and .u8 b 15)) - wrap64 k) = a % 16 - b % 16 - k := by
    simp (disch := omega) only [B.and15, B.tm16, B.w64]
  have e3 : wrap64 (wrap64 (wrap64 (IntKind.i8.wrap a) - wrap64 (IntKind.i8.wrap b)) - wrap64 k) = B.s8 a - B.s8 b - k := by
    unfold B.s8; simp (disch := omega) only [B.wi8, B.w64]
  rw [Option.bind_some, e1, e2, e3]
  have hr := B.own_range (r := (a - b - k) % 256) (by omega) (by omega)
  have ho := B.own_form (r := (a - b - k) % 256) (by omega) (by omega)
  rw [s_alu_Own _ (by omega) (by omega)]
  simp only [s_alu_if1, Option.bind_some]
  unfold B.subF B.subR
  generalize B.own ((a - b - k) % 256) = o at *
  rw [B.orSub hr.1 hr.2 ho.1 ho.2.1 (B.fl_or _ _) (B.fl_or _ _) (B.fl_or _ _), B.orSub hr.1 hr.2 ho.1 ho.2.1 (B.fl_or _ _) (B.fl_or _ _) (B.fl_or _ _)]
  by_cases h : B.s8 a - B.s8 b - k < -128
  · rw [if_pos h, decide_eq_true (Or.inl h)]
  · rw [if_neg h]
    have : decide (B.s8 a - B.s8 b - k > 127) = decide (B.s8 a - B.s8 b - k < -128 ∨ B.s8 a - B.s8 b - k > 127) := by
      rw [decide_eq_decide]; omega
    rw [this]

theorem s_pendulumref05_one (b : Bool) : pendulumref05_one.f b = some (B.fl b 1) := by unfold pendulumref05_one.f B.fl; split <;> rfl

theorem s_pendulumref05_signed (a : Int) (h0 : 0 ≤ a) (h1 : a < 256) : pendulumref05_signed.f a = some (B.s8 a) := by
  unfold pendulumref05_signed.f B.s8
  split
  · have e : wrap64 (wrap64 a - 256) = (a + 128) % 256 - 128 := by simp (disch := omega) only [B.w64]; omega
    rw [e]
  · have e : wrap64 a = (a + 128) % 256 - 128 := by simp (disch := omega) only [B.w64]; omega
    rw [e]

theorem s_pendulumref05_Add (a b : Int) (c : Bool) (a0 : 0 ≤ a) (a1 : a < 256) (b0 : 0 ≤ b) (b1 : b < 256) :
    pendulumref05_Add.f a b c = some (B.addR a b (B.fl c 1), B.addF a b (B.fl c 1)) := by
  unfold pendulumref05_Add.f
  rw [s_pendulumref05_one, s_pendulumref05_signed a a0 a1, s_pendulumref05_signed b b0 b1]
  have k0 := B.fl_or c 1
  generalize B.fl c 1 = k at *
  have e1 : wrap64 (wrap64 (wrap64 a + wrap64 b) + k) = a + b + k := by simp (disch := omega) only [B.w64]
  have e2 : wrap64 (wrap64 (wrap64 (Int.tmod a 16) + wrap64 (Int.tmod b 16)) + k) = a % 16 + b % 16 + k := by
    simp (disch := omega) only [B.and15, B.tm16, B.w64]
  have e3 : wrap64 (wrap64 (B.s8 a + B.s8 b) + k) = B.s8 a + B.s8 b + k := by
    unfold B.s8; simp (disch := omega) only [B.wi8, B.w64]
  rw [Option.bind_some, Option.bind_some, Option.bind_some, e1, e2, e3]
  have hr := B.own_range (r := (a + b + k) % 256) (by omega) (by omega)
  have ho := B.own_form (r := (a + b + k) % 256) (by omega) (by omega)
  rw [s_pendulumref05_Own _ (by omega) (by omega)]
  simp only [s_pendulumref05_Flag, Option.bind_some]
  unfold B.addF B.addR
  generalize B.own ((a + b + k) % 256) = o at *
  rw [B.orAdd hr.1 hr.2 ho.1 ho.2.1 (B.fl_or _ _) (B.fl_or _ _) (B.fl_or _ _), B.orAdd hr.1 hr.2 ho.1 ho.2.1 (B.fl_or _ _) (B.fl_or _ _) (B.fl_or _ _)]
  by_cases h : B.s8 a + B.s8 b + k < -128
  · rw [if_pos h, decide_eq_true (Or.inl h)]
  · rw [if_neg h]
    have : decide (B.s8 a + B.s8 b + k > 127) = decide (B.s8 a + B.s8 b + k < -128 ∨ B.s8 a + B.s8 b + k > 127) := by
      rw [decide_eq_decide]; omega
    rw [this]

theorem s_pendulumref05_Sub (a b : Int) (c : Bool) (a0 : 0 ≤ a) (a1 : a < 256) (b0 : 0 ≤ b) (b1 : b < 256) :
    pendulumref05_Sub.f a b c = some (B.subR a b (B.fl c 1), B.subF a b (B.fl c 1)) := by
  unfold pendulumref05_Sub.f
  rw [s_pendulumref05_one, s_pendulumref05_signed a a0 a1, s_pendulumref05_signed b b0 b1]
  have k0 := B.fl_or c 1
  generalize B.fl c 1 = k at *
  have e1 : wrap64 (wrap64 (wrap64 a - wrap64 b) - k) = a - b - k := by simp (disch := omega) only [B.w64]
  have e2 : wrap64 (wrap64 (wrap64 (Int.tmod a 16) - wrap64 (Int.tmod b 16)) - k) = a % 16 - b % 16 - k := by
    simp (disch := omega) only [B.and15, B.tm16, B.w64]
  have e3 : wrap64 (wrap64 (B.s8 a - B.s8 b) - k) = B.s8 a - B.s8 b - k := by
    unfold B.s8; simp (disch := omega) only [B.wi8, B.w64]
  rw [Option.bind_some, Option.bind_some, Option.bind_some, e1, e2, e3]
  have hr := B.own_range (r := (a - b - k) % 256) (by omega) (by omega)
  have ho := B.own_form (r := (a - b - k) % 256) (by omega) (by omega)
  rw [s_pendulumref05_Own _ (by omega) (by omega)]
  simp only [s_pendulumref05_Flag, Option.bind_some]
  unfold B.subF B.subR
  generalize B.own ((a - b - k) % 256) = o at *
  rw [B.orSubR hr.1 hr.2 ho.1 ho.2.1 (B.fl_or _ _) (B.fl_or _ _) (B.fl_or _ _), B.orSubR hr.1 hr.2 ho.1 ho.2.1 (B.fl_or _ _) (B.fl_or _ _) (B.fl_or _ _)]
  by_cases h : B.s8 a - B.s8 b - k < -128
  · rw [if_pos h, decide_eq_true (Or.inl h)]
  · rw [if_neg h]
    have : decide (B.s8 a - B.s8 b - k > 127) = decide (B.s8 a - B.s8 b - k < -128 ∨ B.s8 a - B.s8 b - k > 127) := by
      rw [decide_eq_decide]; omega
    rw [this]

theorem s_alu_Parity (r : Int) (h0 : 0 ≤ r) (h1 : r < 256) : alu_Parity.f r = some (B.par r) :=
  B.all8 (P := fun r => alu_Parity.f r = some (B.par r)) (by decide +kernel) r h0 h1

theorem s_pendulumref05_Parity (k : Nat) (hk : 9 ≤ k) (r : Int) (h0 : 0 ≤ r) (h1 : r < 256) : pendulumref05_Parity.f k r = some (B.par r) := by
  obtain ⟨d, rfl⟩ := Nat.exists_eq_add_of_le hk
  clear hk
  induction d with
  | zero => exact B.all8 (P := fun r => pendulumref05_Parity.f 9 r = some (B.par r)) (by decide +kernel) r h0 h1
  | succ d ih => exact pendulumref05_Parity.mono r (9 + d) _ ih

theorem s_pendulumref05_Logic (k : Nat) (hk : 9 ≤ k) (r : Int) (h0 : 0 ≤ r) (h1 : r < 256) : pendulumref05_Logic.f k r = some (B.logic r) := by
  unfold pendulumref05_Logic.f B.logic
  rw [s_pendulumref05_Own r h0 h1, Option.bind_some, s_pendulumref05_Parity k hk r h0 h1, Option.bind_some, s_pendulumref05_Flag, Option.bind_some]

theorem s_alu_logic (r h : Int) (h0 : 0 ≤ r) (h1 : r < 256) : alu_logic.f r h = some (r, Go.bits .or .u8 (B.logic r) h) := by
  unfold alu_logic.f B.logic
  rw [s_alu_Own r h0 h1, Option.bind_some, s_alu_Parity r h0 h1, Option.bind_some, s_alu_if1, Option.bind_some]

theorem s_Mod8 (n : Int) (n0 : -9223372036854775808 ≤ n) (n1 : n ≤ 9223372036854775807) : pendulumref05_Mod.f n 8 = some (n % 8) := by
  unfold pendulumref05_Mod.f
  have h := Int.tmod_add_mul_tdiv n 8
  have h1 : n.tmod 8 < 8 := Int.tmod_lt_of_pos n (by decide)
  have h2 : -8 < n.tmod 8 := Int.lt_tmod_of_pos n (by decide)
  rw [if_neg (by decide)]
  split
  · rw [B.w64 (by omega) (by omega)]; congr 1; omega
  · congr 1; omega
theorem s_Mod4 (n : Int) (n0 : -9223372036854775808 ≤ n) (n1 : n ≤ 9223372036854775807) : pendulumref05_Mod.f n 4 = some (n % 4) := by
  unfold pendulumref05_Mod.f
  have h := Int.tmod_add_mul_tdiv n 4
  have h1 : n.tmod 4 < 4 := Int.tmod_lt_of_pos n (by decide)
  have h2 : -4 < n.tmod 4 := Int.lt_tmod_of_pos n (by decide)
  rw [if_neg (by decide)]
  split
  · rw [B.w64 (by omega) (by omega)]; congr 1; omega
  · congr 1; omega

theorem s_alu_Cp (a b : Int) (a0 : 0 ≤ a) (a1 : a < 256) (b0 : 0 ≤ b) (b1 : b < 256) : alu_Cp.f a b = some (Go.bits .or .u8 (Go.bits .andNot .u8 (B.subF a b 0) 40) (Go.bits .and .u8 b 40)) := by
  unfold alu_Cp.f
  rw [s_alu_Sub a b false a0 a1 b0 b1, Option.bind_some, show B.fl false 1 = 0 from rfl]

theorem s_pendulumref05_Cp (a b : Int) (a0 : 0 ≤ a) (a1 : a < 256) (b0 : 0 ≤ b) (b1 : b < 256) : pendulumref05_Cp.f a b = some (Go.bits .or .u8 (Go.bits .andNot .u8 (B.subF a b 0) 40) (Go.bits .and .u8 b 40)) := by
  unfold pendulumref05_Cp.f
  rw [s_pendulumref05_Sub a b false a0 a1 b0 b1, Option.bind_some, show B.fl false 1 = 0 from rfl]

theorem s_alu_Inc (a f : Int) (a0 : 0 ≤ a) (a1 : a < 256) : alu_Inc.f a f = some (B.addR a 1 0, Go.bits .or .u8 (Go.bits .andNot .u8 (B.addF a 1 0) 1) (Go.bits .and .u8 f 1)) := by
  unfold alu_Inc.f
  rw [s_alu_Add a 1 false a0 a1 (by decide) (by decide), Option.bind_some, show B.fl false 1 = 0 from rfl]

theorem s_pendulumref05_Inc (a f : Int) (a0 : 0 ≤ a) (a1 : a < 256) : pendulumref05_Inc.f a f = some (B.addR a 1 0, Go.bits .or .u8 (Go.bits .andNot .u8 (B.addF a 1 0) 1) (Go.bits .and .u8 f 1)) := by
  unfold pendulumref05_Inc.f
  rw [s_pendulumref05_Add a 1 false a0 a1 (by decide) (by decide), Option.bind_some, show B.fl false 1 = 0 from rfl]

theorem or_zero (x : Int) (h0 : 0 ≤ x) (h1 : x < 256) : Go.bits .or .u8 x 0 = x := B.all8 (P := fun x => Go.bits .or .u8 x 0 = x) (by decide +kernel) x h0 h1

/-- An operation by its number modulo 8. -/
def doV (o a b f : Int) : Int × Int :=
  if o = 0 then (B.addR a b 0, B.addF a b 0) else if o = 1 then (B.addR a b (f % 2), B.addF a b (f % 2)) else if o = 2 then (B.subR a b 0, B.subF a b 0) else if o = 3 then (B.subR a b (f % 2), B.subF a b (f % 2))
  else if o = 4 then (Go.bits .and .u8 a b, Go.bits .or .u8 (B.logic (Go.bits .and .u8 a b)) 16) else if o = 5 then (Go.bits .xor .u8 a b, B.logic (Go.bits .xor .u8 a b)) else if o = 6 then (Go.bits .or .u8 a b, B.logic (Go.bits .or .u8 a b))
  else (a, Go.bits .or .u8 (Go.bits .andNot .u8 (B.subF a b 0) 40) (Go.bits .and .u8 b 40))
theorem fl_par (f : Int) (f0 : 0 ≤ f) (f1 : f < 256) : B.fl (Go.bits .and .u8 f 1 != 0) 1 = f % 2 := by
  rw [B.and1 f0 f1, B.bnei]
  rcases B.fl_cases (f % 2 ≠ 0) 1 with ⟨h, e⟩ | ⟨h, e⟩ <;> rw [e] <;> omega
theorem s_alu_Do (op a b f : Int) (a0 : 0 ≤ a) (a1 : a < 256) (b0 : 0 ≤ b) (b1 : b < 256) (f0 : 0 ≤ f) (f1 : f < 256) : alu_Do.f op a b f = some (doV (op % 8) a b f) := by
  have A := B.and_range a b a0 a1 b0 b1
  have O := B.or_range a b a0 a1 b0 b1
  have X := B.xor_range a b a0 a1 b0 b1
  have LO := B.logic_range _ O.1 O.2
  have LX := B.logic_range _ X.1 X.2
  unfold alu_Do.f doV
  rw [B.i64_7, s_alu_Add a b false a0 a1 b0 b1, s_alu_Add a b _ a0 a1 b0 b1, s_alu_Sub a b false a0 a1 b0 b1, s_alu_Sub a b _ a0 a1 b0 b1, fl_par f f0 f1, s_alu_Cp a b a0 a1 b0 b1, show B.fl false 1 = 0 from rfl, Option.bind_some]
  unfold alu_And.f alu_Xor.f alu_Or.f
  rw [s_alu_logic _ _ A.1 A.2, s_alu_logic _ _ X.1 X.2, s_alu_logic _ _ O.1 O.2, Option.bind_some, Option.bind_some, Option.bind_some, or_zero _ LX.1 LX.2, or_zero _ LO.1 LO.2]
  have h : op % 8 = 0 ∨ op % 8 = 1 ∨ op % 8 = 2 ∨ op % 8 = 3 ∨ op % 8 = 4 ∨ op % 8 = 5 ∨ op % 8 = 6 ∨ op % 8 = 7 := by omega
  rcases h with h | h | h | h | h | h | h | h <;> rw [h] <;> rfl

theorem s_ref_Do (k : Nat) (hk : 9 ≤ k) (op a b f : Int) (o0 : -9223372036854775808 ≤ op) (o1 : op ≤ 9223372036854775807) (a0 : 0 ≤ a) (a1 : a < 256) (b0 : 0 ≤ b) (b1 : b < 256) (f0 : 0 ≤ f) (f1 : f < 256) : pendulumref05_Do.f k op a b f = some (doV (op % 8) a b f) := by
  have A := B.and_range a b a0 a1 b0 b1
  have O := B.or_range a b a0 a1 b0 b1
  have X := B.xor_range a b a0 a1 b0 b1
  have fp : B.fl (Int.tmod f 2 == 1) 1 = f % 2 := by
    rw [B.tm 2 f0, B.beqi]
    rcases B.fl_cases (f % 2 = 1) 1 with ⟨h, e⟩ | ⟨h, e⟩ <;> rw [e] <;> omega
  unfold pendulumref05_Do.f doV
  rw [s_Mod8 op o0 o1, Option.bind_some, s_pendulumref05_Add a b false a0 a1 b0 b1, s_pendulumref05_Add a b _ a0 a1 b0 b1, s_pendulumref05_Sub a b false a0 a1 b0 b1, s_pendulumref05_Sub a b _ a0 a1 b0 b1, fp, s_pendulumref05_Cp a b a0 a1 b0 b1, show B.fl false 1 = 0 from rfl]
  unfold pendulumref05_And.f pendulumref05_Xor.f pendulumref05_Or.f
  rw [s_pendulumref05_Logic k hk _ A.1 A.2, s_pendulumref05_Logic k hk _ X.1 X.2, s_pendulumref05_Logic k hk _ O.1 O.2]
  simp only [Option.bind_some]
  have h : op % 8 = 0 ∨ op % 8 = 1 ∨ op % 8 = 2 ∨ op % 8 = 3 ∨ op % 8 = 4 ∨ op % 8 = 5 ∨ op % 8 = 6 ∨ op % 8 = 7 := by omega
  rcases h with h | h | h | h | h | h | h | h <;> rw [h] <;> rfl
theorem lives : pendulumlaw05_lives.f = some true := by decide +kernel
theorem AluCalls : pendulumlaw05_AluCalls.Pure := by
  intro a b f cy op ha hb hf ho
  obtain ⟨a0, a1⟩ := bounds_u8 ha
  obtain ⟨b0, b1⟩ := bounds_u8 hb
  obtain ⟨f0, f1⟩ := bounds_u8 hf
  obtain ⟨o0, o1⟩ := bounds_i64 ho
  have a2 : a < 256 := by omega
  have b2 : b < 256 := by omega
  have f2 : f < 256 := by omega
  refine ⟨20, ?_⟩
  unfold pendulumlaw05_AluCalls.f
  rw [lives, Option.bind_some, if_pos rfl, s_alu_Add a b cy a0 a2 b0 b2, s_pendulumref05_Add a b cy a0 a2 b0 b2, s_alu_Sub a b cy a0 a2 b0 b2, s_pendulumref05_Sub a b cy a0 a2 b0 b2, s_alu_Cp a b a0 a2 b0 b2, s_pendulumref05_Cp a b a0 a2 b0 b2, s_alu_Own a a0 a2, s_pendulumref05_Own a a0 a2, s_alu_Parity a a0 a2, s_pendulumref05_Parity 20 (by decide) a a0 a2]
  simp only [Option.bind_some, if_true, bne_self_eq_false, pendulumlaw05_AluCalls.j0]
  rw [s_alu_Do op a b f a0 a2 b0 b2 f0 f2, s_ref_Do 19 (by decide) op a b f o0 o1 a0 a2 b0 b2 f0 f2, s_alu_Inc a f a0 a2, s_pendulumref05_Inc a f a0 a2]
  simp

end Go.Proofs.YtpmmneipfmbmlaaDoor.Pure
