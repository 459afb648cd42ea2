/- AluSame's plain statement: comparing is taking away without an answer; order does not matter where it should not; for all bytes, flags and an operator. -/
import Derived.Test.YtpmmneipfmbmlaaDoorHAluSamex2
import Derived.Test.YtpmmneipfmbmlaaDoorBits
import Derived.Test.YtpmmneipfmbmlaaDoorBitsS
set_option linter.unusedVariables false
set_option linter.unusedSimpArgs false
namespace Go.Proofs.YtpmmneipfmbmlaaDoor.Pure
open Go.RowKit Go.Proofs.YtpmmneipfmbmlaaDoor.HAluSame Go.Proofs.YtpmmneipfmbmlaaDoorW.PrintWords Go.Proofs.YtpmmneipfmbmlaaDoorW.PrintLast
open Go.Proofs.YtpmmneipfmbmlaaDoor

theorem s_alu_if1 (b : Bool) (x : Int) : alu_if1.f b x = some (B.fl b x) := by unfold alu_if1.f B.fl; split <;> rfl

theorem s_alu_Own (r : Int) (h0 : 0 ≤ r) (h1 : r < 256) : alu_Own.f r = some (B.own r) := by
  unfold alu_Own.f B.own
  by_cases h : r = 0
  · subst h; rfl
  · rw [if_neg h, if_neg h, B.and168 h0 h1]; simp

theorem s_alu_Add (a b : Int) (c : Bool) (a0 : 0 ≤ a) (a1 : a < 256) (b0 : 0 ≤ b) (b1 : b < 256) :
    alu_Add.f a b c = some (B.addR a b (B.fl c 1), B.addF a b (B.fl c 1)) := by
  unfold alu_Add.f
  rw [s_alu_if1]
  have k0 := B.fl_or c 1
  generalize B.fl c 1 = k at *
  have e1 : wrap64 (wrap64 (wrap64 a + wrap64 b) + wrap64 k) = a + b + k := by simp (disch := omega) only [B.w64]
  have e2 : wrap64 (wrap64 (wrap64 (Go.bits .and .u8 a 15) + wrap64 (Go.bits .and .u8 b 15)) + wrap64 k) = a % 16 + b % 16 + k := by
    simp (disch := omega) only [B.and15, B.tm16, B.w64]
  have e3 : wrap64 (wrap64 (wrap64 (IntKind.i8.wrap a) + wrap64 (IntKind.i8.wrap b)) + wrap64 k) = B.s8 a + B.s8 b + k := by
    unfold B.s8; simp (disch := omega) only [B.wi8, B.w64]
  rw [Option.bind_some, e1, e2, e3]
  have hr := B.own_range (r := (a + b + k) % 256) (by omega) (by omega)
  have ho := B.own_form (r := (a + b + k) % 256) (by omega) (by omega)
  rw [s_alu_Own _ (by omega) (by omega)]
  simp only [s_alu_if1, Option.bind_some]
  unfold B.addF B.addR
  generalize B.own ((a + b + k) % 256) = o at *
  rw [B.orAdd hr.1 hr.2 ho.1 ho.2.1 (B.fl_or _ _) (B.fl_or _ _) (B.fl_or _ _), B.orAdd hr.1 hr.2 ho.1 ho.2.1 (B.fl_or _ _) (B.fl_or _ _) (B.fl_or _ _)]
  by_cases h : B.s8 a + B.s8 b + k < -128
  · rw [if_pos h, decide_eq_true (Or.inl h)]
  · rw [if_neg h]
    have : decide (B.s8 a + B.s8 b + k > 127) = decide (B.s8 a + B.s8 b + k < -128 ∨ B.s8 a + B.s8 b + k > 127) := by
      rw [decide_eq_decide]; omega
    rw [this]

theorem s_alu_Sub (a b : Int) (c : Bool) (a0 : 0 ≤ a) (a1 : a < 256) (b0 : 0 ≤ b) (b1 : b < 256) :
    alu_Sub.f a b c = some (B.subR a b (B.fl c 1), B.subF a b (B.fl c 1)) := by
  unfold alu_Sub.f
  rw [s_alu_if1]
  have k0 := B.fl_or c 1
  generalize B.fl c 1 = k at *
  have e1 : wrap64 (wrap64 (wrap64 a - wrap64 b) - wrap64 k) = a - b - k := by simp (disch := omega) only [B.w64]
  have e2 : wrap64 (wrap64 (wrap64 (Go.bits .and .u8 a 15) - wrap64 (Go.bits .and .u8 b 15)) - wrap64 k) = a % 16 - b % 16 - k := by
    simp (disch := omega) only [B.and15, B.tm16, B.w64]
  have e3 : wrap64 (wrap64 (wrap64 (IntKind.i8.wrap a) - wrap64 (IntKind.i8.wrap b)) - wrap64 k) = B.s8 a - B.s8 b - k := by
    unfold B.s8; simp (disch := omega) only [B.wi8, B.w64]
  rw [Option.bind_some, e1, e2, e3]
  have hr := B.own_range (r := (a - b - k) % 256) (by omega) (by omega)
  have ho := B.own_form (r := (a - b - k) % 256) (by omega) (by omega)
  rw [s_alu_Own _ (by omega) (by omega)]
  simp only [s_alu_if1, Option.bind_some]
  unfold B.subF B.subR
  generalize B.own ((a - b - k) % 256) = o at *
  rw [B.orSub hr.1 hr.2 ho.1 ho.2.1 (B.fl_or _ _) (B.fl_or _ _) (B.fl_or _ _), B.orSub hr.1 hr.2 ho.1 ho.2.1 (B.fl_or _ _) (B.fl_or _ _) (B.fl_or _ _)]
  by_cases h : B.s8 a - B.s8 b - k < -128
  · rw [if_pos h, decide_eq_true (Or.inl h)]
  · rw [if_neg h]
    have : decide (B.s8 a - B.s8 b - k > 127) = decide (B.s8 a - B.s8 b - k < -128 ∨ B.s8 a - B.s8 b - k > 127) := by
      rw [decide_eq_decide]; omega
    rw [this]

theorem s_alu_Parity (r : Int) (h0 : 0 ≤ r) (h1 : r < 256) : alu_Parity.f r = some (B.par r) :=
  B.all8 (P := fun r => alu_Parity.f r = some (B.par r)) (by decide +kernel) r h0 h1

theorem s_alu_logic (r h : Int) (h0 : 0 ≤ r) (h1 : r < 256) : alu_logic.f r h = some (r, Go.bits .or .u8 (B.logic r) h) := by
  unfold alu_logic.f B.logic
  rw [s_alu_Own r h0 h1, Option.bind_some, s_alu_Parity r h0 h1, Option.bind_some, s_alu_if1, Option.bind_some]

theorem s_alu_Cp (a b : Int) (a0 : 0 ≤ a) (a1 : a < 256) (b0 : 0 ≤ b) (b1 : b < 256) : alu_Cp.f a b = some (Go.bits .or .u8 (Go.bits .andNot .u8 (B.subF a b 0) 40) (Go.bits .and .u8 b 40)) := by
  unfold alu_Cp.f
  rw [s_alu_Sub a b false a0 a1 b0 b1, Option.bind_some, show B.fl false 1 = 0 from rfl]

theorem s_alu_Inc (a f : Int) (a0 : 0 ≤ a) (a1 : a < 256) : alu_Inc.f a f = some (B.addR a 1 0, Go.bits .or .u8 (Go.bits .andNot .u8 (B.addF a 1 0) 1) (Go.bits .and .u8 f 1)) := by
  unfold alu_Inc.f
  rw [s_alu_Add a 1 false a0 a1 (by decide) (by decide), Option.bind_some, show B.fl false 1 = 0 from rfl]

theorem s_alu_Dec (a f : Int) (a0 : 0 ≤ a) (a1 : a < 256) : alu_Dec.f a f = some (B.subR a 1 0, Go.bits .or .u8 (Go.bits .andNot .u8 (B.subF a 1 0) 1) (Go.bits .and .u8 f 1)) := by
  unfold alu_Dec.f
  rw [s_alu_Sub a 1 false a0 a1 (by decide) (by decide), Option.bind_some, show B.fl false 1 = 0 from rfl]

theorem or_zero (x : Int) (h0 : 0 ≤ x) (h1 : x < 256) : Go.bits .or .u8 x 0 = x := B.all8 (P := fun x => Go.bits .or .u8 x 0 = x) (by decide +kernel) x h0 h1

/-- An operation by its number modulo 8. -/
def doV (o a b f : Int) : Int × Int :=
  if o = 0 then (B.addR a b 0, B.addF a b 0) else if o = 1 then (B.addR a b (f % 2), B.addF a b (f % 2)) else if o = 2 then (B.subR a b 0, B.subF a b 0) else if o = 3 then (B.subR a b (f % 2), B.subF a b (f % 2))
  else if o = 4 then (Go.bits .and .u8 a b, Go.bits .or .u8 (B.logic (Go.bits .and .u8 a b)) 16) else if o = 5 then (Go.bits .xor .u8 a b, B.logic (Go.bits .xor .u8 a b)) else if o = 6 then (Go.bits .or .u8 a b, B.logic (Go.bits .or .u8 a b))
  else (a, Go.bits .or .u8 (Go.bits .andNot .u8 (B.subF a b 0) 40) (Go.bits .and .u8 b 40))
theorem fl_par (f : Int) (f0 : 0 ≤ f) (f1 : f < 256) : B.fl (Go.bits .and .u8 f 1 != 0) 1 = f % 2 := by
  rw [B.and1 f0 f1, B.bnei]
  rcases B.fl_cases (f % 2 ≠ 0) 1 with ⟨h, e⟩ | ⟨h, e⟩ <;> rw [e] <;> omega
theorem s_alu_Do (op a b f : Int) (a0 : 0 ≤ a) (a1 : a < 256) (b0 : 0 ≤ b) (b1 : b < 256) (f0 : 0 ≤ f) (f1 : f < 256) : alu_Do.f op a b f = some (doV (op % 8) a b f) := by
  have A := B.and_range a b a0 a1 b0 b1
  have O := B.or_range a b a0 a1 b0 b1
  have X := B.xor_range a b a0 a1 b0 b1
  have LO := B.logic_range _ O.1 O.2
  have LX := B.logic_range _ X.1 X.2
  unfold alu_Do.f doV
  rw [B.i64_7, s_alu_Add a b false a0 a1 b0 b1, s_alu_Add a b _ a0 a1 b0 b1, s_alu_Sub a b false a0 a1 b0 b1, s_alu_Sub a b _ a0 a1 b0 b1, fl_par f f0 f1, s_alu_Cp a b a0 a1 b0 b1, show B.fl false 1 = 0 from rfl, Option.bind_some]
  unfold alu_And.f alu_Xor.f alu_Or.f
  rw [s_alu_logic _ _ A.1 A.2, s_alu_logic _ _ X.1 X.2, s_alu_logic _ _ O.1 O.2, Option.bind_some, Option.bind_some, Option.bind_some, or_zero _ LX.1 LX.2, or_zero _ LO.1 LO.2]
  have h : op % 8 = 0 ∨ op % 8 = 1 ∨ op % 8 = 2 ∨ op % 8 = 3 ∨ op % 8 = 4 ∨ op % 8 = 5 ∨ op % 8 = 6 ∨ op % 8 = 7 := by omega
  rcases h with h | h | h | h | h | h | h | h <;> rw [h] <;> rfl
theorem lives : pendulumlaw05_lives.f = some true := by decide +kernel
theorem add_comm' (a b k : Int) : B.addR a b k = B.addR b a k ∧ B.addF a b k = B.addF b a k := by
  have h : B.addR a b k = B.addR b a k := by unfold B.addR; rw [Int.add_comm a b]
  refine ⟨h, ?_⟩
  unfold B.addF
  rw [h, Int.add_comm a b, Int.add_comm (a % 16) (b % 16), Int.add_comm (B.s8 a) (B.s8 b)]
theorem bits_comm (a b : Int) (a0 : 0 ≤ a) (a1 : a < 256) (b0 : 0 ≤ b) (b1 : b < 256) : Go.bits .and .u8 a b = Go.bits .and .u8 b a ∧ Go.bits .or .u8 a b = Go.bits .or .u8 b a ∧ Go.bits .xor .u8 a b = Go.bits .xor .u8 b a := by
  refine ⟨?_, ?_, ?_⟩
  · rw [u8_and a b a0 a1 b0 b1, u8_and b a b0 b1 a0 a1, Nat.and_comm]
  · rw [u8_or a b a0 a1 b0 b1, u8_or b a b0 b1 a0 a1, Nat.or_comm]
  · rw [u8_xor a b a0 a1 b0 b1, u8_xor b a b0 b1 a0 a1, Nat.xor_comm]
theorem doV_comm (o a b f : Int) (a0 : 0 ≤ a) (a1 : a < 256) (b0 : 0 ≤ b) (b1 : b < 256) (h : o = 0 ∨ o = 4 ∨ o = 5 ∨ o = 6) : doV o a b f = doV o b a f := by
  have A := add_comm' a b 0
  have C := bits_comm a b a0 a1 b0 b1
  unfold doV
  rw [A.1, A.2, C.1, C.2.1, C.2.2]
  rcases h with rfl | rfl | rfl | rfl <;> rfl
theorem not1 (F c : Int) (h0 : 0 ≤ F) (h1 : F < 256) (hc : c = 0 ∨ c = 1) : Go.bits .and .u8 (Go.bits .or .u8 (Go.bits .andNot .u8 F 1) c) 1 = c := by
  have H : ∀ c : Fin 2, ∀ F : Fin 256, Go.bits .and .u8 (Go.bits .or .u8 (Go.bits .andNot .u8 (F.val : Int) 1) (c.val : Int)) 1 = (c.val : Int) := by decide +kernel
  have := H ⟨c.toNat, by omega⟩ ⟨F.toNat, by omega⟩
  simpa [Int.toNat_of_nonneg h0, Int.toNat_of_nonneg (show 0 ≤ c by omega)] using this
theorem not40 (F b : Int) (h0 : 0 ≤ F) (h1 : F < 256) (b0 : 0 ≤ b) (b1 : b < 256) : Go.bits .andNot .u8 (Go.bits .or .u8 (Go.bits .andNot .u8 F 40) (Go.bits .and .u8 b 40)) 40 = Go.bits .andNot .u8 F 40 ∧ Go.bits .and .u8 (Go.bits .or .u8 (Go.bits .andNot .u8 F 40) (Go.bits .and .u8 b 40)) 40 = Go.bits .and .u8 b 40 := by
  have H : ∀ y x : Fin 2, ∀ F : Fin 256, Go.bits .andNot .u8 (Go.bits .or .u8 (Go.bits .andNot .u8 (F.val : Int) 40) ((y.val : Int) * 32 + (x.val : Int) * 8)) 40 = Go.bits .andNot .u8 (F.val : Int) 40 ∧ Go.bits .and .u8 (Go.bits .or .u8 (Go.bits .andNot .u8 (F.val : Int) 40) ((y.val : Int) * 32 + (x.val : Int) * 8)) 40 = (y.val : Int) * 32 + (x.val : Int) * 8 := by decide +kernel
  have := H ⟨(b / 32 % 2).toNat, by omega⟩ ⟨(b / 8 % 2).toNat, by omega⟩ ⟨F.toNat, by omega⟩
  simp only [Int.toNat_of_nonneg h0, Int.toNat_of_nonneg (show 0 ≤ b / 32 % 2 by omega), Int.toNat_of_nonneg (show 0 ≤ b / 8 % 2 by omega)] at this
  rw [B.and40 b0 b1]; exact this
theorem AluSame : pendulumlaw05_AluSame.Pure := by
  intro a b f op ha hb hf ho
  obtain ⟨a0, a1⟩ := bounds_u8 ha
  obtain ⟨b0, b1⟩ := bounds_u8 hb
  obtain ⟨f0, f1⟩ := bounds_u8 hf
  obtain ⟨o0, o1⟩ := bounds_i64 ho
  have a2 : a < 256 := by omega
  have b2 : b < 256 := by omega
  have f2 : f < 256 := by omega
  obtain ⟨g0, g1, _⟩ := B.subF_parts (k := 0) a0 a2 b0 b2 (.inl rfl)
  refine ⟨40, ?_⟩
  unfold pendulumlaw05_AluSame.f
  rw [lives, Option.bind_some, if_pos rfl, s_alu_Sub a b false a0 a2 b0 b2, Option.bind_some, s_alu_Cp a b a0 a2 b0 b2, Option.bind_some, show B.fl false 1 = 0 from rfl]
  dsimp only
  rw [if_pos (not40 _ _ g0 g1 b0 b2).1, (not40 _ _ g0 g1 b0 b2).2]
  simp only [bne_self_eq_false]
  have fin : ∀ n : Nat, pendulumlaw05_AluSame.l0 (n + 2) a b f op 7 = some true := by
    intro n
    have aa : Go.bits .and .u8 a a = a := B.all8 (P := fun a => Go.bits .and .u8 a a = a) (by decide +kernel) a a0 a2
    have oo : Go.bits .or .u8 a a = a := B.all8 (P := fun a => Go.bits .or .u8 a a = a) (by decide +kernel) a a0 a2
    have xx : Go.bits .xor .u8 a a = 0 := B.all8 (P := fun a => Go.bits .xor .u8 a a = 0) (by decide +kernel) a a0 a2
    have ss : B.subR a a 0 = 0 := by unfold B.subR; omega
    have c0 : f % 2 = 0 ∨ f % 2 = 1 := Int.emod_two_eq f
    obtain ⟨i0, i1, _⟩ := B.addF_parts (a := a) (b := 1) (k := 0) a0 a2 (by decide) (by decide) (.inl rfl)
    have r0 : 0 ≤ B.addR a 1 0 ∧ B.addR a 1 0 < 256 := by unfold B.addR; omega
    obtain ⟨d0, d1, _⟩ := B.subF_parts (a := B.addR a 1 0) (b := 1) (k := 0) r0.1 r0.2 (by decide) (by decide) (.inl rfl)
    have back : B.subR (B.addR a 1 0) 1 0 = a := by unfold B.subR B.addR; omega
    have et : wrap64 (Int.tmod op 8 + 8) % 8 = op % 8 := by
      have h := Int.tmod_add_mul_tdiv op 8
      have h1 : op.tmod 8 < 8 := Int.tmod_lt_of_pos op (by decide)
      have h2 : -8 < op.tmod 8 := Int.lt_tmod_of_pos op (by decide)
      rw [B.w64 (by omega) (by omega)]; omega
    conv => lhs; unfold pendulumlaw05_AluSame.l0
    rw [if_neg (by decide)]
    unfold alu_And.f alu_Or.f alu_Xor.f
    rw [aa, oo, xx, s_alu_logic a _ a0 a2, s_alu_logic a _ a0 a2, s_alu_logic 0 _ (by decide) (by decide), s_alu_Sub a a false a0 a2 a0 a2, show B.fl false 1 = 0 from rfl, ss]
    simp only [Option.bind_some]
    rw [if_pos trivial, if_pos trivial, if_pos trivial, if_pos trivial, show (Go.bits .or .u8 (B.logic 0) 0 != 68) = false by decide +kernel]
    simp only [pendulumlaw05_AluSame.j3]
    rw [if_neg (by decide), s_alu_Inc a f a0 a2, Option.bind_some]
    dsimp only
    rw [s_alu_Dec _ _ r0.1 r0.2, Option.bind_some, s_alu_Do op a b f a0 a2 b0 b2 f0 f2, Option.bind_some, s_alu_Do _ a b f a0 a2 b0 b2 f0 f2, Option.bind_some, et, back]
    dsimp only
    rw [B.and1 f0 f2, not1 _ _ i0 i1 c0, not1 _ _ d0 d1 c0]
    simp
  have rnd : ∀ (n : Nat) (i : Int), 0 ≤ i → i < 7 → pendulumlaw05_AluSame.l0 (n + 2) a b f op i = pendulumlaw05_AluSame.l0 n a b f op (i + 1) := by
    intro n i i0 i1
    have ei : wrap64 (i + 1) = i + 1 := B.w64 (by omega) (by omega)
    conv => lhs; unfold pendulumlaw05_AluSame.l0
    rw [if_pos i1]
    by_cases c : i = 1 ∨ i = 2 ∨ i = 3
    · have : (if i = 1 then pendulumlaw05_AluSame.j2 (n + 1) a b f op i true else if i = 2 then pendulumlaw05_AluSame.j2 (n + 1) a b f op i true else pendulumlaw05_AluSame.j2 (n + 1) a b f op i (i == 3)) = pendulumlaw05_AluSame.j2 (n + 1) a b f op i true := by
        rcases c with rfl | rfl | rfl <;> rfl
      rw [this]
      simp only [pendulumlaw05_AluSame.j2]
      rw [if_pos trivial, ei]
    · have e3 : (i == 3) = false := by rw [B.beqi, decide_eq_false_iff_not]; omega
      rw [if_neg (by omega), if_neg (by omega), e3]
      simp only [pendulumlaw05_AluSame.j2]
      rw [if_neg (by decide), s_alu_Do i a b f a0 a2 b0 b2 f0 f2, s_alu_Do i b a f b0 b2 a0 a2 f0 f2, doV_comm (i % 8) b a f b0 b2 a0 a2 (by omega), Option.bind_some, Option.bind_some, if_pos rfl, if_pos rfl, ei]
  simp only [pendulumlaw05_AluSame.j0]
  rw [if_neg (by decide)]
  rw [rnd 37 0 (by decide) (by decide), rnd 35 (0 + 1) (by decide) (by decide), rnd 33 (0 + 1 + 1) (by decide) (by decide), rnd 31 (0 + 1 + 1 + 1) (by decide) (by decide), rnd 29 (0 + 1 + 1 + 1 + 1) (by decide) (by decide),
    rnd 27 (0 + 1 + 1 + 1 + 1 + 1) (by decide) (by decide), rnd 25 (0 + 1 + 1 + 1 + 1 + 1 + 1) (by decide) (by decide)]
  exact fin 23

end Go.Proofs.YtpmmneipfmbmlaaDoor.Pure
