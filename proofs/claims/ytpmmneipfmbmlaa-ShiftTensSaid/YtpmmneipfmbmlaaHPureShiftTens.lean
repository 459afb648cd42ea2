/- ShiftTens' plain statement: behind an addition, or a subtraction, of two numbers in tens, what is adjusted is the sum, the difference, in tens, and C its carry, for all numbers below 100 and a carry. -/
import Derived.Test.YtpmmneipfmbmlaaHShiftTensx2
import Derived.Test.YtpmmneipfmbmlaaBits
import Derived.Test.YtpmmneipfmbmlaaBitsS
set_option linter.unusedVariables false
set_option linter.unusedSimpArgs false
namespace Go.Proofs.Ytpmmneipfmbmlaa.Pure
open Go.RowKit Go.Proofs.Ytpmmneipfmbmlaa.HShiftTens Go.Proofs.YtpmmneipfmbmlaaW.PrintWords Go.Proofs.YtpmmneipfmbmlaaW.PrintLast
open Go.Proofs.Ytpmmneipfmbmlaa

theorem s_shift_if1 (b : Bool) (x : Int) : shift_if1.f b x = some (B.fl b x) := by unfold shift_if1.f B.fl; split <;> rfl

theorem s_pendulumref05_Flag (b : Bool) (x : Int) : pendulumref05_Flag.f x b = some (B.fl b x) := by unfold pendulumref05_Flag.f B.fl; split <;> rfl

theorem s_alu_Own (r : Int) (h0 : 0 ≤ r) (h1 : r < 256) : alu_Own.f r = some (B.own r) := by
  unfold alu_Own.f B.own
  by_cases h : r = 0
  · subst h; rfl
  · rw [if_neg h, if_neg h, B.and168 h0 h1]; simp

theorem s_pendulumref05_Own (r : Int) (h0 : 0 ≤ r) (h1 : r < 256) : pendulumref05_Own.f r = some (B.own r) := by
  unfold pendulumref05_Own.f B.own
  by_cases h : r = 0
  · subst h; rfl
  · rw [if_neg h, if_neg h, B.and168 h0 h1]; simp

theorem s_pendulumref05_one (b : Bool) : pendulumref05_one.f b = some (B.fl b 1) := by unfold pendulumref05_one.f B.fl; split <;> rfl

theorem s_pendulumref05_signed (a : Int) (h0 : 0 ≤ a) (h1 : a < 256) : pendulumref05_signed.f a = some (B.s8 a) := by
  unfold pendulumref05_signed.f B.s8
  split
  · have e : wrap64 (wrap64 a - 256) = (a + 128) % 256 - 128 := by simp (disch := omega) only [B.w64]; omega
    rw [e]
  · have e : wrap64 a = (a + 128) % 256 - 128 := by simp (disch := omega) only [B.w64]; omega
    rw [e]

theorem s_pendulumref05_Add (a b : Int) (c : Bool) (a0 : 0 ≤ a) (a1 : a < 256) (b0 : 0 ≤ b) (b1 : b < 256) :
    pendulumref05_Add.f a b c = some (B.addR a b (B.fl c 1), B.addF a b (B.fl c 1)) := by
  unfold pendulumref05_Add.f
  rw [s_pendulumref05_one, s_pendulumref05_signed a a0 a1, s_pendulumref05_signed b b0 b1]
  have k0 := B.fl_or c 1
  generalize B.fl c 1 = k at *
  have e1 : wrap64 (wrap64 (wrap64 a + wrap64 b) + k) = a + b + k := by simp (disch := omega) only [B.w64]
  have e2 : wrap64 (wrap64 (wrap64 (Int.tmod a 16) + wrap64 (Int.tmod b 16)) + k) = a % 16 + b % 16 + k := by
    simp (disch := omega) only [B.and15, B.tm16, B.w64]
  have e3 : wrap64 (wrap64 (B.s8 a + B.s8 b) + k) = B.s8 a + B.s8 b + k := by
    unfold B.s8; simp (disch := omega) only [B.wi8, B.w64]
  rw [Option.bind_some, Option.bind_some, Option.bind_some, e1, e2, e3]
  have hr := B.own_range (r := (a + b + k) % 256) (by omega) (by omega)
  have ho := B.own_form (r := (a + b + k) % 256) (by omega) (by omega)
  rw [s_pendulumref05_Own _ (by omega) (by omega)]
  simp only [s_pendulumref05_Flag, Option.bind_some]
  unfold B.addF B.addR
  generalize B.own ((a + b + k) % 256) = o at *
  rw [B.orAdd hr.1 hr.2 ho.1 ho.2.1 (B.fl_or _ _) (B.fl_or _ _) (B.fl_or _ _), B.orAdd hr.1 hr.2 ho.1 ho.2.1 (B.fl_or _ _) (B.fl_or _ _) (B.fl_or _ _)]
  by_cases h : B.s8 a + B.s8 b + k < -128
  · rw [if_pos h, decide_eq_true (Or.inl h)]
  · rw [if_neg h]
    have : decide (B.s8 a + B.s8 b + k > 127) = decide (B.s8 a + B.s8 b + k < -128 ∨ B.s8 a + B.s8 b + k > 127) := by
      rw [decide_eq_decide]; omega
    rw [this]

theorem s_pendulumref05_Sub (a b : Int) (c : Bool) (a0 : 0 ≤ a) (a1 : a < 256) (b0 : 0 ≤ b) (b1 : b < 256) :
    pendulumref05_Sub.f a b c = some (B.subR a b (B.fl c 1), B.subF a b (B.fl c 1)) := by
  unfold pendulumref05_Sub.f
  rw [s_pendulumref05_one, s_pendulumref05_signed a a0 a1, s_pendulumref05_signed b b0 b1]
  have k0 := B.fl_or c 1
  generalize B.fl c 1 = k at *
  have e1 : wrap64 (wrap64 (wrap64 a - wrap64 b) - k) = a - b - k := by simp (disch := omega) only [B.w64]
  have e2 : wrap64 (wrap64 (wrap64 (Int.tmod a 16) - wrap64 (Int.tmod b 16)) - k) = a % 16 - b % 16 - k := by
    simp (disch := omega) only [B.and15, B.tm16, B.w64]
  have e3 : wrap64 (wrap64 (B.s8 a - B.s8 b) - k) = B.s8 a - B.s8 b - k := by
    unfold B.s8; simp (disch := omega) only [B.wi8, B.w64]
  rw [Option.bind_some, Option.bind_some, Option.bind_some, e1, e2, e3]
  have hr := B.own_range (r := (a - b - k) % 256) (by omega) (by omega)
  have ho := B.own_form (r := (a - b - k) % 256) (by omega) (by omega)
  rw [s_pendulumref05_Own _ (by omega) (by omega)]
  simp only [s_pendulumref05_Flag, Option.bind_some]
  unfold B.subF B.subR
  generalize B.own ((a - b - k) % 256) = o at *
  rw [B.orSubR hr.1 hr.2 ho.1 ho.2.1 (B.fl_or _ _) (B.fl_or _ _) (B.fl_or _ _), B.orSubR hr.1 hr.2 ho.1 ho.2.1 (B.fl_or _ _) (B.fl_or _ _) (B.fl_or _ _)]
  by_cases h : B.s8 a - B.s8 b - k < -128
  · rw [if_pos h, decide_eq_true (Or.inl h)]
  · rw [if_neg h]
    have : decide (B.s8 a - B.s8 b - k > 127) = decide (B.s8 a - B.s8 b - k < -128 ∨ B.s8 a - B.s8 b - k > 127) := by
      rw [decide_eq_decide]; omega
    rw [this]

theorem s_alu_Parity (r : Int) (h0 : 0 ≤ r) (h1 : r < 256) : alu_Parity.f r = some (B.par r) :=
  B.all8 (P := fun r => alu_Parity.f r = some (B.par r)) (by decide +kernel) r h0 h1

theorem s_shift_whole (r : Int) (h0 : 0 ≤ r) (h1 : r < 256) : shift_whole.f r = some (B.logic r) := by
  unfold shift_whole.f B.logic
  rw [s_alu_Own r h0 h1, Option.bind_some, s_alu_Parity r h0 h1, Option.bind_some, s_shift_if1, Option.bind_some]

theorem s_shift_Daa (k : Nat) (a f : Int) (a0 : 0 ≤ a) (a1 : a < 256) (f0 : 0 ≤ f) (f1 : f < 256) : shift_Daa.f (k + 4) a f = some (B.daaR a f, B.daaF a f) := by
  have w1 : ∀ x : Int, shift_whole.f (x % 256) = some (B.logic (x % 256)) := fun x => s_shift_whole _ (by omega) (by omega)
  simp only [shift_Daa.f, shift_Daa.j0, shift_Daa.j1, shift_Daa.j2, shift_Daa.j3, s_shift_if1, w1, Option.bind_some, B.daaR, B.daaF, B.daaBy, B.daaC, B.daaH]
  by_cases c1 : Go.bits .and .u8 f 1 = 0 <;> by_cases c2 : a > 153 <;> by_cases c3 : Go.bits .and .u8 f 16 = 0 <;> by_cases c4 : Go.bits .and .u8 a 15 > 9 <;> by_cases c5 : Go.bits .and .u8 f 2 = 0 <;> by_cases c6 : Go.bits .and .u8 a 15 < 6 <;>
    simp [c1, c2, c3, c4, c5, c6, B.fl]
theorem lives : pendulumlaw06_lives.f 20 = some true := by decide +kernel
/-- The adjustment in tens by numbers alone. -/
def dC (a : Int) (c : Bool) : Bool := c || decide (a > 153)
def dR (a : Int) (c h n : Bool) : Int :=
  let by6 : Int := (if h = false ∧ ¬ (a % 16 > 9) then 0 else 6) + (if dC a c = true then 96 else 0)
  if n = false then (a + by6) % 256 else (a - by6) % 256
theorem daa_plain (a f : Int) (a0 : 0 ≤ a) (a1 : a < 256) (f0 : 0 ≤ f) (f1 : f < 256) : B.daaC a f = dC a (decide (f % 2 = 1)) ∧ B.daaR a f = dR a (decide (f % 2 = 1)) (decide (f / 16 % 2 = 1)) (decide (f / 2 % 2 = 1)) := by
  have e1 : (!(decide (f % 2 = 0))) = decide (f % 2 = 1) := by rcases Int.emod_two_eq f with h | h <;> rw [h] <;> rfl
  have c : B.daaC a f = dC a (decide (f % 2 = 1)) := by unfold B.daaC dC; rw [B.and1 f0 f1, e1]
  refine ⟨c, ?_⟩
  unfold B.daaR dR B.daaBy
  rw [B.and2 f0 f1, B.and16 f0 f1, B.and15 a0 a1, c]
  rcases Int.emod_two_eq (f / 16) with h | h <;> rcases Int.emod_two_eq (f / 2) with h' | h' <;> rw [h, h'] <;> simp
theorem sums : ∀ s : Fin 19, ∀ d : Fin 20, let t : Int := 16 * (s.val : Int) + (d.val : Int); let R := dR (t % 256) (decide (t > 255)) (decide ((d.val : Int) > 15)) false
    R / 16 * 10 + R % 16 = (10 * (s.val : Int) + (d.val : Int)) % 100 ∧ dC (t % 256) (decide (t > 255)) = decide (10 * (s.val : Int) + (d.val : Int) > 99) := by decide +kernel
theorem diffs : ∀ s : Fin 19, ∀ d : Fin 20, let t : Int := 16 * ((s.val : Int) - 9) + ((d.val : Int) - 10); let R := dR (t % 256) (decide (t < 0)) (decide ((d.val : Int) - 10 < 0)) true
    R / 16 * 10 + R % 16 = (10 * ((s.val : Int) - 9) + ((d.val : Int) - 10) + 100) % 100 ∧ dC (t % 256) (decide (t < 0)) = decide (10 * ((s.val : Int) - 9) + ((d.val : Int) - 10) < 0) := by decide +kernel
theorem tens_sum (a b k : Int) (a0 : 0 ≤ a) (a1 : a < 100) (b0 : 0 ≤ b) (b1 : b < 100) (k0 : k = 0 ∨ k = 1) (x y : Int) (hx : x = a / 10 * 16 + a % 10) (hy : y = b / 10 * 16 + b % 10) :
    B.daaR (B.addR x y k) (B.addF x y k) / 16 * 10 + B.daaR (B.addR x y k) (B.addF x y k) % 16 = (a + b + k) % 100 ∧ B.daaC (B.addR x y k) (B.addF x y k) = decide (a + b + k > 99) := by
  have x0 : 0 ≤ x ∧ x < 256 := by omega
  have y0 : 0 ≤ y ∧ y < 256 := by omega
  have r0 : 0 ≤ B.addR x y k ∧ B.addR x y k < 256 := by unfold B.addR; omega
  obtain ⟨f0, f1, fC, fN, _, fH, _⟩ := B.addF_parts x0.1 x0.2 y0.1 y0.2 k0
  obtain ⟨c, r⟩ := daa_plain _ _ r0.1 r0.2 f0 f1
  rw [c, r, B.bdec fC, B.bdec fH, show B.addF x y k / 2 % 2 = 0 by omega]
  clear c r f0 f1 fC fN fH r0
  have S := sums ⟨(a / 10 + b / 10).toNat, by omega⟩ ⟨(a % 10 + b % 10 + k).toNat, by omega⟩
  simp only [Int.toNat_of_nonneg (show 0 ≤ a / 10 + b / 10 by omega), Int.toNat_of_nonneg (show 0 ≤ a % 10 + b % 10 + k by omega)] at S
  have e1 : x + y + k = 16 * (a / 10 + b / 10) + (a % 10 + b % 10 + k) := by omega
  have e2 : x % 16 + y % 16 + k = a % 10 + b % 10 + k := by omega
  have e3 : a + b + k = 10 * (a / 10 + b / 10) + (a % 10 + b % 10 + k) := by omega
  unfold B.addR
  rw [e1, e2, e3]
  exact S
theorem tens_dif (a b k : Int) (a0 : 0 ≤ a) (a1 : a < 100) (b0 : 0 ≤ b) (b1 : b < 100) (k0 : k = 0 ∨ k = 1) (x y : Int) (hx : x = a / 10 * 16 + a % 10) (hy : y = b / 10 * 16 + b % 10) :
    B.daaR (B.subR x y k) (B.subF x y k) / 16 * 10 + B.daaR (B.subR x y k) (B.subF x y k) % 16 = (a - b - k + 100) % 100 ∧ B.daaC (B.subR x y k) (B.subF x y k) = decide (a - b - k < 0) ∧ B.subF x y k / 2 % 2 = 1 := by
  have x0 : 0 ≤ x ∧ x < 256 := by omega
  have y0 : 0 ≤ y ∧ y < 256 := by omega
  have r0 : 0 ≤ B.subR x y k ∧ B.subR x y k < 256 := by unfold B.subR; omega
  obtain ⟨f0, f1, fC, fN, _, fH, _⟩ := B.subF_parts x0.1 x0.2 y0.1 y0.2 k0
  obtain ⟨c, r⟩ := daa_plain _ _ r0.1 r0.2 f0 f1
  have n1 : B.subF x y k / 2 % 2 = 1 := by omega
  rw [← and_assoc]
  refine ⟨?_, n1⟩
  rw [c, r, B.bdec fC, B.bdec fH, n1]
  clear c r f0 f1 fC fN fH r0 n1
  have S := diffs ⟨(a / 10 - b / 10 + 9).toNat, by omega⟩ ⟨(a % 10 - b % 10 - k + 10).toNat, by omega⟩
  simp only [Int.toNat_of_nonneg (show 0 ≤ a / 10 - b / 10 + 9 by omega), Int.toNat_of_nonneg (show 0 ≤ a % 10 - b % 10 - k + 10 by omega)] at S
  rw [show a / 10 - b / 10 + 9 - 9 = a / 10 - b / 10 by omega, show a % 10 - b % 10 - k + 10 - 10 = a % 10 - b % 10 - k by omega] at S
  have e1 : x - y - k = 16 * (a / 10 - b / 10) + (a % 10 - b % 10 - k) := by omega
  have e2 : x % 16 - y % 16 - k = a % 10 - b % 10 - k := by omega
  have e3 : a - b - k = 10 * (a / 10 - b / 10) + (a % 10 - b % 10 - k) := by omega
  unfold B.subR
  rw [e1, e2, e3]
  exact S
theorem daaF_bits (a f : Int) (a0 : 0 ≤ a) (a1 : a < 256) (f0 : 0 ≤ f) (f1 : f < 256) : Go.bits .and .u8 (B.daaF a f) 1 = B.fl (B.daaC a f) 1 ∧ Go.bits .and .u8 (B.daaF a f) 2 = f / 2 % 2 * 2 := by
  have r0 : 0 ≤ B.daaR a f ∧ B.daaR a f < 256 := by unfold B.daaR; split <;> omega
  unfold B.daaF
  rw [B.and2 f0 f1]
  have n0 : f / 2 % 2 = 0 ∨ f / 2 % 2 = 1 := Int.emod_two_eq _
  generalize f / 2 % 2 = n at *
  generalize B.daaR a f = r at *
  generalize B.daaC a f = c at *
  generalize B.daaH a f = h at *
  have H : ∀ r : Fin 256, ∀ n : Fin 2, ∀ c h : Bool, let F := Go.bits .or .u8 (Go.bits .or .u8 (Go.bits .or .u8 (B.logic (r.val : Int)) ((n.val : Int) * 2)) (B.fl c 1)) (B.fl h 16)
    Go.bits .and .u8 F 1 = B.fl c 1 ∧ Go.bits .and .u8 F 2 = (n.val : Int) * 2 := by decide +kernel
  have := H ⟨r.toNat, by omega⟩ ⟨n.toNat, by omega⟩ c h
  simpa [Int.toNat_of_nonneg (show 0 ≤ r by omega), Int.toNat_of_nonneg (show 0 ≤ n by omega)] using this
theorem ShiftTens : pendulumlaw06_ShiftTens.Pure := by
  intro m n cy hm hn
  obtain ⟨m0, m1⟩ := bounds_u8 hm
  obtain ⟨n0, n1⟩ := bounds_u8 hn
  refine ⟨20, ?_⟩
  have key : ∀ a b k : Int, 0 ≤ a → a < 100 → 0 ≤ b → b < 100 → k = B.fl cy 1 → pendulumlaw06_ShiftTens.j0 20 cy a b k = some true := by
    intro a b k a0 a1 b0 b1 hk
    have k0 : k = 0 ∨ k = 1 := by rw [hk]; exact B.fl_or cy 1
    have ex : ∀ a : Int, 0 ≤ a → a < 100 → wrap64 (wrap64 (wrap64 (Int.tdiv a 10) * 16) + Int.tmod a 10) % 256 = a / 10 * 16 + a % 10 := by
      intro a a0 a1
      rw [B.td 10 a0, B.tm 10 a0, B.w64 (x := a / 10) (by omega) (by omega), B.w64 (x := a / 10 * 16) (by omega) (by omega), B.w64 (by omega) (by omega)]; omega
    have e1 : wrap64 (wrap64 (a + b) + k) = a + b + k := by simp (disch := omega) only [B.w64]
    have e2 : wrap64 (wrap64 (a - b) - k) = a - b - k := by simp (disch := omega) only [B.w64]
    have e3 : Int.tmod (a + b + k) 100 = (a + b + k) % 100 := B.tm 100 (by omega)
    have e4 : Int.tmod (wrap64 (a - b - k + 100)) 100 = (a - b - k + 100) % 100 := by rw [B.w64 (by omega) (by omega)]; exact B.tm 100 (by omega)
    have e5 : ∀ u : Int, 0 ≤ u → u < 256 → wrap64 (Int.tdiv u 16 % 256 * 10 + wrap64 (Int.tmod u 16)) = u / 16 * 10 + u % 16 := by
      intro u u0 u1
      rw [B.td 16 u0, B.tm 16 u0, B.w64 (x := u % 16) (by omega) (by omega), B.w64 (by omega) (by omega)]; omega
    have x0 : 0 ≤ a / 10 * 16 + a % 10 ∧ a / 10 * 16 + a % 10 < 256 := by omega
    have y0 : 0 ≤ b / 10 * 16 + b % 10 ∧ b / 10 * 16 + b % 10 < 256 := by omega
    have r0 : 0 ≤ B.addR (a / 10 * 16 + a % 10) (b / 10 * 16 + b % 10) k ∧ B.addR (a / 10 * 16 + a % 10) (b / 10 * 16 + b % 10) k < 256 := by unfold B.addR; omega
    have s0 : 0 ≤ B.subR (a / 10 * 16 + a % 10) (b / 10 * 16 + b % 10) k ∧ B.subR (a / 10 * 16 + a % 10) (b / 10 * 16 + b % 10) k < 256 := by unfold B.subR; omega
    obtain ⟨f0, f1, _⟩ := B.addF_parts x0.1 x0.2 y0.1 y0.2 k0
    obtain ⟨g0, g1, _⟩ := B.subF_parts x0.1 x0.2 y0.1 y0.2 k0
    have dr : ∀ x y : Int, 0 ≤ B.daaR x y ∧ B.daaR x y < 256 := by intro x y; unfold B.daaR; split <;> omega
    obtain ⟨T1, T2⟩ := tens_sum a b k a0 a1 b0 b1 k0 _ _ rfl rfl
    obtain ⟨T3, T4, T5⟩ := tens_dif a b k a0 a1 b0 b1 k0 _ _ rfl rfl
    simp only [pendulumlaw06_ShiftTens.j0]
    rw [ex a a0 a1, ex b b0 b1, s_pendulumref05_Add _ _ cy x0.1 x0.2 y0.1 y0.2, Option.bind_some, ← hk, s_shift_Daa 15 _ _ r0.1 r0.2 f0 f1, Option.bind_some, e1, e3]
    dsimp only
    rw [e5 _ (dr _ _).1 (dr _ _).2, if_pos T1, (daaF_bits _ _ r0.1 r0.2 f0 f1).1, T2]
    have h1 : ∀ q : Bool, ((B.fl q 1 != 0) != q) = false := by intro q; cases q <;> rfl
    rw [h1]
    simp only [pendulumlaw06_ShiftTens.j1]
    rw [if_neg (by decide), s_pendulumref05_Sub _ _ cy x0.1 x0.2 y0.1 y0.2, Option.bind_some, ← hk, s_shift_Daa 14 _ _ s0.1 s0.2 g0 g1, Option.bind_some, e2, e4]
    dsimp only
    rw [e5 _ (dr _ _).1 (dr _ _).2, if_pos T3, (daaF_bits _ _ s0.1 s0.2 g0 g1).1, T4]
    have h2 : ∀ q : Bool, ((B.fl q 1 != 0) == q) = true := by intro q; cases q <;> rfl
    rw [h2, if_pos rfl, (daaF_bits _ _ s0.1 s0.2 g0 g1).2, T5]
    rfl
  have ew : ∀ m : Int, 0 ≤ m → m ≤ 255 → wrap64 (Int.tmod m 100) = m % 100 := by
    intro m h0 h1; rw [B.tm 100 h0, B.w64 (by omega) (by omega)]
  unfold pendulumlaw06_ShiftTens.f
  rw [lives, Option.bind_some, if_pos rfl, ew m m0 m1, ew n n0 n1]
  cases cy
  · rw [if_neg (by decide)]; exact key _ _ 0 (by omega) (by omega) (by omega) (by omega) rfl
  · rw [if_pos rfl]; exact key _ _ 1 (by omega) (by omega) (by omega) (by omega) rfl

end Go.Proofs.Ytpmmneipfmbmlaa.Pure
