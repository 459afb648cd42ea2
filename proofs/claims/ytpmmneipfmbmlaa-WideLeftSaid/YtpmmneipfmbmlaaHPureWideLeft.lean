/- WideLeft's plain statement: a block's instruction says whether anything is left, and finds what is the same, for all bytes, a word and flags. -/
import Derived.Test.YtpmmneipfmbmlaaHWideLeftx1
import Derived.Test.YtpmmneipfmbmlaaBits
import Derived.Test.YtpmmneipfmbmlaaBitsW
set_option linter.unusedVariables false
set_option linter.unusedSimpArgs false
namespace Go.Proofs.Ytpmmneipfmbmlaa.Pure
open Go.RowKit Go.Proofs.Ytpmmneipfmbmlaa.HWideLeft Go.Proofs.YtpmmneipfmbmlaaW.PrintWords Go.Proofs.YtpmmneipfmbmlaaW.PrintLast
open Go.Proofs.Ytpmmneipfmbmlaa

theorem s_alu_if1 (b : Bool) (x : Int) : alu_if1.f b x = some (B.fl b x) := by unfold alu_if1.f B.fl; split <;> rfl

theorem s_wide_if1 (b : Bool) (x : Int) : wide_if1.f b x = some (B.fl b x) := by unfold wide_if1.f B.fl; split <;> rfl

theorem s_alu_Own (r : Int) (h0 : 0 ≤ r) (h1 : r < 256) : alu_Own.f r = some (B.own r) := by
  unfold alu_Own.f B.own
  by_cases h : r = 0
  · subst h; rfl
  · rw [if_neg h, if_neg h, B.and168 h0 h1]; simp

theorem s_alu_Sub (a b : Int) (c : Bool) (a0 : 0 ≤ a) (a1 : a < 256) (b0 : 0 ≤ b) (b1 : b < 256) :
    alu_Sub.f a b c = some (B.subR a b (B.fl c 1), B.subF a b (B.fl c 1)) := by
  unfold alu_Sub.f
  rw [s_alu_if1]
  have k0 := B.fl_or c 1
  generalize B.fl c 1 = k at *
  have e1 : wrap64 (wrap64 (wrap64 a - wrap64 b) - wrap64 k) = a - b - k := by simp (disch := omega) only [B.w64]
  have e2 : wrap64 (wrap64 (wrap64 (Go.bits .and .u8 a 15) - wrap64 (Go.bits .and .u8 b 15)) - wrap64 k) = a % 16 - b % 16 - k := by
    simp (disch := omega) only [B.and15, B.tm16, B.w64]
  have e3 : wrap64 (wrap64 (wrap64 (IntKind.i8.wrap a) - wrap64 (IntKind.i8.wrap b)) - wrap64 k) = B.s8 a - B.s8 b - k := by
    unfold B.s8; simp (disch := omega) only [B.wi8, B.w64]
  rw [Option.bind_some, e1, e2, e3]
  have hr := B.own_range (r := (a - b - k) % 256) (by omega) (by omega)
  have ho := B.own_form (r := (a - b - k) % 256) (by omega) (by omega)
  rw [s_alu_Own _ (by omega) (by omega)]
  simp only [s_alu_if1, Option.bind_some]
  unfold B.subF B.subR
  generalize B.own ((a - b - k) % 256) = o at *
  rw [B.orSub hr.1 hr.2 ho.1 ho.2.1 (B.fl_or _ _) (B.fl_or _ _) (B.fl_or _ _), B.orSub hr.1 hr.2 ho.1 ho.2.1 (B.fl_or _ _) (B.fl_or _ _) (B.fl_or _ _)]
  by_cases h : B.s8 a - B.s8 b - k < -128
  · rw [if_pos h, decide_eq_true (Or.inl h)]
  · rw [if_neg h]
    have : decide (B.s8 a - B.s8 b - k > 127) = decide (B.s8 a - B.s8 b - k < -128 ∨ B.s8 a - B.s8 b - k > 127) := by
      rw [decide_eq_decide]; omega
    rw [this]

theorem s_alu_Parity (r : Int) (h0 : 0 ≤ r) (h1 : r < 256) : alu_Parity.f r = some (B.par r) :=
  B.all8 (P := fun r => alu_Parity.f r = some (B.par r)) (by decide +kernel) r h0 h1

theorem s_wide_odd (n : Int) (h0 : 0 ≤ n) (h1 : n < 256) : wide_odd.f n = some (B.odd n) := by
  unfold wide_odd.f B.odd
  rw [s_wide_if1, Option.bind_some, B.and2 h0 h1, B.and08 h0 h1, B.bnei]
  rcases B.fl_cases (n / 2 % 2 * 2 ≠ 0) 32 with ⟨h, e⟩ | ⟨h, e⟩ <;> rw [e]
  · rw [B.or8 (x := 32) (by omega) (by omega) (by omega) (by omega)]; congr 1; omega
  · rw [B.or8 (x := 0) (by omega) (by omega) (by omega) (by omega)]; congr 1; omega
theorem lives : pendulumlaw07_lives.f = some true := by decide +kernel
theorem moves (a v f l : Int) (a0 : 0 ≤ a) (a1 : a < 256) (v0 : 0 ≤ v) (v1 : v < 256) (f0 : 0 ≤ f) (f1 : f < 256) : ∃ m, wide_Move.f a v l f = some m ∧ 0 ≤ m ∧ m < 256 ∧
    (m / 4 % 2 = 1 ↔ l ≠ 0) ∧ m / 64 * 64 + m % 2 = f / 64 * 64 + f % 2 ∧ m / 16 % 2 = 0 ∧ m / 2 % 2 = 0 := by
  unfold wide_Move.f
  rw [s_wide_if1, Option.bind_some, s_wide_odd _ (by omega) (by omega), Option.bind_some, B.and193 f0 f1, B.bnei]
  unfold B.odd
  generalize hy : (a + v) % 256 / 2 % 2 = y
  generalize hx : (a + v) % 256 / 8 % 2 = x
  have y0 : y = 0 ∨ y = 1 := by omega
  have x0 : x = 0 ∨ x = 1 := by omega
  clear hy hx
  have e := B.fl_cases (l ≠ 0) 4
  generalize B.fl (decide (l ≠ 0)) 4 = p at *
  have p0 : p = 0 ∨ p = 4 := by rcases e with ⟨_, h⟩ | ⟨_, h⟩ <;> omega
  have hp : p = 4 ↔ l ≠ 0 := by
    rcases e with ⟨h, h'⟩ | ⟨h, h'⟩
    · exact ⟨fun _ => h, fun _ => h'⟩
    · exact ⟨fun q => absurd q (by omega), fun q => absurd q h⟩
  clear e
  rw [B.or4 (x := f / 64 * 64 + f % 2) (by omega) (by omega) (by omega) p0, B.or40 (by omega) (by omega) (by omega) (by omega) y0 x0]
  refine ⟨_, rfl, by omega, by omega, ?_, by omega, by omega, by omega⟩
  rw [← hp]; omega
theorem finds (a v f l : Int) (a0 : 0 ≤ a) (a1 : a < 256) (v0 : 0 ≤ v) (v1 : v < 256) (f0 : 0 ≤ f) (f1 : f < 256) : ∃ n, wide_Find.f a v l f = some n ∧ 0 ≤ n ∧ n < 256 ∧
    (n / 4 % 2 = 1 ↔ l ≠ 0) ∧ (n / 64 % 2 = 1 ↔ a = v) ∧ n % 2 = f % 2 ∧ n / 2 % 2 = 1 := by
  have k0 : B.fl false 1 = 0 := rfl
  have sr : 0 ≤ B.subR a v 0 ∧ B.subR a v 0 < 256 ∧ (B.subR a v 0 = 0 ↔ a = v) := by unfold B.subR; omega
  obtain ⟨g0, g1, _, _, _, gH, gZ, _⟩ := B.subF_parts (k := 0) a0 a1 v0 v1 (.inl rfl)
  rw [sr.2.2] at gZ
  have key : ∀ q : Int, 0 ≤ q → q < 256 → ∃ n, ((wide_odd.f q).bind fun t135 => ((wide_if1.f (l != 0) 4).bind fun t136 => (some (Go.bits .or .u8 (Go.bits .or .u8 (Go.bits .or .u8 (Go.bits .or .u8 (Go.bits .and .u8 (B.subF a v 0) 208) 2) t135) t136) (Go.bits .and .u8 f 1))))) = some n ∧ 0 ≤ n ∧ n < 256 ∧
      (n / 4 % 2 = 1 ↔ l ≠ 0) ∧ (n / 64 % 2 = 1 ↔ a = v) ∧ n % 2 = f % 2 ∧ n / 2 % 2 = 1 := by
    intro q q0 q1
    rw [s_wide_odd q q0 q1, Option.bind_some, s_wide_if1, Option.bind_some, B.and208 g0 g1, B.and1 f0 f1, B.bnei]
    unfold B.odd
    generalize hy : q / 2 % 2 = y
    generalize hx : q / 8 % 2 = x
    have y0 : y = 0 ∨ y = 1 := by omega
    have x0 : x = 0 ∨ x = 1 := by omega
    clear hy hx gH
    have e := B.fl_cases (l ≠ 0) 4
    generalize B.fl (decide (l ≠ 0)) 4 = p at *
    have p0 : p = 0 ∨ p = 4 := by rcases e with ⟨_, h⟩ | ⟨_, h⟩ <;> omega
    have hp : p = 4 ↔ l ≠ 0 := by
      rcases e with ⟨h, h'⟩ | ⟨h, h'⟩
      · exact ⟨fun _ => h, fun _ => h'⟩
      · exact ⟨fun q => absurd q (by omega), fun q => absurd q h⟩
    clear e
    generalize B.subF a v 0 = g at *
    have c0 : f % 2 = 0 ∨ f % 2 = 1 := by omega
    generalize f % 2 = c at *
    rw [← gZ, ← hp]
    clear gZ hp sr
    have hg : g / 64 * 64 = g / 128 * 128 + g / 64 % 2 * 64 := by omega
    have z0 : 0 ≤ g / 64 % 2 ∧ g / 64 % 2 ≤ 1 := by omega
    have w0 : 0 ≤ g / 128 ∧ g / 128 ≤ 1 := by omega
    have h0 : 0 ≤ g / 16 % 2 ∧ g / 16 % 2 ≤ 1 := by omega
    rw [hg]
    generalize g / 64 % 2 = z at *
    generalize g / 128 = s at *
    generalize g / 16 % 2 = h at *
    clear hg g0 g1 q0 q1 k0
    rw [B.or2 (x := s * 128 + z * 64 + h * 16) (by omega) (by omega) (by omega) (.inr rfl), B.or40 (x := s * 128 + z * 64 + h * 16 + 2) (by omega) (by omega) (by omega) (by omega) y0 x0]
    have y1 : 0 ≤ y ∧ y ≤ 1 := by omega
    have x1 : 0 ≤ x ∧ x ≤ 1 := by omega
    clear y0 x0
    rw [B.or4 (x := s * 128 + z * 64 + h * 16 + 2 + (y * 32 + x * 8)) (by omega) (by omega) (by omega) p0]
    obtain ⟨r, hr⟩ : ∃ r, p = 4 * r := ⟨p / 4, by omega⟩
    have r0 : 0 ≤ r ∧ r ≤ 1 := by omega
    clear p0
    subst hr
    rw [B.or1 (x := s * 128 + z * 64 + h * 16 + 2 + (y * 32 + x * 8) + 4 * r) (by omega) (by omega) (by omega) c0]
    refine ⟨_, rfl, ?_⟩
    have c1 : 0 ≤ c ∧ c ≤ 1 := by omega
    clear c0
    refine ⟨by omega, by omega, by omega, by omega, by omega, by omega⟩
  unfold wide_Find.f
  rw [s_alu_Sub a v false a0 a1 v0 v1, k0, Option.bind_some]
  dsimp only
  split
  · exact key _ sr.1 sr.2.1
  · exact key _ (by omega) (by omega)
theorem ports (v b t : Int) (v0 : 0 ≤ v) (v1 : v < 256) (b0 : 0 ≤ b) (b1 : b < 256) (t0 : 0 ≤ t) (t1 : t < 256) : ∃ p, wide_Port.f v b t = some p ∧ 0 ≤ p ∧ p < 256 ∧
    (p / 64 % 2 = 1 ↔ b = 0) ∧ p / 16 % 2 = p % 2 := by
  have ek : wrap64 (wrap64 v + wrap64 t) = v + t := by simp (disch := omega) only [B.w64]
  have e7 : Go.bits .and .i64 (v + t) 7 % 256 = (v + t) % 8 := by
    have h : ∀ n : Fin 512, Go.bits .and .i64 (n.val : Int) 7 % 256 = (n.val : Int) % 8 := by decide +kernel
    have := h ⟨(v + t).toNat, by omega⟩
    simpa [Int.toNat_of_nonneg (show 0 ≤ v + t by omega)] using this
  have X := B.xor_range ((v + t) % 8) b (by omega) (by omega) b0 b1
  unfold wide_Port.f
  rw [s_alu_Own b b0 b1, Option.bind_some, s_wide_if1, Option.bind_some, s_wide_if1, Option.bind_some, ek, e7, s_alu_Parity _ X.1 X.2, Option.bind_some, s_wide_if1, Option.bind_some]
  have n0 := B.fl_or (Go.bits .and .u8 v 128 != 0) 2
  have c0 := B.fl_or (decide (v + t > 255)) 17
  have p0 := B.fl_or (B.par (Go.bits .xor .u8 ((v + t) % 8) b)) 4
  generalize B.fl (Go.bits .and .u8 v 128 != 0) 2 = n at *
  generalize B.fl (decide (v + t > 255)) 17 = c at *
  generalize B.fl (B.par (Go.bits .xor .u8 ((v + t) % 8) b)) 4 = q at *
  have o := B.own_form b0 b1
  have or := B.own_range b0 b1
  have hz : B.own b / 64 % 2 = 1 ↔ b = 0 := by rw [o.2.2.1]; split <;> simp_all
  have o1 := o.1
  have o2 := o.2.1
  clear o X ek e7
  generalize B.own b = r at *
  rw [← hz]
  clear hz
  rw [B.or2 (x := r) or.1 or.2 (by omega) n0, B.or17 (x := r + n) (by omega) (by omega) (by omega) (by omega) c0, B.or4 (x := r + n + c) (by omega) (by omega) (by omega) p0]
  refine ⟨_, rfl, by omega, by omega, by omega, by omega⟩
theorem WideLeft : pendulumlaw07_WideLeft.Pure := by
  intro a v f l ha hv hf hl
  obtain ⟨a0, a1⟩ := bounds_u8 ha
  obtain ⟨v0, v1⟩ := bounds_u8 hv
  obtain ⟨f0, f1⟩ := bounds_u8 hf
  have f2 : f < 256 := by omega
  obtain ⟨m, hm, m0, m1, mP, mf, mH, mN⟩ := moves a v f l a0 (by omega) v0 (by omega) f0 f2
  obtain ⟨n, hn, n0, n1, nP, nZ, nC, nN⟩ := finds a v f l a0 (by omega) v0 (by omega) f0 f2
  obtain ⟨p, hp, p0, p1, pZ, pH⟩ := ports a v f a0 (by omega) v0 (by omega) f0 f2
  unfold pendulumlaw07_WideLeft.f
  rw [lives, Option.bind_some, if_pos rfl, hm, Option.bind_some, hn, Option.bind_some, hp, Option.bind_some]
  rw [B.and4 m0 m1, B.and4 n0 n1, B.and64 n0 n1, B.and193 m0 m1, B.and193 f0 f2, B.and1 n0 n1, B.and1 f0 f2, B.and2 n0 n1, B.and18 m0 m1, B.and64 p0 p1, B.and16 p0 p1, B.and1 p0 p1]
  simp only [B.bnei, B.beqi]
  rw [if_pos (B.is_beq (B.bdec (B.nz4 mP))), if_pos (B.is_beq (B.bdec (B.nz4 nP))), if_pos (B.is_beq (B.bdec (B.nz64 nZ))),
    if_pos mf, if_pos nC, if_neg (by rw [nN]; decide), if_pos (by rw [mH, mN]; rfl), if_pos (B.is_beq (B.bdec (B.nz64 pZ)))]
  rw [pH]
  exact congrArg some (B.is_beq (B.bdec (by omega)))

end Go.Proofs.Ytpmmneipfmbmlaa.Pure
