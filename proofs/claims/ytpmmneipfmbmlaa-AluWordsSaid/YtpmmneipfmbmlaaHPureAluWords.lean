/- AluWords' plain statement: numbers of eight bytes are added, and taken away, byte by byte, each carry going to the next one. -/
import Derived.Test.YtpmmneipfmbmlaaHAluWordsx1
import Derived.Test.YtpmmneipfmbmlaaBits
set_option linter.unusedVariables false
set_option linter.unusedSimpArgs false
namespace Go.Proofs.Ytpmmneipfmbmlaa.Pure
open Go.RowKit Go.Proofs.Ytpmmneipfmbmlaa.HAluWords Go.Proofs.YtpmmneipfmbmlaaW.PrintWords Go.Proofs.YtpmmneipfmbmlaaW.PrintLast
open Go.Proofs.Ytpmmneipfmbmlaa

theorem s_alu_if1 (b : Bool) (x : Int) : alu_if1.f b x = some (B.fl b x) := by unfold alu_if1.f B.fl; split <;> rfl

theorem s_alu_Own (r : Int) (h0 : 0 ≤ r) (h1 : r < 256) : alu_Own.f r = some (B.own r) := by
  unfold alu_Own.f B.own
  by_cases h : r = 0
  · subst h; rfl
  · rw [if_neg h, if_neg h, B.and168 h0 h1]; simp

theorem s_alu_Add (a b : Int) (c : Bool) (a0 : 0 ≤ a) (a1 : a < 256) (b0 : 0 ≤ b) (b1 : b < 256) :
    alu_Add.f a b c = some (B.addR a b (B.fl c 1), B.addF a b (B.fl c 1)) := by
  unfold alu_Add.f
  rw [s_alu_if1]
  have k0 := B.fl_or c 1
  generalize B.fl c 1 = k at *
  have e1 : wrap64 (wrap64 (wrap64 a + wrap64 b) + wrap64 k) = a + b + k := by simp (disch := omega) only [B.w64]
  have e2 : wrap64 (wrap64 (wrap64 (Go.bits .and .u8 a 15) + wrap64 (Go.bits .and .u8 b 15)) + wrap64 k) = a % 16 + b % 16 + k := by
    simp (disch := omega) only [B.and15, B.tm16, B.w64]
  have e3 : wrap64 (wrap64 (wrap64 (IntKind.i8.wrap a) + wrap64 (IntKind.i8.wrap b)) + wrap64 k) = B.s8 a + B.s8 b + k := by
    unfold B.s8; simp (disch := omega) only [B.wi8, B.w64]
  rw [Option.bind_some, e1, e2, e3]
  have hr := B.own_range (r := (a + b + k) % 256) (by omega) (by omega)
  have ho := B.own_form (r := (a + b + k) % 256) (by omega) (by omega)
  rw [s_alu_Own _ (by omega) (by omega)]
  simp only [s_alu_if1, Option.bind_some]
  unfold B.addF B.addR
  generalize B.own ((a + b + k) % 256) = o at *
  rw [B.orAdd hr.1 hr.2 ho.1 ho.2.1 (B.fl_or _ _) (B.fl_or _ _) (B.fl_or _ _), B.orAdd hr.1 hr.2 ho.1 ho.2.1 (B.fl_or _ _) (B.fl_or _ _) (B.fl_or _ _)]
  by_cases h : B.s8 a + B.s8 b + k < -128
  · rw [if_pos h, decide_eq_true (Or.inl h)]
  · rw [if_neg h]
    have : decide (B.s8 a + B.s8 b + k > 127) = decide (B.s8 a + B.s8 b + k < -128 ∨ B.s8 a + B.s8 b + k > 127) := by
      rw [decide_eq_decide]; omega
    rw [this]

theorem s_alu_Sub (a b : Int) (c : Bool) (a0 : 0 ≤ a) (a1 : a < 256) (b0 : 0 ≤ b) (b1 : b < 256) :
    alu_Sub.f a b c = some (B.subR a b (B.fl c 1), B.subF a b (B.fl c 1)) := by
  unfold alu_Sub.f
  rw [s_alu_if1]
  have k0 := B.fl_or c 1
  generalize B.fl c 1 = k at *
  have e1 : wrap64 (wrap64 (wrap64 a - wrap64 b) - wrap64 k) = a - b - k := by simp (disch := omega) only [B.w64]
  have e2 : wrap64 (wrap64 (wrap64 (Go.bits .and .u8 a 15) - wrap64 (Go.bits .and .u8 b 15)) - wrap64 k) = a % 16 - b % 16 - k := by
    simp (disch := omega) only [B.and15, B.tm16, B.w64]
  have e3 : wrap64 (wrap64 (wrap64 (IntKind.i8.wrap a) - wrap64 (IntKind.i8.wrap b)) - wrap64 k) = B.s8 a - B.s8 b - k := by
    unfold B.s8; simp (disch := omega) only [B.wi8, B.w64]
  rw [Option.bind_some, e1, e2, e3]
  have hr := B.own_range (r := (a - b - k) % 256) (by omega) (by omega)
  have ho := B.own_form (r := (a - b - k) % 256) (by omega) (by omega)
  rw [s_alu_Own _ (by omega) (by omega)]
  simp only [s_alu_if1, Option.bind_some]
  unfold B.subF B.subR
  generalize B.own ((a - b - k) % 256) = o at *
  rw [B.orSub hr.1 hr.2 ho.1 ho.2.1 (B.fl_or _ _) (B.fl_or _ _) (B.fl_or _ _), B.orSub hr.1 hr.2 ho.1 ho.2.1 (B.fl_or _ _) (B.fl_or _ _) (B.fl_or _ _)]
  by_cases h : B.s8 a - B.s8 b - k < -128
  · rw [if_pos h, decide_eq_true (Or.inl h)]
  · rw [if_neg h]
    have : decide (B.s8 a - B.s8 b - k > 127) = decide (B.s8 a - B.s8 b - k < -128 ∨ B.s8 a - B.s8 b - k > 127) := by
      rw [decide_eq_decide]; omega
    rw [this]
theorem lives : pendulumlaw05_lives.f = some true := by decide +kernel
theorem or64 {x y : Int} (i : Nat) (hi : i ≤ 64) (h0 : 0 ≤ x) (h1 : x < 2 ^ i) (h2 : 0 ≤ y) (h3 : y < 18446744073709551616) (h4 : y % 2 ^ i = 0) : Go.bits .or .u64 x y = x + y := by
  have hp : (2 : Int) ^ i ≤ 2 ^ 64 := by
    have := Nat.pow_le_pow_right (n := 2) (by decide) hi
    exact_mod_cast this
  have hx : x < 18446744073709551616 := by
    have : (2 : Int) ^ 64 = 18446744073709551616 := by decide
    omega
  rw [u64_or x y h0 hx h2 h3, Nat.or_comm, nat_join i y.toNat x.toNat]
  · omega
  · have e : ((y.toNat % 2 ^ i : Nat) : Int) = y % 2 ^ i := by
      rw [Int.natCast_emod, Int.toNat_of_nonneg h2]; simp
    omega
  · have e : ((2 ^ i : Nat) : Int) = 2 ^ i := by simp
    omega
theorem shl0 (x : Int) (n : Nat) (hn : n ≤ 64) : shl .u64 x (n : Int) = x * 2 ^ n % 18446744073709551616 := by
  unfold shl
  rw [B.wu64, Int.toNat_natCast, show min n IntKind.u64.bits = n from Nat.min_eq_left hn]
theorem shr0 (x : Int) (n : Nat) (hn : n ≤ 64) : shr .u64 x (n : Int) = x / 2 ^ n := by
  unfold shr
  rw [Int.toNat_natCast, show min n IntKind.u64.bits = n from Nat.min_eq_left hn]
/-- A carry's number. -/
theorem fl1 (P : Prop) [Decidable P] (v : Int) (h : B.fl (decide P) 1 = v) : (v = 1 ∧ P) ∨ (v = 0 ∧ ¬ P) := by
  rcases B.fl_cases P 1 with ⟨p, e⟩ | ⟨p, e⟩
  · exact .inl ⟨by omega, p⟩
  · exact .inr ⟨by omega, p⟩
theorem sumM (M L xm xb ym yb k S r cc : Int) (hL : L = 256 * M) (hM : 0 < M) (x0 : 0 ≤ xm) (x1 : xm < M) (x2 : 0 ≤ xb) (x3 : xb < 256) (y0 : 0 ≤ ym) (y1 : ym < M) (y2 : 0 ≤ yb) (y3 : yb < 256) (k0 : k = 0 ∨ k = 1)
    (hS : S = (xm + ym + k) % M) (hc : (cc = 1 ∧ xm + ym + k ≥ M) ∨ (cc = 0 ∧ ¬ (xm + ym + k ≥ M))) (hr : r = (xb + yb + cc) % 256) :
    S + r * M = (xm + M * xb + (ym + M * yb) + k) % L ∧ (xb + yb + cc > 255 ↔ xm + M * xb + (ym + M * yb) + k ≥ L) := by
  have e : S = xm + ym + k - M * cc := by
    rcases hc with ⟨rfl, h⟩ | ⟨rfl, h⟩
    · rw [hS, Int.mul_one, ← Int.sub_emod_right]; exact Int.emod_eq_of_lt (by omega) (by omega)
    · rw [hS, Int.mul_zero, Int.sub_zero]; exact Int.emod_eq_of_lt (by omega) (by omega)
  have s0 : 0 ≤ S ∧ S < M := by rw [hS]; exact ⟨Int.emod_nonneg _ (by omega), Int.emod_lt_of_pos _ hM⟩
  have e' : xm + M * xb + (ym + M * yb) + k = S + M * (xb + yb + cc) := by rw [e, Int.mul_add, Int.mul_add]; omega
  rw [e']
  have q : xb + yb + cc = r + 256 * ((xb + yb + cc) / 256) := by omega
  have q0 : 0 ≤ r ∧ r < 256 := by omega
  have q1 : (xb + yb + cc) / 256 = 0 ∨ (xb + yb + cc) / 256 = 1 := by omega
  have t : S + M * (xb + yb + cc) = S + r * M + L * ((xb + yb + cc) / 256) := by
    rw [hL]; generalize (xb + yb + cc) / 256 = v at *; rw [q, Int.mul_add, Int.mul_comm M r, ← Int.mul_assoc, Int.mul_comm M 256]; omega
  have b : r * M ≤ 255 * M := Int.mul_le_mul_of_nonneg_right (by omega) (by omega)
  have b0 : 0 ≤ r * M := Int.mul_nonneg q0.1 (by omega)
  constructor
  · rw [t, Int.add_mul_emod_self_left]; exact (Int.emod_eq_of_lt (by omega) (by omega)).symm
  · rw [t]; rcases q1 with h | h <;> rw [h] <;> omega
theorem difM (M L xm xb ym yb k S r cc : Int) (hL : L = 256 * M) (hM : 0 < M) (x0 : 0 ≤ xm) (x1 : xm < M) (x2 : 0 ≤ xb) (x3 : xb < 256) (y0 : 0 ≤ ym) (y1 : ym < M) (y2 : 0 ≤ yb) (y3 : yb < 256) (k0 : k = 0 ∨ k = 1)
    (hS : S = (xm - ym - k) % M) (hc : (cc = 1 ∧ xm - ym - k < 0) ∨ (cc = 0 ∧ ¬ (xm - ym - k < 0))) (hr : r = (xb - yb - cc) % 256) :
    S + r * M = (xm + M * xb - (ym + M * yb) - k) % L ∧ (xb - yb - cc < 0 ↔ xm + M * xb - (ym + M * yb) - k < 0) := by
  have s0 : 0 ≤ S ∧ S < M := by rw [hS]; exact ⟨Int.emod_nonneg _ (by omega), Int.emod_lt_of_pos _ hM⟩
  have e : S = xm - ym - k + M * cc := by
    rcases hc with ⟨rfl, h⟩ | ⟨rfl, h⟩
    · rw [hS, Int.mul_one, ← Int.add_emod_right]; exact Int.emod_eq_of_lt (by omega) (by omega)
    · rw [hS, Int.mul_zero, Int.add_zero]; exact Int.emod_eq_of_lt (by omega) (by omega)
  have e' : xm + M * xb - (ym + M * yb) - k = S + M * (xb - yb - cc) := by rw [e, Int.mul_sub, Int.mul_sub]; omega
  rw [e']
  have q : xb - yb - cc = r + 256 * ((xb - yb - cc) / 256) := by omega
  have q0 : 0 ≤ r ∧ r < 256 := by omega
  have q1 : ((xb - yb - cc) / 256 = 0 ∧ ¬ (xb - yb - cc < 0)) ∨ ((xb - yb - cc) / 256 = -1 ∧ xb - yb - cc < 0) := by omega
  have t : S + M * (xb - yb - cc) = S + r * M + L * ((xb - yb - cc) / 256) := by
    rw [hL]; generalize (xb - yb - cc) / 256 = v at *; rw [q, Int.mul_add, Int.mul_comm M r, ← Int.mul_assoc, Int.mul_comm M 256]; omega
  have b : r * M ≤ 255 * M := Int.mul_le_mul_of_nonneg_right (by omega) (by omega)
  have b0 : 0 ≤ r * M := Int.mul_nonneg q0.1 (by omega)
  constructor
  · rw [t, Int.add_mul_emod_self_left]; exact (Int.emod_eq_of_lt (by omega) (by omega)).symm
  · rw [t]; rcases q1 with ⟨h, h'⟩ | ⟨h, h'⟩ <;> rw [h] <;> omega
theorem splitM (x M L : Int) (hL : L = 256 * M) (hM : 0 < M) : x % L = x % M + M * (x / M % 256) := by
  have h1 := Int.mul_ediv_add_emod x M
  have h2 := Int.mul_ediv_add_emod (x / M) 256
  have b0 := Int.emod_nonneg x (show M ≠ 0 by omega)
  have b1 := Int.emod_lt_of_pos x hM
  have c0 := Int.emod_nonneg (x / M) (show (256 : Int) ≠ 0 by decide)
  have c1 := Int.emod_lt_of_pos (x / M) (show (0 : Int) < 256 by decide)
  generalize x / M % 256 = u at *
  generalize x / M / 256 = v at *
  generalize x / M = q at *
  generalize hr : x % M = r at *
  have d0 : 0 ≤ M * u := Int.mul_nonneg (by omega) (by omega)
  have d1 : M * u ≤ M * 255 := Int.mul_le_mul_of_nonneg_left (by omega) (by omega)
  have e : x = r + M * u + L * v := by rw [← h1, ← h2, hL, Int.mul_add, ← Int.mul_assoc, Int.mul_comm M 256]; omega
  rw [e, Int.add_mul_emod_self_left]; exact Int.emod_eq_of_lt (by omega) (by omega)
theorem round (i n : Nat) (hi : i < 8) (I J : Int) (hI : I = i) (hJ : J = (i : Int) + 1) (M L : Int) (hM : (2 : Int) ^ (8 * i) = M) (hL : L = 256 * M) (m0 : 0 < M) (m1 : M ≤ 72057594037927936) (x y : Int) (cy : Bool) (k : Int) (k0 : k = 0 ∨ k = 1) (x0 : 0 ≤ x) (x1 : x < 18446744073709551616) (y0 : 0 ≤ y) (y1 : y < 18446744073709551616) :
    pendulumlaw05_AluWords.l0 (n + 1) x y cy ((x % M + y % M + k) % M) ((x % M - y % M - k) % M) (decide (x % M + y % M + k ≥ M)) (decide (x % M - y % M - k < 0)) I =
    pendulumlaw05_AluWords.l0 n x y cy ((x % L + y % L + k) % L) ((x % L - y % L - k) % L) (decide (x % L + y % L + k ≥ L)) (decide (x % L - y % L - k < 0)) J := by
  subst hI hJ
  have ew : IntKind.u64.wrap (wrap64 (8 * (i : Int))) = ((8 * i : Nat) : Int) := by rw [B.w64 (by omega) (by omega), B.wu64]; omega
  have e8 : wrap64 ((i : Int) + 1) = i + 1 := B.w64 (by omega) (by omega)
  have u0 : ∀ z : Int, 0 ≤ z / M % 256 ∧ z / M % 256 < 256 := fun z => ⟨Int.emod_nonneg _ (by decide), Int.emod_lt_of_pos _ (by decide)⟩
  have v0 : ∀ z : Int, 0 ≤ z % M ∧ z % M < M := fun z => ⟨Int.emod_nonneg _ (by omega), Int.emod_lt_of_pos _ m0⟩
  have xs := splitM x M L hL m0
  have ys := splitM y M L hL m0
  have xb0 := u0 x
  have yb0 := u0 y
  have xm0 := v0 x
  have ym0 := v0 y
  have S0 := v0 (x % M + y % M + k)
  have D0 := v0 (x % M - y % M - k)
  simp only [pendulumlaw05_AluWords.l0]
  rw [if_pos (by omega), ew, if_pos (Int.natCast_nonneg _), e8, shr0 x _ (by omega), shr0 y _ (by omega), hM]
  rw [s_alu_Add _ _ _ xb0.1 xb0.2 yb0.1 yb0.2, Option.bind_some, s_alu_Sub _ _ _ xb0.1 xb0.2 yb0.1 yb0.2, Option.bind_some]
  have hc := fl1 (x % M + y % M + k ≥ M) _ rfl
  have hd := fl1 (x % M - y % M - k < 0) _ rfl
  have c0 := B.fl_or (decide (x % M + y % M + k ≥ M)) 1
  have d0 := B.fl_or (decide (x % M - y % M - k < 0)) 1
  generalize B.fl (decide (x % M + y % M + k ≥ M)) 1 = cc at *
  generalize B.fl (decide (x % M - y % M - k < 0)) 1 = dd at *
  obtain ⟨f0, f1, fC, _⟩ := B.addF_parts xb0.1 xb0.2 yb0.1 yb0.2 c0
  obtain ⟨g0, g1, gC, _⟩ := B.subF_parts xb0.1 xb0.2 yb0.1 yb0.2 d0
  dsimp only
  rw [B.and1 f0 f1, B.and1 g0 g1, B.bnei, B.bnei]
  have S1 := sumM M L (x % M) (x / M % 256) (y % M) (y / M % 256) k _ (B.addR (x / M % 256) (y / M % 256) cc) cc hL m0 xm0.1 xm0.2 xb0.1 xb0.2 ym0.1 ym0.2 yb0.1 yb0.2 k0 rfl hc rfl
  have D1 := difM M L (x % M) (x / M % 256) (y % M) (y / M % 256) k _ (B.subR (x / M % 256) (y / M % 256) dd) dd hL m0 xm0.1 xm0.2 xb0.1 xb0.2 ym0.1 ym0.2 yb0.1 yb0.2 k0 rfl hd rfl
  rw [← xs, ← ys] at S1 D1
  have rA : 0 ≤ B.addR (x / M % 256) (y / M % 256) cc ∧ B.addR (x / M % 256) (y / M % 256) cc < 256 := by unfold B.addR; exact ⟨Int.emod_nonneg _ (by decide), Int.emod_lt_of_pos _ (by decide)⟩
  have rB : 0 ≤ B.subR (x / M % 256) (y / M % 256) dd ∧ B.subR (x / M % 256) (y / M % 256) dd < 256 := by unfold B.subR; exact ⟨Int.emod_nonneg _ (by decide), Int.emod_lt_of_pos _ (by decide)⟩
  rw [← S1.1, ← D1.1, ← B.bdec ((B.nz1 fC).trans S1.2), ← B.bdec ((B.nz1 gC).trans D1.2)]
  clear hc hd c0 d0 f0 f1 fC g0 g1 gC S1 D1 xs ys
  generalize B.addR (x / M % 256) (y / M % 256) cc = r at *
  generalize B.subR (x / M % 256) (y / M % 256) dd = s at *
  have pr : ∀ r : Int, 0 ≤ r → r < 256 → 0 ≤ r * M ∧ r * M < 18446744073709551616 := by
    intro r r0 r1
    have b : r * M ≤ 255 * M := Int.mul_le_mul_of_nonneg_right (by omega) (by omega)
    have b0 : 0 ≤ r * M := Int.mul_nonneg r0 (by omega)
    omega
  have ra := pr r rA.1 rA.2
  have rb := pr s rB.1 rB.2
  have sA : shl .u64 (IntKind.u64.wrap r) ((8 * i : Nat) : Int) = r * M := by
    rw [shl0 _ _ (by omega), B.wu64, hM, Int.emod_eq_of_lt rA.1 (by omega)]; exact Int.emod_eq_of_lt ra.1 ra.2
  have sB : shl .u64 (IntKind.u64.wrap s) ((8 * i : Nat) : Int) = s * M := by
    rw [shl0 _ _ (by omega), B.wu64, hM, Int.emod_eq_of_lt rB.1 (by omega)]; exact Int.emod_eq_of_lt rb.1 rb.2
  rw [sA, sB, or64 (8 * i) (by omega) S0.1 (by rw [hM]; exact S0.2) ra.1 ra.2 (by rw [hM]; exact Int.mul_emod_left _ _), or64 (8 * i) (by omega) D0.1 (by rw [hM]; exact D0.2) rb.1 rb.2 (by rw [hM]; exact Int.mul_emod_left _ _)]

theorem AluWords : pendulumlaw05_AluWords.Pure := by
  intro x y cy hx hy
  obtain ⟨x0, x1⟩ := bounds_u64 hx
  obtain ⟨y0, y1⟩ := bounds_u64 hy
  refine ⟨9, ?_⟩
  unfold pendulumlaw05_AluWords.f
  rw [lives, Option.bind_some, if_pos rfl]
  have k0 := B.fl_or cy 1
  have hk : (cy = true ∧ B.fl cy 1 = 1) ∨ (cy = false ∧ B.fl cy 1 = 0) := by cases cy <;> simp [B.fl]
  have e0 : pendulumlaw05_AluWords.l0 9 x y cy 0 0 cy cy 0 = pendulumlaw05_AluWords.l0 9 x y cy ((x % 1 + y % 1 + B.fl cy 1) % 1) ((x % 1 - y % 1 - B.fl cy 1) % 1) (decide (x % 1 + y % 1 + B.fl cy 1 ≥ 1)) (decide (x % 1 - y % 1 - B.fl cy 1 < 0)) 0 := by
    have h1 : decide (x % 1 + y % 1 + B.fl cy 1 ≥ 1) = cy := by rcases hk with ⟨rfl, h⟩ | ⟨rfl, h⟩ <;> rw [h] <;> simp <;> omega
    have h2 : decide (x % 1 - y % 1 - B.fl cy 1 < 0) = cy := by rcases hk with ⟨rfl, h⟩ | ⟨rfl, h⟩ <;> rw [h] <;> simp <;> omega
    rw [h1, h2, show (x % 1 + y % 1 + B.fl cy 1) % 1 = 0 by omega, show (x % 1 - y % 1 - B.fl cy 1) % 1 = 0 by omega]
  generalize B.fl cy 1 = k at *
  have x2 : x < 18446744073709551616 := by omega
  have y2 : y < 18446744073709551616 := by omega
  rw [e0]
  rw [round 0 8 (by decide) 0 1 (by decide) (by decide) 1 256 (by decide +kernel) (by decide) (by decide) (by decide) x y cy k k0 x0 x2 y0 y2]
  rw [round 1 7 (by decide) 1 2 (by decide) (by decide) 256 65536 (by decide +kernel) (by decide) (by decide) (by decide) x y cy k k0 x0 x2 y0 y2]
  rw [round 2 6 (by decide) 2 3 (by decide) (by decide) 65536 16777216 (by decide +kernel) (by decide) (by decide) (by decide) x y cy k k0 x0 x2 y0 y2]
  rw [round 3 5 (by decide) 3 4 (by decide) (by decide) 16777216 4294967296 (by decide +kernel) (by decide) (by decide) (by decide) x y cy k k0 x0 x2 y0 y2]
  rw [round 4 4 (by decide) 4 5 (by decide) (by decide) 4294967296 1099511627776 (by decide +kernel) (by decide) (by decide) (by decide) x y cy k k0 x0 x2 y0 y2]
  rw [round 5 3 (by decide) 5 6 (by decide) (by decide) 1099511627776 281474976710656 (by decide +kernel) (by decide) (by decide) (by decide) x y cy k k0 x0 x2 y0 y2]
  rw [round 6 2 (by decide) 6 7 (by decide) (by decide) 281474976710656 72057594037927936 (by decide +kernel) (by decide) (by decide) (by decide) x y cy k k0 x0 x2 y0 y2]
  rw [round 7 1 (by decide) 7 8 (by decide) (by decide) 72057594037927936 18446744073709551616 (by decide +kernel) (by decide) (by decide) (by decide) x y cy k k0 x0 x2 y0 y2]
  clear e0
  rw [show x % 18446744073709551616 = x by omega, show y % 18446744073709551616 = y by omega]
  simp only [pendulumlaw05_AluWords.l0]
  rw [if_neg (by decide)]
  simp only [B.wu64]
  rcases hk with ⟨rfl, rfl⟩ | ⟨rfl, rfl⟩
  · rw [if_pos rfl, if_pos (by omega), if_pos (by omega)]
    by_cases h1 : ((x + y) % 18446744073709551616 + 1) % 18446744073709551616 < x
    · rw [if_pos h1, if_pos (B.is_beq (by rw [decide_eq_true_eq]; omega))]
      by_cases h2 : x < y
      · rw [if_pos h2]; exact congrArg some (B.is_beq (by rw [decide_eq_true_eq]; omega))
      · rw [if_neg h2]; exact congrArg some (B.is_beq (by rw [B.beqi]; exact B.bdec (by omega)))
    · rw [if_neg h1, if_pos (B.is_beq (by rw [B.beqi]; exact B.bdec (by omega)))]
      by_cases h2 : x < y
      · rw [if_pos h2]; exact congrArg some (B.is_beq (by rw [decide_eq_true_eq]; omega))
      · rw [if_neg h2]; exact congrArg some (B.is_beq (by rw [B.beqi]; exact B.bdec (by omega)))
  · rw [if_neg (by decide), if_pos (by omega), if_pos (by omega)]
    by_cases h1 : (x + y) % 18446744073709551616 % 18446744073709551616 < x
    · rw [if_pos h1, if_pos (B.is_beq (by rw [decide_eq_true_eq]; omega))]
      by_cases h2 : x < y
      · rw [if_pos h2]; exact congrArg some (B.is_beq (by rw [decide_eq_true_eq]; omega))
      · rw [if_neg h2]; exact congrArg some (B.is_beq (by rw [decide_eq_false_iff_not]; omega))
    · rw [if_neg h1, if_pos (B.is_beq (by rw [decide_eq_false_iff_not]; omega))]
      by_cases h2 : x < y
      · rw [if_pos h2]; exact congrArg some (B.is_beq (by rw [decide_eq_true_eq]; omega))
      · rw [if_neg h2]; exact congrArg some (B.is_beq (by rw [decide_eq_false_iff_not]; omega))

end Go.Proofs.Ytpmmneipfmbmlaa.Pure
