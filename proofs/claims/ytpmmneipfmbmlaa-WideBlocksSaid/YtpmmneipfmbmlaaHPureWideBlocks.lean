/- WideBlocks' plain statement: what block instructions make of the flags is what the document says, for all bytes, a word and flags. -/
import Derived.Test.YtpmmneipfmbmlaaHWideBlocksx2
import Derived.Test.YtpmmneipfmbmlaaBits
import Derived.Test.YtpmmneipfmbmlaaBitsW
set_option linter.unusedVariables false
set_option linter.unusedSimpArgs false
namespace Go.Proofs.Ytpmmneipfmbmlaa.Pure
open Go.RowKit Go.Proofs.Ytpmmneipfmbmlaa.HWideBlocks Go.Proofs.YtpmmneipfmbmlaaW.PrintWords Go.Proofs.YtpmmneipfmbmlaaW.PrintLast
open Go.Proofs.Ytpmmneipfmbmlaa

theorem s_alu_if1 (b : Bool) (x : Int) : alu_if1.f b x = some (B.fl b x) := by unfold alu_if1.f B.fl; split <;> rfl

theorem s_wide_if1 (b : Bool) (x : Int) : wide_if1.f b x = some (B.fl b x) := by unfold wide_if1.f B.fl; split <;> rfl

theorem s_pendulumref05_Flag (b : Bool) (x : Int) : pendulumref05_Flag.f x b = some (B.fl b x) := by unfold pendulumref05_Flag.f B.fl; split <;> rfl

theorem s_alu_Own (r : Int) (h0 : 0 ≤ r) (h1 : r < 256) : alu_Own.f r = some (B.own r) := by
  unfold alu_Own.f B.own
  by_cases h : r = 0
  · subst h; rfl
  · rw [if_neg h, if_neg h, B.and168 h0 h1]; simp

theorem s_pendulumref05_Own (r : Int) (h0 : 0 ≤ r) (h1 : r < 256) : pendulumref05_Own.f r = some (B.own r) := by
  unfold pendulumref05_Own.f B.own
  by_cases h : r = 0
  · subst h; rfl
  · rw [if_neg h, if_neg h, B.and168 h0 h1]; simp

theorem s_alu_Sub (a b : Int) (c : Bool) (a0 : 0 ≤ a) (a1 : a < 256) (b0 : 0 ≤ b) (b1 : b < 256) :
    alu_Sub.f a b c = some (B.subR a b (B.fl c 1), B.subF a b (B.fl c 1)) := by
  unfold alu_Sub.f
  rw [s_alu_if1]
  have k0 := B.fl_or c 1
  generalize B.fl c 1 = k at *
  have e1 : wrap64 (wrap64 (wrap64 a - wrap64 b) - wrap64 k) = a - b - k := by simp (disch := omega) only [B.w64]
  have e2 : wrap64 (wrap64 (wrap64 (Go.bits .and .u8 a 15) - wrap64 (Go.bits .and .u8 b 15)) - wrap64 k) = a % 16 - b % 16 - k := by
    simp (disch := omega) only [B.and15, B.tm16, B.w64]
  have e3 : wrap64 (wrap64 (wrap64 (IntKind.i8.wrap a) - wrap64 (IntKind.i8.wrap b)) - wrap64 k) = B.s8 a - B.s8 b - k := by
    unfold B.s8; simp (disch := omega) only [B.wi8, B.w64]
  rw [Option.bind_some, e1, e2, e3]
  have hr := B.own_range (r := (a - b - k) % 256) (by omega) (by omega)
  have ho := B.own_form (r := (a - b - k) % 256) (by omega) (by omega)
  rw [s_alu_Own _ (by omega) (by omega)]
  simp only [s_alu_if1, Option.bind_some]
  unfold B.subF B.subR
  generalize B.own ((a - b - k) % 256) = o at *
  rw [B.orSub hr.1 hr.2 ho.1 ho.2.1 (B.fl_or _ _) (B.fl_or _ _) (B.fl_or _ _), B.orSub hr.1 hr.2 ho.1 ho.2.1 (B.fl_or _ _) (B.fl_or _ _) (B.fl_or _ _)]
  by_cases h : B.s8 a - B.s8 b - k < -128
  · rw [if_pos h, decide_eq_true (Or.inl h)]
  · rw [if_neg h]
    have : decide (B.s8 a - B.s8 b - k > 127) = decide (B.s8 a - B.s8 b - k < -128 ∨ B.s8 a - B.s8 b - k > 127) := by
      rw [decide_eq_decide]; omega
    rw [this]

theorem s_pendulumref05_one (b : Bool) : pendulumref05_one.f b = some (B.fl b 1) := by unfold pendulumref05_one.f B.fl; split <;> rfl

theorem s_pendulumref05_signed (a : Int) (h0 : 0 ≤ a) (h1 : a < 256) : pendulumref05_signed.f a = some (B.s8 a) := by
  unfold pendulumref05_signed.f B.s8
  split
  · have e : wrap64 (wrap64 a - 256) = (a + 128) % 256 - 128 := by simp (disch := omega) only [B.w64]; omega
    rw [e]
  · have e : wrap64 a = (a + 128) % 256 - 128 := by simp (disch := omega) only [B.w64]; omega
    rw [e]

theorem s_pendulumref05_Sub (a b : Int) (c : Bool) (a0 : 0 ≤ a) (a1 : a < 256) (b0 : 0 ≤ b) (b1 : b < 256) :
    pendulumref05_Sub.f a b c = some (B.subR a b (B.fl c 1), B.subF a b (B.fl c 1)) := by
  unfold pendulumref05_Sub.f
  rw [s_pendulumref05_one, s_pendulumref05_signed a a0 a1, s_pendulumref05_signed b b0 b1]
  have k0 := B.fl_or c 1
  generalize B.fl c 1 = k at *
  have e1 : wrap64 (wrap64 (wrap64 a - wrap64 b) - k) = a - b - k := by simp (disch := omega) only [B.w64]
  have e2 : wrap64 (wrap64 (wrap64 (Int.tmod a 16) - wrap64 (Int.tmod b 16)) - k) = a % 16 - b % 16 - k := by
    simp (disch := omega) only [B.and15, B.tm16, B.w64]
  have e3 : wrap64 (wrap64 (B.s8 a - B.s8 b) - k) = B.s8 a - B.s8 b - k := by
    unfold B.s8; simp (disch := omega) only [B.wi8, B.w64]
  rw [Option.bind_some, Option.bind_some, Option.bind_some, e1, e2, e3]
  have hr := B.own_range (r := (a - b - k) % 256) (by omega) (by omega)
  have ho := B.own_form (r := (a - b - k) % 256) (by omega) (by omega)
  rw [s_pendulumref05_Own _ (by omega) (by omega)]
  simp only [s_pendulumref05_Flag, Option.bind_some]
  unfold B.subF B.subR
  generalize B.own ((a - b - k) % 256) = o at *
  rw [B.orSubR hr.1 hr.2 ho.1 ho.2.1 (B.fl_or _ _) (B.fl_or _ _) (B.fl_or _ _), B.orSubR hr.1 hr.2 ho.1 ho.2.1 (B.fl_or _ _) (B.fl_or _ _) (B.fl_or _ _)]
  by_cases h : B.s8 a - B.s8 b - k < -128
  · rw [if_pos h, decide_eq_true (Or.inl h)]
  · rw [if_neg h]
    have : decide (B.s8 a - B.s8 b - k > 127) = decide (B.s8 a - B.s8 b - k < -128 ∨ B.s8 a - B.s8 b - k > 127) := by
      rw [decide_eq_decide]; omega
    rw [this]

theorem s_alu_Parity (r : Int) (h0 : 0 ≤ r) (h1 : r < 256) : alu_Parity.f r = some (B.par r) :=
  B.all8 (P := fun r => alu_Parity.f r = some (B.par r)) (by decide +kernel) r h0 h1

theorem s_pendulumref05_Parity (k : Nat) (hk : 9 ≤ k) (r : Int) (h0 : 0 ≤ r) (h1 : r < 256) : pendulumref05_Parity.f k r = some (B.par r) := by
  obtain ⟨d, rfl⟩ := Nat.exists_eq_add_of_le hk
  clear hk
  induction d with
  | zero => exact B.all8 (P := fun r => pendulumref05_Parity.f 9 r = some (B.par r)) (by decide +kernel) r h0 h1
  | succ d ih => exact pendulumref05_Parity.mono r (9 + d) _ ih

theorem s_wide_odd (n : Int) (h0 : 0 ≤ n) (h1 : n < 256) : wide_odd.f n = some (B.odd n) := by
  unfold wide_odd.f B.odd
  rw [s_wide_if1, Option.bind_some, B.and2 h0 h1, B.and08 h0 h1, B.bnei]
  rcases B.fl_cases (n / 2 % 2 * 2 ≠ 0) 32 with ⟨h, e⟩ | ⟨h, e⟩ <;> rw [e]
  · rw [B.or8 (x := 32) (by omega) (by omega) (by omega) (by omega)]; congr 1; omega
  · rw [B.or8 (x := 0) (by omega) (by omega) (by omega) (by omega)]; congr 1; omega

theorem s_pendulumref07_odd (n : Int) (h0 : 0 ≤ n) (h1 : n < 256) : pendulumref07_odd.f n = some (B.odd n) := by
  unfold pendulumref07_odd.f B.odd
  rw [s_pendulumref05_Flag, Option.bind_some, s_pendulumref05_Flag, Option.bind_some, B.td 2 h0, B.td 8 h0, B.beqi, B.beqi]
  rcases B.fl_cases (n / 2 % 2 = 1) 32 with ⟨h, e⟩ | ⟨h, e⟩ <;> rw [e] <;> rcases B.fl_cases (n / 8 % 2 = 1) 8 with ⟨h', e'⟩ | ⟨h', e'⟩ <;> rw [e']
  · rw [B.or8 (x := 32) (by omega) (by omega) (by omega) (by omega)]; congr 1; omega
  · rw [B.or8 (x := 32) (by omega) (by omega) (by omega) (by omega)]; congr 1; omega
  · rw [B.or8 (x := 0) (by omega) (by omega) (by omega) (by omega)]; congr 1; omega
  · rw [B.or8 (x := 0) (by omega) (by omega) (by omega) (by omega)]; congr 1; omega
theorem lives : pendulumlaw07_lives.f = some true := by decide +kernel
theorem or_swap (x y z : Int) (h0 : 0 ≤ x) (h1 : x < 256) (h2 : 0 ≤ y) (h3 : y < 256) (h4 : 0 ≤ z) (h5 : z < 256) : Go.bits .or .u8 (Go.bits .or .u8 x y) z = Go.bits .or .u8 (Go.bits .or .u8 x z) y := by
  have a := B.or_range x y h0 h1 h2 h3
  have b := B.or_range x z h0 h1 h4 h5
  rw [u8_or _ z a.1 a.2 h4 h5, u8_or _ y b.1 b.2 h2 h3, u8_or x y h0 h1 h2 h3, u8_or x z h0 h1 h4 h5, Int.toNat_natCast, Int.toNat_natCast, Nat.or_assoc, Nat.or_comm y.toNat, ← Nat.or_assoc]
theorem odd_range (n : Int) : 0 ≤ B.odd n ∧ B.odd n < 256 := by unfold B.odd; omega
theorem fl_range (b : Bool) (n : Int) (h0 : 0 ≤ n) (h1 : n < 256) : 0 ≤ B.fl b n ∧ B.fl b n < 256 := by cases b <;> simp [B.fl] <;> omega
theorem WideBlocks : pendulumlaw07_WideBlocks.Pure := by
  intro a v b f l ha hv hb hf hl
  obtain ⟨a0, a1⟩ := bounds_u8 ha
  obtain ⟨v0, v1⟩ := bounds_u8 hv
  obtain ⟨b0, b1⟩ := bounds_u8 hb
  obtain ⟨f0, f1⟩ := bounds_u8 hf
  have a2 : a < 256 := by omega
  have v2 : v < 256 := by omega
  have b2 : b < 256 := by omega
  have f2 : f < 256 := by omega
  have F := B.and_range f 193 f0 f2 (by omega) (by omega)
  have P4 := fl_range (l != 0) 4 (by omega) (by omega)
  have k0 : B.fl false 1 = 0 := rfl
  have sr : 0 ≤ B.subR a v (B.fl false 1) ∧ B.subR a v (B.fl false 1) < 256 := by unfold B.subR; omega
  obtain ⟨g0, g1, _, _, _, gH, _⟩ := B.subF_parts a0 a2 v0 v2 (.inl k0)
  have e16 : Go.bits .and .u8 (Go.bits .and .u8 (B.subF a v (B.fl false 1)) 208) 16 = Go.bits .and .u8 (B.subF a v (B.fl false 1)) 16 := by
    exact B.all8 (P := fun x => Go.bits .and .u8 (Go.bits .and .u8 x 208) 16 = Go.bits .and .u8 x 16) (by decide +kernel) _ g0 g1
  have ek : wrap64 (wrap64 v + wrap64 a) = v + a := by simp (disch := omega) only [B.w64]
  have e7 : Go.bits .and .i64 (v + a) 7 % 256 = (v + a) % 8 := by
    have h : ∀ n : Fin 512, Go.bits .and .i64 (n.val : Int) 7 % 256 = (n.val : Int) % 8 := by decide +kernel
    have := h ⟨(v + a).toNat, by omega⟩
    simpa [Int.toNat_of_nonneg (show 0 ≤ v + a by omega)] using this
  have e8 : Int.tmod (v + a) 8 % 256 = (v + a) % 8 := by rw [B.tm 8 (by omega)]; omega
  have X := B.xor_range ((v + a) % 8) b (by omega) (by omega) b0 b2
  have e128 : (Go.bits .and .u8 v 128 != 0) = decide (v ≥ 128) := by rw [B.and128 v0 v2, B.bnei]; exact B.bdec (by omega)
  refine ⟨20, ?_⟩
  unfold pendulumlaw07_WideBlocks.f
  rw [lives, Option.bind_some, if_pos rfl]
  unfold wide_Move.f pendulumref07_Move.f
  rw [s_wide_if1, Option.bind_some, s_wide_odd _ (by omega) (by omega), Option.bind_some, s_pendulumref07_odd _ (by omega) (by omega), Option.bind_some, s_pendulumref05_Flag, Option.bind_some, Option.bind_some, Option.bind_some]
  rw [or_swap _ _ _ F.1 F.2 P4.1 P4.2 (odd_range _).1 (odd_range _).2, if_pos rfl]
  unfold wide_Find.f pendulumref07_Find.f
  rw [s_alu_Sub a v false a0 a2 v0 v2, s_pendulumref05_Sub a v false a0 a2 v0 v2, Option.bind_some, Option.bind_some]
  dsimp only
  rw [e16]
  have hF : ∀ x y : Option Int, x = y → (∃ z, x = some z) → (x.bind fun t167 => (y.bind fun t168 => (if t167 = t168 then ((wide_Port.f v b a).bind fun t169 => ((pendulumref07_Port.f 20 v b a).bind fun t170 => (some (t169 == t170)))) else (some false)))) = some true := by
    rintro x y rfl ⟨z, rfl⟩
    rw [Option.bind_some, Option.bind_some, if_pos rfl]
    unfold wide_Port.f pendulumref07_Port.f
    rw [s_alu_Own b b0 b2, s_pendulumref05_Own b b0 b2, s_wide_if1, s_pendulumref05_Flag, ek, e7, e8, s_alu_Parity _ X.1 X.2, s_pendulumref05_Parity 20 (by omega) _ X.1 X.2, e128]
    simp only [Option.bind_some, s_wide_if1, s_pendulumref05_Flag]
    simp
  by_cases c : Go.bits .and .u8 (B.subF a v (B.fl false 1)) 16 = 0
  · rw [if_pos c, if_pos c]
    exact hF _ _ (by rw [s_wide_odd _ sr.1 sr.2, s_pendulumref07_odd _ sr.1 sr.2]; simp only [Option.bind_some, s_wide_if1, s_pendulumref05_Flag]) (by rw [s_wide_odd _ sr.1 sr.2]; simp only [Option.bind_some, s_wide_if1]; exact ⟨_, rfl⟩)
  · rw [if_neg c, if_neg c]
    exact hF _ _ (by rw [s_wide_odd _ (by omega) (by omega), s_pendulumref07_odd _ (by omega) (by omega)]; simp only [Option.bind_some, s_wide_if1, s_pendulumref05_Flag]) (by rw [s_wide_odd _ (by omega) (by omega)]; simp only [Option.bind_some, s_wide_if1]; exact ⟨_, rfl⟩)

end Go.Proofs.Ytpmmneipfmbmlaa.Pure
