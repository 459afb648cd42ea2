/- ShiftTurns' plain statement: what is turned all the way round is itself; what goes out one way comes in the other way; for every byte and flags. -/
import Derived.Test.YtpmmneipfmbmlaaHShiftTurnsx3
import Derived.Test.YtpmmneipfmbmlaaBits
import Derived.Test.YtpmmneipfmbmlaaBitsS
set_option linter.unusedVariables false
set_option linter.unusedSimpArgs false
namespace Go.Proofs.Ytpmmneipfmbmlaa.Pure
open Go.RowKit Go.Proofs.Ytpmmneipfmbmlaa.HShiftTurns Go.Proofs.YtpmmneipfmbmlaaW.PrintWords Go.Proofs.YtpmmneipfmbmlaaW.PrintLast
open Go.Proofs.Ytpmmneipfmbmlaa

theorem s_shift_if1 (b : Bool) (x : Int) : shift_if1.f b x = some (B.fl b x) := by unfold shift_if1.f B.fl; split <;> rfl

theorem s_alu_Own (r : Int) (h0 : 0 ≤ r) (h1 : r < 256) : alu_Own.f r = some (B.own r) := by
  unfold alu_Own.f B.own
  by_cases h : r = 0
  · subst h; rfl
  · rw [if_neg h, if_neg h, B.and168 h0 h1]; simp

theorem s_alu_Parity (r : Int) (h0 : 0 ≤ r) (h1 : r < 256) : alu_Parity.f r = some (B.par r) :=
  B.all8 (P := fun r => alu_Parity.f r = some (B.par r)) (by decide +kernel) r h0 h1

theorem s_pendulumref05_Parity (k : Nat) (hk : 9 ≤ k) (r : Int) (h0 : 0 ≤ r) (h1 : r < 256) : pendulumref05_Parity.f k r = some (B.par r) := by
  obtain ⟨d, rfl⟩ := Nat.exists_eq_add_of_le hk
  clear hk
  induction d with
  | zero => exact B.all8 (P := fun r => pendulumref05_Parity.f 9 r = some (B.par r)) (by decide +kernel) r h0 h1
  | succ d ih => exact pendulumref05_Parity.mono r (9 + d) _ ih

theorem s_shift_whole (r : Int) (h0 : 0 ≤ r) (h1 : r < 256) : shift_whole.f r = some (B.logic r) := by
  unfold shift_whole.f B.logic
  rw [s_alu_Own r h0 h1, Option.bind_some, s_alu_Parity r h0 h1, Option.bind_some, s_shift_if1, Option.bind_some]

theorem b_shift_moved : ∀ o : Fin 8, ∀ a : Fin 256, ∀ c : Fin 2, shift_moved.f 3 (o.val : Int) (a.val : Int) (c.val : Int) = some (B.mvR o.val a.val c.val, B.mvO o.val a.val) := by decide +kernel
theorem s_shift_moved (k : Nat) (op a f : Int) (a0 : 0 ≤ a) (a1 : a < 256) (f0 : 0 ≤ f) (f1 : f < 256) : shift_moved.f (k + 3) op a f = some (B.mvR (op % 8) a (f % 2), B.mvO (op % 8) a) := by
  have e1 : Go.bits .and .i64 op 7 = Go.bits .and .i64 (op % 8) 7 := by rw [B.i64_7, B.i64_7]; omega
  have e2 : Go.bits .and .i64 op 1 = Go.bits .and .i64 (op % 8) 1 := by rw [B.i64_1, B.i64_1]; omega
  have e3 : Go.bits .and .u8 f 1 = Go.bits .and .u8 (f % 2) 1 := by rw [B.and1 f0 f1, B.and1 (by omega) (by omega)]; omega
  have h : shift_moved.f 3 op a f = some (B.mvR (op % 8) a (f % 2), B.mvO (op % 8) a) := by
    have b := b_shift_moved ⟨(op % 8).toNat, by omega⟩ ⟨a.toNat, by omega⟩ ⟨(f % 2).toNat, by omega⟩
    simp only [Int.toNat_of_nonneg a0, Int.toNat_of_nonneg (show 0 ≤ op % 8 by omega), Int.toNat_of_nonneg (show 0 ≤ f % 2 by omega)] at b
    rw [← b]
    simp only [shift_moved.f, shift_moved.j0, shift_moved.j1, shift_moved.j2, e1, e2, e3]
  induction k with
  | zero => exact h
  | succ k ih => exact shift_moved.mono op a f (k + 3) _ ih

theorem s_shift_Shift (k : Nat) (op a f : Int) (a0 : 0 ≤ a) (a1 : a < 256) (f0 : 0 ≤ f) (f1 : f < 256) : shift_Shift.f (k + 3) op a f = some (B.mvR (op % 8) a (f % 2), Go.bits .or .u8 (B.logic (B.mvR (op % 8) a (f % 2))) (B.mvO (op % 8) a)) := by
  have r := B.mv_range (op % 8) a (f % 2) a0 a1 (by omega)
  unfold shift_Shift.f
  rw [s_shift_moved k op a f a0 a1 f0 f1, Option.bind_some]
  dsimp only
  rw [s_shift_whole _ r.1 r.2.1, Option.bind_some]
theorem lives : pendulumlaw06_lives.f 60 = some true := by decide +kernel
/-- So many moves, one behind the other: the byte, and C. -/
def many (o : Int) : Nat → Int → Int → Int × Int
  | 0, b, c => (b, c)
  | n + 1, b, c => many o n (B.mvR o b c) (B.mvO o b)
theorem round (o : Int) (x0 x1 : Int) (o0 : 0 ≤ o) (o1 : o < 4) (k : Nat) : ∀ (n : Nat) (b g i : Int), 0 ≤ b → b < 256 → 0 ≤ g → g < 256 → 0 ≤ i → i + n = 8 + o / 2 →
    ∃ h, 0 ≤ h ∧ h < 256 ∧ h % 2 = (many o n b (g % 2)).2 ∧ 0 ≤ (many o n b (g % 2)).1 ∧ (many o n b (g % 2)).1 < 256 ∧
      pendulumlaw06_ShiftTurns.l1 (k + 4 + n) x0 x1 o b g i = pendulumlaw06_ShiftTurns.l1 (k + 4) x0 x1 o (many o n b (g % 2)).1 h (8 + o / 2) := by
  intro n
  induction n with
  | zero =>
    intro b g i b0 b1 g0 g1 i0 hi
    exact ⟨g, g0, g1, rfl, b0, b1, by rw [show i = 8 + o / 2 by omega]; rfl⟩
  | succ n ih =>
    intro b g i b0 b1 g0 g1 i0 hi
    have r := B.mv_range o b (g % 2) b0 b1 (by omega)
    have l := B.logic_or (B.mvR o b (g % 2)) (B.mvO o b) r.1 r.2.1 r.2.2
    obtain ⟨h, h0, h1, h2, h3, h4, h5⟩ := ih (B.mvR o b (g % 2)) (Go.bits .or .u8 (B.logic (B.mvR o b (g % 2))) (B.mvO o b)) (i + 1) r.1 r.2.1 l.1 l.2.1 (by omega) (by omega)
    rw [l.2.2.1] at h2 h3 h4 h5
    refine ⟨h, h0, h1, h2, h3, h4, ?_⟩
    rw [show many o (n + 1) b (g % 2) = many o n (B.mvR o b (g % 2)) (B.mvO o b) from rfl, ← h5, show k + 4 + (n + 1) = (k + 4 + n) + 1 by omega]
    simp only [pendulumlaw06_ShiftTurns.l1]
    rw [B.td 2 o0, B.w64 (x := o / 2) (by omega) (by omega), B.w64 (x := 8 + o / 2) (by omega) (by omega), if_pos (by omega), show k + 4 + n = (k + 1 + n) + 3 by omega, s_shift_Shift (k + 1 + n) o b g b0 b1 g0 g1, show o % 8 = o by omega, Option.bind_some,
      B.w64 (x := i + 1) (by omega) (by omega)]
theorem turned : ∀ o : Fin 4, ∀ c : Fin 2, ∀ a : Fin 256, (many (o.val : Int) (8 + o.val / 2) (a.val : Int) (c.val : Int)).1 = (a.val : Int) ∧ (o.val ≥ 2 → (many (o.val : Int) (8 + o.val / 2) (a.val : Int) (c.val : Int)).2 = (c.val : Int)) := by decide +kernel
theorem undone : ∀ o : Fin 4, ∀ c : Fin 2, ∀ a : Fin 256, let q : Int := if o.val % 2 = 0 then (o.val : Int) + 1 else (o.val : Int) - 1
    let r := B.mvR (o.val : Int) (a.val : Int) (c.val : Int); let d := B.mvO (o.val : Int) (a.val : Int)
    B.mvR q r d = (a.val : Int) ∧ (o.val ≥ 2 → B.mvO q r = (c.val : Int)) := by decide +kernel
theorem xor1 : ∀ o : Fin 4, Go.bits .xor .i64 (o.val : Int) 1 = (if o.val % 2 = 0 then (o.val : Int) + 1 else (o.val : Int) - 1) := by decide +kernel
theorem turn (a f : Int) (a0 : 0 ≤ a) (a1 : a < 256) (f0 : 0 ≤ f) (f1 : f < 256) (o : Fin 4) (k : Nat) :
    pendulumlaw06_ShiftTurns.l1 (k + 4 + (8 + o.val / 2)) a f (o.val : Int) a f 0 = pendulumlaw06_ShiftTurns.l0 (k + 3) a f ((o.val : Int) + 1) := by
  obtain ⟨h, h0, h1, h2, h3, h4, h5⟩ := round (o.val : Int) a f (by omega) (by omega) k (8 + o.val / 2) a f 0 a0 a1 f0 f1 (by omega) (by omega)
  have c0 : 0 ≤ f % 2 ∧ f % 2 < 2 := by omega
  have T := turned o ⟨(f % 2).toNat, by omega⟩ ⟨a.toNat, by omega⟩
  have U := undone o ⟨(f % 2).toNat, by omega⟩ ⟨a.toNat, by omega⟩
  simp only [Int.toNat_of_nonneg a0, Int.toNat_of_nonneg c0.1] at T U
  rw [T.1] at h5
  rw [h5]
  have r := B.mv_range (o.val : Int) a (f % 2) a0 a1 (by omega)
  have l := B.logic_or (B.mvR (o.val : Int) a (f % 2)) (B.mvO (o.val : Int) a) r.1 r.2.1 r.2.2
  have q0 : (if o.val % 2 = 0 then (o.val : Int) + 1 else (o.val : Int) - 1) % 8 = (if o.val % 2 = 0 then (o.val : Int) + 1 else (o.val : Int) - 1) := by split <;> omega
  simp only [pendulumlaw06_ShiftTurns.l1]
  rw [B.td 2 (by omega), B.w64 (x := (o.val : Int) / 2) (by omega) (by omega), B.w64 (x := 8 + (o.val : Int) / 2) (by omega) (by omega), if_neg (by omega), s_shift_Shift k (o.val : Int) a f a0 a1 f0 f1, show (o.val : Int) % 8 = (o.val : Int) by omega, Option.bind_some]
  dsimp only
  rw [xor1, s_shift_Shift k _ _ _ r.1 r.2.1 l.1 l.2.1, q0, l.2.2.1, U.1, Option.bind_some]
  dsimp only
  rw [if_pos rfl, if_pos trivial, B.w64 (x := (o.val : Int) + 1) (by omega) (by omega)]
  by_cases c : (o.val : Int) ≥ 2
  · have r' := B.mv_range (if o.val % 2 = 0 then (o.val : Int) + 1 else (o.val : Int) - 1) (B.mvR (o.val : Int) a (f % 2)) (B.mvO (o.val : Int) a) r.1 r.2.1 r.2.2
    have l' := B.logic_or a (B.mvO (if o.val % 2 = 0 then (o.val : Int) + 1 else (o.val : Int) - 1) (B.mvR (o.val : Int) a (f % 2))) a0 a1 r'.2.2
    rw [if_pos c, B.and1 h0 h1, B.and1 f0 f1, h2, T.2 (by omega), if_pos rfl, B.and1 l'.1 l'.2.1, l'.2.2.1, U.2 (by omega), if_pos rfl]
  · rw [if_neg c]
theorem each (a f : Int) (a0 : 0 ≤ a) (a1 : a < 256) (f0 : 0 ≤ f) (f1 : f < 256) (k : Nat) (o : Int) (o0 : 0 ≤ o) (o1 : o < 8) :
    pendulumlaw06_ShiftTurns.l2 (k + 10) a f o = pendulumlaw06_ShiftTurns.l2 (k + 9) a f (o + 1) := by
  have r := B.mv_range o a (f % 2) a0 a1 (by omega)
  have l := B.logic_or (B.mvR o a (f % 2)) (B.mvO o a) r.1 r.2.1 r.2.2
  obtain ⟨l0, l1, lC, lN, lH, lP, lZ, lS, lY, lX⟩ := l
  rw [show k + 10 = (k + 9) + 1 by omega]
  conv => lhs; unfold pendulumlaw06_ShiftTurns.l2
  rw [if_pos o1, show k + 9 = (k + 6) + 3 by omega, s_shift_Shift (k + 6) o a f a0 a1 f0 f1, show o % 8 = o by omega, Option.bind_some]
  dsimp only
  rw [B.w64 (x := o + 1) (by omega) (by omega), s_pendulumref05_Parity (k + 6 + 3) (by omega) _ r.1 r.2.1, B.and1 l0 l1, B.and168 l0 l1, B.and168 r.1 r.2.1, B.and64 l0 l1, B.and4 l0 l1, B.and18 l0 l1, lC, lN, lH, lS, lY, lX, B.tm 2 o0, B.tm 2 a0]
  simp only [Option.bind_some]
  have c1 : ¬ (((Go.bits .or .u8 (B.logic (B.mvR o a (f % 2))) (B.mvO o a) / 64 % 2 * 64 != 0) != (B.mvR o a (f % 2) == 0)) = true) := B.not_bne (by rw [B.bnei, B.beqi]; exact B.bdec (B.nz64 lZ))
  have c2 : ¬ (((Go.bits .or .u8 (B.logic (B.mvR o a (f % 2))) (B.mvO o a) / 4 % 2 * 4 != 0) != B.par (B.mvR o a (f % 2))) = true) := B.not_bne (by
    rw [B.bnei]
    have := B.nz4 lP
    cases hp : B.par (B.mvR o a (f % 2))
    · rw [hp] at this; simpa using this
    · rw [hp] at this; simpa using this)
  by_cases c : o % 2 = 1
  · rw [if_pos c, if_pos (by unfold B.mvO; rw [if_neg (by omega)]), if_pos trivial, if_neg c1, if_neg c2, if_pos (by decide)]
  · rw [if_neg c, if_pos (by unfold B.mvO; rw [if_pos (by omega)]), if_pos trivial, if_neg c1, if_neg c2, if_pos (by decide)]
theorem ShiftTurns : pendulumlaw06_ShiftTurns.Pure := by
  intro a f ha hf
  obtain ⟨a0, a1⟩ := bounds_u8 ha
  obtain ⟨f0, f1⟩ := bounds_u8 hf
  have a2 : a < 256 := by omega
  have f2 : f < 256 := by omega
  refine ⟨60, ?_⟩
  unfold pendulumlaw06_ShiftTurns.f
  rw [lives, Option.bind_some, if_pos rfl]
  have st : ∀ (o : Fin 4) (k K L : Nat) (I J : Int), K = k + 4 + (8 + o.val / 2) + 1 → L = k + 3 → I = (o.val : Int) → J = I + 1 → pendulumlaw06_ShiftTurns.l0 K a f I = pendulumlaw06_ShiftTurns.l0 L a f J := by
    rintro o k K L I J rfl rfl rfl rfl
    rw [← turn a f a0 a2 f0 f2 o k]
    conv => lhs; unfold pendulumlaw06_ShiftTurns.l0
    rw [if_pos (by omega)]
  have s0' := st (0 : Fin 4) 47 60 50 0 1 (by decide) (by decide) (by decide) (by decide)
  have s1' := st (1 : Fin 4) 37 50 40 1 2 (by decide) (by decide) (by decide) (by decide)
  have s2' := st (2 : Fin 4) 26 40 29 2 3 (by decide) (by decide) (by decide) (by decide)
  have s3' := st (3 : Fin 4) 15 29 18 3 4 (by decide) (by decide) (by decide) (by decide)
  rw [s0', s1', s2', s3']
  have z : pendulumlaw06_ShiftTurns.l0 18 a f 4 = pendulumlaw06_ShiftTurns.l2 17 a f 0 := by
    conv => lhs; unfold pendulumlaw06_ShiftTurns.l0
    rw [if_neg (by decide)]
  have E := each a f a0 a2 f0 f2
  rw [z, E 7 0 (by decide) (by decide), E 6 (0 + 1) (by decide) (by decide), E 5 (0 + 1 + 1) (by decide) (by decide), E 4 (0 + 1 + 1 + 1) (by decide) (by decide), E 3 (0 + 1 + 1 + 1 + 1) (by decide) (by decide),
    E 2 (0 + 1 + 1 + 1 + 1 + 1) (by decide) (by decide), E 1 (0 + 1 + 1 + 1 + 1 + 1 + 1) (by decide) (by decide), E 0 (0 + 1 + 1 + 1 + 1 + 1 + 1 + 1) (by decide) (by decide)]
  conv => lhs; unfold pendulumlaw06_ShiftTurns.l2
  rw [if_neg (by decide), s_shift_Shift 5 4 a f a0 a2 f0 f2, s_shift_Shift 5 5 a f a0 a2 f0 f2, s_shift_Shift 5 6 a f a0 a2 f0 f2, s_shift_Shift 5 7 a f a0 a2 f0 f2]
  simp only [Option.bind_some]
  rw [B.td 2 a0, show B.mvR (4 % 8) a (f % 2) = a * 2 % 256 from rfl, show B.mvR (5 % 8) a (f % 2) = a / 2 + a / 128 * 128 from rfl, show B.mvR (6 % 8) a (f % 2) = a * 2 % 256 + 1 from rfl, show B.mvR (7 % 8) a (f % 2) = a / 2 from rfl,
    if_pos (by omega), if_pos (by omega), if_pos (by omega), B.wi8, B.wi8]
  exact congrArg some (beq_iff_eq.2 (by omega))

end Go.Proofs.Ytpmmneipfmbmlaa.Pure
