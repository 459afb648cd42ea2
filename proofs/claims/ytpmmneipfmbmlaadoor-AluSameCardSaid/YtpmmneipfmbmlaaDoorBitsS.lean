/- Plain lemmas on shifts and rotations of bytes (no program in sight). -/
import Derived.Test.YtpmmneipfmbmlaaDoorBits
set_option linter.unusedVariables false
namespace Go.Proofs.YtpmmneipfmbmlaaDoor.B
open Go Go.RowKit
theorem and_i64 (m j : Nat) (hj : j ≤ 8) (hm : m = 2 ^ j - 1) (x : Int) : bits .and .i64 x (m : Int) = x % (2 ^ j : Nat) := by
  have hm' : m < 256 := by
    subst hm
    have : ∀ j : Fin 9, 2 ^ j.val - 1 < 256 := by decide
    exact this ⟨j, by omega⟩
  have e : (BitVec.ofInt 64 (m : Int)).toNat = m := by simp; omega
  have d : (x % (2 ^ 64 : Int)).toNat % 2 ^ j = (x % (2 ^ j : Nat)).toNat := by
    have h64 : (2 : Int) ^ 64 = (2 ^ j : Nat) * (2 ^ (64 - j) : Nat) := by
      rw [← Int.natCast_mul, ← Nat.pow_add, show j + (64 - j) = 64 by omega]; rfl
    have n0 : 0 ≤ x % (2 ^ 64 : Int) := Int.emod_nonneg _ (by decide)
    have p0 : (0 : Int) < (2 ^ j : Nat) := by have := Nat.two_pow_pos j; omega
    have q : (((x % (2 ^ 64 : Int)).toNat % 2 ^ j : Nat) : Int) = x % (2 ^ j : Nat) := by
      rw [Int.natCast_emod, Int.toNat_of_nonneg n0, h64]; exact Int.emod_emod_of_dvd x (Int.dvd_mul_right _ _)
    omega
  have p0 : (0 : Int) < (2 ^ j : Nat) := by have := Nat.two_pow_pos j; omega
  have u0 := Int.emod_nonneg x (show ((2 ^ j : Nat) : Int) ≠ 0 by omega)
  have u1 := Int.emod_lt_of_pos x p0
  have pj : 2 ^ j ≤ 256 := by
    have : ∀ j : Fin 9, 2 ^ j.val ≤ 256 := by decide
    exact this ⟨j, by omega⟩
  change IntKind.i64.wrap (((BitVec.ofInt 64 x &&& BitVec.ofInt 64 (m : Int)).toNat : Nat) : Int) = _
  rw [BitVec.toNat_and, e, BitVec.toNat_ofInt]
  rw [hm, Nat.and_two_pow_sub_one_eq_mod, show ((2 ^ 64 : Nat) : Int) = (2 ^ 64 : Int) from rfl, d, Int.toNat_of_nonneg u0]
  rw [IntKind.wrap_i64]; omega
theorem i64_7 (x : Int) : bits .and .i64 x 7 = x % 8 := and_i64 7 3 (by decide) rfl x
theorem i64_3 (x : Int) : bits .and .i64 x 3 = x % 4 := and_i64 3 2 (by decide) rfl x
theorem i64_1 (x : Int) : bits .and .i64 x 1 = x % 2 := and_i64 1 1 (by decide) rfl x
/-- A byte moved by an operation, c what stands in C. -/
def mvR (o a c : Int) : Int :=
  if o = 0 then a * 2 % 256 + a / 128 else if o = 1 then a / 2 + a % 2 * 128 else if o = 2 then a * 2 % 256 + c else if o = 3 then a / 2 + c * 128
  else if o = 4 then a * 2 % 256 else if o = 5 then a / 2 + a / 128 * 128 else if o = 6 then a * 2 % 256 + 1 else a / 2
/-- The bit that goes out. -/
def mvO (o a : Int) : Int := if o % 2 = 0 then a / 128 else a % 2
theorem mv_range (o a c : Int) (a0 : 0 ≤ a) (a1 : a < 256) (c0 : c = 0 ∨ c = 1) : 0 ≤ mvR o a c ∧ mvR o a c < 256 ∧ (mvO o a = 0 ∨ mvO o a = 1) := by
  have h1 : 0 ≤ a * 2 % 256 ∧ a * 2 % 256 ≤ 254 := by omega
  have h2 : 0 ≤ a / 2 ∧ a / 2 ≤ 127 := by omega
  have h3 : a / 128 = 0 ∨ a / 128 = 1 := by omega
  have h4 : a % 2 = 0 ∨ a % 2 = 1 := by omega
  refine ⟨?_, ?_, ?_⟩
  · unfold mvR; repeat' split
    all_goals omega
  · unfold mvR; repeat' split
    all_goals omega
  · unfold mvO; split
    · exact h3
    · exact h4
theorem logic_range (r : Int) (h0 : 0 ≤ r) (h1 : r < 256) : 0 ≤ logic r ∧ logic r < 256 :=
  all8 (P := fun r => 0 ≤ logic r ∧ logic r < 256) (by decide +kernel) r h0 h1
/-- What the flags of a shift are: those of logic, and C. -/
theorem logic_or (r c : Int) (h0 : 0 ≤ r) (h1 : r < 256) (hc : c = 0 ∨ c = 1) : let G := bits .or .u8 (logic r) c
    0 ≤ G ∧ G < 256 ∧ G % 2 = c ∧ G / 2 % 2 = 0 ∧ G / 16 % 2 = 0 ∧ (G / 4 % 2 = 1 ↔ par r = true) ∧ (G / 64 % 2 = 1 ↔ r = 0) ∧ G / 128 = r / 128 ∧ G / 32 % 2 = r / 32 % 2 ∧ G / 8 % 2 = r / 8 % 2 := by
  have h : ∀ c : Fin 2, ∀ r : Fin 256, let G := bits .or .u8 (logic (r.val : Int)) (c.val : Int)
    0 ≤ G ∧ G < 256 ∧ G % 2 = (c.val : Int) ∧ G / 2 % 2 = 0 ∧ G / 16 % 2 = 0 ∧ (G / 4 % 2 = 1 ↔ par (r.val : Int) = true) ∧ (G / 64 % 2 = 1 ↔ (r.val : Int) = 0) ∧ G / 128 = (r.val : Int) / 128 ∧ G / 32 % 2 = (r.val : Int) / 32 % 2 ∧ G / 8 % 2 = (r.val : Int) / 8 % 2 := by decide +kernel
  have := h ⟨c.toNat, by omega⟩ ⟨r.toNat, by omega⟩
  simpa [Int.toNat_of_nonneg h0, Int.toNat_of_nonneg (show 0 ≤ c by omega)] using this
/-- The adjustment in tens: what is added or taken away, C, H, the byte and its flags. -/
def daaC (a f : Int) : Bool := !(decide (bits .and .u8 f 1 = 0)) || decide (a > 153)
def daaBy (a f : Int) : Int := (if bits .and .u8 f 16 = 0 ∧ ¬ (bits .and .u8 a 15 > 9) then 0 else 6) + (if daaC a f = true then 96 else 0)
def daaR (a f : Int) : Int := if bits .and .u8 f 2 = 0 then (a + daaBy a f) % 256 else (a - daaBy a f) % 256
def daaH (a f : Int) : Bool := if bits .and .u8 f 2 = 0 then decide (bits .and .u8 a 15 > 9) else decide (bits .and .u8 a 15 < 6) && !(decide (bits .and .u8 f 16 = 0))
def daaF (a f : Int) : Int := bits .or .u8 (bits .or .u8 (bits .or .u8 (logic (daaR a f)) (bits .and .u8 f 2)) (fl (daaC a f) 1)) (fl (daaH a f) 16)
end Go.Proofs.YtpmmneipfmbmlaaDoor.B
