/- Plain lemmas on words and their flags, as sums of quotients and remainders (no program in sight). -/
import Derived.Test.YtpmmneipfmbmlaaBits
set_option linter.unusedVariables false
namespace Go.Proofs.Ytpmmneipfmbmlaa.B
open Go Go.RowKit
theorem or_joinN (i : Nat) (hi : i ≤ 8) {x y : Int} (h0 : 0 ≤ x) (h1 : x < 256) (h2 : x.toNat % 2 ^ i = 0) (h3 : 0 ≤ y) (h4 : y.toNat < 2 ^ i) : bits .or .u8 x y = x + y := by
  have : 2 ^ i ≤ 256 := by
    have h : ∀ i : Fin 9, 2 ^ i.val ≤ 256 := by decide
    exact h ⟨i, by omega⟩
  rw [u8_or x y h0 h1 h3 (by omega), nat_join i _ _ h2 h4]; omega
theorem or_join64 {x y : Int} (h0 : 0 ≤ x) (h1 : x < 256) (h2 : x % 64 = 0) (h3 : 0 ≤ y) (h4 : y < 64) : bits .or .u8 x y = x + y :=
  or_joinN 6 (by decide) h0 h1 (by simp; omega) h3 (by simp; omega)
/-- The flags S, Z, Y, X of a word. -/
def all16 (r : Int) : Int := r / 256 / 128 * 128 + r / 256 / 32 % 2 * 32 + r / 256 / 8 % 2 * 8 + (if r = 0 then 64 else 0)
theorem all16_form {r : Int} (h0 : 0 ≤ r) (h1 : r < 65536) : 0 ≤ all16 r ∧ all16 r < 256 ∧ all16 r % 8 = 0 ∧ all16 r / 16 % 2 = 0 := by
  unfold all16
  have a : 0 ≤ r / 256 ∧ r / 256 < 256 := by omega
  generalize r / 256 = h at *
  split <;> (refine ⟨?_, ?_, ?_, ?_⟩ <;> omega)
def adcR (a b k : Int) : Int := (a + b + k) % 65536
def adcF (a b k : Int) : Int := all16 (adcR a b k) + fl (decide (a + b + k > 65535)) 1 + fl (decide (a % 4096 + b % 4096 + k > 4095)) 16 + fl (decide (s16 a + s16 b + k < -32768 ∨ s16 a + s16 b + k > 32767)) 4
def sbcR (a b k : Int) : Int := (a - b - k) % 65536
def sbcF (a b k : Int) : Int := all16 (sbcR a b k) + fl (decide (a - b - k < 0)) 1 + fl (decide (a % 4096 - b % 4096 - k < 0)) 16 + fl (decide (s16 a - s16 b - k < -32768 ∨ s16 a - s16 b - k > 32767)) 4 + 2
/-- The flags of a sum of words without a carry: f's S, Z, P; Y, X of the high byte; C; H. -/
def addW (a b f : Int) : Int := bits .or .u8 (bits .or .u8 (bits .or .u8 (bits .and .u8 f 196) (bits .and .u8 ((a + b) % 65536 / 256) 40)) (fl (decide (a + b > 65535)) 1)) (fl (decide (a % 4096 + b % 4096 > 4095)) 16)
/-- Y by the bit 1 of a byte, X by its bit 3. -/
def odd (n : Int) : Int := n / 2 % 2 * 32 + n / 8 % 2 * 8
theorem or40_n : ∀ y : Fin 2, ∀ z : Fin 2, ∀ x : Fin 256, x.val / 32 % 2 = 0 → x.val / 8 % 2 = 0 → x.val ||| (32 * y.val + 8 * z.val) = x.val + (32 * y.val + 8 * z.val) := by decide +kernel
theorem or40 {x y z : Int} (h0 : 0 ≤ x) (h1 : x < 256) (h2 : x / 32 % 2 = 0) (h3 : x / 8 % 2 = 0) (hy : y = 0 ∨ y = 1) (hz : z = 0 ∨ z = 1) : bits .or .u8 x (y * 32 + z * 8) = x + (y * 32 + z * 8) := by
  have h := or40_n ⟨y.toNat, by omega⟩ ⟨z.toNat, by omega⟩ ⟨x.toNat, by omega⟩ (by simp; omega) (by simp; omega)
  simp only at h
  rw [u8_or x _ h0 h1 (by omega) (by omega), show (y * 32 + z * 8).toNat = 32 * y.toNat + 8 * z.toNat by omega, h]; omega
theorem or17_n : ∀ x : Fin 256, x.val % 2 = 0 → x.val / 16 % 2 = 0 → x.val ||| 17 = x.val + 17 := by decide +kernel
theorem or17 {x y : Int} (h0 : 0 ≤ x) (h1 : x < 256) (h2 : x % 2 = 0) (h3 : x / 16 % 2 = 0) (hy : y = 0 ∨ y = 17) : bits .or .u8 x y = x + y := by
  rcases hy with rfl | rfl
  · exact or1 h0 h1 h2 (.inl rfl)
  · have h := or17_n ⟨x.toNat, by omega⟩ (by simp; omega) (by simp; omega)
    simp only at h
    rw [u8_or x 17 h0 h1 (by omega) (by omega), show Int.toNat 17 = 17 from rfl, h]; omega
/-- The bits S, Y, X of a byte. -/
def hiF (h : Int) : Int := h / 128 * 128 + h / 32 % 2 * 32 + h / 8 % 2 * 8
theorem own_hi (r : Int) : own r = hiF r + fl (decide (r = 0)) 64 := by
  unfold own hiF; by_cases h : r = 0 <;> simp [fl, h]
theorem all16_hi (r : Int) : all16 r = hiF (r / 256) + fl (decide (r = 0)) 64 := by
  unfold all16 hiF; by_cases h : r = 0 <;> simp [fl, h]
/-- Flags without Z, and Z. -/
theorem drop64 {h c q p n z : Int} (h0 : 0 ≤ h) (h1 : h < 256) (hc : c = 0 ∨ c = 1) (hq : q = 0 ∨ q = 16) (hp : p = 0 ∨ p = 4) (hn : n = 0 ∨ n = 2) (hz : z = 0 ∨ z = 64) (F : Int) (hF : F = hiF h + z + c + q + p + n) :
    0 ≤ F ∧ F < 256 ∧ F - F / 64 % 2 * 64 = hiF h + c + q + p + n ∧ F / 64 % 2 * 64 = z ∧ F % 2 = c := by
  have H := bits_sum (h / 128) (z / 64) (h / 32 % 2) (h / 8 % 2) c (q / 16) (p / 4) (n / 2) F (by omega) (by omega) (by omega) (by omega) hc (by omega) (by omega) (by omega) (by rw [hF]; unfold hiF; omega)
  obtain ⟨a, b, c', _, _, _, d, _⟩ := H
  refine ⟨a, b, ?_, by omega, c'⟩
  omega
theorem fl_bit {F : Int} (h0 : 0 ≤ F) (h1 : F < 256) : fl (bits .and .u8 F 1 != 0) 1 = F % 2 := by
  rw [and1 h0 h1, bnei]
  rcases fl_cases (F % 2 ≠ 0) 1 with ⟨h, e⟩ | ⟨h, e⟩ <;> rw [e] <;> omega
theorem fl_mod (P : Prop) [Decidable P] (v : Int) (h : v = 0 ∨ v = 1) (hv : v = 1 ↔ P) : v = fl (decide P) 1 := by
  rcases fl_cases P 1 with ⟨p, e⟩ | ⟨p, e⟩
  · rw [e]; exact hv.2 p
  · rw [e]; rcases h with h | h
    · exact h
    · exact absurd (hv.1 h) p
theorem fl_congr {P Q : Prop} [Decidable P] [Decidable Q] (n : Int) (h : P ↔ Q) : fl (decide P) n = fl (decide Q) n := by rw [bdec h]
end Go.Proofs.Ytpmmneipfmbmlaa.B
