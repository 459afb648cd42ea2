/- Plain lemmas on bytes, words and their bits, as sums of quotients and remainders (no program in sight). -/
import Derived.Laws.BitsAllLaws
import Derived.OpenShut
import Derived.RowKit
import Derived.Test.YtpmmneipfmbmlaaDoorWMore
set_option linter.unusedVariables false
namespace Go.Proofs.YtpmmneipfmbmlaaDoor.B
open Go Go.RowKit

theorem w64 {x : Int} (h0 : -9223372036854775808 ≤ x) (h1 : x < 9223372036854775808) : wrap64 x = x := by
  unfold wrap64; omega
theorem wu8 (x : Int) : IntKind.u8.wrap x = x % 256 := IntKind.wrap_u8' x
theorem wu16 (x : Int) : IntKind.u16.wrap x = x % 65536 := IntKind.wrap_u16 x
theorem wu64 (x : Int) : IntKind.u64.wrap x = x % 18446744073709551616 := IntKind.wrap_u64 x
theorem wi8 (x : Int) : IntKind.i8.wrap x = (x + 128) % 256 - 128 := by
  simp only [IntKind.wrap, IntKind.bits, IntKind.signed]; simp; split <;> omega
theorem wi16 (x : Int) : IntKind.i16.wrap x = (x + 32768) % 65536 - 32768 := by
  simp only [IntKind.wrap, IntKind.bits, IntKind.signed]; simp; split <;> omega
theorem tm16 {x : Int} (h : 0 ≤ x) : Int.tmod x 16 = x % 16 := Int.tmod_eq_emod_of_nonneg h
theorem tm {x : Int} (m : Int) (h : 0 ≤ x) : Int.tmod x m = x % m := Int.tmod_eq_emod_of_nonneg h
theorem td {x : Int} (m : Int) (h : 0 ≤ x) : Int.tdiv x m = x / m := Int.tdiv_eq_ediv_of_nonneg h
theorem bnei (a b : Int) : (a != b) = decide (a ≠ b) := by
  by_cases h : a = b <;> simp [h]
theorem beqi (a b : Int) : (a == b) = decide (a = b) := by
  by_cases h : a = b <;> simp [h]

-- bytes: and with a mask
theorem and8 {P : Nat → Int → Prop} (m : Nat) (hm : m < 256) (h : ∀ n, n < 256 → P n (n &&& m : Nat)) {x : Int} (h0 : 0 ≤ x) (h1 : x < 256) : P x.toNat (bits .and .u8 x m) := by
  rw [u8_and x m h0 h1 (by omega) (by omega)]; exact h _ (by omega)
theorem and1_n : ∀ n : Nat, n < 256 → (n &&& 1 = n % 2) := by decide +kernel
theorem and2_n : ∀ n : Nat, n < 256 → (n &&& 2 = n / 2 % 2 * 2) := by decide +kernel
theorem and4_n : ∀ n : Nat, n < 256 → (n &&& 4 = n / 4 % 2 * 4) := by decide +kernel
theorem and7_n : ∀ n : Nat, n < 256 → (n &&& 7 = n % 8) := by decide +kernel
theorem and8_n : ∀ n : Nat, n < 256 → (n &&& 8 = n / 8 % 2 * 8) := by decide +kernel
theorem and15_n : ∀ n : Nat, n < 256 → (n &&& 15 = n % 16) := by decide +kernel
theorem and16_n : ∀ n : Nat, n < 256 → (n &&& 16 = n / 16 % 2 * 16) := by decide +kernel
theorem and18_n : ∀ n : Nat, n < 256 → (n &&& 18 = n / 16 % 2 * 16 + n / 2 % 2 * 2) := by decide +kernel
theorem and40_n : ∀ n : Nat, n < 256 → (n &&& 40 = n / 32 % 2 * 32 + n / 8 % 2 * 8) := by decide +kernel
theorem and64_n : ∀ n : Nat, n < 256 → (n &&& 64 = n / 64 % 2 * 64) := by decide +kernel
theorem and80_n : ∀ n : Nat, n < 256 → (n &&& 80 = n / 64 % 2 * 64 + n / 16 % 2 * 16) := by decide +kernel
theorem and128_n : ∀ n : Nat, n < 256 → (n &&& 128 = n / 128 * 128) := by decide +kernel
theorem and168_n : ∀ n : Nat, n < 256 → (n &&& 168 = n / 128 * 128 + n / 32 % 2 * 32 + n / 8 % 2 * 8) := by decide +kernel
theorem and193_n : ∀ n : Nat, n < 256 → (n &&& 193 = n / 64 * 64 + n % 2) := by decide +kernel
theorem and196_n : ∀ n : Nat, n < 256 → (n &&& 196 = n / 64 * 64 + n / 4 % 2 * 4) := by decide +kernel
theorem and197_n : ∀ n : Nat, n < 256 → (n &&& 197 = n / 64 * 64 + n / 4 % 2 * 4 + n % 2) := by decide +kernel
theorem and208_n : ∀ n : Nat, n < 256 → (n &&& 208 = n / 64 * 64 + n / 16 % 2 * 16) := by decide +kernel
theorem and240_n : ∀ n : Nat, n < 256 → (n &&& 240 = n / 16 * 16) := by decide +kernel
section
variable {x : Int} (h0 : 0 ≤ x) (h1 : x < 256)
include h0 h1
theorem and1 : bits .and .u8 x 1 = x % 2 := by
  rw [u8_and x 1 h0 h1 (by omega) (by omega)]; have := and1_n x.toNat (by omega); simp only [show Int.toNat 1 = 1 from rfl]; omega
theorem and2 : bits .and .u8 x 2 = x / 2 % 2 * 2 := by
  rw [u8_and x 2 h0 h1 (by omega) (by omega)]; have := and2_n x.toNat (by omega); simp only [show Int.toNat 2 = 2 from rfl]; omega
theorem and4 : bits .and .u8 x 4 = x / 4 % 2 * 4 := by
  rw [u8_and x 4 h0 h1 (by omega) (by omega)]; have := and4_n x.toNat (by omega); simp only [show Int.toNat 4 = 4 from rfl]; omega
theorem and7 : bits .and .u8 x 7 = x % 8 := by
  rw [u8_and x 7 h0 h1 (by omega) (by omega)]; have := and7_n x.toNat (by omega); simp only [show Int.toNat 7 = 7 from rfl]; omega
theorem and08 : bits .and .u8 x 8 = x / 8 % 2 * 8 := by
  rw [u8_and x 8 h0 h1 (by omega) (by omega)]; have := and8_n x.toNat (by omega); simp only [show Int.toNat 8 = 8 from rfl]; omega
theorem and15 : bits .and .u8 x 15 = x % 16 := by
  rw [u8_and x 15 h0 h1 (by omega) (by omega)]; have := and15_n x.toNat (by omega); simp only [show Int.toNat 15 = 15 from rfl]; omega
theorem and16 : bits .and .u8 x 16 = x / 16 % 2 * 16 := by
  rw [u8_and x 16 h0 h1 (by omega) (by omega)]; have := and16_n x.toNat (by omega); simp only [show Int.toNat 16 = 16 from rfl]; omega
theorem and18 : bits .and .u8 x 18 = x / 16 % 2 * 16 + x / 2 % 2 * 2 := by
  rw [u8_and x 18 h0 h1 (by omega) (by omega)]; have := and18_n x.toNat (by omega); simp only [show Int.toNat 18 = 18 from rfl]; omega
theorem and40 : bits .and .u8 x 40 = x / 32 % 2 * 32 + x / 8 % 2 * 8 := by
  rw [u8_and x 40 h0 h1 (by omega) (by omega)]; have := and40_n x.toNat (by omega); simp only [show Int.toNat 40 = 40 from rfl]; omega
theorem and64 : bits .and .u8 x 64 = x / 64 % 2 * 64 := by
  rw [u8_and x 64 h0 h1 (by omega) (by omega)]; have := and64_n x.toNat (by omega); simp only [show Int.toNat 64 = 64 from rfl]; omega
theorem and80 : bits .and .u8 x 80 = x / 64 % 2 * 64 + x / 16 % 2 * 16 := by
  rw [u8_and x 80 h0 h1 (by omega) (by omega)]; have := and80_n x.toNat (by omega); simp only [show Int.toNat 80 = 80 from rfl]; omega
theorem and128 : bits .and .u8 x 128 = x / 128 * 128 := by
  rw [u8_and x 128 h0 h1 (by omega) (by omega)]; have := and128_n x.toNat (by omega); simp only [show Int.toNat 128 = 128 from rfl]; omega
theorem and168 : bits .and .u8 x 168 = x / 128 * 128 + x / 32 % 2 * 32 + x / 8 % 2 * 8 := by
  rw [u8_and x 168 h0 h1 (by omega) (by omega)]; have := and168_n x.toNat (by omega); simp only [show Int.toNat 168 = 168 from rfl]; omega
theorem and193 : bits .and .u8 x 193 = x / 64 * 64 + x % 2 := by
  rw [u8_and x 193 h0 h1 (by omega) (by omega)]; have := and193_n x.toNat (by omega); simp only [show Int.toNat 193 = 193 from rfl]; omega
theorem and196 : bits .and .u8 x 196 = x / 64 * 64 + x / 4 % 2 * 4 := by
  rw [u8_and x 196 h0 h1 (by omega) (by omega)]; have := and196_n x.toNat (by omega); simp only [show Int.toNat 196 = 196 from rfl]; omega
theorem and197 : bits .and .u8 x 197 = x / 64 * 64 + x / 4 % 2 * 4 + x % 2 := by
  rw [u8_and x 197 h0 h1 (by omega) (by omega)]; have := and197_n x.toNat (by omega); simp only [show Int.toNat 197 = 197 from rfl]; omega
theorem and208 : bits .and .u8 x 208 = x / 64 * 64 + x / 16 % 2 * 16 := by
  rw [u8_and x 208 h0 h1 (by omega) (by omega)]; have := and208_n x.toNat (by omega); simp only [show Int.toNat 208 = 208 from rfl]; omega
theorem and240 : bits .and .u8 x 240 = x / 16 * 16 := by
  rw [u8_and x 240 h0 h1 (by omega) (by omega)]; have := and240_n x.toNat (by omega); simp only [show Int.toNat 240 = 240 from rfl]; omega
end
-- bytes: and not a mask: x less the bits
theorem andNot_n (n m : Nat) (hn : n < 256) (hm : m < 256) : n &&& (255 - m) = n - (n &&& m) := by
  have h : ∀ m : Fin 256, ∀ n : Fin 256, n.val &&& (255 - m.val) = n.val - (n.val &&& m.val) := by decide +kernel
  exact h ⟨m, hm⟩ ⟨n, hn⟩
theorem andNot8 {x y : Int} (h0 : 0 ≤ x) (h1 : x < 256) (h2 : 0 ≤ y) (h3 : y < 256) : bits .andNot .u8 x y = x - bits .and .u8 x y := by
  rw [u8_andNot x y h0 h1 h2 h3, u8_and x y h0 h1 h2 h3]
  have := andNot_n x.toNat y.toNat (by omega) (by omega)
  have hle : x.toNat &&& y.toNat ≤ x.toNat := Nat.and_le_left
  rw [show (255 - y.toNat) = 255 - y.toNat from rfl, this]; omega
theorem and_range (x y : Int) (h0 : 0 ≤ x) (h1 : x < 256) (h2 : 0 ≤ y) (h3 : y < 256) : 0 ≤ bits .and .u8 x y ∧ bits .and .u8 x y < 256 := by
  rw [u8_and x y h0 h1 h2 h3]
  have hle : x.toNat &&& y.toNat ≤ x.toNat := Nat.and_le_left
  omega
theorem or_range (x y : Int) (h0 : 0 ≤ x) (h1 : x < 256) (h2 : 0 ≤ y) (h3 : y < 256) : 0 ≤ bits .or .u8 x y ∧ bits .or .u8 x y < 256 := by
  rw [u8_or x y h0 h1 h2 h3]
  have hle : x.toNat ||| y.toNat < 2 ^ 8 := Nat.or_lt_two_pow (by omega) (by omega)
  omega
theorem xor_range (x y : Int) (h0 : 0 ≤ x) (h1 : x < 256) (h2 : 0 ≤ y) (h3 : y < 256) : 0 ≤ bits .xor .u8 x y ∧ bits .xor .u8 x y < 256 := by
  rw [u8_xor x y h0 h1 h2 h3]
  have hle : x.toNat ^^^ y.toNat < 2 ^ 8 := Nat.xor_lt_two_pow (by omega) (by omega)
  omega
-- bytes: or with one bit that is not set
theorem or_n (k : Nat) (hk : k < 8) (n : Nat) (hn : n < 256) (h : n / 2 ^ k % 2 = 0) : n ||| 2 ^ k = n + 2 ^ k := by
  have h' : ∀ k : Fin 8, ∀ n : Fin 256, n.val / 2 ^ k.val % 2 = 0 → n.val ||| 2 ^ k.val = n.val + 2 ^ k.val := by decide +kernel
  exact h' ⟨k, hk⟩ ⟨n, hn⟩ h
theorem or_bit (k : Nat) (hk : k < 8) {x y : Int} (h0 : 0 ≤ x) (h1 : x < 256) (h : y = 0 ∨ (y = (2 ^ k : Nat) ∧ x.toNat / 2 ^ k % 2 = 0)) : bits .or .u8 x y = x + y := by
  rcases h with rfl | ⟨rfl, h⟩
  · rw [u8_or x 0 h0 h1 (by omega) (by omega)]; simp; omega
  · have hp : 2 ^ k < 256 := by
      have : ∀ k : Fin 8, 2 ^ k.val < 256 := by decide
      exact this ⟨k, hk⟩
    rw [u8_or x _ h0 h1 (Int.natCast_nonneg _) (by omega), Int.toNat_natCast, or_n k hk _ (by omega) h]; omega
section
variable {x y : Int} (h0 : 0 ≤ x) (h1 : x < 256)
include h0 h1
theorem or1 (h2 : x % 2 = 0) (h : y = 0 ∨ y = 1) : bits .or .u8 x y = x + y := or_bit 0 (by decide) h0 h1 (h.elim .inl fun h => .inr ⟨by simpa using h, by simp; omega⟩)
theorem or2 (h2 : x / 2 % 2 = 0) (h : y = 0 ∨ y = 2) : bits .or .u8 x y = x + y := or_bit 1 (by decide) h0 h1 (h.elim .inl fun h => .inr ⟨by simpa using h, by simp; omega⟩)
theorem or4 (h2 : x / 4 % 2 = 0) (h : y = 0 ∨ y = 4) : bits .or .u8 x y = x + y := or_bit 2 (by decide) h0 h1 (h.elim .inl fun h => .inr ⟨by simpa using h, by simp; omega⟩)
theorem or8 (h2 : x / 8 % 2 = 0) (h : y = 0 ∨ y = 8) : bits .or .u8 x y = x + y := or_bit 3 (by decide) h0 h1 (h.elim .inl fun h => .inr ⟨by simpa using h, by simp; omega⟩)
theorem or16 (h2 : x / 16 % 2 = 0) (h : y = 0 ∨ y = 16) : bits .or .u8 x y = x + y := or_bit 4 (by decide) h0 h1 (h.elim .inl fun h => .inr ⟨by simpa using h, by simp; omega⟩)
theorem or32 (h2 : x / 32 % 2 = 0) (h : y = 0 ∨ y = 32) : bits .or .u8 x y = x + y := or_bit 5 (by decide) h0 h1 (h.elim .inl fun h => .inr ⟨by simpa using h, by simp; omega⟩)
theorem or64 (h2 : x / 64 % 2 = 0) (h : y = 0 ∨ y = 64) : bits .or .u8 x y = x + y := or_bit 6 (by decide) h0 h1 (h.elim .inl fun h => .inr ⟨by simpa using h, by simp; omega⟩)
theorem or128 (h2 : x / 128 % 2 = 0) (h : y = 0 ∨ y = 128) : bits .or .u8 x y = x + y := or_bit 7 (by decide) h0 h1 (h.elim .inl fun h => .inr ⟨by simpa using h, by simp; omega⟩)
end
-- a high half and a low half
theorem or_join8 {x y : Int} (h0 : 0 ≤ x) (h1 : x < 256) (h2 : x % 16 = 0) (h3 : 0 ≤ y) (h4 : y < 16) : bits .or .u8 x y = x + y := by
  rw [u8_or x y h0 h1 (by omega) (by omega), nat_join 4 _ _ (by simp; omega) (by simp; omega)]; omega
-- words
theorem and4095 {x : Int} (h0 : 0 ≤ x) (h1 : x < 65536) : bits .and .u16 x 4095 = x % 4096 := by
  rw [u16_and x 4095 h0 h1 (by omega) (by omega)]
  rw [show Int.toNat 4095 = 2 ^ 12 - 1 from rfl, Nat.and_two_pow_sub_one_eq_mod]; omega
theorem or_join16 {x y : Int} (h0 : 0 ≤ x) (h1 : x < 65536) (h2 : x % 256 = 0) (h3 : 0 ≤ y) (h4 : y < 256) : bits .or .u16 x y = x + y := by
  rw [u16_or x y h0 h1 (by omega) (by omega), nat_join 8 _ _ (by simp; omega) (by simp; omega)]; omega

/-- A byte's own flags: S, Y, X, Z. -/
def own (r : Int) : Int := r / 128 * 128 + r / 32 % 2 * 32 + r / 8 % 2 * 8 + (if r = 0 then 64 else 0)
theorem own_range {r : Int} (h0 : 0 ≤ r) (h1 : r < 256) : 0 ≤ own r ∧ own r < 256 := by unfold own; omega

section
variable {o c h p : Int} (h0 : 0 ≤ o) (h1 : o < 256) (ho : o % 8 = 0) (ho' : o / 16 % 2 = 0) (hc : c = 0 ∨ c = 1) (hh : h = 0 ∨ h = 16) (hp : p = 0 ∨ p = 4)
include h0 h1 ho ho' hc hh hp
theorem orAdd : bits .or .u8 (bits .or .u8 (bits .or .u8 o c) h) p = o + c + h + p := by
  have e1 : bits .or .u8 o c = o + c := or1 h0 h1 (by omega) hc
  have e2 : bits .or .u8 (o + c) h = o + c + h := or16 (by omega) (by omega) (by omega) hh
  rw [e1, e2]; exact or4 (by omega) (by omega) (by omega) hp
theorem orSub : bits .or .u8 (bits .or .u8 (bits .or .u8 (bits .or .u8 o 2) c) h) p = o + c + h + p + 2 := by
  have e0 : bits .or .u8 o 2 = o + 2 := or2 h0 h1 (by omega) (.inr rfl)
  have e1 : bits .or .u8 (o + 2) c = o + 2 + c := or1 (by omega) (by omega) (by omega) hc
  have e2 : bits .or .u8 (o + 2 + c) h = o + 2 + c + h := or16 (by omega) (by omega) (by omega) hh
  have e3 : bits .or .u8 (o + 2 + c + h) p = o + 2 + c + h + p := or4 (by omega) (by omega) (by omega) hp
  rw [e0, e1, e2, e3]; omega
theorem orSubR : bits .or .u8 (bits .or .u8 (bits .or .u8 (bits .or .u8 o c) h) p) 2 = o + c + h + p + 2 := by
  rw [orAdd h0 h1 ho ho' hc hh hp]; exact or2 (by omega) (by omega) (by omega) (.inr rfl)
end
/-- A flag's number, if something is so. -/
def fl (b : Bool) (n : Int) : Int := if b = true then n else 0
theorem fl_or (b : Bool) (n : Int) : fl b n = 0 ∨ fl b n = n := by cases b <;> simp [fl]
/-- A byte as a signed number. -/
def s8 (a : Int) : Int := (a + 128) % 256 - 128
def s16 (a : Int) : Int := (a + 32768) % 65536 - 32768
def addR (a b k : Int) : Int := (a + b + k) % 256
def addF (a b k : Int) : Int := own (addR a b k) + fl (decide (a + b + k > 255)) 1 + fl (decide (a % 16 + b % 16 + k > 15)) 16 + fl (decide (s8 a + s8 b + k < -128 ∨ s8 a + s8 b + k > 127)) 4
def subR (a b k : Int) : Int := (a - b - k) % 256
def subF (a b k : Int) : Int := own (subR a b k) + fl (decide (a - b - k < 0)) 1 + fl (decide (a % 16 - b % 16 - k < 0)) 16 + fl (decide (s8 a - s8 b - k < -128 ∨ s8 a - s8 b - k > 127)) 4 + 2
theorem own_form {r : Int} (h0 : 0 ≤ r) (h1 : r < 256) : own r % 8 = 0 ∧ own r / 16 % 2 = 0 ∧ own r / 64 % 2 = (if r = 0 then 1 else 0) ∧ own r / 128 = r / 128 ∧ own r / 32 % 2 = r / 32 % 2 ∧ own r / 8 % 2 = r / 8 % 2 := by
  have h : ∀ r : Fin 256, (own r.val % 8 = 0 ∧ own r.val / 16 % 2 = 0 ∧ own r.val / 64 % 2 = (if (r.val : Int) = 0 then 1 else 0) ∧ own r.val / 128 = (r.val : Int) / 128 ∧ own r.val / 32 % 2 = (r.val : Int) / 32 % 2 ∧ own r.val / 8 % 2 = (r.val : Int) / 8 % 2) := by decide +kernel
  have := h ⟨r.toNat, by omega⟩
  simpa [Int.toNat_of_nonneg h0] using this
theorem fl_cases (p : Prop) [Decidable p] (n : Int) : (p ∧ fl (decide p) n = n) ∨ (¬ p ∧ fl (decide p) n = 0) := by
  by_cases h : p
  · exact .inl ⟨h, by simp [fl, h]⟩
  · exact .inr ⟨h, by simp [fl, h]⟩
theorem bits_sum (s z y x c h p n F : Int) (s0 : s = 0 ∨ s = 1) (z0 : z = 0 ∨ z = 1) (y0 : y = 0 ∨ y = 1) (x0 : x = 0 ∨ x = 1) (c0 : c = 0 ∨ c = 1) (h0 : h = 0 ∨ h = 1) (p0 : p = 0 ∨ p = 1) (n0 : n = 0 ∨ n = 1)
    (hF : F = 128 * s + 64 * z + 32 * y + 8 * x + c + 16 * h + 4 * p + 2 * n) :
    0 ≤ F ∧ F < 256 ∧ F % 2 = c ∧ F / 2 % 2 = n ∧ F / 4 % 2 = p ∧ F / 16 % 2 = h ∧ F / 64 % 2 = z ∧ F / 128 = s ∧ F / 32 % 2 = y ∧ F / 8 % 2 = x := by
  subst hF
  refine ⟨?_, ?_, ?_, ?_, ?_, ?_, ?_, ?_, ?_, ?_⟩ <;> omega
theorem flags_parts (r n : Int) (P Q V : Prop) [Decidable P] [Decidable Q] [Decidable V] (hn : n = 0 ∨ n = 2) (hr : 0 ≤ r ∧ r < 256)
    (F : Int) (hF : F = own r + fl (decide P) 1 + fl (decide Q) 16 + fl (decide V) 4 + n) :
    0 ≤ F ∧ F < 256 ∧ (F % 2 = 1 ↔ P) ∧ F / 2 % 2 * 2 = n ∧ (F / 4 % 2 = 1 ↔ V) ∧ (F / 16 % 2 = 1 ↔ Q) ∧ (F / 64 % 2 = 1 ↔ r = 0) ∧ F / 128 = r / 128 ∧ F / 32 % 2 = r / 32 % 2 ∧ F / 8 % 2 = r / 8 % 2 := by
  have H := bits_sum (r / 128) (fl (decide (r = 0)) 1) (r / 32 % 2) (r / 8 % 2) (fl (decide P) 1) (fl (decide Q) 1) (fl (decide V) 1) (n / 2) F (by omega) (fl_or _ _) (by omega) (by omega) (fl_or _ _) (fl_or _ _) (fl_or _ _) (by omega) (by
    have e : ∀ (b : Bool) (m : Int), fl b m = m * fl b 1 := by intro b m; cases b <;> simp [fl]
    rw [hF, e _ 16, e _ 4]; unfold own
    have : (if r = 0 then (64 : Int) else 0) = 64 * fl (decide (r = 0)) 1 := by by_cases h : r = 0 <;> simp [fl, h]
    omega)
  obtain ⟨h1, h2, h3, h4, h5, h6, h7, h8, h9, h10⟩ := H
  have i : ∀ (p : Prop) [Decidable p], fl (decide p) 1 = 1 ↔ p := by intro p _; by_cases h : p <;> simp [fl, h]
  refine ⟨h1, h2, by rw [h3]; exact i _, by omega, by rw [h5]; exact i _, by rw [h6]; exact i _, by rw [h7]; exact i _, h8, h9, h10⟩
theorem addF_parts {a b k : Int} (a0 : 0 ≤ a) (a1 : a < 256) (b0 : 0 ≤ b) (b1 : b < 256) (k0 : k = 0 ∨ k = 1) :
    0 ≤ addF a b k ∧ addF a b k < 256 ∧ (addF a b k % 2 = 1 ↔ a + b + k > 255) ∧ addF a b k / 2 % 2 * 2 = 0 ∧
    (addF a b k / 4 % 2 = 1 ↔ (s8 a + s8 b + k < -128 ∨ s8 a + s8 b + k > 127)) ∧ (addF a b k / 16 % 2 = 1 ↔ a % 16 + b % 16 + k > 15) ∧
    (addF a b k / 64 % 2 = 1 ↔ addR a b k = 0) ∧ addF a b k / 128 = addR a b k / 128 ∧ addF a b k / 32 % 2 = addR a b k / 32 % 2 ∧ addF a b k / 8 % 2 = addR a b k / 8 % 2 := by
  have hr : 0 ≤ addR a b k ∧ addR a b k < 256 := by unfold addR; omega
  exact flags_parts (addR a b k) 0 _ _ _ (.inl rfl) hr _ (by unfold addF; omega)
theorem subF_parts {a b k : Int} (a0 : 0 ≤ a) (a1 : a < 256) (b0 : 0 ≤ b) (b1 : b < 256) (k0 : k = 0 ∨ k = 1) :
    0 ≤ subF a b k ∧ subF a b k < 256 ∧ (subF a b k % 2 = 1 ↔ a - b - k < 0) ∧ subF a b k / 2 % 2 * 2 = 2 ∧
    (subF a b k / 4 % 2 = 1 ↔ (s8 a - s8 b - k < -128 ∨ s8 a - s8 b - k > 127)) ∧ (subF a b k / 16 % 2 = 1 ↔ a % 16 - b % 16 - k < 0) ∧
    (subF a b k / 64 % 2 = 1 ↔ subR a b k = 0) ∧ subF a b k / 128 = subR a b k / 128 ∧ subF a b k / 32 % 2 = subR a b k / 32 % 2 ∧ subF a b k / 8 % 2 = subR a b k / 8 % 2 := by
  have hr : 0 ≤ subR a b k ∧ subR a b k < 256 := by unfold subR; omega
  exact flags_parts (subR a b k) 2 _ _ _ (.inr rfl) hr _ rfl
theorem not_bne {p q : Bool} (h : p = q) : ¬ ((p != q) = true) := by subst h; simp
theorem is_beq {p q : Bool} (h : p = q) : (p == q) = true := by subst h; simp
theorem nz1 {F : Int} {P : Prop} (h : F % 2 = 1 ↔ P) : F % 2 ≠ 0 ↔ P := by rw [← h]; omega
theorem nz4 {F : Int} {P : Prop} (h : F / 4 % 2 = 1 ↔ P) : F / 4 % 2 * 4 ≠ 0 ↔ P := by rw [← h]; omega
theorem nz16 {F : Int} {P : Prop} (h : F / 16 % 2 = 1 ↔ P) : F / 16 % 2 * 16 ≠ 0 ↔ P := by rw [← h]; omega
theorem nz64 {F : Int} {P : Prop} (h : F / 64 % 2 = 1 ↔ P) : F / 64 % 2 * 64 ≠ 0 ↔ P := by rw [← h]; omega
theorem bdec {p q : Prop} [Decidable p] [Decidable q] (h : p ↔ q) : decide p = decide q := decide_eq_decide.2 h
/-- Has a byte an even number of bits? -/
def par (r : Int) : Bool := (r % 2 + r / 2 % 2 + r / 4 % 2 + r / 8 % 2 + r / 16 % 2 + r / 32 % 2 + r / 64 % 2 + r / 128 % 2) % 2 == 0
/-- The flags of a byte that comes of logic: its own, and parity. -/
def logic (r : Int) : Int := bits .or .u8 (own r) (fl (par r) 4)
theorem all8 {P : Int → Prop} (h : ∀ r : Fin 256, P (r.val : Int)) (r : Int) (h0 : 0 ≤ r) (h1 : r < 256) : P r := by
  have := h ⟨r.toNat, by omega⟩
  rwa [show ((⟨r.toNat, by omega⟩ : Fin 256).val : Int) = r from Int.toNat_of_nonneg h0] at this
end Go.Proofs.YtpmmneipfmbmlaaDoor.B
