/- Plain lemmas on bytes, words and their bits, as sums of quotients and remainders (no program in sight). -/
import Derived.Laws.BitsAllLaws
import Derived.OpenShut
import Derived.Test.YtnelghpendfdmaaGreatDoorWMore
set_option linter.unusedVariables false
namespace Go.Proofs.YtnelghpendfdmaaGreatDoor.B
open Go Go.RowKit

theorem w64 {x : Int} (h0 : -9223372036854775808 ≤ x) (h1 : x < 9223372036854775808) : wrap64 x = x :=by
 unfold wrap64;omega
theorem wu16 (x : Int) : IntKind.u16.wrap x = x % 65536 :=IntKind.wrap_u16 x
-- bytes: and with a mask
section
variable {x : Int} (h0 : 0 ≤ x) (h1 : x < 256)
include h0 h1
end
-- bytes: and not a mask: x less the bits
-- bytes: or with one bit that is not set
section
variable {x y : Int} (h0 : 0 ≤ x) (h1 : x < 256)
include h0 h1
end
-- a high half and a low half
-- words
/-- A byte's own flags: S, Y, X, Z. -/
def own (r : Int) : Int :=r / 128 * 128 + r / 32 % 2 * 32 + r / 8 % 2 * 8 + (if r = 0 then 64 else 0)
section
variable {o c h p : Int} (h0 : 0 ≤ o) (h1 : o < 256) (ho : o % 8 = 0) (ho' : o / 16 % 2 = 0) (hc : c = 0 ∨ c = 1) (hh : h = 0 ∨ h = 16) (hp : p = 0 ∨ p = 4)
include h0 h1 ho ho' hc hh hp
end
end Go.Proofs.YtnelghpendfdmaaGreatDoor.B
/- Plain lemmas on shifts and rotations of bytes (no program in sight). -/
set_option linter.unusedVariables false
namespace Go.Proofs.YtnelghpendfdmaaGreatDoor.B
open Go Go.RowKit
theorem and_i64 (m j : Nat) (hj : j ≤ 8) (hm : m = 2 ^ j - 1) (x : Int) : bits .and .i64 x (m : Int) = x % (2 ^ j : Nat) :=by
 have hm' : m < 256 :=by
  subst hm
  have : ∀ j : Fin 9,2 ^ j.val - 1 < 256 :=by decide
  exact this ⟨j,by omega⟩
 have e : (BitVec.ofInt 64 (m : Int)).toNat = m :=by simp;omega
 have d : (x % (2 ^ 64 : Int)).toNat % 2 ^ j = (x % (2 ^ j : Nat)).toNat :=by
  have h64 : (2 : Int) ^ 64 = (2 ^ j : Nat) * (2 ^ (64 - j) : Nat) :=by
   rw [← Int.natCast_mul,← Nat.pow_add,show j + (64 - j) = 64 by omega];rfl
  have n0 : 0 ≤ x % (2 ^ 64 : Int) :=Int.emod_nonneg _ (by decide)
  have p0 : (0 : Int) < (2 ^ j : Nat) :=by have :=Nat.two_pow_pos j;omega
  have q : (((x % (2 ^ 64 : Int)).toNat % 2 ^ j : Nat) : Int) = x % (2 ^ j : Nat) :=by
   rw [Int.natCast_emod,Int.toNat_of_nonneg n0,h64];exact Int.emod_emod_of_dvd x (Int.dvd_mul_right _ _)
  omega
 have p0 : (0 : Int) < (2 ^ j : Nat) :=by have :=Nat.two_pow_pos j;omega
 have u0 :=Int.emod_nonneg x (show ((2 ^ j : Nat) : Int) ≠ 0 by omega)
 have u1 :=Int.emod_lt_of_pos x p0
 have pj : 2 ^ j ≤ 256 :=by
  have : ∀ j : Fin 9,2 ^ j.val ≤ 256 :=by decide
  exact this ⟨j,by omega⟩
 change IntKind.i64.wrap (((BitVec.ofInt 64 x &&& BitVec.ofInt 64 (m : Int)).toNat : Nat) : Int) = _
 rw [BitVec.toNat_and,e,BitVec.toNat_ofInt]
 rw [hm,Nat.and_two_pow_sub_one_eq_mod,show ((2 ^ 64 : Nat) : Int) = (2 ^ 64 : Int) from rfl,d,Int.toNat_of_nonneg u0]
 rw [IntKind.wrap_i64];omega
theorem i64_7 (x : Int) : bits .and .i64 x 7 = x % 8 :=and_i64 7 3 (by decide) rfl x
theorem i64_3 (x : Int) : bits .and .i64 x 3 = x % 4 :=and_i64 3 2 (by decide) rfl x
end Go.Proofs.YtnelghpendfdmaaGreatDoor.B
