/- Plain lemmas on bytes, words and their bits, as sums of quotients and remainders (no program in sight). -/
import Derived.Laws.BitsAllLaws
import Derived.OpenShut
import Derived.RowKit
import Derived.Test.YtnelghpendfdmaaGreatDoorWMore
set_option linter.unusedVariables false
namespace Go.Proofs.YtnelghpendfdmaaGreatDoor.B
open Go Go.RowKit

theorem w64 {x : Int} (h0 : -9223372036854775808 ≤ x) (h1 : x < 9223372036854775808) : wrap64 x = x := by
  unfold wrap64; omega
theorem wu16 (x : Int) : IntKind.u16.wrap x = x % 65536 := IntKind.wrap_u16 x
-- bytes: and with a mask
section
variable {x : Int} (h0 : 0 ≤ x) (h1 : x < 256)
include h0 h1
end
-- bytes: and not a mask: x less the bits
-- bytes: or with one bit that is not set
section
variable {x y : Int} (h0 : 0 ≤ x) (h1 : x < 256)
include h0 h1
end
-- a high half and a low half
-- words
/-- A byte's own flags: S, Y, X, Z. -/
def own (r : Int) : Int := r / 128 * 128 + r / 32 % 2 * 32 + r / 8 % 2 * 8 + (if r = 0 then 64 else 0)
section
variable {o c h p : Int} (h0 : 0 ≤ o) (h1 : o < 256) (ho : o % 8 = 0) (ho' : o / 16 % 2 = 0) (hc : c = 0 ∨ c = 1) (hh : h = 0 ∨ h = 16) (hp : p = 0 ∨ p = 4)
include h0 h1 ho ho' hc hh hp
end
end Go.Proofs.YtnelghpendfdmaaGreatDoor.B
