/- The pure side of ToneTurns. -/
import Derived.Test.YthcokhnckbkecaaHTonex6
import Derived.Test.YthcokhnckbkecaaTTurns
namespace Go.Proofs.Ythcokhnckbkecaa.Pure
open Go.RowKit Go.Proofs.Ythcokhnckbkecaa.HTone Go.Proofs.YthcokhnckbkecaaW.PrintWords Go.Proofs.YthcokhnckbkecaaW.PrintLast
theorem ToneTurns : pendulumlaw31_ToneTurns.Pure := fun l0 _ _ _ => ⟨3000, TTurn.turnsLaw l0 3000 (Nat.le_refl _)⟩
end Go.Proofs.Ythcokhnckbkecaa.Pure
