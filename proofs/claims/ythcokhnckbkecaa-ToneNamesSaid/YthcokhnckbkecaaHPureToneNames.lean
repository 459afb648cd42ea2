/- The pure side of ToneNames: the chapter's examples, reckoned. -/
import Derived.Test.YthcokhnckbkecaaHTonex5
namespace Go.Proofs.Ythcokhnckbkecaa.Pure
open Go.RowKit Go.Proofs.Ythcokhnckbkecaa.HTone Go.Proofs.YthcokhnckbkecaaW.PrintWords Go.Proofs.YthcokhnckbkecaaW.PrintLast
theorem ToneNames : pendulumlaw31_ToneNames.Pure := ⟨16, by decide +kernel⟩
end Go.Proofs.Ythcokhnckbkecaa.Pure
