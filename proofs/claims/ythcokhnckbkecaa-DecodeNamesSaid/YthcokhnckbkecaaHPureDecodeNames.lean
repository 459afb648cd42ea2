/- The pure side of DecodeNames: the chapter's examples, reckoned. -/
import Derived.Test.YthcokhnckbkecaaHDecodex13
namespace Go.Proofs.Ythcokhnckbkecaa.Pure
open Go.RowKit Go.Proofs.Ythcokhnckbkecaa.HDecode Go.Proofs.YthcokhnckbkecaaW.PrintWords Go.Proofs.YthcokhnckbkecaaW.PrintLast
theorem DecodeNames : pendulumlaw09_DecodeNames.Pure := ⟨12, by decide +kernel⟩
end Go.Proofs.Ythcokhnckbkecaa.Pure
