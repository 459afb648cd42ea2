/- AluNames' plain statement: the numbers and worked examples of chapter 5 come out as they are written (a closed computation). -/
import Derived.Test.YtpmmneipfmbmlaaHAluNamesx1
import Derived.Test.YtpmmneipfmbmlaaBits
set_option linter.unusedVariables false
set_option linter.unusedSimpArgs false
namespace Go.Proofs.Ytpmmneipfmbmlaa.Pure
open Go.RowKit Go.Proofs.Ytpmmneipfmbmlaa.HAluNames Go.Proofs.YtpmmneipfmbmlaaW.PrintWords Go.Proofs.YtpmmneipfmbmlaaW.PrintLast
open Go.Proofs.Ytpmmneipfmbmlaa
theorem AluNames : pendulumlaw05_AluNames.Pure := by
  first
  | exact (by decide +kernel : pendulumlaw05_AluNames.f = some true)
  | exact ⟨30, by decide +kernel⟩

end Go.Proofs.Ytpmmneipfmbmlaa.Pure
