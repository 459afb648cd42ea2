/- WideNames' plain statement: the examples of chapter 7 come out as it tells (a closed computation). -/
import Derived.Test.YtpmmneipfmbmlaaPWideNamesx1
import Derived.Test.YtpmmneipfmbmlaaBits
set_option linter.unusedVariables false
set_option linter.unusedSimpArgs false
namespace Go.Proofs.Ytpmmneipfmbmlaa.Pure
open Go.RowKit Go.Proofs.Ytpmmneipfmbmlaa.PWideNames Go.Proofs.YtpmmneipfmbmlaaW.PrintWords Go.Proofs.YtpmmneipfmbmlaaW.PrintLast
open Go.Proofs.Ytpmmneipfmbmlaa
theorem WideNames : pendulumlaw07_WideNames.Pure := by
  first
  | exact (by decide +kernel : pendulumlaw07_WideNames.f = some true)
  | exact ⟨30, by decide +kernel⟩

end Go.Proofs.Ytpmmneipfmbmlaa.Pure
