/- ShiftNames' plain statement: the examples of chapter 6 come out as it tells (a closed computation). -/
import Derived.Test.YtpmmneipfmbmlaaHShiftNamesx2
import Derived.Test.YtpmmneipfmbmlaaBits
set_option linter.unusedVariables false
set_option linter.unusedSimpArgs false
namespace Go.Proofs.Ytpmmneipfmbmlaa.Pure
open Go.RowKit Go.Proofs.Ytpmmneipfmbmlaa.HShiftNames Go.Proofs.YtpmmneipfmbmlaaW.PrintWords Go.Proofs.YtpmmneipfmbmlaaW.PrintLast
open Go.Proofs.Ytpmmneipfmbmlaa
theorem ShiftNames : pendulumlaw06_ShiftNames.Pure := by
  first
  | exact (by decide +kernel : pendulumlaw06_ShiftNames.f = some true)
  | exact ⟨30, by decide +kernel⟩

end Go.Proofs.Ytpmmneipfmbmlaa.Pure
