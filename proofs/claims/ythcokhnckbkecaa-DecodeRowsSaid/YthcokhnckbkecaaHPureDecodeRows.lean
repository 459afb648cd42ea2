/- The pure side of DecodeRows: for any bytes the walk's function tells true. -/
import Derived.Test.YthcokhnckbkecaaHDecodex11
import Derived.Test.YthcokhnckbkecaaDecRows
namespace Go.Proofs.Ythcokhnckbkecaa.Pure
open Go.RowKit Go.Proofs.Ythcokhnckbkecaa.HDecode Go.Proofs.YthcokhnckbkecaaW.PrintWords Go.Proofs.YthcokhnckbkecaaW.PrintLast
theorem DecodeRows : pendulumlaw09_DecodeRows.Pure := by
  intro l0 a1 _ hm hw _
  refine ⟨1999 + 1, DecSpec.rows 1999 (Nat.le_refl _) l0 a1 (fun y hy => ?_) (by omega)⟩
  have h := hw y hy
  simp only [Lit.wf, Bool.and_eq_true, decide_eq_true_eq] at h
  have a : (IntKind.u8.min : Int) = 0 := by decide
  have b : (IntKind.u8.max : Int) = 255 := by decide
  omega
end Go.Proofs.Ythcokhnckbkecaa.Pure
