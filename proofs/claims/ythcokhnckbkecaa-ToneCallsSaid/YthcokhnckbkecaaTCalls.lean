/- What is heard is what the document says: a plain law. -/
import Derived.Test.YthcokhnckbkecaaTSpec
import Derived.Test.YthcokhnckbkecaaHTonex12
set_option linter.unusedVariables false
set_option linter.unusedSimpArgs false
namespace Go.Proofs.Ythcokhnckbkecaa.TSpec
open Go Go.RowKit Go.Proofs.Ythcokhnckbkecaa.HTone Go.Proofs.YthcokhnckbkecaaW.PrintWords Go.Proofs.YthcokhnckbkecaaW.PrintLast
theorem calls (l0 : List S28) (a1 a2 a3 : Int) (l4 l5 : List Int) (h3 : -9223372036854775808 ≤ a3 ∧ a3 ≤ 9223372036854775807) (K : Nat) (hK : 2000000 ≤ K) : pendulumlaw31_ToneCalls.f (K + 1) l0 a1 a2 a3 l4 l5 = some true := by
  have jt : pendulumlaw31_ToneCalls.j0 (K + 1) l0 a1 a2 a3 l4 l5 true = some true := by rw [pendulumlaw31_ToneCalls.j0, if_pos rfl]
  unfold pendulumlaw31_ToneCalls.f
  rw [lives_true (K + 1) (by omega)]
  simp only [Option.bind_some, if_true]
  by_cases g0 : (l0.length : Int) > 300
  · rw [if_pos g0, jt]
  by_cases g4 : (l4.length : Int) > 300
  · rw [if_neg g0, if_pos g4, jt]
  by_cases g5 : (l5.length : Int) > 300
  · rw [if_neg g0, if_neg g4, if_pos g5, jt]
  rw [if_neg g0, if_neg g4, if_neg g5]
  have jf : pendulumlaw31_ToneCalls.j0 (K + 1) l0 a1 a2 a3 l4 l5 false = some true := by
    rw [pendulumlaw31_ToneCalls.j0, if_neg (by decide), heard1, heard2 l0 a1 K (by omega), samples1, samples2 l0 a2 a3 K (by omega) (by omega), loud1 l4 (by omega), loud2 l4 (by omega) K (by omega)]
    have hsl : (sampR l0 a2 a3).1.length ≤ 1048576 := by
      unfold sampR
      repeat' split
      all_goals first | (simp; done) | skip
      rw [sl_len]
      omega
    simp only [Option.bind_some]
    rw [if_pos trivial, if_pos trivial, ints1 _ _ (by omega) K (by omega)]
    simp only [Option.bind_some, decide_true, if_true]
    rw [same1 l4 l5 (by omega) K (by omega), ints1 l4 l5 (by omega) K (by omega)]
    simp only [Option.bind_some, beq_self_eq_true, if_true]
    rw [turns1 l4 (by omega) K (by omega), turns2 l4 (by omega) K (by omega)]
    simp only [Option.bind_some, if_true]
    rw [show tone_Volume.f (Int.tmod a1 100) = some (vol (Int.tmod a1 100)) from rfl, show pendulumref31_Volume.f (Int.tmod a1 100) = some (volR (Int.tmod a1 100)) from rfl, volEq]
    simp
  by_cases g2 : a2 > 0
  · rw [if_pos g2, if_neg (by omega)]
    by_cases gq : wrap64 (Int.tdiv a3 a2) > 300
    · rw [if_pos gq]
      by_cases gr : wrap64 (Int.tdiv a3 a2) < 1048576
      · rw [decide_eq_true gr, jt]
      · rw [decide_eq_false gr, jf]
    · rw [if_neg gq, jf]
  · rw [if_neg g2, jf]
end Go.Proofs.Ythcokhnckbkecaa.TSpec
