/-
  PROVED: pendulumlaw11.StepHalts answers true.
-/
import Derived.ArgAppend
import Derived.Test.YtnelghpendfdmaaGreatDoorKLb
import Derived.Test.YtnelghpendfdmaaGreatDoorKLd
import Derived.Test.YtnelghpendfdmaaGreatDoorHKit
import Derived.Test.YtnelghpendfdmaaGreatDoorBits
namespace Go.Proofs.YtnelghpendfdmaaGreatDoor.KRow
open Go Go.RowKit Go.Proofs.YtnelghpendfdmaaGreatDoorW.PrintWords Go.Proofs.YtnelghpendfdmaaGreatDoorW.PrintLast Go.Proofs.YtnelghpendfdmaaGreatDoorW.PrintMore
open Go.Proofs.YtnelghpendfdmaaGreatDoor.HFun
set_option linter.unusedVariables false
set_option linter.unusedSimpArgs false
theorem reqsL_app (xs ys : List S56) : reqsL (xs ++ ys) = reqsL xs ++ reqsL ys := List.flatMap_append
theorem k56_range {V : World} {g n : Nat} {xs : List S56} (h : k56.C V (some ⟨g, 0, none⟩) n xs) (i : Nat) {x : S56} (hx : xs[i]? = some x) : V.rangeAt g (i * 4) (s56c x).toList := fun j v hj => by
  have hn : 0 < n := by
    have h1 := h.1
    have := (List.getElem?_eq_some_iff.1 hx).1
    omega
  obtain ⟨ad, e, hc⟩ := h.2.2 hn
  cases e
  obtain ⟨c, hl, hK, hcell⟩ := hc i x hx
  have hc0 := k56_open hK
  subst hc0
  have hz : (⟨g, 0, none⟩ : Addr).add (i * 4 + j) = ⟨g, i * 4 + j, none⟩ := by
    by_cases h0 : i * 4 + j = 0
    · rw [h0]; rfl
    · simp [Addr.add]
      omega
  rw [← hz]
  exact hcell j v (by simpa [s56c, reqC] using hj)
theorem k56_ld {V : World} {g n : Nat} {xs : List S56} (h : k56.C V (some ⟨g, 0, none⟩) n xs) (i : Nat) {x : S56} (hx : xs[i]? = some x) {ev : Operand → Value} {op : Oper} {y : Operand} (ho : op.op = .load 56 y) (he : ev y = .pointer (some ⟨g, i * 4, none⟩)) :
    (execOp ev op).run Tryz.prog V = .ok (.value (.agg (reqC x.f0 x.f1 x.f2 x.f3))) V := by
  have := run_loadAt_mid (P := Tryz.prog) V g (i * 4) 56 (s56c x).toList _ (k56_range h i hx) Tryz.underlying56 rfl info56
  unfold execOp
  simp only [ho, he, this, Sem.run_bind, Sem.run_pure, Result.andThen_ok]
  rfl
theorem lcheck8_bad (ρ : Rg) (W : World) (hc : (decide (ρ.im < 0) || decide (ρ.im > 2)) = true) : Calls Tryz.prog 12 #[.agg ρ.vals] W fun e V => e = .returned (.int .i64 2) ∧ Below W.heap.size W V := (lcheck8 ρ W true hc).mono fun e V h => h
theorem lcheck8_ok (ρ : Rg) (W : World) (hc : (decide (ρ.im < 0) || decide (ρ.im > 2)) = false) : Calls Tryz.prog 12 #[.agg ρ.vals] W fun e V => e = .returned (.int .i64 0) ∧ Below W.heap.size W V := (lcheck8 ρ W false hc).mono fun e V h => h
end Go.Proofs.YtnelghpendfdmaaGreatDoor.KRow
