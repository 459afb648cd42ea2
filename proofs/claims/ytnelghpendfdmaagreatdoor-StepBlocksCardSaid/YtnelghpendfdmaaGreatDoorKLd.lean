/-
  PROVED: struct equality; the contracts of pendulumref08.Check and Refresh, step.May, pendulumkit.Reqs.
-/
import Derived.Test.YtnelghpendfdmaaGreatDoorKLc
import Derived.Test.YtnelghpendfdmaaGreatDoorKPm
namespace Go.Proofs.YtnelghpendfdmaaGreatDoor.KRow
open Go Go.RowKit Go.Proofs.YtnelghpendfdmaaGreatDoorW.PrintWords Go.Proofs.YtnelghpendfdmaaGreatDoorW.PrintLast Go.Proofs.YtnelghpendfdmaaGreatDoorW.PrintMore
open Go.Proofs.YtnelghpendfdmaaGreatDoor.HFun
set_option linter.unusedVariables false
set_option linter.unusedSimpArgs false
set_option maxHeartbeats 4000000 in
set_option maxRecDepth 100000 in
theorem run_ne56 (k a v t : Int) (ev : Operand → Value) (o : Oper) (x y : Operand) (ho : o.op = .binOp .neq 56 x y 56) (hx : ev x = .agg (reqC k a v t)) (hy : ev y = .agg (reqC k a v t)) (V : World) : (execOp ev o).run Tryz.prog V = .ok (.value (.bool false)) V := by
  unfold execOp
  simp only [ho, hx, hy]
  simp [go_sem, reqC]
set_option maxHeartbeats 4000000 in
set_option maxRecDepth 100000 in
theorem run_eq24 (ρ : Rg) (ev : Operand → Value) (o : Oper) (x y : Operand) (ho : o.op = .binOp .eql 24 x y 24) (hx : ev x = .agg (ρ.vals)) (hy : ev y = .agg (ρ.vals)) (V : World) : (execOp ev o).run Tryz.prog V = .ok (.value (.bool true)) V := by
  unfold execOp
  simp only [ho, hx, hy]
  simp [go_sem, Rg.vals]
theorem wpList_val' {ops : Array Oper} {rest : List Oper} {op : Oper} {a : Act} {Q : Exit → Act → World → Prop} {V : World} (hgd : op.guard = none) (v : Value) (hb : (execOp a.eval op).run Tryz.prog V = .ok (.value v) V)
    (k : wpList Tryz.prog ops Q rest (a.put op.dst v) V) : wpList Tryz.prog ops Q (op :: rest) a V := by
  refine wpList_plain hgd fun _ hK => ?_
  unfold Oper.wp
  simp only [hb]
  exact hK _ _ k
theorem gate_bin' (b : BinOp) (ty : TypeId) {P : Program} {ops : Array Oper} {Q : Exit → Act → World → Prop} {W : World} {rest : List Oper} {d x y ty' t p af gd a} (h : wpList P ops Q ({ dst := d, op := .binOp b ty x y ty', type := t, pos := p, after := af, guard := gd } :: rest) a W) : wpList P ops Q ({ dst := d, op := .binOp b ty x y ty', type := t, pos := p, after := af, guard := gd } :: rest) a W := h
set_option maxHeartbeats 16000000 in
set_option maxRecDepth 100000 in
theorem lcheck8 (ρ : Rg) (W : World) (c1 : Bool) (hc : (decide (ρ.im < 0) || decide (ρ.im > 2)) = c1) :
    Calls Tryz.prog 12 #[.agg ρ.vals] W fun e V => e = .returned (.int .i64 (if c1 = true then 2 else 0)) ∧ Below W.heap.size W V := by
  have hE := Aside0.mk (Env.nil W)
  by_cases h1 : ρ.im < 0
  · have d1 : decide (ρ.im < 0) = true := decide_eq_true h1
    have d2 : c1 = true := by rw [← hc, d1]; rfl
    subst d2
    clear hc h1
    go_enter Tryz.func12, Tryz.ntmps12
    go_upto_region 1 with (first | ((with_reducible refine gate_box 24 ?_); refine wpList_new hE.out rfl (Rg.vals _) 24 rfl ?_; intro V g hE'; replace hE := Aside0.mk hE'; clear hE'))
    have q0_21 := (hE.out.at_ 0 _ _ rfl).2.cell 21 _ rfl
    go_wp2_with fail
    go_ret
    exact ⟨rfl, hE.out.b⟩
  · have d1 : decide (ρ.im < 0) = false := decide_eq_false h1
    rw [d1, Bool.false_or] at hc
    clear h1
    go_enter Tryz.func12, Tryz.ntmps12
    go_upto_region 1 with (first | ((with_reducible refine gate_box 24 ?_); refine wpList_new hE.out rfl (Rg.vals _) 24 rfl ?_; intro V g hE'; replace hE := Aside0.mk hE'; clear hE'))
    have q0_21 := (hE.out.at_ 0 _ _ rfl).2.cell 21 _ rfl
    cases c1
    · have hc' : decide (2 < ρ.im) = false := hc
      clear hc
      go_wp2_with fail
      go_ret
      exact ⟨rfl, hE.out.b⟩
    · have hc' : decide (2 < ρ.im) = true := hc
      clear hc
      go_wp2_with fail
      go_ret
      exact ⟨rfl, hE.out.b⟩
end Go.Proofs.YtnelghpendfdmaaGreatDoor.KRow
