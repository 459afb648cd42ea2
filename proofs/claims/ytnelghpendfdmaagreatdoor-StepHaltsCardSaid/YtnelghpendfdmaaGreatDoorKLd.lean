/-
  PROVED: struct equality; the contracts of pendulumref08.Check and Refresh, step.May, pendulumkit.Reqs.
-/
import Derived.Test.YtnelghpendfdmaaGreatDoorKLc
import Derived.Test.YtnelghpendfdmaaGreatDoorKPm
namespace Go.Proofs.YtnelghpendfdmaaGreatDoor.KRow
open Go Go.RowKit Go.Proofs.YtnelghpendfdmaaGreatDoorW.PrintWords Go.Proofs.YtnelghpendfdmaaGreatDoorW.PrintLast Go.Proofs.YtnelghpendfdmaaGreatDoorW.PrintMore
open Go.Proofs.YtnelghpendfdmaaGreatDoor.HFun
set_option linter.unusedVariables false
set_option linter.unusedSimpArgs false
set_option maxHeartbeats 4000000 in
set_option maxRecDepth 100000 in
theorem run_ne56 (k a v t : Int) (ev : Operand → Value) (o : Oper) (x y : Operand) (ho : o.op = .binOp .neq 56 x y 56) (hx : ev x = .agg (reqC k a v t)) (hy : ev y = .agg (reqC k a v t)) (V : World) : (execOp ev o).run Tryz.prog V = .ok (.value (.bool false)) V := by
  unfold execOp
  simp only [ho, hx, hy]
  simp [go_sem, reqC]
set_option maxHeartbeats 4000000 in
set_option maxRecDepth 100000 in
theorem run_ne24 (ρ : Rg) (ev : Operand → Value) (o : Oper) (x y : Operand) (ho : o.op = .binOp .neq 24 x y 24) (hx : ev x = .agg (ρ.vals)) (hy : ev y = .agg (ρ.vals)) (V : World) : (execOp ev o).run Tryz.prog V = .ok (.value (.bool false)) V := by
  unfold execOp
  simp only [ho, hx, hy]
  simp [go_sem, Rg.vals]
theorem wpList_val' {ops : Array Oper} {rest : List Oper} {op : Oper} {a : Act} {Q : Exit → Act → World → Prop} {V : World} (hgd : op.guard = none) (v : Value) (hb : (execOp a.eval op).run Tryz.prog V = .ok (.value v) V)
    (k : wpList Tryz.prog ops Q rest (a.put op.dst v) V) : wpList Tryz.prog ops Q (op :: rest) a V := by
  refine wpList_plain hgd fun _ hK => ?_
  unfold Oper.wp
  simp only [hb]
  exact hK _ _ k
theorem gate_bin' (b : BinOp) (ty : TypeId) {P : Program} {ops : Array Oper} {Q : Exit → Act → World → Prop} {W : World} {rest : List Oper} {d x y ty' t p af gd a} (h : wpList P ops Q ({ dst := d, op := .binOp b ty x y ty', type := t, pos := p, after := af, guard := gd } :: rest) a W) : wpList P ops Q ({ dst := d, op := .binOp b ty x y ty', type := t, pos := p, after := af, guard := gd } :: rest) a W := h
set_option maxHeartbeats 16000000 in
set_option maxRecDepth 100000 in
theorem lcheck8 (ρ : Rg) (W : World) (c1 : Bool) (hc : (decide (ρ.im < 0) || decide (ρ.im > 2)) = c1) :
    Calls Tryz.prog 12 #[.agg ρ.vals] W fun e V => e = .returned (.int .i64 (if c1 = true then 2 else 0)) ∧ Below W.heap.size W V := by
  have hE := Aside0.mk (Env.nil W)
  by_cases h1 : ρ.im < 0
  · have d1 : decide (ρ.im < 0) = true := decide_eq_true h1
    have d2 : c1 = true := by rw [← hc, d1]; rfl
    subst d2
    clear hc h1
    go_enter Tryz.func12, Tryz.ntmps12
    go_upto_region 1 with (first | ((with_reducible refine gate_box 24 ?_); refine wpList_new hE.out rfl (Rg.vals _) 24 rfl ?_; intro V g hE'; replace hE := Aside0.mk hE'; clear hE'))
    have q0_21 := (hE.out.at_ 0 _ _ rfl).2.cell 21 _ rfl
    go_wp2_with fail
    go_ret
    exact ⟨rfl, hE.out.b⟩
  · have d1 : decide (ρ.im < 0) = false := decide_eq_false h1
    rw [d1, Bool.false_or] at hc
    clear h1
    go_enter Tryz.func12, Tryz.ntmps12
    go_upto_region 1 with (first | ((with_reducible refine gate_box 24 ?_); refine wpList_new hE.out rfl (Rg.vals _) 24 rfl ?_; intro V g hE'; replace hE := Aside0.mk hE'; clear hE'))
    have q0_21 := (hE.out.at_ 0 _ _ rfl).2.cell 21 _ rfl
    cases c1
    · have hc' : decide (2 < ρ.im) = false := hc
      clear hc
      go_wp2_with fail
      go_ret
      exact ⟨rfl, hE.out.b⟩
    · have hc' : decide (2 < ρ.im) = true := hc
      clear hc
      go_wp2_with fail
      go_ret
      exact ⟨rfl, hE.out.b⟩
def Rg.ref8 (ρ : Rg) : Rg := { ρ with r := ρ.r / 128 % 256 * 128 % 256 + (ρ.r + 1) % 128 }
set_option maxHeartbeats 16000000 in
set_option maxRecDepth 100000 in
theorem lrefresh8 (ρ : Rg) (h0 : 0 ≤ ρ.r) (h1 : ρ.r < 256) (W : World) :
    Calls Tryz.prog 33 #[.agg ρ.vals] W fun e V => e = .returned (.agg ρ.ref8.vals) ∧ Below W.heap.size W V := by
  have hE := Aside0.mk (Env.nil W)
  have ht1 : Int.tdiv ρ.r 128 = ρ.r / 128 := Int.tdiv_eq_ediv_of_nonneg h0
  have ht2 : Int.tmod ρ.r 128 = ρ.r % 128 := Int.tmod_eq_emod_of_nonneg h0
  replace h0 := Aside0.mk h0
  replace h1 := Aside0.mk h1
  go_enter Tryz.func33, Tryz.ntmps33
  go_upto_region 1 with (first | ((with_reducible refine gate_box 24 ?_); refine wpList_new hE.out rfl (Rg.vals _) 24 rfl ?_; intro V g hE'; replace hE := Aside0.mk hE'; clear hE') | ((with_reducible refine gate_alloc 24 ?_); refine wpList_new hE.out rfl (zeroRg.vals) 24 (by kernel_rfl) ?_; intro V g hE'; replace hE := Aside0.mk hE'; clear hE'))
  have q1_9 := (hE.out.at_ 1 _ _ rfl).2.cell 9 _ rfl
  go_upto_region 2 with (first | ((with_reducible refine gate_load 24 ?_); (try refine gate_guard (by rfl) ?_); (first | refine wpList_ld hE.out rfl 0 rfl 24 _ rfl rfl (ld24 _ _) ?_ | refine wpList_ld hE.out rfl 1 rfl 24 _ rfl rfl (ld24 _ _) ?_)) | ((with_reducible refine gate_store 24 ?_); (first | refine wpList_st hE.out rfl 0 rfl 24 _ _ rfl _ rfl rfl rfl (by kernel_rfl) (vals_one _) ?_ | refine wpList_st hE.out rfl 1 rfl 24 _ _ rfl _ rfl rfl rfl (by kernel_rfl) (vals_one _) ?_); intro V hE'; (try dsimp only [List.set_cons_zero, List.set_cons_succ] at hE'); replace hE := Aside0.mk hE'; clear hE') | ((with_reducible refine gate_store 5 ?_); (first | refine wpList_st1 hE.out rfl 0 rfl 5 _ _ rfl _ _ rfl rfl (by kernel_rfl) rfl rfl (by simp [Rg.vals]) ?_ | refine wpList_st1 hE.out rfl 1 rfl 5 _ _ rfl _ _ rfl rfl (by kernel_rfl) rfl rfl (by simp [Rg.vals]) ?_); intro V hE'; (try dsimp only [List.set_cons_zero, List.set_cons_succ] at hE'); replace hE := Aside0.mk hE'; clear hE'))
  replace hE : Aside0 (Env W _ [(_, zeroRg.vals), (_, ρ.ref8.vals)]) := ⟨hE.out⟩
  go_wp2_with (first | ((with_reducible refine gate_load 24 ?_); (try refine gate_guard (by rfl) ?_); (first | refine wpList_ld hE.out rfl 0 rfl 24 _ rfl rfl (ld24 _ _) ?_ | refine wpList_ld hE.out rfl 1 rfl 24 _ rfl rfl (ld24 _ _) ?_)) | ((with_reducible refine gate_store 24 ?_); (first | refine wpList_st hE.out rfl 0 rfl 24 _ _ rfl _ rfl rfl rfl (by kernel_rfl) (vals_one _) ?_ | refine wpList_st hE.out rfl 1 rfl 24 _ _ rfl _ rfl rfl rfl (by kernel_rfl) (vals_one _) ?_); intro V hE'; (try dsimp only [List.set_cons_zero, List.set_cons_succ] at hE'); replace hE := Aside0.mk hE'; clear hE') | ((with_reducible refine gate_store 5 ?_); (first | refine wpList_st1 hE.out rfl 0 rfl 5 _ _ rfl _ _ rfl rfl (by kernel_rfl) rfl rfl (by simp [Rg.vals]) ?_ | refine wpList_st1 hE.out rfl 1 rfl 5 _ _ rfl _ _ rfl rfl (by kernel_rfl) rfl rfl (by simp [Rg.vals]) ?_); intro V hE'; (try dsimp only [List.set_cons_zero, List.set_cons_succ] at hE'); replace hE := Aside0.mk hE'; clear hE'))
  have r2 := run_loadVar_mid (P := Tryz.prog) _ _ 0 24 (Rg.vals _).toList _ (hE.out.at_ 0 _ _ rfl).2.range Tryz.underlying24 rfl info24
  refine bodyPost_ret (v := .agg ρ.ref8.vals) ?_ rfl ⟨rfl, hE.out.b⟩
  simp [results, Tryz.results33, asAddr, r2, Act.put]
theorem ref8_eq : ∀ n : Nat, n < 256 → refR (n : Int) = (n : Int) / 128 % 256 * 128 % 256 + ((n : Int) + 1) % 128 := by decide +kernel
theorem Rg.ref8_refresh (ρ : Rg) (h0 : 0 ≤ ρ.r) (h1 : ρ.r < 256) : ρ.ref8 = ρ.refresh := by
  have h := ref8_eq ρ.r.toNat (by omega)
  rw [Int.toNat_of_nonneg h0] at h
  unfold Rg.ref8 Rg.refresh
  rw [← h]
  rfl
set_option maxHeartbeats 16000000 in
set_option maxRecDepth 100000 in
theorem lmay (ρ : Rg) (i0 : 0 ≤ ρ.im) (i2 : ρ.im ≤ 2) (hf : ρ.ff1 = false) (W : World) :
    Calls Tryz.prog 34 #[.agg ρ.vals] W fun e V => e = .returned (.bool false) ∧ Below W.heap.size W V := by
  have hE := Aside0.mk (Env.nil W)
  go_enter Tryz.func34, Tryz.ntmps34
  go_upto_region 1 with (first | ((with_reducible refine gate_box 24 ?_); refine wpList_new hE.out rfl (Rg.vals _) 24 rfl ?_; intro V g hE'; replace hE := Aside0.mk hE'; clear hE'))
  go_wp2_with (first | ((with_reducible refine gate_load 24 ?_); (try refine gate_guard (by rfl) ?_); refine wpList_ld hE.out rfl 0 rfl 24 _ rfl rfl (ld24 _ _) ?_) | (go_at_call 41; refine (Check _ _ i0 i2).mono ?_; rintro e V2 ⟨rfl, hb⟩; replace hE := Aside0.mk (hE.out.under hb); clear hb; have q0_19 := (hE.out.at_ 0 _ _ rfl).2.cell 19 _ rfl; rw [hf] at q0_19))
  go_ret
  exact ⟨rfl, hE.out.b⟩
end Go.Proofs.YtnelghpendfdmaaGreatDoor.KRow
