/-
  PROVED: the contracts of pendulumlaw11.next and lives.
-/
import Derived.Test.YtnelghpendfdmaaGreatDoorKTc
import Derived.Test.YtnelghpendfdmaaGreatDoorKEnv
namespace Go.Proofs.YtnelghpendfdmaaGreatDoor.KRow
open Go Go.RowKit Go.Proofs.YtnelghpendfdmaaGreatDoorW.PrintWords Go.Proofs.YtnelghpendfdmaaGreatDoorW.PrintLast Go.Proofs.YtnelghpendfdmaaGreatDoorW.PrintMore
open Go.Proofs.YtnelghpendfdmaaGreatDoor.HFun
set_option linter.unusedVariables false
set_option linter.unusedSimpArgs false
theorem env_tab {w0 V : World} {bs : List (Nat × Array Value)} (h : Env w0 V bs) (ht : Table w0) : Table V := ht.below h.b ht.lt
noncomputable def nx (ρ : Rg) (peek : Int) (gl : List Int) : To := toldOf gl (Tr.run gl (({ toRg := ρ, peek := peek, x := 0, disp := false, adr := 0 } : Rw).instr (((gl.length : Nat) : Int) == 1)) 0)
theorem Env.run {w0 V : World} {bs : List (Nat × Array Value)} (h : Env w0 V bs) (i : Nat) {op : Oper} {a : Act} {g : Nat} {cs : Array Value} (hi : bs[i]? = some (g, cs)) {ty : TypeId} {x : Operand} (ho : op.op = .load ty x)
    (hx : a.eval x = .pointer (some ⟨g, 0, none⟩)) (hr : ∀ (W : World), W.rangeAt g 0 cs.toList → (Instr.loadAt ty (.pointer (some ⟨g, 0, none⟩))).run Tryz.prog W = .ok (.agg cs) W) : (execOp a.eval op).run Tryz.prog V = .ok (.value (.agg cs)) V := by
  have := hr V (h.at_ i g cs hi).2.range
  unfold execOp
  simp only [ho, hx, this, Sem.run_bind, Sem.run_pure, Result.andThen_ok]
theorem gate_bld (ty : TypeId) {P : Program} {ops : Array Oper} {Q : Exit → Act → World → Prop} {W : World} {rest : List Oper} {d xs t p af gd a} (h : wpList P ops Q ({ dst := d, op := .build ty xs, type := t, pos := p, after := af, guard := gd } :: rest) a W) : wpList P ops Q ({ dst := d, op := .build ty xs, type := t, pos := p, after := af, guard := gd } :: rest) a W := h
theorem wpList_bld24 {ops : Array Oper} {rest : List Oper} {op : Oper} {a : Act} {Q : Exit → Act → World → Prop} {V : World} (hgd : op.guard = none) {ty : TypeId} {parts : Array (Nat × Operand)} (ho : op.op = .build ty parts) (v : Value) (hb : (execOp a.eval op).run Tryz.prog V = .ok (.value v) V)
    (k : wpList Tryz.prog ops Q rest (a.put op.dst v) V) : wpList Tryz.prog ops Q (op :: rest) a V := by
  refine wpList_plain hgd fun _ hK => ?_
  unfold Oper.wp
  simp only [hb]
  exact hK _ _ k
def resetR : Rg := { a := 255, f := 255, b := 0, c := 0, d := 0, e := 0, h := 0, l := 0, i := 0, r := 0, ix := 0, iy := 0, sp := 65535, pc := 0, wz := 0, af := 65535, bc := 0, de := 0, hl := 0, ff1 := false, ff2 := false, im := 0, halt := false, late := false }
theorem lreset (W : World) : Calls Tryz.prog 26 #[] W fun e V => e = .returned (.agg resetR.vals) ∧ Below W.heap.size W V := by
  have hE := Aside0.mk (Env.nil W)
  go_enter Tryz.func26, Tryz.ntmps26
  go_wp2_with (first | ((with_reducible refine gate_alloc 24 ?_); refine wpList_new hE.out rfl (zeroRg.vals) 24 (by kernel_rfl) ?_; intro V g hE'; replace hE := Aside0.mk hE'; clear hE') | ((with_reducible refine gate_bld 24 ?_); refine wpList_bld24 rfl rfl (.agg resetR.vals) (by kernel_rfl) ?_) | ((with_reducible refine gate_store 24 ?_); refine wpList_st hE.out rfl 0 rfl 24 _ _ rfl _ rfl rfl rfl (by kernel_rfl) (vals_one _) ?_; intro V hE'; (try dsimp only [List.set_cons_zero, List.set_cons_succ] at hE'); replace hE := Aside0.mk hE'; clear hE'))
  have r2 := run_loadVar_mid (P := Tryz.prog) _ _ 0 24 (Rg.vals _).toList _ (hE.out.at_ 0 _ _ rfl).2.range Tryz.underlying24 rfl info24
  refine bodyPost_ret (v := .agg resetR.vals) ?_ rfl ⟨rfl, hE.out.b⟩
  simp [results, Tryz.results26, asAddr, r2, Act.put]
end Go.Proofs.YtnelghpendfdmaaGreatDoor.KRow
