/-
  PROVED: the contracts of pendulumlaw11.next and lives.
-/
import Derived.Test.YtnelghpendfdmaaGreatDoorKTc
import Derived.Test.YtnelghpendfdmaaGreatDoorKEnv
namespace Go.Proofs.YtnelghpendfdmaaGreatDoor.KRow
open Go Go.RowKit Go.Proofs.YtnelghpendfdmaaGreatDoorW.PrintWords Go.Proofs.YtnelghpendfdmaaGreatDoorW.PrintLast Go.Proofs.YtnelghpendfdmaaGreatDoorW.PrintMore
open Go.Proofs.YtnelghpendfdmaaGreatDoor.HFun
set_option linter.unusedVariables false
set_option linter.unusedSimpArgs false
theorem env_tab {w0 V : World} {bs : List (Nat × Array Value)} (h : Env w0 V bs) (ht : Table w0) : Table V := ht.below h.b ht.lt
noncomputable def nx (ρ : Rg) (peek : Int) (gl : List Int) : To := toldOf gl (Tr.run gl (({ toRg := ρ, peek := peek, x := 0, disp := false, adr := 0 } : Rw).instr (((gl.length : Nat) : Int) == 1)) 0)
theorem Env.run {w0 V : World} {bs : List (Nat × Array Value)} (h : Env w0 V bs) (i : Nat) {op : Oper} {a : Act} {g : Nat} {cs : Array Value} (hi : bs[i]? = some (g, cs)) {ty : TypeId} {x : Operand} (ho : op.op = .load ty x)
    (hx : a.eval x = .pointer (some ⟨g, 0, none⟩)) (hr : ∀ (W : World), W.rangeAt g 0 cs.toList → (Instr.loadAt ty (.pointer (some ⟨g, 0, none⟩))).run Tryz.prog W = .ok (.agg cs) W) : (execOp a.eval op).run Tryz.prog V = .ok (.value (.agg cs)) V := by
  have := hr V (h.at_ i g cs hi).2.range
  unfold execOp
  simp only [ho, hx, this, Sem.run_bind, Sem.run_pure, Result.andThen_ok]
theorem gate_bld (ty : TypeId) {P : Program} {ops : Array Oper} {Q : Exit → Act → World → Prop} {W : World} {rest : List Oper} {d xs t p af gd a} (h : wpList P ops Q ({ dst := d, op := .build ty xs, type := t, pos := p, after := af, guard := gd } :: rest) a W) : wpList P ops Q ({ dst := d, op := .build ty xs, type := t, pos := p, after := af, guard := gd } :: rest) a W := h
theorem wpList_bld24 {ops : Array Oper} {rest : List Oper} {op : Oper} {a : Act} {Q : Exit → Act → World → Prop} {V : World} (hgd : op.guard = none) {ty : TypeId} {parts : Array (Nat × Operand)} (ho : op.op = .build ty parts) (v : Value) (hb : (execOp a.eval op).run Tryz.prog V = .ok (.value v) V)
    (k : wpList Tryz.prog ops Q rest (a.put op.dst v) V) : wpList Tryz.prog ops Q (op :: rest) a V := by
  refine wpList_plain hgd fun _ hK => ?_
  unfold Oper.wp
  simp only [hb]
  exact hK _ _ k
def resetR : Rg := { a := 255, f := 255, b := 0, c := 0, d := 0, e := 0, h := 0, l := 0, i := 0, r := 0, ix := 0, iy := 0, sp := 65535, pc := 0, wz := 0, af := 65535, bc := 0, de := 0, hl := 0, ff1 := false, ff2 := false, im := 0, halt := false, late := false }
theorem lreset (W : World) : Calls Tryz.prog 26 #[] W fun e V => e = .returned (.agg resetR.vals) ∧ Below W.heap.size W V := by
  have hE := Aside0.mk (Env.nil W)
  go_enter Tryz.func26, Tryz.ntmps26
  go_wp2_with (first | ((with_reducible refine gate_alloc 24 ?_); refine wpList_new hE.out rfl (zeroRg.vals) 24 (by kernel_rfl) ?_; intro V g hE'; replace hE := Aside0.mk hE'; clear hE') | ((with_reducible refine gate_bld 24 ?_); refine wpList_bld24 rfl rfl (.agg resetR.vals) (by kernel_rfl) ?_) | ((with_reducible refine gate_store 24 ?_); refine wpList_st hE.out rfl 0 rfl 24 _ _ rfl _ rfl rfl rfl (by kernel_rfl) (vals_one _) ?_; intro V hE'; (try dsimp only [List.set_cons_zero, List.set_cons_succ] at hE'); replace hE := Aside0.mk hE'; clear hE'))
  have r2 := run_loadVar_mid (P := Tryz.prog) _ _ 0 24 (Rg.vals _).toList _ (hE.out.at_ 0 _ _ rfl).2.range Tryz.underlying24 rfl info24
  refine bodyPost_ret (v := .agg resetR.vals) ?_ rfl ⟨rfl, hE.out.b⟩
  simp [results, Tryz.results26, asAddr, r2, Act.put]
end Go.Proofs.YtnelghpendfdmaaGreatDoor.KRow
/-
 PROVED: what a walk knows of its own boxes and of two rows of its own that grow (requests, bytes).
-/
namespace Go.Proofs.YtnelghpendfdmaaGreatDoor.KRow
open Go Go.RowKit Go.Proofs.YtnelghpendfdmaaGreatDoorW.PrintWords Go.Proofs.YtnelghpendfdmaaGreatDoorW.PrintLast Go.Proofs.YtnelghpendfdmaaGreatDoorW.PrintMore
open Go.Proofs.YtnelghpendfdmaaGreatDoor.HFun
set_option linter.unusedVariables false
set_option linter.unusedSimpArgs false
theorem info5c : (Tryz.prog.info? 5).map (fun i => (i.zero,i.size,i.bytes)) = some (some (.int .u8 0),1,1) :=by kernel_rfl
theorem info56c : (Tryz.prog.info? 56).map (fun i => (i.zero,i.size,i.bytes)) = some (some (.agg #[(.int .i64 0),(.int .u16 0),(.int .u8 0),(.int .i64 0)]),4,24) :=by kernel_rfl
def s56c (x : S56) : Array Value :=reqC x.f0 x.f1 x.f2 x.f3
def OffB (bs : List (Nat × Array Value)) (k : Nat) : Prop :=∀ (j g : Nat) (cs : Array Value),bs[j]? = some (g,cs) → k ≠ g
structure EnvR (w0 V : World) (bs : List (Nat × Array Value)) (vo : Value) (out : List S56) (vg : Value) (got : List Int) : Prop where
 env : Env w0 V bs
 o : k56.R 56 V w0.heap.size (OffB bs) vo out
 g : (Kd.int .u8).R 5 V w0.heap.size (OffB bs) vg got
section
variable {w0 V V' : World} {bs : List (Nat × Array Value)} {vo vg : Value} {out : List S56} {got : List Int}
theorem EnvR.start (h : Env w0 V bs) : EnvR w0 V bs (.slice none 0 0) [] (.slice none 0 0) [] :=⟨h,Kd.R_nil _ _ _ _ _,Kd.R_nil _ _ _ _ _⟩
theorem EnvR.under (h : EnvR w0 V bs vo out vg got) (hb : Below V.heap.size V V') : EnvR w0 V' bs vo out vg got :=⟨h.env.under hb,Kd.R_below h.o hb,Kd.R_below h.g hb⟩
theorem EnvR.drewN (h : EnvR w0 V bs vo out vg got) (m : Nat) : EnvR w0 (V.drewN m) bs vo out vg got :=h.under (pw_below_drewN (Below.refl _ _) m)
theorem offB_push {n : Nat} {k : Nat} {cs : Array Value} (h : OffB bs k) (hk : k < n) : OffB ((n,cs) :: bs) k :=fun j g c hj => by
 cases j with
 | zero => simp only [List.getElem?_cons_zero,Option.some.injEq,Prod.mk.injEq] at hj;omega
 | succ j => exact h j g c (by simpa using hj)
theorem EnvR.push (h : EnvR w0 V bs vo out vg got) (cs : Array Value) (ty : TypeId) : EnvR w0 (V.alloc (.cells cs ty)) ((V.heap.size,cs) :: bs) vo out vg got :=
 ⟨h.env.push cs ty,Kd.R_alloc (Kd.R_mono (Kd.R_bound h.o) (fun k hk => offB_push hk.1 hk.2.2.1)) _,Kd.R_alloc (Kd.R_mono (Kd.R_bound h.g) (fun k hk => offB_push hk.1 hk.2.2.1)) _⟩
theorem offB_set {i g : Nat} {cs cs' : Array Value} {k : Nat} (hi : bs[i]? = some (g,cs)) (h : OffB bs k) : OffB (bs.set i (g,cs')) k :=fun j g' c hj => by
 rw [List.getElem?_set] at hj
 by_cases e : i = j
 ·subst e
  have hlt : i < bs.length :=(List.getElem?_eq_some_iff.1 hi).1
  simp only [if_true,hlt,Option.some.injEq,Prod.mk.injEq] at hj
  obtain ⟨rfl,rfl⟩ :=hj
  exact h i g cs hi
 ·rw [if_neg e] at hj;exact h j g' c hj
theorem EnvR.put (h : EnvR w0 V bs vo out vg got) {i g : Nat} {cs cs' : Array Value} (hi : bs[i]? = some (g,cs)) (hk : Kp g V V') (hc : BlkAt V' g cs') : EnvR w0 V' (bs.set i (g,cs')) vo out vg got :=
 ⟨h.env.put hi hk hc,Kd.R_mono (Kd.R_step h.o (fun k ho hlt => hk.block k hlt (ho i g cs hi))) (fun k => offB_set hi),Kd.R_mono (Kd.R_step h.g (fun k ho hlt => hk.block k hlt (ho i g cs hi))) (fun k => offB_set hi)⟩
theorem env_grown (h : Env w0 V bs) {r : Option Nat} (hg : V.grownBy V' r) (hb : Below w0.heap.size w0 V') (hs : V.heap.size ≤ V'.heap.size) (hr : ∀ k,r = some k → OffB bs k) : Env w0 V' bs :=by
 refine ⟨hb,fun j g cs hj => ⟨(h.at_ j g cs hj).1,?_⟩,h.ne⟩
 have hB :=(h.at_ j g cs hj).2
 exact hB.same hs (hg.block g hB.lt (fun e => hr g e.symm j g cs hj rfl))
variable {ops : Array Oper} {rest : List Oper} {op : Oper} {a : Act} {Q : Exit → Act → World → Prop}
theorem wpList_app56 (h : EnvR w0 V bs vo out vg got) (x : S56) (hgd : op.guard = none) (s y : Operand) (ho : op.op = .call { callee :=.builtin .append,args :=#[s,y],argTypes :=#[38,38] }) (hs : a.eval s = vo) (hy : a.eval y = .slice (some ⟨V.heap.size,0,none⟩) 1 1) (hl : out.length ≤ 1000)
  (k : ∀ v1 V',EnvR w0 V' bs v1 (out ++ [x]) vg got → wpList Tryz.prog ops Q rest (a.put op.dst v1) V') : wpList Tryz.prog ops Q (op :: rest) a (V.alloc (.cells (s56c x) 56)) :=by
 refine Kd.R_append k56 (w0 :=w0) w0.heap.size hgd s y 38 56 (.agg #[(.int .i64 0),(.int .u16 0),(.int .u8 0),(.int .i64 0)]) 24 ho Tryz.underlying38 info56c rfl (by decide) (by omega) vo out x [.int .i64 x.f0,.int .u16 x.f1,.int .u8 x.f2,.int .i64 x.f3] (OffB bs) (fun _ => False) hs hy (k56_mkM _ _ _ x) (fun _ hk => hk.elim) (fun k hk j g cs hj => ?_) h.o h.env.b h.env.size (by omega) ?_
 ·have :=h.env.lt hj
  omega
 ·intro v1 w1 ho hb hg hat
  exact k v1 w1 ⟨env_grown h.env hg hb hg.size (fun k hk => h.o.1 k hk),ho,Kd.R_over' h.g (Kd.R_typed h.o) (by decide) hg⟩
theorem wpList_app8 (h : EnvR w0 V bs vo out vg got) (x : Int) (hgd : op.guard = none) (s y : Operand) (ho : op.op = .call { callee :=.builtin .append,args :=#[s,y],argTypes :=#[25,25] }) (hs : a.eval s = vg) (hy : a.eval y = .slice (some ⟨V.heap.size,0,none⟩) 1 1) (hl : got.length ≤ 1000)
  (k : ∀ v1 V',EnvR w0 V' bs vo out v1 (got ++ [x]) → wpList Tryz.prog ops Q rest (a.put op.dst v1) V') : wpList Tryz.prog ops Q (op :: rest) a (V.alloc (.cells #[.int .u8 x] 5)) :=by
 refine Kd.R_append (Kd.int .u8) (w0 :=w0) w0.heap.size hgd s y 25 5 (.int .u8 0) 1 ho Tryz.underlying25 info5c rfl (by decide) (by omega) vg got x [.int .u8 x] (OffB bs) (fun _ => False) hs hy rfl (fun _ hk => hk.elim) (fun k hk j g cs hj => ?_) h.g h.env.b h.env.size (by omega) ?_
 ·have :=h.env.lt hj
  omega
 ·intro v1 w1 ho hb hg hat
  exact k v1 w1 ⟨env_grown h.env hg hb hg.size (fun k hk => h.g.1 k hk),Kd.R_over' h.o (Kd.R_typed h.g) (by decide) hg,ho⟩
end
end Go.Proofs.YtnelghpendfdmaaGreatDoor.KRow
