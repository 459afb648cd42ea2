/-
 PROVED: decode.Of on five bytes.
-/
import Derived.Test.YtnelghpendfdmaaGreatDoorKOi
namespace Go.Proofs.YtnelghpendfdmaaGreatDoor.KRow
set_option maxRecDepth 100000
set_option maxHeartbeats 16000000
open Go Go.RowKit Go.Proofs.YtnelghpendfdmaaGreatDoorW.PrintWords Go.Proofs.YtnelghpendfdmaaGreatDoorW.PrintLast Go.Proofs.YtnelghpendfdmaaGreatDoorW.PrintMore
open Go.Proofs.YtnelghpendfdmaaGreatDoor.HFun
set_option linter.unusedVariables false
set_option linter.unusedSimpArgs false
theorem run_ld25 {V : World} {p : Addr} {v : Value} (hc : V.cell? p = some v) {ev : Operand → Value} {op : Oper} {x : Operand} (ho : op.op = .load 25 x) (hx : ev x = .pointer (some p)) : (execOp ev op).run Tryz.prog V = .ok (.value v) V :=by
 unfold execOp
 simp only [ho,hx]
 simp [go_sem,hc]
theorem lat {W : World} {gs g1 cp j : Nat} {k b : Int} (hk : (k = 0 ∧ j = 0) ∨ (k = 1 ∧ j = 1) ∨ (k = 3 ∧ j = 3)) (hq : W.cell? ⟨g1,0,none⟩ = some (.slice (some ⟨gs,0,none⟩) 5 cp)) (hc : W.cell? ⟨gs,j,none⟩ = some (.int .u8 b)) (hw : wrap64 b = b) : Calls Tryz.prog 55 #[.int .i64 k,.pointer (some ⟨g1,0,none⟩)] W fun e V => e = .returned (.int .i64 b) ∧ Below W.heap.size W V :=by
 replace hq :=Aside0.mk hq
 rcases hk with ⟨rfl,rfl⟩ | ⟨rfl,rfl⟩ | ⟨rfl,rfl⟩
 all_goals (
  go_enter Tryz.func55,Tryz.ntmps55
  go_wp2_with (first | ((with_reducible refine gate_load 25 ?_);refine zap rfl (.slice (some ⟨gs,0,none⟩) 5 cp) (run_ld25 hq.out rfl rfl) ?_))
  go_ret
  exact ⟨by rw [hw];rfl,Below.refl _ _⟩)
def i8 (y : Int) : Int :=wrap64 (IntKind.i8.wrap y)
def iw2 (y z : Int) : Int :=Go.bits .or .i64 (wrap64 y) (wrap64 (wrap64 z * 256))
theorem dof {W : World} {gs cp : Nat} {b0 b1 b2 b3 b4 s x o d i n k j y0 y1 : Int} {p rel : Bool} (hc0 : ∀ V,Below W.heap.size W V → V.cell? ⟨gs,0,none⟩ = some (.int .u8 b0)) (hc1 : ∀ V,Below W.heap.size W V → V.cell? ⟨gs,1,none⟩ = some (.int .u8 b1)) (hc2 : ∀ V,Below W.heap.size W V → V.cell? ⟨gs,2,none⟩ = some (.int .u8 b2)) (hc3 : ∀ V,Below W.heap.size W V → V.cell? ⟨gs,3,none⟩ = some (.int .u8 b3)) (hc4 : ∀ V,Below W.heap.size W V → V.cell? ⟨gs,4,none⟩ = some (.int .u8 b4)) (w0 : wrap64 b0 = b0) (w1 : wrap64 b1 = b1) (w2 : wrap64 b2 = b2) (w3 : wrap64 b3 = b3) (w4 : wrap64 b4 = b4) (hcp : 5 ≤ cp) (hN : ycw.f 20 s x o = some (p,k)) (hS : ycq.f 20 s x o = some n) (hR : ydd.f o = some rel) (hpre : (s = 0 ∧ x = 0 ∧ b0 = o ∧ ydf.f b0 = some false ∧ (b0 == 203) = false ∧ (b0 == 237) = false ∧ j = 1 ∧ b1 = y0 ∧ b2 = y1 ∧ (p = false)) ∨ (s = 1 ∧ x = 0 ∧ b1 = o ∧ b0 = 203 ∧ True ∧ True ∧ j = 2 ∧ b2 = y0 ∧ b3 = y1 ∧ (p = false ∧ k = 0)) ∨ (s = 2 ∧ x = 0 ∧ b1 = o ∧ b0 = 237 ∧ True ∧ True ∧ j = 2 ∧ b2 = y0 ∧ b3 = y1 ∧ (p = false ∧ (k = 0 ∨ k = 2))) ∨ (((s = 0 ∧ x = 1 ∧ b0 = 221) ∨ (s = 0 ∧ x = 2 ∧ b0 = 253)) ∧ b1 = o ∧ ydf.f b1 = some false ∧ (b1 == 203) = false ∧ (b1 == 237) = false ∧ j = 2 ∧ b2 = y0 ∧ b3 = y1 ∧ (True)))
  (htl : (p = false ∧ k = 0 ∧ n = j ∧ d = 0 ∧ i = 0) ∨ (p = false ∧ k = 1 ∧ n = j + 1 ∧ d = 0 ∧ s = 0 ∧ ((rel = true ∧ i = i8 y0) ∨ (rel = false ∧ i = wrap64 y0))) ∨ (p = false ∧ k = 2 ∧ n = j + 2 ∧ d = 0 ∧ i = iw2 y0 y1) ∨ (p = true ∧ k = 0 ∧ n = j + 1 ∧ d = i8 y0 ∧ i = 0) ∨ (p = true ∧ k = 1 ∧ n = j + 2 ∧ d = i8 y0 ∧ s = 0 ∧ rel = false ∧ i = wrap64 y1)) :
  Calls Tryz.prog 43 #[.slice (some ⟨gs,0,none⟩) 5 cp] W fun e V => e = .returned (.tuple #[.agg (insC s x o d i n),.int .i64 0]) ∧ Below W.heap.size W V :=by
 have hE :=Aside0.mk (Env.nil W)
 replace hc0 :=Aside0.mk hc0
 replace hc1 :=Aside0.mk hc1
 replace hc2 :=Aside0.mk hc2
 replace hc3 :=Aside0.mk hc3
 replace hc4 :=Aside0.mk hc4
 replace w0 :=Aside0.mk w0
 replace w1 :=Aside0.mk w1
 replace w2 :=Aside0.mk w2
 replace w3 :=Aside0.mk w3
 replace w4 :=Aside0.mk w4
 replace hN :=Aside0.mk hN
 replace hS :=Aside0.mk hS
 replace hR :=Aside0.mk hR
 have q1 : 1 ≤ cp :=by omega
 have q2 : 2 ≤ cp :=by omega
 have q3 : 3 ≤ cp :=by omega
 have q4 : 4 ≤ cp :=by omega
 replace hcp :=Aside0.mk hcp
 rcases hpre with ⟨rfl,rfl,rfl,hl,e1,e2,rfl,rfl,rfl,hk⟩ | ⟨rfl,rfl,rfl,rfl,hl,e2,rfl,rfl,rfl,hk⟩ | ⟨rfl,rfl,rfl,rfl,hl,e2,rfl,rfl,rfl,hk⟩ | ⟨⟨rfl,rfl,rfl⟩ | ⟨rfl,rfl,rfl⟩,rfl,hl,e1,e2,rfl,rfl,rfl,hk⟩ <;> rcases htl with ⟨rfl,rfl,rfl,rfl,rfl⟩ | ⟨rfl,rfl,rfl,rfl,hs,⟨rfl,rfl⟩ | ⟨rfl,rfl⟩⟩ | ⟨rfl,rfl,rfl,rfl,rfl⟩ | ⟨rfl,rfl,rfl,rfl,rfl⟩ | ⟨rfl,rfl,rfl,rfl,hs,rfl,rfl⟩
 any_goals (exfalso;revert hk;decide)
 all_goals
  clear hk
  try replace hl :=Aside0.mk hl
  go_enter Tryz.func43,Tryz.ntmps43
  go_upto_region 30 with (first | ((with_reducible refine gate_box 25 ?_);refine zab hE.out rfl (#[.slice (some ⟨gs,0,none⟩) 5 cp]) 25 rfl ?_;intro V g1 hE';replace hE :=Aside0.mk hE';clear hE') | ((with_reducible refine gate_alloc 28 ?_);refine zab hE.out rfl (insC 0 0 0 0 0 0) 28 (by kernel_rfl) ?_;intro V g hE';replace hE :=Aside0.mk hE';clear hE') | ((with_reducible refine gate_load 25 ?_);refine zap rfl (.slice (some ⟨gs,0,none⟩) 5 cp) (run_ld25 ((hE.out.at_ 2 _ _ rfl).2.cell 0 _ rfl) rfl rfl) ?_) | (go_at_call 55;first | (refine (lat (j :=0) (.inl ⟨rfl,rfl⟩) ((hE.out.at_ 2 _ _ rfl).2.cell 0 _ rfl) (hc0.out _ hE.out.b) w0.out).mono ?_;rintro e V3 ⟨rfl,hb⟩;replace hE :=Aside0.mk (hE.out.under hb);clear hb) | (refine (lat (j :=1) (.inr (.inl ⟨rfl,rfl⟩)) ((hE.out.at_ 2 _ _ rfl).2.cell 0 _ rfl) (hc1.out _ hE.out.b) w1.out).mono ?_;rintro e V3 ⟨rfl,hb⟩;replace hE :=Aside0.mk (hE.out.under hb);clear hb) | (refine (lat (j :=3) (.inr (.inr ⟨rfl,rfl⟩)) ((hE.out.at_ 2 _ _ rfl).2.cell 0 _ rfl) (hc3.out _ hE.out.b) w3.out).mono ?_;rintro e V3 ⟨rfl,hb⟩;replace hE :=Aside0.mk (hE.out.under hb);clear hb)) | (go_at_call 56;first | (refine (ydf.calls _ true _ (by decide)).mono ?_;rintro e V3 ⟨rfl,hd5⟩;replace hE :=Aside0.mk (hE.out.under (zai hd5));clear hd5) | (refine (ydf.calls _ false _ (by decide)).mono ?_;rintro e V3 ⟨rfl,hd5⟩;replace hE :=Aside0.mk (hE.out.under (zai hd5));clear hd5) | (refine (ydf.calls _ false _ hl.out).mono ?_;rintro e V3 ⟨rfl,hd5⟩;replace hE :=Aside0.mk (hE.out.under (zai hd5));clear hd5)) | ((with_reducible refine gate_store 3 ?_);refine zau hE.out rfl 0 rfl 3 _ _ rfl _ _ rfl rfl (by kernel_rfl) rfl rfl (by simp [insC]) ?_;intro V hE';(try dsimp only [List.set_cons_zero,List.set_cons_succ] at hE');replace hE :=Aside0.mk hE';clear hE') | ((with_reducible refine gate_load 3 ?_);(try refine gate_guard (by rfl) ?_);first | (refine zag hE.out rfl 0 rfl _ rfl _ _ rfl rfl ?_)))
  replace hE : Aside0 (Env W _ [(_,insC _ _ _ 0 0 0),(_,insC 0 0 0 0 0 0),(_,#[.slice (some ⟨gs,0,none⟩) 5 cp])]) :=⟨hE.out⟩
  go_upto_region 32 with (first | ((with_reducible refine gate_load 3 ?_);(try refine gate_guard (by rfl) ?_);first | (refine zag hE.out rfl 0 rfl _ rfl _ _ rfl rfl ?_)) | (go_at_call 57;(try refine gate_guard (by rfl) ?_);refine (ycw.calls 20 _ _ _ _ _ _ hN.out).mono ?_;rintro e V3 ⟨rfl,hd5⟩;replace hE :=Aside0.mk (hE.out.under (zai hd5));clear hd5) | (go_at_call 58;(try refine gate_guard (by rfl) ?_);refine (ycq.calls 20 _ _ _ _ _ hS.out).mono ?_;rintro e V3 ⟨rfl,hd5⟩;replace hE :=Aside0.mk (hE.out.under (zai hd5));clear hd5) | ((with_reducible refine gate_store 3 ?_);refine zau hE.out rfl 0 rfl 3 _ _ rfl _ _ rfl rfl (by kernel_rfl) rfl rfl (by simp [insC]) ?_;intro V hE';(try dsimp only [List.set_cons_zero,List.set_cons_succ] at hE');replace hE :=Aside0.mk hE';clear hE'))
  replace hE : Aside0 (Env W _ [(_,insC _ _ _ 0 0 _),(_,insC 0 0 0 0 0 0),(_,#[.slice (some ⟨gs,0,none⟩) 5 cp])]) :=⟨hE.out⟩
  go_upto_region 43 with (first | ((with_reducible refine gate_load 3 ?_);(try refine gate_guard (by rfl) ?_);first | (refine zag hE.out rfl 0 rfl _ rfl _ _ rfl rfl ?_)) | ((with_reducible refine gate_load 25 ?_);refine zap rfl (.slice (some ⟨gs,0,none⟩) 5 cp) (run_ld25 ((hE.out.at_ 2 _ _ rfl).2.cell 0 _ rfl) rfl rfl) ?_) | ((with_reducible refine gate_region 36 ?_);((refine zak (fun V => Env W V []) [(0,0),(1,0),(5,0),(6,0),(2,1),(3,0),(4,0)] [7,8,9] [7,8,9] 10 (by kernel_rfl) rfl rfl (by kernel_rfl) (by intro c a d v w h;cases d <;> exact h) ((hE.out.drewN 1).none) ?_);replace hE :=Aside0.mk (hE.out.drewN 1);have hS0 :=hE.out.none;(repeat (first | (refine Sch.pureN (v :=?_) (a' :=?_) rfl rfl (by rfl) ?_ ?_ ?_;rotate_left 2;(· (intro w';go_simp <;> (repeat (first | rw [if_pos (by omega)] | rw [if_neg (by omega)])) <;> with_reducible rfl));(· (simp only [aput] <;> rfl))) | (refine Sch.takeN (v :=?_) (a' :=?_) rfl rfl (by rfl) hS0 ?_ ?_ ?_;rotate_left 2;(· (intro w' hS';have qq :=hc1.out _ hS'.b;go_simp <;> with_reducible rfl));(· (simp only [aput] <;> rfl))) | (refine Sch.takeN (v :=?_) (a' :=?_) rfl rfl (by rfl) hS0 ?_ ?_ ?_;rotate_left 2;(· (intro w' hS';have qq :=hc2.out _ hS'.b;go_simp <;> with_reducible rfl));(· (simp only [aput] <;> rfl)))));(refine Sch.tail 7 3 rfl rfl ?_;simp only [List.drop_succ_cons,List.drop_zero,List.drop_nil]))) | ((with_reducible refine gate_region 38 ?_);((refine zak (fun V => Env W V []) [(0,0),(1,0),(4,0),(5,0),(2,1),(3,0),(6,1),(7,0),(8,0)] [9,10,11] [9,10,11] 12 (by kernel_rfl) rfl rfl (by kernel_rfl) (by intro c a d v w h;cases d <;> exact h) ((hE.out.drewN 1).none) ?_);replace hE :=Aside0.mk (hE.out.drewN 1);have hS0 :=hE.out.none;(repeat (first | (refine Sch.pureN (v :=?_) (a' :=?_) rfl rfl (by rfl) ?_ ?_ ?_;rotate_left 2;(· (intro w';go_simp <;> (repeat (first | rw [if_pos (by omega)] | rw [if_neg (by omega)])) <;> with_reducible rfl));(· (simp only [aput] <;> rfl))) | (refine Sch.takeN (v :=?_) (a' :=?_) rfl rfl (by rfl) hS0 ?_ ?_ ?_;rotate_left 2;(· (intro w' hS';have qq :=hc1.out _ hS'.b;go_simp <;> with_reducible rfl));(· (simp only [aput] <;> rfl))) | (refine Sch.takeN (v :=?_) (a' :=?_) rfl rfl (by rfl) hS0 ?_ ?_ ?_;rotate_left 2;(· (intro w' hS';have qq :=hc2.out _ hS'.b;go_simp <;> with_reducible rfl));(· (simp only [aput] <;> rfl))) | (refine Sch.takeN (v :=?_) (a' :=?_) rfl rfl (by rfl) hS0 ?_ ?_ ?_;rotate_left 2;(· (intro w' hS';have qq :=hc3.out _ hS'.b;go_simp <;> with_reducible rfl));(· (simp only [aput] <;> rfl))) | (refine Sch.takeN (v :=?_) (a' :=?_) rfl rfl (by rfl) hS0 ?_ ?_ ?_;rotate_left 2;(· (intro w' hS';have qq :=hc4.out _ hS'.b;go_simp <;> with_reducible rfl));(· (simp only [aput] <;> rfl)))));(refine Sch.tail 9 3 rfl rfl ?_;simp only [List.drop_succ_cons,List.drop_zero,List.drop_nil]))) | ((with_reducible refine gate_load 5 ?_);first | refine zam rfl _ rfl rfl (hc1.out _ hE.out.b) ?_ | refine zam rfl _ rfl rfl (hc2.out _ hE.out.b) ?_ | refine zam rfl _ rfl rfl (hc3.out _ hE.out.b) ?_ | refine zam rfl _ rfl rfl (hc4.out _ hE.out.b) ?_) | (go_at_call 59;(try refine gate_guard (by rfl) ?_);refine (ydd.calls _ _ _ hR.out).mono ?_;rintro e V3 ⟨rfl,hd5⟩;replace hE :=Aside0.mk (hE.out.under (zai hd5));clear hd5) | ((with_reducible refine gate_store 3 ?_);refine zau hE.out rfl 0 rfl 3 _ _ rfl _ _ rfl rfl (by kernel_rfl) rfl rfl (by simp [insC]) ?_;intro V hE';(try dsimp only [List.set_cons_zero,List.set_cons_succ] at hE');replace hE :=Aside0.mk hE';clear hE') | ((with_reducible refine gate_load 28 ?_);refine zaf hE.out rfl 0 rfl 28 _ rfl rfl (ld28 _ _ _ _ _ _ _) ?_))
  replace hE : Aside0 (Env W _ [(_,insC _ _ _ _ _ _),(_,insC 0 0 0 0 0 0),(_,#[.slice (some ⟨gs,0,none⟩) 5 cp])]) :=⟨hE.out⟩
  go_wp2_with (first | ((with_reducible refine gate_load 28 ?_);refine zaf hE.out rfl 0 rfl 28 _ rfl rfl (ld28 _ _ _ _ _ _ _) ?_) | ((with_reducible refine gate_store 28 ?_);refine zac hE.out rfl 1 rfl 28 _ _ rfl _ rfl rfl rfl (by kernel_rfl) (zbc _ _ _ _ _ _) ?_;intro V hE';(try dsimp only [List.set_cons_zero,List.set_cons_succ] at hE');replace hE :=Aside0.mk hE';clear hE'))
  have r1 :=run_loadVar_mid (P :=Tryz.prog) _ _ 0 28 (insC _ _ _ _ _ _).toList _ (hE.out.at_ 1 _ _ rfl).2.range Tryz.underlying28 rfl zca
  refine bodyPost_ret (v :=.tuple #[.agg (insC _ _ _ _ _ _),.int .i64 0]) ?_ rfl ⟨rfl,hE.out.b⟩
  simp [results,Tryz.results43,asAddr,r1,Act.put] <;> rfl
theorem Sch.callv {ops : Array Oper} {S : World → Prop} {Q : Exit → Act → World → Prop} {tl : List Nat} {i m : Nat} {o : Oper} {N : Option Tmp} {r : List (Nat × Nat)} {a : Act} {w : World} {f : FuncId} {fn : Func} {xo : Operand} {xs : Array Operand} {ts : Array TypeId} {caps : Array Value} (ho : ops[i]? = some o) (hN : o.dst = N) (hf : Tryz.prog.funcs[f]? = some fn) (hname : (fn.name == "runtime.NumGoroutine") = false) (hb : fn.body.isSome = true) (args : Array Value)
  (hg : Region.wanted o (yielded ops a.tmps) = true) (hop : o.op = .call { callee :=.value xo,args :=xs,argTypes :=ts }) (hx : a.eval xo = .func (.func f) #[] caps) (hargs : xs.map a.eval ++ caps = args)
  (h : Calls Tryz.prog f args w fun
   | .returned v,w' => S w' ∧ Sch Tryz.prog ops S Q tl r (a.put N v) w'
   | .panicked c,w' => Q (.panic c) a w'
   | .outgrown,_ => LetsOut Q) : Sch Tryz.prog ops S Q tl ((i,m + 2) :: r) a w :=by
 refine ⟨o,ho,fun K hK => ?_⟩
 rw [if_pos hg]
 subst hN
 have he :=enters_ hf hname hb args w
 have hrun : (execOp a.eval o).run Tryz.prog w = .ok (.enter f args) w :=by
  unfold execOp
  simp [hop,resolve,Deferred.ofValue,invoke,hx,hargs,he]
 unfold Oper.wp
 rw [hrun,Oper.upon_enter]
 refine h.mono fun e w' hh => ?_
 cases e with
 | returned v => exact hK _ _ hh.1 hh.2
 | panicked c => exact hh
 | outgrown => exact hh
theorem dofL {W : World} {gs cp : Nat} {b0 b1 b2 b3 b4 : Int} (hc0 : ∀ V,Below W.heap.size W V → V.cell? ⟨gs,0,none⟩ = some (.int .u8 b0)) (hc1 : ∀ V,Below W.heap.size W V → V.cell? ⟨gs,1,none⟩ = some (.int .u8 b1)) (hc2 : ∀ V,Below W.heap.size W V → V.cell? ⟨gs,2,none⟩ = some (.int .u8 b2)) (hc3 : ∀ V,Below W.heap.size W V → V.cell? ⟨gs,3,none⟩ = some (.int .u8 b3)) (hc4 : ∀ V,Below W.heap.size W V → V.cell? ⟨gs,4,none⟩ = some (.int .u8 b4)) (w0 : wrap64 b0 = b0) (w1 : wrap64 b1 = b1) (w2 : wrap64 b2 = b2) (w3 : wrap64 b3 = b3) (w4 : wrap64 b4 = b4) (hcp : 5 ≤ cp) (h : (b0 = 221 ∨ b0 = 253) ∧ (b1 = 237 ∨ b1 = 221 ∨ b1 = 253)) :
  Calls Tryz.prog 43 #[.slice (some ⟨gs,0,none⟩) 5 cp] W fun e V => e = .returned (.tuple #[.agg (insC 0 0 b0 0 0 1),.int .i64 0]) ∧ Below W.heap.size W V :=by
 have hE :=Aside0.mk (Env.nil W)
 replace hc0 :=Aside0.mk hc0
 replace hc1 :=Aside0.mk hc1
 replace hc2 :=Aside0.mk hc2
 replace hc3 :=Aside0.mk hc3
 replace hc4 :=Aside0.mk hc4
 replace w0 :=Aside0.mk w0
 replace w1 :=Aside0.mk w1
 replace w2 :=Aside0.mk w2
 replace w3 :=Aside0.mk w3
 replace w4 :=Aside0.mk w4
 have q1 : 1 ≤ cp :=by omega
 have q2 : 2 ≤ cp :=by omega
 have q3 : 3 ≤ cp :=by omega
 have q4 : 4 ≤ cp :=by omega
 replace hcp :=Aside0.mk hcp
 obtain ⟨rfl | rfl,rfl | rfl | rfl⟩ :=h
 all_goals
  go_enter Tryz.func43,Tryz.ntmps43
  go_upto_region 14 with (first | ((with_reducible refine gate_box 25 ?_);refine zab hE.out rfl (#[.slice (some ⟨gs,0,none⟩) 5 cp]) 25 rfl ?_;intro V g1 hE';replace hE :=Aside0.mk hE';clear hE') | ((with_reducible refine gate_alloc 28 ?_);refine zab hE.out rfl (insC 0 0 0 0 0 0) 28 (by kernel_rfl) ?_;intro V g hE';replace hE :=Aside0.mk hE';clear hE') | ((with_reducible refine gate_load 25 ?_);refine zap rfl (.slice (some ⟨gs,0,none⟩) 5 cp) (run_ld25 ((hE.out.at_ 2 _ _ rfl).2.cell 0 _ rfl) rfl rfl) ?_) | (go_at_call 55;first | (refine (lat (j :=0) (.inl ⟨rfl,rfl⟩) ((hE.out.at_ 2 _ _ rfl).2.cell 0 _ rfl) (hc0.out _ hE.out.b) w0.out).mono ?_;rintro e V3 ⟨rfl,hb⟩;replace hE :=Aside0.mk (hE.out.under hb);clear hb) | (refine (lat (j :=1) (.inr (.inl ⟨rfl,rfl⟩)) ((hE.out.at_ 2 _ _ rfl).2.cell 0 _ rfl) (hc1.out _ hE.out.b) w1.out).mono ?_;rintro e V3 ⟨rfl,hb⟩;replace hE :=Aside0.mk (hE.out.under hb);clear hb) | (refine (lat (j :=3) (.inr (.inr ⟨rfl,rfl⟩)) ((hE.out.at_ 2 _ _ rfl).2.cell 0 _ rfl) (hc3.out _ hE.out.b) w3.out).mono ?_;rintro e V3 ⟨rfl,hb⟩;replace hE :=Aside0.mk (hE.out.under hb);clear hb)) | (go_at_call 56;first | (refine (ydf.calls _ true _ (by decide)).mono ?_;rintro e V3 ⟨rfl,hd5⟩;replace hE :=Aside0.mk (hE.out.under (zai hd5));clear hd5) | (refine (ydf.calls _ false _ (by decide)).mono ?_;rintro e V3 ⟨rfl,hd5⟩;replace hE :=Aside0.mk (hE.out.under (zai hd5));clear hd5) | (refine (ydf.calls _ false _ hl.out).mono ?_;rintro e V3 ⟨rfl,hd5⟩;replace hE :=Aside0.mk (hE.out.under (zai hd5));clear hd5)) | ((with_reducible refine gate_store 3 ?_);refine zau hE.out rfl 0 rfl 3 _ _ rfl _ _ rfl rfl (by kernel_rfl) rfl rfl (by simp [insC]) ?_;intro V hE';(try dsimp only [List.set_cons_zero,List.set_cons_succ] at hE');replace hE :=Aside0.mk hE';clear hE') | ((with_reducible refine gate_load 3 ?_);(try refine gate_guard (by rfl) ?_);first | (refine zag hE.out rfl 0 rfl _ rfl _ _ rfl rfl ?_)))
  replace hE : Aside0 (Env W _ [(_,insC 0 0 _ 0 0 1),(_,insC 0 0 0 0 0 0),(_,#[.slice (some ⟨gs,0,none⟩) 5 cp])]) :=⟨hE.out⟩
  go_wp2_with (first | ((with_reducible refine gate_load 28 ?_);refine zaf hE.out rfl 0 rfl 28 _ rfl rfl (ld28 _ _ _ _ _ _ _) ?_) | ((with_reducible refine gate_store 28 ?_);refine zac hE.out rfl 1 rfl 28 _ _ rfl _ rfl rfl rfl (by kernel_rfl) (zbc _ _ _ _ _ _) ?_;intro V hE';(try dsimp only [List.set_cons_zero,List.set_cons_succ] at hE');replace hE :=Aside0.mk hE';clear hE'))
  have r1 :=run_loadVar_mid (P :=Tryz.prog) _ _ 0 28 (insC 0 0 _ 0 0 1).toList _ (hE.out.at_ 1 _ _ rfl).2.range Tryz.underlying28 rfl zca
  refine bodyPost_ret (v :=.tuple #[.agg (insC 0 0 _ 0 0 1),.int .i64 0]) ?_ rfl ⟨rfl,hE.out.b⟩
  simp [results,Tryz.results43,asAddr,r1,Act.put] <;> rfl
theorem dofB {W : World} {gs cp : Nat} {b0 b1 b2 b3 b4 : Int} (hc0 : ∀ V,Below W.heap.size W V → V.cell? ⟨gs,0,none⟩ = some (.int .u8 b0)) (hc1 : ∀ V,Below W.heap.size W V → V.cell? ⟨gs,1,none⟩ = some (.int .u8 b1)) (hc2 : ∀ V,Below W.heap.size W V → V.cell? ⟨gs,2,none⟩ = some (.int .u8 b2)) (hc3 : ∀ V,Below W.heap.size W V → V.cell? ⟨gs,3,none⟩ = some (.int .u8 b3)) (hc4 : ∀ V,Below W.heap.size W V → V.cell? ⟨gs,4,none⟩ = some (.int .u8 b4)) (w0 : wrap64 b0 = b0) (w1 : wrap64 b1 = b1) (w2 : wrap64 b2 = b2) (w3 : wrap64 b3 = b3) (w4 : wrap64 b4 = b4) (hcp : 5 ≤ cp) {x : Int} (h : (b0 = 221 ∧ x = 1) ∨ (b0 = 253 ∧ x = 2)) (h1 : b1 = 203) :
  Calls Tryz.prog 43 #[.slice (some ⟨gs,0,none⟩) 5 cp] W fun e V => e = .returned (.tuple #[.agg (insC 3 x b3 (i8 b2) 0 4),.int .i64 0]) ∧ Below W.heap.size W V :=by
 have hE :=Aside0.mk (Env.nil W)
 replace hc0 :=Aside0.mk hc0
 replace hc1 :=Aside0.mk hc1
 replace hc2 :=Aside0.mk hc2
 replace hc3 :=Aside0.mk hc3
 replace hc4 :=Aside0.mk hc4
 replace w0 :=Aside0.mk w0
 replace w1 :=Aside0.mk w1
 replace w2 :=Aside0.mk w2
 replace w3 :=Aside0.mk w3
 replace w4 :=Aside0.mk w4
 have q1 : 1 ≤ cp :=by omega
 have q2 : 2 ≤ cp :=by omega
 have q3 : 3 ≤ cp :=by omega
 have q4 : 4 ≤ cp :=by omega
 replace hcp :=Aside0.mk hcp
 subst h1
 rcases h with ⟨rfl,rfl⟩ | ⟨rfl,rfl⟩
 all_goals
  go_enter Tryz.func43,Tryz.ntmps43
  go_upto_region 21 with (first | ((with_reducible refine gate_box 25 ?_);refine zab hE.out rfl (#[.slice (some ⟨gs,0,none⟩) 5 cp]) 25 rfl ?_;intro V g1 hE';replace hE :=Aside0.mk hE';clear hE') | ((with_reducible refine gate_alloc 28 ?_);refine zab hE.out rfl (insC 0 0 0 0 0 0) 28 (by kernel_rfl) ?_;intro V g hE';replace hE :=Aside0.mk hE';clear hE') | ((with_reducible refine gate_load 25 ?_);refine zap rfl (.slice (some ⟨gs,0,none⟩) 5 cp) (run_ld25 ((hE.out.at_ 2 _ _ rfl).2.cell 0 _ rfl) rfl rfl) ?_) | (go_at_call 55;first | (refine (lat (j :=0) (.inl ⟨rfl,rfl⟩) ((hE.out.at_ 2 _ _ rfl).2.cell 0 _ rfl) (hc0.out _ hE.out.b) w0.out).mono ?_;rintro e V3 ⟨rfl,hb⟩;replace hE :=Aside0.mk (hE.out.under hb);clear hb) | (refine (lat (j :=1) (.inr (.inl ⟨rfl,rfl⟩)) ((hE.out.at_ 2 _ _ rfl).2.cell 0 _ rfl) (hc1.out _ hE.out.b) w1.out).mono ?_;rintro e V3 ⟨rfl,hb⟩;replace hE :=Aside0.mk (hE.out.under hb);clear hb) | (refine (lat (j :=3) (.inr (.inr ⟨rfl,rfl⟩)) ((hE.out.at_ 2 _ _ rfl).2.cell 0 _ rfl) (hc3.out _ hE.out.b) w3.out).mono ?_;rintro e V3 ⟨rfl,hb⟩;replace hE :=Aside0.mk (hE.out.under hb);clear hb)) | (go_at_call 56;first | (refine (ydf.calls _ true _ (by decide)).mono ?_;rintro e V3 ⟨rfl,hd5⟩;replace hE :=Aside0.mk (hE.out.under (zai hd5));clear hd5) | (refine (ydf.calls _ false _ (by decide)).mono ?_;rintro e V3 ⟨rfl,hd5⟩;replace hE :=Aside0.mk (hE.out.under (zai hd5));clear hd5) | (refine (ydf.calls _ false _ hl.out).mono ?_;rintro e V3 ⟨rfl,hd5⟩;replace hE :=Aside0.mk (hE.out.under (zai hd5));clear hd5)) | ((with_reducible refine gate_store 3 ?_);refine zau hE.out rfl 0 rfl 3 _ _ rfl _ _ rfl rfl (by kernel_rfl) rfl rfl (by simp [insC]) ?_;intro V hE';(try dsimp only [List.set_cons_zero,List.set_cons_succ] at hE');replace hE :=Aside0.mk hE';clear hE') | ((with_reducible refine gate_load 3 ?_);(try refine gate_guard (by rfl) ?_);first | (refine zag hE.out rfl 0 rfl _ rfl _ _ rfl rfl ?_)))
  replace hE : Aside0 (Env W _ [(_,insC 0 _ _ 0 0 0),(_,insC 0 0 0 0 0 0),(_,#[.slice (some ⟨gs,0,none⟩) 5 cp])]) :=⟨hE.out⟩
  go_wp2_with (first | ((with_reducible refine gate_region 21 ?_);go_must ((refine zak (fun V => Env W V [(_,_),(_,_),(_,_)]) [(0,0),(2,0),(1,1),(4,1),(5,0),(6,1),(7,0),(8,0),(3,2)] [9,10,11] [9,10,11] 12 (by kernel_rfl) rfl rfl (by kernel_rfl) (by intro c a d v w h;cases d <;> exact h) (hE.out.drewN 1) ?_);replace hE :=Aside0.mk (hE.out.drewN 1);have hS0 :=hE.out;(refine Sch.pureN (v :=?_) (a' :=?_) rfl rfl (by rfl) ?_ ?_ ?_;rotate_left 2;(· (intro w';go_simp <;> (repeat (first | rw [if_pos (by omega)] | rw [if_neg (by omega)])) <;> with_reducible rfl));(· (simp only [aput] <;> rfl)));(refine Sch.pureN (v :=?_) (a' :=?_) rfl rfl (by rfl) ?_ ?_ ?_;rotate_left 2;(· (intro w';go_simp <;> (repeat (first | rw [if_pos (by omega)] | rw [if_neg (by omega)])) <;> with_reducible rfl));(· (simp only [aput] <;> rfl)));(refine Sch.takeN (v :=?_) (a' :=?_) rfl rfl (by rfl) hS0 ?_ ?_ ?_;rotate_left 2;(· (intro w' hS';have qq :=(hS'.at_ 0 _ _ rfl).2.cell 1 _ rfl;go_simp <;> with_reducible rfl));(· (simp only [aput] <;> rfl)));(refine Sch.takeN (v :=.slice (some ⟨gs,0,none⟩) 5 cp) (a' :=?_) rfl rfl (by rfl) hS0 (fun w' hS' => run_ld25 ((hS'.at_ 2 _ _ rfl).2.cell 0 _ rfl) rfl rfl) ?_ ?_;rotate_left;(· (simp only [aput] <;> rfl)));(refine Sch.pureN (v :=?_) (a' :=?_) rfl rfl (by rfl) ?_ ?_ ?_;rotate_left 2;(· (intro w';go_simp <;> (repeat (first | rw [if_pos (by omega)] | rw [if_neg (by omega)])) <;> with_reducible rfl));(· (simp only [aput] <;> rfl)));(refine Sch.takeN (v :=?_) (a' :=?_) rfl rfl (by rfl) hS0 ?_ ?_ ?_;rotate_left 2;(· (intro w' hS';have qq :=hc2.out _ hS'.b;go_simp <;> with_reducible rfl));(· (simp only [aput] <;> rfl)));(refine Sch.pureN (v :=?_) (a' :=?_) rfl rfl (by rfl) ?_ ?_ ?_;rotate_left 2;(· (intro w';go_simp <;> (repeat (first | rw [if_pos (by omega)] | rw [if_neg (by omega)])) <;> with_reducible rfl));(· (simp only [aput] <;> rfl)));(refine Sch.pureN (v :=?_) (a' :=?_) rfl rfl (by rfl) ?_ ?_ ?_;rotate_left 2;(· (intro w';go_simp <;> (repeat (first | rw [if_pos (by omega)] | rw [if_neg (by omega)])) <;> with_reducible rfl));(· (simp only [aput] <;> rfl)));(refine Sch.callv (N :=some 52) rfl rfl Tryz.func55 (by kernel_rfl) rfl #[.int .i64 3,.pointer (some ⟨g1,0,none⟩)] (by rfl) rfl rfl (by simp [Act.eval]) ?_;refine (lat (j :=3) (.inr (.inr ⟨rfl,rfl⟩)) ((hE.out.at_ 2 _ _ rfl).2.cell 0 _ rfl) (hc3.out _ hE.out.b) w3.out).mono ?_;rintro e V3 ⟨rfl,hb⟩;replace hE :=Aside0.mk (hE.out.under hb);replace hS0 :=hS0.under hb;clear hb;refine ⟨hS0,?_⟩;refine Sch.norm (a' :=?_) ?_ ?_;rotate_left;(· (simp only [aput] <;> rfl)));(refine Sch.tail 9 3 rfl rfl ?_;simp only [List.drop_succ_cons,List.drop_zero,List.drop_nil]))) | ((with_reducible refine gate_bld 28 ?_);refine zao rfl rfl (.agg (insC 3 _ b3 (i8 b2) 0 4)) (by kernel_rfl) ?_) | ((with_reducible refine gate_store 28 ?_);refine zac hE.out rfl 1 rfl 28 _ _ rfl _ rfl rfl rfl (by kernel_rfl) (zbc _ _ _ _ _ _) ?_;intro V hE';(try dsimp only [List.set_cons_zero,List.set_cons_succ] at hE');replace hE :=Aside0.mk hE';clear hE'))
  have r1 :=run_loadVar_mid (P :=Tryz.prog) _ _ 0 28 (insC 3 _ b3 (i8 b2) 0 4).toList _ (hE.out.at_ 1 _ _ rfl).2.range Tryz.underlying28 rfl zca
  refine bodyPost_ret (v :=.tuple #[.agg (insC 3 _ b3 (i8 b2) 0 4),.int .i64 0]) ?_ rfl ⟨rfl,hE.out.b⟩
  simp [results,Tryz.results43,asAddr,r1,Act.put] <;> rfl
end Go.Proofs.YtnelghpendfdmaaGreatDoor.KRow
