import Derived.Test.YtnelghpendfdmaaGreatDoorKRq
namespace Go.Proofs.YtnelghpendfdmaaGreatDoor.KRow
open Go Go.RowKit Go.Proofs.YtnelghpendfdmaaGreatDoorW.PrintWords Go.Proofs.YtnelghpendfdmaaGreatDoorW.PrintLast Go.Proofs.YtnelghpendfdmaaGreatDoorW.PrintMore
open Go.Proofs.YtnelghpendfdmaaGreatDoor.HFun
set_option linter.unusedVariables false
set_option linter.unusedSimpArgs false
set_option maxRecDepth 100000
set_option maxHeartbeats 16000000
theorem Env.kpf {w0 V V' : World} {bs : List (Nat × Array Value)} {r : Nat} (h : Env w0 V bs) (hk : Kp r V V') (hle : w0.heap.size ≤ r) (hne : ∀ (j g : Nat) (cs : Array Value),bs[j]? = some (g,cs) → g ≠ r) : Env w0 V' bs :=
 ⟨h.b.trans (hk.below h.size hle),fun j g cs hj => ⟨(h.at_ j g cs hj).1,(h.at_ j g cs hj).2.kp hk (hne j g cs hj)⟩,h.ne⟩
theorem wpList_stM {V : World} {g : Nat} {ρ : Rg} {m : Nat → Int} (h : FlatB V g ρ m) {ops : Array Oper} {rest : List Oper} {op : Oper} {a : Act} {Q : Exit → Act → World → Prop} (hgd : op.guard = none) (x y : Operand) (ho : op.op = .store 5 x y) (k0 : Nat) (v : Int)
  (hx : a.eval x = .pointer (some ⟨g,24 + k0,none⟩)) (hy : a.eval y = .int .u8 v) (hlt : k0 < 65536)
  (k : ∀ V',V' = V.setCell ⟨g,24 + k0,none⟩ (.int .u8 v) → wpList Tryz.prog ops Q rest (a.put op.dst undef) V') : wpList Tryz.prog ops Q (op :: rest) a V :=by
 refine wpList_plain hgd fun _ hK => ?_
 have hrun :=run_storeVar_one (W :=V) (g :=g) (ty :=5) (by kernel_rfl) (.int .u8 v) (24 + k0) rfl rfl (by rw [h.mem k0 hlt];rfl) (h.frz _)
 unfold Oper.wp execOp
 simp only [ho,hx,hy,Instr.storeAt,Instr.sureAddr,Sem.run_bind,Sem.run_pure,Result.andThen_ok,hrun]
 exact hK _ _ (k _ rfl)
theorem wpList_boxF {w0 V : World} {bs : List (Nat × Array Value)} (h : Env w0 V bs) {ρ : Rg} {ops : Array Oper} {rest : List Oper} {op : Oper} {a : Act} {Q : Exit → Act → World → Prop} (hgd : op.guard = none) (x : Operand) (ho : op.op = .box 80 x) (hx : a.eval x = .agg (c80 ρ))
  (k : ∀ V' g,Env w0 V' bs → w0.heap.size ≤ g → (∀ (j g' : Nat) (cs : Array Value),bs[j]? = some (g',cs) → g' ≠ g) → FlatB V' g ρ (fun _ => 0) → wpList Tryz.prog ops Q rest (a.put op.dst (.pointer (some ⟨g,0,none⟩))) V') : wpList Tryz.prog ops Q (op :: rest) a V :=by
 refine wpList_plain hgd fun _ hK => ?_
 have hrun : (execOp a.eval op).run Tryz.prog V = .ok (.value (.pointer (some ⟨V.heap.size,0,none⟩))) (V.alloc (.cells (c80 ρ) 80)) :=by
  unfold execOp
  simp only [ho,hx]
  generalize c80 ρ = cs
  rfl
 unfold Oper.wp
 simp only [hrun]
 exact hK _ _ (k _ _ (h.under (below_alloc (Below.refl _ _) _)) h.size (fun j g' cs hj he => by have :=h.lt hj;omega) (flat_new V ρ 80))
def wrUp (a : Int) (b : List Int) : Nat → Nat → Int
 | 0 => fun _ => 0
 | i + 1 => wrM (wrUp a b i) ((a + (i : Int)) % 65536).toNat (rd b (i : Int))
theorem lnew {W : World} {A : Option Addr} {b : List Int} {cp : Nat} {ρ : Rg} {a : Int} (hG : ∀ V,Below W.heap.size W V → Kd.C (Kd.int .u8) V A b.length b) (hcp : b.length ≤ cp) (hbr : ∀ x ∈ b,0 ≤ x ∧ x < 256) (hok : (decide (ρ.im < 0) || decide (ρ.im > 2)) = false) (hl : b.length ≤ 300) (a0 : 0 ≤ a) (a1 : a < 65536) :
  Calls Tryz.prog 13 #[.agg ρ.vals,.int .u16 a,.slice A b.length cp] W fun e V => ∃ g : Nat,e = .returned (.tuple #[.pointer (some ⟨g,0,none⟩),.int .i64 0]) ∧ Below W.heap.size W V ∧ W.heap.size ≤ g ∧ FlatB V g ρ (wrUp a b b.length) :=by
 have hck : regs_Check.f ρ.a ρ.f ρ.b ρ.c ρ.d ρ.e ρ.h ρ.l ρ.i ρ.r ρ.ix ρ.iy ρ.sp ρ.pc ρ.wz ρ.af ρ.bc ρ.de ρ.hl ρ.ff1 ρ.ff2 ρ.im ρ.halt ρ.late = some 0 :=by
  simp only [Bool.or_eq_false_iff,decide_eq_false_iff_not] at hok
  unfold regs_Check.f
  rw [if_neg (by omega),if_neg (by omega)]
 have hE :=Aside0.mk (Env.nil W)
 replace hG :=Aside0.mk hG
 replace hcp :=Aside0.mk hcp
 replace hbr :=Aside0.mk hbr
 replace hck :=Aside0.mk hck
 have dl : decide (65536 < (b.length : Int)) = false :=decide_eq_false (by omega)
 replace hl :=Aside0.mk hl
 replace a0 :=Aside0.mk a0
 replace a1 :=Aside0.mk a1
 clear hok
 obtain ⟨k,hk⟩ : ∃ k,k = b.length :=⟨_,rfl⟩
 replace hk :=Aside0.mk hk
 go_enter Tryz.func13,Tryz.ntmps13
 go_upto_region 7 with (first | ((with_reducible refine gate_box 24 ?_);refine wpList_new hE.out rfl (Rg.vals _) 24 rfl ?_;intro V g3 hE';replace hE :=Aside0.mk hE';clear hE') | ((with_reducible refine gate_load 24 ?_);refine wpList_ld hE.out rfl 0 rfl 24 _ rfl rfl (ld24 _ _) ?_) | (go_at_call 41;refine (regs_Check.calls _ _ _ _ _ _ _ _ _ _ _ _ _ _ _ _ _ _ _ _ _ _ _ _ _ _ hck.out).mono ?_;rintro e V2 ⟨rfl,hb⟩;replace hE :=Aside0.mk (hE.out.under hb);clear hb) | ((with_reducible refine gate_bld 80 ?_);refine wpList_bld24 rfl rfl (.agg (c80 ρ)) (run_build80 rfl rfl rfl _) ?_) | ((with_reducible refine gate_box 80 ?_);refine wpList_boxF hE.out rfl _ rfl rfl ?_;intro V gF hE' hgF hne hF;replace hE :=Aside0.mk hE';replace hgF :=Aside0.mk hgF;replace hne :=Aside0.mk hne;replace hF :=Aside0.mk hF;clear hE'))
 go_wp2_with fail
 go_loopg [25] k (fun kq v25 w' => ∃ (i : Nat),Aside0 (kq + i = b.length) ∧ Aside0 (Env W w' [(g3,ρ.vals)]) ∧ Aside0 (FlatB w' gF ρ (wrUp a b i)) ∧ v25 = .int .i64 (i : Int))
 case atStart => exact ⟨0,⟨by have :=hk.out;omega⟩,hE,hF,rfl⟩
 case round =>
  obtain ⟨i,hi,hE,hF,rfl⟩ :=hrel
  cases gk with
  | zero =>
   have hi' : i = b.length :=by have :=hi.out;omega
   subst hi'
   have d1 : decide ((b.length : Int) < (b.length : Int)) = false :=decide_eq_false (by omega)
   go_wp2_with fail
   go_ret2
   exact ⟨gF,rfl,hE.out.b,hgF.out,hF.out⟩
  | succ k1 =>
   have hlt : i < b.length :=by have :=hi.out;omega
   obtain ⟨ad,ea,_⟩ :=Kd.at_int (hG.out _ (Below.refl _ _)) (i : Int) (by omega) (by omega)
   subst ea
   have hcell : ∀ V,Below W.heap.size W V → V.cell? (ad.add i) = some (.int .u8 (rd b i)) :=fun V hb => by
    obtain ⟨ad',e',h'⟩ :=Kd.at_int (hG.out V hb) (i : Int) (by omega) (by omega)
    cases e'
    simpa using h'
   replace hcell :=Aside0.mk hcell
   have hx : IntKind.u16.wrap (a + IntKind.u16.wrap (i : Int)) = (a + (i : Int)) % 65536 :=by simp only [B.wu16];omega
   have e6 : wrap64 ((i : Int) + 1) = ((i + 1 : Nat) : Int) :=by rw [B.w64 (by omega) (by have :=hl.out;omega)];omega
   have hb1 : IntKind.u16.wrap (a + IntKind.u16.wrap (i : Int)) < 65536 :=by rw [hx];omega
   replace hx :=Aside0.mk hx
   go_wp2_with (first | ((with_reducible refine gate_load 5 ?_);refine wpList_ld8 rfl _ rfl rfl (hcell.out _ hE.out.b) ?_) | ((with_reducible refine gate_store 5 ?_);refine wpList_stM hF.out rfl _ _ rfl _ _ rfl rfl (by rw [hx.out];omega) ?_;intro V' hV';rw [hx.out] at hV';replace hE :=Aside0.mk (hE.out.kpf (r :=gF) (V' :=V') (by rw [hV'];exact (Kp.refl gF _).setCell _ _) hgF.out hne.out);replace hF : Aside0 (FlatB V' gF ρ (wrUp a b (i + 1))) :=⟨by rw [hV'];exact hF.out.setMem (a :=((a + (i : Int)) % 65536).toNat) (by omega) _⟩;clear hV'))
   go_roundg k1
   case measure => omega
   case rel => exact ⟨i + 1,⟨by have :=hi.out;omega⟩,hE,hF,by rw [e6]⟩
end Go.Proofs.YtnelghpendfdmaaGreatDoor.KRow
/-
 PROVED: the contract of the closure in (*length.Flat).Step.
-/
namespace Go.Proofs.YtnelghpendfdmaaGreatDoor.KRow
open Go Go.RowKit Go.Proofs.YtnelghpendfdmaaGreatDoorW.PrintWords Go.Proofs.YtnelghpendfdmaaGreatDoorW.PrintLast Go.Proofs.YtnelghpendfdmaaGreatDoorW.PrintMore
open Go.Proofs.YtnelghpendfdmaaGreatDoor.HFun
set_option linter.unusedVariables false
set_option linter.unusedSimpArgs false
theorem run_ldF {V : World} {g : Nat} {ρ : Rg} {m : Nat → Int} (h : FlatB V g ρ m) {ev : Operand → Value} {op : Oper} {x : Operand} (ho : op.op = .load 24 x) (hx : ev x = .pointer (some ⟨g,0,none⟩)) : (execOp ev op).run Tryz.prog V = .ok (.value (.agg ρ.vals)) V :=by
 have :=ld24 g ρ V h.range
 unfold execOp
 simp only [ho,hx,this,Sem.run_bind,Sem.run_pure,Result.andThen_ok]
theorem Env.none' {w0 V : World} {bs : List (Nat × Array Value)} (h : Env w0 V bs) : Env w0 V [] :=⟨h.b,fun j g cs hj => by simp at hj,fun i j g c c' hi _ => by simp at hi⟩
set_option maxHeartbeats 16000000 in
set_option maxRecDepth 100000 in
theorem lclos {W : World} {A : Option Addr} {gl : List Int} {cp : Nat} {ρ : Rg} {m : Nat → Int} {gb gF : Nat} (hb0 : ∀ V,Below W.heap.size W V → V.cell? ⟨gb,0,none⟩ = some (.pointer (some ⟨gF,0,none⟩))) (hF : FlatB W gF ρ m) (hG : ∀ V,Below W.heap.size W V → Kd.C (Kd.int .u8) V A gl.length gl) (hcp : gl.length ≤ cp) (hr : ∀ x ∈ gl,0 ≤ x ∧ x < 256) (ht : Table W) (i0 : 0 ≤ ρ.im) (i2 : ρ.im ≤ 2) (p0 : 0 ≤ ρ.pc) (p1 : ρ.pc < 65536) {c : To} (hc : nx ρ (m (IntKind.u16.wrap (ρ.pc + 1)).toNat) gl = c) :
  Calls Tryz.prog 45 #[.slice A gl.length cp,.pointer (some ⟨gb,0,none⟩)] W fun e V => e = .returned c.val ∧ Below W.heap.size W V :=by
 have hw : IntKind.u16.wrap (ρ.pc + 1) = (ρ.pc + 1) % 65536 :=B.wu16 _
 have hpw : Aside0 ((IntKind.u16.wrap (ρ.pc + 1)).toNat < 65536) :=⟨by rw [hw];omega⟩
 have hlt : IntKind.u16.wrap (ρ.pc + 1) < 65536 :=by rw [hw];omega
 have hge : 0 ≤ IntKind.u16.wrap (ρ.pc + 1) :=by rw [hw];omega
 clear hw
 have hE :=Aside0.mk (Env.nil W)
 replace hb0 :=Aside0.mk hb0
 replace hF :=Aside0.mk hF
 replace hG :=Aside0.mk hG
 replace hcp :=Aside0.mk hcp
 replace hr :=Aside0.mk hr
 replace ht :=Aside0.mk ht
 replace i0 :=Aside0.mk i0
 replace i2 :=Aside0.mk i2
 replace hc :=Aside0.mk hc
 obtain ⟨ck,ca,cv,ct,cs,cd,ce⟩ :=c
 go_enter Tryz.func45,Tryz.ntmps45
 go_upto_region 1 with (first | ((with_reducible refine gate_alloc 56 ?_);refine wpList_new hE.out rfl (reqC 0 0 0 0) 56 (by kernel_rfl) ?_;intro V g hE';replace hE :=Aside0.mk hE';clear hE') | ((with_reducible refine gate_alloc 24 ?_);refine wpList_new hE.out rfl (zeroRg.vals) 24 (by kernel_rfl) ?_;intro V g hE';replace hE :=Aside0.mk hE';clear hE'))
 go_wp2_with (first | ((with_reducible refine gate_region 1 ?_);go_must ((refine region_sch (fun V => Env W V []) [(4,0),(0,1),(1,0),(2,0),(3,1),(5,1),(12,0),(13,0),(6,1),(7,0),(8,0),(9,0),(10,1),(11,0),(14,0),(15,1),(16,2),(17,0),(18,0),(19,0)] [20,21,22,23,24] [20,21,22,23,24] 25 (by kernel_rfl) rfl rfl (by kernel_rfl) (by intro c a d v w h;cases d <;> exact h) ((hE.out.drewN 1).none') ?_);replace hE :=Aside0.mk (hE.out.drewN 1);have hS0 :=hE.out.none';(repeat (first | (refine Sch.pureN (v :=?_) (a' :=?_) rfl rfl (by rfl) ?_ ?_ ?_;rotate_left 2;(· (intro w';go_simp <;> (repeat (fail)) <;> with_reducible rfl));(· (simp only [aput] <;> rfl))) | (refine Sch.takeN (v :=?_) (a' :=?_) rfl rfl (by rfl) hS0 ?_ ?_ ?_;rotate_left 2;(· (intro w' hS';have qq :=hb0.out _ hS'.b;go_simp <;> with_reducible rfl));(· (simp only [aput] <;> rfl))) | (refine Sch.takeN (a' :=?_) rfl rfl (by rfl) hS0 (fun w' hS' => run_ldF (hF.out.under hS'.b) rfl rfl) ?_ ?_;rotate_left;(· (simp only [aput] <;> rfl))) | (refine Sch.takeN (v :=?_) (a' :=?_) rfl rfl (by rfl) hS0 ?_ ?_ ?_;rotate_left 2;(· (intro w' hS';have qq :=(hF.out.under hS'.b).regs 13 _ rfl;go_simp <;> with_reducible rfl));(· (simp only [aput] <;> rfl))) | (refine Sch.takeN (v :=?_) (a' :=?_) rfl rfl (by rfl) hS0 ?_ ?_ ?_;rotate_left 2;(· (intro w' hS';have qq :=(hF.out.under hS'.b).mem _ hpw.out;go_simp <;> with_reducible rfl));(· (simp only [aput] <;> rfl)))));(refine Sch.call (N :=some 23) rfl rfl Tryz.func29 (by kernel_rfl) rfl ?_ (by rfl) rfl ?_ ?_;rotate_left;(· (go_simp <;> with_reducible rfl));refine (nextAll (gl :=gl) (A :=A) (cp :=cp) (ρ :=ρ) (peek :=_) (fun V' hb' => hG.out V' (hE.out.b.trans (hb'.mono hE.out.size))) hcp.out hr.out (env_tab hE.out ht.out) i0.out i2.out).mono ?_;rintro e V3 ⟨rfl,hb⟩;have hc2 :=hc.out;unfold nx at hc2;rw [hc2];clear hc2;replace hE :=Aside0.mk (hE.out.under hb);replace hS0 :=hS0.under hb;clear hb;dsimp only [To.val];refine ⟨hS0,?_⟩;refine Sch.norm (a' :=?_) ?_ ?_;rotate_left;(· (simp only [aput] <;> rfl)));(repeat (refine Sch.pureN (v :=?_) (a' :=?_) rfl rfl (by rfl) ?_ ?_ ?_;rotate_left 2;(· (intro w';go_simp <;> (repeat (fail)) <;> with_reducible rfl));(· (simp only [aput] <;> rfl))));(refine Sch.tail 20 5 rfl rfl ?_;simp only [List.drop_succ_cons,List.drop_zero,List.drop_nil]))) | ((with_reducible refine gate_store 56 ?_);(refine wpList_st hE.out rfl 1 rfl 56 _ _ rfl _ rfl rfl rfl (by kernel_rfl) (reqC_one _ _ _ _) ?_);intro V hE';(try dsimp only [List.set_cons_zero,List.set_cons_succ] at hE');replace hE :=Aside0.mk hE';clear hE') | ((with_reducible refine gate_store 24 ?_);(refine wpList_st hE.out rfl 0 rfl 24 _ _ rfl _ rfl rfl rfl (by kernel_rfl) (vals_one _) ?_);intro V hE';(try dsimp only [List.set_cons_zero,List.set_cons_succ] at hE');replace hE :=Aside0.mk hE';clear hE'))
 have r1 :=run_loadVar_mid (P :=Tryz.prog) _ _ 0 56 (reqC _ _ _ _).toList _ (hE.out.at_ 1 _ _ rfl).2.range Tryz.underlying56 rfl info56
 have r2 :=run_loadVar_mid (P :=Tryz.prog) _ _ 0 24 (Rg.vals _).toList _ (hE.out.at_ 0 _ _ rfl).2.range Tryz.underlying24 rfl info24
 refine bodyPost_ret (v :=To.val _) ?_ rfl ⟨rfl,hE.out.b⟩
 simp [results,Tryz.results45,asAddr,r1,r2,To.val]
end Go.Proofs.YtnelghpendfdmaaGreatDoor.KRow
