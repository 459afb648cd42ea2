/-
 PROVED: the contracts of the row's methods instruction and interrupt.
-/
import Derived.Test.YtnelghpendfdmaaGreatDoorKMj
import Derived.Test.YtnelghpendfdmaaGreatDoorKTb
namespace Go.Proofs.YtnelghpendfdmaaGreatDoor.KRow
set_option maxRecDepth 100000
set_option maxHeartbeats 16000000
open Go Go.RowKit Go.Proofs.YtnelghpendfdmaaGreatDoorW.PrintWords Go.Proofs.YtnelghpendfdmaaGreatDoorW.PrintLast Go.Proofs.YtnelghpendfdmaaGreatDoorW.PrintMore
open Go.Proofs.YtnelghpendfdmaaGreatDoor.HFun
set_option linter.unusedVariables false
set_option linter.unusedSimpArgs false
theorem halt_eta {ρ : Rw} {b : Bool} (hh : ρ.halt = b) : ρ = { ρ with halt :=b } :=by
 rcases ρ with ⟨⟨⟩,_,_,_,_⟩
 simp only at hh
 subst hh
 rfl
theorem instr_halt {W : World} {g : Nat} {A : Option Addr} {gl : List Int} {cp n : Nat} {ρ : Rw} (h : RowAt W g A gl cp n ρ) (hh : ρ.halt = true) :
  Calls Tryz.prog 51 #[.pointer (some ⟨g,0,none⟩)] W (Post W g A gl cp (fun _ : Unit => .tuple #[]) (Tr.run gl (ρ.halted.bind fun _ ρ => .ret () ρ) n)) :=by
 obtain ⟨o,ho⟩ : ∃ o,o = Tr.run gl (ρ.halted.bind fun _ ρ => .ret () ρ) n :=⟨_,rfl⟩
 rw [← ho]
 have hs :=ho
 clear ho
 obtain ⟨σ,rfl⟩ : ∃ σ : Rw,ρ = { σ with halt :=true } :=⟨ρ,halt_eta hh⟩
 clear hh
 replace hs :=Aside0.mk hs
 have HK :=Aside0.mk (Kp.refl g W)
 replace h :=Aside0.mk h
 skip;have c22 :=h.out.cell 22 _ rfl;(try dsimp only [Rw.put,Rw.regs,Rw.fetched] at c22)
 go_enter Tryz.func51,Tryz.ntmps51
 go_wp2_with (go_at_call 68;  refine Post.cpsA (halted h.out) ?_ ?_;(· exact (fun k a v t V ho hk => ⟨rfl,Post.asks (hs.out.trans (Tr.run_ask ho)) (HK.out.trans hk)⟩));intro v ρ1 n1 V ho hk hR;replace hs :=Aside0.mk (hs.out.trans (Tr.run_ok ho));clear ho;(try dsimp only [Rw.put,Rw.regs,Rw.fetched] at hR);replace h :=Aside0.mk hR;replace HK :=Aside0.mk (HK.out.trans hk);clear hR hk;(try clear c22);skip;have c22 :=h.out.cell 22 _ rfl;(try dsimp only [Rw.put,Rw.regs,Rw.fetched] at c22))
 all_goals ((go_end0;exact Post.done (enc :=fun _ : Unit => Value.tuple #[]) hs.out HK.out h.out))
theorem instr_true {W : World} {g : Nat} {A : Option Addr} {gl : List Int} {cp n : Nat} {ρ : Rw} (h : RowAt W g A gl cp n ρ) (hh : ρ.halt = false) (ho1 : (((gl.length : Nat) : Int) == 1) = true) :
  Calls Tryz.prog 51 #[.pointer (some ⟨g,0,none⟩)] W (Post W g A gl cp (fun _ : Unit => .tuple #[]) (Tr.run gl (ρ.instr true) n)) :=by
 obtain ⟨o,ho⟩ : ∃ o,o = Tr.run gl (ρ.instr true) n :=⟨_,rfl⟩
 rw [← ho]
 have hs :=ho
 clear ho
 unfold Rw.instr Rw.second at hs
 obtain ⟨σ,rfl⟩ : ∃ σ : Rw,ρ = { σ with halt :=false } :=⟨ρ,halt_eta hh⟩
 clear hh
 rw [if_neg (by exact Bool.false_ne_true)] at hs
 replace hs :=Aside0.mk hs
 have HK :=Aside0.mk (Kp.refl g W)
 replace h :=Aside0.mk h
 skip;have c22 :=h.out.cell 22 _ rfl;have c24 :=h.out.cell 24 _ rfl;have c26 :=h.out.cell 26 _ rfl;(try dsimp only [Rw.put,Rw.regs,Rw.fetched] at c22 c24 c26)
 go_enter Tryz.func51,Tryz.ntmps51
 go_wp2_with ((first | ((first | (go_at_call 69;(try (repeat (split at hs <;> first | (exfalso;(simp_all;done)) | skip)));refine Post.cpsA (fetch h.out) ?_ ?_;(· exact (fun k a v t V ho hk => ⟨rfl,Post.asks (hs.out.trans (Tr.run_ask ho)) (HK.out.trans hk)⟩));intro v ρ1 n1 V ho hk hR;replace hs :=Aside0.mk (hs.out.trans (Tr.run_ok ho));(have hi :=fetch_inv ho;subst hi);(try dsimp only [Rw.fetched] at hs)) | ((first | go_at_call 70 | go_at_call 71 | go_at_call 72 | go_at_call 73);(try (repeat (split at hs <;> first | (exfalso;(simp_all;done)) | skip)));(first | (go_at_call 70;refine Post.cpsA (setBoth h.out) ?_ ?_) | (go_at_call 71;refine Post.cpsA (main h.out _) ?_ ?_) | (go_at_call 72;refine Post.cpsA (setBits h.out _) ?_ ?_) | (go_at_call 73;refine Post.cpsA (setMore h.out _) ?_ ?_));(· exact (fun k a v t V ho hk => ⟨rfl,Post.asks (hs.out.trans (Tr.run_ask ho)) (HK.out.trans hk)⟩));intro v ρ1 n1 V ho hk hR;replace hs :=Aside0.mk (hs.out.trans (Tr.run_ok ho))));clear ho) | ((first | ((with_reducible refine gate_store 3 ?_);refine wpList_store_int h.out rfl _ _ rfl _ _ rfl rfl rfl (by decide) ?_) | ((with_reducible refine gate_store 4 ?_);refine wpList_store_bool h.out rfl _ _ rfl _ _ rfl rfl rfl (by decide) ?_));intro V hk hR));(try dsimp only [Rw.put,Rw.regs,Rw.fetched] at hR);replace h :=Aside0.mk hR;replace HK :=Aside0.mk (HK.out.trans hk);clear hR hk;(try clear c22 c24 c26);skip;have c22 :=h.out.cell 22 _ rfl;have c24 :=h.out.cell 24 _ rfl;have c26 :=h.out.cell 26 _ rfl;(try dsimp only [Rw.put,Rw.regs,Rw.fetched] at c22 c24 c26))
 all_goals (try (repeat (split at hs <;> first | (exfalso;(simp_all;done)) | skip)))
 all_goals ((go_end0;exact Post.done (enc :=fun _ : Unit => Value.tuple #[]) hs.out HK.out h.out))
theorem instr_false {W : World} {g : Nat} {A : Option Addr} {gl : List Int} {cp n : Nat} {ρ : Rw} (h : RowAt W g A gl cp n ρ) (hh : ρ.halt = false) (ho1 : (((gl.length : Nat) : Int) == 1) = false) :
  Calls Tryz.prog 51 #[.pointer (some ⟨g,0,none⟩)] W (Post W g A gl cp (fun _ : Unit => .tuple #[]) (Tr.run gl (ρ.instr false) n)) :=by
 obtain ⟨o,ho⟩ : ∃ o,o = Tr.run gl (ρ.instr false) n :=⟨_,rfl⟩
 rw [← ho]
 have hs :=ho
 clear ho
 unfold Rw.instr Rw.second at hs
 obtain ⟨σ,rfl⟩ : ∃ σ : Rw,ρ = { σ with halt :=false } :=⟨ρ,halt_eta hh⟩
 clear hh
 rw [if_neg (by exact Bool.false_ne_true)] at hs
 replace hs :=Aside0.mk hs
 have HK :=Aside0.mk (Kp.refl g W)
 replace h :=Aside0.mk h
 skip;have c22 :=h.out.cell 22 _ rfl;have c24 :=h.out.cell 24 _ rfl;have c26 :=h.out.cell 26 _ rfl;(try dsimp only [Rw.put,Rw.regs,Rw.fetched] at c22 c24 c26)
 go_enter Tryz.func51,Tryz.ntmps51
 go_wp2_with ((first | ((first | (go_at_call 69;(try (repeat (split at hs <;> first | (exfalso;(simp_all;done)) | skip)));refine Post.cpsA (fetch h.out) ?_ ?_;(· exact (fun k a v t V ho hk => ⟨rfl,Post.asks (hs.out.trans (Tr.run_ask ho)) (HK.out.trans hk)⟩));intro v ρ1 n1 V ho hk hR;replace hs :=Aside0.mk (hs.out.trans (Tr.run_ok ho));(have hi :=fetch_inv ho;subst hi);(try dsimp only [Rw.fetched] at hs)) | ((first | go_at_call 70 | go_at_call 71 | go_at_call 72 | go_at_call 73);(try (repeat (split at hs <;> first | (exfalso;(simp_all;done)) | skip)));(first | (go_at_call 70;refine Post.cpsA (setBoth h.out) ?_ ?_) | (go_at_call 71;refine Post.cpsA (main h.out _) ?_ ?_) | (go_at_call 72;refine Post.cpsA (setBits h.out _) ?_ ?_) | (go_at_call 73;refine Post.cpsA (setMore h.out _) ?_ ?_));(· exact (fun k a v t V ho hk => ⟨rfl,Post.asks (hs.out.trans (Tr.run_ask ho)) (HK.out.trans hk)⟩));intro v ρ1 n1 V ho hk hR;replace hs :=Aside0.mk (hs.out.trans (Tr.run_ok ho))));clear ho) | ((first | ((with_reducible refine gate_store 3 ?_);refine wpList_store_int h.out rfl _ _ rfl _ _ rfl rfl rfl (by decide) ?_) | ((with_reducible refine gate_store 4 ?_);refine wpList_store_bool h.out rfl _ _ rfl _ _ rfl rfl rfl (by decide) ?_));intro V hk hR));(try dsimp only [Rw.put,Rw.regs,Rw.fetched] at hR);replace h :=Aside0.mk hR;replace HK :=Aside0.mk (HK.out.trans hk);clear hR hk;(try clear c22 c24 c26);skip;have c22 :=h.out.cell 22 _ rfl;have c24 :=h.out.cell 24 _ rfl;have c26 :=h.out.cell 26 _ rfl;(try dsimp only [Rw.put,Rw.regs,Rw.fetched] at c22 c24 c26))
 all_goals (try (repeat (split at hs <;> first | (exfalso;(simp_all;done)) | skip)))
 all_goals ((go_end0;exact Post.done (enc :=fun _ : Unit => Value.tuple #[]) hs.out HK.out h.out))
theorem instr {W : World} {g : Nat} {A : Option Addr} {gl : List Int} {cp n : Nat} {ρ : Rw} (h : RowAt W g A gl cp n ρ) :
  Calls Tryz.prog 51 #[.pointer (some ⟨g,0,none⟩)] W (Post W g A gl cp (fun _ : Unit => .tuple #[]) (Tr.run gl (ρ.instr (((gl.length : Nat) : Int) == 1)) n)) :=by
 cases hh : ρ.halt
 ·cases ho : (((gl.length : Nat) : Int) == 1)
  ·exact instr_false h hh ho
  ·exact instr_true h hh ho
 ·have :=instr_halt h hh
  unfold Rw.instr
  rw [if_pos hh]
  exact this
end Go.Proofs.YtnelghpendfdmaaGreatDoor.KRow
/-
 PROVED: the contracts of step.Next and step.Accept.
-/
namespace Go.Proofs.YtnelghpendfdmaaGreatDoor.KRow
open Go Go.RowKit Go.Proofs.YtnelghpendfdmaaGreatDoorW.PrintWords Go.Proofs.YtnelghpendfdmaaGreatDoorW.PrintLast Go.Proofs.YtnelghpendfdmaaGreatDoorW.PrintMore
open Go.Proofs.YtnelghpendfdmaaGreatDoor.HFun
set_option linter.unusedVariables false
set_option linter.unusedSimpArgs false
theorem wpList_load_blk {ops : Array Oper} {rest : List Oper} {op : Oper} {a : Act} {Q : Exit → Act → World → Prop} {V : World} {g : Nat} {ρ : Rg} (h : BlkAt V g ρ.vals) (hgd : op.guard = none) (x : Operand) (ho : op.op = .load 24 x)
  (hx : a.eval x = .pointer (some ⟨g,0,none⟩)) (k : wpList Tryz.prog ops Q rest (a.put op.dst (.agg ρ.vals)) V) : wpList Tryz.prog ops Q (op :: rest) a V :=
 wpList_load_mid hgd 24 x ho g 0 hx ρ.vals.toList _ h.range Tryz.underlying24 rfl info24 k
theorem wpList_bld {ops : Array Oper} {rest : List Oper} {op : Oper} {a : Act} {Q : Exit → Act → World → Prop} {V : World} (hgd : op.guard = none) {parts : Array (Nat × Operand)} (ho : op.op = .build 91 parts) (v : Value) (hb : (execOp a.eval op).run Tryz.prog V = .ok (.value v) V)
  (k : wpList Tryz.prog ops Q rest (a.put op.dst v) V) : wpList Tryz.prog ops Q (op :: rest) a V :=by
 refine wpList_plain hgd fun _ hK => ?_
 unfold Oper.wp
 simp only [hb]
 exact hK _ _ k
structure NextAt (W V : World) (ρ : Rg) : Prop where
 b : Below W.heap.size W V
 s : BlkAt V W.heap.size ρ.vals
 q : BlkAt V (W.heap.size + 1) (reqC 0 0 0 0)
 z : BlkAt V (W.heap.size + 1 + 1) zeroRg.vals
theorem genNext {P : World → Prop} {W : World} {ρ : Rg} (k : ∀ V,NextAt W V ρ → P V) :
  P (((W.alloc (.cells ρ.vals 24)).alloc (.cells (reqC 0 0 0 0) 56)).alloc (.cells zeroRg.vals 24)) :=by
 have b1 :=below_alloc (Below.refl W.heap.size W) (.cells ρ.vals 24)
 have b2 :=below_alloc b1 (.cells (reqC 0 0 0 0) 56)
 have b3 :=below_alloc b2 (.cells zeroRg.vals 24)
 have up : ∀ (V : World) (o : Obj),Below V.heap.size V (V.alloc o) :=fun V o => below_alloc (Below.refl _ _) o
 refine k _ ⟨b3,?_,?_,?_⟩
 ·exact ((BlkAt.box W _ _).under (up _ _)).under (up _ _)
 ·have :=(BlkAt.box (W.alloc (.cells ρ.vals 24)) (reqC 0 0 0 0) 56).under (up _ (.cells zeroRg.vals 24))
  simpa using this
 ·have :=BlkAt.box ((W.alloc (.cells ρ.vals 24)).alloc (.cells (reqC 0 0 0 0) 56)) zeroRg.vals 24
  simpa using this
theorem rowBox {W V : World} {A : Option Addr} {gl : List Int} {cp : Nat} {ρ : Rw} (hb : Below W.heap.size W V) (hG : ∀ V,Below W.heap.size W V → Kd.C (Kd.int .u8) V A gl.length gl) (hcp : gl.length ≤ cp) (hr : ∀ x ∈ gl,0 ≤ x ∧ x < 256) (ht : Table W) :
  RowAt (V.alloc (.cells (ρ.cells A gl cp 0).toArray 91)) V.heap.size A gl cp 0 ρ :=by
 have hx :=BlkAt.box V (ρ.cells A gl cp 0).toArray 91
 have hs :=hb.size
 have hl :=ht.lt
 refine ⟨fun k v hv => hx.cell k v (by simpa using hv),hx.frz,fun W' hk => hG W' (kp_low (below_alloc hb _) hk hs (by simp;omega)),hcp,hr,ht.below (below_alloc hb _) hl,by omega⟩
set_option maxHeartbeats 16000000 in
set_option maxRecDepth 100000 in
theorem nextAll {W : World} {A : Option Addr} {gl : List Int} {cp : Nat} {ρ : Rg} {peek : Int} (hG : ∀ V,Below W.heap.size W V → Kd.C (Kd.int .u8) V A gl.length gl) (hcp : gl.length ≤ cp) (hr : ∀ x ∈ gl,0 ≤ x ∧ x < 256) (ht : Table W) (i0 : 0 ≤ ρ.im) (i2 : ρ.im ≤ 2) :
  Calls Tryz.prog 29 #[.agg ρ.vals,.slice A gl.length cp,.int .u8 peek] W fun e V => e = .returned (toldOf gl (Tr.run gl (({ toRg :=ρ,peek :=peek,x :=0,disp :=false,adr :=0 } : Rw).instr (((gl.length : Nat) : Int) == 1)) 0)).val ∧ Below W.heap.size W V :=by
 have hG :=Aside0.mk hG
 have i0 :=Aside0.mk i0
 have i2 :=Aside0.mk i2
 have hr :=Aside0.mk hr
 go_enter Tryz.func29,Tryz.ntmps29
 go_upto_region 1 with (fail)
 refine genNext (P :=fun V => Code.wp _ _ _ _ V) (fun V hN => ?_)
 replace hN :=Aside0.mk hN
 go_wp2_with (first | ((with_reducible refine gate_load 24 ?_);refine wpList_load_blk hN.out.s rfl _ rfl rfl ?_) | refine wpList_bld rfl rfl (.agg (({ toRg :=ρ,peek :=peek,x :=0,disp :=false,adr :=0 } : Rw).cells A gl cp 0).toArray) (by kernel_rfl) ?_ | (go_at_call 50;refine (told51 (rowBox hN.out.b hG.out hcp hr.out ht) i0.out i2.out (fun _ h => instr h)).mono ?_;rintro e V2 ⟨rfl,hk⟩;have hs :=hN.out.b.size;have hq :=Aside0.mk ((hN.out.q.under (below_alloc (Below.refl _ _) _)).kp hk (by have :=hN.out.q.lt;omega));have hz :=Aside0.mk ((hN.out.z.under (below_alloc (Below.refl _ _) _)).kp hk (by have :=hN.out.z.lt;omega));have hB :=Aside0.mk (kp_low (below_alloc hN.out.b _) hk hs (by simp;omega));clear hk hN;generalize hto : toldOf gl _ = c;dsimp only [To.val]) | ((first | ((with_reducible refine gate_store 56 ?_);refine wpList_bagg hq.out rfl 56 _ _ rfl (reqC c.k c.a c.v c.t) rfl rfl rfl (by kernel_rfl) (reqC_one _ _ _ _) ?_;intro V hk hc;replace hB :=Aside0.mk (kp_low hB.out hk (by omega) hB.out.size);replace hz :=Aside0.mk (hz.out.kp hk (by omega));replace hq :=Aside0.mk hc) | ((with_reducible refine gate_store 24 ?_);refine wpList_bagg hz.out rfl 24 _ _ rfl c.s.vals rfl rfl rfl (by kernel_rfl) (vals_one _) ?_;intro V hk hc;replace hB :=Aside0.mk (kp_low hB.out hk (by omega) hB.out.size);replace hq :=Aside0.mk (hq.out.kp hk (by omega));replace hz :=Aside0.mk hc));clear hk hc))
 have r1 :=run_loadVar_mid (P :=Tryz.prog) _ (W.heap.size + 1) 0 56 (reqC c.k c.a c.v c.t).toList _ hq.out.range Tryz.underlying56 rfl info56
 have r2 :=run_loadVar_mid (P :=Tryz.prog) _ (W.heap.size + 1 + 1) 0 24 c.s.vals.toList _ hz.out.range Tryz.underlying24 rfl info24
 refine bodyPost_ret (v :=c.val) ?_ rfl ⟨by rw [hto],hB.out⟩
 simp [results,Tryz.results29,asAddr,r1,r2,To.val]
end Go.Proofs.YtnelghpendfdmaaGreatDoor.KRow
