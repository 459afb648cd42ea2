/-
 PROVED: the contract of step.told over the run of a row.
-/
import Derived.Test.YtnelghpendfdmaaGreatDoorKTa
namespace Go.Proofs.YtnelghpendfdmaaGreatDoor.KRow
open Go Go.RowKit Go.Proofs.YtnelghpendfdmaaGreatDoorW.PrintWords Go.Proofs.YtnelghpendfdmaaGreatDoorW.PrintLast Go.Proofs.YtnelghpendfdmaaGreatDoorW.PrintMore
open Go.Proofs.YtnelghpendfdmaaGreatDoor.HFun
set_option linter.unusedVariables false
set_option linter.unusedSimpArgs false
theorem gen4 {P : World → Prop} {W : World} {g : Nat} {A : Option Addr} {gl : List Int} {cp n : Nat} {ρ : Rw} (h : RowAt W g A gl cp n ρ) (k : ∀ V,Kp g W V → RowAt V g A gl cp n ρ → OutAt V W.heap.size (reqC 0 0 0 0) zeroRg.vals #[.bool false] #[.int .i64 0] → P V) :
  P ((((W.alloc (.cells (reqC 0 0 0 0) 56)).alloc (.cells zeroRg.vals 24)).alloc (.cells #[.bool false] 4)).alloc (.cells #[.int .i64 0] 29)) :=by
 have b1 :=below_alloc (Below.refl W.heap.size W) (.cells (reqC 0 0 0 0) 56)
 have b2 :=below_alloc b1 (.cells zeroRg.vals 24)
 have b3 :=below_alloc b2 (.cells #[.bool false] 4)
 have b4 :=below_alloc b3 (.cells #[.int .i64 0] 29)
 have up : ∀ (V : World) (o : Obj),Below V.heap.size V (V.alloc o) :=fun V o => below_alloc (Below.refl _ _) o
 refine k _ (Kp.of_below b4) (h.under b4) ⟨?_,?_,?_,?_⟩
 ·exact (((BlkAt.box W _ _).under (up _ _)).under (up _ _)).under (up _ _)
 ·have :=(((BlkAt.box (W.alloc (.cells (reqC 0 0 0 0) 56)) zeroRg.vals 24).under (up _ (.cells #[.bool false] 4))).under (up _ (.cells #[.int .i64 0] 29)))
  simpa using this
 ·have :=((BlkAt.box ((W.alloc (.cells (reqC 0 0 0 0) 56)).alloc (.cells zeroRg.vals 24)) #[.bool false] 4).under (up _ (.cells #[.int .i64 0] 29)))
  simpa using this
 ·have :=BlkAt.box (((W.alloc (.cells (reqC 0 0 0 0) 56)).alloc (.cells zeroRg.vals 24)).alloc (.cells #[.bool false] 4)) #[.int .i64 0] 29
  simpa using this
theorem kp_new {w W V : World} {g g' : Nat} (h : Kp g w W) (k : Kp g' W V) (hg : w.heap.size ≤ g') : Kp g w V :=
 ⟨k.os.trans h.os,k.tape.trans h.tape,k.output.trans h.output,Nat.le_trans h.size k.size,fun i hi hn => (k.block i (Nat.lt_of_lt_of_le hi h.size) (by omega)).trans (h.block i hi hn)⟩
theorem row_new {w W V : World} {g g' : Nat} {A : Option Addr} {gl : List Int} {cp n n0 : Nat} {ρ ρ0 : Rw} (h0 : RowAt w g A gl cp n0 ρ0) (hw : Kp g w V) (h : RowAt W g A gl cp n ρ) (hk : Kp g' W V) (hg : w.heap.size ≤ g') : RowAt V g A gl cp n ρ :=by
 have hl :=h0.lt
 have hb :=hk.block g h.lt (by omega)
 refine ⟨fun k v hv => (World.cell?_of_block (w :=W) (a :=⟨g,k,none⟩) hb).trans (h.cell k v hv),fun k => ?_,fun W' hk' => h0.got W' (hw.trans hk'),h.cap,h.rng,h.tab.kp hk (by omega),h.g0⟩
 have :=h.frz k
 rw [World.frozen?_of_block (w :=W) (a :=⟨g,k,none⟩) hb]
 exact this
theorem Sch.bagg {ops : Array Oper} {S : World → Prop} {Q : Exit → Act → World → Prop} {tl : List Nat} {i m : Nat} {o : Oper} {r : List (Nat × Nat)} {a : Act} {V : World} {g : Nat} {cs : Array Value} (h : BlkAt V g cs) (ho : ops[i]? = some o) (hN : o.dst = none) (hg : Region.wanted o (yielded ops a.tmps) = true)
  (ty : TypeId) (x y : Operand) (hop : o.op = .store ty x y) (cs' : Array Value) (hx : a.eval x = .pointer (some ⟨g,0,none⟩)) (hy : a.eval y = .agg cs') (hsz : cs'.size = cs.size) (hi : (Tryz.prog.info? ty).map (·.size) = some cs'.size) (hall : cs'.all (·.oneCell') = true)
  (k : ∀ V',Kp g V V' → BlkAt V' g cs' → S V' ∧ Sch Tryz.prog ops S Q tl r a V') : Sch Tryz.prog ops S Q tl ((i,m + 2) :: r) a V :=by
 have hth :=h.there
 rw [← hsz] at hth
 have hrun :=run_storeAt_mid (P :=Tryz.prog) V g 0 ty cs' hth hi hall
 have hk :=k _ (Kp.setCells 0 _ V (Kp.refl g V)) (h.setAll hsz)
 refine Sch.skip ho hN hg ?_ hk.1 hk.2
 unfold execOp
 simp only [hop,hx,hy,hrun,Sem.run_bind,Sem.run_pure,Result.andThen_ok]
theorem leaf_ok {gl : List Int} {o : Res Unit} {W V : World} {b g : Nat} {tmps : Array Value} (c : To) (he : toldOf gl o = c) (hk : Kp g W V) (hO : OutAt V b (reqC c.k c.a c.v c.t) c.s.vals #[.bool c.d] #[.int .i64 c.e])
  (h4 : tmps.getD 4 undef = .pointer (some ⟨b,0,none⟩)) (h5 : tmps.getD 5 undef = .pointer (some ⟨b + 1,0,none⟩)) (h6 : tmps.getD 6 undef = .pointer (some ⟨b + 1 + 1,0,none⟩)) (h7 : tmps.getD 7 undef = .pointer (some ⟨b + 1 + 1 + 1,0,none⟩)) (p1 p2 p3 p4 : Value) :
  Leaves Tryz.prog Tryz.f50 tmps (fun e W' => e = .returned (toldOf gl o).val ∧ Kp g W W') [{ target :=.fn (.func 67) #[p1,p2,p3,p4],args :=#[] }] .returning V :=by
 subst he
 refine leaves_cons (f :=67) (args :=#[p1,p2,p3,p4]) (by simp) (by simp [go_sem]) ?_
 refine (catch_idle _ _ _ _ _).mono ?_
 rintro e u w ⟨rfl,rfl,rfl⟩
 exact ⟨_,results_out hO h4 h5 h6 h7,rfl,hk⟩
theorem leaf_ask {gl : List Int} {o : Res Unit} {W V : World} {b g : Nat} {tmps : Array Value} {q s : Array Value} {d e : Value} {k a v t : Int} (ho : o = .ask k a v t) (hk : Kp g W V) (hW : W.heap.size ≤ b) (hO : OutAt V b q s #[d] #[e]) (hq : q.size = 4) (hs : s.size = 24)
  (h4 : tmps.getD 4 undef = .pointer (some ⟨b,0,none⟩)) (h5 : tmps.getD 5 undef = .pointer (some ⟨b + 1,0,none⟩)) (h6 : tmps.getD 6 undef = .pointer (some ⟨b + 1 + 1,0,none⟩)) (h7 : tmps.getD 7 undef = .pointer (some ⟨b + 1 + 1 + 1,0,none⟩)) :
  Leaves Tryz.prog Tryz.f50 tmps (fun e W' => e = .returned (toldOf gl o).val ∧ Kp g W W') [{ target :=.fn (.func 67) #[.pointer (some ⟨b,0,none⟩),.pointer (some ⟨b + 1,0,none⟩),.pointer (some ⟨b + 1 + 1,0,none⟩),.pointer (some ⟨b + 1 + 1 + 1,0,none⟩)],args :=#[] }] (.panicking [{ v :=reqV k a v t,recovered :=false }]) V :=by
 subst ho
 refine leaves_cons (f :=67) (args :=#[.pointer (some ⟨b,0,none⟩),.pointer (some ⟨b + 1,0,none⟩),.pointer (some ⟨b + 1 + 1,0,none⟩),.pointer (some ⟨b + 1 + 1 + 1,0,none⟩)]) (by simp) (by simp [go_sem]) ?_
 refine (catch_ask hO hq hs k a v t).mono ?_
 rintro e' u w ⟨rfl,rfl,hb,hO'⟩
 exact ⟨_,results_out (c :=⟨k,a,v,t,zeroRg,false,0⟩) hO' h4 h5 h6 h7,rfl,⟨hb.os.trans hk.os,hb.tape.trans hk.tape,hb.output.trans hk.output,Nat.le_trans hk.size hb.size,fun i hi hn => (hb.block i (by omega)).trans (hk.block i hi hn)⟩⟩
theorem wp_drawn {c : Code} {K : Act → World → Prop} {Q : Exit → Act → World → Prop} {a : Act} {w : World} (h : c.wp Tryz.prog (Exit.then K (fun _ _ _ => False)) a w) : c.wp Tryz.prog (Exit.then K Q) a w :=
 Code.wp_mono (by intro e a w h;cases e <;> first | exact h | exact h.elim) h
theorem OutAt.drew {W : World} {b : Nat} {q s d e : Array Value} (h : OutAt W b q s d e) : OutAt W.drew b q s d e :=h.under ⟨rfl,rfl,rfl,Nat.le_refl _,fun _ _ => rfl⟩
set_option maxHeartbeats 16000000 in
set_option maxRecDepth 100000 in
theorem told51 {W : World} {g : Nat} {A : Option Addr} {gl : List Int} {cp : Nat} {ρ : Rw} {o : Res Unit} (h : RowAt W g A gl cp 0 ρ) (i0 : 0 ≤ ρ.im) (i2 : ρ.im ≤ 2)
  (hrun : ∀ V,RowAt V g A gl cp 0 ρ → Calls Tryz.prog 51 #[.pointer (some ⟨g,0,none⟩)] V (Post V g A gl cp (fun _ : Unit => .tuple #[]) o)) :
  Calls Tryz.prog 50 #[.pointer (some ⟨g,0,none⟩),.func (.func 51) #[] #[]] W fun e W' => e = .returned (toldOf gl o).val ∧ Kp g W W' :=by
 have h0 :=Aside0.mk h
 have i0 :=Aside0.mk i0
 have i2 :=Aside0.mk i2
 have hrun :=Aside0.mk hrun
 have hlt :=h.lt
 have hmf : ∀ (fn : Fn) (first cap : Array Value) (w : World),(Instr.makeFunc fn first cap).run Tryz.prog w = .ok (.func fn first cap) w :=fun _ _ _ _ => rfl
 go_enter_defers Tryz.func50,Tryz.ntmps50
 go_upto_region 1 with (fail)
 refine gen4 (P :=fun V => Code.wp _ _ _ _ V) h (fun V hk hR hc => ?_)
 clear h
 have h :=Aside0.mk hR
 have HK :=Aside0.mk hk
 have hO :=Aside0.mk hc
 clear hR hk hc
 (try clear c24 c25 ke);(try have c24 :=h.out.cell 24 _ rfl);(try have c25 :=h.out.cell 25 _ rfl);have ke :=hO.out.e.cell 0 _ rfl
 go_wp2_with (first | ((with_reducible refine gate_load 24 ?_);refine zay h.out rfl _ rfl rfl ?_) | ((first | (go_at_call 41;refine (Check _ _ i0.out i2.out).mono ?_;rintro e V ⟨rfl,hb⟩;replace h :=Aside0.mk (h.out.under hb);replace HK :=Aside0.mk (HK.out.andBelow hb);replace hO :=Aside0.mk (hO.out.under hb);clear hb) | ((with_reducible refine gate_store 29 ?_);refine wpList_bone_err hO.out.e rfl _ _ rfl _ rfl rfl ?_;intro V hk hc;replace HK :=Aside0.mk (kp_new HK.out hk (by omega));(try replace h :=Aside0.mk (row_new h0.out HK.out h.out hk (by omega)));replace hO :=Aside0.mk (OutAt.mk (hO.out.q.kp hk (by omega)) (hO.out.s.kp hk (by omega)) (hO.out.d.kp hk (by omega)) (hc));clear hc hk));(try clear c24 c25 ke);(try have c24 :=h.out.cell 24 _ rfl);(try have c25 :=h.out.cell 25 _ rfl);have ke :=hO.out.e.cell 0 _ rfl))
 refine Post.cps (hrun.out _ h.out) ?_ ?_
 ·intro v ρ1 n1 V ho hk hR
  replace h :=Aside0.mk hR
  replace HK :=Aside0.mk (HK.out.trans hk)
  replace hO :=Aside0.mk (hO.out.kp hk hlt)
  clear hR hk
  (try clear c24 c25 ke);(try have c24 :=h.out.cell 24 _ rfl);(try have c25 :=h.out.cell 25 _ rfl);have ke :=hO.out.e.cell 0 _ rfl
  go_wp2_with (first | ((with_reducible refine gate_region 6 ?_);refine wp_drawn ?_;(refine zak (RC g W A gl cp _ _) [(0,0),(1,0),(2,0),(4,0),(5,0),(6,0),(3,1),(7,1),(8,0)] [9] [9] 10 (by kernel_rfl) rfl rfl (by kernel_rfl) (by intro c a d v w h;cases d <;> exact h) (RC.mk (HK.out.drewN 1) (h.out.drewN 1)) ?_);replace h :=Aside0.mk (h.out.drewN 1);replace HK :=Aside0.mk (HK.out.drewN 1);replace hO :=Aside0.mk hO.out.drew;(try clear c24 c25 ke);(try have c24 :=h.out.cell 24 _ rfl);(try have c25 :=h.out.cell 25 _ rfl);have ke :=hO.out.e.cell 0 _ rfl;(repeat ((first | (refine Sch.pureN (v :=?_) (a' :=?_) rfl rfl (by rfl) ?_ ?_ ?_;rotate_left 2;(· (intro w';go_simp <;> with_reducible rfl))) | (refine Sch.takeN (v :=?_) (a' :=?_) rfl rfl (by rfl) (RC.mk HK.out h.out) ?_ ?_ ?_;rotate_left 2;(· (intro w' hS';(first | (have q :=hS'.row.cell 25 _ rfl;go_simp <;> with_reducible rfl) | (have q :=hS'.row.cell 24 _ rfl;go_simp <;> with_reducible rfl))))));(· (simp only [aput] <;> rfl))));(refine Sch.tail 9 1 rfl rfl ?_;simp only [List.drop_succ_cons,List.drop_zero,List.drop_nil])) | ((with_reducible refine gate_region 8 ?_);refine wp_drawn ?_;(refine zak (RC g W A gl cp _ _) [(0,0),(1,0),(2,0),(3,0),(4,1),(5,2)] [6,7,8] [6,7,8] 9 (by kernel_rfl) rfl rfl (by kernel_rfl) (by intro c a d v w h;cases d <;> exact h) (RC.mk (HK.out.drewN 1) (h.out.drewN 1)) ?_);replace h :=Aside0.mk (h.out.drewN 1);replace HK :=Aside0.mk (HK.out.drewN 1);replace hO :=Aside0.mk hO.out.drew;(try clear c24 c25 ke);(try have c24 :=h.out.cell 24 _ rfl);(try have c25 :=h.out.cell 25 _ rfl);have ke :=hO.out.e.cell 0 _ rfl;(repeat ((first | (refine Sch.pureN (v :=?_) (a' :=?_) rfl rfl (by rfl) ?_ ?_ ?_;rotate_left 2;(· (intro w';go_simp <;> with_reducible rfl))) | (refine Sch.takeN (a' :=?_) rfl rfl (by rfl) (RC.mk HK.out h.out) (fun w' hS' => hS'.load24 _ rfl rfl) ?_ ?_;rotate_left));(· (simp only [aput] <;> rfl))));(refine Sch.bagg hO.out.q rfl rfl (by rfl) 56 _ _ rfl (reqC 0 0 0 0) rfl rfl rfl (by kernel_rfl) (reqC_one _ _ _ _) ?_;intro V hk hc;replace HK :=Aside0.mk (kp_new HK.out hk (by omega));(try replace h :=Aside0.mk (row_new h0.out HK.out h.out hk (by omega)));replace hO :=Aside0.mk (OutAt.mk (hc) (hO.out.s.kp hk (by omega)) (hO.out.d.kp hk (by omega)) (hO.out.e.kp hk (by omega)));clear hc hk;(try clear c24 c25 ke);(try have c24 :=h.out.cell 24 _ rfl);(try have c25 :=h.out.cell 25 _ rfl);have ke :=hO.out.e.cell 0 _ rfl;refine ⟨RC.mk HK.out h.out,?_⟩);(refine Sch.tail 6 3 rfl rfl ?_;simp only [List.drop_succ_cons,List.drop_zero,List.drop_nil])) | ((first | ((with_reducible refine gate_store 56 ?_);refine zbn hO.out.q rfl 56 _ _ rfl (reqC 0 0 0 0) rfl rfl rfl (by kernel_rfl) (reqC_one _ _ _ _) ?_;intro V hk hc;replace HK :=Aside0.mk (kp_new HK.out hk (by omega));(try replace h :=Aside0.mk (row_new h0.out HK.out h.out hk (by omega)));replace hO :=Aside0.mk (OutAt.mk (hc) (hO.out.s.kp hk (by omega)) (hO.out.d.kp hk (by omega)) (hO.out.e.kp hk (by omega)))) | ((with_reducible refine gate_store 24 ?_);refine zbn hO.out.s rfl 24 _ _ rfl (Rg.vals _) rfl rfl rfl (by kernel_rfl) (zcb _) ?_;intro V hk hc;replace HK :=Aside0.mk (kp_new HK.out hk (by omega));(try replace h :=Aside0.mk (row_new h0.out HK.out h.out hk (by omega)));replace hO :=Aside0.mk (OutAt.mk (hO.out.q.kp hk (by omega)) (hc) (hO.out.d.kp hk (by omega)) (hO.out.e.kp hk (by omega)))) | ((with_reducible refine gate_store 4 ?_);refine wpList_bone_bool hO.out.d rfl _ _ rfl _ rfl rfl ?_;intro V hk hc;replace HK :=Aside0.mk (kp_new HK.out hk (by omega));(try replace h :=Aside0.mk (row_new h0.out HK.out h.out hk (by omega)));replace hO :=Aside0.mk (OutAt.mk (hO.out.q.kp hk (by omega)) (hO.out.s.kp hk (by omega)) (hc) (hO.out.e.kp hk (by omega)))) | ((with_reducible refine gate_store 29 ?_);refine wpList_bone_err hO.out.e rfl _ _ rfl _ rfl rfl ?_;intro V hk hc;replace HK :=Aside0.mk (kp_new HK.out hk (by omega));(try replace h :=Aside0.mk (row_new h0.out HK.out h.out hk (by omega)));replace hO :=Aside0.mk (OutAt.mk (hO.out.q.kp hk (by omega)) (hO.out.s.kp hk (by omega)) (hO.out.d.kp hk (by omega)) (hc))));clear hc hk;(try clear c24 c25 ke);(try have c24 :=h.out.cell 24 _ rfl);(try have c25 :=h.out.cell 25 _ rfl);have ke :=hO.out.e.cell 0 _ rfl))
  ·rename_i hc
   exact leaf_ok ⟨0,0,0,0,zeroRg,false,3⟩ (by rw [ho];exact if_pos (by omega)) HK.out hO.out rfl rfl rfl rfl _ _ _ _
  ·rename_i hc
   exact leaf_ok ⟨0,0,0,0,ρ1.toRg,true,0⟩ (by rw [ho];exact if_neg (by omega)) HK.out hO.out rfl rfl rfl rfl _ _ _ _
 ·intro k a v t V ho hk
  exact leaf_ask ho (HK.out.trans hk) (Nat.le_refl _) (hO.out.kp hk hlt) rfl rfl rfl rfl rfl rfl
end Go.Proofs.YtnelghpendfdmaaGreatDoor.KRow
