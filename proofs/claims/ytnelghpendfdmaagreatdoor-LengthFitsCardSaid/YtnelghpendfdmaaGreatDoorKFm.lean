/-
 PROVED: pendulumlaw12.LengthFits answers true.
-/
import Derived.Test.YtnelghpendfdmaaGreatDoorKFh
namespace Go.Proofs.YtnelghpendfdmaaGreatDoor.KRow
set_option maxRecDepth 100000
set_option maxHeartbeats 16000000
open Go Go.RowKit Go.Proofs.YtnelghpendfdmaaGreatDoorW.PrintWords Go.Proofs.YtnelghpendfdmaaGreatDoorW.PrintLast Go.Proofs.YtnelghpendfdmaaGreatDoorW.PrintMore
open Go.Proofs.YtnelghpendfdmaaGreatDoor.HFun
set_option linter.unusedVariables false
set_option linter.unusedSimpArgs false
theorem run_ne28 (s x o d i n : Int) (ev : Operand → Value) (p : Oper) (y z : Operand) (ho : p.op = .binOp .neq 28 y z 28) (hx : ev y = .agg (insC s x o d i n)) (hy : ev z = .agg (insC s x o d i n)) (V : World) : (execOp ev p).run Tryz.prog V = .ok (.value (.bool false)) V :=by
 unfold execOp
 simp only [ho,hx,hy]
 simp [go_sem,insC]
theorem keepC {α : Type} {d : Kd α} {V V2 : World} {A : Option Addr} {n : Nat} {l : List α} (hb : Below V.heap.size V V2) (h : Aside0 (∀ V',Below V.heap.size V V' → d.C V' A n l)) : Aside0 (∀ V',Below V2.heap.size V2 V' → d.C V' A n l) :=⟨fun V' h' => h.out V' (hb.trans (h'.mono hb.size))⟩
section
variable {w0 V V' : World} {bs : List (Nat × Array Value)} {ops : Array Oper} {rest : List Oper} {op : Oper} {a : Act} {Q : Exit → Act → World → Prop}
theorem wpList_newB (h : Env w0 V bs) (hgd : op.guard = none) (cs : Array Value) (ty : TypeId) (hb : (execOp a.eval op).run Tryz.prog V = .ok (.value (.pointer (some ⟨V.heap.size,0,none⟩))) (V.alloc (.cells cs ty)))
  (k : ∀ V' g,Env w0 V' ((g,cs) :: bs) → Below V.heap.size V V' → V.heap.size ≤ g → wpList Tryz.prog ops Q rest (a.put op.dst (.pointer (some ⟨g,0,none⟩))) V') : wpList Tryz.prog ops Q (op :: rest) a V :=by
 refine wpList_plain hgd fun _ hK => ?_
 unfold Oper.wp
 simp only [hb]
 exact hK _ _ (k _ _ (h.push cs ty) (below_alloc (Below.refl _ _) _) (Nat.le_refl _))
theorem wpList_stB (h : Env w0 V bs) (hgd : op.guard = none) (i : Nat) {g : Nat} {cs : Array Value} (hi : bs[i]? = some (g,cs)) (ty : TypeId) (x y : Operand) (ho : op.op = .store ty x y) (cs' : Array Value)
  (hx : a.eval x = .pointer (some ⟨g,0,none⟩)) (hy : a.eval y = .agg cs') (hsz : cs'.size = cs.size) (hinf : (Tryz.prog.info? ty).map (·.size) = some cs'.size) (hall : cs'.all (·.oneCell') = true)
  (k : ∀ V',Env w0 V' (bs.set i (g,cs')) → Kp g V V' → wpList Tryz.prog ops Q rest (a.put op.dst undef) V') : wpList Tryz.prog ops Q (op :: rest) a V :=
 zbn (h.at_ i g cs hi).2 hgd ty x y ho cs' hx hy hsz hinf hall (fun V' hk hc => k V' (h.put hi hk hc) hk)
end
theorem FlatB.kp {V V' : World} {g r : Nat} {ρ : Rg} {m : Nat → Int} (h : FlatB V g ρ m) (hk : Kp r V V') (hne : g ≠ r) : FlatB V' g ρ m :=h.same hk.size (hk.block g h.lt hne)
theorem lfEarly {W : World} {B : Option Addr} {b : List Int} {cb : Nat} {ρ : Rg} {vs vx vo vd vi vn er : Int} (hGb : ∀ V,Below W.heap.size W V → Kd.C (Kd.int .u8) V B b.length b) (hcb : b.length ≤ cb) (hbr : ∀ x ∈ b,0 ≤ x ∧ x < 256) (ht : Table W) (hv : refOf b = (⟨vs,vx,vo,vd,vi,vn⟩,er)) (h : (er != 0) = true ∨ ((er != 0) = false ∧ decide (300 < (b.length : Int)) = true) ∨ ((er != 0) = false ∧ decide (300 < (b.length : Int)) = false ∧ ρ.halt = true) ∨ ((er != 0) = false ∧ decide (300 < (b.length : Int)) = false ∧ ρ.halt = false ∧ (decide (ρ.im < 0) || decide (ρ.im > 2)) = true)) :
  Calls Tryz.prog 3 #[.agg ρ.vals,.slice B b.length cb] W fun e V => e = .returned (.bool true) ∧ Below W.heap.size W V :=by
 have hE :=Aside0.mk (Env.nil W)
 replace hGb :=Aside0.mk hGb
 replace hcb :=Aside0.mk hcb
 replace hbr :=Aside0.mk hbr
 replace ht :=Aside0.mk ht
 replace hv :=Aside0.mk hv
 rcases h with e1 | ⟨e1,d1⟩ | ⟨e1,d1,hh⟩ | ⟨e1,d1,hh,hc⟩
 all_goals
  try replace hh :=Aside0.mk hh
  try have hc1 :=Aside0.mk hc
  try clear hc
  go_enter Tryz.func3,Tryz.ntmps3
  go_upto_region 4 with (first | ((with_reducible refine gate_box 24 ?_);refine zab hE.out rfl (Rg.vals _) 24 rfl ?_;intro V g hE';replace hE :=Aside0.mk hE';clear hE') | (go_at_call 10;refine (llives12 (env_tab hE.out ht.out)).mono ?_;rintro e V2 ⟨rfl,hb⟩;replace hE :=Aside0.mk (hE.out.under hb);clear hb) | (go_at_call 11;refine (of_calls (fun V hb => hGb.out V (hE.out.b.trans (hb.mono hE.out.size))) hcb.out hbr.out).mono ?_;rintro e V2 ⟨rfl,hb⟩;rw [hv.out];replace hE :=Aside0.mk (hE.out.under hb);clear hb;dsimp only [ofV,Ins.vals]) | ((with_reducible refine gate_alloc 28 ?_);refine zab hE.out rfl (insC 0 0 0 0 0 0) 28 (by kernel_rfl) ?_;intro V g hE';replace hE :=Aside0.mk hE';clear hE') | ((with_reducible refine gate_store 28 ?_);refine zac hE.out rfl 0 rfl 28 _ _ rfl _ rfl rfl rfl (by kernel_rfl) (zbc _ _ _ _ _ _) ?_;intro V hE';(try dsimp only [List.set_cons_zero,List.set_cons_succ] at hE');replace hE :=Aside0.mk hE';clear hE'))
  have q22 :=(hE.out.at_ 1 _ _ rfl).2.cell 22 _ rfl
  try rw [hh.out] at q22
  go_wp2_with (first | ((with_reducible refine gate_load 24 ?_);(try refine gate_guard (by rfl) ?_);(refine zaf hE.out rfl 1 rfl 24 _ rfl rfl (ld24 _ _) ?_)) | (go_at_call 12;(try refine gate_guard (by rfl) ?_);refine (lcheck8_bad ρ _ hc1.out).mono ?_;rintro e V2 ⟨rfl,hb⟩;replace hE :=Aside0.mk (hE.out.under hb);clear hb))
  go_ret
  exact ⟨rfl,hE.out.b⟩
theorem OfP.under {i : Array Value} {more : Bool} {W W' : World} {ds : List Int} (h : OfP i more W ds) (hb : Below W.heap.size W W') : OfP i more W' ds :=fun V hb' => h V (hb.trans (hb'.mono hb.size))
theorem lfMain {W : World} {B : Option Addr} {b : List Int} {cb : Nat} {ρ : Rg} {vs vx vo vd vi vn : Int} (hGb : ∀ V,Below W.heap.size W V → Kd.C (Kd.int .u8) V B b.length b) (hcb : b.length ≤ cb) (hbr : ∀ x ∈ b,0 ≤ x ∧ x < 256) (ht : Table W) (hv : refOf b = (⟨vs,vx,vo,vd,vi,vn⟩,0)) {m0 mo : Nat → Int} {o : List S56} {sg : Rg} {xs ys cs : List Int} {s0 s1 : ByteArray} {hg t1 t2 : Bool}
  (hok : (decide (ρ.im < 0) || decide (ρ.im > 2)) = false) (h300 : b.length ≤ 300) (hh : ρ.halt = false) (i0 : 0 ≤ ρ.im) (i2 : ρ.im ≤ 2) (p0 : 0 ≤ ρ.pc) (p1 : ρ.pc < 65536) (hm0 : wrUp ρ.pc b b.length = m0) (H : frw (nx ρ) (IntKind.u16.wrap (ρ.pc + 1)).toNat 11 m0 [] [] = some (o,sg,mo)) (hOf : ∀ V,Below W.heap.size W V → OfAt m0 ρ V (insC vs vx vo vd vi vn))
  (h17a : OfP (insC vs vx vo vd vi vn) false W xs) (h17b : OfP (insC vs vx vo vd vi vn) true W ys) (hcyc : ycj.f 12 o = some cs) (hchk : yci.f 20 vs vx vo vd vi vn = some 0) (h47 : ∀ V,Calls Tryz.prog 47 #[.agg (insC vs vx vo vd vi vn)] V fun e V' => e = .returned (.agg (plC s0 s1)) ∧ Below V.heap.size V V')
  (hhg : (!(s0.toList == s1.toList)) = hg) (hxy : hg = true ∨ ycr.f 12 xs ys = some true) (ht1 : ycr.f 12 cs xs = some t1) (ht2 : ycr.f 12 cs ys = some t2) (htt : t1 = true ∨ t2 = true) (hy9 : ys.length ≤ 900) (hyr : ∀ x ∈ ys,0 ≤ x ∧ x ≤ 35) (g4 : decide (4 ≤ ys.sum) = true) (g23 : decide (ys.sum ≤ 23) = true) :
  Calls Tryz.prog 3 #[.agg ρ.vals,.slice B b.length cb] W fun e V => e = .returned (.bool true) ∧ Below W.heap.size W V :=by
 have hE :=Aside0.mk (Env.nil W)
 replace hGb :=Aside0.mk hGb
 replace hcb :=Aside0.mk hcb
 replace hbr :=Aside0.mk hbr
 replace ht :=Aside0.mk ht
 replace hv :=Aside0.mk hv
 replace hok :=Aside0.mk hok
 replace h300 :=Aside0.mk h300
 replace hh :=Aside0.mk hh
 replace i0 :=Aside0.mk i0
 replace i2 :=Aside0.mk i2
 replace p0 :=Aside0.mk p0
 replace p1 :=Aside0.mk p1
 replace H :=Aside0.mk H
 replace hOf :=Aside0.mk hOf
 replace h17a :=Aside0.mk h17a
 replace h17b :=Aside0.mk h17b
 replace hcyc :=Aside0.mk hcyc
 replace hchk :=Aside0.mk hchk
 replace h47 :=Aside0.mk h47
 replace hhg :=Aside0.mk hhg
 replace hxy :=Aside0.mk hxy
 replace ht1 :=Aside0.mk ht1
 replace ht2 :=Aside0.mk ht2
 replace htt :=Aside0.mk htt
 replace hy9 :=Aside0.mk hy9
 replace hyr :=Aside0.mk hyr
 have hc1 :=hok
 have d1 : decide (300 < (b.length : Int)) = false :=decide_eq_false (by have :=h300.out;omega)
 have hgF0 : Aside0 True :=⟨trivial⟩
 have hown : Aside0 (ydq.f b = some b) :=⟨by
  unfold ydq.f
  rw [Option.bind_some,if_pos (by have :=h300.out;simp;omega)]
  rfl⟩
 have htl :=ht.out.lt
 have g1 : True :=trivial
 replace htl :=Aside0.mk htl
 go_enter Tryz.func3,Tryz.ntmps3
 go_upto_region 4 with (first | ((with_reducible refine gate_box 24 ?_);refine zab hE.out rfl (Rg.vals _) 24 rfl ?_;intro V g hE';replace hE :=Aside0.mk hE';clear hE') | (go_at_call 10;refine (llives12 (env_tab hE.out ht.out)).mono ?_;rintro e V2 ⟨rfl,hb⟩;replace hE :=Aside0.mk (hE.out.under hb);clear hb) | (go_at_call 11;refine (of_calls (fun V hb => hGb.out V (hE.out.b.trans (hb.mono hE.out.size))) hcb.out hbr.out).mono ?_;rintro e V2 ⟨rfl,hb⟩;rw [hv.out];replace hE :=Aside0.mk (hE.out.under hb);clear hb;dsimp only [ofV,Ins.vals]) | ((with_reducible refine gate_alloc 28 ?_);refine zab hE.out rfl (insC 0 0 0 0 0 0) 28 (by kernel_rfl) ?_;intro V g hE';replace hE :=Aside0.mk hE';clear hE') | ((with_reducible refine gate_store 28 ?_);refine zac hE.out rfl 0 rfl 28 _ _ rfl _ rfl rfl rfl (by kernel_rfl) (zbc _ _ _ _ _ _) ?_;intro V hE';(try dsimp only [List.set_cons_zero,List.set_cons_succ] at hE');replace hE :=Aside0.mk hE';clear hE'))
 replace hE : Aside0 (Env W _ [(_,insC vs vx vo vd vi vn),(_,ρ.vals)]) :=⟨hE.out⟩
 have q22 :=(hE.out.at_ 1 _ _ rfl).2.cell 22 _ rfl
 rw [hh.out] at q22
 go_upto_region 6 with (first | ((with_reducible refine gate_load 24 ?_);(try refine gate_guard (by rfl) ?_);(refine zaf hE.out rfl 1 rfl 24 _ rfl rfl (ld24 _ _) ?_)) | (go_at_call 12;(try refine gate_guard (by rfl) ?_);refine (lcheck8_ok ρ _ hc1.out).mono ?_;rintro e V2 ⟨rfl,hb⟩;replace hE :=Aside0.mk (hE.out.under hb);clear hb))
 clear q22
 go_upto_region 7 with ((with_reducible refine gate_region 6 ?_);go_must ((refine zak (fun V => Env W V [(_,_),(_,_)]) [(1,0),(3,0),(0,1),(2,1),(4,2),(5,2),(6,0),(7,0),(8,0)] [9,10] [9,10] 11 (by kernel_rfl) rfl rfl (by kernel_rfl) (by intro c a d v w h;cases d <;> exact h) (hE.out.drewN 1) ?_);replace hE :=Aside0.mk (hE.out.drewN 1);have hS0 :=hE.out;(refine Sch.pureN (v :=?_) (a' :=?_) rfl rfl (by rfl) ?_ ?_ ?_;rotate_left 2;(· (intro w';go_simp <;> with_reducible rfl));(· (simp only [aput] <;> rfl)));(refine Sch.pureN (v :=?_) (a' :=?_) rfl rfl (by rfl) ?_ ?_ ?_;rotate_left 2;(· (intro w';go_simp <;> with_reducible rfl));(· (simp only [aput] <;> rfl)));(refine Sch.takeN (a' :=?_) rfl rfl (by rfl) hS0 (fun w' hS' => hS'.run 1 rfl rfl rfl (ld24 _ _)) ?_ ?_;rotate_left;(· (simp only [aput] <;> rfl)));(refine Sch.takeN (v :=?_) (a' :=?_) rfl rfl (by rfl) hS0 ?_ ?_ ?_;rotate_left 2;(· (intro w' hS';have qq :=(hS'.at_ 1 _ _ rfl).2.cell 13 _ rfl;go_simp <;> with_reducible rfl));(· (simp only [aput] <;> rfl)));(refine Sch.call (N :=some 48) rfl rfl Tryz.func14 (by kernel_rfl) rfl ?_ (by rfl) rfl ?_ ?_;rotate_left;(· (go_simp <;> with_reducible rfl));refine (ydq.calls B cb b b _ (hGb.out _ hE.out.b) hcb.out hown.out).mono ?_;rintro e V3 ⟨v0,rfl,hR0,hb⟩;obtain ⟨Ao,co,rfl,hco,hCo⟩ :=Kd.R_reads hR0;clear hR0;replace hE :=Aside0.mk (hE.out.under hb);replace hS0 :=hS0.under hb;clear hb;replace hco :=Aside0.mk hco;replace hCo :=Aside0.mk hCo;refine ⟨hS0,?_⟩;refine Sch.norm (a' :=?_) ?_ ?_;rotate_left;(· (simp only [aput] <;> rfl)));(refine Sch.call (N :=some 49) rfl rfl Tryz.func13 (by kernel_rfl) rfl ?_ (by rfl) rfl ?_ ?_;rotate_left;(· (go_simp <;> with_reducible rfl));refine (lnew (b :=b) (ρ :=ρ) (fun V' hb' => Kd.C_below hCo.out hb') hco.out hbr.out hok.out h300.out p0.out p1.out).mono ?_;rintro e V3 ⟨gF,rfl,hb,hgF,hF0⟩;have hne :=Aside0.mk (hE.out.apart hgF);have hle :=Aside0.mk (Nat.le_trans hE.out.size hgF);have hF :=Aside0.mk hF0;replace hE :=Aside0.mk (hE.out.under hb);replace hS0 :=hS0.under hb;clear hb hgF hF0 hCo hco;refine ⟨hS0,?_⟩;refine Sch.norm (a' :=?_) ?_ ?_;rotate_left;(· (simp only [aput] <;> rfl)));(refine Sch.pureN (v :=?_) (a' :=?_) rfl rfl (by rfl) ?_ ?_ ?_;rotate_left 2;(· (intro w';go_simp <;> with_reducible rfl));(· (simp only [aput] <;> rfl)));(refine Sch.pureN (v :=?_) (a' :=?_) rfl rfl (by rfl) ?_ ?_ ?_;rotate_left 2;(· (intro w';go_simp <;> with_reducible rfl));(· (simp only [aput] <;> rfl)));(refine Sch.pureN (v :=?_) (a' :=?_) rfl rfl (by rfl) ?_ ?_ ?_;rotate_left 2;(· (intro w';go_simp <;> with_reducible rfl));(· (simp only [aput] <;> rfl)));(refine Sch.tail 9 2 rfl rfl ?_;simp only [List.drop_succ_cons,List.drop_zero,List.drop_nil])))
 rw [hm0] at hF
 have hgF0 : Aside0 (gF ≠ 0) :=⟨by have :=hle.out;have :=htl.out;omega⟩
 go_upto_region 10 with (first | (go_at_call 15;refine (lins hF.out (hOf.out _ hE.out.b)).mono ?_;rintro e V2 ⟨rfl,hb⟩;replace hF :=Aside0.mk (hF.out.under hb);replace hE :=Aside0.mk (hE.out.under hb);clear hb) | ((with_reducible refine gate_alloc 28 ?_);refine wpList_newB hE.out rfl (insC 0 0 0 0 0 0) 28 (by kernel_rfl) ?_;intro V gn hE' hb hgn;have hgl :=hF.out.lt;have hne2 :=Aside0.mk (Nat.ne_of_gt (Nat.lt_of_lt_of_le hgl hgn));replace hF :=Aside0.mk (hF.out.under hb);replace hE :=Aside0.mk hE';clear hE' hb hgl hgn) | ((with_reducible refine gate_store 28 ?_);refine wpList_stB hE.out rfl 0 rfl 28 _ _ rfl _ rfl rfl rfl (by kernel_rfl) (zbc _ _ _ _ _ _) ?_;intro V hE' hk;replace hF :=Aside0.mk (hF.out.kp hk (Ne.symm hne2.out));(try dsimp only [List.set_cons_zero,List.set_cons_succ] at hE');replace hE :=Aside0.mk hE';clear hE' hk))
 go_upto_region 11 with (go_at_call 16;refine (lstepG hF.out hgF0.out (env_tab hE.out ht.out) i0.out i2.out p0.out p1.out (k :=11) (by decide) H.out).mono ?_;rintro e V2 ⟨Aq,cq,rfl,hkp,_,hlq,hCq0⟩;replace hE :=Aside0.mk (hE.out.kpf hkp hle.out (fun j g' cs hj => by cases j with | zero => simp only [List.getElem?_cons_zero,Option.some.injEq,Prod.mk.injEq] at hj;rw [← hj.1];exact hne2.out | succ j => exact hne.out j g' cs (by simpa using hj)));have hCq : Aside0 (∀ V',Below V2.heap.size V2 V' → k56.C V' Aq o.length o) :=⟨fun V' h' => Kd.C_below hCq0 h'⟩;replace hlq :=Aside0.mk hlq;clear hkp hCq0)
 go_upto_region 12 with (first | ((with_reducible refine gate_load 28 ?_);(try refine gate_guard (by rfl) ?_);refine zaf hE.out rfl 1 rfl 28 _ rfl rfl (ld28 _ _ _ _ _ _ _) ?_) | (go_at_call 17;refine (h17a.out _ hE.out.b).mono ?_;rintro e V2 ⟨A0,c0,rfl,hb,hc0,hC0⟩;replace hE :=Aside0.mk (hE.out.under hb);replace hCq :=keepC hb hCq;replace hC0 :=Aside0.mk hC0;replace hc0 :=Aside0.mk hc0;clear hb))
 go_upto_region 13 with (first | ((with_reducible refine gate_load 28 ?_);(try refine gate_guard (by rfl) ?_);refine zaf hE.out rfl 1 rfl 28 _ rfl rfl (ld28 _ _ _ _ _ _ _) ?_) | (go_at_call 17;refine (h17b.out _ hE.out.b).mono ?_;rintro e V2 ⟨A1,c1,rfl,hb,hc1,hC1⟩;replace hE :=Aside0.mk (hE.out.under hb);replace hCq :=keepC hb hCq;replace hC0 :=keepC hb hC0;replace hC1 :=Aside0.mk hC1;replace hc1 :=Aside0.mk hc1;clear hb))
 go_upto_region 16 with (first | ((with_reducible refine gate_load 28 ?_);(try refine gate_guard (by rfl) ?_);first | refine zaf hE.out rfl 0 rfl 28 _ rfl rfl (ld28 _ _ _ _ _ _ _) ?_ | refine zaf hE.out rfl 1 rfl 28 _ rfl rfl (ld28 _ _ _ _ _ _ _) ?_) | ((with_reducible refine gate_bin' .neq 28 ?_);(try refine gate_guard (by rfl) ?_);refine zap rfl (.bool false) (run_ne28 _ _ _ _ _ _ _ _ _ _ rfl rfl rfl _) ?_) | (go_at_call 18;refine (ycj.calls 12 Aq cq o cs _ (hCq.out _ (Below.refl _ _)) hlq.out.1 hcyc.out).mono ?_;rintro e V2 ⟨v0,rfl,hR0,hb⟩;obtain ⟨A2,c2,rfl,hc2,hC20⟩ :=Kd.R_reads hR0;clear hR0;replace hE :=Aside0.mk (hE.out.under hb);replace hC0 :=keepC hb hC0;replace hC1 :=keepC hb hC1;have hC2 : Aside0 (∀ V',Below V2.heap.size V2 V' → Kd.C (Kd.int .i64) V' A2 cs.length cs) :=⟨fun V' h' => Kd.C_below hC20 h'⟩;replace hc2 :=Aside0.mk hc2;clear hb hC20))
 rcases (by cases hg;exact .inl ⟨rfl,hxy.out.resolve_left Bool.false_ne_true⟩;exact .inr rfl : (hg = false ∧ ycr.f 12 xs ys = some true) ∨ hg = true) with ⟨rfl,hi⟩ | rfl
 all_goals
  try replace hi :=Aside0.mk hi
  have htt2 :=htt.out
  rcases (by cases t1;exact .inr ⟨rfl,htt2.resolve_left Bool.false_ne_true⟩;exact .inl rfl : t1 = true ∨ (t1 = false ∧ t2 = true)) with rfl | ⟨rfl,rfl⟩
  all_goals
   clear htt2
   go_upto_region 19 with (first | ((with_reducible refine gate_load 28 ?_);(try refine gate_guard (by rfl) ?_);refine zaf hE.out rfl 1 rfl 28 _ rfl rfl (ld28 _ _ _ _ _ _ _) ?_) | (go_at_call 19;refine (lHangs hchk.out h47.out).mono ?_;rintro e V2 ⟨rfl,hb⟩;rw [hhg.out];replace hE :=Aside0.mk (hE.out.under hb);replace hC0 :=keepC hb hC0;replace hC1 :=keepC hb hC1;replace hC2 :=keepC hb hC2;clear hb) | (go_at_call 20;(try refine gate_guard (by rfl) ?_);refine (ycr.calls 12 A0 c0 xs A1 c1 ys true _ (hC0.out _ (Below.refl _ _)) hc0.out (hC1.out _ (Below.refl _ _)) hc1.out hi.out).mono ?_;rintro e V2 ⟨rfl,hd5⟩;have hb :=zai hd5;replace hE :=Aside0.mk (hE.out.under hb);replace hC0 :=keepC hb hC0;replace hC1 :=keepC hb hC1;replace hC2 :=keepC hb hC2;clear hd5 hb) | (go_at_call 21;refine (lTotal (h17b.out.under hE.out.b) hy9.out hyr.out).mono ?_;rintro e V2 ⟨rfl,hb⟩;replace hE :=Aside0.mk (hE.out.under hb);replace hC0 :=keepC hb hC0;replace hC1 :=keepC hb hC1;replace hC2 :=keepC hb hC2;clear hb))
   go_wp2_with (first | (go_at_call 20;(try refine gate_guard (by rfl) ?_);have h9 :=g1;refine (ycr.calls 12 A2 c2 cs A0 c0 xs _ _ (hC2.out _ (Below.refl _ _)) hc2.out (hC0.out _ (Below.refl _ _)) hc0.out ht1.out).mono ?_;rintro e V2 ⟨rfl,hd5⟩;have hb :=zai hd5;replace hE :=Aside0.mk (hE.out.under hb);replace hC0 :=keepC hb hC0;replace hC1 :=keepC hb hC1;replace hC2 :=keepC hb hC2;clear hd5 hb h9 g1) | (go_at_call 20;(try refine gate_guard (by rfl) ?_);refine (ycr.calls 12 A2 c2 cs A1 c1 ys _ _ (hC2.out _ (Below.refl _ _)) hc2.out (hC1.out _ (Below.refl _ _)) hc1.out ht2.out).mono ?_;rintro e V2 ⟨rfl,hd5⟩;have hb :=zai hd5;replace hE :=Aside0.mk (hE.out.under hb);replace hC0 :=keepC hb hC0;replace hC1 :=keepC hb hC1;replace hC2 :=keepC hb hC2;clear hd5 hb))
   go_ret
   exact ⟨rfl,hE.out.b⟩
end Go.Proofs.YtnelghpendfdmaaGreatDoor.KRow
