-- Written by a program of this session out of Lean's print of the program (after the form of the kit's print.sh, with own turns); Lean checks it.
import Derived.Test.YtnelghpendfdmaaGreatDoorHFunx7
import Derived.Test.YtnelghpendfdmaaGreatDoorKPq
import Derived.Test.YtnelghpendfdmaaGreatDoorKOi
namespace Go.Proofs.YtnelghpendfdmaaGreatDoor.HFun
open Go.RowKit Go.Proofs.YtnelghpendfdmaaGreatDoorW.PrintWords Go.Proofs.YtnelghpendfdmaaGreatDoorW.PrintLast Go.Proofs.YtnelghpendfdmaaGreatDoorW.PrintMore
attribute [local go_sem] max2_int min2_int max_two min_two max_three min_three max_four min_four   -- for this text's walks alone
set_option linter.unusedVariables false
set_option linter.unusedSimpArgs false
/-! ### decode_Reaches: function 65 -/
def ydc.f (k : Nat) (a0_0 : Int) (a0_1 : Int) (a0_2 : Int) (a0_3 : Int) (a0_4 : Int) (a0_5 : Int) : Option (Bool) :=(yci.f k a0_0 a0_1 a0_2 a0_3 a0_4 a0_5).bind fun t207 => (if t207 = 0 then (if a0_0 = 0 then ((ycl.f k a0_2).bind fun t208 => (some t208)) else (some false)) else (some false))
theorem ydc.mono : ∀ a0 a1 a2 a3 a4 a5 k,LeO (ydc.f k a0 a1 a2 a3 a4 a5) (ydc.f (k + 1) a0 a1 a2 a3 a4 a5) :=by
 intro a0 a1 a2 a3 a4 a5 k
 unfold ydc.f
 repeat' first
   | (with_reducible exact yci.mono _ _ _ _ _ _ _)
   | (with_reducible exact ycl.mono _ _)
   | (with_reducible exact LeO.refl _)
   | (with_reducible exact LeO.none _)
   | (with_reducible refine LeO.ite ?_ ?_)
   | (with_reducible refine LeO.bind ?_ (fun _ => ?_))
   | exact yci.mono _ _ _ _ _ _ _
   | exact ycl.mono _ _
   | exact LeO.none _
   | refine LeO.ite ?_ ?_
   | refine LeO.bind ?_ (fun _ => ?_)
set_option maxHeartbeats 8000000 in
set_option maxRecDepth 100000 in
theorem ydc.calls (k : Nat) (a0_0 : Int) (a0_1 : Int) (a0_2 : Int) (a0_3 : Int) (a0_4 : Int) (a0_5 : Int) (r : Bool) (w : World) (h : ydc.f k a0_0 a0_1 a0_2 a0_3 a0_4 a0_5 = some r) :
  Calls Tryz.prog 65 #[.agg #[.int .i64 a0_0,.int .i64 a0_1,.int .i64 a0_2,.int .i64 a0_3,.int .i64 a0_4,.int .i64 a0_5]] w fun e w' => e = .returned (.bool r) ∧ Below w.heap.size w w' :=by
 have hu28 :=Tryz.underlying28
 have HB :=Aside0.mk (Below.refl w.heap.size w)
 have H : ((yci.f k a0_0 a0_1 a0_2 a0_3 a0_4 a0_5).bind fun t207 => (if t207 = 0 then (if a0_0 = 0 then ((ycl.f k a0_2).bind fun t208 => (some t208)) else (some false)) else (some false))) = some r :=h
 clear h
 replace H :=Option.bind_eq_some_iff.mp H
 obtain ⟨t207,A20,H⟩ :=H
 replace H : (if t207 = 0 then (if a0_0 = 0 then ((ycl.f k a0_2).bind fun t208 => (some t208)) else (some false)) else (some false)) = some r :=H
 have A2 :=Aside0.mk A20
 clear A20
 by_cases c3 : t207 = 0
 ·obtain ⟨H,c3b0,c3b1⟩ :=ipos c3 H;clear c3
  by_cases c4 : a0_0 = 0
  ·obtain ⟨H,c4b0,c4b1⟩ :=ipos c4 H;clear c4
   replace H :=Option.bind_eq_some_iff.mp H
   obtain ⟨t208,A50,H⟩ :=H
   replace H : (some t208) = some r :=H
   have A5 :=Aside0.mk A50
   clear A50
   obtain rfl :=Option.some.inj H
   go_enter Tryz.func65,Tryz.ntmps65
   go_wp2_with (first | ((with_reducible refine gate_dst (N :=1) rfl ?_);refine box_event ?hg (N :=1) ?hd (cs :=#[.int .i64 a0_0,.int .i64 a0_1,.int .i64 a0_2,.int .i64 a0_3,.int .i64 a0_4,.int .i64 a0_5]) (t :=28) ?hr ?_;(case hd => rfl);(case hg => rfl);(case hr => (go_simp;done));intro gb206 hg w6 hbox hb;have n0_ :=Aside0.mk (below_step (by repeat ((with_reducible exact HB.out))) hb);have n1_ :=Aside0.mk (hbox);have n2_ :=Aside0.mk ((by rw [hg];exact (below_size (by repeat ((with_reducible exact HB.out)))) : w.heap.size ≤ gb206));have n3_ :=Aside0.mk ((by rw [hg];exact (below_size (by repeat ((with_reducible exact HB.out)))) : w.heap.size ≤ gb206));clear HB;have HB :=n0_;have BK206 :=n1_;have GW206 :=n2_;have GE206 :=n3_;clear n0_ n1_ n2_ n3_;clear hb hbox hg;have hcz7_0 : w6.cell? ⟨gb206,0,none⟩ = some (.int .i64 a0_0) :=(blk_cell BK206.out 0).trans rfl;have hcz7_1 : w6.cell? ⟨gb206,1,none⟩ = some (.int .i64 a0_1) :=(blk_cell BK206.out 1).trans rfl;have hcz7_2 : w6.cell? ⟨gb206,2,none⟩ = some (.int .i64 a0_2) :=(blk_cell BK206.out 2).trans rfl;have hcz7_3 : w6.cell? ⟨gb206,3,none⟩ = some (.int .i64 a0_3) :=(blk_cell BK206.out 3).trans rfl;have hcz7_4 : w6.cell? ⟨gb206,4,none⟩ = some (.int .i64 a0_4) :=(blk_cell BK206.out 4).trans rfl;have hcz7_5 : w6.cell? ⟨gb206,5,none⟩ = some (.int .i64 a0_5) :=(blk_cell BK206.out 5).trans rfl;have hfz7_0 :=blk_frozen BK206.out 0;have hfz7_1 :=blk_frozen BK206.out 1;have hfz7_2 :=blk_frozen BK206.out 2;have hfz7_3 :=blk_frozen BK206.out 3;have hfz7_4 :=blk_frozen BK206.out 4;have hfz7_5 :=blk_frozen BK206.out 5) | ((with_reducible refine gate_callee (f :=46) rfl ?_);refine goesL_ (some 4) rfl rfl Tryz.func46 (by kernel_rfl) rfl #[.agg #[.int .i64 a0_0,.int .i64 a0_1,.int .i64 a0_2,.int .i64 a0_3,.int .i64 a0_4,.int .i64 a0_5]] rfl (by (try simp only [List.map_toArray,List.map_cons,List.map_nil]);rfl) ?_;(with_reducible refine (yci.calls k a0_0 a0_1 a0_2 a0_3 a0_4 a0_5 t207 _ A2.out).mono ?_);rintro e w8 ⟨rfl,hb⟩;refine ⟨_,rfl,?_⟩;have n0_ :=Aside0.mk (blk_below (g :=gb206) (o :=.cells #[.int .i64 a0_0,.int .i64 a0_1,.int .i64 a0_2,.int .i64 a0_3,.int .i64 a0_4,.int .i64 a0_5] 28 (0,0)) (by (with_reducible repeat (fail));exact BK206.out) hb);have n1_ :=Aside0.mk (below_step (by repeat ((with_reducible exact HB.out))) hb);clear BK206;clear HB;have BK206 :=n0_;have HB :=n1_;clear n0_ n1_;(try clear hb);(try clear hb2);(try clear hk);(try clear hi);have hcz9_0 : w8.cell? ⟨gb206,0,none⟩ = some (.int .i64 a0_0) :=(blk_cell BK206.out 0).trans rfl;have hcz9_1 : w8.cell? ⟨gb206,1,none⟩ = some (.int .i64 a0_1) :=(blk_cell BK206.out 1).trans rfl;have hcz9_2 : w8.cell? ⟨gb206,2,none⟩ = some (.int .i64 a0_2) :=(blk_cell BK206.out 2).trans rfl;have hcz9_3 : w8.cell? ⟨gb206,3,none⟩ = some (.int .i64 a0_3) :=(blk_cell BK206.out 3).trans rfl;have hcz9_4 : w8.cell? ⟨gb206,4,none⟩ = some (.int .i64 a0_4) :=(blk_cell BK206.out 4).trans rfl;have hcz9_5 : w8.cell? ⟨gb206,5,none⟩ = some (.int .i64 a0_5) :=(blk_cell BK206.out 5).trans rfl;have hfz9_0 :=blk_frozen BK206.out 0;have hfz9_1 :=blk_frozen BK206.out 1;have hfz9_2 :=blk_frozen BK206.out 2;have hfz9_3 :=blk_frozen BK206.out 3;have hfz9_4 :=blk_frozen BK206.out 4;have hfz9_5 :=blk_frozen BK206.out 5) | (go_at_call 75;(with_reducible refine (ycl.calls k a0_2 t208 _ A5.out).mono ?_);rintro e w' ⟨rfl,⟨nd,rfl⟩⟩))
   go_ret
   exact ⟨by rfl,by repeat ((with_reducible first | exact HB.out | apply pw_below_drewN))⟩
  ·obtain ⟨H,c4b0,c4b1⟩ :=ineg c4 H
   obtain rfl :=Option.some.inj H
   go_enter Tryz.func65,Tryz.ntmps65
   go_wp2_with (first | ((with_reducible refine gate_dst (N :=1) rfl ?_);refine box_event ?hg (N :=1) ?hd (cs :=#[.int .i64 a0_0,.int .i64 a0_1,.int .i64 a0_2,.int .i64 a0_3,.int .i64 a0_4,.int .i64 a0_5]) (t :=28) ?hr ?_;(case hd => rfl);(case hg => rfl);(case hr => (go_simp;done));intro gb206 hg w10 hbox hb;have n0_ :=Aside0.mk (below_step (by repeat ((with_reducible exact HB.out))) hb);have n1_ :=Aside0.mk (hbox);have n2_ :=Aside0.mk ((by rw [hg];exact (below_size (by repeat ((with_reducible exact HB.out)))) : w.heap.size ≤ gb206));have n3_ :=Aside0.mk ((by rw [hg];exact (below_size (by repeat ((with_reducible exact HB.out)))) : w.heap.size ≤ gb206));clear HB;have HB :=n0_;have BK206 :=n1_;have GW206 :=n2_;have GE206 :=n3_;clear n0_ n1_ n2_ n3_;clear hb hbox hg;have hcz11_0 : w10.cell? ⟨gb206,0,none⟩ = some (.int .i64 a0_0) :=(blk_cell BK206.out 0).trans rfl;have hcz11_1 : w10.cell? ⟨gb206,1,none⟩ = some (.int .i64 a0_1) :=(blk_cell BK206.out 1).trans rfl;have hcz11_2 : w10.cell? ⟨gb206,2,none⟩ = some (.int .i64 a0_2) :=(blk_cell BK206.out 2).trans rfl;have hcz11_3 : w10.cell? ⟨gb206,3,none⟩ = some (.int .i64 a0_3) :=(blk_cell BK206.out 3).trans rfl;have hcz11_4 : w10.cell? ⟨gb206,4,none⟩ = some (.int .i64 a0_4) :=(blk_cell BK206.out 4).trans rfl;have hcz11_5 : w10.cell? ⟨gb206,5,none⟩ = some (.int .i64 a0_5) :=(blk_cell BK206.out 5).trans rfl;have hfz11_0 :=blk_frozen BK206.out 0;have hfz11_1 :=blk_frozen BK206.out 1;have hfz11_2 :=blk_frozen BK206.out 2;have hfz11_3 :=blk_frozen BK206.out 3;have hfz11_4 :=blk_frozen BK206.out 4;have hfz11_5 :=blk_frozen BK206.out 5) | ((with_reducible refine gate_callee (f :=46) rfl ?_);refine goesL_ (some 4) rfl rfl Tryz.func46 (by kernel_rfl) rfl #[.agg #[.int .i64 a0_0,.int .i64 a0_1,.int .i64 a0_2,.int .i64 a0_3,.int .i64 a0_4,.int .i64 a0_5]] rfl (by (try simp only [List.map_toArray,List.map_cons,List.map_nil]);rfl) ?_;(with_reducible refine (yci.calls k a0_0 a0_1 a0_2 a0_3 a0_4 a0_5 t207 _ A2.out).mono ?_);rintro e w12 ⟨rfl,hb⟩;refine ⟨_,rfl,?_⟩;have n0_ :=Aside0.mk (blk_below (g :=gb206) (o :=.cells #[.int .i64 a0_0,.int .i64 a0_1,.int .i64 a0_2,.int .i64 a0_3,.int .i64 a0_4,.int .i64 a0_5] 28 (0,0)) (by (with_reducible repeat (fail));exact BK206.out) hb);have n1_ :=Aside0.mk (below_step (by repeat ((with_reducible exact HB.out))) hb);clear BK206;clear HB;have BK206 :=n0_;have HB :=n1_;clear n0_ n1_;(try clear hb);(try clear hb2);(try clear hk);(try clear hi);have hcz13_0 : w12.cell? ⟨gb206,0,none⟩ = some (.int .i64 a0_0) :=(blk_cell BK206.out 0).trans rfl;have hcz13_1 : w12.cell? ⟨gb206,1,none⟩ = some (.int .i64 a0_1) :=(blk_cell BK206.out 1).trans rfl;have hcz13_2 : w12.cell? ⟨gb206,2,none⟩ = some (.int .i64 a0_2) :=(blk_cell BK206.out 2).trans rfl;have hcz13_3 : w12.cell? ⟨gb206,3,none⟩ = some (.int .i64 a0_3) :=(blk_cell BK206.out 3).trans rfl;have hcz13_4 : w12.cell? ⟨gb206,4,none⟩ = some (.int .i64 a0_4) :=(blk_cell BK206.out 4).trans rfl;have hcz13_5 : w12.cell? ⟨gb206,5,none⟩ = some (.int .i64 a0_5) :=(blk_cell BK206.out 5).trans rfl;have hfz13_0 :=blk_frozen BK206.out 0;have hfz13_1 :=blk_frozen BK206.out 1;have hfz13_2 :=blk_frozen BK206.out 2;have hfz13_3 :=blk_frozen BK206.out 3;have hfz13_4 :=blk_frozen BK206.out 4;have hfz13_5 :=blk_frozen BK206.out 5))
   go_ret
   exact ⟨by rfl,by repeat ((with_reducible exact HB.out))⟩
 ·obtain ⟨H,c3b0,c3b1⟩ :=ineg c3 H
  obtain rfl :=Option.some.inj H
  go_enter Tryz.func65,Tryz.ntmps65
  go_wp2_with (first | ((with_reducible refine gate_dst (N :=1) rfl ?_);refine box_event ?hg (N :=1) ?hd (cs :=#[.int .i64 a0_0,.int .i64 a0_1,.int .i64 a0_2,.int .i64 a0_3,.int .i64 a0_4,.int .i64 a0_5]) (t :=28) ?hr ?_;(case hd => rfl);(case hg => rfl);(case hr => (go_simp;done));intro gb206 hg w14 hbox hb;have n0_ :=Aside0.mk (below_step (by repeat ((with_reducible exact HB.out))) hb);have n1_ :=Aside0.mk (hbox);have n2_ :=Aside0.mk ((by rw [hg];exact (below_size (by repeat ((with_reducible exact HB.out)))) : w.heap.size ≤ gb206));have n3_ :=Aside0.mk ((by rw [hg];exact (below_size (by repeat ((with_reducible exact HB.out)))) : w.heap.size ≤ gb206));clear HB;have HB :=n0_;have BK206 :=n1_;have GW206 :=n2_;have GE206 :=n3_;clear n0_ n1_ n2_ n3_;clear hb hbox hg;have hcz15_0 : w14.cell? ⟨gb206,0,none⟩ = some (.int .i64 a0_0) :=(blk_cell BK206.out 0).trans rfl;have hcz15_1 : w14.cell? ⟨gb206,1,none⟩ = some (.int .i64 a0_1) :=(blk_cell BK206.out 1).trans rfl;have hcz15_2 : w14.cell? ⟨gb206,2,none⟩ = some (.int .i64 a0_2) :=(blk_cell BK206.out 2).trans rfl;have hcz15_3 : w14.cell? ⟨gb206,3,none⟩ = some (.int .i64 a0_3) :=(blk_cell BK206.out 3).trans rfl;have hcz15_4 : w14.cell? ⟨gb206,4,none⟩ = some (.int .i64 a0_4) :=(blk_cell BK206.out 4).trans rfl;have hcz15_5 : w14.cell? ⟨gb206,5,none⟩ = some (.int .i64 a0_5) :=(blk_cell BK206.out 5).trans rfl;have hfz15_0 :=blk_frozen BK206.out 0;have hfz15_1 :=blk_frozen BK206.out 1;have hfz15_2 :=blk_frozen BK206.out 2;have hfz15_3 :=blk_frozen BK206.out 3;have hfz15_4 :=blk_frozen BK206.out 4;have hfz15_5 :=blk_frozen BK206.out 5) | ((with_reducible refine gate_callee (f :=46) rfl ?_);refine goesL_ (some 4) rfl rfl Tryz.func46 (by kernel_rfl) rfl #[.agg #[.int .i64 a0_0,.int .i64 a0_1,.int .i64 a0_2,.int .i64 a0_3,.int .i64 a0_4,.int .i64 a0_5]] rfl (by (try simp only [List.map_toArray,List.map_cons,List.map_nil]);rfl) ?_;(with_reducible refine (yci.calls k a0_0 a0_1 a0_2 a0_3 a0_4 a0_5 t207 _ A2.out).mono ?_);rintro e w16 ⟨rfl,hb⟩;refine ⟨_,rfl,?_⟩;have n0_ :=Aside0.mk (blk_below (g :=gb206) (o :=.cells #[.int .i64 a0_0,.int .i64 a0_1,.int .i64 a0_2,.int .i64 a0_3,.int .i64 a0_4,.int .i64 a0_5] 28 (0,0)) (by (with_reducible repeat (fail));exact BK206.out) hb);have n1_ :=Aside0.mk (below_step (by repeat ((with_reducible exact HB.out))) hb);clear BK206;clear HB;have BK206 :=n0_;have HB :=n1_;clear n0_ n1_;(try clear hb);(try clear hb2);(try clear hk);(try clear hi)))
  go_ret
  exact ⟨by rfl,by repeat ((with_reducible exact HB.out))⟩
end Go.Proofs.YtnelghpendfdmaaGreatDoor.HFun
namespace Go.Proofs.YtnelghpendfdmaaGreatDoor.KRow
open Go Go.RowKit Go.Proofs.YtnelghpendfdmaaGreatDoorW.PrintWords Go.Proofs.YtnelghpendfdmaaGreatDoorW.PrintLast Go.Proofs.YtnelghpendfdmaaGreatDoorW.PrintMore
open Go.Proofs.YtnelghpendfdmaaGreatDoor.HFun
set_option linter.unusedVariables false
set_option linter.unusedSimpArgs false
theorem run_ldF {V : World} {g : Nat} {ρ : Rg} {m : Nat → Int} (h : FlatB V g ρ m) {ev : Operand → Value} {op : Oper} {x : Operand} (ho : op.op = .load 24 x) (hx : ev x = .pointer (some ⟨g,0,none⟩)) : (execOp ev op).run Tryz.prog V = .ok (.value (.agg ρ.vals)) V :=by
 have :=ld24 g ρ V h.range
 unfold execOp
 simp only [ho,hx,this,Sem.run_bind,Sem.run_pure,Result.andThen_ok]
theorem Env.none' {w0 V : World} {bs : List (Nat × Array Value)} (h : Env w0 V bs) : Env w0 V [] :=⟨h.b,fun j g cs hj => by simp at hj,fun i j g c c' hi _ => by simp at hi⟩
set_option maxHeartbeats 16000000 in
set_option maxRecDepth 100000 in
theorem lclos {W : World} {A : Option Addr} {gl : List Int} {cp : Nat} {ρ : Rg} {m : Nat → Int} {gb gF : Nat} (hb0 : ∀ V,Below W.heap.size W V → V.cell? ⟨gb,0,none⟩ = some (.pointer (some ⟨gF,0,none⟩))) (hF : FlatB W gF ρ m) (hG : ∀ V,Below W.heap.size W V → Kd.C (Kd.int .u8) V A gl.length gl) (hcp : gl.length ≤ cp) (hr : ∀ x ∈ gl,0 ≤ x ∧ x < 256) (ht : Table W) (i0 : 0 ≤ ρ.im) (i2 : ρ.im ≤ 2) (p0 : 0 ≤ ρ.pc) (p1 : ρ.pc < 65536) {c : To} (hc : nx ρ (m (IntKind.u16.wrap (ρ.pc + 1)).toNat) gl = c) :
  Calls Tryz.prog 45 #[.slice A gl.length cp,.pointer (some ⟨gb,0,none⟩)] W fun e V => e = .returned c.val ∧ Below W.heap.size W V :=by
 have hw : IntKind.u16.wrap (ρ.pc + 1) = (ρ.pc + 1) % 65536 :=B.wu16 _
 have hpw : Aside0 ((IntKind.u16.wrap (ρ.pc + 1)).toNat < 65536) :=⟨by rw [hw];omega⟩
 have hlt : IntKind.u16.wrap (ρ.pc + 1) < 65536 :=by rw [hw];omega
 have hge : 0 ≤ IntKind.u16.wrap (ρ.pc + 1) :=by rw [hw];omega
 clear hw
 have hE :=Aside0.mk (Env.nil W)
 replace hb0 :=Aside0.mk hb0
 replace hF :=Aside0.mk hF
 replace hG :=Aside0.mk hG
 replace hcp :=Aside0.mk hcp
 replace hr :=Aside0.mk hr
 replace ht :=Aside0.mk ht
 replace i0 :=Aside0.mk i0
 replace i2 :=Aside0.mk i2
 replace hc :=Aside0.mk hc
 obtain ⟨ck,ca,cv,ct,cs,cd,ce⟩ :=c
 go_enter Tryz.func45,Tryz.ntmps45
 go_upto_region 1 with (first | ((with_reducible refine gate_alloc 56 ?_);refine zab hE.out rfl (reqC 0 0 0 0) 56 (by kernel_rfl) ?_;intro V g hE';replace hE :=Aside0.mk hE';clear hE') | ((with_reducible refine gate_alloc 24 ?_);refine zab hE.out rfl (zeroRg.vals) 24 (by kernel_rfl) ?_;intro V g hE';replace hE :=Aside0.mk hE';clear hE'))
 go_wp2_with (first | ((with_reducible refine gate_region 1 ?_);go_must ((refine zak (fun V => Env W V []) [(4,0),(0,1),(1,0),(2,0),(3,1),(5,1),(12,0),(13,0),(6,1),(7,0),(8,0),(9,0),(10,1),(11,0),(14,0),(15,1),(16,2),(17,0),(18,0),(19,0)] [20,21,22,23,24] [20,21,22,23,24] 25 (by kernel_rfl) rfl rfl (by kernel_rfl) (by intro c a d v w h;cases d <;> exact h) ((hE.out.drewN 1).none') ?_);replace hE :=Aside0.mk (hE.out.drewN 1);have hS0 :=hE.out.none';(repeat (first | (refine Sch.pureN (v :=?_) (a' :=?_) rfl rfl (by rfl) ?_ ?_ ?_;rotate_left 2;(· (intro w';go_simp <;> (repeat (fail)) <;> with_reducible rfl));(· (simp only [aput] <;> rfl))) | (refine Sch.takeN (v :=?_) (a' :=?_) rfl rfl (by rfl) hS0 ?_ ?_ ?_;rotate_left 2;(· (intro w' hS';have qq :=hb0.out _ hS'.b;go_simp <;> with_reducible rfl));(· (simp only [aput] <;> rfl))) | (refine Sch.takeN (a' :=?_) rfl rfl (by rfl) hS0 (fun w' hS' => run_ldF (hF.out.under hS'.b) rfl rfl) ?_ ?_;rotate_left;(· (simp only [aput] <;> rfl))) | (refine Sch.takeN (v :=?_) (a' :=?_) rfl rfl (by rfl) hS0 ?_ ?_ ?_;rotate_left 2;(· (intro w' hS';have qq :=(hF.out.under hS'.b).regs 13 _ rfl;go_simp <;> with_reducible rfl));(· (simp only [aput] <;> rfl))) | (refine Sch.takeN (v :=?_) (a' :=?_) rfl rfl (by rfl) hS0 ?_ ?_ ?_;rotate_left 2;(· (intro w' hS';have qq :=(hF.out.under hS'.b).mem _ hpw.out;go_simp <;> with_reducible rfl));(· (simp only [aput] <;> rfl)))));(refine Sch.call (N :=some 23) rfl rfl Tryz.func29 (by kernel_rfl) rfl ?_ (by rfl) rfl ?_ ?_;rotate_left;(· (go_simp <;> with_reducible rfl));refine (nextAll (gl :=gl) (A :=A) (cp :=cp) (ρ :=ρ) (peek :=_) (fun V' hb' => hG.out V' (hE.out.b.trans (hb'.mono hE.out.size))) hcp.out hr.out (env_tab hE.out ht.out) i0.out i2.out).mono ?_;rintro e V3 ⟨rfl,hb⟩;have hc2 :=hc.out;unfold nx at hc2;rw [hc2];clear hc2;replace hE :=Aside0.mk (hE.out.under hb);replace hS0 :=hS0.under hb;clear hb;dsimp only [To.val];refine ⟨hS0,?_⟩;refine Sch.norm (a' :=?_) ?_ ?_;rotate_left;(· (simp only [aput] <;> rfl)));(repeat (refine Sch.pureN (v :=?_) (a' :=?_) rfl rfl (by rfl) ?_ ?_ ?_;rotate_left 2;(· (intro w';go_simp <;> (repeat (fail)) <;> with_reducible rfl));(· (simp only [aput] <;> rfl))));(refine Sch.tail 20 5 rfl rfl ?_;simp only [List.drop_succ_cons,List.drop_zero,List.drop_nil]))) | ((with_reducible refine gate_store 56 ?_);(refine zac hE.out rfl 1 rfl 56 _ _ rfl _ rfl rfl rfl (by kernel_rfl) (reqC_one _ _ _ _) ?_);intro V hE';(try dsimp only [List.set_cons_zero,List.set_cons_succ] at hE');replace hE :=Aside0.mk hE';clear hE') | ((with_reducible refine gate_store 24 ?_);(refine zac hE.out rfl 0 rfl 24 _ _ rfl _ rfl rfl rfl (by kernel_rfl) (zcb _) ?_);intro V hE';(try dsimp only [List.set_cons_zero,List.set_cons_succ] at hE');replace hE :=Aside0.mk hE';clear hE'))
 have r1 :=run_loadVar_mid (P :=Tryz.prog) _ _ 0 56 (reqC _ _ _ _).toList _ (hE.out.at_ 1 _ _ rfl).2.range Tryz.underlying56 rfl info56
 have r2 :=run_loadVar_mid (P :=Tryz.prog) _ _ 0 24 (Rg.vals _).toList _ (hE.out.at_ 0 _ _ rfl).2.range Tryz.underlying24 rfl info24
 refine bodyPost_ret (v :=To.val _) ?_ rfl ⟨rfl,hE.out.b⟩
 simp [results,Tryz.results45,asAddr,r1,r2,To.val]
open Go Go.RowKit Go.Proofs.YtnelghpendfdmaaGreatDoorW.PrintWords
def Rw.pk (p : Int) (ρ : Rw) : Rw :={ ρ with peek :=p }
def Tr.pk {α : Type} (p : Int) : Tr α → Tr α
 | .ret v ρ => .ret v (ρ.pk p)
 | .ask k a v t f => .ask k a v t fun x => (f x).pk p
theorem pk_bind {α β : Type} {p : Int} {t t' : Tr α} {F F' : α → Rw → Tr β} (h : t.pk p = t') (k : ∀ v ρ,(F v ρ).pk p = F' v (ρ.pk p)) : (t.bind F).pk p = t'.bind F' :=by
 subst h
 induction t with
 | ret v ρ => exact k v ρ
 | ask a b c d f ih => simp only [Tr.bind,Tr.pk,ih]
theorem pk_ite {α : Type} {p : Int} {c c' : Prop} [Decidable c] [Decidable c'] {A B A' B' : Tr α} (e : c = c') (h : A.pk p = A') (k : B.pk p = B') : (if c then A else B).pk p = if c' then A' else B' :=by
 subst e h k
 by_cases h : c
 ·simp only [if_pos h]
 ·simp only [if_neg h]
theorem pk_ret {α : Type} {p : Int} {v v' : α} {ρ ρ' : Rw} (h : v = v') (k : ρ.pk p = ρ') : (Tr.ret v ρ).pk p = .ret v' ρ' :=by
 subst h k
 rfl
theorem pk_ask {α : Type} {p k a v t k' a' v' t' : Int} {f f' : Int → Tr α} (h : k = k' ∧ a = a' ∧ v = v' ∧ t = t') (g : ∀ x,(f x).pk p = f' x) : (Tr.ask k a v t f).pk p = .ask k' a' v' t' f' :=by
 obtain ⟨rfl,rfl,rfl,rfl⟩ :=h
 simp only [Tr.pk,g]
set_option maxRecDepth 100000
set_option maxHeartbeats 16000000
theorem pk_instr (p : Int) (ρ : Rw) : (ρ.instr false).pk p = (ρ.pk p).instr false :=by
 unfold Rw.instr
 simp only [Bool.false_eq_true,false_and,if_false]
 repeat' (first | ((with_reducible refine pk_ite ?_ ?_ ?_);· rfl) | (with_reducible refine pk_bind ?_ (fun v ρ => ?_)) | ((with_reducible refine pk_ret ?_ ?_) <;> rfl) | ((with_reducible refine pk_ask ?_ (fun x => ?_));· exact ⟨rfl,rfl,rfl,rfl⟩) | (delta Rw.req Rw.idle Rw.read Rw.write Rw.inp Rw.out Rw.fetch Rw.next Rw.word Rw.push Rw.pop Rw.putPair Rw.put8 Rw.address Rw.get Rw.jump Rw.store Rw.load Rw.call Rw.rets Rw.bitsOp Rw.setBits Rw.setBoth Rw.moves Rw.odd Rw.accumulator Rw.low0 Rw.low1 Rw.low3 Rw.low45 Rw.low6 Rw.low7 Rw.low Rw.high1 Rw.high5 Rw.high Rw.main Rw.again Rw.block0 Rw.block1 Rw.block2 Rw.block3 Rw.block Rw.more1 Rw.setMore Rw.second Rw.halted))
theorem told_pk {gl : List Int} (p : Int) {t : Tr Unit} {n : Nat} : toldOf gl ((t.pk p).run gl n) = toldOf gl (t.run gl n) :=by
 induction t generalizing n with
 | ret v ρ => rfl
 | ask k a v t f ih =>
  unfold Tr.pk Tr.run
  split
  ·exact ih _
  ·rfl
theorem nx_pk {ρ : Rg} {p q : Int} {g : List Int} (h : g.length ≠ 1) : nx ρ p g = nx ρ q g :=by
 have e : (((g.length : Nat) : Int) == 1) = false :=beq_eq_false_iff_ne.2 (by omega)
 unfold nx
 rw [e]
 have e1 :=pk_instr q ({ toRg :=ρ,peek :=p,x :=0,disp :=false,adr :=0 } : Rw)
 have e2 : (({ toRg :=ρ,peek :=p,x :=0,disp :=false,adr :=0 } : Rw).pk q) = { toRg :=ρ,peek :=q,x :=0,disp :=false,adr :=0 } :=rfl
 rw [e2] at e1
 rw [← e1,told_pk]
theorem wpList_stF {V : World} {g : Nat} {ρ : Rg} {m : Nat → Int} (h : FlatB V g ρ m) {ops : Array Oper} {rest : List Oper} {op : Oper} {a : Act} {Q : Exit → Act → World → Prop} (hgd : op.guard = none) (x y : Operand) (ho : op.op = .store 24 x y) (σ : Rg)
  (hx : a.eval x = .pointer (some ⟨g,0,none⟩)) (hy : a.eval y = .agg σ.vals)
  (k : ∀ V',V' = V.setCells g 0 σ.vals.toList → wpList Tryz.prog ops Q rest (a.put op.dst undef) V') : wpList Tryz.prog ops Q (op :: rest) a V :=
 wpList_store_mid hgd 24 x y ho g 0 σ.vals hx hy (fun j hj => by
  have h24 : σ.vals.size = 24 :=rfl
  rw [h24] at hj
  obtain ⟨u,hu⟩ : ∃ u,ρ.vals.toList[j]? = some u :=⟨_,List.getElem?_eq_getElem (by rw [show ρ.vals.toList.length = 24 from rfl];exact hj)⟩
  rw [Nat.zero_add]
  exact ⟨by rw [h.regs j u hu];rfl,h.frz j⟩) info24 (zcb _) (k _ rfl)
set_option maxHeartbeats 16000000 in
set_option maxRecDepth 100000 in
theorem run_ld33 {w0 V : World} {bs : List (Nat × Array Value)} (h : Env w0 V bs) (i : Nat) {g : Nat} {q : Option Addr} (hi : bs[i]? = some (g,#[.pointer q])) {ev : Operand → Value} {op : Oper} {x : Operand} (ho : op.op = .load 33 x) (hx : ev x = .pointer (some ⟨g,0,none⟩)) : (execOp ev op).run Tryz.prog V = .ok (.value (.pointer q)) V :=by
 have hc :=(h.at_ i _ _ hi).2.cell 0 _ rfl
 unfold execOp
 simp only [ho,hx]
 simp [go_sem,hc]
end Go.Proofs.YtnelghpendfdmaaGreatDoor.KRow
