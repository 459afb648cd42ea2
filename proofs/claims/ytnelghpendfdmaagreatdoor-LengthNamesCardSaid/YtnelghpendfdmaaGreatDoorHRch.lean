-- Written by a program of this session out of Lean's print of the program (after the form of the kit's print.sh, with own turns); Lean checks it.
import Derived.Test.YtnelghpendfdmaaGreatDoorHFunx7
namespace Go.Proofs.YtnelghpendfdmaaGreatDoor.HFun
open Go.RowKit Go.Proofs.YtnelghpendfdmaaGreatDoorW.PrintWords Go.Proofs.YtnelghpendfdmaaGreatDoorW.PrintLast Go.Proofs.YtnelghpendfdmaaGreatDoorW.PrintMore
attribute [local go_sem] max2_int min2_int max_two min_two max_three min_three max_four min_four   -- for this text's walks alone
set_option linter.unusedVariables false
set_option linter.unusedSimpArgs false

/-! ### decode_Reaches: function 65 -/
def decode_Reaches.f (k : Nat) (a0_0 : Int) (a0_1 : Int) (a0_2 : Int) (a0_3 : Int) (a0_4 : Int) (a0_5 : Int) : Option (Bool) :=(decode_Check.f k a0_0 a0_1 a0_2 a0_3 a0_4 a0_5).bind fun t207 => (if t207 = 0 then (if a0_0 = 0 then ((decode_reaches.f k a0_2).bind fun t208 => (some t208)) else (some false)) else (some false))
theorem decode_Reaches.mono : ∀ a0 a1 a2 a3 a4 a5 k,LeO (decode_Reaches.f k a0 a1 a2 a3 a4 a5) (decode_Reaches.f (k + 1) a0 a1 a2 a3 a4 a5) :=by
 intro a0 a1 a2 a3 a4 a5 k
 unfold decode_Reaches.f
 repeat' first
   | (with_reducible exact decode_Check.mono _ _ _ _ _ _ _)
   | (with_reducible exact decode_reaches.mono _ _)
   | (with_reducible exact LeO.refl _)
   | (with_reducible exact LeO.none _)
   | (with_reducible refine LeO.ite ?_ ?_)
   | (with_reducible refine LeO.bind ?_ (fun _ => ?_))
   | exact decode_Check.mono _ _ _ _ _ _ _
   | exact decode_reaches.mono _ _
   | exact LeO.none _
   | refine LeO.ite ?_ ?_
   | refine LeO.bind ?_ (fun _ => ?_)
set_option maxHeartbeats 8000000 in
set_option maxRecDepth 100000 in
theorem decode_Reaches.calls (k : Nat) (a0_0 : Int) (a0_1 : Int) (a0_2 : Int) (a0_3 : Int) (a0_4 : Int) (a0_5 : Int) (r : Bool) (w : World) (h : decode_Reaches.f k a0_0 a0_1 a0_2 a0_3 a0_4 a0_5 = some r) :
  Calls Tryz.prog 65 #[.agg #[.int .i64 a0_0,.int .i64 a0_1,.int .i64 a0_2,.int .i64 a0_3,.int .i64 a0_4,.int .i64 a0_5]] w fun e w' => e = .returned (.bool r) ∧ Below w.heap.size w w' :=by
 have hu28 :=Tryz.underlying28
 have HB :=Aside0.mk (Below.refl w.heap.size w)
 have H : ((decode_Check.f k a0_0 a0_1 a0_2 a0_3 a0_4 a0_5).bind fun t207 => (if t207 = 0 then (if a0_0 = 0 then ((decode_reaches.f k a0_2).bind fun t208 => (some t208)) else (some false)) else (some false))) = some r :=h
 clear h
 replace H :=Option.bind_eq_some_iff.mp H
 obtain ⟨t207,A20,H⟩ :=H
 replace H : (if t207 = 0 then (if a0_0 = 0 then ((decode_reaches.f k a0_2).bind fun t208 => (some t208)) else (some false)) else (some false)) = some r :=H
 have A2 :=Aside0.mk A20
 clear A20
 by_cases c3 : t207 = 0
 ·obtain ⟨H,c3b0,c3b1⟩ :=ipos c3 H;clear c3
  by_cases c4 : a0_0 = 0
  ·obtain ⟨H,c4b0,c4b1⟩ :=ipos c4 H;clear c4
   replace H :=Option.bind_eq_some_iff.mp H
   obtain ⟨t208,A50,H⟩ :=H
   replace H : (some t208) = some r :=H
   have A5 :=Aside0.mk A50
   clear A50
   obtain rfl :=Option.some.inj H
   go_enter Tryz.func65,Tryz.ntmps65
   go_wp2_with (first | ((with_reducible refine gate_dst (N :=1) rfl ?_);refine box_event ?hg (N :=1) ?hd (cs :=#[.int .i64 a0_0,.int .i64 a0_1,.int .i64 a0_2,.int .i64 a0_3,.int .i64 a0_4,.int .i64 a0_5]) (t :=28) ?hr ?_;(case hd => rfl);(case hg => rfl);(case hr => (go_simp;done));intro gb206 hg w6 hbox hb;have n0_ :=Aside0.mk (below_step (by repeat ((with_reducible exact HB.out))) hb);have n1_ :=Aside0.mk (hbox);have n2_ :=Aside0.mk ((by rw [hg];exact (below_size (by repeat ((with_reducible exact HB.out)))) : w.heap.size ≤ gb206));have n3_ :=Aside0.mk ((by rw [hg];exact (below_size (by repeat ((with_reducible exact HB.out)))) : w.heap.size ≤ gb206));clear HB;have HB :=n0_;have BK206 :=n1_;have GW206 :=n2_;have GE206 :=n3_;clear n0_ n1_ n2_ n3_;clear hb hbox hg;have hcz7_0 : w6.cell? ⟨gb206,0,none⟩ = some (.int .i64 a0_0) :=(blk_cell BK206.out 0).trans rfl;have hcz7_1 : w6.cell? ⟨gb206,1,none⟩ = some (.int .i64 a0_1) :=(blk_cell BK206.out 1).trans rfl;have hcz7_2 : w6.cell? ⟨gb206,2,none⟩ = some (.int .i64 a0_2) :=(blk_cell BK206.out 2).trans rfl;have hcz7_3 : w6.cell? ⟨gb206,3,none⟩ = some (.int .i64 a0_3) :=(blk_cell BK206.out 3).trans rfl;have hcz7_4 : w6.cell? ⟨gb206,4,none⟩ = some (.int .i64 a0_4) :=(blk_cell BK206.out 4).trans rfl;have hcz7_5 : w6.cell? ⟨gb206,5,none⟩ = some (.int .i64 a0_5) :=(blk_cell BK206.out 5).trans rfl;have hfz7_0 :=blk_frozen BK206.out 0;have hfz7_1 :=blk_frozen BK206.out 1;have hfz7_2 :=blk_frozen BK206.out 2;have hfz7_3 :=blk_frozen BK206.out 3;have hfz7_4 :=blk_frozen BK206.out 4;have hfz7_5 :=blk_frozen BK206.out 5) | ((with_reducible refine gate_callee (f :=46) rfl ?_);refine goesL_ (some 4) rfl rfl Tryz.func46 (by kernel_rfl) rfl #[.agg #[.int .i64 a0_0,.int .i64 a0_1,.int .i64 a0_2,.int .i64 a0_3,.int .i64 a0_4,.int .i64 a0_5]] rfl (by (try simp only [List.map_toArray,List.map_cons,List.map_nil]);rfl) ?_;(with_reducible refine (decode_Check.calls k a0_0 a0_1 a0_2 a0_3 a0_4 a0_5 t207 _ A2.out).mono ?_);rintro e w8 ⟨rfl,hb⟩;refine ⟨_,rfl,?_⟩;have n0_ :=Aside0.mk (blk_below (g :=gb206) (o :=.cells #[.int .i64 a0_0,.int .i64 a0_1,.int .i64 a0_2,.int .i64 a0_3,.int .i64 a0_4,.int .i64 a0_5] 28 (0,0)) (by (with_reducible repeat (fail));exact BK206.out) hb);have n1_ :=Aside0.mk (below_step (by repeat ((with_reducible exact HB.out))) hb);clear BK206;clear HB;have BK206 :=n0_;have HB :=n1_;clear n0_ n1_;(try clear hb);(try clear hb2);(try clear hk);(try clear hi);have hcz9_0 : w8.cell? ⟨gb206,0,none⟩ = some (.int .i64 a0_0) :=(blk_cell BK206.out 0).trans rfl;have hcz9_1 : w8.cell? ⟨gb206,1,none⟩ = some (.int .i64 a0_1) :=(blk_cell BK206.out 1).trans rfl;have hcz9_2 : w8.cell? ⟨gb206,2,none⟩ = some (.int .i64 a0_2) :=(blk_cell BK206.out 2).trans rfl;have hcz9_3 : w8.cell? ⟨gb206,3,none⟩ = some (.int .i64 a0_3) :=(blk_cell BK206.out 3).trans rfl;have hcz9_4 : w8.cell? ⟨gb206,4,none⟩ = some (.int .i64 a0_4) :=(blk_cell BK206.out 4).trans rfl;have hcz9_5 : w8.cell? ⟨gb206,5,none⟩ = some (.int .i64 a0_5) :=(blk_cell BK206.out 5).trans rfl;have hfz9_0 :=blk_frozen BK206.out 0;have hfz9_1 :=blk_frozen BK206.out 1;have hfz9_2 :=blk_frozen BK206.out 2;have hfz9_3 :=blk_frozen BK206.out 3;have hfz9_4 :=blk_frozen BK206.out 4;have hfz9_5 :=blk_frozen BK206.out 5) | (go_at_call 75;(with_reducible refine (decode_reaches.calls k a0_2 t208 _ A5.out).mono ?_);rintro e w' ⟨rfl,⟨nd,rfl⟩⟩))
   go_ret
   exact ⟨by rfl,by repeat ((with_reducible first | exact HB.out | apply pw_below_drewN))⟩
  ·obtain ⟨H,c4b0,c4b1⟩ :=ineg c4 H
   obtain rfl :=Option.some.inj H
   go_enter Tryz.func65,Tryz.ntmps65
   go_wp2_with (first | ((with_reducible refine gate_dst (N :=1) rfl ?_);refine box_event ?hg (N :=1) ?hd (cs :=#[.int .i64 a0_0,.int .i64 a0_1,.int .i64 a0_2,.int .i64 a0_3,.int .i64 a0_4,.int .i64 a0_5]) (t :=28) ?hr ?_;(case hd => rfl);(case hg => rfl);(case hr => (go_simp;done));intro gb206 hg w10 hbox hb;have n0_ :=Aside0.mk (below_step (by repeat ((with_reducible exact HB.out))) hb);have n1_ :=Aside0.mk (hbox);have n2_ :=Aside0.mk ((by rw [hg];exact (below_size (by repeat ((with_reducible exact HB.out)))) : w.heap.size ≤ gb206));have n3_ :=Aside0.mk ((by rw [hg];exact (below_size (by repeat ((with_reducible exact HB.out)))) : w.heap.size ≤ gb206));clear HB;have HB :=n0_;have BK206 :=n1_;have GW206 :=n2_;have GE206 :=n3_;clear n0_ n1_ n2_ n3_;clear hb hbox hg;have hcz11_0 : w10.cell? ⟨gb206,0,none⟩ = some (.int .i64 a0_0) :=(blk_cell BK206.out 0).trans rfl;have hcz11_1 : w10.cell? ⟨gb206,1,none⟩ = some (.int .i64 a0_1) :=(blk_cell BK206.out 1).trans rfl;have hcz11_2 : w10.cell? ⟨gb206,2,none⟩ = some (.int .i64 a0_2) :=(blk_cell BK206.out 2).trans rfl;have hcz11_3 : w10.cell? ⟨gb206,3,none⟩ = some (.int .i64 a0_3) :=(blk_cell BK206.out 3).trans rfl;have hcz11_4 : w10.cell? ⟨gb206,4,none⟩ = some (.int .i64 a0_4) :=(blk_cell BK206.out 4).trans rfl;have hcz11_5 : w10.cell? ⟨gb206,5,none⟩ = some (.int .i64 a0_5) :=(blk_cell BK206.out 5).trans rfl;have hfz11_0 :=blk_frozen BK206.out 0;have hfz11_1 :=blk_frozen BK206.out 1;have hfz11_2 :=blk_frozen BK206.out 2;have hfz11_3 :=blk_frozen BK206.out 3;have hfz11_4 :=blk_frozen BK206.out 4;have hfz11_5 :=blk_frozen BK206.out 5) | ((with_reducible refine gate_callee (f :=46) rfl ?_);refine goesL_ (some 4) rfl rfl Tryz.func46 (by kernel_rfl) rfl #[.agg #[.int .i64 a0_0,.int .i64 a0_1,.int .i64 a0_2,.int .i64 a0_3,.int .i64 a0_4,.int .i64 a0_5]] rfl (by (try simp only [List.map_toArray,List.map_cons,List.map_nil]);rfl) ?_;(with_reducible refine (decode_Check.calls k a0_0 a0_1 a0_2 a0_3 a0_4 a0_5 t207 _ A2.out).mono ?_);rintro e w12 ⟨rfl,hb⟩;refine ⟨_,rfl,?_⟩;have n0_ :=Aside0.mk (blk_below (g :=gb206) (o :=.cells #[.int .i64 a0_0,.int .i64 a0_1,.int .i64 a0_2,.int .i64 a0_3,.int .i64 a0_4,.int .i64 a0_5] 28 (0,0)) (by (with_reducible repeat (fail));exact BK206.out) hb);have n1_ :=Aside0.mk (below_step (by repeat ((with_reducible exact HB.out))) hb);clear BK206;clear HB;have BK206 :=n0_;have HB :=n1_;clear n0_ n1_;(try clear hb);(try clear hb2);(try clear hk);(try clear hi);have hcz13_0 : w12.cell? ⟨gb206,0,none⟩ = some (.int .i64 a0_0) :=(blk_cell BK206.out 0).trans rfl;have hcz13_1 : w12.cell? ⟨gb206,1,none⟩ = some (.int .i64 a0_1) :=(blk_cell BK206.out 1).trans rfl;have hcz13_2 : w12.cell? ⟨gb206,2,none⟩ = some (.int .i64 a0_2) :=(blk_cell BK206.out 2).trans rfl;have hcz13_3 : w12.cell? ⟨gb206,3,none⟩ = some (.int .i64 a0_3) :=(blk_cell BK206.out 3).trans rfl;have hcz13_4 : w12.cell? ⟨gb206,4,none⟩ = some (.int .i64 a0_4) :=(blk_cell BK206.out 4).trans rfl;have hcz13_5 : w12.cell? ⟨gb206,5,none⟩ = some (.int .i64 a0_5) :=(blk_cell BK206.out 5).trans rfl;have hfz13_0 :=blk_frozen BK206.out 0;have hfz13_1 :=blk_frozen BK206.out 1;have hfz13_2 :=blk_frozen BK206.out 2;have hfz13_3 :=blk_frozen BK206.out 3;have hfz13_4 :=blk_frozen BK206.out 4;have hfz13_5 :=blk_frozen BK206.out 5))
   go_ret
   exact ⟨by rfl,by repeat ((with_reducible exact HB.out))⟩
 ·obtain ⟨H,c3b0,c3b1⟩ :=ineg c3 H
  obtain rfl :=Option.some.inj H
  go_enter Tryz.func65,Tryz.ntmps65
  go_wp2_with (first | ((with_reducible refine gate_dst (N :=1) rfl ?_);refine box_event ?hg (N :=1) ?hd (cs :=#[.int .i64 a0_0,.int .i64 a0_1,.int .i64 a0_2,.int .i64 a0_3,.int .i64 a0_4,.int .i64 a0_5]) (t :=28) ?hr ?_;(case hd => rfl);(case hg => rfl);(case hr => (go_simp;done));intro gb206 hg w14 hbox hb;have n0_ :=Aside0.mk (below_step (by repeat ((with_reducible exact HB.out))) hb);have n1_ :=Aside0.mk (hbox);have n2_ :=Aside0.mk ((by rw [hg];exact (below_size (by repeat ((with_reducible exact HB.out)))) : w.heap.size ≤ gb206));have n3_ :=Aside0.mk ((by rw [hg];exact (below_size (by repeat ((with_reducible exact HB.out)))) : w.heap.size ≤ gb206));clear HB;have HB :=n0_;have BK206 :=n1_;have GW206 :=n2_;have GE206 :=n3_;clear n0_ n1_ n2_ n3_;clear hb hbox hg;have hcz15_0 : w14.cell? ⟨gb206,0,none⟩ = some (.int .i64 a0_0) :=(blk_cell BK206.out 0).trans rfl;have hcz15_1 : w14.cell? ⟨gb206,1,none⟩ = some (.int .i64 a0_1) :=(blk_cell BK206.out 1).trans rfl;have hcz15_2 : w14.cell? ⟨gb206,2,none⟩ = some (.int .i64 a0_2) :=(blk_cell BK206.out 2).trans rfl;have hcz15_3 : w14.cell? ⟨gb206,3,none⟩ = some (.int .i64 a0_3) :=(blk_cell BK206.out 3).trans rfl;have hcz15_4 : w14.cell? ⟨gb206,4,none⟩ = some (.int .i64 a0_4) :=(blk_cell BK206.out 4).trans rfl;have hcz15_5 : w14.cell? ⟨gb206,5,none⟩ = some (.int .i64 a0_5) :=(blk_cell BK206.out 5).trans rfl;have hfz15_0 :=blk_frozen BK206.out 0;have hfz15_1 :=blk_frozen BK206.out 1;have hfz15_2 :=blk_frozen BK206.out 2;have hfz15_3 :=blk_frozen BK206.out 3;have hfz15_4 :=blk_frozen BK206.out 4;have hfz15_5 :=blk_frozen BK206.out 5) | ((with_reducible refine gate_callee (f :=46) rfl ?_);refine goesL_ (some 4) rfl rfl Tryz.func46 (by kernel_rfl) rfl #[.agg #[.int .i64 a0_0,.int .i64 a0_1,.int .i64 a0_2,.int .i64 a0_3,.int .i64 a0_4,.int .i64 a0_5]] rfl (by (try simp only [List.map_toArray,List.map_cons,List.map_nil]);rfl) ?_;(with_reducible refine (decode_Check.calls k a0_0 a0_1 a0_2 a0_3 a0_4 a0_5 t207 _ A2.out).mono ?_);rintro e w16 ⟨rfl,hb⟩;refine ⟨_,rfl,?_⟩;have n0_ :=Aside0.mk (blk_below (g :=gb206) (o :=.cells #[.int .i64 a0_0,.int .i64 a0_1,.int .i64 a0_2,.int .i64 a0_3,.int .i64 a0_4,.int .i64 a0_5] 28 (0,0)) (by (with_reducible repeat (fail));exact BK206.out) hb);have n1_ :=Aside0.mk (below_step (by repeat ((with_reducible exact HB.out))) hb);clear BK206;clear HB;have BK206 :=n0_;have HB :=n1_;clear n0_ n1_;(try clear hb);(try clear hb2);(try clear hk);(try clear hi)))
  go_ret
  exact ⟨by rfl,by repeat ((with_reducible exact HB.out))⟩


end Go.Proofs.YtnelghpendfdmaaGreatDoor.HFun
