-- Written by a program of this session out of Lean's print of the program (after the form of the kit's print.sh, with own turns); Lean checks it.
import Derived.Test.YtnelghpendfdmaaGreatDoorKSch
namespace Go.Proofs.YtnelghpendfdmaaGreatDoor.HFun
set_option maxRecDepth 100000
set_option maxHeartbeats 16000000
open Go.RowKit Go.Proofs.YtnelghpendfdmaaGreatDoorW.PrintWords Go.Proofs.YtnelghpendfdmaaGreatDoorW.PrintLast Go.Proofs.YtnelghpendfdmaaGreatDoorW.PrintMore
attribute [local go_sem] max2_int min2_int max_two min_two max_three min_three max_four min_four   -- for this text's walks alone
set_option linter.unusedVariables false
set_option linter.unusedSimpArgs false

/-! ### regs_mod: function 115 -/
def ycg.f (a0 : Int) (a1 : Int) : Option (Int) :=if a1 = 0 then (none) else (some (Int.tmod (wrap64 ((Int.tmod a0 a1) + a1)) a1))
theorem ycg.calls (a0 : Int) (a1 : Int) (r : Int) (w : World) (h : ycg.f a0 a1 = some r) :
  Calls Tryz.prog 115 #[.int .i64 a0,.int .i64 a1] w fun e w' => e = .returned (.int .i64 r) ∧ Drawn0 w w' :=by
 have H : (if a1 = 0 then (none) else (some (Int.tmod (wrap64 ((Int.tmod a0 a1) + a1)) a1))) = some r :=h
 clear h
 by_cases c3 : a1 = 0
 ·rw [if_pos c3] at H
  exact absurd H (by simp)
 ·obtain ⟨H,c3b0,c3b1⟩ :=ineg c3 H
  obtain rfl :=Option.some.inj H
  go_enter Tryz.func115,Tryz.ntmps115
  go_wp2
  go_ret
  exact ⟨by rfl,by repeat (exact Drawn0.refl _)⟩

/-! ### regs_Check: function 41 -/
def regs_Check.f (a0_0 : Int) (a0_1 : Int) (a0_2 : Int) (a0_3 : Int) (a0_4 : Int) (a0_5 : Int) (a0_6 : Int) (a0_7 : Int) (a0_8 : Int) (a0_9 : Int) (a0_10 : Int) (a0_11 : Int) (a0_12 : Int) (a0_13 : Int) (a0_14 : Int) (a0_15 : Int) (a0_16 : Int) (a0_17 : Int) (a0_18 : Int) (a0_19 : Bool) (a0_20 : Bool) (a0_21 : Int) (a0_22 : Bool) (a0_23 : Bool) : Option (Int) :=if a0_21 < 0 then (some 2) else (if a0_21 > 2 then (some 2) else (some 0))
theorem regs_Check.calls (a0_0 : Int) (a0_1 : Int) (a0_2 : Int) (a0_3 : Int) (a0_4 : Int) (a0_5 : Int) (a0_6 : Int) (a0_7 : Int) (a0_8 : Int) (a0_9 : Int) (a0_10 : Int) (a0_11 : Int) (a0_12 : Int) (a0_13 : Int) (a0_14 : Int) (a0_15 : Int) (a0_16 : Int) (a0_17 : Int) (a0_18 : Int) (a0_19 : Bool) (a0_20 : Bool) (a0_21 : Int) (a0_22 : Bool) (a0_23 : Bool) (r : Int) (w : World) (h : regs_Check.f a0_0 a0_1 a0_2 a0_3 a0_4 a0_5 a0_6 a0_7 a0_8 a0_9 a0_10 a0_11 a0_12 a0_13 a0_14 a0_15 a0_16 a0_17 a0_18 a0_19 a0_20 a0_21 a0_22 a0_23 = some r) :
  Calls Tryz.prog 41 #[.agg #[.int .u8 a0_0,.int .u8 a0_1,.int .u8 a0_2,.int .u8 a0_3,.int .u8 a0_4,.int .u8 a0_5,.int .u8 a0_6,.int .u8 a0_7,.int .u8 a0_8,.int .u8 a0_9,.int .u16 a0_10,.int .u16 a0_11,.int .u16 a0_12,.int .u16 a0_13,.int .u16 a0_14,.int .u16 a0_15,.int .u16 a0_16,.int .u16 a0_17,.int .u16 a0_18,.bool a0_19,.bool a0_20,.int .i64 a0_21,.bool a0_22,.bool a0_23]] w fun e w' => e = .returned (.int .i64 r) ∧ Below w.heap.size w w' :=by
 have hu24 :=Tryz.underlying24
 have HB :=Aside0.mk (Below.refl w.heap.size w)
 have H : (if a0_21 < 0 then (some 2) else (if a0_21 > 2 then (some 2) else (some 0))) = some r :=h
 clear h
 by_cases c2 : a0_21 < 0
 ·rw [if_pos c2] at H
  have c2b0 : decide (a0_21 < 0) = true :=decide_eq_true c2
  clear c2
  obtain rfl :=Option.some.inj H
  go_enter Tryz.func41,Tryz.ntmps41
  go_wp2_with ((((with_reducible refine gate_dst (N :=1) rfl ?_);refine box_event ?hg (N :=1) ?hd (cs :=#[.int .u8 a0_0,.int .u8 a0_1,.int .u8 a0_2,.int .u8 a0_3,.int .u8 a0_4,.int .u8 a0_5,.int .u8 a0_6,.int .u8 a0_7,.int .u8 a0_8,.int .u8 a0_9,.int .u16 a0_10,.int .u16 a0_11,.int .u16 a0_12,.int .u16 a0_13,.int .u16 a0_14,.int .u16 a0_15,.int .u16 a0_16,.int .u16 a0_17,.int .u16 a0_18,.bool a0_19,.bool a0_20,.int .i64 a0_21,.bool a0_22,.bool a0_23]) (t :=24) ?hr ?_;(case hd => rfl);(case hg => rfl);(case hr => (go_simp;done));intro gb101 hg w3 hbox hb;have n0_ :=Aside0.mk (below_step (by repeat ((with_reducible exact HB.out))) hb);have n1_ :=Aside0.mk (hbox);have n2_ :=Aside0.mk ((by rw [hg];exact (below_size (by repeat ((with_reducible exact HB.out)))) : w.heap.size ≤ gb101));have n3_ :=Aside0.mk ((by rw [hg];exact (below_size (by repeat ((with_reducible exact HB.out)))) : w.heap.size ≤ gb101));clear HB;have HB :=n0_;have BK101 :=n1_;have GW101 :=n2_;have GE101 :=n3_;clear n0_ n1_ n2_ n3_;clear hb hbox hg;have hcz4_0 : w3.cell? ⟨gb101,0,none⟩ = some (.int .u8 a0_0) :=(blk_cell BK101.out 0).trans rfl;have hcz4_1 : w3.cell? ⟨gb101,1,none⟩ = some (.int .u8 a0_1) :=(blk_cell BK101.out 1).trans rfl;have hcz4_2 : w3.cell? ⟨gb101,2,none⟩ = some (.int .u8 a0_2) :=(blk_cell BK101.out 2).trans rfl;have hcz4_3 : w3.cell? ⟨gb101,3,none⟩ = some (.int .u8 a0_3) :=(blk_cell BK101.out 3).trans rfl;have hcz4_4 : w3.cell? ⟨gb101,4,none⟩ = some (.int .u8 a0_4) :=(blk_cell BK101.out 4).trans rfl;have hcz4_5 : w3.cell? ⟨gb101,5,none⟩ = some (.int .u8 a0_5) :=(blk_cell BK101.out 5).trans rfl;have hcz4_6 : w3.cell? ⟨gb101,6,none⟩ = some (.int .u8 a0_6) :=(blk_cell BK101.out 6).trans rfl;have hcz4_7 : w3.cell? ⟨gb101,7,none⟩ = some (.int .u8 a0_7) :=(blk_cell BK101.out 7).trans rfl;have hcz4_8 : w3.cell? ⟨gb101,8,none⟩ = some (.int .u8 a0_8) :=(blk_cell BK101.out 8).trans rfl;have hcz4_9 : w3.cell? ⟨gb101,9,none⟩ = some (.int .u8 a0_9) :=(blk_cell BK101.out 9).trans rfl;have hcz4_10 : w3.cell? ⟨gb101,10,none⟩ = some (.int .u16 a0_10) :=(blk_cell BK101.out 10).trans rfl;have hcz4_11 : w3.cell? ⟨gb101,11,none⟩ = some (.int .u16 a0_11) :=(blk_cell BK101.out 11).trans rfl;have hcz4_12 : w3.cell? ⟨gb101,12,none⟩ = some (.int .u16 a0_12) :=(blk_cell BK101.out 12).trans rfl;have hcz4_13 : w3.cell? ⟨gb101,13,none⟩ = some (.int .u16 a0_13) :=(blk_cell BK101.out 13).trans rfl;have hcz4_14 : w3.cell? ⟨gb101,14,none⟩ = some (.int .u16 a0_14) :=(blk_cell BK101.out 14).trans rfl;have hcz4_15 : w3.cell? ⟨gb101,15,none⟩ = some (.int .u16 a0_15) :=(blk_cell BK101.out 15).trans rfl;have hcz4_16 : w3.cell? ⟨gb101,16,none⟩ = some (.int .u16 a0_16) :=(blk_cell BK101.out 16).trans rfl;have hcz4_17 : w3.cell? ⟨gb101,17,none⟩ = some (.int .u16 a0_17) :=(blk_cell BK101.out 17).trans rfl;have hcz4_18 : w3.cell? ⟨gb101,18,none⟩ = some (.int .u16 a0_18) :=(blk_cell BK101.out 18).trans rfl;have hcz4_19 : w3.cell? ⟨gb101,19,none⟩ = some (.bool a0_19) :=(blk_cell BK101.out 19).trans rfl;have hcz4_20 : w3.cell? ⟨gb101,20,none⟩ = some (.bool a0_20) :=(blk_cell BK101.out 20).trans rfl;have hcz4_21 : w3.cell? ⟨gb101,21,none⟩ = some (.int .i64 a0_21) :=(blk_cell BK101.out 21).trans rfl;have hcz4_22 : w3.cell? ⟨gb101,22,none⟩ = some (.bool a0_22) :=(blk_cell BK101.out 22).trans rfl;have hcz4_23 : w3.cell? ⟨gb101,23,none⟩ = some (.bool a0_23) :=(blk_cell BK101.out 23).trans rfl;have hfz4_0 :=blk_frozen BK101.out 0;have hfz4_1 :=blk_frozen BK101.out 1;have hfz4_2 :=blk_frozen BK101.out 2;have hfz4_3 :=blk_frozen BK101.out 3;have hfz4_4 :=blk_frozen BK101.out 4;have hfz4_5 :=blk_frozen BK101.out 5;have hfz4_6 :=blk_frozen BK101.out 6;have hfz4_7 :=blk_frozen BK101.out 7;have hfz4_8 :=blk_frozen BK101.out 8;have hfz4_9 :=blk_frozen BK101.out 9;have hfz4_10 :=blk_frozen BK101.out 10;have hfz4_11 :=blk_frozen BK101.out 11;have hfz4_12 :=blk_frozen BK101.out 12;have hfz4_13 :=blk_frozen BK101.out 13;have hfz4_14 :=blk_frozen BK101.out 14;have hfz4_15 :=blk_frozen BK101.out 15;have hfz4_16 :=blk_frozen BK101.out 16;have hfz4_17 :=blk_frozen BK101.out 17;have hfz4_18 :=blk_frozen BK101.out 18;have hfz4_19 :=blk_frozen BK101.out 19;have hfz4_20 :=blk_frozen BK101.out 20;have hfz4_21 :=blk_frozen BK101.out 21;have hfz4_22 :=blk_frozen BK101.out 22;have hfz4_23 :=blk_frozen BK101.out 23)))
  go_ret
  exact ⟨by rfl,by repeat ((with_reducible exact HB.out))⟩
 ·rw [if_neg c2] at H
  have c2b0 : decide (a0_21 < 0) = false :=decide_eq_false c2
  clear c2
  by_cases c5 : a0_21 > 2
  ·rw [if_pos c5] at H
   have c5b0 : decide (2 < a0_21) = true :=decide_eq_true c5
   clear c5
   obtain rfl :=Option.some.inj H
   go_enter Tryz.func41,Tryz.ntmps41
   go_wp2_with ((((with_reducible refine gate_dst (N :=1) rfl ?_);refine box_event ?hg (N :=1) ?hd (cs :=#[.int .u8 a0_0,.int .u8 a0_1,.int .u8 a0_2,.int .u8 a0_3,.int .u8 a0_4,.int .u8 a0_5,.int .u8 a0_6,.int .u8 a0_7,.int .u8 a0_8,.int .u8 a0_9,.int .u16 a0_10,.int .u16 a0_11,.int .u16 a0_12,.int .u16 a0_13,.int .u16 a0_14,.int .u16 a0_15,.int .u16 a0_16,.int .u16 a0_17,.int .u16 a0_18,.bool a0_19,.bool a0_20,.int .i64 a0_21,.bool a0_22,.bool a0_23]) (t :=24) ?hr ?_;(case hd => rfl);(case hg => rfl);(case hr => (go_simp;done));intro gb101 hg w6 hbox hb;have n0_ :=Aside0.mk (below_step (by repeat ((with_reducible exact HB.out))) hb);have n1_ :=Aside0.mk (hbox);have n2_ :=Aside0.mk ((by rw [hg];exact (below_size (by repeat ((with_reducible exact HB.out)))) : w.heap.size ≤ gb101));have n3_ :=Aside0.mk ((by rw [hg];exact (below_size (by repeat ((with_reducible exact HB.out)))) : w.heap.size ≤ gb101));clear HB;have HB :=n0_;have BK101 :=n1_;have GW101 :=n2_;have GE101 :=n3_;clear n0_ n1_ n2_ n3_;clear hb hbox hg;have hcz7_0 : w6.cell? ⟨gb101,0,none⟩ = some (.int .u8 a0_0) :=(blk_cell BK101.out 0).trans rfl;have hcz7_1 : w6.cell? ⟨gb101,1,none⟩ = some (.int .u8 a0_1) :=(blk_cell BK101.out 1).trans rfl;have hcz7_2 : w6.cell? ⟨gb101,2,none⟩ = some (.int .u8 a0_2) :=(blk_cell BK101.out 2).trans rfl;have hcz7_3 : w6.cell? ⟨gb101,3,none⟩ = some (.int .u8 a0_3) :=(blk_cell BK101.out 3).trans rfl;have hcz7_4 : w6.cell? ⟨gb101,4,none⟩ = some (.int .u8 a0_4) :=(blk_cell BK101.out 4).trans rfl;have hcz7_5 : w6.cell? ⟨gb101,5,none⟩ = some (.int .u8 a0_5) :=(blk_cell BK101.out 5).trans rfl;have hcz7_6 : w6.cell? ⟨gb101,6,none⟩ = some (.int .u8 a0_6) :=(blk_cell BK101.out 6).trans rfl;have hcz7_7 : w6.cell? ⟨gb101,7,none⟩ = some (.int .u8 a0_7) :=(blk_cell BK101.out 7).trans rfl;have hcz7_8 : w6.cell? ⟨gb101,8,none⟩ = some (.int .u8 a0_8) :=(blk_cell BK101.out 8).trans rfl;have hcz7_9 : w6.cell? ⟨gb101,9,none⟩ = some (.int .u8 a0_9) :=(blk_cell BK101.out 9).trans rfl;have hcz7_10 : w6.cell? ⟨gb101,10,none⟩ = some (.int .u16 a0_10) :=(blk_cell BK101.out 10).trans rfl;have hcz7_11 : w6.cell? ⟨gb101,11,none⟩ = some (.int .u16 a0_11) :=(blk_cell BK101.out 11).trans rfl;have hcz7_12 : w6.cell? ⟨gb101,12,none⟩ = some (.int .u16 a0_12) :=(blk_cell BK101.out 12).trans rfl;have hcz7_13 : w6.cell? ⟨gb101,13,none⟩ = some (.int .u16 a0_13) :=(blk_cell BK101.out 13).trans rfl;have hcz7_14 : w6.cell? ⟨gb101,14,none⟩ = some (.int .u16 a0_14) :=(blk_cell BK101.out 14).trans rfl;have hcz7_15 : w6.cell? ⟨gb101,15,none⟩ = some (.int .u16 a0_15) :=(blk_cell BK101.out 15).trans rfl;have hcz7_16 : w6.cell? ⟨gb101,16,none⟩ = some (.int .u16 a0_16) :=(blk_cell BK101.out 16).trans rfl;have hcz7_17 : w6.cell? ⟨gb101,17,none⟩ = some (.int .u16 a0_17) :=(blk_cell BK101.out 17).trans rfl;have hcz7_18 : w6.cell? ⟨gb101,18,none⟩ = some (.int .u16 a0_18) :=(blk_cell BK101.out 18).trans rfl;have hcz7_19 : w6.cell? ⟨gb101,19,none⟩ = some (.bool a0_19) :=(blk_cell BK101.out 19).trans rfl;have hcz7_20 : w6.cell? ⟨gb101,20,none⟩ = some (.bool a0_20) :=(blk_cell BK101.out 20).trans rfl;have hcz7_21 : w6.cell? ⟨gb101,21,none⟩ = some (.int .i64 a0_21) :=(blk_cell BK101.out 21).trans rfl;have hcz7_22 : w6.cell? ⟨gb101,22,none⟩ = some (.bool a0_22) :=(blk_cell BK101.out 22).trans rfl;have hcz7_23 : w6.cell? ⟨gb101,23,none⟩ = some (.bool a0_23) :=(blk_cell BK101.out 23).trans rfl;have hfz7_0 :=blk_frozen BK101.out 0;have hfz7_1 :=blk_frozen BK101.out 1;have hfz7_2 :=blk_frozen BK101.out 2;have hfz7_3 :=blk_frozen BK101.out 3;have hfz7_4 :=blk_frozen BK101.out 4;have hfz7_5 :=blk_frozen BK101.out 5;have hfz7_6 :=blk_frozen BK101.out 6;have hfz7_7 :=blk_frozen BK101.out 7;have hfz7_8 :=blk_frozen BK101.out 8;have hfz7_9 :=blk_frozen BK101.out 9;have hfz7_10 :=blk_frozen BK101.out 10;have hfz7_11 :=blk_frozen BK101.out 11;have hfz7_12 :=blk_frozen BK101.out 12;have hfz7_13 :=blk_frozen BK101.out 13;have hfz7_14 :=blk_frozen BK101.out 14;have hfz7_15 :=blk_frozen BK101.out 15;have hfz7_16 :=blk_frozen BK101.out 16;have hfz7_17 :=blk_frozen BK101.out 17;have hfz7_18 :=blk_frozen BK101.out 18;have hfz7_19 :=blk_frozen BK101.out 19;have hfz7_20 :=blk_frozen BK101.out 20;have hfz7_21 :=blk_frozen BK101.out 21;have hfz7_22 :=blk_frozen BK101.out 22;have hfz7_23 :=blk_frozen BK101.out 23)))
   go_ret
   exact ⟨by rfl,by repeat ((with_reducible exact HB.out))⟩
  ·rw [if_neg c5] at H
   have c5b0 : decide (2 < a0_21) = false :=decide_eq_false c5
   clear c5
   obtain rfl :=Option.some.inj H
   go_enter Tryz.func41,Tryz.ntmps41
   go_wp2_with ((((with_reducible refine gate_dst (N :=1) rfl ?_);refine box_event ?hg (N :=1) ?hd (cs :=#[.int .u8 a0_0,.int .u8 a0_1,.int .u8 a0_2,.int .u8 a0_3,.int .u8 a0_4,.int .u8 a0_5,.int .u8 a0_6,.int .u8 a0_7,.int .u8 a0_8,.int .u8 a0_9,.int .u16 a0_10,.int .u16 a0_11,.int .u16 a0_12,.int .u16 a0_13,.int .u16 a0_14,.int .u16 a0_15,.int .u16 a0_16,.int .u16 a0_17,.int .u16 a0_18,.bool a0_19,.bool a0_20,.int .i64 a0_21,.bool a0_22,.bool a0_23]) (t :=24) ?hr ?_;(case hd => rfl);(case hg => rfl);(case hr => (go_simp;done));intro gb101 hg w8 hbox hb;have n0_ :=Aside0.mk (below_step (by repeat ((with_reducible exact HB.out))) hb);have n1_ :=Aside0.mk (hbox);have n2_ :=Aside0.mk ((by rw [hg];exact (below_size (by repeat ((with_reducible exact HB.out)))) : w.heap.size ≤ gb101));have n3_ :=Aside0.mk ((by rw [hg];exact (below_size (by repeat ((with_reducible exact HB.out)))) : w.heap.size ≤ gb101));clear HB;have HB :=n0_;have BK101 :=n1_;have GW101 :=n2_;have GE101 :=n3_;clear n0_ n1_ n2_ n3_;clear hb hbox hg;have hcz9_0 : w8.cell? ⟨gb101,0,none⟩ = some (.int .u8 a0_0) :=(blk_cell BK101.out 0).trans rfl;have hcz9_1 : w8.cell? ⟨gb101,1,none⟩ = some (.int .u8 a0_1) :=(blk_cell BK101.out 1).trans rfl;have hcz9_2 : w8.cell? ⟨gb101,2,none⟩ = some (.int .u8 a0_2) :=(blk_cell BK101.out 2).trans rfl;have hcz9_3 : w8.cell? ⟨gb101,3,none⟩ = some (.int .u8 a0_3) :=(blk_cell BK101.out 3).trans rfl;have hcz9_4 : w8.cell? ⟨gb101,4,none⟩ = some (.int .u8 a0_4) :=(blk_cell BK101.out 4).trans rfl;have hcz9_5 : w8.cell? ⟨gb101,5,none⟩ = some (.int .u8 a0_5) :=(blk_cell BK101.out 5).trans rfl;have hcz9_6 : w8.cell? ⟨gb101,6,none⟩ = some (.int .u8 a0_6) :=(blk_cell BK101.out 6).trans rfl;have hcz9_7 : w8.cell? ⟨gb101,7,none⟩ = some (.int .u8 a0_7) :=(blk_cell BK101.out 7).trans rfl;have hcz9_8 : w8.cell? ⟨gb101,8,none⟩ = some (.int .u8 a0_8) :=(blk_cell BK101.out 8).trans rfl;have hcz9_9 : w8.cell? ⟨gb101,9,none⟩ = some (.int .u8 a0_9) :=(blk_cell BK101.out 9).trans rfl;have hcz9_10 : w8.cell? ⟨gb101,10,none⟩ = some (.int .u16 a0_10) :=(blk_cell BK101.out 10).trans rfl;have hcz9_11 : w8.cell? ⟨gb101,11,none⟩ = some (.int .u16 a0_11) :=(blk_cell BK101.out 11).trans rfl;have hcz9_12 : w8.cell? ⟨gb101,12,none⟩ = some (.int .u16 a0_12) :=(blk_cell BK101.out 12).trans rfl;have hcz9_13 : w8.cell? ⟨gb101,13,none⟩ = some (.int .u16 a0_13) :=(blk_cell BK101.out 13).trans rfl;have hcz9_14 : w8.cell? ⟨gb101,14,none⟩ = some (.int .u16 a0_14) :=(blk_cell BK101.out 14).trans rfl;have hcz9_15 : w8.cell? ⟨gb101,15,none⟩ = some (.int .u16 a0_15) :=(blk_cell BK101.out 15).trans rfl;have hcz9_16 : w8.cell? ⟨gb101,16,none⟩ = some (.int .u16 a0_16) :=(blk_cell BK101.out 16).trans rfl;have hcz9_17 : w8.cell? ⟨gb101,17,none⟩ = some (.int .u16 a0_17) :=(blk_cell BK101.out 17).trans rfl;have hcz9_18 : w8.cell? ⟨gb101,18,none⟩ = some (.int .u16 a0_18) :=(blk_cell BK101.out 18).trans rfl;have hcz9_19 : w8.cell? ⟨gb101,19,none⟩ = some (.bool a0_19) :=(blk_cell BK101.out 19).trans rfl;have hcz9_20 : w8.cell? ⟨gb101,20,none⟩ = some (.bool a0_20) :=(blk_cell BK101.out 20).trans rfl;have hcz9_21 : w8.cell? ⟨gb101,21,none⟩ = some (.int .i64 a0_21) :=(blk_cell BK101.out 21).trans rfl;have hcz9_22 : w8.cell? ⟨gb101,22,none⟩ = some (.bool a0_22) :=(blk_cell BK101.out 22).trans rfl;have hcz9_23 : w8.cell? ⟨gb101,23,none⟩ = some (.bool a0_23) :=(blk_cell BK101.out 23).trans rfl;have hfz9_0 :=blk_frozen BK101.out 0;have hfz9_1 :=blk_frozen BK101.out 1;have hfz9_2 :=blk_frozen BK101.out 2;have hfz9_3 :=blk_frozen BK101.out 3;have hfz9_4 :=blk_frozen BK101.out 4;have hfz9_5 :=blk_frozen BK101.out 5;have hfz9_6 :=blk_frozen BK101.out 6;have hfz9_7 :=blk_frozen BK101.out 7;have hfz9_8 :=blk_frozen BK101.out 8;have hfz9_9 :=blk_frozen BK101.out 9;have hfz9_10 :=blk_frozen BK101.out 10;have hfz9_11 :=blk_frozen BK101.out 11;have hfz9_12 :=blk_frozen BK101.out 12;have hfz9_13 :=blk_frozen BK101.out 13;have hfz9_14 :=blk_frozen BK101.out 14;have hfz9_15 :=blk_frozen BK101.out 15;have hfz9_16 :=blk_frozen BK101.out 16;have hfz9_17 :=blk_frozen BK101.out 17;have hfz9_18 :=blk_frozen BK101.out 18;have hfz9_19 :=blk_frozen BK101.out 19;have hfz9_20 :=blk_frozen BK101.out 20;have hfz9_21 :=blk_frozen BK101.out 21;have hfz9_22 :=blk_frozen BK101.out 22;have hfz9_23 :=blk_frozen BK101.out 23)))
   go_ret
   exact ⟨by rfl,by repeat ((with_reducible exact HB.out))⟩

/-! ### wide_Pair: function 82 -/
def ydh.f (a0 : Int) (a1 : Int) : Option (Int) :=some (Go.bits .or .u16 (IntKind.u16.wrap ((IntKind.u16.wrap (a0)) * 256)) (IntKind.u16.wrap (a1)))
theorem ydh.calls (a0 : Int) (a1 : Int) (r : Int) (w : World) (h : ydh.f a0 a1 = some r) :
  Calls Tryz.prog 82 #[.int .u8 a0,.int .u8 a1] w fun e w' => e = .returned (.int .u16 r) ∧ Drawn0 w w' :=by
 have H : (some (Go.bits .or .u16 (IntKind.u16.wrap ((IntKind.u16.wrap (a0)) * 256)) (IntKind.u16.wrap (a1)))) = some r :=h
 clear h
 obtain rfl :=Option.some.inj H
 go_enter Tryz.func82,Tryz.ntmps82
 go_wp2
 go_ret
 exact ⟨by rfl,by repeat (exact Drawn0.refl _)⟩

/-! ### wide_Plus: function 86 -/
def wide_Plus.f (a0 : Int) (a1 : Int) : Option (Int) :=some (IntKind.u16.wrap (a0 + (IntKind.u16.wrap (IntKind.i16.wrap (IntKind.i8.wrap (a1))))))
theorem wide_Plus.calls (a0 : Int) (a1 : Int) (r : Int) (w : World) (h : wide_Plus.f a0 a1 = some r) :
  Calls Tryz.prog 86 #[.int .u16 a0,.int .u8 a1] w fun e w' => e = .returned (.int .u16 r) ∧ Drawn0 w w' :=by
 have H : (some (IntKind.u16.wrap (a0 + (IntKind.u16.wrap (IntKind.i16.wrap (IntKind.i8.wrap (a1))))))) = some r :=h
 clear h
 obtain rfl :=Option.some.inj H
 go_enter Tryz.func86,Tryz.ntmps86
 go_wp2
 go_ret
 exact ⟨by rfl,by repeat (exact Drawn0.refl _)⟩

/-! ### wide_Split: function 107 -/
def ydr.f (a0 : Int) : Option (Int × Int) :=some ((a0 / 256) % 256,(a0) % 256)
theorem ydr.calls (a0 : Int) (r1 : Int) (r2 : Int) (w : World) (h : ydr.f a0 = some (r1,r2)) :
  Calls Tryz.prog 107 #[.int .u16 a0] w fun e w' => e = .returned (.tuple #[.int .u8 r1,.int .u8 r2]) ∧ Drawn0 w w' :=by
 have H : (some ((a0 / 256) % 256,(a0) % 256)) = some (r1,r2) :=h
 clear h
 simp only [Option.some.injEq,Prod.mk.injEq] at H
 obtain ⟨rfl,rfl⟩ :=H
 go_enter Tryz.func107,Tryz.ntmps107
 go_wp2
 go_ret2
 exact ⟨by rfl,by repeat (exact Drawn0.refl _)⟩

/-! ### wide_if1: function 145 -/
def ycs.f (a0 : Bool) (a1 : Int) : Option (Int) :=if a0 = true then (some a1) else (some 0)
theorem ycs.calls (a0 : Bool) (a1 : Int) (r : Int) (w : World) (h : ycs.f a0 a1 = some r) :
  Calls Tryz.prog 145 #[.bool a0,.int .u8 a1] w fun e w' => e = .returned (.int .u8 r) ∧ Drawn0 w w' :=by
 have H : (if a0 = true then (some a1) else (some 0)) = some r :=h
 clear h
 by_cases c3 : a0 = true
 ·subst c3
  have H1 : (some a1) = some r :=by rw [if_pos rfl] at H;exact H
  clear H
  have H :=H1
  clear H1
  obtain rfl :=Option.some.inj H
  go_enter Tryz.func145,Tryz.ntmps145
  go_wp2
  go_ret
  exact ⟨by rfl,by repeat (exact Drawn0.refl _)⟩
 ·replace c3 :=Bool.eq_false_iff.mpr c3
  subst c3
  have H1 : (some 0) = some r :=by rw [if_neg (show ¬ (false = true) by decide)] at H;exact H
  clear H
  have H :=H1
  clear H1
  obtain rfl :=Option.some.inj H
  go_enter Tryz.func145,Tryz.ntmps145
  go_wp2
  go_ret
  exact ⟨by rfl,by repeat (exact Drawn0.refl _)⟩

/-! ### wide_all: function 144 -/
def yds.f (a0 : Int) : Option (Int) :=(ycs.f (a0 == 0) 64).bind fun t102 => (some (Go.bits .or .u8 (Go.bits .and .u8 ((a0 / 256) % 256) 168) t102))
theorem yds.calls (a0 : Int) (r : Int) (w : World) (h : yds.f a0 = some r) :
  Calls Tryz.prog 144 #[.int .u16 a0] w fun e w' => e = .returned (.int .u8 r) ∧ Drawn0 w w' :=by
 have H : ((ycs.f (a0 == 0) 64).bind fun t102 => (some (Go.bits .or .u8 (Go.bits .and .u8 ((a0 / 256) % 256) 168) t102))) = some r :=h
 clear h
 replace H :=Option.bind_eq_some_iff.mp H
 obtain ⟨t102,A20,H⟩ :=H
 replace H : (some (Go.bits .or .u8 (Go.bits .and .u8 ((a0 / 256) % 256) 168) t102)) = some r :=H
 have A2 :=Aside0.mk A20
 clear A20
 obtain rfl :=Option.some.inj H
 go_enter Tryz.func144,Tryz.ntmps144
 go_wp2_with ((((with_reducible refine gate_callee (f :=145) rfl ?_);refine goesL_ (some 9) rfl rfl Tryz.func145 (by kernel_rfl) rfl #[.bool (a0 == 0),.int .u8 64] rfl (by (try simp only [List.map_toArray,List.map_cons,List.map_nil]);rfl) ?_;(with_reducible refine (ycs.calls (a0 == 0) 64 t102 _ A2.out).mono ?_);rintro e w' ⟨rfl,⟨nd,rfl⟩⟩;refine ⟨_,rfl,?_⟩)))
 go_ret
 exact ⟨by rfl,by repeat (first | exact Drawn0.refl _ | apply Drawn0.step)⟩

/-! ### wide_Sbc: function 104 -/
def wide_Sbc.f (a0 : Int) (a1 : Int) (a2 : Int) : Option (Int × Int) :=(yds.f (IntKind.u16.wrap (wrap64 ((wrap64 ((wrap64 (a0)) - (wrap64 (a1)))) - (wrap64 (Go.bits .and .u8 a2 1)))))).bind fun t103 => ((ycs.f (decide ((wrap64 ((wrap64 ((wrap64 (a0)) - (wrap64 (a1)))) - (wrap64 (Go.bits .and .u8 a2 1)))) < 0)) 1).bind fun t104 => ((ycs.f (decide ((wrap64 ((wrap64 ((wrap64 (Go.bits .and .u16 a0 4095)) - (wrap64 (Go.bits .and .u16 a1 4095)))) - (wrap64 (Go.bits .and .u8 a2 1)))) < 0)) 16).bind fun t105 => (if (wrap64 ((wrap64 ((wrap64 (IntKind.i16.wrap (a0))) - (wrap64 (IntKind.i16.wrap (a1))))) - (wrap64 (Go.bits .and .u8 a2 1)))) < (-32768) then ((ycs.f true 4).bind fun t106 => (some (IntKind.u16.wrap (wrap64 ((wrap64 ((wrap64 (a0)) - (wrap64 (a1)))) - (wrap64 (Go.bits .and .u8 a2 1)))),Go.bits .or .u8 (Go.bits .or .u8 (Go.bits .or .u8 (Go.bits .or .u8 t103 2) t104) t105) t106))) else ((ycs.f (decide ((wrap64 ((wrap64 ((wrap64 (IntKind.i16.wrap (a0))) - (wrap64 (IntKind.i16.wrap (a1))))) - (wrap64 (Go.bits .and .u8 a2 1)))) ≥ 32768)) 4).bind fun t107 => (some (IntKind.u16.wrap (wrap64 ((wrap64 ((wrap64 (a0)) - (wrap64 (a1)))) - (wrap64 (Go.bits .and .u8 a2 1)))),Go.bits .or .u8 (Go.bits .or .u8 (Go.bits .or .u8 (Go.bits .or .u8 t103 2) t104) t105) t107))))))
theorem wide_Sbc.calls (a0 : Int) (a1 : Int) (a2 : Int) (r1 : Int) (r2 : Int) (w : World) (h : wide_Sbc.f a0 a1 a2 = some (r1,r2)) :
  Calls Tryz.prog 104 #[.int .u16 a0,.int .u16 a1,.int .u8 a2] w fun e w' => e = .returned (.tuple #[.int .u16 r1,.int .u8 r2]) ∧ Drawn0 w w' :=by
 have H : ((yds.f (IntKind.u16.wrap (wrap64 ((wrap64 ((wrap64 (a0)) - (wrap64 (a1)))) - (wrap64 (Go.bits .and .u8 a2 1)))))).bind fun t103 => ((ycs.f (decide ((wrap64 ((wrap64 ((wrap64 (a0)) - (wrap64 (a1)))) - (wrap64 (Go.bits .and .u8 a2 1)))) < 0)) 1).bind fun t104 => ((ycs.f (decide ((wrap64 ((wrap64 ((wrap64 (Go.bits .and .u16 a0 4095)) - (wrap64 (Go.bits .and .u16 a1 4095)))) - (wrap64 (Go.bits .and .u8 a2 1)))) < 0)) 16).bind fun t105 => (if (wrap64 ((wrap64 ((wrap64 (IntKind.i16.wrap (a0))) - (wrap64 (IntKind.i16.wrap (a1))))) - (wrap64 (Go.bits .and .u8 a2 1)))) < (-32768) then ((ycs.f true 4).bind fun t106 => (some (IntKind.u16.wrap (wrap64 ((wrap64 ((wrap64 (a0)) - (wrap64 (a1)))) - (wrap64 (Go.bits .and .u8 a2 1)))),Go.bits .or .u8 (Go.bits .or .u8 (Go.bits .or .u8 (Go.bits .or .u8 t103 2) t104) t105) t106))) else ((ycs.f (decide ((wrap64 ((wrap64 ((wrap64 (IntKind.i16.wrap (a0))) - (wrap64 (IntKind.i16.wrap (a1))))) - (wrap64 (Go.bits .and .u8 a2 1)))) ≥ 32768)) 4).bind fun t107 => (some (IntKind.u16.wrap (wrap64 ((wrap64 ((wrap64 (a0)) - (wrap64 (a1)))) - (wrap64 (Go.bits .and .u8 a2 1)))),Go.bits .or .u8 (Go.bits .or .u8 (Go.bits .or .u8 (Go.bits .or .u8 t103 2) t104) t105) t107))))))) = some (r1,r2) :=h
 clear h
 replace H :=Option.bind_eq_some_iff.mp H
 obtain ⟨t103,A40,H⟩ :=H
 replace H : ((ycs.f (decide ((wrap64 ((wrap64 ((wrap64 (a0)) - (wrap64 (a1)))) - (wrap64 (Go.bits .and .u8 a2 1)))) < 0)) 1).bind fun t104 => ((ycs.f (decide ((wrap64 ((wrap64 ((wrap64 (Go.bits .and .u16 a0 4095)) - (wrap64 (Go.bits .and .u16 a1 4095)))) - (wrap64 (Go.bits .and .u8 a2 1)))) < 0)) 16).bind fun t105 => (if (wrap64 ((wrap64 ((wrap64 (IntKind.i16.wrap (a0))) - (wrap64 (IntKind.i16.wrap (a1))))) - (wrap64 (Go.bits .and .u8 a2 1)))) < (-32768) then ((ycs.f true 4).bind fun t106 => (some (IntKind.u16.wrap (wrap64 ((wrap64 ((wrap64 (a0)) - (wrap64 (a1)))) - (wrap64 (Go.bits .and .u8 a2 1)))),Go.bits .or .u8 (Go.bits .or .u8 (Go.bits .or .u8 (Go.bits .or .u8 t103 2) t104) t105) t106))) else ((ycs.f (decide ((wrap64 ((wrap64 ((wrap64 (IntKind.i16.wrap (a0))) - (wrap64 (IntKind.i16.wrap (a1))))) - (wrap64 (Go.bits .and .u8 a2 1)))) ≥ 32768)) 4).bind fun t107 => (some (IntKind.u16.wrap (wrap64 ((wrap64 ((wrap64 (a0)) - (wrap64 (a1)))) - (wrap64 (Go.bits .and .u8 a2 1)))),Go.bits .or .u8 (Go.bits .or .u8 (Go.bits .or .u8 (Go.bits .or .u8 t103 2) t104) t105) t107)))))) = some (r1,r2) :=H
 have A4 :=Aside0.mk A40
 clear A40
 replace H :=Option.bind_eq_some_iff.mp H
 obtain ⟨t104,A50,H⟩ :=H
 replace H : ((ycs.f (decide ((wrap64 ((wrap64 ((wrap64 (Go.bits .and .u16 a0 4095)) - (wrap64 (Go.bits .and .u16 a1 4095)))) - (wrap64 (Go.bits .and .u8 a2 1)))) < 0)) 16).bind fun t105 => (if (wrap64 ((wrap64 ((wrap64 (IntKind.i16.wrap (a0))) - (wrap64 (IntKind.i16.wrap (a1))))) - (wrap64 (Go.bits .and .u8 a2 1)))) < (-32768) then ((ycs.f true 4).bind fun t106 => (some (IntKind.u16.wrap (wrap64 ((wrap64 ((wrap64 (a0)) - (wrap64 (a1)))) - (wrap64 (Go.bits .and .u8 a2 1)))),Go.bits .or .u8 (Go.bits .or .u8 (Go.bits .or .u8 (Go.bits .or .u8 t103 2) t104) t105) t106))) else ((ycs.f (decide ((wrap64 ((wrap64 ((wrap64 (IntKind.i16.wrap (a0))) - (wrap64 (IntKind.i16.wrap (a1))))) - (wrap64 (Go.bits .and .u8 a2 1)))) ≥ 32768)) 4).bind fun t107 => (some (IntKind.u16.wrap (wrap64 ((wrap64 ((wrap64 (a0)) - (wrap64 (a1)))) - (wrap64 (Go.bits .and .u8 a2 1)))),Go.bits .or .u8 (Go.bits .or .u8 (Go.bits .or .u8 (Go.bits .or .u8 t103 2) t104) t105) t107))))) = some (r1,r2) :=H
 have A5 :=Aside0.mk A50
 clear A50
 replace H :=Option.bind_eq_some_iff.mp H
 obtain ⟨t105,A60,H⟩ :=H
 replace H : (if (wrap64 ((wrap64 ((wrap64 (IntKind.i16.wrap (a0))) - (wrap64 (IntKind.i16.wrap (a1))))) - (wrap64 (Go.bits .and .u8 a2 1)))) < (-32768) then ((ycs.f true 4).bind fun t106 => (some (IntKind.u16.wrap (wrap64 ((wrap64 ((wrap64 (a0)) - (wrap64 (a1)))) - (wrap64 (Go.bits .and .u8 a2 1)))),Go.bits .or .u8 (Go.bits .or .u8 (Go.bits .or .u8 (Go.bits .or .u8 t103 2) t104) t105) t106))) else ((ycs.f (decide ((wrap64 ((wrap64 ((wrap64 (IntKind.i16.wrap (a0))) - (wrap64 (IntKind.i16.wrap (a1))))) - (wrap64 (Go.bits .and .u8 a2 1)))) ≥ 32768)) 4).bind fun t107 => (some (IntKind.u16.wrap (wrap64 ((wrap64 ((wrap64 (a0)) - (wrap64 (a1)))) - (wrap64 (Go.bits .and .u8 a2 1)))),Go.bits .or .u8 (Go.bits .or .u8 (Go.bits .or .u8 (Go.bits .or .u8 t103 2) t104) t105) t107)))) = some (r1,r2) :=H
 have A6 :=Aside0.mk A60
 clear A60
 by_cases c7 : (wrap64 ((wrap64 ((wrap64 (IntKind.i16.wrap (a0))) - (wrap64 (IntKind.i16.wrap (a1))))) - (wrap64 (Go.bits .and .u8 a2 1)))) < (-32768)
 ·rw [if_pos c7] at H
  have c7b0 : decide ((wrap64 ((wrap64 ((wrap64 (IntKind.i16.wrap (a0))) - (wrap64 (IntKind.i16.wrap (a1))))) - (wrap64 (Go.bits .and .u8 a2 1)))) < (-32768)) = true :=decide_eq_true c7
  clear c7
  replace H :=Option.bind_eq_some_iff.mp H
  obtain ⟨t106,A80,H⟩ :=H
  replace H : (some (IntKind.u16.wrap (wrap64 ((wrap64 ((wrap64 (a0)) - (wrap64 (a1)))) - (wrap64 (Go.bits .and .u8 a2 1)))),Go.bits .or .u8 (Go.bits .or .u8 (Go.bits .or .u8 (Go.bits .or .u8 t103 2) t104) t105) t106)) = some (r1,r2) :=H
  have A8 :=Aside0.mk A80
  clear A80
  simp only [Option.some.injEq,Prod.mk.injEq] at H
  obtain ⟨rfl,rfl⟩ :=H
  go_enter Tryz.func104,Tryz.ntmps104
  go_wp2_with (first | ((with_reducible refine gate_callee (f :=144) rfl ?_);refine goesL_ (some 34) rfl rfl Tryz.func144 (by kernel_rfl) rfl #[.int .u16 (IntKind.u16.wrap (wrap64 ((wrap64 ((wrap64 (a0)) - (wrap64 (a1)))) - (wrap64 (Go.bits .and .u8 a2 1)))))] rfl (by (try simp only [List.map_toArray,List.map_cons,List.map_nil]);rfl) ?_;(with_reducible refine (yds.calls (IntKind.u16.wrap (wrap64 ((wrap64 ((wrap64 (a0)) - (wrap64 (a1)))) - (wrap64 (Go.bits .and .u8 a2 1))))) t103 _ A4.out).mono ?_);rintro e w' ⟨rfl,⟨nd,rfl⟩⟩;refine ⟨_,rfl,?_⟩) | ((with_reducible refine gate_callee (f :=145) rfl ?_);refine goesL_ (some 38) rfl rfl Tryz.func145 (by kernel_rfl) rfl #[.bool (decide ((wrap64 ((wrap64 ((wrap64 (a0)) - (wrap64 (a1)))) - (wrap64 (Go.bits .and .u8 a2 1)))) < 0)),.int .u8 1] rfl (by (try simp only [List.map_toArray,List.map_cons,List.map_nil]);rfl) ?_;(with_reducible refine (ycs.calls (decide ((wrap64 ((wrap64 ((wrap64 (a0)) - (wrap64 (a1)))) - (wrap64 (Go.bits .and .u8 a2 1)))) < 0)) 1 t104 _ A5.out).mono ?_);rintro e w' ⟨rfl,⟨nd,rfl⟩⟩;refine ⟨_,rfl,?_⟩) | ((with_reducible refine gate_callee (f :=145) rfl ?_);refine goesL_ (some 50) rfl rfl Tryz.func145 (by kernel_rfl) rfl #[.bool (decide ((wrap64 ((wrap64 ((wrap64 (Go.bits .and .u16 a0 4095)) - (wrap64 (Go.bits .and .u16 a1 4095)))) - (wrap64 (Go.bits .and .u8 a2 1)))) < 0)),.int .u8 16] rfl (by (try simp only [List.map_toArray,List.map_cons,List.map_nil]);rfl) ?_;(with_reducible refine (ycs.calls (decide ((wrap64 ((wrap64 ((wrap64 (Go.bits .and .u16 a0 4095)) - (wrap64 (Go.bits .and .u16 a1 4095)))) - (wrap64 (Go.bits .and .u8 a2 1)))) < 0)) 16 t105 _ A6.out).mono ?_);rintro e w' ⟨rfl,⟨nd,rfl⟩⟩;refine ⟨_,rfl,?_⟩) | ((with_reducible refine gate_callee (f :=145) rfl ?_);refine goesL_ (some 58) rfl rfl Tryz.func145 (by kernel_rfl) rfl #[.bool true,.int .u8 4] rfl (by (try simp only [List.map_toArray,List.map_cons,List.map_nil]);rfl) ?_;(with_reducible refine (ycs.calls true 4 t106 _ A8.out).mono ?_);rintro e w' ⟨rfl,⟨nd,rfl⟩⟩;refine ⟨_,rfl,?_⟩))
  go_ret2
  exact ⟨by rfl,by repeat (first | exact Drawn0.refl _ | apply Drawn0.step)⟩
 ·rw [if_neg c7] at H
  have c7b0 : decide ((wrap64 ((wrap64 ((wrap64 (IntKind.i16.wrap (a0))) - (wrap64 (IntKind.i16.wrap (a1))))) - (wrap64 (Go.bits .and .u8 a2 1)))) < (-32768)) = false :=decide_eq_false c7
  clear c7
  replace H :=Option.bind_eq_some_iff.mp H
  obtain ⟨t107,A90,H⟩ :=H
  replace H : (some (IntKind.u16.wrap (wrap64 ((wrap64 ((wrap64 (a0)) - (wrap64 (a1)))) - (wrap64 (Go.bits .and .u8 a2 1)))),Go.bits .or .u8 (Go.bits .or .u8 (Go.bits .or .u8 (Go.bits .or .u8 t103 2) t104) t105) t107)) = some (r1,r2) :=H
  have A9 :=Aside0.mk A90
  clear A90
  simp only [Option.some.injEq,Prod.mk.injEq] at H
  obtain ⟨rfl,rfl⟩ :=H
  go_enter Tryz.func104,Tryz.ntmps104
  go_wp2_with (first | ((with_reducible refine gate_callee (f :=144) rfl ?_);refine goesL_ (some 34) rfl rfl Tryz.func144 (by kernel_rfl) rfl #[.int .u16 (IntKind.u16.wrap (wrap64 ((wrap64 ((wrap64 (a0)) - (wrap64 (a1)))) - (wrap64 (Go.bits .and .u8 a2 1)))))] rfl (by (try simp only [List.map_toArray,List.map_cons,List.map_nil]);rfl) ?_;(with_reducible refine (yds.calls (IntKind.u16.wrap (wrap64 ((wrap64 ((wrap64 (a0)) - (wrap64 (a1)))) - (wrap64 (Go.bits .and .u8 a2 1))))) t103 _ A4.out).mono ?_);rintro e w' ⟨rfl,⟨nd,rfl⟩⟩;refine ⟨_,rfl,?_⟩) | ((with_reducible refine gate_callee (f :=145) rfl ?_);refine goesL_ (some 38) rfl rfl Tryz.func145 (by kernel_rfl) rfl #[.bool (decide ((wrap64 ((wrap64 ((wrap64 (a0)) - (wrap64 (a1)))) - (wrap64 (Go.bits .and .u8 a2 1)))) < 0)),.int .u8 1] rfl (by (try simp only [List.map_toArray,List.map_cons,List.map_nil]);rfl) ?_;(with_reducible refine (ycs.calls (decide ((wrap64 ((wrap64 ((wrap64 (a0)) - (wrap64 (a1)))) - (wrap64 (Go.bits .and .u8 a2 1)))) < 0)) 1 t104 _ A5.out).mono ?_);rintro e w' ⟨rfl,⟨nd,rfl⟩⟩;refine ⟨_,rfl,?_⟩) | ((with_reducible refine gate_callee (f :=145) rfl ?_);refine goesL_ (some 50) rfl rfl Tryz.func145 (by kernel_rfl) rfl #[.bool (decide ((wrap64 ((wrap64 ((wrap64 (Go.bits .and .u16 a0 4095)) - (wrap64 (Go.bits .and .u16 a1 4095)))) - (wrap64 (Go.bits .and .u8 a2 1)))) < 0)),.int .u8 16] rfl (by (try simp only [List.map_toArray,List.map_cons,List.map_nil]);rfl) ?_;(with_reducible refine (ycs.calls (decide ((wrap64 ((wrap64 ((wrap64 (Go.bits .and .u16 a0 4095)) - (wrap64 (Go.bits .and .u16 a1 4095)))) - (wrap64 (Go.bits .and .u8 a2 1)))) < 0)) 16 t105 _ A6.out).mono ?_);rintro e w' ⟨rfl,⟨nd,rfl⟩⟩;refine ⟨_,rfl,?_⟩) | ((with_reducible refine gate_callee (f :=145) rfl ?_);refine goesL_ (some 58) rfl rfl Tryz.func145 (by kernel_rfl) rfl #[.bool (decide ((wrap64 ((wrap64 ((wrap64 (IntKind.i16.wrap (a0))) - (wrap64 (IntKind.i16.wrap (a1))))) - (wrap64 (Go.bits .and .u8 a2 1)))) ≥ 32768)),.int .u8 4] rfl (by (try simp only [List.map_toArray,List.map_cons,List.map_nil]);rfl) ?_;(with_reducible refine (ycs.calls (decide ((wrap64 ((wrap64 ((wrap64 (IntKind.i16.wrap (a0))) - (wrap64 (IntKind.i16.wrap (a1))))) - (wrap64 (Go.bits .and .u8 a2 1)))) ≥ 32768)) 4 t107 _ A9.out).mono ?_);rintro e w' ⟨rfl,⟨nd,rfl⟩⟩;refine ⟨_,rfl,?_⟩))
  go_ret2
  exact ⟨by rfl,by repeat (first | exact Drawn0.refl _ | apply Drawn0.step)⟩

/-! ### wide_Adc: function 106 -/
def wide_Adc.f (a0 : Int) (a1 : Int) (a2 : Int) : Option (Int × Int) :=(yds.f (IntKind.u16.wrap (wrap64 ((wrap64 ((wrap64 (a0)) + (wrap64 (a1)))) + (wrap64 (Go.bits .and .u8 a2 1)))))).bind fun t108 => ((ycs.f (decide ((wrap64 ((wrap64 ((wrap64 (a0)) + (wrap64 (a1)))) + (wrap64 (Go.bits .and .u8 a2 1)))) > 65535)) 1).bind fun t109 => ((ycs.f (decide ((wrap64 ((wrap64 ((wrap64 (Go.bits .and .u16 a0 4095)) + (wrap64 (Go.bits .and .u16 a1 4095)))) + (wrap64 (Go.bits .and .u8 a2 1)))) > 4095)) 16).bind fun t110 => (if (wrap64 ((wrap64 ((wrap64 (IntKind.i16.wrap (a0))) + (wrap64 (IntKind.i16.wrap (a1))))) + (wrap64 (Go.bits .and .u8 a2 1)))) < (-32768) then ((ycs.f true 4).bind fun t111 => (some (IntKind.u16.wrap (wrap64 ((wrap64 ((wrap64 (a0)) + (wrap64 (a1)))) + (wrap64 (Go.bits .and .u8 a2 1)))),Go.bits .or .u8 (Go.bits .or .u8 (Go.bits .or .u8 t108 t109) t110) t111))) else ((ycs.f (decide ((wrap64 ((wrap64 ((wrap64 (IntKind.i16.wrap (a0))) + (wrap64 (IntKind.i16.wrap (a1))))) + (wrap64 (Go.bits .and .u8 a2 1)))) ≥ 32768)) 4).bind fun t112 => (some (IntKind.u16.wrap (wrap64 ((wrap64 ((wrap64 (a0)) + (wrap64 (a1)))) + (wrap64 (Go.bits .and .u8 a2 1)))),Go.bits .or .u8 (Go.bits .or .u8 (Go.bits .or .u8 t108 t109) t110) t112))))))
theorem wide_Adc.calls (a0 : Int) (a1 : Int) (a2 : Int) (r1 : Int) (r2 : Int) (w : World) (h : wide_Adc.f a0 a1 a2 = some (r1,r2)) :
  Calls Tryz.prog 106 #[.int .u16 a0,.int .u16 a1,.int .u8 a2] w fun e w' => e = .returned (.tuple #[.int .u16 r1,.int .u8 r2]) ∧ Drawn0 w w' :=by
 have H : ((yds.f (IntKind.u16.wrap (wrap64 ((wrap64 ((wrap64 (a0)) + (wrap64 (a1)))) + (wrap64 (Go.bits .and .u8 a2 1)))))).bind fun t108 => ((ycs.f (decide ((wrap64 ((wrap64 ((wrap64 (a0)) + (wrap64 (a1)))) + (wrap64 (Go.bits .and .u8 a2 1)))) > 65535)) 1).bind fun t109 => ((ycs.f (decide ((wrap64 ((wrap64 ((wrap64 (Go.bits .and .u16 a0 4095)) + (wrap64 (Go.bits .and .u16 a1 4095)))) + (wrap64 (Go.bits .and .u8 a2 1)))) > 4095)) 16).bind fun t110 => (if (wrap64 ((wrap64 ((wrap64 (IntKind.i16.wrap (a0))) + (wrap64 (IntKind.i16.wrap (a1))))) + (wrap64 (Go.bits .and .u8 a2 1)))) < (-32768) then ((ycs.f true 4).bind fun t111 => (some (IntKind.u16.wrap (wrap64 ((wrap64 ((wrap64 (a0)) + (wrap64 (a1)))) + (wrap64 (Go.bits .and .u8 a2 1)))),Go.bits .or .u8 (Go.bits .or .u8 (Go.bits .or .u8 t108 t109) t110) t111))) else ((ycs.f (decide ((wrap64 ((wrap64 ((wrap64 (IntKind.i16.wrap (a0))) + (wrap64 (IntKind.i16.wrap (a1))))) + (wrap64 (Go.bits .and .u8 a2 1)))) ≥ 32768)) 4).bind fun t112 => (some (IntKind.u16.wrap (wrap64 ((wrap64 ((wrap64 (a0)) + (wrap64 (a1)))) + (wrap64 (Go.bits .and .u8 a2 1)))),Go.bits .or .u8 (Go.bits .or .u8 (Go.bits .or .u8 t108 t109) t110) t112))))))) = some (r1,r2) :=h
 clear h
 replace H :=Option.bind_eq_some_iff.mp H
 obtain ⟨t108,A40,H⟩ :=H
 replace H : ((ycs.f (decide ((wrap64 ((wrap64 ((wrap64 (a0)) + (wrap64 (a1)))) + (wrap64 (Go.bits .and .u8 a2 1)))) > 65535)) 1).bind fun t109 => ((ycs.f (decide ((wrap64 ((wrap64 ((wrap64 (Go.bits .and .u16 a0 4095)) + (wrap64 (Go.bits .and .u16 a1 4095)))) + (wrap64 (Go.bits .and .u8 a2 1)))) > 4095)) 16).bind fun t110 => (if (wrap64 ((wrap64 ((wrap64 (IntKind.i16.wrap (a0))) + (wrap64 (IntKind.i16.wrap (a1))))) + (wrap64 (Go.bits .and .u8 a2 1)))) < (-32768) then ((ycs.f true 4).bind fun t111 => (some (IntKind.u16.wrap (wrap64 ((wrap64 ((wrap64 (a0)) + (wrap64 (a1)))) + (wrap64 (Go.bits .and .u8 a2 1)))),Go.bits .or .u8 (Go.bits .or .u8 (Go.bits .or .u8 t108 t109) t110) t111))) else ((ycs.f (decide ((wrap64 ((wrap64 ((wrap64 (IntKind.i16.wrap (a0))) + (wrap64 (IntKind.i16.wrap (a1))))) + (wrap64 (Go.bits .and .u8 a2 1)))) ≥ 32768)) 4).bind fun t112 => (some (IntKind.u16.wrap (wrap64 ((wrap64 ((wrap64 (a0)) + (wrap64 (a1)))) + (wrap64 (Go.bits .and .u8 a2 1)))),Go.bits .or .u8 (Go.bits .or .u8 (Go.bits .or .u8 t108 t109) t110) t112)))))) = some (r1,r2) :=H
 have A4 :=Aside0.mk A40
 clear A40
 replace H :=Option.bind_eq_some_iff.mp H
 obtain ⟨t109,A50,H⟩ :=H
 replace H : ((ycs.f (decide ((wrap64 ((wrap64 ((wrap64 (Go.bits .and .u16 a0 4095)) + (wrap64 (Go.bits .and .u16 a1 4095)))) + (wrap64 (Go.bits .and .u8 a2 1)))) > 4095)) 16).bind fun t110 => (if (wrap64 ((wrap64 ((wrap64 (IntKind.i16.wrap (a0))) + (wrap64 (IntKind.i16.wrap (a1))))) + (wrap64 (Go.bits .and .u8 a2 1)))) < (-32768) then ((ycs.f true 4).bind fun t111 => (some (IntKind.u16.wrap (wrap64 ((wrap64 ((wrap64 (a0)) + (wrap64 (a1)))) + (wrap64 (Go.bits .and .u8 a2 1)))),Go.bits .or .u8 (Go.bits .or .u8 (Go.bits .or .u8 t108 t109) t110) t111))) else ((ycs.f (decide ((wrap64 ((wrap64 ((wrap64 (IntKind.i16.wrap (a0))) + (wrap64 (IntKind.i16.wrap (a1))))) + (wrap64 (Go.bits .and .u8 a2 1)))) ≥ 32768)) 4).bind fun t112 => (some (IntKind.u16.wrap (wrap64 ((wrap64 ((wrap64 (a0)) + (wrap64 (a1)))) + (wrap64 (Go.bits .and .u8 a2 1)))),Go.bits .or .u8 (Go.bits .or .u8 (Go.bits .or .u8 t108 t109) t110) t112))))) = some (r1,r2) :=H
 have A5 :=Aside0.mk A50
 clear A50
 replace H :=Option.bind_eq_some_iff.mp H
 obtain ⟨t110,A60,H⟩ :=H
 replace H : (if (wrap64 ((wrap64 ((wrap64 (IntKind.i16.wrap (a0))) + (wrap64 (IntKind.i16.wrap (a1))))) + (wrap64 (Go.bits .and .u8 a2 1)))) < (-32768) then ((ycs.f true 4).bind fun t111 => (some (IntKind.u16.wrap (wrap64 ((wrap64 ((wrap64 (a0)) + (wrap64 (a1)))) + (wrap64 (Go.bits .and .u8 a2 1)))),Go.bits .or .u8 (Go.bits .or .u8 (Go.bits .or .u8 t108 t109) t110) t111))) else ((ycs.f (decide ((wrap64 ((wrap64 ((wrap64 (IntKind.i16.wrap (a0))) + (wrap64 (IntKind.i16.wrap (a1))))) + (wrap64 (Go.bits .and .u8 a2 1)))) ≥ 32768)) 4).bind fun t112 => (some (IntKind.u16.wrap (wrap64 ((wrap64 ((wrap64 (a0)) + (wrap64 (a1)))) + (wrap64 (Go.bits .and .u8 a2 1)))),Go.bits .or .u8 (Go.bits .or .u8 (Go.bits .or .u8 t108 t109) t110) t112)))) = some (r1,r2) :=H
 have A6 :=Aside0.mk A60
 clear A60
 by_cases c7 : (wrap64 ((wrap64 ((wrap64 (IntKind.i16.wrap (a0))) + (wrap64 (IntKind.i16.wrap (a1))))) + (wrap64 (Go.bits .and .u8 a2 1)))) < (-32768)
 ·rw [if_pos c7] at H
  have c7b0 : decide ((wrap64 ((wrap64 ((wrap64 (IntKind.i16.wrap (a0))) + (wrap64 (IntKind.i16.wrap (a1))))) + (wrap64 (Go.bits .and .u8 a2 1)))) < (-32768)) = true :=decide_eq_true c7
  clear c7
  replace H :=Option.bind_eq_some_iff.mp H
  obtain ⟨t111,A80,H⟩ :=H
  replace H : (some (IntKind.u16.wrap (wrap64 ((wrap64 ((wrap64 (a0)) + (wrap64 (a1)))) + (wrap64 (Go.bits .and .u8 a2 1)))),Go.bits .or .u8 (Go.bits .or .u8 (Go.bits .or .u8 t108 t109) t110) t111)) = some (r1,r2) :=H
  have A8 :=Aside0.mk A80
  clear A80
  simp only [Option.some.injEq,Prod.mk.injEq] at H
  obtain ⟨rfl,rfl⟩ :=H
  go_enter Tryz.func106,Tryz.ntmps106
  go_wp2_with (first | ((with_reducible refine gate_callee (f :=144) rfl ?_);refine goesL_ (some 34) rfl rfl Tryz.func144 (by kernel_rfl) rfl #[.int .u16 (IntKind.u16.wrap (wrap64 ((wrap64 ((wrap64 (a0)) + (wrap64 (a1)))) + (wrap64 (Go.bits .and .u8 a2 1)))))] rfl (by (try simp only [List.map_toArray,List.map_cons,List.map_nil]);rfl) ?_;(with_reducible refine (yds.calls (IntKind.u16.wrap (wrap64 ((wrap64 ((wrap64 (a0)) + (wrap64 (a1)))) + (wrap64 (Go.bits .and .u8 a2 1))))) t108 _ A4.out).mono ?_);rintro e w' ⟨rfl,⟨nd,rfl⟩⟩;refine ⟨_,rfl,?_⟩) | ((with_reducible refine gate_callee (f :=145) rfl ?_);refine goesL_ (some 37) rfl rfl Tryz.func145 (by kernel_rfl) rfl #[.bool (decide ((wrap64 ((wrap64 ((wrap64 (a0)) + (wrap64 (a1)))) + (wrap64 (Go.bits .and .u8 a2 1)))) > 65535)),.int .u8 1] rfl (by (try simp only [List.map_toArray,List.map_cons,List.map_nil]);rfl) ?_;(with_reducible refine (ycs.calls (decide ((wrap64 ((wrap64 ((wrap64 (a0)) + (wrap64 (a1)))) + (wrap64 (Go.bits .and .u8 a2 1)))) > 65535)) 1 t109 _ A5.out).mono ?_);rintro e w' ⟨rfl,⟨nd,rfl⟩⟩;refine ⟨_,rfl,?_⟩) | ((with_reducible refine gate_callee (f :=145) rfl ?_);refine goesL_ (some 49) rfl rfl Tryz.func145 (by kernel_rfl) rfl #[.bool (decide ((wrap64 ((wrap64 ((wrap64 (Go.bits .and .u16 a0 4095)) + (wrap64 (Go.bits .and .u16 a1 4095)))) + (wrap64 (Go.bits .and .u8 a2 1)))) > 4095)),.int .u8 16] rfl (by (try simp only [List.map_toArray,List.map_cons,List.map_nil]);rfl) ?_;(with_reducible refine (ycs.calls (decide ((wrap64 ((wrap64 ((wrap64 (Go.bits .and .u16 a0 4095)) + (wrap64 (Go.bits .and .u16 a1 4095)))) + (wrap64 (Go.bits .and .u8 a2 1)))) > 4095)) 16 t110 _ A6.out).mono ?_);rintro e w' ⟨rfl,⟨nd,rfl⟩⟩;refine ⟨_,rfl,?_⟩) | ((with_reducible refine gate_callee (f :=145) rfl ?_);refine goesL_ (some 57) rfl rfl Tryz.func145 (by kernel_rfl) rfl #[.bool true,.int .u8 4] rfl (by (try simp only [List.map_toArray,List.map_cons,List.map_nil]);rfl) ?_;(with_reducible refine (ycs.calls true 4 t111 _ A8.out).mono ?_);rintro e w' ⟨rfl,⟨nd,rfl⟩⟩;refine ⟨_,rfl,?_⟩))
  go_ret2
  exact ⟨by rfl,by repeat (first | exact Drawn0.refl _ | apply Drawn0.step)⟩
 ·rw [if_neg c7] at H
  have c7b0 : decide ((wrap64 ((wrap64 ((wrap64 (IntKind.i16.wrap (a0))) + (wrap64 (IntKind.i16.wrap (a1))))) + (wrap64 (Go.bits .and .u8 a2 1)))) < (-32768)) = false :=decide_eq_false c7
  clear c7
  replace H :=Option.bind_eq_some_iff.mp H
  obtain ⟨t112,A90,H⟩ :=H
  replace H : (some (IntKind.u16.wrap (wrap64 ((wrap64 ((wrap64 (a0)) + (wrap64 (a1)))) + (wrap64 (Go.bits .and .u8 a2 1)))),Go.bits .or .u8 (Go.bits .or .u8 (Go.bits .or .u8 t108 t109) t110) t112)) = some (r1,r2) :=H
  have A9 :=Aside0.mk A90
  clear A90
  simp only [Option.some.injEq,Prod.mk.injEq] at H
  obtain ⟨rfl,rfl⟩ :=H
  go_enter Tryz.func106,Tryz.ntmps106
  go_wp2_with (first | ((with_reducible refine gate_callee (f :=144) rfl ?_);refine goesL_ (some 34) rfl rfl Tryz.func144 (by kernel_rfl) rfl #[.int .u16 (IntKind.u16.wrap (wrap64 ((wrap64 ((wrap64 (a0)) + (wrap64 (a1)))) + (wrap64 (Go.bits .and .u8 a2 1)))))] rfl (by (try simp only [List.map_toArray,List.map_cons,List.map_nil]);rfl) ?_;(with_reducible refine (yds.calls (IntKind.u16.wrap (wrap64 ((wrap64 ((wrap64 (a0)) + (wrap64 (a1)))) + (wrap64 (Go.bits .and .u8 a2 1))))) t108 _ A4.out).mono ?_);rintro e w' ⟨rfl,⟨nd,rfl⟩⟩;refine ⟨_,rfl,?_⟩) | ((with_reducible refine gate_callee (f :=145) rfl ?_);refine goesL_ (some 37) rfl rfl Tryz.func145 (by kernel_rfl) rfl #[.bool (decide ((wrap64 ((wrap64 ((wrap64 (a0)) + (wrap64 (a1)))) + (wrap64 (Go.bits .and .u8 a2 1)))) > 65535)),.int .u8 1] rfl (by (try simp only [List.map_toArray,List.map_cons,List.map_nil]);rfl) ?_;(with_reducible refine (ycs.calls (decide ((wrap64 ((wrap64 ((wrap64 (a0)) + (wrap64 (a1)))) + (wrap64 (Go.bits .and .u8 a2 1)))) > 65535)) 1 t109 _ A5.out).mono ?_);rintro e w' ⟨rfl,⟨nd,rfl⟩⟩;refine ⟨_,rfl,?_⟩) | ((with_reducible refine gate_callee (f :=145) rfl ?_);refine goesL_ (some 49) rfl rfl Tryz.func145 (by kernel_rfl) rfl #[.bool (decide ((wrap64 ((wrap64 ((wrap64 (Go.bits .and .u16 a0 4095)) + (wrap64 (Go.bits .and .u16 a1 4095)))) + (wrap64 (Go.bits .and .u8 a2 1)))) > 4095)),.int .u8 16] rfl (by (try simp only [List.map_toArray,List.map_cons,List.map_nil]);rfl) ?_;(with_reducible refine (ycs.calls (decide ((wrap64 ((wrap64 ((wrap64 (Go.bits .and .u16 a0 4095)) + (wrap64 (Go.bits .and .u16 a1 4095)))) + (wrap64 (Go.bits .and .u8 a2 1)))) > 4095)) 16 t110 _ A6.out).mono ?_);rintro e w' ⟨rfl,⟨nd,rfl⟩⟩;refine ⟨_,rfl,?_⟩) | ((with_reducible refine gate_callee (f :=145) rfl ?_);refine goesL_ (some 57) rfl rfl Tryz.func145 (by kernel_rfl) rfl #[.bool (decide ((wrap64 ((wrap64 ((wrap64 (IntKind.i16.wrap (a0))) + (wrap64 (IntKind.i16.wrap (a1))))) + (wrap64 (Go.bits .and .u8 a2 1)))) ≥ 32768)),.int .u8 4] rfl (by (try simp only [List.map_toArray,List.map_cons,List.map_nil]);rfl) ?_;(with_reducible refine (ycs.calls (decide ((wrap64 ((wrap64 ((wrap64 (IntKind.i16.wrap (a0))) + (wrap64 (IntKind.i16.wrap (a1))))) + (wrap64 (Go.bits .and .u8 a2 1)))) ≥ 32768)) 4 t112 _ A9.out).mono ?_);rintro e w' ⟨rfl,⟨nd,rfl⟩⟩;refine ⟨_,rfl,?_⟩))
  go_ret2
  exact ⟨by rfl,by repeat (first | exact Drawn0.refl _ | apply Drawn0.step)⟩

/-! ### wide_Add: function 126 -/
def wide_Add.f (a0 : Int) (a1 : Int) (a2 : Int) : Option (Int × Int) :=(ycs.f (decide ((IntKind.u16.wrap (a0 + a1)) < a0)) 1).bind fun t113 => ((ycs.f (decide ((IntKind.u16.wrap ((Go.bits .and .u16 a0 4095) + (Go.bits .and .u16 a1 4095))) > 4095)) 16).bind fun t114 => (some (IntKind.u16.wrap (a0 + a1),Go.bits .or .u8 (Go.bits .or .u8 (Go.bits .or .u8 (Go.bits .and .u8 a2 196) (Go.bits .and .u8 (((IntKind.u16.wrap (a0 + a1)) / 256) % 256) 40)) t113) t114)))
theorem wide_Add.calls (a0 : Int) (a1 : Int) (a2 : Int) (r1 : Int) (r2 : Int) (w : World) (h : wide_Add.f a0 a1 a2 = some (r1,r2)) :
  Calls Tryz.prog 126 #[.int .u16 a0,.int .u16 a1,.int .u8 a2] w fun e w' => e = .returned (.tuple #[.int .u16 r1,.int .u8 r2]) ∧ Drawn0 w w' :=by
 have H : ((ycs.f (decide ((IntKind.u16.wrap (a0 + a1)) < a0)) 1).bind fun t113 => ((ycs.f (decide ((IntKind.u16.wrap ((Go.bits .and .u16 a0 4095) + (Go.bits .and .u16 a1 4095))) > 4095)) 16).bind fun t114 => (some (IntKind.u16.wrap (a0 + a1),Go.bits .or .u8 (Go.bits .or .u8 (Go.bits .or .u8 (Go.bits .and .u8 a2 196) (Go.bits .and .u8 (((IntKind.u16.wrap (a0 + a1)) / 256) % 256) 40)) t113) t114)))) = some (r1,r2) :=h
 clear h
 replace H :=Option.bind_eq_some_iff.mp H
 obtain ⟨t113,A40,H⟩ :=H
 replace H : ((ycs.f (decide ((IntKind.u16.wrap ((Go.bits .and .u16 a0 4095) + (Go.bits .and .u16 a1 4095))) > 4095)) 16).bind fun t114 => (some (IntKind.u16.wrap (a0 + a1),Go.bits .or .u8 (Go.bits .or .u8 (Go.bits .or .u8 (Go.bits .and .u8 a2 196) (Go.bits .and .u8 (((IntKind.u16.wrap (a0 + a1)) / 256) % 256) 40)) t113) t114))) = some (r1,r2) :=H
 have A4 :=Aside0.mk A40
 clear A40
 replace H :=Option.bind_eq_some_iff.mp H
 obtain ⟨t114,A50,H⟩ :=H
 replace H : (some (IntKind.u16.wrap (a0 + a1),Go.bits .or .u8 (Go.bits .or .u8 (Go.bits .or .u8 (Go.bits .and .u8 a2 196) (Go.bits .and .u8 (((IntKind.u16.wrap (a0 + a1)) / 256) % 256) 40)) t113) t114)) = some (r1,r2) :=H
 have A5 :=Aside0.mk A50
 clear A50
 simp only [Option.some.injEq,Prod.mk.injEq] at H
 obtain ⟨rfl,rfl⟩ :=H
 go_enter Tryz.func126,Tryz.ntmps126
 go_wp2_with (first | ((with_reducible refine gate_callee (f :=145) rfl ?_);refine goesL_ (some 22) rfl rfl Tryz.func145 (by kernel_rfl) rfl #[.bool (decide ((IntKind.u16.wrap (a0 + a1)) < a0)),.int .u8 1] rfl (by (try simp only [List.map_toArray,List.map_cons,List.map_nil]);rfl) ?_;(with_reducible refine (ycs.calls (decide ((IntKind.u16.wrap (a0 + a1)) < a0)) 1 t113 _ A4.out).mono ?_);rintro e w' ⟨rfl,⟨nd,rfl⟩⟩;refine ⟨_,rfl,?_⟩) | ((with_reducible refine gate_callee (f :=145) rfl ?_);refine goesL_ (some 30) rfl rfl Tryz.func145 (by kernel_rfl) rfl #[.bool (decide ((IntKind.u16.wrap ((Go.bits .and .u16 a0 4095) + (Go.bits .and .u16 a1 4095))) > 4095)),.int .u8 16] rfl (by (try simp only [List.map_toArray,List.map_cons,List.map_nil]);rfl) ?_;(with_reducible refine (ycs.calls (decide ((IntKind.u16.wrap ((Go.bits .and .u16 a0 4095) + (Go.bits .and .u16 a1 4095))) > 4095)) 16 t114 _ A5.out).mono ?_);rintro e w' ⟨rfl,⟨nd,rfl⟩⟩;refine ⟨_,rfl,?_⟩))
 go_ret2
 exact ⟨by rfl,by repeat (first | exact Drawn0.refl _ | apply Drawn0.step)⟩

/-! ### wide_odd: function 161 -/
def ydk.f (a0 : Int) : Option (Int) :=(ycs.f ((Go.bits .and .u8 a0 2) != 0) 32).bind fun t115 => (some (Go.bits .or .u8 t115 (Go.bits .and .u8 a0 8)))
theorem ydk.calls (a0 : Int) (r : Int) (w : World) (h : ydk.f a0 = some r) :
  Calls Tryz.prog 161 #[.int .u8 a0] w fun e w' => e = .returned (.int .u8 r) ∧ Drawn0 w w' :=by
 have H : ((ycs.f ((Go.bits .and .u8 a0 2) != 0) 32).bind fun t115 => (some (Go.bits .or .u8 t115 (Go.bits .and .u8 a0 8)))) = some r :=h
 clear h
 replace H :=Option.bind_eq_some_iff.mp H
 obtain ⟨t115,A20,H⟩ :=H
 replace H : (some (Go.bits .or .u8 t115 (Go.bits .and .u8 a0 8))) = some r :=H
 have A2 :=Aside0.mk A20
 clear A20
 obtain rfl :=Option.some.inj H
 go_enter Tryz.func161,Tryz.ntmps161
 go_wp2_with ((((with_reducible refine gate_callee (f :=145) rfl ?_);refine goesL_ (some 6) rfl rfl Tryz.func145 (by kernel_rfl) rfl #[.bool ((Go.bits .and .u8 a0 2) != 0),.int .u8 32] rfl (by (try simp only [List.map_toArray,List.map_cons,List.map_nil]);rfl) ?_;(with_reducible refine (ycs.calls ((Go.bits .and .u8 a0 2) != 0) 32 t115 _ A2.out).mono ?_);rintro e w' ⟨rfl,⟨nd,rfl⟩⟩;refine ⟨_,rfl,?_⟩)))
 go_ret
 exact ⟨by rfl,by repeat (first | exact Drawn0.refl _ | apply Drawn0.step)⟩

/-! ### wide_Move: function 140 -/
def wide_Move.f (a0 : Int) (a1 : Int) (a2 : Int) (a3 : Int) : Option (Int) :=(ycs.f (a2 != 0) 4).bind fun t116 => ((ydk.f ((a0 + a1) % 256)).bind fun t117 => (some (Go.bits .or .u8 (Go.bits .or .u8 (Go.bits .and .u8 a3 193) t116) t117)))
theorem wide_Move.calls (a0 : Int) (a1 : Int) (a2 : Int) (a3 : Int) (r : Int) (w : World) (h : wide_Move.f a0 a1 a2 a3 = some r) :
  Calls Tryz.prog 140 #[.int .u8 a0,.int .u8 a1,.int .u16 a2,.int .u8 a3] w fun e w' => e = .returned (.int .u8 r) ∧ Drawn0 w w' :=by
 have H : ((ycs.f (a2 != 0) 4).bind fun t116 => ((ydk.f ((a0 + a1) % 256)).bind fun t117 => (some (Go.bits .or .u8 (Go.bits .or .u8 (Go.bits .and .u8 a3 193) t116) t117)))) = some r :=h
 clear h
 replace H :=Option.bind_eq_some_iff.mp H
 obtain ⟨t116,A50,H⟩ :=H
 replace H : ((ydk.f ((a0 + a1) % 256)).bind fun t117 => (some (Go.bits .or .u8 (Go.bits .or .u8 (Go.bits .and .u8 a3 193) t116) t117))) = some r :=H
 have A5 :=Aside0.mk A50
 clear A50
 replace H :=Option.bind_eq_some_iff.mp H
 obtain ⟨t117,A60,H⟩ :=H
 replace H : (some (Go.bits .or .u8 (Go.bits .or .u8 (Go.bits .and .u8 a3 193) t116) t117)) = some r :=H
 have A6 :=Aside0.mk A60
 clear A60
 obtain rfl :=Option.some.inj H
 go_enter Tryz.func140,Tryz.ntmps140
 go_wp2_with (first | ((with_reducible refine gate_callee (f :=145) rfl ?_);refine goesL_ (some 13) rfl rfl Tryz.func145 (by kernel_rfl) rfl #[.bool (a2 != 0),.int .u8 4] rfl (by (try simp only [List.map_toArray,List.map_cons,List.map_nil]);rfl) ?_;(with_reducible refine (ycs.calls (a2 != 0) 4 t116 _ A5.out).mono ?_);rintro e w' ⟨rfl,⟨nd,rfl⟩⟩;refine ⟨_,rfl,?_⟩) | ((with_reducible refine gate_callee (f :=161) rfl ?_);refine goesL_ (some 18) rfl rfl Tryz.func161 (by kernel_rfl) rfl #[.int .u8 ((a0 + a1) % 256)] rfl (by (try simp only [List.map_toArray,List.map_cons,List.map_nil]);rfl) ?_;(with_reducible refine (ydk.calls ((a0 + a1) % 256) t117 _ A6.out).mono ?_);rintro e w' ⟨rfl,⟨nd,rfl⟩⟩;refine ⟨_,rfl,?_⟩))
 go_ret
 exact ⟨by rfl,by repeat (first | exact Drawn0.refl _ | apply Drawn0.step)⟩

/-! ### alu_Own: function 100 -/
def ydi.f (a0 : Int) : Option (Int) :=if a0 = 0 then (some (Go.bits .or .u8 (Go.bits .and .u8 a0 168) 64)) else (some (Go.bits .and .u8 a0 168))
theorem ydi.calls (a0 : Int) (r : Int) (w : World) (h : ydi.f a0 = some r) :
  Calls Tryz.prog 100 #[.int .u8 a0] w fun e w' => e = .returned (.int .u8 r) ∧ Drawn0 w w' :=by
 have H : (if a0 = 0 then (some (Go.bits .or .u8 (Go.bits .and .u8 a0 168) 64)) else (some (Go.bits .and .u8 a0 168))) = some r :=h
 clear h
 by_cases c2 : a0 = 0
 ·obtain ⟨H,c2b0,c2b1⟩ :=ipos c2 H;clear c2
  obtain rfl :=Option.some.inj H
  go_enter Tryz.func100,Tryz.ntmps100
  go_wp2
  go_ret
  exact ⟨by rfl,by repeat (exact Drawn0.refl _)⟩
 ·obtain ⟨H,c2b0,c2b1⟩ :=ineg c2 H
  obtain rfl :=Option.some.inj H
  go_enter Tryz.func100,Tryz.ntmps100
  go_wp2
  go_ret
  exact ⟨by rfl,by repeat (exact Drawn0.refl _)⟩

/-! ### alu_if1: function 162 -/
def ycy.f (a0 : Bool) (a1 : Int) : Option (Int) :=if a0 = true then (some a1) else (some 0)
theorem ycy.calls (a0 : Bool) (a1 : Int) (r : Int) (w : World) (h : ycy.f a0 a1 = some r) :
  Calls Tryz.prog 162 #[.bool a0,.int .u8 a1] w fun e w' => e = .returned (.int .u8 r) ∧ Drawn0 w w' :=by
 have H : (if a0 = true then (some a1) else (some 0)) = some r :=h
 clear h
 by_cases c3 : a0 = true
 ·subst c3
  have H1 : (some a1) = some r :=by rw [if_pos rfl] at H;exact H
  clear H
  have H :=H1
  clear H1
  obtain rfl :=Option.some.inj H
  go_enter Tryz.func162,Tryz.ntmps162
  go_wp2
  go_ret
  exact ⟨by rfl,by repeat (exact Drawn0.refl _)⟩
 ·replace c3 :=Bool.eq_false_iff.mpr c3
  subst c3
  have H1 : (some 0) = some r :=by rw [if_neg (show ¬ (false = true) by decide)] at H;exact H
  clear H
  have H :=H1
  clear H1
  obtain rfl :=Option.some.inj H
  go_enter Tryz.func162,Tryz.ntmps162
  go_wp2
  go_ret
  exact ⟨by rfl,by repeat (exact Drawn0.refl _)⟩

/-! ### alu_Sub: function 147 -/
def ydo.f (a0 : Int) (a1 : Int) (a2 : Bool) : Option (Int × Int) :=(ycy.f a2 1).bind fun t118 => ((ydi.f ((wrap64 ((wrap64 ((wrap64 (a0)) - (wrap64 (a1)))) - (wrap64 (t118)))) % 256)).bind fun t119 => ((ycy.f (decide ((wrap64 ((wrap64 ((wrap64 (a0)) - (wrap64 (a1)))) - (wrap64 (t118)))) < 0)) 1).bind fun t120 => ((ycy.f (decide ((wrap64 ((wrap64 ((wrap64 (Go.bits .and .u8 a0 15)) - (wrap64 (Go.bits .and .u8 a1 15)))) - (wrap64 (t118)))) < 0)) 16).bind fun t121 => (if (wrap64 ((wrap64 ((wrap64 (IntKind.i8.wrap (a0))) - (wrap64 (IntKind.i8.wrap (a1))))) - (wrap64 (t118)))) < (-128) then ((ycy.f true 4).bind fun t122 => (some ((wrap64 ((wrap64 ((wrap64 (a0)) - (wrap64 (a1)))) - (wrap64 (t118)))) % 256,Go.bits .or .u8 (Go.bits .or .u8 (Go.bits .or .u8 (Go.bits .or .u8 t119 2) t120) t121) t122))) else ((ycy.f (decide ((wrap64 ((wrap64 ((wrap64 (IntKind.i8.wrap (a0))) - (wrap64 (IntKind.i8.wrap (a1))))) - (wrap64 (t118)))) > 127)) 4).bind fun t123 => (some ((wrap64 ((wrap64 ((wrap64 (a0)) - (wrap64 (a1)))) - (wrap64 (t118)))) % 256,Go.bits .or .u8 (Go.bits .or .u8 (Go.bits .or .u8 (Go.bits .or .u8 t119 2) t120) t121) t123)))))))
theorem ydo.calls (a0 : Int) (a1 : Int) (a2 : Bool) (r1 : Int) (r2 : Int) (w : World) (h : ydo.f a0 a1 a2 = some (r1,r2)) :
  Calls Tryz.prog 147 #[.int .u8 a0,.int .u8 a1,.bool a2] w fun e w' => e = .returned (.tuple #[.int .u8 r1,.int .u8 r2]) ∧ Drawn0 w w' :=by
 have H : ((ycy.f a2 1).bind fun t118 => ((ydi.f ((wrap64 ((wrap64 ((wrap64 (a0)) - (wrap64 (a1)))) - (wrap64 (t118)))) % 256)).bind fun t119 => ((ycy.f (decide ((wrap64 ((wrap64 ((wrap64 (a0)) - (wrap64 (a1)))) - (wrap64 (t118)))) < 0)) 1).bind fun t120 => ((ycy.f (decide ((wrap64 ((wrap64 ((wrap64 (Go.bits .and .u8 a0 15)) - (wrap64 (Go.bits .and .u8 a1 15)))) - (wrap64 (t118)))) < 0)) 16).bind fun t121 => (if (wrap64 ((wrap64 ((wrap64 (IntKind.i8.wrap (a0))) - (wrap64 (IntKind.i8.wrap (a1))))) - (wrap64 (t118)))) < (-128) then ((ycy.f true 4).bind fun t122 => (some ((wrap64 ((wrap64 ((wrap64 (a0)) - (wrap64 (a1)))) - (wrap64 (t118)))) % 256,Go.bits .or .u8 (Go.bits .or .u8 (Go.bits .or .u8 (Go.bits .or .u8 t119 2) t120) t121) t122))) else ((ycy.f (decide ((wrap64 ((wrap64 ((wrap64 (IntKind.i8.wrap (a0))) - (wrap64 (IntKind.i8.wrap (a1))))) - (wrap64 (t118)))) > 127)) 4).bind fun t123 => (some ((wrap64 ((wrap64 ((wrap64 (a0)) - (wrap64 (a1)))) - (wrap64 (t118)))) % 256,Go.bits .or .u8 (Go.bits .or .u8 (Go.bits .or .u8 (Go.bits .or .u8 t119 2) t120) t121) t123)))))))) = some (r1,r2) :=h
 clear h
 replace H :=Option.bind_eq_some_iff.mp H
 obtain ⟨t118,A40,H⟩ :=H
 replace H : ((ydi.f ((wrap64 ((wrap64 ((wrap64 (a0)) - (wrap64 (a1)))) - (wrap64 (t118)))) % 256)).bind fun t119 => ((ycy.f (decide ((wrap64 ((wrap64 ((wrap64 (a0)) - (wrap64 (a1)))) - (wrap64 (t118)))) < 0)) 1).bind fun t120 => ((ycy.f (decide ((wrap64 ((wrap64 ((wrap64 (Go.bits .and .u8 a0 15)) - (wrap64 (Go.bits .and .u8 a1 15)))) - (wrap64 (t118)))) < 0)) 16).bind fun t121 => (if (wrap64 ((wrap64 ((wrap64 (IntKind.i8.wrap (a0))) - (wrap64 (IntKind.i8.wrap (a1))))) - (wrap64 (t118)))) < (-128) then ((ycy.f true 4).bind fun t122 => (some ((wrap64 ((wrap64 ((wrap64 (a0)) - (wrap64 (a1)))) - (wrap64 (t118)))) % 256,Go.bits .or .u8 (Go.bits .or .u8 (Go.bits .or .u8 (Go.bits .or .u8 t119 2) t120) t121) t122))) else ((ycy.f (decide ((wrap64 ((wrap64 ((wrap64 (IntKind.i8.wrap (a0))) - (wrap64 (IntKind.i8.wrap (a1))))) - (wrap64 (t118)))) > 127)) 4).bind fun t123 => (some ((wrap64 ((wrap64 ((wrap64 (a0)) - (wrap64 (a1)))) - (wrap64 (t118)))) % 256,Go.bits .or .u8 (Go.bits .or .u8 (Go.bits .or .u8 (Go.bits .or .u8 t119 2) t120) t121) t123))))))) = some (r1,r2) :=H
 have A4 :=Aside0.mk A40
 clear A40
 replace H :=Option.bind_eq_some_iff.mp H
 obtain ⟨t119,A50,H⟩ :=H
 replace H : ((ycy.f (decide ((wrap64 ((wrap64 ((wrap64 (a0)) - (wrap64 (a1)))) - (wrap64 (t118)))) < 0)) 1).bind fun t120 => ((ycy.f (decide ((wrap64 ((wrap64 ((wrap64 (Go.bits .and .u8 a0 15)) - (wrap64 (Go.bits .and .u8 a1 15)))) - (wrap64 (t118)))) < 0)) 16).bind fun t121 => (if (wrap64 ((wrap64 ((wrap64 (IntKind.i8.wrap (a0))) - (wrap64 (IntKind.i8.wrap (a1))))) - (wrap64 (t118)))) < (-128) then ((ycy.f true 4).bind fun t122 => (some ((wrap64 ((wrap64 ((wrap64 (a0)) - (wrap64 (a1)))) - (wrap64 (t118)))) % 256,Go.bits .or .u8 (Go.bits .or .u8 (Go.bits .or .u8 (Go.bits .or .u8 t119 2) t120) t121) t122))) else ((ycy.f (decide ((wrap64 ((wrap64 ((wrap64 (IntKind.i8.wrap (a0))) - (wrap64 (IntKind.i8.wrap (a1))))) - (wrap64 (t118)))) > 127)) 4).bind fun t123 => (some ((wrap64 ((wrap64 ((wrap64 (a0)) - (wrap64 (a1)))) - (wrap64 (t118)))) % 256,Go.bits .or .u8 (Go.bits .or .u8 (Go.bits .or .u8 (Go.bits .or .u8 t119 2) t120) t121) t123)))))) = some (r1,r2) :=H
 have A5 :=Aside0.mk A50
 clear A50
 replace H :=Option.bind_eq_some_iff.mp H
 obtain ⟨t120,A60,H⟩ :=H
 replace H : ((ycy.f (decide ((wrap64 ((wrap64 ((wrap64 (Go.bits .and .u8 a0 15)) - (wrap64 (Go.bits .and .u8 a1 15)))) - (wrap64 (t118)))) < 0)) 16).bind fun t121 => (if (wrap64 ((wrap64 ((wrap64 (IntKind.i8.wrap (a0))) - (wrap64 (IntKind.i8.wrap (a1))))) - (wrap64 (t118)))) < (-128) then ((ycy.f true 4).bind fun t122 => (some ((wrap64 ((wrap64 ((wrap64 (a0)) - (wrap64 (a1)))) - (wrap64 (t118)))) % 256,Go.bits .or .u8 (Go.bits .or .u8 (Go.bits .or .u8 (Go.bits .or .u8 t119 2) t120) t121) t122))) else ((ycy.f (decide ((wrap64 ((wrap64 ((wrap64 (IntKind.i8.wrap (a0))) - (wrap64 (IntKind.i8.wrap (a1))))) - (wrap64 (t118)))) > 127)) 4).bind fun t123 => (some ((wrap64 ((wrap64 ((wrap64 (a0)) - (wrap64 (a1)))) - (wrap64 (t118)))) % 256,Go.bits .or .u8 (Go.bits .or .u8 (Go.bits .or .u8 (Go.bits .or .u8 t119 2) t120) t121) t123))))) = some (r1,r2) :=H
 have A6 :=Aside0.mk A60
 clear A60
 replace H :=Option.bind_eq_some_iff.mp H
 obtain ⟨t121,A70,H⟩ :=H
 replace H : (if (wrap64 ((wrap64 ((wrap64 (IntKind.i8.wrap (a0))) - (wrap64 (IntKind.i8.wrap (a1))))) - (wrap64 (t118)))) < (-128) then ((ycy.f true 4).bind fun t122 => (some ((wrap64 ((wrap64 ((wrap64 (a0)) - (wrap64 (a1)))) - (wrap64 (t118)))) % 256,Go.bits .or .u8 (Go.bits .or .u8 (Go.bits .or .u8 (Go.bits .or .u8 t119 2) t120) t121) t122))) else ((ycy.f (decide ((wrap64 ((wrap64 ((wrap64 (IntKind.i8.wrap (a0))) - (wrap64 (IntKind.i8.wrap (a1))))) - (wrap64 (t118)))) > 127)) 4).bind fun t123 => (some ((wrap64 ((wrap64 ((wrap64 (a0)) - (wrap64 (a1)))) - (wrap64 (t118)))) % 256,Go.bits .or .u8 (Go.bits .or .u8 (Go.bits .or .u8 (Go.bits .or .u8 t119 2) t120) t121) t123)))) = some (r1,r2) :=H
 have A7 :=Aside0.mk A70
 clear A70
 by_cases c8 : (wrap64 ((wrap64 ((wrap64 (IntKind.i8.wrap (a0))) - (wrap64 (IntKind.i8.wrap (a1))))) - (wrap64 (t118)))) < (-128)
 ·rw [if_pos c8] at H
  have c8b0 : decide ((wrap64 ((wrap64 ((wrap64 (IntKind.i8.wrap (a0))) - (wrap64 (IntKind.i8.wrap (a1))))) - (wrap64 (t118)))) < (-128)) = true :=decide_eq_true c8
  clear c8
  replace H :=Option.bind_eq_some_iff.mp H
  obtain ⟨t122,A90,H⟩ :=H
  replace H : (some ((wrap64 ((wrap64 ((wrap64 (a0)) - (wrap64 (a1)))) - (wrap64 (t118)))) % 256,Go.bits .or .u8 (Go.bits .or .u8 (Go.bits .or .u8 (Go.bits .or .u8 t119 2) t120) t121) t122)) = some (r1,r2) :=H
  have A9 :=Aside0.mk A90
  clear A90
  simp only [Option.some.injEq,Prod.mk.injEq] at H
  obtain ⟨rfl,rfl⟩ :=H
  go_enter Tryz.func147,Tryz.ntmps147
  go_wp2_with (first | ((with_reducible refine gate_callee (f :=162) rfl ?_);refine goesL_ (some 12) rfl rfl Tryz.func162 (by kernel_rfl) rfl #[.bool a2,.int .u8 1] rfl (by (try simp only [List.map_toArray,List.map_cons,List.map_nil]);rfl) ?_;(with_reducible refine (ycy.calls a2 1 t118 _ A4.out).mono ?_);rintro e w' ⟨rfl,⟨nd,rfl⟩⟩;refine ⟨_,rfl,?_⟩) | ((with_reducible refine gate_callee (f :=100) rfl ?_);refine goesL_ (some 33) rfl rfl Tryz.func100 (by kernel_rfl) rfl #[.int .u8 ((wrap64 ((wrap64 ((wrap64 (a0)) - (wrap64 (a1)))) - (wrap64 (t118)))) % 256)] rfl (by (try simp only [List.map_toArray,List.map_cons,List.map_nil]);rfl) ?_;(with_reducible refine (ydi.calls ((wrap64 ((wrap64 ((wrap64 (a0)) - (wrap64 (a1)))) - (wrap64 (t118)))) % 256) t119 _ A5.out).mono ?_);rintro e w' ⟨rfl,⟨nd,rfl⟩⟩;refine ⟨_,rfl,?_⟩) | ((with_reducible refine gate_callee (f :=162) rfl ?_);refine goesL_ (some 37) rfl rfl Tryz.func162 (by kernel_rfl) rfl #[.bool (decide ((wrap64 ((wrap64 ((wrap64 (a0)) - (wrap64 (a1)))) - (wrap64 (t118)))) < 0)),.int .u8 1] rfl (by (try simp only [List.map_toArray,List.map_cons,List.map_nil]);rfl) ?_;(with_reducible refine (ycy.calls (decide ((wrap64 ((wrap64 ((wrap64 (a0)) - (wrap64 (a1)))) - (wrap64 (t118)))) < 0)) 1 t120 _ A6.out).mono ?_);rintro e w' ⟨rfl,⟨nd,rfl⟩⟩;refine ⟨_,rfl,?_⟩) | ((with_reducible refine gate_callee (f :=162) rfl ?_);refine goesL_ (some 49) rfl rfl Tryz.func162 (by kernel_rfl) rfl #[.bool (decide ((wrap64 ((wrap64 ((wrap64 (Go.bits .and .u8 a0 15)) - (wrap64 (Go.bits .and .u8 a1 15)))) - (wrap64 (t118)))) < 0)),.int .u8 16] rfl (by (try simp only [List.map_toArray,List.map_cons,List.map_nil]);rfl) ?_;(with_reducible refine (ycy.calls (decide ((wrap64 ((wrap64 ((wrap64 (Go.bits .and .u8 a0 15)) - (wrap64 (Go.bits .and .u8 a1 15)))) - (wrap64 (t118)))) < 0)) 16 t121 _ A7.out).mono ?_);rintro e w' ⟨rfl,⟨nd,rfl⟩⟩;refine ⟨_,rfl,?_⟩) | ((with_reducible refine gate_callee (f :=162) rfl ?_);refine goesL_ (some 57) rfl rfl Tryz.func162 (by kernel_rfl) rfl #[.bool true,.int .u8 4] rfl (by (try simp only [List.map_toArray,List.map_cons,List.map_nil]);rfl) ?_;(with_reducible refine (ycy.calls true 4 t122 _ A9.out).mono ?_);rintro e w' ⟨rfl,⟨nd,rfl⟩⟩;refine ⟨_,rfl,?_⟩))
  go_ret2
  exact ⟨by rfl,by repeat (first | exact Drawn0.refl _ | apply Drawn0.step)⟩
 ·rw [if_neg c8] at H
  have c8b0 : decide ((wrap64 ((wrap64 ((wrap64 (IntKind.i8.wrap (a0))) - (wrap64 (IntKind.i8.wrap (a1))))) - (wrap64 (t118)))) < (-128)) = false :=decide_eq_false c8
  clear c8
  replace H :=Option.bind_eq_some_iff.mp H
  obtain ⟨t123,A100,H⟩ :=H
  replace H : (some ((wrap64 ((wrap64 ((wrap64 (a0)) - (wrap64 (a1)))) - (wrap64 (t118)))) % 256,Go.bits .or .u8 (Go.bits .or .u8 (Go.bits .or .u8 (Go.bits .or .u8 t119 2) t120) t121) t123)) = some (r1,r2) :=H
  have A10 :=Aside0.mk A100
  clear A100
  simp only [Option.some.injEq,Prod.mk.injEq] at H
  obtain ⟨rfl,rfl⟩ :=H
  go_enter Tryz.func147,Tryz.ntmps147
  go_wp2_with (first | ((with_reducible refine gate_callee (f :=162) rfl ?_);refine goesL_ (some 12) rfl rfl Tryz.func162 (by kernel_rfl) rfl #[.bool a2,.int .u8 1] rfl (by (try simp only [List.map_toArray,List.map_cons,List.map_nil]);rfl) ?_;(with_reducible refine (ycy.calls a2 1 t118 _ A4.out).mono ?_);rintro e w' ⟨rfl,⟨nd,rfl⟩⟩;refine ⟨_,rfl,?_⟩) | ((with_reducible refine gate_callee (f :=100) rfl ?_);refine goesL_ (some 33) rfl rfl Tryz.func100 (by kernel_rfl) rfl #[.int .u8 ((wrap64 ((wrap64 ((wrap64 (a0)) - (wrap64 (a1)))) - (wrap64 (t118)))) % 256)] rfl (by (try simp only [List.map_toArray,List.map_cons,List.map_nil]);rfl) ?_;(with_reducible refine (ydi.calls ((wrap64 ((wrap64 ((wrap64 (a0)) - (wrap64 (a1)))) - (wrap64 (t118)))) % 256) t119 _ A5.out).mono ?_);rintro e w' ⟨rfl,⟨nd,rfl⟩⟩;refine ⟨_,rfl,?_⟩) | ((with_reducible refine gate_callee (f :=162) rfl ?_);refine goesL_ (some 37) rfl rfl Tryz.func162 (by kernel_rfl) rfl #[.bool (decide ((wrap64 ((wrap64 ((wrap64 (a0)) - (wrap64 (a1)))) - (wrap64 (t118)))) < 0)),.int .u8 1] rfl (by (try simp only [List.map_toArray,List.map_cons,List.map_nil]);rfl) ?_;(with_reducible refine (ycy.calls (decide ((wrap64 ((wrap64 ((wrap64 (a0)) - (wrap64 (a1)))) - (wrap64 (t118)))) < 0)) 1 t120 _ A6.out).mono ?_);rintro e w' ⟨rfl,⟨nd,rfl⟩⟩;refine ⟨_,rfl,?_⟩) | ((with_reducible refine gate_callee (f :=162) rfl ?_);refine goesL_ (some 49) rfl rfl Tryz.func162 (by kernel_rfl) rfl #[.bool (decide ((wrap64 ((wrap64 ((wrap64 (Go.bits .and .u8 a0 15)) - (wrap64 (Go.bits .and .u8 a1 15)))) - (wrap64 (t118)))) < 0)),.int .u8 16] rfl (by (try simp only [List.map_toArray,List.map_cons,List.map_nil]);rfl) ?_;(with_reducible refine (ycy.calls (decide ((wrap64 ((wrap64 ((wrap64 (Go.bits .and .u8 a0 15)) - (wrap64 (Go.bits .and .u8 a1 15)))) - (wrap64 (t118)))) < 0)) 16 t121 _ A7.out).mono ?_);rintro e w' ⟨rfl,⟨nd,rfl⟩⟩;refine ⟨_,rfl,?_⟩) | ((with_reducible refine gate_callee (f :=162) rfl ?_);refine goesL_ (some 57) rfl rfl Tryz.func162 (by kernel_rfl) rfl #[.bool (decide ((wrap64 ((wrap64 ((wrap64 (IntKind.i8.wrap (a0))) - (wrap64 (IntKind.i8.wrap (a1))))) - (wrap64 (t118)))) > 127)),.int .u8 4] rfl (by (try simp only [List.map_toArray,List.map_cons,List.map_nil]);rfl) ?_;(with_reducible refine (ycy.calls (decide ((wrap64 ((wrap64 ((wrap64 (IntKind.i8.wrap (a0))) - (wrap64 (IntKind.i8.wrap (a1))))) - (wrap64 (t118)))) > 127)) 4 t123 _ A10.out).mono ?_);rintro e w' ⟨rfl,⟨nd,rfl⟩⟩;refine ⟨_,rfl,?_⟩))
  go_ret2
  exact ⟨by rfl,by repeat (first | exact Drawn0.refl _ | apply Drawn0.step)⟩

/-! ### wide_Find: function 141 -/
def wide_Find.f (a0 : Int) (a1 : Int) (a2 : Int) (a3 : Int) : Option (Int) :=(ydo.f a0 a1 false).bind fun bt124 => (if (Go.bits .and .u8 (Go.bits .and .u8 bt124.2 208) 16) = 0 then ((ydk.f bt124.1).bind fun t126 => ((ycs.f (a2 != 0) 4).bind fun t127 => (some (Go.bits .or .u8 (Go.bits .or .u8 (Go.bits .or .u8 (Go.bits .or .u8 (Go.bits .and .u8 bt124.2 208) 2) t126) t127) (Go.bits .and .u8 a3 1))))) else ((ydk.f ((bt124.1 - 1) % 256)).bind fun t128 => ((ycs.f (a2 != 0) 4).bind fun t129 => (some (Go.bits .or .u8 (Go.bits .or .u8 (Go.bits .or .u8 (Go.bits .or .u8 (Go.bits .and .u8 bt124.2 208) 2) t128) t129) (Go.bits .and .u8 a3 1))))))
theorem wide_Find.calls (a0 : Int) (a1 : Int) (a2 : Int) (a3 : Int) (r : Int) (w : World) (h : wide_Find.f a0 a1 a2 a3 = some r) :
  Calls Tryz.prog 141 #[.int .u8 a0,.int .u8 a1,.int .u16 a2,.int .u8 a3] w fun e w' => e = .returned (.int .u8 r) ∧ Drawn0 w w' :=by
 have H : ((ydo.f a0 a1 false).bind fun bt124 => (if (Go.bits .and .u8 (Go.bits .and .u8 bt124.2 208) 16) = 0 then ((ydk.f bt124.1).bind fun t126 => ((ycs.f (a2 != 0) 4).bind fun t127 => (some (Go.bits .or .u8 (Go.bits .or .u8 (Go.bits .or .u8 (Go.bits .or .u8 (Go.bits .and .u8 bt124.2 208) 2) t126) t127) (Go.bits .and .u8 a3 1))))) else ((ydk.f ((bt124.1 - 1) % 256)).bind fun t128 => ((ycs.f (a2 != 0) 4).bind fun t129 => (some (Go.bits .or .u8 (Go.bits .or .u8 (Go.bits .or .u8 (Go.bits .or .u8 (Go.bits .and .u8 bt124.2 208) 2) t128) t129) (Go.bits .and .u8 a3 1))))))) = some r :=h
 clear h
 replace H :=Option.bind_eq_some_iff.mp H
 obtain ⟨⟨t124,t125⟩,A50,H⟩ :=H
 replace H : (if (Go.bits .and .u8 (Go.bits .and .u8 t125 208) 16) = 0 then ((ydk.f t124).bind fun t126 => ((ycs.f (a2 != 0) 4).bind fun t127 => (some (Go.bits .or .u8 (Go.bits .or .u8 (Go.bits .or .u8 (Go.bits .or .u8 (Go.bits .and .u8 t125 208) 2) t126) t127) (Go.bits .and .u8 a3 1))))) else ((ydk.f ((t124 - 1) % 256)).bind fun t128 => ((ycs.f (a2 != 0) 4).bind fun t129 => (some (Go.bits .or .u8 (Go.bits .or .u8 (Go.bits .or .u8 (Go.bits .or .u8 (Go.bits .and .u8 t125 208) 2) t128) t129) (Go.bits .and .u8 a3 1)))))) = some r :=H
 have A5 :=Aside0.mk A50
 clear A50
 by_cases c6 : (Go.bits .and .u8 (Go.bits .and .u8 t125 208) 16) = 0
 ·obtain ⟨H,c6b0,c6b1⟩ :=ipos c6 H;clear c6
  replace H :=Option.bind_eq_some_iff.mp H
  obtain ⟨t126,A70,H⟩ :=H
  replace H : ((ycs.f (a2 != 0) 4).bind fun t127 => (some (Go.bits .or .u8 (Go.bits .or .u8 (Go.bits .or .u8 (Go.bits .or .u8 (Go.bits .and .u8 t125 208) 2) t126) t127) (Go.bits .and .u8 a3 1)))) = some r :=H
  have A7 :=Aside0.mk A70
  clear A70
  replace H :=Option.bind_eq_some_iff.mp H
  obtain ⟨t127,A80,H⟩ :=H
  replace H : (some (Go.bits .or .u8 (Go.bits .or .u8 (Go.bits .or .u8 (Go.bits .or .u8 (Go.bits .and .u8 t125 208) 2) t126) t127) (Go.bits .and .u8 a3 1))) = some r :=H
  have A8 :=Aside0.mk A80
  clear A80
  obtain rfl :=Option.some.inj H
  go_enter Tryz.func141,Tryz.ntmps141
  go_wp2_with (first | ((with_reducible refine gate_callee (f :=147) rfl ?_);refine goesL_ (some 14) rfl rfl Tryz.func147 (by kernel_rfl) rfl #[.int .u8 a0,.int .u8 a1,.bool false] rfl (by (try simp only [List.map_toArray,List.map_cons,List.map_nil]);rfl) ?_;(with_reducible refine (ydo.calls a0 a1 false t124 t125 _ A5.out).mono ?_);rintro e w' ⟨rfl,⟨nd,rfl⟩⟩;refine ⟨_,rfl,?_⟩) | ((with_reducible refine gate_callee (f :=161) rfl ?_);refine goesL_ (some 27) rfl rfl Tryz.func161 (by kernel_rfl) rfl #[.int .u8 t124] rfl (by (try simp only [List.map_toArray,List.map_cons,List.map_nil]);rfl) ?_;(with_reducible refine (ydk.calls t124 t126 _ A7.out).mono ?_);rintro e w' ⟨rfl,⟨nd,rfl⟩⟩;refine ⟨_,rfl,?_⟩) | ((with_reducible refine gate_callee (f :=145) rfl ?_);refine goesL_ (some 31) rfl rfl Tryz.func145 (by kernel_rfl) rfl #[.bool (a2 != 0),.int .u8 4] rfl (by (try simp only [List.map_toArray,List.map_cons,List.map_nil]);rfl) ?_;(with_reducible refine (ycs.calls (a2 != 0) 4 t127 _ A8.out).mono ?_);rintro e w' ⟨rfl,⟨nd,rfl⟩⟩;refine ⟨_,rfl,?_⟩))
  go_ret
  exact ⟨by rfl,by repeat (first | exact Drawn0.refl _ | apply Drawn0.step)⟩
 ·obtain ⟨H,c6b0,c6b1⟩ :=ineg c6 H
  replace H :=Option.bind_eq_some_iff.mp H
  obtain ⟨t128,A90,H⟩ :=H
  replace H : ((ycs.f (a2 != 0) 4).bind fun t129 => (some (Go.bits .or .u8 (Go.bits .or .u8 (Go.bits .or .u8 (Go.bits .or .u8 (Go.bits .and .u8 t125 208) 2) t128) t129) (Go.bits .and .u8 a3 1)))) = some r :=H
  have A9 :=Aside0.mk A90
  clear A90
  replace H :=Option.bind_eq_some_iff.mp H
  obtain ⟨t129,A100,H⟩ :=H
  replace H : (some (Go.bits .or .u8 (Go.bits .or .u8 (Go.bits .or .u8 (Go.bits .or .u8 (Go.bits .and .u8 t125 208) 2) t128) t129) (Go.bits .and .u8 a3 1))) = some r :=H
  have A10 :=Aside0.mk A100
  clear A100
  obtain rfl :=Option.some.inj H
  go_enter Tryz.func141,Tryz.ntmps141
  go_wp2_with (first | ((with_reducible refine gate_callee (f :=147) rfl ?_);refine goesL_ (some 14) rfl rfl Tryz.func147 (by kernel_rfl) rfl #[.int .u8 a0,.int .u8 a1,.bool false] rfl (by (try simp only [List.map_toArray,List.map_cons,List.map_nil]);rfl) ?_;(with_reducible refine (ydo.calls a0 a1 false t124 t125 _ A5.out).mono ?_);rintro e w' ⟨rfl,⟨nd,rfl⟩⟩;refine ⟨_,rfl,?_⟩) | ((with_reducible refine gate_callee (f :=161) rfl ?_);refine goesL_ (some 27) rfl rfl Tryz.func161 (by kernel_rfl) rfl #[.int .u8 ((t124 - 1) % 256)] rfl (by (try simp only [List.map_toArray,List.map_cons,List.map_nil]);rfl) ?_;(with_reducible refine (ydk.calls ((t124 - 1) % 256) t128 _ A9.out).mono ?_);rintro e w' ⟨rfl,⟨nd,rfl⟩⟩;refine ⟨_,rfl,?_⟩) | ((with_reducible refine gate_callee (f :=145) rfl ?_);refine goesL_ (some 31) rfl rfl Tryz.func145 (by kernel_rfl) rfl #[.bool (a2 != 0),.int .u8 4] rfl (by (try simp only [List.map_toArray,List.map_cons,List.map_nil]);rfl) ?_;(with_reducible refine (ycs.calls (a2 != 0) 4 t129 _ A10.out).mono ?_);rintro e w' ⟨rfl,⟨nd,rfl⟩⟩;refine ⟨_,rfl,?_⟩))
  go_ret
  exact ⟨by rfl,by repeat (first | exact Drawn0.refl _ | apply Drawn0.step)⟩

/-! ### bits_OnesCount8: function 143 -/
def ydm.f (a0 : Int) : Option (Int) :=if 0 ≤ a0 then (if a0 < 256 then (some (wrap64 (bt (⟨#[0,1,1,2,1,2,2,3,1,2,2,3,2,3,3,4,1,2,2,3,2,3,3,4,2,3,3,4,3,4,4,5,1,2,2,3,2,3,3,4,2,3,3,4,3,4,4,5,2,3,3,4,3,4,4,5,3,4,4,5,4,5,5,6,1,2,2,3,2,3,3,4,2,3,3,4,3,4,4,5,2,3,3,4,3,4,4,5,3,4,4,5,4,5,5,6,2,3,3,4,3,4,4,5,3,4,4,5,4,5,5,6,3,4,4,5,4,5,5,6,4,5,5,6,5,6,6,7,1,2,2,3,2,3,3,4,2,3,3,4,3,4,4,5,2,3,3,4,3,4,4,5,3,4,4,5,4,5,5,6,2,3,3,4,3,4,4,5,3,4,4,5,4,5,5,6,3,4,4,5,4,5,5,6,4,5,5,6,5,6,6,7,2,3,3,4,3,4,4,5,3,4,4,5,4,5,5,6,3,4,4,5,4,5,5,6,4,5,5,6,5,6,6,7,3,4,4,5,4,5,5,6,4,5,5,6,5,6,6,7,4,5,5,6,5,6,6,7,5,6,6,7,6,7,7,8]⟩ : ByteArray) a0))) else (none)) else (none)
theorem ydm.calls (a0 : Int) (r : Int) (w : World) (h : ydm.f a0 = some r) :
  Calls Tryz.prog 143 #[.int .u8 a0] w fun e w' => e = .returned (.int .i64 r) ∧ Drawn0 w w' :=by
 have H : (if 0 ≤ a0 then (if a0 < 256 then (some (wrap64 (bt (⟨#[0,1,1,2,1,2,2,3,1,2,2,3,2,3,3,4,1,2,2,3,2,3,3,4,2,3,3,4,3,4,4,5,1,2,2,3,2,3,3,4,2,3,3,4,3,4,4,5,2,3,3,4,3,4,4,5,3,4,4,5,4,5,5,6,1,2,2,3,2,3,3,4,2,3,3,4,3,4,4,5,2,3,3,4,3,4,4,5,3,4,4,5,4,5,5,6,2,3,3,4,3,4,4,5,3,4,4,5,4,5,5,6,3,4,4,5,4,5,5,6,4,5,5,6,5,6,6,7,1,2,2,3,2,3,3,4,2,3,3,4,3,4,4,5,2,3,3,4,3,4,4,5,3,4,4,5,4,5,5,6,2,3,3,4,3,4,4,5,3,4,4,5,4,5,5,6,3,4,4,5,4,5,5,6,4,5,5,6,5,6,6,7,2,3,3,4,3,4,4,5,3,4,4,5,4,5,5,6,3,4,4,5,4,5,5,6,4,5,5,6,5,6,6,7,3,4,4,5,4,5,5,6,4,5,5,6,5,6,6,7,4,5,5,6,5,6,6,7,5,6,6,7,6,7,7,8]⟩ : ByteArray) a0))) else (none)) else (none)) = some r :=h
 clear h
 by_cases c2 : 0 ≤ a0
 ·rw [if_pos c2] at H
  have c2b0 : decide (0 ≤ a0) = true :=decide_eq_true c2
  clear c2
  by_cases c3 : a0 < 256
  ·rw [if_pos c3] at H
   have c3b0 : decide (a0 < 256) = true :=decide_eq_true c3
   clear c3
   obtain rfl :=Option.some.inj H
   have p4 : 0 ≤ (a0 : Int) :=of_decide_eq_true (by (with_reducible assumption))
   have q4 : a0 < (256 : Int) :=of_decide_eq_true (by (with_reducible assumption))
   have hx4 :=bt_at (⟨#[0,1,1,2,1,2,2,3,1,2,2,3,2,3,3,4,1,2,2,3,2,3,3,4,2,3,3,4,3,4,4,5,1,2,2,3,2,3,3,4,2,3,3,4,3,4,4,5,2,3,3,4,3,4,4,5,3,4,4,5,4,5,5,6,1,2,2,3,2,3,3,4,2,3,3,4,3,4,4,5,2,3,3,4,3,4,4,5,3,4,4,5,4,5,5,6,2,3,3,4,3,4,4,5,3,4,4,5,4,5,5,6,3,4,4,5,4,5,5,6,4,5,5,6,5,6,6,7,1,2,2,3,2,3,3,4,2,3,3,4,3,4,4,5,2,3,3,4,3,4,4,5,3,4,4,5,4,5,5,6,2,3,3,4,3,4,4,5,3,4,4,5,4,5,5,6,3,4,4,5,4,5,5,6,4,5,5,6,5,6,6,7,2,3,3,4,3,4,4,5,3,4,4,5,4,5,5,6,3,4,4,5,4,5,5,6,4,5,5,6,5,6,6,7,3,4,4,5,4,5,5,6,4,5,5,6,5,6,6,7,4,5,5,6,5,6,6,7,5,6,6,7,6,7,7,8]⟩ : ByteArray) a0
   replace p4 :=eq_true p4
   replace q4 :=eq_true q4
   go_enter Tryz.func143,Tryz.ntmps143
   go_wp2
   go_ret
   exact ⟨by rfl,by repeat (exact Drawn0.refl _)⟩
  ·rw [if_neg c3] at H
   exact absurd H (by simp)
 ·rw [if_neg c2] at H
  exact absurd H (by simp)

/-! ### alu_Parity: function 102 -/
def ydg.f (a0 : Int) : Option (Bool) :=(ydm.f a0).bind fun t130 => (some ((Int.tmod t130 2) == 0))
theorem ydg.calls (a0 : Int) (r : Bool) (w : World) (h : ydg.f a0 = some r) :
  Calls Tryz.prog 102 #[.int .u8 a0] w fun e w' => e = .returned (.bool r) ∧ Drawn0 w w' :=by
 have H : ((ydm.f a0).bind fun t130 => (some ((Int.tmod t130 2) == 0))) = some r :=h
 clear h
 replace H :=Option.bind_eq_some_iff.mp H
 obtain ⟨t130,A20,H⟩ :=H
 replace H : (some ((Int.tmod t130 2) == 0)) = some r :=H
 have A2 :=Aside0.mk A20
 clear A20
 obtain rfl :=Option.some.inj H
 go_enter Tryz.func102,Tryz.ntmps102
 go_wp2_with (((with_reducible refine gate_callee (f :=143) rfl ?_);refine goesL_ (some 4) rfl rfl Tryz.func143 (by kernel_rfl) rfl #[.int .u8 a0] rfl (by (try simp only [List.map_toArray,List.map_cons,List.map_nil]);rfl) ?_;(with_reducible refine (ydm.calls a0 t130 _ A2.out).mono ?_);rintro e w' ⟨rfl,⟨nd,rfl⟩⟩;refine ⟨_,rfl,?_⟩))
 go_ret
 exact ⟨by rfl,by repeat (first | exact Drawn0.refl _ | apply Drawn0.step)⟩

/-! ### wide_Port: function 142 -/
def wide_Port.f (a0 : Int) (a1 : Int) (a2 : Int) : Option (Int) :=(ydi.f a1).bind fun t131 => ((ycs.f ((Go.bits .and .u8 a0 128) != 0) 2).bind fun t132 => ((ycs.f (decide ((wrap64 ((wrap64 (a0)) + (wrap64 (a2)))) > 255)) 17).bind fun t133 => ((ydg.f (Go.bits .xor .u8 ((Go.bits .and .i64 (wrap64 ((wrap64 (a0)) + (wrap64 (a2)))) 7) % 256) a1)).bind fun t134 => ((ycs.f t134 4).bind fun t135 => (some (Go.bits .or .u8 (Go.bits .or .u8 (Go.bits .or .u8 t131 t132) t133) t135))))))
theorem wide_Port.calls (a0 : Int) (a1 : Int) (a2 : Int) (r : Int) (w : World) (h : wide_Port.f a0 a1 a2 = some r) :
  Calls Tryz.prog 142 #[.int .u8 a0,.int .u8 a1,.int .u8 a2] w fun e w' => e = .returned (.int .u8 r) ∧ Drawn0 w w' :=by
 have H : ((ydi.f a1).bind fun t131 => ((ycs.f ((Go.bits .and .u8 a0 128) != 0) 2).bind fun t132 => ((ycs.f (decide ((wrap64 ((wrap64 (a0)) + (wrap64 (a2)))) > 255)) 17).bind fun t133 => ((ydg.f (Go.bits .xor .u8 ((Go.bits .and .i64 (wrap64 ((wrap64 (a0)) + (wrap64 (a2)))) 7) % 256) a1)).bind fun t134 => ((ycs.f t134 4).bind fun t135 => (some (Go.bits .or .u8 (Go.bits .or .u8 (Go.bits .or .u8 t131 t132) t133) t135))))))) = some r :=h
 clear h
 replace H :=Option.bind_eq_some_iff.mp H
 obtain ⟨t131,A40,H⟩ :=H
 replace H : ((ycs.f ((Go.bits .and .u8 a0 128) != 0) 2).bind fun t132 => ((ycs.f (decide ((wrap64 ((wrap64 (a0)) + (wrap64 (a2)))) > 255)) 17).bind fun t133 => ((ydg.f (Go.bits .xor .u8 ((Go.bits .and .i64 (wrap64 ((wrap64 (a0)) + (wrap64 (a2)))) 7) % 256) a1)).bind fun t134 => ((ycs.f t134 4).bind fun t135 => (some (Go.bits .or .u8 (Go.bits .or .u8 (Go.bits .or .u8 t131 t132) t133) t135)))))) = some r :=H
 have A4 :=Aside0.mk A40
 clear A40
 replace H :=Option.bind_eq_some_iff.mp H
 obtain ⟨t132,A50,H⟩ :=H
 replace H : ((ycs.f (decide ((wrap64 ((wrap64 (a0)) + (wrap64 (a2)))) > 255)) 17).bind fun t133 => ((ydg.f (Go.bits .xor .u8 ((Go.bits .and .i64 (wrap64 ((wrap64 (a0)) + (wrap64 (a2)))) 7) % 256) a1)).bind fun t134 => ((ycs.f t134 4).bind fun t135 => (some (Go.bits .or .u8 (Go.bits .or .u8 (Go.bits .or .u8 t131 t132) t133) t135))))) = some r :=H
 have A5 :=Aside0.mk A50
 clear A50
 replace H :=Option.bind_eq_some_iff.mp H
 obtain ⟨t133,A60,H⟩ :=H
 replace H : ((ydg.f (Go.bits .xor .u8 ((Go.bits .and .i64 (wrap64 ((wrap64 (a0)) + (wrap64 (a2)))) 7) % 256) a1)).bind fun t134 => ((ycs.f t134 4).bind fun t135 => (some (Go.bits .or .u8 (Go.bits .or .u8 (Go.bits .or .u8 t131 t132) t133) t135)))) = some r :=H
 have A6 :=Aside0.mk A60
 clear A60
 replace H :=Option.bind_eq_some_iff.mp H
 obtain ⟨t134,A70,H⟩ :=H
 replace H : ((ycs.f t134 4).bind fun t135 => (some (Go.bits .or .u8 (Go.bits .or .u8 (Go.bits .or .u8 t131 t132) t133) t135))) = some r :=H
 have A7 :=Aside0.mk A70
 clear A70
 replace H :=Option.bind_eq_some_iff.mp H
 obtain ⟨t135,A80,H⟩ :=H
 replace H : (some (Go.bits .or .u8 (Go.bits .or .u8 (Go.bits .or .u8 t131 t132) t133) t135)) = some r :=H
 have A8 :=Aside0.mk A80
 clear A80
 obtain rfl :=Option.some.inj H
 go_enter Tryz.func142,Tryz.ntmps142
 go_wp2_with (first | ((with_reducible refine gate_callee (f :=100) rfl ?_);refine goesL_ (some 14) rfl rfl Tryz.func100 (by kernel_rfl) rfl #[.int .u8 a1] rfl (by (try simp only [List.map_toArray,List.map_cons,List.map_nil]);rfl) ?_;(with_reducible refine (ydi.calls a1 t131 _ A4.out).mono ?_);rintro e w' ⟨rfl,⟨nd,rfl⟩⟩;refine ⟨_,rfl,?_⟩) | ((with_reducible refine gate_callee (f :=145) rfl ?_);refine goesL_ (some 18) rfl rfl Tryz.func145 (by kernel_rfl) rfl #[.bool ((Go.bits .and .u8 a0 128) != 0),.int .u8 2] rfl (by (try simp only [List.map_toArray,List.map_cons,List.map_nil]);rfl) ?_;(with_reducible refine (ycs.calls ((Go.bits .and .u8 a0 128) != 0) 2 t132 _ A5.out).mono ?_);rintro e w' ⟨rfl,⟨nd,rfl⟩⟩;refine ⟨_,rfl,?_⟩) | ((with_reducible refine gate_callee (f :=145) rfl ?_);refine goesL_ (some 22) rfl rfl Tryz.func145 (by kernel_rfl) rfl #[.bool (decide ((wrap64 ((wrap64 (a0)) + (wrap64 (a2)))) > 255)),.int .u8 17] rfl (by (try simp only [List.map_toArray,List.map_cons,List.map_nil]);rfl) ?_;(with_reducible refine (ycs.calls (decide ((wrap64 ((wrap64 (a0)) + (wrap64 (a2)))) > 255)) 17 t133 _ A6.out).mono ?_);rintro e w' ⟨rfl,⟨nd,rfl⟩⟩;refine ⟨_,rfl,?_⟩) | ((with_reducible refine gate_callee (f :=102) rfl ?_);refine goesL_ (some 29) rfl rfl Tryz.func102 (by kernel_rfl) rfl #[.int .u8 (Go.bits .xor .u8 ((Go.bits .and .i64 (wrap64 ((wrap64 (a0)) + (wrap64 (a2)))) 7) % 256) a1)] rfl (by (try simp only [List.map_toArray,List.map_cons,List.map_nil]);rfl) ?_;(with_reducible refine (ydg.calls (Go.bits .xor .u8 ((Go.bits .and .i64 (wrap64 ((wrap64 (a0)) + (wrap64 (a2)))) 7) % 256) a1) t134 _ A7.out).mono ?_);rintro e w' ⟨rfl,⟨nd,rfl⟩⟩;refine ⟨_,rfl,?_⟩) | ((with_reducible refine gate_callee (f :=145) rfl ?_);refine goesL_ (some 30) rfl rfl Tryz.func145 (by kernel_rfl) rfl #[.bool t134,.int .u8 4] rfl (by (try simp only [List.map_toArray,List.map_cons,List.map_nil]);rfl) ?_;(with_reducible refine (ycs.calls t134 4 t135 _ A8.out).mono ?_);rintro e w' ⟨rfl,⟨nd,rfl⟩⟩;refine ⟨_,rfl,?_⟩))
 go_ret
 exact ⟨by rfl,by repeat (first | exact Drawn0.refl _ | apply Drawn0.step)⟩

/-! ### alu_Neg: function 111 -/
def alu_Neg.f (a0 : Int) : Option (Int × Int) :=(ydo.f 0 a0 false).bind fun bt136 => (some (bt136.1,bt136.2))
theorem alu_Neg.calls (a0 : Int) (r1 : Int) (r2 : Int) (w : World) (h : alu_Neg.f a0 = some (r1,r2)) :
  Calls Tryz.prog 111 #[.int .u8 a0] w fun e w' => e = .returned (.tuple #[.int .u8 r1,.int .u8 r2]) ∧ Drawn0 w w' :=by
 have H : ((ydo.f 0 a0 false).bind fun bt136 => (some (bt136.1,bt136.2))) = some (r1,r2) :=h
 clear h
 replace H :=Option.bind_eq_some_iff.mp H
 obtain ⟨⟨t136,t137⟩,A20,H⟩ :=H
 replace H : (some (t136,t137)) = some (r1,r2) :=H
 have A2 :=Aside0.mk A20
 clear A20
 simp only [Option.some.injEq,Prod.mk.injEq] at H
 obtain ⟨rfl,rfl⟩ :=H
 go_enter Tryz.func111,Tryz.ntmps111
 go_wp2_with (((with_reducible refine gate_callee (f :=147) rfl ?_);refine goesL_ (some 5) rfl rfl Tryz.func147 (by kernel_rfl) rfl #[.int .u8 0,.int .u8 a0,.bool false] rfl (by (try simp only [List.map_toArray,List.map_cons,List.map_nil]);rfl) ?_;(with_reducible refine (ydo.calls 0 a0 false t136 t137 _ A2.out).mono ?_);rintro e w' ⟨rfl,⟨nd,rfl⟩⟩;refine ⟨_,rfl,?_⟩))
 go_ret2
 exact ⟨by rfl,by repeat (first | exact Drawn0.refl _ | apply Drawn0.step)⟩

/-! ### alu_Add: function 160 -/
def alu_Add.f (a0 : Int) (a1 : Int) (a2 : Bool) : Option (Int × Int) :=(ycy.f a2 1).bind fun t138 => ((ydi.f ((wrap64 ((wrap64 ((wrap64 (a0)) + (wrap64 (a1)))) + (wrap64 (t138)))) % 256)).bind fun t139 => ((ycy.f (decide ((wrap64 ((wrap64 ((wrap64 (a0)) + (wrap64 (a1)))) + (wrap64 (t138)))) > 255)) 1).bind fun t140 => ((ycy.f (decide ((wrap64 ((wrap64 ((wrap64 (Go.bits .and .u8 a0 15)) + (wrap64 (Go.bits .and .u8 a1 15)))) + (wrap64 (t138)))) > 15)) 16).bind fun t141 => (if (wrap64 ((wrap64 ((wrap64 (IntKind.i8.wrap (a0))) + (wrap64 (IntKind.i8.wrap (a1))))) + (wrap64 (t138)))) < (-128) then ((ycy.f true 4).bind fun t142 => (some ((wrap64 ((wrap64 ((wrap64 (a0)) + (wrap64 (a1)))) + (wrap64 (t138)))) % 256,Go.bits .or .u8 (Go.bits .or .u8 (Go.bits .or .u8 t139 t140) t141) t142))) else ((ycy.f (decide ((wrap64 ((wrap64 ((wrap64 (IntKind.i8.wrap (a0))) + (wrap64 (IntKind.i8.wrap (a1))))) + (wrap64 (t138)))) > 127)) 4).bind fun t143 => (some ((wrap64 ((wrap64 ((wrap64 (a0)) + (wrap64 (a1)))) + (wrap64 (t138)))) % 256,Go.bits .or .u8 (Go.bits .or .u8 (Go.bits .or .u8 t139 t140) t141) t143)))))))
theorem alu_Add.calls (a0 : Int) (a1 : Int) (a2 : Bool) (r1 : Int) (r2 : Int) (w : World) (h : alu_Add.f a0 a1 a2 = some (r1,r2)) :
  Calls Tryz.prog 160 #[.int .u8 a0,.int .u8 a1,.bool a2] w fun e w' => e = .returned (.tuple #[.int .u8 r1,.int .u8 r2]) ∧ Drawn0 w w' :=by
 have H : ((ycy.f a2 1).bind fun t138 => ((ydi.f ((wrap64 ((wrap64 ((wrap64 (a0)) + (wrap64 (a1)))) + (wrap64 (t138)))) % 256)).bind fun t139 => ((ycy.f (decide ((wrap64 ((wrap64 ((wrap64 (a0)) + (wrap64 (a1)))) + (wrap64 (t138)))) > 255)) 1).bind fun t140 => ((ycy.f (decide ((wrap64 ((wrap64 ((wrap64 (Go.bits .and .u8 a0 15)) + (wrap64 (Go.bits .and .u8 a1 15)))) + (wrap64 (t138)))) > 15)) 16).bind fun t141 => (if (wrap64 ((wrap64 ((wrap64 (IntKind.i8.wrap (a0))) + (wrap64 (IntKind.i8.wrap (a1))))) + (wrap64 (t138)))) < (-128) then ((ycy.f true 4).bind fun t142 => (some ((wrap64 ((wrap64 ((wrap64 (a0)) + (wrap64 (a1)))) + (wrap64 (t138)))) % 256,Go.bits .or .u8 (Go.bits .or .u8 (Go.bits .or .u8 t139 t140) t141) t142))) else ((ycy.f (decide ((wrap64 ((wrap64 ((wrap64 (IntKind.i8.wrap (a0))) + (wrap64 (IntKind.i8.wrap (a1))))) + (wrap64 (t138)))) > 127)) 4).bind fun t143 => (some ((wrap64 ((wrap64 ((wrap64 (a0)) + (wrap64 (a1)))) + (wrap64 (t138)))) % 256,Go.bits .or .u8 (Go.bits .or .u8 (Go.bits .or .u8 t139 t140) t141) t143)))))))) = some (r1,r2) :=h
 clear h
 replace H :=Option.bind_eq_some_iff.mp H
 obtain ⟨t138,A40,H⟩ :=H
 replace H : ((ydi.f ((wrap64 ((wrap64 ((wrap64 (a0)) + (wrap64 (a1)))) + (wrap64 (t138)))) % 256)).bind fun t139 => ((ycy.f (decide ((wrap64 ((wrap64 ((wrap64 (a0)) + (wrap64 (a1)))) + (wrap64 (t138)))) > 255)) 1).bind fun t140 => ((ycy.f (decide ((wrap64 ((wrap64 ((wrap64 (Go.bits .and .u8 a0 15)) + (wrap64 (Go.bits .and .u8 a1 15)))) + (wrap64 (t138)))) > 15)) 16).bind fun t141 => (if (wrap64 ((wrap64 ((wrap64 (IntKind.i8.wrap (a0))) + (wrap64 (IntKind.i8.wrap (a1))))) + (wrap64 (t138)))) < (-128) then ((ycy.f true 4).bind fun t142 => (some ((wrap64 ((wrap64 ((wrap64 (a0)) + (wrap64 (a1)))) + (wrap64 (t138)))) % 256,Go.bits .or .u8 (Go.bits .or .u8 (Go.bits .or .u8 t139 t140) t141) t142))) else ((ycy.f (decide ((wrap64 ((wrap64 ((wrap64 (IntKind.i8.wrap (a0))) + (wrap64 (IntKind.i8.wrap (a1))))) + (wrap64 (t138)))) > 127)) 4).bind fun t143 => (some ((wrap64 ((wrap64 ((wrap64 (a0)) + (wrap64 (a1)))) + (wrap64 (t138)))) % 256,Go.bits .or .u8 (Go.bits .or .u8 (Go.bits .or .u8 t139 t140) t141) t143))))))) = some (r1,r2) :=H
 have A4 :=Aside0.mk A40
 clear A40
 replace H :=Option.bind_eq_some_iff.mp H
 obtain ⟨t139,A50,H⟩ :=H
 replace H : ((ycy.f (decide ((wrap64 ((wrap64 ((wrap64 (a0)) + (wrap64 (a1)))) + (wrap64 (t138)))) > 255)) 1).bind fun t140 => ((ycy.f (decide ((wrap64 ((wrap64 ((wrap64 (Go.bits .and .u8 a0 15)) + (wrap64 (Go.bits .and .u8 a1 15)))) + (wrap64 (t138)))) > 15)) 16).bind fun t141 => (if (wrap64 ((wrap64 ((wrap64 (IntKind.i8.wrap (a0))) + (wrap64 (IntKind.i8.wrap (a1))))) + (wrap64 (t138)))) < (-128) then ((ycy.f true 4).bind fun t142 => (some ((wrap64 ((wrap64 ((wrap64 (a0)) + (wrap64 (a1)))) + (wrap64 (t138)))) % 256,Go.bits .or .u8 (Go.bits .or .u8 (Go.bits .or .u8 t139 t140) t141) t142))) else ((ycy.f (decide ((wrap64 ((wrap64 ((wrap64 (IntKind.i8.wrap (a0))) + (wrap64 (IntKind.i8.wrap (a1))))) + (wrap64 (t138)))) > 127)) 4).bind fun t143 => (some ((wrap64 ((wrap64 ((wrap64 (a0)) + (wrap64 (a1)))) + (wrap64 (t138)))) % 256,Go.bits .or .u8 (Go.bits .or .u8 (Go.bits .or .u8 t139 t140) t141) t143)))))) = some (r1,r2) :=H
 have A5 :=Aside0.mk A50
 clear A50
 replace H :=Option.bind_eq_some_iff.mp H
 obtain ⟨t140,A60,H⟩ :=H
 replace H : ((ycy.f (decide ((wrap64 ((wrap64 ((wrap64 (Go.bits .and .u8 a0 15)) + (wrap64 (Go.bits .and .u8 a1 15)))) + (wrap64 (t138)))) > 15)) 16).bind fun t141 => (if (wrap64 ((wrap64 ((wrap64 (IntKind.i8.wrap (a0))) + (wrap64 (IntKind.i8.wrap (a1))))) + (wrap64 (t138)))) < (-128) then ((ycy.f true 4).bind fun t142 => (some ((wrap64 ((wrap64 ((wrap64 (a0)) + (wrap64 (a1)))) + (wrap64 (t138)))) % 256,Go.bits .or .u8 (Go.bits .or .u8 (Go.bits .or .u8 t139 t140) t141) t142))) else ((ycy.f (decide ((wrap64 ((wrap64 ((wrap64 (IntKind.i8.wrap (a0))) + (wrap64 (IntKind.i8.wrap (a1))))) + (wrap64 (t138)))) > 127)) 4).bind fun t143 => (some ((wrap64 ((wrap64 ((wrap64 (a0)) + (wrap64 (a1)))) + (wrap64 (t138)))) % 256,Go.bits .or .u8 (Go.bits .or .u8 (Go.bits .or .u8 t139 t140) t141) t143))))) = some (r1,r2) :=H
 have A6 :=Aside0.mk A60
 clear A60
 replace H :=Option.bind_eq_some_iff.mp H
 obtain ⟨t141,A70,H⟩ :=H
 replace H : (if (wrap64 ((wrap64 ((wrap64 (IntKind.i8.wrap (a0))) + (wrap64 (IntKind.i8.wrap (a1))))) + (wrap64 (t138)))) < (-128) then ((ycy.f true 4).bind fun t142 => (some ((wrap64 ((wrap64 ((wrap64 (a0)) + (wrap64 (a1)))) + (wrap64 (t138)))) % 256,Go.bits .or .u8 (Go.bits .or .u8 (Go.bits .or .u8 t139 t140) t141) t142))) else ((ycy.f (decide ((wrap64 ((wrap64 ((wrap64 (IntKind.i8.wrap (a0))) + (wrap64 (IntKind.i8.wrap (a1))))) + (wrap64 (t138)))) > 127)) 4).bind fun t143 => (some ((wrap64 ((wrap64 ((wrap64 (a0)) + (wrap64 (a1)))) + (wrap64 (t138)))) % 256,Go.bits .or .u8 (Go.bits .or .u8 (Go.bits .or .u8 t139 t140) t141) t143)))) = some (r1,r2) :=H
 have A7 :=Aside0.mk A70
 clear A70
 by_cases c8 : (wrap64 ((wrap64 ((wrap64 (IntKind.i8.wrap (a0))) + (wrap64 (IntKind.i8.wrap (a1))))) + (wrap64 (t138)))) < (-128)
 ·rw [if_pos c8] at H
  have c8b0 : decide ((wrap64 ((wrap64 ((wrap64 (IntKind.i8.wrap (a0))) + (wrap64 (IntKind.i8.wrap (a1))))) + (wrap64 (t138)))) < (-128)) = true :=decide_eq_true c8
  clear c8
  replace H :=Option.bind_eq_some_iff.mp H
  obtain ⟨t142,A90,H⟩ :=H
  replace H : (some ((wrap64 ((wrap64 ((wrap64 (a0)) + (wrap64 (a1)))) + (wrap64 (t138)))) % 256,Go.bits .or .u8 (Go.bits .or .u8 (Go.bits .or .u8 t139 t140) t141) t142)) = some (r1,r2) :=H
  have A9 :=Aside0.mk A90
  clear A90
  simp only [Option.some.injEq,Prod.mk.injEq] at H
  obtain ⟨rfl,rfl⟩ :=H
  go_enter Tryz.func160,Tryz.ntmps160
  go_wp2_with (first | ((with_reducible refine gate_callee (f :=162) rfl ?_);refine goesL_ (some 12) rfl rfl Tryz.func162 (by kernel_rfl) rfl #[.bool a2,.int .u8 1] rfl (by (try simp only [List.map_toArray,List.map_cons,List.map_nil]);rfl) ?_;(with_reducible refine (ycy.calls a2 1 t138 _ A4.out).mono ?_);rintro e w' ⟨rfl,⟨nd,rfl⟩⟩;refine ⟨_,rfl,?_⟩) | ((with_reducible refine gate_callee (f :=100) rfl ?_);refine goesL_ (some 33) rfl rfl Tryz.func100 (by kernel_rfl) rfl #[.int .u8 ((wrap64 ((wrap64 ((wrap64 (a0)) + (wrap64 (a1)))) + (wrap64 (t138)))) % 256)] rfl (by (try simp only [List.map_toArray,List.map_cons,List.map_nil]);rfl) ?_;(with_reducible refine (ydi.calls ((wrap64 ((wrap64 ((wrap64 (a0)) + (wrap64 (a1)))) + (wrap64 (t138)))) % 256) t139 _ A5.out).mono ?_);rintro e w' ⟨rfl,⟨nd,rfl⟩⟩;refine ⟨_,rfl,?_⟩) | ((with_reducible refine gate_callee (f :=162) rfl ?_);refine goesL_ (some 36) rfl rfl Tryz.func162 (by kernel_rfl) rfl #[.bool (decide ((wrap64 ((wrap64 ((wrap64 (a0)) + (wrap64 (a1)))) + (wrap64 (t138)))) > 255)),.int .u8 1] rfl (by (try simp only [List.map_toArray,List.map_cons,List.map_nil]);rfl) ?_;(with_reducible refine (ycy.calls (decide ((wrap64 ((wrap64 ((wrap64 (a0)) + (wrap64 (a1)))) + (wrap64 (t138)))) > 255)) 1 t140 _ A6.out).mono ?_);rintro e w' ⟨rfl,⟨nd,rfl⟩⟩;refine ⟨_,rfl,?_⟩) | ((with_reducible refine gate_callee (f :=162) rfl ?_);refine goesL_ (some 48) rfl rfl Tryz.func162 (by kernel_rfl) rfl #[.bool (decide ((wrap64 ((wrap64 ((wrap64 (Go.bits .and .u8 a0 15)) + (wrap64 (Go.bits .and .u8 a1 15)))) + (wrap64 (t138)))) > 15)),.int .u8 16] rfl (by (try simp only [List.map_toArray,List.map_cons,List.map_nil]);rfl) ?_;(with_reducible refine (ycy.calls (decide ((wrap64 ((wrap64 ((wrap64 (Go.bits .and .u8 a0 15)) + (wrap64 (Go.bits .and .u8 a1 15)))) + (wrap64 (t138)))) > 15)) 16 t141 _ A7.out).mono ?_);rintro e w' ⟨rfl,⟨nd,rfl⟩⟩;refine ⟨_,rfl,?_⟩) | ((with_reducible refine gate_callee (f :=162) rfl ?_);refine goesL_ (some 56) rfl rfl Tryz.func162 (by kernel_rfl) rfl #[.bool true,.int .u8 4] rfl (by (try simp only [List.map_toArray,List.map_cons,List.map_nil]);rfl) ?_;(with_reducible refine (ycy.calls true 4 t142 _ A9.out).mono ?_);rintro e w' ⟨rfl,⟨nd,rfl⟩⟩;refine ⟨_,rfl,?_⟩))
  go_ret2
  exact ⟨by rfl,by repeat (first | exact Drawn0.refl _ | apply Drawn0.step)⟩
 ·rw [if_neg c8] at H
  have c8b0 : decide ((wrap64 ((wrap64 ((wrap64 (IntKind.i8.wrap (a0))) + (wrap64 (IntKind.i8.wrap (a1))))) + (wrap64 (t138)))) < (-128)) = false :=decide_eq_false c8
  clear c8
  replace H :=Option.bind_eq_some_iff.mp H
  obtain ⟨t143,A100,H⟩ :=H
  replace H : (some ((wrap64 ((wrap64 ((wrap64 (a0)) + (wrap64 (a1)))) + (wrap64 (t138)))) % 256,Go.bits .or .u8 (Go.bits .or .u8 (Go.bits .or .u8 t139 t140) t141) t143)) = some (r1,r2) :=H
  have A10 :=Aside0.mk A100
  clear A100
  simp only [Option.some.injEq,Prod.mk.injEq] at H
  obtain ⟨rfl,rfl⟩ :=H
  go_enter Tryz.func160,Tryz.ntmps160
  go_wp2_with (first | ((with_reducible refine gate_callee (f :=162) rfl ?_);refine goesL_ (some 12) rfl rfl Tryz.func162 (by kernel_rfl) rfl #[.bool a2,.int .u8 1] rfl (by (try simp only [List.map_toArray,List.map_cons,List.map_nil]);rfl) ?_;(with_reducible refine (ycy.calls a2 1 t138 _ A4.out).mono ?_);rintro e w' ⟨rfl,⟨nd,rfl⟩⟩;refine ⟨_,rfl,?_⟩) | ((with_reducible refine gate_callee (f :=100) rfl ?_);refine goesL_ (some 33) rfl rfl Tryz.func100 (by kernel_rfl) rfl #[.int .u8 ((wrap64 ((wrap64 ((wrap64 (a0)) + (wrap64 (a1)))) + (wrap64 (t138)))) % 256)] rfl (by (try simp only [List.map_toArray,List.map_cons,List.map_nil]);rfl) ?_;(with_reducible refine (ydi.calls ((wrap64 ((wrap64 ((wrap64 (a0)) + (wrap64 (a1)))) + (wrap64 (t138)))) % 256) t139 _ A5.out).mono ?_);rintro e w' ⟨rfl,⟨nd,rfl⟩⟩;refine ⟨_,rfl,?_⟩) | ((with_reducible refine gate_callee (f :=162) rfl ?_);refine goesL_ (some 36) rfl rfl Tryz.func162 (by kernel_rfl) rfl #[.bool (decide ((wrap64 ((wrap64 ((wrap64 (a0)) + (wrap64 (a1)))) + (wrap64 (t138)))) > 255)),.int .u8 1] rfl (by (try simp only [List.map_toArray,List.map_cons,List.map_nil]);rfl) ?_;(with_reducible refine (ycy.calls (decide ((wrap64 ((wrap64 ((wrap64 (a0)) + (wrap64 (a1)))) + (wrap64 (t138)))) > 255)) 1 t140 _ A6.out).mono ?_);rintro e w' ⟨rfl,⟨nd,rfl⟩⟩;refine ⟨_,rfl,?_⟩) | ((with_reducible refine gate_callee (f :=162) rfl ?_);refine goesL_ (some 48) rfl rfl Tryz.func162 (by kernel_rfl) rfl #[.bool (decide ((wrap64 ((wrap64 ((wrap64 (Go.bits .and .u8 a0 15)) + (wrap64 (Go.bits .and .u8 a1 15)))) + (wrap64 (t138)))) > 15)),.int .u8 16] rfl (by (try simp only [List.map_toArray,List.map_cons,List.map_nil]);rfl) ?_;(with_reducible refine (ycy.calls (decide ((wrap64 ((wrap64 ((wrap64 (Go.bits .and .u8 a0 15)) + (wrap64 (Go.bits .and .u8 a1 15)))) + (wrap64 (t138)))) > 15)) 16 t141 _ A7.out).mono ?_);rintro e w' ⟨rfl,⟨nd,rfl⟩⟩;refine ⟨_,rfl,?_⟩) | ((with_reducible refine gate_callee (f :=162) rfl ?_);refine goesL_ (some 56) rfl rfl Tryz.func162 (by kernel_rfl) rfl #[.bool (decide ((wrap64 ((wrap64 ((wrap64 (IntKind.i8.wrap (a0))) + (wrap64 (IntKind.i8.wrap (a1))))) + (wrap64 (t138)))) > 127)),.int .u8 4] rfl (by (try simp only [List.map_toArray,List.map_cons,List.map_nil]);rfl) ?_;(with_reducible refine (ycy.calls (decide ((wrap64 ((wrap64 ((wrap64 (IntKind.i8.wrap (a0))) + (wrap64 (IntKind.i8.wrap (a1))))) + (wrap64 (t138)))) > 127)) 4 t143 _ A10.out).mono ?_);rintro e w' ⟨rfl,⟨nd,rfl⟩⟩;refine ⟨_,rfl,?_⟩))
  go_ret2
  exact ⟨by rfl,by repeat (first | exact Drawn0.refl _ | apply Drawn0.step)⟩

/-! ### alu_Inc: function 128 -/
def alu_Inc.f (a0 : Int) (a1 : Int) : Option (Int × Int) :=(alu_Add.f a0 1 false).bind fun bt144 => (some (bt144.1,Go.bits .or .u8 (Go.bits .andNot .u8 bt144.2 1) (Go.bits .and .u8 a1 1)))
theorem alu_Inc.calls (a0 : Int) (a1 : Int) (r1 : Int) (r2 : Int) (w : World) (h : alu_Inc.f a0 a1 = some (r1,r2)) :
  Calls Tryz.prog 128 #[.int .u8 a0,.int .u8 a1] w fun e w' => e = .returned (.tuple #[.int .u8 r1,.int .u8 r2]) ∧ Drawn0 w w' :=by
 have H : ((alu_Add.f a0 1 false).bind fun bt144 => (some (bt144.1,Go.bits .or .u8 (Go.bits .andNot .u8 bt144.2 1) (Go.bits .and .u8 a1 1)))) = some (r1,r2) :=h
 clear h
 replace H :=Option.bind_eq_some_iff.mp H
 obtain ⟨⟨t144,t145⟩,A30,H⟩ :=H
 replace H : (some (t144,Go.bits .or .u8 (Go.bits .andNot .u8 t145 1) (Go.bits .and .u8 a1 1))) = some (r1,r2) :=H
 have A3 :=Aside0.mk A30
 clear A30
 simp only [Option.some.injEq,Prod.mk.injEq] at H
 obtain ⟨rfl,rfl⟩ :=H
 go_enter Tryz.func128,Tryz.ntmps128
 go_wp2_with (((with_reducible refine gate_callee (f :=160) rfl ?_);refine goesL_ (some 8) rfl rfl Tryz.func160 (by kernel_rfl) rfl #[.int .u8 a0,.int .u8 1,.bool false] rfl (by (try simp only [List.map_toArray,List.map_cons,List.map_nil]);rfl) ?_;(with_reducible refine (alu_Add.calls a0 1 false t144 t145 _ A3.out).mono ?_);rintro e w' ⟨rfl,⟨nd,rfl⟩⟩;refine ⟨_,rfl,?_⟩))
 go_ret2
 exact ⟨by rfl,by repeat (first | exact Drawn0.refl _ | apply Drawn0.step)⟩

/-! ### alu_Dec: function 129 -/
def alu_Dec.f (a0 : Int) (a1 : Int) : Option (Int × Int) :=(ydo.f a0 1 false).bind fun bt146 => (some (bt146.1,Go.bits .or .u8 (Go.bits .andNot .u8 bt146.2 1) (Go.bits .and .u8 a1 1)))
theorem alu_Dec.calls (a0 : Int) (a1 : Int) (r1 : Int) (r2 : Int) (w : World) (h : alu_Dec.f a0 a1 = some (r1,r2)) :
  Calls Tryz.prog 129 #[.int .u8 a0,.int .u8 a1] w fun e w' => e = .returned (.tuple #[.int .u8 r1,.int .u8 r2]) ∧ Drawn0 w w' :=by
 have H : ((ydo.f a0 1 false).bind fun bt146 => (some (bt146.1,Go.bits .or .u8 (Go.bits .andNot .u8 bt146.2 1) (Go.bits .and .u8 a1 1)))) = some (r1,r2) :=h
 clear h
 replace H :=Option.bind_eq_some_iff.mp H
 obtain ⟨⟨t146,t147⟩,A30,H⟩ :=H
 replace H : (some (t146,Go.bits .or .u8 (Go.bits .andNot .u8 t147 1) (Go.bits .and .u8 a1 1))) = some (r1,r2) :=H
 have A3 :=Aside0.mk A30
 clear A30
 simp only [Option.some.injEq,Prod.mk.injEq] at H
 obtain ⟨rfl,rfl⟩ :=H
 go_enter Tryz.func129,Tryz.ntmps129
 go_wp2_with (((with_reducible refine gate_callee (f :=147) rfl ?_);refine goesL_ (some 8) rfl rfl Tryz.func147 (by kernel_rfl) rfl #[.int .u8 a0,.int .u8 1,.bool false] rfl (by (try simp only [List.map_toArray,List.map_cons,List.map_nil]);rfl) ?_;(with_reducible refine (ydo.calls a0 1 false t146 t147 _ A3.out).mono ?_);rintro e w' ⟨rfl,⟨nd,rfl⟩⟩;refine ⟨_,rfl,?_⟩))
 go_ret2
 exact ⟨by rfl,by repeat (first | exact Drawn0.refl _ | apply Drawn0.step)⟩

/-! ### alu_logic: function 191 -/
def ydl.f (a0 : Int) (a1 : Int) : Option (Int × Int) :=(ydi.f a0).bind fun t148 => ((ydg.f a0).bind fun t149 => ((ycy.f t149 4).bind fun t150 => (some (a0,Go.bits .or .u8 (Go.bits .or .u8 t148 t150) a1))))
theorem ydl.calls (a0 : Int) (a1 : Int) (r1 : Int) (r2 : Int) (w : World) (h : ydl.f a0 a1 = some (r1,r2)) :
  Calls Tryz.prog 191 #[.int .u8 a0,.int .u8 a1] w fun e w' => e = .returned (.tuple #[.int .u8 r1,.int .u8 r2]) ∧ Drawn0 w w' :=by
 have H : ((ydi.f a0).bind fun t148 => ((ydg.f a0).bind fun t149 => ((ycy.f t149 4).bind fun t150 => (some (a0,Go.bits .or .u8 (Go.bits .or .u8 t148 t150) a1))))) = some (r1,r2) :=h
 clear h
 replace H :=Option.bind_eq_some_iff.mp H
 obtain ⟨t148,A30,H⟩ :=H
 replace H : ((ydg.f a0).bind fun t149 => ((ycy.f t149 4).bind fun t150 => (some (a0,Go.bits .or .u8 (Go.bits .or .u8 t148 t150) a1)))) = some (r1,r2) :=H
 have A3 :=Aside0.mk A30
 clear A30
 replace H :=Option.bind_eq_some_iff.mp H
 obtain ⟨t149,A40,H⟩ :=H
 replace H : ((ycy.f t149 4).bind fun t150 => (some (a0,Go.bits .or .u8 (Go.bits .or .u8 t148 t150) a1))) = some (r1,r2) :=H
 have A4 :=Aside0.mk A40
 clear A40
 replace H :=Option.bind_eq_some_iff.mp H
 obtain ⟨t150,A50,H⟩ :=H
 replace H : (some (a0,Go.bits .or .u8 (Go.bits .or .u8 t148 t150) a1)) = some (r1,r2) :=H
 have A5 :=Aside0.mk A50
 clear A50
 simp only [Option.some.injEq,Prod.mk.injEq] at H
 obtain ⟨rfl,rfl⟩ :=H
 go_enter Tryz.func191,Tryz.ntmps191
 go_wp2_with (first | ((with_reducible refine gate_callee (f :=100) rfl ?_);refine goesL_ (some 8) rfl rfl Tryz.func100 (by kernel_rfl) rfl #[.int .u8 a0] rfl (by (try simp only [List.map_toArray,List.map_cons,List.map_nil]);rfl) ?_;(with_reducible refine (ydi.calls a0 t148 _ A3.out).mono ?_);rintro e w' ⟨rfl,⟨nd,rfl⟩⟩;refine ⟨_,rfl,?_⟩) | ((with_reducible refine gate_callee (f :=102) rfl ?_);refine goesL_ (some 10) rfl rfl Tryz.func102 (by kernel_rfl) rfl #[.int .u8 a0] rfl (by (try simp only [List.map_toArray,List.map_cons,List.map_nil]);rfl) ?_;(with_reducible refine (ydg.calls a0 t149 _ A4.out).mono ?_);rintro e w' ⟨rfl,⟨nd,rfl⟩⟩;refine ⟨_,rfl,?_⟩) | ((with_reducible refine gate_callee (f :=162) rfl ?_);refine goesL_ (some 11) rfl rfl Tryz.func162 (by kernel_rfl) rfl #[.bool t149,.int .u8 4] rfl (by (try simp only [List.map_toArray,List.map_cons,List.map_nil]);rfl) ?_;(with_reducible refine (ycy.calls t149 4 t150 _ A5.out).mono ?_);rintro e w' ⟨rfl,⟨nd,rfl⟩⟩;refine ⟨_,rfl,?_⟩))
 go_ret2
 exact ⟨by rfl,by repeat (first | exact Drawn0.refl _ | apply Drawn0.step)⟩

/-! ### alu_And: function 184 -/
def alu_And.f (a0 : Int) (a1 : Int) : Option (Int × Int) :=(ydl.f (Go.bits .and .u8 a0 a1) 16).bind fun bt151 => (some (bt151.1,bt151.2))
theorem alu_And.calls (a0 : Int) (a1 : Int) (r1 : Int) (r2 : Int) (w : World) (h : alu_And.f a0 a1 = some (r1,r2)) :
  Calls Tryz.prog 184 #[.int .u8 a0,.int .u8 a1] w fun e w' => e = .returned (.tuple #[.int .u8 r1,.int .u8 r2]) ∧ Drawn0 w w' :=by
 have H : ((ydl.f (Go.bits .and .u8 a0 a1) 16).bind fun bt151 => (some (bt151.1,bt151.2))) = some (r1,r2) :=h
 clear h
 replace H :=Option.bind_eq_some_iff.mp H
 obtain ⟨⟨t151,t152⟩,A30,H⟩ :=H
 replace H : (some (t151,t152)) = some (r1,r2) :=H
 have A3 :=Aside0.mk A30
 clear A30
 simp only [Option.some.injEq,Prod.mk.injEq] at H
 obtain ⟨rfl,rfl⟩ :=H
 go_enter Tryz.func184,Tryz.ntmps184
 go_wp2_with ((((with_reducible refine gate_callee (f :=191) rfl ?_);refine goesL_ (some 9) rfl rfl Tryz.func191 (by kernel_rfl) rfl #[.int .u8 (Go.bits .and .u8 a0 a1),.int .u8 16] rfl (by (try simp only [List.map_toArray,List.map_cons,List.map_nil]);rfl) ?_;(with_reducible refine (ydl.calls (Go.bits .and .u8 a0 a1) 16 t151 t152 _ A3.out).mono ?_);rintro e w' ⟨rfl,⟨nd,rfl⟩⟩;refine ⟨_,rfl,?_⟩)))
 go_ret2
 exact ⟨by rfl,by repeat (first | exact Drawn0.refl _ | apply Drawn0.step)⟩

/-! ### alu_Or: function 188 -/
def alu_Or.f (a0 : Int) (a1 : Int) : Option (Int × Int) :=(ydl.f (Go.bits .or .u8 a0 a1) 0).bind fun bt153 => (some (bt153.1,bt153.2))
theorem alu_Or.calls (a0 : Int) (a1 : Int) (r1 : Int) (r2 : Int) (w : World) (h : alu_Or.f a0 a1 = some (r1,r2)) :
  Calls Tryz.prog 188 #[.int .u8 a0,.int .u8 a1] w fun e w' => e = .returned (.tuple #[.int .u8 r1,.int .u8 r2]) ∧ Drawn0 w w' :=by
 have H : ((ydl.f (Go.bits .or .u8 a0 a1) 0).bind fun bt153 => (some (bt153.1,bt153.2))) = some (r1,r2) :=h
 clear h
 replace H :=Option.bind_eq_some_iff.mp H
 obtain ⟨⟨t153,t154⟩,A30,H⟩ :=H
 replace H : (some (t153,t154)) = some (r1,r2) :=H
 have A3 :=Aside0.mk A30
 clear A30
 simp only [Option.some.injEq,Prod.mk.injEq] at H
 obtain ⟨rfl,rfl⟩ :=H
 go_enter Tryz.func188,Tryz.ntmps188
 go_wp2_with ((((with_reducible refine gate_callee (f :=191) rfl ?_);refine goesL_ (some 9) rfl rfl Tryz.func191 (by kernel_rfl) rfl #[.int .u8 (Go.bits .or .u8 a0 a1),.int .u8 0] rfl (by (try simp only [List.map_toArray,List.map_cons,List.map_nil]);rfl) ?_;(with_reducible refine (ydl.calls (Go.bits .or .u8 a0 a1) 0 t153 t154 _ A3.out).mono ?_);rintro e w' ⟨rfl,⟨nd,rfl⟩⟩;refine ⟨_,rfl,?_⟩)))
 go_ret2
 exact ⟨by rfl,by repeat (first | exact Drawn0.refl _ | apply Drawn0.step)⟩

/-! ### alu_Xor: function 186 -/
def alu_Xor.f (a0 : Int) (a1 : Int) : Option (Int × Int) :=(ydl.f (Go.bits .xor .u8 a0 a1) 0).bind fun bt155 => (some (bt155.1,bt155.2))
theorem alu_Xor.calls (a0 : Int) (a1 : Int) (r1 : Int) (r2 : Int) (w : World) (h : alu_Xor.f a0 a1 = some (r1,r2)) :
  Calls Tryz.prog 186 #[.int .u8 a0,.int .u8 a1] w fun e w' => e = .returned (.tuple #[.int .u8 r1,.int .u8 r2]) ∧ Drawn0 w w' :=by
 have H : ((ydl.f (Go.bits .xor .u8 a0 a1) 0).bind fun bt155 => (some (bt155.1,bt155.2))) = some (r1,r2) :=h
 clear h
 replace H :=Option.bind_eq_some_iff.mp H
 obtain ⟨⟨t155,t156⟩,A30,H⟩ :=H
 replace H : (some (t155,t156)) = some (r1,r2) :=H
 have A3 :=Aside0.mk A30
 clear A30
 simp only [Option.some.injEq,Prod.mk.injEq] at H
 obtain ⟨rfl,rfl⟩ :=H
 go_enter Tryz.func186,Tryz.ntmps186
 go_wp2_with ((((with_reducible refine gate_callee (f :=191) rfl ?_);refine goesL_ (some 9) rfl rfl Tryz.func191 (by kernel_rfl) rfl #[.int .u8 (Go.bits .xor .u8 a0 a1),.int .u8 0] rfl (by (try simp only [List.map_toArray,List.map_cons,List.map_nil]);rfl) ?_;(with_reducible refine (ydl.calls (Go.bits .xor .u8 a0 a1) 0 t155 t156 _ A3.out).mono ?_);rintro e w' ⟨rfl,⟨nd,rfl⟩⟩;refine ⟨_,rfl,?_⟩)))
 go_ret2
 exact ⟨by rfl,by repeat (first | exact Drawn0.refl _ | apply Drawn0.step)⟩

/-! ### alu_Cp: function 190 -/
def alu_Cp.f (a0 : Int) (a1 : Int) : Option (Int) :=(ydo.f a0 a1 false).bind fun bt157 => (some (Go.bits .or .u8 (Go.bits .andNot .u8 bt157.2 40) (Go.bits .and .u8 a1 40)))
theorem alu_Cp.calls (a0 : Int) (a1 : Int) (r : Int) (w : World) (h : alu_Cp.f a0 a1 = some r) :
  Calls Tryz.prog 190 #[.int .u8 a0,.int .u8 a1] w fun e w' => e = .returned (.int .u8 r) ∧ Drawn0 w w' :=by
 have H : ((ydo.f a0 a1 false).bind fun bt157 => (some (Go.bits .or .u8 (Go.bits .andNot .u8 bt157.2 40) (Go.bits .and .u8 a1 40)))) = some r :=h
 clear h
 replace H :=Option.bind_eq_some_iff.mp H
 obtain ⟨⟨t157,t158⟩,A30,H⟩ :=H
 replace H : (some (Go.bits .or .u8 (Go.bits .andNot .u8 t158 40) (Go.bits .and .u8 a1 40))) = some r :=H
 have A3 :=Aside0.mk A30
 clear A30
 obtain rfl :=Option.some.inj H
 go_enter Tryz.func190,Tryz.ntmps190
 go_wp2_with (((with_reducible refine gate_callee (f :=147) rfl ?_);refine goesL_ (some 8) rfl rfl Tryz.func147 (by kernel_rfl) rfl #[.int .u8 a0,.int .u8 a1,.bool false] rfl (by (try simp only [List.map_toArray,List.map_cons,List.map_nil]);rfl) ?_;(with_reducible refine (ydo.calls a0 a1 false t157 t158 _ A3.out).mono ?_);rintro e w' ⟨rfl,⟨nd,rfl⟩⟩;refine ⟨_,rfl,?_⟩))
 go_ret
 exact ⟨by rfl,by repeat (first | exact Drawn0.refl _ | apply Drawn0.step)⟩

end Go.Proofs.YtnelghpendfdmaaGreatDoor.HFun
