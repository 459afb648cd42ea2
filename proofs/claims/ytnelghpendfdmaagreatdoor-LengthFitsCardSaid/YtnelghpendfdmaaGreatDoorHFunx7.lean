-- Written by a program of this session out of Lean's print of the program (after the form of the kit's print.sh, with own turns); Lean checks it.
import Derived.Test.YtnelghpendfdmaaGreatDoorHFunx6
namespace Go.Proofs.YtnelghpendfdmaaGreatDoor.HFun
open Go.RowKit Go.Proofs.YtnelghpendfdmaaGreatDoorW.PrintWords Go.Proofs.YtnelghpendfdmaaGreatDoorW.PrintLast Go.Proofs.YtnelghpendfdmaaGreatDoorW.PrintMore
attribute [local go_sem] max2_int min2_int max_two min_two max_three min_three max_four min_four   -- for this text's walks alone
set_option linter.unusedVariables false
set_option linter.unusedSimpArgs false

/-! ### decode_Check: function 46 -/
mutual
def yci.j0 : Nat → Int → Bool → Int → Int → Int → Int → Int → Int → Option (Int)
 | 0,_,_,_,_,_,_,_,_ => none
 | k + 1,x4,x53,x201000,x201001,x201002,x201003,x201004,x201005 => if x53 = true then (some 2) else (if x4 = 2 then (if x201004 < 0 then (some 2) else (if x201004 > 65535 then (some 2) else (some 0))) else (if x4 = 1 then ((ydd.f x201002).bind fun t205 => (yci.j1 k x4 0 0 t205 x201000 x201001 x201002 x201003 x201004 x201005)) else (yci.j1 k x4 0 0 false x201000 x201001 x201002 x201003 x201004 x201005)))
def yci.j1 : Nat → Int → Int → Int → Bool → Int → Int → Int → Int → Int → Int → Option (Int)
 | 0,_,_,_,_,_,_,_,_,_,_ => none
 | k + 1,x4,x5,x6,x57,x201000,x201001,x201002,x201003,x201004,x201005 => if x57 = true then (if x201004 < (-128) then (some 2) else (if x201004 > 127 then (some 2) else (some 0))) else (if x4 = 1 then (if x201004 < x5 then (some 2) else (if x201004 > 255 then (some 2) else (some 0))) else (if x201004 < x5 then (some 2) else (if x201004 > x6 then (some 2) else (some 0))))
end
def yci.f (k : Nat) (a0_0 : Int) (a0_1 : Int) (a0_2 : Int) (a0_3 : Int) (a0_4 : Int) (a0_5 : Int) : Option (Int) :=(ycm.f k a0_0 a0_1 a0_2).bind fun t201 => (if t201 = true then ((ycw.f k a0_0 a0_1 a0_2).bind fun bt202 => ((ycq.f k a0_0 a0_1 a0_2).bind fun t204 => (if a0_5 = t204 then (if bt202.1 = true then (if a0_3 < (-128) then (yci.j0 k bt202.2 true a0_0 a0_1 a0_2 a0_3 a0_4 a0_5) else (yci.j0 k bt202.2 (decide (a0_3 > 127)) a0_0 a0_1 a0_2 a0_3 a0_4 a0_5)) else (if a0_3 = 0 then (if a0_3 < (-128) then (yci.j0 k bt202.2 true a0_0 a0_1 a0_2 a0_3 a0_4 a0_5) else (yci.j0 k bt202.2 (decide (a0_3 > 127)) a0_0 a0_1 a0_2 a0_3 a0_4 a0_5)) else (yci.j0 k bt202.2 true a0_0 a0_1 a0_2 a0_3 a0_4 a0_5))) else (yci.j0 k bt202.2 true a0_0 a0_1 a0_2 a0_3 a0_4 a0_5)))) else (some 2))
theorem yci.mono_l : ∀ k,(∀ y0 y1 y2 y3 y4 y5 y6 y7,LeO (yci.j0 k y0 y1 y2 y3 y4 y5 y6 y7) (yci.j0 (k + 1) y0 y1 y2 y3 y4 y5 y6 y7)) ∧ (∀ y0 y1 y2 y3 y4 y5 y6 y7 y8 y9,LeO (yci.j1 k y0 y1 y2 y3 y4 y5 y6 y7 y8 y9) (yci.j1 (k + 1) y0 y1 y2 y3 y4 y5 y6 y7 y8 y9))
 | 0 => ⟨fun _ _ _ _ _ _ _ _ r h => by simp [yci.j0] at h,fun _ _ _ _ _ _ _ _ _ _ r h => by simp [yci.j1] at h⟩
 | k + 1 => by
  obtain ⟨ih0,ih1⟩ :=yci.mono_l k
  refine ⟨?_,?_⟩
  ·intro y0 y1 y2 y3 y4 y5 y6 y7
   unfold yci.j0
   repeat' first
   | (with_reducible exact ih0 _ _ _ _ _ _ _ _)
   | (with_reducible exact ih1 _ _ _ _ _ _ _ _ _ _)
   | (with_reducible exact ycw.mono _ _ _ _)
   | (with_reducible exact ycq.mono _ _ _ _)
   | (with_reducible exact ycm.mono _ _ _ _)
   | (with_reducible exact LeO.refl _)
   | (with_reducible exact LeO.none _)
   | (with_reducible refine LeO.ite ?_ ?_)
   | (with_reducible refine LeO.bind ?_ (fun _ => ?_))
   | exact ih0 _ _ _ _ _ _ _ _
   | exact ih1 _ _ _ _ _ _ _ _ _ _
   | exact ycw.mono _ _ _ _
   | exact ycq.mono _ _ _ _
   | exact ycm.mono _ _ _ _
   | exact LeO.none _
   | refine LeO.ite ?_ ?_
   | refine LeO.bind ?_ (fun _ => ?_)
  ·intro y0 y1 y2 y3 y4 y5 y6 y7 y8 y9
   unfold yci.j1
   repeat' first
   | (with_reducible exact ih0 _ _ _ _ _ _ _ _)
   | (with_reducible exact ih1 _ _ _ _ _ _ _ _ _ _)
   | (with_reducible exact ycw.mono _ _ _ _)
   | (with_reducible exact ycq.mono _ _ _ _)
   | (with_reducible exact ycm.mono _ _ _ _)
   | (with_reducible exact LeO.refl _)
   | (with_reducible exact LeO.none _)
   | (with_reducible refine LeO.ite ?_ ?_)
   | (with_reducible refine LeO.bind ?_ (fun _ => ?_))
   | exact ih0 _ _ _ _ _ _ _ _
   | exact ih1 _ _ _ _ _ _ _ _ _ _
   | exact ycw.mono _ _ _ _
   | exact ycq.mono _ _ _ _
   | exact ycm.mono _ _ _ _
   | exact LeO.none _
   | refine LeO.ite ?_ ?_
   | refine LeO.bind ?_ (fun _ => ?_)
theorem yci.mono : ∀ a0 a1 a2 a3 a4 a5 k,LeO (yci.f k a0 a1 a2 a3 a4 a5) (yci.f (k + 1) a0 a1 a2 a3 a4 a5) :=by
 intro a0 a1 a2 a3 a4 a5 k
 obtain ⟨ih0,ih1⟩ :=yci.mono_l k
 unfold yci.f
 repeat' first
   | (with_reducible exact ih0 _ _ _ _ _ _ _ _)
   | (with_reducible exact ih1 _ _ _ _ _ _ _ _ _ _)
   | (with_reducible exact ycw.mono _ _ _ _)
   | (with_reducible exact ycq.mono _ _ _ _)
   | (with_reducible exact ycm.mono _ _ _ _)
   | (with_reducible exact LeO.refl _)
   | (with_reducible exact LeO.none _)
   | (with_reducible refine LeO.ite ?_ ?_)
   | (with_reducible refine LeO.bind ?_ (fun _ => ?_))
   | exact ih0 _ _ _ _ _ _ _ _
   | exact ih1 _ _ _ _ _ _ _ _ _ _
   | exact ycw.mono _ _ _ _
   | exact ycq.mono _ _ _ _
   | exact ycm.mono _ _ _ _
   | exact LeO.none _
   | refine LeO.ite ?_ ?_
   | refine LeO.bind ?_ (fun _ => ?_)
set_option maxHeartbeats 8000000 in
set_option maxRecDepth 100000 in
theorem yci.calls (k : Nat) (a0_0 : Int) (a0_1 : Int) (a0_2 : Int) (a0_3 : Int) (a0_4 : Int) (a0_5 : Int) (r : Int) (w : World) (h : yci.f k a0_0 a0_1 a0_2 a0_3 a0_4 a0_5 = some r) :
  Calls Tryz.prog 46 #[.agg #[.int .i64 a0_0,.int .i64 a0_1,.int .i64 a0_2,.int .i64 a0_3,.int .i64 a0_4,.int .i64 a0_5]] w fun e w' => e = .returned (.int .i64 r) ∧ Below w.heap.size w w' :=by
 have hu28 :=Tryz.underlying28
 have HB :=Aside0.mk (Below.refl w.heap.size w)
 have H : ((ycm.f k a0_0 a0_1 a0_2).bind fun t201 => (if t201 = true then ((ycw.f k a0_0 a0_1 a0_2).bind fun bt202 => ((ycq.f k a0_0 a0_1 a0_2).bind fun t204 => (if a0_5 = t204 then (if bt202.1 = true then (if a0_3 < (-128) then (yci.j0 k bt202.2 true a0_0 a0_1 a0_2 a0_3 a0_4 a0_5) else (yci.j0 k bt202.2 (decide (a0_3 > 127)) a0_0 a0_1 a0_2 a0_3 a0_4 a0_5)) else (if a0_3 = 0 then (if a0_3 < (-128) then (yci.j0 k bt202.2 true a0_0 a0_1 a0_2 a0_3 a0_4 a0_5) else (yci.j0 k bt202.2 (decide (a0_3 > 127)) a0_0 a0_1 a0_2 a0_3 a0_4 a0_5)) else (yci.j0 k bt202.2 true a0_0 a0_1 a0_2 a0_3 a0_4 a0_5))) else (yci.j0 k bt202.2 true a0_0 a0_1 a0_2 a0_3 a0_4 a0_5)))) else (some 2))) = some r :=h
 clear h
 replace H :=Option.bind_eq_some_iff.mp H
 obtain ⟨t201,A20,H⟩ :=H
 replace H : (if t201 = true then ((ycw.f k a0_0 a0_1 a0_2).bind fun bt202 => ((ycq.f k a0_0 a0_1 a0_2).bind fun t204 => (if a0_5 = t204 then (if bt202.1 = true then (if a0_3 < (-128) then (yci.j0 k bt202.2 true a0_0 a0_1 a0_2 a0_3 a0_4 a0_5) else (yci.j0 k bt202.2 (decide (a0_3 > 127)) a0_0 a0_1 a0_2 a0_3 a0_4 a0_5)) else (if a0_3 = 0 then (if a0_3 < (-128) then (yci.j0 k bt202.2 true a0_0 a0_1 a0_2 a0_3 a0_4 a0_5) else (yci.j0 k bt202.2 (decide (a0_3 > 127)) a0_0 a0_1 a0_2 a0_3 a0_4 a0_5)) else (yci.j0 k bt202.2 true a0_0 a0_1 a0_2 a0_3 a0_4 a0_5))) else (yci.j0 k bt202.2 true a0_0 a0_1 a0_2 a0_3 a0_4 a0_5)))) else (some 2)) = some r :=H
 have A2 :=Aside0.mk A20
 clear A20
 by_cases c3 : t201 = true
 ·subst c3
  have H1 : ((ycw.f k a0_0 a0_1 a0_2).bind fun bt202 => ((ycq.f k a0_0 a0_1 a0_2).bind fun t204 => (if a0_5 = t204 then (if bt202.1 = true then (if a0_3 < (-128) then (yci.j0 k bt202.2 true a0_0 a0_1 a0_2 a0_3 a0_4 a0_5) else (yci.j0 k bt202.2 (decide (a0_3 > 127)) a0_0 a0_1 a0_2 a0_3 a0_4 a0_5)) else (if a0_3 = 0 then (if a0_3 < (-128) then (yci.j0 k bt202.2 true a0_0 a0_1 a0_2 a0_3 a0_4 a0_5) else (yci.j0 k bt202.2 (decide (a0_3 > 127)) a0_0 a0_1 a0_2 a0_3 a0_4 a0_5)) else (yci.j0 k bt202.2 true a0_0 a0_1 a0_2 a0_3 a0_4 a0_5))) else (yci.j0 k bt202.2 true a0_0 a0_1 a0_2 a0_3 a0_4 a0_5)))) = some r :=by rw [if_pos rfl] at H;exact H
  clear H
  have H :=H1
  clear H1
  replace H :=Option.bind_eq_some_iff.mp H
  obtain ⟨⟨t202,t203⟩,A40,H⟩ :=H
  replace H : ((ycq.f k a0_0 a0_1 a0_2).bind fun t204 => (if a0_5 = t204 then (if t202 = true then (if a0_3 < (-128) then (yci.j0 k t203 true a0_0 a0_1 a0_2 a0_3 a0_4 a0_5) else (yci.j0 k t203 (decide (a0_3 > 127)) a0_0 a0_1 a0_2 a0_3 a0_4 a0_5)) else (if a0_3 = 0 then (if a0_3 < (-128) then (yci.j0 k t203 true a0_0 a0_1 a0_2 a0_3 a0_4 a0_5) else (yci.j0 k t203 (decide (a0_3 > 127)) a0_0 a0_1 a0_2 a0_3 a0_4 a0_5)) else (yci.j0 k t203 true a0_0 a0_1 a0_2 a0_3 a0_4 a0_5))) else (yci.j0 k t203 true a0_0 a0_1 a0_2 a0_3 a0_4 a0_5))) = some r :=H
  have A4 :=Aside0.mk A40
  clear A40
  have HC5 :=Aside0.mk H
  clear H
  go_enter Tryz.func46,Tryz.ntmps46
  go_upto_region 4 with (first | ((with_reducible refine gate_dst (N :=1) rfl ?_);refine box_event ?hg (N :=1) ?hd (cs :=#[.int .i64 a0_0,.int .i64 a0_1,.int .i64 a0_2,.int .i64 a0_3,.int .i64 a0_4,.int .i64 a0_5]) (t :=28) ?hr ?_;(case hd => rfl);(case hg => rfl);(case hr => (go_simp;done));intro gb200 hg w6 hbox hb;have n0_ :=Aside0.mk (below_step (by repeat ((with_reducible exact HB.out))) hb);have n1_ :=Aside0.mk (hbox);have n2_ :=Aside0.mk ((by rw [hg];exact (below_size (by repeat ((with_reducible exact HB.out)))) : w.heap.size ≤ gb200));have n3_ :=Aside0.mk ((by rw [hg];exact (below_size (by repeat ((with_reducible exact HB.out)))) : w.heap.size ≤ gb200));clear HB;have HB :=n0_;have BK200 :=n1_;have GW200 :=n2_;have GE200 :=n3_;clear n0_ n1_ n2_ n3_;clear hb hbox hg;have hcz7_0 : w6.cell? ⟨gb200,0,none⟩ = some (.int .i64 a0_0) :=(blk_cell BK200.out 0).trans rfl;have hcz7_1 : w6.cell? ⟨gb200,1,none⟩ = some (.int .i64 a0_1) :=(blk_cell BK200.out 1).trans rfl;have hcz7_2 : w6.cell? ⟨gb200,2,none⟩ = some (.int .i64 a0_2) :=(blk_cell BK200.out 2).trans rfl;have hcz7_3 : w6.cell? ⟨gb200,3,none⟩ = some (.int .i64 a0_3) :=(blk_cell BK200.out 3).trans rfl;have hcz7_4 : w6.cell? ⟨gb200,4,none⟩ = some (.int .i64 a0_4) :=(blk_cell BK200.out 4).trans rfl;have hcz7_5 : w6.cell? ⟨gb200,5,none⟩ = some (.int .i64 a0_5) :=(blk_cell BK200.out 5).trans rfl;have hfz7_0 :=blk_frozen BK200.out 0;have hfz7_1 :=blk_frozen BK200.out 1;have hfz7_2 :=blk_frozen BK200.out 2;have hfz7_3 :=blk_frozen BK200.out 3;have hfz7_4 :=blk_frozen BK200.out 4;have hfz7_5 :=blk_frozen BK200.out 5) | (go_at_call 60;(with_reducible refine (ycm.calls k a0_0 a0_1 a0_2 true _ A2.out).mono ?_);rintro e w' ⟨rfl,⟨nd,rfl⟩⟩;(try fail)) | (go_at_call 57;(with_reducible refine (ycw.calls k a0_0 a0_1 a0_2 t202 t203 _ A4.out).mono ?_);rintro e w' ⟨rfl,⟨nd,rfl⟩⟩;(try fail)))
  repeat (go_quiet (fail);go_upto_region 4 with (fail))
  (try simp only [Act.put,List.setIfInBounds_toArray,List.set_cons_zero,List.set_cons_succ])
  go_cut [53] (fun v53 wc => ∃ (kq : Nat) (x53_4 : Bool),v53 = .bool x53_4 ∧ Aside0 (yci.j0 kq t203 x53_4 a0_0 a0_1 a0_2 a0_3 a0_4 a0_5 = some r) ∧ Aside0 (kq ≤ k) ∧ Aside0 (wc.heap[gb200]? = some (.cells #[.int .i64 a0_0,.int .i64 a0_1,.int .i64 a0_2,.int .i64 a0_3,.int .i64 a0_4,.int .i64 a0_5] 28 (0,0))) ∧ Aside0 (Below w.heap.size w wc))
  case first =>
   have H :=HC5.out
   clear HC5
   replace H :=Option.bind_eq_some_iff.mp H
   obtain ⟨t204,A80,H⟩ :=H
   replace H : (if a0_5 = t204 then (if t202 = true then (if a0_3 < (-128) then (yci.j0 k t203 true a0_0 a0_1 a0_2 a0_3 a0_4 a0_5) else (yci.j0 k t203 (decide (a0_3 > 127)) a0_0 a0_1 a0_2 a0_3 a0_4 a0_5)) else (if a0_3 = 0 then (if a0_3 < (-128) then (yci.j0 k t203 true a0_0 a0_1 a0_2 a0_3 a0_4 a0_5) else (yci.j0 k t203 (decide (a0_3 > 127)) a0_0 a0_1 a0_2 a0_3 a0_4 a0_5)) else (yci.j0 k t203 true a0_0 a0_1 a0_2 a0_3 a0_4 a0_5))) else (yci.j0 k t203 true a0_0 a0_1 a0_2 a0_3 a0_4 a0_5)) = some r :=H
   have A8 :=Aside0.mk A80
   clear A80
   by_cases c9 : a0_5 = t204
   ·obtain ⟨H,c9b0,c9b1⟩ :=ipos c9 H;clear c9
    (skip)
    by_cases c10 : t202 = true
    ·subst c10
     have H1 : (if a0_3 < (-128) then (yci.j0 k t203 true a0_0 a0_1 a0_2 a0_3 a0_4 a0_5) else (yci.j0 k t203 (decide (a0_3 > 127)) a0_0 a0_1 a0_2 a0_3 a0_4 a0_5)) = some r :=by rw [if_pos rfl] at H;exact H
     clear H
     have H :=H1
     clear H1
     by_cases c11 : a0_3 < (-128)
     ·rw [if_pos c11] at H
      have c11b0 : decide (a0_3 < (-128)) = true :=decide_eq_true c11
      clear c11
      have H' :=Aside0.mk H
      clear H
      have hcz12_0 : w6.cell? ⟨gb200,0,none⟩ = some (.int .i64 a0_0) :=(blk_cell BK200.out 0).trans rfl
      have hcz12_1 : w6.cell? ⟨gb200,1,none⟩ = some (.int .i64 a0_1) :=(blk_cell BK200.out 1).trans rfl
      have hcz12_2 : w6.cell? ⟨gb200,2,none⟩ = some (.int .i64 a0_2) :=(blk_cell BK200.out 2).trans rfl
      have hcz12_3 : w6.cell? ⟨gb200,3,none⟩ = some (.int .i64 a0_3) :=(blk_cell BK200.out 3).trans rfl
      have hcz12_4 : w6.cell? ⟨gb200,4,none⟩ = some (.int .i64 a0_4) :=(blk_cell BK200.out 4).trans rfl
      have hcz12_5 : w6.cell? ⟨gb200,5,none⟩ = some (.int .i64 a0_5) :=(blk_cell BK200.out 5).trans rfl
      have hfz12_0 :=blk_frozen BK200.out 0
      have hfz12_1 :=blk_frozen BK200.out 1
      have hfz12_2 :=blk_frozen BK200.out 2
      have hfz12_3 :=blk_frozen BK200.out 3
      have hfz12_4 :=blk_frozen BK200.out 4
      have hfz12_5 :=blk_frozen BK200.out 5
      go_wp2_with (fail)
      repeat (go_quiet (((go_at_call 58;(with_reducible refine (ycq.calls k a0_0 a0_1 a0_2 t204 _ A8.out).mono ?_);rintro e w' ⟨rfl,⟨nd,rfl⟩⟩;(try exact ⟨rfl,_,Eq.trans (World.drewN_drewN _ _ _) (congrArg (World.drewN _) (Nat.add_assoc _ _ _))⟩))));try go_wp2_with (fail))
      go_meet
      case rel => exact ⟨_,(true),(by rfl),H',⟨by omega⟩,⟨by (with_reducible repeat (refine blk_drewN ?_ _));exact BK200.out⟩,⟨by repeat ((with_reducible first | exact HB.out | apply pw_below_drewN))⟩⟩
     ·rw [if_neg c11] at H
      have c11b0 : decide (a0_3 < (-128)) = false :=decide_eq_false c11
      clear c11
      have H' :=Aside0.mk H
      clear H
      have hcz13_0 : w6.cell? ⟨gb200,0,none⟩ = some (.int .i64 a0_0) :=(blk_cell BK200.out 0).trans rfl
      have hcz13_1 : w6.cell? ⟨gb200,1,none⟩ = some (.int .i64 a0_1) :=(blk_cell BK200.out 1).trans rfl
      have hcz13_2 : w6.cell? ⟨gb200,2,none⟩ = some (.int .i64 a0_2) :=(blk_cell BK200.out 2).trans rfl
      have hcz13_3 : w6.cell? ⟨gb200,3,none⟩ = some (.int .i64 a0_3) :=(blk_cell BK200.out 3).trans rfl
      have hcz13_4 : w6.cell? ⟨gb200,4,none⟩ = some (.int .i64 a0_4) :=(blk_cell BK200.out 4).trans rfl
      have hcz13_5 : w6.cell? ⟨gb200,5,none⟩ = some (.int .i64 a0_5) :=(blk_cell BK200.out 5).trans rfl
      have hfz13_0 :=blk_frozen BK200.out 0
      have hfz13_1 :=blk_frozen BK200.out 1
      have hfz13_2 :=blk_frozen BK200.out 2
      have hfz13_3 :=blk_frozen BK200.out 3
      have hfz13_4 :=blk_frozen BK200.out 4
      have hfz13_5 :=blk_frozen BK200.out 5
      go_wp2_with (fail)
      repeat (go_quiet (((go_at_call 58;(with_reducible refine (ycq.calls k a0_0 a0_1 a0_2 t204 _ A8.out).mono ?_);rintro e w' ⟨rfl,⟨nd,rfl⟩⟩;(try exact ⟨rfl,_,Eq.trans (World.drewN_drewN _ _ _) (congrArg (World.drewN _) (Nat.add_assoc _ _ _))⟩))));try go_wp2_with (fail))
      go_meet
      case rel => exact ⟨_,(decide (a0_3 > 127)),(by rfl),H',⟨by omega⟩,⟨by (with_reducible repeat (refine blk_drewN ?_ _));exact BK200.out⟩,⟨by repeat ((with_reducible first | exact HB.out | apply pw_below_drewN))⟩⟩
    ·replace c10 :=Bool.eq_false_iff.mpr c10
     subst c10
     have H1 : (if a0_3 = 0 then (if a0_3 < (-128) then (yci.j0 k t203 true a0_0 a0_1 a0_2 a0_3 a0_4 a0_5) else (yci.j0 k t203 (decide (a0_3 > 127)) a0_0 a0_1 a0_2 a0_3 a0_4 a0_5)) else (yci.j0 k t203 true a0_0 a0_1 a0_2 a0_3 a0_4 a0_5)) = some r :=by rw [if_neg (show ¬ (false = true) by decide)] at H;exact H
     clear H
     have H :=H1
     clear H1
     by_cases c14 : a0_3 = 0
     ·obtain ⟨H,c14b0,c14b1⟩ :=ipos c14 H;clear c14
      by_cases c15 : a0_3 < (-128)
      ·rw [if_pos c15] at H
       have c15b0 : decide (a0_3 < (-128)) = true :=decide_eq_true c15
       clear c15
       have H' :=Aside0.mk H
       clear H
       have hcz16_0 : w6.cell? ⟨gb200,0,none⟩ = some (.int .i64 a0_0) :=(blk_cell BK200.out 0).trans rfl
       have hcz16_1 : w6.cell? ⟨gb200,1,none⟩ = some (.int .i64 a0_1) :=(blk_cell BK200.out 1).trans rfl
       have hcz16_2 : w6.cell? ⟨gb200,2,none⟩ = some (.int .i64 a0_2) :=(blk_cell BK200.out 2).trans rfl
       have hcz16_3 : w6.cell? ⟨gb200,3,none⟩ = some (.int .i64 a0_3) :=(blk_cell BK200.out 3).trans rfl
       have hcz16_4 : w6.cell? ⟨gb200,4,none⟩ = some (.int .i64 a0_4) :=(blk_cell BK200.out 4).trans rfl
       have hcz16_5 : w6.cell? ⟨gb200,5,none⟩ = some (.int .i64 a0_5) :=(blk_cell BK200.out 5).trans rfl
       have hfz16_0 :=blk_frozen BK200.out 0
       have hfz16_1 :=blk_frozen BK200.out 1
       have hfz16_2 :=blk_frozen BK200.out 2
       have hfz16_3 :=blk_frozen BK200.out 3
       have hfz16_4 :=blk_frozen BK200.out 4
       have hfz16_5 :=blk_frozen BK200.out 5
       go_wp2_with (fail)
       repeat (go_quiet (((go_at_call 58;(with_reducible refine (ycq.calls k a0_0 a0_1 a0_2 t204 _ A8.out).mono ?_);rintro e w' ⟨rfl,⟨nd,rfl⟩⟩;(try exact ⟨rfl,_,Eq.trans (World.drewN_drewN _ _ _) (congrArg (World.drewN _) (Nat.add_assoc _ _ _))⟩))));try go_wp2_with (fail))
       go_meet
       case rel => exact ⟨_,(true),(by rfl),H',⟨by omega⟩,⟨by (with_reducible repeat (refine blk_drewN ?_ _));exact BK200.out⟩,⟨by repeat ((with_reducible first | exact HB.out | apply pw_below_drewN))⟩⟩
      ·rw [if_neg c15] at H
       have c15b0 : decide (a0_3 < (-128)) = false :=decide_eq_false c15
       clear c15
       have H' :=Aside0.mk H
       clear H
       have hcz17_0 : w6.cell? ⟨gb200,0,none⟩ = some (.int .i64 a0_0) :=(blk_cell BK200.out 0).trans rfl
       have hcz17_1 : w6.cell? ⟨gb200,1,none⟩ = some (.int .i64 a0_1) :=(blk_cell BK200.out 1).trans rfl
       have hcz17_2 : w6.cell? ⟨gb200,2,none⟩ = some (.int .i64 a0_2) :=(blk_cell BK200.out 2).trans rfl
       have hcz17_3 : w6.cell? ⟨gb200,3,none⟩ = some (.int .i64 a0_3) :=(blk_cell BK200.out 3).trans rfl
       have hcz17_4 : w6.cell? ⟨gb200,4,none⟩ = some (.int .i64 a0_4) :=(blk_cell BK200.out 4).trans rfl
       have hcz17_5 : w6.cell? ⟨gb200,5,none⟩ = some (.int .i64 a0_5) :=(blk_cell BK200.out 5).trans rfl
       have hfz17_0 :=blk_frozen BK200.out 0
       have hfz17_1 :=blk_frozen BK200.out 1
       have hfz17_2 :=blk_frozen BK200.out 2
       have hfz17_3 :=blk_frozen BK200.out 3
       have hfz17_4 :=blk_frozen BK200.out 4
       have hfz17_5 :=blk_frozen BK200.out 5
       go_wp2_with (fail)
       repeat (go_quiet (((go_at_call 58;(with_reducible refine (ycq.calls k a0_0 a0_1 a0_2 t204 _ A8.out).mono ?_);rintro e w' ⟨rfl,⟨nd,rfl⟩⟩;(try exact ⟨rfl,_,Eq.trans (World.drewN_drewN _ _ _) (congrArg (World.drewN _) (Nat.add_assoc _ _ _))⟩))));try go_wp2_with (fail))
       go_meet
       case rel => exact ⟨_,(decide (a0_3 > 127)),(by rfl),H',⟨by omega⟩,⟨by (with_reducible repeat (refine blk_drewN ?_ _));exact BK200.out⟩,⟨by repeat ((with_reducible first | exact HB.out | apply pw_below_drewN))⟩⟩
     ·obtain ⟨H,c14b0,c14b1⟩ :=ineg c14 H
      have H' :=Aside0.mk H
      clear H
      have hcz18_0 : w6.cell? ⟨gb200,0,none⟩ = some (.int .i64 a0_0) :=(blk_cell BK200.out 0).trans rfl
      have hcz18_1 : w6.cell? ⟨gb200,1,none⟩ = some (.int .i64 a0_1) :=(blk_cell BK200.out 1).trans rfl
      have hcz18_2 : w6.cell? ⟨gb200,2,none⟩ = some (.int .i64 a0_2) :=(blk_cell BK200.out 2).trans rfl
      have hcz18_3 : w6.cell? ⟨gb200,3,none⟩ = some (.int .i64 a0_3) :=(blk_cell BK200.out 3).trans rfl
      have hcz18_4 : w6.cell? ⟨gb200,4,none⟩ = some (.int .i64 a0_4) :=(blk_cell BK200.out 4).trans rfl
      have hcz18_5 : w6.cell? ⟨gb200,5,none⟩ = some (.int .i64 a0_5) :=(blk_cell BK200.out 5).trans rfl
      have hfz18_0 :=blk_frozen BK200.out 0
      have hfz18_1 :=blk_frozen BK200.out 1
      have hfz18_2 :=blk_frozen BK200.out 2
      have hfz18_3 :=blk_frozen BK200.out 3
      have hfz18_4 :=blk_frozen BK200.out 4
      have hfz18_5 :=blk_frozen BK200.out 5
      go_wp2_with (fail)
      repeat (go_quiet (((go_at_call 58;(with_reducible refine (ycq.calls k a0_0 a0_1 a0_2 t204 _ A8.out).mono ?_);rintro e w' ⟨rfl,⟨nd,rfl⟩⟩;(try exact ⟨rfl,_,Eq.trans (World.drewN_drewN _ _ _) (congrArg (World.drewN _) (Nat.add_assoc _ _ _))⟩))));try go_wp2_with (fail))
      go_meet
      case rel => exact ⟨_,(true),(by rfl),H',⟨by omega⟩,⟨by (with_reducible repeat (refine blk_drewN ?_ _));exact BK200.out⟩,⟨by repeat ((with_reducible first | exact HB.out | apply pw_below_drewN))⟩⟩
   ·obtain ⟨H,c9b0,c9b1⟩ :=ineg c9 H
    (skip)
    have H' :=Aside0.mk H
    clear H
    have hcz19_0 : w6.cell? ⟨gb200,0,none⟩ = some (.int .i64 a0_0) :=(blk_cell BK200.out 0).trans rfl
    have hcz19_1 : w6.cell? ⟨gb200,1,none⟩ = some (.int .i64 a0_1) :=(blk_cell BK200.out 1).trans rfl
    have hcz19_2 : w6.cell? ⟨gb200,2,none⟩ = some (.int .i64 a0_2) :=(blk_cell BK200.out 2).trans rfl
    have hcz19_3 : w6.cell? ⟨gb200,3,none⟩ = some (.int .i64 a0_3) :=(blk_cell BK200.out 3).trans rfl
    have hcz19_4 : w6.cell? ⟨gb200,4,none⟩ = some (.int .i64 a0_4) :=(blk_cell BK200.out 4).trans rfl
    have hcz19_5 : w6.cell? ⟨gb200,5,none⟩ = some (.int .i64 a0_5) :=(blk_cell BK200.out 5).trans rfl
    have hfz19_0 :=blk_frozen BK200.out 0
    have hfz19_1 :=blk_frozen BK200.out 1
    have hfz19_2 :=blk_frozen BK200.out 2
    have hfz19_3 :=blk_frozen BK200.out 3
    have hfz19_4 :=blk_frozen BK200.out 4
    have hfz19_5 :=blk_frozen BK200.out 5
    go_wp2_with (fail)
    repeat (go_quiet (((go_at_call 58;(with_reducible refine (ycq.calls k a0_0 a0_1 a0_2 t204 _ A8.out).mono ?_);rintro e w' ⟨rfl,⟨nd,rfl⟩⟩;(try exact ⟨rfl,_,Eq.trans (World.drewN_drewN _ _ _) (congrArg (World.drewN _) (Nat.add_assoc _ _ _))⟩))));try go_wp2_with (fail))
    go_meet
    case rel => exact ⟨_,(true),(by rfl),H',⟨by omega⟩,⟨by (with_reducible repeat (refine blk_drewN ?_ _));exact BK200.out⟩,⟨by repeat ((with_reducible first | exact HB.out | apply pw_below_drewN))⟩⟩
  case rest =>
   clear HC5
   try clear c1
   try clear p2
   try clear c3
   try clear c4
   try clear c9
   try clear c9b0
   try clear c9b1
   try clear c10
   try clear c11
   try clear c11b0
   try clear c14
   try clear c14b0
   try clear c14b1
   try clear c15
   try clear c15b0
   try clear hcz12_0
   try clear hcz12_1
   try clear hcz12_2
   try clear hcz12_3
   try clear hcz12_4
   try clear hcz12_5
   try clear hcz13_0
   try clear hcz13_1
   try clear hcz13_2
   try clear hcz13_3
   try clear hcz13_4
   try clear hcz13_5
   try clear hcz16_0
   try clear hcz16_1
   try clear hcz16_2
   try clear hcz16_3
   try clear hcz16_4
   try clear hcz16_5
   try clear hcz17_0
   try clear hcz17_1
   try clear hcz17_2
   try clear hcz17_3
   try clear hcz17_4
   try clear hcz17_5
   try clear hcz18_0
   try clear hcz18_1
   try clear hcz18_2
   try clear hcz18_3
   try clear hcz18_4
   try clear hcz18_5
   try clear hcz19_0
   try clear hcz19_1
   try clear hcz19_2
   try clear hcz19_3
   try clear hcz19_4
   try clear hcz19_5
   try clear hcz7_0
   try clear hcz7_1
   try clear hcz7_2
   try clear hcz7_3
   try clear hcz7_4
   try clear hcz7_5
   try clear hfz12_0
   try clear hfz12_1
   try clear hfz12_2
   try clear hfz12_3
   try clear hfz12_4
   try clear hfz12_5
   try clear hfz13_0
   try clear hfz13_1
   try clear hfz13_2
   try clear hfz13_3
   try clear hfz13_4
   try clear hfz13_5
   try clear hfz16_0
   try clear hfz16_1
   try clear hfz16_2
   try clear hfz16_3
   try clear hfz16_4
   try clear hfz16_5
   try clear hfz17_0
   try clear hfz17_1
   try clear hfz17_2
   try clear hfz17_3
   try clear hfz17_4
   try clear hfz17_5
   try clear hfz18_0
   try clear hfz18_1
   try clear hfz18_2
   try clear hfz18_3
   try clear hfz18_4
   try clear hfz18_5
   try clear hfz19_0
   try clear hfz19_1
   try clear hfz19_2
   try clear hfz19_3
   try clear hfz19_4
   try clear hfz19_5
   try clear hfz7_0
   try clear hfz7_1
   try clear hfz7_2
   try clear hfz7_3
   try clear hfz7_4
   try clear hfz7_5
   obtain ⟨kq,x53_4,rfl,HA,HJ4,BK200,HB⟩ :=hcut
   cases kq with
   | zero => exact absurd HA.out (by simp [yci.j0])
   | succ kj4 =>
    have H :=HA.out
    clear HA
    simp only [yci.j0] at H
    by_cases c20 : x53_4 = true
    ·subst c20
     have H1 : (some 2) = some r :=by rw [if_pos rfl] at H;exact H
     clear H
     have H :=H1
     clear H1
     obtain rfl :=Option.some.inj H
     go_wp2
     repeat (go_quiet (fail);try go_wp2)
     go_ret
     exact ⟨by rfl,by repeat ((with_reducible exact HB.out))⟩
    ·replace c20 :=Bool.eq_false_iff.mpr c20
     subst c20
     have H1 : (if t203 = 2 then (if a0_4 < 0 then (some 2) else (if a0_4 > 65535 then (some 2) else (some 0))) else (if t203 = 1 then ((ydd.f a0_2).bind fun t205 => (yci.j1 kj4 t203 0 0 t205 a0_0 a0_1 a0_2 a0_3 a0_4 a0_5)) else (yci.j1 kj4 t203 0 0 false a0_0 a0_1 a0_2 a0_3 a0_4 a0_5))) = some r :=by rw [if_neg (show ¬ (false = true) by decide)] at H;exact H
     clear H
     have H :=H1
     clear H1
     by_cases c21 : t203 = 2
     ·obtain ⟨H,c21b0,c21b1⟩ :=ipos c21 H;clear c21
      by_cases c22 : a0_4 < 0
      ·rw [if_pos c22] at H
       have c22b0 : decide (a0_4 < 0) = true :=decide_eq_true c22
       clear c22
       obtain rfl :=Option.some.inj H
       have hcz23_0 : wc.cell? ⟨gb200,0,none⟩ = some (.int .i64 a0_0) :=(blk_cell BK200.out 0).trans rfl
       have hcz23_1 : wc.cell? ⟨gb200,1,none⟩ = some (.int .i64 a0_1) :=(blk_cell BK200.out 1).trans rfl
       have hcz23_2 : wc.cell? ⟨gb200,2,none⟩ = some (.int .i64 a0_2) :=(blk_cell BK200.out 2).trans rfl
       have hcz23_3 : wc.cell? ⟨gb200,3,none⟩ = some (.int .i64 a0_3) :=(blk_cell BK200.out 3).trans rfl
       have hcz23_4 : wc.cell? ⟨gb200,4,none⟩ = some (.int .i64 a0_4) :=(blk_cell BK200.out 4).trans rfl
       have hcz23_5 : wc.cell? ⟨gb200,5,none⟩ = some (.int .i64 a0_5) :=(blk_cell BK200.out 5).trans rfl
       have hfz23_0 :=blk_frozen BK200.out 0
       have hfz23_1 :=blk_frozen BK200.out 1
       have hfz23_2 :=blk_frozen BK200.out 2
       have hfz23_3 :=blk_frozen BK200.out 3
       have hfz23_4 :=blk_frozen BK200.out 4
       have hfz23_5 :=blk_frozen BK200.out 5
       go_wp2
       repeat (go_quiet (fail);try go_wp2)
       go_ret
       exact ⟨by rfl,by repeat ((with_reducible exact HB.out))⟩
      ·rw [if_neg c22] at H
       have c22b0 : decide (a0_4 < 0) = false :=decide_eq_false c22
       clear c22
       by_cases c24 : a0_4 > 65535
       ·rw [if_pos c24] at H
        have c24b0 : decide (65535 < a0_4) = true :=decide_eq_true c24
        clear c24
        obtain rfl :=Option.some.inj H
        have hcz25_0 : wc.cell? ⟨gb200,0,none⟩ = some (.int .i64 a0_0) :=(blk_cell BK200.out 0).trans rfl
        have hcz25_1 : wc.cell? ⟨gb200,1,none⟩ = some (.int .i64 a0_1) :=(blk_cell BK200.out 1).trans rfl
        have hcz25_2 : wc.cell? ⟨gb200,2,none⟩ = some (.int .i64 a0_2) :=(blk_cell BK200.out 2).trans rfl
        have hcz25_3 : wc.cell? ⟨gb200,3,none⟩ = some (.int .i64 a0_3) :=(blk_cell BK200.out 3).trans rfl
        have hcz25_4 : wc.cell? ⟨gb200,4,none⟩ = some (.int .i64 a0_4) :=(blk_cell BK200.out 4).trans rfl
        have hcz25_5 : wc.cell? ⟨gb200,5,none⟩ = some (.int .i64 a0_5) :=(blk_cell BK200.out 5).trans rfl
        have hfz25_0 :=blk_frozen BK200.out 0
        have hfz25_1 :=blk_frozen BK200.out 1
        have hfz25_2 :=blk_frozen BK200.out 2
        have hfz25_3 :=blk_frozen BK200.out 3
        have hfz25_4 :=blk_frozen BK200.out 4
        have hfz25_5 :=blk_frozen BK200.out 5
        go_wp2
        repeat (go_quiet (fail);try go_wp2)
        go_ret
        exact ⟨by rfl,by repeat ((with_reducible exact HB.out))⟩
       ·rw [if_neg c24] at H
        have c24b0 : decide (65535 < a0_4) = false :=decide_eq_false c24
        clear c24
        obtain rfl :=Option.some.inj H
        have hcz26_0 : wc.cell? ⟨gb200,0,none⟩ = some (.int .i64 a0_0) :=(blk_cell BK200.out 0).trans rfl
        have hcz26_1 : wc.cell? ⟨gb200,1,none⟩ = some (.int .i64 a0_1) :=(blk_cell BK200.out 1).trans rfl
        have hcz26_2 : wc.cell? ⟨gb200,2,none⟩ = some (.int .i64 a0_2) :=(blk_cell BK200.out 2).trans rfl
        have hcz26_3 : wc.cell? ⟨gb200,3,none⟩ = some (.int .i64 a0_3) :=(blk_cell BK200.out 3).trans rfl
        have hcz26_4 : wc.cell? ⟨gb200,4,none⟩ = some (.int .i64 a0_4) :=(blk_cell BK200.out 4).trans rfl
        have hcz26_5 : wc.cell? ⟨gb200,5,none⟩ = some (.int .i64 a0_5) :=(blk_cell BK200.out 5).trans rfl
        have hfz26_0 :=blk_frozen BK200.out 0
        have hfz26_1 :=blk_frozen BK200.out 1
        have hfz26_2 :=blk_frozen BK200.out 2
        have hfz26_3 :=blk_frozen BK200.out 3
        have hfz26_4 :=blk_frozen BK200.out 4
        have hfz26_5 :=blk_frozen BK200.out 5
        go_wp2
        repeat (go_quiet (fail);try go_wp2)
        go_ret
        exact ⟨by rfl,by repeat ((with_reducible exact HB.out))⟩
     ·obtain ⟨H,c21b0,c21b1⟩ :=ineg c21 H
      have HC27 :=Aside0.mk H
      clear H
      go_upto_region 9 with (fail)
      repeat (go_quiet (fail);go_upto_region 9 with (fail))
      go_cut [57] (fun v57 wc => ∃ (kq : Nat) (x57_26 : Bool),v57 = .bool x57_26 ∧ Aside0 (yci.j1 kq t203 0 0 x57_26 a0_0 a0_1 a0_2 a0_3 a0_4 a0_5 = some r) ∧ Aside0 (kq ≤ kj4) ∧ Aside0 (wc.heap[gb200]? = some (.cells #[.int .i64 a0_0,.int .i64 a0_1,.int .i64 a0_2,.int .i64 a0_3,.int .i64 a0_4,.int .i64 a0_5] 28 (0,0))) ∧ Aside0 (Below w.heap.size w wc))
      case first =>
       have H :=HC27.out
       clear HC27
       by_cases c28 : t203 = 1
       ·obtain ⟨H,c28b0,c28b1⟩ :=ipos c28 H;clear c28
        (skip)
        replace H :=Option.bind_eq_some_iff.mp H
        obtain ⟨t205,A290,H⟩ :=H
        replace H : (yci.j1 kj4 t203 0 0 t205 a0_0 a0_1 a0_2 a0_3 a0_4 a0_5) = some r :=H
        have A29 :=Aside0.mk A290
        clear A290
        have H' :=Aside0.mk H
        clear H
        have hcz30_0 : wc.cell? ⟨gb200,0,none⟩ = some (.int .i64 a0_0) :=(blk_cell BK200.out 0).trans rfl
        have hcz30_1 : wc.cell? ⟨gb200,1,none⟩ = some (.int .i64 a0_1) :=(blk_cell BK200.out 1).trans rfl
        have hcz30_2 : wc.cell? ⟨gb200,2,none⟩ = some (.int .i64 a0_2) :=(blk_cell BK200.out 2).trans rfl
        have hcz30_3 : wc.cell? ⟨gb200,3,none⟩ = some (.int .i64 a0_3) :=(blk_cell BK200.out 3).trans rfl
        have hcz30_4 : wc.cell? ⟨gb200,4,none⟩ = some (.int .i64 a0_4) :=(blk_cell BK200.out 4).trans rfl
        have hcz30_5 : wc.cell? ⟨gb200,5,none⟩ = some (.int .i64 a0_5) :=(blk_cell BK200.out 5).trans rfl
        have hfz30_0 :=blk_frozen BK200.out 0
        have hfz30_1 :=blk_frozen BK200.out 1
        have hfz30_2 :=blk_frozen BK200.out 2
        have hfz30_3 :=blk_frozen BK200.out 3
        have hfz30_4 :=blk_frozen BK200.out 4
        have hfz30_5 :=blk_frozen BK200.out 5
        go_wp2_with ((go_at_call 59;(with_reducible refine (ydd.calls a0_2 t205 _ A29.out).mono ?_);rintro e w' ⟨rfl,⟨nd,rfl⟩⟩;(try fail)))
        repeat (go_quiet (fail);try go_wp2_with (fail))
        go_meet
        case rel => exact ⟨_,(t205),(by rfl),H',⟨by have :=HJ4.out;omega⟩,⟨by (with_reducible repeat (refine blk_drewN ?_ _));exact BK200.out⟩,⟨by repeat ((with_reducible first | exact HB.out | apply pw_below_drewN))⟩⟩
       ·obtain ⟨H,c28b0,c28b1⟩ :=ineg c28 H
        (skip)
        have H' :=Aside0.mk H
        clear H
        go_wp2
        repeat (go_quiet (fail);try go_wp2)
        go_meet
        case rel => exact ⟨_,(false),(by rfl),H',⟨by have :=HJ4.out;omega⟩,⟨by (with_reducible repeat (fail));exact BK200.out⟩,⟨by repeat ((with_reducible exact HB.out))⟩⟩
      case rest =>
       clear HC27
       try clear c1
       try clear c2
       try clear p2
       try clear c3
       try clear c4
       try clear c9
       try clear c9b0
       try clear c9b1
       try clear c10
       try clear c11
       try clear c11b0
       try clear c14
       try clear c14b0
       try clear c14b1
       try clear c15
       try clear c15b0
       try clear c20
       try clear c21
       try clear c21b0
       try clear c21b1
       try clear c22
       try clear c22b0
       try clear c24
       try clear c24b0
       try clear c28
       try clear c28b0
       try clear c28b1
       try clear hcz12_0
       try clear hcz12_1
       try clear hcz12_2
       try clear hcz12_3
       try clear hcz12_4
       try clear hcz12_5
       try clear hcz13_0
       try clear hcz13_1
       try clear hcz13_2
       try clear hcz13_3
       try clear hcz13_4
       try clear hcz13_5
       try clear hcz16_0
       try clear hcz16_1
       try clear hcz16_2
       try clear hcz16_3
       try clear hcz16_4
       try clear hcz16_5
       try clear hcz17_0
       try clear hcz17_1
       try clear hcz17_2
       try clear hcz17_3
       try clear hcz17_4
       try clear hcz17_5
       try clear hcz18_0
       try clear hcz18_1
       try clear hcz18_2
       try clear hcz18_3
       try clear hcz18_4
       try clear hcz18_5
       try clear hcz19_0
       try clear hcz19_1
       try clear hcz19_2
       try clear hcz19_3
       try clear hcz19_4
       try clear hcz19_5
       try clear hcz23_0
       try clear hcz23_1
       try clear hcz23_2
       try clear hcz23_3
       try clear hcz23_4
       try clear hcz23_5
       try clear hcz25_0
       try clear hcz25_1
       try clear hcz25_2
       try clear hcz25_3
       try clear hcz25_4
       try clear hcz25_5
       try clear hcz26_0
       try clear hcz26_1
       try clear hcz26_2
       try clear hcz26_3
       try clear hcz26_4
       try clear hcz26_5
       try clear hcz30_0
       try clear hcz30_1
       try clear hcz30_2
       try clear hcz30_3
       try clear hcz30_4
       try clear hcz30_5
       try clear hcz7_0
       try clear hcz7_1
       try clear hcz7_2
       try clear hcz7_3
       try clear hcz7_4
       try clear hcz7_5
       try clear hfz12_0
       try clear hfz12_1
       try clear hfz12_2
       try clear hfz12_3
       try clear hfz12_4
       try clear hfz12_5
       try clear hfz13_0
       try clear hfz13_1
       try clear hfz13_2
       try clear hfz13_3
       try clear hfz13_4
       try clear hfz13_5
       try clear hfz16_0
       try clear hfz16_1
       try clear hfz16_2
       try clear hfz16_3
       try clear hfz16_4
       try clear hfz16_5
       try clear hfz17_0
       try clear hfz17_1
       try clear hfz17_2
       try clear hfz17_3
       try clear hfz17_4
       try clear hfz17_5
       try clear hfz18_0
       try clear hfz18_1
       try clear hfz18_2
       try clear hfz18_3
       try clear hfz18_4
       try clear hfz18_5
       try clear hfz19_0
       try clear hfz19_1
       try clear hfz19_2
       try clear hfz19_3
       try clear hfz19_4
       try clear hfz19_5
       try clear hfz23_0
       try clear hfz23_1
       try clear hfz23_2
       try clear hfz23_3
       try clear hfz23_4
       try clear hfz23_5
       try clear hfz25_0
       try clear hfz25_1
       try clear hfz25_2
       try clear hfz25_3
       try clear hfz25_4
       try clear hfz25_5
       try clear hfz26_0
       try clear hfz26_1
       try clear hfz26_2
       try clear hfz26_3
       try clear hfz26_4
       try clear hfz26_5
       try clear hfz30_0
       try clear hfz30_1
       try clear hfz30_2
       try clear hfz30_3
       try clear hfz30_4
       try clear hfz30_5
       try clear hfz7_0
       try clear hfz7_1
       try clear hfz7_2
       try clear hfz7_3
       try clear hfz7_4
       try clear hfz7_5
       try clear p2
       obtain ⟨kq,x57_26,rfl,HA,HJ26,BK200,HB⟩ :=hcut
       cases kq with
       | zero => exact absurd HA.out (by simp [yci.j1])
       | succ kj26 =>
        have H :=HA.out
        clear HA
        simp only [yci.j1] at H
        by_cases c31 : x57_26 = true
        ·subst c31
         have H1 : (if a0_4 < (-128) then (some 2) else (if a0_4 > 127 then (some 2) else (some 0))) = some r :=by rw [if_pos rfl] at H;exact H
         clear H
         have H :=H1
         clear H1
         by_cases c32 : a0_4 < (-128)
         ·rw [if_pos c32] at H
          have c32b0 : decide (a0_4 < (-128)) = true :=decide_eq_true c32
          clear c32
          obtain rfl :=Option.some.inj H
          have hcz33_0 : wc.cell? ⟨gb200,0,none⟩ = some (.int .i64 a0_0) :=(blk_cell BK200.out 0).trans rfl
          have hcz33_1 : wc.cell? ⟨gb200,1,none⟩ = some (.int .i64 a0_1) :=(blk_cell BK200.out 1).trans rfl
          have hcz33_2 : wc.cell? ⟨gb200,2,none⟩ = some (.int .i64 a0_2) :=(blk_cell BK200.out 2).trans rfl
          have hcz33_3 : wc.cell? ⟨gb200,3,none⟩ = some (.int .i64 a0_3) :=(blk_cell BK200.out 3).trans rfl
          have hcz33_4 : wc.cell? ⟨gb200,4,none⟩ = some (.int .i64 a0_4) :=(blk_cell BK200.out 4).trans rfl
          have hcz33_5 : wc.cell? ⟨gb200,5,none⟩ = some (.int .i64 a0_5) :=(blk_cell BK200.out 5).trans rfl
          have hfz33_0 :=blk_frozen BK200.out 0
          have hfz33_1 :=blk_frozen BK200.out 1
          have hfz33_2 :=blk_frozen BK200.out 2
          have hfz33_3 :=blk_frozen BK200.out 3
          have hfz33_4 :=blk_frozen BK200.out 4
          have hfz33_5 :=blk_frozen BK200.out 5
          go_wp2
          repeat (go_quiet (fail);try go_wp2)
          go_ret
          exact ⟨by rfl,by repeat ((with_reducible exact HB.out))⟩
         ·rw [if_neg c32] at H
          have c32b0 : decide (a0_4 < (-128)) = false :=decide_eq_false c32
          clear c32
          by_cases c34 : a0_4 > 127
          ·rw [if_pos c34] at H
           have c34b0 : decide (127 < a0_4) = true :=decide_eq_true c34
           clear c34
           obtain rfl :=Option.some.inj H
           have hcz35_0 : wc.cell? ⟨gb200,0,none⟩ = some (.int .i64 a0_0) :=(blk_cell BK200.out 0).trans rfl
           have hcz35_1 : wc.cell? ⟨gb200,1,none⟩ = some (.int .i64 a0_1) :=(blk_cell BK200.out 1).trans rfl
           have hcz35_2 : wc.cell? ⟨gb200,2,none⟩ = some (.int .i64 a0_2) :=(blk_cell BK200.out 2).trans rfl
           have hcz35_3 : wc.cell? ⟨gb200,3,none⟩ = some (.int .i64 a0_3) :=(blk_cell BK200.out 3).trans rfl
           have hcz35_4 : wc.cell? ⟨gb200,4,none⟩ = some (.int .i64 a0_4) :=(blk_cell BK200.out 4).trans rfl
           have hcz35_5 : wc.cell? ⟨gb200,5,none⟩ = some (.int .i64 a0_5) :=(blk_cell BK200.out 5).trans rfl
           have hfz35_0 :=blk_frozen BK200.out 0
           have hfz35_1 :=blk_frozen BK200.out 1
           have hfz35_2 :=blk_frozen BK200.out 2
           have hfz35_3 :=blk_frozen BK200.out 3
           have hfz35_4 :=blk_frozen BK200.out 4
           have hfz35_5 :=blk_frozen BK200.out 5
           go_wp2
           repeat (go_quiet (fail);try go_wp2)
           go_ret
           exact ⟨by rfl,by repeat ((with_reducible exact HB.out))⟩
          ·rw [if_neg c34] at H
           have c34b0 : decide (127 < a0_4) = false :=decide_eq_false c34
           clear c34
           obtain rfl :=Option.some.inj H
           have hcz36_0 : wc.cell? ⟨gb200,0,none⟩ = some (.int .i64 a0_0) :=(blk_cell BK200.out 0).trans rfl
           have hcz36_1 : wc.cell? ⟨gb200,1,none⟩ = some (.int .i64 a0_1) :=(blk_cell BK200.out 1).trans rfl
           have hcz36_2 : wc.cell? ⟨gb200,2,none⟩ = some (.int .i64 a0_2) :=(blk_cell BK200.out 2).trans rfl
           have hcz36_3 : wc.cell? ⟨gb200,3,none⟩ = some (.int .i64 a0_3) :=(blk_cell BK200.out 3).trans rfl
           have hcz36_4 : wc.cell? ⟨gb200,4,none⟩ = some (.int .i64 a0_4) :=(blk_cell BK200.out 4).trans rfl
           have hcz36_5 : wc.cell? ⟨gb200,5,none⟩ = some (.int .i64 a0_5) :=(blk_cell BK200.out 5).trans rfl
           have hfz36_0 :=blk_frozen BK200.out 0
           have hfz36_1 :=blk_frozen BK200.out 1
           have hfz36_2 :=blk_frozen BK200.out 2
           have hfz36_3 :=blk_frozen BK200.out 3
           have hfz36_4 :=blk_frozen BK200.out 4
           have hfz36_5 :=blk_frozen BK200.out 5
           go_wp2
           repeat (go_quiet (fail);try go_wp2)
           go_ret
           exact ⟨by rfl,by repeat ((with_reducible exact HB.out))⟩
        ·replace c31 :=Bool.eq_false_iff.mpr c31
         subst c31
         have H1 : (if t203 = 1 then (if a0_4 < 0 then (some 2) else (if a0_4 > 255 then (some 2) else (some 0))) else (if a0_4 < 0 then (some 2) else (if a0_4 > 0 then (some 2) else (some 0)))) = some r :=by rw [if_neg (show ¬ (false = true) by decide)] at H;exact H
         clear H
         have H :=H1
         clear H1
         by_cases c37 : t203 = 1
         ·obtain ⟨H,c37b0,c37b1⟩ :=ipos c37 H;clear c37
          by_cases c38 : a0_4 < 0
          ·rw [if_pos c38] at H
           have c38b0 : decide (a0_4 < 0) = true :=decide_eq_true c38
           clear c38
           obtain rfl :=Option.some.inj H
           have hcz39_0 : wc.cell? ⟨gb200,0,none⟩ = some (.int .i64 a0_0) :=(blk_cell BK200.out 0).trans rfl
           have hcz39_1 : wc.cell? ⟨gb200,1,none⟩ = some (.int .i64 a0_1) :=(blk_cell BK200.out 1).trans rfl
           have hcz39_2 : wc.cell? ⟨gb200,2,none⟩ = some (.int .i64 a0_2) :=(blk_cell BK200.out 2).trans rfl
           have hcz39_3 : wc.cell? ⟨gb200,3,none⟩ = some (.int .i64 a0_3) :=(blk_cell BK200.out 3).trans rfl
           have hcz39_4 : wc.cell? ⟨gb200,4,none⟩ = some (.int .i64 a0_4) :=(blk_cell BK200.out 4).trans rfl
           have hcz39_5 : wc.cell? ⟨gb200,5,none⟩ = some (.int .i64 a0_5) :=(blk_cell BK200.out 5).trans rfl
           have hfz39_0 :=blk_frozen BK200.out 0
           have hfz39_1 :=blk_frozen BK200.out 1
           have hfz39_2 :=blk_frozen BK200.out 2
           have hfz39_3 :=blk_frozen BK200.out 3
           have hfz39_4 :=blk_frozen BK200.out 4
           have hfz39_5 :=blk_frozen BK200.out 5
           go_wp2
           repeat (go_quiet (fail);try go_wp2)
           go_ret
           exact ⟨by rfl,by repeat ((with_reducible exact HB.out))⟩
          ·rw [if_neg c38] at H
           have c38b0 : decide (a0_4 < 0) = false :=decide_eq_false c38
           clear c38
           by_cases c40 : a0_4 > 255
           ·rw [if_pos c40] at H
            have c40b0 : decide (255 < a0_4) = true :=decide_eq_true c40
            clear c40
            obtain rfl :=Option.some.inj H
            have hcz41_0 : wc.cell? ⟨gb200,0,none⟩ = some (.int .i64 a0_0) :=(blk_cell BK200.out 0).trans rfl
            have hcz41_1 : wc.cell? ⟨gb200,1,none⟩ = some (.int .i64 a0_1) :=(blk_cell BK200.out 1).trans rfl
            have hcz41_2 : wc.cell? ⟨gb200,2,none⟩ = some (.int .i64 a0_2) :=(blk_cell BK200.out 2).trans rfl
            have hcz41_3 : wc.cell? ⟨gb200,3,none⟩ = some (.int .i64 a0_3) :=(blk_cell BK200.out 3).trans rfl
            have hcz41_4 : wc.cell? ⟨gb200,4,none⟩ = some (.int .i64 a0_4) :=(blk_cell BK200.out 4).trans rfl
            have hcz41_5 : wc.cell? ⟨gb200,5,none⟩ = some (.int .i64 a0_5) :=(blk_cell BK200.out 5).trans rfl
            have hfz41_0 :=blk_frozen BK200.out 0
            have hfz41_1 :=blk_frozen BK200.out 1
            have hfz41_2 :=blk_frozen BK200.out 2
            have hfz41_3 :=blk_frozen BK200.out 3
            have hfz41_4 :=blk_frozen BK200.out 4
            have hfz41_5 :=blk_frozen BK200.out 5
            go_wp2
            repeat (go_quiet (fail);try go_wp2)
            go_ret
            exact ⟨by rfl,by repeat ((with_reducible exact HB.out))⟩
           ·rw [if_neg c40] at H
            have c40b0 : decide (255 < a0_4) = false :=decide_eq_false c40
            clear c40
            obtain rfl :=Option.some.inj H
            have hcz42_0 : wc.cell? ⟨gb200,0,none⟩ = some (.int .i64 a0_0) :=(blk_cell BK200.out 0).trans rfl
            have hcz42_1 : wc.cell? ⟨gb200,1,none⟩ = some (.int .i64 a0_1) :=(blk_cell BK200.out 1).trans rfl
            have hcz42_2 : wc.cell? ⟨gb200,2,none⟩ = some (.int .i64 a0_2) :=(blk_cell BK200.out 2).trans rfl
            have hcz42_3 : wc.cell? ⟨gb200,3,none⟩ = some (.int .i64 a0_3) :=(blk_cell BK200.out 3).trans rfl
            have hcz42_4 : wc.cell? ⟨gb200,4,none⟩ = some (.int .i64 a0_4) :=(blk_cell BK200.out 4).trans rfl
            have hcz42_5 : wc.cell? ⟨gb200,5,none⟩ = some (.int .i64 a0_5) :=(blk_cell BK200.out 5).trans rfl
            have hfz42_0 :=blk_frozen BK200.out 0
            have hfz42_1 :=blk_frozen BK200.out 1
            have hfz42_2 :=blk_frozen BK200.out 2
            have hfz42_3 :=blk_frozen BK200.out 3
            have hfz42_4 :=blk_frozen BK200.out 4
            have hfz42_5 :=blk_frozen BK200.out 5
            go_wp2
            repeat (go_quiet (fail);try go_wp2)
            go_ret
            exact ⟨by rfl,by repeat ((with_reducible exact HB.out))⟩
         ·obtain ⟨H,c37b0,c37b1⟩ :=ineg c37 H
          by_cases c43 : a0_4 < 0
          ·rw [if_pos c43] at H
           have c43b0 : decide (a0_4 < 0) = true :=decide_eq_true c43
           clear c43
           obtain rfl :=Option.some.inj H
           have hcz44_0 : wc.cell? ⟨gb200,0,none⟩ = some (.int .i64 a0_0) :=(blk_cell BK200.out 0).trans rfl
           have hcz44_1 : wc.cell? ⟨gb200,1,none⟩ = some (.int .i64 a0_1) :=(blk_cell BK200.out 1).trans rfl
           have hcz44_2 : wc.cell? ⟨gb200,2,none⟩ = some (.int .i64 a0_2) :=(blk_cell BK200.out 2).trans rfl
           have hcz44_3 : wc.cell? ⟨gb200,3,none⟩ = some (.int .i64 a0_3) :=(blk_cell BK200.out 3).trans rfl
           have hcz44_4 : wc.cell? ⟨gb200,4,none⟩ = some (.int .i64 a0_4) :=(blk_cell BK200.out 4).trans rfl
           have hcz44_5 : wc.cell? ⟨gb200,5,none⟩ = some (.int .i64 a0_5) :=(blk_cell BK200.out 5).trans rfl
           have hfz44_0 :=blk_frozen BK200.out 0
           have hfz44_1 :=blk_frozen BK200.out 1
           have hfz44_2 :=blk_frozen BK200.out 2
           have hfz44_3 :=blk_frozen BK200.out 3
           have hfz44_4 :=blk_frozen BK200.out 4
           have hfz44_5 :=blk_frozen BK200.out 5
           go_wp2
           repeat (go_quiet (fail);try go_wp2)
           go_ret
           exact ⟨by rfl,by repeat ((with_reducible exact HB.out))⟩
          ·rw [if_neg c43] at H
           have c43b0 : decide (a0_4 < 0) = false :=decide_eq_false c43
           clear c43
           by_cases c45 : a0_4 > 0
           ·rw [if_pos c45] at H
            have c45b0 : decide (0 < a0_4) = true :=decide_eq_true c45
            clear c45
            obtain rfl :=Option.some.inj H
            have hcz46_0 : wc.cell? ⟨gb200,0,none⟩ = some (.int .i64 a0_0) :=(blk_cell BK200.out 0).trans rfl
            have hcz46_1 : wc.cell? ⟨gb200,1,none⟩ = some (.int .i64 a0_1) :=(blk_cell BK200.out 1).trans rfl
            have hcz46_2 : wc.cell? ⟨gb200,2,none⟩ = some (.int .i64 a0_2) :=(blk_cell BK200.out 2).trans rfl
            have hcz46_3 : wc.cell? ⟨gb200,3,none⟩ = some (.int .i64 a0_3) :=(blk_cell BK200.out 3).trans rfl
            have hcz46_4 : wc.cell? ⟨gb200,4,none⟩ = some (.int .i64 a0_4) :=(blk_cell BK200.out 4).trans rfl
            have hcz46_5 : wc.cell? ⟨gb200,5,none⟩ = some (.int .i64 a0_5) :=(blk_cell BK200.out 5).trans rfl
            have hfz46_0 :=blk_frozen BK200.out 0
            have hfz46_1 :=blk_frozen BK200.out 1
            have hfz46_2 :=blk_frozen BK200.out 2
            have hfz46_3 :=blk_frozen BK200.out 3
            have hfz46_4 :=blk_frozen BK200.out 4
            have hfz46_5 :=blk_frozen BK200.out 5
            go_wp2
            repeat (go_quiet (fail);try go_wp2)
            go_ret
            exact ⟨by rfl,by repeat ((with_reducible exact HB.out))⟩
           ·rw [if_neg c45] at H
            have c45b0 : decide (0 < a0_4) = false :=decide_eq_false c45
            clear c45
            obtain rfl :=Option.some.inj H
            have hcz47_0 : wc.cell? ⟨gb200,0,none⟩ = some (.int .i64 a0_0) :=(blk_cell BK200.out 0).trans rfl
            have hcz47_1 : wc.cell? ⟨gb200,1,none⟩ = some (.int .i64 a0_1) :=(blk_cell BK200.out 1).trans rfl
            have hcz47_2 : wc.cell? ⟨gb200,2,none⟩ = some (.int .i64 a0_2) :=(blk_cell BK200.out 2).trans rfl
            have hcz47_3 : wc.cell? ⟨gb200,3,none⟩ = some (.int .i64 a0_3) :=(blk_cell BK200.out 3).trans rfl
            have hcz47_4 : wc.cell? ⟨gb200,4,none⟩ = some (.int .i64 a0_4) :=(blk_cell BK200.out 4).trans rfl
            have hcz47_5 : wc.cell? ⟨gb200,5,none⟩ = some (.int .i64 a0_5) :=(blk_cell BK200.out 5).trans rfl
            have hfz47_0 :=blk_frozen BK200.out 0
            have hfz47_1 :=blk_frozen BK200.out 1
            have hfz47_2 :=blk_frozen BK200.out 2
            have hfz47_3 :=blk_frozen BK200.out 3
            have hfz47_4 :=blk_frozen BK200.out 4
            have hfz47_5 :=blk_frozen BK200.out 5
            go_wp2
            repeat (go_quiet (fail);try go_wp2)
            go_ret
            exact ⟨by rfl,by repeat ((with_reducible exact HB.out))⟩
 ·replace c3 :=Bool.eq_false_iff.mpr c3
  subst c3
  have H1 : (some 2) = some r :=by rw [if_neg (show ¬ (false = true) by decide)] at H;exact H
  clear H
  have H :=H1
  clear H1
  obtain rfl :=Option.some.inj H
  go_enter Tryz.func46,Tryz.ntmps46
  go_wp2_with (first | ((with_reducible refine gate_dst (N :=1) rfl ?_);refine box_event ?hg (N :=1) ?hd (cs :=#[.int .i64 a0_0,.int .i64 a0_1,.int .i64 a0_2,.int .i64 a0_3,.int .i64 a0_4,.int .i64 a0_5]) (t :=28) ?hr ?_;(case hd => rfl);(case hg => rfl);(case hr => (go_simp;done));intro gb200 hg w48 hbox hb;have n0_ :=Aside0.mk (below_step (by repeat ((with_reducible exact HB.out))) hb);have n1_ :=Aside0.mk (hbox);have n2_ :=Aside0.mk ((by rw [hg];exact (below_size (by repeat ((with_reducible exact HB.out)))) : w.heap.size ≤ gb200));have n3_ :=Aside0.mk ((by rw [hg];exact (below_size (by repeat ((with_reducible exact HB.out)))) : w.heap.size ≤ gb200));clear HB;have HB :=n0_;have BK200 :=n1_;have GW200 :=n2_;have GE200 :=n3_;clear n0_ n1_ n2_ n3_;clear hb hbox hg;have hcz49_0 : w48.cell? ⟨gb200,0,none⟩ = some (.int .i64 a0_0) :=(blk_cell BK200.out 0).trans rfl;have hcz49_1 : w48.cell? ⟨gb200,1,none⟩ = some (.int .i64 a0_1) :=(blk_cell BK200.out 1).trans rfl;have hcz49_2 : w48.cell? ⟨gb200,2,none⟩ = some (.int .i64 a0_2) :=(blk_cell BK200.out 2).trans rfl;have hcz49_3 : w48.cell? ⟨gb200,3,none⟩ = some (.int .i64 a0_3) :=(blk_cell BK200.out 3).trans rfl;have hcz49_4 : w48.cell? ⟨gb200,4,none⟩ = some (.int .i64 a0_4) :=(blk_cell BK200.out 4).trans rfl;have hcz49_5 : w48.cell? ⟨gb200,5,none⟩ = some (.int .i64 a0_5) :=(blk_cell BK200.out 5).trans rfl;have hfz49_0 :=blk_frozen BK200.out 0;have hfz49_1 :=blk_frozen BK200.out 1;have hfz49_2 :=blk_frozen BK200.out 2;have hfz49_3 :=blk_frozen BK200.out 3;have hfz49_4 :=blk_frozen BK200.out 4;have hfz49_5 :=blk_frozen BK200.out 5) | (go_at_call 60;(with_reducible refine (ycm.calls k a0_0 a0_1 a0_2 false _ A2.out).mono ?_);rintro e w' ⟨rfl,⟨nd,rfl⟩⟩;(try fail)))
  repeat (go_quiet (fail);try go_wp2_with (fail))
  go_ret
  exact ⟨by rfl,by repeat ((with_reducible first | exact HB.out | apply pw_below_drewN))⟩

end Go.Proofs.YtnelghpendfdmaaGreatDoor.HFun
