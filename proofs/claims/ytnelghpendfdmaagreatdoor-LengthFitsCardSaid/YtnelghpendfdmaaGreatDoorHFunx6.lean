-- Written by a program of this session out of Lean's print of the program (after the form of the kit's print.sh, with own turns); Lean checks it.
import Derived.Test.YtnelghpendfdmaaGreatDoorHFunx5
namespace Go.Proofs.YtnelghpendfdmaaGreatDoor.HFun
set_option maxRecDepth 100000
set_option maxHeartbeats 16000000
open Go.RowKit Go.Proofs.YtnelghpendfdmaaGreatDoorW.PrintWords Go.Proofs.YtnelghpendfdmaaGreatDoorW.PrintLast Go.Proofs.YtnelghpendfdmaaGreatDoorW.PrintMore
attribute [local go_sem] max2_int min2_int max_two min_two max_three min_three max_four min_four   -- for this text's walks alone
set_option linter.unusedVariables false
set_option linter.unusedSimpArgs false

/-! ### decode_Needs: function 57 -/
def ycw.f (k : Nat) (a0 : Int) (a1 : Int) (a2 : Int) : Option (Bool × Int) :=(ycm.f k a0 a1 a2).bind fun t194 => (if t194 = true then (if a0 = 0 then (if a1 > 0 then ((ycl.f k a2).bind fun t195 => ((ycf.f k a2).bind fun t196 => (some (t195,t196)))) else ((ycf.f k a2).bind fun t197 => (some (false,t197)))) else (if a0 = 2 then (if (a2 / 64) = 1 then (if (Go.bits .and .i64 a2 7) = 3 then (some (false,2)) else (some (false,0))) else (some (false,0))) else (some ((a0 == 3),0)))) else (some (false,0)))
theorem ycw.mono : ∀ a0 a1 a2 k,LeO (ycw.f k a0 a1 a2) (ycw.f (k + 1) a0 a1 a2) :=by
 intro a0 a1 a2 k
 unfold ycw.f
 repeat' first
   | (with_reducible exact ycf.mono _ _)
   | (with_reducible exact ycl.mono _ _)
   | (with_reducible exact ycm.mono _ _ _ _)
   | (with_reducible exact LeO.refl _)
   | (with_reducible exact LeO.none _)
   | (with_reducible refine LeO.ite ?_ ?_)
   | (with_reducible refine LeO.bind ?_ (fun _ => ?_))
   | exact ycf.mono _ _
   | exact ycl.mono _ _
   | exact ycm.mono _ _ _ _
   | exact LeO.none _
   | refine LeO.ite ?_ ?_
   | refine LeO.bind ?_ (fun _ => ?_)
theorem ycw.calls (k : Nat) (a0 : Int) (a1 : Int) (a2 : Int) (r1 : Bool) (r2 : Int) (w : World) (h : ycw.f k a0 a1 a2 = some (r1,r2)) :
  Calls Tryz.prog 57 #[.int .i64 a0,.int .i64 a1,.int .i64 a2] w fun e w' => e = .returned (.tuple #[.bool r1,.int .i64 r2]) ∧ Drawn0 w w' :=by
 have H : ((ycm.f k a0 a1 a2).bind fun t194 => (if t194 = true then (if a0 = 0 then (if a1 > 0 then ((ycl.f k a2).bind fun t195 => ((ycf.f k a2).bind fun t196 => (some (t195,t196)))) else ((ycf.f k a2).bind fun t197 => (some (false,t197)))) else (if a0 = 2 then (if (a2 / 64) = 1 then (if (Go.bits .and .i64 a2 7) = 3 then (some (false,2)) else (some (false,0))) else (some (false,0))) else (some ((a0 == 3),0)))) else (some (false,0)))) = some (r1,r2) :=h
 clear h
 replace H :=Option.bind_eq_some_iff.mp H
 obtain ⟨t194,A40,H⟩ :=H
 replace H : (if t194 = true then (if a0 = 0 then (if a1 > 0 then ((ycl.f k a2).bind fun t195 => ((ycf.f k a2).bind fun t196 => (some (t195,t196)))) else ((ycf.f k a2).bind fun t197 => (some (false,t197)))) else (if a0 = 2 then (if (a2 / 64) = 1 then (if (Go.bits .and .i64 a2 7) = 3 then (some (false,2)) else (some (false,0))) else (some (false,0))) else (some ((a0 == 3),0)))) else (some (false,0))) = some (r1,r2) :=H
 have A4 :=Aside0.mk A40
 clear A40
 by_cases c5 : t194 = true
 ·subst c5
  have H1 : (if a0 = 0 then (if a1 > 0 then ((ycl.f k a2).bind fun t195 => ((ycf.f k a2).bind fun t196 => (some (t195,t196)))) else ((ycf.f k a2).bind fun t197 => (some (false,t197)))) else (if a0 = 2 then (if (a2 / 64) = 1 then (if (Go.bits .and .i64 a2 7) = 3 then (some (false,2)) else (some (false,0))) else (some (false,0))) else (some ((a0 == 3),0)))) = some (r1,r2) :=by rw [if_pos rfl] at H;exact H
  clear H
  have H :=H1
  clear H1
  by_cases c6 : a0 = 0
  ·obtain ⟨H,c6b0,c6b1⟩ :=ipos c6 H;clear c6
   by_cases c7 : a1 > 0
   ·rw [if_pos c7] at H
    have c7b0 : decide (0 < a1) = true :=decide_eq_true c7
    clear c7
    replace H :=Option.bind_eq_some_iff.mp H
    obtain ⟨t195,A80,H⟩ :=H
    replace H : ((ycf.f k a2).bind fun t196 => (some (t195,t196))) = some (r1,r2) :=H
    have A8 :=Aside0.mk A80
    clear A80
    replace H :=Option.bind_eq_some_iff.mp H
    obtain ⟨t196,A90,H⟩ :=H
    replace H : (some (t195,t196)) = some (r1,r2) :=H
    have A9 :=Aside0.mk A90
    clear A90
    simp only [Option.some.injEq,Prod.mk.injEq] at H
    obtain ⟨rfl,rfl⟩ :=H
    go_enter Tryz.func57,Tryz.ntmps57
    go_wp2_with (first | ((with_reducible refine gate_callee (f :=60) rfl ?_);refine goesL_ (some 11) rfl rfl Tryz.func60 (by kernel_rfl) rfl #[.int .i64 a0,.int .i64 a1,.int .i64 a2] rfl (by (try simp only [List.map_toArray,List.map_cons,List.map_nil]);rfl) ?_;(with_reducible refine (ycm.calls k a0 a1 a2 true _ A4.out).mono ?_);rintro e w' ⟨rfl,⟨nd,rfl⟩⟩;refine ⟨_,rfl,?_⟩) | (go_at_call 75;(with_reducible refine (ycl.calls k a2 t195 _ A8.out).mono ?_);rintro e w' ⟨rfl,⟨nd,rfl⟩⟩) | ((with_reducible refine gate_callee (f :=76) rfl ?_);refine goesL_ (some 23) rfl rfl Tryz.func76 (by kernel_rfl) rfl #[.int .i64 a2] rfl (by (try simp only [List.map_toArray,List.map_cons,List.map_nil]);rfl) ?_;(with_reducible refine (ycf.calls k a2 t196 _ A9.out).mono ?_);rintro e w' ⟨rfl,⟨nd,rfl⟩⟩;refine ⟨_,rfl,?_⟩))
    go_ret2
    exact ⟨by rfl,by repeat (first | exact Drawn0.refl _ | apply Drawn0.step)⟩
   ·rw [if_neg c7] at H
    have c7b0 : decide (0 < a1) = false :=decide_eq_false c7
    clear c7
    replace H :=Option.bind_eq_some_iff.mp H
    obtain ⟨t197,A100,H⟩ :=H
    replace H : (some (false,t197)) = some (r1,r2) :=H
    have A10 :=Aside0.mk A100
    clear A100
    simp only [Option.some.injEq,Prod.mk.injEq] at H
    obtain ⟨rfl,rfl⟩ :=H
    go_enter Tryz.func57,Tryz.ntmps57
    go_wp2_with (first | ((with_reducible refine gate_callee (f :=60) rfl ?_);refine goesL_ (some 11) rfl rfl Tryz.func60 (by kernel_rfl) rfl #[.int .i64 a0,.int .i64 a1,.int .i64 a2] rfl (by (try simp only [List.map_toArray,List.map_cons,List.map_nil]);rfl) ?_;(with_reducible refine (ycm.calls k a0 a1 a2 true _ A4.out).mono ?_);rintro e w' ⟨rfl,⟨nd,rfl⟩⟩;refine ⟨_,rfl,?_⟩) | ((with_reducible refine gate_callee (f :=76) rfl ?_);refine goesL_ (some 23) rfl rfl Tryz.func76 (by kernel_rfl) rfl #[.int .i64 a2] rfl (by (try simp only [List.map_toArray,List.map_cons,List.map_nil]);rfl) ?_;(with_reducible refine (ycf.calls k a2 t197 _ A10.out).mono ?_);rintro e w' ⟨rfl,⟨nd,rfl⟩⟩;refine ⟨_,rfl,?_⟩))
    go_ret2
    exact ⟨by rfl,by repeat (first | exact Drawn0.refl _ | apply Drawn0.step)⟩
  ·obtain ⟨H,c6b0,c6b1⟩ :=ineg c6 H
   by_cases c11 : a0 = 2
   ·obtain ⟨H,c11b0,c11b1⟩ :=ipos c11 H;clear c11
    by_cases c12 : (a2 / 64) = 1
    ·obtain ⟨H,c12b0,c12b1⟩ :=ipos c12 H;clear c12
     by_cases c13 : (Go.bits .and .i64 a2 7) = 3
     ·obtain ⟨H,c13b0,c13b1⟩ :=ipos c13 H;clear c13
      simp only [Option.some.injEq,Prod.mk.injEq] at H
      obtain ⟨rfl,rfl⟩ :=H
      go_enter Tryz.func57,Tryz.ntmps57
      go_wp2_with (((with_reducible refine gate_callee (f :=60) rfl ?_);refine goesL_ (some 11) rfl rfl Tryz.func60 (by kernel_rfl) rfl #[.int .i64 a0,.int .i64 a1,.int .i64 a2] rfl (by (try simp only [List.map_toArray,List.map_cons,List.map_nil]);rfl) ?_;(with_reducible refine (ycm.calls k a0 a1 a2 true _ A4.out).mono ?_);rintro e w' ⟨rfl,⟨nd,rfl⟩⟩;refine ⟨_,rfl,?_⟩))
      go_ret2
      exact ⟨by rfl,by repeat (first | exact Drawn0.refl _ | apply Drawn0.step)⟩
     ·obtain ⟨H,c13b0,c13b1⟩ :=ineg c13 H
      simp only [Option.some.injEq,Prod.mk.injEq] at H
      obtain ⟨rfl,rfl⟩ :=H
      go_enter Tryz.func57,Tryz.ntmps57
      go_wp2_with (((with_reducible refine gate_callee (f :=60) rfl ?_);refine goesL_ (some 11) rfl rfl Tryz.func60 (by kernel_rfl) rfl #[.int .i64 a0,.int .i64 a1,.int .i64 a2] rfl (by (try simp only [List.map_toArray,List.map_cons,List.map_nil]);rfl) ?_;(with_reducible refine (ycm.calls k a0 a1 a2 true _ A4.out).mono ?_);rintro e w' ⟨rfl,⟨nd,rfl⟩⟩;refine ⟨_,rfl,?_⟩))
      go_ret2
      exact ⟨by rfl,by repeat (first | exact Drawn0.refl _ | apply Drawn0.step)⟩
    ·obtain ⟨H,c12b0,c12b1⟩ :=ineg c12 H
     simp only [Option.some.injEq,Prod.mk.injEq] at H
     obtain ⟨rfl,rfl⟩ :=H
     go_enter Tryz.func57,Tryz.ntmps57
     go_wp2_with (((with_reducible refine gate_callee (f :=60) rfl ?_);refine goesL_ (some 11) rfl rfl Tryz.func60 (by kernel_rfl) rfl #[.int .i64 a0,.int .i64 a1,.int .i64 a2] rfl (by (try simp only [List.map_toArray,List.map_cons,List.map_nil]);rfl) ?_;(with_reducible refine (ycm.calls k a0 a1 a2 true _ A4.out).mono ?_);rintro e w' ⟨rfl,⟨nd,rfl⟩⟩;refine ⟨_,rfl,?_⟩))
     go_ret2
     exact ⟨by rfl,by repeat (first | exact Drawn0.refl _ | apply Drawn0.step)⟩
   ·obtain ⟨H,c11b0,c11b1⟩ :=ineg c11 H
    simp only [Option.some.injEq,Prod.mk.injEq] at H
    obtain ⟨rfl,rfl⟩ :=H
    go_enter Tryz.func57,Tryz.ntmps57
    go_wp2_with (((with_reducible refine gate_callee (f :=60) rfl ?_);refine goesL_ (some 11) rfl rfl Tryz.func60 (by kernel_rfl) rfl #[.int .i64 a0,.int .i64 a1,.int .i64 a2] rfl (by (try simp only [List.map_toArray,List.map_cons,List.map_nil]);rfl) ?_;(with_reducible refine (ycm.calls k a0 a1 a2 true _ A4.out).mono ?_);rintro e w' ⟨rfl,⟨nd,rfl⟩⟩;refine ⟨_,rfl,?_⟩))
    go_ret2
    exact ⟨by rfl,by repeat (first | exact Drawn0.refl _ | apply Drawn0.step)⟩
 ·replace c5 :=Bool.eq_false_iff.mpr c5
  subst c5
  have H1 : (some (false,0)) = some (r1,r2) :=by rw [if_neg (show ¬ (false = true) by decide)] at H;exact H
  clear H
  have H :=H1
  clear H1
  simp only [Option.some.injEq,Prod.mk.injEq] at H
  obtain ⟨rfl,rfl⟩ :=H
  go_enter Tryz.func57,Tryz.ntmps57
  go_wp2_with (((with_reducible refine gate_callee (f :=60) rfl ?_);refine goesL_ (some 11) rfl rfl Tryz.func60 (by kernel_rfl) rfl #[.int .i64 a0,.int .i64 a1,.int .i64 a2] rfl (by (try simp only [List.map_toArray,List.map_cons,List.map_nil]);rfl) ?_;(with_reducible refine (ycm.calls k a0 a1 a2 false _ A4.out).mono ?_);rintro e w' ⟨rfl,⟨nd,rfl⟩⟩;refine ⟨_,rfl,?_⟩))
  go_ret2
  exact ⟨by rfl,by repeat (first | exact Drawn0.refl _ | apply Drawn0.step)⟩

/-! ### decode_size: function 58 -/
mutual
def ycq.j1 : Nat → Int → Bool → Int → Option (Int)
 | 0,_,_,_ => none
 | k + 1,x1,x7,x9 => if x1 > 0 then (if x7 = true then (some (wrap64 ((wrap64 (x9 + 1)) + 1))) else (some (wrap64 (x9 + 1)))) else (if x7 = true then (some (wrap64 (x9 + 1))) else (some x9))
def ycq.j0 : Nat → Int → Bool → Int → Int → Bool → Option (Int)
 | 0,_,_,_,_,_ => none
 | k + 1,x1,x7,x9,x19,x20 => if x20 = true then (ycq.j1 k x1 x7 (wrap64 (x9 + 1))) else (if x19 = 3 then (some 4) else (ycq.j1 k x1 x7 x9))
end
def ycq.f (k : Nat) (a0 : Int) (a1 : Int) (a2 : Int) : Option (Int) :=(ycw.f k a0 a1 a2).bind fun bt198 => (if a0 = 1 then (ycq.j0 k a1 bt198.1 (wrap64 (1 + bt198.2)) a0 (a0 == 1)) else (ycq.j0 k a1 bt198.1 (wrap64 (1 + bt198.2)) a0 (a0 == 2)))
theorem ycq.mono_l : ∀ k,(∀ y0 y1 y2,LeO (ycq.j1 k y0 y1 y2) (ycq.j1 (k + 1) y0 y1 y2)) ∧ (∀ y0 y1 y2 y3 y4,LeO (ycq.j0 k y0 y1 y2 y3 y4) (ycq.j0 (k + 1) y0 y1 y2 y3 y4))
 | 0 => ⟨fun _ _ _ r h => by simp [ycq.j1] at h,fun _ _ _ _ _ r h => by simp [ycq.j0] at h⟩
 | k + 1 => by
  obtain ⟨ih0,ih1⟩ :=ycq.mono_l k
  refine ⟨?_,?_⟩
  ·intro y0 y1 y2
   unfold ycq.j1
   repeat' first
   | (with_reducible exact ih0 _ _ _)
   | (with_reducible exact ih1 _ _ _ _ _)
   | (with_reducible exact ycw.mono _ _ _ _)
   | (with_reducible exact LeO.refl _)
   | (with_reducible exact LeO.none _)
   | (with_reducible refine LeO.ite ?_ ?_)
   | (with_reducible refine LeO.bind ?_ (fun _ => ?_))
   | exact ih0 _ _ _
   | exact ih1 _ _ _ _ _
   | exact ycw.mono _ _ _ _
   | exact LeO.none _
   | refine LeO.ite ?_ ?_
   | refine LeO.bind ?_ (fun _ => ?_)
  ·intro y0 y1 y2 y3 y4
   unfold ycq.j0
   repeat' first
   | (with_reducible exact ih0 _ _ _)
   | (with_reducible exact ih1 _ _ _ _ _)
   | (with_reducible exact ycw.mono _ _ _ _)
   | (with_reducible exact LeO.refl _)
   | (with_reducible exact LeO.none _)
   | (with_reducible refine LeO.ite ?_ ?_)
   | (with_reducible refine LeO.bind ?_ (fun _ => ?_))
   | exact ih0 _ _ _
   | exact ih1 _ _ _ _ _
   | exact ycw.mono _ _ _ _
   | exact LeO.none _
   | refine LeO.ite ?_ ?_
   | refine LeO.bind ?_ (fun _ => ?_)
theorem ycq.mono : ∀ a0 a1 a2 k,LeO (ycq.f k a0 a1 a2) (ycq.f (k + 1) a0 a1 a2) :=by
 intro a0 a1 a2 k
 obtain ⟨ih0,ih1⟩ :=ycq.mono_l k
 unfold ycq.f
 repeat' first
   | (with_reducible exact ih0 _ _ _)
   | (with_reducible exact ih1 _ _ _ _ _)
   | (with_reducible exact ycw.mono _ _ _ _)
   | (with_reducible exact LeO.refl _)
   | (with_reducible exact LeO.none _)
   | (with_reducible refine LeO.ite ?_ ?_)
   | (with_reducible refine LeO.bind ?_ (fun _ => ?_))
   | exact ih0 _ _ _
   | exact ih1 _ _ _ _ _
   | exact ycw.mono _ _ _ _
   | exact LeO.none _
   | refine LeO.ite ?_ ?_
   | refine LeO.bind ?_ (fun _ => ?_)
theorem ycq.calls (k : Nat) (a0 : Int) (a1 : Int) (a2 : Int) (r : Int) (w : World) (h : ycq.f k a0 a1 a2 = some r) :
  Calls Tryz.prog 58 #[.int .i64 a0,.int .i64 a1,.int .i64 a2] w fun e w' => e = .returned (.int .i64 r) ∧ Drawn0 w w' :=by
 have H : ((ycw.f k a0 a1 a2).bind fun bt198 => (if a0 = 1 then (ycq.j0 k a1 bt198.1 (wrap64 (1 + bt198.2)) a0 (a0 == 1)) else (ycq.j0 k a1 bt198.1 (wrap64 (1 + bt198.2)) a0 (a0 == 2)))) = some r :=h
 clear h
 replace H :=Option.bind_eq_some_iff.mp H
 obtain ⟨⟨t198,t199⟩,A40,H⟩ :=H
 replace H : (if a0 = 1 then (ycq.j0 k a1 t198 (wrap64 (1 + t199)) a0 (a0 == 1)) else (ycq.j0 k a1 t198 (wrap64 (1 + t199)) a0 (a0 == 2))) = some r :=H
 have A4 :=Aside0.mk A40
 clear A40
 have HC5 :=Aside0.mk H
 clear H
 go_enter Tryz.func58,Tryz.ntmps58
 go_upto_block 0 with (((with_reducible refine gate_callee (f :=57) rfl ?_);refine goesL_ (some 14) rfl rfl Tryz.func57 (by kernel_rfl) rfl #[.int .i64 a0,.int .i64 a1,.int .i64 a2] rfl (by (try simp only [List.map_toArray,List.map_cons,List.map_nil]);rfl) ?_;(with_reducible refine (ycw.calls k a0 a1 a2 t198 t199 _ A4.out).mono ?_);rintro e w' ⟨rfl,⟨nd,rfl⟩⟩;refine ⟨_,rfl,?_⟩))
 (try simp only [Act.put,List.setIfInBounds_toArray,List.set_cons_zero,List.set_cons_succ])
 go_cut [9] (fun v9 wc => ∃ (kq : Nat) (x9_4 : Int),v9 = .int .i64 x9_4 ∧ Aside0 (ycq.j1 kq a1 t198 x9_4 = some r) ∧ Aside0 (kq ≤ k) ∧ Drawn0 w wc)
 case first =>
  have H :=HC5.out
  clear HC5
  have HC6 :=Aside0.mk H
  clear H
  go_upto_if 20 with (fail)
  go_cut [20] (fun v20 wc => ∃ (kq : Nat) (x20_5 : Bool),v20 = .bool x20_5 ∧ Aside0 (ycq.j0 kq a1 t198 (wrap64 (1 + t199)) a0 x20_5 = some r) ∧ Aside0 (kq ≤ k) ∧ Drawn0 w wc)
  case first =>
   have H :=HC6.out
   clear HC6
   by_cases c7 : a0 = 1
   ·obtain ⟨H,c7b0,c7b1⟩ :=ipos c7 H;clear c7
    (rw [c7b0])
    have H' :=Aside0.mk H
    clear H
    go_wp2
    go_meet
    case rel => exact ⟨_,((a0 == 1)),(by (simp [*];done)),H',⟨by omega⟩,by repeat (first | exact Drawn0.refl _ | apply Drawn0.step)⟩
   ·obtain ⟨H,c7b0,c7b1⟩ :=ineg c7 H
    (rw [c7b0])
    have H' :=Aside0.mk H
    clear H
    go_wp2
    go_meet
    case rel => exact ⟨_,((a0 == 2)),(by rfl),H',⟨by omega⟩,by repeat (first | exact Drawn0.refl _ | apply Drawn0.step)⟩
  case rest =>
   clear HC6
   try clear p2
   try clear c5
   try clear p6
   try clear c7
   try clear c7b0
   try clear c7b1
   obtain ⟨kq,x20_5,rfl,HA,HJ5,⟨mc5,rfl⟩⟩ :=hcut
   cases kq with
   | zero => exact absurd HA.out (by simp [ycq.j0])
   | succ kj5 =>
    have H :=HA.out
    clear HA
    simp only [ycq.j0] at H
    by_cases c8 : x20_5 = true
    ·subst c8
     have H1 : (ycq.j1 kj5 a1 t198 (wrap64 ((wrap64 (1 + t199)) + 1))) = some r :=by rw [if_pos rfl] at H;exact H
     clear H
     have H :=H1
     clear H1
     have H' :=Aside0.mk H
     clear H
     go_wp2
     go_meet
     case rel => exact ⟨_,(wrap64 ((wrap64 (1 + t199)) + 1)),(by rfl),H',⟨by have :=HJ5.out;omega⟩,by repeat (first | exact Drawn0.refl _ | apply Drawn0.step)⟩
    ·replace c8 :=Bool.eq_false_iff.mpr c8
     subst c8
     have H1 : (if a0 = 3 then (some 4) else (ycq.j1 kj5 a1 t198 (wrap64 (1 + t199)))) = some r :=by rw [if_neg (show ¬ (false = true) by decide)] at H;exact H
     clear H
     have H :=H1
     clear H1
     by_cases c9 : a0 = 3
     ·obtain ⟨H,c9b0,c9b1⟩ :=ipos c9 H;clear c9
      obtain rfl :=Option.some.inj H
      go_wp2
      go_ret
      exact ⟨by rfl,by repeat (first | exact Drawn0.refl _ | apply Drawn0.step)⟩
     ·obtain ⟨H,c9b0,c9b1⟩ :=ineg c9 H
      have H' :=Aside0.mk H
      clear H
      go_wp2
      go_meet
      case rel => exact ⟨_,((wrap64 (1 + t199))),(by rfl),H',⟨by have :=HJ5.out;omega⟩,by repeat (first | exact Drawn0.refl _ | apply Drawn0.step)⟩
 case rest =>
  clear HC5
  try clear p2
  try clear c5
  try clear p6
  try clear c7
  try clear c7b0
  try clear c7b1
  try clear c8
  try clear c9
  try clear c9b0
  try clear c9b1
  try clear p2
  try clear p6
  obtain ⟨kq,x9_4,rfl,HA,HJ4,⟨mc4,rfl⟩⟩ :=hcut
  cases kq with
  | zero => exact absurd HA.out (by simp [ycq.j1])
  | succ kj4 =>
   have H :=HA.out
   clear HA
   simp only [ycq.j1] at H
   by_cases c10 : a1 > 0
   ·rw [if_pos c10] at H
    have c10b0 : decide (0 < a1) = true :=decide_eq_true c10
    clear c10
    by_cases c11 : t198 = true
    ·subst c11
     have H1 : (some (wrap64 ((wrap64 (x9_4 + 1)) + 1))) = some r :=by rw [if_pos rfl] at H;exact H
     clear H
     have H :=H1
     clear H1
     obtain rfl :=Option.some.inj H
     go_wp2
     go_ret
     exact ⟨by rfl,by repeat (first | exact Drawn0.refl _ | apply Drawn0.step)⟩
    ·replace c11 :=Bool.eq_false_iff.mpr c11
     subst c11
     have H1 : (some (wrap64 (x9_4 + 1))) = some r :=by rw [if_neg (show ¬ (false = true) by decide)] at H;exact H
     clear H
     have H :=H1
     clear H1
     obtain rfl :=Option.some.inj H
     go_wp2
     go_ret
     exact ⟨by rfl,by repeat (first | exact Drawn0.refl _ | apply Drawn0.step)⟩
   ·rw [if_neg c10] at H
    have c10b0 : decide (0 < a1) = false :=decide_eq_false c10
    clear c10
    by_cases c12 : t198 = true
    ·subst c12
     have H1 : (some (wrap64 (x9_4 + 1))) = some r :=by rw [if_pos rfl] at H;exact H
     clear H
     have H :=H1
     clear H1
     obtain rfl :=Option.some.inj H
     go_wp2
     go_ret
     exact ⟨by rfl,by repeat (first | exact Drawn0.refl _ | apply Drawn0.step)⟩
    ·replace c12 :=Bool.eq_false_iff.mpr c12
     subst c12
     have H1 : (some x9_4) = some r :=by rw [if_neg (show ¬ (false = true) by decide)] at H;exact H
     clear H
     have H :=H1
     clear H1
     obtain rfl :=Option.some.inj H
     go_wp2
     go_ret
     exact ⟨by rfl,by repeat (first | exact Drawn0.refl _ | apply Drawn0.step)⟩

/-! ### decode_relative: function 59 -/
def ydd.f (a0 : Int) : Option (Bool) :=if a0 = 16 then (some true) else (if a0 = 24 then (some true) else (if a0 = 32 then (some true) else (if a0 = 40 then (some true) else (if a0 = 48 then (some true) else (if a0 = 56 then (some true) else (some false))))))
theorem ydd.calls (a0 : Int) (r : Bool) (w : World) (h : ydd.f a0 = some r) :
  Calls Tryz.prog 59 #[.int .i64 a0] w fun e w' => e = .returned (.bool r) ∧ Drawn0 w w' :=by
 have H : (if a0 = 16 then (some true) else (if a0 = 24 then (some true) else (if a0 = 32 then (some true) else (if a0 = 40 then (some true) else (if a0 = 48 then (some true) else (if a0 = 56 then (some true) else (some false))))))) = some r :=h
 clear h
 by_cases c2 : a0 = 16
 ·obtain ⟨H,c2b0,c2b1⟩ :=ipos c2 H;clear c2
  obtain rfl :=Option.some.inj H
  go_enter Tryz.func59,Tryz.ntmps59
  go_wp2
  go_ret
  exact ⟨by rfl,by repeat (exact Drawn0.refl _)⟩
 ·obtain ⟨H,c2b0,c2b1⟩ :=ineg c2 H
  by_cases c3 : a0 = 24
  ·obtain ⟨H,c3b0,c3b1⟩ :=ipos c3 H;clear c3
   obtain rfl :=Option.some.inj H
   go_enter Tryz.func59,Tryz.ntmps59
   go_wp2
   go_ret
   exact ⟨by rfl,by repeat (exact Drawn0.refl _)⟩
  ·obtain ⟨H,c3b0,c3b1⟩ :=ineg c3 H
   by_cases c4 : a0 = 32
   ·obtain ⟨H,c4b0,c4b1⟩ :=ipos c4 H;clear c4
    obtain rfl :=Option.some.inj H
    go_enter Tryz.func59,Tryz.ntmps59
    go_wp2
    go_ret
    exact ⟨by rfl,by repeat (exact Drawn0.refl _)⟩
   ·obtain ⟨H,c4b0,c4b1⟩ :=ineg c4 H
    by_cases c5 : a0 = 40
    ·obtain ⟨H,c5b0,c5b1⟩ :=ipos c5 H;clear c5
     obtain rfl :=Option.some.inj H
     go_enter Tryz.func59,Tryz.ntmps59
     go_wp2
     go_ret
     exact ⟨by rfl,by repeat (exact Drawn0.refl _)⟩
    ·obtain ⟨H,c5b0,c5b1⟩ :=ineg c5 H
     by_cases c6 : a0 = 48
     ·obtain ⟨H,c6b0,c6b1⟩ :=ipos c6 H;clear c6
      obtain rfl :=Option.some.inj H
      go_enter Tryz.func59,Tryz.ntmps59
      go_wp2
      go_ret
      exact ⟨by rfl,by repeat (exact Drawn0.refl _)⟩
     ·obtain ⟨H,c6b0,c6b1⟩ :=ineg c6 H
      by_cases c7 : a0 = 56
      ·obtain ⟨H,c7b0,c7b1⟩ :=ipos c7 H;clear c7
       obtain rfl :=Option.some.inj H
       go_enter Tryz.func59,Tryz.ntmps59
       go_wp2
       go_ret
       exact ⟨by rfl,by repeat (exact Drawn0.refl _)⟩
      ·obtain ⟨H,c7b0,c7b1⟩ :=ineg c7 H
       obtain rfl :=Option.some.inj H
       go_enter Tryz.func59,Tryz.ntmps59
       go_wp2
       go_ret
       exact ⟨by rfl,by repeat (exact Drawn0.refl _)⟩

end Go.Proofs.YtnelghpendfdmaaGreatDoor.HFun
