-- Written by a program of this session out of Lean's print of the program (after the form of the kit's print.sh, with own turns); Lean checks it.
import Derived.Test.YtnelghpendfdmaaGreatDoorHFunx2
namespace Go.Proofs.YtnelghpendfdmaaGreatDoor.HFun
set_option maxRecDepth 100000
set_option maxHeartbeats 16000000
open Go.RowKit Go.Proofs.YtnelghpendfdmaaGreatDoorW.PrintWords Go.Proofs.YtnelghpendfdmaaGreatDoorW.PrintLast Go.Proofs.YtnelghpendfdmaaGreatDoorW.PrintMore
attribute [local go_sem] max2_int min2_int max_two min_two max_three min_three max_four min_four   -- for this text's walks alone
set_option linter.unusedVariables false
set_option linter.unusedSimpArgs false

/-! ### shift_moved: function 155 -/
mutual
def yco.j0 : Nat → Int → Int → Int → Int → Int → Option (Int × Int)
 | 0,_,_,_,_,_ => none
 | k + 1,x0,x1,x2,x6,x7 => if (Go.bits .and .i64 x0 7) = 0 then (yco.j1 k x0 x1 x2 x6 x7 0 (Go.bits .and .i64 x0 7) ((Go.bits .and .i64 x0 7) == 0)) else (yco.j1 k x0 x1 x2 x6 x7 0 (Go.bits .and .i64 x0 7) ((Go.bits .and .i64 x0 7) == 1))
def yco.j1 : Nat → Int → Int → Int → Int → Int → Int → Int → Bool → Option (Int × Int)
 | 0,_,_,_,_,_,_,_,_ => none
 | k + 1,x0,x1,x2,x6,x7,x8,x21,x22 => if x22 = true then (if (Go.bits .and .i64 x0 1) = 0 then (some (Go.bits .or .u8 x6 x7,x7)) else (some (Go.bits .or .u8 x6 ((x7 * 128) % 256),x7))) else (if x21 = 2 then (yco.j2 k x0 x1 x2 x6 x7 x8 x21 (x21 == 2)) else (yco.j2 k x0 x1 x2 x6 x7 x8 x21 (x21 == 3)))
def yco.j2 : Nat → Int → Int → Int → Int → Int → Int → Int → Bool → Option (Int × Int)
 | 0,_,_,_,_,_,_,_,_ => none
 | k + 1,x0,x1,x2,x6,x7,x8,x21,x26 => if x26 = true then (if (Go.bits .and .i64 x0 1) = 0 then (some (Go.bits .or .u8 x6 (Go.bits .and .u8 x2 1),x7)) else (some (Go.bits .or .u8 x6 (((Go.bits .and .u8 x2 1) * 128) % 256),x7))) else (if x21 = 5 then (if (Go.bits .and .i64 x0 1) = 0 then (some (Go.bits .or .u8 x6 (x1 / 128),x7)) else (some (Go.bits .or .u8 x6 (((x1 / 128) * 128) % 256),x7))) else (if x21 = 6 then (if (Go.bits .and .i64 x0 1) = 0 then (some (Go.bits .or .u8 x6 1,x7)) else (some (Go.bits .or .u8 x6 (1 * 128),x7))) else (if (Go.bits .and .i64 x0 1) = 0 then (some (Go.bits .or .u8 x6 x8,x7)) else (some (Go.bits .or .u8 x6 ((x8 * 128) % 256),x7)))))
end
def yco.f (k : Nat) (a0 : Int) (a1 : Int) (a2 : Int) : Option (Int × Int) :=if (Go.bits .and .i64 a0 1) = 0 then (yco.j0 k a0 a1 a2 ((a1 * 2) % 256) (a1 / 128)) else (yco.j0 k a0 a1 a2 (a1 / 2) (Go.bits .and .u8 a1 1))
theorem yco.mono_l : ∀ k,(∀ y0 y1 y2 y3 y4,LeO (yco.j0 k y0 y1 y2 y3 y4) (yco.j0 (k + 1) y0 y1 y2 y3 y4)) ∧ (∀ y0 y1 y2 y3 y4 y5 y6 y7,LeO (yco.j1 k y0 y1 y2 y3 y4 y5 y6 y7) (yco.j1 (k + 1) y0 y1 y2 y3 y4 y5 y6 y7)) ∧ (∀ y0 y1 y2 y3 y4 y5 y6 y7,LeO (yco.j2 k y0 y1 y2 y3 y4 y5 y6 y7) (yco.j2 (k + 1) y0 y1 y2 y3 y4 y5 y6 y7))
 | 0 => ⟨fun _ _ _ _ _ r h => by simp [yco.j0] at h,fun _ _ _ _ _ _ _ _ r h => by simp [yco.j1] at h,fun _ _ _ _ _ _ _ _ r h => by simp [yco.j2] at h⟩
 | k + 1 => by
  obtain ⟨ih0,ih1,ih2⟩ :=yco.mono_l k
  refine ⟨?_,?_,?_⟩
  ·intro y0 y1 y2 y3 y4
   unfold yco.j0
   repeat' first
   | (with_reducible exact ih0 _ _ _ _ _)
   | (with_reducible exact ih1 _ _ _ _ _ _ _ _)
   | (with_reducible exact ih2 _ _ _ _ _ _ _ _)
   | (with_reducible exact LeO.refl _)
   | (with_reducible exact LeO.none _)
   | (with_reducible refine LeO.ite ?_ ?_)
   | (with_reducible refine LeO.bind ?_ (fun _ => ?_))
   | exact ih0 _ _ _ _ _
   | exact ih1 _ _ _ _ _ _ _ _
   | exact ih2 _ _ _ _ _ _ _ _
   | exact LeO.none _
   | refine LeO.ite ?_ ?_
   | refine LeO.bind ?_ (fun _ => ?_)
  ·intro y0 y1 y2 y3 y4 y5 y6 y7
   unfold yco.j1
   repeat' first
   | (with_reducible exact ih0 _ _ _ _ _)
   | (with_reducible exact ih1 _ _ _ _ _ _ _ _)
   | (with_reducible exact ih2 _ _ _ _ _ _ _ _)
   | (with_reducible exact LeO.refl _)
   | (with_reducible exact LeO.none _)
   | (with_reducible refine LeO.ite ?_ ?_)
   | (with_reducible refine LeO.bind ?_ (fun _ => ?_))
   | exact ih0 _ _ _ _ _
   | exact ih1 _ _ _ _ _ _ _ _
   | exact ih2 _ _ _ _ _ _ _ _
   | exact LeO.none _
   | refine LeO.ite ?_ ?_
   | refine LeO.bind ?_ (fun _ => ?_)
  ·intro y0 y1 y2 y3 y4 y5 y6 y7
   unfold yco.j2
   repeat' first
   | (with_reducible exact ih0 _ _ _ _ _)
   | (with_reducible exact ih1 _ _ _ _ _ _ _ _)
   | (with_reducible exact ih2 _ _ _ _ _ _ _ _)
   | (with_reducible exact LeO.refl _)
   | (with_reducible exact LeO.none _)
   | (with_reducible refine LeO.ite ?_ ?_)
   | (with_reducible refine LeO.bind ?_ (fun _ => ?_))
   | exact ih0 _ _ _ _ _
   | exact ih1 _ _ _ _ _ _ _ _
   | exact ih2 _ _ _ _ _ _ _ _
   | exact LeO.none _
   | refine LeO.ite ?_ ?_
   | refine LeO.bind ?_ (fun _ => ?_)
theorem yco.mono : ∀ a0 a1 a2 k,LeO (yco.f k a0 a1 a2) (yco.f (k + 1) a0 a1 a2) :=by
 intro a0 a1 a2 k
 obtain ⟨ih0,ih1,ih2⟩ :=yco.mono_l k
 unfold yco.f
 repeat' first
   | (with_reducible exact ih0 _ _ _ _ _)
   | (with_reducible exact ih1 _ _ _ _ _ _ _ _)
   | (with_reducible exact ih2 _ _ _ _ _ _ _ _)
   | (with_reducible exact LeO.refl _)
   | (with_reducible exact LeO.none _)
   | (with_reducible refine LeO.ite ?_ ?_)
   | (with_reducible refine LeO.bind ?_ (fun _ => ?_))
   | exact ih0 _ _ _ _ _
   | exact ih1 _ _ _ _ _ _ _ _
   | exact ih2 _ _ _ _ _ _ _ _
   | exact LeO.none _
   | refine LeO.ite ?_ ?_
   | refine LeO.bind ?_ (fun _ => ?_)
theorem yco.calls (k : Nat) (a0 : Int) (a1 : Int) (a2 : Int) (r1 : Int) (r2 : Int) (w : World) (h : yco.f k a0 a1 a2 = some (r1,r2)) :
  Calls Tryz.prog 155 #[.int .i64 a0,.int .u8 a1,.int .u8 a2] w fun e w' => e = .returned (.tuple #[.int .u8 r1,.int .u8 r2]) ∧ Drawn0 w w' :=by
 have H : (if (Go.bits .and .i64 a0 1) = 0 then (yco.j0 k a0 a1 a2 ((a1 * 2) % 256) (a1 / 128)) else (yco.j0 k a0 a1 a2 (a1 / 2) (Go.bits .and .u8 a1 1))) = some (r1,r2) :=h
 clear h
 have HC4 :=Aside0.mk H
 clear H
 go_enter Tryz.func155,Tryz.ntmps155
 go_upto_if 11 with (fail)
 go_cut [6,7] (fun v6 v7 wc => ∃ (kq : Nat) (x6_3 : Int) (x7_3 : Int),v6 = .int .u8 x6_3 ∧ v7 = .int .u8 x7_3 ∧ Aside0 (yco.j0 kq a0 a1 a2 x6_3 x7_3 = some (r1,r2)) ∧ Aside0 (kq ≤ k) ∧ Drawn0 w wc)
 case first =>
  have H :=HC4.out
  clear HC4
  by_cases c5 : (Go.bits .and .i64 a0 1) = 0
  ·obtain ⟨H,c5b0,c5b1⟩ :=ipos c5 H;clear c5
   (rw [c5b0])
   have H' :=Aside0.mk H
   clear H
   go_wp2
   go_meet
   case rel => exact ⟨_,((a1 * 2) % 256),(a1 / 128),(by rfl),(by rfl),H',⟨by omega⟩,by repeat (exact Drawn0.refl _)⟩
  ·obtain ⟨H,c5b0,c5b1⟩ :=ineg c5 H
   (rw [c5b0])
   have H' :=Aside0.mk H
   clear H
   go_wp2
   go_meet
   case rel => exact ⟨_,(a1 / 2),(Go.bits .and .u8 a1 1),(by rfl),(by rfl),H',⟨by omega⟩,by repeat (exact Drawn0.refl _)⟩
 case rest =>
  clear HC4
  try clear c1
  try clear p2
  try clear c5
  try clear c5b0
  try clear c5b1
  obtain ⟨kq,x6_3,x7_3,rfl,rfl,HA,HJ3,⟨mc3,rfl⟩⟩ :=hcut
  cases kq with
  | zero => exact absurd HA.out (by simp [yco.j0])
  | succ kj3 =>
   have H :=HA.out
   clear HA
   simp only [yco.j0] at H
   have HC6 :=Aside0.mk H
   clear H
   go_upto_if 22 with (fail)
   go_cut [22] (fun v22 wc => ∃ (kq : Nat) (x22_5 : Bool),v22 = .bool x22_5 ∧ Aside0 (yco.j1 kq a0 a1 a2 x6_3 x7_3 0 (Go.bits .and .i64 a0 7) x22_5 = some (r1,r2)) ∧ Aside0 (kq ≤ kj3) ∧ Drawn0 w wc)
   case first =>
    have H :=HC6.out
    clear HC6
    by_cases c7 : (Go.bits .and .i64 a0 7) = 0
    ·obtain ⟨H,c7b0,c7b1⟩ :=ipos c7 H;clear c7
     (rw [c7b0])
     have H' :=Aside0.mk H
     clear H
     go_wp2
     go_meet
     case rel => exact ⟨_,(((Go.bits .and .i64 a0 7) == 0)),(by (simp [*];done)),H',⟨by have :=HJ3.out;omega⟩,by repeat (first | exact Drawn0.refl _ | apply Drawn0.step)⟩
    ·obtain ⟨H,c7b0,c7b1⟩ :=ineg c7 H
     (rw [c7b0])
     have H' :=Aside0.mk H
     clear H
     go_wp2
     go_meet
     case rel => exact ⟨_,(((Go.bits .and .i64 a0 7) == 1)),(by rfl),H',⟨by have :=HJ3.out;omega⟩,by repeat (first | exact Drawn0.refl _ | apply Drawn0.step)⟩
   case rest =>
    clear HC6
    try clear c1
    try clear p2
    try clear c3
    try clear c5
    try clear c5b0
    try clear c5b1
    try clear c7
    try clear c7b0
    try clear c7b1
    try clear p2
    obtain ⟨kq,x22_5,rfl,HA,HJ5,⟨mc5,rfl⟩⟩ :=hcut
    cases kq with
    | zero => exact absurd HA.out (by simp [yco.j1])
    | succ kj5 =>
     have H :=HA.out
     clear HA
     simp only [yco.j1] at H
     by_cases c8 : x22_5 = true
     ·subst c8
      have H1 : (if (Go.bits .and .i64 a0 1) = 0 then (some (Go.bits .or .u8 x6_3 x7_3,x7_3)) else (some (Go.bits .or .u8 x6_3 ((x7_3 * 128) % 256),x7_3))) = some (r1,r2) :=by rw [if_pos rfl] at H;exact H
      clear H
      have H :=H1
      clear H1
      by_cases c9 : (Go.bits .and .i64 a0 1) = 0
      ·obtain ⟨H,c9b0,c9b1⟩ :=ipos c9 H;clear c9
       simp only [Option.some.injEq,Prod.mk.injEq] at H
       obtain ⟨rfl,rfl⟩ :=H
       go_wp2
       go_ret2
       exact ⟨by rfl,by repeat (first | exact Drawn0.refl _ | apply Drawn0.step)⟩
      ·obtain ⟨H,c9b0,c9b1⟩ :=ineg c9 H
       simp only [Option.some.injEq,Prod.mk.injEq] at H
       obtain ⟨rfl,rfl⟩ :=H
       go_wp2
       go_ret2
       exact ⟨by rfl,by repeat (first | exact Drawn0.refl _ | apply Drawn0.step)⟩
     ·replace c8 :=Bool.eq_false_iff.mpr c8
      subst c8
      have H1 : (if (Go.bits .and .i64 a0 7) = 2 then (yco.j2 kj5 a0 a1 a2 x6_3 x7_3 0 (Go.bits .and .i64 a0 7) ((Go.bits .and .i64 a0 7) == 2)) else (yco.j2 kj5 a0 a1 a2 x6_3 x7_3 0 (Go.bits .and .i64 a0 7) ((Go.bits .and .i64 a0 7) == 3))) = some (r1,r2) :=by rw [if_neg (show ¬ (false = true) by decide)] at H;exact H
      clear H
      have H :=H1
      clear H1
      have HC10 :=Aside0.mk H
      clear H
      go_upto_if 26 with (fail)
      go_cut [26] (fun v26 wc => ∃ (kq : Nat) (x26_9 : Bool),v26 = .bool x26_9 ∧ Aside0 (yco.j2 kq a0 a1 a2 x6_3 x7_3 0 (Go.bits .and .i64 a0 7) x26_9 = some (r1,r2)) ∧ Aside0 (kq ≤ kj5) ∧ Drawn0 w wc)
      case first =>
       have H :=HC10.out
       clear HC10
       by_cases c11 : (Go.bits .and .i64 a0 7) = 2
       ·obtain ⟨H,c11b0,c11b1⟩ :=ipos c11 H;clear c11
        (rw [c11b0])
        have H' :=Aside0.mk H
        clear H
        go_wp2
        go_meet
        case rel => exact ⟨_,(((Go.bits .and .i64 a0 7) == 2)),(by (simp [*];done)),H',⟨by have :=HJ3.out;have :=HJ5.out;omega⟩,by repeat (first | exact Drawn0.refl _ | apply Drawn0.step)⟩
       ·obtain ⟨H,c11b0,c11b1⟩ :=ineg c11 H
        (rw [c11b0])
        have H' :=Aside0.mk H
        clear H
        go_wp2
        go_meet
        case rel => exact ⟨_,(((Go.bits .and .i64 a0 7) == 3)),(by rfl),H',⟨by have :=HJ3.out;have :=HJ5.out;omega⟩,by repeat (first | exact Drawn0.refl _ | apply Drawn0.step)⟩
      case rest =>
       clear HC10
       try clear c1
       try clear p2
       try clear c3
       try clear c5
       try clear c5b0
       try clear c5b1
       try clear c7
       try clear c7b0
       try clear c7b1
       try clear c8
       try clear c9
       try clear c9b0
       try clear c9b1
       try clear c11
       try clear c11b0
       try clear c11b1
       try clear p2
       obtain ⟨kq,x26_9,rfl,HA,HJ9,⟨mc9,rfl⟩⟩ :=hcut
       cases kq with
       | zero => exact absurd HA.out (by simp [yco.j2])
       | succ kj9 =>
        have H :=HA.out
        clear HA
        simp only [yco.j2] at H
        by_cases c12 : x26_9 = true
        ·subst c12
         have H1 : (if (Go.bits .and .i64 a0 1) = 0 then (some (Go.bits .or .u8 x6_3 (Go.bits .and .u8 a2 1),x7_3)) else (some (Go.bits .or .u8 x6_3 (((Go.bits .and .u8 a2 1) * 128) % 256),x7_3))) = some (r1,r2) :=by rw [if_pos rfl] at H;exact H
         clear H
         have H :=H1
         clear H1
         by_cases c13 : (Go.bits .and .i64 a0 1) = 0
         ·obtain ⟨H,c13b0,c13b1⟩ :=ipos c13 H;clear c13
          simp only [Option.some.injEq,Prod.mk.injEq] at H
          obtain ⟨rfl,rfl⟩ :=H
          go_wp2
          go_ret2
          exact ⟨by rfl,by repeat (first | exact Drawn0.refl _ | apply Drawn0.step)⟩
         ·obtain ⟨H,c13b0,c13b1⟩ :=ineg c13 H
          simp only [Option.some.injEq,Prod.mk.injEq] at H
          obtain ⟨rfl,rfl⟩ :=H
          go_wp2
          go_ret2
          exact ⟨by rfl,by repeat (first | exact Drawn0.refl _ | apply Drawn0.step)⟩
        ·replace c12 :=Bool.eq_false_iff.mpr c12
         subst c12
         have H1 : (if (Go.bits .and .i64 a0 7) = 5 then (if (Go.bits .and .i64 a0 1) = 0 then (some (Go.bits .or .u8 x6_3 (a1 / 128),x7_3)) else (some (Go.bits .or .u8 x6_3 (((a1 / 128) * 128) % 256),x7_3))) else (if (Go.bits .and .i64 a0 7) = 6 then (if (Go.bits .and .i64 a0 1) = 0 then (some (Go.bits .or .u8 x6_3 1,x7_3)) else (some (Go.bits .or .u8 x6_3 (1 * 128),x7_3))) else (if (Go.bits .and .i64 a0 1) = 0 then (some (Go.bits .or .u8 x6_3 0,x7_3)) else (some (Go.bits .or .u8 x6_3 ((0 * 128) % 256),x7_3))))) = some (r1,r2) :=by rw [if_neg (show ¬ (false = true) by decide)] at H;exact H
         clear H
         have H :=H1
         clear H1
         by_cases c14 : (Go.bits .and .i64 a0 7) = 5
         ·obtain ⟨H,c14b0,c14b1⟩ :=ipos c14 H;clear c14
          by_cases c15 : (Go.bits .and .i64 a0 1) = 0
          ·obtain ⟨H,c15b0,c15b1⟩ :=ipos c15 H;clear c15
           simp only [Option.some.injEq,Prod.mk.injEq] at H
           obtain ⟨rfl,rfl⟩ :=H
           go_wp2
           go_ret2
           exact ⟨by rfl,by repeat (first | exact Drawn0.refl _ | apply Drawn0.step)⟩
          ·obtain ⟨H,c15b0,c15b1⟩ :=ineg c15 H
           simp only [Option.some.injEq,Prod.mk.injEq] at H
           obtain ⟨rfl,rfl⟩ :=H
           go_wp2
           go_ret2
           exact ⟨by rfl,by repeat (first | exact Drawn0.refl _ | apply Drawn0.step)⟩
         ·obtain ⟨H,c14b0,c14b1⟩ :=ineg c14 H
          by_cases c16 : (Go.bits .and .i64 a0 7) = 6
          ·obtain ⟨H,c16b0,c16b1⟩ :=ipos c16 H;clear c16
           by_cases c17 : (Go.bits .and .i64 a0 1) = 0
           ·obtain ⟨H,c17b0,c17b1⟩ :=ipos c17 H;clear c17
            simp only [Option.some.injEq,Prod.mk.injEq] at H
            obtain ⟨rfl,rfl⟩ :=H
            go_wp2
            go_ret2
            exact ⟨by rfl,by repeat (first | exact Drawn0.refl _ | apply Drawn0.step)⟩
           ·obtain ⟨H,c17b0,c17b1⟩ :=ineg c17 H
            simp only [Option.some.injEq,Prod.mk.injEq] at H
            obtain ⟨rfl,rfl⟩ :=H
            go_wp2
            go_ret2
            exact ⟨by rfl,by repeat (first | exact Drawn0.refl _ | apply Drawn0.step)⟩
          ·obtain ⟨H,c16b0,c16b1⟩ :=ineg c16 H
           by_cases c18 : (Go.bits .and .i64 a0 1) = 0
           ·obtain ⟨H,c18b0,c18b1⟩ :=ipos c18 H;clear c18
            simp only [Option.some.injEq,Prod.mk.injEq] at H
            obtain ⟨rfl,rfl⟩ :=H
            go_wp2
            go_ret2
            exact ⟨by rfl,by repeat (first | exact Drawn0.refl _ | apply Drawn0.step)⟩
           ·obtain ⟨H,c18b0,c18b1⟩ :=ineg c18 H
            simp only [Option.some.injEq,Prod.mk.injEq] at H
            obtain ⟨rfl,rfl⟩ :=H
            go_wp2
            go_ret2
            exact ⟨by rfl,by repeat (first | exact Drawn0.refl _ | apply Drawn0.step)⟩

/-! ### shift_if1: function 157 -/
def ycx.f (a0 : Bool) (a1 : Int) : Option (Int) :=if a0 = true then (some a1) else (some 0)
theorem ycx.calls (a0 : Bool) (a1 : Int) (r : Int) (w : World) (h : ycx.f a0 a1 = some r) :
  Calls Tryz.prog 157 #[.bool a0,.int .u8 a1] w fun e w' => e = .returned (.int .u8 r) ∧ Drawn0 w w' :=by
 have H : (if a0 = true then (some a1) else (some 0)) = some r :=h
 clear h
 by_cases c3 : a0 = true
 ·subst c3
  have H1 : (some a1) = some r :=by rw [if_pos rfl] at H;exact H
  clear H
  have H :=H1
  clear H1
  obtain rfl :=Option.some.inj H
  go_enter Tryz.func157,Tryz.ntmps157
  go_wp2
  go_ret
  exact ⟨by rfl,by repeat (exact Drawn0.refl _)⟩
 ·replace c3 :=Bool.eq_false_iff.mpr c3
  subst c3
  have H1 : (some 0) = some r :=by rw [if_neg (show ¬ (false = true) by decide)] at H;exact H
  clear H
  have H :=H1
  clear H1
  obtain rfl :=Option.some.inj H
  go_enter Tryz.func157,Tryz.ntmps157
  go_wp2
  go_ret
  exact ⟨by rfl,by repeat (exact Drawn0.refl _)⟩

/-! ### shift_whole: function 156 -/
def yde.f (a0 : Int) : Option (Int) :=(ydi.f a0).bind fun t159 => ((ydg.f a0).bind fun t160 => ((ycx.f t160 4).bind fun t161 => (some (Go.bits .or .u8 t159 t161))))
theorem yde.calls (a0 : Int) (r : Int) (w : World) (h : yde.f a0 = some r) :
  Calls Tryz.prog 156 #[.int .u8 a0] w fun e w' => e = .returned (.int .u8 r) ∧ Drawn0 w w' :=by
 have H : ((ydi.f a0).bind fun t159 => ((ydg.f a0).bind fun t160 => ((ycx.f t160 4).bind fun t161 => (some (Go.bits .or .u8 t159 t161))))) = some r :=h
 clear h
 replace H :=Option.bind_eq_some_iff.mp H
 obtain ⟨t159,A20,H⟩ :=H
 replace H : ((ydg.f a0).bind fun t160 => ((ycx.f t160 4).bind fun t161 => (some (Go.bits .or .u8 t159 t161)))) = some r :=H
 have A2 :=Aside0.mk A20
 clear A20
 replace H :=Option.bind_eq_some_iff.mp H
 obtain ⟨t160,A30,H⟩ :=H
 replace H : ((ycx.f t160 4).bind fun t161 => (some (Go.bits .or .u8 t159 t161))) = some r :=H
 have A3 :=Aside0.mk A30
 clear A30
 replace H :=Option.bind_eq_some_iff.mp H
 obtain ⟨t161,A40,H⟩ :=H
 replace H : (some (Go.bits .or .u8 t159 t161)) = some r :=H
 have A4 :=Aside0.mk A40
 clear A40
 obtain rfl :=Option.some.inj H
 go_enter Tryz.func156,Tryz.ntmps156
 go_wp2_with (first | ((with_reducible refine gate_callee (f :=100) rfl ?_);refine goesL_ (some 4) rfl rfl Tryz.func100 (by kernel_rfl) rfl #[.int .u8 a0] rfl (by (try simp only [List.map_toArray,List.map_cons,List.map_nil]);rfl) ?_;(with_reducible refine (ydi.calls a0 t159 _ A2.out).mono ?_);rintro e w' ⟨rfl,⟨nd,rfl⟩⟩;refine ⟨_,rfl,?_⟩) | ((with_reducible refine gate_callee (f :=102) rfl ?_);refine goesL_ (some 6) rfl rfl Tryz.func102 (by kernel_rfl) rfl #[.int .u8 a0] rfl (by (try simp only [List.map_toArray,List.map_cons,List.map_nil]);rfl) ?_;(with_reducible refine (ydg.calls a0 t160 _ A3.out).mono ?_);rintro e w' ⟨rfl,⟨nd,rfl⟩⟩;refine ⟨_,rfl,?_⟩) | ((with_reducible refine gate_callee (f :=157) rfl ?_);refine goesL_ (some 7) rfl rfl Tryz.func157 (by kernel_rfl) rfl #[.bool t160,.int .u8 4] rfl (by (try simp only [List.map_toArray,List.map_cons,List.map_nil]);rfl) ?_;(with_reducible refine (ycx.calls t160 4 t161 _ A4.out).mono ?_);rintro e w' ⟨rfl,⟨nd,rfl⟩⟩;refine ⟨_,rfl,?_⟩))
 go_ret
 exact ⟨by rfl,by repeat (first | exact Drawn0.refl _ | apply Drawn0.step)⟩

/-! ### shift_Shift: function 116 -/
def ydj.f (k : Nat) (a0 : Int) (a1 : Int) (a2 : Int) : Option (Int × Int) :=(yco.f k a0 a1 a2).bind fun bt162 => ((yde.f bt162.1).bind fun t164 => (some (bt162.1,Go.bits .or .u8 t164 bt162.2)))
theorem ydj.mono : ∀ a0 a1 a2 k,LeO (ydj.f k a0 a1 a2) (ydj.f (k + 1) a0 a1 a2) :=by
 intro a0 a1 a2 k
 unfold ydj.f
 repeat' first
   | (with_reducible exact yco.mono _ _ _ _)
   | (with_reducible exact LeO.refl _)
   | (with_reducible exact LeO.none _)
   | (with_reducible refine LeO.ite ?_ ?_)
   | (with_reducible refine LeO.bind ?_ (fun _ => ?_))
   | exact yco.mono _ _ _ _
   | exact LeO.none _
   | refine LeO.ite ?_ ?_
   | refine LeO.bind ?_ (fun _ => ?_)
theorem ydj.calls (k : Nat) (a0 : Int) (a1 : Int) (a2 : Int) (r1 : Int) (r2 : Int) (w : World) (h : ydj.f k a0 a1 a2 = some (r1,r2)) :
  Calls Tryz.prog 116 #[.int .i64 a0,.int .u8 a1,.int .u8 a2] w fun e w' => e = .returned (.tuple #[.int .u8 r1,.int .u8 r2]) ∧ Drawn0 w w' :=by
 have H : ((yco.f k a0 a1 a2).bind fun bt162 => ((yde.f bt162.1).bind fun t164 => (some (bt162.1,Go.bits .or .u8 t164 bt162.2)))) = some (r1,r2) :=h
 clear h
 replace H :=Option.bind_eq_some_iff.mp H
 obtain ⟨⟨t162,t163⟩,A40,H⟩ :=H
 replace H : ((yde.f t162).bind fun t164 => (some (t162,Go.bits .or .u8 t164 t163))) = some (r1,r2) :=H
 have A4 :=Aside0.mk A40
 clear A40
 replace H :=Option.bind_eq_some_iff.mp H
 obtain ⟨t164,A50,H⟩ :=H
 replace H : (some (t162,Go.bits .or .u8 t164 t163)) = some (r1,r2) :=H
 have A5 :=Aside0.mk A50
 clear A50
 simp only [Option.some.injEq,Prod.mk.injEq] at H
 obtain ⟨rfl,rfl⟩ :=H
 go_enter Tryz.func116,Tryz.ntmps116
 go_wp2_with (first | ((with_reducible refine gate_callee (f :=155) rfl ?_);refine goesL_ (some 13) rfl rfl Tryz.func155 (by kernel_rfl) rfl #[.int .i64 a0,.int .u8 a1,.int .u8 a2] rfl (by (try simp only [List.map_toArray,List.map_cons,List.map_nil]);rfl) ?_;(with_reducible refine (yco.calls k a0 a1 a2 t162 t163 _ A4.out).mono ?_);rintro e w' ⟨rfl,⟨nd,rfl⟩⟩;refine ⟨_,rfl,?_⟩) | ((with_reducible refine gate_callee (f :=156) rfl ?_);refine goesL_ (some 18) rfl rfl Tryz.func156 (by kernel_rfl) rfl #[.int .u8 t162] rfl (by (try simp only [List.map_toArray,List.map_cons,List.map_nil]);rfl) ?_;(with_reducible refine (yde.calls t162 t164 _ A5.out).mono ?_);rintro e w' ⟨rfl,⟨nd,rfl⟩⟩;refine ⟨_,rfl,?_⟩))
 go_ret2
 exact ⟨by rfl,by repeat (first | exact Drawn0.refl _ | apply Drawn0.step)⟩

/-! ### shift_Bit: function 117 -/
def shift_Bit.f (a0 : Int) (a1 : Int) (a2 : Int) (a3 : Int) : Option (Int) :=if 0 ≤ (IntKind.u64.wrap (Go.bits .and .i64 a0 7)) then ((ycx.f (!((Go.bits .and .u8 (shr .u8 a1 (IntKind.u64.wrap (Go.bits .and .i64 a0 7))) 1) == 1)) 68).bind fun t165 => (if (Go.bits .and .u8 (shr .u8 a1 (IntKind.u64.wrap (Go.bits .and .i64 a0 7))) 1) = 1 then ((ycx.f ((Go.bits .and .i64 a0 7) == 7) 128).bind fun t166 => (some (Go.bits .or .u8 (Go.bits .or .u8 (Go.bits .or .u8 (Go.bits .or .u8 t165 t166) 16) (Go.bits .and .u8 a2 40)) (Go.bits .and .u8 a3 1)))) else ((ycx.f false 128).bind fun t167 => (some (Go.bits .or .u8 (Go.bits .or .u8 (Go.bits .or .u8 (Go.bits .or .u8 t165 t167) 16) (Go.bits .and .u8 a2 40)) (Go.bits .and .u8 a3 1)))))) else (none)
theorem shift_Bit.calls (a0 : Int) (a1 : Int) (a2 : Int) (a3 : Int) (r : Int) (w : World) (h : shift_Bit.f a0 a1 a2 a3 = some r) :
  Calls Tryz.prog 117 #[.int .i64 a0,.int .u8 a1,.int .u8 a2,.int .u8 a3] w fun e w' => e = .returned (.int .u8 r) ∧ Drawn0 w w' :=by
 have H : (if 0 ≤ (IntKind.u64.wrap (Go.bits .and .i64 a0 7)) then ((ycx.f (!((Go.bits .and .u8 (shr .u8 a1 (IntKind.u64.wrap (Go.bits .and .i64 a0 7))) 1) == 1)) 68).bind fun t165 => (if (Go.bits .and .u8 (shr .u8 a1 (IntKind.u64.wrap (Go.bits .and .i64 a0 7))) 1) = 1 then ((ycx.f ((Go.bits .and .i64 a0 7) == 7) 128).bind fun t166 => (some (Go.bits .or .u8 (Go.bits .or .u8 (Go.bits .or .u8 (Go.bits .or .u8 t165 t166) 16) (Go.bits .and .u8 a2 40)) (Go.bits .and .u8 a3 1)))) else ((ycx.f false 128).bind fun t167 => (some (Go.bits .or .u8 (Go.bits .or .u8 (Go.bits .or .u8 (Go.bits .or .u8 t165 t167) 16) (Go.bits .and .u8 a2 40)) (Go.bits .and .u8 a3 1)))))) else (none)) = some r :=h
 clear h
 obtain ⟨ji5,hji5⟩ : ∃ j_ : Int,(IntKind.u64.wrap (Go.bits .and .i64 a0 7)) = j_ :=⟨_,rfl⟩
 replace H : (if 0 ≤ (ji5) then ((ycx.f (!((Go.bits .and .u8 (shr .u8 a1 (ji5)) 1) == 1)) 68).bind fun t165 => (if (Go.bits .and .u8 (shr .u8 a1 (ji5)) 1) = 1 then ((ycx.f ((Go.bits .and .i64 a0 7) == 7) 128).bind fun t166 => (some (Go.bits .or .u8 (Go.bits .or .u8 (Go.bits .or .u8 (Go.bits .or .u8 t165 t166) 16) (Go.bits .and .u8 a2 40)) (Go.bits .and .u8 a3 1)))) else ((ycx.f false 128).bind fun t167 => (some (Go.bits .or .u8 (Go.bits .or .u8 (Go.bits .or .u8 (Go.bits .or .u8 t165 t167) 16) (Go.bits .and .u8 a2 40)) (Go.bits .and .u8 a3 1)))))) else (none)) = some r :=by (rw [hji5] at H;exact H)
 by_cases c6 : 0 ≤ (ji5)
 ·rw [if_pos c6] at H
  have c6b0 :=eq_true c6
  have c6b1 : decide (0 ≤ (ji5)) = true :=decide_eq_true c6
  clear c6
  obtain ⟨ji7,hji7⟩ : ∃ j_ : Int,(shr .u8 a1 (ji5)) = j_ :=⟨_,rfl⟩
  replace H : ((ycx.f (!((Go.bits .and .u8 (ji7) 1) == 1)) 68).bind fun t165 => (if (Go.bits .and .u8 (ji7) 1) = 1 then ((ycx.f ((Go.bits .and .i64 a0 7) == 7) 128).bind fun t166 => (some (Go.bits .or .u8 (Go.bits .or .u8 (Go.bits .or .u8 (Go.bits .or .u8 t165 t166) 16) (Go.bits .and .u8 a2 40)) (Go.bits .and .u8 a3 1)))) else ((ycx.f false 128).bind fun t167 => (some (Go.bits .or .u8 (Go.bits .or .u8 (Go.bits .or .u8 (Go.bits .or .u8 t165 t167) 16) (Go.bits .and .u8 a2 40)) (Go.bits .and .u8 a3 1)))))) = some r :=by (rw [hji7] at H;exact H)
  have hji7_ : (a1 / 2 ^ min (ji5).toNat 8) = ji7 :=hji7
  have hji7z : (ji5) ≤ 8 → (a1 / 2 ^ (ji5).toNat) = ji7 :=shr_small hji7
  replace H :=Option.bind_eq_some_iff.mp H
  obtain ⟨t165,A80,H⟩ :=H
  replace H : (if (Go.bits .and .u8 (ji7) 1) = 1 then ((ycx.f ((Go.bits .and .i64 a0 7) == 7) 128).bind fun t166 => (some (Go.bits .or .u8 (Go.bits .or .u8 (Go.bits .or .u8 (Go.bits .or .u8 t165 t166) 16) (Go.bits .and .u8 a2 40)) (Go.bits .and .u8 a3 1)))) else ((ycx.f false 128).bind fun t167 => (some (Go.bits .or .u8 (Go.bits .or .u8 (Go.bits .or .u8 (Go.bits .or .u8 t165 t167) 16) (Go.bits .and .u8 a2 40)) (Go.bits .and .u8 a3 1))))) = some r :=H
  have A8 :=Aside0.mk A80
  clear A80
  by_cases c9 : (Go.bits .and .u8 (ji7) 1) = 1
  ·rw [if_pos c9] at H
   have c9b0 : ((Go.bits .and .u8 (ji7) 1) == 1) = true :=beq_iff_eq.mpr c9
   have c9b1 : ((Go.bits .and .u8 (ji7) 1) != 1) = false :=bne_eq_false_iff_eq.mpr c9
   have A8 : Aside0 (ycx.f false 68 = some t165) :=⟨by have q :=A8.out;rw [c9b0] at q;exact q⟩
   clear c9
   replace H :=Option.bind_eq_some_iff.mp H
   obtain ⟨t166,A100,H⟩ :=H
   replace H : (some (Go.bits .or .u8 (Go.bits .or .u8 (Go.bits .or .u8 (Go.bits .or .u8 t165 t166) 16) (Go.bits .and .u8 a2 40)) (Go.bits .and .u8 a3 1))) = some r :=H
   have A10 :=Aside0.mk A100
   clear A100
   obtain rfl :=Option.some.inj H
   go_enter Tryz.func117,Tryz.ntmps117
   go_wp2_with (first | ((with_reducible refine gate_callee (f :=157) rfl ?_);refine goesL_ (some 19) rfl rfl Tryz.func157 (by kernel_rfl) rfl #[.bool false,.int .u8 68] rfl (by (try simp only [List.map_toArray,List.map_cons,List.map_nil]);rfl) ?_;(with_reducible refine (ycx.calls false 68 t165 _ A8.out).mono ?_);rintro e w' ⟨rfl,⟨nd,rfl⟩⟩;refine ⟨_,rfl,?_⟩) | ((with_reducible refine gate_callee (f :=157) rfl ?_);refine goesL_ (some 26) rfl rfl Tryz.func157 (by kernel_rfl) rfl #[.bool ((Go.bits .and .i64 a0 7) == 7),.int .u8 128] rfl (by (try simp only [List.map_toArray,List.map_cons,List.map_nil]);rfl) ?_;(with_reducible refine (ycx.calls ((Go.bits .and .i64 a0 7) == 7) 128 t166 _ A10.out).mono ?_);rintro e w' ⟨rfl,⟨nd,rfl⟩⟩;refine ⟨_,rfl,?_⟩))
   go_ret
   exact ⟨by rfl,by repeat (first | exact Drawn0.refl _ | apply Drawn0.step)⟩
  ·rw [if_neg c9] at H
   have c9b0 : ((Go.bits .and .u8 (ji7) 1) == 1) = false :=beq_eq_false_iff_ne.mpr c9
   have A8 : Aside0 (ycx.f true 68 = some t165) :=⟨by have q :=A8.out;rw [c9b0] at q;exact q⟩
   have c9b1 : ((Go.bits .and .u8 (ji7) 1) != 1) = true :=bne_iff_ne.mpr c9
   replace H :=Option.bind_eq_some_iff.mp H
   obtain ⟨t167,A110,H⟩ :=H
   replace H : (some (Go.bits .or .u8 (Go.bits .or .u8 (Go.bits .or .u8 (Go.bits .or .u8 t165 t167) 16) (Go.bits .and .u8 a2 40)) (Go.bits .and .u8 a3 1))) = some r :=H
   have A11 :=Aside0.mk A110
   clear A110
   obtain rfl :=Option.some.inj H
   go_enter Tryz.func117,Tryz.ntmps117
   go_wp2_with (first | ((with_reducible refine gate_callee (f :=157) rfl ?_);refine goesL_ (some 19) rfl rfl Tryz.func157 (by kernel_rfl) rfl #[.bool true,.int .u8 68] rfl (by (try simp only [List.map_toArray,List.map_cons,List.map_nil]);rfl) ?_;(with_reducible refine (ycx.calls true 68 t165 _ A8.out).mono ?_);rintro e w' ⟨rfl,⟨nd,rfl⟩⟩;refine ⟨_,rfl,?_⟩) | ((with_reducible refine gate_callee (f :=157) rfl ?_);refine goesL_ (some 26) rfl rfl Tryz.func157 (by kernel_rfl) rfl #[.bool false,.int .u8 128] rfl (by (try simp only [List.map_toArray,List.map_cons,List.map_nil]);rfl) ?_;(with_reducible refine (ycx.calls false 128 t167 _ A11.out).mono ?_);rintro e w' ⟨rfl,⟨nd,rfl⟩⟩;refine ⟨_,rfl,?_⟩))
   go_ret
   exact ⟨by rfl,by repeat (first | exact Drawn0.refl _ | apply Drawn0.step)⟩
 ·rw [if_neg c6] at H
  exact absurd H (by simp)

/-! ### shift_Res: function 118 -/
def shift_Res.f (a0 : Int) (a1 : Int) : Option (Int) :=if 0 ≤ (IntKind.u64.wrap (Go.bits .and .i64 a0 7)) then (some (Go.bits .andNot .u8 a1 (shl .u8 1 (IntKind.u64.wrap (Go.bits .and .i64 a0 7))))) else (none)
theorem shift_Res.calls (a0 : Int) (a1 : Int) (r : Int) (w : World) (h : shift_Res.f a0 a1 = some r) :
  Calls Tryz.prog 118 #[.int .i64 a0,.int .u8 a1] w fun e w' => e = .returned (.int .u8 r) ∧ Drawn0 w w' :=by
 have H : (if 0 ≤ (IntKind.u64.wrap (Go.bits .and .i64 a0 7)) then (some (Go.bits .andNot .u8 a1 (shl .u8 1 (IntKind.u64.wrap (Go.bits .and .i64 a0 7))))) else (none)) = some r :=h
 clear h
 obtain ⟨ji3,hji3⟩ : ∃ j_ : Int,(IntKind.u64.wrap (Go.bits .and .i64 a0 7)) = j_ :=⟨_,rfl⟩
 replace H : (if 0 ≤ (ji3) then (some (Go.bits .andNot .u8 a1 (shl .u8 1 (ji3)))) else (none)) = some r :=by (rw [hji3] at H;exact H)
 by_cases c4 : 0 ≤ (ji3)
 ·rw [if_pos c4] at H
  have c4b0 :=eq_true c4
  have c4b1 : decide (0 ≤ (ji3)) = true :=decide_eq_true c4
  clear c4
  obtain ⟨ji5,hji5⟩ : ∃ j_ : Int,(shl .u8 1 (ji3)) = j_ :=⟨_,rfl⟩
  replace H : (some (Go.bits .andNot .u8 a1 (ji5))) = some r :=by (rw [hji5] at H;exact H)
  have hji5_ : (IntKind.u8.wrap (1 * 2 ^ min (ji3).toNat 8)) = ji5 :=hji5
  have hji5z : (ji3) ≤ 8 → (IntKind.u8.wrap (1 * 2 ^ (ji3).toNat)) = ji5 :=shl_small hji5
  have hji5u : (IntKind.u8.wrap (2 ^ min (ji3).toNat 8)) = ji5 :=by have h_ :=hji5_;rw [Int.one_mul] at h_;exact h_
  have hji5v : (ji3) ≤ 8 → (IntKind.u8.wrap (2 ^ (ji3).toNat)) = ji5 :=fun hle_ => by have h_ :=hji5z hle_;rw [Int.one_mul] at h_;exact h_
  obtain rfl :=Option.some.inj H
  go_enter Tryz.func118,Tryz.ntmps118
  go_wp2
  go_ret
  exact ⟨by rfl,by repeat (exact Drawn0.refl _)⟩
 ·rw [if_neg c4] at H
  exact absurd H (by simp)

/-! ### shift_Set: function 119 -/
def shift_Set.f (a0 : Int) (a1 : Int) : Option (Int) :=if 0 ≤ (IntKind.u64.wrap (Go.bits .and .i64 a0 7)) then (some (Go.bits .or .u8 a1 (shl .u8 1 (IntKind.u64.wrap (Go.bits .and .i64 a0 7))))) else (none)
theorem shift_Set.calls (a0 : Int) (a1 : Int) (r : Int) (w : World) (h : shift_Set.f a0 a1 = some r) :
  Calls Tryz.prog 119 #[.int .i64 a0,.int .u8 a1] w fun e w' => e = .returned (.int .u8 r) ∧ Drawn0 w w' :=by
 have H : (if 0 ≤ (IntKind.u64.wrap (Go.bits .and .i64 a0 7)) then (some (Go.bits .or .u8 a1 (shl .u8 1 (IntKind.u64.wrap (Go.bits .and .i64 a0 7))))) else (none)) = some r :=h
 clear h
 obtain ⟨ji3,hji3⟩ : ∃ j_ : Int,(IntKind.u64.wrap (Go.bits .and .i64 a0 7)) = j_ :=⟨_,rfl⟩
 replace H : (if 0 ≤ (ji3) then (some (Go.bits .or .u8 a1 (shl .u8 1 (ji3)))) else (none)) = some r :=by (rw [hji3] at H;exact H)
 by_cases c4 : 0 ≤ (ji3)
 ·rw [if_pos c4] at H
  have c4b0 :=eq_true c4
  have c4b1 : decide (0 ≤ (ji3)) = true :=decide_eq_true c4
  clear c4
  obtain ⟨ji5,hji5⟩ : ∃ j_ : Int,(shl .u8 1 (ji3)) = j_ :=⟨_,rfl⟩
  replace H : (some (Go.bits .or .u8 a1 (ji5))) = some r :=by (rw [hji5] at H;exact H)
  have hji5_ : (IntKind.u8.wrap (1 * 2 ^ min (ji3).toNat 8)) = ji5 :=hji5
  have hji5z : (ji3) ≤ 8 → (IntKind.u8.wrap (1 * 2 ^ (ji3).toNat)) = ji5 :=shl_small hji5
  have hji5u : (IntKind.u8.wrap (2 ^ min (ji3).toNat 8)) = ji5 :=by have h_ :=hji5_;rw [Int.one_mul] at h_;exact h_
  have hji5v : (ji3) ≤ 8 → (IntKind.u8.wrap (2 ^ (ji3).toNat)) = ji5 :=fun hle_ => by have h_ :=hji5z hle_;rw [Int.one_mul] at h_;exact h_
  obtain rfl :=Option.some.inj H
  go_enter Tryz.func119,Tryz.ntmps119
  go_wp2
  go_ret
  exact ⟨by rfl,by repeat (exact Drawn0.refl _)⟩
 ·rw [if_neg c4] at H
  exact absurd H (by simp)

/-! ### shift_Turn: function 130 -/
def ydp.f (k : Nat) (a0 : Int) (a1 : Int) (a2 : Int) : Option (Int × Int) :=(yco.f k (Go.bits .and .i64 a0 3) a1 a2).bind fun bt168 => (some (bt168.1,Go.bits .or .u8 (Go.bits .or .u8 (Go.bits .and .u8 a2 196) (Go.bits .and .u8 bt168.1 40)) bt168.2))
theorem ydp.mono : ∀ a0 a1 a2 k,LeO (ydp.f k a0 a1 a2) (ydp.f (k + 1) a0 a1 a2) :=by
 intro a0 a1 a2 k
 unfold ydp.f
 repeat' first
   | (with_reducible exact yco.mono _ _ _ _)
   | (with_reducible exact LeO.refl _)
   | (with_reducible exact LeO.none _)
   | (with_reducible refine LeO.ite ?_ ?_)
   | (with_reducible refine LeO.bind ?_ (fun _ => ?_))
   | exact yco.mono _ _ _ _
   | exact LeO.none _
   | refine LeO.ite ?_ ?_
   | refine LeO.bind ?_ (fun _ => ?_)
theorem ydp.calls (k : Nat) (a0 : Int) (a1 : Int) (a2 : Int) (r1 : Int) (r2 : Int) (w : World) (h : ydp.f k a0 a1 a2 = some (r1,r2)) :
  Calls Tryz.prog 130 #[.int .i64 a0,.int .u8 a1,.int .u8 a2] w fun e w' => e = .returned (.tuple #[.int .u8 r1,.int .u8 r2]) ∧ Drawn0 w w' :=by
 have H : ((yco.f k (Go.bits .and .i64 a0 3) a1 a2).bind fun bt168 => (some (bt168.1,Go.bits .or .u8 (Go.bits .or .u8 (Go.bits .and .u8 a2 196) (Go.bits .and .u8 bt168.1 40)) bt168.2))) = some (r1,r2) :=h
 clear h
 replace H :=Option.bind_eq_some_iff.mp H
 obtain ⟨⟨t168,t169⟩,A40,H⟩ :=H
 replace H : (some (t168,Go.bits .or .u8 (Go.bits .or .u8 (Go.bits .and .u8 a2 196) (Go.bits .and .u8 t168 40)) t169)) = some (r1,r2) :=H
 have A4 :=Aside0.mk A40
 clear A40
 simp only [Option.some.injEq,Prod.mk.injEq] at H
 obtain ⟨rfl,rfl⟩ :=H
 go_enter Tryz.func130,Tryz.ntmps130
 go_wp2_with ((((with_reducible refine gate_callee (f :=155) rfl ?_);refine goesL_ (some 14) rfl rfl Tryz.func155 (by kernel_rfl) rfl #[.int .i64 (Go.bits .and .i64 a0 3),.int .u8 a1,.int .u8 a2] rfl (by (try simp only [List.map_toArray,List.map_cons,List.map_nil]);rfl) ?_;(with_reducible refine (yco.calls k (Go.bits .and .i64 a0 3) a1 a2 t168 t169 _ A4.out).mono ?_);rintro e w' ⟨rfl,⟨nd,rfl⟩⟩;refine ⟨_,rfl,?_⟩)))
 go_ret2
 exact ⟨by rfl,by repeat (first | exact Drawn0.refl _ | apply Drawn0.step)⟩

end Go.Proofs.YtnelghpendfdmaaGreatDoor.HFun
