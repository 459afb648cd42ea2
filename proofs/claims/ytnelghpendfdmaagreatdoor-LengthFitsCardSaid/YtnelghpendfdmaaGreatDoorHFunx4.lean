-- Written by a program of this session out of Lean's print of the program (after the form of the kit's print.sh, with own turns); Lean checks it.
import Derived.Test.YtnelghpendfdmaaGreatDoorHFunx3
namespace Go.Proofs.YtnelghpendfdmaaGreatDoor.HFun
set_option maxRecDepth 100000
set_option maxHeartbeats 16000000
open Go.RowKit Go.Proofs.YtnelghpendfdmaaGreatDoorW.PrintWords Go.Proofs.YtnelghpendfdmaaGreatDoorW.PrintLast Go.Proofs.YtnelghpendfdmaaGreatDoorW.PrintMore
attribute [local go_sem] max2_int min2_int max_two min_two max_three min_three max_four min_four   -- for this text's walks alone
set_option linter.unusedVariables false
set_option linter.unusedSimpArgs false

/-! ### shift_Daa: function 131 -/
mutual
def ycv.j0 : Nat → Int → Int → Int → Bool → Option (Int × Int)
 | 0,_,_,_,_ => none
 | k + 1,x0,x1,x6,x7 => if (Go.bits .and .u8 x1 16) = 0 then (ycv.j1 k x0 x1 x6 x7 (decide ((Go.bits .and .u8 x0 15) > 9))) else (ycv.j1 k x0 x1 x6 x7 true)
def ycv.j1 : Nat → Int → Int → Int → Bool → Bool → Option (Int × Int)
 | 0,_,_,_,_,_ => none
 | k + 1,x0,x1,x6,x7,x23 => if x23 = true then (ycv.j2 k x0 x1 6 x7) else (ycv.j2 k x0 x1 x6 x7)
def ycv.j2 : Nat → Int → Int → Int → Bool → Option (Int × Int)
 | 0,_,_,_,_ => none
 | k + 1,x0,x1,x6,x7 => if x7 = true then (ycv.j3 k x0 x1 ((x6 + 96) % 256) x7) else (ycv.j3 k x0 x1 x6 x7)
def ycv.j3 : Nat → Int → Int → Int → Bool → Option (Int × Int)
 | 0,_,_,_,_ => none
 | k + 1,x0,x1,x6,x7 => if (Go.bits .and .u8 x1 2) = 0 then ((yde.f ((x0 + x6) % 256)).bind fun t170 => ((ycx.f x7 1).bind fun t171 => ((ycx.f (decide ((Go.bits .and .u8 x0 15) > 9)) 16).bind fun t172 => (some ((x0 + x6) % 256,Go.bits .or .u8 (Go.bits .or .u8 (Go.bits .or .u8 t170 (Go.bits .and .u8 x1 2)) t171) t172))))) else (if (Go.bits .and .u8 x0 15) < 6 then ((yde.f ((x0 - x6) % 256)).bind fun t173 => ((ycx.f x7 1).bind fun t174 => ((ycx.f ((Go.bits .and .u8 x1 16) != 0) 16).bind fun t175 => (some ((x0 - x6) % 256,Go.bits .or .u8 (Go.bits .or .u8 (Go.bits .or .u8 t173 (Go.bits .and .u8 x1 2)) t174) t175))))) else ((yde.f ((x0 - x6) % 256)).bind fun t176 => ((ycx.f x7 1).bind fun t177 => ((ycx.f false 16).bind fun t178 => (some ((x0 - x6) % 256,Go.bits .or .u8 (Go.bits .or .u8 (Go.bits .or .u8 t176 (Go.bits .and .u8 x1 2)) t177) t178))))))
end
def ycv.f (k : Nat) (a0 : Int) (a1 : Int) : Option (Int × Int) :=if (Go.bits .and .u8 a1 1) = 0 then (ycv.j0 k a0 a1 0 (decide (a0 > 153))) else (ycv.j0 k a0 a1 0 true)
theorem ycv.mono_l : ∀ k,(∀ y0 y1 y2 y3,LeO (ycv.j0 k y0 y1 y2 y3) (ycv.j0 (k + 1) y0 y1 y2 y3)) ∧ (∀ y0 y1 y2 y3 y4,LeO (ycv.j1 k y0 y1 y2 y3 y4) (ycv.j1 (k + 1) y0 y1 y2 y3 y4)) ∧ (∀ y0 y1 y2 y3,LeO (ycv.j2 k y0 y1 y2 y3) (ycv.j2 (k + 1) y0 y1 y2 y3)) ∧ (∀ y0 y1 y2 y3,LeO (ycv.j3 k y0 y1 y2 y3) (ycv.j3 (k + 1) y0 y1 y2 y3))
 | 0 => ⟨fun _ _ _ _ r h => by simp [ycv.j0] at h,fun _ _ _ _ _ r h => by simp [ycv.j1] at h,fun _ _ _ _ r h => by simp [ycv.j2] at h,fun _ _ _ _ r h => by simp [ycv.j3] at h⟩
 | k + 1 => by
  obtain ⟨ih0,ih1,ih2,ih3⟩ :=ycv.mono_l k
  refine ⟨?_,?_,?_,?_⟩
  ·intro y0 y1 y2 y3
   unfold ycv.j0
   repeat' first
   | (with_reducible exact ih0 _ _ _ _)
   | (with_reducible exact ih1 _ _ _ _ _)
   | (with_reducible exact ih2 _ _ _ _)
   | (with_reducible exact ih3 _ _ _ _)
   | (with_reducible exact LeO.refl _)
   | (with_reducible exact LeO.none _)
   | (with_reducible refine LeO.ite ?_ ?_)
   | (with_reducible refine LeO.bind ?_ (fun _ => ?_))
   | exact ih0 _ _ _ _
   | exact ih1 _ _ _ _ _
   | exact ih2 _ _ _ _
   | exact ih3 _ _ _ _
   | exact LeO.none _
   | refine LeO.ite ?_ ?_
   | refine LeO.bind ?_ (fun _ => ?_)
  ·intro y0 y1 y2 y3 y4
   unfold ycv.j1
   repeat' first
   | (with_reducible exact ih0 _ _ _ _)
   | (with_reducible exact ih1 _ _ _ _ _)
   | (with_reducible exact ih2 _ _ _ _)
   | (with_reducible exact ih3 _ _ _ _)
   | (with_reducible exact LeO.refl _)
   | (with_reducible exact LeO.none _)
   | (with_reducible refine LeO.ite ?_ ?_)
   | (with_reducible refine LeO.bind ?_ (fun _ => ?_))
   | exact ih0 _ _ _ _
   | exact ih1 _ _ _ _ _
   | exact ih2 _ _ _ _
   | exact ih3 _ _ _ _
   | exact LeO.none _
   | refine LeO.ite ?_ ?_
   | refine LeO.bind ?_ (fun _ => ?_)
  ·intro y0 y1 y2 y3
   unfold ycv.j2
   repeat' first
   | (with_reducible exact ih0 _ _ _ _)
   | (with_reducible exact ih1 _ _ _ _ _)
   | (with_reducible exact ih2 _ _ _ _)
   | (with_reducible exact ih3 _ _ _ _)
   | (with_reducible exact LeO.refl _)
   | (with_reducible exact LeO.none _)
   | (with_reducible refine LeO.ite ?_ ?_)
   | (with_reducible refine LeO.bind ?_ (fun _ => ?_))
   | exact ih0 _ _ _ _
   | exact ih1 _ _ _ _ _
   | exact ih2 _ _ _ _
   | exact ih3 _ _ _ _
   | exact LeO.none _
   | refine LeO.ite ?_ ?_
   | refine LeO.bind ?_ (fun _ => ?_)
  ·intro y0 y1 y2 y3
   unfold ycv.j3
   repeat' first
   | (with_reducible exact ih0 _ _ _ _)
   | (with_reducible exact ih1 _ _ _ _ _)
   | (with_reducible exact ih2 _ _ _ _)
   | (with_reducible exact ih3 _ _ _ _)
   | (with_reducible exact LeO.refl _)
   | (with_reducible exact LeO.none _)
   | (with_reducible refine LeO.ite ?_ ?_)
   | (with_reducible refine LeO.bind ?_ (fun _ => ?_))
   | exact ih0 _ _ _ _
   | exact ih1 _ _ _ _ _
   | exact ih2 _ _ _ _
   | exact ih3 _ _ _ _
   | exact LeO.none _
   | refine LeO.ite ?_ ?_
   | refine LeO.bind ?_ (fun _ => ?_)
theorem ycv.mono : ∀ a0 a1 k,LeO (ycv.f k a0 a1) (ycv.f (k + 1) a0 a1) :=by
 intro a0 a1 k
 obtain ⟨ih0,ih1,ih2,ih3⟩ :=ycv.mono_l k
 unfold ycv.f
 repeat' first
   | (with_reducible exact ih0 _ _ _ _)
   | (with_reducible exact ih1 _ _ _ _ _)
   | (with_reducible exact ih2 _ _ _ _)
   | (with_reducible exact ih3 _ _ _ _)
   | (with_reducible exact LeO.refl _)
   | (with_reducible exact LeO.none _)
   | (with_reducible refine LeO.ite ?_ ?_)
   | (with_reducible refine LeO.bind ?_ (fun _ => ?_))
   | exact ih0 _ _ _ _
   | exact ih1 _ _ _ _ _
   | exact ih2 _ _ _ _
   | exact ih3 _ _ _ _
   | exact LeO.none _
   | refine LeO.ite ?_ ?_
   | refine LeO.bind ?_ (fun _ => ?_)
theorem ycv.calls (k : Nat) (a0 : Int) (a1 : Int) (r1 : Int) (r2 : Int) (w : World) (h : ycv.f k a0 a1 = some (r1,r2)) :
  Calls Tryz.prog 131 #[.int .u8 a0,.int .u8 a1] w fun e w' => e = .returned (.tuple #[.int .u8 r1,.int .u8 r2]) ∧ Drawn0 w w' :=by
 have H : (if (Go.bits .and .u8 a1 1) = 0 then (ycv.j0 k a0 a1 0 (decide (a0 > 153))) else (ycv.j0 k a0 a1 0 true)) = some (r1,r2) :=h
 clear h
 have HC3 :=Aside0.mk H
 clear H
 go_enter Tryz.func131,Tryz.ntmps131
 go_upto_region 1 with (fail)
 go_cut [6,7] (fun v6 v7 wc => ∃ (kq : Nat) (x6_2 : Int) (x7_2 : Bool),v6 = .int .u8 x6_2 ∧ v7 = .bool x7_2 ∧ Aside0 (ycv.j0 kq a0 a1 x6_2 x7_2 = some (r1,r2)) ∧ Aside0 (kq ≤ k) ∧ Drawn0 w wc)
 case first =>
  have H :=HC3.out
  clear HC3
  by_cases c4 : (Go.bits .and .u8 a1 1) = 0
  ·obtain ⟨H,c4b0,c4b1⟩ :=ipos c4 H;clear c4
   (skip)
   have H' :=Aside0.mk H
   clear H
   go_wp2
   go_meet
   case rel => exact ⟨_,(0),(decide (a0 > 153)),(by rfl),(by rfl),H',⟨by omega⟩,by repeat (exact Drawn0.refl _)⟩
  ·obtain ⟨H,c4b0,c4b1⟩ :=ineg c4 H
   (skip)
   have H' :=Aside0.mk H
   clear H
   go_wp2
   go_meet
   case rel => exact ⟨_,(0),(true),(by rfl),(by rfl),H',⟨by omega⟩,by repeat (exact Drawn0.refl _)⟩
 case rest =>
  clear HC3
  try clear c1
  try clear p2
  try clear c4
  try clear c4b0
  try clear c4b1
  obtain ⟨kq,x6_2,x7_2,rfl,rfl,HA,HJ2,⟨mc2,rfl⟩⟩ :=hcut
  cases kq with
  | zero => exact absurd HA.out (by simp [ycv.j0])
  | succ kj2 =>
   have H :=HA.out
   clear HA
   simp only [ycv.j0] at H
   have HC5 :=Aside0.mk H
   clear H
   go_upto_region 2 with (fail)
   go_cut [23] (fun v23 wc => ∃ (kq : Nat) (x23_4 : Bool),v23 = .bool x23_4 ∧ Aside0 (ycv.j1 kq a0 a1 x6_2 x7_2 x23_4 = some (r1,r2)) ∧ Aside0 (kq ≤ kj2) ∧ Drawn0 w wc)
   case first =>
    have H :=HC5.out
    clear HC5
    by_cases c6 : (Go.bits .and .u8 a1 16) = 0
    ·obtain ⟨H,c6b0,c6b1⟩ :=ipos c6 H;clear c6
     (skip)
     have H' :=Aside0.mk H
     clear H
     go_wp2
     go_meet
     case rel => exact ⟨_,(decide ((Go.bits .and .u8 a0 15) > 9)),(by rfl),H',⟨by have :=HJ2.out;omega⟩,by repeat (first | exact Drawn0.refl _ | apply Drawn0.step)⟩
    ·obtain ⟨H,c6b0,c6b1⟩ :=ineg c6 H
     (skip)
     have H' :=Aside0.mk H
     clear H
     go_wp2
     go_meet
     case rel => exact ⟨_,(true),(by rfl),H',⟨by have :=HJ2.out;omega⟩,by repeat (first | exact Drawn0.refl _ | apply Drawn0.step)⟩
   case rest =>
    clear HC5
    try clear c1
    try clear c2
    try clear p2
    try clear c4
    try clear c4b0
    try clear c4b1
    try clear c6
    try clear c6b0
    try clear c6b1
    try clear p2
    obtain ⟨kq,x23_4,rfl,HA,HJ4,⟨mc4,rfl⟩⟩ :=hcut
    cases kq with
    | zero => exact absurd HA.out (by simp [ycv.j1])
    | succ kj4 =>
     have H :=HA.out
     clear HA
     simp only [ycv.j1] at H
     have HC7 :=Aside0.mk H
     clear H
     go_upto_if 23 with (fail)
     go_cut [6] (fun v6 wc => ∃ (kq : Nat) (x6_6 : Int),v6 = .int .u8 x6_6 ∧ Aside0 (ycv.j2 kq a0 a1 x6_6 x7_2 = some (r1,r2)) ∧ Aside0 (kq ≤ kj4) ∧ Drawn0 w wc)
     case first =>
      have H :=HC7.out
      clear HC7
      by_cases c8 : x23_4 = true
      ·subst c8
       have H1 : (ycv.j2 kj4 a0 a1 6 x7_2) = some (r1,r2) :=by rw [if_pos rfl] at H;exact H
       clear H
       have H :=H1
       clear H1
       have H' :=Aside0.mk H
       clear H
       go_wp2
       go_meet
       case rel => exact ⟨_,(6),(by rfl),H',⟨by have :=HJ2.out;have :=HJ4.out;omega⟩,by repeat (first | exact Drawn0.refl _ | apply Drawn0.step)⟩
      ·replace c8 :=Bool.eq_false_iff.mpr c8
       subst c8
       have H1 : (ycv.j2 kj4 a0 a1 x6_2 x7_2) = some (r1,r2) :=by rw [if_neg (show ¬ (false = true) by decide)] at H;exact H
       clear H
       have H :=H1
       clear H1
       have H' :=Aside0.mk H
       clear H
       go_wp2
       go_meet
       case rel => exact ⟨_,(x6_2),(by rfl),H',⟨by have :=HJ2.out;have :=HJ4.out;omega⟩,by repeat (first | exact Drawn0.refl _ | apply Drawn0.step)⟩
     case rest =>
      clear HC7
      try clear c1
      try clear c2
      try clear p2
      try clear c4
      try clear c4b0
      try clear c4b1
      try clear c6
      try clear c6b0
      try clear c6b1
      try clear c8
      try clear p2
      obtain ⟨kq,x6_6,rfl,HA,HJ6,⟨mc6,rfl⟩⟩ :=hcut
      cases kq with
      | zero => exact absurd HA.out (by simp [ycv.j2])
      | succ kj6 =>
       have H :=HA.out
       clear HA
       simp only [ycv.j2] at H
       have HC9 :=Aside0.mk H
       clear H
       go_upto_if 24 with (fail)
       go_cut [6] (fun v6 wc => ∃ (kq : Nat) (x6_8 : Int),v6 = .int .u8 x6_8 ∧ Aside0 (ycv.j3 kq a0 a1 x6_8 x7_2 = some (r1,r2)) ∧ Aside0 (kq ≤ kj6) ∧ Drawn0 w wc)
       case first =>
        have H :=HC9.out
        clear HC9
        by_cases c10 : x7_2 = true
        ·subst c10
         have H1 : (ycv.j3 kj6 a0 a1 ((x6_6 + 96) % 256) true) = some (r1,r2) :=by rw [if_pos rfl] at H;exact H
         clear H
         have H :=H1
         clear H1
         have H' :=Aside0.mk H
         clear H
         go_wp2
         go_meet
         case rel => exact ⟨_,((x6_6 + 96) % 256),(by rfl),H',⟨by have :=HJ2.out;have :=HJ4.out;have :=HJ6.out;omega⟩,by repeat (first | exact Drawn0.refl _ | apply Drawn0.step)⟩
        ·replace c10 :=Bool.eq_false_iff.mpr c10
         subst c10
         have H1 : (ycv.j3 kj6 a0 a1 x6_6 false) = some (r1,r2) :=by rw [if_neg (show ¬ (false = true) by decide)] at H;exact H
         clear H
         have H :=H1
         clear H1
         have H' :=Aside0.mk H
         clear H
         go_wp2
         go_meet
         case rel => exact ⟨_,(x6_6),(by rfl),H',⟨by have :=HJ2.out;have :=HJ4.out;have :=HJ6.out;omega⟩,by repeat (first | exact Drawn0.refl _ | apply Drawn0.step)⟩
       case rest =>
        clear HC9
        try clear c1
        try clear c2
        try clear p2
        try clear c4
        try clear c4b0
        try clear c4b1
        try clear c6
        try clear c6b0
        try clear c6b1
        try clear c8
        try clear c10
        try clear p2
        obtain ⟨kq,x6_8,rfl,HA,HJ8,⟨mc8,rfl⟩⟩ :=hcut
        cases kq with
        | zero => exact absurd HA.out (by simp [ycv.j3])
        | succ kj8 =>
         have H :=HA.out
         clear HA
         simp only [ycv.j3] at H
         by_cases c11 : (Go.bits .and .u8 a1 2) = 0
         ·obtain ⟨H,c11b0,c11b1⟩ :=ipos c11 H;clear c11
          replace H :=Option.bind_eq_some_iff.mp H
          obtain ⟨t170,A120,H⟩ :=H
          replace H : ((ycx.f x7_2 1).bind fun t171 => ((ycx.f (decide ((Go.bits .and .u8 a0 15) > 9)) 16).bind fun t172 => (some ((a0 + x6_8) % 256,Go.bits .or .u8 (Go.bits .or .u8 (Go.bits .or .u8 t170 (Go.bits .and .u8 a1 2)) t171) t172)))) = some (r1,r2) :=H
          have A12 :=Aside0.mk A120
          clear A120
          replace H :=Option.bind_eq_some_iff.mp H
          obtain ⟨t171,A130,H⟩ :=H
          replace H : ((ycx.f (decide ((Go.bits .and .u8 a0 15) > 9)) 16).bind fun t172 => (some ((a0 + x6_8) % 256,Go.bits .or .u8 (Go.bits .or .u8 (Go.bits .or .u8 t170 (Go.bits .and .u8 a1 2)) t171) t172))) = some (r1,r2) :=H
          have A13 :=Aside0.mk A130
          clear A130
          replace H :=Option.bind_eq_some_iff.mp H
          obtain ⟨t172,A140,H⟩ :=H
          replace H : (some ((a0 + x6_8) % 256,Go.bits .or .u8 (Go.bits .or .u8 (Go.bits .or .u8 t170 (Go.bits .and .u8 a1 2)) t171) t172)) = some (r1,r2) :=H
          have A14 :=Aside0.mk A140
          clear A140
          simp only [Option.some.injEq,Prod.mk.injEq] at H
          obtain ⟨rfl,rfl⟩ :=H
          go_wp2_with (first | ((with_reducible refine gate_callee (f :=156) rfl ?_);refine goesL_ (some 49) rfl rfl Tryz.func156 (by kernel_rfl) rfl #[.int .u8 ((a0 + x6_8) % 256)] rfl (by (try simp only [List.map_toArray,List.map_cons,List.map_nil]);rfl) ?_;(with_reducible refine (yde.calls ((a0 + x6_8) % 256) t170 _ A12.out).mono ?_);rintro e w' ⟨rfl,⟨nd,rfl⟩⟩;refine ⟨_,rfl,?_⟩) | ((with_reducible refine gate_callee (f :=157) rfl ?_);refine goesL_ (some 54) rfl rfl Tryz.func157 (by kernel_rfl) rfl #[.bool x7_2,.int .u8 1] rfl (by (try simp only [List.map_toArray,List.map_cons,List.map_nil]);rfl) ?_;(with_reducible refine (ycx.calls x7_2 1 t171 _ A13.out).mono ?_);rintro e w' ⟨rfl,⟨nd,rfl⟩⟩;refine ⟨_,rfl,?_⟩) | ((with_reducible refine gate_callee (f :=157) rfl ?_);refine goesL_ (some 57) rfl rfl Tryz.func157 (by kernel_rfl) rfl #[.bool (decide ((Go.bits .and .u8 a0 15) > 9)),.int .u8 16] rfl (by (try simp only [List.map_toArray,List.map_cons,List.map_nil]);rfl) ?_;(with_reducible refine (ycx.calls (decide ((Go.bits .and .u8 a0 15) > 9)) 16 t172 _ A14.out).mono ?_);rintro e w' ⟨rfl,⟨nd,rfl⟩⟩;refine ⟨_,rfl,?_⟩))
          go_ret2
          exact ⟨by rfl,by repeat (first | exact Drawn0.refl _ | apply Drawn0.step)⟩
         ·obtain ⟨H,c11b0,c11b1⟩ :=ineg c11 H
          by_cases c15 : (Go.bits .and .u8 a0 15) < 6
          ·rw [if_pos c15] at H
           have c15b0 : decide ((Go.bits .and .u8 a0 15) < 6) = true :=decide_eq_true c15
           clear c15
           replace H :=Option.bind_eq_some_iff.mp H
           obtain ⟨t173,A160,H⟩ :=H
           replace H : ((ycx.f x7_2 1).bind fun t174 => ((ycx.f ((Go.bits .and .u8 a1 16) != 0) 16).bind fun t175 => (some ((a0 - x6_8) % 256,Go.bits .or .u8 (Go.bits .or .u8 (Go.bits .or .u8 t173 (Go.bits .and .u8 a1 2)) t174) t175)))) = some (r1,r2) :=H
           have A16 :=Aside0.mk A160
           clear A160
           replace H :=Option.bind_eq_some_iff.mp H
           obtain ⟨t174,A170,H⟩ :=H
           replace H : ((ycx.f ((Go.bits .and .u8 a1 16) != 0) 16).bind fun t175 => (some ((a0 - x6_8) % 256,Go.bits .or .u8 (Go.bits .or .u8 (Go.bits .or .u8 t173 (Go.bits .and .u8 a1 2)) t174) t175))) = some (r1,r2) :=H
           have A17 :=Aside0.mk A170
           clear A170
           replace H :=Option.bind_eq_some_iff.mp H
           obtain ⟨t175,A180,H⟩ :=H
           replace H : (some ((a0 - x6_8) % 256,Go.bits .or .u8 (Go.bits .or .u8 (Go.bits .or .u8 t173 (Go.bits .and .u8 a1 2)) t174) t175)) = some (r1,r2) :=H
           have A18 :=Aside0.mk A180
           clear A180
           simp only [Option.some.injEq,Prod.mk.injEq] at H
           obtain ⟨rfl,rfl⟩ :=H
           go_wp2_with (first | ((with_reducible refine gate_callee (f :=156) rfl ?_);refine goesL_ (some 49) rfl rfl Tryz.func156 (by kernel_rfl) rfl #[.int .u8 ((a0 - x6_8) % 256)] rfl (by (try simp only [List.map_toArray,List.map_cons,List.map_nil]);rfl) ?_;(with_reducible refine (yde.calls ((a0 - x6_8) % 256) t173 _ A16.out).mono ?_);rintro e w' ⟨rfl,⟨nd,rfl⟩⟩;refine ⟨_,rfl,?_⟩) | ((with_reducible refine gate_callee (f :=157) rfl ?_);refine goesL_ (some 54) rfl rfl Tryz.func157 (by kernel_rfl) rfl #[.bool x7_2,.int .u8 1] rfl (by (try simp only [List.map_toArray,List.map_cons,List.map_nil]);rfl) ?_;(with_reducible refine (ycx.calls x7_2 1 t174 _ A17.out).mono ?_);rintro e w' ⟨rfl,⟨nd,rfl⟩⟩;refine ⟨_,rfl,?_⟩) | ((with_reducible refine gate_callee (f :=157) rfl ?_);refine goesL_ (some 57) rfl rfl Tryz.func157 (by kernel_rfl) rfl #[.bool ((Go.bits .and .u8 a1 16) != 0),.int .u8 16] rfl (by (try simp only [List.map_toArray,List.map_cons,List.map_nil]);rfl) ?_;(with_reducible refine (ycx.calls ((Go.bits .and .u8 a1 16) != 0) 16 t175 _ A18.out).mono ?_);rintro e w' ⟨rfl,⟨nd,rfl⟩⟩;refine ⟨_,rfl,?_⟩))
           go_ret2
           exact ⟨by rfl,by repeat (first | exact Drawn0.refl _ | apply Drawn0.step)⟩
          ·rw [if_neg c15] at H
           have c15b0 : decide ((Go.bits .and .u8 a0 15) < 6) = false :=decide_eq_false c15
           clear c15
           replace H :=Option.bind_eq_some_iff.mp H
           obtain ⟨t176,A190,H⟩ :=H
           replace H : ((ycx.f x7_2 1).bind fun t177 => ((ycx.f false 16).bind fun t178 => (some ((a0 - x6_8) % 256,Go.bits .or .u8 (Go.bits .or .u8 (Go.bits .or .u8 t176 (Go.bits .and .u8 a1 2)) t177) t178)))) = some (r1,r2) :=H
           have A19 :=Aside0.mk A190
           clear A190
           replace H :=Option.bind_eq_some_iff.mp H
           obtain ⟨t177,A200,H⟩ :=H
           replace H : ((ycx.f false 16).bind fun t178 => (some ((a0 - x6_8) % 256,Go.bits .or .u8 (Go.bits .or .u8 (Go.bits .or .u8 t176 (Go.bits .and .u8 a1 2)) t177) t178))) = some (r1,r2) :=H
           have A20 :=Aside0.mk A200
           clear A200
           replace H :=Option.bind_eq_some_iff.mp H
           obtain ⟨t178,A210,H⟩ :=H
           replace H : (some ((a0 - x6_8) % 256,Go.bits .or .u8 (Go.bits .or .u8 (Go.bits .or .u8 t176 (Go.bits .and .u8 a1 2)) t177) t178)) = some (r1,r2) :=H
           have A21 :=Aside0.mk A210
           clear A210
           simp only [Option.some.injEq,Prod.mk.injEq] at H
           obtain ⟨rfl,rfl⟩ :=H
           go_wp2_with (first | ((with_reducible refine gate_callee (f :=156) rfl ?_);refine goesL_ (some 49) rfl rfl Tryz.func156 (by kernel_rfl) rfl #[.int .u8 ((a0 - x6_8) % 256)] rfl (by (try simp only [List.map_toArray,List.map_cons,List.map_nil]);rfl) ?_;(with_reducible refine (yde.calls ((a0 - x6_8) % 256) t176 _ A19.out).mono ?_);rintro e w' ⟨rfl,⟨nd,rfl⟩⟩;refine ⟨_,rfl,?_⟩) | ((with_reducible refine gate_callee (f :=157) rfl ?_);refine goesL_ (some 54) rfl rfl Tryz.func157 (by kernel_rfl) rfl #[.bool x7_2,.int .u8 1] rfl (by (try simp only [List.map_toArray,List.map_cons,List.map_nil]);rfl) ?_;(with_reducible refine (ycx.calls x7_2 1 t177 _ A20.out).mono ?_);rintro e w' ⟨rfl,⟨nd,rfl⟩⟩;refine ⟨_,rfl,?_⟩) | ((with_reducible refine gate_callee (f :=157) rfl ?_);refine goesL_ (some 57) rfl rfl Tryz.func157 (by kernel_rfl) rfl #[.bool false,.int .u8 16] rfl (by (try simp only [List.map_toArray,List.map_cons,List.map_nil]);rfl) ?_;(with_reducible refine (ycx.calls false 16 t178 _ A21.out).mono ?_);rintro e w' ⟨rfl,⟨nd,rfl⟩⟩;refine ⟨_,rfl,?_⟩))
           go_ret2
           exact ⟨by rfl,by repeat (first | exact Drawn0.refl _ | apply Drawn0.step)⟩

/-! ### shift_Cpl: function 132 -/
def shift_Cpl.f (a0 : Int) (a1 : Int) : Option (Int × Int) :=some (Go.bits .xor .u8 255 a0,Go.bits .or .u8 (Go.bits .or .u8 (Go.bits .or .u8 (Go.bits .and .u8 a1 197) 16) 2) (Go.bits .and .u8 (Go.bits .xor .u8 255 a0) 40))
theorem shift_Cpl.calls (a0 : Int) (a1 : Int) (r1 : Int) (r2 : Int) (w : World) (h : shift_Cpl.f a0 a1 = some (r1,r2)) :
  Calls Tryz.prog 132 #[.int .u8 a0,.int .u8 a1] w fun e w' => e = .returned (.tuple #[.int .u8 r1,.int .u8 r2]) ∧ Drawn0 w w' :=by
 have H : (some (Go.bits .xor .u8 255 a0,Go.bits .or .u8 (Go.bits .or .u8 (Go.bits .or .u8 (Go.bits .and .u8 a1 197) 16) 2) (Go.bits .and .u8 (Go.bits .xor .u8 255 a0) 40))) = some (r1,r2) :=h
 clear h
 simp only [Option.some.injEq,Prod.mk.injEq] at H
 obtain ⟨rfl,rfl⟩ :=H
 go_enter Tryz.func132,Tryz.ntmps132
 go_wp2
 go_ret2
 exact ⟨by rfl,by repeat (exact Drawn0.refl _)⟩

/-! ### shift_Scf: function 133 -/
def shift_Scf.f (a0 : Int) (a1 : Int) : Option (Int) :=some (Go.bits .or .u8 (Go.bits .or .u8 (Go.bits .and .u8 a1 196) (Go.bits .and .u8 a0 40)) 1)
theorem shift_Scf.calls (a0 : Int) (a1 : Int) (r : Int) (w : World) (h : shift_Scf.f a0 a1 = some r) :
  Calls Tryz.prog 133 #[.int .u8 a0,.int .u8 a1] w fun e w' => e = .returned (.int .u8 r) ∧ Drawn0 w w' :=by
 have H : (some (Go.bits .or .u8 (Go.bits .or .u8 (Go.bits .and .u8 a1 196) (Go.bits .and .u8 a0 40)) 1)) = some r :=h
 clear h
 obtain rfl :=Option.some.inj H
 go_enter Tryz.func133,Tryz.ntmps133
 go_wp2
 go_ret
 exact ⟨by rfl,by repeat (exact Drawn0.refl _)⟩

/-! ### shift_Ccf: function 134 -/
def shift_Ccf.f (a0 : Int) (a1 : Int) : Option (Int) :=(ycx.f ((Go.bits .and .u8 a1 1) != 0) 16).bind fun t179 => ((ycx.f ((Go.bits .and .u8 a1 1) == 0) 1).bind fun t180 => (some (Go.bits .or .u8 (Go.bits .or .u8 (Go.bits .or .u8 (Go.bits .and .u8 a1 196) (Go.bits .and .u8 a0 40)) t179) t180)))
theorem shift_Ccf.calls (a0 : Int) (a1 : Int) (r : Int) (w : World) (h : shift_Ccf.f a0 a1 = some r) :
  Calls Tryz.prog 134 #[.int .u8 a0,.int .u8 a1] w fun e w' => e = .returned (.int .u8 r) ∧ Drawn0 w w' :=by
 have H : ((ycx.f ((Go.bits .and .u8 a1 1) != 0) 16).bind fun t179 => ((ycx.f ((Go.bits .and .u8 a1 1) == 0) 1).bind fun t180 => (some (Go.bits .or .u8 (Go.bits .or .u8 (Go.bits .or .u8 (Go.bits .and .u8 a1 196) (Go.bits .and .u8 a0 40)) t179) t180)))) = some r :=h
 clear h
 replace H :=Option.bind_eq_some_iff.mp H
 obtain ⟨t179,A30,H⟩ :=H
 replace H : ((ycx.f ((Go.bits .and .u8 a1 1) == 0) 1).bind fun t180 => (some (Go.bits .or .u8 (Go.bits .or .u8 (Go.bits .or .u8 (Go.bits .and .u8 a1 196) (Go.bits .and .u8 a0 40)) t179) t180))) = some r :=H
 have A3 :=Aside0.mk A30
 clear A30
 replace H :=Option.bind_eq_some_iff.mp H
 obtain ⟨t180,A40,H⟩ :=H
 replace H : (some (Go.bits .or .u8 (Go.bits .or .u8 (Go.bits .or .u8 (Go.bits .and .u8 a1 196) (Go.bits .and .u8 a0 40)) t179) t180)) = some r :=H
 have A4 :=Aside0.mk A40
 clear A40
 obtain rfl :=Option.some.inj H
 go_enter Tryz.func134,Tryz.ntmps134
 go_wp2_with (first | ((with_reducible refine gate_callee (f :=157) rfl ?_);refine goesL_ (some 13) rfl rfl Tryz.func157 (by kernel_rfl) rfl #[.bool ((Go.bits .and .u8 a1 1) != 0),.int .u8 16] rfl (by (try simp only [List.map_toArray,List.map_cons,List.map_nil]);rfl) ?_;(with_reducible refine (ycx.calls ((Go.bits .and .u8 a1 1) != 0) 16 t179 _ A3.out).mono ?_);rintro e w' ⟨rfl,⟨nd,rfl⟩⟩;refine ⟨_,rfl,?_⟩) | ((with_reducible refine gate_callee (f :=157) rfl ?_);refine goesL_ (some 18) rfl rfl Tryz.func157 (by kernel_rfl) rfl #[.bool ((Go.bits .and .u8 a1 1) == 0),.int .u8 1] rfl (by (try simp only [List.map_toArray,List.map_cons,List.map_nil]);rfl) ?_;(with_reducible refine (ycx.calls ((Go.bits .and .u8 a1 1) == 0) 1 t180 _ A4.out).mono ?_);rintro e w' ⟨rfl,⟨nd,rfl⟩⟩;refine ⟨_,rfl,?_⟩))
 go_ret
 exact ⟨by rfl,by repeat (first | exact Drawn0.refl _ | apply Drawn0.step)⟩

/-! ### shift_Rrd: function 148 -/
def shift_Rrd.f (a0 : Int) (a1 : Int) (a2 : Int) : Option (Int × Int × Int) :=(yde.f (Go.bits .or .u8 (Go.bits .and .u8 a0 240) (Go.bits .and .u8 a1 15))).bind fun t181 => (some (Go.bits .or .u8 (Go.bits .and .u8 a0 240) (Go.bits .and .u8 a1 15),Go.bits .or .u8 ((a0 * 16) % 256) (a1 / 16),Go.bits .or .u8 t181 (Go.bits .and .u8 a2 1)))
theorem shift_Rrd.calls (a0 : Int) (a1 : Int) (a2 : Int) (r1 : Int) (r2 : Int) (r3 : Int) (w : World) (h : shift_Rrd.f a0 a1 a2 = some (r1,r2,r3)) :
  Calls Tryz.prog 148 #[.int .u8 a0,.int .u8 a1,.int .u8 a2] w fun e w' => e = .returned (.tuple #[.int .u8 r1,.int .u8 r2,.int .u8 r3]) ∧ Drawn0 w w' :=by
 have H : ((yde.f (Go.bits .or .u8 (Go.bits .and .u8 a0 240) (Go.bits .and .u8 a1 15))).bind fun t181 => (some (Go.bits .or .u8 (Go.bits .and .u8 a0 240) (Go.bits .and .u8 a1 15),Go.bits .or .u8 ((a0 * 16) % 256) (a1 / 16),Go.bits .or .u8 t181 (Go.bits .and .u8 a2 1)))) = some (r1,r2,r3) :=h
 clear h
 replace H :=Option.bind_eq_some_iff.mp H
 obtain ⟨t181,A40,H⟩ :=H
 replace H : (some (Go.bits .or .u8 (Go.bits .and .u8 a0 240) (Go.bits .and .u8 a1 15),Go.bits .or .u8 ((a0 * 16) % 256) (a1 / 16),Go.bits .or .u8 t181 (Go.bits .and .u8 a2 1))) = some (r1,r2,r3) :=H
 have A4 :=Aside0.mk A40
 clear A40
 simp only [Option.some.injEq,Prod.mk.injEq] at H
 obtain ⟨rfl,rfl,rfl⟩ :=H
 go_enter Tryz.func148,Tryz.ntmps148
 go_wp2_with ((((with_reducible refine gate_callee (f :=156) rfl ?_);refine goesL_ (some 22) rfl rfl Tryz.func156 (by kernel_rfl) rfl #[.int .u8 (Go.bits .or .u8 (Go.bits .and .u8 a0 240) (Go.bits .and .u8 a1 15))] rfl (by (try simp only [List.map_toArray,List.map_cons,List.map_nil]);rfl) ?_;(with_reducible refine (yde.calls (Go.bits .or .u8 (Go.bits .and .u8 a0 240) (Go.bits .and .u8 a1 15)) t181 _ A4.out).mono ?_);rintro e w' ⟨rfl,⟨nd,rfl⟩⟩;refine ⟨_,rfl,?_⟩)))
 go_ret3
 exact ⟨by rfl,by repeat (first | exact Drawn0.refl _ | apply Drawn0.step)⟩

/-! ### shift_Rld: function 149 -/
def shift_Rld.f (a0 : Int) (a1 : Int) (a2 : Int) : Option (Int × Int × Int) :=(yde.f (Go.bits .or .u8 (Go.bits .and .u8 a0 240) (a1 / 16))).bind fun t182 => (some (Go.bits .or .u8 (Go.bits .and .u8 a0 240) (a1 / 16),Go.bits .or .u8 ((a1 * 16) % 256) (Go.bits .and .u8 a0 15),Go.bits .or .u8 t182 (Go.bits .and .u8 a2 1)))
theorem shift_Rld.calls (a0 : Int) (a1 : Int) (a2 : Int) (r1 : Int) (r2 : Int) (r3 : Int) (w : World) (h : shift_Rld.f a0 a1 a2 = some (r1,r2,r3)) :
  Calls Tryz.prog 149 #[.int .u8 a0,.int .u8 a1,.int .u8 a2] w fun e w' => e = .returned (.tuple #[.int .u8 r1,.int .u8 r2,.int .u8 r3]) ∧ Drawn0 w w' :=by
 have H : ((yde.f (Go.bits .or .u8 (Go.bits .and .u8 a0 240) (a1 / 16))).bind fun t182 => (some (Go.bits .or .u8 (Go.bits .and .u8 a0 240) (a1 / 16),Go.bits .or .u8 ((a1 * 16) % 256) (Go.bits .and .u8 a0 15),Go.bits .or .u8 t182 (Go.bits .and .u8 a2 1)))) = some (r1,r2,r3) :=h
 clear h
 replace H :=Option.bind_eq_some_iff.mp H
 obtain ⟨t182,A40,H⟩ :=H
 replace H : (some (Go.bits .or .u8 (Go.bits .and .u8 a0 240) (a1 / 16),Go.bits .or .u8 ((a1 * 16) % 256) (Go.bits .and .u8 a0 15),Go.bits .or .u8 t182 (Go.bits .and .u8 a2 1))) = some (r1,r2,r3) :=H
 have A4 :=Aside0.mk A40
 clear A40
 simp only [Option.some.injEq,Prod.mk.injEq] at H
 obtain ⟨rfl,rfl,rfl⟩ :=H
 go_enter Tryz.func149,Tryz.ntmps149
 go_wp2_with ((((with_reducible refine gate_callee (f :=156) rfl ?_);refine goesL_ (some 22) rfl rfl Tryz.func156 (by kernel_rfl) rfl #[.int .u8 (Go.bits .or .u8 (Go.bits .and .u8 a0 240) (a1 / 16))] rfl (by (try simp only [List.map_toArray,List.map_cons,List.map_nil]);rfl) ?_;(with_reducible refine (yde.calls (Go.bits .or .u8 (Go.bits .and .u8 a0 240) (a1 / 16)) t182 _ A4.out).mono ?_);rintro e w' ⟨rfl,⟨nd,rfl⟩⟩;refine ⟨_,rfl,?_⟩)))
 go_ret3
 exact ⟨by rfl,by repeat (first | exact Drawn0.refl _ | apply Drawn0.step)⟩

/-! ### step_if1: function 101 -/
def step_if1.f (a0 : Bool) (a1 : Int) : Option (Int) :=if a0 = true then (some a1) else (some 0)
theorem step_if1.calls (a0 : Bool) (a1 : Int) (r : Int) (w : World) (h : step_if1.f a0 a1 = some r) :
  Calls Tryz.prog 101 #[.bool a0,.int .u8 a1] w fun e w' => e = .returned (.int .u8 r) ∧ Drawn0 w w' :=by
 have H : (if a0 = true then (some a1) else (some 0)) = some r :=h
 clear h
 by_cases c3 : a0 = true
 ·subst c3
  have H1 : (some a1) = some r :=by rw [if_pos rfl] at H;exact H
  clear H
  have H :=H1
  clear H1
  obtain rfl :=Option.some.inj H
  go_enter Tryz.func101,Tryz.ntmps101
  go_wp2
  go_ret
  exact ⟨by rfl,by repeat (exact Drawn0.refl _)⟩
 ·replace c3 :=Bool.eq_false_iff.mpr c3
  subst c3
  have H1 : (some 0) = some r :=by rw [if_neg (show ¬ (false = true) by decide)] at H;exact H
  clear H
  have H :=H1
  clear H1
  obtain rfl :=Option.some.inj H
  go_enter Tryz.func101,Tryz.ntmps101
  go_wp2
  go_ret
  exact ⟨by rfl,by repeat (exact Drawn0.refl _)⟩

/-! ### decode_Parts: function 61 -/
def ycz.f (a0 : Int) : Option (Int × Int × Int × Int × Int) :=some ((Go.bits .and .i64 a0 255) / 64,Go.bits .and .i64 ((Go.bits .and .i64 a0 255) / 8) 7,Go.bits .and .i64 (Go.bits .and .i64 a0 255) 7,(Go.bits .and .i64 ((Go.bits .and .i64 a0 255) / 8) 7) / 2,Go.bits .and .i64 (Go.bits .and .i64 ((Go.bits .and .i64 a0 255) / 8) 7) 1)
theorem ycz.calls (a0 : Int) (r1 : Int) (r2 : Int) (r3 : Int) (r4 : Int) (r5 : Int) (w : World) (h : ycz.f a0 = some (r1,r2,r3,r4,r5)) :
  Calls Tryz.prog 61 #[.int .i64 a0] w fun e w' => e = .returned (.tuple #[.int .i64 r1,.int .i64 r2,.int .i64 r3,.int .i64 r4,.int .i64 r5]) ∧ Drawn0 w w' :=by
 have H : (some ((Go.bits .and .i64 a0 255) / 64,Go.bits .and .i64 ((Go.bits .and .i64 a0 255) / 8) 7,Go.bits .and .i64 (Go.bits .and .i64 a0 255) 7,(Go.bits .and .i64 ((Go.bits .and .i64 a0 255) / 8) 7) / 2,Go.bits .and .i64 (Go.bits .and .i64 ((Go.bits .and .i64 a0 255) / 8) 7) 1)) = some (r1,r2,r3,r4,r5) :=h
 clear h
 simp only [Option.some.injEq,Prod.mk.injEq] at H
 obtain ⟨rfl,rfl,rfl,rfl,rfl⟩ :=H
 go_enter Tryz.func61,Tryz.ntmps61
 go_wp2
 refine bodyPost_ret (results_list (rs :=[.tmp 2,.tmp 3,.tmp 4,.tmp 5,.tmp 6]) rfl (by simp) (.tmp (.tmp (.tmp (.tmp (.tmp .nil)))))) rfl ?_
 exact ⟨by rfl,by repeat (exact Drawn0.refl _)⟩

/-! ### decode_lone: function 56 -/
def ydf.f (a0 : Int) : Option (Bool) :=if a0 = 221 then (some true) else (some (a0 == 253))
theorem ydf.calls (a0 : Int) (r : Bool) (w : World) (h : ydf.f a0 = some r) :
  Calls Tryz.prog 56 #[.int .i64 a0] w fun e w' => e = .returned (.bool r) ∧ Drawn0 w w' :=by
 have H : (if a0 = 221 then (some true) else (some (a0 == 253))) = some r :=h
 clear h
 by_cases c2 : a0 = 221
 ·obtain ⟨H,c2b0,c2b1⟩ :=ipos c2 H;clear c2
  obtain rfl :=Option.some.inj H
  go_enter Tryz.func56,Tryz.ntmps56
  go_wp2
  go_ret
  exact ⟨by rfl,by repeat (exact Drawn0.refl _)⟩
 ·obtain ⟨H,c2b0,c2b1⟩ :=ineg c2 H
  obtain rfl :=Option.some.inj H
  go_enter Tryz.func56,Tryz.ntmps56
  go_wp2
  go_ret
  exact ⟨by rfl,by repeat (exact Drawn0.refl _)⟩

/-! ### decode_there: function 60 -/
mutual
def ycm.j0 : Nat → Int → Int → Int → Bool → Option (Bool)
 | 0,_,_,_,_ => none
 | k + 1,x0,x1,x2,x12 => if x12 = true then (some false) else (if x0 = 0 then (if x1 ≥ 0 then (if x1 ≤ 2 then (if x2 = 203 then (some false) else (if x2 = 237 then (some false) else ((ydf.f x2).bind fun t183 => (if t183 = true then (some (x1 == 0)) else (some true))))) else (some false)) else (some false)) else (if x0 = 1 then (ycm.j1 k x1 x0 (x0 == 1)) else (ycm.j1 k x1 x0 (x0 == 2))))
def ycm.j1 : Nat → Int → Int → Bool → Option (Bool)
 | 0,_,_,_ => none
 | k + 1,x1,x13,x39 => if x39 = true then (some (x1 == 0)) else (if x13 = 3 then (if x1 = 1 then (some true) else (some (x1 == 2))) else (some false))
end
def ycm.f (k : Nat) (a0 : Int) (a1 : Int) (a2 : Int) : Option (Bool) :=if a2 < 0 then (ycm.j0 k a0 a1 a2 true) else (ycm.j0 k a0 a1 a2 (decide (a2 > 255)))
theorem ycm.mono_l : ∀ k,(∀ y0 y1 y2 y3,LeO (ycm.j0 k y0 y1 y2 y3) (ycm.j0 (k + 1) y0 y1 y2 y3)) ∧ (∀ y0 y1 y2,LeO (ycm.j1 k y0 y1 y2) (ycm.j1 (k + 1) y0 y1 y2))
 | 0 => ⟨fun _ _ _ _ r h => by simp [ycm.j0] at h,fun _ _ _ r h => by simp [ycm.j1] at h⟩
 | k + 1 => by
  obtain ⟨ih0,ih1⟩ :=ycm.mono_l k
  refine ⟨?_,?_⟩
  ·intro y0 y1 y2 y3
   unfold ycm.j0
   repeat' first
   | (with_reducible exact ih0 _ _ _ _)
   | (with_reducible exact ih1 _ _ _)
   | (with_reducible exact LeO.refl _)
   | (with_reducible exact LeO.none _)
   | (with_reducible refine LeO.ite ?_ ?_)
   | (with_reducible refine LeO.bind ?_ (fun _ => ?_))
   | exact ih0 _ _ _ _
   | exact ih1 _ _ _
   | exact LeO.none _
   | refine LeO.ite ?_ ?_
   | refine LeO.bind ?_ (fun _ => ?_)
  ·intro y0 y1 y2
   unfold ycm.j1
   repeat' first
   | (with_reducible exact ih0 _ _ _ _)
   | (with_reducible exact ih1 _ _ _)
   | (with_reducible exact LeO.refl _)
   | (with_reducible exact LeO.none _)
   | (with_reducible refine LeO.ite ?_ ?_)
   | (with_reducible refine LeO.bind ?_ (fun _ => ?_))
   | exact ih0 _ _ _ _
   | exact ih1 _ _ _
   | exact LeO.none _
   | refine LeO.ite ?_ ?_
   | refine LeO.bind ?_ (fun _ => ?_)
theorem ycm.mono : ∀ a0 a1 a2 k,LeO (ycm.f k a0 a1 a2) (ycm.f (k + 1) a0 a1 a2) :=by
 intro a0 a1 a2 k
 obtain ⟨ih0,ih1⟩ :=ycm.mono_l k
 unfold ycm.f
 repeat' first
   | (with_reducible exact ih0 _ _ _ _)
   | (with_reducible exact ih1 _ _ _)
   | (with_reducible exact LeO.refl _)
   | (with_reducible exact LeO.none _)
   | (with_reducible refine LeO.ite ?_ ?_)
   | (with_reducible refine LeO.bind ?_ (fun _ => ?_))
   | exact ih0 _ _ _ _
   | exact ih1 _ _ _
   | exact LeO.none _
   | refine LeO.ite ?_ ?_
   | refine LeO.bind ?_ (fun _ => ?_)
theorem ycm.calls (k : Nat) (a0 : Int) (a1 : Int) (a2 : Int) (r : Bool) (w : World) (h : ycm.f k a0 a1 a2 = some r) :
  Calls Tryz.prog 60 #[.int .i64 a0,.int .i64 a1,.int .i64 a2] w fun e w' => e = .returned (.bool r) ∧ Drawn0 w w' :=by
 have H : (if a2 < 0 then (ycm.j0 k a0 a1 a2 true) else (ycm.j0 k a0 a1 a2 (decide (a2 > 255)))) = some r :=h
 clear h
 have HC4 :=Aside0.mk H
 clear H
 go_enter Tryz.func60,Tryz.ntmps60
 go_upto_region 1 with (fail)
 go_cut [12] (fun v12 wc => ∃ (kq : Nat) (x12_3 : Bool),v12 = .bool x12_3 ∧ Aside0 (ycm.j0 kq a0 a1 a2 x12_3 = some r) ∧ Aside0 (kq ≤ k) ∧ Drawn0 w wc)
 case first =>
  have H :=HC4.out
  clear HC4
  by_cases c5 : a2 < 0
  ·rw [if_pos c5] at H
   have c5b0 : decide (a2 < 0) = true :=decide_eq_true c5
   clear c5
   (skip)
   have H' :=Aside0.mk H
   clear H
   go_wp2
   go_meet
   case rel => exact ⟨_,(true),(by rfl),H',⟨by omega⟩,by repeat (exact Drawn0.refl _)⟩
  ·rw [if_neg c5] at H
   have c5b0 : decide (a2 < 0) = false :=decide_eq_false c5
   clear c5
   (skip)
   have H' :=Aside0.mk H
   clear H
   go_wp2
   go_meet
   case rel => exact ⟨_,(decide (a2 > 255)),(by rfl),H',⟨by omega⟩,by repeat (exact Drawn0.refl _)⟩
 case rest =>
  clear HC4
  try clear p2
  try clear c5
  try clear c5b0
  obtain ⟨kq,x12_3,rfl,HA,HJ3,⟨mc3,rfl⟩⟩ :=hcut
  cases kq with
  | zero => exact absurd HA.out (by simp [ycm.j0])
  | succ kj3 =>
   have H :=HA.out
   clear HA
   simp only [ycm.j0] at H
   by_cases c6 : x12_3 = true
   ·subst c6
    have H1 : (some false) = some r :=by rw [if_pos rfl] at H;exact H
    clear H
    have H :=H1
    clear H1
    obtain rfl :=Option.some.inj H
    go_wp2
    go_ret
    exact ⟨by rfl,by repeat (first | exact Drawn0.refl _ | apply Drawn0.step)⟩
   ·replace c6 :=Bool.eq_false_iff.mpr c6
    subst c6
    have H1 : (if a0 = 0 then (if a1 ≥ 0 then (if a1 ≤ 2 then (if a2 = 203 then (some false) else (if a2 = 237 then (some false) else ((ydf.f a2).bind fun t183 => (if t183 = true then (some (a1 == 0)) else (some true))))) else (some false)) else (some false)) else (if a0 = 1 then (ycm.j1 kj3 a1 a0 (a0 == 1)) else (ycm.j1 kj3 a1 a0 (a0 == 2)))) = some r :=by rw [if_neg (show ¬ (false = true) by decide)] at H;exact H
    clear H
    have H :=H1
    clear H1
    by_cases c7 : a0 = 0
    ·obtain ⟨H,c7b0,c7b1⟩ :=ipos c7 H;clear c7
     by_cases c8 : a1 ≥ 0
     ·rw [if_pos c8] at H
      have c8b0 : decide (0 ≤ a1) = true :=decide_eq_true c8
      clear c8
      by_cases c9 : a1 ≤ 2
      ·rw [if_pos c9] at H
       have c9b0 : decide (a1 ≤ 2) = true :=decide_eq_true c9
       clear c9
       by_cases c10 : a2 = 203
       ·obtain ⟨H,c10b0,c10b1⟩ :=ipos c10 H;clear c10
        obtain rfl :=Option.some.inj H
        go_wp2
        go_ret
        exact ⟨by rfl,by repeat (first | exact Drawn0.refl _ | apply Drawn0.step)⟩
       ·obtain ⟨H,c10b0,c10b1⟩ :=ineg c10 H
        by_cases c11 : a2 = 237
        ·obtain ⟨H,c11b0,c11b1⟩ :=ipos c11 H;clear c11
         obtain rfl :=Option.some.inj H
         go_wp2
         go_ret
         exact ⟨by rfl,by repeat (first | exact Drawn0.refl _ | apply Drawn0.step)⟩
        ·obtain ⟨H,c11b0,c11b1⟩ :=ineg c11 H
         replace H :=Option.bind_eq_some_iff.mp H
         obtain ⟨t183,A120,H⟩ :=H
         replace H : (if t183 = true then (some (a1 == 0)) else (some true)) = some r :=H
         have A12 :=Aside0.mk A120
         clear A120
         by_cases c13 : t183 = true
         ·subst c13
          have H1 : (some (a1 == 0)) = some r :=by rw [if_pos rfl] at H;exact H
          clear H
          have H :=H1
          clear H1
          obtain rfl :=Option.some.inj H
          go_wp2_with ((go_at_call 56;(with_reducible refine (ydf.calls a2 true _ A12.out).mono ?_);rintro e w' ⟨rfl,⟨nd,rfl⟩⟩))
          go_ret
          exact ⟨by rfl,by repeat (first | exact Drawn0.refl _ | apply Drawn0.step)⟩
         ·replace c13 :=Bool.eq_false_iff.mpr c13
          subst c13
          have H1 : (some true) = some r :=by rw [if_neg (show ¬ (false = true) by decide)] at H;exact H
          clear H
          have H :=H1
          clear H1
          obtain rfl :=Option.some.inj H
          go_wp2_with ((go_at_call 56;(with_reducible refine (ydf.calls a2 false _ A12.out).mono ?_);rintro e w' ⟨rfl,⟨nd,rfl⟩⟩))
          go_ret
          exact ⟨by rfl,by repeat (first | exact Drawn0.refl _ | apply Drawn0.step)⟩
      ·rw [if_neg c9] at H
       have c9b0 : decide (a1 ≤ 2) = false :=decide_eq_false c9
       clear c9
       obtain rfl :=Option.some.inj H
       go_wp2
       go_ret
       exact ⟨by rfl,by repeat (first | exact Drawn0.refl _ | apply Drawn0.step)⟩
     ·rw [if_neg c8] at H
      have c8b0 : decide (0 ≤ a1) = false :=decide_eq_false c8
      clear c8
      obtain rfl :=Option.some.inj H
      go_wp2
      go_ret
      exact ⟨by rfl,by repeat (first | exact Drawn0.refl _ | apply Drawn0.step)⟩
    ·obtain ⟨H,c7b0,c7b1⟩ :=ineg c7 H
     have HC14 :=Aside0.mk H
     clear H
     go_upto_if 39 with (fail)
     go_cut [39] (fun v39 wc => ∃ (kq : Nat) (x39_13 : Bool),v39 = .bool x39_13 ∧ Aside0 (ycm.j1 kq a1 a0 x39_13 = some r) ∧ Aside0 (kq ≤ kj3) ∧ Drawn0 w wc)
     case first =>
      have H :=HC14.out
      clear HC14
      by_cases c15 : a0 = 1
      ·obtain ⟨H,c15b0,c15b1⟩ :=ipos c15 H;clear c15
       (rw [c15b0])
       have H' :=Aside0.mk H
       clear H
       go_wp2
       go_meet
       case rel => exact ⟨_,((a0 == 1)),(by (simp [*];done)),H',⟨by have :=HJ3.out;omega⟩,by repeat (first | exact Drawn0.refl _ | apply Drawn0.step)⟩
      ·obtain ⟨H,c15b0,c15b1⟩ :=ineg c15 H
       (rw [c15b0])
       have H' :=Aside0.mk H
       clear H
       go_wp2
       go_meet
       case rel => exact ⟨_,((a0 == 2)),(by rfl),H',⟨by have :=HJ3.out;omega⟩,by repeat (first | exact Drawn0.refl _ | apply Drawn0.step)⟩
     case rest =>
      clear HC14
      try clear c1
      try clear p2
      try clear c3
      try clear c5
      try clear c5b0
      try clear c6
      try clear c7
      try clear c7b0
      try clear c7b1
      try clear c8
      try clear c8b0
      try clear c9
      try clear c9b0
      try clear c10
      try clear c10b0
      try clear c10b1
      try clear c11
      try clear c11b0
      try clear c11b1
      try clear c13
      try clear c15
      try clear c15b0
      try clear c15b1
      try clear p2
      obtain ⟨kq,x39_13,rfl,HA,HJ13,⟨mc13,rfl⟩⟩ :=hcut
      cases kq with
      | zero => exact absurd HA.out (by simp [ycm.j1])
      | succ kj13 =>
       have H :=HA.out
       clear HA
       simp only [ycm.j1] at H
       by_cases c16 : x39_13 = true
       ·subst c16
        have H1 : (some (a1 == 0)) = some r :=by rw [if_pos rfl] at H;exact H
        clear H
        have H :=H1
        clear H1
        obtain rfl :=Option.some.inj H
        go_wp2
        go_ret
        exact ⟨by rfl,by repeat (first | exact Drawn0.refl _ | apply Drawn0.step)⟩
       ·replace c16 :=Bool.eq_false_iff.mpr c16
        subst c16
        have H1 : (if a0 = 3 then (if a1 = 1 then (some true) else (some (a1 == 2))) else (some false)) = some r :=by rw [if_neg (show ¬ (false = true) by decide)] at H;exact H
        clear H
        have H :=H1
        clear H1
        by_cases c17 : a0 = 3
        ·obtain ⟨H,c17b0,c17b1⟩ :=ipos c17 H;clear c17
         by_cases c18 : a1 = 1
         ·obtain ⟨H,c18b0,c18b1⟩ :=ipos c18 H;clear c18
          obtain rfl :=Option.some.inj H
          go_wp2
          go_ret
          exact ⟨by rfl,by repeat (first | exact Drawn0.refl _ | apply Drawn0.step)⟩
         ·obtain ⟨H,c18b0,c18b1⟩ :=ineg c18 H
          obtain rfl :=Option.some.inj H
          go_wp2
          go_ret
          exact ⟨by rfl,by repeat (first | exact Drawn0.refl _ | apply Drawn0.step)⟩
        ·obtain ⟨H,c17b0,c17b1⟩ :=ineg c17 H
         obtain rfl :=Option.some.inj H
         go_wp2
         go_ret
         exact ⟨by rfl,by repeat (first | exact Drawn0.refl _ | apply Drawn0.step)⟩

end Go.Proofs.YtnelghpendfdmaaGreatDoor.HFun
