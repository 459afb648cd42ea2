-- Written by a program of this session out of Lean's print of the program (after the form of the kit's print.sh, with own turns); Lean checks it.
import Derived.Test.YtnelghpendfdmaaGreatDoorHFunx4
namespace Go.Proofs.YtnelghpendfdmaaGreatDoor.HFun
set_option maxRecDepth 100000
set_option maxHeartbeats 16000000
open Go.RowKit Go.Proofs.YtnelghpendfdmaaGreatDoorW.PrintWords Go.Proofs.YtnelghpendfdmaaGreatDoorW.PrintLast Go.Proofs.YtnelghpendfdmaaGreatDoorW.PrintMore
attribute [local go_sem] max2_int min2_int max_two min_two max_three min_three max_four min_four   -- for this text's walks alone
set_option linter.unusedVariables false
set_option linter.unusedSimpArgs false

/-! ### decode_reaches: function 75 -/
mutual
def ycl.j0 : Nat → Int → Int → Int → Bool → Option (Bool)
 | 0,_,_,_,_ => none
 | k + 1,x0,x3,x4,x19 => if x19 = true then (some true) else (if x4 = 6 then (ycl.j1 k x0 (x3 == 1)) else (ycl.j1 k x0 false))
def ycl.j1 : Nat → Int → Bool → Option (Bool)
 | 0,_,_ => none
 | k + 1,x0,x19 => if x19 = true then (some true) else (if x0 = 52 then (some true) else (if x0 = 53 then (some true) else (if x0 = 54 then (some true) else (some false))))
end
def ycl.f (k : Nat) (a0 : Int) : Option (Bool) :=(ycz.f a0).bind fun bt184 => (if a0 = 118 then (some false) else (if bt184.2.2.1 = 6 then (if bt184.1 = 1 then (ycl.j0 k a0 bt184.1 bt184.2.1 true) else (ycl.j0 k a0 bt184.1 bt184.2.1 (bt184.1 == 2))) else (ycl.j0 k a0 bt184.1 bt184.2.1 false)))
theorem ycl.mono_l : ∀ k,(∀ y0 y1 y2 y3,LeO (ycl.j0 k y0 y1 y2 y3) (ycl.j0 (k + 1) y0 y1 y2 y3)) ∧ (∀ y0 y1,LeO (ycl.j1 k y0 y1) (ycl.j1 (k + 1) y0 y1))
 | 0 => ⟨fun _ _ _ _ r h => by simp [ycl.j0] at h,fun _ _ r h => by simp [ycl.j1] at h⟩
 | k + 1 => by
  obtain ⟨ih0,ih1⟩ :=ycl.mono_l k
  refine ⟨?_,?_⟩
  ·intro y0 y1 y2 y3
   unfold ycl.j0
   repeat' first
   | (with_reducible exact ih0 _ _ _ _)
   | (with_reducible exact ih1 _ _)
   | (with_reducible exact LeO.refl _)
   | (with_reducible exact LeO.none _)
   | (with_reducible refine LeO.ite ?_ ?_)
   | (with_reducible refine LeO.bind ?_ (fun _ => ?_))
   | exact ih0 _ _ _ _
   | exact ih1 _ _
   | exact LeO.none _
   | refine LeO.ite ?_ ?_
   | refine LeO.bind ?_ (fun _ => ?_)
  ·intro y0 y1
   unfold ycl.j1
   repeat' first
   | (with_reducible exact ih0 _ _ _ _)
   | (with_reducible exact ih1 _ _)
   | (with_reducible exact LeO.refl _)
   | (with_reducible exact LeO.none _)
   | (with_reducible refine LeO.ite ?_ ?_)
   | (with_reducible refine LeO.bind ?_ (fun _ => ?_))
   | exact ih0 _ _ _ _
   | exact ih1 _ _
   | exact LeO.none _
   | refine LeO.ite ?_ ?_
   | refine LeO.bind ?_ (fun _ => ?_)
theorem ycl.mono : ∀ a0 k,LeO (ycl.f k a0) (ycl.f (k + 1) a0) :=by
 intro a0 k
 obtain ⟨ih0,ih1⟩ :=ycl.mono_l k
 unfold ycl.f
 repeat' first
   | (with_reducible exact ih0 _ _ _ _)
   | (with_reducible exact ih1 _ _)
   | (with_reducible exact LeO.refl _)
   | (with_reducible exact LeO.none _)
   | (with_reducible refine LeO.ite ?_ ?_)
   | (with_reducible refine LeO.bind ?_ (fun _ => ?_))
   | exact ih0 _ _ _ _
   | exact ih1 _ _
   | exact LeO.none _
   | refine LeO.ite ?_ ?_
   | refine LeO.bind ?_ (fun _ => ?_)
theorem ycl.calls (k : Nat) (a0 : Int) (r : Bool) (w : World) (h : ycl.f k a0 = some r) :
  Calls Tryz.prog 75 #[.int .i64 a0] w fun e w' => e = .returned (.bool r) ∧ Drawn0 w w' :=by
 have H : ((ycz.f a0).bind fun bt184 => (if a0 = 118 then (some false) else (if bt184.2.2.1 = 6 then (if bt184.1 = 1 then (ycl.j0 k a0 bt184.1 bt184.2.1 true) else (ycl.j0 k a0 bt184.1 bt184.2.1 (bt184.1 == 2))) else (ycl.j0 k a0 bt184.1 bt184.2.1 false)))) = some r :=h
 clear h
 replace H :=Option.bind_eq_some_iff.mp H
 obtain ⟨⟨t184,t185,t186,t187,t188⟩,A20,H⟩ :=H
 replace H : (if a0 = 118 then (some false) else (if t186 = 6 then (if t184 = 1 then (ycl.j0 k a0 t184 t185 true) else (ycl.j0 k a0 t184 t185 (t184 == 2))) else (ycl.j0 k a0 t184 t185 false))) = some r :=H
 have A2 :=Aside0.mk A20
 clear A20
 by_cases c3 : a0 = 118
 ·obtain ⟨H,c3b0,c3b1⟩ :=ipos c3 H;clear c3
  obtain rfl :=Option.some.inj H
  go_enter Tryz.func75,Tryz.ntmps75
  go_wp2_with (((with_reducible refine gate_callee (f :=61) rfl ?_);refine goesL_ (some 10) rfl rfl Tryz.func61 (by kernel_rfl) rfl #[.int .i64 a0] rfl (by (try simp only [List.map_toArray,List.map_cons,List.map_nil]);rfl) ?_;(with_reducible refine (ycz.calls a0 t184 t185 t186 t187 t188 _ A2.out).mono ?_);rintro e w' ⟨rfl,⟨nd,rfl⟩⟩;refine ⟨_,rfl,?_⟩))
  go_ret
  exact ⟨by rfl,by repeat (first | exact Drawn0.refl _ | apply Drawn0.step)⟩
 ·obtain ⟨H,c3b0,c3b1⟩ :=ineg c3 H
  have HC4 :=Aside0.mk H
  clear H
  go_enter Tryz.func75,Tryz.ntmps75
  go_upto_region 4 with (((with_reducible refine gate_callee (f :=61) rfl ?_);refine goesL_ (some 10) rfl rfl Tryz.func61 (by kernel_rfl) rfl #[.int .i64 a0] rfl (by (try simp only [List.map_toArray,List.map_cons,List.map_nil]);rfl) ?_;(with_reducible refine (ycz.calls a0 t184 t185 t186 t187 t188 _ A2.out).mono ?_);rintro e w' ⟨rfl,⟨nd,rfl⟩⟩;refine ⟨_,rfl,?_⟩))
  (try simp only [Act.put,List.setIfInBounds_toArray,List.set_cons_zero,List.set_cons_succ])
  go_cut [19] (fun v19 wc => ∃ (kq : Nat) (x19_3 : Bool),v19 = .bool x19_3 ∧ Aside0 (ycl.j0 kq a0 t184 t185 x19_3 = some r) ∧ Aside0 (kq ≤ k) ∧ Drawn0 w wc)
  case first =>
   have H :=HC4.out
   clear HC4
   by_cases c5 : t186 = 6
   ·obtain ⟨H,c5b0,c5b1⟩ :=ipos c5 H;clear c5
    (skip)
    by_cases c6 : t184 = 1
    ·obtain ⟨H,c6b0,c6b1⟩ :=ipos c6 H;clear c6
     have H' :=Aside0.mk H
     clear H
     go_wp2
     go_meet
     case rel => exact ⟨_,(true),(by rfl),H',⟨by omega⟩,by repeat (first | exact Drawn0.refl _ | apply Drawn0.step)⟩
    ·obtain ⟨H,c6b0,c6b1⟩ :=ineg c6 H
     have H' :=Aside0.mk H
     clear H
     go_wp2
     go_meet
     case rel => exact ⟨_,((t184 == 2)),(by rfl),H',⟨by omega⟩,by repeat (first | exact Drawn0.refl _ | apply Drawn0.step)⟩
   ·obtain ⟨H,c5b0,c5b1⟩ :=ineg c5 H
    (skip)
    have H' :=Aside0.mk H
    clear H
    go_wp2
    go_meet
    case rel => exact ⟨_,(false),(by rfl),H',⟨by omega⟩,by repeat (first | exact Drawn0.refl _ | apply Drawn0.step)⟩
  case rest =>
   clear HC4
   try clear p2
   try clear c3
   try clear c3b0
   try clear c3b1
   try clear c5
   try clear c5b0
   try clear c5b1
   try clear c6
   try clear c6b0
   try clear c6b1
   obtain ⟨kq,x19_3,rfl,HA,HJ3,⟨mc3,rfl⟩⟩ :=hcut
   cases kq with
   | zero => exact absurd HA.out (by simp [ycl.j0])
   | succ kj3 =>
    have H :=HA.out
    clear HA
    simp only [ycl.j0] at H
    by_cases c7 : x19_3 = true
    ·subst c7
     have H1 : (some true) = some r :=by rw [if_pos rfl] at H;exact H
     clear H
     have H :=H1
     clear H1
     obtain rfl :=Option.some.inj H
     go_wp2
     go_ret
     exact ⟨by rfl,by repeat (first | exact Drawn0.refl _ | apply Drawn0.step)⟩
    ·replace c7 :=Bool.eq_false_iff.mpr c7
     subst c7
     have H1 : (if t185 = 6 then (ycl.j1 kj3 a0 (t184 == 1)) else (ycl.j1 kj3 a0 false)) = some r :=by rw [if_neg (show ¬ (false = true) by decide)] at H;exact H
     clear H
     have H :=H1
     clear H1
     have HC8 :=Aside0.mk H
     clear H
     go_upto_region 5 with (fail)
     go_cut [19] (fun v19 wc => ∃ (kq : Nat) (x19_7 : Bool),v19 = .bool x19_7 ∧ Aside0 (ycl.j1 kq a0 x19_7 = some r) ∧ Aside0 (kq ≤ kj3) ∧ Drawn0 w wc)
     case first =>
      have H :=HC8.out
      clear HC8
      by_cases c9 : t185 = 6
      ·obtain ⟨H,c9b0,c9b1⟩ :=ipos c9 H;clear c9
       (skip)
       have H' :=Aside0.mk H
       clear H
       go_wp2
       go_meet
       case rel => exact ⟨_,((t184 == 1)),(by rfl),H',⟨by have :=HJ3.out;omega⟩,by repeat (first | exact Drawn0.refl _ | apply Drawn0.step)⟩
      ·obtain ⟨H,c9b0,c9b1⟩ :=ineg c9 H
       (skip)
       have H' :=Aside0.mk H
       clear H
       go_wp2
       go_meet
       case rel => exact ⟨_,(false),(by rfl),H',⟨by have :=HJ3.out;omega⟩,by repeat (first | exact Drawn0.refl _ | apply Drawn0.step)⟩
     case rest =>
      clear HC8
      try clear p2
      try clear c3
      try clear c3b0
      try clear c3b1
      try clear c5
      try clear c5b0
      try clear c5b1
      try clear c6
      try clear c6b0
      try clear c6b1
      try clear c7
      try clear c9
      try clear c9b0
      try clear c9b1
      try clear p2
      obtain ⟨kq,x19_7,rfl,HA,HJ7,⟨mc7,rfl⟩⟩ :=hcut
      cases kq with
      | zero => exact absurd HA.out (by simp [ycl.j1])
      | succ kj7 =>
       have H :=HA.out
       clear HA
       simp only [ycl.j1] at H
       by_cases c10 : x19_7 = true
       ·subst c10
        have H1 : (some true) = some r :=by rw [if_pos rfl] at H;exact H
        clear H
        have H :=H1
        clear H1
        obtain rfl :=Option.some.inj H
        go_wp2
        go_ret
        exact ⟨by rfl,by repeat (first | exact Drawn0.refl _ | apply Drawn0.step)⟩
       ·replace c10 :=Bool.eq_false_iff.mpr c10
        subst c10
        have H1 : (if a0 = 52 then (some true) else (if a0 = 53 then (some true) else (if a0 = 54 then (some true) else (some false)))) = some r :=by rw [if_neg (show ¬ (false = true) by decide)] at H;exact H
        clear H
        have H :=H1
        clear H1
        by_cases c11 : a0 = 52
        ·obtain ⟨H,c11b0,c11b1⟩ :=ipos c11 H;clear c11
         obtain rfl :=Option.some.inj H
         go_wp2
         go_ret
         exact ⟨by rfl,by repeat (first | exact Drawn0.refl _ | apply Drawn0.step)⟩
        ·obtain ⟨H,c11b0,c11b1⟩ :=ineg c11 H
         by_cases c12 : a0 = 53
         ·obtain ⟨H,c12b0,c12b1⟩ :=ipos c12 H;clear c12
          obtain rfl :=Option.some.inj H
          go_wp2
          go_ret
          exact ⟨by rfl,by repeat (first | exact Drawn0.refl _ | apply Drawn0.step)⟩
         ·obtain ⟨H,c12b0,c12b1⟩ :=ineg c12 H
          by_cases c13 : a0 = 54
          ·obtain ⟨H,c13b0,c13b1⟩ :=ipos c13 H;clear c13
           obtain rfl :=Option.some.inj H
           go_wp2
           go_ret
           exact ⟨by rfl,by repeat (first | exact Drawn0.refl _ | apply Drawn0.step)⟩
          ·obtain ⟨H,c13b0,c13b1⟩ :=ineg c13 H
           obtain rfl :=Option.some.inj H
           go_wp2
           go_ret
           exact ⟨by rfl,by repeat (first | exact Drawn0.refl _ | apply Drawn0.step)⟩

/-! ### decode_immMain: function 76 -/
mutual
def ycf.j0 : Nat → Int → Int → Int → Int → Bool → Option (Int)
 | 0,_,_,_,_,_ => none
 | k + 1,x3,x5,x7,x16,x17 => if x17 = true then (some 1) else (if x16 = 34 then (some 2) else (if x16 = 42 then (some 2) else (if x16 = 50 then (some 2) else (if x16 = 58 then (some 2) else (if x16 = 195 then (some 2) else (if x16 = 205 then (some 2) else (if x3 = 0 then (ycf.j1 k x3 x5 x7 (x5 == 6)) else (if x3 = 3 then (ycf.j1 k x3 x5 x7 (x5 == 6)) else (ycf.j1 k x3 x5 x7 false)))))))))
def ycf.j1 : Nat → Int → Int → Int → Bool → Option (Int)
 | 0,_,_,_,_ => none
 | k + 1,x3,x5,x7,x33 => if x33 = true then (some 1) else (if x3 = 0 then (if x5 = 1 then (ycf.j2 k x3 x5 (x7 == 0)) else (ycf.j2 k x3 x5 false)) else (ycf.j2 k x3 x5 false))
def ycf.j2 : Nat → Int → Int → Bool → Option (Int)
 | 0,_,_,_ => none
 | k + 1,x3,x5,x44 => if x44 = true then (some 2) else (if x3 = 3 then (if x5 = 2 then (some 2) else (if x5 = 4 then (some 2) else (some 0))) else (some 0))
end
def ycf.f (k : Nat) (a0 : Int) : Option (Int) :=(ycz.f a0).bind fun bt189 => (if a0 = 16 then (ycf.j0 k bt189.1 bt189.2.2.1 bt189.2.2.2.2 a0 (a0 == 16)) else (if a0 = 24 then (ycf.j0 k bt189.1 bt189.2.2.1 bt189.2.2.2.2 a0 (a0 == 24)) else (if a0 = 32 then (ycf.j0 k bt189.1 bt189.2.2.1 bt189.2.2.2.2 a0 (a0 == 32)) else (if a0 = 40 then (ycf.j0 k bt189.1 bt189.2.2.1 bt189.2.2.2.2 a0 (a0 == 40)) else (if a0 = 48 then (ycf.j0 k bt189.1 bt189.2.2.1 bt189.2.2.2.2 a0 (a0 == 48)) else (if a0 = 56 then (ycf.j0 k bt189.1 bt189.2.2.1 bt189.2.2.2.2 a0 (a0 == 56)) else (if a0 = 211 then (ycf.j0 k bt189.1 bt189.2.2.1 bt189.2.2.2.2 a0 (a0 == 211)) else (ycf.j0 k bt189.1 bt189.2.2.1 bt189.2.2.2.2 a0 (a0 == 219)))))))))
theorem ycf.mono_l : ∀ k,(∀ y0 y1 y2 y3 y4,LeO (ycf.j0 k y0 y1 y2 y3 y4) (ycf.j0 (k + 1) y0 y1 y2 y3 y4)) ∧ (∀ y0 y1 y2 y3,LeO (ycf.j1 k y0 y1 y2 y3) (ycf.j1 (k + 1) y0 y1 y2 y3)) ∧ (∀ y0 y1 y2,LeO (ycf.j2 k y0 y1 y2) (ycf.j2 (k + 1) y0 y1 y2))
 | 0 => ⟨fun _ _ _ _ _ r h => by simp [ycf.j0] at h,fun _ _ _ _ r h => by simp [ycf.j1] at h,fun _ _ _ r h => by simp [ycf.j2] at h⟩
 | k + 1 => by
  obtain ⟨ih0,ih1,ih2⟩ :=ycf.mono_l k
  refine ⟨?_,?_,?_⟩
  ·intro y0 y1 y2 y3 y4
   unfold ycf.j0
   repeat' first
   | (with_reducible exact ih0 _ _ _ _ _)
   | (with_reducible exact ih1 _ _ _ _)
   | (with_reducible exact ih2 _ _ _)
   | (with_reducible exact LeO.refl _)
   | (with_reducible exact LeO.none _)
   | (with_reducible refine LeO.ite ?_ ?_)
   | (with_reducible refine LeO.bind ?_ (fun _ => ?_))
   | exact ih0 _ _ _ _ _
   | exact ih1 _ _ _ _
   | exact ih2 _ _ _
   | exact LeO.none _
   | refine LeO.ite ?_ ?_
   | refine LeO.bind ?_ (fun _ => ?_)
  ·intro y0 y1 y2 y3
   unfold ycf.j1
   repeat' first
   | (with_reducible exact ih0 _ _ _ _ _)
   | (with_reducible exact ih1 _ _ _ _)
   | (with_reducible exact ih2 _ _ _)
   | (with_reducible exact LeO.refl _)
   | (with_reducible exact LeO.none _)
   | (with_reducible refine LeO.ite ?_ ?_)
   | (with_reducible refine LeO.bind ?_ (fun _ => ?_))
   | exact ih0 _ _ _ _ _
   | exact ih1 _ _ _ _
   | exact ih2 _ _ _
   | exact LeO.none _
   | refine LeO.ite ?_ ?_
   | refine LeO.bind ?_ (fun _ => ?_)
  ·intro y0 y1 y2
   unfold ycf.j2
   repeat' first
   | (with_reducible exact ih0 _ _ _ _ _)
   | (with_reducible exact ih1 _ _ _ _)
   | (with_reducible exact ih2 _ _ _)
   | (with_reducible exact LeO.refl _)
   | (with_reducible exact LeO.none _)
   | (with_reducible refine LeO.ite ?_ ?_)
   | (with_reducible refine LeO.bind ?_ (fun _ => ?_))
   | exact ih0 _ _ _ _ _
   | exact ih1 _ _ _ _
   | exact ih2 _ _ _
   | exact LeO.none _
   | refine LeO.ite ?_ ?_
   | refine LeO.bind ?_ (fun _ => ?_)
theorem ycf.mono : ∀ a0 k,LeO (ycf.f k a0) (ycf.f (k + 1) a0) :=by
 intro a0 k
 obtain ⟨ih0,ih1,ih2⟩ :=ycf.mono_l k
 unfold ycf.f
 repeat' first
   | (with_reducible exact ih0 _ _ _ _ _)
   | (with_reducible exact ih1 _ _ _ _)
   | (with_reducible exact ih2 _ _ _)
   | (with_reducible exact LeO.refl _)
   | (with_reducible exact LeO.none _)
   | (with_reducible refine LeO.ite ?_ ?_)
   | (with_reducible refine LeO.bind ?_ (fun _ => ?_))
   | exact ih0 _ _ _ _ _
   | exact ih1 _ _ _ _
   | exact ih2 _ _ _
   | exact LeO.none _
   | refine LeO.ite ?_ ?_
   | refine LeO.bind ?_ (fun _ => ?_)
theorem ycf.calls (k : Nat) (a0 : Int) (r : Int) (w : World) (h : ycf.f k a0 = some r) :
  Calls Tryz.prog 76 #[.int .i64 a0] w fun e w' => e = .returned (.int .i64 r) ∧ Drawn0 w w' :=by
 have H : ((ycz.f a0).bind fun bt189 => (if a0 = 16 then (ycf.j0 k bt189.1 bt189.2.2.1 bt189.2.2.2.2 a0 (a0 == 16)) else (if a0 = 24 then (ycf.j0 k bt189.1 bt189.2.2.1 bt189.2.2.2.2 a0 (a0 == 24)) else (if a0 = 32 then (ycf.j0 k bt189.1 bt189.2.2.1 bt189.2.2.2.2 a0 (a0 == 32)) else (if a0 = 40 then (ycf.j0 k bt189.1 bt189.2.2.1 bt189.2.2.2.2 a0 (a0 == 40)) else (if a0 = 48 then (ycf.j0 k bt189.1 bt189.2.2.1 bt189.2.2.2.2 a0 (a0 == 48)) else (if a0 = 56 then (ycf.j0 k bt189.1 bt189.2.2.1 bt189.2.2.2.2 a0 (a0 == 56)) else (if a0 = 211 then (ycf.j0 k bt189.1 bt189.2.2.1 bt189.2.2.2.2 a0 (a0 == 211)) else (ycf.j0 k bt189.1 bt189.2.2.1 bt189.2.2.2.2 a0 (a0 == 219)))))))))) = some r :=h
 clear h
 replace H :=Option.bind_eq_some_iff.mp H
 obtain ⟨⟨t189,t190,t191,t192,t193⟩,A20,H⟩ :=H
 replace H : (if a0 = 16 then (ycf.j0 k t189 t191 t193 a0 (a0 == 16)) else (if a0 = 24 then (ycf.j0 k t189 t191 t193 a0 (a0 == 24)) else (if a0 = 32 then (ycf.j0 k t189 t191 t193 a0 (a0 == 32)) else (if a0 = 40 then (ycf.j0 k t189 t191 t193 a0 (a0 == 40)) else (if a0 = 48 then (ycf.j0 k t189 t191 t193 a0 (a0 == 48)) else (if a0 = 56 then (ycf.j0 k t189 t191 t193 a0 (a0 == 56)) else (if a0 = 211 then (ycf.j0 k t189 t191 t193 a0 (a0 == 211)) else (ycf.j0 k t189 t191 t193 a0 (a0 == 219))))))))) = some r :=H
 have A2 :=Aside0.mk A20
 clear A20
 have HC3 :=Aside0.mk H
 clear H
 go_enter Tryz.func76,Tryz.ntmps76
 go_upto_if 17 with (((with_reducible refine gate_callee (f :=61) rfl ?_);refine goesL_ (some 10) rfl rfl Tryz.func61 (by kernel_rfl) rfl #[.int .i64 a0] rfl (by (try simp only [List.map_toArray,List.map_cons,List.map_nil]);rfl) ?_;(with_reducible refine (ycz.calls a0 t189 t190 t191 t192 t193 _ A2.out).mono ?_);rintro e w' ⟨rfl,⟨nd,rfl⟩⟩;refine ⟨_,rfl,?_⟩))
 (try simp only [Act.put,List.setIfInBounds_toArray,List.set_cons_zero,List.set_cons_succ])
 go_cut [17] (fun v17 wc => ∃ (kq : Nat) (x17_2 : Bool),v17 = .bool x17_2 ∧ Aside0 (ycf.j0 kq t189 t191 t193 a0 x17_2 = some r) ∧ Aside0 (kq ≤ k) ∧ Drawn0 w wc)
 case first =>
  have H :=HC3.out
  clear HC3
  by_cases c4 : a0 = 16
  ·obtain ⟨H,c4b0,c4b1⟩ :=ipos c4 H;clear c4
   (rw [c4b0])
   have H' :=Aside0.mk H
   clear H
   go_wp2
   go_meet
   case rel => exact ⟨_,((a0 == 16)),(by (simp [*];done)),H',⟨by omega⟩,by repeat (first | exact Drawn0.refl _ | apply Drawn0.step)⟩
  ·obtain ⟨H,c4b0,c4b1⟩ :=ineg c4 H
   (rw [c4b0])
   by_cases c5 : a0 = 24
   ·obtain ⟨H,c5b0,c5b1⟩ :=ipos c5 H;clear c5
    have H' :=Aside0.mk H
    clear H
    go_wp2
    go_meet
    case rel => exact ⟨_,((a0 == 24)),(by (simp [*];done)),H',⟨by omega⟩,by repeat (first | exact Drawn0.refl _ | apply Drawn0.step)⟩
   ·obtain ⟨H,c5b0,c5b1⟩ :=ineg c5 H
    by_cases c6 : a0 = 32
    ·obtain ⟨H,c6b0,c6b1⟩ :=ipos c6 H;clear c6
     have H' :=Aside0.mk H
     clear H
     go_wp2
     go_meet
     case rel => exact ⟨_,((a0 == 32)),(by (simp [*];done)),H',⟨by omega⟩,by repeat (first | exact Drawn0.refl _ | apply Drawn0.step)⟩
    ·obtain ⟨H,c6b0,c6b1⟩ :=ineg c6 H
     by_cases c7 : a0 = 40
     ·obtain ⟨H,c7b0,c7b1⟩ :=ipos c7 H;clear c7
      have H' :=Aside0.mk H
      clear H
      go_wp2
      go_meet
      case rel => exact ⟨_,((a0 == 40)),(by (simp [*];done)),H',⟨by omega⟩,by repeat (first | exact Drawn0.refl _ | apply Drawn0.step)⟩
     ·obtain ⟨H,c7b0,c7b1⟩ :=ineg c7 H
      by_cases c8 : a0 = 48
      ·obtain ⟨H,c8b0,c8b1⟩ :=ipos c8 H;clear c8
       have H' :=Aside0.mk H
       clear H
       go_wp2
       go_meet
       case rel => exact ⟨_,((a0 == 48)),(by (simp [*];done)),H',⟨by omega⟩,by repeat (first | exact Drawn0.refl _ | apply Drawn0.step)⟩
      ·obtain ⟨H,c8b0,c8b1⟩ :=ineg c8 H
       by_cases c9 : a0 = 56
       ·obtain ⟨H,c9b0,c9b1⟩ :=ipos c9 H;clear c9
        have H' :=Aside0.mk H
        clear H
        go_wp2
        go_meet
        case rel => exact ⟨_,((a0 == 56)),(by (simp [*];done)),H',⟨by omega⟩,by repeat (first | exact Drawn0.refl _ | apply Drawn0.step)⟩
       ·obtain ⟨H,c9b0,c9b1⟩ :=ineg c9 H
        by_cases c10 : a0 = 211
        ·obtain ⟨H,c10b0,c10b1⟩ :=ipos c10 H;clear c10
         have H' :=Aside0.mk H
         clear H
         go_wp2
         go_meet
         case rel => exact ⟨_,((a0 == 211)),(by (simp [*];done)),H',⟨by omega⟩,by repeat (first | exact Drawn0.refl _ | apply Drawn0.step)⟩
        ·obtain ⟨H,c10b0,c10b1⟩ :=ineg c10 H
         have H' :=Aside0.mk H
         clear H
         go_wp2
         go_meet
         case rel => exact ⟨_,((a0 == 219)),(by rfl),H',⟨by omega⟩,by repeat (first | exact Drawn0.refl _ | apply Drawn0.step)⟩
 case rest =>
  clear HC3
  try clear c1
  try clear p2
  try clear c4
  try clear c4b0
  try clear c4b1
  try clear c5
  try clear c5b0
  try clear c5b1
  try clear c6
  try clear c6b0
  try clear c6b1
  try clear c7
  try clear c7b0
  try clear c7b1
  try clear c8
  try clear c8b0
  try clear c8b1
  try clear c9
  try clear c9b0
  try clear c9b1
  try clear c10
  try clear c10b0
  try clear c10b1
  obtain ⟨kq,x17_2,rfl,HA,HJ2,⟨mc2,rfl⟩⟩ :=hcut
  cases kq with
  | zero => exact absurd HA.out (by simp [ycf.j0])
  | succ kj2 =>
   have H :=HA.out
   clear HA
   simp only [ycf.j0] at H
   by_cases c11 : x17_2 = true
   ·subst c11
    have H1 : (some 1) = some r :=by rw [if_pos rfl] at H;exact H
    clear H
    have H :=H1
    clear H1
    obtain rfl :=Option.some.inj H
    go_wp2
    go_ret
    exact ⟨by rfl,by repeat (first | exact Drawn0.refl _ | apply Drawn0.step)⟩
   ·replace c11 :=Bool.eq_false_iff.mpr c11
    subst c11
    have H1 : (if a0 = 34 then (some 2) else (if a0 = 42 then (some 2) else (if a0 = 50 then (some 2) else (if a0 = 58 then (some 2) else (if a0 = 195 then (some 2) else (if a0 = 205 then (some 2) else (if t189 = 0 then (ycf.j1 kj2 t189 t191 t193 (t191 == 6)) else (if t189 = 3 then (ycf.j1 kj2 t189 t191 t193 (t191 == 6)) else (ycf.j1 kj2 t189 t191 t193 false))))))))) = some r :=by rw [if_neg (show ¬ (false = true) by decide)] at H;exact H
    clear H
    have H :=H1
    clear H1
    by_cases c12 : a0 = 34
    ·obtain ⟨H,c12b0,c12b1⟩ :=ipos c12 H;clear c12
     obtain rfl :=Option.some.inj H
     go_wp2
     go_ret
     exact ⟨by rfl,by repeat (first | exact Drawn0.refl _ | apply Drawn0.step)⟩
    ·obtain ⟨H,c12b0,c12b1⟩ :=ineg c12 H
     by_cases c13 : a0 = 42
     ·obtain ⟨H,c13b0,c13b1⟩ :=ipos c13 H;clear c13
      obtain rfl :=Option.some.inj H
      go_wp2
      go_ret
      exact ⟨by rfl,by repeat (first | exact Drawn0.refl _ | apply Drawn0.step)⟩
     ·obtain ⟨H,c13b0,c13b1⟩ :=ineg c13 H
      by_cases c14 : a0 = 50
      ·obtain ⟨H,c14b0,c14b1⟩ :=ipos c14 H;clear c14
       obtain rfl :=Option.some.inj H
       go_wp2
       go_ret
       exact ⟨by rfl,by repeat (first | exact Drawn0.refl _ | apply Drawn0.step)⟩
      ·obtain ⟨H,c14b0,c14b1⟩ :=ineg c14 H
       by_cases c15 : a0 = 58
       ·obtain ⟨H,c15b0,c15b1⟩ :=ipos c15 H;clear c15
        obtain rfl :=Option.some.inj H
        go_wp2
        go_ret
        exact ⟨by rfl,by repeat (first | exact Drawn0.refl _ | apply Drawn0.step)⟩
       ·obtain ⟨H,c15b0,c15b1⟩ :=ineg c15 H
        by_cases c16 : a0 = 195
        ·obtain ⟨H,c16b0,c16b1⟩ :=ipos c16 H;clear c16
         obtain rfl :=Option.some.inj H
         go_wp2
         go_ret
         exact ⟨by rfl,by repeat (first | exact Drawn0.refl _ | apply Drawn0.step)⟩
        ·obtain ⟨H,c16b0,c16b1⟩ :=ineg c16 H
         by_cases c17 : a0 = 205
         ·obtain ⟨H,c17b0,c17b1⟩ :=ipos c17 H;clear c17
          obtain rfl :=Option.some.inj H
          go_wp2
          go_ret
          exact ⟨by rfl,by repeat (first | exact Drawn0.refl _ | apply Drawn0.step)⟩
         ·obtain ⟨H,c17b0,c17b1⟩ :=ineg c17 H
          have HC18 :=Aside0.mk H
          clear H
          go_upto_region 19 with (fail)
          go_cut [33] (fun v33 wc => ∃ (kq : Nat) (x33_17 : Bool),v33 = .bool x33_17 ∧ Aside0 (ycf.j1 kq t189 t191 t193 x33_17 = some r) ∧ Aside0 (kq ≤ kj2) ∧ Drawn0 w wc)
          case first =>
           have H :=HC18.out
           clear HC18
           by_cases c19 : t189 = 0
           ·obtain ⟨H,c19b0,c19b1⟩ :=ipos c19 H;clear c19
            (skip)
            have H' :=Aside0.mk H
            clear H
            go_wp2
            go_meet
            case rel => exact ⟨_,((t191 == 6)),(by rfl),H',⟨by have :=HJ2.out;omega⟩,by repeat (first | exact Drawn0.refl _ | apply Drawn0.step)⟩
           ·obtain ⟨H,c19b0,c19b1⟩ :=ineg c19 H
            (skip)
            by_cases c20 : t189 = 3
            ·obtain ⟨H,c20b0,c20b1⟩ :=ipos c20 H;clear c20
             have H' :=Aside0.mk H
             clear H
             go_wp2
             go_meet
             case rel => exact ⟨_,((t191 == 6)),(by rfl),H',⟨by have :=HJ2.out;omega⟩,by repeat (first | exact Drawn0.refl _ | apply Drawn0.step)⟩
            ·obtain ⟨H,c20b0,c20b1⟩ :=ineg c20 H
             have H' :=Aside0.mk H
             clear H
             go_wp2
             go_meet
             case rel => exact ⟨_,(false),(by rfl),H',⟨by have :=HJ2.out;omega⟩,by repeat (first | exact Drawn0.refl _ | apply Drawn0.step)⟩
          case rest =>
           clear HC18
           try clear c1
           try clear c2
           try clear p2
           try clear c4
           try clear c4b0
           try clear c4b1
           try clear c5
           try clear c5b0
           try clear c5b1
           try clear c6
           try clear c6b0
           try clear c6b1
           try clear c7
           try clear c7b0
           try clear c7b1
           try clear c8
           try clear c8b0
           try clear c8b1
           try clear c9
           try clear c9b0
           try clear c9b1
           try clear c10
           try clear c10b0
           try clear c10b1
           try clear c11
           try clear c12
           try clear c12b0
           try clear c12b1
           try clear c13
           try clear c13b0
           try clear c13b1
           try clear c14
           try clear c14b0
           try clear c14b1
           try clear c15
           try clear c15b0
           try clear c15b1
           try clear c16
           try clear c16b0
           try clear c16b1
           try clear c17
           try clear c17b0
           try clear c17b1
           try clear c19
           try clear c19b0
           try clear c19b1
           try clear c20
           try clear c20b0
           try clear c20b1
           try clear p2
           obtain ⟨kq,x33_17,rfl,HA,HJ17,⟨mc17,rfl⟩⟩ :=hcut
           cases kq with
           | zero => exact absurd HA.out (by simp [ycf.j1])
           | succ kj17 =>
            have H :=HA.out
            clear HA
            simp only [ycf.j1] at H
            by_cases c21 : x33_17 = true
            ·subst c21
             have H1 : (some 1) = some r :=by rw [if_pos rfl] at H;exact H
             clear H
             have H :=H1
             clear H1
             obtain rfl :=Option.some.inj H
             go_wp2
             go_ret
             exact ⟨by rfl,by repeat (first | exact Drawn0.refl _ | apply Drawn0.step)⟩
            ·replace c21 :=Bool.eq_false_iff.mpr c21
             subst c21
             have H1 : (if t189 = 0 then (if t191 = 1 then (ycf.j2 kj17 t189 t191 (t193 == 0)) else (ycf.j2 kj17 t189 t191 false)) else (ycf.j2 kj17 t189 t191 false)) = some r :=by rw [if_neg (show ¬ (false = true) by decide)] at H;exact H
             clear H
             have H :=H1
             clear H1
             have HC22 :=Aside0.mk H
             clear H
             go_upto_region 21 with (fail)
             go_cut [44] (fun v44 wc => ∃ (kq : Nat) (x44_21 : Bool),v44 = .bool x44_21 ∧ Aside0 (ycf.j2 kq t189 t191 x44_21 = some r) ∧ Aside0 (kq ≤ kj17) ∧ Drawn0 w wc)
             case first =>
              have H :=HC22.out
              clear HC22
              by_cases c23 : t189 = 0
              ·obtain ⟨H,c23b0,c23b1⟩ :=ipos c23 H;clear c23
               (skip)
               by_cases c24 : t191 = 1
               ·obtain ⟨H,c24b0,c24b1⟩ :=ipos c24 H;clear c24
                have H' :=Aside0.mk H
                clear H
                go_wp2
                go_meet
                case rel => exact ⟨_,((t193 == 0)),(by rfl),H',⟨by have :=HJ2.out;have :=HJ17.out;omega⟩,by repeat (first | exact Drawn0.refl _ | apply Drawn0.step)⟩
               ·obtain ⟨H,c24b0,c24b1⟩ :=ineg c24 H
                have H' :=Aside0.mk H
                clear H
                go_wp2
                go_meet
                case rel => exact ⟨_,(false),(by rfl),H',⟨by have :=HJ2.out;have :=HJ17.out;omega⟩,by repeat (first | exact Drawn0.refl _ | apply Drawn0.step)⟩
              ·obtain ⟨H,c23b0,c23b1⟩ :=ineg c23 H
               (skip)
               have H' :=Aside0.mk H
               clear H
               go_wp2
               go_meet
               case rel => exact ⟨_,(false),(by rfl),H',⟨by have :=HJ2.out;have :=HJ17.out;omega⟩,by repeat (first | exact Drawn0.refl _ | apply Drawn0.step)⟩
             case rest =>
              clear HC22
              try clear c1
              try clear c2
              try clear p2
              try clear c4
              try clear c4b0
              try clear c4b1
              try clear c5
              try clear c5b0
              try clear c5b1
              try clear c6
              try clear c6b0
              try clear c6b1
              try clear c7
              try clear c7b0
              try clear c7b1
              try clear c8
              try clear c8b0
              try clear c8b1
              try clear c9
              try clear c9b0
              try clear c9b1
              try clear c10
              try clear c10b0
              try clear c10b1
              try clear c11
              try clear c12
              try clear c12b0
              try clear c12b1
              try clear c13
              try clear c13b0
              try clear c13b1
              try clear c14
              try clear c14b0
              try clear c14b1
              try clear c15
              try clear c15b0
              try clear c15b1
              try clear c16
              try clear c16b0
              try clear c16b1
              try clear c17
              try clear c17b0
              try clear c17b1
              try clear c19
              try clear c19b0
              try clear c19b1
              try clear c20
              try clear c20b0
              try clear c20b1
              try clear c21
              try clear c23
              try clear c23b0
              try clear c23b1
              try clear c24
              try clear c24b0
              try clear c24b1
              try clear p2
              obtain ⟨kq,x44_21,rfl,HA,HJ21,⟨mc21,rfl⟩⟩ :=hcut
              cases kq with
              | zero => exact absurd HA.out (by simp [ycf.j2])
              | succ kj21 =>
               have H :=HA.out
               clear HA
               simp only [ycf.j2] at H
               by_cases c25 : x44_21 = true
               ·subst c25
                have H1 : (some 2) = some r :=by rw [if_pos rfl] at H;exact H
                clear H
                have H :=H1
                clear H1
                obtain rfl :=Option.some.inj H
                go_wp2
                go_ret
                exact ⟨by rfl,by repeat (first | exact Drawn0.refl _ | apply Drawn0.step)⟩
               ·replace c25 :=Bool.eq_false_iff.mpr c25
                subst c25
                have H1 : (if t189 = 3 then (if t191 = 2 then (some 2) else (if t191 = 4 then (some 2) else (some 0))) else (some 0)) = some r :=by rw [if_neg (show ¬ (false = true) by decide)] at H;exact H
                clear H
                have H :=H1
                clear H1
                by_cases c26 : t189 = 3
                ·obtain ⟨H,c26b0,c26b1⟩ :=ipos c26 H;clear c26
                 by_cases c27 : t191 = 2
                 ·obtain ⟨H,c27b0,c27b1⟩ :=ipos c27 H;clear c27
                  obtain rfl :=Option.some.inj H
                  go_wp2
                  go_ret
                  exact ⟨by rfl,by repeat (first | exact Drawn0.refl _ | apply Drawn0.step)⟩
                 ·obtain ⟨H,c27b0,c27b1⟩ :=ineg c27 H
                  by_cases c28 : t191 = 4
                  ·obtain ⟨H,c28b0,c28b1⟩ :=ipos c28 H;clear c28
                   obtain rfl :=Option.some.inj H
                   go_wp2
                   go_ret
                   exact ⟨by rfl,by repeat (first | exact Drawn0.refl _ | apply Drawn0.step)⟩
                  ·obtain ⟨H,c28b0,c28b1⟩ :=ineg c28 H
                   obtain rfl :=Option.some.inj H
                   go_wp2
                   go_ret
                   exact ⟨by rfl,by repeat (first | exact Drawn0.refl _ | apply Drawn0.step)⟩
                ·obtain ⟨H,c26b0,c26b1⟩ :=ineg c26 H
                 obtain rfl :=Option.some.inj H
                 go_wp2
                 go_ret
                 exact ⟨by rfl,by repeat (first | exact Drawn0.refl _ | apply Drawn0.step)⟩

end Go.Proofs.YtnelghpendfdmaaGreatDoor.HFun
