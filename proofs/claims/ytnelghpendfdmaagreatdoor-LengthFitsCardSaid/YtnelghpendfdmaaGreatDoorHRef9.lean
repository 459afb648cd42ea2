-- Written by a program of this session out of Lean's print of the program (after the form of the kit's print.sh, with own turns); Lean checks it.
import Derived.Test.YtnelghpendfdmaaGreatDoorKRowE
namespace Go.Proofs.YtnelghpendfdmaaGreatDoor.HFun
set_option maxRecDepth 100000
set_option maxHeartbeats 16000000
open Go.RowKit Go.Proofs.YtnelghpendfdmaaGreatDoorW.PrintWords Go.Proofs.YtnelghpendfdmaaGreatDoorW.PrintLast Go.Proofs.YtnelghpendfdmaaGreatDoorW.PrintMore
attribute [local go_sem] max2_int min2_int max_two min_two max_three min_three max_four min_four   -- for this text's walks alone
set_option linter.unusedVariables false
set_option linter.unusedSimpArgs false

attribute [local go_sem high] eqA56
/-! ### pendulumref09_Relative: function 40 -/
def ycp.f (a0 : Int) : Option (Bool) :=if a0 ≥ 16 then (if a0 ≤ 56 then (some ((Int.tmod a0 8) == 0)) else (some false)) else (some false)
theorem ycp.calls (a0 : Int) (r : Bool) (w : World) (h : ycp.f a0 = some r) :
  Calls Tryz.prog 40 #[.int .i64 a0] w fun e w' => e = .returned (.bool r) ∧ Drawn0 w w' :=by
 have H : (if a0 ≥ 16 then (if a0 ≤ 56 then (some ((Int.tmod a0 8) == 0)) else (some false)) else (some false)) = some r :=h
 clear h
 by_cases c2 : a0 ≥ 16
 ·rw [if_pos c2] at H
  have c2b0 : decide (16 ≤ a0) = true :=decide_eq_true c2
  clear c2
  by_cases c3 : a0 ≤ 56
  ·rw [if_pos c3] at H
   have c3b0 : decide (a0 ≤ 56) = true :=decide_eq_true c3
   clear c3
   obtain rfl :=Option.some.inj H
   go_enter Tryz.func40,Tryz.ntmps40
   go_wp2
   go_ret
   exact ⟨by rfl,by repeat (exact Drawn0.refl _)⟩
  ·rw [if_neg c3] at H
   have c3b0 : decide (a0 ≤ 56) = false :=decide_eq_false c3
   clear c3
   obtain rfl :=Option.some.inj H
   go_enter Tryz.func40,Tryz.ntmps40
   go_wp2
   go_ret
   exact ⟨by rfl,by repeat (exact Drawn0.refl _)⟩
 ·rw [if_neg c2] at H
  have c2b0 : decide (16 ≤ a0) = false :=decide_eq_false c2
  clear c2
  obtain rfl :=Option.some.inj H
  go_enter Tryz.func40,Tryz.ntmps40
  go_wp2
  go_ret
  exact ⟨by rfl,by repeat (exact Drawn0.refl _)⟩

/-! ### pendulumref09_prefix: function 36 -/
def yct.f (a0 : Int) : Option (Bool) :=if a0 = 221 then (some true) else (some (a0 == 253))
theorem yct.calls (a0 : Int) (r : Bool) (w : World) (h : yct.f a0 = some r) :
  Calls Tryz.prog 36 #[.int .i64 a0] w fun e w' => e = .returned (.bool r) ∧ Drawn0 w w' :=by
 have H : (if a0 = 221 then (some true) else (some (a0 == 253))) = some r :=h
 clear h
 by_cases c2 : a0 = 221
 ·obtain ⟨H,c2b0,c2b1⟩ :=ipos c2 H;clear c2
  obtain rfl :=Option.some.inj H
  go_enter Tryz.func36,Tryz.ntmps36
  go_wp2
  go_ret
  exact ⟨by rfl,by repeat (exact Drawn0.refl _)⟩
 ·obtain ⟨H,c2b0,c2b1⟩ :=ineg c2 H
  obtain rfl :=Option.some.inj H
  go_enter Tryz.func36,Tryz.ntmps36
  go_wp2
  go_ret
  exact ⟨by rfl,by repeat (exact Drawn0.refl _)⟩

/-! ### pendulumref09_is: function 52 -/
mutual
def yck.j0 : Nat → Int → Int → Int → Bool → Option (Bool)
 | 0,_,_,_,_ => none
 | k + 1,x0,x1,x2,x20 => if x20 = true then (some false) else (if x0 = 0 then (if x2 = 203 then (some false) else (if x2 = 237 then (some false) else ((yct.f x2).bind fun t209 => (if t209 = true then (some (x1 == 0)) else (some true))))) else (if x0 = 1 then (yck.j1 k x1 x0 (x0 == 1)) else (yck.j1 k x1 x0 (x0 == 2))))
def yck.j1 : Nat → Int → Int → Bool → Option (Bool)
 | 0,_,_,_ => none
 | k + 1,x1,x21,x39 => if x39 = true then (some (x1 == 0)) else (if x21 = 3 then (some (decide (x1 > 0))) else (some false))
end
def yck.f (k : Nat) (a0 : Int) (a1 : Int) (a2 : Int) : Option (Bool) :=if a2 < 0 then (yck.j0 k a0 a1 a2 true) else (if a2 > 255 then (yck.j0 k a0 a1 a2 true) else (if a1 < 0 then (yck.j0 k a0 a1 a2 true) else (yck.j0 k a0 a1 a2 (decide (a1 > 2)))))
theorem yck.mono_l : ∀ k,(∀ y0 y1 y2 y3,LeO (yck.j0 k y0 y1 y2 y3) (yck.j0 (k + 1) y0 y1 y2 y3)) ∧ (∀ y0 y1 y2,LeO (yck.j1 k y0 y1 y2) (yck.j1 (k + 1) y0 y1 y2))
 | 0 => ⟨fun _ _ _ _ r h => by simp [yck.j0] at h,fun _ _ _ r h => by simp [yck.j1] at h⟩
 | k + 1 => by
  obtain ⟨ih0,ih1⟩ :=yck.mono_l k
  refine ⟨?_,?_⟩
  ·intro y0 y1 y2 y3
   unfold yck.j0
   repeat' first
   | (with_reducible exact ih0 _ _ _ _)
   | (with_reducible exact ih1 _ _ _)
   | (with_reducible exact LeO.refl _)
   | (with_reducible exact LeO.none _)
   | (with_reducible refine LeO.ite ?_ ?_)
   | (with_reducible refine LeO.bind ?_ (fun _ => ?_))
   | exact ih0 _ _ _ _
   | exact ih1 _ _ _
   | exact LeO.none _
   | refine LeO.ite ?_ ?_
   | refine LeO.bind ?_ (fun _ => ?_)
  ·intro y0 y1 y2
   unfold yck.j1
   repeat' first
   | (with_reducible exact ih0 _ _ _ _)
   | (with_reducible exact ih1 _ _ _)
   | (with_reducible exact LeO.refl _)
   | (with_reducible exact LeO.none _)
   | (with_reducible refine LeO.ite ?_ ?_)
   | (with_reducible refine LeO.bind ?_ (fun _ => ?_))
   | exact ih0 _ _ _ _
   | exact ih1 _ _ _
   | exact LeO.none _
   | refine LeO.ite ?_ ?_
   | refine LeO.bind ?_ (fun _ => ?_)
theorem yck.mono : ∀ a0 a1 a2 k,LeO (yck.f k a0 a1 a2) (yck.f (k + 1) a0 a1 a2) :=by
 intro a0 a1 a2 k
 obtain ⟨ih0,ih1⟩ :=yck.mono_l k
 unfold yck.f
 repeat' first
   | (with_reducible exact ih0 _ _ _ _)
   | (with_reducible exact ih1 _ _ _)
   | (with_reducible exact LeO.refl _)
   | (with_reducible exact LeO.none _)
   | (with_reducible refine LeO.ite ?_ ?_)
   | (with_reducible refine LeO.bind ?_ (fun _ => ?_))
   | exact ih0 _ _ _ _
   | exact ih1 _ _ _
   | exact LeO.none _
   | refine LeO.ite ?_ ?_
   | refine LeO.bind ?_ (fun _ => ?_)
theorem yck.calls (k : Nat) (a0 : Int) (a1 : Int) (a2 : Int) (r : Bool) (w : World) (h : yck.f k a0 a1 a2 = some r) :
  Calls Tryz.prog 52 #[.int .i64 a0,.int .i64 a1,.int .i64 a2] w fun e w' => e = .returned (.bool r) ∧ Drawn0 w w' :=by
 have H : (if a2 < 0 then (yck.j0 k a0 a1 a2 true) else (if a2 > 255 then (yck.j0 k a0 a1 a2 true) else (if a1 < 0 then (yck.j0 k a0 a1 a2 true) else (yck.j0 k a0 a1 a2 (decide (a1 > 2)))))) = some r :=h
 clear h
 have HC4 :=Aside0.mk H
 clear H
 go_enter Tryz.func52,Tryz.ntmps52
 go_upto_region 1 with (fail)
 go_cut [20] (fun v20 wc => ∃ (kq : Nat) (x20_3 : Bool),v20 = .bool x20_3 ∧ Aside0 (yck.j0 kq a0 a1 a2 x20_3 = some r) ∧ Aside0 (kq ≤ k) ∧ Drawn0 w wc)
 case first =>
  have H :=HC4.out
  clear HC4
  by_cases c5 : a2 < 0
  ·rw [if_pos c5] at H
   have c5b0 : decide (a2 < 0) = true :=decide_eq_true c5
   clear c5
   (skip)
   have H' :=Aside0.mk H
   clear H
   go_wp2
   go_meet
   case rel => exact ⟨_,(true),(by rfl),H',⟨by omega⟩,by repeat (exact Drawn0.refl _)⟩
  ·rw [if_neg c5] at H
   have c5b0 : decide (a2 < 0) = false :=decide_eq_false c5
   clear c5
   (skip)
   by_cases c6 : a2 > 255
   ·rw [if_pos c6] at H
    have c6b0 : decide (255 < a2) = true :=decide_eq_true c6
    clear c6
    have H' :=Aside0.mk H
    clear H
    go_wp2
    go_meet
    case rel => exact ⟨_,(true),(by rfl),H',⟨by omega⟩,by repeat (exact Drawn0.refl _)⟩
   ·rw [if_neg c6] at H
    have c6b0 : decide (255 < a2) = false :=decide_eq_false c6
    clear c6
    by_cases c7 : a1 < 0
    ·rw [if_pos c7] at H
     have c7b0 : decide (a1 < 0) = true :=decide_eq_true c7
     clear c7
     have H' :=Aside0.mk H
     clear H
     go_wp2
     go_meet
     case rel => exact ⟨_,(true),(by rfl),H',⟨by omega⟩,by repeat (exact Drawn0.refl _)⟩
    ·rw [if_neg c7] at H
     have c7b0 : decide (a1 < 0) = false :=decide_eq_false c7
     clear c7
     have H' :=Aside0.mk H
     clear H
     go_wp2
     go_meet
     case rel => exact ⟨_,(decide (a1 > 2)),(by rfl),H',⟨by omega⟩,by repeat (exact Drawn0.refl _)⟩
 case rest =>
  clear HC4
  try clear p2
  try clear c5
  try clear c5b0
  try clear c6
  try clear c6b0
  try clear c7
  try clear c7b0
  obtain ⟨kq,x20_3,rfl,HA,HJ3,⟨mc3,rfl⟩⟩ :=hcut
  cases kq with
  | zero => exact absurd HA.out (by simp [yck.j0])
  | succ kj3 =>
   have H :=HA.out
   clear HA
   simp only [yck.j0] at H
   by_cases c8 : x20_3 = true
   ·subst c8
    have H1 : (some false) = some r :=by rw [if_pos rfl] at H;exact H
    clear H
    have H :=H1
    clear H1
    obtain rfl :=Option.some.inj H
    go_wp2
    go_ret
    exact ⟨by rfl,by repeat (first | exact Drawn0.refl _ | apply Drawn0.step)⟩
   ·replace c8 :=Bool.eq_false_iff.mpr c8
    subst c8
    have H1 : (if a0 = 0 then (if a2 = 203 then (some false) else (if a2 = 237 then (some false) else ((yct.f a2).bind fun t209 => (if t209 = true then (some (a1 == 0)) else (some true))))) else (if a0 = 1 then (yck.j1 kj3 a1 a0 (a0 == 1)) else (yck.j1 kj3 a1 a0 (a0 == 2)))) = some r :=by rw [if_neg (show ¬ (false = true) by decide)] at H;exact H
    clear H
    have H :=H1
    clear H1
    by_cases c9 : a0 = 0
    ·obtain ⟨H,c9b0,c9b1⟩ :=ipos c9 H;clear c9
     by_cases c10 : a2 = 203
     ·obtain ⟨H,c10b0,c10b1⟩ :=ipos c10 H;clear c10
      obtain rfl :=Option.some.inj H
      go_wp2
      go_ret
      exact ⟨by rfl,by repeat (first | exact Drawn0.refl _ | apply Drawn0.step)⟩
     ·obtain ⟨H,c10b0,c10b1⟩ :=ineg c10 H
      by_cases c11 : a2 = 237
      ·obtain ⟨H,c11b0,c11b1⟩ :=ipos c11 H;clear c11
       obtain rfl :=Option.some.inj H
       go_wp2
       go_ret
       exact ⟨by rfl,by repeat (first | exact Drawn0.refl _ | apply Drawn0.step)⟩
      ·obtain ⟨H,c11b0,c11b1⟩ :=ineg c11 H
       replace H :=Option.bind_eq_some_iff.mp H
       obtain ⟨t209,A120,H⟩ :=H
       replace H : (if t209 = true then (some (a1 == 0)) else (some true)) = some r :=H
       have A12 :=Aside0.mk A120
       clear A120
       by_cases c13 : t209 = true
       ·subst c13
        have H1 : (some (a1 == 0)) = some r :=by rw [if_pos rfl] at H;exact H
        clear H
        have H :=H1
        clear H1
        obtain rfl :=Option.some.inj H
        go_wp2_with ((go_at_call 36;(with_reducible refine (yct.calls a2 true _ A12.out).mono ?_);rintro e w' ⟨rfl,⟨nd,rfl⟩⟩))
        go_ret
        exact ⟨by rfl,by repeat (first | exact Drawn0.refl _ | apply Drawn0.step)⟩
       ·replace c13 :=Bool.eq_false_iff.mpr c13
        subst c13
        have H1 : (some true) = some r :=by rw [if_neg (show ¬ (false = true) by decide)] at H;exact H
        clear H
        have H :=H1
        clear H1
        obtain rfl :=Option.some.inj H
        go_wp2_with ((go_at_call 36;(with_reducible refine (yct.calls a2 false _ A12.out).mono ?_);rintro e w' ⟨rfl,⟨nd,rfl⟩⟩))
        go_ret
        exact ⟨by rfl,by repeat (first | exact Drawn0.refl _ | apply Drawn0.step)⟩
    ·obtain ⟨H,c9b0,c9b1⟩ :=ineg c9 H
     have HC14 :=Aside0.mk H
     clear H
     go_upto_if 39 with (fail)
     go_cut [39] (fun v39 wc => ∃ (kq : Nat) (x39_13 : Bool),v39 = .bool x39_13 ∧ Aside0 (yck.j1 kq a1 a0 x39_13 = some r) ∧ Aside0 (kq ≤ kj3) ∧ Drawn0 w wc)
     case first =>
      have H :=HC14.out
      clear HC14
      by_cases c15 : a0 = 1
      ·obtain ⟨H,c15b0,c15b1⟩ :=ipos c15 H;clear c15
       (rw [c15b0])
       have H' :=Aside0.mk H
       clear H
       go_wp2
       go_meet
       case rel => exact ⟨_,((a0 == 1)),(by (simp [*];done)),H',⟨by have :=HJ3.out;omega⟩,by repeat (first | exact Drawn0.refl _ | apply Drawn0.step)⟩
      ·obtain ⟨H,c15b0,c15b1⟩ :=ineg c15 H
       (rw [c15b0])
       have H' :=Aside0.mk H
       clear H
       go_wp2
       go_meet
       case rel => exact ⟨_,((a0 == 2)),(by rfl),H',⟨by have :=HJ3.out;omega⟩,by repeat (first | exact Drawn0.refl _ | apply Drawn0.step)⟩
     case rest =>
      clear HC14
      try clear c1
      try clear p2
      try clear c3
      try clear c5
      try clear c5b0
      try clear c6
      try clear c6b0
      try clear c7
      try clear c7b0
      try clear c8
      try clear c9
      try clear c9b0
      try clear c9b1
      try clear c10
      try clear c10b0
      try clear c10b1
      try clear c11
      try clear c11b0
      try clear c11b1
      try clear c13
      try clear c15
      try clear c15b0
      try clear c15b1
      try clear p2
      obtain ⟨kq,x39_13,rfl,HA,HJ13,⟨mc13,rfl⟩⟩ :=hcut
      cases kq with
      | zero => exact absurd HA.out (by simp [yck.j1])
      | succ kj13 =>
       have H :=HA.out
       clear HA
       simp only [yck.j1] at H
       by_cases c16 : x39_13 = true
       ·subst c16
        have H1 : (some (a1 == 0)) = some r :=by rw [if_pos rfl] at H;exact H
        clear H
        have H :=H1
        clear H1
        obtain rfl :=Option.some.inj H
        go_wp2
        go_ret
        exact ⟨by rfl,by repeat (first | exact Drawn0.refl _ | apply Drawn0.step)⟩
       ·replace c16 :=Bool.eq_false_iff.mpr c16
        subst c16
        have H1 : (if a0 = 3 then (some (decide (a1 > 0))) else (some false)) = some r :=by rw [if_neg (show ¬ (false = true) by decide)] at H;exact H
        clear H
        have H :=H1
        clear H1
        by_cases c17 : a0 = 3
        ·obtain ⟨H,c17b0,c17b1⟩ :=ipos c17 H;clear c17
         obtain rfl :=Option.some.inj H
         go_wp2
         go_ret
         exact ⟨by rfl,by repeat (first | exact Drawn0.refl _ | apply Drawn0.step)⟩
        ·obtain ⟨H,c17b0,c17b1⟩ :=ineg c17 H
         obtain rfl :=Option.some.inj H
         go_wp2
         go_ret
         exact ⟨by rfl,by repeat (first | exact Drawn0.refl _ | apply Drawn0.step)⟩

/-! ### pendulumref05_Mod: function 74 -/
def ydn.f (a0 : Int) (a1 : Int) : Option (Int) :=if a1 = 0 then (none) else (if (Int.tmod a0 a1) < 0 then (some (wrap64 ((Int.tmod a0 a1) + a1))) else (some (Int.tmod a0 a1)))
theorem ydn.calls (a0 : Int) (a1 : Int) (r : Int) (w : World) (h : ydn.f a0 a1 = some r) :
  Calls Tryz.prog 74 #[.int .i64 a0,.int .i64 a1] w fun e w' => e = .returned (.int .i64 r) ∧ Drawn0 w w' :=by
 have H : (if a1 = 0 then (none) else (if (Int.tmod a0 a1) < 0 then (some (wrap64 ((Int.tmod a0 a1) + a1))) else (some (Int.tmod a0 a1)))) = some r :=h
 clear h
 by_cases c3 : a1 = 0
 ·rw [if_pos c3] at H
  exact absurd H (by simp)
 ·obtain ⟨H,c3b0,c3b1⟩ :=ineg c3 H
  by_cases c4 : (Int.tmod a0 a1) < 0
  ·rw [if_pos c4] at H
   have c4b0 : decide ((Int.tmod a0 a1) < 0) = true :=decide_eq_true c4
   clear c4
   obtain rfl :=Option.some.inj H
   go_enter Tryz.func74,Tryz.ntmps74
   go_wp2
   go_ret
   exact ⟨by rfl,by repeat (exact Drawn0.refl _)⟩
  ·rw [if_neg c4] at H
   have c4b0 : decide ((Int.tmod a0 a1) < 0) = false :=decide_eq_false c4
   clear c4
   obtain rfl :=Option.some.inj H
   go_enter Tryz.func74,Tryz.ntmps74
   go_wp2
   go_ret
   exact ⟨by rfl,by repeat (exact Drawn0.refl _)⟩

/-! ### pendulumref09_Parts: function 53 -/
def ycu.f (a0 : Int) : Option (Int × Int × Int × Int × Int) :=(ydn.f a0 256).bind fun t210 => (some (wrap64 (Int.tdiv t210 64),Int.tmod (wrap64 (Int.tdiv t210 8)) 8,Int.tmod t210 8,wrap64 (Int.tdiv (Int.tmod (wrap64 (Int.tdiv t210 8)) 8) 2),Int.tmod (Int.tmod (wrap64 (Int.tdiv t210 8)) 8) 2))
theorem ycu.calls (a0 : Int) (r1 : Int) (r2 : Int) (r3 : Int) (r4 : Int) (r5 : Int) (w : World) (h : ycu.f a0 = some (r1,r2,r3,r4,r5)) :
  Calls Tryz.prog 53 #[.int .i64 a0] w fun e w' => e = .returned (.tuple #[.int .i64 r1,.int .i64 r2,.int .i64 r3,.int .i64 r4,.int .i64 r5]) ∧ Drawn0 w w' :=by
 have H : ((ydn.f a0 256).bind fun t210 => (some (wrap64 (Int.tdiv t210 64),Int.tmod (wrap64 (Int.tdiv t210 8)) 8,Int.tmod t210 8,wrap64 (Int.tdiv (Int.tmod (wrap64 (Int.tdiv t210 8)) 8) 2),Int.tmod (Int.tmod (wrap64 (Int.tdiv t210 8)) 8) 2))) = some (r1,r2,r3,r4,r5) :=h
 clear h
 replace H :=Option.bind_eq_some_iff.mp H
 obtain ⟨t210,A20,H⟩ :=H
 replace H : (some (wrap64 (Int.tdiv t210 64),Int.tmod (wrap64 (Int.tdiv t210 8)) 8,Int.tmod t210 8,wrap64 (Int.tdiv (Int.tmod (wrap64 (Int.tdiv t210 8)) 8) 2),Int.tmod (Int.tmod (wrap64 (Int.tdiv t210 8)) 8) 2)) = some (r1,r2,r3,r4,r5) :=H
 have A2 :=Aside0.mk A20
 clear A20
 simp only [Option.some.injEq,Prod.mk.injEq] at H
 obtain ⟨rfl,rfl,rfl,rfl,rfl⟩ :=H
 go_enter Tryz.func53,Tryz.ntmps53
 go_wp2_with (((with_reducible refine gate_callee (f :=74) rfl ?_);refine goesL_ (some 8) rfl rfl Tryz.func74 (by kernel_rfl) rfl #[.int .i64 a0,.int .i64 256] rfl (by (try simp only [List.map_toArray,List.map_cons,List.map_nil]);rfl) ?_;(with_reducible refine (ydn.calls a0 256 t210 _ A2.out).mono ?_);rintro e w' ⟨rfl,⟨nd,rfl⟩⟩;refine ⟨_,rfl,?_⟩))
 refine bodyPost_ret (results_list (rs :=[.tmp 2,.tmp 3,.tmp 4,.tmp 5,.tmp 6]) rfl (by simp) (.tmp (.tmp (.tmp (.tmp (.tmp .nil)))))) rfl ?_
 exact ⟨by (simp;done),by repeat (first | exact Drawn0.refl _ | apply Drawn0.step)⟩

/-! ### pendulumref09_by: function 54 -/
def ycn.f (a0 : Int) : Option (Bool) :=(ycu.f a0).bind fun bt211 => (if a0 = 118 then (some false) else (if bt211.1 = 1 then (if bt211.2.2.1 = 6 then (some true) else (if bt211.2.1 = 6 then (some true) else (if a0 ≥ 52 then (some (decide (a0 ≤ 54))) else (some false)))) else (if bt211.1 = 2 then (if bt211.2.2.1 = 6 then (some true) else (if a0 ≥ 52 then (some (decide (a0 ≤ 54))) else (some false))) else (if a0 ≥ 52 then (some (decide (a0 ≤ 54))) else (some false)))))
theorem ycn.calls (a0 : Int) (r : Bool) (w : World) (h : ycn.f a0 = some r) :
  Calls Tryz.prog 54 #[.int .i64 a0] w fun e w' => e = .returned (.bool r) ∧ Drawn0 w w' :=by
 have H : ((ycu.f a0).bind fun bt211 => (if a0 = 118 then (some false) else (if bt211.1 = 1 then (if bt211.2.2.1 = 6 then (some true) else (if bt211.2.1 = 6 then (some true) else (if a0 ≥ 52 then (some (decide (a0 ≤ 54))) else (some false)))) else (if bt211.1 = 2 then (if bt211.2.2.1 = 6 then (some true) else (if a0 ≥ 52 then (some (decide (a0 ≤ 54))) else (some false))) else (if a0 ≥ 52 then (some (decide (a0 ≤ 54))) else (some false)))))) = some r :=h
 clear h
 replace H :=Option.bind_eq_some_iff.mp H
 obtain ⟨⟨t211,t212,t213,t214,t215⟩,A20,H⟩ :=H
 replace H : (if a0 = 118 then (some false) else (if t211 = 1 then (if t213 = 6 then (some true) else (if t212 = 6 then (some true) else (if a0 ≥ 52 then (some (decide (a0 ≤ 54))) else (some false)))) else (if t211 = 2 then (if t213 = 6 then (some true) else (if a0 ≥ 52 then (some (decide (a0 ≤ 54))) else (some false))) else (if a0 ≥ 52 then (some (decide (a0 ≤ 54))) else (some false))))) = some r :=H
 have A2 :=Aside0.mk A20
 clear A20
 by_cases c3 : a0 = 118
 ·obtain ⟨H,c3b0,c3b1⟩ :=ipos c3 H;clear c3
  obtain rfl :=Option.some.inj H
  go_enter Tryz.func54,Tryz.ntmps54
  go_wp2_with (((with_reducible refine gate_callee (f :=53) rfl ?_);refine goesL_ (some 10) rfl rfl Tryz.func53 (by kernel_rfl) rfl #[.int .i64 a0] rfl (by (try simp only [List.map_toArray,List.map_cons,List.map_nil]);rfl) ?_;(with_reducible refine (ycu.calls a0 t211 t212 t213 t214 t215 _ A2.out).mono ?_);rintro e w' ⟨rfl,⟨nd,rfl⟩⟩;refine ⟨_,rfl,?_⟩))
  go_ret
  exact ⟨by rfl,by repeat (first | exact Drawn0.refl _ | apply Drawn0.step)⟩
 ·obtain ⟨H,c3b0,c3b1⟩ :=ineg c3 H
  by_cases c4 : t211 = 1
  ·obtain ⟨H,c4b0,c4b1⟩ :=ipos c4 H;clear c4
   by_cases c5 : t213 = 6
   ·obtain ⟨H,c5b0,c5b1⟩ :=ipos c5 H;clear c5
    obtain rfl :=Option.some.inj H
    go_enter Tryz.func54,Tryz.ntmps54
    go_wp2_with (((with_reducible refine gate_callee (f :=53) rfl ?_);refine goesL_ (some 10) rfl rfl Tryz.func53 (by kernel_rfl) rfl #[.int .i64 a0] rfl (by (try simp only [List.map_toArray,List.map_cons,List.map_nil]);rfl) ?_;(with_reducible refine (ycu.calls a0 t211 t212 t213 t214 t215 _ A2.out).mono ?_);rintro e w' ⟨rfl,⟨nd,rfl⟩⟩;refine ⟨_,rfl,?_⟩))
    go_ret
    exact ⟨by rfl,by repeat (first | exact Drawn0.refl _ | apply Drawn0.step)⟩
   ·obtain ⟨H,c5b0,c5b1⟩ :=ineg c5 H
    by_cases c6 : t212 = 6
    ·obtain ⟨H,c6b0,c6b1⟩ :=ipos c6 H;clear c6
     obtain rfl :=Option.some.inj H
     go_enter Tryz.func54,Tryz.ntmps54
     go_wp2_with (((with_reducible refine gate_callee (f :=53) rfl ?_);refine goesL_ (some 10) rfl rfl Tryz.func53 (by kernel_rfl) rfl #[.int .i64 a0] rfl (by (try simp only [List.map_toArray,List.map_cons,List.map_nil]);rfl) ?_;(with_reducible refine (ycu.calls a0 t211 t212 t213 t214 t215 _ A2.out).mono ?_);rintro e w' ⟨rfl,⟨nd,rfl⟩⟩;refine ⟨_,rfl,?_⟩))
     go_ret
     exact ⟨by rfl,by repeat (first | exact Drawn0.refl _ | apply Drawn0.step)⟩
    ·obtain ⟨H,c6b0,c6b1⟩ :=ineg c6 H
     by_cases c7 : a0 ≥ 52
     ·rw [if_pos c7] at H
      have c7b0 : decide (52 ≤ a0) = true :=decide_eq_true c7
      clear c7
      obtain rfl :=Option.some.inj H
      go_enter Tryz.func54,Tryz.ntmps54
      go_wp2_with (((with_reducible refine gate_callee (f :=53) rfl ?_);refine goesL_ (some 10) rfl rfl Tryz.func53 (by kernel_rfl) rfl #[.int .i64 a0] rfl (by (try simp only [List.map_toArray,List.map_cons,List.map_nil]);rfl) ?_;(with_reducible refine (ycu.calls a0 t211 t212 t213 t214 t215 _ A2.out).mono ?_);rintro e w' ⟨rfl,⟨nd,rfl⟩⟩;refine ⟨_,rfl,?_⟩))
      go_ret
      exact ⟨by rfl,by repeat (first | exact Drawn0.refl _ | apply Drawn0.step)⟩
     ·rw [if_neg c7] at H
      have c7b0 : decide (52 ≤ a0) = false :=decide_eq_false c7
      clear c7
      obtain rfl :=Option.some.inj H
      go_enter Tryz.func54,Tryz.ntmps54
      go_wp2_with (((with_reducible refine gate_callee (f :=53) rfl ?_);refine goesL_ (some 10) rfl rfl Tryz.func53 (by kernel_rfl) rfl #[.int .i64 a0] rfl (by (try simp only [List.map_toArray,List.map_cons,List.map_nil]);rfl) ?_;(with_reducible refine (ycu.calls a0 t211 t212 t213 t214 t215 _ A2.out).mono ?_);rintro e w' ⟨rfl,⟨nd,rfl⟩⟩;refine ⟨_,rfl,?_⟩))
      go_ret
      exact ⟨by rfl,by repeat (first | exact Drawn0.refl _ | apply Drawn0.step)⟩
  ·obtain ⟨H,c4b0,c4b1⟩ :=ineg c4 H
   by_cases c8 : t211 = 2
   ·obtain ⟨H,c8b0,c8b1⟩ :=ipos c8 H;clear c8
    by_cases c9 : t213 = 6
    ·obtain ⟨H,c9b0,c9b1⟩ :=ipos c9 H;clear c9
     obtain rfl :=Option.some.inj H
     go_enter Tryz.func54,Tryz.ntmps54
     go_wp2_with (((with_reducible refine gate_callee (f :=53) rfl ?_);refine goesL_ (some 10) rfl rfl Tryz.func53 (by kernel_rfl) rfl #[.int .i64 a0] rfl (by (try simp only [List.map_toArray,List.map_cons,List.map_nil]);rfl) ?_;(with_reducible refine (ycu.calls a0 t211 t212 t213 t214 t215 _ A2.out).mono ?_);rintro e w' ⟨rfl,⟨nd,rfl⟩⟩;refine ⟨_,rfl,?_⟩))
     go_ret
     exact ⟨by rfl,by repeat (first | exact Drawn0.refl _ | apply Drawn0.step)⟩
    ·obtain ⟨H,c9b0,c9b1⟩ :=ineg c9 H
     by_cases c10 : a0 ≥ 52
     ·rw [if_pos c10] at H
      have c10b0 : decide (52 ≤ a0) = true :=decide_eq_true c10
      clear c10
      obtain rfl :=Option.some.inj H
      go_enter Tryz.func54,Tryz.ntmps54
      go_wp2_with (((with_reducible refine gate_callee (f :=53) rfl ?_);refine goesL_ (some 10) rfl rfl Tryz.func53 (by kernel_rfl) rfl #[.int .i64 a0] rfl (by (try simp only [List.map_toArray,List.map_cons,List.map_nil]);rfl) ?_;(with_reducible refine (ycu.calls a0 t211 t212 t213 t214 t215 _ A2.out).mono ?_);rintro e w' ⟨rfl,⟨nd,rfl⟩⟩;refine ⟨_,rfl,?_⟩))
      go_ret
      exact ⟨by rfl,by repeat (first | exact Drawn0.refl _ | apply Drawn0.step)⟩
     ·rw [if_neg c10] at H
      have c10b0 : decide (52 ≤ a0) = false :=decide_eq_false c10
      clear c10
      obtain rfl :=Option.some.inj H
      go_enter Tryz.func54,Tryz.ntmps54
      go_wp2_with (((with_reducible refine gate_callee (f :=53) rfl ?_);refine goesL_ (some 10) rfl rfl Tryz.func53 (by kernel_rfl) rfl #[.int .i64 a0] rfl (by (try simp only [List.map_toArray,List.map_cons,List.map_nil]);rfl) ?_;(with_reducible refine (ycu.calls a0 t211 t212 t213 t214 t215 _ A2.out).mono ?_);rintro e w' ⟨rfl,⟨nd,rfl⟩⟩;refine ⟨_,rfl,?_⟩))
      go_ret
      exact ⟨by rfl,by repeat (first | exact Drawn0.refl _ | apply Drawn0.step)⟩
   ·obtain ⟨H,c8b0,c8b1⟩ :=ineg c8 H
    by_cases c11 : a0 ≥ 52
    ·rw [if_pos c11] at H
     have c11b0 : decide (52 ≤ a0) = true :=decide_eq_true c11
     clear c11
     obtain rfl :=Option.some.inj H
     go_enter Tryz.func54,Tryz.ntmps54
     go_wp2_with (((with_reducible refine gate_callee (f :=53) rfl ?_);refine goesL_ (some 10) rfl rfl Tryz.func53 (by kernel_rfl) rfl #[.int .i64 a0] rfl (by (try simp only [List.map_toArray,List.map_cons,List.map_nil]);rfl) ?_;(with_reducible refine (ycu.calls a0 t211 t212 t213 t214 t215 _ A2.out).mono ?_);rintro e w' ⟨rfl,⟨nd,rfl⟩⟩;refine ⟨_,rfl,?_⟩))
     go_ret
     exact ⟨by rfl,by repeat (first | exact Drawn0.refl _ | apply Drawn0.step)⟩
    ·rw [if_neg c11] at H
     have c11b0 : decide (52 ≤ a0) = false :=decide_eq_false c11
     clear c11
     obtain rfl :=Option.some.inj H
     go_enter Tryz.func54,Tryz.ntmps54
     go_wp2_with (((with_reducible refine gate_callee (f :=53) rfl ?_);refine goesL_ (some 10) rfl rfl Tryz.func53 (by kernel_rfl) rfl #[.int .i64 a0] rfl (by (try simp only [List.map_toArray,List.map_cons,List.map_nil]);rfl) ?_;(with_reducible refine (ycu.calls a0 t211 t212 t213 t214 t215 _ A2.out).mono ?_);rintro e w' ⟨rfl,⟨nd,rfl⟩⟩;refine ⟨_,rfl,?_⟩))
     go_ret
     exact ⟨by rfl,by repeat (first | exact Drawn0.refl _ | apply Drawn0.step)⟩
/-! ### pendulumref09_Needs: function 39 -/
mutual
def yce.j0 : Nat → Int → Int → Int → Int → Int → Int → Bool → Option (Bool × Int)
 | 0,_,_,_,_,_,_,_ => none
 | k + 1,x1,x2,x8,x10,x12,x13,x40 => if x40 = true then (yce.j1 k x1 x2 x8 x10 x12 x13 x40) else ((ycp.f x2).bind fun t222 => (if t222 = true then (yce.j1 k x1 x2 x8 x10 x12 x13 t222) else (if x2 = 211 then (yce.j1 k x1 x2 x8 x10 x12 x13 (x2 == 211)) else (yce.j1 k x1 x2 x8 x10 x12 x13 (x2 == 219)))))
def yce.j1 : Nat → Int → Int → Int → Int → Int → Int → Bool → Option (Bool × Int)
 | 0,_,_,_,_,_,_,_ => none
 | k + 1,x1,x2,x8,x10,x12,x13,x40 => if x40 = true then (if x1 > 0 then ((ycn.f x2).bind fun t223 => (some (t223,1))) else (some (false,1))) else (if x8 = 0 then (if x10 = 1 then (yce.j2 k x1 x2 x8 x10 x13 (x12 == 0)) else (yce.j2 k x1 x2 x8 x10 x13 false)) else (yce.j2 k x1 x2 x8 x10 x13 false))
def yce.j2 : Nat → Int → Int → Int → Int → Int → Bool → Option (Bool × Int)
 | 0,_,_,_,_,_,_ => none
 | k + 1,x1,x2,x8,x10,x13,x57 => if x57 = true then (if x1 > 0 then ((ycn.f x2).bind fun t224 => (some (t224,2))) else (some (false,2))) else (if x2 = 34 then (if x1 > 0 then ((ycn.f x2).bind fun t225 => (some (t225,2))) else (some (false,2))) else (if x2 = 42 then (if x1 > 0 then ((ycn.f x2).bind fun t226 => (some (t226,2))) else (some (false,2))) else (if x2 = 50 then (if x1 > 0 then ((ycn.f x2).bind fun t227 => (some (t227,2))) else (some (false,2))) else (if x2 = 58 then (if x1 > 0 then ((ycn.f x2).bind fun t228 => (some (t228,2))) else (some (false,2))) else (if x2 = 195 then (if x1 > 0 then ((ycn.f x2).bind fun t229 => (some (t229,2))) else (some (false,2))) else (if x2 = 205 then (if x1 > 0 then ((ycn.f x2).bind fun t230 => (some (t230,2))) else (some (false,2))) else (if x8 = 3 then (if x10 = 2 then (if x1 > 0 then ((ycn.f x2).bind fun t231 => (some (t231,2))) else (some (false,2))) else (if x10 = 4 then (if x1 > 0 then ((ycn.f x2).bind fun t232 => (some (t232,2))) else (some (false,2))) else (if x1 > 0 then ((ycn.f x2).bind fun t233 => (some (t233,x13))) else (some (false,x13))))) else (if x1 > 0 then ((ycn.f x2).bind fun t234 => (some (t234,x13))) else (some (false,x13))))))))))
end
def yce.f (k : Nat) (a0 : Int) (a1 : Int) (a2 : Int) : Option (Bool × Int) :=(yck.f k a0 a1 a2).bind fun t216 => (if t216 = true then ((ycu.f a2).bind fun bt217 => (if a0 = 3 then (some (true,0)) else (if a0 = 2 then (if bt217.1 = 1 then (if bt217.2.2.1 = 3 then (some (false,2)) else (some (false,0))) else (some (false,0))) else (if a0 = 1 then (some (false,0)) else (if bt217.1 = 0 then (yce.j0 k a1 a2 bt217.1 bt217.2.2.1 bt217.2.2.2.2 0 (bt217.2.2.1 == 6)) else (if bt217.1 = 3 then (yce.j0 k a1 a2 bt217.1 bt217.2.2.1 bt217.2.2.2.2 0 (bt217.2.2.1 == 6)) else (yce.j0 k a1 a2 bt217.1 bt217.2.2.1 bt217.2.2.2.2 0 false))))))) else (some (false,0)))
theorem yce.mono_l : ∀ k,(∀ y0 y1 y2 y3 y4 y5 y6,LeO (yce.j0 k y0 y1 y2 y3 y4 y5 y6) (yce.j0 (k + 1) y0 y1 y2 y3 y4 y5 y6)) ∧ (∀ y0 y1 y2 y3 y4 y5 y6,LeO (yce.j1 k y0 y1 y2 y3 y4 y5 y6) (yce.j1 (k + 1) y0 y1 y2 y3 y4 y5 y6)) ∧ (∀ y0 y1 y2 y3 y4 y5,LeO (yce.j2 k y0 y1 y2 y3 y4 y5) (yce.j2 (k + 1) y0 y1 y2 y3 y4 y5))
 | 0 => ⟨fun _ _ _ _ _ _ _ r h => by simp [yce.j0] at h,fun _ _ _ _ _ _ _ r h => by simp [yce.j1] at h,fun _ _ _ _ _ _ r h => by simp [yce.j2] at h⟩
 | k + 1 => by
  obtain ⟨ih0,ih1,ih2⟩ :=yce.mono_l k
  refine ⟨?_,?_,?_⟩
  ·intro y0 y1 y2 y3 y4 y5 y6
   unfold yce.j0
   repeat' first
   | (with_reducible exact ih0 _ _ _ _ _ _ _)
   | (with_reducible exact ih1 _ _ _ _ _ _ _)
   | (with_reducible exact ih2 _ _ _ _ _ _)
   | (with_reducible exact yck.mono _ _ _ _)
   | (with_reducible exact LeO.refl _)
   | (with_reducible exact LeO.none _)
   | (with_reducible refine LeO.ite ?_ ?_)
   | (with_reducible refine LeO.bind ?_ (fun _ => ?_))
   | exact ih0 _ _ _ _ _ _ _
   | exact ih1 _ _ _ _ _ _ _
   | exact ih2 _ _ _ _ _ _
   | exact yck.mono _ _ _ _
   | exact LeO.none _
   | refine LeO.ite ?_ ?_
   | refine LeO.bind ?_ (fun _ => ?_)
  ·intro y0 y1 y2 y3 y4 y5 y6
   unfold yce.j1
   repeat' first
   | (with_reducible exact ih0 _ _ _ _ _ _ _)
   | (with_reducible exact ih1 _ _ _ _ _ _ _)
   | (with_reducible exact ih2 _ _ _ _ _ _)
   | (with_reducible exact yck.mono _ _ _ _)
   | (with_reducible exact LeO.refl _)
   | (with_reducible exact LeO.none _)
   | (with_reducible refine LeO.ite ?_ ?_)
   | (with_reducible refine LeO.bind ?_ (fun _ => ?_))
   | exact ih0 _ _ _ _ _ _ _
   | exact ih1 _ _ _ _ _ _ _
   | exact ih2 _ _ _ _ _ _
   | exact yck.mono _ _ _ _
   | exact LeO.none _
   | refine LeO.ite ?_ ?_
   | refine LeO.bind ?_ (fun _ => ?_)
  ·intro y0 y1 y2 y3 y4 y5
   unfold yce.j2
   repeat' first
   | (with_reducible exact ih0 _ _ _ _ _ _ _)
   | (with_reducible exact ih1 _ _ _ _ _ _ _)
   | (with_reducible exact ih2 _ _ _ _ _ _)
   | (with_reducible exact yck.mono _ _ _ _)
   | (with_reducible exact LeO.refl _)
   | (with_reducible exact LeO.none _)
   | (with_reducible refine LeO.ite ?_ ?_)
   | (with_reducible refine LeO.bind ?_ (fun _ => ?_))
   | exact ih0 _ _ _ _ _ _ _
   | exact ih1 _ _ _ _ _ _ _
   | exact ih2 _ _ _ _ _ _
   | exact yck.mono _ _ _ _
   | exact LeO.none _
   | refine LeO.ite ?_ ?_
   | refine LeO.bind ?_ (fun _ => ?_)
theorem yce.mono : ∀ a0 a1 a2 k,LeO (yce.f k a0 a1 a2) (yce.f (k + 1) a0 a1 a2) :=by
 intro a0 a1 a2 k
 obtain ⟨ih0,ih1,ih2⟩ :=yce.mono_l k
 unfold yce.f
 repeat' first
   | (with_reducible exact ih0 _ _ _ _ _ _ _)
   | (with_reducible exact ih1 _ _ _ _ _ _ _)
   | (with_reducible exact ih2 _ _ _ _ _ _)
   | (with_reducible exact yck.mono _ _ _ _)
   | (with_reducible exact LeO.refl _)
   | (with_reducible exact LeO.none _)
   | (with_reducible refine LeO.ite ?_ ?_)
   | (with_reducible refine LeO.bind ?_ (fun _ => ?_))
   | exact ih0 _ _ _ _ _ _ _
   | exact ih1 _ _ _ _ _ _ _
   | exact ih2 _ _ _ _ _ _
   | exact yck.mono _ _ _ _
   | exact LeO.none _
   | refine LeO.ite ?_ ?_
   | refine LeO.bind ?_ (fun _ => ?_)
theorem yce.calls (k : Nat) (a0 : Int) (a1 : Int) (a2 : Int) (r1 : Bool) (r2 : Int) (w : World) (h : yce.f k a0 a1 a2 = some (r1,r2)) :
  Calls Tryz.prog 39 #[.int .i64 a0,.int .i64 a1,.int .i64 a2] w fun e w' => e = .returned (.tuple #[.bool r1,.int .i64 r2]) ∧ Drawn0 w w' :=by
 have H : ((yck.f k a0 a1 a2).bind fun t216 => (if t216 = true then ((ycu.f a2).bind fun bt217 => (if a0 = 3 then (some (true,0)) else (if a0 = 2 then (if bt217.1 = 1 then (if bt217.2.2.1 = 3 then (some (false,2)) else (some (false,0))) else (some (false,0))) else (if a0 = 1 then (some (false,0)) else (if bt217.1 = 0 then (yce.j0 k a1 a2 bt217.1 bt217.2.2.1 bt217.2.2.2.2 0 (bt217.2.2.1 == 6)) else (if bt217.1 = 3 then (yce.j0 k a1 a2 bt217.1 bt217.2.2.1 bt217.2.2.2.2 0 (bt217.2.2.1 == 6)) else (yce.j0 k a1 a2 bt217.1 bt217.2.2.1 bt217.2.2.2.2 0 false))))))) else (some (false,0)))) = some (r1,r2) :=h
 clear h
 replace H :=Option.bind_eq_some_iff.mp H
 obtain ⟨t216,A40,H⟩ :=H
 replace H : (if t216 = true then ((ycu.f a2).bind fun bt217 => (if a0 = 3 then (some (true,0)) else (if a0 = 2 then (if bt217.1 = 1 then (if bt217.2.2.1 = 3 then (some (false,2)) else (some (false,0))) else (some (false,0))) else (if a0 = 1 then (some (false,0)) else (if bt217.1 = 0 then (yce.j0 k a1 a2 bt217.1 bt217.2.2.1 bt217.2.2.2.2 0 (bt217.2.2.1 == 6)) else (if bt217.1 = 3 then (yce.j0 k a1 a2 bt217.1 bt217.2.2.1 bt217.2.2.2.2 0 (bt217.2.2.1 == 6)) else (yce.j0 k a1 a2 bt217.1 bt217.2.2.1 bt217.2.2.2.2 0 false))))))) else (some (false,0))) = some (r1,r2) :=H
 have A4 :=Aside0.mk A40
 clear A40
 by_cases c5 : t216 = true
 ·subst c5
  have H1 : ((ycu.f a2).bind fun bt217 => (if a0 = 3 then (some (true,0)) else (if a0 = 2 then (if bt217.1 = 1 then (if bt217.2.2.1 = 3 then (some (false,2)) else (some (false,0))) else (some (false,0))) else (if a0 = 1 then (some (false,0)) else (if bt217.1 = 0 then (yce.j0 k a1 a2 bt217.1 bt217.2.2.1 bt217.2.2.2.2 0 (bt217.2.2.1 == 6)) else (if bt217.1 = 3 then (yce.j0 k a1 a2 bt217.1 bt217.2.2.1 bt217.2.2.2.2 0 (bt217.2.2.1 == 6)) else (yce.j0 k a1 a2 bt217.1 bt217.2.2.1 bt217.2.2.2.2 0 false))))))) = some (r1,r2) :=by rw [if_pos rfl] at H;exact H
  clear H
  have H :=H1
  clear H1
  replace H :=Option.bind_eq_some_iff.mp H
  obtain ⟨⟨t217,t218,t219,t220,t221⟩,A60,H⟩ :=H
  replace H : (if a0 = 3 then (some (true,0)) else (if a0 = 2 then (if t217 = 1 then (if t219 = 3 then (some (false,2)) else (some (false,0))) else (some (false,0))) else (if a0 = 1 then (some (false,0)) else (if t217 = 0 then (yce.j0 k a1 a2 t217 t219 t221 0 (t219 == 6)) else (if t217 = 3 then (yce.j0 k a1 a2 t217 t219 t221 0 (t219 == 6)) else (yce.j0 k a1 a2 t217 t219 t221 0 false)))))) = some (r1,r2) :=H
  have A6 :=Aside0.mk A60
  clear A60
  by_cases c7 : a0 = 3
  ·obtain ⟨H,c7b0,c7b1⟩ :=ipos c7 H;clear c7
   simp only [Option.some.injEq,Prod.mk.injEq] at H
   obtain ⟨rfl,rfl⟩ :=H
   go_enter Tryz.func39,Tryz.ntmps39
   go_wp2_with (first | ((with_reducible refine gate_callee (f :=52) rfl ?_);refine goesL_ (some 17) rfl rfl Tryz.func52 (by kernel_rfl) rfl #[.int .i64 a0,.int .i64 a1,.int .i64 a2] rfl (by (try simp only [List.map_toArray,List.map_cons,List.map_nil]);rfl) ?_;(with_reducible refine (yck.calls k a0 a1 a2 true _ A4.out).mono ?_);rintro e w' ⟨rfl,⟨nd,rfl⟩⟩;refine ⟨_,rfl,?_⟩) | ((with_reducible refine gate_callee (f :=53) rfl ?_);refine goesL_ (some 21) rfl rfl Tryz.func53 (by kernel_rfl) rfl #[.int .i64 a2] rfl (by (try simp only [List.map_toArray,List.map_cons,List.map_nil]);rfl) ?_;(with_reducible refine (ycu.calls a2 t217 t218 t219 t220 t221 _ A6.out).mono ?_);rintro e w' ⟨rfl,⟨nd,rfl⟩⟩;refine ⟨_,rfl,?_⟩))
   go_ret2
   exact ⟨by rfl,by repeat (first | exact Drawn0.refl _ | apply Drawn0.step)⟩
  ·obtain ⟨H,c7b0,c7b1⟩ :=ineg c7 H
   by_cases c8 : a0 = 2
   ·obtain ⟨H,c8b0,c8b1⟩ :=ipos c8 H;clear c8
    by_cases c9 : t217 = 1
    ·obtain ⟨H,c9b0,c9b1⟩ :=ipos c9 H;clear c9
     by_cases c10 : t219 = 3
     ·obtain ⟨H,c10b0,c10b1⟩ :=ipos c10 H;clear c10
      simp only [Option.some.injEq,Prod.mk.injEq] at H
      obtain ⟨rfl,rfl⟩ :=H
      go_enter Tryz.func39,Tryz.ntmps39
      go_wp2_with (first | ((with_reducible refine gate_callee (f :=52) rfl ?_);refine goesL_ (some 17) rfl rfl Tryz.func52 (by kernel_rfl) rfl #[.int .i64 a0,.int .i64 a1,.int .i64 a2] rfl (by (try simp only [List.map_toArray,List.map_cons,List.map_nil]);rfl) ?_;(with_reducible refine (yck.calls k a0 a1 a2 true _ A4.out).mono ?_);rintro e w' ⟨rfl,⟨nd,rfl⟩⟩;refine ⟨_,rfl,?_⟩) | ((with_reducible refine gate_callee (f :=53) rfl ?_);refine goesL_ (some 21) rfl rfl Tryz.func53 (by kernel_rfl) rfl #[.int .i64 a2] rfl (by (try simp only [List.map_toArray,List.map_cons,List.map_nil]);rfl) ?_;(with_reducible refine (ycu.calls a2 t217 t218 t219 t220 t221 _ A6.out).mono ?_);rintro e w' ⟨rfl,⟨nd,rfl⟩⟩;refine ⟨_,rfl,?_⟩))
      go_ret2
      exact ⟨by rfl,by repeat (first | exact Drawn0.refl _ | apply Drawn0.step)⟩
     ·obtain ⟨H,c10b0,c10b1⟩ :=ineg c10 H
      simp only [Option.some.injEq,Prod.mk.injEq] at H
      obtain ⟨rfl,rfl⟩ :=H
      go_enter Tryz.func39,Tryz.ntmps39
      go_wp2_with (first | ((with_reducible refine gate_callee (f :=52) rfl ?_);refine goesL_ (some 17) rfl rfl Tryz.func52 (by kernel_rfl) rfl #[.int .i64 a0,.int .i64 a1,.int .i64 a2] rfl (by (try simp only [List.map_toArray,List.map_cons,List.map_nil]);rfl) ?_;(with_reducible refine (yck.calls k a0 a1 a2 true _ A4.out).mono ?_);rintro e w' ⟨rfl,⟨nd,rfl⟩⟩;refine ⟨_,rfl,?_⟩) | ((with_reducible refine gate_callee (f :=53) rfl ?_);refine goesL_ (some 21) rfl rfl Tryz.func53 (by kernel_rfl) rfl #[.int .i64 a2] rfl (by (try simp only [List.map_toArray,List.map_cons,List.map_nil]);rfl) ?_;(with_reducible refine (ycu.calls a2 t217 t218 t219 t220 t221 _ A6.out).mono ?_);rintro e w' ⟨rfl,⟨nd,rfl⟩⟩;refine ⟨_,rfl,?_⟩))
      go_ret2
      exact ⟨by rfl,by repeat (first | exact Drawn0.refl _ | apply Drawn0.step)⟩
    ·obtain ⟨H,c9b0,c9b1⟩ :=ineg c9 H
     simp only [Option.some.injEq,Prod.mk.injEq] at H
     obtain ⟨rfl,rfl⟩ :=H
     go_enter Tryz.func39,Tryz.ntmps39
     go_wp2_with (first | ((with_reducible refine gate_callee (f :=52) rfl ?_);refine goesL_ (some 17) rfl rfl Tryz.func52 (by kernel_rfl) rfl #[.int .i64 a0,.int .i64 a1,.int .i64 a2] rfl (by (try simp only [List.map_toArray,List.map_cons,List.map_nil]);rfl) ?_;(with_reducible refine (yck.calls k a0 a1 a2 true _ A4.out).mono ?_);rintro e w' ⟨rfl,⟨nd,rfl⟩⟩;refine ⟨_,rfl,?_⟩) | ((with_reducible refine gate_callee (f :=53) rfl ?_);refine goesL_ (some 21) rfl rfl Tryz.func53 (by kernel_rfl) rfl #[.int .i64 a2] rfl (by (try simp only [List.map_toArray,List.map_cons,List.map_nil]);rfl) ?_;(with_reducible refine (ycu.calls a2 t217 t218 t219 t220 t221 _ A6.out).mono ?_);rintro e w' ⟨rfl,⟨nd,rfl⟩⟩;refine ⟨_,rfl,?_⟩))
     go_ret2
     exact ⟨by rfl,by repeat (first | exact Drawn0.refl _ | apply Drawn0.step)⟩
   ·obtain ⟨H,c8b0,c8b1⟩ :=ineg c8 H
    by_cases c11 : a0 = 1
    ·obtain ⟨H,c11b0,c11b1⟩ :=ipos c11 H;clear c11
     simp only [Option.some.injEq,Prod.mk.injEq] at H
     obtain ⟨rfl,rfl⟩ :=H
     go_enter Tryz.func39,Tryz.ntmps39
     go_wp2_with (first | ((with_reducible refine gate_callee (f :=52) rfl ?_);refine goesL_ (some 17) rfl rfl Tryz.func52 (by kernel_rfl) rfl #[.int .i64 a0,.int .i64 a1,.int .i64 a2] rfl (by (try simp only [List.map_toArray,List.map_cons,List.map_nil]);rfl) ?_;(with_reducible refine (yck.calls k a0 a1 a2 true _ A4.out).mono ?_);rintro e w' ⟨rfl,⟨nd,rfl⟩⟩;refine ⟨_,rfl,?_⟩) | ((with_reducible refine gate_callee (f :=53) rfl ?_);refine goesL_ (some 21) rfl rfl Tryz.func53 (by kernel_rfl) rfl #[.int .i64 a2] rfl (by (try simp only [List.map_toArray,List.map_cons,List.map_nil]);rfl) ?_;(with_reducible refine (ycu.calls a2 t217 t218 t219 t220 t221 _ A6.out).mono ?_);rintro e w' ⟨rfl,⟨nd,rfl⟩⟩;refine ⟨_,rfl,?_⟩))
     go_ret2
     exact ⟨by rfl,by repeat (first | exact Drawn0.refl _ | apply Drawn0.step)⟩
    ·obtain ⟨H,c11b0,c11b1⟩ :=ineg c11 H
     have HC12 :=Aside0.mk H
     clear H
     go_enter Tryz.func39,Tryz.ntmps39
     go_upto_region 14 with (first | ((with_reducible refine gate_callee (f :=52) rfl ?_);refine goesL_ (some 17) rfl rfl Tryz.func52 (by kernel_rfl) rfl #[.int .i64 a0,.int .i64 a1,.int .i64 a2] rfl (by (try simp only [List.map_toArray,List.map_cons,List.map_nil]);rfl) ?_;(with_reducible refine (yck.calls k a0 a1 a2 true _ A4.out).mono ?_);rintro e w' ⟨rfl,⟨nd,rfl⟩⟩;refine ⟨_,rfl,?_⟩) | ((with_reducible refine gate_callee (f :=53) rfl ?_);refine goesL_ (some 21) rfl rfl Tryz.func53 (by kernel_rfl) rfl #[.int .i64 a2] rfl (by (try simp only [List.map_toArray,List.map_cons,List.map_nil]);rfl) ?_;(with_reducible refine (ycu.calls a2 t217 t218 t219 t220 t221 _ A6.out).mono ?_);rintro e w' ⟨rfl,⟨nd,rfl⟩⟩;refine ⟨_,rfl,?_⟩))
     (try simp only [Act.put,List.setIfInBounds_toArray,List.set_cons_zero,List.set_cons_succ])
     go_cut [40] (fun v40 wc => ∃ (kq : Nat) (x40_11 : Bool),v40 = .bool x40_11 ∧ Aside0 (yce.j0 kq a1 a2 t217 t219 t221 0 x40_11 = some (r1,r2)) ∧ Aside0 (kq ≤ k) ∧ Drawn0 w wc)
     case first =>
      have H :=HC12.out
      clear HC12
      by_cases c13 : t217 = 0
      ·obtain ⟨H,c13b0,c13b1⟩ :=ipos c13 H;clear c13
       (skip)
       have H' :=Aside0.mk H
       clear H
       go_wp2
       go_meet
       case rel => exact ⟨_,((t219 == 6)),(by rfl),H',⟨by omega⟩,by repeat (first | exact Drawn0.refl _ | apply Drawn0.step)⟩
      ·obtain ⟨H,c13b0,c13b1⟩ :=ineg c13 H
       (skip)
       by_cases c14 : t217 = 3
       ·obtain ⟨H,c14b0,c14b1⟩ :=ipos c14 H;clear c14
        have H' :=Aside0.mk H
        clear H
        go_wp2
        go_meet
        case rel => exact ⟨_,((t219 == 6)),(by rfl),H',⟨by omega⟩,by repeat (first | exact Drawn0.refl _ | apply Drawn0.step)⟩
       ·obtain ⟨H,c14b0,c14b1⟩ :=ineg c14 H
        have H' :=Aside0.mk H
        clear H
        go_wp2
        go_meet
        case rel => exact ⟨_,(false),(by rfl),H',⟨by omega⟩,by repeat (first | exact Drawn0.refl _ | apply Drawn0.step)⟩
     case rest =>
      clear HC12
      try clear c1
      try clear p2
      try clear c3
      try clear c5
      try clear c7
      try clear c7b0
      try clear c7b1
      try clear c8
      try clear c8b0
      try clear c8b1
      try clear c9
      try clear c9b0
      try clear c9b1
      try clear c10
      try clear c10b0
      try clear c10b1
      try clear c11
      try clear c11b0
      try clear c11b1
      try clear c13
      try clear c13b0
      try clear c13b1
      try clear c14
      try clear c14b0
      try clear c14b1
      obtain ⟨kq,x40_11,rfl,HA,HJ11,⟨mc11,rfl⟩⟩ :=hcut
      cases kq with
      | zero => exact absurd HA.out (by simp [yce.j0])
      | succ kj11 =>
       have H :=HA.out
       clear HA
       simp only [yce.j0] at H
       have HC15 :=Aside0.mk H
       clear H
       go_upto_if 40 with (fail)
       go_cut [40] (fun v40 wc => ∃ (kq : Nat) (x40_14 : Bool),v40 = .bool x40_14 ∧ Aside0 (yce.j1 kq a1 a2 t217 t219 t221 0 x40_14 = some (r1,r2)) ∧ Aside0 (kq ≤ kj11) ∧ Drawn0 w wc)
       case first =>
        have H :=HC15.out
        clear HC15
        by_cases c16 : x40_11 = true
        ·subst c16
         have H1 : (yce.j1 kj11 a1 a2 t217 t219 t221 0 true) = some (r1,r2) :=by rw [if_pos rfl] at H;exact H
         clear H
         have H :=H1
         clear H1
         have H' :=Aside0.mk H
         clear H
         go_wp2
         go_meet
         case rel => exact ⟨_,(true),(by rfl),H',⟨by have :=HJ11.out;omega⟩,by repeat (first | exact Drawn0.refl _ | apply Drawn0.step)⟩
        ·replace c16 :=Bool.eq_false_iff.mpr c16
         subst c16
         have H1 : ((ycp.f a2).bind fun t222 => (if t222 = true then (yce.j1 kj11 a1 a2 t217 t219 t221 0 t222) else (if a2 = 211 then (yce.j1 kj11 a1 a2 t217 t219 t221 0 (a2 == 211)) else (yce.j1 kj11 a1 a2 t217 t219 t221 0 (a2 == 219))))) = some (r1,r2) :=by rw [if_neg (show ¬ (false = true) by decide)] at H;exact H
         clear H
         have H :=H1
         clear H1
         replace H :=Option.bind_eq_some_iff.mp H
         obtain ⟨t222,A170,H⟩ :=H
         replace H : (if t222 = true then (yce.j1 kj11 a1 a2 t217 t219 t221 0 t222) else (if a2 = 211 then (yce.j1 kj11 a1 a2 t217 t219 t221 0 (a2 == 211)) else (yce.j1 kj11 a1 a2 t217 t219 t221 0 (a2 == 219)))) = some (r1,r2) :=H
         have A17 :=Aside0.mk A170
         clear A170
         by_cases c18 : t222 = true
         ·subst c18
          have H1 : (yce.j1 kj11 a1 a2 t217 t219 t221 0 true) = some (r1,r2) :=by rw [if_pos rfl] at H;exact H
          clear H
          have H :=H1
          clear H1
          have H' :=Aside0.mk H
          clear H
          go_wp2_with (((with_reducible refine gate_callee (f :=40) rfl ?_);refine goesL_ (some 52) rfl rfl Tryz.func40 (by kernel_rfl) rfl #[.int .i64 a2] rfl (by (try simp only [List.map_toArray,List.map_cons,List.map_nil]);rfl) ?_;(with_reducible refine (ycp.calls a2 true _ A17.out).mono ?_);rintro e w' ⟨rfl,⟨nd,rfl⟩⟩;refine ⟨_,rfl,?_⟩))
          go_meet
          case rel => exact ⟨_,(true),(by rfl),H',⟨by have :=HJ11.out;omega⟩,by repeat (first | exact Drawn0.refl _ | apply Drawn0.step)⟩
         ·replace c18 :=Bool.eq_false_iff.mpr c18
          subst c18
          have H1 : (if a2 = 211 then (yce.j1 kj11 a1 a2 t217 t219 t221 0 (a2 == 211)) else (yce.j1 kj11 a1 a2 t217 t219 t221 0 (a2 == 219))) = some (r1,r2) :=by rw [if_neg (show ¬ (false = true) by decide)] at H;exact H
          clear H
          have H :=H1
          clear H1
          by_cases c19 : a2 = 211
          ·obtain ⟨H,c19b0,c19b1⟩ :=ipos c19 H;clear c19
           (skip)
           have H' :=Aside0.mk H
           clear H
           go_wp2_with (((with_reducible refine gate_callee (f :=40) rfl ?_);refine goesL_ (some 52) rfl rfl Tryz.func40 (by kernel_rfl) rfl #[.int .i64 a2] rfl (by (try simp only [List.map_toArray,List.map_cons,List.map_nil]);rfl) ?_;(with_reducible refine (ycp.calls a2 false _ A17.out).mono ?_);rintro e w' ⟨rfl,⟨nd,rfl⟩⟩;refine ⟨_,rfl,?_⟩))
           go_meet
           case rel => exact ⟨_,((a2 == 211)),(by (simp [*];done)),H',⟨by have :=HJ11.out;omega⟩,by repeat (first | exact Drawn0.refl _ | apply Drawn0.step)⟩
          ·obtain ⟨H,c19b0,c19b1⟩ :=ineg c19 H
           (skip)
           have H' :=Aside0.mk H
           clear H
           go_wp2_with (((with_reducible refine gate_callee (f :=40) rfl ?_);refine goesL_ (some 52) rfl rfl Tryz.func40 (by kernel_rfl) rfl #[.int .i64 a2] rfl (by (try simp only [List.map_toArray,List.map_cons,List.map_nil]);rfl) ?_;(with_reducible refine (ycp.calls a2 false _ A17.out).mono ?_);rintro e w' ⟨rfl,⟨nd,rfl⟩⟩;refine ⟨_,rfl,?_⟩))
           go_meet
           case rel => exact ⟨_,((a2 == 219)),(by rfl),H',⟨by have :=HJ11.out;omega⟩,by repeat (first | exact Drawn0.refl _ | apply Drawn0.step)⟩
       case rest =>
        clear HC15
        try clear c1
        try clear p2
        try clear c3
        try clear c4
        try clear c5
        try clear c7
        try clear c7b0
        try clear c7b1
        try clear c8
        try clear c8b0
        try clear c8b1
        try clear c9
        try clear c9b0
        try clear c9b1
        try clear c10
        try clear c10b0
        try clear c10b1
        try clear c11
        try clear c11b0
        try clear c11b1
        try clear c13
        try clear c13b0
        try clear c13b1
        try clear c14
        try clear c14b0
        try clear c14b1
        try clear c16
        try clear c18
        try clear c19
        try clear c19b0
        try clear c19b1
        try clear p2
        obtain ⟨kq,x40_14,rfl,HA,HJ14,⟨mc14,rfl⟩⟩ :=hcut
        cases kq with
        | zero => exact absurd HA.out (by simp [yce.j1])
        | succ kj14 =>
         have H :=HA.out
         clear HA
         simp only [yce.j1] at H
         by_cases c20 : x40_14 = true
         ·subst c20
          have H1 : (if a1 > 0 then ((ycn.f a2).bind fun t223 => (some (t223,1))) else (some (false,1))) = some (r1,r2) :=by rw [if_pos rfl] at H;exact H
          clear H
          have H :=H1
          clear H1
          by_cases c21 : a1 > 0
          ·rw [if_pos c21] at H
           have c21b0 : decide (0 < a1) = true :=decide_eq_true c21
           clear c21
           replace H :=Option.bind_eq_some_iff.mp H
           obtain ⟨t223,A220,H⟩ :=H
           replace H : (some (t223,1)) = some (r1,r2) :=H
           have A22 :=Aside0.mk A220
           clear A220
           simp only [Option.some.injEq,Prod.mk.injEq] at H
           obtain ⟨rfl,rfl⟩ :=H
           go_wp2_with ((go_at_call 54;(with_reducible refine (ycn.calls a2 t223 _ A22.out).mono ?_);rintro e w' ⟨rfl,⟨nd,rfl⟩⟩))
           go_ret2
           exact ⟨by rfl,by repeat (first | exact Drawn0.refl _ | apply Drawn0.step)⟩
          ·rw [if_neg c21] at H
           have c21b0 : decide (0 < a1) = false :=decide_eq_false c21
           clear c21
           simp only [Option.some.injEq,Prod.mk.injEq] at H
           obtain ⟨rfl,rfl⟩ :=H
           go_wp2
           go_ret2
           exact ⟨by rfl,by repeat (first | exact Drawn0.refl _ | apply Drawn0.step)⟩
         ·replace c20 :=Bool.eq_false_iff.mpr c20
          subst c20
          have H1 : (if t217 = 0 then (if t219 = 1 then (yce.j2 kj14 a1 a2 t217 t219 0 (t221 == 0)) else (yce.j2 kj14 a1 a2 t217 t219 0 false)) else (yce.j2 kj14 a1 a2 t217 t219 0 false)) = some (r1,r2) :=by rw [if_neg (show ¬ (false = true) by decide)] at H;exact H
          clear H
          have H :=H1
          clear H1
          have HC23 :=Aside0.mk H
          clear H
          go_upto_region 19 with (fail)
          go_cut [57] (fun v57 wc => ∃ (kq : Nat) (x57_22 : Bool),v57 = .bool x57_22 ∧ Aside0 (yce.j2 kq a1 a2 t217 t219 0 x57_22 = some (r1,r2)) ∧ Aside0 (kq ≤ kj14) ∧ Drawn0 w wc)
          case first =>
           have H :=HC23.out
           clear HC23
           by_cases c24 : t217 = 0
           ·obtain ⟨H,c24b0,c24b1⟩ :=ipos c24 H;clear c24
            (skip)
            by_cases c25 : t219 = 1
            ·obtain ⟨H,c25b0,c25b1⟩ :=ipos c25 H;clear c25
             have H' :=Aside0.mk H
             clear H
             go_wp2
             go_meet
             case rel => exact ⟨_,((t221 == 0)),(by rfl),H',⟨by have :=HJ11.out;have :=HJ14.out;omega⟩,by repeat (first | exact Drawn0.refl _ | apply Drawn0.step)⟩
            ·obtain ⟨H,c25b0,c25b1⟩ :=ineg c25 H
             have H' :=Aside0.mk H
             clear H
             go_wp2
             go_meet
             case rel => exact ⟨_,(false),(by rfl),H',⟨by have :=HJ11.out;have :=HJ14.out;omega⟩,by repeat (first | exact Drawn0.refl _ | apply Drawn0.step)⟩
           ·obtain ⟨H,c24b0,c24b1⟩ :=ineg c24 H
            (skip)
            have H' :=Aside0.mk H
            clear H
            go_wp2
            go_meet
            case rel => exact ⟨_,(false),(by rfl),H',⟨by have :=HJ11.out;have :=HJ14.out;omega⟩,by repeat (first | exact Drawn0.refl _ | apply Drawn0.step)⟩
          case rest =>
           clear HC23
           try clear c1
           try clear c2
           try clear p2
           try clear c3
           try clear c4
           try clear c5
           try clear c7
           try clear c7b0
           try clear c7b1
           try clear c8
           try clear c8b0
           try clear c8b1
           try clear c9
           try clear c9b0
           try clear c9b1
           try clear c10
           try clear c10b0
           try clear c10b1
           try clear c11
           try clear c11b0
           try clear c11b1
           try clear c13
           try clear c13b0
           try clear c13b1
           try clear c14
           try clear c14b0
           try clear c14b1
           try clear c16
           try clear c18
           try clear c19
           try clear c19b0
           try clear c19b1
           try clear c20
           try clear c21
           try clear c21b0
           try clear c24
           try clear c24b0
           try clear c24b1
           try clear c25
           try clear c25b0
           try clear c25b1
           try clear p2
           obtain ⟨kq,x57_22,rfl,HA,HJ22,⟨mc22,rfl⟩⟩ :=hcut
           cases kq with
           | zero => exact absurd HA.out (by simp [yce.j2])
           | succ kj22 =>
            have H :=HA.out
            clear HA
            simp only [yce.j2] at H
            by_cases c26 : x57_22 = true
            ·subst c26
             have H1 : (if a1 > 0 then ((ycn.f a2).bind fun t224 => (some (t224,2))) else (some (false,2))) = some (r1,r2) :=by rw [if_pos rfl] at H;exact H
             clear H
             have H :=H1
             clear H1
             by_cases c27 : a1 > 0
             ·rw [if_pos c27] at H
              have c27b0 : decide (0 < a1) = true :=decide_eq_true c27
              clear c27
              replace H :=Option.bind_eq_some_iff.mp H
              obtain ⟨t224,A280,H⟩ :=H
              replace H : (some (t224,2)) = some (r1,r2) :=H
              have A28 :=Aside0.mk A280
              clear A280
              simp only [Option.some.injEq,Prod.mk.injEq] at H
              obtain ⟨rfl,rfl⟩ :=H
              go_wp2_with ((go_at_call 54;(with_reducible refine (ycn.calls a2 t224 _ A28.out).mono ?_);rintro e w' ⟨rfl,⟨nd,rfl⟩⟩))
              go_ret2
              exact ⟨by rfl,by repeat (first | exact Drawn0.refl _ | apply Drawn0.step)⟩
             ·rw [if_neg c27] at H
              have c27b0 : decide (0 < a1) = false :=decide_eq_false c27
              clear c27
              simp only [Option.some.injEq,Prod.mk.injEq] at H
              obtain ⟨rfl,rfl⟩ :=H
              go_wp2
              go_ret2
              exact ⟨by rfl,by repeat (first | exact Drawn0.refl _ | apply Drawn0.step)⟩
            ·replace c26 :=Bool.eq_false_iff.mpr c26
             subst c26
             have H1 : (if a2 = 34 then (if a1 > 0 then ((ycn.f a2).bind fun t225 => (some (t225,2))) else (some (false,2))) else (if a2 = 42 then (if a1 > 0 then ((ycn.f a2).bind fun t226 => (some (t226,2))) else (some (false,2))) else (if a2 = 50 then (if a1 > 0 then ((ycn.f a2).bind fun t227 => (some (t227,2))) else (some (false,2))) else (if a2 = 58 then (if a1 > 0 then ((ycn.f a2).bind fun t228 => (some (t228,2))) else (some (false,2))) else (if a2 = 195 then (if a1 > 0 then ((ycn.f a2).bind fun t229 => (some (t229,2))) else (some (false,2))) else (if a2 = 205 then (if a1 > 0 then ((ycn.f a2).bind fun t230 => (some (t230,2))) else (some (false,2))) else (if t217 = 3 then (if t219 = 2 then (if a1 > 0 then ((ycn.f a2).bind fun t231 => (some (t231,2))) else (some (false,2))) else (if t219 = 4 then (if a1 > 0 then ((ycn.f a2).bind fun t232 => (some (t232,2))) else (some (false,2))) else (if a1 > 0 then ((ycn.f a2).bind fun t233 => (some (t233,0))) else (some (false,0))))) else (if a1 > 0 then ((ycn.f a2).bind fun t234 => (some (t234,0))) else (some (false,0)))))))))) = some (r1,r2) :=by rw [if_neg (show ¬ (false = true) by decide)] at H;exact H
             clear H
             have H :=H1
             clear H1
             by_cases c29 : a2 = 34
             ·obtain ⟨H,c29b0,c29b1⟩ :=ipos c29 H;clear c29
              by_cases c30 : a1 > 0
              ·rw [if_pos c30] at H
               have c30b0 : decide (0 < a1) = true :=decide_eq_true c30
               clear c30
               replace H :=Option.bind_eq_some_iff.mp H
               obtain ⟨t225,A310,H⟩ :=H
               replace H : (some (t225,2)) = some (r1,r2) :=H
               have A31 :=Aside0.mk A310
               clear A310
               simp only [Option.some.injEq,Prod.mk.injEq] at H
               obtain ⟨rfl,rfl⟩ :=H
               go_wp2_with ((go_at_call 54;(with_reducible refine (ycn.calls a2 t225 _ A31.out).mono ?_);rintro e w' ⟨rfl,⟨nd,rfl⟩⟩))
               go_ret2
               exact ⟨by rfl,by repeat (first | exact Drawn0.refl _ | apply Drawn0.step)⟩
              ·rw [if_neg c30] at H
               have c30b0 : decide (0 < a1) = false :=decide_eq_false c30
               clear c30
               simp only [Option.some.injEq,Prod.mk.injEq] at H
               obtain ⟨rfl,rfl⟩ :=H
               go_wp2
               go_ret2
               exact ⟨by rfl,by repeat (first | exact Drawn0.refl _ | apply Drawn0.step)⟩
             ·obtain ⟨H,c29b0,c29b1⟩ :=ineg c29 H
              by_cases c32 : a2 = 42
              ·obtain ⟨H,c32b0,c32b1⟩ :=ipos c32 H;clear c32
               by_cases c33 : a1 > 0
               ·rw [if_pos c33] at H
                have c33b0 : decide (0 < a1) = true :=decide_eq_true c33
                clear c33
                replace H :=Option.bind_eq_some_iff.mp H
                obtain ⟨t226,A340,H⟩ :=H
                replace H : (some (t226,2)) = some (r1,r2) :=H
                have A34 :=Aside0.mk A340
                clear A340
                simp only [Option.some.injEq,Prod.mk.injEq] at H
                obtain ⟨rfl,rfl⟩ :=H
                go_wp2_with ((go_at_call 54;(with_reducible refine (ycn.calls a2 t226 _ A34.out).mono ?_);rintro e w' ⟨rfl,⟨nd,rfl⟩⟩))
                go_ret2
                exact ⟨by rfl,by repeat (first | exact Drawn0.refl _ | apply Drawn0.step)⟩
               ·rw [if_neg c33] at H
                have c33b0 : decide (0 < a1) = false :=decide_eq_false c33
                clear c33
                simp only [Option.some.injEq,Prod.mk.injEq] at H
                obtain ⟨rfl,rfl⟩ :=H
                go_wp2
                go_ret2
                exact ⟨by rfl,by repeat (first | exact Drawn0.refl _ | apply Drawn0.step)⟩
              ·obtain ⟨H,c32b0,c32b1⟩ :=ineg c32 H
               by_cases c35 : a2 = 50
               ·obtain ⟨H,c35b0,c35b1⟩ :=ipos c35 H;clear c35
                by_cases c36 : a1 > 0
                ·rw [if_pos c36] at H
                 have c36b0 : decide (0 < a1) = true :=decide_eq_true c36
                 clear c36
                 replace H :=Option.bind_eq_some_iff.mp H
                 obtain ⟨t227,A370,H⟩ :=H
                 replace H : (some (t227,2)) = some (r1,r2) :=H
                 have A37 :=Aside0.mk A370
                 clear A370
                 simp only [Option.some.injEq,Prod.mk.injEq] at H
                 obtain ⟨rfl,rfl⟩ :=H
                 go_wp2_with ((go_at_call 54;(with_reducible refine (ycn.calls a2 t227 _ A37.out).mono ?_);rintro e w' ⟨rfl,⟨nd,rfl⟩⟩))
                 go_ret2
                 exact ⟨by rfl,by repeat (first | exact Drawn0.refl _ | apply Drawn0.step)⟩
                ·rw [if_neg c36] at H
                 have c36b0 : decide (0 < a1) = false :=decide_eq_false c36
                 clear c36
                 simp only [Option.some.injEq,Prod.mk.injEq] at H
                 obtain ⟨rfl,rfl⟩ :=H
                 go_wp2
                 go_ret2
                 exact ⟨by rfl,by repeat (first | exact Drawn0.refl _ | apply Drawn0.step)⟩
               ·obtain ⟨H,c35b0,c35b1⟩ :=ineg c35 H
                by_cases c38 : a2 = 58
                ·obtain ⟨H,c38b0,c38b1⟩ :=ipos c38 H;clear c38
                 by_cases c39 : a1 > 0
                 ·rw [if_pos c39] at H
                  have c39b0 : decide (0 < a1) = true :=decide_eq_true c39
                  clear c39
                  replace H :=Option.bind_eq_some_iff.mp H
                  obtain ⟨t228,A400,H⟩ :=H
                  replace H : (some (t228,2)) = some (r1,r2) :=H
                  have A40 :=Aside0.mk A400
                  clear A400
                  simp only [Option.some.injEq,Prod.mk.injEq] at H
                  obtain ⟨rfl,rfl⟩ :=H
                  go_wp2_with ((go_at_call 54;(with_reducible refine (ycn.calls a2 t228 _ A40.out).mono ?_);rintro e w' ⟨rfl,⟨nd,rfl⟩⟩))
                  go_ret2
                  exact ⟨by rfl,by repeat (first | exact Drawn0.refl _ | apply Drawn0.step)⟩
                 ·rw [if_neg c39] at H
                  have c39b0 : decide (0 < a1) = false :=decide_eq_false c39
                  clear c39
                  simp only [Option.some.injEq,Prod.mk.injEq] at H
                  obtain ⟨rfl,rfl⟩ :=H
                  go_wp2
                  go_ret2
                  exact ⟨by rfl,by repeat (first | exact Drawn0.refl _ | apply Drawn0.step)⟩
                ·obtain ⟨H,c38b0,c38b1⟩ :=ineg c38 H
                 by_cases c41 : a2 = 195
                 ·obtain ⟨H,c41b0,c41b1⟩ :=ipos c41 H;clear c41
                  by_cases c42 : a1 > 0
                  ·rw [if_pos c42] at H
                   have c42b0 : decide (0 < a1) = true :=decide_eq_true c42
                   clear c42
                   replace H :=Option.bind_eq_some_iff.mp H
                   obtain ⟨t229,A430,H⟩ :=H
                   replace H : (some (t229,2)) = some (r1,r2) :=H
                   have A43 :=Aside0.mk A430
                   clear A430
                   simp only [Option.some.injEq,Prod.mk.injEq] at H
                   obtain ⟨rfl,rfl⟩ :=H
                   go_wp2_with ((go_at_call 54;(with_reducible refine (ycn.calls a2 t229 _ A43.out).mono ?_);rintro e w' ⟨rfl,⟨nd,rfl⟩⟩))
                   go_ret2
                   exact ⟨by rfl,by repeat (first | exact Drawn0.refl _ | apply Drawn0.step)⟩
                  ·rw [if_neg c42] at H
                   have c42b0 : decide (0 < a1) = false :=decide_eq_false c42
                   clear c42
                   simp only [Option.some.injEq,Prod.mk.injEq] at H
                   obtain ⟨rfl,rfl⟩ :=H
                   go_wp2
                   go_ret2
                   exact ⟨by rfl,by repeat (first | exact Drawn0.refl _ | apply Drawn0.step)⟩
                 ·obtain ⟨H,c41b0,c41b1⟩ :=ineg c41 H
                  by_cases c44 : a2 = 205
                  ·obtain ⟨H,c44b0,c44b1⟩ :=ipos c44 H;clear c44
                   by_cases c45 : a1 > 0
                   ·rw [if_pos c45] at H
                    have c45b0 : decide (0 < a1) = true :=decide_eq_true c45
                    clear c45
                    replace H :=Option.bind_eq_some_iff.mp H
                    obtain ⟨t230,A460,H⟩ :=H
                    replace H : (some (t230,2)) = some (r1,r2) :=H
                    have A46 :=Aside0.mk A460
                    clear A460
                    simp only [Option.some.injEq,Prod.mk.injEq] at H
                    obtain ⟨rfl,rfl⟩ :=H
                    go_wp2_with ((go_at_call 54;(with_reducible refine (ycn.calls a2 t230 _ A46.out).mono ?_);rintro e w' ⟨rfl,⟨nd,rfl⟩⟩))
                    go_ret2
                    exact ⟨by rfl,by repeat (first | exact Drawn0.refl _ | apply Drawn0.step)⟩
                   ·rw [if_neg c45] at H
                    have c45b0 : decide (0 < a1) = false :=decide_eq_false c45
                    clear c45
                    simp only [Option.some.injEq,Prod.mk.injEq] at H
                    obtain ⟨rfl,rfl⟩ :=H
                    go_wp2
                    go_ret2
                    exact ⟨by rfl,by repeat (first | exact Drawn0.refl _ | apply Drawn0.step)⟩
                  ·obtain ⟨H,c44b0,c44b1⟩ :=ineg c44 H
                   by_cases c47 : t217 = 3
                   ·obtain ⟨H,c47b0,c47b1⟩ :=ipos c47 H;clear c47
                    by_cases c48 : t219 = 2
                    ·obtain ⟨H,c48b0,c48b1⟩ :=ipos c48 H;clear c48
                     by_cases c49 : a1 > 0
                     ·rw [if_pos c49] at H
                      have c49b0 : decide (0 < a1) = true :=decide_eq_true c49
                      clear c49
                      replace H :=Option.bind_eq_some_iff.mp H
                      obtain ⟨t231,A500,H⟩ :=H
                      replace H : (some (t231,2)) = some (r1,r2) :=H
                      have A50 :=Aside0.mk A500
                      clear A500
                      simp only [Option.some.injEq,Prod.mk.injEq] at H
                      obtain ⟨rfl,rfl⟩ :=H
                      go_wp2_with ((go_at_call 54;(with_reducible refine (ycn.calls a2 t231 _ A50.out).mono ?_);rintro e w' ⟨rfl,⟨nd,rfl⟩⟩))
                      go_ret2
                      exact ⟨by rfl,by repeat (first | exact Drawn0.refl _ | apply Drawn0.step)⟩
                     ·rw [if_neg c49] at H
                      have c49b0 : decide (0 < a1) = false :=decide_eq_false c49
                      clear c49
                      simp only [Option.some.injEq,Prod.mk.injEq] at H
                      obtain ⟨rfl,rfl⟩ :=H
                      go_wp2
                      go_ret2
                      exact ⟨by rfl,by repeat (first | exact Drawn0.refl _ | apply Drawn0.step)⟩
                    ·obtain ⟨H,c48b0,c48b1⟩ :=ineg c48 H
                     by_cases c51 : t219 = 4
                     ·obtain ⟨H,c51b0,c51b1⟩ :=ipos c51 H;clear c51
                      by_cases c52 : a1 > 0
                      ·rw [if_pos c52] at H
                       have c52b0 : decide (0 < a1) = true :=decide_eq_true c52
                       clear c52
                       replace H :=Option.bind_eq_some_iff.mp H
                       obtain ⟨t232,A530,H⟩ :=H
                       replace H : (some (t232,2)) = some (r1,r2) :=H
                       have A53 :=Aside0.mk A530
                       clear A530
                       simp only [Option.some.injEq,Prod.mk.injEq] at H
                       obtain ⟨rfl,rfl⟩ :=H
                       go_wp2_with ((go_at_call 54;(with_reducible refine (ycn.calls a2 t232 _ A53.out).mono ?_);rintro e w' ⟨rfl,⟨nd,rfl⟩⟩))
                       go_ret2
                       exact ⟨by rfl,by repeat (first | exact Drawn0.refl _ | apply Drawn0.step)⟩
                      ·rw [if_neg c52] at H
                       have c52b0 : decide (0 < a1) = false :=decide_eq_false c52
                       clear c52
                       simp only [Option.some.injEq,Prod.mk.injEq] at H
                       obtain ⟨rfl,rfl⟩ :=H
                       go_wp2
                       go_ret2
                       exact ⟨by rfl,by repeat (first | exact Drawn0.refl _ | apply Drawn0.step)⟩
                     ·obtain ⟨H,c51b0,c51b1⟩ :=ineg c51 H
                      by_cases c54 : a1 > 0
                      ·rw [if_pos c54] at H
                       have c54b0 : decide (0 < a1) = true :=decide_eq_true c54
                       clear c54
                       replace H :=Option.bind_eq_some_iff.mp H
                       obtain ⟨t233,A550,H⟩ :=H
                       replace H : (some (t233,0)) = some (r1,r2) :=H
                       have A55 :=Aside0.mk A550
                       clear A550
                       simp only [Option.some.injEq,Prod.mk.injEq] at H
                       obtain ⟨rfl,rfl⟩ :=H
                       go_wp2_with ((go_at_call 54;(with_reducible refine (ycn.calls a2 t233 _ A55.out).mono ?_);rintro e w' ⟨rfl,⟨nd,rfl⟩⟩))
                       go_ret2
                       exact ⟨by rfl,by repeat (first | exact Drawn0.refl _ | apply Drawn0.step)⟩
                      ·rw [if_neg c54] at H
                       have c54b0 : decide (0 < a1) = false :=decide_eq_false c54
                       clear c54
                       simp only [Option.some.injEq,Prod.mk.injEq] at H
                       obtain ⟨rfl,rfl⟩ :=H
                       go_wp2
                       go_ret2
                       exact ⟨by rfl,by repeat (first | exact Drawn0.refl _ | apply Drawn0.step)⟩
                   ·obtain ⟨H,c47b0,c47b1⟩ :=ineg c47 H
                    by_cases c56 : a1 > 0
                    ·rw [if_pos c56] at H
                     have c56b0 : decide (0 < a1) = true :=decide_eq_true c56
                     clear c56
                     replace H :=Option.bind_eq_some_iff.mp H
                     obtain ⟨t234,A570,H⟩ :=H
                     replace H : (some (t234,0)) = some (r1,r2) :=H
                     have A57 :=Aside0.mk A570
                     clear A570
                     simp only [Option.some.injEq,Prod.mk.injEq] at H
                     obtain ⟨rfl,rfl⟩ :=H
                     go_wp2_with ((go_at_call 54;(with_reducible refine (ycn.calls a2 t234 _ A57.out).mono ?_);rintro e w' ⟨rfl,⟨nd,rfl⟩⟩))
                     go_ret2
                     exact ⟨by rfl,by repeat (first | exact Drawn0.refl _ | apply Drawn0.step)⟩
                    ·rw [if_neg c56] at H
                     have c56b0 : decide (0 < a1) = false :=decide_eq_false c56
                     clear c56
                     simp only [Option.some.injEq,Prod.mk.injEq] at H
                     obtain ⟨rfl,rfl⟩ :=H
                     go_wp2
                     go_ret2
                     exact ⟨by rfl,by repeat (first | exact Drawn0.refl _ | apply Drawn0.step)⟩
 ·replace c5 :=Bool.eq_false_iff.mpr c5
  subst c5
  have H1 : (some (false,0)) = some (r1,r2) :=by rw [if_neg (show ¬ (false = true) by decide)] at H;exact H
  clear H
  have H :=H1
  clear H1
  simp only [Option.some.injEq,Prod.mk.injEq] at H
  obtain ⟨rfl,rfl⟩ :=H
  go_enter Tryz.func39,Tryz.ntmps39
  go_wp2_with (((with_reducible refine gate_callee (f :=52) rfl ?_);refine goesL_ (some 17) rfl rfl Tryz.func52 (by kernel_rfl) rfl #[.int .i64 a0,.int .i64 a1,.int .i64 a2] rfl (by (try simp only [List.map_toArray,List.map_cons,List.map_nil]);rfl) ?_;(with_reducible refine (yck.calls k a0 a1 a2 false _ A4.out).mono ?_);rintro e w' ⟨rfl,⟨nd,rfl⟩⟩;refine ⟨_,rfl,?_⟩))
  go_ret2
  exact ⟨by rfl,by repeat (first | exact Drawn0.refl _ | apply Drawn0.step)⟩
/-! ### pendulumref09_length: function 38 -/
def ych.j0 : Nat → Int → Int → Int → Option (Int)
 | 0,_,_,_ => none
 | k + 1,x0,x1,x8 => if x1 > 0 then (if x0 = 0 then (some (wrap64 ((wrap64 (x8 + 1)) + 1))) else (some (wrap64 ((wrap64 ((wrap64 (x8 + 1)) + 1)) + 1)))) else (if x0 = 0 then (some (wrap64 (x8 + 1))) else (some (wrap64 ((wrap64 (x8 + 1)) + 1))))
def ych.f (k : Nat) (a0 : Int) (a1 : Int) (a2 : Int) : Option (Int) :=(yce.f k a0 a1 a2).bind fun bt235 => (if bt235.1 = true then (ych.j0 k a0 a1 (wrap64 (bt235.2 + 1))) else (ych.j0 k a0 a1 bt235.2))
theorem ych.mono_l : ∀ k,(∀ y0 y1 y2,LeO (ych.j0 k y0 y1 y2) (ych.j0 (k + 1) y0 y1 y2))
 | 0 => fun _ _ _ r h => by simp [ych.j0] at h
 | k + 1 => by
  have ih0 :=ych.mono_l k
  ·intro y0 y1 y2
   unfold ych.j0
   repeat' first
   | (with_reducible exact ih0 _ _ _)
   | (with_reducible exact yce.mono _ _ _ _)
   | (with_reducible exact LeO.refl _)
   | (with_reducible exact LeO.none _)
   | (with_reducible refine LeO.ite ?_ ?_)
   | (with_reducible refine LeO.bind ?_ (fun _ => ?_))
   | exact ih0 _ _ _
   | exact yce.mono _ _ _ _
   | exact LeO.none _
   | refine LeO.ite ?_ ?_
   | refine LeO.bind ?_ (fun _ => ?_)
theorem ych.mono : ∀ a0 a1 a2 k,LeO (ych.f k a0 a1 a2) (ych.f (k + 1) a0 a1 a2) :=by
 intro a0 a1 a2 k
 have ih0 :=ych.mono_l k
 unfold ych.f
 repeat' first
   | (with_reducible exact ih0 _ _ _)
   | (with_reducible exact yce.mono _ _ _ _)
   | (with_reducible exact LeO.refl _)
   | (with_reducible exact LeO.none _)
   | (with_reducible refine LeO.ite ?_ ?_)
   | (with_reducible refine LeO.bind ?_ (fun _ => ?_))
   | exact ih0 _ _ _
   | exact yce.mono _ _ _ _
   | exact LeO.none _
   | refine LeO.ite ?_ ?_
   | refine LeO.bind ?_ (fun _ => ?_)
theorem ych.calls (k : Nat) (a0 : Int) (a1 : Int) (a2 : Int) (r : Int) (w : World) (h : ych.f k a0 a1 a2 = some r) :
  Calls Tryz.prog 38 #[.int .i64 a0,.int .i64 a1,.int .i64 a2] w fun e w' => e = .returned (.int .i64 r) ∧ Drawn0 w w' :=by
 have H : ((yce.f k a0 a1 a2).bind fun bt235 => (if bt235.1 = true then (ych.j0 k a0 a1 (wrap64 (bt235.2 + 1))) else (ych.j0 k a0 a1 bt235.2))) = some r :=h
 clear h
 replace H :=Option.bind_eq_some_iff.mp H
 obtain ⟨⟨t235,t236⟩,A40,H⟩ :=H
 replace H : (if t235 = true then (ych.j0 k a0 a1 (wrap64 (t236 + 1))) else (ych.j0 k a0 a1 t236)) = some r :=H
 have A4 :=Aside0.mk A40
 clear A40
 have HC5 :=Aside0.mk H
 clear H
 go_enter Tryz.func38,Tryz.ntmps38
 go_upto_if 16 with (((with_reducible refine gate_callee (f :=39) rfl ?_);refine goesL_ (some 13) rfl rfl Tryz.func39 (by kernel_rfl) rfl #[.int .i64 a0,.int .i64 a1,.int .i64 a2] rfl (by (try simp only [List.map_toArray,List.map_cons,List.map_nil]);rfl) ?_;(with_reducible refine (yce.calls k a0 a1 a2 t235 t236 _ A4.out).mono ?_);rintro e w' ⟨rfl,⟨nd,rfl⟩⟩;refine ⟨_,rfl,?_⟩))
 (try simp only [Act.put,List.setIfInBounds_toArray,List.set_cons_zero,List.set_cons_succ])
 go_cut [8] (fun v8 wc => ∃ (kq : Nat) (x8_4 : Int),v8 = .int .i64 x8_4 ∧ Aside0 (ych.j0 kq a0 a1 x8_4 = some r) ∧ Aside0 (kq ≤ k) ∧ Drawn0 w wc)
 case first =>
  have H :=HC5.out
  clear HC5
  by_cases c6 : t235 = true
  ·subst c6
   have H1 : (ych.j0 k a0 a1 (wrap64 (t236 + 1))) = some r :=by rw [if_pos rfl] at H;exact H
   clear H
   have H :=H1
   clear H1
   have H' :=Aside0.mk H
   clear H
   go_wp2
   go_meet
   case rel => exact ⟨_,(wrap64 (t236 + 1)),(by rfl),H',⟨by omega⟩,by repeat (first | exact Drawn0.refl _ | apply Drawn0.step)⟩
  ·replace c6 :=Bool.eq_false_iff.mpr c6
   subst c6
   have H1 : (ych.j0 k a0 a1 t236) = some r :=by rw [if_neg (show ¬ (false = true) by decide)] at H;exact H
   clear H
   have H :=H1
   clear H1
   have H' :=Aside0.mk H
   clear H
   go_wp2
   go_meet
   case rel => exact ⟨_,(t236),(by rfl),H',⟨by omega⟩,by repeat (first | exact Drawn0.refl _ | apply Drawn0.step)⟩
 case rest =>
  clear HC5
  try clear p2
  try clear c3
  try clear c6
  try clear p6
  obtain ⟨kq,x8_4,rfl,HA,HJ4,⟨mc4,rfl⟩⟩ :=hcut
  cases kq with
  | zero => exact absurd HA.out (by simp [ych.j0])
  | succ kj4 =>
   have H :=HA.out
   clear HA
   simp only [ych.j0] at H
   by_cases c7 : a1 > 0
   ·rw [if_pos c7] at H
    have c7b0 : decide (0 < a1) = true :=decide_eq_true c7
    clear c7
    by_cases c8 : a0 = 0
    ·obtain ⟨H,c8b0,c8b1⟩ :=ipos c8 H;clear c8
     obtain rfl :=Option.some.inj H
     go_wp2
     go_ret
     exact ⟨by rfl,by repeat (first | exact Drawn0.refl _ | apply Drawn0.step)⟩
    ·obtain ⟨H,c8b0,c8b1⟩ :=ineg c8 H
     obtain rfl :=Option.some.inj H
     go_wp2
     go_ret
     exact ⟨by rfl,by repeat (first | exact Drawn0.refl _ | apply Drawn0.step)⟩
   ·rw [if_neg c7] at H
    have c7b0 : decide (0 < a1) = false :=decide_eq_false c7
    clear c7
    by_cases c9 : a0 = 0
    ·obtain ⟨H,c9b0,c9b1⟩ :=ipos c9 H;clear c9
     obtain rfl :=Option.some.inj H
     go_wp2
     go_ret
     exact ⟨by rfl,by repeat (first | exact Drawn0.refl _ | apply Drawn0.step)⟩
    ·obtain ⟨H,c9b0,c9b1⟩ :=ineg c9 H
     obtain rfl :=Option.some.inj H
     go_wp2
     go_ret
     exact ⟨by rfl,by repeat (first | exact Drawn0.refl _ | apply Drawn0.step)⟩

/-! ### pendulumref09_signed: function 37 -/
def ydb.f (a0 : Int) : Option (Int) :=if a0 ≥ 128 then (some (wrap64 ((wrap64 (a0)) - 256))) else (some (wrap64 (a0)))
theorem ydb.calls (a0 : Int) (r : Int) (w : World) (h : ydb.f a0 = some r) :
  Calls Tryz.prog 37 #[.int .u8 a0] w fun e w' => e = .returned (.int .i64 r) ∧ Drawn0 w w' :=by
 have H : (if a0 ≥ 128 then (some (wrap64 ((wrap64 (a0)) - 256))) else (some (wrap64 (a0)))) = some r :=h
 clear h
 by_cases c2 : a0 ≥ 128
 ·rw [if_pos c2] at H
  have c2b0 : decide (128 ≤ a0) = true :=decide_eq_true c2
  clear c2
  obtain rfl :=Option.some.inj H
  go_enter Tryz.func37,Tryz.ntmps37
  go_wp2
  go_ret
  exact ⟨by rfl,by repeat (exact Drawn0.refl _)⟩
 ·rw [if_neg c2] at H
  have c2b0 : decide (128 ≤ a0) = false :=decide_eq_false c2
  clear c2
  obtain rfl :=Option.some.inj H
  go_enter Tryz.func37,Tryz.ntmps37
  go_wp2
  go_ret
  exact ⟨by rfl,by repeat (exact Drawn0.refl _)⟩

end Go.Proofs.YtnelghpendfdmaaGreatDoor.HFun
