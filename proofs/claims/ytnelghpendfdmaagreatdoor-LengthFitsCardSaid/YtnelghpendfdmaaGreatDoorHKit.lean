-- Written by a program of this session out of Lean's print of the program (after the form of the kit's print.sh, with own turns); Lean checks it.
import Derived.Test.YtnelghpendfdmaaGreatDoorKRowE
namespace Go.Proofs.YtnelghpendfdmaaGreatDoor.HFun
set_option maxRecDepth 100000
set_option maxHeartbeats 16000000
open Go.RowKit Go.Proofs.YtnelghpendfdmaaGreatDoorW.PrintWords Go.Proofs.YtnelghpendfdmaaGreatDoorW.PrintLast Go.Proofs.YtnelghpendfdmaaGreatDoorW.PrintMore
attribute [local go_sem] max2_int min2_int max_two min_two max_three min_three max_four min_four   -- for this text's walks alone
set_option linter.unusedVariables false
set_option linter.unusedSimpArgs false

attribute [local go_sem high] eqA56
/-! ### pendulumkit_Pick: function 30 -/
def pendulumkit_Pick.f (a0 : Int) (a1 : Int) : Option (Int) :=if a1 < 1 then (some 0) else (if a1 = 0 then (none) else (if (Int.tmod a0 a1) < 0 then (some (wrap64 ((Int.tmod a0 a1) + a1))) else (some (Int.tmod a0 a1))))
theorem pendulumkit_Pick.calls (a0 : Int) (a1 : Int) (r : Int) (w : World) (h : pendulumkit_Pick.f a0 a1 = some r) :
  Calls Tryz.prog 30 #[.int .i64 a0,.int .i64 a1] w fun e w' => e = .returned (.int .i64 r) ∧ Drawn0 w w' :=by
 have H : (if a1 < 1 then (some 0) else (if a1 = 0 then (none) else (if (Int.tmod a0 a1) < 0 then (some (wrap64 ((Int.tmod a0 a1) + a1))) else (some (Int.tmod a0 a1))))) = some r :=h
 clear h
 by_cases c3 : a1 < 1
 ·rw [if_pos c3] at H
  have c3b0 : decide (a1 < 1) = true :=decide_eq_true c3
  clear c3
  obtain rfl :=Option.some.inj H
  go_enter Tryz.func30,Tryz.ntmps30
  go_wp2
  go_ret
  exact ⟨by rfl,by repeat (exact Drawn0.refl _)⟩
 ·rw [if_neg c3] at H
  have c3b0 : decide (a1 < 1) = false :=decide_eq_false c3
  clear c3
  by_cases c4 : a1 = 0
  ·rw [if_pos c4] at H
   exact absurd H (by simp)
  ·obtain ⟨H,c4b0,c4b1⟩ :=ineg c4 H
   by_cases c5 : (Int.tmod a0 a1) < 0
   ·rw [if_pos c5] at H
    have c5b0 : decide ((Int.tmod a0 a1) < 0) = true :=decide_eq_true c5
    clear c5
    obtain rfl :=Option.some.inj H
    go_enter Tryz.func30,Tryz.ntmps30
    go_wp2
    go_ret
    exact ⟨by rfl,by repeat (exact Drawn0.refl _)⟩
   ·rw [if_neg c5] at H
    have c5b0 : decide ((Int.tmod a0 a1) < 0) = false :=decide_eq_false c5
    clear c5
    obtain rfl :=Option.some.inj H
    go_enter Tryz.func30,Tryz.ntmps30
    go_wp2
    go_ret
    exact ⟨by rfl,by repeat (exact Drawn0.refl _)⟩

/-! ### pendulumkit_Own: function 14 -/
def ydq.f (l0 : List Int) : Option (List Int) :=(some (([] : List Int) : List Int)).bind fun y241 => (if y241.length + l0.length < 140737488355328 then (some (y241 ++ l0)) else (none))
theorem ydq.calls (A0 : Option Addr) (c0 : Nat) (l0 : List Int) (r : List Int) (w : World) (hr0 : Kd.C (Kd.int .u8) w A0 l0.length l0) (hc0 : l0.length ≤ c0) (h : ydq.f l0 = some r) :
  Calls Tryz.prog 14 #[.slice A0 l0.length c0] w fun e w' => ∃ v0_ : Value,e = .returned (v0_) ∧ Kd.R (Kd.int .u8) 5 w' w.heap.size (fun _ => True) v0_ r ∧ Below w.heap.size w w' :=by
 have HR0 :=Aside0.mk hr0
 have HC0 :=Aside0.mk hc0
 clear hr0 hc0
 have HB :=Aside0.mk (Below.refl w.heap.size w)
 have H : ((some (([] : List Int) : List Int)).bind fun y241 => (if y241.length + l0.length < 140737488355328 then (some (y241 ++ l0)) else (none))) = some r :=h
 clear h
 obtain ⟨y241,hy241⟩ : ∃ y_ : List Int,y_ = (([] : List Int)) :=⟨_,rfl⟩
 replace H : (if y241.length + l0.length < 140737488355328 then (some (y241 ++ l0)) else (none)) = some r :=by (have H2_ :=(Option.bind_some _ _).symm.trans H;rw [hy241];with_reducible exact H2_)
 have Ny241 :=Aside0.mk hy241
 clear hy241
 by_cases c2 : y241.length + l0.length < 140737488355328
 ·rw [if_pos c2] at H
  have LMc2 :=Aside0.mk c2
  clear c2
  obtain ⟨y244,hy244⟩ : ∃ y_ : List Int,y_ = (y241 ++ l0) :=⟨_,rfl⟩
  replace H : (some y244) = some r :=by (rw [hy244];with_reducible exact H)
  have Ny244 :=Aside0.mk hy244
  clear hy244
  obtain rfl :=Option.some.inj H
  go_enter Tryz.func14,Tryz.ntmps14
  go_wp2_with (first | ((with_reducible refine gate_dst (N :=3) rfl ?_);refine Kd.R_lit (Kd.int .u8) _ 5 ?hg (N :=3) ?hd (xs :=([] : List Int)) (inner :=[]) (ok :=fun _ => True) (okp :=fun _ => True) ?hr ?hp (fun _ hk => hk) trivial (Below.refl _ _) (Nat.le_refl _) (by simp) ?_;(case hd => rfl);(case hg => rfl);(case hr => (go_simp;done));(case hp => exact (Reps.none _ _));intro v242 w3 ho4 hb hg_ hnew_;clear hg_ hnew_;(rw [← Ny241.out] at ho4);have n0_ :=Aside0.mk (Kd.R_lower ho4 (below_size (by repeat ((with_reducible exact HB.out)))));have n1_ :=Aside0.mk (below_step (by repeat ((with_reducible exact HB.out))) hb);clear HB;have HO243 :=n0_;have HB :=n1_;clear n0_ n1_;clear hb ho4) | ((with_reducible refine gate_builtin (b :=.append) (xs :=#[.tmp 3,.tmp 4]) rfl ?_);at_builtin;refine Kd.R_append_rows (Kd.int .u8) (w0 :=w) w.heap.size rfl (.tmp 3) (.tmp 4) 25 5 (.int .u8 0) 1 rfl Tryz.underlying25 info5 rfl (by decide) (by omega) v242 y241 l0 _ _ _ (fun _ => True) (fun _ => False) rfl rfl ?aO ?aR (fun _ _ h => h) (fun _ h => h.elim) ?aF ?aB ?aS ?aL ?_;(case aR => repeat (exact (Kd.C_below HR0.out HB.out)));(case aB => exact (by repeat ((with_reducible exact HB.out))));(case aF => exact (fun _ _ => trivial));(case aO => exact (by (with_reducible repeat (fail));exact HO243.out));(case aS => exact (below_size (by repeat ((with_reducible exact HB.out)))));(case aL => have :=LMc2.out;omega);intro v245 w5 ho hb hg hat;rw [← Ny244.out] at ho;have n0_ :=Aside0.mk (hb);have n1_ :=Aside0.mk (ho);clear HB;clear HO243;have HB :=n0_;have HO246 :=n1_;clear n0_ n1_;clear ho hb hg hat))
  go_ret
  exact ⟨_,by rfl,by (with_reducible repeat (fail));exact HO246.out,by repeat ((with_reducible exact HB.out))⟩
 ·rw [if_neg c2] at H
  exact absurd H (by simp)

/-! ### pendulumkit_Ints: function 20 -/
def ycr.l0 : Nat → List Int → List Int → Int → Option (Bool)
 | 0,_,_,_ => none
 | k + 1,x0,x1,x5 => if x5 < (x0.length : Int) then (if 0 ≤ x5 then (if x5 < (x1.length : Int) then (if (rd x0 x5) = (rd x1 x5) then (ycr.l0 k x0 x1 (wrap64 (x5 + 1))) else (some false)) else (none)) else (none)) else (some true)
def ycr.f (k : Nat) (l0 : List Int) (l1 : List Int) : Option (Bool) :=if (l0.length : Int) = (l1.length : Int) then (ycr.l0 k l0 l1 0) else (some false)
theorem ycr.mono_l : ∀ k,(∀ y0 y1 y2,LeO (ycr.l0 k y0 y1 y2) (ycr.l0 (k + 1) y0 y1 y2))
 | 0 => fun _ _ _ r h => by simp [ycr.l0] at h
 | k + 1 => by
  have ih0 :=ycr.mono_l k
  ·intro y0 y1 y2
   unfold ycr.l0
   repeat' first
   | (with_reducible exact ih0 _ _ _)
   | (with_reducible exact LeO.refl _)
   | (with_reducible exact LeO.none _)
   | (with_reducible refine LeO.ite ?_ ?_)
   | (with_reducible refine LeO.bind ?_ (fun _ => ?_))
   | exact ih0 _ _ _
   | exact LeO.none _
   | refine LeO.ite ?_ ?_
   | refine LeO.bind ?_ (fun _ => ?_)
theorem ycr.mono : ∀ a0 a1 k,LeO (ycr.f k a0 a1) (ycr.f (k + 1) a0 a1) :=by
 intro a0 a1 k
 have ih0 :=ycr.mono_l k
 unfold ycr.f
 repeat' first
   | (with_reducible exact ih0 _ _ _)
   | (with_reducible exact LeO.refl _)
   | (with_reducible exact LeO.none _)
   | (with_reducible refine LeO.ite ?_ ?_)
   | (with_reducible refine LeO.bind ?_ (fun _ => ?_))
   | exact ih0 _ _ _
   | exact LeO.none _
   | refine LeO.ite ?_ ?_
   | refine LeO.bind ?_ (fun _ => ?_)
theorem ycr.calls (k : Nat) (A0 : Option Addr) (c0 : Nat) (l0 : List Int) (A1 : Option Addr) (c1 : Nat) (l1 : List Int) (r : Bool) (w : World) (hr0 : Kd.C (Kd.int .i64) w A0 l0.length l0) (hc0 : l0.length ≤ c0) (hr1 : Kd.C (Kd.int .i64) w A1 l1.length l1) (hc1 : l1.length ≤ c1) (h : ycr.f k l0 l1 = some r) :
  Calls Tryz.prog 20 #[.slice A0 l0.length c0,.slice A1 l1.length c1] w fun e w' => e = .returned (.bool r) ∧ Drawn0 w w' :=by
 have HR0 :=Aside0.mk hr0
 have HC0 :=Aside0.mk hc0
 clear hr0 hc0
 have HR1 :=Aside0.mk hr1
 have HC1 :=Aside0.mk hc1
 clear hr1 hc1
 have H : (if (l0.length : Int) = (l1.length : Int) then (ycr.l0 k l0 l1 0) else (some false)) = some r :=h
 clear h
 by_cases c3 : (l0.length : Int) = (l1.length : Int)
 ·rw [if_pos c3] at H
  have c3b0 : ((l0.length : Int) == (l1.length : Int)) = true :=beq_iff_eq.mpr c3
  have c3b1 : ((l0.length : Int) != (l1.length : Int)) = false :=bne_eq_false_iff_eq.mpr c3
  have c3b2 : (l0.length == l1.length) = true :=by (simp at c3 ⊢;omega)
  clear c3
  have H' :=Aside0.mk H
  clear H
  go_enter Tryz.func20,Tryz.ntmps20
  go_wp2
  repeat (go_quiet (fail);try go_wp2)
  go_loopg [5] k (fun kq v5 w' => ∃ (x5_1 : Int),v5 = .int .i64 x5_1 ∧ Aside0 (ycr.l0 kq l0 l1 x5_1 = some r) ∧ Aside0 (kq ≤ k) ∧ Drawn0 w w')
  case atStart => exact ⟨(0),(by rfl),H',⟨Nat.le_refl _⟩,by repeat (exact Drawn0.refl _)⟩
  case round =>
   clear H'
   try clear c1
   try clear c2
   try clear p2
   try clear c3
   try clear c3b0
   try clear c3b1
   try clear c3b2
   obtain ⟨x5_1,rfl,HA,HK1,⟨m1,rfl⟩⟩ :=hrel
   cases gk with
   | zero => exact absurd HA.out (by simp [ycr.l0])
   | succ k1 =>
    have H :=HA.out
    clear HA
    simp only [ycr.l0] at H
    by_cases c4 : x5_1 < (l0.length : Int)
    ·rw [if_pos c4] at H
     have c4b0 : decide (x5_1 < (l0.length : Int)) = true :=decide_eq_true c4
     clear c4
     by_cases c5 : 0 ≤ x5_1
     ·rw [if_pos c5] at H
      have c5b0 : decide (0 ≤ x5_1) = true :=decide_eq_true c5
      clear c5
      by_cases c6 : x5_1 < (l1.length : Int)
      ·rw [if_pos c6] at H
       have c6b0 : decide (x5_1 < (l1.length : Int)) = true :=decide_eq_true c6
       clear c6
       by_cases c7 : (rd l0 x5_1) = (rd l1 x5_1)
       ·rw [if_pos c7] at H
        have c7b0 : ((rd l0 x5_1) == (rd l1 x5_1)) = true :=beq_iff_eq.mpr c7
        have c7b1 : ((rd l0 x5_1) != (rd l1 x5_1)) = false :=bne_eq_false_iff_eq.mpr c7
        clear c7
        have H' :=Aside0.mk H
        clear H
        have p247 : 0 ≤ (x5_1 : Int) :=of_decide_eq_true (by (with_reducible assumption))
        have q247 : x5_1 < (l0.length : Int) :=of_decide_eq_true (by (with_reducible assumption))
        obtain ⟨ad247,e247,hx247_0⟩ :=Kd.at_int HR0.out x5_1 p247 q247
        cases e247
        replace p247 :=eq_true p247
        replace q247 :=eq_true q247
        have p248 : 0 ≤ (x5_1 : Int) :=of_decide_eq_true (by (with_reducible assumption))
        have q248 : x5_1 < (l1.length : Int) :=of_decide_eq_true (by (with_reducible assumption))
        obtain ⟨ad248,e248,hx248_0⟩ :=Kd.at_int HR1.out x5_1 p248 q248
        cases e248
        replace p248 :=eq_true p248
        replace q248 :=eq_true q248
        go_wp2
        repeat (go_quiet (fail);try go_wp2)
        go_roundg k1
        case measure => have :=HK1.out;omega
        case rel => exact ⟨(wrap64 (x5_1 + 1)),(by rfl),H',⟨by have :=HK1.out;omega⟩,by repeat (first | exact Drawn0.refl _ | apply Drawn0.step)⟩
       ·rw [if_neg c7] at H
        have c7b0 : ((rd l0 x5_1) == (rd l1 x5_1)) = false :=beq_eq_false_iff_ne.mpr c7
        have c7b1 : ((rd l0 x5_1) != (rd l1 x5_1)) = true :=bne_iff_ne.mpr c7
        obtain rfl :=Option.some.inj H
        have p247 : 0 ≤ (x5_1 : Int) :=of_decide_eq_true (by (with_reducible assumption))
        have q247 : x5_1 < (l0.length : Int) :=of_decide_eq_true (by (with_reducible assumption))
        obtain ⟨ad247,e247,hx247_0⟩ :=Kd.at_int HR0.out x5_1 p247 q247
        cases e247
        replace p247 :=eq_true p247
        replace q247 :=eq_true q247
        have p248 : 0 ≤ (x5_1 : Int) :=of_decide_eq_true (by (with_reducible assumption))
        have q248 : x5_1 < (l1.length : Int) :=of_decide_eq_true (by (with_reducible assumption))
        obtain ⟨ad248,e248,hx248_0⟩ :=Kd.at_int HR1.out x5_1 p248 q248
        cases e248
        replace p248 :=eq_true p248
        replace q248 :=eq_true q248
        go_wp2
        repeat (go_quiet (fail);try go_wp2)
        go_ret
        exact ⟨by rfl,by repeat (first | exact Drawn0.refl _ | apply Drawn0.step)⟩
      ·rw [if_neg c6] at H
       exact absurd H (by simp)
     ·rw [if_neg c5] at H
      exact absurd H (by simp)
    ·rw [if_neg c4] at H
     have c4b0 : decide (x5_1 < (l0.length : Int)) = false :=decide_eq_false c4
     clear c4
     obtain rfl :=Option.some.inj H
     go_wp2
     repeat (go_quiet (fail);try go_wp2)
     go_ret
     exact ⟨by rfl,by repeat (first | exact Drawn0.refl _ | apply Drawn0.step)⟩
 ·rw [if_neg c3] at H
  have c3b0 : ((l0.length : Int) == (l1.length : Int)) = false :=beq_eq_false_iff_ne.mpr c3
  have c3b1 : ((l0.length : Int) != (l1.length : Int)) = true :=bne_iff_ne.mpr c3
  have c3b2 : (l0.length == l1.length) = false :=by (simp at c3 ⊢;omega)
  obtain rfl :=Option.some.inj H
  go_enter Tryz.func20,Tryz.ntmps20
  go_wp2
  repeat (go_quiet (fail);try go_wp2)
  go_ret
  exact ⟨by rfl,by repeat (exact Drawn0.refl _)⟩

/-! ### pendulumkit_Reqs: function 32 -/
def yda.l0 : Nat → List (S56) → List (S56) → Int → Option (Bool)
 | 0,_,_,_ => none
 | k + 1,x0,x1,x5 => if x5 < (x0.length : Int) then (if 0 ≤ x5 then (if x5 < (x1.length : Int) then (if (!(((zaw x0 x5).f0) == ((zaw x1 x5).f0)) || (!(((zaw x0 x5).f1) == ((zaw x1 x5).f1)) || (!(((zaw x0 x5).f2) == ((zaw x1 x5).f2)) || (!(((zaw x0 x5).f3) == ((zaw x1 x5).f3)))))) = true then (some false) else (yda.l0 k x0 x1 (wrap64 (x5 + 1)))) else (none)) else (none)) else (some true)
def yda.f (k : Nat) (l0 : List (S56)) (l1 : List (S56)) : Option (Bool) :=if (l0.length : Int) = (l1.length : Int) then (yda.l0 k l0 l1 0) else (some false)
theorem yda.mono_l : ∀ k,(∀ y0 y1 y2,LeO (yda.l0 k y0 y1 y2) (yda.l0 (k + 1) y0 y1 y2))
 | 0 => fun _ _ _ r h => by simp [yda.l0] at h
 | k + 1 => by
  have ih0 :=yda.mono_l k
  ·intro y0 y1 y2
   unfold yda.l0
   repeat' first
   | (with_reducible exact ih0 _ _ _)
   | (with_reducible exact LeO.refl _)
   | (with_reducible exact LeO.none _)
   | (with_reducible refine LeO.ite ?_ ?_)
   | (with_reducible refine LeO.bind ?_ (fun _ => ?_))
   | exact ih0 _ _ _
   | exact LeO.none _
   | refine LeO.ite ?_ ?_
   | refine LeO.bind ?_ (fun _ => ?_)
theorem yda.mono : ∀ a0 a1 k,LeO (yda.f k a0 a1) (yda.f (k + 1) a0 a1) :=by
 intro a0 a1 k
 have ih0 :=yda.mono_l k
 unfold yda.f
 repeat' first
   | (with_reducible exact ih0 _ _ _)
   | (with_reducible exact LeO.refl _)
   | (with_reducible exact LeO.none _)
   | (with_reducible refine LeO.ite ?_ ?_)
   | (with_reducible refine LeO.bind ?_ (fun _ => ?_))
   | exact ih0 _ _ _
   | exact LeO.none _
   | refine LeO.ite ?_ ?_
   | refine LeO.bind ?_ (fun _ => ?_)
theorem yda.calls (k : Nat) (A0 : Option Addr) (c0 : Nat) (l0 : List (S56)) (A1 : Option Addr) (c1 : Nat) (l1 : List (S56)) (r : Bool) (w : World) (hr0 : Kd.C k56 w A0 l0.length l0) (hc0 : l0.length ≤ c0) (hr1 : Kd.C k56 w A1 l1.length l1) (hc1 : l1.length ≤ c1) (h : yda.f k l0 l1 = some r) :
  Calls Tryz.prog 32 #[.slice A0 l0.length c0,.slice A1 l1.length c1] w fun e w' => e = .returned (.bool r) ∧ Drawn0 w w' :=by
 have hu56 :=Tryz.underlying56
 have HR0 :=Aside0.mk hr0
 have HC0 :=Aside0.mk hc0
 clear hr0 hc0
 have HR1 :=Aside0.mk hr1
 have HC1 :=Aside0.mk hc1
 clear hr1 hc1
 have H : (if (l0.length : Int) = (l1.length : Int) then (yda.l0 k l0 l1 0) else (some false)) = some r :=h
 clear h
 by_cases c3 : (l0.length : Int) = (l1.length : Int)
 ·rw [if_pos c3] at H
  have c3b0 : ((l0.length : Int) == (l1.length : Int)) = true :=beq_iff_eq.mpr c3
  have c3b1 : ((l0.length : Int) != (l1.length : Int)) = false :=bne_eq_false_iff_eq.mpr c3
  have c3b2 : (l0.length == l1.length) = true :=by (simp at c3 ⊢;omega)
  clear c3
  have H' :=Aside0.mk H
  clear H
  go_enter Tryz.func32,Tryz.ntmps32
  go_wp2
  repeat (go_quiet (fail);try go_wp2)
  go_loopg [5] k (fun kq v5 w' => ∃ (x5_1 : Int),v5 = .int .i64 x5_1 ∧ Aside0 (yda.l0 kq l0 l1 x5_1 = some r) ∧ Aside0 (kq ≤ k) ∧ Drawn0 w w')
  case atStart => exact ⟨(0),(by rfl),H',⟨Nat.le_refl _⟩,by repeat (exact Drawn0.refl _)⟩
  case round =>
   clear H'
   try clear c1
   try clear p2
   try clear c3
   try clear c3b0
   try clear c3b1
   try clear c3b2
   obtain ⟨x5_1,rfl,HA,HK1,⟨m1,rfl⟩⟩ :=hrel
   cases gk with
   | zero => exact absurd HA.out (by simp [yda.l0])
   | succ k1 =>
    have H :=HA.out
    clear HA
    simp only [yda.l0] at H
    by_cases c4 : x5_1 < (l0.length : Int)
    ·rw [if_pos c4] at H
     have c4b0 : decide (x5_1 < (l0.length : Int)) = true :=decide_eq_true c4
     clear c4
     by_cases c5 : 0 ≤ x5_1
     ·rw [if_pos c5] at H
      have c5b0 : decide (0 ≤ x5_1) = true :=decide_eq_true c5
      clear c5
      by_cases c6 : x5_1 < (l1.length : Int)
      ·rw [if_pos c6] at H
       have c6b0 : decide (x5_1 < (l1.length : Int)) = true :=decide_eq_true c6
       clear c6
       by_cases c7 : (!(((zaw l0 x5_1).f0) == ((zaw l1 x5_1).f0)) || (!(((zaw l0 x5_1).f1) == ((zaw l1 x5_1).f1)) || (!(((zaw l0 x5_1).f2) == ((zaw l1 x5_1).f2)) || (!(((zaw l0 x5_1).f3) == ((zaw l1 x5_1).f3)))))) = true
       ·rw [if_pos c7] at H
        have c7b0 : (!(((zaw l0 x5_1).f0) == ((zaw l1 x5_1).f0)) || (!(((zaw l0 x5_1).f1) == ((zaw l1 x5_1).f1)) || (!(((zaw l0 x5_1).f2) == ((zaw l1 x5_1).f2)) || (!(((zaw l0 x5_1).f3) == ((zaw l1 x5_1).f3)))))) = true :=c7
        clear c7
        obtain rfl :=Option.some.inj H
        have p249 : 0 ≤ (x5_1 : Int) :=of_decide_eq_true (by (with_reducible assumption))
        have q249 : x5_1 < (l0.length : Int) :=of_decide_eq_true (by (with_reducible assumption))
        obtain ⟨ad249,e249,hx249_0,hx249_1,hx249_2,hx249_3⟩ :=at_T56 HR0.out x5_1 p249 q249
        cases e249
        replace p249 :=eq_true p249
        replace q249 :=eq_true q249
        have p250 : 0 ≤ (x5_1 : Int) :=of_decide_eq_true (by (with_reducible assumption))
        have q250 : x5_1 < (l1.length : Int) :=of_decide_eq_true (by (with_reducible assumption))
        obtain ⟨ad250,e250,hx250_0,hx250_1,hx250_2,hx250_3⟩ :=at_T56 HR1.out x5_1 p250 q250
        cases e250
        replace p250 :=eq_true p250
        replace q250 :=eq_true q250
        go_wp2
        repeat (go_quiet (fail);try go_wp2)
        go_ret
        exact ⟨by rfl,by repeat (first | exact Drawn0.refl _ | apply Drawn0.step)⟩
       ·rw [if_neg c7] at H
        have c7b0 : (!(((zaw l0 x5_1).f0) == ((zaw l1 x5_1).f0)) || (!(((zaw l0 x5_1).f1) == ((zaw l1 x5_1).f1)) || (!(((zaw l0 x5_1).f2) == ((zaw l1 x5_1).f2)) || (!(((zaw l0 x5_1).f3) == ((zaw l1 x5_1).f3)))))) = false :=by simpa using c7
        clear c7
        have H' :=Aside0.mk H
        clear H
        have p249 : 0 ≤ (x5_1 : Int) :=of_decide_eq_true (by (with_reducible assumption))
        have q249 : x5_1 < (l0.length : Int) :=of_decide_eq_true (by (with_reducible assumption))
        obtain ⟨ad249,e249,hx249_0,hx249_1,hx249_2,hx249_3⟩ :=at_T56 HR0.out x5_1 p249 q249
        cases e249
        replace p249 :=eq_true p249
        replace q249 :=eq_true q249
        have p250 : 0 ≤ (x5_1 : Int) :=of_decide_eq_true (by (with_reducible assumption))
        have q250 : x5_1 < (l1.length : Int) :=of_decide_eq_true (by (with_reducible assumption))
        obtain ⟨ad250,e250,hx250_0,hx250_1,hx250_2,hx250_3⟩ :=at_T56 HR1.out x5_1 p250 q250
        cases e250
        replace p250 :=eq_true p250
        replace q250 :=eq_true q250
        go_wp2
        repeat (go_quiet (fail);try go_wp2)
        go_roundg k1
        case measure => have :=HK1.out;omega
        case rel => exact ⟨(wrap64 (x5_1 + 1)),(by rfl),H',⟨by have :=HK1.out;omega⟩,by repeat (first | exact Drawn0.refl _ | apply Drawn0.step)⟩
      ·rw [if_neg c6] at H
       exact absurd H (by simp)
     ·rw [if_neg c5] at H
      exact absurd H (by simp)
    ·rw [if_neg c4] at H
     have c4b0 : decide (x5_1 < (l0.length : Int)) = false :=decide_eq_false c4
     clear c4
     obtain rfl :=Option.some.inj H
     go_wp2
     repeat (go_quiet (fail);try go_wp2)
     go_ret
     exact ⟨by rfl,by repeat (first | exact Drawn0.refl _ | apply Drawn0.step)⟩
 ·rw [if_neg c3] at H
  have c3b0 : ((l0.length : Int) == (l1.length : Int)) = false :=beq_eq_false_iff_ne.mpr c3
  have c3b1 : ((l0.length : Int) != (l1.length : Int)) = true :=bne_iff_ne.mpr c3
  have c3b2 : (l0.length == l1.length) = false :=by (simp at c3 ⊢;omega)
  obtain rfl :=Option.some.inj H
  go_enter Tryz.func32,Tryz.ntmps32
  go_wp2
  repeat (go_quiet (fail);try go_wp2)
  go_ret
  exact ⟨by rfl,by repeat (exact Drawn0.refl _)⟩

end Go.Proofs.YtnelghpendfdmaaGreatDoor.HFun
