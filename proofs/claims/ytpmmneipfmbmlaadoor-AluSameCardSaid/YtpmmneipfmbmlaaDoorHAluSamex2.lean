-- Written by a program of this session out of Lean's print of the program (after the form of the kit's print.sh, with own turns); Lean checks it.
import Derived.Test.YtpmmneipfmbmlaaDoorHAluSamex0
import Derived.Test.YtpmmneipfmbmlaaDoorHAluSamex1
namespace Go.Proofs.YtpmmneipfmbmlaaDoor.HAluSame
open Go.RowKit Go.Proofs.YtpmmneipfmbmlaaDoorW.PrintWords Go.Proofs.YtpmmneipfmbmlaaDoorW.PrintLast Go.Proofs.YtpmmneipfmbmlaaDoorW.PrintMore
attribute [local go_sem] max2_int min2_int max_two min_two max_three min_three max_four min_four   -- for this text's walks alone
set_option linter.unusedVariables false
set_option linter.unusedSimpArgs false

/-! ### pendulumlaw05_AluSame: function 4 -/
mutual
def pendulumlaw05_AluSame.j0 : Nat → Int → Int → Int → Int → Bool → Option (Bool)
  | 0, _, _, _, _, _ => none
  | k + 1, x0, x1, x2, x3, x55 => if x55 = true then (some false) else (pendulumlaw05_AluSame.l0 k x0 x1 x2 x3 0)
def pendulumlaw05_AluSame.l0 : Nat → Int → Int → Int → Int → Int → Option (Bool)
  | 0, _, _, _, _, _ => none
  | k + 1, x0, x1, x2, x3, x13 => if x13 < 7 then (if x13 = 1 then (pendulumlaw05_AluSame.j2 k x0 x1 x2 x3 x13 true) else (if x13 = 2 then (pendulumlaw05_AluSame.j2 k x0 x1 x2 x3 x13 true) else (pendulumlaw05_AluSame.j2 k x0 x1 x2 x3 x13 (x13 == 3)))) else ((alu_And.f x0 x0).bind fun bt142 => ((alu_Or.f x0 x0).bind fun bt144 => ((alu_Xor.f x0 x0).bind fun bt146 => ((alu_Sub.f x0 x0 false).bind fun bt148 => (if bt142.1 = x0 then (if bt144.1 = x0 then (if bt146.1 = 0 then (if bt148.1 = 0 then (pendulumlaw05_AluSame.j3 k x0 x1 x2 x3 (bt146.2 != 68)) else (pendulumlaw05_AluSame.j3 k x0 x1 x2 x3 true)) else (pendulumlaw05_AluSame.j3 k x0 x1 x2 x3 true)) else (pendulumlaw05_AluSame.j3 k x0 x1 x2 x3 true)) else (pendulumlaw05_AluSame.j3 k x0 x1 x2 x3 true))))))
def pendulumlaw05_AluSame.j2 : Nat → Int → Int → Int → Int → Int → Bool → Option (Bool)
  | 0, _, _, _, _, _, _ => none
  | k + 1, x0, x1, x2, x3, x13, x69 => if x69 = true then (pendulumlaw05_AluSame.l0 k x0 x1 x2 x3 (wrap64 (x13 + 1))) else ((alu_Do.f x13 x0 x1 x2).bind fun bt138 => ((alu_Do.f x13 x1 x0 x2).bind fun bt140 => (if bt138.1 = bt140.1 then (if bt138.2 = bt140.2 then (pendulumlaw05_AluSame.l0 k x0 x1 x2 x3 (wrap64 (x13 + 1))) else (some false)) else (some false))))
def pendulumlaw05_AluSame.j3 : Nat → Int → Int → Int → Int → Bool → Option (Bool)
  | 0, _, _, _, _, _ => none
  | k + 1, x0, x1, x2, x3, x137 => if x137 = true then (some false) else ((alu_Inc.f x0 x2).bind fun bt150 => ((alu_Dec.f bt150.1 bt150.2).bind fun bt152 => ((alu_Do.f x3 x0 x1 x2).bind fun bt154 => ((alu_Do.f (wrap64 ((Int.tmod x3 8) + 8)) x0 x1 x2).bind fun bt156 => (if bt152.1 = x0 then (if (Go.bits .and .u8 bt152.2 1) = (Go.bits .and .u8 x2 1) then (if (Go.bits .and .u8 bt150.2 1) = (Go.bits .and .u8 x2 1) then (if bt154.1 = bt156.1 then (some (bt154.2 == bt156.2)) else (some false)) else (some false)) else (some false)) else (some false))))))
end
def pendulumlaw05_AluSame.f (k : Nat) (a0 : Int) (a1 : Int) (a2 : Int) (a3 : Int) : Option (Bool) := (pendulumlaw05_lives.f).bind fun t134 => (if t134 = true then ((alu_Sub.f a0 a1 false).bind fun bt135 => ((alu_Cp.f a0 a1).bind fun t137 => (if (Go.bits .andNot .u8 t137 40) = (Go.bits .andNot .u8 bt135.2 40) then (pendulumlaw05_AluSame.j0 k a0 a1 a2 a3 ((Go.bits .and .u8 t137 40) != (Go.bits .and .u8 a1 40))) else (pendulumlaw05_AluSame.j0 k a0 a1 a2 a3 true)))) else (some false))
theorem pendulumlaw05_AluSame.mono_l : ∀ k, (∀ y0 y1 y2 y3 y4, LeO (pendulumlaw05_AluSame.j0 k y0 y1 y2 y3 y4) (pendulumlaw05_AluSame.j0 (k + 1) y0 y1 y2 y3 y4)) ∧ (∀ y0 y1 y2 y3 y4, LeO (pendulumlaw05_AluSame.l0 k y0 y1 y2 y3 y4) (pendulumlaw05_AluSame.l0 (k + 1) y0 y1 y2 y3 y4)) ∧ (∀ y0 y1 y2 y3 y4 y5, LeO (pendulumlaw05_AluSame.j2 k y0 y1 y2 y3 y4 y5) (pendulumlaw05_AluSame.j2 (k + 1) y0 y1 y2 y3 y4 y5)) ∧ (∀ y0 y1 y2 y3 y4, LeO (pendulumlaw05_AluSame.j3 k y0 y1 y2 y3 y4) (pendulumlaw05_AluSame.j3 (k + 1) y0 y1 y2 y3 y4))
  | 0 => ⟨fun _ _ _ _ _ r h => by simp [pendulumlaw05_AluSame.j0] at h, fun _ _ _ _ _ r h => by simp [pendulumlaw05_AluSame.l0] at h, fun _ _ _ _ _ _ r h => by simp [pendulumlaw05_AluSame.j2] at h, fun _ _ _ _ _ r h => by simp [pendulumlaw05_AluSame.j3] at h⟩
  | k + 1 => by
    obtain ⟨ih0, ih1, ih2, ih3⟩ := pendulumlaw05_AluSame.mono_l k
    refine ⟨?_, ?_, ?_, ?_⟩
    · intro y0 y1 y2 y3 y4
      unfold pendulumlaw05_AluSame.j0
      repeat' first
      | (with_reducible exact ih0 _ _ _ _ _)
      | (with_reducible exact ih1 _ _ _ _ _)
      | (with_reducible exact ih2 _ _ _ _ _ _)
      | (with_reducible exact ih3 _ _ _ _ _)
      | (with_reducible exact LeO.refl _)
      | (with_reducible exact LeO.none _)
      | (with_reducible refine LeO.ite ?_ ?_)
      | (with_reducible refine LeO.bind ?_ (fun _ => ?_))
      | exact ih0 _ _ _ _ _
      | exact ih1 _ _ _ _ _
      | exact ih2 _ _ _ _ _ _
      | exact ih3 _ _ _ _ _
      | exact LeO.none _
      | refine LeO.ite ?_ ?_
      | refine LeO.bind ?_ (fun _ => ?_)
    · intro y0 y1 y2 y3 y4
      unfold pendulumlaw05_AluSame.l0
      repeat' first
      | (with_reducible exact ih0 _ _ _ _ _)
      | (with_reducible exact ih1 _ _ _ _ _)
      | (with_reducible exact ih2 _ _ _ _ _ _)
      | (with_reducible exact ih3 _ _ _ _ _)
      | (with_reducible exact LeO.refl _)
      | (with_reducible exact LeO.none _)
      | (with_reducible refine LeO.ite ?_ ?_)
      | (with_reducible refine LeO.bind ?_ (fun _ => ?_))
      | exact ih0 _ _ _ _ _
      | exact ih1 _ _ _ _ _
      | exact ih2 _ _ _ _ _ _
      | exact ih3 _ _ _ _ _
      | exact LeO.none _
      | refine LeO.ite ?_ ?_
      | refine LeO.bind ?_ (fun _ => ?_)
    · intro y0 y1 y2 y3 y4 y5
      unfold pendulumlaw05_AluSame.j2
      repeat' first
      | (with_reducible exact ih0 _ _ _ _ _)
      | (with_reducible exact ih1 _ _ _ _ _)
      | (with_reducible exact ih2 _ _ _ _ _ _)
      | (with_reducible exact ih3 _ _ _ _ _)
      | (with_reducible exact LeO.refl _)
      | (with_reducible exact LeO.none _)
      | (with_reducible refine LeO.ite ?_ ?_)
      | (with_reducible refine LeO.bind ?_ (fun _ => ?_))
      | exact ih0 _ _ _ _ _
      | exact ih1 _ _ _ _ _
      | exact ih2 _ _ _ _ _ _
      | exact ih3 _ _ _ _ _
      | exact LeO.none _
      | refine LeO.ite ?_ ?_
      | refine LeO.bind ?_ (fun _ => ?_)
    · intro y0 y1 y2 y3 y4
      unfold pendulumlaw05_AluSame.j3
      repeat' first
      | (with_reducible exact ih0 _ _ _ _ _)
      | (with_reducible exact ih1 _ _ _ _ _)
      | (with_reducible exact ih2 _ _ _ _ _ _)
      | (with_reducible exact ih3 _ _ _ _ _)
      | (with_reducible exact LeO.refl _)
      | (with_reducible exact LeO.none _)
      | (with_reducible refine LeO.ite ?_ ?_)
      | (with_reducible refine LeO.bind ?_ (fun _ => ?_))
      | exact ih0 _ _ _ _ _
      | exact ih1 _ _ _ _ _
      | exact ih2 _ _ _ _ _ _
      | exact ih3 _ _ _ _ _
      | exact LeO.none _
      | refine LeO.ite ?_ ?_
      | refine LeO.bind ?_ (fun _ => ?_)
theorem pendulumlaw05_AluSame.mono : ∀ a0 a1 a2 a3 k, LeO (pendulumlaw05_AluSame.f k a0 a1 a2 a3) (pendulumlaw05_AluSame.f (k + 1) a0 a1 a2 a3) := by
  intro a0 a1 a2 a3 k
  obtain ⟨ih0, ih1, ih2, ih3⟩ := pendulumlaw05_AluSame.mono_l k
  unfold pendulumlaw05_AluSame.f
  repeat' first
      | (with_reducible exact ih0 _ _ _ _ _)
      | (with_reducible exact ih1 _ _ _ _ _)
      | (with_reducible exact ih2 _ _ _ _ _ _)
      | (with_reducible exact ih3 _ _ _ _ _)
      | (with_reducible exact LeO.refl _)
      | (with_reducible exact LeO.none _)
      | (with_reducible refine LeO.ite ?_ ?_)
      | (with_reducible refine LeO.bind ?_ (fun _ => ?_))
      | exact ih0 _ _ _ _ _
      | exact ih1 _ _ _ _ _
      | exact ih2 _ _ _ _ _ _
      | exact ih3 _ _ _ _ _
      | exact LeO.none _
      | refine LeO.ite ?_ ?_
      | refine LeO.bind ?_ (fun _ => ?_)
set_option maxHeartbeats 8000000 in
set_option maxRecDepth 100000 in
theorem pendulumlaw05_AluSame.calls (k : Nat) (a0 : Int) (a1 : Int) (a2 : Int) (a3 : Int) (r : Bool) (w : World) (h : pendulumlaw05_AluSame.f k a0 a1 a2 a3 = some r) (hT : Table w) :
    Calls Tryd.prog 4 #[.int .u8 a0, .int .u8 a1, .int .u8 a2, .int .i64 a3] w fun e w' => e = .returned (.bool r) ∧ Drawn0 w w' := by
  have H : ((pendulumlaw05_lives.f).bind fun t134 => (if t134 = true then ((alu_Sub.f a0 a1 false).bind fun bt135 => ((alu_Cp.f a0 a1).bind fun t137 => (if (Go.bits .andNot .u8 t137 40) = (Go.bits .andNot .u8 bt135.2 40) then (pendulumlaw05_AluSame.j0 k a0 a1 a2 a3 ((Go.bits .and .u8 t137 40) != (Go.bits .and .u8 a1 40))) else (pendulumlaw05_AluSame.j0 k a0 a1 a2 a3 true)))) else (some false))) = some r := h
  clear h
  replace H := Option.bind_eq_some_iff.mp H
  obtain ⟨t134, A50, H⟩ := H
  replace H : (if t134 = true then ((alu_Sub.f a0 a1 false).bind fun bt135 => ((alu_Cp.f a0 a1).bind fun t137 => (if (Go.bits .andNot .u8 t137 40) = (Go.bits .andNot .u8 bt135.2 40) then (pendulumlaw05_AluSame.j0 k a0 a1 a2 a3 ((Go.bits .and .u8 t137 40) != (Go.bits .and .u8 a1 40))) else (pendulumlaw05_AluSame.j0 k a0 a1 a2 a3 true)))) else (some false)) = some r := H
  have A5 := Aside0.mk A50
  clear A50
  by_cases c6 : t134 = true
  · subst c6
    have H1 : ((alu_Sub.f a0 a1 false).bind fun bt135 => ((alu_Cp.f a0 a1).bind fun t137 => (if (Go.bits .andNot .u8 t137 40) = (Go.bits .andNot .u8 bt135.2 40) then (pendulumlaw05_AluSame.j0 k a0 a1 a2 a3 ((Go.bits .and .u8 t137 40) != (Go.bits .and .u8 a1 40))) else (pendulumlaw05_AluSame.j0 k a0 a1 a2 a3 true)))) = some r := by rw [if_pos rfl] at H; exact H
    clear H
    have H := H1
    clear H1
    replace H := Option.bind_eq_some_iff.mp H
    obtain ⟨⟨t135, t136⟩, A70, H⟩ := H
    replace H : ((alu_Cp.f a0 a1).bind fun t137 => (if (Go.bits .andNot .u8 t137 40) = (Go.bits .andNot .u8 t136 40) then (pendulumlaw05_AluSame.j0 k a0 a1 a2 a3 ((Go.bits .and .u8 t137 40) != (Go.bits .and .u8 a1 40))) else (pendulumlaw05_AluSame.j0 k a0 a1 a2 a3 true))) = some r := H
    have A7 := Aside0.mk A70
    clear A70
    replace H := Option.bind_eq_some_iff.mp H
    obtain ⟨t137, A80, H⟩ := H
    replace H : (if (Go.bits .andNot .u8 t137 40) = (Go.bits .andNot .u8 t136 40) then (pendulumlaw05_AluSame.j0 k a0 a1 a2 a3 ((Go.bits .and .u8 t137 40) != (Go.bits .and .u8 a1 40))) else (pendulumlaw05_AluSame.j0 k a0 a1 a2 a3 true)) = some r := H
    have A8 := Aside0.mk A80
    clear A80
    have HC9 := Aside0.mk H
    clear H
    go_enter Tryd.func4, Tryd.ntmps4
    go_upto_region 6 with (first | ((with_reducible refine gate_callee (f := 5) rfl ?_); refine goesL_ (some 29) rfl rfl Tryd.func5 (by kernel_rfl) rfl #[] rfl (by (try simp only [List.map_toArray, List.map_cons, List.map_nil]); first | done | rfl | (simp only [List.length_drop, List.length_take]; rfl)) ?_; (with_reducible refine (pendulumlaw05_lives.calls  true _ A5.out).mono ?_); rintro e w' ⟨rfl, ⟨nd, rfl⟩⟩; refine ⟨_, rfl, ?_⟩) | ((with_reducible refine gate_callee (f := 8) rfl ?_); refine goesL_ (some 34) rfl rfl Tryd.func8 (by kernel_rfl) rfl #[.int .u8 a0, .int .u8 a1, .bool false] rfl (by (try simp only [List.map_toArray, List.map_cons, List.map_nil]); first | done | rfl | (simp only [List.length_drop, List.length_take]; rfl)) ?_; (with_reducible refine (alu_Sub.calls a0 a1 false t135 t136 _ A7.out).mono ?_); rintro e w' ⟨rfl, ⟨nd, rfl⟩⟩; refine ⟨_, rfl, ?_⟩) | ((with_reducible refine gate_callee (f := 10) rfl ?_); refine goesL_ (some 39) rfl rfl Tryd.func10 (by kernel_rfl) rfl #[.int .u8 a0, .int .u8 a1] rfl (by (try simp only [List.map_toArray, List.map_cons, List.map_nil]); first | done | rfl | (simp only [List.length_drop, List.length_take]; rfl)) ?_; (with_reducible refine (alu_Cp.calls a0 a1 t137 _ A8.out).mono ?_); rintro e w' ⟨rfl, ⟨nd, rfl⟩⟩; refine ⟨_, rfl, ?_⟩))
    (try simp only [Act.put, List.setIfInBounds_toArray, List.set_cons_zero, List.set_cons_succ])
    go_cut [55] (fun v55 wc => ∃ (kq : Nat) (x55_8 : Bool), v55 = .bool x55_8 ∧ Aside0 (pendulumlaw05_AluSame.j0 kq a0 a1 a2 a3 x55_8 = some r) ∧ Aside0 (kq ≤ k) ∧ Drawn0 w wc)
    case first =>
      have H := HC9.out
      clear HC9
      by_cases c10 : (Go.bits .andNot .u8 t137 40) = (Go.bits .andNot .u8 t136 40)
      · rw [if_pos c10] at H
        have c10b0 : ((Go.bits .andNot .u8 t137 40) == (Go.bits .andNot .u8 t136 40)) = true := beq_iff_eq.mpr c10
        have c10b1 : ((Go.bits .andNot .u8 t137 40) != (Go.bits .andNot .u8 t136 40)) = false := bne_eq_false_iff_eq.mpr c10
        clear c10
        (first | rw [c10b0] | (simp only [i64_w, i32_w]; rw [c10b0]) | skip)
        have H' := Aside0.mk H
        clear H
        go_wp2
        go_meet
        case rel => exact ⟨_, (((Go.bits .and .u8 t137 40) != (Go.bits .and .u8 a1 40))), (by first | rfl | (simp; done) | (simp [*]; done)), H', ⟨by first | omega | exact Nat.le_refl _⟩, by repeat (first | exact Drawn0.refl _ | apply Drawn0.step)⟩
      · rw [if_neg c10] at H
        have c10b0 : ((Go.bits .andNot .u8 t137 40) == (Go.bits .andNot .u8 t136 40)) = false := beq_eq_false_iff_ne.mpr c10
        have c10b1 : ((Go.bits .andNot .u8 t137 40) != (Go.bits .andNot .u8 t136 40)) = true := bne_iff_ne.mpr c10
        (first | rw [c10b0] | (simp only [i64_w, i32_w]; rw [c10b0]) | skip)
        have H' := Aside0.mk H
        clear H
        go_wp2
        go_meet
        case rel => exact ⟨_, (true), (by first | rfl | (simp; done) | (simp [*]; done)), H', ⟨by first | omega | exact Nat.le_refl _⟩, by repeat (first | exact Drawn0.refl _ | apply Drawn0.step)⟩
    case rest =>
      clear HC9
      try clear c1
      try clear p2
      try clear c4
      try clear c5
      try clear c6
      try clear c8
      try clear c10
      try clear c10b0
      try clear c10b1
      obtain ⟨kq, x55_8, rfl, HA, HJ8, ⟨mc8, rfl⟩⟩ := hcut
      cases kq with
      | zero => exact absurd HA.out (by simp [pendulumlaw05_AluSame.j0])
      | succ kj8 =>
        have H := HA.out
        clear HA
        simp only [pendulumlaw05_AluSame.j0] at H
        by_cases c11 : x55_8 = true
        · subst c11
          have H1 : (some false) = some r := by rw [if_pos rfl] at H; exact H
          clear H
          have H := H1
          clear H1
          obtain rfl := Option.some.inj H
          go_wp2
          go_ret
          exact ⟨by first | rfl | (simp; done) | (simp [*]; done), by repeat (first | exact Drawn0.refl _ | apply Drawn0.step)⟩
        · replace c11 := Bool.eq_false_iff.mpr c11
          subst c11
          have H1 : (pendulumlaw05_AluSame.l0 kj8 a0 a1 a2 a3 0) = some r := by rw [if_neg (show ¬ (false = true) by decide)] at H; exact H
          clear H
          have H := H1
          clear H1
          have H' := Aside0.mk H
          clear H
          go_wp2
          go_loopg [13] kj8 (fun kq v13 w' => ∃ (x13_2 : Int), v13 = .int .i64 x13_2 ∧ Aside0 (pendulumlaw05_AluSame.l0 kq a0 a1 a2 a3 x13_2 = some r) ∧ Aside0 (kq ≤ kj8) ∧ Drawn0 w w')
          case atStart => exact ⟨(0), (by first | rfl | (simp; done) | (simp [*]; done)), H', ⟨Nat.le_refl _⟩, by repeat (first | exact Drawn0.refl _ | apply Drawn0.step)⟩
          case round =>
            clear H'
            try clear c1
            try clear p2
            try clear c4
            try clear c5
            try clear c6
            try clear c8
            try clear c10
            try clear c10b0
            try clear c10b1
            try clear c11
            try clear p2
            obtain ⟨x13_2, rfl, HA, HK2, ⟨m2, rfl⟩⟩ := hrel
            cases gk with
            | zero => exact absurd HA.out (by simp [pendulumlaw05_AluSame.l0])
            | succ k2 =>
              have H := HA.out
              clear HA
              simp only [pendulumlaw05_AluSame.l0] at H
              by_cases c12 : x13_2 < 7
              · rw [if_pos c12] at H
                have c12b0 : decide (x13_2 < 7) = true := decide_eq_true c12
                clear c12
                have HC13 := Aside0.mk H
                clear H
                go_upto_region 11 with (fail)
                go_cut [69] (fun v69 wc => ∃ (kq : Nat) (x69_12 : Bool), v69 = .bool x69_12 ∧ Aside0 (pendulumlaw05_AluSame.j2 kq a0 a1 a2 a3 x13_2 x69_12 = some r) ∧ Aside0 (kq ≤ k2) ∧ Drawn0 w wc)
                case first =>
                  have H := HC13.out
                  clear HC13
                  by_cases c14 : x13_2 = 1
                  · rw [if_pos c14] at H
                    have c14b0 : (x13_2 == 1) = true := beq_iff_eq.mpr c14
                    have c14b1 : (x13_2 != 1) = false := bne_eq_false_iff_eq.mpr c14
                    clear c14
                    (first | rw [c14b0] | (simp only [i64_w, i32_w]; rw [c14b0]) | skip)
                    have H' := Aside0.mk H
                    clear H
                    go_wp2
                    go_meet
                    case rel => exact ⟨_, (true), (by first | rfl | (simp; done) | (simp [*]; done)), H', ⟨by have := HJ8.out; have := HK2.out; first | omega | exact Nat.le_refl _⟩, by repeat (first | exact Drawn0.refl _ | apply Drawn0.step)⟩
                  · rw [if_neg c14] at H
                    have c14b0 : (x13_2 == 1) = false := beq_eq_false_iff_ne.mpr c14
                    have c14b1 : (x13_2 != 1) = true := bne_iff_ne.mpr c14
                    (first | rw [c14b0] | (simp only [i64_w, i32_w]; rw [c14b0]) | skip)
                    by_cases c15 : x13_2 = 2
                    · rw [if_pos c15] at H
                      have c15b0 : (x13_2 == 2) = true := beq_iff_eq.mpr c15
                      have c15b1 : (x13_2 != 2) = false := bne_eq_false_iff_eq.mpr c15
                      clear c15
                      have H' := Aside0.mk H
                      clear H
                      go_wp2
                      go_meet
                      case rel => exact ⟨_, (true), (by first | rfl | (simp; done) | (simp [*]; done)), H', ⟨by have := HJ8.out; have := HK2.out; first | omega | exact Nat.le_refl _⟩, by repeat (first | exact Drawn0.refl _ | apply Drawn0.step)⟩
                    · rw [if_neg c15] at H
                      have c15b0 : (x13_2 == 2) = false := beq_eq_false_iff_ne.mpr c15
                      have c15b1 : (x13_2 != 2) = true := bne_iff_ne.mpr c15
                      have H' := Aside0.mk H
                      clear H
                      go_wp2
                      go_meet
                      case rel => exact ⟨_, ((x13_2 == 3)), (by first | rfl | (simp; done) | (simp [*]; done)), H', ⟨by have := HJ8.out; have := HK2.out; first | omega | exact Nat.le_refl _⟩, by repeat (first | exact Drawn0.refl _ | apply Drawn0.step)⟩
                case rest =>
                  clear HC13
                  try clear c1
                  try clear p2
                  try clear c4
                  try clear c5
                  try clear c6
                  try clear c8
                  try clear c10
                  try clear c10b0
                  try clear c10b1
                  try clear c11
                  try clear c12
                  try clear c12b0
                  try clear c14
                  try clear c14b0
                  try clear c14b1
                  try clear c15
                  try clear c15b0
                  try clear c15b1
                  try clear p2
                  obtain ⟨kq, x69_12, rfl, HA, HJ12, ⟨mc12, rfl⟩⟩ := hcut
                  cases kq with
                  | zero => exact absurd HA.out (by simp [pendulumlaw05_AluSame.j2])
                  | succ kj12 =>
                    have H := HA.out
                    clear HA
                    simp only [pendulumlaw05_AluSame.j2] at H
                    by_cases c16 : x69_12 = true
                    · subst c16
                      have H1 : (pendulumlaw05_AluSame.l0 kj12 a0 a1 a2 a3 (wrap64 (x13_2 + 1))) = some r := by rw [if_pos rfl] at H; exact H
                      clear H
                      have H := H1
                      clear H1
                      have H' := Aside0.mk H
                      clear H
                      go_wp2
                      go_roundg kj12
                      case measure => have := HJ8.out; have := HK2.out; have := HJ12.out; omega
                      case rel => exact ⟨(wrap64 (x13_2 + 1)), (by first | rfl | (simp; done) | (simp [*]; done)), H', ⟨by have := HJ8.out; have := HK2.out; have := HJ12.out; omega⟩, by repeat (first | exact Drawn0.refl _ | apply Drawn0.step)⟩
                    · replace c16 := Bool.eq_false_iff.mpr c16
                      subst c16
                      have H1 : ((alu_Do.f x13_2 a0 a1 a2).bind fun bt138 => ((alu_Do.f x13_2 a1 a0 a2).bind fun bt140 => (if bt138.1 = bt140.1 then (if bt138.2 = bt140.2 then (pendulumlaw05_AluSame.l0 kj12 a0 a1 a2 a3 (wrap64 (x13_2 + 1))) else (some false)) else (some false)))) = some r := by rw [if_neg (show ¬ (false = true) by decide)] at H; exact H
                      clear H
                      have H := H1
                      clear H1
                      replace H := Option.bind_eq_some_iff.mp H
                      obtain ⟨⟨t138, t139⟩, A170, H⟩ := H
                      replace H : ((alu_Do.f x13_2 a1 a0 a2).bind fun bt140 => (if t138 = bt140.1 then (if t139 = bt140.2 then (pendulumlaw05_AluSame.l0 kj12 a0 a1 a2 a3 (wrap64 (x13_2 + 1))) else (some false)) else (some false))) = some r := H
                      have A17 := Aside0.mk A170
                      clear A170
                      replace H := Option.bind_eq_some_iff.mp H
                      obtain ⟨⟨t140, t141⟩, A180, H⟩ := H
                      replace H : (if t138 = t140 then (if t139 = t141 then (pendulumlaw05_AluSame.l0 kj12 a0 a1 a2 a3 (wrap64 (x13_2 + 1))) else (some false)) else (some false)) = some r := H
                      have A18 := Aside0.mk A180
                      clear A180
                      by_cases c19 : t138 = t140
                      · rw [if_pos c19] at H
                        have c19b0 : (t138 == t140) = true := beq_iff_eq.mpr c19
                        have c19b1 : (t138 != t140) = false := bne_eq_false_iff_eq.mpr c19
                        clear c19
                        by_cases c20 : t139 = t141
                        · rw [if_pos c20] at H
                          have c20b0 : (t139 == t141) = true := beq_iff_eq.mpr c20
                          have c20b1 : (t139 != t141) = false := bne_eq_false_iff_eq.mpr c20
                          clear c20
                          have H' := Aside0.mk H
                          clear H
                          go_wp2_with (first | ((with_reducible refine gate_callee (f := 16) rfl ?_); refine goesL_ (some 75) rfl rfl Tryd.func16 (by kernel_rfl) rfl #[.int .i64 x13_2, .int .u8 a0, .int .u8 a1, .int .u8 a2] rfl (by (try simp only [List.map_toArray, List.map_cons, List.map_nil]); first | done | rfl | (simp only [List.length_drop, List.length_take]; rfl)) ?_; (with_reducible refine (alu_Do.calls x13_2 a0 a1 a2 t138 t139 _ A17.out (by first | exact Table.drewN hT _ | exact hT)).mono ?_); rintro e w' ⟨rfl, ⟨nd, rfl⟩⟩; refine ⟨_, rfl, ?_⟩) | ((with_reducible refine gate_callee (f := 16) rfl ?_); refine goesL_ (some 83) rfl rfl Tryd.func16 (by kernel_rfl) rfl #[.int .i64 x13_2, .int .u8 a1, .int .u8 a0, .int .u8 a2] rfl (by (try simp only [List.map_toArray, List.map_cons, List.map_nil]); first | done | rfl | (simp only [List.length_drop, List.length_take]; rfl)) ?_; (with_reducible refine (alu_Do.calls x13_2 a1 a0 a2 t140 t141 _ A18.out (by first | exact Table.drewN hT _ | exact hT)).mono ?_); rintro e w' ⟨rfl, ⟨nd, rfl⟩⟩; refine ⟨_, rfl, ?_⟩))
                          go_roundg kj12
                          case measure => have := HJ8.out; have := HK2.out; have := HJ12.out; omega
                          case rel => exact ⟨(wrap64 (x13_2 + 1)), (by first | rfl | (simp; done) | (simp [*]; done)), H', ⟨by have := HJ8.out; have := HK2.out; have := HJ12.out; omega⟩, by repeat (first | exact Drawn0.refl _ | apply Drawn0.step)⟩
                        · rw [if_neg c20] at H
                          have c20b0 : (t139 == t141) = false := beq_eq_false_iff_ne.mpr c20
                          have c20b1 : (t139 != t141) = true := bne_iff_ne.mpr c20
                          obtain rfl := Option.some.inj H
                          go_wp2_with (first | ((with_reducible refine gate_callee (f := 16) rfl ?_); refine goesL_ (some 75) rfl rfl Tryd.func16 (by kernel_rfl) rfl #[.int .i64 x13_2, .int .u8 a0, .int .u8 a1, .int .u8 a2] rfl (by (try simp only [List.map_toArray, List.map_cons, List.map_nil]); first | done | rfl | (simp only [List.length_drop, List.length_take]; rfl)) ?_; (with_reducible refine (alu_Do.calls x13_2 a0 a1 a2 t138 t139 _ A17.out (by first | exact Table.drewN hT _ | exact hT)).mono ?_); rintro e w' ⟨rfl, ⟨nd, rfl⟩⟩; refine ⟨_, rfl, ?_⟩) | ((with_reducible refine gate_callee (f := 16) rfl ?_); refine goesL_ (some 83) rfl rfl Tryd.func16 (by kernel_rfl) rfl #[.int .i64 x13_2, .int .u8 a1, .int .u8 a0, .int .u8 a2] rfl (by (try simp only [List.map_toArray, List.map_cons, List.map_nil]); first | done | rfl | (simp only [List.length_drop, List.length_take]; rfl)) ?_; (with_reducible refine (alu_Do.calls x13_2 a1 a0 a2 t140 t141 _ A18.out (by first | exact Table.drewN hT _ | exact hT)).mono ?_); rintro e w' ⟨rfl, ⟨nd, rfl⟩⟩; refine ⟨_, rfl, ?_⟩))
                          go_ret
                          exact ⟨by first | rfl | (simp; done) | (simp [*]; done), by repeat (first | exact Drawn0.refl _ | apply Drawn0.step)⟩
                      · rw [if_neg c19] at H
                        have c19b0 : (t138 == t140) = false := beq_eq_false_iff_ne.mpr c19
                        have c19b1 : (t138 != t140) = true := bne_iff_ne.mpr c19
                        obtain rfl := Option.some.inj H
                        go_wp2_with (first | ((with_reducible refine gate_callee (f := 16) rfl ?_); refine goesL_ (some 75) rfl rfl Tryd.func16 (by kernel_rfl) rfl #[.int .i64 x13_2, .int .u8 a0, .int .u8 a1, .int .u8 a2] rfl (by (try simp only [List.map_toArray, List.map_cons, List.map_nil]); first | done | rfl | (simp only [List.length_drop, List.length_take]; rfl)) ?_; (with_reducible refine (alu_Do.calls x13_2 a0 a1 a2 t138 t139 _ A17.out (by first | exact Table.drewN hT _ | exact hT)).mono ?_); rintro e w' ⟨rfl, ⟨nd, rfl⟩⟩; refine ⟨_, rfl, ?_⟩) | ((with_reducible refine gate_callee (f := 16) rfl ?_); refine goesL_ (some 83) rfl rfl Tryd.func16 (by kernel_rfl) rfl #[.int .i64 x13_2, .int .u8 a1, .int .u8 a0, .int .u8 a2] rfl (by (try simp only [List.map_toArray, List.map_cons, List.map_nil]); first | done | rfl | (simp only [List.length_drop, List.length_take]; rfl)) ?_; (with_reducible refine (alu_Do.calls x13_2 a1 a0 a2 t140 t141 _ A18.out (by first | exact Table.drewN hT _ | exact hT)).mono ?_); rintro e w' ⟨rfl, ⟨nd, rfl⟩⟩; refine ⟨_, rfl, ?_⟩))
                        go_ret
                        exact ⟨by first | rfl | (simp; done) | (simp [*]; done), by repeat (first | exact Drawn0.refl _ | apply Drawn0.step)⟩
              · rw [if_neg c12] at H
                have c12b0 : decide (x13_2 < 7) = false := decide_eq_false c12
                clear c12
                replace H := Option.bind_eq_some_iff.mp H
                obtain ⟨⟨t142, t143⟩, A210, H⟩ := H
                replace H : ((alu_Or.f a0 a0).bind fun bt144 => ((alu_Xor.f a0 a0).bind fun bt146 => ((alu_Sub.f a0 a0 false).bind fun bt148 => (if t142 = a0 then (if bt144.1 = a0 then (if bt146.1 = 0 then (if bt148.1 = 0 then (pendulumlaw05_AluSame.j3 k2 a0 a1 a2 a3 (bt146.2 != 68)) else (pendulumlaw05_AluSame.j3 k2 a0 a1 a2 a3 true)) else (pendulumlaw05_AluSame.j3 k2 a0 a1 a2 a3 true)) else (pendulumlaw05_AluSame.j3 k2 a0 a1 a2 a3 true)) else (pendulumlaw05_AluSame.j3 k2 a0 a1 a2 a3 true))))) = some r := H
                have A21 := Aside0.mk A210
                clear A210
                replace H := Option.bind_eq_some_iff.mp H
                obtain ⟨⟨t144, t145⟩, A220, H⟩ := H
                replace H : ((alu_Xor.f a0 a0).bind fun bt146 => ((alu_Sub.f a0 a0 false).bind fun bt148 => (if t142 = a0 then (if t144 = a0 then (if bt146.1 = 0 then (if bt148.1 = 0 then (pendulumlaw05_AluSame.j3 k2 a0 a1 a2 a3 (bt146.2 != 68)) else (pendulumlaw05_AluSame.j3 k2 a0 a1 a2 a3 true)) else (pendulumlaw05_AluSame.j3 k2 a0 a1 a2 a3 true)) else (pendulumlaw05_AluSame.j3 k2 a0 a1 a2 a3 true)) else (pendulumlaw05_AluSame.j3 k2 a0 a1 a2 a3 true)))) = some r := H
                have A22 := Aside0.mk A220
                clear A220
                replace H := Option.bind_eq_some_iff.mp H
                obtain ⟨⟨t146, t147⟩, A230, H⟩ := H
                replace H : ((alu_Sub.f a0 a0 false).bind fun bt148 => (if t142 = a0 then (if t144 = a0 then (if t146 = 0 then (if bt148.1 = 0 then (pendulumlaw05_AluSame.j3 k2 a0 a1 a2 a3 (t147 != 68)) else (pendulumlaw05_AluSame.j3 k2 a0 a1 a2 a3 true)) else (pendulumlaw05_AluSame.j3 k2 a0 a1 a2 a3 true)) else (pendulumlaw05_AluSame.j3 k2 a0 a1 a2 a3 true)) else (pendulumlaw05_AluSame.j3 k2 a0 a1 a2 a3 true))) = some r := H
                have A23 := Aside0.mk A230
                clear A230
                replace H := Option.bind_eq_some_iff.mp H
                obtain ⟨⟨t148, t149⟩, A240, H⟩ := H
                replace H : (if t142 = a0 then (if t144 = a0 then (if t146 = 0 then (if t148 = 0 then (pendulumlaw05_AluSame.j3 k2 a0 a1 a2 a3 (t147 != 68)) else (pendulumlaw05_AluSame.j3 k2 a0 a1 a2 a3 true)) else (pendulumlaw05_AluSame.j3 k2 a0 a1 a2 a3 true)) else (pendulumlaw05_AluSame.j3 k2 a0 a1 a2 a3 true)) else (pendulumlaw05_AluSame.j3 k2 a0 a1 a2 a3 true)) = some r := H
                have A24 := Aside0.mk A240
                clear A240
                have HC25 := Aside0.mk H
                clear H
                go_upto_region 20 with (first | ((with_reducible refine gate_callee (f := 20) rfl ?_); refine goesL_ (some 97) rfl rfl Tryd.func20 (by kernel_rfl) rfl #[.int .u8 a0, .int .u8 a0] rfl (by (try simp only [List.map_toArray, List.map_cons, List.map_nil]); first | done | rfl | (simp only [List.length_drop, List.length_take]; rfl)) ?_; (with_reducible refine (alu_And.calls a0 a0 t142 t143 _ A21.out).mono ?_); rintro e w' ⟨rfl, ⟨nd, rfl⟩⟩; refine ⟨_, rfl, ?_⟩) | ((with_reducible refine gate_callee (f := 21) rfl ?_); refine goesL_ (some 103) rfl rfl Tryd.func21 (by kernel_rfl) rfl #[.int .u8 a0, .int .u8 a0] rfl (by (try simp only [List.map_toArray, List.map_cons, List.map_nil]); first | done | rfl | (simp only [List.length_drop, List.length_take]; rfl)) ?_; (with_reducible refine (alu_Or.calls a0 a0 t144 t145 _ A22.out).mono ?_); rintro e w' ⟨rfl, ⟨nd, rfl⟩⟩; refine ⟨_, rfl, ?_⟩) | ((with_reducible refine gate_callee (f := 22) rfl ?_); refine goesL_ (some 109) rfl rfl Tryd.func22 (by kernel_rfl) rfl #[.int .u8 a0, .int .u8 a0] rfl (by (try simp only [List.map_toArray, List.map_cons, List.map_nil]); first | done | rfl | (simp only [List.length_drop, List.length_take]; rfl)) ?_; (with_reducible refine (alu_Xor.calls a0 a0 t146 t147 _ A23.out).mono ?_); rintro e w' ⟨rfl, ⟨nd, rfl⟩⟩; refine ⟨_, rfl, ?_⟩) | ((with_reducible refine gate_callee (f := 8) rfl ?_); refine goesL_ (some 115) rfl rfl Tryd.func8 (by kernel_rfl) rfl #[.int .u8 a0, .int .u8 a0, .bool false] rfl (by (try simp only [List.map_toArray, List.map_cons, List.map_nil]); first | done | rfl | (simp only [List.length_drop, List.length_take]; rfl)) ?_; (with_reducible refine (alu_Sub.calls a0 a0 false t148 t149 _ A24.out).mono ?_); rintro e w' ⟨rfl, ⟨nd, rfl⟩⟩; refine ⟨_, rfl, ?_⟩))
                (try simp only [Act.put, List.setIfInBounds_toArray, List.set_cons_zero, List.set_cons_succ])
                go_cut [137] (fun v137 wc => ∃ (kq : Nat) (x137_24 : Bool), v137 = .bool x137_24 ∧ Aside0 (pendulumlaw05_AluSame.j3 kq a0 a1 a2 a3 x137_24 = some r) ∧ Aside0 (kq ≤ k2) ∧ Drawn0 w wc)
                case first =>
                  have H := HC25.out
                  clear HC25
                  by_cases c26 : t142 = a0
                  · rw [if_pos c26] at H
                    have c26b0 : (t142 == a0) = true := beq_iff_eq.mpr c26
                    have c26b1 : (t142 != a0) = false := bne_eq_false_iff_eq.mpr c26
                    clear c26
                    (first | rw [c26b0] | (simp only [i64_w, i32_w]; rw [c26b0]) | skip)
                    by_cases c27 : t144 = a0
                    · rw [if_pos c27] at H
                      have c27b0 : (t144 == a0) = true := beq_iff_eq.mpr c27
                      have c27b1 : (t144 != a0) = false := bne_eq_false_iff_eq.mpr c27
                      clear c27
                      by_cases c28 : t146 = 0
                      · rw [if_pos c28] at H
                        have c28b0 : (t146 == 0) = true := beq_iff_eq.mpr c28
                        have c28b1 : (t146 != 0) = false := bne_eq_false_iff_eq.mpr c28
                        clear c28
                        by_cases c29 : t148 = 0
                        · rw [if_pos c29] at H
                          have c29b0 : (t148 == 0) = true := beq_iff_eq.mpr c29
                          have c29b1 : (t148 != 0) = false := bne_eq_false_iff_eq.mpr c29
                          clear c29
                          have H' := Aside0.mk H
                          clear H
                          go_wp2
                          go_meet
                          case rel => exact ⟨_, ((t147 != 68)), (by first | rfl | (simp; done) | (simp [*]; done)), H', ⟨by have := HJ8.out; have := HK2.out; first | omega | exact Nat.le_refl _⟩, by repeat (first | exact Drawn0.refl _ | apply Drawn0.step)⟩
                        · rw [if_neg c29] at H
                          have c29b0 : (t148 == 0) = false := beq_eq_false_iff_ne.mpr c29
                          have c29b1 : (t148 != 0) = true := bne_iff_ne.mpr c29
                          have H' := Aside0.mk H
                          clear H
                          go_wp2
                          go_meet
                          case rel => exact ⟨_, (true), (by first | rfl | (simp; done) | (simp [*]; done)), H', ⟨by have := HJ8.out; have := HK2.out; first | omega | exact Nat.le_refl _⟩, by repeat (first | exact Drawn0.refl _ | apply Drawn0.step)⟩
                      · rw [if_neg c28] at H
                        have c28b0 : (t146 == 0) = false := beq_eq_false_iff_ne.mpr c28
                        have c28b1 : (t146 != 0) = true := bne_iff_ne.mpr c28
                        have H' := Aside0.mk H
                        clear H
                        go_wp2
                        go_meet
                        case rel => exact ⟨_, (true), (by first | rfl | (simp; done) | (simp [*]; done)), H', ⟨by have := HJ8.out; have := HK2.out; first | omega | exact Nat.le_refl _⟩, by repeat (first | exact Drawn0.refl _ | apply Drawn0.step)⟩
                    · rw [if_neg c27] at H
                      have c27b0 : (t144 == a0) = false := beq_eq_false_iff_ne.mpr c27
                      have c27b1 : (t144 != a0) = true := bne_iff_ne.mpr c27
                      have H' := Aside0.mk H
                      clear H
                      go_wp2
                      go_meet
                      case rel => exact ⟨_, (true), (by first | rfl | (simp; done) | (simp [*]; done)), H', ⟨by have := HJ8.out; have := HK2.out; first | omega | exact Nat.le_refl _⟩, by repeat (first | exact Drawn0.refl _ | apply Drawn0.step)⟩
                  · rw [if_neg c26] at H
                    have c26b0 : (t142 == a0) = false := beq_eq_false_iff_ne.mpr c26
                    have c26b1 : (t142 != a0) = true := bne_iff_ne.mpr c26
                    (first | rw [c26b0] | (simp only [i64_w, i32_w]; rw [c26b0]) | skip)
                    have H' := Aside0.mk H
                    clear H
                    go_wp2
                    go_meet
                    case rel => exact ⟨_, (true), (by first | rfl | (simp; done) | (simp [*]; done)), H', ⟨by have := HJ8.out; have := HK2.out; first | omega | exact Nat.le_refl _⟩, by repeat (first | exact Drawn0.refl _ | apply Drawn0.step)⟩
                case rest =>
                  clear HC25
                  try clear c1
                  try clear c2
                  try clear p2
                  try clear c4
                  try clear c5
                  try clear c6
                  try clear p6
                  try clear c8
                  try clear c10
                  try clear c10b0
                  try clear c10b1
                  try clear c11
                  try clear c12
                  try clear c12b0
                  try clear c14
                  try clear c14b0
                  try clear c14b1
                  try clear c15
                  try clear c15b0
                  try clear c15b1
                  try clear c16
                  try clear c19
                  try clear c19b0
                  try clear c19b1
                  try clear c20
                  try clear c20b0
                  try clear c20b1
                  try clear c21
                  try clear c22
                  try clear c26
                  try clear c26b0
                  try clear c26b1
                  try clear c27
                  try clear c27b0
                  try clear c27b1
                  try clear c28
                  try clear c28b0
                  try clear c28b1
                  try clear c29
                  try clear c29b0
                  try clear c29b1
                  try clear p2
                  obtain ⟨kq, x137_24, rfl, HA, HJ24, ⟨mc24, rfl⟩⟩ := hcut
                  cases kq with
                  | zero => exact absurd HA.out (by simp [pendulumlaw05_AluSame.j3])
                  | succ kj24 =>
                    have H := HA.out
                    clear HA
                    simp only [pendulumlaw05_AluSame.j3] at H
                    by_cases c30 : x137_24 = true
                    · subst c30
                      have H1 : (some false) = some r := by rw [if_pos rfl] at H; exact H
                      clear H
                      have H := H1
                      clear H1
                      obtain rfl := Option.some.inj H
                      go_wp2
                      go_ret
                      exact ⟨by first | rfl | (simp; done) | (simp [*]; done), by repeat (first | exact Drawn0.refl _ | apply Drawn0.step)⟩
                    · replace c30 := Bool.eq_false_iff.mpr c30
                      subst c30
                      have H1 : ((alu_Inc.f a0 a2).bind fun bt150 => ((alu_Dec.f bt150.1 bt150.2).bind fun bt152 => ((alu_Do.f a3 a0 a1 a2).bind fun bt154 => ((alu_Do.f (wrap64 ((Int.tmod a3 8) + 8)) a0 a1 a2).bind fun bt156 => (if bt152.1 = a0 then (if (Go.bits .and .u8 bt152.2 1) = (Go.bits .and .u8 a2 1) then (if (Go.bits .and .u8 bt150.2 1) = (Go.bits .and .u8 a2 1) then (if bt154.1 = bt156.1 then (some (bt154.2 == bt156.2)) else (some false)) else (some false)) else (some false)) else (some false)))))) = some r := by rw [if_neg (show ¬ (false = true) by decide)] at H; exact H
                      clear H
                      have H := H1
                      clear H1
                      replace H := Option.bind_eq_some_iff.mp H
                      obtain ⟨⟨t150, t151⟩, A310, H⟩ := H
                      replace H : ((alu_Dec.f t150 t151).bind fun bt152 => ((alu_Do.f a3 a0 a1 a2).bind fun bt154 => ((alu_Do.f (wrap64 ((Int.tmod a3 8) + 8)) a0 a1 a2).bind fun bt156 => (if bt152.1 = a0 then (if (Go.bits .and .u8 bt152.2 1) = (Go.bits .and .u8 a2 1) then (if (Go.bits .and .u8 t151 1) = (Go.bits .and .u8 a2 1) then (if bt154.1 = bt156.1 then (some (bt154.2 == bt156.2)) else (some false)) else (some false)) else (some false)) else (some false))))) = some r := H
                      have A31 := Aside0.mk A310
                      clear A310
                      replace H := Option.bind_eq_some_iff.mp H
                      obtain ⟨⟨t152, t153⟩, A320, H⟩ := H
                      replace H : ((alu_Do.f a3 a0 a1 a2).bind fun bt154 => ((alu_Do.f (wrap64 ((Int.tmod a3 8) + 8)) a0 a1 a2).bind fun bt156 => (if t152 = a0 then (if (Go.bits .and .u8 t153 1) = (Go.bits .and .u8 a2 1) then (if (Go.bits .and .u8 t151 1) = (Go.bits .and .u8 a2 1) then (if bt154.1 = bt156.1 then (some (bt154.2 == bt156.2)) else (some false)) else (some false)) else (some false)) else (some false)))) = some r := H
                      have A32 := Aside0.mk A320
                      clear A320
                      replace H := Option.bind_eq_some_iff.mp H
                      obtain ⟨⟨t154, t155⟩, A330, H⟩ := H
                      replace H : ((alu_Do.f (wrap64 ((Int.tmod a3 8) + 8)) a0 a1 a2).bind fun bt156 => (if t152 = a0 then (if (Go.bits .and .u8 t153 1) = (Go.bits .and .u8 a2 1) then (if (Go.bits .and .u8 t151 1) = (Go.bits .and .u8 a2 1) then (if t154 = bt156.1 then (some (t155 == bt156.2)) else (some false)) else (some false)) else (some false)) else (some false))) = some r := H
                      have A33 := Aside0.mk A330
                      clear A330
                      replace H := Option.bind_eq_some_iff.mp H
                      obtain ⟨⟨t156, t157⟩, A340, H⟩ := H
                      replace H : (if t152 = a0 then (if (Go.bits .and .u8 t153 1) = (Go.bits .and .u8 a2 1) then (if (Go.bits .and .u8 t151 1) = (Go.bits .and .u8 a2 1) then (if t154 = t156 then (some (t155 == t157)) else (some false)) else (some false)) else (some false)) else (some false)) = some r := H
                      have A34 := Aside0.mk A340
                      clear A340
                      by_cases c35 : t152 = a0
                      · rw [if_pos c35] at H
                        have c35b0 : (t152 == a0) = true := beq_iff_eq.mpr c35
                        have c35b1 : (t152 != a0) = false := bne_eq_false_iff_eq.mpr c35
                        clear c35
                        by_cases c36 : (Go.bits .and .u8 t153 1) = (Go.bits .and .u8 a2 1)
                        · rw [if_pos c36] at H
                          have c36b0 : ((Go.bits .and .u8 t153 1) == (Go.bits .and .u8 a2 1)) = true := beq_iff_eq.mpr c36
                          have c36b1 : ((Go.bits .and .u8 t153 1) != (Go.bits .and .u8 a2 1)) = false := bne_eq_false_iff_eq.mpr c36
                          clear c36
                          by_cases c37 : (Go.bits .and .u8 t151 1) = (Go.bits .and .u8 a2 1)
                          · rw [if_pos c37] at H
                            have c37b0 : ((Go.bits .and .u8 t151 1) == (Go.bits .and .u8 a2 1)) = true := beq_iff_eq.mpr c37
                            have c37b1 : ((Go.bits .and .u8 t151 1) != (Go.bits .and .u8 a2 1)) = false := bne_eq_false_iff_eq.mpr c37
                            clear c37
                            by_cases c38 : t154 = t156
                            · rw [if_pos c38] at H
                              have c38b0 : (t154 == t156) = true := beq_iff_eq.mpr c38
                              have c38b1 : (t154 != t156) = false := bne_eq_false_iff_eq.mpr c38
                              clear c38
                              obtain rfl := Option.some.inj H
                              go_wp2_with (first | ((with_reducible refine gate_callee (f := 18) rfl ?_); refine goesL_ (some 141) rfl rfl Tryd.func18 (by kernel_rfl) rfl #[.int .u8 a0, .int .u8 a2] rfl (by (try simp only [List.map_toArray, List.map_cons, List.map_nil]); first | done | rfl | (simp only [List.length_drop, List.length_take]; rfl)) ?_; (with_reducible refine (alu_Inc.calls a0 a2 t150 t151 _ A31.out).mono ?_); rintro e w' ⟨rfl, ⟨nd, rfl⟩⟩; refine ⟨_, rfl, ?_⟩) | ((with_reducible refine gate_callee (f := 23) rfl ?_); refine goesL_ (some 147) rfl rfl Tryd.func23 (by kernel_rfl) rfl #[.int .u8 t150, .int .u8 t151] rfl (by (try simp only [List.map_toArray, List.map_cons, List.map_nil]); first | done | rfl | (simp only [List.length_drop, List.length_take]; rfl)) ?_; (with_reducible refine (alu_Dec.calls t150 t151 t152 t153 _ A32.out).mono ?_); rintro e w' ⟨rfl, ⟨nd, rfl⟩⟩; refine ⟨_, rfl, ?_⟩) | ((with_reducible refine gate_callee (f := 16) rfl ?_); refine goesL_ (some 155) rfl rfl Tryd.func16 (by kernel_rfl) rfl #[.int .i64 a3, .int .u8 a0, .int .u8 a1, .int .u8 a2] rfl (by (try simp only [List.map_toArray, List.map_cons, List.map_nil]); first | done | rfl | (simp only [List.length_drop, List.length_take]; rfl)) ?_; (with_reducible refine (alu_Do.calls a3 a0 a1 a2 t154 t155 _ A33.out (by first | exact Table.drewN hT _ | exact hT)).mono ?_); rintro e w' ⟨rfl, ⟨nd, rfl⟩⟩; refine ⟨_, rfl, ?_⟩) | ((with_reducible refine gate_callee (f := 16) rfl ?_); refine goesL_ (some 165) rfl rfl Tryd.func16 (by kernel_rfl) rfl #[.int .i64 (wrap64 ((Int.tmod a3 8) + 8)), .int .u8 a0, .int .u8 a1, .int .u8 a2] rfl (by (try simp only [List.map_toArray, List.map_cons, List.map_nil]); first | done | rfl | (simp only [List.length_drop, List.length_take]; rfl)) ?_; (with_reducible refine (alu_Do.calls (wrap64 ((Int.tmod a3 8) + 8)) a0 a1 a2 t156 t157 _ A34.out (by first | exact Table.drewN hT _ | exact hT)).mono ?_); rintro e w' ⟨rfl, ⟨nd, rfl⟩⟩; refine ⟨_, rfl, ?_⟩))
                              go_ret
                              exact ⟨by first | rfl | (simp; done) | (simp [*]; done), by repeat (first | exact Drawn0.refl _ | apply Drawn0.step)⟩
                            · rw [if_neg c38] at H
                              have c38b0 : (t154 == t156) = false := beq_eq_false_iff_ne.mpr c38
                              have c38b1 : (t154 != t156) = true := bne_iff_ne.mpr c38
                              obtain rfl := Option.some.inj H
                              go_wp2_with (first | ((with_reducible refine gate_callee (f := 18) rfl ?_); refine goesL_ (some 141) rfl rfl Tryd.func18 (by kernel_rfl) rfl #[.int .u8 a0, .int .u8 a2] rfl (by (try simp only [List.map_toArray, List.map_cons, List.map_nil]); first | done | rfl | (simp only [List.length_drop, List.length_take]; rfl)) ?_; (with_reducible refine (alu_Inc.calls a0 a2 t150 t151 _ A31.out).mono ?_); rintro e w' ⟨rfl, ⟨nd, rfl⟩⟩; refine ⟨_, rfl, ?_⟩) | ((with_reducible refine gate_callee (f := 23) rfl ?_); refine goesL_ (some 147) rfl rfl Tryd.func23 (by kernel_rfl) rfl #[.int .u8 t150, .int .u8 t151] rfl (by (try simp only [List.map_toArray, List.map_cons, List.map_nil]); first | done | rfl | (simp only [List.length_drop, List.length_take]; rfl)) ?_; (with_reducible refine (alu_Dec.calls t150 t151 t152 t153 _ A32.out).mono ?_); rintro e w' ⟨rfl, ⟨nd, rfl⟩⟩; refine ⟨_, rfl, ?_⟩) | ((with_reducible refine gate_callee (f := 16) rfl ?_); refine goesL_ (some 155) rfl rfl Tryd.func16 (by kernel_rfl) rfl #[.int .i64 a3, .int .u8 a0, .int .u8 a1, .int .u8 a2] rfl (by (try simp only [List.map_toArray, List.map_cons, List.map_nil]); first | done | rfl | (simp only [List.length_drop, List.length_take]; rfl)) ?_; (with_reducible refine (alu_Do.calls a3 a0 a1 a2 t154 t155 _ A33.out (by first | exact Table.drewN hT _ | exact hT)).mono ?_); rintro e w' ⟨rfl, ⟨nd, rfl⟩⟩; refine ⟨_, rfl, ?_⟩) | ((with_reducible refine gate_callee (f := 16) rfl ?_); refine goesL_ (some 165) rfl rfl Tryd.func16 (by kernel_rfl) rfl #[.int .i64 (wrap64 ((Int.tmod a3 8) + 8)), .int .u8 a0, .int .u8 a1, .int .u8 a2] rfl (by (try simp only [List.map_toArray, List.map_cons, List.map_nil]); first | done | rfl | (simp only [List.length_drop, List.length_take]; rfl)) ?_; (with_reducible refine (alu_Do.calls (wrap64 ((Int.tmod a3 8) + 8)) a0 a1 a2 t156 t157 _ A34.out (by first | exact Table.drewN hT _ | exact hT)).mono ?_); rintro e w' ⟨rfl, ⟨nd, rfl⟩⟩; refine ⟨_, rfl, ?_⟩))
                              go_ret
                              exact ⟨by first | rfl | (simp; done) | (simp [*]; done), by repeat (first | exact Drawn0.refl _ | apply Drawn0.step)⟩
                          · rw [if_neg c37] at H
                            have c37b0 : ((Go.bits .and .u8 t151 1) == (Go.bits .and .u8 a2 1)) = false := beq_eq_false_iff_ne.mpr c37
                            have c37b1 : ((Go.bits .and .u8 t151 1) != (Go.bits .and .u8 a2 1)) = true := bne_iff_ne.mpr c37
                            obtain rfl := Option.some.inj H
                            go_wp2_with (first | ((with_reducible refine gate_callee (f := 18) rfl ?_); refine goesL_ (some 141) rfl rfl Tryd.func18 (by kernel_rfl) rfl #[.int .u8 a0, .int .u8 a2] rfl (by (try simp only [List.map_toArray, List.map_cons, List.map_nil]); first | done | rfl | (simp only [List.length_drop, List.length_take]; rfl)) ?_; (with_reducible refine (alu_Inc.calls a0 a2 t150 t151 _ A31.out).mono ?_); rintro e w' ⟨rfl, ⟨nd, rfl⟩⟩; refine ⟨_, rfl, ?_⟩) | ((with_reducible refine gate_callee (f := 23) rfl ?_); refine goesL_ (some 147) rfl rfl Tryd.func23 (by kernel_rfl) rfl #[.int .u8 t150, .int .u8 t151] rfl (by (try simp only [List.map_toArray, List.map_cons, List.map_nil]); first | done | rfl | (simp only [List.length_drop, List.length_take]; rfl)) ?_; (with_reducible refine (alu_Dec.calls t150 t151 t152 t153 _ A32.out).mono ?_); rintro e w' ⟨rfl, ⟨nd, rfl⟩⟩; refine ⟨_, rfl, ?_⟩) | ((with_reducible refine gate_callee (f := 16) rfl ?_); refine goesL_ (some 155) rfl rfl Tryd.func16 (by kernel_rfl) rfl #[.int .i64 a3, .int .u8 a0, .int .u8 a1, .int .u8 a2] rfl (by (try simp only [List.map_toArray, List.map_cons, List.map_nil]); first | done | rfl | (simp only [List.length_drop, List.length_take]; rfl)) ?_; (with_reducible refine (alu_Do.calls a3 a0 a1 a2 t154 t155 _ A33.out (by first | exact Table.drewN hT _ | exact hT)).mono ?_); rintro e w' ⟨rfl, ⟨nd, rfl⟩⟩; refine ⟨_, rfl, ?_⟩) | ((with_reducible refine gate_callee (f := 16) rfl ?_); refine goesL_ (some 165) rfl rfl Tryd.func16 (by kernel_rfl) rfl #[.int .i64 (wrap64 ((Int.tmod a3 8) + 8)), .int .u8 a0, .int .u8 a1, .int .u8 a2] rfl (by (try simp only [List.map_toArray, List.map_cons, List.map_nil]); first | done | rfl | (simp only [List.length_drop, List.length_take]; rfl)) ?_; (with_reducible refine (alu_Do.calls (wrap64 ((Int.tmod a3 8) + 8)) a0 a1 a2 t156 t157 _ A34.out (by first | exact Table.drewN hT _ | exact hT)).mono ?_); rintro e w' ⟨rfl, ⟨nd, rfl⟩⟩; refine ⟨_, rfl, ?_⟩))
                            go_ret
                            exact ⟨by first | rfl | (simp; done) | (simp [*]; done), by repeat (first | exact Drawn0.refl _ | apply Drawn0.step)⟩
                        · rw [if_neg c36] at H
                          have c36b0 : ((Go.bits .and .u8 t153 1) == (Go.bits .and .u8 a2 1)) = false := beq_eq_false_iff_ne.mpr c36
                          have c36b1 : ((Go.bits .and .u8 t153 1) != (Go.bits .and .u8 a2 1)) = true := bne_iff_ne.mpr c36
                          obtain rfl := Option.some.inj H
                          go_wp2_with (first | ((with_reducible refine gate_callee (f := 18) rfl ?_); refine goesL_ (some 141) rfl rfl Tryd.func18 (by kernel_rfl) rfl #[.int .u8 a0, .int .u8 a2] rfl (by (try simp only [List.map_toArray, List.map_cons, List.map_nil]); first | done | rfl | (simp only [List.length_drop, List.length_take]; rfl)) ?_; (with_reducible refine (alu_Inc.calls a0 a2 t150 t151 _ A31.out).mono ?_); rintro e w' ⟨rfl, ⟨nd, rfl⟩⟩; refine ⟨_, rfl, ?_⟩) | ((with_reducible refine gate_callee (f := 23) rfl ?_); refine goesL_ (some 147) rfl rfl Tryd.func23 (by kernel_rfl) rfl #[.int .u8 t150, .int .u8 t151] rfl (by (try simp only [List.map_toArray, List.map_cons, List.map_nil]); first | done | rfl | (simp only [List.length_drop, List.length_take]; rfl)) ?_; (with_reducible refine (alu_Dec.calls t150 t151 t152 t153 _ A32.out).mono ?_); rintro e w' ⟨rfl, ⟨nd, rfl⟩⟩; refine ⟨_, rfl, ?_⟩) | ((with_reducible refine gate_callee (f := 16) rfl ?_); refine goesL_ (some 155) rfl rfl Tryd.func16 (by kernel_rfl) rfl #[.int .i64 a3, .int .u8 a0, .int .u8 a1, .int .u8 a2] rfl (by (try simp only [List.map_toArray, List.map_cons, List.map_nil]); first | done | rfl | (simp only [List.length_drop, List.length_take]; rfl)) ?_; (with_reducible refine (alu_Do.calls a3 a0 a1 a2 t154 t155 _ A33.out (by first | exact Table.drewN hT _ | exact hT)).mono ?_); rintro e w' ⟨rfl, ⟨nd, rfl⟩⟩; refine ⟨_, rfl, ?_⟩) | ((with_reducible refine gate_callee (f := 16) rfl ?_); refine goesL_ (some 165) rfl rfl Tryd.func16 (by kernel_rfl) rfl #[.int .i64 (wrap64 ((Int.tmod a3 8) + 8)), .int .u8 a0, .int .u8 a1, .int .u8 a2] rfl (by (try simp only [List.map_toArray, List.map_cons, List.map_nil]); first | done | rfl | (simp only [List.length_drop, List.length_take]; rfl)) ?_; (with_reducible refine (alu_Do.calls (wrap64 ((Int.tmod a3 8) + 8)) a0 a1 a2 t156 t157 _ A34.out (by first | exact Table.drewN hT _ | exact hT)).mono ?_); rintro e w' ⟨rfl, ⟨nd, rfl⟩⟩; refine ⟨_, rfl, ?_⟩))
                          go_ret
                          exact ⟨by first | rfl | (simp; done) | (simp [*]; done), by repeat (first | exact Drawn0.refl _ | apply Drawn0.step)⟩
                      · rw [if_neg c35] at H
                        have c35b0 : (t152 == a0) = false := beq_eq_false_iff_ne.mpr c35
                        have c35b1 : (t152 != a0) = true := bne_iff_ne.mpr c35
                        obtain rfl := Option.some.inj H
                        go_wp2_with (first | ((with_reducible refine gate_callee (f := 18) rfl ?_); refine goesL_ (some 141) rfl rfl Tryd.func18 (by kernel_rfl) rfl #[.int .u8 a0, .int .u8 a2] rfl (by (try simp only [List.map_toArray, List.map_cons, List.map_nil]); first | done | rfl | (simp only [List.length_drop, List.length_take]; rfl)) ?_; (with_reducible refine (alu_Inc.calls a0 a2 t150 t151 _ A31.out).mono ?_); rintro e w' ⟨rfl, ⟨nd, rfl⟩⟩; refine ⟨_, rfl, ?_⟩) | ((with_reducible refine gate_callee (f := 23) rfl ?_); refine goesL_ (some 147) rfl rfl Tryd.func23 (by kernel_rfl) rfl #[.int .u8 t150, .int .u8 t151] rfl (by (try simp only [List.map_toArray, List.map_cons, List.map_nil]); first | done | rfl | (simp only [List.length_drop, List.length_take]; rfl)) ?_; (with_reducible refine (alu_Dec.calls t150 t151 t152 t153 _ A32.out).mono ?_); rintro e w' ⟨rfl, ⟨nd, rfl⟩⟩; refine ⟨_, rfl, ?_⟩) | ((with_reducible refine gate_callee (f := 16) rfl ?_); refine goesL_ (some 155) rfl rfl Tryd.func16 (by kernel_rfl) rfl #[.int .i64 a3, .int .u8 a0, .int .u8 a1, .int .u8 a2] rfl (by (try simp only [List.map_toArray, List.map_cons, List.map_nil]); first | done | rfl | (simp only [List.length_drop, List.length_take]; rfl)) ?_; (with_reducible refine (alu_Do.calls a3 a0 a1 a2 t154 t155 _ A33.out (by first | exact Table.drewN hT _ | exact hT)).mono ?_); rintro e w' ⟨rfl, ⟨nd, rfl⟩⟩; refine ⟨_, rfl, ?_⟩) | ((with_reducible refine gate_callee (f := 16) rfl ?_); refine goesL_ (some 165) rfl rfl Tryd.func16 (by kernel_rfl) rfl #[.int .i64 (wrap64 ((Int.tmod a3 8) + 8)), .int .u8 a0, .int .u8 a1, .int .u8 a2] rfl (by (try simp only [List.map_toArray, List.map_cons, List.map_nil]); first | done | rfl | (simp only [List.length_drop, List.length_take]; rfl)) ?_; (with_reducible refine (alu_Do.calls (wrap64 ((Int.tmod a3 8) + 8)) a0 a1 a2 t156 t157 _ A34.out (by first | exact Table.drewN hT _ | exact hT)).mono ?_); rintro e w' ⟨rfl, ⟨nd, rfl⟩⟩; refine ⟨_, rfl, ?_⟩))
                        go_ret
                        exact ⟨by first | rfl | (simp; done) | (simp [*]; done), by repeat (first | exact Drawn0.refl _ | apply Drawn0.step)⟩
  · replace c6 := Bool.eq_false_iff.mpr c6
    subst c6
    have H1 : (some false) = some r := by rw [if_neg (show ¬ (false = true) by decide)] at H; exact H
    clear H
    have H := H1
    clear H1
    obtain rfl := Option.some.inj H
    go_enter Tryd.func4, Tryd.ntmps4
    go_wp2_with (first | ((with_reducible refine gate_callee (f := 5) rfl ?_); refine goesL_ (some 29) rfl rfl Tryd.func5 (by kernel_rfl) rfl #[] rfl (by (try simp only [List.map_toArray, List.map_cons, List.map_nil]); first | done | rfl | (simp only [List.length_drop, List.length_take]; rfl)) ?_; (with_reducible refine (pendulumlaw05_lives.calls  false _ A5.out).mono ?_); rintro e w' ⟨rfl, ⟨nd, rfl⟩⟩; refine ⟨_, rfl, ?_⟩))
    go_ret
    exact ⟨by first | rfl | (simp; done) | (simp [*]; done), by repeat (first | exact Drawn0.refl _ | apply Drawn0.step)⟩

/-- THE ONE PURE STATEMENT of pendulumlaw05_AluSame: yours. -/
def pendulumlaw05_AluSame.Pure : Prop := ∀ (a0 : Int) (a1 : Int) (a2 : Int) (a3 : Int), (Lit.int .u8 a0).wf = true → (Lit.int .u8 a1).wf = true → (Lit.int .u8 a2).wf = true → (Lit.int .i64 a3).wf = true → ∃ k, pendulumlaw05_AluSame.f k a0 a1 a2 a3 = some true
theorem pendulumlaw05_AluSame.walk (P : pendulumlaw05_AluSame.Pure) (a0 : Int) (a1 : Int) (a2 : Int) (a3 : Int) (w : World) (hT : Table w) (w0 : (Lit.int .u8 a0).wf = true) (w1 : (Lit.int .u8 a1).wf = true) (w2 : (Lit.int .u8 a2).wf = true) (w3 : (Lit.int .i64 a3).wf = true) :
    Calls Tryd.prog 4 #[.int .u8 a0, .int .u8 a1, .int .u8 a2, .int .i64 a3] w fun e w' => e = .returned (.bool true) ∧ Below w.heap.size w w' := by
  obtain ⟨k, h⟩ := P a0 a1 a2 a3 w0 w1 w2 w3
  refine (pendulumlaw05_AluSame.calls k a0 a1 a2 a3 true w h hT).mono ?_
  rintro e w' ⟨rfl, hd⟩
  exact ⟨rfl, hd.below⟩

end Go.Proofs.YtpmmneipfmbmlaaDoor.HAluSame
