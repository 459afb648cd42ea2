-- Written by a program of this session out of Lean's print of the program (after the form of the kit's print.sh, with own turns); Lean checks it.
import Derived.Test.YtpmmneipfmbmlaaHShiftCallsx0
import Derived.Test.YtpmmneipfmbmlaaHShiftCallsx1
import Derived.Test.YtpmmneipfmbmlaaHShiftCallsx2
namespace Go.Proofs.Ytpmmneipfmbmlaa.HShiftCalls
open Go.RowKit Go.Proofs.YtpmmneipfmbmlaaW.PrintWords Go.Proofs.YtpmmneipfmbmlaaW.PrintLast Go.Proofs.YtpmmneipfmbmlaaW.PrintMore
attribute [local go_sem] max2_int min2_int max_two min_two max_three min_three max_four min_four   -- for this text's walks alone
set_option linter.unusedVariables false
set_option linter.unusedSimpArgs false

/-! ### pendulumref06_moved: function 100 -/
def pendulumref06_moved.j0 : Nat → Int → Bool → Int → Bool → Option (Int × Bool)
  | 0, _, _, _, _ => none
  | k + 1, x1, x8, x9, x34 => if x34 = true then (some ((((x1 * 2) % 256) + 1) % 256, x8)) else (some ((((x1 * 2) % 256) + x9) % 256, x8))
def pendulumref06_moved.f (k : Nat) (a0 : Int) (a1 : Int) (a2 : Int) : Option (Int × Bool) := if (Int.tmod a0 2) = 0 then (if a0 = 0 then (if a1 ≥ 128 then (pendulumref06_moved.j0 k a1 (decide (a1 ≥ 128)) 0 true) else (if a0 = 2 then (if (Int.tmod a2 2) = 1 then (pendulumref06_moved.j0 k a1 (decide (a1 ≥ 128)) 0 true) else (pendulumref06_moved.j0 k a1 (decide (a1 ≥ 128)) 0 (a0 == 6))) else (pendulumref06_moved.j0 k a1 (decide (a1 ≥ 128)) 0 (a0 == 6)))) else (if a0 = 2 then (if (Int.tmod a2 2) = 1 then (pendulumref06_moved.j0 k a1 (decide (a1 ≥ 128)) 0 true) else (pendulumref06_moved.j0 k a1 (decide (a1 ≥ 128)) 0 (a0 == 6))) else (pendulumref06_moved.j0 k a1 (decide (a1 ≥ 128)) 0 (a0 == 6)))) else (if a0 = 1 then (if (Int.tmod a1 2) = 1 then (some ((((Int.tdiv a1 2) % 256) + 128) % 256, ((Int.tmod a1 2) == 1))) else (if a0 = 3 then (if (Int.tmod a2 2) = 1 then (some ((((Int.tdiv a1 2) % 256) + 128) % 256, ((Int.tmod a1 2) == 1))) else (if a0 = 5 then (if a1 ≥ 128 then (some ((((Int.tdiv a1 2) % 256) + 128) % 256, ((Int.tmod a1 2) == 1))) else (some (((Int.tdiv a1 2) % 256) + 0, ((Int.tmod a1 2) == 1)))) else (some (((Int.tdiv a1 2) % 256) + 0, ((Int.tmod a1 2) == 1))))) else (if a0 = 5 then (if a1 ≥ 128 then (some ((((Int.tdiv a1 2) % 256) + 128) % 256, ((Int.tmod a1 2) == 1))) else (some (((Int.tdiv a1 2) % 256) + 0, ((Int.tmod a1 2) == 1)))) else (some (((Int.tdiv a1 2) % 256) + 0, ((Int.tmod a1 2) == 1)))))) else (if a0 = 3 then (if (Int.tmod a2 2) = 1 then (some ((((Int.tdiv a1 2) % 256) + 128) % 256, ((Int.tmod a1 2) == 1))) else (if a0 = 5 then (if a1 ≥ 128 then (some ((((Int.tdiv a1 2) % 256) + 128) % 256, ((Int.tmod a1 2) == 1))) else (some (((Int.tdiv a1 2) % 256) + 0, ((Int.tmod a1 2) == 1)))) else (some (((Int.tdiv a1 2) % 256) + 0, ((Int.tmod a1 2) == 1))))) else (if a0 = 5 then (if a1 ≥ 128 then (some ((((Int.tdiv a1 2) % 256) + 128) % 256, ((Int.tmod a1 2) == 1))) else (some (((Int.tdiv a1 2) % 256) + 0, ((Int.tmod a1 2) == 1)))) else (some (((Int.tdiv a1 2) % 256) + 0, ((Int.tmod a1 2) == 1))))))
theorem pendulumref06_moved.mono_l : ∀ k, (∀ y0 y1 y2 y3, LeO (pendulumref06_moved.j0 k y0 y1 y2 y3) (pendulumref06_moved.j0 (k + 1) y0 y1 y2 y3))
  | 0 => fun _ _ _ _ r h => by simp [pendulumref06_moved.j0] at h
  | k + 1 => by
    have ih0 := pendulumref06_moved.mono_l k
    · intro y0 y1 y2 y3
      unfold pendulumref06_moved.j0
      repeat' first
      | (with_reducible exact ih0 _ _ _ _)
      | (with_reducible exact LeO.refl _)
      | (with_reducible exact LeO.none _)
      | (with_reducible refine LeO.ite ?_ ?_)
      | (with_reducible refine LeO.bind ?_ (fun _ => ?_))
      | exact ih0 _ _ _ _
      | exact LeO.none _
      | refine LeO.ite ?_ ?_
      | refine LeO.bind ?_ (fun _ => ?_)
theorem pendulumref06_moved.mono : ∀ a0 a1 a2 k, LeO (pendulumref06_moved.f k a0 a1 a2) (pendulumref06_moved.f (k + 1) a0 a1 a2) := by
  intro a0 a1 a2 k
  have ih0 := pendulumref06_moved.mono_l k
  unfold pendulumref06_moved.f
  repeat' first
      | (with_reducible exact ih0 _ _ _ _)
      | (with_reducible exact LeO.refl _)
      | (with_reducible exact LeO.none _)
      | (with_reducible refine LeO.ite ?_ ?_)
      | (with_reducible refine LeO.bind ?_ (fun _ => ?_))
      | exact ih0 _ _ _ _
      | exact LeO.none _
      | refine LeO.ite ?_ ?_
      | refine LeO.bind ?_ (fun _ => ?_)
set_option maxHeartbeats 8000000 in
set_option maxRecDepth 100000 in
theorem pendulumref06_moved.calls (k : Nat) (a0 : Int) (a1 : Int) (a2 : Int) (r1 : Int) (r2 : Bool) (w : World) (h : pendulumref06_moved.f k a0 a1 a2 = some (r1, r2)) :
    Calls Try.prog 100 #[.int .i64 a0, .int .u8 a1, .int .u8 a2] w fun e w' => e = .returned (.tuple #[.int .u8 r1, .bool r2]) ∧ Drawn0 w w' := by
  have H : (if (Int.tmod a0 2) = 0 then (if a0 = 0 then (if a1 ≥ 128 then (pendulumref06_moved.j0 k a1 (decide (a1 ≥ 128)) 0 true) else (if a0 = 2 then (if (Int.tmod a2 2) = 1 then (pendulumref06_moved.j0 k a1 (decide (a1 ≥ 128)) 0 true) else (pendulumref06_moved.j0 k a1 (decide (a1 ≥ 128)) 0 (a0 == 6))) else (pendulumref06_moved.j0 k a1 (decide (a1 ≥ 128)) 0 (a0 == 6)))) else (if a0 = 2 then (if (Int.tmod a2 2) = 1 then (pendulumref06_moved.j0 k a1 (decide (a1 ≥ 128)) 0 true) else (pendulumref06_moved.j0 k a1 (decide (a1 ≥ 128)) 0 (a0 == 6))) else (pendulumref06_moved.j0 k a1 (decide (a1 ≥ 128)) 0 (a0 == 6)))) else (if a0 = 1 then (if (Int.tmod a1 2) = 1 then (some ((((Int.tdiv a1 2) % 256) + 128) % 256, ((Int.tmod a1 2) == 1))) else (if a0 = 3 then (if (Int.tmod a2 2) = 1 then (some ((((Int.tdiv a1 2) % 256) + 128) % 256, ((Int.tmod a1 2) == 1))) else (if a0 = 5 then (if a1 ≥ 128 then (some ((((Int.tdiv a1 2) % 256) + 128) % 256, ((Int.tmod a1 2) == 1))) else (some (((Int.tdiv a1 2) % 256) + 0, ((Int.tmod a1 2) == 1)))) else (some (((Int.tdiv a1 2) % 256) + 0, ((Int.tmod a1 2) == 1))))) else (if a0 = 5 then (if a1 ≥ 128 then (some ((((Int.tdiv a1 2) % 256) + 128) % 256, ((Int.tmod a1 2) == 1))) else (some (((Int.tdiv a1 2) % 256) + 0, ((Int.tmod a1 2) == 1)))) else (some (((Int.tdiv a1 2) % 256) + 0, ((Int.tmod a1 2) == 1)))))) else (if a0 = 3 then (if (Int.tmod a2 2) = 1 then (some ((((Int.tdiv a1 2) % 256) + 128) % 256, ((Int.tmod a1 2) == 1))) else (if a0 = 5 then (if a1 ≥ 128 then (some ((((Int.tdiv a1 2) % 256) + 128) % 256, ((Int.tmod a1 2) == 1))) else (some (((Int.tdiv a1 2) % 256) + 0, ((Int.tmod a1 2) == 1)))) else (some (((Int.tdiv a1 2) % 256) + 0, ((Int.tmod a1 2) == 1))))) else (if a0 = 5 then (if a1 ≥ 128 then (some ((((Int.tdiv a1 2) % 256) + 128) % 256, ((Int.tmod a1 2) == 1))) else (some (((Int.tdiv a1 2) % 256) + 0, ((Int.tmod a1 2) == 1)))) else (some (((Int.tdiv a1 2) % 256) + 0, ((Int.tmod a1 2) == 1))))))) = some (r1, r2) := h
  clear h
  by_cases c4 : (Int.tmod a0 2) = 0
  · rw [if_pos c4] at H
    have c4b0 : ((Int.tmod a0 2) == 0) = true := beq_iff_eq.mpr c4
    have c4b1 : ((Int.tmod a0 2) != 0) = false := bne_eq_false_iff_eq.mpr c4
    clear c4
    have HC5 := Aside0.mk H
    clear H
    go_enter Try.func100, Try.ntmps100
    go_upto_region 4 with (fail)
    go_cut [34] (fun v34 wc => ∃ (kq : Nat) (x34_4 : Bool), v34 = .bool x34_4 ∧ Aside0 (pendulumref06_moved.j0 kq a1 (decide (a1 ≥ 128)) 0 x34_4 = some (r1, r2)) ∧ Aside0 (kq ≤ k) ∧ Drawn0 w wc)
    case first =>
      have H := HC5.out
      clear HC5
      by_cases c6 : a0 = 0
      · rw [if_pos c6] at H
        have c6b0 : (a0 == 0) = true := beq_iff_eq.mpr c6
        have c6b1 : (a0 != 0) = false := bne_eq_false_iff_eq.mpr c6
        clear c6
        (first | rw [c6b0] | (simp only [i64_w, i32_w]; rw [c6b0]) | skip)
        by_cases c7 : a1 ≥ 128
        · rw [if_pos c7] at H
          have c7b0 : decide (128 ≤ a1) = true := decide_eq_true c7
          clear c7
          have H' := Aside0.mk H
          clear H
          go_wp2
          go_meet
          case rel => exact ⟨_, (true), (by first | rfl | (simp; done) | (simp [*]; done)), H', ⟨by first | omega | exact Nat.le_refl _⟩, by repeat (first | exact Drawn0.refl _ | apply Drawn0.step)⟩
        · rw [if_neg c7] at H
          have c7b0 : decide (128 ≤ a1) = false := decide_eq_false c7
          clear c7
          by_cases c8 : a0 = 2
          · rw [if_pos c8] at H
            have c8b0 : (a0 == 2) = true := beq_iff_eq.mpr c8
            have c8b1 : (a0 != 2) = false := bne_eq_false_iff_eq.mpr c8
            clear c8
            by_cases c9 : (Int.tmod a2 2) = 1
            · rw [if_pos c9] at H
              have c9b0 : ((Int.tmod a2 2) == 1) = true := beq_iff_eq.mpr c9
              have c9b1 : ((Int.tmod a2 2) != 1) = false := bne_eq_false_iff_eq.mpr c9
              clear c9
              have H' := Aside0.mk H
              clear H
              go_wp2
              go_meet
              case rel => exact ⟨_, (true), (by first | rfl | (simp; done) | (simp [*]; done)), H', ⟨by first | omega | exact Nat.le_refl _⟩, by repeat (first | exact Drawn0.refl _ | apply Drawn0.step)⟩
            · rw [if_neg c9] at H
              have c9b0 : ((Int.tmod a2 2) == 1) = false := beq_eq_false_iff_ne.mpr c9
              have c9b1 : ((Int.tmod a2 2) != 1) = true := bne_iff_ne.mpr c9
              have H' := Aside0.mk H
              clear H
              go_wp2
              go_meet
              case rel => exact ⟨_, ((a0 == 6)), (by first | rfl | (simp; done) | (simp [*]; done)), H', ⟨by first | omega | exact Nat.le_refl _⟩, by repeat (first | exact Drawn0.refl _ | apply Drawn0.step)⟩
          · rw [if_neg c8] at H
            have c8b0 : (a0 == 2) = false := beq_eq_false_iff_ne.mpr c8
            have c8b1 : (a0 != 2) = true := bne_iff_ne.mpr c8
            have H' := Aside0.mk H
            clear H
            go_wp2
            go_meet
            case rel => exact ⟨_, ((a0 == 6)), (by first | rfl | (simp; done) | (simp [*]; done)), H', ⟨by first | omega | exact Nat.le_refl _⟩, by repeat (first | exact Drawn0.refl _ | apply Drawn0.step)⟩
      · rw [if_neg c6] at H
        have c6b0 : (a0 == 0) = false := beq_eq_false_iff_ne.mpr c6
        have c6b1 : (a0 != 0) = true := bne_iff_ne.mpr c6
        (first | rw [c6b0] | (simp only [i64_w, i32_w]; rw [c6b0]) | skip)
        by_cases c10 : a0 = 2
        · rw [if_pos c10] at H
          have c10b0 : (a0 == 2) = true := beq_iff_eq.mpr c10
          have c10b1 : (a0 != 2) = false := bne_eq_false_iff_eq.mpr c10
          clear c10
          by_cases c11 : (Int.tmod a2 2) = 1
          · rw [if_pos c11] at H
            have c11b0 : ((Int.tmod a2 2) == 1) = true := beq_iff_eq.mpr c11
            have c11b1 : ((Int.tmod a2 2) != 1) = false := bne_eq_false_iff_eq.mpr c11
            clear c11
            have H' := Aside0.mk H
            clear H
            go_wp2
            go_meet
            case rel => exact ⟨_, (true), (by first | rfl | (simp; done) | (simp [*]; done)), H', ⟨by first | omega | exact Nat.le_refl _⟩, by repeat (first | exact Drawn0.refl _ | apply Drawn0.step)⟩
          · rw [if_neg c11] at H
            have c11b0 : ((Int.tmod a2 2) == 1) = false := beq_eq_false_iff_ne.mpr c11
            have c11b1 : ((Int.tmod a2 2) != 1) = true := bne_iff_ne.mpr c11
            have H' := Aside0.mk H
            clear H
            go_wp2
            go_meet
            case rel => exact ⟨_, ((a0 == 6)), (by first | rfl | (simp; done) | (simp [*]; done)), H', ⟨by first | omega | exact Nat.le_refl _⟩, by repeat (first | exact Drawn0.refl _ | apply Drawn0.step)⟩
        · rw [if_neg c10] at H
          have c10b0 : (a0 == 2) = false := beq_eq_false_iff_ne.mpr c10
          have c10b1 : (a0 != 2) = true := bne_iff_ne.mpr c10
          have H' := Aside0.mk H
          clear H
          go_wp2
          go_meet
          case rel => exact ⟨_, ((a0 == 6)), (by first | rfl | (simp; done) | (simp [*]; done)), H', ⟨by first | omega | exact Nat.le_refl _⟩, by repeat (first | exact Drawn0.refl _ | apply Drawn0.step)⟩
    case rest =>
      clear HC5
      try clear c1
      try clear p2
      try clear c4
      try clear c4b0
      try clear c4b1
      try clear c6
      try clear c6b0
      try clear c6b1
      try clear c7
      try clear c7b0
      try clear c8
      try clear c8b0
      try clear c8b1
      try clear c9
      try clear c9b0
      try clear c9b1
      try clear c10
      try clear c10b0
      try clear c10b1
      try clear c11
      try clear c11b0
      try clear c11b1
      obtain ⟨kq, x34_4, rfl, HA, HJ4, ⟨mc4, rfl⟩⟩ := hcut
      cases kq with
      | zero => exact absurd HA.out (by simp [pendulumref06_moved.j0])
      | succ kj4 =>
        have H := HA.out
        clear HA
        simp only [pendulumref06_moved.j0] at H
        by_cases c12 : x34_4 = true
        · subst c12
          have H1 : (some ((((a1 * 2) % 256) + 1) % 256, (decide (a1 ≥ 128)))) = some (r1, r2) := by rw [if_pos rfl] at H; exact H
          clear H
          have H := H1
          clear H1
          simp only [Option.some.injEq, Prod.mk.injEq] at H
          obtain ⟨rfl, rfl⟩ := H
          go_wp2
          go_ret2
          exact ⟨by first | rfl | (simp; done) | (simp [*]; done) | (simp; omega), by repeat (first | exact Drawn0.refl _ | apply Drawn0.step)⟩
        · replace c12 := Bool.eq_false_iff.mpr c12
          subst c12
          have H1 : (some ((((a1 * 2) % 256) + 0) % 256, (decide (a1 ≥ 128)))) = some (r1, r2) := by rw [if_neg (show ¬ (false = true) by decide)] at H; exact H
          clear H
          have H := H1
          clear H1
          simp only [Option.some.injEq, Prod.mk.injEq] at H
          obtain ⟨rfl, rfl⟩ := H
          go_wp2
          go_ret2
          exact ⟨by first | rfl | (simp; done) | (simp [*]; done) | (simp; omega), by repeat (first | exact Drawn0.refl _ | apply Drawn0.step)⟩
  · rw [if_neg c4] at H
    have c4b0 : ((Int.tmod a0 2) == 0) = false := beq_eq_false_iff_ne.mpr c4
    have c4b1 : ((Int.tmod a0 2) != 0) = true := bne_iff_ne.mpr c4
    by_cases c13 : a0 = 1
    · rw [if_pos c13] at H
      have c13b0 : (a0 == 1) = true := beq_iff_eq.mpr c13
      have c13b1 : (a0 != 1) = false := bne_eq_false_iff_eq.mpr c13
      clear c13
      by_cases c14 : (Int.tmod a1 2) = 1
      · rw [if_pos c14] at H
        have c14b0 : ((Int.tmod a1 2) == 1) = true := beq_iff_eq.mpr c14
        have c14b1 : ((Int.tmod a1 2) != 1) = false := bne_eq_false_iff_eq.mpr c14
        clear c14
        simp only [Option.some.injEq, Prod.mk.injEq] at H
        obtain ⟨rfl, rfl⟩ := H
        go_enter Try.func100, Try.ntmps100
        go_wp2
        go_ret2
        exact ⟨by first | rfl | (simp; done) | (simp [*]; done) | (simp; omega), by repeat (first | exact Drawn0.refl _ | apply Drawn0.step)⟩
      · rw [if_neg c14] at H
        have c14b0 : ((Int.tmod a1 2) == 1) = false := beq_eq_false_iff_ne.mpr c14
        have c14b1 : ((Int.tmod a1 2) != 1) = true := bne_iff_ne.mpr c14
        by_cases c15 : a0 = 3
        · rw [if_pos c15] at H
          have c15b0 : (a0 == 3) = true := beq_iff_eq.mpr c15
          have c15b1 : (a0 != 3) = false := bne_eq_false_iff_eq.mpr c15
          clear c15
          by_cases c16 : (Int.tmod a2 2) = 1
          · rw [if_pos c16] at H
            have c16b0 : ((Int.tmod a2 2) == 1) = true := beq_iff_eq.mpr c16
            have c16b1 : ((Int.tmod a2 2) != 1) = false := bne_eq_false_iff_eq.mpr c16
            clear c16
            simp only [Option.some.injEq, Prod.mk.injEq] at H
            obtain ⟨rfl, rfl⟩ := H
            go_enter Try.func100, Try.ntmps100
            go_wp2
            go_ret2
            exact ⟨by first | rfl | (simp; done) | (simp [*]; done) | (simp; omega), by repeat (first | exact Drawn0.refl _ | apply Drawn0.step)⟩
          · rw [if_neg c16] at H
            have c16b0 : ((Int.tmod a2 2) == 1) = false := beq_eq_false_iff_ne.mpr c16
            have c16b1 : ((Int.tmod a2 2) != 1) = true := bne_iff_ne.mpr c16
            by_cases c17 : a0 = 5
            · rw [if_pos c17] at H
              have c17b0 : (a0 == 5) = true := beq_iff_eq.mpr c17
              have c17b1 : (a0 != 5) = false := bne_eq_false_iff_eq.mpr c17
              clear c17
              by_cases c18 : a1 ≥ 128
              · rw [if_pos c18] at H
                have c18b0 : decide (128 ≤ a1) = true := decide_eq_true c18
                clear c18
                simp only [Option.some.injEq, Prod.mk.injEq] at H
                obtain ⟨rfl, rfl⟩ := H
                go_enter Try.func100, Try.ntmps100
                go_wp2
                go_ret2
                exact ⟨by first | rfl | (simp; done) | (simp [*]; done) | (simp; omega), by repeat (first | exact Drawn0.refl _ | apply Drawn0.step)⟩
              · rw [if_neg c18] at H
                have c18b0 : decide (128 ≤ a1) = false := decide_eq_false c18
                clear c18
                simp only [Option.some.injEq, Prod.mk.injEq] at H
                obtain ⟨rfl, rfl⟩ := H
                go_enter Try.func100, Try.ntmps100
                go_wp2
                go_ret2
                exact ⟨by first | rfl | (simp; done) | (simp [*]; done) | (simp; omega), by repeat (first | exact Drawn0.refl _ | apply Drawn0.step)⟩
            · rw [if_neg c17] at H
              have c17b0 : (a0 == 5) = false := beq_eq_false_iff_ne.mpr c17
              have c17b1 : (a0 != 5) = true := bne_iff_ne.mpr c17
              simp only [Option.some.injEq, Prod.mk.injEq] at H
              obtain ⟨rfl, rfl⟩ := H
              go_enter Try.func100, Try.ntmps100
              go_wp2
              go_ret2
              exact ⟨by first | rfl | (simp; done) | (simp [*]; done) | (simp; omega), by repeat (first | exact Drawn0.refl _ | apply Drawn0.step)⟩
        · rw [if_neg c15] at H
          have c15b0 : (a0 == 3) = false := beq_eq_false_iff_ne.mpr c15
          have c15b1 : (a0 != 3) = true := bne_iff_ne.mpr c15
          by_cases c19 : a0 = 5
          · rw [if_pos c19] at H
            have c19b0 : (a0 == 5) = true := beq_iff_eq.mpr c19
            have c19b1 : (a0 != 5) = false := bne_eq_false_iff_eq.mpr c19
            clear c19
            by_cases c20 : a1 ≥ 128
            · rw [if_pos c20] at H
              have c20b0 : decide (128 ≤ a1) = true := decide_eq_true c20
              clear c20
              simp only [Option.some.injEq, Prod.mk.injEq] at H
              obtain ⟨rfl, rfl⟩ := H
              go_enter Try.func100, Try.ntmps100
              go_wp2
              go_ret2
              exact ⟨by first | rfl | (simp; done) | (simp [*]; done) | (simp; omega), by repeat (first | exact Drawn0.refl _ | apply Drawn0.step)⟩
            · rw [if_neg c20] at H
              have c20b0 : decide (128 ≤ a1) = false := decide_eq_false c20
              clear c20
              simp only [Option.some.injEq, Prod.mk.injEq] at H
              obtain ⟨rfl, rfl⟩ := H
              go_enter Try.func100, Try.ntmps100
              go_wp2
              go_ret2
              exact ⟨by first | rfl | (simp; done) | (simp [*]; done) | (simp; omega), by repeat (first | exact Drawn0.refl _ | apply Drawn0.step)⟩
          · rw [if_neg c19] at H
            have c19b0 : (a0 == 5) = false := beq_eq_false_iff_ne.mpr c19
            have c19b1 : (a0 != 5) = true := bne_iff_ne.mpr c19
            simp only [Option.some.injEq, Prod.mk.injEq] at H
            obtain ⟨rfl, rfl⟩ := H
            go_enter Try.func100, Try.ntmps100
            go_wp2
            go_ret2
            exact ⟨by first | rfl | (simp; done) | (simp [*]; done) | (simp; omega), by repeat (first | exact Drawn0.refl _ | apply Drawn0.step)⟩
    · rw [if_neg c13] at H
      have c13b0 : (a0 == 1) = false := beq_eq_false_iff_ne.mpr c13
      have c13b1 : (a0 != 1) = true := bne_iff_ne.mpr c13
      by_cases c21 : a0 = 3
      · rw [if_pos c21] at H
        have c21b0 : (a0 == 3) = true := beq_iff_eq.mpr c21
        have c21b1 : (a0 != 3) = false := bne_eq_false_iff_eq.mpr c21
        clear c21
        by_cases c22 : (Int.tmod a2 2) = 1
        · rw [if_pos c22] at H
          have c22b0 : ((Int.tmod a2 2) == 1) = true := beq_iff_eq.mpr c22
          have c22b1 : ((Int.tmod a2 2) != 1) = false := bne_eq_false_iff_eq.mpr c22
          clear c22
          simp only [Option.some.injEq, Prod.mk.injEq] at H
          obtain ⟨rfl, rfl⟩ := H
          go_enter Try.func100, Try.ntmps100
          go_wp2
          go_ret2
          exact ⟨by first | rfl | (simp; done) | (simp [*]; done) | (simp; omega), by repeat (first | exact Drawn0.refl _ | apply Drawn0.step)⟩
        · rw [if_neg c22] at H
          have c22b0 : ((Int.tmod a2 2) == 1) = false := beq_eq_false_iff_ne.mpr c22
          have c22b1 : ((Int.tmod a2 2) != 1) = true := bne_iff_ne.mpr c22
          by_cases c23 : a0 = 5
          · rw [if_pos c23] at H
            have c23b0 : (a0 == 5) = true := beq_iff_eq.mpr c23
            have c23b1 : (a0 != 5) = false := bne_eq_false_iff_eq.mpr c23
            clear c23
            by_cases c24 : a1 ≥ 128
            · rw [if_pos c24] at H
              have c24b0 : decide (128 ≤ a1) = true := decide_eq_true c24
              clear c24
              simp only [Option.some.injEq, Prod.mk.injEq] at H
              obtain ⟨rfl, rfl⟩ := H
              go_enter Try.func100, Try.ntmps100
              go_wp2
              go_ret2
              exact ⟨by first | rfl | (simp; done) | (simp [*]; done) | (simp; omega), by repeat (first | exact Drawn0.refl _ | apply Drawn0.step)⟩
            · rw [if_neg c24] at H
              have c24b0 : decide (128 ≤ a1) = false := decide_eq_false c24
              clear c24
              simp only [Option.some.injEq, Prod.mk.injEq] at H
              obtain ⟨rfl, rfl⟩ := H
              go_enter Try.func100, Try.ntmps100
              go_wp2
              go_ret2
              exact ⟨by first | rfl | (simp; done) | (simp [*]; done) | (simp; omega), by repeat (first | exact Drawn0.refl _ | apply Drawn0.step)⟩
          · rw [if_neg c23] at H
            have c23b0 : (a0 == 5) = false := beq_eq_false_iff_ne.mpr c23
            have c23b1 : (a0 != 5) = true := bne_iff_ne.mpr c23
            simp only [Option.some.injEq, Prod.mk.injEq] at H
            obtain ⟨rfl, rfl⟩ := H
            go_enter Try.func100, Try.ntmps100
            go_wp2
            go_ret2
            exact ⟨by first | rfl | (simp; done) | (simp [*]; done) | (simp; omega), by repeat (first | exact Drawn0.refl _ | apply Drawn0.step)⟩
      · rw [if_neg c21] at H
        have c21b0 : (a0 == 3) = false := beq_eq_false_iff_ne.mpr c21
        have c21b1 : (a0 != 3) = true := bne_iff_ne.mpr c21
        by_cases c25 : a0 = 5
        · rw [if_pos c25] at H
          have c25b0 : (a0 == 5) = true := beq_iff_eq.mpr c25
          have c25b1 : (a0 != 5) = false := bne_eq_false_iff_eq.mpr c25
          clear c25
          by_cases c26 : a1 ≥ 128
          · rw [if_pos c26] at H
            have c26b0 : decide (128 ≤ a1) = true := decide_eq_true c26
            clear c26
            simp only [Option.some.injEq, Prod.mk.injEq] at H
            obtain ⟨rfl, rfl⟩ := H
            go_enter Try.func100, Try.ntmps100
            go_wp2
            go_ret2
            exact ⟨by first | rfl | (simp; done) | (simp [*]; done) | (simp; omega), by repeat (first | exact Drawn0.refl _ | apply Drawn0.step)⟩
          · rw [if_neg c26] at H
            have c26b0 : decide (128 ≤ a1) = false := decide_eq_false c26
            clear c26
            simp only [Option.some.injEq, Prod.mk.injEq] at H
            obtain ⟨rfl, rfl⟩ := H
            go_enter Try.func100, Try.ntmps100
            go_wp2
            go_ret2
            exact ⟨by first | rfl | (simp; done) | (simp [*]; done) | (simp; omega), by repeat (first | exact Drawn0.refl _ | apply Drawn0.step)⟩
        · rw [if_neg c25] at H
          have c25b0 : (a0 == 5) = false := beq_eq_false_iff_ne.mpr c25
          have c25b1 : (a0 != 5) = true := bne_iff_ne.mpr c25
          simp only [Option.some.injEq, Prod.mk.injEq] at H
          obtain ⟨rfl, rfl⟩ := H
          go_enter Try.func100, Try.ntmps100
          go_wp2
          go_ret2
          exact ⟨by first | rfl | (simp; done) | (simp [*]; done) | (simp; omega), by repeat (first | exact Drawn0.refl _ | apply Drawn0.step)⟩

/-! ### pendulumref05_Mod: function 101 -/
def pendulumref05_Mod.f (a0 : Int) (a1 : Int) : Option (Int) := if a1 = 0 then (none) else (if (Int.tmod a0 a1) < 0 then (some (wrap64 ((Int.tmod a0 a1) + a1))) else (some (Int.tmod a0 a1)))
set_option maxHeartbeats 8000000 in
set_option maxRecDepth 100000 in
theorem pendulumref05_Mod.calls (a0 : Int) (a1 : Int) (r : Int) (w : World) (h : pendulumref05_Mod.f a0 a1 = some r) :
    Calls Try.prog 101 #[.int .i64 a0, .int .i64 a1] w fun e w' => e = .returned (.int .i64 r) ∧ Drawn0 w w' := by
  have H : (if a1 = 0 then (none) else (if (Int.tmod a0 a1) < 0 then (some (wrap64 ((Int.tmod a0 a1) + a1))) else (some (Int.tmod a0 a1)))) = some r := h
  clear h
  by_cases c3 : a1 = 0
  · rw [if_pos c3] at H
    exact absurd H (by simp)
  · rw [if_neg c3] at H
    have c3b0 : (a1 == 0) = false := beq_eq_false_iff_ne.mpr c3
    have c3b1 : (a1 != 0) = true := bne_iff_ne.mpr c3
    by_cases c4 : (Int.tmod a0 a1) < 0
    · rw [if_pos c4] at H
      have c4b0 : decide ((Int.tmod a0 a1) < 0) = true := decide_eq_true c4
      clear c4
      obtain rfl := Option.some.inj H
      go_enter Try.func101, Try.ntmps101
      go_wp2
      go_ret
      exact ⟨by first | rfl | (simp; done) | (simp [*]; done) | (simp; omega), by repeat (first | exact Drawn0.refl _ | apply Drawn0.step)⟩
    · rw [if_neg c4] at H
      have c4b0 : decide ((Int.tmod a0 a1) < 0) = false := decide_eq_false c4
      clear c4
      obtain rfl := Option.some.inj H
      go_enter Try.func101, Try.ntmps101
      go_wp2
      go_ret
      exact ⟨by first | rfl | (simp; done) | (simp [*]; done) | (simp; omega), by repeat (first | exact Drawn0.refl _ | apply Drawn0.step)⟩

/-! ### pendulumref06_Shift: function 63 -/
def pendulumref06_Shift.f (k : Nat) (a0 : Int) (a1 : Int) (a2 : Int) : Option (Int × Int) := (pendulumref05_Mod.f a0 8).bind fun t131 => ((pendulumref06_moved.f k t131 a1 a2).bind fun bt132 => ((pendulumref05_Logic.f k bt132.1).bind fun t134 => ((pendulumref05_Flag.f 1 bt132.2).bind fun t135 => (some (bt132.1, Go.bits .or .u8 t134 t135)))))
theorem pendulumref06_Shift.mono : ∀ a0 a1 a2 k, LeO (pendulumref06_Shift.f k a0 a1 a2) (pendulumref06_Shift.f (k + 1) a0 a1 a2) := by
  intro a0 a1 a2 k
  unfold pendulumref06_Shift.f
  repeat' first
      | (with_reducible exact pendulumref05_Logic.mono _ _)
      | (with_reducible exact pendulumref06_moved.mono _ _ _ _)
      | (with_reducible exact LeO.refl _)
      | (with_reducible exact LeO.none _)
      | (with_reducible refine LeO.ite ?_ ?_)
      | (with_reducible refine LeO.bind ?_ (fun _ => ?_))
      | exact pendulumref05_Logic.mono _ _
      | exact pendulumref06_moved.mono _ _ _ _
      | exact LeO.none _
      | refine LeO.ite ?_ ?_
      | refine LeO.bind ?_ (fun _ => ?_)
set_option maxHeartbeats 8000000 in
set_option maxRecDepth 100000 in
theorem pendulumref06_Shift.calls (k : Nat) (a0 : Int) (a1 : Int) (a2 : Int) (r1 : Int) (r2 : Int) (w : World) (h : pendulumref06_Shift.f k a0 a1 a2 = some (r1, r2)) :
    Calls Try.prog 63 #[.int .i64 a0, .int .u8 a1, .int .u8 a2] w fun e w' => e = .returned (.tuple #[.int .u8 r1, .int .u8 r2]) ∧ Drawn0 w w' := by
  have H : ((pendulumref05_Mod.f a0 8).bind fun t131 => ((pendulumref06_moved.f k t131 a1 a2).bind fun bt132 => ((pendulumref05_Logic.f k bt132.1).bind fun t134 => ((pendulumref05_Flag.f 1 bt132.2).bind fun t135 => (some (bt132.1, Go.bits .or .u8 t134 t135)))))) = some (r1, r2) := h
  clear h
  replace H := Option.bind_eq_some_iff.mp H
  obtain ⟨t131, A40, H⟩ := H
  replace H : ((pendulumref06_moved.f k t131 a1 a2).bind fun bt132 => ((pendulumref05_Logic.f k bt132.1).bind fun t134 => ((pendulumref05_Flag.f 1 bt132.2).bind fun t135 => (some (bt132.1, Go.bits .or .u8 t134 t135))))) = some (r1, r2) := H
  have A4 := Aside0.mk A40
  clear A40
  replace H := Option.bind_eq_some_iff.mp H
  obtain ⟨⟨t132, t133⟩, A50, H⟩ := H
  replace H : ((pendulumref05_Logic.f k t132).bind fun t134 => ((pendulumref05_Flag.f 1 t133).bind fun t135 => (some (t132, Go.bits .or .u8 t134 t135)))) = some (r1, r2) := H
  have A5 := Aside0.mk A50
  clear A50
  replace H := Option.bind_eq_some_iff.mp H
  obtain ⟨t134, A60, H⟩ := H
  replace H : ((pendulumref05_Flag.f 1 t133).bind fun t135 => (some (t132, Go.bits .or .u8 t134 t135))) = some (r1, r2) := H
  have A6 := Aside0.mk A60
  clear A60
  replace H := Option.bind_eq_some_iff.mp H
  obtain ⟨t135, A70, H⟩ := H
  replace H : (some (t132, Go.bits .or .u8 t134 t135)) = some (r1, r2) := H
  have A7 := Aside0.mk A70
  clear A70
  simp only [Option.some.injEq, Prod.mk.injEq] at H
  obtain ⟨rfl, rfl⟩ := H
  go_enter Try.func63, Try.ntmps63
  go_wp2_with (first | ((with_reducible refine gate_callee (f := 101) rfl ?_); refine goesL_ (some 12) rfl rfl Try.func101 (by kernel_rfl) rfl #[.int .i64 a0, .int .i64 8] rfl (by (try simp only [List.map_toArray, List.map_cons, List.map_nil]); first | done | rfl | (simp only [List.length_drop, List.length_take]; rfl)) ?_; (with_reducible refine (pendulumref05_Mod.calls a0 8 t131 _ A4.out).mono ?_); rintro e w' ⟨rfl, ⟨nd, rfl⟩⟩; refine ⟨_, rfl, ?_⟩) | ((with_reducible refine gate_callee (f := 100) rfl ?_); refine goesL_ (some 15) rfl rfl Try.func100 (by kernel_rfl) rfl #[.int .i64 t131, .int .u8 a1, .int .u8 a2] rfl (by (try simp only [List.map_toArray, List.map_cons, List.map_nil]); first | done | rfl | (simp only [List.length_drop, List.length_take]; rfl)) ?_; (with_reducible refine (pendulumref06_moved.calls k t131 a1 a2 t132 t133 _ A5.out).mono ?_); rintro e w' ⟨rfl, ⟨nd, rfl⟩⟩; refine ⟨_, rfl, ?_⟩) | ((with_reducible refine gate_callee (f := 94) rfl ?_); refine goesL_ (some 20) rfl rfl Try.func94 (by kernel_rfl) rfl #[.int .u8 t132] rfl (by (try simp only [List.map_toArray, List.map_cons, List.map_nil]); first | done | rfl | (simp only [List.length_drop, List.length_take]; rfl)) ?_; (with_reducible refine (pendulumref05_Logic.calls k t132 t134 _ A6.out).mono ?_); rintro e w' ⟨rfl, ⟨nd, rfl⟩⟩; refine ⟨_, rfl, ?_⟩) | ((with_reducible refine gate_callee (f := 85) rfl ?_); refine goesL_ (some 22) rfl rfl Try.func85 (by kernel_rfl) rfl #[.int .u8 1, .bool t133] rfl (by (try simp only [List.map_toArray, List.map_cons, List.map_nil]); first | done | rfl | (simp only [List.length_drop, List.length_take]; rfl)) ?_; (with_reducible refine (pendulumref05_Flag.calls 1 t133 t135 _ A7.out).mono ?_); rintro e w' ⟨rfl, ⟨nd, rfl⟩⟩; refine ⟨_, rfl, ?_⟩))
  go_ret2
  exact ⟨by first | rfl | (simp; done) | (simp [*]; done) | (simp; omega), by repeat (first | exact Drawn0.refl _ | apply Drawn0.step)⟩

/-! ### shift_Turn: function 64 -/
def shift_Turn.f (k : Nat) (a0 : Int) (a1 : Int) (a2 : Int) : Option (Int × Int) := (shift_moved.f k (Go.bits .and .i64 a0 3) a1 a2).bind fun bt136 => (some (bt136.1, Go.bits .or .u8 (Go.bits .or .u8 (Go.bits .and .u8 a2 196) (Go.bits .and .u8 bt136.1 40)) bt136.2))
theorem shift_Turn.mono : ∀ a0 a1 a2 k, LeO (shift_Turn.f k a0 a1 a2) (shift_Turn.f (k + 1) a0 a1 a2) := by
  intro a0 a1 a2 k
  unfold shift_Turn.f
  repeat' first
      | (with_reducible exact shift_moved.mono _ _ _ _)
      | (with_reducible exact LeO.refl _)
      | (with_reducible exact LeO.none _)
      | (with_reducible refine LeO.ite ?_ ?_)
      | (with_reducible refine LeO.bind ?_ (fun _ => ?_))
      | exact shift_moved.mono _ _ _ _
      | exact LeO.none _
      | refine LeO.ite ?_ ?_
      | refine LeO.bind ?_ (fun _ => ?_)
set_option maxHeartbeats 8000000 in
set_option maxRecDepth 100000 in
theorem shift_Turn.calls (k : Nat) (a0 : Int) (a1 : Int) (a2 : Int) (r1 : Int) (r2 : Int) (w : World) (h : shift_Turn.f k a0 a1 a2 = some (r1, r2)) :
    Calls Try.prog 64 #[.int .i64 a0, .int .u8 a1, .int .u8 a2] w fun e w' => e = .returned (.tuple #[.int .u8 r1, .int .u8 r2]) ∧ Drawn0 w w' := by
  have H : ((shift_moved.f k (Go.bits .and .i64 a0 3) a1 a2).bind fun bt136 => (some (bt136.1, Go.bits .or .u8 (Go.bits .or .u8 (Go.bits .and .u8 a2 196) (Go.bits .and .u8 bt136.1 40)) bt136.2))) = some (r1, r2) := h
  clear h
  replace H := Option.bind_eq_some_iff.mp H
  obtain ⟨⟨t136, t137⟩, A40, H⟩ := H
  replace H : (some (t136, Go.bits .or .u8 (Go.bits .or .u8 (Go.bits .and .u8 a2 196) (Go.bits .and .u8 t136 40)) t137)) = some (r1, r2) := H
  have A4 := Aside0.mk A40
  clear A40
  simp only [Option.some.injEq, Prod.mk.injEq] at H
  obtain ⟨rfl, rfl⟩ := H
  go_enter Try.func64, Try.ntmps64
  go_wp2_with (first | ((with_reducible refine gate_callee (f := 95) rfl ?_); refine goesL_ (some 14) rfl rfl Try.func95 (by kernel_rfl) rfl #[.int .i64 (Go.bits .and .i64 a0 3), .int .u8 a1, .int .u8 a2] rfl (by (try simp only [List.map_toArray, List.map_cons, List.map_nil]); first | done | rfl | (simp only [List.length_drop, List.length_take]; rfl)) ?_; (with_reducible refine (shift_moved.calls k (Go.bits .and .i64 a0 3) a1 a2 t136 t137 _ A4.out).mono ?_); rintro e w' ⟨rfl, ⟨nd, rfl⟩⟩; refine ⟨_, rfl, ?_⟩))
  go_ret2
  exact ⟨by first | rfl | (simp; done) | (simp [*]; done) | (simp; omega), by repeat (first | exact Drawn0.refl _ | apply Drawn0.step)⟩

/-! ### pendulumref06_kept: function 102 -/
def pendulumref06_kept.f (a0 : Int) : Option (Int) := some (Go.bits .and .u8 a0 196)
set_option maxHeartbeats 8000000 in
set_option maxRecDepth 100000 in
theorem pendulumref06_kept.calls (a0 : Int) (r : Int) (w : World) (h : pendulumref06_kept.f a0 = some r) :
    Calls Try.prog 102 #[.int .u8 a0] w fun e w' => e = .returned (.int .u8 r) ∧ Drawn0 w w' := by
  have H : (some (Go.bits .and .u8 a0 196)) = some r := h
  clear h
  obtain rfl := Option.some.inj H
  go_enter Try.func102, Try.ntmps102
  go_wp2
  go_ret
  exact ⟨by first | rfl | (simp; done) | (simp [*]; done) | (simp; omega), by repeat (first | exact Drawn0.refl _ | apply Drawn0.step)⟩

/-! ### pendulumref06_yx: function 103 -/
def pendulumref06_yx.f (a0 : Int) : Option (Int) := some (Go.bits .and .u8 a0 40)
set_option maxHeartbeats 8000000 in
set_option maxRecDepth 100000 in
theorem pendulumref06_yx.calls (a0 : Int) (r : Int) (w : World) (h : pendulumref06_yx.f a0 = some r) :
    Calls Try.prog 103 #[.int .u8 a0] w fun e w' => e = .returned (.int .u8 r) ∧ Drawn0 w w' := by
  have H : (some (Go.bits .and .u8 a0 40)) = some r := h
  clear h
  obtain rfl := Option.some.inj H
  go_enter Try.func103, Try.ntmps103
  go_wp2
  go_ret
  exact ⟨by first | rfl | (simp; done) | (simp [*]; done) | (simp; omega), by repeat (first | exact Drawn0.refl _ | apply Drawn0.step)⟩

/-! ### pendulumref06_Turn: function 65 -/
def pendulumref06_Turn.f (k : Nat) (a0 : Int) (a1 : Int) (a2 : Int) : Option (Int × Int) := (pendulumref05_Mod.f a0 4).bind fun t138 => ((pendulumref06_moved.f k t138 a1 a2).bind fun bt139 => ((pendulumref06_kept.f a2).bind fun t141 => ((pendulumref06_yx.f bt139.1).bind fun t142 => ((pendulumref05_Flag.f 1 bt139.2).bind fun t143 => (some (bt139.1, Go.bits .or .u8 (Go.bits .or .u8 t141 t142) t143))))))
theorem pendulumref06_Turn.mono : ∀ a0 a1 a2 k, LeO (pendulumref06_Turn.f k a0 a1 a2) (pendulumref06_Turn.f (k + 1) a0 a1 a2) := by
  intro a0 a1 a2 k
  unfold pendulumref06_Turn.f
  repeat' first
      | (with_reducible exact pendulumref06_moved.mono _ _ _ _)
      | (with_reducible exact LeO.refl _)
      | (with_reducible exact LeO.none _)
      | (with_reducible refine LeO.ite ?_ ?_)
      | (with_reducible refine LeO.bind ?_ (fun _ => ?_))
      | exact pendulumref06_moved.mono _ _ _ _
      | exact LeO.none _
      | refine LeO.ite ?_ ?_
      | refine LeO.bind ?_ (fun _ => ?_)
set_option maxHeartbeats 8000000 in
set_option maxRecDepth 100000 in
theorem pendulumref06_Turn.calls (k : Nat) (a0 : Int) (a1 : Int) (a2 : Int) (r1 : Int) (r2 : Int) (w : World) (h : pendulumref06_Turn.f k a0 a1 a2 = some (r1, r2)) :
    Calls Try.prog 65 #[.int .i64 a0, .int .u8 a1, .int .u8 a2] w fun e w' => e = .returned (.tuple #[.int .u8 r1, .int .u8 r2]) ∧ Drawn0 w w' := by
  have H : ((pendulumref05_Mod.f a0 4).bind fun t138 => ((pendulumref06_moved.f k t138 a1 a2).bind fun bt139 => ((pendulumref06_kept.f a2).bind fun t141 => ((pendulumref06_yx.f bt139.1).bind fun t142 => ((pendulumref05_Flag.f 1 bt139.2).bind fun t143 => (some (bt139.1, Go.bits .or .u8 (Go.bits .or .u8 t141 t142) t143))))))) = some (r1, r2) := h
  clear h
  replace H := Option.bind_eq_some_iff.mp H
  obtain ⟨t138, A40, H⟩ := H
  replace H : ((pendulumref06_moved.f k t138 a1 a2).bind fun bt139 => ((pendulumref06_kept.f a2).bind fun t141 => ((pendulumref06_yx.f bt139.1).bind fun t142 => ((pendulumref05_Flag.f 1 bt139.2).bind fun t143 => (some (bt139.1, Go.bits .or .u8 (Go.bits .or .u8 t141 t142) t143)))))) = some (r1, r2) := H
  have A4 := Aside0.mk A40
  clear A40
  replace H := Option.bind_eq_some_iff.mp H
  obtain ⟨⟨t139, t140⟩, A50, H⟩ := H
  replace H : ((pendulumref06_kept.f a2).bind fun t141 => ((pendulumref06_yx.f t139).bind fun t142 => ((pendulumref05_Flag.f 1 t140).bind fun t143 => (some (t139, Go.bits .or .u8 (Go.bits .or .u8 t141 t142) t143))))) = some (r1, r2) := H
  have A5 := Aside0.mk A50
  clear A50
  replace H := Option.bind_eq_some_iff.mp H
  obtain ⟨t141, A60, H⟩ := H
  replace H : ((pendulumref06_yx.f t139).bind fun t142 => ((pendulumref05_Flag.f 1 t140).bind fun t143 => (some (t139, Go.bits .or .u8 (Go.bits .or .u8 t141 t142) t143)))) = some (r1, r2) := H
  have A6 := Aside0.mk A60
  clear A60
  replace H := Option.bind_eq_some_iff.mp H
  obtain ⟨t142, A70, H⟩ := H
  replace H : ((pendulumref05_Flag.f 1 t140).bind fun t143 => (some (t139, Go.bits .or .u8 (Go.bits .or .u8 t141 t142) t143))) = some (r1, r2) := H
  have A7 := Aside0.mk A70
  clear A70
  replace H := Option.bind_eq_some_iff.mp H
  obtain ⟨t143, A80, H⟩ := H
  replace H : (some (t139, Go.bits .or .u8 (Go.bits .or .u8 t141 t142) t143)) = some (r1, r2) := H
  have A8 := Aside0.mk A80
  clear A80
  simp only [Option.some.injEq, Prod.mk.injEq] at H
  obtain ⟨rfl, rfl⟩ := H
  go_enter Try.func65, Try.ntmps65
  go_wp2_with (first | ((with_reducible refine gate_callee (f := 101) rfl ?_); refine goesL_ (some 12) rfl rfl Try.func101 (by kernel_rfl) rfl #[.int .i64 a0, .int .i64 4] rfl (by (try simp only [List.map_toArray, List.map_cons, List.map_nil]); first | done | rfl | (simp only [List.length_drop, List.length_take]; rfl)) ?_; (with_reducible refine (pendulumref05_Mod.calls a0 4 t138 _ A4.out).mono ?_); rintro e w' ⟨rfl, ⟨nd, rfl⟩⟩; refine ⟨_, rfl, ?_⟩) | ((with_reducible refine gate_callee (f := 100) rfl ?_); refine goesL_ (some 15) rfl rfl Try.func100 (by kernel_rfl) rfl #[.int .i64 t138, .int .u8 a1, .int .u8 a2] rfl (by (try simp only [List.map_toArray, List.map_cons, List.map_nil]); first | done | rfl | (simp only [List.length_drop, List.length_take]; rfl)) ?_; (with_reducible refine (pendulumref06_moved.calls k t138 a1 a2 t139 t140 _ A5.out).mono ?_); rintro e w' ⟨rfl, ⟨nd, rfl⟩⟩; refine ⟨_, rfl, ?_⟩) | ((with_reducible refine gate_callee (f := 102) rfl ?_); refine goesL_ (some 20) rfl rfl Try.func102 (by kernel_rfl) rfl #[.int .u8 a2] rfl (by (try simp only [List.map_toArray, List.map_cons, List.map_nil]); first | done | rfl | (simp only [List.length_drop, List.length_take]; rfl)) ?_; (with_reducible refine (pendulumref06_kept.calls a2 t141 _ A6.out).mono ?_); rintro e w' ⟨rfl, ⟨nd, rfl⟩⟩; refine ⟨_, rfl, ?_⟩) | ((with_reducible refine gate_callee (f := 103) rfl ?_); refine goesL_ (some 22) rfl rfl Try.func103 (by kernel_rfl) rfl #[.int .u8 t139] rfl (by (try simp only [List.map_toArray, List.map_cons, List.map_nil]); first | done | rfl | (simp only [List.length_drop, List.length_take]; rfl)) ?_; (with_reducible refine (pendulumref06_yx.calls t139 t142 _ A7.out).mono ?_); rintro e w' ⟨rfl, ⟨nd, rfl⟩⟩; refine ⟨_, rfl, ?_⟩) | ((with_reducible refine gate_callee (f := 85) rfl ?_); refine goesL_ (some 25) rfl rfl Try.func85 (by kernel_rfl) rfl #[.int .u8 1, .bool t140] rfl (by (try simp only [List.map_toArray, List.map_cons, List.map_nil]); first | done | rfl | (simp only [List.length_drop, List.length_take]; rfl)) ?_; (with_reducible refine (pendulumref05_Flag.calls 1 t140 t143 _ A8.out).mono ?_); rintro e w' ⟨rfl, ⟨nd, rfl⟩⟩; refine ⟨_, rfl, ?_⟩))
  go_ret2
  exact ⟨by first | rfl | (simp; done) | (simp [*]; done) | (simp; omega), by repeat (first | exact Drawn0.refl _ | apply Drawn0.step)⟩

/-! ### pendulumref06_bit: function 104 -/
def pendulumref06_bit.f (a0 : Int) : Option (Int) := (pendulumref05_Mod.f a0 8).bind fun t144 => (if 0 ≤ (IntKind.u64.wrap (t144)) then (some (shl .u8 1 (IntKind.u64.wrap (t144)))) else (none))
set_option maxHeartbeats 8000000 in
set_option maxRecDepth 100000 in
theorem pendulumref06_bit.calls (a0 : Int) (r : Int) (w : World) (h : pendulumref06_bit.f a0 = some r) :
    Calls Try.prog 104 #[.int .i64 a0] w fun e w' => e = .returned (.int .u8 r) ∧ Drawn0 w w' := by
  have H : ((pendulumref05_Mod.f a0 8).bind fun t144 => (if 0 ≤ (IntKind.u64.wrap (t144)) then (some (shl .u8 1 (IntKind.u64.wrap (t144)))) else (none))) = some r := h
  clear h
  replace H := Option.bind_eq_some_iff.mp H
  obtain ⟨t144, A20, H⟩ := H
  replace H : (if 0 ≤ (IntKind.u64.wrap (t144)) then (some (shl .u8 1 (IntKind.u64.wrap (t144)))) else (none)) = some r := H
  have A2 := Aside0.mk A20
  clear A20
  obtain ⟨ji3, hji3⟩ : ∃ j_ : Int, (IntKind.u64.wrap (t144)) = j_ := ⟨_, rfl⟩
  replace H : (if 0 ≤ (ji3) then (some (shl .u8 1 (ji3))) else (none)) = some r := by first | (rw [hji3] at H; exact H) | (simp only [hji3] at H ⊢; exact H)
  (try rw [hji3] at A2)
  by_cases c4 : 0 ≤ (ji3)
  · rw [if_pos c4] at H
    have c4b0 := eq_true c4
    have c4b1 : decide (0 ≤ (ji3)) = true := decide_eq_true c4
    clear c4
    obtain ⟨ji5, hji5⟩ : ∃ j_ : Int, (shl .u8 1 (ji3)) = j_ := ⟨_, rfl⟩
    replace H : (some ji5) = some r := by first | (rw [hji5] at H; exact H) | (simp only [hji5] at H ⊢; exact H)
    (try rw [hji5] at A2)
    have hji5_ : (IntKind.u8.wrap (1 * 2 ^ min (ji3).toNat 8)) = ji5 := hji5
    have hji5z : (ji3) ≤ 8 → (IntKind.u8.wrap (1 * 2 ^ (ji3).toNat)) = ji5 := shl_small hji5
    have hji5u : (IntKind.u8.wrap (2 ^ min (ji3).toNat 8)) = ji5 := by have h_ := hji5_; rw [Int.one_mul] at h_; exact h_
    have hji5v : (ji3) ≤ 8 → (IntKind.u8.wrap (2 ^ (ji3).toNat)) = ji5 := fun hle_ => by have h_ := hji5z hle_; rw [Int.one_mul] at h_; exact h_
    obtain rfl := Option.some.inj H
    go_enter Try.func104, Try.ntmps104
    go_wp2_with (first | ((with_reducible refine gate_callee (f := 101) rfl ?_); refine goesL_ (some 4) rfl rfl Try.func101 (by kernel_rfl) rfl #[.int .i64 a0, .int .i64 8] rfl (by (try simp only [List.map_toArray, List.map_cons, List.map_nil]); first | done | rfl | (simp only [List.length_drop, List.length_take]; rfl)) ?_; (with_reducible refine (pendulumref05_Mod.calls a0 8 t144 _ A2.out).mono ?_); rintro e w' ⟨rfl, ⟨nd, rfl⟩⟩; refine ⟨_, rfl, ?_⟩))
    go_ret
    exact ⟨by first | rfl | (simp; done) | (simp only [← hji3, ← hji5] <;> (first | rfl | simp)) | (simp [*]; done) | (simp; omega), by repeat (first | exact Drawn0.refl _ | apply Drawn0.step)⟩
  · rw [if_neg c4] at H
    exact absurd H (by simp)

/-! ### pendulumref06_Bit: function 66 -/
def pendulumref06_Bit.f (a0 : Int) (a1 : Int) (a2 : Int) (a3 : Int) : Option (Int) := (pendulumref06_yx.f a2).bind fun t145 => ((pendulumref06_bit.f a0).bind fun t146 => (if (Go.bits .and .u8 a1 t146) = 0 then (some (Go.bits .or .u8 (Go.bits .or .u8 (Go.bits .or .u8 (Go.bits .or .u8 16 t145) (Go.bits .and .u8 a3 1)) 64) 4)) else ((pendulumref06_bit.f a0).bind fun t147 => (some (Go.bits .or .u8 (Go.bits .or .u8 (Go.bits .or .u8 16 t145) (Go.bits .and .u8 a3 1)) (Go.bits .and .u8 t147 128))))))
set_option maxHeartbeats 8000000 in
set_option maxRecDepth 100000 in
theorem pendulumref06_Bit.calls (a0 : Int) (a1 : Int) (a2 : Int) (a3 : Int) (r : Int) (w : World) (h : pendulumref06_Bit.f a0 a1 a2 a3 = some r) :
    Calls Try.prog 66 #[.int .i64 a0, .int .u8 a1, .int .u8 a2, .int .u8 a3] w fun e w' => e = .returned (.int .u8 r) ∧ Drawn0 w w' := by
  have H : ((pendulumref06_yx.f a2).bind fun t145 => ((pendulumref06_bit.f a0).bind fun t146 => (if (Go.bits .and .u8 a1 t146) = 0 then (some (Go.bits .or .u8 (Go.bits .or .u8 (Go.bits .or .u8 (Go.bits .or .u8 16 t145) (Go.bits .and .u8 a3 1)) 64) 4)) else ((pendulumref06_bit.f a0).bind fun t147 => (some (Go.bits .or .u8 (Go.bits .or .u8 (Go.bits .or .u8 16 t145) (Go.bits .and .u8 a3 1)) (Go.bits .and .u8 t147 128))))))) = some r := h
  clear h
  replace H := Option.bind_eq_some_iff.mp H
  obtain ⟨t145, A50, H⟩ := H
  replace H : ((pendulumref06_bit.f a0).bind fun t146 => (if (Go.bits .and .u8 a1 t146) = 0 then (some (Go.bits .or .u8 (Go.bits .or .u8 (Go.bits .or .u8 (Go.bits .or .u8 16 t145) (Go.bits .and .u8 a3 1)) 64) 4)) else ((pendulumref06_bit.f a0).bind fun t147 => (some (Go.bits .or .u8 (Go.bits .or .u8 (Go.bits .or .u8 16 t145) (Go.bits .and .u8 a3 1)) (Go.bits .and .u8 t147 128)))))) = some r := H
  have A5 := Aside0.mk A50
  clear A50
  replace H := Option.bind_eq_some_iff.mp H
  obtain ⟨t146, A60, H⟩ := H
  replace H : (if (Go.bits .and .u8 a1 t146) = 0 then (some (Go.bits .or .u8 (Go.bits .or .u8 (Go.bits .or .u8 (Go.bits .or .u8 16 t145) (Go.bits .and .u8 a3 1)) 64) 4)) else ((pendulumref06_bit.f a0).bind fun t147 => (some (Go.bits .or .u8 (Go.bits .or .u8 (Go.bits .or .u8 16 t145) (Go.bits .and .u8 a3 1)) (Go.bits .and .u8 t147 128))))) = some r := H
  have A6 := Aside0.mk A60
  clear A60
  by_cases c7 : (Go.bits .and .u8 a1 t146) = 0
  · rw [if_pos c7] at H
    have c7b0 : ((Go.bits .and .u8 a1 t146) == 0) = true := beq_iff_eq.mpr c7
    have c7b1 : ((Go.bits .and .u8 a1 t146) != 0) = false := bne_eq_false_iff_eq.mpr c7
    clear c7
    obtain rfl := Option.some.inj H
    go_enter Try.func66, Try.ntmps66
    go_wp2_with (first | ((with_reducible refine gate_callee (f := 103) rfl ?_); refine goesL_ (some 11) rfl rfl Try.func103 (by kernel_rfl) rfl #[.int .u8 a2] rfl (by (try simp only [List.map_toArray, List.map_cons, List.map_nil]); first | done | rfl | (simp only [List.length_drop, List.length_take]; rfl)) ?_; (with_reducible refine (pendulumref06_yx.calls a2 t145 _ A5.out).mono ?_); rintro e w' ⟨rfl, ⟨nd, rfl⟩⟩; refine ⟨_, rfl, ?_⟩) | ((with_reducible refine gate_callee (f := 104) rfl ?_); refine goesL_ (some 18) rfl rfl Try.func104 (by kernel_rfl) rfl #[.int .i64 a0] rfl (by (try simp only [List.map_toArray, List.map_cons, List.map_nil]); first | done | rfl | (simp only [List.length_drop, List.length_take]; rfl)) ?_; (with_reducible refine (pendulumref06_bit.calls a0 t146 _ A6.out).mono ?_); rintro e w' ⟨rfl, ⟨nd, rfl⟩⟩; refine ⟨_, rfl, ?_⟩))
    go_ret
    exact ⟨by first | rfl | (simp; done) | (simp [*]; done) | (simp; omega), by repeat (first | exact Drawn0.refl _ | apply Drawn0.step)⟩
  · rw [if_neg c7] at H
    have c7b0 : ((Go.bits .and .u8 a1 t146) == 0) = false := beq_eq_false_iff_ne.mpr c7
    have c7b1 : ((Go.bits .and .u8 a1 t146) != 0) = true := bne_iff_ne.mpr c7
    replace H := Option.bind_eq_some_iff.mp H
    obtain ⟨t147, A80, H⟩ := H
    replace H : (some (Go.bits .or .u8 (Go.bits .or .u8 (Go.bits .or .u8 16 t145) (Go.bits .and .u8 a3 1)) (Go.bits .and .u8 t147 128))) = some r := H
    have A8 := Aside0.mk A80
    clear A80
    obtain rfl := Option.some.inj H
    go_enter Try.func66, Try.ntmps66
    go_wp2_with (first | ((with_reducible refine gate_callee (f := 103) rfl ?_); refine goesL_ (some 11) rfl rfl Try.func103 (by kernel_rfl) rfl #[.int .u8 a2] rfl (by (try simp only [List.map_toArray, List.map_cons, List.map_nil]); first | done | rfl | (simp only [List.length_drop, List.length_take]; rfl)) ?_; (with_reducible refine (pendulumref06_yx.calls a2 t145 _ A5.out).mono ?_); rintro e w' ⟨rfl, ⟨nd, rfl⟩⟩; refine ⟨_, rfl, ?_⟩) | ((with_reducible refine gate_callee (f := 104) rfl ?_); refine goesL_ (some 18) rfl rfl Try.func104 (by kernel_rfl) rfl #[.int .i64 a0] rfl (by (try simp only [List.map_toArray, List.map_cons, List.map_nil]); first | done | rfl | (simp only [List.length_drop, List.length_take]; rfl)) ?_; (with_reducible refine (pendulumref06_bit.calls a0 t146 _ A6.out).mono ?_); rintro e w' ⟨rfl, ⟨nd, rfl⟩⟩; refine ⟨_, rfl, ?_⟩) | ((with_reducible refine gate_callee (f := 104) rfl ?_); refine goesL_ (some 26) rfl rfl Try.func104 (by kernel_rfl) rfl #[.int .i64 a0] rfl (by (try simp only [List.map_toArray, List.map_cons, List.map_nil]); first | done | rfl | (simp only [List.length_drop, List.length_take]; rfl)) ?_; (with_reducible refine (pendulumref06_bit.calls a0 t147 _ A8.out).mono ?_); rintro e w' ⟨rfl, ⟨nd, rfl⟩⟩; refine ⟨_, rfl, ?_⟩))
    go_ret
    exact ⟨by first | rfl | (simp; done) | (simp [*]; done) | (simp; omega), by repeat (first | exact Drawn0.refl _ | apply Drawn0.step)⟩

/-! ### pendulumref06_Res: function 67 -/
def pendulumref06_Res.f (a0 : Int) (a1 : Int) : Option (Int) := (pendulumref06_bit.f a0).bind fun t148 => (some (Go.bits .andNot .u8 a1 t148))
set_option maxHeartbeats 8000000 in
set_option maxRecDepth 100000 in
theorem pendulumref06_Res.calls (a0 : Int) (a1 : Int) (r : Int) (w : World) (h : pendulumref06_Res.f a0 a1 = some r) :
    Calls Try.prog 67 #[.int .i64 a0, .int .u8 a1] w fun e w' => e = .returned (.int .u8 r) ∧ Drawn0 w w' := by
  have H : ((pendulumref06_bit.f a0).bind fun t148 => (some (Go.bits .andNot .u8 a1 t148))) = some r := h
  clear h
  replace H := Option.bind_eq_some_iff.mp H
  obtain ⟨t148, A30, H⟩ := H
  replace H : (some (Go.bits .andNot .u8 a1 t148)) = some r := H
  have A3 := Aside0.mk A30
  clear A30
  obtain rfl := Option.some.inj H
  go_enter Try.func67, Try.ntmps67
  go_wp2_with (first | ((with_reducible refine gate_callee (f := 104) rfl ?_); refine goesL_ (some 7) rfl rfl Try.func104 (by kernel_rfl) rfl #[.int .i64 a0] rfl (by (try simp only [List.map_toArray, List.map_cons, List.map_nil]); first | done | rfl | (simp only [List.length_drop, List.length_take]; rfl)) ?_; (with_reducible refine (pendulumref06_bit.calls a0 t148 _ A3.out).mono ?_); rintro e w' ⟨rfl, ⟨nd, rfl⟩⟩; refine ⟨_, rfl, ?_⟩))
  go_ret
  exact ⟨by first | rfl | (simp; done) | (simp [*]; done) | (simp; omega), by repeat (first | exact Drawn0.refl _ | apply Drawn0.step)⟩

/-! ### pendulumref06_Set: function 68 -/
def pendulumref06_Set.f (a0 : Int) (a1 : Int) : Option (Int) := (pendulumref06_bit.f a0).bind fun t149 => (some (Go.bits .or .u8 a1 t149))
set_option maxHeartbeats 8000000 in
set_option maxRecDepth 100000 in
theorem pendulumref06_Set.calls (a0 : Int) (a1 : Int) (r : Int) (w : World) (h : pendulumref06_Set.f a0 a1 = some r) :
    Calls Try.prog 68 #[.int .i64 a0, .int .u8 a1] w fun e w' => e = .returned (.int .u8 r) ∧ Drawn0 w w' := by
  have H : ((pendulumref06_bit.f a0).bind fun t149 => (some (Go.bits .or .u8 a1 t149))) = some r := h
  clear h
  replace H := Option.bind_eq_some_iff.mp H
  obtain ⟨t149, A30, H⟩ := H
  replace H : (some (Go.bits .or .u8 a1 t149)) = some r := H
  have A3 := Aside0.mk A30
  clear A30
  obtain rfl := Option.some.inj H
  go_enter Try.func68, Try.ntmps68
  go_wp2_with (first | ((with_reducible refine gate_callee (f := 104) rfl ?_); refine goesL_ (some 7) rfl rfl Try.func104 (by kernel_rfl) rfl #[.int .i64 a0] rfl (by (try simp only [List.map_toArray, List.map_cons, List.map_nil]); first | done | rfl | (simp only [List.length_drop, List.length_take]; rfl)) ?_; (with_reducible refine (pendulumref06_bit.calls a0 t149 _ A3.out).mono ?_); rintro e w' ⟨rfl, ⟨nd, rfl⟩⟩; refine ⟨_, rfl, ?_⟩))
  go_ret
  exact ⟨by first | rfl | (simp; done) | (simp [*]; done) | (simp; omega), by repeat (first | exact Drawn0.refl _ | apply Drawn0.step)⟩

/-! ### pendulumlaw06_ShiftCalls: function 16 -/
def pendulumlaw06_ShiftCalls.f (k : Nat) (a0 : Int) (a1 : Int) (a2 : Int) (a3 : Int) (a4 : Int) : Option (Bool) := (pendulumlaw06_lives.f k).bind fun t150 => (if t150 = true then ((shift_Shift.f k a0 a2 a4).bind fun bt151 => ((pendulumref06_Shift.f k a0 a2 a4).bind fun bt153 => ((shift_Turn.f k a0 a2 a4).bind fun bt155 => ((pendulumref06_Turn.f k a0 a2 a4).bind fun bt157 => (if bt151.1 = bt153.1 then (if bt151.2 = bt153.2 then (if bt155.1 = bt157.1 then (if bt155.2 = bt157.2 then ((shift_Bit.f a1 a2 a3 a4).bind fun t159 => ((pendulumref06_Bit.f a1 a2 a3 a4).bind fun t160 => (if t159 = t160 then ((shift_Res.f a1 a2).bind fun t161 => ((pendulumref06_Res.f a1 a2).bind fun t162 => (if t161 = t162 then ((shift_Set.f a1 a2).bind fun t163 => ((pendulumref06_Set.f a1 a2).bind fun t164 => (some (t163 == t164)))) else (some false)))) else (some false)))) else (some false)) else (some false)) else (some false)) else (some false)))))) else (some false))
theorem pendulumlaw06_ShiftCalls.mono : ∀ a0 a1 a2 a3 a4 k, LeO (pendulumlaw06_ShiftCalls.f k a0 a1 a2 a3 a4) (pendulumlaw06_ShiftCalls.f (k + 1) a0 a1 a2 a3 a4) := by
  intro a0 a1 a2 a3 a4 k
  unfold pendulumlaw06_ShiftCalls.f
  repeat' first
      | (with_reducible exact pendulumlaw06_lives.mono _)
      | (with_reducible exact pendulumref06_Shift.mono _ _ _ _)
      | (with_reducible exact pendulumref06_Turn.mono _ _ _ _)
      | (with_reducible exact shift_Shift.mono _ _ _ _)
      | (with_reducible exact shift_Turn.mono _ _ _ _)
      | (with_reducible exact LeO.refl _)
      | (with_reducible exact LeO.none _)
      | (with_reducible refine LeO.ite ?_ ?_)
      | (with_reducible refine LeO.bind ?_ (fun _ => ?_))
      | exact pendulumlaw06_lives.mono _
      | exact pendulumref06_Shift.mono _ _ _ _
      | exact pendulumref06_Turn.mono _ _ _ _
      | exact shift_Shift.mono _ _ _ _
      | exact shift_Turn.mono _ _ _ _
      | exact LeO.none _
      | refine LeO.ite ?_ ?_
      | refine LeO.bind ?_ (fun _ => ?_)
set_option maxHeartbeats 8000000 in
set_option maxRecDepth 100000 in
theorem pendulumlaw06_ShiftCalls.calls (k : Nat) (a0 : Int) (a1 : Int) (a2 : Int) (a3 : Int) (a4 : Int) (r : Bool) (w : World) (h : pendulumlaw06_ShiftCalls.f k a0 a1 a2 a3 a4 = some r) :
    Calls Try.prog 16 #[.int .i64 a0, .int .i64 a1, .int .u8 a2, .int .u8 a3, .int .u8 a4] w fun e w' => e = .returned (.bool r) ∧ Drawn0 w w' := by
  have H : ((pendulumlaw06_lives.f k).bind fun t150 => (if t150 = true then ((shift_Shift.f k a0 a2 a4).bind fun bt151 => ((pendulumref06_Shift.f k a0 a2 a4).bind fun bt153 => ((shift_Turn.f k a0 a2 a4).bind fun bt155 => ((pendulumref06_Turn.f k a0 a2 a4).bind fun bt157 => (if bt151.1 = bt153.1 then (if bt151.2 = bt153.2 then (if bt155.1 = bt157.1 then (if bt155.2 = bt157.2 then ((shift_Bit.f a1 a2 a3 a4).bind fun t159 => ((pendulumref06_Bit.f a1 a2 a3 a4).bind fun t160 => (if t159 = t160 then ((shift_Res.f a1 a2).bind fun t161 => ((pendulumref06_Res.f a1 a2).bind fun t162 => (if t161 = t162 then ((shift_Set.f a1 a2).bind fun t163 => ((pendulumref06_Set.f a1 a2).bind fun t164 => (some (t163 == t164)))) else (some false)))) else (some false)))) else (some false)) else (some false)) else (some false)) else (some false)))))) else (some false))) = some r := h
  clear h
  replace H := Option.bind_eq_some_iff.mp H
  obtain ⟨t150, A60, H⟩ := H
  replace H : (if t150 = true then ((shift_Shift.f k a0 a2 a4).bind fun bt151 => ((pendulumref06_Shift.f k a0 a2 a4).bind fun bt153 => ((shift_Turn.f k a0 a2 a4).bind fun bt155 => ((pendulumref06_Turn.f k a0 a2 a4).bind fun bt157 => (if bt151.1 = bt153.1 then (if bt151.2 = bt153.2 then (if bt155.1 = bt157.1 then (if bt155.2 = bt157.2 then ((shift_Bit.f a1 a2 a3 a4).bind fun t159 => ((pendulumref06_Bit.f a1 a2 a3 a4).bind fun t160 => (if t159 = t160 then ((shift_Res.f a1 a2).bind fun t161 => ((pendulumref06_Res.f a1 a2).bind fun t162 => (if t161 = t162 then ((shift_Set.f a1 a2).bind fun t163 => ((pendulumref06_Set.f a1 a2).bind fun t164 => (some (t163 == t164)))) else (some false)))) else (some false)))) else (some false)) else (some false)) else (some false)) else (some false)))))) else (some false)) = some r := H
  have A6 := Aside0.mk A60
  clear A60
  by_cases c7 : t150 = true
  · subst c7
    have H1 : ((shift_Shift.f k a0 a2 a4).bind fun bt151 => ((pendulumref06_Shift.f k a0 a2 a4).bind fun bt153 => ((shift_Turn.f k a0 a2 a4).bind fun bt155 => ((pendulumref06_Turn.f k a0 a2 a4).bind fun bt157 => (if bt151.1 = bt153.1 then (if bt151.2 = bt153.2 then (if bt155.1 = bt157.1 then (if bt155.2 = bt157.2 then ((shift_Bit.f a1 a2 a3 a4).bind fun t159 => ((pendulumref06_Bit.f a1 a2 a3 a4).bind fun t160 => (if t159 = t160 then ((shift_Res.f a1 a2).bind fun t161 => ((pendulumref06_Res.f a1 a2).bind fun t162 => (if t161 = t162 then ((shift_Set.f a1 a2).bind fun t163 => ((pendulumref06_Set.f a1 a2).bind fun t164 => (some (t163 == t164)))) else (some false)))) else (some false)))) else (some false)) else (some false)) else (some false)) else (some false)))))) = some r := by rw [if_pos rfl] at H; exact H
    clear H
    have H := H1
    clear H1
    replace H := Option.bind_eq_some_iff.mp H
    obtain ⟨⟨t151, t152⟩, A80, H⟩ := H
    replace H : ((pendulumref06_Shift.f k a0 a2 a4).bind fun bt153 => ((shift_Turn.f k a0 a2 a4).bind fun bt155 => ((pendulumref06_Turn.f k a0 a2 a4).bind fun bt157 => (if t151 = bt153.1 then (if t152 = bt153.2 then (if bt155.1 = bt157.1 then (if bt155.2 = bt157.2 then ((shift_Bit.f a1 a2 a3 a4).bind fun t159 => ((pendulumref06_Bit.f a1 a2 a3 a4).bind fun t160 => (if t159 = t160 then ((shift_Res.f a1 a2).bind fun t161 => ((pendulumref06_Res.f a1 a2).bind fun t162 => (if t161 = t162 then ((shift_Set.f a1 a2).bind fun t163 => ((pendulumref06_Set.f a1 a2).bind fun t164 => (some (t163 == t164)))) else (some false)))) else (some false)))) else (some false)) else (some false)) else (some false)) else (some false))))) = some r := H
    have A8 := Aside0.mk A80
    clear A80
    replace H := Option.bind_eq_some_iff.mp H
    obtain ⟨⟨t153, t154⟩, A90, H⟩ := H
    replace H : ((shift_Turn.f k a0 a2 a4).bind fun bt155 => ((pendulumref06_Turn.f k a0 a2 a4).bind fun bt157 => (if t151 = t153 then (if t152 = t154 then (if bt155.1 = bt157.1 then (if bt155.2 = bt157.2 then ((shift_Bit.f a1 a2 a3 a4).bind fun t159 => ((pendulumref06_Bit.f a1 a2 a3 a4).bind fun t160 => (if t159 = t160 then ((shift_Res.f a1 a2).bind fun t161 => ((pendulumref06_Res.f a1 a2).bind fun t162 => (if t161 = t162 then ((shift_Set.f a1 a2).bind fun t163 => ((pendulumref06_Set.f a1 a2).bind fun t164 => (some (t163 == t164)))) else (some false)))) else (some false)))) else (some false)) else (some false)) else (some false)) else (some false)))) = some r := H
    have A9 := Aside0.mk A90
    clear A90
    replace H := Option.bind_eq_some_iff.mp H
    obtain ⟨⟨t155, t156⟩, A100, H⟩ := H
    replace H : ((pendulumref06_Turn.f k a0 a2 a4).bind fun bt157 => (if t151 = t153 then (if t152 = t154 then (if t155 = bt157.1 then (if t156 = bt157.2 then ((shift_Bit.f a1 a2 a3 a4).bind fun t159 => ((pendulumref06_Bit.f a1 a2 a3 a4).bind fun t160 => (if t159 = t160 then ((shift_Res.f a1 a2).bind fun t161 => ((pendulumref06_Res.f a1 a2).bind fun t162 => (if t161 = t162 then ((shift_Set.f a1 a2).bind fun t163 => ((pendulumref06_Set.f a1 a2).bind fun t164 => (some (t163 == t164)))) else (some false)))) else (some false)))) else (some false)) else (some false)) else (some false)) else (some false))) = some r := H
    have A10 := Aside0.mk A100
    clear A100
    replace H := Option.bind_eq_some_iff.mp H
    obtain ⟨⟨t157, t158⟩, A110, H⟩ := H
    replace H : (if t151 = t153 then (if t152 = t154 then (if t155 = t157 then (if t156 = t158 then ((shift_Bit.f a1 a2 a3 a4).bind fun t159 => ((pendulumref06_Bit.f a1 a2 a3 a4).bind fun t160 => (if t159 = t160 then ((shift_Res.f a1 a2).bind fun t161 => ((pendulumref06_Res.f a1 a2).bind fun t162 => (if t161 = t162 then ((shift_Set.f a1 a2).bind fun t163 => ((pendulumref06_Set.f a1 a2).bind fun t164 => (some (t163 == t164)))) else (some false)))) else (some false)))) else (some false)) else (some false)) else (some false)) else (some false)) = some r := H
    have A11 := Aside0.mk A110
    clear A110
    by_cases c12 : t151 = t153
    · rw [if_pos c12] at H
      have c12b0 : (t151 == t153) = true := beq_iff_eq.mpr c12
      have c12b1 : (t151 != t153) = false := bne_eq_false_iff_eq.mpr c12
      clear c12
      by_cases c13 : t152 = t154
      · rw [if_pos c13] at H
        have c13b0 : (t152 == t154) = true := beq_iff_eq.mpr c13
        have c13b1 : (t152 != t154) = false := bne_eq_false_iff_eq.mpr c13
        clear c13
        by_cases c14 : t155 = t157
        · rw [if_pos c14] at H
          have c14b0 : (t155 == t157) = true := beq_iff_eq.mpr c14
          have c14b1 : (t155 != t157) = false := bne_eq_false_iff_eq.mpr c14
          clear c14
          by_cases c15 : t156 = t158
          · rw [if_pos c15] at H
            have c15b0 : (t156 == t158) = true := beq_iff_eq.mpr c15
            have c15b1 : (t156 != t158) = false := bne_eq_false_iff_eq.mpr c15
            clear c15
            replace H := Option.bind_eq_some_iff.mp H
            obtain ⟨t159, A160, H⟩ := H
            replace H : ((pendulumref06_Bit.f a1 a2 a3 a4).bind fun t160 => (if t159 = t160 then ((shift_Res.f a1 a2).bind fun t161 => ((pendulumref06_Res.f a1 a2).bind fun t162 => (if t161 = t162 then ((shift_Set.f a1 a2).bind fun t163 => ((pendulumref06_Set.f a1 a2).bind fun t164 => (some (t163 == t164)))) else (some false)))) else (some false))) = some r := H
            have A16 := Aside0.mk A160
            clear A160
            replace H := Option.bind_eq_some_iff.mp H
            obtain ⟨t160, A170, H⟩ := H
            replace H : (if t159 = t160 then ((shift_Res.f a1 a2).bind fun t161 => ((pendulumref06_Res.f a1 a2).bind fun t162 => (if t161 = t162 then ((shift_Set.f a1 a2).bind fun t163 => ((pendulumref06_Set.f a1 a2).bind fun t164 => (some (t163 == t164)))) else (some false)))) else (some false)) = some r := H
            have A17 := Aside0.mk A170
            clear A170
            by_cases c18 : t159 = t160
            · rw [if_pos c18] at H
              have c18b0 : (t159 == t160) = true := beq_iff_eq.mpr c18
              have c18b1 : (t159 != t160) = false := bne_eq_false_iff_eq.mpr c18
              clear c18
              replace H := Option.bind_eq_some_iff.mp H
              obtain ⟨t161, A190, H⟩ := H
              replace H : ((pendulumref06_Res.f a1 a2).bind fun t162 => (if t161 = t162 then ((shift_Set.f a1 a2).bind fun t163 => ((pendulumref06_Set.f a1 a2).bind fun t164 => (some (t163 == t164)))) else (some false))) = some r := H
              have A19 := Aside0.mk A190
              clear A190
              replace H := Option.bind_eq_some_iff.mp H
              obtain ⟨t162, A200, H⟩ := H
              replace H : (if t161 = t162 then ((shift_Set.f a1 a2).bind fun t163 => ((pendulumref06_Set.f a1 a2).bind fun t164 => (some (t163 == t164)))) else (some false)) = some r := H
              have A20 := Aside0.mk A200
              clear A200
              by_cases c21 : t161 = t162
              · rw [if_pos c21] at H
                have c21b0 : (t161 == t162) = true := beq_iff_eq.mpr c21
                have c21b1 : (t161 != t162) = false := bne_eq_false_iff_eq.mpr c21
                clear c21
                replace H := Option.bind_eq_some_iff.mp H
                obtain ⟨t163, A220, H⟩ := H
                replace H : ((pendulumref06_Set.f a1 a2).bind fun t164 => (some (t163 == t164))) = some r := H
                have A22 := Aside0.mk A220
                clear A220
                replace H := Option.bind_eq_some_iff.mp H
                obtain ⟨t164, A230, H⟩ := H
                replace H : (some (t163 == t164)) = some r := H
                have A23 := Aside0.mk A230
                clear A230
                obtain rfl := Option.some.inj H
                go_enter Try.func16, Try.ntmps16
                go_wp2_with (first | ((with_reducible refine gate_callee (f := 51) rfl ?_); refine goesL_ (some 19) rfl rfl Try.func51 (by kernel_rfl) rfl #[] rfl (by (try simp only [List.map_toArray, List.map_cons, List.map_nil]); first | done | rfl | (simp only [List.length_drop, List.length_take]; rfl)) ?_; (with_reducible refine (pendulumlaw06_lives.calls k  true _ A6.out).mono ?_); rintro e w' ⟨rfl, ⟨nd, rfl⟩⟩; refine ⟨_, rfl, ?_⟩) | ((with_reducible refine gate_callee (f := 52) rfl ?_); refine goesL_ (some 25) rfl rfl Try.func52 (by kernel_rfl) rfl #[.int .i64 a0, .int .u8 a2, .int .u8 a4] rfl (by (try simp only [List.map_toArray, List.map_cons, List.map_nil]); first | done | rfl | (simp only [List.length_drop, List.length_take]; rfl)) ?_; (with_reducible refine (shift_Shift.calls k a0 a2 a4 t151 t152 _ A8.out).mono ?_); rintro e w' ⟨rfl, ⟨nd, rfl⟩⟩; refine ⟨_, rfl, ?_⟩) | ((with_reducible refine gate_callee (f := 63) rfl ?_); refine goesL_ (some 32) rfl rfl Try.func63 (by kernel_rfl) rfl #[.int .i64 a0, .int .u8 a2, .int .u8 a4] rfl (by (try simp only [List.map_toArray, List.map_cons, List.map_nil]); first | done | rfl | (simp only [List.length_drop, List.length_take]; rfl)) ?_; (with_reducible refine (pendulumref06_Shift.calls k a0 a2 a4 t153 t154 _ A9.out).mono ?_); rintro e w' ⟨rfl, ⟨nd, rfl⟩⟩; refine ⟨_, rfl, ?_⟩) | ((with_reducible refine gate_callee (f := 64) rfl ?_); refine goesL_ (some 39) rfl rfl Try.func64 (by kernel_rfl) rfl #[.int .i64 a0, .int .u8 a2, .int .u8 a4] rfl (by (try simp only [List.map_toArray, List.map_cons, List.map_nil]); first | done | rfl | (simp only [List.length_drop, List.length_take]; rfl)) ?_; (with_reducible refine (shift_Turn.calls k a0 a2 a4 t155 t156 _ A10.out).mono ?_); rintro e w' ⟨rfl, ⟨nd, rfl⟩⟩; refine ⟨_, rfl, ?_⟩) | ((with_reducible refine gate_callee (f := 65) rfl ?_); refine goesL_ (some 46) rfl rfl Try.func65 (by kernel_rfl) rfl #[.int .i64 a0, .int .u8 a2, .int .u8 a4] rfl (by (try simp only [List.map_toArray, List.map_cons, List.map_nil]); first | done | rfl | (simp only [List.length_drop, List.length_take]; rfl)) ?_; (with_reducible refine (pendulumref06_Turn.calls k a0 a2 a4 t157 t158 _ A11.out).mono ?_); rintro e w' ⟨rfl, ⟨nd, rfl⟩⟩; refine ⟨_, rfl, ?_⟩) | (go_at_call 60; (with_reducible refine (shift_Bit.calls a1 a2 a3 a4 t159 _ A16.out).mono ?_); rintro e w' ⟨rfl, ⟨nd, rfl⟩⟩) | (go_at_call 66; (with_reducible refine (pendulumref06_Bit.calls a1 a2 a3 a4 t160 _ A17.out).mono ?_); rintro e w' ⟨rfl, ⟨nd, rfl⟩⟩) | (go_at_call 62; (with_reducible refine (shift_Res.calls a1 a2 t161 _ A19.out).mono ?_); rintro e w' ⟨rfl, ⟨nd, rfl⟩⟩) | (go_at_call 67; (with_reducible refine (pendulumref06_Res.calls a1 a2 t162 _ A20.out).mono ?_); rintro e w' ⟨rfl, ⟨nd, rfl⟩⟩) | (go_at_call 61; (with_reducible refine (shift_Set.calls a1 a2 t163 _ A22.out).mono ?_); rintro e w' ⟨rfl, ⟨nd, rfl⟩⟩) | (go_at_call 68; (with_reducible refine (pendulumref06_Set.calls a1 a2 t164 _ A23.out).mono ?_); rintro e w' ⟨rfl, ⟨nd, rfl⟩⟩))
                go_ret
                exact ⟨by first | rfl | (simp; done) | (simp [*]; done) | (simp; omega), by repeat (first | exact Drawn0.refl _ | apply Drawn0.step)⟩
              · rw [if_neg c21] at H
                have c21b0 : (t161 == t162) = false := beq_eq_false_iff_ne.mpr c21
                have c21b1 : (t161 != t162) = true := bne_iff_ne.mpr c21
                obtain rfl := Option.some.inj H
                go_enter Try.func16, Try.ntmps16
                go_wp2_with (first | ((with_reducible refine gate_callee (f := 51) rfl ?_); refine goesL_ (some 19) rfl rfl Try.func51 (by kernel_rfl) rfl #[] rfl (by (try simp only [List.map_toArray, List.map_cons, List.map_nil]); first | done | rfl | (simp only [List.length_drop, List.length_take]; rfl)) ?_; (with_reducible refine (pendulumlaw06_lives.calls k  true _ A6.out).mono ?_); rintro e w' ⟨rfl, ⟨nd, rfl⟩⟩; refine ⟨_, rfl, ?_⟩) | ((with_reducible refine gate_callee (f := 52) rfl ?_); refine goesL_ (some 25) rfl rfl Try.func52 (by kernel_rfl) rfl #[.int .i64 a0, .int .u8 a2, .int .u8 a4] rfl (by (try simp only [List.map_toArray, List.map_cons, List.map_nil]); first | done | rfl | (simp only [List.length_drop, List.length_take]; rfl)) ?_; (with_reducible refine (shift_Shift.calls k a0 a2 a4 t151 t152 _ A8.out).mono ?_); rintro e w' ⟨rfl, ⟨nd, rfl⟩⟩; refine ⟨_, rfl, ?_⟩) | ((with_reducible refine gate_callee (f := 63) rfl ?_); refine goesL_ (some 32) rfl rfl Try.func63 (by kernel_rfl) rfl #[.int .i64 a0, .int .u8 a2, .int .u8 a4] rfl (by (try simp only [List.map_toArray, List.map_cons, List.map_nil]); first | done | rfl | (simp only [List.length_drop, List.length_take]; rfl)) ?_; (with_reducible refine (pendulumref06_Shift.calls k a0 a2 a4 t153 t154 _ A9.out).mono ?_); rintro e w' ⟨rfl, ⟨nd, rfl⟩⟩; refine ⟨_, rfl, ?_⟩) | ((with_reducible refine gate_callee (f := 64) rfl ?_); refine goesL_ (some 39) rfl rfl Try.func64 (by kernel_rfl) rfl #[.int .i64 a0, .int .u8 a2, .int .u8 a4] rfl (by (try simp only [List.map_toArray, List.map_cons, List.map_nil]); first | done | rfl | (simp only [List.length_drop, List.length_take]; rfl)) ?_; (with_reducible refine (shift_Turn.calls k a0 a2 a4 t155 t156 _ A10.out).mono ?_); rintro e w' ⟨rfl, ⟨nd, rfl⟩⟩; refine ⟨_, rfl, ?_⟩) | ((with_reducible refine gate_callee (f := 65) rfl ?_); refine goesL_ (some 46) rfl rfl Try.func65 (by kernel_rfl) rfl #[.int .i64 a0, .int .u8 a2, .int .u8 a4] rfl (by (try simp only [List.map_toArray, List.map_cons, List.map_nil]); first | done | rfl | (simp only [List.length_drop, List.length_take]; rfl)) ?_; (with_reducible refine (pendulumref06_Turn.calls k a0 a2 a4 t157 t158 _ A11.out).mono ?_); rintro e w' ⟨rfl, ⟨nd, rfl⟩⟩; refine ⟨_, rfl, ?_⟩) | (go_at_call 60; (with_reducible refine (shift_Bit.calls a1 a2 a3 a4 t159 _ A16.out).mono ?_); rintro e w' ⟨rfl, ⟨nd, rfl⟩⟩) | (go_at_call 66; (with_reducible refine (pendulumref06_Bit.calls a1 a2 a3 a4 t160 _ A17.out).mono ?_); rintro e w' ⟨rfl, ⟨nd, rfl⟩⟩) | (go_at_call 62; (with_reducible refine (shift_Res.calls a1 a2 t161 _ A19.out).mono ?_); rintro e w' ⟨rfl, ⟨nd, rfl⟩⟩) | (go_at_call 67; (with_reducible refine (pendulumref06_Res.calls a1 a2 t162 _ A20.out).mono ?_); rintro e w' ⟨rfl, ⟨nd, rfl⟩⟩))
                go_ret
                exact ⟨by first | rfl | (simp; done) | (simp [*]; done) | (simp; omega), by repeat (first | exact Drawn0.refl _ | apply Drawn0.step)⟩
            · rw [if_neg c18] at H
              have c18b0 : (t159 == t160) = false := beq_eq_false_iff_ne.mpr c18
              have c18b1 : (t159 != t160) = true := bne_iff_ne.mpr c18
              obtain rfl := Option.some.inj H
              go_enter Try.func16, Try.ntmps16
              go_wp2_with (first | ((with_reducible refine gate_callee (f := 51) rfl ?_); refine goesL_ (some 19) rfl rfl Try.func51 (by kernel_rfl) rfl #[] rfl (by (try simp only [List.map_toArray, List.map_cons, List.map_nil]); first | done | rfl | (simp only [List.length_drop, List.length_take]; rfl)) ?_; (with_reducible refine (pendulumlaw06_lives.calls k  true _ A6.out).mono ?_); rintro e w' ⟨rfl, ⟨nd, rfl⟩⟩; refine ⟨_, rfl, ?_⟩) | ((with_reducible refine gate_callee (f := 52) rfl ?_); refine goesL_ (some 25) rfl rfl Try.func52 (by kernel_rfl) rfl #[.int .i64 a0, .int .u8 a2, .int .u8 a4] rfl (by (try simp only [List.map_toArray, List.map_cons, List.map_nil]); first | done | rfl | (simp only [List.length_drop, List.length_take]; rfl)) ?_; (with_reducible refine (shift_Shift.calls k a0 a2 a4 t151 t152 _ A8.out).mono ?_); rintro e w' ⟨rfl, ⟨nd, rfl⟩⟩; refine ⟨_, rfl, ?_⟩) | ((with_reducible refine gate_callee (f := 63) rfl ?_); refine goesL_ (some 32) rfl rfl Try.func63 (by kernel_rfl) rfl #[.int .i64 a0, .int .u8 a2, .int .u8 a4] rfl (by (try simp only [List.map_toArray, List.map_cons, List.map_nil]); first | done | rfl | (simp only [List.length_drop, List.length_take]; rfl)) ?_; (with_reducible refine (pendulumref06_Shift.calls k a0 a2 a4 t153 t154 _ A9.out).mono ?_); rintro e w' ⟨rfl, ⟨nd, rfl⟩⟩; refine ⟨_, rfl, ?_⟩) | ((with_reducible refine gate_callee (f := 64) rfl ?_); refine goesL_ (some 39) rfl rfl Try.func64 (by kernel_rfl) rfl #[.int .i64 a0, .int .u8 a2, .int .u8 a4] rfl (by (try simp only [List.map_toArray, List.map_cons, List.map_nil]); first | done | rfl | (simp only [List.length_drop, List.length_take]; rfl)) ?_; (with_reducible refine (shift_Turn.calls k a0 a2 a4 t155 t156 _ A10.out).mono ?_); rintro e w' ⟨rfl, ⟨nd, rfl⟩⟩; refine ⟨_, rfl, ?_⟩) | ((with_reducible refine gate_callee (f := 65) rfl ?_); refine goesL_ (some 46) rfl rfl Try.func65 (by kernel_rfl) rfl #[.int .i64 a0, .int .u8 a2, .int .u8 a4] rfl (by (try simp only [List.map_toArray, List.map_cons, List.map_nil]); first | done | rfl | (simp only [List.length_drop, List.length_take]; rfl)) ?_; (with_reducible refine (pendulumref06_Turn.calls k a0 a2 a4 t157 t158 _ A11.out).mono ?_); rintro e w' ⟨rfl, ⟨nd, rfl⟩⟩; refine ⟨_, rfl, ?_⟩) | (go_at_call 60; (with_reducible refine (shift_Bit.calls a1 a2 a3 a4 t159 _ A16.out).mono ?_); rintro e w' ⟨rfl, ⟨nd, rfl⟩⟩) | (go_at_call 66; (with_reducible refine (pendulumref06_Bit.calls a1 a2 a3 a4 t160 _ A17.out).mono ?_); rintro e w' ⟨rfl, ⟨nd, rfl⟩⟩))
              go_ret
              exact ⟨by first | rfl | (simp; done) | (simp [*]; done) | (simp; omega), by repeat (first | exact Drawn0.refl _ | apply Drawn0.step)⟩
          · rw [if_neg c15] at H
            have c15b0 : (t156 == t158) = false := beq_eq_false_iff_ne.mpr c15
            have c15b1 : (t156 != t158) = true := bne_iff_ne.mpr c15
            obtain rfl := Option.some.inj H
            go_enter Try.func16, Try.ntmps16
            go_wp2_with (first | ((with_reducible refine gate_callee (f := 51) rfl ?_); refine goesL_ (some 19) rfl rfl Try.func51 (by kernel_rfl) rfl #[] rfl (by (try simp only [List.map_toArray, List.map_cons, List.map_nil]); first | done | rfl | (simp only [List.length_drop, List.length_take]; rfl)) ?_; (with_reducible refine (pendulumlaw06_lives.calls k  true _ A6.out).mono ?_); rintro e w' ⟨rfl, ⟨nd, rfl⟩⟩; refine ⟨_, rfl, ?_⟩) | ((with_reducible refine gate_callee (f := 52) rfl ?_); refine goesL_ (some 25) rfl rfl Try.func52 (by kernel_rfl) rfl #[.int .i64 a0, .int .u8 a2, .int .u8 a4] rfl (by (try simp only [List.map_toArray, List.map_cons, List.map_nil]); first | done | rfl | (simp only [List.length_drop, List.length_take]; rfl)) ?_; (with_reducible refine (shift_Shift.calls k a0 a2 a4 t151 t152 _ A8.out).mono ?_); rintro e w' ⟨rfl, ⟨nd, rfl⟩⟩; refine ⟨_, rfl, ?_⟩) | ((with_reducible refine gate_callee (f := 63) rfl ?_); refine goesL_ (some 32) rfl rfl Try.func63 (by kernel_rfl) rfl #[.int .i64 a0, .int .u8 a2, .int .u8 a4] rfl (by (try simp only [List.map_toArray, List.map_cons, List.map_nil]); first | done | rfl | (simp only [List.length_drop, List.length_take]; rfl)) ?_; (with_reducible refine (pendulumref06_Shift.calls k a0 a2 a4 t153 t154 _ A9.out).mono ?_); rintro e w' ⟨rfl, ⟨nd, rfl⟩⟩; refine ⟨_, rfl, ?_⟩) | ((with_reducible refine gate_callee (f := 64) rfl ?_); refine goesL_ (some 39) rfl rfl Try.func64 (by kernel_rfl) rfl #[.int .i64 a0, .int .u8 a2, .int .u8 a4] rfl (by (try simp only [List.map_toArray, List.map_cons, List.map_nil]); first | done | rfl | (simp only [List.length_drop, List.length_take]; rfl)) ?_; (with_reducible refine (shift_Turn.calls k a0 a2 a4 t155 t156 _ A10.out).mono ?_); rintro e w' ⟨rfl, ⟨nd, rfl⟩⟩; refine ⟨_, rfl, ?_⟩) | ((with_reducible refine gate_callee (f := 65) rfl ?_); refine goesL_ (some 46) rfl rfl Try.func65 (by kernel_rfl) rfl #[.int .i64 a0, .int .u8 a2, .int .u8 a4] rfl (by (try simp only [List.map_toArray, List.map_cons, List.map_nil]); first | done | rfl | (simp only [List.length_drop, List.length_take]; rfl)) ?_; (with_reducible refine (pendulumref06_Turn.calls k a0 a2 a4 t157 t158 _ A11.out).mono ?_); rintro e w' ⟨rfl, ⟨nd, rfl⟩⟩; refine ⟨_, rfl, ?_⟩))
            go_ret
            exact ⟨by first | rfl | (simp; done) | (simp [*]; done) | (simp; omega), by repeat (first | exact Drawn0.refl _ | apply Drawn0.step)⟩
        · rw [if_neg c14] at H
          have c14b0 : (t155 == t157) = false := beq_eq_false_iff_ne.mpr c14
          have c14b1 : (t155 != t157) = true := bne_iff_ne.mpr c14
          obtain rfl := Option.some.inj H
          go_enter Try.func16, Try.ntmps16
          go_wp2_with (first | ((with_reducible refine gate_callee (f := 51) rfl ?_); refine goesL_ (some 19) rfl rfl Try.func51 (by kernel_rfl) rfl #[] rfl (by (try simp only [List.map_toArray, List.map_cons, List.map_nil]); first | done | rfl | (simp only [List.length_drop, List.length_take]; rfl)) ?_; (with_reducible refine (pendulumlaw06_lives.calls k  true _ A6.out).mono ?_); rintro e w' ⟨rfl, ⟨nd, rfl⟩⟩; refine ⟨_, rfl, ?_⟩) | ((with_reducible refine gate_callee (f := 52) rfl ?_); refine goesL_ (some 25) rfl rfl Try.func52 (by kernel_rfl) rfl #[.int .i64 a0, .int .u8 a2, .int .u8 a4] rfl (by (try simp only [List.map_toArray, List.map_cons, List.map_nil]); first | done | rfl | (simp only [List.length_drop, List.length_take]; rfl)) ?_; (with_reducible refine (shift_Shift.calls k a0 a2 a4 t151 t152 _ A8.out).mono ?_); rintro e w' ⟨rfl, ⟨nd, rfl⟩⟩; refine ⟨_, rfl, ?_⟩) | ((with_reducible refine gate_callee (f := 63) rfl ?_); refine goesL_ (some 32) rfl rfl Try.func63 (by kernel_rfl) rfl #[.int .i64 a0, .int .u8 a2, .int .u8 a4] rfl (by (try simp only [List.map_toArray, List.map_cons, List.map_nil]); first | done | rfl | (simp only [List.length_drop, List.length_take]; rfl)) ?_; (with_reducible refine (pendulumref06_Shift.calls k a0 a2 a4 t153 t154 _ A9.out).mono ?_); rintro e w' ⟨rfl, ⟨nd, rfl⟩⟩; refine ⟨_, rfl, ?_⟩) | ((with_reducible refine gate_callee (f := 64) rfl ?_); refine goesL_ (some 39) rfl rfl Try.func64 (by kernel_rfl) rfl #[.int .i64 a0, .int .u8 a2, .int .u8 a4] rfl (by (try simp only [List.map_toArray, List.map_cons, List.map_nil]); first | done | rfl | (simp only [List.length_drop, List.length_take]; rfl)) ?_; (with_reducible refine (shift_Turn.calls k a0 a2 a4 t155 t156 _ A10.out).mono ?_); rintro e w' ⟨rfl, ⟨nd, rfl⟩⟩; refine ⟨_, rfl, ?_⟩) | ((with_reducible refine gate_callee (f := 65) rfl ?_); refine goesL_ (some 46) rfl rfl Try.func65 (by kernel_rfl) rfl #[.int .i64 a0, .int .u8 a2, .int .u8 a4] rfl (by (try simp only [List.map_toArray, List.map_cons, List.map_nil]); first | done | rfl | (simp only [List.length_drop, List.length_take]; rfl)) ?_; (with_reducible refine (pendulumref06_Turn.calls k a0 a2 a4 t157 t158 _ A11.out).mono ?_); rintro e w' ⟨rfl, ⟨nd, rfl⟩⟩; refine ⟨_, rfl, ?_⟩))
          go_ret
          exact ⟨by first | rfl | (simp; done) | (simp [*]; done) | (simp; omega), by repeat (first | exact Drawn0.refl _ | apply Drawn0.step)⟩
      · rw [if_neg c13] at H
        have c13b0 : (t152 == t154) = false := beq_eq_false_iff_ne.mpr c13
        have c13b1 : (t152 != t154) = true := bne_iff_ne.mpr c13
        obtain rfl := Option.some.inj H
        go_enter Try.func16, Try.ntmps16
        go_wp2_with (first | ((with_reducible refine gate_callee (f := 51) rfl ?_); refine goesL_ (some 19) rfl rfl Try.func51 (by kernel_rfl) rfl #[] rfl (by (try simp only [List.map_toArray, List.map_cons, List.map_nil]); first | done | rfl | (simp only [List.length_drop, List.length_take]; rfl)) ?_; (with_reducible refine (pendulumlaw06_lives.calls k  true _ A6.out).mono ?_); rintro e w' ⟨rfl, ⟨nd, rfl⟩⟩; refine ⟨_, rfl, ?_⟩) | ((with_reducible refine gate_callee (f := 52) rfl ?_); refine goesL_ (some 25) rfl rfl Try.func52 (by kernel_rfl) rfl #[.int .i64 a0, .int .u8 a2, .int .u8 a4] rfl (by (try simp only [List.map_toArray, List.map_cons, List.map_nil]); first | done | rfl | (simp only [List.length_drop, List.length_take]; rfl)) ?_; (with_reducible refine (shift_Shift.calls k a0 a2 a4 t151 t152 _ A8.out).mono ?_); rintro e w' ⟨rfl, ⟨nd, rfl⟩⟩; refine ⟨_, rfl, ?_⟩) | ((with_reducible refine gate_callee (f := 63) rfl ?_); refine goesL_ (some 32) rfl rfl Try.func63 (by kernel_rfl) rfl #[.int .i64 a0, .int .u8 a2, .int .u8 a4] rfl (by (try simp only [List.map_toArray, List.map_cons, List.map_nil]); first | done | rfl | (simp only [List.length_drop, List.length_take]; rfl)) ?_; (with_reducible refine (pendulumref06_Shift.calls k a0 a2 a4 t153 t154 _ A9.out).mono ?_); rintro e w' ⟨rfl, ⟨nd, rfl⟩⟩; refine ⟨_, rfl, ?_⟩) | ((with_reducible refine gate_callee (f := 64) rfl ?_); refine goesL_ (some 39) rfl rfl Try.func64 (by kernel_rfl) rfl #[.int .i64 a0, .int .u8 a2, .int .u8 a4] rfl (by (try simp only [List.map_toArray, List.map_cons, List.map_nil]); first | done | rfl | (simp only [List.length_drop, List.length_take]; rfl)) ?_; (with_reducible refine (shift_Turn.calls k a0 a2 a4 t155 t156 _ A10.out).mono ?_); rintro e w' ⟨rfl, ⟨nd, rfl⟩⟩; refine ⟨_, rfl, ?_⟩) | ((with_reducible refine gate_callee (f := 65) rfl ?_); refine goesL_ (some 46) rfl rfl Try.func65 (by kernel_rfl) rfl #[.int .i64 a0, .int .u8 a2, .int .u8 a4] rfl (by (try simp only [List.map_toArray, List.map_cons, List.map_nil]); first | done | rfl | (simp only [List.length_drop, List.length_take]; rfl)) ?_; (with_reducible refine (pendulumref06_Turn.calls k a0 a2 a4 t157 t158 _ A11.out).mono ?_); rintro e w' ⟨rfl, ⟨nd, rfl⟩⟩; refine ⟨_, rfl, ?_⟩))
        go_ret
        exact ⟨by first | rfl | (simp; done) | (simp [*]; done) | (simp; omega), by repeat (first | exact Drawn0.refl _ | apply Drawn0.step)⟩
    · rw [if_neg c12] at H
      have c12b0 : (t151 == t153) = false := beq_eq_false_iff_ne.mpr c12
      have c12b1 : (t151 != t153) = true := bne_iff_ne.mpr c12
      obtain rfl := Option.some.inj H
      go_enter Try.func16, Try.ntmps16
      go_wp2_with (first | ((with_reducible refine gate_callee (f := 51) rfl ?_); refine goesL_ (some 19) rfl rfl Try.func51 (by kernel_rfl) rfl #[] rfl (by (try simp only [List.map_toArray, List.map_cons, List.map_nil]); first | done | rfl | (simp only [List.length_drop, List.length_take]; rfl)) ?_; (with_reducible refine (pendulumlaw06_lives.calls k  true _ A6.out).mono ?_); rintro e w' ⟨rfl, ⟨nd, rfl⟩⟩; refine ⟨_, rfl, ?_⟩) | ((with_reducible refine gate_callee (f := 52) rfl ?_); refine goesL_ (some 25) rfl rfl Try.func52 (by kernel_rfl) rfl #[.int .i64 a0, .int .u8 a2, .int .u8 a4] rfl (by (try simp only [List.map_toArray, List.map_cons, List.map_nil]); first | done | rfl | (simp only [List.length_drop, List.length_take]; rfl)) ?_; (with_reducible refine (shift_Shift.calls k a0 a2 a4 t151 t152 _ A8.out).mono ?_); rintro e w' ⟨rfl, ⟨nd, rfl⟩⟩; refine ⟨_, rfl, ?_⟩) | ((with_reducible refine gate_callee (f := 63) rfl ?_); refine goesL_ (some 32) rfl rfl Try.func63 (by kernel_rfl) rfl #[.int .i64 a0, .int .u8 a2, .int .u8 a4] rfl (by (try simp only [List.map_toArray, List.map_cons, List.map_nil]); first | done | rfl | (simp only [List.length_drop, List.length_take]; rfl)) ?_; (with_reducible refine (pendulumref06_Shift.calls k a0 a2 a4 t153 t154 _ A9.out).mono ?_); rintro e w' ⟨rfl, ⟨nd, rfl⟩⟩; refine ⟨_, rfl, ?_⟩) | ((with_reducible refine gate_callee (f := 64) rfl ?_); refine goesL_ (some 39) rfl rfl Try.func64 (by kernel_rfl) rfl #[.int .i64 a0, .int .u8 a2, .int .u8 a4] rfl (by (try simp only [List.map_toArray, List.map_cons, List.map_nil]); first | done | rfl | (simp only [List.length_drop, List.length_take]; rfl)) ?_; (with_reducible refine (shift_Turn.calls k a0 a2 a4 t155 t156 _ A10.out).mono ?_); rintro e w' ⟨rfl, ⟨nd, rfl⟩⟩; refine ⟨_, rfl, ?_⟩) | ((with_reducible refine gate_callee (f := 65) rfl ?_); refine goesL_ (some 46) rfl rfl Try.func65 (by kernel_rfl) rfl #[.int .i64 a0, .int .u8 a2, .int .u8 a4] rfl (by (try simp only [List.map_toArray, List.map_cons, List.map_nil]); first | done | rfl | (simp only [List.length_drop, List.length_take]; rfl)) ?_; (with_reducible refine (pendulumref06_Turn.calls k a0 a2 a4 t157 t158 _ A11.out).mono ?_); rintro e w' ⟨rfl, ⟨nd, rfl⟩⟩; refine ⟨_, rfl, ?_⟩))
      go_ret
      exact ⟨by first | rfl | (simp; done) | (simp [*]; done) | (simp; omega), by repeat (first | exact Drawn0.refl _ | apply Drawn0.step)⟩
  · replace c7 := Bool.eq_false_iff.mpr c7
    subst c7
    have H1 : (some false) = some r := by rw [if_neg (show ¬ (false = true) by decide)] at H; exact H
    clear H
    have H := H1
    clear H1
    obtain rfl := Option.some.inj H
    go_enter Try.func16, Try.ntmps16
    go_wp2_with (first | ((with_reducible refine gate_callee (f := 51) rfl ?_); refine goesL_ (some 19) rfl rfl Try.func51 (by kernel_rfl) rfl #[] rfl (by (try simp only [List.map_toArray, List.map_cons, List.map_nil]); first | done | rfl | (simp only [List.length_drop, List.length_take]; rfl)) ?_; (with_reducible refine (pendulumlaw06_lives.calls k  false _ A6.out).mono ?_); rintro e w' ⟨rfl, ⟨nd, rfl⟩⟩; refine ⟨_, rfl, ?_⟩))
    go_ret
    exact ⟨by first | rfl | (simp; done) | (simp [*]; done) | (simp; omega), by repeat (first | exact Drawn0.refl _ | apply Drawn0.step)⟩

/-- THE ONE PURE STATEMENT of pendulumlaw06_ShiftCalls: yours. -/
def pendulumlaw06_ShiftCalls.Pure : Prop := ∀ (a0 : Int) (a1 : Int) (a2 : Int) (a3 : Int) (a4 : Int), (Lit.int .i64 a0).wf = true → (Lit.int .i64 a1).wf = true → (Lit.int .u8 a2).wf = true → (Lit.int .u8 a3).wf = true → (Lit.int .u8 a4).wf = true → ∃ k, pendulumlaw06_ShiftCalls.f k a0 a1 a2 a3 a4 = some true
theorem pendulumlaw06_ShiftCalls.walk (P : pendulumlaw06_ShiftCalls.Pure) (a0 : Int) (a1 : Int) (a2 : Int) (a3 : Int) (a4 : Int) (w : World) (w0 : (Lit.int .i64 a0).wf = true) (w1 : (Lit.int .i64 a1).wf = true) (w2 : (Lit.int .u8 a2).wf = true) (w3 : (Lit.int .u8 a3).wf = true) (w4 : (Lit.int .u8 a4).wf = true) :
    Calls Try.prog 16 #[.int .i64 a0, .int .i64 a1, .int .u8 a2, .int .u8 a3, .int .u8 a4] w fun e w' => e = .returned (.bool true) ∧ Below w.heap.size w w' := by
  obtain ⟨k, h⟩ := P a0 a1 a2 a3 a4 w0 w1 w2 w3 w4
  refine (pendulumlaw06_ShiftCalls.calls k a0 a1 a2 a3 a4 true w h).mono ?_
  rintro e w' ⟨rfl, hd⟩
  exact ⟨rfl, hd.below⟩

end Go.Proofs.Ytpmmneipfmbmlaa.HShiftCalls
