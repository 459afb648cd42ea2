-- Written by a program of this session out of Lean's print of the program (after the form of the kit's print.sh, with own turns); Lean checks it.
import Derived.Test.YtpmmneipfmbmlaaHShiftOddx0
import Derived.Test.YtpmmneipfmbmlaaHShiftOddx1
import Derived.Test.YtpmmneipfmbmlaaHShiftOddx2
namespace Go.Proofs.Ytpmmneipfmbmlaa.HShiftOdd
open Go.RowKit Go.Proofs.YtpmmneipfmbmlaaW.PrintWords Go.Proofs.YtpmmneipfmbmlaaW.PrintLast Go.Proofs.YtpmmneipfmbmlaaW.PrintMore
attribute [local go_sem] max2_int min2_int max_two min_two max_three min_three max_four min_four   -- for this text's walks alone
set_option linter.unusedVariables false
set_option linter.unusedSimpArgs false

/-! ### pendulumref06_Daa: function 69 -/
mutual
def pendulumref06_Daa.j0 : Nat → Int → Int → Int → Bool → Option (Int × Int)
  | 0, _, _, _, _ => none
  | k + 1, x0, x1, x6, x17 => if x17 = true then (pendulumref06_Daa.j1 k x0 x1 6) else (pendulumref06_Daa.j1 k x0 x1 x6)
def pendulumref06_Daa.j1 : Nat → Int → Int → Int → Option (Int × Int)
  | 0, _, _, _ => none
  | k + 1, x0, x1, x6 => if (Go.bits .and .u8 x1 1) = 0 then (pendulumref06_Daa.j2 k x0 x1 x6 (decide (x0 > 153))) else (pendulumref06_Daa.j2 k x0 x1 x6 true)
def pendulumref06_Daa.j2 : Nat → Int → Int → Int → Bool → Option (Int × Int)
  | 0, _, _, _, _ => none
  | k + 1, x0, x1, x6, x7 => if x7 = true then (pendulumref06_Daa.j3 k x0 x1 ((x6 + 96) % 256) x7) else (pendulumref06_Daa.j3 k x0 x1 x6 x7)
def pendulumref06_Daa.j3 : Nat → Int → Int → Int → Bool → Option (Int × Int)
  | 0, _, _, _, _ => none
  | k + 1, x0, x1, x6, x7 => if (Go.bits .and .u8 x1 2) = 0 then ((pendulumref05_Logic.f k ((x0 + x6) % 256)).bind fun t128 => ((pendulumref05_Flag.f 1 x7).bind fun t129 => ((pendulumref05_Flag.f 16 (decide ((Int.tmod x0 16) > 9))).bind fun t130 => (some ((x0 + x6) % 256, Go.bits .or .u8 (Go.bits .or .u8 (Go.bits .or .u8 t128 (Go.bits .and .u8 x1 2)) t129) t130))))) else (if (Int.tmod x0 16) < 6 then ((pendulumref05_Logic.f k ((x0 - x6) % 256)).bind fun t131 => ((pendulumref05_Flag.f 1 x7).bind fun t132 => ((pendulumref05_Flag.f 16 ((Go.bits .and .u8 x1 16) != 0)).bind fun t133 => (some ((x0 - x6) % 256, Go.bits .or .u8 (Go.bits .or .u8 (Go.bits .or .u8 t131 (Go.bits .and .u8 x1 2)) t132) t133))))) else ((pendulumref05_Logic.f k ((x0 - x6) % 256)).bind fun t134 => ((pendulumref05_Flag.f 1 x7).bind fun t135 => ((pendulumref05_Flag.f 16 false).bind fun t136 => (some ((x0 - x6) % 256, Go.bits .or .u8 (Go.bits .or .u8 (Go.bits .or .u8 t134 (Go.bits .and .u8 x1 2)) t135) t136))))))
end
def pendulumref06_Daa.f (k : Nat) (a0 : Int) (a1 : Int) : Option (Int × Int) := if (Go.bits .and .u8 a1 16) = 0 then (pendulumref06_Daa.j0 k a0 a1 0 (decide ((Int.tmod a0 16) > 9))) else (pendulumref06_Daa.j0 k a0 a1 0 true)
theorem pendulumref06_Daa.mono_l : ∀ k, (∀ y0 y1 y2 y3, LeO (pendulumref06_Daa.j0 k y0 y1 y2 y3) (pendulumref06_Daa.j0 (k + 1) y0 y1 y2 y3)) ∧ (∀ y0 y1 y2, LeO (pendulumref06_Daa.j1 k y0 y1 y2) (pendulumref06_Daa.j1 (k + 1) y0 y1 y2)) ∧ (∀ y0 y1 y2 y3, LeO (pendulumref06_Daa.j2 k y0 y1 y2 y3) (pendulumref06_Daa.j2 (k + 1) y0 y1 y2 y3)) ∧ (∀ y0 y1 y2 y3, LeO (pendulumref06_Daa.j3 k y0 y1 y2 y3) (pendulumref06_Daa.j3 (k + 1) y0 y1 y2 y3))
  | 0 => ⟨fun _ _ _ _ r h => by simp [pendulumref06_Daa.j0] at h, fun _ _ _ r h => by simp [pendulumref06_Daa.j1] at h, fun _ _ _ _ r h => by simp [pendulumref06_Daa.j2] at h, fun _ _ _ _ r h => by simp [pendulumref06_Daa.j3] at h⟩
  | k + 1 => by
    obtain ⟨ih0, ih1, ih2, ih3⟩ := pendulumref06_Daa.mono_l k
    refine ⟨?_, ?_, ?_, ?_⟩
    · intro y0 y1 y2 y3
      unfold pendulumref06_Daa.j0
      repeat' first
      | (with_reducible exact ih0 _ _ _ _)
      | (with_reducible exact ih1 _ _ _)
      | (with_reducible exact ih2 _ _ _ _)
      | (with_reducible exact ih3 _ _ _ _)
      | (with_reducible exact pendulumref05_Logic.mono _ _)
      | (with_reducible exact LeO.refl _)
      | (with_reducible exact LeO.none _)
      | (with_reducible refine LeO.ite ?_ ?_)
      | (with_reducible refine LeO.bind ?_ (fun _ => ?_))
      | exact ih0 _ _ _ _
      | exact ih1 _ _ _
      | exact ih2 _ _ _ _
      | exact ih3 _ _ _ _
      | exact pendulumref05_Logic.mono _ _
      | exact LeO.none _
      | refine LeO.ite ?_ ?_
      | refine LeO.bind ?_ (fun _ => ?_)
    · intro y0 y1 y2
      unfold pendulumref06_Daa.j1
      repeat' first
      | (with_reducible exact ih0 _ _ _ _)
      | (with_reducible exact ih1 _ _ _)
      | (with_reducible exact ih2 _ _ _ _)
      | (with_reducible exact ih3 _ _ _ _)
      | (with_reducible exact pendulumref05_Logic.mono _ _)
      | (with_reducible exact LeO.refl _)
      | (with_reducible exact LeO.none _)
      | (with_reducible refine LeO.ite ?_ ?_)
      | (with_reducible refine LeO.bind ?_ (fun _ => ?_))
      | exact ih0 _ _ _ _
      | exact ih1 _ _ _
      | exact ih2 _ _ _ _
      | exact ih3 _ _ _ _
      | exact pendulumref05_Logic.mono _ _
      | exact LeO.none _
      | refine LeO.ite ?_ ?_
      | refine LeO.bind ?_ (fun _ => ?_)
    · intro y0 y1 y2 y3
      unfold pendulumref06_Daa.j2
      repeat' first
      | (with_reducible exact ih0 _ _ _ _)
      | (with_reducible exact ih1 _ _ _)
      | (with_reducible exact ih2 _ _ _ _)
      | (with_reducible exact ih3 _ _ _ _)
      | (with_reducible exact pendulumref05_Logic.mono _ _)
      | (with_reducible exact LeO.refl _)
      | (with_reducible exact LeO.none _)
      | (with_reducible refine LeO.ite ?_ ?_)
      | (with_reducible refine LeO.bind ?_ (fun _ => ?_))
      | exact ih0 _ _ _ _
      | exact ih1 _ _ _
      | exact ih2 _ _ _ _
      | exact ih3 _ _ _ _
      | exact pendulumref05_Logic.mono _ _
      | exact LeO.none _
      | refine LeO.ite ?_ ?_
      | refine LeO.bind ?_ (fun _ => ?_)
    · intro y0 y1 y2 y3
      unfold pendulumref06_Daa.j3
      repeat' first
      | (with_reducible exact ih0 _ _ _ _)
      | (with_reducible exact ih1 _ _ _)
      | (with_reducible exact ih2 _ _ _ _)
      | (with_reducible exact ih3 _ _ _ _)
      | (with_reducible exact pendulumref05_Logic.mono _ _)
      | (with_reducible exact LeO.refl _)
      | (with_reducible exact LeO.none _)
      | (with_reducible refine LeO.ite ?_ ?_)
      | (with_reducible refine LeO.bind ?_ (fun _ => ?_))
      | exact ih0 _ _ _ _
      | exact ih1 _ _ _
      | exact ih2 _ _ _ _
      | exact ih3 _ _ _ _
      | exact pendulumref05_Logic.mono _ _
      | exact LeO.none _
      | refine LeO.ite ?_ ?_
      | refine LeO.bind ?_ (fun _ => ?_)
theorem pendulumref06_Daa.mono : ∀ a0 a1 k, LeO (pendulumref06_Daa.f k a0 a1) (pendulumref06_Daa.f (k + 1) a0 a1) := by
  intro a0 a1 k
  obtain ⟨ih0, ih1, ih2, ih3⟩ := pendulumref06_Daa.mono_l k
  unfold pendulumref06_Daa.f
  repeat' first
      | (with_reducible exact ih0 _ _ _ _)
      | (with_reducible exact ih1 _ _ _)
      | (with_reducible exact ih2 _ _ _ _)
      | (with_reducible exact ih3 _ _ _ _)
      | (with_reducible exact pendulumref05_Logic.mono _ _)
      | (with_reducible exact LeO.refl _)
      | (with_reducible exact LeO.none _)
      | (with_reducible refine LeO.ite ?_ ?_)
      | (with_reducible refine LeO.bind ?_ (fun _ => ?_))
      | exact ih0 _ _ _ _
      | exact ih1 _ _ _
      | exact ih2 _ _ _ _
      | exact ih3 _ _ _ _
      | exact pendulumref05_Logic.mono _ _
      | exact LeO.none _
      | refine LeO.ite ?_ ?_
      | refine LeO.bind ?_ (fun _ => ?_)
set_option maxHeartbeats 8000000 in
set_option maxRecDepth 100000 in
theorem pendulumref06_Daa.calls (k : Nat) (a0 : Int) (a1 : Int) (r1 : Int) (r2 : Int) (w : World) (h : pendulumref06_Daa.f k a0 a1 = some (r1, r2)) :
    Calls Try.prog 69 #[.int .u8 a0, .int .u8 a1] w fun e w' => e = .returned (.tuple #[.int .u8 r1, .int .u8 r2]) ∧ Drawn0 w w' := by
  have H : (if (Go.bits .and .u8 a1 16) = 0 then (pendulumref06_Daa.j0 k a0 a1 0 (decide ((Int.tmod a0 16) > 9))) else (pendulumref06_Daa.j0 k a0 a1 0 true)) = some (r1, r2) := h
  clear h
  have HC3 := Aside0.mk H
  clear H
  go_enter Try.func69, Try.ntmps69
  go_upto_region 2 with (fail)
  go_cut [17] (fun v17 wc => ∃ (kq : Nat) (x17_2 : Bool), v17 = .bool x17_2 ∧ Aside0 (pendulumref06_Daa.j0 kq a0 a1 0 x17_2 = some (r1, r2)) ∧ Aside0 (kq ≤ k) ∧ Drawn0 w wc)
  case first =>
    have H := HC3.out
    clear HC3
    by_cases c4 : (Go.bits .and .u8 a1 16) = 0
    · rw [if_pos c4] at H
      have c4b0 : ((Go.bits .and .u8 a1 16) == 0) = true := beq_iff_eq.mpr c4
      have c4b1 : ((Go.bits .and .u8 a1 16) != 0) = false := bne_eq_false_iff_eq.mpr c4
      clear c4
      (first | rw [c4b0] | (simp only [i64_w, i32_w]; rw [c4b0]) | skip)
      have H' := Aside0.mk H
      clear H
      go_wp2
      go_meet
      case rel => exact ⟨_, (decide ((Int.tmod a0 16) > 9)), (by first | rfl | (simp; done) | (simp [*]; done)), H', ⟨by first | omega | exact Nat.le_refl _⟩, by repeat (first | exact Drawn0.refl _ | apply Drawn0.step)⟩
    · rw [if_neg c4] at H
      have c4b0 : ((Go.bits .and .u8 a1 16) == 0) = false := beq_eq_false_iff_ne.mpr c4
      have c4b1 : ((Go.bits .and .u8 a1 16) != 0) = true := bne_iff_ne.mpr c4
      (first | rw [c4b0] | (simp only [i64_w, i32_w]; rw [c4b0]) | skip)
      have H' := Aside0.mk H
      clear H
      go_wp2
      go_meet
      case rel => exact ⟨_, (true), (by first | rfl | (simp; done) | (simp [*]; done)), H', ⟨by first | omega | exact Nat.le_refl _⟩, by repeat (first | exact Drawn0.refl _ | apply Drawn0.step)⟩
  case rest =>
    clear HC3
    try clear p2
    try clear c4
    try clear c4b0
    try clear c4b1
    obtain ⟨kq, x17_2, rfl, HA, HJ2, ⟨mc2, rfl⟩⟩ := hcut
    cases kq with
    | zero => exact absurd HA.out (by simp [pendulumref06_Daa.j0])
    | succ kj2 =>
      have H := HA.out
      clear HA
      simp only [pendulumref06_Daa.j0] at H
      have HC5 := Aside0.mk H
      clear H
      go_upto_if 17 with (fail)
      go_cut [6] (fun v6 wc => ∃ (kq : Nat) (x6_4 : Int), v6 = .int .u8 x6_4 ∧ Aside0 (pendulumref06_Daa.j1 kq a0 a1 x6_4 = some (r1, r2)) ∧ Aside0 (kq ≤ kj2) ∧ Drawn0 w wc)
      case first =>
        have H := HC5.out
        clear HC5
        by_cases c6 : x17_2 = true
        · subst c6
          have H1 : (pendulumref06_Daa.j1 kj2 a0 a1 6) = some (r1, r2) := by rw [if_pos rfl] at H; exact H
          clear H
          have H := H1
          clear H1
          have H' := Aside0.mk H
          clear H
          go_wp2
          go_meet
          case rel => exact ⟨_, (6), (by first | rfl | (simp; done) | (simp [*]; done)), H', ⟨by have := HJ2.out; first | omega | exact Nat.le_refl _⟩, by repeat (first | exact Drawn0.refl _ | apply Drawn0.step)⟩
        · replace c6 := Bool.eq_false_iff.mpr c6
          subst c6
          have H1 : (pendulumref06_Daa.j1 kj2 a0 a1 0) = some (r1, r2) := by rw [if_neg (show ¬ (false = true) by decide)] at H; exact H
          clear H
          have H := H1
          clear H1
          have H' := Aside0.mk H
          clear H
          go_wp2
          go_meet
          case rel => exact ⟨_, (0), (by first | rfl | (simp; done) | (simp [*]; done)), H', ⟨by have := HJ2.out; first | omega | exact Nat.le_refl _⟩, by repeat (first | exact Drawn0.refl _ | apply Drawn0.step)⟩
      case rest =>
        clear HC5
        try clear c2
        try clear p2
        try clear c4
        try clear c4b0
        try clear c4b1
        try clear c6
        try clear p2
        obtain ⟨kq, x6_4, rfl, HA, HJ4, ⟨mc4, rfl⟩⟩ := hcut
        cases kq with
        | zero => exact absurd HA.out (by simp [pendulumref06_Daa.j1])
        | succ kj4 =>
          have H := HA.out
          clear HA
          simp only [pendulumref06_Daa.j1] at H
          have HC7 := Aside0.mk H
          clear H
          go_upto_region 4 with (fail)
          go_cut [7] (fun v7 wc => ∃ (kq : Nat) (x7_6 : Bool), v7 = .bool x7_6 ∧ Aside0 (pendulumref06_Daa.j2 kq a0 a1 x6_4 x7_6 = some (r1, r2)) ∧ Aside0 (kq ≤ kj4) ∧ Drawn0 w wc)
          case first =>
            have H := HC7.out
            clear HC7
            by_cases c8 : (Go.bits .and .u8 a1 1) = 0
            · rw [if_pos c8] at H
              have c8b0 : ((Go.bits .and .u8 a1 1) == 0) = true := beq_iff_eq.mpr c8
              have c8b1 : ((Go.bits .and .u8 a1 1) != 0) = false := bne_eq_false_iff_eq.mpr c8
              clear c8
              (first | rw [c8b0] | (simp only [i64_w, i32_w]; rw [c8b0]) | skip)
              have H' := Aside0.mk H
              clear H
              go_wp2
              go_meet
              case rel => exact ⟨_, (decide (a0 > 153)), (by first | rfl | (simp; done) | (simp [*]; done)), H', ⟨by have := HJ2.out; have := HJ4.out; first | omega | exact Nat.le_refl _⟩, by repeat (first | exact Drawn0.refl _ | apply Drawn0.step)⟩
            · rw [if_neg c8] at H
              have c8b0 : ((Go.bits .and .u8 a1 1) == 0) = false := beq_eq_false_iff_ne.mpr c8
              have c8b1 : ((Go.bits .and .u8 a1 1) != 0) = true := bne_iff_ne.mpr c8
              (first | rw [c8b0] | (simp only [i64_w, i32_w]; rw [c8b0]) | skip)
              have H' := Aside0.mk H
              clear H
              go_wp2
              go_meet
              case rel => exact ⟨_, (true), (by first | rfl | (simp; done) | (simp [*]; done)), H', ⟨by have := HJ2.out; have := HJ4.out; first | omega | exact Nat.le_refl _⟩, by repeat (first | exact Drawn0.refl _ | apply Drawn0.step)⟩
          case rest =>
            clear HC7
            try clear c2
            try clear p2
            try clear c4
            try clear c4b0
            try clear c4b1
            try clear c6
            try clear c8
            try clear c8b0
            try clear c8b1
            try clear p2
            obtain ⟨kq, x7_6, rfl, HA, HJ6, ⟨mc6, rfl⟩⟩ := hcut
            cases kq with
            | zero => exact absurd HA.out (by simp [pendulumref06_Daa.j2])
            | succ kj6 =>
              have H := HA.out
              clear HA
              simp only [pendulumref06_Daa.j2] at H
              have HC9 := Aside0.mk H
              clear H
              go_upto_if 25 with (fail)
              go_cut [6] (fun v6 wc => ∃ (kq : Nat) (x6_8 : Int), v6 = .int .u8 x6_8 ∧ Aside0 (pendulumref06_Daa.j3 kq a0 a1 x6_8 x7_6 = some (r1, r2)) ∧ Aside0 (kq ≤ kj6) ∧ Drawn0 w wc)
              case first =>
                have H := HC9.out
                clear HC9
                by_cases c10 : x7_6 = true
                · subst c10
                  have H1 : (pendulumref06_Daa.j3 kj6 a0 a1 ((x6_4 + 96) % 256) true) = some (r1, r2) := by rw [if_pos rfl] at H; exact H
                  clear H
                  have H := H1
                  clear H1
                  have H' := Aside0.mk H
                  clear H
                  go_wp2
                  go_meet
                  case rel => exact ⟨_, ((x6_4 + 96) % 256), (by first | rfl | (simp; done) | (simp [*]; done)), H', ⟨by have := HJ2.out; have := HJ4.out; have := HJ6.out; first | omega | exact Nat.le_refl _⟩, by repeat (first | exact Drawn0.refl _ | apply Drawn0.step)⟩
                · replace c10 := Bool.eq_false_iff.mpr c10
                  subst c10
                  have H1 : (pendulumref06_Daa.j3 kj6 a0 a1 x6_4 false) = some (r1, r2) := by rw [if_neg (show ¬ (false = true) by decide)] at H; exact H
                  clear H
                  have H := H1
                  clear H1
                  have H' := Aside0.mk H
                  clear H
                  go_wp2
                  go_meet
                  case rel => exact ⟨_, (x6_4), (by first | rfl | (simp; done) | (simp [*]; done)), H', ⟨by have := HJ2.out; have := HJ4.out; have := HJ6.out; first | omega | exact Nat.le_refl _⟩, by repeat (first | exact Drawn0.refl _ | apply Drawn0.step)⟩
              case rest =>
                clear HC9
                try clear c1
                try clear c2
                try clear p2
                try clear c4
                try clear c4b0
                try clear c4b1
                try clear c6
                try clear c8
                try clear c8b0
                try clear c8b1
                try clear c10
                try clear p2
                obtain ⟨kq, x6_8, rfl, HA, HJ8, ⟨mc8, rfl⟩⟩ := hcut
                cases kq with
                | zero => exact absurd HA.out (by simp [pendulumref06_Daa.j3])
                | succ kj8 =>
                  have H := HA.out
                  clear HA
                  simp only [pendulumref06_Daa.j3] at H
                  by_cases c11 : (Go.bits .and .u8 a1 2) = 0
                  · rw [if_pos c11] at H
                    have c11b0 : ((Go.bits .and .u8 a1 2) == 0) = true := beq_iff_eq.mpr c11
                    have c11b1 : ((Go.bits .and .u8 a1 2) != 0) = false := bne_eq_false_iff_eq.mpr c11
                    clear c11
                    replace H := Option.bind_eq_some_iff.mp H
                    obtain ⟨t128, A120, H⟩ := H
                    replace H : ((pendulumref05_Flag.f 1 x7_6).bind fun t129 => ((pendulumref05_Flag.f 16 (decide ((Int.tmod a0 16) > 9))).bind fun t130 => (some ((a0 + x6_8) % 256, Go.bits .or .u8 (Go.bits .or .u8 (Go.bits .or .u8 t128 (Go.bits .and .u8 a1 2)) t129) t130)))) = some (r1, r2) := H
                    have A12 := Aside0.mk A120
                    clear A120
                    replace H := Option.bind_eq_some_iff.mp H
                    obtain ⟨t129, A130, H⟩ := H
                    replace H : ((pendulumref05_Flag.f 16 (decide ((Int.tmod a0 16) > 9))).bind fun t130 => (some ((a0 + x6_8) % 256, Go.bits .or .u8 (Go.bits .or .u8 (Go.bits .or .u8 t128 (Go.bits .and .u8 a1 2)) t129) t130))) = some (r1, r2) := H
                    have A13 := Aside0.mk A130
                    clear A130
                    replace H := Option.bind_eq_some_iff.mp H
                    obtain ⟨t130, A140, H⟩ := H
                    replace H : (some ((a0 + x6_8) % 256, Go.bits .or .u8 (Go.bits .or .u8 (Go.bits .or .u8 t128 (Go.bits .and .u8 a1 2)) t129) t130)) = some (r1, r2) := H
                    have A14 := Aside0.mk A140
                    clear A140
                    simp only [Option.some.injEq, Prod.mk.injEq] at H
                    obtain ⟨rfl, rfl⟩ := H
                    go_wp2_with (first | ((with_reducible refine gate_callee (f := 94) rfl ?_); refine goesL_ (some 50) rfl rfl Try.func94 (by kernel_rfl) rfl #[.int .u8 ((a0 + x6_8) % 256)] rfl (by (try simp only [List.map_toArray, List.map_cons, List.map_nil]); first | done | rfl | (simp only [List.length_drop, List.length_take]; rfl)) ?_; (with_reducible refine (pendulumref05_Logic.calls kj8 ((a0 + x6_8) % 256) t128 _ A12.out).mono ?_); rintro e w' ⟨rfl, ⟨nd, rfl⟩⟩; refine ⟨_, rfl, ?_⟩) | ((with_reducible refine gate_callee (f := 85) rfl ?_); refine goesL_ (some 55) rfl rfl Try.func85 (by kernel_rfl) rfl #[.int .u8 1, .bool x7_6] rfl (by (try simp only [List.map_toArray, List.map_cons, List.map_nil]); first | done | rfl | (simp only [List.length_drop, List.length_take]; rfl)) ?_; (with_reducible refine (pendulumref05_Flag.calls 1 x7_6 t129 _ A13.out).mono ?_); rintro e w' ⟨rfl, ⟨nd, rfl⟩⟩; refine ⟨_, rfl, ?_⟩) | ((with_reducible refine gate_callee (f := 85) rfl ?_); refine goesL_ (some 58) rfl rfl Try.func85 (by kernel_rfl) rfl #[.int .u8 16, .bool (decide ((Int.tmod a0 16) > 9))] rfl (by (try simp only [List.map_toArray, List.map_cons, List.map_nil]); first | done | rfl | (simp only [List.length_drop, List.length_take]; rfl)) ?_; (with_reducible refine (pendulumref05_Flag.calls 16 (decide ((Int.tmod a0 16) > 9)) t130 _ A14.out).mono ?_); rintro e w' ⟨rfl, ⟨nd, rfl⟩⟩; refine ⟨_, rfl, ?_⟩))
                    go_ret2
                    exact ⟨by first | rfl | (simp; done) | (simp [*]; done), by repeat (first | exact Drawn0.refl _ | apply Drawn0.step)⟩
                  · rw [if_neg c11] at H
                    have c11b0 : ((Go.bits .and .u8 a1 2) == 0) = false := beq_eq_false_iff_ne.mpr c11
                    have c11b1 : ((Go.bits .and .u8 a1 2) != 0) = true := bne_iff_ne.mpr c11
                    by_cases c15 : (Int.tmod a0 16) < 6
                    · rw [if_pos c15] at H
                      have c15b0 : decide ((Int.tmod a0 16) < 6) = true := decide_eq_true c15
                      clear c15
                      replace H := Option.bind_eq_some_iff.mp H
                      obtain ⟨t131, A160, H⟩ := H
                      replace H : ((pendulumref05_Flag.f 1 x7_6).bind fun t132 => ((pendulumref05_Flag.f 16 ((Go.bits .and .u8 a1 16) != 0)).bind fun t133 => (some ((a0 - x6_8) % 256, Go.bits .or .u8 (Go.bits .or .u8 (Go.bits .or .u8 t131 (Go.bits .and .u8 a1 2)) t132) t133)))) = some (r1, r2) := H
                      have A16 := Aside0.mk A160
                      clear A160
                      replace H := Option.bind_eq_some_iff.mp H
                      obtain ⟨t132, A170, H⟩ := H
                      replace H : ((pendulumref05_Flag.f 16 ((Go.bits .and .u8 a1 16) != 0)).bind fun t133 => (some ((a0 - x6_8) % 256, Go.bits .or .u8 (Go.bits .or .u8 (Go.bits .or .u8 t131 (Go.bits .and .u8 a1 2)) t132) t133))) = some (r1, r2) := H
                      have A17 := Aside0.mk A170
                      clear A170
                      replace H := Option.bind_eq_some_iff.mp H
                      obtain ⟨t133, A180, H⟩ := H
                      replace H : (some ((a0 - x6_8) % 256, Go.bits .or .u8 (Go.bits .or .u8 (Go.bits .or .u8 t131 (Go.bits .and .u8 a1 2)) t132) t133)) = some (r1, r2) := H
                      have A18 := Aside0.mk A180
                      clear A180
                      simp only [Option.some.injEq, Prod.mk.injEq] at H
                      obtain ⟨rfl, rfl⟩ := H
                      go_wp2_with (first | ((with_reducible refine gate_callee (f := 94) rfl ?_); refine goesL_ (some 50) rfl rfl Try.func94 (by kernel_rfl) rfl #[.int .u8 ((a0 - x6_8) % 256)] rfl (by (try simp only [List.map_toArray, List.map_cons, List.map_nil]); first | done | rfl | (simp only [List.length_drop, List.length_take]; rfl)) ?_; (with_reducible refine (pendulumref05_Logic.calls kj8 ((a0 - x6_8) % 256) t131 _ A16.out).mono ?_); rintro e w' ⟨rfl, ⟨nd, rfl⟩⟩; refine ⟨_, rfl, ?_⟩) | ((with_reducible refine gate_callee (f := 85) rfl ?_); refine goesL_ (some 55) rfl rfl Try.func85 (by kernel_rfl) rfl #[.int .u8 1, .bool x7_6] rfl (by (try simp only [List.map_toArray, List.map_cons, List.map_nil]); first | done | rfl | (simp only [List.length_drop, List.length_take]; rfl)) ?_; (with_reducible refine (pendulumref05_Flag.calls 1 x7_6 t132 _ A17.out).mono ?_); rintro e w' ⟨rfl, ⟨nd, rfl⟩⟩; refine ⟨_, rfl, ?_⟩) | ((with_reducible refine gate_callee (f := 85) rfl ?_); refine goesL_ (some 58) rfl rfl Try.func85 (by kernel_rfl) rfl #[.int .u8 16, .bool ((Go.bits .and .u8 a1 16) != 0)] rfl (by (try simp only [List.map_toArray, List.map_cons, List.map_nil]); first | done | rfl | (simp only [List.length_drop, List.length_take]; rfl)) ?_; (with_reducible refine (pendulumref05_Flag.calls 16 ((Go.bits .and .u8 a1 16) != 0) t133 _ A18.out).mono ?_); rintro e w' ⟨rfl, ⟨nd, rfl⟩⟩; refine ⟨_, rfl, ?_⟩))
                      go_ret2
                      exact ⟨by first | rfl | (simp; done) | (simp [*]; done), by repeat (first | exact Drawn0.refl _ | apply Drawn0.step)⟩
                    · rw [if_neg c15] at H
                      have c15b0 : decide ((Int.tmod a0 16) < 6) = false := decide_eq_false c15
                      clear c15
                      replace H := Option.bind_eq_some_iff.mp H
                      obtain ⟨t134, A190, H⟩ := H
                      replace H : ((pendulumref05_Flag.f 1 x7_6).bind fun t135 => ((pendulumref05_Flag.f 16 false).bind fun t136 => (some ((a0 - x6_8) % 256, Go.bits .or .u8 (Go.bits .or .u8 (Go.bits .or .u8 t134 (Go.bits .and .u8 a1 2)) t135) t136)))) = some (r1, r2) := H
                      have A19 := Aside0.mk A190
                      clear A190
                      replace H := Option.bind_eq_some_iff.mp H
                      obtain ⟨t135, A200, H⟩ := H
                      replace H : ((pendulumref05_Flag.f 16 false).bind fun t136 => (some ((a0 - x6_8) % 256, Go.bits .or .u8 (Go.bits .or .u8 (Go.bits .or .u8 t134 (Go.bits .and .u8 a1 2)) t135) t136))) = some (r1, r2) := H
                      have A20 := Aside0.mk A200
                      clear A200
                      replace H := Option.bind_eq_some_iff.mp H
                      obtain ⟨t136, A210, H⟩ := H
                      replace H : (some ((a0 - x6_8) % 256, Go.bits .or .u8 (Go.bits .or .u8 (Go.bits .or .u8 t134 (Go.bits .and .u8 a1 2)) t135) t136)) = some (r1, r2) := H
                      have A21 := Aside0.mk A210
                      clear A210
                      simp only [Option.some.injEq, Prod.mk.injEq] at H
                      obtain ⟨rfl, rfl⟩ := H
                      go_wp2_with (first | ((with_reducible refine gate_callee (f := 94) rfl ?_); refine goesL_ (some 50) rfl rfl Try.func94 (by kernel_rfl) rfl #[.int .u8 ((a0 - x6_8) % 256)] rfl (by (try simp only [List.map_toArray, List.map_cons, List.map_nil]); first | done | rfl | (simp only [List.length_drop, List.length_take]; rfl)) ?_; (with_reducible refine (pendulumref05_Logic.calls kj8 ((a0 - x6_8) % 256) t134 _ A19.out).mono ?_); rintro e w' ⟨rfl, ⟨nd, rfl⟩⟩; refine ⟨_, rfl, ?_⟩) | ((with_reducible refine gate_callee (f := 85) rfl ?_); refine goesL_ (some 55) rfl rfl Try.func85 (by kernel_rfl) rfl #[.int .u8 1, .bool x7_6] rfl (by (try simp only [List.map_toArray, List.map_cons, List.map_nil]); first | done | rfl | (simp only [List.length_drop, List.length_take]; rfl)) ?_; (with_reducible refine (pendulumref05_Flag.calls 1 x7_6 t135 _ A20.out).mono ?_); rintro e w' ⟨rfl, ⟨nd, rfl⟩⟩; refine ⟨_, rfl, ?_⟩) | ((with_reducible refine gate_callee (f := 85) rfl ?_); refine goesL_ (some 58) rfl rfl Try.func85 (by kernel_rfl) rfl #[.int .u8 16, .bool false] rfl (by (try simp only [List.map_toArray, List.map_cons, List.map_nil]); first | done | rfl | (simp only [List.length_drop, List.length_take]; rfl)) ?_; (with_reducible refine (pendulumref05_Flag.calls 16 false t136 _ A21.out).mono ?_); rintro e w' ⟨rfl, ⟨nd, rfl⟩⟩; refine ⟨_, rfl, ?_⟩))
                      go_ret2
                      exact ⟨by first | rfl | (simp; done) | (simp [*]; done), by repeat (first | exact Drawn0.refl _ | apply Drawn0.step)⟩

/-! ### shift_Cpl: function 70 -/
def shift_Cpl.f (a0 : Int) (a1 : Int) : Option (Int × Int) := some (Go.bits .xor .u8 255 a0, Go.bits .or .u8 (Go.bits .or .u8 (Go.bits .or .u8 (Go.bits .and .u8 a1 197) 16) 2) (Go.bits .and .u8 (Go.bits .xor .u8 255 a0) 40))
set_option maxHeartbeats 8000000 in
set_option maxRecDepth 100000 in
theorem shift_Cpl.calls (a0 : Int) (a1 : Int) (r1 : Int) (r2 : Int) (w : World) (h : shift_Cpl.f a0 a1 = some (r1, r2)) :
    Calls Try.prog 70 #[.int .u8 a0, .int .u8 a1] w fun e w' => e = .returned (.tuple #[.int .u8 r1, .int .u8 r2]) ∧ Drawn0 w w' := by
  have H : (some (Go.bits .xor .u8 255 a0, Go.bits .or .u8 (Go.bits .or .u8 (Go.bits .or .u8 (Go.bits .and .u8 a1 197) 16) 2) (Go.bits .and .u8 (Go.bits .xor .u8 255 a0) 40))) = some (r1, r2) := h
  clear h
  simp only [Option.some.injEq, Prod.mk.injEq] at H
  obtain ⟨rfl, rfl⟩ := H
  go_enter Try.func70, Try.ntmps70
  go_wp2
  go_ret2
  exact ⟨by first | rfl | (simp; done) | (simp [*]; done), by repeat (first | exact Drawn0.refl _ | apply Drawn0.step)⟩

/-! ### pendulumref06_kept: function 102 -/
def pendulumref06_kept.f (a0 : Int) : Option (Int) := some (Go.bits .and .u8 a0 196)
set_option maxHeartbeats 8000000 in
set_option maxRecDepth 100000 in
theorem pendulumref06_kept.calls (a0 : Int) (r : Int) (w : World) (h : pendulumref06_kept.f a0 = some r) :
    Calls Try.prog 102 #[.int .u8 a0] w fun e w' => e = .returned (.int .u8 r) ∧ Drawn0 w w' := by
  have H : (some (Go.bits .and .u8 a0 196)) = some r := h
  clear h
  obtain rfl := Option.some.inj H
  go_enter Try.func102, Try.ntmps102
  go_wp2
  go_ret
  exact ⟨by first | rfl | (simp; done) | (simp [*]; done), by repeat (first | exact Drawn0.refl _ | apply Drawn0.step)⟩

/-! ### pendulumref06_yx: function 103 -/
def pendulumref06_yx.f (a0 : Int) : Option (Int) := some (Go.bits .and .u8 a0 40)
set_option maxHeartbeats 8000000 in
set_option maxRecDepth 100000 in
theorem pendulumref06_yx.calls (a0 : Int) (r : Int) (w : World) (h : pendulumref06_yx.f a0 = some r) :
    Calls Try.prog 103 #[.int .u8 a0] w fun e w' => e = .returned (.int .u8 r) ∧ Drawn0 w w' := by
  have H : (some (Go.bits .and .u8 a0 40)) = some r := h
  clear h
  obtain rfl := Option.some.inj H
  go_enter Try.func103, Try.ntmps103
  go_wp2
  go_ret
  exact ⟨by first | rfl | (simp; done) | (simp [*]; done), by repeat (first | exact Drawn0.refl _ | apply Drawn0.step)⟩

/-! ### pendulumref06_Cpl: function 71 -/
def pendulumref06_Cpl.f (a0 : Int) (a1 : Int) : Option (Int × Int) := (pendulumref06_kept.f a1).bind fun t137 => ((pendulumref06_yx.f ((255 - a0) % 256)).bind fun t138 => (some ((255 - a0) % 256, Go.bits .or .u8 (Go.bits .or .u8 (Go.bits .or .u8 (Go.bits .or .u8 t137 (Go.bits .and .u8 a1 1)) 16) 2) t138)))
set_option maxHeartbeats 8000000 in
set_option maxRecDepth 100000 in
theorem pendulumref06_Cpl.calls (a0 : Int) (a1 : Int) (r1 : Int) (r2 : Int) (w : World) (h : pendulumref06_Cpl.f a0 a1 = some (r1, r2)) :
    Calls Try.prog 71 #[.int .u8 a0, .int .u8 a1] w fun e w' => e = .returned (.tuple #[.int .u8 r1, .int .u8 r2]) ∧ Drawn0 w w' := by
  have H : ((pendulumref06_kept.f a1).bind fun t137 => ((pendulumref06_yx.f ((255 - a0) % 256)).bind fun t138 => (some ((255 - a0) % 256, Go.bits .or .u8 (Go.bits .or .u8 (Go.bits .or .u8 (Go.bits .or .u8 t137 (Go.bits .and .u8 a1 1)) 16) 2) t138)))) = some (r1, r2) := h
  clear h
  replace H := Option.bind_eq_some_iff.mp H
  obtain ⟨t137, A30, H⟩ := H
  replace H : ((pendulumref06_yx.f ((255 - a0) % 256)).bind fun t138 => (some ((255 - a0) % 256, Go.bits .or .u8 (Go.bits .or .u8 (Go.bits .or .u8 (Go.bits .or .u8 t137 (Go.bits .and .u8 a1 1)) 16) 2) t138))) = some (r1, r2) := H
  have A3 := Aside0.mk A30
  clear A30
  replace H := Option.bind_eq_some_iff.mp H
  obtain ⟨t138, A40, H⟩ := H
  replace H : (some ((255 - a0) % 256, Go.bits .or .u8 (Go.bits .or .u8 (Go.bits .or .u8 (Go.bits .or .u8 t137 (Go.bits .and .u8 a1 1)) 16) 2) t138)) = some (r1, r2) := H
  have A4 := Aside0.mk A40
  clear A40
  simp only [Option.some.injEq, Prod.mk.injEq] at H
  obtain ⟨rfl, rfl⟩ := H
  go_enter Try.func71, Try.ntmps71
  go_wp2_with (first | ((with_reducible refine gate_callee (f := 102) rfl ?_); refine goesL_ (some 11) rfl rfl Try.func102 (by kernel_rfl) rfl #[.int .u8 a1] rfl (by (try simp only [List.map_toArray, List.map_cons, List.map_nil]); first | done | rfl | (simp only [List.length_drop, List.length_take]; rfl)) ?_; (with_reducible refine (pendulumref06_kept.calls a1 t137 _ A3.out).mono ?_); rintro e w' ⟨rfl, ⟨nd, rfl⟩⟩; refine ⟨_, rfl, ?_⟩) | ((with_reducible refine gate_callee (f := 103) rfl ?_); refine goesL_ (some 18) rfl rfl Try.func103 (by kernel_rfl) rfl #[.int .u8 ((255 - a0) % 256)] rfl (by (try simp only [List.map_toArray, List.map_cons, List.map_nil]); first | done | rfl | (simp only [List.length_drop, List.length_take]; rfl)) ?_; (with_reducible refine (pendulumref06_yx.calls ((255 - a0) % 256) t138 _ A4.out).mono ?_); rintro e w' ⟨rfl, ⟨nd, rfl⟩⟩; refine ⟨_, rfl, ?_⟩))
  go_ret2
  exact ⟨by first | rfl | (simp; done) | (simp [*]; done), by repeat (first | exact Drawn0.refl _ | apply Drawn0.step)⟩

/-! ### shift_Scf: function 72 -/
def shift_Scf.f (a0 : Int) (a1 : Int) : Option (Int) := some (Go.bits .or .u8 (Go.bits .or .u8 (Go.bits .and .u8 a1 196) (Go.bits .and .u8 a0 40)) 1)
set_option maxHeartbeats 8000000 in
set_option maxRecDepth 100000 in
theorem shift_Scf.calls (a0 : Int) (a1 : Int) (r : Int) (w : World) (h : shift_Scf.f a0 a1 = some r) :
    Calls Try.prog 72 #[.int .u8 a0, .int .u8 a1] w fun e w' => e = .returned (.int .u8 r) ∧ Drawn0 w w' := by
  have H : (some (Go.bits .or .u8 (Go.bits .or .u8 (Go.bits .and .u8 a1 196) (Go.bits .and .u8 a0 40)) 1)) = some r := h
  clear h
  obtain rfl := Option.some.inj H
  go_enter Try.func72, Try.ntmps72
  go_wp2
  go_ret
  exact ⟨by first | rfl | (simp; done) | (simp [*]; done), by repeat (first | exact Drawn0.refl _ | apply Drawn0.step)⟩

/-! ### pendulumref06_Scf: function 73 -/
def pendulumref06_Scf.f (a0 : Int) (a1 : Int) : Option (Int) := (pendulumref06_kept.f a1).bind fun t139 => ((pendulumref06_yx.f a0).bind fun t140 => (some (Go.bits .or .u8 (Go.bits .or .u8 t139 t140) 1)))
set_option maxHeartbeats 8000000 in
set_option maxRecDepth 100000 in
theorem pendulumref06_Scf.calls (a0 : Int) (a1 : Int) (r : Int) (w : World) (h : pendulumref06_Scf.f a0 a1 = some r) :
    Calls Try.prog 73 #[.int .u8 a0, .int .u8 a1] w fun e w' => e = .returned (.int .u8 r) ∧ Drawn0 w w' := by
  have H : ((pendulumref06_kept.f a1).bind fun t139 => ((pendulumref06_yx.f a0).bind fun t140 => (some (Go.bits .or .u8 (Go.bits .or .u8 t139 t140) 1)))) = some r := h
  clear h
  replace H := Option.bind_eq_some_iff.mp H
  obtain ⟨t139, A30, H⟩ := H
  replace H : ((pendulumref06_yx.f a0).bind fun t140 => (some (Go.bits .or .u8 (Go.bits .or .u8 t139 t140) 1))) = some r := H
  have A3 := Aside0.mk A30
  clear A30
  replace H := Option.bind_eq_some_iff.mp H
  obtain ⟨t140, A40, H⟩ := H
  replace H : (some (Go.bits .or .u8 (Go.bits .or .u8 t139 t140) 1)) = some r := H
  have A4 := Aside0.mk A40
  clear A40
  obtain rfl := Option.some.inj H
  go_enter Try.func73, Try.ntmps73
  go_wp2_with (first | ((with_reducible refine gate_callee (f := 102) rfl ?_); refine goesL_ (some 6) rfl rfl Try.func102 (by kernel_rfl) rfl #[.int .u8 a1] rfl (by (try simp only [List.map_toArray, List.map_cons, List.map_nil]); first | done | rfl | (simp only [List.length_drop, List.length_take]; rfl)) ?_; (with_reducible refine (pendulumref06_kept.calls a1 t139 _ A3.out).mono ?_); rintro e w' ⟨rfl, ⟨nd, rfl⟩⟩; refine ⟨_, rfl, ?_⟩) | ((with_reducible refine gate_callee (f := 103) rfl ?_); refine goesL_ (some 8) rfl rfl Try.func103 (by kernel_rfl) rfl #[.int .u8 a0] rfl (by (try simp only [List.map_toArray, List.map_cons, List.map_nil]); first | done | rfl | (simp only [List.length_drop, List.length_take]; rfl)) ?_; (with_reducible refine (pendulumref06_yx.calls a0 t140 _ A4.out).mono ?_); rintro e w' ⟨rfl, ⟨nd, rfl⟩⟩; refine ⟨_, rfl, ?_⟩))
  go_ret
  exact ⟨by first | rfl | (simp; done) | (simp [*]; done), by repeat (first | exact Drawn0.refl _ | apply Drawn0.step)⟩

/-! ### shift_Ccf: function 74 -/
def shift_Ccf.f (a0 : Int) (a1 : Int) : Option (Int) := (shift_if1.f ((Go.bits .and .u8 a1 1) != 0) 16).bind fun t141 => ((shift_if1.f ((Go.bits .and .u8 a1 1) == 0) 1).bind fun t142 => (some (Go.bits .or .u8 (Go.bits .or .u8 (Go.bits .or .u8 (Go.bits .and .u8 a1 196) (Go.bits .and .u8 a0 40)) t141) t142)))
set_option maxHeartbeats 8000000 in
set_option maxRecDepth 100000 in
theorem shift_Ccf.calls (a0 : Int) (a1 : Int) (r : Int) (w : World) (h : shift_Ccf.f a0 a1 = some r) :
    Calls Try.prog 74 #[.int .u8 a0, .int .u8 a1] w fun e w' => e = .returned (.int .u8 r) ∧ Drawn0 w w' := by
  have H : ((shift_if1.f ((Go.bits .and .u8 a1 1) != 0) 16).bind fun t141 => ((shift_if1.f ((Go.bits .and .u8 a1 1) == 0) 1).bind fun t142 => (some (Go.bits .or .u8 (Go.bits .or .u8 (Go.bits .or .u8 (Go.bits .and .u8 a1 196) (Go.bits .and .u8 a0 40)) t141) t142)))) = some r := h
  clear h
  replace H := Option.bind_eq_some_iff.mp H
  obtain ⟨t141, A30, H⟩ := H
  replace H : ((shift_if1.f ((Go.bits .and .u8 a1 1) == 0) 1).bind fun t142 => (some (Go.bits .or .u8 (Go.bits .or .u8 (Go.bits .or .u8 (Go.bits .and .u8 a1 196) (Go.bits .and .u8 a0 40)) t141) t142))) = some r := H
  have A3 := Aside0.mk A30
  clear A30
  replace H := Option.bind_eq_some_iff.mp H
  obtain ⟨t142, A40, H⟩ := H
  replace H : (some (Go.bits .or .u8 (Go.bits .or .u8 (Go.bits .or .u8 (Go.bits .and .u8 a1 196) (Go.bits .and .u8 a0 40)) t141) t142)) = some r := H
  have A4 := Aside0.mk A40
  clear A40
  obtain rfl := Option.some.inj H
  go_enter Try.func74, Try.ntmps74
  go_wp2_with (first | ((with_reducible refine gate_callee (f := 97) rfl ?_); refine goesL_ (some 13) rfl rfl Try.func97 (by kernel_rfl) rfl #[.bool ((Go.bits .and .u8 a1 1) != 0), .int .u8 16] rfl (by (try simp only [List.map_toArray, List.map_cons, List.map_nil]); first | done | rfl | (simp only [List.length_drop, List.length_take]; rfl)) ?_; (with_reducible refine (shift_if1.calls ((Go.bits .and .u8 a1 1) != 0) 16 t141 _ A3.out).mono ?_); rintro e w' ⟨rfl, ⟨nd, rfl⟩⟩; refine ⟨_, rfl, ?_⟩) | ((with_reducible refine gate_callee (f := 97) rfl ?_); refine goesL_ (some 18) rfl rfl Try.func97 (by kernel_rfl) rfl #[.bool ((Go.bits .and .u8 a1 1) == 0), .int .u8 1] rfl (by (try simp only [List.map_toArray, List.map_cons, List.map_nil]); first | done | rfl | (simp only [List.length_drop, List.length_take]; rfl)) ?_; (with_reducible refine (shift_if1.calls ((Go.bits .and .u8 a1 1) == 0) 1 t142 _ A4.out).mono ?_); rintro e w' ⟨rfl, ⟨nd, rfl⟩⟩; refine ⟨_, rfl, ?_⟩))
  go_ret
  exact ⟨by first | rfl | (simp; done) | (simp [*]; done), by repeat (first | exact Drawn0.refl _ | apply Drawn0.step)⟩

/-! ### pendulumref06_Ccf: function 75 -/
def pendulumref06_Ccf.f (a0 : Int) (a1 : Int) : Option (Int) := if (Go.bits .and .u8 a1 1) = 0 then ((pendulumref06_kept.f a1).bind fun t143 => ((pendulumref06_yx.f a0).bind fun t144 => (some (Go.bits .or .u8 (Go.bits .or .u8 t143 t144) 1)))) else ((pendulumref06_kept.f a1).bind fun t145 => ((pendulumref06_yx.f a0).bind fun t146 => (some (Go.bits .or .u8 (Go.bits .or .u8 t145 t146) 16))))
set_option maxHeartbeats 8000000 in
set_option maxRecDepth 100000 in
theorem pendulumref06_Ccf.calls (a0 : Int) (a1 : Int) (r : Int) (w : World) (h : pendulumref06_Ccf.f a0 a1 = some r) :
    Calls Try.prog 75 #[.int .u8 a0, .int .u8 a1] w fun e w' => e = .returned (.int .u8 r) ∧ Drawn0 w w' := by
  have H : (if (Go.bits .and .u8 a1 1) = 0 then ((pendulumref06_kept.f a1).bind fun t143 => ((pendulumref06_yx.f a0).bind fun t144 => (some (Go.bits .or .u8 (Go.bits .or .u8 t143 t144) 1)))) else ((pendulumref06_kept.f a1).bind fun t145 => ((pendulumref06_yx.f a0).bind fun t146 => (some (Go.bits .or .u8 (Go.bits .or .u8 t145 t146) 16))))) = some r := h
  clear h
  by_cases c3 : (Go.bits .and .u8 a1 1) = 0
  · rw [if_pos c3] at H
    have c3b0 : ((Go.bits .and .u8 a1 1) == 0) = true := beq_iff_eq.mpr c3
    have c3b1 : ((Go.bits .and .u8 a1 1) != 0) = false := bne_eq_false_iff_eq.mpr c3
    clear c3
    replace H := Option.bind_eq_some_iff.mp H
    obtain ⟨t143, A40, H⟩ := H
    replace H : ((pendulumref06_yx.f a0).bind fun t144 => (some (Go.bits .or .u8 (Go.bits .or .u8 t143 t144) 1))) = some r := H
    have A4 := Aside0.mk A40
    clear A40
    replace H := Option.bind_eq_some_iff.mp H
    obtain ⟨t144, A50, H⟩ := H
    replace H : (some (Go.bits .or .u8 (Go.bits .or .u8 t143 t144) 1)) = some r := H
    have A5 := Aside0.mk A50
    clear A50
    obtain rfl := Option.some.inj H
    go_enter Try.func75, Try.ntmps75
    go_wp2_with (first | ((with_reducible refine gate_callee (f := 102) rfl ?_); refine goesL_ (some 15) rfl rfl Try.func102 (by kernel_rfl) rfl #[.int .u8 a1] rfl (by (try simp only [List.map_toArray, List.map_cons, List.map_nil]); first | done | rfl | (simp only [List.length_drop, List.length_take]; rfl)) ?_; (with_reducible refine (pendulumref06_kept.calls a1 t143 _ A4.out).mono ?_); rintro e w' ⟨rfl, ⟨nd, rfl⟩⟩; refine ⟨_, rfl, ?_⟩) | ((with_reducible refine gate_callee (f := 103) rfl ?_); refine goesL_ (some 17) rfl rfl Try.func103 (by kernel_rfl) rfl #[.int .u8 a0] rfl (by (try simp only [List.map_toArray, List.map_cons, List.map_nil]); first | done | rfl | (simp only [List.length_drop, List.length_take]; rfl)) ?_; (with_reducible refine (pendulumref06_yx.calls a0 t144 _ A5.out).mono ?_); rintro e w' ⟨rfl, ⟨nd, rfl⟩⟩; refine ⟨_, rfl, ?_⟩))
    go_ret
    exact ⟨by first | rfl | (simp; done) | (simp [*]; done), by repeat (first | exact Drawn0.refl _ | apply Drawn0.step)⟩
  · rw [if_neg c3] at H
    have c3b0 : ((Go.bits .and .u8 a1 1) == 0) = false := beq_eq_false_iff_ne.mpr c3
    have c3b1 : ((Go.bits .and .u8 a1 1) != 0) = true := bne_iff_ne.mpr c3
    replace H := Option.bind_eq_some_iff.mp H
    obtain ⟨t145, A60, H⟩ := H
    replace H : ((pendulumref06_yx.f a0).bind fun t146 => (some (Go.bits .or .u8 (Go.bits .or .u8 t145 t146) 16))) = some r := H
    have A6 := Aside0.mk A60
    clear A60
    replace H := Option.bind_eq_some_iff.mp H
    obtain ⟨t146, A70, H⟩ := H
    replace H : (some (Go.bits .or .u8 (Go.bits .or .u8 t145 t146) 16)) = some r := H
    have A7 := Aside0.mk A70
    clear A70
    obtain rfl := Option.some.inj H
    go_enter Try.func75, Try.ntmps75
    go_wp2_with (first | ((with_reducible refine gate_callee (f := 102) rfl ?_); refine goesL_ (some 9) rfl rfl Try.func102 (by kernel_rfl) rfl #[.int .u8 a1] rfl (by (try simp only [List.map_toArray, List.map_cons, List.map_nil]); first | done | rfl | (simp only [List.length_drop, List.length_take]; rfl)) ?_; (with_reducible refine (pendulumref06_kept.calls a1 t145 _ A6.out).mono ?_); rintro e w' ⟨rfl, ⟨nd, rfl⟩⟩; refine ⟨_, rfl, ?_⟩) | ((with_reducible refine gate_callee (f := 103) rfl ?_); refine goesL_ (some 11) rfl rfl Try.func103 (by kernel_rfl) rfl #[.int .u8 a0] rfl (by (try simp only [List.map_toArray, List.map_cons, List.map_nil]); first | done | rfl | (simp only [List.length_drop, List.length_take]; rfl)) ?_; (with_reducible refine (pendulumref06_yx.calls a0 t146 _ A7.out).mono ?_); rintro e w' ⟨rfl, ⟨nd, rfl⟩⟩; refine ⟨_, rfl, ?_⟩))
    go_ret
    exact ⟨by first | rfl | (simp; done) | (simp [*]; done), by repeat (first | exact Drawn0.refl _ | apply Drawn0.step)⟩

/-! ### pendulumref06_Rld: function 77 -/
def pendulumref06_Rld.f (k : Nat) (a0 : Int) (a1 : Int) (a2 : Int) : Option (Int × Int × Int) := (pendulumref05_Logic.f k ((((((Int.tdiv a0 16) % 256) * 16) % 256) + ((Int.tdiv a1 16) % 256)) % 256)).bind fun t147 => (some ((((((Int.tdiv a0 16) % 256) * 16) % 256) + ((Int.tdiv a1 16) % 256)) % 256, ((((Int.tmod a1 16) * 16) % 256) + (Int.tmod a0 16)) % 256, Go.bits .or .u8 t147 (Go.bits .and .u8 a2 1)))
theorem pendulumref06_Rld.mono : ∀ a0 a1 a2 k, LeO (pendulumref06_Rld.f k a0 a1 a2) (pendulumref06_Rld.f (k + 1) a0 a1 a2) := by
  intro a0 a1 a2 k
  unfold pendulumref06_Rld.f
  repeat' first
      | (with_reducible exact pendulumref05_Logic.mono _ _)
      | (with_reducible exact LeO.refl _)
      | (with_reducible exact LeO.none _)
      | (with_reducible refine LeO.ite ?_ ?_)
      | (with_reducible refine LeO.bind ?_ (fun _ => ?_))
      | exact pendulumref05_Logic.mono _ _
      | exact LeO.none _
      | refine LeO.ite ?_ ?_
      | refine LeO.bind ?_ (fun _ => ?_)
set_option maxHeartbeats 8000000 in
set_option maxRecDepth 100000 in
theorem pendulumref06_Rld.calls (k : Nat) (a0 : Int) (a1 : Int) (a2 : Int) (r1 : Int) (r2 : Int) (r3 : Int) (w : World) (h : pendulumref06_Rld.f k a0 a1 a2 = some (r1, r2, r3)) :
    Calls Try.prog 77 #[.int .u8 a0, .int .u8 a1, .int .u8 a2] w fun e w' => e = .returned (.tuple #[.int .u8 r1, .int .u8 r2, .int .u8 r3]) ∧ Drawn0 w w' := by
  have H : ((pendulumref05_Logic.f k ((((((Int.tdiv a0 16) % 256) * 16) % 256) + ((Int.tdiv a1 16) % 256)) % 256)).bind fun t147 => (some ((((((Int.tdiv a0 16) % 256) * 16) % 256) + ((Int.tdiv a1 16) % 256)) % 256, ((((Int.tmod a1 16) * 16) % 256) + (Int.tmod a0 16)) % 256, Go.bits .or .u8 t147 (Go.bits .and .u8 a2 1)))) = some (r1, r2, r3) := h
  clear h
  replace H := Option.bind_eq_some_iff.mp H
  obtain ⟨t147, A40, H⟩ := H
  replace H : (some ((((((Int.tdiv a0 16) % 256) * 16) % 256) + ((Int.tdiv a1 16) % 256)) % 256, ((((Int.tmod a1 16) * 16) % 256) + (Int.tmod a0 16)) % 256, Go.bits .or .u8 t147 (Go.bits .and .u8 a2 1))) = some (r1, r2, r3) := H
  have A4 := Aside0.mk A40
  clear A40
  simp only [Option.some.injEq, Prod.mk.injEq] at H
  obtain ⟨rfl, rfl, rfl⟩ := H
  go_enter Try.func77, Try.ntmps77
  go_wp2_with (first | ((with_reducible refine gate_callee (f := 94) rfl ?_); refine goesL_ (some 26) rfl rfl Try.func94 (by kernel_rfl) rfl #[.int .u8 ((((((Int.tdiv a0 16) % 256) * 16) % 256) + ((Int.tdiv a1 16) % 256)) % 256)] rfl (by (try simp only [List.map_toArray, List.map_cons, List.map_nil]); first | done | rfl | (simp only [List.length_drop, List.length_take]; rfl)) ?_; (with_reducible refine (pendulumref05_Logic.calls k ((((((Int.tdiv a0 16) % 256) * 16) % 256) + ((Int.tdiv a1 16) % 256)) % 256) t147 _ A4.out).mono ?_); rintro e w' ⟨rfl, ⟨nd, rfl⟩⟩; refine ⟨_, rfl, ?_⟩))
  go_ret3
  exact ⟨by first | rfl | (simp; done) | (simp [*]; done), by repeat (first | exact Drawn0.refl _ | apply Drawn0.step)⟩

/-! ### shift_Rrd: function 78 -/
def shift_Rrd.f (a0 : Int) (a1 : Int) (a2 : Int) : Option (Int × Int × Int) := (shift_whole.f (Go.bits .or .u8 (Go.bits .and .u8 a0 240) (Go.bits .and .u8 a1 15))).bind fun t148 => (some (Go.bits .or .u8 (Go.bits .and .u8 a0 240) (Go.bits .and .u8 a1 15), Go.bits .or .u8 ((a0 * 16) % 256) (a1 / 16), Go.bits .or .u8 t148 (Go.bits .and .u8 a2 1)))
set_option maxHeartbeats 8000000 in
set_option maxRecDepth 100000 in
theorem shift_Rrd.calls (a0 : Int) (a1 : Int) (a2 : Int) (r1 : Int) (r2 : Int) (r3 : Int) (w : World) (h : shift_Rrd.f a0 a1 a2 = some (r1, r2, r3)) :
    Calls Try.prog 78 #[.int .u8 a0, .int .u8 a1, .int .u8 a2] w fun e w' => e = .returned (.tuple #[.int .u8 r1, .int .u8 r2, .int .u8 r3]) ∧ Drawn0 w w' := by
  have H : ((shift_whole.f (Go.bits .or .u8 (Go.bits .and .u8 a0 240) (Go.bits .and .u8 a1 15))).bind fun t148 => (some (Go.bits .or .u8 (Go.bits .and .u8 a0 240) (Go.bits .and .u8 a1 15), Go.bits .or .u8 ((a0 * 16) % 256) (a1 / 16), Go.bits .or .u8 t148 (Go.bits .and .u8 a2 1)))) = some (r1, r2, r3) := h
  clear h
  replace H := Option.bind_eq_some_iff.mp H
  obtain ⟨t148, A40, H⟩ := H
  replace H : (some (Go.bits .or .u8 (Go.bits .and .u8 a0 240) (Go.bits .and .u8 a1 15), Go.bits .or .u8 ((a0 * 16) % 256) (a1 / 16), Go.bits .or .u8 t148 (Go.bits .and .u8 a2 1))) = some (r1, r2, r3) := H
  have A4 := Aside0.mk A40
  clear A40
  simp only [Option.some.injEq, Prod.mk.injEq] at H
  obtain ⟨rfl, rfl, rfl⟩ := H
  go_enter Try.func78, Try.ntmps78
  go_wp2_with (first | ((with_reducible refine gate_callee (f := 96) rfl ?_); refine goesL_ (some 22) rfl rfl Try.func96 (by kernel_rfl) rfl #[.int .u8 (Go.bits .or .u8 (Go.bits .and .u8 a0 240) (Go.bits .and .u8 a1 15))] rfl (by (try simp only [List.map_toArray, List.map_cons, List.map_nil]); first | done | rfl | (simp only [List.length_drop, List.length_take]; rfl)) ?_; (with_reducible refine (shift_whole.calls (Go.bits .or .u8 (Go.bits .and .u8 a0 240) (Go.bits .and .u8 a1 15)) t148 _ A4.out).mono ?_); rintro e w' ⟨rfl, ⟨nd, rfl⟩⟩; refine ⟨_, rfl, ?_⟩))
  go_ret3
  exact ⟨by first | rfl | (simp; done) | (simp [*]; done), by repeat (first | exact Drawn0.refl _ | apply Drawn0.step)⟩

/-! ### pendulumref06_Rrd: function 79 -/
def pendulumref06_Rrd.f (k : Nat) (a0 : Int) (a1 : Int) (a2 : Int) : Option (Int × Int × Int) := (pendulumref05_Logic.f k ((((((Int.tdiv a0 16) % 256) * 16) % 256) + (Int.tmod a1 16)) % 256)).bind fun t149 => (some ((((((Int.tdiv a0 16) % 256) * 16) % 256) + (Int.tmod a1 16)) % 256, ((((Int.tmod a0 16) * 16) % 256) + ((Int.tdiv a1 16) % 256)) % 256, Go.bits .or .u8 t149 (Go.bits .and .u8 a2 1)))
theorem pendulumref06_Rrd.mono : ∀ a0 a1 a2 k, LeO (pendulumref06_Rrd.f k a0 a1 a2) (pendulumref06_Rrd.f (k + 1) a0 a1 a2) := by
  intro a0 a1 a2 k
  unfold pendulumref06_Rrd.f
  repeat' first
      | (with_reducible exact pendulumref05_Logic.mono _ _)
      | (with_reducible exact LeO.refl _)
      | (with_reducible exact LeO.none _)
      | (with_reducible refine LeO.ite ?_ ?_)
      | (with_reducible refine LeO.bind ?_ (fun _ => ?_))
      | exact pendulumref05_Logic.mono _ _
      | exact LeO.none _
      | refine LeO.ite ?_ ?_
      | refine LeO.bind ?_ (fun _ => ?_)
set_option maxHeartbeats 8000000 in
set_option maxRecDepth 100000 in
theorem pendulumref06_Rrd.calls (k : Nat) (a0 : Int) (a1 : Int) (a2 : Int) (r1 : Int) (r2 : Int) (r3 : Int) (w : World) (h : pendulumref06_Rrd.f k a0 a1 a2 = some (r1, r2, r3)) :
    Calls Try.prog 79 #[.int .u8 a0, .int .u8 a1, .int .u8 a2] w fun e w' => e = .returned (.tuple #[.int .u8 r1, .int .u8 r2, .int .u8 r3]) ∧ Drawn0 w w' := by
  have H : ((pendulumref05_Logic.f k ((((((Int.tdiv a0 16) % 256) * 16) % 256) + (Int.tmod a1 16)) % 256)).bind fun t149 => (some ((((((Int.tdiv a0 16) % 256) * 16) % 256) + (Int.tmod a1 16)) % 256, ((((Int.tmod a0 16) * 16) % 256) + ((Int.tdiv a1 16) % 256)) % 256, Go.bits .or .u8 t149 (Go.bits .and .u8 a2 1)))) = some (r1, r2, r3) := h
  clear h
  replace H := Option.bind_eq_some_iff.mp H
  obtain ⟨t149, A40, H⟩ := H
  replace H : (some ((((((Int.tdiv a0 16) % 256) * 16) % 256) + (Int.tmod a1 16)) % 256, ((((Int.tmod a0 16) * 16) % 256) + ((Int.tdiv a1 16) % 256)) % 256, Go.bits .or .u8 t149 (Go.bits .and .u8 a2 1))) = some (r1, r2, r3) := H
  have A4 := Aside0.mk A40
  clear A40
  simp only [Option.some.injEq, Prod.mk.injEq] at H
  obtain ⟨rfl, rfl, rfl⟩ := H
  go_enter Try.func79, Try.ntmps79
  go_wp2_with (first | ((with_reducible refine gate_callee (f := 94) rfl ?_); refine goesL_ (some 26) rfl rfl Try.func94 (by kernel_rfl) rfl #[.int .u8 ((((((Int.tdiv a0 16) % 256) * 16) % 256) + (Int.tmod a1 16)) % 256)] rfl (by (try simp only [List.map_toArray, List.map_cons, List.map_nil]); first | done | rfl | (simp only [List.length_drop, List.length_take]; rfl)) ?_; (with_reducible refine (pendulumref05_Logic.calls k ((((((Int.tdiv a0 16) % 256) * 16) % 256) + (Int.tmod a1 16)) % 256) t149 _ A4.out).mono ?_); rintro e w' ⟨rfl, ⟨nd, rfl⟩⟩; refine ⟨_, rfl, ?_⟩))
  go_ret3
  exact ⟨by first | rfl | (simp; done) | (simp [*]; done), by repeat (first | exact Drawn0.refl _ | apply Drawn0.step)⟩

end Go.Proofs.Ytpmmneipfmbmlaa.HShiftOdd
