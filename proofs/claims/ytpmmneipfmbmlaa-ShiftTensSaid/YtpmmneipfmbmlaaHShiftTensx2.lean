-- Written by a program of this session out of Lean's print of the program (after the form of the kit's print.sh, with own turns); Lean checks it.
import Derived.Test.YtpmmneipfmbmlaaHShiftTensx0
import Derived.Test.YtpmmneipfmbmlaaHShiftTensx1
namespace Go.Proofs.Ytpmmneipfmbmlaa.HShiftTens
open Go.RowKit Go.Proofs.YtpmmneipfmbmlaaW.PrintWords Go.Proofs.YtpmmneipfmbmlaaW.PrintLast Go.Proofs.YtpmmneipfmbmlaaW.PrintMore
attribute [local go_sem] max2_int min2_int max_two min_two max_three min_three max_four min_four   -- for this text's walks alone
set_option linter.unusedVariables false
set_option linter.unusedSimpArgs false

/-! ### shift_Daa: function 54 -/
mutual
def shift_Daa.j0 : Nat → Int → Int → Int → Bool → Option (Int × Int)
  | 0, _, _, _, _ => none
  | k + 1, x0, x1, x6, x7 => if (Go.bits .and .u8 x1 16) = 0 then (shift_Daa.j1 k x0 x1 x6 x7 (decide ((Go.bits .and .u8 x0 15) > 9))) else (shift_Daa.j1 k x0 x1 x6 x7 true)
def shift_Daa.j1 : Nat → Int → Int → Int → Bool → Bool → Option (Int × Int)
  | 0, _, _, _, _, _ => none
  | k + 1, x0, x1, x6, x7, x23 => if x23 = true then (shift_Daa.j2 k x0 x1 6 x7) else (shift_Daa.j2 k x0 x1 x6 x7)
def shift_Daa.j2 : Nat → Int → Int → Int → Bool → Option (Int × Int)
  | 0, _, _, _, _ => none
  | k + 1, x0, x1, x6, x7 => if x7 = true then (shift_Daa.j3 k x0 x1 ((x6 + 96) % 256) x7) else (shift_Daa.j3 k x0 x1 x6 x7)
def shift_Daa.j3 : Nat → Int → Int → Int → Bool → Option (Int × Int)
  | 0, _, _, _, _ => none
  | k + 1, x0, x1, x6, x7 => if (Go.bits .and .u8 x1 2) = 0 then ((shift_whole.f ((x0 + x6) % 256)).bind fun t124 => ((shift_if1.f x7 1).bind fun t125 => ((shift_if1.f (decide ((Go.bits .and .u8 x0 15) > 9)) 16).bind fun t126 => (some ((x0 + x6) % 256, Go.bits .or .u8 (Go.bits .or .u8 (Go.bits .or .u8 t124 (Go.bits .and .u8 x1 2)) t125) t126))))) else (if (Go.bits .and .u8 x0 15) < 6 then ((shift_whole.f ((x0 - x6) % 256)).bind fun t127 => ((shift_if1.f x7 1).bind fun t128 => ((shift_if1.f ((Go.bits .and .u8 x1 16) != 0) 16).bind fun t129 => (some ((x0 - x6) % 256, Go.bits .or .u8 (Go.bits .or .u8 (Go.bits .or .u8 t127 (Go.bits .and .u8 x1 2)) t128) t129))))) else ((shift_whole.f ((x0 - x6) % 256)).bind fun t130 => ((shift_if1.f x7 1).bind fun t131 => ((shift_if1.f false 16).bind fun t132 => (some ((x0 - x6) % 256, Go.bits .or .u8 (Go.bits .or .u8 (Go.bits .or .u8 t130 (Go.bits .and .u8 x1 2)) t131) t132))))))
end
def shift_Daa.f (k : Nat) (a0 : Int) (a1 : Int) : Option (Int × Int) := if (Go.bits .and .u8 a1 1) = 0 then (shift_Daa.j0 k a0 a1 0 (decide (a0 > 153))) else (shift_Daa.j0 k a0 a1 0 true)
theorem shift_Daa.mono_l : ∀ k, (∀ y0 y1 y2 y3, LeO (shift_Daa.j0 k y0 y1 y2 y3) (shift_Daa.j0 (k + 1) y0 y1 y2 y3)) ∧ (∀ y0 y1 y2 y3 y4, LeO (shift_Daa.j1 k y0 y1 y2 y3 y4) (shift_Daa.j1 (k + 1) y0 y1 y2 y3 y4)) ∧ (∀ y0 y1 y2 y3, LeO (shift_Daa.j2 k y0 y1 y2 y3) (shift_Daa.j2 (k + 1) y0 y1 y2 y3)) ∧ (∀ y0 y1 y2 y3, LeO (shift_Daa.j3 k y0 y1 y2 y3) (shift_Daa.j3 (k + 1) y0 y1 y2 y3))
  | 0 => ⟨fun _ _ _ _ r h => by simp [shift_Daa.j0] at h, fun _ _ _ _ _ r h => by simp [shift_Daa.j1] at h, fun _ _ _ _ r h => by simp [shift_Daa.j2] at h, fun _ _ _ _ r h => by simp [shift_Daa.j3] at h⟩
  | k + 1 => by
    obtain ⟨ih0, ih1, ih2, ih3⟩ := shift_Daa.mono_l k
    refine ⟨?_, ?_, ?_, ?_⟩
    · intro y0 y1 y2 y3
      unfold shift_Daa.j0
      repeat' first
      | (with_reducible exact ih0 _ _ _ _)
      | (with_reducible exact ih1 _ _ _ _ _)
      | (with_reducible exact ih2 _ _ _ _)
      | (with_reducible exact ih3 _ _ _ _)
      | (with_reducible exact LeO.refl _)
      | (with_reducible exact LeO.none _)
      | (with_reducible refine LeO.ite ?_ ?_)
      | (with_reducible refine LeO.bind ?_ (fun _ => ?_))
      | exact ih0 _ _ _ _
      | exact ih1 _ _ _ _ _
      | exact ih2 _ _ _ _
      | exact ih3 _ _ _ _
      | exact LeO.none _
      | refine LeO.ite ?_ ?_
      | refine LeO.bind ?_ (fun _ => ?_)
    · intro y0 y1 y2 y3 y4
      unfold shift_Daa.j1
      repeat' first
      | (with_reducible exact ih0 _ _ _ _)
      | (with_reducible exact ih1 _ _ _ _ _)
      | (with_reducible exact ih2 _ _ _ _)
      | (with_reducible exact ih3 _ _ _ _)
      | (with_reducible exact LeO.refl _)
      | (with_reducible exact LeO.none _)
      | (with_reducible refine LeO.ite ?_ ?_)
      | (with_reducible refine LeO.bind ?_ (fun _ => ?_))
      | exact ih0 _ _ _ _
      | exact ih1 _ _ _ _ _
      | exact ih2 _ _ _ _
      | exact ih3 _ _ _ _
      | exact LeO.none _
      | refine LeO.ite ?_ ?_
      | refine LeO.bind ?_ (fun _ => ?_)
    · intro y0 y1 y2 y3
      unfold shift_Daa.j2
      repeat' first
      | (with_reducible exact ih0 _ _ _ _)
      | (with_reducible exact ih1 _ _ _ _ _)
      | (with_reducible exact ih2 _ _ _ _)
      | (with_reducible exact ih3 _ _ _ _)
      | (with_reducible exact LeO.refl _)
      | (with_reducible exact LeO.none _)
      | (with_reducible refine LeO.ite ?_ ?_)
      | (with_reducible refine LeO.bind ?_ (fun _ => ?_))
      | exact ih0 _ _ _ _
      | exact ih1 _ _ _ _ _
      | exact ih2 _ _ _ _
      | exact ih3 _ _ _ _
      | exact LeO.none _
      | refine LeO.ite ?_ ?_
      | refine LeO.bind ?_ (fun _ => ?_)
    · intro y0 y1 y2 y3
      unfold shift_Daa.j3
      repeat' first
      | (with_reducible exact ih0 _ _ _ _)
      | (with_reducible exact ih1 _ _ _ _ _)
      | (with_reducible exact ih2 _ _ _ _)
      | (with_reducible exact ih3 _ _ _ _)
      | (with_reducible exact LeO.refl _)
      | (with_reducible exact LeO.none _)
      | (with_reducible refine LeO.ite ?_ ?_)
      | (with_reducible refine LeO.bind ?_ (fun _ => ?_))
      | exact ih0 _ _ _ _
      | exact ih1 _ _ _ _ _
      | exact ih2 _ _ _ _
      | exact ih3 _ _ _ _
      | exact LeO.none _
      | refine LeO.ite ?_ ?_
      | refine LeO.bind ?_ (fun _ => ?_)
theorem shift_Daa.mono : ∀ a0 a1 k, LeO (shift_Daa.f k a0 a1) (shift_Daa.f (k + 1) a0 a1) := by
  intro a0 a1 k
  obtain ⟨ih0, ih1, ih2, ih3⟩ := shift_Daa.mono_l k
  unfold shift_Daa.f
  repeat' first
      | (with_reducible exact ih0 _ _ _ _)
      | (with_reducible exact ih1 _ _ _ _ _)
      | (with_reducible exact ih2 _ _ _ _)
      | (with_reducible exact ih3 _ _ _ _)
      | (with_reducible exact LeO.refl _)
      | (with_reducible exact LeO.none _)
      | (with_reducible refine LeO.ite ?_ ?_)
      | (with_reducible refine LeO.bind ?_ (fun _ => ?_))
      | exact ih0 _ _ _ _
      | exact ih1 _ _ _ _ _
      | exact ih2 _ _ _ _
      | exact ih3 _ _ _ _
      | exact LeO.none _
      | refine LeO.ite ?_ ?_
      | refine LeO.bind ?_ (fun _ => ?_)
set_option maxHeartbeats 8000000 in
set_option maxRecDepth 100000 in
theorem shift_Daa.calls (k : Nat) (a0 : Int) (a1 : Int) (r1 : Int) (r2 : Int) (w : World) (h : shift_Daa.f k a0 a1 = some (r1, r2)) :
    Calls Try.prog 54 #[.int .u8 a0, .int .u8 a1] w fun e w' => e = .returned (.tuple #[.int .u8 r1, .int .u8 r2]) ∧ Drawn0 w w' := by
  have H : (if (Go.bits .and .u8 a1 1) = 0 then (shift_Daa.j0 k a0 a1 0 (decide (a0 > 153))) else (shift_Daa.j0 k a0 a1 0 true)) = some (r1, r2) := h
  clear h
  have HC3 := Aside0.mk H
  clear H
  go_enter Try.func54, Try.ntmps54
  go_upto_region 1 with (fail)
  go_cut [6, 7] (fun v6 v7 wc => ∃ (kq : Nat) (x6_2 : Int) (x7_2 : Bool), v6 = .int .u8 x6_2 ∧ v7 = .bool x7_2 ∧ Aside0 (shift_Daa.j0 kq a0 a1 x6_2 x7_2 = some (r1, r2)) ∧ Aside0 (kq ≤ k) ∧ Drawn0 w wc)
  case first =>
    have H := HC3.out
    clear HC3
    by_cases c4 : (Go.bits .and .u8 a1 1) = 0
    · rw [if_pos c4] at H
      have c4b0 : ((Go.bits .and .u8 a1 1) == 0) = true := beq_iff_eq.mpr c4
      have c4b1 : ((Go.bits .and .u8 a1 1) != 0) = false := bne_eq_false_iff_eq.mpr c4
      clear c4
      (first | rw [c4b0] | (simp only [i64_w, i32_w]; rw [c4b0]) | skip)
      have H' := Aside0.mk H
      clear H
      go_wp2
      go_meet
      case rel => exact ⟨_, (0), (decide (a0 > 153)), (by first | rfl | (simp; done) | (simp [*]; done)), (by first | rfl | (simp; done) | (simp [*]; done)), H', ⟨by first | omega | exact Nat.le_refl _⟩, by repeat (first | exact Drawn0.refl _ | apply Drawn0.step)⟩
    · rw [if_neg c4] at H
      have c4b0 : ((Go.bits .and .u8 a1 1) == 0) = false := beq_eq_false_iff_ne.mpr c4
      have c4b1 : ((Go.bits .and .u8 a1 1) != 0) = true := bne_iff_ne.mpr c4
      (first | rw [c4b0] | (simp only [i64_w, i32_w]; rw [c4b0]) | skip)
      have H' := Aside0.mk H
      clear H
      go_wp2
      go_meet
      case rel => exact ⟨_, (0), (true), (by first | rfl | (simp; done) | (simp [*]; done)), (by first | rfl | (simp; done) | (simp [*]; done)), H', ⟨by first | omega | exact Nat.le_refl _⟩, by repeat (first | exact Drawn0.refl _ | apply Drawn0.step)⟩
  case rest =>
    clear HC3
    try clear p2
    try clear c4
    try clear c4b0
    try clear c4b1
    obtain ⟨kq, x6_2, x7_2, rfl, rfl, HA, HJ2, ⟨mc2, rfl⟩⟩ := hcut
    cases kq with
    | zero => exact absurd HA.out (by simp [shift_Daa.j0])
    | succ kj2 =>
      have H := HA.out
      clear HA
      simp only [shift_Daa.j0] at H
      have HC5 := Aside0.mk H
      clear H
      go_upto_region 2 with (fail)
      go_cut [23] (fun v23 wc => ∃ (kq : Nat) (x23_4 : Bool), v23 = .bool x23_4 ∧ Aside0 (shift_Daa.j1 kq a0 a1 x6_2 x7_2 x23_4 = some (r1, r2)) ∧ Aside0 (kq ≤ kj2) ∧ Drawn0 w wc)
      case first =>
        have H := HC5.out
        clear HC5
        by_cases c6 : (Go.bits .and .u8 a1 16) = 0
        · rw [if_pos c6] at H
          have c6b0 : ((Go.bits .and .u8 a1 16) == 0) = true := beq_iff_eq.mpr c6
          have c6b1 : ((Go.bits .and .u8 a1 16) != 0) = false := bne_eq_false_iff_eq.mpr c6
          clear c6
          (first | rw [c6b0] | (simp only [i64_w, i32_w]; rw [c6b0]) | skip)
          have H' := Aside0.mk H
          clear H
          go_wp2
          go_meet
          case rel => exact ⟨_, (decide ((Go.bits .and .u8 a0 15) > 9)), (by first | rfl | (simp; done) | (simp [*]; done)), H', ⟨by have := HJ2.out; first | omega | exact Nat.le_refl _⟩, by repeat (first | exact Drawn0.refl _ | apply Drawn0.step)⟩
        · rw [if_neg c6] at H
          have c6b0 : ((Go.bits .and .u8 a1 16) == 0) = false := beq_eq_false_iff_ne.mpr c6
          have c6b1 : ((Go.bits .and .u8 a1 16) != 0) = true := bne_iff_ne.mpr c6
          (first | rw [c6b0] | (simp only [i64_w, i32_w]; rw [c6b0]) | skip)
          have H' := Aside0.mk H
          clear H
          go_wp2
          go_meet
          case rel => exact ⟨_, (true), (by first | rfl | (simp; done) | (simp [*]; done)), H', ⟨by have := HJ2.out; first | omega | exact Nat.le_refl _⟩, by repeat (first | exact Drawn0.refl _ | apply Drawn0.step)⟩
      case rest =>
        clear HC5
        try clear c2
        try clear p2
        try clear c4
        try clear c4b0
        try clear c4b1
        try clear c5
        try clear c6
        try clear c6b0
        try clear c6b1
        try clear p2
        obtain ⟨kq, x23_4, rfl, HA, HJ4, ⟨mc4, rfl⟩⟩ := hcut
        cases kq with
        | zero => exact absurd HA.out (by simp [shift_Daa.j1])
        | succ kj4 =>
          have H := HA.out
          clear HA
          simp only [shift_Daa.j1] at H
          have HC7 := Aside0.mk H
          clear H
          go_upto_if 23 with (fail)
          go_cut [6] (fun v6 wc => ∃ (kq : Nat) (x6_6 : Int), v6 = .int .u8 x6_6 ∧ Aside0 (shift_Daa.j2 kq a0 a1 x6_6 x7_2 = some (r1, r2)) ∧ Aside0 (kq ≤ kj4) ∧ Drawn0 w wc)
          case first =>
            have H := HC7.out
            clear HC7
            by_cases c8 : x23_4 = true
            · subst c8
              have H1 : (shift_Daa.j2 kj4 a0 a1 6 x7_2) = some (r1, r2) := by rw [if_pos rfl] at H; exact H
              clear H
              have H := H1
              clear H1
              have H' := Aside0.mk H
              clear H
              go_wp2
              go_meet
              case rel => exact ⟨_, (6), (by first | rfl | (simp; done) | (simp [*]; done)), H', ⟨by have := HJ2.out; have := HJ4.out; first | omega | exact Nat.le_refl _⟩, by repeat (first | exact Drawn0.refl _ | apply Drawn0.step)⟩
            · replace c8 := Bool.eq_false_iff.mpr c8
              subst c8
              have H1 : (shift_Daa.j2 kj4 a0 a1 x6_2 x7_2) = some (r1, r2) := by rw [if_neg (show ¬ (false = true) by decide)] at H; exact H
              clear H
              have H := H1
              clear H1
              have H' := Aside0.mk H
              clear H
              go_wp2
              go_meet
              case rel => exact ⟨_, (x6_2), (by first | rfl | (simp; done) | (simp [*]; done)), H', ⟨by have := HJ2.out; have := HJ4.out; first | omega | exact Nat.le_refl _⟩, by repeat (first | exact Drawn0.refl _ | apply Drawn0.step)⟩
          case rest =>
            clear HC7
            try clear c2
            try clear p2
            try clear c4
            try clear c4b0
            try clear c4b1
            try clear c5
            try clear c6
            try clear c6b0
            try clear c6b1
            try clear c8
            try clear p2
            obtain ⟨kq, x6_6, rfl, HA, HJ6, ⟨mc6, rfl⟩⟩ := hcut
            cases kq with
            | zero => exact absurd HA.out (by simp [shift_Daa.j2])
            | succ kj6 =>
              have H := HA.out
              clear HA
              simp only [shift_Daa.j2] at H
              have HC9 := Aside0.mk H
              clear H
              go_upto_if 24 with (fail)
              go_cut [6] (fun v6 wc => ∃ (kq : Nat) (x6_8 : Int), v6 = .int .u8 x6_8 ∧ Aside0 (shift_Daa.j3 kq a0 a1 x6_8 x7_2 = some (r1, r2)) ∧ Aside0 (kq ≤ kj6) ∧ Drawn0 w wc)
              case first =>
                have H := HC9.out
                clear HC9
                by_cases c10 : x7_2 = true
                · subst c10
                  have H1 : (shift_Daa.j3 kj6 a0 a1 ((x6_6 + 96) % 256) true) = some (r1, r2) := by rw [if_pos rfl] at H; exact H
                  clear H
                  have H := H1
                  clear H1
                  have H' := Aside0.mk H
                  clear H
                  go_wp2
                  go_meet
                  case rel => exact ⟨_, ((x6_6 + 96) % 256), (by first | rfl | (simp; done) | (simp [*]; done)), H', ⟨by have := HJ2.out; have := HJ4.out; have := HJ6.out; first | omega | exact Nat.le_refl _⟩, by repeat (first | exact Drawn0.refl _ | apply Drawn0.step)⟩
                · replace c10 := Bool.eq_false_iff.mpr c10
                  subst c10
                  have H1 : (shift_Daa.j3 kj6 a0 a1 x6_6 false) = some (r1, r2) := by rw [if_neg (show ¬ (false = true) by decide)] at H; exact H
                  clear H
                  have H := H1
                  clear H1
                  have H' := Aside0.mk H
                  clear H
                  go_wp2
                  go_meet
                  case rel => exact ⟨_, (x6_6), (by first | rfl | (simp; done) | (simp [*]; done)), H', ⟨by have := HJ2.out; have := HJ4.out; have := HJ6.out; first | omega | exact Nat.le_refl _⟩, by repeat (first | exact Drawn0.refl _ | apply Drawn0.step)⟩
              case rest =>
                clear HC9
                try clear c1
                try clear c2
                try clear p2
                try clear c4
                try clear c4b0
                try clear c4b1
                try clear c5
                try clear c6
                try clear c6b0
                try clear c6b1
                try clear c8
                try clear c10
                try clear p2
                obtain ⟨kq, x6_8, rfl, HA, HJ8, ⟨mc8, rfl⟩⟩ := hcut
                cases kq with
                | zero => exact absurd HA.out (by simp [shift_Daa.j3])
                | succ kj8 =>
                  have H := HA.out
                  clear HA
                  simp only [shift_Daa.j3] at H
                  by_cases c11 : (Go.bits .and .u8 a1 2) = 0
                  · rw [if_pos c11] at H
                    have c11b0 : ((Go.bits .and .u8 a1 2) == 0) = true := beq_iff_eq.mpr c11
                    have c11b1 : ((Go.bits .and .u8 a1 2) != 0) = false := bne_eq_false_iff_eq.mpr c11
                    clear c11
                    replace H := Option.bind_eq_some_iff.mp H
                    obtain ⟨t124, A120, H⟩ := H
                    replace H : ((shift_if1.f x7_2 1).bind fun t125 => ((shift_if1.f (decide ((Go.bits .and .u8 a0 15) > 9)) 16).bind fun t126 => (some ((a0 + x6_8) % 256, Go.bits .or .u8 (Go.bits .or .u8 (Go.bits .or .u8 t124 (Go.bits .and .u8 a1 2)) t125) t126)))) = some (r1, r2) := H
                    have A12 := Aside0.mk A120
                    clear A120
                    replace H := Option.bind_eq_some_iff.mp H
                    obtain ⟨t125, A130, H⟩ := H
                    replace H : ((shift_if1.f (decide ((Go.bits .and .u8 a0 15) > 9)) 16).bind fun t126 => (some ((a0 + x6_8) % 256, Go.bits .or .u8 (Go.bits .or .u8 (Go.bits .or .u8 t124 (Go.bits .and .u8 a1 2)) t125) t126))) = some (r1, r2) := H
                    have A13 := Aside0.mk A130
                    clear A130
                    replace H := Option.bind_eq_some_iff.mp H
                    obtain ⟨t126, A140, H⟩ := H
                    replace H : (some ((a0 + x6_8) % 256, Go.bits .or .u8 (Go.bits .or .u8 (Go.bits .or .u8 t124 (Go.bits .and .u8 a1 2)) t125) t126)) = some (r1, r2) := H
                    have A14 := Aside0.mk A140
                    clear A140
                    simp only [Option.some.injEq, Prod.mk.injEq] at H
                    obtain ⟨rfl, rfl⟩ := H
                    go_wp2_with (first | ((with_reducible refine gate_callee (f := 96) rfl ?_); refine goesL_ (some 49) rfl rfl Try.func96 (by kernel_rfl) rfl #[.int .u8 ((a0 + x6_8) % 256)] rfl (by (try simp only [List.map_toArray, List.map_cons, List.map_nil]); first | done | rfl | (simp only [List.length_drop, List.length_take]; rfl)) ?_; (with_reducible refine (shift_whole.calls ((a0 + x6_8) % 256) t124 _ A12.out).mono ?_); rintro e w' ⟨rfl, ⟨nd, rfl⟩⟩; refine ⟨_, rfl, ?_⟩) | ((with_reducible refine gate_callee (f := 97) rfl ?_); refine goesL_ (some 54) rfl rfl Try.func97 (by kernel_rfl) rfl #[.bool x7_2, .int .u8 1] rfl (by (try simp only [List.map_toArray, List.map_cons, List.map_nil]); first | done | rfl | (simp only [List.length_drop, List.length_take]; rfl)) ?_; (with_reducible refine (shift_if1.calls x7_2 1 t125 _ A13.out).mono ?_); rintro e w' ⟨rfl, ⟨nd, rfl⟩⟩; refine ⟨_, rfl, ?_⟩) | ((with_reducible refine gate_callee (f := 97) rfl ?_); refine goesL_ (some 57) rfl rfl Try.func97 (by kernel_rfl) rfl #[.bool (decide ((Go.bits .and .u8 a0 15) > 9)), .int .u8 16] rfl (by (try simp only [List.map_toArray, List.map_cons, List.map_nil]); first | done | rfl | (simp only [List.length_drop, List.length_take]; rfl)) ?_; (with_reducible refine (shift_if1.calls (decide ((Go.bits .and .u8 a0 15) > 9)) 16 t126 _ A14.out).mono ?_); rintro e w' ⟨rfl, ⟨nd, rfl⟩⟩; refine ⟨_, rfl, ?_⟩))
                    go_ret2
                    exact ⟨by first | rfl | (simp; done) | (simp [*]; done), by repeat (first | exact Drawn0.refl _ | apply Drawn0.step)⟩
                  · rw [if_neg c11] at H
                    have c11b0 : ((Go.bits .and .u8 a1 2) == 0) = false := beq_eq_false_iff_ne.mpr c11
                    have c11b1 : ((Go.bits .and .u8 a1 2) != 0) = true := bne_iff_ne.mpr c11
                    by_cases c15 : (Go.bits .and .u8 a0 15) < 6
                    · rw [if_pos c15] at H
                      have c15b0 : decide ((Go.bits .and .u8 a0 15) < 6) = true := decide_eq_true c15
                      clear c15
                      replace H := Option.bind_eq_some_iff.mp H
                      obtain ⟨t127, A160, H⟩ := H
                      replace H : ((shift_if1.f x7_2 1).bind fun t128 => ((shift_if1.f ((Go.bits .and .u8 a1 16) != 0) 16).bind fun t129 => (some ((a0 - x6_8) % 256, Go.bits .or .u8 (Go.bits .or .u8 (Go.bits .or .u8 t127 (Go.bits .and .u8 a1 2)) t128) t129)))) = some (r1, r2) := H
                      have A16 := Aside0.mk A160
                      clear A160
                      replace H := Option.bind_eq_some_iff.mp H
                      obtain ⟨t128, A170, H⟩ := H
                      replace H : ((shift_if1.f ((Go.bits .and .u8 a1 16) != 0) 16).bind fun t129 => (some ((a0 - x6_8) % 256, Go.bits .or .u8 (Go.bits .or .u8 (Go.bits .or .u8 t127 (Go.bits .and .u8 a1 2)) t128) t129))) = some (r1, r2) := H
                      have A17 := Aside0.mk A170
                      clear A170
                      replace H := Option.bind_eq_some_iff.mp H
                      obtain ⟨t129, A180, H⟩ := H
                      replace H : (some ((a0 - x6_8) % 256, Go.bits .or .u8 (Go.bits .or .u8 (Go.bits .or .u8 t127 (Go.bits .and .u8 a1 2)) t128) t129)) = some (r1, r2) := H
                      have A18 := Aside0.mk A180
                      clear A180
                      simp only [Option.some.injEq, Prod.mk.injEq] at H
                      obtain ⟨rfl, rfl⟩ := H
                      go_wp2_with (first | ((with_reducible refine gate_callee (f := 96) rfl ?_); refine goesL_ (some 49) rfl rfl Try.func96 (by kernel_rfl) rfl #[.int .u8 ((a0 - x6_8) % 256)] rfl (by (try simp only [List.map_toArray, List.map_cons, List.map_nil]); first | done | rfl | (simp only [List.length_drop, List.length_take]; rfl)) ?_; (with_reducible refine (shift_whole.calls ((a0 - x6_8) % 256) t127 _ A16.out).mono ?_); rintro e w' ⟨rfl, ⟨nd, rfl⟩⟩; refine ⟨_, rfl, ?_⟩) | ((with_reducible refine gate_callee (f := 97) rfl ?_); refine goesL_ (some 54) rfl rfl Try.func97 (by kernel_rfl) rfl #[.bool x7_2, .int .u8 1] rfl (by (try simp only [List.map_toArray, List.map_cons, List.map_nil]); first | done | rfl | (simp only [List.length_drop, List.length_take]; rfl)) ?_; (with_reducible refine (shift_if1.calls x7_2 1 t128 _ A17.out).mono ?_); rintro e w' ⟨rfl, ⟨nd, rfl⟩⟩; refine ⟨_, rfl, ?_⟩) | ((with_reducible refine gate_callee (f := 97) rfl ?_); refine goesL_ (some 57) rfl rfl Try.func97 (by kernel_rfl) rfl #[.bool ((Go.bits .and .u8 a1 16) != 0), .int .u8 16] rfl (by (try simp only [List.map_toArray, List.map_cons, List.map_nil]); first | done | rfl | (simp only [List.length_drop, List.length_take]; rfl)) ?_; (with_reducible refine (shift_if1.calls ((Go.bits .and .u8 a1 16) != 0) 16 t129 _ A18.out).mono ?_); rintro e w' ⟨rfl, ⟨nd, rfl⟩⟩; refine ⟨_, rfl, ?_⟩))
                      go_ret2
                      exact ⟨by first | rfl | (simp; done) | (simp [*]; done), by repeat (first | exact Drawn0.refl _ | apply Drawn0.step)⟩
                    · rw [if_neg c15] at H
                      have c15b0 : decide ((Go.bits .and .u8 a0 15) < 6) = false := decide_eq_false c15
                      clear c15
                      replace H := Option.bind_eq_some_iff.mp H
                      obtain ⟨t130, A190, H⟩ := H
                      replace H : ((shift_if1.f x7_2 1).bind fun t131 => ((shift_if1.f false 16).bind fun t132 => (some ((a0 - x6_8) % 256, Go.bits .or .u8 (Go.bits .or .u8 (Go.bits .or .u8 t130 (Go.bits .and .u8 a1 2)) t131) t132)))) = some (r1, r2) := H
                      have A19 := Aside0.mk A190
                      clear A190
                      replace H := Option.bind_eq_some_iff.mp H
                      obtain ⟨t131, A200, H⟩ := H
                      replace H : ((shift_if1.f false 16).bind fun t132 => (some ((a0 - x6_8) % 256, Go.bits .or .u8 (Go.bits .or .u8 (Go.bits .or .u8 t130 (Go.bits .and .u8 a1 2)) t131) t132))) = some (r1, r2) := H
                      have A20 := Aside0.mk A200
                      clear A200
                      replace H := Option.bind_eq_some_iff.mp H
                      obtain ⟨t132, A210, H⟩ := H
                      replace H : (some ((a0 - x6_8) % 256, Go.bits .or .u8 (Go.bits .or .u8 (Go.bits .or .u8 t130 (Go.bits .and .u8 a1 2)) t131) t132)) = some (r1, r2) := H
                      have A21 := Aside0.mk A210
                      clear A210
                      simp only [Option.some.injEq, Prod.mk.injEq] at H
                      obtain ⟨rfl, rfl⟩ := H
                      go_wp2_with (first | ((with_reducible refine gate_callee (f := 96) rfl ?_); refine goesL_ (some 49) rfl rfl Try.func96 (by kernel_rfl) rfl #[.int .u8 ((a0 - x6_8) % 256)] rfl (by (try simp only [List.map_toArray, List.map_cons, List.map_nil]); first | done | rfl | (simp only [List.length_drop, List.length_take]; rfl)) ?_; (with_reducible refine (shift_whole.calls ((a0 - x6_8) % 256) t130 _ A19.out).mono ?_); rintro e w' ⟨rfl, ⟨nd, rfl⟩⟩; refine ⟨_, rfl, ?_⟩) | ((with_reducible refine gate_callee (f := 97) rfl ?_); refine goesL_ (some 54) rfl rfl Try.func97 (by kernel_rfl) rfl #[.bool x7_2, .int .u8 1] rfl (by (try simp only [List.map_toArray, List.map_cons, List.map_nil]); first | done | rfl | (simp only [List.length_drop, List.length_take]; rfl)) ?_; (with_reducible refine (shift_if1.calls x7_2 1 t131 _ A20.out).mono ?_); rintro e w' ⟨rfl, ⟨nd, rfl⟩⟩; refine ⟨_, rfl, ?_⟩) | ((with_reducible refine gate_callee (f := 97) rfl ?_); refine goesL_ (some 57) rfl rfl Try.func97 (by kernel_rfl) rfl #[.bool false, .int .u8 16] rfl (by (try simp only [List.map_toArray, List.map_cons, List.map_nil]); first | done | rfl | (simp only [List.length_drop, List.length_take]; rfl)) ?_; (with_reducible refine (shift_if1.calls false 16 t132 _ A21.out).mono ?_); rintro e w' ⟨rfl, ⟨nd, rfl⟩⟩; refine ⟨_, rfl, ?_⟩))
                      go_ret2
                      exact ⟨by first | rfl | (simp; done) | (simp [*]; done), by repeat (first | exact Drawn0.refl _ | apply Drawn0.step)⟩

/-! ### shift_Rld: function 76 -/
def shift_Rld.f (a0 : Int) (a1 : Int) (a2 : Int) : Option (Int × Int × Int) := (shift_whole.f (Go.bits .or .u8 (Go.bits .and .u8 a0 240) (a1 / 16))).bind fun t133 => (some (Go.bits .or .u8 (Go.bits .and .u8 a0 240) (a1 / 16), Go.bits .or .u8 ((a1 * 16) % 256) (Go.bits .and .u8 a0 15), Go.bits .or .u8 t133 (Go.bits .and .u8 a2 1)))
set_option maxHeartbeats 8000000 in
set_option maxRecDepth 100000 in
theorem shift_Rld.calls (a0 : Int) (a1 : Int) (a2 : Int) (r1 : Int) (r2 : Int) (r3 : Int) (w : World) (h : shift_Rld.f a0 a1 a2 = some (r1, r2, r3)) :
    Calls Try.prog 76 #[.int .u8 a0, .int .u8 a1, .int .u8 a2] w fun e w' => e = .returned (.tuple #[.int .u8 r1, .int .u8 r2, .int .u8 r3]) ∧ Drawn0 w w' := by
  have H : ((shift_whole.f (Go.bits .or .u8 (Go.bits .and .u8 a0 240) (a1 / 16))).bind fun t133 => (some (Go.bits .or .u8 (Go.bits .and .u8 a0 240) (a1 / 16), Go.bits .or .u8 ((a1 * 16) % 256) (Go.bits .and .u8 a0 15), Go.bits .or .u8 t133 (Go.bits .and .u8 a2 1)))) = some (r1, r2, r3) := h
  clear h
  replace H := Option.bind_eq_some_iff.mp H
  obtain ⟨t133, A40, H⟩ := H
  replace H : (some (Go.bits .or .u8 (Go.bits .and .u8 a0 240) (a1 / 16), Go.bits .or .u8 ((a1 * 16) % 256) (Go.bits .and .u8 a0 15), Go.bits .or .u8 t133 (Go.bits .and .u8 a2 1))) = some (r1, r2, r3) := H
  have A4 := Aside0.mk A40
  clear A40
  simp only [Option.some.injEq, Prod.mk.injEq] at H
  obtain ⟨rfl, rfl, rfl⟩ := H
  go_enter Try.func76, Try.ntmps76
  go_wp2_with (first | ((with_reducible refine gate_callee (f := 96) rfl ?_); refine goesL_ (some 22) rfl rfl Try.func96 (by kernel_rfl) rfl #[.int .u8 (Go.bits .or .u8 (Go.bits .and .u8 a0 240) (a1 / 16))] rfl (by (try simp only [List.map_toArray, List.map_cons, List.map_nil]); first | done | rfl | (simp only [List.length_drop, List.length_take]; rfl)) ?_; (with_reducible refine (shift_whole.calls (Go.bits .or .u8 (Go.bits .and .u8 a0 240) (a1 / 16)) t133 _ A4.out).mono ?_); rintro e w' ⟨rfl, ⟨nd, rfl⟩⟩; refine ⟨_, rfl, ?_⟩))
  go_ret3
  exact ⟨by first | rfl | (simp; done) | (simp [*]; done), by repeat (first | exact Drawn0.refl _ | apply Drawn0.step)⟩

/-! ### pendulumlaw06_lives: function 51 -/
def pendulumlaw06_lives.f (k : Nat)  : Option (Bool) := (shift_Shift.f k 0 129 0).bind fun bt134 => ((shift_Daa.f k 154 0).bind fun bt136 => ((shift_Rld.f 18 52 0).bind fun bt138 => (if bt134.1 = 3 then (if bt134.2 = 5 then (if bt136.1 = 0 then (if bt136.2 = 85 then (if bt138.1 = 19 then (if bt138.2.1 = 66 then (some (bt138.2.2 == 0)) else (some false)) else (some false)) else (some false)) else (some false)) else (some false)) else (some false))))
theorem pendulumlaw06_lives.mono : ∀ k, LeO (pendulumlaw06_lives.f k ) (pendulumlaw06_lives.f (k + 1) ) := by
  intro  k
  unfold pendulumlaw06_lives.f
  repeat' first
      | (with_reducible exact shift_Daa.mono _ _ _)
      | (with_reducible exact shift_Shift.mono _ _ _ _)
      | (with_reducible exact LeO.refl _)
      | (with_reducible exact LeO.none _)
      | (with_reducible refine LeO.ite ?_ ?_)
      | (with_reducible refine LeO.bind ?_ (fun _ => ?_))
      | exact shift_Daa.mono _ _ _
      | exact shift_Shift.mono _ _ _ _
      | exact LeO.none _
      | refine LeO.ite ?_ ?_
      | refine LeO.bind ?_ (fun _ => ?_)
set_option maxHeartbeats 8000000 in
set_option maxRecDepth 100000 in
theorem pendulumlaw06_lives.calls (k : Nat)  (r : Bool) (w : World) (h : pendulumlaw06_lives.f k  = some r) :
    Calls Try.prog 51 #[] w fun e w' => e = .returned (.bool r) ∧ Drawn0 w w' := by
  have H : ((shift_Shift.f k 0 129 0).bind fun bt134 => ((shift_Daa.f k 154 0).bind fun bt136 => ((shift_Rld.f 18 52 0).bind fun bt138 => (if bt134.1 = 3 then (if bt134.2 = 5 then (if bt136.1 = 0 then (if bt136.2 = 85 then (if bt138.1 = 19 then (if bt138.2.1 = 66 then (some (bt138.2.2 == 0)) else (some false)) else (some false)) else (some false)) else (some false)) else (some false)) else (some false))))) = some r := h
  clear h
  replace H := Option.bind_eq_some_iff.mp H
  obtain ⟨⟨t134, t135⟩, A10, H⟩ := H
  replace H : ((shift_Daa.f k 154 0).bind fun bt136 => ((shift_Rld.f 18 52 0).bind fun bt138 => (if t134 = 3 then (if t135 = 5 then (if bt136.1 = 0 then (if bt136.2 = 85 then (if bt138.1 = 19 then (if bt138.2.1 = 66 then (some (bt138.2.2 == 0)) else (some false)) else (some false)) else (some false)) else (some false)) else (some false)) else (some false)))) = some r := H
  have A1 := Aside0.mk A10
  clear A10
  replace H := Option.bind_eq_some_iff.mp H
  obtain ⟨⟨t136, t137⟩, A20, H⟩ := H
  replace H : ((shift_Rld.f 18 52 0).bind fun bt138 => (if t134 = 3 then (if t135 = 5 then (if t136 = 0 then (if t137 = 85 then (if bt138.1 = 19 then (if bt138.2.1 = 66 then (some (bt138.2.2 == 0)) else (some false)) else (some false)) else (some false)) else (some false)) else (some false)) else (some false))) = some r := H
  have A2 := Aside0.mk A20
  clear A20
  replace H := Option.bind_eq_some_iff.mp H
  obtain ⟨⟨t138, t139, t140⟩, A30, H⟩ := H
  replace H : (if t134 = 3 then (if t135 = 5 then (if t136 = 0 then (if t137 = 85 then (if t138 = 19 then (if t139 = 66 then (some (t140 == 0)) else (some false)) else (some false)) else (some false)) else (some false)) else (some false)) else (some false)) = some r := H
  have A3 := Aside0.mk A30
  clear A30
  by_cases c4 : t134 = 3
  · rw [if_pos c4] at H
    have c4b0 : (t134 == 3) = true := beq_iff_eq.mpr c4
    have c4b1 : (t134 != 3) = false := bne_eq_false_iff_eq.mpr c4
    clear c4
    by_cases c5 : t135 = 5
    · rw [if_pos c5] at H
      have c5b0 : (t135 == 5) = true := beq_iff_eq.mpr c5
      have c5b1 : (t135 != 5) = false := bne_eq_false_iff_eq.mpr c5
      clear c5
      by_cases c6 : t136 = 0
      · rw [if_pos c6] at H
        have c6b0 : (t136 == 0) = true := beq_iff_eq.mpr c6
        have c6b1 : (t136 != 0) = false := bne_eq_false_iff_eq.mpr c6
        clear c6
        by_cases c7 : t137 = 85
        · rw [if_pos c7] at H
          have c7b0 : (t137 == 85) = true := beq_iff_eq.mpr c7
          have c7b1 : (t137 != 85) = false := bne_eq_false_iff_eq.mpr c7
          clear c7
          by_cases c8 : t138 = 19
          · rw [if_pos c8] at H
            have c8b0 : (t138 == 19) = true := beq_iff_eq.mpr c8
            have c8b1 : (t138 != 19) = false := bne_eq_false_iff_eq.mpr c8
            clear c8
            by_cases c9 : t139 = 66
            · rw [if_pos c9] at H
              have c9b0 : (t139 == 66) = true := beq_iff_eq.mpr c9
              have c9b1 : (t139 != 66) = false := bne_eq_false_iff_eq.mpr c9
              clear c9
              obtain rfl := Option.some.inj H
              go_enter Try.func51, Try.ntmps51
              go_wp2_with (first | ((with_reducible refine gate_callee (f := 52) rfl ?_); refine goesL_ (some 9) rfl rfl Try.func52 (by kernel_rfl) rfl #[.int .i64 0, .int .u8 129, .int .u8 0] rfl (by (try simp only [List.map_toArray, List.map_cons, List.map_nil]); first | done | rfl | (simp only [List.length_drop, List.length_take]; rfl)) ?_; (with_reducible refine (shift_Shift.calls k 0 129 0 t134 t135 _ A1.out).mono ?_); rintro e w' ⟨rfl, ⟨nd, rfl⟩⟩; refine ⟨_, rfl, ?_⟩) | ((with_reducible refine gate_callee (f := 54) rfl ?_); refine goesL_ (some 13) rfl rfl Try.func54 (by kernel_rfl) rfl #[.int .u8 154, .int .u8 0] rfl (by (try simp only [List.map_toArray, List.map_cons, List.map_nil]); first | done | rfl | (simp only [List.length_drop, List.length_take]; rfl)) ?_; (with_reducible refine (shift_Daa.calls k 154 0 t136 t137 _ A2.out).mono ?_); rintro e w' ⟨rfl, ⟨nd, rfl⟩⟩; refine ⟨_, rfl, ?_⟩) | ((with_reducible refine gate_callee (f := 76) rfl ?_); refine goesL_ (some 17) rfl rfl Try.func76 (by kernel_rfl) rfl #[.int .u8 18, .int .u8 52, .int .u8 0] rfl (by (try simp only [List.map_toArray, List.map_cons, List.map_nil]); first | done | rfl | (simp only [List.length_drop, List.length_take]; rfl)) ?_; (with_reducible refine (shift_Rld.calls 18 52 0 t138 t139 t140 _ A3.out).mono ?_); rintro e w' ⟨rfl, ⟨nd, rfl⟩⟩; refine ⟨_, rfl, ?_⟩))
              go_ret
              exact ⟨by first | rfl | (simp; done) | (simp [*]; done), by repeat (first | exact Drawn0.refl _ | apply Drawn0.step)⟩
            · rw [if_neg c9] at H
              have c9b0 : (t139 == 66) = false := beq_eq_false_iff_ne.mpr c9
              have c9b1 : (t139 != 66) = true := bne_iff_ne.mpr c9
              obtain rfl := Option.some.inj H
              go_enter Try.func51, Try.ntmps51
              go_wp2_with (first | ((with_reducible refine gate_callee (f := 52) rfl ?_); refine goesL_ (some 9) rfl rfl Try.func52 (by kernel_rfl) rfl #[.int .i64 0, .int .u8 129, .int .u8 0] rfl (by (try simp only [List.map_toArray, List.map_cons, List.map_nil]); first | done | rfl | (simp only [List.length_drop, List.length_take]; rfl)) ?_; (with_reducible refine (shift_Shift.calls k 0 129 0 t134 t135 _ A1.out).mono ?_); rintro e w' ⟨rfl, ⟨nd, rfl⟩⟩; refine ⟨_, rfl, ?_⟩) | ((with_reducible refine gate_callee (f := 54) rfl ?_); refine goesL_ (some 13) rfl rfl Try.func54 (by kernel_rfl) rfl #[.int .u8 154, .int .u8 0] rfl (by (try simp only [List.map_toArray, List.map_cons, List.map_nil]); first | done | rfl | (simp only [List.length_drop, List.length_take]; rfl)) ?_; (with_reducible refine (shift_Daa.calls k 154 0 t136 t137 _ A2.out).mono ?_); rintro e w' ⟨rfl, ⟨nd, rfl⟩⟩; refine ⟨_, rfl, ?_⟩) | ((with_reducible refine gate_callee (f := 76) rfl ?_); refine goesL_ (some 17) rfl rfl Try.func76 (by kernel_rfl) rfl #[.int .u8 18, .int .u8 52, .int .u8 0] rfl (by (try simp only [List.map_toArray, List.map_cons, List.map_nil]); first | done | rfl | (simp only [List.length_drop, List.length_take]; rfl)) ?_; (with_reducible refine (shift_Rld.calls 18 52 0 t138 t139 t140 _ A3.out).mono ?_); rintro e w' ⟨rfl, ⟨nd, rfl⟩⟩; refine ⟨_, rfl, ?_⟩))
              go_ret
              exact ⟨by first | rfl | (simp; done) | (simp [*]; done), by repeat (first | exact Drawn0.refl _ | apply Drawn0.step)⟩
          · rw [if_neg c8] at H
            have c8b0 : (t138 == 19) = false := beq_eq_false_iff_ne.mpr c8
            have c8b1 : (t138 != 19) = true := bne_iff_ne.mpr c8
            obtain rfl := Option.some.inj H
            go_enter Try.func51, Try.ntmps51
            go_wp2_with (first | ((with_reducible refine gate_callee (f := 52) rfl ?_); refine goesL_ (some 9) rfl rfl Try.func52 (by kernel_rfl) rfl #[.int .i64 0, .int .u8 129, .int .u8 0] rfl (by (try simp only [List.map_toArray, List.map_cons, List.map_nil]); first | done | rfl | (simp only [List.length_drop, List.length_take]; rfl)) ?_; (with_reducible refine (shift_Shift.calls k 0 129 0 t134 t135 _ A1.out).mono ?_); rintro e w' ⟨rfl, ⟨nd, rfl⟩⟩; refine ⟨_, rfl, ?_⟩) | ((with_reducible refine gate_callee (f := 54) rfl ?_); refine goesL_ (some 13) rfl rfl Try.func54 (by kernel_rfl) rfl #[.int .u8 154, .int .u8 0] rfl (by (try simp only [List.map_toArray, List.map_cons, List.map_nil]); first | done | rfl | (simp only [List.length_drop, List.length_take]; rfl)) ?_; (with_reducible refine (shift_Daa.calls k 154 0 t136 t137 _ A2.out).mono ?_); rintro e w' ⟨rfl, ⟨nd, rfl⟩⟩; refine ⟨_, rfl, ?_⟩) | ((with_reducible refine gate_callee (f := 76) rfl ?_); refine goesL_ (some 17) rfl rfl Try.func76 (by kernel_rfl) rfl #[.int .u8 18, .int .u8 52, .int .u8 0] rfl (by (try simp only [List.map_toArray, List.map_cons, List.map_nil]); first | done | rfl | (simp only [List.length_drop, List.length_take]; rfl)) ?_; (with_reducible refine (shift_Rld.calls 18 52 0 t138 t139 t140 _ A3.out).mono ?_); rintro e w' ⟨rfl, ⟨nd, rfl⟩⟩; refine ⟨_, rfl, ?_⟩))
            go_ret
            exact ⟨by first | rfl | (simp; done) | (simp [*]; done), by repeat (first | exact Drawn0.refl _ | apply Drawn0.step)⟩
        · rw [if_neg c7] at H
          have c7b0 : (t137 == 85) = false := beq_eq_false_iff_ne.mpr c7
          have c7b1 : (t137 != 85) = true := bne_iff_ne.mpr c7
          obtain rfl := Option.some.inj H
          go_enter Try.func51, Try.ntmps51
          go_wp2_with (first | ((with_reducible refine gate_callee (f := 52) rfl ?_); refine goesL_ (some 9) rfl rfl Try.func52 (by kernel_rfl) rfl #[.int .i64 0, .int .u8 129, .int .u8 0] rfl (by (try simp only [List.map_toArray, List.map_cons, List.map_nil]); first | done | rfl | (simp only [List.length_drop, List.length_take]; rfl)) ?_; (with_reducible refine (shift_Shift.calls k 0 129 0 t134 t135 _ A1.out).mono ?_); rintro e w' ⟨rfl, ⟨nd, rfl⟩⟩; refine ⟨_, rfl, ?_⟩) | ((with_reducible refine gate_callee (f := 54) rfl ?_); refine goesL_ (some 13) rfl rfl Try.func54 (by kernel_rfl) rfl #[.int .u8 154, .int .u8 0] rfl (by (try simp only [List.map_toArray, List.map_cons, List.map_nil]); first | done | rfl | (simp only [List.length_drop, List.length_take]; rfl)) ?_; (with_reducible refine (shift_Daa.calls k 154 0 t136 t137 _ A2.out).mono ?_); rintro e w' ⟨rfl, ⟨nd, rfl⟩⟩; refine ⟨_, rfl, ?_⟩) | ((with_reducible refine gate_callee (f := 76) rfl ?_); refine goesL_ (some 17) rfl rfl Try.func76 (by kernel_rfl) rfl #[.int .u8 18, .int .u8 52, .int .u8 0] rfl (by (try simp only [List.map_toArray, List.map_cons, List.map_nil]); first | done | rfl | (simp only [List.length_drop, List.length_take]; rfl)) ?_; (with_reducible refine (shift_Rld.calls 18 52 0 t138 t139 t140 _ A3.out).mono ?_); rintro e w' ⟨rfl, ⟨nd, rfl⟩⟩; refine ⟨_, rfl, ?_⟩))
          go_ret
          exact ⟨by first | rfl | (simp; done) | (simp [*]; done), by repeat (first | exact Drawn0.refl _ | apply Drawn0.step)⟩
      · rw [if_neg c6] at H
        have c6b0 : (t136 == 0) = false := beq_eq_false_iff_ne.mpr c6
        have c6b1 : (t136 != 0) = true := bne_iff_ne.mpr c6
        obtain rfl := Option.some.inj H
        go_enter Try.func51, Try.ntmps51
        go_wp2_with (first | ((with_reducible refine gate_callee (f := 52) rfl ?_); refine goesL_ (some 9) rfl rfl Try.func52 (by kernel_rfl) rfl #[.int .i64 0, .int .u8 129, .int .u8 0] rfl (by (try simp only [List.map_toArray, List.map_cons, List.map_nil]); first | done | rfl | (simp only [List.length_drop, List.length_take]; rfl)) ?_; (with_reducible refine (shift_Shift.calls k 0 129 0 t134 t135 _ A1.out).mono ?_); rintro e w' ⟨rfl, ⟨nd, rfl⟩⟩; refine ⟨_, rfl, ?_⟩) | ((with_reducible refine gate_callee (f := 54) rfl ?_); refine goesL_ (some 13) rfl rfl Try.func54 (by kernel_rfl) rfl #[.int .u8 154, .int .u8 0] rfl (by (try simp only [List.map_toArray, List.map_cons, List.map_nil]); first | done | rfl | (simp only [List.length_drop, List.length_take]; rfl)) ?_; (with_reducible refine (shift_Daa.calls k 154 0 t136 t137 _ A2.out).mono ?_); rintro e w' ⟨rfl, ⟨nd, rfl⟩⟩; refine ⟨_, rfl, ?_⟩) | ((with_reducible refine gate_callee (f := 76) rfl ?_); refine goesL_ (some 17) rfl rfl Try.func76 (by kernel_rfl) rfl #[.int .u8 18, .int .u8 52, .int .u8 0] rfl (by (try simp only [List.map_toArray, List.map_cons, List.map_nil]); first | done | rfl | (simp only [List.length_drop, List.length_take]; rfl)) ?_; (with_reducible refine (shift_Rld.calls 18 52 0 t138 t139 t140 _ A3.out).mono ?_); rintro e w' ⟨rfl, ⟨nd, rfl⟩⟩; refine ⟨_, rfl, ?_⟩))
        go_ret
        exact ⟨by first | rfl | (simp; done) | (simp [*]; done), by repeat (first | exact Drawn0.refl _ | apply Drawn0.step)⟩
    · rw [if_neg c5] at H
      have c5b0 : (t135 == 5) = false := beq_eq_false_iff_ne.mpr c5
      have c5b1 : (t135 != 5) = true := bne_iff_ne.mpr c5
      obtain rfl := Option.some.inj H
      go_enter Try.func51, Try.ntmps51
      go_wp2_with (first | ((with_reducible refine gate_callee (f := 52) rfl ?_); refine goesL_ (some 9) rfl rfl Try.func52 (by kernel_rfl) rfl #[.int .i64 0, .int .u8 129, .int .u8 0] rfl (by (try simp only [List.map_toArray, List.map_cons, List.map_nil]); first | done | rfl | (simp only [List.length_drop, List.length_take]; rfl)) ?_; (with_reducible refine (shift_Shift.calls k 0 129 0 t134 t135 _ A1.out).mono ?_); rintro e w' ⟨rfl, ⟨nd, rfl⟩⟩; refine ⟨_, rfl, ?_⟩) | ((with_reducible refine gate_callee (f := 54) rfl ?_); refine goesL_ (some 13) rfl rfl Try.func54 (by kernel_rfl) rfl #[.int .u8 154, .int .u8 0] rfl (by (try simp only [List.map_toArray, List.map_cons, List.map_nil]); first | done | rfl | (simp only [List.length_drop, List.length_take]; rfl)) ?_; (with_reducible refine (shift_Daa.calls k 154 0 t136 t137 _ A2.out).mono ?_); rintro e w' ⟨rfl, ⟨nd, rfl⟩⟩; refine ⟨_, rfl, ?_⟩) | ((with_reducible refine gate_callee (f := 76) rfl ?_); refine goesL_ (some 17) rfl rfl Try.func76 (by kernel_rfl) rfl #[.int .u8 18, .int .u8 52, .int .u8 0] rfl (by (try simp only [List.map_toArray, List.map_cons, List.map_nil]); first | done | rfl | (simp only [List.length_drop, List.length_take]; rfl)) ?_; (with_reducible refine (shift_Rld.calls 18 52 0 t138 t139 t140 _ A3.out).mono ?_); rintro e w' ⟨rfl, ⟨nd, rfl⟩⟩; refine ⟨_, rfl, ?_⟩))
      go_ret
      exact ⟨by first | rfl | (simp; done) | (simp [*]; done), by repeat (first | exact Drawn0.refl _ | apply Drawn0.step)⟩
  · rw [if_neg c4] at H
    have c4b0 : (t134 == 3) = false := beq_eq_false_iff_ne.mpr c4
    have c4b1 : (t134 != 3) = true := bne_iff_ne.mpr c4
    obtain rfl := Option.some.inj H
    go_enter Try.func51, Try.ntmps51
    go_wp2_with (first | ((with_reducible refine gate_callee (f := 52) rfl ?_); refine goesL_ (some 9) rfl rfl Try.func52 (by kernel_rfl) rfl #[.int .i64 0, .int .u8 129, .int .u8 0] rfl (by (try simp only [List.map_toArray, List.map_cons, List.map_nil]); first | done | rfl | (simp only [List.length_drop, List.length_take]; rfl)) ?_; (with_reducible refine (shift_Shift.calls k 0 129 0 t134 t135 _ A1.out).mono ?_); rintro e w' ⟨rfl, ⟨nd, rfl⟩⟩; refine ⟨_, rfl, ?_⟩) | ((with_reducible refine gate_callee (f := 54) rfl ?_); refine goesL_ (some 13) rfl rfl Try.func54 (by kernel_rfl) rfl #[.int .u8 154, .int .u8 0] rfl (by (try simp only [List.map_toArray, List.map_cons, List.map_nil]); first | done | rfl | (simp only [List.length_drop, List.length_take]; rfl)) ?_; (with_reducible refine (shift_Daa.calls k 154 0 t136 t137 _ A2.out).mono ?_); rintro e w' ⟨rfl, ⟨nd, rfl⟩⟩; refine ⟨_, rfl, ?_⟩) | ((with_reducible refine gate_callee (f := 76) rfl ?_); refine goesL_ (some 17) rfl rfl Try.func76 (by kernel_rfl) rfl #[.int .u8 18, .int .u8 52, .int .u8 0] rfl (by (try simp only [List.map_toArray, List.map_cons, List.map_nil]); first | done | rfl | (simp only [List.length_drop, List.length_take]; rfl)) ?_; (with_reducible refine (shift_Rld.calls 18 52 0 t138 t139 t140 _ A3.out).mono ?_); rintro e w' ⟨rfl, ⟨nd, rfl⟩⟩; refine ⟨_, rfl, ?_⟩))
    go_ret
    exact ⟨by first | rfl | (simp; done) | (simp [*]; done), by repeat (first | exact Drawn0.refl _ | apply Drawn0.step)⟩

/-! ### pendulumlaw06_ShiftTens: function 12 -/
mutual
def pendulumlaw06_ShiftTens.j0 : Nat → Bool → Int → Int → Int → Option (Bool)
  | 0, _, _, _, _ => none
  | k + 1, x2, x7, x8, x9 => (pendulumref05_Add.f ((wrap64 ((wrap64 ((wrap64 (Int.tdiv x7 10)) * 16)) + (Int.tmod x7 10))) % 256) ((wrap64 ((wrap64 ((wrap64 (Int.tdiv x8 10)) * 16)) + (Int.tmod x8 10))) % 256) x2).bind fun bt142 => ((shift_Daa.f k bt142.1 bt142.2).bind fun bt144 => (if (wrap64 ((((Int.tdiv bt144.1 16) % 256) * 10) + (wrap64 (Int.tmod bt144.1 16)))) = (Int.tmod (wrap64 ((wrap64 (x7 + x8)) + x9)) 100) then (pendulumlaw06_ShiftTens.j1 k x2 x7 x8 x9 ((wrap64 ((wrap64 ((wrap64 (Int.tdiv x7 10)) * 16)) + (Int.tmod x7 10))) % 256) ((wrap64 ((wrap64 ((wrap64 (Int.tdiv x8 10)) * 16)) + (Int.tmod x8 10))) % 256) (((Go.bits .and .u8 bt144.2 1) != 0) != (decide ((wrap64 ((wrap64 (x7 + x8)) + x9)) > 99)))) else (pendulumlaw06_ShiftTens.j1 k x2 x7 x8 x9 ((wrap64 ((wrap64 ((wrap64 (Int.tdiv x7 10)) * 16)) + (Int.tmod x7 10))) % 256) ((wrap64 ((wrap64 ((wrap64 (Int.tdiv x8 10)) * 16)) + (Int.tmod x8 10))) % 256) true)))
def pendulumlaw06_ShiftTens.j1 : Nat → Bool → Int → Int → Int → Int → Int → Bool → Option (Bool)
  | 0, _, _, _, _, _, _, _ => none
  | k + 1, x2, x7, x8, x9, x10, x11, x75 => if x75 = true then (some false) else ((pendulumref05_Sub.f x10 x11 x2).bind fun bt146 => ((shift_Daa.f k bt146.1 bt146.2).bind fun bt148 => (if (wrap64 ((((Int.tdiv bt148.1 16) % 256) * 10) + (wrap64 (Int.tmod bt148.1 16)))) = (Int.tmod (wrap64 ((wrap64 ((wrap64 (x7 - x8)) - x9)) + 100)) 100) then (if (((Go.bits .and .u8 bt148.2 1) != 0) == (decide ((wrap64 ((wrap64 (x7 - x8)) - x9)) < 0))) = true then (some ((Go.bits .and .u8 bt148.2 2) != 0)) else (some false)) else (some false))))
end
def pendulumlaw06_ShiftTens.f (k : Nat) (a0 : Int) (a1 : Int) (a2 : Bool) : Option (Bool) := (pendulumlaw06_lives.f k).bind fun t141 => (if t141 = true then (if a2 = true then (pendulumlaw06_ShiftTens.j0 k a2 (wrap64 (Int.tmod a0 100)) (wrap64 (Int.tmod a1 100)) 1) else (pendulumlaw06_ShiftTens.j0 k a2 (wrap64 (Int.tmod a0 100)) (wrap64 (Int.tmod a1 100)) 0)) else (some false))
theorem pendulumlaw06_ShiftTens.mono_l : ∀ k, (∀ y0 y1 y2 y3, LeO (pendulumlaw06_ShiftTens.j0 k y0 y1 y2 y3) (pendulumlaw06_ShiftTens.j0 (k + 1) y0 y1 y2 y3)) ∧ (∀ y0 y1 y2 y3 y4 y5 y6, LeO (pendulumlaw06_ShiftTens.j1 k y0 y1 y2 y3 y4 y5 y6) (pendulumlaw06_ShiftTens.j1 (k + 1) y0 y1 y2 y3 y4 y5 y6))
  | 0 => ⟨fun _ _ _ _ r h => by simp [pendulumlaw06_ShiftTens.j0] at h, fun _ _ _ _ _ _ _ r h => by simp [pendulumlaw06_ShiftTens.j1] at h⟩
  | k + 1 => by
    obtain ⟨ih0, ih1⟩ := pendulumlaw06_ShiftTens.mono_l k
    refine ⟨?_, ?_⟩
    · intro y0 y1 y2 y3
      unfold pendulumlaw06_ShiftTens.j0
      repeat' first
      | (with_reducible exact ih0 _ _ _ _)
      | (with_reducible exact ih1 _ _ _ _ _ _ _)
      | (with_reducible exact pendulumlaw06_lives.mono _)
      | (with_reducible exact shift_Daa.mono _ _ _)
      | (with_reducible exact LeO.refl _)
      | (with_reducible exact LeO.none _)
      | (with_reducible refine LeO.ite ?_ ?_)
      | (with_reducible refine LeO.bind ?_ (fun _ => ?_))
      | exact ih0 _ _ _ _
      | exact ih1 _ _ _ _ _ _ _
      | exact pendulumlaw06_lives.mono _
      | exact shift_Daa.mono _ _ _
      | exact LeO.none _
      | refine LeO.ite ?_ ?_
      | refine LeO.bind ?_ (fun _ => ?_)
    · intro y0 y1 y2 y3 y4 y5 y6
      unfold pendulumlaw06_ShiftTens.j1
      repeat' first
      | (with_reducible exact ih0 _ _ _ _)
      | (with_reducible exact ih1 _ _ _ _ _ _ _)
      | (with_reducible exact pendulumlaw06_lives.mono _)
      | (with_reducible exact shift_Daa.mono _ _ _)
      | (with_reducible exact LeO.refl _)
      | (with_reducible exact LeO.none _)
      | (with_reducible refine LeO.ite ?_ ?_)
      | (with_reducible refine LeO.bind ?_ (fun _ => ?_))
      | exact ih0 _ _ _ _
      | exact ih1 _ _ _ _ _ _ _
      | exact pendulumlaw06_lives.mono _
      | exact shift_Daa.mono _ _ _
      | exact LeO.none _
      | refine LeO.ite ?_ ?_
      | refine LeO.bind ?_ (fun _ => ?_)
theorem pendulumlaw06_ShiftTens.mono : ∀ a0 a1 a2 k, LeO (pendulumlaw06_ShiftTens.f k a0 a1 a2) (pendulumlaw06_ShiftTens.f (k + 1) a0 a1 a2) := by
  intro a0 a1 a2 k
  obtain ⟨ih0, ih1⟩ := pendulumlaw06_ShiftTens.mono_l k
  unfold pendulumlaw06_ShiftTens.f
  repeat' first
      | (with_reducible exact ih0 _ _ _ _)
      | (with_reducible exact ih1 _ _ _ _ _ _ _)
      | (with_reducible exact pendulumlaw06_lives.mono _)
      | (with_reducible exact shift_Daa.mono _ _ _)
      | (with_reducible exact LeO.refl _)
      | (with_reducible exact LeO.none _)
      | (with_reducible refine LeO.ite ?_ ?_)
      | (with_reducible refine LeO.bind ?_ (fun _ => ?_))
      | exact ih0 _ _ _ _
      | exact ih1 _ _ _ _ _ _ _
      | exact pendulumlaw06_lives.mono _
      | exact shift_Daa.mono _ _ _
      | exact LeO.none _
      | refine LeO.ite ?_ ?_
      | refine LeO.bind ?_ (fun _ => ?_)
set_option maxHeartbeats 8000000 in
set_option maxRecDepth 100000 in
theorem pendulumlaw06_ShiftTens.calls (k : Nat) (a0 : Int) (a1 : Int) (a2 : Bool) (r : Bool) (w : World) (h : pendulumlaw06_ShiftTens.f k a0 a1 a2 = some r) :
    Calls Try.prog 12 #[.int .u8 a0, .int .u8 a1, .bool a2] w fun e w' => e = .returned (.bool r) ∧ Drawn0 w w' := by
  have H : ((pendulumlaw06_lives.f k).bind fun t141 => (if t141 = true then (if a2 = true then (pendulumlaw06_ShiftTens.j0 k a2 (wrap64 (Int.tmod a0 100)) (wrap64 (Int.tmod a1 100)) 1) else (pendulumlaw06_ShiftTens.j0 k a2 (wrap64 (Int.tmod a0 100)) (wrap64 (Int.tmod a1 100)) 0)) else (some false))) = some r := h
  clear h
  replace H := Option.bind_eq_some_iff.mp H
  obtain ⟨t141, A40, H⟩ := H
  replace H : (if t141 = true then (if a2 = true then (pendulumlaw06_ShiftTens.j0 k a2 (wrap64 (Int.tmod a0 100)) (wrap64 (Int.tmod a1 100)) 1) else (pendulumlaw06_ShiftTens.j0 k a2 (wrap64 (Int.tmod a0 100)) (wrap64 (Int.tmod a1 100)) 0)) else (some false)) = some r := H
  have A4 := Aside0.mk A40
  clear A40
  by_cases c5 : t141 = true
  · subst c5
    have H1 : (if a2 = true then (pendulumlaw06_ShiftTens.j0 k a2 (wrap64 (Int.tmod a0 100)) (wrap64 (Int.tmod a1 100)) 1) else (pendulumlaw06_ShiftTens.j0 k a2 (wrap64 (Int.tmod a0 100)) (wrap64 (Int.tmod a1 100)) 0)) = some r := by rw [if_pos rfl] at H; exact H
    clear H
    have H := H1
    clear H1
    have HC6 := Aside0.mk H
    clear H
    go_enter Try.func12, Try.ntmps12
    go_upto_if 24 with (first | ((with_reducible refine gate_callee (f := 51) rfl ?_); refine goesL_ (some 16) rfl rfl Try.func51 (by kernel_rfl) rfl #[] rfl (by (try simp only [List.map_toArray, List.map_cons, List.map_nil]); first | done | rfl | (simp only [List.length_drop, List.length_take]; rfl)) ?_; (with_reducible refine (pendulumlaw06_lives.calls k  true _ A4.out).mono ?_); rintro e w' ⟨rfl, ⟨nd, rfl⟩⟩; refine ⟨_, rfl, ?_⟩))
    (try simp only [Act.put, List.setIfInBounds_toArray, List.set_cons_zero, List.set_cons_succ])
    go_cut [9] (fun v9 wc => ∃ (kq : Nat) (x9_5 : Int), v9 = .int .i64 x9_5 ∧ Aside0 (pendulumlaw06_ShiftTens.j0 kq a2 (wrap64 (Int.tmod a0 100)) (wrap64 (Int.tmod a1 100)) x9_5 = some r) ∧ Aside0 (kq ≤ k) ∧ Drawn0 w wc)
    case first =>
      have H := HC6.out
      clear HC6
      by_cases c7 : a2 = true
      · subst c7
        have H1 : (pendulumlaw06_ShiftTens.j0 k true (wrap64 (Int.tmod a0 100)) (wrap64 (Int.tmod a1 100)) 1) = some r := by rw [if_pos rfl] at H; exact H
        clear H
        have H := H1
        clear H1
        have H' := Aside0.mk H
        clear H
        go_wp2
        go_meet
        case rel => exact ⟨_, (1), (by first | rfl | (simp; done) | (simp [*]; done)), H', ⟨by first | omega | exact Nat.le_refl _⟩, by repeat (first | exact Drawn0.refl _ | apply Drawn0.step)⟩
      · replace c7 := Bool.eq_false_iff.mpr c7
        subst c7
        have H1 : (pendulumlaw06_ShiftTens.j0 k false (wrap64 (Int.tmod a0 100)) (wrap64 (Int.tmod a1 100)) 0) = some r := by rw [if_neg (show ¬ (false = true) by decide)] at H; exact H
        clear H
        have H := H1
        clear H1
        have H' := Aside0.mk H
        clear H
        go_wp2
        go_meet
        case rel => exact ⟨_, (0), (by first | rfl | (simp; done) | (simp [*]; done)), H', ⟨by first | omega | exact Nat.le_refl _⟩, by repeat (first | exact Drawn0.refl _ | apply Drawn0.step)⟩
    case rest =>
      clear HC6
      try clear c1
      try clear p2
      try clear c5
      try clear p6
      try clear c7
      obtain ⟨kq, x9_5, rfl, HA, HJ5, ⟨mc5, rfl⟩⟩ := hcut
      cases kq with
      | zero => exact absurd HA.out (by simp [pendulumlaw06_ShiftTens.j0])
      | succ kj5 =>
        have H := HA.out
        clear HA
        simp only [pendulumlaw06_ShiftTens.j0] at H
        replace H := Option.bind_eq_some_iff.mp H
        obtain ⟨⟨t142, t143⟩, A80, H⟩ := H
        replace H : ((shift_Daa.f kj5 t142 t143).bind fun bt144 => (if (wrap64 ((((Int.tdiv bt144.1 16) % 256) * 10) + (wrap64 (Int.tmod bt144.1 16)))) = (Int.tmod (wrap64 ((wrap64 ((wrap64 (Int.tmod a0 100)) + (wrap64 (Int.tmod a1 100)))) + x9_5)) 100) then (pendulumlaw06_ShiftTens.j1 kj5 a2 (wrap64 (Int.tmod a0 100)) (wrap64 (Int.tmod a1 100)) x9_5 ((wrap64 ((wrap64 ((wrap64 (Int.tdiv (wrap64 (Int.tmod a0 100)) 10)) * 16)) + (Int.tmod (wrap64 (Int.tmod a0 100)) 10))) % 256) ((wrap64 ((wrap64 ((wrap64 (Int.tdiv (wrap64 (Int.tmod a1 100)) 10)) * 16)) + (Int.tmod (wrap64 (Int.tmod a1 100)) 10))) % 256) (((Go.bits .and .u8 bt144.2 1) != 0) != (decide ((wrap64 ((wrap64 ((wrap64 (Int.tmod a0 100)) + (wrap64 (Int.tmod a1 100)))) + x9_5)) > 99)))) else (pendulumlaw06_ShiftTens.j1 kj5 a2 (wrap64 (Int.tmod a0 100)) (wrap64 (Int.tmod a1 100)) x9_5 ((wrap64 ((wrap64 ((wrap64 (Int.tdiv (wrap64 (Int.tmod a0 100)) 10)) * 16)) + (Int.tmod (wrap64 (Int.tmod a0 100)) 10))) % 256) ((wrap64 ((wrap64 ((wrap64 (Int.tdiv (wrap64 (Int.tmod a1 100)) 10)) * 16)) + (Int.tmod (wrap64 (Int.tmod a1 100)) 10))) % 256) true))) = some r := H
        have A8 := Aside0.mk A80
        clear A80
        replace H := Option.bind_eq_some_iff.mp H
        obtain ⟨⟨t144, t145⟩, A90, H⟩ := H
        replace H : (if (wrap64 ((((Int.tdiv t144 16) % 256) * 10) + (wrap64 (Int.tmod t144 16)))) = (Int.tmod (wrap64 ((wrap64 ((wrap64 (Int.tmod a0 100)) + (wrap64 (Int.tmod a1 100)))) + x9_5)) 100) then (pendulumlaw06_ShiftTens.j1 kj5 a2 (wrap64 (Int.tmod a0 100)) (wrap64 (Int.tmod a1 100)) x9_5 ((wrap64 ((wrap64 ((wrap64 (Int.tdiv (wrap64 (Int.tmod a0 100)) 10)) * 16)) + (Int.tmod (wrap64 (Int.tmod a0 100)) 10))) % 256) ((wrap64 ((wrap64 ((wrap64 (Int.tdiv (wrap64 (Int.tmod a1 100)) 10)) * 16)) + (Int.tmod (wrap64 (Int.tmod a1 100)) 10))) % 256) (((Go.bits .and .u8 t145 1) != 0) != (decide ((wrap64 ((wrap64 ((wrap64 (Int.tmod a0 100)) + (wrap64 (Int.tmod a1 100)))) + x9_5)) > 99)))) else (pendulumlaw06_ShiftTens.j1 kj5 a2 (wrap64 (Int.tmod a0 100)) (wrap64 (Int.tmod a1 100)) x9_5 ((wrap64 ((wrap64 ((wrap64 (Int.tdiv (wrap64 (Int.tmod a0 100)) 10)) * 16)) + (Int.tmod (wrap64 (Int.tmod a0 100)) 10))) % 256) ((wrap64 ((wrap64 ((wrap64 (Int.tdiv (wrap64 (Int.tmod a1 100)) 10)) * 16)) + (Int.tmod (wrap64 (Int.tmod a1 100)) 10))) % 256) true)) = some r := H
        have A9 := Aside0.mk A90
        clear A90
        have HC10 := Aside0.mk H
        clear H
        go_upto_region 11 with (first | ((with_reducible refine gate_callee (f := 21) rfl ?_); refine goesL_ (some 43) rfl rfl Try.func21 (by kernel_rfl) rfl #[.int .u8 ((wrap64 ((wrap64 ((wrap64 (Int.tdiv (wrap64 (Int.tmod a0 100)) 10)) * 16)) + (Int.tmod (wrap64 (Int.tmod a0 100)) 10))) % 256), .int .u8 ((wrap64 ((wrap64 ((wrap64 (Int.tdiv (wrap64 (Int.tmod a1 100)) 10)) * 16)) + (Int.tmod (wrap64 (Int.tmod a1 100)) 10))) % 256), .bool a2] rfl (by (try simp only [List.map_toArray, List.map_cons, List.map_nil]); first | done | rfl | (simp only [List.length_drop, List.length_take]; rfl)) ?_; (with_reducible refine (pendulumref05_Add.calls ((wrap64 ((wrap64 ((wrap64 (Int.tdiv (wrap64 (Int.tmod a0 100)) 10)) * 16)) + (Int.tmod (wrap64 (Int.tmod a0 100)) 10))) % 256) ((wrap64 ((wrap64 ((wrap64 (Int.tdiv (wrap64 (Int.tmod a1 100)) 10)) * 16)) + (Int.tmod (wrap64 (Int.tmod a1 100)) 10))) % 256) a2 t142 t143 _ A8.out).mono ?_); rintro e w' ⟨rfl, ⟨nd, rfl⟩⟩; refine ⟨_, rfl, ?_⟩) | ((with_reducible refine gate_callee (f := 54) rfl ?_); refine goesL_ (some 49) rfl rfl Try.func54 (by kernel_rfl) rfl #[.int .u8 t142, .int .u8 t143] rfl (by (try simp only [List.map_toArray, List.map_cons, List.map_nil]); first | done | rfl | (simp only [List.length_drop, List.length_take]; rfl)) ?_; (with_reducible refine (shift_Daa.calls kj5 t142 t143 t144 t145 _ A9.out).mono ?_); rintro e w' ⟨rfl, ⟨nd, rfl⟩⟩; refine ⟨_, rfl, ?_⟩))
        (try simp only [Act.put, List.setIfInBounds_toArray, List.set_cons_zero, List.set_cons_succ])
        go_cut [75] (fun v75 wc => ∃ (kq : Nat) (x75_9 : Bool), v75 = .bool x75_9 ∧ Aside0 (pendulumlaw06_ShiftTens.j1 kq a2 (wrap64 (Int.tmod a0 100)) (wrap64 (Int.tmod a1 100)) x9_5 ((wrap64 ((wrap64 ((wrap64 (Int.tdiv (wrap64 (Int.tmod a0 100)) 10)) * 16)) + (Int.tmod (wrap64 (Int.tmod a0 100)) 10))) % 256) ((wrap64 ((wrap64 ((wrap64 (Int.tdiv (wrap64 (Int.tmod a1 100)) 10)) * 16)) + (Int.tmod (wrap64 (Int.tmod a1 100)) 10))) % 256) x75_9 = some r) ∧ Aside0 (kq ≤ kj5) ∧ Drawn0 w wc)
        case first =>
          have H := HC10.out
          clear HC10
          by_cases c11 : (wrap64 ((((Int.tdiv t144 16) % 256) * 10) + (wrap64 (Int.tmod t144 16)))) = (Int.tmod (wrap64 ((wrap64 ((wrap64 (Int.tmod a0 100)) + (wrap64 (Int.tmod a1 100)))) + x9_5)) 100)
          · rw [if_pos c11] at H
            have c11b0 : ((wrap64 ((((Int.tdiv t144 16) % 256) * 10) + (wrap64 (Int.tmod t144 16)))) == (Int.tmod (wrap64 ((wrap64 ((wrap64 (Int.tmod a0 100)) + (wrap64 (Int.tmod a1 100)))) + x9_5)) 100)) = true := beq_iff_eq.mpr c11
            have c11b1 : ((wrap64 ((((Int.tdiv t144 16) % 256) * 10) + (wrap64 (Int.tmod t144 16)))) != (Int.tmod (wrap64 ((wrap64 ((wrap64 (Int.tmod a0 100)) + (wrap64 (Int.tmod a1 100)))) + x9_5)) 100)) = false := bne_eq_false_iff_eq.mpr c11
            clear c11
            (first | rw [c11b0] | (simp only [i64_w, i32_w]; rw [c11b0]) | skip)
            have H' := Aside0.mk H
            clear H
            go_wp2
            go_meet
            case rel => exact ⟨_, ((((Go.bits .and .u8 t145 1) != 0) != (decide ((wrap64 ((wrap64 ((wrap64 (Int.tmod a0 100)) + (wrap64 (Int.tmod a1 100)))) + x9_5)) > 99)))), (by first | rfl | (simp; done) | (simp [*]; done)), H', ⟨by have := HJ5.out; first | omega | exact Nat.le_refl _⟩, by repeat (first | exact Drawn0.refl _ | apply Drawn0.step)⟩
          · rw [if_neg c11] at H
            have c11b0 : ((wrap64 ((((Int.tdiv t144 16) % 256) * 10) + (wrap64 (Int.tmod t144 16)))) == (Int.tmod (wrap64 ((wrap64 ((wrap64 (Int.tmod a0 100)) + (wrap64 (Int.tmod a1 100)))) + x9_5)) 100)) = false := beq_eq_false_iff_ne.mpr c11
            have c11b1 : ((wrap64 ((((Int.tdiv t144 16) % 256) * 10) + (wrap64 (Int.tmod t144 16)))) != (Int.tmod (wrap64 ((wrap64 ((wrap64 (Int.tmod a0 100)) + (wrap64 (Int.tmod a1 100)))) + x9_5)) 100)) = true := bne_iff_ne.mpr c11
            (first | rw [c11b0] | (simp only [i64_w, i32_w]; rw [c11b0]) | skip)
            have H' := Aside0.mk H
            clear H
            go_wp2
            go_meet
            case rel => exact ⟨_, (true), (by first | rfl | (simp; done) | (simp [*]; done)), H', ⟨by have := HJ5.out; first | omega | exact Nat.le_refl _⟩, by repeat (first | exact Drawn0.refl _ | apply Drawn0.step)⟩
        case rest =>
          clear HC10
          try clear c1
          try clear c2
          try clear p2
          try clear c5
          try clear p6
          try clear c7
          try clear c11
          try clear c11b0
          try clear c11b1
          try clear p2
          try clear p6
          obtain ⟨kq, x75_9, rfl, HA, HJ9, ⟨mc9, rfl⟩⟩ := hcut
          cases kq with
          | zero => exact absurd HA.out (by simp [pendulumlaw06_ShiftTens.j1])
          | succ kj9 =>
            have H := HA.out
            clear HA
            simp only [pendulumlaw06_ShiftTens.j1] at H
            by_cases c12 : x75_9 = true
            · subst c12
              have H1 : (some false) = some r := by rw [if_pos rfl] at H; exact H
              clear H
              have H := H1
              clear H1
              obtain rfl := Option.some.inj H
              go_wp2
              go_ret
              exact ⟨by first | rfl | (simp; done) | (simp [*]; done), by repeat (first | exact Drawn0.refl _ | apply Drawn0.step)⟩
            · replace c12 := Bool.eq_false_iff.mpr c12
              subst c12
              have H1 : ((pendulumref05_Sub.f ((wrap64 ((wrap64 ((wrap64 (Int.tdiv (wrap64 (Int.tmod a0 100)) 10)) * 16)) + (Int.tmod (wrap64 (Int.tmod a0 100)) 10))) % 256) ((wrap64 ((wrap64 ((wrap64 (Int.tdiv (wrap64 (Int.tmod a1 100)) 10)) * 16)) + (Int.tmod (wrap64 (Int.tmod a1 100)) 10))) % 256) a2).bind fun bt146 => ((shift_Daa.f kj9 bt146.1 bt146.2).bind fun bt148 => (if (wrap64 ((((Int.tdiv bt148.1 16) % 256) * 10) + (wrap64 (Int.tmod bt148.1 16)))) = (Int.tmod (wrap64 ((wrap64 ((wrap64 ((wrap64 (Int.tmod a0 100)) - (wrap64 (Int.tmod a1 100)))) - x9_5)) + 100)) 100) then (if (((Go.bits .and .u8 bt148.2 1) != 0) == (decide ((wrap64 ((wrap64 ((wrap64 (Int.tmod a0 100)) - (wrap64 (Int.tmod a1 100)))) - x9_5)) < 0))) = true then (some ((Go.bits .and .u8 bt148.2 2) != 0)) else (some false)) else (some false)))) = some r := by rw [if_neg (show ¬ (false = true) by decide)] at H; exact H
              clear H
              have H := H1
              clear H1
              replace H := Option.bind_eq_some_iff.mp H
              obtain ⟨⟨t146, t147⟩, A130, H⟩ := H
              replace H : ((shift_Daa.f kj9 t146 t147).bind fun bt148 => (if (wrap64 ((((Int.tdiv bt148.1 16) % 256) * 10) + (wrap64 (Int.tmod bt148.1 16)))) = (Int.tmod (wrap64 ((wrap64 ((wrap64 ((wrap64 (Int.tmod a0 100)) - (wrap64 (Int.tmod a1 100)))) - x9_5)) + 100)) 100) then (if (((Go.bits .and .u8 bt148.2 1) != 0) == (decide ((wrap64 ((wrap64 ((wrap64 (Int.tmod a0 100)) - (wrap64 (Int.tmod a1 100)))) - x9_5)) < 0))) = true then (some ((Go.bits .and .u8 bt148.2 2) != 0)) else (some false)) else (some false))) = some r := H
              have A13 := Aside0.mk A130
              clear A130
              replace H := Option.bind_eq_some_iff.mp H
              obtain ⟨⟨t148, t149⟩, A140, H⟩ := H
              replace H : (if (wrap64 ((((Int.tdiv t148 16) % 256) * 10) + (wrap64 (Int.tmod t148 16)))) = (Int.tmod (wrap64 ((wrap64 ((wrap64 ((wrap64 (Int.tmod a0 100)) - (wrap64 (Int.tmod a1 100)))) - x9_5)) + 100)) 100) then (if (((Go.bits .and .u8 t149 1) != 0) == (decide ((wrap64 ((wrap64 ((wrap64 (Int.tmod a0 100)) - (wrap64 (Int.tmod a1 100)))) - x9_5)) < 0))) = true then (some ((Go.bits .and .u8 t149 2) != 0)) else (some false)) else (some false)) = some r := H
              have A14 := Aside0.mk A140
              clear A140
              by_cases c15 : (wrap64 ((((Int.tdiv t148 16) % 256) * 10) + (wrap64 (Int.tmod t148 16)))) = (Int.tmod (wrap64 ((wrap64 ((wrap64 ((wrap64 (Int.tmod a0 100)) - (wrap64 (Int.tmod a1 100)))) - x9_5)) + 100)) 100)
              · rw [if_pos c15] at H
                have c15b0 : ((wrap64 ((((Int.tdiv t148 16) % 256) * 10) + (wrap64 (Int.tmod t148 16)))) == (Int.tmod (wrap64 ((wrap64 ((wrap64 ((wrap64 (Int.tmod a0 100)) - (wrap64 (Int.tmod a1 100)))) - x9_5)) + 100)) 100)) = true := beq_iff_eq.mpr c15
                have c15b1 : ((wrap64 ((((Int.tdiv t148 16) % 256) * 10) + (wrap64 (Int.tmod t148 16)))) != (Int.tmod (wrap64 ((wrap64 ((wrap64 ((wrap64 (Int.tmod a0 100)) - (wrap64 (Int.tmod a1 100)))) - x9_5)) + 100)) 100)) = false := bne_eq_false_iff_eq.mpr c15
                clear c15
                by_cases c16 : (((Go.bits .and .u8 t149 1) != 0) == (decide ((wrap64 ((wrap64 ((wrap64 (Int.tmod a0 100)) - (wrap64 (Int.tmod a1 100)))) - x9_5)) < 0))) = true
                · rw [if_pos c16] at H
                  have c16b0 : (((Go.bits .and .u8 t149 1) != 0) == (decide ((wrap64 ((wrap64 ((wrap64 (Int.tmod a0 100)) - (wrap64 (Int.tmod a1 100)))) - x9_5)) < 0))) = true := c16
                  (try (have c16b1 : decide (((Go.bits .and .u8 t149 1) != 0) = (decide ((wrap64 ((wrap64 ((wrap64 (Int.tmod a0 100)) - (wrap64 (Int.tmod a1 100)))) - x9_5)) < 0))) = true := by simpa using c16))
                  (try (have c16b2 : (((Go.bits .and .u8 t149 1) != 0) == (decide ((wrap64 ((wrap64 ((wrap64 (Int.tmod a0 100)) - (wrap64 (Int.tmod a1 100)))) - x9_5)) < 0))) = true := by simpa using c16))
                  clear c16
                  obtain rfl := Option.some.inj H
                  go_wp2_with (first | ((with_reducible refine gate_callee (f := 23) rfl ?_); refine goesL_ (some 80) rfl rfl Try.func23 (by kernel_rfl) rfl #[.int .u8 ((wrap64 ((wrap64 ((wrap64 (Int.tdiv (wrap64 (Int.tmod a0 100)) 10)) * 16)) + (Int.tmod (wrap64 (Int.tmod a0 100)) 10))) % 256), .int .u8 ((wrap64 ((wrap64 ((wrap64 (Int.tdiv (wrap64 (Int.tmod a1 100)) 10)) * 16)) + (Int.tmod (wrap64 (Int.tmod a1 100)) 10))) % 256), .bool a2] rfl (by (try simp only [List.map_toArray, List.map_cons, List.map_nil]); first | done | rfl | (simp only [List.length_drop, List.length_take]; rfl)) ?_; (with_reducible refine (pendulumref05_Sub.calls ((wrap64 ((wrap64 ((wrap64 (Int.tdiv (wrap64 (Int.tmod a0 100)) 10)) * 16)) + (Int.tmod (wrap64 (Int.tmod a0 100)) 10))) % 256) ((wrap64 ((wrap64 ((wrap64 (Int.tdiv (wrap64 (Int.tmod a1 100)) 10)) * 16)) + (Int.tmod (wrap64 (Int.tmod a1 100)) 10))) % 256) a2 t146 t147 _ A13.out).mono ?_); rintro e w' ⟨rfl, ⟨nd, rfl⟩⟩; refine ⟨_, rfl, ?_⟩) | ((with_reducible refine gate_callee (f := 54) rfl ?_); refine goesL_ (some 86) rfl rfl Try.func54 (by kernel_rfl) rfl #[.int .u8 t146, .int .u8 t147] rfl (by (try simp only [List.map_toArray, List.map_cons, List.map_nil]); first | done | rfl | (simp only [List.length_drop, List.length_take]; rfl)) ?_; (with_reducible refine (shift_Daa.calls kj9 t146 t147 t148 t149 _ A14.out).mono ?_); rintro e w' ⟨rfl, ⟨nd, rfl⟩⟩; refine ⟨_, rfl, ?_⟩))
                  go_ret
                  exact ⟨by first | rfl | (simp; done) | (simp [*]; done), by repeat (first | exact Drawn0.refl _ | apply Drawn0.step)⟩
                · rw [if_neg c16] at H
                  have c16b0 : (((Go.bits .and .u8 t149 1) != 0) == (decide ((wrap64 ((wrap64 ((wrap64 (Int.tmod a0 100)) - (wrap64 (Int.tmod a1 100)))) - x9_5)) < 0))) = false := by simpa using c16
                  (try (have c16b1 : decide (((Go.bits .and .u8 t149 1) != 0) = (decide ((wrap64 ((wrap64 ((wrap64 (Int.tmod a0 100)) - (wrap64 (Int.tmod a1 100)))) - x9_5)) < 0))) = false := by simpa using c16))
                  (try (have c16b2 : (((Go.bits .and .u8 t149 1) != 0) == (decide ((wrap64 ((wrap64 ((wrap64 (Int.tmod a0 100)) - (wrap64 (Int.tmod a1 100)))) - x9_5)) < 0))) = false := by simpa using c16))
                  (try (have c16b3 : ¬ (((Go.bits .and .u8 t149 1) != 0) = (decide ((wrap64 ((wrap64 ((wrap64 (Int.tmod a0 100)) - (wrap64 (Int.tmod a1 100)))) - x9_5)) < 0))) := by simpa using c16))
                  clear c16
                  obtain rfl := Option.some.inj H
                  go_wp2_with (first | ((with_reducible refine gate_callee (f := 23) rfl ?_); refine goesL_ (some 80) rfl rfl Try.func23 (by kernel_rfl) rfl #[.int .u8 ((wrap64 ((wrap64 ((wrap64 (Int.tdiv (wrap64 (Int.tmod a0 100)) 10)) * 16)) + (Int.tmod (wrap64 (Int.tmod a0 100)) 10))) % 256), .int .u8 ((wrap64 ((wrap64 ((wrap64 (Int.tdiv (wrap64 (Int.tmod a1 100)) 10)) * 16)) + (Int.tmod (wrap64 (Int.tmod a1 100)) 10))) % 256), .bool a2] rfl (by (try simp only [List.map_toArray, List.map_cons, List.map_nil]); first | done | rfl | (simp only [List.length_drop, List.length_take]; rfl)) ?_; (with_reducible refine (pendulumref05_Sub.calls ((wrap64 ((wrap64 ((wrap64 (Int.tdiv (wrap64 (Int.tmod a0 100)) 10)) * 16)) + (Int.tmod (wrap64 (Int.tmod a0 100)) 10))) % 256) ((wrap64 ((wrap64 ((wrap64 (Int.tdiv (wrap64 (Int.tmod a1 100)) 10)) * 16)) + (Int.tmod (wrap64 (Int.tmod a1 100)) 10))) % 256) a2 t146 t147 _ A13.out).mono ?_); rintro e w' ⟨rfl, ⟨nd, rfl⟩⟩; refine ⟨_, rfl, ?_⟩) | ((with_reducible refine gate_callee (f := 54) rfl ?_); refine goesL_ (some 86) rfl rfl Try.func54 (by kernel_rfl) rfl #[.int .u8 t146, .int .u8 t147] rfl (by (try simp only [List.map_toArray, List.map_cons, List.map_nil]); first | done | rfl | (simp only [List.length_drop, List.length_take]; rfl)) ?_; (with_reducible refine (shift_Daa.calls kj9 t146 t147 t148 t149 _ A14.out).mono ?_); rintro e w' ⟨rfl, ⟨nd, rfl⟩⟩; refine ⟨_, rfl, ?_⟩))
                  go_ret
                  exact ⟨by first | rfl | (simp; done) | (simp [*]; done), by repeat (first | exact Drawn0.refl _ | apply Drawn0.step)⟩
              · rw [if_neg c15] at H
                have c15b0 : ((wrap64 ((((Int.tdiv t148 16) % 256) * 10) + (wrap64 (Int.tmod t148 16)))) == (Int.tmod (wrap64 ((wrap64 ((wrap64 ((wrap64 (Int.tmod a0 100)) - (wrap64 (Int.tmod a1 100)))) - x9_5)) + 100)) 100)) = false := beq_eq_false_iff_ne.mpr c15
                have c15b1 : ((wrap64 ((((Int.tdiv t148 16) % 256) * 10) + (wrap64 (Int.tmod t148 16)))) != (Int.tmod (wrap64 ((wrap64 ((wrap64 ((wrap64 (Int.tmod a0 100)) - (wrap64 (Int.tmod a1 100)))) - x9_5)) + 100)) 100)) = true := bne_iff_ne.mpr c15
                obtain rfl := Option.some.inj H
                go_wp2_with (first | ((with_reducible refine gate_callee (f := 23) rfl ?_); refine goesL_ (some 80) rfl rfl Try.func23 (by kernel_rfl) rfl #[.int .u8 ((wrap64 ((wrap64 ((wrap64 (Int.tdiv (wrap64 (Int.tmod a0 100)) 10)) * 16)) + (Int.tmod (wrap64 (Int.tmod a0 100)) 10))) % 256), .int .u8 ((wrap64 ((wrap64 ((wrap64 (Int.tdiv (wrap64 (Int.tmod a1 100)) 10)) * 16)) + (Int.tmod (wrap64 (Int.tmod a1 100)) 10))) % 256), .bool a2] rfl (by (try simp only [List.map_toArray, List.map_cons, List.map_nil]); first | done | rfl | (simp only [List.length_drop, List.length_take]; rfl)) ?_; (with_reducible refine (pendulumref05_Sub.calls ((wrap64 ((wrap64 ((wrap64 (Int.tdiv (wrap64 (Int.tmod a0 100)) 10)) * 16)) + (Int.tmod (wrap64 (Int.tmod a0 100)) 10))) % 256) ((wrap64 ((wrap64 ((wrap64 (Int.tdiv (wrap64 (Int.tmod a1 100)) 10)) * 16)) + (Int.tmod (wrap64 (Int.tmod a1 100)) 10))) % 256) a2 t146 t147 _ A13.out).mono ?_); rintro e w' ⟨rfl, ⟨nd, rfl⟩⟩; refine ⟨_, rfl, ?_⟩) | ((with_reducible refine gate_callee (f := 54) rfl ?_); refine goesL_ (some 86) rfl rfl Try.func54 (by kernel_rfl) rfl #[.int .u8 t146, .int .u8 t147] rfl (by (try simp only [List.map_toArray, List.map_cons, List.map_nil]); first | done | rfl | (simp only [List.length_drop, List.length_take]; rfl)) ?_; (with_reducible refine (shift_Daa.calls kj9 t146 t147 t148 t149 _ A14.out).mono ?_); rintro e w' ⟨rfl, ⟨nd, rfl⟩⟩; refine ⟨_, rfl, ?_⟩))
                go_ret
                exact ⟨by first | rfl | (simp; done) | (simp [*]; done), by repeat (first | exact Drawn0.refl _ | apply Drawn0.step)⟩
  · replace c5 := Bool.eq_false_iff.mpr c5
    subst c5
    have H1 : (some false) = some r := by rw [if_neg (show ¬ (false = true) by decide)] at H; exact H
    clear H
    have H := H1
    clear H1
    obtain rfl := Option.some.inj H
    go_enter Try.func12, Try.ntmps12
    go_wp2_with (first | ((with_reducible refine gate_callee (f := 51) rfl ?_); refine goesL_ (some 16) rfl rfl Try.func51 (by kernel_rfl) rfl #[] rfl (by (try simp only [List.map_toArray, List.map_cons, List.map_nil]); first | done | rfl | (simp only [List.length_drop, List.length_take]; rfl)) ?_; (with_reducible refine (pendulumlaw06_lives.calls k  false _ A4.out).mono ?_); rintro e w' ⟨rfl, ⟨nd, rfl⟩⟩; refine ⟨_, rfl, ?_⟩))
    go_ret
    exact ⟨by first | rfl | (simp; done) | (simp [*]; done), by repeat (first | exact Drawn0.refl _ | apply Drawn0.step)⟩

/-- THE ONE PURE STATEMENT of pendulumlaw06_ShiftTens: yours. -/
def pendulumlaw06_ShiftTens.Pure : Prop := ∀ (a0 : Int) (a1 : Int) (a2 : Bool), (Lit.int .u8 a0).wf = true → (Lit.int .u8 a1).wf = true → ∃ k, pendulumlaw06_ShiftTens.f k a0 a1 a2 = some true
theorem pendulumlaw06_ShiftTens.walk (P : pendulumlaw06_ShiftTens.Pure) (a0 : Int) (a1 : Int) (a2 : Bool) (w : World) (w0 : (Lit.int .u8 a0).wf = true) (w1 : (Lit.int .u8 a1).wf = true) :
    Calls Try.prog 12 #[.int .u8 a0, .int .u8 a1, .bool a2] w fun e w' => e = .returned (.bool true) ∧ Below w.heap.size w w' := by
  obtain ⟨k, h⟩ := P a0 a1 a2 w0 w1
  refine (pendulumlaw06_ShiftTens.calls k a0 a1 a2 true w h).mono ?_
  rintro e w' ⟨rfl, hd⟩
  exact ⟨rfl, hd.below⟩

end Go.Proofs.Ytpmmneipfmbmlaa.HShiftTens
