-- Written by a program of this session out of Lean's print of the program (after the form of the kit's print.sh, with own turns); Lean checks it.
import Derived.Test.YtpmmneipfmbmlaaHShiftBitsx0
import Derived.Test.YtpmmneipfmbmlaaHShiftBitsx1
namespace Go.Proofs.Ytpmmneipfmbmlaa.HShiftBits
open Go.RowKit Go.Proofs.YtpmmneipfmbmlaaW.PrintWords Go.Proofs.YtpmmneipfmbmlaaW.PrintLast Go.Proofs.YtpmmneipfmbmlaaW.PrintMore
attribute [local go_sem] max2_int min2_int max_two min_two max_three min_three max_four min_four   -- for this text's walks alone
set_option linter.unusedVariables false
set_option linter.unusedSimpArgs false

/-! ### shift_Daa: function 54 -/
mutual
def shift_Daa.j0 : Nat → Int → Int → Int → Bool → Option (Int × Int)
  | 0, _, _, _, _ => none
  | k + 1, x0, x1, x6, x7 => if (Go.bits .and .u8 x1 16) = 0 then (shift_Daa.j1 k x0 x1 x6 x7 (decide ((Go.bits .and .u8 x0 15) > 9))) else (shift_Daa.j1 k x0 x1 x6 x7 true)
def shift_Daa.j1 : Nat → Int → Int → Int → Bool → Bool → Option (Int × Int)
  | 0, _, _, _, _, _ => none
  | k + 1, x0, x1, x6, x7, x23 => if x23 = true then (shift_Daa.j2 k x0 x1 6 x7) else (shift_Daa.j2 k x0 x1 x6 x7)
def shift_Daa.j2 : Nat → Int → Int → Int → Bool → Option (Int × Int)
  | 0, _, _, _, _ => none
  | k + 1, x0, x1, x6, x7 => if x7 = true then (shift_Daa.j3 k x0 x1 ((x6 + 96) % 256) x7) else (shift_Daa.j3 k x0 x1 x6 x7)
def shift_Daa.j3 : Nat → Int → Int → Int → Bool → Option (Int × Int)
  | 0, _, _, _, _ => none
  | k + 1, x0, x1, x6, x7 => if (Go.bits .and .u8 x1 2) = 0 then ((shift_whole.f ((x0 + x6) % 256)).bind fun t108 => ((shift_if1.f x7 1).bind fun t109 => ((shift_if1.f (decide ((Go.bits .and .u8 x0 15) > 9)) 16).bind fun t110 => (some ((x0 + x6) % 256, Go.bits .or .u8 (Go.bits .or .u8 (Go.bits .or .u8 t108 (Go.bits .and .u8 x1 2)) t109) t110))))) else (if (Go.bits .and .u8 x0 15) < 6 then ((shift_whole.f ((x0 - x6) % 256)).bind fun t111 => ((shift_if1.f x7 1).bind fun t112 => ((shift_if1.f ((Go.bits .and .u8 x1 16) != 0) 16).bind fun t113 => (some ((x0 - x6) % 256, Go.bits .or .u8 (Go.bits .or .u8 (Go.bits .or .u8 t111 (Go.bits .and .u8 x1 2)) t112) t113))))) else ((shift_whole.f ((x0 - x6) % 256)).bind fun t114 => ((shift_if1.f x7 1).bind fun t115 => ((shift_if1.f false 16).bind fun t116 => (some ((x0 - x6) % 256, Go.bits .or .u8 (Go.bits .or .u8 (Go.bits .or .u8 t114 (Go.bits .and .u8 x1 2)) t115) t116))))))
end
def shift_Daa.f (k : Nat) (a0 : Int) (a1 : Int) : Option (Int × Int) := if (Go.bits .and .u8 a1 1) = 0 then (shift_Daa.j0 k a0 a1 0 (decide (a0 > 153))) else (shift_Daa.j0 k a0 a1 0 true)
theorem shift_Daa.mono_l : ∀ k, (∀ y0 y1 y2 y3, LeO (shift_Daa.j0 k y0 y1 y2 y3) (shift_Daa.j0 (k + 1) y0 y1 y2 y3)) ∧ (∀ y0 y1 y2 y3 y4, LeO (shift_Daa.j1 k y0 y1 y2 y3 y4) (shift_Daa.j1 (k + 1) y0 y1 y2 y3 y4)) ∧ (∀ y0 y1 y2 y3, LeO (shift_Daa.j2 k y0 y1 y2 y3) (shift_Daa.j2 (k + 1) y0 y1 y2 y3)) ∧ (∀ y0 y1 y2 y3, LeO (shift_Daa.j3 k y0 y1 y2 y3) (shift_Daa.j3 (k + 1) y0 y1 y2 y3))
  | 0 => ⟨fun _ _ _ _ r h => by simp [shift_Daa.j0] at h, fun _ _ _ _ _ r h => by simp [shift_Daa.j1] at h, fun _ _ _ _ r h => by simp [shift_Daa.j2] at h, fun _ _ _ _ r h => by simp [shift_Daa.j3] at h⟩
  | k + 1 => by
    obtain ⟨ih0, ih1, ih2, ih3⟩ := shift_Daa.mono_l k
    refine ⟨?_, ?_, ?_, ?_⟩
    · intro y0 y1 y2 y3
      unfold shift_Daa.j0
      repeat' first
      | (with_reducible exact ih0 _ _ _ _)
      | (with_reducible exact ih1 _ _ _ _ _)
      | (with_reducible exact ih2 _ _ _ _)
      | (with_reducible exact ih3 _ _ _ _)
      | (with_reducible exact LeO.refl _)
      | (with_reducible exact LeO.none _)
      | (with_reducible refine LeO.ite ?_ ?_)
      | (with_reducible refine LeO.bind ?_ (fun _ => ?_))
      | exact ih0 _ _ _ _
      | exact ih1 _ _ _ _ _
      | exact ih2 _ _ _ _
      | exact ih3 _ _ _ _
      | exact LeO.none _
      | refine LeO.ite ?_ ?_
      | refine LeO.bind ?_ (fun _ => ?_)
    · intro y0 y1 y2 y3 y4
      unfold shift_Daa.j1
      repeat' first
      | (with_reducible exact ih0 _ _ _ _)
      | (with_reducible exact ih1 _ _ _ _ _)
      | (with_reducible exact ih2 _ _ _ _)
      | (with_reducible exact ih3 _ _ _ _)
      | (with_reducible exact LeO.refl _)
      | (with_reducible exact LeO.none _)
      | (with_reducible refine LeO.ite ?_ ?_)
      | (with_reducible refine LeO.bind ?_ (fun _ => ?_))
      | exact ih0 _ _ _ _
      | exact ih1 _ _ _ _ _
      | exact ih2 _ _ _ _
      | exact ih3 _ _ _ _
      | exact LeO.none _
      | refine LeO.ite ?_ ?_
      | refine LeO.bind ?_ (fun _ => ?_)
    · intro y0 y1 y2 y3
      unfold shift_Daa.j2
      repeat' first
      | (with_reducible exact ih0 _ _ _ _)
      | (with_reducible exact ih1 _ _ _ _ _)
      | (with_reducible exact ih2 _ _ _ _)
      | (with_reducible exact ih3 _ _ _ _)
      | (with_reducible exact LeO.refl _)
      | (with_reducible exact LeO.none _)
      | (with_reducible refine LeO.ite ?_ ?_)
      | (with_reducible refine LeO.bind ?_ (fun _ => ?_))
      | exact ih0 _ _ _ _
      | exact ih1 _ _ _ _ _
      | exact ih2 _ _ _ _
      | exact ih3 _ _ _ _
      | exact LeO.none _
      | refine LeO.ite ?_ ?_
      | refine LeO.bind ?_ (fun _ => ?_)
    · intro y0 y1 y2 y3
      unfold shift_Daa.j3
      repeat' first
      | (with_reducible exact ih0 _ _ _ _)
      | (with_reducible exact ih1 _ _ _ _ _)
      | (with_reducible exact ih2 _ _ _ _)
      | (with_reducible exact ih3 _ _ _ _)
      | (with_reducible exact LeO.refl _)
      | (with_reducible exact LeO.none _)
      | (with_reducible refine LeO.ite ?_ ?_)
      | (with_reducible refine LeO.bind ?_ (fun _ => ?_))
      | exact ih0 _ _ _ _
      | exact ih1 _ _ _ _ _
      | exact ih2 _ _ _ _
      | exact ih3 _ _ _ _
      | exact LeO.none _
      | refine LeO.ite ?_ ?_
      | refine LeO.bind ?_ (fun _ => ?_)
theorem shift_Daa.mono : ∀ a0 a1 k, LeO (shift_Daa.f k a0 a1) (shift_Daa.f (k + 1) a0 a1) := by
  intro a0 a1 k
  obtain ⟨ih0, ih1, ih2, ih3⟩ := shift_Daa.mono_l k
  unfold shift_Daa.f
  repeat' first
      | (with_reducible exact ih0 _ _ _ _)
      | (with_reducible exact ih1 _ _ _ _ _)
      | (with_reducible exact ih2 _ _ _ _)
      | (with_reducible exact ih3 _ _ _ _)
      | (with_reducible exact LeO.refl _)
      | (with_reducible exact LeO.none _)
      | (with_reducible refine LeO.ite ?_ ?_)
      | (with_reducible refine LeO.bind ?_ (fun _ => ?_))
      | exact ih0 _ _ _ _
      | exact ih1 _ _ _ _ _
      | exact ih2 _ _ _ _
      | exact ih3 _ _ _ _
      | exact LeO.none _
      | refine LeO.ite ?_ ?_
      | refine LeO.bind ?_ (fun _ => ?_)
set_option maxHeartbeats 8000000 in
set_option maxRecDepth 100000 in
theorem shift_Daa.calls (k : Nat) (a0 : Int) (a1 : Int) (r1 : Int) (r2 : Int) (w : World) (h : shift_Daa.f k a0 a1 = some (r1, r2)) :
    Calls Try.prog 54 #[.int .u8 a0, .int .u8 a1] w fun e w' => e = .returned (.tuple #[.int .u8 r1, .int .u8 r2]) ∧ Drawn0 w w' := by
  have H : (if (Go.bits .and .u8 a1 1) = 0 then (shift_Daa.j0 k a0 a1 0 (decide (a0 > 153))) else (shift_Daa.j0 k a0 a1 0 true)) = some (r1, r2) := h
  clear h
  have HC3 := Aside0.mk H
  clear H
  go_enter Try.func54, Try.ntmps54
  go_upto_region 1 with (fail)
  go_cut [6, 7] (fun v6 v7 wc => ∃ (kq : Nat) (x6_2 : Int) (x7_2 : Bool), v6 = .int .u8 x6_2 ∧ v7 = .bool x7_2 ∧ Aside0 (shift_Daa.j0 kq a0 a1 x6_2 x7_2 = some (r1, r2)) ∧ Aside0 (kq ≤ k) ∧ Drawn0 w wc)
  case first =>
    have H := HC3.out
    clear HC3
    by_cases c4 : (Go.bits .and .u8 a1 1) = 0
    · rw [if_pos c4] at H
      have c4b0 : ((Go.bits .and .u8 a1 1) == 0) = true := beq_iff_eq.mpr c4
      have c4b1 : ((Go.bits .and .u8 a1 1) != 0) = false := bne_eq_false_iff_eq.mpr c4
      clear c4
      (first | rw [c4b0] | (simp only [i64_w, i32_w]; rw [c4b0]) | skip)
      have H' := Aside0.mk H
      clear H
      go_wp2
      go_meet
      case rel => exact ⟨_, (0), (decide (a0 > 153)), (by first | rfl | (simp; done) | (simp [*]; done)), (by first | rfl | (simp; done) | (simp [*]; done)), H', ⟨by first | omega | exact Nat.le_refl _⟩, by repeat (first | exact Drawn0.refl _ | apply Drawn0.step)⟩
    · rw [if_neg c4] at H
      have c4b0 : ((Go.bits .and .u8 a1 1) == 0) = false := beq_eq_false_iff_ne.mpr c4
      have c4b1 : ((Go.bits .and .u8 a1 1) != 0) = true := bne_iff_ne.mpr c4
      (first | rw [c4b0] | (simp only [i64_w, i32_w]; rw [c4b0]) | skip)
      have H' := Aside0.mk H
      clear H
      go_wp2
      go_meet
      case rel => exact ⟨_, (0), (true), (by first | rfl | (simp; done) | (simp [*]; done)), (by first | rfl | (simp; done) | (simp [*]; done)), H', ⟨by first | omega | exact Nat.le_refl _⟩, by repeat (first | exact Drawn0.refl _ | apply Drawn0.step)⟩
  case rest =>
    clear HC3
    try clear p2
    try clear c4
    try clear c4b0
    try clear c4b1
    obtain ⟨kq, x6_2, x7_2, rfl, rfl, HA, HJ2, ⟨mc2, rfl⟩⟩ := hcut
    cases kq with
    | zero => exact absurd HA.out (by simp [shift_Daa.j0])
    | succ kj2 =>
      have H := HA.out
      clear HA
      simp only [shift_Daa.j0] at H
      have HC5 := Aside0.mk H
      clear H
      go_upto_region 2 with (fail)
      go_cut [23] (fun v23 wc => ∃ (kq : Nat) (x23_4 : Bool), v23 = .bool x23_4 ∧ Aside0 (shift_Daa.j1 kq a0 a1 x6_2 x7_2 x23_4 = some (r1, r2)) ∧ Aside0 (kq ≤ kj2) ∧ Drawn0 w wc)
      case first =>
        have H := HC5.out
        clear HC5
        by_cases c6 : (Go.bits .and .u8 a1 16) = 0
        · rw [if_pos c6] at H
          have c6b0 : ((Go.bits .and .u8 a1 16) == 0) = true := beq_iff_eq.mpr c6
          have c6b1 : ((Go.bits .and .u8 a1 16) != 0) = false := bne_eq_false_iff_eq.mpr c6
          clear c6
          (first | rw [c6b0] | (simp only [i64_w, i32_w]; rw [c6b0]) | skip)
          have H' := Aside0.mk H
          clear H
          go_wp2
          go_meet
          case rel => exact ⟨_, (decide ((Go.bits .and .u8 a0 15) > 9)), (by first | rfl | (simp; done) | (simp [*]; done)), H', ⟨by have := HJ2.out; first | omega | exact Nat.le_refl _⟩, by repeat (first | exact Drawn0.refl _ | apply Drawn0.step)⟩
        · rw [if_neg c6] at H
          have c6b0 : ((Go.bits .and .u8 a1 16) == 0) = false := beq_eq_false_iff_ne.mpr c6
          have c6b1 : ((Go.bits .and .u8 a1 16) != 0) = true := bne_iff_ne.mpr c6
          (first | rw [c6b0] | (simp only [i64_w, i32_w]; rw [c6b0]) | skip)
          have H' := Aside0.mk H
          clear H
          go_wp2
          go_meet
          case rel => exact ⟨_, (true), (by first | rfl | (simp; done) | (simp [*]; done)), H', ⟨by have := HJ2.out; first | omega | exact Nat.le_refl _⟩, by repeat (first | exact Drawn0.refl _ | apply Drawn0.step)⟩
      case rest =>
        clear HC5
        try clear c2
        try clear p2
        try clear c4
        try clear c4b0
        try clear c4b1
        try clear c5
        try clear c6
        try clear c6b0
        try clear c6b1
        try clear p2
        obtain ⟨kq, x23_4, rfl, HA, HJ4, ⟨mc4, rfl⟩⟩ := hcut
        cases kq with
        | zero => exact absurd HA.out (by simp [shift_Daa.j1])
        | succ kj4 =>
          have H := HA.out
          clear HA
          simp only [shift_Daa.j1] at H
          have HC7 := Aside0.mk H
          clear H
          go_upto_if 23 with (fail)
          go_cut [6] (fun v6 wc => ∃ (kq : Nat) (x6_6 : Int), v6 = .int .u8 x6_6 ∧ Aside0 (shift_Daa.j2 kq a0 a1 x6_6 x7_2 = some (r1, r2)) ∧ Aside0 (kq ≤ kj4) ∧ Drawn0 w wc)
          case first =>
            have H := HC7.out
            clear HC7
            by_cases c8 : x23_4 = true
            · subst c8
              have H1 : (shift_Daa.j2 kj4 a0 a1 6 x7_2) = some (r1, r2) := by rw [if_pos rfl] at H; exact H
              clear H
              have H := H1
              clear H1
              have H' := Aside0.mk H
              clear H
              go_wp2
              go_meet
              case rel => exact ⟨_, (6), (by first | rfl | (simp; done) | (simp [*]; done)), H', ⟨by have := HJ2.out; have := HJ4.out; first | omega | exact Nat.le_refl _⟩, by repeat (first | exact Drawn0.refl _ | apply Drawn0.step)⟩
            · replace c8 := Bool.eq_false_iff.mpr c8
              subst c8
              have H1 : (shift_Daa.j2 kj4 a0 a1 x6_2 x7_2) = some (r1, r2) := by rw [if_neg (show ¬ (false = true) by decide)] at H; exact H
              clear H
              have H := H1
              clear H1
              have H' := Aside0.mk H
              clear H
              go_wp2
              go_meet
              case rel => exact ⟨_, (x6_2), (by first | rfl | (simp; done) | (simp [*]; done)), H', ⟨by have := HJ2.out; have := HJ4.out; first | omega | exact Nat.le_refl _⟩, by repeat (first | exact Drawn0.refl _ | apply Drawn0.step)⟩
          case rest =>
            clear HC7
            try clear c2
            try clear p2
            try clear c4
            try clear c4b0
            try clear c4b1
            try clear c5
            try clear c6
            try clear c6b0
            try clear c6b1
            try clear c8
            try clear p2
            obtain ⟨kq, x6_6, rfl, HA, HJ6, ⟨mc6, rfl⟩⟩ := hcut
            cases kq with
            | zero => exact absurd HA.out (by simp [shift_Daa.j2])
            | succ kj6 =>
              have H := HA.out
              clear HA
              simp only [shift_Daa.j2] at H
              have HC9 := Aside0.mk H
              clear H
              go_upto_if 24 with (fail)
              go_cut [6] (fun v6 wc => ∃ (kq : Nat) (x6_8 : Int), v6 = .int .u8 x6_8 ∧ Aside0 (shift_Daa.j3 kq a0 a1 x6_8 x7_2 = some (r1, r2)) ∧ Aside0 (kq ≤ kj6) ∧ Drawn0 w wc)
              case first =>
                have H := HC9.out
                clear HC9
                by_cases c10 : x7_2 = true
                · subst c10
                  have H1 : (shift_Daa.j3 kj6 a0 a1 ((x6_6 + 96) % 256) true) = some (r1, r2) := by rw [if_pos rfl] at H; exact H
                  clear H
                  have H := H1
                  clear H1
                  have H' := Aside0.mk H
                  clear H
                  go_wp2
                  go_meet
                  case rel => exact ⟨_, ((x6_6 + 96) % 256), (by first | rfl | (simp; done) | (simp [*]; done)), H', ⟨by have := HJ2.out; have := HJ4.out; have := HJ6.out; first | omega | exact Nat.le_refl _⟩, by repeat (first | exact Drawn0.refl _ | apply Drawn0.step)⟩
                · replace c10 := Bool.eq_false_iff.mpr c10
                  subst c10
                  have H1 : (shift_Daa.j3 kj6 a0 a1 x6_6 false) = some (r1, r2) := by rw [if_neg (show ¬ (false = true) by decide)] at H; exact H
                  clear H
                  have H := H1
                  clear H1
                  have H' := Aside0.mk H
                  clear H
                  go_wp2
                  go_meet
                  case rel => exact ⟨_, (x6_6), (by first | rfl | (simp; done) | (simp [*]; done)), H', ⟨by have := HJ2.out; have := HJ4.out; have := HJ6.out; first | omega | exact Nat.le_refl _⟩, by repeat (first | exact Drawn0.refl _ | apply Drawn0.step)⟩
              case rest =>
                clear HC9
                try clear c1
                try clear c2
                try clear p2
                try clear c4
                try clear c4b0
                try clear c4b1
                try clear c5
                try clear c6
                try clear c6b0
                try clear c6b1
                try clear c8
                try clear c10
                try clear p2
                obtain ⟨kq, x6_8, rfl, HA, HJ8, ⟨mc8, rfl⟩⟩ := hcut
                cases kq with
                | zero => exact absurd HA.out (by simp [shift_Daa.j3])
                | succ kj8 =>
                  have H := HA.out
                  clear HA
                  simp only [shift_Daa.j3] at H
                  by_cases c11 : (Go.bits .and .u8 a1 2) = 0
                  · rw [if_pos c11] at H
                    have c11b0 : ((Go.bits .and .u8 a1 2) == 0) = true := beq_iff_eq.mpr c11
                    have c11b1 : ((Go.bits .and .u8 a1 2) != 0) = false := bne_eq_false_iff_eq.mpr c11
                    clear c11
                    replace H := Option.bind_eq_some_iff.mp H
                    obtain ⟨t108, A120, H⟩ := H
                    replace H : ((shift_if1.f x7_2 1).bind fun t109 => ((shift_if1.f (decide ((Go.bits .and .u8 a0 15) > 9)) 16).bind fun t110 => (some ((a0 + x6_8) % 256, Go.bits .or .u8 (Go.bits .or .u8 (Go.bits .or .u8 t108 (Go.bits .and .u8 a1 2)) t109) t110)))) = some (r1, r2) := H
                    have A12 := Aside0.mk A120
                    clear A120
                    replace H := Option.bind_eq_some_iff.mp H
                    obtain ⟨t109, A130, H⟩ := H
                    replace H : ((shift_if1.f (decide ((Go.bits .and .u8 a0 15) > 9)) 16).bind fun t110 => (some ((a0 + x6_8) % 256, Go.bits .or .u8 (Go.bits .or .u8 (Go.bits .or .u8 t108 (Go.bits .and .u8 a1 2)) t109) t110))) = some (r1, r2) := H
                    have A13 := Aside0.mk A130
                    clear A130
                    replace H := Option.bind_eq_some_iff.mp H
                    obtain ⟨t110, A140, H⟩ := H
                    replace H : (some ((a0 + x6_8) % 256, Go.bits .or .u8 (Go.bits .or .u8 (Go.bits .or .u8 t108 (Go.bits .and .u8 a1 2)) t109) t110)) = some (r1, r2) := H
                    have A14 := Aside0.mk A140
                    clear A140
                    simp only [Option.some.injEq, Prod.mk.injEq] at H
                    obtain ⟨rfl, rfl⟩ := H
                    go_wp2_with (first | ((with_reducible refine gate_callee (f := 96) rfl ?_); refine goesL_ (some 49) rfl rfl Try.func96 (by kernel_rfl) rfl #[.int .u8 ((a0 + x6_8) % 256)] rfl (by (try simp only [List.map_toArray, List.map_cons, List.map_nil]); first | done | rfl | (simp only [List.length_drop, List.length_take]; rfl)) ?_; (with_reducible refine (shift_whole.calls ((a0 + x6_8) % 256) t108 _ A12.out).mono ?_); rintro e w' ⟨rfl, ⟨nd, rfl⟩⟩; refine ⟨_, rfl, ?_⟩) | ((with_reducible refine gate_callee (f := 97) rfl ?_); refine goesL_ (some 54) rfl rfl Try.func97 (by kernel_rfl) rfl #[.bool x7_2, .int .u8 1] rfl (by (try simp only [List.map_toArray, List.map_cons, List.map_nil]); first | done | rfl | (simp only [List.length_drop, List.length_take]; rfl)) ?_; (with_reducible refine (shift_if1.calls x7_2 1 t109 _ A13.out).mono ?_); rintro e w' ⟨rfl, ⟨nd, rfl⟩⟩; refine ⟨_, rfl, ?_⟩) | ((with_reducible refine gate_callee (f := 97) rfl ?_); refine goesL_ (some 57) rfl rfl Try.func97 (by kernel_rfl) rfl #[.bool (decide ((Go.bits .and .u8 a0 15) > 9)), .int .u8 16] rfl (by (try simp only [List.map_toArray, List.map_cons, List.map_nil]); first | done | rfl | (simp only [List.length_drop, List.length_take]; rfl)) ?_; (with_reducible refine (shift_if1.calls (decide ((Go.bits .and .u8 a0 15) > 9)) 16 t110 _ A14.out).mono ?_); rintro e w' ⟨rfl, ⟨nd, rfl⟩⟩; refine ⟨_, rfl, ?_⟩))
                    go_ret2
                    exact ⟨by first | rfl | (simp; done) | (simp [*]; done), by repeat (first | exact Drawn0.refl _ | apply Drawn0.step)⟩
                  · rw [if_neg c11] at H
                    have c11b0 : ((Go.bits .and .u8 a1 2) == 0) = false := beq_eq_false_iff_ne.mpr c11
                    have c11b1 : ((Go.bits .and .u8 a1 2) != 0) = true := bne_iff_ne.mpr c11
                    by_cases c15 : (Go.bits .and .u8 a0 15) < 6
                    · rw [if_pos c15] at H
                      have c15b0 : decide ((Go.bits .and .u8 a0 15) < 6) = true := decide_eq_true c15
                      clear c15
                      replace H := Option.bind_eq_some_iff.mp H
                      obtain ⟨t111, A160, H⟩ := H
                      replace H : ((shift_if1.f x7_2 1).bind fun t112 => ((shift_if1.f ((Go.bits .and .u8 a1 16) != 0) 16).bind fun t113 => (some ((a0 - x6_8) % 256, Go.bits .or .u8 (Go.bits .or .u8 (Go.bits .or .u8 t111 (Go.bits .and .u8 a1 2)) t112) t113)))) = some (r1, r2) := H
                      have A16 := Aside0.mk A160
                      clear A160
                      replace H := Option.bind_eq_some_iff.mp H
                      obtain ⟨t112, A170, H⟩ := H
                      replace H : ((shift_if1.f ((Go.bits .and .u8 a1 16) != 0) 16).bind fun t113 => (some ((a0 - x6_8) % 256, Go.bits .or .u8 (Go.bits .or .u8 (Go.bits .or .u8 t111 (Go.bits .and .u8 a1 2)) t112) t113))) = some (r1, r2) := H
                      have A17 := Aside0.mk A170
                      clear A170
                      replace H := Option.bind_eq_some_iff.mp H
                      obtain ⟨t113, A180, H⟩ := H
                      replace H : (some ((a0 - x6_8) % 256, Go.bits .or .u8 (Go.bits .or .u8 (Go.bits .or .u8 t111 (Go.bits .and .u8 a1 2)) t112) t113)) = some (r1, r2) := H
                      have A18 := Aside0.mk A180
                      clear A180
                      simp only [Option.some.injEq, Prod.mk.injEq] at H
                      obtain ⟨rfl, rfl⟩ := H
                      go_wp2_with (first | ((with_reducible refine gate_callee (f := 96) rfl ?_); refine goesL_ (some 49) rfl rfl Try.func96 (by kernel_rfl) rfl #[.int .u8 ((a0 - x6_8) % 256)] rfl (by (try simp only [List.map_toArray, List.map_cons, List.map_nil]); first | done | rfl | (simp only [List.length_drop, List.length_take]; rfl)) ?_; (with_reducible refine (shift_whole.calls ((a0 - x6_8) % 256) t111 _ A16.out).mono ?_); rintro e w' ⟨rfl, ⟨nd, rfl⟩⟩; refine ⟨_, rfl, ?_⟩) | ((with_reducible refine gate_callee (f := 97) rfl ?_); refine goesL_ (some 54) rfl rfl Try.func97 (by kernel_rfl) rfl #[.bool x7_2, .int .u8 1] rfl (by (try simp only [List.map_toArray, List.map_cons, List.map_nil]); first | done | rfl | (simp only [List.length_drop, List.length_take]; rfl)) ?_; (with_reducible refine (shift_if1.calls x7_2 1 t112 _ A17.out).mono ?_); rintro e w' ⟨rfl, ⟨nd, rfl⟩⟩; refine ⟨_, rfl, ?_⟩) | ((with_reducible refine gate_callee (f := 97) rfl ?_); refine goesL_ (some 57) rfl rfl Try.func97 (by kernel_rfl) rfl #[.bool ((Go.bits .and .u8 a1 16) != 0), .int .u8 16] rfl (by (try simp only [List.map_toArray, List.map_cons, List.map_nil]); first | done | rfl | (simp only [List.length_drop, List.length_take]; rfl)) ?_; (with_reducible refine (shift_if1.calls ((Go.bits .and .u8 a1 16) != 0) 16 t113 _ A18.out).mono ?_); rintro e w' ⟨rfl, ⟨nd, rfl⟩⟩; refine ⟨_, rfl, ?_⟩))
                      go_ret2
                      exact ⟨by first | rfl | (simp; done) | (simp [*]; done), by repeat (first | exact Drawn0.refl _ | apply Drawn0.step)⟩
                    · rw [if_neg c15] at H
                      have c15b0 : decide ((Go.bits .and .u8 a0 15) < 6) = false := decide_eq_false c15
                      clear c15
                      replace H := Option.bind_eq_some_iff.mp H
                      obtain ⟨t114, A190, H⟩ := H
                      replace H : ((shift_if1.f x7_2 1).bind fun t115 => ((shift_if1.f false 16).bind fun t116 => (some ((a0 - x6_8) % 256, Go.bits .or .u8 (Go.bits .or .u8 (Go.bits .or .u8 t114 (Go.bits .and .u8 a1 2)) t115) t116)))) = some (r1, r2) := H
                      have A19 := Aside0.mk A190
                      clear A190
                      replace H := Option.bind_eq_some_iff.mp H
                      obtain ⟨t115, A200, H⟩ := H
                      replace H : ((shift_if1.f false 16).bind fun t116 => (some ((a0 - x6_8) % 256, Go.bits .or .u8 (Go.bits .or .u8 (Go.bits .or .u8 t114 (Go.bits .and .u8 a1 2)) t115) t116))) = some (r1, r2) := H
                      have A20 := Aside0.mk A200
                      clear A200
                      replace H := Option.bind_eq_some_iff.mp H
                      obtain ⟨t116, A210, H⟩ := H
                      replace H : (some ((a0 - x6_8) % 256, Go.bits .or .u8 (Go.bits .or .u8 (Go.bits .or .u8 t114 (Go.bits .and .u8 a1 2)) t115) t116)) = some (r1, r2) := H
                      have A21 := Aside0.mk A210
                      clear A210
                      simp only [Option.some.injEq, Prod.mk.injEq] at H
                      obtain ⟨rfl, rfl⟩ := H
                      go_wp2_with (first | ((with_reducible refine gate_callee (f := 96) rfl ?_); refine goesL_ (some 49) rfl rfl Try.func96 (by kernel_rfl) rfl #[.int .u8 ((a0 - x6_8) % 256)] rfl (by (try simp only [List.map_toArray, List.map_cons, List.map_nil]); first | done | rfl | (simp only [List.length_drop, List.length_take]; rfl)) ?_; (with_reducible refine (shift_whole.calls ((a0 - x6_8) % 256) t114 _ A19.out).mono ?_); rintro e w' ⟨rfl, ⟨nd, rfl⟩⟩; refine ⟨_, rfl, ?_⟩) | ((with_reducible refine gate_callee (f := 97) rfl ?_); refine goesL_ (some 54) rfl rfl Try.func97 (by kernel_rfl) rfl #[.bool x7_2, .int .u8 1] rfl (by (try simp only [List.map_toArray, List.map_cons, List.map_nil]); first | done | rfl | (simp only [List.length_drop, List.length_take]; rfl)) ?_; (with_reducible refine (shift_if1.calls x7_2 1 t115 _ A20.out).mono ?_); rintro e w' ⟨rfl, ⟨nd, rfl⟩⟩; refine ⟨_, rfl, ?_⟩) | ((with_reducible refine gate_callee (f := 97) rfl ?_); refine goesL_ (some 57) rfl rfl Try.func97 (by kernel_rfl) rfl #[.bool false, .int .u8 16] rfl (by (try simp only [List.map_toArray, List.map_cons, List.map_nil]); first | done | rfl | (simp only [List.length_drop, List.length_take]; rfl)) ?_; (with_reducible refine (shift_if1.calls false 16 t116 _ A21.out).mono ?_); rintro e w' ⟨rfl, ⟨nd, rfl⟩⟩; refine ⟨_, rfl, ?_⟩))
                      go_ret2
                      exact ⟨by first | rfl | (simp; done) | (simp [*]; done), by repeat (first | exact Drawn0.refl _ | apply Drawn0.step)⟩

/-! ### shift_Rld: function 76 -/
def shift_Rld.f (a0 : Int) (a1 : Int) (a2 : Int) : Option (Int × Int × Int) := (shift_whole.f (Go.bits .or .u8 (Go.bits .and .u8 a0 240) (a1 / 16))).bind fun t117 => (some (Go.bits .or .u8 (Go.bits .and .u8 a0 240) (a1 / 16), Go.bits .or .u8 ((a1 * 16) % 256) (Go.bits .and .u8 a0 15), Go.bits .or .u8 t117 (Go.bits .and .u8 a2 1)))
set_option maxHeartbeats 8000000 in
set_option maxRecDepth 100000 in
theorem shift_Rld.calls (a0 : Int) (a1 : Int) (a2 : Int) (r1 : Int) (r2 : Int) (r3 : Int) (w : World) (h : shift_Rld.f a0 a1 a2 = some (r1, r2, r3)) :
    Calls Try.prog 76 #[.int .u8 a0, .int .u8 a1, .int .u8 a2] w fun e w' => e = .returned (.tuple #[.int .u8 r1, .int .u8 r2, .int .u8 r3]) ∧ Drawn0 w w' := by
  have H : ((shift_whole.f (Go.bits .or .u8 (Go.bits .and .u8 a0 240) (a1 / 16))).bind fun t117 => (some (Go.bits .or .u8 (Go.bits .and .u8 a0 240) (a1 / 16), Go.bits .or .u8 ((a1 * 16) % 256) (Go.bits .and .u8 a0 15), Go.bits .or .u8 t117 (Go.bits .and .u8 a2 1)))) = some (r1, r2, r3) := h
  clear h
  replace H := Option.bind_eq_some_iff.mp H
  obtain ⟨t117, A40, H⟩ := H
  replace H : (some (Go.bits .or .u8 (Go.bits .and .u8 a0 240) (a1 / 16), Go.bits .or .u8 ((a1 * 16) % 256) (Go.bits .and .u8 a0 15), Go.bits .or .u8 t117 (Go.bits .and .u8 a2 1))) = some (r1, r2, r3) := H
  have A4 := Aside0.mk A40
  clear A40
  simp only [Option.some.injEq, Prod.mk.injEq] at H
  obtain ⟨rfl, rfl, rfl⟩ := H
  go_enter Try.func76, Try.ntmps76
  go_wp2_with (first | ((with_reducible refine gate_callee (f := 96) rfl ?_); refine goesL_ (some 22) rfl rfl Try.func96 (by kernel_rfl) rfl #[.int .u8 (Go.bits .or .u8 (Go.bits .and .u8 a0 240) (a1 / 16))] rfl (by (try simp only [List.map_toArray, List.map_cons, List.map_nil]); first | done | rfl | (simp only [List.length_drop, List.length_take]; rfl)) ?_; (with_reducible refine (shift_whole.calls (Go.bits .or .u8 (Go.bits .and .u8 a0 240) (a1 / 16)) t117 _ A4.out).mono ?_); rintro e w' ⟨rfl, ⟨nd, rfl⟩⟩; refine ⟨_, rfl, ?_⟩))
  go_ret3
  exact ⟨by first | rfl | (simp; done) | (simp [*]; done), by repeat (first | exact Drawn0.refl _ | apply Drawn0.step)⟩

/-! ### pendulumlaw06_lives: function 51 -/
def pendulumlaw06_lives.f (k : Nat)  : Option (Bool) := (shift_Shift.f k 0 129 0).bind fun bt118 => ((shift_Daa.f k 154 0).bind fun bt120 => ((shift_Rld.f 18 52 0).bind fun bt122 => (if bt118.1 = 3 then (if bt118.2 = 5 then (if bt120.1 = 0 then (if bt120.2 = 85 then (if bt122.1 = 19 then (if bt122.2.1 = 66 then (some (bt122.2.2 == 0)) else (some false)) else (some false)) else (some false)) else (some false)) else (some false)) else (some false))))
theorem pendulumlaw06_lives.mono : ∀ k, LeO (pendulumlaw06_lives.f k ) (pendulumlaw06_lives.f (k + 1) ) := by
  intro  k
  unfold pendulumlaw06_lives.f
  repeat' first
      | (with_reducible exact shift_Daa.mono _ _ _)
      | (with_reducible exact shift_Shift.mono _ _ _ _)
      | (with_reducible exact LeO.refl _)
      | (with_reducible exact LeO.none _)
      | (with_reducible refine LeO.ite ?_ ?_)
      | (with_reducible refine LeO.bind ?_ (fun _ => ?_))
      | exact shift_Daa.mono _ _ _
      | exact shift_Shift.mono _ _ _ _
      | exact LeO.none _
      | refine LeO.ite ?_ ?_
      | refine LeO.bind ?_ (fun _ => ?_)
set_option maxHeartbeats 8000000 in
set_option maxRecDepth 100000 in
theorem pendulumlaw06_lives.calls (k : Nat)  (r : Bool) (w : World) (h : pendulumlaw06_lives.f k  = some r) :
    Calls Try.prog 51 #[] w fun e w' => e = .returned (.bool r) ∧ Drawn0 w w' := by
  have H : ((shift_Shift.f k 0 129 0).bind fun bt118 => ((shift_Daa.f k 154 0).bind fun bt120 => ((shift_Rld.f 18 52 0).bind fun bt122 => (if bt118.1 = 3 then (if bt118.2 = 5 then (if bt120.1 = 0 then (if bt120.2 = 85 then (if bt122.1 = 19 then (if bt122.2.1 = 66 then (some (bt122.2.2 == 0)) else (some false)) else (some false)) else (some false)) else (some false)) else (some false)) else (some false))))) = some r := h
  clear h
  replace H := Option.bind_eq_some_iff.mp H
  obtain ⟨⟨t118, t119⟩, A10, H⟩ := H
  replace H : ((shift_Daa.f k 154 0).bind fun bt120 => ((shift_Rld.f 18 52 0).bind fun bt122 => (if t118 = 3 then (if t119 = 5 then (if bt120.1 = 0 then (if bt120.2 = 85 then (if bt122.1 = 19 then (if bt122.2.1 = 66 then (some (bt122.2.2 == 0)) else (some false)) else (some false)) else (some false)) else (some false)) else (some false)) else (some false)))) = some r := H
  have A1 := Aside0.mk A10
  clear A10
  replace H := Option.bind_eq_some_iff.mp H
  obtain ⟨⟨t120, t121⟩, A20, H⟩ := H
  replace H : ((shift_Rld.f 18 52 0).bind fun bt122 => (if t118 = 3 then (if t119 = 5 then (if t120 = 0 then (if t121 = 85 then (if bt122.1 = 19 then (if bt122.2.1 = 66 then (some (bt122.2.2 == 0)) else (some false)) else (some false)) else (some false)) else (some false)) else (some false)) else (some false))) = some r := H
  have A2 := Aside0.mk A20
  clear A20
  replace H := Option.bind_eq_some_iff.mp H
  obtain ⟨⟨t122, t123, t124⟩, A30, H⟩ := H
  replace H : (if t118 = 3 then (if t119 = 5 then (if t120 = 0 then (if t121 = 85 then (if t122 = 19 then (if t123 = 66 then (some (t124 == 0)) else (some false)) else (some false)) else (some false)) else (some false)) else (some false)) else (some false)) = some r := H
  have A3 := Aside0.mk A30
  clear A30
  by_cases c4 : t118 = 3
  · rw [if_pos c4] at H
    have c4b0 : (t118 == 3) = true := beq_iff_eq.mpr c4
    have c4b1 : (t118 != 3) = false := bne_eq_false_iff_eq.mpr c4
    clear c4
    by_cases c5 : t119 = 5
    · rw [if_pos c5] at H
      have c5b0 : (t119 == 5) = true := beq_iff_eq.mpr c5
      have c5b1 : (t119 != 5) = false := bne_eq_false_iff_eq.mpr c5
      clear c5
      by_cases c6 : t120 = 0
      · rw [if_pos c6] at H
        have c6b0 : (t120 == 0) = true := beq_iff_eq.mpr c6
        have c6b1 : (t120 != 0) = false := bne_eq_false_iff_eq.mpr c6
        clear c6
        by_cases c7 : t121 = 85
        · rw [if_pos c7] at H
          have c7b0 : (t121 == 85) = true := beq_iff_eq.mpr c7
          have c7b1 : (t121 != 85) = false := bne_eq_false_iff_eq.mpr c7
          clear c7
          by_cases c8 : t122 = 19
          · rw [if_pos c8] at H
            have c8b0 : (t122 == 19) = true := beq_iff_eq.mpr c8
            have c8b1 : (t122 != 19) = false := bne_eq_false_iff_eq.mpr c8
            clear c8
            by_cases c9 : t123 = 66
            · rw [if_pos c9] at H
              have c9b0 : (t123 == 66) = true := beq_iff_eq.mpr c9
              have c9b1 : (t123 != 66) = false := bne_eq_false_iff_eq.mpr c9
              clear c9
              obtain rfl := Option.some.inj H
              go_enter Try.func51, Try.ntmps51
              go_wp2_with (first | ((with_reducible refine gate_callee (f := 52) rfl ?_); refine goesL_ (some 9) rfl rfl Try.func52 (by kernel_rfl) rfl #[.int .i64 0, .int .u8 129, .int .u8 0] rfl (by (try simp only [List.map_toArray, List.map_cons, List.map_nil]); first | done | rfl | (simp only [List.length_drop, List.length_take]; rfl)) ?_; (with_reducible refine (shift_Shift.calls k 0 129 0 t118 t119 _ A1.out).mono ?_); rintro e w' ⟨rfl, ⟨nd, rfl⟩⟩; refine ⟨_, rfl, ?_⟩) | ((with_reducible refine gate_callee (f := 54) rfl ?_); refine goesL_ (some 13) rfl rfl Try.func54 (by kernel_rfl) rfl #[.int .u8 154, .int .u8 0] rfl (by (try simp only [List.map_toArray, List.map_cons, List.map_nil]); first | done | rfl | (simp only [List.length_drop, List.length_take]; rfl)) ?_; (with_reducible refine (shift_Daa.calls k 154 0 t120 t121 _ A2.out).mono ?_); rintro e w' ⟨rfl, ⟨nd, rfl⟩⟩; refine ⟨_, rfl, ?_⟩) | ((with_reducible refine gate_callee (f := 76) rfl ?_); refine goesL_ (some 17) rfl rfl Try.func76 (by kernel_rfl) rfl #[.int .u8 18, .int .u8 52, .int .u8 0] rfl (by (try simp only [List.map_toArray, List.map_cons, List.map_nil]); first | done | rfl | (simp only [List.length_drop, List.length_take]; rfl)) ?_; (with_reducible refine (shift_Rld.calls 18 52 0 t122 t123 t124 _ A3.out).mono ?_); rintro e w' ⟨rfl, ⟨nd, rfl⟩⟩; refine ⟨_, rfl, ?_⟩))
              go_ret
              exact ⟨by first | rfl | (simp; done) | (simp [*]; done), by repeat (first | exact Drawn0.refl _ | apply Drawn0.step)⟩
            · rw [if_neg c9] at H
              have c9b0 : (t123 == 66) = false := beq_eq_false_iff_ne.mpr c9
              have c9b1 : (t123 != 66) = true := bne_iff_ne.mpr c9
              obtain rfl := Option.some.inj H
              go_enter Try.func51, Try.ntmps51
              go_wp2_with (first | ((with_reducible refine gate_callee (f := 52) rfl ?_); refine goesL_ (some 9) rfl rfl Try.func52 (by kernel_rfl) rfl #[.int .i64 0, .int .u8 129, .int .u8 0] rfl (by (try simp only [List.map_toArray, List.map_cons, List.map_nil]); first | done | rfl | (simp only [List.length_drop, List.length_take]; rfl)) ?_; (with_reducible refine (shift_Shift.calls k 0 129 0 t118 t119 _ A1.out).mono ?_); rintro e w' ⟨rfl, ⟨nd, rfl⟩⟩; refine ⟨_, rfl, ?_⟩) | ((with_reducible refine gate_callee (f := 54) rfl ?_); refine goesL_ (some 13) rfl rfl Try.func54 (by kernel_rfl) rfl #[.int .u8 154, .int .u8 0] rfl (by (try simp only [List.map_toArray, List.map_cons, List.map_nil]); first | done | rfl | (simp only [List.length_drop, List.length_take]; rfl)) ?_; (with_reducible refine (shift_Daa.calls k 154 0 t120 t121 _ A2.out).mono ?_); rintro e w' ⟨rfl, ⟨nd, rfl⟩⟩; refine ⟨_, rfl, ?_⟩) | ((with_reducible refine gate_callee (f := 76) rfl ?_); refine goesL_ (some 17) rfl rfl Try.func76 (by kernel_rfl) rfl #[.int .u8 18, .int .u8 52, .int .u8 0] rfl (by (try simp only [List.map_toArray, List.map_cons, List.map_nil]); first | done | rfl | (simp only [List.length_drop, List.length_take]; rfl)) ?_; (with_reducible refine (shift_Rld.calls 18 52 0 t122 t123 t124 _ A3.out).mono ?_); rintro e w' ⟨rfl, ⟨nd, rfl⟩⟩; refine ⟨_, rfl, ?_⟩))
              go_ret
              exact ⟨by first | rfl | (simp; done) | (simp [*]; done), by repeat (first | exact Drawn0.refl _ | apply Drawn0.step)⟩
          · rw [if_neg c8] at H
            have c8b0 : (t122 == 19) = false := beq_eq_false_iff_ne.mpr c8
            have c8b1 : (t122 != 19) = true := bne_iff_ne.mpr c8
            obtain rfl := Option.some.inj H
            go_enter Try.func51, Try.ntmps51
            go_wp2_with (first | ((with_reducible refine gate_callee (f := 52) rfl ?_); refine goesL_ (some 9) rfl rfl Try.func52 (by kernel_rfl) rfl #[.int .i64 0, .int .u8 129, .int .u8 0] rfl (by (try simp only [List.map_toArray, List.map_cons, List.map_nil]); first | done | rfl | (simp only [List.length_drop, List.length_take]; rfl)) ?_; (with_reducible refine (shift_Shift.calls k 0 129 0 t118 t119 _ A1.out).mono ?_); rintro e w' ⟨rfl, ⟨nd, rfl⟩⟩; refine ⟨_, rfl, ?_⟩) | ((with_reducible refine gate_callee (f := 54) rfl ?_); refine goesL_ (some 13) rfl rfl Try.func54 (by kernel_rfl) rfl #[.int .u8 154, .int .u8 0] rfl (by (try simp only [List.map_toArray, List.map_cons, List.map_nil]); first | done | rfl | (simp only [List.length_drop, List.length_take]; rfl)) ?_; (with_reducible refine (shift_Daa.calls k 154 0 t120 t121 _ A2.out).mono ?_); rintro e w' ⟨rfl, ⟨nd, rfl⟩⟩; refine ⟨_, rfl, ?_⟩) | ((with_reducible refine gate_callee (f := 76) rfl ?_); refine goesL_ (some 17) rfl rfl Try.func76 (by kernel_rfl) rfl #[.int .u8 18, .int .u8 52, .int .u8 0] rfl (by (try simp only [List.map_toArray, List.map_cons, List.map_nil]); first | done | rfl | (simp only [List.length_drop, List.length_take]; rfl)) ?_; (with_reducible refine (shift_Rld.calls 18 52 0 t122 t123 t124 _ A3.out).mono ?_); rintro e w' ⟨rfl, ⟨nd, rfl⟩⟩; refine ⟨_, rfl, ?_⟩))
            go_ret
            exact ⟨by first | rfl | (simp; done) | (simp [*]; done), by repeat (first | exact Drawn0.refl _ | apply Drawn0.step)⟩
        · rw [if_neg c7] at H
          have c7b0 : (t121 == 85) = false := beq_eq_false_iff_ne.mpr c7
          have c7b1 : (t121 != 85) = true := bne_iff_ne.mpr c7
          obtain rfl := Option.some.inj H
          go_enter Try.func51, Try.ntmps51
          go_wp2_with (first | ((with_reducible refine gate_callee (f := 52) rfl ?_); refine goesL_ (some 9) rfl rfl Try.func52 (by kernel_rfl) rfl #[.int .i64 0, .int .u8 129, .int .u8 0] rfl (by (try simp only [List.map_toArray, List.map_cons, List.map_nil]); first | done | rfl | (simp only [List.length_drop, List.length_take]; rfl)) ?_; (with_reducible refine (shift_Shift.calls k 0 129 0 t118 t119 _ A1.out).mono ?_); rintro e w' ⟨rfl, ⟨nd, rfl⟩⟩; refine ⟨_, rfl, ?_⟩) | ((with_reducible refine gate_callee (f := 54) rfl ?_); refine goesL_ (some 13) rfl rfl Try.func54 (by kernel_rfl) rfl #[.int .u8 154, .int .u8 0] rfl (by (try simp only [List.map_toArray, List.map_cons, List.map_nil]); first | done | rfl | (simp only [List.length_drop, List.length_take]; rfl)) ?_; (with_reducible refine (shift_Daa.calls k 154 0 t120 t121 _ A2.out).mono ?_); rintro e w' ⟨rfl, ⟨nd, rfl⟩⟩; refine ⟨_, rfl, ?_⟩) | ((with_reducible refine gate_callee (f := 76) rfl ?_); refine goesL_ (some 17) rfl rfl Try.func76 (by kernel_rfl) rfl #[.int .u8 18, .int .u8 52, .int .u8 0] rfl (by (try simp only [List.map_toArray, List.map_cons, List.map_nil]); first | done | rfl | (simp only [List.length_drop, List.length_take]; rfl)) ?_; (with_reducible refine (shift_Rld.calls 18 52 0 t122 t123 t124 _ A3.out).mono ?_); rintro e w' ⟨rfl, ⟨nd, rfl⟩⟩; refine ⟨_, rfl, ?_⟩))
          go_ret
          exact ⟨by first | rfl | (simp; done) | (simp [*]; done), by repeat (first | exact Drawn0.refl _ | apply Drawn0.step)⟩
      · rw [if_neg c6] at H
        have c6b0 : (t120 == 0) = false := beq_eq_false_iff_ne.mpr c6
        have c6b1 : (t120 != 0) = true := bne_iff_ne.mpr c6
        obtain rfl := Option.some.inj H
        go_enter Try.func51, Try.ntmps51
        go_wp2_with (first | ((with_reducible refine gate_callee (f := 52) rfl ?_); refine goesL_ (some 9) rfl rfl Try.func52 (by kernel_rfl) rfl #[.int .i64 0, .int .u8 129, .int .u8 0] rfl (by (try simp only [List.map_toArray, List.map_cons, List.map_nil]); first | done | rfl | (simp only [List.length_drop, List.length_take]; rfl)) ?_; (with_reducible refine (shift_Shift.calls k 0 129 0 t118 t119 _ A1.out).mono ?_); rintro e w' ⟨rfl, ⟨nd, rfl⟩⟩; refine ⟨_, rfl, ?_⟩) | ((with_reducible refine gate_callee (f := 54) rfl ?_); refine goesL_ (some 13) rfl rfl Try.func54 (by kernel_rfl) rfl #[.int .u8 154, .int .u8 0] rfl (by (try simp only [List.map_toArray, List.map_cons, List.map_nil]); first | done | rfl | (simp only [List.length_drop, List.length_take]; rfl)) ?_; (with_reducible refine (shift_Daa.calls k 154 0 t120 t121 _ A2.out).mono ?_); rintro e w' ⟨rfl, ⟨nd, rfl⟩⟩; refine ⟨_, rfl, ?_⟩) | ((with_reducible refine gate_callee (f := 76) rfl ?_); refine goesL_ (some 17) rfl rfl Try.func76 (by kernel_rfl) rfl #[.int .u8 18, .int .u8 52, .int .u8 0] rfl (by (try simp only [List.map_toArray, List.map_cons, List.map_nil]); first | done | rfl | (simp only [List.length_drop, List.length_take]; rfl)) ?_; (with_reducible refine (shift_Rld.calls 18 52 0 t122 t123 t124 _ A3.out).mono ?_); rintro e w' ⟨rfl, ⟨nd, rfl⟩⟩; refine ⟨_, rfl, ?_⟩))
        go_ret
        exact ⟨by first | rfl | (simp; done) | (simp [*]; done), by repeat (first | exact Drawn0.refl _ | apply Drawn0.step)⟩
    · rw [if_neg c5] at H
      have c5b0 : (t119 == 5) = false := beq_eq_false_iff_ne.mpr c5
      have c5b1 : (t119 != 5) = true := bne_iff_ne.mpr c5
      obtain rfl := Option.some.inj H
      go_enter Try.func51, Try.ntmps51
      go_wp2_with (first | ((with_reducible refine gate_callee (f := 52) rfl ?_); refine goesL_ (some 9) rfl rfl Try.func52 (by kernel_rfl) rfl #[.int .i64 0, .int .u8 129, .int .u8 0] rfl (by (try simp only [List.map_toArray, List.map_cons, List.map_nil]); first | done | rfl | (simp only [List.length_drop, List.length_take]; rfl)) ?_; (with_reducible refine (shift_Shift.calls k 0 129 0 t118 t119 _ A1.out).mono ?_); rintro e w' ⟨rfl, ⟨nd, rfl⟩⟩; refine ⟨_, rfl, ?_⟩) | ((with_reducible refine gate_callee (f := 54) rfl ?_); refine goesL_ (some 13) rfl rfl Try.func54 (by kernel_rfl) rfl #[.int .u8 154, .int .u8 0] rfl (by (try simp only [List.map_toArray, List.map_cons, List.map_nil]); first | done | rfl | (simp only [List.length_drop, List.length_take]; rfl)) ?_; (with_reducible refine (shift_Daa.calls k 154 0 t120 t121 _ A2.out).mono ?_); rintro e w' ⟨rfl, ⟨nd, rfl⟩⟩; refine ⟨_, rfl, ?_⟩) | ((with_reducible refine gate_callee (f := 76) rfl ?_); refine goesL_ (some 17) rfl rfl Try.func76 (by kernel_rfl) rfl #[.int .u8 18, .int .u8 52, .int .u8 0] rfl (by (try simp only [List.map_toArray, List.map_cons, List.map_nil]); first | done | rfl | (simp only [List.length_drop, List.length_take]; rfl)) ?_; (with_reducible refine (shift_Rld.calls 18 52 0 t122 t123 t124 _ A3.out).mono ?_); rintro e w' ⟨rfl, ⟨nd, rfl⟩⟩; refine ⟨_, rfl, ?_⟩))
      go_ret
      exact ⟨by first | rfl | (simp; done) | (simp [*]; done), by repeat (first | exact Drawn0.refl _ | apply Drawn0.step)⟩
  · rw [if_neg c4] at H
    have c4b0 : (t118 == 3) = false := beq_eq_false_iff_ne.mpr c4
    have c4b1 : (t118 != 3) = true := bne_iff_ne.mpr c4
    obtain rfl := Option.some.inj H
    go_enter Try.func51, Try.ntmps51
    go_wp2_with (first | ((with_reducible refine gate_callee (f := 52) rfl ?_); refine goesL_ (some 9) rfl rfl Try.func52 (by kernel_rfl) rfl #[.int .i64 0, .int .u8 129, .int .u8 0] rfl (by (try simp only [List.map_toArray, List.map_cons, List.map_nil]); first | done | rfl | (simp only [List.length_drop, List.length_take]; rfl)) ?_; (with_reducible refine (shift_Shift.calls k 0 129 0 t118 t119 _ A1.out).mono ?_); rintro e w' ⟨rfl, ⟨nd, rfl⟩⟩; refine ⟨_, rfl, ?_⟩) | ((with_reducible refine gate_callee (f := 54) rfl ?_); refine goesL_ (some 13) rfl rfl Try.func54 (by kernel_rfl) rfl #[.int .u8 154, .int .u8 0] rfl (by (try simp only [List.map_toArray, List.map_cons, List.map_nil]); first | done | rfl | (simp only [List.length_drop, List.length_take]; rfl)) ?_; (with_reducible refine (shift_Daa.calls k 154 0 t120 t121 _ A2.out).mono ?_); rintro e w' ⟨rfl, ⟨nd, rfl⟩⟩; refine ⟨_, rfl, ?_⟩) | ((with_reducible refine gate_callee (f := 76) rfl ?_); refine goesL_ (some 17) rfl rfl Try.func76 (by kernel_rfl) rfl #[.int .u8 18, .int .u8 52, .int .u8 0] rfl (by (try simp only [List.map_toArray, List.map_cons, List.map_nil]); first | done | rfl | (simp only [List.length_drop, List.length_take]; rfl)) ?_; (with_reducible refine (shift_Rld.calls 18 52 0 t122 t123 t124 _ A3.out).mono ?_); rintro e w' ⟨rfl, ⟨nd, rfl⟩⟩; refine ⟨_, rfl, ?_⟩))
    go_ret
    exact ⟨by first | rfl | (simp; done) | (simp [*]; done), by repeat (first | exact Drawn0.refl _ | apply Drawn0.step)⟩

/-! ### shift_Bit: function 60 -/
def shift_Bit.f (a0 : Int) (a1 : Int) (a2 : Int) (a3 : Int) : Option (Int) := if 0 ≤ (IntKind.u64.wrap (Go.bits .and .i64 a0 7)) then ((shift_if1.f (!((Go.bits .and .u8 (shr .u8 a1 (IntKind.u64.wrap (Go.bits .and .i64 a0 7))) 1) == 1)) 68).bind fun t125 => (if (Go.bits .and .u8 (shr .u8 a1 (IntKind.u64.wrap (Go.bits .and .i64 a0 7))) 1) = 1 then ((shift_if1.f ((Go.bits .and .i64 a0 7) == 7) 128).bind fun t126 => (some (Go.bits .or .u8 (Go.bits .or .u8 (Go.bits .or .u8 (Go.bits .or .u8 t125 t126) 16) (Go.bits .and .u8 a2 40)) (Go.bits .and .u8 a3 1)))) else ((shift_if1.f false 128).bind fun t127 => (some (Go.bits .or .u8 (Go.bits .or .u8 (Go.bits .or .u8 (Go.bits .or .u8 t125 t127) 16) (Go.bits .and .u8 a2 40)) (Go.bits .and .u8 a3 1)))))) else (none)
set_option maxHeartbeats 8000000 in
set_option maxRecDepth 100000 in
theorem shift_Bit.calls (a0 : Int) (a1 : Int) (a2 : Int) (a3 : Int) (r : Int) (w : World) (h : shift_Bit.f a0 a1 a2 a3 = some r) :
    Calls Try.prog 60 #[.int .i64 a0, .int .u8 a1, .int .u8 a2, .int .u8 a3] w fun e w' => e = .returned (.int .u8 r) ∧ Drawn0 w w' := by
  have H : (if 0 ≤ (IntKind.u64.wrap (Go.bits .and .i64 a0 7)) then ((shift_if1.f (!((Go.bits .and .u8 (shr .u8 a1 (IntKind.u64.wrap (Go.bits .and .i64 a0 7))) 1) == 1)) 68).bind fun t125 => (if (Go.bits .and .u8 (shr .u8 a1 (IntKind.u64.wrap (Go.bits .and .i64 a0 7))) 1) = 1 then ((shift_if1.f ((Go.bits .and .i64 a0 7) == 7) 128).bind fun t126 => (some (Go.bits .or .u8 (Go.bits .or .u8 (Go.bits .or .u8 (Go.bits .or .u8 t125 t126) 16) (Go.bits .and .u8 a2 40)) (Go.bits .and .u8 a3 1)))) else ((shift_if1.f false 128).bind fun t127 => (some (Go.bits .or .u8 (Go.bits .or .u8 (Go.bits .or .u8 (Go.bits .or .u8 t125 t127) 16) (Go.bits .and .u8 a2 40)) (Go.bits .and .u8 a3 1)))))) else (none)) = some r := h
  clear h
  obtain ⟨ji5, hji5⟩ : ∃ j_ : Int, (IntKind.u64.wrap (Go.bits .and .i64 a0 7)) = j_ := ⟨_, rfl⟩
  replace H : (if 0 ≤ (ji5) then ((shift_if1.f (!((Go.bits .and .u8 (shr .u8 a1 (ji5)) 1) == 1)) 68).bind fun t125 => (if (Go.bits .and .u8 (shr .u8 a1 (ji5)) 1) = 1 then ((shift_if1.f ((Go.bits .and .i64 a0 7) == 7) 128).bind fun t126 => (some (Go.bits .or .u8 (Go.bits .or .u8 (Go.bits .or .u8 (Go.bits .or .u8 t125 t126) 16) (Go.bits .and .u8 a2 40)) (Go.bits .and .u8 a3 1)))) else ((shift_if1.f false 128).bind fun t127 => (some (Go.bits .or .u8 (Go.bits .or .u8 (Go.bits .or .u8 (Go.bits .or .u8 t125 t127) 16) (Go.bits .and .u8 a2 40)) (Go.bits .and .u8 a3 1)))))) else (none)) = some r := by first | (rw [hji5] at H; exact H) | (simp only [hji5] at H ⊢; exact H)
  by_cases c6 : 0 ≤ (ji5)
  · rw [if_pos c6] at H
    have c6b0 := eq_true c6
    have c6b1 : decide (0 ≤ (ji5)) = true := decide_eq_true c6
    clear c6
    obtain ⟨ji7, hji7⟩ : ∃ j_ : Int, (shr .u8 a1 (ji5)) = j_ := ⟨_, rfl⟩
    replace H : ((shift_if1.f (!((Go.bits .and .u8 (ji7) 1) == 1)) 68).bind fun t125 => (if (Go.bits .and .u8 (ji7) 1) = 1 then ((shift_if1.f ((Go.bits .and .i64 a0 7) == 7) 128).bind fun t126 => (some (Go.bits .or .u8 (Go.bits .or .u8 (Go.bits .or .u8 (Go.bits .or .u8 t125 t126) 16) (Go.bits .and .u8 a2 40)) (Go.bits .and .u8 a3 1)))) else ((shift_if1.f false 128).bind fun t127 => (some (Go.bits .or .u8 (Go.bits .or .u8 (Go.bits .or .u8 (Go.bits .or .u8 t125 t127) 16) (Go.bits .and .u8 a2 40)) (Go.bits .and .u8 a3 1)))))) = some r := by first | (rw [hji7] at H; exact H) | (simp only [hji7] at H ⊢; exact H)
    have hji7_ : (a1 / 2 ^ min (ji5).toNat 8) = ji7 := hji7
    have hji7z : (ji5) ≤ 8 → (a1 / 2 ^ (ji5).toNat) = ji7 := shr_small hji7
    replace H := Option.bind_eq_some_iff.mp H
    obtain ⟨t125, A80, H⟩ := H
    replace H : (if (Go.bits .and .u8 (ji7) 1) = 1 then ((shift_if1.f ((Go.bits .and .i64 a0 7) == 7) 128).bind fun t126 => (some (Go.bits .or .u8 (Go.bits .or .u8 (Go.bits .or .u8 (Go.bits .or .u8 t125 t126) 16) (Go.bits .and .u8 a2 40)) (Go.bits .and .u8 a3 1)))) else ((shift_if1.f false 128).bind fun t127 => (some (Go.bits .or .u8 (Go.bits .or .u8 (Go.bits .or .u8 (Go.bits .or .u8 t125 t127) 16) (Go.bits .and .u8 a2 40)) (Go.bits .and .u8 a3 1))))) = some r := H
    have A8 := Aside0.mk A80
    clear A80
    by_cases c9 : (Go.bits .and .u8 (ji7) 1) = 1
    · rw [if_pos c9] at H
      have c9b0 : ((Go.bits .and .u8 (ji7) 1) == 1) = true := beq_iff_eq.mpr c9
      have c9b1 : ((Go.bits .and .u8 (ji7) 1) != 1) = false := bne_eq_false_iff_eq.mpr c9
      have A8 : Aside0 (shift_if1.f false 68 = some t125) := ⟨by have q := A8.out; rw [c9b0] at q; exact q⟩
      clear c9
      replace H := Option.bind_eq_some_iff.mp H
      obtain ⟨t126, A100, H⟩ := H
      replace H : (some (Go.bits .or .u8 (Go.bits .or .u8 (Go.bits .or .u8 (Go.bits .or .u8 t125 t126) 16) (Go.bits .and .u8 a2 40)) (Go.bits .and .u8 a3 1))) = some r := H
      have A10 := Aside0.mk A100
      clear A100
      obtain rfl := Option.some.inj H
      go_enter Try.func60, Try.ntmps60
      go_wp2_with (first | ((with_reducible refine gate_callee (f := 97) rfl ?_); refine goesL_ (some 19) rfl rfl Try.func97 (by kernel_rfl) rfl #[.bool false, .int .u8 68] rfl (by (try simp only [List.map_toArray, List.map_cons, List.map_nil]); first | done | (simp only [hji7]; rfl) | rfl | (simp only [List.length_drop, List.length_take]; rfl)) ?_; (with_reducible refine (shift_if1.calls false 68 t125 _ A8.out).mono ?_); rintro e w' ⟨rfl, ⟨nd, rfl⟩⟩; refine ⟨_, rfl, ?_⟩) | ((with_reducible refine gate_callee (f := 97) rfl ?_); refine goesL_ (some 26) rfl rfl Try.func97 (by kernel_rfl) rfl #[.bool ((Go.bits .and .i64 a0 7) == 7), .int .u8 128] rfl (by (try simp only [List.map_toArray, List.map_cons, List.map_nil]); first | done | rfl | (simp only [List.length_drop, List.length_take]; rfl)) ?_; (with_reducible refine (shift_if1.calls ((Go.bits .and .i64 a0 7) == 7) 128 t126 _ A10.out).mono ?_); rintro e w' ⟨rfl, ⟨nd, rfl⟩⟩; refine ⟨_, rfl, ?_⟩))
      go_ret
      exact ⟨by first | rfl | (simp; done) | (simp only [← hji5, ← hji7] <;> (first | rfl | simp)) | (simp [*]; done), by repeat (first | exact Drawn0.refl _ | apply Drawn0.step)⟩
    · rw [if_neg c9] at H
      have c9b0 : ((Go.bits .and .u8 (ji7) 1) == 1) = false := beq_eq_false_iff_ne.mpr c9
      have A8 : Aside0 (shift_if1.f true 68 = some t125) := ⟨by have q := A8.out; rw [c9b0] at q; exact q⟩
      have c9b1 : ((Go.bits .and .u8 (ji7) 1) != 1) = true := bne_iff_ne.mpr c9
      replace H := Option.bind_eq_some_iff.mp H
      obtain ⟨t127, A110, H⟩ := H
      replace H : (some (Go.bits .or .u8 (Go.bits .or .u8 (Go.bits .or .u8 (Go.bits .or .u8 t125 t127) 16) (Go.bits .and .u8 a2 40)) (Go.bits .and .u8 a3 1))) = some r := H
      have A11 := Aside0.mk A110
      clear A110
      obtain rfl := Option.some.inj H
      go_enter Try.func60, Try.ntmps60
      go_wp2_with (first | ((with_reducible refine gate_callee (f := 97) rfl ?_); refine goesL_ (some 19) rfl rfl Try.func97 (by kernel_rfl) rfl #[.bool true, .int .u8 68] rfl (by (try simp only [List.map_toArray, List.map_cons, List.map_nil]); first | done | (simp only [hji7]; rfl) | rfl | (simp only [List.length_drop, List.length_take]; rfl)) ?_; (with_reducible refine (shift_if1.calls true 68 t125 _ A8.out).mono ?_); rintro e w' ⟨rfl, ⟨nd, rfl⟩⟩; refine ⟨_, rfl, ?_⟩) | ((with_reducible refine gate_callee (f := 97) rfl ?_); refine goesL_ (some 26) rfl rfl Try.func97 (by kernel_rfl) rfl #[.bool false, .int .u8 128] rfl (by (try simp only [List.map_toArray, List.map_cons, List.map_nil]); first | done | rfl | (simp only [List.length_drop, List.length_take]; rfl)) ?_; (with_reducible refine (shift_if1.calls false 128 t127 _ A11.out).mono ?_); rintro e w' ⟨rfl, ⟨nd, rfl⟩⟩; refine ⟨_, rfl, ?_⟩))
      go_ret
      exact ⟨by first | rfl | (simp; done) | (simp only [← hji5, ← hji7] <;> (first | rfl | simp)) | (simp [*]; done), by repeat (first | exact Drawn0.refl _ | apply Drawn0.step)⟩
  · rw [if_neg c6] at H
    exact absurd H (by simp)

/-! ### shift_Set: function 61 -/
def shift_Set.f (a0 : Int) (a1 : Int) : Option (Int) := if 0 ≤ (IntKind.u64.wrap (Go.bits .and .i64 a0 7)) then (some (Go.bits .or .u8 a1 (shl .u8 1 (IntKind.u64.wrap (Go.bits .and .i64 a0 7))))) else (none)
set_option maxHeartbeats 8000000 in
set_option maxRecDepth 100000 in
theorem shift_Set.calls (a0 : Int) (a1 : Int) (r : Int) (w : World) (h : shift_Set.f a0 a1 = some r) :
    Calls Try.prog 61 #[.int .i64 a0, .int .u8 a1] w fun e w' => e = .returned (.int .u8 r) ∧ Drawn0 w w' := by
  have H : (if 0 ≤ (IntKind.u64.wrap (Go.bits .and .i64 a0 7)) then (some (Go.bits .or .u8 a1 (shl .u8 1 (IntKind.u64.wrap (Go.bits .and .i64 a0 7))))) else (none)) = some r := h
  clear h
  obtain ⟨ji3, hji3⟩ : ∃ j_ : Int, (IntKind.u64.wrap (Go.bits .and .i64 a0 7)) = j_ := ⟨_, rfl⟩
  replace H : (if 0 ≤ (ji3) then (some (Go.bits .or .u8 a1 (shl .u8 1 (ji3)))) else (none)) = some r := by first | (rw [hji3] at H; exact H) | (simp only [hji3] at H ⊢; exact H)
  by_cases c4 : 0 ≤ (ji3)
  · rw [if_pos c4] at H
    have c4b0 := eq_true c4
    have c4b1 : decide (0 ≤ (ji3)) = true := decide_eq_true c4
    clear c4
    obtain ⟨ji5, hji5⟩ : ∃ j_ : Int, (shl .u8 1 (ji3)) = j_ := ⟨_, rfl⟩
    replace H : (some (Go.bits .or .u8 a1 (ji5))) = some r := by first | (rw [hji5] at H; exact H) | (simp only [hji5] at H ⊢; exact H)
    have hji5_ : (IntKind.u8.wrap (1 * 2 ^ min (ji3).toNat 8)) = ji5 := hji5
    have hji5z : (ji3) ≤ 8 → (IntKind.u8.wrap (1 * 2 ^ (ji3).toNat)) = ji5 := shl_small hji5
    have hji5u : (IntKind.u8.wrap (2 ^ min (ji3).toNat 8)) = ji5 := by have h_ := hji5_; rw [Int.one_mul] at h_; exact h_
    have hji5v : (ji3) ≤ 8 → (IntKind.u8.wrap (2 ^ (ji3).toNat)) = ji5 := fun hle_ => by have h_ := hji5z hle_; rw [Int.one_mul] at h_; exact h_
    obtain rfl := Option.some.inj H
    go_enter Try.func61, Try.ntmps61
    go_wp2
    go_ret
    exact ⟨by first | rfl | (simp; done) | (simp only [← hji3, ← hji5] <;> (first | rfl | simp)) | (simp [*]; done), by repeat (first | exact Drawn0.refl _ | apply Drawn0.step)⟩
  · rw [if_neg c4] at H
    exact absurd H (by simp)

/-! ### shift_Res: function 62 -/
def shift_Res.f (a0 : Int) (a1 : Int) : Option (Int) := if 0 ≤ (IntKind.u64.wrap (Go.bits .and .i64 a0 7)) then (some (Go.bits .andNot .u8 a1 (shl .u8 1 (IntKind.u64.wrap (Go.bits .and .i64 a0 7))))) else (none)
set_option maxHeartbeats 8000000 in
set_option maxRecDepth 100000 in
theorem shift_Res.calls (a0 : Int) (a1 : Int) (r : Int) (w : World) (h : shift_Res.f a0 a1 = some r) :
    Calls Try.prog 62 #[.int .i64 a0, .int .u8 a1] w fun e w' => e = .returned (.int .u8 r) ∧ Drawn0 w w' := by
  have H : (if 0 ≤ (IntKind.u64.wrap (Go.bits .and .i64 a0 7)) then (some (Go.bits .andNot .u8 a1 (shl .u8 1 (IntKind.u64.wrap (Go.bits .and .i64 a0 7))))) else (none)) = some r := h
  clear h
  obtain ⟨ji3, hji3⟩ : ∃ j_ : Int, (IntKind.u64.wrap (Go.bits .and .i64 a0 7)) = j_ := ⟨_, rfl⟩
  replace H : (if 0 ≤ (ji3) then (some (Go.bits .andNot .u8 a1 (shl .u8 1 (ji3)))) else (none)) = some r := by first | (rw [hji3] at H; exact H) | (simp only [hji3] at H ⊢; exact H)
  by_cases c4 : 0 ≤ (ji3)
  · rw [if_pos c4] at H
    have c4b0 := eq_true c4
    have c4b1 : decide (0 ≤ (ji3)) = true := decide_eq_true c4
    clear c4
    obtain ⟨ji5, hji5⟩ : ∃ j_ : Int, (shl .u8 1 (ji3)) = j_ := ⟨_, rfl⟩
    replace H : (some (Go.bits .andNot .u8 a1 (ji5))) = some r := by first | (rw [hji5] at H; exact H) | (simp only [hji5] at H ⊢; exact H)
    have hji5_ : (IntKind.u8.wrap (1 * 2 ^ min (ji3).toNat 8)) = ji5 := hji5
    have hji5z : (ji3) ≤ 8 → (IntKind.u8.wrap (1 * 2 ^ (ji3).toNat)) = ji5 := shl_small hji5
    have hji5u : (IntKind.u8.wrap (2 ^ min (ji3).toNat 8)) = ji5 := by have h_ := hji5_; rw [Int.one_mul] at h_; exact h_
    have hji5v : (ji3) ≤ 8 → (IntKind.u8.wrap (2 ^ (ji3).toNat)) = ji5 := fun hle_ => by have h_ := hji5z hle_; rw [Int.one_mul] at h_; exact h_
    obtain rfl := Option.some.inj H
    go_enter Try.func62, Try.ntmps62
    go_wp2
    go_ret
    exact ⟨by first | rfl | (simp; done) | (simp only [← hji3, ← hji5] <;> (first | rfl | simp)) | (simp [*]; done), by repeat (first | exact Drawn0.refl _ | apply Drawn0.step)⟩
  · rw [if_neg c4] at H
    exact absurd H (by simp)

/-! ### shift_Cpl: function 70 -/
def shift_Cpl.f (a0 : Int) (a1 : Int) : Option (Int × Int) := some (Go.bits .xor .u8 255 a0, Go.bits .or .u8 (Go.bits .or .u8 (Go.bits .or .u8 (Go.bits .and .u8 a1 197) 16) 2) (Go.bits .and .u8 (Go.bits .xor .u8 255 a0) 40))
set_option maxHeartbeats 8000000 in
set_option maxRecDepth 100000 in
theorem shift_Cpl.calls (a0 : Int) (a1 : Int) (r1 : Int) (r2 : Int) (w : World) (h : shift_Cpl.f a0 a1 = some (r1, r2)) :
    Calls Try.prog 70 #[.int .u8 a0, .int .u8 a1] w fun e w' => e = .returned (.tuple #[.int .u8 r1, .int .u8 r2]) ∧ Drawn0 w w' := by
  have H : (some (Go.bits .xor .u8 255 a0, Go.bits .or .u8 (Go.bits .or .u8 (Go.bits .or .u8 (Go.bits .and .u8 a1 197) 16) 2) (Go.bits .and .u8 (Go.bits .xor .u8 255 a0) 40))) = some (r1, r2) := h
  clear h
  simp only [Option.some.injEq, Prod.mk.injEq] at H
  obtain ⟨rfl, rfl⟩ := H
  go_enter Try.func70, Try.ntmps70
  go_wp2
  go_ret2
  exact ⟨by first | rfl | (simp; done) | (simp [*]; done), by repeat (first | exact Drawn0.refl _ | apply Drawn0.step)⟩

/-! ### shift_Scf: function 72 -/
def shift_Scf.f (a0 : Int) (a1 : Int) : Option (Int) := some (Go.bits .or .u8 (Go.bits .or .u8 (Go.bits .and .u8 a1 196) (Go.bits .and .u8 a0 40)) 1)
set_option maxHeartbeats 8000000 in
set_option maxRecDepth 100000 in
theorem shift_Scf.calls (a0 : Int) (a1 : Int) (r : Int) (w : World) (h : shift_Scf.f a0 a1 = some r) :
    Calls Try.prog 72 #[.int .u8 a0, .int .u8 a1] w fun e w' => e = .returned (.int .u8 r) ∧ Drawn0 w w' := by
  have H : (some (Go.bits .or .u8 (Go.bits .or .u8 (Go.bits .and .u8 a1 196) (Go.bits .and .u8 a0 40)) 1)) = some r := h
  clear h
  obtain rfl := Option.some.inj H
  go_enter Try.func72, Try.ntmps72
  go_wp2
  go_ret
  exact ⟨by first | rfl | (simp; done) | (simp [*]; done), by repeat (first | exact Drawn0.refl _ | apply Drawn0.step)⟩

/-! ### shift_Ccf: function 74 -/
def shift_Ccf.f (a0 : Int) (a1 : Int) : Option (Int) := (shift_if1.f ((Go.bits .and .u8 a1 1) != 0) 16).bind fun t128 => ((shift_if1.f ((Go.bits .and .u8 a1 1) == 0) 1).bind fun t129 => (some (Go.bits .or .u8 (Go.bits .or .u8 (Go.bits .or .u8 (Go.bits .and .u8 a1 196) (Go.bits .and .u8 a0 40)) t128) t129)))
set_option maxHeartbeats 8000000 in
set_option maxRecDepth 100000 in
theorem shift_Ccf.calls (a0 : Int) (a1 : Int) (r : Int) (w : World) (h : shift_Ccf.f a0 a1 = some r) :
    Calls Try.prog 74 #[.int .u8 a0, .int .u8 a1] w fun e w' => e = .returned (.int .u8 r) ∧ Drawn0 w w' := by
  have H : ((shift_if1.f ((Go.bits .and .u8 a1 1) != 0) 16).bind fun t128 => ((shift_if1.f ((Go.bits .and .u8 a1 1) == 0) 1).bind fun t129 => (some (Go.bits .or .u8 (Go.bits .or .u8 (Go.bits .or .u8 (Go.bits .and .u8 a1 196) (Go.bits .and .u8 a0 40)) t128) t129)))) = some r := h
  clear h
  replace H := Option.bind_eq_some_iff.mp H
  obtain ⟨t128, A30, H⟩ := H
  replace H : ((shift_if1.f ((Go.bits .and .u8 a1 1) == 0) 1).bind fun t129 => (some (Go.bits .or .u8 (Go.bits .or .u8 (Go.bits .or .u8 (Go.bits .and .u8 a1 196) (Go.bits .and .u8 a0 40)) t128) t129))) = some r := H
  have A3 := Aside0.mk A30
  clear A30
  replace H := Option.bind_eq_some_iff.mp H
  obtain ⟨t129, A40, H⟩ := H
  replace H : (some (Go.bits .or .u8 (Go.bits .or .u8 (Go.bits .or .u8 (Go.bits .and .u8 a1 196) (Go.bits .and .u8 a0 40)) t128) t129)) = some r := H
  have A4 := Aside0.mk A40
  clear A40
  obtain rfl := Option.some.inj H
  go_enter Try.func74, Try.ntmps74
  go_wp2_with (first | ((with_reducible refine gate_callee (f := 97) rfl ?_); refine goesL_ (some 13) rfl rfl Try.func97 (by kernel_rfl) rfl #[.bool ((Go.bits .and .u8 a1 1) != 0), .int .u8 16] rfl (by (try simp only [List.map_toArray, List.map_cons, List.map_nil]); first | done | rfl | (simp only [List.length_drop, List.length_take]; rfl)) ?_; (with_reducible refine (shift_if1.calls ((Go.bits .and .u8 a1 1) != 0) 16 t128 _ A3.out).mono ?_); rintro e w' ⟨rfl, ⟨nd, rfl⟩⟩; refine ⟨_, rfl, ?_⟩) | ((with_reducible refine gate_callee (f := 97) rfl ?_); refine goesL_ (some 18) rfl rfl Try.func97 (by kernel_rfl) rfl #[.bool ((Go.bits .and .u8 a1 1) == 0), .int .u8 1] rfl (by (try simp only [List.map_toArray, List.map_cons, List.map_nil]); first | done | rfl | (simp only [List.length_drop, List.length_take]; rfl)) ?_; (with_reducible refine (shift_if1.calls ((Go.bits .and .u8 a1 1) == 0) 1 t129 _ A4.out).mono ?_); rintro e w' ⟨rfl, ⟨nd, rfl⟩⟩; refine ⟨_, rfl, ?_⟩))
  go_ret
  exact ⟨by first | rfl | (simp; done) | (simp [*]; done), by repeat (first | exact Drawn0.refl _ | apply Drawn0.step)⟩

/-! ### shift_Rrd: function 78 -/
def shift_Rrd.f (a0 : Int) (a1 : Int) (a2 : Int) : Option (Int × Int × Int) := (shift_whole.f (Go.bits .or .u8 (Go.bits .and .u8 a0 240) (Go.bits .and .u8 a1 15))).bind fun t130 => (some (Go.bits .or .u8 (Go.bits .and .u8 a0 240) (Go.bits .and .u8 a1 15), Go.bits .or .u8 ((a0 * 16) % 256) (a1 / 16), Go.bits .or .u8 t130 (Go.bits .and .u8 a2 1)))
set_option maxHeartbeats 8000000 in
set_option maxRecDepth 100000 in
theorem shift_Rrd.calls (a0 : Int) (a1 : Int) (a2 : Int) (r1 : Int) (r2 : Int) (r3 : Int) (w : World) (h : shift_Rrd.f a0 a1 a2 = some (r1, r2, r3)) :
    Calls Try.prog 78 #[.int .u8 a0, .int .u8 a1, .int .u8 a2] w fun e w' => e = .returned (.tuple #[.int .u8 r1, .int .u8 r2, .int .u8 r3]) ∧ Drawn0 w w' := by
  have H : ((shift_whole.f (Go.bits .or .u8 (Go.bits .and .u8 a0 240) (Go.bits .and .u8 a1 15))).bind fun t130 => (some (Go.bits .or .u8 (Go.bits .and .u8 a0 240) (Go.bits .and .u8 a1 15), Go.bits .or .u8 ((a0 * 16) % 256) (a1 / 16), Go.bits .or .u8 t130 (Go.bits .and .u8 a2 1)))) = some (r1, r2, r3) := h
  clear h
  replace H := Option.bind_eq_some_iff.mp H
  obtain ⟨t130, A40, H⟩ := H
  replace H : (some (Go.bits .or .u8 (Go.bits .and .u8 a0 240) (Go.bits .and .u8 a1 15), Go.bits .or .u8 ((a0 * 16) % 256) (a1 / 16), Go.bits .or .u8 t130 (Go.bits .and .u8 a2 1))) = some (r1, r2, r3) := H
  have A4 := Aside0.mk A40
  clear A40
  simp only [Option.some.injEq, Prod.mk.injEq] at H
  obtain ⟨rfl, rfl, rfl⟩ := H
  go_enter Try.func78, Try.ntmps78
  go_wp2_with (first | ((with_reducible refine gate_callee (f := 96) rfl ?_); refine goesL_ (some 22) rfl rfl Try.func96 (by kernel_rfl) rfl #[.int .u8 (Go.bits .or .u8 (Go.bits .and .u8 a0 240) (Go.bits .and .u8 a1 15))] rfl (by (try simp only [List.map_toArray, List.map_cons, List.map_nil]); first | done | rfl | (simp only [List.length_drop, List.length_take]; rfl)) ?_; (with_reducible refine (shift_whole.calls (Go.bits .or .u8 (Go.bits .and .u8 a0 240) (Go.bits .and .u8 a1 15)) t130 _ A4.out).mono ?_); rintro e w' ⟨rfl, ⟨nd, rfl⟩⟩; refine ⟨_, rfl, ?_⟩))
  go_ret3
  exact ⟨by first | rfl | (simp; done) | (simp [*]; done), by repeat (first | exact Drawn0.refl _ | apply Drawn0.step)⟩

end Go.Proofs.Ytpmmneipfmbmlaa.HShiftBits
