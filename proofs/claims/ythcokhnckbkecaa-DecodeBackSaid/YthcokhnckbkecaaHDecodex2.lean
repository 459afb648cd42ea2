-- Written by a program of this session out of Lean's print of the program (after the form of the kit's print.sh, with own turns); Lean checks it.
import Derived.Test.YthcokhnckbkecaaHDecodex0
namespace Go.Proofs.Ythcokhnckbkecaa.HDecode
open Go.RowKit Go.Proofs.YthcokhnckbkecaaW.PrintWords Go.Proofs.YthcokhnckbkecaaW.PrintLast Go.Proofs.YthcokhnckbkecaaW.PrintMore
attribute [local go_sem] max2_int min2_int max_two min_two max_three min_three max_four min_four   -- for this text's walks alone
set_option linter.unusedVariables false
set_option linter.unusedSimpArgs false

/-! ### decode_lone: function 47 -/
def decode_lone.f (a0 : Int) : Option (Bool) := if a0 = 221 then (some true) else (some (a0 == 253))
set_option maxHeartbeats 8000000 in
set_option maxRecDepth 100000 in
theorem decode_lone.calls (a0 : Int) (r : Bool) (w : World) (h : decode_lone.f a0 = some r) :
    Calls Try.prog 47 #[.int .i64 a0] w fun e w' => e = .returned (.bool r) ∧ Drawn0 w w' := by
  have H : (if a0 = 221 then (some true) else (some (a0 == 253))) = some r := h
  clear h
  by_cases c2 : a0 = 221
  · rw [if_pos c2] at H
    have c2b0 : (a0 == 221) = true := beq_iff_eq.mpr c2
    have c2b1 : (a0 != 221) = false := bne_eq_false_iff_eq.mpr c2
    clear c2
    obtain rfl := Option.some.inj H
    go_enter Try.func47, Try.ntmps47
    go_wp2
    go_ret
    exact ⟨by first | rfl | (simp; done) | (simp [*]; done), by repeat (first | exact Drawn0.refl _ | apply Drawn0.step)⟩
  · rw [if_neg c2] at H
    have c2b0 : (a0 == 221) = false := beq_eq_false_iff_ne.mpr c2
    have c2b1 : (a0 != 221) = true := bne_iff_ne.mpr c2
    obtain rfl := Option.some.inj H
    go_enter Try.func47, Try.ntmps47
    go_wp2
    go_ret
    exact ⟨by first | rfl | (simp; done) | (simp [*]; done), by repeat (first | exact Drawn0.refl _ | apply Drawn0.step)⟩

/-! ### decode_there: function 51 -/
mutual
def decode_there.j0 : Nat → Int → Int → Int → Bool → Option (Bool)
  | 0, _, _, _, _ => none
  | k + 1, x0, x1, x2, x12 => if x12 = true then (some false) else (if x0 = 0 then (if x1 ≥ 0 then (if x1 ≤ 2 then (if x2 = 203 then (some false) else (if x2 = 237 then (some false) else ((decode_lone.f x2).bind fun t101 => (if t101 = true then (some (x1 == 0)) else (some true))))) else (some false)) else (some false)) else (if x0 = 1 then (decode_there.j1 k x1 x0 (x0 == 1)) else (decode_there.j1 k x1 x0 (x0 == 2))))
def decode_there.j1 : Nat → Int → Int → Bool → Option (Bool)
  | 0, _, _, _ => none
  | k + 1, x1, x13, x39 => if x39 = true then (some (x1 == 0)) else (if x13 = 3 then (if x1 = 1 then (some true) else (some (x1 == 2))) else (some false))
end
def decode_there.f (k : Nat) (a0 : Int) (a1 : Int) (a2 : Int) : Option (Bool) := if a2 < 0 then (decode_there.j0 k a0 a1 a2 true) else (decode_there.j0 k a0 a1 a2 (decide (a2 > 255)))
theorem decode_there.mono_l : ∀ k, (∀ y0 y1 y2 y3, LeO (decode_there.j0 k y0 y1 y2 y3) (decode_there.j0 (k + 1) y0 y1 y2 y3)) ∧ (∀ y0 y1 y2, LeO (decode_there.j1 k y0 y1 y2) (decode_there.j1 (k + 1) y0 y1 y2))
  | 0 => ⟨fun _ _ _ _ r h => by simp [decode_there.j0] at h, fun _ _ _ r h => by simp [decode_there.j1] at h⟩
  | k + 1 => by
    obtain ⟨ih0, ih1⟩ := decode_there.mono_l k
    refine ⟨?_, ?_⟩
    · intro y0 y1 y2 y3
      unfold decode_there.j0
      repeat' first
      | (with_reducible exact ih0 _ _ _ _)
      | (with_reducible exact ih1 _ _ _)
      | (with_reducible exact LeO.refl _)
      | (with_reducible exact LeO.none _)
      | (with_reducible refine LeO.ite ?_ ?_)
      | (with_reducible refine LeO.bind ?_ (fun _ => ?_))
      | exact ih0 _ _ _ _
      | exact ih1 _ _ _
      | exact LeO.none _
      | refine LeO.ite ?_ ?_
      | refine LeO.bind ?_ (fun _ => ?_)
    · intro y0 y1 y2
      unfold decode_there.j1
      repeat' first
      | (with_reducible exact ih0 _ _ _ _)
      | (with_reducible exact ih1 _ _ _)
      | (with_reducible exact LeO.refl _)
      | (with_reducible exact LeO.none _)
      | (with_reducible refine LeO.ite ?_ ?_)
      | (with_reducible refine LeO.bind ?_ (fun _ => ?_))
      | exact ih0 _ _ _ _
      | exact ih1 _ _ _
      | exact LeO.none _
      | refine LeO.ite ?_ ?_
      | refine LeO.bind ?_ (fun _ => ?_)
theorem decode_there.mono : ∀ a0 a1 a2 k, LeO (decode_there.f k a0 a1 a2) (decode_there.f (k + 1) a0 a1 a2) := by
  intro a0 a1 a2 k
  obtain ⟨ih0, ih1⟩ := decode_there.mono_l k
  unfold decode_there.f
  repeat' first
      | (with_reducible exact ih0 _ _ _ _)
      | (with_reducible exact ih1 _ _ _)
      | (with_reducible exact LeO.refl _)
      | (with_reducible exact LeO.none _)
      | (with_reducible refine LeO.ite ?_ ?_)
      | (with_reducible refine LeO.bind ?_ (fun _ => ?_))
      | exact ih0 _ _ _ _
      | exact ih1 _ _ _
      | exact LeO.none _
      | refine LeO.ite ?_ ?_
      | refine LeO.bind ?_ (fun _ => ?_)
set_option maxHeartbeats 8000000 in
set_option maxRecDepth 100000 in
theorem decode_there.calls (k : Nat) (a0 : Int) (a1 : Int) (a2 : Int) (r : Bool) (w : World) (h : decode_there.f k a0 a1 a2 = some r) :
    Calls Try.prog 51 #[.int .i64 a0, .int .i64 a1, .int .i64 a2] w fun e w' => e = .returned (.bool r) ∧ Drawn0 w w' := by
  have H : (if a2 < 0 then (decode_there.j0 k a0 a1 a2 true) else (decode_there.j0 k a0 a1 a2 (decide (a2 > 255)))) = some r := h
  clear h
  have HC4 := Aside0.mk H
  clear H
  go_enter Try.func51, Try.ntmps51
  go_upto_region 1 with (fail)
  go_cut [12] (fun v12 wc => ∃ (kq : Nat) (x12_3 : Bool), v12 = .bool x12_3 ∧ Aside0 (decode_there.j0 kq a0 a1 a2 x12_3 = some r) ∧ Aside0 (kq ≤ k) ∧ Drawn0 w wc)
  case first =>
    have H := HC4.out
    clear HC4
    by_cases c5 : a2 < 0
    · rw [if_pos c5] at H
      have c5b0 : decide (a2 < 0) = true := decide_eq_true c5
      clear c5
      (first | rw [c5b0] | (simp only [i64_w, i32_w]; rw [c5b0]) | skip)
      have H' := Aside0.mk H
      clear H
      go_wp2
      go_meet
      case rel => exact ⟨_, (true), (by first | rfl | (simp; done) | (simp [*]; done)), H', ⟨by first | omega | exact Nat.le_refl _⟩, by repeat (first | exact Drawn0.refl _ | apply Drawn0.step)⟩
    · rw [if_neg c5] at H
      have c5b0 : decide (a2 < 0) = false := decide_eq_false c5
      clear c5
      (first | rw [c5b0] | (simp only [i64_w, i32_w]; rw [c5b0]) | skip)
      have H' := Aside0.mk H
      clear H
      go_wp2
      go_meet
      case rel => exact ⟨_, (decide (a2 > 255)), (by first | rfl | (simp; done) | (simp [*]; done)), H', ⟨by first | omega | exact Nat.le_refl _⟩, by repeat (first | exact Drawn0.refl _ | apply Drawn0.step)⟩
  case rest =>
    clear HC4
    try clear p2
    try clear c5
    try clear c5b0
    obtain ⟨kq, x12_3, rfl, HA, HJ3, ⟨mc3, rfl⟩⟩ := hcut
    cases kq with
    | zero => exact absurd HA.out (by simp [decode_there.j0])
    | succ kj3 =>
      have H := HA.out
      clear HA
      simp only [decode_there.j0] at H
      by_cases c6 : x12_3 = true
      · subst c6
        have H1 : (some false) = some r := by rw [if_pos rfl] at H; exact H
        clear H
        have H := H1
        clear H1
        obtain rfl := Option.some.inj H
        go_wp2
        go_ret
        exact ⟨by first | rfl | (simp; done) | (simp [*]; done), by repeat (first | exact Drawn0.refl _ | apply Drawn0.step)⟩
      · replace c6 := Bool.eq_false_iff.mpr c6
        subst c6
        have H1 : (if a0 = 0 then (if a1 ≥ 0 then (if a1 ≤ 2 then (if a2 = 203 then (some false) else (if a2 = 237 then (some false) else ((decode_lone.f a2).bind fun t101 => (if t101 = true then (some (a1 == 0)) else (some true))))) else (some false)) else (some false)) else (if a0 = 1 then (decode_there.j1 kj3 a1 a0 (a0 == 1)) else (decode_there.j1 kj3 a1 a0 (a0 == 2)))) = some r := by rw [if_neg (show ¬ (false = true) by decide)] at H; exact H
        clear H
        have H := H1
        clear H1
        by_cases c7 : a0 = 0
        · rw [if_pos c7] at H
          have c7b0 : (a0 == 0) = true := beq_iff_eq.mpr c7
          have c7b1 : (a0 != 0) = false := bne_eq_false_iff_eq.mpr c7
          clear c7
          by_cases c8 : a1 ≥ 0
          · rw [if_pos c8] at H
            have c8b0 : decide (0 ≤ a1) = true := decide_eq_true c8
            clear c8
            by_cases c9 : a1 ≤ 2
            · rw [if_pos c9] at H
              have c9b0 : decide (a1 ≤ 2) = true := decide_eq_true c9
              clear c9
              by_cases c10 : a2 = 203
              · rw [if_pos c10] at H
                have c10b0 : (a2 == 203) = true := beq_iff_eq.mpr c10
                have c10b1 : (a2 != 203) = false := bne_eq_false_iff_eq.mpr c10
                clear c10
                obtain rfl := Option.some.inj H
                go_wp2
                go_ret
                exact ⟨by first | rfl | (simp; done) | (simp [*]; done), by repeat (first | exact Drawn0.refl _ | apply Drawn0.step)⟩
              · rw [if_neg c10] at H
                have c10b0 : (a2 == 203) = false := beq_eq_false_iff_ne.mpr c10
                have c10b1 : (a2 != 203) = true := bne_iff_ne.mpr c10
                by_cases c11 : a2 = 237
                · rw [if_pos c11] at H
                  have c11b0 : (a2 == 237) = true := beq_iff_eq.mpr c11
                  have c11b1 : (a2 != 237) = false := bne_eq_false_iff_eq.mpr c11
                  clear c11
                  obtain rfl := Option.some.inj H
                  go_wp2
                  go_ret
                  exact ⟨by first | rfl | (simp; done) | (simp [*]; done), by repeat (first | exact Drawn0.refl _ | apply Drawn0.step)⟩
                · rw [if_neg c11] at H
                  have c11b0 : (a2 == 237) = false := beq_eq_false_iff_ne.mpr c11
                  have c11b1 : (a2 != 237) = true := bne_iff_ne.mpr c11
                  replace H := Option.bind_eq_some_iff.mp H
                  obtain ⟨t101, A120, H⟩ := H
                  replace H : (if t101 = true then (some (a1 == 0)) else (some true)) = some r := H
                  have A12 := Aside0.mk A120
                  clear A120
                  by_cases c13 : t101 = true
                  · subst c13
                    have H1 : (some (a1 == 0)) = some r := by rw [if_pos rfl] at H; exact H
                    clear H
                    have H := H1
                    clear H1
                    obtain rfl := Option.some.inj H
                    go_wp2_with (first | (go_at_call 47; (with_reducible refine (decode_lone.calls a2 true _ A12.out).mono ?_); rintro e w' ⟨rfl, ⟨nd, rfl⟩⟩))
                    go_ret
                    exact ⟨by first | rfl | (simp; done) | (simp [*]; done), by repeat (first | exact Drawn0.refl _ | apply Drawn0.step)⟩
                  · replace c13 := Bool.eq_false_iff.mpr c13
                    subst c13
                    have H1 : (some true) = some r := by rw [if_neg (show ¬ (false = true) by decide)] at H; exact H
                    clear H
                    have H := H1
                    clear H1
                    obtain rfl := Option.some.inj H
                    go_wp2_with (first | (go_at_call 47; (with_reducible refine (decode_lone.calls a2 false _ A12.out).mono ?_); rintro e w' ⟨rfl, ⟨nd, rfl⟩⟩))
                    go_ret
                    exact ⟨by first | rfl | (simp; done) | (simp [*]; done), by repeat (first | exact Drawn0.refl _ | apply Drawn0.step)⟩
            · rw [if_neg c9] at H
              have c9b0 : decide (a1 ≤ 2) = false := decide_eq_false c9
              clear c9
              obtain rfl := Option.some.inj H
              go_wp2
              go_ret
              exact ⟨by first | rfl | (simp; done) | (simp [*]; done), by repeat (first | exact Drawn0.refl _ | apply Drawn0.step)⟩
          · rw [if_neg c8] at H
            have c8b0 : decide (0 ≤ a1) = false := decide_eq_false c8
            clear c8
            obtain rfl := Option.some.inj H
            go_wp2
            go_ret
            exact ⟨by first | rfl | (simp; done) | (simp [*]; done), by repeat (first | exact Drawn0.refl _ | apply Drawn0.step)⟩
        · rw [if_neg c7] at H
          have c7b0 : (a0 == 0) = false := beq_eq_false_iff_ne.mpr c7
          have c7b1 : (a0 != 0) = true := bne_iff_ne.mpr c7
          have HC14 := Aside0.mk H
          clear H
          go_upto_if 39 with (fail)
          go_cut [39] (fun v39 wc => ∃ (kq : Nat) (x39_13 : Bool), v39 = .bool x39_13 ∧ Aside0 (decode_there.j1 kq a1 a0 x39_13 = some r) ∧ Aside0 (kq ≤ kj3) ∧ Drawn0 w wc)
          case first =>
            have H := HC14.out
            clear HC14
            by_cases c15 : a0 = 1
            · rw [if_pos c15] at H
              have c15b0 : (a0 == 1) = true := beq_iff_eq.mpr c15
              have c15b1 : (a0 != 1) = false := bne_eq_false_iff_eq.mpr c15
              clear c15
              (first | rw [c15b0] | (simp only [i64_w, i32_w]; rw [c15b0]) | skip)
              have H' := Aside0.mk H
              clear H
              go_wp2
              go_meet
              case rel => exact ⟨_, ((a0 == 1)), (by first | rfl | (simp; done) | (simp [*]; done)), H', ⟨by have := HJ3.out; first | omega | exact Nat.le_refl _⟩, by repeat (first | exact Drawn0.refl _ | apply Drawn0.step)⟩
            · rw [if_neg c15] at H
              have c15b0 : (a0 == 1) = false := beq_eq_false_iff_ne.mpr c15
              have c15b1 : (a0 != 1) = true := bne_iff_ne.mpr c15
              (first | rw [c15b0] | (simp only [i64_w, i32_w]; rw [c15b0]) | skip)
              have H' := Aside0.mk H
              clear H
              go_wp2
              go_meet
              case rel => exact ⟨_, ((a0 == 2)), (by first | rfl | (simp; done) | (simp [*]; done)), H', ⟨by have := HJ3.out; first | omega | exact Nat.le_refl _⟩, by repeat (first | exact Drawn0.refl _ | apply Drawn0.step)⟩
          case rest =>
            clear HC14
            try clear c1
            try clear p2
            try clear c3
            try clear c5
            try clear c5b0
            try clear c6
            try clear c7
            try clear c7b0
            try clear c7b1
            try clear c8
            try clear c8b0
            try clear c9
            try clear c9b0
            try clear c10
            try clear c10b0
            try clear c10b1
            try clear c11
            try clear c11b0
            try clear c11b1
            try clear c13
            try clear c15
            try clear c15b0
            try clear c15b1
            try clear p2
            obtain ⟨kq, x39_13, rfl, HA, HJ13, ⟨mc13, rfl⟩⟩ := hcut
            cases kq with
            | zero => exact absurd HA.out (by simp [decode_there.j1])
            | succ kj13 =>
              have H := HA.out
              clear HA
              simp only [decode_there.j1] at H
              by_cases c16 : x39_13 = true
              · subst c16
                have H1 : (some (a1 == 0)) = some r := by rw [if_pos rfl] at H; exact H
                clear H
                have H := H1
                clear H1
                obtain rfl := Option.some.inj H
                go_wp2
                go_ret
                exact ⟨by first | rfl | (simp; done) | (simp [*]; done), by repeat (first | exact Drawn0.refl _ | apply Drawn0.step)⟩
              · replace c16 := Bool.eq_false_iff.mpr c16
                subst c16
                have H1 : (if a0 = 3 then (if a1 = 1 then (some true) else (some (a1 == 2))) else (some false)) = some r := by rw [if_neg (show ¬ (false = true) by decide)] at H; exact H
                clear H
                have H := H1
                clear H1
                by_cases c17 : a0 = 3
                · rw [if_pos c17] at H
                  have c17b0 : (a0 == 3) = true := beq_iff_eq.mpr c17
                  have c17b1 : (a0 != 3) = false := bne_eq_false_iff_eq.mpr c17
                  clear c17
                  by_cases c18 : a1 = 1
                  · rw [if_pos c18] at H
                    have c18b0 : (a1 == 1) = true := beq_iff_eq.mpr c18
                    have c18b1 : (a1 != 1) = false := bne_eq_false_iff_eq.mpr c18
                    clear c18
                    obtain rfl := Option.some.inj H
                    go_wp2
                    go_ret
                    exact ⟨by first | rfl | (simp; done) | (simp [*]; done), by repeat (first | exact Drawn0.refl _ | apply Drawn0.step)⟩
                  · rw [if_neg c18] at H
                    have c18b0 : (a1 == 1) = false := beq_eq_false_iff_ne.mpr c18
                    have c18b1 : (a1 != 1) = true := bne_iff_ne.mpr c18
                    obtain rfl := Option.some.inj H
                    go_wp2
                    go_ret
                    exact ⟨by first | rfl | (simp; done) | (simp [*]; done), by repeat (first | exact Drawn0.refl _ | apply Drawn0.step)⟩
                · rw [if_neg c17] at H
                  have c17b0 : (a0 == 3) = false := beq_eq_false_iff_ne.mpr c17
                  have c17b1 : (a0 != 3) = true := bne_iff_ne.mpr c17
                  obtain rfl := Option.some.inj H
                  go_wp2
                  go_ret
                  exact ⟨by first | rfl | (simp; done) | (simp [*]; done), by repeat (first | exact Drawn0.refl _ | apply Drawn0.step)⟩

/-! ### decode_Parts: function 34 -/
def decode_Parts.f (a0 : Int) : Option (Int × Int × Int × Int × Int) := some ((Go.bits .and .i64 a0 255) / 64, Go.bits .and .i64 ((Go.bits .and .i64 a0 255) / 8) 7, Go.bits .and .i64 (Go.bits .and .i64 a0 255) 7, (Go.bits .and .i64 ((Go.bits .and .i64 a0 255) / 8) 7) / 2, Go.bits .and .i64 (Go.bits .and .i64 ((Go.bits .and .i64 a0 255) / 8) 7) 1)
set_option maxHeartbeats 8000000 in
set_option maxRecDepth 100000 in
theorem decode_Parts.calls (a0 : Int) (r1 : Int) (r2 : Int) (r3 : Int) (r4 : Int) (r5 : Int) (w : World) (h : decode_Parts.f a0 = some (r1, r2, r3, r4, r5)) :
    Calls Try.prog 34 #[.int .i64 a0] w fun e w' => e = .returned (.tuple #[.int .i64 r1, .int .i64 r2, .int .i64 r3, .int .i64 r4, .int .i64 r5]) ∧ Drawn0 w w' := by
  have H : (some ((Go.bits .and .i64 a0 255) / 64, Go.bits .and .i64 ((Go.bits .and .i64 a0 255) / 8) 7, Go.bits .and .i64 (Go.bits .and .i64 a0 255) 7, (Go.bits .and .i64 ((Go.bits .and .i64 a0 255) / 8) 7) / 2, Go.bits .and .i64 (Go.bits .and .i64 ((Go.bits .and .i64 a0 255) / 8) 7) 1)) = some (r1, r2, r3, r4, r5) := h
  clear h
  simp only [Option.some.injEq, Prod.mk.injEq] at H
  obtain ⟨rfl, rfl, rfl, rfl, rfl⟩ := H
  go_enter Try.func34, Try.ntmps34
  go_wp2
  refine bodyPost_ret (results_list (rs := [.tmp 2, .tmp 3, .tmp 4, .tmp 5, .tmp 6]) rfl (by simp) (.tmp (.tmp (.tmp (.tmp (.tmp .nil)))))) rfl ?_
  exact ⟨by first | rfl | (simp; done) | (simp [*]; done), by repeat (first | exact Drawn0.refl _ | apply Drawn0.step)⟩

/-! ### decode_reaches: function 57 -/
mutual
def decode_reaches.j0 : Nat → Int → Int → Int → Bool → Option (Bool)
  | 0, _, _, _, _ => none
  | k + 1, x0, x3, x4, x19 => if x19 = true then (some true) else (if x4 = 6 then (decode_reaches.j1 k x0 (x3 == 1)) else (decode_reaches.j1 k x0 false))
def decode_reaches.j1 : Nat → Int → Bool → Option (Bool)
  | 0, _, _ => none
  | k + 1, x0, x19 => if x19 = true then (some true) else (if x0 = 52 then (some true) else (if x0 = 53 then (some true) else (if x0 = 54 then (some true) else (some false))))
end
def decode_reaches.f (k : Nat) (a0 : Int) : Option (Bool) := (decode_Parts.f a0).bind fun bt102 => (if a0 = 118 then (some false) else (if bt102.2.2.1 = 6 then (if bt102.1 = 1 then (decode_reaches.j0 k a0 bt102.1 bt102.2.1 true) else (decode_reaches.j0 k a0 bt102.1 bt102.2.1 (bt102.1 == 2))) else (decode_reaches.j0 k a0 bt102.1 bt102.2.1 false)))
theorem decode_reaches.mono_l : ∀ k, (∀ y0 y1 y2 y3, LeO (decode_reaches.j0 k y0 y1 y2 y3) (decode_reaches.j0 (k + 1) y0 y1 y2 y3)) ∧ (∀ y0 y1, LeO (decode_reaches.j1 k y0 y1) (decode_reaches.j1 (k + 1) y0 y1))
  | 0 => ⟨fun _ _ _ _ r h => by simp [decode_reaches.j0] at h, fun _ _ r h => by simp [decode_reaches.j1] at h⟩
  | k + 1 => by
    obtain ⟨ih0, ih1⟩ := decode_reaches.mono_l k
    refine ⟨?_, ?_⟩
    · intro y0 y1 y2 y3
      unfold decode_reaches.j0
      repeat' first
      | (with_reducible exact ih0 _ _ _ _)
      | (with_reducible exact ih1 _ _)
      | (with_reducible exact LeO.refl _)
      | (with_reducible exact LeO.none _)
      | (with_reducible refine LeO.ite ?_ ?_)
      | (with_reducible refine LeO.bind ?_ (fun _ => ?_))
      | exact ih0 _ _ _ _
      | exact ih1 _ _
      | exact LeO.none _
      | refine LeO.ite ?_ ?_
      | refine LeO.bind ?_ (fun _ => ?_)
    · intro y0 y1
      unfold decode_reaches.j1
      repeat' first
      | (with_reducible exact ih0 _ _ _ _)
      | (with_reducible exact ih1 _ _)
      | (with_reducible exact LeO.refl _)
      | (with_reducible exact LeO.none _)
      | (with_reducible refine LeO.ite ?_ ?_)
      | (with_reducible refine LeO.bind ?_ (fun _ => ?_))
      | exact ih0 _ _ _ _
      | exact ih1 _ _
      | exact LeO.none _
      | refine LeO.ite ?_ ?_
      | refine LeO.bind ?_ (fun _ => ?_)
theorem decode_reaches.mono : ∀ a0 k, LeO (decode_reaches.f k a0) (decode_reaches.f (k + 1) a0) := by
  intro a0 k
  obtain ⟨ih0, ih1⟩ := decode_reaches.mono_l k
  unfold decode_reaches.f
  repeat' first
      | (with_reducible exact ih0 _ _ _ _)
      | (with_reducible exact ih1 _ _)
      | (with_reducible exact LeO.refl _)
      | (with_reducible exact LeO.none _)
      | (with_reducible refine LeO.ite ?_ ?_)
      | (with_reducible refine LeO.bind ?_ (fun _ => ?_))
      | exact ih0 _ _ _ _
      | exact ih1 _ _
      | exact LeO.none _
      | refine LeO.ite ?_ ?_
      | refine LeO.bind ?_ (fun _ => ?_)
set_option maxHeartbeats 8000000 in
set_option maxRecDepth 100000 in
theorem decode_reaches.calls (k : Nat) (a0 : Int) (r : Bool) (w : World) (h : decode_reaches.f k a0 = some r) :
    Calls Try.prog 57 #[.int .i64 a0] w fun e w' => e = .returned (.bool r) ∧ Drawn0 w w' := by
  have H : ((decode_Parts.f a0).bind fun bt102 => (if a0 = 118 then (some false) else (if bt102.2.2.1 = 6 then (if bt102.1 = 1 then (decode_reaches.j0 k a0 bt102.1 bt102.2.1 true) else (decode_reaches.j0 k a0 bt102.1 bt102.2.1 (bt102.1 == 2))) else (decode_reaches.j0 k a0 bt102.1 bt102.2.1 false)))) = some r := h
  clear h
  replace H := Option.bind_eq_some_iff.mp H
  obtain ⟨⟨t102, t103, t104, t105, t106⟩, A20, H⟩ := H
  replace H : (if a0 = 118 then (some false) else (if t104 = 6 then (if t102 = 1 then (decode_reaches.j0 k a0 t102 t103 true) else (decode_reaches.j0 k a0 t102 t103 (t102 == 2))) else (decode_reaches.j0 k a0 t102 t103 false))) = some r := H
  have A2 := Aside0.mk A20
  clear A20
  by_cases c3 : a0 = 118
  · rw [if_pos c3] at H
    have c3b0 : (a0 == 118) = true := beq_iff_eq.mpr c3
    have c3b1 : (a0 != 118) = false := bne_eq_false_iff_eq.mpr c3
    clear c3
    obtain rfl := Option.some.inj H
    go_enter Try.func57, Try.ntmps57
    go_wp2_with (first | ((with_reducible refine gate_callee (f := 34) rfl ?_); refine goesL_ (some 10) rfl rfl Try.func34 (by kernel_rfl) rfl #[.int .i64 a0] rfl (by (try simp only [List.map_toArray, List.map_cons, List.map_nil]); first | done | rfl | (simp only [List.length_drop, List.length_take]; rfl)) ?_; (with_reducible refine (decode_Parts.calls a0 t102 t103 t104 t105 t106 _ A2.out).mono ?_); rintro e w' ⟨rfl, ⟨nd, rfl⟩⟩; refine ⟨_, rfl, ?_⟩))
    go_ret
    exact ⟨by first | rfl | (simp; done) | (simp [*]; done), by repeat (first | exact Drawn0.refl _ | apply Drawn0.step)⟩
  · rw [if_neg c3] at H
    have c3b0 : (a0 == 118) = false := beq_eq_false_iff_ne.mpr c3
    have c3b1 : (a0 != 118) = true := bne_iff_ne.mpr c3
    have HC4 := Aside0.mk H
    clear H
    go_enter Try.func57, Try.ntmps57
    go_upto_region 4 with (first | ((with_reducible refine gate_callee (f := 34) rfl ?_); refine goesL_ (some 10) rfl rfl Try.func34 (by kernel_rfl) rfl #[.int .i64 a0] rfl (by (try simp only [List.map_toArray, List.map_cons, List.map_nil]); first | done | rfl | (simp only [List.length_drop, List.length_take]; rfl)) ?_; (with_reducible refine (decode_Parts.calls a0 t102 t103 t104 t105 t106 _ A2.out).mono ?_); rintro e w' ⟨rfl, ⟨nd, rfl⟩⟩; refine ⟨_, rfl, ?_⟩))
    (try simp only [Act.put, List.setIfInBounds_toArray, List.set_cons_zero, List.set_cons_succ])
    go_cut [19] (fun v19 wc => ∃ (kq : Nat) (x19_3 : Bool), v19 = .bool x19_3 ∧ Aside0 (decode_reaches.j0 kq a0 t102 t103 x19_3 = some r) ∧ Aside0 (kq ≤ k) ∧ Drawn0 w wc)
    case first =>
      have H := HC4.out
      clear HC4
      by_cases c5 : t104 = 6
      · rw [if_pos c5] at H
        have c5b0 : (t104 == 6) = true := beq_iff_eq.mpr c5
        have c5b1 : (t104 != 6) = false := bne_eq_false_iff_eq.mpr c5
        clear c5
        (first | rw [c5b0] | (simp only [i64_w, i32_w]; rw [c5b0]) | skip)
        by_cases c6 : t102 = 1
        · rw [if_pos c6] at H
          have c6b0 : (t102 == 1) = true := beq_iff_eq.mpr c6
          have c6b1 : (t102 != 1) = false := bne_eq_false_iff_eq.mpr c6
          clear c6
          have H' := Aside0.mk H
          clear H
          go_wp2
          go_meet
          case rel => exact ⟨_, (true), (by first | rfl | (simp; done) | (simp [*]; done)), H', ⟨by first | omega | exact Nat.le_refl _⟩, by repeat (first | exact Drawn0.refl _ | apply Drawn0.step)⟩
        · rw [if_neg c6] at H
          have c6b0 : (t102 == 1) = false := beq_eq_false_iff_ne.mpr c6
          have c6b1 : (t102 != 1) = true := bne_iff_ne.mpr c6
          have H' := Aside0.mk H
          clear H
          go_wp2
          go_meet
          case rel => exact ⟨_, ((t102 == 2)), (by first | rfl | (simp; done) | (simp [*]; done)), H', ⟨by first | omega | exact Nat.le_refl _⟩, by repeat (first | exact Drawn0.refl _ | apply Drawn0.step)⟩
      · rw [if_neg c5] at H
        have c5b0 : (t104 == 6) = false := beq_eq_false_iff_ne.mpr c5
        have c5b1 : (t104 != 6) = true := bne_iff_ne.mpr c5
        (first | rw [c5b0] | (simp only [i64_w, i32_w]; rw [c5b0]) | skip)
        have H' := Aside0.mk H
        clear H
        go_wp2
        go_meet
        case rel => exact ⟨_, (false), (by first | rfl | (simp; done) | (simp [*]; done)), H', ⟨by first | omega | exact Nat.le_refl _⟩, by repeat (first | exact Drawn0.refl _ | apply Drawn0.step)⟩
    case rest =>
      clear HC4
      try clear p2
      try clear c3
      try clear c3b0
      try clear c3b1
      try clear c5
      try clear c5b0
      try clear c5b1
      try clear c6
      try clear c6b0
      try clear c6b1
      obtain ⟨kq, x19_3, rfl, HA, HJ3, ⟨mc3, rfl⟩⟩ := hcut
      cases kq with
      | zero => exact absurd HA.out (by simp [decode_reaches.j0])
      | succ kj3 =>
        have H := HA.out
        clear HA
        simp only [decode_reaches.j0] at H
        by_cases c7 : x19_3 = true
        · subst c7
          have H1 : (some true) = some r := by rw [if_pos rfl] at H; exact H
          clear H
          have H := H1
          clear H1
          obtain rfl := Option.some.inj H
          go_wp2
          go_ret
          exact ⟨by first | rfl | (simp; done) | (simp [*]; done), by repeat (first | exact Drawn0.refl _ | apply Drawn0.step)⟩
        · replace c7 := Bool.eq_false_iff.mpr c7
          subst c7
          have H1 : (if t103 = 6 then (decode_reaches.j1 kj3 a0 (t102 == 1)) else (decode_reaches.j1 kj3 a0 false)) = some r := by rw [if_neg (show ¬ (false = true) by decide)] at H; exact H
          clear H
          have H := H1
          clear H1
          have HC8 := Aside0.mk H
          clear H
          go_upto_region 5 with (fail)
          go_cut [19] (fun v19 wc => ∃ (kq : Nat) (x19_7 : Bool), v19 = .bool x19_7 ∧ Aside0 (decode_reaches.j1 kq a0 x19_7 = some r) ∧ Aside0 (kq ≤ kj3) ∧ Drawn0 w wc)
          case first =>
            have H := HC8.out
            clear HC8
            by_cases c9 : t103 = 6
            · rw [if_pos c9] at H
              have c9b0 : (t103 == 6) = true := beq_iff_eq.mpr c9
              have c9b1 : (t103 != 6) = false := bne_eq_false_iff_eq.mpr c9
              clear c9
              (first | rw [c9b0] | (simp only [i64_w, i32_w]; rw [c9b0]) | skip)
              have H' := Aside0.mk H
              clear H
              go_wp2
              go_meet
              case rel => exact ⟨_, ((t102 == 1)), (by first | rfl | (simp; done) | (simp [*]; done)), H', ⟨by have := HJ3.out; first | omega | exact Nat.le_refl _⟩, by repeat (first | exact Drawn0.refl _ | apply Drawn0.step)⟩
            · rw [if_neg c9] at H
              have c9b0 : (t103 == 6) = false := beq_eq_false_iff_ne.mpr c9
              have c9b1 : (t103 != 6) = true := bne_iff_ne.mpr c9
              (first | rw [c9b0] | (simp only [i64_w, i32_w]; rw [c9b0]) | skip)
              have H' := Aside0.mk H
              clear H
              go_wp2
              go_meet
              case rel => exact ⟨_, (false), (by first | rfl | (simp; done) | (simp [*]; done)), H', ⟨by have := HJ3.out; first | omega | exact Nat.le_refl _⟩, by repeat (first | exact Drawn0.refl _ | apply Drawn0.step)⟩
          case rest =>
            clear HC8
            try clear p2
            try clear c3
            try clear c3b0
            try clear c3b1
            try clear c5
            try clear c5b0
            try clear c5b1
            try clear c6
            try clear c6b0
            try clear c6b1
            try clear c7
            try clear c9
            try clear c9b0
            try clear c9b1
            try clear p2
            obtain ⟨kq, x19_7, rfl, HA, HJ7, ⟨mc7, rfl⟩⟩ := hcut
            cases kq with
            | zero => exact absurd HA.out (by simp [decode_reaches.j1])
            | succ kj7 =>
              have H := HA.out
              clear HA
              simp only [decode_reaches.j1] at H
              by_cases c10 : x19_7 = true
              · subst c10
                have H1 : (some true) = some r := by rw [if_pos rfl] at H; exact H
                clear H
                have H := H1
                clear H1
                obtain rfl := Option.some.inj H
                go_wp2
                go_ret
                exact ⟨by first | rfl | (simp; done) | (simp [*]; done), by repeat (first | exact Drawn0.refl _ | apply Drawn0.step)⟩
              · replace c10 := Bool.eq_false_iff.mpr c10
                subst c10
                have H1 : (if a0 = 52 then (some true) else (if a0 = 53 then (some true) else (if a0 = 54 then (some true) else (some false)))) = some r := by rw [if_neg (show ¬ (false = true) by decide)] at H; exact H
                clear H
                have H := H1
                clear H1
                by_cases c11 : a0 = 52
                · rw [if_pos c11] at H
                  have c11b0 : (a0 == 52) = true := beq_iff_eq.mpr c11
                  have c11b1 : (a0 != 52) = false := bne_eq_false_iff_eq.mpr c11
                  clear c11
                  obtain rfl := Option.some.inj H
                  go_wp2
                  go_ret
                  exact ⟨by first | rfl | (simp; done) | (simp [*]; done), by repeat (first | exact Drawn0.refl _ | apply Drawn0.step)⟩
                · rw [if_neg c11] at H
                  have c11b0 : (a0 == 52) = false := beq_eq_false_iff_ne.mpr c11
                  have c11b1 : (a0 != 52) = true := bne_iff_ne.mpr c11
                  by_cases c12 : a0 = 53
                  · rw [if_pos c12] at H
                    have c12b0 : (a0 == 53) = true := beq_iff_eq.mpr c12
                    have c12b1 : (a0 != 53) = false := bne_eq_false_iff_eq.mpr c12
                    clear c12
                    obtain rfl := Option.some.inj H
                    go_wp2
                    go_ret
                    exact ⟨by first | rfl | (simp; done) | (simp [*]; done), by repeat (first | exact Drawn0.refl _ | apply Drawn0.step)⟩
                  · rw [if_neg c12] at H
                    have c12b0 : (a0 == 53) = false := beq_eq_false_iff_ne.mpr c12
                    have c12b1 : (a0 != 53) = true := bne_iff_ne.mpr c12
                    by_cases c13 : a0 = 54
                    · rw [if_pos c13] at H
                      have c13b0 : (a0 == 54) = true := beq_iff_eq.mpr c13
                      have c13b1 : (a0 != 54) = false := bne_eq_false_iff_eq.mpr c13
                      clear c13
                      obtain rfl := Option.some.inj H
                      go_wp2
                      go_ret
                      exact ⟨by first | rfl | (simp; done) | (simp [*]; done), by repeat (first | exact Drawn0.refl _ | apply Drawn0.step)⟩
                    · rw [if_neg c13] at H
                      have c13b0 : (a0 == 54) = false := beq_eq_false_iff_ne.mpr c13
                      have c13b1 : (a0 != 54) = true := bne_iff_ne.mpr c13
                      obtain rfl := Option.some.inj H
                      go_wp2
                      go_ret
                      exact ⟨by first | rfl | (simp; done) | (simp [*]; done), by repeat (first | exact Drawn0.refl _ | apply Drawn0.step)⟩

end Go.Proofs.Ythcokhnckbkecaa.HDecode
