-- Written by a program of this session out of Lean's print of the program (after the form of the kit's print.sh, with own turns); Lean checks it.
import Derived.Test.YtpmmneipfmbmlaaHShiftTurnsx0
import Derived.Test.YtpmmneipfmbmlaaHShiftTurnsx1
import Derived.Test.YtpmmneipfmbmlaaHShiftTurnsx2
namespace Go.Proofs.Ytpmmneipfmbmlaa.HShiftTurns
open Go.RowKit Go.Proofs.YtpmmneipfmbmlaaW.PrintWords Go.Proofs.YtpmmneipfmbmlaaW.PrintLast Go.Proofs.YtpmmneipfmbmlaaW.PrintMore
attribute [local go_sem] max2_int min2_int max_two min_two max_three min_three max_four min_four   -- for this text's walks alone
set_option linter.unusedVariables false
set_option linter.unusedSimpArgs false

/-! ### pendulumlaw06_ShiftTurns: function 11 -/
mutual
def pendulumlaw06_ShiftTurns.l0 : Nat → Int → Int → Int → Option (Bool)
  | 0, _, _, _ => none
  | k + 1, x0, x1, x5 => if x5 < 4 then (pendulumlaw06_ShiftTurns.l1 k x0 x1 x5 x0 x1 0) else (pendulumlaw06_ShiftTurns.l2 k x0 x1 0)
def pendulumlaw06_ShiftTurns.l1 : Nat → Int → Int → Int → Int → Int → Int → Option (Bool)
  | 0, _, _, _, _, _, _ => none
  | k + 1, x0, x1, x5, x6, x7, x8 => if x8 < (wrap64 (8 + (wrap64 (Int.tdiv x5 2)))) then ((shift_Shift.f k x5 x6 x7).bind fun bt126 => (pendulumlaw06_ShiftTurns.l1 k x0 x1 x5 bt126.1 bt126.2 (wrap64 (x8 + 1)))) else ((shift_Shift.f k x5 x0 x1).bind fun bt128 => ((shift_Shift.f k (Go.bits .xor .i64 x5 1) bt128.1 bt128.2).bind fun bt130 => (if x6 = x0 then (if bt130.1 = x0 then (if x5 ≥ 2 then (if (Go.bits .and .u8 x7 1) = (Go.bits .and .u8 x1 1) then (if (Go.bits .and .u8 bt130.2 1) = (Go.bits .and .u8 x1 1) then (pendulumlaw06_ShiftTurns.l0 k x0 x1 (wrap64 (x5 + 1))) else (some false)) else (some false)) else (pendulumlaw06_ShiftTurns.l0 k x0 x1 (wrap64 (x5 + 1)))) else (some false)) else (some false))))
def pendulumlaw06_ShiftTurns.l2 : Nat → Int → Int → Int → Option (Bool)
  | 0, _, _, _ => none
  | k + 1, x0, x1, x13 => if x13 < 8 then ((shift_Shift.f k x13 x0 x1).bind fun bt132 => (if (Int.tmod x13 2) = 1 then (if (Go.bits .and .u8 bt132.2 1) = (Int.tmod x0 2) then (if (Go.bits .and .u8 bt132.2 168) = (Go.bits .and .u8 bt132.1 168) then (if (((Go.bits .and .u8 bt132.2 64) != 0) != (bt132.1 == 0)) = true then (some false) else ((pendulumref05_Parity.f k bt132.1).bind fun t134 => (if (((Go.bits .and .u8 bt132.2 4) != 0) != t134) = true then (some false) else (if (Go.bits .and .u8 bt132.2 18) = 0 then (pendulumlaw06_ShiftTurns.l2 k x0 x1 (wrap64 (x13 + 1))) else (some false))))) else (some false)) else (some false)) else (if (Go.bits .and .u8 bt132.2 1) = (x0 / 128) then (if (Go.bits .and .u8 bt132.2 168) = (Go.bits .and .u8 bt132.1 168) then (if (((Go.bits .and .u8 bt132.2 64) != 0) != (bt132.1 == 0)) = true then (some false) else ((pendulumref05_Parity.f k bt132.1).bind fun t135 => (if (((Go.bits .and .u8 bt132.2 4) != 0) != t135) = true then (some false) else (if (Go.bits .and .u8 bt132.2 18) = 0 then (pendulumlaw06_ShiftTurns.l2 k x0 x1 (wrap64 (x13 + 1))) else (some false))))) else (some false)) else (some false)))) else ((shift_Shift.f k 4 x0 x1).bind fun bt136 => ((shift_Shift.f k 5 x0 x1).bind fun bt138 => ((shift_Shift.f k 6 x0 x1).bind fun bt140 => ((shift_Shift.f k 7 x0 x1).bind fun bt142 => (if bt136.1 = ((2 * x0) % 256) then (if bt140.1 = (((2 * x0) % 256) + 1) then (if bt142.1 = ((Int.tdiv x0 2) % 256) then (some ((IntKind.i8.wrap (bt138.1)) == ((IntKind.i8.wrap (x0)) / 2))) else (some false)) else (some false)) else (some false))))))
end
def pendulumlaw06_ShiftTurns.f (k : Nat) (a0 : Int) (a1 : Int) : Option (Bool) := (pendulumlaw06_lives.f k).bind fun t125 => (if t125 = true then (pendulumlaw06_ShiftTurns.l0 k a0 a1 0) else (some false))
theorem pendulumlaw06_ShiftTurns.mono_l : ∀ k, (∀ y0 y1 y2, LeO (pendulumlaw06_ShiftTurns.l0 k y0 y1 y2) (pendulumlaw06_ShiftTurns.l0 (k + 1) y0 y1 y2)) ∧ (∀ y0 y1 y2 y3 y4 y5, LeO (pendulumlaw06_ShiftTurns.l1 k y0 y1 y2 y3 y4 y5) (pendulumlaw06_ShiftTurns.l1 (k + 1) y0 y1 y2 y3 y4 y5)) ∧ (∀ y0 y1 y2, LeO (pendulumlaw06_ShiftTurns.l2 k y0 y1 y2) (pendulumlaw06_ShiftTurns.l2 (k + 1) y0 y1 y2))
  | 0 => ⟨fun _ _ _ r h => by simp [pendulumlaw06_ShiftTurns.l0] at h, fun _ _ _ _ _ _ r h => by simp [pendulumlaw06_ShiftTurns.l1] at h, fun _ _ _ r h => by simp [pendulumlaw06_ShiftTurns.l2] at h⟩
  | k + 1 => by
    obtain ⟨ih0, ih1, ih2⟩ := pendulumlaw06_ShiftTurns.mono_l k
    refine ⟨?_, ?_, ?_⟩
    · intro y0 y1 y2
      unfold pendulumlaw06_ShiftTurns.l0
      repeat' first
      | (with_reducible exact ih0 _ _ _)
      | (with_reducible exact ih1 _ _ _ _ _ _)
      | (with_reducible exact ih2 _ _ _)
      | (with_reducible exact pendulumlaw06_lives.mono _)
      | (with_reducible exact pendulumref05_Parity.mono _ _)
      | (with_reducible exact shift_Shift.mono _ _ _ _)
      | (with_reducible exact LeO.refl _)
      | (with_reducible exact LeO.none _)
      | (with_reducible refine LeO.ite ?_ ?_)
      | (with_reducible refine LeO.bind ?_ (fun _ => ?_))
      | exact ih0 _ _ _
      | exact ih1 _ _ _ _ _ _
      | exact ih2 _ _ _
      | exact pendulumlaw06_lives.mono _
      | exact pendulumref05_Parity.mono _ _
      | exact shift_Shift.mono _ _ _ _
      | exact LeO.none _
      | refine LeO.ite ?_ ?_
      | refine LeO.bind ?_ (fun _ => ?_)
    · intro y0 y1 y2 y3 y4 y5
      unfold pendulumlaw06_ShiftTurns.l1
      repeat' first
      | (with_reducible exact ih0 _ _ _)
      | (with_reducible exact ih1 _ _ _ _ _ _)
      | (with_reducible exact ih2 _ _ _)
      | (with_reducible exact pendulumlaw06_lives.mono _)
      | (with_reducible exact pendulumref05_Parity.mono _ _)
      | (with_reducible exact shift_Shift.mono _ _ _ _)
      | (with_reducible exact LeO.refl _)
      | (with_reducible exact LeO.none _)
      | (with_reducible refine LeO.ite ?_ ?_)
      | (with_reducible refine LeO.bind ?_ (fun _ => ?_))
      | exact ih0 _ _ _
      | exact ih1 _ _ _ _ _ _
      | exact ih2 _ _ _
      | exact pendulumlaw06_lives.mono _
      | exact pendulumref05_Parity.mono _ _
      | exact shift_Shift.mono _ _ _ _
      | exact LeO.none _
      | refine LeO.ite ?_ ?_
      | refine LeO.bind ?_ (fun _ => ?_)
    · intro y0 y1 y2
      unfold pendulumlaw06_ShiftTurns.l2
      repeat' first
      | (with_reducible exact ih0 _ _ _)
      | (with_reducible exact ih1 _ _ _ _ _ _)
      | (with_reducible exact ih2 _ _ _)
      | (with_reducible exact pendulumlaw06_lives.mono _)
      | (with_reducible exact pendulumref05_Parity.mono _ _)
      | (with_reducible exact shift_Shift.mono _ _ _ _)
      | (with_reducible exact LeO.refl _)
      | (with_reducible exact LeO.none _)
      | (with_reducible refine LeO.ite ?_ ?_)
      | (with_reducible refine LeO.bind ?_ (fun _ => ?_))
      | exact ih0 _ _ _
      | exact ih1 _ _ _ _ _ _
      | exact ih2 _ _ _
      | exact pendulumlaw06_lives.mono _
      | exact pendulumref05_Parity.mono _ _
      | exact shift_Shift.mono _ _ _ _
      | exact LeO.none _
      | refine LeO.ite ?_ ?_
      | refine LeO.bind ?_ (fun _ => ?_)
theorem pendulumlaw06_ShiftTurns.mono : ∀ a0 a1 k, LeO (pendulumlaw06_ShiftTurns.f k a0 a1) (pendulumlaw06_ShiftTurns.f (k + 1) a0 a1) := by
  intro a0 a1 k
  obtain ⟨ih0, ih1, ih2⟩ := pendulumlaw06_ShiftTurns.mono_l k
  unfold pendulumlaw06_ShiftTurns.f
  repeat' first
      | (with_reducible exact ih0 _ _ _)
      | (with_reducible exact ih1 _ _ _ _ _ _)
      | (with_reducible exact ih2 _ _ _)
      | (with_reducible exact pendulumlaw06_lives.mono _)
      | (with_reducible exact pendulumref05_Parity.mono _ _)
      | (with_reducible exact shift_Shift.mono _ _ _ _)
      | (with_reducible exact LeO.refl _)
      | (with_reducible exact LeO.none _)
      | (with_reducible refine LeO.ite ?_ ?_)
      | (with_reducible refine LeO.bind ?_ (fun _ => ?_))
      | exact ih0 _ _ _
      | exact ih1 _ _ _ _ _ _
      | exact ih2 _ _ _
      | exact pendulumlaw06_lives.mono _
      | exact pendulumref05_Parity.mono _ _
      | exact shift_Shift.mono _ _ _ _
      | exact LeO.none _
      | refine LeO.ite ?_ ?_
      | refine LeO.bind ?_ (fun _ => ?_)
set_option maxHeartbeats 8000000 in
set_option maxRecDepth 100000 in
theorem pendulumlaw06_ShiftTurns.calls (k : Nat) (a0 : Int) (a1 : Int) (r : Bool) (w : World) (h : pendulumlaw06_ShiftTurns.f k a0 a1 = some r) :
    Calls Try.prog 11 #[.int .u8 a0, .int .u8 a1] w fun e w' => e = .returned (.bool r) ∧ Drawn0 w w' := by
  have H : ((pendulumlaw06_lives.f k).bind fun t125 => (if t125 = true then (pendulumlaw06_ShiftTurns.l0 k a0 a1 0) else (some false))) = some r := h
  clear h
  replace H := Option.bind_eq_some_iff.mp H
  obtain ⟨t125, A30, H⟩ := H
  replace H : (if t125 = true then (pendulumlaw06_ShiftTurns.l0 k a0 a1 0) else (some false)) = some r := H
  have A3 := Aside0.mk A30
  clear A30
  by_cases c4 : t125 = true
  · subst c4
    have H1 : (pendulumlaw06_ShiftTurns.l0 k a0 a1 0) = some r := by rw [if_pos rfl] at H; exact H
    clear H
    have H := H1
    clear H1
    have H' := Aside0.mk H
    clear H
    go_enter Try.func11, Try.ntmps11
    go_wp2_with (first | ((with_reducible refine gate_callee (f := 51) rfl ?_); refine goesL_ (some 26) rfl rfl Try.func51 (by kernel_rfl) rfl #[] rfl (by (try simp only [List.map_toArray, List.map_cons, List.map_nil]); first | done | rfl | (simp only [List.length_drop, List.length_take]; rfl)) ?_; (with_reducible refine (pendulumlaw06_lives.calls k  true _ A3.out).mono ?_); rintro e w' ⟨rfl, ⟨nd, rfl⟩⟩; refine ⟨_, rfl, ?_⟩))
    go_loopg [5] k (fun kq v5 w' => ∃ (x5_1 : Int), v5 = .int .i64 x5_1 ∧ Aside0 (pendulumlaw06_ShiftTurns.l0 kq a0 a1 x5_1 = some r) ∧ Aside0 (kq ≤ k) ∧ Drawn0 w w')
    case atStart => exact ⟨(0), (by first | rfl | (simp; done) | (simp [*]; done)), H', ⟨Nat.le_refl _⟩, by repeat (first | exact Drawn0.refl _ | apply Drawn0.step)⟩
    case round =>
      clear H'
      try clear c1
      try clear p2
      try clear c4
      obtain ⟨x5_1, rfl, HA, HK1, ⟨m1, rfl⟩⟩ := hrel
      cases gk with
      | zero => exact absurd HA.out (by simp [pendulumlaw06_ShiftTurns.l0])
      | succ k1 =>
        have H := HA.out
        clear HA
        simp only [pendulumlaw06_ShiftTurns.l0] at H
        by_cases c5 : x5_1 < 4
        · rw [if_pos c5] at H
          have c5b0 : decide (x5_1 < 4) = true := decide_eq_true c5
          clear c5
          have H' := Aside0.mk H
          clear H
          go_wp2
          go_loopg [6, 7, 8] k1 (fun kq v6 v7 v8 w' => ∃ (x6_2 : Int) (x7_2 : Int) (x8_2 : Int), v6 = .int .u8 x6_2 ∧ v7 = .int .u8 x7_2 ∧ v8 = .int .i64 x8_2 ∧ Aside0 (pendulumlaw06_ShiftTurns.l1 kq a0 a1 x5_1 x6_2 x7_2 x8_2 = some r) ∧ Aside0 (kq ≤ k1) ∧ Drawn0 w w')
          case atStart => exact ⟨(a0), (a1), (0), (by first | rfl | (simp; done) | (simp [*]; done)), (by first | rfl | (simp; done) | (simp [*]; done)), (by first | rfl | (simp; done) | (simp [*]; done)), H', ⟨Nat.le_refl _⟩, by repeat (first | exact Drawn0.refl _ | apply Drawn0.step)⟩
          case round =>
            clear H'
            try clear c1
            try clear p2
            try clear c4
            try clear c5
            try clear c5b0
            try clear p2
            obtain ⟨x6_2, x7_2, x8_2, rfl, rfl, rfl, HA, HK2, ⟨m2, rfl⟩⟩ := hrel
            cases gk with
            | zero => exact absurd HA.out (by simp [pendulumlaw06_ShiftTurns.l1])
            | succ k2 =>
              have H := HA.out
              clear HA
              simp only [pendulumlaw06_ShiftTurns.l1] at H
              by_cases c6 : x8_2 < (wrap64 (8 + (wrap64 (Int.tdiv x5_1 2))))
              · rw [if_pos c6] at H
                have c6b0 : decide (x8_2 < (wrap64 (8 + (wrap64 (Int.tdiv x5_1 2))))) = true := decide_eq_true c6
                clear c6
                replace H := Option.bind_eq_some_iff.mp H
                obtain ⟨⟨t126, t127⟩, A70, H⟩ := H
                replace H : (pendulumlaw06_ShiftTurns.l1 k2 a0 a1 x5_1 t126 t127 (wrap64 (x8_2 + 1))) = some r := H
                have A7 := Aside0.mk A70
                clear A70
                have H' := Aside0.mk H
                clear H
                go_wp2_with (first | ((with_reducible refine gate_callee (f := 52) rfl ?_); refine goesL_ (some 45) rfl rfl Try.func52 (by kernel_rfl) rfl #[.int .i64 x5_1, .int .u8 x6_2, .int .u8 x7_2] rfl (by (try simp only [List.map_toArray, List.map_cons, List.map_nil]); first | done | rfl | (simp only [List.length_drop, List.length_take]; rfl)) ?_; (with_reducible refine (shift_Shift.calls k2 x5_1 x6_2 x7_2 t126 t127 _ A7.out).mono ?_); rintro e w' ⟨rfl, ⟨nd, rfl⟩⟩; refine ⟨_, rfl, ?_⟩))
                go_roundg k2
                case measure => have := HK1.out; have := HK2.out; omega
                case rel => exact ⟨(t126), (t127), (wrap64 (x8_2 + 1)), (by first | rfl | (simp; done) | (simp [*]; done)), (by first | rfl | (simp; done) | (simp [*]; done)), (by first | rfl | (simp; done) | (simp [*]; done)), H', ⟨by have := HK1.out; have := HK2.out; omega⟩, by repeat (first | exact Drawn0.refl _ | apply Drawn0.step)⟩
              · rw [if_neg c6] at H
                have c6b0 : decide (x8_2 < (wrap64 (8 + (wrap64 (Int.tdiv x5_1 2))))) = false := decide_eq_false c6
                clear c6
                replace H := Option.bind_eq_some_iff.mp H
                obtain ⟨⟨t128, t129⟩, A80, H⟩ := H
                replace H : ((shift_Shift.f k2 (Go.bits .xor .i64 x5_1 1) t128 t129).bind fun bt130 => (if x6_2 = a0 then (if bt130.1 = a0 then (if x5_1 ≥ 2 then (if (Go.bits .and .u8 x7_2 1) = (Go.bits .and .u8 a1 1) then (if (Go.bits .and .u8 bt130.2 1) = (Go.bits .and .u8 a1 1) then (pendulumlaw06_ShiftTurns.l0 k2 a0 a1 (wrap64 (x5_1 + 1))) else (some false)) else (some false)) else (pendulumlaw06_ShiftTurns.l0 k2 a0 a1 (wrap64 (x5_1 + 1)))) else (some false)) else (some false))) = some r := H
                have A8 := Aside0.mk A80
                clear A80
                replace H := Option.bind_eq_some_iff.mp H
                obtain ⟨⟨t130, t131⟩, A90, H⟩ := H
                replace H : (if x6_2 = a0 then (if t130 = a0 then (if x5_1 ≥ 2 then (if (Go.bits .and .u8 x7_2 1) = (Go.bits .and .u8 a1 1) then (if (Go.bits .and .u8 t131 1) = (Go.bits .and .u8 a1 1) then (pendulumlaw06_ShiftTurns.l0 k2 a0 a1 (wrap64 (x5_1 + 1))) else (some false)) else (some false)) else (pendulumlaw06_ShiftTurns.l0 k2 a0 a1 (wrap64 (x5_1 + 1)))) else (some false)) else (some false)) = some r := H
                have A9 := Aside0.mk A90
                clear A90
                by_cases c10 : x6_2 = a0
                · rw [if_pos c10] at H
                  have c10b0 : (x6_2 == a0) = true := beq_iff_eq.mpr c10
                  have c10b1 : (x6_2 != a0) = false := bne_eq_false_iff_eq.mpr c10
                  clear c10
                  by_cases c11 : t130 = a0
                  · rw [if_pos c11] at H
                    have c11b0 : (t130 == a0) = true := beq_iff_eq.mpr c11
                    have c11b1 : (t130 != a0) = false := bne_eq_false_iff_eq.mpr c11
                    clear c11
                    by_cases c12 : x5_1 ≥ 2
                    · rw [if_pos c12] at H
                      have c12b0 : decide (2 ≤ x5_1) = true := decide_eq_true c12
                      clear c12
                      by_cases c13 : (Go.bits .and .u8 x7_2 1) = (Go.bits .and .u8 a1 1)
                      · rw [if_pos c13] at H
                        have c13b0 : ((Go.bits .and .u8 x7_2 1) == (Go.bits .and .u8 a1 1)) = true := beq_iff_eq.mpr c13
                        have c13b1 : ((Go.bits .and .u8 x7_2 1) != (Go.bits .and .u8 a1 1)) = false := bne_eq_false_iff_eq.mpr c13
                        clear c13
                        by_cases c14 : (Go.bits .and .u8 t131 1) = (Go.bits .and .u8 a1 1)
                        · rw [if_pos c14] at H
                          have c14b0 : ((Go.bits .and .u8 t131 1) == (Go.bits .and .u8 a1 1)) = true := beq_iff_eq.mpr c14
                          have c14b1 : ((Go.bits .and .u8 t131 1) != (Go.bits .and .u8 a1 1)) = false := bne_eq_false_iff_eq.mpr c14
                          clear c14
                          have H' := Aside0.mk H
                          clear H
                          go_wp2_with (first | ((with_reducible refine gate_callee (f := 52) rfl ?_); refine goesL_ (some 52) rfl rfl Try.func52 (by kernel_rfl) rfl #[.int .i64 x5_1, .int .u8 a0, .int .u8 a1] rfl (by (try simp only [List.map_toArray, List.map_cons, List.map_nil]); first | done | rfl | (simp only [List.length_drop, List.length_take]; rfl)) ?_; (with_reducible refine (shift_Shift.calls k2 x5_1 a0 a1 t128 t129 _ A8.out).mono ?_); rintro e w' ⟨rfl, ⟨nd, rfl⟩⟩; refine ⟨_, rfl, ?_⟩) | ((with_reducible refine gate_callee (f := 52) rfl ?_); refine goesL_ (some 60) rfl rfl Try.func52 (by kernel_rfl) rfl #[.int .i64 (Go.bits .xor .i64 x5_1 1), .int .u8 t128, .int .u8 t129] rfl (by (try simp only [List.map_toArray, List.map_cons, List.map_nil]); first | done | rfl | (simp only [List.length_drop, List.length_take]; rfl)) ?_; (with_reducible refine (shift_Shift.calls k2 (Go.bits .xor .i64 x5_1 1) t128 t129 t130 t131 _ A9.out).mono ?_); rintro e w' ⟨rfl, ⟨nd, rfl⟩⟩; refine ⟨_, rfl, ?_⟩))
                          go_roundg k2
                          case measure => have := HK1.out; have := HK2.out; omega
                          case rel => exact ⟨(wrap64 (x5_1 + 1)), (by first | rfl | (simp; done) | (simp [*]; done)), H', ⟨by have := HK1.out; have := HK2.out; omega⟩, by repeat (first | exact Drawn0.refl _ | apply Drawn0.step)⟩
                        · rw [if_neg c14] at H
                          have c14b0 : ((Go.bits .and .u8 t131 1) == (Go.bits .and .u8 a1 1)) = false := beq_eq_false_iff_ne.mpr c14
                          have c14b1 : ((Go.bits .and .u8 t131 1) != (Go.bits .and .u8 a1 1)) = true := bne_iff_ne.mpr c14
                          obtain rfl := Option.some.inj H
                          go_wp2_with (first | ((with_reducible refine gate_callee (f := 52) rfl ?_); refine goesL_ (some 52) rfl rfl Try.func52 (by kernel_rfl) rfl #[.int .i64 x5_1, .int .u8 a0, .int .u8 a1] rfl (by (try simp only [List.map_toArray, List.map_cons, List.map_nil]); first | done | rfl | (simp only [List.length_drop, List.length_take]; rfl)) ?_; (with_reducible refine (shift_Shift.calls k2 x5_1 a0 a1 t128 t129 _ A8.out).mono ?_); rintro e w' ⟨rfl, ⟨nd, rfl⟩⟩; refine ⟨_, rfl, ?_⟩) | ((with_reducible refine gate_callee (f := 52) rfl ?_); refine goesL_ (some 60) rfl rfl Try.func52 (by kernel_rfl) rfl #[.int .i64 (Go.bits .xor .i64 x5_1 1), .int .u8 t128, .int .u8 t129] rfl (by (try simp only [List.map_toArray, List.map_cons, List.map_nil]); first | done | rfl | (simp only [List.length_drop, List.length_take]; rfl)) ?_; (with_reducible refine (shift_Shift.calls k2 (Go.bits .xor .i64 x5_1 1) t128 t129 t130 t131 _ A9.out).mono ?_); rintro e w' ⟨rfl, ⟨nd, rfl⟩⟩; refine ⟨_, rfl, ?_⟩))
                          go_ret
                          exact ⟨by first | rfl | (simp; done) | (simp [*]; done) | (simp; omega), by repeat (first | exact Drawn0.refl _ | apply Drawn0.step)⟩
                      · rw [if_neg c13] at H
                        have c13b0 : ((Go.bits .and .u8 x7_2 1) == (Go.bits .and .u8 a1 1)) = false := beq_eq_false_iff_ne.mpr c13
                        have c13b1 : ((Go.bits .and .u8 x7_2 1) != (Go.bits .and .u8 a1 1)) = true := bne_iff_ne.mpr c13
                        obtain rfl := Option.some.inj H
                        go_wp2_with (first | ((with_reducible refine gate_callee (f := 52) rfl ?_); refine goesL_ (some 52) rfl rfl Try.func52 (by kernel_rfl) rfl #[.int .i64 x5_1, .int .u8 a0, .int .u8 a1] rfl (by (try simp only [List.map_toArray, List.map_cons, List.map_nil]); first | done | rfl | (simp only [List.length_drop, List.length_take]; rfl)) ?_; (with_reducible refine (shift_Shift.calls k2 x5_1 a0 a1 t128 t129 _ A8.out).mono ?_); rintro e w' ⟨rfl, ⟨nd, rfl⟩⟩; refine ⟨_, rfl, ?_⟩) | ((with_reducible refine gate_callee (f := 52) rfl ?_); refine goesL_ (some 60) rfl rfl Try.func52 (by kernel_rfl) rfl #[.int .i64 (Go.bits .xor .i64 x5_1 1), .int .u8 t128, .int .u8 t129] rfl (by (try simp only [List.map_toArray, List.map_cons, List.map_nil]); first | done | rfl | (simp only [List.length_drop, List.length_take]; rfl)) ?_; (with_reducible refine (shift_Shift.calls k2 (Go.bits .xor .i64 x5_1 1) t128 t129 t130 t131 _ A9.out).mono ?_); rintro e w' ⟨rfl, ⟨nd, rfl⟩⟩; refine ⟨_, rfl, ?_⟩))
                        go_ret
                        exact ⟨by first | rfl | (simp; done) | (simp [*]; done) | (simp; omega), by repeat (first | exact Drawn0.refl _ | apply Drawn0.step)⟩
                    · rw [if_neg c12] at H
                      have c12b0 : decide (2 ≤ x5_1) = false := decide_eq_false c12
                      clear c12
                      have H' := Aside0.mk H
                      clear H
                      go_wp2_with (first | ((with_reducible refine gate_callee (f := 52) rfl ?_); refine goesL_ (some 52) rfl rfl Try.func52 (by kernel_rfl) rfl #[.int .i64 x5_1, .int .u8 a0, .int .u8 a1] rfl (by (try simp only [List.map_toArray, List.map_cons, List.map_nil]); first | done | rfl | (simp only [List.length_drop, List.length_take]; rfl)) ?_; (with_reducible refine (shift_Shift.calls k2 x5_1 a0 a1 t128 t129 _ A8.out).mono ?_); rintro e w' ⟨rfl, ⟨nd, rfl⟩⟩; refine ⟨_, rfl, ?_⟩) | ((with_reducible refine gate_callee (f := 52) rfl ?_); refine goesL_ (some 60) rfl rfl Try.func52 (by kernel_rfl) rfl #[.int .i64 (Go.bits .xor .i64 x5_1 1), .int .u8 t128, .int .u8 t129] rfl (by (try simp only [List.map_toArray, List.map_cons, List.map_nil]); first | done | rfl | (simp only [List.length_drop, List.length_take]; rfl)) ?_; (with_reducible refine (shift_Shift.calls k2 (Go.bits .xor .i64 x5_1 1) t128 t129 t130 t131 _ A9.out).mono ?_); rintro e w' ⟨rfl, ⟨nd, rfl⟩⟩; refine ⟨_, rfl, ?_⟩))
                      go_roundg k2
                      case measure => have := HK1.out; have := HK2.out; omega
                      case rel => exact ⟨(wrap64 (x5_1 + 1)), (by first | rfl | (simp; done) | (simp [*]; done)), H', ⟨by have := HK1.out; have := HK2.out; omega⟩, by repeat (first | exact Drawn0.refl _ | apply Drawn0.step)⟩
                  · rw [if_neg c11] at H
                    have c11b0 : (t130 == a0) = false := beq_eq_false_iff_ne.mpr c11
                    have c11b1 : (t130 != a0) = true := bne_iff_ne.mpr c11
                    obtain rfl := Option.some.inj H
                    go_wp2_with (first | ((with_reducible refine gate_callee (f := 52) rfl ?_); refine goesL_ (some 52) rfl rfl Try.func52 (by kernel_rfl) rfl #[.int .i64 x5_1, .int .u8 a0, .int .u8 a1] rfl (by (try simp only [List.map_toArray, List.map_cons, List.map_nil]); first | done | rfl | (simp only [List.length_drop, List.length_take]; rfl)) ?_; (with_reducible refine (shift_Shift.calls k2 x5_1 a0 a1 t128 t129 _ A8.out).mono ?_); rintro e w' ⟨rfl, ⟨nd, rfl⟩⟩; refine ⟨_, rfl, ?_⟩) | ((with_reducible refine gate_callee (f := 52) rfl ?_); refine goesL_ (some 60) rfl rfl Try.func52 (by kernel_rfl) rfl #[.int .i64 (Go.bits .xor .i64 x5_1 1), .int .u8 t128, .int .u8 t129] rfl (by (try simp only [List.map_toArray, List.map_cons, List.map_nil]); first | done | rfl | (simp only [List.length_drop, List.length_take]; rfl)) ?_; (with_reducible refine (shift_Shift.calls k2 (Go.bits .xor .i64 x5_1 1) t128 t129 t130 t131 _ A9.out).mono ?_); rintro e w' ⟨rfl, ⟨nd, rfl⟩⟩; refine ⟨_, rfl, ?_⟩))
                    go_ret
                    exact ⟨by first | rfl | (simp; done) | (simp [*]; done) | (simp; omega), by repeat (first | exact Drawn0.refl _ | apply Drawn0.step)⟩
                · rw [if_neg c10] at H
                  have c10b0 : (x6_2 == a0) = false := beq_eq_false_iff_ne.mpr c10
                  have c10b1 : (x6_2 != a0) = true := bne_iff_ne.mpr c10
                  obtain rfl := Option.some.inj H
                  go_wp2_with (first | ((with_reducible refine gate_callee (f := 52) rfl ?_); refine goesL_ (some 52) rfl rfl Try.func52 (by kernel_rfl) rfl #[.int .i64 x5_1, .int .u8 a0, .int .u8 a1] rfl (by (try simp only [List.map_toArray, List.map_cons, List.map_nil]); first | done | rfl | (simp only [List.length_drop, List.length_take]; rfl)) ?_; (with_reducible refine (shift_Shift.calls k2 x5_1 a0 a1 t128 t129 _ A8.out).mono ?_); rintro e w' ⟨rfl, ⟨nd, rfl⟩⟩; refine ⟨_, rfl, ?_⟩) | ((with_reducible refine gate_callee (f := 52) rfl ?_); refine goesL_ (some 60) rfl rfl Try.func52 (by kernel_rfl) rfl #[.int .i64 (Go.bits .xor .i64 x5_1 1), .int .u8 t128, .int .u8 t129] rfl (by (try simp only [List.map_toArray, List.map_cons, List.map_nil]); first | done | rfl | (simp only [List.length_drop, List.length_take]; rfl)) ?_; (with_reducible refine (shift_Shift.calls k2 (Go.bits .xor .i64 x5_1 1) t128 t129 t130 t131 _ A9.out).mono ?_); rintro e w' ⟨rfl, ⟨nd, rfl⟩⟩; refine ⟨_, rfl, ?_⟩))
                  go_ret
                  exact ⟨by first | rfl | (simp; done) | (simp [*]; done) | (simp; omega), by repeat (first | exact Drawn0.refl _ | apply Drawn0.step)⟩
        · rw [if_neg c5] at H
          have c5b0 : decide (x5_1 < 4) = false := decide_eq_false c5
          clear c5
          have H' := Aside0.mk H
          clear H
          go_wp2
          go_loopg [13] k1 (fun kq v13 w' => ∃ (x13_2 : Int), v13 = .int .i64 x13_2 ∧ Aside0 (pendulumlaw06_ShiftTurns.l2 kq a0 a1 x13_2 = some r) ∧ Aside0 (kq ≤ k1) ∧ Drawn0 w w')
          case atStart => exact ⟨(0), (by first | rfl | (simp; done) | (simp [*]; done)), H', ⟨Nat.le_refl _⟩, by repeat (first | exact Drawn0.refl _ | apply Drawn0.step)⟩
          case round =>
            clear H'
            try clear c1
            try clear p2
            try clear c4
            try clear c5
            try clear c5b0
            try clear c6
            try clear c6b0
            try clear p6
            try clear c10
            try clear c10b0
            try clear c10b1
            try clear c11
            try clear c11b0
            try clear c11b1
            try clear c12
            try clear c12b0
            try clear c13
            try clear c13b0
            try clear c13b1
            try clear c14
            try clear c14b0
            try clear c14b1
            try clear p2
            obtain ⟨x13_2, rfl, HA, HK2, ⟨m2, rfl⟩⟩ := hrel
            cases gk with
            | zero => exact absurd HA.out (by simp [pendulumlaw06_ShiftTurns.l2])
            | succ k2 =>
              have H := HA.out
              clear HA
              simp only [pendulumlaw06_ShiftTurns.l2] at H
              by_cases c15 : x13_2 < 8
              · rw [if_pos c15] at H
                have c15b0 : decide (x13_2 < 8) = true := decide_eq_true c15
                clear c15
                replace H := Option.bind_eq_some_iff.mp H
                obtain ⟨⟨t132, t133⟩, A160, H⟩ := H
                replace H : (if (Int.tmod x13_2 2) = 1 then (if (Go.bits .and .u8 t133 1) = (Int.tmod a0 2) then (if (Go.bits .and .u8 t133 168) = (Go.bits .and .u8 t132 168) then (if (((Go.bits .and .u8 t133 64) != 0) != (t132 == 0)) = true then (some false) else ((pendulumref05_Parity.f k2 t132).bind fun t134 => (if (((Go.bits .and .u8 t133 4) != 0) != t134) = true then (some false) else (if (Go.bits .and .u8 t133 18) = 0 then (pendulumlaw06_ShiftTurns.l2 k2 a0 a1 (wrap64 (x13_2 + 1))) else (some false))))) else (some false)) else (some false)) else (if (Go.bits .and .u8 t133 1) = (a0 / 128) then (if (Go.bits .and .u8 t133 168) = (Go.bits .and .u8 t132 168) then (if (((Go.bits .and .u8 t133 64) != 0) != (t132 == 0)) = true then (some false) else ((pendulumref05_Parity.f k2 t132).bind fun t135 => (if (((Go.bits .and .u8 t133 4) != 0) != t135) = true then (some false) else (if (Go.bits .and .u8 t133 18) = 0 then (pendulumlaw06_ShiftTurns.l2 k2 a0 a1 (wrap64 (x13_2 + 1))) else (some false))))) else (some false)) else (some false))) = some r := H
                have A16 := Aside0.mk A160
                clear A160
                by_cases c17 : (Int.tmod x13_2 2) = 1
                · rw [if_pos c17] at H
                  have c17b0 : ((Int.tmod x13_2 2) == 1) = true := beq_iff_eq.mpr c17
                  have c17b1 : ((Int.tmod x13_2 2) != 1) = false := bne_eq_false_iff_eq.mpr c17
                  clear c17
                  by_cases c18 : (Go.bits .and .u8 t133 1) = (Int.tmod a0 2)
                  · rw [if_pos c18] at H
                    have c18b0 : ((Go.bits .and .u8 t133 1) == (Int.tmod a0 2)) = true := beq_iff_eq.mpr c18
                    have c18b1 : ((Go.bits .and .u8 t133 1) != (Int.tmod a0 2)) = false := bne_eq_false_iff_eq.mpr c18
                    clear c18
                    by_cases c19 : (Go.bits .and .u8 t133 168) = (Go.bits .and .u8 t132 168)
                    · rw [if_pos c19] at H
                      have c19b0 : ((Go.bits .and .u8 t133 168) == (Go.bits .and .u8 t132 168)) = true := beq_iff_eq.mpr c19
                      have c19b1 : ((Go.bits .and .u8 t133 168) != (Go.bits .and .u8 t132 168)) = false := bne_eq_false_iff_eq.mpr c19
                      clear c19
                      by_cases c20 : (((Go.bits .and .u8 t133 64) != 0) != (t132 == 0)) = true
                      · rw [if_pos c20] at H
                        have c20b0 : (((Go.bits .and .u8 t133 64) != 0) != (t132 == 0)) = true := c20
                        (try (have c20b1 : decide (((Go.bits .and .u8 t133 64) != 0) = (t132 == 0)) = false := by simpa using c20))
                        (try (have c20b2 : (((Go.bits .and .u8 t133 64) != 0) == (t132 == 0)) = false := by simpa using c20))
                        (try (have c20b3 : ¬ (((Go.bits .and .u8 t133 64) != 0) = (t132 == 0)) := by simpa using c20))
                        clear c20
                        obtain rfl := Option.some.inj H
                        go_wp2_with (first | ((with_reducible refine gate_callee (f := 52) rfl ?_); refine goesL_ (some 97) rfl rfl Try.func52 (by kernel_rfl) rfl #[.int .i64 x13_2, .int .u8 a0, .int .u8 a1] rfl (by (try simp only [List.map_toArray, List.map_cons, List.map_nil]); first | done | rfl | (simp only [List.length_drop, List.length_take]; rfl)) ?_; (with_reducible refine (shift_Shift.calls k2 x13_2 a0 a1 t132 t133 _ A16.out).mono ?_); rintro e w' ⟨rfl, ⟨nd, rfl⟩⟩; refine ⟨_, rfl, ?_⟩))
                        go_ret
                        exact ⟨by first | rfl | (simp; done) | (simp [*]; done) | (simp; omega), by repeat (first | exact Drawn0.refl _ | apply Drawn0.step)⟩
                      · rw [if_neg c20] at H
                        have c20b0 : (((Go.bits .and .u8 t133 64) != 0) != (t132 == 0)) = false := by simpa using c20
                        (try (have c20b1 : decide (((Go.bits .and .u8 t133 64) != 0) = (t132 == 0)) = true := by simpa using c20))
                        (try (have c20b2 : (((Go.bits .and .u8 t133 64) != 0) == (t132 == 0)) = true := by simpa using c20))
                        clear c20
                        replace H := Option.bind_eq_some_iff.mp H
                        obtain ⟨t134, A210, H⟩ := H
                        replace H : (if (((Go.bits .and .u8 t133 4) != 0) != t134) = true then (some false) else (if (Go.bits .and .u8 t133 18) = 0 then (pendulumlaw06_ShiftTurns.l2 k2 a0 a1 (wrap64 (x13_2 + 1))) else (some false))) = some r := H
                        have A21 := Aside0.mk A210
                        clear A210
                        by_cases c22 : (((Go.bits .and .u8 t133 4) != 0) != t134) = true
                        · rw [if_pos c22] at H
                          have c22b0 : (((Go.bits .and .u8 t133 4) != 0) != t134) = true := c22
                          (try (have c22b1 : decide (((Go.bits .and .u8 t133 4) != 0) = t134) = false := by simpa using c22))
                          (try (have c22b2 : (((Go.bits .and .u8 t133 4) != 0) == t134) = false := by simpa using c22))
                          (try (have c22b3 : ¬ (((Go.bits .and .u8 t133 4) != 0) = t134) := by simpa using c22))
                          clear c22
                          obtain rfl := Option.some.inj H
                          go_wp2_with (first | ((with_reducible refine gate_callee (f := 52) rfl ?_); refine goesL_ (some 97) rfl rfl Try.func52 (by kernel_rfl) rfl #[.int .i64 x13_2, .int .u8 a0, .int .u8 a1] rfl (by (try simp only [List.map_toArray, List.map_cons, List.map_nil]); first | done | rfl | (simp only [List.length_drop, List.length_take]; rfl)) ?_; (with_reducible refine (shift_Shift.calls k2 x13_2 a0 a1 t132 t133 _ A16.out).mono ?_); rintro e w' ⟨rfl, ⟨nd, rfl⟩⟩; refine ⟨_, rfl, ?_⟩) | (go_at_call 53; (with_reducible refine (pendulumref05_Parity.calls k2 t132 t134 _ A21.out).mono ?_); rintro e w' ⟨rfl, ⟨nd, rfl⟩⟩))
                          go_ret
                          exact ⟨by first | rfl | (simp; done) | (simp [*]; done) | (simp; omega), by repeat (first | exact Drawn0.refl _ | apply Drawn0.step)⟩
                        · rw [if_neg c22] at H
                          have c22b0 : (((Go.bits .and .u8 t133 4) != 0) != t134) = false := by simpa using c22
                          (try (have c22b1 : decide (((Go.bits .and .u8 t133 4) != 0) = t134) = true := by simpa using c22))
                          (try (have c22b2 : (((Go.bits .and .u8 t133 4) != 0) == t134) = true := by simpa using c22))
                          clear c22
                          by_cases c23 : (Go.bits .and .u8 t133 18) = 0
                          · rw [if_pos c23] at H
                            have c23b0 : ((Go.bits .and .u8 t133 18) == 0) = true := beq_iff_eq.mpr c23
                            have c23b1 : ((Go.bits .and .u8 t133 18) != 0) = false := bne_eq_false_iff_eq.mpr c23
                            clear c23
                            have H' := Aside0.mk H
                            clear H
                            go_wp2_with (first | ((with_reducible refine gate_callee (f := 52) rfl ?_); refine goesL_ (some 97) rfl rfl Try.func52 (by kernel_rfl) rfl #[.int .i64 x13_2, .int .u8 a0, .int .u8 a1] rfl (by (try simp only [List.map_toArray, List.map_cons, List.map_nil]); first | done | rfl | (simp only [List.length_drop, List.length_take]; rfl)) ?_; (with_reducible refine (shift_Shift.calls k2 x13_2 a0 a1 t132 t133 _ A16.out).mono ?_); rintro e w' ⟨rfl, ⟨nd, rfl⟩⟩; refine ⟨_, rfl, ?_⟩) | (go_at_call 53; (with_reducible refine (pendulumref05_Parity.calls k2 t132 t134 _ A21.out).mono ?_); rintro e w' ⟨rfl, ⟨nd, rfl⟩⟩))
                            go_roundg k2
                            case measure => have := HK1.out; have := HK2.out; omega
                            case rel => exact ⟨(wrap64 (x13_2 + 1)), (by first | rfl | (simp; done) | (simp [*]; done)), H', ⟨by have := HK1.out; have := HK2.out; omega⟩, by repeat (first | exact Drawn0.refl _ | apply Drawn0.step)⟩
                          · rw [if_neg c23] at H
                            have c23b0 : ((Go.bits .and .u8 t133 18) == 0) = false := beq_eq_false_iff_ne.mpr c23
                            have c23b1 : ((Go.bits .and .u8 t133 18) != 0) = true := bne_iff_ne.mpr c23
                            obtain rfl := Option.some.inj H
                            go_wp2_with (first | ((with_reducible refine gate_callee (f := 52) rfl ?_); refine goesL_ (some 97) rfl rfl Try.func52 (by kernel_rfl) rfl #[.int .i64 x13_2, .int .u8 a0, .int .u8 a1] rfl (by (try simp only [List.map_toArray, List.map_cons, List.map_nil]); first | done | rfl | (simp only [List.length_drop, List.length_take]; rfl)) ?_; (with_reducible refine (shift_Shift.calls k2 x13_2 a0 a1 t132 t133 _ A16.out).mono ?_); rintro e w' ⟨rfl, ⟨nd, rfl⟩⟩; refine ⟨_, rfl, ?_⟩) | (go_at_call 53; (with_reducible refine (pendulumref05_Parity.calls k2 t132 t134 _ A21.out).mono ?_); rintro e w' ⟨rfl, ⟨nd, rfl⟩⟩))
                            go_ret
                            exact ⟨by first | rfl | (simp; done) | (simp [*]; done) | (simp; omega), by repeat (first | exact Drawn0.refl _ | apply Drawn0.step)⟩
                    · rw [if_neg c19] at H
                      have c19b0 : ((Go.bits .and .u8 t133 168) == (Go.bits .and .u8 t132 168)) = false := beq_eq_false_iff_ne.mpr c19
                      have c19b1 : ((Go.bits .and .u8 t133 168) != (Go.bits .and .u8 t132 168)) = true := bne_iff_ne.mpr c19
                      obtain rfl := Option.some.inj H
                      go_wp2_with (first | ((with_reducible refine gate_callee (f := 52) rfl ?_); refine goesL_ (some 97) rfl rfl Try.func52 (by kernel_rfl) rfl #[.int .i64 x13_2, .int .u8 a0, .int .u8 a1] rfl (by (try simp only [List.map_toArray, List.map_cons, List.map_nil]); first | done | rfl | (simp only [List.length_drop, List.length_take]; rfl)) ?_; (with_reducible refine (shift_Shift.calls k2 x13_2 a0 a1 t132 t133 _ A16.out).mono ?_); rintro e w' ⟨rfl, ⟨nd, rfl⟩⟩; refine ⟨_, rfl, ?_⟩))
                      go_ret
                      exact ⟨by first | rfl | (simp; done) | (simp [*]; done) | (simp; omega), by repeat (first | exact Drawn0.refl _ | apply Drawn0.step)⟩
                  · rw [if_neg c18] at H
                    have c18b0 : ((Go.bits .and .u8 t133 1) == (Int.tmod a0 2)) = false := beq_eq_false_iff_ne.mpr c18
                    have c18b1 : ((Go.bits .and .u8 t133 1) != (Int.tmod a0 2)) = true := bne_iff_ne.mpr c18
                    obtain rfl := Option.some.inj H
                    go_wp2_with (first | ((with_reducible refine gate_callee (f := 52) rfl ?_); refine goesL_ (some 97) rfl rfl Try.func52 (by kernel_rfl) rfl #[.int .i64 x13_2, .int .u8 a0, .int .u8 a1] rfl (by (try simp only [List.map_toArray, List.map_cons, List.map_nil]); first | done | rfl | (simp only [List.length_drop, List.length_take]; rfl)) ?_; (with_reducible refine (shift_Shift.calls k2 x13_2 a0 a1 t132 t133 _ A16.out).mono ?_); rintro e w' ⟨rfl, ⟨nd, rfl⟩⟩; refine ⟨_, rfl, ?_⟩))
                    go_ret
                    exact ⟨by first | rfl | (simp; done) | (simp [*]; done) | (simp; omega), by repeat (first | exact Drawn0.refl _ | apply Drawn0.step)⟩
                · rw [if_neg c17] at H
                  have c17b0 : ((Int.tmod x13_2 2) == 1) = false := beq_eq_false_iff_ne.mpr c17
                  have c17b1 : ((Int.tmod x13_2 2) != 1) = true := bne_iff_ne.mpr c17
                  by_cases c24 : (Go.bits .and .u8 t133 1) = (a0 / 128)
                  · rw [if_pos c24] at H
                    have c24b0 : ((Go.bits .and .u8 t133 1) == (a0 / 128)) = true := beq_iff_eq.mpr c24
                    have c24b1 : ((Go.bits .and .u8 t133 1) != (a0 / 128)) = false := bne_eq_false_iff_eq.mpr c24
                    clear c24
                    by_cases c25 : (Go.bits .and .u8 t133 168) = (Go.bits .and .u8 t132 168)
                    · rw [if_pos c25] at H
                      have c25b0 : ((Go.bits .and .u8 t133 168) == (Go.bits .and .u8 t132 168)) = true := beq_iff_eq.mpr c25
                      have c25b1 : ((Go.bits .and .u8 t133 168) != (Go.bits .and .u8 t132 168)) = false := bne_eq_false_iff_eq.mpr c25
                      clear c25
                      by_cases c26 : (((Go.bits .and .u8 t133 64) != 0) != (t132 == 0)) = true
                      · rw [if_pos c26] at H
                        have c26b0 : (((Go.bits .and .u8 t133 64) != 0) != (t132 == 0)) = true := c26
                        (try (have c26b1 : decide (((Go.bits .and .u8 t133 64) != 0) = (t132 == 0)) = false := by simpa using c26))
                        (try (have c26b2 : (((Go.bits .and .u8 t133 64) != 0) == (t132 == 0)) = false := by simpa using c26))
                        (try (have c26b3 : ¬ (((Go.bits .and .u8 t133 64) != 0) = (t132 == 0)) := by simpa using c26))
                        clear c26
                        obtain rfl := Option.some.inj H
                        go_wp2_with (first | ((with_reducible refine gate_callee (f := 52) rfl ?_); refine goesL_ (some 97) rfl rfl Try.func52 (by kernel_rfl) rfl #[.int .i64 x13_2, .int .u8 a0, .int .u8 a1] rfl (by (try simp only [List.map_toArray, List.map_cons, List.map_nil]); first | done | rfl | (simp only [List.length_drop, List.length_take]; rfl)) ?_; (with_reducible refine (shift_Shift.calls k2 x13_2 a0 a1 t132 t133 _ A16.out).mono ?_); rintro e w' ⟨rfl, ⟨nd, rfl⟩⟩; refine ⟨_, rfl, ?_⟩))
                        go_ret
                        exact ⟨by first | rfl | (simp; done) | (simp [*]; done) | (simp; omega), by repeat (first | exact Drawn0.refl _ | apply Drawn0.step)⟩
                      · rw [if_neg c26] at H
                        have c26b0 : (((Go.bits .and .u8 t133 64) != 0) != (t132 == 0)) = false := by simpa using c26
                        (try (have c26b1 : decide (((Go.bits .and .u8 t133 64) != 0) = (t132 == 0)) = true := by simpa using c26))
                        (try (have c26b2 : (((Go.bits .and .u8 t133 64) != 0) == (t132 == 0)) = true := by simpa using c26))
                        clear c26
                        replace H := Option.bind_eq_some_iff.mp H
                        obtain ⟨t135, A270, H⟩ := H
                        replace H : (if (((Go.bits .and .u8 t133 4) != 0) != t135) = true then (some false) else (if (Go.bits .and .u8 t133 18) = 0 then (pendulumlaw06_ShiftTurns.l2 k2 a0 a1 (wrap64 (x13_2 + 1))) else (some false))) = some r := H
                        have A27 := Aside0.mk A270
                        clear A270
                        by_cases c28 : (((Go.bits .and .u8 t133 4) != 0) != t135) = true
                        · rw [if_pos c28] at H
                          have c28b0 : (((Go.bits .and .u8 t133 4) != 0) != t135) = true := c28
                          (try (have c28b1 : decide (((Go.bits .and .u8 t133 4) != 0) = t135) = false := by simpa using c28))
                          (try (have c28b2 : (((Go.bits .and .u8 t133 4) != 0) == t135) = false := by simpa using c28))
                          (try (have c28b3 : ¬ (((Go.bits .and .u8 t133 4) != 0) = t135) := by simpa using c28))
                          clear c28
                          obtain rfl := Option.some.inj H
                          go_wp2_with (first | ((with_reducible refine gate_callee (f := 52) rfl ?_); refine goesL_ (some 97) rfl rfl Try.func52 (by kernel_rfl) rfl #[.int .i64 x13_2, .int .u8 a0, .int .u8 a1] rfl (by (try simp only [List.map_toArray, List.map_cons, List.map_nil]); first | done | rfl | (simp only [List.length_drop, List.length_take]; rfl)) ?_; (with_reducible refine (shift_Shift.calls k2 x13_2 a0 a1 t132 t133 _ A16.out).mono ?_); rintro e w' ⟨rfl, ⟨nd, rfl⟩⟩; refine ⟨_, rfl, ?_⟩) | (go_at_call 53; (with_reducible refine (pendulumref05_Parity.calls k2 t132 t135 _ A27.out).mono ?_); rintro e w' ⟨rfl, ⟨nd, rfl⟩⟩))
                          go_ret
                          exact ⟨by first | rfl | (simp; done) | (simp [*]; done) | (simp; omega), by repeat (first | exact Drawn0.refl _ | apply Drawn0.step)⟩
                        · rw [if_neg c28] at H
                          have c28b0 : (((Go.bits .and .u8 t133 4) != 0) != t135) = false := by simpa using c28
                          (try (have c28b1 : decide (((Go.bits .and .u8 t133 4) != 0) = t135) = true := by simpa using c28))
                          (try (have c28b2 : (((Go.bits .and .u8 t133 4) != 0) == t135) = true := by simpa using c28))
                          clear c28
                          by_cases c29 : (Go.bits .and .u8 t133 18) = 0
                          · rw [if_pos c29] at H
                            have c29b0 : ((Go.bits .and .u8 t133 18) == 0) = true := beq_iff_eq.mpr c29
                            have c29b1 : ((Go.bits .and .u8 t133 18) != 0) = false := bne_eq_false_iff_eq.mpr c29
                            clear c29
                            have H' := Aside0.mk H
                            clear H
                            go_wp2_with (first | ((with_reducible refine gate_callee (f := 52) rfl ?_); refine goesL_ (some 97) rfl rfl Try.func52 (by kernel_rfl) rfl #[.int .i64 x13_2, .int .u8 a0, .int .u8 a1] rfl (by (try simp only [List.map_toArray, List.map_cons, List.map_nil]); first | done | rfl | (simp only [List.length_drop, List.length_take]; rfl)) ?_; (with_reducible refine (shift_Shift.calls k2 x13_2 a0 a1 t132 t133 _ A16.out).mono ?_); rintro e w' ⟨rfl, ⟨nd, rfl⟩⟩; refine ⟨_, rfl, ?_⟩) | (go_at_call 53; (with_reducible refine (pendulumref05_Parity.calls k2 t132 t135 _ A27.out).mono ?_); rintro e w' ⟨rfl, ⟨nd, rfl⟩⟩))
                            go_roundg k2
                            case measure => have := HK1.out; have := HK2.out; omega
                            case rel => exact ⟨(wrap64 (x13_2 + 1)), (by first | rfl | (simp; done) | (simp [*]; done)), H', ⟨by have := HK1.out; have := HK2.out; omega⟩, by repeat (first | exact Drawn0.refl _ | apply Drawn0.step)⟩
                          · rw [if_neg c29] at H
                            have c29b0 : ((Go.bits .and .u8 t133 18) == 0) = false := beq_eq_false_iff_ne.mpr c29
                            have c29b1 : ((Go.bits .and .u8 t133 18) != 0) = true := bne_iff_ne.mpr c29
                            obtain rfl := Option.some.inj H
                            go_wp2_with (first | ((with_reducible refine gate_callee (f := 52) rfl ?_); refine goesL_ (some 97) rfl rfl Try.func52 (by kernel_rfl) rfl #[.int .i64 x13_2, .int .u8 a0, .int .u8 a1] rfl (by (try simp only [List.map_toArray, List.map_cons, List.map_nil]); first | done | rfl | (simp only [List.length_drop, List.length_take]; rfl)) ?_; (with_reducible refine (shift_Shift.calls k2 x13_2 a0 a1 t132 t133 _ A16.out).mono ?_); rintro e w' ⟨rfl, ⟨nd, rfl⟩⟩; refine ⟨_, rfl, ?_⟩) | (go_at_call 53; (with_reducible refine (pendulumref05_Parity.calls k2 t132 t135 _ A27.out).mono ?_); rintro e w' ⟨rfl, ⟨nd, rfl⟩⟩))
                            go_ret
                            exact ⟨by first | rfl | (simp; done) | (simp [*]; done) | (simp; omega), by repeat (first | exact Drawn0.refl _ | apply Drawn0.step)⟩
                    · rw [if_neg c25] at H
                      have c25b0 : ((Go.bits .and .u8 t133 168) == (Go.bits .and .u8 t132 168)) = false := beq_eq_false_iff_ne.mpr c25
                      have c25b1 : ((Go.bits .and .u8 t133 168) != (Go.bits .and .u8 t132 168)) = true := bne_iff_ne.mpr c25
                      obtain rfl := Option.some.inj H
                      go_wp2_with (first | ((with_reducible refine gate_callee (f := 52) rfl ?_); refine goesL_ (some 97) rfl rfl Try.func52 (by kernel_rfl) rfl #[.int .i64 x13_2, .int .u8 a0, .int .u8 a1] rfl (by (try simp only [List.map_toArray, List.map_cons, List.map_nil]); first | done | rfl | (simp only [List.length_drop, List.length_take]; rfl)) ?_; (with_reducible refine (shift_Shift.calls k2 x13_2 a0 a1 t132 t133 _ A16.out).mono ?_); rintro e w' ⟨rfl, ⟨nd, rfl⟩⟩; refine ⟨_, rfl, ?_⟩))
                      go_ret
                      exact ⟨by first | rfl | (simp; done) | (simp [*]; done) | (simp; omega), by repeat (first | exact Drawn0.refl _ | apply Drawn0.step)⟩
                  · rw [if_neg c24] at H
                    have c24b0 : ((Go.bits .and .u8 t133 1) == (a0 / 128)) = false := beq_eq_false_iff_ne.mpr c24
                    have c24b1 : ((Go.bits .and .u8 t133 1) != (a0 / 128)) = true := bne_iff_ne.mpr c24
                    obtain rfl := Option.some.inj H
                    go_wp2_with (first | ((with_reducible refine gate_callee (f := 52) rfl ?_); refine goesL_ (some 97) rfl rfl Try.func52 (by kernel_rfl) rfl #[.int .i64 x13_2, .int .u8 a0, .int .u8 a1] rfl (by (try simp only [List.map_toArray, List.map_cons, List.map_nil]); first | done | rfl | (simp only [List.length_drop, List.length_take]; rfl)) ?_; (with_reducible refine (shift_Shift.calls k2 x13_2 a0 a1 t132 t133 _ A16.out).mono ?_); rintro e w' ⟨rfl, ⟨nd, rfl⟩⟩; refine ⟨_, rfl, ?_⟩))
                    go_ret
                    exact ⟨by first | rfl | (simp; done) | (simp [*]; done) | (simp; omega), by repeat (first | exact Drawn0.refl _ | apply Drawn0.step)⟩
              · rw [if_neg c15] at H
                have c15b0 : decide (x13_2 < 8) = false := decide_eq_false c15
                clear c15
                replace H := Option.bind_eq_some_iff.mp H
                obtain ⟨⟨t136, t137⟩, A300, H⟩ := H
                replace H : ((shift_Shift.f k2 5 a0 a1).bind fun bt138 => ((shift_Shift.f k2 6 a0 a1).bind fun bt140 => ((shift_Shift.f k2 7 a0 a1).bind fun bt142 => (if t136 = ((2 * a0) % 256) then (if bt140.1 = (((2 * a0) % 256) + 1) then (if bt142.1 = ((Int.tdiv a0 2) % 256) then (some ((IntKind.i8.wrap (bt138.1)) == ((IntKind.i8.wrap (a0)) / 2))) else (some false)) else (some false)) else (some false))))) = some r := H
                have A30 := Aside0.mk A300
                clear A300
                replace H := Option.bind_eq_some_iff.mp H
                obtain ⟨⟨t138, t139⟩, A310, H⟩ := H
                replace H : ((shift_Shift.f k2 6 a0 a1).bind fun bt140 => ((shift_Shift.f k2 7 a0 a1).bind fun bt142 => (if t136 = ((2 * a0) % 256) then (if bt140.1 = (((2 * a0) % 256) + 1) then (if bt142.1 = ((Int.tdiv a0 2) % 256) then (some ((IntKind.i8.wrap (t138)) == ((IntKind.i8.wrap (a0)) / 2))) else (some false)) else (some false)) else (some false)))) = some r := H
                have A31 := Aside0.mk A310
                clear A310
                replace H := Option.bind_eq_some_iff.mp H
                obtain ⟨⟨t140, t141⟩, A320, H⟩ := H
                replace H : ((shift_Shift.f k2 7 a0 a1).bind fun bt142 => (if t136 = ((2 * a0) % 256) then (if t140 = (((2 * a0) % 256) + 1) then (if bt142.1 = ((Int.tdiv a0 2) % 256) then (some ((IntKind.i8.wrap (t138)) == ((IntKind.i8.wrap (a0)) / 2))) else (some false)) else (some false)) else (some false))) = some r := H
                have A32 := Aside0.mk A320
                clear A320
                replace H := Option.bind_eq_some_iff.mp H
                obtain ⟨⟨t142, t143⟩, A330, H⟩ := H
                replace H : (if t136 = ((2 * a0) % 256) then (if t140 = (((2 * a0) % 256) + 1) then (if t142 = ((Int.tdiv a0 2) % 256) then (some ((IntKind.i8.wrap (t138)) == ((IntKind.i8.wrap (a0)) / 2))) else (some false)) else (some false)) else (some false)) = some r := H
                have A33 := Aside0.mk A330
                clear A330
                by_cases c34 : t136 = ((2 * a0) % 256)
                · rw [if_pos c34] at H
                  have c34b0 : (t136 == ((2 * a0) % 256)) = true := beq_iff_eq.mpr c34
                  have c34b1 : (t136 != ((2 * a0) % 256)) = false := bne_eq_false_iff_eq.mpr c34
                  clear c34
                  by_cases c35 : t140 = (((2 * a0) % 256) + 1)
                  · rw [if_pos c35] at H
                    have c35b0 : (t140 == (((2 * a0) % 256) + 1)) = true := beq_iff_eq.mpr c35
                    have c35b1 : (t140 != (((2 * a0) % 256) + 1)) = false := bne_eq_false_iff_eq.mpr c35
                    clear c35
                    by_cases c36 : t142 = ((Int.tdiv a0 2) % 256)
                    · rw [if_pos c36] at H
                      have c36b0 : (t142 == ((Int.tdiv a0 2) % 256)) = true := beq_iff_eq.mpr c36
                      have c36b1 : (t142 != ((Int.tdiv a0 2) % 256)) = false := bne_eq_false_iff_eq.mpr c36
                      clear c36
                      obtain rfl := Option.some.inj H
                      go_wp2_with (first | ((with_reducible refine gate_callee (f := 52) rfl ?_); refine goesL_ (some 144) rfl rfl Try.func52 (by kernel_rfl) rfl #[.int .i64 4, .int .u8 a0, .int .u8 a1] rfl (by (try simp only [List.map_toArray, List.map_cons, List.map_nil]); first | done | rfl | (simp only [List.length_drop, List.length_take]; rfl)) ?_; (with_reducible refine (shift_Shift.calls k2 4 a0 a1 t136 t137 _ A30.out).mono ?_); rintro e w' ⟨rfl, ⟨nd, rfl⟩⟩; refine ⟨_, rfl, ?_⟩) | ((with_reducible refine gate_callee (f := 52) rfl ?_); refine goesL_ (some 150) rfl rfl Try.func52 (by kernel_rfl) rfl #[.int .i64 5, .int .u8 a0, .int .u8 a1] rfl (by (try simp only [List.map_toArray, List.map_cons, List.map_nil]); first | done | rfl | (simp only [List.length_drop, List.length_take]; rfl)) ?_; (with_reducible refine (shift_Shift.calls k2 5 a0 a1 t138 t139 _ A31.out).mono ?_); rintro e w' ⟨rfl, ⟨nd, rfl⟩⟩; refine ⟨_, rfl, ?_⟩) | ((with_reducible refine gate_callee (f := 52) rfl ?_); refine goesL_ (some 156) rfl rfl Try.func52 (by kernel_rfl) rfl #[.int .i64 6, .int .u8 a0, .int .u8 a1] rfl (by (try simp only [List.map_toArray, List.map_cons, List.map_nil]); first | done | rfl | (simp only [List.length_drop, List.length_take]; rfl)) ?_; (with_reducible refine (shift_Shift.calls k2 6 a0 a1 t140 t141 _ A32.out).mono ?_); rintro e w' ⟨rfl, ⟨nd, rfl⟩⟩; refine ⟨_, rfl, ?_⟩) | ((with_reducible refine gate_callee (f := 52) rfl ?_); refine goesL_ (some 162) rfl rfl Try.func52 (by kernel_rfl) rfl #[.int .i64 7, .int .u8 a0, .int .u8 a1] rfl (by (try simp only [List.map_toArray, List.map_cons, List.map_nil]); first | done | rfl | (simp only [List.length_drop, List.length_take]; rfl)) ?_; (with_reducible refine (shift_Shift.calls k2 7 a0 a1 t142 t143 _ A33.out).mono ?_); rintro e w' ⟨rfl, ⟨nd, rfl⟩⟩; refine ⟨_, rfl, ?_⟩))
                      go_ret
                      exact ⟨by first | rfl | (simp; done) | (simp [*]; done) | (simp; omega), by repeat (first | exact Drawn0.refl _ | apply Drawn0.step)⟩
                    · rw [if_neg c36] at H
                      have c36b0 : (t142 == ((Int.tdiv a0 2) % 256)) = false := beq_eq_false_iff_ne.mpr c36
                      have c36b1 : (t142 != ((Int.tdiv a0 2) % 256)) = true := bne_iff_ne.mpr c36
                      obtain rfl := Option.some.inj H
                      go_wp2_with (first | ((with_reducible refine gate_callee (f := 52) rfl ?_); refine goesL_ (some 144) rfl rfl Try.func52 (by kernel_rfl) rfl #[.int .i64 4, .int .u8 a0, .int .u8 a1] rfl (by (try simp only [List.map_toArray, List.map_cons, List.map_nil]); first | done | rfl | (simp only [List.length_drop, List.length_take]; rfl)) ?_; (with_reducible refine (shift_Shift.calls k2 4 a0 a1 t136 t137 _ A30.out).mono ?_); rintro e w' ⟨rfl, ⟨nd, rfl⟩⟩; refine ⟨_, rfl, ?_⟩) | ((with_reducible refine gate_callee (f := 52) rfl ?_); refine goesL_ (some 150) rfl rfl Try.func52 (by kernel_rfl) rfl #[.int .i64 5, .int .u8 a0, .int .u8 a1] rfl (by (try simp only [List.map_toArray, List.map_cons, List.map_nil]); first | done | rfl | (simp only [List.length_drop, List.length_take]; rfl)) ?_; (with_reducible refine (shift_Shift.calls k2 5 a0 a1 t138 t139 _ A31.out).mono ?_); rintro e w' ⟨rfl, ⟨nd, rfl⟩⟩; refine ⟨_, rfl, ?_⟩) | ((with_reducible refine gate_callee (f := 52) rfl ?_); refine goesL_ (some 156) rfl rfl Try.func52 (by kernel_rfl) rfl #[.int .i64 6, .int .u8 a0, .int .u8 a1] rfl (by (try simp only [List.map_toArray, List.map_cons, List.map_nil]); first | done | rfl | (simp only [List.length_drop, List.length_take]; rfl)) ?_; (with_reducible refine (shift_Shift.calls k2 6 a0 a1 t140 t141 _ A32.out).mono ?_); rintro e w' ⟨rfl, ⟨nd, rfl⟩⟩; refine ⟨_, rfl, ?_⟩) | ((with_reducible refine gate_callee (f := 52) rfl ?_); refine goesL_ (some 162) rfl rfl Try.func52 (by kernel_rfl) rfl #[.int .i64 7, .int .u8 a0, .int .u8 a1] rfl (by (try simp only [List.map_toArray, List.map_cons, List.map_nil]); first | done | rfl | (simp only [List.length_drop, List.length_take]; rfl)) ?_; (with_reducible refine (shift_Shift.calls k2 7 a0 a1 t142 t143 _ A33.out).mono ?_); rintro e w' ⟨rfl, ⟨nd, rfl⟩⟩; refine ⟨_, rfl, ?_⟩))
                      go_ret
                      exact ⟨by first | rfl | (simp; done) | (simp [*]; done) | (simp; omega), by repeat (first | exact Drawn0.refl _ | apply Drawn0.step)⟩
                  · rw [if_neg c35] at H
                    have c35b0 : (t140 == (((2 * a0) % 256) + 1)) = false := beq_eq_false_iff_ne.mpr c35
                    have c35b1 : (t140 != (((2 * a0) % 256) + 1)) = true := bne_iff_ne.mpr c35
                    obtain rfl := Option.some.inj H
                    go_wp2_with (first | ((with_reducible refine gate_callee (f := 52) rfl ?_); refine goesL_ (some 144) rfl rfl Try.func52 (by kernel_rfl) rfl #[.int .i64 4, .int .u8 a0, .int .u8 a1] rfl (by (try simp only [List.map_toArray, List.map_cons, List.map_nil]); first | done | rfl | (simp only [List.length_drop, List.length_take]; rfl)) ?_; (with_reducible refine (shift_Shift.calls k2 4 a0 a1 t136 t137 _ A30.out).mono ?_); rintro e w' ⟨rfl, ⟨nd, rfl⟩⟩; refine ⟨_, rfl, ?_⟩) | ((with_reducible refine gate_callee (f := 52) rfl ?_); refine goesL_ (some 150) rfl rfl Try.func52 (by kernel_rfl) rfl #[.int .i64 5, .int .u8 a0, .int .u8 a1] rfl (by (try simp only [List.map_toArray, List.map_cons, List.map_nil]); first | done | rfl | (simp only [List.length_drop, List.length_take]; rfl)) ?_; (with_reducible refine (shift_Shift.calls k2 5 a0 a1 t138 t139 _ A31.out).mono ?_); rintro e w' ⟨rfl, ⟨nd, rfl⟩⟩; refine ⟨_, rfl, ?_⟩) | ((with_reducible refine gate_callee (f := 52) rfl ?_); refine goesL_ (some 156) rfl rfl Try.func52 (by kernel_rfl) rfl #[.int .i64 6, .int .u8 a0, .int .u8 a1] rfl (by (try simp only [List.map_toArray, List.map_cons, List.map_nil]); first | done | rfl | (simp only [List.length_drop, List.length_take]; rfl)) ?_; (with_reducible refine (shift_Shift.calls k2 6 a0 a1 t140 t141 _ A32.out).mono ?_); rintro e w' ⟨rfl, ⟨nd, rfl⟩⟩; refine ⟨_, rfl, ?_⟩) | ((with_reducible refine gate_callee (f := 52) rfl ?_); refine goesL_ (some 162) rfl rfl Try.func52 (by kernel_rfl) rfl #[.int .i64 7, .int .u8 a0, .int .u8 a1] rfl (by (try simp only [List.map_toArray, List.map_cons, List.map_nil]); first | done | rfl | (simp only [List.length_drop, List.length_take]; rfl)) ?_; (with_reducible refine (shift_Shift.calls k2 7 a0 a1 t142 t143 _ A33.out).mono ?_); rintro e w' ⟨rfl, ⟨nd, rfl⟩⟩; refine ⟨_, rfl, ?_⟩))
                    go_ret
                    exact ⟨by first | rfl | (simp; done) | (simp [*]; done) | (simp; omega), by repeat (first | exact Drawn0.refl _ | apply Drawn0.step)⟩
                · rw [if_neg c34] at H
                  have c34b0 : (t136 == ((2 * a0) % 256)) = false := beq_eq_false_iff_ne.mpr c34
                  have c34b1 : (t136 != ((2 * a0) % 256)) = true := bne_iff_ne.mpr c34
                  obtain rfl := Option.some.inj H
                  go_wp2_with (first | ((with_reducible refine gate_callee (f := 52) rfl ?_); refine goesL_ (some 144) rfl rfl Try.func52 (by kernel_rfl) rfl #[.int .i64 4, .int .u8 a0, .int .u8 a1] rfl (by (try simp only [List.map_toArray, List.map_cons, List.map_nil]); first | done | rfl | (simp only [List.length_drop, List.length_take]; rfl)) ?_; (with_reducible refine (shift_Shift.calls k2 4 a0 a1 t136 t137 _ A30.out).mono ?_); rintro e w' ⟨rfl, ⟨nd, rfl⟩⟩; refine ⟨_, rfl, ?_⟩) | ((with_reducible refine gate_callee (f := 52) rfl ?_); refine goesL_ (some 150) rfl rfl Try.func52 (by kernel_rfl) rfl #[.int .i64 5, .int .u8 a0, .int .u8 a1] rfl (by (try simp only [List.map_toArray, List.map_cons, List.map_nil]); first | done | rfl | (simp only [List.length_drop, List.length_take]; rfl)) ?_; (with_reducible refine (shift_Shift.calls k2 5 a0 a1 t138 t139 _ A31.out).mono ?_); rintro e w' ⟨rfl, ⟨nd, rfl⟩⟩; refine ⟨_, rfl, ?_⟩) | ((with_reducible refine gate_callee (f := 52) rfl ?_); refine goesL_ (some 156) rfl rfl Try.func52 (by kernel_rfl) rfl #[.int .i64 6, .int .u8 a0, .int .u8 a1] rfl (by (try simp only [List.map_toArray, List.map_cons, List.map_nil]); first | done | rfl | (simp only [List.length_drop, List.length_take]; rfl)) ?_; (with_reducible refine (shift_Shift.calls k2 6 a0 a1 t140 t141 _ A32.out).mono ?_); rintro e w' ⟨rfl, ⟨nd, rfl⟩⟩; refine ⟨_, rfl, ?_⟩) | ((with_reducible refine gate_callee (f := 52) rfl ?_); refine goesL_ (some 162) rfl rfl Try.func52 (by kernel_rfl) rfl #[.int .i64 7, .int .u8 a0, .int .u8 a1] rfl (by (try simp only [List.map_toArray, List.map_cons, List.map_nil]); first | done | rfl | (simp only [List.length_drop, List.length_take]; rfl)) ?_; (with_reducible refine (shift_Shift.calls k2 7 a0 a1 t142 t143 _ A33.out).mono ?_); rintro e w' ⟨rfl, ⟨nd, rfl⟩⟩; refine ⟨_, rfl, ?_⟩))
                  go_ret
                  exact ⟨by first | rfl | (simp; done) | (simp [*]; done) | (simp; omega), by repeat (first | exact Drawn0.refl _ | apply Drawn0.step)⟩
  · replace c4 := Bool.eq_false_iff.mpr c4
    subst c4
    have H1 : (some false) = some r := by rw [if_neg (show ¬ (false = true) by decide)] at H; exact H
    clear H
    have H := H1
    clear H1
    obtain rfl := Option.some.inj H
    go_enter Try.func11, Try.ntmps11
    go_wp2_with (first | ((with_reducible refine gate_callee (f := 51) rfl ?_); refine goesL_ (some 26) rfl rfl Try.func51 (by kernel_rfl) rfl #[] rfl (by (try simp only [List.map_toArray, List.map_cons, List.map_nil]); first | done | rfl | (simp only [List.length_drop, List.length_take]; rfl)) ?_; (with_reducible refine (pendulumlaw06_lives.calls k  false _ A3.out).mono ?_); rintro e w' ⟨rfl, ⟨nd, rfl⟩⟩; refine ⟨_, rfl, ?_⟩))
    go_ret
    exact ⟨by first | rfl | (simp; done) | (simp [*]; done) | (simp; omega), by repeat (first | exact Drawn0.refl _ | apply Drawn0.step)⟩

/-- THE ONE PURE STATEMENT of pendulumlaw06_ShiftTurns: yours. -/
def pendulumlaw06_ShiftTurns.Pure : Prop := ∀ (a0 : Int) (a1 : Int), (Lit.int .u8 a0).wf = true → (Lit.int .u8 a1).wf = true → ∃ k, pendulumlaw06_ShiftTurns.f k a0 a1 = some true
theorem pendulumlaw06_ShiftTurns.walk (P : pendulumlaw06_ShiftTurns.Pure) (a0 : Int) (a1 : Int) (w : World) (w0 : (Lit.int .u8 a0).wf = true) (w1 : (Lit.int .u8 a1).wf = true) :
    Calls Try.prog 11 #[.int .u8 a0, .int .u8 a1] w fun e w' => e = .returned (.bool true) ∧ Below w.heap.size w w' := by
  obtain ⟨k, h⟩ := P a0 a1 w0 w1
  refine (pendulumlaw06_ShiftTurns.calls k a0 a1 true w h).mono ?_
  rintro e w' ⟨rfl, hd⟩
  exact ⟨rfl, hd.below⟩

end Go.Proofs.Ytpmmneipfmbmlaa.HShiftTurns
