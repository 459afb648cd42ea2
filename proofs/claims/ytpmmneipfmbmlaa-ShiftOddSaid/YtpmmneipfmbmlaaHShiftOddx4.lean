-- Written by a program of this session out of Lean's print of the program (after the form of the kit's print.sh, with own turns); Lean checks it.
import Derived.Test.YtpmmneipfmbmlaaHShiftOddx0
import Derived.Test.YtpmmneipfmbmlaaHShiftOddx2
import Derived.Test.YtpmmneipfmbmlaaHShiftOddx3
namespace Go.Proofs.Ytpmmneipfmbmlaa.HShiftOdd
open Go.RowKit Go.Proofs.YtpmmneipfmbmlaaW.PrintWords Go.Proofs.YtpmmneipfmbmlaaW.PrintLast Go.Proofs.YtpmmneipfmbmlaaW.PrintMore
attribute [local go_sem] max2_int min2_int max_two min_two max_three min_three max_four min_four   -- for this text's walks alone
set_option linter.unusedVariables false
set_option linter.unusedSimpArgs false

/-! ### pendulumlaw06_ShiftOdd: function 17 -/
def pendulumlaw06_ShiftOdd.j0 : Nat → Int → Int → Int → Bool → Option (Bool)
  | 0, _, _, _, _ => none
  | k + 1, x0, x1, x2, x84 => if x84 = true then (some false) else ((shift_Rld.f x0 x1 x2).bind fun bt163 => ((pendulumref06_Rld.f k x0 x1 x2).bind fun bt166 => ((shift_Rrd.f x0 x1 x2).bind fun bt169 => ((pendulumref06_Rrd.f k x0 x1 x2).bind fun bt172 => (if bt163.1 = bt166.1 then (if bt163.2.1 = bt166.2.1 then (if bt163.2.2 = bt166.2.2 then (if bt169.1 = bt172.1 then (if bt169.2.1 = bt172.2.1 then (some (bt169.2.2 == bt172.2.2)) else (some false)) else (some false)) else (some false)) else (some false)) else (some false))))))
def pendulumlaw06_ShiftOdd.f (k : Nat) (a0 : Int) (a1 : Int) (a2 : Int) : Option (Bool) := (pendulumlaw06_lives.f k).bind fun t150 => (if t150 = true then ((shift_Daa.f k a0 a2).bind fun bt151 => ((pendulumref06_Daa.f k a0 a2).bind fun bt153 => ((shift_Cpl.f a0 a2).bind fun bt155 => ((pendulumref06_Cpl.f a0 a2).bind fun bt157 => (if bt151.1 = bt153.1 then (if bt151.2 = bt153.2 then (if bt155.1 = bt157.1 then (if bt155.2 = bt157.2 then ((shift_Scf.f a0 a2).bind fun t159 => ((pendulumref06_Scf.f a0 a2).bind fun t160 => (if t159 = t160 then ((shift_Ccf.f a0 a2).bind fun t161 => ((pendulumref06_Ccf.f a0 a2).bind fun t162 => (pendulumlaw06_ShiftOdd.j0 k a0 a1 a2 (t161 != t162)))) else (pendulumlaw06_ShiftOdd.j0 k a0 a1 a2 true)))) else (pendulumlaw06_ShiftOdd.j0 k a0 a1 a2 true)) else (pendulumlaw06_ShiftOdd.j0 k a0 a1 a2 true)) else (pendulumlaw06_ShiftOdd.j0 k a0 a1 a2 true)) else (pendulumlaw06_ShiftOdd.j0 k a0 a1 a2 true)))))) else (some false))
theorem pendulumlaw06_ShiftOdd.mono_l : ∀ k, (∀ y0 y1 y2 y3, LeO (pendulumlaw06_ShiftOdd.j0 k y0 y1 y2 y3) (pendulumlaw06_ShiftOdd.j0 (k + 1) y0 y1 y2 y3))
  | 0 => fun _ _ _ _ r h => by simp [pendulumlaw06_ShiftOdd.j0] at h
  | k + 1 => by
    have ih0 := pendulumlaw06_ShiftOdd.mono_l k
    · intro y0 y1 y2 y3
      unfold pendulumlaw06_ShiftOdd.j0
      repeat' first
      | (with_reducible exact ih0 _ _ _ _)
      | (with_reducible exact pendulumlaw06_lives.mono _)
      | (with_reducible exact pendulumref06_Daa.mono _ _ _)
      | (with_reducible exact pendulumref06_Rld.mono _ _ _ _)
      | (with_reducible exact pendulumref06_Rrd.mono _ _ _ _)
      | (with_reducible exact shift_Daa.mono _ _ _)
      | (with_reducible exact LeO.refl _)
      | (with_reducible exact LeO.none _)
      | (with_reducible refine LeO.ite ?_ ?_)
      | (with_reducible refine LeO.bind ?_ (fun _ => ?_))
      | exact ih0 _ _ _ _
      | exact pendulumlaw06_lives.mono _
      | exact pendulumref06_Daa.mono _ _ _
      | exact pendulumref06_Rld.mono _ _ _ _
      | exact pendulumref06_Rrd.mono _ _ _ _
      | exact shift_Daa.mono _ _ _
      | exact LeO.none _
      | refine LeO.ite ?_ ?_
      | refine LeO.bind ?_ (fun _ => ?_)
theorem pendulumlaw06_ShiftOdd.mono : ∀ a0 a1 a2 k, LeO (pendulumlaw06_ShiftOdd.f k a0 a1 a2) (pendulumlaw06_ShiftOdd.f (k + 1) a0 a1 a2) := by
  intro a0 a1 a2 k
  have ih0 := pendulumlaw06_ShiftOdd.mono_l k
  unfold pendulumlaw06_ShiftOdd.f
  repeat' first
      | (with_reducible exact ih0 _ _ _ _)
      | (with_reducible exact pendulumlaw06_lives.mono _)
      | (with_reducible exact pendulumref06_Daa.mono _ _ _)
      | (with_reducible exact pendulumref06_Rld.mono _ _ _ _)
      | (with_reducible exact pendulumref06_Rrd.mono _ _ _ _)
      | (with_reducible exact shift_Daa.mono _ _ _)
      | (with_reducible exact LeO.refl _)
      | (with_reducible exact LeO.none _)
      | (with_reducible refine LeO.ite ?_ ?_)
      | (with_reducible refine LeO.bind ?_ (fun _ => ?_))
      | exact ih0 _ _ _ _
      | exact pendulumlaw06_lives.mono _
      | exact pendulumref06_Daa.mono _ _ _
      | exact pendulumref06_Rld.mono _ _ _ _
      | exact pendulumref06_Rrd.mono _ _ _ _
      | exact shift_Daa.mono _ _ _
      | exact LeO.none _
      | refine LeO.ite ?_ ?_
      | refine LeO.bind ?_ (fun _ => ?_)
set_option maxHeartbeats 8000000 in
set_option maxRecDepth 100000 in
theorem pendulumlaw06_ShiftOdd.calls (k : Nat) (a0 : Int) (a1 : Int) (a2 : Int) (r : Bool) (w : World) (h : pendulumlaw06_ShiftOdd.f k a0 a1 a2 = some r) :
    Calls Try.prog 17 #[.int .u8 a0, .int .u8 a1, .int .u8 a2] w fun e w' => e = .returned (.bool r) ∧ Drawn0 w w' := by
  have H : ((pendulumlaw06_lives.f k).bind fun t150 => (if t150 = true then ((shift_Daa.f k a0 a2).bind fun bt151 => ((pendulumref06_Daa.f k a0 a2).bind fun bt153 => ((shift_Cpl.f a0 a2).bind fun bt155 => ((pendulumref06_Cpl.f a0 a2).bind fun bt157 => (if bt151.1 = bt153.1 then (if bt151.2 = bt153.2 then (if bt155.1 = bt157.1 then (if bt155.2 = bt157.2 then ((shift_Scf.f a0 a2).bind fun t159 => ((pendulumref06_Scf.f a0 a2).bind fun t160 => (if t159 = t160 then ((shift_Ccf.f a0 a2).bind fun t161 => ((pendulumref06_Ccf.f a0 a2).bind fun t162 => (pendulumlaw06_ShiftOdd.j0 k a0 a1 a2 (t161 != t162)))) else (pendulumlaw06_ShiftOdd.j0 k a0 a1 a2 true)))) else (pendulumlaw06_ShiftOdd.j0 k a0 a1 a2 true)) else (pendulumlaw06_ShiftOdd.j0 k a0 a1 a2 true)) else (pendulumlaw06_ShiftOdd.j0 k a0 a1 a2 true)) else (pendulumlaw06_ShiftOdd.j0 k a0 a1 a2 true)))))) else (some false))) = some r := h
  clear h
  replace H := Option.bind_eq_some_iff.mp H
  obtain ⟨t150, A40, H⟩ := H
  replace H : (if t150 = true then ((shift_Daa.f k a0 a2).bind fun bt151 => ((pendulumref06_Daa.f k a0 a2).bind fun bt153 => ((shift_Cpl.f a0 a2).bind fun bt155 => ((pendulumref06_Cpl.f a0 a2).bind fun bt157 => (if bt151.1 = bt153.1 then (if bt151.2 = bt153.2 then (if bt155.1 = bt157.1 then (if bt155.2 = bt157.2 then ((shift_Scf.f a0 a2).bind fun t159 => ((pendulumref06_Scf.f a0 a2).bind fun t160 => (if t159 = t160 then ((shift_Ccf.f a0 a2).bind fun t161 => ((pendulumref06_Ccf.f a0 a2).bind fun t162 => (pendulumlaw06_ShiftOdd.j0 k a0 a1 a2 (t161 != t162)))) else (pendulumlaw06_ShiftOdd.j0 k a0 a1 a2 true)))) else (pendulumlaw06_ShiftOdd.j0 k a0 a1 a2 true)) else (pendulumlaw06_ShiftOdd.j0 k a0 a1 a2 true)) else (pendulumlaw06_ShiftOdd.j0 k a0 a1 a2 true)) else (pendulumlaw06_ShiftOdd.j0 k a0 a1 a2 true)))))) else (some false)) = some r := H
  have A4 := Aside0.mk A40
  clear A40
  by_cases c5 : t150 = true
  · subst c5
    have H1 : ((shift_Daa.f k a0 a2).bind fun bt151 => ((pendulumref06_Daa.f k a0 a2).bind fun bt153 => ((shift_Cpl.f a0 a2).bind fun bt155 => ((pendulumref06_Cpl.f a0 a2).bind fun bt157 => (if bt151.1 = bt153.1 then (if bt151.2 = bt153.2 then (if bt155.1 = bt157.1 then (if bt155.2 = bt157.2 then ((shift_Scf.f a0 a2).bind fun t159 => ((pendulumref06_Scf.f a0 a2).bind fun t160 => (if t159 = t160 then ((shift_Ccf.f a0 a2).bind fun t161 => ((pendulumref06_Ccf.f a0 a2).bind fun t162 => (pendulumlaw06_ShiftOdd.j0 k a0 a1 a2 (t161 != t162)))) else (pendulumlaw06_ShiftOdd.j0 k a0 a1 a2 true)))) else (pendulumlaw06_ShiftOdd.j0 k a0 a1 a2 true)) else (pendulumlaw06_ShiftOdd.j0 k a0 a1 a2 true)) else (pendulumlaw06_ShiftOdd.j0 k a0 a1 a2 true)) else (pendulumlaw06_ShiftOdd.j0 k a0 a1 a2 true)))))) = some r := by rw [if_pos rfl] at H; exact H
    clear H
    have H := H1
    clear H1
    replace H := Option.bind_eq_some_iff.mp H
    obtain ⟨⟨t151, t152⟩, A60, H⟩ := H
    replace H : ((pendulumref06_Daa.f k a0 a2).bind fun bt153 => ((shift_Cpl.f a0 a2).bind fun bt155 => ((pendulumref06_Cpl.f a0 a2).bind fun bt157 => (if t151 = bt153.1 then (if t152 = bt153.2 then (if bt155.1 = bt157.1 then (if bt155.2 = bt157.2 then ((shift_Scf.f a0 a2).bind fun t159 => ((pendulumref06_Scf.f a0 a2).bind fun t160 => (if t159 = t160 then ((shift_Ccf.f a0 a2).bind fun t161 => ((pendulumref06_Ccf.f a0 a2).bind fun t162 => (pendulumlaw06_ShiftOdd.j0 k a0 a1 a2 (t161 != t162)))) else (pendulumlaw06_ShiftOdd.j0 k a0 a1 a2 true)))) else (pendulumlaw06_ShiftOdd.j0 k a0 a1 a2 true)) else (pendulumlaw06_ShiftOdd.j0 k a0 a1 a2 true)) else (pendulumlaw06_ShiftOdd.j0 k a0 a1 a2 true)) else (pendulumlaw06_ShiftOdd.j0 k a0 a1 a2 true))))) = some r := H
    have A6 := Aside0.mk A60
    clear A60
    replace H := Option.bind_eq_some_iff.mp H
    obtain ⟨⟨t153, t154⟩, A70, H⟩ := H
    replace H : ((shift_Cpl.f a0 a2).bind fun bt155 => ((pendulumref06_Cpl.f a0 a2).bind fun bt157 => (if t151 = t153 then (if t152 = t154 then (if bt155.1 = bt157.1 then (if bt155.2 = bt157.2 then ((shift_Scf.f a0 a2).bind fun t159 => ((pendulumref06_Scf.f a0 a2).bind fun t160 => (if t159 = t160 then ((shift_Ccf.f a0 a2).bind fun t161 => ((pendulumref06_Ccf.f a0 a2).bind fun t162 => (pendulumlaw06_ShiftOdd.j0 k a0 a1 a2 (t161 != t162)))) else (pendulumlaw06_ShiftOdd.j0 k a0 a1 a2 true)))) else (pendulumlaw06_ShiftOdd.j0 k a0 a1 a2 true)) else (pendulumlaw06_ShiftOdd.j0 k a0 a1 a2 true)) else (pendulumlaw06_ShiftOdd.j0 k a0 a1 a2 true)) else (pendulumlaw06_ShiftOdd.j0 k a0 a1 a2 true)))) = some r := H
    have A7 := Aside0.mk A70
    clear A70
    replace H := Option.bind_eq_some_iff.mp H
    obtain ⟨⟨t155, t156⟩, A80, H⟩ := H
    replace H : ((pendulumref06_Cpl.f a0 a2).bind fun bt157 => (if t151 = t153 then (if t152 = t154 then (if t155 = bt157.1 then (if t156 = bt157.2 then ((shift_Scf.f a0 a2).bind fun t159 => ((pendulumref06_Scf.f a0 a2).bind fun t160 => (if t159 = t160 then ((shift_Ccf.f a0 a2).bind fun t161 => ((pendulumref06_Ccf.f a0 a2).bind fun t162 => (pendulumlaw06_ShiftOdd.j0 k a0 a1 a2 (t161 != t162)))) else (pendulumlaw06_ShiftOdd.j0 k a0 a1 a2 true)))) else (pendulumlaw06_ShiftOdd.j0 k a0 a1 a2 true)) else (pendulumlaw06_ShiftOdd.j0 k a0 a1 a2 true)) else (pendulumlaw06_ShiftOdd.j0 k a0 a1 a2 true)) else (pendulumlaw06_ShiftOdd.j0 k a0 a1 a2 true))) = some r := H
    have A8 := Aside0.mk A80
    clear A80
    replace H := Option.bind_eq_some_iff.mp H
    obtain ⟨⟨t157, t158⟩, A90, H⟩ := H
    replace H : (if t151 = t153 then (if t152 = t154 then (if t155 = t157 then (if t156 = t158 then ((shift_Scf.f a0 a2).bind fun t159 => ((pendulumref06_Scf.f a0 a2).bind fun t160 => (if t159 = t160 then ((shift_Ccf.f a0 a2).bind fun t161 => ((pendulumref06_Ccf.f a0 a2).bind fun t162 => (pendulumlaw06_ShiftOdd.j0 k a0 a1 a2 (t161 != t162)))) else (pendulumlaw06_ShiftOdd.j0 k a0 a1 a2 true)))) else (pendulumlaw06_ShiftOdd.j0 k a0 a1 a2 true)) else (pendulumlaw06_ShiftOdd.j0 k a0 a1 a2 true)) else (pendulumlaw06_ShiftOdd.j0 k a0 a1 a2 true)) else (pendulumlaw06_ShiftOdd.j0 k a0 a1 a2 true)) = some r := H
    have A9 := Aside0.mk A90
    clear A90
    have HC10 := Aside0.mk H
    clear H
    go_enter Try.func17, Try.ntmps17
    go_upto_region 7 with (first | ((with_reducible refine gate_callee (f := 51) rfl ?_); refine goesL_ (some 23) rfl rfl Try.func51 (by kernel_rfl) rfl #[] rfl (by (try simp only [List.map_toArray, List.map_cons, List.map_nil]); first | done | rfl | (simp only [List.length_drop, List.length_take]; rfl)) ?_; (with_reducible refine (pendulumlaw06_lives.calls k  true _ A4.out).mono ?_); rintro e w' ⟨rfl, ⟨nd, rfl⟩⟩; refine ⟨_, rfl, ?_⟩) | ((with_reducible refine gate_callee (f := 54) rfl ?_); refine goesL_ (some 28) rfl rfl Try.func54 (by kernel_rfl) rfl #[.int .u8 a0, .int .u8 a2] rfl (by (try simp only [List.map_toArray, List.map_cons, List.map_nil]); first | done | rfl | (simp only [List.length_drop, List.length_take]; rfl)) ?_; (with_reducible refine (shift_Daa.calls k a0 a2 t151 t152 _ A6.out).mono ?_); rintro e w' ⟨rfl, ⟨nd, rfl⟩⟩; refine ⟨_, rfl, ?_⟩) | ((with_reducible refine gate_callee (f := 69) rfl ?_); refine goesL_ (some 34) rfl rfl Try.func69 (by kernel_rfl) rfl #[.int .u8 a0, .int .u8 a2] rfl (by (try simp only [List.map_toArray, List.map_cons, List.map_nil]); first | done | rfl | (simp only [List.length_drop, List.length_take]; rfl)) ?_; (with_reducible refine (pendulumref06_Daa.calls k a0 a2 t153 t154 _ A7.out).mono ?_); rintro e w' ⟨rfl, ⟨nd, rfl⟩⟩; refine ⟨_, rfl, ?_⟩) | ((with_reducible refine gate_callee (f := 70) rfl ?_); refine goesL_ (some 40) rfl rfl Try.func70 (by kernel_rfl) rfl #[.int .u8 a0, .int .u8 a2] rfl (by (try simp only [List.map_toArray, List.map_cons, List.map_nil]); first | done | rfl | (simp only [List.length_drop, List.length_take]; rfl)) ?_; (with_reducible refine (shift_Cpl.calls a0 a2 t155 t156 _ A8.out).mono ?_); rintro e w' ⟨rfl, ⟨nd, rfl⟩⟩; refine ⟨_, rfl, ?_⟩) | ((with_reducible refine gate_callee (f := 71) rfl ?_); refine goesL_ (some 46) rfl rfl Try.func71 (by kernel_rfl) rfl #[.int .u8 a0, .int .u8 a2] rfl (by (try simp only [List.map_toArray, List.map_cons, List.map_nil]); first | done | rfl | (simp only [List.length_drop, List.length_take]; rfl)) ?_; (with_reducible refine (pendulumref06_Cpl.calls a0 a2 t157 t158 _ A9.out).mono ?_); rintro e w' ⟨rfl, ⟨nd, rfl⟩⟩; refine ⟨_, rfl, ?_⟩))
    (try simp only [Act.put, List.setIfInBounds_toArray, List.set_cons_zero, List.set_cons_succ])
    go_cut [84] (fun v84 wc => ∃ (kq : Nat) (x84_9 : Bool), v84 = .bool x84_9 ∧ Aside0 (pendulumlaw06_ShiftOdd.j0 kq a0 a1 a2 x84_9 = some r) ∧ Aside0 (kq ≤ k) ∧ Drawn0 w wc)
    case first =>
      have H := HC10.out
      clear HC10
      by_cases c11 : t151 = t153
      · rw [if_pos c11] at H
        have c11b0 : (t151 == t153) = true := beq_iff_eq.mpr c11
        have c11b1 : (t151 != t153) = false := bne_eq_false_iff_eq.mpr c11
        clear c11
        (first | rw [c11b0] | (simp only [i64_w, i32_w]; rw [c11b0]) | skip)
        by_cases c12 : t152 = t154
        · rw [if_pos c12] at H
          have c12b0 : (t152 == t154) = true := beq_iff_eq.mpr c12
          have c12b1 : (t152 != t154) = false := bne_eq_false_iff_eq.mpr c12
          clear c12
          by_cases c13 : t155 = t157
          · rw [if_pos c13] at H
            have c13b0 : (t155 == t157) = true := beq_iff_eq.mpr c13
            have c13b1 : (t155 != t157) = false := bne_eq_false_iff_eq.mpr c13
            clear c13
            by_cases c14 : t156 = t158
            · rw [if_pos c14] at H
              have c14b0 : (t156 == t158) = true := beq_iff_eq.mpr c14
              have c14b1 : (t156 != t158) = false := bne_eq_false_iff_eq.mpr c14
              clear c14
              replace H := Option.bind_eq_some_iff.mp H
              obtain ⟨t159, A150, H⟩ := H
              replace H : ((pendulumref06_Scf.f a0 a2).bind fun t160 => (if t159 = t160 then ((shift_Ccf.f a0 a2).bind fun t161 => ((pendulumref06_Ccf.f a0 a2).bind fun t162 => (pendulumlaw06_ShiftOdd.j0 k a0 a1 a2 (t161 != t162)))) else (pendulumlaw06_ShiftOdd.j0 k a0 a1 a2 true))) = some r := H
              have A15 := Aside0.mk A150
              clear A150
              replace H := Option.bind_eq_some_iff.mp H
              obtain ⟨t160, A160, H⟩ := H
              replace H : (if t159 = t160 then ((shift_Ccf.f a0 a2).bind fun t161 => ((pendulumref06_Ccf.f a0 a2).bind fun t162 => (pendulumlaw06_ShiftOdd.j0 k a0 a1 a2 (t161 != t162)))) else (pendulumlaw06_ShiftOdd.j0 k a0 a1 a2 true)) = some r := H
              have A16 := Aside0.mk A160
              clear A160
              by_cases c17 : t159 = t160
              · rw [if_pos c17] at H
                have c17b0 : (t159 == t160) = true := beq_iff_eq.mpr c17
                have c17b1 : (t159 != t160) = false := bne_eq_false_iff_eq.mpr c17
                clear c17
                replace H := Option.bind_eq_some_iff.mp H
                obtain ⟨t161, A180, H⟩ := H
                replace H : ((pendulumref06_Ccf.f a0 a2).bind fun t162 => (pendulumlaw06_ShiftOdd.j0 k a0 a1 a2 (t161 != t162))) = some r := H
                have A18 := Aside0.mk A180
                clear A180
                replace H := Option.bind_eq_some_iff.mp H
                obtain ⟨t162, A190, H⟩ := H
                replace H : (pendulumlaw06_ShiftOdd.j0 k a0 a1 a2 (t161 != t162)) = some r := H
                have A19 := Aside0.mk A190
                clear A190
                have H' := Aside0.mk H
                clear H
                go_wp2_with (first | (go_at_call 72; (with_reducible refine (shift_Scf.calls a0 a2 t159 _ A15.out).mono ?_); rintro e w' ⟨rfl, ⟨nd, rfl⟩⟩) | (go_at_call 73; (with_reducible refine (pendulumref06_Scf.calls a0 a2 t160 _ A16.out).mono ?_); rintro e w' ⟨rfl, ⟨nd, rfl⟩⟩) | (go_at_call 74; (with_reducible refine (shift_Ccf.calls a0 a2 t161 _ A18.out).mono ?_); rintro e w' ⟨rfl, ⟨nd, rfl⟩⟩) | (go_at_call 75; (with_reducible refine (pendulumref06_Ccf.calls a0 a2 t162 _ A19.out).mono ?_); rintro e w' ⟨rfl, ⟨nd, rfl⟩⟩))
                go_meet
                case rel => exact ⟨_, ((t161 != t162)), (by first | rfl | (simp; done) | (simp [*]; done)), H', ⟨by first | omega | exact Nat.le_refl _⟩, by repeat (first | exact Drawn0.refl _ | apply Drawn0.step)⟩
              · rw [if_neg c17] at H
                have c17b0 : (t159 == t160) = false := beq_eq_false_iff_ne.mpr c17
                have c17b1 : (t159 != t160) = true := bne_iff_ne.mpr c17
                have H' := Aside0.mk H
                clear H
                go_wp2_with (first | (go_at_call 72; (with_reducible refine (shift_Scf.calls a0 a2 t159 _ A15.out).mono ?_); rintro e w' ⟨rfl, ⟨nd, rfl⟩⟩) | (go_at_call 73; (with_reducible refine (pendulumref06_Scf.calls a0 a2 t160 _ A16.out).mono ?_); rintro e w' ⟨rfl, ⟨nd, rfl⟩⟩))
                go_meet
                case rel => exact ⟨_, (true), (by first | rfl | (simp; done) | (simp [*]; done)), H', ⟨by first | omega | exact Nat.le_refl _⟩, by repeat (first | exact Drawn0.refl _ | apply Drawn0.step)⟩
            · rw [if_neg c14] at H
              have c14b0 : (t156 == t158) = false := beq_eq_false_iff_ne.mpr c14
              have c14b1 : (t156 != t158) = true := bne_iff_ne.mpr c14
              have H' := Aside0.mk H
              clear H
              go_wp2
              go_meet
              case rel => exact ⟨_, (true), (by first | rfl | (simp; done) | (simp [*]; done)), H', ⟨by first | omega | exact Nat.le_refl _⟩, by repeat (first | exact Drawn0.refl _ | apply Drawn0.step)⟩
          · rw [if_neg c13] at H
            have c13b0 : (t155 == t157) = false := beq_eq_false_iff_ne.mpr c13
            have c13b1 : (t155 != t157) = true := bne_iff_ne.mpr c13
            have H' := Aside0.mk H
            clear H
            go_wp2
            go_meet
            case rel => exact ⟨_, (true), (by first | rfl | (simp; done) | (simp [*]; done)), H', ⟨by first | omega | exact Nat.le_refl _⟩, by repeat (first | exact Drawn0.refl _ | apply Drawn0.step)⟩
        · rw [if_neg c12] at H
          have c12b0 : (t152 == t154) = false := beq_eq_false_iff_ne.mpr c12
          have c12b1 : (t152 != t154) = true := bne_iff_ne.mpr c12
          have H' := Aside0.mk H
          clear H
          go_wp2
          go_meet
          case rel => exact ⟨_, (true), (by first | rfl | (simp; done) | (simp [*]; done)), H', ⟨by first | omega | exact Nat.le_refl _⟩, by repeat (first | exact Drawn0.refl _ | apply Drawn0.step)⟩
      · rw [if_neg c11] at H
        have c11b0 : (t151 == t153) = false := beq_eq_false_iff_ne.mpr c11
        have c11b1 : (t151 != t153) = true := bne_iff_ne.mpr c11
        (first | rw [c11b0] | (simp only [i64_w, i32_w]; rw [c11b0]) | skip)
        have H' := Aside0.mk H
        clear H
        go_wp2
        go_meet
        case rel => exact ⟨_, (true), (by first | rfl | (simp; done) | (simp [*]; done)), H', ⟨by first | omega | exact Nat.le_refl _⟩, by repeat (first | exact Drawn0.refl _ | apply Drawn0.step)⟩
    case rest =>
      clear HC10
      try clear c1
      try clear p2
      try clear c5
      try clear c6
      try clear c7
      try clear c11
      try clear c11b0
      try clear c11b1
      try clear c12
      try clear c12b0
      try clear c12b1
      try clear c13
      try clear c13b0
      try clear c13b1
      try clear c14
      try clear c14b0
      try clear c14b1
      try clear c17
      try clear c17b0
      try clear c17b1
      obtain ⟨kq, x84_9, rfl, HA, HJ9, ⟨mc9, rfl⟩⟩ := hcut
      cases kq with
      | zero => exact absurd HA.out (by simp [pendulumlaw06_ShiftOdd.j0])
      | succ kj9 =>
        have H := HA.out
        clear HA
        simp only [pendulumlaw06_ShiftOdd.j0] at H
        by_cases c20 : x84_9 = true
        · subst c20
          have H1 : (some false) = some r := by rw [if_pos rfl] at H; exact H
          clear H
          have H := H1
          clear H1
          obtain rfl := Option.some.inj H
          go_wp2
          go_ret
          exact ⟨by first | rfl | (simp; done) | (simp [*]; done), by repeat (first | exact Drawn0.refl _ | apply Drawn0.step)⟩
        · replace c20 := Bool.eq_false_iff.mpr c20
          subst c20
          have H1 : ((shift_Rld.f a0 a1 a2).bind fun bt163 => ((pendulumref06_Rld.f kj9 a0 a1 a2).bind fun bt166 => ((shift_Rrd.f a0 a1 a2).bind fun bt169 => ((pendulumref06_Rrd.f kj9 a0 a1 a2).bind fun bt172 => (if bt163.1 = bt166.1 then (if bt163.2.1 = bt166.2.1 then (if bt163.2.2 = bt166.2.2 then (if bt169.1 = bt172.1 then (if bt169.2.1 = bt172.2.1 then (some (bt169.2.2 == bt172.2.2)) else (some false)) else (some false)) else (some false)) else (some false)) else (some false)))))) = some r := by rw [if_neg (show ¬ (false = true) by decide)] at H; exact H
          clear H
          have H := H1
          clear H1
          replace H := Option.bind_eq_some_iff.mp H
          obtain ⟨⟨t163, t164, t165⟩, A210, H⟩ := H
          replace H : ((pendulumref06_Rld.f kj9 a0 a1 a2).bind fun bt166 => ((shift_Rrd.f a0 a1 a2).bind fun bt169 => ((pendulumref06_Rrd.f kj9 a0 a1 a2).bind fun bt172 => (if t163 = bt166.1 then (if t164 = bt166.2.1 then (if t165 = bt166.2.2 then (if bt169.1 = bt172.1 then (if bt169.2.1 = bt172.2.1 then (some (bt169.2.2 == bt172.2.2)) else (some false)) else (some false)) else (some false)) else (some false)) else (some false))))) = some r := H
          have A21 := Aside0.mk A210
          clear A210
          replace H := Option.bind_eq_some_iff.mp H
          obtain ⟨⟨t166, t167, t168⟩, A220, H⟩ := H
          replace H : ((shift_Rrd.f a0 a1 a2).bind fun bt169 => ((pendulumref06_Rrd.f kj9 a0 a1 a2).bind fun bt172 => (if t163 = t166 then (if t164 = t167 then (if t165 = t168 then (if bt169.1 = bt172.1 then (if bt169.2.1 = bt172.2.1 then (some (bt169.2.2 == bt172.2.2)) else (some false)) else (some false)) else (some false)) else (some false)) else (some false)))) = some r := H
          have A22 := Aside0.mk A220
          clear A220
          replace H := Option.bind_eq_some_iff.mp H
          obtain ⟨⟨t169, t170, t171⟩, A230, H⟩ := H
          replace H : ((pendulumref06_Rrd.f kj9 a0 a1 a2).bind fun bt172 => (if t163 = t166 then (if t164 = t167 then (if t165 = t168 then (if t169 = bt172.1 then (if t170 = bt172.2.1 then (some (t171 == bt172.2.2)) else (some false)) else (some false)) else (some false)) else (some false)) else (some false))) = some r := H
          have A23 := Aside0.mk A230
          clear A230
          replace H := Option.bind_eq_some_iff.mp H
          obtain ⟨⟨t172, t173, t174⟩, A240, H⟩ := H
          replace H : (if t163 = t166 then (if t164 = t167 then (if t165 = t168 then (if t169 = t172 then (if t170 = t173 then (some (t171 == t174)) else (some false)) else (some false)) else (some false)) else (some false)) else (some false)) = some r := H
          have A24 := Aside0.mk A240
          clear A240
          by_cases c25 : t163 = t166
          · rw [if_pos c25] at H
            have c25b0 : (t163 == t166) = true := beq_iff_eq.mpr c25
            have c25b1 : (t163 != t166) = false := bne_eq_false_iff_eq.mpr c25
            clear c25
            by_cases c26 : t164 = t167
            · rw [if_pos c26] at H
              have c26b0 : (t164 == t167) = true := beq_iff_eq.mpr c26
              have c26b1 : (t164 != t167) = false := bne_eq_false_iff_eq.mpr c26
              clear c26
              by_cases c27 : t165 = t168
              · rw [if_pos c27] at H
                have c27b0 : (t165 == t168) = true := beq_iff_eq.mpr c27
                have c27b1 : (t165 != t168) = false := bne_eq_false_iff_eq.mpr c27
                clear c27
                by_cases c28 : t169 = t172
                · rw [if_pos c28] at H
                  have c28b0 : (t169 == t172) = true := beq_iff_eq.mpr c28
                  have c28b1 : (t169 != t172) = false := bne_eq_false_iff_eq.mpr c28
                  clear c28
                  by_cases c29 : t170 = t173
                  · rw [if_pos c29] at H
                    have c29b0 : (t170 == t173) = true := beq_iff_eq.mpr c29
                    have c29b1 : (t170 != t173) = false := bne_eq_false_iff_eq.mpr c29
                    clear c29
                    obtain rfl := Option.some.inj H
                    go_wp2_with (first | ((with_reducible refine gate_callee (f := 76) rfl ?_); refine goesL_ (some 89) rfl rfl Try.func76 (by kernel_rfl) rfl #[.int .u8 a0, .int .u8 a1, .int .u8 a2] rfl (by (try simp only [List.map_toArray, List.map_cons, List.map_nil]); first | done | rfl | (simp only [List.length_drop, List.length_take]; rfl)) ?_; (with_reducible refine (shift_Rld.calls a0 a1 a2 t163 t164 t165 _ A21.out).mono ?_); rintro e w' ⟨rfl, ⟨nd, rfl⟩⟩; refine ⟨_, rfl, ?_⟩) | ((with_reducible refine gate_callee (f := 77) rfl ?_); refine goesL_ (some 97) rfl rfl Try.func77 (by kernel_rfl) rfl #[.int .u8 a0, .int .u8 a1, .int .u8 a2] rfl (by (try simp only [List.map_toArray, List.map_cons, List.map_nil]); first | done | rfl | (simp only [List.length_drop, List.length_take]; rfl)) ?_; (with_reducible refine (pendulumref06_Rld.calls kj9 a0 a1 a2 t166 t167 t168 _ A22.out).mono ?_); rintro e w' ⟨rfl, ⟨nd, rfl⟩⟩; refine ⟨_, rfl, ?_⟩) | ((with_reducible refine gate_callee (f := 78) rfl ?_); refine goesL_ (some 105) rfl rfl Try.func78 (by kernel_rfl) rfl #[.int .u8 a0, .int .u8 a1, .int .u8 a2] rfl (by (try simp only [List.map_toArray, List.map_cons, List.map_nil]); first | done | rfl | (simp only [List.length_drop, List.length_take]; rfl)) ?_; (with_reducible refine (shift_Rrd.calls a0 a1 a2 t169 t170 t171 _ A23.out).mono ?_); rintro e w' ⟨rfl, ⟨nd, rfl⟩⟩; refine ⟨_, rfl, ?_⟩) | ((with_reducible refine gate_callee (f := 79) rfl ?_); refine goesL_ (some 113) rfl rfl Try.func79 (by kernel_rfl) rfl #[.int .u8 a0, .int .u8 a1, .int .u8 a2] rfl (by (try simp only [List.map_toArray, List.map_cons, List.map_nil]); first | done | rfl | (simp only [List.length_drop, List.length_take]; rfl)) ?_; (with_reducible refine (pendulumref06_Rrd.calls kj9 a0 a1 a2 t172 t173 t174 _ A24.out).mono ?_); rintro e w' ⟨rfl, ⟨nd, rfl⟩⟩; refine ⟨_, rfl, ?_⟩))
                    go_ret
                    exact ⟨by first | rfl | (simp; done) | (simp [*]; done), by repeat (first | exact Drawn0.refl _ | apply Drawn0.step)⟩
                  · rw [if_neg c29] at H
                    have c29b0 : (t170 == t173) = false := beq_eq_false_iff_ne.mpr c29
                    have c29b1 : (t170 != t173) = true := bne_iff_ne.mpr c29
                    obtain rfl := Option.some.inj H
                    go_wp2_with (first | ((with_reducible refine gate_callee (f := 76) rfl ?_); refine goesL_ (some 89) rfl rfl Try.func76 (by kernel_rfl) rfl #[.int .u8 a0, .int .u8 a1, .int .u8 a2] rfl (by (try simp only [List.map_toArray, List.map_cons, List.map_nil]); first | done | rfl | (simp only [List.length_drop, List.length_take]; rfl)) ?_; (with_reducible refine (shift_Rld.calls a0 a1 a2 t163 t164 t165 _ A21.out).mono ?_); rintro e w' ⟨rfl, ⟨nd, rfl⟩⟩; refine ⟨_, rfl, ?_⟩) | ((with_reducible refine gate_callee (f := 77) rfl ?_); refine goesL_ (some 97) rfl rfl Try.func77 (by kernel_rfl) rfl #[.int .u8 a0, .int .u8 a1, .int .u8 a2] rfl (by (try simp only [List.map_toArray, List.map_cons, List.map_nil]); first | done | rfl | (simp only [List.length_drop, List.length_take]; rfl)) ?_; (with_reducible refine (pendulumref06_Rld.calls kj9 a0 a1 a2 t166 t167 t168 _ A22.out).mono ?_); rintro e w' ⟨rfl, ⟨nd, rfl⟩⟩; refine ⟨_, rfl, ?_⟩) | ((with_reducible refine gate_callee (f := 78) rfl ?_); refine goesL_ (some 105) rfl rfl Try.func78 (by kernel_rfl) rfl #[.int .u8 a0, .int .u8 a1, .int .u8 a2] rfl (by (try simp only [List.map_toArray, List.map_cons, List.map_nil]); first | done | rfl | (simp only [List.length_drop, List.length_take]; rfl)) ?_; (with_reducible refine (shift_Rrd.calls a0 a1 a2 t169 t170 t171 _ A23.out).mono ?_); rintro e w' ⟨rfl, ⟨nd, rfl⟩⟩; refine ⟨_, rfl, ?_⟩) | ((with_reducible refine gate_callee (f := 79) rfl ?_); refine goesL_ (some 113) rfl rfl Try.func79 (by kernel_rfl) rfl #[.int .u8 a0, .int .u8 a1, .int .u8 a2] rfl (by (try simp only [List.map_toArray, List.map_cons, List.map_nil]); first | done | rfl | (simp only [List.length_drop, List.length_take]; rfl)) ?_; (with_reducible refine (pendulumref06_Rrd.calls kj9 a0 a1 a2 t172 t173 t174 _ A24.out).mono ?_); rintro e w' ⟨rfl, ⟨nd, rfl⟩⟩; refine ⟨_, rfl, ?_⟩))
                    go_ret
                    exact ⟨by first | rfl | (simp; done) | (simp [*]; done), by repeat (first | exact Drawn0.refl _ | apply Drawn0.step)⟩
                · rw [if_neg c28] at H
                  have c28b0 : (t169 == t172) = false := beq_eq_false_iff_ne.mpr c28
                  have c28b1 : (t169 != t172) = true := bne_iff_ne.mpr c28
                  obtain rfl := Option.some.inj H
                  go_wp2_with (first | ((with_reducible refine gate_callee (f := 76) rfl ?_); refine goesL_ (some 89) rfl rfl Try.func76 (by kernel_rfl) rfl #[.int .u8 a0, .int .u8 a1, .int .u8 a2] rfl (by (try simp only [List.map_toArray, List.map_cons, List.map_nil]); first | done | rfl | (simp only [List.length_drop, List.length_take]; rfl)) ?_; (with_reducible refine (shift_Rld.calls a0 a1 a2 t163 t164 t165 _ A21.out).mono ?_); rintro e w' ⟨rfl, ⟨nd, rfl⟩⟩; refine ⟨_, rfl, ?_⟩) | ((with_reducible refine gate_callee (f := 77) rfl ?_); refine goesL_ (some 97) rfl rfl Try.func77 (by kernel_rfl) rfl #[.int .u8 a0, .int .u8 a1, .int .u8 a2] rfl (by (try simp only [List.map_toArray, List.map_cons, List.map_nil]); first | done | rfl | (simp only [List.length_drop, List.length_take]; rfl)) ?_; (with_reducible refine (pendulumref06_Rld.calls kj9 a0 a1 a2 t166 t167 t168 _ A22.out).mono ?_); rintro e w' ⟨rfl, ⟨nd, rfl⟩⟩; refine ⟨_, rfl, ?_⟩) | ((with_reducible refine gate_callee (f := 78) rfl ?_); refine goesL_ (some 105) rfl rfl Try.func78 (by kernel_rfl) rfl #[.int .u8 a0, .int .u8 a1, .int .u8 a2] rfl (by (try simp only [List.map_toArray, List.map_cons, List.map_nil]); first | done | rfl | (simp only [List.length_drop, List.length_take]; rfl)) ?_; (with_reducible refine (shift_Rrd.calls a0 a1 a2 t169 t170 t171 _ A23.out).mono ?_); rintro e w' ⟨rfl, ⟨nd, rfl⟩⟩; refine ⟨_, rfl, ?_⟩) | ((with_reducible refine gate_callee (f := 79) rfl ?_); refine goesL_ (some 113) rfl rfl Try.func79 (by kernel_rfl) rfl #[.int .u8 a0, .int .u8 a1, .int .u8 a2] rfl (by (try simp only [List.map_toArray, List.map_cons, List.map_nil]); first | done | rfl | (simp only [List.length_drop, List.length_take]; rfl)) ?_; (with_reducible refine (pendulumref06_Rrd.calls kj9 a0 a1 a2 t172 t173 t174 _ A24.out).mono ?_); rintro e w' ⟨rfl, ⟨nd, rfl⟩⟩; refine ⟨_, rfl, ?_⟩))
                  go_ret
                  exact ⟨by first | rfl | (simp; done) | (simp [*]; done), by repeat (first | exact Drawn0.refl _ | apply Drawn0.step)⟩
              · rw [if_neg c27] at H
                have c27b0 : (t165 == t168) = false := beq_eq_false_iff_ne.mpr c27
                have c27b1 : (t165 != t168) = true := bne_iff_ne.mpr c27
                obtain rfl := Option.some.inj H
                go_wp2_with (first | ((with_reducible refine gate_callee (f := 76) rfl ?_); refine goesL_ (some 89) rfl rfl Try.func76 (by kernel_rfl) rfl #[.int .u8 a0, .int .u8 a1, .int .u8 a2] rfl (by (try simp only [List.map_toArray, List.map_cons, List.map_nil]); first | done | rfl | (simp only [List.length_drop, List.length_take]; rfl)) ?_; (with_reducible refine (shift_Rld.calls a0 a1 a2 t163 t164 t165 _ A21.out).mono ?_); rintro e w' ⟨rfl, ⟨nd, rfl⟩⟩; refine ⟨_, rfl, ?_⟩) | ((with_reducible refine gate_callee (f := 77) rfl ?_); refine goesL_ (some 97) rfl rfl Try.func77 (by kernel_rfl) rfl #[.int .u8 a0, .int .u8 a1, .int .u8 a2] rfl (by (try simp only [List.map_toArray, List.map_cons, List.map_nil]); first | done | rfl | (simp only [List.length_drop, List.length_take]; rfl)) ?_; (with_reducible refine (pendulumref06_Rld.calls kj9 a0 a1 a2 t166 t167 t168 _ A22.out).mono ?_); rintro e w' ⟨rfl, ⟨nd, rfl⟩⟩; refine ⟨_, rfl, ?_⟩) | ((with_reducible refine gate_callee (f := 78) rfl ?_); refine goesL_ (some 105) rfl rfl Try.func78 (by kernel_rfl) rfl #[.int .u8 a0, .int .u8 a1, .int .u8 a2] rfl (by (try simp only [List.map_toArray, List.map_cons, List.map_nil]); first | done | rfl | (simp only [List.length_drop, List.length_take]; rfl)) ?_; (with_reducible refine (shift_Rrd.calls a0 a1 a2 t169 t170 t171 _ A23.out).mono ?_); rintro e w' ⟨rfl, ⟨nd, rfl⟩⟩; refine ⟨_, rfl, ?_⟩) | ((with_reducible refine gate_callee (f := 79) rfl ?_); refine goesL_ (some 113) rfl rfl Try.func79 (by kernel_rfl) rfl #[.int .u8 a0, .int .u8 a1, .int .u8 a2] rfl (by (try simp only [List.map_toArray, List.map_cons, List.map_nil]); first | done | rfl | (simp only [List.length_drop, List.length_take]; rfl)) ?_; (with_reducible refine (pendulumref06_Rrd.calls kj9 a0 a1 a2 t172 t173 t174 _ A24.out).mono ?_); rintro e w' ⟨rfl, ⟨nd, rfl⟩⟩; refine ⟨_, rfl, ?_⟩))
                go_ret
                exact ⟨by first | rfl | (simp; done) | (simp [*]; done), by repeat (first | exact Drawn0.refl _ | apply Drawn0.step)⟩
            · rw [if_neg c26] at H
              have c26b0 : (t164 == t167) = false := beq_eq_false_iff_ne.mpr c26
              have c26b1 : (t164 != t167) = true := bne_iff_ne.mpr c26
              obtain rfl := Option.some.inj H
              go_wp2_with (first | ((with_reducible refine gate_callee (f := 76) rfl ?_); refine goesL_ (some 89) rfl rfl Try.func76 (by kernel_rfl) rfl #[.int .u8 a0, .int .u8 a1, .int .u8 a2] rfl (by (try simp only [List.map_toArray, List.map_cons, List.map_nil]); first | done | rfl | (simp only [List.length_drop, List.length_take]; rfl)) ?_; (with_reducible refine (shift_Rld.calls a0 a1 a2 t163 t164 t165 _ A21.out).mono ?_); rintro e w' ⟨rfl, ⟨nd, rfl⟩⟩; refine ⟨_, rfl, ?_⟩) | ((with_reducible refine gate_callee (f := 77) rfl ?_); refine goesL_ (some 97) rfl rfl Try.func77 (by kernel_rfl) rfl #[.int .u8 a0, .int .u8 a1, .int .u8 a2] rfl (by (try simp only [List.map_toArray, List.map_cons, List.map_nil]); first | done | rfl | (simp only [List.length_drop, List.length_take]; rfl)) ?_; (with_reducible refine (pendulumref06_Rld.calls kj9 a0 a1 a2 t166 t167 t168 _ A22.out).mono ?_); rintro e w' ⟨rfl, ⟨nd, rfl⟩⟩; refine ⟨_, rfl, ?_⟩) | ((with_reducible refine gate_callee (f := 78) rfl ?_); refine goesL_ (some 105) rfl rfl Try.func78 (by kernel_rfl) rfl #[.int .u8 a0, .int .u8 a1, .int .u8 a2] rfl (by (try simp only [List.map_toArray, List.map_cons, List.map_nil]); first | done | rfl | (simp only [List.length_drop, List.length_take]; rfl)) ?_; (with_reducible refine (shift_Rrd.calls a0 a1 a2 t169 t170 t171 _ A23.out).mono ?_); rintro e w' ⟨rfl, ⟨nd, rfl⟩⟩; refine ⟨_, rfl, ?_⟩) | ((with_reducible refine gate_callee (f := 79) rfl ?_); refine goesL_ (some 113) rfl rfl Try.func79 (by kernel_rfl) rfl #[.int .u8 a0, .int .u8 a1, .int .u8 a2] rfl (by (try simp only [List.map_toArray, List.map_cons, List.map_nil]); first | done | rfl | (simp only [List.length_drop, List.length_take]; rfl)) ?_; (with_reducible refine (pendulumref06_Rrd.calls kj9 a0 a1 a2 t172 t173 t174 _ A24.out).mono ?_); rintro e w' ⟨rfl, ⟨nd, rfl⟩⟩; refine ⟨_, rfl, ?_⟩))
              go_ret
              exact ⟨by first | rfl | (simp; done) | (simp [*]; done), by repeat (first | exact Drawn0.refl _ | apply Drawn0.step)⟩
          · rw [if_neg c25] at H
            have c25b0 : (t163 == t166) = false := beq_eq_false_iff_ne.mpr c25
            have c25b1 : (t163 != t166) = true := bne_iff_ne.mpr c25
            obtain rfl := Option.some.inj H
            go_wp2_with (first | ((with_reducible refine gate_callee (f := 76) rfl ?_); refine goesL_ (some 89) rfl rfl Try.func76 (by kernel_rfl) rfl #[.int .u8 a0, .int .u8 a1, .int .u8 a2] rfl (by (try simp only [List.map_toArray, List.map_cons, List.map_nil]); first | done | rfl | (simp only [List.length_drop, List.length_take]; rfl)) ?_; (with_reducible refine (shift_Rld.calls a0 a1 a2 t163 t164 t165 _ A21.out).mono ?_); rintro e w' ⟨rfl, ⟨nd, rfl⟩⟩; refine ⟨_, rfl, ?_⟩) | ((with_reducible refine gate_callee (f := 77) rfl ?_); refine goesL_ (some 97) rfl rfl Try.func77 (by kernel_rfl) rfl #[.int .u8 a0, .int .u8 a1, .int .u8 a2] rfl (by (try simp only [List.map_toArray, List.map_cons, List.map_nil]); first | done | rfl | (simp only [List.length_drop, List.length_take]; rfl)) ?_; (with_reducible refine (pendulumref06_Rld.calls kj9 a0 a1 a2 t166 t167 t168 _ A22.out).mono ?_); rintro e w' ⟨rfl, ⟨nd, rfl⟩⟩; refine ⟨_, rfl, ?_⟩) | ((with_reducible refine gate_callee (f := 78) rfl ?_); refine goesL_ (some 105) rfl rfl Try.func78 (by kernel_rfl) rfl #[.int .u8 a0, .int .u8 a1, .int .u8 a2] rfl (by (try simp only [List.map_toArray, List.map_cons, List.map_nil]); first | done | rfl | (simp only [List.length_drop, List.length_take]; rfl)) ?_; (with_reducible refine (shift_Rrd.calls a0 a1 a2 t169 t170 t171 _ A23.out).mono ?_); rintro e w' ⟨rfl, ⟨nd, rfl⟩⟩; refine ⟨_, rfl, ?_⟩) | ((with_reducible refine gate_callee (f := 79) rfl ?_); refine goesL_ (some 113) rfl rfl Try.func79 (by kernel_rfl) rfl #[.int .u8 a0, .int .u8 a1, .int .u8 a2] rfl (by (try simp only [List.map_toArray, List.map_cons, List.map_nil]); first | done | rfl | (simp only [List.length_drop, List.length_take]; rfl)) ?_; (with_reducible refine (pendulumref06_Rrd.calls kj9 a0 a1 a2 t172 t173 t174 _ A24.out).mono ?_); rintro e w' ⟨rfl, ⟨nd, rfl⟩⟩; refine ⟨_, rfl, ?_⟩))
            go_ret
            exact ⟨by first | rfl | (simp; done) | (simp [*]; done), by repeat (first | exact Drawn0.refl _ | apply Drawn0.step)⟩
  · replace c5 := Bool.eq_false_iff.mpr c5
    subst c5
    have H1 : (some false) = some r := by rw [if_neg (show ¬ (false = true) by decide)] at H; exact H
    clear H
    have H := H1
    clear H1
    obtain rfl := Option.some.inj H
    go_enter Try.func17, Try.ntmps17
    go_wp2_with (first | ((with_reducible refine gate_callee (f := 51) rfl ?_); refine goesL_ (some 23) rfl rfl Try.func51 (by kernel_rfl) rfl #[] rfl (by (try simp only [List.map_toArray, List.map_cons, List.map_nil]); first | done | rfl | (simp only [List.length_drop, List.length_take]; rfl)) ?_; (with_reducible refine (pendulumlaw06_lives.calls k  false _ A4.out).mono ?_); rintro e w' ⟨rfl, ⟨nd, rfl⟩⟩; refine ⟨_, rfl, ?_⟩))
    go_ret
    exact ⟨by first | rfl | (simp; done) | (simp [*]; done), by repeat (first | exact Drawn0.refl _ | apply Drawn0.step)⟩

/-- THE ONE PURE STATEMENT of pendulumlaw06_ShiftOdd: yours. -/
def pendulumlaw06_ShiftOdd.Pure : Prop := ∀ (a0 : Int) (a1 : Int) (a2 : Int), (Lit.int .u8 a0).wf = true → (Lit.int .u8 a1).wf = true → (Lit.int .u8 a2).wf = true → ∃ k, pendulumlaw06_ShiftOdd.f k a0 a1 a2 = some true
theorem pendulumlaw06_ShiftOdd.walk (P : pendulumlaw06_ShiftOdd.Pure) (a0 : Int) (a1 : Int) (a2 : Int) (w : World) (w0 : (Lit.int .u8 a0).wf = true) (w1 : (Lit.int .u8 a1).wf = true) (w2 : (Lit.int .u8 a2).wf = true) :
    Calls Try.prog 17 #[.int .u8 a0, .int .u8 a1, .int .u8 a2] w fun e w' => e = .returned (.bool true) ∧ Below w.heap.size w w' := by
  obtain ⟨k, h⟩ := P a0 a1 a2 w0 w1 w2
  refine (pendulumlaw06_ShiftOdd.calls k a0 a1 a2 true w h).mono ?_
  rintro e w' ⟨rfl, hd⟩
  exact ⟨rfl, hd.below⟩

end Go.Proofs.Ytpmmneipfmbmlaa.HShiftOdd
