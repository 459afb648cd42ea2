-- Written by a program of this session out of Lean's print of the program (after the form of the kit's print.sh, with own turns); Lean checks it.
import Derived.Test.YtpmmneipfmbmlaaHWideBackx0
namespace Go.Proofs.Ytpmmneipfmbmlaa.HWideBack
open Go.RowKit Go.Proofs.YtpmmneipfmbmlaaW.PrintWords Go.Proofs.YtpmmneipfmbmlaaW.PrintLast Go.Proofs.YtpmmneipfmbmlaaW.PrintMore
attribute [local go_sem] max2_int min2_int max_two min_two max_three min_three max_four min_four   -- for this text's walks alone
set_option linter.unusedVariables false
set_option linter.unusedSimpArgs false

/-! ### wide_if1: function 81 -/
def wide_if1.f (a0 : Bool) (a1 : Int) : Option (Int) := if a0 = true then (some a1) else (some 0)
set_option maxHeartbeats 8000000 in
set_option maxRecDepth 100000 in
theorem wide_if1.calls (a0 : Bool) (a1 : Int) (r : Int) (w : World) (h : wide_if1.f a0 a1 = some r) :
    Calls Try.prog 81 #[.bool a0, .int .u8 a1] w fun e w' => e = .returned (.int .u8 r) ∧ Drawn0 w w' := by
  have H : (if a0 = true then (some a1) else (some 0)) = some r := h
  clear h
  by_cases c3 : a0 = true
  · subst c3
    have H1 : (some a1) = some r := by rw [if_pos rfl] at H; exact H
    clear H
    have H := H1
    clear H1
    obtain rfl := Option.some.inj H
    go_enter Try.func81, Try.ntmps81
    go_wp2
    go_ret
    exact ⟨by first | rfl | (simp; done) | (simp [*]; done), by repeat (first | exact Drawn0.refl _ | apply Drawn0.step)⟩
  · replace c3 := Bool.eq_false_iff.mpr c3
    subst c3
    have H1 : (some 0) = some r := by rw [if_neg (show ¬ (false = true) by decide)] at H; exact H
    clear H
    have H := H1
    clear H1
    obtain rfl := Option.some.inj H
    go_enter Try.func81, Try.ntmps81
    go_wp2
    go_ret
    exact ⟨by first | rfl | (simp; done) | (simp [*]; done), by repeat (first | exact Drawn0.refl _ | apply Drawn0.step)⟩

/-! ### wide_all: function 80 -/
def wide_all.f (a0 : Int) : Option (Int) := (wide_if1.f (a0 == 0) 64).bind fun t101 => (some (Go.bits .or .u8 (Go.bits .and .u8 ((a0 / 256) % 256) 168) t101))
set_option maxHeartbeats 8000000 in
set_option maxRecDepth 100000 in
theorem wide_all.calls (a0 : Int) (r : Int) (w : World) (h : wide_all.f a0 = some r) :
    Calls Try.prog 80 #[.int .u16 a0] w fun e w' => e = .returned (.int .u8 r) ∧ Drawn0 w w' := by
  have H : ((wide_if1.f (a0 == 0) 64).bind fun t101 => (some (Go.bits .or .u8 (Go.bits .and .u8 ((a0 / 256) % 256) 168) t101))) = some r := h
  clear h
  replace H := Option.bind_eq_some_iff.mp H
  obtain ⟨t101, A20, H⟩ := H
  replace H : (some (Go.bits .or .u8 (Go.bits .and .u8 ((a0 / 256) % 256) 168) t101)) = some r := H
  have A2 := Aside0.mk A20
  clear A20
  obtain rfl := Option.some.inj H
  go_enter Try.func80, Try.ntmps80
  go_wp2_with (first | ((with_reducible refine gate_callee (f := 81) rfl ?_); refine goesL_ (some 9) rfl rfl Try.func81 (by kernel_rfl) rfl #[.bool (a0 == 0), .int .u8 64] rfl (by (try simp only [List.map_toArray, List.map_cons, List.map_nil]); first | done | rfl | (simp only [List.length_drop, List.length_take]; rfl)) ?_; (with_reducible refine (wide_if1.calls (a0 == 0) 64 t101 _ A2.out).mono ?_); rintro e w' ⟨rfl, ⟨nd, rfl⟩⟩; refine ⟨_, rfl, ?_⟩))
  go_ret
  exact ⟨by first | rfl | (simp; done) | (simp [*]; done), by repeat (first | exact Drawn0.refl _ | apply Drawn0.step)⟩

/-! ### wide_Adc: function 20 -/
def wide_Adc.f (a0 : Int) (a1 : Int) (a2 : Int) : Option (Int × Int) := (wide_all.f (IntKind.u16.wrap (wrap64 ((wrap64 ((wrap64 (a0)) + (wrap64 (a1)))) + (wrap64 (Go.bits .and .u8 a2 1)))))).bind fun t102 => ((wide_if1.f (decide ((wrap64 ((wrap64 ((wrap64 (a0)) + (wrap64 (a1)))) + (wrap64 (Go.bits .and .u8 a2 1)))) > 65535)) 1).bind fun t103 => ((wide_if1.f (decide ((wrap64 ((wrap64 ((wrap64 (Go.bits .and .u16 a0 4095)) + (wrap64 (Go.bits .and .u16 a1 4095)))) + (wrap64 (Go.bits .and .u8 a2 1)))) > 4095)) 16).bind fun t104 => (if (wrap64 ((wrap64 ((wrap64 (IntKind.i16.wrap (a0))) + (wrap64 (IntKind.i16.wrap (a1))))) + (wrap64 (Go.bits .and .u8 a2 1)))) < (-32768) then ((wide_if1.f true 4).bind fun t105 => (some (IntKind.u16.wrap (wrap64 ((wrap64 ((wrap64 (a0)) + (wrap64 (a1)))) + (wrap64 (Go.bits .and .u8 a2 1)))), Go.bits .or .u8 (Go.bits .or .u8 (Go.bits .or .u8 t102 t103) t104) t105))) else ((wide_if1.f (decide ((wrap64 ((wrap64 ((wrap64 (IntKind.i16.wrap (a0))) + (wrap64 (IntKind.i16.wrap (a1))))) + (wrap64 (Go.bits .and .u8 a2 1)))) ≥ 32768)) 4).bind fun t106 => (some (IntKind.u16.wrap (wrap64 ((wrap64 ((wrap64 (a0)) + (wrap64 (a1)))) + (wrap64 (Go.bits .and .u8 a2 1)))), Go.bits .or .u8 (Go.bits .or .u8 (Go.bits .or .u8 t102 t103) t104) t106))))))
set_option maxHeartbeats 8000000 in
set_option maxRecDepth 100000 in
theorem wide_Adc.calls (a0 : Int) (a1 : Int) (a2 : Int) (r1 : Int) (r2 : Int) (w : World) (h : wide_Adc.f a0 a1 a2 = some (r1, r2)) :
    Calls Try.prog 20 #[.int .u16 a0, .int .u16 a1, .int .u8 a2] w fun e w' => e = .returned (.tuple #[.int .u16 r1, .int .u8 r2]) ∧ Drawn0 w w' := by
  have H : ((wide_all.f (IntKind.u16.wrap (wrap64 ((wrap64 ((wrap64 (a0)) + (wrap64 (a1)))) + (wrap64 (Go.bits .and .u8 a2 1)))))).bind fun t102 => ((wide_if1.f (decide ((wrap64 ((wrap64 ((wrap64 (a0)) + (wrap64 (a1)))) + (wrap64 (Go.bits .and .u8 a2 1)))) > 65535)) 1).bind fun t103 => ((wide_if1.f (decide ((wrap64 ((wrap64 ((wrap64 (Go.bits .and .u16 a0 4095)) + (wrap64 (Go.bits .and .u16 a1 4095)))) + (wrap64 (Go.bits .and .u8 a2 1)))) > 4095)) 16).bind fun t104 => (if (wrap64 ((wrap64 ((wrap64 (IntKind.i16.wrap (a0))) + (wrap64 (IntKind.i16.wrap (a1))))) + (wrap64 (Go.bits .and .u8 a2 1)))) < (-32768) then ((wide_if1.f true 4).bind fun t105 => (some (IntKind.u16.wrap (wrap64 ((wrap64 ((wrap64 (a0)) + (wrap64 (a1)))) + (wrap64 (Go.bits .and .u8 a2 1)))), Go.bits .or .u8 (Go.bits .or .u8 (Go.bits .or .u8 t102 t103) t104) t105))) else ((wide_if1.f (decide ((wrap64 ((wrap64 ((wrap64 (IntKind.i16.wrap (a0))) + (wrap64 (IntKind.i16.wrap (a1))))) + (wrap64 (Go.bits .and .u8 a2 1)))) ≥ 32768)) 4).bind fun t106 => (some (IntKind.u16.wrap (wrap64 ((wrap64 ((wrap64 (a0)) + (wrap64 (a1)))) + (wrap64 (Go.bits .and .u8 a2 1)))), Go.bits .or .u8 (Go.bits .or .u8 (Go.bits .or .u8 t102 t103) t104) t106))))))) = some (r1, r2) := h
  clear h
  replace H := Option.bind_eq_some_iff.mp H
  obtain ⟨t102, A40, H⟩ := H
  replace H : ((wide_if1.f (decide ((wrap64 ((wrap64 ((wrap64 (a0)) + (wrap64 (a1)))) + (wrap64 (Go.bits .and .u8 a2 1)))) > 65535)) 1).bind fun t103 => ((wide_if1.f (decide ((wrap64 ((wrap64 ((wrap64 (Go.bits .and .u16 a0 4095)) + (wrap64 (Go.bits .and .u16 a1 4095)))) + (wrap64 (Go.bits .and .u8 a2 1)))) > 4095)) 16).bind fun t104 => (if (wrap64 ((wrap64 ((wrap64 (IntKind.i16.wrap (a0))) + (wrap64 (IntKind.i16.wrap (a1))))) + (wrap64 (Go.bits .and .u8 a2 1)))) < (-32768) then ((wide_if1.f true 4).bind fun t105 => (some (IntKind.u16.wrap (wrap64 ((wrap64 ((wrap64 (a0)) + (wrap64 (a1)))) + (wrap64 (Go.bits .and .u8 a2 1)))), Go.bits .or .u8 (Go.bits .or .u8 (Go.bits .or .u8 t102 t103) t104) t105))) else ((wide_if1.f (decide ((wrap64 ((wrap64 ((wrap64 (IntKind.i16.wrap (a0))) + (wrap64 (IntKind.i16.wrap (a1))))) + (wrap64 (Go.bits .and .u8 a2 1)))) ≥ 32768)) 4).bind fun t106 => (some (IntKind.u16.wrap (wrap64 ((wrap64 ((wrap64 (a0)) + (wrap64 (a1)))) + (wrap64 (Go.bits .and .u8 a2 1)))), Go.bits .or .u8 (Go.bits .or .u8 (Go.bits .or .u8 t102 t103) t104) t106)))))) = some (r1, r2) := H
  have A4 := Aside0.mk A40
  clear A40
  replace H := Option.bind_eq_some_iff.mp H
  obtain ⟨t103, A50, H⟩ := H
  replace H : ((wide_if1.f (decide ((wrap64 ((wrap64 ((wrap64 (Go.bits .and .u16 a0 4095)) + (wrap64 (Go.bits .and .u16 a1 4095)))) + (wrap64 (Go.bits .and .u8 a2 1)))) > 4095)) 16).bind fun t104 => (if (wrap64 ((wrap64 ((wrap64 (IntKind.i16.wrap (a0))) + (wrap64 (IntKind.i16.wrap (a1))))) + (wrap64 (Go.bits .and .u8 a2 1)))) < (-32768) then ((wide_if1.f true 4).bind fun t105 => (some (IntKind.u16.wrap (wrap64 ((wrap64 ((wrap64 (a0)) + (wrap64 (a1)))) + (wrap64 (Go.bits .and .u8 a2 1)))), Go.bits .or .u8 (Go.bits .or .u8 (Go.bits .or .u8 t102 t103) t104) t105))) else ((wide_if1.f (decide ((wrap64 ((wrap64 ((wrap64 (IntKind.i16.wrap (a0))) + (wrap64 (IntKind.i16.wrap (a1))))) + (wrap64 (Go.bits .and .u8 a2 1)))) ≥ 32768)) 4).bind fun t106 => (some (IntKind.u16.wrap (wrap64 ((wrap64 ((wrap64 (a0)) + (wrap64 (a1)))) + (wrap64 (Go.bits .and .u8 a2 1)))), Go.bits .or .u8 (Go.bits .or .u8 (Go.bits .or .u8 t102 t103) t104) t106))))) = some (r1, r2) := H
  have A5 := Aside0.mk A50
  clear A50
  replace H := Option.bind_eq_some_iff.mp H
  obtain ⟨t104, A60, H⟩ := H
  replace H : (if (wrap64 ((wrap64 ((wrap64 (IntKind.i16.wrap (a0))) + (wrap64 (IntKind.i16.wrap (a1))))) + (wrap64 (Go.bits .and .u8 a2 1)))) < (-32768) then ((wide_if1.f true 4).bind fun t105 => (some (IntKind.u16.wrap (wrap64 ((wrap64 ((wrap64 (a0)) + (wrap64 (a1)))) + (wrap64 (Go.bits .and .u8 a2 1)))), Go.bits .or .u8 (Go.bits .or .u8 (Go.bits .or .u8 t102 t103) t104) t105))) else ((wide_if1.f (decide ((wrap64 ((wrap64 ((wrap64 (IntKind.i16.wrap (a0))) + (wrap64 (IntKind.i16.wrap (a1))))) + (wrap64 (Go.bits .and .u8 a2 1)))) ≥ 32768)) 4).bind fun t106 => (some (IntKind.u16.wrap (wrap64 ((wrap64 ((wrap64 (a0)) + (wrap64 (a1)))) + (wrap64 (Go.bits .and .u8 a2 1)))), Go.bits .or .u8 (Go.bits .or .u8 (Go.bits .or .u8 t102 t103) t104) t106)))) = some (r1, r2) := H
  have A6 := Aside0.mk A60
  clear A60
  by_cases c7 : (wrap64 ((wrap64 ((wrap64 (IntKind.i16.wrap (a0))) + (wrap64 (IntKind.i16.wrap (a1))))) + (wrap64 (Go.bits .and .u8 a2 1)))) < (-32768)
  · rw [if_pos c7] at H
    have c7b0 : decide ((wrap64 ((wrap64 ((wrap64 (IntKind.i16.wrap (a0))) + (wrap64 (IntKind.i16.wrap (a1))))) + (wrap64 (Go.bits .and .u8 a2 1)))) < (-32768)) = true := decide_eq_true c7
    clear c7
    replace H := Option.bind_eq_some_iff.mp H
    obtain ⟨t105, A80, H⟩ := H
    replace H : (some (IntKind.u16.wrap (wrap64 ((wrap64 ((wrap64 (a0)) + (wrap64 (a1)))) + (wrap64 (Go.bits .and .u8 a2 1)))), Go.bits .or .u8 (Go.bits .or .u8 (Go.bits .or .u8 t102 t103) t104) t105)) = some (r1, r2) := H
    have A8 := Aside0.mk A80
    clear A80
    simp only [Option.some.injEq, Prod.mk.injEq] at H
    obtain ⟨rfl, rfl⟩ := H
    go_enter Try.func20, Try.ntmps20
    go_wp2_with (first | ((with_reducible refine gate_callee (f := 80) rfl ?_); refine goesL_ (some 34) rfl rfl Try.func80 (by kernel_rfl) rfl #[.int .u16 (IntKind.u16.wrap (wrap64 ((wrap64 ((wrap64 (a0)) + (wrap64 (a1)))) + (wrap64 (Go.bits .and .u8 a2 1)))))] rfl (by (try simp only [List.map_toArray, List.map_cons, List.map_nil]); first | done | rfl | (simp only [List.length_drop, List.length_take]; rfl)) ?_; (with_reducible refine (wide_all.calls (IntKind.u16.wrap (wrap64 ((wrap64 ((wrap64 (a0)) + (wrap64 (a1)))) + (wrap64 (Go.bits .and .u8 a2 1))))) t102 _ A4.out).mono ?_); rintro e w' ⟨rfl, ⟨nd, rfl⟩⟩; refine ⟨_, rfl, ?_⟩) | ((with_reducible refine gate_callee (f := 81) rfl ?_); refine goesL_ (some 37) rfl rfl Try.func81 (by kernel_rfl) rfl #[.bool (decide ((wrap64 ((wrap64 ((wrap64 (a0)) + (wrap64 (a1)))) + (wrap64 (Go.bits .and .u8 a2 1)))) > 65535)), .int .u8 1] rfl (by (try simp only [List.map_toArray, List.map_cons, List.map_nil]); first | done | rfl | (simp only [List.length_drop, List.length_take]; rfl)) ?_; (with_reducible refine (wide_if1.calls (decide ((wrap64 ((wrap64 ((wrap64 (a0)) + (wrap64 (a1)))) + (wrap64 (Go.bits .and .u8 a2 1)))) > 65535)) 1 t103 _ A5.out).mono ?_); rintro e w' ⟨rfl, ⟨nd, rfl⟩⟩; refine ⟨_, rfl, ?_⟩) | ((with_reducible refine gate_callee (f := 81) rfl ?_); refine goesL_ (some 49) rfl rfl Try.func81 (by kernel_rfl) rfl #[.bool (decide ((wrap64 ((wrap64 ((wrap64 (Go.bits .and .u16 a0 4095)) + (wrap64 (Go.bits .and .u16 a1 4095)))) + (wrap64 (Go.bits .and .u8 a2 1)))) > 4095)), .int .u8 16] rfl (by (try simp only [List.map_toArray, List.map_cons, List.map_nil]); first | done | rfl | (simp only [List.length_drop, List.length_take]; rfl)) ?_; (with_reducible refine (wide_if1.calls (decide ((wrap64 ((wrap64 ((wrap64 (Go.bits .and .u16 a0 4095)) + (wrap64 (Go.bits .and .u16 a1 4095)))) + (wrap64 (Go.bits .and .u8 a2 1)))) > 4095)) 16 t104 _ A6.out).mono ?_); rintro e w' ⟨rfl, ⟨nd, rfl⟩⟩; refine ⟨_, rfl, ?_⟩) | ((with_reducible refine gate_callee (f := 81) rfl ?_); refine goesL_ (some 57) rfl rfl Try.func81 (by kernel_rfl) rfl #[.bool true, .int .u8 4] rfl (by (try simp only [List.map_toArray, List.map_cons, List.map_nil]); first | done | rfl | (simp only [List.length_drop, List.length_take]; rfl)) ?_; (with_reducible refine (wide_if1.calls true 4 t105 _ A8.out).mono ?_); rintro e w' ⟨rfl, ⟨nd, rfl⟩⟩; refine ⟨_, rfl, ?_⟩))
    go_ret2
    exact ⟨by first | rfl | (simp; done) | (simp [*]; done), by repeat (first | exact Drawn0.refl _ | apply Drawn0.step)⟩
  · rw [if_neg c7] at H
    have c7b0 : decide ((wrap64 ((wrap64 ((wrap64 (IntKind.i16.wrap (a0))) + (wrap64 (IntKind.i16.wrap (a1))))) + (wrap64 (Go.bits .and .u8 a2 1)))) < (-32768)) = false := decide_eq_false c7
    clear c7
    replace H := Option.bind_eq_some_iff.mp H
    obtain ⟨t106, A90, H⟩ := H
    replace H : (some (IntKind.u16.wrap (wrap64 ((wrap64 ((wrap64 (a0)) + (wrap64 (a1)))) + (wrap64 (Go.bits .and .u8 a2 1)))), Go.bits .or .u8 (Go.bits .or .u8 (Go.bits .or .u8 t102 t103) t104) t106)) = some (r1, r2) := H
    have A9 := Aside0.mk A90
    clear A90
    simp only [Option.some.injEq, Prod.mk.injEq] at H
    obtain ⟨rfl, rfl⟩ := H
    go_enter Try.func20, Try.ntmps20
    go_wp2_with (first | ((with_reducible refine gate_callee (f := 80) rfl ?_); refine goesL_ (some 34) rfl rfl Try.func80 (by kernel_rfl) rfl #[.int .u16 (IntKind.u16.wrap (wrap64 ((wrap64 ((wrap64 (a0)) + (wrap64 (a1)))) + (wrap64 (Go.bits .and .u8 a2 1)))))] rfl (by (try simp only [List.map_toArray, List.map_cons, List.map_nil]); first | done | rfl | (simp only [List.length_drop, List.length_take]; rfl)) ?_; (with_reducible refine (wide_all.calls (IntKind.u16.wrap (wrap64 ((wrap64 ((wrap64 (a0)) + (wrap64 (a1)))) + (wrap64 (Go.bits .and .u8 a2 1))))) t102 _ A4.out).mono ?_); rintro e w' ⟨rfl, ⟨nd, rfl⟩⟩; refine ⟨_, rfl, ?_⟩) | ((with_reducible refine gate_callee (f := 81) rfl ?_); refine goesL_ (some 37) rfl rfl Try.func81 (by kernel_rfl) rfl #[.bool (decide ((wrap64 ((wrap64 ((wrap64 (a0)) + (wrap64 (a1)))) + (wrap64 (Go.bits .and .u8 a2 1)))) > 65535)), .int .u8 1] rfl (by (try simp only [List.map_toArray, List.map_cons, List.map_nil]); first | done | rfl | (simp only [List.length_drop, List.length_take]; rfl)) ?_; (with_reducible refine (wide_if1.calls (decide ((wrap64 ((wrap64 ((wrap64 (a0)) + (wrap64 (a1)))) + (wrap64 (Go.bits .and .u8 a2 1)))) > 65535)) 1 t103 _ A5.out).mono ?_); rintro e w' ⟨rfl, ⟨nd, rfl⟩⟩; refine ⟨_, rfl, ?_⟩) | ((with_reducible refine gate_callee (f := 81) rfl ?_); refine goesL_ (some 49) rfl rfl Try.func81 (by kernel_rfl) rfl #[.bool (decide ((wrap64 ((wrap64 ((wrap64 (Go.bits .and .u16 a0 4095)) + (wrap64 (Go.bits .and .u16 a1 4095)))) + (wrap64 (Go.bits .and .u8 a2 1)))) > 4095)), .int .u8 16] rfl (by (try simp only [List.map_toArray, List.map_cons, List.map_nil]); first | done | rfl | (simp only [List.length_drop, List.length_take]; rfl)) ?_; (with_reducible refine (wide_if1.calls (decide ((wrap64 ((wrap64 ((wrap64 (Go.bits .and .u16 a0 4095)) + (wrap64 (Go.bits .and .u16 a1 4095)))) + (wrap64 (Go.bits .and .u8 a2 1)))) > 4095)) 16 t104 _ A6.out).mono ?_); rintro e w' ⟨rfl, ⟨nd, rfl⟩⟩; refine ⟨_, rfl, ?_⟩) | ((with_reducible refine gate_callee (f := 81) rfl ?_); refine goesL_ (some 57) rfl rfl Try.func81 (by kernel_rfl) rfl #[.bool (decide ((wrap64 ((wrap64 ((wrap64 (IntKind.i16.wrap (a0))) + (wrap64 (IntKind.i16.wrap (a1))))) + (wrap64 (Go.bits .and .u8 a2 1)))) ≥ 32768)), .int .u8 4] rfl (by (try simp only [List.map_toArray, List.map_cons, List.map_nil]); first | done | rfl | (simp only [List.length_drop, List.length_take]; rfl)) ?_; (with_reducible refine (wide_if1.calls (decide ((wrap64 ((wrap64 ((wrap64 (IntKind.i16.wrap (a0))) + (wrap64 (IntKind.i16.wrap (a1))))) + (wrap64 (Go.bits .and .u8 a2 1)))) ≥ 32768)) 4 t106 _ A9.out).mono ?_); rintro e w' ⟨rfl, ⟨nd, rfl⟩⟩; refine ⟨_, rfl, ?_⟩))
    go_ret2
    exact ⟨by first | rfl | (simp; done) | (simp [*]; done), by repeat (first | exact Drawn0.refl _ | apply Drawn0.step)⟩

/-! ### wide_Sbc: function 22 -/
def wide_Sbc.f (a0 : Int) (a1 : Int) (a2 : Int) : Option (Int × Int) := (wide_all.f (IntKind.u16.wrap (wrap64 ((wrap64 ((wrap64 (a0)) - (wrap64 (a1)))) - (wrap64 (Go.bits .and .u8 a2 1)))))).bind fun t107 => ((wide_if1.f (decide ((wrap64 ((wrap64 ((wrap64 (a0)) - (wrap64 (a1)))) - (wrap64 (Go.bits .and .u8 a2 1)))) < 0)) 1).bind fun t108 => ((wide_if1.f (decide ((wrap64 ((wrap64 ((wrap64 (Go.bits .and .u16 a0 4095)) - (wrap64 (Go.bits .and .u16 a1 4095)))) - (wrap64 (Go.bits .and .u8 a2 1)))) < 0)) 16).bind fun t109 => (if (wrap64 ((wrap64 ((wrap64 (IntKind.i16.wrap (a0))) - (wrap64 (IntKind.i16.wrap (a1))))) - (wrap64 (Go.bits .and .u8 a2 1)))) < (-32768) then ((wide_if1.f true 4).bind fun t110 => (some (IntKind.u16.wrap (wrap64 ((wrap64 ((wrap64 (a0)) - (wrap64 (a1)))) - (wrap64 (Go.bits .and .u8 a2 1)))), Go.bits .or .u8 (Go.bits .or .u8 (Go.bits .or .u8 (Go.bits .or .u8 t107 2) t108) t109) t110))) else ((wide_if1.f (decide ((wrap64 ((wrap64 ((wrap64 (IntKind.i16.wrap (a0))) - (wrap64 (IntKind.i16.wrap (a1))))) - (wrap64 (Go.bits .and .u8 a2 1)))) ≥ 32768)) 4).bind fun t111 => (some (IntKind.u16.wrap (wrap64 ((wrap64 ((wrap64 (a0)) - (wrap64 (a1)))) - (wrap64 (Go.bits .and .u8 a2 1)))), Go.bits .or .u8 (Go.bits .or .u8 (Go.bits .or .u8 (Go.bits .or .u8 t107 2) t108) t109) t111))))))
set_option maxHeartbeats 8000000 in
set_option maxRecDepth 100000 in
theorem wide_Sbc.calls (a0 : Int) (a1 : Int) (a2 : Int) (r1 : Int) (r2 : Int) (w : World) (h : wide_Sbc.f a0 a1 a2 = some (r1, r2)) :
    Calls Try.prog 22 #[.int .u16 a0, .int .u16 a1, .int .u8 a2] w fun e w' => e = .returned (.tuple #[.int .u16 r1, .int .u8 r2]) ∧ Drawn0 w w' := by
  have H : ((wide_all.f (IntKind.u16.wrap (wrap64 ((wrap64 ((wrap64 (a0)) - (wrap64 (a1)))) - (wrap64 (Go.bits .and .u8 a2 1)))))).bind fun t107 => ((wide_if1.f (decide ((wrap64 ((wrap64 ((wrap64 (a0)) - (wrap64 (a1)))) - (wrap64 (Go.bits .and .u8 a2 1)))) < 0)) 1).bind fun t108 => ((wide_if1.f (decide ((wrap64 ((wrap64 ((wrap64 (Go.bits .and .u16 a0 4095)) - (wrap64 (Go.bits .and .u16 a1 4095)))) - (wrap64 (Go.bits .and .u8 a2 1)))) < 0)) 16).bind fun t109 => (if (wrap64 ((wrap64 ((wrap64 (IntKind.i16.wrap (a0))) - (wrap64 (IntKind.i16.wrap (a1))))) - (wrap64 (Go.bits .and .u8 a2 1)))) < (-32768) then ((wide_if1.f true 4).bind fun t110 => (some (IntKind.u16.wrap (wrap64 ((wrap64 ((wrap64 (a0)) - (wrap64 (a1)))) - (wrap64 (Go.bits .and .u8 a2 1)))), Go.bits .or .u8 (Go.bits .or .u8 (Go.bits .or .u8 (Go.bits .or .u8 t107 2) t108) t109) t110))) else ((wide_if1.f (decide ((wrap64 ((wrap64 ((wrap64 (IntKind.i16.wrap (a0))) - (wrap64 (IntKind.i16.wrap (a1))))) - (wrap64 (Go.bits .and .u8 a2 1)))) ≥ 32768)) 4).bind fun t111 => (some (IntKind.u16.wrap (wrap64 ((wrap64 ((wrap64 (a0)) - (wrap64 (a1)))) - (wrap64 (Go.bits .and .u8 a2 1)))), Go.bits .or .u8 (Go.bits .or .u8 (Go.bits .or .u8 (Go.bits .or .u8 t107 2) t108) t109) t111))))))) = some (r1, r2) := h
  clear h
  replace H := Option.bind_eq_some_iff.mp H
  obtain ⟨t107, A40, H⟩ := H
  replace H : ((wide_if1.f (decide ((wrap64 ((wrap64 ((wrap64 (a0)) - (wrap64 (a1)))) - (wrap64 (Go.bits .and .u8 a2 1)))) < 0)) 1).bind fun t108 => ((wide_if1.f (decide ((wrap64 ((wrap64 ((wrap64 (Go.bits .and .u16 a0 4095)) - (wrap64 (Go.bits .and .u16 a1 4095)))) - (wrap64 (Go.bits .and .u8 a2 1)))) < 0)) 16).bind fun t109 => (if (wrap64 ((wrap64 ((wrap64 (IntKind.i16.wrap (a0))) - (wrap64 (IntKind.i16.wrap (a1))))) - (wrap64 (Go.bits .and .u8 a2 1)))) < (-32768) then ((wide_if1.f true 4).bind fun t110 => (some (IntKind.u16.wrap (wrap64 ((wrap64 ((wrap64 (a0)) - (wrap64 (a1)))) - (wrap64 (Go.bits .and .u8 a2 1)))), Go.bits .or .u8 (Go.bits .or .u8 (Go.bits .or .u8 (Go.bits .or .u8 t107 2) t108) t109) t110))) else ((wide_if1.f (decide ((wrap64 ((wrap64 ((wrap64 (IntKind.i16.wrap (a0))) - (wrap64 (IntKind.i16.wrap (a1))))) - (wrap64 (Go.bits .and .u8 a2 1)))) ≥ 32768)) 4).bind fun t111 => (some (IntKind.u16.wrap (wrap64 ((wrap64 ((wrap64 (a0)) - (wrap64 (a1)))) - (wrap64 (Go.bits .and .u8 a2 1)))), Go.bits .or .u8 (Go.bits .or .u8 (Go.bits .or .u8 (Go.bits .or .u8 t107 2) t108) t109) t111)))))) = some (r1, r2) := H
  have A4 := Aside0.mk A40
  clear A40
  replace H := Option.bind_eq_some_iff.mp H
  obtain ⟨t108, A50, H⟩ := H
  replace H : ((wide_if1.f (decide ((wrap64 ((wrap64 ((wrap64 (Go.bits .and .u16 a0 4095)) - (wrap64 (Go.bits .and .u16 a1 4095)))) - (wrap64 (Go.bits .and .u8 a2 1)))) < 0)) 16).bind fun t109 => (if (wrap64 ((wrap64 ((wrap64 (IntKind.i16.wrap (a0))) - (wrap64 (IntKind.i16.wrap (a1))))) - (wrap64 (Go.bits .and .u8 a2 1)))) < (-32768) then ((wide_if1.f true 4).bind fun t110 => (some (IntKind.u16.wrap (wrap64 ((wrap64 ((wrap64 (a0)) - (wrap64 (a1)))) - (wrap64 (Go.bits .and .u8 a2 1)))), Go.bits .or .u8 (Go.bits .or .u8 (Go.bits .or .u8 (Go.bits .or .u8 t107 2) t108) t109) t110))) else ((wide_if1.f (decide ((wrap64 ((wrap64 ((wrap64 (IntKind.i16.wrap (a0))) - (wrap64 (IntKind.i16.wrap (a1))))) - (wrap64 (Go.bits .and .u8 a2 1)))) ≥ 32768)) 4).bind fun t111 => (some (IntKind.u16.wrap (wrap64 ((wrap64 ((wrap64 (a0)) - (wrap64 (a1)))) - (wrap64 (Go.bits .and .u8 a2 1)))), Go.bits .or .u8 (Go.bits .or .u8 (Go.bits .or .u8 (Go.bits .or .u8 t107 2) t108) t109) t111))))) = some (r1, r2) := H
  have A5 := Aside0.mk A50
  clear A50
  replace H := Option.bind_eq_some_iff.mp H
  obtain ⟨t109, A60, H⟩ := H
  replace H : (if (wrap64 ((wrap64 ((wrap64 (IntKind.i16.wrap (a0))) - (wrap64 (IntKind.i16.wrap (a1))))) - (wrap64 (Go.bits .and .u8 a2 1)))) < (-32768) then ((wide_if1.f true 4).bind fun t110 => (some (IntKind.u16.wrap (wrap64 ((wrap64 ((wrap64 (a0)) - (wrap64 (a1)))) - (wrap64 (Go.bits .and .u8 a2 1)))), Go.bits .or .u8 (Go.bits .or .u8 (Go.bits .or .u8 (Go.bits .or .u8 t107 2) t108) t109) t110))) else ((wide_if1.f (decide ((wrap64 ((wrap64 ((wrap64 (IntKind.i16.wrap (a0))) - (wrap64 (IntKind.i16.wrap (a1))))) - (wrap64 (Go.bits .and .u8 a2 1)))) ≥ 32768)) 4).bind fun t111 => (some (IntKind.u16.wrap (wrap64 ((wrap64 ((wrap64 (a0)) - (wrap64 (a1)))) - (wrap64 (Go.bits .and .u8 a2 1)))), Go.bits .or .u8 (Go.bits .or .u8 (Go.bits .or .u8 (Go.bits .or .u8 t107 2) t108) t109) t111)))) = some (r1, r2) := H
  have A6 := Aside0.mk A60
  clear A60
  by_cases c7 : (wrap64 ((wrap64 ((wrap64 (IntKind.i16.wrap (a0))) - (wrap64 (IntKind.i16.wrap (a1))))) - (wrap64 (Go.bits .and .u8 a2 1)))) < (-32768)
  · rw [if_pos c7] at H
    have c7b0 : decide ((wrap64 ((wrap64 ((wrap64 (IntKind.i16.wrap (a0))) - (wrap64 (IntKind.i16.wrap (a1))))) - (wrap64 (Go.bits .and .u8 a2 1)))) < (-32768)) = true := decide_eq_true c7
    clear c7
    replace H := Option.bind_eq_some_iff.mp H
    obtain ⟨t110, A80, H⟩ := H
    replace H : (some (IntKind.u16.wrap (wrap64 ((wrap64 ((wrap64 (a0)) - (wrap64 (a1)))) - (wrap64 (Go.bits .and .u8 a2 1)))), Go.bits .or .u8 (Go.bits .or .u8 (Go.bits .or .u8 (Go.bits .or .u8 t107 2) t108) t109) t110)) = some (r1, r2) := H
    have A8 := Aside0.mk A80
    clear A80
    simp only [Option.some.injEq, Prod.mk.injEq] at H
    obtain ⟨rfl, rfl⟩ := H
    go_enter Try.func22, Try.ntmps22
    go_wp2_with (first | ((with_reducible refine gate_callee (f := 80) rfl ?_); refine goesL_ (some 34) rfl rfl Try.func80 (by kernel_rfl) rfl #[.int .u16 (IntKind.u16.wrap (wrap64 ((wrap64 ((wrap64 (a0)) - (wrap64 (a1)))) - (wrap64 (Go.bits .and .u8 a2 1)))))] rfl (by (try simp only [List.map_toArray, List.map_cons, List.map_nil]); first | done | rfl | (simp only [List.length_drop, List.length_take]; rfl)) ?_; (with_reducible refine (wide_all.calls (IntKind.u16.wrap (wrap64 ((wrap64 ((wrap64 (a0)) - (wrap64 (a1)))) - (wrap64 (Go.bits .and .u8 a2 1))))) t107 _ A4.out).mono ?_); rintro e w' ⟨rfl, ⟨nd, rfl⟩⟩; refine ⟨_, rfl, ?_⟩) | ((with_reducible refine gate_callee (f := 81) rfl ?_); refine goesL_ (some 38) rfl rfl Try.func81 (by kernel_rfl) rfl #[.bool (decide ((wrap64 ((wrap64 ((wrap64 (a0)) - (wrap64 (a1)))) - (wrap64 (Go.bits .and .u8 a2 1)))) < 0)), .int .u8 1] rfl (by (try simp only [List.map_toArray, List.map_cons, List.map_nil]); first | done | rfl | (simp only [List.length_drop, List.length_take]; rfl)) ?_; (with_reducible refine (wide_if1.calls (decide ((wrap64 ((wrap64 ((wrap64 (a0)) - (wrap64 (a1)))) - (wrap64 (Go.bits .and .u8 a2 1)))) < 0)) 1 t108 _ A5.out).mono ?_); rintro e w' ⟨rfl, ⟨nd, rfl⟩⟩; refine ⟨_, rfl, ?_⟩) | ((with_reducible refine gate_callee (f := 81) rfl ?_); refine goesL_ (some 50) rfl rfl Try.func81 (by kernel_rfl) rfl #[.bool (decide ((wrap64 ((wrap64 ((wrap64 (Go.bits .and .u16 a0 4095)) - (wrap64 (Go.bits .and .u16 a1 4095)))) - (wrap64 (Go.bits .and .u8 a2 1)))) < 0)), .int .u8 16] rfl (by (try simp only [List.map_toArray, List.map_cons, List.map_nil]); first | done | rfl | (simp only [List.length_drop, List.length_take]; rfl)) ?_; (with_reducible refine (wide_if1.calls (decide ((wrap64 ((wrap64 ((wrap64 (Go.bits .and .u16 a0 4095)) - (wrap64 (Go.bits .and .u16 a1 4095)))) - (wrap64 (Go.bits .and .u8 a2 1)))) < 0)) 16 t109 _ A6.out).mono ?_); rintro e w' ⟨rfl, ⟨nd, rfl⟩⟩; refine ⟨_, rfl, ?_⟩) | ((with_reducible refine gate_callee (f := 81) rfl ?_); refine goesL_ (some 58) rfl rfl Try.func81 (by kernel_rfl) rfl #[.bool true, .int .u8 4] rfl (by (try simp only [List.map_toArray, List.map_cons, List.map_nil]); first | done | rfl | (simp only [List.length_drop, List.length_take]; rfl)) ?_; (with_reducible refine (wide_if1.calls true 4 t110 _ A8.out).mono ?_); rintro e w' ⟨rfl, ⟨nd, rfl⟩⟩; refine ⟨_, rfl, ?_⟩))
    go_ret2
    exact ⟨by first | rfl | (simp; done) | (simp [*]; done), by repeat (first | exact Drawn0.refl _ | apply Drawn0.step)⟩
  · rw [if_neg c7] at H
    have c7b0 : decide ((wrap64 ((wrap64 ((wrap64 (IntKind.i16.wrap (a0))) - (wrap64 (IntKind.i16.wrap (a1))))) - (wrap64 (Go.bits .and .u8 a2 1)))) < (-32768)) = false := decide_eq_false c7
    clear c7
    replace H := Option.bind_eq_some_iff.mp H
    obtain ⟨t111, A90, H⟩ := H
    replace H : (some (IntKind.u16.wrap (wrap64 ((wrap64 ((wrap64 (a0)) - (wrap64 (a1)))) - (wrap64 (Go.bits .and .u8 a2 1)))), Go.bits .or .u8 (Go.bits .or .u8 (Go.bits .or .u8 (Go.bits .or .u8 t107 2) t108) t109) t111)) = some (r1, r2) := H
    have A9 := Aside0.mk A90
    clear A90
    simp only [Option.some.injEq, Prod.mk.injEq] at H
    obtain ⟨rfl, rfl⟩ := H
    go_enter Try.func22, Try.ntmps22
    go_wp2_with (first | ((with_reducible refine gate_callee (f := 80) rfl ?_); refine goesL_ (some 34) rfl rfl Try.func80 (by kernel_rfl) rfl #[.int .u16 (IntKind.u16.wrap (wrap64 ((wrap64 ((wrap64 (a0)) - (wrap64 (a1)))) - (wrap64 (Go.bits .and .u8 a2 1)))))] rfl (by (try simp only [List.map_toArray, List.map_cons, List.map_nil]); first | done | rfl | (simp only [List.length_drop, List.length_take]; rfl)) ?_; (with_reducible refine (wide_all.calls (IntKind.u16.wrap (wrap64 ((wrap64 ((wrap64 (a0)) - (wrap64 (a1)))) - (wrap64 (Go.bits .and .u8 a2 1))))) t107 _ A4.out).mono ?_); rintro e w' ⟨rfl, ⟨nd, rfl⟩⟩; refine ⟨_, rfl, ?_⟩) | ((with_reducible refine gate_callee (f := 81) rfl ?_); refine goesL_ (some 38) rfl rfl Try.func81 (by kernel_rfl) rfl #[.bool (decide ((wrap64 ((wrap64 ((wrap64 (a0)) - (wrap64 (a1)))) - (wrap64 (Go.bits .and .u8 a2 1)))) < 0)), .int .u8 1] rfl (by (try simp only [List.map_toArray, List.map_cons, List.map_nil]); first | done | rfl | (simp only [List.length_drop, List.length_take]; rfl)) ?_; (with_reducible refine (wide_if1.calls (decide ((wrap64 ((wrap64 ((wrap64 (a0)) - (wrap64 (a1)))) - (wrap64 (Go.bits .and .u8 a2 1)))) < 0)) 1 t108 _ A5.out).mono ?_); rintro e w' ⟨rfl, ⟨nd, rfl⟩⟩; refine ⟨_, rfl, ?_⟩) | ((with_reducible refine gate_callee (f := 81) rfl ?_); refine goesL_ (some 50) rfl rfl Try.func81 (by kernel_rfl) rfl #[.bool (decide ((wrap64 ((wrap64 ((wrap64 (Go.bits .and .u16 a0 4095)) - (wrap64 (Go.bits .and .u16 a1 4095)))) - (wrap64 (Go.bits .and .u8 a2 1)))) < 0)), .int .u8 16] rfl (by (try simp only [List.map_toArray, List.map_cons, List.map_nil]); first | done | rfl | (simp only [List.length_drop, List.length_take]; rfl)) ?_; (with_reducible refine (wide_if1.calls (decide ((wrap64 ((wrap64 ((wrap64 (Go.bits .and .u16 a0 4095)) - (wrap64 (Go.bits .and .u16 a1 4095)))) - (wrap64 (Go.bits .and .u8 a2 1)))) < 0)) 16 t109 _ A6.out).mono ?_); rintro e w' ⟨rfl, ⟨nd, rfl⟩⟩; refine ⟨_, rfl, ?_⟩) | ((with_reducible refine gate_callee (f := 81) rfl ?_); refine goesL_ (some 58) rfl rfl Try.func81 (by kernel_rfl) rfl #[.bool (decide ((wrap64 ((wrap64 ((wrap64 (IntKind.i16.wrap (a0))) - (wrap64 (IntKind.i16.wrap (a1))))) - (wrap64 (Go.bits .and .u8 a2 1)))) ≥ 32768)), .int .u8 4] rfl (by (try simp only [List.map_toArray, List.map_cons, List.map_nil]); first | done | rfl | (simp only [List.length_drop, List.length_take]; rfl)) ?_; (with_reducible refine (wide_if1.calls (decide ((wrap64 ((wrap64 ((wrap64 (IntKind.i16.wrap (a0))) - (wrap64 (IntKind.i16.wrap (a1))))) - (wrap64 (Go.bits .and .u8 a2 1)))) ≥ 32768)) 4 t111 _ A9.out).mono ?_); rintro e w' ⟨rfl, ⟨nd, rfl⟩⟩; refine ⟨_, rfl, ?_⟩))
    go_ret2
    exact ⟨by first | rfl | (simp; done) | (simp [*]; done), by repeat (first | exact Drawn0.refl _ | apply Drawn0.step)⟩

/-! ### wide_Add: function 24 -/
def wide_Add.f (a0 : Int) (a1 : Int) (a2 : Int) : Option (Int × Int) := (wide_if1.f (decide ((IntKind.u16.wrap (a0 + a1)) < a0)) 1).bind fun t112 => ((wide_if1.f (decide ((IntKind.u16.wrap ((Go.bits .and .u16 a0 4095) + (Go.bits .and .u16 a1 4095))) > 4095)) 16).bind fun t113 => (some (IntKind.u16.wrap (a0 + a1), Go.bits .or .u8 (Go.bits .or .u8 (Go.bits .or .u8 (Go.bits .and .u8 a2 196) (Go.bits .and .u8 (((IntKind.u16.wrap (a0 + a1)) / 256) % 256) 40)) t112) t113)))
set_option maxHeartbeats 8000000 in
set_option maxRecDepth 100000 in
theorem wide_Add.calls (a0 : Int) (a1 : Int) (a2 : Int) (r1 : Int) (r2 : Int) (w : World) (h : wide_Add.f a0 a1 a2 = some (r1, r2)) :
    Calls Try.prog 24 #[.int .u16 a0, .int .u16 a1, .int .u8 a2] w fun e w' => e = .returned (.tuple #[.int .u16 r1, .int .u8 r2]) ∧ Drawn0 w w' := by
  have H : ((wide_if1.f (decide ((IntKind.u16.wrap (a0 + a1)) < a0)) 1).bind fun t112 => ((wide_if1.f (decide ((IntKind.u16.wrap ((Go.bits .and .u16 a0 4095) + (Go.bits .and .u16 a1 4095))) > 4095)) 16).bind fun t113 => (some (IntKind.u16.wrap (a0 + a1), Go.bits .or .u8 (Go.bits .or .u8 (Go.bits .or .u8 (Go.bits .and .u8 a2 196) (Go.bits .and .u8 (((IntKind.u16.wrap (a0 + a1)) / 256) % 256) 40)) t112) t113)))) = some (r1, r2) := h
  clear h
  replace H := Option.bind_eq_some_iff.mp H
  obtain ⟨t112, A40, H⟩ := H
  replace H : ((wide_if1.f (decide ((IntKind.u16.wrap ((Go.bits .and .u16 a0 4095) + (Go.bits .and .u16 a1 4095))) > 4095)) 16).bind fun t113 => (some (IntKind.u16.wrap (a0 + a1), Go.bits .or .u8 (Go.bits .or .u8 (Go.bits .or .u8 (Go.bits .and .u8 a2 196) (Go.bits .and .u8 (((IntKind.u16.wrap (a0 + a1)) / 256) % 256) 40)) t112) t113))) = some (r1, r2) := H
  have A4 := Aside0.mk A40
  clear A40
  replace H := Option.bind_eq_some_iff.mp H
  obtain ⟨t113, A50, H⟩ := H
  replace H : (some (IntKind.u16.wrap (a0 + a1), Go.bits .or .u8 (Go.bits .or .u8 (Go.bits .or .u8 (Go.bits .and .u8 a2 196) (Go.bits .and .u8 (((IntKind.u16.wrap (a0 + a1)) / 256) % 256) 40)) t112) t113)) = some (r1, r2) := H
  have A5 := Aside0.mk A50
  clear A50
  simp only [Option.some.injEq, Prod.mk.injEq] at H
  obtain ⟨rfl, rfl⟩ := H
  go_enter Try.func24, Try.ntmps24
  go_wp2_with (first | ((with_reducible refine gate_callee (f := 81) rfl ?_); refine goesL_ (some 22) rfl rfl Try.func81 (by kernel_rfl) rfl #[.bool (decide ((IntKind.u16.wrap (a0 + a1)) < a0)), .int .u8 1] rfl (by (try simp only [List.map_toArray, List.map_cons, List.map_nil]); first | done | rfl | (simp only [List.length_drop, List.length_take]; rfl)) ?_; (with_reducible refine (wide_if1.calls (decide ((IntKind.u16.wrap (a0 + a1)) < a0)) 1 t112 _ A4.out).mono ?_); rintro e w' ⟨rfl, ⟨nd, rfl⟩⟩; refine ⟨_, rfl, ?_⟩) | ((with_reducible refine gate_callee (f := 81) rfl ?_); refine goesL_ (some 30) rfl rfl Try.func81 (by kernel_rfl) rfl #[.bool (decide ((IntKind.u16.wrap ((Go.bits .and .u16 a0 4095) + (Go.bits .and .u16 a1 4095))) > 4095)), .int .u8 16] rfl (by (try simp only [List.map_toArray, List.map_cons, List.map_nil]); first | done | rfl | (simp only [List.length_drop, List.length_take]; rfl)) ?_; (with_reducible refine (wide_if1.calls (decide ((IntKind.u16.wrap ((Go.bits .and .u16 a0 4095) + (Go.bits .and .u16 a1 4095))) > 4095)) 16 t113 _ A5.out).mono ?_); rintro e w' ⟨rfl, ⟨nd, rfl⟩⟩; refine ⟨_, rfl, ?_⟩))
  go_ret2
  exact ⟨by first | rfl | (simp; done) | (simp [*]; done), by repeat (first | exact Drawn0.refl _ | apply Drawn0.step)⟩

/-! ### pendulumlaw07_lives: function 19 -/
def pendulumlaw07_lives.f  : Option (Bool) := (wide_Add.f 4095 1 0).bind fun bt114 => ((wide_Adc.f 32767 0 1).bind fun bt116 => ((wide_Sbc.f 0 1 0).bind fun bt118 => (if bt114.1 = 4096 then (if bt114.2 = 16 then (if bt116.1 = 32768 then (if bt116.2 = 148 then (if bt118.1 = 65535 then (some (bt118.2 == 187)) else (some false)) else (some false)) else (some false)) else (some false)) else (some false))))
set_option maxHeartbeats 8000000 in
set_option maxRecDepth 100000 in
theorem pendulumlaw07_lives.calls  (r : Bool) (w : World) (h : pendulumlaw07_lives.f  = some r) :
    Calls Try.prog 19 #[] w fun e w' => e = .returned (.bool r) ∧ Drawn0 w w' := by
  have H : ((wide_Add.f 4095 1 0).bind fun bt114 => ((wide_Adc.f 32767 0 1).bind fun bt116 => ((wide_Sbc.f 0 1 0).bind fun bt118 => (if bt114.1 = 4096 then (if bt114.2 = 16 then (if bt116.1 = 32768 then (if bt116.2 = 148 then (if bt118.1 = 65535 then (some (bt118.2 == 187)) else (some false)) else (some false)) else (some false)) else (some false)) else (some false))))) = some r := h
  clear h
  replace H := Option.bind_eq_some_iff.mp H
  obtain ⟨⟨t114, t115⟩, A10, H⟩ := H
  replace H : ((wide_Adc.f 32767 0 1).bind fun bt116 => ((wide_Sbc.f 0 1 0).bind fun bt118 => (if t114 = 4096 then (if t115 = 16 then (if bt116.1 = 32768 then (if bt116.2 = 148 then (if bt118.1 = 65535 then (some (bt118.2 == 187)) else (some false)) else (some false)) else (some false)) else (some false)) else (some false)))) = some r := H
  have A1 := Aside0.mk A10
  clear A10
  replace H := Option.bind_eq_some_iff.mp H
  obtain ⟨⟨t116, t117⟩, A20, H⟩ := H
  replace H : ((wide_Sbc.f 0 1 0).bind fun bt118 => (if t114 = 4096 then (if t115 = 16 then (if t116 = 32768 then (if t117 = 148 then (if bt118.1 = 65535 then (some (bt118.2 == 187)) else (some false)) else (some false)) else (some false)) else (some false)) else (some false))) = some r := H
  have A2 := Aside0.mk A20
  clear A20
  replace H := Option.bind_eq_some_iff.mp H
  obtain ⟨⟨t118, t119⟩, A30, H⟩ := H
  replace H : (if t114 = 4096 then (if t115 = 16 then (if t116 = 32768 then (if t117 = 148 then (if t118 = 65535 then (some (t119 == 187)) else (some false)) else (some false)) else (some false)) else (some false)) else (some false)) = some r := H
  have A3 := Aside0.mk A30
  clear A30
  by_cases c4 : t114 = 4096
  · rw [if_pos c4] at H
    have c4b0 : (t114 == 4096) = true := beq_iff_eq.mpr c4
    have c4b1 : (t114 != 4096) = false := bne_eq_false_iff_eq.mpr c4
    clear c4
    by_cases c5 : t115 = 16
    · rw [if_pos c5] at H
      have c5b0 : (t115 == 16) = true := beq_iff_eq.mpr c5
      have c5b1 : (t115 != 16) = false := bne_eq_false_iff_eq.mpr c5
      clear c5
      by_cases c6 : t116 = 32768
      · rw [if_pos c6] at H
        have c6b0 : (t116 == 32768) = true := beq_iff_eq.mpr c6
        have c6b1 : (t116 != 32768) = false := bne_eq_false_iff_eq.mpr c6
        clear c6
        by_cases c7 : t117 = 148
        · rw [if_pos c7] at H
          have c7b0 : (t117 == 148) = true := beq_iff_eq.mpr c7
          have c7b1 : (t117 != 148) = false := bne_eq_false_iff_eq.mpr c7
          clear c7
          by_cases c8 : t118 = 65535
          · rw [if_pos c8] at H
            have c8b0 : (t118 == 65535) = true := beq_iff_eq.mpr c8
            have c8b1 : (t118 != 65535) = false := bne_eq_false_iff_eq.mpr c8
            clear c8
            obtain rfl := Option.some.inj H
            go_enter Try.func19, Try.ntmps19
            go_wp2_with (first | ((with_reducible refine gate_callee (f := 24) rfl ?_); refine goesL_ (some 8) rfl rfl Try.func24 (by kernel_rfl) rfl #[.int .u16 4095, .int .u16 1, .int .u8 0] rfl (by (try simp only [List.map_toArray, List.map_cons, List.map_nil]); first | done | rfl | (simp only [List.length_drop, List.length_take]; rfl)) ?_; (with_reducible refine (wide_Add.calls 4095 1 0 t114 t115 _ A1.out).mono ?_); rintro e w' ⟨rfl, ⟨nd, rfl⟩⟩; refine ⟨_, rfl, ?_⟩) | ((with_reducible refine gate_callee (f := 20) rfl ?_); refine goesL_ (some 12) rfl rfl Try.func20 (by kernel_rfl) rfl #[.int .u16 32767, .int .u16 0, .int .u8 1] rfl (by (try simp only [List.map_toArray, List.map_cons, List.map_nil]); first | done | rfl | (simp only [List.length_drop, List.length_take]; rfl)) ?_; (with_reducible refine (wide_Adc.calls 32767 0 1 t116 t117 _ A2.out).mono ?_); rintro e w' ⟨rfl, ⟨nd, rfl⟩⟩; refine ⟨_, rfl, ?_⟩) | ((with_reducible refine gate_callee (f := 22) rfl ?_); refine goesL_ (some 16) rfl rfl Try.func22 (by kernel_rfl) rfl #[.int .u16 0, .int .u16 1, .int .u8 0] rfl (by (try simp only [List.map_toArray, List.map_cons, List.map_nil]); first | done | rfl | (simp only [List.length_drop, List.length_take]; rfl)) ?_; (with_reducible refine (wide_Sbc.calls 0 1 0 t118 t119 _ A3.out).mono ?_); rintro e w' ⟨rfl, ⟨nd, rfl⟩⟩; refine ⟨_, rfl, ?_⟩))
            go_ret
            exact ⟨by first | rfl | (simp; done) | (simp [*]; done), by repeat (first | exact Drawn0.refl _ | apply Drawn0.step)⟩
          · rw [if_neg c8] at H
            have c8b0 : (t118 == 65535) = false := beq_eq_false_iff_ne.mpr c8
            have c8b1 : (t118 != 65535) = true := bne_iff_ne.mpr c8
            obtain rfl := Option.some.inj H
            go_enter Try.func19, Try.ntmps19
            go_wp2_with (first | ((with_reducible refine gate_callee (f := 24) rfl ?_); refine goesL_ (some 8) rfl rfl Try.func24 (by kernel_rfl) rfl #[.int .u16 4095, .int .u16 1, .int .u8 0] rfl (by (try simp only [List.map_toArray, List.map_cons, List.map_nil]); first | done | rfl | (simp only [List.length_drop, List.length_take]; rfl)) ?_; (with_reducible refine (wide_Add.calls 4095 1 0 t114 t115 _ A1.out).mono ?_); rintro e w' ⟨rfl, ⟨nd, rfl⟩⟩; refine ⟨_, rfl, ?_⟩) | ((with_reducible refine gate_callee (f := 20) rfl ?_); refine goesL_ (some 12) rfl rfl Try.func20 (by kernel_rfl) rfl #[.int .u16 32767, .int .u16 0, .int .u8 1] rfl (by (try simp only [List.map_toArray, List.map_cons, List.map_nil]); first | done | rfl | (simp only [List.length_drop, List.length_take]; rfl)) ?_; (with_reducible refine (wide_Adc.calls 32767 0 1 t116 t117 _ A2.out).mono ?_); rintro e w' ⟨rfl, ⟨nd, rfl⟩⟩; refine ⟨_, rfl, ?_⟩) | ((with_reducible refine gate_callee (f := 22) rfl ?_); refine goesL_ (some 16) rfl rfl Try.func22 (by kernel_rfl) rfl #[.int .u16 0, .int .u16 1, .int .u8 0] rfl (by (try simp only [List.map_toArray, List.map_cons, List.map_nil]); first | done | rfl | (simp only [List.length_drop, List.length_take]; rfl)) ?_; (with_reducible refine (wide_Sbc.calls 0 1 0 t118 t119 _ A3.out).mono ?_); rintro e w' ⟨rfl, ⟨nd, rfl⟩⟩; refine ⟨_, rfl, ?_⟩))
            go_ret
            exact ⟨by first | rfl | (simp; done) | (simp [*]; done), by repeat (first | exact Drawn0.refl _ | apply Drawn0.step)⟩
        · rw [if_neg c7] at H
          have c7b0 : (t117 == 148) = false := beq_eq_false_iff_ne.mpr c7
          have c7b1 : (t117 != 148) = true := bne_iff_ne.mpr c7
          obtain rfl := Option.some.inj H
          go_enter Try.func19, Try.ntmps19
          go_wp2_with (first | ((with_reducible refine gate_callee (f := 24) rfl ?_); refine goesL_ (some 8) rfl rfl Try.func24 (by kernel_rfl) rfl #[.int .u16 4095, .int .u16 1, .int .u8 0] rfl (by (try simp only [List.map_toArray, List.map_cons, List.map_nil]); first | done | rfl | (simp only [List.length_drop, List.length_take]; rfl)) ?_; (with_reducible refine (wide_Add.calls 4095 1 0 t114 t115 _ A1.out).mono ?_); rintro e w' ⟨rfl, ⟨nd, rfl⟩⟩; refine ⟨_, rfl, ?_⟩) | ((with_reducible refine gate_callee (f := 20) rfl ?_); refine goesL_ (some 12) rfl rfl Try.func20 (by kernel_rfl) rfl #[.int .u16 32767, .int .u16 0, .int .u8 1] rfl (by (try simp only [List.map_toArray, List.map_cons, List.map_nil]); first | done | rfl | (simp only [List.length_drop, List.length_take]; rfl)) ?_; (with_reducible refine (wide_Adc.calls 32767 0 1 t116 t117 _ A2.out).mono ?_); rintro e w' ⟨rfl, ⟨nd, rfl⟩⟩; refine ⟨_, rfl, ?_⟩) | ((with_reducible refine gate_callee (f := 22) rfl ?_); refine goesL_ (some 16) rfl rfl Try.func22 (by kernel_rfl) rfl #[.int .u16 0, .int .u16 1, .int .u8 0] rfl (by (try simp only [List.map_toArray, List.map_cons, List.map_nil]); first | done | rfl | (simp only [List.length_drop, List.length_take]; rfl)) ?_; (with_reducible refine (wide_Sbc.calls 0 1 0 t118 t119 _ A3.out).mono ?_); rintro e w' ⟨rfl, ⟨nd, rfl⟩⟩; refine ⟨_, rfl, ?_⟩))
          go_ret
          exact ⟨by first | rfl | (simp; done) | (simp [*]; done), by repeat (first | exact Drawn0.refl _ | apply Drawn0.step)⟩
      · rw [if_neg c6] at H
        have c6b0 : (t116 == 32768) = false := beq_eq_false_iff_ne.mpr c6
        have c6b1 : (t116 != 32768) = true := bne_iff_ne.mpr c6
        obtain rfl := Option.some.inj H
        go_enter Try.func19, Try.ntmps19
        go_wp2_with (first | ((with_reducible refine gate_callee (f := 24) rfl ?_); refine goesL_ (some 8) rfl rfl Try.func24 (by kernel_rfl) rfl #[.int .u16 4095, .int .u16 1, .int .u8 0] rfl (by (try simp only [List.map_toArray, List.map_cons, List.map_nil]); first | done | rfl | (simp only [List.length_drop, List.length_take]; rfl)) ?_; (with_reducible refine (wide_Add.calls 4095 1 0 t114 t115 _ A1.out).mono ?_); rintro e w' ⟨rfl, ⟨nd, rfl⟩⟩; refine ⟨_, rfl, ?_⟩) | ((with_reducible refine gate_callee (f := 20) rfl ?_); refine goesL_ (some 12) rfl rfl Try.func20 (by kernel_rfl) rfl #[.int .u16 32767, .int .u16 0, .int .u8 1] rfl (by (try simp only [List.map_toArray, List.map_cons, List.map_nil]); first | done | rfl | (simp only [List.length_drop, List.length_take]; rfl)) ?_; (with_reducible refine (wide_Adc.calls 32767 0 1 t116 t117 _ A2.out).mono ?_); rintro e w' ⟨rfl, ⟨nd, rfl⟩⟩; refine ⟨_, rfl, ?_⟩) | ((with_reducible refine gate_callee (f := 22) rfl ?_); refine goesL_ (some 16) rfl rfl Try.func22 (by kernel_rfl) rfl #[.int .u16 0, .int .u16 1, .int .u8 0] rfl (by (try simp only [List.map_toArray, List.map_cons, List.map_nil]); first | done | rfl | (simp only [List.length_drop, List.length_take]; rfl)) ?_; (with_reducible refine (wide_Sbc.calls 0 1 0 t118 t119 _ A3.out).mono ?_); rintro e w' ⟨rfl, ⟨nd, rfl⟩⟩; refine ⟨_, rfl, ?_⟩))
        go_ret
        exact ⟨by first | rfl | (simp; done) | (simp [*]; done), by repeat (first | exact Drawn0.refl _ | apply Drawn0.step)⟩
    · rw [if_neg c5] at H
      have c5b0 : (t115 == 16) = false := beq_eq_false_iff_ne.mpr c5
      have c5b1 : (t115 != 16) = true := bne_iff_ne.mpr c5
      obtain rfl := Option.some.inj H
      go_enter Try.func19, Try.ntmps19
      go_wp2_with (first | ((with_reducible refine gate_callee (f := 24) rfl ?_); refine goesL_ (some 8) rfl rfl Try.func24 (by kernel_rfl) rfl #[.int .u16 4095, .int .u16 1, .int .u8 0] rfl (by (try simp only [List.map_toArray, List.map_cons, List.map_nil]); first | done | rfl | (simp only [List.length_drop, List.length_take]; rfl)) ?_; (with_reducible refine (wide_Add.calls 4095 1 0 t114 t115 _ A1.out).mono ?_); rintro e w' ⟨rfl, ⟨nd, rfl⟩⟩; refine ⟨_, rfl, ?_⟩) | ((with_reducible refine gate_callee (f := 20) rfl ?_); refine goesL_ (some 12) rfl rfl Try.func20 (by kernel_rfl) rfl #[.int .u16 32767, .int .u16 0, .int .u8 1] rfl (by (try simp only [List.map_toArray, List.map_cons, List.map_nil]); first | done | rfl | (simp only [List.length_drop, List.length_take]; rfl)) ?_; (with_reducible refine (wide_Adc.calls 32767 0 1 t116 t117 _ A2.out).mono ?_); rintro e w' ⟨rfl, ⟨nd, rfl⟩⟩; refine ⟨_, rfl, ?_⟩) | ((with_reducible refine gate_callee (f := 22) rfl ?_); refine goesL_ (some 16) rfl rfl Try.func22 (by kernel_rfl) rfl #[.int .u16 0, .int .u16 1, .int .u8 0] rfl (by (try simp only [List.map_toArray, List.map_cons, List.map_nil]); first | done | rfl | (simp only [List.length_drop, List.length_take]; rfl)) ?_; (with_reducible refine (wide_Sbc.calls 0 1 0 t118 t119 _ A3.out).mono ?_); rintro e w' ⟨rfl, ⟨nd, rfl⟩⟩; refine ⟨_, rfl, ?_⟩))
      go_ret
      exact ⟨by first | rfl | (simp; done) | (simp [*]; done), by repeat (first | exact Drawn0.refl _ | apply Drawn0.step)⟩
  · rw [if_neg c4] at H
    have c4b0 : (t114 == 4096) = false := beq_eq_false_iff_ne.mpr c4
    have c4b1 : (t114 != 4096) = true := bne_iff_ne.mpr c4
    obtain rfl := Option.some.inj H
    go_enter Try.func19, Try.ntmps19
    go_wp2_with (first | ((with_reducible refine gate_callee (f := 24) rfl ?_); refine goesL_ (some 8) rfl rfl Try.func24 (by kernel_rfl) rfl #[.int .u16 4095, .int .u16 1, .int .u8 0] rfl (by (try simp only [List.map_toArray, List.map_cons, List.map_nil]); first | done | rfl | (simp only [List.length_drop, List.length_take]; rfl)) ?_; (with_reducible refine (wide_Add.calls 4095 1 0 t114 t115 _ A1.out).mono ?_); rintro e w' ⟨rfl, ⟨nd, rfl⟩⟩; refine ⟨_, rfl, ?_⟩) | ((with_reducible refine gate_callee (f := 20) rfl ?_); refine goesL_ (some 12) rfl rfl Try.func20 (by kernel_rfl) rfl #[.int .u16 32767, .int .u16 0, .int .u8 1] rfl (by (try simp only [List.map_toArray, List.map_cons, List.map_nil]); first | done | rfl | (simp only [List.length_drop, List.length_take]; rfl)) ?_; (with_reducible refine (wide_Adc.calls 32767 0 1 t116 t117 _ A2.out).mono ?_); rintro e w' ⟨rfl, ⟨nd, rfl⟩⟩; refine ⟨_, rfl, ?_⟩) | ((with_reducible refine gate_callee (f := 22) rfl ?_); refine goesL_ (some 16) rfl rfl Try.func22 (by kernel_rfl) rfl #[.int .u16 0, .int .u16 1, .int .u8 0] rfl (by (try simp only [List.map_toArray, List.map_cons, List.map_nil]); first | done | rfl | (simp only [List.length_drop, List.length_take]; rfl)) ?_; (with_reducible refine (wide_Sbc.calls 0 1 0 t118 t119 _ A3.out).mono ?_); rintro e w' ⟨rfl, ⟨nd, rfl⟩⟩; refine ⟨_, rfl, ?_⟩))
    go_ret
    exact ⟨by first | rfl | (simp; done) | (simp [*]; done), by repeat (first | exact Drawn0.refl _ | apply Drawn0.step)⟩

/-! ### wide_Split: function 28 -/
def wide_Split.f (a0 : Int) : Option (Int × Int) := some ((a0 / 256) % 256, (a0) % 256)
set_option maxHeartbeats 8000000 in
set_option maxRecDepth 100000 in
theorem wide_Split.calls (a0 : Int) (r1 : Int) (r2 : Int) (w : World) (h : wide_Split.f a0 = some (r1, r2)) :
    Calls Try.prog 28 #[.int .u16 a0] w fun e w' => e = .returned (.tuple #[.int .u8 r1, .int .u8 r2]) ∧ Drawn0 w w' := by
  have H : (some ((a0 / 256) % 256, (a0) % 256)) = some (r1, r2) := h
  clear h
  simp only [Option.some.injEq, Prod.mk.injEq] at H
  obtain ⟨rfl, rfl⟩ := H
  go_enter Try.func28, Try.ntmps28
  go_wp2
  go_ret2
  exact ⟨by first | rfl | (simp; done) | (simp [*]; done), by repeat (first | exact Drawn0.refl _ | apply Drawn0.step)⟩

/-! ### wide_Pair: function 30 -/
def wide_Pair.f (a0 : Int) (a1 : Int) : Option (Int) := some (Go.bits .or .u16 (IntKind.u16.wrap ((IntKind.u16.wrap (a0)) * 256)) (IntKind.u16.wrap (a1)))
set_option maxHeartbeats 8000000 in
set_option maxRecDepth 100000 in
theorem wide_Pair.calls (a0 : Int) (a1 : Int) (r : Int) (w : World) (h : wide_Pair.f a0 a1 = some r) :
    Calls Try.prog 30 #[.int .u8 a0, .int .u8 a1] w fun e w' => e = .returned (.int .u16 r) ∧ Drawn0 w w' := by
  have H : (some (Go.bits .or .u16 (IntKind.u16.wrap ((IntKind.u16.wrap (a0)) * 256)) (IntKind.u16.wrap (a1)))) = some r := h
  clear h
  obtain rfl := Option.some.inj H
  go_enter Try.func30, Try.ntmps30
  go_wp2
  go_ret
  exact ⟨by first | rfl | (simp; done) | (simp [*]; done), by repeat (first | exact Drawn0.refl _ | apply Drawn0.step)⟩

/-! ### wide_Signed: function 32 -/
def wide_Signed.f (a0 : Int) : Option (Int) := some (wrap64 (IntKind.i8.wrap (a0)))
set_option maxHeartbeats 8000000 in
set_option maxRecDepth 100000 in
theorem wide_Signed.calls (a0 : Int) (r : Int) (w : World) (h : wide_Signed.f a0 = some r) :
    Calls Try.prog 32 #[.int .u8 a0] w fun e w' => e = .returned (.int .i64 r) ∧ Drawn0 w w' := by
  have H : (some (wrap64 (IntKind.i8.wrap (a0)))) = some r := h
  clear h
  obtain rfl := Option.some.inj H
  go_enter Try.func32, Try.ntmps32
  go_wp2
  go_ret
  exact ⟨by first | rfl | (simp; done) | (simp [*]; done), by repeat (first | exact Drawn0.refl _ | apply Drawn0.step)⟩

/-! ### wide_Plus: function 34 -/
def wide_Plus.f (a0 : Int) (a1 : Int) : Option (Int) := some (IntKind.u16.wrap (a0 + (IntKind.u16.wrap (IntKind.i16.wrap (IntKind.i8.wrap (a1))))))
set_option maxHeartbeats 8000000 in
set_option maxRecDepth 100000 in
theorem wide_Plus.calls (a0 : Int) (a1 : Int) (r : Int) (w : World) (h : wide_Plus.f a0 a1 = some r) :
    Calls Try.prog 34 #[.int .u16 a0, .int .u8 a1] w fun e w' => e = .returned (.int .u16 r) ∧ Drawn0 w w' := by
  have H : (some (IntKind.u16.wrap (a0 + (IntKind.u16.wrap (IntKind.i16.wrap (IntKind.i8.wrap (a1))))))) = some r := h
  clear h
  obtain rfl := Option.some.inj H
  go_enter Try.func34, Try.ntmps34
  go_wp2
  go_ret
  exact ⟨by first | rfl | (simp; done) | (simp [*]; done), by repeat (first | exact Drawn0.refl _ | apply Drawn0.step)⟩

/-! ### pendulumlaw07_WideBack: function 5 -/
def pendulumlaw07_WideBack.f (a0 : Int) (a1 : Int) (a2 : Int) (a3 : Int) : Option (Bool) := (pendulumlaw07_lives.f).bind fun t120 => (if t120 = true then ((wide_Adc.f a0 a1 a3).bind fun bt121 => ((wide_Sbc.f bt121.1 a1 a3).bind fun bt123 => ((wide_Split.f a0).bind fun bt125 => ((wide_Pair.f a3 a2).bind fun t127 => ((wide_Split.f t127).bind fun bt128 => ((wide_Signed.f a2).bind fun t130 => (if bt123.1 = a0 then ((wide_Pair.f bt125.1 bt125.2).bind fun t131 => (if t131 = a0 then (if bt128.1 = a3 then (if bt128.2 = a2 then ((wide_Plus.f a0 a2).bind fun t132 => ((wide_Plus.f t132 ((-a2) % 256)).bind fun t133 => ((wide_Signed.f ((-a2) % 256)).bind fun t134 => (if t133 = (IntKind.u16.wrap ((IntKind.u16.wrap (a0 + (IntKind.u16.wrap (t130)))) + (IntKind.u16.wrap (t134)))) then (if t130 ≥ (-128) then (if t130 ≤ 127 then (if ((t130) % 256) = a2 then ((wide_Plus.f a0 a2).bind fun t135 => (some (t135 == (IntKind.u16.wrap (a0 + (IntKind.u16.wrap (t130))))))) else (some false)) else (some false)) else (some false)) else (some false))))) else (some false)) else (some false)) else (some false))) else (some false)))))))) else (some false))
set_option maxHeartbeats 8000000 in
set_option maxRecDepth 100000 in
theorem pendulumlaw07_WideBack.calls (a0 : Int) (a1 : Int) (a2 : Int) (a3 : Int) (r : Bool) (w : World) (h : pendulumlaw07_WideBack.f a0 a1 a2 a3 = some r) :
    Calls Try.prog 5 #[.int .u16 a0, .int .u16 a1, .int .u8 a2, .int .u8 a3] w fun e w' => e = .returned (.bool r) ∧ Drawn0 w w' := by
  have H : ((pendulumlaw07_lives.f).bind fun t120 => (if t120 = true then ((wide_Adc.f a0 a1 a3).bind fun bt121 => ((wide_Sbc.f bt121.1 a1 a3).bind fun bt123 => ((wide_Split.f a0).bind fun bt125 => ((wide_Pair.f a3 a2).bind fun t127 => ((wide_Split.f t127).bind fun bt128 => ((wide_Signed.f a2).bind fun t130 => (if bt123.1 = a0 then ((wide_Pair.f bt125.1 bt125.2).bind fun t131 => (if t131 = a0 then (if bt128.1 = a3 then (if bt128.2 = a2 then ((wide_Plus.f a0 a2).bind fun t132 => ((wide_Plus.f t132 ((-a2) % 256)).bind fun t133 => ((wide_Signed.f ((-a2) % 256)).bind fun t134 => (if t133 = (IntKind.u16.wrap ((IntKind.u16.wrap (a0 + (IntKind.u16.wrap (t130)))) + (IntKind.u16.wrap (t134)))) then (if t130 ≥ (-128) then (if t130 ≤ 127 then (if ((t130) % 256) = a2 then ((wide_Plus.f a0 a2).bind fun t135 => (some (t135 == (IntKind.u16.wrap (a0 + (IntKind.u16.wrap (t130))))))) else (some false)) else (some false)) else (some false)) else (some false))))) else (some false)) else (some false)) else (some false))) else (some false)))))))) else (some false))) = some r := h
  clear h
  replace H := Option.bind_eq_some_iff.mp H
  obtain ⟨t120, A50, H⟩ := H
  replace H : (if t120 = true then ((wide_Adc.f a0 a1 a3).bind fun bt121 => ((wide_Sbc.f bt121.1 a1 a3).bind fun bt123 => ((wide_Split.f a0).bind fun bt125 => ((wide_Pair.f a3 a2).bind fun t127 => ((wide_Split.f t127).bind fun bt128 => ((wide_Signed.f a2).bind fun t130 => (if bt123.1 = a0 then ((wide_Pair.f bt125.1 bt125.2).bind fun t131 => (if t131 = a0 then (if bt128.1 = a3 then (if bt128.2 = a2 then ((wide_Plus.f a0 a2).bind fun t132 => ((wide_Plus.f t132 ((-a2) % 256)).bind fun t133 => ((wide_Signed.f ((-a2) % 256)).bind fun t134 => (if t133 = (IntKind.u16.wrap ((IntKind.u16.wrap (a0 + (IntKind.u16.wrap (t130)))) + (IntKind.u16.wrap (t134)))) then (if t130 ≥ (-128) then (if t130 ≤ 127 then (if ((t130) % 256) = a2 then ((wide_Plus.f a0 a2).bind fun t135 => (some (t135 == (IntKind.u16.wrap (a0 + (IntKind.u16.wrap (t130))))))) else (some false)) else (some false)) else (some false)) else (some false))))) else (some false)) else (some false)) else (some false))) else (some false)))))))) else (some false)) = some r := H
  have A5 := Aside0.mk A50
  clear A50
  by_cases c6 : t120 = true
  · subst c6
    have H1 : ((wide_Adc.f a0 a1 a3).bind fun bt121 => ((wide_Sbc.f bt121.1 a1 a3).bind fun bt123 => ((wide_Split.f a0).bind fun bt125 => ((wide_Pair.f a3 a2).bind fun t127 => ((wide_Split.f t127).bind fun bt128 => ((wide_Signed.f a2).bind fun t130 => (if bt123.1 = a0 then ((wide_Pair.f bt125.1 bt125.2).bind fun t131 => (if t131 = a0 then (if bt128.1 = a3 then (if bt128.2 = a2 then ((wide_Plus.f a0 a2).bind fun t132 => ((wide_Plus.f t132 ((-a2) % 256)).bind fun t133 => ((wide_Signed.f ((-a2) % 256)).bind fun t134 => (if t133 = (IntKind.u16.wrap ((IntKind.u16.wrap (a0 + (IntKind.u16.wrap (t130)))) + (IntKind.u16.wrap (t134)))) then (if t130 ≥ (-128) then (if t130 ≤ 127 then (if ((t130) % 256) = a2 then ((wide_Plus.f a0 a2).bind fun t135 => (some (t135 == (IntKind.u16.wrap (a0 + (IntKind.u16.wrap (t130))))))) else (some false)) else (some false)) else (some false)) else (some false))))) else (some false)) else (some false)) else (some false))) else (some false)))))))) = some r := by rw [if_pos rfl] at H; exact H
    clear H
    have H := H1
    clear H1
    replace H := Option.bind_eq_some_iff.mp H
    obtain ⟨⟨t121, t122⟩, A70, H⟩ := H
    replace H : ((wide_Sbc.f t121 a1 a3).bind fun bt123 => ((wide_Split.f a0).bind fun bt125 => ((wide_Pair.f a3 a2).bind fun t127 => ((wide_Split.f t127).bind fun bt128 => ((wide_Signed.f a2).bind fun t130 => (if bt123.1 = a0 then ((wide_Pair.f bt125.1 bt125.2).bind fun t131 => (if t131 = a0 then (if bt128.1 = a3 then (if bt128.2 = a2 then ((wide_Plus.f a0 a2).bind fun t132 => ((wide_Plus.f t132 ((-a2) % 256)).bind fun t133 => ((wide_Signed.f ((-a2) % 256)).bind fun t134 => (if t133 = (IntKind.u16.wrap ((IntKind.u16.wrap (a0 + (IntKind.u16.wrap (t130)))) + (IntKind.u16.wrap (t134)))) then (if t130 ≥ (-128) then (if t130 ≤ 127 then (if ((t130) % 256) = a2 then ((wide_Plus.f a0 a2).bind fun t135 => (some (t135 == (IntKind.u16.wrap (a0 + (IntKind.u16.wrap (t130))))))) else (some false)) else (some false)) else (some false)) else (some false))))) else (some false)) else (some false)) else (some false))) else (some false))))))) = some r := H
    have A7 := Aside0.mk A70
    clear A70
    replace H := Option.bind_eq_some_iff.mp H
    obtain ⟨⟨t123, t124⟩, A80, H⟩ := H
    replace H : ((wide_Split.f a0).bind fun bt125 => ((wide_Pair.f a3 a2).bind fun t127 => ((wide_Split.f t127).bind fun bt128 => ((wide_Signed.f a2).bind fun t130 => (if t123 = a0 then ((wide_Pair.f bt125.1 bt125.2).bind fun t131 => (if t131 = a0 then (if bt128.1 = a3 then (if bt128.2 = a2 then ((wide_Plus.f a0 a2).bind fun t132 => ((wide_Plus.f t132 ((-a2) % 256)).bind fun t133 => ((wide_Signed.f ((-a2) % 256)).bind fun t134 => (if t133 = (IntKind.u16.wrap ((IntKind.u16.wrap (a0 + (IntKind.u16.wrap (t130)))) + (IntKind.u16.wrap (t134)))) then (if t130 ≥ (-128) then (if t130 ≤ 127 then (if ((t130) % 256) = a2 then ((wide_Plus.f a0 a2).bind fun t135 => (some (t135 == (IntKind.u16.wrap (a0 + (IntKind.u16.wrap (t130))))))) else (some false)) else (some false)) else (some false)) else (some false))))) else (some false)) else (some false)) else (some false))) else (some false)))))) = some r := H
    have A8 := Aside0.mk A80
    clear A80
    replace H := Option.bind_eq_some_iff.mp H
    obtain ⟨⟨t125, t126⟩, A90, H⟩ := H
    replace H : ((wide_Pair.f a3 a2).bind fun t127 => ((wide_Split.f t127).bind fun bt128 => ((wide_Signed.f a2).bind fun t130 => (if t123 = a0 then ((wide_Pair.f t125 t126).bind fun t131 => (if t131 = a0 then (if bt128.1 = a3 then (if bt128.2 = a2 then ((wide_Plus.f a0 a2).bind fun t132 => ((wide_Plus.f t132 ((-a2) % 256)).bind fun t133 => ((wide_Signed.f ((-a2) % 256)).bind fun t134 => (if t133 = (IntKind.u16.wrap ((IntKind.u16.wrap (a0 + (IntKind.u16.wrap (t130)))) + (IntKind.u16.wrap (t134)))) then (if t130 ≥ (-128) then (if t130 ≤ 127 then (if ((t130) % 256) = a2 then ((wide_Plus.f a0 a2).bind fun t135 => (some (t135 == (IntKind.u16.wrap (a0 + (IntKind.u16.wrap (t130))))))) else (some false)) else (some false)) else (some false)) else (some false))))) else (some false)) else (some false)) else (some false))) else (some false))))) = some r := H
    have A9 := Aside0.mk A90
    clear A90
    replace H := Option.bind_eq_some_iff.mp H
    obtain ⟨t127, A100, H⟩ := H
    replace H : ((wide_Split.f t127).bind fun bt128 => ((wide_Signed.f a2).bind fun t130 => (if t123 = a0 then ((wide_Pair.f t125 t126).bind fun t131 => (if t131 = a0 then (if bt128.1 = a3 then (if bt128.2 = a2 then ((wide_Plus.f a0 a2).bind fun t132 => ((wide_Plus.f t132 ((-a2) % 256)).bind fun t133 => ((wide_Signed.f ((-a2) % 256)).bind fun t134 => (if t133 = (IntKind.u16.wrap ((IntKind.u16.wrap (a0 + (IntKind.u16.wrap (t130)))) + (IntKind.u16.wrap (t134)))) then (if t130 ≥ (-128) then (if t130 ≤ 127 then (if ((t130) % 256) = a2 then ((wide_Plus.f a0 a2).bind fun t135 => (some (t135 == (IntKind.u16.wrap (a0 + (IntKind.u16.wrap (t130))))))) else (some false)) else (some false)) else (some false)) else (some false))))) else (some false)) else (some false)) else (some false))) else (some false)))) = some r := H
    have A10 := Aside0.mk A100
    clear A100
    replace H := Option.bind_eq_some_iff.mp H
    obtain ⟨⟨t128, t129⟩, A110, H⟩ := H
    replace H : ((wide_Signed.f a2).bind fun t130 => (if t123 = a0 then ((wide_Pair.f t125 t126).bind fun t131 => (if t131 = a0 then (if t128 = a3 then (if t129 = a2 then ((wide_Plus.f a0 a2).bind fun t132 => ((wide_Plus.f t132 ((-a2) % 256)).bind fun t133 => ((wide_Signed.f ((-a2) % 256)).bind fun t134 => (if t133 = (IntKind.u16.wrap ((IntKind.u16.wrap (a0 + (IntKind.u16.wrap (t130)))) + (IntKind.u16.wrap (t134)))) then (if t130 ≥ (-128) then (if t130 ≤ 127 then (if ((t130) % 256) = a2 then ((wide_Plus.f a0 a2).bind fun t135 => (some (t135 == (IntKind.u16.wrap (a0 + (IntKind.u16.wrap (t130))))))) else (some false)) else (some false)) else (some false)) else (some false))))) else (some false)) else (some false)) else (some false))) else (some false))) = some r := H
    have A11 := Aside0.mk A110
    clear A110
    replace H := Option.bind_eq_some_iff.mp H
    obtain ⟨t130, A120, H⟩ := H
    replace H : (if t123 = a0 then ((wide_Pair.f t125 t126).bind fun t131 => (if t131 = a0 then (if t128 = a3 then (if t129 = a2 then ((wide_Plus.f a0 a2).bind fun t132 => ((wide_Plus.f t132 ((-a2) % 256)).bind fun t133 => ((wide_Signed.f ((-a2) % 256)).bind fun t134 => (if t133 = (IntKind.u16.wrap ((IntKind.u16.wrap (a0 + (IntKind.u16.wrap (t130)))) + (IntKind.u16.wrap (t134)))) then (if t130 ≥ (-128) then (if t130 ≤ 127 then (if ((t130) % 256) = a2 then ((wide_Plus.f a0 a2).bind fun t135 => (some (t135 == (IntKind.u16.wrap (a0 + (IntKind.u16.wrap (t130))))))) else (some false)) else (some false)) else (some false)) else (some false))))) else (some false)) else (some false)) else (some false))) else (some false)) = some r := H
    have A12 := Aside0.mk A120
    clear A120
    by_cases c13 : t123 = a0
    · rw [if_pos c13] at H
      have c13b0 : (t123 == a0) = true := beq_iff_eq.mpr c13
      have c13b1 : (t123 != a0) = false := bne_eq_false_iff_eq.mpr c13
      clear c13
      replace H := Option.bind_eq_some_iff.mp H
      obtain ⟨t131, A140, H⟩ := H
      replace H : (if t131 = a0 then (if t128 = a3 then (if t129 = a2 then ((wide_Plus.f a0 a2).bind fun t132 => ((wide_Plus.f t132 ((-a2) % 256)).bind fun t133 => ((wide_Signed.f ((-a2) % 256)).bind fun t134 => (if t133 = (IntKind.u16.wrap ((IntKind.u16.wrap (a0 + (IntKind.u16.wrap (t130)))) + (IntKind.u16.wrap (t134)))) then (if t130 ≥ (-128) then (if t130 ≤ 127 then (if ((t130) % 256) = a2 then ((wide_Plus.f a0 a2).bind fun t135 => (some (t135 == (IntKind.u16.wrap (a0 + (IntKind.u16.wrap (t130))))))) else (some false)) else (some false)) else (some false)) else (some false))))) else (some false)) else (some false)) else (some false)) = some r := H
      have A14 := Aside0.mk A140
      clear A140
      by_cases c15 : t131 = a0
      · rw [if_pos c15] at H
        have c15b0 : (t131 == a0) = true := beq_iff_eq.mpr c15
        have c15b1 : (t131 != a0) = false := bne_eq_false_iff_eq.mpr c15
        clear c15
        by_cases c16 : t128 = a3
        · rw [if_pos c16] at H
          have c16b0 : (t128 == a3) = true := beq_iff_eq.mpr c16
          have c16b1 : (t128 != a3) = false := bne_eq_false_iff_eq.mpr c16
          clear c16
          by_cases c17 : t129 = a2
          · rw [if_pos c17] at H
            have c17b0 : (t129 == a2) = true := beq_iff_eq.mpr c17
            have c17b1 : (t129 != a2) = false := bne_eq_false_iff_eq.mpr c17
            clear c17
            replace H := Option.bind_eq_some_iff.mp H
            obtain ⟨t132, A180, H⟩ := H
            replace H : ((wide_Plus.f t132 ((-a2) % 256)).bind fun t133 => ((wide_Signed.f ((-a2) % 256)).bind fun t134 => (if t133 = (IntKind.u16.wrap ((IntKind.u16.wrap (a0 + (IntKind.u16.wrap (t130)))) + (IntKind.u16.wrap (t134)))) then (if t130 ≥ (-128) then (if t130 ≤ 127 then (if ((t130) % 256) = a2 then ((wide_Plus.f a0 a2).bind fun t135 => (some (t135 == (IntKind.u16.wrap (a0 + (IntKind.u16.wrap (t130))))))) else (some false)) else (some false)) else (some false)) else (some false)))) = some r := H
            have A18 := Aside0.mk A180
            clear A180
            replace H := Option.bind_eq_some_iff.mp H
            obtain ⟨t133, A190, H⟩ := H
            replace H : ((wide_Signed.f ((-a2) % 256)).bind fun t134 => (if t133 = (IntKind.u16.wrap ((IntKind.u16.wrap (a0 + (IntKind.u16.wrap (t130)))) + (IntKind.u16.wrap (t134)))) then (if t130 ≥ (-128) then (if t130 ≤ 127 then (if ((t130) % 256) = a2 then ((wide_Plus.f a0 a2).bind fun t135 => (some (t135 == (IntKind.u16.wrap (a0 + (IntKind.u16.wrap (t130))))))) else (some false)) else (some false)) else (some false)) else (some false))) = some r := H
            have A19 := Aside0.mk A190
            clear A190
            replace H := Option.bind_eq_some_iff.mp H
            obtain ⟨t134, A200, H⟩ := H
            replace H : (if t133 = (IntKind.u16.wrap ((IntKind.u16.wrap (a0 + (IntKind.u16.wrap (t130)))) + (IntKind.u16.wrap (t134)))) then (if t130 ≥ (-128) then (if t130 ≤ 127 then (if ((t130) % 256) = a2 then ((wide_Plus.f a0 a2).bind fun t135 => (some (t135 == (IntKind.u16.wrap (a0 + (IntKind.u16.wrap (t130))))))) else (some false)) else (some false)) else (some false)) else (some false)) = some r := H
            have A20 := Aside0.mk A200
            clear A200
            by_cases c21 : t133 = (IntKind.u16.wrap ((IntKind.u16.wrap (a0 + (IntKind.u16.wrap (t130)))) + (IntKind.u16.wrap (t134))))
            · rw [if_pos c21] at H
              have c21b0 : (t133 == (IntKind.u16.wrap ((IntKind.u16.wrap (a0 + (IntKind.u16.wrap (t130)))) + (IntKind.u16.wrap (t134))))) = true := beq_iff_eq.mpr c21
              have c21b1 : (t133 != (IntKind.u16.wrap ((IntKind.u16.wrap (a0 + (IntKind.u16.wrap (t130)))) + (IntKind.u16.wrap (t134))))) = false := bne_eq_false_iff_eq.mpr c21
              clear c21
              by_cases c22 : t130 ≥ (-128)
              · rw [if_pos c22] at H
                have c22b0 : decide ((-128) ≤ t130) = true := decide_eq_true c22
                clear c22
                by_cases c23 : t130 ≤ 127
                · rw [if_pos c23] at H
                  have c23b0 : decide (t130 ≤ 127) = true := decide_eq_true c23
                  clear c23
                  by_cases c24 : ((t130) % 256) = a2
                  · rw [if_pos c24] at H
                    have c24b0 : (((t130) % 256) == a2) = true := beq_iff_eq.mpr c24
                    have c24b1 : (((t130) % 256) != a2) = false := bne_eq_false_iff_eq.mpr c24
                    clear c24
                    replace H := Option.bind_eq_some_iff.mp H
                    obtain ⟨t135, A250, H⟩ := H
                    replace H : (some (t135 == (IntKind.u16.wrap (a0 + (IntKind.u16.wrap (t130)))))) = some r := H
                    have A25 := Aside0.mk A250
                    clear A250
                    obtain rfl : t132 = t135 := by
                      have q2 := A25.out
                      first | exact Option.some.inj (A22.out.symm.trans q2) | exact Option.some.inj (A21.out.symm.trans q2) | exact Option.some.inj (A20.out.symm.trans q2) | exact Option.some.inj (A19.out.symm.trans q2) | exact Option.some.inj (A18.out.symm.trans q2)
                    obtain rfl := Option.some.inj H
                    go_enter Try.func5, Try.ntmps5
                    go_wp2_with (first | ((with_reducible refine gate_callee (f := 19) rfl ?_); refine goesL_ (some 18) rfl rfl Try.func19 (by kernel_rfl) rfl #[] rfl (by (try simp only [List.map_toArray, List.map_cons, List.map_nil]); first | done | rfl | (simp only [List.length_drop, List.length_take]; rfl)) ?_; (with_reducible refine (pendulumlaw07_lives.calls  true _ A5.out).mono ?_); rintro e w' ⟨rfl, ⟨nd, rfl⟩⟩; refine ⟨_, rfl, ?_⟩) | ((with_reducible refine gate_callee (f := 20) rfl ?_); refine goesL_ (some 24) rfl rfl Try.func20 (by kernel_rfl) rfl #[.int .u16 a0, .int .u16 a1, .int .u8 a3] rfl (by (try simp only [List.map_toArray, List.map_cons, List.map_nil]); first | done | rfl | (simp only [List.length_drop, List.length_take]; rfl)) ?_; (with_reducible refine (wide_Adc.calls a0 a1 a3 t121 t122 _ A7.out).mono ?_); rintro e w' ⟨rfl, ⟨nd, rfl⟩⟩; refine ⟨_, rfl, ?_⟩) | ((with_reducible refine gate_callee (f := 22) rfl ?_); refine goesL_ (some 31) rfl rfl Try.func22 (by kernel_rfl) rfl #[.int .u16 t121, .int .u16 a1, .int .u8 a3] rfl (by (try simp only [List.map_toArray, List.map_cons, List.map_nil]); first | done | rfl | (simp only [List.length_drop, List.length_take]; rfl)) ?_; (with_reducible refine (wide_Sbc.calls t121 a1 a3 t123 t124 _ A8.out).mono ?_); rintro e w' ⟨rfl, ⟨nd, rfl⟩⟩; refine ⟨_, rfl, ?_⟩) | ((with_reducible refine gate_callee (f := 28) rfl ?_); refine goesL_ (some 36) rfl rfl Try.func28 (by kernel_rfl) rfl #[.int .u16 a0] rfl (by (try simp only [List.map_toArray, List.map_cons, List.map_nil]); first | done | rfl | (simp only [List.length_drop, List.length_take]; rfl)) ?_; (with_reducible refine (wide_Split.calls a0 t125 t126 _ A9.out).mono ?_); rintro e w' ⟨rfl, ⟨nd, rfl⟩⟩; refine ⟨_, rfl, ?_⟩) | ((with_reducible refine gate_callee (f := 30) rfl ?_); refine goesL_ (some 42) rfl rfl Try.func30 (by kernel_rfl) rfl #[.int .u8 a3, .int .u8 a2] rfl (by (try simp only [List.map_toArray, List.map_cons, List.map_nil]); first | done | rfl | (simp only [List.length_drop, List.length_take]; rfl)) ?_; (with_reducible refine (wide_Pair.calls a3 a2 t127 _ A10.out).mono ?_); rintro e w' ⟨rfl, ⟨nd, rfl⟩⟩; refine ⟨_, rfl, ?_⟩) | ((with_reducible refine gate_callee (f := 28) rfl ?_); refine goesL_ (some 43) rfl rfl Try.func28 (by kernel_rfl) rfl #[.int .u16 t127] rfl (by (try simp only [List.map_toArray, List.map_cons, List.map_nil]); first | done | rfl | (simp only [List.length_drop, List.length_take]; rfl)) ?_; (with_reducible refine (wide_Split.calls t127 t128 t129 _ A11.out).mono ?_); rintro e w' ⟨rfl, ⟨nd, rfl⟩⟩; refine ⟨_, rfl, ?_⟩) | ((with_reducible refine gate_callee (f := 32) rfl ?_); refine goesL_ (some 47) rfl rfl Try.func32 (by kernel_rfl) rfl #[.int .u8 a2] rfl (by (try simp only [List.map_toArray, List.map_cons, List.map_nil]); first | done | rfl | (simp only [List.length_drop, List.length_take]; rfl)) ?_; (with_reducible refine (wide_Signed.calls a2 t130 _ A12.out).mono ?_); rintro e w' ⟨rfl, ⟨nd, rfl⟩⟩; refine ⟨_, rfl, ?_⟩) | (go_at_call 30; (with_reducible refine (wide_Pair.calls t125 t126 t131 _ A14.out).mono ?_); rintro e w' ⟨rfl, ⟨nd, rfl⟩⟩) | (go_at_call 34; (with_reducible refine (wide_Plus.calls a0 a2 t132 _ A18.out).mono ?_); rintro e w' ⟨rfl, ⟨nd, rfl⟩⟩) | (go_at_call 34; (with_reducible refine (wide_Plus.calls t132 ((-a2) % 256) t133 _ A19.out).mono ?_); rintro e w' ⟨rfl, ⟨nd, rfl⟩⟩) | (go_at_call 32; (with_reducible refine (wide_Signed.calls ((-a2) % 256) t134 _ A20.out).mono ?_); rintro e w' ⟨rfl, ⟨nd, rfl⟩⟩) | (go_at_call 34; (with_reducible refine (wide_Plus.calls a0 a2 t135 _ A25.out).mono ?_); rintro e w' ⟨rfl, ⟨nd, rfl⟩⟩))
                    go_ret
                    exact ⟨by first | rfl | (simp; done) | (simp [*]; done), by repeat (first | exact Drawn0.refl _ | apply Drawn0.step)⟩
                  · rw [if_neg c24] at H
                    have c24b0 : (((t130) % 256) == a2) = false := beq_eq_false_iff_ne.mpr c24
                    have c24b1 : (((t130) % 256) != a2) = true := bne_iff_ne.mpr c24
                    obtain rfl := Option.some.inj H
                    go_enter Try.func5, Try.ntmps5
                    go_wp2_with (first | ((with_reducible refine gate_callee (f := 19) rfl ?_); refine goesL_ (some 18) rfl rfl Try.func19 (by kernel_rfl) rfl #[] rfl (by (try simp only [List.map_toArray, List.map_cons, List.map_nil]); first | done | rfl | (simp only [List.length_drop, List.length_take]; rfl)) ?_; (with_reducible refine (pendulumlaw07_lives.calls  true _ A5.out).mono ?_); rintro e w' ⟨rfl, ⟨nd, rfl⟩⟩; refine ⟨_, rfl, ?_⟩) | ((with_reducible refine gate_callee (f := 20) rfl ?_); refine goesL_ (some 24) rfl rfl Try.func20 (by kernel_rfl) rfl #[.int .u16 a0, .int .u16 a1, .int .u8 a3] rfl (by (try simp only [List.map_toArray, List.map_cons, List.map_nil]); first | done | rfl | (simp only [List.length_drop, List.length_take]; rfl)) ?_; (with_reducible refine (wide_Adc.calls a0 a1 a3 t121 t122 _ A7.out).mono ?_); rintro e w' ⟨rfl, ⟨nd, rfl⟩⟩; refine ⟨_, rfl, ?_⟩) | ((with_reducible refine gate_callee (f := 22) rfl ?_); refine goesL_ (some 31) rfl rfl Try.func22 (by kernel_rfl) rfl #[.int .u16 t121, .int .u16 a1, .int .u8 a3] rfl (by (try simp only [List.map_toArray, List.map_cons, List.map_nil]); first | done | rfl | (simp only [List.length_drop, List.length_take]; rfl)) ?_; (with_reducible refine (wide_Sbc.calls t121 a1 a3 t123 t124 _ A8.out).mono ?_); rintro e w' ⟨rfl, ⟨nd, rfl⟩⟩; refine ⟨_, rfl, ?_⟩) | ((with_reducible refine gate_callee (f := 28) rfl ?_); refine goesL_ (some 36) rfl rfl Try.func28 (by kernel_rfl) rfl #[.int .u16 a0] rfl (by (try simp only [List.map_toArray, List.map_cons, List.map_nil]); first | done | rfl | (simp only [List.length_drop, List.length_take]; rfl)) ?_; (with_reducible refine (wide_Split.calls a0 t125 t126 _ A9.out).mono ?_); rintro e w' ⟨rfl, ⟨nd, rfl⟩⟩; refine ⟨_, rfl, ?_⟩) | ((with_reducible refine gate_callee (f := 30) rfl ?_); refine goesL_ (some 42) rfl rfl Try.func30 (by kernel_rfl) rfl #[.int .u8 a3, .int .u8 a2] rfl (by (try simp only [List.map_toArray, List.map_cons, List.map_nil]); first | done | rfl | (simp only [List.length_drop, List.length_take]; rfl)) ?_; (with_reducible refine (wide_Pair.calls a3 a2 t127 _ A10.out).mono ?_); rintro e w' ⟨rfl, ⟨nd, rfl⟩⟩; refine ⟨_, rfl, ?_⟩) | ((with_reducible refine gate_callee (f := 28) rfl ?_); refine goesL_ (some 43) rfl rfl Try.func28 (by kernel_rfl) rfl #[.int .u16 t127] rfl (by (try simp only [List.map_toArray, List.map_cons, List.map_nil]); first | done | rfl | (simp only [List.length_drop, List.length_take]; rfl)) ?_; (with_reducible refine (wide_Split.calls t127 t128 t129 _ A11.out).mono ?_); rintro e w' ⟨rfl, ⟨nd, rfl⟩⟩; refine ⟨_, rfl, ?_⟩) | ((with_reducible refine gate_callee (f := 32) rfl ?_); refine goesL_ (some 47) rfl rfl Try.func32 (by kernel_rfl) rfl #[.int .u8 a2] rfl (by (try simp only [List.map_toArray, List.map_cons, List.map_nil]); first | done | rfl | (simp only [List.length_drop, List.length_take]; rfl)) ?_; (with_reducible refine (wide_Signed.calls a2 t130 _ A12.out).mono ?_); rintro e w' ⟨rfl, ⟨nd, rfl⟩⟩; refine ⟨_, rfl, ?_⟩) | (go_at_call 30; (with_reducible refine (wide_Pair.calls t125 t126 t131 _ A14.out).mono ?_); rintro e w' ⟨rfl, ⟨nd, rfl⟩⟩) | (go_at_call 34; (with_reducible refine (wide_Plus.calls a0 a2 t132 _ A18.out).mono ?_); rintro e w' ⟨rfl, ⟨nd, rfl⟩⟩) | (go_at_call 34; (with_reducible refine (wide_Plus.calls t132 ((-a2) % 256) t133 _ A19.out).mono ?_); rintro e w' ⟨rfl, ⟨nd, rfl⟩⟩) | (go_at_call 32; (with_reducible refine (wide_Signed.calls ((-a2) % 256) t134 _ A20.out).mono ?_); rintro e w' ⟨rfl, ⟨nd, rfl⟩⟩))
                    go_ret
                    exact ⟨by first | rfl | (simp; done) | (simp [*]; done), by repeat (first | exact Drawn0.refl _ | apply Drawn0.step)⟩
                · rw [if_neg c23] at H
                  have c23b0 : decide (t130 ≤ 127) = false := decide_eq_false c23
                  clear c23
                  obtain rfl := Option.some.inj H
                  go_enter Try.func5, Try.ntmps5
                  go_wp2_with (first | ((with_reducible refine gate_callee (f := 19) rfl ?_); refine goesL_ (some 18) rfl rfl Try.func19 (by kernel_rfl) rfl #[] rfl (by (try simp only [List.map_toArray, List.map_cons, List.map_nil]); first | done | rfl | (simp only [List.length_drop, List.length_take]; rfl)) ?_; (with_reducible refine (pendulumlaw07_lives.calls  true _ A5.out).mono ?_); rintro e w' ⟨rfl, ⟨nd, rfl⟩⟩; refine ⟨_, rfl, ?_⟩) | ((with_reducible refine gate_callee (f := 20) rfl ?_); refine goesL_ (some 24) rfl rfl Try.func20 (by kernel_rfl) rfl #[.int .u16 a0, .int .u16 a1, .int .u8 a3] rfl (by (try simp only [List.map_toArray, List.map_cons, List.map_nil]); first | done | rfl | (simp only [List.length_drop, List.length_take]; rfl)) ?_; (with_reducible refine (wide_Adc.calls a0 a1 a3 t121 t122 _ A7.out).mono ?_); rintro e w' ⟨rfl, ⟨nd, rfl⟩⟩; refine ⟨_, rfl, ?_⟩) | ((with_reducible refine gate_callee (f := 22) rfl ?_); refine goesL_ (some 31) rfl rfl Try.func22 (by kernel_rfl) rfl #[.int .u16 t121, .int .u16 a1, .int .u8 a3] rfl (by (try simp only [List.map_toArray, List.map_cons, List.map_nil]); first | done | rfl | (simp only [List.length_drop, List.length_take]; rfl)) ?_; (with_reducible refine (wide_Sbc.calls t121 a1 a3 t123 t124 _ A8.out).mono ?_); rintro e w' ⟨rfl, ⟨nd, rfl⟩⟩; refine ⟨_, rfl, ?_⟩) | ((with_reducible refine gate_callee (f := 28) rfl ?_); refine goesL_ (some 36) rfl rfl Try.func28 (by kernel_rfl) rfl #[.int .u16 a0] rfl (by (try simp only [List.map_toArray, List.map_cons, List.map_nil]); first | done | rfl | (simp only [List.length_drop, List.length_take]; rfl)) ?_; (with_reducible refine (wide_Split.calls a0 t125 t126 _ A9.out).mono ?_); rintro e w' ⟨rfl, ⟨nd, rfl⟩⟩; refine ⟨_, rfl, ?_⟩) | ((with_reducible refine gate_callee (f := 30) rfl ?_); refine goesL_ (some 42) rfl rfl Try.func30 (by kernel_rfl) rfl #[.int .u8 a3, .int .u8 a2] rfl (by (try simp only [List.map_toArray, List.map_cons, List.map_nil]); first | done | rfl | (simp only [List.length_drop, List.length_take]; rfl)) ?_; (with_reducible refine (wide_Pair.calls a3 a2 t127 _ A10.out).mono ?_); rintro e w' ⟨rfl, ⟨nd, rfl⟩⟩; refine ⟨_, rfl, ?_⟩) | ((with_reducible refine gate_callee (f := 28) rfl ?_); refine goesL_ (some 43) rfl rfl Try.func28 (by kernel_rfl) rfl #[.int .u16 t127] rfl (by (try simp only [List.map_toArray, List.map_cons, List.map_nil]); first | done | rfl | (simp only [List.length_drop, List.length_take]; rfl)) ?_; (with_reducible refine (wide_Split.calls t127 t128 t129 _ A11.out).mono ?_); rintro e w' ⟨rfl, ⟨nd, rfl⟩⟩; refine ⟨_, rfl, ?_⟩) | ((with_reducible refine gate_callee (f := 32) rfl ?_); refine goesL_ (some 47) rfl rfl Try.func32 (by kernel_rfl) rfl #[.int .u8 a2] rfl (by (try simp only [List.map_toArray, List.map_cons, List.map_nil]); first | done | rfl | (simp only [List.length_drop, List.length_take]; rfl)) ?_; (with_reducible refine (wide_Signed.calls a2 t130 _ A12.out).mono ?_); rintro e w' ⟨rfl, ⟨nd, rfl⟩⟩; refine ⟨_, rfl, ?_⟩) | (go_at_call 30; (with_reducible refine (wide_Pair.calls t125 t126 t131 _ A14.out).mono ?_); rintro e w' ⟨rfl, ⟨nd, rfl⟩⟩) | (go_at_call 34; (with_reducible refine (wide_Plus.calls a0 a2 t132 _ A18.out).mono ?_); rintro e w' ⟨rfl, ⟨nd, rfl⟩⟩) | (go_at_call 34; (with_reducible refine (wide_Plus.calls t132 ((-a2) % 256) t133 _ A19.out).mono ?_); rintro e w' ⟨rfl, ⟨nd, rfl⟩⟩) | (go_at_call 32; (with_reducible refine (wide_Signed.calls ((-a2) % 256) t134 _ A20.out).mono ?_); rintro e w' ⟨rfl, ⟨nd, rfl⟩⟩))
                  go_ret
                  exact ⟨by first | rfl | (simp; done) | (simp [*]; done), by repeat (first | exact Drawn0.refl _ | apply Drawn0.step)⟩
              · rw [if_neg c22] at H
                have c22b0 : decide ((-128) ≤ t130) = false := decide_eq_false c22
                clear c22
                obtain rfl := Option.some.inj H
                go_enter Try.func5, Try.ntmps5
                go_wp2_with (first | ((with_reducible refine gate_callee (f := 19) rfl ?_); refine goesL_ (some 18) rfl rfl Try.func19 (by kernel_rfl) rfl #[] rfl (by (try simp only [List.map_toArray, List.map_cons, List.map_nil]); first | done | rfl | (simp only [List.length_drop, List.length_take]; rfl)) ?_; (with_reducible refine (pendulumlaw07_lives.calls  true _ A5.out).mono ?_); rintro e w' ⟨rfl, ⟨nd, rfl⟩⟩; refine ⟨_, rfl, ?_⟩) | ((with_reducible refine gate_callee (f := 20) rfl ?_); refine goesL_ (some 24) rfl rfl Try.func20 (by kernel_rfl) rfl #[.int .u16 a0, .int .u16 a1, .int .u8 a3] rfl (by (try simp only [List.map_toArray, List.map_cons, List.map_nil]); first | done | rfl | (simp only [List.length_drop, List.length_take]; rfl)) ?_; (with_reducible refine (wide_Adc.calls a0 a1 a3 t121 t122 _ A7.out).mono ?_); rintro e w' ⟨rfl, ⟨nd, rfl⟩⟩; refine ⟨_, rfl, ?_⟩) | ((with_reducible refine gate_callee (f := 22) rfl ?_); refine goesL_ (some 31) rfl rfl Try.func22 (by kernel_rfl) rfl #[.int .u16 t121, .int .u16 a1, .int .u8 a3] rfl (by (try simp only [List.map_toArray, List.map_cons, List.map_nil]); first | done | rfl | (simp only [List.length_drop, List.length_take]; rfl)) ?_; (with_reducible refine (wide_Sbc.calls t121 a1 a3 t123 t124 _ A8.out).mono ?_); rintro e w' ⟨rfl, ⟨nd, rfl⟩⟩; refine ⟨_, rfl, ?_⟩) | ((with_reducible refine gate_callee (f := 28) rfl ?_); refine goesL_ (some 36) rfl rfl Try.func28 (by kernel_rfl) rfl #[.int .u16 a0] rfl (by (try simp only [List.map_toArray, List.map_cons, List.map_nil]); first | done | rfl | (simp only [List.length_drop, List.length_take]; rfl)) ?_; (with_reducible refine (wide_Split.calls a0 t125 t126 _ A9.out).mono ?_); rintro e w' ⟨rfl, ⟨nd, rfl⟩⟩; refine ⟨_, rfl, ?_⟩) | ((with_reducible refine gate_callee (f := 30) rfl ?_); refine goesL_ (some 42) rfl rfl Try.func30 (by kernel_rfl) rfl #[.int .u8 a3, .int .u8 a2] rfl (by (try simp only [List.map_toArray, List.map_cons, List.map_nil]); first | done | rfl | (simp only [List.length_drop, List.length_take]; rfl)) ?_; (with_reducible refine (wide_Pair.calls a3 a2 t127 _ A10.out).mono ?_); rintro e w' ⟨rfl, ⟨nd, rfl⟩⟩; refine ⟨_, rfl, ?_⟩) | ((with_reducible refine gate_callee (f := 28) rfl ?_); refine goesL_ (some 43) rfl rfl Try.func28 (by kernel_rfl) rfl #[.int .u16 t127] rfl (by (try simp only [List.map_toArray, List.map_cons, List.map_nil]); first | done | rfl | (simp only [List.length_drop, List.length_take]; rfl)) ?_; (with_reducible refine (wide_Split.calls t127 t128 t129 _ A11.out).mono ?_); rintro e w' ⟨rfl, ⟨nd, rfl⟩⟩; refine ⟨_, rfl, ?_⟩) | ((with_reducible refine gate_callee (f := 32) rfl ?_); refine goesL_ (some 47) rfl rfl Try.func32 (by kernel_rfl) rfl #[.int .u8 a2] rfl (by (try simp only [List.map_toArray, List.map_cons, List.map_nil]); first | done | rfl | (simp only [List.length_drop, List.length_take]; rfl)) ?_; (with_reducible refine (wide_Signed.calls a2 t130 _ A12.out).mono ?_); rintro e w' ⟨rfl, ⟨nd, rfl⟩⟩; refine ⟨_, rfl, ?_⟩) | (go_at_call 30; (with_reducible refine (wide_Pair.calls t125 t126 t131 _ A14.out).mono ?_); rintro e w' ⟨rfl, ⟨nd, rfl⟩⟩) | (go_at_call 34; (with_reducible refine (wide_Plus.calls a0 a2 t132 _ A18.out).mono ?_); rintro e w' ⟨rfl, ⟨nd, rfl⟩⟩) | (go_at_call 34; (with_reducible refine (wide_Plus.calls t132 ((-a2) % 256) t133 _ A19.out).mono ?_); rintro e w' ⟨rfl, ⟨nd, rfl⟩⟩) | (go_at_call 32; (with_reducible refine (wide_Signed.calls ((-a2) % 256) t134 _ A20.out).mono ?_); rintro e w' ⟨rfl, ⟨nd, rfl⟩⟩))
                go_ret
                exact ⟨by first | rfl | (simp; done) | (simp [*]; done), by repeat (first | exact Drawn0.refl _ | apply Drawn0.step)⟩
            · rw [if_neg c21] at H
              have c21b0 : (t133 == (IntKind.u16.wrap ((IntKind.u16.wrap (a0 + (IntKind.u16.wrap (t130)))) + (IntKind.u16.wrap (t134))))) = false := beq_eq_false_iff_ne.mpr c21
              have c21b1 : (t133 != (IntKind.u16.wrap ((IntKind.u16.wrap (a0 + (IntKind.u16.wrap (t130)))) + (IntKind.u16.wrap (t134))))) = true := bne_iff_ne.mpr c21
              obtain rfl := Option.some.inj H
              go_enter Try.func5, Try.ntmps5
              go_wp2_with (first | ((with_reducible refine gate_callee (f := 19) rfl ?_); refine goesL_ (some 18) rfl rfl Try.func19 (by kernel_rfl) rfl #[] rfl (by (try simp only [List.map_toArray, List.map_cons, List.map_nil]); first | done | rfl | (simp only [List.length_drop, List.length_take]; rfl)) ?_; (with_reducible refine (pendulumlaw07_lives.calls  true _ A5.out).mono ?_); rintro e w' ⟨rfl, ⟨nd, rfl⟩⟩; refine ⟨_, rfl, ?_⟩) | ((with_reducible refine gate_callee (f := 20) rfl ?_); refine goesL_ (some 24) rfl rfl Try.func20 (by kernel_rfl) rfl #[.int .u16 a0, .int .u16 a1, .int .u8 a3] rfl (by (try simp only [List.map_toArray, List.map_cons, List.map_nil]); first | done | rfl | (simp only [List.length_drop, List.length_take]; rfl)) ?_; (with_reducible refine (wide_Adc.calls a0 a1 a3 t121 t122 _ A7.out).mono ?_); rintro e w' ⟨rfl, ⟨nd, rfl⟩⟩; refine ⟨_, rfl, ?_⟩) | ((with_reducible refine gate_callee (f := 22) rfl ?_); refine goesL_ (some 31) rfl rfl Try.func22 (by kernel_rfl) rfl #[.int .u16 t121, .int .u16 a1, .int .u8 a3] rfl (by (try simp only [List.map_toArray, List.map_cons, List.map_nil]); first | done | rfl | (simp only [List.length_drop, List.length_take]; rfl)) ?_; (with_reducible refine (wide_Sbc.calls t121 a1 a3 t123 t124 _ A8.out).mono ?_); rintro e w' ⟨rfl, ⟨nd, rfl⟩⟩; refine ⟨_, rfl, ?_⟩) | ((with_reducible refine gate_callee (f := 28) rfl ?_); refine goesL_ (some 36) rfl rfl Try.func28 (by kernel_rfl) rfl #[.int .u16 a0] rfl (by (try simp only [List.map_toArray, List.map_cons, List.map_nil]); first | done | rfl | (simp only [List.length_drop, List.length_take]; rfl)) ?_; (with_reducible refine (wide_Split.calls a0 t125 t126 _ A9.out).mono ?_); rintro e w' ⟨rfl, ⟨nd, rfl⟩⟩; refine ⟨_, rfl, ?_⟩) | ((with_reducible refine gate_callee (f := 30) rfl ?_); refine goesL_ (some 42) rfl rfl Try.func30 (by kernel_rfl) rfl #[.int .u8 a3, .int .u8 a2] rfl (by (try simp only [List.map_toArray, List.map_cons, List.map_nil]); first | done | rfl | (simp only [List.length_drop, List.length_take]; rfl)) ?_; (with_reducible refine (wide_Pair.calls a3 a2 t127 _ A10.out).mono ?_); rintro e w' ⟨rfl, ⟨nd, rfl⟩⟩; refine ⟨_, rfl, ?_⟩) | ((with_reducible refine gate_callee (f := 28) rfl ?_); refine goesL_ (some 43) rfl rfl Try.func28 (by kernel_rfl) rfl #[.int .u16 t127] rfl (by (try simp only [List.map_toArray, List.map_cons, List.map_nil]); first | done | rfl | (simp only [List.length_drop, List.length_take]; rfl)) ?_; (with_reducible refine (wide_Split.calls t127 t128 t129 _ A11.out).mono ?_); rintro e w' ⟨rfl, ⟨nd, rfl⟩⟩; refine ⟨_, rfl, ?_⟩) | ((with_reducible refine gate_callee (f := 32) rfl ?_); refine goesL_ (some 47) rfl rfl Try.func32 (by kernel_rfl) rfl #[.int .u8 a2] rfl (by (try simp only [List.map_toArray, List.map_cons, List.map_nil]); first | done | rfl | (simp only [List.length_drop, List.length_take]; rfl)) ?_; (with_reducible refine (wide_Signed.calls a2 t130 _ A12.out).mono ?_); rintro e w' ⟨rfl, ⟨nd, rfl⟩⟩; refine ⟨_, rfl, ?_⟩) | (go_at_call 30; (with_reducible refine (wide_Pair.calls t125 t126 t131 _ A14.out).mono ?_); rintro e w' ⟨rfl, ⟨nd, rfl⟩⟩) | (go_at_call 34; (with_reducible refine (wide_Plus.calls a0 a2 t132 _ A18.out).mono ?_); rintro e w' ⟨rfl, ⟨nd, rfl⟩⟩) | (go_at_call 34; (with_reducible refine (wide_Plus.calls t132 ((-a2) % 256) t133 _ A19.out).mono ?_); rintro e w' ⟨rfl, ⟨nd, rfl⟩⟩) | (go_at_call 32; (with_reducible refine (wide_Signed.calls ((-a2) % 256) t134 _ A20.out).mono ?_); rintro e w' ⟨rfl, ⟨nd, rfl⟩⟩))
              go_ret
              exact ⟨by first | rfl | (simp; done) | (simp [*]; done), by repeat (first | exact Drawn0.refl _ | apply Drawn0.step)⟩
          · rw [if_neg c17] at H
            have c17b0 : (t129 == a2) = false := beq_eq_false_iff_ne.mpr c17
            have c17b1 : (t129 != a2) = true := bne_iff_ne.mpr c17
            obtain rfl := Option.some.inj H
            go_enter Try.func5, Try.ntmps5
            go_wp2_with (first | ((with_reducible refine gate_callee (f := 19) rfl ?_); refine goesL_ (some 18) rfl rfl Try.func19 (by kernel_rfl) rfl #[] rfl (by (try simp only [List.map_toArray, List.map_cons, List.map_nil]); first | done | rfl | (simp only [List.length_drop, List.length_take]; rfl)) ?_; (with_reducible refine (pendulumlaw07_lives.calls  true _ A5.out).mono ?_); rintro e w' ⟨rfl, ⟨nd, rfl⟩⟩; refine ⟨_, rfl, ?_⟩) | ((with_reducible refine gate_callee (f := 20) rfl ?_); refine goesL_ (some 24) rfl rfl Try.func20 (by kernel_rfl) rfl #[.int .u16 a0, .int .u16 a1, .int .u8 a3] rfl (by (try simp only [List.map_toArray, List.map_cons, List.map_nil]); first | done | rfl | (simp only [List.length_drop, List.length_take]; rfl)) ?_; (with_reducible refine (wide_Adc.calls a0 a1 a3 t121 t122 _ A7.out).mono ?_); rintro e w' ⟨rfl, ⟨nd, rfl⟩⟩; refine ⟨_, rfl, ?_⟩) | ((with_reducible refine gate_callee (f := 22) rfl ?_); refine goesL_ (some 31) rfl rfl Try.func22 (by kernel_rfl) rfl #[.int .u16 t121, .int .u16 a1, .int .u8 a3] rfl (by (try simp only [List.map_toArray, List.map_cons, List.map_nil]); first | done | rfl | (simp only [List.length_drop, List.length_take]; rfl)) ?_; (with_reducible refine (wide_Sbc.calls t121 a1 a3 t123 t124 _ A8.out).mono ?_); rintro e w' ⟨rfl, ⟨nd, rfl⟩⟩; refine ⟨_, rfl, ?_⟩) | ((with_reducible refine gate_callee (f := 28) rfl ?_); refine goesL_ (some 36) rfl rfl Try.func28 (by kernel_rfl) rfl #[.int .u16 a0] rfl (by (try simp only [List.map_toArray, List.map_cons, List.map_nil]); first | done | rfl | (simp only [List.length_drop, List.length_take]; rfl)) ?_; (with_reducible refine (wide_Split.calls a0 t125 t126 _ A9.out).mono ?_); rintro e w' ⟨rfl, ⟨nd, rfl⟩⟩; refine ⟨_, rfl, ?_⟩) | ((with_reducible refine gate_callee (f := 30) rfl ?_); refine goesL_ (some 42) rfl rfl Try.func30 (by kernel_rfl) rfl #[.int .u8 a3, .int .u8 a2] rfl (by (try simp only [List.map_toArray, List.map_cons, List.map_nil]); first | done | rfl | (simp only [List.length_drop, List.length_take]; rfl)) ?_; (with_reducible refine (wide_Pair.calls a3 a2 t127 _ A10.out).mono ?_); rintro e w' ⟨rfl, ⟨nd, rfl⟩⟩; refine ⟨_, rfl, ?_⟩) | ((with_reducible refine gate_callee (f := 28) rfl ?_); refine goesL_ (some 43) rfl rfl Try.func28 (by kernel_rfl) rfl #[.int .u16 t127] rfl (by (try simp only [List.map_toArray, List.map_cons, List.map_nil]); first | done | rfl | (simp only [List.length_drop, List.length_take]; rfl)) ?_; (with_reducible refine (wide_Split.calls t127 t128 t129 _ A11.out).mono ?_); rintro e w' ⟨rfl, ⟨nd, rfl⟩⟩; refine ⟨_, rfl, ?_⟩) | ((with_reducible refine gate_callee (f := 32) rfl ?_); refine goesL_ (some 47) rfl rfl Try.func32 (by kernel_rfl) rfl #[.int .u8 a2] rfl (by (try simp only [List.map_toArray, List.map_cons, List.map_nil]); first | done | rfl | (simp only [List.length_drop, List.length_take]; rfl)) ?_; (with_reducible refine (wide_Signed.calls a2 t130 _ A12.out).mono ?_); rintro e w' ⟨rfl, ⟨nd, rfl⟩⟩; refine ⟨_, rfl, ?_⟩) | (go_at_call 30; (with_reducible refine (wide_Pair.calls t125 t126 t131 _ A14.out).mono ?_); rintro e w' ⟨rfl, ⟨nd, rfl⟩⟩))
            go_ret
            exact ⟨by first | rfl | (simp; done) | (simp [*]; done), by repeat (first | exact Drawn0.refl _ | apply Drawn0.step)⟩
        · rw [if_neg c16] at H
          have c16b0 : (t128 == a3) = false := beq_eq_false_iff_ne.mpr c16
          have c16b1 : (t128 != a3) = true := bne_iff_ne.mpr c16
          obtain rfl := Option.some.inj H
          go_enter Try.func5, Try.ntmps5
          go_wp2_with (first | ((with_reducible refine gate_callee (f := 19) rfl ?_); refine goesL_ (some 18) rfl rfl Try.func19 (by kernel_rfl) rfl #[] rfl (by (try simp only [List.map_toArray, List.map_cons, List.map_nil]); first | done | rfl | (simp only [List.length_drop, List.length_take]; rfl)) ?_; (with_reducible refine (pendulumlaw07_lives.calls  true _ A5.out).mono ?_); rintro e w' ⟨rfl, ⟨nd, rfl⟩⟩; refine ⟨_, rfl, ?_⟩) | ((with_reducible refine gate_callee (f := 20) rfl ?_); refine goesL_ (some 24) rfl rfl Try.func20 (by kernel_rfl) rfl #[.int .u16 a0, .int .u16 a1, .int .u8 a3] rfl (by (try simp only [List.map_toArray, List.map_cons, List.map_nil]); first | done | rfl | (simp only [List.length_drop, List.length_take]; rfl)) ?_; (with_reducible refine (wide_Adc.calls a0 a1 a3 t121 t122 _ A7.out).mono ?_); rintro e w' ⟨rfl, ⟨nd, rfl⟩⟩; refine ⟨_, rfl, ?_⟩) | ((with_reducible refine gate_callee (f := 22) rfl ?_); refine goesL_ (some 31) rfl rfl Try.func22 (by kernel_rfl) rfl #[.int .u16 t121, .int .u16 a1, .int .u8 a3] rfl (by (try simp only [List.map_toArray, List.map_cons, List.map_nil]); first | done | rfl | (simp only [List.length_drop, List.length_take]; rfl)) ?_; (with_reducible refine (wide_Sbc.calls t121 a1 a3 t123 t124 _ A8.out).mono ?_); rintro e w' ⟨rfl, ⟨nd, rfl⟩⟩; refine ⟨_, rfl, ?_⟩) | ((with_reducible refine gate_callee (f := 28) rfl ?_); refine goesL_ (some 36) rfl rfl Try.func28 (by kernel_rfl) rfl #[.int .u16 a0] rfl (by (try simp only [List.map_toArray, List.map_cons, List.map_nil]); first | done | rfl | (simp only [List.length_drop, List.length_take]; rfl)) ?_; (with_reducible refine (wide_Split.calls a0 t125 t126 _ A9.out).mono ?_); rintro e w' ⟨rfl, ⟨nd, rfl⟩⟩; refine ⟨_, rfl, ?_⟩) | ((with_reducible refine gate_callee (f := 30) rfl ?_); refine goesL_ (some 42) rfl rfl Try.func30 (by kernel_rfl) rfl #[.int .u8 a3, .int .u8 a2] rfl (by (try simp only [List.map_toArray, List.map_cons, List.map_nil]); first | done | rfl | (simp only [List.length_drop, List.length_take]; rfl)) ?_; (with_reducible refine (wide_Pair.calls a3 a2 t127 _ A10.out).mono ?_); rintro e w' ⟨rfl, ⟨nd, rfl⟩⟩; refine ⟨_, rfl, ?_⟩) | ((with_reducible refine gate_callee (f := 28) rfl ?_); refine goesL_ (some 43) rfl rfl Try.func28 (by kernel_rfl) rfl #[.int .u16 t127] rfl (by (try simp only [List.map_toArray, List.map_cons, List.map_nil]); first | done | rfl | (simp only [List.length_drop, List.length_take]; rfl)) ?_; (with_reducible refine (wide_Split.calls t127 t128 t129 _ A11.out).mono ?_); rintro e w' ⟨rfl, ⟨nd, rfl⟩⟩; refine ⟨_, rfl, ?_⟩) | ((with_reducible refine gate_callee (f := 32) rfl ?_); refine goesL_ (some 47) rfl rfl Try.func32 (by kernel_rfl) rfl #[.int .u8 a2] rfl (by (try simp only [List.map_toArray, List.map_cons, List.map_nil]); first | done | rfl | (simp only [List.length_drop, List.length_take]; rfl)) ?_; (with_reducible refine (wide_Signed.calls a2 t130 _ A12.out).mono ?_); rintro e w' ⟨rfl, ⟨nd, rfl⟩⟩; refine ⟨_, rfl, ?_⟩) | (go_at_call 30; (with_reducible refine (wide_Pair.calls t125 t126 t131 _ A14.out).mono ?_); rintro e w' ⟨rfl, ⟨nd, rfl⟩⟩))
          go_ret
          exact ⟨by first | rfl | (simp; done) | (simp [*]; done), by repeat (first | exact Drawn0.refl _ | apply Drawn0.step)⟩
      · rw [if_neg c15] at H
        have c15b0 : (t131 == a0) = false := beq_eq_false_iff_ne.mpr c15
        have c15b1 : (t131 != a0) = true := bne_iff_ne.mpr c15
        obtain rfl := Option.some.inj H
        go_enter Try.func5, Try.ntmps5
        go_wp2_with (first | ((with_reducible refine gate_callee (f := 19) rfl ?_); refine goesL_ (some 18) rfl rfl Try.func19 (by kernel_rfl) rfl #[] rfl (by (try simp only [List.map_toArray, List.map_cons, List.map_nil]); first | done | rfl | (simp only [List.length_drop, List.length_take]; rfl)) ?_; (with_reducible refine (pendulumlaw07_lives.calls  true _ A5.out).mono ?_); rintro e w' ⟨rfl, ⟨nd, rfl⟩⟩; refine ⟨_, rfl, ?_⟩) | ((with_reducible refine gate_callee (f := 20) rfl ?_); refine goesL_ (some 24) rfl rfl Try.func20 (by kernel_rfl) rfl #[.int .u16 a0, .int .u16 a1, .int .u8 a3] rfl (by (try simp only [List.map_toArray, List.map_cons, List.map_nil]); first | done | rfl | (simp only [List.length_drop, List.length_take]; rfl)) ?_; (with_reducible refine (wide_Adc.calls a0 a1 a3 t121 t122 _ A7.out).mono ?_); rintro e w' ⟨rfl, ⟨nd, rfl⟩⟩; refine ⟨_, rfl, ?_⟩) | ((with_reducible refine gate_callee (f := 22) rfl ?_); refine goesL_ (some 31) rfl rfl Try.func22 (by kernel_rfl) rfl #[.int .u16 t121, .int .u16 a1, .int .u8 a3] rfl (by (try simp only [List.map_toArray, List.map_cons, List.map_nil]); first | done | rfl | (simp only [List.length_drop, List.length_take]; rfl)) ?_; (with_reducible refine (wide_Sbc.calls t121 a1 a3 t123 t124 _ A8.out).mono ?_); rintro e w' ⟨rfl, ⟨nd, rfl⟩⟩; refine ⟨_, rfl, ?_⟩) | ((with_reducible refine gate_callee (f := 28) rfl ?_); refine goesL_ (some 36) rfl rfl Try.func28 (by kernel_rfl) rfl #[.int .u16 a0] rfl (by (try simp only [List.map_toArray, List.map_cons, List.map_nil]); first | done | rfl | (simp only [List.length_drop, List.length_take]; rfl)) ?_; (with_reducible refine (wide_Split.calls a0 t125 t126 _ A9.out).mono ?_); rintro e w' ⟨rfl, ⟨nd, rfl⟩⟩; refine ⟨_, rfl, ?_⟩) | ((with_reducible refine gate_callee (f := 30) rfl ?_); refine goesL_ (some 42) rfl rfl Try.func30 (by kernel_rfl) rfl #[.int .u8 a3, .int .u8 a2] rfl (by (try simp only [List.map_toArray, List.map_cons, List.map_nil]); first | done | rfl | (simp only [List.length_drop, List.length_take]; rfl)) ?_; (with_reducible refine (wide_Pair.calls a3 a2 t127 _ A10.out).mono ?_); rintro e w' ⟨rfl, ⟨nd, rfl⟩⟩; refine ⟨_, rfl, ?_⟩) | ((with_reducible refine gate_callee (f := 28) rfl ?_); refine goesL_ (some 43) rfl rfl Try.func28 (by kernel_rfl) rfl #[.int .u16 t127] rfl (by (try simp only [List.map_toArray, List.map_cons, List.map_nil]); first | done | rfl | (simp only [List.length_drop, List.length_take]; rfl)) ?_; (with_reducible refine (wide_Split.calls t127 t128 t129 _ A11.out).mono ?_); rintro e w' ⟨rfl, ⟨nd, rfl⟩⟩; refine ⟨_, rfl, ?_⟩) | ((with_reducible refine gate_callee (f := 32) rfl ?_); refine goesL_ (some 47) rfl rfl Try.func32 (by kernel_rfl) rfl #[.int .u8 a2] rfl (by (try simp only [List.map_toArray, List.map_cons, List.map_nil]); first | done | rfl | (simp only [List.length_drop, List.length_take]; rfl)) ?_; (with_reducible refine (wide_Signed.calls a2 t130 _ A12.out).mono ?_); rintro e w' ⟨rfl, ⟨nd, rfl⟩⟩; refine ⟨_, rfl, ?_⟩) | (go_at_call 30; (with_reducible refine (wide_Pair.calls t125 t126 t131 _ A14.out).mono ?_); rintro e w' ⟨rfl, ⟨nd, rfl⟩⟩))
        go_ret
        exact ⟨by first | rfl | (simp; done) | (simp [*]; done), by repeat (first | exact Drawn0.refl _ | apply Drawn0.step)⟩
    · rw [if_neg c13] at H
      have c13b0 : (t123 == a0) = false := beq_eq_false_iff_ne.mpr c13
      have c13b1 : (t123 != a0) = true := bne_iff_ne.mpr c13
      obtain rfl := Option.some.inj H
      go_enter Try.func5, Try.ntmps5
      go_wp2_with (first | ((with_reducible refine gate_callee (f := 19) rfl ?_); refine goesL_ (some 18) rfl rfl Try.func19 (by kernel_rfl) rfl #[] rfl (by (try simp only [List.map_toArray, List.map_cons, List.map_nil]); first | done | rfl | (simp only [List.length_drop, List.length_take]; rfl)) ?_; (with_reducible refine (pendulumlaw07_lives.calls  true _ A5.out).mono ?_); rintro e w' ⟨rfl, ⟨nd, rfl⟩⟩; refine ⟨_, rfl, ?_⟩) | ((with_reducible refine gate_callee (f := 20) rfl ?_); refine goesL_ (some 24) rfl rfl Try.func20 (by kernel_rfl) rfl #[.int .u16 a0, .int .u16 a1, .int .u8 a3] rfl (by (try simp only [List.map_toArray, List.map_cons, List.map_nil]); first | done | rfl | (simp only [List.length_drop, List.length_take]; rfl)) ?_; (with_reducible refine (wide_Adc.calls a0 a1 a3 t121 t122 _ A7.out).mono ?_); rintro e w' ⟨rfl, ⟨nd, rfl⟩⟩; refine ⟨_, rfl, ?_⟩) | ((with_reducible refine gate_callee (f := 22) rfl ?_); refine goesL_ (some 31) rfl rfl Try.func22 (by kernel_rfl) rfl #[.int .u16 t121, .int .u16 a1, .int .u8 a3] rfl (by (try simp only [List.map_toArray, List.map_cons, List.map_nil]); first | done | rfl | (simp only [List.length_drop, List.length_take]; rfl)) ?_; (with_reducible refine (wide_Sbc.calls t121 a1 a3 t123 t124 _ A8.out).mono ?_); rintro e w' ⟨rfl, ⟨nd, rfl⟩⟩; refine ⟨_, rfl, ?_⟩) | ((with_reducible refine gate_callee (f := 28) rfl ?_); refine goesL_ (some 36) rfl rfl Try.func28 (by kernel_rfl) rfl #[.int .u16 a0] rfl (by (try simp only [List.map_toArray, List.map_cons, List.map_nil]); first | done | rfl | (simp only [List.length_drop, List.length_take]; rfl)) ?_; (with_reducible refine (wide_Split.calls a0 t125 t126 _ A9.out).mono ?_); rintro e w' ⟨rfl, ⟨nd, rfl⟩⟩; refine ⟨_, rfl, ?_⟩) | ((with_reducible refine gate_callee (f := 30) rfl ?_); refine goesL_ (some 42) rfl rfl Try.func30 (by kernel_rfl) rfl #[.int .u8 a3, .int .u8 a2] rfl (by (try simp only [List.map_toArray, List.map_cons, List.map_nil]); first | done | rfl | (simp only [List.length_drop, List.length_take]; rfl)) ?_; (with_reducible refine (wide_Pair.calls a3 a2 t127 _ A10.out).mono ?_); rintro e w' ⟨rfl, ⟨nd, rfl⟩⟩; refine ⟨_, rfl, ?_⟩) | ((with_reducible refine gate_callee (f := 28) rfl ?_); refine goesL_ (some 43) rfl rfl Try.func28 (by kernel_rfl) rfl #[.int .u16 t127] rfl (by (try simp only [List.map_toArray, List.map_cons, List.map_nil]); first | done | rfl | (simp only [List.length_drop, List.length_take]; rfl)) ?_; (with_reducible refine (wide_Split.calls t127 t128 t129 _ A11.out).mono ?_); rintro e w' ⟨rfl, ⟨nd, rfl⟩⟩; refine ⟨_, rfl, ?_⟩) | ((with_reducible refine gate_callee (f := 32) rfl ?_); refine goesL_ (some 47) rfl rfl Try.func32 (by kernel_rfl) rfl #[.int .u8 a2] rfl (by (try simp only [List.map_toArray, List.map_cons, List.map_nil]); first | done | rfl | (simp only [List.length_drop, List.length_take]; rfl)) ?_; (with_reducible refine (wide_Signed.calls a2 t130 _ A12.out).mono ?_); rintro e w' ⟨rfl, ⟨nd, rfl⟩⟩; refine ⟨_, rfl, ?_⟩))
      go_ret
      exact ⟨by first | rfl | (simp; done) | (simp [*]; done), by repeat (first | exact Drawn0.refl _ | apply Drawn0.step)⟩
  · replace c6 := Bool.eq_false_iff.mpr c6
    subst c6
    have H1 : (some false) = some r := by rw [if_neg (show ¬ (false = true) by decide)] at H; exact H
    clear H
    have H := H1
    clear H1
    obtain rfl := Option.some.inj H
    go_enter Try.func5, Try.ntmps5
    go_wp2_with (first | ((with_reducible refine gate_callee (f := 19) rfl ?_); refine goesL_ (some 18) rfl rfl Try.func19 (by kernel_rfl) rfl #[] rfl (by (try simp only [List.map_toArray, List.map_cons, List.map_nil]); first | done | rfl | (simp only [List.length_drop, List.length_take]; rfl)) ?_; (with_reducible refine (pendulumlaw07_lives.calls  false _ A5.out).mono ?_); rintro e w' ⟨rfl, ⟨nd, rfl⟩⟩; refine ⟨_, rfl, ?_⟩))
    go_ret
    exact ⟨by first | rfl | (simp; done) | (simp [*]; done), by repeat (first | exact Drawn0.refl _ | apply Drawn0.step)⟩

/-- THE ONE PURE STATEMENT of pendulumlaw07_WideBack: yours. -/
def pendulumlaw07_WideBack.Pure : Prop := ∀ (a0 : Int) (a1 : Int) (a2 : Int) (a3 : Int), (Lit.int .u16 a0).wf = true → (Lit.int .u16 a1).wf = true → (Lit.int .u8 a2).wf = true → (Lit.int .u8 a3).wf = true → pendulumlaw07_WideBack.f a0 a1 a2 a3 = some true
theorem pendulumlaw07_WideBack.walk (P : pendulumlaw07_WideBack.Pure) (a0 : Int) (a1 : Int) (a2 : Int) (a3 : Int) (w : World) (w0 : (Lit.int .u16 a0).wf = true) (w1 : (Lit.int .u16 a1).wf = true) (w2 : (Lit.int .u8 a2).wf = true) (w3 : (Lit.int .u8 a3).wf = true) :
    Calls Try.prog 5 #[.int .u16 a0, .int .u16 a1, .int .u8 a2, .int .u8 a3] w fun e w' => e = .returned (.bool true) ∧ Below w.heap.size w w' := by
  have h := P a0 a1 a2 a3 w0 w1 w2 w3
  refine (pendulumlaw07_WideBack.calls a0 a1 a2 a3 true w h).mono ?_
  rintro e w' ⟨rfl, hd⟩
  exact ⟨rfl, hd.below⟩

end Go.Proofs.Ytpmmneipfmbmlaa.HWideBack
