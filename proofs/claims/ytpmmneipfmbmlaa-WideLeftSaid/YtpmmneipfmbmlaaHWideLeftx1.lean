-- Written by a program of this session out of Lean's print of the program (after the form of the kit's print.sh, with own turns); Lean checks it.
import Derived.Test.YtpmmneipfmbmlaaHWideLeftx0
namespace Go.Proofs.Ytpmmneipfmbmlaa.HWideLeft
open Go.RowKit Go.Proofs.YtpmmneipfmbmlaaW.PrintWords Go.Proofs.YtpmmneipfmbmlaaW.PrintLast Go.Proofs.YtpmmneipfmbmlaaW.PrintMore
attribute [local go_sem] max2_int min2_int max_two min_two max_three min_three max_four min_four   -- for this text's walks alone
set_option linter.unusedVariables false
set_option linter.unusedSimpArgs false

/-! ### wide_if1: function 81 -/
def wide_if1.f (a0 : Bool) (a1 : Int) : Option (Int) := if a0 = true then (some a1) else (some 0)
set_option maxHeartbeats 8000000 in
set_option maxRecDepth 100000 in
theorem wide_if1.calls (a0 : Bool) (a1 : Int) (r : Int) (w : World) (h : wide_if1.f a0 a1 = some r) :
    Calls Try.prog 81 #[.bool a0, .int .u8 a1] w fun e w' => e = .returned (.int .u8 r) ∧ Drawn0 w w' := by
  have H : (if a0 = true then (some a1) else (some 0)) = some r := h
  clear h
  by_cases c3 : a0 = true
  · subst c3
    have H1 : (some a1) = some r := by rw [if_pos rfl] at H; exact H
    clear H
    have H := H1
    clear H1
    obtain rfl := Option.some.inj H
    go_enter Try.func81, Try.ntmps81
    go_wp2
    go_ret
    exact ⟨by first | rfl | (simp; done) | (simp [*]; done), by repeat (first | exact Drawn0.refl _ | apply Drawn0.step)⟩
  · replace c3 := Bool.eq_false_iff.mpr c3
    subst c3
    have H1 : (some 0) = some r := by rw [if_neg (show ¬ (false = true) by decide)] at H; exact H
    clear H
    have H := H1
    clear H1
    obtain rfl := Option.some.inj H
    go_enter Try.func81, Try.ntmps81
    go_wp2
    go_ret
    exact ⟨by first | rfl | (simp; done) | (simp [*]; done), by repeat (first | exact Drawn0.refl _ | apply Drawn0.step)⟩

/-! ### wide_all: function 80 -/
def wide_all.f (a0 : Int) : Option (Int) := (wide_if1.f (a0 == 0) 64).bind fun t101 => (some (Go.bits .or .u8 (Go.bits .and .u8 ((a0 / 256) % 256) 168) t101))
set_option maxHeartbeats 8000000 in
set_option maxRecDepth 100000 in
theorem wide_all.calls (a0 : Int) (r : Int) (w : World) (h : wide_all.f a0 = some r) :
    Calls Try.prog 80 #[.int .u16 a0] w fun e w' => e = .returned (.int .u8 r) ∧ Drawn0 w w' := by
  have H : ((wide_if1.f (a0 == 0) 64).bind fun t101 => (some (Go.bits .or .u8 (Go.bits .and .u8 ((a0 / 256) % 256) 168) t101))) = some r := h
  clear h
  replace H := Option.bind_eq_some_iff.mp H
  obtain ⟨t101, A20, H⟩ := H
  replace H : (some (Go.bits .or .u8 (Go.bits .and .u8 ((a0 / 256) % 256) 168) t101)) = some r := H
  have A2 := Aside0.mk A20
  clear A20
  obtain rfl := Option.some.inj H
  go_enter Try.func80, Try.ntmps80
  go_wp2_with (first | ((with_reducible refine gate_callee (f := 81) rfl ?_); refine goesL_ (some 9) rfl rfl Try.func81 (by kernel_rfl) rfl #[.bool (a0 == 0), .int .u8 64] rfl (by (try simp only [List.map_toArray, List.map_cons, List.map_nil]); first | done | rfl | (simp only [List.length_drop, List.length_take]; rfl)) ?_; (with_reducible refine (wide_if1.calls (a0 == 0) 64 t101 _ A2.out).mono ?_); rintro e w' ⟨rfl, ⟨nd, rfl⟩⟩; refine ⟨_, rfl, ?_⟩))
  go_ret
  exact ⟨by first | rfl | (simp; done) | (simp [*]; done), by repeat (first | exact Drawn0.refl _ | apply Drawn0.step)⟩

/-! ### wide_Adc: function 20 -/
def wide_Adc.f (a0 : Int) (a1 : Int) (a2 : Int) : Option (Int × Int) := (wide_all.f (IntKind.u16.wrap (wrap64 ((wrap64 ((wrap64 (a0)) + (wrap64 (a1)))) + (wrap64 (Go.bits .and .u8 a2 1)))))).bind fun t102 => ((wide_if1.f (decide ((wrap64 ((wrap64 ((wrap64 (a0)) + (wrap64 (a1)))) + (wrap64 (Go.bits .and .u8 a2 1)))) > 65535)) 1).bind fun t103 => ((wide_if1.f (decide ((wrap64 ((wrap64 ((wrap64 (Go.bits .and .u16 a0 4095)) + (wrap64 (Go.bits .and .u16 a1 4095)))) + (wrap64 (Go.bits .and .u8 a2 1)))) > 4095)) 16).bind fun t104 => (if (wrap64 ((wrap64 ((wrap64 (IntKind.i16.wrap (a0))) + (wrap64 (IntKind.i16.wrap (a1))))) + (wrap64 (Go.bits .and .u8 a2 1)))) < (-32768) then ((wide_if1.f true 4).bind fun t105 => (some (IntKind.u16.wrap (wrap64 ((wrap64 ((wrap64 (a0)) + (wrap64 (a1)))) + (wrap64 (Go.bits .and .u8 a2 1)))), Go.bits .or .u8 (Go.bits .or .u8 (Go.bits .or .u8 t102 t103) t104) t105))) else ((wide_if1.f (decide ((wrap64 ((wrap64 ((wrap64 (IntKind.i16.wrap (a0))) + (wrap64 (IntKind.i16.wrap (a1))))) + (wrap64 (Go.bits .and .u8 a2 1)))) ≥ 32768)) 4).bind fun t106 => (some (IntKind.u16.wrap (wrap64 ((wrap64 ((wrap64 (a0)) + (wrap64 (a1)))) + (wrap64 (Go.bits .and .u8 a2 1)))), Go.bits .or .u8 (Go.bits .or .u8 (Go.bits .or .u8 t102 t103) t104) t106))))))
set_option maxHeartbeats 8000000 in
set_option maxRecDepth 100000 in
theorem wide_Adc.calls (a0 : Int) (a1 : Int) (a2 : Int) (r1 : Int) (r2 : Int) (w : World) (h : wide_Adc.f a0 a1 a2 = some (r1, r2)) :
    Calls Try.prog 20 #[.int .u16 a0, .int .u16 a1, .int .u8 a2] w fun e w' => e = .returned (.tuple #[.int .u16 r1, .int .u8 r2]) ∧ Drawn0 w w' := by
  have H : ((wide_all.f (IntKind.u16.wrap (wrap64 ((wrap64 ((wrap64 (a0)) + (wrap64 (a1)))) + (wrap64 (Go.bits .and .u8 a2 1)))))).bind fun t102 => ((wide_if1.f (decide ((wrap64 ((wrap64 ((wrap64 (a0)) + (wrap64 (a1)))) + (wrap64 (Go.bits .and .u8 a2 1)))) > 65535)) 1).bind fun t103 => ((wide_if1.f (decide ((wrap64 ((wrap64 ((wrap64 (Go.bits .and .u16 a0 4095)) + (wrap64 (Go.bits .and .u16 a1 4095)))) + (wrap64 (Go.bits .and .u8 a2 1)))) > 4095)) 16).bind fun t104 => (if (wrap64 ((wrap64 ((wrap64 (IntKind.i16.wrap (a0))) + (wrap64 (IntKind.i16.wrap (a1))))) + (wrap64 (Go.bits .and .u8 a2 1)))) < (-32768) then ((wide_if1.f true 4).bind fun t105 => (some (IntKind.u16.wrap (wrap64 ((wrap64 ((wrap64 (a0)) + (wrap64 (a1)))) + (wrap64 (Go.bits .and .u8 a2 1)))), Go.bits .or .u8 (Go.bits .or .u8 (Go.bits .or .u8 t102 t103) t104) t105))) else ((wide_if1.f (decide ((wrap64 ((wrap64 ((wrap64 (IntKind.i16.wrap (a0))) + (wrap64 (IntKind.i16.wrap (a1))))) + (wrap64 (Go.bits .and .u8 a2 1)))) ≥ 32768)) 4).bind fun t106 => (some (IntKind.u16.wrap (wrap64 ((wrap64 ((wrap64 (a0)) + (wrap64 (a1)))) + (wrap64 (Go.bits .and .u8 a2 1)))), Go.bits .or .u8 (Go.bits .or .u8 (Go.bits .or .u8 t102 t103) t104) t106))))))) = some (r1, r2) := h
  clear h
  replace H := Option.bind_eq_some_iff.mp H
  obtain ⟨t102, A40, H⟩ := H
  replace H : ((wide_if1.f (decide ((wrap64 ((wrap64 ((wrap64 (a0)) + (wrap64 (a1)))) + (wrap64 (Go.bits .and .u8 a2 1)))) > 65535)) 1).bind fun t103 => ((wide_if1.f (decide ((wrap64 ((wrap64 ((wrap64 (Go.bits .and .u16 a0 4095)) + (wrap64 (Go.bits .and .u16 a1 4095)))) + (wrap64 (Go.bits .and .u8 a2 1)))) > 4095)) 16).bind fun t104 => (if (wrap64 ((wrap64 ((wrap64 (IntKind.i16.wrap (a0))) + (wrap64 (IntKind.i16.wrap (a1))))) + (wrap64 (Go.bits .and .u8 a2 1)))) < (-32768) then ((wide_if1.f true 4).bind fun t105 => (some (IntKind.u16.wrap (wrap64 ((wrap64 ((wrap64 (a0)) + (wrap64 (a1)))) + (wrap64 (Go.bits .and .u8 a2 1)))), Go.bits .or .u8 (Go.bits .or .u8 (Go.bits .or .u8 t102 t103) t104) t105))) else ((wide_if1.f (decide ((wrap64 ((wrap64 ((wrap64 (IntKind.i16.wrap (a0))) + (wrap64 (IntKind.i16.wrap (a1))))) + (wrap64 (Go.bits .and .u8 a2 1)))) ≥ 32768)) 4).bind fun t106 => (some (IntKind.u16.wrap (wrap64 ((wrap64 ((wrap64 (a0)) + (wrap64 (a1)))) + (wrap64 (Go.bits .and .u8 a2 1)))), Go.bits .or .u8 (Go.bits .or .u8 (Go.bits .or .u8 t102 t103) t104) t106)))))) = some (r1, r2) := H
  have A4 := Aside0.mk A40
  clear A40
  replace H := Option.bind_eq_some_iff.mp H
  obtain ⟨t103, A50, H⟩ := H
  replace H : ((wide_if1.f (decide ((wrap64 ((wrap64 ((wrap64 (Go.bits .and .u16 a0 4095)) + (wrap64 (Go.bits .and .u16 a1 4095)))) + (wrap64 (Go.bits .and .u8 a2 1)))) > 4095)) 16).bind fun t104 => (if (wrap64 ((wrap64 ((wrap64 (IntKind.i16.wrap (a0))) + (wrap64 (IntKind.i16.wrap (a1))))) + (wrap64 (Go.bits .and .u8 a2 1)))) < (-32768) then ((wide_if1.f true 4).bind fun t105 => (some (IntKind.u16.wrap (wrap64 ((wrap64 ((wrap64 (a0)) + (wrap64 (a1)))) + (wrap64 (Go.bits .and .u8 a2 1)))), Go.bits .or .u8 (Go.bits .or .u8 (Go.bits .or .u8 t102 t103) t104) t105))) else ((wide_if1.f (decide ((wrap64 ((wrap64 ((wrap64 (IntKind.i16.wrap (a0))) + (wrap64 (IntKind.i16.wrap (a1))))) + (wrap64 (Go.bits .and .u8 a2 1)))) ≥ 32768)) 4).bind fun t106 => (some (IntKind.u16.wrap (wrap64 ((wrap64 ((wrap64 (a0)) + (wrap64 (a1)))) + (wrap64 (Go.bits .and .u8 a2 1)))), Go.bits .or .u8 (Go.bits .or .u8 (Go.bits .or .u8 t102 t103) t104) t106))))) = some (r1, r2) := H
  have A5 := Aside0.mk A50
  clear A50
  replace H := Option.bind_eq_some_iff.mp H
  obtain ⟨t104, A60, H⟩ := H
  replace H : (if (wrap64 ((wrap64 ((wrap64 (IntKind.i16.wrap (a0))) + (wrap64 (IntKind.i16.wrap (a1))))) + (wrap64 (Go.bits .and .u8 a2 1)))) < (-32768) then ((wide_if1.f true 4).bind fun t105 => (some (IntKind.u16.wrap (wrap64 ((wrap64 ((wrap64 (a0)) + (wrap64 (a1)))) + (wrap64 (Go.bits .and .u8 a2 1)))), Go.bits .or .u8 (Go.bits .or .u8 (Go.bits .or .u8 t102 t103) t104) t105))) else ((wide_if1.f (decide ((wrap64 ((wrap64 ((wrap64 (IntKind.i16.wrap (a0))) + (wrap64 (IntKind.i16.wrap (a1))))) + (wrap64 (Go.bits .and .u8 a2 1)))) ≥ 32768)) 4).bind fun t106 => (some (IntKind.u16.wrap (wrap64 ((wrap64 ((wrap64 (a0)) + (wrap64 (a1)))) + (wrap64 (Go.bits .and .u8 a2 1)))), Go.bits .or .u8 (Go.bits .or .u8 (Go.bits .or .u8 t102 t103) t104) t106)))) = some (r1, r2) := H
  have A6 := Aside0.mk A60
  clear A60
  by_cases c7 : (wrap64 ((wrap64 ((wrap64 (IntKind.i16.wrap (a0))) + (wrap64 (IntKind.i16.wrap (a1))))) + (wrap64 (Go.bits .and .u8 a2 1)))) < (-32768)
  · rw [if_pos c7] at H
    have c7b0 : decide ((wrap64 ((wrap64 ((wrap64 (IntKind.i16.wrap (a0))) + (wrap64 (IntKind.i16.wrap (a1))))) + (wrap64 (Go.bits .and .u8 a2 1)))) < (-32768)) = true := decide_eq_true c7
    clear c7
    replace H := Option.bind_eq_some_iff.mp H
    obtain ⟨t105, A80, H⟩ := H
    replace H : (some (IntKind.u16.wrap (wrap64 ((wrap64 ((wrap64 (a0)) + (wrap64 (a1)))) + (wrap64 (Go.bits .and .u8 a2 1)))), Go.bits .or .u8 (Go.bits .or .u8 (Go.bits .or .u8 t102 t103) t104) t105)) = some (r1, r2) := H
    have A8 := Aside0.mk A80
    clear A80
    simp only [Option.some.injEq, Prod.mk.injEq] at H
    obtain ⟨rfl, rfl⟩ := H
    go_enter Try.func20, Try.ntmps20
    go_wp2_with (first | ((with_reducible refine gate_callee (f := 80) rfl ?_); refine goesL_ (some 34) rfl rfl Try.func80 (by kernel_rfl) rfl #[.int .u16 (IntKind.u16.wrap (wrap64 ((wrap64 ((wrap64 (a0)) + (wrap64 (a1)))) + (wrap64 (Go.bits .and .u8 a2 1)))))] rfl (by (try simp only [List.map_toArray, List.map_cons, List.map_nil]); first | done | rfl | (simp only [List.length_drop, List.length_take]; rfl)) ?_; (with_reducible refine (wide_all.calls (IntKind.u16.wrap (wrap64 ((wrap64 ((wrap64 (a0)) + (wrap64 (a1)))) + (wrap64 (Go.bits .and .u8 a2 1))))) t102 _ A4.out).mono ?_); rintro e w' ⟨rfl, ⟨nd, rfl⟩⟩; refine ⟨_, rfl, ?_⟩) | ((with_reducible refine gate_callee (f := 81) rfl ?_); refine goesL_ (some 37) rfl rfl Try.func81 (by kernel_rfl) rfl #[.bool (decide ((wrap64 ((wrap64 ((wrap64 (a0)) + (wrap64 (a1)))) + (wrap64 (Go.bits .and .u8 a2 1)))) > 65535)), .int .u8 1] rfl (by (try simp only [List.map_toArray, List.map_cons, List.map_nil]); first | done | rfl | (simp only [List.length_drop, List.length_take]; rfl)) ?_; (with_reducible refine (wide_if1.calls (decide ((wrap64 ((wrap64 ((wrap64 (a0)) + (wrap64 (a1)))) + (wrap64 (Go.bits .and .u8 a2 1)))) > 65535)) 1 t103 _ A5.out).mono ?_); rintro e w' ⟨rfl, ⟨nd, rfl⟩⟩; refine ⟨_, rfl, ?_⟩) | ((with_reducible refine gate_callee (f := 81) rfl ?_); refine goesL_ (some 49) rfl rfl Try.func81 (by kernel_rfl) rfl #[.bool (decide ((wrap64 ((wrap64 ((wrap64 (Go.bits .and .u16 a0 4095)) + (wrap64 (Go.bits .and .u16 a1 4095)))) + (wrap64 (Go.bits .and .u8 a2 1)))) > 4095)), .int .u8 16] rfl (by (try simp only [List.map_toArray, List.map_cons, List.map_nil]); first | done | rfl | (simp only [List.length_drop, List.length_take]; rfl)) ?_; (with_reducible refine (wide_if1.calls (decide ((wrap64 ((wrap64 ((wrap64 (Go.bits .and .u16 a0 4095)) + (wrap64 (Go.bits .and .u16 a1 4095)))) + (wrap64 (Go.bits .and .u8 a2 1)))) > 4095)) 16 t104 _ A6.out).mono ?_); rintro e w' ⟨rfl, ⟨nd, rfl⟩⟩; refine ⟨_, rfl, ?_⟩) | ((with_reducible refine gate_callee (f := 81) rfl ?_); refine goesL_ (some 57) rfl rfl Try.func81 (by kernel_rfl) rfl #[.bool true, .int .u8 4] rfl (by (try simp only [List.map_toArray, List.map_cons, List.map_nil]); first | done | rfl | (simp only [List.length_drop, List.length_take]; rfl)) ?_; (with_reducible refine (wide_if1.calls true 4 t105 _ A8.out).mono ?_); rintro e w' ⟨rfl, ⟨nd, rfl⟩⟩; refine ⟨_, rfl, ?_⟩))
    go_ret2
    exact ⟨by first | rfl | (simp; done) | (simp [*]; done), by repeat (first | exact Drawn0.refl _ | apply Drawn0.step)⟩
  · rw [if_neg c7] at H
    have c7b0 : decide ((wrap64 ((wrap64 ((wrap64 (IntKind.i16.wrap (a0))) + (wrap64 (IntKind.i16.wrap (a1))))) + (wrap64 (Go.bits .and .u8 a2 1)))) < (-32768)) = false := decide_eq_false c7
    clear c7
    replace H := Option.bind_eq_some_iff.mp H
    obtain ⟨t106, A90, H⟩ := H
    replace H : (some (IntKind.u16.wrap (wrap64 ((wrap64 ((wrap64 (a0)) + (wrap64 (a1)))) + (wrap64 (Go.bits .and .u8 a2 1)))), Go.bits .or .u8 (Go.bits .or .u8 (Go.bits .or .u8 t102 t103) t104) t106)) = some (r1, r2) := H
    have A9 := Aside0.mk A90
    clear A90
    simp only [Option.some.injEq, Prod.mk.injEq] at H
    obtain ⟨rfl, rfl⟩ := H
    go_enter Try.func20, Try.ntmps20
    go_wp2_with (first | ((with_reducible refine gate_callee (f := 80) rfl ?_); refine goesL_ (some 34) rfl rfl Try.func80 (by kernel_rfl) rfl #[.int .u16 (IntKind.u16.wrap (wrap64 ((wrap64 ((wrap64 (a0)) + (wrap64 (a1)))) + (wrap64 (Go.bits .and .u8 a2 1)))))] rfl (by (try simp only [List.map_toArray, List.map_cons, List.map_nil]); first | done | rfl | (simp only [List.length_drop, List.length_take]; rfl)) ?_; (with_reducible refine (wide_all.calls (IntKind.u16.wrap (wrap64 ((wrap64 ((wrap64 (a0)) + (wrap64 (a1)))) + (wrap64 (Go.bits .and .u8 a2 1))))) t102 _ A4.out).mono ?_); rintro e w' ⟨rfl, ⟨nd, rfl⟩⟩; refine ⟨_, rfl, ?_⟩) | ((with_reducible refine gate_callee (f := 81) rfl ?_); refine goesL_ (some 37) rfl rfl Try.func81 (by kernel_rfl) rfl #[.bool (decide ((wrap64 ((wrap64 ((wrap64 (a0)) + (wrap64 (a1)))) + (wrap64 (Go.bits .and .u8 a2 1)))) > 65535)), .int .u8 1] rfl (by (try simp only [List.map_toArray, List.map_cons, List.map_nil]); first | done | rfl | (simp only [List.length_drop, List.length_take]; rfl)) ?_; (with_reducible refine (wide_if1.calls (decide ((wrap64 ((wrap64 ((wrap64 (a0)) + (wrap64 (a1)))) + (wrap64 (Go.bits .and .u8 a2 1)))) > 65535)) 1 t103 _ A5.out).mono ?_); rintro e w' ⟨rfl, ⟨nd, rfl⟩⟩; refine ⟨_, rfl, ?_⟩) | ((with_reducible refine gate_callee (f := 81) rfl ?_); refine goesL_ (some 49) rfl rfl Try.func81 (by kernel_rfl) rfl #[.bool (decide ((wrap64 ((wrap64 ((wrap64 (Go.bits .and .u16 a0 4095)) + (wrap64 (Go.bits .and .u16 a1 4095)))) + (wrap64 (Go.bits .and .u8 a2 1)))) > 4095)), .int .u8 16] rfl (by (try simp only [List.map_toArray, List.map_cons, List.map_nil]); first | done | rfl | (simp only [List.length_drop, List.length_take]; rfl)) ?_; (with_reducible refine (wide_if1.calls (decide ((wrap64 ((wrap64 ((wrap64 (Go.bits .and .u16 a0 4095)) + (wrap64 (Go.bits .and .u16 a1 4095)))) + (wrap64 (Go.bits .and .u8 a2 1)))) > 4095)) 16 t104 _ A6.out).mono ?_); rintro e w' ⟨rfl, ⟨nd, rfl⟩⟩; refine ⟨_, rfl, ?_⟩) | ((with_reducible refine gate_callee (f := 81) rfl ?_); refine goesL_ (some 57) rfl rfl Try.func81 (by kernel_rfl) rfl #[.bool (decide ((wrap64 ((wrap64 ((wrap64 (IntKind.i16.wrap (a0))) + (wrap64 (IntKind.i16.wrap (a1))))) + (wrap64 (Go.bits .and .u8 a2 1)))) ≥ 32768)), .int .u8 4] rfl (by (try simp only [List.map_toArray, List.map_cons, List.map_nil]); first | done | rfl | (simp only [List.length_drop, List.length_take]; rfl)) ?_; (with_reducible refine (wide_if1.calls (decide ((wrap64 ((wrap64 ((wrap64 (IntKind.i16.wrap (a0))) + (wrap64 (IntKind.i16.wrap (a1))))) + (wrap64 (Go.bits .and .u8 a2 1)))) ≥ 32768)) 4 t106 _ A9.out).mono ?_); rintro e w' ⟨rfl, ⟨nd, rfl⟩⟩; refine ⟨_, rfl, ?_⟩))
    go_ret2
    exact ⟨by first | rfl | (simp; done) | (simp [*]; done), by repeat (first | exact Drawn0.refl _ | apply Drawn0.step)⟩

/-! ### wide_Sbc: function 22 -/
def wide_Sbc.f (a0 : Int) (a1 : Int) (a2 : Int) : Option (Int × Int) := (wide_all.f (IntKind.u16.wrap (wrap64 ((wrap64 ((wrap64 (a0)) - (wrap64 (a1)))) - (wrap64 (Go.bits .and .u8 a2 1)))))).bind fun t107 => ((wide_if1.f (decide ((wrap64 ((wrap64 ((wrap64 (a0)) - (wrap64 (a1)))) - (wrap64 (Go.bits .and .u8 a2 1)))) < 0)) 1).bind fun t108 => ((wide_if1.f (decide ((wrap64 ((wrap64 ((wrap64 (Go.bits .and .u16 a0 4095)) - (wrap64 (Go.bits .and .u16 a1 4095)))) - (wrap64 (Go.bits .and .u8 a2 1)))) < 0)) 16).bind fun t109 => (if (wrap64 ((wrap64 ((wrap64 (IntKind.i16.wrap (a0))) - (wrap64 (IntKind.i16.wrap (a1))))) - (wrap64 (Go.bits .and .u8 a2 1)))) < (-32768) then ((wide_if1.f true 4).bind fun t110 => (some (IntKind.u16.wrap (wrap64 ((wrap64 ((wrap64 (a0)) - (wrap64 (a1)))) - (wrap64 (Go.bits .and .u8 a2 1)))), Go.bits .or .u8 (Go.bits .or .u8 (Go.bits .or .u8 (Go.bits .or .u8 t107 2) t108) t109) t110))) else ((wide_if1.f (decide ((wrap64 ((wrap64 ((wrap64 (IntKind.i16.wrap (a0))) - (wrap64 (IntKind.i16.wrap (a1))))) - (wrap64 (Go.bits .and .u8 a2 1)))) ≥ 32768)) 4).bind fun t111 => (some (IntKind.u16.wrap (wrap64 ((wrap64 ((wrap64 (a0)) - (wrap64 (a1)))) - (wrap64 (Go.bits .and .u8 a2 1)))), Go.bits .or .u8 (Go.bits .or .u8 (Go.bits .or .u8 (Go.bits .or .u8 t107 2) t108) t109) t111))))))
set_option maxHeartbeats 8000000 in
set_option maxRecDepth 100000 in
theorem wide_Sbc.calls (a0 : Int) (a1 : Int) (a2 : Int) (r1 : Int) (r2 : Int) (w : World) (h : wide_Sbc.f a0 a1 a2 = some (r1, r2)) :
    Calls Try.prog 22 #[.int .u16 a0, .int .u16 a1, .int .u8 a2] w fun e w' => e = .returned (.tuple #[.int .u16 r1, .int .u8 r2]) ∧ Drawn0 w w' := by
  have H : ((wide_all.f (IntKind.u16.wrap (wrap64 ((wrap64 ((wrap64 (a0)) - (wrap64 (a1)))) - (wrap64 (Go.bits .and .u8 a2 1)))))).bind fun t107 => ((wide_if1.f (decide ((wrap64 ((wrap64 ((wrap64 (a0)) - (wrap64 (a1)))) - (wrap64 (Go.bits .and .u8 a2 1)))) < 0)) 1).bind fun t108 => ((wide_if1.f (decide ((wrap64 ((wrap64 ((wrap64 (Go.bits .and .u16 a0 4095)) - (wrap64 (Go.bits .and .u16 a1 4095)))) - (wrap64 (Go.bits .and .u8 a2 1)))) < 0)) 16).bind fun t109 => (if (wrap64 ((wrap64 ((wrap64 (IntKind.i16.wrap (a0))) - (wrap64 (IntKind.i16.wrap (a1))))) - (wrap64 (Go.bits .and .u8 a2 1)))) < (-32768) then ((wide_if1.f true 4).bind fun t110 => (some (IntKind.u16.wrap (wrap64 ((wrap64 ((wrap64 (a0)) - (wrap64 (a1)))) - (wrap64 (Go.bits .and .u8 a2 1)))), Go.bits .or .u8 (Go.bits .or .u8 (Go.bits .or .u8 (Go.bits .or .u8 t107 2) t108) t109) t110))) else ((wide_if1.f (decide ((wrap64 ((wrap64 ((wrap64 (IntKind.i16.wrap (a0))) - (wrap64 (IntKind.i16.wrap (a1))))) - (wrap64 (Go.bits .and .u8 a2 1)))) ≥ 32768)) 4).bind fun t111 => (some (IntKind.u16.wrap (wrap64 ((wrap64 ((wrap64 (a0)) - (wrap64 (a1)))) - (wrap64 (Go.bits .and .u8 a2 1)))), Go.bits .or .u8 (Go.bits .or .u8 (Go.bits .or .u8 (Go.bits .or .u8 t107 2) t108) t109) t111))))))) = some (r1, r2) := h
  clear h
  replace H := Option.bind_eq_some_iff.mp H
  obtain ⟨t107, A40, H⟩ := H
  replace H : ((wide_if1.f (decide ((wrap64 ((wrap64 ((wrap64 (a0)) - (wrap64 (a1)))) - (wrap64 (Go.bits .and .u8 a2 1)))) < 0)) 1).bind fun t108 => ((wide_if1.f (decide ((wrap64 ((wrap64 ((wrap64 (Go.bits .and .u16 a0 4095)) - (wrap64 (Go.bits .and .u16 a1 4095)))) - (wrap64 (Go.bits .and .u8 a2 1)))) < 0)) 16).bind fun t109 => (if (wrap64 ((wrap64 ((wrap64 (IntKind.i16.wrap (a0))) - (wrap64 (IntKind.i16.wrap (a1))))) - (wrap64 (Go.bits .and .u8 a2 1)))) < (-32768) then ((wide_if1.f true 4).bind fun t110 => (some (IntKind.u16.wrap (wrap64 ((wrap64 ((wrap64 (a0)) - (wrap64 (a1)))) - (wrap64 (Go.bits .and .u8 a2 1)))), Go.bits .or .u8 (Go.bits .or .u8 (Go.bits .or .u8 (Go.bits .or .u8 t107 2) t108) t109) t110))) else ((wide_if1.f (decide ((wrap64 ((wrap64 ((wrap64 (IntKind.i16.wrap (a0))) - (wrap64 (IntKind.i16.wrap (a1))))) - (wrap64 (Go.bits .and .u8 a2 1)))) ≥ 32768)) 4).bind fun t111 => (some (IntKind.u16.wrap (wrap64 ((wrap64 ((wrap64 (a0)) - (wrap64 (a1)))) - (wrap64 (Go.bits .and .u8 a2 1)))), Go.bits .or .u8 (Go.bits .or .u8 (Go.bits .or .u8 (Go.bits .or .u8 t107 2) t108) t109) t111)))))) = some (r1, r2) := H
  have A4 := Aside0.mk A40
  clear A40
  replace H := Option.bind_eq_some_iff.mp H
  obtain ⟨t108, A50, H⟩ := H
  replace H : ((wide_if1.f (decide ((wrap64 ((wrap64 ((wrap64 (Go.bits .and .u16 a0 4095)) - (wrap64 (Go.bits .and .u16 a1 4095)))) - (wrap64 (Go.bits .and .u8 a2 1)))) < 0)) 16).bind fun t109 => (if (wrap64 ((wrap64 ((wrap64 (IntKind.i16.wrap (a0))) - (wrap64 (IntKind.i16.wrap (a1))))) - (wrap64 (Go.bits .and .u8 a2 1)))) < (-32768) then ((wide_if1.f true 4).bind fun t110 => (some (IntKind.u16.wrap (wrap64 ((wrap64 ((wrap64 (a0)) - (wrap64 (a1)))) - (wrap64 (Go.bits .and .u8 a2 1)))), Go.bits .or .u8 (Go.bits .or .u8 (Go.bits .or .u8 (Go.bits .or .u8 t107 2) t108) t109) t110))) else ((wide_if1.f (decide ((wrap64 ((wrap64 ((wrap64 (IntKind.i16.wrap (a0))) - (wrap64 (IntKind.i16.wrap (a1))))) - (wrap64 (Go.bits .and .u8 a2 1)))) ≥ 32768)) 4).bind fun t111 => (some (IntKind.u16.wrap (wrap64 ((wrap64 ((wrap64 (a0)) - (wrap64 (a1)))) - (wrap64 (Go.bits .and .u8 a2 1)))), Go.bits .or .u8 (Go.bits .or .u8 (Go.bits .or .u8 (Go.bits .or .u8 t107 2) t108) t109) t111))))) = some (r1, r2) := H
  have A5 := Aside0.mk A50
  clear A50
  replace H := Option.bind_eq_some_iff.mp H
  obtain ⟨t109, A60, H⟩ := H
  replace H : (if (wrap64 ((wrap64 ((wrap64 (IntKind.i16.wrap (a0))) - (wrap64 (IntKind.i16.wrap (a1))))) - (wrap64 (Go.bits .and .u8 a2 1)))) < (-32768) then ((wide_if1.f true 4).bind fun t110 => (some (IntKind.u16.wrap (wrap64 ((wrap64 ((wrap64 (a0)) - (wrap64 (a1)))) - (wrap64 (Go.bits .and .u8 a2 1)))), Go.bits .or .u8 (Go.bits .or .u8 (Go.bits .or .u8 (Go.bits .or .u8 t107 2) t108) t109) t110))) else ((wide_if1.f (decide ((wrap64 ((wrap64 ((wrap64 (IntKind.i16.wrap (a0))) - (wrap64 (IntKind.i16.wrap (a1))))) - (wrap64 (Go.bits .and .u8 a2 1)))) ≥ 32768)) 4).bind fun t111 => (some (IntKind.u16.wrap (wrap64 ((wrap64 ((wrap64 (a0)) - (wrap64 (a1)))) - (wrap64 (Go.bits .and .u8 a2 1)))), Go.bits .or .u8 (Go.bits .or .u8 (Go.bits .or .u8 (Go.bits .or .u8 t107 2) t108) t109) t111)))) = some (r1, r2) := H
  have A6 := Aside0.mk A60
  clear A60
  by_cases c7 : (wrap64 ((wrap64 ((wrap64 (IntKind.i16.wrap (a0))) - (wrap64 (IntKind.i16.wrap (a1))))) - (wrap64 (Go.bits .and .u8 a2 1)))) < (-32768)
  · rw [if_pos c7] at H
    have c7b0 : decide ((wrap64 ((wrap64 ((wrap64 (IntKind.i16.wrap (a0))) - (wrap64 (IntKind.i16.wrap (a1))))) - (wrap64 (Go.bits .and .u8 a2 1)))) < (-32768)) = true := decide_eq_true c7
    clear c7
    replace H := Option.bind_eq_some_iff.mp H
    obtain ⟨t110, A80, H⟩ := H
    replace H : (some (IntKind.u16.wrap (wrap64 ((wrap64 ((wrap64 (a0)) - (wrap64 (a1)))) - (wrap64 (Go.bits .and .u8 a2 1)))), Go.bits .or .u8 (Go.bits .or .u8 (Go.bits .or .u8 (Go.bits .or .u8 t107 2) t108) t109) t110)) = some (r1, r2) := H
    have A8 := Aside0.mk A80
    clear A80
    simp only [Option.some.injEq, Prod.mk.injEq] at H
    obtain ⟨rfl, rfl⟩ := H
    go_enter Try.func22, Try.ntmps22
    go_wp2_with (first | ((with_reducible refine gate_callee (f := 80) rfl ?_); refine goesL_ (some 34) rfl rfl Try.func80 (by kernel_rfl) rfl #[.int .u16 (IntKind.u16.wrap (wrap64 ((wrap64 ((wrap64 (a0)) - (wrap64 (a1)))) - (wrap64 (Go.bits .and .u8 a2 1)))))] rfl (by (try simp only [List.map_toArray, List.map_cons, List.map_nil]); first | done | rfl | (simp only [List.length_drop, List.length_take]; rfl)) ?_; (with_reducible refine (wide_all.calls (IntKind.u16.wrap (wrap64 ((wrap64 ((wrap64 (a0)) - (wrap64 (a1)))) - (wrap64 (Go.bits .and .u8 a2 1))))) t107 _ A4.out).mono ?_); rintro e w' ⟨rfl, ⟨nd, rfl⟩⟩; refine ⟨_, rfl, ?_⟩) | ((with_reducible refine gate_callee (f := 81) rfl ?_); refine goesL_ (some 38) rfl rfl Try.func81 (by kernel_rfl) rfl #[.bool (decide ((wrap64 ((wrap64 ((wrap64 (a0)) - (wrap64 (a1)))) - (wrap64 (Go.bits .and .u8 a2 1)))) < 0)), .int .u8 1] rfl (by (try simp only [List.map_toArray, List.map_cons, List.map_nil]); first | done | rfl | (simp only [List.length_drop, List.length_take]; rfl)) ?_; (with_reducible refine (wide_if1.calls (decide ((wrap64 ((wrap64 ((wrap64 (a0)) - (wrap64 (a1)))) - (wrap64 (Go.bits .and .u8 a2 1)))) < 0)) 1 t108 _ A5.out).mono ?_); rintro e w' ⟨rfl, ⟨nd, rfl⟩⟩; refine ⟨_, rfl, ?_⟩) | ((with_reducible refine gate_callee (f := 81) rfl ?_); refine goesL_ (some 50) rfl rfl Try.func81 (by kernel_rfl) rfl #[.bool (decide ((wrap64 ((wrap64 ((wrap64 (Go.bits .and .u16 a0 4095)) - (wrap64 (Go.bits .and .u16 a1 4095)))) - (wrap64 (Go.bits .and .u8 a2 1)))) < 0)), .int .u8 16] rfl (by (try simp only [List.map_toArray, List.map_cons, List.map_nil]); first | done | rfl | (simp only [List.length_drop, List.length_take]; rfl)) ?_; (with_reducible refine (wide_if1.calls (decide ((wrap64 ((wrap64 ((wrap64 (Go.bits .and .u16 a0 4095)) - (wrap64 (Go.bits .and .u16 a1 4095)))) - (wrap64 (Go.bits .and .u8 a2 1)))) < 0)) 16 t109 _ A6.out).mono ?_); rintro e w' ⟨rfl, ⟨nd, rfl⟩⟩; refine ⟨_, rfl, ?_⟩) | ((with_reducible refine gate_callee (f := 81) rfl ?_); refine goesL_ (some 58) rfl rfl Try.func81 (by kernel_rfl) rfl #[.bool true, .int .u8 4] rfl (by (try simp only [List.map_toArray, List.map_cons, List.map_nil]); first | done | rfl | (simp only [List.length_drop, List.length_take]; rfl)) ?_; (with_reducible refine (wide_if1.calls true 4 t110 _ A8.out).mono ?_); rintro e w' ⟨rfl, ⟨nd, rfl⟩⟩; refine ⟨_, rfl, ?_⟩))
    go_ret2
    exact ⟨by first | rfl | (simp; done) | (simp [*]; done), by repeat (first | exact Drawn0.refl _ | apply Drawn0.step)⟩
  · rw [if_neg c7] at H
    have c7b0 : decide ((wrap64 ((wrap64 ((wrap64 (IntKind.i16.wrap (a0))) - (wrap64 (IntKind.i16.wrap (a1))))) - (wrap64 (Go.bits .and .u8 a2 1)))) < (-32768)) = false := decide_eq_false c7
    clear c7
    replace H := Option.bind_eq_some_iff.mp H
    obtain ⟨t111, A90, H⟩ := H
    replace H : (some (IntKind.u16.wrap (wrap64 ((wrap64 ((wrap64 (a0)) - (wrap64 (a1)))) - (wrap64 (Go.bits .and .u8 a2 1)))), Go.bits .or .u8 (Go.bits .or .u8 (Go.bits .or .u8 (Go.bits .or .u8 t107 2) t108) t109) t111)) = some (r1, r2) := H
    have A9 := Aside0.mk A90
    clear A90
    simp only [Option.some.injEq, Prod.mk.injEq] at H
    obtain ⟨rfl, rfl⟩ := H
    go_enter Try.func22, Try.ntmps22
    go_wp2_with (first | ((with_reducible refine gate_callee (f := 80) rfl ?_); refine goesL_ (some 34) rfl rfl Try.func80 (by kernel_rfl) rfl #[.int .u16 (IntKind.u16.wrap (wrap64 ((wrap64 ((wrap64 (a0)) - (wrap64 (a1)))) - (wrap64 (Go.bits .and .u8 a2 1)))))] rfl (by (try simp only [List.map_toArray, List.map_cons, List.map_nil]); first | done | rfl | (simp only [List.length_drop, List.length_take]; rfl)) ?_; (with_reducible refine (wide_all.calls (IntKind.u16.wrap (wrap64 ((wrap64 ((wrap64 (a0)) - (wrap64 (a1)))) - (wrap64 (Go.bits .and .u8 a2 1))))) t107 _ A4.out).mono ?_); rintro e w' ⟨rfl, ⟨nd, rfl⟩⟩; refine ⟨_, rfl, ?_⟩) | ((with_reducible refine gate_callee (f := 81) rfl ?_); refine goesL_ (some 38) rfl rfl Try.func81 (by kernel_rfl) rfl #[.bool (decide ((wrap64 ((wrap64 ((wrap64 (a0)) - (wrap64 (a1)))) - (wrap64 (Go.bits .and .u8 a2 1)))) < 0)), .int .u8 1] rfl (by (try simp only [List.map_toArray, List.map_cons, List.map_nil]); first | done | rfl | (simp only [List.length_drop, List.length_take]; rfl)) ?_; (with_reducible refine (wide_if1.calls (decide ((wrap64 ((wrap64 ((wrap64 (a0)) - (wrap64 (a1)))) - (wrap64 (Go.bits .and .u8 a2 1)))) < 0)) 1 t108 _ A5.out).mono ?_); rintro e w' ⟨rfl, ⟨nd, rfl⟩⟩; refine ⟨_, rfl, ?_⟩) | ((with_reducible refine gate_callee (f := 81) rfl ?_); refine goesL_ (some 50) rfl rfl Try.func81 (by kernel_rfl) rfl #[.bool (decide ((wrap64 ((wrap64 ((wrap64 (Go.bits .and .u16 a0 4095)) - (wrap64 (Go.bits .and .u16 a1 4095)))) - (wrap64 (Go.bits .and .u8 a2 1)))) < 0)), .int .u8 16] rfl (by (try simp only [List.map_toArray, List.map_cons, List.map_nil]); first | done | rfl | (simp only [List.length_drop, List.length_take]; rfl)) ?_; (with_reducible refine (wide_if1.calls (decide ((wrap64 ((wrap64 ((wrap64 (Go.bits .and .u16 a0 4095)) - (wrap64 (Go.bits .and .u16 a1 4095)))) - (wrap64 (Go.bits .and .u8 a2 1)))) < 0)) 16 t109 _ A6.out).mono ?_); rintro e w' ⟨rfl, ⟨nd, rfl⟩⟩; refine ⟨_, rfl, ?_⟩) | ((with_reducible refine gate_callee (f := 81) rfl ?_); refine goesL_ (some 58) rfl rfl Try.func81 (by kernel_rfl) rfl #[.bool (decide ((wrap64 ((wrap64 ((wrap64 (IntKind.i16.wrap (a0))) - (wrap64 (IntKind.i16.wrap (a1))))) - (wrap64 (Go.bits .and .u8 a2 1)))) ≥ 32768)), .int .u8 4] rfl (by (try simp only [List.map_toArray, List.map_cons, List.map_nil]); first | done | rfl | (simp only [List.length_drop, List.length_take]; rfl)) ?_; (with_reducible refine (wide_if1.calls (decide ((wrap64 ((wrap64 ((wrap64 (IntKind.i16.wrap (a0))) - (wrap64 (IntKind.i16.wrap (a1))))) - (wrap64 (Go.bits .and .u8 a2 1)))) ≥ 32768)) 4 t111 _ A9.out).mono ?_); rintro e w' ⟨rfl, ⟨nd, rfl⟩⟩; refine ⟨_, rfl, ?_⟩))
    go_ret2
    exact ⟨by first | rfl | (simp; done) | (simp [*]; done), by repeat (first | exact Drawn0.refl _ | apply Drawn0.step)⟩

/-! ### wide_Add: function 24 -/
def wide_Add.f (a0 : Int) (a1 : Int) (a2 : Int) : Option (Int × Int) := (wide_if1.f (decide ((IntKind.u16.wrap (a0 + a1)) < a0)) 1).bind fun t112 => ((wide_if1.f (decide ((IntKind.u16.wrap ((Go.bits .and .u16 a0 4095) + (Go.bits .and .u16 a1 4095))) > 4095)) 16).bind fun t113 => (some (IntKind.u16.wrap (a0 + a1), Go.bits .or .u8 (Go.bits .or .u8 (Go.bits .or .u8 (Go.bits .and .u8 a2 196) (Go.bits .and .u8 (((IntKind.u16.wrap (a0 + a1)) / 256) % 256) 40)) t112) t113)))
set_option maxHeartbeats 8000000 in
set_option maxRecDepth 100000 in
theorem wide_Add.calls (a0 : Int) (a1 : Int) (a2 : Int) (r1 : Int) (r2 : Int) (w : World) (h : wide_Add.f a0 a1 a2 = some (r1, r2)) :
    Calls Try.prog 24 #[.int .u16 a0, .int .u16 a1, .int .u8 a2] w fun e w' => e = .returned (.tuple #[.int .u16 r1, .int .u8 r2]) ∧ Drawn0 w w' := by
  have H : ((wide_if1.f (decide ((IntKind.u16.wrap (a0 + a1)) < a0)) 1).bind fun t112 => ((wide_if1.f (decide ((IntKind.u16.wrap ((Go.bits .and .u16 a0 4095) + (Go.bits .and .u16 a1 4095))) > 4095)) 16).bind fun t113 => (some (IntKind.u16.wrap (a0 + a1), Go.bits .or .u8 (Go.bits .or .u8 (Go.bits .or .u8 (Go.bits .and .u8 a2 196) (Go.bits .and .u8 (((IntKind.u16.wrap (a0 + a1)) / 256) % 256) 40)) t112) t113)))) = some (r1, r2) := h
  clear h
  replace H := Option.bind_eq_some_iff.mp H
  obtain ⟨t112, A40, H⟩ := H
  replace H : ((wide_if1.f (decide ((IntKind.u16.wrap ((Go.bits .and .u16 a0 4095) + (Go.bits .and .u16 a1 4095))) > 4095)) 16).bind fun t113 => (some (IntKind.u16.wrap (a0 + a1), Go.bits .or .u8 (Go.bits .or .u8 (Go.bits .or .u8 (Go.bits .and .u8 a2 196) (Go.bits .and .u8 (((IntKind.u16.wrap (a0 + a1)) / 256) % 256) 40)) t112) t113))) = some (r1, r2) := H
  have A4 := Aside0.mk A40
  clear A40
  replace H := Option.bind_eq_some_iff.mp H
  obtain ⟨t113, A50, H⟩ := H
  replace H : (some (IntKind.u16.wrap (a0 + a1), Go.bits .or .u8 (Go.bits .or .u8 (Go.bits .or .u8 (Go.bits .and .u8 a2 196) (Go.bits .and .u8 (((IntKind.u16.wrap (a0 + a1)) / 256) % 256) 40)) t112) t113)) = some (r1, r2) := H
  have A5 := Aside0.mk A50
  clear A50
  simp only [Option.some.injEq, Prod.mk.injEq] at H
  obtain ⟨rfl, rfl⟩ := H
  go_enter Try.func24, Try.ntmps24
  go_wp2_with (first | ((with_reducible refine gate_callee (f := 81) rfl ?_); refine goesL_ (some 22) rfl rfl Try.func81 (by kernel_rfl) rfl #[.bool (decide ((IntKind.u16.wrap (a0 + a1)) < a0)), .int .u8 1] rfl (by (try simp only [List.map_toArray, List.map_cons, List.map_nil]); first | done | rfl | (simp only [List.length_drop, List.length_take]; rfl)) ?_; (with_reducible refine (wide_if1.calls (decide ((IntKind.u16.wrap (a0 + a1)) < a0)) 1 t112 _ A4.out).mono ?_); rintro e w' ⟨rfl, ⟨nd, rfl⟩⟩; refine ⟨_, rfl, ?_⟩) | ((with_reducible refine gate_callee (f := 81) rfl ?_); refine goesL_ (some 30) rfl rfl Try.func81 (by kernel_rfl) rfl #[.bool (decide ((IntKind.u16.wrap ((Go.bits .and .u16 a0 4095) + (Go.bits .and .u16 a1 4095))) > 4095)), .int .u8 16] rfl (by (try simp only [List.map_toArray, List.map_cons, List.map_nil]); first | done | rfl | (simp only [List.length_drop, List.length_take]; rfl)) ?_; (with_reducible refine (wide_if1.calls (decide ((IntKind.u16.wrap ((Go.bits .and .u16 a0 4095) + (Go.bits .and .u16 a1 4095))) > 4095)) 16 t113 _ A5.out).mono ?_); rintro e w' ⟨rfl, ⟨nd, rfl⟩⟩; refine ⟨_, rfl, ?_⟩))
  go_ret2
  exact ⟨by first | rfl | (simp; done) | (simp [*]; done), by repeat (first | exact Drawn0.refl _ | apply Drawn0.step)⟩

/-! ### pendulumlaw07_lives: function 19 -/
def pendulumlaw07_lives.f  : Option (Bool) := (wide_Add.f 4095 1 0).bind fun bt114 => ((wide_Adc.f 32767 0 1).bind fun bt116 => ((wide_Sbc.f 0 1 0).bind fun bt118 => (if bt114.1 = 4096 then (if bt114.2 = 16 then (if bt116.1 = 32768 then (if bt116.2 = 148 then (if bt118.1 = 65535 then (some (bt118.2 == 187)) else (some false)) else (some false)) else (some false)) else (some false)) else (some false))))
set_option maxHeartbeats 8000000 in
set_option maxRecDepth 100000 in
theorem pendulumlaw07_lives.calls  (r : Bool) (w : World) (h : pendulumlaw07_lives.f  = some r) :
    Calls Try.prog 19 #[] w fun e w' => e = .returned (.bool r) ∧ Drawn0 w w' := by
  have H : ((wide_Add.f 4095 1 0).bind fun bt114 => ((wide_Adc.f 32767 0 1).bind fun bt116 => ((wide_Sbc.f 0 1 0).bind fun bt118 => (if bt114.1 = 4096 then (if bt114.2 = 16 then (if bt116.1 = 32768 then (if bt116.2 = 148 then (if bt118.1 = 65535 then (some (bt118.2 == 187)) else (some false)) else (some false)) else (some false)) else (some false)) else (some false))))) = some r := h
  clear h
  replace H := Option.bind_eq_some_iff.mp H
  obtain ⟨⟨t114, t115⟩, A10, H⟩ := H
  replace H : ((wide_Adc.f 32767 0 1).bind fun bt116 => ((wide_Sbc.f 0 1 0).bind fun bt118 => (if t114 = 4096 then (if t115 = 16 then (if bt116.1 = 32768 then (if bt116.2 = 148 then (if bt118.1 = 65535 then (some (bt118.2 == 187)) else (some false)) else (some false)) else (some false)) else (some false)) else (some false)))) = some r := H
  have A1 := Aside0.mk A10
  clear A10
  replace H := Option.bind_eq_some_iff.mp H
  obtain ⟨⟨t116, t117⟩, A20, H⟩ := H
  replace H : ((wide_Sbc.f 0 1 0).bind fun bt118 => (if t114 = 4096 then (if t115 = 16 then (if t116 = 32768 then (if t117 = 148 then (if bt118.1 = 65535 then (some (bt118.2 == 187)) else (some false)) else (some false)) else (some false)) else (some false)) else (some false))) = some r := H
  have A2 := Aside0.mk A20
  clear A20
  replace H := Option.bind_eq_some_iff.mp H
  obtain ⟨⟨t118, t119⟩, A30, H⟩ := H
  replace H : (if t114 = 4096 then (if t115 = 16 then (if t116 = 32768 then (if t117 = 148 then (if t118 = 65535 then (some (t119 == 187)) else (some false)) else (some false)) else (some false)) else (some false)) else (some false)) = some r := H
  have A3 := Aside0.mk A30
  clear A30
  by_cases c4 : t114 = 4096
  · rw [if_pos c4] at H
    have c4b0 : (t114 == 4096) = true := beq_iff_eq.mpr c4
    have c4b1 : (t114 != 4096) = false := bne_eq_false_iff_eq.mpr c4
    clear c4
    by_cases c5 : t115 = 16
    · rw [if_pos c5] at H
      have c5b0 : (t115 == 16) = true := beq_iff_eq.mpr c5
      have c5b1 : (t115 != 16) = false := bne_eq_false_iff_eq.mpr c5
      clear c5
      by_cases c6 : t116 = 32768
      · rw [if_pos c6] at H
        have c6b0 : (t116 == 32768) = true := beq_iff_eq.mpr c6
        have c6b1 : (t116 != 32768) = false := bne_eq_false_iff_eq.mpr c6
        clear c6
        by_cases c7 : t117 = 148
        · rw [if_pos c7] at H
          have c7b0 : (t117 == 148) = true := beq_iff_eq.mpr c7
          have c7b1 : (t117 != 148) = false := bne_eq_false_iff_eq.mpr c7
          clear c7
          by_cases c8 : t118 = 65535
          · rw [if_pos c8] at H
            have c8b0 : (t118 == 65535) = true := beq_iff_eq.mpr c8
            have c8b1 : (t118 != 65535) = false := bne_eq_false_iff_eq.mpr c8
            clear c8
            obtain rfl := Option.some.inj H
            go_enter Try.func19, Try.ntmps19
            go_wp2_with (first | ((with_reducible refine gate_callee (f := 24) rfl ?_); refine goesL_ (some 8) rfl rfl Try.func24 (by kernel_rfl) rfl #[.int .u16 4095, .int .u16 1, .int .u8 0] rfl (by (try simp only [List.map_toArray, List.map_cons, List.map_nil]); first | done | rfl | (simp only [List.length_drop, List.length_take]; rfl)) ?_; (with_reducible refine (wide_Add.calls 4095 1 0 t114 t115 _ A1.out).mono ?_); rintro e w' ⟨rfl, ⟨nd, rfl⟩⟩; refine ⟨_, rfl, ?_⟩) | ((with_reducible refine gate_callee (f := 20) rfl ?_); refine goesL_ (some 12) rfl rfl Try.func20 (by kernel_rfl) rfl #[.int .u16 32767, .int .u16 0, .int .u8 1] rfl (by (try simp only [List.map_toArray, List.map_cons, List.map_nil]); first | done | rfl | (simp only [List.length_drop, List.length_take]; rfl)) ?_; (with_reducible refine (wide_Adc.calls 32767 0 1 t116 t117 _ A2.out).mono ?_); rintro e w' ⟨rfl, ⟨nd, rfl⟩⟩; refine ⟨_, rfl, ?_⟩) | ((with_reducible refine gate_callee (f := 22) rfl ?_); refine goesL_ (some 16) rfl rfl Try.func22 (by kernel_rfl) rfl #[.int .u16 0, .int .u16 1, .int .u8 0] rfl (by (try simp only [List.map_toArray, List.map_cons, List.map_nil]); first | done | rfl | (simp only [List.length_drop, List.length_take]; rfl)) ?_; (with_reducible refine (wide_Sbc.calls 0 1 0 t118 t119 _ A3.out).mono ?_); rintro e w' ⟨rfl, ⟨nd, rfl⟩⟩; refine ⟨_, rfl, ?_⟩))
            go_ret
            exact ⟨by first | rfl | (simp; done) | (simp [*]; done), by repeat (first | exact Drawn0.refl _ | apply Drawn0.step)⟩
          · rw [if_neg c8] at H
            have c8b0 : (t118 == 65535) = false := beq_eq_false_iff_ne.mpr c8
            have c8b1 : (t118 != 65535) = true := bne_iff_ne.mpr c8
            obtain rfl := Option.some.inj H
            go_enter Try.func19, Try.ntmps19
            go_wp2_with (first | ((with_reducible refine gate_callee (f := 24) rfl ?_); refine goesL_ (some 8) rfl rfl Try.func24 (by kernel_rfl) rfl #[.int .u16 4095, .int .u16 1, .int .u8 0] rfl (by (try simp only [List.map_toArray, List.map_cons, List.map_nil]); first | done | rfl | (simp only [List.length_drop, List.length_take]; rfl)) ?_; (with_reducible refine (wide_Add.calls 4095 1 0 t114 t115 _ A1.out).mono ?_); rintro e w' ⟨rfl, ⟨nd, rfl⟩⟩; refine ⟨_, rfl, ?_⟩) | ((with_reducible refine gate_callee (f := 20) rfl ?_); refine goesL_ (some 12) rfl rfl Try.func20 (by kernel_rfl) rfl #[.int .u16 32767, .int .u16 0, .int .u8 1] rfl (by (try simp only [List.map_toArray, List.map_cons, List.map_nil]); first | done | rfl | (simp only [List.length_drop, List.length_take]; rfl)) ?_; (with_reducible refine (wide_Adc.calls 32767 0 1 t116 t117 _ A2.out).mono ?_); rintro e w' ⟨rfl, ⟨nd, rfl⟩⟩; refine ⟨_, rfl, ?_⟩) | ((with_reducible refine gate_callee (f := 22) rfl ?_); refine goesL_ (some 16) rfl rfl Try.func22 (by kernel_rfl) rfl #[.int .u16 0, .int .u16 1, .int .u8 0] rfl (by (try simp only [List.map_toArray, List.map_cons, List.map_nil]); first | done | rfl | (simp only [List.length_drop, List.length_take]; rfl)) ?_; (with_reducible refine (wide_Sbc.calls 0 1 0 t118 t119 _ A3.out).mono ?_); rintro e w' ⟨rfl, ⟨nd, rfl⟩⟩; refine ⟨_, rfl, ?_⟩))
            go_ret
            exact ⟨by first | rfl | (simp; done) | (simp [*]; done), by repeat (first | exact Drawn0.refl _ | apply Drawn0.step)⟩
        · rw [if_neg c7] at H
          have c7b0 : (t117 == 148) = false := beq_eq_false_iff_ne.mpr c7
          have c7b1 : (t117 != 148) = true := bne_iff_ne.mpr c7
          obtain rfl := Option.some.inj H
          go_enter Try.func19, Try.ntmps19
          go_wp2_with (first | ((with_reducible refine gate_callee (f := 24) rfl ?_); refine goesL_ (some 8) rfl rfl Try.func24 (by kernel_rfl) rfl #[.int .u16 4095, .int .u16 1, .int .u8 0] rfl (by (try simp only [List.map_toArray, List.map_cons, List.map_nil]); first | done | rfl | (simp only [List.length_drop, List.length_take]; rfl)) ?_; (with_reducible refine (wide_Add.calls 4095 1 0 t114 t115 _ A1.out).mono ?_); rintro e w' ⟨rfl, ⟨nd, rfl⟩⟩; refine ⟨_, rfl, ?_⟩) | ((with_reducible refine gate_callee (f := 20) rfl ?_); refine goesL_ (some 12) rfl rfl Try.func20 (by kernel_rfl) rfl #[.int .u16 32767, .int .u16 0, .int .u8 1] rfl (by (try simp only [List.map_toArray, List.map_cons, List.map_nil]); first | done | rfl | (simp only [List.length_drop, List.length_take]; rfl)) ?_; (with_reducible refine (wide_Adc.calls 32767 0 1 t116 t117 _ A2.out).mono ?_); rintro e w' ⟨rfl, ⟨nd, rfl⟩⟩; refine ⟨_, rfl, ?_⟩) | ((with_reducible refine gate_callee (f := 22) rfl ?_); refine goesL_ (some 16) rfl rfl Try.func22 (by kernel_rfl) rfl #[.int .u16 0, .int .u16 1, .int .u8 0] rfl (by (try simp only [List.map_toArray, List.map_cons, List.map_nil]); first | done | rfl | (simp only [List.length_drop, List.length_take]; rfl)) ?_; (with_reducible refine (wide_Sbc.calls 0 1 0 t118 t119 _ A3.out).mono ?_); rintro e w' ⟨rfl, ⟨nd, rfl⟩⟩; refine ⟨_, rfl, ?_⟩))
          go_ret
          exact ⟨by first | rfl | (simp; done) | (simp [*]; done), by repeat (first | exact Drawn0.refl _ | apply Drawn0.step)⟩
      · rw [if_neg c6] at H
        have c6b0 : (t116 == 32768) = false := beq_eq_false_iff_ne.mpr c6
        have c6b1 : (t116 != 32768) = true := bne_iff_ne.mpr c6
        obtain rfl := Option.some.inj H
        go_enter Try.func19, Try.ntmps19
        go_wp2_with (first | ((with_reducible refine gate_callee (f := 24) rfl ?_); refine goesL_ (some 8) rfl rfl Try.func24 (by kernel_rfl) rfl #[.int .u16 4095, .int .u16 1, .int .u8 0] rfl (by (try simp only [List.map_toArray, List.map_cons, List.map_nil]); first | done | rfl | (simp only [List.length_drop, List.length_take]; rfl)) ?_; (with_reducible refine (wide_Add.calls 4095 1 0 t114 t115 _ A1.out).mono ?_); rintro e w' ⟨rfl, ⟨nd, rfl⟩⟩; refine ⟨_, rfl, ?_⟩) | ((with_reducible refine gate_callee (f := 20) rfl ?_); refine goesL_ (some 12) rfl rfl Try.func20 (by kernel_rfl) rfl #[.int .u16 32767, .int .u16 0, .int .u8 1] rfl (by (try simp only [List.map_toArray, List.map_cons, List.map_nil]); first | done | rfl | (simp only [List.length_drop, List.length_take]; rfl)) ?_; (with_reducible refine (wide_Adc.calls 32767 0 1 t116 t117 _ A2.out).mono ?_); rintro e w' ⟨rfl, ⟨nd, rfl⟩⟩; refine ⟨_, rfl, ?_⟩) | ((with_reducible refine gate_callee (f := 22) rfl ?_); refine goesL_ (some 16) rfl rfl Try.func22 (by kernel_rfl) rfl #[.int .u16 0, .int .u16 1, .int .u8 0] rfl (by (try simp only [List.map_toArray, List.map_cons, List.map_nil]); first | done | rfl | (simp only [List.length_drop, List.length_take]; rfl)) ?_; (with_reducible refine (wide_Sbc.calls 0 1 0 t118 t119 _ A3.out).mono ?_); rintro e w' ⟨rfl, ⟨nd, rfl⟩⟩; refine ⟨_, rfl, ?_⟩))
        go_ret
        exact ⟨by first | rfl | (simp; done) | (simp [*]; done), by repeat (first | exact Drawn0.refl _ | apply Drawn0.step)⟩
    · rw [if_neg c5] at H
      have c5b0 : (t115 == 16) = false := beq_eq_false_iff_ne.mpr c5
      have c5b1 : (t115 != 16) = true := bne_iff_ne.mpr c5
      obtain rfl := Option.some.inj H
      go_enter Try.func19, Try.ntmps19
      go_wp2_with (first | ((with_reducible refine gate_callee (f := 24) rfl ?_); refine goesL_ (some 8) rfl rfl Try.func24 (by kernel_rfl) rfl #[.int .u16 4095, .int .u16 1, .int .u8 0] rfl (by (try simp only [List.map_toArray, List.map_cons, List.map_nil]); first | done | rfl | (simp only [List.length_drop, List.length_take]; rfl)) ?_; (with_reducible refine (wide_Add.calls 4095 1 0 t114 t115 _ A1.out).mono ?_); rintro e w' ⟨rfl, ⟨nd, rfl⟩⟩; refine ⟨_, rfl, ?_⟩) | ((with_reducible refine gate_callee (f := 20) rfl ?_); refine goesL_ (some 12) rfl rfl Try.func20 (by kernel_rfl) rfl #[.int .u16 32767, .int .u16 0, .int .u8 1] rfl (by (try simp only [List.map_toArray, List.map_cons, List.map_nil]); first | done | rfl | (simp only [List.length_drop, List.length_take]; rfl)) ?_; (with_reducible refine (wide_Adc.calls 32767 0 1 t116 t117 _ A2.out).mono ?_); rintro e w' ⟨rfl, ⟨nd, rfl⟩⟩; refine ⟨_, rfl, ?_⟩) | ((with_reducible refine gate_callee (f := 22) rfl ?_); refine goesL_ (some 16) rfl rfl Try.func22 (by kernel_rfl) rfl #[.int .u16 0, .int .u16 1, .int .u8 0] rfl (by (try simp only [List.map_toArray, List.map_cons, List.map_nil]); first | done | rfl | (simp only [List.length_drop, List.length_take]; rfl)) ?_; (with_reducible refine (wide_Sbc.calls 0 1 0 t118 t119 _ A3.out).mono ?_); rintro e w' ⟨rfl, ⟨nd, rfl⟩⟩; refine ⟨_, rfl, ?_⟩))
      go_ret
      exact ⟨by first | rfl | (simp; done) | (simp [*]; done), by repeat (first | exact Drawn0.refl _ | apply Drawn0.step)⟩
  · rw [if_neg c4] at H
    have c4b0 : (t114 == 4096) = false := beq_eq_false_iff_ne.mpr c4
    have c4b1 : (t114 != 4096) = true := bne_iff_ne.mpr c4
    obtain rfl := Option.some.inj H
    go_enter Try.func19, Try.ntmps19
    go_wp2_with (first | ((with_reducible refine gate_callee (f := 24) rfl ?_); refine goesL_ (some 8) rfl rfl Try.func24 (by kernel_rfl) rfl #[.int .u16 4095, .int .u16 1, .int .u8 0] rfl (by (try simp only [List.map_toArray, List.map_cons, List.map_nil]); first | done | rfl | (simp only [List.length_drop, List.length_take]; rfl)) ?_; (with_reducible refine (wide_Add.calls 4095 1 0 t114 t115 _ A1.out).mono ?_); rintro e w' ⟨rfl, ⟨nd, rfl⟩⟩; refine ⟨_, rfl, ?_⟩) | ((with_reducible refine gate_callee (f := 20) rfl ?_); refine goesL_ (some 12) rfl rfl Try.func20 (by kernel_rfl) rfl #[.int .u16 32767, .int .u16 0, .int .u8 1] rfl (by (try simp only [List.map_toArray, List.map_cons, List.map_nil]); first | done | rfl | (simp only [List.length_drop, List.length_take]; rfl)) ?_; (with_reducible refine (wide_Adc.calls 32767 0 1 t116 t117 _ A2.out).mono ?_); rintro e w' ⟨rfl, ⟨nd, rfl⟩⟩; refine ⟨_, rfl, ?_⟩) | ((with_reducible refine gate_callee (f := 22) rfl ?_); refine goesL_ (some 16) rfl rfl Try.func22 (by kernel_rfl) rfl #[.int .u16 0, .int .u16 1, .int .u8 0] rfl (by (try simp only [List.map_toArray, List.map_cons, List.map_nil]); first | done | rfl | (simp only [List.length_drop, List.length_take]; rfl)) ?_; (with_reducible refine (wide_Sbc.calls 0 1 0 t118 t119 _ A3.out).mono ?_); rintro e w' ⟨rfl, ⟨nd, rfl⟩⟩; refine ⟨_, rfl, ?_⟩))
    go_ret
    exact ⟨by first | rfl | (simp; done) | (simp [*]; done), by repeat (first | exact Drawn0.refl _ | apply Drawn0.step)⟩

/-! ### wide_odd: function 92 -/
def wide_odd.f (a0 : Int) : Option (Int) := (wide_if1.f ((Go.bits .and .u8 a0 2) != 0) 32).bind fun t120 => (some (Go.bits .or .u8 t120 (Go.bits .and .u8 a0 8)))
set_option maxHeartbeats 8000000 in
set_option maxRecDepth 100000 in
theorem wide_odd.calls (a0 : Int) (r : Int) (w : World) (h : wide_odd.f a0 = some r) :
    Calls Try.prog 92 #[.int .u8 a0] w fun e w' => e = .returned (.int .u8 r) ∧ Drawn0 w w' := by
  have H : ((wide_if1.f ((Go.bits .and .u8 a0 2) != 0) 32).bind fun t120 => (some (Go.bits .or .u8 t120 (Go.bits .and .u8 a0 8)))) = some r := h
  clear h
  replace H := Option.bind_eq_some_iff.mp H
  obtain ⟨t120, A20, H⟩ := H
  replace H : (some (Go.bits .or .u8 t120 (Go.bits .and .u8 a0 8))) = some r := H
  have A2 := Aside0.mk A20
  clear A20
  obtain rfl := Option.some.inj H
  go_enter Try.func92, Try.ntmps92
  go_wp2_with (first | ((with_reducible refine gate_callee (f := 81) rfl ?_); refine goesL_ (some 6) rfl rfl Try.func81 (by kernel_rfl) rfl #[.bool ((Go.bits .and .u8 a0 2) != 0), .int .u8 32] rfl (by (try simp only [List.map_toArray, List.map_cons, List.map_nil]); first | done | rfl | (simp only [List.length_drop, List.length_take]; rfl)) ?_; (with_reducible refine (wide_if1.calls ((Go.bits .and .u8 a0 2) != 0) 32 t120 _ A2.out).mono ?_); rintro e w' ⟨rfl, ⟨nd, rfl⟩⟩; refine ⟨_, rfl, ?_⟩))
  go_ret
  exact ⟨by first | rfl | (simp; done) | (simp [*]; done), by repeat (first | exact Drawn0.refl _ | apply Drawn0.step)⟩

/-! ### wide_Move: function 39 -/
def wide_Move.f (a0 : Int) (a1 : Int) (a2 : Int) (a3 : Int) : Option (Int) := (wide_if1.f (a2 != 0) 4).bind fun t121 => ((wide_odd.f ((a0 + a1) % 256)).bind fun t122 => (some (Go.bits .or .u8 (Go.bits .or .u8 (Go.bits .and .u8 a3 193) t121) t122)))
set_option maxHeartbeats 8000000 in
set_option maxRecDepth 100000 in
theorem wide_Move.calls (a0 : Int) (a1 : Int) (a2 : Int) (a3 : Int) (r : Int) (w : World) (h : wide_Move.f a0 a1 a2 a3 = some r) :
    Calls Try.prog 39 #[.int .u8 a0, .int .u8 a1, .int .u16 a2, .int .u8 a3] w fun e w' => e = .returned (.int .u8 r) ∧ Drawn0 w w' := by
  have H : ((wide_if1.f (a2 != 0) 4).bind fun t121 => ((wide_odd.f ((a0 + a1) % 256)).bind fun t122 => (some (Go.bits .or .u8 (Go.bits .or .u8 (Go.bits .and .u8 a3 193) t121) t122)))) = some r := h
  clear h
  replace H := Option.bind_eq_some_iff.mp H
  obtain ⟨t121, A50, H⟩ := H
  replace H : ((wide_odd.f ((a0 + a1) % 256)).bind fun t122 => (some (Go.bits .or .u8 (Go.bits .or .u8 (Go.bits .and .u8 a3 193) t121) t122))) = some r := H
  have A5 := Aside0.mk A50
  clear A50
  replace H := Option.bind_eq_some_iff.mp H
  obtain ⟨t122, A60, H⟩ := H
  replace H : (some (Go.bits .or .u8 (Go.bits .or .u8 (Go.bits .and .u8 a3 193) t121) t122)) = some r := H
  have A6 := Aside0.mk A60
  clear A60
  obtain rfl := Option.some.inj H
  go_enter Try.func39, Try.ntmps39
  go_wp2_with (first | ((with_reducible refine gate_callee (f := 81) rfl ?_); refine goesL_ (some 13) rfl rfl Try.func81 (by kernel_rfl) rfl #[.bool (a2 != 0), .int .u8 4] rfl (by (try simp only [List.map_toArray, List.map_cons, List.map_nil]); first | done | rfl | (simp only [List.length_drop, List.length_take]; rfl)) ?_; (with_reducible refine (wide_if1.calls (a2 != 0) 4 t121 _ A5.out).mono ?_); rintro e w' ⟨rfl, ⟨nd, rfl⟩⟩; refine ⟨_, rfl, ?_⟩) | ((with_reducible refine gate_callee (f := 92) rfl ?_); refine goesL_ (some 18) rfl rfl Try.func92 (by kernel_rfl) rfl #[.int .u8 ((a0 + a1) % 256)] rfl (by (try simp only [List.map_toArray, List.map_cons, List.map_nil]); first | done | rfl | (simp only [List.length_drop, List.length_take]; rfl)) ?_; (with_reducible refine (wide_odd.calls ((a0 + a1) % 256) t122 _ A6.out).mono ?_); rintro e w' ⟨rfl, ⟨nd, rfl⟩⟩; refine ⟨_, rfl, ?_⟩))
  go_ret
  exact ⟨by first | rfl | (simp; done) | (simp [*]; done), by repeat (first | exact Drawn0.refl _ | apply Drawn0.step)⟩

/-! ### alu_if1: function 90 -/
def alu_if1.f (a0 : Bool) (a1 : Int) : Option (Int) := if a0 = true then (some a1) else (some 0)
set_option maxHeartbeats 8000000 in
set_option maxRecDepth 100000 in
theorem alu_if1.calls (a0 : Bool) (a1 : Int) (r : Int) (w : World) (h : alu_if1.f a0 a1 = some r) :
    Calls Try.prog 90 #[.bool a0, .int .u8 a1] w fun e w' => e = .returned (.int .u8 r) ∧ Drawn0 w w' := by
  have H : (if a0 = true then (some a1) else (some 0)) = some r := h
  clear h
  by_cases c3 : a0 = true
  · subst c3
    have H1 : (some a1) = some r := by rw [if_pos rfl] at H; exact H
    clear H
    have H := H1
    clear H1
    obtain rfl := Option.some.inj H
    go_enter Try.func90, Try.ntmps90
    go_wp2
    go_ret
    exact ⟨by first | rfl | (simp; done) | (simp [*]; done), by repeat (first | exact Drawn0.refl _ | apply Drawn0.step)⟩
  · replace c3 := Bool.eq_false_iff.mpr c3
    subst c3
    have H1 : (some 0) = some r := by rw [if_neg (show ¬ (false = true) by decide)] at H; exact H
    clear H
    have H := H1
    clear H1
    obtain rfl := Option.some.inj H
    go_enter Try.func90, Try.ntmps90
    go_wp2
    go_ret
    exact ⟨by first | rfl | (simp; done) | (simp [*]; done), by repeat (first | exact Drawn0.refl _ | apply Drawn0.step)⟩

/-! ### alu_Own: function 91 -/
def alu_Own.f (a0 : Int) : Option (Int) := if a0 = 0 then (some (Go.bits .or .u8 (Go.bits .and .u8 a0 168) 64)) else (some (Go.bits .and .u8 a0 168))
set_option maxHeartbeats 8000000 in
set_option maxRecDepth 100000 in
theorem alu_Own.calls (a0 : Int) (r : Int) (w : World) (h : alu_Own.f a0 = some r) :
    Calls Try.prog 91 #[.int .u8 a0] w fun e w' => e = .returned (.int .u8 r) ∧ Drawn0 w w' := by
  have H : (if a0 = 0 then (some (Go.bits .or .u8 (Go.bits .and .u8 a0 168) 64)) else (some (Go.bits .and .u8 a0 168))) = some r := h
  clear h
  by_cases c2 : a0 = 0
  · rw [if_pos c2] at H
    have c2b0 : (a0 == 0) = true := beq_iff_eq.mpr c2
    have c2b1 : (a0 != 0) = false := bne_eq_false_iff_eq.mpr c2
    clear c2
    obtain rfl := Option.some.inj H
    go_enter Try.func91, Try.ntmps91
    go_wp2
    go_ret
    exact ⟨by first | rfl | (simp; done) | (simp [*]; done), by repeat (first | exact Drawn0.refl _ | apply Drawn0.step)⟩
  · rw [if_neg c2] at H
    have c2b0 : (a0 == 0) = false := beq_eq_false_iff_ne.mpr c2
    have c2b1 : (a0 != 0) = true := bne_iff_ne.mpr c2
    obtain rfl := Option.some.inj H
    go_enter Try.func91, Try.ntmps91
    go_wp2
    go_ret
    exact ⟨by first | rfl | (simp; done) | (simp [*]; done), by repeat (first | exact Drawn0.refl _ | apply Drawn0.step)⟩

/-! ### alu_Sub: function 38 -/
def alu_Sub.f (a0 : Int) (a1 : Int) (a2 : Bool) : Option (Int × Int) := (alu_if1.f a2 1).bind fun t123 => ((alu_Own.f ((wrap64 ((wrap64 ((wrap64 (a0)) - (wrap64 (a1)))) - (wrap64 (t123)))) % 256)).bind fun t124 => ((alu_if1.f (decide ((wrap64 ((wrap64 ((wrap64 (a0)) - (wrap64 (a1)))) - (wrap64 (t123)))) < 0)) 1).bind fun t125 => ((alu_if1.f (decide ((wrap64 ((wrap64 ((wrap64 (Go.bits .and .u8 a0 15)) - (wrap64 (Go.bits .and .u8 a1 15)))) - (wrap64 (t123)))) < 0)) 16).bind fun t126 => (if (wrap64 ((wrap64 ((wrap64 (IntKind.i8.wrap (a0))) - (wrap64 (IntKind.i8.wrap (a1))))) - (wrap64 (t123)))) < (-128) then ((alu_if1.f true 4).bind fun t127 => (some ((wrap64 ((wrap64 ((wrap64 (a0)) - (wrap64 (a1)))) - (wrap64 (t123)))) % 256, Go.bits .or .u8 (Go.bits .or .u8 (Go.bits .or .u8 (Go.bits .or .u8 t124 2) t125) t126) t127))) else ((alu_if1.f (decide ((wrap64 ((wrap64 ((wrap64 (IntKind.i8.wrap (a0))) - (wrap64 (IntKind.i8.wrap (a1))))) - (wrap64 (t123)))) > 127)) 4).bind fun t128 => (some ((wrap64 ((wrap64 ((wrap64 (a0)) - (wrap64 (a1)))) - (wrap64 (t123)))) % 256, Go.bits .or .u8 (Go.bits .or .u8 (Go.bits .or .u8 (Go.bits .or .u8 t124 2) t125) t126) t128)))))))
set_option maxHeartbeats 8000000 in
set_option maxRecDepth 100000 in
theorem alu_Sub.calls (a0 : Int) (a1 : Int) (a2 : Bool) (r1 : Int) (r2 : Int) (w : World) (h : alu_Sub.f a0 a1 a2 = some (r1, r2)) :
    Calls Try.prog 38 #[.int .u8 a0, .int .u8 a1, .bool a2] w fun e w' => e = .returned (.tuple #[.int .u8 r1, .int .u8 r2]) ∧ Drawn0 w w' := by
  have H : ((alu_if1.f a2 1).bind fun t123 => ((alu_Own.f ((wrap64 ((wrap64 ((wrap64 (a0)) - (wrap64 (a1)))) - (wrap64 (t123)))) % 256)).bind fun t124 => ((alu_if1.f (decide ((wrap64 ((wrap64 ((wrap64 (a0)) - (wrap64 (a1)))) - (wrap64 (t123)))) < 0)) 1).bind fun t125 => ((alu_if1.f (decide ((wrap64 ((wrap64 ((wrap64 (Go.bits .and .u8 a0 15)) - (wrap64 (Go.bits .and .u8 a1 15)))) - (wrap64 (t123)))) < 0)) 16).bind fun t126 => (if (wrap64 ((wrap64 ((wrap64 (IntKind.i8.wrap (a0))) - (wrap64 (IntKind.i8.wrap (a1))))) - (wrap64 (t123)))) < (-128) then ((alu_if1.f true 4).bind fun t127 => (some ((wrap64 ((wrap64 ((wrap64 (a0)) - (wrap64 (a1)))) - (wrap64 (t123)))) % 256, Go.bits .or .u8 (Go.bits .or .u8 (Go.bits .or .u8 (Go.bits .or .u8 t124 2) t125) t126) t127))) else ((alu_if1.f (decide ((wrap64 ((wrap64 ((wrap64 (IntKind.i8.wrap (a0))) - (wrap64 (IntKind.i8.wrap (a1))))) - (wrap64 (t123)))) > 127)) 4).bind fun t128 => (some ((wrap64 ((wrap64 ((wrap64 (a0)) - (wrap64 (a1)))) - (wrap64 (t123)))) % 256, Go.bits .or .u8 (Go.bits .or .u8 (Go.bits .or .u8 (Go.bits .or .u8 t124 2) t125) t126) t128)))))))) = some (r1, r2) := h
  clear h
  replace H := Option.bind_eq_some_iff.mp H
  obtain ⟨t123, A40, H⟩ := H
  replace H : ((alu_Own.f ((wrap64 ((wrap64 ((wrap64 (a0)) - (wrap64 (a1)))) - (wrap64 (t123)))) % 256)).bind fun t124 => ((alu_if1.f (decide ((wrap64 ((wrap64 ((wrap64 (a0)) - (wrap64 (a1)))) - (wrap64 (t123)))) < 0)) 1).bind fun t125 => ((alu_if1.f (decide ((wrap64 ((wrap64 ((wrap64 (Go.bits .and .u8 a0 15)) - (wrap64 (Go.bits .and .u8 a1 15)))) - (wrap64 (t123)))) < 0)) 16).bind fun t126 => (if (wrap64 ((wrap64 ((wrap64 (IntKind.i8.wrap (a0))) - (wrap64 (IntKind.i8.wrap (a1))))) - (wrap64 (t123)))) < (-128) then ((alu_if1.f true 4).bind fun t127 => (some ((wrap64 ((wrap64 ((wrap64 (a0)) - (wrap64 (a1)))) - (wrap64 (t123)))) % 256, Go.bits .or .u8 (Go.bits .or .u8 (Go.bits .or .u8 (Go.bits .or .u8 t124 2) t125) t126) t127))) else ((alu_if1.f (decide ((wrap64 ((wrap64 ((wrap64 (IntKind.i8.wrap (a0))) - (wrap64 (IntKind.i8.wrap (a1))))) - (wrap64 (t123)))) > 127)) 4).bind fun t128 => (some ((wrap64 ((wrap64 ((wrap64 (a0)) - (wrap64 (a1)))) - (wrap64 (t123)))) % 256, Go.bits .or .u8 (Go.bits .or .u8 (Go.bits .or .u8 (Go.bits .or .u8 t124 2) t125) t126) t128))))))) = some (r1, r2) := H
  have A4 := Aside0.mk A40
  clear A40
  replace H := Option.bind_eq_some_iff.mp H
  obtain ⟨t124, A50, H⟩ := H
  replace H : ((alu_if1.f (decide ((wrap64 ((wrap64 ((wrap64 (a0)) - (wrap64 (a1)))) - (wrap64 (t123)))) < 0)) 1).bind fun t125 => ((alu_if1.f (decide ((wrap64 ((wrap64 ((wrap64 (Go.bits .and .u8 a0 15)) - (wrap64 (Go.bits .and .u8 a1 15)))) - (wrap64 (t123)))) < 0)) 16).bind fun t126 => (if (wrap64 ((wrap64 ((wrap64 (IntKind.i8.wrap (a0))) - (wrap64 (IntKind.i8.wrap (a1))))) - (wrap64 (t123)))) < (-128) then ((alu_if1.f true 4).bind fun t127 => (some ((wrap64 ((wrap64 ((wrap64 (a0)) - (wrap64 (a1)))) - (wrap64 (t123)))) % 256, Go.bits .or .u8 (Go.bits .or .u8 (Go.bits .or .u8 (Go.bits .or .u8 t124 2) t125) t126) t127))) else ((alu_if1.f (decide ((wrap64 ((wrap64 ((wrap64 (IntKind.i8.wrap (a0))) - (wrap64 (IntKind.i8.wrap (a1))))) - (wrap64 (t123)))) > 127)) 4).bind fun t128 => (some ((wrap64 ((wrap64 ((wrap64 (a0)) - (wrap64 (a1)))) - (wrap64 (t123)))) % 256, Go.bits .or .u8 (Go.bits .or .u8 (Go.bits .or .u8 (Go.bits .or .u8 t124 2) t125) t126) t128)))))) = some (r1, r2) := H
  have A5 := Aside0.mk A50
  clear A50
  replace H := Option.bind_eq_some_iff.mp H
  obtain ⟨t125, A60, H⟩ := H
  replace H : ((alu_if1.f (decide ((wrap64 ((wrap64 ((wrap64 (Go.bits .and .u8 a0 15)) - (wrap64 (Go.bits .and .u8 a1 15)))) - (wrap64 (t123)))) < 0)) 16).bind fun t126 => (if (wrap64 ((wrap64 ((wrap64 (IntKind.i8.wrap (a0))) - (wrap64 (IntKind.i8.wrap (a1))))) - (wrap64 (t123)))) < (-128) then ((alu_if1.f true 4).bind fun t127 => (some ((wrap64 ((wrap64 ((wrap64 (a0)) - (wrap64 (a1)))) - (wrap64 (t123)))) % 256, Go.bits .or .u8 (Go.bits .or .u8 (Go.bits .or .u8 (Go.bits .or .u8 t124 2) t125) t126) t127))) else ((alu_if1.f (decide ((wrap64 ((wrap64 ((wrap64 (IntKind.i8.wrap (a0))) - (wrap64 (IntKind.i8.wrap (a1))))) - (wrap64 (t123)))) > 127)) 4).bind fun t128 => (some ((wrap64 ((wrap64 ((wrap64 (a0)) - (wrap64 (a1)))) - (wrap64 (t123)))) % 256, Go.bits .or .u8 (Go.bits .or .u8 (Go.bits .or .u8 (Go.bits .or .u8 t124 2) t125) t126) t128))))) = some (r1, r2) := H
  have A6 := Aside0.mk A60
  clear A60
  replace H := Option.bind_eq_some_iff.mp H
  obtain ⟨t126, A70, H⟩ := H
  replace H : (if (wrap64 ((wrap64 ((wrap64 (IntKind.i8.wrap (a0))) - (wrap64 (IntKind.i8.wrap (a1))))) - (wrap64 (t123)))) < (-128) then ((alu_if1.f true 4).bind fun t127 => (some ((wrap64 ((wrap64 ((wrap64 (a0)) - (wrap64 (a1)))) - (wrap64 (t123)))) % 256, Go.bits .or .u8 (Go.bits .or .u8 (Go.bits .or .u8 (Go.bits .or .u8 t124 2) t125) t126) t127))) else ((alu_if1.f (decide ((wrap64 ((wrap64 ((wrap64 (IntKind.i8.wrap (a0))) - (wrap64 (IntKind.i8.wrap (a1))))) - (wrap64 (t123)))) > 127)) 4).bind fun t128 => (some ((wrap64 ((wrap64 ((wrap64 (a0)) - (wrap64 (a1)))) - (wrap64 (t123)))) % 256, Go.bits .or .u8 (Go.bits .or .u8 (Go.bits .or .u8 (Go.bits .or .u8 t124 2) t125) t126) t128)))) = some (r1, r2) := H
  have A7 := Aside0.mk A70
  clear A70
  by_cases c8 : (wrap64 ((wrap64 ((wrap64 (IntKind.i8.wrap (a0))) - (wrap64 (IntKind.i8.wrap (a1))))) - (wrap64 (t123)))) < (-128)
  · rw [if_pos c8] at H
    have c8b0 : decide ((wrap64 ((wrap64 ((wrap64 (IntKind.i8.wrap (a0))) - (wrap64 (IntKind.i8.wrap (a1))))) - (wrap64 (t123)))) < (-128)) = true := decide_eq_true c8
    clear c8
    replace H := Option.bind_eq_some_iff.mp H
    obtain ⟨t127, A90, H⟩ := H
    replace H : (some ((wrap64 ((wrap64 ((wrap64 (a0)) - (wrap64 (a1)))) - (wrap64 (t123)))) % 256, Go.bits .or .u8 (Go.bits .or .u8 (Go.bits .or .u8 (Go.bits .or .u8 t124 2) t125) t126) t127)) = some (r1, r2) := H
    have A9 := Aside0.mk A90
    clear A90
    simp only [Option.some.injEq, Prod.mk.injEq] at H
    obtain ⟨rfl, rfl⟩ := H
    go_enter Try.func38, Try.ntmps38
    go_wp2_with (first | ((with_reducible refine gate_callee (f := 90) rfl ?_); refine goesL_ (some 12) rfl rfl Try.func90 (by kernel_rfl) rfl #[.bool a2, .int .u8 1] rfl (by (try simp only [List.map_toArray, List.map_cons, List.map_nil]); first | done | rfl | (simp only [List.length_drop, List.length_take]; rfl)) ?_; (with_reducible refine (alu_if1.calls a2 1 t123 _ A4.out).mono ?_); rintro e w' ⟨rfl, ⟨nd, rfl⟩⟩; refine ⟨_, rfl, ?_⟩) | ((with_reducible refine gate_callee (f := 91) rfl ?_); refine goesL_ (some 33) rfl rfl Try.func91 (by kernel_rfl) rfl #[.int .u8 ((wrap64 ((wrap64 ((wrap64 (a0)) - (wrap64 (a1)))) - (wrap64 (t123)))) % 256)] rfl (by (try simp only [List.map_toArray, List.map_cons, List.map_nil]); first | done | rfl | (simp only [List.length_drop, List.length_take]; rfl)) ?_; (with_reducible refine (alu_Own.calls ((wrap64 ((wrap64 ((wrap64 (a0)) - (wrap64 (a1)))) - (wrap64 (t123)))) % 256) t124 _ A5.out).mono ?_); rintro e w' ⟨rfl, ⟨nd, rfl⟩⟩; refine ⟨_, rfl, ?_⟩) | ((with_reducible refine gate_callee (f := 90) rfl ?_); refine goesL_ (some 37) rfl rfl Try.func90 (by kernel_rfl) rfl #[.bool (decide ((wrap64 ((wrap64 ((wrap64 (a0)) - (wrap64 (a1)))) - (wrap64 (t123)))) < 0)), .int .u8 1] rfl (by (try simp only [List.map_toArray, List.map_cons, List.map_nil]); first | done | rfl | (simp only [List.length_drop, List.length_take]; rfl)) ?_; (with_reducible refine (alu_if1.calls (decide ((wrap64 ((wrap64 ((wrap64 (a0)) - (wrap64 (a1)))) - (wrap64 (t123)))) < 0)) 1 t125 _ A6.out).mono ?_); rintro e w' ⟨rfl, ⟨nd, rfl⟩⟩; refine ⟨_, rfl, ?_⟩) | ((with_reducible refine gate_callee (f := 90) rfl ?_); refine goesL_ (some 49) rfl rfl Try.func90 (by kernel_rfl) rfl #[.bool (decide ((wrap64 ((wrap64 ((wrap64 (Go.bits .and .u8 a0 15)) - (wrap64 (Go.bits .and .u8 a1 15)))) - (wrap64 (t123)))) < 0)), .int .u8 16] rfl (by (try simp only [List.map_toArray, List.map_cons, List.map_nil]); first | done | rfl | (simp only [List.length_drop, List.length_take]; rfl)) ?_; (with_reducible refine (alu_if1.calls (decide ((wrap64 ((wrap64 ((wrap64 (Go.bits .and .u8 a0 15)) - (wrap64 (Go.bits .and .u8 a1 15)))) - (wrap64 (t123)))) < 0)) 16 t126 _ A7.out).mono ?_); rintro e w' ⟨rfl, ⟨nd, rfl⟩⟩; refine ⟨_, rfl, ?_⟩) | ((with_reducible refine gate_callee (f := 90) rfl ?_); refine goesL_ (some 57) rfl rfl Try.func90 (by kernel_rfl) rfl #[.bool true, .int .u8 4] rfl (by (try simp only [List.map_toArray, List.map_cons, List.map_nil]); first | done | rfl | (simp only [List.length_drop, List.length_take]; rfl)) ?_; (with_reducible refine (alu_if1.calls true 4 t127 _ A9.out).mono ?_); rintro e w' ⟨rfl, ⟨nd, rfl⟩⟩; refine ⟨_, rfl, ?_⟩))
    go_ret2
    exact ⟨by first | rfl | (simp; done) | (simp [*]; done), by repeat (first | exact Drawn0.refl _ | apply Drawn0.step)⟩
  · rw [if_neg c8] at H
    have c8b0 : decide ((wrap64 ((wrap64 ((wrap64 (IntKind.i8.wrap (a0))) - (wrap64 (IntKind.i8.wrap (a1))))) - (wrap64 (t123)))) < (-128)) = false := decide_eq_false c8
    clear c8
    replace H := Option.bind_eq_some_iff.mp H
    obtain ⟨t128, A100, H⟩ := H
    replace H : (some ((wrap64 ((wrap64 ((wrap64 (a0)) - (wrap64 (a1)))) - (wrap64 (t123)))) % 256, Go.bits .or .u8 (Go.bits .or .u8 (Go.bits .or .u8 (Go.bits .or .u8 t124 2) t125) t126) t128)) = some (r1, r2) := H
    have A10 := Aside0.mk A100
    clear A100
    simp only [Option.some.injEq, Prod.mk.injEq] at H
    obtain ⟨rfl, rfl⟩ := H
    go_enter Try.func38, Try.ntmps38
    go_wp2_with (first | ((with_reducible refine gate_callee (f := 90) rfl ?_); refine goesL_ (some 12) rfl rfl Try.func90 (by kernel_rfl) rfl #[.bool a2, .int .u8 1] rfl (by (try simp only [List.map_toArray, List.map_cons, List.map_nil]); first | done | rfl | (simp only [List.length_drop, List.length_take]; rfl)) ?_; (with_reducible refine (alu_if1.calls a2 1 t123 _ A4.out).mono ?_); rintro e w' ⟨rfl, ⟨nd, rfl⟩⟩; refine ⟨_, rfl, ?_⟩) | ((with_reducible refine gate_callee (f := 91) rfl ?_); refine goesL_ (some 33) rfl rfl Try.func91 (by kernel_rfl) rfl #[.int .u8 ((wrap64 ((wrap64 ((wrap64 (a0)) - (wrap64 (a1)))) - (wrap64 (t123)))) % 256)] rfl (by (try simp only [List.map_toArray, List.map_cons, List.map_nil]); first | done | rfl | (simp only [List.length_drop, List.length_take]; rfl)) ?_; (with_reducible refine (alu_Own.calls ((wrap64 ((wrap64 ((wrap64 (a0)) - (wrap64 (a1)))) - (wrap64 (t123)))) % 256) t124 _ A5.out).mono ?_); rintro e w' ⟨rfl, ⟨nd, rfl⟩⟩; refine ⟨_, rfl, ?_⟩) | ((with_reducible refine gate_callee (f := 90) rfl ?_); refine goesL_ (some 37) rfl rfl Try.func90 (by kernel_rfl) rfl #[.bool (decide ((wrap64 ((wrap64 ((wrap64 (a0)) - (wrap64 (a1)))) - (wrap64 (t123)))) < 0)), .int .u8 1] rfl (by (try simp only [List.map_toArray, List.map_cons, List.map_nil]); first | done | rfl | (simp only [List.length_drop, List.length_take]; rfl)) ?_; (with_reducible refine (alu_if1.calls (decide ((wrap64 ((wrap64 ((wrap64 (a0)) - (wrap64 (a1)))) - (wrap64 (t123)))) < 0)) 1 t125 _ A6.out).mono ?_); rintro e w' ⟨rfl, ⟨nd, rfl⟩⟩; refine ⟨_, rfl, ?_⟩) | ((with_reducible refine gate_callee (f := 90) rfl ?_); refine goesL_ (some 49) rfl rfl Try.func90 (by kernel_rfl) rfl #[.bool (decide ((wrap64 ((wrap64 ((wrap64 (Go.bits .and .u8 a0 15)) - (wrap64 (Go.bits .and .u8 a1 15)))) - (wrap64 (t123)))) < 0)), .int .u8 16] rfl (by (try simp only [List.map_toArray, List.map_cons, List.map_nil]); first | done | rfl | (simp only [List.length_drop, List.length_take]; rfl)) ?_; (with_reducible refine (alu_if1.calls (decide ((wrap64 ((wrap64 ((wrap64 (Go.bits .and .u8 a0 15)) - (wrap64 (Go.bits .and .u8 a1 15)))) - (wrap64 (t123)))) < 0)) 16 t126 _ A7.out).mono ?_); rintro e w' ⟨rfl, ⟨nd, rfl⟩⟩; refine ⟨_, rfl, ?_⟩) | ((with_reducible refine gate_callee (f := 90) rfl ?_); refine goesL_ (some 57) rfl rfl Try.func90 (by kernel_rfl) rfl #[.bool (decide ((wrap64 ((wrap64 ((wrap64 (IntKind.i8.wrap (a0))) - (wrap64 (IntKind.i8.wrap (a1))))) - (wrap64 (t123)))) > 127)), .int .u8 4] rfl (by (try simp only [List.map_toArray, List.map_cons, List.map_nil]); first | done | rfl | (simp only [List.length_drop, List.length_take]; rfl)) ?_; (with_reducible refine (alu_if1.calls (decide ((wrap64 ((wrap64 ((wrap64 (IntKind.i8.wrap (a0))) - (wrap64 (IntKind.i8.wrap (a1))))) - (wrap64 (t123)))) > 127)) 4 t128 _ A10.out).mono ?_); rintro e w' ⟨rfl, ⟨nd, rfl⟩⟩; refine ⟨_, rfl, ?_⟩))
    go_ret2
    exact ⟨by first | rfl | (simp; done) | (simp [*]; done), by repeat (first | exact Drawn0.refl _ | apply Drawn0.step)⟩

/-! ### wide_Find: function 56 -/
def wide_Find.f (a0 : Int) (a1 : Int) (a2 : Int) (a3 : Int) : Option (Int) := (alu_Sub.f a0 a1 false).bind fun bt129 => (if (Go.bits .and .u8 (Go.bits .and .u8 bt129.2 208) 16) = 0 then ((wide_odd.f bt129.1).bind fun t131 => ((wide_if1.f (a2 != 0) 4).bind fun t132 => (some (Go.bits .or .u8 (Go.bits .or .u8 (Go.bits .or .u8 (Go.bits .or .u8 (Go.bits .and .u8 bt129.2 208) 2) t131) t132) (Go.bits .and .u8 a3 1))))) else ((wide_odd.f ((bt129.1 - 1) % 256)).bind fun t133 => ((wide_if1.f (a2 != 0) 4).bind fun t134 => (some (Go.bits .or .u8 (Go.bits .or .u8 (Go.bits .or .u8 (Go.bits .or .u8 (Go.bits .and .u8 bt129.2 208) 2) t133) t134) (Go.bits .and .u8 a3 1))))))
set_option maxHeartbeats 8000000 in
set_option maxRecDepth 100000 in
theorem wide_Find.calls (a0 : Int) (a1 : Int) (a2 : Int) (a3 : Int) (r : Int) (w : World) (h : wide_Find.f a0 a1 a2 a3 = some r) :
    Calls Try.prog 56 #[.int .u8 a0, .int .u8 a1, .int .u16 a2, .int .u8 a3] w fun e w' => e = .returned (.int .u8 r) ∧ Drawn0 w w' := by
  have H : ((alu_Sub.f a0 a1 false).bind fun bt129 => (if (Go.bits .and .u8 (Go.bits .and .u8 bt129.2 208) 16) = 0 then ((wide_odd.f bt129.1).bind fun t131 => ((wide_if1.f (a2 != 0) 4).bind fun t132 => (some (Go.bits .or .u8 (Go.bits .or .u8 (Go.bits .or .u8 (Go.bits .or .u8 (Go.bits .and .u8 bt129.2 208) 2) t131) t132) (Go.bits .and .u8 a3 1))))) else ((wide_odd.f ((bt129.1 - 1) % 256)).bind fun t133 => ((wide_if1.f (a2 != 0) 4).bind fun t134 => (some (Go.bits .or .u8 (Go.bits .or .u8 (Go.bits .or .u8 (Go.bits .or .u8 (Go.bits .and .u8 bt129.2 208) 2) t133) t134) (Go.bits .and .u8 a3 1))))))) = some r := h
  clear h
  replace H := Option.bind_eq_some_iff.mp H
  obtain ⟨⟨t129, t130⟩, A50, H⟩ := H
  replace H : (if (Go.bits .and .u8 (Go.bits .and .u8 t130 208) 16) = 0 then ((wide_odd.f t129).bind fun t131 => ((wide_if1.f (a2 != 0) 4).bind fun t132 => (some (Go.bits .or .u8 (Go.bits .or .u8 (Go.bits .or .u8 (Go.bits .or .u8 (Go.bits .and .u8 t130 208) 2) t131) t132) (Go.bits .and .u8 a3 1))))) else ((wide_odd.f ((t129 - 1) % 256)).bind fun t133 => ((wide_if1.f (a2 != 0) 4).bind fun t134 => (some (Go.bits .or .u8 (Go.bits .or .u8 (Go.bits .or .u8 (Go.bits .or .u8 (Go.bits .and .u8 t130 208) 2) t133) t134) (Go.bits .and .u8 a3 1)))))) = some r := H
  have A5 := Aside0.mk A50
  clear A50
  by_cases c6 : (Go.bits .and .u8 (Go.bits .and .u8 t130 208) 16) = 0
  · rw [if_pos c6] at H
    have c6b0 : ((Go.bits .and .u8 (Go.bits .and .u8 t130 208) 16) == 0) = true := beq_iff_eq.mpr c6
    have c6b1 : ((Go.bits .and .u8 (Go.bits .and .u8 t130 208) 16) != 0) = false := bne_eq_false_iff_eq.mpr c6
    clear c6
    replace H := Option.bind_eq_some_iff.mp H
    obtain ⟨t131, A70, H⟩ := H
    replace H : ((wide_if1.f (a2 != 0) 4).bind fun t132 => (some (Go.bits .or .u8 (Go.bits .or .u8 (Go.bits .or .u8 (Go.bits .or .u8 (Go.bits .and .u8 t130 208) 2) t131) t132) (Go.bits .and .u8 a3 1)))) = some r := H
    have A7 := Aside0.mk A70
    clear A70
    replace H := Option.bind_eq_some_iff.mp H
    obtain ⟨t132, A80, H⟩ := H
    replace H : (some (Go.bits .or .u8 (Go.bits .or .u8 (Go.bits .or .u8 (Go.bits .or .u8 (Go.bits .and .u8 t130 208) 2) t131) t132) (Go.bits .and .u8 a3 1))) = some r := H
    have A8 := Aside0.mk A80
    clear A80
    obtain rfl := Option.some.inj H
    go_enter Try.func56, Try.ntmps56
    go_wp2_with (first | ((with_reducible refine gate_callee (f := 38) rfl ?_); refine goesL_ (some 14) rfl rfl Try.func38 (by kernel_rfl) rfl #[.int .u8 a0, .int .u8 a1, .bool false] rfl (by (try simp only [List.map_toArray, List.map_cons, List.map_nil]); first | done | rfl | (simp only [List.length_drop, List.length_take]; rfl)) ?_; (with_reducible refine (alu_Sub.calls a0 a1 false t129 t130 _ A5.out).mono ?_); rintro e w' ⟨rfl, ⟨nd, rfl⟩⟩; refine ⟨_, rfl, ?_⟩) | ((with_reducible refine gate_callee (f := 92) rfl ?_); refine goesL_ (some 27) rfl rfl Try.func92 (by kernel_rfl) rfl #[.int .u8 t129] rfl (by (try simp only [List.map_toArray, List.map_cons, List.map_nil]); first | done | rfl | (simp only [List.length_drop, List.length_take]; rfl)) ?_; (with_reducible refine (wide_odd.calls t129 t131 _ A7.out).mono ?_); rintro e w' ⟨rfl, ⟨nd, rfl⟩⟩; refine ⟨_, rfl, ?_⟩) | ((with_reducible refine gate_callee (f := 81) rfl ?_); refine goesL_ (some 31) rfl rfl Try.func81 (by kernel_rfl) rfl #[.bool (a2 != 0), .int .u8 4] rfl (by (try simp only [List.map_toArray, List.map_cons, List.map_nil]); first | done | rfl | (simp only [List.length_drop, List.length_take]; rfl)) ?_; (with_reducible refine (wide_if1.calls (a2 != 0) 4 t132 _ A8.out).mono ?_); rintro e w' ⟨rfl, ⟨nd, rfl⟩⟩; refine ⟨_, rfl, ?_⟩))
    go_ret
    exact ⟨by first | rfl | (simp; done) | (simp [*]; done), by repeat (first | exact Drawn0.refl _ | apply Drawn0.step)⟩
  · rw [if_neg c6] at H
    have c6b0 : ((Go.bits .and .u8 (Go.bits .and .u8 t130 208) 16) == 0) = false := beq_eq_false_iff_ne.mpr c6
    have c6b1 : ((Go.bits .and .u8 (Go.bits .and .u8 t130 208) 16) != 0) = true := bne_iff_ne.mpr c6
    replace H := Option.bind_eq_some_iff.mp H
    obtain ⟨t133, A90, H⟩ := H
    replace H : ((wide_if1.f (a2 != 0) 4).bind fun t134 => (some (Go.bits .or .u8 (Go.bits .or .u8 (Go.bits .or .u8 (Go.bits .or .u8 (Go.bits .and .u8 t130 208) 2) t133) t134) (Go.bits .and .u8 a3 1)))) = some r := H
    have A9 := Aside0.mk A90
    clear A90
    replace H := Option.bind_eq_some_iff.mp H
    obtain ⟨t134, A100, H⟩ := H
    replace H : (some (Go.bits .or .u8 (Go.bits .or .u8 (Go.bits .or .u8 (Go.bits .or .u8 (Go.bits .and .u8 t130 208) 2) t133) t134) (Go.bits .and .u8 a3 1))) = some r := H
    have A10 := Aside0.mk A100
    clear A100
    obtain rfl := Option.some.inj H
    go_enter Try.func56, Try.ntmps56
    go_wp2_with (first | ((with_reducible refine gate_callee (f := 38) rfl ?_); refine goesL_ (some 14) rfl rfl Try.func38 (by kernel_rfl) rfl #[.int .u8 a0, .int .u8 a1, .bool false] rfl (by (try simp only [List.map_toArray, List.map_cons, List.map_nil]); first | done | rfl | (simp only [List.length_drop, List.length_take]; rfl)) ?_; (with_reducible refine (alu_Sub.calls a0 a1 false t129 t130 _ A5.out).mono ?_); rintro e w' ⟨rfl, ⟨nd, rfl⟩⟩; refine ⟨_, rfl, ?_⟩) | ((with_reducible refine gate_callee (f := 92) rfl ?_); refine goesL_ (some 27) rfl rfl Try.func92 (by kernel_rfl) rfl #[.int .u8 ((t129 - 1) % 256)] rfl (by (try simp only [List.map_toArray, List.map_cons, List.map_nil]); first | done | rfl | (simp only [List.length_drop, List.length_take]; rfl)) ?_; (with_reducible refine (wide_odd.calls ((t129 - 1) % 256) t133 _ A9.out).mono ?_); rintro e w' ⟨rfl, ⟨nd, rfl⟩⟩; refine ⟨_, rfl, ?_⟩) | ((with_reducible refine gate_callee (f := 81) rfl ?_); refine goesL_ (some 31) rfl rfl Try.func81 (by kernel_rfl) rfl #[.bool (a2 != 0), .int .u8 4] rfl (by (try simp only [List.map_toArray, List.map_cons, List.map_nil]); first | done | rfl | (simp only [List.length_drop, List.length_take]; rfl)) ?_; (with_reducible refine (wide_if1.calls (a2 != 0) 4 t134 _ A10.out).mono ?_); rintro e w' ⟨rfl, ⟨nd, rfl⟩⟩; refine ⟨_, rfl, ?_⟩))
    go_ret
    exact ⟨by first | rfl | (simp; done) | (simp [*]; done), by repeat (first | exact Drawn0.refl _ | apply Drawn0.step)⟩

/-! ### bits_OnesCount8: function 105 -/
def bits_OnesCount8.f (a0 : Int) : Option (Int) := if 0 ≤ a0 then (if a0 < 256 then (some (wrap64 (bt (⟨#[0, 1, 1, 2, 1, 2, 2, 3, 1, 2, 2, 3, 2, 3, 3, 4, 1, 2, 2, 3, 2, 3, 3, 4, 2, 3, 3, 4, 3, 4, 4, 5, 1, 2, 2, 3, 2, 3, 3, 4, 2, 3, 3, 4, 3, 4, 4, 5, 2, 3, 3, 4, 3, 4, 4, 5, 3, 4, 4, 5, 4, 5, 5, 6, 1, 2, 2, 3, 2, 3, 3, 4, 2, 3, 3, 4, 3, 4, 4, 5, 2, 3, 3, 4, 3, 4, 4, 5, 3, 4, 4, 5, 4, 5, 5, 6, 2, 3, 3, 4, 3, 4, 4, 5, 3, 4, 4, 5, 4, 5, 5, 6, 3, 4, 4, 5, 4, 5, 5, 6, 4, 5, 5, 6, 5, 6, 6, 7, 1, 2, 2, 3, 2, 3, 3, 4, 2, 3, 3, 4, 3, 4, 4, 5, 2, 3, 3, 4, 3, 4, 4, 5, 3, 4, 4, 5, 4, 5, 5, 6, 2, 3, 3, 4, 3, 4, 4, 5, 3, 4, 4, 5, 4, 5, 5, 6, 3, 4, 4, 5, 4, 5, 5, 6, 4, 5, 5, 6, 5, 6, 6, 7, 2, 3, 3, 4, 3, 4, 4, 5, 3, 4, 4, 5, 4, 5, 5, 6, 3, 4, 4, 5, 4, 5, 5, 6, 4, 5, 5, 6, 5, 6, 6, 7, 3, 4, 4, 5, 4, 5, 5, 6, 4, 5, 5, 6, 5, 6, 6, 7, 4, 5, 5, 6, 5, 6, 6, 7, 5, 6, 6, 7, 6, 7, 7, 8]⟩ : ByteArray) a0))) else (none)) else (none)
set_option maxHeartbeats 8000000 in
set_option maxRecDepth 100000 in
theorem bits_OnesCount8.calls (a0 : Int) (r : Int) (w : World) (h : bits_OnesCount8.f a0 = some r) :
    Calls Try.prog 105 #[.int .u8 a0] w fun e w' => e = .returned (.int .i64 r) ∧ Drawn0 w w' := by
  have H : (if 0 ≤ a0 then (if a0 < 256 then (some (wrap64 (bt (⟨#[0, 1, 1, 2, 1, 2, 2, 3, 1, 2, 2, 3, 2, 3, 3, 4, 1, 2, 2, 3, 2, 3, 3, 4, 2, 3, 3, 4, 3, 4, 4, 5, 1, 2, 2, 3, 2, 3, 3, 4, 2, 3, 3, 4, 3, 4, 4, 5, 2, 3, 3, 4, 3, 4, 4, 5, 3, 4, 4, 5, 4, 5, 5, 6, 1, 2, 2, 3, 2, 3, 3, 4, 2, 3, 3, 4, 3, 4, 4, 5, 2, 3, 3, 4, 3, 4, 4, 5, 3, 4, 4, 5, 4, 5, 5, 6, 2, 3, 3, 4, 3, 4, 4, 5, 3, 4, 4, 5, 4, 5, 5, 6, 3, 4, 4, 5, 4, 5, 5, 6, 4, 5, 5, 6, 5, 6, 6, 7, 1, 2, 2, 3, 2, 3, 3, 4, 2, 3, 3, 4, 3, 4, 4, 5, 2, 3, 3, 4, 3, 4, 4, 5, 3, 4, 4, 5, 4, 5, 5, 6, 2, 3, 3, 4, 3, 4, 4, 5, 3, 4, 4, 5, 4, 5, 5, 6, 3, 4, 4, 5, 4, 5, 5, 6, 4, 5, 5, 6, 5, 6, 6, 7, 2, 3, 3, 4, 3, 4, 4, 5, 3, 4, 4, 5, 4, 5, 5, 6, 3, 4, 4, 5, 4, 5, 5, 6, 4, 5, 5, 6, 5, 6, 6, 7, 3, 4, 4, 5, 4, 5, 5, 6, 4, 5, 5, 6, 5, 6, 6, 7, 4, 5, 5, 6, 5, 6, 6, 7, 5, 6, 6, 7, 6, 7, 7, 8]⟩ : ByteArray) a0))) else (none)) else (none)) = some r := h
  clear h
  by_cases c2 : 0 ≤ a0
  · rw [if_pos c2] at H
    have c2b0 : decide (0 ≤ a0) = true := decide_eq_true c2
    clear c2
    by_cases c3 : a0 < 256
    · rw [if_pos c3] at H
      have c3b0 : decide (a0 < 256) = true := decide_eq_true c3
      clear c3
      obtain rfl := Option.some.inj H
      have p4 : 0 ≤ (a0 : Int) := of_decide_eq_true (by first | (with_reducible assumption) | assumption)
      have q4 : a0 < (256 : Int) := of_decide_eq_true (by first | (with_reducible assumption) | assumption)
      have hx4 := bt_at (⟨#[0, 1, 1, 2, 1, 2, 2, 3, 1, 2, 2, 3, 2, 3, 3, 4, 1, 2, 2, 3, 2, 3, 3, 4, 2, 3, 3, 4, 3, 4, 4, 5, 1, 2, 2, 3, 2, 3, 3, 4, 2, 3, 3, 4, 3, 4, 4, 5, 2, 3, 3, 4, 3, 4, 4, 5, 3, 4, 4, 5, 4, 5, 5, 6, 1, 2, 2, 3, 2, 3, 3, 4, 2, 3, 3, 4, 3, 4, 4, 5, 2, 3, 3, 4, 3, 4, 4, 5, 3, 4, 4, 5, 4, 5, 5, 6, 2, 3, 3, 4, 3, 4, 4, 5, 3, 4, 4, 5, 4, 5, 5, 6, 3, 4, 4, 5, 4, 5, 5, 6, 4, 5, 5, 6, 5, 6, 6, 7, 1, 2, 2, 3, 2, 3, 3, 4, 2, 3, 3, 4, 3, 4, 4, 5, 2, 3, 3, 4, 3, 4, 4, 5, 3, 4, 4, 5, 4, 5, 5, 6, 2, 3, 3, 4, 3, 4, 4, 5, 3, 4, 4, 5, 4, 5, 5, 6, 3, 4, 4, 5, 4, 5, 5, 6, 4, 5, 5, 6, 5, 6, 6, 7, 2, 3, 3, 4, 3, 4, 4, 5, 3, 4, 4, 5, 4, 5, 5, 6, 3, 4, 4, 5, 4, 5, 5, 6, 4, 5, 5, 6, 5, 6, 6, 7, 3, 4, 4, 5, 4, 5, 5, 6, 4, 5, 5, 6, 5, 6, 6, 7, 4, 5, 5, 6, 5, 6, 6, 7, 5, 6, 6, 7, 6, 7, 7, 8]⟩ : ByteArray) a0
      replace p4 := eq_true p4
      replace q4 := eq_true q4
      go_enter Try.func105, Try.ntmps105
      go_wp2
      go_ret
      exact ⟨by first | rfl | (simp; done) | (simp [*]; done), by repeat (first | exact Drawn0.refl _ | apply Drawn0.step)⟩
    · rw [if_neg c3] at H
      exact absurd H (by simp)
  · rw [if_neg c2] at H
    exact absurd H (by simp)

/-! ### alu_Parity: function 99 -/
def alu_Parity.f (a0 : Int) : Option (Bool) := (bits_OnesCount8.f a0).bind fun t135 => (some ((Int.tmod t135 2) == 0))
set_option maxHeartbeats 8000000 in
set_option maxRecDepth 100000 in
theorem alu_Parity.calls (a0 : Int) (r : Bool) (w : World) (h : alu_Parity.f a0 = some r) :
    Calls Try.prog 99 #[.int .u8 a0] w fun e w' => e = .returned (.bool r) ∧ Drawn0 w w' := by
  have H : ((bits_OnesCount8.f a0).bind fun t135 => (some ((Int.tmod t135 2) == 0))) = some r := h
  clear h
  replace H := Option.bind_eq_some_iff.mp H
  obtain ⟨t135, A20, H⟩ := H
  replace H : (some ((Int.tmod t135 2) == 0)) = some r := H
  have A2 := Aside0.mk A20
  clear A20
  obtain rfl := Option.some.inj H
  go_enter Try.func99, Try.ntmps99
  go_wp2_with (first | ((with_reducible refine gate_callee (f := 105) rfl ?_); refine goesL_ (some 4) rfl rfl Try.func105 (by kernel_rfl) rfl #[.int .u8 a0] rfl (by (try simp only [List.map_toArray, List.map_cons, List.map_nil]); first | done | rfl | (simp only [List.length_drop, List.length_take]; rfl)) ?_; (with_reducible refine (bits_OnesCount8.calls a0 t135 _ A2.out).mono ?_); rintro e w' ⟨rfl, ⟨nd, rfl⟩⟩; refine ⟨_, rfl, ?_⟩))
  go_ret
  exact ⟨by first | rfl | (simp; done) | (simp [*]; done), by repeat (first | exact Drawn0.refl _ | apply Drawn0.step)⟩

/-! ### wide_Port: function 58 -/
def wide_Port.f (a0 : Int) (a1 : Int) (a2 : Int) : Option (Int) := (alu_Own.f a1).bind fun t136 => ((wide_if1.f ((Go.bits .and .u8 a0 128) != 0) 2).bind fun t137 => ((wide_if1.f (decide ((wrap64 ((wrap64 (a0)) + (wrap64 (a2)))) > 255)) 17).bind fun t138 => ((alu_Parity.f (Go.bits .xor .u8 ((Go.bits .and .i64 (wrap64 ((wrap64 (a0)) + (wrap64 (a2)))) 7) % 256) a1)).bind fun t139 => ((wide_if1.f t139 4).bind fun t140 => (some (Go.bits .or .u8 (Go.bits .or .u8 (Go.bits .or .u8 t136 t137) t138) t140))))))
set_option maxHeartbeats 8000000 in
set_option maxRecDepth 100000 in
theorem wide_Port.calls (a0 : Int) (a1 : Int) (a2 : Int) (r : Int) (w : World) (h : wide_Port.f a0 a1 a2 = some r) :
    Calls Try.prog 58 #[.int .u8 a0, .int .u8 a1, .int .u8 a2] w fun e w' => e = .returned (.int .u8 r) ∧ Drawn0 w w' := by
  have H : ((alu_Own.f a1).bind fun t136 => ((wide_if1.f ((Go.bits .and .u8 a0 128) != 0) 2).bind fun t137 => ((wide_if1.f (decide ((wrap64 ((wrap64 (a0)) + (wrap64 (a2)))) > 255)) 17).bind fun t138 => ((alu_Parity.f (Go.bits .xor .u8 ((Go.bits .and .i64 (wrap64 ((wrap64 (a0)) + (wrap64 (a2)))) 7) % 256) a1)).bind fun t139 => ((wide_if1.f t139 4).bind fun t140 => (some (Go.bits .or .u8 (Go.bits .or .u8 (Go.bits .or .u8 t136 t137) t138) t140))))))) = some r := h
  clear h
  replace H := Option.bind_eq_some_iff.mp H
  obtain ⟨t136, A40, H⟩ := H
  replace H : ((wide_if1.f ((Go.bits .and .u8 a0 128) != 0) 2).bind fun t137 => ((wide_if1.f (decide ((wrap64 ((wrap64 (a0)) + (wrap64 (a2)))) > 255)) 17).bind fun t138 => ((alu_Parity.f (Go.bits .xor .u8 ((Go.bits .and .i64 (wrap64 ((wrap64 (a0)) + (wrap64 (a2)))) 7) % 256) a1)).bind fun t139 => ((wide_if1.f t139 4).bind fun t140 => (some (Go.bits .or .u8 (Go.bits .or .u8 (Go.bits .or .u8 t136 t137) t138) t140)))))) = some r := H
  have A4 := Aside0.mk A40
  clear A40
  replace H := Option.bind_eq_some_iff.mp H
  obtain ⟨t137, A50, H⟩ := H
  replace H : ((wide_if1.f (decide ((wrap64 ((wrap64 (a0)) + (wrap64 (a2)))) > 255)) 17).bind fun t138 => ((alu_Parity.f (Go.bits .xor .u8 ((Go.bits .and .i64 (wrap64 ((wrap64 (a0)) + (wrap64 (a2)))) 7) % 256) a1)).bind fun t139 => ((wide_if1.f t139 4).bind fun t140 => (some (Go.bits .or .u8 (Go.bits .or .u8 (Go.bits .or .u8 t136 t137) t138) t140))))) = some r := H
  have A5 := Aside0.mk A50
  clear A50
  replace H := Option.bind_eq_some_iff.mp H
  obtain ⟨t138, A60, H⟩ := H
  replace H : ((alu_Parity.f (Go.bits .xor .u8 ((Go.bits .and .i64 (wrap64 ((wrap64 (a0)) + (wrap64 (a2)))) 7) % 256) a1)).bind fun t139 => ((wide_if1.f t139 4).bind fun t140 => (some (Go.bits .or .u8 (Go.bits .or .u8 (Go.bits .or .u8 t136 t137) t138) t140)))) = some r := H
  have A6 := Aside0.mk A60
  clear A60
  replace H := Option.bind_eq_some_iff.mp H
  obtain ⟨t139, A70, H⟩ := H
  replace H : ((wide_if1.f t139 4).bind fun t140 => (some (Go.bits .or .u8 (Go.bits .or .u8 (Go.bits .or .u8 t136 t137) t138) t140))) = some r := H
  have A7 := Aside0.mk A70
  clear A70
  replace H := Option.bind_eq_some_iff.mp H
  obtain ⟨t140, A80, H⟩ := H
  replace H : (some (Go.bits .or .u8 (Go.bits .or .u8 (Go.bits .or .u8 t136 t137) t138) t140)) = some r := H
  have A8 := Aside0.mk A80
  clear A80
  obtain rfl := Option.some.inj H
  go_enter Try.func58, Try.ntmps58
  go_wp2_with (first | ((with_reducible refine gate_callee (f := 91) rfl ?_); refine goesL_ (some 14) rfl rfl Try.func91 (by kernel_rfl) rfl #[.int .u8 a1] rfl (by (try simp only [List.map_toArray, List.map_cons, List.map_nil]); first | done | rfl | (simp only [List.length_drop, List.length_take]; rfl)) ?_; (with_reducible refine (alu_Own.calls a1 t136 _ A4.out).mono ?_); rintro e w' ⟨rfl, ⟨nd, rfl⟩⟩; refine ⟨_, rfl, ?_⟩) | ((with_reducible refine gate_callee (f := 81) rfl ?_); refine goesL_ (some 18) rfl rfl Try.func81 (by kernel_rfl) rfl #[.bool ((Go.bits .and .u8 a0 128) != 0), .int .u8 2] rfl (by (try simp only [List.map_toArray, List.map_cons, List.map_nil]); first | done | rfl | (simp only [List.length_drop, List.length_take]; rfl)) ?_; (with_reducible refine (wide_if1.calls ((Go.bits .and .u8 a0 128) != 0) 2 t137 _ A5.out).mono ?_); rintro e w' ⟨rfl, ⟨nd, rfl⟩⟩; refine ⟨_, rfl, ?_⟩) | ((with_reducible refine gate_callee (f := 81) rfl ?_); refine goesL_ (some 22) rfl rfl Try.func81 (by kernel_rfl) rfl #[.bool (decide ((wrap64 ((wrap64 (a0)) + (wrap64 (a2)))) > 255)), .int .u8 17] rfl (by (try simp only [List.map_toArray, List.map_cons, List.map_nil]); first | done | rfl | (simp only [List.length_drop, List.length_take]; rfl)) ?_; (with_reducible refine (wide_if1.calls (decide ((wrap64 ((wrap64 (a0)) + (wrap64 (a2)))) > 255)) 17 t138 _ A6.out).mono ?_); rintro e w' ⟨rfl, ⟨nd, rfl⟩⟩; refine ⟨_, rfl, ?_⟩) | ((with_reducible refine gate_callee (f := 99) rfl ?_); refine goesL_ (some 29) rfl rfl Try.func99 (by kernel_rfl) rfl #[.int .u8 (Go.bits .xor .u8 ((Go.bits .and .i64 (wrap64 ((wrap64 (a0)) + (wrap64 (a2)))) 7) % 256) a1)] rfl (by (try simp only [List.map_toArray, List.map_cons, List.map_nil]); first | done | rfl | (simp only [List.length_drop, List.length_take]; rfl)) ?_; (with_reducible refine (alu_Parity.calls (Go.bits .xor .u8 ((Go.bits .and .i64 (wrap64 ((wrap64 (a0)) + (wrap64 (a2)))) 7) % 256) a1) t139 _ A7.out).mono ?_); rintro e w' ⟨rfl, ⟨nd, rfl⟩⟩; refine ⟨_, rfl, ?_⟩) | ((with_reducible refine gate_callee (f := 81) rfl ?_); refine goesL_ (some 30) rfl rfl Try.func81 (by kernel_rfl) rfl #[.bool t139, .int .u8 4] rfl (by (try simp only [List.map_toArray, List.map_cons, List.map_nil]); first | done | rfl | (simp only [List.length_drop, List.length_take]; rfl)) ?_; (with_reducible refine (wide_if1.calls t139 4 t140 _ A8.out).mono ?_); rintro e w' ⟨rfl, ⟨nd, rfl⟩⟩; refine ⟨_, rfl, ?_⟩))
  go_ret
  exact ⟨by first | rfl | (simp; done) | (simp [*]; done), by repeat (first | exact Drawn0.refl _ | apply Drawn0.step)⟩

/-! ### pendulumlaw07_WideLeft: function 14 -/
def pendulumlaw07_WideLeft.f (a0 : Int) (a1 : Int) (a2 : Int) (a3 : Int) : Option (Bool) := (pendulumlaw07_lives.f).bind fun t141 => (if t141 = true then ((wide_Move.f a0 a1 a3 a2).bind fun t142 => ((wide_Find.f a0 a1 a3 a2).bind fun t143 => ((wide_Port.f a0 a1 a2).bind fun t144 => (if (((Go.bits .and .u8 t142 4) != 0) == (a3 != 0)) = true then (if (((Go.bits .and .u8 t143 4) != 0) == (a3 != 0)) = true then (if (((Go.bits .and .u8 t143 64) != 0) == (a0 == a1)) = true then (if (Go.bits .and .u8 t142 193) = (Go.bits .and .u8 a2 193) then (if (Go.bits .and .u8 t143 1) = (Go.bits .and .u8 a2 1) then (if (Go.bits .and .u8 t143 2) = 0 then (some false) else (if (Go.bits .and .u8 t142 18) = 0 then (if (((Go.bits .and .u8 t144 64) != 0) == (a1 == 0)) = true then (some (((Go.bits .and .u8 t144 16) != 0) == ((Go.bits .and .u8 t144 1) != 0))) else (some false)) else (some false))) else (some false)) else (some false)) else (some false)) else (some false)) else (some false))))) else (some false))
set_option maxHeartbeats 8000000 in
set_option maxRecDepth 100000 in
theorem pendulumlaw07_WideLeft.calls (a0 : Int) (a1 : Int) (a2 : Int) (a3 : Int) (r : Bool) (w : World) (h : pendulumlaw07_WideLeft.f a0 a1 a2 a3 = some r) (hr : r = true) :
    Calls Try.prog 14 #[.int .u8 a0, .int .u8 a1, .int .u8 a2, .int .u16 a3] w fun e w' => e = .returned (.bool r) ∧ Drawn0 w w' := by
  have H : ((pendulumlaw07_lives.f).bind fun t141 => (if t141 = true then ((wide_Move.f a0 a1 a3 a2).bind fun t142 => ((wide_Find.f a0 a1 a3 a2).bind fun t143 => ((wide_Port.f a0 a1 a2).bind fun t144 => (if (((Go.bits .and .u8 t142 4) != 0) == (a3 != 0)) = true then (if (((Go.bits .and .u8 t143 4) != 0) == (a3 != 0)) = true then (if (((Go.bits .and .u8 t143 64) != 0) == (a0 == a1)) = true then (if (Go.bits .and .u8 t142 193) = (Go.bits .and .u8 a2 193) then (if (Go.bits .and .u8 t143 1) = (Go.bits .and .u8 a2 1) then (if (Go.bits .and .u8 t143 2) = 0 then (some false) else (if (Go.bits .and .u8 t142 18) = 0 then (if (((Go.bits .and .u8 t144 64) != 0) == (a1 == 0)) = true then (some (((Go.bits .and .u8 t144 16) != 0) == ((Go.bits .and .u8 t144 1) != 0))) else (some false)) else (some false))) else (some false)) else (some false)) else (some false)) else (some false)) else (some false))))) else (some false))) = some r := h
  clear h
  replace H := Option.bind_eq_some_iff.mp H
  obtain ⟨t141, A50, H⟩ := H
  replace H : (if t141 = true then ((wide_Move.f a0 a1 a3 a2).bind fun t142 => ((wide_Find.f a0 a1 a3 a2).bind fun t143 => ((wide_Port.f a0 a1 a2).bind fun t144 => (if (((Go.bits .and .u8 t142 4) != 0) == (a3 != 0)) = true then (if (((Go.bits .and .u8 t143 4) != 0) == (a3 != 0)) = true then (if (((Go.bits .and .u8 t143 64) != 0) == (a0 == a1)) = true then (if (Go.bits .and .u8 t142 193) = (Go.bits .and .u8 a2 193) then (if (Go.bits .and .u8 t143 1) = (Go.bits .and .u8 a2 1) then (if (Go.bits .and .u8 t143 2) = 0 then (some false) else (if (Go.bits .and .u8 t142 18) = 0 then (if (((Go.bits .and .u8 t144 64) != 0) == (a1 == 0)) = true then (some (((Go.bits .and .u8 t144 16) != 0) == ((Go.bits .and .u8 t144 1) != 0))) else (some false)) else (some false))) else (some false)) else (some false)) else (some false)) else (some false)) else (some false))))) else (some false)) = some r := H
  have A5 := Aside0.mk A50
  clear A50
  by_cases c6 : t141 = true
  · subst c6
    have H1 : ((wide_Move.f a0 a1 a3 a2).bind fun t142 => ((wide_Find.f a0 a1 a3 a2).bind fun t143 => ((wide_Port.f a0 a1 a2).bind fun t144 => (if (((Go.bits .and .u8 t142 4) != 0) == (a3 != 0)) = true then (if (((Go.bits .and .u8 t143 4) != 0) == (a3 != 0)) = true then (if (((Go.bits .and .u8 t143 64) != 0) == (a0 == a1)) = true then (if (Go.bits .and .u8 t142 193) = (Go.bits .and .u8 a2 193) then (if (Go.bits .and .u8 t143 1) = (Go.bits .and .u8 a2 1) then (if (Go.bits .and .u8 t143 2) = 0 then (some false) else (if (Go.bits .and .u8 t142 18) = 0 then (if (((Go.bits .and .u8 t144 64) != 0) == (a1 == 0)) = true then (some (((Go.bits .and .u8 t144 16) != 0) == ((Go.bits .and .u8 t144 1) != 0))) else (some false)) else (some false))) else (some false)) else (some false)) else (some false)) else (some false)) else (some false))))) = some r := by rw [if_pos rfl] at H; exact H
    clear H
    have H := H1
    clear H1
    replace H := Option.bind_eq_some_iff.mp H
    obtain ⟨t142, A70, H⟩ := H
    replace H : ((wide_Find.f a0 a1 a3 a2).bind fun t143 => ((wide_Port.f a0 a1 a2).bind fun t144 => (if (((Go.bits .and .u8 t142 4) != 0) == (a3 != 0)) = true then (if (((Go.bits .and .u8 t143 4) != 0) == (a3 != 0)) = true then (if (((Go.bits .and .u8 t143 64) != 0) == (a0 == a1)) = true then (if (Go.bits .and .u8 t142 193) = (Go.bits .and .u8 a2 193) then (if (Go.bits .and .u8 t143 1) = (Go.bits .and .u8 a2 1) then (if (Go.bits .and .u8 t143 2) = 0 then (some false) else (if (Go.bits .and .u8 t142 18) = 0 then (if (((Go.bits .and .u8 t144 64) != 0) == (a1 == 0)) = true then (some (((Go.bits .and .u8 t144 16) != 0) == ((Go.bits .and .u8 t144 1) != 0))) else (some false)) else (some false))) else (some false)) else (some false)) else (some false)) else (some false)) else (some false)))) = some r := H
    have A7 := Aside0.mk A70
    clear A70
    replace H := Option.bind_eq_some_iff.mp H
    obtain ⟨t143, A80, H⟩ := H
    replace H : ((wide_Port.f a0 a1 a2).bind fun t144 => (if (((Go.bits .and .u8 t142 4) != 0) == (a3 != 0)) = true then (if (((Go.bits .and .u8 t143 4) != 0) == (a3 != 0)) = true then (if (((Go.bits .and .u8 t143 64) != 0) == (a0 == a1)) = true then (if (Go.bits .and .u8 t142 193) = (Go.bits .and .u8 a2 193) then (if (Go.bits .and .u8 t143 1) = (Go.bits .and .u8 a2 1) then (if (Go.bits .and .u8 t143 2) = 0 then (some false) else (if (Go.bits .and .u8 t142 18) = 0 then (if (((Go.bits .and .u8 t144 64) != 0) == (a1 == 0)) = true then (some (((Go.bits .and .u8 t144 16) != 0) == ((Go.bits .and .u8 t144 1) != 0))) else (some false)) else (some false))) else (some false)) else (some false)) else (some false)) else (some false)) else (some false))) = some r := H
    have A8 := Aside0.mk A80
    clear A80
    replace H := Option.bind_eq_some_iff.mp H
    obtain ⟨t144, A90, H⟩ := H
    replace H : (if (((Go.bits .and .u8 t142 4) != 0) == (a3 != 0)) = true then (if (((Go.bits .and .u8 t143 4) != 0) == (a3 != 0)) = true then (if (((Go.bits .and .u8 t143 64) != 0) == (a0 == a1)) = true then (if (Go.bits .and .u8 t142 193) = (Go.bits .and .u8 a2 193) then (if (Go.bits .and .u8 t143 1) = (Go.bits .and .u8 a2 1) then (if (Go.bits .and .u8 t143 2) = 0 then (some false) else (if (Go.bits .and .u8 t142 18) = 0 then (if (((Go.bits .and .u8 t144 64) != 0) == (a1 == 0)) = true then (some (((Go.bits .and .u8 t144 16) != 0) == ((Go.bits .and .u8 t144 1) != 0))) else (some false)) else (some false))) else (some false)) else (some false)) else (some false)) else (some false)) else (some false)) = some r := H
    have A9 := Aside0.mk A90
    clear A90
    by_cases c10 : (((Go.bits .and .u8 t142 4) != 0) == (a3 != 0)) = true
    · rw [if_pos c10] at H
      have c10b0 : (((Go.bits .and .u8 t142 4) != 0) == (a3 != 0)) = true := c10
      (try (have c10b1 : decide (((Go.bits .and .u8 t142 4) != 0) = (a3 != 0)) = true := by simpa using c10))
      (try (have c10b2 : (((Go.bits .and .u8 t142 4) != 0) == (a3 != 0)) = true := by simpa using c10))
      clear c10
      by_cases c11 : (((Go.bits .and .u8 t143 4) != 0) == (a3 != 0)) = true
      · rw [if_pos c11] at H
        have c11b0 : (((Go.bits .and .u8 t143 4) != 0) == (a3 != 0)) = true := c11
        (try (have c11b1 : decide (((Go.bits .and .u8 t143 4) != 0) = (a3 != 0)) = true := by simpa using c11))
        (try (have c11b2 : (((Go.bits .and .u8 t143 4) != 0) == (a3 != 0)) = true := by simpa using c11))
        clear c11
        by_cases c12 : (((Go.bits .and .u8 t143 64) != 0) == (a0 == a1)) = true
        · rw [if_pos c12] at H
          have c12b0 : (((Go.bits .and .u8 t143 64) != 0) == (a0 == a1)) = true := c12
          (try (have c12b1 : decide (((Go.bits .and .u8 t143 64) != 0) = (a0 == a1)) = true := by simpa using c12))
          (try (have c12b2 : (((Go.bits .and .u8 t143 64) != 0) == (a0 == a1)) = true := by simpa using c12))
          clear c12
          by_cases c13 : (Go.bits .and .u8 t142 193) = (Go.bits .and .u8 a2 193)
          · rw [if_pos c13] at H
            have c13b0 : ((Go.bits .and .u8 t142 193) == (Go.bits .and .u8 a2 193)) = true := beq_iff_eq.mpr c13
            have c13b1 : ((Go.bits .and .u8 t142 193) != (Go.bits .and .u8 a2 193)) = false := bne_eq_false_iff_eq.mpr c13
            clear c13
            by_cases c14 : (Go.bits .and .u8 t143 1) = (Go.bits .and .u8 a2 1)
            · rw [if_pos c14] at H
              have c14b0 : ((Go.bits .and .u8 t143 1) == (Go.bits .and .u8 a2 1)) = true := beq_iff_eq.mpr c14
              have c14b1 : ((Go.bits .and .u8 t143 1) != (Go.bits .and .u8 a2 1)) = false := bne_eq_false_iff_eq.mpr c14
              clear c14
              by_cases c15 : (Go.bits .and .u8 t143 2) = 0
              · rw [if_pos c15] at H
                have c15b0 : ((Go.bits .and .u8 t143 2) == 0) = true := beq_iff_eq.mpr c15
                have c15b1 : ((Go.bits .and .u8 t143 2) != 0) = false := bne_eq_false_iff_eq.mpr c15
                clear c15
                first
                  | exact absurd ((Option.some.inj H).trans hr) (by decide)
                  | (obtain rfl := Option.some.inj H
                     clear hr
                     go_enter Try.func14, Try.ntmps14
                     go_wp2_with (first | ((with_reducible refine gate_callee (f := 19) rfl ?_); refine goesL_ (some 13) rfl rfl Try.func19 (by kernel_rfl) rfl #[] rfl (by (try simp only [List.map_toArray, List.map_cons, List.map_nil]); first | done | rfl | (simp only [List.length_drop, List.length_take]; rfl)) ?_; (with_reducible refine (pendulumlaw07_lives.calls  true _ A5.out).mono ?_); rintro e w' ⟨rfl, ⟨nd, rfl⟩⟩; refine ⟨_, rfl, ?_⟩) | ((with_reducible refine gate_callee (f := 39) rfl ?_); refine goesL_ (some 19) rfl rfl Try.func39 (by kernel_rfl) rfl #[.int .u8 a0, .int .u8 a1, .int .u16 a3, .int .u8 a2] rfl (by (try simp only [List.map_toArray, List.map_cons, List.map_nil]); first | done | rfl | (simp only [List.length_drop, List.length_take]; rfl)) ?_; (with_reducible refine (wide_Move.calls a0 a1 a3 a2 t142 _ A7.out).mono ?_); rintro e w' ⟨rfl, ⟨nd, rfl⟩⟩; refine ⟨_, rfl, ?_⟩) | ((with_reducible refine gate_callee (f := 56) rfl ?_); refine goesL_ (some 24) rfl rfl Try.func56 (by kernel_rfl) rfl #[.int .u8 a0, .int .u8 a1, .int .u16 a3, .int .u8 a2] rfl (by (try simp only [List.map_toArray, List.map_cons, List.map_nil]); first | done | rfl | (simp only [List.length_drop, List.length_take]; rfl)) ?_; (with_reducible refine (wide_Find.calls a0 a1 a3 a2 t143 _ A8.out).mono ?_); rintro e w' ⟨rfl, ⟨nd, rfl⟩⟩; refine ⟨_, rfl, ?_⟩) | ((with_reducible refine gate_callee (f := 58) rfl ?_); refine goesL_ (some 28) rfl rfl Try.func58 (by kernel_rfl) rfl #[.int .u8 a0, .int .u8 a1, .int .u8 a2] rfl (by (try simp only [List.map_toArray, List.map_cons, List.map_nil]); first | done | rfl | (simp only [List.length_drop, List.length_take]; rfl)) ?_; (with_reducible refine (wide_Port.calls a0 a1 a2 t144 _ A9.out).mono ?_); rintro e w' ⟨rfl, ⟨nd, rfl⟩⟩; refine ⟨_, rfl, ?_⟩))
                     go_ret
                     exact ⟨by first | rfl | (simp; done) | (simp [*]; done), by repeat (first | exact Drawn0.refl _ | apply Drawn0.step)⟩)
              · rw [if_neg c15] at H
                have c15b0 : ((Go.bits .and .u8 t143 2) == 0) = false := beq_eq_false_iff_ne.mpr c15
                have c15b1 : ((Go.bits .and .u8 t143 2) != 0) = true := bne_iff_ne.mpr c15
                by_cases c16 : (Go.bits .and .u8 t142 18) = 0
                · rw [if_pos c16] at H
                  have c16b0 : ((Go.bits .and .u8 t142 18) == 0) = true := beq_iff_eq.mpr c16
                  have c16b1 : ((Go.bits .and .u8 t142 18) != 0) = false := bne_eq_false_iff_eq.mpr c16
                  clear c16
                  by_cases c17 : (((Go.bits .and .u8 t144 64) != 0) == (a1 == 0)) = true
                  · rw [if_pos c17] at H
                    have c17b0 : (((Go.bits .and .u8 t144 64) != 0) == (a1 == 0)) = true := c17
                    (try (have c17b1 : decide (((Go.bits .and .u8 t144 64) != 0) = (a1 == 0)) = true := by simpa using c17))
                    (try (have c17b2 : (((Go.bits .and .u8 t144 64) != 0) == (a1 == 0)) = true := by simpa using c17))
                    clear c17
                    first
                      | exact absurd ((Option.some.inj H).trans hr) (by decide)
                      | (obtain rfl := Option.some.inj H
                         clear hr
                         go_enter Try.func14, Try.ntmps14
                         go_wp2_with (first | ((with_reducible refine gate_callee (f := 19) rfl ?_); refine goesL_ (some 13) rfl rfl Try.func19 (by kernel_rfl) rfl #[] rfl (by (try simp only [List.map_toArray, List.map_cons, List.map_nil]); first | done | rfl | (simp only [List.length_drop, List.length_take]; rfl)) ?_; (with_reducible refine (pendulumlaw07_lives.calls  true _ A5.out).mono ?_); rintro e w' ⟨rfl, ⟨nd, rfl⟩⟩; refine ⟨_, rfl, ?_⟩) | ((with_reducible refine gate_callee (f := 39) rfl ?_); refine goesL_ (some 19) rfl rfl Try.func39 (by kernel_rfl) rfl #[.int .u8 a0, .int .u8 a1, .int .u16 a3, .int .u8 a2] rfl (by (try simp only [List.map_toArray, List.map_cons, List.map_nil]); first | done | rfl | (simp only [List.length_drop, List.length_take]; rfl)) ?_; (with_reducible refine (wide_Move.calls a0 a1 a3 a2 t142 _ A7.out).mono ?_); rintro e w' ⟨rfl, ⟨nd, rfl⟩⟩; refine ⟨_, rfl, ?_⟩) | ((with_reducible refine gate_callee (f := 56) rfl ?_); refine goesL_ (some 24) rfl rfl Try.func56 (by kernel_rfl) rfl #[.int .u8 a0, .int .u8 a1, .int .u16 a3, .int .u8 a2] rfl (by (try simp only [List.map_toArray, List.map_cons, List.map_nil]); first | done | rfl | (simp only [List.length_drop, List.length_take]; rfl)) ?_; (with_reducible refine (wide_Find.calls a0 a1 a3 a2 t143 _ A8.out).mono ?_); rintro e w' ⟨rfl, ⟨nd, rfl⟩⟩; refine ⟨_, rfl, ?_⟩) | ((with_reducible refine gate_callee (f := 58) rfl ?_); refine goesL_ (some 28) rfl rfl Try.func58 (by kernel_rfl) rfl #[.int .u8 a0, .int .u8 a1, .int .u8 a2] rfl (by (try simp only [List.map_toArray, List.map_cons, List.map_nil]); first | done | rfl | (simp only [List.length_drop, List.length_take]; rfl)) ?_; (with_reducible refine (wide_Port.calls a0 a1 a2 t144 _ A9.out).mono ?_); rintro e w' ⟨rfl, ⟨nd, rfl⟩⟩; refine ⟨_, rfl, ?_⟩))
                         go_ret
                         exact ⟨by first | rfl | (simp; done) | (simp [*]; done), by repeat (first | exact Drawn0.refl _ | apply Drawn0.step)⟩)
                  · rw [if_neg c17] at H
                    have c17b0 : (((Go.bits .and .u8 t144 64) != 0) == (a1 == 0)) = false := by simpa using c17
                    (try (have c17b1 : decide (((Go.bits .and .u8 t144 64) != 0) = (a1 == 0)) = false := by simpa using c17))
                    (try (have c17b2 : (((Go.bits .and .u8 t144 64) != 0) == (a1 == 0)) = false := by simpa using c17))
                    (try (have c17b3 : ¬ (((Go.bits .and .u8 t144 64) != 0) = (a1 == 0)) := by simpa using c17))
                    clear c17
                    first
                      | exact absurd ((Option.some.inj H).trans hr) (by decide)
                      | (obtain rfl := Option.some.inj H
                         clear hr
                         go_enter Try.func14, Try.ntmps14
                         go_wp2_with (first | ((with_reducible refine gate_callee (f := 19) rfl ?_); refine goesL_ (some 13) rfl rfl Try.func19 (by kernel_rfl) rfl #[] rfl (by (try simp only [List.map_toArray, List.map_cons, List.map_nil]); first | done | rfl | (simp only [List.length_drop, List.length_take]; rfl)) ?_; (with_reducible refine (pendulumlaw07_lives.calls  true _ A5.out).mono ?_); rintro e w' ⟨rfl, ⟨nd, rfl⟩⟩; refine ⟨_, rfl, ?_⟩) | ((with_reducible refine gate_callee (f := 39) rfl ?_); refine goesL_ (some 19) rfl rfl Try.func39 (by kernel_rfl) rfl #[.int .u8 a0, .int .u8 a1, .int .u16 a3, .int .u8 a2] rfl (by (try simp only [List.map_toArray, List.map_cons, List.map_nil]); first | done | rfl | (simp only [List.length_drop, List.length_take]; rfl)) ?_; (with_reducible refine (wide_Move.calls a0 a1 a3 a2 t142 _ A7.out).mono ?_); rintro e w' ⟨rfl, ⟨nd, rfl⟩⟩; refine ⟨_, rfl, ?_⟩) | ((with_reducible refine gate_callee (f := 56) rfl ?_); refine goesL_ (some 24) rfl rfl Try.func56 (by kernel_rfl) rfl #[.int .u8 a0, .int .u8 a1, .int .u16 a3, .int .u8 a2] rfl (by (try simp only [List.map_toArray, List.map_cons, List.map_nil]); first | done | rfl | (simp only [List.length_drop, List.length_take]; rfl)) ?_; (with_reducible refine (wide_Find.calls a0 a1 a3 a2 t143 _ A8.out).mono ?_); rintro e w' ⟨rfl, ⟨nd, rfl⟩⟩; refine ⟨_, rfl, ?_⟩) | ((with_reducible refine gate_callee (f := 58) rfl ?_); refine goesL_ (some 28) rfl rfl Try.func58 (by kernel_rfl) rfl #[.int .u8 a0, .int .u8 a1, .int .u8 a2] rfl (by (try simp only [List.map_toArray, List.map_cons, List.map_nil]); first | done | rfl | (simp only [List.length_drop, List.length_take]; rfl)) ?_; (with_reducible refine (wide_Port.calls a0 a1 a2 t144 _ A9.out).mono ?_); rintro e w' ⟨rfl, ⟨nd, rfl⟩⟩; refine ⟨_, rfl, ?_⟩))
                         go_ret
                         exact ⟨by first | rfl | (simp; done) | (simp [*]; done), by repeat (first | exact Drawn0.refl _ | apply Drawn0.step)⟩)
                · rw [if_neg c16] at H
                  have c16b0 : ((Go.bits .and .u8 t142 18) == 0) = false := beq_eq_false_iff_ne.mpr c16
                  have c16b1 : ((Go.bits .and .u8 t142 18) != 0) = true := bne_iff_ne.mpr c16
                  first
                    | exact absurd ((Option.some.inj H).trans hr) (by decide)
                    | (obtain rfl := Option.some.inj H
                       clear hr
                       go_enter Try.func14, Try.ntmps14
                       go_wp2_with (first | ((with_reducible refine gate_callee (f := 19) rfl ?_); refine goesL_ (some 13) rfl rfl Try.func19 (by kernel_rfl) rfl #[] rfl (by (try simp only [List.map_toArray, List.map_cons, List.map_nil]); first | done | rfl | (simp only [List.length_drop, List.length_take]; rfl)) ?_; (with_reducible refine (pendulumlaw07_lives.calls  true _ A5.out).mono ?_); rintro e w' ⟨rfl, ⟨nd, rfl⟩⟩; refine ⟨_, rfl, ?_⟩) | ((with_reducible refine gate_callee (f := 39) rfl ?_); refine goesL_ (some 19) rfl rfl Try.func39 (by kernel_rfl) rfl #[.int .u8 a0, .int .u8 a1, .int .u16 a3, .int .u8 a2] rfl (by (try simp only [List.map_toArray, List.map_cons, List.map_nil]); first | done | rfl | (simp only [List.length_drop, List.length_take]; rfl)) ?_; (with_reducible refine (wide_Move.calls a0 a1 a3 a2 t142 _ A7.out).mono ?_); rintro e w' ⟨rfl, ⟨nd, rfl⟩⟩; refine ⟨_, rfl, ?_⟩) | ((with_reducible refine gate_callee (f := 56) rfl ?_); refine goesL_ (some 24) rfl rfl Try.func56 (by kernel_rfl) rfl #[.int .u8 a0, .int .u8 a1, .int .u16 a3, .int .u8 a2] rfl (by (try simp only [List.map_toArray, List.map_cons, List.map_nil]); first | done | rfl | (simp only [List.length_drop, List.length_take]; rfl)) ?_; (with_reducible refine (wide_Find.calls a0 a1 a3 a2 t143 _ A8.out).mono ?_); rintro e w' ⟨rfl, ⟨nd, rfl⟩⟩; refine ⟨_, rfl, ?_⟩) | ((with_reducible refine gate_callee (f := 58) rfl ?_); refine goesL_ (some 28) rfl rfl Try.func58 (by kernel_rfl) rfl #[.int .u8 a0, .int .u8 a1, .int .u8 a2] rfl (by (try simp only [List.map_toArray, List.map_cons, List.map_nil]); first | done | rfl | (simp only [List.length_drop, List.length_take]; rfl)) ?_; (with_reducible refine (wide_Port.calls a0 a1 a2 t144 _ A9.out).mono ?_); rintro e w' ⟨rfl, ⟨nd, rfl⟩⟩; refine ⟨_, rfl, ?_⟩))
                       go_ret
                       exact ⟨by first | rfl | (simp; done) | (simp [*]; done), by repeat (first | exact Drawn0.refl _ | apply Drawn0.step)⟩)
            · rw [if_neg c14] at H
              have c14b0 : ((Go.bits .and .u8 t143 1) == (Go.bits .and .u8 a2 1)) = false := beq_eq_false_iff_ne.mpr c14
              have c14b1 : ((Go.bits .and .u8 t143 1) != (Go.bits .and .u8 a2 1)) = true := bne_iff_ne.mpr c14
              first
                | exact absurd ((Option.some.inj H).trans hr) (by decide)
                | (obtain rfl := Option.some.inj H
                   clear hr
                   go_enter Try.func14, Try.ntmps14
                   go_wp2_with (first | ((with_reducible refine gate_callee (f := 19) rfl ?_); refine goesL_ (some 13) rfl rfl Try.func19 (by kernel_rfl) rfl #[] rfl (by (try simp only [List.map_toArray, List.map_cons, List.map_nil]); first | done | rfl | (simp only [List.length_drop, List.length_take]; rfl)) ?_; (with_reducible refine (pendulumlaw07_lives.calls  true _ A5.out).mono ?_); rintro e w' ⟨rfl, ⟨nd, rfl⟩⟩; refine ⟨_, rfl, ?_⟩) | ((with_reducible refine gate_callee (f := 39) rfl ?_); refine goesL_ (some 19) rfl rfl Try.func39 (by kernel_rfl) rfl #[.int .u8 a0, .int .u8 a1, .int .u16 a3, .int .u8 a2] rfl (by (try simp only [List.map_toArray, List.map_cons, List.map_nil]); first | done | rfl | (simp only [List.length_drop, List.length_take]; rfl)) ?_; (with_reducible refine (wide_Move.calls a0 a1 a3 a2 t142 _ A7.out).mono ?_); rintro e w' ⟨rfl, ⟨nd, rfl⟩⟩; refine ⟨_, rfl, ?_⟩) | ((with_reducible refine gate_callee (f := 56) rfl ?_); refine goesL_ (some 24) rfl rfl Try.func56 (by kernel_rfl) rfl #[.int .u8 a0, .int .u8 a1, .int .u16 a3, .int .u8 a2] rfl (by (try simp only [List.map_toArray, List.map_cons, List.map_nil]); first | done | rfl | (simp only [List.length_drop, List.length_take]; rfl)) ?_; (with_reducible refine (wide_Find.calls a0 a1 a3 a2 t143 _ A8.out).mono ?_); rintro e w' ⟨rfl, ⟨nd, rfl⟩⟩; refine ⟨_, rfl, ?_⟩) | ((with_reducible refine gate_callee (f := 58) rfl ?_); refine goesL_ (some 28) rfl rfl Try.func58 (by kernel_rfl) rfl #[.int .u8 a0, .int .u8 a1, .int .u8 a2] rfl (by (try simp only [List.map_toArray, List.map_cons, List.map_nil]); first | done | rfl | (simp only [List.length_drop, List.length_take]; rfl)) ?_; (with_reducible refine (wide_Port.calls a0 a1 a2 t144 _ A9.out).mono ?_); rintro e w' ⟨rfl, ⟨nd, rfl⟩⟩; refine ⟨_, rfl, ?_⟩))
                   go_ret
                   exact ⟨by first | rfl | (simp; done) | (simp [*]; done), by repeat (first | exact Drawn0.refl _ | apply Drawn0.step)⟩)
          · rw [if_neg c13] at H
            have c13b0 : ((Go.bits .and .u8 t142 193) == (Go.bits .and .u8 a2 193)) = false := beq_eq_false_iff_ne.mpr c13
            have c13b1 : ((Go.bits .and .u8 t142 193) != (Go.bits .and .u8 a2 193)) = true := bne_iff_ne.mpr c13
            first
              | exact absurd ((Option.some.inj H).trans hr) (by decide)
              | (obtain rfl := Option.some.inj H
                 clear hr
                 go_enter Try.func14, Try.ntmps14
                 go_wp2_with (first | ((with_reducible refine gate_callee (f := 19) rfl ?_); refine goesL_ (some 13) rfl rfl Try.func19 (by kernel_rfl) rfl #[] rfl (by (try simp only [List.map_toArray, List.map_cons, List.map_nil]); first | done | rfl | (simp only [List.length_drop, List.length_take]; rfl)) ?_; (with_reducible refine (pendulumlaw07_lives.calls  true _ A5.out).mono ?_); rintro e w' ⟨rfl, ⟨nd, rfl⟩⟩; refine ⟨_, rfl, ?_⟩) | ((with_reducible refine gate_callee (f := 39) rfl ?_); refine goesL_ (some 19) rfl rfl Try.func39 (by kernel_rfl) rfl #[.int .u8 a0, .int .u8 a1, .int .u16 a3, .int .u8 a2] rfl (by (try simp only [List.map_toArray, List.map_cons, List.map_nil]); first | done | rfl | (simp only [List.length_drop, List.length_take]; rfl)) ?_; (with_reducible refine (wide_Move.calls a0 a1 a3 a2 t142 _ A7.out).mono ?_); rintro e w' ⟨rfl, ⟨nd, rfl⟩⟩; refine ⟨_, rfl, ?_⟩) | ((with_reducible refine gate_callee (f := 56) rfl ?_); refine goesL_ (some 24) rfl rfl Try.func56 (by kernel_rfl) rfl #[.int .u8 a0, .int .u8 a1, .int .u16 a3, .int .u8 a2] rfl (by (try simp only [List.map_toArray, List.map_cons, List.map_nil]); first | done | rfl | (simp only [List.length_drop, List.length_take]; rfl)) ?_; (with_reducible refine (wide_Find.calls a0 a1 a3 a2 t143 _ A8.out).mono ?_); rintro e w' ⟨rfl, ⟨nd, rfl⟩⟩; refine ⟨_, rfl, ?_⟩) | ((with_reducible refine gate_callee (f := 58) rfl ?_); refine goesL_ (some 28) rfl rfl Try.func58 (by kernel_rfl) rfl #[.int .u8 a0, .int .u8 a1, .int .u8 a2] rfl (by (try simp only [List.map_toArray, List.map_cons, List.map_nil]); first | done | rfl | (simp only [List.length_drop, List.length_take]; rfl)) ?_; (with_reducible refine (wide_Port.calls a0 a1 a2 t144 _ A9.out).mono ?_); rintro e w' ⟨rfl, ⟨nd, rfl⟩⟩; refine ⟨_, rfl, ?_⟩))
                 go_ret
                 exact ⟨by first | rfl | (simp; done) | (simp [*]; done), by repeat (first | exact Drawn0.refl _ | apply Drawn0.step)⟩)
        · rw [if_neg c12] at H
          have c12b0 : (((Go.bits .and .u8 t143 64) != 0) == (a0 == a1)) = false := by simpa using c12
          (try (have c12b1 : decide (((Go.bits .and .u8 t143 64) != 0) = (a0 == a1)) = false := by simpa using c12))
          (try (have c12b2 : (((Go.bits .and .u8 t143 64) != 0) == (a0 == a1)) = false := by simpa using c12))
          (try (have c12b3 : ¬ (((Go.bits .and .u8 t143 64) != 0) = (a0 == a1)) := by simpa using c12))
          clear c12
          first
            | exact absurd ((Option.some.inj H).trans hr) (by decide)
            | (obtain rfl := Option.some.inj H
               clear hr
               go_enter Try.func14, Try.ntmps14
               go_wp2_with (first | ((with_reducible refine gate_callee (f := 19) rfl ?_); refine goesL_ (some 13) rfl rfl Try.func19 (by kernel_rfl) rfl #[] rfl (by (try simp only [List.map_toArray, List.map_cons, List.map_nil]); first | done | rfl | (simp only [List.length_drop, List.length_take]; rfl)) ?_; (with_reducible refine (pendulumlaw07_lives.calls  true _ A5.out).mono ?_); rintro e w' ⟨rfl, ⟨nd, rfl⟩⟩; refine ⟨_, rfl, ?_⟩) | ((with_reducible refine gate_callee (f := 39) rfl ?_); refine goesL_ (some 19) rfl rfl Try.func39 (by kernel_rfl) rfl #[.int .u8 a0, .int .u8 a1, .int .u16 a3, .int .u8 a2] rfl (by (try simp only [List.map_toArray, List.map_cons, List.map_nil]); first | done | rfl | (simp only [List.length_drop, List.length_take]; rfl)) ?_; (with_reducible refine (wide_Move.calls a0 a1 a3 a2 t142 _ A7.out).mono ?_); rintro e w' ⟨rfl, ⟨nd, rfl⟩⟩; refine ⟨_, rfl, ?_⟩) | ((with_reducible refine gate_callee (f := 56) rfl ?_); refine goesL_ (some 24) rfl rfl Try.func56 (by kernel_rfl) rfl #[.int .u8 a0, .int .u8 a1, .int .u16 a3, .int .u8 a2] rfl (by (try simp only [List.map_toArray, List.map_cons, List.map_nil]); first | done | rfl | (simp only [List.length_drop, List.length_take]; rfl)) ?_; (with_reducible refine (wide_Find.calls a0 a1 a3 a2 t143 _ A8.out).mono ?_); rintro e w' ⟨rfl, ⟨nd, rfl⟩⟩; refine ⟨_, rfl, ?_⟩) | ((with_reducible refine gate_callee (f := 58) rfl ?_); refine goesL_ (some 28) rfl rfl Try.func58 (by kernel_rfl) rfl #[.int .u8 a0, .int .u8 a1, .int .u8 a2] rfl (by (try simp only [List.map_toArray, List.map_cons, List.map_nil]); first | done | rfl | (simp only [List.length_drop, List.length_take]; rfl)) ?_; (with_reducible refine (wide_Port.calls a0 a1 a2 t144 _ A9.out).mono ?_); rintro e w' ⟨rfl, ⟨nd, rfl⟩⟩; refine ⟨_, rfl, ?_⟩))
               go_ret
               exact ⟨by first | rfl | (simp; done) | (simp [*]; done), by repeat (first | exact Drawn0.refl _ | apply Drawn0.step)⟩)
      · rw [if_neg c11] at H
        have c11b0 : (((Go.bits .and .u8 t143 4) != 0) == (a3 != 0)) = false := by simpa using c11
        (try (have c11b1 : decide (((Go.bits .and .u8 t143 4) != 0) = (a3 != 0)) = false := by simpa using c11))
        (try (have c11b2 : (((Go.bits .and .u8 t143 4) != 0) == (a3 != 0)) = false := by simpa using c11))
        (try (have c11b3 : ¬ (((Go.bits .and .u8 t143 4) != 0) = (a3 != 0)) := by simpa using c11))
        clear c11
        first
          | exact absurd ((Option.some.inj H).trans hr) (by decide)
          | (obtain rfl := Option.some.inj H
             clear hr
             go_enter Try.func14, Try.ntmps14
             go_wp2_with (first | ((with_reducible refine gate_callee (f := 19) rfl ?_); refine goesL_ (some 13) rfl rfl Try.func19 (by kernel_rfl) rfl #[] rfl (by (try simp only [List.map_toArray, List.map_cons, List.map_nil]); first | done | rfl | (simp only [List.length_drop, List.length_take]; rfl)) ?_; (with_reducible refine (pendulumlaw07_lives.calls  true _ A5.out).mono ?_); rintro e w' ⟨rfl, ⟨nd, rfl⟩⟩; refine ⟨_, rfl, ?_⟩) | ((with_reducible refine gate_callee (f := 39) rfl ?_); refine goesL_ (some 19) rfl rfl Try.func39 (by kernel_rfl) rfl #[.int .u8 a0, .int .u8 a1, .int .u16 a3, .int .u8 a2] rfl (by (try simp only [List.map_toArray, List.map_cons, List.map_nil]); first | done | rfl | (simp only [List.length_drop, List.length_take]; rfl)) ?_; (with_reducible refine (wide_Move.calls a0 a1 a3 a2 t142 _ A7.out).mono ?_); rintro e w' ⟨rfl, ⟨nd, rfl⟩⟩; refine ⟨_, rfl, ?_⟩) | ((with_reducible refine gate_callee (f := 56) rfl ?_); refine goesL_ (some 24) rfl rfl Try.func56 (by kernel_rfl) rfl #[.int .u8 a0, .int .u8 a1, .int .u16 a3, .int .u8 a2] rfl (by (try simp only [List.map_toArray, List.map_cons, List.map_nil]); first | done | rfl | (simp only [List.length_drop, List.length_take]; rfl)) ?_; (with_reducible refine (wide_Find.calls a0 a1 a3 a2 t143 _ A8.out).mono ?_); rintro e w' ⟨rfl, ⟨nd, rfl⟩⟩; refine ⟨_, rfl, ?_⟩) | ((with_reducible refine gate_callee (f := 58) rfl ?_); refine goesL_ (some 28) rfl rfl Try.func58 (by kernel_rfl) rfl #[.int .u8 a0, .int .u8 a1, .int .u8 a2] rfl (by (try simp only [List.map_toArray, List.map_cons, List.map_nil]); first | done | rfl | (simp only [List.length_drop, List.length_take]; rfl)) ?_; (with_reducible refine (wide_Port.calls a0 a1 a2 t144 _ A9.out).mono ?_); rintro e w' ⟨rfl, ⟨nd, rfl⟩⟩; refine ⟨_, rfl, ?_⟩))
             go_ret
             exact ⟨by first | rfl | (simp; done) | (simp [*]; done), by repeat (first | exact Drawn0.refl _ | apply Drawn0.step)⟩)
    · rw [if_neg c10] at H
      have c10b0 : (((Go.bits .and .u8 t142 4) != 0) == (a3 != 0)) = false := by simpa using c10
      (try (have c10b1 : decide (((Go.bits .and .u8 t142 4) != 0) = (a3 != 0)) = false := by simpa using c10))
      (try (have c10b2 : (((Go.bits .and .u8 t142 4) != 0) == (a3 != 0)) = false := by simpa using c10))
      (try (have c10b3 : ¬ (((Go.bits .and .u8 t142 4) != 0) = (a3 != 0)) := by simpa using c10))
      clear c10
      first
        | exact absurd ((Option.some.inj H).trans hr) (by decide)
        | (obtain rfl := Option.some.inj H
           clear hr
           go_enter Try.func14, Try.ntmps14
           go_wp2_with (first | ((with_reducible refine gate_callee (f := 19) rfl ?_); refine goesL_ (some 13) rfl rfl Try.func19 (by kernel_rfl) rfl #[] rfl (by (try simp only [List.map_toArray, List.map_cons, List.map_nil]); first | done | rfl | (simp only [List.length_drop, List.length_take]; rfl)) ?_; (with_reducible refine (pendulumlaw07_lives.calls  true _ A5.out).mono ?_); rintro e w' ⟨rfl, ⟨nd, rfl⟩⟩; refine ⟨_, rfl, ?_⟩) | ((with_reducible refine gate_callee (f := 39) rfl ?_); refine goesL_ (some 19) rfl rfl Try.func39 (by kernel_rfl) rfl #[.int .u8 a0, .int .u8 a1, .int .u16 a3, .int .u8 a2] rfl (by (try simp only [List.map_toArray, List.map_cons, List.map_nil]); first | done | rfl | (simp only [List.length_drop, List.length_take]; rfl)) ?_; (with_reducible refine (wide_Move.calls a0 a1 a3 a2 t142 _ A7.out).mono ?_); rintro e w' ⟨rfl, ⟨nd, rfl⟩⟩; refine ⟨_, rfl, ?_⟩) | ((with_reducible refine gate_callee (f := 56) rfl ?_); refine goesL_ (some 24) rfl rfl Try.func56 (by kernel_rfl) rfl #[.int .u8 a0, .int .u8 a1, .int .u16 a3, .int .u8 a2] rfl (by (try simp only [List.map_toArray, List.map_cons, List.map_nil]); first | done | rfl | (simp only [List.length_drop, List.length_take]; rfl)) ?_; (with_reducible refine (wide_Find.calls a0 a1 a3 a2 t143 _ A8.out).mono ?_); rintro e w' ⟨rfl, ⟨nd, rfl⟩⟩; refine ⟨_, rfl, ?_⟩) | ((with_reducible refine gate_callee (f := 58) rfl ?_); refine goesL_ (some 28) rfl rfl Try.func58 (by kernel_rfl) rfl #[.int .u8 a0, .int .u8 a1, .int .u8 a2] rfl (by (try simp only [List.map_toArray, List.map_cons, List.map_nil]); first | done | rfl | (simp only [List.length_drop, List.length_take]; rfl)) ?_; (with_reducible refine (wide_Port.calls a0 a1 a2 t144 _ A9.out).mono ?_); rintro e w' ⟨rfl, ⟨nd, rfl⟩⟩; refine ⟨_, rfl, ?_⟩))
           go_ret
           exact ⟨by first | rfl | (simp; done) | (simp [*]; done), by repeat (first | exact Drawn0.refl _ | apply Drawn0.step)⟩)
  · replace c6 := Bool.eq_false_iff.mpr c6
    subst c6
    have H1 : (some false) = some r := by rw [if_neg (show ¬ (false = true) by decide)] at H; exact H
    clear H
    have H := H1
    clear H1
    first
      | exact absurd ((Option.some.inj H).trans hr) (by decide)
      | (obtain rfl := Option.some.inj H
         clear hr
         go_enter Try.func14, Try.ntmps14
         go_wp2_with (first | ((with_reducible refine gate_callee (f := 19) rfl ?_); refine goesL_ (some 13) rfl rfl Try.func19 (by kernel_rfl) rfl #[] rfl (by (try simp only [List.map_toArray, List.map_cons, List.map_nil]); first | done | rfl | (simp only [List.length_drop, List.length_take]; rfl)) ?_; (with_reducible refine (pendulumlaw07_lives.calls  false _ A5.out).mono ?_); rintro e w' ⟨rfl, ⟨nd, rfl⟩⟩; refine ⟨_, rfl, ?_⟩))
         go_ret
         exact ⟨by first | rfl | (simp; done) | (simp [*]; done), by repeat (first | exact Drawn0.refl _ | apply Drawn0.step)⟩)

/-- THE ONE PURE STATEMENT of pendulumlaw07_WideLeft: yours. -/
def pendulumlaw07_WideLeft.Pure : Prop := ∀ (a0 : Int) (a1 : Int) (a2 : Int) (a3 : Int), (Lit.int .u8 a0).wf = true → (Lit.int .u8 a1).wf = true → (Lit.int .u8 a2).wf = true → (Lit.int .u16 a3).wf = true → pendulumlaw07_WideLeft.f a0 a1 a2 a3 = some true
theorem pendulumlaw07_WideLeft.walk (P : pendulumlaw07_WideLeft.Pure) (a0 : Int) (a1 : Int) (a2 : Int) (a3 : Int) (w : World) (w0 : (Lit.int .u8 a0).wf = true) (w1 : (Lit.int .u8 a1).wf = true) (w2 : (Lit.int .u8 a2).wf = true) (w3 : (Lit.int .u16 a3).wf = true) :
    Calls Try.prog 14 #[.int .u8 a0, .int .u8 a1, .int .u8 a2, .int .u16 a3] w fun e w' => e = .returned (.bool true) ∧ Below w.heap.size w w' := by
  have h := P a0 a1 a2 a3 w0 w1 w2 w3
  refine (pendulumlaw07_WideLeft.calls a0 a1 a2 a3 true w h rfl).mono ?_
  rintro e w' ⟨rfl, hd⟩
  exact ⟨rfl, hd.below⟩

end Go.Proofs.Ytpmmneipfmbmlaa.HWideLeft
