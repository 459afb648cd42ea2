-- PRINTED BY print.sh 35421559b90ae4d0a3588c463048766b98c2df88dd9212a6774a882060cdf62d: not written by this session
import Derived.Test.YtpmmneipfmbmlaaPWideCallsx0
namespace Go.Proofs.Ytpmmneipfmbmlaa.PWideCalls
open Go.RowKit Go.Proofs.YtpmmneipfmbmlaaW.PrintWords Go.Proofs.YtpmmneipfmbmlaaW.PrintLast Go.Proofs.YtpmmneipfmbmlaaW.PrintMore
attribute [local go_sem] max2_int min2_int max_two min_two max_three min_three max_four min_four   -- for this text's walks alone
set_option linter.unusedVariables false
set_option linter.unusedSimpArgs false

/-! ### wide_if1: function 81 -/
def wide_if1.f (a0 : Bool) (a1 : Int) : Option (Int) := if a0 = true then (some a1) else (some 0)
set_option maxHeartbeats 8000000 in
set_option maxRecDepth 100000 in
theorem wide_if1.calls (a0 : Bool) (a1 : Int) (r : Int) (w : World) (h : wide_if1.f a0 a1 = some r) :
    Calls Try.prog 81 #[.bool a0, .int .u8 a1] w fun e w' => e = .returned (.int .u8 r) ∧ Drawn0 w w' := by
  have H : (if a0 = true then (some a1) else (some 0)) = some r := h
  clear h
  by_cases c3 : a0 = true
  · subst c3
    have H1 : (some a1) = some r := by rw [if_pos rfl] at H; exact H
    clear H
    have H := H1
    clear H1
    obtain rfl := Option.some.inj H
    go_enter Try.func81, Try.ntmps81
    go_wp2
    go_ret
    exact ⟨by first | rfl | (simp; done) | (simp [*]; done), by repeat (first | exact Drawn0.refl _ | apply Drawn0.step)⟩
  · replace c3 := Bool.eq_false_iff.mpr c3
    subst c3
    have H1 : (some 0) = some r := by rw [if_neg (show ¬ (false = true) by decide)] at H; exact H
    clear H
    have H := H1
    clear H1
    obtain rfl := Option.some.inj H
    go_enter Try.func81, Try.ntmps81
    go_wp2
    go_ret
    exact ⟨by first | rfl | (simp; done) | (simp [*]; done), by repeat (first | exact Drawn0.refl _ | apply Drawn0.step)⟩

/-! ### wide_all: function 80 -/
def wide_all.f (a0 : Int) : Option (Int) := (wide_if1.f (a0 == 0) 64).bind fun t101 => (some (Go.bits .or .u8 (Go.bits .and .u8 ((a0 / 256) % 256) 168) t101))
set_option maxHeartbeats 8000000 in
set_option maxRecDepth 100000 in
theorem wide_all.calls (a0 : Int) (r : Int) (w : World) (h : wide_all.f a0 = some r) :
    Calls Try.prog 80 #[.int .u16 a0] w fun e w' => e = .returned (.int .u8 r) ∧ Drawn0 w w' := by
  have H : ((wide_if1.f (a0 == 0) 64).bind fun t101 => (some (Go.bits .or .u8 (Go.bits .and .u8 ((a0 / 256) % 256) 168) t101))) = some r := h
  clear h
  replace H := Option.bind_eq_some_iff.mp H
  obtain ⟨t101, A20, H⟩ := H
  replace H : (some (Go.bits .or .u8 (Go.bits .and .u8 ((a0 / 256) % 256) 168) t101)) = some r := H
  have A2 := Aside0.mk A20
  clear A20
  obtain rfl := Option.some.inj H
  go_enter Try.func80, Try.ntmps80
  go_wp2_with (first | ((with_reducible refine gate_callee (f := 81) rfl ?_); refine goesL_ (some 9) rfl rfl Try.func81 (by kernel_rfl) rfl #[.bool (a0 == 0), .int .u8 64] rfl (by (try simp only [List.map_toArray, List.map_cons, List.map_nil]); first | done | rfl | (simp only [List.length_drop, List.length_take]; rfl)) ?_; (with_reducible refine (wide_if1.calls (a0 == 0) 64 t101 _ A2.out).mono ?_); rintro e w' ⟨rfl, ⟨nd, rfl⟩⟩; refine ⟨_, rfl, ?_⟩))
  go_ret
  exact ⟨by first | rfl | (simp; done) | (simp [*]; done), by repeat (first | exact Drawn0.refl _ | apply Drawn0.step)⟩

/-! ### wide_Adc: function 20 -/
def wide_Adc.f (a0 : Int) (a1 : Int) (a2 : Int) : Option (Int × Int) := (wide_all.f (IntKind.u16.wrap (wrap64 ((wrap64 ((wrap64 (a0)) + (wrap64 (a1)))) + (wrap64 (Go.bits .and .u8 a2 1)))))).bind fun t102 => ((wide_if1.f (decide ((wrap64 ((wrap64 ((wrap64 (a0)) + (wrap64 (a1)))) + (wrap64 (Go.bits .and .u8 a2 1)))) > 65535)) 1).bind fun t103 => ((wide_if1.f (decide ((wrap64 ((wrap64 ((wrap64 (Go.bits .and .u16 a0 4095)) + (wrap64 (Go.bits .and .u16 a1 4095)))) + (wrap64 (Go.bits .and .u8 a2 1)))) > 4095)) 16).bind fun t104 => (if (wrap64 ((wrap64 ((wrap64 (IntKind.i16.wrap (a0))) + (wrap64 (IntKind.i16.wrap (a1))))) + (wrap64 (Go.bits .and .u8 a2 1)))) < (-32768) then ((wide_if1.f true 4).bind fun t105 => (some (IntKind.u16.wrap (wrap64 ((wrap64 ((wrap64 (a0)) + (wrap64 (a1)))) + (wrap64 (Go.bits .and .u8 a2 1)))), Go.bits .or .u8 (Go.bits .or .u8 (Go.bits .or .u8 t102 t103) t104) t105))) else ((wide_if1.f (decide ((wrap64 ((wrap64 ((wrap64 (IntKind.i16.wrap (a0))) + (wrap64 (IntKind.i16.wrap (a1))))) + (wrap64 (Go.bits .and .u8 a2 1)))) ≥ 32768)) 4).bind fun t106 => (some (IntKind.u16.wrap (wrap64 ((wrap64 ((wrap64 (a0)) + (wrap64 (a1)))) + (wrap64 (Go.bits .and .u8 a2 1)))), Go.bits .or .u8 (Go.bits .or .u8 (Go.bits .or .u8 t102 t103) t104) t106))))))
set_option maxHeartbeats 8000000 in
set_option maxRecDepth 100000 in
theorem wide_Adc.calls (a0 : Int) (a1 : Int) (a2 : Int) (r1 : Int) (r2 : Int) (w : World) (h : wide_Adc.f a0 a1 a2 = some (r1, r2)) :
    Calls Try.prog 20 #[.int .u16 a0, .int .u16 a1, .int .u8 a2] w fun e w' => e = .returned (.tuple #[.int .u16 r1, .int .u8 r2]) ∧ Drawn0 w w' := by
  have H : ((wide_all.f (IntKind.u16.wrap (wrap64 ((wrap64 ((wrap64 (a0)) + (wrap64 (a1)))) + (wrap64 (Go.bits .and .u8 a2 1)))))).bind fun t102 => ((wide_if1.f (decide ((wrap64 ((wrap64 ((wrap64 (a0)) + (wrap64 (a1)))) + (wrap64 (Go.bits .and .u8 a2 1)))) > 65535)) 1).bind fun t103 => ((wide_if1.f (decide ((wrap64 ((wrap64 ((wrap64 (Go.bits .and .u16 a0 4095)) + (wrap64 (Go.bits .and .u16 a1 4095)))) + (wrap64 (Go.bits .and .u8 a2 1)))) > 4095)) 16).bind fun t104 => (if (wrap64 ((wrap64 ((wrap64 (IntKind.i16.wrap (a0))) + (wrap64 (IntKind.i16.wrap (a1))))) + (wrap64 (Go.bits .and .u8 a2 1)))) < (-32768) then ((wide_if1.f true 4).bind fun t105 => (some (IntKind.u16.wrap (wrap64 ((wrap64 ((wrap64 (a0)) + (wrap64 (a1)))) + (wrap64 (Go.bits .and .u8 a2 1)))), Go.bits .or .u8 (Go.bits .or .u8 (Go.bits .or .u8 t102 t103) t104) t105))) else ((wide_if1.f (decide ((wrap64 ((wrap64 ((wrap64 (IntKind.i16.wrap (a0))) + (wrap64 (IntKind.i16.wrap (a1))))) + (wrap64 (Go.bits .and .u8 a2 1)))) ≥ 32768)) 4).bind fun t106 => (some (IntKind.u16.wrap (wrap64 ((wrap64 ((wrap64 (a0)) + (wrap64 (a1)))) + (wrap64 (Go.bits .and .u8 a2 1)))), Go.bits .or .u8 (Go.bits .or .u8 (Go.bits .or .u8 t102 t103) t104) t106))))))) = some (r1, r2) := h
  clear h
  replace H := Option.bind_eq_some_iff.mp H
  obtain ⟨t102, A40, H⟩ := H
  replace H : ((wide_if1.f (decide ((wrap64 ((wrap64 ((wrap64 (a0)) + (wrap64 (a1)))) + (wrap64 (Go.bits .and .u8 a2 1)))) > 65535)) 1).bind fun t103 => ((wide_if1.f (decide ((wrap64 ((wrap64 ((wrap64 (Go.bits .and .u16 a0 4095)) + (wrap64 (Go.bits .and .u16 a1 4095)))) + (wrap64 (Go.bits .and .u8 a2 1)))) > 4095)) 16).bind fun t104 => (if (wrap64 ((wrap64 ((wrap64 (IntKind.i16.wrap (a0))) + (wrap64 (IntKind.i16.wrap (a1))))) + (wrap64 (Go.bits .and .u8 a2 1)))) < (-32768) then ((wide_if1.f true 4).bind fun t105 => (some (IntKind.u16.wrap (wrap64 ((wrap64 ((wrap64 (a0)) + (wrap64 (a1)))) + (wrap64 (Go.bits .and .u8 a2 1)))), Go.bits .or .u8 (Go.bits .or .u8 (Go.bits .or .u8 t102 t103) t104) t105))) else ((wide_if1.f (decide ((wrap64 ((wrap64 ((wrap64 (IntKind.i16.wrap (a0))) + (wrap64 (IntKind.i16.wrap (a1))))) + (wrap64 (Go.bits .and .u8 a2 1)))) ≥ 32768)) 4).bind fun t106 => (some (IntKind.u16.wrap (wrap64 ((wrap64 ((wrap64 (a0)) + (wrap64 (a1)))) + (wrap64 (Go.bits .and .u8 a2 1)))), Go.bits .or .u8 (Go.bits .or .u8 (Go.bits .or .u8 t102 t103) t104) t106)))))) = some (r1, r2) := H
  have A4 := Aside0.mk A40
  clear A40
  replace H := Option.bind_eq_some_iff.mp H
  obtain ⟨t103, A50, H⟩ := H
  replace H : ((wide_if1.f (decide ((wrap64 ((wrap64 ((wrap64 (Go.bits .and .u16 a0 4095)) + (wrap64 (Go.bits .and .u16 a1 4095)))) + (wrap64 (Go.bits .and .u8 a2 1)))) > 4095)) 16).bind fun t104 => (if (wrap64 ((wrap64 ((wrap64 (IntKind.i16.wrap (a0))) + (wrap64 (IntKind.i16.wrap (a1))))) + (wrap64 (Go.bits .and .u8 a2 1)))) < (-32768) then ((wide_if1.f true 4).bind fun t105 => (some (IntKind.u16.wrap (wrap64 ((wrap64 ((wrap64 (a0)) + (wrap64 (a1)))) + (wrap64 (Go.bits .and .u8 a2 1)))), Go.bits .or .u8 (Go.bits .or .u8 (Go.bits .or .u8 t102 t103) t104) t105))) else ((wide_if1.f (decide ((wrap64 ((wrap64 ((wrap64 (IntKind.i16.wrap (a0))) + (wrap64 (IntKind.i16.wrap (a1))))) + (wrap64 (Go.bits .and .u8 a2 1)))) ≥ 32768)) 4).bind fun t106 => (some (IntKind.u16.wrap (wrap64 ((wrap64 ((wrap64 (a0)) + (wrap64 (a1)))) + (wrap64 (Go.bits .and .u8 a2 1)))), Go.bits .or .u8 (Go.bits .or .u8 (Go.bits .or .u8 t102 t103) t104) t106))))) = some (r1, r2) := H
  have A5 := Aside0.mk A50
  clear A50
  replace H := Option.bind_eq_some_iff.mp H
  obtain ⟨t104, A60, H⟩ := H
  replace H : (if (wrap64 ((wrap64 ((wrap64 (IntKind.i16.wrap (a0))) + (wrap64 (IntKind.i16.wrap (a1))))) + (wrap64 (Go.bits .and .u8 a2 1)))) < (-32768) then ((wide_if1.f true 4).bind fun t105 => (some (IntKind.u16.wrap (wrap64 ((wrap64 ((wrap64 (a0)) + (wrap64 (a1)))) + (wrap64 (Go.bits .and .u8 a2 1)))), Go.bits .or .u8 (Go.bits .or .u8 (Go.bits .or .u8 t102 t103) t104) t105))) else ((wide_if1.f (decide ((wrap64 ((wrap64 ((wrap64 (IntKind.i16.wrap (a0))) + (wrap64 (IntKind.i16.wrap (a1))))) + (wrap64 (Go.bits .and .u8 a2 1)))) ≥ 32768)) 4).bind fun t106 => (some (IntKind.u16.wrap (wrap64 ((wrap64 ((wrap64 (a0)) + (wrap64 (a1)))) + (wrap64 (Go.bits .and .u8 a2 1)))), Go.bits .or .u8 (Go.bits .or .u8 (Go.bits .or .u8 t102 t103) t104) t106)))) = some (r1, r2) := H
  have A6 := Aside0.mk A60
  clear A60
  by_cases c7 : (wrap64 ((wrap64 ((wrap64 (IntKind.i16.wrap (a0))) + (wrap64 (IntKind.i16.wrap (a1))))) + (wrap64 (Go.bits .and .u8 a2 1)))) < (-32768)
  · rw [if_pos c7] at H
    have c7b0 : decide ((wrap64 ((wrap64 ((wrap64 (IntKind.i16.wrap (a0))) + (wrap64 (IntKind.i16.wrap (a1))))) + (wrap64 (Go.bits .and .u8 a2 1)))) < (-32768)) = true := decide_eq_true c7
    clear c7
    replace H := Option.bind_eq_some_iff.mp H
    obtain ⟨t105, A80, H⟩ := H
    replace H : (some (IntKind.u16.wrap (wrap64 ((wrap64 ((wrap64 (a0)) + (wrap64 (a1)))) + (wrap64 (Go.bits .and .u8 a2 1)))), Go.bits .or .u8 (Go.bits .or .u8 (Go.bits .or .u8 t102 t103) t104) t105)) = some (r1, r2) := H
    have A8 := Aside0.mk A80
    clear A80
    simp only [Option.some.injEq, Prod.mk.injEq] at H
    obtain ⟨rfl, rfl⟩ := H
    go_enter Try.func20, Try.ntmps20
    go_wp2_with (first | ((with_reducible refine gate_callee (f := 80) rfl ?_); refine goesL_ (some 34) rfl rfl Try.func80 (by kernel_rfl) rfl #[.int .u16 (IntKind.u16.wrap (wrap64 ((wrap64 ((wrap64 (a0)) + (wrap64 (a1)))) + (wrap64 (Go.bits .and .u8 a2 1)))))] rfl (by (try simp only [List.map_toArray, List.map_cons, List.map_nil]); first | done | rfl | (simp only [List.length_drop, List.length_take]; rfl)) ?_; (with_reducible refine (wide_all.calls (IntKind.u16.wrap (wrap64 ((wrap64 ((wrap64 (a0)) + (wrap64 (a1)))) + (wrap64 (Go.bits .and .u8 a2 1))))) t102 _ A4.out).mono ?_); rintro e w' ⟨rfl, ⟨nd, rfl⟩⟩; refine ⟨_, rfl, ?_⟩) | ((with_reducible refine gate_callee (f := 81) rfl ?_); refine goesL_ (some 37) rfl rfl Try.func81 (by kernel_rfl) rfl #[.bool (decide ((wrap64 ((wrap64 ((wrap64 (a0)) + (wrap64 (a1)))) + (wrap64 (Go.bits .and .u8 a2 1)))) > 65535)), .int .u8 1] rfl (by (try simp only [List.map_toArray, List.map_cons, List.map_nil]); first | done | rfl | (simp only [List.length_drop, List.length_take]; rfl)) ?_; (with_reducible refine (wide_if1.calls (decide ((wrap64 ((wrap64 ((wrap64 (a0)) + (wrap64 (a1)))) + (wrap64 (Go.bits .and .u8 a2 1)))) > 65535)) 1 t103 _ A5.out).mono ?_); rintro e w' ⟨rfl, ⟨nd, rfl⟩⟩; refine ⟨_, rfl, ?_⟩) | ((with_reducible refine gate_callee (f := 81) rfl ?_); refine goesL_ (some 49) rfl rfl Try.func81 (by kernel_rfl) rfl #[.bool (decide ((wrap64 ((wrap64 ((wrap64 (Go.bits .and .u16 a0 4095)) + (wrap64 (Go.bits .and .u16 a1 4095)))) + (wrap64 (Go.bits .and .u8 a2 1)))) > 4095)), .int .u8 16] rfl (by (try simp only [List.map_toArray, List.map_cons, List.map_nil]); first | done | rfl | (simp only [List.length_drop, List.length_take]; rfl)) ?_; (with_reducible refine (wide_if1.calls (decide ((wrap64 ((wrap64 ((wrap64 (Go.bits .and .u16 a0 4095)) + (wrap64 (Go.bits .and .u16 a1 4095)))) + (wrap64 (Go.bits .and .u8 a2 1)))) > 4095)) 16 t104 _ A6.out).mono ?_); rintro e w' ⟨rfl, ⟨nd, rfl⟩⟩; refine ⟨_, rfl, ?_⟩) | ((with_reducible refine gate_callee (f := 81) rfl ?_); refine goesL_ (some 57) rfl rfl Try.func81 (by kernel_rfl) rfl #[.bool true, .int .u8 4] rfl (by (try simp only [List.map_toArray, List.map_cons, List.map_nil]); first | done | rfl | (simp only [List.length_drop, List.length_take]; rfl)) ?_; (with_reducible refine (wide_if1.calls true 4 t105 _ A8.out).mono ?_); rintro e w' ⟨rfl, ⟨nd, rfl⟩⟩; refine ⟨_, rfl, ?_⟩))
    go_ret2
    exact ⟨by first | rfl | (simp; done) | (simp [*]; done), by repeat (first | exact Drawn0.refl _ | apply Drawn0.step)⟩
  · rw [if_neg c7] at H
    have c7b0 : decide ((wrap64 ((wrap64 ((wrap64 (IntKind.i16.wrap (a0))) + (wrap64 (IntKind.i16.wrap (a1))))) + (wrap64 (Go.bits .and .u8 a2 1)))) < (-32768)) = false := decide_eq_false c7
    clear c7
    replace H := Option.bind_eq_some_iff.mp H
    obtain ⟨t106, A90, H⟩ := H
    replace H : (some (IntKind.u16.wrap (wrap64 ((wrap64 ((wrap64 (a0)) + (wrap64 (a1)))) + (wrap64 (Go.bits .and .u8 a2 1)))), Go.bits .or .u8 (Go.bits .or .u8 (Go.bits .or .u8 t102 t103) t104) t106)) = some (r1, r2) := H
    have A9 := Aside0.mk A90
    clear A90
    simp only [Option.some.injEq, Prod.mk.injEq] at H
    obtain ⟨rfl, rfl⟩ := H
    go_enter Try.func20, Try.ntmps20
    go_wp2_with (first | ((with_reducible refine gate_callee (f := 80) rfl ?_); refine goesL_ (some 34) rfl rfl Try.func80 (by kernel_rfl) rfl #[.int .u16 (IntKind.u16.wrap (wrap64 ((wrap64 ((wrap64 (a0)) + (wrap64 (a1)))) + (wrap64 (Go.bits .and .u8 a2 1)))))] rfl (by (try simp only [List.map_toArray, List.map_cons, List.map_nil]); first | done | rfl | (simp only [List.length_drop, List.length_take]; rfl)) ?_; (with_reducible refine (wide_all.calls (IntKind.u16.wrap (wrap64 ((wrap64 ((wrap64 (a0)) + (wrap64 (a1)))) + (wrap64 (Go.bits .and .u8 a2 1))))) t102 _ A4.out).mono ?_); rintro e w' ⟨rfl, ⟨nd, rfl⟩⟩; refine ⟨_, rfl, ?_⟩) | ((with_reducible refine gate_callee (f := 81) rfl ?_); refine goesL_ (some 37) rfl rfl Try.func81 (by kernel_rfl) rfl #[.bool (decide ((wrap64 ((wrap64 ((wrap64 (a0)) + (wrap64 (a1)))) + (wrap64 (Go.bits .and .u8 a2 1)))) > 65535)), .int .u8 1] rfl (by (try simp only [List.map_toArray, List.map_cons, List.map_nil]); first | done | rfl | (simp only [List.length_drop, List.length_take]; rfl)) ?_; (with_reducible refine (wide_if1.calls (decide ((wrap64 ((wrap64 ((wrap64 (a0)) + (wrap64 (a1)))) + (wrap64 (Go.bits .and .u8 a2 1)))) > 65535)) 1 t103 _ A5.out).mono ?_); rintro e w' ⟨rfl, ⟨nd, rfl⟩⟩; refine ⟨_, rfl, ?_⟩) | ((with_reducible refine gate_callee (f := 81) rfl ?_); refine goesL_ (some 49) rfl rfl Try.func81 (by kernel_rfl) rfl #[.bool (decide ((wrap64 ((wrap64 ((wrap64 (Go.bits .and .u16 a0 4095)) + (wrap64 (Go.bits .and .u16 a1 4095)))) + (wrap64 (Go.bits .and .u8 a2 1)))) > 4095)), .int .u8 16] rfl (by (try simp only [List.map_toArray, List.map_cons, List.map_nil]); first | done | rfl | (simp only [List.length_drop, List.length_take]; rfl)) ?_; (with_reducible refine (wide_if1.calls (decide ((wrap64 ((wrap64 ((wrap64 (Go.bits .and .u16 a0 4095)) + (wrap64 (Go.bits .and .u16 a1 4095)))) + (wrap64 (Go.bits .and .u8 a2 1)))) > 4095)) 16 t104 _ A6.out).mono ?_); rintro e w' ⟨rfl, ⟨nd, rfl⟩⟩; refine ⟨_, rfl, ?_⟩) | ((with_reducible refine gate_callee (f := 81) rfl ?_); refine goesL_ (some 57) rfl rfl Try.func81 (by kernel_rfl) rfl #[.bool (decide ((wrap64 ((wrap64 ((wrap64 (IntKind.i16.wrap (a0))) + (wrap64 (IntKind.i16.wrap (a1))))) + (wrap64 (Go.bits .and .u8 a2 1)))) ≥ 32768)), .int .u8 4] rfl (by (try simp only [List.map_toArray, List.map_cons, List.map_nil]); first | done | rfl | (simp only [List.length_drop, List.length_take]; rfl)) ?_; (with_reducible refine (wide_if1.calls (decide ((wrap64 ((wrap64 ((wrap64 (IntKind.i16.wrap (a0))) + (wrap64 (IntKind.i16.wrap (a1))))) + (wrap64 (Go.bits .and .u8 a2 1)))) ≥ 32768)) 4 t106 _ A9.out).mono ?_); rintro e w' ⟨rfl, ⟨nd, rfl⟩⟩; refine ⟨_, rfl, ?_⟩))
    go_ret2
    exact ⟨by first | rfl | (simp; done) | (simp [*]; done), by repeat (first | exact Drawn0.refl _ | apply Drawn0.step)⟩

/-! ### wide_Sbc: function 22 -/
def wide_Sbc.f (a0 : Int) (a1 : Int) (a2 : Int) : Option (Int × Int) := (wide_all.f (IntKind.u16.wrap (wrap64 ((wrap64 ((wrap64 (a0)) - (wrap64 (a1)))) - (wrap64 (Go.bits .and .u8 a2 1)))))).bind fun t107 => ((wide_if1.f (decide ((wrap64 ((wrap64 ((wrap64 (a0)) - (wrap64 (a1)))) - (wrap64 (Go.bits .and .u8 a2 1)))) < 0)) 1).bind fun t108 => ((wide_if1.f (decide ((wrap64 ((wrap64 ((wrap64 (Go.bits .and .u16 a0 4095)) - (wrap64 (Go.bits .and .u16 a1 4095)))) - (wrap64 (Go.bits .and .u8 a2 1)))) < 0)) 16).bind fun t109 => (if (wrap64 ((wrap64 ((wrap64 (IntKind.i16.wrap (a0))) - (wrap64 (IntKind.i16.wrap (a1))))) - (wrap64 (Go.bits .and .u8 a2 1)))) < (-32768) then ((wide_if1.f true 4).bind fun t110 => (some (IntKind.u16.wrap (wrap64 ((wrap64 ((wrap64 (a0)) - (wrap64 (a1)))) - (wrap64 (Go.bits .and .u8 a2 1)))), Go.bits .or .u8 (Go.bits .or .u8 (Go.bits .or .u8 (Go.bits .or .u8 t107 2) t108) t109) t110))) else ((wide_if1.f (decide ((wrap64 ((wrap64 ((wrap64 (IntKind.i16.wrap (a0))) - (wrap64 (IntKind.i16.wrap (a1))))) - (wrap64 (Go.bits .and .u8 a2 1)))) ≥ 32768)) 4).bind fun t111 => (some (IntKind.u16.wrap (wrap64 ((wrap64 ((wrap64 (a0)) - (wrap64 (a1)))) - (wrap64 (Go.bits .and .u8 a2 1)))), Go.bits .or .u8 (Go.bits .or .u8 (Go.bits .or .u8 (Go.bits .or .u8 t107 2) t108) t109) t111))))))
set_option maxHeartbeats 8000000 in
set_option maxRecDepth 100000 in
theorem wide_Sbc.calls (a0 : Int) (a1 : Int) (a2 : Int) (r1 : Int) (r2 : Int) (w : World) (h : wide_Sbc.f a0 a1 a2 = some (r1, r2)) :
    Calls Try.prog 22 #[.int .u16 a0, .int .u16 a1, .int .u8 a2] w fun e w' => e = .returned (.tuple #[.int .u16 r1, .int .u8 r2]) ∧ Drawn0 w w' := by
  have H : ((wide_all.f (IntKind.u16.wrap (wrap64 ((wrap64 ((wrap64 (a0)) - (wrap64 (a1)))) - (wrap64 (Go.bits .and .u8 a2 1)))))).bind fun t107 => ((wide_if1.f (decide ((wrap64 ((wrap64 ((wrap64 (a0)) - (wrap64 (a1)))) - (wrap64 (Go.bits .and .u8 a2 1)))) < 0)) 1).bind fun t108 => ((wide_if1.f (decide ((wrap64 ((wrap64 ((wrap64 (Go.bits .and .u16 a0 4095)) - (wrap64 (Go.bits .and .u16 a1 4095)))) - (wrap64 (Go.bits .and .u8 a2 1)))) < 0)) 16).bind fun t109 => (if (wrap64 ((wrap64 ((wrap64 (IntKind.i16.wrap (a0))) - (wrap64 (IntKind.i16.wrap (a1))))) - (wrap64 (Go.bits .and .u8 a2 1)))) < (-32768) then ((wide_if1.f true 4).bind fun t110 => (some (IntKind.u16.wrap (wrap64 ((wrap64 ((wrap64 (a0)) - (wrap64 (a1)))) - (wrap64 (Go.bits .and .u8 a2 1)))), Go.bits .or .u8 (Go.bits .or .u8 (Go.bits .or .u8 (Go.bits .or .u8 t107 2) t108) t109) t110))) else ((wide_if1.f (decide ((wrap64 ((wrap64 ((wrap64 (IntKind.i16.wrap (a0))) - (wrap64 (IntKind.i16.wrap (a1))))) - (wrap64 (Go.bits .and .u8 a2 1)))) ≥ 32768)) 4).bind fun t111 => (some (IntKind.u16.wrap (wrap64 ((wrap64 ((wrap64 (a0)) - (wrap64 (a1)))) - (wrap64 (Go.bits .and .u8 a2 1)))), Go.bits .or .u8 (Go.bits .or .u8 (Go.bits .or .u8 (Go.bits .or .u8 t107 2) t108) t109) t111))))))) = some (r1, r2) := h
  clear h
  replace H := Option.bind_eq_some_iff.mp H
  obtain ⟨t107, A40, H⟩ := H
  replace H : ((wide_if1.f (decide ((wrap64 ((wrap64 ((wrap64 (a0)) - (wrap64 (a1)))) - (wrap64 (Go.bits .and .u8 a2 1)))) < 0)) 1).bind fun t108 => ((wide_if1.f (decide ((wrap64 ((wrap64 ((wrap64 (Go.bits .and .u16 a0 4095)) - (wrap64 (Go.bits .and .u16 a1 4095)))) - (wrap64 (Go.bits .and .u8 a2 1)))) < 0)) 16).bind fun t109 => (if (wrap64 ((wrap64 ((wrap64 (IntKind.i16.wrap (a0))) - (wrap64 (IntKind.i16.wrap (a1))))) - (wrap64 (Go.bits .and .u8 a2 1)))) < (-32768) then ((wide_if1.f true 4).bind fun t110 => (some (IntKind.u16.wrap (wrap64 ((wrap64 ((wrap64 (a0)) - (wrap64 (a1)))) - (wrap64 (Go.bits .and .u8 a2 1)))), Go.bits .or .u8 (Go.bits .or .u8 (Go.bits .or .u8 (Go.bits .or .u8 t107 2) t108) t109) t110))) else ((wide_if1.f (decide ((wrap64 ((wrap64 ((wrap64 (IntKind.i16.wrap (a0))) - (wrap64 (IntKind.i16.wrap (a1))))) - (wrap64 (Go.bits .and .u8 a2 1)))) ≥ 32768)) 4).bind fun t111 => (some (IntKind.u16.wrap (wrap64 ((wrap64 ((wrap64 (a0)) - (wrap64 (a1)))) - (wrap64 (Go.bits .and .u8 a2 1)))), Go.bits .or .u8 (Go.bits .or .u8 (Go.bits .or .u8 (Go.bits .or .u8 t107 2) t108) t109) t111)))))) = some (r1, r2) := H
  have A4 := Aside0.mk A40
  clear A40
  replace H := Option.bind_eq_some_iff.mp H
  obtain ⟨t108, A50, H⟩ := H
  replace H : ((wide_if1.f (decide ((wrap64 ((wrap64 ((wrap64 (Go.bits .and .u16 a0 4095)) - (wrap64 (Go.bits .and .u16 a1 4095)))) - (wrap64 (Go.bits .and .u8 a2 1)))) < 0)) 16).bind fun t109 => (if (wrap64 ((wrap64 ((wrap64 (IntKind.i16.wrap (a0))) - (wrap64 (IntKind.i16.wrap (a1))))) - (wrap64 (Go.bits .and .u8 a2 1)))) < (-32768) then ((wide_if1.f true 4).bind fun t110 => (some (IntKind.u16.wrap (wrap64 ((wrap64 ((wrap64 (a0)) - (wrap64 (a1)))) - (wrap64 (Go.bits .and .u8 a2 1)))), Go.bits .or .u8 (Go.bits .or .u8 (Go.bits .or .u8 (Go.bits .or .u8 t107 2) t108) t109) t110))) else ((wide_if1.f (decide ((wrap64 ((wrap64 ((wrap64 (IntKind.i16.wrap (a0))) - (wrap64 (IntKind.i16.wrap (a1))))) - (wrap64 (Go.bits .and .u8 a2 1)))) ≥ 32768)) 4).bind fun t111 => (some (IntKind.u16.wrap (wrap64 ((wrap64 ((wrap64 (a0)) - (wrap64 (a1)))) - (wrap64 (Go.bits .and .u8 a2 1)))), Go.bits .or .u8 (Go.bits .or .u8 (Go.bits .or .u8 (Go.bits .or .u8 t107 2) t108) t109) t111))))) = some (r1, r2) := H
  have A5 := Aside0.mk A50
  clear A50
  replace H := Option.bind_eq_some_iff.mp H
  obtain ⟨t109, A60, H⟩ := H
  replace H : (if (wrap64 ((wrap64 ((wrap64 (IntKind.i16.wrap (a0))) - (wrap64 (IntKind.i16.wrap (a1))))) - (wrap64 (Go.bits .and .u8 a2 1)))) < (-32768) then ((wide_if1.f true 4).bind fun t110 => (some (IntKind.u16.wrap (wrap64 ((wrap64 ((wrap64 (a0)) - (wrap64 (a1)))) - (wrap64 (Go.bits .and .u8 a2 1)))), Go.bits .or .u8 (Go.bits .or .u8 (Go.bits .or .u8 (Go.bits .or .u8 t107 2) t108) t109) t110))) else ((wide_if1.f (decide ((wrap64 ((wrap64 ((wrap64 (IntKind.i16.wrap (a0))) - (wrap64 (IntKind.i16.wrap (a1))))) - (wrap64 (Go.bits .and .u8 a2 1)))) ≥ 32768)) 4).bind fun t111 => (some (IntKind.u16.wrap (wrap64 ((wrap64 ((wrap64 (a0)) - (wrap64 (a1)))) - (wrap64 (Go.bits .and .u8 a2 1)))), Go.bits .or .u8 (Go.bits .or .u8 (Go.bits .or .u8 (Go.bits .or .u8 t107 2) t108) t109) t111)))) = some (r1, r2) := H
  have A6 := Aside0.mk A60
  clear A60
  by_cases c7 : (wrap64 ((wrap64 ((wrap64 (IntKind.i16.wrap (a0))) - (wrap64 (IntKind.i16.wrap (a1))))) - (wrap64 (Go.bits .and .u8 a2 1)))) < (-32768)
  · rw [if_pos c7] at H
    have c7b0 : decide ((wrap64 ((wrap64 ((wrap64 (IntKind.i16.wrap (a0))) - (wrap64 (IntKind.i16.wrap (a1))))) - (wrap64 (Go.bits .and .u8 a2 1)))) < (-32768)) = true := decide_eq_true c7
    clear c7
    replace H := Option.bind_eq_some_iff.mp H
    obtain ⟨t110, A80, H⟩ := H
    replace H : (some (IntKind.u16.wrap (wrap64 ((wrap64 ((wrap64 (a0)) - (wrap64 (a1)))) - (wrap64 (Go.bits .and .u8 a2 1)))), Go.bits .or .u8 (Go.bits .or .u8 (Go.bits .or .u8 (Go.bits .or .u8 t107 2) t108) t109) t110)) = some (r1, r2) := H
    have A8 := Aside0.mk A80
    clear A80
    simp only [Option.some.injEq, Prod.mk.injEq] at H
    obtain ⟨rfl, rfl⟩ := H
    go_enter Try.func22, Try.ntmps22
    go_wp2_with (first | ((with_reducible refine gate_callee (f := 80) rfl ?_); refine goesL_ (some 34) rfl rfl Try.func80 (by kernel_rfl) rfl #[.int .u16 (IntKind.u16.wrap (wrap64 ((wrap64 ((wrap64 (a0)) - (wrap64 (a1)))) - (wrap64 (Go.bits .and .u8 a2 1)))))] rfl (by (try simp only [List.map_toArray, List.map_cons, List.map_nil]); first | done | rfl | (simp only [List.length_drop, List.length_take]; rfl)) ?_; (with_reducible refine (wide_all.calls (IntKind.u16.wrap (wrap64 ((wrap64 ((wrap64 (a0)) - (wrap64 (a1)))) - (wrap64 (Go.bits .and .u8 a2 1))))) t107 _ A4.out).mono ?_); rintro e w' ⟨rfl, ⟨nd, rfl⟩⟩; refine ⟨_, rfl, ?_⟩) | ((with_reducible refine gate_callee (f := 81) rfl ?_); refine goesL_ (some 38) rfl rfl Try.func81 (by kernel_rfl) rfl #[.bool (decide ((wrap64 ((wrap64 ((wrap64 (a0)) - (wrap64 (a1)))) - (wrap64 (Go.bits .and .u8 a2 1)))) < 0)), .int .u8 1] rfl (by (try simp only [List.map_toArray, List.map_cons, List.map_nil]); first | done | rfl | (simp only [List.length_drop, List.length_take]; rfl)) ?_; (with_reducible refine (wide_if1.calls (decide ((wrap64 ((wrap64 ((wrap64 (a0)) - (wrap64 (a1)))) - (wrap64 (Go.bits .and .u8 a2 1)))) < 0)) 1 t108 _ A5.out).mono ?_); rintro e w' ⟨rfl, ⟨nd, rfl⟩⟩; refine ⟨_, rfl, ?_⟩) | ((with_reducible refine gate_callee (f := 81) rfl ?_); refine goesL_ (some 50) rfl rfl Try.func81 (by kernel_rfl) rfl #[.bool (decide ((wrap64 ((wrap64 ((wrap64 (Go.bits .and .u16 a0 4095)) - (wrap64 (Go.bits .and .u16 a1 4095)))) - (wrap64 (Go.bits .and .u8 a2 1)))) < 0)), .int .u8 16] rfl (by (try simp only [List.map_toArray, List.map_cons, List.map_nil]); first | done | rfl | (simp only [List.length_drop, List.length_take]; rfl)) ?_; (with_reducible refine (wide_if1.calls (decide ((wrap64 ((wrap64 ((wrap64 (Go.bits .and .u16 a0 4095)) - (wrap64 (Go.bits .and .u16 a1 4095)))) - (wrap64 (Go.bits .and .u8 a2 1)))) < 0)) 16 t109 _ A6.out).mono ?_); rintro e w' ⟨rfl, ⟨nd, rfl⟩⟩; refine ⟨_, rfl, ?_⟩) | ((with_reducible refine gate_callee (f := 81) rfl ?_); refine goesL_ (some 58) rfl rfl Try.func81 (by kernel_rfl) rfl #[.bool true, .int .u8 4] rfl (by (try simp only [List.map_toArray, List.map_cons, List.map_nil]); first | done | rfl | (simp only [List.length_drop, List.length_take]; rfl)) ?_; (with_reducible refine (wide_if1.calls true 4 t110 _ A8.out).mono ?_); rintro e w' ⟨rfl, ⟨nd, rfl⟩⟩; refine ⟨_, rfl, ?_⟩))
    go_ret2
    exact ⟨by first | rfl | (simp; done) | (simp [*]; done), by repeat (first | exact Drawn0.refl _ | apply Drawn0.step)⟩
  · rw [if_neg c7] at H
    have c7b0 : decide ((wrap64 ((wrap64 ((wrap64 (IntKind.i16.wrap (a0))) - (wrap64 (IntKind.i16.wrap (a1))))) - (wrap64 (Go.bits .and .u8 a2 1)))) < (-32768)) = false := decide_eq_false c7
    clear c7
    replace H := Option.bind_eq_some_iff.mp H
    obtain ⟨t111, A90, H⟩ := H
    replace H : (some (IntKind.u16.wrap (wrap64 ((wrap64 ((wrap64 (a0)) - (wrap64 (a1)))) - (wrap64 (Go.bits .and .u8 a2 1)))), Go.bits .or .u8 (Go.bits .or .u8 (Go.bits .or .u8 (Go.bits .or .u8 t107 2) t108) t109) t111)) = some (r1, r2) := H
    have A9 := Aside0.mk A90
    clear A90
    simp only [Option.some.injEq, Prod.mk.injEq] at H
    obtain ⟨rfl, rfl⟩ := H
    go_enter Try.func22, Try.ntmps22
    go_wp2_with (first | ((with_reducible refine gate_callee (f := 80) rfl ?_); refine goesL_ (some 34) rfl rfl Try.func80 (by kernel_rfl) rfl #[.int .u16 (IntKind.u16.wrap (wrap64 ((wrap64 ((wrap64 (a0)) - (wrap64 (a1)))) - (wrap64 (Go.bits .and .u8 a2 1)))))] rfl (by (try simp only [List.map_toArray, List.map_cons, List.map_nil]); first | done | rfl | (simp only [List.length_drop, List.length_take]; rfl)) ?_; (with_reducible refine (wide_all.calls (IntKind.u16.wrap (wrap64 ((wrap64 ((wrap64 (a0)) - (wrap64 (a1)))) - (wrap64 (Go.bits .and .u8 a2 1))))) t107 _ A4.out).mono ?_); rintro e w' ⟨rfl, ⟨nd, rfl⟩⟩; refine ⟨_, rfl, ?_⟩) | ((with_reducible refine gate_callee (f := 81) rfl ?_); refine goesL_ (some 38) rfl rfl Try.func81 (by kernel_rfl) rfl #[.bool (decide ((wrap64 ((wrap64 ((wrap64 (a0)) - (wrap64 (a1)))) - (wrap64 (Go.bits .and .u8 a2 1)))) < 0)), .int .u8 1] rfl (by (try simp only [List.map_toArray, List.map_cons, List.map_nil]); first | done | rfl | (simp only [List.length_drop, List.length_take]; rfl)) ?_; (with_reducible refine (wide_if1.calls (decide ((wrap64 ((wrap64 ((wrap64 (a0)) - (wrap64 (a1)))) - (wrap64 (Go.bits .and .u8 a2 1)))) < 0)) 1 t108 _ A5.out).mono ?_); rintro e w' ⟨rfl, ⟨nd, rfl⟩⟩; refine ⟨_, rfl, ?_⟩) | ((with_reducible refine gate_callee (f := 81) rfl ?_); refine goesL_ (some 50) rfl rfl Try.func81 (by kernel_rfl) rfl #[.bool (decide ((wrap64 ((wrap64 ((wrap64 (Go.bits .and .u16 a0 4095)) - (wrap64 (Go.bits .and .u16 a1 4095)))) - (wrap64 (Go.bits .and .u8 a2 1)))) < 0)), .int .u8 16] rfl (by (try simp only [List.map_toArray, List.map_cons, List.map_nil]); first | done | rfl | (simp only [List.length_drop, List.length_take]; rfl)) ?_; (with_reducible refine (wide_if1.calls (decide ((wrap64 ((wrap64 ((wrap64 (Go.bits .and .u16 a0 4095)) - (wrap64 (Go.bits .and .u16 a1 4095)))) - (wrap64 (Go.bits .and .u8 a2 1)))) < 0)) 16 t109 _ A6.out).mono ?_); rintro e w' ⟨rfl, ⟨nd, rfl⟩⟩; refine ⟨_, rfl, ?_⟩) | ((with_reducible refine gate_callee (f := 81) rfl ?_); refine goesL_ (some 58) rfl rfl Try.func81 (by kernel_rfl) rfl #[.bool (decide ((wrap64 ((wrap64 ((wrap64 (IntKind.i16.wrap (a0))) - (wrap64 (IntKind.i16.wrap (a1))))) - (wrap64 (Go.bits .and .u8 a2 1)))) ≥ 32768)), .int .u8 4] rfl (by (try simp only [List.map_toArray, List.map_cons, List.map_nil]); first | done | rfl | (simp only [List.length_drop, List.length_take]; rfl)) ?_; (with_reducible refine (wide_if1.calls (decide ((wrap64 ((wrap64 ((wrap64 (IntKind.i16.wrap (a0))) - (wrap64 (IntKind.i16.wrap (a1))))) - (wrap64 (Go.bits .and .u8 a2 1)))) ≥ 32768)) 4 t111 _ A9.out).mono ?_); rintro e w' ⟨rfl, ⟨nd, rfl⟩⟩; refine ⟨_, rfl, ?_⟩))
    go_ret2
    exact ⟨by first | rfl | (simp; done) | (simp [*]; done), by repeat (first | exact Drawn0.refl _ | apply Drawn0.step)⟩

/-! ### wide_Add: function 24 -/
def wide_Add.f (a0 : Int) (a1 : Int) (a2 : Int) : Option (Int × Int) := (wide_if1.f (decide ((IntKind.u16.wrap (a0 + a1)) < a0)) 1).bind fun t112 => ((wide_if1.f (decide ((IntKind.u16.wrap ((Go.bits .and .u16 a0 4095) + (Go.bits .and .u16 a1 4095))) > 4095)) 16).bind fun t113 => (some (IntKind.u16.wrap (a0 + a1), Go.bits .or .u8 (Go.bits .or .u8 (Go.bits .or .u8 (Go.bits .and .u8 a2 196) (Go.bits .and .u8 (((IntKind.u16.wrap (a0 + a1)) / 256) % 256) 40)) t112) t113)))
set_option maxHeartbeats 8000000 in
set_option maxRecDepth 100000 in
theorem wide_Add.calls (a0 : Int) (a1 : Int) (a2 : Int) (r1 : Int) (r2 : Int) (w : World) (h : wide_Add.f a0 a1 a2 = some (r1, r2)) :
    Calls Try.prog 24 #[.int .u16 a0, .int .u16 a1, .int .u8 a2] w fun e w' => e = .returned (.tuple #[.int .u16 r1, .int .u8 r2]) ∧ Drawn0 w w' := by
  have H : ((wide_if1.f (decide ((IntKind.u16.wrap (a0 + a1)) < a0)) 1).bind fun t112 => ((wide_if1.f (decide ((IntKind.u16.wrap ((Go.bits .and .u16 a0 4095) + (Go.bits .and .u16 a1 4095))) > 4095)) 16).bind fun t113 => (some (IntKind.u16.wrap (a0 + a1), Go.bits .or .u8 (Go.bits .or .u8 (Go.bits .or .u8 (Go.bits .and .u8 a2 196) (Go.bits .and .u8 (((IntKind.u16.wrap (a0 + a1)) / 256) % 256) 40)) t112) t113)))) = some (r1, r2) := h
  clear h
  replace H := Option.bind_eq_some_iff.mp H
  obtain ⟨t112, A40, H⟩ := H
  replace H : ((wide_if1.f (decide ((IntKind.u16.wrap ((Go.bits .and .u16 a0 4095) + (Go.bits .and .u16 a1 4095))) > 4095)) 16).bind fun t113 => (some (IntKind.u16.wrap (a0 + a1), Go.bits .or .u8 (Go.bits .or .u8 (Go.bits .or .u8 (Go.bits .and .u8 a2 196) (Go.bits .and .u8 (((IntKind.u16.wrap (a0 + a1)) / 256) % 256) 40)) t112) t113))) = some (r1, r2) := H
  have A4 := Aside0.mk A40
  clear A40
  replace H := Option.bind_eq_some_iff.mp H
  obtain ⟨t113, A50, H⟩ := H
  replace H : (some (IntKind.u16.wrap (a0 + a1), Go.bits .or .u8 (Go.bits .or .u8 (Go.bits .or .u8 (Go.bits .and .u8 a2 196) (Go.bits .and .u8 (((IntKind.u16.wrap (a0 + a1)) / 256) % 256) 40)) t112) t113)) = some (r1, r2) := H
  have A5 := Aside0.mk A50
  clear A50
  simp only [Option.some.injEq, Prod.mk.injEq] at H
  obtain ⟨rfl, rfl⟩ := H
  go_enter Try.func24, Try.ntmps24
  go_wp2_with (first | ((with_reducible refine gate_callee (f := 81) rfl ?_); refine goesL_ (some 22) rfl rfl Try.func81 (by kernel_rfl) rfl #[.bool (decide ((IntKind.u16.wrap (a0 + a1)) < a0)), .int .u8 1] rfl (by (try simp only [List.map_toArray, List.map_cons, List.map_nil]); first | done | rfl | (simp only [List.length_drop, List.length_take]; rfl)) ?_; (with_reducible refine (wide_if1.calls (decide ((IntKind.u16.wrap (a0 + a1)) < a0)) 1 t112 _ A4.out).mono ?_); rintro e w' ⟨rfl, ⟨nd, rfl⟩⟩; refine ⟨_, rfl, ?_⟩) | ((with_reducible refine gate_callee (f := 81) rfl ?_); refine goesL_ (some 30) rfl rfl Try.func81 (by kernel_rfl) rfl #[.bool (decide ((IntKind.u16.wrap ((Go.bits .and .u16 a0 4095) + (Go.bits .and .u16 a1 4095))) > 4095)), .int .u8 16] rfl (by (try simp only [List.map_toArray, List.map_cons, List.map_nil]); first | done | rfl | (simp only [List.length_drop, List.length_take]; rfl)) ?_; (with_reducible refine (wide_if1.calls (decide ((IntKind.u16.wrap ((Go.bits .and .u16 a0 4095) + (Go.bits .and .u16 a1 4095))) > 4095)) 16 t113 _ A5.out).mono ?_); rintro e w' ⟨rfl, ⟨nd, rfl⟩⟩; refine ⟨_, rfl, ?_⟩))
  go_ret2
  exact ⟨by first | rfl | (simp; done) | (simp [*]; done), by repeat (first | exact Drawn0.refl _ | apply Drawn0.step)⟩

/-! ### pendulumlaw07_lives: function 19 -/
def pendulumlaw07_lives.f  : Option (Bool) := (wide_Add.f 4095 1 0).bind fun bt114 => ((wide_Adc.f 32767 0 1).bind fun bt116 => ((wide_Sbc.f 0 1 0).bind fun bt118 => (if bt114.1 = 4096 then (if bt114.2 = 16 then (if bt116.1 = 32768 then (if bt116.2 = 148 then (if bt118.1 = 65535 then (some (bt118.2 == 187)) else (some false)) else (some false)) else (some false)) else (some false)) else (some false))))
set_option maxHeartbeats 8000000 in
set_option maxRecDepth 100000 in
theorem pendulumlaw07_lives.calls  (r : Bool) (w : World) (h : pendulumlaw07_lives.f  = some r) :
    Calls Try.prog 19 #[] w fun e w' => e = .returned (.bool r) ∧ Drawn0 w w' := by
  have H : ((wide_Add.f 4095 1 0).bind fun bt114 => ((wide_Adc.f 32767 0 1).bind fun bt116 => ((wide_Sbc.f 0 1 0).bind fun bt118 => (if bt114.1 = 4096 then (if bt114.2 = 16 then (if bt116.1 = 32768 then (if bt116.2 = 148 then (if bt118.1 = 65535 then (some (bt118.2 == 187)) else (some false)) else (some false)) else (some false)) else (some false)) else (some false))))) = some r := h
  clear h
  replace H := Option.bind_eq_some_iff.mp H
  obtain ⟨⟨t114, t115⟩, A10, H⟩ := H
  replace H : ((wide_Adc.f 32767 0 1).bind fun bt116 => ((wide_Sbc.f 0 1 0).bind fun bt118 => (if t114 = 4096 then (if t115 = 16 then (if bt116.1 = 32768 then (if bt116.2 = 148 then (if bt118.1 = 65535 then (some (bt118.2 == 187)) else (some false)) else (some false)) else (some false)) else (some false)) else (some false)))) = some r := H
  have A1 := Aside0.mk A10
  clear A10
  replace H := Option.bind_eq_some_iff.mp H
  obtain ⟨⟨t116, t117⟩, A20, H⟩ := H
  replace H : ((wide_Sbc.f 0 1 0).bind fun bt118 => (if t114 = 4096 then (if t115 = 16 then (if t116 = 32768 then (if t117 = 148 then (if bt118.1 = 65535 then (some (bt118.2 == 187)) else (some false)) else (some false)) else (some false)) else (some false)) else (some false))) = some r := H
  have A2 := Aside0.mk A20
  clear A20
  replace H := Option.bind_eq_some_iff.mp H
  obtain ⟨⟨t118, t119⟩, A30, H⟩ := H
  replace H : (if t114 = 4096 then (if t115 = 16 then (if t116 = 32768 then (if t117 = 148 then (if t118 = 65535 then (some (t119 == 187)) else (some false)) else (some false)) else (some false)) else (some false)) else (some false)) = some r := H
  have A3 := Aside0.mk A30
  clear A30
  by_cases c4 : t114 = 4096
  · rw [if_pos c4] at H
    have c4b0 : (t114 == 4096) = true := beq_iff_eq.mpr c4
    have c4b1 : (t114 != 4096) = false := bne_eq_false_iff_eq.mpr c4
    clear c4
    by_cases c5 : t115 = 16
    · rw [if_pos c5] at H
      have c5b0 : (t115 == 16) = true := beq_iff_eq.mpr c5
      have c5b1 : (t115 != 16) = false := bne_eq_false_iff_eq.mpr c5
      clear c5
      by_cases c6 : t116 = 32768
      · rw [if_pos c6] at H
        have c6b0 : (t116 == 32768) = true := beq_iff_eq.mpr c6
        have c6b1 : (t116 != 32768) = false := bne_eq_false_iff_eq.mpr c6
        clear c6
        by_cases c7 : t117 = 148
        · rw [if_pos c7] at H
          have c7b0 : (t117 == 148) = true := beq_iff_eq.mpr c7
          have c7b1 : (t117 != 148) = false := bne_eq_false_iff_eq.mpr c7
          clear c7
          by_cases c8 : t118 = 65535
          · rw [if_pos c8] at H
            have c8b0 : (t118 == 65535) = true := beq_iff_eq.mpr c8
            have c8b1 : (t118 != 65535) = false := bne_eq_false_iff_eq.mpr c8
            clear c8
            obtain rfl := Option.some.inj H
            go_enter Try.func19, Try.ntmps19
            go_wp2_with (first | ((with_reducible refine gate_callee (f := 24) rfl ?_); refine goesL_ (some 8) rfl rfl Try.func24 (by kernel_rfl) rfl #[.int .u16 4095, .int .u16 1, .int .u8 0] rfl (by (try simp only [List.map_toArray, List.map_cons, List.map_nil]); first | done | rfl | (simp only [List.length_drop, List.length_take]; rfl)) ?_; (with_reducible refine (wide_Add.calls 4095 1 0 t114 t115 _ A1.out).mono ?_); rintro e w' ⟨rfl, ⟨nd, rfl⟩⟩; refine ⟨_, rfl, ?_⟩) | ((with_reducible refine gate_callee (f := 20) rfl ?_); refine goesL_ (some 12) rfl rfl Try.func20 (by kernel_rfl) rfl #[.int .u16 32767, .int .u16 0, .int .u8 1] rfl (by (try simp only [List.map_toArray, List.map_cons, List.map_nil]); first | done | rfl | (simp only [List.length_drop, List.length_take]; rfl)) ?_; (with_reducible refine (wide_Adc.calls 32767 0 1 t116 t117 _ A2.out).mono ?_); rintro e w' ⟨rfl, ⟨nd, rfl⟩⟩; refine ⟨_, rfl, ?_⟩) | ((with_reducible refine gate_callee (f := 22) rfl ?_); refine goesL_ (some 16) rfl rfl Try.func22 (by kernel_rfl) rfl #[.int .u16 0, .int .u16 1, .int .u8 0] rfl (by (try simp only [List.map_toArray, List.map_cons, List.map_nil]); first | done | rfl | (simp only [List.length_drop, List.length_take]; rfl)) ?_; (with_reducible refine (wide_Sbc.calls 0 1 0 t118 t119 _ A3.out).mono ?_); rintro e w' ⟨rfl, ⟨nd, rfl⟩⟩; refine ⟨_, rfl, ?_⟩))
            go_ret
            exact ⟨by first | rfl | (simp; done) | (simp [*]; done), by repeat (first | exact Drawn0.refl _ | apply Drawn0.step)⟩
          · rw [if_neg c8] at H
            have c8b0 : (t118 == 65535) = false := beq_eq_false_iff_ne.mpr c8
            have c8b1 : (t118 != 65535) = true := bne_iff_ne.mpr c8
            obtain rfl := Option.some.inj H
            go_enter Try.func19, Try.ntmps19
            go_wp2_with (first | ((with_reducible refine gate_callee (f := 24) rfl ?_); refine goesL_ (some 8) rfl rfl Try.func24 (by kernel_rfl) rfl #[.int .u16 4095, .int .u16 1, .int .u8 0] rfl (by (try simp only [List.map_toArray, List.map_cons, List.map_nil]); first | done | rfl | (simp only [List.length_drop, List.length_take]; rfl)) ?_; (with_reducible refine (wide_Add.calls 4095 1 0 t114 t115 _ A1.out).mono ?_); rintro e w' ⟨rfl, ⟨nd, rfl⟩⟩; refine ⟨_, rfl, ?_⟩) | ((with_reducible refine gate_callee (f := 20) rfl ?_); refine goesL_ (some 12) rfl rfl Try.func20 (by kernel_rfl) rfl #[.int .u16 32767, .int .u16 0, .int .u8 1] rfl (by (try simp only [List.map_toArray, List.map_cons, List.map_nil]); first | done | rfl | (simp only [List.length_drop, List.length_take]; rfl)) ?_; (with_reducible refine (wide_Adc.calls 32767 0 1 t116 t117 _ A2.out).mono ?_); rintro e w' ⟨rfl, ⟨nd, rfl⟩⟩; refine ⟨_, rfl, ?_⟩) | ((with_reducible refine gate_callee (f := 22) rfl ?_); refine goesL_ (some 16) rfl rfl Try.func22 (by kernel_rfl) rfl #[.int .u16 0, .int .u16 1, .int .u8 0] rfl (by (try simp only [List.map_toArray, List.map_cons, List.map_nil]); first | done | rfl | (simp only [List.length_drop, List.length_take]; rfl)) ?_; (with_reducible refine (wide_Sbc.calls 0 1 0 t118 t119 _ A3.out).mono ?_); rintro e w' ⟨rfl, ⟨nd, rfl⟩⟩; refine ⟨_, rfl, ?_⟩))
            go_ret
            exact ⟨by first | rfl | (simp; done) | (simp [*]; done), by repeat (first | exact Drawn0.refl _ | apply Drawn0.step)⟩
        · rw [if_neg c7] at H
          have c7b0 : (t117 == 148) = false := beq_eq_false_iff_ne.mpr c7
          have c7b1 : (t117 != 148) = true := bne_iff_ne.mpr c7
          obtain rfl := Option.some.inj H
          go_enter Try.func19, Try.ntmps19
          go_wp2_with (first | ((with_reducible refine gate_callee (f := 24) rfl ?_); refine goesL_ (some 8) rfl rfl Try.func24 (by kernel_rfl) rfl #[.int .u16 4095, .int .u16 1, .int .u8 0] rfl (by (try simp only [List.map_toArray, List.map_cons, List.map_nil]); first | done | rfl | (simp only [List.length_drop, List.length_take]; rfl)) ?_; (with_reducible refine (wide_Add.calls 4095 1 0 t114 t115 _ A1.out).mono ?_); rintro e w' ⟨rfl, ⟨nd, rfl⟩⟩; refine ⟨_, rfl, ?_⟩) | ((with_reducible refine gate_callee (f := 20) rfl ?_); refine goesL_ (some 12) rfl rfl Try.func20 (by kernel_rfl) rfl #[.int .u16 32767, .int .u16 0, .int .u8 1] rfl (by (try simp only [List.map_toArray, List.map_cons, List.map_nil]); first | done | rfl | (simp only [List.length_drop, List.length_take]; rfl)) ?_; (with_reducible refine (wide_Adc.calls 32767 0 1 t116 t117 _ A2.out).mono ?_); rintro e w' ⟨rfl, ⟨nd, rfl⟩⟩; refine ⟨_, rfl, ?_⟩) | ((with_reducible refine gate_callee (f := 22) rfl ?_); refine goesL_ (some 16) rfl rfl Try.func22 (by kernel_rfl) rfl #[.int .u16 0, .int .u16 1, .int .u8 0] rfl (by (try simp only [List.map_toArray, List.map_cons, List.map_nil]); first | done | rfl | (simp only [List.length_drop, List.length_take]; rfl)) ?_; (with_reducible refine (wide_Sbc.calls 0 1 0 t118 t119 _ A3.out).mono ?_); rintro e w' ⟨rfl, ⟨nd, rfl⟩⟩; refine ⟨_, rfl, ?_⟩))
          go_ret
          exact ⟨by first | rfl | (simp; done) | (simp [*]; done), by repeat (first | exact Drawn0.refl _ | apply Drawn0.step)⟩
      · rw [if_neg c6] at H
        have c6b0 : (t116 == 32768) = false := beq_eq_false_iff_ne.mpr c6
        have c6b1 : (t116 != 32768) = true := bne_iff_ne.mpr c6
        obtain rfl := Option.some.inj H
        go_enter Try.func19, Try.ntmps19
        go_wp2_with (first | ((with_reducible refine gate_callee (f := 24) rfl ?_); refine goesL_ (some 8) rfl rfl Try.func24 (by kernel_rfl) rfl #[.int .u16 4095, .int .u16 1, .int .u8 0] rfl (by (try simp only [List.map_toArray, List.map_cons, List.map_nil]); first | done | rfl | (simp only [List.length_drop, List.length_take]; rfl)) ?_; (with_reducible refine (wide_Add.calls 4095 1 0 t114 t115 _ A1.out).mono ?_); rintro e w' ⟨rfl, ⟨nd, rfl⟩⟩; refine ⟨_, rfl, ?_⟩) | ((with_reducible refine gate_callee (f := 20) rfl ?_); refine goesL_ (some 12) rfl rfl Try.func20 (by kernel_rfl) rfl #[.int .u16 32767, .int .u16 0, .int .u8 1] rfl (by (try simp only [List.map_toArray, List.map_cons, List.map_nil]); first | done | rfl | (simp only [List.length_drop, List.length_take]; rfl)) ?_; (with_reducible refine (wide_Adc.calls 32767 0 1 t116 t117 _ A2.out).mono ?_); rintro e w' ⟨rfl, ⟨nd, rfl⟩⟩; refine ⟨_, rfl, ?_⟩) | ((with_reducible refine gate_callee (f := 22) rfl ?_); refine goesL_ (some 16) rfl rfl Try.func22 (by kernel_rfl) rfl #[.int .u16 0, .int .u16 1, .int .u8 0] rfl (by (try simp only [List.map_toArray, List.map_cons, List.map_nil]); first | done | rfl | (simp only [List.length_drop, List.length_take]; rfl)) ?_; (with_reducible refine (wide_Sbc.calls 0 1 0 t118 t119 _ A3.out).mono ?_); rintro e w' ⟨rfl, ⟨nd, rfl⟩⟩; refine ⟨_, rfl, ?_⟩))
        go_ret
        exact ⟨by first | rfl | (simp; done) | (simp [*]; done), by repeat (first | exact Drawn0.refl _ | apply Drawn0.step)⟩
    · rw [if_neg c5] at H
      have c5b0 : (t115 == 16) = false := beq_eq_false_iff_ne.mpr c5
      have c5b1 : (t115 != 16) = true := bne_iff_ne.mpr c5
      obtain rfl := Option.some.inj H
      go_enter Try.func19, Try.ntmps19
      go_wp2_with (first | ((with_reducible refine gate_callee (f := 24) rfl ?_); refine goesL_ (some 8) rfl rfl Try.func24 (by kernel_rfl) rfl #[.int .u16 4095, .int .u16 1, .int .u8 0] rfl (by (try simp only [List.map_toArray, List.map_cons, List.map_nil]); first | done | rfl | (simp only [List.length_drop, List.length_take]; rfl)) ?_; (with_reducible refine (wide_Add.calls 4095 1 0 t114 t115 _ A1.out).mono ?_); rintro e w' ⟨rfl, ⟨nd, rfl⟩⟩; refine ⟨_, rfl, ?_⟩) | ((with_reducible refine gate_callee (f := 20) rfl ?_); refine goesL_ (some 12) rfl rfl Try.func20 (by kernel_rfl) rfl #[.int .u16 32767, .int .u16 0, .int .u8 1] rfl (by (try simp only [List.map_toArray, List.map_cons, List.map_nil]); first | done | rfl | (simp only [List.length_drop, List.length_take]; rfl)) ?_; (with_reducible refine (wide_Adc.calls 32767 0 1 t116 t117 _ A2.out).mono ?_); rintro e w' ⟨rfl, ⟨nd, rfl⟩⟩; refine ⟨_, rfl, ?_⟩) | ((with_reducible refine gate_callee (f := 22) rfl ?_); refine goesL_ (some 16) rfl rfl Try.func22 (by kernel_rfl) rfl #[.int .u16 0, .int .u16 1, .int .u8 0] rfl (by (try simp only [List.map_toArray, List.map_cons, List.map_nil]); first | done | rfl | (simp only [List.length_drop, List.length_take]; rfl)) ?_; (with_reducible refine (wide_Sbc.calls 0 1 0 t118 t119 _ A3.out).mono ?_); rintro e w' ⟨rfl, ⟨nd, rfl⟩⟩; refine ⟨_, rfl, ?_⟩))
      go_ret
      exact ⟨by first | rfl | (simp; done) | (simp [*]; done), by repeat (first | exact Drawn0.refl _ | apply Drawn0.step)⟩
  · rw [if_neg c4] at H
    have c4b0 : (t114 == 4096) = false := beq_eq_false_iff_ne.mpr c4
    have c4b1 : (t114 != 4096) = true := bne_iff_ne.mpr c4
    obtain rfl := Option.some.inj H
    go_enter Try.func19, Try.ntmps19
    go_wp2_with (first | ((with_reducible refine gate_callee (f := 24) rfl ?_); refine goesL_ (some 8) rfl rfl Try.func24 (by kernel_rfl) rfl #[.int .u16 4095, .int .u16 1, .int .u8 0] rfl (by (try simp only [List.map_toArray, List.map_cons, List.map_nil]); first | done | rfl | (simp only [List.length_drop, List.length_take]; rfl)) ?_; (with_reducible refine (wide_Add.calls 4095 1 0 t114 t115 _ A1.out).mono ?_); rintro e w' ⟨rfl, ⟨nd, rfl⟩⟩; refine ⟨_, rfl, ?_⟩) | ((with_reducible refine gate_callee (f := 20) rfl ?_); refine goesL_ (some 12) rfl rfl Try.func20 (by kernel_rfl) rfl #[.int .u16 32767, .int .u16 0, .int .u8 1] rfl (by (try simp only [List.map_toArray, List.map_cons, List.map_nil]); first | done | rfl | (simp only [List.length_drop, List.length_take]; rfl)) ?_; (with_reducible refine (wide_Adc.calls 32767 0 1 t116 t117 _ A2.out).mono ?_); rintro e w' ⟨rfl, ⟨nd, rfl⟩⟩; refine ⟨_, rfl, ?_⟩) | ((with_reducible refine gate_callee (f := 22) rfl ?_); refine goesL_ (some 16) rfl rfl Try.func22 (by kernel_rfl) rfl #[.int .u16 0, .int .u16 1, .int .u8 0] rfl (by (try simp only [List.map_toArray, List.map_cons, List.map_nil]); first | done | rfl | (simp only [List.length_drop, List.length_take]; rfl)) ?_; (with_reducible refine (wide_Sbc.calls 0 1 0 t118 t119 _ A3.out).mono ?_); rintro e w' ⟨rfl, ⟨nd, rfl⟩⟩; refine ⟨_, rfl, ?_⟩))
    go_ret
    exact ⟨by first | rfl | (simp; done) | (simp [*]; done), by repeat (first | exact Drawn0.refl _ | apply Drawn0.step)⟩

/-! ### pendulumref05_Flag: function 85 -/
def pendulumref05_Flag.f (a0 : Int) (a1 : Bool) : Option (Int) := if a1 = true then (some a0) else (some 0)
set_option maxHeartbeats 8000000 in
set_option maxRecDepth 100000 in
theorem pendulumref05_Flag.calls (a0 : Int) (a1 : Bool) (r : Int) (w : World) (h : pendulumref05_Flag.f a0 a1 = some r) :
    Calls Try.prog 85 #[.int .u8 a0, .bool a1] w fun e w' => e = .returned (.int .u8 r) ∧ Drawn0 w w' := by
  have H : (if a1 = true then (some a0) else (some 0)) = some r := h
  clear h
  by_cases c3 : a1 = true
  · subst c3
    have H1 : (some a0) = some r := by rw [if_pos rfl] at H; exact H
    clear H
    have H := H1
    clear H1
    obtain rfl := Option.some.inj H
    go_enter Try.func85, Try.ntmps85
    go_wp2
    go_ret
    exact ⟨by first | rfl | (simp; done) | (simp [*]; done), by repeat (first | exact Drawn0.refl _ | apply Drawn0.step)⟩
  · replace c3 := Bool.eq_false_iff.mpr c3
    subst c3
    have H1 : (some 0) = some r := by rw [if_neg (show ¬ (false = true) by decide)] at H; exact H
    clear H
    have H := H1
    clear H1
    obtain rfl := Option.some.inj H
    go_enter Try.func85, Try.ntmps85
    go_wp2
    go_ret
    exact ⟨by first | rfl | (simp; done) | (simp [*]; done), by repeat (first | exact Drawn0.refl _ | apply Drawn0.step)⟩

/-! ### pendulumref07_yx: function 86 -/
def pendulumref07_yx.f (a0 : Int) : Option (Int) := some (Go.bits .and .u8 ((IntKind.u16.wrap (Int.tdiv a0 256)) % 256) 40)
set_option maxHeartbeats 8000000 in
set_option maxRecDepth 100000 in
theorem pendulumref07_yx.calls (a0 : Int) (r : Int) (w : World) (h : pendulumref07_yx.f a0 = some r) :
    Calls Try.prog 86 #[.int .u16 a0] w fun e w' => e = .returned (.int .u8 r) ∧ Drawn0 w w' := by
  have H : (some (Go.bits .and .u8 ((IntKind.u16.wrap (Int.tdiv a0 256)) % 256) 40)) = some r := h
  clear h
  obtain rfl := Option.some.inj H
  go_enter Try.func86, Try.ntmps86
  go_wp2
  go_ret
  exact ⟨by first | rfl | (simp; done) | (simp [*]; done), by repeat (first | exact Drawn0.refl _ | apply Drawn0.step)⟩

/-! ### pendulumref07_Add: function 25 -/
def pendulumref07_Add.f (a0 : Int) (a1 : Int) (a2 : Int) : Option (Int × Int) := (pendulumref07_yx.f (IntKind.u16.wrap (wrap64 ((wrap64 (a0)) + (wrap64 (a1)))))).bind fun t120 => ((pendulumref05_Flag.f 1 (decide ((wrap64 ((wrap64 (a0)) + (wrap64 (a1)))) > 65535))).bind fun t121 => ((pendulumref05_Flag.f 16 (decide ((wrap64 ((wrap64 (Int.tmod a0 4096)) + (wrap64 (Int.tmod a1 4096)))) > 4095))).bind fun t122 => (some (IntKind.u16.wrap (wrap64 ((wrap64 (a0)) + (wrap64 (a1)))), Go.bits .or .u8 (Go.bits .or .u8 (Go.bits .or .u8 (Go.bits .and .u8 a2 196) t120) t121) t122))))
set_option maxHeartbeats 8000000 in
set_option maxRecDepth 100000 in
theorem pendulumref07_Add.calls (a0 : Int) (a1 : Int) (a2 : Int) (r1 : Int) (r2 : Int) (w : World) (h : pendulumref07_Add.f a0 a1 a2 = some (r1, r2)) :
    Calls Try.prog 25 #[.int .u16 a0, .int .u16 a1, .int .u8 a2] w fun e w' => e = .returned (.tuple #[.int .u16 r1, .int .u8 r2]) ∧ Drawn0 w w' := by
  have H : ((pendulumref07_yx.f (IntKind.u16.wrap (wrap64 ((wrap64 (a0)) + (wrap64 (a1)))))).bind fun t120 => ((pendulumref05_Flag.f 1 (decide ((wrap64 ((wrap64 (a0)) + (wrap64 (a1)))) > 65535))).bind fun t121 => ((pendulumref05_Flag.f 16 (decide ((wrap64 ((wrap64 (Int.tmod a0 4096)) + (wrap64 (Int.tmod a1 4096)))) > 4095))).bind fun t122 => (some (IntKind.u16.wrap (wrap64 ((wrap64 (a0)) + (wrap64 (a1)))), Go.bits .or .u8 (Go.bits .or .u8 (Go.bits .or .u8 (Go.bits .and .u8 a2 196) t120) t121) t122))))) = some (r1, r2) := h
  clear h
  replace H := Option.bind_eq_some_iff.mp H
  obtain ⟨t120, A40, H⟩ := H
  replace H : ((pendulumref05_Flag.f 1 (decide ((wrap64 ((wrap64 (a0)) + (wrap64 (a1)))) > 65535))).bind fun t121 => ((pendulumref05_Flag.f 16 (decide ((wrap64 ((wrap64 (Int.tmod a0 4096)) + (wrap64 (Int.tmod a1 4096)))) > 4095))).bind fun t122 => (some (IntKind.u16.wrap (wrap64 ((wrap64 (a0)) + (wrap64 (a1)))), Go.bits .or .u8 (Go.bits .or .u8 (Go.bits .or .u8 (Go.bits .and .u8 a2 196) t120) t121) t122)))) = some (r1, r2) := H
  have A4 := Aside0.mk A40
  clear A40
  replace H := Option.bind_eq_some_iff.mp H
  obtain ⟨t121, A50, H⟩ := H
  replace H : ((pendulumref05_Flag.f 16 (decide ((wrap64 ((wrap64 (Int.tmod a0 4096)) + (wrap64 (Int.tmod a1 4096)))) > 4095))).bind fun t122 => (some (IntKind.u16.wrap (wrap64 ((wrap64 (a0)) + (wrap64 (a1)))), Go.bits .or .u8 (Go.bits .or .u8 (Go.bits .or .u8 (Go.bits .and .u8 a2 196) t120) t121) t122))) = some (r1, r2) := H
  have A5 := Aside0.mk A50
  clear A50
  replace H := Option.bind_eq_some_iff.mp H
  obtain ⟨t122, A60, H⟩ := H
  replace H : (some (IntKind.u16.wrap (wrap64 ((wrap64 (a0)) + (wrap64 (a1)))), Go.bits .or .u8 (Go.bits .or .u8 (Go.bits .or .u8 (Go.bits .and .u8 a2 196) t120) t121) t122)) = some (r1, r2) := H
  have A6 := Aside0.mk A60
  clear A60
  simp only [Option.some.injEq, Prod.mk.injEq] at H
  obtain ⟨rfl, rfl⟩ := H
  go_enter Try.func25, Try.ntmps25
  go_wp2_with (first | ((with_reducible refine gate_callee (f := 86) rfl ?_); refine goesL_ (some 21) rfl rfl Try.func86 (by kernel_rfl) rfl #[.int .u16 (IntKind.u16.wrap (wrap64 ((wrap64 (a0)) + (wrap64 (a1)))))] rfl (by (try simp only [List.map_toArray, List.map_cons, List.map_nil]); first | done | rfl | (simp only [List.length_drop, List.length_take]; rfl)) ?_; (with_reducible refine (pendulumref07_yx.calls (IntKind.u16.wrap (wrap64 ((wrap64 (a0)) + (wrap64 (a1))))) t120 _ A4.out).mono ?_); rintro e w' ⟨rfl, ⟨nd, rfl⟩⟩; refine ⟨_, rfl, ?_⟩) | ((with_reducible refine gate_callee (f := 85) rfl ?_); refine goesL_ (some 25) rfl rfl Try.func85 (by kernel_rfl) rfl #[.int .u8 1, .bool (decide ((wrap64 ((wrap64 (a0)) + (wrap64 (a1)))) > 65535))] rfl (by (try simp only [List.map_toArray, List.map_cons, List.map_nil]); first | done | rfl | (simp only [List.length_drop, List.length_take]; rfl)) ?_; (with_reducible refine (pendulumref05_Flag.calls 1 (decide ((wrap64 ((wrap64 (a0)) + (wrap64 (a1)))) > 65535)) t121 _ A5.out).mono ?_); rintro e w' ⟨rfl, ⟨nd, rfl⟩⟩; refine ⟨_, rfl, ?_⟩) | ((with_reducible refine gate_callee (f := 85) rfl ?_); refine goesL_ (some 35) rfl rfl Try.func85 (by kernel_rfl) rfl #[.int .u8 16, .bool (decide ((wrap64 ((wrap64 (Int.tmod a0 4096)) + (wrap64 (Int.tmod a1 4096)))) > 4095))] rfl (by (try simp only [List.map_toArray, List.map_cons, List.map_nil]); first | done | rfl | (simp only [List.length_drop, List.length_take]; rfl)) ?_; (with_reducible refine (pendulumref05_Flag.calls 16 (decide ((wrap64 ((wrap64 (Int.tmod a0 4096)) + (wrap64 (Int.tmod a1 4096)))) > 4095)) t122 _ A6.out).mono ?_); rintro e w' ⟨rfl, ⟨nd, rfl⟩⟩; refine ⟨_, rfl, ?_⟩))
  go_ret2
  exact ⟨by first | rfl | (simp; done) | (simp [*]; done), by repeat (first | exact Drawn0.refl _ | apply Drawn0.step)⟩

/-! ### pendulumref07_signed: function 87 -/
def pendulumref07_signed.f (a0 : Int) : Option (Int) := if a0 ≥ 32768 then (some (wrap64 ((wrap64 (a0)) - 65536))) else (some (wrap64 (a0)))
set_option maxHeartbeats 8000000 in
set_option maxRecDepth 100000 in
theorem pendulumref07_signed.calls (a0 : Int) (r : Int) (w : World) (h : pendulumref07_signed.f a0 = some r) :
    Calls Try.prog 87 #[.int .u16 a0] w fun e w' => e = .returned (.int .i64 r) ∧ Drawn0 w w' := by
  have H : (if a0 ≥ 32768 then (some (wrap64 ((wrap64 (a0)) - 65536))) else (some (wrap64 (a0)))) = some r := h
  clear h
  by_cases c2 : a0 ≥ 32768
  · rw [if_pos c2] at H
    have c2b0 : decide (32768 ≤ a0) = true := decide_eq_true c2
    clear c2
    obtain rfl := Option.some.inj H
    go_enter Try.func87, Try.ntmps87
    go_wp2
    go_ret
    exact ⟨by first | rfl | (simp; done) | (simp [*]; done), by repeat (first | exact Drawn0.refl _ | apply Drawn0.step)⟩
  · rw [if_neg c2] at H
    have c2b0 : decide (32768 ≤ a0) = false := decide_eq_false c2
    clear c2
    obtain rfl := Option.some.inj H
    go_enter Try.func87, Try.ntmps87
    go_wp2
    go_ret
    exact ⟨by first | rfl | (simp; done) | (simp [*]; done), by repeat (first | exact Drawn0.refl _ | apply Drawn0.step)⟩

/-! ### pendulumref07_sz: function 88 -/
def pendulumref07_sz.f (a0 : Int) : Option (Int) := (pendulumref05_Flag.f 64 (a0 == 0)).bind fun t123 => ((pendulumref07_yx.f a0).bind fun t124 => (some (Go.bits .or .u8 (Go.bits .or .u8 (Go.bits .and .u8 ((IntKind.u16.wrap (Int.tdiv a0 256)) % 256) 128) t123) t124)))
set_option maxHeartbeats 8000000 in
set_option maxRecDepth 100000 in
theorem pendulumref07_sz.calls (a0 : Int) (r : Int) (w : World) (h : pendulumref07_sz.f a0 = some r) :
    Calls Try.prog 88 #[.int .u16 a0] w fun e w' => e = .returned (.int .u8 r) ∧ Drawn0 w w' := by
  have H : ((pendulumref05_Flag.f 64 (a0 == 0)).bind fun t123 => ((pendulumref07_yx.f a0).bind fun t124 => (some (Go.bits .or .u8 (Go.bits .or .u8 (Go.bits .and .u8 ((IntKind.u16.wrap (Int.tdiv a0 256)) % 256) 128) t123) t124)))) = some r := h
  clear h
  replace H := Option.bind_eq_some_iff.mp H
  obtain ⟨t123, A20, H⟩ := H
  replace H : ((pendulumref07_yx.f a0).bind fun t124 => (some (Go.bits .or .u8 (Go.bits .or .u8 (Go.bits .and .u8 ((IntKind.u16.wrap (Int.tdiv a0 256)) % 256) 128) t123) t124))) = some r := H
  have A2 := Aside0.mk A20
  clear A20
  replace H := Option.bind_eq_some_iff.mp H
  obtain ⟨t124, A30, H⟩ := H
  replace H : (some (Go.bits .or .u8 (Go.bits .or .u8 (Go.bits .and .u8 ((IntKind.u16.wrap (Int.tdiv a0 256)) % 256) 128) t123) t124)) = some r := H
  have A3 := Aside0.mk A30
  clear A30
  obtain rfl := Option.some.inj H
  go_enter Try.func88, Try.ntmps88
  go_wp2_with (first | ((with_reducible refine gate_callee (f := 85) rfl ?_); refine goesL_ (some 9) rfl rfl Try.func85 (by kernel_rfl) rfl #[.int .u8 64, .bool (a0 == 0)] rfl (by (try simp only [List.map_toArray, List.map_cons, List.map_nil]); first | done | rfl | (simp only [List.length_drop, List.length_take]; rfl)) ?_; (with_reducible refine (pendulumref05_Flag.calls 64 (a0 == 0) t123 _ A2.out).mono ?_); rintro e w' ⟨rfl, ⟨nd, rfl⟩⟩; refine ⟨_, rfl, ?_⟩) | ((with_reducible refine gate_callee (f := 86) rfl ?_); refine goesL_ (some 12) rfl rfl Try.func86 (by kernel_rfl) rfl #[.int .u16 a0] rfl (by (try simp only [List.map_toArray, List.map_cons, List.map_nil]); first | done | rfl | (simp only [List.length_drop, List.length_take]; rfl)) ?_; (with_reducible refine (pendulumref07_yx.calls a0 t124 _ A3.out).mono ?_); rintro e w' ⟨rfl, ⟨nd, rfl⟩⟩; refine ⟨_, rfl, ?_⟩))
  go_ret
  exact ⟨by first | rfl | (simp; done) | (simp [*]; done), by repeat (first | exact Drawn0.refl _ | apply Drawn0.step)⟩

/-! ### pendulumref07_Adc: function 26 -/
def pendulumref07_Adc.f (a0 : Int) (a1 : Int) (a2 : Int) : Option (Int × Int) := (pendulumref07_signed.f a0).bind fun t125 => ((pendulumref07_signed.f a1).bind fun t126 => ((pendulumref07_sz.f (IntKind.u16.wrap (wrap64 ((wrap64 ((wrap64 (a0)) + (wrap64 (a1)))) + (wrap64 (Int.tmod a2 2)))))).bind fun t127 => ((pendulumref05_Flag.f 1 (decide ((wrap64 ((wrap64 ((wrap64 (a0)) + (wrap64 (a1)))) + (wrap64 (Int.tmod a2 2)))) > 65535))).bind fun t128 => ((pendulumref05_Flag.f 16 (decide ((wrap64 ((wrap64 ((wrap64 (Int.tmod a0 4096)) + (wrap64 (Int.tmod a1 4096)))) + (wrap64 (Int.tmod a2 2)))) > 4095))).bind fun t129 => (if (wrap64 ((wrap64 (t125 + t126)) + (wrap64 (Int.tmod a2 2)))) < (-32768) then ((pendulumref05_Flag.f 4 true).bind fun t130 => (some (IntKind.u16.wrap (wrap64 ((wrap64 ((wrap64 (a0)) + (wrap64 (a1)))) + (wrap64 (Int.tmod a2 2)))), Go.bits .or .u8 (Go.bits .or .u8 (Go.bits .or .u8 t127 t128) t129) t130))) else ((pendulumref05_Flag.f 4 (decide ((wrap64 ((wrap64 (t125 + t126)) + (wrap64 (Int.tmod a2 2)))) > 32767))).bind fun t131 => (some (IntKind.u16.wrap (wrap64 ((wrap64 ((wrap64 (a0)) + (wrap64 (a1)))) + (wrap64 (Int.tmod a2 2)))), Go.bits .or .u8 (Go.bits .or .u8 (Go.bits .or .u8 t127 t128) t129) t131))))))))
set_option maxHeartbeats 8000000 in
set_option maxRecDepth 100000 in
theorem pendulumref07_Adc.calls (a0 : Int) (a1 : Int) (a2 : Int) (r1 : Int) (r2 : Int) (w : World) (h : pendulumref07_Adc.f a0 a1 a2 = some (r1, r2)) :
    Calls Try.prog 26 #[.int .u16 a0, .int .u16 a1, .int .u8 a2] w fun e w' => e = .returned (.tuple #[.int .u16 r1, .int .u8 r2]) ∧ Drawn0 w w' := by
  have H : ((pendulumref07_signed.f a0).bind fun t125 => ((pendulumref07_signed.f a1).bind fun t126 => ((pendulumref07_sz.f (IntKind.u16.wrap (wrap64 ((wrap64 ((wrap64 (a0)) + (wrap64 (a1)))) + (wrap64 (Int.tmod a2 2)))))).bind fun t127 => ((pendulumref05_Flag.f 1 (decide ((wrap64 ((wrap64 ((wrap64 (a0)) + (wrap64 (a1)))) + (wrap64 (Int.tmod a2 2)))) > 65535))).bind fun t128 => ((pendulumref05_Flag.f 16 (decide ((wrap64 ((wrap64 ((wrap64 (Int.tmod a0 4096)) + (wrap64 (Int.tmod a1 4096)))) + (wrap64 (Int.tmod a2 2)))) > 4095))).bind fun t129 => (if (wrap64 ((wrap64 (t125 + t126)) + (wrap64 (Int.tmod a2 2)))) < (-32768) then ((pendulumref05_Flag.f 4 true).bind fun t130 => (some (IntKind.u16.wrap (wrap64 ((wrap64 ((wrap64 (a0)) + (wrap64 (a1)))) + (wrap64 (Int.tmod a2 2)))), Go.bits .or .u8 (Go.bits .or .u8 (Go.bits .or .u8 t127 t128) t129) t130))) else ((pendulumref05_Flag.f 4 (decide ((wrap64 ((wrap64 (t125 + t126)) + (wrap64 (Int.tmod a2 2)))) > 32767))).bind fun t131 => (some (IntKind.u16.wrap (wrap64 ((wrap64 ((wrap64 (a0)) + (wrap64 (a1)))) + (wrap64 (Int.tmod a2 2)))), Go.bits .or .u8 (Go.bits .or .u8 (Go.bits .or .u8 t127 t128) t129) t131))))))))) = some (r1, r2) := h
  clear h
  replace H := Option.bind_eq_some_iff.mp H
  obtain ⟨t125, A40, H⟩ := H
  replace H : ((pendulumref07_signed.f a1).bind fun t126 => ((pendulumref07_sz.f (IntKind.u16.wrap (wrap64 ((wrap64 ((wrap64 (a0)) + (wrap64 (a1)))) + (wrap64 (Int.tmod a2 2)))))).bind fun t127 => ((pendulumref05_Flag.f 1 (decide ((wrap64 ((wrap64 ((wrap64 (a0)) + (wrap64 (a1)))) + (wrap64 (Int.tmod a2 2)))) > 65535))).bind fun t128 => ((pendulumref05_Flag.f 16 (decide ((wrap64 ((wrap64 ((wrap64 (Int.tmod a0 4096)) + (wrap64 (Int.tmod a1 4096)))) + (wrap64 (Int.tmod a2 2)))) > 4095))).bind fun t129 => (if (wrap64 ((wrap64 (t125 + t126)) + (wrap64 (Int.tmod a2 2)))) < (-32768) then ((pendulumref05_Flag.f 4 true).bind fun t130 => (some (IntKind.u16.wrap (wrap64 ((wrap64 ((wrap64 (a0)) + (wrap64 (a1)))) + (wrap64 (Int.tmod a2 2)))), Go.bits .or .u8 (Go.bits .or .u8 (Go.bits .or .u8 t127 t128) t129) t130))) else ((pendulumref05_Flag.f 4 (decide ((wrap64 ((wrap64 (t125 + t126)) + (wrap64 (Int.tmod a2 2)))) > 32767))).bind fun t131 => (some (IntKind.u16.wrap (wrap64 ((wrap64 ((wrap64 (a0)) + (wrap64 (a1)))) + (wrap64 (Int.tmod a2 2)))), Go.bits .or .u8 (Go.bits .or .u8 (Go.bits .or .u8 t127 t128) t129) t131)))))))) = some (r1, r2) := H
  have A4 := Aside0.mk A40
  clear A40
  replace H := Option.bind_eq_some_iff.mp H
  obtain ⟨t126, A50, H⟩ := H
  replace H : ((pendulumref07_sz.f (IntKind.u16.wrap (wrap64 ((wrap64 ((wrap64 (a0)) + (wrap64 (a1)))) + (wrap64 (Int.tmod a2 2)))))).bind fun t127 => ((pendulumref05_Flag.f 1 (decide ((wrap64 ((wrap64 ((wrap64 (a0)) + (wrap64 (a1)))) + (wrap64 (Int.tmod a2 2)))) > 65535))).bind fun t128 => ((pendulumref05_Flag.f 16 (decide ((wrap64 ((wrap64 ((wrap64 (Int.tmod a0 4096)) + (wrap64 (Int.tmod a1 4096)))) + (wrap64 (Int.tmod a2 2)))) > 4095))).bind fun t129 => (if (wrap64 ((wrap64 (t125 + t126)) + (wrap64 (Int.tmod a2 2)))) < (-32768) then ((pendulumref05_Flag.f 4 true).bind fun t130 => (some (IntKind.u16.wrap (wrap64 ((wrap64 ((wrap64 (a0)) + (wrap64 (a1)))) + (wrap64 (Int.tmod a2 2)))), Go.bits .or .u8 (Go.bits .or .u8 (Go.bits .or .u8 t127 t128) t129) t130))) else ((pendulumref05_Flag.f 4 (decide ((wrap64 ((wrap64 (t125 + t126)) + (wrap64 (Int.tmod a2 2)))) > 32767))).bind fun t131 => (some (IntKind.u16.wrap (wrap64 ((wrap64 ((wrap64 (a0)) + (wrap64 (a1)))) + (wrap64 (Int.tmod a2 2)))), Go.bits .or .u8 (Go.bits .or .u8 (Go.bits .or .u8 t127 t128) t129) t131))))))) = some (r1, r2) := H
  have A5 := Aside0.mk A50
  clear A50
  replace H := Option.bind_eq_some_iff.mp H
  obtain ⟨t127, A60, H⟩ := H
  replace H : ((pendulumref05_Flag.f 1 (decide ((wrap64 ((wrap64 ((wrap64 (a0)) + (wrap64 (a1)))) + (wrap64 (Int.tmod a2 2)))) > 65535))).bind fun t128 => ((pendulumref05_Flag.f 16 (decide ((wrap64 ((wrap64 ((wrap64 (Int.tmod a0 4096)) + (wrap64 (Int.tmod a1 4096)))) + (wrap64 (Int.tmod a2 2)))) > 4095))).bind fun t129 => (if (wrap64 ((wrap64 (t125 + t126)) + (wrap64 (Int.tmod a2 2)))) < (-32768) then ((pendulumref05_Flag.f 4 true).bind fun t130 => (some (IntKind.u16.wrap (wrap64 ((wrap64 ((wrap64 (a0)) + (wrap64 (a1)))) + (wrap64 (Int.tmod a2 2)))), Go.bits .or .u8 (Go.bits .or .u8 (Go.bits .or .u8 t127 t128) t129) t130))) else ((pendulumref05_Flag.f 4 (decide ((wrap64 ((wrap64 (t125 + t126)) + (wrap64 (Int.tmod a2 2)))) > 32767))).bind fun t131 => (some (IntKind.u16.wrap (wrap64 ((wrap64 ((wrap64 (a0)) + (wrap64 (a1)))) + (wrap64 (Int.tmod a2 2)))), Go.bits .or .u8 (Go.bits .or .u8 (Go.bits .or .u8 t127 t128) t129) t131)))))) = some (r1, r2) := H
  have A6 := Aside0.mk A60
  clear A60
  replace H := Option.bind_eq_some_iff.mp H
  obtain ⟨t128, A70, H⟩ := H
  replace H : ((pendulumref05_Flag.f 16 (decide ((wrap64 ((wrap64 ((wrap64 (Int.tmod a0 4096)) + (wrap64 (Int.tmod a1 4096)))) + (wrap64 (Int.tmod a2 2)))) > 4095))).bind fun t129 => (if (wrap64 ((wrap64 (t125 + t126)) + (wrap64 (Int.tmod a2 2)))) < (-32768) then ((pendulumref05_Flag.f 4 true).bind fun t130 => (some (IntKind.u16.wrap (wrap64 ((wrap64 ((wrap64 (a0)) + (wrap64 (a1)))) + (wrap64 (Int.tmod a2 2)))), Go.bits .or .u8 (Go.bits .or .u8 (Go.bits .or .u8 t127 t128) t129) t130))) else ((pendulumref05_Flag.f 4 (decide ((wrap64 ((wrap64 (t125 + t126)) + (wrap64 (Int.tmod a2 2)))) > 32767))).bind fun t131 => (some (IntKind.u16.wrap (wrap64 ((wrap64 ((wrap64 (a0)) + (wrap64 (a1)))) + (wrap64 (Int.tmod a2 2)))), Go.bits .or .u8 (Go.bits .or .u8 (Go.bits .or .u8 t127 t128) t129) t131))))) = some (r1, r2) := H
  have A7 := Aside0.mk A70
  clear A70
  replace H := Option.bind_eq_some_iff.mp H
  obtain ⟨t129, A80, H⟩ := H
  replace H : (if (wrap64 ((wrap64 (t125 + t126)) + (wrap64 (Int.tmod a2 2)))) < (-32768) then ((pendulumref05_Flag.f 4 true).bind fun t130 => (some (IntKind.u16.wrap (wrap64 ((wrap64 ((wrap64 (a0)) + (wrap64 (a1)))) + (wrap64 (Int.tmod a2 2)))), Go.bits .or .u8 (Go.bits .or .u8 (Go.bits .or .u8 t127 t128) t129) t130))) else ((pendulumref05_Flag.f 4 (decide ((wrap64 ((wrap64 (t125 + t126)) + (wrap64 (Int.tmod a2 2)))) > 32767))).bind fun t131 => (some (IntKind.u16.wrap (wrap64 ((wrap64 ((wrap64 (a0)) + (wrap64 (a1)))) + (wrap64 (Int.tmod a2 2)))), Go.bits .or .u8 (Go.bits .or .u8 (Go.bits .or .u8 t127 t128) t129) t131)))) = some (r1, r2) := H
  have A8 := Aside0.mk A80
  clear A80
  by_cases c9 : (wrap64 ((wrap64 (t125 + t126)) + (wrap64 (Int.tmod a2 2)))) < (-32768)
  · rw [if_pos c9] at H
    have c9b0 : decide ((wrap64 ((wrap64 (t125 + t126)) + (wrap64 (Int.tmod a2 2)))) < (-32768)) = true := decide_eq_true c9
    clear c9
    replace H := Option.bind_eq_some_iff.mp H
    obtain ⟨t130, A100, H⟩ := H
    replace H : (some (IntKind.u16.wrap (wrap64 ((wrap64 ((wrap64 (a0)) + (wrap64 (a1)))) + (wrap64 (Int.tmod a2 2)))), Go.bits .or .u8 (Go.bits .or .u8 (Go.bits .or .u8 t127 t128) t129) t130)) = some (r1, r2) := H
    have A10 := Aside0.mk A100
    clear A100
    simp only [Option.some.injEq, Prod.mk.injEq] at H
    obtain ⟨rfl, rfl⟩ := H
    go_enter Try.func26, Try.ntmps26
    go_wp2_with (first | ((with_reducible refine gate_callee (f := 87) rfl ?_); refine goesL_ (some 23) rfl rfl Try.func87 (by kernel_rfl) rfl #[.int .u16 a0] rfl (by (try simp only [List.map_toArray, List.map_cons, List.map_nil]); first | done | rfl | (simp only [List.length_drop, List.length_take]; rfl)) ?_; (with_reducible refine (pendulumref07_signed.calls a0 t125 _ A4.out).mono ?_); rintro e w' ⟨rfl, ⟨nd, rfl⟩⟩; refine ⟨_, rfl, ?_⟩) | ((with_reducible refine gate_callee (f := 87) rfl ?_); refine goesL_ (some 25) rfl rfl Try.func87 (by kernel_rfl) rfl #[.int .u16 a1] rfl (by (try simp only [List.map_toArray, List.map_cons, List.map_nil]); first | done | rfl | (simp only [List.length_drop, List.length_take]; rfl)) ?_; (with_reducible refine (pendulumref07_signed.calls a1 t126 _ A5.out).mono ?_); rintro e w' ⟨rfl, ⟨nd, rfl⟩⟩; refine ⟨_, rfl, ?_⟩) | ((with_reducible refine gate_callee (f := 88) rfl ?_); refine goesL_ (some 33) rfl rfl Try.func88 (by kernel_rfl) rfl #[.int .u16 (IntKind.u16.wrap (wrap64 ((wrap64 ((wrap64 (a0)) + (wrap64 (a1)))) + (wrap64 (Int.tmod a2 2)))))] rfl (by (try simp only [List.map_toArray, List.map_cons, List.map_nil]); first | done | rfl | (simp only [List.length_drop, List.length_take]; rfl)) ?_; (with_reducible refine (pendulumref07_sz.calls (IntKind.u16.wrap (wrap64 ((wrap64 ((wrap64 (a0)) + (wrap64 (a1)))) + (wrap64 (Int.tmod a2 2))))) t127 _ A6.out).mono ?_); rintro e w' ⟨rfl, ⟨nd, rfl⟩⟩; refine ⟨_, rfl, ?_⟩) | ((with_reducible refine gate_callee (f := 85) rfl ?_); refine goesL_ (some 36) rfl rfl Try.func85 (by kernel_rfl) rfl #[.int .u8 1, .bool (decide ((wrap64 ((wrap64 ((wrap64 (a0)) + (wrap64 (a1)))) + (wrap64 (Int.tmod a2 2)))) > 65535))] rfl (by (try simp only [List.map_toArray, List.map_cons, List.map_nil]); first | done | rfl | (simp only [List.length_drop, List.length_take]; rfl)) ?_; (with_reducible refine (pendulumref05_Flag.calls 1 (decide ((wrap64 ((wrap64 ((wrap64 (a0)) + (wrap64 (a1)))) + (wrap64 (Int.tmod a2 2)))) > 65535)) t128 _ A7.out).mono ?_); rintro e w' ⟨rfl, ⟨nd, rfl⟩⟩; refine ⟨_, rfl, ?_⟩) | ((with_reducible refine gate_callee (f := 85) rfl ?_); refine goesL_ (some 48) rfl rfl Try.func85 (by kernel_rfl) rfl #[.int .u8 16, .bool (decide ((wrap64 ((wrap64 ((wrap64 (Int.tmod a0 4096)) + (wrap64 (Int.tmod a1 4096)))) + (wrap64 (Int.tmod a2 2)))) > 4095))] rfl (by (try simp only [List.map_toArray, List.map_cons, List.map_nil]); first | done | rfl | (simp only [List.length_drop, List.length_take]; rfl)) ?_; (with_reducible refine (pendulumref05_Flag.calls 16 (decide ((wrap64 ((wrap64 ((wrap64 (Int.tmod a0 4096)) + (wrap64 (Int.tmod a1 4096)))) + (wrap64 (Int.tmod a2 2)))) > 4095)) t129 _ A8.out).mono ?_); rintro e w' ⟨rfl, ⟨nd, rfl⟩⟩; refine ⟨_, rfl, ?_⟩) | ((with_reducible refine gate_callee (f := 85) rfl ?_); refine goesL_ (some 56) rfl rfl Try.func85 (by kernel_rfl) rfl #[.int .u8 4, .bool true] rfl (by (try simp only [List.map_toArray, List.map_cons, List.map_nil]); first | done | rfl | (simp only [List.length_drop, List.length_take]; rfl)) ?_; (with_reducible refine (pendulumref05_Flag.calls 4 true t130 _ A10.out).mono ?_); rintro e w' ⟨rfl, ⟨nd, rfl⟩⟩; refine ⟨_, rfl, ?_⟩))
    go_ret2
    exact ⟨by first | rfl | (simp; done) | (simp [*]; done), by repeat (first | exact Drawn0.refl _ | apply Drawn0.step)⟩
  · rw [if_neg c9] at H
    have c9b0 : decide ((wrap64 ((wrap64 (t125 + t126)) + (wrap64 (Int.tmod a2 2)))) < (-32768)) = false := decide_eq_false c9
    clear c9
    replace H := Option.bind_eq_some_iff.mp H
    obtain ⟨t131, A110, H⟩ := H
    replace H : (some (IntKind.u16.wrap (wrap64 ((wrap64 ((wrap64 (a0)) + (wrap64 (a1)))) + (wrap64 (Int.tmod a2 2)))), Go.bits .or .u8 (Go.bits .or .u8 (Go.bits .or .u8 t127 t128) t129) t131)) = some (r1, r2) := H
    have A11 := Aside0.mk A110
    clear A110
    simp only [Option.some.injEq, Prod.mk.injEq] at H
    obtain ⟨rfl, rfl⟩ := H
    go_enter Try.func26, Try.ntmps26
    go_wp2_with (first | ((with_reducible refine gate_callee (f := 87) rfl ?_); refine goesL_ (some 23) rfl rfl Try.func87 (by kernel_rfl) rfl #[.int .u16 a0] rfl (by (try simp only [List.map_toArray, List.map_cons, List.map_nil]); first | done | rfl | (simp only [List.length_drop, List.length_take]; rfl)) ?_; (with_reducible refine (pendulumref07_signed.calls a0 t125 _ A4.out).mono ?_); rintro e w' ⟨rfl, ⟨nd, rfl⟩⟩; refine ⟨_, rfl, ?_⟩) | ((with_reducible refine gate_callee (f := 87) rfl ?_); refine goesL_ (some 25) rfl rfl Try.func87 (by kernel_rfl) rfl #[.int .u16 a1] rfl (by (try simp only [List.map_toArray, List.map_cons, List.map_nil]); first | done | rfl | (simp only [List.length_drop, List.length_take]; rfl)) ?_; (with_reducible refine (pendulumref07_signed.calls a1 t126 _ A5.out).mono ?_); rintro e w' ⟨rfl, ⟨nd, rfl⟩⟩; refine ⟨_, rfl, ?_⟩) | ((with_reducible refine gate_callee (f := 88) rfl ?_); refine goesL_ (some 33) rfl rfl Try.func88 (by kernel_rfl) rfl #[.int .u16 (IntKind.u16.wrap (wrap64 ((wrap64 ((wrap64 (a0)) + (wrap64 (a1)))) + (wrap64 (Int.tmod a2 2)))))] rfl (by (try simp only [List.map_toArray, List.map_cons, List.map_nil]); first | done | rfl | (simp only [List.length_drop, List.length_take]; rfl)) ?_; (with_reducible refine (pendulumref07_sz.calls (IntKind.u16.wrap (wrap64 ((wrap64 ((wrap64 (a0)) + (wrap64 (a1)))) + (wrap64 (Int.tmod a2 2))))) t127 _ A6.out).mono ?_); rintro e w' ⟨rfl, ⟨nd, rfl⟩⟩; refine ⟨_, rfl, ?_⟩) | ((with_reducible refine gate_callee (f := 85) rfl ?_); refine goesL_ (some 36) rfl rfl Try.func85 (by kernel_rfl) rfl #[.int .u8 1, .bool (decide ((wrap64 ((wrap64 ((wrap64 (a0)) + (wrap64 (a1)))) + (wrap64 (Int.tmod a2 2)))) > 65535))] rfl (by (try simp only [List.map_toArray, List.map_cons, List.map_nil]); first | done | rfl | (simp only [List.length_drop, List.length_take]; rfl)) ?_; (with_reducible refine (pendulumref05_Flag.calls 1 (decide ((wrap64 ((wrap64 ((wrap64 (a0)) + (wrap64 (a1)))) + (wrap64 (Int.tmod a2 2)))) > 65535)) t128 _ A7.out).mono ?_); rintro e w' ⟨rfl, ⟨nd, rfl⟩⟩; refine ⟨_, rfl, ?_⟩) | ((with_reducible refine gate_callee (f := 85) rfl ?_); refine goesL_ (some 48) rfl rfl Try.func85 (by kernel_rfl) rfl #[.int .u8 16, .bool (decide ((wrap64 ((wrap64 ((wrap64 (Int.tmod a0 4096)) + (wrap64 (Int.tmod a1 4096)))) + (wrap64 (Int.tmod a2 2)))) > 4095))] rfl (by (try simp only [List.map_toArray, List.map_cons, List.map_nil]); first | done | rfl | (simp only [List.length_drop, List.length_take]; rfl)) ?_; (with_reducible refine (pendulumref05_Flag.calls 16 (decide ((wrap64 ((wrap64 ((wrap64 (Int.tmod a0 4096)) + (wrap64 (Int.tmod a1 4096)))) + (wrap64 (Int.tmod a2 2)))) > 4095)) t129 _ A8.out).mono ?_); rintro e w' ⟨rfl, ⟨nd, rfl⟩⟩; refine ⟨_, rfl, ?_⟩) | ((with_reducible refine gate_callee (f := 85) rfl ?_); refine goesL_ (some 56) rfl rfl Try.func85 (by kernel_rfl) rfl #[.int .u8 4, .bool (decide ((wrap64 ((wrap64 (t125 + t126)) + (wrap64 (Int.tmod a2 2)))) > 32767))] rfl (by (try simp only [List.map_toArray, List.map_cons, List.map_nil]); first | done | rfl | (simp only [List.length_drop, List.length_take]; rfl)) ?_; (with_reducible refine (pendulumref05_Flag.calls 4 (decide ((wrap64 ((wrap64 (t125 + t126)) + (wrap64 (Int.tmod a2 2)))) > 32767)) t131 _ A11.out).mono ?_); rintro e w' ⟨rfl, ⟨nd, rfl⟩⟩; refine ⟨_, rfl, ?_⟩))
    go_ret2
    exact ⟨by first | rfl | (simp; done) | (simp [*]; done), by repeat (first | exact Drawn0.refl _ | apply Drawn0.step)⟩

/-! ### pendulumref07_Sbc: function 27 -/
def pendulumref07_Sbc.f (a0 : Int) (a1 : Int) (a2 : Int) : Option (Int × Int) := (pendulumref07_signed.f a0).bind fun t132 => ((pendulumref07_signed.f a1).bind fun t133 => ((pendulumref07_sz.f (IntKind.u16.wrap (wrap64 ((wrap64 ((wrap64 (a0)) - (wrap64 (a1)))) - (wrap64 (Int.tmod a2 2)))))).bind fun t134 => ((pendulumref05_Flag.f 1 (decide ((wrap64 ((wrap64 ((wrap64 (a0)) - (wrap64 (a1)))) - (wrap64 (Int.tmod a2 2)))) < 0))).bind fun t135 => ((pendulumref05_Flag.f 16 (decide ((wrap64 ((wrap64 ((wrap64 (Int.tmod a0 4096)) - (wrap64 (Int.tmod a1 4096)))) - (wrap64 (Int.tmod a2 2)))) < 0))).bind fun t136 => (if (wrap64 ((wrap64 (t132 - t133)) - (wrap64 (Int.tmod a2 2)))) < (-32768) then ((pendulumref05_Flag.f 4 true).bind fun t137 => (some (IntKind.u16.wrap (wrap64 ((wrap64 ((wrap64 (a0)) - (wrap64 (a1)))) - (wrap64 (Int.tmod a2 2)))), Go.bits .or .u8 (Go.bits .or .u8 (Go.bits .or .u8 (Go.bits .or .u8 t134 t135) t136) t137) 2))) else ((pendulumref05_Flag.f 4 (decide ((wrap64 ((wrap64 (t132 - t133)) - (wrap64 (Int.tmod a2 2)))) > 32767))).bind fun t138 => (some (IntKind.u16.wrap (wrap64 ((wrap64 ((wrap64 (a0)) - (wrap64 (a1)))) - (wrap64 (Int.tmod a2 2)))), Go.bits .or .u8 (Go.bits .or .u8 (Go.bits .or .u8 (Go.bits .or .u8 t134 t135) t136) t138) 2))))))))
set_option maxHeartbeats 8000000 in
set_option maxRecDepth 100000 in
theorem pendulumref07_Sbc.calls (a0 : Int) (a1 : Int) (a2 : Int) (r1 : Int) (r2 : Int) (w : World) (h : pendulumref07_Sbc.f a0 a1 a2 = some (r1, r2)) :
    Calls Try.prog 27 #[.int .u16 a0, .int .u16 a1, .int .u8 a2] w fun e w' => e = .returned (.tuple #[.int .u16 r1, .int .u8 r2]) ∧ Drawn0 w w' := by
  have H : ((pendulumref07_signed.f a0).bind fun t132 => ((pendulumref07_signed.f a1).bind fun t133 => ((pendulumref07_sz.f (IntKind.u16.wrap (wrap64 ((wrap64 ((wrap64 (a0)) - (wrap64 (a1)))) - (wrap64 (Int.tmod a2 2)))))).bind fun t134 => ((pendulumref05_Flag.f 1 (decide ((wrap64 ((wrap64 ((wrap64 (a0)) - (wrap64 (a1)))) - (wrap64 (Int.tmod a2 2)))) < 0))).bind fun t135 => ((pendulumref05_Flag.f 16 (decide ((wrap64 ((wrap64 ((wrap64 (Int.tmod a0 4096)) - (wrap64 (Int.tmod a1 4096)))) - (wrap64 (Int.tmod a2 2)))) < 0))).bind fun t136 => (if (wrap64 ((wrap64 (t132 - t133)) - (wrap64 (Int.tmod a2 2)))) < (-32768) then ((pendulumref05_Flag.f 4 true).bind fun t137 => (some (IntKind.u16.wrap (wrap64 ((wrap64 ((wrap64 (a0)) - (wrap64 (a1)))) - (wrap64 (Int.tmod a2 2)))), Go.bits .or .u8 (Go.bits .or .u8 (Go.bits .or .u8 (Go.bits .or .u8 t134 t135) t136) t137) 2))) else ((pendulumref05_Flag.f 4 (decide ((wrap64 ((wrap64 (t132 - t133)) - (wrap64 (Int.tmod a2 2)))) > 32767))).bind fun t138 => (some (IntKind.u16.wrap (wrap64 ((wrap64 ((wrap64 (a0)) - (wrap64 (a1)))) - (wrap64 (Int.tmod a2 2)))), Go.bits .or .u8 (Go.bits .or .u8 (Go.bits .or .u8 (Go.bits .or .u8 t134 t135) t136) t138) 2))))))))) = some (r1, r2) := h
  clear h
  replace H := Option.bind_eq_some_iff.mp H
  obtain ⟨t132, A40, H⟩ := H
  replace H : ((pendulumref07_signed.f a1).bind fun t133 => ((pendulumref07_sz.f (IntKind.u16.wrap (wrap64 ((wrap64 ((wrap64 (a0)) - (wrap64 (a1)))) - (wrap64 (Int.tmod a2 2)))))).bind fun t134 => ((pendulumref05_Flag.f 1 (decide ((wrap64 ((wrap64 ((wrap64 (a0)) - (wrap64 (a1)))) - (wrap64 (Int.tmod a2 2)))) < 0))).bind fun t135 => ((pendulumref05_Flag.f 16 (decide ((wrap64 ((wrap64 ((wrap64 (Int.tmod a0 4096)) - (wrap64 (Int.tmod a1 4096)))) - (wrap64 (Int.tmod a2 2)))) < 0))).bind fun t136 => (if (wrap64 ((wrap64 (t132 - t133)) - (wrap64 (Int.tmod a2 2)))) < (-32768) then ((pendulumref05_Flag.f 4 true).bind fun t137 => (some (IntKind.u16.wrap (wrap64 ((wrap64 ((wrap64 (a0)) - (wrap64 (a1)))) - (wrap64 (Int.tmod a2 2)))), Go.bits .or .u8 (Go.bits .or .u8 (Go.bits .or .u8 (Go.bits .or .u8 t134 t135) t136) t137) 2))) else ((pendulumref05_Flag.f 4 (decide ((wrap64 ((wrap64 (t132 - t133)) - (wrap64 (Int.tmod a2 2)))) > 32767))).bind fun t138 => (some (IntKind.u16.wrap (wrap64 ((wrap64 ((wrap64 (a0)) - (wrap64 (a1)))) - (wrap64 (Int.tmod a2 2)))), Go.bits .or .u8 (Go.bits .or .u8 (Go.bits .or .u8 (Go.bits .or .u8 t134 t135) t136) t138) 2)))))))) = some (r1, r2) := H
  have A4 := Aside0.mk A40
  clear A40
  replace H := Option.bind_eq_some_iff.mp H
  obtain ⟨t133, A50, H⟩ := H
  replace H : ((pendulumref07_sz.f (IntKind.u16.wrap (wrap64 ((wrap64 ((wrap64 (a0)) - (wrap64 (a1)))) - (wrap64 (Int.tmod a2 2)))))).bind fun t134 => ((pendulumref05_Flag.f 1 (decide ((wrap64 ((wrap64 ((wrap64 (a0)) - (wrap64 (a1)))) - (wrap64 (Int.tmod a2 2)))) < 0))).bind fun t135 => ((pendulumref05_Flag.f 16 (decide ((wrap64 ((wrap64 ((wrap64 (Int.tmod a0 4096)) - (wrap64 (Int.tmod a1 4096)))) - (wrap64 (Int.tmod a2 2)))) < 0))).bind fun t136 => (if (wrap64 ((wrap64 (t132 - t133)) - (wrap64 (Int.tmod a2 2)))) < (-32768) then ((pendulumref05_Flag.f 4 true).bind fun t137 => (some (IntKind.u16.wrap (wrap64 ((wrap64 ((wrap64 (a0)) - (wrap64 (a1)))) - (wrap64 (Int.tmod a2 2)))), Go.bits .or .u8 (Go.bits .or .u8 (Go.bits .or .u8 (Go.bits .or .u8 t134 t135) t136) t137) 2))) else ((pendulumref05_Flag.f 4 (decide ((wrap64 ((wrap64 (t132 - t133)) - (wrap64 (Int.tmod a2 2)))) > 32767))).bind fun t138 => (some (IntKind.u16.wrap (wrap64 ((wrap64 ((wrap64 (a0)) - (wrap64 (a1)))) - (wrap64 (Int.tmod a2 2)))), Go.bits .or .u8 (Go.bits .or .u8 (Go.bits .or .u8 (Go.bits .or .u8 t134 t135) t136) t138) 2))))))) = some (r1, r2) := H
  have A5 := Aside0.mk A50
  clear A50
  replace H := Option.bind_eq_some_iff.mp H
  obtain ⟨t134, A60, H⟩ := H
  replace H : ((pendulumref05_Flag.f 1 (decide ((wrap64 ((wrap64 ((wrap64 (a0)) - (wrap64 (a1)))) - (wrap64 (Int.tmod a2 2)))) < 0))).bind fun t135 => ((pendulumref05_Flag.f 16 (decide ((wrap64 ((wrap64 ((wrap64 (Int.tmod a0 4096)) - (wrap64 (Int.tmod a1 4096)))) - (wrap64 (Int.tmod a2 2)))) < 0))).bind fun t136 => (if (wrap64 ((wrap64 (t132 - t133)) - (wrap64 (Int.tmod a2 2)))) < (-32768) then ((pendulumref05_Flag.f 4 true).bind fun t137 => (some (IntKind.u16.wrap (wrap64 ((wrap64 ((wrap64 (a0)) - (wrap64 (a1)))) - (wrap64 (Int.tmod a2 2)))), Go.bits .or .u8 (Go.bits .or .u8 (Go.bits .or .u8 (Go.bits .or .u8 t134 t135) t136) t137) 2))) else ((pendulumref05_Flag.f 4 (decide ((wrap64 ((wrap64 (t132 - t133)) - (wrap64 (Int.tmod a2 2)))) > 32767))).bind fun t138 => (some (IntKind.u16.wrap (wrap64 ((wrap64 ((wrap64 (a0)) - (wrap64 (a1)))) - (wrap64 (Int.tmod a2 2)))), Go.bits .or .u8 (Go.bits .or .u8 (Go.bits .or .u8 (Go.bits .or .u8 t134 t135) t136) t138) 2)))))) = some (r1, r2) := H
  have A6 := Aside0.mk A60
  clear A60
  replace H := Option.bind_eq_some_iff.mp H
  obtain ⟨t135, A70, H⟩ := H
  replace H : ((pendulumref05_Flag.f 16 (decide ((wrap64 ((wrap64 ((wrap64 (Int.tmod a0 4096)) - (wrap64 (Int.tmod a1 4096)))) - (wrap64 (Int.tmod a2 2)))) < 0))).bind fun t136 => (if (wrap64 ((wrap64 (t132 - t133)) - (wrap64 (Int.tmod a2 2)))) < (-32768) then ((pendulumref05_Flag.f 4 true).bind fun t137 => (some (IntKind.u16.wrap (wrap64 ((wrap64 ((wrap64 (a0)) - (wrap64 (a1)))) - (wrap64 (Int.tmod a2 2)))), Go.bits .or .u8 (Go.bits .or .u8 (Go.bits .or .u8 (Go.bits .or .u8 t134 t135) t136) t137) 2))) else ((pendulumref05_Flag.f 4 (decide ((wrap64 ((wrap64 (t132 - t133)) - (wrap64 (Int.tmod a2 2)))) > 32767))).bind fun t138 => (some (IntKind.u16.wrap (wrap64 ((wrap64 ((wrap64 (a0)) - (wrap64 (a1)))) - (wrap64 (Int.tmod a2 2)))), Go.bits .or .u8 (Go.bits .or .u8 (Go.bits .or .u8 (Go.bits .or .u8 t134 t135) t136) t138) 2))))) = some (r1, r2) := H
  have A7 := Aside0.mk A70
  clear A70
  replace H := Option.bind_eq_some_iff.mp H
  obtain ⟨t136, A80, H⟩ := H
  replace H : (if (wrap64 ((wrap64 (t132 - t133)) - (wrap64 (Int.tmod a2 2)))) < (-32768) then ((pendulumref05_Flag.f 4 true).bind fun t137 => (some (IntKind.u16.wrap (wrap64 ((wrap64 ((wrap64 (a0)) - (wrap64 (a1)))) - (wrap64 (Int.tmod a2 2)))), Go.bits .or .u8 (Go.bits .or .u8 (Go.bits .or .u8 (Go.bits .or .u8 t134 t135) t136) t137) 2))) else ((pendulumref05_Flag.f 4 (decide ((wrap64 ((wrap64 (t132 - t133)) - (wrap64 (Int.tmod a2 2)))) > 32767))).bind fun t138 => (some (IntKind.u16.wrap (wrap64 ((wrap64 ((wrap64 (a0)) - (wrap64 (a1)))) - (wrap64 (Int.tmod a2 2)))), Go.bits .or .u8 (Go.bits .or .u8 (Go.bits .or .u8 (Go.bits .or .u8 t134 t135) t136) t138) 2)))) = some (r1, r2) := H
  have A8 := Aside0.mk A80
  clear A80
  by_cases c9 : (wrap64 ((wrap64 (t132 - t133)) - (wrap64 (Int.tmod a2 2)))) < (-32768)
  · rw [if_pos c9] at H
    have c9b0 : decide ((wrap64 ((wrap64 (t132 - t133)) - (wrap64 (Int.tmod a2 2)))) < (-32768)) = true := decide_eq_true c9
    clear c9
    replace H := Option.bind_eq_some_iff.mp H
    obtain ⟨t137, A100, H⟩ := H
    replace H : (some (IntKind.u16.wrap (wrap64 ((wrap64 ((wrap64 (a0)) - (wrap64 (a1)))) - (wrap64 (Int.tmod a2 2)))), Go.bits .or .u8 (Go.bits .or .u8 (Go.bits .or .u8 (Go.bits .or .u8 t134 t135) t136) t137) 2)) = some (r1, r2) := H
    have A10 := Aside0.mk A100
    clear A100
    simp only [Option.some.injEq, Prod.mk.injEq] at H
    obtain ⟨rfl, rfl⟩ := H
    go_enter Try.func27, Try.ntmps27
    go_wp2_with (first | ((with_reducible refine gate_callee (f := 87) rfl ?_); refine goesL_ (some 23) rfl rfl Try.func87 (by kernel_rfl) rfl #[.int .u16 a0] rfl (by (try simp only [List.map_toArray, List.map_cons, List.map_nil]); first | done | rfl | (simp only [List.length_drop, List.length_take]; rfl)) ?_; (with_reducible refine (pendulumref07_signed.calls a0 t132 _ A4.out).mono ?_); rintro e w' ⟨rfl, ⟨nd, rfl⟩⟩; refine ⟨_, rfl, ?_⟩) | ((with_reducible refine gate_callee (f := 87) rfl ?_); refine goesL_ (some 25) rfl rfl Try.func87 (by kernel_rfl) rfl #[.int .u16 a1] rfl (by (try simp only [List.map_toArray, List.map_cons, List.map_nil]); first | done | rfl | (simp only [List.length_drop, List.length_take]; rfl)) ?_; (with_reducible refine (pendulumref07_signed.calls a1 t133 _ A5.out).mono ?_); rintro e w' ⟨rfl, ⟨nd, rfl⟩⟩; refine ⟨_, rfl, ?_⟩) | ((with_reducible refine gate_callee (f := 88) rfl ?_); refine goesL_ (some 33) rfl rfl Try.func88 (by kernel_rfl) rfl #[.int .u16 (IntKind.u16.wrap (wrap64 ((wrap64 ((wrap64 (a0)) - (wrap64 (a1)))) - (wrap64 (Int.tmod a2 2)))))] rfl (by (try simp only [List.map_toArray, List.map_cons, List.map_nil]); first | done | rfl | (simp only [List.length_drop, List.length_take]; rfl)) ?_; (with_reducible refine (pendulumref07_sz.calls (IntKind.u16.wrap (wrap64 ((wrap64 ((wrap64 (a0)) - (wrap64 (a1)))) - (wrap64 (Int.tmod a2 2))))) t134 _ A6.out).mono ?_); rintro e w' ⟨rfl, ⟨nd, rfl⟩⟩; refine ⟨_, rfl, ?_⟩) | ((with_reducible refine gate_callee (f := 85) rfl ?_); refine goesL_ (some 36) rfl rfl Try.func85 (by kernel_rfl) rfl #[.int .u8 1, .bool (decide ((wrap64 ((wrap64 ((wrap64 (a0)) - (wrap64 (a1)))) - (wrap64 (Int.tmod a2 2)))) < 0))] rfl (by (try simp only [List.map_toArray, List.map_cons, List.map_nil]); first | done | rfl | (simp only [List.length_drop, List.length_take]; rfl)) ?_; (with_reducible refine (pendulumref05_Flag.calls 1 (decide ((wrap64 ((wrap64 ((wrap64 (a0)) - (wrap64 (a1)))) - (wrap64 (Int.tmod a2 2)))) < 0)) t135 _ A7.out).mono ?_); rintro e w' ⟨rfl, ⟨nd, rfl⟩⟩; refine ⟨_, rfl, ?_⟩) | ((with_reducible refine gate_callee (f := 85) rfl ?_); refine goesL_ (some 48) rfl rfl Try.func85 (by kernel_rfl) rfl #[.int .u8 16, .bool (decide ((wrap64 ((wrap64 ((wrap64 (Int.tmod a0 4096)) - (wrap64 (Int.tmod a1 4096)))) - (wrap64 (Int.tmod a2 2)))) < 0))] rfl (by (try simp only [List.map_toArray, List.map_cons, List.map_nil]); first | done | rfl | (simp only [List.length_drop, List.length_take]; rfl)) ?_; (with_reducible refine (pendulumref05_Flag.calls 16 (decide ((wrap64 ((wrap64 ((wrap64 (Int.tmod a0 4096)) - (wrap64 (Int.tmod a1 4096)))) - (wrap64 (Int.tmod a2 2)))) < 0)) t136 _ A8.out).mono ?_); rintro e w' ⟨rfl, ⟨nd, rfl⟩⟩; refine ⟨_, rfl, ?_⟩) | ((with_reducible refine gate_callee (f := 85) rfl ?_); refine goesL_ (some 56) rfl rfl Try.func85 (by kernel_rfl) rfl #[.int .u8 4, .bool true] rfl (by (try simp only [List.map_toArray, List.map_cons, List.map_nil]); first | done | rfl | (simp only [List.length_drop, List.length_take]; rfl)) ?_; (with_reducible refine (pendulumref05_Flag.calls 4 true t137 _ A10.out).mono ?_); rintro e w' ⟨rfl, ⟨nd, rfl⟩⟩; refine ⟨_, rfl, ?_⟩))
    go_ret2
    exact ⟨by first | rfl | (simp; done) | (simp [*]; done), by repeat (first | exact Drawn0.refl _ | apply Drawn0.step)⟩
  · rw [if_neg c9] at H
    have c9b0 : decide ((wrap64 ((wrap64 (t132 - t133)) - (wrap64 (Int.tmod a2 2)))) < (-32768)) = false := decide_eq_false c9
    clear c9
    replace H := Option.bind_eq_some_iff.mp H
    obtain ⟨t138, A110, H⟩ := H
    replace H : (some (IntKind.u16.wrap (wrap64 ((wrap64 ((wrap64 (a0)) - (wrap64 (a1)))) - (wrap64 (Int.tmod a2 2)))), Go.bits .or .u8 (Go.bits .or .u8 (Go.bits .or .u8 (Go.bits .or .u8 t134 t135) t136) t138) 2)) = some (r1, r2) := H
    have A11 := Aside0.mk A110
    clear A110
    simp only [Option.some.injEq, Prod.mk.injEq] at H
    obtain ⟨rfl, rfl⟩ := H
    go_enter Try.func27, Try.ntmps27
    go_wp2_with (first | ((with_reducible refine gate_callee (f := 87) rfl ?_); refine goesL_ (some 23) rfl rfl Try.func87 (by kernel_rfl) rfl #[.int .u16 a0] rfl (by (try simp only [List.map_toArray, List.map_cons, List.map_nil]); first | done | rfl | (simp only [List.length_drop, List.length_take]; rfl)) ?_; (with_reducible refine (pendulumref07_signed.calls a0 t132 _ A4.out).mono ?_); rintro e w' ⟨rfl, ⟨nd, rfl⟩⟩; refine ⟨_, rfl, ?_⟩) | ((with_reducible refine gate_callee (f := 87) rfl ?_); refine goesL_ (some 25) rfl rfl Try.func87 (by kernel_rfl) rfl #[.int .u16 a1] rfl (by (try simp only [List.map_toArray, List.map_cons, List.map_nil]); first | done | rfl | (simp only [List.length_drop, List.length_take]; rfl)) ?_; (with_reducible refine (pendulumref07_signed.calls a1 t133 _ A5.out).mono ?_); rintro e w' ⟨rfl, ⟨nd, rfl⟩⟩; refine ⟨_, rfl, ?_⟩) | ((with_reducible refine gate_callee (f := 88) rfl ?_); refine goesL_ (some 33) rfl rfl Try.func88 (by kernel_rfl) rfl #[.int .u16 (IntKind.u16.wrap (wrap64 ((wrap64 ((wrap64 (a0)) - (wrap64 (a1)))) - (wrap64 (Int.tmod a2 2)))))] rfl (by (try simp only [List.map_toArray, List.map_cons, List.map_nil]); first | done | rfl | (simp only [List.length_drop, List.length_take]; rfl)) ?_; (with_reducible refine (pendulumref07_sz.calls (IntKind.u16.wrap (wrap64 ((wrap64 ((wrap64 (a0)) - (wrap64 (a1)))) - (wrap64 (Int.tmod a2 2))))) t134 _ A6.out).mono ?_); rintro e w' ⟨rfl, ⟨nd, rfl⟩⟩; refine ⟨_, rfl, ?_⟩) | ((with_reducible refine gate_callee (f := 85) rfl ?_); refine goesL_ (some 36) rfl rfl Try.func85 (by kernel_rfl) rfl #[.int .u8 1, .bool (decide ((wrap64 ((wrap64 ((wrap64 (a0)) - (wrap64 (a1)))) - (wrap64 (Int.tmod a2 2)))) < 0))] rfl (by (try simp only [List.map_toArray, List.map_cons, List.map_nil]); first | done | rfl | (simp only [List.length_drop, List.length_take]; rfl)) ?_; (with_reducible refine (pendulumref05_Flag.calls 1 (decide ((wrap64 ((wrap64 ((wrap64 (a0)) - (wrap64 (a1)))) - (wrap64 (Int.tmod a2 2)))) < 0)) t135 _ A7.out).mono ?_); rintro e w' ⟨rfl, ⟨nd, rfl⟩⟩; refine ⟨_, rfl, ?_⟩) | ((with_reducible refine gate_callee (f := 85) rfl ?_); refine goesL_ (some 48) rfl rfl Try.func85 (by kernel_rfl) rfl #[.int .u8 16, .bool (decide ((wrap64 ((wrap64 ((wrap64 (Int.tmod a0 4096)) - (wrap64 (Int.tmod a1 4096)))) - (wrap64 (Int.tmod a2 2)))) < 0))] rfl (by (try simp only [List.map_toArray, List.map_cons, List.map_nil]); first | done | rfl | (simp only [List.length_drop, List.length_take]; rfl)) ?_; (with_reducible refine (pendulumref05_Flag.calls 16 (decide ((wrap64 ((wrap64 ((wrap64 (Int.tmod a0 4096)) - (wrap64 (Int.tmod a1 4096)))) - (wrap64 (Int.tmod a2 2)))) < 0)) t136 _ A8.out).mono ?_); rintro e w' ⟨rfl, ⟨nd, rfl⟩⟩; refine ⟨_, rfl, ?_⟩) | ((with_reducible refine gate_callee (f := 85) rfl ?_); refine goesL_ (some 56) rfl rfl Try.func85 (by kernel_rfl) rfl #[.int .u8 4, .bool (decide ((wrap64 ((wrap64 (t132 - t133)) - (wrap64 (Int.tmod a2 2)))) > 32767))] rfl (by (try simp only [List.map_toArray, List.map_cons, List.map_nil]); first | done | rfl | (simp only [List.length_drop, List.length_take]; rfl)) ?_; (with_reducible refine (pendulumref05_Flag.calls 4 (decide ((wrap64 ((wrap64 (t132 - t133)) - (wrap64 (Int.tmod a2 2)))) > 32767)) t138 _ A11.out).mono ?_); rintro e w' ⟨rfl, ⟨nd, rfl⟩⟩; refine ⟨_, rfl, ?_⟩))
    go_ret2
    exact ⟨by first | rfl | (simp; done) | (simp [*]; done), by repeat (first | exact Drawn0.refl _ | apply Drawn0.step)⟩

/-! ### wide_Split: function 28 -/
def wide_Split.f (a0 : Int) : Option (Int × Int) := some ((a0 / 256) % 256, (a0) % 256)
set_option maxHeartbeats 8000000 in
set_option maxRecDepth 100000 in
theorem wide_Split.calls (a0 : Int) (r1 : Int) (r2 : Int) (w : World) (h : wide_Split.f a0 = some (r1, r2)) :
    Calls Try.prog 28 #[.int .u16 a0] w fun e w' => e = .returned (.tuple #[.int .u8 r1, .int .u8 r2]) ∧ Drawn0 w w' := by
  have H : (some ((a0 / 256) % 256, (a0) % 256)) = some (r1, r2) := h
  clear h
  simp only [Option.some.injEq, Prod.mk.injEq] at H
  obtain ⟨rfl, rfl⟩ := H
  go_enter Try.func28, Try.ntmps28
  go_wp2
  go_ret2
  exact ⟨by first | rfl | (simp; done) | (simp [*]; done), by repeat (first | exact Drawn0.refl _ | apply Drawn0.step)⟩

/-! ### pendulumref07_Split: function 29 -/
def pendulumref07_Split.f (a0 : Int) : Option (Int × Int) := some ((IntKind.u16.wrap (Int.tdiv a0 256)) % 256, (Int.tmod a0 256) % 256)
set_option maxHeartbeats 8000000 in
set_option maxRecDepth 100000 in
theorem pendulumref07_Split.calls (a0 : Int) (r1 : Int) (r2 : Int) (w : World) (h : pendulumref07_Split.f a0 = some (r1, r2)) :
    Calls Try.prog 29 #[.int .u16 a0] w fun e w' => e = .returned (.tuple #[.int .u8 r1, .int .u8 r2]) ∧ Drawn0 w w' := by
  have H : (some ((IntKind.u16.wrap (Int.tdiv a0 256)) % 256, (Int.tmod a0 256) % 256)) = some (r1, r2) := h
  clear h
  simp only [Option.some.injEq, Prod.mk.injEq] at H
  obtain ⟨rfl, rfl⟩ := H
  go_enter Try.func29, Try.ntmps29
  go_wp2
  go_ret2
  exact ⟨by first | rfl | (simp; done) | (simp [*]; done), by repeat (first | exact Drawn0.refl _ | apply Drawn0.step)⟩

/-! ### wide_Pair: function 30 -/
def wide_Pair.f (a0 : Int) (a1 : Int) : Option (Int) := some (Go.bits .or .u16 (IntKind.u16.wrap ((IntKind.u16.wrap (a0)) * 256)) (IntKind.u16.wrap (a1)))
set_option maxHeartbeats 8000000 in
set_option maxRecDepth 100000 in
theorem wide_Pair.calls (a0 : Int) (a1 : Int) (r : Int) (w : World) (h : wide_Pair.f a0 a1 = some r) :
    Calls Try.prog 30 #[.int .u8 a0, .int .u8 a1] w fun e w' => e = .returned (.int .u16 r) ∧ Drawn0 w w' := by
  have H : (some (Go.bits .or .u16 (IntKind.u16.wrap ((IntKind.u16.wrap (a0)) * 256)) (IntKind.u16.wrap (a1)))) = some r := h
  clear h
  obtain rfl := Option.some.inj H
  go_enter Try.func30, Try.ntmps30
  go_wp2
  go_ret
  exact ⟨by first | rfl | (simp; done) | (simp [*]; done), by repeat (first | exact Drawn0.refl _ | apply Drawn0.step)⟩

/-! ### pendulumref07_Pair: function 31 -/
def pendulumref07_Pair.f (a0 : Int) (a1 : Int) : Option (Int) := some (IntKind.u16.wrap ((IntKind.u16.wrap ((IntKind.u16.wrap (a0)) * 256)) + (IntKind.u16.wrap (a1))))
set_option maxHeartbeats 8000000 in
set_option maxRecDepth 100000 in
theorem pendulumref07_Pair.calls (a0 : Int) (a1 : Int) (r : Int) (w : World) (h : pendulumref07_Pair.f a0 a1 = some r) :
    Calls Try.prog 31 #[.int .u8 a0, .int .u8 a1] w fun e w' => e = .returned (.int .u16 r) ∧ Drawn0 w w' := by
  have H : (some (IntKind.u16.wrap ((IntKind.u16.wrap ((IntKind.u16.wrap (a0)) * 256)) + (IntKind.u16.wrap (a1))))) = some r := h
  clear h
  obtain rfl := Option.some.inj H
  go_enter Try.func31, Try.ntmps31
  go_wp2
  go_ret
  exact ⟨by first | rfl | (simp; done) | (simp [*]; done), by repeat (first | exact Drawn0.refl _ | apply Drawn0.step)⟩

/-! ### wide_Signed: function 32 -/
def wide_Signed.f (a0 : Int) : Option (Int) := some (wrap64 (IntKind.i8.wrap (a0)))
set_option maxHeartbeats 8000000 in
set_option maxRecDepth 100000 in
theorem wide_Signed.calls (a0 : Int) (r : Int) (w : World) (h : wide_Signed.f a0 = some r) :
    Calls Try.prog 32 #[.int .u8 a0] w fun e w' => e = .returned (.int .i64 r) ∧ Drawn0 w w' := by
  have H : (some (wrap64 (IntKind.i8.wrap (a0)))) = some r := h
  clear h
  obtain rfl := Option.some.inj H
  go_enter Try.func32, Try.ntmps32
  go_wp2
  go_ret
  exact ⟨by first | rfl | (simp; done) | (simp [*]; done), by repeat (first | exact Drawn0.refl _ | apply Drawn0.step)⟩

/-! ### pendulumref07_Signed: function 33 -/
def pendulumref07_Signed.f (a0 : Int) : Option (Int) := if a0 ≥ 128 then (some (wrap64 ((wrap64 (a0)) - 256))) else (some (wrap64 (a0)))
set_option maxHeartbeats 8000000 in
set_option maxRecDepth 100000 in
theorem pendulumref07_Signed.calls (a0 : Int) (r : Int) (w : World) (h : pendulumref07_Signed.f a0 = some r) :
    Calls Try.prog 33 #[.int .u8 a0] w fun e w' => e = .returned (.int .i64 r) ∧ Drawn0 w w' := by
  have H : (if a0 ≥ 128 then (some (wrap64 ((wrap64 (a0)) - 256))) else (some (wrap64 (a0)))) = some r := h
  clear h
  by_cases c2 : a0 ≥ 128
  · rw [if_pos c2] at H
    have c2b0 : decide (128 ≤ a0) = true := decide_eq_true c2
    clear c2
    obtain rfl := Option.some.inj H
    go_enter Try.func33, Try.ntmps33
    go_wp2
    go_ret
    exact ⟨by first | rfl | (simp; done) | (simp [*]; done), by repeat (first | exact Drawn0.refl _ | apply Drawn0.step)⟩
  · rw [if_neg c2] at H
    have c2b0 : decide (128 ≤ a0) = false := decide_eq_false c2
    clear c2
    obtain rfl := Option.some.inj H
    go_enter Try.func33, Try.ntmps33
    go_wp2
    go_ret
    exact ⟨by first | rfl | (simp; done) | (simp [*]; done), by repeat (first | exact Drawn0.refl _ | apply Drawn0.step)⟩

/-! ### wide_Plus: function 34 -/
def wide_Plus.f (a0 : Int) (a1 : Int) : Option (Int) := some (IntKind.u16.wrap (a0 + (IntKind.u16.wrap (IntKind.i16.wrap (IntKind.i8.wrap (a1))))))
set_option maxHeartbeats 8000000 in
set_option maxRecDepth 100000 in
theorem wide_Plus.calls (a0 : Int) (a1 : Int) (r : Int) (w : World) (h : wide_Plus.f a0 a1 = some r) :
    Calls Try.prog 34 #[.int .u16 a0, .int .u8 a1] w fun e w' => e = .returned (.int .u16 r) ∧ Drawn0 w w' := by
  have H : (some (IntKind.u16.wrap (a0 + (IntKind.u16.wrap (IntKind.i16.wrap (IntKind.i8.wrap (a1))))))) = some r := h
  clear h
  obtain rfl := Option.some.inj H
  go_enter Try.func34, Try.ntmps34
  go_wp2
  go_ret
  exact ⟨by first | rfl | (simp; done) | (simp [*]; done), by repeat (first | exact Drawn0.refl _ | apply Drawn0.step)⟩

/-! ### pendulumref07_Plus: function 35 -/
def pendulumref07_Plus.f (a0 : Int) (a1 : Int) : Option (Int) := (pendulumref07_Signed.f a1).bind fun t139 => (some (IntKind.u16.wrap (wrap64 ((wrap64 (a0)) + t139))))
set_option maxHeartbeats 8000000 in
set_option maxRecDepth 100000 in
theorem pendulumref07_Plus.calls (a0 : Int) (a1 : Int) (r : Int) (w : World) (h : pendulumref07_Plus.f a0 a1 = some r) :
    Calls Try.prog 35 #[.int .u16 a0, .int .u8 a1] w fun e w' => e = .returned (.int .u16 r) ∧ Drawn0 w w' := by
  have H : ((pendulumref07_Signed.f a1).bind fun t139 => (some (IntKind.u16.wrap (wrap64 ((wrap64 (a0)) + t139))))) = some r := h
  clear h
  replace H := Option.bind_eq_some_iff.mp H
  obtain ⟨t139, A30, H⟩ := H
  replace H : (some (IntKind.u16.wrap (wrap64 ((wrap64 (a0)) + t139)))) = some r := H
  have A3 := Aside0.mk A30
  clear A30
  obtain rfl := Option.some.inj H
  go_enter Try.func35, Try.ntmps35
  go_wp2_with (first | ((with_reducible refine gate_callee (f := 33) rfl ?_); refine goesL_ (some 8) rfl rfl Try.func33 (by kernel_rfl) rfl #[.int .u8 a1] rfl (by (try simp only [List.map_toArray, List.map_cons, List.map_nil]); first | done | rfl | (simp only [List.length_drop, List.length_take]; rfl)) ?_; (with_reducible refine (pendulumref07_Signed.calls a1 t139 _ A3.out).mono ?_); rintro e w' ⟨rfl, ⟨nd, rfl⟩⟩; refine ⟨_, rfl, ?_⟩))
  go_ret
  exact ⟨by first | rfl | (simp; done) | (simp [*]; done), by repeat (first | exact Drawn0.refl _ | apply Drawn0.step)⟩

/-! ### pendulumlaw07_WideCalls: function 4 -/
def pendulumlaw07_WideCalls.f (a0 : Int) (a1 : Int) (a2 : Int) (a3 : Int) : Option (Bool) := (pendulumlaw07_lives.f).bind fun t140 => (if t140 = true then ((wide_Add.f a0 a1 a2).bind fun bt141 => ((pendulumref07_Add.f a0 a1 a2).bind fun bt143 => ((wide_Adc.f a0 a1 a2).bind fun bt145 => ((pendulumref07_Adc.f a0 a1 a2).bind fun bt147 => ((wide_Sbc.f a0 a1 a2).bind fun bt149 => ((pendulumref07_Sbc.f a0 a1 a2).bind fun bt151 => ((wide_Split.f a0).bind fun bt153 => ((pendulumref07_Split.f a0).bind fun bt155 => (if bt141.1 = bt143.1 then (if bt141.2 = bt143.2 then (if bt145.1 = bt147.1 then (if bt145.2 = bt147.2 then (if bt149.1 = bt151.1 then (if bt149.2 = bt151.2 then (if bt153.1 = bt155.1 then (if bt153.2 = bt155.2 then ((wide_Pair.f a2 a3).bind fun t157 => ((pendulumref07_Pair.f a2 a3).bind fun t158 => (if t157 = t158 then ((wide_Signed.f a3).bind fun t159 => ((pendulumref07_Signed.f a3).bind fun t160 => (if t159 = t160 then ((wide_Plus.f a0 a3).bind fun t161 => ((pendulumref07_Plus.f a0 a3).bind fun t162 => (some (t161 == t162)))) else (some false)))) else (some false)))) else (some false)) else (some false)) else (some false)) else (some false)) else (some false)) else (some false)) else (some false)) else (some false)))))))))) else (some false))
set_option maxHeartbeats 8000000 in
set_option maxRecDepth 100000 in
theorem pendulumlaw07_WideCalls.calls (a0 : Int) (a1 : Int) (a2 : Int) (a3 : Int) (r : Bool) (w : World) (h : pendulumlaw07_WideCalls.f a0 a1 a2 a3 = some r) :
    Calls Try.prog 4 #[.int .u16 a0, .int .u16 a1, .int .u8 a2, .int .u8 a3] w fun e w' => e = .returned (.bool r) ∧ Drawn0 w w' := by
  have H : ((pendulumlaw07_lives.f).bind fun t140 => (if t140 = true then ((wide_Add.f a0 a1 a2).bind fun bt141 => ((pendulumref07_Add.f a0 a1 a2).bind fun bt143 => ((wide_Adc.f a0 a1 a2).bind fun bt145 => ((pendulumref07_Adc.f a0 a1 a2).bind fun bt147 => ((wide_Sbc.f a0 a1 a2).bind fun bt149 => ((pendulumref07_Sbc.f a0 a1 a2).bind fun bt151 => ((wide_Split.f a0).bind fun bt153 => ((pendulumref07_Split.f a0).bind fun bt155 => (if bt141.1 = bt143.1 then (if bt141.2 = bt143.2 then (if bt145.1 = bt147.1 then (if bt145.2 = bt147.2 then (if bt149.1 = bt151.1 then (if bt149.2 = bt151.2 then (if bt153.1 = bt155.1 then (if bt153.2 = bt155.2 then ((wide_Pair.f a2 a3).bind fun t157 => ((pendulumref07_Pair.f a2 a3).bind fun t158 => (if t157 = t158 then ((wide_Signed.f a3).bind fun t159 => ((pendulumref07_Signed.f a3).bind fun t160 => (if t159 = t160 then ((wide_Plus.f a0 a3).bind fun t161 => ((pendulumref07_Plus.f a0 a3).bind fun t162 => (some (t161 == t162)))) else (some false)))) else (some false)))) else (some false)) else (some false)) else (some false)) else (some false)) else (some false)) else (some false)) else (some false)) else (some false)))))))))) else (some false))) = some r := h
  clear h
  replace H := Option.bind_eq_some_iff.mp H
  obtain ⟨t140, A50, H⟩ := H
  replace H : (if t140 = true then ((wide_Add.f a0 a1 a2).bind fun bt141 => ((pendulumref07_Add.f a0 a1 a2).bind fun bt143 => ((wide_Adc.f a0 a1 a2).bind fun bt145 => ((pendulumref07_Adc.f a0 a1 a2).bind fun bt147 => ((wide_Sbc.f a0 a1 a2).bind fun bt149 => ((pendulumref07_Sbc.f a0 a1 a2).bind fun bt151 => ((wide_Split.f a0).bind fun bt153 => ((pendulumref07_Split.f a0).bind fun bt155 => (if bt141.1 = bt143.1 then (if bt141.2 = bt143.2 then (if bt145.1 = bt147.1 then (if bt145.2 = bt147.2 then (if bt149.1 = bt151.1 then (if bt149.2 = bt151.2 then (if bt153.1 = bt155.1 then (if bt153.2 = bt155.2 then ((wide_Pair.f a2 a3).bind fun t157 => ((pendulumref07_Pair.f a2 a3).bind fun t158 => (if t157 = t158 then ((wide_Signed.f a3).bind fun t159 => ((pendulumref07_Signed.f a3).bind fun t160 => (if t159 = t160 then ((wide_Plus.f a0 a3).bind fun t161 => ((pendulumref07_Plus.f a0 a3).bind fun t162 => (some (t161 == t162)))) else (some false)))) else (some false)))) else (some false)) else (some false)) else (some false)) else (some false)) else (some false)) else (some false)) else (some false)) else (some false)))))))))) else (some false)) = some r := H
  have A5 := Aside0.mk A50
  clear A50
  by_cases c6 : t140 = true
  · subst c6
    have H1 : ((wide_Add.f a0 a1 a2).bind fun bt141 => ((pendulumref07_Add.f a0 a1 a2).bind fun bt143 => ((wide_Adc.f a0 a1 a2).bind fun bt145 => ((pendulumref07_Adc.f a0 a1 a2).bind fun bt147 => ((wide_Sbc.f a0 a1 a2).bind fun bt149 => ((pendulumref07_Sbc.f a0 a1 a2).bind fun bt151 => ((wide_Split.f a0).bind fun bt153 => ((pendulumref07_Split.f a0).bind fun bt155 => (if bt141.1 = bt143.1 then (if bt141.2 = bt143.2 then (if bt145.1 = bt147.1 then (if bt145.2 = bt147.2 then (if bt149.1 = bt151.1 then (if bt149.2 = bt151.2 then (if bt153.1 = bt155.1 then (if bt153.2 = bt155.2 then ((wide_Pair.f a2 a3).bind fun t157 => ((pendulumref07_Pair.f a2 a3).bind fun t158 => (if t157 = t158 then ((wide_Signed.f a3).bind fun t159 => ((pendulumref07_Signed.f a3).bind fun t160 => (if t159 = t160 then ((wide_Plus.f a0 a3).bind fun t161 => ((pendulumref07_Plus.f a0 a3).bind fun t162 => (some (t161 == t162)))) else (some false)))) else (some false)))) else (some false)) else (some false)) else (some false)) else (some false)) else (some false)) else (some false)) else (some false)) else (some false)))))))))) = some r := by rw [if_pos rfl] at H; exact H
    clear H
    have H := H1
    clear H1
    replace H := Option.bind_eq_some_iff.mp H
    obtain ⟨⟨t141, t142⟩, A70, H⟩ := H
    replace H : ((pendulumref07_Add.f a0 a1 a2).bind fun bt143 => ((wide_Adc.f a0 a1 a2).bind fun bt145 => ((pendulumref07_Adc.f a0 a1 a2).bind fun bt147 => ((wide_Sbc.f a0 a1 a2).bind fun bt149 => ((pendulumref07_Sbc.f a0 a1 a2).bind fun bt151 => ((wide_Split.f a0).bind fun bt153 => ((pendulumref07_Split.f a0).bind fun bt155 => (if t141 = bt143.1 then (if t142 = bt143.2 then (if bt145.1 = bt147.1 then (if bt145.2 = bt147.2 then (if bt149.1 = bt151.1 then (if bt149.2 = bt151.2 then (if bt153.1 = bt155.1 then (if bt153.2 = bt155.2 then ((wide_Pair.f a2 a3).bind fun t157 => ((pendulumref07_Pair.f a2 a3).bind fun t158 => (if t157 = t158 then ((wide_Signed.f a3).bind fun t159 => ((pendulumref07_Signed.f a3).bind fun t160 => (if t159 = t160 then ((wide_Plus.f a0 a3).bind fun t161 => ((pendulumref07_Plus.f a0 a3).bind fun t162 => (some (t161 == t162)))) else (some false)))) else (some false)))) else (some false)) else (some false)) else (some false)) else (some false)) else (some false)) else (some false)) else (some false)) else (some false))))))))) = some r := H
    have A7 := Aside0.mk A70
    clear A70
    replace H := Option.bind_eq_some_iff.mp H
    obtain ⟨⟨t143, t144⟩, A80, H⟩ := H
    replace H : ((wide_Adc.f a0 a1 a2).bind fun bt145 => ((pendulumref07_Adc.f a0 a1 a2).bind fun bt147 => ((wide_Sbc.f a0 a1 a2).bind fun bt149 => ((pendulumref07_Sbc.f a0 a1 a2).bind fun bt151 => ((wide_Split.f a0).bind fun bt153 => ((pendulumref07_Split.f a0).bind fun bt155 => (if t141 = t143 then (if t142 = t144 then (if bt145.1 = bt147.1 then (if bt145.2 = bt147.2 then (if bt149.1 = bt151.1 then (if bt149.2 = bt151.2 then (if bt153.1 = bt155.1 then (if bt153.2 = bt155.2 then ((wide_Pair.f a2 a3).bind fun t157 => ((pendulumref07_Pair.f a2 a3).bind fun t158 => (if t157 = t158 then ((wide_Signed.f a3).bind fun t159 => ((pendulumref07_Signed.f a3).bind fun t160 => (if t159 = t160 then ((wide_Plus.f a0 a3).bind fun t161 => ((pendulumref07_Plus.f a0 a3).bind fun t162 => (some (t161 == t162)))) else (some false)))) else (some false)))) else (some false)) else (some false)) else (some false)) else (some false)) else (some false)) else (some false)) else (some false)) else (some false)))))))) = some r := H
    have A8 := Aside0.mk A80
    clear A80
    replace H := Option.bind_eq_some_iff.mp H
    obtain ⟨⟨t145, t146⟩, A90, H⟩ := H
    replace H : ((pendulumref07_Adc.f a0 a1 a2).bind fun bt147 => ((wide_Sbc.f a0 a1 a2).bind fun bt149 => ((pendulumref07_Sbc.f a0 a1 a2).bind fun bt151 => ((wide_Split.f a0).bind fun bt153 => ((pendulumref07_Split.f a0).bind fun bt155 => (if t141 = t143 then (if t142 = t144 then (if t145 = bt147.1 then (if t146 = bt147.2 then (if bt149.1 = bt151.1 then (if bt149.2 = bt151.2 then (if bt153.1 = bt155.1 then (if bt153.2 = bt155.2 then ((wide_Pair.f a2 a3).bind fun t157 => ((pendulumref07_Pair.f a2 a3).bind fun t158 => (if t157 = t158 then ((wide_Signed.f a3).bind fun t159 => ((pendulumref07_Signed.f a3).bind fun t160 => (if t159 = t160 then ((wide_Plus.f a0 a3).bind fun t161 => ((pendulumref07_Plus.f a0 a3).bind fun t162 => (some (t161 == t162)))) else (some false)))) else (some false)))) else (some false)) else (some false)) else (some false)) else (some false)) else (some false)) else (some false)) else (some false)) else (some false))))))) = some r := H
    have A9 := Aside0.mk A90
    clear A90
    replace H := Option.bind_eq_some_iff.mp H
    obtain ⟨⟨t147, t148⟩, A100, H⟩ := H
    replace H : ((wide_Sbc.f a0 a1 a2).bind fun bt149 => ((pendulumref07_Sbc.f a0 a1 a2).bind fun bt151 => ((wide_Split.f a0).bind fun bt153 => ((pendulumref07_Split.f a0).bind fun bt155 => (if t141 = t143 then (if t142 = t144 then (if t145 = t147 then (if t146 = t148 then (if bt149.1 = bt151.1 then (if bt149.2 = bt151.2 then (if bt153.1 = bt155.1 then (if bt153.2 = bt155.2 then ((wide_Pair.f a2 a3).bind fun t157 => ((pendulumref07_Pair.f a2 a3).bind fun t158 => (if t157 = t158 then ((wide_Signed.f a3).bind fun t159 => ((pendulumref07_Signed.f a3).bind fun t160 => (if t159 = t160 then ((wide_Plus.f a0 a3).bind fun t161 => ((pendulumref07_Plus.f a0 a3).bind fun t162 => (some (t161 == t162)))) else (some false)))) else (some false)))) else (some false)) else (some false)) else (some false)) else (some false)) else (some false)) else (some false)) else (some false)) else (some false)))))) = some r := H
    have A10 := Aside0.mk A100
    clear A100
    replace H := Option.bind_eq_some_iff.mp H
    obtain ⟨⟨t149, t150⟩, A110, H⟩ := H
    replace H : ((pendulumref07_Sbc.f a0 a1 a2).bind fun bt151 => ((wide_Split.f a0).bind fun bt153 => ((pendulumref07_Split.f a0).bind fun bt155 => (if t141 = t143 then (if t142 = t144 then (if t145 = t147 then (if t146 = t148 then (if t149 = bt151.1 then (if t150 = bt151.2 then (if bt153.1 = bt155.1 then (if bt153.2 = bt155.2 then ((wide_Pair.f a2 a3).bind fun t157 => ((pendulumref07_Pair.f a2 a3).bind fun t158 => (if t157 = t158 then ((wide_Signed.f a3).bind fun t159 => ((pendulumref07_Signed.f a3).bind fun t160 => (if t159 = t160 then ((wide_Plus.f a0 a3).bind fun t161 => ((pendulumref07_Plus.f a0 a3).bind fun t162 => (some (t161 == t162)))) else (some false)))) else (some false)))) else (some false)) else (some false)) else (some false)) else (some false)) else (some false)) else (some false)) else (some false)) else (some false))))) = some r := H
    have A11 := Aside0.mk A110
    clear A110
    replace H := Option.bind_eq_some_iff.mp H
    obtain ⟨⟨t151, t152⟩, A120, H⟩ := H
    replace H : ((wide_Split.f a0).bind fun bt153 => ((pendulumref07_Split.f a0).bind fun bt155 => (if t141 = t143 then (if t142 = t144 then (if t145 = t147 then (if t146 = t148 then (if t149 = t151 then (if t150 = t152 then (if bt153.1 = bt155.1 then (if bt153.2 = bt155.2 then ((wide_Pair.f a2 a3).bind fun t157 => ((pendulumref07_Pair.f a2 a3).bind fun t158 => (if t157 = t158 then ((wide_Signed.f a3).bind fun t159 => ((pendulumref07_Signed.f a3).bind fun t160 => (if t159 = t160 then ((wide_Plus.f a0 a3).bind fun t161 => ((pendulumref07_Plus.f a0 a3).bind fun t162 => (some (t161 == t162)))) else (some false)))) else (some false)))) else (some false)) else (some false)) else (some false)) else (some false)) else (some false)) else (some false)) else (some false)) else (some false)))) = some r := H
    have A12 := Aside0.mk A120
    clear A120
    replace H := Option.bind_eq_some_iff.mp H
    obtain ⟨⟨t153, t154⟩, A130, H⟩ := H
    replace H : ((pendulumref07_Split.f a0).bind fun bt155 => (if t141 = t143 then (if t142 = t144 then (if t145 = t147 then (if t146 = t148 then (if t149 = t151 then (if t150 = t152 then (if t153 = bt155.1 then (if t154 = bt155.2 then ((wide_Pair.f a2 a3).bind fun t157 => ((pendulumref07_Pair.f a2 a3).bind fun t158 => (if t157 = t158 then ((wide_Signed.f a3).bind fun t159 => ((pendulumref07_Signed.f a3).bind fun t160 => (if t159 = t160 then ((wide_Plus.f a0 a3).bind fun t161 => ((pendulumref07_Plus.f a0 a3).bind fun t162 => (some (t161 == t162)))) else (some false)))) else (some false)))) else (some false)) else (some false)) else (some false)) else (some false)) else (some false)) else (some false)) else (some false)) else (some false))) = some r := H
    have A13 := Aside0.mk A130
    clear A130
    replace H := Option.bind_eq_some_iff.mp H
    obtain ⟨⟨t155, t156⟩, A140, H⟩ := H
    replace H : (if t141 = t143 then (if t142 = t144 then (if t145 = t147 then (if t146 = t148 then (if t149 = t151 then (if t150 = t152 then (if t153 = t155 then (if t154 = t156 then ((wide_Pair.f a2 a3).bind fun t157 => ((pendulumref07_Pair.f a2 a3).bind fun t158 => (if t157 = t158 then ((wide_Signed.f a3).bind fun t159 => ((pendulumref07_Signed.f a3).bind fun t160 => (if t159 = t160 then ((wide_Plus.f a0 a3).bind fun t161 => ((pendulumref07_Plus.f a0 a3).bind fun t162 => (some (t161 == t162)))) else (some false)))) else (some false)))) else (some false)) else (some false)) else (some false)) else (some false)) else (some false)) else (some false)) else (some false)) else (some false)) = some r := H
    have A14 := Aside0.mk A140
    clear A140
    by_cases c15 : t141 = t143
    · rw [if_pos c15] at H
      have c15b0 : (t141 == t143) = true := beq_iff_eq.mpr c15
      have c15b1 : (t141 != t143) = false := bne_eq_false_iff_eq.mpr c15
      clear c15
      by_cases c16 : t142 = t144
      · rw [if_pos c16] at H
        have c16b0 : (t142 == t144) = true := beq_iff_eq.mpr c16
        have c16b1 : (t142 != t144) = false := bne_eq_false_iff_eq.mpr c16
        clear c16
        by_cases c17 : t145 = t147
        · rw [if_pos c17] at H
          have c17b0 : (t145 == t147) = true := beq_iff_eq.mpr c17
          have c17b1 : (t145 != t147) = false := bne_eq_false_iff_eq.mpr c17
          clear c17
          by_cases c18 : t146 = t148
          · rw [if_pos c18] at H
            have c18b0 : (t146 == t148) = true := beq_iff_eq.mpr c18
            have c18b1 : (t146 != t148) = false := bne_eq_false_iff_eq.mpr c18
            clear c18
            by_cases c19 : t149 = t151
            · rw [if_pos c19] at H
              have c19b0 : (t149 == t151) = true := beq_iff_eq.mpr c19
              have c19b1 : (t149 != t151) = false := bne_eq_false_iff_eq.mpr c19
              clear c19
              by_cases c20 : t150 = t152
              · rw [if_pos c20] at H
                have c20b0 : (t150 == t152) = true := beq_iff_eq.mpr c20
                have c20b1 : (t150 != t152) = false := bne_eq_false_iff_eq.mpr c20
                clear c20
                by_cases c21 : t153 = t155
                · rw [if_pos c21] at H
                  have c21b0 : (t153 == t155) = true := beq_iff_eq.mpr c21
                  have c21b1 : (t153 != t155) = false := bne_eq_false_iff_eq.mpr c21
                  clear c21
                  by_cases c22 : t154 = t156
                  · rw [if_pos c22] at H
                    have c22b0 : (t154 == t156) = true := beq_iff_eq.mpr c22
                    have c22b1 : (t154 != t156) = false := bne_eq_false_iff_eq.mpr c22
                    clear c22
                    replace H := Option.bind_eq_some_iff.mp H
                    obtain ⟨t157, A230, H⟩ := H
                    replace H : ((pendulumref07_Pair.f a2 a3).bind fun t158 => (if t157 = t158 then ((wide_Signed.f a3).bind fun t159 => ((pendulumref07_Signed.f a3).bind fun t160 => (if t159 = t160 then ((wide_Plus.f a0 a3).bind fun t161 => ((pendulumref07_Plus.f a0 a3).bind fun t162 => (some (t161 == t162)))) else (some false)))) else (some false))) = some r := H
                    have A23 := Aside0.mk A230
                    clear A230
                    replace H := Option.bind_eq_some_iff.mp H
                    obtain ⟨t158, A240, H⟩ := H
                    replace H : (if t157 = t158 then ((wide_Signed.f a3).bind fun t159 => ((pendulumref07_Signed.f a3).bind fun t160 => (if t159 = t160 then ((wide_Plus.f a0 a3).bind fun t161 => ((pendulumref07_Plus.f a0 a3).bind fun t162 => (some (t161 == t162)))) else (some false)))) else (some false)) = some r := H
                    have A24 := Aside0.mk A240
                    clear A240
                    by_cases c25 : t157 = t158
                    · rw [if_pos c25] at H
                      have c25b0 : (t157 == t158) = true := beq_iff_eq.mpr c25
                      have c25b1 : (t157 != t158) = false := bne_eq_false_iff_eq.mpr c25
                      clear c25
                      replace H := Option.bind_eq_some_iff.mp H
                      obtain ⟨t159, A260, H⟩ := H
                      replace H : ((pendulumref07_Signed.f a3).bind fun t160 => (if t159 = t160 then ((wide_Plus.f a0 a3).bind fun t161 => ((pendulumref07_Plus.f a0 a3).bind fun t162 => (some (t161 == t162)))) else (some false))) = some r := H
                      have A26 := Aside0.mk A260
                      clear A260
                      replace H := Option.bind_eq_some_iff.mp H
                      obtain ⟨t160, A270, H⟩ := H
                      replace H : (if t159 = t160 then ((wide_Plus.f a0 a3).bind fun t161 => ((pendulumref07_Plus.f a0 a3).bind fun t162 => (some (t161 == t162)))) else (some false)) = some r := H
                      have A27 := Aside0.mk A270
                      clear A270
                      by_cases c28 : t159 = t160
                      · rw [if_pos c28] at H
                        have c28b0 : (t159 == t160) = true := beq_iff_eq.mpr c28
                        have c28b1 : (t159 != t160) = false := bne_eq_false_iff_eq.mpr c28
                        clear c28
                        replace H := Option.bind_eq_some_iff.mp H
                        obtain ⟨t161, A290, H⟩ := H
                        replace H : ((pendulumref07_Plus.f a0 a3).bind fun t162 => (some (t161 == t162))) = some r := H
                        have A29 := Aside0.mk A290
                        clear A290
                        replace H := Option.bind_eq_some_iff.mp H
                        obtain ⟨t162, A300, H⟩ := H
                        replace H : (some (t161 == t162)) = some r := H
                        have A30 := Aside0.mk A300
                        clear A300
                        obtain rfl := Option.some.inj H
                        go_enter Try.func4, Try.ntmps4
                        go_wp2_with (first | ((with_reducible refine gate_callee (f := 19) rfl ?_); refine goesL_ (some 25) rfl rfl Try.func19 (by kernel_rfl) rfl #[] rfl (by (try simp only [List.map_toArray, List.map_cons, List.map_nil]); first | done | rfl | (simp only [List.length_drop, List.length_take]; rfl)) ?_; (with_reducible refine (pendulumlaw07_lives.calls  true _ A5.out).mono ?_); rintro e w' ⟨rfl, ⟨nd, rfl⟩⟩; refine ⟨_, rfl, ?_⟩) | ((with_reducible refine gate_callee (f := 24) rfl ?_); refine goesL_ (some 31) rfl rfl Try.func24 (by kernel_rfl) rfl #[.int .u16 a0, .int .u16 a1, .int .u8 a2] rfl (by (try simp only [List.map_toArray, List.map_cons, List.map_nil]); first | done | rfl | (simp only [List.length_drop, List.length_take]; rfl)) ?_; (with_reducible refine (wide_Add.calls a0 a1 a2 t141 t142 _ A7.out).mono ?_); rintro e w' ⟨rfl, ⟨nd, rfl⟩⟩; refine ⟨_, rfl, ?_⟩) | ((with_reducible refine gate_callee (f := 25) rfl ?_); refine goesL_ (some 38) rfl rfl Try.func25 (by kernel_rfl) rfl #[.int .u16 a0, .int .u16 a1, .int .u8 a2] rfl (by (try simp only [List.map_toArray, List.map_cons, List.map_nil]); first | done | rfl | (simp only [List.length_drop, List.length_take]; rfl)) ?_; (with_reducible refine (pendulumref07_Add.calls a0 a1 a2 t143 t144 _ A8.out).mono ?_); rintro e w' ⟨rfl, ⟨nd, rfl⟩⟩; refine ⟨_, rfl, ?_⟩) | ((with_reducible refine gate_callee (f := 20) rfl ?_); refine goesL_ (some 45) rfl rfl Try.func20 (by kernel_rfl) rfl #[.int .u16 a0, .int .u16 a1, .int .u8 a2] rfl (by (try simp only [List.map_toArray, List.map_cons, List.map_nil]); first | done | rfl | (simp only [List.length_drop, List.length_take]; rfl)) ?_; (with_reducible refine (wide_Adc.calls a0 a1 a2 t145 t146 _ A9.out).mono ?_); rintro e w' ⟨rfl, ⟨nd, rfl⟩⟩; refine ⟨_, rfl, ?_⟩) | ((with_reducible refine gate_callee (f := 26) rfl ?_); refine goesL_ (some 52) rfl rfl Try.func26 (by kernel_rfl) rfl #[.int .u16 a0, .int .u16 a1, .int .u8 a2] rfl (by (try simp only [List.map_toArray, List.map_cons, List.map_nil]); first | done | rfl | (simp only [List.length_drop, List.length_take]; rfl)) ?_; (with_reducible refine (pendulumref07_Adc.calls a0 a1 a2 t147 t148 _ A10.out).mono ?_); rintro e w' ⟨rfl, ⟨nd, rfl⟩⟩; refine ⟨_, rfl, ?_⟩) | ((with_reducible refine gate_callee (f := 22) rfl ?_); refine goesL_ (some 59) rfl rfl Try.func22 (by kernel_rfl) rfl #[.int .u16 a0, .int .u16 a1, .int .u8 a2] rfl (by (try simp only [List.map_toArray, List.map_cons, List.map_nil]); first | done | rfl | (simp only [List.length_drop, List.length_take]; rfl)) ?_; (with_reducible refine (wide_Sbc.calls a0 a1 a2 t149 t150 _ A11.out).mono ?_); rintro e w' ⟨rfl, ⟨nd, rfl⟩⟩; refine ⟨_, rfl, ?_⟩) | ((with_reducible refine gate_callee (f := 27) rfl ?_); refine goesL_ (some 66) rfl rfl Try.func27 (by kernel_rfl) rfl #[.int .u16 a0, .int .u16 a1, .int .u8 a2] rfl (by (try simp only [List.map_toArray, List.map_cons, List.map_nil]); first | done | rfl | (simp only [List.length_drop, List.length_take]; rfl)) ?_; (with_reducible refine (pendulumref07_Sbc.calls a0 a1 a2 t151 t152 _ A12.out).mono ?_); rintro e w' ⟨rfl, ⟨nd, rfl⟩⟩; refine ⟨_, rfl, ?_⟩) | ((with_reducible refine gate_callee (f := 28) rfl ?_); refine goesL_ (some 71) rfl rfl Try.func28 (by kernel_rfl) rfl #[.int .u16 a0] rfl (by (try simp only [List.map_toArray, List.map_cons, List.map_nil]); first | done | rfl | (simp only [List.length_drop, List.length_take]; rfl)) ?_; (with_reducible refine (wide_Split.calls a0 t153 t154 _ A13.out).mono ?_); rintro e w' ⟨rfl, ⟨nd, rfl⟩⟩; refine ⟨_, rfl, ?_⟩) | ((with_reducible refine gate_callee (f := 29) rfl ?_); refine goesL_ (some 76) rfl rfl Try.func29 (by kernel_rfl) rfl #[.int .u16 a0] rfl (by (try simp only [List.map_toArray, List.map_cons, List.map_nil]); first | done | rfl | (simp only [List.length_drop, List.length_take]; rfl)) ?_; (with_reducible refine (pendulumref07_Split.calls a0 t155 t156 _ A14.out).mono ?_); rintro e w' ⟨rfl, ⟨nd, rfl⟩⟩; refine ⟨_, rfl, ?_⟩) | (go_at_call 30; (with_reducible refine (wide_Pair.calls a2 a3 t157 _ A23.out).mono ?_); rintro e w' ⟨rfl, ⟨nd, rfl⟩⟩) | (go_at_call 31; (with_reducible refine (pendulumref07_Pair.calls a2 a3 t158 _ A24.out).mono ?_); rintro e w' ⟨rfl, ⟨nd, rfl⟩⟩) | (go_at_call 32; (with_reducible refine (wide_Signed.calls a3 t159 _ A26.out).mono ?_); rintro e w' ⟨rfl, ⟨nd, rfl⟩⟩) | (go_at_call 33; (with_reducible refine (pendulumref07_Signed.calls a3 t160 _ A27.out).mono ?_); rintro e w' ⟨rfl, ⟨nd, rfl⟩⟩) | (go_at_call 34; (with_reducible refine (wide_Plus.calls a0 a3 t161 _ A29.out).mono ?_); rintro e w' ⟨rfl, ⟨nd, rfl⟩⟩) | (go_at_call 35; (with_reducible refine (pendulumref07_Plus.calls a0 a3 t162 _ A30.out).mono ?_); rintro e w' ⟨rfl, ⟨nd, rfl⟩⟩))
                        go_ret
                        exact ⟨by first | rfl | (simp; done) | (simp [*]; done), by repeat (first | exact Drawn0.refl _ | apply Drawn0.step)⟩
                      · rw [if_neg c28] at H
                        have c28b0 : (t159 == t160) = false := beq_eq_false_iff_ne.mpr c28
                        have c28b1 : (t159 != t160) = true := bne_iff_ne.mpr c28
                        obtain rfl := Option.some.inj H
                        go_enter Try.func4, Try.ntmps4
                        go_wp2_with (first | ((with_reducible refine gate_callee (f := 19) rfl ?_); refine goesL_ (some 25) rfl rfl Try.func19 (by kernel_rfl) rfl #[] rfl (by (try simp only [List.map_toArray, List.map_cons, List.map_nil]); first | done | rfl | (simp only [List.length_drop, List.length_take]; rfl)) ?_; (with_reducible refine (pendulumlaw07_lives.calls  true _ A5.out).mono ?_); rintro e w' ⟨rfl, ⟨nd, rfl⟩⟩; refine ⟨_, rfl, ?_⟩) | ((with_reducible refine gate_callee (f := 24) rfl ?_); refine goesL_ (some 31) rfl rfl Try.func24 (by kernel_rfl) rfl #[.int .u16 a0, .int .u16 a1, .int .u8 a2] rfl (by (try simp only [List.map_toArray, List.map_cons, List.map_nil]); first | done | rfl | (simp only [List.length_drop, List.length_take]; rfl)) ?_; (with_reducible refine (wide_Add.calls a0 a1 a2 t141 t142 _ A7.out).mono ?_); rintro e w' ⟨rfl, ⟨nd, rfl⟩⟩; refine ⟨_, rfl, ?_⟩) | ((with_reducible refine gate_callee (f := 25) rfl ?_); refine goesL_ (some 38) rfl rfl Try.func25 (by kernel_rfl) rfl #[.int .u16 a0, .int .u16 a1, .int .u8 a2] rfl (by (try simp only [List.map_toArray, List.map_cons, List.map_nil]); first | done | rfl | (simp only [List.length_drop, List.length_take]; rfl)) ?_; (with_reducible refine (pendulumref07_Add.calls a0 a1 a2 t143 t144 _ A8.out).mono ?_); rintro e w' ⟨rfl, ⟨nd, rfl⟩⟩; refine ⟨_, rfl, ?_⟩) | ((with_reducible refine gate_callee (f := 20) rfl ?_); refine goesL_ (some 45) rfl rfl Try.func20 (by kernel_rfl) rfl #[.int .u16 a0, .int .u16 a1, .int .u8 a2] rfl (by (try simp only [List.map_toArray, List.map_cons, List.map_nil]); first | done | rfl | (simp only [List.length_drop, List.length_take]; rfl)) ?_; (with_reducible refine (wide_Adc.calls a0 a1 a2 t145 t146 _ A9.out).mono ?_); rintro e w' ⟨rfl, ⟨nd, rfl⟩⟩; refine ⟨_, rfl, ?_⟩) | ((with_reducible refine gate_callee (f := 26) rfl ?_); refine goesL_ (some 52) rfl rfl Try.func26 (by kernel_rfl) rfl #[.int .u16 a0, .int .u16 a1, .int .u8 a2] rfl (by (try simp only [List.map_toArray, List.map_cons, List.map_nil]); first | done | rfl | (simp only [List.length_drop, List.length_take]; rfl)) ?_; (with_reducible refine (pendulumref07_Adc.calls a0 a1 a2 t147 t148 _ A10.out).mono ?_); rintro e w' ⟨rfl, ⟨nd, rfl⟩⟩; refine ⟨_, rfl, ?_⟩) | ((with_reducible refine gate_callee (f := 22) rfl ?_); refine goesL_ (some 59) rfl rfl Try.func22 (by kernel_rfl) rfl #[.int .u16 a0, .int .u16 a1, .int .u8 a2] rfl (by (try simp only [List.map_toArray, List.map_cons, List.map_nil]); first | done | rfl | (simp only [List.length_drop, List.length_take]; rfl)) ?_; (with_reducible refine (wide_Sbc.calls a0 a1 a2 t149 t150 _ A11.out).mono ?_); rintro e w' ⟨rfl, ⟨nd, rfl⟩⟩; refine ⟨_, rfl, ?_⟩) | ((with_reducible refine gate_callee (f := 27) rfl ?_); refine goesL_ (some 66) rfl rfl Try.func27 (by kernel_rfl) rfl #[.int .u16 a0, .int .u16 a1, .int .u8 a2] rfl (by (try simp only [List.map_toArray, List.map_cons, List.map_nil]); first | done | rfl | (simp only [List.length_drop, List.length_take]; rfl)) ?_; (with_reducible refine (pendulumref07_Sbc.calls a0 a1 a2 t151 t152 _ A12.out).mono ?_); rintro e w' ⟨rfl, ⟨nd, rfl⟩⟩; refine ⟨_, rfl, ?_⟩) | ((with_reducible refine gate_callee (f := 28) rfl ?_); refine goesL_ (some 71) rfl rfl Try.func28 (by kernel_rfl) rfl #[.int .u16 a0] rfl (by (try simp only [List.map_toArray, List.map_cons, List.map_nil]); first | done | rfl | (simp only [List.length_drop, List.length_take]; rfl)) ?_; (with_reducible refine (wide_Split.calls a0 t153 t154 _ A13.out).mono ?_); rintro e w' ⟨rfl, ⟨nd, rfl⟩⟩; refine ⟨_, rfl, ?_⟩) | ((with_reducible refine gate_callee (f := 29) rfl ?_); refine goesL_ (some 76) rfl rfl Try.func29 (by kernel_rfl) rfl #[.int .u16 a0] rfl (by (try simp only [List.map_toArray, List.map_cons, List.map_nil]); first | done | rfl | (simp only [List.length_drop, List.length_take]; rfl)) ?_; (with_reducible refine (pendulumref07_Split.calls a0 t155 t156 _ A14.out).mono ?_); rintro e w' ⟨rfl, ⟨nd, rfl⟩⟩; refine ⟨_, rfl, ?_⟩) | (go_at_call 30; (with_reducible refine (wide_Pair.calls a2 a3 t157 _ A23.out).mono ?_); rintro e w' ⟨rfl, ⟨nd, rfl⟩⟩) | (go_at_call 31; (with_reducible refine (pendulumref07_Pair.calls a2 a3 t158 _ A24.out).mono ?_); rintro e w' ⟨rfl, ⟨nd, rfl⟩⟩) | (go_at_call 32; (with_reducible refine (wide_Signed.calls a3 t159 _ A26.out).mono ?_); rintro e w' ⟨rfl, ⟨nd, rfl⟩⟩) | (go_at_call 33; (with_reducible refine (pendulumref07_Signed.calls a3 t160 _ A27.out).mono ?_); rintro e w' ⟨rfl, ⟨nd, rfl⟩⟩))
                        go_ret
                        exact ⟨by first | rfl | (simp; done) | (simp [*]; done), by repeat (first | exact Drawn0.refl _ | apply Drawn0.step)⟩
                    · rw [if_neg c25] at H
                      have c25b0 : (t157 == t158) = false := beq_eq_false_iff_ne.mpr c25
                      have c25b1 : (t157 != t158) = true := bne_iff_ne.mpr c25
                      obtain rfl := Option.some.inj H
                      go_enter Try.func4, Try.ntmps4
                      go_wp2_with (first | ((with_reducible refine gate_callee (f := 19) rfl ?_); refine goesL_ (some 25) rfl rfl Try.func19 (by kernel_rfl) rfl #[] rfl (by (try simp only [List.map_toArray, List.map_cons, List.map_nil]); first | done | rfl | (simp only [List.length_drop, List.length_take]; rfl)) ?_; (with_reducible refine (pendulumlaw07_lives.calls  true _ A5.out).mono ?_); rintro e w' ⟨rfl, ⟨nd, rfl⟩⟩; refine ⟨_, rfl, ?_⟩) | ((with_reducible refine gate_callee (f := 24) rfl ?_); refine goesL_ (some 31) rfl rfl Try.func24 (by kernel_rfl) rfl #[.int .u16 a0, .int .u16 a1, .int .u8 a2] rfl (by (try simp only [List.map_toArray, List.map_cons, List.map_nil]); first | done | rfl | (simp only [List.length_drop, List.length_take]; rfl)) ?_; (with_reducible refine (wide_Add.calls a0 a1 a2 t141 t142 _ A7.out).mono ?_); rintro e w' ⟨rfl, ⟨nd, rfl⟩⟩; refine ⟨_, rfl, ?_⟩) | ((with_reducible refine gate_callee (f := 25) rfl ?_); refine goesL_ (some 38) rfl rfl Try.func25 (by kernel_rfl) rfl #[.int .u16 a0, .int .u16 a1, .int .u8 a2] rfl (by (try simp only [List.map_toArray, List.map_cons, List.map_nil]); first | done | rfl | (simp only [List.length_drop, List.length_take]; rfl)) ?_; (with_reducible refine (pendulumref07_Add.calls a0 a1 a2 t143 t144 _ A8.out).mono ?_); rintro e w' ⟨rfl, ⟨nd, rfl⟩⟩; refine ⟨_, rfl, ?_⟩) | ((with_reducible refine gate_callee (f := 20) rfl ?_); refine goesL_ (some 45) rfl rfl Try.func20 (by kernel_rfl) rfl #[.int .u16 a0, .int .u16 a1, .int .u8 a2] rfl (by (try simp only [List.map_toArray, List.map_cons, List.map_nil]); first | done | rfl | (simp only [List.length_drop, List.length_take]; rfl)) ?_; (with_reducible refine (wide_Adc.calls a0 a1 a2 t145 t146 _ A9.out).mono ?_); rintro e w' ⟨rfl, ⟨nd, rfl⟩⟩; refine ⟨_, rfl, ?_⟩) | ((with_reducible refine gate_callee (f := 26) rfl ?_); refine goesL_ (some 52) rfl rfl Try.func26 (by kernel_rfl) rfl #[.int .u16 a0, .int .u16 a1, .int .u8 a2] rfl (by (try simp only [List.map_toArray, List.map_cons, List.map_nil]); first | done | rfl | (simp only [List.length_drop, List.length_take]; rfl)) ?_; (with_reducible refine (pendulumref07_Adc.calls a0 a1 a2 t147 t148 _ A10.out).mono ?_); rintro e w' ⟨rfl, ⟨nd, rfl⟩⟩; refine ⟨_, rfl, ?_⟩) | ((with_reducible refine gate_callee (f := 22) rfl ?_); refine goesL_ (some 59) rfl rfl Try.func22 (by kernel_rfl) rfl #[.int .u16 a0, .int .u16 a1, .int .u8 a2] rfl (by (try simp only [List.map_toArray, List.map_cons, List.map_nil]); first | done | rfl | (simp only [List.length_drop, List.length_take]; rfl)) ?_; (with_reducible refine (wide_Sbc.calls a0 a1 a2 t149 t150 _ A11.out).mono ?_); rintro e w' ⟨rfl, ⟨nd, rfl⟩⟩; refine ⟨_, rfl, ?_⟩) | ((with_reducible refine gate_callee (f := 27) rfl ?_); refine goesL_ (some 66) rfl rfl Try.func27 (by kernel_rfl) rfl #[.int .u16 a0, .int .u16 a1, .int .u8 a2] rfl (by (try simp only [List.map_toArray, List.map_cons, List.map_nil]); first | done | rfl | (simp only [List.length_drop, List.length_take]; rfl)) ?_; (with_reducible refine (pendulumref07_Sbc.calls a0 a1 a2 t151 t152 _ A12.out).mono ?_); rintro e w' ⟨rfl, ⟨nd, rfl⟩⟩; refine ⟨_, rfl, ?_⟩) | ((with_reducible refine gate_callee (f := 28) rfl ?_); refine goesL_ (some 71) rfl rfl Try.func28 (by kernel_rfl) rfl #[.int .u16 a0] rfl (by (try simp only [List.map_toArray, List.map_cons, List.map_nil]); first | done | rfl | (simp only [List.length_drop, List.length_take]; rfl)) ?_; (with_reducible refine (wide_Split.calls a0 t153 t154 _ A13.out).mono ?_); rintro e w' ⟨rfl, ⟨nd, rfl⟩⟩; refine ⟨_, rfl, ?_⟩) | ((with_reducible refine gate_callee (f := 29) rfl ?_); refine goesL_ (some 76) rfl rfl Try.func29 (by kernel_rfl) rfl #[.int .u16 a0] rfl (by (try simp only [List.map_toArray, List.map_cons, List.map_nil]); first | done | rfl | (simp only [List.length_drop, List.length_take]; rfl)) ?_; (with_reducible refine (pendulumref07_Split.calls a0 t155 t156 _ A14.out).mono ?_); rintro e w' ⟨rfl, ⟨nd, rfl⟩⟩; refine ⟨_, rfl, ?_⟩) | (go_at_call 30; (with_reducible refine (wide_Pair.calls a2 a3 t157 _ A23.out).mono ?_); rintro e w' ⟨rfl, ⟨nd, rfl⟩⟩) | (go_at_call 31; (with_reducible refine (pendulumref07_Pair.calls a2 a3 t158 _ A24.out).mono ?_); rintro e w' ⟨rfl, ⟨nd, rfl⟩⟩))
                      go_ret
                      exact ⟨by first | rfl | (simp; done) | (simp [*]; done), by repeat (first | exact Drawn0.refl _ | apply Drawn0.step)⟩
                  · rw [if_neg c22] at H
                    have c22b0 : (t154 == t156) = false := beq_eq_false_iff_ne.mpr c22
                    have c22b1 : (t154 != t156) = true := bne_iff_ne.mpr c22
                    obtain rfl := Option.some.inj H
                    go_enter Try.func4, Try.ntmps4
                    go_wp2_with (first | ((with_reducible refine gate_callee (f := 19) rfl ?_); refine goesL_ (some 25) rfl rfl Try.func19 (by kernel_rfl) rfl #[] rfl (by (try simp only [List.map_toArray, List.map_cons, List.map_nil]); first | done | rfl | (simp only [List.length_drop, List.length_take]; rfl)) ?_; (with_reducible refine (pendulumlaw07_lives.calls  true _ A5.out).mono ?_); rintro e w' ⟨rfl, ⟨nd, rfl⟩⟩; refine ⟨_, rfl, ?_⟩) | ((with_reducible refine gate_callee (f := 24) rfl ?_); refine goesL_ (some 31) rfl rfl Try.func24 (by kernel_rfl) rfl #[.int .u16 a0, .int .u16 a1, .int .u8 a2] rfl (by (try simp only [List.map_toArray, List.map_cons, List.map_nil]); first | done | rfl | (simp only [List.length_drop, List.length_take]; rfl)) ?_; (with_reducible refine (wide_Add.calls a0 a1 a2 t141 t142 _ A7.out).mono ?_); rintro e w' ⟨rfl, ⟨nd, rfl⟩⟩; refine ⟨_, rfl, ?_⟩) | ((with_reducible refine gate_callee (f := 25) rfl ?_); refine goesL_ (some 38) rfl rfl Try.func25 (by kernel_rfl) rfl #[.int .u16 a0, .int .u16 a1, .int .u8 a2] rfl (by (try simp only [List.map_toArray, List.map_cons, List.map_nil]); first | done | rfl | (simp only [List.length_drop, List.length_take]; rfl)) ?_; (with_reducible refine (pendulumref07_Add.calls a0 a1 a2 t143 t144 _ A8.out).mono ?_); rintro e w' ⟨rfl, ⟨nd, rfl⟩⟩; refine ⟨_, rfl, ?_⟩) | ((with_reducible refine gate_callee (f := 20) rfl ?_); refine goesL_ (some 45) rfl rfl Try.func20 (by kernel_rfl) rfl #[.int .u16 a0, .int .u16 a1, .int .u8 a2] rfl (by (try simp only [List.map_toArray, List.map_cons, List.map_nil]); first | done | rfl | (simp only [List.length_drop, List.length_take]; rfl)) ?_; (with_reducible refine (wide_Adc.calls a0 a1 a2 t145 t146 _ A9.out).mono ?_); rintro e w' ⟨rfl, ⟨nd, rfl⟩⟩; refine ⟨_, rfl, ?_⟩) | ((with_reducible refine gate_callee (f := 26) rfl ?_); refine goesL_ (some 52) rfl rfl Try.func26 (by kernel_rfl) rfl #[.int .u16 a0, .int .u16 a1, .int .u8 a2] rfl (by (try simp only [List.map_toArray, List.map_cons, List.map_nil]); first | done | rfl | (simp only [List.length_drop, List.length_take]; rfl)) ?_; (with_reducible refine (pendulumref07_Adc.calls a0 a1 a2 t147 t148 _ A10.out).mono ?_); rintro e w' ⟨rfl, ⟨nd, rfl⟩⟩; refine ⟨_, rfl, ?_⟩) | ((with_reducible refine gate_callee (f := 22) rfl ?_); refine goesL_ (some 59) rfl rfl Try.func22 (by kernel_rfl) rfl #[.int .u16 a0, .int .u16 a1, .int .u8 a2] rfl (by (try simp only [List.map_toArray, List.map_cons, List.map_nil]); first | done | rfl | (simp only [List.length_drop, List.length_take]; rfl)) ?_; (with_reducible refine (wide_Sbc.calls a0 a1 a2 t149 t150 _ A11.out).mono ?_); rintro e w' ⟨rfl, ⟨nd, rfl⟩⟩; refine ⟨_, rfl, ?_⟩) | ((with_reducible refine gate_callee (f := 27) rfl ?_); refine goesL_ (some 66) rfl rfl Try.func27 (by kernel_rfl) rfl #[.int .u16 a0, .int .u16 a1, .int .u8 a2] rfl (by (try simp only [List.map_toArray, List.map_cons, List.map_nil]); first | done | rfl | (simp only [List.length_drop, List.length_take]; rfl)) ?_; (with_reducible refine (pendulumref07_Sbc.calls a0 a1 a2 t151 t152 _ A12.out).mono ?_); rintro e w' ⟨rfl, ⟨nd, rfl⟩⟩; refine ⟨_, rfl, ?_⟩) | ((with_reducible refine gate_callee (f := 28) rfl ?_); refine goesL_ (some 71) rfl rfl Try.func28 (by kernel_rfl) rfl #[.int .u16 a0] rfl (by (try simp only [List.map_toArray, List.map_cons, List.map_nil]); first | done | rfl | (simp only [List.length_drop, List.length_take]; rfl)) ?_; (with_reducible refine (wide_Split.calls a0 t153 t154 _ A13.out).mono ?_); rintro e w' ⟨rfl, ⟨nd, rfl⟩⟩; refine ⟨_, rfl, ?_⟩) | ((with_reducible refine gate_callee (f := 29) rfl ?_); refine goesL_ (some 76) rfl rfl Try.func29 (by kernel_rfl) rfl #[.int .u16 a0] rfl (by (try simp only [List.map_toArray, List.map_cons, List.map_nil]); first | done | rfl | (simp only [List.length_drop, List.length_take]; rfl)) ?_; (with_reducible refine (pendulumref07_Split.calls a0 t155 t156 _ A14.out).mono ?_); rintro e w' ⟨rfl, ⟨nd, rfl⟩⟩; refine ⟨_, rfl, ?_⟩))
                    go_ret
                    exact ⟨by first | rfl | (simp; done) | (simp [*]; done), by repeat (first | exact Drawn0.refl _ | apply Drawn0.step)⟩
                · rw [if_neg c21] at H
                  have c21b0 : (t153 == t155) = false := beq_eq_false_iff_ne.mpr c21
                  have c21b1 : (t153 != t155) = true := bne_iff_ne.mpr c21
                  obtain rfl := Option.some.inj H
                  go_enter Try.func4, Try.ntmps4
                  go_wp2_with (first | ((with_reducible refine gate_callee (f := 19) rfl ?_); refine goesL_ (some 25) rfl rfl Try.func19 (by kernel_rfl) rfl #[] rfl (by (try simp only [List.map_toArray, List.map_cons, List.map_nil]); first | done | rfl | (simp only [List.length_drop, List.length_take]; rfl)) ?_; (with_reducible refine (pendulumlaw07_lives.calls  true _ A5.out).mono ?_); rintro e w' ⟨rfl, ⟨nd, rfl⟩⟩; refine ⟨_, rfl, ?_⟩) | ((with_reducible refine gate_callee (f := 24) rfl ?_); refine goesL_ (some 31) rfl rfl Try.func24 (by kernel_rfl) rfl #[.int .u16 a0, .int .u16 a1, .int .u8 a2] rfl (by (try simp only [List.map_toArray, List.map_cons, List.map_nil]); first | done | rfl | (simp only [List.length_drop, List.length_take]; rfl)) ?_; (with_reducible refine (wide_Add.calls a0 a1 a2 t141 t142 _ A7.out).mono ?_); rintro e w' ⟨rfl, ⟨nd, rfl⟩⟩; refine ⟨_, rfl, ?_⟩) | ((with_reducible refine gate_callee (f := 25) rfl ?_); refine goesL_ (some 38) rfl rfl Try.func25 (by kernel_rfl) rfl #[.int .u16 a0, .int .u16 a1, .int .u8 a2] rfl (by (try simp only [List.map_toArray, List.map_cons, List.map_nil]); first | done | rfl | (simp only [List.length_drop, List.length_take]; rfl)) ?_; (with_reducible refine (pendulumref07_Add.calls a0 a1 a2 t143 t144 _ A8.out).mono ?_); rintro e w' ⟨rfl, ⟨nd, rfl⟩⟩; refine ⟨_, rfl, ?_⟩) | ((with_reducible refine gate_callee (f := 20) rfl ?_); refine goesL_ (some 45) rfl rfl Try.func20 (by kernel_rfl) rfl #[.int .u16 a0, .int .u16 a1, .int .u8 a2] rfl (by (try simp only [List.map_toArray, List.map_cons, List.map_nil]); first | done | rfl | (simp only [List.length_drop, List.length_take]; rfl)) ?_; (with_reducible refine (wide_Adc.calls a0 a1 a2 t145 t146 _ A9.out).mono ?_); rintro e w' ⟨rfl, ⟨nd, rfl⟩⟩; refine ⟨_, rfl, ?_⟩) | ((with_reducible refine gate_callee (f := 26) rfl ?_); refine goesL_ (some 52) rfl rfl Try.func26 (by kernel_rfl) rfl #[.int .u16 a0, .int .u16 a1, .int .u8 a2] rfl (by (try simp only [List.map_toArray, List.map_cons, List.map_nil]); first | done | rfl | (simp only [List.length_drop, List.length_take]; rfl)) ?_; (with_reducible refine (pendulumref07_Adc.calls a0 a1 a2 t147 t148 _ A10.out).mono ?_); rintro e w' ⟨rfl, ⟨nd, rfl⟩⟩; refine ⟨_, rfl, ?_⟩) | ((with_reducible refine gate_callee (f := 22) rfl ?_); refine goesL_ (some 59) rfl rfl Try.func22 (by kernel_rfl) rfl #[.int .u16 a0, .int .u16 a1, .int .u8 a2] rfl (by (try simp only [List.map_toArray, List.map_cons, List.map_nil]); first | done | rfl | (simp only [List.length_drop, List.length_take]; rfl)) ?_; (with_reducible refine (wide_Sbc.calls a0 a1 a2 t149 t150 _ A11.out).mono ?_); rintro e w' ⟨rfl, ⟨nd, rfl⟩⟩; refine ⟨_, rfl, ?_⟩) | ((with_reducible refine gate_callee (f := 27) rfl ?_); refine goesL_ (some 66) rfl rfl Try.func27 (by kernel_rfl) rfl #[.int .u16 a0, .int .u16 a1, .int .u8 a2] rfl (by (try simp only [List.map_toArray, List.map_cons, List.map_nil]); first | done | rfl | (simp only [List.length_drop, List.length_take]; rfl)) ?_; (with_reducible refine (pendulumref07_Sbc.calls a0 a1 a2 t151 t152 _ A12.out).mono ?_); rintro e w' ⟨rfl, ⟨nd, rfl⟩⟩; refine ⟨_, rfl, ?_⟩) | ((with_reducible refine gate_callee (f := 28) rfl ?_); refine goesL_ (some 71) rfl rfl Try.func28 (by kernel_rfl) rfl #[.int .u16 a0] rfl (by (try simp only [List.map_toArray, List.map_cons, List.map_nil]); first | done | rfl | (simp only [List.length_drop, List.length_take]; rfl)) ?_; (with_reducible refine (wide_Split.calls a0 t153 t154 _ A13.out).mono ?_); rintro e w' ⟨rfl, ⟨nd, rfl⟩⟩; refine ⟨_, rfl, ?_⟩) | ((with_reducible refine gate_callee (f := 29) rfl ?_); refine goesL_ (some 76) rfl rfl Try.func29 (by kernel_rfl) rfl #[.int .u16 a0] rfl (by (try simp only [List.map_toArray, List.map_cons, List.map_nil]); first | done | rfl | (simp only [List.length_drop, List.length_take]; rfl)) ?_; (with_reducible refine (pendulumref07_Split.calls a0 t155 t156 _ A14.out).mono ?_); rintro e w' ⟨rfl, ⟨nd, rfl⟩⟩; refine ⟨_, rfl, ?_⟩))
                  go_ret
                  exact ⟨by first | rfl | (simp; done) | (simp [*]; done), by repeat (first | exact Drawn0.refl _ | apply Drawn0.step)⟩
              · rw [if_neg c20] at H
                have c20b0 : (t150 == t152) = false := beq_eq_false_iff_ne.mpr c20
                have c20b1 : (t150 != t152) = true := bne_iff_ne.mpr c20
                obtain rfl := Option.some.inj H
                go_enter Try.func4, Try.ntmps4
                go_wp2_with (first | ((with_reducible refine gate_callee (f := 19) rfl ?_); refine goesL_ (some 25) rfl rfl Try.func19 (by kernel_rfl) rfl #[] rfl (by (try simp only [List.map_toArray, List.map_cons, List.map_nil]); first | done | rfl | (simp only [List.length_drop, List.length_take]; rfl)) ?_; (with_reducible refine (pendulumlaw07_lives.calls  true _ A5.out).mono ?_); rintro e w' ⟨rfl, ⟨nd, rfl⟩⟩; refine ⟨_, rfl, ?_⟩) | ((with_reducible refine gate_callee (f := 24) rfl ?_); refine goesL_ (some 31) rfl rfl Try.func24 (by kernel_rfl) rfl #[.int .u16 a0, .int .u16 a1, .int .u8 a2] rfl (by (try simp only [List.map_toArray, List.map_cons, List.map_nil]); first | done | rfl | (simp only [List.length_drop, List.length_take]; rfl)) ?_; (with_reducible refine (wide_Add.calls a0 a1 a2 t141 t142 _ A7.out).mono ?_); rintro e w' ⟨rfl, ⟨nd, rfl⟩⟩; refine ⟨_, rfl, ?_⟩) | ((with_reducible refine gate_callee (f := 25) rfl ?_); refine goesL_ (some 38) rfl rfl Try.func25 (by kernel_rfl) rfl #[.int .u16 a0, .int .u16 a1, .int .u8 a2] rfl (by (try simp only [List.map_toArray, List.map_cons, List.map_nil]); first | done | rfl | (simp only [List.length_drop, List.length_take]; rfl)) ?_; (with_reducible refine (pendulumref07_Add.calls a0 a1 a2 t143 t144 _ A8.out).mono ?_); rintro e w' ⟨rfl, ⟨nd, rfl⟩⟩; refine ⟨_, rfl, ?_⟩) | ((with_reducible refine gate_callee (f := 20) rfl ?_); refine goesL_ (some 45) rfl rfl Try.func20 (by kernel_rfl) rfl #[.int .u16 a0, .int .u16 a1, .int .u8 a2] rfl (by (try simp only [List.map_toArray, List.map_cons, List.map_nil]); first | done | rfl | (simp only [List.length_drop, List.length_take]; rfl)) ?_; (with_reducible refine (wide_Adc.calls a0 a1 a2 t145 t146 _ A9.out).mono ?_); rintro e w' ⟨rfl, ⟨nd, rfl⟩⟩; refine ⟨_, rfl, ?_⟩) | ((with_reducible refine gate_callee (f := 26) rfl ?_); refine goesL_ (some 52) rfl rfl Try.func26 (by kernel_rfl) rfl #[.int .u16 a0, .int .u16 a1, .int .u8 a2] rfl (by (try simp only [List.map_toArray, List.map_cons, List.map_nil]); first | done | rfl | (simp only [List.length_drop, List.length_take]; rfl)) ?_; (with_reducible refine (pendulumref07_Adc.calls a0 a1 a2 t147 t148 _ A10.out).mono ?_); rintro e w' ⟨rfl, ⟨nd, rfl⟩⟩; refine ⟨_, rfl, ?_⟩) | ((with_reducible refine gate_callee (f := 22) rfl ?_); refine goesL_ (some 59) rfl rfl Try.func22 (by kernel_rfl) rfl #[.int .u16 a0, .int .u16 a1, .int .u8 a2] rfl (by (try simp only [List.map_toArray, List.map_cons, List.map_nil]); first | done | rfl | (simp only [List.length_drop, List.length_take]; rfl)) ?_; (with_reducible refine (wide_Sbc.calls a0 a1 a2 t149 t150 _ A11.out).mono ?_); rintro e w' ⟨rfl, ⟨nd, rfl⟩⟩; refine ⟨_, rfl, ?_⟩) | ((with_reducible refine gate_callee (f := 27) rfl ?_); refine goesL_ (some 66) rfl rfl Try.func27 (by kernel_rfl) rfl #[.int .u16 a0, .int .u16 a1, .int .u8 a2] rfl (by (try simp only [List.map_toArray, List.map_cons, List.map_nil]); first | done | rfl | (simp only [List.length_drop, List.length_take]; rfl)) ?_; (with_reducible refine (pendulumref07_Sbc.calls a0 a1 a2 t151 t152 _ A12.out).mono ?_); rintro e w' ⟨rfl, ⟨nd, rfl⟩⟩; refine ⟨_, rfl, ?_⟩) | ((with_reducible refine gate_callee (f := 28) rfl ?_); refine goesL_ (some 71) rfl rfl Try.func28 (by kernel_rfl) rfl #[.int .u16 a0] rfl (by (try simp only [List.map_toArray, List.map_cons, List.map_nil]); first | done | rfl | (simp only [List.length_drop, List.length_take]; rfl)) ?_; (with_reducible refine (wide_Split.calls a0 t153 t154 _ A13.out).mono ?_); rintro e w' ⟨rfl, ⟨nd, rfl⟩⟩; refine ⟨_, rfl, ?_⟩) | ((with_reducible refine gate_callee (f := 29) rfl ?_); refine goesL_ (some 76) rfl rfl Try.func29 (by kernel_rfl) rfl #[.int .u16 a0] rfl (by (try simp only [List.map_toArray, List.map_cons, List.map_nil]); first | done | rfl | (simp only [List.length_drop, List.length_take]; rfl)) ?_; (with_reducible refine (pendulumref07_Split.calls a0 t155 t156 _ A14.out).mono ?_); rintro e w' ⟨rfl, ⟨nd, rfl⟩⟩; refine ⟨_, rfl, ?_⟩))
                go_ret
                exact ⟨by first | rfl | (simp; done) | (simp [*]; done), by repeat (first | exact Drawn0.refl _ | apply Drawn0.step)⟩
            · rw [if_neg c19] at H
              have c19b0 : (t149 == t151) = false := beq_eq_false_iff_ne.mpr c19
              have c19b1 : (t149 != t151) = true := bne_iff_ne.mpr c19
              obtain rfl := Option.some.inj H
              go_enter Try.func4, Try.ntmps4
              go_wp2_with (first | ((with_reducible refine gate_callee (f := 19) rfl ?_); refine goesL_ (some 25) rfl rfl Try.func19 (by kernel_rfl) rfl #[] rfl (by (try simp only [List.map_toArray, List.map_cons, List.map_nil]); first | done | rfl | (simp only [List.length_drop, List.length_take]; rfl)) ?_; (with_reducible refine (pendulumlaw07_lives.calls  true _ A5.out).mono ?_); rintro e w' ⟨rfl, ⟨nd, rfl⟩⟩; refine ⟨_, rfl, ?_⟩) | ((with_reducible refine gate_callee (f := 24) rfl ?_); refine goesL_ (some 31) rfl rfl Try.func24 (by kernel_rfl) rfl #[.int .u16 a0, .int .u16 a1, .int .u8 a2] rfl (by (try simp only [List.map_toArray, List.map_cons, List.map_nil]); first | done | rfl | (simp only [List.length_drop, List.length_take]; rfl)) ?_; (with_reducible refine (wide_Add.calls a0 a1 a2 t141 t142 _ A7.out).mono ?_); rintro e w' ⟨rfl, ⟨nd, rfl⟩⟩; refine ⟨_, rfl, ?_⟩) | ((with_reducible refine gate_callee (f := 25) rfl ?_); refine goesL_ (some 38) rfl rfl Try.func25 (by kernel_rfl) rfl #[.int .u16 a0, .int .u16 a1, .int .u8 a2] rfl (by (try simp only [List.map_toArray, List.map_cons, List.map_nil]); first | done | rfl | (simp only [List.length_drop, List.length_take]; rfl)) ?_; (with_reducible refine (pendulumref07_Add.calls a0 a1 a2 t143 t144 _ A8.out).mono ?_); rintro e w' ⟨rfl, ⟨nd, rfl⟩⟩; refine ⟨_, rfl, ?_⟩) | ((with_reducible refine gate_callee (f := 20) rfl ?_); refine goesL_ (some 45) rfl rfl Try.func20 (by kernel_rfl) rfl #[.int .u16 a0, .int .u16 a1, .int .u8 a2] rfl (by (try simp only [List.map_toArray, List.map_cons, List.map_nil]); first | done | rfl | (simp only [List.length_drop, List.length_take]; rfl)) ?_; (with_reducible refine (wide_Adc.calls a0 a1 a2 t145 t146 _ A9.out).mono ?_); rintro e w' ⟨rfl, ⟨nd, rfl⟩⟩; refine ⟨_, rfl, ?_⟩) | ((with_reducible refine gate_callee (f := 26) rfl ?_); refine goesL_ (some 52) rfl rfl Try.func26 (by kernel_rfl) rfl #[.int .u16 a0, .int .u16 a1, .int .u8 a2] rfl (by (try simp only [List.map_toArray, List.map_cons, List.map_nil]); first | done | rfl | (simp only [List.length_drop, List.length_take]; rfl)) ?_; (with_reducible refine (pendulumref07_Adc.calls a0 a1 a2 t147 t148 _ A10.out).mono ?_); rintro e w' ⟨rfl, ⟨nd, rfl⟩⟩; refine ⟨_, rfl, ?_⟩) | ((with_reducible refine gate_callee (f := 22) rfl ?_); refine goesL_ (some 59) rfl rfl Try.func22 (by kernel_rfl) rfl #[.int .u16 a0, .int .u16 a1, .int .u8 a2] rfl (by (try simp only [List.map_toArray, List.map_cons, List.map_nil]); first | done | rfl | (simp only [List.length_drop, List.length_take]; rfl)) ?_; (with_reducible refine (wide_Sbc.calls a0 a1 a2 t149 t150 _ A11.out).mono ?_); rintro e w' ⟨rfl, ⟨nd, rfl⟩⟩; refine ⟨_, rfl, ?_⟩) | ((with_reducible refine gate_callee (f := 27) rfl ?_); refine goesL_ (some 66) rfl rfl Try.func27 (by kernel_rfl) rfl #[.int .u16 a0, .int .u16 a1, .int .u8 a2] rfl (by (try simp only [List.map_toArray, List.map_cons, List.map_nil]); first | done | rfl | (simp only [List.length_drop, List.length_take]; rfl)) ?_; (with_reducible refine (pendulumref07_Sbc.calls a0 a1 a2 t151 t152 _ A12.out).mono ?_); rintro e w' ⟨rfl, ⟨nd, rfl⟩⟩; refine ⟨_, rfl, ?_⟩) | ((with_reducible refine gate_callee (f := 28) rfl ?_); refine goesL_ (some 71) rfl rfl Try.func28 (by kernel_rfl) rfl #[.int .u16 a0] rfl (by (try simp only [List.map_toArray, List.map_cons, List.map_nil]); first | done | rfl | (simp only [List.length_drop, List.length_take]; rfl)) ?_; (with_reducible refine (wide_Split.calls a0 t153 t154 _ A13.out).mono ?_); rintro e w' ⟨rfl, ⟨nd, rfl⟩⟩; refine ⟨_, rfl, ?_⟩) | ((with_reducible refine gate_callee (f := 29) rfl ?_); refine goesL_ (some 76) rfl rfl Try.func29 (by kernel_rfl) rfl #[.int .u16 a0] rfl (by (try simp only [List.map_toArray, List.map_cons, List.map_nil]); first | done | rfl | (simp only [List.length_drop, List.length_take]; rfl)) ?_; (with_reducible refine (pendulumref07_Split.calls a0 t155 t156 _ A14.out).mono ?_); rintro e w' ⟨rfl, ⟨nd, rfl⟩⟩; refine ⟨_, rfl, ?_⟩))
              go_ret
              exact ⟨by first | rfl | (simp; done) | (simp [*]; done), by repeat (first | exact Drawn0.refl _ | apply Drawn0.step)⟩
          · rw [if_neg c18] at H
            have c18b0 : (t146 == t148) = false := beq_eq_false_iff_ne.mpr c18
            have c18b1 : (t146 != t148) = true := bne_iff_ne.mpr c18
            obtain rfl := Option.some.inj H
            go_enter Try.func4, Try.ntmps4
            go_wp2_with (first | ((with_reducible refine gate_callee (f := 19) rfl ?_); refine goesL_ (some 25) rfl rfl Try.func19 (by kernel_rfl) rfl #[] rfl (by (try simp only [List.map_toArray, List.map_cons, List.map_nil]); first | done | rfl | (simp only [List.length_drop, List.length_take]; rfl)) ?_; (with_reducible refine (pendulumlaw07_lives.calls  true _ A5.out).mono ?_); rintro e w' ⟨rfl, ⟨nd, rfl⟩⟩; refine ⟨_, rfl, ?_⟩) | ((with_reducible refine gate_callee (f := 24) rfl ?_); refine goesL_ (some 31) rfl rfl Try.func24 (by kernel_rfl) rfl #[.int .u16 a0, .int .u16 a1, .int .u8 a2] rfl (by (try simp only [List.map_toArray, List.map_cons, List.map_nil]); first | done | rfl | (simp only [List.length_drop, List.length_take]; rfl)) ?_; (with_reducible refine (wide_Add.calls a0 a1 a2 t141 t142 _ A7.out).mono ?_); rintro e w' ⟨rfl, ⟨nd, rfl⟩⟩; refine ⟨_, rfl, ?_⟩) | ((with_reducible refine gate_callee (f := 25) rfl ?_); refine goesL_ (some 38) rfl rfl Try.func25 (by kernel_rfl) rfl #[.int .u16 a0, .int .u16 a1, .int .u8 a2] rfl (by (try simp only [List.map_toArray, List.map_cons, List.map_nil]); first | done | rfl | (simp only [List.length_drop, List.length_take]; rfl)) ?_; (with_reducible refine (pendulumref07_Add.calls a0 a1 a2 t143 t144 _ A8.out).mono ?_); rintro e w' ⟨rfl, ⟨nd, rfl⟩⟩; refine ⟨_, rfl, ?_⟩) | ((with_reducible refine gate_callee (f := 20) rfl ?_); refine goesL_ (some 45) rfl rfl Try.func20 (by kernel_rfl) rfl #[.int .u16 a0, .int .u16 a1, .int .u8 a2] rfl (by (try simp only [List.map_toArray, List.map_cons, List.map_nil]); first | done | rfl | (simp only [List.length_drop, List.length_take]; rfl)) ?_; (with_reducible refine (wide_Adc.calls a0 a1 a2 t145 t146 _ A9.out).mono ?_); rintro e w' ⟨rfl, ⟨nd, rfl⟩⟩; refine ⟨_, rfl, ?_⟩) | ((with_reducible refine gate_callee (f := 26) rfl ?_); refine goesL_ (some 52) rfl rfl Try.func26 (by kernel_rfl) rfl #[.int .u16 a0, .int .u16 a1, .int .u8 a2] rfl (by (try simp only [List.map_toArray, List.map_cons, List.map_nil]); first | done | rfl | (simp only [List.length_drop, List.length_take]; rfl)) ?_; (with_reducible refine (pendulumref07_Adc.calls a0 a1 a2 t147 t148 _ A10.out).mono ?_); rintro e w' ⟨rfl, ⟨nd, rfl⟩⟩; refine ⟨_, rfl, ?_⟩) | ((with_reducible refine gate_callee (f := 22) rfl ?_); refine goesL_ (some 59) rfl rfl Try.func22 (by kernel_rfl) rfl #[.int .u16 a0, .int .u16 a1, .int .u8 a2] rfl (by (try simp only [List.map_toArray, List.map_cons, List.map_nil]); first | done | rfl | (simp only [List.length_drop, List.length_take]; rfl)) ?_; (with_reducible refine (wide_Sbc.calls a0 a1 a2 t149 t150 _ A11.out).mono ?_); rintro e w' ⟨rfl, ⟨nd, rfl⟩⟩; refine ⟨_, rfl, ?_⟩) | ((with_reducible refine gate_callee (f := 27) rfl ?_); refine goesL_ (some 66) rfl rfl Try.func27 (by kernel_rfl) rfl #[.int .u16 a0, .int .u16 a1, .int .u8 a2] rfl (by (try simp only [List.map_toArray, List.map_cons, List.map_nil]); first | done | rfl | (simp only [List.length_drop, List.length_take]; rfl)) ?_; (with_reducible refine (pendulumref07_Sbc.calls a0 a1 a2 t151 t152 _ A12.out).mono ?_); rintro e w' ⟨rfl, ⟨nd, rfl⟩⟩; refine ⟨_, rfl, ?_⟩) | ((with_reducible refine gate_callee (f := 28) rfl ?_); refine goesL_ (some 71) rfl rfl Try.func28 (by kernel_rfl) rfl #[.int .u16 a0] rfl (by (try simp only [List.map_toArray, List.map_cons, List.map_nil]); first | done | rfl | (simp only [List.length_drop, List.length_take]; rfl)) ?_; (with_reducible refine (wide_Split.calls a0 t153 t154 _ A13.out).mono ?_); rintro e w' ⟨rfl, ⟨nd, rfl⟩⟩; refine ⟨_, rfl, ?_⟩) | ((with_reducible refine gate_callee (f := 29) rfl ?_); refine goesL_ (some 76) rfl rfl Try.func29 (by kernel_rfl) rfl #[.int .u16 a0] rfl (by (try simp only [List.map_toArray, List.map_cons, List.map_nil]); first | done | rfl | (simp only [List.length_drop, List.length_take]; rfl)) ?_; (with_reducible refine (pendulumref07_Split.calls a0 t155 t156 _ A14.out).mono ?_); rintro e w' ⟨rfl, ⟨nd, rfl⟩⟩; refine ⟨_, rfl, ?_⟩))
            go_ret
            exact ⟨by first | rfl | (simp; done) | (simp [*]; done), by repeat (first | exact Drawn0.refl _ | apply Drawn0.step)⟩
        · rw [if_neg c17] at H
          have c17b0 : (t145 == t147) = false := beq_eq_false_iff_ne.mpr c17
          have c17b1 : (t145 != t147) = true := bne_iff_ne.mpr c17
          obtain rfl := Option.some.inj H
          go_enter Try.func4, Try.ntmps4
          go_wp2_with (first | ((with_reducible refine gate_callee (f := 19) rfl ?_); refine goesL_ (some 25) rfl rfl Try.func19 (by kernel_rfl) rfl #[] rfl (by (try simp only [List.map_toArray, List.map_cons, List.map_nil]); first | done | rfl | (simp only [List.length_drop, List.length_take]; rfl)) ?_; (with_reducible refine (pendulumlaw07_lives.calls  true _ A5.out).mono ?_); rintro e w' ⟨rfl, ⟨nd, rfl⟩⟩; refine ⟨_, rfl, ?_⟩) | ((with_reducible refine gate_callee (f := 24) rfl ?_); refine goesL_ (some 31) rfl rfl Try.func24 (by kernel_rfl) rfl #[.int .u16 a0, .int .u16 a1, .int .u8 a2] rfl (by (try simp only [List.map_toArray, List.map_cons, List.map_nil]); first | done | rfl | (simp only [List.length_drop, List.length_take]; rfl)) ?_; (with_reducible refine (wide_Add.calls a0 a1 a2 t141 t142 _ A7.out).mono ?_); rintro e w' ⟨rfl, ⟨nd, rfl⟩⟩; refine ⟨_, rfl, ?_⟩) | ((with_reducible refine gate_callee (f := 25) rfl ?_); refine goesL_ (some 38) rfl rfl Try.func25 (by kernel_rfl) rfl #[.int .u16 a0, .int .u16 a1, .int .u8 a2] rfl (by (try simp only [List.map_toArray, List.map_cons, List.map_nil]); first | done | rfl | (simp only [List.length_drop, List.length_take]; rfl)) ?_; (with_reducible refine (pendulumref07_Add.calls a0 a1 a2 t143 t144 _ A8.out).mono ?_); rintro e w' ⟨rfl, ⟨nd, rfl⟩⟩; refine ⟨_, rfl, ?_⟩) | ((with_reducible refine gate_callee (f := 20) rfl ?_); refine goesL_ (some 45) rfl rfl Try.func20 (by kernel_rfl) rfl #[.int .u16 a0, .int .u16 a1, .int .u8 a2] rfl (by (try simp only [List.map_toArray, List.map_cons, List.map_nil]); first | done | rfl | (simp only [List.length_drop, List.length_take]; rfl)) ?_; (with_reducible refine (wide_Adc.calls a0 a1 a2 t145 t146 _ A9.out).mono ?_); rintro e w' ⟨rfl, ⟨nd, rfl⟩⟩; refine ⟨_, rfl, ?_⟩) | ((with_reducible refine gate_callee (f := 26) rfl ?_); refine goesL_ (some 52) rfl rfl Try.func26 (by kernel_rfl) rfl #[.int .u16 a0, .int .u16 a1, .int .u8 a2] rfl (by (try simp only [List.map_toArray, List.map_cons, List.map_nil]); first | done | rfl | (simp only [List.length_drop, List.length_take]; rfl)) ?_; (with_reducible refine (pendulumref07_Adc.calls a0 a1 a2 t147 t148 _ A10.out).mono ?_); rintro e w' ⟨rfl, ⟨nd, rfl⟩⟩; refine ⟨_, rfl, ?_⟩) | ((with_reducible refine gate_callee (f := 22) rfl ?_); refine goesL_ (some 59) rfl rfl Try.func22 (by kernel_rfl) rfl #[.int .u16 a0, .int .u16 a1, .int .u8 a2] rfl (by (try simp only [List.map_toArray, List.map_cons, List.map_nil]); first | done | rfl | (simp only [List.length_drop, List.length_take]; rfl)) ?_; (with_reducible refine (wide_Sbc.calls a0 a1 a2 t149 t150 _ A11.out).mono ?_); rintro e w' ⟨rfl, ⟨nd, rfl⟩⟩; refine ⟨_, rfl, ?_⟩) | ((with_reducible refine gate_callee (f := 27) rfl ?_); refine goesL_ (some 66) rfl rfl Try.func27 (by kernel_rfl) rfl #[.int .u16 a0, .int .u16 a1, .int .u8 a2] rfl (by (try simp only [List.map_toArray, List.map_cons, List.map_nil]); first | done | rfl | (simp only [List.length_drop, List.length_take]; rfl)) ?_; (with_reducible refine (pendulumref07_Sbc.calls a0 a1 a2 t151 t152 _ A12.out).mono ?_); rintro e w' ⟨rfl, ⟨nd, rfl⟩⟩; refine ⟨_, rfl, ?_⟩) | ((with_reducible refine gate_callee (f := 28) rfl ?_); refine goesL_ (some 71) rfl rfl Try.func28 (by kernel_rfl) rfl #[.int .u16 a0] rfl (by (try simp only [List.map_toArray, List.map_cons, List.map_nil]); first | done | rfl | (simp only [List.length_drop, List.length_take]; rfl)) ?_; (with_reducible refine (wide_Split.calls a0 t153 t154 _ A13.out).mono ?_); rintro e w' ⟨rfl, ⟨nd, rfl⟩⟩; refine ⟨_, rfl, ?_⟩) | ((with_reducible refine gate_callee (f := 29) rfl ?_); refine goesL_ (some 76) rfl rfl Try.func29 (by kernel_rfl) rfl #[.int .u16 a0] rfl (by (try simp only [List.map_toArray, List.map_cons, List.map_nil]); first | done | rfl | (simp only [List.length_drop, List.length_take]; rfl)) ?_; (with_reducible refine (pendulumref07_Split.calls a0 t155 t156 _ A14.out).mono ?_); rintro e w' ⟨rfl, ⟨nd, rfl⟩⟩; refine ⟨_, rfl, ?_⟩))
          go_ret
          exact ⟨by first | rfl | (simp; done) | (simp [*]; done), by repeat (first | exact Drawn0.refl _ | apply Drawn0.step)⟩
      · rw [if_neg c16] at H
        have c16b0 : (t142 == t144) = false := beq_eq_false_iff_ne.mpr c16
        have c16b1 : (t142 != t144) = true := bne_iff_ne.mpr c16
        obtain rfl := Option.some.inj H
        go_enter Try.func4, Try.ntmps4
        go_wp2_with (first | ((with_reducible refine gate_callee (f := 19) rfl ?_); refine goesL_ (some 25) rfl rfl Try.func19 (by kernel_rfl) rfl #[] rfl (by (try simp only [List.map_toArray, List.map_cons, List.map_nil]); first | done | rfl | (simp only [List.length_drop, List.length_take]; rfl)) ?_; (with_reducible refine (pendulumlaw07_lives.calls  true _ A5.out).mono ?_); rintro e w' ⟨rfl, ⟨nd, rfl⟩⟩; refine ⟨_, rfl, ?_⟩) | ((with_reducible refine gate_callee (f := 24) rfl ?_); refine goesL_ (some 31) rfl rfl Try.func24 (by kernel_rfl) rfl #[.int .u16 a0, .int .u16 a1, .int .u8 a2] rfl (by (try simp only [List.map_toArray, List.map_cons, List.map_nil]); first | done | rfl | (simp only [List.length_drop, List.length_take]; rfl)) ?_; (with_reducible refine (wide_Add.calls a0 a1 a2 t141 t142 _ A7.out).mono ?_); rintro e w' ⟨rfl, ⟨nd, rfl⟩⟩; refine ⟨_, rfl, ?_⟩) | ((with_reducible refine gate_callee (f := 25) rfl ?_); refine goesL_ (some 38) rfl rfl Try.func25 (by kernel_rfl) rfl #[.int .u16 a0, .int .u16 a1, .int .u8 a2] rfl (by (try simp only [List.map_toArray, List.map_cons, List.map_nil]); first | done | rfl | (simp only [List.length_drop, List.length_take]; rfl)) ?_; (with_reducible refine (pendulumref07_Add.calls a0 a1 a2 t143 t144 _ A8.out).mono ?_); rintro e w' ⟨rfl, ⟨nd, rfl⟩⟩; refine ⟨_, rfl, ?_⟩) | ((with_reducible refine gate_callee (f := 20) rfl ?_); refine goesL_ (some 45) rfl rfl Try.func20 (by kernel_rfl) rfl #[.int .u16 a0, .int .u16 a1, .int .u8 a2] rfl (by (try simp only [List.map_toArray, List.map_cons, List.map_nil]); first | done | rfl | (simp only [List.length_drop, List.length_take]; rfl)) ?_; (with_reducible refine (wide_Adc.calls a0 a1 a2 t145 t146 _ A9.out).mono ?_); rintro e w' ⟨rfl, ⟨nd, rfl⟩⟩; refine ⟨_, rfl, ?_⟩) | ((with_reducible refine gate_callee (f := 26) rfl ?_); refine goesL_ (some 52) rfl rfl Try.func26 (by kernel_rfl) rfl #[.int .u16 a0, .int .u16 a1, .int .u8 a2] rfl (by (try simp only [List.map_toArray, List.map_cons, List.map_nil]); first | done | rfl | (simp only [List.length_drop, List.length_take]; rfl)) ?_; (with_reducible refine (pendulumref07_Adc.calls a0 a1 a2 t147 t148 _ A10.out).mono ?_); rintro e w' ⟨rfl, ⟨nd, rfl⟩⟩; refine ⟨_, rfl, ?_⟩) | ((with_reducible refine gate_callee (f := 22) rfl ?_); refine goesL_ (some 59) rfl rfl Try.func22 (by kernel_rfl) rfl #[.int .u16 a0, .int .u16 a1, .int .u8 a2] rfl (by (try simp only [List.map_toArray, List.map_cons, List.map_nil]); first | done | rfl | (simp only [List.length_drop, List.length_take]; rfl)) ?_; (with_reducible refine (wide_Sbc.calls a0 a1 a2 t149 t150 _ A11.out).mono ?_); rintro e w' ⟨rfl, ⟨nd, rfl⟩⟩; refine ⟨_, rfl, ?_⟩) | ((with_reducible refine gate_callee (f := 27) rfl ?_); refine goesL_ (some 66) rfl rfl Try.func27 (by kernel_rfl) rfl #[.int .u16 a0, .int .u16 a1, .int .u8 a2] rfl (by (try simp only [List.map_toArray, List.map_cons, List.map_nil]); first | done | rfl | (simp only [List.length_drop, List.length_take]; rfl)) ?_; (with_reducible refine (pendulumref07_Sbc.calls a0 a1 a2 t151 t152 _ A12.out).mono ?_); rintro e w' ⟨rfl, ⟨nd, rfl⟩⟩; refine ⟨_, rfl, ?_⟩) | ((with_reducible refine gate_callee (f := 28) rfl ?_); refine goesL_ (some 71) rfl rfl Try.func28 (by kernel_rfl) rfl #[.int .u16 a0] rfl (by (try simp only [List.map_toArray, List.map_cons, List.map_nil]); first | done | rfl | (simp only [List.length_drop, List.length_take]; rfl)) ?_; (with_reducible refine (wide_Split.calls a0 t153 t154 _ A13.out).mono ?_); rintro e w' ⟨rfl, ⟨nd, rfl⟩⟩; refine ⟨_, rfl, ?_⟩) | ((with_reducible refine gate_callee (f := 29) rfl ?_); refine goesL_ (some 76) rfl rfl Try.func29 (by kernel_rfl) rfl #[.int .u16 a0] rfl (by (try simp only [List.map_toArray, List.map_cons, List.map_nil]); first | done | rfl | (simp only [List.length_drop, List.length_take]; rfl)) ?_; (with_reducible refine (pendulumref07_Split.calls a0 t155 t156 _ A14.out).mono ?_); rintro e w' ⟨rfl, ⟨nd, rfl⟩⟩; refine ⟨_, rfl, ?_⟩))
        go_ret
        exact ⟨by first | rfl | (simp; done) | (simp [*]; done), by repeat (first | exact Drawn0.refl _ | apply Drawn0.step)⟩
    · rw [if_neg c15] at H
      have c15b0 : (t141 == t143) = false := beq_eq_false_iff_ne.mpr c15
      have c15b1 : (t141 != t143) = true := bne_iff_ne.mpr c15
      obtain rfl := Option.some.inj H
      go_enter Try.func4, Try.ntmps4
      go_wp2_with (first | ((with_reducible refine gate_callee (f := 19) rfl ?_); refine goesL_ (some 25) rfl rfl Try.func19 (by kernel_rfl) rfl #[] rfl (by (try simp only [List.map_toArray, List.map_cons, List.map_nil]); first | done | rfl | (simp only [List.length_drop, List.length_take]; rfl)) ?_; (with_reducible refine (pendulumlaw07_lives.calls  true _ A5.out).mono ?_); rintro e w' ⟨rfl, ⟨nd, rfl⟩⟩; refine ⟨_, rfl, ?_⟩) | ((with_reducible refine gate_callee (f := 24) rfl ?_); refine goesL_ (some 31) rfl rfl Try.func24 (by kernel_rfl) rfl #[.int .u16 a0, .int .u16 a1, .int .u8 a2] rfl (by (try simp only [List.map_toArray, List.map_cons, List.map_nil]); first | done | rfl | (simp only [List.length_drop, List.length_take]; rfl)) ?_; (with_reducible refine (wide_Add.calls a0 a1 a2 t141 t142 _ A7.out).mono ?_); rintro e w' ⟨rfl, ⟨nd, rfl⟩⟩; refine ⟨_, rfl, ?_⟩) | ((with_reducible refine gate_callee (f := 25) rfl ?_); refine goesL_ (some 38) rfl rfl Try.func25 (by kernel_rfl) rfl #[.int .u16 a0, .int .u16 a1, .int .u8 a2] rfl (by (try simp only [List.map_toArray, List.map_cons, List.map_nil]); first | done | rfl | (simp only [List.length_drop, List.length_take]; rfl)) ?_; (with_reducible refine (pendulumref07_Add.calls a0 a1 a2 t143 t144 _ A8.out).mono ?_); rintro e w' ⟨rfl, ⟨nd, rfl⟩⟩; refine ⟨_, rfl, ?_⟩) | ((with_reducible refine gate_callee (f := 20) rfl ?_); refine goesL_ (some 45) rfl rfl Try.func20 (by kernel_rfl) rfl #[.int .u16 a0, .int .u16 a1, .int .u8 a2] rfl (by (try simp only [List.map_toArray, List.map_cons, List.map_nil]); first | done | rfl | (simp only [List.length_drop, List.length_take]; rfl)) ?_; (with_reducible refine (wide_Adc.calls a0 a1 a2 t145 t146 _ A9.out).mono ?_); rintro e w' ⟨rfl, ⟨nd, rfl⟩⟩; refine ⟨_, rfl, ?_⟩) | ((with_reducible refine gate_callee (f := 26) rfl ?_); refine goesL_ (some 52) rfl rfl Try.func26 (by kernel_rfl) rfl #[.int .u16 a0, .int .u16 a1, .int .u8 a2] rfl (by (try simp only [List.map_toArray, List.map_cons, List.map_nil]); first | done | rfl | (simp only [List.length_drop, List.length_take]; rfl)) ?_; (with_reducible refine (pendulumref07_Adc.calls a0 a1 a2 t147 t148 _ A10.out).mono ?_); rintro e w' ⟨rfl, ⟨nd, rfl⟩⟩; refine ⟨_, rfl, ?_⟩) | ((with_reducible refine gate_callee (f := 22) rfl ?_); refine goesL_ (some 59) rfl rfl Try.func22 (by kernel_rfl) rfl #[.int .u16 a0, .int .u16 a1, .int .u8 a2] rfl (by (try simp only [List.map_toArray, List.map_cons, List.map_nil]); first | done | rfl | (simp only [List.length_drop, List.length_take]; rfl)) ?_; (with_reducible refine (wide_Sbc.calls a0 a1 a2 t149 t150 _ A11.out).mono ?_); rintro e w' ⟨rfl, ⟨nd, rfl⟩⟩; refine ⟨_, rfl, ?_⟩) | ((with_reducible refine gate_callee (f := 27) rfl ?_); refine goesL_ (some 66) rfl rfl Try.func27 (by kernel_rfl) rfl #[.int .u16 a0, .int .u16 a1, .int .u8 a2] rfl (by (try simp only [List.map_toArray, List.map_cons, List.map_nil]); first | done | rfl | (simp only [List.length_drop, List.length_take]; rfl)) ?_; (with_reducible refine (pendulumref07_Sbc.calls a0 a1 a2 t151 t152 _ A12.out).mono ?_); rintro e w' ⟨rfl, ⟨nd, rfl⟩⟩; refine ⟨_, rfl, ?_⟩) | ((with_reducible refine gate_callee (f := 28) rfl ?_); refine goesL_ (some 71) rfl rfl Try.func28 (by kernel_rfl) rfl #[.int .u16 a0] rfl (by (try simp only [List.map_toArray, List.map_cons, List.map_nil]); first | done | rfl | (simp only [List.length_drop, List.length_take]; rfl)) ?_; (with_reducible refine (wide_Split.calls a0 t153 t154 _ A13.out).mono ?_); rintro e w' ⟨rfl, ⟨nd, rfl⟩⟩; refine ⟨_, rfl, ?_⟩) | ((with_reducible refine gate_callee (f := 29) rfl ?_); refine goesL_ (some 76) rfl rfl Try.func29 (by kernel_rfl) rfl #[.int .u16 a0] rfl (by (try simp only [List.map_toArray, List.map_cons, List.map_nil]); first | done | rfl | (simp only [List.length_drop, List.length_take]; rfl)) ?_; (with_reducible refine (pendulumref07_Split.calls a0 t155 t156 _ A14.out).mono ?_); rintro e w' ⟨rfl, ⟨nd, rfl⟩⟩; refine ⟨_, rfl, ?_⟩))
      go_ret
      exact ⟨by first | rfl | (simp; done) | (simp [*]; done), by repeat (first | exact Drawn0.refl _ | apply Drawn0.step)⟩
  · replace c6 := Bool.eq_false_iff.mpr c6
    subst c6
    have H1 : (some false) = some r := by rw [if_neg (show ¬ (false = true) by decide)] at H; exact H
    clear H
    have H := H1
    clear H1
    obtain rfl := Option.some.inj H
    go_enter Try.func4, Try.ntmps4
    go_wp2_with (first | ((with_reducible refine gate_callee (f := 19) rfl ?_); refine goesL_ (some 25) rfl rfl Try.func19 (by kernel_rfl) rfl #[] rfl (by (try simp only [List.map_toArray, List.map_cons, List.map_nil]); first | done | rfl | (simp only [List.length_drop, List.length_take]; rfl)) ?_; (with_reducible refine (pendulumlaw07_lives.calls  false _ A5.out).mono ?_); rintro e w' ⟨rfl, ⟨nd, rfl⟩⟩; refine ⟨_, rfl, ?_⟩))
    go_ret
    exact ⟨by first | rfl | (simp; done) | (simp [*]; done), by repeat (first | exact Drawn0.refl _ | apply Drawn0.step)⟩

/-- THE ONE PURE STATEMENT of pendulumlaw07_WideCalls: yours. -/
def pendulumlaw07_WideCalls.Pure : Prop := ∀ (a0 : Int) (a1 : Int) (a2 : Int) (a3 : Int), (Lit.int .u16 a0).wf = true → (Lit.int .u16 a1).wf = true → (Lit.int .u8 a2).wf = true → (Lit.int .u8 a3).wf = true → pendulumlaw07_WideCalls.f a0 a1 a2 a3 = some true
theorem pendulumlaw07_WideCalls.walk (P : pendulumlaw07_WideCalls.Pure) (a0 : Int) (a1 : Int) (a2 : Int) (a3 : Int) (w : World) (w0 : (Lit.int .u16 a0).wf = true) (w1 : (Lit.int .u16 a1).wf = true) (w2 : (Lit.int .u8 a2).wf = true) (w3 : (Lit.int .u8 a3).wf = true) :
    Calls Try.prog 4 #[.int .u16 a0, .int .u16 a1, .int .u8 a2, .int .u8 a3] w fun e w' => e = .returned (.bool true) ∧ Below w.heap.size w w' := by
  have h := P a0 a1 a2 a3 w0 w1 w2 w3
  refine (pendulumlaw07_WideCalls.calls a0 a1 a2 a3 true w h).mono ?_
  rintro e w' ⟨rfl, hd⟩
  exact ⟨rfl, hd.below⟩

end Go.Proofs.Ytpmmneipfmbmlaa.PWideCalls
