-- PRINTED BY print.sh 35421559b90ae4d0a3588c463048766b98c2df88dd9212a6774a882060cdf62d: not written by this session
import Derived.Test.YtpmmneipfmbmlaaPWideBytesx0
namespace Go.Proofs.Ytpmmneipfmbmlaa.PWideBytes
open Go.RowKit Go.Proofs.YtpmmneipfmbmlaaW.PrintWords Go.Proofs.YtpmmneipfmbmlaaW.PrintLast Go.Proofs.YtpmmneipfmbmlaaW.PrintMore
attribute [local go_sem] max2_int min2_int max_two min_two max_three min_three max_four min_four   -- for this text's walks alone
set_option linter.unusedVariables false
set_option linter.unusedSimpArgs false

/-! ### wide_if1: function 81 -/
def wide_if1.f (a0 : Bool) (a1 : Int) : Option (Int) := if a0 = true then (some a1) else (some 0)
set_option maxHeartbeats 8000000 in
set_option maxRecDepth 100000 in
theorem wide_if1.calls (a0 : Bool) (a1 : Int) (r : Int) (w : World) (h : wide_if1.f a0 a1 = some r) :
    Calls Try.prog 81 #[.bool a0, .int .u8 a1] w fun e w' => e = .returned (.int .u8 r) ∧ Drawn0 w w' := by
  have H : (if a0 = true then (some a1) else (some 0)) = some r := h
  clear h
  by_cases c3 : a0 = true
  · subst c3
    have H1 : (some a1) = some r := by rw [if_pos rfl] at H; exact H
    clear H
    have H := H1
    clear H1
    obtain rfl := Option.some.inj H
    go_enter Try.func81, Try.ntmps81
    go_wp2
    go_ret
    exact ⟨by first | rfl | (simp; done) | (simp [*]; done), by repeat (first | exact Drawn0.refl _ | apply Drawn0.step)⟩
  · replace c3 := Bool.eq_false_iff.mpr c3
    subst c3
    have H1 : (some 0) = some r := by rw [if_neg (show ¬ (false = true) by decide)] at H; exact H
    clear H
    have H := H1
    clear H1
    obtain rfl := Option.some.inj H
    go_enter Try.func81, Try.ntmps81
    go_wp2
    go_ret
    exact ⟨by first | rfl | (simp; done) | (simp [*]; done), by repeat (first | exact Drawn0.refl _ | apply Drawn0.step)⟩

/-! ### wide_all: function 80 -/
def wide_all.f (a0 : Int) : Option (Int) := (wide_if1.f (a0 == 0) 64).bind fun t101 => (some (Go.bits .or .u8 (Go.bits .and .u8 ((a0 / 256) % 256) 168) t101))
set_option maxHeartbeats 8000000 in
set_option maxRecDepth 100000 in
theorem wide_all.calls (a0 : Int) (r : Int) (w : World) (h : wide_all.f a0 = some r) :
    Calls Try.prog 80 #[.int .u16 a0] w fun e w' => e = .returned (.int .u8 r) ∧ Drawn0 w w' := by
  have H : ((wide_if1.f (a0 == 0) 64).bind fun t101 => (some (Go.bits .or .u8 (Go.bits .and .u8 ((a0 / 256) % 256) 168) t101))) = some r := h
  clear h
  replace H := Option.bind_eq_some_iff.mp H
  obtain ⟨t101, A20, H⟩ := H
  replace H : (some (Go.bits .or .u8 (Go.bits .and .u8 ((a0 / 256) % 256) 168) t101)) = some r := H
  have A2 := Aside0.mk A20
  clear A20
  obtain rfl := Option.some.inj H
  go_enter Try.func80, Try.ntmps80
  go_wp2_with (first | ((with_reducible refine gate_callee (f := 81) rfl ?_); refine goesL_ (some 9) rfl rfl Try.func81 (by kernel_rfl) rfl #[.bool (a0 == 0), .int .u8 64] rfl (by (try simp only [List.map_toArray, List.map_cons, List.map_nil]); first | done | rfl | (simp only [List.length_drop, List.length_take]; rfl)) ?_; (with_reducible refine (wide_if1.calls (a0 == 0) 64 t101 _ A2.out).mono ?_); rintro e w' ⟨rfl, ⟨nd, rfl⟩⟩; refine ⟨_, rfl, ?_⟩))
  go_ret
  exact ⟨by first | rfl | (simp; done) | (simp [*]; done), by repeat (first | exact Drawn0.refl _ | apply Drawn0.step)⟩

/-! ### wide_Adc: function 20 -/
def wide_Adc.f (a0 : Int) (a1 : Int) (a2 : Int) : Option (Int × Int) := (wide_all.f (IntKind.u16.wrap (wrap64 ((wrap64 ((wrap64 (a0)) + (wrap64 (a1)))) + (wrap64 (Go.bits .and .u8 a2 1)))))).bind fun t102 => ((wide_if1.f (decide ((wrap64 ((wrap64 ((wrap64 (a0)) + (wrap64 (a1)))) + (wrap64 (Go.bits .and .u8 a2 1)))) > 65535)) 1).bind fun t103 => ((wide_if1.f (decide ((wrap64 ((wrap64 ((wrap64 (Go.bits .and .u16 a0 4095)) + (wrap64 (Go.bits .and .u16 a1 4095)))) + (wrap64 (Go.bits .and .u8 a2 1)))) > 4095)) 16).bind fun t104 => (if (wrap64 ((wrap64 ((wrap64 (IntKind.i16.wrap (a0))) + (wrap64 (IntKind.i16.wrap (a1))))) + (wrap64 (Go.bits .and .u8 a2 1)))) < (-32768) then ((wide_if1.f true 4).bind fun t105 => (some (IntKind.u16.wrap (wrap64 ((wrap64 ((wrap64 (a0)) + (wrap64 (a1)))) + (wrap64 (Go.bits .and .u8 a2 1)))), Go.bits .or .u8 (Go.bits .or .u8 (Go.bits .or .u8 t102 t103) t104) t105))) else ((wide_if1.f (decide ((wrap64 ((wrap64 ((wrap64 (IntKind.i16.wrap (a0))) + (wrap64 (IntKind.i16.wrap (a1))))) + (wrap64 (Go.bits .and .u8 a2 1)))) ≥ 32768)) 4).bind fun t106 => (some (IntKind.u16.wrap (wrap64 ((wrap64 ((wrap64 (a0)) + (wrap64 (a1)))) + (wrap64 (Go.bits .and .u8 a2 1)))), Go.bits .or .u8 (Go.bits .or .u8 (Go.bits .or .u8 t102 t103) t104) t106))))))
set_option maxHeartbeats 8000000 in
set_option maxRecDepth 100000 in
theorem wide_Adc.calls (a0 : Int) (a1 : Int) (a2 : Int) (r1 : Int) (r2 : Int) (w : World) (h : wide_Adc.f a0 a1 a2 = some (r1, r2)) :
    Calls Try.prog 20 #[.int .u16 a0, .int .u16 a1, .int .u8 a2] w fun e w' => e = .returned (.tuple #[.int .u16 r1, .int .u8 r2]) ∧ Drawn0 w w' := by
  have H : ((wide_all.f (IntKind.u16.wrap (wrap64 ((wrap64 ((wrap64 (a0)) + (wrap64 (a1)))) + (wrap64 (Go.bits .and .u8 a2 1)))))).bind fun t102 => ((wide_if1.f (decide ((wrap64 ((wrap64 ((wrap64 (a0)) + (wrap64 (a1)))) + (wrap64 (Go.bits .and .u8 a2 1)))) > 65535)) 1).bind fun t103 => ((wide_if1.f (decide ((wrap64 ((wrap64 ((wrap64 (Go.bits .and .u16 a0 4095)) + (wrap64 (Go.bits .and .u16 a1 4095)))) + (wrap64 (Go.bits .and .u8 a2 1)))) > 4095)) 16).bind fun t104 => (if (wrap64 ((wrap64 ((wrap64 (IntKind.i16.wrap (a0))) + (wrap64 (IntKind.i16.wrap (a1))))) + (wrap64 (Go.bits .and .u8 a2 1)))) < (-32768) then ((wide_if1.f true 4).bind fun t105 => (some (IntKind.u16.wrap (wrap64 ((wrap64 ((wrap64 (a0)) + (wrap64 (a1)))) + (wrap64 (Go.bits .and .u8 a2 1)))), Go.bits .or .u8 (Go.bits .or .u8 (Go.bits .or .u8 t102 t103) t104) t105))) else ((wide_if1.f (decide ((wrap64 ((wrap64 ((wrap64 (IntKind.i16.wrap (a0))) + (wrap64 (IntKind.i16.wrap (a1))))) + (wrap64 (Go.bits .and .u8 a2 1)))) ≥ 32768)) 4).bind fun t106 => (some (IntKind.u16.wrap (wrap64 ((wrap64 ((wrap64 (a0)) + (wrap64 (a1)))) + (wrap64 (Go.bits .and .u8 a2 1)))), Go.bits .or .u8 (Go.bits .or .u8 (Go.bits .or .u8 t102 t103) t104) t106))))))) = some (r1, r2) := h
  clear h
  replace H := Option.bind_eq_some_iff.mp H
  obtain ⟨t102, A40, H⟩ := H
  replace H : ((wide_if1.f (decide ((wrap64 ((wrap64 ((wrap64 (a0)) + (wrap64 (a1)))) + (wrap64 (Go.bits .and .u8 a2 1)))) > 65535)) 1).bind fun t103 => ((wide_if1.f (decide ((wrap64 ((wrap64 ((wrap64 (Go.bits .and .u16 a0 4095)) + (wrap64 (Go.bits .and .u16 a1 4095)))) + (wrap64 (Go.bits .and .u8 a2 1)))) > 4095)) 16).bind fun t104 => (if (wrap64 ((wrap64 ((wrap64 (IntKind.i16.wrap (a0))) + (wrap64 (IntKind.i16.wrap (a1))))) + (wrap64 (Go.bits .and .u8 a2 1)))) < (-32768) then ((wide_if1.f true 4).bind fun t105 => (some (IntKind.u16.wrap (wrap64 ((wrap64 ((wrap64 (a0)) + (wrap64 (a1)))) + (wrap64 (Go.bits .and .u8 a2 1)))), Go.bits .or .u8 (Go.bits .or .u8 (Go.bits .or .u8 t102 t103) t104) t105))) else ((wide_if1.f (decide ((wrap64 ((wrap64 ((wrap64 (IntKind.i16.wrap (a0))) + (wrap64 (IntKind.i16.wrap (a1))))) + (wrap64 (Go.bits .and .u8 a2 1)))) ≥ 32768)) 4).bind fun t106 => (some (IntKind.u16.wrap (wrap64 ((wrap64 ((wrap64 (a0)) + (wrap64 (a1)))) + (wrap64 (Go.bits .and .u8 a2 1)))), Go.bits .or .u8 (Go.bits .or .u8 (Go.bits .or .u8 t102 t103) t104) t106)))))) = some (r1, r2) := H
  have A4 := Aside0.mk A40
  clear A40
  replace H := Option.bind_eq_some_iff.mp H
  obtain ⟨t103, A50, H⟩ := H
  replace H : ((wide_if1.f (decide ((wrap64 ((wrap64 ((wrap64 (Go.bits .and .u16 a0 4095)) + (wrap64 (Go.bits .and .u16 a1 4095)))) + (wrap64 (Go.bits .and .u8 a2 1)))) > 4095)) 16).bind fun t104 => (if (wrap64 ((wrap64 ((wrap64 (IntKind.i16.wrap (a0))) + (wrap64 (IntKind.i16.wrap (a1))))) + (wrap64 (Go.bits .and .u8 a2 1)))) < (-32768) then ((wide_if1.f true 4).bind fun t105 => (some (IntKind.u16.wrap (wrap64 ((wrap64 ((wrap64 (a0)) + (wrap64 (a1)))) + (wrap64 (Go.bits .and .u8 a2 1)))), Go.bits .or .u8 (Go.bits .or .u8 (Go.bits .or .u8 t102 t103) t104) t105))) else ((wide_if1.f (decide ((wrap64 ((wrap64 ((wrap64 (IntKind.i16.wrap (a0))) + (wrap64 (IntKind.i16.wrap (a1))))) + (wrap64 (Go.bits .and .u8 a2 1)))) ≥ 32768)) 4).bind fun t106 => (some (IntKind.u16.wrap (wrap64 ((wrap64 ((wrap64 (a0)) + (wrap64 (a1)))) + (wrap64 (Go.bits .and .u8 a2 1)))), Go.bits .or .u8 (Go.bits .or .u8 (Go.bits .or .u8 t102 t103) t104) t106))))) = some (r1, r2) := H
  have A5 := Aside0.mk A50
  clear A50
  replace H := Option.bind_eq_some_iff.mp H
  obtain ⟨t104, A60, H⟩ := H
  replace H : (if (wrap64 ((wrap64 ((wrap64 (IntKind.i16.wrap (a0))) + (wrap64 (IntKind.i16.wrap (a1))))) + (wrap64 (Go.bits .and .u8 a2 1)))) < (-32768) then ((wide_if1.f true 4).bind fun t105 => (some (IntKind.u16.wrap (wrap64 ((wrap64 ((wrap64 (a0)) + (wrap64 (a1)))) + (wrap64 (Go.bits .and .u8 a2 1)))), Go.bits .or .u8 (Go.bits .or .u8 (Go.bits .or .u8 t102 t103) t104) t105))) else ((wide_if1.f (decide ((wrap64 ((wrap64 ((wrap64 (IntKind.i16.wrap (a0))) + (wrap64 (IntKind.i16.wrap (a1))))) + (wrap64 (Go.bits .and .u8 a2 1)))) ≥ 32768)) 4).bind fun t106 => (some (IntKind.u16.wrap (wrap64 ((wrap64 ((wrap64 (a0)) + (wrap64 (a1)))) + (wrap64 (Go.bits .and .u8 a2 1)))), Go.bits .or .u8 (Go.bits .or .u8 (Go.bits .or .u8 t102 t103) t104) t106)))) = some (r1, r2) := H
  have A6 := Aside0.mk A60
  clear A60
  by_cases c7 : (wrap64 ((wrap64 ((wrap64 (IntKind.i16.wrap (a0))) + (wrap64 (IntKind.i16.wrap (a1))))) + (wrap64 (Go.bits .and .u8 a2 1)))) < (-32768)
  · rw [if_pos c7] at H
    have c7b0 : decide ((wrap64 ((wrap64 ((wrap64 (IntKind.i16.wrap (a0))) + (wrap64 (IntKind.i16.wrap (a1))))) + (wrap64 (Go.bits .and .u8 a2 1)))) < (-32768)) = true := decide_eq_true c7
    clear c7
    replace H := Option.bind_eq_some_iff.mp H
    obtain ⟨t105, A80, H⟩ := H
    replace H : (some (IntKind.u16.wrap (wrap64 ((wrap64 ((wrap64 (a0)) + (wrap64 (a1)))) + (wrap64 (Go.bits .and .u8 a2 1)))), Go.bits .or .u8 (Go.bits .or .u8 (Go.bits .or .u8 t102 t103) t104) t105)) = some (r1, r2) := H
    have A8 := Aside0.mk A80
    clear A80
    simp only [Option.some.injEq, Prod.mk.injEq] at H
    obtain ⟨rfl, rfl⟩ := H
    go_enter Try.func20, Try.ntmps20
    go_wp2_with (first | ((with_reducible refine gate_callee (f := 80) rfl ?_); refine goesL_ (some 34) rfl rfl Try.func80 (by kernel_rfl) rfl #[.int .u16 (IntKind.u16.wrap (wrap64 ((wrap64 ((wrap64 (a0)) + (wrap64 (a1)))) + (wrap64 (Go.bits .and .u8 a2 1)))))] rfl (by (try simp only [List.map_toArray, List.map_cons, List.map_nil]); first | done | rfl | (simp only [List.length_drop, List.length_take]; rfl)) ?_; (with_reducible refine (wide_all.calls (IntKind.u16.wrap (wrap64 ((wrap64 ((wrap64 (a0)) + (wrap64 (a1)))) + (wrap64 (Go.bits .and .u8 a2 1))))) t102 _ A4.out).mono ?_); rintro e w' ⟨rfl, ⟨nd, rfl⟩⟩; refine ⟨_, rfl, ?_⟩) | ((with_reducible refine gate_callee (f := 81) rfl ?_); refine goesL_ (some 37) rfl rfl Try.func81 (by kernel_rfl) rfl #[.bool (decide ((wrap64 ((wrap64 ((wrap64 (a0)) + (wrap64 (a1)))) + (wrap64 (Go.bits .and .u8 a2 1)))) > 65535)), .int .u8 1] rfl (by (try simp only [List.map_toArray, List.map_cons, List.map_nil]); first | done | rfl | (simp only [List.length_drop, List.length_take]; rfl)) ?_; (with_reducible refine (wide_if1.calls (decide ((wrap64 ((wrap64 ((wrap64 (a0)) + (wrap64 (a1)))) + (wrap64 (Go.bits .and .u8 a2 1)))) > 65535)) 1 t103 _ A5.out).mono ?_); rintro e w' ⟨rfl, ⟨nd, rfl⟩⟩; refine ⟨_, rfl, ?_⟩) | ((with_reducible refine gate_callee (f := 81) rfl ?_); refine goesL_ (some 49) rfl rfl Try.func81 (by kernel_rfl) rfl #[.bool (decide ((wrap64 ((wrap64 ((wrap64 (Go.bits .and .u16 a0 4095)) + (wrap64 (Go.bits .and .u16 a1 4095)))) + (wrap64 (Go.bits .and .u8 a2 1)))) > 4095)), .int .u8 16] rfl (by (try simp only [List.map_toArray, List.map_cons, List.map_nil]); first | done | rfl | (simp only [List.length_drop, List.length_take]; rfl)) ?_; (with_reducible refine (wide_if1.calls (decide ((wrap64 ((wrap64 ((wrap64 (Go.bits .and .u16 a0 4095)) + (wrap64 (Go.bits .and .u16 a1 4095)))) + (wrap64 (Go.bits .and .u8 a2 1)))) > 4095)) 16 t104 _ A6.out).mono ?_); rintro e w' ⟨rfl, ⟨nd, rfl⟩⟩; refine ⟨_, rfl, ?_⟩) | ((with_reducible refine gate_callee (f := 81) rfl ?_); refine goesL_ (some 57) rfl rfl Try.func81 (by kernel_rfl) rfl #[.bool true, .int .u8 4] rfl (by (try simp only [List.map_toArray, List.map_cons, List.map_nil]); first | done | rfl | (simp only [List.length_drop, List.length_take]; rfl)) ?_; (with_reducible refine (wide_if1.calls true 4 t105 _ A8.out).mono ?_); rintro e w' ⟨rfl, ⟨nd, rfl⟩⟩; refine ⟨_, rfl, ?_⟩))
    go_ret2
    exact ⟨by first | rfl | (simp; done) | (simp [*]; done), by repeat (first | exact Drawn0.refl _ | apply Drawn0.step)⟩
  · rw [if_neg c7] at H
    have c7b0 : decide ((wrap64 ((wrap64 ((wrap64 (IntKind.i16.wrap (a0))) + (wrap64 (IntKind.i16.wrap (a1))))) + (wrap64 (Go.bits .and .u8 a2 1)))) < (-32768)) = false := decide_eq_false c7
    clear c7
    replace H := Option.bind_eq_some_iff.mp H
    obtain ⟨t106, A90, H⟩ := H
    replace H : (some (IntKind.u16.wrap (wrap64 ((wrap64 ((wrap64 (a0)) + (wrap64 (a1)))) + (wrap64 (Go.bits .and .u8 a2 1)))), Go.bits .or .u8 (Go.bits .or .u8 (Go.bits .or .u8 t102 t103) t104) t106)) = some (r1, r2) := H
    have A9 := Aside0.mk A90
    clear A90
    simp only [Option.some.injEq, Prod.mk.injEq] at H
    obtain ⟨rfl, rfl⟩ := H
    go_enter Try.func20, Try.ntmps20
    go_wp2_with (first | ((with_reducible refine gate_callee (f := 80) rfl ?_); refine goesL_ (some 34) rfl rfl Try.func80 (by kernel_rfl) rfl #[.int .u16 (IntKind.u16.wrap (wrap64 ((wrap64 ((wrap64 (a0)) + (wrap64 (a1)))) + (wrap64 (Go.bits .and .u8 a2 1)))))] rfl (by (try simp only [List.map_toArray, List.map_cons, List.map_nil]); first | done | rfl | (simp only [List.length_drop, List.length_take]; rfl)) ?_; (with_reducible refine (wide_all.calls (IntKind.u16.wrap (wrap64 ((wrap64 ((wrap64 (a0)) + (wrap64 (a1)))) + (wrap64 (Go.bits .and .u8 a2 1))))) t102 _ A4.out).mono ?_); rintro e w' ⟨rfl, ⟨nd, rfl⟩⟩; refine ⟨_, rfl, ?_⟩) | ((with_reducible refine gate_callee (f := 81) rfl ?_); refine goesL_ (some 37) rfl rfl Try.func81 (by kernel_rfl) rfl #[.bool (decide ((wrap64 ((wrap64 ((wrap64 (a0)) + (wrap64 (a1)))) + (wrap64 (Go.bits .and .u8 a2 1)))) > 65535)), .int .u8 1] rfl (by (try simp only [List.map_toArray, List.map_cons, List.map_nil]); first | done | rfl | (simp only [List.length_drop, List.length_take]; rfl)) ?_; (with_reducible refine (wide_if1.calls (decide ((wrap64 ((wrap64 ((wrap64 (a0)) + (wrap64 (a1)))) + (wrap64 (Go.bits .and .u8 a2 1)))) > 65535)) 1 t103 _ A5.out).mono ?_); rintro e w' ⟨rfl, ⟨nd, rfl⟩⟩; refine ⟨_, rfl, ?_⟩) | ((with_reducible refine gate_callee (f := 81) rfl ?_); refine goesL_ (some 49) rfl rfl Try.func81 (by kernel_rfl) rfl #[.bool (decide ((wrap64 ((wrap64 ((wrap64 (Go.bits .and .u16 a0 4095)) + (wrap64 (Go.bits .and .u16 a1 4095)))) + (wrap64 (Go.bits .and .u8 a2 1)))) > 4095)), .int .u8 16] rfl (by (try simp only [List.map_toArray, List.map_cons, List.map_nil]); first | done | rfl | (simp only [List.length_drop, List.length_take]; rfl)) ?_; (with_reducible refine (wide_if1.calls (decide ((wrap64 ((wrap64 ((wrap64 (Go.bits .and .u16 a0 4095)) + (wrap64 (Go.bits .and .u16 a1 4095)))) + (wrap64 (Go.bits .and .u8 a2 1)))) > 4095)) 16 t104 _ A6.out).mono ?_); rintro e w' ⟨rfl, ⟨nd, rfl⟩⟩; refine ⟨_, rfl, ?_⟩) | ((with_reducible refine gate_callee (f := 81) rfl ?_); refine goesL_ (some 57) rfl rfl Try.func81 (by kernel_rfl) rfl #[.bool (decide ((wrap64 ((wrap64 ((wrap64 (IntKind.i16.wrap (a0))) + (wrap64 (IntKind.i16.wrap (a1))))) + (wrap64 (Go.bits .and .u8 a2 1)))) ≥ 32768)), .int .u8 4] rfl (by (try simp only [List.map_toArray, List.map_cons, List.map_nil]); first | done | rfl | (simp only [List.length_drop, List.length_take]; rfl)) ?_; (with_reducible refine (wide_if1.calls (decide ((wrap64 ((wrap64 ((wrap64 (IntKind.i16.wrap (a0))) + (wrap64 (IntKind.i16.wrap (a1))))) + (wrap64 (Go.bits .and .u8 a2 1)))) ≥ 32768)) 4 t106 _ A9.out).mono ?_); rintro e w' ⟨rfl, ⟨nd, rfl⟩⟩; refine ⟨_, rfl, ?_⟩))
    go_ret2
    exact ⟨by first | rfl | (simp; done) | (simp [*]; done), by repeat (first | exact Drawn0.refl _ | apply Drawn0.step)⟩

/-! ### wide_Sbc: function 22 -/
def wide_Sbc.f (a0 : Int) (a1 : Int) (a2 : Int) : Option (Int × Int) := (wide_all.f (IntKind.u16.wrap (wrap64 ((wrap64 ((wrap64 (a0)) - (wrap64 (a1)))) - (wrap64 (Go.bits .and .u8 a2 1)))))).bind fun t107 => ((wide_if1.f (decide ((wrap64 ((wrap64 ((wrap64 (a0)) - (wrap64 (a1)))) - (wrap64 (Go.bits .and .u8 a2 1)))) < 0)) 1).bind fun t108 => ((wide_if1.f (decide ((wrap64 ((wrap64 ((wrap64 (Go.bits .and .u16 a0 4095)) - (wrap64 (Go.bits .and .u16 a1 4095)))) - (wrap64 (Go.bits .and .u8 a2 1)))) < 0)) 16).bind fun t109 => (if (wrap64 ((wrap64 ((wrap64 (IntKind.i16.wrap (a0))) - (wrap64 (IntKind.i16.wrap (a1))))) - (wrap64 (Go.bits .and .u8 a2 1)))) < (-32768) then ((wide_if1.f true 4).bind fun t110 => (some (IntKind.u16.wrap (wrap64 ((wrap64 ((wrap64 (a0)) - (wrap64 (a1)))) - (wrap64 (Go.bits .and .u8 a2 1)))), Go.bits .or .u8 (Go.bits .or .u8 (Go.bits .or .u8 (Go.bits .or .u8 t107 2) t108) t109) t110))) else ((wide_if1.f (decide ((wrap64 ((wrap64 ((wrap64 (IntKind.i16.wrap (a0))) - (wrap64 (IntKind.i16.wrap (a1))))) - (wrap64 (Go.bits .and .u8 a2 1)))) ≥ 32768)) 4).bind fun t111 => (some (IntKind.u16.wrap (wrap64 ((wrap64 ((wrap64 (a0)) - (wrap64 (a1)))) - (wrap64 (Go.bits .and .u8 a2 1)))), Go.bits .or .u8 (Go.bits .or .u8 (Go.bits .or .u8 (Go.bits .or .u8 t107 2) t108) t109) t111))))))
set_option maxHeartbeats 8000000 in
set_option maxRecDepth 100000 in
theorem wide_Sbc.calls (a0 : Int) (a1 : Int) (a2 : Int) (r1 : Int) (r2 : Int) (w : World) (h : wide_Sbc.f a0 a1 a2 = some (r1, r2)) :
    Calls Try.prog 22 #[.int .u16 a0, .int .u16 a1, .int .u8 a2] w fun e w' => e = .returned (.tuple #[.int .u16 r1, .int .u8 r2]) ∧ Drawn0 w w' := by
  have H : ((wide_all.f (IntKind.u16.wrap (wrap64 ((wrap64 ((wrap64 (a0)) - (wrap64 (a1)))) - (wrap64 (Go.bits .and .u8 a2 1)))))).bind fun t107 => ((wide_if1.f (decide ((wrap64 ((wrap64 ((wrap64 (a0)) - (wrap64 (a1)))) - (wrap64 (Go.bits .and .u8 a2 1)))) < 0)) 1).bind fun t108 => ((wide_if1.f (decide ((wrap64 ((wrap64 ((wrap64 (Go.bits .and .u16 a0 4095)) - (wrap64 (Go.bits .and .u16 a1 4095)))) - (wrap64 (Go.bits .and .u8 a2 1)))) < 0)) 16).bind fun t109 => (if (wrap64 ((wrap64 ((wrap64 (IntKind.i16.wrap (a0))) - (wrap64 (IntKind.i16.wrap (a1))))) - (wrap64 (Go.bits .and .u8 a2 1)))) < (-32768) then ((wide_if1.f true 4).bind fun t110 => (some (IntKind.u16.wrap (wrap64 ((wrap64 ((wrap64 (a0)) - (wrap64 (a1)))) - (wrap64 (Go.bits .and .u8 a2 1)))), Go.bits .or .u8 (Go.bits .or .u8 (Go.bits .or .u8 (Go.bits .or .u8 t107 2) t108) t109) t110))) else ((wide_if1.f (decide ((wrap64 ((wrap64 ((wrap64 (IntKind.i16.wrap (a0))) - (wrap64 (IntKind.i16.wrap (a1))))) - (wrap64 (Go.bits .and .u8 a2 1)))) ≥ 32768)) 4).bind fun t111 => (some (IntKind.u16.wrap (wrap64 ((wrap64 ((wrap64 (a0)) - (wrap64 (a1)))) - (wrap64 (Go.bits .and .u8 a2 1)))), Go.bits .or .u8 (Go.bits .or .u8 (Go.bits .or .u8 (Go.bits .or .u8 t107 2) t108) t109) t111))))))) = some (r1, r2) := h
  clear h
  replace H := Option.bind_eq_some_iff.mp H
  obtain ⟨t107, A40, H⟩ := H
  replace H : ((wide_if1.f (decide ((wrap64 ((wrap64 ((wrap64 (a0)) - (wrap64 (a1)))) - (wrap64 (Go.bits .and .u8 a2 1)))) < 0)) 1).bind fun t108 => ((wide_if1.f (decide ((wrap64 ((wrap64 ((wrap64 (Go.bits .and .u16 a0 4095)) - (wrap64 (Go.bits .and .u16 a1 4095)))) - (wrap64 (Go.bits .and .u8 a2 1)))) < 0)) 16).bind fun t109 => (if (wrap64 ((wrap64 ((wrap64 (IntKind.i16.wrap (a0))) - (wrap64 (IntKind.i16.wrap (a1))))) - (wrap64 (Go.bits .and .u8 a2 1)))) < (-32768) then ((wide_if1.f true 4).bind fun t110 => (some (IntKind.u16.wrap (wrap64 ((wrap64 ((wrap64 (a0)) - (wrap64 (a1)))) - (wrap64 (Go.bits .and .u8 a2 1)))), Go.bits .or .u8 (Go.bits .or .u8 (Go.bits .or .u8 (Go.bits .or .u8 t107 2) t108) t109) t110))) else ((wide_if1.f (decide ((wrap64 ((wrap64 ((wrap64 (IntKind.i16.wrap (a0))) - (wrap64 (IntKind.i16.wrap (a1))))) - (wrap64 (Go.bits .and .u8 a2 1)))) ≥ 32768)) 4).bind fun t111 => (some (IntKind.u16.wrap (wrap64 ((wrap64 ((wrap64 (a0)) - (wrap64 (a1)))) - (wrap64 (Go.bits .and .u8 a2 1)))), Go.bits .or .u8 (Go.bits .or .u8 (Go.bits .or .u8 (Go.bits .or .u8 t107 2) t108) t109) t111)))))) = some (r1, r2) := H
  have A4 := Aside0.mk A40
  clear A40
  replace H := Option.bind_eq_some_iff.mp H
  obtain ⟨t108, A50, H⟩ := H
  replace H : ((wide_if1.f (decide ((wrap64 ((wrap64 ((wrap64 (Go.bits .and .u16 a0 4095)) - (wrap64 (Go.bits .and .u16 a1 4095)))) - (wrap64 (Go.bits .and .u8 a2 1)))) < 0)) 16).bind fun t109 => (if (wrap64 ((wrap64 ((wrap64 (IntKind.i16.wrap (a0))) - (wrap64 (IntKind.i16.wrap (a1))))) - (wrap64 (Go.bits .and .u8 a2 1)))) < (-32768) then ((wide_if1.f true 4).bind fun t110 => (some (IntKind.u16.wrap (wrap64 ((wrap64 ((wrap64 (a0)) - (wrap64 (a1)))) - (wrap64 (Go.bits .and .u8 a2 1)))), Go.bits .or .u8 (Go.bits .or .u8 (Go.bits .or .u8 (Go.bits .or .u8 t107 2) t108) t109) t110))) else ((wide_if1.f (decide ((wrap64 ((wrap64 ((wrap64 (IntKind.i16.wrap (a0))) - (wrap64 (IntKind.i16.wrap (a1))))) - (wrap64 (Go.bits .and .u8 a2 1)))) ≥ 32768)) 4).bind fun t111 => (some (IntKind.u16.wrap (wrap64 ((wrap64 ((wrap64 (a0)) - (wrap64 (a1)))) - (wrap64 (Go.bits .and .u8 a2 1)))), Go.bits .or .u8 (Go.bits .or .u8 (Go.bits .or .u8 (Go.bits .or .u8 t107 2) t108) t109) t111))))) = some (r1, r2) := H
  have A5 := Aside0.mk A50
  clear A50
  replace H := Option.bind_eq_some_iff.mp H
  obtain ⟨t109, A60, H⟩ := H
  replace H : (if (wrap64 ((wrap64 ((wrap64 (IntKind.i16.wrap (a0))) - (wrap64 (IntKind.i16.wrap (a1))))) - (wrap64 (Go.bits .and .u8 a2 1)))) < (-32768) then ((wide_if1.f true 4).bind fun t110 => (some (IntKind.u16.wrap (wrap64 ((wrap64 ((wrap64 (a0)) - (wrap64 (a1)))) - (wrap64 (Go.bits .and .u8 a2 1)))), Go.bits .or .u8 (Go.bits .or .u8 (Go.bits .or .u8 (Go.bits .or .u8 t107 2) t108) t109) t110))) else ((wide_if1.f (decide ((wrap64 ((wrap64 ((wrap64 (IntKind.i16.wrap (a0))) - (wrap64 (IntKind.i16.wrap (a1))))) - (wrap64 (Go.bits .and .u8 a2 1)))) ≥ 32768)) 4).bind fun t111 => (some (IntKind.u16.wrap (wrap64 ((wrap64 ((wrap64 (a0)) - (wrap64 (a1)))) - (wrap64 (Go.bits .and .u8 a2 1)))), Go.bits .or .u8 (Go.bits .or .u8 (Go.bits .or .u8 (Go.bits .or .u8 t107 2) t108) t109) t111)))) = some (r1, r2) := H
  have A6 := Aside0.mk A60
  clear A60
  by_cases c7 : (wrap64 ((wrap64 ((wrap64 (IntKind.i16.wrap (a0))) - (wrap64 (IntKind.i16.wrap (a1))))) - (wrap64 (Go.bits .and .u8 a2 1)))) < (-32768)
  · rw [if_pos c7] at H
    have c7b0 : decide ((wrap64 ((wrap64 ((wrap64 (IntKind.i16.wrap (a0))) - (wrap64 (IntKind.i16.wrap (a1))))) - (wrap64 (Go.bits .and .u8 a2 1)))) < (-32768)) = true := decide_eq_true c7
    clear c7
    replace H := Option.bind_eq_some_iff.mp H
    obtain ⟨t110, A80, H⟩ := H
    replace H : (some (IntKind.u16.wrap (wrap64 ((wrap64 ((wrap64 (a0)) - (wrap64 (a1)))) - (wrap64 (Go.bits .and .u8 a2 1)))), Go.bits .or .u8 (Go.bits .or .u8 (Go.bits .or .u8 (Go.bits .or .u8 t107 2) t108) t109) t110)) = some (r1, r2) := H
    have A8 := Aside0.mk A80
    clear A80
    simp only [Option.some.injEq, Prod.mk.injEq] at H
    obtain ⟨rfl, rfl⟩ := H
    go_enter Try.func22, Try.ntmps22
    go_wp2_with (first | ((with_reducible refine gate_callee (f := 80) rfl ?_); refine goesL_ (some 34) rfl rfl Try.func80 (by kernel_rfl) rfl #[.int .u16 (IntKind.u16.wrap (wrap64 ((wrap64 ((wrap64 (a0)) - (wrap64 (a1)))) - (wrap64 (Go.bits .and .u8 a2 1)))))] rfl (by (try simp only [List.map_toArray, List.map_cons, List.map_nil]); first | done | rfl | (simp only [List.length_drop, List.length_take]; rfl)) ?_; (with_reducible refine (wide_all.calls (IntKind.u16.wrap (wrap64 ((wrap64 ((wrap64 (a0)) - (wrap64 (a1)))) - (wrap64 (Go.bits .and .u8 a2 1))))) t107 _ A4.out).mono ?_); rintro e w' ⟨rfl, ⟨nd, rfl⟩⟩; refine ⟨_, rfl, ?_⟩) | ((with_reducible refine gate_callee (f := 81) rfl ?_); refine goesL_ (some 38) rfl rfl Try.func81 (by kernel_rfl) rfl #[.bool (decide ((wrap64 ((wrap64 ((wrap64 (a0)) - (wrap64 (a1)))) - (wrap64 (Go.bits .and .u8 a2 1)))) < 0)), .int .u8 1] rfl (by (try simp only [List.map_toArray, List.map_cons, List.map_nil]); first | done | rfl | (simp only [List.length_drop, List.length_take]; rfl)) ?_; (with_reducible refine (wide_if1.calls (decide ((wrap64 ((wrap64 ((wrap64 (a0)) - (wrap64 (a1)))) - (wrap64 (Go.bits .and .u8 a2 1)))) < 0)) 1 t108 _ A5.out).mono ?_); rintro e w' ⟨rfl, ⟨nd, rfl⟩⟩; refine ⟨_, rfl, ?_⟩) | ((with_reducible refine gate_callee (f := 81) rfl ?_); refine goesL_ (some 50) rfl rfl Try.func81 (by kernel_rfl) rfl #[.bool (decide ((wrap64 ((wrap64 ((wrap64 (Go.bits .and .u16 a0 4095)) - (wrap64 (Go.bits .and .u16 a1 4095)))) - (wrap64 (Go.bits .and .u8 a2 1)))) < 0)), .int .u8 16] rfl (by (try simp only [List.map_toArray, List.map_cons, List.map_nil]); first | done | rfl | (simp only [List.length_drop, List.length_take]; rfl)) ?_; (with_reducible refine (wide_if1.calls (decide ((wrap64 ((wrap64 ((wrap64 (Go.bits .and .u16 a0 4095)) - (wrap64 (Go.bits .and .u16 a1 4095)))) - (wrap64 (Go.bits .and .u8 a2 1)))) < 0)) 16 t109 _ A6.out).mono ?_); rintro e w' ⟨rfl, ⟨nd, rfl⟩⟩; refine ⟨_, rfl, ?_⟩) | ((with_reducible refine gate_callee (f := 81) rfl ?_); refine goesL_ (some 58) rfl rfl Try.func81 (by kernel_rfl) rfl #[.bool true, .int .u8 4] rfl (by (try simp only [List.map_toArray, List.map_cons, List.map_nil]); first | done | rfl | (simp only [List.length_drop, List.length_take]; rfl)) ?_; (with_reducible refine (wide_if1.calls true 4 t110 _ A8.out).mono ?_); rintro e w' ⟨rfl, ⟨nd, rfl⟩⟩; refine ⟨_, rfl, ?_⟩))
    go_ret2
    exact ⟨by first | rfl | (simp; done) | (simp [*]; done), by repeat (first | exact Drawn0.refl _ | apply Drawn0.step)⟩
  · rw [if_neg c7] at H
    have c7b0 : decide ((wrap64 ((wrap64 ((wrap64 (IntKind.i16.wrap (a0))) - (wrap64 (IntKind.i16.wrap (a1))))) - (wrap64 (Go.bits .and .u8 a2 1)))) < (-32768)) = false := decide_eq_false c7
    clear c7
    replace H := Option.bind_eq_some_iff.mp H
    obtain ⟨t111, A90, H⟩ := H
    replace H : (some (IntKind.u16.wrap (wrap64 ((wrap64 ((wrap64 (a0)) - (wrap64 (a1)))) - (wrap64 (Go.bits .and .u8 a2 1)))), Go.bits .or .u8 (Go.bits .or .u8 (Go.bits .or .u8 (Go.bits .or .u8 t107 2) t108) t109) t111)) = some (r1, r2) := H
    have A9 := Aside0.mk A90
    clear A90
    simp only [Option.some.injEq, Prod.mk.injEq] at H
    obtain ⟨rfl, rfl⟩ := H
    go_enter Try.func22, Try.ntmps22
    go_wp2_with (first | ((with_reducible refine gate_callee (f := 80) rfl ?_); refine goesL_ (some 34) rfl rfl Try.func80 (by kernel_rfl) rfl #[.int .u16 (IntKind.u16.wrap (wrap64 ((wrap64 ((wrap64 (a0)) - (wrap64 (a1)))) - (wrap64 (Go.bits .and .u8 a2 1)))))] rfl (by (try simp only [List.map_toArray, List.map_cons, List.map_nil]); first | done | rfl | (simp only [List.length_drop, List.length_take]; rfl)) ?_; (with_reducible refine (wide_all.calls (IntKind.u16.wrap (wrap64 ((wrap64 ((wrap64 (a0)) - (wrap64 (a1)))) - (wrap64 (Go.bits .and .u8 a2 1))))) t107 _ A4.out).mono ?_); rintro e w' ⟨rfl, ⟨nd, rfl⟩⟩; refine ⟨_, rfl, ?_⟩) | ((with_reducible refine gate_callee (f := 81) rfl ?_); refine goesL_ (some 38) rfl rfl Try.func81 (by kernel_rfl) rfl #[.bool (decide ((wrap64 ((wrap64 ((wrap64 (a0)) - (wrap64 (a1)))) - (wrap64 (Go.bits .and .u8 a2 1)))) < 0)), .int .u8 1] rfl (by (try simp only [List.map_toArray, List.map_cons, List.map_nil]); first | done | rfl | (simp only [List.length_drop, List.length_take]; rfl)) ?_; (with_reducible refine (wide_if1.calls (decide ((wrap64 ((wrap64 ((wrap64 (a0)) - (wrap64 (a1)))) - (wrap64 (Go.bits .and .u8 a2 1)))) < 0)) 1 t108 _ A5.out).mono ?_); rintro e w' ⟨rfl, ⟨nd, rfl⟩⟩; refine ⟨_, rfl, ?_⟩) | ((with_reducible refine gate_callee (f := 81) rfl ?_); refine goesL_ (some 50) rfl rfl Try.func81 (by kernel_rfl) rfl #[.bool (decide ((wrap64 ((wrap64 ((wrap64 (Go.bits .and .u16 a0 4095)) - (wrap64 (Go.bits .and .u16 a1 4095)))) - (wrap64 (Go.bits .and .u8 a2 1)))) < 0)), .int .u8 16] rfl (by (try simp only [List.map_toArray, List.map_cons, List.map_nil]); first | done | rfl | (simp only [List.length_drop, List.length_take]; rfl)) ?_; (with_reducible refine (wide_if1.calls (decide ((wrap64 ((wrap64 ((wrap64 (Go.bits .and .u16 a0 4095)) - (wrap64 (Go.bits .and .u16 a1 4095)))) - (wrap64 (Go.bits .and .u8 a2 1)))) < 0)) 16 t109 _ A6.out).mono ?_); rintro e w' ⟨rfl, ⟨nd, rfl⟩⟩; refine ⟨_, rfl, ?_⟩) | ((with_reducible refine gate_callee (f := 81) rfl ?_); refine goesL_ (some 58) rfl rfl Try.func81 (by kernel_rfl) rfl #[.bool (decide ((wrap64 ((wrap64 ((wrap64 (IntKind.i16.wrap (a0))) - (wrap64 (IntKind.i16.wrap (a1))))) - (wrap64 (Go.bits .and .u8 a2 1)))) ≥ 32768)), .int .u8 4] rfl (by (try simp only [List.map_toArray, List.map_cons, List.map_nil]); first | done | rfl | (simp only [List.length_drop, List.length_take]; rfl)) ?_; (with_reducible refine (wide_if1.calls (decide ((wrap64 ((wrap64 ((wrap64 (IntKind.i16.wrap (a0))) - (wrap64 (IntKind.i16.wrap (a1))))) - (wrap64 (Go.bits .and .u8 a2 1)))) ≥ 32768)) 4 t111 _ A9.out).mono ?_); rintro e w' ⟨rfl, ⟨nd, rfl⟩⟩; refine ⟨_, rfl, ?_⟩))
    go_ret2
    exact ⟨by first | rfl | (simp; done) | (simp [*]; done), by repeat (first | exact Drawn0.refl _ | apply Drawn0.step)⟩

/-! ### wide_Add: function 24 -/
def wide_Add.f (a0 : Int) (a1 : Int) (a2 : Int) : Option (Int × Int) := (wide_if1.f (decide ((IntKind.u16.wrap (a0 + a1)) < a0)) 1).bind fun t112 => ((wide_if1.f (decide ((IntKind.u16.wrap ((Go.bits .and .u16 a0 4095) + (Go.bits .and .u16 a1 4095))) > 4095)) 16).bind fun t113 => (some (IntKind.u16.wrap (a0 + a1), Go.bits .or .u8 (Go.bits .or .u8 (Go.bits .or .u8 (Go.bits .and .u8 a2 196) (Go.bits .and .u8 (((IntKind.u16.wrap (a0 + a1)) / 256) % 256) 40)) t112) t113)))
set_option maxHeartbeats 8000000 in
set_option maxRecDepth 100000 in
theorem wide_Add.calls (a0 : Int) (a1 : Int) (a2 : Int) (r1 : Int) (r2 : Int) (w : World) (h : wide_Add.f a0 a1 a2 = some (r1, r2)) :
    Calls Try.prog 24 #[.int .u16 a0, .int .u16 a1, .int .u8 a2] w fun e w' => e = .returned (.tuple #[.int .u16 r1, .int .u8 r2]) ∧ Drawn0 w w' := by
  have H : ((wide_if1.f (decide ((IntKind.u16.wrap (a0 + a1)) < a0)) 1).bind fun t112 => ((wide_if1.f (decide ((IntKind.u16.wrap ((Go.bits .and .u16 a0 4095) + (Go.bits .and .u16 a1 4095))) > 4095)) 16).bind fun t113 => (some (IntKind.u16.wrap (a0 + a1), Go.bits .or .u8 (Go.bits .or .u8 (Go.bits .or .u8 (Go.bits .and .u8 a2 196) (Go.bits .and .u8 (((IntKind.u16.wrap (a0 + a1)) / 256) % 256) 40)) t112) t113)))) = some (r1, r2) := h
  clear h
  replace H := Option.bind_eq_some_iff.mp H
  obtain ⟨t112, A40, H⟩ := H
  replace H : ((wide_if1.f (decide ((IntKind.u16.wrap ((Go.bits .and .u16 a0 4095) + (Go.bits .and .u16 a1 4095))) > 4095)) 16).bind fun t113 => (some (IntKind.u16.wrap (a0 + a1), Go.bits .or .u8 (Go.bits .or .u8 (Go.bits .or .u8 (Go.bits .and .u8 a2 196) (Go.bits .and .u8 (((IntKind.u16.wrap (a0 + a1)) / 256) % 256) 40)) t112) t113))) = some (r1, r2) := H
  have A4 := Aside0.mk A40
  clear A40
  replace H := Option.bind_eq_some_iff.mp H
  obtain ⟨t113, A50, H⟩ := H
  replace H : (some (IntKind.u16.wrap (a0 + a1), Go.bits .or .u8 (Go.bits .or .u8 (Go.bits .or .u8 (Go.bits .and .u8 a2 196) (Go.bits .and .u8 (((IntKind.u16.wrap (a0 + a1)) / 256) % 256) 40)) t112) t113)) = some (r1, r2) := H
  have A5 := Aside0.mk A50
  clear A50
  simp only [Option.some.injEq, Prod.mk.injEq] at H
  obtain ⟨rfl, rfl⟩ := H
  go_enter Try.func24, Try.ntmps24
  go_wp2_with (first | ((with_reducible refine gate_callee (f := 81) rfl ?_); refine goesL_ (some 22) rfl rfl Try.func81 (by kernel_rfl) rfl #[.bool (decide ((IntKind.u16.wrap (a0 + a1)) < a0)), .int .u8 1] rfl (by (try simp only [List.map_toArray, List.map_cons, List.map_nil]); first | done | rfl | (simp only [List.length_drop, List.length_take]; rfl)) ?_; (with_reducible refine (wide_if1.calls (decide ((IntKind.u16.wrap (a0 + a1)) < a0)) 1 t112 _ A4.out).mono ?_); rintro e w' ⟨rfl, ⟨nd, rfl⟩⟩; refine ⟨_, rfl, ?_⟩) | ((with_reducible refine gate_callee (f := 81) rfl ?_); refine goesL_ (some 30) rfl rfl Try.func81 (by kernel_rfl) rfl #[.bool (decide ((IntKind.u16.wrap ((Go.bits .and .u16 a0 4095) + (Go.bits .and .u16 a1 4095))) > 4095)), .int .u8 16] rfl (by (try simp only [List.map_toArray, List.map_cons, List.map_nil]); first | done | rfl | (simp only [List.length_drop, List.length_take]; rfl)) ?_; (with_reducible refine (wide_if1.calls (decide ((IntKind.u16.wrap ((Go.bits .and .u16 a0 4095) + (Go.bits .and .u16 a1 4095))) > 4095)) 16 t113 _ A5.out).mono ?_); rintro e w' ⟨rfl, ⟨nd, rfl⟩⟩; refine ⟨_, rfl, ?_⟩))
  go_ret2
  exact ⟨by first | rfl | (simp; done) | (simp [*]; done), by repeat (first | exact Drawn0.refl _ | apply Drawn0.step)⟩

/-! ### pendulumlaw07_lives: function 19 -/
def pendulumlaw07_lives.f  : Option (Bool) := (wide_Add.f 4095 1 0).bind fun bt114 => ((wide_Adc.f 32767 0 1).bind fun bt116 => ((wide_Sbc.f 0 1 0).bind fun bt118 => (if bt114.1 = 4096 then (if bt114.2 = 16 then (if bt116.1 = 32768 then (if bt116.2 = 148 then (if bt118.1 = 65535 then (some (bt118.2 == 187)) else (some false)) else (some false)) else (some false)) else (some false)) else (some false))))
set_option maxHeartbeats 8000000 in
set_option maxRecDepth 100000 in
theorem pendulumlaw07_lives.calls  (r : Bool) (w : World) (h : pendulumlaw07_lives.f  = some r) :
    Calls Try.prog 19 #[] w fun e w' => e = .returned (.bool r) ∧ Drawn0 w w' := by
  have H : ((wide_Add.f 4095 1 0).bind fun bt114 => ((wide_Adc.f 32767 0 1).bind fun bt116 => ((wide_Sbc.f 0 1 0).bind fun bt118 => (if bt114.1 = 4096 then (if bt114.2 = 16 then (if bt116.1 = 32768 then (if bt116.2 = 148 then (if bt118.1 = 65535 then (some (bt118.2 == 187)) else (some false)) else (some false)) else (some false)) else (some false)) else (some false))))) = some r := h
  clear h
  replace H := Option.bind_eq_some_iff.mp H
  obtain ⟨⟨t114, t115⟩, A10, H⟩ := H
  replace H : ((wide_Adc.f 32767 0 1).bind fun bt116 => ((wide_Sbc.f 0 1 0).bind fun bt118 => (if t114 = 4096 then (if t115 = 16 then (if bt116.1 = 32768 then (if bt116.2 = 148 then (if bt118.1 = 65535 then (some (bt118.2 == 187)) else (some false)) else (some false)) else (some false)) else (some false)) else (some false)))) = some r := H
  have A1 := Aside0.mk A10
  clear A10
  replace H := Option.bind_eq_some_iff.mp H
  obtain ⟨⟨t116, t117⟩, A20, H⟩ := H
  replace H : ((wide_Sbc.f 0 1 0).bind fun bt118 => (if t114 = 4096 then (if t115 = 16 then (if t116 = 32768 then (if t117 = 148 then (if bt118.1 = 65535 then (some (bt118.2 == 187)) else (some false)) else (some false)) else (some false)) else (some false)) else (some false))) = some r := H
  have A2 := Aside0.mk A20
  clear A20
  replace H := Option.bind_eq_some_iff.mp H
  obtain ⟨⟨t118, t119⟩, A30, H⟩ := H
  replace H : (if t114 = 4096 then (if t115 = 16 then (if t116 = 32768 then (if t117 = 148 then (if t118 = 65535 then (some (t119 == 187)) else (some false)) else (some false)) else (some false)) else (some false)) else (some false)) = some r := H
  have A3 := Aside0.mk A30
  clear A30
  by_cases c4 : t114 = 4096
  · rw [if_pos c4] at H
    have c4b0 : (t114 == 4096) = true := beq_iff_eq.mpr c4
    have c4b1 : (t114 != 4096) = false := bne_eq_false_iff_eq.mpr c4
    clear c4
    by_cases c5 : t115 = 16
    · rw [if_pos c5] at H
      have c5b0 : (t115 == 16) = true := beq_iff_eq.mpr c5
      have c5b1 : (t115 != 16) = false := bne_eq_false_iff_eq.mpr c5
      clear c5
      by_cases c6 : t116 = 32768
      · rw [if_pos c6] at H
        have c6b0 : (t116 == 32768) = true := beq_iff_eq.mpr c6
        have c6b1 : (t116 != 32768) = false := bne_eq_false_iff_eq.mpr c6
        clear c6
        by_cases c7 : t117 = 148
        · rw [if_pos c7] at H
          have c7b0 : (t117 == 148) = true := beq_iff_eq.mpr c7
          have c7b1 : (t117 != 148) = false := bne_eq_false_iff_eq.mpr c7
          clear c7
          by_cases c8 : t118 = 65535
          · rw [if_pos c8] at H
            have c8b0 : (t118 == 65535) = true := beq_iff_eq.mpr c8
            have c8b1 : (t118 != 65535) = false := bne_eq_false_iff_eq.mpr c8
            clear c8
            obtain rfl := Option.some.inj H
            go_enter Try.func19, Try.ntmps19
            go_wp2_with (first | ((with_reducible refine gate_callee (f := 24) rfl ?_); refine goesL_ (some 8) rfl rfl Try.func24 (by kernel_rfl) rfl #[.int .u16 4095, .int .u16 1, .int .u8 0] rfl (by (try simp only [List.map_toArray, List.map_cons, List.map_nil]); first | done | rfl | (simp only [List.length_drop, List.length_take]; rfl)) ?_; (with_reducible refine (wide_Add.calls 4095 1 0 t114 t115 _ A1.out).mono ?_); rintro e w' ⟨rfl, ⟨nd, rfl⟩⟩; refine ⟨_, rfl, ?_⟩) | ((with_reducible refine gate_callee (f := 20) rfl ?_); refine goesL_ (some 12) rfl rfl Try.func20 (by kernel_rfl) rfl #[.int .u16 32767, .int .u16 0, .int .u8 1] rfl (by (try simp only [List.map_toArray, List.map_cons, List.map_nil]); first | done | rfl | (simp only [List.length_drop, List.length_take]; rfl)) ?_; (with_reducible refine (wide_Adc.calls 32767 0 1 t116 t117 _ A2.out).mono ?_); rintro e w' ⟨rfl, ⟨nd, rfl⟩⟩; refine ⟨_, rfl, ?_⟩) | ((with_reducible refine gate_callee (f := 22) rfl ?_); refine goesL_ (some 16) rfl rfl Try.func22 (by kernel_rfl) rfl #[.int .u16 0, .int .u16 1, .int .u8 0] rfl (by (try simp only [List.map_toArray, List.map_cons, List.map_nil]); first | done | rfl | (simp only [List.length_drop, List.length_take]; rfl)) ?_; (with_reducible refine (wide_Sbc.calls 0 1 0 t118 t119 _ A3.out).mono ?_); rintro e w' ⟨rfl, ⟨nd, rfl⟩⟩; refine ⟨_, rfl, ?_⟩))
            go_ret
            exact ⟨by first | rfl | (simp; done) | (simp [*]; done), by repeat (first | exact Drawn0.refl _ | apply Drawn0.step)⟩
          · rw [if_neg c8] at H
            have c8b0 : (t118 == 65535) = false := beq_eq_false_iff_ne.mpr c8
            have c8b1 : (t118 != 65535) = true := bne_iff_ne.mpr c8
            obtain rfl := Option.some.inj H
            go_enter Try.func19, Try.ntmps19
            go_wp2_with (first | ((with_reducible refine gate_callee (f := 24) rfl ?_); refine goesL_ (some 8) rfl rfl Try.func24 (by kernel_rfl) rfl #[.int .u16 4095, .int .u16 1, .int .u8 0] rfl (by (try simp only [List.map_toArray, List.map_cons, List.map_nil]); first | done | rfl | (simp only [List.length_drop, List.length_take]; rfl)) ?_; (with_reducible refine (wide_Add.calls 4095 1 0 t114 t115 _ A1.out).mono ?_); rintro e w' ⟨rfl, ⟨nd, rfl⟩⟩; refine ⟨_, rfl, ?_⟩) | ((with_reducible refine gate_callee (f := 20) rfl ?_); refine goesL_ (some 12) rfl rfl Try.func20 (by kernel_rfl) rfl #[.int .u16 32767, .int .u16 0, .int .u8 1] rfl (by (try simp only [List.map_toArray, List.map_cons, List.map_nil]); first | done | rfl | (simp only [List.length_drop, List.length_take]; rfl)) ?_; (with_reducible refine (wide_Adc.calls 32767 0 1 t116 t117 _ A2.out).mono ?_); rintro e w' ⟨rfl, ⟨nd, rfl⟩⟩; refine ⟨_, rfl, ?_⟩) | ((with_reducible refine gate_callee (f := 22) rfl ?_); refine goesL_ (some 16) rfl rfl Try.func22 (by kernel_rfl) rfl #[.int .u16 0, .int .u16 1, .int .u8 0] rfl (by (try simp only [List.map_toArray, List.map_cons, List.map_nil]); first | done | rfl | (simp only [List.length_drop, List.length_take]; rfl)) ?_; (with_reducible refine (wide_Sbc.calls 0 1 0 t118 t119 _ A3.out).mono ?_); rintro e w' ⟨rfl, ⟨nd, rfl⟩⟩; refine ⟨_, rfl, ?_⟩))
            go_ret
            exact ⟨by first | rfl | (simp; done) | (simp [*]; done), by repeat (first | exact Drawn0.refl _ | apply Drawn0.step)⟩
        · rw [if_neg c7] at H
          have c7b0 : (t117 == 148) = false := beq_eq_false_iff_ne.mpr c7
          have c7b1 : (t117 != 148) = true := bne_iff_ne.mpr c7
          obtain rfl := Option.some.inj H
          go_enter Try.func19, Try.ntmps19
          go_wp2_with (first | ((with_reducible refine gate_callee (f := 24) rfl ?_); refine goesL_ (some 8) rfl rfl Try.func24 (by kernel_rfl) rfl #[.int .u16 4095, .int .u16 1, .int .u8 0] rfl (by (try simp only [List.map_toArray, List.map_cons, List.map_nil]); first | done | rfl | (simp only [List.length_drop, List.length_take]; rfl)) ?_; (with_reducible refine (wide_Add.calls 4095 1 0 t114 t115 _ A1.out).mono ?_); rintro e w' ⟨rfl, ⟨nd, rfl⟩⟩; refine ⟨_, rfl, ?_⟩) | ((with_reducible refine gate_callee (f := 20) rfl ?_); refine goesL_ (some 12) rfl rfl Try.func20 (by kernel_rfl) rfl #[.int .u16 32767, .int .u16 0, .int .u8 1] rfl (by (try simp only [List.map_toArray, List.map_cons, List.map_nil]); first | done | rfl | (simp only [List.length_drop, List.length_take]; rfl)) ?_; (with_reducible refine (wide_Adc.calls 32767 0 1 t116 t117 _ A2.out).mono ?_); rintro e w' ⟨rfl, ⟨nd, rfl⟩⟩; refine ⟨_, rfl, ?_⟩) | ((with_reducible refine gate_callee (f := 22) rfl ?_); refine goesL_ (some 16) rfl rfl Try.func22 (by kernel_rfl) rfl #[.int .u16 0, .int .u16 1, .int .u8 0] rfl (by (try simp only [List.map_toArray, List.map_cons, List.map_nil]); first | done | rfl | (simp only [List.length_drop, List.length_take]; rfl)) ?_; (with_reducible refine (wide_Sbc.calls 0 1 0 t118 t119 _ A3.out).mono ?_); rintro e w' ⟨rfl, ⟨nd, rfl⟩⟩; refine ⟨_, rfl, ?_⟩))
          go_ret
          exact ⟨by first | rfl | (simp; done) | (simp [*]; done), by repeat (first | exact Drawn0.refl _ | apply Drawn0.step)⟩
      · rw [if_neg c6] at H
        have c6b0 : (t116 == 32768) = false := beq_eq_false_iff_ne.mpr c6
        have c6b1 : (t116 != 32768) = true := bne_iff_ne.mpr c6
        obtain rfl := Option.some.inj H
        go_enter Try.func19, Try.ntmps19
        go_wp2_with (first | ((with_reducible refine gate_callee (f := 24) rfl ?_); refine goesL_ (some 8) rfl rfl Try.func24 (by kernel_rfl) rfl #[.int .u16 4095, .int .u16 1, .int .u8 0] rfl (by (try simp only [List.map_toArray, List.map_cons, List.map_nil]); first | done | rfl | (simp only [List.length_drop, List.length_take]; rfl)) ?_; (with_reducible refine (wide_Add.calls 4095 1 0 t114 t115 _ A1.out).mono ?_); rintro e w' ⟨rfl, ⟨nd, rfl⟩⟩; refine ⟨_, rfl, ?_⟩) | ((with_reducible refine gate_callee (f := 20) rfl ?_); refine goesL_ (some 12) rfl rfl Try.func20 (by kernel_rfl) rfl #[.int .u16 32767, .int .u16 0, .int .u8 1] rfl (by (try simp only [List.map_toArray, List.map_cons, List.map_nil]); first | done | rfl | (simp only [List.length_drop, List.length_take]; rfl)) ?_; (with_reducible refine (wide_Adc.calls 32767 0 1 t116 t117 _ A2.out).mono ?_); rintro e w' ⟨rfl, ⟨nd, rfl⟩⟩; refine ⟨_, rfl, ?_⟩) | ((with_reducible refine gate_callee (f := 22) rfl ?_); refine goesL_ (some 16) rfl rfl Try.func22 (by kernel_rfl) rfl #[.int .u16 0, .int .u16 1, .int .u8 0] rfl (by (try simp only [List.map_toArray, List.map_cons, List.map_nil]); first | done | rfl | (simp only [List.length_drop, List.length_take]; rfl)) ?_; (with_reducible refine (wide_Sbc.calls 0 1 0 t118 t119 _ A3.out).mono ?_); rintro e w' ⟨rfl, ⟨nd, rfl⟩⟩; refine ⟨_, rfl, ?_⟩))
        go_ret
        exact ⟨by first | rfl | (simp; done) | (simp [*]; done), by repeat (first | exact Drawn0.refl _ | apply Drawn0.step)⟩
    · rw [if_neg c5] at H
      have c5b0 : (t115 == 16) = false := beq_eq_false_iff_ne.mpr c5
      have c5b1 : (t115 != 16) = true := bne_iff_ne.mpr c5
      obtain rfl := Option.some.inj H
      go_enter Try.func19, Try.ntmps19
      go_wp2_with (first | ((with_reducible refine gate_callee (f := 24) rfl ?_); refine goesL_ (some 8) rfl rfl Try.func24 (by kernel_rfl) rfl #[.int .u16 4095, .int .u16 1, .int .u8 0] rfl (by (try simp only [List.map_toArray, List.map_cons, List.map_nil]); first | done | rfl | (simp only [List.length_drop, List.length_take]; rfl)) ?_; (with_reducible refine (wide_Add.calls 4095 1 0 t114 t115 _ A1.out).mono ?_); rintro e w' ⟨rfl, ⟨nd, rfl⟩⟩; refine ⟨_, rfl, ?_⟩) | ((with_reducible refine gate_callee (f := 20) rfl ?_); refine goesL_ (some 12) rfl rfl Try.func20 (by kernel_rfl) rfl #[.int .u16 32767, .int .u16 0, .int .u8 1] rfl (by (try simp only [List.map_toArray, List.map_cons, List.map_nil]); first | done | rfl | (simp only [List.length_drop, List.length_take]; rfl)) ?_; (with_reducible refine (wide_Adc.calls 32767 0 1 t116 t117 _ A2.out).mono ?_); rintro e w' ⟨rfl, ⟨nd, rfl⟩⟩; refine ⟨_, rfl, ?_⟩) | ((with_reducible refine gate_callee (f := 22) rfl ?_); refine goesL_ (some 16) rfl rfl Try.func22 (by kernel_rfl) rfl #[.int .u16 0, .int .u16 1, .int .u8 0] rfl (by (try simp only [List.map_toArray, List.map_cons, List.map_nil]); first | done | rfl | (simp only [List.length_drop, List.length_take]; rfl)) ?_; (with_reducible refine (wide_Sbc.calls 0 1 0 t118 t119 _ A3.out).mono ?_); rintro e w' ⟨rfl, ⟨nd, rfl⟩⟩; refine ⟨_, rfl, ?_⟩))
      go_ret
      exact ⟨by first | rfl | (simp; done) | (simp [*]; done), by repeat (first | exact Drawn0.refl _ | apply Drawn0.step)⟩
  · rw [if_neg c4] at H
    have c4b0 : (t114 == 4096) = false := beq_eq_false_iff_ne.mpr c4
    have c4b1 : (t114 != 4096) = true := bne_iff_ne.mpr c4
    obtain rfl := Option.some.inj H
    go_enter Try.func19, Try.ntmps19
    go_wp2_with (first | ((with_reducible refine gate_callee (f := 24) rfl ?_); refine goesL_ (some 8) rfl rfl Try.func24 (by kernel_rfl) rfl #[.int .u16 4095, .int .u16 1, .int .u8 0] rfl (by (try simp only [List.map_toArray, List.map_cons, List.map_nil]); first | done | rfl | (simp only [List.length_drop, List.length_take]; rfl)) ?_; (with_reducible refine (wide_Add.calls 4095 1 0 t114 t115 _ A1.out).mono ?_); rintro e w' ⟨rfl, ⟨nd, rfl⟩⟩; refine ⟨_, rfl, ?_⟩) | ((with_reducible refine gate_callee (f := 20) rfl ?_); refine goesL_ (some 12) rfl rfl Try.func20 (by kernel_rfl) rfl #[.int .u16 32767, .int .u16 0, .int .u8 1] rfl (by (try simp only [List.map_toArray, List.map_cons, List.map_nil]); first | done | rfl | (simp only [List.length_drop, List.length_take]; rfl)) ?_; (with_reducible refine (wide_Adc.calls 32767 0 1 t116 t117 _ A2.out).mono ?_); rintro e w' ⟨rfl, ⟨nd, rfl⟩⟩; refine ⟨_, rfl, ?_⟩) | ((with_reducible refine gate_callee (f := 22) rfl ?_); refine goesL_ (some 16) rfl rfl Try.func22 (by kernel_rfl) rfl #[.int .u16 0, .int .u16 1, .int .u8 0] rfl (by (try simp only [List.map_toArray, List.map_cons, List.map_nil]); first | done | rfl | (simp only [List.length_drop, List.length_take]; rfl)) ?_; (with_reducible refine (wide_Sbc.calls 0 1 0 t118 t119 _ A3.out).mono ?_); rintro e w' ⟨rfl, ⟨nd, rfl⟩⟩; refine ⟨_, rfl, ?_⟩))
    go_ret
    exact ⟨by first | rfl | (simp; done) | (simp [*]; done), by repeat (first | exact Drawn0.refl _ | apply Drawn0.step)⟩

/-! ### pendulumref05_one: function 82 -/
def pendulumref05_one.f (a0 : Bool) : Option (Int) := if a0 = true then (some 1) else (some 0)
set_option maxHeartbeats 8000000 in
set_option maxRecDepth 100000 in
theorem pendulumref05_one.calls (a0 : Bool) (r : Int) (w : World) (h : pendulumref05_one.f a0 = some r) :
    Calls Try.prog 82 #[.bool a0] w fun e w' => e = .returned (.int .i64 r) ∧ Drawn0 w w' := by
  have H : (if a0 = true then (some 1) else (some 0)) = some r := h
  clear h
  by_cases c2 : a0 = true
  · subst c2
    have H1 : (some 1) = some r := by rw [if_pos rfl] at H; exact H
    clear H
    have H := H1
    clear H1
    obtain rfl := Option.some.inj H
    go_enter Try.func82, Try.ntmps82
    go_wp2
    go_ret
    exact ⟨by first | rfl | (simp; done) | (simp [*]; done), by repeat (first | exact Drawn0.refl _ | apply Drawn0.step)⟩
  · replace c2 := Bool.eq_false_iff.mpr c2
    subst c2
    have H1 : (some 0) = some r := by rw [if_neg (show ¬ (false = true) by decide)] at H; exact H
    clear H
    have H := H1
    clear H1
    obtain rfl := Option.some.inj H
    go_enter Try.func82, Try.ntmps82
    go_wp2
    go_ret
    exact ⟨by first | rfl | (simp; done) | (simp [*]; done), by repeat (first | exact Drawn0.refl _ | apply Drawn0.step)⟩

/-! ### pendulumref05_signed: function 83 -/
def pendulumref05_signed.f (a0 : Int) : Option (Int) := if a0 ≥ 128 then (some (wrap64 ((wrap64 (a0)) - 256))) else (some (wrap64 (a0)))
set_option maxHeartbeats 8000000 in
set_option maxRecDepth 100000 in
theorem pendulumref05_signed.calls (a0 : Int) (r : Int) (w : World) (h : pendulumref05_signed.f a0 = some r) :
    Calls Try.prog 83 #[.int .u8 a0] w fun e w' => e = .returned (.int .i64 r) ∧ Drawn0 w w' := by
  have H : (if a0 ≥ 128 then (some (wrap64 ((wrap64 (a0)) - 256))) else (some (wrap64 (a0)))) = some r := h
  clear h
  by_cases c2 : a0 ≥ 128
  · rw [if_pos c2] at H
    have c2b0 : decide (128 ≤ a0) = true := decide_eq_true c2
    clear c2
    obtain rfl := Option.some.inj H
    go_enter Try.func83, Try.ntmps83
    go_wp2
    go_ret
    exact ⟨by first | rfl | (simp; done) | (simp [*]; done), by repeat (first | exact Drawn0.refl _ | apply Drawn0.step)⟩
  · rw [if_neg c2] at H
    have c2b0 : decide (128 ≤ a0) = false := decide_eq_false c2
    clear c2
    obtain rfl := Option.some.inj H
    go_enter Try.func83, Try.ntmps83
    go_wp2
    go_ret
    exact ⟨by first | rfl | (simp; done) | (simp [*]; done), by repeat (first | exact Drawn0.refl _ | apply Drawn0.step)⟩

/-! ### pendulumref05_Own: function 84 -/
def pendulumref05_Own.f (a0 : Int) : Option (Int) := if a0 = 0 then (some (((Go.bits .and .u8 a0 168) + 64) % 256)) else (some (Go.bits .and .u8 a0 168))
set_option maxHeartbeats 8000000 in
set_option maxRecDepth 100000 in
theorem pendulumref05_Own.calls (a0 : Int) (r : Int) (w : World) (h : pendulumref05_Own.f a0 = some r) :
    Calls Try.prog 84 #[.int .u8 a0] w fun e w' => e = .returned (.int .u8 r) ∧ Drawn0 w w' := by
  have H : (if a0 = 0 then (some (((Go.bits .and .u8 a0 168) + 64) % 256)) else (some (Go.bits .and .u8 a0 168))) = some r := h
  clear h
  by_cases c2 : a0 = 0
  · rw [if_pos c2] at H
    have c2b0 : (a0 == 0) = true := beq_iff_eq.mpr c2
    have c2b1 : (a0 != 0) = false := bne_eq_false_iff_eq.mpr c2
    clear c2
    obtain rfl := Option.some.inj H
    go_enter Try.func84, Try.ntmps84
    go_wp2
    go_ret
    exact ⟨by first | rfl | (simp; done) | (simp [*]; done), by repeat (first | exact Drawn0.refl _ | apply Drawn0.step)⟩
  · rw [if_neg c2] at H
    have c2b0 : (a0 == 0) = false := beq_eq_false_iff_ne.mpr c2
    have c2b1 : (a0 != 0) = true := bne_iff_ne.mpr c2
    obtain rfl := Option.some.inj H
    go_enter Try.func84, Try.ntmps84
    go_wp2
    go_ret
    exact ⟨by first | rfl | (simp; done) | (simp [*]; done), by repeat (first | exact Drawn0.refl _ | apply Drawn0.step)⟩

/-! ### pendulumref05_Flag: function 85 -/
def pendulumref05_Flag.f (a0 : Int) (a1 : Bool) : Option (Int) := if a1 = true then (some a0) else (some 0)
set_option maxHeartbeats 8000000 in
set_option maxRecDepth 100000 in
theorem pendulumref05_Flag.calls (a0 : Int) (a1 : Bool) (r : Int) (w : World) (h : pendulumref05_Flag.f a0 a1 = some r) :
    Calls Try.prog 85 #[.int .u8 a0, .bool a1] w fun e w' => e = .returned (.int .u8 r) ∧ Drawn0 w w' := by
  have H : (if a1 = true then (some a0) else (some 0)) = some r := h
  clear h
  by_cases c3 : a1 = true
  · subst c3
    have H1 : (some a0) = some r := by rw [if_pos rfl] at H; exact H
    clear H
    have H := H1
    clear H1
    obtain rfl := Option.some.inj H
    go_enter Try.func85, Try.ntmps85
    go_wp2
    go_ret
    exact ⟨by first | rfl | (simp; done) | (simp [*]; done), by repeat (first | exact Drawn0.refl _ | apply Drawn0.step)⟩
  · replace c3 := Bool.eq_false_iff.mpr c3
    subst c3
    have H1 : (some 0) = some r := by rw [if_neg (show ¬ (false = true) by decide)] at H; exact H
    clear H
    have H := H1
    clear H1
    obtain rfl := Option.some.inj H
    go_enter Try.func85, Try.ntmps85
    go_wp2
    go_ret
    exact ⟨by first | rfl | (simp; done) | (simp [*]; done), by repeat (first | exact Drawn0.refl _ | apply Drawn0.step)⟩

/-! ### pendulumref05_Add: function 21 -/
def pendulumref05_Add.f (a0 : Int) (a1 : Int) (a2 : Bool) : Option (Int × Int) := (pendulumref05_one.f a2).bind fun t120 => ((pendulumref05_signed.f a0).bind fun t121 => ((pendulumref05_signed.f a1).bind fun t122 => ((pendulumref05_Own.f ((wrap64 ((wrap64 ((wrap64 (a0)) + (wrap64 (a1)))) + t120)) % 256)).bind fun t123 => ((pendulumref05_Flag.f 1 (decide ((wrap64 ((wrap64 ((wrap64 (a0)) + (wrap64 (a1)))) + t120)) > 255))).bind fun t124 => ((pendulumref05_Flag.f 16 (decide ((wrap64 ((wrap64 ((wrap64 (Int.tmod a0 16)) + (wrap64 (Int.tmod a1 16)))) + t120)) > 15))).bind fun t125 => (if (wrap64 ((wrap64 (t121 + t122)) + t120)) < (-128) then ((pendulumref05_Flag.f 4 true).bind fun t126 => (some ((wrap64 ((wrap64 ((wrap64 (a0)) + (wrap64 (a1)))) + t120)) % 256, Go.bits .or .u8 (Go.bits .or .u8 (Go.bits .or .u8 t123 t124) t125) t126))) else ((pendulumref05_Flag.f 4 (decide ((wrap64 ((wrap64 (t121 + t122)) + t120)) > 127))).bind fun t127 => (some ((wrap64 ((wrap64 ((wrap64 (a0)) + (wrap64 (a1)))) + t120)) % 256, Go.bits .or .u8 (Go.bits .or .u8 (Go.bits .or .u8 t123 t124) t125) t127)))))))))
set_option maxHeartbeats 8000000 in
set_option maxRecDepth 100000 in
theorem pendulumref05_Add.calls (a0 : Int) (a1 : Int) (a2 : Bool) (r1 : Int) (r2 : Int) (w : World) (h : pendulumref05_Add.f a0 a1 a2 = some (r1, r2)) :
    Calls Try.prog 21 #[.int .u8 a0, .int .u8 a1, .bool a2] w fun e w' => e = .returned (.tuple #[.int .u8 r1, .int .u8 r2]) ∧ Drawn0 w w' := by
  have H : ((pendulumref05_one.f a2).bind fun t120 => ((pendulumref05_signed.f a0).bind fun t121 => ((pendulumref05_signed.f a1).bind fun t122 => ((pendulumref05_Own.f ((wrap64 ((wrap64 ((wrap64 (a0)) + (wrap64 (a1)))) + t120)) % 256)).bind fun t123 => ((pendulumref05_Flag.f 1 (decide ((wrap64 ((wrap64 ((wrap64 (a0)) + (wrap64 (a1)))) + t120)) > 255))).bind fun t124 => ((pendulumref05_Flag.f 16 (decide ((wrap64 ((wrap64 ((wrap64 (Int.tmod a0 16)) + (wrap64 (Int.tmod a1 16)))) + t120)) > 15))).bind fun t125 => (if (wrap64 ((wrap64 (t121 + t122)) + t120)) < (-128) then ((pendulumref05_Flag.f 4 true).bind fun t126 => (some ((wrap64 ((wrap64 ((wrap64 (a0)) + (wrap64 (a1)))) + t120)) % 256, Go.bits .or .u8 (Go.bits .or .u8 (Go.bits .or .u8 t123 t124) t125) t126))) else ((pendulumref05_Flag.f 4 (decide ((wrap64 ((wrap64 (t121 + t122)) + t120)) > 127))).bind fun t127 => (some ((wrap64 ((wrap64 ((wrap64 (a0)) + (wrap64 (a1)))) + t120)) % 256, Go.bits .or .u8 (Go.bits .or .u8 (Go.bits .or .u8 t123 t124) t125) t127)))))))))) = some (r1, r2) := h
  clear h
  replace H := Option.bind_eq_some_iff.mp H
  obtain ⟨t120, A40, H⟩ := H
  replace H : ((pendulumref05_signed.f a0).bind fun t121 => ((pendulumref05_signed.f a1).bind fun t122 => ((pendulumref05_Own.f ((wrap64 ((wrap64 ((wrap64 (a0)) + (wrap64 (a1)))) + t120)) % 256)).bind fun t123 => ((pendulumref05_Flag.f 1 (decide ((wrap64 ((wrap64 ((wrap64 (a0)) + (wrap64 (a1)))) + t120)) > 255))).bind fun t124 => ((pendulumref05_Flag.f 16 (decide ((wrap64 ((wrap64 ((wrap64 (Int.tmod a0 16)) + (wrap64 (Int.tmod a1 16)))) + t120)) > 15))).bind fun t125 => (if (wrap64 ((wrap64 (t121 + t122)) + t120)) < (-128) then ((pendulumref05_Flag.f 4 true).bind fun t126 => (some ((wrap64 ((wrap64 ((wrap64 (a0)) + (wrap64 (a1)))) + t120)) % 256, Go.bits .or .u8 (Go.bits .or .u8 (Go.bits .or .u8 t123 t124) t125) t126))) else ((pendulumref05_Flag.f 4 (decide ((wrap64 ((wrap64 (t121 + t122)) + t120)) > 127))).bind fun t127 => (some ((wrap64 ((wrap64 ((wrap64 (a0)) + (wrap64 (a1)))) + t120)) % 256, Go.bits .or .u8 (Go.bits .or .u8 (Go.bits .or .u8 t123 t124) t125) t127))))))))) = some (r1, r2) := H
  have A4 := Aside0.mk A40
  clear A40
  replace H := Option.bind_eq_some_iff.mp H
  obtain ⟨t121, A50, H⟩ := H
  replace H : ((pendulumref05_signed.f a1).bind fun t122 => ((pendulumref05_Own.f ((wrap64 ((wrap64 ((wrap64 (a0)) + (wrap64 (a1)))) + t120)) % 256)).bind fun t123 => ((pendulumref05_Flag.f 1 (decide ((wrap64 ((wrap64 ((wrap64 (a0)) + (wrap64 (a1)))) + t120)) > 255))).bind fun t124 => ((pendulumref05_Flag.f 16 (decide ((wrap64 ((wrap64 ((wrap64 (Int.tmod a0 16)) + (wrap64 (Int.tmod a1 16)))) + t120)) > 15))).bind fun t125 => (if (wrap64 ((wrap64 (t121 + t122)) + t120)) < (-128) then ((pendulumref05_Flag.f 4 true).bind fun t126 => (some ((wrap64 ((wrap64 ((wrap64 (a0)) + (wrap64 (a1)))) + t120)) % 256, Go.bits .or .u8 (Go.bits .or .u8 (Go.bits .or .u8 t123 t124) t125) t126))) else ((pendulumref05_Flag.f 4 (decide ((wrap64 ((wrap64 (t121 + t122)) + t120)) > 127))).bind fun t127 => (some ((wrap64 ((wrap64 ((wrap64 (a0)) + (wrap64 (a1)))) + t120)) % 256, Go.bits .or .u8 (Go.bits .or .u8 (Go.bits .or .u8 t123 t124) t125) t127)))))))) = some (r1, r2) := H
  have A5 := Aside0.mk A50
  clear A50
  replace H := Option.bind_eq_some_iff.mp H
  obtain ⟨t122, A60, H⟩ := H
  replace H : ((pendulumref05_Own.f ((wrap64 ((wrap64 ((wrap64 (a0)) + (wrap64 (a1)))) + t120)) % 256)).bind fun t123 => ((pendulumref05_Flag.f 1 (decide ((wrap64 ((wrap64 ((wrap64 (a0)) + (wrap64 (a1)))) + t120)) > 255))).bind fun t124 => ((pendulumref05_Flag.f 16 (decide ((wrap64 ((wrap64 ((wrap64 (Int.tmod a0 16)) + (wrap64 (Int.tmod a1 16)))) + t120)) > 15))).bind fun t125 => (if (wrap64 ((wrap64 (t121 + t122)) + t120)) < (-128) then ((pendulumref05_Flag.f 4 true).bind fun t126 => (some ((wrap64 ((wrap64 ((wrap64 (a0)) + (wrap64 (a1)))) + t120)) % 256, Go.bits .or .u8 (Go.bits .or .u8 (Go.bits .or .u8 t123 t124) t125) t126))) else ((pendulumref05_Flag.f 4 (decide ((wrap64 ((wrap64 (t121 + t122)) + t120)) > 127))).bind fun t127 => (some ((wrap64 ((wrap64 ((wrap64 (a0)) + (wrap64 (a1)))) + t120)) % 256, Go.bits .or .u8 (Go.bits .or .u8 (Go.bits .or .u8 t123 t124) t125) t127))))))) = some (r1, r2) := H
  have A6 := Aside0.mk A60
  clear A60
  replace H := Option.bind_eq_some_iff.mp H
  obtain ⟨t123, A70, H⟩ := H
  replace H : ((pendulumref05_Flag.f 1 (decide ((wrap64 ((wrap64 ((wrap64 (a0)) + (wrap64 (a1)))) + t120)) > 255))).bind fun t124 => ((pendulumref05_Flag.f 16 (decide ((wrap64 ((wrap64 ((wrap64 (Int.tmod a0 16)) + (wrap64 (Int.tmod a1 16)))) + t120)) > 15))).bind fun t125 => (if (wrap64 ((wrap64 (t121 + t122)) + t120)) < (-128) then ((pendulumref05_Flag.f 4 true).bind fun t126 => (some ((wrap64 ((wrap64 ((wrap64 (a0)) + (wrap64 (a1)))) + t120)) % 256, Go.bits .or .u8 (Go.bits .or .u8 (Go.bits .or .u8 t123 t124) t125) t126))) else ((pendulumref05_Flag.f 4 (decide ((wrap64 ((wrap64 (t121 + t122)) + t120)) > 127))).bind fun t127 => (some ((wrap64 ((wrap64 ((wrap64 (a0)) + (wrap64 (a1)))) + t120)) % 256, Go.bits .or .u8 (Go.bits .or .u8 (Go.bits .or .u8 t123 t124) t125) t127)))))) = some (r1, r2) := H
  have A7 := Aside0.mk A70
  clear A70
  replace H := Option.bind_eq_some_iff.mp H
  obtain ⟨t124, A80, H⟩ := H
  replace H : ((pendulumref05_Flag.f 16 (decide ((wrap64 ((wrap64 ((wrap64 (Int.tmod a0 16)) + (wrap64 (Int.tmod a1 16)))) + t120)) > 15))).bind fun t125 => (if (wrap64 ((wrap64 (t121 + t122)) + t120)) < (-128) then ((pendulumref05_Flag.f 4 true).bind fun t126 => (some ((wrap64 ((wrap64 ((wrap64 (a0)) + (wrap64 (a1)))) + t120)) % 256, Go.bits .or .u8 (Go.bits .or .u8 (Go.bits .or .u8 t123 t124) t125) t126))) else ((pendulumref05_Flag.f 4 (decide ((wrap64 ((wrap64 (t121 + t122)) + t120)) > 127))).bind fun t127 => (some ((wrap64 ((wrap64 ((wrap64 (a0)) + (wrap64 (a1)))) + t120)) % 256, Go.bits .or .u8 (Go.bits .or .u8 (Go.bits .or .u8 t123 t124) t125) t127))))) = some (r1, r2) := H
  have A8 := Aside0.mk A80
  clear A80
  replace H := Option.bind_eq_some_iff.mp H
  obtain ⟨t125, A90, H⟩ := H
  replace H : (if (wrap64 ((wrap64 (t121 + t122)) + t120)) < (-128) then ((pendulumref05_Flag.f 4 true).bind fun t126 => (some ((wrap64 ((wrap64 ((wrap64 (a0)) + (wrap64 (a1)))) + t120)) % 256, Go.bits .or .u8 (Go.bits .or .u8 (Go.bits .or .u8 t123 t124) t125) t126))) else ((pendulumref05_Flag.f 4 (decide ((wrap64 ((wrap64 (t121 + t122)) + t120)) > 127))).bind fun t127 => (some ((wrap64 ((wrap64 ((wrap64 (a0)) + (wrap64 (a1)))) + t120)) % 256, Go.bits .or .u8 (Go.bits .or .u8 (Go.bits .or .u8 t123 t124) t125) t127)))) = some (r1, r2) := H
  have A9 := Aside0.mk A90
  clear A90
  by_cases c10 : (wrap64 ((wrap64 (t121 + t122)) + t120)) < (-128)
  · rw [if_pos c10] at H
    have c10b0 : decide ((wrap64 ((wrap64 (t121 + t122)) + t120)) < (-128)) = true := decide_eq_true c10
    clear c10
    replace H := Option.bind_eq_some_iff.mp H
    obtain ⟨t126, A110, H⟩ := H
    replace H : (some ((wrap64 ((wrap64 ((wrap64 (a0)) + (wrap64 (a1)))) + t120)) % 256, Go.bits .or .u8 (Go.bits .or .u8 (Go.bits .or .u8 t123 t124) t125) t126)) = some (r1, r2) := H
    have A11 := Aside0.mk A110
    clear A110
    simp only [Option.some.injEq, Prod.mk.injEq] at H
    obtain ⟨rfl, rfl⟩ := H
    go_enter Try.func21, Try.ntmps21
    go_wp2_with (first | ((with_reducible refine gate_callee (f := 82) rfl ?_); refine goesL_ (some 13) rfl rfl Try.func82 (by kernel_rfl) rfl #[.bool a2] rfl (by (try simp only [List.map_toArray, List.map_cons, List.map_nil]); first | done | rfl | (simp only [List.length_drop, List.length_take]; rfl)) ?_; (with_reducible refine (pendulumref05_one.calls a2 t120 _ A4.out).mono ?_); rintro e w' ⟨rfl, ⟨nd, rfl⟩⟩; refine ⟨_, rfl, ?_⟩) | ((with_reducible refine gate_callee (f := 83) rfl ?_); refine goesL_ (some 22) rfl rfl Try.func83 (by kernel_rfl) rfl #[.int .u8 a0] rfl (by (try simp only [List.map_toArray, List.map_cons, List.map_nil]); first | done | rfl | (simp only [List.length_drop, List.length_take]; rfl)) ?_; (with_reducible refine (pendulumref05_signed.calls a0 t121 _ A5.out).mono ?_); rintro e w' ⟨rfl, ⟨nd, rfl⟩⟩; refine ⟨_, rfl, ?_⟩) | ((with_reducible refine gate_callee (f := 83) rfl ?_); refine goesL_ (some 24) rfl rfl Try.func83 (by kernel_rfl) rfl #[.int .u8 a1] rfl (by (try simp only [List.map_toArray, List.map_cons, List.map_nil]); first | done | rfl | (simp only [List.length_drop, List.length_take]; rfl)) ?_; (with_reducible refine (pendulumref05_signed.calls a1 t122 _ A6.out).mono ?_); rintro e w' ⟨rfl, ⟨nd, rfl⟩⟩; refine ⟨_, rfl, ?_⟩) | ((with_reducible refine gate_callee (f := 84) rfl ?_); refine goesL_ (some 32) rfl rfl Try.func84 (by kernel_rfl) rfl #[.int .u8 ((wrap64 ((wrap64 ((wrap64 (a0)) + (wrap64 (a1)))) + t120)) % 256)] rfl (by (try simp only [List.map_toArray, List.map_cons, List.map_nil]); first | done | rfl | (simp only [List.length_drop, List.length_take]; rfl)) ?_; (with_reducible refine (pendulumref05_Own.calls ((wrap64 ((wrap64 ((wrap64 (a0)) + (wrap64 (a1)))) + t120)) % 256) t123 _ A7.out).mono ?_); rintro e w' ⟨rfl, ⟨nd, rfl⟩⟩; refine ⟨_, rfl, ?_⟩) | ((with_reducible refine gate_callee (f := 85) rfl ?_); refine goesL_ (some 35) rfl rfl Try.func85 (by kernel_rfl) rfl #[.int .u8 1, .bool (decide ((wrap64 ((wrap64 ((wrap64 (a0)) + (wrap64 (a1)))) + t120)) > 255))] rfl (by (try simp only [List.map_toArray, List.map_cons, List.map_nil]); first | done | rfl | (simp only [List.length_drop, List.length_take]; rfl)) ?_; (with_reducible refine (pendulumref05_Flag.calls 1 (decide ((wrap64 ((wrap64 ((wrap64 (a0)) + (wrap64 (a1)))) + t120)) > 255)) t124 _ A8.out).mono ?_); rintro e w' ⟨rfl, ⟨nd, rfl⟩⟩; refine ⟨_, rfl, ?_⟩) | ((with_reducible refine gate_callee (f := 85) rfl ?_); refine goesL_ (some 47) rfl rfl Try.func85 (by kernel_rfl) rfl #[.int .u8 16, .bool (decide ((wrap64 ((wrap64 ((wrap64 (Int.tmod a0 16)) + (wrap64 (Int.tmod a1 16)))) + t120)) > 15))] rfl (by (try simp only [List.map_toArray, List.map_cons, List.map_nil]); first | done | rfl | (simp only [List.length_drop, List.length_take]; rfl)) ?_; (with_reducible refine (pendulumref05_Flag.calls 16 (decide ((wrap64 ((wrap64 ((wrap64 (Int.tmod a0 16)) + (wrap64 (Int.tmod a1 16)))) + t120)) > 15)) t125 _ A9.out).mono ?_); rintro e w' ⟨rfl, ⟨nd, rfl⟩⟩; refine ⟨_, rfl, ?_⟩) | ((with_reducible refine gate_callee (f := 85) rfl ?_); refine goesL_ (some 55) rfl rfl Try.func85 (by kernel_rfl) rfl #[.int .u8 4, .bool true] rfl (by (try simp only [List.map_toArray, List.map_cons, List.map_nil]); first | done | rfl | (simp only [List.length_drop, List.length_take]; rfl)) ?_; (with_reducible refine (pendulumref05_Flag.calls 4 true t126 _ A11.out).mono ?_); rintro e w' ⟨rfl, ⟨nd, rfl⟩⟩; refine ⟨_, rfl, ?_⟩))
    go_ret2
    exact ⟨by first | rfl | (simp; done) | (simp [*]; done), by repeat (first | exact Drawn0.refl _ | apply Drawn0.step)⟩
  · rw [if_neg c10] at H
    have c10b0 : decide ((wrap64 ((wrap64 (t121 + t122)) + t120)) < (-128)) = false := decide_eq_false c10
    clear c10
    replace H := Option.bind_eq_some_iff.mp H
    obtain ⟨t127, A120, H⟩ := H
    replace H : (some ((wrap64 ((wrap64 ((wrap64 (a0)) + (wrap64 (a1)))) + t120)) % 256, Go.bits .or .u8 (Go.bits .or .u8 (Go.bits .or .u8 t123 t124) t125) t127)) = some (r1, r2) := H
    have A12 := Aside0.mk A120
    clear A120
    simp only [Option.some.injEq, Prod.mk.injEq] at H
    obtain ⟨rfl, rfl⟩ := H
    go_enter Try.func21, Try.ntmps21
    go_wp2_with (first | ((with_reducible refine gate_callee (f := 82) rfl ?_); refine goesL_ (some 13) rfl rfl Try.func82 (by kernel_rfl) rfl #[.bool a2] rfl (by (try simp only [List.map_toArray, List.map_cons, List.map_nil]); first | done | rfl | (simp only [List.length_drop, List.length_take]; rfl)) ?_; (with_reducible refine (pendulumref05_one.calls a2 t120 _ A4.out).mono ?_); rintro e w' ⟨rfl, ⟨nd, rfl⟩⟩; refine ⟨_, rfl, ?_⟩) | ((with_reducible refine gate_callee (f := 83) rfl ?_); refine goesL_ (some 22) rfl rfl Try.func83 (by kernel_rfl) rfl #[.int .u8 a0] rfl (by (try simp only [List.map_toArray, List.map_cons, List.map_nil]); first | done | rfl | (simp only [List.length_drop, List.length_take]; rfl)) ?_; (with_reducible refine (pendulumref05_signed.calls a0 t121 _ A5.out).mono ?_); rintro e w' ⟨rfl, ⟨nd, rfl⟩⟩; refine ⟨_, rfl, ?_⟩) | ((with_reducible refine gate_callee (f := 83) rfl ?_); refine goesL_ (some 24) rfl rfl Try.func83 (by kernel_rfl) rfl #[.int .u8 a1] rfl (by (try simp only [List.map_toArray, List.map_cons, List.map_nil]); first | done | rfl | (simp only [List.length_drop, List.length_take]; rfl)) ?_; (with_reducible refine (pendulumref05_signed.calls a1 t122 _ A6.out).mono ?_); rintro e w' ⟨rfl, ⟨nd, rfl⟩⟩; refine ⟨_, rfl, ?_⟩) | ((with_reducible refine gate_callee (f := 84) rfl ?_); refine goesL_ (some 32) rfl rfl Try.func84 (by kernel_rfl) rfl #[.int .u8 ((wrap64 ((wrap64 ((wrap64 (a0)) + (wrap64 (a1)))) + t120)) % 256)] rfl (by (try simp only [List.map_toArray, List.map_cons, List.map_nil]); first | done | rfl | (simp only [List.length_drop, List.length_take]; rfl)) ?_; (with_reducible refine (pendulumref05_Own.calls ((wrap64 ((wrap64 ((wrap64 (a0)) + (wrap64 (a1)))) + t120)) % 256) t123 _ A7.out).mono ?_); rintro e w' ⟨rfl, ⟨nd, rfl⟩⟩; refine ⟨_, rfl, ?_⟩) | ((with_reducible refine gate_callee (f := 85) rfl ?_); refine goesL_ (some 35) rfl rfl Try.func85 (by kernel_rfl) rfl #[.int .u8 1, .bool (decide ((wrap64 ((wrap64 ((wrap64 (a0)) + (wrap64 (a1)))) + t120)) > 255))] rfl (by (try simp only [List.map_toArray, List.map_cons, List.map_nil]); first | done | rfl | (simp only [List.length_drop, List.length_take]; rfl)) ?_; (with_reducible refine (pendulumref05_Flag.calls 1 (decide ((wrap64 ((wrap64 ((wrap64 (a0)) + (wrap64 (a1)))) + t120)) > 255)) t124 _ A8.out).mono ?_); rintro e w' ⟨rfl, ⟨nd, rfl⟩⟩; refine ⟨_, rfl, ?_⟩) | ((with_reducible refine gate_callee (f := 85) rfl ?_); refine goesL_ (some 47) rfl rfl Try.func85 (by kernel_rfl) rfl #[.int .u8 16, .bool (decide ((wrap64 ((wrap64 ((wrap64 (Int.tmod a0 16)) + (wrap64 (Int.tmod a1 16)))) + t120)) > 15))] rfl (by (try simp only [List.map_toArray, List.map_cons, List.map_nil]); first | done | rfl | (simp only [List.length_drop, List.length_take]; rfl)) ?_; (with_reducible refine (pendulumref05_Flag.calls 16 (decide ((wrap64 ((wrap64 ((wrap64 (Int.tmod a0 16)) + (wrap64 (Int.tmod a1 16)))) + t120)) > 15)) t125 _ A9.out).mono ?_); rintro e w' ⟨rfl, ⟨nd, rfl⟩⟩; refine ⟨_, rfl, ?_⟩) | ((with_reducible refine gate_callee (f := 85) rfl ?_); refine goesL_ (some 55) rfl rfl Try.func85 (by kernel_rfl) rfl #[.int .u8 4, .bool (decide ((wrap64 ((wrap64 (t121 + t122)) + t120)) > 127))] rfl (by (try simp only [List.map_toArray, List.map_cons, List.map_nil]); first | done | rfl | (simp only [List.length_drop, List.length_take]; rfl)) ?_; (with_reducible refine (pendulumref05_Flag.calls 4 (decide ((wrap64 ((wrap64 (t121 + t122)) + t120)) > 127)) t127 _ A12.out).mono ?_); rintro e w' ⟨rfl, ⟨nd, rfl⟩⟩; refine ⟨_, rfl, ?_⟩))
    go_ret2
    exact ⟨by first | rfl | (simp; done) | (simp [*]; done), by repeat (first | exact Drawn0.refl _ | apply Drawn0.step)⟩

/-! ### pendulumref05_Sub: function 23 -/
def pendulumref05_Sub.f (a0 : Int) (a1 : Int) (a2 : Bool) : Option (Int × Int) := (pendulumref05_one.f a2).bind fun t128 => ((pendulumref05_signed.f a0).bind fun t129 => ((pendulumref05_signed.f a1).bind fun t130 => ((pendulumref05_Own.f ((wrap64 ((wrap64 ((wrap64 (a0)) - (wrap64 (a1)))) - t128)) % 256)).bind fun t131 => ((pendulumref05_Flag.f 1 (decide ((wrap64 ((wrap64 ((wrap64 (a0)) - (wrap64 (a1)))) - t128)) < 0))).bind fun t132 => ((pendulumref05_Flag.f 16 (decide ((wrap64 ((wrap64 ((wrap64 (Int.tmod a0 16)) - (wrap64 (Int.tmod a1 16)))) - t128)) < 0))).bind fun t133 => (if (wrap64 ((wrap64 (t129 - t130)) - t128)) < (-128) then ((pendulumref05_Flag.f 4 true).bind fun t134 => (some ((wrap64 ((wrap64 ((wrap64 (a0)) - (wrap64 (a1)))) - t128)) % 256, Go.bits .or .u8 (Go.bits .or .u8 (Go.bits .or .u8 (Go.bits .or .u8 t131 t132) t133) t134) 2))) else ((pendulumref05_Flag.f 4 (decide ((wrap64 ((wrap64 (t129 - t130)) - t128)) > 127))).bind fun t135 => (some ((wrap64 ((wrap64 ((wrap64 (a0)) - (wrap64 (a1)))) - t128)) % 256, Go.bits .or .u8 (Go.bits .or .u8 (Go.bits .or .u8 (Go.bits .or .u8 t131 t132) t133) t135) 2)))))))))
set_option maxHeartbeats 8000000 in
set_option maxRecDepth 100000 in
theorem pendulumref05_Sub.calls (a0 : Int) (a1 : Int) (a2 : Bool) (r1 : Int) (r2 : Int) (w : World) (h : pendulumref05_Sub.f a0 a1 a2 = some (r1, r2)) :
    Calls Try.prog 23 #[.int .u8 a0, .int .u8 a1, .bool a2] w fun e w' => e = .returned (.tuple #[.int .u8 r1, .int .u8 r2]) ∧ Drawn0 w w' := by
  have H : ((pendulumref05_one.f a2).bind fun t128 => ((pendulumref05_signed.f a0).bind fun t129 => ((pendulumref05_signed.f a1).bind fun t130 => ((pendulumref05_Own.f ((wrap64 ((wrap64 ((wrap64 (a0)) - (wrap64 (a1)))) - t128)) % 256)).bind fun t131 => ((pendulumref05_Flag.f 1 (decide ((wrap64 ((wrap64 ((wrap64 (a0)) - (wrap64 (a1)))) - t128)) < 0))).bind fun t132 => ((pendulumref05_Flag.f 16 (decide ((wrap64 ((wrap64 ((wrap64 (Int.tmod a0 16)) - (wrap64 (Int.tmod a1 16)))) - t128)) < 0))).bind fun t133 => (if (wrap64 ((wrap64 (t129 - t130)) - t128)) < (-128) then ((pendulumref05_Flag.f 4 true).bind fun t134 => (some ((wrap64 ((wrap64 ((wrap64 (a0)) - (wrap64 (a1)))) - t128)) % 256, Go.bits .or .u8 (Go.bits .or .u8 (Go.bits .or .u8 (Go.bits .or .u8 t131 t132) t133) t134) 2))) else ((pendulumref05_Flag.f 4 (decide ((wrap64 ((wrap64 (t129 - t130)) - t128)) > 127))).bind fun t135 => (some ((wrap64 ((wrap64 ((wrap64 (a0)) - (wrap64 (a1)))) - t128)) % 256, Go.bits .or .u8 (Go.bits .or .u8 (Go.bits .or .u8 (Go.bits .or .u8 t131 t132) t133) t135) 2)))))))))) = some (r1, r2) := h
  clear h
  replace H := Option.bind_eq_some_iff.mp H
  obtain ⟨t128, A40, H⟩ := H
  replace H : ((pendulumref05_signed.f a0).bind fun t129 => ((pendulumref05_signed.f a1).bind fun t130 => ((pendulumref05_Own.f ((wrap64 ((wrap64 ((wrap64 (a0)) - (wrap64 (a1)))) - t128)) % 256)).bind fun t131 => ((pendulumref05_Flag.f 1 (decide ((wrap64 ((wrap64 ((wrap64 (a0)) - (wrap64 (a1)))) - t128)) < 0))).bind fun t132 => ((pendulumref05_Flag.f 16 (decide ((wrap64 ((wrap64 ((wrap64 (Int.tmod a0 16)) - (wrap64 (Int.tmod a1 16)))) - t128)) < 0))).bind fun t133 => (if (wrap64 ((wrap64 (t129 - t130)) - t128)) < (-128) then ((pendulumref05_Flag.f 4 true).bind fun t134 => (some ((wrap64 ((wrap64 ((wrap64 (a0)) - (wrap64 (a1)))) - t128)) % 256, Go.bits .or .u8 (Go.bits .or .u8 (Go.bits .or .u8 (Go.bits .or .u8 t131 t132) t133) t134) 2))) else ((pendulumref05_Flag.f 4 (decide ((wrap64 ((wrap64 (t129 - t130)) - t128)) > 127))).bind fun t135 => (some ((wrap64 ((wrap64 ((wrap64 (a0)) - (wrap64 (a1)))) - t128)) % 256, Go.bits .or .u8 (Go.bits .or .u8 (Go.bits .or .u8 (Go.bits .or .u8 t131 t132) t133) t135) 2))))))))) = some (r1, r2) := H
  have A4 := Aside0.mk A40
  clear A40
  replace H := Option.bind_eq_some_iff.mp H
  obtain ⟨t129, A50, H⟩ := H
  replace H : ((pendulumref05_signed.f a1).bind fun t130 => ((pendulumref05_Own.f ((wrap64 ((wrap64 ((wrap64 (a0)) - (wrap64 (a1)))) - t128)) % 256)).bind fun t131 => ((pendulumref05_Flag.f 1 (decide ((wrap64 ((wrap64 ((wrap64 (a0)) - (wrap64 (a1)))) - t128)) < 0))).bind fun t132 => ((pendulumref05_Flag.f 16 (decide ((wrap64 ((wrap64 ((wrap64 (Int.tmod a0 16)) - (wrap64 (Int.tmod a1 16)))) - t128)) < 0))).bind fun t133 => (if (wrap64 ((wrap64 (t129 - t130)) - t128)) < (-128) then ((pendulumref05_Flag.f 4 true).bind fun t134 => (some ((wrap64 ((wrap64 ((wrap64 (a0)) - (wrap64 (a1)))) - t128)) % 256, Go.bits .or .u8 (Go.bits .or .u8 (Go.bits .or .u8 (Go.bits .or .u8 t131 t132) t133) t134) 2))) else ((pendulumref05_Flag.f 4 (decide ((wrap64 ((wrap64 (t129 - t130)) - t128)) > 127))).bind fun t135 => (some ((wrap64 ((wrap64 ((wrap64 (a0)) - (wrap64 (a1)))) - t128)) % 256, Go.bits .or .u8 (Go.bits .or .u8 (Go.bits .or .u8 (Go.bits .or .u8 t131 t132) t133) t135) 2)))))))) = some (r1, r2) := H
  have A5 := Aside0.mk A50
  clear A50
  replace H := Option.bind_eq_some_iff.mp H
  obtain ⟨t130, A60, H⟩ := H
  replace H : ((pendulumref05_Own.f ((wrap64 ((wrap64 ((wrap64 (a0)) - (wrap64 (a1)))) - t128)) % 256)).bind fun t131 => ((pendulumref05_Flag.f 1 (decide ((wrap64 ((wrap64 ((wrap64 (a0)) - (wrap64 (a1)))) - t128)) < 0))).bind fun t132 => ((pendulumref05_Flag.f 16 (decide ((wrap64 ((wrap64 ((wrap64 (Int.tmod a0 16)) - (wrap64 (Int.tmod a1 16)))) - t128)) < 0))).bind fun t133 => (if (wrap64 ((wrap64 (t129 - t130)) - t128)) < (-128) then ((pendulumref05_Flag.f 4 true).bind fun t134 => (some ((wrap64 ((wrap64 ((wrap64 (a0)) - (wrap64 (a1)))) - t128)) % 256, Go.bits .or .u8 (Go.bits .or .u8 (Go.bits .or .u8 (Go.bits .or .u8 t131 t132) t133) t134) 2))) else ((pendulumref05_Flag.f 4 (decide ((wrap64 ((wrap64 (t129 - t130)) - t128)) > 127))).bind fun t135 => (some ((wrap64 ((wrap64 ((wrap64 (a0)) - (wrap64 (a1)))) - t128)) % 256, Go.bits .or .u8 (Go.bits .or .u8 (Go.bits .or .u8 (Go.bits .or .u8 t131 t132) t133) t135) 2))))))) = some (r1, r2) := H
  have A6 := Aside0.mk A60
  clear A60
  replace H := Option.bind_eq_some_iff.mp H
  obtain ⟨t131, A70, H⟩ := H
  replace H : ((pendulumref05_Flag.f 1 (decide ((wrap64 ((wrap64 ((wrap64 (a0)) - (wrap64 (a1)))) - t128)) < 0))).bind fun t132 => ((pendulumref05_Flag.f 16 (decide ((wrap64 ((wrap64 ((wrap64 (Int.tmod a0 16)) - (wrap64 (Int.tmod a1 16)))) - t128)) < 0))).bind fun t133 => (if (wrap64 ((wrap64 (t129 - t130)) - t128)) < (-128) then ((pendulumref05_Flag.f 4 true).bind fun t134 => (some ((wrap64 ((wrap64 ((wrap64 (a0)) - (wrap64 (a1)))) - t128)) % 256, Go.bits .or .u8 (Go.bits .or .u8 (Go.bits .or .u8 (Go.bits .or .u8 t131 t132) t133) t134) 2))) else ((pendulumref05_Flag.f 4 (decide ((wrap64 ((wrap64 (t129 - t130)) - t128)) > 127))).bind fun t135 => (some ((wrap64 ((wrap64 ((wrap64 (a0)) - (wrap64 (a1)))) - t128)) % 256, Go.bits .or .u8 (Go.bits .or .u8 (Go.bits .or .u8 (Go.bits .or .u8 t131 t132) t133) t135) 2)))))) = some (r1, r2) := H
  have A7 := Aside0.mk A70
  clear A70
  replace H := Option.bind_eq_some_iff.mp H
  obtain ⟨t132, A80, H⟩ := H
  replace H : ((pendulumref05_Flag.f 16 (decide ((wrap64 ((wrap64 ((wrap64 (Int.tmod a0 16)) - (wrap64 (Int.tmod a1 16)))) - t128)) < 0))).bind fun t133 => (if (wrap64 ((wrap64 (t129 - t130)) - t128)) < (-128) then ((pendulumref05_Flag.f 4 true).bind fun t134 => (some ((wrap64 ((wrap64 ((wrap64 (a0)) - (wrap64 (a1)))) - t128)) % 256, Go.bits .or .u8 (Go.bits .or .u8 (Go.bits .or .u8 (Go.bits .or .u8 t131 t132) t133) t134) 2))) else ((pendulumref05_Flag.f 4 (decide ((wrap64 ((wrap64 (t129 - t130)) - t128)) > 127))).bind fun t135 => (some ((wrap64 ((wrap64 ((wrap64 (a0)) - (wrap64 (a1)))) - t128)) % 256, Go.bits .or .u8 (Go.bits .or .u8 (Go.bits .or .u8 (Go.bits .or .u8 t131 t132) t133) t135) 2))))) = some (r1, r2) := H
  have A8 := Aside0.mk A80
  clear A80
  replace H := Option.bind_eq_some_iff.mp H
  obtain ⟨t133, A90, H⟩ := H
  replace H : (if (wrap64 ((wrap64 (t129 - t130)) - t128)) < (-128) then ((pendulumref05_Flag.f 4 true).bind fun t134 => (some ((wrap64 ((wrap64 ((wrap64 (a0)) - (wrap64 (a1)))) - t128)) % 256, Go.bits .or .u8 (Go.bits .or .u8 (Go.bits .or .u8 (Go.bits .or .u8 t131 t132) t133) t134) 2))) else ((pendulumref05_Flag.f 4 (decide ((wrap64 ((wrap64 (t129 - t130)) - t128)) > 127))).bind fun t135 => (some ((wrap64 ((wrap64 ((wrap64 (a0)) - (wrap64 (a1)))) - t128)) % 256, Go.bits .or .u8 (Go.bits .or .u8 (Go.bits .or .u8 (Go.bits .or .u8 t131 t132) t133) t135) 2)))) = some (r1, r2) := H
  have A9 := Aside0.mk A90
  clear A90
  by_cases c10 : (wrap64 ((wrap64 (t129 - t130)) - t128)) < (-128)
  · rw [if_pos c10] at H
    have c10b0 : decide ((wrap64 ((wrap64 (t129 - t130)) - t128)) < (-128)) = true := decide_eq_true c10
    clear c10
    replace H := Option.bind_eq_some_iff.mp H
    obtain ⟨t134, A110, H⟩ := H
    replace H : (some ((wrap64 ((wrap64 ((wrap64 (a0)) - (wrap64 (a1)))) - t128)) % 256, Go.bits .or .u8 (Go.bits .or .u8 (Go.bits .or .u8 (Go.bits .or .u8 t131 t132) t133) t134) 2)) = some (r1, r2) := H
    have A11 := Aside0.mk A110
    clear A110
    simp only [Option.some.injEq, Prod.mk.injEq] at H
    obtain ⟨rfl, rfl⟩ := H
    go_enter Try.func23, Try.ntmps23
    go_wp2_with (first | ((with_reducible refine gate_callee (f := 82) rfl ?_); refine goesL_ (some 13) rfl rfl Try.func82 (by kernel_rfl) rfl #[.bool a2] rfl (by (try simp only [List.map_toArray, List.map_cons, List.map_nil]); first | done | rfl | (simp only [List.length_drop, List.length_take]; rfl)) ?_; (with_reducible refine (pendulumref05_one.calls a2 t128 _ A4.out).mono ?_); rintro e w' ⟨rfl, ⟨nd, rfl⟩⟩; refine ⟨_, rfl, ?_⟩) | ((with_reducible refine gate_callee (f := 83) rfl ?_); refine goesL_ (some 22) rfl rfl Try.func83 (by kernel_rfl) rfl #[.int .u8 a0] rfl (by (try simp only [List.map_toArray, List.map_cons, List.map_nil]); first | done | rfl | (simp only [List.length_drop, List.length_take]; rfl)) ?_; (with_reducible refine (pendulumref05_signed.calls a0 t129 _ A5.out).mono ?_); rintro e w' ⟨rfl, ⟨nd, rfl⟩⟩; refine ⟨_, rfl, ?_⟩) | ((with_reducible refine gate_callee (f := 83) rfl ?_); refine goesL_ (some 24) rfl rfl Try.func83 (by kernel_rfl) rfl #[.int .u8 a1] rfl (by (try simp only [List.map_toArray, List.map_cons, List.map_nil]); first | done | rfl | (simp only [List.length_drop, List.length_take]; rfl)) ?_; (with_reducible refine (pendulumref05_signed.calls a1 t130 _ A6.out).mono ?_); rintro e w' ⟨rfl, ⟨nd, rfl⟩⟩; refine ⟨_, rfl, ?_⟩) | ((with_reducible refine gate_callee (f := 84) rfl ?_); refine goesL_ (some 32) rfl rfl Try.func84 (by kernel_rfl) rfl #[.int .u8 ((wrap64 ((wrap64 ((wrap64 (a0)) - (wrap64 (a1)))) - t128)) % 256)] rfl (by (try simp only [List.map_toArray, List.map_cons, List.map_nil]); first | done | rfl | (simp only [List.length_drop, List.length_take]; rfl)) ?_; (with_reducible refine (pendulumref05_Own.calls ((wrap64 ((wrap64 ((wrap64 (a0)) - (wrap64 (a1)))) - t128)) % 256) t131 _ A7.out).mono ?_); rintro e w' ⟨rfl, ⟨nd, rfl⟩⟩; refine ⟨_, rfl, ?_⟩) | ((with_reducible refine gate_callee (f := 85) rfl ?_); refine goesL_ (some 35) rfl rfl Try.func85 (by kernel_rfl) rfl #[.int .u8 1, .bool (decide ((wrap64 ((wrap64 ((wrap64 (a0)) - (wrap64 (a1)))) - t128)) < 0))] rfl (by (try simp only [List.map_toArray, List.map_cons, List.map_nil]); first | done | rfl | (simp only [List.length_drop, List.length_take]; rfl)) ?_; (with_reducible refine (pendulumref05_Flag.calls 1 (decide ((wrap64 ((wrap64 ((wrap64 (a0)) - (wrap64 (a1)))) - t128)) < 0)) t132 _ A8.out).mono ?_); rintro e w' ⟨rfl, ⟨nd, rfl⟩⟩; refine ⟨_, rfl, ?_⟩) | ((with_reducible refine gate_callee (f := 85) rfl ?_); refine goesL_ (some 47) rfl rfl Try.func85 (by kernel_rfl) rfl #[.int .u8 16, .bool (decide ((wrap64 ((wrap64 ((wrap64 (Int.tmod a0 16)) - (wrap64 (Int.tmod a1 16)))) - t128)) < 0))] rfl (by (try simp only [List.map_toArray, List.map_cons, List.map_nil]); first | done | rfl | (simp only [List.length_drop, List.length_take]; rfl)) ?_; (with_reducible refine (pendulumref05_Flag.calls 16 (decide ((wrap64 ((wrap64 ((wrap64 (Int.tmod a0 16)) - (wrap64 (Int.tmod a1 16)))) - t128)) < 0)) t133 _ A9.out).mono ?_); rintro e w' ⟨rfl, ⟨nd, rfl⟩⟩; refine ⟨_, rfl, ?_⟩) | ((with_reducible refine gate_callee (f := 85) rfl ?_); refine goesL_ (some 55) rfl rfl Try.func85 (by kernel_rfl) rfl #[.int .u8 4, .bool true] rfl (by (try simp only [List.map_toArray, List.map_cons, List.map_nil]); first | done | rfl | (simp only [List.length_drop, List.length_take]; rfl)) ?_; (with_reducible refine (pendulumref05_Flag.calls 4 true t134 _ A11.out).mono ?_); rintro e w' ⟨rfl, ⟨nd, rfl⟩⟩; refine ⟨_, rfl, ?_⟩))
    go_ret2
    exact ⟨by first | rfl | (simp; done) | (simp [*]; done), by repeat (first | exact Drawn0.refl _ | apply Drawn0.step)⟩
  · rw [if_neg c10] at H
    have c10b0 : decide ((wrap64 ((wrap64 (t129 - t130)) - t128)) < (-128)) = false := decide_eq_false c10
    clear c10
    replace H := Option.bind_eq_some_iff.mp H
    obtain ⟨t135, A120, H⟩ := H
    replace H : (some ((wrap64 ((wrap64 ((wrap64 (a0)) - (wrap64 (a1)))) - t128)) % 256, Go.bits .or .u8 (Go.bits .or .u8 (Go.bits .or .u8 (Go.bits .or .u8 t131 t132) t133) t135) 2)) = some (r1, r2) := H
    have A12 := Aside0.mk A120
    clear A120
    simp only [Option.some.injEq, Prod.mk.injEq] at H
    obtain ⟨rfl, rfl⟩ := H
    go_enter Try.func23, Try.ntmps23
    go_wp2_with (first | ((with_reducible refine gate_callee (f := 82) rfl ?_); refine goesL_ (some 13) rfl rfl Try.func82 (by kernel_rfl) rfl #[.bool a2] rfl (by (try simp only [List.map_toArray, List.map_cons, List.map_nil]); first | done | rfl | (simp only [List.length_drop, List.length_take]; rfl)) ?_; (with_reducible refine (pendulumref05_one.calls a2 t128 _ A4.out).mono ?_); rintro e w' ⟨rfl, ⟨nd, rfl⟩⟩; refine ⟨_, rfl, ?_⟩) | ((with_reducible refine gate_callee (f := 83) rfl ?_); refine goesL_ (some 22) rfl rfl Try.func83 (by kernel_rfl) rfl #[.int .u8 a0] rfl (by (try simp only [List.map_toArray, List.map_cons, List.map_nil]); first | done | rfl | (simp only [List.length_drop, List.length_take]; rfl)) ?_; (with_reducible refine (pendulumref05_signed.calls a0 t129 _ A5.out).mono ?_); rintro e w' ⟨rfl, ⟨nd, rfl⟩⟩; refine ⟨_, rfl, ?_⟩) | ((with_reducible refine gate_callee (f := 83) rfl ?_); refine goesL_ (some 24) rfl rfl Try.func83 (by kernel_rfl) rfl #[.int .u8 a1] rfl (by (try simp only [List.map_toArray, List.map_cons, List.map_nil]); first | done | rfl | (simp only [List.length_drop, List.length_take]; rfl)) ?_; (with_reducible refine (pendulumref05_signed.calls a1 t130 _ A6.out).mono ?_); rintro e w' ⟨rfl, ⟨nd, rfl⟩⟩; refine ⟨_, rfl, ?_⟩) | ((with_reducible refine gate_callee (f := 84) rfl ?_); refine goesL_ (some 32) rfl rfl Try.func84 (by kernel_rfl) rfl #[.int .u8 ((wrap64 ((wrap64 ((wrap64 (a0)) - (wrap64 (a1)))) - t128)) % 256)] rfl (by (try simp only [List.map_toArray, List.map_cons, List.map_nil]); first | done | rfl | (simp only [List.length_drop, List.length_take]; rfl)) ?_; (with_reducible refine (pendulumref05_Own.calls ((wrap64 ((wrap64 ((wrap64 (a0)) - (wrap64 (a1)))) - t128)) % 256) t131 _ A7.out).mono ?_); rintro e w' ⟨rfl, ⟨nd, rfl⟩⟩; refine ⟨_, rfl, ?_⟩) | ((with_reducible refine gate_callee (f := 85) rfl ?_); refine goesL_ (some 35) rfl rfl Try.func85 (by kernel_rfl) rfl #[.int .u8 1, .bool (decide ((wrap64 ((wrap64 ((wrap64 (a0)) - (wrap64 (a1)))) - t128)) < 0))] rfl (by (try simp only [List.map_toArray, List.map_cons, List.map_nil]); first | done | rfl | (simp only [List.length_drop, List.length_take]; rfl)) ?_; (with_reducible refine (pendulumref05_Flag.calls 1 (decide ((wrap64 ((wrap64 ((wrap64 (a0)) - (wrap64 (a1)))) - t128)) < 0)) t132 _ A8.out).mono ?_); rintro e w' ⟨rfl, ⟨nd, rfl⟩⟩; refine ⟨_, rfl, ?_⟩) | ((with_reducible refine gate_callee (f := 85) rfl ?_); refine goesL_ (some 47) rfl rfl Try.func85 (by kernel_rfl) rfl #[.int .u8 16, .bool (decide ((wrap64 ((wrap64 ((wrap64 (Int.tmod a0 16)) - (wrap64 (Int.tmod a1 16)))) - t128)) < 0))] rfl (by (try simp only [List.map_toArray, List.map_cons, List.map_nil]); first | done | rfl | (simp only [List.length_drop, List.length_take]; rfl)) ?_; (with_reducible refine (pendulumref05_Flag.calls 16 (decide ((wrap64 ((wrap64 ((wrap64 (Int.tmod a0 16)) - (wrap64 (Int.tmod a1 16)))) - t128)) < 0)) t133 _ A9.out).mono ?_); rintro e w' ⟨rfl, ⟨nd, rfl⟩⟩; refine ⟨_, rfl, ?_⟩) | ((with_reducible refine gate_callee (f := 85) rfl ?_); refine goesL_ (some 55) rfl rfl Try.func85 (by kernel_rfl) rfl #[.int .u8 4, .bool (decide ((wrap64 ((wrap64 (t129 - t130)) - t128)) > 127))] rfl (by (try simp only [List.map_toArray, List.map_cons, List.map_nil]); first | done | rfl | (simp only [List.length_drop, List.length_take]; rfl)) ?_; (with_reducible refine (pendulumref05_Flag.calls 4 (decide ((wrap64 ((wrap64 (t129 - t130)) - t128)) > 127)) t135 _ A12.out).mono ?_); rintro e w' ⟨rfl, ⟨nd, rfl⟩⟩; refine ⟨_, rfl, ?_⟩))
    go_ret2
    exact ⟨by first | rfl | (simp; done) | (simp [*]; done), by repeat (first | exact Drawn0.refl _ | apply Drawn0.step)⟩

/-! ### pendulumlaw07_WideBytes: function 3 -/
mutual
def pendulumlaw07_WideBytes.j0 : Nat → Int → Int → Int → Bool → Bool → Option (Bool)
  | 0, _, _, _, _, _ => none
  | k + 1, x0, x1, x2, x7, x71 => if x71 = true then (some false) else ((wide_Sbc.f x0 x1 x2).bind fun bt143 => ((pendulumref05_Sub.f ((x0) % 256) ((x1) % 256) x7).bind fun bt145 => ((pendulumref05_Sub.f ((x0 / 256) % 256) ((x1 / 256) % 256) ((Go.bits .and .u8 bt145.2 1) != 0)).bind fun bt147 => (if bt143.1 = (Go.bits .or .u16 (IntKind.u16.wrap ((IntKind.u16.wrap (bt147.1)) * 256)) (IntKind.u16.wrap (bt145.1))) then (if (Go.bits .andNot .u8 bt143.2 64) = (Go.bits .andNot .u8 bt147.2 64) then (pendulumlaw07_WideBytes.j1 k x0 x1 x2 (((Go.bits .and .u8 bt143.2 64) != 0) != (bt143.1 == 0))) else (pendulumlaw07_WideBytes.j1 k x0 x1 x2 true)) else (pendulumlaw07_WideBytes.j1 k x0 x1 x2 true)))))
def pendulumlaw07_WideBytes.j1 : Nat → Int → Int → Int → Bool → Option (Bool)
  | 0, _, _, _, _ => none
  | k + 1, x0, x1, x2, x123 => if x123 = true then (some false) else ((wide_Add.f x0 x1 x2).bind fun bt149 => ((pendulumref05_Add.f ((x0) % 256) ((x1) % 256) false).bind fun bt151 => ((pendulumref05_Add.f ((x0 / 256) % 256) ((x1 / 256) % 256) ((Go.bits .and .u8 bt151.2 1) != 0)).bind fun bt153 => (if bt149.1 = (Go.bits .or .u16 (IntKind.u16.wrap ((IntKind.u16.wrap (bt153.1)) * 256)) (IntKind.u16.wrap (bt151.1))) then (if (Go.bits .and .u8 bt149.2 196) = (Go.bits .and .u8 x2 196) then (some ((Go.bits .andNot .u8 bt149.2 196) == (Go.bits .andNot .u8 bt153.2 196))) else (some false)) else (some false)))))
end
def pendulumlaw07_WideBytes.f (k : Nat) (a0 : Int) (a1 : Int) (a2 : Int) : Option (Bool) := (pendulumlaw07_lives.f).bind fun t136 => (if t136 = true then ((wide_Adc.f a0 a1 a2).bind fun bt137 => ((pendulumref05_Add.f ((a0) % 256) ((a1) % 256) ((Go.bits .and .u8 a2 1) != 0)).bind fun bt139 => ((pendulumref05_Add.f ((a0 / 256) % 256) ((a1 / 256) % 256) ((Go.bits .and .u8 bt139.2 1) != 0)).bind fun bt141 => (if bt137.1 = (Go.bits .or .u16 (IntKind.u16.wrap ((IntKind.u16.wrap (bt141.1)) * 256)) (IntKind.u16.wrap (bt139.1))) then (if (Go.bits .andNot .u8 bt137.2 64) = (Go.bits .andNot .u8 bt141.2 64) then (pendulumlaw07_WideBytes.j0 k a0 a1 a2 ((Go.bits .and .u8 a2 1) != 0) (((Go.bits .and .u8 bt137.2 64) != 0) != (bt137.1 == 0))) else (pendulumlaw07_WideBytes.j0 k a0 a1 a2 ((Go.bits .and .u8 a2 1) != 0) true)) else (pendulumlaw07_WideBytes.j0 k a0 a1 a2 ((Go.bits .and .u8 a2 1) != 0) true))))) else (some false))
theorem pendulumlaw07_WideBytes.mono_l : ∀ k, (∀ y0 y1 y2 y3 y4, LeO (pendulumlaw07_WideBytes.j0 k y0 y1 y2 y3 y4) (pendulumlaw07_WideBytes.j0 (k + 1) y0 y1 y2 y3 y4)) ∧ (∀ y0 y1 y2 y3, LeO (pendulumlaw07_WideBytes.j1 k y0 y1 y2 y3) (pendulumlaw07_WideBytes.j1 (k + 1) y0 y1 y2 y3))
  | 0 => ⟨fun _ _ _ _ _ r h => by simp [pendulumlaw07_WideBytes.j0] at h, fun _ _ _ _ r h => by simp [pendulumlaw07_WideBytes.j1] at h⟩
  | k + 1 => by
    obtain ⟨ih0, ih1⟩ := pendulumlaw07_WideBytes.mono_l k
    refine ⟨?_, ?_⟩
    · intro y0 y1 y2 y3 y4
      unfold pendulumlaw07_WideBytes.j0
      repeat' first
      | (with_reducible exact ih0 _ _ _ _ _)
      | (with_reducible exact ih1 _ _ _ _)
      | (with_reducible exact LeO.refl _)
      | (with_reducible exact LeO.none _)
      | (with_reducible refine LeO.ite ?_ ?_)
      | (with_reducible refine LeO.bind ?_ (fun _ => ?_))
      | exact ih0 _ _ _ _ _
      | exact ih1 _ _ _ _
      | exact LeO.none _
      | refine LeO.ite ?_ ?_
      | refine LeO.bind ?_ (fun _ => ?_)
    · intro y0 y1 y2 y3
      unfold pendulumlaw07_WideBytes.j1
      repeat' first
      | (with_reducible exact ih0 _ _ _ _ _)
      | (with_reducible exact ih1 _ _ _ _)
      | (with_reducible exact LeO.refl _)
      | (with_reducible exact LeO.none _)
      | (with_reducible refine LeO.ite ?_ ?_)
      | (with_reducible refine LeO.bind ?_ (fun _ => ?_))
      | exact ih0 _ _ _ _ _
      | exact ih1 _ _ _ _
      | exact LeO.none _
      | refine LeO.ite ?_ ?_
      | refine LeO.bind ?_ (fun _ => ?_)
theorem pendulumlaw07_WideBytes.mono : ∀ a0 a1 a2 k, LeO (pendulumlaw07_WideBytes.f k a0 a1 a2) (pendulumlaw07_WideBytes.f (k + 1) a0 a1 a2) := by
  intro a0 a1 a2 k
  obtain ⟨ih0, ih1⟩ := pendulumlaw07_WideBytes.mono_l k
  unfold pendulumlaw07_WideBytes.f
  repeat' first
      | (with_reducible exact ih0 _ _ _ _ _)
      | (with_reducible exact ih1 _ _ _ _)
      | (with_reducible exact LeO.refl _)
      | (with_reducible exact LeO.none _)
      | (with_reducible refine LeO.ite ?_ ?_)
      | (with_reducible refine LeO.bind ?_ (fun _ => ?_))
      | exact ih0 _ _ _ _ _
      | exact ih1 _ _ _ _
      | exact LeO.none _
      | refine LeO.ite ?_ ?_
      | refine LeO.bind ?_ (fun _ => ?_)
set_option maxHeartbeats 8000000 in
set_option maxRecDepth 100000 in
theorem pendulumlaw07_WideBytes.calls (k : Nat) (a0 : Int) (a1 : Int) (a2 : Int) (r : Bool) (w : World) (h : pendulumlaw07_WideBytes.f k a0 a1 a2 = some r) :
    Calls Try.prog 3 #[.int .u16 a0, .int .u16 a1, .int .u8 a2] w fun e w' => e = .returned (.bool r) ∧ Drawn0 w w' := by
  have H : ((pendulumlaw07_lives.f).bind fun t136 => (if t136 = true then ((wide_Adc.f a0 a1 a2).bind fun bt137 => ((pendulumref05_Add.f ((a0) % 256) ((a1) % 256) ((Go.bits .and .u8 a2 1) != 0)).bind fun bt139 => ((pendulumref05_Add.f ((a0 / 256) % 256) ((a1 / 256) % 256) ((Go.bits .and .u8 bt139.2 1) != 0)).bind fun bt141 => (if bt137.1 = (Go.bits .or .u16 (IntKind.u16.wrap ((IntKind.u16.wrap (bt141.1)) * 256)) (IntKind.u16.wrap (bt139.1))) then (if (Go.bits .andNot .u8 bt137.2 64) = (Go.bits .andNot .u8 bt141.2 64) then (pendulumlaw07_WideBytes.j0 k a0 a1 a2 ((Go.bits .and .u8 a2 1) != 0) (((Go.bits .and .u8 bt137.2 64) != 0) != (bt137.1 == 0))) else (pendulumlaw07_WideBytes.j0 k a0 a1 a2 ((Go.bits .and .u8 a2 1) != 0) true)) else (pendulumlaw07_WideBytes.j0 k a0 a1 a2 ((Go.bits .and .u8 a2 1) != 0) true))))) else (some false))) = some r := h
  clear h
  replace H := Option.bind_eq_some_iff.mp H
  obtain ⟨t136, A40, H⟩ := H
  replace H : (if t136 = true then ((wide_Adc.f a0 a1 a2).bind fun bt137 => ((pendulumref05_Add.f ((a0) % 256) ((a1) % 256) ((Go.bits .and .u8 a2 1) != 0)).bind fun bt139 => ((pendulumref05_Add.f ((a0 / 256) % 256) ((a1 / 256) % 256) ((Go.bits .and .u8 bt139.2 1) != 0)).bind fun bt141 => (if bt137.1 = (Go.bits .or .u16 (IntKind.u16.wrap ((IntKind.u16.wrap (bt141.1)) * 256)) (IntKind.u16.wrap (bt139.1))) then (if (Go.bits .andNot .u8 bt137.2 64) = (Go.bits .andNot .u8 bt141.2 64) then (pendulumlaw07_WideBytes.j0 k a0 a1 a2 ((Go.bits .and .u8 a2 1) != 0) (((Go.bits .and .u8 bt137.2 64) != 0) != (bt137.1 == 0))) else (pendulumlaw07_WideBytes.j0 k a0 a1 a2 ((Go.bits .and .u8 a2 1) != 0) true)) else (pendulumlaw07_WideBytes.j0 k a0 a1 a2 ((Go.bits .and .u8 a2 1) != 0) true))))) else (some false)) = some r := H
  have A4 := Aside0.mk A40
  clear A40
  by_cases c5 : t136 = true
  · subst c5
    have H1 : ((wide_Adc.f a0 a1 a2).bind fun bt137 => ((pendulumref05_Add.f ((a0) % 256) ((a1) % 256) ((Go.bits .and .u8 a2 1) != 0)).bind fun bt139 => ((pendulumref05_Add.f ((a0 / 256) % 256) ((a1 / 256) % 256) ((Go.bits .and .u8 bt139.2 1) != 0)).bind fun bt141 => (if bt137.1 = (Go.bits .or .u16 (IntKind.u16.wrap ((IntKind.u16.wrap (bt141.1)) * 256)) (IntKind.u16.wrap (bt139.1))) then (if (Go.bits .andNot .u8 bt137.2 64) = (Go.bits .andNot .u8 bt141.2 64) then (pendulumlaw07_WideBytes.j0 k a0 a1 a2 ((Go.bits .and .u8 a2 1) != 0) (((Go.bits .and .u8 bt137.2 64) != 0) != (bt137.1 == 0))) else (pendulumlaw07_WideBytes.j0 k a0 a1 a2 ((Go.bits .and .u8 a2 1) != 0) true)) else (pendulumlaw07_WideBytes.j0 k a0 a1 a2 ((Go.bits .and .u8 a2 1) != 0) true))))) = some r := by rw [if_pos rfl] at H; exact H
    clear H
    have H := H1
    clear H1
    replace H := Option.bind_eq_some_iff.mp H
    obtain ⟨⟨t137, t138⟩, A60, H⟩ := H
    replace H : ((pendulumref05_Add.f ((a0) % 256) ((a1) % 256) ((Go.bits .and .u8 a2 1) != 0)).bind fun bt139 => ((pendulumref05_Add.f ((a0 / 256) % 256) ((a1 / 256) % 256) ((Go.bits .and .u8 bt139.2 1) != 0)).bind fun bt141 => (if t137 = (Go.bits .or .u16 (IntKind.u16.wrap ((IntKind.u16.wrap (bt141.1)) * 256)) (IntKind.u16.wrap (bt139.1))) then (if (Go.bits .andNot .u8 t138 64) = (Go.bits .andNot .u8 bt141.2 64) then (pendulumlaw07_WideBytes.j0 k a0 a1 a2 ((Go.bits .and .u8 a2 1) != 0) (((Go.bits .and .u8 t138 64) != 0) != (t137 == 0))) else (pendulumlaw07_WideBytes.j0 k a0 a1 a2 ((Go.bits .and .u8 a2 1) != 0) true)) else (pendulumlaw07_WideBytes.j0 k a0 a1 a2 ((Go.bits .and .u8 a2 1) != 0) true)))) = some r := H
    have A6 := Aside0.mk A60
    clear A60
    replace H := Option.bind_eq_some_iff.mp H
    obtain ⟨⟨t139, t140⟩, A70, H⟩ := H
    replace H : ((pendulumref05_Add.f ((a0 / 256) % 256) ((a1 / 256) % 256) ((Go.bits .and .u8 t140 1) != 0)).bind fun bt141 => (if t137 = (Go.bits .or .u16 (IntKind.u16.wrap ((IntKind.u16.wrap (bt141.1)) * 256)) (IntKind.u16.wrap (t139))) then (if (Go.bits .andNot .u8 t138 64) = (Go.bits .andNot .u8 bt141.2 64) then (pendulumlaw07_WideBytes.j0 k a0 a1 a2 ((Go.bits .and .u8 a2 1) != 0) (((Go.bits .and .u8 t138 64) != 0) != (t137 == 0))) else (pendulumlaw07_WideBytes.j0 k a0 a1 a2 ((Go.bits .and .u8 a2 1) != 0) true)) else (pendulumlaw07_WideBytes.j0 k a0 a1 a2 ((Go.bits .and .u8 a2 1) != 0) true))) = some r := H
    have A7 := Aside0.mk A70
    clear A70
    replace H := Option.bind_eq_some_iff.mp H
    obtain ⟨⟨t141, t142⟩, A80, H⟩ := H
    replace H : (if t137 = (Go.bits .or .u16 (IntKind.u16.wrap ((IntKind.u16.wrap (t141)) * 256)) (IntKind.u16.wrap (t139))) then (if (Go.bits .andNot .u8 t138 64) = (Go.bits .andNot .u8 t142 64) then (pendulumlaw07_WideBytes.j0 k a0 a1 a2 ((Go.bits .and .u8 a2 1) != 0) (((Go.bits .and .u8 t138 64) != 0) != (t137 == 0))) else (pendulumlaw07_WideBytes.j0 k a0 a1 a2 ((Go.bits .and .u8 a2 1) != 0) true)) else (pendulumlaw07_WideBytes.j0 k a0 a1 a2 ((Go.bits .and .u8 a2 1) != 0) true)) = some r := H
    have A8 := Aside0.mk A80
    clear A80
    have HC9 := Aside0.mk H
    clear H
    go_enter Try.func3, Try.ntmps3
    go_upto_region 7 with (first | ((with_reducible refine gate_callee (f := 19) rfl ?_); refine goesL_ (some 15) rfl rfl Try.func19 (by kernel_rfl) rfl #[] rfl (by (try simp only [List.map_toArray, List.map_cons, List.map_nil]); first | done | rfl | (simp only [List.length_drop, List.length_take]; rfl)) ?_; (with_reducible refine (pendulumlaw07_lives.calls  true _ A4.out).mono ?_); rintro e w' ⟨rfl, ⟨nd, rfl⟩⟩; refine ⟨_, rfl, ?_⟩) | ((with_reducible refine gate_callee (f := 20) rfl ?_); refine goesL_ (some 24) rfl rfl Try.func20 (by kernel_rfl) rfl #[.int .u16 a0, .int .u16 a1, .int .u8 a2] rfl (by (try simp only [List.map_toArray, List.map_cons, List.map_nil]); first | done | rfl | (simp only [List.length_drop, List.length_take]; rfl)) ?_; (with_reducible refine (wide_Adc.calls a0 a1 a2 t137 t138 _ A6.out).mono ?_); rintro e w' ⟨rfl, ⟨nd, rfl⟩⟩; refine ⟨_, rfl, ?_⟩) | ((with_reducible refine gate_callee (f := 21) rfl ?_); refine goesL_ (some 33) rfl rfl Try.func21 (by kernel_rfl) rfl #[.int .u8 ((a0) % 256), .int .u8 ((a1) % 256), .bool ((Go.bits .and .u8 a2 1) != 0)] rfl (by (try simp only [List.map_toArray, List.map_cons, List.map_nil]); first | done | rfl | (simp only [List.length_drop, List.length_take]; rfl)) ?_; (with_reducible refine (pendulumref05_Add.calls ((a0) % 256) ((a1) % 256) ((Go.bits .and .u8 a2 1) != 0) t139 t140 _ A7.out).mono ?_); rintro e w' ⟨rfl, ⟨nd, rfl⟩⟩; refine ⟨_, rfl, ?_⟩) | ((with_reducible refine gate_callee (f := 21) rfl ?_); refine goesL_ (some 46) rfl rfl Try.func21 (by kernel_rfl) rfl #[.int .u8 ((a0 / 256) % 256), .int .u8 ((a1 / 256) % 256), .bool ((Go.bits .and .u8 t140 1) != 0)] rfl (by (try simp only [List.map_toArray, List.map_cons, List.map_nil]); first | done | rfl | (simp only [List.length_drop, List.length_take]; rfl)) ?_; (with_reducible refine (pendulumref05_Add.calls ((a0 / 256) % 256) ((a1 / 256) % 256) ((Go.bits .and .u8 t140 1) != 0) t141 t142 _ A8.out).mono ?_); rintro e w' ⟨rfl, ⟨nd, rfl⟩⟩; refine ⟨_, rfl, ?_⟩))
    (try simp only [Act.put, List.setIfInBounds_toArray, List.set_cons_zero, List.set_cons_succ])
    go_cut [71] (fun v71 wc => ∃ (kq : Nat) (x71_8 : Bool), v71 = .bool x71_8 ∧ Aside0 (pendulumlaw07_WideBytes.j0 kq a0 a1 a2 ((Go.bits .and .u8 a2 1) != 0) x71_8 = some r) ∧ Aside0 (kq ≤ k) ∧ Drawn0 w wc)
    case first =>
      have H := HC9.out
      clear HC9
      by_cases c10 : t137 = (Go.bits .or .u16 (IntKind.u16.wrap ((IntKind.u16.wrap (t141)) * 256)) (IntKind.u16.wrap (t139)))
      · rw [if_pos c10] at H
        have c10b0 : (t137 == (Go.bits .or .u16 (IntKind.u16.wrap ((IntKind.u16.wrap (t141)) * 256)) (IntKind.u16.wrap (t139)))) = true := beq_iff_eq.mpr c10
        have c10b1 : (t137 != (Go.bits .or .u16 (IntKind.u16.wrap ((IntKind.u16.wrap (t141)) * 256)) (IntKind.u16.wrap (t139)))) = false := bne_eq_false_iff_eq.mpr c10
        clear c10
        (first | rw [c10b0] | (simp only [i64_w, i32_w]; rw [c10b0]) | skip)
        by_cases c11 : (Go.bits .andNot .u8 t138 64) = (Go.bits .andNot .u8 t142 64)
        · rw [if_pos c11] at H
          have c11b0 : ((Go.bits .andNot .u8 t138 64) == (Go.bits .andNot .u8 t142 64)) = true := beq_iff_eq.mpr c11
          have c11b1 : ((Go.bits .andNot .u8 t138 64) != (Go.bits .andNot .u8 t142 64)) = false := bne_eq_false_iff_eq.mpr c11
          clear c11
          have H' := Aside0.mk H
          clear H
          go_wp2
          go_meet
          case rel => exact ⟨_, ((((Go.bits .and .u8 t138 64) != 0) != (t137 == 0))), (by first | rfl | (simp; done) | (simp [*]; done)), H', ⟨by first | omega | exact Nat.le_refl _⟩, by repeat (first | exact Drawn0.refl _ | apply Drawn0.step)⟩
        · rw [if_neg c11] at H
          have c11b0 : ((Go.bits .andNot .u8 t138 64) == (Go.bits .andNot .u8 t142 64)) = false := beq_eq_false_iff_ne.mpr c11
          have c11b1 : ((Go.bits .andNot .u8 t138 64) != (Go.bits .andNot .u8 t142 64)) = true := bne_iff_ne.mpr c11
          have H' := Aside0.mk H
          clear H
          go_wp2
          go_meet
          case rel => exact ⟨_, (true), (by first | rfl | (simp; done) | (simp [*]; done)), H', ⟨by first | omega | exact Nat.le_refl _⟩, by repeat (first | exact Drawn0.refl _ | apply Drawn0.step)⟩
      · rw [if_neg c10] at H
        have c10b0 : (t137 == (Go.bits .or .u16 (IntKind.u16.wrap ((IntKind.u16.wrap (t141)) * 256)) (IntKind.u16.wrap (t139)))) = false := beq_eq_false_iff_ne.mpr c10
        have c10b1 : (t137 != (Go.bits .or .u16 (IntKind.u16.wrap ((IntKind.u16.wrap (t141)) * 256)) (IntKind.u16.wrap (t139)))) = true := bne_iff_ne.mpr c10
        (first | rw [c10b0] | (simp only [i64_w, i32_w]; rw [c10b0]) | skip)
        have H' := Aside0.mk H
        clear H
        go_wp2
        go_meet
        case rel => exact ⟨_, (true), (by first | rfl | (simp; done) | (simp [*]; done)), H', ⟨by first | omega | exact Nat.le_refl _⟩, by repeat (first | exact Drawn0.refl _ | apply Drawn0.step)⟩
    case rest =>
      clear HC9
      try clear c1
      try clear c2
      try clear p2
      try clear c3
      try clear c5
      try clear c10
      try clear c10b0
      try clear c10b1
      try clear c11
      try clear c11b0
      try clear c11b1
      obtain ⟨kq, x71_8, rfl, HA, HJ8, ⟨mc8, rfl⟩⟩ := hcut
      cases kq with
      | zero => exact absurd HA.out (by simp [pendulumlaw07_WideBytes.j0])
      | succ kj8 =>
        have H := HA.out
        clear HA
        simp only [pendulumlaw07_WideBytes.j0] at H
        by_cases c12 : x71_8 = true
        · subst c12
          have H1 : (some false) = some r := by rw [if_pos rfl] at H; exact H
          clear H
          have H := H1
          clear H1
          obtain rfl := Option.some.inj H
          go_wp2
          go_ret
          exact ⟨by first | rfl | (simp; done) | (simp [*]; done), by repeat (first | exact Drawn0.refl _ | apply Drawn0.step)⟩
        · replace c12 := Bool.eq_false_iff.mpr c12
          subst c12
          have H1 : ((wide_Sbc.f a0 a1 a2).bind fun bt143 => ((pendulumref05_Sub.f ((a0) % 256) ((a1) % 256) ((Go.bits .and .u8 a2 1) != 0)).bind fun bt145 => ((pendulumref05_Sub.f ((a0 / 256) % 256) ((a1 / 256) % 256) ((Go.bits .and .u8 bt145.2 1) != 0)).bind fun bt147 => (if bt143.1 = (Go.bits .or .u16 (IntKind.u16.wrap ((IntKind.u16.wrap (bt147.1)) * 256)) (IntKind.u16.wrap (bt145.1))) then (if (Go.bits .andNot .u8 bt143.2 64) = (Go.bits .andNot .u8 bt147.2 64) then (pendulumlaw07_WideBytes.j1 kj8 a0 a1 a2 (((Go.bits .and .u8 bt143.2 64) != 0) != (bt143.1 == 0))) else (pendulumlaw07_WideBytes.j1 kj8 a0 a1 a2 true)) else (pendulumlaw07_WideBytes.j1 kj8 a0 a1 a2 true))))) = some r := by rw [if_neg (show ¬ (false = true) by decide)] at H; exact H
          clear H
          have H := H1
          clear H1
          replace H := Option.bind_eq_some_iff.mp H
          obtain ⟨⟨t143, t144⟩, A130, H⟩ := H
          replace H : ((pendulumref05_Sub.f ((a0) % 256) ((a1) % 256) ((Go.bits .and .u8 a2 1) != 0)).bind fun bt145 => ((pendulumref05_Sub.f ((a0 / 256) % 256) ((a1 / 256) % 256) ((Go.bits .and .u8 bt145.2 1) != 0)).bind fun bt147 => (if t143 = (Go.bits .or .u16 (IntKind.u16.wrap ((IntKind.u16.wrap (bt147.1)) * 256)) (IntKind.u16.wrap (bt145.1))) then (if (Go.bits .andNot .u8 t144 64) = (Go.bits .andNot .u8 bt147.2 64) then (pendulumlaw07_WideBytes.j1 kj8 a0 a1 a2 (((Go.bits .and .u8 t144 64) != 0) != (t143 == 0))) else (pendulumlaw07_WideBytes.j1 kj8 a0 a1 a2 true)) else (pendulumlaw07_WideBytes.j1 kj8 a0 a1 a2 true)))) = some r := H
          have A13 := Aside0.mk A130
          clear A130
          replace H := Option.bind_eq_some_iff.mp H
          obtain ⟨⟨t145, t146⟩, A140, H⟩ := H
          replace H : ((pendulumref05_Sub.f ((a0 / 256) % 256) ((a1 / 256) % 256) ((Go.bits .and .u8 t146 1) != 0)).bind fun bt147 => (if t143 = (Go.bits .or .u16 (IntKind.u16.wrap ((IntKind.u16.wrap (bt147.1)) * 256)) (IntKind.u16.wrap (t145))) then (if (Go.bits .andNot .u8 t144 64) = (Go.bits .andNot .u8 bt147.2 64) then (pendulumlaw07_WideBytes.j1 kj8 a0 a1 a2 (((Go.bits .and .u8 t144 64) != 0) != (t143 == 0))) else (pendulumlaw07_WideBytes.j1 kj8 a0 a1 a2 true)) else (pendulumlaw07_WideBytes.j1 kj8 a0 a1 a2 true))) = some r := H
          have A14 := Aside0.mk A140
          clear A140
          replace H := Option.bind_eq_some_iff.mp H
          obtain ⟨⟨t147, t148⟩, A150, H⟩ := H
          replace H : (if t143 = (Go.bits .or .u16 (IntKind.u16.wrap ((IntKind.u16.wrap (t147)) * 256)) (IntKind.u16.wrap (t145))) then (if (Go.bits .andNot .u8 t144 64) = (Go.bits .andNot .u8 t148 64) then (pendulumlaw07_WideBytes.j1 kj8 a0 a1 a2 (((Go.bits .and .u8 t144 64) != 0) != (t143 == 0))) else (pendulumlaw07_WideBytes.j1 kj8 a0 a1 a2 true)) else (pendulumlaw07_WideBytes.j1 kj8 a0 a1 a2 true)) = some r := H
          have A15 := Aside0.mk A150
          clear A150
          have HC16 := Aside0.mk H
          clear H
          go_upto_region 12 with (first | ((with_reducible refine gate_callee (f := 22) rfl ?_); refine goesL_ (some 76) rfl rfl Try.func22 (by kernel_rfl) rfl #[.int .u16 a0, .int .u16 a1, .int .u8 a2] rfl (by (try simp only [List.map_toArray, List.map_cons, List.map_nil]); first | done | rfl | (simp only [List.length_drop, List.length_take]; rfl)) ?_; (with_reducible refine (wide_Sbc.calls a0 a1 a2 t143 t144 _ A13.out).mono ?_); rintro e w' ⟨rfl, ⟨nd, rfl⟩⟩; refine ⟨_, rfl, ?_⟩) | ((with_reducible refine gate_callee (f := 23) rfl ?_); refine goesL_ (some 85) rfl rfl Try.func23 (by kernel_rfl) rfl #[.int .u8 ((a0) % 256), .int .u8 ((a1) % 256), .bool ((Go.bits .and .u8 a2 1) != 0)] rfl (by (try simp only [List.map_toArray, List.map_cons, List.map_nil]); first | done | rfl | (simp only [List.length_drop, List.length_take]; rfl)) ?_; (with_reducible refine (pendulumref05_Sub.calls ((a0) % 256) ((a1) % 256) ((Go.bits .and .u8 a2 1) != 0) t145 t146 _ A14.out).mono ?_); rintro e w' ⟨rfl, ⟨nd, rfl⟩⟩; refine ⟨_, rfl, ?_⟩) | ((with_reducible refine gate_callee (f := 23) rfl ?_); refine goesL_ (some 98) rfl rfl Try.func23 (by kernel_rfl) rfl #[.int .u8 ((a0 / 256) % 256), .int .u8 ((a1 / 256) % 256), .bool ((Go.bits .and .u8 t146 1) != 0)] rfl (by (try simp only [List.map_toArray, List.map_cons, List.map_nil]); first | done | rfl | (simp only [List.length_drop, List.length_take]; rfl)) ?_; (with_reducible refine (pendulumref05_Sub.calls ((a0 / 256) % 256) ((a1 / 256) % 256) ((Go.bits .and .u8 t146 1) != 0) t147 t148 _ A15.out).mono ?_); rintro e w' ⟨rfl, ⟨nd, rfl⟩⟩; refine ⟨_, rfl, ?_⟩))
          (try simp only [Act.put, List.setIfInBounds_toArray, List.set_cons_zero, List.set_cons_succ])
          go_cut [123] (fun v123 wc => ∃ (kq : Nat) (x123_15 : Bool), v123 = .bool x123_15 ∧ Aside0 (pendulumlaw07_WideBytes.j1 kq a0 a1 a2 x123_15 = some r) ∧ Aside0 (kq ≤ kj8) ∧ Drawn0 w wc)
          case first =>
            have H := HC16.out
            clear HC16
            by_cases c17 : t143 = (Go.bits .or .u16 (IntKind.u16.wrap ((IntKind.u16.wrap (t147)) * 256)) (IntKind.u16.wrap (t145)))
            · rw [if_pos c17] at H
              have c17b0 : (t143 == (Go.bits .or .u16 (IntKind.u16.wrap ((IntKind.u16.wrap (t147)) * 256)) (IntKind.u16.wrap (t145)))) = true := beq_iff_eq.mpr c17
              have c17b1 : (t143 != (Go.bits .or .u16 (IntKind.u16.wrap ((IntKind.u16.wrap (t147)) * 256)) (IntKind.u16.wrap (t145)))) = false := bne_eq_false_iff_eq.mpr c17
              clear c17
              (first | rw [c17b0] | (simp only [i64_w, i32_w]; rw [c17b0]) | skip)
              by_cases c18 : (Go.bits .andNot .u8 t144 64) = (Go.bits .andNot .u8 t148 64)
              · rw [if_pos c18] at H
                have c18b0 : ((Go.bits .andNot .u8 t144 64) == (Go.bits .andNot .u8 t148 64)) = true := beq_iff_eq.mpr c18
                have c18b1 : ((Go.bits .andNot .u8 t144 64) != (Go.bits .andNot .u8 t148 64)) = false := bne_eq_false_iff_eq.mpr c18
                clear c18
                have H' := Aside0.mk H
                clear H
                go_wp2
                go_meet
                case rel => exact ⟨_, ((((Go.bits .and .u8 t144 64) != 0) != (t143 == 0))), (by first | rfl | (simp; done) | (simp [*]; done)), H', ⟨by have := HJ8.out; first | omega | exact Nat.le_refl _⟩, by repeat (first | exact Drawn0.refl _ | apply Drawn0.step)⟩
              · rw [if_neg c18] at H
                have c18b0 : ((Go.bits .andNot .u8 t144 64) == (Go.bits .andNot .u8 t148 64)) = false := beq_eq_false_iff_ne.mpr c18
                have c18b1 : ((Go.bits .andNot .u8 t144 64) != (Go.bits .andNot .u8 t148 64)) = true := bne_iff_ne.mpr c18
                have H' := Aside0.mk H
                clear H
                go_wp2
                go_meet
                case rel => exact ⟨_, (true), (by first | rfl | (simp; done) | (simp [*]; done)), H', ⟨by have := HJ8.out; first | omega | exact Nat.le_refl _⟩, by repeat (first | exact Drawn0.refl _ | apply Drawn0.step)⟩
            · rw [if_neg c17] at H
              have c17b0 : (t143 == (Go.bits .or .u16 (IntKind.u16.wrap ((IntKind.u16.wrap (t147)) * 256)) (IntKind.u16.wrap (t145)))) = false := beq_eq_false_iff_ne.mpr c17
              have c17b1 : (t143 != (Go.bits .or .u16 (IntKind.u16.wrap ((IntKind.u16.wrap (t147)) * 256)) (IntKind.u16.wrap (t145)))) = true := bne_iff_ne.mpr c17
              (first | rw [c17b0] | (simp only [i64_w, i32_w]; rw [c17b0]) | skip)
              have H' := Aside0.mk H
              clear H
              go_wp2
              go_meet
              case rel => exact ⟨_, (true), (by first | rfl | (simp; done) | (simp [*]; done)), H', ⟨by have := HJ8.out; first | omega | exact Nat.le_refl _⟩, by repeat (first | exact Drawn0.refl _ | apply Drawn0.step)⟩
          case rest =>
            clear HC16
            try clear c1
            try clear c2
            try clear p2
            try clear c3
            try clear c5
            try clear c8
            try clear c10
            try clear c10b0
            try clear c10b1
            try clear c11
            try clear c11b0
            try clear c11b1
            try clear c12
            try clear c17
            try clear c17b0
            try clear c17b1
            try clear c18
            try clear c18b0
            try clear c18b1
            try clear p2
            obtain ⟨kq, x123_15, rfl, HA, HJ15, ⟨mc15, rfl⟩⟩ := hcut
            cases kq with
            | zero => exact absurd HA.out (by simp [pendulumlaw07_WideBytes.j1])
            | succ kj15 =>
              have H := HA.out
              clear HA
              simp only [pendulumlaw07_WideBytes.j1] at H
              by_cases c19 : x123_15 = true
              · subst c19
                have H1 : (some false) = some r := by rw [if_pos rfl] at H; exact H
                clear H
                have H := H1
                clear H1
                obtain rfl := Option.some.inj H
                go_wp2
                go_ret
                exact ⟨by first | rfl | (simp; done) | (simp [*]; done), by repeat (first | exact Drawn0.refl _ | apply Drawn0.step)⟩
              · replace c19 := Bool.eq_false_iff.mpr c19
                subst c19
                have H1 : ((wide_Add.f a0 a1 a2).bind fun bt149 => ((pendulumref05_Add.f ((a0) % 256) ((a1) % 256) false).bind fun bt151 => ((pendulumref05_Add.f ((a0 / 256) % 256) ((a1 / 256) % 256) ((Go.bits .and .u8 bt151.2 1) != 0)).bind fun bt153 => (if bt149.1 = (Go.bits .or .u16 (IntKind.u16.wrap ((IntKind.u16.wrap (bt153.1)) * 256)) (IntKind.u16.wrap (bt151.1))) then (if (Go.bits .and .u8 bt149.2 196) = (Go.bits .and .u8 a2 196) then (some ((Go.bits .andNot .u8 bt149.2 196) == (Go.bits .andNot .u8 bt153.2 196))) else (some false)) else (some false))))) = some r := by rw [if_neg (show ¬ (false = true) by decide)] at H; exact H
                clear H
                have H := H1
                clear H1
                replace H := Option.bind_eq_some_iff.mp H
                obtain ⟨⟨t149, t150⟩, A200, H⟩ := H
                replace H : ((pendulumref05_Add.f ((a0) % 256) ((a1) % 256) false).bind fun bt151 => ((pendulumref05_Add.f ((a0 / 256) % 256) ((a1 / 256) % 256) ((Go.bits .and .u8 bt151.2 1) != 0)).bind fun bt153 => (if t149 = (Go.bits .or .u16 (IntKind.u16.wrap ((IntKind.u16.wrap (bt153.1)) * 256)) (IntKind.u16.wrap (bt151.1))) then (if (Go.bits .and .u8 t150 196) = (Go.bits .and .u8 a2 196) then (some ((Go.bits .andNot .u8 t150 196) == (Go.bits .andNot .u8 bt153.2 196))) else (some false)) else (some false)))) = some r := H
                have A20 := Aside0.mk A200
                clear A200
                replace H := Option.bind_eq_some_iff.mp H
                obtain ⟨⟨t151, t152⟩, A210, H⟩ := H
                replace H : ((pendulumref05_Add.f ((a0 / 256) % 256) ((a1 / 256) % 256) ((Go.bits .and .u8 t152 1) != 0)).bind fun bt153 => (if t149 = (Go.bits .or .u16 (IntKind.u16.wrap ((IntKind.u16.wrap (bt153.1)) * 256)) (IntKind.u16.wrap (t151))) then (if (Go.bits .and .u8 t150 196) = (Go.bits .and .u8 a2 196) then (some ((Go.bits .andNot .u8 t150 196) == (Go.bits .andNot .u8 bt153.2 196))) else (some false)) else (some false))) = some r := H
                have A21 := Aside0.mk A210
                clear A210
                replace H := Option.bind_eq_some_iff.mp H
                obtain ⟨⟨t153, t154⟩, A220, H⟩ := H
                replace H : (if t149 = (Go.bits .or .u16 (IntKind.u16.wrap ((IntKind.u16.wrap (t153)) * 256)) (IntKind.u16.wrap (t151))) then (if (Go.bits .and .u8 t150 196) = (Go.bits .and .u8 a2 196) then (some ((Go.bits .andNot .u8 t150 196) == (Go.bits .andNot .u8 t154 196))) else (some false)) else (some false)) = some r := H
                have A22 := Aside0.mk A220
                clear A220
                by_cases c23 : t149 = (Go.bits .or .u16 (IntKind.u16.wrap ((IntKind.u16.wrap (t153)) * 256)) (IntKind.u16.wrap (t151)))
                · rw [if_pos c23] at H
                  have c23b0 : (t149 == (Go.bits .or .u16 (IntKind.u16.wrap ((IntKind.u16.wrap (t153)) * 256)) (IntKind.u16.wrap (t151)))) = true := beq_iff_eq.mpr c23
                  have c23b1 : (t149 != (Go.bits .or .u16 (IntKind.u16.wrap ((IntKind.u16.wrap (t153)) * 256)) (IntKind.u16.wrap (t151)))) = false := bne_eq_false_iff_eq.mpr c23
                  clear c23
                  by_cases c24 : (Go.bits .and .u8 t150 196) = (Go.bits .and .u8 a2 196)
                  · rw [if_pos c24] at H
                    have c24b0 : ((Go.bits .and .u8 t150 196) == (Go.bits .and .u8 a2 196)) = true := beq_iff_eq.mpr c24
                    have c24b1 : ((Go.bits .and .u8 t150 196) != (Go.bits .and .u8 a2 196)) = false := bne_eq_false_iff_eq.mpr c24
                    clear c24
                    obtain rfl := Option.some.inj H
                    go_wp2_with (first | ((with_reducible refine gate_callee (f := 24) rfl ?_); refine goesL_ (some 128) rfl rfl Try.func24 (by kernel_rfl) rfl #[.int .u16 a0, .int .u16 a1, .int .u8 a2] rfl (by (try simp only [List.map_toArray, List.map_cons, List.map_nil]); first | done | rfl | (simp only [List.length_drop, List.length_take]; rfl)) ?_; (with_reducible refine (wide_Add.calls a0 a1 a2 t149 t150 _ A20.out).mono ?_); rintro e w' ⟨rfl, ⟨nd, rfl⟩⟩; refine ⟨_, rfl, ?_⟩) | ((with_reducible refine gate_callee (f := 21) rfl ?_); refine goesL_ (some 136) rfl rfl Try.func21 (by kernel_rfl) rfl #[.int .u8 ((a0) % 256), .int .u8 ((a1) % 256), .bool false] rfl (by (try simp only [List.map_toArray, List.map_cons, List.map_nil]); first | done | rfl | (simp only [List.length_drop, List.length_take]; rfl)) ?_; (with_reducible refine (pendulumref05_Add.calls ((a0) % 256) ((a1) % 256) false t151 t152 _ A21.out).mono ?_); rintro e w' ⟨rfl, ⟨nd, rfl⟩⟩; refine ⟨_, rfl, ?_⟩) | ((with_reducible refine gate_callee (f := 21) rfl ?_); refine goesL_ (some 149) rfl rfl Try.func21 (by kernel_rfl) rfl #[.int .u8 ((a0 / 256) % 256), .int .u8 ((a1 / 256) % 256), .bool ((Go.bits .and .u8 t152 1) != 0)] rfl (by (try simp only [List.map_toArray, List.map_cons, List.map_nil]); first | done | rfl | (simp only [List.length_drop, List.length_take]; rfl)) ?_; (with_reducible refine (pendulumref05_Add.calls ((a0 / 256) % 256) ((a1 / 256) % 256) ((Go.bits .and .u8 t152 1) != 0) t153 t154 _ A22.out).mono ?_); rintro e w' ⟨rfl, ⟨nd, rfl⟩⟩; refine ⟨_, rfl, ?_⟩))
                    go_ret
                    exact ⟨by first | rfl | (simp; done) | (simp [*]; done), by repeat (first | exact Drawn0.refl _ | apply Drawn0.step)⟩
                  · rw [if_neg c24] at H
                    have c24b0 : ((Go.bits .and .u8 t150 196) == (Go.bits .and .u8 a2 196)) = false := beq_eq_false_iff_ne.mpr c24
                    have c24b1 : ((Go.bits .and .u8 t150 196) != (Go.bits .and .u8 a2 196)) = true := bne_iff_ne.mpr c24
                    obtain rfl := Option.some.inj H
                    go_wp2_with (first | ((with_reducible refine gate_callee (f := 24) rfl ?_); refine goesL_ (some 128) rfl rfl Try.func24 (by kernel_rfl) rfl #[.int .u16 a0, .int .u16 a1, .int .u8 a2] rfl (by (try simp only [List.map_toArray, List.map_cons, List.map_nil]); first | done | rfl | (simp only [List.length_drop, List.length_take]; rfl)) ?_; (with_reducible refine (wide_Add.calls a0 a1 a2 t149 t150 _ A20.out).mono ?_); rintro e w' ⟨rfl, ⟨nd, rfl⟩⟩; refine ⟨_, rfl, ?_⟩) | ((with_reducible refine gate_callee (f := 21) rfl ?_); refine goesL_ (some 136) rfl rfl Try.func21 (by kernel_rfl) rfl #[.int .u8 ((a0) % 256), .int .u8 ((a1) % 256), .bool false] rfl (by (try simp only [List.map_toArray, List.map_cons, List.map_nil]); first | done | rfl | (simp only [List.length_drop, List.length_take]; rfl)) ?_; (with_reducible refine (pendulumref05_Add.calls ((a0) % 256) ((a1) % 256) false t151 t152 _ A21.out).mono ?_); rintro e w' ⟨rfl, ⟨nd, rfl⟩⟩; refine ⟨_, rfl, ?_⟩) | ((with_reducible refine gate_callee (f := 21) rfl ?_); refine goesL_ (some 149) rfl rfl Try.func21 (by kernel_rfl) rfl #[.int .u8 ((a0 / 256) % 256), .int .u8 ((a1 / 256) % 256), .bool ((Go.bits .and .u8 t152 1) != 0)] rfl (by (try simp only [List.map_toArray, List.map_cons, List.map_nil]); first | done | rfl | (simp only [List.length_drop, List.length_take]; rfl)) ?_; (with_reducible refine (pendulumref05_Add.calls ((a0 / 256) % 256) ((a1 / 256) % 256) ((Go.bits .and .u8 t152 1) != 0) t153 t154 _ A22.out).mono ?_); rintro e w' ⟨rfl, ⟨nd, rfl⟩⟩; refine ⟨_, rfl, ?_⟩))
                    go_ret
                    exact ⟨by first | rfl | (simp; done) | (simp [*]; done), by repeat (first | exact Drawn0.refl _ | apply Drawn0.step)⟩
                · rw [if_neg c23] at H
                  have c23b0 : (t149 == (Go.bits .or .u16 (IntKind.u16.wrap ((IntKind.u16.wrap (t153)) * 256)) (IntKind.u16.wrap (t151)))) = false := beq_eq_false_iff_ne.mpr c23
                  have c23b1 : (t149 != (Go.bits .or .u16 (IntKind.u16.wrap ((IntKind.u16.wrap (t153)) * 256)) (IntKind.u16.wrap (t151)))) = true := bne_iff_ne.mpr c23
                  obtain rfl := Option.some.inj H
                  go_wp2_with (first | ((with_reducible refine gate_callee (f := 24) rfl ?_); refine goesL_ (some 128) rfl rfl Try.func24 (by kernel_rfl) rfl #[.int .u16 a0, .int .u16 a1, .int .u8 a2] rfl (by (try simp only [List.map_toArray, List.map_cons, List.map_nil]); first | done | rfl | (simp only [List.length_drop, List.length_take]; rfl)) ?_; (with_reducible refine (wide_Add.calls a0 a1 a2 t149 t150 _ A20.out).mono ?_); rintro e w' ⟨rfl, ⟨nd, rfl⟩⟩; refine ⟨_, rfl, ?_⟩) | ((with_reducible refine gate_callee (f := 21) rfl ?_); refine goesL_ (some 136) rfl rfl Try.func21 (by kernel_rfl) rfl #[.int .u8 ((a0) % 256), .int .u8 ((a1) % 256), .bool false] rfl (by (try simp only [List.map_toArray, List.map_cons, List.map_nil]); first | done | rfl | (simp only [List.length_drop, List.length_take]; rfl)) ?_; (with_reducible refine (pendulumref05_Add.calls ((a0) % 256) ((a1) % 256) false t151 t152 _ A21.out).mono ?_); rintro e w' ⟨rfl, ⟨nd, rfl⟩⟩; refine ⟨_, rfl, ?_⟩) | ((with_reducible refine gate_callee (f := 21) rfl ?_); refine goesL_ (some 149) rfl rfl Try.func21 (by kernel_rfl) rfl #[.int .u8 ((a0 / 256) % 256), .int .u8 ((a1 / 256) % 256), .bool ((Go.bits .and .u8 t152 1) != 0)] rfl (by (try simp only [List.map_toArray, List.map_cons, List.map_nil]); first | done | rfl | (simp only [List.length_drop, List.length_take]; rfl)) ?_; (with_reducible refine (pendulumref05_Add.calls ((a0 / 256) % 256) ((a1 / 256) % 256) ((Go.bits .and .u8 t152 1) != 0) t153 t154 _ A22.out).mono ?_); rintro e w' ⟨rfl, ⟨nd, rfl⟩⟩; refine ⟨_, rfl, ?_⟩))
                  go_ret
                  exact ⟨by first | rfl | (simp; done) | (simp [*]; done), by repeat (first | exact Drawn0.refl _ | apply Drawn0.step)⟩
  · replace c5 := Bool.eq_false_iff.mpr c5
    subst c5
    have H1 : (some false) = some r := by rw [if_neg (show ¬ (false = true) by decide)] at H; exact H
    clear H
    have H := H1
    clear H1
    obtain rfl := Option.some.inj H
    go_enter Try.func3, Try.ntmps3
    go_wp2_with (first | ((with_reducible refine gate_callee (f := 19) rfl ?_); refine goesL_ (some 15) rfl rfl Try.func19 (by kernel_rfl) rfl #[] rfl (by (try simp only [List.map_toArray, List.map_cons, List.map_nil]); first | done | rfl | (simp only [List.length_drop, List.length_take]; rfl)) ?_; (with_reducible refine (pendulumlaw07_lives.calls  false _ A4.out).mono ?_); rintro e w' ⟨rfl, ⟨nd, rfl⟩⟩; refine ⟨_, rfl, ?_⟩))
    go_ret
    exact ⟨by first | rfl | (simp; done) | (simp [*]; done), by repeat (first | exact Drawn0.refl _ | apply Drawn0.step)⟩

/-- THE ONE PURE STATEMENT of pendulumlaw07_WideBytes: yours. -/
def pendulumlaw07_WideBytes.Pure : Prop := ∀ (a0 : Int) (a1 : Int) (a2 : Int), (Lit.int .u16 a0).wf = true → (Lit.int .u16 a1).wf = true → (Lit.int .u8 a2).wf = true → ∃ k, pendulumlaw07_WideBytes.f k a0 a1 a2 = some true
theorem pendulumlaw07_WideBytes.walk (P : pendulumlaw07_WideBytes.Pure) (a0 : Int) (a1 : Int) (a2 : Int) (w : World) (w0 : (Lit.int .u16 a0).wf = true) (w1 : (Lit.int .u16 a1).wf = true) (w2 : (Lit.int .u8 a2).wf = true) :
    Calls Try.prog 3 #[.int .u16 a0, .int .u16 a1, .int .u8 a2] w fun e w' => e = .returned (.bool true) ∧ Below w.heap.size w w' := by
  obtain ⟨k, h⟩ := P a0 a1 a2 w0 w1 w2
  refine (pendulumlaw07_WideBytes.calls k a0 a1 a2 true w h).mono ?_
  rintro e w' ⟨rfl, hd⟩
  exact ⟨rfl, hd.below⟩

end Go.Proofs.Ytpmmneipfmbmlaa.PWideBytes
