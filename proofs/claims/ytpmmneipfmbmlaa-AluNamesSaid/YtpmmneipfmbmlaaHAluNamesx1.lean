-- Written by a program of this session out of Lean's print of the program (after the form of the kit's print.sh, with own turns); Lean checks it.
import Derived.Test.YtpmmneipfmbmlaaHAluNamesx0
namespace Go.Proofs.Ytpmmneipfmbmlaa.HAluNames
open Go.RowKit Go.Proofs.YtpmmneipfmbmlaaW.PrintWords Go.Proofs.YtpmmneipfmbmlaaW.PrintLast Go.Proofs.YtpmmneipfmbmlaaW.PrintMore
attribute [local go_sem] max2_int min2_int max_two min_two max_three min_three max_four min_four   -- for this text's walks alone
set_option linter.unusedVariables false
set_option linter.unusedSimpArgs false

/-! ### alu_if1: function 90 -/
def alu_if1.f (a0 : Bool) (a1 : Int) : Option (Int) := if a0 = true then (some a1) else (some 0)
set_option maxHeartbeats 8000000 in
set_option maxRecDepth 100000 in
theorem alu_if1.calls (a0 : Bool) (a1 : Int) (r : Int) (w : World) (h : alu_if1.f a0 a1 = some r) :
    Calls Try.prog 90 #[.bool a0, .int .u8 a1] w fun e w' => e = .returned (.int .u8 r) ∧ Drawn0 w w' := by
  have H : (if a0 = true then (some a1) else (some 0)) = some r := h
  clear h
  by_cases c3 : a0 = true
  · subst c3
    have H1 : (some a1) = some r := by rw [if_pos rfl] at H; exact H
    clear H
    have H := H1
    clear H1
    obtain rfl := Option.some.inj H
    go_enter Try.func90, Try.ntmps90
    go_wp2
    go_ret
    exact ⟨by first | rfl | (simp; done) | (simp [*]; done), by repeat (first | exact Drawn0.refl _ | apply Drawn0.step)⟩
  · replace c3 := Bool.eq_false_iff.mpr c3
    subst c3
    have H1 : (some 0) = some r := by rw [if_neg (show ¬ (false = true) by decide)] at H; exact H
    clear H
    have H := H1
    clear H1
    obtain rfl := Option.some.inj H
    go_enter Try.func90, Try.ntmps90
    go_wp2
    go_ret
    exact ⟨by first | rfl | (simp; done) | (simp [*]; done), by repeat (first | exact Drawn0.refl _ | apply Drawn0.step)⟩

/-! ### alu_Own: function 91 -/
def alu_Own.f (a0 : Int) : Option (Int) := if a0 = 0 then (some (Go.bits .or .u8 (Go.bits .and .u8 a0 168) 64)) else (some (Go.bits .and .u8 a0 168))
set_option maxHeartbeats 8000000 in
set_option maxRecDepth 100000 in
theorem alu_Own.calls (a0 : Int) (r : Int) (w : World) (h : alu_Own.f a0 = some r) :
    Calls Try.prog 91 #[.int .u8 a0] w fun e w' => e = .returned (.int .u8 r) ∧ Drawn0 w w' := by
  have H : (if a0 = 0 then (some (Go.bits .or .u8 (Go.bits .and .u8 a0 168) 64)) else (some (Go.bits .and .u8 a0 168))) = some r := h
  clear h
  by_cases c2 : a0 = 0
  · rw [if_pos c2] at H
    have c2b0 : (a0 == 0) = true := beq_iff_eq.mpr c2
    have c2b1 : (a0 != 0) = false := bne_eq_false_iff_eq.mpr c2
    clear c2
    obtain rfl := Option.some.inj H
    go_enter Try.func91, Try.ntmps91
    go_wp2
    go_ret
    exact ⟨by first | rfl | (simp; done) | (simp [*]; done), by repeat (first | exact Drawn0.refl _ | apply Drawn0.step)⟩
  · rw [if_neg c2] at H
    have c2b0 : (a0 == 0) = false := beq_eq_false_iff_ne.mpr c2
    have c2b1 : (a0 != 0) = true := bne_iff_ne.mpr c2
    obtain rfl := Option.some.inj H
    go_enter Try.func91, Try.ntmps91
    go_wp2
    go_ret
    exact ⟨by first | rfl | (simp; done) | (simp [*]; done), by repeat (first | exact Drawn0.refl _ | apply Drawn0.step)⟩

/-! ### alu_Add: function 37 -/
def alu_Add.f (a0 : Int) (a1 : Int) (a2 : Bool) : Option (Int × Int) := (alu_if1.f a2 1).bind fun t101 => ((alu_Own.f ((wrap64 ((wrap64 ((wrap64 (a0)) + (wrap64 (a1)))) + (wrap64 (t101)))) % 256)).bind fun t102 => ((alu_if1.f (decide ((wrap64 ((wrap64 ((wrap64 (a0)) + (wrap64 (a1)))) + (wrap64 (t101)))) > 255)) 1).bind fun t103 => ((alu_if1.f (decide ((wrap64 ((wrap64 ((wrap64 (Go.bits .and .u8 a0 15)) + (wrap64 (Go.bits .and .u8 a1 15)))) + (wrap64 (t101)))) > 15)) 16).bind fun t104 => (if (wrap64 ((wrap64 ((wrap64 (IntKind.i8.wrap (a0))) + (wrap64 (IntKind.i8.wrap (a1))))) + (wrap64 (t101)))) < (-128) then ((alu_if1.f true 4).bind fun t105 => (some ((wrap64 ((wrap64 ((wrap64 (a0)) + (wrap64 (a1)))) + (wrap64 (t101)))) % 256, Go.bits .or .u8 (Go.bits .or .u8 (Go.bits .or .u8 t102 t103) t104) t105))) else ((alu_if1.f (decide ((wrap64 ((wrap64 ((wrap64 (IntKind.i8.wrap (a0))) + (wrap64 (IntKind.i8.wrap (a1))))) + (wrap64 (t101)))) > 127)) 4).bind fun t106 => (some ((wrap64 ((wrap64 ((wrap64 (a0)) + (wrap64 (a1)))) + (wrap64 (t101)))) % 256, Go.bits .or .u8 (Go.bits .or .u8 (Go.bits .or .u8 t102 t103) t104) t106)))))))
set_option maxHeartbeats 8000000 in
set_option maxRecDepth 100000 in
theorem alu_Add.calls (a0 : Int) (a1 : Int) (a2 : Bool) (r1 : Int) (r2 : Int) (w : World) (h : alu_Add.f a0 a1 a2 = some (r1, r2)) :
    Calls Try.prog 37 #[.int .u8 a0, .int .u8 a1, .bool a2] w fun e w' => e = .returned (.tuple #[.int .u8 r1, .int .u8 r2]) ∧ Drawn0 w w' := by
  have H : ((alu_if1.f a2 1).bind fun t101 => ((alu_Own.f ((wrap64 ((wrap64 ((wrap64 (a0)) + (wrap64 (a1)))) + (wrap64 (t101)))) % 256)).bind fun t102 => ((alu_if1.f (decide ((wrap64 ((wrap64 ((wrap64 (a0)) + (wrap64 (a1)))) + (wrap64 (t101)))) > 255)) 1).bind fun t103 => ((alu_if1.f (decide ((wrap64 ((wrap64 ((wrap64 (Go.bits .and .u8 a0 15)) + (wrap64 (Go.bits .and .u8 a1 15)))) + (wrap64 (t101)))) > 15)) 16).bind fun t104 => (if (wrap64 ((wrap64 ((wrap64 (IntKind.i8.wrap (a0))) + (wrap64 (IntKind.i8.wrap (a1))))) + (wrap64 (t101)))) < (-128) then ((alu_if1.f true 4).bind fun t105 => (some ((wrap64 ((wrap64 ((wrap64 (a0)) + (wrap64 (a1)))) + (wrap64 (t101)))) % 256, Go.bits .or .u8 (Go.bits .or .u8 (Go.bits .or .u8 t102 t103) t104) t105))) else ((alu_if1.f (decide ((wrap64 ((wrap64 ((wrap64 (IntKind.i8.wrap (a0))) + (wrap64 (IntKind.i8.wrap (a1))))) + (wrap64 (t101)))) > 127)) 4).bind fun t106 => (some ((wrap64 ((wrap64 ((wrap64 (a0)) + (wrap64 (a1)))) + (wrap64 (t101)))) % 256, Go.bits .or .u8 (Go.bits .or .u8 (Go.bits .or .u8 t102 t103) t104) t106)))))))) = some (r1, r2) := h
  clear h
  replace H := Option.bind_eq_some_iff.mp H
  obtain ⟨t101, A40, H⟩ := H
  replace H : ((alu_Own.f ((wrap64 ((wrap64 ((wrap64 (a0)) + (wrap64 (a1)))) + (wrap64 (t101)))) % 256)).bind fun t102 => ((alu_if1.f (decide ((wrap64 ((wrap64 ((wrap64 (a0)) + (wrap64 (a1)))) + (wrap64 (t101)))) > 255)) 1).bind fun t103 => ((alu_if1.f (decide ((wrap64 ((wrap64 ((wrap64 (Go.bits .and .u8 a0 15)) + (wrap64 (Go.bits .and .u8 a1 15)))) + (wrap64 (t101)))) > 15)) 16).bind fun t104 => (if (wrap64 ((wrap64 ((wrap64 (IntKind.i8.wrap (a0))) + (wrap64 (IntKind.i8.wrap (a1))))) + (wrap64 (t101)))) < (-128) then ((alu_if1.f true 4).bind fun t105 => (some ((wrap64 ((wrap64 ((wrap64 (a0)) + (wrap64 (a1)))) + (wrap64 (t101)))) % 256, Go.bits .or .u8 (Go.bits .or .u8 (Go.bits .or .u8 t102 t103) t104) t105))) else ((alu_if1.f (decide ((wrap64 ((wrap64 ((wrap64 (IntKind.i8.wrap (a0))) + (wrap64 (IntKind.i8.wrap (a1))))) + (wrap64 (t101)))) > 127)) 4).bind fun t106 => (some ((wrap64 ((wrap64 ((wrap64 (a0)) + (wrap64 (a1)))) + (wrap64 (t101)))) % 256, Go.bits .or .u8 (Go.bits .or .u8 (Go.bits .or .u8 t102 t103) t104) t106))))))) = some (r1, r2) := H
  have A4 := Aside0.mk A40
  clear A40
  replace H := Option.bind_eq_some_iff.mp H
  obtain ⟨t102, A50, H⟩ := H
  replace H : ((alu_if1.f (decide ((wrap64 ((wrap64 ((wrap64 (a0)) + (wrap64 (a1)))) + (wrap64 (t101)))) > 255)) 1).bind fun t103 => ((alu_if1.f (decide ((wrap64 ((wrap64 ((wrap64 (Go.bits .and .u8 a0 15)) + (wrap64 (Go.bits .and .u8 a1 15)))) + (wrap64 (t101)))) > 15)) 16).bind fun t104 => (if (wrap64 ((wrap64 ((wrap64 (IntKind.i8.wrap (a0))) + (wrap64 (IntKind.i8.wrap (a1))))) + (wrap64 (t101)))) < (-128) then ((alu_if1.f true 4).bind fun t105 => (some ((wrap64 ((wrap64 ((wrap64 (a0)) + (wrap64 (a1)))) + (wrap64 (t101)))) % 256, Go.bits .or .u8 (Go.bits .or .u8 (Go.bits .or .u8 t102 t103) t104) t105))) else ((alu_if1.f (decide ((wrap64 ((wrap64 ((wrap64 (IntKind.i8.wrap (a0))) + (wrap64 (IntKind.i8.wrap (a1))))) + (wrap64 (t101)))) > 127)) 4).bind fun t106 => (some ((wrap64 ((wrap64 ((wrap64 (a0)) + (wrap64 (a1)))) + (wrap64 (t101)))) % 256, Go.bits .or .u8 (Go.bits .or .u8 (Go.bits .or .u8 t102 t103) t104) t106)))))) = some (r1, r2) := H
  have A5 := Aside0.mk A50
  clear A50
  replace H := Option.bind_eq_some_iff.mp H
  obtain ⟨t103, A60, H⟩ := H
  replace H : ((alu_if1.f (decide ((wrap64 ((wrap64 ((wrap64 (Go.bits .and .u8 a0 15)) + (wrap64 (Go.bits .and .u8 a1 15)))) + (wrap64 (t101)))) > 15)) 16).bind fun t104 => (if (wrap64 ((wrap64 ((wrap64 (IntKind.i8.wrap (a0))) + (wrap64 (IntKind.i8.wrap (a1))))) + (wrap64 (t101)))) < (-128) then ((alu_if1.f true 4).bind fun t105 => (some ((wrap64 ((wrap64 ((wrap64 (a0)) + (wrap64 (a1)))) + (wrap64 (t101)))) % 256, Go.bits .or .u8 (Go.bits .or .u8 (Go.bits .or .u8 t102 t103) t104) t105))) else ((alu_if1.f (decide ((wrap64 ((wrap64 ((wrap64 (IntKind.i8.wrap (a0))) + (wrap64 (IntKind.i8.wrap (a1))))) + (wrap64 (t101)))) > 127)) 4).bind fun t106 => (some ((wrap64 ((wrap64 ((wrap64 (a0)) + (wrap64 (a1)))) + (wrap64 (t101)))) % 256, Go.bits .or .u8 (Go.bits .or .u8 (Go.bits .or .u8 t102 t103) t104) t106))))) = some (r1, r2) := H
  have A6 := Aside0.mk A60
  clear A60
  replace H := Option.bind_eq_some_iff.mp H
  obtain ⟨t104, A70, H⟩ := H
  replace H : (if (wrap64 ((wrap64 ((wrap64 (IntKind.i8.wrap (a0))) + (wrap64 (IntKind.i8.wrap (a1))))) + (wrap64 (t101)))) < (-128) then ((alu_if1.f true 4).bind fun t105 => (some ((wrap64 ((wrap64 ((wrap64 (a0)) + (wrap64 (a1)))) + (wrap64 (t101)))) % 256, Go.bits .or .u8 (Go.bits .or .u8 (Go.bits .or .u8 t102 t103) t104) t105))) else ((alu_if1.f (decide ((wrap64 ((wrap64 ((wrap64 (IntKind.i8.wrap (a0))) + (wrap64 (IntKind.i8.wrap (a1))))) + (wrap64 (t101)))) > 127)) 4).bind fun t106 => (some ((wrap64 ((wrap64 ((wrap64 (a0)) + (wrap64 (a1)))) + (wrap64 (t101)))) % 256, Go.bits .or .u8 (Go.bits .or .u8 (Go.bits .or .u8 t102 t103) t104) t106)))) = some (r1, r2) := H
  have A7 := Aside0.mk A70
  clear A70
  by_cases c8 : (wrap64 ((wrap64 ((wrap64 (IntKind.i8.wrap (a0))) + (wrap64 (IntKind.i8.wrap (a1))))) + (wrap64 (t101)))) < (-128)
  · rw [if_pos c8] at H
    have c8b0 : decide ((wrap64 ((wrap64 ((wrap64 (IntKind.i8.wrap (a0))) + (wrap64 (IntKind.i8.wrap (a1))))) + (wrap64 (t101)))) < (-128)) = true := decide_eq_true c8
    clear c8
    replace H := Option.bind_eq_some_iff.mp H
    obtain ⟨t105, A90, H⟩ := H
    replace H : (some ((wrap64 ((wrap64 ((wrap64 (a0)) + (wrap64 (a1)))) + (wrap64 (t101)))) % 256, Go.bits .or .u8 (Go.bits .or .u8 (Go.bits .or .u8 t102 t103) t104) t105)) = some (r1, r2) := H
    have A9 := Aside0.mk A90
    clear A90
    simp only [Option.some.injEq, Prod.mk.injEq] at H
    obtain ⟨rfl, rfl⟩ := H
    go_enter Try.func37, Try.ntmps37
    go_wp2_with (first | ((with_reducible refine gate_callee (f := 90) rfl ?_); refine goesL_ (some 12) rfl rfl Try.func90 (by kernel_rfl) rfl #[.bool a2, .int .u8 1] rfl (by (try simp only [List.map_toArray, List.map_cons, List.map_nil]); first | done | rfl | (simp only [List.length_drop, List.length_take]; rfl)) ?_; (with_reducible refine (alu_if1.calls a2 1 t101 _ A4.out).mono ?_); rintro e w' ⟨rfl, ⟨nd, rfl⟩⟩; refine ⟨_, rfl, ?_⟩) | ((with_reducible refine gate_callee (f := 91) rfl ?_); refine goesL_ (some 33) rfl rfl Try.func91 (by kernel_rfl) rfl #[.int .u8 ((wrap64 ((wrap64 ((wrap64 (a0)) + (wrap64 (a1)))) + (wrap64 (t101)))) % 256)] rfl (by (try simp only [List.map_toArray, List.map_cons, List.map_nil]); first | done | rfl | (simp only [List.length_drop, List.length_take]; rfl)) ?_; (with_reducible refine (alu_Own.calls ((wrap64 ((wrap64 ((wrap64 (a0)) + (wrap64 (a1)))) + (wrap64 (t101)))) % 256) t102 _ A5.out).mono ?_); rintro e w' ⟨rfl, ⟨nd, rfl⟩⟩; refine ⟨_, rfl, ?_⟩) | ((with_reducible refine gate_callee (f := 90) rfl ?_); refine goesL_ (some 36) rfl rfl Try.func90 (by kernel_rfl) rfl #[.bool (decide ((wrap64 ((wrap64 ((wrap64 (a0)) + (wrap64 (a1)))) + (wrap64 (t101)))) > 255)), .int .u8 1] rfl (by (try simp only [List.map_toArray, List.map_cons, List.map_nil]); first | done | rfl | (simp only [List.length_drop, List.length_take]; rfl)) ?_; (with_reducible refine (alu_if1.calls (decide ((wrap64 ((wrap64 ((wrap64 (a0)) + (wrap64 (a1)))) + (wrap64 (t101)))) > 255)) 1 t103 _ A6.out).mono ?_); rintro e w' ⟨rfl, ⟨nd, rfl⟩⟩; refine ⟨_, rfl, ?_⟩) | ((with_reducible refine gate_callee (f := 90) rfl ?_); refine goesL_ (some 48) rfl rfl Try.func90 (by kernel_rfl) rfl #[.bool (decide ((wrap64 ((wrap64 ((wrap64 (Go.bits .and .u8 a0 15)) + (wrap64 (Go.bits .and .u8 a1 15)))) + (wrap64 (t101)))) > 15)), .int .u8 16] rfl (by (try simp only [List.map_toArray, List.map_cons, List.map_nil]); first | done | rfl | (simp only [List.length_drop, List.length_take]; rfl)) ?_; (with_reducible refine (alu_if1.calls (decide ((wrap64 ((wrap64 ((wrap64 (Go.bits .and .u8 a0 15)) + (wrap64 (Go.bits .and .u8 a1 15)))) + (wrap64 (t101)))) > 15)) 16 t104 _ A7.out).mono ?_); rintro e w' ⟨rfl, ⟨nd, rfl⟩⟩; refine ⟨_, rfl, ?_⟩) | ((with_reducible refine gate_callee (f := 90) rfl ?_); refine goesL_ (some 56) rfl rfl Try.func90 (by kernel_rfl) rfl #[.bool true, .int .u8 4] rfl (by (try simp only [List.map_toArray, List.map_cons, List.map_nil]); first | done | rfl | (simp only [List.length_drop, List.length_take]; rfl)) ?_; (with_reducible refine (alu_if1.calls true 4 t105 _ A9.out).mono ?_); rintro e w' ⟨rfl, ⟨nd, rfl⟩⟩; refine ⟨_, rfl, ?_⟩))
    go_ret2
    exact ⟨by first | rfl | (simp; done) | (simp [*]; done), by repeat (first | exact Drawn0.refl _ | apply Drawn0.step)⟩
  · rw [if_neg c8] at H
    have c8b0 : decide ((wrap64 ((wrap64 ((wrap64 (IntKind.i8.wrap (a0))) + (wrap64 (IntKind.i8.wrap (a1))))) + (wrap64 (t101)))) < (-128)) = false := decide_eq_false c8
    clear c8
    replace H := Option.bind_eq_some_iff.mp H
    obtain ⟨t106, A100, H⟩ := H
    replace H : (some ((wrap64 ((wrap64 ((wrap64 (a0)) + (wrap64 (a1)))) + (wrap64 (t101)))) % 256, Go.bits .or .u8 (Go.bits .or .u8 (Go.bits .or .u8 t102 t103) t104) t106)) = some (r1, r2) := H
    have A10 := Aside0.mk A100
    clear A100
    simp only [Option.some.injEq, Prod.mk.injEq] at H
    obtain ⟨rfl, rfl⟩ := H
    go_enter Try.func37, Try.ntmps37
    go_wp2_with (first | ((with_reducible refine gate_callee (f := 90) rfl ?_); refine goesL_ (some 12) rfl rfl Try.func90 (by kernel_rfl) rfl #[.bool a2, .int .u8 1] rfl (by (try simp only [List.map_toArray, List.map_cons, List.map_nil]); first | done | rfl | (simp only [List.length_drop, List.length_take]; rfl)) ?_; (with_reducible refine (alu_if1.calls a2 1 t101 _ A4.out).mono ?_); rintro e w' ⟨rfl, ⟨nd, rfl⟩⟩; refine ⟨_, rfl, ?_⟩) | ((with_reducible refine gate_callee (f := 91) rfl ?_); refine goesL_ (some 33) rfl rfl Try.func91 (by kernel_rfl) rfl #[.int .u8 ((wrap64 ((wrap64 ((wrap64 (a0)) + (wrap64 (a1)))) + (wrap64 (t101)))) % 256)] rfl (by (try simp only [List.map_toArray, List.map_cons, List.map_nil]); first | done | rfl | (simp only [List.length_drop, List.length_take]; rfl)) ?_; (with_reducible refine (alu_Own.calls ((wrap64 ((wrap64 ((wrap64 (a0)) + (wrap64 (a1)))) + (wrap64 (t101)))) % 256) t102 _ A5.out).mono ?_); rintro e w' ⟨rfl, ⟨nd, rfl⟩⟩; refine ⟨_, rfl, ?_⟩) | ((with_reducible refine gate_callee (f := 90) rfl ?_); refine goesL_ (some 36) rfl rfl Try.func90 (by kernel_rfl) rfl #[.bool (decide ((wrap64 ((wrap64 ((wrap64 (a0)) + (wrap64 (a1)))) + (wrap64 (t101)))) > 255)), .int .u8 1] rfl (by (try simp only [List.map_toArray, List.map_cons, List.map_nil]); first | done | rfl | (simp only [List.length_drop, List.length_take]; rfl)) ?_; (with_reducible refine (alu_if1.calls (decide ((wrap64 ((wrap64 ((wrap64 (a0)) + (wrap64 (a1)))) + (wrap64 (t101)))) > 255)) 1 t103 _ A6.out).mono ?_); rintro e w' ⟨rfl, ⟨nd, rfl⟩⟩; refine ⟨_, rfl, ?_⟩) | ((with_reducible refine gate_callee (f := 90) rfl ?_); refine goesL_ (some 48) rfl rfl Try.func90 (by kernel_rfl) rfl #[.bool (decide ((wrap64 ((wrap64 ((wrap64 (Go.bits .and .u8 a0 15)) + (wrap64 (Go.bits .and .u8 a1 15)))) + (wrap64 (t101)))) > 15)), .int .u8 16] rfl (by (try simp only [List.map_toArray, List.map_cons, List.map_nil]); first | done | rfl | (simp only [List.length_drop, List.length_take]; rfl)) ?_; (with_reducible refine (alu_if1.calls (decide ((wrap64 ((wrap64 ((wrap64 (Go.bits .and .u8 a0 15)) + (wrap64 (Go.bits .and .u8 a1 15)))) + (wrap64 (t101)))) > 15)) 16 t104 _ A7.out).mono ?_); rintro e w' ⟨rfl, ⟨nd, rfl⟩⟩; refine ⟨_, rfl, ?_⟩) | ((with_reducible refine gate_callee (f := 90) rfl ?_); refine goesL_ (some 56) rfl rfl Try.func90 (by kernel_rfl) rfl #[.bool (decide ((wrap64 ((wrap64 ((wrap64 (IntKind.i8.wrap (a0))) + (wrap64 (IntKind.i8.wrap (a1))))) + (wrap64 (t101)))) > 127)), .int .u8 4] rfl (by (try simp only [List.map_toArray, List.map_cons, List.map_nil]); first | done | rfl | (simp only [List.length_drop, List.length_take]; rfl)) ?_; (with_reducible refine (alu_if1.calls (decide ((wrap64 ((wrap64 ((wrap64 (IntKind.i8.wrap (a0))) + (wrap64 (IntKind.i8.wrap (a1))))) + (wrap64 (t101)))) > 127)) 4 t106 _ A10.out).mono ?_); rintro e w' ⟨rfl, ⟨nd, rfl⟩⟩; refine ⟨_, rfl, ?_⟩))
    go_ret2
    exact ⟨by first | rfl | (simp; done) | (simp [*]; done), by repeat (first | exact Drawn0.refl _ | apply Drawn0.step)⟩

/-! ### alu_Sub: function 38 -/
def alu_Sub.f (a0 : Int) (a1 : Int) (a2 : Bool) : Option (Int × Int) := (alu_if1.f a2 1).bind fun t107 => ((alu_Own.f ((wrap64 ((wrap64 ((wrap64 (a0)) - (wrap64 (a1)))) - (wrap64 (t107)))) % 256)).bind fun t108 => ((alu_if1.f (decide ((wrap64 ((wrap64 ((wrap64 (a0)) - (wrap64 (a1)))) - (wrap64 (t107)))) < 0)) 1).bind fun t109 => ((alu_if1.f (decide ((wrap64 ((wrap64 ((wrap64 (Go.bits .and .u8 a0 15)) - (wrap64 (Go.bits .and .u8 a1 15)))) - (wrap64 (t107)))) < 0)) 16).bind fun t110 => (if (wrap64 ((wrap64 ((wrap64 (IntKind.i8.wrap (a0))) - (wrap64 (IntKind.i8.wrap (a1))))) - (wrap64 (t107)))) < (-128) then ((alu_if1.f true 4).bind fun t111 => (some ((wrap64 ((wrap64 ((wrap64 (a0)) - (wrap64 (a1)))) - (wrap64 (t107)))) % 256, Go.bits .or .u8 (Go.bits .or .u8 (Go.bits .or .u8 (Go.bits .or .u8 t108 2) t109) t110) t111))) else ((alu_if1.f (decide ((wrap64 ((wrap64 ((wrap64 (IntKind.i8.wrap (a0))) - (wrap64 (IntKind.i8.wrap (a1))))) - (wrap64 (t107)))) > 127)) 4).bind fun t112 => (some ((wrap64 ((wrap64 ((wrap64 (a0)) - (wrap64 (a1)))) - (wrap64 (t107)))) % 256, Go.bits .or .u8 (Go.bits .or .u8 (Go.bits .or .u8 (Go.bits .or .u8 t108 2) t109) t110) t112)))))))
set_option maxHeartbeats 8000000 in
set_option maxRecDepth 100000 in
theorem alu_Sub.calls (a0 : Int) (a1 : Int) (a2 : Bool) (r1 : Int) (r2 : Int) (w : World) (h : alu_Sub.f a0 a1 a2 = some (r1, r2)) :
    Calls Try.prog 38 #[.int .u8 a0, .int .u8 a1, .bool a2] w fun e w' => e = .returned (.tuple #[.int .u8 r1, .int .u8 r2]) ∧ Drawn0 w w' := by
  have H : ((alu_if1.f a2 1).bind fun t107 => ((alu_Own.f ((wrap64 ((wrap64 ((wrap64 (a0)) - (wrap64 (a1)))) - (wrap64 (t107)))) % 256)).bind fun t108 => ((alu_if1.f (decide ((wrap64 ((wrap64 ((wrap64 (a0)) - (wrap64 (a1)))) - (wrap64 (t107)))) < 0)) 1).bind fun t109 => ((alu_if1.f (decide ((wrap64 ((wrap64 ((wrap64 (Go.bits .and .u8 a0 15)) - (wrap64 (Go.bits .and .u8 a1 15)))) - (wrap64 (t107)))) < 0)) 16).bind fun t110 => (if (wrap64 ((wrap64 ((wrap64 (IntKind.i8.wrap (a0))) - (wrap64 (IntKind.i8.wrap (a1))))) - (wrap64 (t107)))) < (-128) then ((alu_if1.f true 4).bind fun t111 => (some ((wrap64 ((wrap64 ((wrap64 (a0)) - (wrap64 (a1)))) - (wrap64 (t107)))) % 256, Go.bits .or .u8 (Go.bits .or .u8 (Go.bits .or .u8 (Go.bits .or .u8 t108 2) t109) t110) t111))) else ((alu_if1.f (decide ((wrap64 ((wrap64 ((wrap64 (IntKind.i8.wrap (a0))) - (wrap64 (IntKind.i8.wrap (a1))))) - (wrap64 (t107)))) > 127)) 4).bind fun t112 => (some ((wrap64 ((wrap64 ((wrap64 (a0)) - (wrap64 (a1)))) - (wrap64 (t107)))) % 256, Go.bits .or .u8 (Go.bits .or .u8 (Go.bits .or .u8 (Go.bits .or .u8 t108 2) t109) t110) t112)))))))) = some (r1, r2) := h
  clear h
  replace H := Option.bind_eq_some_iff.mp H
  obtain ⟨t107, A40, H⟩ := H
  replace H : ((alu_Own.f ((wrap64 ((wrap64 ((wrap64 (a0)) - (wrap64 (a1)))) - (wrap64 (t107)))) % 256)).bind fun t108 => ((alu_if1.f (decide ((wrap64 ((wrap64 ((wrap64 (a0)) - (wrap64 (a1)))) - (wrap64 (t107)))) < 0)) 1).bind fun t109 => ((alu_if1.f (decide ((wrap64 ((wrap64 ((wrap64 (Go.bits .and .u8 a0 15)) - (wrap64 (Go.bits .and .u8 a1 15)))) - (wrap64 (t107)))) < 0)) 16).bind fun t110 => (if (wrap64 ((wrap64 ((wrap64 (IntKind.i8.wrap (a0))) - (wrap64 (IntKind.i8.wrap (a1))))) - (wrap64 (t107)))) < (-128) then ((alu_if1.f true 4).bind fun t111 => (some ((wrap64 ((wrap64 ((wrap64 (a0)) - (wrap64 (a1)))) - (wrap64 (t107)))) % 256, Go.bits .or .u8 (Go.bits .or .u8 (Go.bits .or .u8 (Go.bits .or .u8 t108 2) t109) t110) t111))) else ((alu_if1.f (decide ((wrap64 ((wrap64 ((wrap64 (IntKind.i8.wrap (a0))) - (wrap64 (IntKind.i8.wrap (a1))))) - (wrap64 (t107)))) > 127)) 4).bind fun t112 => (some ((wrap64 ((wrap64 ((wrap64 (a0)) - (wrap64 (a1)))) - (wrap64 (t107)))) % 256, Go.bits .or .u8 (Go.bits .or .u8 (Go.bits .or .u8 (Go.bits .or .u8 t108 2) t109) t110) t112))))))) = some (r1, r2) := H
  have A4 := Aside0.mk A40
  clear A40
  replace H := Option.bind_eq_some_iff.mp H
  obtain ⟨t108, A50, H⟩ := H
  replace H : ((alu_if1.f (decide ((wrap64 ((wrap64 ((wrap64 (a0)) - (wrap64 (a1)))) - (wrap64 (t107)))) < 0)) 1).bind fun t109 => ((alu_if1.f (decide ((wrap64 ((wrap64 ((wrap64 (Go.bits .and .u8 a0 15)) - (wrap64 (Go.bits .and .u8 a1 15)))) - (wrap64 (t107)))) < 0)) 16).bind fun t110 => (if (wrap64 ((wrap64 ((wrap64 (IntKind.i8.wrap (a0))) - (wrap64 (IntKind.i8.wrap (a1))))) - (wrap64 (t107)))) < (-128) then ((alu_if1.f true 4).bind fun t111 => (some ((wrap64 ((wrap64 ((wrap64 (a0)) - (wrap64 (a1)))) - (wrap64 (t107)))) % 256, Go.bits .or .u8 (Go.bits .or .u8 (Go.bits .or .u8 (Go.bits .or .u8 t108 2) t109) t110) t111))) else ((alu_if1.f (decide ((wrap64 ((wrap64 ((wrap64 (IntKind.i8.wrap (a0))) - (wrap64 (IntKind.i8.wrap (a1))))) - (wrap64 (t107)))) > 127)) 4).bind fun t112 => (some ((wrap64 ((wrap64 ((wrap64 (a0)) - (wrap64 (a1)))) - (wrap64 (t107)))) % 256, Go.bits .or .u8 (Go.bits .or .u8 (Go.bits .or .u8 (Go.bits .or .u8 t108 2) t109) t110) t112)))))) = some (r1, r2) := H
  have A5 := Aside0.mk A50
  clear A50
  replace H := Option.bind_eq_some_iff.mp H
  obtain ⟨t109, A60, H⟩ := H
  replace H : ((alu_if1.f (decide ((wrap64 ((wrap64 ((wrap64 (Go.bits .and .u8 a0 15)) - (wrap64 (Go.bits .and .u8 a1 15)))) - (wrap64 (t107)))) < 0)) 16).bind fun t110 => (if (wrap64 ((wrap64 ((wrap64 (IntKind.i8.wrap (a0))) - (wrap64 (IntKind.i8.wrap (a1))))) - (wrap64 (t107)))) < (-128) then ((alu_if1.f true 4).bind fun t111 => (some ((wrap64 ((wrap64 ((wrap64 (a0)) - (wrap64 (a1)))) - (wrap64 (t107)))) % 256, Go.bits .or .u8 (Go.bits .or .u8 (Go.bits .or .u8 (Go.bits .or .u8 t108 2) t109) t110) t111))) else ((alu_if1.f (decide ((wrap64 ((wrap64 ((wrap64 (IntKind.i8.wrap (a0))) - (wrap64 (IntKind.i8.wrap (a1))))) - (wrap64 (t107)))) > 127)) 4).bind fun t112 => (some ((wrap64 ((wrap64 ((wrap64 (a0)) - (wrap64 (a1)))) - (wrap64 (t107)))) % 256, Go.bits .or .u8 (Go.bits .or .u8 (Go.bits .or .u8 (Go.bits .or .u8 t108 2) t109) t110) t112))))) = some (r1, r2) := H
  have A6 := Aside0.mk A60
  clear A60
  replace H := Option.bind_eq_some_iff.mp H
  obtain ⟨t110, A70, H⟩ := H
  replace H : (if (wrap64 ((wrap64 ((wrap64 (IntKind.i8.wrap (a0))) - (wrap64 (IntKind.i8.wrap (a1))))) - (wrap64 (t107)))) < (-128) then ((alu_if1.f true 4).bind fun t111 => (some ((wrap64 ((wrap64 ((wrap64 (a0)) - (wrap64 (a1)))) - (wrap64 (t107)))) % 256, Go.bits .or .u8 (Go.bits .or .u8 (Go.bits .or .u8 (Go.bits .or .u8 t108 2) t109) t110) t111))) else ((alu_if1.f (decide ((wrap64 ((wrap64 ((wrap64 (IntKind.i8.wrap (a0))) - (wrap64 (IntKind.i8.wrap (a1))))) - (wrap64 (t107)))) > 127)) 4).bind fun t112 => (some ((wrap64 ((wrap64 ((wrap64 (a0)) - (wrap64 (a1)))) - (wrap64 (t107)))) % 256, Go.bits .or .u8 (Go.bits .or .u8 (Go.bits .or .u8 (Go.bits .or .u8 t108 2) t109) t110) t112)))) = some (r1, r2) := H
  have A7 := Aside0.mk A70
  clear A70
  by_cases c8 : (wrap64 ((wrap64 ((wrap64 (IntKind.i8.wrap (a0))) - (wrap64 (IntKind.i8.wrap (a1))))) - (wrap64 (t107)))) < (-128)
  · rw [if_pos c8] at H
    have c8b0 : decide ((wrap64 ((wrap64 ((wrap64 (IntKind.i8.wrap (a0))) - (wrap64 (IntKind.i8.wrap (a1))))) - (wrap64 (t107)))) < (-128)) = true := decide_eq_true c8
    clear c8
    replace H := Option.bind_eq_some_iff.mp H
    obtain ⟨t111, A90, H⟩ := H
    replace H : (some ((wrap64 ((wrap64 ((wrap64 (a0)) - (wrap64 (a1)))) - (wrap64 (t107)))) % 256, Go.bits .or .u8 (Go.bits .or .u8 (Go.bits .or .u8 (Go.bits .or .u8 t108 2) t109) t110) t111)) = some (r1, r2) := H
    have A9 := Aside0.mk A90
    clear A90
    simp only [Option.some.injEq, Prod.mk.injEq] at H
    obtain ⟨rfl, rfl⟩ := H
    go_enter Try.func38, Try.ntmps38
    go_wp2_with (first | ((with_reducible refine gate_callee (f := 90) rfl ?_); refine goesL_ (some 12) rfl rfl Try.func90 (by kernel_rfl) rfl #[.bool a2, .int .u8 1] rfl (by (try simp only [List.map_toArray, List.map_cons, List.map_nil]); first | done | rfl | (simp only [List.length_drop, List.length_take]; rfl)) ?_; (with_reducible refine (alu_if1.calls a2 1 t107 _ A4.out).mono ?_); rintro e w' ⟨rfl, ⟨nd, rfl⟩⟩; refine ⟨_, rfl, ?_⟩) | ((with_reducible refine gate_callee (f := 91) rfl ?_); refine goesL_ (some 33) rfl rfl Try.func91 (by kernel_rfl) rfl #[.int .u8 ((wrap64 ((wrap64 ((wrap64 (a0)) - (wrap64 (a1)))) - (wrap64 (t107)))) % 256)] rfl (by (try simp only [List.map_toArray, List.map_cons, List.map_nil]); first | done | rfl | (simp only [List.length_drop, List.length_take]; rfl)) ?_; (with_reducible refine (alu_Own.calls ((wrap64 ((wrap64 ((wrap64 (a0)) - (wrap64 (a1)))) - (wrap64 (t107)))) % 256) t108 _ A5.out).mono ?_); rintro e w' ⟨rfl, ⟨nd, rfl⟩⟩; refine ⟨_, rfl, ?_⟩) | ((with_reducible refine gate_callee (f := 90) rfl ?_); refine goesL_ (some 37) rfl rfl Try.func90 (by kernel_rfl) rfl #[.bool (decide ((wrap64 ((wrap64 ((wrap64 (a0)) - (wrap64 (a1)))) - (wrap64 (t107)))) < 0)), .int .u8 1] rfl (by (try simp only [List.map_toArray, List.map_cons, List.map_nil]); first | done | rfl | (simp only [List.length_drop, List.length_take]; rfl)) ?_; (with_reducible refine (alu_if1.calls (decide ((wrap64 ((wrap64 ((wrap64 (a0)) - (wrap64 (a1)))) - (wrap64 (t107)))) < 0)) 1 t109 _ A6.out).mono ?_); rintro e w' ⟨rfl, ⟨nd, rfl⟩⟩; refine ⟨_, rfl, ?_⟩) | ((with_reducible refine gate_callee (f := 90) rfl ?_); refine goesL_ (some 49) rfl rfl Try.func90 (by kernel_rfl) rfl #[.bool (decide ((wrap64 ((wrap64 ((wrap64 (Go.bits .and .u8 a0 15)) - (wrap64 (Go.bits .and .u8 a1 15)))) - (wrap64 (t107)))) < 0)), .int .u8 16] rfl (by (try simp only [List.map_toArray, List.map_cons, List.map_nil]); first | done | rfl | (simp only [List.length_drop, List.length_take]; rfl)) ?_; (with_reducible refine (alu_if1.calls (decide ((wrap64 ((wrap64 ((wrap64 (Go.bits .and .u8 a0 15)) - (wrap64 (Go.bits .and .u8 a1 15)))) - (wrap64 (t107)))) < 0)) 16 t110 _ A7.out).mono ?_); rintro e w' ⟨rfl, ⟨nd, rfl⟩⟩; refine ⟨_, rfl, ?_⟩) | ((with_reducible refine gate_callee (f := 90) rfl ?_); refine goesL_ (some 57) rfl rfl Try.func90 (by kernel_rfl) rfl #[.bool true, .int .u8 4] rfl (by (try simp only [List.map_toArray, List.map_cons, List.map_nil]); first | done | rfl | (simp only [List.length_drop, List.length_take]; rfl)) ?_; (with_reducible refine (alu_if1.calls true 4 t111 _ A9.out).mono ?_); rintro e w' ⟨rfl, ⟨nd, rfl⟩⟩; refine ⟨_, rfl, ?_⟩))
    go_ret2
    exact ⟨by first | rfl | (simp; done) | (simp [*]; done), by repeat (first | exact Drawn0.refl _ | apply Drawn0.step)⟩
  · rw [if_neg c8] at H
    have c8b0 : decide ((wrap64 ((wrap64 ((wrap64 (IntKind.i8.wrap (a0))) - (wrap64 (IntKind.i8.wrap (a1))))) - (wrap64 (t107)))) < (-128)) = false := decide_eq_false c8
    clear c8
    replace H := Option.bind_eq_some_iff.mp H
    obtain ⟨t112, A100, H⟩ := H
    replace H : (some ((wrap64 ((wrap64 ((wrap64 (a0)) - (wrap64 (a1)))) - (wrap64 (t107)))) % 256, Go.bits .or .u8 (Go.bits .or .u8 (Go.bits .or .u8 (Go.bits .or .u8 t108 2) t109) t110) t112)) = some (r1, r2) := H
    have A10 := Aside0.mk A100
    clear A100
    simp only [Option.some.injEq, Prod.mk.injEq] at H
    obtain ⟨rfl, rfl⟩ := H
    go_enter Try.func38, Try.ntmps38
    go_wp2_with (first | ((with_reducible refine gate_callee (f := 90) rfl ?_); refine goesL_ (some 12) rfl rfl Try.func90 (by kernel_rfl) rfl #[.bool a2, .int .u8 1] rfl (by (try simp only [List.map_toArray, List.map_cons, List.map_nil]); first | done | rfl | (simp only [List.length_drop, List.length_take]; rfl)) ?_; (with_reducible refine (alu_if1.calls a2 1 t107 _ A4.out).mono ?_); rintro e w' ⟨rfl, ⟨nd, rfl⟩⟩; refine ⟨_, rfl, ?_⟩) | ((with_reducible refine gate_callee (f := 91) rfl ?_); refine goesL_ (some 33) rfl rfl Try.func91 (by kernel_rfl) rfl #[.int .u8 ((wrap64 ((wrap64 ((wrap64 (a0)) - (wrap64 (a1)))) - (wrap64 (t107)))) % 256)] rfl (by (try simp only [List.map_toArray, List.map_cons, List.map_nil]); first | done | rfl | (simp only [List.length_drop, List.length_take]; rfl)) ?_; (with_reducible refine (alu_Own.calls ((wrap64 ((wrap64 ((wrap64 (a0)) - (wrap64 (a1)))) - (wrap64 (t107)))) % 256) t108 _ A5.out).mono ?_); rintro e w' ⟨rfl, ⟨nd, rfl⟩⟩; refine ⟨_, rfl, ?_⟩) | ((with_reducible refine gate_callee (f := 90) rfl ?_); refine goesL_ (some 37) rfl rfl Try.func90 (by kernel_rfl) rfl #[.bool (decide ((wrap64 ((wrap64 ((wrap64 (a0)) - (wrap64 (a1)))) - (wrap64 (t107)))) < 0)), .int .u8 1] rfl (by (try simp only [List.map_toArray, List.map_cons, List.map_nil]); first | done | rfl | (simp only [List.length_drop, List.length_take]; rfl)) ?_; (with_reducible refine (alu_if1.calls (decide ((wrap64 ((wrap64 ((wrap64 (a0)) - (wrap64 (a1)))) - (wrap64 (t107)))) < 0)) 1 t109 _ A6.out).mono ?_); rintro e w' ⟨rfl, ⟨nd, rfl⟩⟩; refine ⟨_, rfl, ?_⟩) | ((with_reducible refine gate_callee (f := 90) rfl ?_); refine goesL_ (some 49) rfl rfl Try.func90 (by kernel_rfl) rfl #[.bool (decide ((wrap64 ((wrap64 ((wrap64 (Go.bits .and .u8 a0 15)) - (wrap64 (Go.bits .and .u8 a1 15)))) - (wrap64 (t107)))) < 0)), .int .u8 16] rfl (by (try simp only [List.map_toArray, List.map_cons, List.map_nil]); first | done | rfl | (simp only [List.length_drop, List.length_take]; rfl)) ?_; (with_reducible refine (alu_if1.calls (decide ((wrap64 ((wrap64 ((wrap64 (Go.bits .and .u8 a0 15)) - (wrap64 (Go.bits .and .u8 a1 15)))) - (wrap64 (t107)))) < 0)) 16 t110 _ A7.out).mono ?_); rintro e w' ⟨rfl, ⟨nd, rfl⟩⟩; refine ⟨_, rfl, ?_⟩) | ((with_reducible refine gate_callee (f := 90) rfl ?_); refine goesL_ (some 57) rfl rfl Try.func90 (by kernel_rfl) rfl #[.bool (decide ((wrap64 ((wrap64 ((wrap64 (IntKind.i8.wrap (a0))) - (wrap64 (IntKind.i8.wrap (a1))))) - (wrap64 (t107)))) > 127)), .int .u8 4] rfl (by (try simp only [List.map_toArray, List.map_cons, List.map_nil]); first | done | rfl | (simp only [List.length_drop, List.length_take]; rfl)) ?_; (with_reducible refine (alu_if1.calls (decide ((wrap64 ((wrap64 ((wrap64 (IntKind.i8.wrap (a0))) - (wrap64 (IntKind.i8.wrap (a1))))) - (wrap64 (t107)))) > 127)) 4 t112 _ A10.out).mono ?_); rintro e w' ⟨rfl, ⟨nd, rfl⟩⟩; refine ⟨_, rfl, ?_⟩))
    go_ret2
    exact ⟨by first | rfl | (simp; done) | (simp [*]; done), by repeat (first | exact Drawn0.refl _ | apply Drawn0.step)⟩

/-! ### alu_Cp: function 89 -/
def alu_Cp.f (a0 : Int) (a1 : Int) : Option (Int) := (alu_Sub.f a0 a1 false).bind fun bt113 => (some (Go.bits .or .u8 (Go.bits .andNot .u8 bt113.2 40) (Go.bits .and .u8 a1 40)))
set_option maxHeartbeats 8000000 in
set_option maxRecDepth 100000 in
theorem alu_Cp.calls (a0 : Int) (a1 : Int) (r : Int) (w : World) (h : alu_Cp.f a0 a1 = some r) :
    Calls Try.prog 89 #[.int .u8 a0, .int .u8 a1] w fun e w' => e = .returned (.int .u8 r) ∧ Drawn0 w w' := by
  have H : ((alu_Sub.f a0 a1 false).bind fun bt113 => (some (Go.bits .or .u8 (Go.bits .andNot .u8 bt113.2 40) (Go.bits .and .u8 a1 40)))) = some r := h
  clear h
  replace H := Option.bind_eq_some_iff.mp H
  obtain ⟨⟨t113, t114⟩, A30, H⟩ := H
  replace H : (some (Go.bits .or .u8 (Go.bits .andNot .u8 t114 40) (Go.bits .and .u8 a1 40))) = some r := H
  have A3 := Aside0.mk A30
  clear A30
  obtain rfl := Option.some.inj H
  go_enter Try.func89, Try.ntmps89
  go_wp2_with (first | ((with_reducible refine gate_callee (f := 38) rfl ?_); refine goesL_ (some 8) rfl rfl Try.func38 (by kernel_rfl) rfl #[.int .u8 a0, .int .u8 a1, .bool false] rfl (by (try simp only [List.map_toArray, List.map_cons, List.map_nil]); first | done | rfl | (simp only [List.length_drop, List.length_take]; rfl)) ?_; (with_reducible refine (alu_Sub.calls a0 a1 false t113 t114 _ A3.out).mono ?_); rintro e w' ⟨rfl, ⟨nd, rfl⟩⟩; refine ⟨_, rfl, ?_⟩))
  go_ret
  exact ⟨by first | rfl | (simp; done) | (simp [*]; done), by repeat (first | exact Drawn0.refl _ | apply Drawn0.step)⟩

/-! ### pendulumlaw05_lives: function 36 -/
def pendulumlaw05_lives.f  : Option (Bool) := (alu_Add.f 127 1 false).bind fun bt115 => ((alu_Sub.f 0 1 false).bind fun bt117 => (if bt115.1 = 128 then (if bt115.2 = 148 then (if bt117.1 = 255 then (if bt117.2 = 187 then ((alu_Cp.f 16 40).bind fun t119 => (some (t119 == 187))) else (some false)) else (some false)) else (some false)) else (some false)))
set_option maxHeartbeats 8000000 in
set_option maxRecDepth 100000 in
theorem pendulumlaw05_lives.calls  (r : Bool) (w : World) (h : pendulumlaw05_lives.f  = some r) :
    Calls Try.prog 36 #[] w fun e w' => e = .returned (.bool r) ∧ Drawn0 w w' := by
  have H : ((alu_Add.f 127 1 false).bind fun bt115 => ((alu_Sub.f 0 1 false).bind fun bt117 => (if bt115.1 = 128 then (if bt115.2 = 148 then (if bt117.1 = 255 then (if bt117.2 = 187 then ((alu_Cp.f 16 40).bind fun t119 => (some (t119 == 187))) else (some false)) else (some false)) else (some false)) else (some false)))) = some r := h
  clear h
  replace H := Option.bind_eq_some_iff.mp H
  obtain ⟨⟨t115, t116⟩, A10, H⟩ := H
  replace H : ((alu_Sub.f 0 1 false).bind fun bt117 => (if t115 = 128 then (if t116 = 148 then (if bt117.1 = 255 then (if bt117.2 = 187 then ((alu_Cp.f 16 40).bind fun t119 => (some (t119 == 187))) else (some false)) else (some false)) else (some false)) else (some false))) = some r := H
  have A1 := Aside0.mk A10
  clear A10
  replace H := Option.bind_eq_some_iff.mp H
  obtain ⟨⟨t117, t118⟩, A20, H⟩ := H
  replace H : (if t115 = 128 then (if t116 = 148 then (if t117 = 255 then (if t118 = 187 then ((alu_Cp.f 16 40).bind fun t119 => (some (t119 == 187))) else (some false)) else (some false)) else (some false)) else (some false)) = some r := H
  have A2 := Aside0.mk A20
  clear A20
  by_cases c3 : t115 = 128
  · rw [if_pos c3] at H
    have c3b0 : (t115 == 128) = true := beq_iff_eq.mpr c3
    have c3b1 : (t115 != 128) = false := bne_eq_false_iff_eq.mpr c3
    clear c3
    by_cases c4 : t116 = 148
    · rw [if_pos c4] at H
      have c4b0 : (t116 == 148) = true := beq_iff_eq.mpr c4
      have c4b1 : (t116 != 148) = false := bne_eq_false_iff_eq.mpr c4
      clear c4
      by_cases c5 : t117 = 255
      · rw [if_pos c5] at H
        have c5b0 : (t117 == 255) = true := beq_iff_eq.mpr c5
        have c5b1 : (t117 != 255) = false := bne_eq_false_iff_eq.mpr c5
        clear c5
        by_cases c6 : t118 = 187
        · rw [if_pos c6] at H
          have c6b0 : (t118 == 187) = true := beq_iff_eq.mpr c6
          have c6b1 : (t118 != 187) = false := bne_eq_false_iff_eq.mpr c6
          clear c6
          replace H := Option.bind_eq_some_iff.mp H
          obtain ⟨t119, A70, H⟩ := H
          replace H : (some (t119 == 187)) = some r := H
          have A7 := Aside0.mk A70
          clear A70
          obtain rfl := Option.some.inj H
          go_enter Try.func36, Try.ntmps36
          go_wp2_with (first | ((with_reducible refine gate_callee (f := 37) rfl ?_); refine goesL_ (some 6) rfl rfl Try.func37 (by kernel_rfl) rfl #[.int .u8 127, .int .u8 1, .bool false] rfl (by (try simp only [List.map_toArray, List.map_cons, List.map_nil]); first | done | rfl | (simp only [List.length_drop, List.length_take]; rfl)) ?_; (with_reducible refine (alu_Add.calls 127 1 false t115 t116 _ A1.out).mono ?_); rintro e w' ⟨rfl, ⟨nd, rfl⟩⟩; refine ⟨_, rfl, ?_⟩) | ((with_reducible refine gate_callee (f := 38) rfl ?_); refine goesL_ (some 10) rfl rfl Try.func38 (by kernel_rfl) rfl #[.int .u8 0, .int .u8 1, .bool false] rfl (by (try simp only [List.map_toArray, List.map_cons, List.map_nil]); first | done | rfl | (simp only [List.length_drop, List.length_take]; rfl)) ?_; (with_reducible refine (alu_Sub.calls 0 1 false t117 t118 _ A2.out).mono ?_); rintro e w' ⟨rfl, ⟨nd, rfl⟩⟩; refine ⟨_, rfl, ?_⟩) | (go_at_call 89; (with_reducible refine (alu_Cp.calls 16 40 t119 _ A7.out).mono ?_); rintro e w' ⟨rfl, ⟨nd, rfl⟩⟩))
          go_ret
          exact ⟨by first | rfl | (simp; done) | (simp [*]; done), by repeat (first | exact Drawn0.refl _ | apply Drawn0.step)⟩
        · rw [if_neg c6] at H
          have c6b0 : (t118 == 187) = false := beq_eq_false_iff_ne.mpr c6
          have c6b1 : (t118 != 187) = true := bne_iff_ne.mpr c6
          obtain rfl := Option.some.inj H
          go_enter Try.func36, Try.ntmps36
          go_wp2_with (first | ((with_reducible refine gate_callee (f := 37) rfl ?_); refine goesL_ (some 6) rfl rfl Try.func37 (by kernel_rfl) rfl #[.int .u8 127, .int .u8 1, .bool false] rfl (by (try simp only [List.map_toArray, List.map_cons, List.map_nil]); first | done | rfl | (simp only [List.length_drop, List.length_take]; rfl)) ?_; (with_reducible refine (alu_Add.calls 127 1 false t115 t116 _ A1.out).mono ?_); rintro e w' ⟨rfl, ⟨nd, rfl⟩⟩; refine ⟨_, rfl, ?_⟩) | ((with_reducible refine gate_callee (f := 38) rfl ?_); refine goesL_ (some 10) rfl rfl Try.func38 (by kernel_rfl) rfl #[.int .u8 0, .int .u8 1, .bool false] rfl (by (try simp only [List.map_toArray, List.map_cons, List.map_nil]); first | done | rfl | (simp only [List.length_drop, List.length_take]; rfl)) ?_; (with_reducible refine (alu_Sub.calls 0 1 false t117 t118 _ A2.out).mono ?_); rintro e w' ⟨rfl, ⟨nd, rfl⟩⟩; refine ⟨_, rfl, ?_⟩))
          go_ret
          exact ⟨by first | rfl | (simp; done) | (simp [*]; done), by repeat (first | exact Drawn0.refl _ | apply Drawn0.step)⟩
      · rw [if_neg c5] at H
        have c5b0 : (t117 == 255) = false := beq_eq_false_iff_ne.mpr c5
        have c5b1 : (t117 != 255) = true := bne_iff_ne.mpr c5
        obtain rfl := Option.some.inj H
        go_enter Try.func36, Try.ntmps36
        go_wp2_with (first | ((with_reducible refine gate_callee (f := 37) rfl ?_); refine goesL_ (some 6) rfl rfl Try.func37 (by kernel_rfl) rfl #[.int .u8 127, .int .u8 1, .bool false] rfl (by (try simp only [List.map_toArray, List.map_cons, List.map_nil]); first | done | rfl | (simp only [List.length_drop, List.length_take]; rfl)) ?_; (with_reducible refine (alu_Add.calls 127 1 false t115 t116 _ A1.out).mono ?_); rintro e w' ⟨rfl, ⟨nd, rfl⟩⟩; refine ⟨_, rfl, ?_⟩) | ((with_reducible refine gate_callee (f := 38) rfl ?_); refine goesL_ (some 10) rfl rfl Try.func38 (by kernel_rfl) rfl #[.int .u8 0, .int .u8 1, .bool false] rfl (by (try simp only [List.map_toArray, List.map_cons, List.map_nil]); first | done | rfl | (simp only [List.length_drop, List.length_take]; rfl)) ?_; (with_reducible refine (alu_Sub.calls 0 1 false t117 t118 _ A2.out).mono ?_); rintro e w' ⟨rfl, ⟨nd, rfl⟩⟩; refine ⟨_, rfl, ?_⟩))
        go_ret
        exact ⟨by first | rfl | (simp; done) | (simp [*]; done), by repeat (first | exact Drawn0.refl _ | apply Drawn0.step)⟩
    · rw [if_neg c4] at H
      have c4b0 : (t116 == 148) = false := beq_eq_false_iff_ne.mpr c4
      have c4b1 : (t116 != 148) = true := bne_iff_ne.mpr c4
      obtain rfl := Option.some.inj H
      go_enter Try.func36, Try.ntmps36
      go_wp2_with (first | ((with_reducible refine gate_callee (f := 37) rfl ?_); refine goesL_ (some 6) rfl rfl Try.func37 (by kernel_rfl) rfl #[.int .u8 127, .int .u8 1, .bool false] rfl (by (try simp only [List.map_toArray, List.map_cons, List.map_nil]); first | done | rfl | (simp only [List.length_drop, List.length_take]; rfl)) ?_; (with_reducible refine (alu_Add.calls 127 1 false t115 t116 _ A1.out).mono ?_); rintro e w' ⟨rfl, ⟨nd, rfl⟩⟩; refine ⟨_, rfl, ?_⟩) | ((with_reducible refine gate_callee (f := 38) rfl ?_); refine goesL_ (some 10) rfl rfl Try.func38 (by kernel_rfl) rfl #[.int .u8 0, .int .u8 1, .bool false] rfl (by (try simp only [List.map_toArray, List.map_cons, List.map_nil]); first | done | rfl | (simp only [List.length_drop, List.length_take]; rfl)) ?_; (with_reducible refine (alu_Sub.calls 0 1 false t117 t118 _ A2.out).mono ?_); rintro e w' ⟨rfl, ⟨nd, rfl⟩⟩; refine ⟨_, rfl, ?_⟩))
      go_ret
      exact ⟨by first | rfl | (simp; done) | (simp [*]; done), by repeat (first | exact Drawn0.refl _ | apply Drawn0.step)⟩
  · rw [if_neg c3] at H
    have c3b0 : (t115 == 128) = false := beq_eq_false_iff_ne.mpr c3
    have c3b1 : (t115 != 128) = true := bne_iff_ne.mpr c3
    obtain rfl := Option.some.inj H
    go_enter Try.func36, Try.ntmps36
    go_wp2_with (first | ((with_reducible refine gate_callee (f := 37) rfl ?_); refine goesL_ (some 6) rfl rfl Try.func37 (by kernel_rfl) rfl #[.int .u8 127, .int .u8 1, .bool false] rfl (by (try simp only [List.map_toArray, List.map_cons, List.map_nil]); first | done | rfl | (simp only [List.length_drop, List.length_take]; rfl)) ?_; (with_reducible refine (alu_Add.calls 127 1 false t115 t116 _ A1.out).mono ?_); rintro e w' ⟨rfl, ⟨nd, rfl⟩⟩; refine ⟨_, rfl, ?_⟩) | ((with_reducible refine gate_callee (f := 38) rfl ?_); refine goesL_ (some 10) rfl rfl Try.func38 (by kernel_rfl) rfl #[.int .u8 0, .int .u8 1, .bool false] rfl (by (try simp only [List.map_toArray, List.map_cons, List.map_nil]); first | done | rfl | (simp only [List.length_drop, List.length_take]; rfl)) ?_; (with_reducible refine (alu_Sub.calls 0 1 false t117 t118 _ A2.out).mono ?_); rintro e w' ⟨rfl, ⟨nd, rfl⟩⟩; refine ⟨_, rfl, ?_⟩))
    go_ret
    exact ⟨by first | rfl | (simp; done) | (simp [*]; done), by repeat (first | exact Drawn0.refl _ | apply Drawn0.step)⟩

/-! ### bits_OnesCount8: function 105 -/
def bits_OnesCount8.f (a0 : Int) : Option (Int) := if 0 ≤ a0 then (if a0 < 256 then (some (wrap64 (bt (⟨#[0, 1, 1, 2, 1, 2, 2, 3, 1, 2, 2, 3, 2, 3, 3, 4, 1, 2, 2, 3, 2, 3, 3, 4, 2, 3, 3, 4, 3, 4, 4, 5, 1, 2, 2, 3, 2, 3, 3, 4, 2, 3, 3, 4, 3, 4, 4, 5, 2, 3, 3, 4, 3, 4, 4, 5, 3, 4, 4, 5, 4, 5, 5, 6, 1, 2, 2, 3, 2, 3, 3, 4, 2, 3, 3, 4, 3, 4, 4, 5, 2, 3, 3, 4, 3, 4, 4, 5, 3, 4, 4, 5, 4, 5, 5, 6, 2, 3, 3, 4, 3, 4, 4, 5, 3, 4, 4, 5, 4, 5, 5, 6, 3, 4, 4, 5, 4, 5, 5, 6, 4, 5, 5, 6, 5, 6, 6, 7, 1, 2, 2, 3, 2, 3, 3, 4, 2, 3, 3, 4, 3, 4, 4, 5, 2, 3, 3, 4, 3, 4, 4, 5, 3, 4, 4, 5, 4, 5, 5, 6, 2, 3, 3, 4, 3, 4, 4, 5, 3, 4, 4, 5, 4, 5, 5, 6, 3, 4, 4, 5, 4, 5, 5, 6, 4, 5, 5, 6, 5, 6, 6, 7, 2, 3, 3, 4, 3, 4, 4, 5, 3, 4, 4, 5, 4, 5, 5, 6, 3, 4, 4, 5, 4, 5, 5, 6, 4, 5, 5, 6, 5, 6, 6, 7, 3, 4, 4, 5, 4, 5, 5, 6, 4, 5, 5, 6, 5, 6, 6, 7, 4, 5, 5, 6, 5, 6, 6, 7, 5, 6, 6, 7, 6, 7, 7, 8]⟩ : ByteArray) a0))) else (none)) else (none)
set_option maxHeartbeats 8000000 in
set_option maxRecDepth 100000 in
theorem bits_OnesCount8.calls (a0 : Int) (r : Int) (w : World) (h : bits_OnesCount8.f a0 = some r) :
    Calls Try.prog 105 #[.int .u8 a0] w fun e w' => e = .returned (.int .i64 r) ∧ Drawn0 w w' := by
  have H : (if 0 ≤ a0 then (if a0 < 256 then (some (wrap64 (bt (⟨#[0, 1, 1, 2, 1, 2, 2, 3, 1, 2, 2, 3, 2, 3, 3, 4, 1, 2, 2, 3, 2, 3, 3, 4, 2, 3, 3, 4, 3, 4, 4, 5, 1, 2, 2, 3, 2, 3, 3, 4, 2, 3, 3, 4, 3, 4, 4, 5, 2, 3, 3, 4, 3, 4, 4, 5, 3, 4, 4, 5, 4, 5, 5, 6, 1, 2, 2, 3, 2, 3, 3, 4, 2, 3, 3, 4, 3, 4, 4, 5, 2, 3, 3, 4, 3, 4, 4, 5, 3, 4, 4, 5, 4, 5, 5, 6, 2, 3, 3, 4, 3, 4, 4, 5, 3, 4, 4, 5, 4, 5, 5, 6, 3, 4, 4, 5, 4, 5, 5, 6, 4, 5, 5, 6, 5, 6, 6, 7, 1, 2, 2, 3, 2, 3, 3, 4, 2, 3, 3, 4, 3, 4, 4, 5, 2, 3, 3, 4, 3, 4, 4, 5, 3, 4, 4, 5, 4, 5, 5, 6, 2, 3, 3, 4, 3, 4, 4, 5, 3, 4, 4, 5, 4, 5, 5, 6, 3, 4, 4, 5, 4, 5, 5, 6, 4, 5, 5, 6, 5, 6, 6, 7, 2, 3, 3, 4, 3, 4, 4, 5, 3, 4, 4, 5, 4, 5, 5, 6, 3, 4, 4, 5, 4, 5, 5, 6, 4, 5, 5, 6, 5, 6, 6, 7, 3, 4, 4, 5, 4, 5, 5, 6, 4, 5, 5, 6, 5, 6, 6, 7, 4, 5, 5, 6, 5, 6, 6, 7, 5, 6, 6, 7, 6, 7, 7, 8]⟩ : ByteArray) a0))) else (none)) else (none)) = some r := h
  clear h
  by_cases c2 : 0 ≤ a0
  · rw [if_pos c2] at H
    have c2b0 : decide (0 ≤ a0) = true := decide_eq_true c2
    clear c2
    by_cases c3 : a0 < 256
    · rw [if_pos c3] at H
      have c3b0 : decide (a0 < 256) = true := decide_eq_true c3
      clear c3
      obtain rfl := Option.some.inj H
      have p4 : 0 ≤ (a0 : Int) := of_decide_eq_true (by first | (with_reducible assumption) | assumption)
      have q4 : a0 < (256 : Int) := of_decide_eq_true (by first | (with_reducible assumption) | assumption)
      have hx4 := bt_at (⟨#[0, 1, 1, 2, 1, 2, 2, 3, 1, 2, 2, 3, 2, 3, 3, 4, 1, 2, 2, 3, 2, 3, 3, 4, 2, 3, 3, 4, 3, 4, 4, 5, 1, 2, 2, 3, 2, 3, 3, 4, 2, 3, 3, 4, 3, 4, 4, 5, 2, 3, 3, 4, 3, 4, 4, 5, 3, 4, 4, 5, 4, 5, 5, 6, 1, 2, 2, 3, 2, 3, 3, 4, 2, 3, 3, 4, 3, 4, 4, 5, 2, 3, 3, 4, 3, 4, 4, 5, 3, 4, 4, 5, 4, 5, 5, 6, 2, 3, 3, 4, 3, 4, 4, 5, 3, 4, 4, 5, 4, 5, 5, 6, 3, 4, 4, 5, 4, 5, 5, 6, 4, 5, 5, 6, 5, 6, 6, 7, 1, 2, 2, 3, 2, 3, 3, 4, 2, 3, 3, 4, 3, 4, 4, 5, 2, 3, 3, 4, 3, 4, 4, 5, 3, 4, 4, 5, 4, 5, 5, 6, 2, 3, 3, 4, 3, 4, 4, 5, 3, 4, 4, 5, 4, 5, 5, 6, 3, 4, 4, 5, 4, 5, 5, 6, 4, 5, 5, 6, 5, 6, 6, 7, 2, 3, 3, 4, 3, 4, 4, 5, 3, 4, 4, 5, 4, 5, 5, 6, 3, 4, 4, 5, 4, 5, 5, 6, 4, 5, 5, 6, 5, 6, 6, 7, 3, 4, 4, 5, 4, 5, 5, 6, 4, 5, 5, 6, 5, 6, 6, 7, 4, 5, 5, 6, 5, 6, 6, 7, 5, 6, 6, 7, 6, 7, 7, 8]⟩ : ByteArray) a0
      replace p4 := eq_true p4
      replace q4 := eq_true q4
      go_enter Try.func105, Try.ntmps105
      go_wp2
      go_ret
      exact ⟨by first | rfl | (simp; done) | (simp [*]; done), by repeat (first | exact Drawn0.refl _ | apply Drawn0.step)⟩
    · rw [if_neg c3] at H
      exact absurd H (by simp)
  · rw [if_neg c2] at H
    exact absurd H (by simp)

/-! ### alu_Parity: function 99 -/
def alu_Parity.f (a0 : Int) : Option (Bool) := (bits_OnesCount8.f a0).bind fun t120 => (some ((Int.tmod t120 2) == 0))
set_option maxHeartbeats 8000000 in
set_option maxRecDepth 100000 in
theorem alu_Parity.calls (a0 : Int) (r : Bool) (w : World) (h : alu_Parity.f a0 = some r) :
    Calls Try.prog 99 #[.int .u8 a0] w fun e w' => e = .returned (.bool r) ∧ Drawn0 w w' := by
  have H : ((bits_OnesCount8.f a0).bind fun t120 => (some ((Int.tmod t120 2) == 0))) = some r := h
  clear h
  replace H := Option.bind_eq_some_iff.mp H
  obtain ⟨t120, A20, H⟩ := H
  replace H : (some ((Int.tmod t120 2) == 0)) = some r := H
  have A2 := Aside0.mk A20
  clear A20
  obtain rfl := Option.some.inj H
  go_enter Try.func99, Try.ntmps99
  go_wp2_with (first | ((with_reducible refine gate_callee (f := 105) rfl ?_); refine goesL_ (some 4) rfl rfl Try.func105 (by kernel_rfl) rfl #[.int .u8 a0] rfl (by (try simp only [List.map_toArray, List.map_cons, List.map_nil]); first | done | rfl | (simp only [List.length_drop, List.length_take]; rfl)) ?_; (with_reducible refine (bits_OnesCount8.calls a0 t120 _ A2.out).mono ?_); rintro e w' ⟨rfl, ⟨nd, rfl⟩⟩; refine ⟨_, rfl, ?_⟩))
  go_ret
  exact ⟨by first | rfl | (simp; done) | (simp [*]; done), by repeat (first | exact Drawn0.refl _ | apply Drawn0.step)⟩

/-! ### alu_logic: function 93 -/
def alu_logic.f (a0 : Int) (a1 : Int) : Option (Int × Int) := (alu_Own.f a0).bind fun t121 => ((alu_Parity.f a0).bind fun t122 => ((alu_if1.f t122 4).bind fun t123 => (some (a0, Go.bits .or .u8 (Go.bits .or .u8 t121 t123) a1))))
set_option maxHeartbeats 8000000 in
set_option maxRecDepth 100000 in
theorem alu_logic.calls (a0 : Int) (a1 : Int) (r1 : Int) (r2 : Int) (w : World) (h : alu_logic.f a0 a1 = some (r1, r2)) :
    Calls Try.prog 93 #[.int .u8 a0, .int .u8 a1] w fun e w' => e = .returned (.tuple #[.int .u8 r1, .int .u8 r2]) ∧ Drawn0 w w' := by
  have H : ((alu_Own.f a0).bind fun t121 => ((alu_Parity.f a0).bind fun t122 => ((alu_if1.f t122 4).bind fun t123 => (some (a0, Go.bits .or .u8 (Go.bits .or .u8 t121 t123) a1))))) = some (r1, r2) := h
  clear h
  replace H := Option.bind_eq_some_iff.mp H
  obtain ⟨t121, A30, H⟩ := H
  replace H : ((alu_Parity.f a0).bind fun t122 => ((alu_if1.f t122 4).bind fun t123 => (some (a0, Go.bits .or .u8 (Go.bits .or .u8 t121 t123) a1)))) = some (r1, r2) := H
  have A3 := Aside0.mk A30
  clear A30
  replace H := Option.bind_eq_some_iff.mp H
  obtain ⟨t122, A40, H⟩ := H
  replace H : ((alu_if1.f t122 4).bind fun t123 => (some (a0, Go.bits .or .u8 (Go.bits .or .u8 t121 t123) a1))) = some (r1, r2) := H
  have A4 := Aside0.mk A40
  clear A40
  replace H := Option.bind_eq_some_iff.mp H
  obtain ⟨t123, A50, H⟩ := H
  replace H : (some (a0, Go.bits .or .u8 (Go.bits .or .u8 t121 t123) a1)) = some (r1, r2) := H
  have A5 := Aside0.mk A50
  clear A50
  simp only [Option.some.injEq, Prod.mk.injEq] at H
  obtain ⟨rfl, rfl⟩ := H
  go_enter Try.func93, Try.ntmps93
  go_wp2_with (first | ((with_reducible refine gate_callee (f := 91) rfl ?_); refine goesL_ (some 8) rfl rfl Try.func91 (by kernel_rfl) rfl #[.int .u8 a0] rfl (by (try simp only [List.map_toArray, List.map_cons, List.map_nil]); first | done | rfl | (simp only [List.length_drop, List.length_take]; rfl)) ?_; (with_reducible refine (alu_Own.calls a0 t121 _ A3.out).mono ?_); rintro e w' ⟨rfl, ⟨nd, rfl⟩⟩; refine ⟨_, rfl, ?_⟩) | ((with_reducible refine gate_callee (f := 99) rfl ?_); refine goesL_ (some 10) rfl rfl Try.func99 (by kernel_rfl) rfl #[.int .u8 a0] rfl (by (try simp only [List.map_toArray, List.map_cons, List.map_nil]); first | done | rfl | (simp only [List.length_drop, List.length_take]; rfl)) ?_; (with_reducible refine (alu_Parity.calls a0 t122 _ A4.out).mono ?_); rintro e w' ⟨rfl, ⟨nd, rfl⟩⟩; refine ⟨_, rfl, ?_⟩) | ((with_reducible refine gate_callee (f := 90) rfl ?_); refine goesL_ (some 11) rfl rfl Try.func90 (by kernel_rfl) rfl #[.bool t122, .int .u8 4] rfl (by (try simp only [List.map_toArray, List.map_cons, List.map_nil]); first | done | rfl | (simp only [List.length_drop, List.length_take]; rfl)) ?_; (with_reducible refine (alu_if1.calls t122 4 t123 _ A5.out).mono ?_); rintro e w' ⟨rfl, ⟨nd, rfl⟩⟩; refine ⟨_, rfl, ?_⟩))
  go_ret2
  exact ⟨by first | rfl | (simp; done) | (simp [*]; done), by repeat (first | exact Drawn0.refl _ | apply Drawn0.step)⟩

/-! ### alu_And: function 40 -/
def alu_And.f (a0 : Int) (a1 : Int) : Option (Int × Int) := (alu_logic.f (Go.bits .and .u8 a0 a1) 16).bind fun bt124 => (some (bt124.1, bt124.2))
set_option maxHeartbeats 8000000 in
set_option maxRecDepth 100000 in
theorem alu_And.calls (a0 : Int) (a1 : Int) (r1 : Int) (r2 : Int) (w : World) (h : alu_And.f a0 a1 = some (r1, r2)) :
    Calls Try.prog 40 #[.int .u8 a0, .int .u8 a1] w fun e w' => e = .returned (.tuple #[.int .u8 r1, .int .u8 r2]) ∧ Drawn0 w w' := by
  have H : ((alu_logic.f (Go.bits .and .u8 a0 a1) 16).bind fun bt124 => (some (bt124.1, bt124.2))) = some (r1, r2) := h
  clear h
  replace H := Option.bind_eq_some_iff.mp H
  obtain ⟨⟨t124, t125⟩, A30, H⟩ := H
  replace H : (some (t124, t125)) = some (r1, r2) := H
  have A3 := Aside0.mk A30
  clear A30
  simp only [Option.some.injEq, Prod.mk.injEq] at H
  obtain ⟨rfl, rfl⟩ := H
  go_enter Try.func40, Try.ntmps40
  go_wp2_with (first | ((with_reducible refine gate_callee (f := 93) rfl ?_); refine goesL_ (some 9) rfl rfl Try.func93 (by kernel_rfl) rfl #[.int .u8 (Go.bits .and .u8 a0 a1), .int .u8 16] rfl (by (try simp only [List.map_toArray, List.map_cons, List.map_nil]); first | done | rfl | (simp only [List.length_drop, List.length_take]; rfl)) ?_; (with_reducible refine (alu_logic.calls (Go.bits .and .u8 a0 a1) 16 t124 t125 _ A3.out).mono ?_); rintro e w' ⟨rfl, ⟨nd, rfl⟩⟩; refine ⟨_, rfl, ?_⟩))
  go_ret2
  exact ⟨by first | rfl | (simp; done) | (simp [*]; done), by repeat (first | exact Drawn0.refl _ | apply Drawn0.step)⟩

/-! ### alu_Inc: function 41 -/
def alu_Inc.f (a0 : Int) (a1 : Int) : Option (Int × Int) := (alu_Add.f a0 1 false).bind fun bt126 => (some (bt126.1, Go.bits .or .u8 (Go.bits .andNot .u8 bt126.2 1) (Go.bits .and .u8 a1 1)))
set_option maxHeartbeats 8000000 in
set_option maxRecDepth 100000 in
theorem alu_Inc.calls (a0 : Int) (a1 : Int) (r1 : Int) (r2 : Int) (w : World) (h : alu_Inc.f a0 a1 = some (r1, r2)) :
    Calls Try.prog 41 #[.int .u8 a0, .int .u8 a1] w fun e w' => e = .returned (.tuple #[.int .u8 r1, .int .u8 r2]) ∧ Drawn0 w w' := by
  have H : ((alu_Add.f a0 1 false).bind fun bt126 => (some (bt126.1, Go.bits .or .u8 (Go.bits .andNot .u8 bt126.2 1) (Go.bits .and .u8 a1 1)))) = some (r1, r2) := h
  clear h
  replace H := Option.bind_eq_some_iff.mp H
  obtain ⟨⟨t126, t127⟩, A30, H⟩ := H
  replace H : (some (t126, Go.bits .or .u8 (Go.bits .andNot .u8 t127 1) (Go.bits .and .u8 a1 1))) = some (r1, r2) := H
  have A3 := Aside0.mk A30
  clear A30
  simp only [Option.some.injEq, Prod.mk.injEq] at H
  obtain ⟨rfl, rfl⟩ := H
  go_enter Try.func41, Try.ntmps41
  go_wp2_with (first | ((with_reducible refine gate_callee (f := 37) rfl ?_); refine goesL_ (some 8) rfl rfl Try.func37 (by kernel_rfl) rfl #[.int .u8 a0, .int .u8 1, .bool false] rfl (by (try simp only [List.map_toArray, List.map_cons, List.map_nil]); first | done | rfl | (simp only [List.length_drop, List.length_take]; rfl)) ?_; (with_reducible refine (alu_Add.calls a0 1 false t126 t127 _ A3.out).mono ?_); rintro e w' ⟨rfl, ⟨nd, rfl⟩⟩; refine ⟨_, rfl, ?_⟩))
  go_ret2
  exact ⟨by first | rfl | (simp; done) | (simp [*]; done), by repeat (first | exact Drawn0.refl _ | apply Drawn0.step)⟩

/-! ### alu_Neg: function 42 -/
def alu_Neg.f (a0 : Int) : Option (Int × Int) := (alu_Sub.f 0 a0 false).bind fun bt128 => (some (bt128.1, bt128.2))
set_option maxHeartbeats 8000000 in
set_option maxRecDepth 100000 in
theorem alu_Neg.calls (a0 : Int) (r1 : Int) (r2 : Int) (w : World) (h : alu_Neg.f a0 = some (r1, r2)) :
    Calls Try.prog 42 #[.int .u8 a0] w fun e w' => e = .returned (.tuple #[.int .u8 r1, .int .u8 r2]) ∧ Drawn0 w w' := by
  have H : ((alu_Sub.f 0 a0 false).bind fun bt128 => (some (bt128.1, bt128.2))) = some (r1, r2) := h
  clear h
  replace H := Option.bind_eq_some_iff.mp H
  obtain ⟨⟨t128, t129⟩, A20, H⟩ := H
  replace H : (some (t128, t129)) = some (r1, r2) := H
  have A2 := Aside0.mk A20
  clear A20
  simp only [Option.some.injEq, Prod.mk.injEq] at H
  obtain ⟨rfl, rfl⟩ := H
  go_enter Try.func42, Try.ntmps42
  go_wp2_with (first | ((with_reducible refine gate_callee (f := 38) rfl ?_); refine goesL_ (some 5) rfl rfl Try.func38 (by kernel_rfl) rfl #[.int .u8 0, .int .u8 a0, .bool false] rfl (by (try simp only [List.map_toArray, List.map_cons, List.map_nil]); first | done | rfl | (simp only [List.length_drop, List.length_take]; rfl)) ?_; (with_reducible refine (alu_Sub.calls 0 a0 false t128 t129 _ A2.out).mono ?_); rintro e w' ⟨rfl, ⟨nd, rfl⟩⟩; refine ⟨_, rfl, ?_⟩))
  go_ret2
  exact ⟨by first | rfl | (simp; done) | (simp [*]; done), by repeat (first | exact Drawn0.refl _ | apply Drawn0.step)⟩

/-! ### pendulumlaw05_AluNames: function 9 -/
def pendulumlaw05_AluNames.f  : Option (Bool) := (alu_Add.f 255 1 false).bind fun bt130 => ((alu_And.f 240 60).bind fun bt132 => ((alu_Inc.f 255 1).bind fun bt134 => ((alu_Neg.f 128).bind fun bt136 => ((pendulumlaw05_lives.f).bind fun t138 => (if t138 = true then (if bt130.1 = 0 then (if bt130.2 = 81 then (if bt132.1 = 48 then (if bt132.2 = 52 then (if bt134.1 = 0 then (if bt134.2 = 81 then (if bt136.1 = 128 then (if bt136.2 = 135 then (some true) else (some false)) else (some false)) else (some false)) else (some false)) else (some false)) else (some false)) else (some false)) else (some false)) else (some false))))))
set_option maxHeartbeats 8000000 in
set_option maxRecDepth 100000 in
theorem pendulumlaw05_AluNames.calls  (r : Bool) (w : World) (h : pendulumlaw05_AluNames.f  = some r) :
    Calls Try.prog 9 #[] w fun e w' => e = .returned (.bool r) ∧ Drawn0 w w' := by
  have H : ((alu_Add.f 255 1 false).bind fun bt130 => ((alu_And.f 240 60).bind fun bt132 => ((alu_Inc.f 255 1).bind fun bt134 => ((alu_Neg.f 128).bind fun bt136 => ((pendulumlaw05_lives.f).bind fun t138 => (if t138 = true then (if bt130.1 = 0 then (if bt130.2 = 81 then (if bt132.1 = 48 then (if bt132.2 = 52 then (if bt134.1 = 0 then (if bt134.2 = 81 then (if bt136.1 = 128 then (if bt136.2 = 135 then (some true) else (some false)) else (some false)) else (some false)) else (some false)) else (some false)) else (some false)) else (some false)) else (some false)) else (some false))))))) = some r := h
  clear h
  replace H := Option.bind_eq_some_iff.mp H
  obtain ⟨⟨t130, t131⟩, A10, H⟩ := H
  replace H : ((alu_And.f 240 60).bind fun bt132 => ((alu_Inc.f 255 1).bind fun bt134 => ((alu_Neg.f 128).bind fun bt136 => ((pendulumlaw05_lives.f).bind fun t138 => (if t138 = true then (if t130 = 0 then (if t131 = 81 then (if bt132.1 = 48 then (if bt132.2 = 52 then (if bt134.1 = 0 then (if bt134.2 = 81 then (if bt136.1 = 128 then (if bt136.2 = 135 then (some true) else (some false)) else (some false)) else (some false)) else (some false)) else (some false)) else (some false)) else (some false)) else (some false)) else (some false)))))) = some r := H
  have A1 := Aside0.mk A10
  clear A10
  replace H := Option.bind_eq_some_iff.mp H
  obtain ⟨⟨t132, t133⟩, A20, H⟩ := H
  replace H : ((alu_Inc.f 255 1).bind fun bt134 => ((alu_Neg.f 128).bind fun bt136 => ((pendulumlaw05_lives.f).bind fun t138 => (if t138 = true then (if t130 = 0 then (if t131 = 81 then (if t132 = 48 then (if t133 = 52 then (if bt134.1 = 0 then (if bt134.2 = 81 then (if bt136.1 = 128 then (if bt136.2 = 135 then (some true) else (some false)) else (some false)) else (some false)) else (some false)) else (some false)) else (some false)) else (some false)) else (some false)) else (some false))))) = some r := H
  have A2 := Aside0.mk A20
  clear A20
  replace H := Option.bind_eq_some_iff.mp H
  obtain ⟨⟨t134, t135⟩, A30, H⟩ := H
  replace H : ((alu_Neg.f 128).bind fun bt136 => ((pendulumlaw05_lives.f).bind fun t138 => (if t138 = true then (if t130 = 0 then (if t131 = 81 then (if t132 = 48 then (if t133 = 52 then (if t134 = 0 then (if t135 = 81 then (if bt136.1 = 128 then (if bt136.2 = 135 then (some true) else (some false)) else (some false)) else (some false)) else (some false)) else (some false)) else (some false)) else (some false)) else (some false)) else (some false)))) = some r := H
  have A3 := Aside0.mk A30
  clear A30
  replace H := Option.bind_eq_some_iff.mp H
  obtain ⟨⟨t136, t137⟩, A40, H⟩ := H
  replace H : ((pendulumlaw05_lives.f).bind fun t138 => (if t138 = true then (if t130 = 0 then (if t131 = 81 then (if t132 = 48 then (if t133 = 52 then (if t134 = 0 then (if t135 = 81 then (if t136 = 128 then (if t137 = 135 then (some true) else (some false)) else (some false)) else (some false)) else (some false)) else (some false)) else (some false)) else (some false)) else (some false)) else (some false))) = some r := H
  have A4 := Aside0.mk A40
  clear A40
  replace H := Option.bind_eq_some_iff.mp H
  obtain ⟨t138, A50, H⟩ := H
  replace H : (if t138 = true then (if t130 = 0 then (if t131 = 81 then (if t132 = 48 then (if t133 = 52 then (if t134 = 0 then (if t135 = 81 then (if t136 = 128 then (if t137 = 135 then (some true) else (some false)) else (some false)) else (some false)) else (some false)) else (some false)) else (some false)) else (some false)) else (some false)) else (some false)) = some r := H
  have A5 := Aside0.mk A50
  clear A50
  by_cases c6 : t138 = true
  · subst c6
    have H1 : (if t130 = 0 then (if t131 = 81 then (if t132 = 48 then (if t133 = 52 then (if t134 = 0 then (if t135 = 81 then (if t136 = 128 then (if t137 = 135 then (some true) else (some false)) else (some false)) else (some false)) else (some false)) else (some false)) else (some false)) else (some false)) else (some false)) = some r := by rw [if_pos rfl] at H; exact H
    clear H
    have H := H1
    clear H1
    by_cases c7 : t130 = 0
    · rw [if_pos c7] at H
      have c7b0 : (t130 == 0) = true := beq_iff_eq.mpr c7
      have c7b1 : (t130 != 0) = false := bne_eq_false_iff_eq.mpr c7
      clear c7
      by_cases c8 : t131 = 81
      · rw [if_pos c8] at H
        have c8b0 : (t131 == 81) = true := beq_iff_eq.mpr c8
        have c8b1 : (t131 != 81) = false := bne_eq_false_iff_eq.mpr c8
        clear c8
        by_cases c9 : t132 = 48
        · rw [if_pos c9] at H
          have c9b0 : (t132 == 48) = true := beq_iff_eq.mpr c9
          have c9b1 : (t132 != 48) = false := bne_eq_false_iff_eq.mpr c9
          clear c9
          by_cases c10 : t133 = 52
          · rw [if_pos c10] at H
            have c10b0 : (t133 == 52) = true := beq_iff_eq.mpr c10
            have c10b1 : (t133 != 52) = false := bne_eq_false_iff_eq.mpr c10
            clear c10
            by_cases c11 : t134 = 0
            · rw [if_pos c11] at H
              have c11b0 : (t134 == 0) = true := beq_iff_eq.mpr c11
              have c11b1 : (t134 != 0) = false := bne_eq_false_iff_eq.mpr c11
              clear c11
              by_cases c12 : t135 = 81
              · rw [if_pos c12] at H
                have c12b0 : (t135 == 81) = true := beq_iff_eq.mpr c12
                have c12b1 : (t135 != 81) = false := bne_eq_false_iff_eq.mpr c12
                clear c12
                by_cases c13 : t136 = 128
                · rw [if_pos c13] at H
                  have c13b0 : (t136 == 128) = true := beq_iff_eq.mpr c13
                  have c13b1 : (t136 != 128) = false := bne_eq_false_iff_eq.mpr c13
                  clear c13
                  by_cases c14 : t137 = 135
                  · rw [if_pos c14] at H
                    have c14b0 : (t137 == 135) = true := beq_iff_eq.mpr c14
                    have c14b1 : (t137 != 135) = false := bne_eq_false_iff_eq.mpr c14
                    clear c14
                    obtain rfl := Option.some.inj H
                    go_enter Try.func9, Try.ntmps9
                    go_wp2_with (first | ((with_reducible refine gate_callee (f := 37) rfl ?_); refine goesL_ (some 10) rfl rfl Try.func37 (by kernel_rfl) rfl #[.int .u8 255, .int .u8 1, .bool false] rfl (by (try simp only [List.map_toArray, List.map_cons, List.map_nil]); first | done | rfl | (simp only [List.length_drop, List.length_take]; rfl)) ?_; (with_reducible refine (alu_Add.calls 255 1 false t130 t131 _ A1.out).mono ?_); rintro e w' ⟨rfl, ⟨nd, rfl⟩⟩; refine ⟨_, rfl, ?_⟩) | ((with_reducible refine gate_callee (f := 40) rfl ?_); refine goesL_ (some 14) rfl rfl Try.func40 (by kernel_rfl) rfl #[.int .u8 240, .int .u8 60] rfl (by (try simp only [List.map_toArray, List.map_cons, List.map_nil]); first | done | rfl | (simp only [List.length_drop, List.length_take]; rfl)) ?_; (with_reducible refine (alu_And.calls 240 60 t132 t133 _ A2.out).mono ?_); rintro e w' ⟨rfl, ⟨nd, rfl⟩⟩; refine ⟨_, rfl, ?_⟩) | ((with_reducible refine gate_callee (f := 41) rfl ?_); refine goesL_ (some 18) rfl rfl Try.func41 (by kernel_rfl) rfl #[.int .u8 255, .int .u8 1] rfl (by (try simp only [List.map_toArray, List.map_cons, List.map_nil]); first | done | rfl | (simp only [List.length_drop, List.length_take]; rfl)) ?_; (with_reducible refine (alu_Inc.calls 255 1 t134 t135 _ A3.out).mono ?_); rintro e w' ⟨rfl, ⟨nd, rfl⟩⟩; refine ⟨_, rfl, ?_⟩) | ((with_reducible refine gate_callee (f := 42) rfl ?_); refine goesL_ (some 22) rfl rfl Try.func42 (by kernel_rfl) rfl #[.int .u8 128] rfl (by (try simp only [List.map_toArray, List.map_cons, List.map_nil]); first | done | rfl | (simp only [List.length_drop, List.length_take]; rfl)) ?_; (with_reducible refine (alu_Neg.calls 128 t136 t137 _ A4.out).mono ?_); rintro e w' ⟨rfl, ⟨nd, rfl⟩⟩; refine ⟨_, rfl, ?_⟩) | ((with_reducible refine gate_callee (f := 36) rfl ?_); refine goesL_ (some 25) rfl rfl Try.func36 (by kernel_rfl) rfl #[] rfl (by (try simp only [List.map_toArray, List.map_cons, List.map_nil]); first | done | rfl | (simp only [List.length_drop, List.length_take]; rfl)) ?_; (with_reducible refine (pendulumlaw05_lives.calls  true _ A5.out).mono ?_); rintro e w' ⟨rfl, ⟨nd, rfl⟩⟩; refine ⟨_, rfl, ?_⟩))
                    go_ret
                    exact ⟨by first | rfl | (simp; done) | (simp [*]; done), by repeat (first | exact Drawn0.refl _ | apply Drawn0.step)⟩
                  · rw [if_neg c14] at H
                    have c14b0 : (t137 == 135) = false := beq_eq_false_iff_ne.mpr c14
                    have c14b1 : (t137 != 135) = true := bne_iff_ne.mpr c14
                    obtain rfl := Option.some.inj H
                    go_enter Try.func9, Try.ntmps9
                    go_wp2_with (first | ((with_reducible refine gate_callee (f := 37) rfl ?_); refine goesL_ (some 10) rfl rfl Try.func37 (by kernel_rfl) rfl #[.int .u8 255, .int .u8 1, .bool false] rfl (by (try simp only [List.map_toArray, List.map_cons, List.map_nil]); first | done | rfl | (simp only [List.length_drop, List.length_take]; rfl)) ?_; (with_reducible refine (alu_Add.calls 255 1 false t130 t131 _ A1.out).mono ?_); rintro e w' ⟨rfl, ⟨nd, rfl⟩⟩; refine ⟨_, rfl, ?_⟩) | ((with_reducible refine gate_callee (f := 40) rfl ?_); refine goesL_ (some 14) rfl rfl Try.func40 (by kernel_rfl) rfl #[.int .u8 240, .int .u8 60] rfl (by (try simp only [List.map_toArray, List.map_cons, List.map_nil]); first | done | rfl | (simp only [List.length_drop, List.length_take]; rfl)) ?_; (with_reducible refine (alu_And.calls 240 60 t132 t133 _ A2.out).mono ?_); rintro e w' ⟨rfl, ⟨nd, rfl⟩⟩; refine ⟨_, rfl, ?_⟩) | ((with_reducible refine gate_callee (f := 41) rfl ?_); refine goesL_ (some 18) rfl rfl Try.func41 (by kernel_rfl) rfl #[.int .u8 255, .int .u8 1] rfl (by (try simp only [List.map_toArray, List.map_cons, List.map_nil]); first | done | rfl | (simp only [List.length_drop, List.length_take]; rfl)) ?_; (with_reducible refine (alu_Inc.calls 255 1 t134 t135 _ A3.out).mono ?_); rintro e w' ⟨rfl, ⟨nd, rfl⟩⟩; refine ⟨_, rfl, ?_⟩) | ((with_reducible refine gate_callee (f := 42) rfl ?_); refine goesL_ (some 22) rfl rfl Try.func42 (by kernel_rfl) rfl #[.int .u8 128] rfl (by (try simp only [List.map_toArray, List.map_cons, List.map_nil]); first | done | rfl | (simp only [List.length_drop, List.length_take]; rfl)) ?_; (with_reducible refine (alu_Neg.calls 128 t136 t137 _ A4.out).mono ?_); rintro e w' ⟨rfl, ⟨nd, rfl⟩⟩; refine ⟨_, rfl, ?_⟩) | ((with_reducible refine gate_callee (f := 36) rfl ?_); refine goesL_ (some 25) rfl rfl Try.func36 (by kernel_rfl) rfl #[] rfl (by (try simp only [List.map_toArray, List.map_cons, List.map_nil]); first | done | rfl | (simp only [List.length_drop, List.length_take]; rfl)) ?_; (with_reducible refine (pendulumlaw05_lives.calls  true _ A5.out).mono ?_); rintro e w' ⟨rfl, ⟨nd, rfl⟩⟩; refine ⟨_, rfl, ?_⟩))
                    go_ret
                    exact ⟨by first | rfl | (simp; done) | (simp [*]; done), by repeat (first | exact Drawn0.refl _ | apply Drawn0.step)⟩
                · rw [if_neg c13] at H
                  have c13b0 : (t136 == 128) = false := beq_eq_false_iff_ne.mpr c13
                  have c13b1 : (t136 != 128) = true := bne_iff_ne.mpr c13
                  obtain rfl := Option.some.inj H
                  go_enter Try.func9, Try.ntmps9
                  go_wp2_with (first | ((with_reducible refine gate_callee (f := 37) rfl ?_); refine goesL_ (some 10) rfl rfl Try.func37 (by kernel_rfl) rfl #[.int .u8 255, .int .u8 1, .bool false] rfl (by (try simp only [List.map_toArray, List.map_cons, List.map_nil]); first | done | rfl | (simp only [List.length_drop, List.length_take]; rfl)) ?_; (with_reducible refine (alu_Add.calls 255 1 false t130 t131 _ A1.out).mono ?_); rintro e w' ⟨rfl, ⟨nd, rfl⟩⟩; refine ⟨_, rfl, ?_⟩) | ((with_reducible refine gate_callee (f := 40) rfl ?_); refine goesL_ (some 14) rfl rfl Try.func40 (by kernel_rfl) rfl #[.int .u8 240, .int .u8 60] rfl (by (try simp only [List.map_toArray, List.map_cons, List.map_nil]); first | done | rfl | (simp only [List.length_drop, List.length_take]; rfl)) ?_; (with_reducible refine (alu_And.calls 240 60 t132 t133 _ A2.out).mono ?_); rintro e w' ⟨rfl, ⟨nd, rfl⟩⟩; refine ⟨_, rfl, ?_⟩) | ((with_reducible refine gate_callee (f := 41) rfl ?_); refine goesL_ (some 18) rfl rfl Try.func41 (by kernel_rfl) rfl #[.int .u8 255, .int .u8 1] rfl (by (try simp only [List.map_toArray, List.map_cons, List.map_nil]); first | done | rfl | (simp only [List.length_drop, List.length_take]; rfl)) ?_; (with_reducible refine (alu_Inc.calls 255 1 t134 t135 _ A3.out).mono ?_); rintro e w' ⟨rfl, ⟨nd, rfl⟩⟩; refine ⟨_, rfl, ?_⟩) | ((with_reducible refine gate_callee (f := 42) rfl ?_); refine goesL_ (some 22) rfl rfl Try.func42 (by kernel_rfl) rfl #[.int .u8 128] rfl (by (try simp only [List.map_toArray, List.map_cons, List.map_nil]); first | done | rfl | (simp only [List.length_drop, List.length_take]; rfl)) ?_; (with_reducible refine (alu_Neg.calls 128 t136 t137 _ A4.out).mono ?_); rintro e w' ⟨rfl, ⟨nd, rfl⟩⟩; refine ⟨_, rfl, ?_⟩) | ((with_reducible refine gate_callee (f := 36) rfl ?_); refine goesL_ (some 25) rfl rfl Try.func36 (by kernel_rfl) rfl #[] rfl (by (try simp only [List.map_toArray, List.map_cons, List.map_nil]); first | done | rfl | (simp only [List.length_drop, List.length_take]; rfl)) ?_; (with_reducible refine (pendulumlaw05_lives.calls  true _ A5.out).mono ?_); rintro e w' ⟨rfl, ⟨nd, rfl⟩⟩; refine ⟨_, rfl, ?_⟩))
                  go_ret
                  exact ⟨by first | rfl | (simp; done) | (simp [*]; done), by repeat (first | exact Drawn0.refl _ | apply Drawn0.step)⟩
              · rw [if_neg c12] at H
                have c12b0 : (t135 == 81) = false := beq_eq_false_iff_ne.mpr c12
                have c12b1 : (t135 != 81) = true := bne_iff_ne.mpr c12
                obtain rfl := Option.some.inj H
                go_enter Try.func9, Try.ntmps9
                go_wp2_with (first | ((with_reducible refine gate_callee (f := 37) rfl ?_); refine goesL_ (some 10) rfl rfl Try.func37 (by kernel_rfl) rfl #[.int .u8 255, .int .u8 1, .bool false] rfl (by (try simp only [List.map_toArray, List.map_cons, List.map_nil]); first | done | rfl | (simp only [List.length_drop, List.length_take]; rfl)) ?_; (with_reducible refine (alu_Add.calls 255 1 false t130 t131 _ A1.out).mono ?_); rintro e w' ⟨rfl, ⟨nd, rfl⟩⟩; refine ⟨_, rfl, ?_⟩) | ((with_reducible refine gate_callee (f := 40) rfl ?_); refine goesL_ (some 14) rfl rfl Try.func40 (by kernel_rfl) rfl #[.int .u8 240, .int .u8 60] rfl (by (try simp only [List.map_toArray, List.map_cons, List.map_nil]); first | done | rfl | (simp only [List.length_drop, List.length_take]; rfl)) ?_; (with_reducible refine (alu_And.calls 240 60 t132 t133 _ A2.out).mono ?_); rintro e w' ⟨rfl, ⟨nd, rfl⟩⟩; refine ⟨_, rfl, ?_⟩) | ((with_reducible refine gate_callee (f := 41) rfl ?_); refine goesL_ (some 18) rfl rfl Try.func41 (by kernel_rfl) rfl #[.int .u8 255, .int .u8 1] rfl (by (try simp only [List.map_toArray, List.map_cons, List.map_nil]); first | done | rfl | (simp only [List.length_drop, List.length_take]; rfl)) ?_; (with_reducible refine (alu_Inc.calls 255 1 t134 t135 _ A3.out).mono ?_); rintro e w' ⟨rfl, ⟨nd, rfl⟩⟩; refine ⟨_, rfl, ?_⟩) | ((with_reducible refine gate_callee (f := 42) rfl ?_); refine goesL_ (some 22) rfl rfl Try.func42 (by kernel_rfl) rfl #[.int .u8 128] rfl (by (try simp only [List.map_toArray, List.map_cons, List.map_nil]); first | done | rfl | (simp only [List.length_drop, List.length_take]; rfl)) ?_; (with_reducible refine (alu_Neg.calls 128 t136 t137 _ A4.out).mono ?_); rintro e w' ⟨rfl, ⟨nd, rfl⟩⟩; refine ⟨_, rfl, ?_⟩) | ((with_reducible refine gate_callee (f := 36) rfl ?_); refine goesL_ (some 25) rfl rfl Try.func36 (by kernel_rfl) rfl #[] rfl (by (try simp only [List.map_toArray, List.map_cons, List.map_nil]); first | done | rfl | (simp only [List.length_drop, List.length_take]; rfl)) ?_; (with_reducible refine (pendulumlaw05_lives.calls  true _ A5.out).mono ?_); rintro e w' ⟨rfl, ⟨nd, rfl⟩⟩; refine ⟨_, rfl, ?_⟩))
                go_ret
                exact ⟨by first | rfl | (simp; done) | (simp [*]; done), by repeat (first | exact Drawn0.refl _ | apply Drawn0.step)⟩
            · rw [if_neg c11] at H
              have c11b0 : (t134 == 0) = false := beq_eq_false_iff_ne.mpr c11
              have c11b1 : (t134 != 0) = true := bne_iff_ne.mpr c11
              obtain rfl := Option.some.inj H
              go_enter Try.func9, Try.ntmps9
              go_wp2_with (first | ((with_reducible refine gate_callee (f := 37) rfl ?_); refine goesL_ (some 10) rfl rfl Try.func37 (by kernel_rfl) rfl #[.int .u8 255, .int .u8 1, .bool false] rfl (by (try simp only [List.map_toArray, List.map_cons, List.map_nil]); first | done | rfl | (simp only [List.length_drop, List.length_take]; rfl)) ?_; (with_reducible refine (alu_Add.calls 255 1 false t130 t131 _ A1.out).mono ?_); rintro e w' ⟨rfl, ⟨nd, rfl⟩⟩; refine ⟨_, rfl, ?_⟩) | ((with_reducible refine gate_callee (f := 40) rfl ?_); refine goesL_ (some 14) rfl rfl Try.func40 (by kernel_rfl) rfl #[.int .u8 240, .int .u8 60] rfl (by (try simp only [List.map_toArray, List.map_cons, List.map_nil]); first | done | rfl | (simp only [List.length_drop, List.length_take]; rfl)) ?_; (with_reducible refine (alu_And.calls 240 60 t132 t133 _ A2.out).mono ?_); rintro e w' ⟨rfl, ⟨nd, rfl⟩⟩; refine ⟨_, rfl, ?_⟩) | ((with_reducible refine gate_callee (f := 41) rfl ?_); refine goesL_ (some 18) rfl rfl Try.func41 (by kernel_rfl) rfl #[.int .u8 255, .int .u8 1] rfl (by (try simp only [List.map_toArray, List.map_cons, List.map_nil]); first | done | rfl | (simp only [List.length_drop, List.length_take]; rfl)) ?_; (with_reducible refine (alu_Inc.calls 255 1 t134 t135 _ A3.out).mono ?_); rintro e w' ⟨rfl, ⟨nd, rfl⟩⟩; refine ⟨_, rfl, ?_⟩) | ((with_reducible refine gate_callee (f := 42) rfl ?_); refine goesL_ (some 22) rfl rfl Try.func42 (by kernel_rfl) rfl #[.int .u8 128] rfl (by (try simp only [List.map_toArray, List.map_cons, List.map_nil]); first | done | rfl | (simp only [List.length_drop, List.length_take]; rfl)) ?_; (with_reducible refine (alu_Neg.calls 128 t136 t137 _ A4.out).mono ?_); rintro e w' ⟨rfl, ⟨nd, rfl⟩⟩; refine ⟨_, rfl, ?_⟩) | ((with_reducible refine gate_callee (f := 36) rfl ?_); refine goesL_ (some 25) rfl rfl Try.func36 (by kernel_rfl) rfl #[] rfl (by (try simp only [List.map_toArray, List.map_cons, List.map_nil]); first | done | rfl | (simp only [List.length_drop, List.length_take]; rfl)) ?_; (with_reducible refine (pendulumlaw05_lives.calls  true _ A5.out).mono ?_); rintro e w' ⟨rfl, ⟨nd, rfl⟩⟩; refine ⟨_, rfl, ?_⟩))
              go_ret
              exact ⟨by first | rfl | (simp; done) | (simp [*]; done), by repeat (first | exact Drawn0.refl _ | apply Drawn0.step)⟩
          · rw [if_neg c10] at H
            have c10b0 : (t133 == 52) = false := beq_eq_false_iff_ne.mpr c10
            have c10b1 : (t133 != 52) = true := bne_iff_ne.mpr c10
            obtain rfl := Option.some.inj H
            go_enter Try.func9, Try.ntmps9
            go_wp2_with (first | ((with_reducible refine gate_callee (f := 37) rfl ?_); refine goesL_ (some 10) rfl rfl Try.func37 (by kernel_rfl) rfl #[.int .u8 255, .int .u8 1, .bool false] rfl (by (try simp only [List.map_toArray, List.map_cons, List.map_nil]); first | done | rfl | (simp only [List.length_drop, List.length_take]; rfl)) ?_; (with_reducible refine (alu_Add.calls 255 1 false t130 t131 _ A1.out).mono ?_); rintro e w' ⟨rfl, ⟨nd, rfl⟩⟩; refine ⟨_, rfl, ?_⟩) | ((with_reducible refine gate_callee (f := 40) rfl ?_); refine goesL_ (some 14) rfl rfl Try.func40 (by kernel_rfl) rfl #[.int .u8 240, .int .u8 60] rfl (by (try simp only [List.map_toArray, List.map_cons, List.map_nil]); first | done | rfl | (simp only [List.length_drop, List.length_take]; rfl)) ?_; (with_reducible refine (alu_And.calls 240 60 t132 t133 _ A2.out).mono ?_); rintro e w' ⟨rfl, ⟨nd, rfl⟩⟩; refine ⟨_, rfl, ?_⟩) | ((with_reducible refine gate_callee (f := 41) rfl ?_); refine goesL_ (some 18) rfl rfl Try.func41 (by kernel_rfl) rfl #[.int .u8 255, .int .u8 1] rfl (by (try simp only [List.map_toArray, List.map_cons, List.map_nil]); first | done | rfl | (simp only [List.length_drop, List.length_take]; rfl)) ?_; (with_reducible refine (alu_Inc.calls 255 1 t134 t135 _ A3.out).mono ?_); rintro e w' ⟨rfl, ⟨nd, rfl⟩⟩; refine ⟨_, rfl, ?_⟩) | ((with_reducible refine gate_callee (f := 42) rfl ?_); refine goesL_ (some 22) rfl rfl Try.func42 (by kernel_rfl) rfl #[.int .u8 128] rfl (by (try simp only [List.map_toArray, List.map_cons, List.map_nil]); first | done | rfl | (simp only [List.length_drop, List.length_take]; rfl)) ?_; (with_reducible refine (alu_Neg.calls 128 t136 t137 _ A4.out).mono ?_); rintro e w' ⟨rfl, ⟨nd, rfl⟩⟩; refine ⟨_, rfl, ?_⟩) | ((with_reducible refine gate_callee (f := 36) rfl ?_); refine goesL_ (some 25) rfl rfl Try.func36 (by kernel_rfl) rfl #[] rfl (by (try simp only [List.map_toArray, List.map_cons, List.map_nil]); first | done | rfl | (simp only [List.length_drop, List.length_take]; rfl)) ?_; (with_reducible refine (pendulumlaw05_lives.calls  true _ A5.out).mono ?_); rintro e w' ⟨rfl, ⟨nd, rfl⟩⟩; refine ⟨_, rfl, ?_⟩))
            go_ret
            exact ⟨by first | rfl | (simp; done) | (simp [*]; done), by repeat (first | exact Drawn0.refl _ | apply Drawn0.step)⟩
        · rw [if_neg c9] at H
          have c9b0 : (t132 == 48) = false := beq_eq_false_iff_ne.mpr c9
          have c9b1 : (t132 != 48) = true := bne_iff_ne.mpr c9
          obtain rfl := Option.some.inj H
          go_enter Try.func9, Try.ntmps9
          go_wp2_with (first | ((with_reducible refine gate_callee (f := 37) rfl ?_); refine goesL_ (some 10) rfl rfl Try.func37 (by kernel_rfl) rfl #[.int .u8 255, .int .u8 1, .bool false] rfl (by (try simp only [List.map_toArray, List.map_cons, List.map_nil]); first | done | rfl | (simp only [List.length_drop, List.length_take]; rfl)) ?_; (with_reducible refine (alu_Add.calls 255 1 false t130 t131 _ A1.out).mono ?_); rintro e w' ⟨rfl, ⟨nd, rfl⟩⟩; refine ⟨_, rfl, ?_⟩) | ((with_reducible refine gate_callee (f := 40) rfl ?_); refine goesL_ (some 14) rfl rfl Try.func40 (by kernel_rfl) rfl #[.int .u8 240, .int .u8 60] rfl (by (try simp only [List.map_toArray, List.map_cons, List.map_nil]); first | done | rfl | (simp only [List.length_drop, List.length_take]; rfl)) ?_; (with_reducible refine (alu_And.calls 240 60 t132 t133 _ A2.out).mono ?_); rintro e w' ⟨rfl, ⟨nd, rfl⟩⟩; refine ⟨_, rfl, ?_⟩) | ((with_reducible refine gate_callee (f := 41) rfl ?_); refine goesL_ (some 18) rfl rfl Try.func41 (by kernel_rfl) rfl #[.int .u8 255, .int .u8 1] rfl (by (try simp only [List.map_toArray, List.map_cons, List.map_nil]); first | done | rfl | (simp only [List.length_drop, List.length_take]; rfl)) ?_; (with_reducible refine (alu_Inc.calls 255 1 t134 t135 _ A3.out).mono ?_); rintro e w' ⟨rfl, ⟨nd, rfl⟩⟩; refine ⟨_, rfl, ?_⟩) | ((with_reducible refine gate_callee (f := 42) rfl ?_); refine goesL_ (some 22) rfl rfl Try.func42 (by kernel_rfl) rfl #[.int .u8 128] rfl (by (try simp only [List.map_toArray, List.map_cons, List.map_nil]); first | done | rfl | (simp only [List.length_drop, List.length_take]; rfl)) ?_; (with_reducible refine (alu_Neg.calls 128 t136 t137 _ A4.out).mono ?_); rintro e w' ⟨rfl, ⟨nd, rfl⟩⟩; refine ⟨_, rfl, ?_⟩) | ((with_reducible refine gate_callee (f := 36) rfl ?_); refine goesL_ (some 25) rfl rfl Try.func36 (by kernel_rfl) rfl #[] rfl (by (try simp only [List.map_toArray, List.map_cons, List.map_nil]); first | done | rfl | (simp only [List.length_drop, List.length_take]; rfl)) ?_; (with_reducible refine (pendulumlaw05_lives.calls  true _ A5.out).mono ?_); rintro e w' ⟨rfl, ⟨nd, rfl⟩⟩; refine ⟨_, rfl, ?_⟩))
          go_ret
          exact ⟨by first | rfl | (simp; done) | (simp [*]; done), by repeat (first | exact Drawn0.refl _ | apply Drawn0.step)⟩
      · rw [if_neg c8] at H
        have c8b0 : (t131 == 81) = false := beq_eq_false_iff_ne.mpr c8
        have c8b1 : (t131 != 81) = true := bne_iff_ne.mpr c8
        obtain rfl := Option.some.inj H
        go_enter Try.func9, Try.ntmps9
        go_wp2_with (first | ((with_reducible refine gate_callee (f := 37) rfl ?_); refine goesL_ (some 10) rfl rfl Try.func37 (by kernel_rfl) rfl #[.int .u8 255, .int .u8 1, .bool false] rfl (by (try simp only [List.map_toArray, List.map_cons, List.map_nil]); first | done | rfl | (simp only [List.length_drop, List.length_take]; rfl)) ?_; (with_reducible refine (alu_Add.calls 255 1 false t130 t131 _ A1.out).mono ?_); rintro e w' ⟨rfl, ⟨nd, rfl⟩⟩; refine ⟨_, rfl, ?_⟩) | ((with_reducible refine gate_callee (f := 40) rfl ?_); refine goesL_ (some 14) rfl rfl Try.func40 (by kernel_rfl) rfl #[.int .u8 240, .int .u8 60] rfl (by (try simp only [List.map_toArray, List.map_cons, List.map_nil]); first | done | rfl | (simp only [List.length_drop, List.length_take]; rfl)) ?_; (with_reducible refine (alu_And.calls 240 60 t132 t133 _ A2.out).mono ?_); rintro e w' ⟨rfl, ⟨nd, rfl⟩⟩; refine ⟨_, rfl, ?_⟩) | ((with_reducible refine gate_callee (f := 41) rfl ?_); refine goesL_ (some 18) rfl rfl Try.func41 (by kernel_rfl) rfl #[.int .u8 255, .int .u8 1] rfl (by (try simp only [List.map_toArray, List.map_cons, List.map_nil]); first | done | rfl | (simp only [List.length_drop, List.length_take]; rfl)) ?_; (with_reducible refine (alu_Inc.calls 255 1 t134 t135 _ A3.out).mono ?_); rintro e w' ⟨rfl, ⟨nd, rfl⟩⟩; refine ⟨_, rfl, ?_⟩) | ((with_reducible refine gate_callee (f := 42) rfl ?_); refine goesL_ (some 22) rfl rfl Try.func42 (by kernel_rfl) rfl #[.int .u8 128] rfl (by (try simp only [List.map_toArray, List.map_cons, List.map_nil]); first | done | rfl | (simp only [List.length_drop, List.length_take]; rfl)) ?_; (with_reducible refine (alu_Neg.calls 128 t136 t137 _ A4.out).mono ?_); rintro e w' ⟨rfl, ⟨nd, rfl⟩⟩; refine ⟨_, rfl, ?_⟩) | ((with_reducible refine gate_callee (f := 36) rfl ?_); refine goesL_ (some 25) rfl rfl Try.func36 (by kernel_rfl) rfl #[] rfl (by (try simp only [List.map_toArray, List.map_cons, List.map_nil]); first | done | rfl | (simp only [List.length_drop, List.length_take]; rfl)) ?_; (with_reducible refine (pendulumlaw05_lives.calls  true _ A5.out).mono ?_); rintro e w' ⟨rfl, ⟨nd, rfl⟩⟩; refine ⟨_, rfl, ?_⟩))
        go_ret
        exact ⟨by first | rfl | (simp; done) | (simp [*]; done), by repeat (first | exact Drawn0.refl _ | apply Drawn0.step)⟩
    · rw [if_neg c7] at H
      have c7b0 : (t130 == 0) = false := beq_eq_false_iff_ne.mpr c7
      have c7b1 : (t130 != 0) = true := bne_iff_ne.mpr c7
      obtain rfl := Option.some.inj H
      go_enter Try.func9, Try.ntmps9
      go_wp2_with (first | ((with_reducible refine gate_callee (f := 37) rfl ?_); refine goesL_ (some 10) rfl rfl Try.func37 (by kernel_rfl) rfl #[.int .u8 255, .int .u8 1, .bool false] rfl (by (try simp only [List.map_toArray, List.map_cons, List.map_nil]); first | done | rfl | (simp only [List.length_drop, List.length_take]; rfl)) ?_; (with_reducible refine (alu_Add.calls 255 1 false t130 t131 _ A1.out).mono ?_); rintro e w' ⟨rfl, ⟨nd, rfl⟩⟩; refine ⟨_, rfl, ?_⟩) | ((with_reducible refine gate_callee (f := 40) rfl ?_); refine goesL_ (some 14) rfl rfl Try.func40 (by kernel_rfl) rfl #[.int .u8 240, .int .u8 60] rfl (by (try simp only [List.map_toArray, List.map_cons, List.map_nil]); first | done | rfl | (simp only [List.length_drop, List.length_take]; rfl)) ?_; (with_reducible refine (alu_And.calls 240 60 t132 t133 _ A2.out).mono ?_); rintro e w' ⟨rfl, ⟨nd, rfl⟩⟩; refine ⟨_, rfl, ?_⟩) | ((with_reducible refine gate_callee (f := 41) rfl ?_); refine goesL_ (some 18) rfl rfl Try.func41 (by kernel_rfl) rfl #[.int .u8 255, .int .u8 1] rfl (by (try simp only [List.map_toArray, List.map_cons, List.map_nil]); first | done | rfl | (simp only [List.length_drop, List.length_take]; rfl)) ?_; (with_reducible refine (alu_Inc.calls 255 1 t134 t135 _ A3.out).mono ?_); rintro e w' ⟨rfl, ⟨nd, rfl⟩⟩; refine ⟨_, rfl, ?_⟩) | ((with_reducible refine gate_callee (f := 42) rfl ?_); refine goesL_ (some 22) rfl rfl Try.func42 (by kernel_rfl) rfl #[.int .u8 128] rfl (by (try simp only [List.map_toArray, List.map_cons, List.map_nil]); first | done | rfl | (simp only [List.length_drop, List.length_take]; rfl)) ?_; (with_reducible refine (alu_Neg.calls 128 t136 t137 _ A4.out).mono ?_); rintro e w' ⟨rfl, ⟨nd, rfl⟩⟩; refine ⟨_, rfl, ?_⟩) | ((with_reducible refine gate_callee (f := 36) rfl ?_); refine goesL_ (some 25) rfl rfl Try.func36 (by kernel_rfl) rfl #[] rfl (by (try simp only [List.map_toArray, List.map_cons, List.map_nil]); first | done | rfl | (simp only [List.length_drop, List.length_take]; rfl)) ?_; (with_reducible refine (pendulumlaw05_lives.calls  true _ A5.out).mono ?_); rintro e w' ⟨rfl, ⟨nd, rfl⟩⟩; refine ⟨_, rfl, ?_⟩))
      go_ret
      exact ⟨by first | rfl | (simp; done) | (simp [*]; done), by repeat (first | exact Drawn0.refl _ | apply Drawn0.step)⟩
  · replace c6 := Bool.eq_false_iff.mpr c6
    subst c6
    have H1 : (some false) = some r := by rw [if_neg (show ¬ (false = true) by decide)] at H; exact H
    clear H
    have H := H1
    clear H1
    obtain rfl := Option.some.inj H
    go_enter Try.func9, Try.ntmps9
    go_wp2_with (first | ((with_reducible refine gate_callee (f := 37) rfl ?_); refine goesL_ (some 10) rfl rfl Try.func37 (by kernel_rfl) rfl #[.int .u8 255, .int .u8 1, .bool false] rfl (by (try simp only [List.map_toArray, List.map_cons, List.map_nil]); first | done | rfl | (simp only [List.length_drop, List.length_take]; rfl)) ?_; (with_reducible refine (alu_Add.calls 255 1 false t130 t131 _ A1.out).mono ?_); rintro e w' ⟨rfl, ⟨nd, rfl⟩⟩; refine ⟨_, rfl, ?_⟩) | ((with_reducible refine gate_callee (f := 40) rfl ?_); refine goesL_ (some 14) rfl rfl Try.func40 (by kernel_rfl) rfl #[.int .u8 240, .int .u8 60] rfl (by (try simp only [List.map_toArray, List.map_cons, List.map_nil]); first | done | rfl | (simp only [List.length_drop, List.length_take]; rfl)) ?_; (with_reducible refine (alu_And.calls 240 60 t132 t133 _ A2.out).mono ?_); rintro e w' ⟨rfl, ⟨nd, rfl⟩⟩; refine ⟨_, rfl, ?_⟩) | ((with_reducible refine gate_callee (f := 41) rfl ?_); refine goesL_ (some 18) rfl rfl Try.func41 (by kernel_rfl) rfl #[.int .u8 255, .int .u8 1] rfl (by (try simp only [List.map_toArray, List.map_cons, List.map_nil]); first | done | rfl | (simp only [List.length_drop, List.length_take]; rfl)) ?_; (with_reducible refine (alu_Inc.calls 255 1 t134 t135 _ A3.out).mono ?_); rintro e w' ⟨rfl, ⟨nd, rfl⟩⟩; refine ⟨_, rfl, ?_⟩) | ((with_reducible refine gate_callee (f := 42) rfl ?_); refine goesL_ (some 22) rfl rfl Try.func42 (by kernel_rfl) rfl #[.int .u8 128] rfl (by (try simp only [List.map_toArray, List.map_cons, List.map_nil]); first | done | rfl | (simp only [List.length_drop, List.length_take]; rfl)) ?_; (with_reducible refine (alu_Neg.calls 128 t136 t137 _ A4.out).mono ?_); rintro e w' ⟨rfl, ⟨nd, rfl⟩⟩; refine ⟨_, rfl, ?_⟩) | ((with_reducible refine gate_callee (f := 36) rfl ?_); refine goesL_ (some 25) rfl rfl Try.func36 (by kernel_rfl) rfl #[] rfl (by (try simp only [List.map_toArray, List.map_cons, List.map_nil]); first | done | rfl | (simp only [List.length_drop, List.length_take]; rfl)) ?_; (with_reducible refine (pendulumlaw05_lives.calls  false _ A5.out).mono ?_); rintro e w' ⟨rfl, ⟨nd, rfl⟩⟩; refine ⟨_, rfl, ?_⟩))
    go_ret
    exact ⟨by first | rfl | (simp; done) | (simp [*]; done), by repeat (first | exact Drawn0.refl _ | apply Drawn0.step)⟩

/-- THE ONE PURE STATEMENT of pendulumlaw05_AluNames: yours. -/
def pendulumlaw05_AluNames.Pure : Prop := pendulumlaw05_AluNames.f  = some true
theorem pendulumlaw05_AluNames.walk (P : pendulumlaw05_AluNames.Pure)  (w : World)  :
    Calls Try.prog 9 #[] w fun e w' => e = .returned (.bool true) ∧ Below w.heap.size w w' := by
  have h := P  
  refine (pendulumlaw05_AluNames.calls  true w h).mono ?_
  rintro e w' ⟨rfl, hd⟩
  exact ⟨rfl, hd.below⟩

end Go.Proofs.Ytpmmneipfmbmlaa.HAluNames
