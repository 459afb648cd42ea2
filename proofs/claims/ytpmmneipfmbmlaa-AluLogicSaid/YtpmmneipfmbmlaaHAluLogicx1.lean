-- Written by a program of this session out of Lean's print of the program (after the form of the kit's print.sh, with own turns); Lean checks it.
import Derived.Test.YtpmmneipfmbmlaaHAluLogicx0
namespace Go.Proofs.Ytpmmneipfmbmlaa.HAluLogic
open Go.RowKit Go.Proofs.YtpmmneipfmbmlaaW.PrintWords Go.Proofs.YtpmmneipfmbmlaaW.PrintLast Go.Proofs.YtpmmneipfmbmlaaW.PrintMore
attribute [local go_sem] max2_int min2_int max_two min_two max_three min_three max_four min_four   -- for this text's walks alone
set_option linter.unusedVariables false
set_option linter.unusedSimpArgs false

/-! ### alu_if1: function 90 -/
def alu_if1.f (a0 : Bool) (a1 : Int) : Option (Int) := if a0 = true then (some a1) else (some 0)
set_option maxHeartbeats 8000000 in
set_option maxRecDepth 100000 in
theorem alu_if1.calls (a0 : Bool) (a1 : Int) (r : Int) (w : World) (h : alu_if1.f a0 a1 = some r) :
    Calls Try.prog 90 #[.bool a0, .int .u8 a1] w fun e w' => e = .returned (.int .u8 r) ∧ Drawn0 w w' := by
  have H : (if a0 = true then (some a1) else (some 0)) = some r := h
  clear h
  by_cases c3 : a0 = true
  · subst c3
    have H1 : (some a1) = some r := by rw [if_pos rfl] at H; exact H
    clear H
    have H := H1
    clear H1
    obtain rfl := Option.some.inj H
    go_enter Try.func90, Try.ntmps90
    go_wp2
    go_ret
    exact ⟨by first | rfl | (simp; done) | (simp [*]; done), by repeat (first | exact Drawn0.refl _ | apply Drawn0.step)⟩
  · replace c3 := Bool.eq_false_iff.mpr c3
    subst c3
    have H1 : (some 0) = some r := by rw [if_neg (show ¬ (false = true) by decide)] at H; exact H
    clear H
    have H := H1
    clear H1
    obtain rfl := Option.some.inj H
    go_enter Try.func90, Try.ntmps90
    go_wp2
    go_ret
    exact ⟨by first | rfl | (simp; done) | (simp [*]; done), by repeat (first | exact Drawn0.refl _ | apply Drawn0.step)⟩

/-! ### alu_Own: function 91 -/
def alu_Own.f (a0 : Int) : Option (Int) := if a0 = 0 then (some (Go.bits .or .u8 (Go.bits .and .u8 a0 168) 64)) else (some (Go.bits .and .u8 a0 168))
set_option maxHeartbeats 8000000 in
set_option maxRecDepth 100000 in
theorem alu_Own.calls (a0 : Int) (r : Int) (w : World) (h : alu_Own.f a0 = some r) :
    Calls Try.prog 91 #[.int .u8 a0] w fun e w' => e = .returned (.int .u8 r) ∧ Drawn0 w w' := by
  have H : (if a0 = 0 then (some (Go.bits .or .u8 (Go.bits .and .u8 a0 168) 64)) else (some (Go.bits .and .u8 a0 168))) = some r := h
  clear h
  by_cases c2 : a0 = 0
  · rw [if_pos c2] at H
    have c2b0 : (a0 == 0) = true := beq_iff_eq.mpr c2
    have c2b1 : (a0 != 0) = false := bne_eq_false_iff_eq.mpr c2
    clear c2
    obtain rfl := Option.some.inj H
    go_enter Try.func91, Try.ntmps91
    go_wp2
    go_ret
    exact ⟨by first | rfl | (simp; done) | (simp [*]; done), by repeat (first | exact Drawn0.refl _ | apply Drawn0.step)⟩
  · rw [if_neg c2] at H
    have c2b0 : (a0 == 0) = false := beq_eq_false_iff_ne.mpr c2
    have c2b1 : (a0 != 0) = true := bne_iff_ne.mpr c2
    obtain rfl := Option.some.inj H
    go_enter Try.func91, Try.ntmps91
    go_wp2
    go_ret
    exact ⟨by first | rfl | (simp; done) | (simp [*]; done), by repeat (first | exact Drawn0.refl _ | apply Drawn0.step)⟩

/-! ### alu_Add: function 37 -/
def alu_Add.f (a0 : Int) (a1 : Int) (a2 : Bool) : Option (Int × Int) := (alu_if1.f a2 1).bind fun t101 => ((alu_Own.f ((wrap64 ((wrap64 ((wrap64 (a0)) + (wrap64 (a1)))) + (wrap64 (t101)))) % 256)).bind fun t102 => ((alu_if1.f (decide ((wrap64 ((wrap64 ((wrap64 (a0)) + (wrap64 (a1)))) + (wrap64 (t101)))) > 255)) 1).bind fun t103 => ((alu_if1.f (decide ((wrap64 ((wrap64 ((wrap64 (Go.bits .and .u8 a0 15)) + (wrap64 (Go.bits .and .u8 a1 15)))) + (wrap64 (t101)))) > 15)) 16).bind fun t104 => (if (wrap64 ((wrap64 ((wrap64 (IntKind.i8.wrap (a0))) + (wrap64 (IntKind.i8.wrap (a1))))) + (wrap64 (t101)))) < (-128) then ((alu_if1.f true 4).bind fun t105 => (some ((wrap64 ((wrap64 ((wrap64 (a0)) + (wrap64 (a1)))) + (wrap64 (t101)))) % 256, Go.bits .or .u8 (Go.bits .or .u8 (Go.bits .or .u8 t102 t103) t104) t105))) else ((alu_if1.f (decide ((wrap64 ((wrap64 ((wrap64 (IntKind.i8.wrap (a0))) + (wrap64 (IntKind.i8.wrap (a1))))) + (wrap64 (t101)))) > 127)) 4).bind fun t106 => (some ((wrap64 ((wrap64 ((wrap64 (a0)) + (wrap64 (a1)))) + (wrap64 (t101)))) % 256, Go.bits .or .u8 (Go.bits .or .u8 (Go.bits .or .u8 t102 t103) t104) t106)))))))
set_option maxHeartbeats 8000000 in
set_option maxRecDepth 100000 in
theorem alu_Add.calls (a0 : Int) (a1 : Int) (a2 : Bool) (r1 : Int) (r2 : Int) (w : World) (h : alu_Add.f a0 a1 a2 = some (r1, r2)) :
    Calls Try.prog 37 #[.int .u8 a0, .int .u8 a1, .bool a2] w fun e w' => e = .returned (.tuple #[.int .u8 r1, .int .u8 r2]) ∧ Drawn0 w w' := by
  have H : ((alu_if1.f a2 1).bind fun t101 => ((alu_Own.f ((wrap64 ((wrap64 ((wrap64 (a0)) + (wrap64 (a1)))) + (wrap64 (t101)))) % 256)).bind fun t102 => ((alu_if1.f (decide ((wrap64 ((wrap64 ((wrap64 (a0)) + (wrap64 (a1)))) + (wrap64 (t101)))) > 255)) 1).bind fun t103 => ((alu_if1.f (decide ((wrap64 ((wrap64 ((wrap64 (Go.bits .and .u8 a0 15)) + (wrap64 (Go.bits .and .u8 a1 15)))) + (wrap64 (t101)))) > 15)) 16).bind fun t104 => (if (wrap64 ((wrap64 ((wrap64 (IntKind.i8.wrap (a0))) + (wrap64 (IntKind.i8.wrap (a1))))) + (wrap64 (t101)))) < (-128) then ((alu_if1.f true 4).bind fun t105 => (some ((wrap64 ((wrap64 ((wrap64 (a0)) + (wrap64 (a1)))) + (wrap64 (t101)))) % 256, Go.bits .or .u8 (Go.bits .or .u8 (Go.bits .or .u8 t102 t103) t104) t105))) else ((alu_if1.f (decide ((wrap64 ((wrap64 ((wrap64 (IntKind.i8.wrap (a0))) + (wrap64 (IntKind.i8.wrap (a1))))) + (wrap64 (t101)))) > 127)) 4).bind fun t106 => (some ((wrap64 ((wrap64 ((wrap64 (a0)) + (wrap64 (a1)))) + (wrap64 (t101)))) % 256, Go.bits .or .u8 (Go.bits .or .u8 (Go.bits .or .u8 t102 t103) t104) t106)))))))) = some (r1, r2) := h
  clear h
  replace H := Option.bind_eq_some_iff.mp H
  obtain ⟨t101, A40, H⟩ := H
  replace H : ((alu_Own.f ((wrap64 ((wrap64 ((wrap64 (a0)) + (wrap64 (a1)))) + (wrap64 (t101)))) % 256)).bind fun t102 => ((alu_if1.f (decide ((wrap64 ((wrap64 ((wrap64 (a0)) + (wrap64 (a1)))) + (wrap64 (t101)))) > 255)) 1).bind fun t103 => ((alu_if1.f (decide ((wrap64 ((wrap64 ((wrap64 (Go.bits .and .u8 a0 15)) + (wrap64 (Go.bits .and .u8 a1 15)))) + (wrap64 (t101)))) > 15)) 16).bind fun t104 => (if (wrap64 ((wrap64 ((wrap64 (IntKind.i8.wrap (a0))) + (wrap64 (IntKind.i8.wrap (a1))))) + (wrap64 (t101)))) < (-128) then ((alu_if1.f true 4).bind fun t105 => (some ((wrap64 ((wrap64 ((wrap64 (a0)) + (wrap64 (a1)))) + (wrap64 (t101)))) % 256, Go.bits .or .u8 (Go.bits .or .u8 (Go.bits .or .u8 t102 t103) t104) t105))) else ((alu_if1.f (decide ((wrap64 ((wrap64 ((wrap64 (IntKind.i8.wrap (a0))) + (wrap64 (IntKind.i8.wrap (a1))))) + (wrap64 (t101)))) > 127)) 4).bind fun t106 => (some ((wrap64 ((wrap64 ((wrap64 (a0)) + (wrap64 (a1)))) + (wrap64 (t101)))) % 256, Go.bits .or .u8 (Go.bits .or .u8 (Go.bits .or .u8 t102 t103) t104) t106))))))) = some (r1, r2) := H
  have A4 := Aside0.mk A40
  clear A40
  replace H := Option.bind_eq_some_iff.mp H
  obtain ⟨t102, A50, H⟩ := H
  replace H : ((alu_if1.f (decide ((wrap64 ((wrap64 ((wrap64 (a0)) + (wrap64 (a1)))) + (wrap64 (t101)))) > 255)) 1).bind fun t103 => ((alu_if1.f (decide ((wrap64 ((wrap64 ((wrap64 (Go.bits .and .u8 a0 15)) + (wrap64 (Go.bits .and .u8 a1 15)))) + (wrap64 (t101)))) > 15)) 16).bind fun t104 => (if (wrap64 ((wrap64 ((wrap64 (IntKind.i8.wrap (a0))) + (wrap64 (IntKind.i8.wrap (a1))))) + (wrap64 (t101)))) < (-128) then ((alu_if1.f true 4).bind fun t105 => (some ((wrap64 ((wrap64 ((wrap64 (a0)) + (wrap64 (a1)))) + (wrap64 (t101)))) % 256, Go.bits .or .u8 (Go.bits .or .u8 (Go.bits .or .u8 t102 t103) t104) t105))) else ((alu_if1.f (decide ((wrap64 ((wrap64 ((wrap64 (IntKind.i8.wrap (a0))) + (wrap64 (IntKind.i8.wrap (a1))))) + (wrap64 (t101)))) > 127)) 4).bind fun t106 => (some ((wrap64 ((wrap64 ((wrap64 (a0)) + (wrap64 (a1)))) + (wrap64 (t101)))) % 256, Go.bits .or .u8 (Go.bits .or .u8 (Go.bits .or .u8 t102 t103) t104) t106)))))) = some (r1, r2) := H
  have A5 := Aside0.mk A50
  clear A50
  replace H := Option.bind_eq_some_iff.mp H
  obtain ⟨t103, A60, H⟩ := H
  replace H : ((alu_if1.f (decide ((wrap64 ((wrap64 ((wrap64 (Go.bits .and .u8 a0 15)) + (wrap64 (Go.bits .and .u8 a1 15)))) + (wrap64 (t101)))) > 15)) 16).bind fun t104 => (if (wrap64 ((wrap64 ((wrap64 (IntKind.i8.wrap (a0))) + (wrap64 (IntKind.i8.wrap (a1))))) + (wrap64 (t101)))) < (-128) then ((alu_if1.f true 4).bind fun t105 => (some ((wrap64 ((wrap64 ((wrap64 (a0)) + (wrap64 (a1)))) + (wrap64 (t101)))) % 256, Go.bits .or .u8 (Go.bits .or .u8 (Go.bits .or .u8 t102 t103) t104) t105))) else ((alu_if1.f (decide ((wrap64 ((wrap64 ((wrap64 (IntKind.i8.wrap (a0))) + (wrap64 (IntKind.i8.wrap (a1))))) + (wrap64 (t101)))) > 127)) 4).bind fun t106 => (some ((wrap64 ((wrap64 ((wrap64 (a0)) + (wrap64 (a1)))) + (wrap64 (t101)))) % 256, Go.bits .or .u8 (Go.bits .or .u8 (Go.bits .or .u8 t102 t103) t104) t106))))) = some (r1, r2) := H
  have A6 := Aside0.mk A60
  clear A60
  replace H := Option.bind_eq_some_iff.mp H
  obtain ⟨t104, A70, H⟩ := H
  replace H : (if (wrap64 ((wrap64 ((wrap64 (IntKind.i8.wrap (a0))) + (wrap64 (IntKind.i8.wrap (a1))))) + (wrap64 (t101)))) < (-128) then ((alu_if1.f true 4).bind fun t105 => (some ((wrap64 ((wrap64 ((wrap64 (a0)) + (wrap64 (a1)))) + (wrap64 (t101)))) % 256, Go.bits .or .u8 (Go.bits .or .u8 (Go.bits .or .u8 t102 t103) t104) t105))) else ((alu_if1.f (decide ((wrap64 ((wrap64 ((wrap64 (IntKind.i8.wrap (a0))) + (wrap64 (IntKind.i8.wrap (a1))))) + (wrap64 (t101)))) > 127)) 4).bind fun t106 => (some ((wrap64 ((wrap64 ((wrap64 (a0)) + (wrap64 (a1)))) + (wrap64 (t101)))) % 256, Go.bits .or .u8 (Go.bits .or .u8 (Go.bits .or .u8 t102 t103) t104) t106)))) = some (r1, r2) := H
  have A7 := Aside0.mk A70
  clear A70
  by_cases c8 : (wrap64 ((wrap64 ((wrap64 (IntKind.i8.wrap (a0))) + (wrap64 (IntKind.i8.wrap (a1))))) + (wrap64 (t101)))) < (-128)
  · rw [if_pos c8] at H
    have c8b0 : decide ((wrap64 ((wrap64 ((wrap64 (IntKind.i8.wrap (a0))) + (wrap64 (IntKind.i8.wrap (a1))))) + (wrap64 (t101)))) < (-128)) = true := decide_eq_true c8
    clear c8
    replace H := Option.bind_eq_some_iff.mp H
    obtain ⟨t105, A90, H⟩ := H
    replace H : (some ((wrap64 ((wrap64 ((wrap64 (a0)) + (wrap64 (a1)))) + (wrap64 (t101)))) % 256, Go.bits .or .u8 (Go.bits .or .u8 (Go.bits .or .u8 t102 t103) t104) t105)) = some (r1, r2) := H
    have A9 := Aside0.mk A90
    clear A90
    simp only [Option.some.injEq, Prod.mk.injEq] at H
    obtain ⟨rfl, rfl⟩ := H
    go_enter Try.func37, Try.ntmps37
    go_wp2_with (first | ((with_reducible refine gate_callee (f := 90) rfl ?_); refine goesL_ (some 12) rfl rfl Try.func90 (by kernel_rfl) rfl #[.bool a2, .int .u8 1] rfl (by (try simp only [List.map_toArray, List.map_cons, List.map_nil]); first | done | rfl | (simp only [List.length_drop, List.length_take]; rfl)) ?_; (with_reducible refine (alu_if1.calls a2 1 t101 _ A4.out).mono ?_); rintro e w' ⟨rfl, ⟨nd, rfl⟩⟩; refine ⟨_, rfl, ?_⟩) | ((with_reducible refine gate_callee (f := 91) rfl ?_); refine goesL_ (some 33) rfl rfl Try.func91 (by kernel_rfl) rfl #[.int .u8 ((wrap64 ((wrap64 ((wrap64 (a0)) + (wrap64 (a1)))) + (wrap64 (t101)))) % 256)] rfl (by (try simp only [List.map_toArray, List.map_cons, List.map_nil]); first | done | rfl | (simp only [List.length_drop, List.length_take]; rfl)) ?_; (with_reducible refine (alu_Own.calls ((wrap64 ((wrap64 ((wrap64 (a0)) + (wrap64 (a1)))) + (wrap64 (t101)))) % 256) t102 _ A5.out).mono ?_); rintro e w' ⟨rfl, ⟨nd, rfl⟩⟩; refine ⟨_, rfl, ?_⟩) | ((with_reducible refine gate_callee (f := 90) rfl ?_); refine goesL_ (some 36) rfl rfl Try.func90 (by kernel_rfl) rfl #[.bool (decide ((wrap64 ((wrap64 ((wrap64 (a0)) + (wrap64 (a1)))) + (wrap64 (t101)))) > 255)), .int .u8 1] rfl (by (try simp only [List.map_toArray, List.map_cons, List.map_nil]); first | done | rfl | (simp only [List.length_drop, List.length_take]; rfl)) ?_; (with_reducible refine (alu_if1.calls (decide ((wrap64 ((wrap64 ((wrap64 (a0)) + (wrap64 (a1)))) + (wrap64 (t101)))) > 255)) 1 t103 _ A6.out).mono ?_); rintro e w' ⟨rfl, ⟨nd, rfl⟩⟩; refine ⟨_, rfl, ?_⟩) | ((with_reducible refine gate_callee (f := 90) rfl ?_); refine goesL_ (some 48) rfl rfl Try.func90 (by kernel_rfl) rfl #[.bool (decide ((wrap64 ((wrap64 ((wrap64 (Go.bits .and .u8 a0 15)) + (wrap64 (Go.bits .and .u8 a1 15)))) + (wrap64 (t101)))) > 15)), .int .u8 16] rfl (by (try simp only [List.map_toArray, List.map_cons, List.map_nil]); first | done | rfl | (simp only [List.length_drop, List.length_take]; rfl)) ?_; (with_reducible refine (alu_if1.calls (decide ((wrap64 ((wrap64 ((wrap64 (Go.bits .and .u8 a0 15)) + (wrap64 (Go.bits .and .u8 a1 15)))) + (wrap64 (t101)))) > 15)) 16 t104 _ A7.out).mono ?_); rintro e w' ⟨rfl, ⟨nd, rfl⟩⟩; refine ⟨_, rfl, ?_⟩) | ((with_reducible refine gate_callee (f := 90) rfl ?_); refine goesL_ (some 56) rfl rfl Try.func90 (by kernel_rfl) rfl #[.bool true, .int .u8 4] rfl (by (try simp only [List.map_toArray, List.map_cons, List.map_nil]); first | done | rfl | (simp only [List.length_drop, List.length_take]; rfl)) ?_; (with_reducible refine (alu_if1.calls true 4 t105 _ A9.out).mono ?_); rintro e w' ⟨rfl, ⟨nd, rfl⟩⟩; refine ⟨_, rfl, ?_⟩))
    go_ret2
    exact ⟨by first | rfl | (simp; done) | (simp [*]; done), by repeat (first | exact Drawn0.refl _ | apply Drawn0.step)⟩
  · rw [if_neg c8] at H
    have c8b0 : decide ((wrap64 ((wrap64 ((wrap64 (IntKind.i8.wrap (a0))) + (wrap64 (IntKind.i8.wrap (a1))))) + (wrap64 (t101)))) < (-128)) = false := decide_eq_false c8
    clear c8
    replace H := Option.bind_eq_some_iff.mp H
    obtain ⟨t106, A100, H⟩ := H
    replace H : (some ((wrap64 ((wrap64 ((wrap64 (a0)) + (wrap64 (a1)))) + (wrap64 (t101)))) % 256, Go.bits .or .u8 (Go.bits .or .u8 (Go.bits .or .u8 t102 t103) t104) t106)) = some (r1, r2) := H
    have A10 := Aside0.mk A100
    clear A100
    simp only [Option.some.injEq, Prod.mk.injEq] at H
    obtain ⟨rfl, rfl⟩ := H
    go_enter Try.func37, Try.ntmps37
    go_wp2_with (first | ((with_reducible refine gate_callee (f := 90) rfl ?_); refine goesL_ (some 12) rfl rfl Try.func90 (by kernel_rfl) rfl #[.bool a2, .int .u8 1] rfl (by (try simp only [List.map_toArray, List.map_cons, List.map_nil]); first | done | rfl | (simp only [List.length_drop, List.length_take]; rfl)) ?_; (with_reducible refine (alu_if1.calls a2 1 t101 _ A4.out).mono ?_); rintro e w' ⟨rfl, ⟨nd, rfl⟩⟩; refine ⟨_, rfl, ?_⟩) | ((with_reducible refine gate_callee (f := 91) rfl ?_); refine goesL_ (some 33) rfl rfl Try.func91 (by kernel_rfl) rfl #[.int .u8 ((wrap64 ((wrap64 ((wrap64 (a0)) + (wrap64 (a1)))) + (wrap64 (t101)))) % 256)] rfl (by (try simp only [List.map_toArray, List.map_cons, List.map_nil]); first | done | rfl | (simp only [List.length_drop, List.length_take]; rfl)) ?_; (with_reducible refine (alu_Own.calls ((wrap64 ((wrap64 ((wrap64 (a0)) + (wrap64 (a1)))) + (wrap64 (t101)))) % 256) t102 _ A5.out).mono ?_); rintro e w' ⟨rfl, ⟨nd, rfl⟩⟩; refine ⟨_, rfl, ?_⟩) | ((with_reducible refine gate_callee (f := 90) rfl ?_); refine goesL_ (some 36) rfl rfl Try.func90 (by kernel_rfl) rfl #[.bool (decide ((wrap64 ((wrap64 ((wrap64 (a0)) + (wrap64 (a1)))) + (wrap64 (t101)))) > 255)), .int .u8 1] rfl (by (try simp only [List.map_toArray, List.map_cons, List.map_nil]); first | done | rfl | (simp only [List.length_drop, List.length_take]; rfl)) ?_; (with_reducible refine (alu_if1.calls (decide ((wrap64 ((wrap64 ((wrap64 (a0)) + (wrap64 (a1)))) + (wrap64 (t101)))) > 255)) 1 t103 _ A6.out).mono ?_); rintro e w' ⟨rfl, ⟨nd, rfl⟩⟩; refine ⟨_, rfl, ?_⟩) | ((with_reducible refine gate_callee (f := 90) rfl ?_); refine goesL_ (some 48) rfl rfl Try.func90 (by kernel_rfl) rfl #[.bool (decide ((wrap64 ((wrap64 ((wrap64 (Go.bits .and .u8 a0 15)) + (wrap64 (Go.bits .and .u8 a1 15)))) + (wrap64 (t101)))) > 15)), .int .u8 16] rfl (by (try simp only [List.map_toArray, List.map_cons, List.map_nil]); first | done | rfl | (simp only [List.length_drop, List.length_take]; rfl)) ?_; (with_reducible refine (alu_if1.calls (decide ((wrap64 ((wrap64 ((wrap64 (Go.bits .and .u8 a0 15)) + (wrap64 (Go.bits .and .u8 a1 15)))) + (wrap64 (t101)))) > 15)) 16 t104 _ A7.out).mono ?_); rintro e w' ⟨rfl, ⟨nd, rfl⟩⟩; refine ⟨_, rfl, ?_⟩) | ((with_reducible refine gate_callee (f := 90) rfl ?_); refine goesL_ (some 56) rfl rfl Try.func90 (by kernel_rfl) rfl #[.bool (decide ((wrap64 ((wrap64 ((wrap64 (IntKind.i8.wrap (a0))) + (wrap64 (IntKind.i8.wrap (a1))))) + (wrap64 (t101)))) > 127)), .int .u8 4] rfl (by (try simp only [List.map_toArray, List.map_cons, List.map_nil]); first | done | rfl | (simp only [List.length_drop, List.length_take]; rfl)) ?_; (with_reducible refine (alu_if1.calls (decide ((wrap64 ((wrap64 ((wrap64 (IntKind.i8.wrap (a0))) + (wrap64 (IntKind.i8.wrap (a1))))) + (wrap64 (t101)))) > 127)) 4 t106 _ A10.out).mono ?_); rintro e w' ⟨rfl, ⟨nd, rfl⟩⟩; refine ⟨_, rfl, ?_⟩))
    go_ret2
    exact ⟨by first | rfl | (simp; done) | (simp [*]; done), by repeat (first | exact Drawn0.refl _ | apply Drawn0.step)⟩

/-! ### alu_Sub: function 38 -/
def alu_Sub.f (a0 : Int) (a1 : Int) (a2 : Bool) : Option (Int × Int) := (alu_if1.f a2 1).bind fun t107 => ((alu_Own.f ((wrap64 ((wrap64 ((wrap64 (a0)) - (wrap64 (a1)))) - (wrap64 (t107)))) % 256)).bind fun t108 => ((alu_if1.f (decide ((wrap64 ((wrap64 ((wrap64 (a0)) - (wrap64 (a1)))) - (wrap64 (t107)))) < 0)) 1).bind fun t109 => ((alu_if1.f (decide ((wrap64 ((wrap64 ((wrap64 (Go.bits .and .u8 a0 15)) - (wrap64 (Go.bits .and .u8 a1 15)))) - (wrap64 (t107)))) < 0)) 16).bind fun t110 => (if (wrap64 ((wrap64 ((wrap64 (IntKind.i8.wrap (a0))) - (wrap64 (IntKind.i8.wrap (a1))))) - (wrap64 (t107)))) < (-128) then ((alu_if1.f true 4).bind fun t111 => (some ((wrap64 ((wrap64 ((wrap64 (a0)) - (wrap64 (a1)))) - (wrap64 (t107)))) % 256, Go.bits .or .u8 (Go.bits .or .u8 (Go.bits .or .u8 (Go.bits .or .u8 t108 2) t109) t110) t111))) else ((alu_if1.f (decide ((wrap64 ((wrap64 ((wrap64 (IntKind.i8.wrap (a0))) - (wrap64 (IntKind.i8.wrap (a1))))) - (wrap64 (t107)))) > 127)) 4).bind fun t112 => (some ((wrap64 ((wrap64 ((wrap64 (a0)) - (wrap64 (a1)))) - (wrap64 (t107)))) % 256, Go.bits .or .u8 (Go.bits .or .u8 (Go.bits .or .u8 (Go.bits .or .u8 t108 2) t109) t110) t112)))))))
set_option maxHeartbeats 8000000 in
set_option maxRecDepth 100000 in
theorem alu_Sub.calls (a0 : Int) (a1 : Int) (a2 : Bool) (r1 : Int) (r2 : Int) (w : World) (h : alu_Sub.f a0 a1 a2 = some (r1, r2)) :
    Calls Try.prog 38 #[.int .u8 a0, .int .u8 a1, .bool a2] w fun e w' => e = .returned (.tuple #[.int .u8 r1, .int .u8 r2]) ∧ Drawn0 w w' := by
  have H : ((alu_if1.f a2 1).bind fun t107 => ((alu_Own.f ((wrap64 ((wrap64 ((wrap64 (a0)) - (wrap64 (a1)))) - (wrap64 (t107)))) % 256)).bind fun t108 => ((alu_if1.f (decide ((wrap64 ((wrap64 ((wrap64 (a0)) - (wrap64 (a1)))) - (wrap64 (t107)))) < 0)) 1).bind fun t109 => ((alu_if1.f (decide ((wrap64 ((wrap64 ((wrap64 (Go.bits .and .u8 a0 15)) - (wrap64 (Go.bits .and .u8 a1 15)))) - (wrap64 (t107)))) < 0)) 16).bind fun t110 => (if (wrap64 ((wrap64 ((wrap64 (IntKind.i8.wrap (a0))) - (wrap64 (IntKind.i8.wrap (a1))))) - (wrap64 (t107)))) < (-128) then ((alu_if1.f true 4).bind fun t111 => (some ((wrap64 ((wrap64 ((wrap64 (a0)) - (wrap64 (a1)))) - (wrap64 (t107)))) % 256, Go.bits .or .u8 (Go.bits .or .u8 (Go.bits .or .u8 (Go.bits .or .u8 t108 2) t109) t110) t111))) else ((alu_if1.f (decide ((wrap64 ((wrap64 ((wrap64 (IntKind.i8.wrap (a0))) - (wrap64 (IntKind.i8.wrap (a1))))) - (wrap64 (t107)))) > 127)) 4).bind fun t112 => (some ((wrap64 ((wrap64 ((wrap64 (a0)) - (wrap64 (a1)))) - (wrap64 (t107)))) % 256, Go.bits .or .u8 (Go.bits .or .u8 (Go.bits .or .u8 (Go.bits .or .u8 t108 2) t109) t110) t112)))))))) = some (r1, r2) := h
  clear h
  replace H := Option.bind_eq_some_iff.mp H
  obtain ⟨t107, A40, H⟩ := H
  replace H : ((alu_Own.f ((wrap64 ((wrap64 ((wrap64 (a0)) - (wrap64 (a1)))) - (wrap64 (t107)))) % 256)).bind fun t108 => ((alu_if1.f (decide ((wrap64 ((wrap64 ((wrap64 (a0)) - (wrap64 (a1)))) - (wrap64 (t107)))) < 0)) 1).bind fun t109 => ((alu_if1.f (decide ((wrap64 ((wrap64 ((wrap64 (Go.bits .and .u8 a0 15)) - (wrap64 (Go.bits .and .u8 a1 15)))) - (wrap64 (t107)))) < 0)) 16).bind fun t110 => (if (wrap64 ((wrap64 ((wrap64 (IntKind.i8.wrap (a0))) - (wrap64 (IntKind.i8.wrap (a1))))) - (wrap64 (t107)))) < (-128) then ((alu_if1.f true 4).bind fun t111 => (some ((wrap64 ((wrap64 ((wrap64 (a0)) - (wrap64 (a1)))) - (wrap64 (t107)))) % 256, Go.bits .or .u8 (Go.bits .or .u8 (Go.bits .or .u8 (Go.bits .or .u8 t108 2) t109) t110) t111))) else ((alu_if1.f (decide ((wrap64 ((wrap64 ((wrap64 (IntKind.i8.wrap (a0))) - (wrap64 (IntKind.i8.wrap (a1))))) - (wrap64 (t107)))) > 127)) 4).bind fun t112 => (some ((wrap64 ((wrap64 ((wrap64 (a0)) - (wrap64 (a1)))) - (wrap64 (t107)))) % 256, Go.bits .or .u8 (Go.bits .or .u8 (Go.bits .or .u8 (Go.bits .or .u8 t108 2) t109) t110) t112))))))) = some (r1, r2) := H
  have A4 := Aside0.mk A40
  clear A40
  replace H := Option.bind_eq_some_iff.mp H
  obtain ⟨t108, A50, H⟩ := H
  replace H : ((alu_if1.f (decide ((wrap64 ((wrap64 ((wrap64 (a0)) - (wrap64 (a1)))) - (wrap64 (t107)))) < 0)) 1).bind fun t109 => ((alu_if1.f (decide ((wrap64 ((wrap64 ((wrap64 (Go.bits .and .u8 a0 15)) - (wrap64 (Go.bits .and .u8 a1 15)))) - (wrap64 (t107)))) < 0)) 16).bind fun t110 => (if (wrap64 ((wrap64 ((wrap64 (IntKind.i8.wrap (a0))) - (wrap64 (IntKind.i8.wrap (a1))))) - (wrap64 (t107)))) < (-128) then ((alu_if1.f true 4).bind fun t111 => (some ((wrap64 ((wrap64 ((wrap64 (a0)) - (wrap64 (a1)))) - (wrap64 (t107)))) % 256, Go.bits .or .u8 (Go.bits .or .u8 (Go.bits .or .u8 (Go.bits .or .u8 t108 2) t109) t110) t111))) else ((alu_if1.f (decide ((wrap64 ((wrap64 ((wrap64 (IntKind.i8.wrap (a0))) - (wrap64 (IntKind.i8.wrap (a1))))) - (wrap64 (t107)))) > 127)) 4).bind fun t112 => (some ((wrap64 ((wrap64 ((wrap64 (a0)) - (wrap64 (a1)))) - (wrap64 (t107)))) % 256, Go.bits .or .u8 (Go.bits .or .u8 (Go.bits .or .u8 (Go.bits .or .u8 t108 2) t109) t110) t112)))))) = some (r1, r2) := H
  have A5 := Aside0.mk A50
  clear A50
  replace H := Option.bind_eq_some_iff.mp H
  obtain ⟨t109, A60, H⟩ := H
  replace H : ((alu_if1.f (decide ((wrap64 ((wrap64 ((wrap64 (Go.bits .and .u8 a0 15)) - (wrap64 (Go.bits .and .u8 a1 15)))) - (wrap64 (t107)))) < 0)) 16).bind fun t110 => (if (wrap64 ((wrap64 ((wrap64 (IntKind.i8.wrap (a0))) - (wrap64 (IntKind.i8.wrap (a1))))) - (wrap64 (t107)))) < (-128) then ((alu_if1.f true 4).bind fun t111 => (some ((wrap64 ((wrap64 ((wrap64 (a0)) - (wrap64 (a1)))) - (wrap64 (t107)))) % 256, Go.bits .or .u8 (Go.bits .or .u8 (Go.bits .or .u8 (Go.bits .or .u8 t108 2) t109) t110) t111))) else ((alu_if1.f (decide ((wrap64 ((wrap64 ((wrap64 (IntKind.i8.wrap (a0))) - (wrap64 (IntKind.i8.wrap (a1))))) - (wrap64 (t107)))) > 127)) 4).bind fun t112 => (some ((wrap64 ((wrap64 ((wrap64 (a0)) - (wrap64 (a1)))) - (wrap64 (t107)))) % 256, Go.bits .or .u8 (Go.bits .or .u8 (Go.bits .or .u8 (Go.bits .or .u8 t108 2) t109) t110) t112))))) = some (r1, r2) := H
  have A6 := Aside0.mk A60
  clear A60
  replace H := Option.bind_eq_some_iff.mp H
  obtain ⟨t110, A70, H⟩ := H
  replace H : (if (wrap64 ((wrap64 ((wrap64 (IntKind.i8.wrap (a0))) - (wrap64 (IntKind.i8.wrap (a1))))) - (wrap64 (t107)))) < (-128) then ((alu_if1.f true 4).bind fun t111 => (some ((wrap64 ((wrap64 ((wrap64 (a0)) - (wrap64 (a1)))) - (wrap64 (t107)))) % 256, Go.bits .or .u8 (Go.bits .or .u8 (Go.bits .or .u8 (Go.bits .or .u8 t108 2) t109) t110) t111))) else ((alu_if1.f (decide ((wrap64 ((wrap64 ((wrap64 (IntKind.i8.wrap (a0))) - (wrap64 (IntKind.i8.wrap (a1))))) - (wrap64 (t107)))) > 127)) 4).bind fun t112 => (some ((wrap64 ((wrap64 ((wrap64 (a0)) - (wrap64 (a1)))) - (wrap64 (t107)))) % 256, Go.bits .or .u8 (Go.bits .or .u8 (Go.bits .or .u8 (Go.bits .or .u8 t108 2) t109) t110) t112)))) = some (r1, r2) := H
  have A7 := Aside0.mk A70
  clear A70
  by_cases c8 : (wrap64 ((wrap64 ((wrap64 (IntKind.i8.wrap (a0))) - (wrap64 (IntKind.i8.wrap (a1))))) - (wrap64 (t107)))) < (-128)
  · rw [if_pos c8] at H
    have c8b0 : decide ((wrap64 ((wrap64 ((wrap64 (IntKind.i8.wrap (a0))) - (wrap64 (IntKind.i8.wrap (a1))))) - (wrap64 (t107)))) < (-128)) = true := decide_eq_true c8
    clear c8
    replace H := Option.bind_eq_some_iff.mp H
    obtain ⟨t111, A90, H⟩ := H
    replace H : (some ((wrap64 ((wrap64 ((wrap64 (a0)) - (wrap64 (a1)))) - (wrap64 (t107)))) % 256, Go.bits .or .u8 (Go.bits .or .u8 (Go.bits .or .u8 (Go.bits .or .u8 t108 2) t109) t110) t111)) = some (r1, r2) := H
    have A9 := Aside0.mk A90
    clear A90
    simp only [Option.some.injEq, Prod.mk.injEq] at H
    obtain ⟨rfl, rfl⟩ := H
    go_enter Try.func38, Try.ntmps38
    go_wp2_with (first | ((with_reducible refine gate_callee (f := 90) rfl ?_); refine goesL_ (some 12) rfl rfl Try.func90 (by kernel_rfl) rfl #[.bool a2, .int .u8 1] rfl (by (try simp only [List.map_toArray, List.map_cons, List.map_nil]); first | done | rfl | (simp only [List.length_drop, List.length_take]; rfl)) ?_; (with_reducible refine (alu_if1.calls a2 1 t107 _ A4.out).mono ?_); rintro e w' ⟨rfl, ⟨nd, rfl⟩⟩; refine ⟨_, rfl, ?_⟩) | ((with_reducible refine gate_callee (f := 91) rfl ?_); refine goesL_ (some 33) rfl rfl Try.func91 (by kernel_rfl) rfl #[.int .u8 ((wrap64 ((wrap64 ((wrap64 (a0)) - (wrap64 (a1)))) - (wrap64 (t107)))) % 256)] rfl (by (try simp only [List.map_toArray, List.map_cons, List.map_nil]); first | done | rfl | (simp only [List.length_drop, List.length_take]; rfl)) ?_; (with_reducible refine (alu_Own.calls ((wrap64 ((wrap64 ((wrap64 (a0)) - (wrap64 (a1)))) - (wrap64 (t107)))) % 256) t108 _ A5.out).mono ?_); rintro e w' ⟨rfl, ⟨nd, rfl⟩⟩; refine ⟨_, rfl, ?_⟩) | ((with_reducible refine gate_callee (f := 90) rfl ?_); refine goesL_ (some 37) rfl rfl Try.func90 (by kernel_rfl) rfl #[.bool (decide ((wrap64 ((wrap64 ((wrap64 (a0)) - (wrap64 (a1)))) - (wrap64 (t107)))) < 0)), .int .u8 1] rfl (by (try simp only [List.map_toArray, List.map_cons, List.map_nil]); first | done | rfl | (simp only [List.length_drop, List.length_take]; rfl)) ?_; (with_reducible refine (alu_if1.calls (decide ((wrap64 ((wrap64 ((wrap64 (a0)) - (wrap64 (a1)))) - (wrap64 (t107)))) < 0)) 1 t109 _ A6.out).mono ?_); rintro e w' ⟨rfl, ⟨nd, rfl⟩⟩; refine ⟨_, rfl, ?_⟩) | ((with_reducible refine gate_callee (f := 90) rfl ?_); refine goesL_ (some 49) rfl rfl Try.func90 (by kernel_rfl) rfl #[.bool (decide ((wrap64 ((wrap64 ((wrap64 (Go.bits .and .u8 a0 15)) - (wrap64 (Go.bits .and .u8 a1 15)))) - (wrap64 (t107)))) < 0)), .int .u8 16] rfl (by (try simp only [List.map_toArray, List.map_cons, List.map_nil]); first | done | rfl | (simp only [List.length_drop, List.length_take]; rfl)) ?_; (with_reducible refine (alu_if1.calls (decide ((wrap64 ((wrap64 ((wrap64 (Go.bits .and .u8 a0 15)) - (wrap64 (Go.bits .and .u8 a1 15)))) - (wrap64 (t107)))) < 0)) 16 t110 _ A7.out).mono ?_); rintro e w' ⟨rfl, ⟨nd, rfl⟩⟩; refine ⟨_, rfl, ?_⟩) | ((with_reducible refine gate_callee (f := 90) rfl ?_); refine goesL_ (some 57) rfl rfl Try.func90 (by kernel_rfl) rfl #[.bool true, .int .u8 4] rfl (by (try simp only [List.map_toArray, List.map_cons, List.map_nil]); first | done | rfl | (simp only [List.length_drop, List.length_take]; rfl)) ?_; (with_reducible refine (alu_if1.calls true 4 t111 _ A9.out).mono ?_); rintro e w' ⟨rfl, ⟨nd, rfl⟩⟩; refine ⟨_, rfl, ?_⟩))
    go_ret2
    exact ⟨by first | rfl | (simp; done) | (simp [*]; done), by repeat (first | exact Drawn0.refl _ | apply Drawn0.step)⟩
  · rw [if_neg c8] at H
    have c8b0 : decide ((wrap64 ((wrap64 ((wrap64 (IntKind.i8.wrap (a0))) - (wrap64 (IntKind.i8.wrap (a1))))) - (wrap64 (t107)))) < (-128)) = false := decide_eq_false c8
    clear c8
    replace H := Option.bind_eq_some_iff.mp H
    obtain ⟨t112, A100, H⟩ := H
    replace H : (some ((wrap64 ((wrap64 ((wrap64 (a0)) - (wrap64 (a1)))) - (wrap64 (t107)))) % 256, Go.bits .or .u8 (Go.bits .or .u8 (Go.bits .or .u8 (Go.bits .or .u8 t108 2) t109) t110) t112)) = some (r1, r2) := H
    have A10 := Aside0.mk A100
    clear A100
    simp only [Option.some.injEq, Prod.mk.injEq] at H
    obtain ⟨rfl, rfl⟩ := H
    go_enter Try.func38, Try.ntmps38
    go_wp2_with (first | ((with_reducible refine gate_callee (f := 90) rfl ?_); refine goesL_ (some 12) rfl rfl Try.func90 (by kernel_rfl) rfl #[.bool a2, .int .u8 1] rfl (by (try simp only [List.map_toArray, List.map_cons, List.map_nil]); first | done | rfl | (simp only [List.length_drop, List.length_take]; rfl)) ?_; (with_reducible refine (alu_if1.calls a2 1 t107 _ A4.out).mono ?_); rintro e w' ⟨rfl, ⟨nd, rfl⟩⟩; refine ⟨_, rfl, ?_⟩) | ((with_reducible refine gate_callee (f := 91) rfl ?_); refine goesL_ (some 33) rfl rfl Try.func91 (by kernel_rfl) rfl #[.int .u8 ((wrap64 ((wrap64 ((wrap64 (a0)) - (wrap64 (a1)))) - (wrap64 (t107)))) % 256)] rfl (by (try simp only [List.map_toArray, List.map_cons, List.map_nil]); first | done | rfl | (simp only [List.length_drop, List.length_take]; rfl)) ?_; (with_reducible refine (alu_Own.calls ((wrap64 ((wrap64 ((wrap64 (a0)) - (wrap64 (a1)))) - (wrap64 (t107)))) % 256) t108 _ A5.out).mono ?_); rintro e w' ⟨rfl, ⟨nd, rfl⟩⟩; refine ⟨_, rfl, ?_⟩) | ((with_reducible refine gate_callee (f := 90) rfl ?_); refine goesL_ (some 37) rfl rfl Try.func90 (by kernel_rfl) rfl #[.bool (decide ((wrap64 ((wrap64 ((wrap64 (a0)) - (wrap64 (a1)))) - (wrap64 (t107)))) < 0)), .int .u8 1] rfl (by (try simp only [List.map_toArray, List.map_cons, List.map_nil]); first | done | rfl | (simp only [List.length_drop, List.length_take]; rfl)) ?_; (with_reducible refine (alu_if1.calls (decide ((wrap64 ((wrap64 ((wrap64 (a0)) - (wrap64 (a1)))) - (wrap64 (t107)))) < 0)) 1 t109 _ A6.out).mono ?_); rintro e w' ⟨rfl, ⟨nd, rfl⟩⟩; refine ⟨_, rfl, ?_⟩) | ((with_reducible refine gate_callee (f := 90) rfl ?_); refine goesL_ (some 49) rfl rfl Try.func90 (by kernel_rfl) rfl #[.bool (decide ((wrap64 ((wrap64 ((wrap64 (Go.bits .and .u8 a0 15)) - (wrap64 (Go.bits .and .u8 a1 15)))) - (wrap64 (t107)))) < 0)), .int .u8 16] rfl (by (try simp only [List.map_toArray, List.map_cons, List.map_nil]); first | done | rfl | (simp only [List.length_drop, List.length_take]; rfl)) ?_; (with_reducible refine (alu_if1.calls (decide ((wrap64 ((wrap64 ((wrap64 (Go.bits .and .u8 a0 15)) - (wrap64 (Go.bits .and .u8 a1 15)))) - (wrap64 (t107)))) < 0)) 16 t110 _ A7.out).mono ?_); rintro e w' ⟨rfl, ⟨nd, rfl⟩⟩; refine ⟨_, rfl, ?_⟩) | ((with_reducible refine gate_callee (f := 90) rfl ?_); refine goesL_ (some 57) rfl rfl Try.func90 (by kernel_rfl) rfl #[.bool (decide ((wrap64 ((wrap64 ((wrap64 (IntKind.i8.wrap (a0))) - (wrap64 (IntKind.i8.wrap (a1))))) - (wrap64 (t107)))) > 127)), .int .u8 4] rfl (by (try simp only [List.map_toArray, List.map_cons, List.map_nil]); first | done | rfl | (simp only [List.length_drop, List.length_take]; rfl)) ?_; (with_reducible refine (alu_if1.calls (decide ((wrap64 ((wrap64 ((wrap64 (IntKind.i8.wrap (a0))) - (wrap64 (IntKind.i8.wrap (a1))))) - (wrap64 (t107)))) > 127)) 4 t112 _ A10.out).mono ?_); rintro e w' ⟨rfl, ⟨nd, rfl⟩⟩; refine ⟨_, rfl, ?_⟩))
    go_ret2
    exact ⟨by first | rfl | (simp; done) | (simp [*]; done), by repeat (first | exact Drawn0.refl _ | apply Drawn0.step)⟩

/-! ### alu_Cp: function 89 -/
def alu_Cp.f (a0 : Int) (a1 : Int) : Option (Int) := (alu_Sub.f a0 a1 false).bind fun bt113 => (some (Go.bits .or .u8 (Go.bits .andNot .u8 bt113.2 40) (Go.bits .and .u8 a1 40)))
set_option maxHeartbeats 8000000 in
set_option maxRecDepth 100000 in
theorem alu_Cp.calls (a0 : Int) (a1 : Int) (r : Int) (w : World) (h : alu_Cp.f a0 a1 = some r) :
    Calls Try.prog 89 #[.int .u8 a0, .int .u8 a1] w fun e w' => e = .returned (.int .u8 r) ∧ Drawn0 w w' := by
  have H : ((alu_Sub.f a0 a1 false).bind fun bt113 => (some (Go.bits .or .u8 (Go.bits .andNot .u8 bt113.2 40) (Go.bits .and .u8 a1 40)))) = some r := h
  clear h
  replace H := Option.bind_eq_some_iff.mp H
  obtain ⟨⟨t113, t114⟩, A30, H⟩ := H
  replace H : (some (Go.bits .or .u8 (Go.bits .andNot .u8 t114 40) (Go.bits .and .u8 a1 40))) = some r := H
  have A3 := Aside0.mk A30
  clear A30
  obtain rfl := Option.some.inj H
  go_enter Try.func89, Try.ntmps89
  go_wp2_with (first | ((with_reducible refine gate_callee (f := 38) rfl ?_); refine goesL_ (some 8) rfl rfl Try.func38 (by kernel_rfl) rfl #[.int .u8 a0, .int .u8 a1, .bool false] rfl (by (try simp only [List.map_toArray, List.map_cons, List.map_nil]); first | done | rfl | (simp only [List.length_drop, List.length_take]; rfl)) ?_; (with_reducible refine (alu_Sub.calls a0 a1 false t113 t114 _ A3.out).mono ?_); rintro e w' ⟨rfl, ⟨nd, rfl⟩⟩; refine ⟨_, rfl, ?_⟩))
  go_ret
  exact ⟨by first | rfl | (simp; done) | (simp [*]; done), by repeat (first | exact Drawn0.refl _ | apply Drawn0.step)⟩

/-! ### pendulumlaw05_lives: function 36 -/
def pendulumlaw05_lives.f  : Option (Bool) := (alu_Add.f 127 1 false).bind fun bt115 => ((alu_Sub.f 0 1 false).bind fun bt117 => (if bt115.1 = 128 then (if bt115.2 = 148 then (if bt117.1 = 255 then (if bt117.2 = 187 then ((alu_Cp.f 16 40).bind fun t119 => (some (t119 == 187))) else (some false)) else (some false)) else (some false)) else (some false)))
set_option maxHeartbeats 8000000 in
set_option maxRecDepth 100000 in
theorem pendulumlaw05_lives.calls  (r : Bool) (w : World) (h : pendulumlaw05_lives.f  = some r) :
    Calls Try.prog 36 #[] w fun e w' => e = .returned (.bool r) ∧ Drawn0 w w' := by
  have H : ((alu_Add.f 127 1 false).bind fun bt115 => ((alu_Sub.f 0 1 false).bind fun bt117 => (if bt115.1 = 128 then (if bt115.2 = 148 then (if bt117.1 = 255 then (if bt117.2 = 187 then ((alu_Cp.f 16 40).bind fun t119 => (some (t119 == 187))) else (some false)) else (some false)) else (some false)) else (some false)))) = some r := h
  clear h
  replace H := Option.bind_eq_some_iff.mp H
  obtain ⟨⟨t115, t116⟩, A10, H⟩ := H
  replace H : ((alu_Sub.f 0 1 false).bind fun bt117 => (if t115 = 128 then (if t116 = 148 then (if bt117.1 = 255 then (if bt117.2 = 187 then ((alu_Cp.f 16 40).bind fun t119 => (some (t119 == 187))) else (some false)) else (some false)) else (some false)) else (some false))) = some r := H
  have A1 := Aside0.mk A10
  clear A10
  replace H := Option.bind_eq_some_iff.mp H
  obtain ⟨⟨t117, t118⟩, A20, H⟩ := H
  replace H : (if t115 = 128 then (if t116 = 148 then (if t117 = 255 then (if t118 = 187 then ((alu_Cp.f 16 40).bind fun t119 => (some (t119 == 187))) else (some false)) else (some false)) else (some false)) else (some false)) = some r := H
  have A2 := Aside0.mk A20
  clear A20
  by_cases c3 : t115 = 128
  · rw [if_pos c3] at H
    have c3b0 : (t115 == 128) = true := beq_iff_eq.mpr c3
    have c3b1 : (t115 != 128) = false := bne_eq_false_iff_eq.mpr c3
    clear c3
    by_cases c4 : t116 = 148
    · rw [if_pos c4] at H
      have c4b0 : (t116 == 148) = true := beq_iff_eq.mpr c4
      have c4b1 : (t116 != 148) = false := bne_eq_false_iff_eq.mpr c4
      clear c4
      by_cases c5 : t117 = 255
      · rw [if_pos c5] at H
        have c5b0 : (t117 == 255) = true := beq_iff_eq.mpr c5
        have c5b1 : (t117 != 255) = false := bne_eq_false_iff_eq.mpr c5
        clear c5
        by_cases c6 : t118 = 187
        · rw [if_pos c6] at H
          have c6b0 : (t118 == 187) = true := beq_iff_eq.mpr c6
          have c6b1 : (t118 != 187) = false := bne_eq_false_iff_eq.mpr c6
          clear c6
          replace H := Option.bind_eq_some_iff.mp H
          obtain ⟨t119, A70, H⟩ := H
          replace H : (some (t119 == 187)) = some r := H
          have A7 := Aside0.mk A70
          clear A70
          obtain rfl := Option.some.inj H
          go_enter Try.func36, Try.ntmps36
          go_wp2_with (first | ((with_reducible refine gate_callee (f := 37) rfl ?_); refine goesL_ (some 6) rfl rfl Try.func37 (by kernel_rfl) rfl #[.int .u8 127, .int .u8 1, .bool false] rfl (by (try simp only [List.map_toArray, List.map_cons, List.map_nil]); first | done | rfl | (simp only [List.length_drop, List.length_take]; rfl)) ?_; (with_reducible refine (alu_Add.calls 127 1 false t115 t116 _ A1.out).mono ?_); rintro e w' ⟨rfl, ⟨nd, rfl⟩⟩; refine ⟨_, rfl, ?_⟩) | ((with_reducible refine gate_callee (f := 38) rfl ?_); refine goesL_ (some 10) rfl rfl Try.func38 (by kernel_rfl) rfl #[.int .u8 0, .int .u8 1, .bool false] rfl (by (try simp only [List.map_toArray, List.map_cons, List.map_nil]); first | done | rfl | (simp only [List.length_drop, List.length_take]; rfl)) ?_; (with_reducible refine (alu_Sub.calls 0 1 false t117 t118 _ A2.out).mono ?_); rintro e w' ⟨rfl, ⟨nd, rfl⟩⟩; refine ⟨_, rfl, ?_⟩) | (go_at_call 89; (with_reducible refine (alu_Cp.calls 16 40 t119 _ A7.out).mono ?_); rintro e w' ⟨rfl, ⟨nd, rfl⟩⟩))
          go_ret
          exact ⟨by first | rfl | (simp; done) | (simp [*]; done), by repeat (first | exact Drawn0.refl _ | apply Drawn0.step)⟩
        · rw [if_neg c6] at H
          have c6b0 : (t118 == 187) = false := beq_eq_false_iff_ne.mpr c6
          have c6b1 : (t118 != 187) = true := bne_iff_ne.mpr c6
          obtain rfl := Option.some.inj H
          go_enter Try.func36, Try.ntmps36
          go_wp2_with (first | ((with_reducible refine gate_callee (f := 37) rfl ?_); refine goesL_ (some 6) rfl rfl Try.func37 (by kernel_rfl) rfl #[.int .u8 127, .int .u8 1, .bool false] rfl (by (try simp only [List.map_toArray, List.map_cons, List.map_nil]); first | done | rfl | (simp only [List.length_drop, List.length_take]; rfl)) ?_; (with_reducible refine (alu_Add.calls 127 1 false t115 t116 _ A1.out).mono ?_); rintro e w' ⟨rfl, ⟨nd, rfl⟩⟩; refine ⟨_, rfl, ?_⟩) | ((with_reducible refine gate_callee (f := 38) rfl ?_); refine goesL_ (some 10) rfl rfl Try.func38 (by kernel_rfl) rfl #[.int .u8 0, .int .u8 1, .bool false] rfl (by (try simp only [List.map_toArray, List.map_cons, List.map_nil]); first | done | rfl | (simp only [List.length_drop, List.length_take]; rfl)) ?_; (with_reducible refine (alu_Sub.calls 0 1 false t117 t118 _ A2.out).mono ?_); rintro e w' ⟨rfl, ⟨nd, rfl⟩⟩; refine ⟨_, rfl, ?_⟩))
          go_ret
          exact ⟨by first | rfl | (simp; done) | (simp [*]; done), by repeat (first | exact Drawn0.refl _ | apply Drawn0.step)⟩
      · rw [if_neg c5] at H
        have c5b0 : (t117 == 255) = false := beq_eq_false_iff_ne.mpr c5
        have c5b1 : (t117 != 255) = true := bne_iff_ne.mpr c5
        obtain rfl := Option.some.inj H
        go_enter Try.func36, Try.ntmps36
        go_wp2_with (first | ((with_reducible refine gate_callee (f := 37) rfl ?_); refine goesL_ (some 6) rfl rfl Try.func37 (by kernel_rfl) rfl #[.int .u8 127, .int .u8 1, .bool false] rfl (by (try simp only [List.map_toArray, List.map_cons, List.map_nil]); first | done | rfl | (simp only [List.length_drop, List.length_take]; rfl)) ?_; (with_reducible refine (alu_Add.calls 127 1 false t115 t116 _ A1.out).mono ?_); rintro e w' ⟨rfl, ⟨nd, rfl⟩⟩; refine ⟨_, rfl, ?_⟩) | ((with_reducible refine gate_callee (f := 38) rfl ?_); refine goesL_ (some 10) rfl rfl Try.func38 (by kernel_rfl) rfl #[.int .u8 0, .int .u8 1, .bool false] rfl (by (try simp only [List.map_toArray, List.map_cons, List.map_nil]); first | done | rfl | (simp only [List.length_drop, List.length_take]; rfl)) ?_; (with_reducible refine (alu_Sub.calls 0 1 false t117 t118 _ A2.out).mono ?_); rintro e w' ⟨rfl, ⟨nd, rfl⟩⟩; refine ⟨_, rfl, ?_⟩))
        go_ret
        exact ⟨by first | rfl | (simp; done) | (simp [*]; done), by repeat (first | exact Drawn0.refl _ | apply Drawn0.step)⟩
    · rw [if_neg c4] at H
      have c4b0 : (t116 == 148) = false := beq_eq_false_iff_ne.mpr c4
      have c4b1 : (t116 != 148) = true := bne_iff_ne.mpr c4
      obtain rfl := Option.some.inj H
      go_enter Try.func36, Try.ntmps36
      go_wp2_with (first | ((with_reducible refine gate_callee (f := 37) rfl ?_); refine goesL_ (some 6) rfl rfl Try.func37 (by kernel_rfl) rfl #[.int .u8 127, .int .u8 1, .bool false] rfl (by (try simp only [List.map_toArray, List.map_cons, List.map_nil]); first | done | rfl | (simp only [List.length_drop, List.length_take]; rfl)) ?_; (with_reducible refine (alu_Add.calls 127 1 false t115 t116 _ A1.out).mono ?_); rintro e w' ⟨rfl, ⟨nd, rfl⟩⟩; refine ⟨_, rfl, ?_⟩) | ((with_reducible refine gate_callee (f := 38) rfl ?_); refine goesL_ (some 10) rfl rfl Try.func38 (by kernel_rfl) rfl #[.int .u8 0, .int .u8 1, .bool false] rfl (by (try simp only [List.map_toArray, List.map_cons, List.map_nil]); first | done | rfl | (simp only [List.length_drop, List.length_take]; rfl)) ?_; (with_reducible refine (alu_Sub.calls 0 1 false t117 t118 _ A2.out).mono ?_); rintro e w' ⟨rfl, ⟨nd, rfl⟩⟩; refine ⟨_, rfl, ?_⟩))
      go_ret
      exact ⟨by first | rfl | (simp; done) | (simp [*]; done), by repeat (first | exact Drawn0.refl _ | apply Drawn0.step)⟩
  · rw [if_neg c3] at H
    have c3b0 : (t115 == 128) = false := beq_eq_false_iff_ne.mpr c3
    have c3b1 : (t115 != 128) = true := bne_iff_ne.mpr c3
    obtain rfl := Option.some.inj H
    go_enter Try.func36, Try.ntmps36
    go_wp2_with (first | ((with_reducible refine gate_callee (f := 37) rfl ?_); refine goesL_ (some 6) rfl rfl Try.func37 (by kernel_rfl) rfl #[.int .u8 127, .int .u8 1, .bool false] rfl (by (try simp only [List.map_toArray, List.map_cons, List.map_nil]); first | done | rfl | (simp only [List.length_drop, List.length_take]; rfl)) ?_; (with_reducible refine (alu_Add.calls 127 1 false t115 t116 _ A1.out).mono ?_); rintro e w' ⟨rfl, ⟨nd, rfl⟩⟩; refine ⟨_, rfl, ?_⟩) | ((with_reducible refine gate_callee (f := 38) rfl ?_); refine goesL_ (some 10) rfl rfl Try.func38 (by kernel_rfl) rfl #[.int .u8 0, .int .u8 1, .bool false] rfl (by (try simp only [List.map_toArray, List.map_cons, List.map_nil]); first | done | rfl | (simp only [List.length_drop, List.length_take]; rfl)) ?_; (with_reducible refine (alu_Sub.calls 0 1 false t117 t118 _ A2.out).mono ?_); rintro e w' ⟨rfl, ⟨nd, rfl⟩⟩; refine ⟨_, rfl, ?_⟩))
    go_ret
    exact ⟨by first | rfl | (simp; done) | (simp [*]; done), by repeat (first | exact Drawn0.refl _ | apply Drawn0.step)⟩

/-! ### bits_OnesCount8: function 105 -/
def bits_OnesCount8.f (a0 : Int) : Option (Int) := if 0 ≤ a0 then (if a0 < 256 then (some (wrap64 (bt (⟨#[0, 1, 1, 2, 1, 2, 2, 3, 1, 2, 2, 3, 2, 3, 3, 4, 1, 2, 2, 3, 2, 3, 3, 4, 2, 3, 3, 4, 3, 4, 4, 5, 1, 2, 2, 3, 2, 3, 3, 4, 2, 3, 3, 4, 3, 4, 4, 5, 2, 3, 3, 4, 3, 4, 4, 5, 3, 4, 4, 5, 4, 5, 5, 6, 1, 2, 2, 3, 2, 3, 3, 4, 2, 3, 3, 4, 3, 4, 4, 5, 2, 3, 3, 4, 3, 4, 4, 5, 3, 4, 4, 5, 4, 5, 5, 6, 2, 3, 3, 4, 3, 4, 4, 5, 3, 4, 4, 5, 4, 5, 5, 6, 3, 4, 4, 5, 4, 5, 5, 6, 4, 5, 5, 6, 5, 6, 6, 7, 1, 2, 2, 3, 2, 3, 3, 4, 2, 3, 3, 4, 3, 4, 4, 5, 2, 3, 3, 4, 3, 4, 4, 5, 3, 4, 4, 5, 4, 5, 5, 6, 2, 3, 3, 4, 3, 4, 4, 5, 3, 4, 4, 5, 4, 5, 5, 6, 3, 4, 4, 5, 4, 5, 5, 6, 4, 5, 5, 6, 5, 6, 6, 7, 2, 3, 3, 4, 3, 4, 4, 5, 3, 4, 4, 5, 4, 5, 5, 6, 3, 4, 4, 5, 4, 5, 5, 6, 4, 5, 5, 6, 5, 6, 6, 7, 3, 4, 4, 5, 4, 5, 5, 6, 4, 5, 5, 6, 5, 6, 6, 7, 4, 5, 5, 6, 5, 6, 6, 7, 5, 6, 6, 7, 6, 7, 7, 8]⟩ : ByteArray) a0))) else (none)) else (none)
set_option maxHeartbeats 8000000 in
set_option maxRecDepth 100000 in
theorem bits_OnesCount8.calls (a0 : Int) (r : Int) (w : World) (h : bits_OnesCount8.f a0 = some r) :
    Calls Try.prog 105 #[.int .u8 a0] w fun e w' => e = .returned (.int .i64 r) ∧ Drawn0 w w' := by
  have H : (if 0 ≤ a0 then (if a0 < 256 then (some (wrap64 (bt (⟨#[0, 1, 1, 2, 1, 2, 2, 3, 1, 2, 2, 3, 2, 3, 3, 4, 1, 2, 2, 3, 2, 3, 3, 4, 2, 3, 3, 4, 3, 4, 4, 5, 1, 2, 2, 3, 2, 3, 3, 4, 2, 3, 3, 4, 3, 4, 4, 5, 2, 3, 3, 4, 3, 4, 4, 5, 3, 4, 4, 5, 4, 5, 5, 6, 1, 2, 2, 3, 2, 3, 3, 4, 2, 3, 3, 4, 3, 4, 4, 5, 2, 3, 3, 4, 3, 4, 4, 5, 3, 4, 4, 5, 4, 5, 5, 6, 2, 3, 3, 4, 3, 4, 4, 5, 3, 4, 4, 5, 4, 5, 5, 6, 3, 4, 4, 5, 4, 5, 5, 6, 4, 5, 5, 6, 5, 6, 6, 7, 1, 2, 2, 3, 2, 3, 3, 4, 2, 3, 3, 4, 3, 4, 4, 5, 2, 3, 3, 4, 3, 4, 4, 5, 3, 4, 4, 5, 4, 5, 5, 6, 2, 3, 3, 4, 3, 4, 4, 5, 3, 4, 4, 5, 4, 5, 5, 6, 3, 4, 4, 5, 4, 5, 5, 6, 4, 5, 5, 6, 5, 6, 6, 7, 2, 3, 3, 4, 3, 4, 4, 5, 3, 4, 4, 5, 4, 5, 5, 6, 3, 4, 4, 5, 4, 5, 5, 6, 4, 5, 5, 6, 5, 6, 6, 7, 3, 4, 4, 5, 4, 5, 5, 6, 4, 5, 5, 6, 5, 6, 6, 7, 4, 5, 5, 6, 5, 6, 6, 7, 5, 6, 6, 7, 6, 7, 7, 8]⟩ : ByteArray) a0))) else (none)) else (none)) = some r := h
  clear h
  by_cases c2 : 0 ≤ a0
  · rw [if_pos c2] at H
    have c2b0 : decide (0 ≤ a0) = true := decide_eq_true c2
    clear c2
    by_cases c3 : a0 < 256
    · rw [if_pos c3] at H
      have c3b0 : decide (a0 < 256) = true := decide_eq_true c3
      clear c3
      obtain rfl := Option.some.inj H
      have p4 : 0 ≤ (a0 : Int) := of_decide_eq_true (by first | (with_reducible assumption) | assumption)
      have q4 : a0 < (256 : Int) := of_decide_eq_true (by first | (with_reducible assumption) | assumption)
      have hx4 := bt_at (⟨#[0, 1, 1, 2, 1, 2, 2, 3, 1, 2, 2, 3, 2, 3, 3, 4, 1, 2, 2, 3, 2, 3, 3, 4, 2, 3, 3, 4, 3, 4, 4, 5, 1, 2, 2, 3, 2, 3, 3, 4, 2, 3, 3, 4, 3, 4, 4, 5, 2, 3, 3, 4, 3, 4, 4, 5, 3, 4, 4, 5, 4, 5, 5, 6, 1, 2, 2, 3, 2, 3, 3, 4, 2, 3, 3, 4, 3, 4, 4, 5, 2, 3, 3, 4, 3, 4, 4, 5, 3, 4, 4, 5, 4, 5, 5, 6, 2, 3, 3, 4, 3, 4, 4, 5, 3, 4, 4, 5, 4, 5, 5, 6, 3, 4, 4, 5, 4, 5, 5, 6, 4, 5, 5, 6, 5, 6, 6, 7, 1, 2, 2, 3, 2, 3, 3, 4, 2, 3, 3, 4, 3, 4, 4, 5, 2, 3, 3, 4, 3, 4, 4, 5, 3, 4, 4, 5, 4, 5, 5, 6, 2, 3, 3, 4, 3, 4, 4, 5, 3, 4, 4, 5, 4, 5, 5, 6, 3, 4, 4, 5, 4, 5, 5, 6, 4, 5, 5, 6, 5, 6, 6, 7, 2, 3, 3, 4, 3, 4, 4, 5, 3, 4, 4, 5, 4, 5, 5, 6, 3, 4, 4, 5, 4, 5, 5, 6, 4, 5, 5, 6, 5, 6, 6, 7, 3, 4, 4, 5, 4, 5, 5, 6, 4, 5, 5, 6, 5, 6, 6, 7, 4, 5, 5, 6, 5, 6, 6, 7, 5, 6, 6, 7, 6, 7, 7, 8]⟩ : ByteArray) a0
      replace p4 := eq_true p4
      replace q4 := eq_true q4
      go_enter Try.func105, Try.ntmps105
      go_wp2
      go_ret
      exact ⟨by first | rfl | (simp; done) | (simp [*]; done), by repeat (first | exact Drawn0.refl _ | apply Drawn0.step)⟩
    · rw [if_neg c3] at H
      exact absurd H (by simp)
  · rw [if_neg c2] at H
    exact absurd H (by simp)

/-! ### alu_Parity: function 99 -/
def alu_Parity.f (a0 : Int) : Option (Bool) := (bits_OnesCount8.f a0).bind fun t120 => (some ((Int.tmod t120 2) == 0))
set_option maxHeartbeats 8000000 in
set_option maxRecDepth 100000 in
theorem alu_Parity.calls (a0 : Int) (r : Bool) (w : World) (h : alu_Parity.f a0 = some r) :
    Calls Try.prog 99 #[.int .u8 a0] w fun e w' => e = .returned (.bool r) ∧ Drawn0 w w' := by
  have H : ((bits_OnesCount8.f a0).bind fun t120 => (some ((Int.tmod t120 2) == 0))) = some r := h
  clear h
  replace H := Option.bind_eq_some_iff.mp H
  obtain ⟨t120, A20, H⟩ := H
  replace H : (some ((Int.tmod t120 2) == 0)) = some r := H
  have A2 := Aside0.mk A20
  clear A20
  obtain rfl := Option.some.inj H
  go_enter Try.func99, Try.ntmps99
  go_wp2_with (first | ((with_reducible refine gate_callee (f := 105) rfl ?_); refine goesL_ (some 4) rfl rfl Try.func105 (by kernel_rfl) rfl #[.int .u8 a0] rfl (by (try simp only [List.map_toArray, List.map_cons, List.map_nil]); first | done | rfl | (simp only [List.length_drop, List.length_take]; rfl)) ?_; (with_reducible refine (bits_OnesCount8.calls a0 t120 _ A2.out).mono ?_); rintro e w' ⟨rfl, ⟨nd, rfl⟩⟩; refine ⟨_, rfl, ?_⟩))
  go_ret
  exact ⟨by first | rfl | (simp; done) | (simp [*]; done), by repeat (first | exact Drawn0.refl _ | apply Drawn0.step)⟩

/-! ### alu_logic: function 93 -/
def alu_logic.f (a0 : Int) (a1 : Int) : Option (Int × Int) := (alu_Own.f a0).bind fun t121 => ((alu_Parity.f a0).bind fun t122 => ((alu_if1.f t122 4).bind fun t123 => (some (a0, Go.bits .or .u8 (Go.bits .or .u8 t121 t123) a1))))
set_option maxHeartbeats 8000000 in
set_option maxRecDepth 100000 in
theorem alu_logic.calls (a0 : Int) (a1 : Int) (r1 : Int) (r2 : Int) (w : World) (h : alu_logic.f a0 a1 = some (r1, r2)) :
    Calls Try.prog 93 #[.int .u8 a0, .int .u8 a1] w fun e w' => e = .returned (.tuple #[.int .u8 r1, .int .u8 r2]) ∧ Drawn0 w w' := by
  have H : ((alu_Own.f a0).bind fun t121 => ((alu_Parity.f a0).bind fun t122 => ((alu_if1.f t122 4).bind fun t123 => (some (a0, Go.bits .or .u8 (Go.bits .or .u8 t121 t123) a1))))) = some (r1, r2) := h
  clear h
  replace H := Option.bind_eq_some_iff.mp H
  obtain ⟨t121, A30, H⟩ := H
  replace H : ((alu_Parity.f a0).bind fun t122 => ((alu_if1.f t122 4).bind fun t123 => (some (a0, Go.bits .or .u8 (Go.bits .or .u8 t121 t123) a1)))) = some (r1, r2) := H
  have A3 := Aside0.mk A30
  clear A30
  replace H := Option.bind_eq_some_iff.mp H
  obtain ⟨t122, A40, H⟩ := H
  replace H : ((alu_if1.f t122 4).bind fun t123 => (some (a0, Go.bits .or .u8 (Go.bits .or .u8 t121 t123) a1))) = some (r1, r2) := H
  have A4 := Aside0.mk A40
  clear A40
  replace H := Option.bind_eq_some_iff.mp H
  obtain ⟨t123, A50, H⟩ := H
  replace H : (some (a0, Go.bits .or .u8 (Go.bits .or .u8 t121 t123) a1)) = some (r1, r2) := H
  have A5 := Aside0.mk A50
  clear A50
  simp only [Option.some.injEq, Prod.mk.injEq] at H
  obtain ⟨rfl, rfl⟩ := H
  go_enter Try.func93, Try.ntmps93
  go_wp2_with (first | ((with_reducible refine gate_callee (f := 91) rfl ?_); refine goesL_ (some 8) rfl rfl Try.func91 (by kernel_rfl) rfl #[.int .u8 a0] rfl (by (try simp only [List.map_toArray, List.map_cons, List.map_nil]); first | done | rfl | (simp only [List.length_drop, List.length_take]; rfl)) ?_; (with_reducible refine (alu_Own.calls a0 t121 _ A3.out).mono ?_); rintro e w' ⟨rfl, ⟨nd, rfl⟩⟩; refine ⟨_, rfl, ?_⟩) | ((with_reducible refine gate_callee (f := 99) rfl ?_); refine goesL_ (some 10) rfl rfl Try.func99 (by kernel_rfl) rfl #[.int .u8 a0] rfl (by (try simp only [List.map_toArray, List.map_cons, List.map_nil]); first | done | rfl | (simp only [List.length_drop, List.length_take]; rfl)) ?_; (with_reducible refine (alu_Parity.calls a0 t122 _ A4.out).mono ?_); rintro e w' ⟨rfl, ⟨nd, rfl⟩⟩; refine ⟨_, rfl, ?_⟩) | ((with_reducible refine gate_callee (f := 90) rfl ?_); refine goesL_ (some 11) rfl rfl Try.func90 (by kernel_rfl) rfl #[.bool t122, .int .u8 4] rfl (by (try simp only [List.map_toArray, List.map_cons, List.map_nil]); first | done | rfl | (simp only [List.length_drop, List.length_take]; rfl)) ?_; (with_reducible refine (alu_if1.calls t122 4 t123 _ A5.out).mono ?_); rintro e w' ⟨rfl, ⟨nd, rfl⟩⟩; refine ⟨_, rfl, ?_⟩))
  go_ret2
  exact ⟨by first | rfl | (simp; done) | (simp [*]; done), by repeat (first | exact Drawn0.refl _ | apply Drawn0.step)⟩

/-! ### alu_And: function 40 -/
def alu_And.f (a0 : Int) (a1 : Int) : Option (Int × Int) := (alu_logic.f (Go.bits .and .u8 a0 a1) 16).bind fun bt124 => (some (bt124.1, bt124.2))
set_option maxHeartbeats 8000000 in
set_option maxRecDepth 100000 in
theorem alu_And.calls (a0 : Int) (a1 : Int) (r1 : Int) (r2 : Int) (w : World) (h : alu_And.f a0 a1 = some (r1, r2)) :
    Calls Try.prog 40 #[.int .u8 a0, .int .u8 a1] w fun e w' => e = .returned (.tuple #[.int .u8 r1, .int .u8 r2]) ∧ Drawn0 w w' := by
  have H : ((alu_logic.f (Go.bits .and .u8 a0 a1) 16).bind fun bt124 => (some (bt124.1, bt124.2))) = some (r1, r2) := h
  clear h
  replace H := Option.bind_eq_some_iff.mp H
  obtain ⟨⟨t124, t125⟩, A30, H⟩ := H
  replace H : (some (t124, t125)) = some (r1, r2) := H
  have A3 := Aside0.mk A30
  clear A30
  simp only [Option.some.injEq, Prod.mk.injEq] at H
  obtain ⟨rfl, rfl⟩ := H
  go_enter Try.func40, Try.ntmps40
  go_wp2_with (first | ((with_reducible refine gate_callee (f := 93) rfl ?_); refine goesL_ (some 9) rfl rfl Try.func93 (by kernel_rfl) rfl #[.int .u8 (Go.bits .and .u8 a0 a1), .int .u8 16] rfl (by (try simp only [List.map_toArray, List.map_cons, List.map_nil]); first | done | rfl | (simp only [List.length_drop, List.length_take]; rfl)) ?_; (with_reducible refine (alu_logic.calls (Go.bits .and .u8 a0 a1) 16 t124 t125 _ A3.out).mono ?_); rintro e w' ⟨rfl, ⟨nd, rfl⟩⟩; refine ⟨_, rfl, ?_⟩))
  go_ret2
  exact ⟨by first | rfl | (simp; done) | (simp [*]; done), by repeat (first | exact Drawn0.refl _ | apply Drawn0.step)⟩

/-! ### alu_Neg: function 42 -/
def alu_Neg.f (a0 : Int) : Option (Int × Int) := (alu_Sub.f 0 a0 false).bind fun bt126 => (some (bt126.1, bt126.2))
set_option maxHeartbeats 8000000 in
set_option maxRecDepth 100000 in
theorem alu_Neg.calls (a0 : Int) (r1 : Int) (r2 : Int) (w : World) (h : alu_Neg.f a0 = some (r1, r2)) :
    Calls Try.prog 42 #[.int .u8 a0] w fun e w' => e = .returned (.tuple #[.int .u8 r1, .int .u8 r2]) ∧ Drawn0 w w' := by
  have H : ((alu_Sub.f 0 a0 false).bind fun bt126 => (some (bt126.1, bt126.2))) = some (r1, r2) := h
  clear h
  replace H := Option.bind_eq_some_iff.mp H
  obtain ⟨⟨t126, t127⟩, A20, H⟩ := H
  replace H : (some (t126, t127)) = some (r1, r2) := H
  have A2 := Aside0.mk A20
  clear A20
  simp only [Option.some.injEq, Prod.mk.injEq] at H
  obtain ⟨rfl, rfl⟩ := H
  go_enter Try.func42, Try.ntmps42
  go_wp2_with (first | ((with_reducible refine gate_callee (f := 38) rfl ?_); refine goesL_ (some 5) rfl rfl Try.func38 (by kernel_rfl) rfl #[.int .u8 0, .int .u8 a0, .bool false] rfl (by (try simp only [List.map_toArray, List.map_cons, List.map_nil]); first | done | rfl | (simp only [List.length_drop, List.length_take]; rfl)) ?_; (with_reducible refine (alu_Sub.calls 0 a0 false t126 t127 _ A2.out).mono ?_); rintro e w' ⟨rfl, ⟨nd, rfl⟩⟩; refine ⟨_, rfl, ?_⟩))
  go_ret2
  exact ⟨by first | rfl | (simp; done) | (simp [*]; done), by repeat (first | exact Drawn0.refl _ | apply Drawn0.step)⟩

/-! ### pendulumref05_Parity: function 53 -/
def pendulumref05_Parity.l0 : Nat → Int → Int → Int → Option (Bool)
  | 0, _, _, _ => none
  | k + 1, x0, x3, x4 => if x4 < 8 then (if 0 ≤ (IntKind.u64.wrap (x4)) then (pendulumref05_Parity.l0 k x0 (wrap64 (x3 + (Int.tmod (wrap64 (shr .u8 x0 (IntKind.u64.wrap (x4)))) 2))) (wrap64 (x4 + 1))) else (none)) else (some ((Int.tmod x3 2) == 0))
def pendulumref05_Parity.f (k : Nat) (a0 : Int) : Option (Bool) := pendulumref05_Parity.l0 k a0 0 0
theorem pendulumref05_Parity.mono_l : ∀ k, (∀ y0 y1 y2, LeO (pendulumref05_Parity.l0 k y0 y1 y2) (pendulumref05_Parity.l0 (k + 1) y0 y1 y2))
  | 0 => fun _ _ _ r h => by simp [pendulumref05_Parity.l0] at h
  | k + 1 => by
    have ih0 := pendulumref05_Parity.mono_l k
    · intro y0 y1 y2
      unfold pendulumref05_Parity.l0
      repeat' first
      | (with_reducible exact ih0 _ _ _)
      | (with_reducible exact LeO.refl _)
      | (with_reducible exact LeO.none _)
      | (with_reducible refine LeO.ite ?_ ?_)
      | (with_reducible refine LeO.bind ?_ (fun _ => ?_))
      | exact ih0 _ _ _
      | exact LeO.none _
      | refine LeO.ite ?_ ?_
      | refine LeO.bind ?_ (fun _ => ?_)
theorem pendulumref05_Parity.mono : ∀ a0 k, LeO (pendulumref05_Parity.f k a0) (pendulumref05_Parity.f (k + 1) a0) := by
  intro a0 k
  have ih0 := pendulumref05_Parity.mono_l k
  unfold pendulumref05_Parity.f
  repeat' first
      | (with_reducible exact ih0 _ _ _)
      | (with_reducible exact LeO.refl _)
      | (with_reducible exact LeO.none _)
      | (with_reducible refine LeO.ite ?_ ?_)
      | (with_reducible refine LeO.bind ?_ (fun _ => ?_))
      | exact ih0 _ _ _
      | exact LeO.none _
      | refine LeO.ite ?_ ?_
      | refine LeO.bind ?_ (fun _ => ?_)
set_option maxHeartbeats 8000000 in
set_option maxRecDepth 100000 in
theorem pendulumref05_Parity.calls (k : Nat) (a0 : Int) (r : Bool) (w : World) (h : pendulumref05_Parity.f k a0 = some r) :
    Calls Try.prog 53 #[.int .u8 a0] w fun e w' => e = .returned (.bool r) ∧ Drawn0 w w' := by
  have H : (pendulumref05_Parity.l0 k a0 0 0) = some r := h
  clear h
  have H' := Aside0.mk H
  clear H
  go_enter Try.func53, Try.ntmps53
  go_wp2
  go_loopg [3, 4] k (fun kq v3 v4 w' => ∃ (x3_1 : Int) (x4_1 : Int), v3 = .int .i64 x3_1 ∧ v4 = .int .i64 x4_1 ∧ Aside0 (pendulumref05_Parity.l0 kq a0 x3_1 x4_1 = some r) ∧ Aside0 (kq ≤ k) ∧ Drawn0 w w')
  case atStart => exact ⟨(0), (0), (by first | rfl | (simp; done) | (simp [*]; done)), (by first | rfl | (simp; done) | (simp [*]; done)), H', ⟨Nat.le_refl _⟩, by repeat (first | exact Drawn0.refl _ | apply Drawn0.step)⟩
  case round =>
    clear H'
    obtain ⟨x3_1, x4_1, rfl, rfl, HA, HK1, ⟨m1, rfl⟩⟩ := hrel
    cases gk with
    | zero => exact absurd HA.out (by simp [pendulumref05_Parity.l0])
    | succ k1 =>
      have H := HA.out
      clear HA
      simp only [pendulumref05_Parity.l0] at H
      by_cases c2 : x4_1 < 8
      · rw [if_pos c2] at H
        have c2b0 : decide (x4_1 < 8) = true := decide_eq_true c2
        clear c2
        obtain ⟨ji3, hji3⟩ : ∃ j_ : Int, (IntKind.u64.wrap (x4_1)) = j_ := ⟨_, rfl⟩
        replace H : (if 0 ≤ (ji3) then (pendulumref05_Parity.l0 k1 a0 (wrap64 (x3_1 + (Int.tmod (wrap64 (shr .u8 a0 (ji3))) 2))) (wrap64 (x4_1 + 1))) else (none)) = some r := by first | (rw [hji3] at H; exact H) | (simp only [hji3] at H ⊢; exact H)
        by_cases c4 : 0 ≤ (ji3)
        · rw [if_pos c4] at H
          have c4b0 := eq_true c4
          have c4b1 : decide (0 ≤ (ji3)) = true := decide_eq_true c4
          clear c4
          obtain ⟨ji5, hji5⟩ : ∃ j_ : Int, (shr .u8 a0 (ji3)) = j_ := ⟨_, rfl⟩
          replace H : (pendulumref05_Parity.l0 k1 a0 (wrap64 (x3_1 + (Int.tmod (wrap64 (ji5)) 2))) (wrap64 (x4_1 + 1))) = some r := by first | (rw [hji5] at H; exact H) | (simp only [hji5] at H ⊢; exact H)
          have hji5_ : (a0 / 2 ^ min (ji3).toNat 8) = ji5 := hji5
          have hji5z : (ji3) ≤ 8 → (a0 / 2 ^ (ji3).toNat) = ji5 := shr_small hji5
          have H' := Aside0.mk H
          clear H
          go_wp2
          go_roundg k1
          case measure => have := HK1.out; omega
          case rel => exact ⟨(wrap64 (x3_1 + (Int.tmod (wrap64 (ji5)) 2))), (wrap64 (x4_1 + 1)), (by first | rfl | (simp; done) | (simp only [← hji5] <;> (first | rfl | simp)) | (simp [*]; done)), (by first | rfl | (simp; done) | (simp [*]; done)), H', ⟨by have := HK1.out; omega⟩, by repeat (first | exact Drawn0.refl _ | apply Drawn0.step)⟩
        · rw [if_neg c4] at H
          exact absurd H (by simp)
      · rw [if_neg c2] at H
        have c2b0 : decide (x4_1 < 8) = false := decide_eq_false c2
        clear c2
        obtain rfl := Option.some.inj H
        go_wp2
        go_ret
        exact ⟨by first | rfl | (simp; done) | (simp [*]; done), by repeat (first | exact Drawn0.refl _ | apply Drawn0.step)⟩

/-! ### pendulumref05_Own: function 84 -/
def pendulumref05_Own.f (a0 : Int) : Option (Int) := if a0 = 0 then (some (((Go.bits .and .u8 a0 168) + 64) % 256)) else (some (Go.bits .and .u8 a0 168))
set_option maxHeartbeats 8000000 in
set_option maxRecDepth 100000 in
theorem pendulumref05_Own.calls (a0 : Int) (r : Int) (w : World) (h : pendulumref05_Own.f a0 = some r) :
    Calls Try.prog 84 #[.int .u8 a0] w fun e w' => e = .returned (.int .u8 r) ∧ Drawn0 w w' := by
  have H : (if a0 = 0 then (some (((Go.bits .and .u8 a0 168) + 64) % 256)) else (some (Go.bits .and .u8 a0 168))) = some r := h
  clear h
  by_cases c2 : a0 = 0
  · rw [if_pos c2] at H
    have c2b0 : (a0 == 0) = true := beq_iff_eq.mpr c2
    have c2b1 : (a0 != 0) = false := bne_eq_false_iff_eq.mpr c2
    clear c2
    obtain rfl := Option.some.inj H
    go_enter Try.func84, Try.ntmps84
    go_wp2
    go_ret
    exact ⟨by first | rfl | (simp; done) | (simp [*]; done), by repeat (first | exact Drawn0.refl _ | apply Drawn0.step)⟩
  · rw [if_neg c2] at H
    have c2b0 : (a0 == 0) = false := beq_eq_false_iff_ne.mpr c2
    have c2b1 : (a0 != 0) = true := bne_iff_ne.mpr c2
    obtain rfl := Option.some.inj H
    go_enter Try.func84, Try.ntmps84
    go_wp2
    go_ret
    exact ⟨by first | rfl | (simp; done) | (simp [*]; done), by repeat (first | exact Drawn0.refl _ | apply Drawn0.step)⟩

/-! ### pendulumref05_Flag: function 85 -/
def pendulumref05_Flag.f (a0 : Int) (a1 : Bool) : Option (Int) := if a1 = true then (some a0) else (some 0)
set_option maxHeartbeats 8000000 in
set_option maxRecDepth 100000 in
theorem pendulumref05_Flag.calls (a0 : Int) (a1 : Bool) (r : Int) (w : World) (h : pendulumref05_Flag.f a0 a1 = some r) :
    Calls Try.prog 85 #[.int .u8 a0, .bool a1] w fun e w' => e = .returned (.int .u8 r) ∧ Drawn0 w w' := by
  have H : (if a1 = true then (some a0) else (some 0)) = some r := h
  clear h
  by_cases c3 : a1 = true
  · subst c3
    have H1 : (some a0) = some r := by rw [if_pos rfl] at H; exact H
    clear H
    have H := H1
    clear H1
    obtain rfl := Option.some.inj H
    go_enter Try.func85, Try.ntmps85
    go_wp2
    go_ret
    exact ⟨by first | rfl | (simp; done) | (simp [*]; done), by repeat (first | exact Drawn0.refl _ | apply Drawn0.step)⟩
  · replace c3 := Bool.eq_false_iff.mpr c3
    subst c3
    have H1 : (some 0) = some r := by rw [if_neg (show ¬ (false = true) by decide)] at H; exact H
    clear H
    have H := H1
    clear H1
    obtain rfl := Option.some.inj H
    go_enter Try.func85, Try.ntmps85
    go_wp2
    go_ret
    exact ⟨by first | rfl | (simp; done) | (simp [*]; done), by repeat (first | exact Drawn0.refl _ | apply Drawn0.step)⟩

/-! ### pendulumref05_Logic: function 94 -/
def pendulumref05_Logic.f (k : Nat) (a0 : Int) : Option (Int) := (pendulumref05_Own.f a0).bind fun t128 => ((pendulumref05_Parity.f k a0).bind fun t129 => ((pendulumref05_Flag.f 4 t129).bind fun t130 => (some (Go.bits .or .u8 t128 t130))))
theorem pendulumref05_Logic.mono : ∀ a0 k, LeO (pendulumref05_Logic.f k a0) (pendulumref05_Logic.f (k + 1) a0) := by
  intro a0 k
  unfold pendulumref05_Logic.f
  repeat' first
      | (with_reducible exact pendulumref05_Parity.mono _ _)
      | (with_reducible exact LeO.refl _)
      | (with_reducible exact LeO.none _)
      | (with_reducible refine LeO.ite ?_ ?_)
      | (with_reducible refine LeO.bind ?_ (fun _ => ?_))
      | exact pendulumref05_Parity.mono _ _
      | exact LeO.none _
      | refine LeO.ite ?_ ?_
      | refine LeO.bind ?_ (fun _ => ?_)
set_option maxHeartbeats 8000000 in
set_option maxRecDepth 100000 in
theorem pendulumref05_Logic.calls (k : Nat) (a0 : Int) (r : Int) (w : World) (h : pendulumref05_Logic.f k a0 = some r) :
    Calls Try.prog 94 #[.int .u8 a0] w fun e w' => e = .returned (.int .u8 r) ∧ Drawn0 w w' := by
  have H : ((pendulumref05_Own.f a0).bind fun t128 => ((pendulumref05_Parity.f k a0).bind fun t129 => ((pendulumref05_Flag.f 4 t129).bind fun t130 => (some (Go.bits .or .u8 t128 t130))))) = some r := h
  clear h
  replace H := Option.bind_eq_some_iff.mp H
  obtain ⟨t128, A20, H⟩ := H
  replace H : ((pendulumref05_Parity.f k a0).bind fun t129 => ((pendulumref05_Flag.f 4 t129).bind fun t130 => (some (Go.bits .or .u8 t128 t130)))) = some r := H
  have A2 := Aside0.mk A20
  clear A20
  replace H := Option.bind_eq_some_iff.mp H
  obtain ⟨t129, A30, H⟩ := H
  replace H : ((pendulumref05_Flag.f 4 t129).bind fun t130 => (some (Go.bits .or .u8 t128 t130))) = some r := H
  have A3 := Aside0.mk A30
  clear A30
  replace H := Option.bind_eq_some_iff.mp H
  obtain ⟨t130, A40, H⟩ := H
  replace H : (some (Go.bits .or .u8 t128 t130)) = some r := H
  have A4 := Aside0.mk A40
  clear A40
  obtain rfl := Option.some.inj H
  go_enter Try.func94, Try.ntmps94
  go_wp2_with (first | ((with_reducible refine gate_callee (f := 84) rfl ?_); refine goesL_ (some 4) rfl rfl Try.func84 (by kernel_rfl) rfl #[.int .u8 a0] rfl (by (try simp only [List.map_toArray, List.map_cons, List.map_nil]); first | done | rfl | (simp only [List.length_drop, List.length_take]; rfl)) ?_; (with_reducible refine (pendulumref05_Own.calls a0 t128 _ A2.out).mono ?_); rintro e w' ⟨rfl, ⟨nd, rfl⟩⟩; refine ⟨_, rfl, ?_⟩) | ((with_reducible refine gate_callee (f := 53) rfl ?_); refine goesL_ (some 6) rfl rfl Try.func53 (by kernel_rfl) rfl #[.int .u8 a0] rfl (by (try simp only [List.map_toArray, List.map_cons, List.map_nil]); first | done | rfl | (simp only [List.length_drop, List.length_take]; rfl)) ?_; (with_reducible refine (pendulumref05_Parity.calls k a0 t129 _ A3.out).mono ?_); rintro e w' ⟨rfl, ⟨nd, rfl⟩⟩; refine ⟨_, rfl, ?_⟩) | ((with_reducible refine gate_callee (f := 85) rfl ?_); refine goesL_ (some 7) rfl rfl Try.func85 (by kernel_rfl) rfl #[.int .u8 4, .bool t129] rfl (by (try simp only [List.map_toArray, List.map_cons, List.map_nil]); first | done | rfl | (simp only [List.length_drop, List.length_take]; rfl)) ?_; (with_reducible refine (pendulumref05_Flag.calls 4 t129 t130 _ A4.out).mono ?_); rintro e w' ⟨rfl, ⟨nd, rfl⟩⟩; refine ⟨_, rfl, ?_⟩))
  go_ret
  exact ⟨by first | rfl | (simp; done) | (simp [*]; done), by repeat (first | exact Drawn0.refl _ | apply Drawn0.step)⟩

/-! ### pendulumref05_And: function 43 -/
def pendulumref05_And.f (k : Nat) (a0 : Int) (a1 : Int) : Option (Int × Int) := (pendulumref05_Logic.f k (Go.bits .and .u8 a0 a1)).bind fun t131 => (some (Go.bits .and .u8 a0 a1, Go.bits .or .u8 t131 16))
theorem pendulumref05_And.mono : ∀ a0 a1 k, LeO (pendulumref05_And.f k a0 a1) (pendulumref05_And.f (k + 1) a0 a1) := by
  intro a0 a1 k
  unfold pendulumref05_And.f
  repeat' first
      | (with_reducible exact pendulumref05_Logic.mono _ _)
      | (with_reducible exact LeO.refl _)
      | (with_reducible exact LeO.none _)
      | (with_reducible refine LeO.ite ?_ ?_)
      | (with_reducible refine LeO.bind ?_ (fun _ => ?_))
      | exact pendulumref05_Logic.mono _ _
      | exact LeO.none _
      | refine LeO.ite ?_ ?_
      | refine LeO.bind ?_ (fun _ => ?_)
set_option maxHeartbeats 8000000 in
set_option maxRecDepth 100000 in
theorem pendulumref05_And.calls (k : Nat) (a0 : Int) (a1 : Int) (r1 : Int) (r2 : Int) (w : World) (h : pendulumref05_And.f k a0 a1 = some (r1, r2)) :
    Calls Try.prog 43 #[.int .u8 a0, .int .u8 a1] w fun e w' => e = .returned (.tuple #[.int .u8 r1, .int .u8 r2]) ∧ Drawn0 w w' := by
  have H : ((pendulumref05_Logic.f k (Go.bits .and .u8 a0 a1)).bind fun t131 => (some (Go.bits .and .u8 a0 a1, Go.bits .or .u8 t131 16))) = some (r1, r2) := h
  clear h
  replace H := Option.bind_eq_some_iff.mp H
  obtain ⟨t131, A30, H⟩ := H
  replace H : (some (Go.bits .and .u8 a0 a1, Go.bits .or .u8 t131 16)) = some (r1, r2) := H
  have A3 := Aside0.mk A30
  clear A30
  simp only [Option.some.injEq, Prod.mk.injEq] at H
  obtain ⟨rfl, rfl⟩ := H
  go_enter Try.func43, Try.ntmps43
  go_wp2_with (first | ((with_reducible refine gate_callee (f := 94) rfl ?_); refine goesL_ (some 12) rfl rfl Try.func94 (by kernel_rfl) rfl #[.int .u8 (Go.bits .and .u8 a0 a1)] rfl (by (try simp only [List.map_toArray, List.map_cons, List.map_nil]); first | done | rfl | (simp only [List.length_drop, List.length_take]; rfl)) ?_; (with_reducible refine (pendulumref05_Logic.calls k (Go.bits .and .u8 a0 a1) t131 _ A3.out).mono ?_); rintro e w' ⟨rfl, ⟨nd, rfl⟩⟩; refine ⟨_, rfl, ?_⟩))
  go_ret2
  exact ⟨by first | rfl | (simp; done) | (simp [*]; done), by repeat (first | exact Drawn0.refl _ | apply Drawn0.step)⟩

/-! ### alu_Or: function 44 -/
def alu_Or.f (a0 : Int) (a1 : Int) : Option (Int × Int) := (alu_logic.f (Go.bits .or .u8 a0 a1) 0).bind fun bt132 => (some (bt132.1, bt132.2))
set_option maxHeartbeats 8000000 in
set_option maxRecDepth 100000 in
theorem alu_Or.calls (a0 : Int) (a1 : Int) (r1 : Int) (r2 : Int) (w : World) (h : alu_Or.f a0 a1 = some (r1, r2)) :
    Calls Try.prog 44 #[.int .u8 a0, .int .u8 a1] w fun e w' => e = .returned (.tuple #[.int .u8 r1, .int .u8 r2]) ∧ Drawn0 w w' := by
  have H : ((alu_logic.f (Go.bits .or .u8 a0 a1) 0).bind fun bt132 => (some (bt132.1, bt132.2))) = some (r1, r2) := h
  clear h
  replace H := Option.bind_eq_some_iff.mp H
  obtain ⟨⟨t132, t133⟩, A30, H⟩ := H
  replace H : (some (t132, t133)) = some (r1, r2) := H
  have A3 := Aside0.mk A30
  clear A30
  simp only [Option.some.injEq, Prod.mk.injEq] at H
  obtain ⟨rfl, rfl⟩ := H
  go_enter Try.func44, Try.ntmps44
  go_wp2_with (first | ((with_reducible refine gate_callee (f := 93) rfl ?_); refine goesL_ (some 9) rfl rfl Try.func93 (by kernel_rfl) rfl #[.int .u8 (Go.bits .or .u8 a0 a1), .int .u8 0] rfl (by (try simp only [List.map_toArray, List.map_cons, List.map_nil]); first | done | rfl | (simp only [List.length_drop, List.length_take]; rfl)) ?_; (with_reducible refine (alu_logic.calls (Go.bits .or .u8 a0 a1) 0 t132 t133 _ A3.out).mono ?_); rintro e w' ⟨rfl, ⟨nd, rfl⟩⟩; refine ⟨_, rfl, ?_⟩))
  go_ret2
  exact ⟨by first | rfl | (simp; done) | (simp [*]; done), by repeat (first | exact Drawn0.refl _ | apply Drawn0.step)⟩

/-! ### pendulumref05_Or: function 45 -/
def pendulumref05_Or.f (k : Nat) (a0 : Int) (a1 : Int) : Option (Int × Int) := (pendulumref05_Logic.f k (Go.bits .or .u8 a0 a1)).bind fun t134 => (some (Go.bits .or .u8 a0 a1, t134))
theorem pendulumref05_Or.mono : ∀ a0 a1 k, LeO (pendulumref05_Or.f k a0 a1) (pendulumref05_Or.f (k + 1) a0 a1) := by
  intro a0 a1 k
  unfold pendulumref05_Or.f
  repeat' first
      | (with_reducible exact pendulumref05_Logic.mono _ _)
      | (with_reducible exact LeO.refl _)
      | (with_reducible exact LeO.none _)
      | (with_reducible refine LeO.ite ?_ ?_)
      | (with_reducible refine LeO.bind ?_ (fun _ => ?_))
      | exact pendulumref05_Logic.mono _ _
      | exact LeO.none _
      | refine LeO.ite ?_ ?_
      | refine LeO.bind ?_ (fun _ => ?_)
set_option maxHeartbeats 8000000 in
set_option maxRecDepth 100000 in
theorem pendulumref05_Or.calls (k : Nat) (a0 : Int) (a1 : Int) (r1 : Int) (r2 : Int) (w : World) (h : pendulumref05_Or.f k a0 a1 = some (r1, r2)) :
    Calls Try.prog 45 #[.int .u8 a0, .int .u8 a1] w fun e w' => e = .returned (.tuple #[.int .u8 r1, .int .u8 r2]) ∧ Drawn0 w w' := by
  have H : ((pendulumref05_Logic.f k (Go.bits .or .u8 a0 a1)).bind fun t134 => (some (Go.bits .or .u8 a0 a1, t134))) = some (r1, r2) := h
  clear h
  replace H := Option.bind_eq_some_iff.mp H
  obtain ⟨t134, A30, H⟩ := H
  replace H : (some (Go.bits .or .u8 a0 a1, t134)) = some (r1, r2) := H
  have A3 := Aside0.mk A30
  clear A30
  simp only [Option.some.injEq, Prod.mk.injEq] at H
  obtain ⟨rfl, rfl⟩ := H
  go_enter Try.func45, Try.ntmps45
  go_wp2_with (first | ((with_reducible refine gate_callee (f := 94) rfl ?_); refine goesL_ (some 12) rfl rfl Try.func94 (by kernel_rfl) rfl #[.int .u8 (Go.bits .or .u8 a0 a1)] rfl (by (try simp only [List.map_toArray, List.map_cons, List.map_nil]); first | done | rfl | (simp only [List.length_drop, List.length_take]; rfl)) ?_; (with_reducible refine (pendulumref05_Logic.calls k (Go.bits .or .u8 a0 a1) t134 _ A3.out).mono ?_); rintro e w' ⟨rfl, ⟨nd, rfl⟩⟩; refine ⟨_, rfl, ?_⟩))
  go_ret2
  exact ⟨by first | rfl | (simp; done) | (simp [*]; done), by repeat (first | exact Drawn0.refl _ | apply Drawn0.step)⟩

/-! ### alu_Xor: function 46 -/
def alu_Xor.f (a0 : Int) (a1 : Int) : Option (Int × Int) := (alu_logic.f (Go.bits .xor .u8 a0 a1) 0).bind fun bt135 => (some (bt135.1, bt135.2))
set_option maxHeartbeats 8000000 in
set_option maxRecDepth 100000 in
theorem alu_Xor.calls (a0 : Int) (a1 : Int) (r1 : Int) (r2 : Int) (w : World) (h : alu_Xor.f a0 a1 = some (r1, r2)) :
    Calls Try.prog 46 #[.int .u8 a0, .int .u8 a1] w fun e w' => e = .returned (.tuple #[.int .u8 r1, .int .u8 r2]) ∧ Drawn0 w w' := by
  have H : ((alu_logic.f (Go.bits .xor .u8 a0 a1) 0).bind fun bt135 => (some (bt135.1, bt135.2))) = some (r1, r2) := h
  clear h
  replace H := Option.bind_eq_some_iff.mp H
  obtain ⟨⟨t135, t136⟩, A30, H⟩ := H
  replace H : (some (t135, t136)) = some (r1, r2) := H
  have A3 := Aside0.mk A30
  clear A30
  simp only [Option.some.injEq, Prod.mk.injEq] at H
  obtain ⟨rfl, rfl⟩ := H
  go_enter Try.func46, Try.ntmps46
  go_wp2_with (first | ((with_reducible refine gate_callee (f := 93) rfl ?_); refine goesL_ (some 9) rfl rfl Try.func93 (by kernel_rfl) rfl #[.int .u8 (Go.bits .xor .u8 a0 a1), .int .u8 0] rfl (by (try simp only [List.map_toArray, List.map_cons, List.map_nil]); first | done | rfl | (simp only [List.length_drop, List.length_take]; rfl)) ?_; (with_reducible refine (alu_logic.calls (Go.bits .xor .u8 a0 a1) 0 t135 t136 _ A3.out).mono ?_); rintro e w' ⟨rfl, ⟨nd, rfl⟩⟩; refine ⟨_, rfl, ?_⟩))
  go_ret2
  exact ⟨by first | rfl | (simp; done) | (simp [*]; done), by repeat (first | exact Drawn0.refl _ | apply Drawn0.step)⟩

/-! ### pendulumref05_Xor: function 47 -/
def pendulumref05_Xor.f (k : Nat) (a0 : Int) (a1 : Int) : Option (Int × Int) := (pendulumref05_Logic.f k (Go.bits .xor .u8 a0 a1)).bind fun t137 => (some (Go.bits .xor .u8 a0 a1, t137))
theorem pendulumref05_Xor.mono : ∀ a0 a1 k, LeO (pendulumref05_Xor.f k a0 a1) (pendulumref05_Xor.f (k + 1) a0 a1) := by
  intro a0 a1 k
  unfold pendulumref05_Xor.f
  repeat' first
      | (with_reducible exact pendulumref05_Logic.mono _ _)
      | (with_reducible exact LeO.refl _)
      | (with_reducible exact LeO.none _)
      | (with_reducible refine LeO.ite ?_ ?_)
      | (with_reducible refine LeO.bind ?_ (fun _ => ?_))
      | exact pendulumref05_Logic.mono _ _
      | exact LeO.none _
      | refine LeO.ite ?_ ?_
      | refine LeO.bind ?_ (fun _ => ?_)
set_option maxHeartbeats 8000000 in
set_option maxRecDepth 100000 in
theorem pendulumref05_Xor.calls (k : Nat) (a0 : Int) (a1 : Int) (r1 : Int) (r2 : Int) (w : World) (h : pendulumref05_Xor.f k a0 a1 = some (r1, r2)) :
    Calls Try.prog 47 #[.int .u8 a0, .int .u8 a1] w fun e w' => e = .returned (.tuple #[.int .u8 r1, .int .u8 r2]) ∧ Drawn0 w w' := by
  have H : ((pendulumref05_Logic.f k (Go.bits .xor .u8 a0 a1)).bind fun t137 => (some (Go.bits .xor .u8 a0 a1, t137))) = some (r1, r2) := h
  clear h
  replace H := Option.bind_eq_some_iff.mp H
  obtain ⟨t137, A30, H⟩ := H
  replace H : (some (Go.bits .xor .u8 a0 a1, t137)) = some (r1, r2) := H
  have A3 := Aside0.mk A30
  clear A30
  simp only [Option.some.injEq, Prod.mk.injEq] at H
  obtain ⟨rfl, rfl⟩ := H
  go_enter Try.func47, Try.ntmps47
  go_wp2_with (first | ((with_reducible refine gate_callee (f := 94) rfl ?_); refine goesL_ (some 12) rfl rfl Try.func94 (by kernel_rfl) rfl #[.int .u8 (Go.bits .xor .u8 a0 a1)] rfl (by (try simp only [List.map_toArray, List.map_cons, List.map_nil]); first | done | rfl | (simp only [List.length_drop, List.length_take]; rfl)) ?_; (with_reducible refine (pendulumref05_Logic.calls k (Go.bits .xor .u8 a0 a1) t137 _ A3.out).mono ?_); rintro e w' ⟨rfl, ⟨nd, rfl⟩⟩; refine ⟨_, rfl, ?_⟩))
  go_ret2
  exact ⟨by first | rfl | (simp; done) | (simp [*]; done), by repeat (first | exact Drawn0.refl _ | apply Drawn0.step)⟩

/-! ### alu_Dec: function 48 -/
def alu_Dec.f (a0 : Int) (a1 : Int) : Option (Int × Int) := (alu_Sub.f a0 1 false).bind fun bt138 => (some (bt138.1, Go.bits .or .u8 (Go.bits .andNot .u8 bt138.2 1) (Go.bits .and .u8 a1 1)))
set_option maxHeartbeats 8000000 in
set_option maxRecDepth 100000 in
theorem alu_Dec.calls (a0 : Int) (a1 : Int) (r1 : Int) (r2 : Int) (w : World) (h : alu_Dec.f a0 a1 = some (r1, r2)) :
    Calls Try.prog 48 #[.int .u8 a0, .int .u8 a1] w fun e w' => e = .returned (.tuple #[.int .u8 r1, .int .u8 r2]) ∧ Drawn0 w w' := by
  have H : ((alu_Sub.f a0 1 false).bind fun bt138 => (some (bt138.1, Go.bits .or .u8 (Go.bits .andNot .u8 bt138.2 1) (Go.bits .and .u8 a1 1)))) = some (r1, r2) := h
  clear h
  replace H := Option.bind_eq_some_iff.mp H
  obtain ⟨⟨t138, t139⟩, A30, H⟩ := H
  replace H : (some (t138, Go.bits .or .u8 (Go.bits .andNot .u8 t139 1) (Go.bits .and .u8 a1 1))) = some (r1, r2) := H
  have A3 := Aside0.mk A30
  clear A30
  simp only [Option.some.injEq, Prod.mk.injEq] at H
  obtain ⟨rfl, rfl⟩ := H
  go_enter Try.func48, Try.ntmps48
  go_wp2_with (first | ((with_reducible refine gate_callee (f := 38) rfl ?_); refine goesL_ (some 8) rfl rfl Try.func38 (by kernel_rfl) rfl #[.int .u8 a0, .int .u8 1, .bool false] rfl (by (try simp only [List.map_toArray, List.map_cons, List.map_nil]); first | done | rfl | (simp only [List.length_drop, List.length_take]; rfl)) ?_; (with_reducible refine (alu_Sub.calls a0 1 false t138 t139 _ A3.out).mono ?_); rintro e w' ⟨rfl, ⟨nd, rfl⟩⟩; refine ⟨_, rfl, ?_⟩))
  go_ret2
  exact ⟨by first | rfl | (simp; done) | (simp [*]; done), by repeat (first | exact Drawn0.refl _ | apply Drawn0.step)⟩

/-! ### pendulumref05_one: function 82 -/
def pendulumref05_one.f (a0 : Bool) : Option (Int) := if a0 = true then (some 1) else (some 0)
set_option maxHeartbeats 8000000 in
set_option maxRecDepth 100000 in
theorem pendulumref05_one.calls (a0 : Bool) (r : Int) (w : World) (h : pendulumref05_one.f a0 = some r) :
    Calls Try.prog 82 #[.bool a0] w fun e w' => e = .returned (.int .i64 r) ∧ Drawn0 w w' := by
  have H : (if a0 = true then (some 1) else (some 0)) = some r := h
  clear h
  by_cases c2 : a0 = true
  · subst c2
    have H1 : (some 1) = some r := by rw [if_pos rfl] at H; exact H
    clear H
    have H := H1
    clear H1
    obtain rfl := Option.some.inj H
    go_enter Try.func82, Try.ntmps82
    go_wp2
    go_ret
    exact ⟨by first | rfl | (simp; done) | (simp [*]; done), by repeat (first | exact Drawn0.refl _ | apply Drawn0.step)⟩
  · replace c2 := Bool.eq_false_iff.mpr c2
    subst c2
    have H1 : (some 0) = some r := by rw [if_neg (show ¬ (false = true) by decide)] at H; exact H
    clear H
    have H := H1
    clear H1
    obtain rfl := Option.some.inj H
    go_enter Try.func82, Try.ntmps82
    go_wp2
    go_ret
    exact ⟨by first | rfl | (simp; done) | (simp [*]; done), by repeat (first | exact Drawn0.refl _ | apply Drawn0.step)⟩

/-! ### pendulumref05_signed: function 83 -/
def pendulumref05_signed.f (a0 : Int) : Option (Int) := if a0 ≥ 128 then (some (wrap64 ((wrap64 (a0)) - 256))) else (some (wrap64 (a0)))
set_option maxHeartbeats 8000000 in
set_option maxRecDepth 100000 in
theorem pendulumref05_signed.calls (a0 : Int) (r : Int) (w : World) (h : pendulumref05_signed.f a0 = some r) :
    Calls Try.prog 83 #[.int .u8 a0] w fun e w' => e = .returned (.int .i64 r) ∧ Drawn0 w w' := by
  have H : (if a0 ≥ 128 then (some (wrap64 ((wrap64 (a0)) - 256))) else (some (wrap64 (a0)))) = some r := h
  clear h
  by_cases c2 : a0 ≥ 128
  · rw [if_pos c2] at H
    have c2b0 : decide (128 ≤ a0) = true := decide_eq_true c2
    clear c2
    obtain rfl := Option.some.inj H
    go_enter Try.func83, Try.ntmps83
    go_wp2
    go_ret
    exact ⟨by first | rfl | (simp; done) | (simp [*]; done), by repeat (first | exact Drawn0.refl _ | apply Drawn0.step)⟩
  · rw [if_neg c2] at H
    have c2b0 : decide (128 ≤ a0) = false := decide_eq_false c2
    clear c2
    obtain rfl := Option.some.inj H
    go_enter Try.func83, Try.ntmps83
    go_wp2
    go_ret
    exact ⟨by first | rfl | (simp; done) | (simp [*]; done), by repeat (first | exact Drawn0.refl _ | apply Drawn0.step)⟩

/-! ### pendulumref05_Sub: function 23 -/
def pendulumref05_Sub.f (a0 : Int) (a1 : Int) (a2 : Bool) : Option (Int × Int) := (pendulumref05_one.f a2).bind fun t140 => ((pendulumref05_signed.f a0).bind fun t141 => ((pendulumref05_signed.f a1).bind fun t142 => ((pendulumref05_Own.f ((wrap64 ((wrap64 ((wrap64 (a0)) - (wrap64 (a1)))) - t140)) % 256)).bind fun t143 => ((pendulumref05_Flag.f 1 (decide ((wrap64 ((wrap64 ((wrap64 (a0)) - (wrap64 (a1)))) - t140)) < 0))).bind fun t144 => ((pendulumref05_Flag.f 16 (decide ((wrap64 ((wrap64 ((wrap64 (Int.tmod a0 16)) - (wrap64 (Int.tmod a1 16)))) - t140)) < 0))).bind fun t145 => (if (wrap64 ((wrap64 (t141 - t142)) - t140)) < (-128) then ((pendulumref05_Flag.f 4 true).bind fun t146 => (some ((wrap64 ((wrap64 ((wrap64 (a0)) - (wrap64 (a1)))) - t140)) % 256, Go.bits .or .u8 (Go.bits .or .u8 (Go.bits .or .u8 (Go.bits .or .u8 t143 t144) t145) t146) 2))) else ((pendulumref05_Flag.f 4 (decide ((wrap64 ((wrap64 (t141 - t142)) - t140)) > 127))).bind fun t147 => (some ((wrap64 ((wrap64 ((wrap64 (a0)) - (wrap64 (a1)))) - t140)) % 256, Go.bits .or .u8 (Go.bits .or .u8 (Go.bits .or .u8 (Go.bits .or .u8 t143 t144) t145) t147) 2)))))))))
set_option maxHeartbeats 8000000 in
set_option maxRecDepth 100000 in
theorem pendulumref05_Sub.calls (a0 : Int) (a1 : Int) (a2 : Bool) (r1 : Int) (r2 : Int) (w : World) (h : pendulumref05_Sub.f a0 a1 a2 = some (r1, r2)) :
    Calls Try.prog 23 #[.int .u8 a0, .int .u8 a1, .bool a2] w fun e w' => e = .returned (.tuple #[.int .u8 r1, .int .u8 r2]) ∧ Drawn0 w w' := by
  have H : ((pendulumref05_one.f a2).bind fun t140 => ((pendulumref05_signed.f a0).bind fun t141 => ((pendulumref05_signed.f a1).bind fun t142 => ((pendulumref05_Own.f ((wrap64 ((wrap64 ((wrap64 (a0)) - (wrap64 (a1)))) - t140)) % 256)).bind fun t143 => ((pendulumref05_Flag.f 1 (decide ((wrap64 ((wrap64 ((wrap64 (a0)) - (wrap64 (a1)))) - t140)) < 0))).bind fun t144 => ((pendulumref05_Flag.f 16 (decide ((wrap64 ((wrap64 ((wrap64 (Int.tmod a0 16)) - (wrap64 (Int.tmod a1 16)))) - t140)) < 0))).bind fun t145 => (if (wrap64 ((wrap64 (t141 - t142)) - t140)) < (-128) then ((pendulumref05_Flag.f 4 true).bind fun t146 => (some ((wrap64 ((wrap64 ((wrap64 (a0)) - (wrap64 (a1)))) - t140)) % 256, Go.bits .or .u8 (Go.bits .or .u8 (Go.bits .or .u8 (Go.bits .or .u8 t143 t144) t145) t146) 2))) else ((pendulumref05_Flag.f 4 (decide ((wrap64 ((wrap64 (t141 - t142)) - t140)) > 127))).bind fun t147 => (some ((wrap64 ((wrap64 ((wrap64 (a0)) - (wrap64 (a1)))) - t140)) % 256, Go.bits .or .u8 (Go.bits .or .u8 (Go.bits .or .u8 (Go.bits .or .u8 t143 t144) t145) t147) 2)))))))))) = some (r1, r2) := h
  clear h
  replace H := Option.bind_eq_some_iff.mp H
  obtain ⟨t140, A40, H⟩ := H
  replace H : ((pendulumref05_signed.f a0).bind fun t141 => ((pendulumref05_signed.f a1).bind fun t142 => ((pendulumref05_Own.f ((wrap64 ((wrap64 ((wrap64 (a0)) - (wrap64 (a1)))) - t140)) % 256)).bind fun t143 => ((pendulumref05_Flag.f 1 (decide ((wrap64 ((wrap64 ((wrap64 (a0)) - (wrap64 (a1)))) - t140)) < 0))).bind fun t144 => ((pendulumref05_Flag.f 16 (decide ((wrap64 ((wrap64 ((wrap64 (Int.tmod a0 16)) - (wrap64 (Int.tmod a1 16)))) - t140)) < 0))).bind fun t145 => (if (wrap64 ((wrap64 (t141 - t142)) - t140)) < (-128) then ((pendulumref05_Flag.f 4 true).bind fun t146 => (some ((wrap64 ((wrap64 ((wrap64 (a0)) - (wrap64 (a1)))) - t140)) % 256, Go.bits .or .u8 (Go.bits .or .u8 (Go.bits .or .u8 (Go.bits .or .u8 t143 t144) t145) t146) 2))) else ((pendulumref05_Flag.f 4 (decide ((wrap64 ((wrap64 (t141 - t142)) - t140)) > 127))).bind fun t147 => (some ((wrap64 ((wrap64 ((wrap64 (a0)) - (wrap64 (a1)))) - t140)) % 256, Go.bits .or .u8 (Go.bits .or .u8 (Go.bits .or .u8 (Go.bits .or .u8 t143 t144) t145) t147) 2))))))))) = some (r1, r2) := H
  have A4 := Aside0.mk A40
  clear A40
  replace H := Option.bind_eq_some_iff.mp H
  obtain ⟨t141, A50, H⟩ := H
  replace H : ((pendulumref05_signed.f a1).bind fun t142 => ((pendulumref05_Own.f ((wrap64 ((wrap64 ((wrap64 (a0)) - (wrap64 (a1)))) - t140)) % 256)).bind fun t143 => ((pendulumref05_Flag.f 1 (decide ((wrap64 ((wrap64 ((wrap64 (a0)) - (wrap64 (a1)))) - t140)) < 0))).bind fun t144 => ((pendulumref05_Flag.f 16 (decide ((wrap64 ((wrap64 ((wrap64 (Int.tmod a0 16)) - (wrap64 (Int.tmod a1 16)))) - t140)) < 0))).bind fun t145 => (if (wrap64 ((wrap64 (t141 - t142)) - t140)) < (-128) then ((pendulumref05_Flag.f 4 true).bind fun t146 => (some ((wrap64 ((wrap64 ((wrap64 (a0)) - (wrap64 (a1)))) - t140)) % 256, Go.bits .or .u8 (Go.bits .or .u8 (Go.bits .or .u8 (Go.bits .or .u8 t143 t144) t145) t146) 2))) else ((pendulumref05_Flag.f 4 (decide ((wrap64 ((wrap64 (t141 - t142)) - t140)) > 127))).bind fun t147 => (some ((wrap64 ((wrap64 ((wrap64 (a0)) - (wrap64 (a1)))) - t140)) % 256, Go.bits .or .u8 (Go.bits .or .u8 (Go.bits .or .u8 (Go.bits .or .u8 t143 t144) t145) t147) 2)))))))) = some (r1, r2) := H
  have A5 := Aside0.mk A50
  clear A50
  replace H := Option.bind_eq_some_iff.mp H
  obtain ⟨t142, A60, H⟩ := H
  replace H : ((pendulumref05_Own.f ((wrap64 ((wrap64 ((wrap64 (a0)) - (wrap64 (a1)))) - t140)) % 256)).bind fun t143 => ((pendulumref05_Flag.f 1 (decide ((wrap64 ((wrap64 ((wrap64 (a0)) - (wrap64 (a1)))) - t140)) < 0))).bind fun t144 => ((pendulumref05_Flag.f 16 (decide ((wrap64 ((wrap64 ((wrap64 (Int.tmod a0 16)) - (wrap64 (Int.tmod a1 16)))) - t140)) < 0))).bind fun t145 => (if (wrap64 ((wrap64 (t141 - t142)) - t140)) < (-128) then ((pendulumref05_Flag.f 4 true).bind fun t146 => (some ((wrap64 ((wrap64 ((wrap64 (a0)) - (wrap64 (a1)))) - t140)) % 256, Go.bits .or .u8 (Go.bits .or .u8 (Go.bits .or .u8 (Go.bits .or .u8 t143 t144) t145) t146) 2))) else ((pendulumref05_Flag.f 4 (decide ((wrap64 ((wrap64 (t141 - t142)) - t140)) > 127))).bind fun t147 => (some ((wrap64 ((wrap64 ((wrap64 (a0)) - (wrap64 (a1)))) - t140)) % 256, Go.bits .or .u8 (Go.bits .or .u8 (Go.bits .or .u8 (Go.bits .or .u8 t143 t144) t145) t147) 2))))))) = some (r1, r2) := H
  have A6 := Aside0.mk A60
  clear A60
  replace H := Option.bind_eq_some_iff.mp H
  obtain ⟨t143, A70, H⟩ := H
  replace H : ((pendulumref05_Flag.f 1 (decide ((wrap64 ((wrap64 ((wrap64 (a0)) - (wrap64 (a1)))) - t140)) < 0))).bind fun t144 => ((pendulumref05_Flag.f 16 (decide ((wrap64 ((wrap64 ((wrap64 (Int.tmod a0 16)) - (wrap64 (Int.tmod a1 16)))) - t140)) < 0))).bind fun t145 => (if (wrap64 ((wrap64 (t141 - t142)) - t140)) < (-128) then ((pendulumref05_Flag.f 4 true).bind fun t146 => (some ((wrap64 ((wrap64 ((wrap64 (a0)) - (wrap64 (a1)))) - t140)) % 256, Go.bits .or .u8 (Go.bits .or .u8 (Go.bits .or .u8 (Go.bits .or .u8 t143 t144) t145) t146) 2))) else ((pendulumref05_Flag.f 4 (decide ((wrap64 ((wrap64 (t141 - t142)) - t140)) > 127))).bind fun t147 => (some ((wrap64 ((wrap64 ((wrap64 (a0)) - (wrap64 (a1)))) - t140)) % 256, Go.bits .or .u8 (Go.bits .or .u8 (Go.bits .or .u8 (Go.bits .or .u8 t143 t144) t145) t147) 2)))))) = some (r1, r2) := H
  have A7 := Aside0.mk A70
  clear A70
  replace H := Option.bind_eq_some_iff.mp H
  obtain ⟨t144, A80, H⟩ := H
  replace H : ((pendulumref05_Flag.f 16 (decide ((wrap64 ((wrap64 ((wrap64 (Int.tmod a0 16)) - (wrap64 (Int.tmod a1 16)))) - t140)) < 0))).bind fun t145 => (if (wrap64 ((wrap64 (t141 - t142)) - t140)) < (-128) then ((pendulumref05_Flag.f 4 true).bind fun t146 => (some ((wrap64 ((wrap64 ((wrap64 (a0)) - (wrap64 (a1)))) - t140)) % 256, Go.bits .or .u8 (Go.bits .or .u8 (Go.bits .or .u8 (Go.bits .or .u8 t143 t144) t145) t146) 2))) else ((pendulumref05_Flag.f 4 (decide ((wrap64 ((wrap64 (t141 - t142)) - t140)) > 127))).bind fun t147 => (some ((wrap64 ((wrap64 ((wrap64 (a0)) - (wrap64 (a1)))) - t140)) % 256, Go.bits .or .u8 (Go.bits .or .u8 (Go.bits .or .u8 (Go.bits .or .u8 t143 t144) t145) t147) 2))))) = some (r1, r2) := H
  have A8 := Aside0.mk A80
  clear A80
  replace H := Option.bind_eq_some_iff.mp H
  obtain ⟨t145, A90, H⟩ := H
  replace H : (if (wrap64 ((wrap64 (t141 - t142)) - t140)) < (-128) then ((pendulumref05_Flag.f 4 true).bind fun t146 => (some ((wrap64 ((wrap64 ((wrap64 (a0)) - (wrap64 (a1)))) - t140)) % 256, Go.bits .or .u8 (Go.bits .or .u8 (Go.bits .or .u8 (Go.bits .or .u8 t143 t144) t145) t146) 2))) else ((pendulumref05_Flag.f 4 (decide ((wrap64 ((wrap64 (t141 - t142)) - t140)) > 127))).bind fun t147 => (some ((wrap64 ((wrap64 ((wrap64 (a0)) - (wrap64 (a1)))) - t140)) % 256, Go.bits .or .u8 (Go.bits .or .u8 (Go.bits .or .u8 (Go.bits .or .u8 t143 t144) t145) t147) 2)))) = some (r1, r2) := H
  have A9 := Aside0.mk A90
  clear A90
  by_cases c10 : (wrap64 ((wrap64 (t141 - t142)) - t140)) < (-128)
  · rw [if_pos c10] at H
    have c10b0 : decide ((wrap64 ((wrap64 (t141 - t142)) - t140)) < (-128)) = true := decide_eq_true c10
    clear c10
    replace H := Option.bind_eq_some_iff.mp H
    obtain ⟨t146, A110, H⟩ := H
    replace H : (some ((wrap64 ((wrap64 ((wrap64 (a0)) - (wrap64 (a1)))) - t140)) % 256, Go.bits .or .u8 (Go.bits .or .u8 (Go.bits .or .u8 (Go.bits .or .u8 t143 t144) t145) t146) 2)) = some (r1, r2) := H
    have A11 := Aside0.mk A110
    clear A110
    simp only [Option.some.injEq, Prod.mk.injEq] at H
    obtain ⟨rfl, rfl⟩ := H
    go_enter Try.func23, Try.ntmps23
    go_wp2_with (first | ((with_reducible refine gate_callee (f := 82) rfl ?_); refine goesL_ (some 13) rfl rfl Try.func82 (by kernel_rfl) rfl #[.bool a2] rfl (by (try simp only [List.map_toArray, List.map_cons, List.map_nil]); first | done | rfl | (simp only [List.length_drop, List.length_take]; rfl)) ?_; (with_reducible refine (pendulumref05_one.calls a2 t140 _ A4.out).mono ?_); rintro e w' ⟨rfl, ⟨nd, rfl⟩⟩; refine ⟨_, rfl, ?_⟩) | ((with_reducible refine gate_callee (f := 83) rfl ?_); refine goesL_ (some 22) rfl rfl Try.func83 (by kernel_rfl) rfl #[.int .u8 a0] rfl (by (try simp only [List.map_toArray, List.map_cons, List.map_nil]); first | done | rfl | (simp only [List.length_drop, List.length_take]; rfl)) ?_; (with_reducible refine (pendulumref05_signed.calls a0 t141 _ A5.out).mono ?_); rintro e w' ⟨rfl, ⟨nd, rfl⟩⟩; refine ⟨_, rfl, ?_⟩) | ((with_reducible refine gate_callee (f := 83) rfl ?_); refine goesL_ (some 24) rfl rfl Try.func83 (by kernel_rfl) rfl #[.int .u8 a1] rfl (by (try simp only [List.map_toArray, List.map_cons, List.map_nil]); first | done | rfl | (simp only [List.length_drop, List.length_take]; rfl)) ?_; (with_reducible refine (pendulumref05_signed.calls a1 t142 _ A6.out).mono ?_); rintro e w' ⟨rfl, ⟨nd, rfl⟩⟩; refine ⟨_, rfl, ?_⟩) | ((with_reducible refine gate_callee (f := 84) rfl ?_); refine goesL_ (some 32) rfl rfl Try.func84 (by kernel_rfl) rfl #[.int .u8 ((wrap64 ((wrap64 ((wrap64 (a0)) - (wrap64 (a1)))) - t140)) % 256)] rfl (by (try simp only [List.map_toArray, List.map_cons, List.map_nil]); first | done | rfl | (simp only [List.length_drop, List.length_take]; rfl)) ?_; (with_reducible refine (pendulumref05_Own.calls ((wrap64 ((wrap64 ((wrap64 (a0)) - (wrap64 (a1)))) - t140)) % 256) t143 _ A7.out).mono ?_); rintro e w' ⟨rfl, ⟨nd, rfl⟩⟩; refine ⟨_, rfl, ?_⟩) | ((with_reducible refine gate_callee (f := 85) rfl ?_); refine goesL_ (some 35) rfl rfl Try.func85 (by kernel_rfl) rfl #[.int .u8 1, .bool (decide ((wrap64 ((wrap64 ((wrap64 (a0)) - (wrap64 (a1)))) - t140)) < 0))] rfl (by (try simp only [List.map_toArray, List.map_cons, List.map_nil]); first | done | rfl | (simp only [List.length_drop, List.length_take]; rfl)) ?_; (with_reducible refine (pendulumref05_Flag.calls 1 (decide ((wrap64 ((wrap64 ((wrap64 (a0)) - (wrap64 (a1)))) - t140)) < 0)) t144 _ A8.out).mono ?_); rintro e w' ⟨rfl, ⟨nd, rfl⟩⟩; refine ⟨_, rfl, ?_⟩) | ((with_reducible refine gate_callee (f := 85) rfl ?_); refine goesL_ (some 47) rfl rfl Try.func85 (by kernel_rfl) rfl #[.int .u8 16, .bool (decide ((wrap64 ((wrap64 ((wrap64 (Int.tmod a0 16)) - (wrap64 (Int.tmod a1 16)))) - t140)) < 0))] rfl (by (try simp only [List.map_toArray, List.map_cons, List.map_nil]); first | done | rfl | (simp only [List.length_drop, List.length_take]; rfl)) ?_; (with_reducible refine (pendulumref05_Flag.calls 16 (decide ((wrap64 ((wrap64 ((wrap64 (Int.tmod a0 16)) - (wrap64 (Int.tmod a1 16)))) - t140)) < 0)) t145 _ A9.out).mono ?_); rintro e w' ⟨rfl, ⟨nd, rfl⟩⟩; refine ⟨_, rfl, ?_⟩) | ((with_reducible refine gate_callee (f := 85) rfl ?_); refine goesL_ (some 55) rfl rfl Try.func85 (by kernel_rfl) rfl #[.int .u8 4, .bool true] rfl (by (try simp only [List.map_toArray, List.map_cons, List.map_nil]); first | done | rfl | (simp only [List.length_drop, List.length_take]; rfl)) ?_; (with_reducible refine (pendulumref05_Flag.calls 4 true t146 _ A11.out).mono ?_); rintro e w' ⟨rfl, ⟨nd, rfl⟩⟩; refine ⟨_, rfl, ?_⟩))
    go_ret2
    exact ⟨by first | rfl | (simp; done) | (simp [*]; done), by repeat (first | exact Drawn0.refl _ | apply Drawn0.step)⟩
  · rw [if_neg c10] at H
    have c10b0 : decide ((wrap64 ((wrap64 (t141 - t142)) - t140)) < (-128)) = false := decide_eq_false c10
    clear c10
    replace H := Option.bind_eq_some_iff.mp H
    obtain ⟨t147, A120, H⟩ := H
    replace H : (some ((wrap64 ((wrap64 ((wrap64 (a0)) - (wrap64 (a1)))) - t140)) % 256, Go.bits .or .u8 (Go.bits .or .u8 (Go.bits .or .u8 (Go.bits .or .u8 t143 t144) t145) t147) 2)) = some (r1, r2) := H
    have A12 := Aside0.mk A120
    clear A120
    simp only [Option.some.injEq, Prod.mk.injEq] at H
    obtain ⟨rfl, rfl⟩ := H
    go_enter Try.func23, Try.ntmps23
    go_wp2_with (first | ((with_reducible refine gate_callee (f := 82) rfl ?_); refine goesL_ (some 13) rfl rfl Try.func82 (by kernel_rfl) rfl #[.bool a2] rfl (by (try simp only [List.map_toArray, List.map_cons, List.map_nil]); first | done | rfl | (simp only [List.length_drop, List.length_take]; rfl)) ?_; (with_reducible refine (pendulumref05_one.calls a2 t140 _ A4.out).mono ?_); rintro e w' ⟨rfl, ⟨nd, rfl⟩⟩; refine ⟨_, rfl, ?_⟩) | ((with_reducible refine gate_callee (f := 83) rfl ?_); refine goesL_ (some 22) rfl rfl Try.func83 (by kernel_rfl) rfl #[.int .u8 a0] rfl (by (try simp only [List.map_toArray, List.map_cons, List.map_nil]); first | done | rfl | (simp only [List.length_drop, List.length_take]; rfl)) ?_; (with_reducible refine (pendulumref05_signed.calls a0 t141 _ A5.out).mono ?_); rintro e w' ⟨rfl, ⟨nd, rfl⟩⟩; refine ⟨_, rfl, ?_⟩) | ((with_reducible refine gate_callee (f := 83) rfl ?_); refine goesL_ (some 24) rfl rfl Try.func83 (by kernel_rfl) rfl #[.int .u8 a1] rfl (by (try simp only [List.map_toArray, List.map_cons, List.map_nil]); first | done | rfl | (simp only [List.length_drop, List.length_take]; rfl)) ?_; (with_reducible refine (pendulumref05_signed.calls a1 t142 _ A6.out).mono ?_); rintro e w' ⟨rfl, ⟨nd, rfl⟩⟩; refine ⟨_, rfl, ?_⟩) | ((with_reducible refine gate_callee (f := 84) rfl ?_); refine goesL_ (some 32) rfl rfl Try.func84 (by kernel_rfl) rfl #[.int .u8 ((wrap64 ((wrap64 ((wrap64 (a0)) - (wrap64 (a1)))) - t140)) % 256)] rfl (by (try simp only [List.map_toArray, List.map_cons, List.map_nil]); first | done | rfl | (simp only [List.length_drop, List.length_take]; rfl)) ?_; (with_reducible refine (pendulumref05_Own.calls ((wrap64 ((wrap64 ((wrap64 (a0)) - (wrap64 (a1)))) - t140)) % 256) t143 _ A7.out).mono ?_); rintro e w' ⟨rfl, ⟨nd, rfl⟩⟩; refine ⟨_, rfl, ?_⟩) | ((with_reducible refine gate_callee (f := 85) rfl ?_); refine goesL_ (some 35) rfl rfl Try.func85 (by kernel_rfl) rfl #[.int .u8 1, .bool (decide ((wrap64 ((wrap64 ((wrap64 (a0)) - (wrap64 (a1)))) - t140)) < 0))] rfl (by (try simp only [List.map_toArray, List.map_cons, List.map_nil]); first | done | rfl | (simp only [List.length_drop, List.length_take]; rfl)) ?_; (with_reducible refine (pendulumref05_Flag.calls 1 (decide ((wrap64 ((wrap64 ((wrap64 (a0)) - (wrap64 (a1)))) - t140)) < 0)) t144 _ A8.out).mono ?_); rintro e w' ⟨rfl, ⟨nd, rfl⟩⟩; refine ⟨_, rfl, ?_⟩) | ((with_reducible refine gate_callee (f := 85) rfl ?_); refine goesL_ (some 47) rfl rfl Try.func85 (by kernel_rfl) rfl #[.int .u8 16, .bool (decide ((wrap64 ((wrap64 ((wrap64 (Int.tmod a0 16)) - (wrap64 (Int.tmod a1 16)))) - t140)) < 0))] rfl (by (try simp only [List.map_toArray, List.map_cons, List.map_nil]); first | done | rfl | (simp only [List.length_drop, List.length_take]; rfl)) ?_; (with_reducible refine (pendulumref05_Flag.calls 16 (decide ((wrap64 ((wrap64 ((wrap64 (Int.tmod a0 16)) - (wrap64 (Int.tmod a1 16)))) - t140)) < 0)) t145 _ A9.out).mono ?_); rintro e w' ⟨rfl, ⟨nd, rfl⟩⟩; refine ⟨_, rfl, ?_⟩) | ((with_reducible refine gate_callee (f := 85) rfl ?_); refine goesL_ (some 55) rfl rfl Try.func85 (by kernel_rfl) rfl #[.int .u8 4, .bool (decide ((wrap64 ((wrap64 (t141 - t142)) - t140)) > 127))] rfl (by (try simp only [List.map_toArray, List.map_cons, List.map_nil]); first | done | rfl | (simp only [List.length_drop, List.length_take]; rfl)) ?_; (with_reducible refine (pendulumref05_Flag.calls 4 (decide ((wrap64 ((wrap64 (t141 - t142)) - t140)) > 127)) t147 _ A12.out).mono ?_); rintro e w' ⟨rfl, ⟨nd, rfl⟩⟩; refine ⟨_, rfl, ?_⟩))
    go_ret2
    exact ⟨by first | rfl | (simp; done) | (simp [*]; done), by repeat (first | exact Drawn0.refl _ | apply Drawn0.step)⟩

/-! ### pendulumref05_Dec: function 49 -/
def pendulumref05_Dec.f (a0 : Int) (a1 : Int) : Option (Int × Int) := (pendulumref05_Sub.f a0 1 false).bind fun bt148 => (some (bt148.1, Go.bits .or .u8 (Go.bits .andNot .u8 bt148.2 1) (Go.bits .and .u8 a1 1)))
set_option maxHeartbeats 8000000 in
set_option maxRecDepth 100000 in
theorem pendulumref05_Dec.calls (a0 : Int) (a1 : Int) (r1 : Int) (r2 : Int) (w : World) (h : pendulumref05_Dec.f a0 a1 = some (r1, r2)) :
    Calls Try.prog 49 #[.int .u8 a0, .int .u8 a1] w fun e w' => e = .returned (.tuple #[.int .u8 r1, .int .u8 r2]) ∧ Drawn0 w w' := by
  have H : ((pendulumref05_Sub.f a0 1 false).bind fun bt148 => (some (bt148.1, Go.bits .or .u8 (Go.bits .andNot .u8 bt148.2 1) (Go.bits .and .u8 a1 1)))) = some (r1, r2) := h
  clear h
  replace H := Option.bind_eq_some_iff.mp H
  obtain ⟨⟨t148, t149⟩, A30, H⟩ := H
  replace H : (some (t148, Go.bits .or .u8 (Go.bits .andNot .u8 t149 1) (Go.bits .and .u8 a1 1))) = some (r1, r2) := H
  have A3 := Aside0.mk A30
  clear A30
  simp only [Option.some.injEq, Prod.mk.injEq] at H
  obtain ⟨rfl, rfl⟩ := H
  go_enter Try.func49, Try.ntmps49
  go_wp2_with (first | ((with_reducible refine gate_callee (f := 23) rfl ?_); refine goesL_ (some 10) rfl rfl Try.func23 (by kernel_rfl) rfl #[.int .u8 a0, .int .u8 1, .bool false] rfl (by (try simp only [List.map_toArray, List.map_cons, List.map_nil]); first | done | rfl | (simp only [List.length_drop, List.length_take]; rfl)) ?_; (with_reducible refine (pendulumref05_Sub.calls a0 1 false t148 t149 _ A3.out).mono ?_); rintro e w' ⟨rfl, ⟨nd, rfl⟩⟩; refine ⟨_, rfl, ?_⟩))
  go_ret2
  exact ⟨by first | rfl | (simp; done) | (simp [*]; done), by repeat (first | exact Drawn0.refl _ | apply Drawn0.step)⟩

/-! ### pendulumref05_Neg: function 50 -/
def pendulumref05_Neg.f (a0 : Int) : Option (Int × Int) := (pendulumref05_Sub.f 0 a0 false).bind fun bt150 => (some (bt150.1, bt150.2))
set_option maxHeartbeats 8000000 in
set_option maxRecDepth 100000 in
theorem pendulumref05_Neg.calls (a0 : Int) (r1 : Int) (r2 : Int) (w : World) (h : pendulumref05_Neg.f a0 = some (r1, r2)) :
    Calls Try.prog 50 #[.int .u8 a0] w fun e w' => e = .returned (.tuple #[.int .u8 r1, .int .u8 r2]) ∧ Drawn0 w w' := by
  have H : ((pendulumref05_Sub.f 0 a0 false).bind fun bt150 => (some (bt150.1, bt150.2))) = some (r1, r2) := h
  clear h
  replace H := Option.bind_eq_some_iff.mp H
  obtain ⟨⟨t150, t151⟩, A20, H⟩ := H
  replace H : (some (t150, t151)) = some (r1, r2) := H
  have A2 := Aside0.mk A20
  clear A20
  simp only [Option.some.injEq, Prod.mk.injEq] at H
  obtain ⟨rfl, rfl⟩ := H
  go_enter Try.func50, Try.ntmps50
  go_wp2_with (first | ((with_reducible refine gate_callee (f := 23) rfl ?_); refine goesL_ (some 5) rfl rfl Try.func23 (by kernel_rfl) rfl #[.int .u8 0, .int .u8 a0, .bool false] rfl (by (try simp only [List.map_toArray, List.map_cons, List.map_nil]); first | done | rfl | (simp only [List.length_drop, List.length_take]; rfl)) ?_; (with_reducible refine (pendulumref05_Sub.calls 0 a0 false t150 t151 _ A2.out).mono ?_); rintro e w' ⟨rfl, ⟨nd, rfl⟩⟩; refine ⟨_, rfl, ?_⟩))
  go_ret2
  exact ⟨by first | rfl | (simp; done) | (simp [*]; done), by repeat (first | exact Drawn0.refl _ | apply Drawn0.step)⟩

end Go.Proofs.Ytpmmneipfmbmlaa.HAluLogic
