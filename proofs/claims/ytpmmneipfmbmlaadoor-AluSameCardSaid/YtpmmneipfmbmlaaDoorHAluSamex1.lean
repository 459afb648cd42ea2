-- Written by a program of this session out of Lean's print of the program (after the form of the kit's print.sh, with own turns); Lean checks it.
import Derived.Test.YtpmmneipfmbmlaaDoorHAluSamex0
namespace Go.Proofs.YtpmmneipfmbmlaaDoor.HAluSame
open Go.RowKit Go.Proofs.YtpmmneipfmbmlaaDoorW.PrintWords Go.Proofs.YtpmmneipfmbmlaaDoorW.PrintLast Go.Proofs.YtpmmneipfmbmlaaDoorW.PrintMore
attribute [local go_sem] max2_int min2_int max_two min_two max_three min_three max_four min_four   -- for this text's walks alone
set_option linter.unusedVariables false
set_option linter.unusedSimpArgs false

/-! ### alu_Own: function 12 -/
def alu_Own.f (a0 : Int) : Option (Int) := if a0 = 0 then (some (Go.bits .or .u8 (Go.bits .and .u8 a0 168) 64)) else (some (Go.bits .and .u8 a0 168))
set_option maxHeartbeats 8000000 in
set_option maxRecDepth 100000 in
theorem alu_Own.calls (a0 : Int) (r : Int) (w : World) (h : alu_Own.f a0 = some r) :
    Calls Tryd.prog 12 #[.int .u8 a0] w fun e w' => e = .returned (.int .u8 r) ∧ Drawn0 w w' := by
  have H : (if a0 = 0 then (some (Go.bits .or .u8 (Go.bits .and .u8 a0 168) 64)) else (some (Go.bits .and .u8 a0 168))) = some r := h
  clear h
  by_cases c2 : a0 = 0
  · rw [if_pos c2] at H
    have c2b0 : (a0 == 0) = true := beq_iff_eq.mpr c2
    have c2b1 : (a0 != 0) = false := bne_eq_false_iff_eq.mpr c2
    clear c2
    obtain rfl := Option.some.inj H
    go_enter Tryd.func12, Tryd.ntmps12
    go_wp2
    go_ret
    exact ⟨by first | rfl | (simp; done) | (simp [*]; done), by repeat (first | exact Drawn0.refl _ | apply Drawn0.step)⟩
  · rw [if_neg c2] at H
    have c2b0 : (a0 == 0) = false := beq_eq_false_iff_ne.mpr c2
    have c2b1 : (a0 != 0) = true := bne_iff_ne.mpr c2
    obtain rfl := Option.some.inj H
    go_enter Tryd.func12, Tryd.ntmps12
    go_wp2
    go_ret
    exact ⟨by first | rfl | (simp; done) | (simp [*]; done), by repeat (first | exact Drawn0.refl _ | apply Drawn0.step)⟩

/-! ### alu_if1: function 24 -/
def alu_if1.f (a0 : Bool) (a1 : Int) : Option (Int) := if a0 = true then (some a1) else (some 0)
set_option maxHeartbeats 8000000 in
set_option maxRecDepth 100000 in
theorem alu_if1.calls (a0 : Bool) (a1 : Int) (r : Int) (w : World) (h : alu_if1.f a0 a1 = some r) :
    Calls Tryd.prog 24 #[.bool a0, .int .u8 a1] w fun e w' => e = .returned (.int .u8 r) ∧ Drawn0 w w' := by
  have H : (if a0 = true then (some a1) else (some 0)) = some r := h
  clear h
  by_cases c3 : a0 = true
  · subst c3
    have H1 : (some a1) = some r := by rw [if_pos rfl] at H; exact H
    clear H
    have H := H1
    clear H1
    obtain rfl := Option.some.inj H
    go_enter Tryd.func24, Tryd.ntmps24
    go_wp2
    go_ret
    exact ⟨by first | rfl | (simp; done) | (simp [*]; done), by repeat (first | exact Drawn0.refl _ | apply Drawn0.step)⟩
  · replace c3 := Bool.eq_false_iff.mpr c3
    subst c3
    have H1 : (some 0) = some r := by rw [if_neg (show ¬ (false = true) by decide)] at H; exact H
    clear H
    have H := H1
    clear H1
    obtain rfl := Option.some.inj H
    go_enter Tryd.func24, Tryd.ntmps24
    go_wp2
    go_ret
    exact ⟨by first | rfl | (simp; done) | (simp [*]; done), by repeat (first | exact Drawn0.refl _ | apply Drawn0.step)⟩

/-! ### alu_Add: function 6 -/
def alu_Add.f (a0 : Int) (a1 : Int) (a2 : Bool) : Option (Int × Int) := (alu_if1.f a2 1).bind fun t101 => ((alu_Own.f ((wrap64 ((wrap64 ((wrap64 (a0)) + (wrap64 (a1)))) + (wrap64 (t101)))) % 256)).bind fun t102 => ((alu_if1.f (decide ((wrap64 ((wrap64 ((wrap64 (a0)) + (wrap64 (a1)))) + (wrap64 (t101)))) > 255)) 1).bind fun t103 => ((alu_if1.f (decide ((wrap64 ((wrap64 ((wrap64 (Go.bits .and .u8 a0 15)) + (wrap64 (Go.bits .and .u8 a1 15)))) + (wrap64 (t101)))) > 15)) 16).bind fun t104 => (if (wrap64 ((wrap64 ((wrap64 (IntKind.i8.wrap (a0))) + (wrap64 (IntKind.i8.wrap (a1))))) + (wrap64 (t101)))) < (-128) then ((alu_if1.f true 4).bind fun t105 => (some ((wrap64 ((wrap64 ((wrap64 (a0)) + (wrap64 (a1)))) + (wrap64 (t101)))) % 256, Go.bits .or .u8 (Go.bits .or .u8 (Go.bits .or .u8 t102 t103) t104) t105))) else ((alu_if1.f (decide ((wrap64 ((wrap64 ((wrap64 (IntKind.i8.wrap (a0))) + (wrap64 (IntKind.i8.wrap (a1))))) + (wrap64 (t101)))) > 127)) 4).bind fun t106 => (some ((wrap64 ((wrap64 ((wrap64 (a0)) + (wrap64 (a1)))) + (wrap64 (t101)))) % 256, Go.bits .or .u8 (Go.bits .or .u8 (Go.bits .or .u8 t102 t103) t104) t106)))))))
set_option maxHeartbeats 8000000 in
set_option maxRecDepth 100000 in
theorem alu_Add.calls (a0 : Int) (a1 : Int) (a2 : Bool) (r1 : Int) (r2 : Int) (w : World) (h : alu_Add.f a0 a1 a2 = some (r1, r2)) :
    Calls Tryd.prog 6 #[.int .u8 a0, .int .u8 a1, .bool a2] w fun e w' => e = .returned (.tuple #[.int .u8 r1, .int .u8 r2]) ∧ Drawn0 w w' := by
  have H : ((alu_if1.f a2 1).bind fun t101 => ((alu_Own.f ((wrap64 ((wrap64 ((wrap64 (a0)) + (wrap64 (a1)))) + (wrap64 (t101)))) % 256)).bind fun t102 => ((alu_if1.f (decide ((wrap64 ((wrap64 ((wrap64 (a0)) + (wrap64 (a1)))) + (wrap64 (t101)))) > 255)) 1).bind fun t103 => ((alu_if1.f (decide ((wrap64 ((wrap64 ((wrap64 (Go.bits .and .u8 a0 15)) + (wrap64 (Go.bits .and .u8 a1 15)))) + (wrap64 (t101)))) > 15)) 16).bind fun t104 => (if (wrap64 ((wrap64 ((wrap64 (IntKind.i8.wrap (a0))) + (wrap64 (IntKind.i8.wrap (a1))))) + (wrap64 (t101)))) < (-128) then ((alu_if1.f true 4).bind fun t105 => (some ((wrap64 ((wrap64 ((wrap64 (a0)) + (wrap64 (a1)))) + (wrap64 (t101)))) % 256, Go.bits .or .u8 (Go.bits .or .u8 (Go.bits .or .u8 t102 t103) t104) t105))) else ((alu_if1.f (decide ((wrap64 ((wrap64 ((wrap64 (IntKind.i8.wrap (a0))) + (wrap64 (IntKind.i8.wrap (a1))))) + (wrap64 (t101)))) > 127)) 4).bind fun t106 => (some ((wrap64 ((wrap64 ((wrap64 (a0)) + (wrap64 (a1)))) + (wrap64 (t101)))) % 256, Go.bits .or .u8 (Go.bits .or .u8 (Go.bits .or .u8 t102 t103) t104) t106)))))))) = some (r1, r2) := h
  clear h
  replace H := Option.bind_eq_some_iff.mp H
  obtain ⟨t101, A40, H⟩ := H
  replace H : ((alu_Own.f ((wrap64 ((wrap64 ((wrap64 (a0)) + (wrap64 (a1)))) + (wrap64 (t101)))) % 256)).bind fun t102 => ((alu_if1.f (decide ((wrap64 ((wrap64 ((wrap64 (a0)) + (wrap64 (a1)))) + (wrap64 (t101)))) > 255)) 1).bind fun t103 => ((alu_if1.f (decide ((wrap64 ((wrap64 ((wrap64 (Go.bits .and .u8 a0 15)) + (wrap64 (Go.bits .and .u8 a1 15)))) + (wrap64 (t101)))) > 15)) 16).bind fun t104 => (if (wrap64 ((wrap64 ((wrap64 (IntKind.i8.wrap (a0))) + (wrap64 (IntKind.i8.wrap (a1))))) + (wrap64 (t101)))) < (-128) then ((alu_if1.f true 4).bind fun t105 => (some ((wrap64 ((wrap64 ((wrap64 (a0)) + (wrap64 (a1)))) + (wrap64 (t101)))) % 256, Go.bits .or .u8 (Go.bits .or .u8 (Go.bits .or .u8 t102 t103) t104) t105))) else ((alu_if1.f (decide ((wrap64 ((wrap64 ((wrap64 (IntKind.i8.wrap (a0))) + (wrap64 (IntKind.i8.wrap (a1))))) + (wrap64 (t101)))) > 127)) 4).bind fun t106 => (some ((wrap64 ((wrap64 ((wrap64 (a0)) + (wrap64 (a1)))) + (wrap64 (t101)))) % 256, Go.bits .or .u8 (Go.bits .or .u8 (Go.bits .or .u8 t102 t103) t104) t106))))))) = some (r1, r2) := H
  have A4 := Aside0.mk A40
  clear A40
  replace H := Option.bind_eq_some_iff.mp H
  obtain ⟨t102, A50, H⟩ := H
  replace H : ((alu_if1.f (decide ((wrap64 ((wrap64 ((wrap64 (a0)) + (wrap64 (a1)))) + (wrap64 (t101)))) > 255)) 1).bind fun t103 => ((alu_if1.f (decide ((wrap64 ((wrap64 ((wrap64 (Go.bits .and .u8 a0 15)) + (wrap64 (Go.bits .and .u8 a1 15)))) + (wrap64 (t101)))) > 15)) 16).bind fun t104 => (if (wrap64 ((wrap64 ((wrap64 (IntKind.i8.wrap (a0))) + (wrap64 (IntKind.i8.wrap (a1))))) + (wrap64 (t101)))) < (-128) then ((alu_if1.f true 4).bind fun t105 => (some ((wrap64 ((wrap64 ((wrap64 (a0)) + (wrap64 (a1)))) + (wrap64 (t101)))) % 256, Go.bits .or .u8 (Go.bits .or .u8 (Go.bits .or .u8 t102 t103) t104) t105))) else ((alu_if1.f (decide ((wrap64 ((wrap64 ((wrap64 (IntKind.i8.wrap (a0))) + (wrap64 (IntKind.i8.wrap (a1))))) + (wrap64 (t101)))) > 127)) 4).bind fun t106 => (some ((wrap64 ((wrap64 ((wrap64 (a0)) + (wrap64 (a1)))) + (wrap64 (t101)))) % 256, Go.bits .or .u8 (Go.bits .or .u8 (Go.bits .or .u8 t102 t103) t104) t106)))))) = some (r1, r2) := H
  have A5 := Aside0.mk A50
  clear A50
  replace H := Option.bind_eq_some_iff.mp H
  obtain ⟨t103, A60, H⟩ := H
  replace H : ((alu_if1.f (decide ((wrap64 ((wrap64 ((wrap64 (Go.bits .and .u8 a0 15)) + (wrap64 (Go.bits .and .u8 a1 15)))) + (wrap64 (t101)))) > 15)) 16).bind fun t104 => (if (wrap64 ((wrap64 ((wrap64 (IntKind.i8.wrap (a0))) + (wrap64 (IntKind.i8.wrap (a1))))) + (wrap64 (t101)))) < (-128) then ((alu_if1.f true 4).bind fun t105 => (some ((wrap64 ((wrap64 ((wrap64 (a0)) + (wrap64 (a1)))) + (wrap64 (t101)))) % 256, Go.bits .or .u8 (Go.bits .or .u8 (Go.bits .or .u8 t102 t103) t104) t105))) else ((alu_if1.f (decide ((wrap64 ((wrap64 ((wrap64 (IntKind.i8.wrap (a0))) + (wrap64 (IntKind.i8.wrap (a1))))) + (wrap64 (t101)))) > 127)) 4).bind fun t106 => (some ((wrap64 ((wrap64 ((wrap64 (a0)) + (wrap64 (a1)))) + (wrap64 (t101)))) % 256, Go.bits .or .u8 (Go.bits .or .u8 (Go.bits .or .u8 t102 t103) t104) t106))))) = some (r1, r2) := H
  have A6 := Aside0.mk A60
  clear A60
  replace H := Option.bind_eq_some_iff.mp H
  obtain ⟨t104, A70, H⟩ := H
  replace H : (if (wrap64 ((wrap64 ((wrap64 (IntKind.i8.wrap (a0))) + (wrap64 (IntKind.i8.wrap (a1))))) + (wrap64 (t101)))) < (-128) then ((alu_if1.f true 4).bind fun t105 => (some ((wrap64 ((wrap64 ((wrap64 (a0)) + (wrap64 (a1)))) + (wrap64 (t101)))) % 256, Go.bits .or .u8 (Go.bits .or .u8 (Go.bits .or .u8 t102 t103) t104) t105))) else ((alu_if1.f (decide ((wrap64 ((wrap64 ((wrap64 (IntKind.i8.wrap (a0))) + (wrap64 (IntKind.i8.wrap (a1))))) + (wrap64 (t101)))) > 127)) 4).bind fun t106 => (some ((wrap64 ((wrap64 ((wrap64 (a0)) + (wrap64 (a1)))) + (wrap64 (t101)))) % 256, Go.bits .or .u8 (Go.bits .or .u8 (Go.bits .or .u8 t102 t103) t104) t106)))) = some (r1, r2) := H
  have A7 := Aside0.mk A70
  clear A70
  by_cases c8 : (wrap64 ((wrap64 ((wrap64 (IntKind.i8.wrap (a0))) + (wrap64 (IntKind.i8.wrap (a1))))) + (wrap64 (t101)))) < (-128)
  · rw [if_pos c8] at H
    have c8b0 : decide ((wrap64 ((wrap64 ((wrap64 (IntKind.i8.wrap (a0))) + (wrap64 (IntKind.i8.wrap (a1))))) + (wrap64 (t101)))) < (-128)) = true := decide_eq_true c8
    clear c8
    replace H := Option.bind_eq_some_iff.mp H
    obtain ⟨t105, A90, H⟩ := H
    replace H : (some ((wrap64 ((wrap64 ((wrap64 (a0)) + (wrap64 (a1)))) + (wrap64 (t101)))) % 256, Go.bits .or .u8 (Go.bits .or .u8 (Go.bits .or .u8 t102 t103) t104) t105)) = some (r1, r2) := H
    have A9 := Aside0.mk A90
    clear A90
    simp only [Option.some.injEq, Prod.mk.injEq] at H
    obtain ⟨rfl, rfl⟩ := H
    go_enter Tryd.func6, Tryd.ntmps6
    go_wp2_with (first | ((with_reducible refine gate_callee (f := 24) rfl ?_); refine goesL_ (some 12) rfl rfl Tryd.func24 (by kernel_rfl) rfl #[.bool a2, .int .u8 1] rfl (by (try simp only [List.map_toArray, List.map_cons, List.map_nil]); first | done | rfl | (simp only [List.length_drop, List.length_take]; rfl)) ?_; (with_reducible refine (alu_if1.calls a2 1 t101 _ A4.out).mono ?_); rintro e w' ⟨rfl, ⟨nd, rfl⟩⟩; refine ⟨_, rfl, ?_⟩) | ((with_reducible refine gate_callee (f := 12) rfl ?_); refine goesL_ (some 33) rfl rfl Tryd.func12 (by kernel_rfl) rfl #[.int .u8 ((wrap64 ((wrap64 ((wrap64 (a0)) + (wrap64 (a1)))) + (wrap64 (t101)))) % 256)] rfl (by (try simp only [List.map_toArray, List.map_cons, List.map_nil]); first | done | rfl | (simp only [List.length_drop, List.length_take]; rfl)) ?_; (with_reducible refine (alu_Own.calls ((wrap64 ((wrap64 ((wrap64 (a0)) + (wrap64 (a1)))) + (wrap64 (t101)))) % 256) t102 _ A5.out).mono ?_); rintro e w' ⟨rfl, ⟨nd, rfl⟩⟩; refine ⟨_, rfl, ?_⟩) | ((with_reducible refine gate_callee (f := 24) rfl ?_); refine goesL_ (some 36) rfl rfl Tryd.func24 (by kernel_rfl) rfl #[.bool (decide ((wrap64 ((wrap64 ((wrap64 (a0)) + (wrap64 (a1)))) + (wrap64 (t101)))) > 255)), .int .u8 1] rfl (by (try simp only [List.map_toArray, List.map_cons, List.map_nil]); first | done | rfl | (simp only [List.length_drop, List.length_take]; rfl)) ?_; (with_reducible refine (alu_if1.calls (decide ((wrap64 ((wrap64 ((wrap64 (a0)) + (wrap64 (a1)))) + (wrap64 (t101)))) > 255)) 1 t103 _ A6.out).mono ?_); rintro e w' ⟨rfl, ⟨nd, rfl⟩⟩; refine ⟨_, rfl, ?_⟩) | ((with_reducible refine gate_callee (f := 24) rfl ?_); refine goesL_ (some 48) rfl rfl Tryd.func24 (by kernel_rfl) rfl #[.bool (decide ((wrap64 ((wrap64 ((wrap64 (Go.bits .and .u8 a0 15)) + (wrap64 (Go.bits .and .u8 a1 15)))) + (wrap64 (t101)))) > 15)), .int .u8 16] rfl (by (try simp only [List.map_toArray, List.map_cons, List.map_nil]); first | done | rfl | (simp only [List.length_drop, List.length_take]; rfl)) ?_; (with_reducible refine (alu_if1.calls (decide ((wrap64 ((wrap64 ((wrap64 (Go.bits .and .u8 a0 15)) + (wrap64 (Go.bits .and .u8 a1 15)))) + (wrap64 (t101)))) > 15)) 16 t104 _ A7.out).mono ?_); rintro e w' ⟨rfl, ⟨nd, rfl⟩⟩; refine ⟨_, rfl, ?_⟩) | ((with_reducible refine gate_callee (f := 24) rfl ?_); refine goesL_ (some 56) rfl rfl Tryd.func24 (by kernel_rfl) rfl #[.bool true, .int .u8 4] rfl (by (try simp only [List.map_toArray, List.map_cons, List.map_nil]); first | done | rfl | (simp only [List.length_drop, List.length_take]; rfl)) ?_; (with_reducible refine (alu_if1.calls true 4 t105 _ A9.out).mono ?_); rintro e w' ⟨rfl, ⟨nd, rfl⟩⟩; refine ⟨_, rfl, ?_⟩))
    go_ret2
    exact ⟨by first | rfl | (simp; done) | (simp [*]; done), by repeat (first | exact Drawn0.refl _ | apply Drawn0.step)⟩
  · rw [if_neg c8] at H
    have c8b0 : decide ((wrap64 ((wrap64 ((wrap64 (IntKind.i8.wrap (a0))) + (wrap64 (IntKind.i8.wrap (a1))))) + (wrap64 (t101)))) < (-128)) = false := decide_eq_false c8
    clear c8
    replace H := Option.bind_eq_some_iff.mp H
    obtain ⟨t106, A100, H⟩ := H
    replace H : (some ((wrap64 ((wrap64 ((wrap64 (a0)) + (wrap64 (a1)))) + (wrap64 (t101)))) % 256, Go.bits .or .u8 (Go.bits .or .u8 (Go.bits .or .u8 t102 t103) t104) t106)) = some (r1, r2) := H
    have A10 := Aside0.mk A100
    clear A100
    simp only [Option.some.injEq, Prod.mk.injEq] at H
    obtain ⟨rfl, rfl⟩ := H
    go_enter Tryd.func6, Tryd.ntmps6
    go_wp2_with (first | ((with_reducible refine gate_callee (f := 24) rfl ?_); refine goesL_ (some 12) rfl rfl Tryd.func24 (by kernel_rfl) rfl #[.bool a2, .int .u8 1] rfl (by (try simp only [List.map_toArray, List.map_cons, List.map_nil]); first | done | rfl | (simp only [List.length_drop, List.length_take]; rfl)) ?_; (with_reducible refine (alu_if1.calls a2 1 t101 _ A4.out).mono ?_); rintro e w' ⟨rfl, ⟨nd, rfl⟩⟩; refine ⟨_, rfl, ?_⟩) | ((with_reducible refine gate_callee (f := 12) rfl ?_); refine goesL_ (some 33) rfl rfl Tryd.func12 (by kernel_rfl) rfl #[.int .u8 ((wrap64 ((wrap64 ((wrap64 (a0)) + (wrap64 (a1)))) + (wrap64 (t101)))) % 256)] rfl (by (try simp only [List.map_toArray, List.map_cons, List.map_nil]); first | done | rfl | (simp only [List.length_drop, List.length_take]; rfl)) ?_; (with_reducible refine (alu_Own.calls ((wrap64 ((wrap64 ((wrap64 (a0)) + (wrap64 (a1)))) + (wrap64 (t101)))) % 256) t102 _ A5.out).mono ?_); rintro e w' ⟨rfl, ⟨nd, rfl⟩⟩; refine ⟨_, rfl, ?_⟩) | ((with_reducible refine gate_callee (f := 24) rfl ?_); refine goesL_ (some 36) rfl rfl Tryd.func24 (by kernel_rfl) rfl #[.bool (decide ((wrap64 ((wrap64 ((wrap64 (a0)) + (wrap64 (a1)))) + (wrap64 (t101)))) > 255)), .int .u8 1] rfl (by (try simp only [List.map_toArray, List.map_cons, List.map_nil]); first | done | rfl | (simp only [List.length_drop, List.length_take]; rfl)) ?_; (with_reducible refine (alu_if1.calls (decide ((wrap64 ((wrap64 ((wrap64 (a0)) + (wrap64 (a1)))) + (wrap64 (t101)))) > 255)) 1 t103 _ A6.out).mono ?_); rintro e w' ⟨rfl, ⟨nd, rfl⟩⟩; refine ⟨_, rfl, ?_⟩) | ((with_reducible refine gate_callee (f := 24) rfl ?_); refine goesL_ (some 48) rfl rfl Tryd.func24 (by kernel_rfl) rfl #[.bool (decide ((wrap64 ((wrap64 ((wrap64 (Go.bits .and .u8 a0 15)) + (wrap64 (Go.bits .and .u8 a1 15)))) + (wrap64 (t101)))) > 15)), .int .u8 16] rfl (by (try simp only [List.map_toArray, List.map_cons, List.map_nil]); first | done | rfl | (simp only [List.length_drop, List.length_take]; rfl)) ?_; (with_reducible refine (alu_if1.calls (decide ((wrap64 ((wrap64 ((wrap64 (Go.bits .and .u8 a0 15)) + (wrap64 (Go.bits .and .u8 a1 15)))) + (wrap64 (t101)))) > 15)) 16 t104 _ A7.out).mono ?_); rintro e w' ⟨rfl, ⟨nd, rfl⟩⟩; refine ⟨_, rfl, ?_⟩) | ((with_reducible refine gate_callee (f := 24) rfl ?_); refine goesL_ (some 56) rfl rfl Tryd.func24 (by kernel_rfl) rfl #[.bool (decide ((wrap64 ((wrap64 ((wrap64 (IntKind.i8.wrap (a0))) + (wrap64 (IntKind.i8.wrap (a1))))) + (wrap64 (t101)))) > 127)), .int .u8 4] rfl (by (try simp only [List.map_toArray, List.map_cons, List.map_nil]); first | done | rfl | (simp only [List.length_drop, List.length_take]; rfl)) ?_; (with_reducible refine (alu_if1.calls (decide ((wrap64 ((wrap64 ((wrap64 (IntKind.i8.wrap (a0))) + (wrap64 (IntKind.i8.wrap (a1))))) + (wrap64 (t101)))) > 127)) 4 t106 _ A10.out).mono ?_); rintro e w' ⟨rfl, ⟨nd, rfl⟩⟩; refine ⟨_, rfl, ?_⟩))
    go_ret2
    exact ⟨by first | rfl | (simp; done) | (simp [*]; done), by repeat (first | exact Drawn0.refl _ | apply Drawn0.step)⟩

/-! ### alu_Sub: function 8 -/
def alu_Sub.f (a0 : Int) (a1 : Int) (a2 : Bool) : Option (Int × Int) := (alu_if1.f a2 1).bind fun t107 => ((alu_Own.f ((wrap64 ((wrap64 ((wrap64 (a0)) - (wrap64 (a1)))) - (wrap64 (t107)))) % 256)).bind fun t108 => ((alu_if1.f (decide ((wrap64 ((wrap64 ((wrap64 (a0)) - (wrap64 (a1)))) - (wrap64 (t107)))) < 0)) 1).bind fun t109 => ((alu_if1.f (decide ((wrap64 ((wrap64 ((wrap64 (Go.bits .and .u8 a0 15)) - (wrap64 (Go.bits .and .u8 a1 15)))) - (wrap64 (t107)))) < 0)) 16).bind fun t110 => (if (wrap64 ((wrap64 ((wrap64 (IntKind.i8.wrap (a0))) - (wrap64 (IntKind.i8.wrap (a1))))) - (wrap64 (t107)))) < (-128) then ((alu_if1.f true 4).bind fun t111 => (some ((wrap64 ((wrap64 ((wrap64 (a0)) - (wrap64 (a1)))) - (wrap64 (t107)))) % 256, Go.bits .or .u8 (Go.bits .or .u8 (Go.bits .or .u8 (Go.bits .or .u8 t108 2) t109) t110) t111))) else ((alu_if1.f (decide ((wrap64 ((wrap64 ((wrap64 (IntKind.i8.wrap (a0))) - (wrap64 (IntKind.i8.wrap (a1))))) - (wrap64 (t107)))) > 127)) 4).bind fun t112 => (some ((wrap64 ((wrap64 ((wrap64 (a0)) - (wrap64 (a1)))) - (wrap64 (t107)))) % 256, Go.bits .or .u8 (Go.bits .or .u8 (Go.bits .or .u8 (Go.bits .or .u8 t108 2) t109) t110) t112)))))))
set_option maxHeartbeats 8000000 in
set_option maxRecDepth 100000 in
theorem alu_Sub.calls (a0 : Int) (a1 : Int) (a2 : Bool) (r1 : Int) (r2 : Int) (w : World) (h : alu_Sub.f a0 a1 a2 = some (r1, r2)) :
    Calls Tryd.prog 8 #[.int .u8 a0, .int .u8 a1, .bool a2] w fun e w' => e = .returned (.tuple #[.int .u8 r1, .int .u8 r2]) ∧ Drawn0 w w' := by
  have H : ((alu_if1.f a2 1).bind fun t107 => ((alu_Own.f ((wrap64 ((wrap64 ((wrap64 (a0)) - (wrap64 (a1)))) - (wrap64 (t107)))) % 256)).bind fun t108 => ((alu_if1.f (decide ((wrap64 ((wrap64 ((wrap64 (a0)) - (wrap64 (a1)))) - (wrap64 (t107)))) < 0)) 1).bind fun t109 => ((alu_if1.f (decide ((wrap64 ((wrap64 ((wrap64 (Go.bits .and .u8 a0 15)) - (wrap64 (Go.bits .and .u8 a1 15)))) - (wrap64 (t107)))) < 0)) 16).bind fun t110 => (if (wrap64 ((wrap64 ((wrap64 (IntKind.i8.wrap (a0))) - (wrap64 (IntKind.i8.wrap (a1))))) - (wrap64 (t107)))) < (-128) then ((alu_if1.f true 4).bind fun t111 => (some ((wrap64 ((wrap64 ((wrap64 (a0)) - (wrap64 (a1)))) - (wrap64 (t107)))) % 256, Go.bits .or .u8 (Go.bits .or .u8 (Go.bits .or .u8 (Go.bits .or .u8 t108 2) t109) t110) t111))) else ((alu_if1.f (decide ((wrap64 ((wrap64 ((wrap64 (IntKind.i8.wrap (a0))) - (wrap64 (IntKind.i8.wrap (a1))))) - (wrap64 (t107)))) > 127)) 4).bind fun t112 => (some ((wrap64 ((wrap64 ((wrap64 (a0)) - (wrap64 (a1)))) - (wrap64 (t107)))) % 256, Go.bits .or .u8 (Go.bits .or .u8 (Go.bits .or .u8 (Go.bits .or .u8 t108 2) t109) t110) t112)))))))) = some (r1, r2) := h
  clear h
  replace H := Option.bind_eq_some_iff.mp H
  obtain ⟨t107, A40, H⟩ := H
  replace H : ((alu_Own.f ((wrap64 ((wrap64 ((wrap64 (a0)) - (wrap64 (a1)))) - (wrap64 (t107)))) % 256)).bind fun t108 => ((alu_if1.f (decide ((wrap64 ((wrap64 ((wrap64 (a0)) - (wrap64 (a1)))) - (wrap64 (t107)))) < 0)) 1).bind fun t109 => ((alu_if1.f (decide ((wrap64 ((wrap64 ((wrap64 (Go.bits .and .u8 a0 15)) - (wrap64 (Go.bits .and .u8 a1 15)))) - (wrap64 (t107)))) < 0)) 16).bind fun t110 => (if (wrap64 ((wrap64 ((wrap64 (IntKind.i8.wrap (a0))) - (wrap64 (IntKind.i8.wrap (a1))))) - (wrap64 (t107)))) < (-128) then ((alu_if1.f true 4).bind fun t111 => (some ((wrap64 ((wrap64 ((wrap64 (a0)) - (wrap64 (a1)))) - (wrap64 (t107)))) % 256, Go.bits .or .u8 (Go.bits .or .u8 (Go.bits .or .u8 (Go.bits .or .u8 t108 2) t109) t110) t111))) else ((alu_if1.f (decide ((wrap64 ((wrap64 ((wrap64 (IntKind.i8.wrap (a0))) - (wrap64 (IntKind.i8.wrap (a1))))) - (wrap64 (t107)))) > 127)) 4).bind fun t112 => (some ((wrap64 ((wrap64 ((wrap64 (a0)) - (wrap64 (a1)))) - (wrap64 (t107)))) % 256, Go.bits .or .u8 (Go.bits .or .u8 (Go.bits .or .u8 (Go.bits .or .u8 t108 2) t109) t110) t112))))))) = some (r1, r2) := H
  have A4 := Aside0.mk A40
  clear A40
  replace H := Option.bind_eq_some_iff.mp H
  obtain ⟨t108, A50, H⟩ := H
  replace H : ((alu_if1.f (decide ((wrap64 ((wrap64 ((wrap64 (a0)) - (wrap64 (a1)))) - (wrap64 (t107)))) < 0)) 1).bind fun t109 => ((alu_if1.f (decide ((wrap64 ((wrap64 ((wrap64 (Go.bits .and .u8 a0 15)) - (wrap64 (Go.bits .and .u8 a1 15)))) - (wrap64 (t107)))) < 0)) 16).bind fun t110 => (if (wrap64 ((wrap64 ((wrap64 (IntKind.i8.wrap (a0))) - (wrap64 (IntKind.i8.wrap (a1))))) - (wrap64 (t107)))) < (-128) then ((alu_if1.f true 4).bind fun t111 => (some ((wrap64 ((wrap64 ((wrap64 (a0)) - (wrap64 (a1)))) - (wrap64 (t107)))) % 256, Go.bits .or .u8 (Go.bits .or .u8 (Go.bits .or .u8 (Go.bits .or .u8 t108 2) t109) t110) t111))) else ((alu_if1.f (decide ((wrap64 ((wrap64 ((wrap64 (IntKind.i8.wrap (a0))) - (wrap64 (IntKind.i8.wrap (a1))))) - (wrap64 (t107)))) > 127)) 4).bind fun t112 => (some ((wrap64 ((wrap64 ((wrap64 (a0)) - (wrap64 (a1)))) - (wrap64 (t107)))) % 256, Go.bits .or .u8 (Go.bits .or .u8 (Go.bits .or .u8 (Go.bits .or .u8 t108 2) t109) t110) t112)))))) = some (r1, r2) := H
  have A5 := Aside0.mk A50
  clear A50
  replace H := Option.bind_eq_some_iff.mp H
  obtain ⟨t109, A60, H⟩ := H
  replace H : ((alu_if1.f (decide ((wrap64 ((wrap64 ((wrap64 (Go.bits .and .u8 a0 15)) - (wrap64 (Go.bits .and .u8 a1 15)))) - (wrap64 (t107)))) < 0)) 16).bind fun t110 => (if (wrap64 ((wrap64 ((wrap64 (IntKind.i8.wrap (a0))) - (wrap64 (IntKind.i8.wrap (a1))))) - (wrap64 (t107)))) < (-128) then ((alu_if1.f true 4).bind fun t111 => (some ((wrap64 ((wrap64 ((wrap64 (a0)) - (wrap64 (a1)))) - (wrap64 (t107)))) % 256, Go.bits .or .u8 (Go.bits .or .u8 (Go.bits .or .u8 (Go.bits .or .u8 t108 2) t109) t110) t111))) else ((alu_if1.f (decide ((wrap64 ((wrap64 ((wrap64 (IntKind.i8.wrap (a0))) - (wrap64 (IntKind.i8.wrap (a1))))) - (wrap64 (t107)))) > 127)) 4).bind fun t112 => (some ((wrap64 ((wrap64 ((wrap64 (a0)) - (wrap64 (a1)))) - (wrap64 (t107)))) % 256, Go.bits .or .u8 (Go.bits .or .u8 (Go.bits .or .u8 (Go.bits .or .u8 t108 2) t109) t110) t112))))) = some (r1, r2) := H
  have A6 := Aside0.mk A60
  clear A60
  replace H := Option.bind_eq_some_iff.mp H
  obtain ⟨t110, A70, H⟩ := H
  replace H : (if (wrap64 ((wrap64 ((wrap64 (IntKind.i8.wrap (a0))) - (wrap64 (IntKind.i8.wrap (a1))))) - (wrap64 (t107)))) < (-128) then ((alu_if1.f true 4).bind fun t111 => (some ((wrap64 ((wrap64 ((wrap64 (a0)) - (wrap64 (a1)))) - (wrap64 (t107)))) % 256, Go.bits .or .u8 (Go.bits .or .u8 (Go.bits .or .u8 (Go.bits .or .u8 t108 2) t109) t110) t111))) else ((alu_if1.f (decide ((wrap64 ((wrap64 ((wrap64 (IntKind.i8.wrap (a0))) - (wrap64 (IntKind.i8.wrap (a1))))) - (wrap64 (t107)))) > 127)) 4).bind fun t112 => (some ((wrap64 ((wrap64 ((wrap64 (a0)) - (wrap64 (a1)))) - (wrap64 (t107)))) % 256, Go.bits .or .u8 (Go.bits .or .u8 (Go.bits .or .u8 (Go.bits .or .u8 t108 2) t109) t110) t112)))) = some (r1, r2) := H
  have A7 := Aside0.mk A70
  clear A70
  by_cases c8 : (wrap64 ((wrap64 ((wrap64 (IntKind.i8.wrap (a0))) - (wrap64 (IntKind.i8.wrap (a1))))) - (wrap64 (t107)))) < (-128)
  · rw [if_pos c8] at H
    have c8b0 : decide ((wrap64 ((wrap64 ((wrap64 (IntKind.i8.wrap (a0))) - (wrap64 (IntKind.i8.wrap (a1))))) - (wrap64 (t107)))) < (-128)) = true := decide_eq_true c8
    clear c8
    replace H := Option.bind_eq_some_iff.mp H
    obtain ⟨t111, A90, H⟩ := H
    replace H : (some ((wrap64 ((wrap64 ((wrap64 (a0)) - (wrap64 (a1)))) - (wrap64 (t107)))) % 256, Go.bits .or .u8 (Go.bits .or .u8 (Go.bits .or .u8 (Go.bits .or .u8 t108 2) t109) t110) t111)) = some (r1, r2) := H
    have A9 := Aside0.mk A90
    clear A90
    simp only [Option.some.injEq, Prod.mk.injEq] at H
    obtain ⟨rfl, rfl⟩ := H
    go_enter Tryd.func8, Tryd.ntmps8
    go_wp2_with (first | ((with_reducible refine gate_callee (f := 24) rfl ?_); refine goesL_ (some 12) rfl rfl Tryd.func24 (by kernel_rfl) rfl #[.bool a2, .int .u8 1] rfl (by (try simp only [List.map_toArray, List.map_cons, List.map_nil]); first | done | rfl | (simp only [List.length_drop, List.length_take]; rfl)) ?_; (with_reducible refine (alu_if1.calls a2 1 t107 _ A4.out).mono ?_); rintro e w' ⟨rfl, ⟨nd, rfl⟩⟩; refine ⟨_, rfl, ?_⟩) | ((with_reducible refine gate_callee (f := 12) rfl ?_); refine goesL_ (some 33) rfl rfl Tryd.func12 (by kernel_rfl) rfl #[.int .u8 ((wrap64 ((wrap64 ((wrap64 (a0)) - (wrap64 (a1)))) - (wrap64 (t107)))) % 256)] rfl (by (try simp only [List.map_toArray, List.map_cons, List.map_nil]); first | done | rfl | (simp only [List.length_drop, List.length_take]; rfl)) ?_; (with_reducible refine (alu_Own.calls ((wrap64 ((wrap64 ((wrap64 (a0)) - (wrap64 (a1)))) - (wrap64 (t107)))) % 256) t108 _ A5.out).mono ?_); rintro e w' ⟨rfl, ⟨nd, rfl⟩⟩; refine ⟨_, rfl, ?_⟩) | ((with_reducible refine gate_callee (f := 24) rfl ?_); refine goesL_ (some 37) rfl rfl Tryd.func24 (by kernel_rfl) rfl #[.bool (decide ((wrap64 ((wrap64 ((wrap64 (a0)) - (wrap64 (a1)))) - (wrap64 (t107)))) < 0)), .int .u8 1] rfl (by (try simp only [List.map_toArray, List.map_cons, List.map_nil]); first | done | rfl | (simp only [List.length_drop, List.length_take]; rfl)) ?_; (with_reducible refine (alu_if1.calls (decide ((wrap64 ((wrap64 ((wrap64 (a0)) - (wrap64 (a1)))) - (wrap64 (t107)))) < 0)) 1 t109 _ A6.out).mono ?_); rintro e w' ⟨rfl, ⟨nd, rfl⟩⟩; refine ⟨_, rfl, ?_⟩) | ((with_reducible refine gate_callee (f := 24) rfl ?_); refine goesL_ (some 49) rfl rfl Tryd.func24 (by kernel_rfl) rfl #[.bool (decide ((wrap64 ((wrap64 ((wrap64 (Go.bits .and .u8 a0 15)) - (wrap64 (Go.bits .and .u8 a1 15)))) - (wrap64 (t107)))) < 0)), .int .u8 16] rfl (by (try simp only [List.map_toArray, List.map_cons, List.map_nil]); first | done | rfl | (simp only [List.length_drop, List.length_take]; rfl)) ?_; (with_reducible refine (alu_if1.calls (decide ((wrap64 ((wrap64 ((wrap64 (Go.bits .and .u8 a0 15)) - (wrap64 (Go.bits .and .u8 a1 15)))) - (wrap64 (t107)))) < 0)) 16 t110 _ A7.out).mono ?_); rintro e w' ⟨rfl, ⟨nd, rfl⟩⟩; refine ⟨_, rfl, ?_⟩) | ((with_reducible refine gate_callee (f := 24) rfl ?_); refine goesL_ (some 57) rfl rfl Tryd.func24 (by kernel_rfl) rfl #[.bool true, .int .u8 4] rfl (by (try simp only [List.map_toArray, List.map_cons, List.map_nil]); first | done | rfl | (simp only [List.length_drop, List.length_take]; rfl)) ?_; (with_reducible refine (alu_if1.calls true 4 t111 _ A9.out).mono ?_); rintro e w' ⟨rfl, ⟨nd, rfl⟩⟩; refine ⟨_, rfl, ?_⟩))
    go_ret2
    exact ⟨by first | rfl | (simp; done) | (simp [*]; done), by repeat (first | exact Drawn0.refl _ | apply Drawn0.step)⟩
  · rw [if_neg c8] at H
    have c8b0 : decide ((wrap64 ((wrap64 ((wrap64 (IntKind.i8.wrap (a0))) - (wrap64 (IntKind.i8.wrap (a1))))) - (wrap64 (t107)))) < (-128)) = false := decide_eq_false c8
    clear c8
    replace H := Option.bind_eq_some_iff.mp H
    obtain ⟨t112, A100, H⟩ := H
    replace H : (some ((wrap64 ((wrap64 ((wrap64 (a0)) - (wrap64 (a1)))) - (wrap64 (t107)))) % 256, Go.bits .or .u8 (Go.bits .or .u8 (Go.bits .or .u8 (Go.bits .or .u8 t108 2) t109) t110) t112)) = some (r1, r2) := H
    have A10 := Aside0.mk A100
    clear A100
    simp only [Option.some.injEq, Prod.mk.injEq] at H
    obtain ⟨rfl, rfl⟩ := H
    go_enter Tryd.func8, Tryd.ntmps8
    go_wp2_with (first | ((with_reducible refine gate_callee (f := 24) rfl ?_); refine goesL_ (some 12) rfl rfl Tryd.func24 (by kernel_rfl) rfl #[.bool a2, .int .u8 1] rfl (by (try simp only [List.map_toArray, List.map_cons, List.map_nil]); first | done | rfl | (simp only [List.length_drop, List.length_take]; rfl)) ?_; (with_reducible refine (alu_if1.calls a2 1 t107 _ A4.out).mono ?_); rintro e w' ⟨rfl, ⟨nd, rfl⟩⟩; refine ⟨_, rfl, ?_⟩) | ((with_reducible refine gate_callee (f := 12) rfl ?_); refine goesL_ (some 33) rfl rfl Tryd.func12 (by kernel_rfl) rfl #[.int .u8 ((wrap64 ((wrap64 ((wrap64 (a0)) - (wrap64 (a1)))) - (wrap64 (t107)))) % 256)] rfl (by (try simp only [List.map_toArray, List.map_cons, List.map_nil]); first | done | rfl | (simp only [List.length_drop, List.length_take]; rfl)) ?_; (with_reducible refine (alu_Own.calls ((wrap64 ((wrap64 ((wrap64 (a0)) - (wrap64 (a1)))) - (wrap64 (t107)))) % 256) t108 _ A5.out).mono ?_); rintro e w' ⟨rfl, ⟨nd, rfl⟩⟩; refine ⟨_, rfl, ?_⟩) | ((with_reducible refine gate_callee (f := 24) rfl ?_); refine goesL_ (some 37) rfl rfl Tryd.func24 (by kernel_rfl) rfl #[.bool (decide ((wrap64 ((wrap64 ((wrap64 (a0)) - (wrap64 (a1)))) - (wrap64 (t107)))) < 0)), .int .u8 1] rfl (by (try simp only [List.map_toArray, List.map_cons, List.map_nil]); first | done | rfl | (simp only [List.length_drop, List.length_take]; rfl)) ?_; (with_reducible refine (alu_if1.calls (decide ((wrap64 ((wrap64 ((wrap64 (a0)) - (wrap64 (a1)))) - (wrap64 (t107)))) < 0)) 1 t109 _ A6.out).mono ?_); rintro e w' ⟨rfl, ⟨nd, rfl⟩⟩; refine ⟨_, rfl, ?_⟩) | ((with_reducible refine gate_callee (f := 24) rfl ?_); refine goesL_ (some 49) rfl rfl Tryd.func24 (by kernel_rfl) rfl #[.bool (decide ((wrap64 ((wrap64 ((wrap64 (Go.bits .and .u8 a0 15)) - (wrap64 (Go.bits .and .u8 a1 15)))) - (wrap64 (t107)))) < 0)), .int .u8 16] rfl (by (try simp only [List.map_toArray, List.map_cons, List.map_nil]); first | done | rfl | (simp only [List.length_drop, List.length_take]; rfl)) ?_; (with_reducible refine (alu_if1.calls (decide ((wrap64 ((wrap64 ((wrap64 (Go.bits .and .u8 a0 15)) - (wrap64 (Go.bits .and .u8 a1 15)))) - (wrap64 (t107)))) < 0)) 16 t110 _ A7.out).mono ?_); rintro e w' ⟨rfl, ⟨nd, rfl⟩⟩; refine ⟨_, rfl, ?_⟩) | ((with_reducible refine gate_callee (f := 24) rfl ?_); refine goesL_ (some 57) rfl rfl Tryd.func24 (by kernel_rfl) rfl #[.bool (decide ((wrap64 ((wrap64 ((wrap64 (IntKind.i8.wrap (a0))) - (wrap64 (IntKind.i8.wrap (a1))))) - (wrap64 (t107)))) > 127)), .int .u8 4] rfl (by (try simp only [List.map_toArray, List.map_cons, List.map_nil]); first | done | rfl | (simp only [List.length_drop, List.length_take]; rfl)) ?_; (with_reducible refine (alu_if1.calls (decide ((wrap64 ((wrap64 ((wrap64 (IntKind.i8.wrap (a0))) - (wrap64 (IntKind.i8.wrap (a1))))) - (wrap64 (t107)))) > 127)) 4 t112 _ A10.out).mono ?_); rintro e w' ⟨rfl, ⟨nd, rfl⟩⟩; refine ⟨_, rfl, ?_⟩))
    go_ret2
    exact ⟨by first | rfl | (simp; done) | (simp [*]; done), by repeat (first | exact Drawn0.refl _ | apply Drawn0.step)⟩

/-! ### alu_Cp: function 10 -/
def alu_Cp.f (a0 : Int) (a1 : Int) : Option (Int) := (alu_Sub.f a0 a1 false).bind fun bt113 => (some (Go.bits .or .u8 (Go.bits .andNot .u8 bt113.2 40) (Go.bits .and .u8 a1 40)))
set_option maxHeartbeats 8000000 in
set_option maxRecDepth 100000 in
theorem alu_Cp.calls (a0 : Int) (a1 : Int) (r : Int) (w : World) (h : alu_Cp.f a0 a1 = some r) :
    Calls Tryd.prog 10 #[.int .u8 a0, .int .u8 a1] w fun e w' => e = .returned (.int .u8 r) ∧ Drawn0 w w' := by
  have H : ((alu_Sub.f a0 a1 false).bind fun bt113 => (some (Go.bits .or .u8 (Go.bits .andNot .u8 bt113.2 40) (Go.bits .and .u8 a1 40)))) = some r := h
  clear h
  replace H := Option.bind_eq_some_iff.mp H
  obtain ⟨⟨t113, t114⟩, A30, H⟩ := H
  replace H : (some (Go.bits .or .u8 (Go.bits .andNot .u8 t114 40) (Go.bits .and .u8 a1 40))) = some r := H
  have A3 := Aside0.mk A30
  clear A30
  obtain rfl := Option.some.inj H
  go_enter Tryd.func10, Tryd.ntmps10
  go_wp2_with (first | ((with_reducible refine gate_callee (f := 8) rfl ?_); refine goesL_ (some 8) rfl rfl Tryd.func8 (by kernel_rfl) rfl #[.int .u8 a0, .int .u8 a1, .bool false] rfl (by (try simp only [List.map_toArray, List.map_cons, List.map_nil]); first | done | rfl | (simp only [List.length_drop, List.length_take]; rfl)) ?_; (with_reducible refine (alu_Sub.calls a0 a1 false t113 t114 _ A3.out).mono ?_); rintro e w' ⟨rfl, ⟨nd, rfl⟩⟩; refine ⟨_, rfl, ?_⟩))
  go_ret
  exact ⟨by first | rfl | (simp; done) | (simp [*]; done), by repeat (first | exact Drawn0.refl _ | apply Drawn0.step)⟩

/-! ### pendulumlaw05_lives: function 5 -/
def pendulumlaw05_lives.f  : Option (Bool) := (alu_Add.f 127 1 false).bind fun bt115 => ((alu_Sub.f 0 1 false).bind fun bt117 => (if bt115.1 = 128 then (if bt115.2 = 148 then (if bt117.1 = 255 then (if bt117.2 = 187 then ((alu_Cp.f 16 40).bind fun t119 => (some (t119 == 187))) else (some false)) else (some false)) else (some false)) else (some false)))
set_option maxHeartbeats 8000000 in
set_option maxRecDepth 100000 in
theorem pendulumlaw05_lives.calls  (r : Bool) (w : World) (h : pendulumlaw05_lives.f  = some r) :
    Calls Tryd.prog 5 #[] w fun e w' => e = .returned (.bool r) ∧ Drawn0 w w' := by
  have H : ((alu_Add.f 127 1 false).bind fun bt115 => ((alu_Sub.f 0 1 false).bind fun bt117 => (if bt115.1 = 128 then (if bt115.2 = 148 then (if bt117.1 = 255 then (if bt117.2 = 187 then ((alu_Cp.f 16 40).bind fun t119 => (some (t119 == 187))) else (some false)) else (some false)) else (some false)) else (some false)))) = some r := h
  clear h
  replace H := Option.bind_eq_some_iff.mp H
  obtain ⟨⟨t115, t116⟩, A10, H⟩ := H
  replace H : ((alu_Sub.f 0 1 false).bind fun bt117 => (if t115 = 128 then (if t116 = 148 then (if bt117.1 = 255 then (if bt117.2 = 187 then ((alu_Cp.f 16 40).bind fun t119 => (some (t119 == 187))) else (some false)) else (some false)) else (some false)) else (some false))) = some r := H
  have A1 := Aside0.mk A10
  clear A10
  replace H := Option.bind_eq_some_iff.mp H
  obtain ⟨⟨t117, t118⟩, A20, H⟩ := H
  replace H : (if t115 = 128 then (if t116 = 148 then (if t117 = 255 then (if t118 = 187 then ((alu_Cp.f 16 40).bind fun t119 => (some (t119 == 187))) else (some false)) else (some false)) else (some false)) else (some false)) = some r := H
  have A2 := Aside0.mk A20
  clear A20
  by_cases c3 : t115 = 128
  · rw [if_pos c3] at H
    have c3b0 : (t115 == 128) = true := beq_iff_eq.mpr c3
    have c3b1 : (t115 != 128) = false := bne_eq_false_iff_eq.mpr c3
    clear c3
    by_cases c4 : t116 = 148
    · rw [if_pos c4] at H
      have c4b0 : (t116 == 148) = true := beq_iff_eq.mpr c4
      have c4b1 : (t116 != 148) = false := bne_eq_false_iff_eq.mpr c4
      clear c4
      by_cases c5 : t117 = 255
      · rw [if_pos c5] at H
        have c5b0 : (t117 == 255) = true := beq_iff_eq.mpr c5
        have c5b1 : (t117 != 255) = false := bne_eq_false_iff_eq.mpr c5
        clear c5
        by_cases c6 : t118 = 187
        · rw [if_pos c6] at H
          have c6b0 : (t118 == 187) = true := beq_iff_eq.mpr c6
          have c6b1 : (t118 != 187) = false := bne_eq_false_iff_eq.mpr c6
          clear c6
          replace H := Option.bind_eq_some_iff.mp H
          obtain ⟨t119, A70, H⟩ := H
          replace H : (some (t119 == 187)) = some r := H
          have A7 := Aside0.mk A70
          clear A70
          obtain rfl := Option.some.inj H
          go_enter Tryd.func5, Tryd.ntmps5
          go_wp2_with (first | ((with_reducible refine gate_callee (f := 6) rfl ?_); refine goesL_ (some 6) rfl rfl Tryd.func6 (by kernel_rfl) rfl #[.int .u8 127, .int .u8 1, .bool false] rfl (by (try simp only [List.map_toArray, List.map_cons, List.map_nil]); first | done | rfl | (simp only [List.length_drop, List.length_take]; rfl)) ?_; (with_reducible refine (alu_Add.calls 127 1 false t115 t116 _ A1.out).mono ?_); rintro e w' ⟨rfl, ⟨nd, rfl⟩⟩; refine ⟨_, rfl, ?_⟩) | ((with_reducible refine gate_callee (f := 8) rfl ?_); refine goesL_ (some 10) rfl rfl Tryd.func8 (by kernel_rfl) rfl #[.int .u8 0, .int .u8 1, .bool false] rfl (by (try simp only [List.map_toArray, List.map_cons, List.map_nil]); first | done | rfl | (simp only [List.length_drop, List.length_take]; rfl)) ?_; (with_reducible refine (alu_Sub.calls 0 1 false t117 t118 _ A2.out).mono ?_); rintro e w' ⟨rfl, ⟨nd, rfl⟩⟩; refine ⟨_, rfl, ?_⟩) | (go_at_call 10; (with_reducible refine (alu_Cp.calls 16 40 t119 _ A7.out).mono ?_); rintro e w' ⟨rfl, ⟨nd, rfl⟩⟩))
          go_ret
          exact ⟨by first | rfl | (simp; done) | (simp [*]; done), by repeat (first | exact Drawn0.refl _ | apply Drawn0.step)⟩
        · rw [if_neg c6] at H
          have c6b0 : (t118 == 187) = false := beq_eq_false_iff_ne.mpr c6
          have c6b1 : (t118 != 187) = true := bne_iff_ne.mpr c6
          obtain rfl := Option.some.inj H
          go_enter Tryd.func5, Tryd.ntmps5
          go_wp2_with (first | ((with_reducible refine gate_callee (f := 6) rfl ?_); refine goesL_ (some 6) rfl rfl Tryd.func6 (by kernel_rfl) rfl #[.int .u8 127, .int .u8 1, .bool false] rfl (by (try simp only [List.map_toArray, List.map_cons, List.map_nil]); first | done | rfl | (simp only [List.length_drop, List.length_take]; rfl)) ?_; (with_reducible refine (alu_Add.calls 127 1 false t115 t116 _ A1.out).mono ?_); rintro e w' ⟨rfl, ⟨nd, rfl⟩⟩; refine ⟨_, rfl, ?_⟩) | ((with_reducible refine gate_callee (f := 8) rfl ?_); refine goesL_ (some 10) rfl rfl Tryd.func8 (by kernel_rfl) rfl #[.int .u8 0, .int .u8 1, .bool false] rfl (by (try simp only [List.map_toArray, List.map_cons, List.map_nil]); first | done | rfl | (simp only [List.length_drop, List.length_take]; rfl)) ?_; (with_reducible refine (alu_Sub.calls 0 1 false t117 t118 _ A2.out).mono ?_); rintro e w' ⟨rfl, ⟨nd, rfl⟩⟩; refine ⟨_, rfl, ?_⟩))
          go_ret
          exact ⟨by first | rfl | (simp; done) | (simp [*]; done), by repeat (first | exact Drawn0.refl _ | apply Drawn0.step)⟩
      · rw [if_neg c5] at H
        have c5b0 : (t117 == 255) = false := beq_eq_false_iff_ne.mpr c5
        have c5b1 : (t117 != 255) = true := bne_iff_ne.mpr c5
        obtain rfl := Option.some.inj H
        go_enter Tryd.func5, Tryd.ntmps5
        go_wp2_with (first | ((with_reducible refine gate_callee (f := 6) rfl ?_); refine goesL_ (some 6) rfl rfl Tryd.func6 (by kernel_rfl) rfl #[.int .u8 127, .int .u8 1, .bool false] rfl (by (try simp only [List.map_toArray, List.map_cons, List.map_nil]); first | done | rfl | (simp only [List.length_drop, List.length_take]; rfl)) ?_; (with_reducible refine (alu_Add.calls 127 1 false t115 t116 _ A1.out).mono ?_); rintro e w' ⟨rfl, ⟨nd, rfl⟩⟩; refine ⟨_, rfl, ?_⟩) | ((with_reducible refine gate_callee (f := 8) rfl ?_); refine goesL_ (some 10) rfl rfl Tryd.func8 (by kernel_rfl) rfl #[.int .u8 0, .int .u8 1, .bool false] rfl (by (try simp only [List.map_toArray, List.map_cons, List.map_nil]); first | done | rfl | (simp only [List.length_drop, List.length_take]; rfl)) ?_; (with_reducible refine (alu_Sub.calls 0 1 false t117 t118 _ A2.out).mono ?_); rintro e w' ⟨rfl, ⟨nd, rfl⟩⟩; refine ⟨_, rfl, ?_⟩))
        go_ret
        exact ⟨by first | rfl | (simp; done) | (simp [*]; done), by repeat (first | exact Drawn0.refl _ | apply Drawn0.step)⟩
    · rw [if_neg c4] at H
      have c4b0 : (t116 == 148) = false := beq_eq_false_iff_ne.mpr c4
      have c4b1 : (t116 != 148) = true := bne_iff_ne.mpr c4
      obtain rfl := Option.some.inj H
      go_enter Tryd.func5, Tryd.ntmps5
      go_wp2_with (first | ((with_reducible refine gate_callee (f := 6) rfl ?_); refine goesL_ (some 6) rfl rfl Tryd.func6 (by kernel_rfl) rfl #[.int .u8 127, .int .u8 1, .bool false] rfl (by (try simp only [List.map_toArray, List.map_cons, List.map_nil]); first | done | rfl | (simp only [List.length_drop, List.length_take]; rfl)) ?_; (with_reducible refine (alu_Add.calls 127 1 false t115 t116 _ A1.out).mono ?_); rintro e w' ⟨rfl, ⟨nd, rfl⟩⟩; refine ⟨_, rfl, ?_⟩) | ((with_reducible refine gate_callee (f := 8) rfl ?_); refine goesL_ (some 10) rfl rfl Tryd.func8 (by kernel_rfl) rfl #[.int .u8 0, .int .u8 1, .bool false] rfl (by (try simp only [List.map_toArray, List.map_cons, List.map_nil]); first | done | rfl | (simp only [List.length_drop, List.length_take]; rfl)) ?_; (with_reducible refine (alu_Sub.calls 0 1 false t117 t118 _ A2.out).mono ?_); rintro e w' ⟨rfl, ⟨nd, rfl⟩⟩; refine ⟨_, rfl, ?_⟩))
      go_ret
      exact ⟨by first | rfl | (simp; done) | (simp [*]; done), by repeat (first | exact Drawn0.refl _ | apply Drawn0.step)⟩
  · rw [if_neg c3] at H
    have c3b0 : (t115 == 128) = false := beq_eq_false_iff_ne.mpr c3
    have c3b1 : (t115 != 128) = true := bne_iff_ne.mpr c3
    obtain rfl := Option.some.inj H
    go_enter Tryd.func5, Tryd.ntmps5
    go_wp2_with (first | ((with_reducible refine gate_callee (f := 6) rfl ?_); refine goesL_ (some 6) rfl rfl Tryd.func6 (by kernel_rfl) rfl #[.int .u8 127, .int .u8 1, .bool false] rfl (by (try simp only [List.map_toArray, List.map_cons, List.map_nil]); first | done | rfl | (simp only [List.length_drop, List.length_take]; rfl)) ?_; (with_reducible refine (alu_Add.calls 127 1 false t115 t116 _ A1.out).mono ?_); rintro e w' ⟨rfl, ⟨nd, rfl⟩⟩; refine ⟨_, rfl, ?_⟩) | ((with_reducible refine gate_callee (f := 8) rfl ?_); refine goesL_ (some 10) rfl rfl Tryd.func8 (by kernel_rfl) rfl #[.int .u8 0, .int .u8 1, .bool false] rfl (by (try simp only [List.map_toArray, List.map_cons, List.map_nil]); first | done | rfl | (simp only [List.length_drop, List.length_take]; rfl)) ?_; (with_reducible refine (alu_Sub.calls 0 1 false t117 t118 _ A2.out).mono ?_); rintro e w' ⟨rfl, ⟨nd, rfl⟩⟩; refine ⟨_, rfl, ?_⟩))
    go_ret
    exact ⟨by first | rfl | (simp; done) | (simp [*]; done), by repeat (first | exact Drawn0.refl _ | apply Drawn0.step)⟩

/-! ### bits_OnesCount8: function 28 -/
def bits_OnesCount8.f (a0 : Int) : Option (Int) := if 0 ≤ a0 then (if a0 < 256 then (some (wrap64 (bt (⟨#[0, 1, 1, 2, 1, 2, 2, 3, 1, 2, 2, 3, 2, 3, 3, 4, 1, 2, 2, 3, 2, 3, 3, 4, 2, 3, 3, 4, 3, 4, 4, 5, 1, 2, 2, 3, 2, 3, 3, 4, 2, 3, 3, 4, 3, 4, 4, 5, 2, 3, 3, 4, 3, 4, 4, 5, 3, 4, 4, 5, 4, 5, 5, 6, 1, 2, 2, 3, 2, 3, 3, 4, 2, 3, 3, 4, 3, 4, 4, 5, 2, 3, 3, 4, 3, 4, 4, 5, 3, 4, 4, 5, 4, 5, 5, 6, 2, 3, 3, 4, 3, 4, 4, 5, 3, 4, 4, 5, 4, 5, 5, 6, 3, 4, 4, 5, 4, 5, 5, 6, 4, 5, 5, 6, 5, 6, 6, 7, 1, 2, 2, 3, 2, 3, 3, 4, 2, 3, 3, 4, 3, 4, 4, 5, 2, 3, 3, 4, 3, 4, 4, 5, 3, 4, 4, 5, 4, 5, 5, 6, 2, 3, 3, 4, 3, 4, 4, 5, 3, 4, 4, 5, 4, 5, 5, 6, 3, 4, 4, 5, 4, 5, 5, 6, 4, 5, 5, 6, 5, 6, 6, 7, 2, 3, 3, 4, 3, 4, 4, 5, 3, 4, 4, 5, 4, 5, 5, 6, 3, 4, 4, 5, 4, 5, 5, 6, 4, 5, 5, 6, 5, 6, 6, 7, 3, 4, 4, 5, 4, 5, 5, 6, 4, 5, 5, 6, 5, 6, 6, 7, 4, 5, 5, 6, 5, 6, 6, 7, 5, 6, 6, 7, 6, 7, 7, 8]⟩ : ByteArray) a0))) else (none)) else (none)
set_option maxHeartbeats 8000000 in
set_option maxRecDepth 100000 in
theorem bits_OnesCount8.calls (a0 : Int) (r : Int) (w : World) (h : bits_OnesCount8.f a0 = some r) :
    Calls Tryd.prog 28 #[.int .u8 a0] w fun e w' => e = .returned (.int .i64 r) ∧ Drawn0 w w' := by
  have H : (if 0 ≤ a0 then (if a0 < 256 then (some (wrap64 (bt (⟨#[0, 1, 1, 2, 1, 2, 2, 3, 1, 2, 2, 3, 2, 3, 3, 4, 1, 2, 2, 3, 2, 3, 3, 4, 2, 3, 3, 4, 3, 4, 4, 5, 1, 2, 2, 3, 2, 3, 3, 4, 2, 3, 3, 4, 3, 4, 4, 5, 2, 3, 3, 4, 3, 4, 4, 5, 3, 4, 4, 5, 4, 5, 5, 6, 1, 2, 2, 3, 2, 3, 3, 4, 2, 3, 3, 4, 3, 4, 4, 5, 2, 3, 3, 4, 3, 4, 4, 5, 3, 4, 4, 5, 4, 5, 5, 6, 2, 3, 3, 4, 3, 4, 4, 5, 3, 4, 4, 5, 4, 5, 5, 6, 3, 4, 4, 5, 4, 5, 5, 6, 4, 5, 5, 6, 5, 6, 6, 7, 1, 2, 2, 3, 2, 3, 3, 4, 2, 3, 3, 4, 3, 4, 4, 5, 2, 3, 3, 4, 3, 4, 4, 5, 3, 4, 4, 5, 4, 5, 5, 6, 2, 3, 3, 4, 3, 4, 4, 5, 3, 4, 4, 5, 4, 5, 5, 6, 3, 4, 4, 5, 4, 5, 5, 6, 4, 5, 5, 6, 5, 6, 6, 7, 2, 3, 3, 4, 3, 4, 4, 5, 3, 4, 4, 5, 4, 5, 5, 6, 3, 4, 4, 5, 4, 5, 5, 6, 4, 5, 5, 6, 5, 6, 6, 7, 3, 4, 4, 5, 4, 5, 5, 6, 4, 5, 5, 6, 5, 6, 6, 7, 4, 5, 5, 6, 5, 6, 6, 7, 5, 6, 6, 7, 6, 7, 7, 8]⟩ : ByteArray) a0))) else (none)) else (none)) = some r := h
  clear h
  by_cases c2 : 0 ≤ a0
  · rw [if_pos c2] at H
    have c2b0 : decide (0 ≤ a0) = true := decide_eq_true c2
    clear c2
    by_cases c3 : a0 < 256
    · rw [if_pos c3] at H
      have c3b0 : decide (a0 < 256) = true := decide_eq_true c3
      clear c3
      obtain rfl := Option.some.inj H
      have p4 : 0 ≤ (a0 : Int) := of_decide_eq_true (by first | (with_reducible assumption) | assumption)
      have q4 : a0 < (256 : Int) := of_decide_eq_true (by first | (with_reducible assumption) | assumption)
      have hx4 := bt_at (⟨#[0, 1, 1, 2, 1, 2, 2, 3, 1, 2, 2, 3, 2, 3, 3, 4, 1, 2, 2, 3, 2, 3, 3, 4, 2, 3, 3, 4, 3, 4, 4, 5, 1, 2, 2, 3, 2, 3, 3, 4, 2, 3, 3, 4, 3, 4, 4, 5, 2, 3, 3, 4, 3, 4, 4, 5, 3, 4, 4, 5, 4, 5, 5, 6, 1, 2, 2, 3, 2, 3, 3, 4, 2, 3, 3, 4, 3, 4, 4, 5, 2, 3, 3, 4, 3, 4, 4, 5, 3, 4, 4, 5, 4, 5, 5, 6, 2, 3, 3, 4, 3, 4, 4, 5, 3, 4, 4, 5, 4, 5, 5, 6, 3, 4, 4, 5, 4, 5, 5, 6, 4, 5, 5, 6, 5, 6, 6, 7, 1, 2, 2, 3, 2, 3, 3, 4, 2, 3, 3, 4, 3, 4, 4, 5, 2, 3, 3, 4, 3, 4, 4, 5, 3, 4, 4, 5, 4, 5, 5, 6, 2, 3, 3, 4, 3, 4, 4, 5, 3, 4, 4, 5, 4, 5, 5, 6, 3, 4, 4, 5, 4, 5, 5, 6, 4, 5, 5, 6, 5, 6, 6, 7, 2, 3, 3, 4, 3, 4, 4, 5, 3, 4, 4, 5, 4, 5, 5, 6, 3, 4, 4, 5, 4, 5, 5, 6, 4, 5, 5, 6, 5, 6, 6, 7, 3, 4, 4, 5, 4, 5, 5, 6, 4, 5, 5, 6, 5, 6, 6, 7, 4, 5, 5, 6, 5, 6, 6, 7, 5, 6, 6, 7, 6, 7, 7, 8]⟩ : ByteArray) a0
      replace p4 := eq_true p4
      replace q4 := eq_true q4
      go_enter Tryd.func28, Tryd.ntmps28
      go_wp2
      go_ret
      exact ⟨by first | rfl | (simp; done) | (simp [*]; done), by repeat (first | exact Drawn0.refl _ | apply Drawn0.step)⟩
    · rw [if_neg c3] at H
      exact absurd H (by simp)
  · rw [if_neg c2] at H
    exact absurd H (by simp)

/-! ### alu_Parity: function 14 -/
def alu_Parity.f (a0 : Int) : Option (Bool) := (bits_OnesCount8.f a0).bind fun t120 => (some ((Int.tmod t120 2) == 0))
set_option maxHeartbeats 8000000 in
set_option maxRecDepth 100000 in
theorem alu_Parity.calls (a0 : Int) (r : Bool) (w : World) (h : alu_Parity.f a0 = some r) :
    Calls Tryd.prog 14 #[.int .u8 a0] w fun e w' => e = .returned (.bool r) ∧ Drawn0 w w' := by
  have H : ((bits_OnesCount8.f a0).bind fun t120 => (some ((Int.tmod t120 2) == 0))) = some r := h
  clear h
  replace H := Option.bind_eq_some_iff.mp H
  obtain ⟨t120, A20, H⟩ := H
  replace H : (some ((Int.tmod t120 2) == 0)) = some r := H
  have A2 := Aside0.mk A20
  clear A20
  obtain rfl := Option.some.inj H
  go_enter Tryd.func14, Tryd.ntmps14
  go_wp2_with (first | ((with_reducible refine gate_callee (f := 28) rfl ?_); refine goesL_ (some 4) rfl rfl Tryd.func28 (by kernel_rfl) rfl #[.int .u8 a0] rfl (by (try simp only [List.map_toArray, List.map_cons, List.map_nil]); first | done | rfl | (simp only [List.length_drop, List.length_take]; rfl)) ?_; (with_reducible refine (bits_OnesCount8.calls a0 t120 _ A2.out).mono ?_); rintro e w' ⟨rfl, ⟨nd, rfl⟩⟩; refine ⟨_, rfl, ?_⟩))
  go_ret
  exact ⟨by first | rfl | (simp; done) | (simp [*]; done), by repeat (first | exact Drawn0.refl _ | apply Drawn0.step)⟩

/-! ### alu_logic: function 33 -/
def alu_logic.f (a0 : Int) (a1 : Int) : Option (Int × Int) := (alu_Own.f a0).bind fun t121 => ((alu_Parity.f a0).bind fun t122 => ((alu_if1.f t122 4).bind fun t123 => (some (a0, Go.bits .or .u8 (Go.bits .or .u8 t121 t123) a1))))
set_option maxHeartbeats 8000000 in
set_option maxRecDepth 100000 in
theorem alu_logic.calls (a0 : Int) (a1 : Int) (r1 : Int) (r2 : Int) (w : World) (h : alu_logic.f a0 a1 = some (r1, r2)) :
    Calls Tryd.prog 33 #[.int .u8 a0, .int .u8 a1] w fun e w' => e = .returned (.tuple #[.int .u8 r1, .int .u8 r2]) ∧ Drawn0 w w' := by
  have H : ((alu_Own.f a0).bind fun t121 => ((alu_Parity.f a0).bind fun t122 => ((alu_if1.f t122 4).bind fun t123 => (some (a0, Go.bits .or .u8 (Go.bits .or .u8 t121 t123) a1))))) = some (r1, r2) := h
  clear h
  replace H := Option.bind_eq_some_iff.mp H
  obtain ⟨t121, A30, H⟩ := H
  replace H : ((alu_Parity.f a0).bind fun t122 => ((alu_if1.f t122 4).bind fun t123 => (some (a0, Go.bits .or .u8 (Go.bits .or .u8 t121 t123) a1)))) = some (r1, r2) := H
  have A3 := Aside0.mk A30
  clear A30
  replace H := Option.bind_eq_some_iff.mp H
  obtain ⟨t122, A40, H⟩ := H
  replace H : ((alu_if1.f t122 4).bind fun t123 => (some (a0, Go.bits .or .u8 (Go.bits .or .u8 t121 t123) a1))) = some (r1, r2) := H
  have A4 := Aside0.mk A40
  clear A40
  replace H := Option.bind_eq_some_iff.mp H
  obtain ⟨t123, A50, H⟩ := H
  replace H : (some (a0, Go.bits .or .u8 (Go.bits .or .u8 t121 t123) a1)) = some (r1, r2) := H
  have A5 := Aside0.mk A50
  clear A50
  simp only [Option.some.injEq, Prod.mk.injEq] at H
  obtain ⟨rfl, rfl⟩ := H
  go_enter Tryd.func33, Tryd.ntmps33
  go_wp2_with (first | ((with_reducible refine gate_callee (f := 12) rfl ?_); refine goesL_ (some 8) rfl rfl Tryd.func12 (by kernel_rfl) rfl #[.int .u8 a0] rfl (by (try simp only [List.map_toArray, List.map_cons, List.map_nil]); first | done | rfl | (simp only [List.length_drop, List.length_take]; rfl)) ?_; (with_reducible refine (alu_Own.calls a0 t121 _ A3.out).mono ?_); rintro e w' ⟨rfl, ⟨nd, rfl⟩⟩; refine ⟨_, rfl, ?_⟩) | ((with_reducible refine gate_callee (f := 14) rfl ?_); refine goesL_ (some 10) rfl rfl Tryd.func14 (by kernel_rfl) rfl #[.int .u8 a0] rfl (by (try simp only [List.map_toArray, List.map_cons, List.map_nil]); first | done | rfl | (simp only [List.length_drop, List.length_take]; rfl)) ?_; (with_reducible refine (alu_Parity.calls a0 t122 _ A4.out).mono ?_); rintro e w' ⟨rfl, ⟨nd, rfl⟩⟩; refine ⟨_, rfl, ?_⟩) | ((with_reducible refine gate_callee (f := 24) rfl ?_); refine goesL_ (some 11) rfl rfl Tryd.func24 (by kernel_rfl) rfl #[.bool t122, .int .u8 4] rfl (by (try simp only [List.map_toArray, List.map_cons, List.map_nil]); first | done | rfl | (simp only [List.length_drop, List.length_take]; rfl)) ?_; (with_reducible refine (alu_if1.calls t122 4 t123 _ A5.out).mono ?_); rintro e w' ⟨rfl, ⟨nd, rfl⟩⟩; refine ⟨_, rfl, ?_⟩))
  go_ret2
  exact ⟨by first | rfl | (simp; done) | (simp [*]; done), by repeat (first | exact Drawn0.refl _ | apply Drawn0.step)⟩

/-! ### alu_And: function 20 -/
def alu_And.f (a0 : Int) (a1 : Int) : Option (Int × Int) := (alu_logic.f (Go.bits .and .u8 a0 a1) 16).bind fun bt124 => (some (bt124.1, bt124.2))
set_option maxHeartbeats 8000000 in
set_option maxRecDepth 100000 in
theorem alu_And.calls (a0 : Int) (a1 : Int) (r1 : Int) (r2 : Int) (w : World) (h : alu_And.f a0 a1 = some (r1, r2)) :
    Calls Tryd.prog 20 #[.int .u8 a0, .int .u8 a1] w fun e w' => e = .returned (.tuple #[.int .u8 r1, .int .u8 r2]) ∧ Drawn0 w w' := by
  have H : ((alu_logic.f (Go.bits .and .u8 a0 a1) 16).bind fun bt124 => (some (bt124.1, bt124.2))) = some (r1, r2) := h
  clear h
  replace H := Option.bind_eq_some_iff.mp H
  obtain ⟨⟨t124, t125⟩, A30, H⟩ := H
  replace H : (some (t124, t125)) = some (r1, r2) := H
  have A3 := Aside0.mk A30
  clear A30
  simp only [Option.some.injEq, Prod.mk.injEq] at H
  obtain ⟨rfl, rfl⟩ := H
  go_enter Tryd.func20, Tryd.ntmps20
  go_wp2_with (first | ((with_reducible refine gate_callee (f := 33) rfl ?_); refine goesL_ (some 9) rfl rfl Tryd.func33 (by kernel_rfl) rfl #[.int .u8 (Go.bits .and .u8 a0 a1), .int .u8 16] rfl (by (try simp only [List.map_toArray, List.map_cons, List.map_nil]); first | done | rfl | (simp only [List.length_drop, List.length_take]; rfl)) ?_; (with_reducible refine (alu_logic.calls (Go.bits .and .u8 a0 a1) 16 t124 t125 _ A3.out).mono ?_); rintro e w' ⟨rfl, ⟨nd, rfl⟩⟩; refine ⟨_, rfl, ?_⟩))
  go_ret2
  exact ⟨by first | rfl | (simp; done) | (simp [*]; done), by repeat (first | exact Drawn0.refl _ | apply Drawn0.step)⟩

/-! ### alu_Or: function 21 -/
def alu_Or.f (a0 : Int) (a1 : Int) : Option (Int × Int) := (alu_logic.f (Go.bits .or .u8 a0 a1) 0).bind fun bt126 => (some (bt126.1, bt126.2))
set_option maxHeartbeats 8000000 in
set_option maxRecDepth 100000 in
theorem alu_Or.calls (a0 : Int) (a1 : Int) (r1 : Int) (r2 : Int) (w : World) (h : alu_Or.f a0 a1 = some (r1, r2)) :
    Calls Tryd.prog 21 #[.int .u8 a0, .int .u8 a1] w fun e w' => e = .returned (.tuple #[.int .u8 r1, .int .u8 r2]) ∧ Drawn0 w w' := by
  have H : ((alu_logic.f (Go.bits .or .u8 a0 a1) 0).bind fun bt126 => (some (bt126.1, bt126.2))) = some (r1, r2) := h
  clear h
  replace H := Option.bind_eq_some_iff.mp H
  obtain ⟨⟨t126, t127⟩, A30, H⟩ := H
  replace H : (some (t126, t127)) = some (r1, r2) := H
  have A3 := Aside0.mk A30
  clear A30
  simp only [Option.some.injEq, Prod.mk.injEq] at H
  obtain ⟨rfl, rfl⟩ := H
  go_enter Tryd.func21, Tryd.ntmps21
  go_wp2_with (first | ((with_reducible refine gate_callee (f := 33) rfl ?_); refine goesL_ (some 9) rfl rfl Tryd.func33 (by kernel_rfl) rfl #[.int .u8 (Go.bits .or .u8 a0 a1), .int .u8 0] rfl (by (try simp only [List.map_toArray, List.map_cons, List.map_nil]); first | done | rfl | (simp only [List.length_drop, List.length_take]; rfl)) ?_; (with_reducible refine (alu_logic.calls (Go.bits .or .u8 a0 a1) 0 t126 t127 _ A3.out).mono ?_); rintro e w' ⟨rfl, ⟨nd, rfl⟩⟩; refine ⟨_, rfl, ?_⟩))
  go_ret2
  exact ⟨by first | rfl | (simp; done) | (simp [*]; done), by repeat (first | exact Drawn0.refl _ | apply Drawn0.step)⟩

/-! ### alu_Xor: function 22 -/
def alu_Xor.f (a0 : Int) (a1 : Int) : Option (Int × Int) := (alu_logic.f (Go.bits .xor .u8 a0 a1) 0).bind fun bt128 => (some (bt128.1, bt128.2))
set_option maxHeartbeats 8000000 in
set_option maxRecDepth 100000 in
theorem alu_Xor.calls (a0 : Int) (a1 : Int) (r1 : Int) (r2 : Int) (w : World) (h : alu_Xor.f a0 a1 = some (r1, r2)) :
    Calls Tryd.prog 22 #[.int .u8 a0, .int .u8 a1] w fun e w' => e = .returned (.tuple #[.int .u8 r1, .int .u8 r2]) ∧ Drawn0 w w' := by
  have H : ((alu_logic.f (Go.bits .xor .u8 a0 a1) 0).bind fun bt128 => (some (bt128.1, bt128.2))) = some (r1, r2) := h
  clear h
  replace H := Option.bind_eq_some_iff.mp H
  obtain ⟨⟨t128, t129⟩, A30, H⟩ := H
  replace H : (some (t128, t129)) = some (r1, r2) := H
  have A3 := Aside0.mk A30
  clear A30
  simp only [Option.some.injEq, Prod.mk.injEq] at H
  obtain ⟨rfl, rfl⟩ := H
  go_enter Tryd.func22, Tryd.ntmps22
  go_wp2_with (first | ((with_reducible refine gate_callee (f := 33) rfl ?_); refine goesL_ (some 9) rfl rfl Tryd.func33 (by kernel_rfl) rfl #[.int .u8 (Go.bits .xor .u8 a0 a1), .int .u8 0] rfl (by (try simp only [List.map_toArray, List.map_cons, List.map_nil]); first | done | rfl | (simp only [List.length_drop, List.length_take]; rfl)) ?_; (with_reducible refine (alu_logic.calls (Go.bits .xor .u8 a0 a1) 0 t128 t129 _ A3.out).mono ?_); rintro e w' ⟨rfl, ⟨nd, rfl⟩⟩; refine ⟨_, rfl, ?_⟩))
  go_ret2
  exact ⟨by first | rfl | (simp; done) | (simp [*]; done), by repeat (first | exact Drawn0.refl _ | apply Drawn0.step)⟩

/-! ### alu_Do: function 16, by hand -/
def alu_Do.f (a0 : Int) (a1 : Int) (a2 : Int) (a3 : Int) : Option (Int × Int) :=
  if Go.bits .and .i64 a0 7 = 0 then alu_Add.f a1 a2 false else if Go.bits .and .i64 a0 7 = 1 then alu_Add.f a1 a2 (Go.bits .and .u8 a3 1 != 0)
  else if Go.bits .and .i64 a0 7 = 2 then alu_Sub.f a1 a2 false else if Go.bits .and .i64 a0 7 = 3 then alu_Sub.f a1 a2 (Go.bits .and .u8 a3 1 != 0)
  else if Go.bits .and .i64 a0 7 = 4 then alu_And.f a1 a2 else if Go.bits .and .i64 a0 7 = 5 then alu_Xor.f a1 a2 else if Go.bits .and .i64 a0 7 = 6 then alu_Or.f a1 a2
  else if Go.bits .and .i64 a0 7 = 7 then (alu_Cp.f a1 a2).bind fun c => some (a1, c) else none
/-- The table of operators lies as the program's text lays it. -/
structure Table (w : World) : Prop where out : ∀ i : Nat, i < 8 → w.cell? ⟨0, i, none⟩ = some (.func (.func (51 + i)) #[] #[])
theorem Table.drewN {w : World} (h : Table w) (n : Nat) : Table (w.drewN n) := ⟨fun i hi => by
  have : ∀ n, (w.drewN n).cell? ⟨0, i, none⟩ = w.cell? ⟨0, i, none⟩ := fun n => rfl
  rw [this]; exact h.out i hi⟩
theorem Table.drawn {w w' : World} (h : Table w) (d : Drawn0 w w') : Table w' := by
  obtain ⟨n, rfl⟩ := d.out; exact h.drewN n
set_option maxHeartbeats 8000000 in
set_option maxRecDepth 100000 in
theorem alu_Do.c0 (a0 : Int) (a1 : Int) (a2 : Int) (a3 : Int) (r1 : Int) (r2 : Int) (w : World) (ho : Go.bits .and .i64 a0 7 = 0) (c : w.cell? ⟨0, 0, none⟩ = some (.func (.func 51) #[] #[])) (A : Aside0 (alu_Add.f a1 a2 false = some (r1, r2))) :
    Calls Tryd.prog 16 #[.int .i64 a0, .int .u8 a1, .int .u8 a2, .int .u8 a3] w fun e w' => e = .returned (.tuple #[.int .u8 r1, .int .u8 r2]) ∧ Drawn0 w w' := by
  go_enter Tryd.func16, Tryd.ntmps16
  go_wp2_with fail
  go_in
  go_wp2_with fail
  refine (alu_Add.calls a1 a2 false r1 r2 _ A.out).mono ?_
  rintro e w' ⟨rfl, ⟨nd, rfl⟩⟩
  go_wp2
  go_ret2
  exact ⟨rfl, Drawn0.step (Drawn0.refl _) _⟩
set_option maxHeartbeats 8000000 in
set_option maxRecDepth 100000 in
theorem alu_Do.c1 (a0 : Int) (a1 : Int) (a2 : Int) (a3 : Int) (r1 : Int) (r2 : Int) (w : World) (ho : Go.bits .and .i64 a0 7 = 1) (c : w.cell? ⟨0, 1, none⟩ = some (.func (.func 52) #[] #[])) (A : Aside0 (alu_Add.f a1 a2 (Go.bits .and .u8 a3 1 != 0) = some (r1, r2))) :
    Calls Tryd.prog 16 #[.int .i64 a0, .int .u8 a1, .int .u8 a2, .int .u8 a3] w fun e w' => e = .returned (.tuple #[.int .u8 r1, .int .u8 r2]) ∧ Drawn0 w w' := by
  go_enter Tryd.func16, Tryd.ntmps16
  go_wp2_with fail
  go_in
  go_wp2_with fail
  refine (alu_Add.calls a1 a2 (Go.bits .and .u8 a3 1 != 0) r1 r2 _ A.out).mono ?_
  rintro e w' ⟨rfl, ⟨nd, rfl⟩⟩
  go_wp2
  go_ret2
  exact ⟨rfl, Drawn0.step (Drawn0.refl _) _⟩
set_option maxHeartbeats 8000000 in
set_option maxRecDepth 100000 in
theorem alu_Do.c2 (a0 : Int) (a1 : Int) (a2 : Int) (a3 : Int) (r1 : Int) (r2 : Int) (w : World) (ho : Go.bits .and .i64 a0 7 = 2) (c : w.cell? ⟨0, 2, none⟩ = some (.func (.func 53) #[] #[])) (A : Aside0 (alu_Sub.f a1 a2 false = some (r1, r2))) :
    Calls Tryd.prog 16 #[.int .i64 a0, .int .u8 a1, .int .u8 a2, .int .u8 a3] w fun e w' => e = .returned (.tuple #[.int .u8 r1, .int .u8 r2]) ∧ Drawn0 w w' := by
  go_enter Tryd.func16, Tryd.ntmps16
  go_wp2_with fail
  go_in
  go_wp2_with fail
  refine (alu_Sub.calls a1 a2 false r1 r2 _ A.out).mono ?_
  rintro e w' ⟨rfl, ⟨nd, rfl⟩⟩
  go_wp2
  go_ret2
  exact ⟨rfl, Drawn0.step (Drawn0.refl _) _⟩
set_option maxHeartbeats 8000000 in
set_option maxRecDepth 100000 in
theorem alu_Do.c3 (a0 : Int) (a1 : Int) (a2 : Int) (a3 : Int) (r1 : Int) (r2 : Int) (w : World) (ho : Go.bits .and .i64 a0 7 = 3) (c : w.cell? ⟨0, 3, none⟩ = some (.func (.func 54) #[] #[])) (A : Aside0 (alu_Sub.f a1 a2 (Go.bits .and .u8 a3 1 != 0) = some (r1, r2))) :
    Calls Tryd.prog 16 #[.int .i64 a0, .int .u8 a1, .int .u8 a2, .int .u8 a3] w fun e w' => e = .returned (.tuple #[.int .u8 r1, .int .u8 r2]) ∧ Drawn0 w w' := by
  go_enter Tryd.func16, Tryd.ntmps16
  go_wp2_with fail
  go_in
  go_wp2_with fail
  refine (alu_Sub.calls a1 a2 (Go.bits .and .u8 a3 1 != 0) r1 r2 _ A.out).mono ?_
  rintro e w' ⟨rfl, ⟨nd, rfl⟩⟩
  go_wp2
  go_ret2
  exact ⟨rfl, Drawn0.step (Drawn0.refl _) _⟩
set_option maxHeartbeats 8000000 in
set_option maxRecDepth 100000 in
theorem alu_Do.c4 (a0 : Int) (a1 : Int) (a2 : Int) (a3 : Int) (r1 : Int) (r2 : Int) (w : World) (ho : Go.bits .and .i64 a0 7 = 4) (c : w.cell? ⟨0, 4, none⟩ = some (.func (.func 55) #[] #[])) (A : Aside0 (alu_And.f a1 a2 = some (r1, r2))) :
    Calls Tryd.prog 16 #[.int .i64 a0, .int .u8 a1, .int .u8 a2, .int .u8 a3] w fun e w' => e = .returned (.tuple #[.int .u8 r1, .int .u8 r2]) ∧ Drawn0 w w' := by
  go_enter Tryd.func16, Tryd.ntmps16
  go_wp2_with fail
  go_in
  go_wp2_with fail
  refine (alu_And.calls a1 a2 r1 r2 _ A.out).mono ?_
  rintro e w' ⟨rfl, ⟨nd, rfl⟩⟩
  go_wp2
  go_ret2
  exact ⟨rfl, Drawn0.step (Drawn0.refl _) _⟩
set_option maxHeartbeats 8000000 in
set_option maxRecDepth 100000 in
theorem alu_Do.c5 (a0 : Int) (a1 : Int) (a2 : Int) (a3 : Int) (r1 : Int) (r2 : Int) (w : World) (ho : Go.bits .and .i64 a0 7 = 5) (c : w.cell? ⟨0, 5, none⟩ = some (.func (.func 56) #[] #[])) (A : Aside0 (alu_Xor.f a1 a2 = some (r1, r2))) :
    Calls Tryd.prog 16 #[.int .i64 a0, .int .u8 a1, .int .u8 a2, .int .u8 a3] w fun e w' => e = .returned (.tuple #[.int .u8 r1, .int .u8 r2]) ∧ Drawn0 w w' := by
  go_enter Tryd.func16, Tryd.ntmps16
  go_wp2_with fail
  go_in
  go_wp2_with fail
  refine (alu_Xor.calls a1 a2 r1 r2 _ A.out).mono ?_
  rintro e w' ⟨rfl, ⟨nd, rfl⟩⟩
  go_wp2
  go_ret2
  exact ⟨rfl, Drawn0.step (Drawn0.refl _) _⟩
set_option maxHeartbeats 8000000 in
set_option maxRecDepth 100000 in
theorem alu_Do.c6 (a0 : Int) (a1 : Int) (a2 : Int) (a3 : Int) (r1 : Int) (r2 : Int) (w : World) (ho : Go.bits .and .i64 a0 7 = 6) (c : w.cell? ⟨0, 6, none⟩ = some (.func (.func 57) #[] #[])) (A : Aside0 (alu_Or.f a1 a2 = some (r1, r2))) :
    Calls Tryd.prog 16 #[.int .i64 a0, .int .u8 a1, .int .u8 a2, .int .u8 a3] w fun e w' => e = .returned (.tuple #[.int .u8 r1, .int .u8 r2]) ∧ Drawn0 w w' := by
  go_enter Tryd.func16, Tryd.ntmps16
  go_wp2_with fail
  go_in
  go_wp2_with fail
  refine (alu_Or.calls a1 a2 r1 r2 _ A.out).mono ?_
  rintro e w' ⟨rfl, ⟨nd, rfl⟩⟩
  go_wp2
  go_ret2
  exact ⟨rfl, Drawn0.step (Drawn0.refl _) _⟩
set_option maxHeartbeats 8000000 in
set_option maxRecDepth 100000 in
theorem alu_Do.c7 (a0 : Int) (a1 : Int) (a2 : Int) (a3 : Int) (r2 : Int) (w : World) (ho : Go.bits .and .i64 a0 7 = 7) (c : w.cell? ⟨0, 7, none⟩ = some (.func (.func 58) #[] #[])) (A : Aside0 (alu_Cp.f a1 a2 = some r2)) :
    Calls Tryd.prog 16 #[.int .i64 a0, .int .u8 a1, .int .u8 a2, .int .u8 a3] w fun e w' => e = .returned (.tuple #[.int .u8 a1, .int .u8 r2]) ∧ Drawn0 w w' := by
  go_enter Tryd.func16, Tryd.ntmps16
  go_wp2_with fail
  go_in
  go_wp2_with fail
  refine (alu_Cp.calls a1 a2 r2 _ A.out).mono ?_
  rintro e w' ⟨rfl, ⟨nd, rfl⟩⟩
  go_wp2
  go_ret2
  exact ⟨rfl, Drawn0.step (Drawn0.refl _) _⟩
theorem alu_Do.calls (a0 : Int) (a1 : Int) (a2 : Int) (a3 : Int) (r1 : Int) (r2 : Int) (w : World) (h : alu_Do.f a0 a1 a2 a3 = some (r1, r2)) (hT : Table w) :
    Calls Tryd.prog 16 #[.int .i64 a0, .int .u8 a1, .int .u8 a2, .int .u8 a3] w fun e w' => e = .returned (.tuple #[.int .u8 r1, .int .u8 r2]) ∧ Drawn0 w w' := by
  unfold alu_Do.f at h
  by_cases q0 : Go.bits .and .i64 a0 7 = 0
  · rw [if_pos q0] at h; exact alu_Do.c0 a0 a1 a2 a3 r1 r2 w q0 (hT.out 0 (by decide)) ⟨h⟩
  rw [if_neg q0] at h
  by_cases q1 : Go.bits .and .i64 a0 7 = 1
  · rw [if_pos q1] at h; exact alu_Do.c1 a0 a1 a2 a3 r1 r2 w q1 (hT.out 1 (by decide)) ⟨h⟩
  rw [if_neg q1] at h
  by_cases q2 : Go.bits .and .i64 a0 7 = 2
  · rw [if_pos q2] at h; exact alu_Do.c2 a0 a1 a2 a3 r1 r2 w q2 (hT.out 2 (by decide)) ⟨h⟩
  rw [if_neg q2] at h
  by_cases q3 : Go.bits .and .i64 a0 7 = 3
  · rw [if_pos q3] at h; exact alu_Do.c3 a0 a1 a2 a3 r1 r2 w q3 (hT.out 3 (by decide)) ⟨h⟩
  rw [if_neg q3] at h
  by_cases q4 : Go.bits .and .i64 a0 7 = 4
  · rw [if_pos q4] at h; exact alu_Do.c4 a0 a1 a2 a3 r1 r2 w q4 (hT.out 4 (by decide)) ⟨h⟩
  rw [if_neg q4] at h
  by_cases q5 : Go.bits .and .i64 a0 7 = 5
  · rw [if_pos q5] at h; exact alu_Do.c5 a0 a1 a2 a3 r1 r2 w q5 (hT.out 5 (by decide)) ⟨h⟩
  rw [if_neg q5] at h
  by_cases q6 : Go.bits .and .i64 a0 7 = 6
  · rw [if_pos q6] at h; exact alu_Do.c6 a0 a1 a2 a3 r1 r2 w q6 (hT.out 6 (by decide)) ⟨h⟩
  rw [if_neg q6] at h
  by_cases q7 : Go.bits .and .i64 a0 7 = 7
  · rw [if_pos q7] at h
    obtain ⟨c, hc, h⟩ := Option.bind_eq_some_iff.mp h
    simp only [Option.some.injEq, Prod.mk.injEq] at h
    obtain ⟨rfl, rfl⟩ := h
    exact alu_Do.c7 a0 a1 a2 a3 c w q7 (hT.out 7 (by decide)) ⟨hc⟩
  · rw [if_neg q7] at h; exact absurd h (by simp)

/-! ### alu_Inc: function 18 -/
def alu_Inc.f (a0 : Int) (a1 : Int) : Option (Int × Int) := (alu_Add.f a0 1 false).bind fun bt130 => (some (bt130.1, Go.bits .or .u8 (Go.bits .andNot .u8 bt130.2 1) (Go.bits .and .u8 a1 1)))
set_option maxHeartbeats 8000000 in
set_option maxRecDepth 100000 in
theorem alu_Inc.calls (a0 : Int) (a1 : Int) (r1 : Int) (r2 : Int) (w : World) (h : alu_Inc.f a0 a1 = some (r1, r2)) :
    Calls Tryd.prog 18 #[.int .u8 a0, .int .u8 a1] w fun e w' => e = .returned (.tuple #[.int .u8 r1, .int .u8 r2]) ∧ Drawn0 w w' := by
  have H : ((alu_Add.f a0 1 false).bind fun bt130 => (some (bt130.1, Go.bits .or .u8 (Go.bits .andNot .u8 bt130.2 1) (Go.bits .and .u8 a1 1)))) = some (r1, r2) := h
  clear h
  replace H := Option.bind_eq_some_iff.mp H
  obtain ⟨⟨t130, t131⟩, A30, H⟩ := H
  replace H : (some (t130, Go.bits .or .u8 (Go.bits .andNot .u8 t131 1) (Go.bits .and .u8 a1 1))) = some (r1, r2) := H
  have A3 := Aside0.mk A30
  clear A30
  simp only [Option.some.injEq, Prod.mk.injEq] at H
  obtain ⟨rfl, rfl⟩ := H
  go_enter Tryd.func18, Tryd.ntmps18
  go_wp2_with (first | ((with_reducible refine gate_callee (f := 6) rfl ?_); refine goesL_ (some 8) rfl rfl Tryd.func6 (by kernel_rfl) rfl #[.int .u8 a0, .int .u8 1, .bool false] rfl (by (try simp only [List.map_toArray, List.map_cons, List.map_nil]); first | done | rfl | (simp only [List.length_drop, List.length_take]; rfl)) ?_; (with_reducible refine (alu_Add.calls a0 1 false t130 t131 _ A3.out).mono ?_); rintro e w' ⟨rfl, ⟨nd, rfl⟩⟩; refine ⟨_, rfl, ?_⟩))
  go_ret2
  exact ⟨by first | rfl | (simp; done) | (simp [*]; done), by repeat (first | exact Drawn0.refl _ | apply Drawn0.step)⟩

/-! ### alu_Dec: function 23 -/
def alu_Dec.f (a0 : Int) (a1 : Int) : Option (Int × Int) := (alu_Sub.f a0 1 false).bind fun bt132 => (some (bt132.1, Go.bits .or .u8 (Go.bits .andNot .u8 bt132.2 1) (Go.bits .and .u8 a1 1)))
set_option maxHeartbeats 8000000 in
set_option maxRecDepth 100000 in
theorem alu_Dec.calls (a0 : Int) (a1 : Int) (r1 : Int) (r2 : Int) (w : World) (h : alu_Dec.f a0 a1 = some (r1, r2)) :
    Calls Tryd.prog 23 #[.int .u8 a0, .int .u8 a1] w fun e w' => e = .returned (.tuple #[.int .u8 r1, .int .u8 r2]) ∧ Drawn0 w w' := by
  have H : ((alu_Sub.f a0 1 false).bind fun bt132 => (some (bt132.1, Go.bits .or .u8 (Go.bits .andNot .u8 bt132.2 1) (Go.bits .and .u8 a1 1)))) = some (r1, r2) := h
  clear h
  replace H := Option.bind_eq_some_iff.mp H
  obtain ⟨⟨t132, t133⟩, A30, H⟩ := H
  replace H : (some (t132, Go.bits .or .u8 (Go.bits .andNot .u8 t133 1) (Go.bits .and .u8 a1 1))) = some (r1, r2) := H
  have A3 := Aside0.mk A30
  clear A30
  simp only [Option.some.injEq, Prod.mk.injEq] at H
  obtain ⟨rfl, rfl⟩ := H
  go_enter Tryd.func23, Tryd.ntmps23
  go_wp2_with (first | ((with_reducible refine gate_callee (f := 8) rfl ?_); refine goesL_ (some 8) rfl rfl Tryd.func8 (by kernel_rfl) rfl #[.int .u8 a0, .int .u8 1, .bool false] rfl (by (try simp only [List.map_toArray, List.map_cons, List.map_nil]); first | done | rfl | (simp only [List.length_drop, List.length_take]; rfl)) ?_; (with_reducible refine (alu_Sub.calls a0 1 false t132 t133 _ A3.out).mono ?_); rintro e w' ⟨rfl, ⟨nd, rfl⟩⟩; refine ⟨_, rfl, ?_⟩))
  go_ret2
  exact ⟨by first | rfl | (simp; done) | (simp [*]; done), by repeat (first | exact Drawn0.refl _ | apply Drawn0.step)⟩

end Go.Proofs.YtpmmneipfmbmlaaDoor.HAluSame
