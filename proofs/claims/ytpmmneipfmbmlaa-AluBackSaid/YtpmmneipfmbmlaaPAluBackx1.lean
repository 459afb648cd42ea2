-- PRINTED BY print.sh 35421559b90ae4d0a3588c463048766b98c2df88dd9212a6774a882060cdf62d: not written by this session
import Derived.Test.YtpmmneipfmbmlaaPAluBackx0
namespace Go.Proofs.Ytpmmneipfmbmlaa.PAluBack
open Go.RowKit Go.Proofs.YtpmmneipfmbmlaaW.PrintWords Go.Proofs.YtpmmneipfmbmlaaW.PrintLast Go.Proofs.YtpmmneipfmbmlaaW.PrintMore
attribute [local go_sem] max2_int min2_int max_two min_two max_three min_three max_four min_four   -- for this text's walks alone
set_option linter.unusedVariables false
set_option linter.unusedSimpArgs false

/-! ### alu_if1: function 90 -/
def alu_if1.f (a0 : Bool) (a1 : Int) : Option (Int) := if a0 = true then (some a1) else (some 0)
set_option maxHeartbeats 8000000 in
set_option maxRecDepth 100000 in
theorem alu_if1.calls (a0 : Bool) (a1 : Int) (r : Int) (w : World) (h : alu_if1.f a0 a1 = some r) :
    Calls Try.prog 90 #[.bool a0, .int .u8 a1] w fun e w' => e = .returned (.int .u8 r) ∧ Drawn0 w w' := by
  have H : (if a0 = true then (some a1) else (some 0)) = some r := h
  clear h
  by_cases c3 : a0 = true
  · subst c3
    have H1 : (some a1) = some r := by rw [if_pos rfl] at H; exact H
    clear H
    have H := H1
    clear H1
    obtain rfl := Option.some.inj H
    go_enter Try.func90, Try.ntmps90
    go_wp2
    go_ret
    exact ⟨by first | rfl | (simp; done) | (simp [*]; done), by repeat (first | exact Drawn0.refl _ | apply Drawn0.step)⟩
  · replace c3 := Bool.eq_false_iff.mpr c3
    subst c3
    have H1 : (some 0) = some r := by rw [if_neg (show ¬ (false = true) by decide)] at H; exact H
    clear H
    have H := H1
    clear H1
    obtain rfl := Option.some.inj H
    go_enter Try.func90, Try.ntmps90
    go_wp2
    go_ret
    exact ⟨by first | rfl | (simp; done) | (simp [*]; done), by repeat (first | exact Drawn0.refl _ | apply Drawn0.step)⟩

/-! ### alu_Own: function 91 -/
def alu_Own.f (a0 : Int) : Option (Int) := if a0 = 0 then (some (Go.bits .or .u8 (Go.bits .and .u8 a0 168) 64)) else (some (Go.bits .and .u8 a0 168))
set_option maxHeartbeats 8000000 in
set_option maxRecDepth 100000 in
theorem alu_Own.calls (a0 : Int) (r : Int) (w : World) (h : alu_Own.f a0 = some r) :
    Calls Try.prog 91 #[.int .u8 a0] w fun e w' => e = .returned (.int .u8 r) ∧ Drawn0 w w' := by
  have H : (if a0 = 0 then (some (Go.bits .or .u8 (Go.bits .and .u8 a0 168) 64)) else (some (Go.bits .and .u8 a0 168))) = some r := h
  clear h
  by_cases c2 : a0 = 0
  · rw [if_pos c2] at H
    have c2b0 : (a0 == 0) = true := beq_iff_eq.mpr c2
    have c2b1 : (a0 != 0) = false := bne_eq_false_iff_eq.mpr c2
    clear c2
    obtain rfl := Option.some.inj H
    go_enter Try.func91, Try.ntmps91
    go_wp2
    go_ret
    exact ⟨by first | rfl | (simp; done) | (simp [*]; done), by repeat (first | exact Drawn0.refl _ | apply Drawn0.step)⟩
  · rw [if_neg c2] at H
    have c2b0 : (a0 == 0) = false := beq_eq_false_iff_ne.mpr c2
    have c2b1 : (a0 != 0) = true := bne_iff_ne.mpr c2
    obtain rfl := Option.some.inj H
    go_enter Try.func91, Try.ntmps91
    go_wp2
    go_ret
    exact ⟨by first | rfl | (simp; done) | (simp [*]; done), by repeat (first | exact Drawn0.refl _ | apply Drawn0.step)⟩

/-! ### alu_Add: function 37 -/
def alu_Add.f (a0 : Int) (a1 : Int) (a2 : Bool) : Option (Int × Int) := (alu_if1.f a2 1).bind fun t101 => ((alu_Own.f ((wrap64 ((wrap64 ((wrap64 (a0)) + (wrap64 (a1)))) + (wrap64 (t101)))) % 256)).bind fun t102 => ((alu_if1.f (decide ((wrap64 ((wrap64 ((wrap64 (a0)) + (wrap64 (a1)))) + (wrap64 (t101)))) > 255)) 1).bind fun t103 => ((alu_if1.f (decide ((wrap64 ((wrap64 ((wrap64 (Go.bits .and .u8 a0 15)) + (wrap64 (Go.bits .and .u8 a1 15)))) + (wrap64 (t101)))) > 15)) 16).bind fun t104 => (if (wrap64 ((wrap64 ((wrap64 (IntKind.i8.wrap (a0))) + (wrap64 (IntKind.i8.wrap (a1))))) + (wrap64 (t101)))) < (-128) then ((alu_if1.f true 4).bind fun t105 => (some ((wrap64 ((wrap64 ((wrap64 (a0)) + (wrap64 (a1)))) + (wrap64 (t101)))) % 256, Go.bits .or .u8 (Go.bits .or .u8 (Go.bits .or .u8 t102 t103) t104) t105))) else ((alu_if1.f (decide ((wrap64 ((wrap64 ((wrap64 (IntKind.i8.wrap (a0))) + (wrap64 (IntKind.i8.wrap (a1))))) + (wrap64 (t101)))) > 127)) 4).bind fun t106 => (some ((wrap64 ((wrap64 ((wrap64 (a0)) + (wrap64 (a1)))) + (wrap64 (t101)))) % 256, Go.bits .or .u8 (Go.bits .or .u8 (Go.bits .or .u8 t102 t103) t104) t106)))))))
set_option maxHeartbeats 8000000 in
set_option maxRecDepth 100000 in
theorem alu_Add.calls (a0 : Int) (a1 : Int) (a2 : Bool) (r1 : Int) (r2 : Int) (w : World) (h : alu_Add.f a0 a1 a2 = some (r1, r2)) :
    Calls Try.prog 37 #[.int .u8 a0, .int .u8 a1, .bool a2] w fun e w' => e = .returned (.tuple #[.int .u8 r1, .int .u8 r2]) ∧ Drawn0 w w' := by
  have H : ((alu_if1.f a2 1).bind fun t101 => ((alu_Own.f ((wrap64 ((wrap64 ((wrap64 (a0)) + (wrap64 (a1)))) + (wrap64 (t101)))) % 256)).bind fun t102 => ((alu_if1.f (decide ((wrap64 ((wrap64 ((wrap64 (a0)) + (wrap64 (a1)))) + (wrap64 (t101)))) > 255)) 1).bind fun t103 => ((alu_if1.f (decide ((wrap64 ((wrap64 ((wrap64 (Go.bits .and .u8 a0 15)) + (wrap64 (Go.bits .and .u8 a1 15)))) + (wrap64 (t101)))) > 15)) 16).bind fun t104 => (if (wrap64 ((wrap64 ((wrap64 (IntKind.i8.wrap (a0))) + (wrap64 (IntKind.i8.wrap (a1))))) + (wrap64 (t101)))) < (-128) then ((alu_if1.f true 4).bind fun t105 => (some ((wrap64 ((wrap64 ((wrap64 (a0)) + (wrap64 (a1)))) + (wrap64 (t101)))) % 256, Go.bits .or .u8 (Go.bits .or .u8 (Go.bits .or .u8 t102 t103) t104) t105))) else ((alu_if1.f (decide ((wrap64 ((wrap64 ((wrap64 (IntKind.i8.wrap (a0))) + (wrap64 (IntKind.i8.wrap (a1))))) + (wrap64 (t101)))) > 127)) 4).bind fun t106 => (some ((wrap64 ((wrap64 ((wrap64 (a0)) + (wrap64 (a1)))) + (wrap64 (t101)))) % 256, Go.bits .or .u8 (Go.bits .or .u8 (Go.bits .or .u8 t102 t103) t104) t106)))))))) = some (r1, r2) := h
  clear h
  replace H := Option.bind_eq_some_iff.mp H
  obtain ⟨t101, A40, H⟩ := H
  replace H : ((alu_Own.f ((wrap64 ((wrap64 ((wrap64 (a0)) + (wrap64 (a1)))) + (wrap64 (t101)))) % 256)).bind fun t102 => ((alu_if1.f (decide ((wrap64 ((wrap64 ((wrap64 (a0)) + (wrap64 (a1)))) + (wrap64 (t101)))) > 255)) 1).bind fun t103 => ((alu_if1.f (decide ((wrap64 ((wrap64 ((wrap64 (Go.bits .and .u8 a0 15)) + (wrap64 (Go.bits .and .u8 a1 15)))) + (wrap64 (t101)))) > 15)) 16).bind fun t104 => (if (wrap64 ((wrap64 ((wrap64 (IntKind.i8.wrap (a0))) + (wrap64 (IntKind.i8.wrap (a1))))) + (wrap64 (t101)))) < (-128) then ((alu_if1.f true 4).bind fun t105 => (some ((wrap64 ((wrap64 ((wrap64 (a0)) + (wrap64 (a1)))) + (wrap64 (t101)))) % 256, Go.bits .or .u8 (Go.bits .or .u8 (Go.bits .or .u8 t102 t103) t104) t105))) else ((alu_if1.f (decide ((wrap64 ((wrap64 ((wrap64 (IntKind.i8.wrap (a0))) + (wrap64 (IntKind.i8.wrap (a1))))) + (wrap64 (t101)))) > 127)) 4).bind fun t106 => (some ((wrap64 ((wrap64 ((wrap64 (a0)) + (wrap64 (a1)))) + (wrap64 (t101)))) % 256, Go.bits .or .u8 (Go.bits .or .u8 (Go.bits .or .u8 t102 t103) t104) t106))))))) = some (r1, r2) := H
  have A4 := Aside0.mk A40
  clear A40
  replace H := Option.bind_eq_some_iff.mp H
  obtain ⟨t102, A50, H⟩ := H
  replace H : ((alu_if1.f (decide ((wrap64 ((wrap64 ((wrap64 (a0)) + (wrap64 (a1)))) + (wrap64 (t101)))) > 255)) 1).bind fun t103 => ((alu_if1.f (decide ((wrap64 ((wrap64 ((wrap64 (Go.bits .and .u8 a0 15)) + (wrap64 (Go.bits .and .u8 a1 15)))) + (wrap64 (t101)))) > 15)) 16).bind fun t104 => (if (wrap64 ((wrap64 ((wrap64 (IntKind.i8.wrap (a0))) + (wrap64 (IntKind.i8.wrap (a1))))) + (wrap64 (t101)))) < (-128) then ((alu_if1.f true 4).bind fun t105 => (some ((wrap64 ((wrap64 ((wrap64 (a0)) + (wrap64 (a1)))) + (wrap64 (t101)))) % 256, Go.bits .or .u8 (Go.bits .or .u8 (Go.bits .or .u8 t102 t103) t104) t105))) else ((alu_if1.f (decide ((wrap64 ((wrap64 ((wrap64 (IntKind.i8.wrap (a0))) + (wrap64 (IntKind.i8.wrap (a1))))) + (wrap64 (t101)))) > 127)) 4).bind fun t106 => (some ((wrap64 ((wrap64 ((wrap64 (a0)) + (wrap64 (a1)))) + (wrap64 (t101)))) % 256, Go.bits .or .u8 (Go.bits .or .u8 (Go.bits .or .u8 t102 t103) t104) t106)))))) = some (r1, r2) := H
  have A5 := Aside0.mk A50
  clear A50
  replace H := Option.bind_eq_some_iff.mp H
  obtain ⟨t103, A60, H⟩ := H
  replace H : ((alu_if1.f (decide ((wrap64 ((wrap64 ((wrap64 (Go.bits .and .u8 a0 15)) + (wrap64 (Go.bits .and .u8 a1 15)))) + (wrap64 (t101)))) > 15)) 16).bind fun t104 => (if (wrap64 ((wrap64 ((wrap64 (IntKind.i8.wrap (a0))) + (wrap64 (IntKind.i8.wrap (a1))))) + (wrap64 (t101)))) < (-128) then ((alu_if1.f true 4).bind fun t105 => (some ((wrap64 ((wrap64 ((wrap64 (a0)) + (wrap64 (a1)))) + (wrap64 (t101)))) % 256, Go.bits .or .u8 (Go.bits .or .u8 (Go.bits .or .u8 t102 t103) t104) t105))) else ((alu_if1.f (decide ((wrap64 ((wrap64 ((wrap64 (IntKind.i8.wrap (a0))) + (wrap64 (IntKind.i8.wrap (a1))))) + (wrap64 (t101)))) > 127)) 4).bind fun t106 => (some ((wrap64 ((wrap64 ((wrap64 (a0)) + (wrap64 (a1)))) + (wrap64 (t101)))) % 256, Go.bits .or .u8 (Go.bits .or .u8 (Go.bits .or .u8 t102 t103) t104) t106))))) = some (r1, r2) := H
  have A6 := Aside0.mk A60
  clear A60
  replace H := Option.bind_eq_some_iff.mp H
  obtain ⟨t104, A70, H⟩ := H
  replace H : (if (wrap64 ((wrap64 ((wrap64 (IntKind.i8.wrap (a0))) + (wrap64 (IntKind.i8.wrap (a1))))) + (wrap64 (t101)))) < (-128) then ((alu_if1.f true 4).bind fun t105 => (some ((wrap64 ((wrap64 ((wrap64 (a0)) + (wrap64 (a1)))) + (wrap64 (t101)))) % 256, Go.bits .or .u8 (Go.bits .or .u8 (Go.bits .or .u8 t102 t103) t104) t105))) else ((alu_if1.f (decide ((wrap64 ((wrap64 ((wrap64 (IntKind.i8.wrap (a0))) + (wrap64 (IntKind.i8.wrap (a1))))) + (wrap64 (t101)))) > 127)) 4).bind fun t106 => (some ((wrap64 ((wrap64 ((wrap64 (a0)) + (wrap64 (a1)))) + (wrap64 (t101)))) % 256, Go.bits .or .u8 (Go.bits .or .u8 (Go.bits .or .u8 t102 t103) t104) t106)))) = some (r1, r2) := H
  have A7 := Aside0.mk A70
  clear A70
  by_cases c8 : (wrap64 ((wrap64 ((wrap64 (IntKind.i8.wrap (a0))) + (wrap64 (IntKind.i8.wrap (a1))))) + (wrap64 (t101)))) < (-128)
  · rw [if_pos c8] at H
    have c8b0 : decide ((wrap64 ((wrap64 ((wrap64 (IntKind.i8.wrap (a0))) + (wrap64 (IntKind.i8.wrap (a1))))) + (wrap64 (t101)))) < (-128)) = true := decide_eq_true c8
    clear c8
    replace H := Option.bind_eq_some_iff.mp H
    obtain ⟨t105, A90, H⟩ := H
    replace H : (some ((wrap64 ((wrap64 ((wrap64 (a0)) + (wrap64 (a1)))) + (wrap64 (t101)))) % 256, Go.bits .or .u8 (Go.bits .or .u8 (Go.bits .or .u8 t102 t103) t104) t105)) = some (r1, r2) := H
    have A9 := Aside0.mk A90
    clear A90
    simp only [Option.some.injEq, Prod.mk.injEq] at H
    obtain ⟨rfl, rfl⟩ := H
    go_enter Try.func37, Try.ntmps37
    go_wp2_with (first | ((with_reducible refine gate_callee (f := 90) rfl ?_); refine goesL_ (some 12) rfl rfl Try.func90 (by kernel_rfl) rfl #[.bool a2, .int .u8 1] rfl (by (try simp only [List.map_toArray, List.map_cons, List.map_nil]); first | done | rfl | (simp only [List.length_drop, List.length_take]; rfl)) ?_; (with_reducible refine (alu_if1.calls a2 1 t101 _ A4.out).mono ?_); rintro e w' ⟨rfl, ⟨nd, rfl⟩⟩; refine ⟨_, rfl, ?_⟩) | ((with_reducible refine gate_callee (f := 91) rfl ?_); refine goesL_ (some 33) rfl rfl Try.func91 (by kernel_rfl) rfl #[.int .u8 ((wrap64 ((wrap64 ((wrap64 (a0)) + (wrap64 (a1)))) + (wrap64 (t101)))) % 256)] rfl (by (try simp only [List.map_toArray, List.map_cons, List.map_nil]); first | done | rfl | (simp only [List.length_drop, List.length_take]; rfl)) ?_; (with_reducible refine (alu_Own.calls ((wrap64 ((wrap64 ((wrap64 (a0)) + (wrap64 (a1)))) + (wrap64 (t101)))) % 256) t102 _ A5.out).mono ?_); rintro e w' ⟨rfl, ⟨nd, rfl⟩⟩; refine ⟨_, rfl, ?_⟩) | ((with_reducible refine gate_callee (f := 90) rfl ?_); refine goesL_ (some 36) rfl rfl Try.func90 (by kernel_rfl) rfl #[.bool (decide ((wrap64 ((wrap64 ((wrap64 (a0)) + (wrap64 (a1)))) + (wrap64 (t101)))) > 255)), .int .u8 1] rfl (by (try simp only [List.map_toArray, List.map_cons, List.map_nil]); first | done | rfl | (simp only [List.length_drop, List.length_take]; rfl)) ?_; (with_reducible refine (alu_if1.calls (decide ((wrap64 ((wrap64 ((wrap64 (a0)) + (wrap64 (a1)))) + (wrap64 (t101)))) > 255)) 1 t103 _ A6.out).mono ?_); rintro e w' ⟨rfl, ⟨nd, rfl⟩⟩; refine ⟨_, rfl, ?_⟩) | ((with_reducible refine gate_callee (f := 90) rfl ?_); refine goesL_ (some 48) rfl rfl Try.func90 (by kernel_rfl) rfl #[.bool (decide ((wrap64 ((wrap64 ((wrap64 (Go.bits .and .u8 a0 15)) + (wrap64 (Go.bits .and .u8 a1 15)))) + (wrap64 (t101)))) > 15)), .int .u8 16] rfl (by (try simp only [List.map_toArray, List.map_cons, List.map_nil]); first | done | rfl | (simp only [List.length_drop, List.length_take]; rfl)) ?_; (with_reducible refine (alu_if1.calls (decide ((wrap64 ((wrap64 ((wrap64 (Go.bits .and .u8 a0 15)) + (wrap64 (Go.bits .and .u8 a1 15)))) + (wrap64 (t101)))) > 15)) 16 t104 _ A7.out).mono ?_); rintro e w' ⟨rfl, ⟨nd, rfl⟩⟩; refine ⟨_, rfl, ?_⟩) | ((with_reducible refine gate_callee (f := 90) rfl ?_); refine goesL_ (some 56) rfl rfl Try.func90 (by kernel_rfl) rfl #[.bool true, .int .u8 4] rfl (by (try simp only [List.map_toArray, List.map_cons, List.map_nil]); first | done | rfl | (simp only [List.length_drop, List.length_take]; rfl)) ?_; (with_reducible refine (alu_if1.calls true 4 t105 _ A9.out).mono ?_); rintro e w' ⟨rfl, ⟨nd, rfl⟩⟩; refine ⟨_, rfl, ?_⟩))
    go_ret2
    exact ⟨by first | rfl | (simp; done) | (simp [*]; done), by repeat (first | exact Drawn0.refl _ | apply Drawn0.step)⟩
  · rw [if_neg c8] at H
    have c8b0 : decide ((wrap64 ((wrap64 ((wrap64 (IntKind.i8.wrap (a0))) + (wrap64 (IntKind.i8.wrap (a1))))) + (wrap64 (t101)))) < (-128)) = false := decide_eq_false c8
    clear c8
    replace H := Option.bind_eq_some_iff.mp H
    obtain ⟨t106, A100, H⟩ := H
    replace H : (some ((wrap64 ((wrap64 ((wrap64 (a0)) + (wrap64 (a1)))) + (wrap64 (t101)))) % 256, Go.bits .or .u8 (Go.bits .or .u8 (Go.bits .or .u8 t102 t103) t104) t106)) = some (r1, r2) := H
    have A10 := Aside0.mk A100
    clear A100
    simp only [Option.some.injEq, Prod.mk.injEq] at H
    obtain ⟨rfl, rfl⟩ := H
    go_enter Try.func37, Try.ntmps37
    go_wp2_with (first | ((with_reducible refine gate_callee (f := 90) rfl ?_); refine goesL_ (some 12) rfl rfl Try.func90 (by kernel_rfl) rfl #[.bool a2, .int .u8 1] rfl (by (try simp only [List.map_toArray, List.map_cons, List.map_nil]); first | done | rfl | (simp only [List.length_drop, List.length_take]; rfl)) ?_; (with_reducible refine (alu_if1.calls a2 1 t101 _ A4.out).mono ?_); rintro e w' ⟨rfl, ⟨nd, rfl⟩⟩; refine ⟨_, rfl, ?_⟩) | ((with_reducible refine gate_callee (f := 91) rfl ?_); refine goesL_ (some 33) rfl rfl Try.func91 (by kernel_rfl) rfl #[.int .u8 ((wrap64 ((wrap64 ((wrap64 (a0)) + (wrap64 (a1)))) + (wrap64 (t101)))) % 256)] rfl (by (try simp only [List.map_toArray, List.map_cons, List.map_nil]); first | done | rfl | (simp only [List.length_drop, List.length_take]; rfl)) ?_; (with_reducible refine (alu_Own.calls ((wrap64 ((wrap64 ((wrap64 (a0)) + (wrap64 (a1)))) + (wrap64 (t101)))) % 256) t102 _ A5.out).mono ?_); rintro e w' ⟨rfl, ⟨nd, rfl⟩⟩; refine ⟨_, rfl, ?_⟩) | ((with_reducible refine gate_callee (f := 90) rfl ?_); refine goesL_ (some 36) rfl rfl Try.func90 (by kernel_rfl) rfl #[.bool (decide ((wrap64 ((wrap64 ((wrap64 (a0)) + (wrap64 (a1)))) + (wrap64 (t101)))) > 255)), .int .u8 1] rfl (by (try simp only [List.map_toArray, List.map_cons, List.map_nil]); first | done | rfl | (simp only [List.length_drop, List.length_take]; rfl)) ?_; (with_reducible refine (alu_if1.calls (decide ((wrap64 ((wrap64 ((wrap64 (a0)) + (wrap64 (a1)))) + (wrap64 (t101)))) > 255)) 1 t103 _ A6.out).mono ?_); rintro e w' ⟨rfl, ⟨nd, rfl⟩⟩; refine ⟨_, rfl, ?_⟩) | ((with_reducible refine gate_callee (f := 90) rfl ?_); refine goesL_ (some 48) rfl rfl Try.func90 (by kernel_rfl) rfl #[.bool (decide ((wrap64 ((wrap64 ((wrap64 (Go.bits .and .u8 a0 15)) + (wrap64 (Go.bits .and .u8 a1 15)))) + (wrap64 (t101)))) > 15)), .int .u8 16] rfl (by (try simp only [List.map_toArray, List.map_cons, List.map_nil]); first | done | rfl | (simp only [List.length_drop, List.length_take]; rfl)) ?_; (with_reducible refine (alu_if1.calls (decide ((wrap64 ((wrap64 ((wrap64 (Go.bits .and .u8 a0 15)) + (wrap64 (Go.bits .and .u8 a1 15)))) + (wrap64 (t101)))) > 15)) 16 t104 _ A7.out).mono ?_); rintro e w' ⟨rfl, ⟨nd, rfl⟩⟩; refine ⟨_, rfl, ?_⟩) | ((with_reducible refine gate_callee (f := 90) rfl ?_); refine goesL_ (some 56) rfl rfl Try.func90 (by kernel_rfl) rfl #[.bool (decide ((wrap64 ((wrap64 ((wrap64 (IntKind.i8.wrap (a0))) + (wrap64 (IntKind.i8.wrap (a1))))) + (wrap64 (t101)))) > 127)), .int .u8 4] rfl (by (try simp only [List.map_toArray, List.map_cons, List.map_nil]); first | done | rfl | (simp only [List.length_drop, List.length_take]; rfl)) ?_; (with_reducible refine (alu_if1.calls (decide ((wrap64 ((wrap64 ((wrap64 (IntKind.i8.wrap (a0))) + (wrap64 (IntKind.i8.wrap (a1))))) + (wrap64 (t101)))) > 127)) 4 t106 _ A10.out).mono ?_); rintro e w' ⟨rfl, ⟨nd, rfl⟩⟩; refine ⟨_, rfl, ?_⟩))
    go_ret2
    exact ⟨by first | rfl | (simp; done) | (simp [*]; done), by repeat (first | exact Drawn0.refl _ | apply Drawn0.step)⟩

/-! ### alu_Sub: function 38 -/
def alu_Sub.f (a0 : Int) (a1 : Int) (a2 : Bool) : Option (Int × Int) := (alu_if1.f a2 1).bind fun t107 => ((alu_Own.f ((wrap64 ((wrap64 ((wrap64 (a0)) - (wrap64 (a1)))) - (wrap64 (t107)))) % 256)).bind fun t108 => ((alu_if1.f (decide ((wrap64 ((wrap64 ((wrap64 (a0)) - (wrap64 (a1)))) - (wrap64 (t107)))) < 0)) 1).bind fun t109 => ((alu_if1.f (decide ((wrap64 ((wrap64 ((wrap64 (Go.bits .and .u8 a0 15)) - (wrap64 (Go.bits .and .u8 a1 15)))) - (wrap64 (t107)))) < 0)) 16).bind fun t110 => (if (wrap64 ((wrap64 ((wrap64 (IntKind.i8.wrap (a0))) - (wrap64 (IntKind.i8.wrap (a1))))) - (wrap64 (t107)))) < (-128) then ((alu_if1.f true 4).bind fun t111 => (some ((wrap64 ((wrap64 ((wrap64 (a0)) - (wrap64 (a1)))) - (wrap64 (t107)))) % 256, Go.bits .or .u8 (Go.bits .or .u8 (Go.bits .or .u8 (Go.bits .or .u8 t108 2) t109) t110) t111))) else ((alu_if1.f (decide ((wrap64 ((wrap64 ((wrap64 (IntKind.i8.wrap (a0))) - (wrap64 (IntKind.i8.wrap (a1))))) - (wrap64 (t107)))) > 127)) 4).bind fun t112 => (some ((wrap64 ((wrap64 ((wrap64 (a0)) - (wrap64 (a1)))) - (wrap64 (t107)))) % 256, Go.bits .or .u8 (Go.bits .or .u8 (Go.bits .or .u8 (Go.bits .or .u8 t108 2) t109) t110) t112)))))))
set_option maxHeartbeats 8000000 in
set_option maxRecDepth 100000 in
theorem alu_Sub.calls (a0 : Int) (a1 : Int) (a2 : Bool) (r1 : Int) (r2 : Int) (w : World) (h : alu_Sub.f a0 a1 a2 = some (r1, r2)) :
    Calls Try.prog 38 #[.int .u8 a0, .int .u8 a1, .bool a2] w fun e w' => e = .returned (.tuple #[.int .u8 r1, .int .u8 r2]) ∧ Drawn0 w w' := by
  have H : ((alu_if1.f a2 1).bind fun t107 => ((alu_Own.f ((wrap64 ((wrap64 ((wrap64 (a0)) - (wrap64 (a1)))) - (wrap64 (t107)))) % 256)).bind fun t108 => ((alu_if1.f (decide ((wrap64 ((wrap64 ((wrap64 (a0)) - (wrap64 (a1)))) - (wrap64 (t107)))) < 0)) 1).bind fun t109 => ((alu_if1.f (decide ((wrap64 ((wrap64 ((wrap64 (Go.bits .and .u8 a0 15)) - (wrap64 (Go.bits .and .u8 a1 15)))) - (wrap64 (t107)))) < 0)) 16).bind fun t110 => (if (wrap64 ((wrap64 ((wrap64 (IntKind.i8.wrap (a0))) - (wrap64 (IntKind.i8.wrap (a1))))) - (wrap64 (t107)))) < (-128) then ((alu_if1.f true 4).bind fun t111 => (some ((wrap64 ((wrap64 ((wrap64 (a0)) - (wrap64 (a1)))) - (wrap64 (t107)))) % 256, Go.bits .or .u8 (Go.bits .or .u8 (Go.bits .or .u8 (Go.bits .or .u8 t108 2) t109) t110) t111))) else ((alu_if1.f (decide ((wrap64 ((wrap64 ((wrap64 (IntKind.i8.wrap (a0))) - (wrap64 (IntKind.i8.wrap (a1))))) - (wrap64 (t107)))) > 127)) 4).bind fun t112 => (some ((wrap64 ((wrap64 ((wrap64 (a0)) - (wrap64 (a1)))) - (wrap64 (t107)))) % 256, Go.bits .or .u8 (Go.bits .or .u8 (Go.bits .or .u8 (Go.bits .or .u8 t108 2) t109) t110) t112)))))))) = some (r1, r2) := h
  clear h
  replace H := Option.bind_eq_some_iff.mp H
  obtain ⟨t107, A40, H⟩ := H
  replace H : ((alu_Own.f ((wrap64 ((wrap64 ((wrap64 (a0)) - (wrap64 (a1)))) - (wrap64 (t107)))) % 256)).bind fun t108 => ((alu_if1.f (decide ((wrap64 ((wrap64 ((wrap64 (a0)) - (wrap64 (a1)))) - (wrap64 (t107)))) < 0)) 1).bind fun t109 => ((alu_if1.f (decide ((wrap64 ((wrap64 ((wrap64 (Go.bits .and .u8 a0 15)) - (wrap64 (Go.bits .and .u8 a1 15)))) - (wrap64 (t107)))) < 0)) 16).bind fun t110 => (if (wrap64 ((wrap64 ((wrap64 (IntKind.i8.wrap (a0))) - (wrap64 (IntKind.i8.wrap (a1))))) - (wrap64 (t107)))) < (-128) then ((alu_if1.f true 4).bind fun t111 => (some ((wrap64 ((wrap64 ((wrap64 (a0)) - (wrap64 (a1)))) - (wrap64 (t107)))) % 256, Go.bits .or .u8 (Go.bits .or .u8 (Go.bits .or .u8 (Go.bits .or .u8 t108 2) t109) t110) t111))) else ((alu_if1.f (decide ((wrap64 ((wrap64 ((wrap64 (IntKind.i8.wrap (a0))) - (wrap64 (IntKind.i8.wrap (a1))))) - (wrap64 (t107)))) > 127)) 4).bind fun t112 => (some ((wrap64 ((wrap64 ((wrap64 (a0)) - (wrap64 (a1)))) - (wrap64 (t107)))) % 256, Go.bits .or .u8 (Go.bits .or .u8 (Go.bits .or .u8 (Go.bits .or .u8 t108 2) t109) t110) t112))))))) = some (r1, r2) := H
  have A4 := Aside0.mk A40
  clear A40
  replace H := Option.bind_eq_some_iff.mp H
  obtain ⟨t108, A50, H⟩ := H
  replace H : ((alu_if1.f (decide ((wrap64 ((wrap64 ((wrap64 (a0)) - (wrap64 (a1)))) - (wrap64 (t107)))) < 0)) 1).bind fun t109 => ((alu_if1.f (decide ((wrap64 ((wrap64 ((wrap64 (Go.bits .and .u8 a0 15)) - (wrap64 (Go.bits .and .u8 a1 15)))) - (wrap64 (t107)))) < 0)) 16).bind fun t110 => (if (wrap64 ((wrap64 ((wrap64 (IntKind.i8.wrap (a0))) - (wrap64 (IntKind.i8.wrap (a1))))) - (wrap64 (t107)))) < (-128) then ((alu_if1.f true 4).bind fun t111 => (some ((wrap64 ((wrap64 ((wrap64 (a0)) - (wrap64 (a1)))) - (wrap64 (t107)))) % 256, Go.bits .or .u8 (Go.bits .or .u8 (Go.bits .or .u8 (Go.bits .or .u8 t108 2) t109) t110) t111))) else ((alu_if1.f (decide ((wrap64 ((wrap64 ((wrap64 (IntKind.i8.wrap (a0))) - (wrap64 (IntKind.i8.wrap (a1))))) - (wrap64 (t107)))) > 127)) 4).bind fun t112 => (some ((wrap64 ((wrap64 ((wrap64 (a0)) - (wrap64 (a1)))) - (wrap64 (t107)))) % 256, Go.bits .or .u8 (Go.bits .or .u8 (Go.bits .or .u8 (Go.bits .or .u8 t108 2) t109) t110) t112)))))) = some (r1, r2) := H
  have A5 := Aside0.mk A50
  clear A50
  replace H := Option.bind_eq_some_iff.mp H
  obtain ⟨t109, A60, H⟩ := H
  replace H : ((alu_if1.f (decide ((wrap64 ((wrap64 ((wrap64 (Go.bits .and .u8 a0 15)) - (wrap64 (Go.bits .and .u8 a1 15)))) - (wrap64 (t107)))) < 0)) 16).bind fun t110 => (if (wrap64 ((wrap64 ((wrap64 (IntKind.i8.wrap (a0))) - (wrap64 (IntKind.i8.wrap (a1))))) - (wrap64 (t107)))) < (-128) then ((alu_if1.f true 4).bind fun t111 => (some ((wrap64 ((wrap64 ((wrap64 (a0)) - (wrap64 (a1)))) - (wrap64 (t107)))) % 256, Go.bits .or .u8 (Go.bits .or .u8 (Go.bits .or .u8 (Go.bits .or .u8 t108 2) t109) t110) t111))) else ((alu_if1.f (decide ((wrap64 ((wrap64 ((wrap64 (IntKind.i8.wrap (a0))) - (wrap64 (IntKind.i8.wrap (a1))))) - (wrap64 (t107)))) > 127)) 4).bind fun t112 => (some ((wrap64 ((wrap64 ((wrap64 (a0)) - (wrap64 (a1)))) - (wrap64 (t107)))) % 256, Go.bits .or .u8 (Go.bits .or .u8 (Go.bits .or .u8 (Go.bits .or .u8 t108 2) t109) t110) t112))))) = some (r1, r2) := H
  have A6 := Aside0.mk A60
  clear A60
  replace H := Option.bind_eq_some_iff.mp H
  obtain ⟨t110, A70, H⟩ := H
  replace H : (if (wrap64 ((wrap64 ((wrap64 (IntKind.i8.wrap (a0))) - (wrap64 (IntKind.i8.wrap (a1))))) - (wrap64 (t107)))) < (-128) then ((alu_if1.f true 4).bind fun t111 => (some ((wrap64 ((wrap64 ((wrap64 (a0)) - (wrap64 (a1)))) - (wrap64 (t107)))) % 256, Go.bits .or .u8 (Go.bits .or .u8 (Go.bits .or .u8 (Go.bits .or .u8 t108 2) t109) t110) t111))) else ((alu_if1.f (decide ((wrap64 ((wrap64 ((wrap64 (IntKind.i8.wrap (a0))) - (wrap64 (IntKind.i8.wrap (a1))))) - (wrap64 (t107)))) > 127)) 4).bind fun t112 => (some ((wrap64 ((wrap64 ((wrap64 (a0)) - (wrap64 (a1)))) - (wrap64 (t107)))) % 256, Go.bits .or .u8 (Go.bits .or .u8 (Go.bits .or .u8 (Go.bits .or .u8 t108 2) t109) t110) t112)))) = some (r1, r2) := H
  have A7 := Aside0.mk A70
  clear A70
  by_cases c8 : (wrap64 ((wrap64 ((wrap64 (IntKind.i8.wrap (a0))) - (wrap64 (IntKind.i8.wrap (a1))))) - (wrap64 (t107)))) < (-128)
  · rw [if_pos c8] at H
    have c8b0 : decide ((wrap64 ((wrap64 ((wrap64 (IntKind.i8.wrap (a0))) - (wrap64 (IntKind.i8.wrap (a1))))) - (wrap64 (t107)))) < (-128)) = true := decide_eq_true c8
    clear c8
    replace H := Option.bind_eq_some_iff.mp H
    obtain ⟨t111, A90, H⟩ := H
    replace H : (some ((wrap64 ((wrap64 ((wrap64 (a0)) - (wrap64 (a1)))) - (wrap64 (t107)))) % 256, Go.bits .or .u8 (Go.bits .or .u8 (Go.bits .or .u8 (Go.bits .or .u8 t108 2) t109) t110) t111)) = some (r1, r2) := H
    have A9 := Aside0.mk A90
    clear A90
    simp only [Option.some.injEq, Prod.mk.injEq] at H
    obtain ⟨rfl, rfl⟩ := H
    go_enter Try.func38, Try.ntmps38
    go_wp2_with (first | ((with_reducible refine gate_callee (f := 90) rfl ?_); refine goesL_ (some 12) rfl rfl Try.func90 (by kernel_rfl) rfl #[.bool a2, .int .u8 1] rfl (by (try simp only [List.map_toArray, List.map_cons, List.map_nil]); first | done | rfl | (simp only [List.length_drop, List.length_take]; rfl)) ?_; (with_reducible refine (alu_if1.calls a2 1 t107 _ A4.out).mono ?_); rintro e w' ⟨rfl, ⟨nd, rfl⟩⟩; refine ⟨_, rfl, ?_⟩) | ((with_reducible refine gate_callee (f := 91) rfl ?_); refine goesL_ (some 33) rfl rfl Try.func91 (by kernel_rfl) rfl #[.int .u8 ((wrap64 ((wrap64 ((wrap64 (a0)) - (wrap64 (a1)))) - (wrap64 (t107)))) % 256)] rfl (by (try simp only [List.map_toArray, List.map_cons, List.map_nil]); first | done | rfl | (simp only [List.length_drop, List.length_take]; rfl)) ?_; (with_reducible refine (alu_Own.calls ((wrap64 ((wrap64 ((wrap64 (a0)) - (wrap64 (a1)))) - (wrap64 (t107)))) % 256) t108 _ A5.out).mono ?_); rintro e w' ⟨rfl, ⟨nd, rfl⟩⟩; refine ⟨_, rfl, ?_⟩) | ((with_reducible refine gate_callee (f := 90) rfl ?_); refine goesL_ (some 37) rfl rfl Try.func90 (by kernel_rfl) rfl #[.bool (decide ((wrap64 ((wrap64 ((wrap64 (a0)) - (wrap64 (a1)))) - (wrap64 (t107)))) < 0)), .int .u8 1] rfl (by (try simp only [List.map_toArray, List.map_cons, List.map_nil]); first | done | rfl | (simp only [List.length_drop, List.length_take]; rfl)) ?_; (with_reducible refine (alu_if1.calls (decide ((wrap64 ((wrap64 ((wrap64 (a0)) - (wrap64 (a1)))) - (wrap64 (t107)))) < 0)) 1 t109 _ A6.out).mono ?_); rintro e w' ⟨rfl, ⟨nd, rfl⟩⟩; refine ⟨_, rfl, ?_⟩) | ((with_reducible refine gate_callee (f := 90) rfl ?_); refine goesL_ (some 49) rfl rfl Try.func90 (by kernel_rfl) rfl #[.bool (decide ((wrap64 ((wrap64 ((wrap64 (Go.bits .and .u8 a0 15)) - (wrap64 (Go.bits .and .u8 a1 15)))) - (wrap64 (t107)))) < 0)), .int .u8 16] rfl (by (try simp only [List.map_toArray, List.map_cons, List.map_nil]); first | done | rfl | (simp only [List.length_drop, List.length_take]; rfl)) ?_; (with_reducible refine (alu_if1.calls (decide ((wrap64 ((wrap64 ((wrap64 (Go.bits .and .u8 a0 15)) - (wrap64 (Go.bits .and .u8 a1 15)))) - (wrap64 (t107)))) < 0)) 16 t110 _ A7.out).mono ?_); rintro e w' ⟨rfl, ⟨nd, rfl⟩⟩; refine ⟨_, rfl, ?_⟩) | ((with_reducible refine gate_callee (f := 90) rfl ?_); refine goesL_ (some 57) rfl rfl Try.func90 (by kernel_rfl) rfl #[.bool true, .int .u8 4] rfl (by (try simp only [List.map_toArray, List.map_cons, List.map_nil]); first | done | rfl | (simp only [List.length_drop, List.length_take]; rfl)) ?_; (with_reducible refine (alu_if1.calls true 4 t111 _ A9.out).mono ?_); rintro e w' ⟨rfl, ⟨nd, rfl⟩⟩; refine ⟨_, rfl, ?_⟩))
    go_ret2
    exact ⟨by first | rfl | (simp; done) | (simp [*]; done), by repeat (first | exact Drawn0.refl _ | apply Drawn0.step)⟩
  · rw [if_neg c8] at H
    have c8b0 : decide ((wrap64 ((wrap64 ((wrap64 (IntKind.i8.wrap (a0))) - (wrap64 (IntKind.i8.wrap (a1))))) - (wrap64 (t107)))) < (-128)) = false := decide_eq_false c8
    clear c8
    replace H := Option.bind_eq_some_iff.mp H
    obtain ⟨t112, A100, H⟩ := H
    replace H : (some ((wrap64 ((wrap64 ((wrap64 (a0)) - (wrap64 (a1)))) - (wrap64 (t107)))) % 256, Go.bits .or .u8 (Go.bits .or .u8 (Go.bits .or .u8 (Go.bits .or .u8 t108 2) t109) t110) t112)) = some (r1, r2) := H
    have A10 := Aside0.mk A100
    clear A100
    simp only [Option.some.injEq, Prod.mk.injEq] at H
    obtain ⟨rfl, rfl⟩ := H
    go_enter Try.func38, Try.ntmps38
    go_wp2_with (first | ((with_reducible refine gate_callee (f := 90) rfl ?_); refine goesL_ (some 12) rfl rfl Try.func90 (by kernel_rfl) rfl #[.bool a2, .int .u8 1] rfl (by (try simp only [List.map_toArray, List.map_cons, List.map_nil]); first | done | rfl | (simp only [List.length_drop, List.length_take]; rfl)) ?_; (with_reducible refine (alu_if1.calls a2 1 t107 _ A4.out).mono ?_); rintro e w' ⟨rfl, ⟨nd, rfl⟩⟩; refine ⟨_, rfl, ?_⟩) | ((with_reducible refine gate_callee (f := 91) rfl ?_); refine goesL_ (some 33) rfl rfl Try.func91 (by kernel_rfl) rfl #[.int .u8 ((wrap64 ((wrap64 ((wrap64 (a0)) - (wrap64 (a1)))) - (wrap64 (t107)))) % 256)] rfl (by (try simp only [List.map_toArray, List.map_cons, List.map_nil]); first | done | rfl | (simp only [List.length_drop, List.length_take]; rfl)) ?_; (with_reducible refine (alu_Own.calls ((wrap64 ((wrap64 ((wrap64 (a0)) - (wrap64 (a1)))) - (wrap64 (t107)))) % 256) t108 _ A5.out).mono ?_); rintro e w' ⟨rfl, ⟨nd, rfl⟩⟩; refine ⟨_, rfl, ?_⟩) | ((with_reducible refine gate_callee (f := 90) rfl ?_); refine goesL_ (some 37) rfl rfl Try.func90 (by kernel_rfl) rfl #[.bool (decide ((wrap64 ((wrap64 ((wrap64 (a0)) - (wrap64 (a1)))) - (wrap64 (t107)))) < 0)), .int .u8 1] rfl (by (try simp only [List.map_toArray, List.map_cons, List.map_nil]); first | done | rfl | (simp only [List.length_drop, List.length_take]; rfl)) ?_; (with_reducible refine (alu_if1.calls (decide ((wrap64 ((wrap64 ((wrap64 (a0)) - (wrap64 (a1)))) - (wrap64 (t107)))) < 0)) 1 t109 _ A6.out).mono ?_); rintro e w' ⟨rfl, ⟨nd, rfl⟩⟩; refine ⟨_, rfl, ?_⟩) | ((with_reducible refine gate_callee (f := 90) rfl ?_); refine goesL_ (some 49) rfl rfl Try.func90 (by kernel_rfl) rfl #[.bool (decide ((wrap64 ((wrap64 ((wrap64 (Go.bits .and .u8 a0 15)) - (wrap64 (Go.bits .and .u8 a1 15)))) - (wrap64 (t107)))) < 0)), .int .u8 16] rfl (by (try simp only [List.map_toArray, List.map_cons, List.map_nil]); first | done | rfl | (simp only [List.length_drop, List.length_take]; rfl)) ?_; (with_reducible refine (alu_if1.calls (decide ((wrap64 ((wrap64 ((wrap64 (Go.bits .and .u8 a0 15)) - (wrap64 (Go.bits .and .u8 a1 15)))) - (wrap64 (t107)))) < 0)) 16 t110 _ A7.out).mono ?_); rintro e w' ⟨rfl, ⟨nd, rfl⟩⟩; refine ⟨_, rfl, ?_⟩) | ((with_reducible refine gate_callee (f := 90) rfl ?_); refine goesL_ (some 57) rfl rfl Try.func90 (by kernel_rfl) rfl #[.bool (decide ((wrap64 ((wrap64 ((wrap64 (IntKind.i8.wrap (a0))) - (wrap64 (IntKind.i8.wrap (a1))))) - (wrap64 (t107)))) > 127)), .int .u8 4] rfl (by (try simp only [List.map_toArray, List.map_cons, List.map_nil]); first | done | rfl | (simp only [List.length_drop, List.length_take]; rfl)) ?_; (with_reducible refine (alu_if1.calls (decide ((wrap64 ((wrap64 ((wrap64 (IntKind.i8.wrap (a0))) - (wrap64 (IntKind.i8.wrap (a1))))) - (wrap64 (t107)))) > 127)) 4 t112 _ A10.out).mono ?_); rintro e w' ⟨rfl, ⟨nd, rfl⟩⟩; refine ⟨_, rfl, ?_⟩))
    go_ret2
    exact ⟨by first | rfl | (simp; done) | (simp [*]; done), by repeat (first | exact Drawn0.refl _ | apply Drawn0.step)⟩

/-! ### alu_Cp: function 89 -/
def alu_Cp.f (a0 : Int) (a1 : Int) : Option (Int) := (alu_Sub.f a0 a1 false).bind fun bt113 => (some (Go.bits .or .u8 (Go.bits .andNot .u8 bt113.2 40) (Go.bits .and .u8 a1 40)))
set_option maxHeartbeats 8000000 in
set_option maxRecDepth 100000 in
theorem alu_Cp.calls (a0 : Int) (a1 : Int) (r : Int) (w : World) (h : alu_Cp.f a0 a1 = some r) :
    Calls Try.prog 89 #[.int .u8 a0, .int .u8 a1] w fun e w' => e = .returned (.int .u8 r) ∧ Drawn0 w w' := by
  have H : ((alu_Sub.f a0 a1 false).bind fun bt113 => (some (Go.bits .or .u8 (Go.bits .andNot .u8 bt113.2 40) (Go.bits .and .u8 a1 40)))) = some r := h
  clear h
  replace H := Option.bind_eq_some_iff.mp H
  obtain ⟨⟨t113, t114⟩, A30, H⟩ := H
  replace H : (some (Go.bits .or .u8 (Go.bits .andNot .u8 t114 40) (Go.bits .and .u8 a1 40))) = some r := H
  have A3 := Aside0.mk A30
  clear A30
  obtain rfl := Option.some.inj H
  go_enter Try.func89, Try.ntmps89
  go_wp2_with (first | ((with_reducible refine gate_callee (f := 38) rfl ?_); refine goesL_ (some 8) rfl rfl Try.func38 (by kernel_rfl) rfl #[.int .u8 a0, .int .u8 a1, .bool false] rfl (by (try simp only [List.map_toArray, List.map_cons, List.map_nil]); first | done | rfl | (simp only [List.length_drop, List.length_take]; rfl)) ?_; (with_reducible refine (alu_Sub.calls a0 a1 false t113 t114 _ A3.out).mono ?_); rintro e w' ⟨rfl, ⟨nd, rfl⟩⟩; refine ⟨_, rfl, ?_⟩))
  go_ret
  exact ⟨by first | rfl | (simp; done) | (simp [*]; done), by repeat (first | exact Drawn0.refl _ | apply Drawn0.step)⟩

/-! ### pendulumlaw05_lives: function 36 -/
def pendulumlaw05_lives.f  : Option (Bool) := (alu_Add.f 127 1 false).bind fun bt115 => ((alu_Sub.f 0 1 false).bind fun bt117 => (if bt115.1 = 128 then (if bt115.2 = 148 then (if bt117.1 = 255 then (if bt117.2 = 187 then ((alu_Cp.f 16 40).bind fun t119 => (some (t119 == 187))) else (some false)) else (some false)) else (some false)) else (some false)))
set_option maxHeartbeats 8000000 in
set_option maxRecDepth 100000 in
theorem pendulumlaw05_lives.calls  (r : Bool) (w : World) (h : pendulumlaw05_lives.f  = some r) :
    Calls Try.prog 36 #[] w fun e w' => e = .returned (.bool r) ∧ Drawn0 w w' := by
  have H : ((alu_Add.f 127 1 false).bind fun bt115 => ((alu_Sub.f 0 1 false).bind fun bt117 => (if bt115.1 = 128 then (if bt115.2 = 148 then (if bt117.1 = 255 then (if bt117.2 = 187 then ((alu_Cp.f 16 40).bind fun t119 => (some (t119 == 187))) else (some false)) else (some false)) else (some false)) else (some false)))) = some r := h
  clear h
  replace H := Option.bind_eq_some_iff.mp H
  obtain ⟨⟨t115, t116⟩, A10, H⟩ := H
  replace H : ((alu_Sub.f 0 1 false).bind fun bt117 => (if t115 = 128 then (if t116 = 148 then (if bt117.1 = 255 then (if bt117.2 = 187 then ((alu_Cp.f 16 40).bind fun t119 => (some (t119 == 187))) else (some false)) else (some false)) else (some false)) else (some false))) = some r := H
  have A1 := Aside0.mk A10
  clear A10
  replace H := Option.bind_eq_some_iff.mp H
  obtain ⟨⟨t117, t118⟩, A20, H⟩ := H
  replace H : (if t115 = 128 then (if t116 = 148 then (if t117 = 255 then (if t118 = 187 then ((alu_Cp.f 16 40).bind fun t119 => (some (t119 == 187))) else (some false)) else (some false)) else (some false)) else (some false)) = some r := H
  have A2 := Aside0.mk A20
  clear A20
  by_cases c3 : t115 = 128
  · rw [if_pos c3] at H
    have c3b0 : (t115 == 128) = true := beq_iff_eq.mpr c3
    have c3b1 : (t115 != 128) = false := bne_eq_false_iff_eq.mpr c3
    clear c3
    by_cases c4 : t116 = 148
    · rw [if_pos c4] at H
      have c4b0 : (t116 == 148) = true := beq_iff_eq.mpr c4
      have c4b1 : (t116 != 148) = false := bne_eq_false_iff_eq.mpr c4
      clear c4
      by_cases c5 : t117 = 255
      · rw [if_pos c5] at H
        have c5b0 : (t117 == 255) = true := beq_iff_eq.mpr c5
        have c5b1 : (t117 != 255) = false := bne_eq_false_iff_eq.mpr c5
        clear c5
        by_cases c6 : t118 = 187
        · rw [if_pos c6] at H
          have c6b0 : (t118 == 187) = true := beq_iff_eq.mpr c6
          have c6b1 : (t118 != 187) = false := bne_eq_false_iff_eq.mpr c6
          clear c6
          replace H := Option.bind_eq_some_iff.mp H
          obtain ⟨t119, A70, H⟩ := H
          replace H : (some (t119 == 187)) = some r := H
          have A7 := Aside0.mk A70
          clear A70
          obtain rfl := Option.some.inj H
          go_enter Try.func36, Try.ntmps36
          go_wp2_with (first | ((with_reducible refine gate_callee (f := 37) rfl ?_); refine goesL_ (some 6) rfl rfl Try.func37 (by kernel_rfl) rfl #[.int .u8 127, .int .u8 1, .bool false] rfl (by (try simp only [List.map_toArray, List.map_cons, List.map_nil]); first | done | rfl | (simp only [List.length_drop, List.length_take]; rfl)) ?_; (with_reducible refine (alu_Add.calls 127 1 false t115 t116 _ A1.out).mono ?_); rintro e w' ⟨rfl, ⟨nd, rfl⟩⟩; refine ⟨_, rfl, ?_⟩) | ((with_reducible refine gate_callee (f := 38) rfl ?_); refine goesL_ (some 10) rfl rfl Try.func38 (by kernel_rfl) rfl #[.int .u8 0, .int .u8 1, .bool false] rfl (by (try simp only [List.map_toArray, List.map_cons, List.map_nil]); first | done | rfl | (simp only [List.length_drop, List.length_take]; rfl)) ?_; (with_reducible refine (alu_Sub.calls 0 1 false t117 t118 _ A2.out).mono ?_); rintro e w' ⟨rfl, ⟨nd, rfl⟩⟩; refine ⟨_, rfl, ?_⟩) | (go_at_call 89; (with_reducible refine (alu_Cp.calls 16 40 t119 _ A7.out).mono ?_); rintro e w' ⟨rfl, ⟨nd, rfl⟩⟩))
          go_ret
          exact ⟨by first | rfl | (simp; done) | (simp [*]; done), by repeat (first | exact Drawn0.refl _ | apply Drawn0.step)⟩
        · rw [if_neg c6] at H
          have c6b0 : (t118 == 187) = false := beq_eq_false_iff_ne.mpr c6
          have c6b1 : (t118 != 187) = true := bne_iff_ne.mpr c6
          obtain rfl := Option.some.inj H
          go_enter Try.func36, Try.ntmps36
          go_wp2_with (first | ((with_reducible refine gate_callee (f := 37) rfl ?_); refine goesL_ (some 6) rfl rfl Try.func37 (by kernel_rfl) rfl #[.int .u8 127, .int .u8 1, .bool false] rfl (by (try simp only [List.map_toArray, List.map_cons, List.map_nil]); first | done | rfl | (simp only [List.length_drop, List.length_take]; rfl)) ?_; (with_reducible refine (alu_Add.calls 127 1 false t115 t116 _ A1.out).mono ?_); rintro e w' ⟨rfl, ⟨nd, rfl⟩⟩; refine ⟨_, rfl, ?_⟩) | ((with_reducible refine gate_callee (f := 38) rfl ?_); refine goesL_ (some 10) rfl rfl Try.func38 (by kernel_rfl) rfl #[.int .u8 0, .int .u8 1, .bool false] rfl (by (try simp only [List.map_toArray, List.map_cons, List.map_nil]); first | done | rfl | (simp only [List.length_drop, List.length_take]; rfl)) ?_; (with_reducible refine (alu_Sub.calls 0 1 false t117 t118 _ A2.out).mono ?_); rintro e w' ⟨rfl, ⟨nd, rfl⟩⟩; refine ⟨_, rfl, ?_⟩))
          go_ret
          exact ⟨by first | rfl | (simp; done) | (simp [*]; done), by repeat (first | exact Drawn0.refl _ | apply Drawn0.step)⟩
      · rw [if_neg c5] at H
        have c5b0 : (t117 == 255) = false := beq_eq_false_iff_ne.mpr c5
        have c5b1 : (t117 != 255) = true := bne_iff_ne.mpr c5
        obtain rfl := Option.some.inj H
        go_enter Try.func36, Try.ntmps36
        go_wp2_with (first | ((with_reducible refine gate_callee (f := 37) rfl ?_); refine goesL_ (some 6) rfl rfl Try.func37 (by kernel_rfl) rfl #[.int .u8 127, .int .u8 1, .bool false] rfl (by (try simp only [List.map_toArray, List.map_cons, List.map_nil]); first | done | rfl | (simp only [List.length_drop, List.length_take]; rfl)) ?_; (with_reducible refine (alu_Add.calls 127 1 false t115 t116 _ A1.out).mono ?_); rintro e w' ⟨rfl, ⟨nd, rfl⟩⟩; refine ⟨_, rfl, ?_⟩) | ((with_reducible refine gate_callee (f := 38) rfl ?_); refine goesL_ (some 10) rfl rfl Try.func38 (by kernel_rfl) rfl #[.int .u8 0, .int .u8 1, .bool false] rfl (by (try simp only [List.map_toArray, List.map_cons, List.map_nil]); first | done | rfl | (simp only [List.length_drop, List.length_take]; rfl)) ?_; (with_reducible refine (alu_Sub.calls 0 1 false t117 t118 _ A2.out).mono ?_); rintro e w' ⟨rfl, ⟨nd, rfl⟩⟩; refine ⟨_, rfl, ?_⟩))
        go_ret
        exact ⟨by first | rfl | (simp; done) | (simp [*]; done), by repeat (first | exact Drawn0.refl _ | apply Drawn0.step)⟩
    · rw [if_neg c4] at H
      have c4b0 : (t116 == 148) = false := beq_eq_false_iff_ne.mpr c4
      have c4b1 : (t116 != 148) = true := bne_iff_ne.mpr c4
      obtain rfl := Option.some.inj H
      go_enter Try.func36, Try.ntmps36
      go_wp2_with (first | ((with_reducible refine gate_callee (f := 37) rfl ?_); refine goesL_ (some 6) rfl rfl Try.func37 (by kernel_rfl) rfl #[.int .u8 127, .int .u8 1, .bool false] rfl (by (try simp only [List.map_toArray, List.map_cons, List.map_nil]); first | done | rfl | (simp only [List.length_drop, List.length_take]; rfl)) ?_; (with_reducible refine (alu_Add.calls 127 1 false t115 t116 _ A1.out).mono ?_); rintro e w' ⟨rfl, ⟨nd, rfl⟩⟩; refine ⟨_, rfl, ?_⟩) | ((with_reducible refine gate_callee (f := 38) rfl ?_); refine goesL_ (some 10) rfl rfl Try.func38 (by kernel_rfl) rfl #[.int .u8 0, .int .u8 1, .bool false] rfl (by (try simp only [List.map_toArray, List.map_cons, List.map_nil]); first | done | rfl | (simp only [List.length_drop, List.length_take]; rfl)) ?_; (with_reducible refine (alu_Sub.calls 0 1 false t117 t118 _ A2.out).mono ?_); rintro e w' ⟨rfl, ⟨nd, rfl⟩⟩; refine ⟨_, rfl, ?_⟩))
      go_ret
      exact ⟨by first | rfl | (simp; done) | (simp [*]; done), by repeat (first | exact Drawn0.refl _ | apply Drawn0.step)⟩
  · rw [if_neg c3] at H
    have c3b0 : (t115 == 128) = false := beq_eq_false_iff_ne.mpr c3
    have c3b1 : (t115 != 128) = true := bne_iff_ne.mpr c3
    obtain rfl := Option.some.inj H
    go_enter Try.func36, Try.ntmps36
    go_wp2_with (first | ((with_reducible refine gate_callee (f := 37) rfl ?_); refine goesL_ (some 6) rfl rfl Try.func37 (by kernel_rfl) rfl #[.int .u8 127, .int .u8 1, .bool false] rfl (by (try simp only [List.map_toArray, List.map_cons, List.map_nil]); first | done | rfl | (simp only [List.length_drop, List.length_take]; rfl)) ?_; (with_reducible refine (alu_Add.calls 127 1 false t115 t116 _ A1.out).mono ?_); rintro e w' ⟨rfl, ⟨nd, rfl⟩⟩; refine ⟨_, rfl, ?_⟩) | ((with_reducible refine gate_callee (f := 38) rfl ?_); refine goesL_ (some 10) rfl rfl Try.func38 (by kernel_rfl) rfl #[.int .u8 0, .int .u8 1, .bool false] rfl (by (try simp only [List.map_toArray, List.map_cons, List.map_nil]); first | done | rfl | (simp only [List.length_drop, List.length_take]; rfl)) ?_; (with_reducible refine (alu_Sub.calls 0 1 false t117 t118 _ A2.out).mono ?_); rintro e w' ⟨rfl, ⟨nd, rfl⟩⟩; refine ⟨_, rfl, ?_⟩))
    go_ret
    exact ⟨by first | rfl | (simp; done) | (simp [*]; done), by repeat (first | exact Drawn0.refl _ | apply Drawn0.step)⟩

/-! ### pendulumlaw05_AluBack: function 6 -/
mutual
def pendulumlaw05_AluBack.j0 : Nat → Int → Int → Bool → Int → Option (Bool)
  | 0, _, _, _, _ => none
  | k + 1, x0, x1, x2, x7 => (alu_Add.f x0 x1 x2).bind fun bt121 => ((alu_Sub.f bt121.1 x1 x2).bind fun bt123 => (if bt123.1 = x0 then (if (((Go.bits .and .u8 bt121.2 1) != 0) != (decide ((wrap64 ((wrap64 ((wrap64 (x0)) + (wrap64 (x1)))) + x7)) > 255))) = true then (pendulumlaw05_AluBack.j1 k x0 x1 x7 bt121.1 bt121.2 bt123.1 bt123.2 (wrap64 ((wrap64 ((wrap64 (bt121.1)) - (wrap64 (x1)))) - x7)) true) else (if (wrap64 ((wrap64 (bt121.1)) + (wrap64 (256 * (wrap64 (Go.bits .and .u8 bt121.2 1)))))) = (wrap64 ((wrap64 ((wrap64 (x0)) + (wrap64 (x1)))) + x7)) then (if (((Go.bits .and .u8 bt121.2 64) != 0) != (bt121.1 == 0)) = true then (pendulumlaw05_AluBack.j1 k x0 x1 x7 bt121.1 bt121.2 bt123.1 bt123.2 (wrap64 ((wrap64 ((wrap64 (bt121.1)) - (wrap64 (x1)))) - x7)) true) else (if (Go.bits .and .u8 bt121.2 168) = (Go.bits .and .u8 bt121.1 168) then (pendulumlaw05_AluBack.j1 k x0 x1 x7 bt121.1 bt121.2 bt123.1 bt123.2 (wrap64 ((wrap64 ((wrap64 (bt121.1)) - (wrap64 (x1)))) - x7)) ((Go.bits .and .u8 bt121.2 2) != 0)) else (pendulumlaw05_AluBack.j1 k x0 x1 x7 bt121.1 bt121.2 bt123.1 bt123.2 (wrap64 ((wrap64 ((wrap64 (bt121.1)) - (wrap64 (x1)))) - x7)) true))) else (pendulumlaw05_AluBack.j1 k x0 x1 x7 bt121.1 bt121.2 bt123.1 bt123.2 (wrap64 ((wrap64 ((wrap64 (bt121.1)) - (wrap64 (x1)))) - x7)) true))) else (pendulumlaw05_AluBack.j1 k x0 x1 x7 bt121.1 bt121.2 bt123.1 bt123.2 (wrap64 ((wrap64 ((wrap64 (bt121.1)) - (wrap64 (x1)))) - x7)) true)))
def pendulumlaw05_AluBack.j1 : Nat → Int → Int → Int → Int → Int → Int → Int → Int → Bool → Option (Bool)
  | 0, _, _, _, _, _, _, _, _, _ => none
  | k + 1, x0, x1, x7, x8, x9, x10, x11, x13, x89 => if x89 = true then (some false) else (if (((Go.bits .and .u8 x9 4) != 0) != ((wrap64 ((wrap64 ((wrap64 (IntKind.i8.wrap (x0))) + (wrap64 (IntKind.i8.wrap (x1))))) + x7)) != (wrap64 (IntKind.i8.wrap (x8))))) = true then (some false) else (if (((Go.bits .and .u8 x11 1) != 0) != (decide (x13 < 0))) = true then (some false) else (if (((Go.bits .and .u8 x11 4) != 0) != ((wrap64 ((wrap64 ((wrap64 (IntKind.i8.wrap (x8))) - (wrap64 (IntKind.i8.wrap (x1))))) - x7)) != (wrap64 (IntKind.i8.wrap (x10))))) = true then (some false) else (if (Go.bits .and .u8 x11 2) = 0 then (some false) else (if (((Go.bits .and .u8 x11 1) != 0) == ((Go.bits .and .u8 x9 1) != 0)) = true then (some (((Go.bits .and .u8 x9 16) != 0) == (decide ((wrap64 ((wrap64 ((wrap64 (Int.tmod x0 16)) + (wrap64 (Int.tmod x1 16)))) + x7)) > 15)))) else (some false))))))
end
def pendulumlaw05_AluBack.f (k : Nat) (a0 : Int) (a1 : Int) (a2 : Bool) : Option (Bool) := (pendulumlaw05_lives.f).bind fun t120 => (if t120 = true then (if a2 = true then (pendulumlaw05_AluBack.j0 k a0 a1 a2 1) else (pendulumlaw05_AluBack.j0 k a0 a1 a2 0)) else (some false))
theorem pendulumlaw05_AluBack.mono_l : ∀ k, (∀ y0 y1 y2 y3, LeO (pendulumlaw05_AluBack.j0 k y0 y1 y2 y3) (pendulumlaw05_AluBack.j0 (k + 1) y0 y1 y2 y3)) ∧ (∀ y0 y1 y2 y3 y4 y5 y6 y7 y8, LeO (pendulumlaw05_AluBack.j1 k y0 y1 y2 y3 y4 y5 y6 y7 y8) (pendulumlaw05_AluBack.j1 (k + 1) y0 y1 y2 y3 y4 y5 y6 y7 y8))
  | 0 => ⟨fun _ _ _ _ r h => by simp [pendulumlaw05_AluBack.j0] at h, fun _ _ _ _ _ _ _ _ _ r h => by simp [pendulumlaw05_AluBack.j1] at h⟩
  | k + 1 => by
    obtain ⟨ih0, ih1⟩ := pendulumlaw05_AluBack.mono_l k
    refine ⟨?_, ?_⟩
    · intro y0 y1 y2 y3
      unfold pendulumlaw05_AluBack.j0
      repeat' first
      | (with_reducible exact ih0 _ _ _ _)
      | (with_reducible exact ih1 _ _ _ _ _ _ _ _ _)
      | (with_reducible exact LeO.refl _)
      | (with_reducible exact LeO.none _)
      | (with_reducible refine LeO.ite ?_ ?_)
      | (with_reducible refine LeO.bind ?_ (fun _ => ?_))
      | exact ih0 _ _ _ _
      | exact ih1 _ _ _ _ _ _ _ _ _
      | exact LeO.none _
      | refine LeO.ite ?_ ?_
      | refine LeO.bind ?_ (fun _ => ?_)
    · intro y0 y1 y2 y3 y4 y5 y6 y7 y8
      unfold pendulumlaw05_AluBack.j1
      repeat' first
      | (with_reducible exact ih0 _ _ _ _)
      | (with_reducible exact ih1 _ _ _ _ _ _ _ _ _)
      | (with_reducible exact LeO.refl _)
      | (with_reducible exact LeO.none _)
      | (with_reducible refine LeO.ite ?_ ?_)
      | (with_reducible refine LeO.bind ?_ (fun _ => ?_))
      | exact ih0 _ _ _ _
      | exact ih1 _ _ _ _ _ _ _ _ _
      | exact LeO.none _
      | refine LeO.ite ?_ ?_
      | refine LeO.bind ?_ (fun _ => ?_)
theorem pendulumlaw05_AluBack.mono : ∀ a0 a1 a2 k, LeO (pendulumlaw05_AluBack.f k a0 a1 a2) (pendulumlaw05_AluBack.f (k + 1) a0 a1 a2) := by
  intro a0 a1 a2 k
  obtain ⟨ih0, ih1⟩ := pendulumlaw05_AluBack.mono_l k
  unfold pendulumlaw05_AluBack.f
  repeat' first
      | (with_reducible exact ih0 _ _ _ _)
      | (with_reducible exact ih1 _ _ _ _ _ _ _ _ _)
      | (with_reducible exact LeO.refl _)
      | (with_reducible exact LeO.none _)
      | (with_reducible refine LeO.ite ?_ ?_)
      | (with_reducible refine LeO.bind ?_ (fun _ => ?_))
      | exact ih0 _ _ _ _
      | exact ih1 _ _ _ _ _ _ _ _ _
      | exact LeO.none _
      | refine LeO.ite ?_ ?_
      | refine LeO.bind ?_ (fun _ => ?_)
set_option maxHeartbeats 8000000 in
set_option maxRecDepth 100000 in
theorem pendulumlaw05_AluBack.calls (k : Nat) (a0 : Int) (a1 : Int) (a2 : Bool) (r : Bool) (w : World) (h : pendulumlaw05_AluBack.f k a0 a1 a2 = some r) :
    Calls Try.prog 6 #[.int .u8 a0, .int .u8 a1, .bool a2] w fun e w' => e = .returned (.bool r) ∧ Drawn0 w w' := by
  have H : ((pendulumlaw05_lives.f).bind fun t120 => (if t120 = true then (if a2 = true then (pendulumlaw05_AluBack.j0 k a0 a1 a2 1) else (pendulumlaw05_AluBack.j0 k a0 a1 a2 0)) else (some false))) = some r := h
  clear h
  replace H := Option.bind_eq_some_iff.mp H
  obtain ⟨t120, A40, H⟩ := H
  replace H : (if t120 = true then (if a2 = true then (pendulumlaw05_AluBack.j0 k a0 a1 a2 1) else (pendulumlaw05_AluBack.j0 k a0 a1 a2 0)) else (some false)) = some r := H
  have A4 := Aside0.mk A40
  clear A40
  by_cases c5 : t120 = true
  · subst c5
    have H1 : (if a2 = true then (pendulumlaw05_AluBack.j0 k a0 a1 a2 1) else (pendulumlaw05_AluBack.j0 k a0 a1 a2 0)) = some r := by rw [if_pos rfl] at H; exact H
    clear H
    have H := H1
    clear H1
    have HC6 := Aside0.mk H
    clear H
    go_enter Try.func6, Try.ntmps6
    go_upto_if 19 with (first | ((with_reducible refine gate_callee (f := 36) rfl ?_); refine goesL_ (some 17) rfl rfl Try.func36 (by kernel_rfl) rfl #[] rfl (by (try simp only [List.map_toArray, List.map_cons, List.map_nil]); first | done | rfl | (simp only [List.length_drop, List.length_take]; rfl)) ?_; (with_reducible refine (pendulumlaw05_lives.calls  true _ A4.out).mono ?_); rintro e w' ⟨rfl, ⟨nd, rfl⟩⟩; refine ⟨_, rfl, ?_⟩))
    (try simp only [Act.put, List.setIfInBounds_toArray, List.set_cons_zero, List.set_cons_succ])
    go_cut [7] (fun v7 wc => ∃ (kq : Nat) (x7_5 : Int), v7 = .int .i64 x7_5 ∧ Aside0 (pendulumlaw05_AluBack.j0 kq a0 a1 a2 x7_5 = some r) ∧ Aside0 (kq ≤ k) ∧ Drawn0 w wc)
    case first =>
      have H := HC6.out
      clear HC6
      by_cases c7 : a2 = true
      · subst c7
        have H1 : (pendulumlaw05_AluBack.j0 k a0 a1 true 1) = some r := by rw [if_pos rfl] at H; exact H
        clear H
        have H := H1
        clear H1
        have H' := Aside0.mk H
        clear H
        go_wp2
        go_meet
        case rel => exact ⟨_, (1), (by first | rfl | (simp; done) | (simp [*]; done)), H', ⟨by first | omega | exact Nat.le_refl _⟩, by repeat (first | exact Drawn0.refl _ | apply Drawn0.step)⟩
      · replace c7 := Bool.eq_false_iff.mpr c7
        subst c7
        have H1 : (pendulumlaw05_AluBack.j0 k a0 a1 false 0) = some r := by rw [if_neg (show ¬ (false = true) by decide)] at H; exact H
        clear H
        have H := H1
        clear H1
        have H' := Aside0.mk H
        clear H
        go_wp2
        go_meet
        case rel => exact ⟨_, (0), (by first | rfl | (simp; done) | (simp [*]; done)), H', ⟨by first | omega | exact Nat.le_refl _⟩, by repeat (first | exact Drawn0.refl _ | apply Drawn0.step)⟩
    case rest =>
      clear HC6
      try clear p2
      try clear c3
      try clear c5
      try clear c6
      try clear c7
      obtain ⟨kq, x7_5, rfl, HA, HJ5, ⟨mc5, rfl⟩⟩ := hcut
      cases kq with
      | zero => exact absurd HA.out (by simp [pendulumlaw05_AluBack.j0])
      | succ kj5 =>
        have H := HA.out
        clear HA
        simp only [pendulumlaw05_AluBack.j0] at H
        replace H := Option.bind_eq_some_iff.mp H
        obtain ⟨⟨t121, t122⟩, A80, H⟩ := H
        replace H : ((alu_Sub.f t121 a1 a2).bind fun bt123 => (if bt123.1 = a0 then (if (((Go.bits .and .u8 t122 1) != 0) != (decide ((wrap64 ((wrap64 ((wrap64 (a0)) + (wrap64 (a1)))) + x7_5)) > 255))) = true then (pendulumlaw05_AluBack.j1 kj5 a0 a1 x7_5 t121 t122 bt123.1 bt123.2 (wrap64 ((wrap64 ((wrap64 (t121)) - (wrap64 (a1)))) - x7_5)) true) else (if (wrap64 ((wrap64 (t121)) + (wrap64 (256 * (wrap64 (Go.bits .and .u8 t122 1)))))) = (wrap64 ((wrap64 ((wrap64 (a0)) + (wrap64 (a1)))) + x7_5)) then (if (((Go.bits .and .u8 t122 64) != 0) != (t121 == 0)) = true then (pendulumlaw05_AluBack.j1 kj5 a0 a1 x7_5 t121 t122 bt123.1 bt123.2 (wrap64 ((wrap64 ((wrap64 (t121)) - (wrap64 (a1)))) - x7_5)) true) else (if (Go.bits .and .u8 t122 168) = (Go.bits .and .u8 t121 168) then (pendulumlaw05_AluBack.j1 kj5 a0 a1 x7_5 t121 t122 bt123.1 bt123.2 (wrap64 ((wrap64 ((wrap64 (t121)) - (wrap64 (a1)))) - x7_5)) ((Go.bits .and .u8 t122 2) != 0)) else (pendulumlaw05_AluBack.j1 kj5 a0 a1 x7_5 t121 t122 bt123.1 bt123.2 (wrap64 ((wrap64 ((wrap64 (t121)) - (wrap64 (a1)))) - x7_5)) true))) else (pendulumlaw05_AluBack.j1 kj5 a0 a1 x7_5 t121 t122 bt123.1 bt123.2 (wrap64 ((wrap64 ((wrap64 (t121)) - (wrap64 (a1)))) - x7_5)) true))) else (pendulumlaw05_AluBack.j1 kj5 a0 a1 x7_5 t121 t122 bt123.1 bt123.2 (wrap64 ((wrap64 ((wrap64 (t121)) - (wrap64 (a1)))) - x7_5)) true))) = some r := H
        have A8 := Aside0.mk A80
        clear A80
        replace H := Option.bind_eq_some_iff.mp H
        obtain ⟨⟨t123, t124⟩, A90, H⟩ := H
        replace H : (if t123 = a0 then (if (((Go.bits .and .u8 t122 1) != 0) != (decide ((wrap64 ((wrap64 ((wrap64 (a0)) + (wrap64 (a1)))) + x7_5)) > 255))) = true then (pendulumlaw05_AluBack.j1 kj5 a0 a1 x7_5 t121 t122 t123 t124 (wrap64 ((wrap64 ((wrap64 (t121)) - (wrap64 (a1)))) - x7_5)) true) else (if (wrap64 ((wrap64 (t121)) + (wrap64 (256 * (wrap64 (Go.bits .and .u8 t122 1)))))) = (wrap64 ((wrap64 ((wrap64 (a0)) + (wrap64 (a1)))) + x7_5)) then (if (((Go.bits .and .u8 t122 64) != 0) != (t121 == 0)) = true then (pendulumlaw05_AluBack.j1 kj5 a0 a1 x7_5 t121 t122 t123 t124 (wrap64 ((wrap64 ((wrap64 (t121)) - (wrap64 (a1)))) - x7_5)) true) else (if (Go.bits .and .u8 t122 168) = (Go.bits .and .u8 t121 168) then (pendulumlaw05_AluBack.j1 kj5 a0 a1 x7_5 t121 t122 t123 t124 (wrap64 ((wrap64 ((wrap64 (t121)) - (wrap64 (a1)))) - x7_5)) ((Go.bits .and .u8 t122 2) != 0)) else (pendulumlaw05_AluBack.j1 kj5 a0 a1 x7_5 t121 t122 t123 t124 (wrap64 ((wrap64 ((wrap64 (t121)) - (wrap64 (a1)))) - x7_5)) true))) else (pendulumlaw05_AluBack.j1 kj5 a0 a1 x7_5 t121 t122 t123 t124 (wrap64 ((wrap64 ((wrap64 (t121)) - (wrap64 (a1)))) - x7_5)) true))) else (pendulumlaw05_AluBack.j1 kj5 a0 a1 x7_5 t121 t122 t123 t124 (wrap64 ((wrap64 ((wrap64 (t121)) - (wrap64 (a1)))) - x7_5)) true)) = some r := H
        have A9 := Aside0.mk A90
        clear A90
        have HC10 := Aside0.mk H
        clear H
        go_upto_region 9 with (first | ((with_reducible refine gate_callee (f := 37) rfl ?_); refine goesL_ (some 24) rfl rfl Try.func37 (by kernel_rfl) rfl #[.int .u8 a0, .int .u8 a1, .bool a2] rfl (by (try simp only [List.map_toArray, List.map_cons, List.map_nil]); first | done | rfl | (simp only [List.length_drop, List.length_take]; rfl)) ?_; (with_reducible refine (alu_Add.calls a0 a1 a2 t121 t122 _ A8.out).mono ?_); rintro e w' ⟨rfl, ⟨nd, rfl⟩⟩; refine ⟨_, rfl, ?_⟩) | ((with_reducible refine gate_callee (f := 38) rfl ?_); refine goesL_ (some 31) rfl rfl Try.func38 (by kernel_rfl) rfl #[.int .u8 t121, .int .u8 a1, .bool a2] rfl (by (try simp only [List.map_toArray, List.map_cons, List.map_nil]); first | done | rfl | (simp only [List.length_drop, List.length_take]; rfl)) ?_; (with_reducible refine (alu_Sub.calls t121 a1 a2 t123 t124 _ A9.out).mono ?_); rintro e w' ⟨rfl, ⟨nd, rfl⟩⟩; refine ⟨_, rfl, ?_⟩))
        (try simp only [Act.put, List.setIfInBounds_toArray, List.set_cons_zero, List.set_cons_succ])
        go_cut [89] (fun v89 wc => ∃ (kq : Nat) (x89_9 : Bool), v89 = .bool x89_9 ∧ Aside0 (pendulumlaw05_AluBack.j1 kq a0 a1 x7_5 t121 t122 t123 t124 (wrap64 ((wrap64 ((wrap64 (t121)) - (wrap64 (a1)))) - x7_5)) x89_9 = some r) ∧ Aside0 (kq ≤ kj5) ∧ Drawn0 w wc)
        case first =>
          have H := HC10.out
          clear HC10
          by_cases c11 : t123 = a0
          · rw [if_pos c11] at H
            have c11b0 : (t123 == a0) = true := beq_iff_eq.mpr c11
            have c11b1 : (t123 != a0) = false := bne_eq_false_iff_eq.mpr c11
            clear c11
            (first | rw [c11b0] | (simp only [i64_w, i32_w]; rw [c11b0]) | skip)
            by_cases c12 : (((Go.bits .and .u8 t122 1) != 0) != (decide ((wrap64 ((wrap64 ((wrap64 (a0)) + (wrap64 (a1)))) + x7_5)) > 255))) = true
            · rw [if_pos c12] at H
              have c12b0 : (((Go.bits .and .u8 t122 1) != 0) != (decide ((wrap64 ((wrap64 ((wrap64 (a0)) + (wrap64 (a1)))) + x7_5)) > 255))) = true := c12
              (try (have c12b1 : decide (((Go.bits .and .u8 t122 1) != 0) = (decide ((wrap64 ((wrap64 ((wrap64 (a0)) + (wrap64 (a1)))) + x7_5)) > 255))) = false := by simpa using c12))
              (try (have c12b2 : (((Go.bits .and .u8 t122 1) != 0) == (decide ((wrap64 ((wrap64 ((wrap64 (a0)) + (wrap64 (a1)))) + x7_5)) > 255))) = false := by simpa using c12))
              (try (have c12b3 : ¬ (((Go.bits .and .u8 t122 1) != 0) = (decide ((wrap64 ((wrap64 ((wrap64 (a0)) + (wrap64 (a1)))) + x7_5)) > 255))) := by simpa using c12))
              clear c12
              have H' := Aside0.mk H
              clear H
              go_wp2
              go_meet
              case rel => exact ⟨_, (true), (by first | rfl | (simp; done) | (simp [*]; done)), H', ⟨by have := HJ5.out; first | omega | exact Nat.le_refl _⟩, by repeat (first | exact Drawn0.refl _ | apply Drawn0.step)⟩
            · rw [if_neg c12] at H
              have c12b0 : (((Go.bits .and .u8 t122 1) != 0) != (decide ((wrap64 ((wrap64 ((wrap64 (a0)) + (wrap64 (a1)))) + x7_5)) > 255))) = false := by simpa using c12
              (try (have c12b1 : decide (((Go.bits .and .u8 t122 1) != 0) = (decide ((wrap64 ((wrap64 ((wrap64 (a0)) + (wrap64 (a1)))) + x7_5)) > 255))) = true := by simpa using c12))
              (try (have c12b2 : (((Go.bits .and .u8 t122 1) != 0) == (decide ((wrap64 ((wrap64 ((wrap64 (a0)) + (wrap64 (a1)))) + x7_5)) > 255))) = true := by simpa using c12))
              clear c12
              by_cases c13 : (wrap64 ((wrap64 (t121)) + (wrap64 (256 * (wrap64 (Go.bits .and .u8 t122 1)))))) = (wrap64 ((wrap64 ((wrap64 (a0)) + (wrap64 (a1)))) + x7_5))
              · rw [if_pos c13] at H
                have c13b0 : ((wrap64 ((wrap64 (t121)) + (wrap64 (256 * (wrap64 (Go.bits .and .u8 t122 1)))))) == (wrap64 ((wrap64 ((wrap64 (a0)) + (wrap64 (a1)))) + x7_5))) = true := beq_iff_eq.mpr c13
                have c13b1 : ((wrap64 ((wrap64 (t121)) + (wrap64 (256 * (wrap64 (Go.bits .and .u8 t122 1)))))) != (wrap64 ((wrap64 ((wrap64 (a0)) + (wrap64 (a1)))) + x7_5))) = false := bne_eq_false_iff_eq.mpr c13
                clear c13
                by_cases c14 : (((Go.bits .and .u8 t122 64) != 0) != (t121 == 0)) = true
                · rw [if_pos c14] at H
                  have c14b0 : (((Go.bits .and .u8 t122 64) != 0) != (t121 == 0)) = true := c14
                  (try (have c14b1 : decide (((Go.bits .and .u8 t122 64) != 0) = (t121 == 0)) = false := by simpa using c14))
                  (try (have c14b2 : (((Go.bits .and .u8 t122 64) != 0) == (t121 == 0)) = false := by simpa using c14))
                  (try (have c14b3 : ¬ (((Go.bits .and .u8 t122 64) != 0) = (t121 == 0)) := by simpa using c14))
                  clear c14
                  have H' := Aside0.mk H
                  clear H
                  go_wp2
                  go_meet
                  case rel => exact ⟨_, (true), (by first | rfl | (simp; done) | (simp [*]; done)), H', ⟨by have := HJ5.out; first | omega | exact Nat.le_refl _⟩, by repeat (first | exact Drawn0.refl _ | apply Drawn0.step)⟩
                · rw [if_neg c14] at H
                  have c14b0 : (((Go.bits .and .u8 t122 64) != 0) != (t121 == 0)) = false := by simpa using c14
                  (try (have c14b1 : decide (((Go.bits .and .u8 t122 64) != 0) = (t121 == 0)) = true := by simpa using c14))
                  (try (have c14b2 : (((Go.bits .and .u8 t122 64) != 0) == (t121 == 0)) = true := by simpa using c14))
                  clear c14
                  by_cases c15 : (Go.bits .and .u8 t122 168) = (Go.bits .and .u8 t121 168)
                  · rw [if_pos c15] at H
                    have c15b0 : ((Go.bits .and .u8 t122 168) == (Go.bits .and .u8 t121 168)) = true := beq_iff_eq.mpr c15
                    have c15b1 : ((Go.bits .and .u8 t122 168) != (Go.bits .and .u8 t121 168)) = false := bne_eq_false_iff_eq.mpr c15
                    clear c15
                    have H' := Aside0.mk H
                    clear H
                    go_wp2
                    go_meet
                    case rel => exact ⟨_, (((Go.bits .and .u8 t122 2) != 0)), (by first | rfl | (simp; done) | (simp [*]; done)), H', ⟨by have := HJ5.out; first | omega | exact Nat.le_refl _⟩, by repeat (first | exact Drawn0.refl _ | apply Drawn0.step)⟩
                  · rw [if_neg c15] at H
                    have c15b0 : ((Go.bits .and .u8 t122 168) == (Go.bits .and .u8 t121 168)) = false := beq_eq_false_iff_ne.mpr c15
                    have c15b1 : ((Go.bits .and .u8 t122 168) != (Go.bits .and .u8 t121 168)) = true := bne_iff_ne.mpr c15
                    have H' := Aside0.mk H
                    clear H
                    go_wp2
                    go_meet
                    case rel => exact ⟨_, (true), (by first | rfl | (simp; done) | (simp [*]; done)), H', ⟨by have := HJ5.out; first | omega | exact Nat.le_refl _⟩, by repeat (first | exact Drawn0.refl _ | apply Drawn0.step)⟩
              · rw [if_neg c13] at H
                have c13b0 : ((wrap64 ((wrap64 (t121)) + (wrap64 (256 * (wrap64 (Go.bits .and .u8 t122 1)))))) == (wrap64 ((wrap64 ((wrap64 (a0)) + (wrap64 (a1)))) + x7_5))) = false := beq_eq_false_iff_ne.mpr c13
                have c13b1 : ((wrap64 ((wrap64 (t121)) + (wrap64 (256 * (wrap64 (Go.bits .and .u8 t122 1)))))) != (wrap64 ((wrap64 ((wrap64 (a0)) + (wrap64 (a1)))) + x7_5))) = true := bne_iff_ne.mpr c13
                have H' := Aside0.mk H
                clear H
                go_wp2
                go_meet
                case rel => exact ⟨_, (true), (by first | rfl | (simp; done) | (simp [*]; done)), H', ⟨by have := HJ5.out; first | omega | exact Nat.le_refl _⟩, by repeat (first | exact Drawn0.refl _ | apply Drawn0.step)⟩
          · rw [if_neg c11] at H
            have c11b0 : (t123 == a0) = false := beq_eq_false_iff_ne.mpr c11
            have c11b1 : (t123 != a0) = true := bne_iff_ne.mpr c11
            (first | rw [c11b0] | (simp only [i64_w, i32_w]; rw [c11b0]) | skip)
            have H' := Aside0.mk H
            clear H
            go_wp2
            go_meet
            case rel => exact ⟨_, (true), (by first | rfl | (simp; done) | (simp [*]; done)), H', ⟨by have := HJ5.out; first | omega | exact Nat.le_refl _⟩, by repeat (first | exact Drawn0.refl _ | apply Drawn0.step)⟩
        case rest =>
          clear HC10
          try clear c1
          try clear p2
          try clear c3
          try clear c5
          try clear c6
          try clear p6
          try clear c7
          try clear c11
          try clear c11b0
          try clear c11b1
          try clear c12
          try clear c12b0
          try clear c12b1
          try clear c12b2
          try clear c13
          try clear c13b0
          try clear c13b1
          try clear c14
          try clear c14b0
          try clear c14b1
          try clear c14b2
          try clear c15
          try clear c15b0
          try clear c15b1
          try clear p2
          obtain ⟨kq, x89_9, rfl, HA, HJ9, ⟨mc9, rfl⟩⟩ := hcut
          cases kq with
          | zero => exact absurd HA.out (by simp [pendulumlaw05_AluBack.j1])
          | succ kj9 =>
            have H := HA.out
            clear HA
            simp only [pendulumlaw05_AluBack.j1] at H
            by_cases c16 : x89_9 = true
            · subst c16
              have H1 : (some false) = some r := by rw [if_pos rfl] at H; exact H
              clear H
              have H := H1
              clear H1
              obtain rfl := Option.some.inj H
              go_wp2
              go_ret
              exact ⟨by first | rfl | (simp; done) | (simp [*]; done), by repeat (first | exact Drawn0.refl _ | apply Drawn0.step)⟩
            · replace c16 := Bool.eq_false_iff.mpr c16
              subst c16
              have H1 : (if (((Go.bits .and .u8 t122 4) != 0) != ((wrap64 ((wrap64 ((wrap64 (IntKind.i8.wrap (a0))) + (wrap64 (IntKind.i8.wrap (a1))))) + x7_5)) != (wrap64 (IntKind.i8.wrap (t121))))) = true then (some false) else (if (((Go.bits .and .u8 t124 1) != 0) != (decide ((wrap64 ((wrap64 ((wrap64 (t121)) - (wrap64 (a1)))) - x7_5)) < 0))) = true then (some false) else (if (((Go.bits .and .u8 t124 4) != 0) != ((wrap64 ((wrap64 ((wrap64 (IntKind.i8.wrap (t121))) - (wrap64 (IntKind.i8.wrap (a1))))) - x7_5)) != (wrap64 (IntKind.i8.wrap (t123))))) = true then (some false) else (if (Go.bits .and .u8 t124 2) = 0 then (some false) else (if (((Go.bits .and .u8 t124 1) != 0) == ((Go.bits .and .u8 t122 1) != 0)) = true then (some (((Go.bits .and .u8 t122 16) != 0) == (decide ((wrap64 ((wrap64 ((wrap64 (Int.tmod a0 16)) + (wrap64 (Int.tmod a1 16)))) + x7_5)) > 15)))) else (some false)))))) = some r := by rw [if_neg (show ¬ (false = true) by decide)] at H; exact H
              clear H
              have H := H1
              clear H1
              by_cases c17 : (((Go.bits .and .u8 t122 4) != 0) != ((wrap64 ((wrap64 ((wrap64 (IntKind.i8.wrap (a0))) + (wrap64 (IntKind.i8.wrap (a1))))) + x7_5)) != (wrap64 (IntKind.i8.wrap (t121))))) = true
              · rw [if_pos c17] at H
                have c17b0 : (((Go.bits .and .u8 t122 4) != 0) != ((wrap64 ((wrap64 ((wrap64 (IntKind.i8.wrap (a0))) + (wrap64 (IntKind.i8.wrap (a1))))) + x7_5)) != (wrap64 (IntKind.i8.wrap (t121))))) = true := c17
                (try (have c17b1 : decide (((Go.bits .and .u8 t122 4) != 0) = ((wrap64 ((wrap64 ((wrap64 (IntKind.i8.wrap (a0))) + (wrap64 (IntKind.i8.wrap (a1))))) + x7_5)) != (wrap64 (IntKind.i8.wrap (t121))))) = false := by simpa using c17))
                (try (have c17b2 : (((Go.bits .and .u8 t122 4) != 0) == ((wrap64 ((wrap64 ((wrap64 (IntKind.i8.wrap (a0))) + (wrap64 (IntKind.i8.wrap (a1))))) + x7_5)) != (wrap64 (IntKind.i8.wrap (t121))))) = false := by simpa using c17))
                (try (have c17b3 : ¬ (((Go.bits .and .u8 t122 4) != 0) = ((wrap64 ((wrap64 ((wrap64 (IntKind.i8.wrap (a0))) + (wrap64 (IntKind.i8.wrap (a1))))) + x7_5)) != (wrap64 (IntKind.i8.wrap (t121))))) := by simpa using c17))
                clear c17
                obtain rfl := Option.some.inj H
                go_wp2
                go_ret
                exact ⟨by first | rfl | (simp; done) | (simp [*]; done), by repeat (first | exact Drawn0.refl _ | apply Drawn0.step)⟩
              · rw [if_neg c17] at H
                have c17b0 : (((Go.bits .and .u8 t122 4) != 0) != ((wrap64 ((wrap64 ((wrap64 (IntKind.i8.wrap (a0))) + (wrap64 (IntKind.i8.wrap (a1))))) + x7_5)) != (wrap64 (IntKind.i8.wrap (t121))))) = false := by simpa using c17
                (try (have c17b1 : decide (((Go.bits .and .u8 t122 4) != 0) = ((wrap64 ((wrap64 ((wrap64 (IntKind.i8.wrap (a0))) + (wrap64 (IntKind.i8.wrap (a1))))) + x7_5)) != (wrap64 (IntKind.i8.wrap (t121))))) = true := by simpa using c17))
                (try (have c17b2 : (((Go.bits .and .u8 t122 4) != 0) == ((wrap64 ((wrap64 ((wrap64 (IntKind.i8.wrap (a0))) + (wrap64 (IntKind.i8.wrap (a1))))) + x7_5)) != (wrap64 (IntKind.i8.wrap (t121))))) = true := by simpa using c17))
                clear c17
                by_cases c18 : (((Go.bits .and .u8 t124 1) != 0) != (decide ((wrap64 ((wrap64 ((wrap64 (t121)) - (wrap64 (a1)))) - x7_5)) < 0))) = true
                · rw [if_pos c18] at H
                  have c18b0 : (((Go.bits .and .u8 t124 1) != 0) != (decide ((wrap64 ((wrap64 ((wrap64 (t121)) - (wrap64 (a1)))) - x7_5)) < 0))) = true := c18
                  (try (have c18b1 : decide (((Go.bits .and .u8 t124 1) != 0) = (decide ((wrap64 ((wrap64 ((wrap64 (t121)) - (wrap64 (a1)))) - x7_5)) < 0))) = false := by simpa using c18))
                  (try (have c18b2 : (((Go.bits .and .u8 t124 1) != 0) == (decide ((wrap64 ((wrap64 ((wrap64 (t121)) - (wrap64 (a1)))) - x7_5)) < 0))) = false := by simpa using c18))
                  (try (have c18b3 : ¬ (((Go.bits .and .u8 t124 1) != 0) = (decide ((wrap64 ((wrap64 ((wrap64 (t121)) - (wrap64 (a1)))) - x7_5)) < 0))) := by simpa using c18))
                  clear c18
                  obtain rfl := Option.some.inj H
                  go_wp2
                  go_ret
                  exact ⟨by first | rfl | (simp; done) | (simp [*]; done), by repeat (first | exact Drawn0.refl _ | apply Drawn0.step)⟩
                · rw [if_neg c18] at H
                  have c18b0 : (((Go.bits .and .u8 t124 1) != 0) != (decide ((wrap64 ((wrap64 ((wrap64 (t121)) - (wrap64 (a1)))) - x7_5)) < 0))) = false := by simpa using c18
                  (try (have c18b1 : decide (((Go.bits .and .u8 t124 1) != 0) = (decide ((wrap64 ((wrap64 ((wrap64 (t121)) - (wrap64 (a1)))) - x7_5)) < 0))) = true := by simpa using c18))
                  (try (have c18b2 : (((Go.bits .and .u8 t124 1) != 0) == (decide ((wrap64 ((wrap64 ((wrap64 (t121)) - (wrap64 (a1)))) - x7_5)) < 0))) = true := by simpa using c18))
                  clear c18
                  by_cases c19 : (((Go.bits .and .u8 t124 4) != 0) != ((wrap64 ((wrap64 ((wrap64 (IntKind.i8.wrap (t121))) - (wrap64 (IntKind.i8.wrap (a1))))) - x7_5)) != (wrap64 (IntKind.i8.wrap (t123))))) = true
                  · rw [if_pos c19] at H
                    have c19b0 : (((Go.bits .and .u8 t124 4) != 0) != ((wrap64 ((wrap64 ((wrap64 (IntKind.i8.wrap (t121))) - (wrap64 (IntKind.i8.wrap (a1))))) - x7_5)) != (wrap64 (IntKind.i8.wrap (t123))))) = true := c19
                    (try (have c19b1 : decide (((Go.bits .and .u8 t124 4) != 0) = ((wrap64 ((wrap64 ((wrap64 (IntKind.i8.wrap (t121))) - (wrap64 (IntKind.i8.wrap (a1))))) - x7_5)) != (wrap64 (IntKind.i8.wrap (t123))))) = false := by simpa using c19))
                    (try (have c19b2 : (((Go.bits .and .u8 t124 4) != 0) == ((wrap64 ((wrap64 ((wrap64 (IntKind.i8.wrap (t121))) - (wrap64 (IntKind.i8.wrap (a1))))) - x7_5)) != (wrap64 (IntKind.i8.wrap (t123))))) = false := by simpa using c19))
                    (try (have c19b3 : ¬ (((Go.bits .and .u8 t124 4) != 0) = ((wrap64 ((wrap64 ((wrap64 (IntKind.i8.wrap (t121))) - (wrap64 (IntKind.i8.wrap (a1))))) - x7_5)) != (wrap64 (IntKind.i8.wrap (t123))))) := by simpa using c19))
                    clear c19
                    obtain rfl := Option.some.inj H
                    go_wp2
                    go_ret
                    exact ⟨by first | rfl | (simp; done) | (simp [*]; done), by repeat (first | exact Drawn0.refl _ | apply Drawn0.step)⟩
                  · rw [if_neg c19] at H
                    have c19b0 : (((Go.bits .and .u8 t124 4) != 0) != ((wrap64 ((wrap64 ((wrap64 (IntKind.i8.wrap (t121))) - (wrap64 (IntKind.i8.wrap (a1))))) - x7_5)) != (wrap64 (IntKind.i8.wrap (t123))))) = false := by simpa using c19
                    (try (have c19b1 : decide (((Go.bits .and .u8 t124 4) != 0) = ((wrap64 ((wrap64 ((wrap64 (IntKind.i8.wrap (t121))) - (wrap64 (IntKind.i8.wrap (a1))))) - x7_5)) != (wrap64 (IntKind.i8.wrap (t123))))) = true := by simpa using c19))
                    (try (have c19b2 : (((Go.bits .and .u8 t124 4) != 0) == ((wrap64 ((wrap64 ((wrap64 (IntKind.i8.wrap (t121))) - (wrap64 (IntKind.i8.wrap (a1))))) - x7_5)) != (wrap64 (IntKind.i8.wrap (t123))))) = true := by simpa using c19))
                    clear c19
                    by_cases c20 : (Go.bits .and .u8 t124 2) = 0
                    · rw [if_pos c20] at H
                      have c20b0 : ((Go.bits .and .u8 t124 2) == 0) = true := beq_iff_eq.mpr c20
                      have c20b1 : ((Go.bits .and .u8 t124 2) != 0) = false := bne_eq_false_iff_eq.mpr c20
                      clear c20
                      obtain rfl := Option.some.inj H
                      go_wp2
                      go_ret
                      exact ⟨by first | rfl | (simp; done) | (simp [*]; done), by repeat (first | exact Drawn0.refl _ | apply Drawn0.step)⟩
                    · rw [if_neg c20] at H
                      have c20b0 : ((Go.bits .and .u8 t124 2) == 0) = false := beq_eq_false_iff_ne.mpr c20
                      have c20b1 : ((Go.bits .and .u8 t124 2) != 0) = true := bne_iff_ne.mpr c20
                      by_cases c21 : (((Go.bits .and .u8 t124 1) != 0) == ((Go.bits .and .u8 t122 1) != 0)) = true
                      · rw [if_pos c21] at H
                        have c21b0 : (((Go.bits .and .u8 t124 1) != 0) == ((Go.bits .and .u8 t122 1) != 0)) = true := c21
                        (try (have c21b1 : decide (((Go.bits .and .u8 t124 1) != 0) = ((Go.bits .and .u8 t122 1) != 0)) = true := by simpa using c21))
                        (try (have c21b2 : (((Go.bits .and .u8 t124 1) != 0) == ((Go.bits .and .u8 t122 1) != 0)) = true := by simpa using c21))
                        clear c21
                        obtain rfl := Option.some.inj H
                        go_wp2
                        go_ret
                        exact ⟨by first | rfl | (simp; done) | (simp [*]; done), by repeat (first | exact Drawn0.refl _ | apply Drawn0.step)⟩
                      · rw [if_neg c21] at H
                        have c21b0 : (((Go.bits .and .u8 t124 1) != 0) == ((Go.bits .and .u8 t122 1) != 0)) = false := by simpa using c21
                        (try (have c21b1 : decide (((Go.bits .and .u8 t124 1) != 0) = ((Go.bits .and .u8 t122 1) != 0)) = false := by simpa using c21))
                        (try (have c21b2 : (((Go.bits .and .u8 t124 1) != 0) == ((Go.bits .and .u8 t122 1) != 0)) = false := by simpa using c21))
                        (try (have c21b3 : ¬ (((Go.bits .and .u8 t124 1) != 0) = ((Go.bits .and .u8 t122 1) != 0)) := by simpa using c21))
                        clear c21
                        obtain rfl := Option.some.inj H
                        go_wp2
                        go_ret
                        exact ⟨by first | rfl | (simp; done) | (simp [*]; done), by repeat (first | exact Drawn0.refl _ | apply Drawn0.step)⟩
  · replace c5 := Bool.eq_false_iff.mpr c5
    subst c5
    have H1 : (some false) = some r := by rw [if_neg (show ¬ (false = true) by decide)] at H; exact H
    clear H
    have H := H1
    clear H1
    obtain rfl := Option.some.inj H
    go_enter Try.func6, Try.ntmps6
    go_wp2_with (first | ((with_reducible refine gate_callee (f := 36) rfl ?_); refine goesL_ (some 17) rfl rfl Try.func36 (by kernel_rfl) rfl #[] rfl (by (try simp only [List.map_toArray, List.map_cons, List.map_nil]); first | done | rfl | (simp only [List.length_drop, List.length_take]; rfl)) ?_; (with_reducible refine (pendulumlaw05_lives.calls  false _ A4.out).mono ?_); rintro e w' ⟨rfl, ⟨nd, rfl⟩⟩; refine ⟨_, rfl, ?_⟩))
    go_ret
    exact ⟨by first | rfl | (simp; done) | (simp [*]; done), by repeat (first | exact Drawn0.refl _ | apply Drawn0.step)⟩

/-- THE ONE PURE STATEMENT of pendulumlaw05_AluBack: yours. -/
def pendulumlaw05_AluBack.Pure : Prop := ∀ (a0 : Int) (a1 : Int) (a2 : Bool), (Lit.int .u8 a0).wf = true → (Lit.int .u8 a1).wf = true → ∃ k, pendulumlaw05_AluBack.f k a0 a1 a2 = some true
theorem pendulumlaw05_AluBack.walk (P : pendulumlaw05_AluBack.Pure) (a0 : Int) (a1 : Int) (a2 : Bool) (w : World) (w0 : (Lit.int .u8 a0).wf = true) (w1 : (Lit.int .u8 a1).wf = true) :
    Calls Try.prog 6 #[.int .u8 a0, .int .u8 a1, .bool a2] w fun e w' => e = .returned (.bool true) ∧ Below w.heap.size w w' := by
  obtain ⟨k, h⟩ := P a0 a1 a2 w0 w1
  refine (pendulumlaw05_AluBack.calls k a0 a1 a2 true w h).mono ?_
  rintro e w' ⟨rfl, hd⟩
  exact ⟨rfl, hd.below⟩

end Go.Proofs.Ytpmmneipfmbmlaa.PAluBack
