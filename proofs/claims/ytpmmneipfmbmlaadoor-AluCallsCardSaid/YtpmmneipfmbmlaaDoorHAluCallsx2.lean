-- Written by a program of this session out of Lean's print of the program (after the form of the kit's print.sh, with own turns); Lean checks it.
import Derived.Test.YtpmmneipfmbmlaaDoorHAluCallsx0
import Derived.Test.YtpmmneipfmbmlaaDoorHAluCallsx1
namespace Go.Proofs.YtpmmneipfmbmlaaDoor.HAluCalls
open Go.RowKit Go.Proofs.YtpmmneipfmbmlaaDoorW.PrintWords Go.Proofs.YtpmmneipfmbmlaaDoorW.PrintLast Go.Proofs.YtpmmneipfmbmlaaDoorW.PrintMore
attribute [local go_sem] max2_int min2_int max_two min_two max_three min_three max_four min_four   -- for this text's walks alone
set_option linter.unusedVariables false
set_option linter.unusedSimpArgs false

/-! ### pendulumref05_Mod: function 29 -/
def pendulumref05_Mod.f (a0 : Int) (a1 : Int) : Option (Int) := if a1 = 0 then (none) else (if (Int.tmod a0 a1) < 0 then (some (wrap64 ((Int.tmod a0 a1) + a1))) else (some (Int.tmod a0 a1)))
set_option maxHeartbeats 8000000 in
set_option maxRecDepth 100000 in
theorem pendulumref05_Mod.calls (a0 : Int) (a1 : Int) (r : Int) (w : World) (h : pendulumref05_Mod.f a0 a1 = some r) :
    Calls Tryd.prog 29 #[.int .i64 a0, .int .i64 a1] w fun e w' => e = .returned (.int .i64 r) ∧ Drawn0 w w' := by
  have H : (if a1 = 0 then (none) else (if (Int.tmod a0 a1) < 0 then (some (wrap64 ((Int.tmod a0 a1) + a1))) else (some (Int.tmod a0 a1)))) = some r := h
  clear h
  by_cases c3 : a1 = 0
  · rw [if_pos c3] at H
    exact absurd H (by simp)
  · rw [if_neg c3] at H
    have c3b0 : (a1 == 0) = false := beq_eq_false_iff_ne.mpr c3
    have c3b1 : (a1 != 0) = true := bne_iff_ne.mpr c3
    by_cases c4 : (Int.tmod a0 a1) < 0
    · rw [if_pos c4] at H
      have c4b0 : decide ((Int.tmod a0 a1) < 0) = true := decide_eq_true c4
      clear c4
      obtain rfl := Option.some.inj H
      go_enter Tryd.func29, Tryd.ntmps29
      go_wp2
      go_ret
      exact ⟨by first | rfl | (simp; done) | (simp [*]; done), by repeat (first | exact Drawn0.refl _ | apply Drawn0.step)⟩
    · rw [if_neg c4] at H
      have c4b0 : decide ((Int.tmod a0 a1) < 0) = false := decide_eq_false c4
      clear c4
      obtain rfl := Option.some.inj H
      go_enter Tryd.func29, Tryd.ntmps29
      go_wp2
      go_ret
      exact ⟨by first | rfl | (simp; done) | (simp [*]; done), by repeat (first | exact Drawn0.refl _ | apply Drawn0.step)⟩

/-! ### pendulumref05_Logic: function 34 -/
def pendulumref05_Logic.f (k : Nat) (a0 : Int) : Option (Int) := (pendulumref05_Own.f a0).bind fun t148 => ((pendulumref05_Parity.f k a0).bind fun t149 => ((pendulumref05_Flag.f 4 t149).bind fun t150 => (some (Go.bits .or .u8 t148 t150))))
theorem pendulumref05_Logic.mono : ∀ a0 k, LeO (pendulumref05_Logic.f k a0) (pendulumref05_Logic.f (k + 1) a0) := by
  intro a0 k
  unfold pendulumref05_Logic.f
  repeat' first
      | (with_reducible exact pendulumref05_Parity.mono _ _)
      | (with_reducible exact LeO.refl _)
      | (with_reducible exact LeO.none _)
      | (with_reducible refine LeO.ite ?_ ?_)
      | (with_reducible refine LeO.bind ?_ (fun _ => ?_))
      | exact pendulumref05_Parity.mono _ _
      | exact LeO.none _
      | refine LeO.ite ?_ ?_
      | refine LeO.bind ?_ (fun _ => ?_)
set_option maxHeartbeats 8000000 in
set_option maxRecDepth 100000 in
theorem pendulumref05_Logic.calls (k : Nat) (a0 : Int) (r : Int) (w : World) (h : pendulumref05_Logic.f k a0 = some r) :
    Calls Tryd.prog 34 #[.int .u8 a0] w fun e w' => e = .returned (.int .u8 r) ∧ Drawn0 w w' := by
  have H : ((pendulumref05_Own.f a0).bind fun t148 => ((pendulumref05_Parity.f k a0).bind fun t149 => ((pendulumref05_Flag.f 4 t149).bind fun t150 => (some (Go.bits .or .u8 t148 t150))))) = some r := h
  clear h
  replace H := Option.bind_eq_some_iff.mp H
  obtain ⟨t148, A20, H⟩ := H
  replace H : ((pendulumref05_Parity.f k a0).bind fun t149 => ((pendulumref05_Flag.f 4 t149).bind fun t150 => (some (Go.bits .or .u8 t148 t150)))) = some r := H
  have A2 := Aside0.mk A20
  clear A20
  replace H := Option.bind_eq_some_iff.mp H
  obtain ⟨t149, A30, H⟩ := H
  replace H : ((pendulumref05_Flag.f 4 t149).bind fun t150 => (some (Go.bits .or .u8 t148 t150))) = some r := H
  have A3 := Aside0.mk A30
  clear A30
  replace H := Option.bind_eq_some_iff.mp H
  obtain ⟨t150, A40, H⟩ := H
  replace H : (some (Go.bits .or .u8 t148 t150)) = some r := H
  have A4 := Aside0.mk A40
  clear A40
  obtain rfl := Option.some.inj H
  go_enter Tryd.func34, Tryd.ntmps34
  go_wp2_with (first | ((with_reducible refine gate_callee (f := 13) rfl ?_); refine goesL_ (some 4) rfl rfl Tryd.func13 (by kernel_rfl) rfl #[.int .u8 a0] rfl (by (try simp only [List.map_toArray, List.map_cons, List.map_nil]); first | done | rfl | (simp only [List.length_drop, List.length_take]; rfl)) ?_; (with_reducible refine (pendulumref05_Own.calls a0 t148 _ A2.out).mono ?_); rintro e w' ⟨rfl, ⟨nd, rfl⟩⟩; refine ⟨_, rfl, ?_⟩) | ((with_reducible refine gate_callee (f := 15) rfl ?_); refine goesL_ (some 6) rfl rfl Tryd.func15 (by kernel_rfl) rfl #[.int .u8 a0] rfl (by (try simp only [List.map_toArray, List.map_cons, List.map_nil]); first | done | rfl | (simp only [List.length_drop, List.length_take]; rfl)) ?_; (with_reducible refine (pendulumref05_Parity.calls k a0 t149 _ A3.out).mono ?_); rintro e w' ⟨rfl, ⟨nd, rfl⟩⟩; refine ⟨_, rfl, ?_⟩) | ((with_reducible refine gate_callee (f := 27) rfl ?_); refine goesL_ (some 7) rfl rfl Tryd.func27 (by kernel_rfl) rfl #[.int .u8 4, .bool t149] rfl (by (try simp only [List.map_toArray, List.map_cons, List.map_nil]); first | done | rfl | (simp only [List.length_drop, List.length_take]; rfl)) ?_; (with_reducible refine (pendulumref05_Flag.calls 4 t149 t150 _ A4.out).mono ?_); rintro e w' ⟨rfl, ⟨nd, rfl⟩⟩; refine ⟨_, rfl, ?_⟩))
  go_ret
  exact ⟨by first | rfl | (simp; done) | (simp [*]; done), by repeat (first | exact Drawn0.refl _ | apply Drawn0.step)⟩

/-! ### pendulumref05_And: function 30 -/
def pendulumref05_And.f (k : Nat) (a0 : Int) (a1 : Int) : Option (Int × Int) := (pendulumref05_Logic.f k (Go.bits .and .u8 a0 a1)).bind fun t151 => (some (Go.bits .and .u8 a0 a1, Go.bits .or .u8 t151 16))
theorem pendulumref05_And.mono : ∀ a0 a1 k, LeO (pendulumref05_And.f k a0 a1) (pendulumref05_And.f (k + 1) a0 a1) := by
  intro a0 a1 k
  unfold pendulumref05_And.f
  repeat' first
      | (with_reducible exact pendulumref05_Logic.mono _ _)
      | (with_reducible exact LeO.refl _)
      | (with_reducible exact LeO.none _)
      | (with_reducible refine LeO.ite ?_ ?_)
      | (with_reducible refine LeO.bind ?_ (fun _ => ?_))
      | exact pendulumref05_Logic.mono _ _
      | exact LeO.none _
      | refine LeO.ite ?_ ?_
      | refine LeO.bind ?_ (fun _ => ?_)
set_option maxHeartbeats 8000000 in
set_option maxRecDepth 100000 in
theorem pendulumref05_And.calls (k : Nat) (a0 : Int) (a1 : Int) (r1 : Int) (r2 : Int) (w : World) (h : pendulumref05_And.f k a0 a1 = some (r1, r2)) :
    Calls Tryd.prog 30 #[.int .u8 a0, .int .u8 a1] w fun e w' => e = .returned (.tuple #[.int .u8 r1, .int .u8 r2]) ∧ Drawn0 w w' := by
  have H : ((pendulumref05_Logic.f k (Go.bits .and .u8 a0 a1)).bind fun t151 => (some (Go.bits .and .u8 a0 a1, Go.bits .or .u8 t151 16))) = some (r1, r2) := h
  clear h
  replace H := Option.bind_eq_some_iff.mp H
  obtain ⟨t151, A30, H⟩ := H
  replace H : (some (Go.bits .and .u8 a0 a1, Go.bits .or .u8 t151 16)) = some (r1, r2) := H
  have A3 := Aside0.mk A30
  clear A30
  simp only [Option.some.injEq, Prod.mk.injEq] at H
  obtain ⟨rfl, rfl⟩ := H
  go_enter Tryd.func30, Tryd.ntmps30
  go_wp2_with (first | ((with_reducible refine gate_callee (f := 34) rfl ?_); refine goesL_ (some 12) rfl rfl Tryd.func34 (by kernel_rfl) rfl #[.int .u8 (Go.bits .and .u8 a0 a1)] rfl (by (try simp only [List.map_toArray, List.map_cons, List.map_nil]); first | done | rfl | (simp only [List.length_drop, List.length_take]; rfl)) ?_; (with_reducible refine (pendulumref05_Logic.calls k (Go.bits .and .u8 a0 a1) t151 _ A3.out).mono ?_); rintro e w' ⟨rfl, ⟨nd, rfl⟩⟩; refine ⟨_, rfl, ?_⟩))
  go_ret2
  exact ⟨by first | rfl | (simp; done) | (simp [*]; done), by repeat (first | exact Drawn0.refl _ | apply Drawn0.step)⟩

/-! ### pendulumref05_Xor: function 31 -/
def pendulumref05_Xor.f (k : Nat) (a0 : Int) (a1 : Int) : Option (Int × Int) := (pendulumref05_Logic.f k (Go.bits .xor .u8 a0 a1)).bind fun t152 => (some (Go.bits .xor .u8 a0 a1, t152))
theorem pendulumref05_Xor.mono : ∀ a0 a1 k, LeO (pendulumref05_Xor.f k a0 a1) (pendulumref05_Xor.f (k + 1) a0 a1) := by
  intro a0 a1 k
  unfold pendulumref05_Xor.f
  repeat' first
      | (with_reducible exact pendulumref05_Logic.mono _ _)
      | (with_reducible exact LeO.refl _)
      | (with_reducible exact LeO.none _)
      | (with_reducible refine LeO.ite ?_ ?_)
      | (with_reducible refine LeO.bind ?_ (fun _ => ?_))
      | exact pendulumref05_Logic.mono _ _
      | exact LeO.none _
      | refine LeO.ite ?_ ?_
      | refine LeO.bind ?_ (fun _ => ?_)
set_option maxHeartbeats 8000000 in
set_option maxRecDepth 100000 in
theorem pendulumref05_Xor.calls (k : Nat) (a0 : Int) (a1 : Int) (r1 : Int) (r2 : Int) (w : World) (h : pendulumref05_Xor.f k a0 a1 = some (r1, r2)) :
    Calls Tryd.prog 31 #[.int .u8 a0, .int .u8 a1] w fun e w' => e = .returned (.tuple #[.int .u8 r1, .int .u8 r2]) ∧ Drawn0 w w' := by
  have H : ((pendulumref05_Logic.f k (Go.bits .xor .u8 a0 a1)).bind fun t152 => (some (Go.bits .xor .u8 a0 a1, t152))) = some (r1, r2) := h
  clear h
  replace H := Option.bind_eq_some_iff.mp H
  obtain ⟨t152, A30, H⟩ := H
  replace H : (some (Go.bits .xor .u8 a0 a1, t152)) = some (r1, r2) := H
  have A3 := Aside0.mk A30
  clear A30
  simp only [Option.some.injEq, Prod.mk.injEq] at H
  obtain ⟨rfl, rfl⟩ := H
  go_enter Tryd.func31, Tryd.ntmps31
  go_wp2_with (first | ((with_reducible refine gate_callee (f := 34) rfl ?_); refine goesL_ (some 12) rfl rfl Tryd.func34 (by kernel_rfl) rfl #[.int .u8 (Go.bits .xor .u8 a0 a1)] rfl (by (try simp only [List.map_toArray, List.map_cons, List.map_nil]); first | done | rfl | (simp only [List.length_drop, List.length_take]; rfl)) ?_; (with_reducible refine (pendulumref05_Logic.calls k (Go.bits .xor .u8 a0 a1) t152 _ A3.out).mono ?_); rintro e w' ⟨rfl, ⟨nd, rfl⟩⟩; refine ⟨_, rfl, ?_⟩))
  go_ret2
  exact ⟨by first | rfl | (simp; done) | (simp [*]; done), by repeat (first | exact Drawn0.refl _ | apply Drawn0.step)⟩

/-! ### pendulumref05_Or: function 32 -/
def pendulumref05_Or.f (k : Nat) (a0 : Int) (a1 : Int) : Option (Int × Int) := (pendulumref05_Logic.f k (Go.bits .or .u8 a0 a1)).bind fun t153 => (some (Go.bits .or .u8 a0 a1, t153))
theorem pendulumref05_Or.mono : ∀ a0 a1 k, LeO (pendulumref05_Or.f k a0 a1) (pendulumref05_Or.f (k + 1) a0 a1) := by
  intro a0 a1 k
  unfold pendulumref05_Or.f
  repeat' first
      | (with_reducible exact pendulumref05_Logic.mono _ _)
      | (with_reducible exact LeO.refl _)
      | (with_reducible exact LeO.none _)
      | (with_reducible refine LeO.ite ?_ ?_)
      | (with_reducible refine LeO.bind ?_ (fun _ => ?_))
      | exact pendulumref05_Logic.mono _ _
      | exact LeO.none _
      | refine LeO.ite ?_ ?_
      | refine LeO.bind ?_ (fun _ => ?_)
set_option maxHeartbeats 8000000 in
set_option maxRecDepth 100000 in
theorem pendulumref05_Or.calls (k : Nat) (a0 : Int) (a1 : Int) (r1 : Int) (r2 : Int) (w : World) (h : pendulumref05_Or.f k a0 a1 = some (r1, r2)) :
    Calls Tryd.prog 32 #[.int .u8 a0, .int .u8 a1] w fun e w' => e = .returned (.tuple #[.int .u8 r1, .int .u8 r2]) ∧ Drawn0 w w' := by
  have H : ((pendulumref05_Logic.f k (Go.bits .or .u8 a0 a1)).bind fun t153 => (some (Go.bits .or .u8 a0 a1, t153))) = some (r1, r2) := h
  clear h
  replace H := Option.bind_eq_some_iff.mp H
  obtain ⟨t153, A30, H⟩ := H
  replace H : (some (Go.bits .or .u8 a0 a1, t153)) = some (r1, r2) := H
  have A3 := Aside0.mk A30
  clear A30
  simp only [Option.some.injEq, Prod.mk.injEq] at H
  obtain ⟨rfl, rfl⟩ := H
  go_enter Tryd.func32, Tryd.ntmps32
  go_wp2_with (first | ((with_reducible refine gate_callee (f := 34) rfl ?_); refine goesL_ (some 12) rfl rfl Tryd.func34 (by kernel_rfl) rfl #[.int .u8 (Go.bits .or .u8 a0 a1)] rfl (by (try simp only [List.map_toArray, List.map_cons, List.map_nil]); first | done | rfl | (simp only [List.length_drop, List.length_take]; rfl)) ?_; (with_reducible refine (pendulumref05_Logic.calls k (Go.bits .or .u8 a0 a1) t153 _ A3.out).mono ?_); rintro e w' ⟨rfl, ⟨nd, rfl⟩⟩; refine ⟨_, rfl, ?_⟩))
  go_ret2
  exact ⟨by first | rfl | (simp; done) | (simp [*]; done), by repeat (first | exact Drawn0.refl _ | apply Drawn0.step)⟩

/-! ### pendulumref05_Do: function 17 -/
def pendulumref05_Do.f (k : Nat) (a0 : Int) (a1 : Int) (a2 : Int) (a3 : Int) : Option (Int × Int) := (pendulumref05_Mod.f a0 8).bind fun t154 => (if t154 = 0 then ((pendulumref05_Add.f a1 a2 false).bind fun bt155 => (some (bt155.1, bt155.2))) else (if t154 = 1 then ((pendulumref05_Add.f a1 a2 ((Int.tmod a3 2) == 1)).bind fun bt157 => (some (bt157.1, bt157.2))) else (if t154 = 2 then ((pendulumref05_Sub.f a1 a2 false).bind fun bt159 => (some (bt159.1, bt159.2))) else (if t154 = 3 then ((pendulumref05_Sub.f a1 a2 ((Int.tmod a3 2) == 1)).bind fun bt161 => (some (bt161.1, bt161.2))) else (if t154 = 4 then ((pendulumref05_And.f k a1 a2).bind fun bt163 => (some (bt163.1, bt163.2))) else (if t154 = 5 then ((pendulumref05_Xor.f k a1 a2).bind fun bt165 => (some (bt165.1, bt165.2))) else (if t154 = 6 then ((pendulumref05_Or.f k a1 a2).bind fun bt167 => (some (bt167.1, bt167.2))) else ((pendulumref05_Cp.f a1 a2).bind fun t169 => (some (a1, t169))))))))))
theorem pendulumref05_Do.mono : ∀ a0 a1 a2 a3 k, LeO (pendulumref05_Do.f k a0 a1 a2 a3) (pendulumref05_Do.f (k + 1) a0 a1 a2 a3) := by
  intro a0 a1 a2 a3 k
  unfold pendulumref05_Do.f
  repeat' first
      | (with_reducible exact pendulumref05_And.mono _ _ _)
      | (with_reducible exact pendulumref05_Or.mono _ _ _)
      | (with_reducible exact pendulumref05_Xor.mono _ _ _)
      | (with_reducible exact LeO.refl _)
      | (with_reducible exact LeO.none _)
      | (with_reducible refine LeO.ite ?_ ?_)
      | (with_reducible refine LeO.bind ?_ (fun _ => ?_))
      | exact pendulumref05_And.mono _ _ _
      | exact pendulumref05_Or.mono _ _ _
      | exact pendulumref05_Xor.mono _ _ _
      | exact LeO.none _
      | refine LeO.ite ?_ ?_
      | refine LeO.bind ?_ (fun _ => ?_)
set_option maxHeartbeats 8000000 in
set_option maxRecDepth 100000 in
theorem pendulumref05_Do.calls (k : Nat) (a0 : Int) (a1 : Int) (a2 : Int) (a3 : Int) (r1 : Int) (r2 : Int) (w : World) (h : pendulumref05_Do.f k a0 a1 a2 a3 = some (r1, r2)) :
    Calls Tryd.prog 17 #[.int .i64 a0, .int .u8 a1, .int .u8 a2, .int .u8 a3] w fun e w' => e = .returned (.tuple #[.int .u8 r1, .int .u8 r2]) ∧ Drawn0 w w' := by
  have H : ((pendulumref05_Mod.f a0 8).bind fun t154 => (if t154 = 0 then ((pendulumref05_Add.f a1 a2 false).bind fun bt155 => (some (bt155.1, bt155.2))) else (if t154 = 1 then ((pendulumref05_Add.f a1 a2 ((Int.tmod a3 2) == 1)).bind fun bt157 => (some (bt157.1, bt157.2))) else (if t154 = 2 then ((pendulumref05_Sub.f a1 a2 false).bind fun bt159 => (some (bt159.1, bt159.2))) else (if t154 = 3 then ((pendulumref05_Sub.f a1 a2 ((Int.tmod a3 2) == 1)).bind fun bt161 => (some (bt161.1, bt161.2))) else (if t154 = 4 then ((pendulumref05_And.f k a1 a2).bind fun bt163 => (some (bt163.1, bt163.2))) else (if t154 = 5 then ((pendulumref05_Xor.f k a1 a2).bind fun bt165 => (some (bt165.1, bt165.2))) else (if t154 = 6 then ((pendulumref05_Or.f k a1 a2).bind fun bt167 => (some (bt167.1, bt167.2))) else ((pendulumref05_Cp.f a1 a2).bind fun t169 => (some (a1, t169))))))))))) = some (r1, r2) := h
  clear h
  replace H := Option.bind_eq_some_iff.mp H
  obtain ⟨t154, A50, H⟩ := H
  replace H : (if t154 = 0 then ((pendulumref05_Add.f a1 a2 false).bind fun bt155 => (some (bt155.1, bt155.2))) else (if t154 = 1 then ((pendulumref05_Add.f a1 a2 ((Int.tmod a3 2) == 1)).bind fun bt157 => (some (bt157.1, bt157.2))) else (if t154 = 2 then ((pendulumref05_Sub.f a1 a2 false).bind fun bt159 => (some (bt159.1, bt159.2))) else (if t154 = 3 then ((pendulumref05_Sub.f a1 a2 ((Int.tmod a3 2) == 1)).bind fun bt161 => (some (bt161.1, bt161.2))) else (if t154 = 4 then ((pendulumref05_And.f k a1 a2).bind fun bt163 => (some (bt163.1, bt163.2))) else (if t154 = 5 then ((pendulumref05_Xor.f k a1 a2).bind fun bt165 => (some (bt165.1, bt165.2))) else (if t154 = 6 then ((pendulumref05_Or.f k a1 a2).bind fun bt167 => (some (bt167.1, bt167.2))) else ((pendulumref05_Cp.f a1 a2).bind fun t169 => (some (a1, t169)))))))))) = some (r1, r2) := H
  have A5 := Aside0.mk A50
  clear A50
  by_cases c6 : t154 = 0
  · rw [if_pos c6] at H
    have c6b0 : (t154 == 0) = true := beq_iff_eq.mpr c6
    have c6b1 : (t154 != 0) = false := bne_eq_false_iff_eq.mpr c6
    clear c6
    replace H := Option.bind_eq_some_iff.mp H
    obtain ⟨⟨t155, t156⟩, A70, H⟩ := H
    replace H : (some (t155, t156)) = some (r1, r2) := H
    have A7 := Aside0.mk A70
    clear A70
    simp only [Option.some.injEq, Prod.mk.injEq] at H
    obtain ⟨rfl, rfl⟩ := H
    go_enter Tryd.func17, Tryd.ntmps17
    go_wp2_with (first | ((with_reducible refine gate_callee (f := 29) rfl ?_); refine goesL_ (some 15) rfl rfl Tryd.func29 (by kernel_rfl) rfl #[.int .i64 a0, .int .i64 8] rfl (by (try simp only [List.map_toArray, List.map_cons, List.map_nil]); first | done | rfl | (simp only [List.length_drop, List.length_take]; rfl)) ?_; (with_reducible refine (pendulumref05_Mod.calls a0 8 t154 _ A5.out).mono ?_); rintro e w' ⟨rfl, ⟨nd, rfl⟩⟩; refine ⟨_, rfl, ?_⟩) | ((with_reducible refine gate_callee (f := 7) rfl ?_); refine goesL_ (some 20) rfl rfl Tryd.func7 (by kernel_rfl) rfl #[.int .u8 a1, .int .u8 a2, .bool false] rfl (by (try simp only [List.map_toArray, List.map_cons, List.map_nil]); first | done | rfl | (simp only [List.length_drop, List.length_take]; rfl)) ?_; (with_reducible refine (pendulumref05_Add.calls a1 a2 false t155 t156 _ A7.out).mono ?_); rintro e w' ⟨rfl, ⟨nd, rfl⟩⟩; refine ⟨_, rfl, ?_⟩))
    go_ret2
    exact ⟨by first | rfl | (simp; done) | (simp [*]; done), by repeat (first | exact Drawn0.refl _ | apply Drawn0.step)⟩
  · rw [if_neg c6] at H
    have c6b0 : (t154 == 0) = false := beq_eq_false_iff_ne.mpr c6
    have c6b1 : (t154 != 0) = true := bne_iff_ne.mpr c6
    by_cases c8 : t154 = 1
    · rw [if_pos c8] at H
      have c8b0 : (t154 == 1) = true := beq_iff_eq.mpr c8
      have c8b1 : (t154 != 1) = false := bne_eq_false_iff_eq.mpr c8
      clear c8
      replace H := Option.bind_eq_some_iff.mp H
      obtain ⟨⟨t157, t158⟩, A90, H⟩ := H
      replace H : (some (t157, t158)) = some (r1, r2) := H
      have A9 := Aside0.mk A90
      clear A90
      simp only [Option.some.injEq, Prod.mk.injEq] at H
      obtain ⟨rfl, rfl⟩ := H
      go_enter Tryd.func17, Tryd.ntmps17
      go_wp2_with (first | ((with_reducible refine gate_callee (f := 29) rfl ?_); refine goesL_ (some 15) rfl rfl Tryd.func29 (by kernel_rfl) rfl #[.int .i64 a0, .int .i64 8] rfl (by (try simp only [List.map_toArray, List.map_cons, List.map_nil]); first | done | rfl | (simp only [List.length_drop, List.length_take]; rfl)) ?_; (with_reducible refine (pendulumref05_Mod.calls a0 8 t154 _ A5.out).mono ?_); rintro e w' ⟨rfl, ⟨nd, rfl⟩⟩; refine ⟨_, rfl, ?_⟩) | ((with_reducible refine gate_callee (f := 7) rfl ?_); refine goesL_ (some 28) rfl rfl Tryd.func7 (by kernel_rfl) rfl #[.int .u8 a1, .int .u8 a2, .bool ((Int.tmod a3 2) == 1)] rfl (by (try simp only [List.map_toArray, List.map_cons, List.map_nil]); first | done | rfl | (simp only [List.length_drop, List.length_take]; rfl)) ?_; (with_reducible refine (pendulumref05_Add.calls a1 a2 ((Int.tmod a3 2) == 1) t157 t158 _ A9.out).mono ?_); rintro e w' ⟨rfl, ⟨nd, rfl⟩⟩; refine ⟨_, rfl, ?_⟩))
      go_ret2
      exact ⟨by first | rfl | (simp; done) | (simp [*]; done), by repeat (first | exact Drawn0.refl _ | apply Drawn0.step)⟩
    · rw [if_neg c8] at H
      have c8b0 : (t154 == 1) = false := beq_eq_false_iff_ne.mpr c8
      have c8b1 : (t154 != 1) = true := bne_iff_ne.mpr c8
      by_cases c10 : t154 = 2
      · rw [if_pos c10] at H
        have c10b0 : (t154 == 2) = true := beq_iff_eq.mpr c10
        have c10b1 : (t154 != 2) = false := bne_eq_false_iff_eq.mpr c10
        clear c10
        replace H := Option.bind_eq_some_iff.mp H
        obtain ⟨⟨t159, t160⟩, A110, H⟩ := H
        replace H : (some (t159, t160)) = some (r1, r2) := H
        have A11 := Aside0.mk A110
        clear A110
        simp only [Option.some.injEq, Prod.mk.injEq] at H
        obtain ⟨rfl, rfl⟩ := H
        go_enter Tryd.func17, Tryd.ntmps17
        go_wp2_with (first | ((with_reducible refine gate_callee (f := 29) rfl ?_); refine goesL_ (some 15) rfl rfl Tryd.func29 (by kernel_rfl) rfl #[.int .i64 a0, .int .i64 8] rfl (by (try simp only [List.map_toArray, List.map_cons, List.map_nil]); first | done | rfl | (simp only [List.length_drop, List.length_take]; rfl)) ?_; (with_reducible refine (pendulumref05_Mod.calls a0 8 t154 _ A5.out).mono ?_); rintro e w' ⟨rfl, ⟨nd, rfl⟩⟩; refine ⟨_, rfl, ?_⟩) | ((with_reducible refine gate_callee (f := 9) rfl ?_); refine goesL_ (some 35) rfl rfl Tryd.func9 (by kernel_rfl) rfl #[.int .u8 a1, .int .u8 a2, .bool false] rfl (by (try simp only [List.map_toArray, List.map_cons, List.map_nil]); first | done | rfl | (simp only [List.length_drop, List.length_take]; rfl)) ?_; (with_reducible refine (pendulumref05_Sub.calls a1 a2 false t159 t160 _ A11.out).mono ?_); rintro e w' ⟨rfl, ⟨nd, rfl⟩⟩; refine ⟨_, rfl, ?_⟩))
        go_ret2
        exact ⟨by first | rfl | (simp; done) | (simp [*]; done), by repeat (first | exact Drawn0.refl _ | apply Drawn0.step)⟩
      · rw [if_neg c10] at H
        have c10b0 : (t154 == 2) = false := beq_eq_false_iff_ne.mpr c10
        have c10b1 : (t154 != 2) = true := bne_iff_ne.mpr c10
        by_cases c12 : t154 = 3
        · rw [if_pos c12] at H
          have c12b0 : (t154 == 3) = true := beq_iff_eq.mpr c12
          have c12b1 : (t154 != 3) = false := bne_eq_false_iff_eq.mpr c12
          clear c12
          replace H := Option.bind_eq_some_iff.mp H
          obtain ⟨⟨t161, t162⟩, A130, H⟩ := H
          replace H : (some (t161, t162)) = some (r1, r2) := H
          have A13 := Aside0.mk A130
          clear A130
          simp only [Option.some.injEq, Prod.mk.injEq] at H
          obtain ⟨rfl, rfl⟩ := H
          go_enter Tryd.func17, Tryd.ntmps17
          go_wp2_with (first | ((with_reducible refine gate_callee (f := 29) rfl ?_); refine goesL_ (some 15) rfl rfl Tryd.func29 (by kernel_rfl) rfl #[.int .i64 a0, .int .i64 8] rfl (by (try simp only [List.map_toArray, List.map_cons, List.map_nil]); first | done | rfl | (simp only [List.length_drop, List.length_take]; rfl)) ?_; (with_reducible refine (pendulumref05_Mod.calls a0 8 t154 _ A5.out).mono ?_); rintro e w' ⟨rfl, ⟨nd, rfl⟩⟩; refine ⟨_, rfl, ?_⟩) | ((with_reducible refine gate_callee (f := 9) rfl ?_); refine goesL_ (some 43) rfl rfl Tryd.func9 (by kernel_rfl) rfl #[.int .u8 a1, .int .u8 a2, .bool ((Int.tmod a3 2) == 1)] rfl (by (try simp only [List.map_toArray, List.map_cons, List.map_nil]); first | done | rfl | (simp only [List.length_drop, List.length_take]; rfl)) ?_; (with_reducible refine (pendulumref05_Sub.calls a1 a2 ((Int.tmod a3 2) == 1) t161 t162 _ A13.out).mono ?_); rintro e w' ⟨rfl, ⟨nd, rfl⟩⟩; refine ⟨_, rfl, ?_⟩))
          go_ret2
          exact ⟨by first | rfl | (simp; done) | (simp [*]; done), by repeat (first | exact Drawn0.refl _ | apply Drawn0.step)⟩
        · rw [if_neg c12] at H
          have c12b0 : (t154 == 3) = false := beq_eq_false_iff_ne.mpr c12
          have c12b1 : (t154 != 3) = true := bne_iff_ne.mpr c12
          by_cases c14 : t154 = 4
          · rw [if_pos c14] at H
            have c14b0 : (t154 == 4) = true := beq_iff_eq.mpr c14
            have c14b1 : (t154 != 4) = false := bne_eq_false_iff_eq.mpr c14
            clear c14
            replace H := Option.bind_eq_some_iff.mp H
            obtain ⟨⟨t163, t164⟩, A150, H⟩ := H
            replace H : (some (t163, t164)) = some (r1, r2) := H
            have A15 := Aside0.mk A150
            clear A150
            simp only [Option.some.injEq, Prod.mk.injEq] at H
            obtain ⟨rfl, rfl⟩ := H
            go_enter Tryd.func17, Tryd.ntmps17
            go_wp2_with (first | ((with_reducible refine gate_callee (f := 29) rfl ?_); refine goesL_ (some 15) rfl rfl Tryd.func29 (by kernel_rfl) rfl #[.int .i64 a0, .int .i64 8] rfl (by (try simp only [List.map_toArray, List.map_cons, List.map_nil]); first | done | rfl | (simp only [List.length_drop, List.length_take]; rfl)) ?_; (with_reducible refine (pendulumref05_Mod.calls a0 8 t154 _ A5.out).mono ?_); rintro e w' ⟨rfl, ⟨nd, rfl⟩⟩; refine ⟨_, rfl, ?_⟩) | ((with_reducible refine gate_callee (f := 30) rfl ?_); refine goesL_ (some 50) rfl rfl Tryd.func30 (by kernel_rfl) rfl #[.int .u8 a1, .int .u8 a2] rfl (by (try simp only [List.map_toArray, List.map_cons, List.map_nil]); first | done | rfl | (simp only [List.length_drop, List.length_take]; rfl)) ?_; (with_reducible refine (pendulumref05_And.calls k a1 a2 t163 t164 _ A15.out).mono ?_); rintro e w' ⟨rfl, ⟨nd, rfl⟩⟩; refine ⟨_, rfl, ?_⟩))
            go_ret2
            exact ⟨by first | rfl | (simp; done) | (simp [*]; done), by repeat (first | exact Drawn0.refl _ | apply Drawn0.step)⟩
          · rw [if_neg c14] at H
            have c14b0 : (t154 == 4) = false := beq_eq_false_iff_ne.mpr c14
            have c14b1 : (t154 != 4) = true := bne_iff_ne.mpr c14
            by_cases c16 : t154 = 5
            · rw [if_pos c16] at H
              have c16b0 : (t154 == 5) = true := beq_iff_eq.mpr c16
              have c16b1 : (t154 != 5) = false := bne_eq_false_iff_eq.mpr c16
              clear c16
              replace H := Option.bind_eq_some_iff.mp H
              obtain ⟨⟨t165, t166⟩, A170, H⟩ := H
              replace H : (some (t165, t166)) = some (r1, r2) := H
              have A17 := Aside0.mk A170
              clear A170
              simp only [Option.some.injEq, Prod.mk.injEq] at H
              obtain ⟨rfl, rfl⟩ := H
              go_enter Tryd.func17, Tryd.ntmps17
              go_wp2_with (first | ((with_reducible refine gate_callee (f := 29) rfl ?_); refine goesL_ (some 15) rfl rfl Tryd.func29 (by kernel_rfl) rfl #[.int .i64 a0, .int .i64 8] rfl (by (try simp only [List.map_toArray, List.map_cons, List.map_nil]); first | done | rfl | (simp only [List.length_drop, List.length_take]; rfl)) ?_; (with_reducible refine (pendulumref05_Mod.calls a0 8 t154 _ A5.out).mono ?_); rintro e w' ⟨rfl, ⟨nd, rfl⟩⟩; refine ⟨_, rfl, ?_⟩) | ((with_reducible refine gate_callee (f := 31) rfl ?_); refine goesL_ (some 57) rfl rfl Tryd.func31 (by kernel_rfl) rfl #[.int .u8 a1, .int .u8 a2] rfl (by (try simp only [List.map_toArray, List.map_cons, List.map_nil]); first | done | rfl | (simp only [List.length_drop, List.length_take]; rfl)) ?_; (with_reducible refine (pendulumref05_Xor.calls k a1 a2 t165 t166 _ A17.out).mono ?_); rintro e w' ⟨rfl, ⟨nd, rfl⟩⟩; refine ⟨_, rfl, ?_⟩))
              go_ret2
              exact ⟨by first | rfl | (simp; done) | (simp [*]; done), by repeat (first | exact Drawn0.refl _ | apply Drawn0.step)⟩
            · rw [if_neg c16] at H
              have c16b0 : (t154 == 5) = false := beq_eq_false_iff_ne.mpr c16
              have c16b1 : (t154 != 5) = true := bne_iff_ne.mpr c16
              by_cases c18 : t154 = 6
              · rw [if_pos c18] at H
                have c18b0 : (t154 == 6) = true := beq_iff_eq.mpr c18
                have c18b1 : (t154 != 6) = false := bne_eq_false_iff_eq.mpr c18
                clear c18
                replace H := Option.bind_eq_some_iff.mp H
                obtain ⟨⟨t167, t168⟩, A190, H⟩ := H
                replace H : (some (t167, t168)) = some (r1, r2) := H
                have A19 := Aside0.mk A190
                clear A190
                simp only [Option.some.injEq, Prod.mk.injEq] at H
                obtain ⟨rfl, rfl⟩ := H
                go_enter Tryd.func17, Tryd.ntmps17
                go_wp2_with (first | ((with_reducible refine gate_callee (f := 29) rfl ?_); refine goesL_ (some 15) rfl rfl Tryd.func29 (by kernel_rfl) rfl #[.int .i64 a0, .int .i64 8] rfl (by (try simp only [List.map_toArray, List.map_cons, List.map_nil]); first | done | rfl | (simp only [List.length_drop, List.length_take]; rfl)) ?_; (with_reducible refine (pendulumref05_Mod.calls a0 8 t154 _ A5.out).mono ?_); rintro e w' ⟨rfl, ⟨nd, rfl⟩⟩; refine ⟨_, rfl, ?_⟩) | ((with_reducible refine gate_callee (f := 32) rfl ?_); refine goesL_ (some 64) rfl rfl Tryd.func32 (by kernel_rfl) rfl #[.int .u8 a1, .int .u8 a2] rfl (by (try simp only [List.map_toArray, List.map_cons, List.map_nil]); first | done | rfl | (simp only [List.length_drop, List.length_take]; rfl)) ?_; (with_reducible refine (pendulumref05_Or.calls k a1 a2 t167 t168 _ A19.out).mono ?_); rintro e w' ⟨rfl, ⟨nd, rfl⟩⟩; refine ⟨_, rfl, ?_⟩))
                go_ret2
                exact ⟨by first | rfl | (simp; done) | (simp [*]; done), by repeat (first | exact Drawn0.refl _ | apply Drawn0.step)⟩
              · rw [if_neg c18] at H
                have c18b0 : (t154 == 6) = false := beq_eq_false_iff_ne.mpr c18
                have c18b1 : (t154 != 6) = true := bne_iff_ne.mpr c18
                replace H := Option.bind_eq_some_iff.mp H
                obtain ⟨t169, A200, H⟩ := H
                replace H : (some (a1, t169)) = some (r1, r2) := H
                have A20 := Aside0.mk A200
                clear A200
                simp only [Option.some.injEq, Prod.mk.injEq] at H
                obtain ⟨rfl, rfl⟩ := H
                go_enter Tryd.func17, Tryd.ntmps17
                go_wp2_with (first | ((with_reducible refine gate_callee (f := 29) rfl ?_); refine goesL_ (some 15) rfl rfl Tryd.func29 (by kernel_rfl) rfl #[.int .i64 a0, .int .i64 8] rfl (by (try simp only [List.map_toArray, List.map_cons, List.map_nil]); first | done | rfl | (simp only [List.length_drop, List.length_take]; rfl)) ?_; (with_reducible refine (pendulumref05_Mod.calls a0 8 t154 _ A5.out).mono ?_); rintro e w' ⟨rfl, ⟨nd, rfl⟩⟩; refine ⟨_, rfl, ?_⟩) | ((with_reducible refine gate_callee (f := 11) rfl ?_); refine goesL_ (some 70) rfl rfl Tryd.func11 (by kernel_rfl) rfl #[.int .u8 a1, .int .u8 a2] rfl (by (try simp only [List.map_toArray, List.map_cons, List.map_nil]); first | done | rfl | (simp only [List.length_drop, List.length_take]; rfl)) ?_; (with_reducible refine (pendulumref05_Cp.calls a1 a2 t169 _ A20.out).mono ?_); rintro e w' ⟨rfl, ⟨nd, rfl⟩⟩; refine ⟨_, rfl, ?_⟩))
                go_ret2
                exact ⟨by first | rfl | (simp; done) | (simp [*]; done), by repeat (first | exact Drawn0.refl _ | apply Drawn0.step)⟩

/-! ### alu_Inc: function 18 -/
def alu_Inc.f (a0 : Int) (a1 : Int) : Option (Int × Int) := (alu_Add.f a0 1 false).bind fun bt170 => (some (bt170.1, Go.bits .or .u8 (Go.bits .andNot .u8 bt170.2 1) (Go.bits .and .u8 a1 1)))
set_option maxHeartbeats 8000000 in
set_option maxRecDepth 100000 in
theorem alu_Inc.calls (a0 : Int) (a1 : Int) (r1 : Int) (r2 : Int) (w : World) (h : alu_Inc.f a0 a1 = some (r1, r2)) :
    Calls Tryd.prog 18 #[.int .u8 a0, .int .u8 a1] w fun e w' => e = .returned (.tuple #[.int .u8 r1, .int .u8 r2]) ∧ Drawn0 w w' := by
  have H : ((alu_Add.f a0 1 false).bind fun bt170 => (some (bt170.1, Go.bits .or .u8 (Go.bits .andNot .u8 bt170.2 1) (Go.bits .and .u8 a1 1)))) = some (r1, r2) := h
  clear h
  replace H := Option.bind_eq_some_iff.mp H
  obtain ⟨⟨t170, t171⟩, A30, H⟩ := H
  replace H : (some (t170, Go.bits .or .u8 (Go.bits .andNot .u8 t171 1) (Go.bits .and .u8 a1 1))) = some (r1, r2) := H
  have A3 := Aside0.mk A30
  clear A30
  simp only [Option.some.injEq, Prod.mk.injEq] at H
  obtain ⟨rfl, rfl⟩ := H
  go_enter Tryd.func18, Tryd.ntmps18
  go_wp2_with (first | ((with_reducible refine gate_callee (f := 6) rfl ?_); refine goesL_ (some 8) rfl rfl Tryd.func6 (by kernel_rfl) rfl #[.int .u8 a0, .int .u8 1, .bool false] rfl (by (try simp only [List.map_toArray, List.map_cons, List.map_nil]); first | done | rfl | (simp only [List.length_drop, List.length_take]; rfl)) ?_; (with_reducible refine (alu_Add.calls a0 1 false t170 t171 _ A3.out).mono ?_); rintro e w' ⟨rfl, ⟨nd, rfl⟩⟩; refine ⟨_, rfl, ?_⟩))
  go_ret2
  exact ⟨by first | rfl | (simp; done) | (simp [*]; done), by repeat (first | exact Drawn0.refl _ | apply Drawn0.step)⟩

/-! ### pendulumref05_Inc: function 19 -/
def pendulumref05_Inc.f (a0 : Int) (a1 : Int) : Option (Int × Int) := (pendulumref05_Add.f a0 1 false).bind fun bt172 => (some (bt172.1, Go.bits .or .u8 (Go.bits .andNot .u8 bt172.2 1) (Go.bits .and .u8 a1 1)))
set_option maxHeartbeats 8000000 in
set_option maxRecDepth 100000 in
theorem pendulumref05_Inc.calls (a0 : Int) (a1 : Int) (r1 : Int) (r2 : Int) (w : World) (h : pendulumref05_Inc.f a0 a1 = some (r1, r2)) :
    Calls Tryd.prog 19 #[.int .u8 a0, .int .u8 a1] w fun e w' => e = .returned (.tuple #[.int .u8 r1, .int .u8 r2]) ∧ Drawn0 w w' := by
  have H : ((pendulumref05_Add.f a0 1 false).bind fun bt172 => (some (bt172.1, Go.bits .or .u8 (Go.bits .andNot .u8 bt172.2 1) (Go.bits .and .u8 a1 1)))) = some (r1, r2) := h
  clear h
  replace H := Option.bind_eq_some_iff.mp H
  obtain ⟨⟨t172, t173⟩, A30, H⟩ := H
  replace H : (some (t172, Go.bits .or .u8 (Go.bits .andNot .u8 t173 1) (Go.bits .and .u8 a1 1))) = some (r1, r2) := H
  have A3 := Aside0.mk A30
  clear A30
  simp only [Option.some.injEq, Prod.mk.injEq] at H
  obtain ⟨rfl, rfl⟩ := H
  go_enter Tryd.func19, Tryd.ntmps19
  go_wp2_with (first | ((with_reducible refine gate_callee (f := 7) rfl ?_); refine goesL_ (some 10) rfl rfl Tryd.func7 (by kernel_rfl) rfl #[.int .u8 a0, .int .u8 1, .bool false] rfl (by (try simp only [List.map_toArray, List.map_cons, List.map_nil]); first | done | rfl | (simp only [List.length_drop, List.length_take]; rfl)) ?_; (with_reducible refine (pendulumref05_Add.calls a0 1 false t172 t173 _ A3.out).mono ?_); rintro e w' ⟨rfl, ⟨nd, rfl⟩⟩; refine ⟨_, rfl, ?_⟩))
  go_ret2
  exact ⟨by first | rfl | (simp; done) | (simp [*]; done), by repeat (first | exact Drawn0.refl _ | apply Drawn0.step)⟩

/-! ### pendulumlaw05_AluCalls: function 3 -/
def pendulumlaw05_AluCalls.j0 : Nat → Int → Int → Int → Int → Bool → Option (Bool)
  | 0, _, _, _, _, _ => none
  | k + 1, x0, x1, x2, x4, x89 => if x89 = true then (some false) else ((alu_Do.f x4 x0 x1 x2).bind fun bt189 => ((pendulumref05_Do.f k x4 x0 x1 x2).bind fun bt191 => ((alu_Inc.f x0 x2).bind fun bt193 => ((pendulumref05_Inc.f x0 x2).bind fun bt195 => (if bt189.1 = bt191.1 then (if bt189.2 = bt191.2 then (if bt193.1 = bt195.1 then (some (bt193.2 == bt195.2)) else (some false)) else (some false)) else (some false))))))
def pendulumlaw05_AluCalls.f (k : Nat) (a0 : Int) (a1 : Int) (a2 : Int) (a3 : Bool) (a4 : Int) : Option (Bool) := (pendulumlaw05_lives.f).bind fun t174 => (if t174 = true then ((alu_Add.f a0 a1 a3).bind fun bt175 => ((pendulumref05_Add.f a0 a1 a3).bind fun bt177 => ((alu_Sub.f a0 a1 a3).bind fun bt179 => ((pendulumref05_Sub.f a0 a1 a3).bind fun bt181 => (if bt175.1 = bt177.1 then (if bt175.2 = bt177.2 then (if bt179.1 = bt181.1 then (if bt179.2 = bt181.2 then ((alu_Cp.f a0 a1).bind fun t183 => ((pendulumref05_Cp.f a0 a1).bind fun t184 => (if t183 = t184 then ((alu_Own.f a0).bind fun t185 => ((pendulumref05_Own.f a0).bind fun t186 => (if t185 = t186 then ((alu_Parity.f a0).bind fun t187 => ((pendulumref05_Parity.f k a0).bind fun t188 => (pendulumlaw05_AluCalls.j0 k a0 a1 a2 a4 (t187 != t188)))) else (pendulumlaw05_AluCalls.j0 k a0 a1 a2 a4 true)))) else (pendulumlaw05_AluCalls.j0 k a0 a1 a2 a4 true)))) else (pendulumlaw05_AluCalls.j0 k a0 a1 a2 a4 true)) else (pendulumlaw05_AluCalls.j0 k a0 a1 a2 a4 true)) else (pendulumlaw05_AluCalls.j0 k a0 a1 a2 a4 true)) else (pendulumlaw05_AluCalls.j0 k a0 a1 a2 a4 true)))))) else (some false))
theorem pendulumlaw05_AluCalls.mono_l : ∀ k, (∀ y0 y1 y2 y3 y4, LeO (pendulumlaw05_AluCalls.j0 k y0 y1 y2 y3 y4) (pendulumlaw05_AluCalls.j0 (k + 1) y0 y1 y2 y3 y4))
  | 0 => fun _ _ _ _ _ r h => by simp [pendulumlaw05_AluCalls.j0] at h
  | k + 1 => by
    have ih0 := pendulumlaw05_AluCalls.mono_l k
    · intro y0 y1 y2 y3 y4
      unfold pendulumlaw05_AluCalls.j0
      repeat' first
      | (with_reducible exact ih0 _ _ _ _ _)
      | (with_reducible exact pendulumref05_Do.mono _ _ _ _ _)
      | (with_reducible exact pendulumref05_Parity.mono _ _)
      | (with_reducible exact LeO.refl _)
      | (with_reducible exact LeO.none _)
      | (with_reducible refine LeO.ite ?_ ?_)
      | (with_reducible refine LeO.bind ?_ (fun _ => ?_))
      | exact ih0 _ _ _ _ _
      | exact pendulumref05_Do.mono _ _ _ _ _
      | exact pendulumref05_Parity.mono _ _
      | exact LeO.none _
      | refine LeO.ite ?_ ?_
      | refine LeO.bind ?_ (fun _ => ?_)
theorem pendulumlaw05_AluCalls.mono : ∀ a0 a1 a2 a3 a4 k, LeO (pendulumlaw05_AluCalls.f k a0 a1 a2 a3 a4) (pendulumlaw05_AluCalls.f (k + 1) a0 a1 a2 a3 a4) := by
  intro a0 a1 a2 a3 a4 k
  have ih0 := pendulumlaw05_AluCalls.mono_l k
  unfold pendulumlaw05_AluCalls.f
  repeat' first
      | (with_reducible exact ih0 _ _ _ _ _)
      | (with_reducible exact pendulumref05_Do.mono _ _ _ _ _)
      | (with_reducible exact pendulumref05_Parity.mono _ _)
      | (with_reducible exact LeO.refl _)
      | (with_reducible exact LeO.none _)
      | (with_reducible refine LeO.ite ?_ ?_)
      | (with_reducible refine LeO.bind ?_ (fun _ => ?_))
      | exact ih0 _ _ _ _ _
      | exact pendulumref05_Do.mono _ _ _ _ _
      | exact pendulumref05_Parity.mono _ _
      | exact LeO.none _
      | refine LeO.ite ?_ ?_
      | refine LeO.bind ?_ (fun _ => ?_)
set_option maxHeartbeats 8000000 in
set_option maxRecDepth 100000 in
theorem pendulumlaw05_AluCalls.calls (k : Nat) (a0 : Int) (a1 : Int) (a2 : Int) (a3 : Bool) (a4 : Int) (r : Bool) (w : World) (h : pendulumlaw05_AluCalls.f k a0 a1 a2 a3 a4 = some r) (hT : Table w) :
    Calls Tryd.prog 3 #[.int .u8 a0, .int .u8 a1, .int .u8 a2, .bool a3, .int .i64 a4] w fun e w' => e = .returned (.bool r) ∧ Drawn0 w w' := by
  have H : ((pendulumlaw05_lives.f).bind fun t174 => (if t174 = true then ((alu_Add.f a0 a1 a3).bind fun bt175 => ((pendulumref05_Add.f a0 a1 a3).bind fun bt177 => ((alu_Sub.f a0 a1 a3).bind fun bt179 => ((pendulumref05_Sub.f a0 a1 a3).bind fun bt181 => (if bt175.1 = bt177.1 then (if bt175.2 = bt177.2 then (if bt179.1 = bt181.1 then (if bt179.2 = bt181.2 then ((alu_Cp.f a0 a1).bind fun t183 => ((pendulumref05_Cp.f a0 a1).bind fun t184 => (if t183 = t184 then ((alu_Own.f a0).bind fun t185 => ((pendulumref05_Own.f a0).bind fun t186 => (if t185 = t186 then ((alu_Parity.f a0).bind fun t187 => ((pendulumref05_Parity.f k a0).bind fun t188 => (pendulumlaw05_AluCalls.j0 k a0 a1 a2 a4 (t187 != t188)))) else (pendulumlaw05_AluCalls.j0 k a0 a1 a2 a4 true)))) else (pendulumlaw05_AluCalls.j0 k a0 a1 a2 a4 true)))) else (pendulumlaw05_AluCalls.j0 k a0 a1 a2 a4 true)) else (pendulumlaw05_AluCalls.j0 k a0 a1 a2 a4 true)) else (pendulumlaw05_AluCalls.j0 k a0 a1 a2 a4 true)) else (pendulumlaw05_AluCalls.j0 k a0 a1 a2 a4 true)))))) else (some false))) = some r := h
  clear h
  replace H := Option.bind_eq_some_iff.mp H
  obtain ⟨t174, A60, H⟩ := H
  replace H : (if t174 = true then ((alu_Add.f a0 a1 a3).bind fun bt175 => ((pendulumref05_Add.f a0 a1 a3).bind fun bt177 => ((alu_Sub.f a0 a1 a3).bind fun bt179 => ((pendulumref05_Sub.f a0 a1 a3).bind fun bt181 => (if bt175.1 = bt177.1 then (if bt175.2 = bt177.2 then (if bt179.1 = bt181.1 then (if bt179.2 = bt181.2 then ((alu_Cp.f a0 a1).bind fun t183 => ((pendulumref05_Cp.f a0 a1).bind fun t184 => (if t183 = t184 then ((alu_Own.f a0).bind fun t185 => ((pendulumref05_Own.f a0).bind fun t186 => (if t185 = t186 then ((alu_Parity.f a0).bind fun t187 => ((pendulumref05_Parity.f k a0).bind fun t188 => (pendulumlaw05_AluCalls.j0 k a0 a1 a2 a4 (t187 != t188)))) else (pendulumlaw05_AluCalls.j0 k a0 a1 a2 a4 true)))) else (pendulumlaw05_AluCalls.j0 k a0 a1 a2 a4 true)))) else (pendulumlaw05_AluCalls.j0 k a0 a1 a2 a4 true)) else (pendulumlaw05_AluCalls.j0 k a0 a1 a2 a4 true)) else (pendulumlaw05_AluCalls.j0 k a0 a1 a2 a4 true)) else (pendulumlaw05_AluCalls.j0 k a0 a1 a2 a4 true)))))) else (some false)) = some r := H
  have A6 := Aside0.mk A60
  clear A60
  by_cases c7 : t174 = true
  · subst c7
    have H1 : ((alu_Add.f a0 a1 a3).bind fun bt175 => ((pendulumref05_Add.f a0 a1 a3).bind fun bt177 => ((alu_Sub.f a0 a1 a3).bind fun bt179 => ((pendulumref05_Sub.f a0 a1 a3).bind fun bt181 => (if bt175.1 = bt177.1 then (if bt175.2 = bt177.2 then (if bt179.1 = bt181.1 then (if bt179.2 = bt181.2 then ((alu_Cp.f a0 a1).bind fun t183 => ((pendulumref05_Cp.f a0 a1).bind fun t184 => (if t183 = t184 then ((alu_Own.f a0).bind fun t185 => ((pendulumref05_Own.f a0).bind fun t186 => (if t185 = t186 then ((alu_Parity.f a0).bind fun t187 => ((pendulumref05_Parity.f k a0).bind fun t188 => (pendulumlaw05_AluCalls.j0 k a0 a1 a2 a4 (t187 != t188)))) else (pendulumlaw05_AluCalls.j0 k a0 a1 a2 a4 true)))) else (pendulumlaw05_AluCalls.j0 k a0 a1 a2 a4 true)))) else (pendulumlaw05_AluCalls.j0 k a0 a1 a2 a4 true)) else (pendulumlaw05_AluCalls.j0 k a0 a1 a2 a4 true)) else (pendulumlaw05_AluCalls.j0 k a0 a1 a2 a4 true)) else (pendulumlaw05_AluCalls.j0 k a0 a1 a2 a4 true)))))) = some r := by rw [if_pos rfl] at H; exact H
    clear H
    have H := H1
    clear H1
    replace H := Option.bind_eq_some_iff.mp H
    obtain ⟨⟨t175, t176⟩, A80, H⟩ := H
    replace H : ((pendulumref05_Add.f a0 a1 a3).bind fun bt177 => ((alu_Sub.f a0 a1 a3).bind fun bt179 => ((pendulumref05_Sub.f a0 a1 a3).bind fun bt181 => (if t175 = bt177.1 then (if t176 = bt177.2 then (if bt179.1 = bt181.1 then (if bt179.2 = bt181.2 then ((alu_Cp.f a0 a1).bind fun t183 => ((pendulumref05_Cp.f a0 a1).bind fun t184 => (if t183 = t184 then ((alu_Own.f a0).bind fun t185 => ((pendulumref05_Own.f a0).bind fun t186 => (if t185 = t186 then ((alu_Parity.f a0).bind fun t187 => ((pendulumref05_Parity.f k a0).bind fun t188 => (pendulumlaw05_AluCalls.j0 k a0 a1 a2 a4 (t187 != t188)))) else (pendulumlaw05_AluCalls.j0 k a0 a1 a2 a4 true)))) else (pendulumlaw05_AluCalls.j0 k a0 a1 a2 a4 true)))) else (pendulumlaw05_AluCalls.j0 k a0 a1 a2 a4 true)) else (pendulumlaw05_AluCalls.j0 k a0 a1 a2 a4 true)) else (pendulumlaw05_AluCalls.j0 k a0 a1 a2 a4 true)) else (pendulumlaw05_AluCalls.j0 k a0 a1 a2 a4 true))))) = some r := H
    have A8 := Aside0.mk A80
    clear A80
    replace H := Option.bind_eq_some_iff.mp H
    obtain ⟨⟨t177, t178⟩, A90, H⟩ := H
    replace H : ((alu_Sub.f a0 a1 a3).bind fun bt179 => ((pendulumref05_Sub.f a0 a1 a3).bind fun bt181 => (if t175 = t177 then (if t176 = t178 then (if bt179.1 = bt181.1 then (if bt179.2 = bt181.2 then ((alu_Cp.f a0 a1).bind fun t183 => ((pendulumref05_Cp.f a0 a1).bind fun t184 => (if t183 = t184 then ((alu_Own.f a0).bind fun t185 => ((pendulumref05_Own.f a0).bind fun t186 => (if t185 = t186 then ((alu_Parity.f a0).bind fun t187 => ((pendulumref05_Parity.f k a0).bind fun t188 => (pendulumlaw05_AluCalls.j0 k a0 a1 a2 a4 (t187 != t188)))) else (pendulumlaw05_AluCalls.j0 k a0 a1 a2 a4 true)))) else (pendulumlaw05_AluCalls.j0 k a0 a1 a2 a4 true)))) else (pendulumlaw05_AluCalls.j0 k a0 a1 a2 a4 true)) else (pendulumlaw05_AluCalls.j0 k a0 a1 a2 a4 true)) else (pendulumlaw05_AluCalls.j0 k a0 a1 a2 a4 true)) else (pendulumlaw05_AluCalls.j0 k a0 a1 a2 a4 true)))) = some r := H
    have A9 := Aside0.mk A90
    clear A90
    replace H := Option.bind_eq_some_iff.mp H
    obtain ⟨⟨t179, t180⟩, A100, H⟩ := H
    replace H : ((pendulumref05_Sub.f a0 a1 a3).bind fun bt181 => (if t175 = t177 then (if t176 = t178 then (if t179 = bt181.1 then (if t180 = bt181.2 then ((alu_Cp.f a0 a1).bind fun t183 => ((pendulumref05_Cp.f a0 a1).bind fun t184 => (if t183 = t184 then ((alu_Own.f a0).bind fun t185 => ((pendulumref05_Own.f a0).bind fun t186 => (if t185 = t186 then ((alu_Parity.f a0).bind fun t187 => ((pendulumref05_Parity.f k a0).bind fun t188 => (pendulumlaw05_AluCalls.j0 k a0 a1 a2 a4 (t187 != t188)))) else (pendulumlaw05_AluCalls.j0 k a0 a1 a2 a4 true)))) else (pendulumlaw05_AluCalls.j0 k a0 a1 a2 a4 true)))) else (pendulumlaw05_AluCalls.j0 k a0 a1 a2 a4 true)) else (pendulumlaw05_AluCalls.j0 k a0 a1 a2 a4 true)) else (pendulumlaw05_AluCalls.j0 k a0 a1 a2 a4 true)) else (pendulumlaw05_AluCalls.j0 k a0 a1 a2 a4 true))) = some r := H
    have A10 := Aside0.mk A100
    clear A100
    replace H := Option.bind_eq_some_iff.mp H
    obtain ⟨⟨t181, t182⟩, A110, H⟩ := H
    replace H : (if t175 = t177 then (if t176 = t178 then (if t179 = t181 then (if t180 = t182 then ((alu_Cp.f a0 a1).bind fun t183 => ((pendulumref05_Cp.f a0 a1).bind fun t184 => (if t183 = t184 then ((alu_Own.f a0).bind fun t185 => ((pendulumref05_Own.f a0).bind fun t186 => (if t185 = t186 then ((alu_Parity.f a0).bind fun t187 => ((pendulumref05_Parity.f k a0).bind fun t188 => (pendulumlaw05_AluCalls.j0 k a0 a1 a2 a4 (t187 != t188)))) else (pendulumlaw05_AluCalls.j0 k a0 a1 a2 a4 true)))) else (pendulumlaw05_AluCalls.j0 k a0 a1 a2 a4 true)))) else (pendulumlaw05_AluCalls.j0 k a0 a1 a2 a4 true)) else (pendulumlaw05_AluCalls.j0 k a0 a1 a2 a4 true)) else (pendulumlaw05_AluCalls.j0 k a0 a1 a2 a4 true)) else (pendulumlaw05_AluCalls.j0 k a0 a1 a2 a4 true)) = some r := H
    have A11 := Aside0.mk A110
    clear A110
    have HC12 := Aside0.mk H
    clear H
    go_enter Tryd.func3, Tryd.ntmps3
    go_upto_region 7 with (first | ((with_reducible refine gate_callee (f := 5) rfl ?_); refine goesL_ (some 19) rfl rfl Tryd.func5 (by kernel_rfl) rfl #[] rfl (by (try simp only [List.map_toArray, List.map_cons, List.map_nil]); first | done | rfl | (simp only [List.length_drop, List.length_take]; rfl)) ?_; (with_reducible refine (pendulumlaw05_lives.calls  true _ A6.out).mono ?_); rintro e w' ⟨rfl, ⟨nd, rfl⟩⟩; refine ⟨_, rfl, ?_⟩) | ((with_reducible refine gate_callee (f := 6) rfl ?_); refine goesL_ (some 25) rfl rfl Tryd.func6 (by kernel_rfl) rfl #[.int .u8 a0, .int .u8 a1, .bool a3] rfl (by (try simp only [List.map_toArray, List.map_cons, List.map_nil]); first | done | rfl | (simp only [List.length_drop, List.length_take]; rfl)) ?_; (with_reducible refine (alu_Add.calls a0 a1 a3 t175 t176 _ A8.out).mono ?_); rintro e w' ⟨rfl, ⟨nd, rfl⟩⟩; refine ⟨_, rfl, ?_⟩) | ((with_reducible refine gate_callee (f := 7) rfl ?_); refine goesL_ (some 32) rfl rfl Tryd.func7 (by kernel_rfl) rfl #[.int .u8 a0, .int .u8 a1, .bool a3] rfl (by (try simp only [List.map_toArray, List.map_cons, List.map_nil]); first | done | rfl | (simp only [List.length_drop, List.length_take]; rfl)) ?_; (with_reducible refine (pendulumref05_Add.calls a0 a1 a3 t177 t178 _ A9.out).mono ?_); rintro e w' ⟨rfl, ⟨nd, rfl⟩⟩; refine ⟨_, rfl, ?_⟩) | ((with_reducible refine gate_callee (f := 8) rfl ?_); refine goesL_ (some 39) rfl rfl Tryd.func8 (by kernel_rfl) rfl #[.int .u8 a0, .int .u8 a1, .bool a3] rfl (by (try simp only [List.map_toArray, List.map_cons, List.map_nil]); first | done | rfl | (simp only [List.length_drop, List.length_take]; rfl)) ?_; (with_reducible refine (alu_Sub.calls a0 a1 a3 t179 t180 _ A10.out).mono ?_); rintro e w' ⟨rfl, ⟨nd, rfl⟩⟩; refine ⟨_, rfl, ?_⟩) | ((with_reducible refine gate_callee (f := 9) rfl ?_); refine goesL_ (some 46) rfl rfl Tryd.func9 (by kernel_rfl) rfl #[.int .u8 a0, .int .u8 a1, .bool a3] rfl (by (try simp only [List.map_toArray, List.map_cons, List.map_nil]); first | done | rfl | (simp only [List.length_drop, List.length_take]; rfl)) ?_; (with_reducible refine (pendulumref05_Sub.calls a0 a1 a3 t181 t182 _ A11.out).mono ?_); rintro e w' ⟨rfl, ⟨nd, rfl⟩⟩; refine ⟨_, rfl, ?_⟩))
    (try simp only [Act.put, List.setIfInBounds_toArray, List.set_cons_zero, List.set_cons_succ])
    go_cut [89] (fun v89 wc => ∃ (kq : Nat) (x89_11 : Bool), v89 = .bool x89_11 ∧ Aside0 (pendulumlaw05_AluCalls.j0 kq a0 a1 a2 a4 x89_11 = some r) ∧ Aside0 (kq ≤ k) ∧ Drawn0 w wc)
    case first =>
      have H := HC12.out
      clear HC12
      by_cases c13 : t175 = t177
      · rw [if_pos c13] at H
        have c13b0 : (t175 == t177) = true := beq_iff_eq.mpr c13
        have c13b1 : (t175 != t177) = false := bne_eq_false_iff_eq.mpr c13
        clear c13
        (first | rw [c13b0] | (simp only [i64_w, i32_w]; rw [c13b0]) | skip)
        by_cases c14 : t176 = t178
        · rw [if_pos c14] at H
          have c14b0 : (t176 == t178) = true := beq_iff_eq.mpr c14
          have c14b1 : (t176 != t178) = false := bne_eq_false_iff_eq.mpr c14
          clear c14
          by_cases c15 : t179 = t181
          · rw [if_pos c15] at H
            have c15b0 : (t179 == t181) = true := beq_iff_eq.mpr c15
            have c15b1 : (t179 != t181) = false := bne_eq_false_iff_eq.mpr c15
            clear c15
            by_cases c16 : t180 = t182
            · rw [if_pos c16] at H
              have c16b0 : (t180 == t182) = true := beq_iff_eq.mpr c16
              have c16b1 : (t180 != t182) = false := bne_eq_false_iff_eq.mpr c16
              clear c16
              replace H := Option.bind_eq_some_iff.mp H
              obtain ⟨t183, A170, H⟩ := H
              replace H : ((pendulumref05_Cp.f a0 a1).bind fun t184 => (if t183 = t184 then ((alu_Own.f a0).bind fun t185 => ((pendulumref05_Own.f a0).bind fun t186 => (if t185 = t186 then ((alu_Parity.f a0).bind fun t187 => ((pendulumref05_Parity.f k a0).bind fun t188 => (pendulumlaw05_AluCalls.j0 k a0 a1 a2 a4 (t187 != t188)))) else (pendulumlaw05_AluCalls.j0 k a0 a1 a2 a4 true)))) else (pendulumlaw05_AluCalls.j0 k a0 a1 a2 a4 true))) = some r := H
              have A17 := Aside0.mk A170
              clear A170
              replace H := Option.bind_eq_some_iff.mp H
              obtain ⟨t184, A180, H⟩ := H
              replace H : (if t183 = t184 then ((alu_Own.f a0).bind fun t185 => ((pendulumref05_Own.f a0).bind fun t186 => (if t185 = t186 then ((alu_Parity.f a0).bind fun t187 => ((pendulumref05_Parity.f k a0).bind fun t188 => (pendulumlaw05_AluCalls.j0 k a0 a1 a2 a4 (t187 != t188)))) else (pendulumlaw05_AluCalls.j0 k a0 a1 a2 a4 true)))) else (pendulumlaw05_AluCalls.j0 k a0 a1 a2 a4 true)) = some r := H
              have A18 := Aside0.mk A180
              clear A180
              by_cases c19 : t183 = t184
              · rw [if_pos c19] at H
                have c19b0 : (t183 == t184) = true := beq_iff_eq.mpr c19
                have c19b1 : (t183 != t184) = false := bne_eq_false_iff_eq.mpr c19
                clear c19
                replace H := Option.bind_eq_some_iff.mp H
                obtain ⟨t185, A200, H⟩ := H
                replace H : ((pendulumref05_Own.f a0).bind fun t186 => (if t185 = t186 then ((alu_Parity.f a0).bind fun t187 => ((pendulumref05_Parity.f k a0).bind fun t188 => (pendulumlaw05_AluCalls.j0 k a0 a1 a2 a4 (t187 != t188)))) else (pendulumlaw05_AluCalls.j0 k a0 a1 a2 a4 true))) = some r := H
                have A20 := Aside0.mk A200
                clear A200
                replace H := Option.bind_eq_some_iff.mp H
                obtain ⟨t186, A210, H⟩ := H
                replace H : (if t185 = t186 then ((alu_Parity.f a0).bind fun t187 => ((pendulumref05_Parity.f k a0).bind fun t188 => (pendulumlaw05_AluCalls.j0 k a0 a1 a2 a4 (t187 != t188)))) else (pendulumlaw05_AluCalls.j0 k a0 a1 a2 a4 true)) = some r := H
                have A21 := Aside0.mk A210
                clear A210
                by_cases c22 : t185 = t186
                · rw [if_pos c22] at H
                  have c22b0 : (t185 == t186) = true := beq_iff_eq.mpr c22
                  have c22b1 : (t185 != t186) = false := bne_eq_false_iff_eq.mpr c22
                  clear c22
                  replace H := Option.bind_eq_some_iff.mp H
                  obtain ⟨t187, A230, H⟩ := H
                  replace H : ((pendulumref05_Parity.f k a0).bind fun t188 => (pendulumlaw05_AluCalls.j0 k a0 a1 a2 a4 (t187 != t188))) = some r := H
                  have A23 := Aside0.mk A230
                  clear A230
                  replace H := Option.bind_eq_some_iff.mp H
                  obtain ⟨t188, A240, H⟩ := H
                  replace H : (pendulumlaw05_AluCalls.j0 k a0 a1 a2 a4 (t187 != t188)) = some r := H
                  have A24 := Aside0.mk A240
                  clear A240
                  have H' := Aside0.mk H
                  clear H
                  go_wp2_with (first | (go_at_call 10; (with_reducible refine (alu_Cp.calls a0 a1 t183 _ A17.out).mono ?_); rintro e w' ⟨rfl, ⟨nd, rfl⟩⟩) | (go_at_call 11; (with_reducible refine (pendulumref05_Cp.calls a0 a1 t184 _ A18.out).mono ?_); rintro e w' ⟨rfl, ⟨nd, rfl⟩⟩) | (go_at_call 12; (with_reducible refine (alu_Own.calls a0 t185 _ A20.out).mono ?_); rintro e w' ⟨rfl, ⟨nd, rfl⟩⟩) | (go_at_call 13; (with_reducible refine (pendulumref05_Own.calls a0 t186 _ A21.out).mono ?_); rintro e w' ⟨rfl, ⟨nd, rfl⟩⟩) | (go_at_call 14; (with_reducible refine (alu_Parity.calls a0 t187 _ A23.out).mono ?_); rintro e w' ⟨rfl, ⟨nd, rfl⟩⟩) | (go_at_call 15; (with_reducible refine (pendulumref05_Parity.calls k a0 t188 _ A24.out).mono ?_); rintro e w' ⟨rfl, ⟨nd, rfl⟩⟩))
                  go_meet
                  case rel => exact ⟨_, ((t187 != t188)), (by first | rfl | (simp; done) | (simp [*]; done)), H', ⟨by first | omega | exact Nat.le_refl _⟩, by repeat (first | exact Drawn0.refl _ | apply Drawn0.step)⟩
                · rw [if_neg c22] at H
                  have c22b0 : (t185 == t186) = false := beq_eq_false_iff_ne.mpr c22
                  have c22b1 : (t185 != t186) = true := bne_iff_ne.mpr c22
                  have H' := Aside0.mk H
                  clear H
                  go_wp2_with (first | (go_at_call 10; (with_reducible refine (alu_Cp.calls a0 a1 t183 _ A17.out).mono ?_); rintro e w' ⟨rfl, ⟨nd, rfl⟩⟩) | (go_at_call 11; (with_reducible refine (pendulumref05_Cp.calls a0 a1 t184 _ A18.out).mono ?_); rintro e w' ⟨rfl, ⟨nd, rfl⟩⟩) | (go_at_call 12; (with_reducible refine (alu_Own.calls a0 t185 _ A20.out).mono ?_); rintro e w' ⟨rfl, ⟨nd, rfl⟩⟩) | (go_at_call 13; (with_reducible refine (pendulumref05_Own.calls a0 t186 _ A21.out).mono ?_); rintro e w' ⟨rfl, ⟨nd, rfl⟩⟩))
                  go_meet
                  case rel => exact ⟨_, (true), (by first | rfl | (simp; done) | (simp [*]; done)), H', ⟨by first | omega | exact Nat.le_refl _⟩, by repeat (first | exact Drawn0.refl _ | apply Drawn0.step)⟩
              · rw [if_neg c19] at H
                have c19b0 : (t183 == t184) = false := beq_eq_false_iff_ne.mpr c19
                have c19b1 : (t183 != t184) = true := bne_iff_ne.mpr c19
                have H' := Aside0.mk H
                clear H
                go_wp2_with (first | (go_at_call 10; (with_reducible refine (alu_Cp.calls a0 a1 t183 _ A17.out).mono ?_); rintro e w' ⟨rfl, ⟨nd, rfl⟩⟩) | (go_at_call 11; (with_reducible refine (pendulumref05_Cp.calls a0 a1 t184 _ A18.out).mono ?_); rintro e w' ⟨rfl, ⟨nd, rfl⟩⟩))
                go_meet
                case rel => exact ⟨_, (true), (by first | rfl | (simp; done) | (simp [*]; done)), H', ⟨by first | omega | exact Nat.le_refl _⟩, by repeat (first | exact Drawn0.refl _ | apply Drawn0.step)⟩
            · rw [if_neg c16] at H
              have c16b0 : (t180 == t182) = false := beq_eq_false_iff_ne.mpr c16
              have c16b1 : (t180 != t182) = true := bne_iff_ne.mpr c16
              have H' := Aside0.mk H
              clear H
              go_wp2
              go_meet
              case rel => exact ⟨_, (true), (by first | rfl | (simp; done) | (simp [*]; done)), H', ⟨by first | omega | exact Nat.le_refl _⟩, by repeat (first | exact Drawn0.refl _ | apply Drawn0.step)⟩
          · rw [if_neg c15] at H
            have c15b0 : (t179 == t181) = false := beq_eq_false_iff_ne.mpr c15
            have c15b1 : (t179 != t181) = true := bne_iff_ne.mpr c15
            have H' := Aside0.mk H
            clear H
            go_wp2
            go_meet
            case rel => exact ⟨_, (true), (by first | rfl | (simp; done) | (simp [*]; done)), H', ⟨by first | omega | exact Nat.le_refl _⟩, by repeat (first | exact Drawn0.refl _ | apply Drawn0.step)⟩
        · rw [if_neg c14] at H
          have c14b0 : (t176 == t178) = false := beq_eq_false_iff_ne.mpr c14
          have c14b1 : (t176 != t178) = true := bne_iff_ne.mpr c14
          have H' := Aside0.mk H
          clear H
          go_wp2
          go_meet
          case rel => exact ⟨_, (true), (by first | rfl | (simp; done) | (simp [*]; done)), H', ⟨by first | omega | exact Nat.le_refl _⟩, by repeat (first | exact Drawn0.refl _ | apply Drawn0.step)⟩
      · rw [if_neg c13] at H
        have c13b0 : (t175 == t177) = false := beq_eq_false_iff_ne.mpr c13
        have c13b1 : (t175 != t177) = true := bne_iff_ne.mpr c13
        (first | rw [c13b0] | (simp only [i64_w, i32_w]; rw [c13b0]) | skip)
        have H' := Aside0.mk H
        clear H
        go_wp2
        go_meet
        case rel => exact ⟨_, (true), (by first | rfl | (simp; done) | (simp [*]; done)), H', ⟨by first | omega | exact Nat.le_refl _⟩, by repeat (first | exact Drawn0.refl _ | apply Drawn0.step)⟩
    case rest =>
      clear HC12
      try clear c1
      try clear c2
      try clear p2
      try clear c3
      try clear c5
      try clear c6
      try clear c7
      try clear c8
      try clear c9
      try clear c13
      try clear c13b0
      try clear c13b1
      try clear c14
      try clear c14b0
      try clear c14b1
      try clear c15
      try clear c15b0
      try clear c15b1
      try clear c16
      try clear c16b0
      try clear c16b1
      try clear c19
      try clear c19b0
      try clear c19b1
      try clear c22
      try clear c22b0
      try clear c22b1
      obtain ⟨kq, x89_11, rfl, HA, HJ11, ⟨mc11, rfl⟩⟩ := hcut
      cases kq with
      | zero => exact absurd HA.out (by simp [pendulumlaw05_AluCalls.j0])
      | succ kj11 =>
        have H := HA.out
        clear HA
        simp only [pendulumlaw05_AluCalls.j0] at H
        by_cases c25 : x89_11 = true
        · subst c25
          have H1 : (some false) = some r := by rw [if_pos rfl] at H; exact H
          clear H
          have H := H1
          clear H1
          obtain rfl := Option.some.inj H
          go_wp2
          go_ret
          exact ⟨by first | rfl | (simp; done) | (simp [*]; done), by repeat (first | exact Drawn0.refl _ | apply Drawn0.step)⟩
        · replace c25 := Bool.eq_false_iff.mpr c25
          subst c25
          have H1 : ((alu_Do.f a4 a0 a1 a2).bind fun bt189 => ((pendulumref05_Do.f kj11 a4 a0 a1 a2).bind fun bt191 => ((alu_Inc.f a0 a2).bind fun bt193 => ((pendulumref05_Inc.f a0 a2).bind fun bt195 => (if bt189.1 = bt191.1 then (if bt189.2 = bt191.2 then (if bt193.1 = bt195.1 then (some (bt193.2 == bt195.2)) else (some false)) else (some false)) else (some false)))))) = some r := by rw [if_neg (show ¬ (false = true) by decide)] at H; exact H
          clear H
          have H := H1
          clear H1
          replace H := Option.bind_eq_some_iff.mp H
          obtain ⟨⟨t189, t190⟩, A260, H⟩ := H
          replace H : ((pendulumref05_Do.f kj11 a4 a0 a1 a2).bind fun bt191 => ((alu_Inc.f a0 a2).bind fun bt193 => ((pendulumref05_Inc.f a0 a2).bind fun bt195 => (if t189 = bt191.1 then (if t190 = bt191.2 then (if bt193.1 = bt195.1 then (some (bt193.2 == bt195.2)) else (some false)) else (some false)) else (some false))))) = some r := H
          have A26 := Aside0.mk A260
          clear A260
          replace H := Option.bind_eq_some_iff.mp H
          obtain ⟨⟨t191, t192⟩, A270, H⟩ := H
          replace H : ((alu_Inc.f a0 a2).bind fun bt193 => ((pendulumref05_Inc.f a0 a2).bind fun bt195 => (if t189 = t191 then (if t190 = t192 then (if bt193.1 = bt195.1 then (some (bt193.2 == bt195.2)) else (some false)) else (some false)) else (some false)))) = some r := H
          have A27 := Aside0.mk A270
          clear A270
          replace H := Option.bind_eq_some_iff.mp H
          obtain ⟨⟨t193, t194⟩, A280, H⟩ := H
          replace H : ((pendulumref05_Inc.f a0 a2).bind fun bt195 => (if t189 = t191 then (if t190 = t192 then (if t193 = bt195.1 then (some (t194 == bt195.2)) else (some false)) else (some false)) else (some false))) = some r := H
          have A28 := Aside0.mk A280
          clear A280
          replace H := Option.bind_eq_some_iff.mp H
          obtain ⟨⟨t195, t196⟩, A290, H⟩ := H
          replace H : (if t189 = t191 then (if t190 = t192 then (if t193 = t195 then (some (t194 == t196)) else (some false)) else (some false)) else (some false)) = some r := H
          have A29 := Aside0.mk A290
          clear A290
          by_cases c30 : t189 = t191
          · rw [if_pos c30] at H
            have c30b0 : (t189 == t191) = true := beq_iff_eq.mpr c30
            have c30b1 : (t189 != t191) = false := bne_eq_false_iff_eq.mpr c30
            clear c30
            by_cases c31 : t190 = t192
            · rw [if_pos c31] at H
              have c31b0 : (t190 == t192) = true := beq_iff_eq.mpr c31
              have c31b1 : (t190 != t192) = false := bne_eq_false_iff_eq.mpr c31
              clear c31
              by_cases c32 : t193 = t195
              · rw [if_pos c32] at H
                have c32b0 : (t193 == t195) = true := beq_iff_eq.mpr c32
                have c32b1 : (t193 != t195) = false := bne_eq_false_iff_eq.mpr c32
                clear c32
                obtain rfl := Option.some.inj H
                go_wp2_with (first | ((with_reducible refine gate_callee (f := 16) rfl ?_); refine goesL_ (some 95) rfl rfl Tryd.func16 (by kernel_rfl) rfl #[.int .i64 a4, .int .u8 a0, .int .u8 a1, .int .u8 a2] rfl (by (try simp only [List.map_toArray, List.map_cons, List.map_nil]); first | done | rfl | (simp only [List.length_drop, List.length_take]; rfl)) ?_; (with_reducible refine (alu_Do.calls a4 a0 a1 a2 t189 t190 _ A26.out (by first | exact Table.drewN hT _ | exact hT)).mono ?_); rintro e w' ⟨rfl, ⟨nd, rfl⟩⟩; refine ⟨_, rfl, ?_⟩) | ((with_reducible refine gate_callee (f := 17) rfl ?_); refine goesL_ (some 103) rfl rfl Tryd.func17 (by kernel_rfl) rfl #[.int .i64 a4, .int .u8 a0, .int .u8 a1, .int .u8 a2] rfl (by (try simp only [List.map_toArray, List.map_cons, List.map_nil]); first | done | rfl | (simp only [List.length_drop, List.length_take]; rfl)) ?_; (with_reducible refine (pendulumref05_Do.calls kj11 a4 a0 a1 a2 t191 t192 _ A27.out).mono ?_); rintro e w' ⟨rfl, ⟨nd, rfl⟩⟩; refine ⟨_, rfl, ?_⟩) | ((with_reducible refine gate_callee (f := 18) rfl ?_); refine goesL_ (some 109) rfl rfl Tryd.func18 (by kernel_rfl) rfl #[.int .u8 a0, .int .u8 a2] rfl (by (try simp only [List.map_toArray, List.map_cons, List.map_nil]); first | done | rfl | (simp only [List.length_drop, List.length_take]; rfl)) ?_; (with_reducible refine (alu_Inc.calls a0 a2 t193 t194 _ A28.out).mono ?_); rintro e w' ⟨rfl, ⟨nd, rfl⟩⟩; refine ⟨_, rfl, ?_⟩) | ((with_reducible refine gate_callee (f := 19) rfl ?_); refine goesL_ (some 115) rfl rfl Tryd.func19 (by kernel_rfl) rfl #[.int .u8 a0, .int .u8 a2] rfl (by (try simp only [List.map_toArray, List.map_cons, List.map_nil]); first | done | rfl | (simp only [List.length_drop, List.length_take]; rfl)) ?_; (with_reducible refine (pendulumref05_Inc.calls a0 a2 t195 t196 _ A29.out).mono ?_); rintro e w' ⟨rfl, ⟨nd, rfl⟩⟩; refine ⟨_, rfl, ?_⟩))
                go_ret
                exact ⟨by first | rfl | (simp; done) | (simp [*]; done), by repeat (first | exact Drawn0.refl _ | apply Drawn0.step)⟩
              · rw [if_neg c32] at H
                have c32b0 : (t193 == t195) = false := beq_eq_false_iff_ne.mpr c32
                have c32b1 : (t193 != t195) = true := bne_iff_ne.mpr c32
                obtain rfl := Option.some.inj H
                go_wp2_with (first | ((with_reducible refine gate_callee (f := 16) rfl ?_); refine goesL_ (some 95) rfl rfl Tryd.func16 (by kernel_rfl) rfl #[.int .i64 a4, .int .u8 a0, .int .u8 a1, .int .u8 a2] rfl (by (try simp only [List.map_toArray, List.map_cons, List.map_nil]); first | done | rfl | (simp only [List.length_drop, List.length_take]; rfl)) ?_; (with_reducible refine (alu_Do.calls a4 a0 a1 a2 t189 t190 _ A26.out (by first | exact Table.drewN hT _ | exact hT)).mono ?_); rintro e w' ⟨rfl, ⟨nd, rfl⟩⟩; refine ⟨_, rfl, ?_⟩) | ((with_reducible refine gate_callee (f := 17) rfl ?_); refine goesL_ (some 103) rfl rfl Tryd.func17 (by kernel_rfl) rfl #[.int .i64 a4, .int .u8 a0, .int .u8 a1, .int .u8 a2] rfl (by (try simp only [List.map_toArray, List.map_cons, List.map_nil]); first | done | rfl | (simp only [List.length_drop, List.length_take]; rfl)) ?_; (with_reducible refine (pendulumref05_Do.calls kj11 a4 a0 a1 a2 t191 t192 _ A27.out).mono ?_); rintro e w' ⟨rfl, ⟨nd, rfl⟩⟩; refine ⟨_, rfl, ?_⟩) | ((with_reducible refine gate_callee (f := 18) rfl ?_); refine goesL_ (some 109) rfl rfl Tryd.func18 (by kernel_rfl) rfl #[.int .u8 a0, .int .u8 a2] rfl (by (try simp only [List.map_toArray, List.map_cons, List.map_nil]); first | done | rfl | (simp only [List.length_drop, List.length_take]; rfl)) ?_; (with_reducible refine (alu_Inc.calls a0 a2 t193 t194 _ A28.out).mono ?_); rintro e w' ⟨rfl, ⟨nd, rfl⟩⟩; refine ⟨_, rfl, ?_⟩) | ((with_reducible refine gate_callee (f := 19) rfl ?_); refine goesL_ (some 115) rfl rfl Tryd.func19 (by kernel_rfl) rfl #[.int .u8 a0, .int .u8 a2] rfl (by (try simp only [List.map_toArray, List.map_cons, List.map_nil]); first | done | rfl | (simp only [List.length_drop, List.length_take]; rfl)) ?_; (with_reducible refine (pendulumref05_Inc.calls a0 a2 t195 t196 _ A29.out).mono ?_); rintro e w' ⟨rfl, ⟨nd, rfl⟩⟩; refine ⟨_, rfl, ?_⟩))
                go_ret
                exact ⟨by first | rfl | (simp; done) | (simp [*]; done), by repeat (first | exact Drawn0.refl _ | apply Drawn0.step)⟩
            · rw [if_neg c31] at H
              have c31b0 : (t190 == t192) = false := beq_eq_false_iff_ne.mpr c31
              have c31b1 : (t190 != t192) = true := bne_iff_ne.mpr c31
              obtain rfl := Option.some.inj H
              go_wp2_with (first | ((with_reducible refine gate_callee (f := 16) rfl ?_); refine goesL_ (some 95) rfl rfl Tryd.func16 (by kernel_rfl) rfl #[.int .i64 a4, .int .u8 a0, .int .u8 a1, .int .u8 a2] rfl (by (try simp only [List.map_toArray, List.map_cons, List.map_nil]); first | done | rfl | (simp only [List.length_drop, List.length_take]; rfl)) ?_; (with_reducible refine (alu_Do.calls a4 a0 a1 a2 t189 t190 _ A26.out (by first | exact Table.drewN hT _ | exact hT)).mono ?_); rintro e w' ⟨rfl, ⟨nd, rfl⟩⟩; refine ⟨_, rfl, ?_⟩) | ((with_reducible refine gate_callee (f := 17) rfl ?_); refine goesL_ (some 103) rfl rfl Tryd.func17 (by kernel_rfl) rfl #[.int .i64 a4, .int .u8 a0, .int .u8 a1, .int .u8 a2] rfl (by (try simp only [List.map_toArray, List.map_cons, List.map_nil]); first | done | rfl | (simp only [List.length_drop, List.length_take]; rfl)) ?_; (with_reducible refine (pendulumref05_Do.calls kj11 a4 a0 a1 a2 t191 t192 _ A27.out).mono ?_); rintro e w' ⟨rfl, ⟨nd, rfl⟩⟩; refine ⟨_, rfl, ?_⟩) | ((with_reducible refine gate_callee (f := 18) rfl ?_); refine goesL_ (some 109) rfl rfl Tryd.func18 (by kernel_rfl) rfl #[.int .u8 a0, .int .u8 a2] rfl (by (try simp only [List.map_toArray, List.map_cons, List.map_nil]); first | done | rfl | (simp only [List.length_drop, List.length_take]; rfl)) ?_; (with_reducible refine (alu_Inc.calls a0 a2 t193 t194 _ A28.out).mono ?_); rintro e w' ⟨rfl, ⟨nd, rfl⟩⟩; refine ⟨_, rfl, ?_⟩) | ((with_reducible refine gate_callee (f := 19) rfl ?_); refine goesL_ (some 115) rfl rfl Tryd.func19 (by kernel_rfl) rfl #[.int .u8 a0, .int .u8 a2] rfl (by (try simp only [List.map_toArray, List.map_cons, List.map_nil]); first | done | rfl | (simp only [List.length_drop, List.length_take]; rfl)) ?_; (with_reducible refine (pendulumref05_Inc.calls a0 a2 t195 t196 _ A29.out).mono ?_); rintro e w' ⟨rfl, ⟨nd, rfl⟩⟩; refine ⟨_, rfl, ?_⟩))
              go_ret
              exact ⟨by first | rfl | (simp; done) | (simp [*]; done), by repeat (first | exact Drawn0.refl _ | apply Drawn0.step)⟩
          · rw [if_neg c30] at H
            have c30b0 : (t189 == t191) = false := beq_eq_false_iff_ne.mpr c30
            have c30b1 : (t189 != t191) = true := bne_iff_ne.mpr c30
            obtain rfl := Option.some.inj H
            go_wp2_with (first | ((with_reducible refine gate_callee (f := 16) rfl ?_); refine goesL_ (some 95) rfl rfl Tryd.func16 (by kernel_rfl) rfl #[.int .i64 a4, .int .u8 a0, .int .u8 a1, .int .u8 a2] rfl (by (try simp only [List.map_toArray, List.map_cons, List.map_nil]); first | done | rfl | (simp only [List.length_drop, List.length_take]; rfl)) ?_; (with_reducible refine (alu_Do.calls a4 a0 a1 a2 t189 t190 _ A26.out (by first | exact Table.drewN hT _ | exact hT)).mono ?_); rintro e w' ⟨rfl, ⟨nd, rfl⟩⟩; refine ⟨_, rfl, ?_⟩) | ((with_reducible refine gate_callee (f := 17) rfl ?_); refine goesL_ (some 103) rfl rfl Tryd.func17 (by kernel_rfl) rfl #[.int .i64 a4, .int .u8 a0, .int .u8 a1, .int .u8 a2] rfl (by (try simp only [List.map_toArray, List.map_cons, List.map_nil]); first | done | rfl | (simp only [List.length_drop, List.length_take]; rfl)) ?_; (with_reducible refine (pendulumref05_Do.calls kj11 a4 a0 a1 a2 t191 t192 _ A27.out).mono ?_); rintro e w' ⟨rfl, ⟨nd, rfl⟩⟩; refine ⟨_, rfl, ?_⟩) | ((with_reducible refine gate_callee (f := 18) rfl ?_); refine goesL_ (some 109) rfl rfl Tryd.func18 (by kernel_rfl) rfl #[.int .u8 a0, .int .u8 a2] rfl (by (try simp only [List.map_toArray, List.map_cons, List.map_nil]); first | done | rfl | (simp only [List.length_drop, List.length_take]; rfl)) ?_; (with_reducible refine (alu_Inc.calls a0 a2 t193 t194 _ A28.out).mono ?_); rintro e w' ⟨rfl, ⟨nd, rfl⟩⟩; refine ⟨_, rfl, ?_⟩) | ((with_reducible refine gate_callee (f := 19) rfl ?_); refine goesL_ (some 115) rfl rfl Tryd.func19 (by kernel_rfl) rfl #[.int .u8 a0, .int .u8 a2] rfl (by (try simp only [List.map_toArray, List.map_cons, List.map_nil]); first | done | rfl | (simp only [List.length_drop, List.length_take]; rfl)) ?_; (with_reducible refine (pendulumref05_Inc.calls a0 a2 t195 t196 _ A29.out).mono ?_); rintro e w' ⟨rfl, ⟨nd, rfl⟩⟩; refine ⟨_, rfl, ?_⟩))
            go_ret
            exact ⟨by first | rfl | (simp; done) | (simp [*]; done), by repeat (first | exact Drawn0.refl _ | apply Drawn0.step)⟩
  · replace c7 := Bool.eq_false_iff.mpr c7
    subst c7
    have H1 : (some false) = some r := by rw [if_neg (show ¬ (false = true) by decide)] at H; exact H
    clear H
    have H := H1
    clear H1
    obtain rfl := Option.some.inj H
    go_enter Tryd.func3, Tryd.ntmps3
    go_wp2_with (first | ((with_reducible refine gate_callee (f := 5) rfl ?_); refine goesL_ (some 19) rfl rfl Tryd.func5 (by kernel_rfl) rfl #[] rfl (by (try simp only [List.map_toArray, List.map_cons, List.map_nil]); first | done | rfl | (simp only [List.length_drop, List.length_take]; rfl)) ?_; (with_reducible refine (pendulumlaw05_lives.calls  false _ A6.out).mono ?_); rintro e w' ⟨rfl, ⟨nd, rfl⟩⟩; refine ⟨_, rfl, ?_⟩))
    go_ret
    exact ⟨by first | rfl | (simp; done) | (simp [*]; done), by repeat (first | exact Drawn0.refl _ | apply Drawn0.step)⟩

/-- THE ONE PURE STATEMENT of pendulumlaw05_AluCalls: yours. -/
def pendulumlaw05_AluCalls.Pure : Prop := ∀ (a0 : Int) (a1 : Int) (a2 : Int) (a3 : Bool) (a4 : Int), (Lit.int .u8 a0).wf = true → (Lit.int .u8 a1).wf = true → (Lit.int .u8 a2).wf = true → (Lit.int .i64 a4).wf = true → ∃ k, pendulumlaw05_AluCalls.f k a0 a1 a2 a3 a4 = some true
theorem pendulumlaw05_AluCalls.walk (P : pendulumlaw05_AluCalls.Pure) (a0 : Int) (a1 : Int) (a2 : Int) (a3 : Bool) (a4 : Int) (w : World) (hT : Table w) (w0 : (Lit.int .u8 a0).wf = true) (w1 : (Lit.int .u8 a1).wf = true) (w2 : (Lit.int .u8 a2).wf = true) (w4 : (Lit.int .i64 a4).wf = true) :
    Calls Tryd.prog 3 #[.int .u8 a0, .int .u8 a1, .int .u8 a2, .bool a3, .int .i64 a4] w fun e w' => e = .returned (.bool true) ∧ Below w.heap.size w w' := by
  obtain ⟨k, h⟩ := P a0 a1 a2 a3 a4 w0 w1 w2 w4
  refine (pendulumlaw05_AluCalls.calls k a0 a1 a2 a3 a4 true w h hT).mono ?_
  rintro e w' ⟨rfl, hd⟩
  exact ⟨rfl, hd.below⟩

end Go.Proofs.YtpmmneipfmbmlaaDoor.HAluCalls
