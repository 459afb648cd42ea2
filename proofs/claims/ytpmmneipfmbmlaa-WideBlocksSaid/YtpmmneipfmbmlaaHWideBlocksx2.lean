-- Written by a program of this session out of Lean's print of the program (after the form of the kit's print.sh, with own turns); Lean checks it.
import Derived.Test.YtpmmneipfmbmlaaHWideBlocksx0
import Derived.Test.YtpmmneipfmbmlaaHWideBlocksx1
namespace Go.Proofs.Ytpmmneipfmbmlaa.HWideBlocks
open Go.RowKit Go.Proofs.YtpmmneipfmbmlaaW.PrintWords Go.Proofs.YtpmmneipfmbmlaaW.PrintLast Go.Proofs.YtpmmneipfmbmlaaW.PrintMore
attribute [local go_sem] max2_int min2_int max_two min_two max_three min_three max_four min_four   -- for this text's walks alone
set_option linter.unusedVariables false
set_option linter.unusedSimpArgs false

/-! ### pendulumref05_Parity: function 53 -/
def pendulumref05_Parity.l0 : Nat → Int → Int → Int → Option (Bool)
  | 0, _, _, _ => none
  | k + 1, x0, x3, x4 => if x4 < 8 then (if 0 ≤ (IntKind.u64.wrap (x4)) then (pendulumref05_Parity.l0 k x0 (wrap64 (x3 + (Int.tmod (wrap64 (shr .u8 x0 (IntKind.u64.wrap (x4)))) 2))) (wrap64 (x4 + 1))) else (none)) else (some ((Int.tmod x3 2) == 0))
def pendulumref05_Parity.f (k : Nat) (a0 : Int) : Option (Bool) := pendulumref05_Parity.l0 k a0 0 0
theorem pendulumref05_Parity.mono_l : ∀ k, (∀ y0 y1 y2, LeO (pendulumref05_Parity.l0 k y0 y1 y2) (pendulumref05_Parity.l0 (k + 1) y0 y1 y2))
  | 0 => fun _ _ _ r h => by simp [pendulumref05_Parity.l0] at h
  | k + 1 => by
    have ih0 := pendulumref05_Parity.mono_l k
    · intro y0 y1 y2
      unfold pendulumref05_Parity.l0
      repeat' first
      | (with_reducible exact ih0 _ _ _)
      | (with_reducible exact LeO.refl _)
      | (with_reducible exact LeO.none _)
      | (with_reducible refine LeO.ite ?_ ?_)
      | (with_reducible refine LeO.bind ?_ (fun _ => ?_))
      | exact ih0 _ _ _
      | exact LeO.none _
      | refine LeO.ite ?_ ?_
      | refine LeO.bind ?_ (fun _ => ?_)
theorem pendulumref05_Parity.mono : ∀ a0 k, LeO (pendulumref05_Parity.f k a0) (pendulumref05_Parity.f (k + 1) a0) := by
  intro a0 k
  have ih0 := pendulumref05_Parity.mono_l k
  unfold pendulumref05_Parity.f
  repeat' first
      | (with_reducible exact ih0 _ _ _)
      | (with_reducible exact LeO.refl _)
      | (with_reducible exact LeO.none _)
      | (with_reducible refine LeO.ite ?_ ?_)
      | (with_reducible refine LeO.bind ?_ (fun _ => ?_))
      | exact ih0 _ _ _
      | exact LeO.none _
      | refine LeO.ite ?_ ?_
      | refine LeO.bind ?_ (fun _ => ?_)
set_option maxHeartbeats 8000000 in
set_option maxRecDepth 100000 in
theorem pendulumref05_Parity.calls (k : Nat) (a0 : Int) (r : Bool) (w : World) (h : pendulumref05_Parity.f k a0 = some r) :
    Calls Try.prog 53 #[.int .u8 a0] w fun e w' => e = .returned (.bool r) ∧ Drawn0 w w' := by
  have H : (pendulumref05_Parity.l0 k a0 0 0) = some r := h
  clear h
  have H' := Aside0.mk H
  clear H
  go_enter Try.func53, Try.ntmps53
  go_wp2
  go_loopg [3, 4] k (fun kq v3 v4 w' => ∃ (x3_1 : Int) (x4_1 : Int), v3 = .int .i64 x3_1 ∧ v4 = .int .i64 x4_1 ∧ Aside0 (pendulumref05_Parity.l0 kq a0 x3_1 x4_1 = some r) ∧ Aside0 (kq ≤ k) ∧ Drawn0 w w')
  case atStart => exact ⟨(0), (0), (by first | rfl | (simp; done) | (simp [*]; done)), (by first | rfl | (simp; done) | (simp [*]; done)), H', ⟨Nat.le_refl _⟩, by repeat (first | exact Drawn0.refl _ | apply Drawn0.step)⟩
  case round =>
    clear H'
    obtain ⟨x3_1, x4_1, rfl, rfl, HA, HK1, ⟨m1, rfl⟩⟩ := hrel
    cases gk with
    | zero => exact absurd HA.out (by simp [pendulumref05_Parity.l0])
    | succ k1 =>
      have H := HA.out
      clear HA
      simp only [pendulumref05_Parity.l0] at H
      by_cases c2 : x4_1 < 8
      · rw [if_pos c2] at H
        have c2b0 : decide (x4_1 < 8) = true := decide_eq_true c2
        clear c2
        obtain ⟨ji3, hji3⟩ : ∃ j_ : Int, (IntKind.u64.wrap (x4_1)) = j_ := ⟨_, rfl⟩
        replace H : (if 0 ≤ (ji3) then (pendulumref05_Parity.l0 k1 a0 (wrap64 (x3_1 + (Int.tmod (wrap64 (shr .u8 a0 (ji3))) 2))) (wrap64 (x4_1 + 1))) else (none)) = some r := by first | (rw [hji3] at H; exact H) | (simp only [hji3] at H ⊢; exact H)
        by_cases c4 : 0 ≤ (ji3)
        · rw [if_pos c4] at H
          have c4b0 := eq_true c4
          have c4b1 : decide (0 ≤ (ji3)) = true := decide_eq_true c4
          clear c4
          obtain ⟨ji5, hji5⟩ : ∃ j_ : Int, (shr .u8 a0 (ji3)) = j_ := ⟨_, rfl⟩
          replace H : (pendulumref05_Parity.l0 k1 a0 (wrap64 (x3_1 + (Int.tmod (wrap64 (ji5)) 2))) (wrap64 (x4_1 + 1))) = some r := by first | (rw [hji5] at H; exact H) | (simp only [hji5] at H ⊢; exact H)
          have hji5_ : (a0 / 2 ^ min (ji3).toNat 8) = ji5 := hji5
          have hji5z : (ji3) ≤ 8 → (a0 / 2 ^ (ji3).toNat) = ji5 := shr_small hji5
          have H' := Aside0.mk H
          clear H
          go_wp2
          go_roundg k1
          case measure => have := HK1.out; omega
          case rel => exact ⟨(wrap64 (x3_1 + (Int.tmod (wrap64 (ji5)) 2))), (wrap64 (x4_1 + 1)), (by first | rfl | (simp; done) | (simp only [← hji5] <;> (first | rfl | simp)) | (simp [*]; done)), (by first | rfl | (simp; done) | (simp [*]; done)), H', ⟨by have := HK1.out; omega⟩, by repeat (first | exact Drawn0.refl _ | apply Drawn0.step)⟩
        · rw [if_neg c4] at H
          exact absurd H (by simp)
      · rw [if_neg c2] at H
        have c2b0 : decide (x4_1 < 8) = false := decide_eq_false c2
        clear c2
        obtain rfl := Option.some.inj H
        go_wp2
        go_ret
        exact ⟨by first | rfl | (simp; done) | (simp [*]; done), by repeat (first | exact Drawn0.refl _ | apply Drawn0.step)⟩

/-! ### pendulumref07_Port: function 59 -/
def pendulumref07_Port.f (k : Nat) (a0 : Int) (a1 : Int) (a2 : Int) : Option (Int) := (pendulumref05_Own.f a1).bind fun t159 => ((pendulumref05_Flag.f 2 (decide (a0 ≥ 128))).bind fun t160 => ((pendulumref05_Flag.f 17 (decide ((wrap64 ((wrap64 (a0)) + (wrap64 (a2)))) > 255))).bind fun t161 => ((pendulumref05_Parity.f k (Go.bits .xor .u8 ((Int.tmod (wrap64 ((wrap64 (a0)) + (wrap64 (a2)))) 8) % 256) a1)).bind fun t162 => ((pendulumref05_Flag.f 4 t162).bind fun t163 => (some (Go.bits .or .u8 (Go.bits .or .u8 (Go.bits .or .u8 t159 t160) t161) t163))))))
theorem pendulumref07_Port.mono : ∀ a0 a1 a2 k, LeO (pendulumref07_Port.f k a0 a1 a2) (pendulumref07_Port.f (k + 1) a0 a1 a2) := by
  intro a0 a1 a2 k
  unfold pendulumref07_Port.f
  repeat' first
      | (with_reducible exact pendulumref05_Parity.mono _ _)
      | (with_reducible exact LeO.refl _)
      | (with_reducible exact LeO.none _)
      | (with_reducible refine LeO.ite ?_ ?_)
      | (with_reducible refine LeO.bind ?_ (fun _ => ?_))
      | exact pendulumref05_Parity.mono _ _
      | exact LeO.none _
      | refine LeO.ite ?_ ?_
      | refine LeO.bind ?_ (fun _ => ?_)
set_option maxHeartbeats 8000000 in
set_option maxRecDepth 100000 in
theorem pendulumref07_Port.calls (k : Nat) (a0 : Int) (a1 : Int) (a2 : Int) (r : Int) (w : World) (h : pendulumref07_Port.f k a0 a1 a2 = some r) :
    Calls Try.prog 59 #[.int .u8 a0, .int .u8 a1, .int .u8 a2] w fun e w' => e = .returned (.int .u8 r) ∧ Drawn0 w w' := by
  have H : ((pendulumref05_Own.f a1).bind fun t159 => ((pendulumref05_Flag.f 2 (decide (a0 ≥ 128))).bind fun t160 => ((pendulumref05_Flag.f 17 (decide ((wrap64 ((wrap64 (a0)) + (wrap64 (a2)))) > 255))).bind fun t161 => ((pendulumref05_Parity.f k (Go.bits .xor .u8 ((Int.tmod (wrap64 ((wrap64 (a0)) + (wrap64 (a2)))) 8) % 256) a1)).bind fun t162 => ((pendulumref05_Flag.f 4 t162).bind fun t163 => (some (Go.bits .or .u8 (Go.bits .or .u8 (Go.bits .or .u8 t159 t160) t161) t163))))))) = some r := h
  clear h
  replace H := Option.bind_eq_some_iff.mp H
  obtain ⟨t159, A40, H⟩ := H
  replace H : ((pendulumref05_Flag.f 2 (decide (a0 ≥ 128))).bind fun t160 => ((pendulumref05_Flag.f 17 (decide ((wrap64 ((wrap64 (a0)) + (wrap64 (a2)))) > 255))).bind fun t161 => ((pendulumref05_Parity.f k (Go.bits .xor .u8 ((Int.tmod (wrap64 ((wrap64 (a0)) + (wrap64 (a2)))) 8) % 256) a1)).bind fun t162 => ((pendulumref05_Flag.f 4 t162).bind fun t163 => (some (Go.bits .or .u8 (Go.bits .or .u8 (Go.bits .or .u8 t159 t160) t161) t163)))))) = some r := H
  have A4 := Aside0.mk A40
  clear A40
  replace H := Option.bind_eq_some_iff.mp H
  obtain ⟨t160, A50, H⟩ := H
  replace H : ((pendulumref05_Flag.f 17 (decide ((wrap64 ((wrap64 (a0)) + (wrap64 (a2)))) > 255))).bind fun t161 => ((pendulumref05_Parity.f k (Go.bits .xor .u8 ((Int.tmod (wrap64 ((wrap64 (a0)) + (wrap64 (a2)))) 8) % 256) a1)).bind fun t162 => ((pendulumref05_Flag.f 4 t162).bind fun t163 => (some (Go.bits .or .u8 (Go.bits .or .u8 (Go.bits .or .u8 t159 t160) t161) t163))))) = some r := H
  have A5 := Aside0.mk A50
  clear A50
  replace H := Option.bind_eq_some_iff.mp H
  obtain ⟨t161, A60, H⟩ := H
  replace H : ((pendulumref05_Parity.f k (Go.bits .xor .u8 ((Int.tmod (wrap64 ((wrap64 (a0)) + (wrap64 (a2)))) 8) % 256) a1)).bind fun t162 => ((pendulumref05_Flag.f 4 t162).bind fun t163 => (some (Go.bits .or .u8 (Go.bits .or .u8 (Go.bits .or .u8 t159 t160) t161) t163)))) = some r := H
  have A6 := Aside0.mk A60
  clear A60
  replace H := Option.bind_eq_some_iff.mp H
  obtain ⟨t162, A70, H⟩ := H
  replace H : ((pendulumref05_Flag.f 4 t162).bind fun t163 => (some (Go.bits .or .u8 (Go.bits .or .u8 (Go.bits .or .u8 t159 t160) t161) t163))) = some r := H
  have A7 := Aside0.mk A70
  clear A70
  replace H := Option.bind_eq_some_iff.mp H
  obtain ⟨t163, A80, H⟩ := H
  replace H : (some (Go.bits .or .u8 (Go.bits .or .u8 (Go.bits .or .u8 t159 t160) t161) t163)) = some r := H
  have A8 := Aside0.mk A80
  clear A80
  obtain rfl := Option.some.inj H
  go_enter Try.func59, Try.ntmps59
  go_wp2_with (first | ((with_reducible refine gate_callee (f := 84) rfl ?_); refine goesL_ (some 14) rfl rfl Try.func84 (by kernel_rfl) rfl #[.int .u8 a1] rfl (by (try simp only [List.map_toArray, List.map_cons, List.map_nil]); first | done | rfl | (simp only [List.length_drop, List.length_take]; rfl)) ?_; (with_reducible refine (pendulumref05_Own.calls a1 t159 _ A4.out).mono ?_); rintro e w' ⟨rfl, ⟨nd, rfl⟩⟩; refine ⟨_, rfl, ?_⟩) | ((with_reducible refine gate_callee (f := 85) rfl ?_); refine goesL_ (some 17) rfl rfl Try.func85 (by kernel_rfl) rfl #[.int .u8 2, .bool (decide (a0 ≥ 128))] rfl (by (try simp only [List.map_toArray, List.map_cons, List.map_nil]); first | done | rfl | (simp only [List.length_drop, List.length_take]; rfl)) ?_; (with_reducible refine (pendulumref05_Flag.calls 2 (decide (a0 ≥ 128)) t160 _ A5.out).mono ?_); rintro e w' ⟨rfl, ⟨nd, rfl⟩⟩; refine ⟨_, rfl, ?_⟩) | ((with_reducible refine gate_callee (f := 85) rfl ?_); refine goesL_ (some 21) rfl rfl Try.func85 (by kernel_rfl) rfl #[.int .u8 17, .bool (decide ((wrap64 ((wrap64 (a0)) + (wrap64 (a2)))) > 255))] rfl (by (try simp only [List.map_toArray, List.map_cons, List.map_nil]); first | done | rfl | (simp only [List.length_drop, List.length_take]; rfl)) ?_; (with_reducible refine (pendulumref05_Flag.calls 17 (decide ((wrap64 ((wrap64 (a0)) + (wrap64 (a2)))) > 255)) t161 _ A6.out).mono ?_); rintro e w' ⟨rfl, ⟨nd, rfl⟩⟩; refine ⟨_, rfl, ?_⟩) | ((with_reducible refine gate_callee (f := 53) rfl ?_); refine goesL_ (some 28) rfl rfl Try.func53 (by kernel_rfl) rfl #[.int .u8 (Go.bits .xor .u8 ((Int.tmod (wrap64 ((wrap64 (a0)) + (wrap64 (a2)))) 8) % 256) a1)] rfl (by (try simp only [List.map_toArray, List.map_cons, List.map_nil]); first | done | rfl | (simp only [List.length_drop, List.length_take]; rfl)) ?_; (with_reducible refine (pendulumref05_Parity.calls k (Go.bits .xor .u8 ((Int.tmod (wrap64 ((wrap64 (a0)) + (wrap64 (a2)))) 8) % 256) a1) t162 _ A7.out).mono ?_); rintro e w' ⟨rfl, ⟨nd, rfl⟩⟩; refine ⟨_, rfl, ?_⟩) | ((with_reducible refine gate_callee (f := 85) rfl ?_); refine goesL_ (some 29) rfl rfl Try.func85 (by kernel_rfl) rfl #[.int .u8 4, .bool t162] rfl (by (try simp only [List.map_toArray, List.map_cons, List.map_nil]); first | done | rfl | (simp only [List.length_drop, List.length_take]; rfl)) ?_; (with_reducible refine (pendulumref05_Flag.calls 4 t162 t163 _ A8.out).mono ?_); rintro e w' ⟨rfl, ⟨nd, rfl⟩⟩; refine ⟨_, rfl, ?_⟩))
  go_ret
  exact ⟨by first | rfl | (simp; done) | (simp [*]; done), by repeat (first | exact Drawn0.refl _ | apply Drawn0.step)⟩

/-! ### pendulumlaw07_WideBlocks: function 13 -/
def pendulumlaw07_WideBlocks.f (k : Nat) (a0 : Int) (a1 : Int) (a2 : Int) (a3 : Int) (a4 : Int) : Option (Bool) := (pendulumlaw07_lives.f).bind fun t164 => (if t164 = true then ((wide_Move.f a0 a1 a4 a3).bind fun t165 => ((pendulumref07_Move.f a0 a1 a4 a3).bind fun t166 => (if t165 = t166 then ((wide_Find.f a0 a1 a4 a3).bind fun t167 => ((pendulumref07_Find.f a0 a1 a4 a3).bind fun t168 => (if t167 = t168 then ((wide_Port.f a1 a2 a0).bind fun t169 => ((pendulumref07_Port.f k a1 a2 a0).bind fun t170 => (some (t169 == t170)))) else (some false)))) else (some false)))) else (some false))
theorem pendulumlaw07_WideBlocks.mono : ∀ a0 a1 a2 a3 a4 k, LeO (pendulumlaw07_WideBlocks.f k a0 a1 a2 a3 a4) (pendulumlaw07_WideBlocks.f (k + 1) a0 a1 a2 a3 a4) := by
  intro a0 a1 a2 a3 a4 k
  unfold pendulumlaw07_WideBlocks.f
  repeat' first
      | (with_reducible exact pendulumref07_Port.mono _ _ _ _)
      | (with_reducible exact LeO.refl _)
      | (with_reducible exact LeO.none _)
      | (with_reducible refine LeO.ite ?_ ?_)
      | (with_reducible refine LeO.bind ?_ (fun _ => ?_))
      | exact pendulumref07_Port.mono _ _ _ _
      | exact LeO.none _
      | refine LeO.ite ?_ ?_
      | refine LeO.bind ?_ (fun _ => ?_)
set_option maxHeartbeats 8000000 in
set_option maxRecDepth 100000 in
theorem pendulumlaw07_WideBlocks.calls (k : Nat) (a0 : Int) (a1 : Int) (a2 : Int) (a3 : Int) (a4 : Int) (r : Bool) (w : World) (h : pendulumlaw07_WideBlocks.f k a0 a1 a2 a3 a4 = some r) :
    Calls Try.prog 13 #[.int .u8 a0, .int .u8 a1, .int .u8 a2, .int .u8 a3, .int .u16 a4] w fun e w' => e = .returned (.bool r) ∧ Drawn0 w w' := by
  have H : ((pendulumlaw07_lives.f).bind fun t164 => (if t164 = true then ((wide_Move.f a0 a1 a4 a3).bind fun t165 => ((pendulumref07_Move.f a0 a1 a4 a3).bind fun t166 => (if t165 = t166 then ((wide_Find.f a0 a1 a4 a3).bind fun t167 => ((pendulumref07_Find.f a0 a1 a4 a3).bind fun t168 => (if t167 = t168 then ((wide_Port.f a1 a2 a0).bind fun t169 => ((pendulumref07_Port.f k a1 a2 a0).bind fun t170 => (some (t169 == t170)))) else (some false)))) else (some false)))) else (some false))) = some r := h
  clear h
  replace H := Option.bind_eq_some_iff.mp H
  obtain ⟨t164, A60, H⟩ := H
  replace H : (if t164 = true then ((wide_Move.f a0 a1 a4 a3).bind fun t165 => ((pendulumref07_Move.f a0 a1 a4 a3).bind fun t166 => (if t165 = t166 then ((wide_Find.f a0 a1 a4 a3).bind fun t167 => ((pendulumref07_Find.f a0 a1 a4 a3).bind fun t168 => (if t167 = t168 then ((wide_Port.f a1 a2 a0).bind fun t169 => ((pendulumref07_Port.f k a1 a2 a0).bind fun t170 => (some (t169 == t170)))) else (some false)))) else (some false)))) else (some false)) = some r := H
  have A6 := Aside0.mk A60
  clear A60
  by_cases c7 : t164 = true
  · subst c7
    have H1 : ((wide_Move.f a0 a1 a4 a3).bind fun t165 => ((pendulumref07_Move.f a0 a1 a4 a3).bind fun t166 => (if t165 = t166 then ((wide_Find.f a0 a1 a4 a3).bind fun t167 => ((pendulumref07_Find.f a0 a1 a4 a3).bind fun t168 => (if t167 = t168 then ((wide_Port.f a1 a2 a0).bind fun t169 => ((pendulumref07_Port.f k a1 a2 a0).bind fun t170 => (some (t169 == t170)))) else (some false)))) else (some false)))) = some r := by rw [if_pos rfl] at H; exact H
    clear H
    have H := H1
    clear H1
    replace H := Option.bind_eq_some_iff.mp H
    obtain ⟨t165, A80, H⟩ := H
    replace H : ((pendulumref07_Move.f a0 a1 a4 a3).bind fun t166 => (if t165 = t166 then ((wide_Find.f a0 a1 a4 a3).bind fun t167 => ((pendulumref07_Find.f a0 a1 a4 a3).bind fun t168 => (if t167 = t168 then ((wide_Port.f a1 a2 a0).bind fun t169 => ((pendulumref07_Port.f k a1 a2 a0).bind fun t170 => (some (t169 == t170)))) else (some false)))) else (some false))) = some r := H
    have A8 := Aside0.mk A80
    clear A80
    replace H := Option.bind_eq_some_iff.mp H
    obtain ⟨t166, A90, H⟩ := H
    replace H : (if t165 = t166 then ((wide_Find.f a0 a1 a4 a3).bind fun t167 => ((pendulumref07_Find.f a0 a1 a4 a3).bind fun t168 => (if t167 = t168 then ((wide_Port.f a1 a2 a0).bind fun t169 => ((pendulumref07_Port.f k a1 a2 a0).bind fun t170 => (some (t169 == t170)))) else (some false)))) else (some false)) = some r := H
    have A9 := Aside0.mk A90
    clear A90
    by_cases c10 : t165 = t166
    · rw [if_pos c10] at H
      have c10b0 : (t165 == t166) = true := beq_iff_eq.mpr c10
      have c10b1 : (t165 != t166) = false := bne_eq_false_iff_eq.mpr c10
      clear c10
      replace H := Option.bind_eq_some_iff.mp H
      obtain ⟨t167, A110, H⟩ := H
      replace H : ((pendulumref07_Find.f a0 a1 a4 a3).bind fun t168 => (if t167 = t168 then ((wide_Port.f a1 a2 a0).bind fun t169 => ((pendulumref07_Port.f k a1 a2 a0).bind fun t170 => (some (t169 == t170)))) else (some false))) = some r := H
      have A11 := Aside0.mk A110
      clear A110
      replace H := Option.bind_eq_some_iff.mp H
      obtain ⟨t168, A120, H⟩ := H
      replace H : (if t167 = t168 then ((wide_Port.f a1 a2 a0).bind fun t169 => ((pendulumref07_Port.f k a1 a2 a0).bind fun t170 => (some (t169 == t170)))) else (some false)) = some r := H
      have A12 := Aside0.mk A120
      clear A120
      by_cases c13 : t167 = t168
      · rw [if_pos c13] at H
        have c13b0 : (t167 == t168) = true := beq_iff_eq.mpr c13
        have c13b1 : (t167 != t168) = false := bne_eq_false_iff_eq.mpr c13
        clear c13
        replace H := Option.bind_eq_some_iff.mp H
        obtain ⟨t169, A140, H⟩ := H
        replace H : ((pendulumref07_Port.f k a1 a2 a0).bind fun t170 => (some (t169 == t170))) = some r := H
        have A14 := Aside0.mk A140
        clear A140
        replace H := Option.bind_eq_some_iff.mp H
        obtain ⟨t170, A150, H⟩ := H
        replace H : (some (t169 == t170)) = some r := H
        have A15 := Aside0.mk A150
        clear A150
        obtain rfl := Option.some.inj H
        go_enter Try.func13, Try.ntmps13
        go_wp2_with (first | ((with_reducible refine gate_callee (f := 19) rfl ?_); refine goesL_ (some 11) rfl rfl Try.func19 (by kernel_rfl) rfl #[] rfl (by (try simp only [List.map_toArray, List.map_cons, List.map_nil]); first | done | rfl | (simp only [List.length_drop, List.length_take]; rfl)) ?_; (with_reducible refine (pendulumlaw07_lives.calls  true _ A6.out).mono ?_); rintro e w' ⟨rfl, ⟨nd, rfl⟩⟩; refine ⟨_, rfl, ?_⟩) | ((with_reducible refine gate_callee (f := 39) rfl ?_); refine goesL_ (some 17) rfl rfl Try.func39 (by kernel_rfl) rfl #[.int .u8 a0, .int .u8 a1, .int .u16 a4, .int .u8 a3] rfl (by (try simp only [List.map_toArray, List.map_cons, List.map_nil]); first | done | rfl | (simp only [List.length_drop, List.length_take]; rfl)) ?_; (with_reducible refine (wide_Move.calls a0 a1 a4 a3 t165 _ A8.out).mono ?_); rintro e w' ⟨rfl, ⟨nd, rfl⟩⟩; refine ⟨_, rfl, ?_⟩) | ((with_reducible refine gate_callee (f := 55) rfl ?_); refine goesL_ (some 22) rfl rfl Try.func55 (by kernel_rfl) rfl #[.int .u8 a0, .int .u8 a1, .int .u16 a4, .int .u8 a3] rfl (by (try simp only [List.map_toArray, List.map_cons, List.map_nil]); first | done | rfl | (simp only [List.length_drop, List.length_take]; rfl)) ?_; (with_reducible refine (pendulumref07_Move.calls a0 a1 a4 a3 t166 _ A9.out).mono ?_); rintro e w' ⟨rfl, ⟨nd, rfl⟩⟩; refine ⟨_, rfl, ?_⟩) | (go_at_call 56; (with_reducible refine (wide_Find.calls a0 a1 a4 a3 t167 _ A11.out).mono ?_); rintro e w' ⟨rfl, ⟨nd, rfl⟩⟩) | (go_at_call 57; (with_reducible refine (pendulumref07_Find.calls a0 a1 a4 a3 t168 _ A12.out).mono ?_); rintro e w' ⟨rfl, ⟨nd, rfl⟩⟩) | (go_at_call 58; (with_reducible refine (wide_Port.calls a1 a2 a0 t169 _ A14.out).mono ?_); rintro e w' ⟨rfl, ⟨nd, rfl⟩⟩) | (go_at_call 59; (with_reducible refine (pendulumref07_Port.calls k a1 a2 a0 t170 _ A15.out).mono ?_); rintro e w' ⟨rfl, ⟨nd, rfl⟩⟩))
        go_ret
        exact ⟨by first | rfl | (simp; done) | (simp [*]; done), by repeat (first | exact Drawn0.refl _ | apply Drawn0.step)⟩
      · rw [if_neg c13] at H
        have c13b0 : (t167 == t168) = false := beq_eq_false_iff_ne.mpr c13
        have c13b1 : (t167 != t168) = true := bne_iff_ne.mpr c13
        obtain rfl := Option.some.inj H
        go_enter Try.func13, Try.ntmps13
        go_wp2_with (first | ((with_reducible refine gate_callee (f := 19) rfl ?_); refine goesL_ (some 11) rfl rfl Try.func19 (by kernel_rfl) rfl #[] rfl (by (try simp only [List.map_toArray, List.map_cons, List.map_nil]); first | done | rfl | (simp only [List.length_drop, List.length_take]; rfl)) ?_; (with_reducible refine (pendulumlaw07_lives.calls  true _ A6.out).mono ?_); rintro e w' ⟨rfl, ⟨nd, rfl⟩⟩; refine ⟨_, rfl, ?_⟩) | ((with_reducible refine gate_callee (f := 39) rfl ?_); refine goesL_ (some 17) rfl rfl Try.func39 (by kernel_rfl) rfl #[.int .u8 a0, .int .u8 a1, .int .u16 a4, .int .u8 a3] rfl (by (try simp only [List.map_toArray, List.map_cons, List.map_nil]); first | done | rfl | (simp only [List.length_drop, List.length_take]; rfl)) ?_; (with_reducible refine (wide_Move.calls a0 a1 a4 a3 t165 _ A8.out).mono ?_); rintro e w' ⟨rfl, ⟨nd, rfl⟩⟩; refine ⟨_, rfl, ?_⟩) | ((with_reducible refine gate_callee (f := 55) rfl ?_); refine goesL_ (some 22) rfl rfl Try.func55 (by kernel_rfl) rfl #[.int .u8 a0, .int .u8 a1, .int .u16 a4, .int .u8 a3] rfl (by (try simp only [List.map_toArray, List.map_cons, List.map_nil]); first | done | rfl | (simp only [List.length_drop, List.length_take]; rfl)) ?_; (with_reducible refine (pendulumref07_Move.calls a0 a1 a4 a3 t166 _ A9.out).mono ?_); rintro e w' ⟨rfl, ⟨nd, rfl⟩⟩; refine ⟨_, rfl, ?_⟩) | (go_at_call 56; (with_reducible refine (wide_Find.calls a0 a1 a4 a3 t167 _ A11.out).mono ?_); rintro e w' ⟨rfl, ⟨nd, rfl⟩⟩) | (go_at_call 57; (with_reducible refine (pendulumref07_Find.calls a0 a1 a4 a3 t168 _ A12.out).mono ?_); rintro e w' ⟨rfl, ⟨nd, rfl⟩⟩))
        go_ret
        exact ⟨by first | rfl | (simp; done) | (simp [*]; done), by repeat (first | exact Drawn0.refl _ | apply Drawn0.step)⟩
    · rw [if_neg c10] at H
      have c10b0 : (t165 == t166) = false := beq_eq_false_iff_ne.mpr c10
      have c10b1 : (t165 != t166) = true := bne_iff_ne.mpr c10
      obtain rfl := Option.some.inj H
      go_enter Try.func13, Try.ntmps13
      go_wp2_with (first | ((with_reducible refine gate_callee (f := 19) rfl ?_); refine goesL_ (some 11) rfl rfl Try.func19 (by kernel_rfl) rfl #[] rfl (by (try simp only [List.map_toArray, List.map_cons, List.map_nil]); first | done | rfl | (simp only [List.length_drop, List.length_take]; rfl)) ?_; (with_reducible refine (pendulumlaw07_lives.calls  true _ A6.out).mono ?_); rintro e w' ⟨rfl, ⟨nd, rfl⟩⟩; refine ⟨_, rfl, ?_⟩) | ((with_reducible refine gate_callee (f := 39) rfl ?_); refine goesL_ (some 17) rfl rfl Try.func39 (by kernel_rfl) rfl #[.int .u8 a0, .int .u8 a1, .int .u16 a4, .int .u8 a3] rfl (by (try simp only [List.map_toArray, List.map_cons, List.map_nil]); first | done | rfl | (simp only [List.length_drop, List.length_take]; rfl)) ?_; (with_reducible refine (wide_Move.calls a0 a1 a4 a3 t165 _ A8.out).mono ?_); rintro e w' ⟨rfl, ⟨nd, rfl⟩⟩; refine ⟨_, rfl, ?_⟩) | ((with_reducible refine gate_callee (f := 55) rfl ?_); refine goesL_ (some 22) rfl rfl Try.func55 (by kernel_rfl) rfl #[.int .u8 a0, .int .u8 a1, .int .u16 a4, .int .u8 a3] rfl (by (try simp only [List.map_toArray, List.map_cons, List.map_nil]); first | done | rfl | (simp only [List.length_drop, List.length_take]; rfl)) ?_; (with_reducible refine (pendulumref07_Move.calls a0 a1 a4 a3 t166 _ A9.out).mono ?_); rintro e w' ⟨rfl, ⟨nd, rfl⟩⟩; refine ⟨_, rfl, ?_⟩))
      go_ret
      exact ⟨by first | rfl | (simp; done) | (simp [*]; done), by repeat (first | exact Drawn0.refl _ | apply Drawn0.step)⟩
  · replace c7 := Bool.eq_false_iff.mpr c7
    subst c7
    have H1 : (some false) = some r := by rw [if_neg (show ¬ (false = true) by decide)] at H; exact H
    clear H
    have H := H1
    clear H1
    obtain rfl := Option.some.inj H
    go_enter Try.func13, Try.ntmps13
    go_wp2_with (first | ((with_reducible refine gate_callee (f := 19) rfl ?_); refine goesL_ (some 11) rfl rfl Try.func19 (by kernel_rfl) rfl #[] rfl (by (try simp only [List.map_toArray, List.map_cons, List.map_nil]); first | done | rfl | (simp only [List.length_drop, List.length_take]; rfl)) ?_; (with_reducible refine (pendulumlaw07_lives.calls  false _ A6.out).mono ?_); rintro e w' ⟨rfl, ⟨nd, rfl⟩⟩; refine ⟨_, rfl, ?_⟩))
    go_ret
    exact ⟨by first | rfl | (simp; done) | (simp [*]; done), by repeat (first | exact Drawn0.refl _ | apply Drawn0.step)⟩

/-- THE ONE PURE STATEMENT of pendulumlaw07_WideBlocks: yours. -/
def pendulumlaw07_WideBlocks.Pure : Prop := ∀ (a0 : Int) (a1 : Int) (a2 : Int) (a3 : Int) (a4 : Int), (Lit.int .u8 a0).wf = true → (Lit.int .u8 a1).wf = true → (Lit.int .u8 a2).wf = true → (Lit.int .u8 a3).wf = true → (Lit.int .u16 a4).wf = true → ∃ k, pendulumlaw07_WideBlocks.f k a0 a1 a2 a3 a4 = some true
theorem pendulumlaw07_WideBlocks.walk (P : pendulumlaw07_WideBlocks.Pure) (a0 : Int) (a1 : Int) (a2 : Int) (a3 : Int) (a4 : Int) (w : World) (w0 : (Lit.int .u8 a0).wf = true) (w1 : (Lit.int .u8 a1).wf = true) (w2 : (Lit.int .u8 a2).wf = true) (w3 : (Lit.int .u8 a3).wf = true) (w4 : (Lit.int .u16 a4).wf = true) :
    Calls Try.prog 13 #[.int .u8 a0, .int .u8 a1, .int .u8 a2, .int .u8 a3, .int .u16 a4] w fun e w' => e = .returned (.bool true) ∧ Below w.heap.size w w' := by
  obtain ⟨k, h⟩ := P a0 a1 a2 a3 a4 w0 w1 w2 w3 w4
  refine (pendulumlaw07_WideBlocks.calls k a0 a1 a2 a3 a4 true w h).mono ?_
  rintro e w' ⟨rfl, hd⟩
  exact ⟨rfl, hd.below⟩

end Go.Proofs.Ytpmmneipfmbmlaa.HWideBlocks
