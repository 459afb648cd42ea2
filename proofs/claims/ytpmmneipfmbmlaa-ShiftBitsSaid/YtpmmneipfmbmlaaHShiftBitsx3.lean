-- Written by a program of this session out of Lean's print of the program (after the form of the kit's print.sh, with own turns); Lean checks it.
import Derived.Test.YtpmmneipfmbmlaaHShiftBitsx0
import Derived.Test.YtpmmneipfmbmlaaHShiftBitsx2
namespace Go.Proofs.Ytpmmneipfmbmlaa.HShiftBits
open Go.RowKit Go.Proofs.YtpmmneipfmbmlaaW.PrintWords Go.Proofs.YtpmmneipfmbmlaaW.PrintLast Go.Proofs.YtpmmneipfmbmlaaW.PrintMore
attribute [local go_sem] max2_int min2_int max_two min_two max_three min_three max_four min_four   -- for this text's walks alone
set_option linter.unusedVariables false
set_option linter.unusedSimpArgs false

/-! ### pendulumlaw06_ShiftBits: function 18 -/
mutual
def pendulumlaw06_ShiftBits.j0 : Nat → Int → Int → Int → Int → Int → Option (Bool)
  | 0, _, _, _, _, _ => none
  | k + 1, x0, x1, x2, x3, x9 => if 0 ≤ (IntKind.u64.wrap (x9)) then ((shift_Set.f x0 x1).bind fun t132 => ((shift_Res.f x0 x1).bind fun t133 => (if t132 = (Go.bits .or .u8 x1 (shl .u8 1 (IntKind.u64.wrap (x9)))) then (if t133 = (Go.bits .and .u8 x1 ((255 - (shl .u8 1 (IntKind.u64.wrap (x9)))) % 256)) then ((shift_Bit.f x0 x1 x2 x3).bind fun t134 => (if (((Go.bits .and .u8 t134 64) != 0) != ((Go.bits .and .u8 x1 (shl .u8 1 (IntKind.u64.wrap (x9)))) == 0)) = true then (pendulumlaw06_ShiftBits.j1 k x1 x2 x3 true) else ((shift_Bit.f x9 x1 x2 x3).bind fun t135 => ((shift_Bit.f x0 x1 x2 x3).bind fun t136 => (if t135 = t136 then ((shift_Bit.f x0 t132 x2 x3).bind fun t137 => (pendulumlaw06_ShiftBits.j1 k x1 x2 x3 ((Go.bits .and .u8 t137 64) != 0))) else (pendulumlaw06_ShiftBits.j1 k x1 x2 x3 true)))))) else (pendulumlaw06_ShiftBits.j1 k x1 x2 x3 true)) else (pendulumlaw06_ShiftBits.j1 k x1 x2 x3 true)))) else (none)
def pendulumlaw06_ShiftBits.j1 : Nat → Int → Int → Int → Bool → Option (Bool)
  | 0, _, _, _, _ => none
  | k + 1, x1, x2, x3, x89 => if x89 = true then (some false) else ((shift_Cpl.f x1 x3).bind fun bt138 => ((shift_Cpl.f bt138.1 bt138.2).bind fun bt140 => ((shift_Ccf.f x1 x3).bind fun t142 => ((shift_Ccf.f x1 t142).bind fun t143 => ((shift_Rld.f x1 x2 x3).bind fun bt144 => ((shift_Rrd.f bt144.1 bt144.2.1 bt144.2.2).bind fun bt147 => (if bt140.1 = x1 then (if bt138.1 = ((255 - x1) % 256) then (if (Go.bits .and .u8 t143 1) = (Go.bits .and .u8 x3 1) then (if bt147.1 = x1 then (if bt147.2.1 = x2 then ((shift_Scf.f x1 x3).bind fun t150 => (some ((Go.bits .and .u8 t150 1) != 0))) else (some false)) else (some false)) else (some false)) else (some false)) else (some false))))))))
end
def pendulumlaw06_ShiftBits.f (k : Nat) (a0 : Int) (a1 : Int) (a2 : Int) (a3 : Int) : Option (Bool) := (pendulumlaw06_lives.f k).bind fun t131 => (if t131 = true then (if (Int.tmod a0 8) < 0 then (pendulumlaw06_ShiftBits.j0 k a0 a1 a2 a3 (wrap64 ((Int.tmod a0 8) + 8))) else (pendulumlaw06_ShiftBits.j0 k a0 a1 a2 a3 (Int.tmod a0 8))) else (some false))
theorem pendulumlaw06_ShiftBits.mono_l : ∀ k, (∀ y0 y1 y2 y3 y4, LeO (pendulumlaw06_ShiftBits.j0 k y0 y1 y2 y3 y4) (pendulumlaw06_ShiftBits.j0 (k + 1) y0 y1 y2 y3 y4)) ∧ (∀ y0 y1 y2 y3, LeO (pendulumlaw06_ShiftBits.j1 k y0 y1 y2 y3) (pendulumlaw06_ShiftBits.j1 (k + 1) y0 y1 y2 y3))
  | 0 => ⟨fun _ _ _ _ _ r h => by simp [pendulumlaw06_ShiftBits.j0] at h, fun _ _ _ _ r h => by simp [pendulumlaw06_ShiftBits.j1] at h⟩
  | k + 1 => by
    obtain ⟨ih0, ih1⟩ := pendulumlaw06_ShiftBits.mono_l k
    refine ⟨?_, ?_⟩
    · intro y0 y1 y2 y3 y4
      unfold pendulumlaw06_ShiftBits.j0
      repeat' first
      | (with_reducible exact ih0 _ _ _ _ _)
      | (with_reducible exact ih1 _ _ _ _)
      | (with_reducible exact pendulumlaw06_lives.mono _)
      | (with_reducible exact LeO.refl _)
      | (with_reducible exact LeO.none _)
      | (with_reducible refine LeO.ite ?_ ?_)
      | (with_reducible refine LeO.bind ?_ (fun _ => ?_))
      | exact ih0 _ _ _ _ _
      | exact ih1 _ _ _ _
      | exact pendulumlaw06_lives.mono _
      | exact LeO.none _
      | refine LeO.ite ?_ ?_
      | refine LeO.bind ?_ (fun _ => ?_)
    · intro y0 y1 y2 y3
      unfold pendulumlaw06_ShiftBits.j1
      repeat' first
      | (with_reducible exact ih0 _ _ _ _ _)
      | (with_reducible exact ih1 _ _ _ _)
      | (with_reducible exact pendulumlaw06_lives.mono _)
      | (with_reducible exact LeO.refl _)
      | (with_reducible exact LeO.none _)
      | (with_reducible refine LeO.ite ?_ ?_)
      | (with_reducible refine LeO.bind ?_ (fun _ => ?_))
      | exact ih0 _ _ _ _ _
      | exact ih1 _ _ _ _
      | exact pendulumlaw06_lives.mono _
      | exact LeO.none _
      | refine LeO.ite ?_ ?_
      | refine LeO.bind ?_ (fun _ => ?_)
theorem pendulumlaw06_ShiftBits.mono : ∀ a0 a1 a2 a3 k, LeO (pendulumlaw06_ShiftBits.f k a0 a1 a2 a3) (pendulumlaw06_ShiftBits.f (k + 1) a0 a1 a2 a3) := by
  intro a0 a1 a2 a3 k
  obtain ⟨ih0, ih1⟩ := pendulumlaw06_ShiftBits.mono_l k
  unfold pendulumlaw06_ShiftBits.f
  repeat' first
      | (with_reducible exact ih0 _ _ _ _ _)
      | (with_reducible exact ih1 _ _ _ _)
      | (with_reducible exact pendulumlaw06_lives.mono _)
      | (with_reducible exact LeO.refl _)
      | (with_reducible exact LeO.none _)
      | (with_reducible refine LeO.ite ?_ ?_)
      | (with_reducible refine LeO.bind ?_ (fun _ => ?_))
      | exact ih0 _ _ _ _ _
      | exact ih1 _ _ _ _
      | exact pendulumlaw06_lives.mono _
      | exact LeO.none _
      | refine LeO.ite ?_ ?_
      | refine LeO.bind ?_ (fun _ => ?_)
set_option maxHeartbeats 8000000 in
set_option maxRecDepth 100000 in
theorem pendulumlaw06_ShiftBits.calls (k : Nat) (a0 : Int) (a1 : Int) (a2 : Int) (a3 : Int) (r : Bool) (w : World) (h : pendulumlaw06_ShiftBits.f k a0 a1 a2 a3 = some r) :
    Calls Try.prog 18 #[.int .i64 a0, .int .u8 a1, .int .u8 a2, .int .u8 a3] w fun e w' => e = .returned (.bool r) ∧ Drawn0 w w' := by
  have H : ((pendulumlaw06_lives.f k).bind fun t131 => (if t131 = true then (if (Int.tmod a0 8) < 0 then (pendulumlaw06_ShiftBits.j0 k a0 a1 a2 a3 (wrap64 ((Int.tmod a0 8) + 8))) else (pendulumlaw06_ShiftBits.j0 k a0 a1 a2 a3 (Int.tmod a0 8))) else (some false))) = some r := h
  clear h
  replace H := Option.bind_eq_some_iff.mp H
  obtain ⟨t131, A50, H⟩ := H
  replace H : (if t131 = true then (if (Int.tmod a0 8) < 0 then (pendulumlaw06_ShiftBits.j0 k a0 a1 a2 a3 (wrap64 ((Int.tmod a0 8) + 8))) else (pendulumlaw06_ShiftBits.j0 k a0 a1 a2 a3 (Int.tmod a0 8))) else (some false)) = some r := H
  have A5 := Aside0.mk A50
  clear A50
  by_cases c6 : t131 = true
  · subst c6
    have H1 : (if (Int.tmod a0 8) < 0 then (pendulumlaw06_ShiftBits.j0 k a0 a1 a2 a3 (wrap64 ((Int.tmod a0 8) + 8))) else (pendulumlaw06_ShiftBits.j0 k a0 a1 a2 a3 (Int.tmod a0 8))) = some r := by rw [if_pos rfl] at H; exact H
    clear H
    have H := H1
    clear H1
    have HC7 := Aside0.mk H
    clear H
    go_enter Try.func18, Try.ntmps18
    go_upto_if 29 with (first | ((with_reducible refine gate_callee (f := 51) rfl ?_); refine goesL_ (some 24) rfl rfl Try.func51 (by kernel_rfl) rfl #[] rfl (by (try simp only [List.map_toArray, List.map_cons, List.map_nil]); first | done | rfl | (simp only [List.length_drop, List.length_take]; rfl)) ?_; (with_reducible refine (pendulumlaw06_lives.calls k  true _ A5.out).mono ?_); rintro e w' ⟨rfl, ⟨nd, rfl⟩⟩; refine ⟨_, rfl, ?_⟩))
    (try simp only [Act.put, List.setIfInBounds_toArray, List.set_cons_zero, List.set_cons_succ])
    go_cut [9] (fun v9 wc => ∃ (kq : Nat) (x9_6 : Int), v9 = .int .i64 x9_6 ∧ Aside0 (pendulumlaw06_ShiftBits.j0 kq a0 a1 a2 a3 x9_6 = some r) ∧ Aside0 (kq ≤ k) ∧ Drawn0 w wc)
    case first =>
      have H := HC7.out
      clear HC7
      by_cases c8 : (Int.tmod a0 8) < 0
      · rw [if_pos c8] at H
        have c8b0 : decide ((Int.tmod a0 8) < 0) = true := decide_eq_true c8
        clear c8
        (first | rw [c8b0] | (simp only [i64_w, i32_w]; rw [c8b0]) | skip)
        have H' := Aside0.mk H
        clear H
        go_wp2
        go_meet
        case rel => exact ⟨_, (wrap64 ((Int.tmod a0 8) + 8)), (by first | rfl | (simp; done) | (simp [*]; done)), H', ⟨by first | omega | exact Nat.le_refl _⟩, by repeat (first | exact Drawn0.refl _ | apply Drawn0.step)⟩
      · rw [if_neg c8] at H
        have c8b0 : decide ((Int.tmod a0 8) < 0) = false := decide_eq_false c8
        clear c8
        (first | rw [c8b0] | (simp only [i64_w, i32_w]; rw [c8b0]) | skip)
        have H' := Aside0.mk H
        clear H
        go_wp2
        go_meet
        case rel => exact ⟨_, (Int.tmod a0 8), (by first | rfl | (simp; done) | (simp [*]; done)), H', ⟨by first | omega | exact Nat.le_refl _⟩, by repeat (first | exact Drawn0.refl _ | apply Drawn0.step)⟩
    case rest =>
      clear HC7
      try clear c1
      try clear p2
      try clear c5
      try clear c6
      try clear p6
      try clear c8
      try clear c8b0
      obtain ⟨kq, x9_6, rfl, HA, HJ6, ⟨mc6, rfl⟩⟩ := hcut
      cases kq with
      | zero => exact absurd HA.out (by simp [pendulumlaw06_ShiftBits.j0])
      | succ kj6 =>
        have H := HA.out
        clear HA
        simp only [pendulumlaw06_ShiftBits.j0] at H
        obtain ⟨ji9, hji9⟩ : ∃ j_ : Int, (IntKind.u64.wrap (x9_6)) = j_ := ⟨_, rfl⟩
        replace H : (if 0 ≤ (ji9) then ((shift_Set.f a0 a1).bind fun t132 => ((shift_Res.f a0 a1).bind fun t133 => (if t132 = (Go.bits .or .u8 a1 (shl .u8 1 (ji9))) then (if t133 = (Go.bits .and .u8 a1 ((255 - (shl .u8 1 (ji9))) % 256)) then ((shift_Bit.f a0 a1 a2 a3).bind fun t134 => (if (((Go.bits .and .u8 t134 64) != 0) != ((Go.bits .and .u8 a1 (shl .u8 1 (ji9))) == 0)) = true then (pendulumlaw06_ShiftBits.j1 kj6 a1 a2 a3 true) else ((shift_Bit.f x9_6 a1 a2 a3).bind fun t135 => ((shift_Bit.f a0 a1 a2 a3).bind fun t136 => (if t135 = t136 then ((shift_Bit.f a0 t132 a2 a3).bind fun t137 => (pendulumlaw06_ShiftBits.j1 kj6 a1 a2 a3 ((Go.bits .and .u8 t137 64) != 0))) else (pendulumlaw06_ShiftBits.j1 kj6 a1 a2 a3 true)))))) else (pendulumlaw06_ShiftBits.j1 kj6 a1 a2 a3 true)) else (pendulumlaw06_ShiftBits.j1 kj6 a1 a2 a3 true)))) else (none)) = some r := by first | (rw [hji9] at H; exact H) | (simp only [hji9] at H ⊢; exact H)
        by_cases c10 : 0 ≤ (ji9)
        · rw [if_pos c10] at H
          have c10b0 := eq_true c10
          have c10b1 : decide (0 ≤ (ji9)) = true := decide_eq_true c10
          clear c10
          obtain ⟨ji11, hji11⟩ : ∃ j_ : Int, (shl .u8 1 (ji9)) = j_ := ⟨_, rfl⟩
          replace H : ((shift_Set.f a0 a1).bind fun t132 => ((shift_Res.f a0 a1).bind fun t133 => (if t132 = (Go.bits .or .u8 a1 (ji11)) then (if t133 = (Go.bits .and .u8 a1 ((255 - (ji11)) % 256)) then ((shift_Bit.f a0 a1 a2 a3).bind fun t134 => (if (((Go.bits .and .u8 t134 64) != 0) != ((Go.bits .and .u8 a1 (ji11)) == 0)) = true then (pendulumlaw06_ShiftBits.j1 kj6 a1 a2 a3 true) else ((shift_Bit.f x9_6 a1 a2 a3).bind fun t135 => ((shift_Bit.f a0 a1 a2 a3).bind fun t136 => (if t135 = t136 then ((shift_Bit.f a0 t132 a2 a3).bind fun t137 => (pendulumlaw06_ShiftBits.j1 kj6 a1 a2 a3 ((Go.bits .and .u8 t137 64) != 0))) else (pendulumlaw06_ShiftBits.j1 kj6 a1 a2 a3 true)))))) else (pendulumlaw06_ShiftBits.j1 kj6 a1 a2 a3 true)) else (pendulumlaw06_ShiftBits.j1 kj6 a1 a2 a3 true)))) = some r := by first | (rw [hji11] at H; exact H) | (simp only [hji11] at H ⊢; exact H)
          have hji11_ : (IntKind.u8.wrap (1 * 2 ^ min (ji9).toNat 8)) = ji11 := hji11
          have hji11z : (ji9) ≤ 8 → (IntKind.u8.wrap (1 * 2 ^ (ji9).toNat)) = ji11 := shl_small hji11
          have hji11u : (IntKind.u8.wrap (2 ^ min (ji9).toNat 8)) = ji11 := by have h_ := hji11_; rw [Int.one_mul] at h_; exact h_
          have hji11v : (ji9) ≤ 8 → (IntKind.u8.wrap (2 ^ (ji9).toNat)) = ji11 := fun hle_ => by have h_ := hji11z hle_; rw [Int.one_mul] at h_; exact h_
          replace H := Option.bind_eq_some_iff.mp H
          obtain ⟨t132, A120, H⟩ := H
          replace H : ((shift_Res.f a0 a1).bind fun t133 => (if t132 = (Go.bits .or .u8 a1 (ji11)) then (if t133 = (Go.bits .and .u8 a1 ((255 - (ji11)) % 256)) then ((shift_Bit.f a0 a1 a2 a3).bind fun t134 => (if (((Go.bits .and .u8 t134 64) != 0) != ((Go.bits .and .u8 a1 (ji11)) == 0)) = true then (pendulumlaw06_ShiftBits.j1 kj6 a1 a2 a3 true) else ((shift_Bit.f x9_6 a1 a2 a3).bind fun t135 => ((shift_Bit.f a0 a1 a2 a3).bind fun t136 => (if t135 = t136 then ((shift_Bit.f a0 t132 a2 a3).bind fun t137 => (pendulumlaw06_ShiftBits.j1 kj6 a1 a2 a3 ((Go.bits .and .u8 t137 64) != 0))) else (pendulumlaw06_ShiftBits.j1 kj6 a1 a2 a3 true)))))) else (pendulumlaw06_ShiftBits.j1 kj6 a1 a2 a3 true)) else (pendulumlaw06_ShiftBits.j1 kj6 a1 a2 a3 true))) = some r := H
          have A12 := Aside0.mk A120
          clear A120
          replace H := Option.bind_eq_some_iff.mp H
          obtain ⟨t133, A130, H⟩ := H
          replace H : (if t132 = (Go.bits .or .u8 a1 (ji11)) then (if t133 = (Go.bits .and .u8 a1 ((255 - (ji11)) % 256)) then ((shift_Bit.f a0 a1 a2 a3).bind fun t134 => (if (((Go.bits .and .u8 t134 64) != 0) != ((Go.bits .and .u8 a1 (ji11)) == 0)) = true then (pendulumlaw06_ShiftBits.j1 kj6 a1 a2 a3 true) else ((shift_Bit.f x9_6 a1 a2 a3).bind fun t135 => ((shift_Bit.f a0 a1 a2 a3).bind fun t136 => (if t135 = t136 then ((shift_Bit.f a0 t132 a2 a3).bind fun t137 => (pendulumlaw06_ShiftBits.j1 kj6 a1 a2 a3 ((Go.bits .and .u8 t137 64) != 0))) else (pendulumlaw06_ShiftBits.j1 kj6 a1 a2 a3 true)))))) else (pendulumlaw06_ShiftBits.j1 kj6 a1 a2 a3 true)) else (pendulumlaw06_ShiftBits.j1 kj6 a1 a2 a3 true)) = some r := H
          have A13 := Aside0.mk A130
          clear A130
          have HC14 := Aside0.mk H
          clear H
          go_upto_region 8 with (first | ((with_reducible refine gate_callee (f := 61) rfl ?_); refine goesL_ (some 37) rfl rfl Try.func61 (by kernel_rfl) rfl #[.int .i64 a0, .int .u8 a1] rfl (by (try simp only [List.map_toArray, List.map_cons, List.map_nil]); first | done | rfl | (simp only [List.length_drop, List.length_take]; rfl)) ?_; (with_reducible refine (shift_Set.calls a0 a1 t132 _ A12.out).mono ?_); rintro e w' ⟨rfl, ⟨nd, rfl⟩⟩; refine ⟨_, rfl, ?_⟩) | ((with_reducible refine gate_callee (f := 62) rfl ?_); refine goesL_ (some 40) rfl rfl Try.func62 (by kernel_rfl) rfl #[.int .i64 a0, .int .u8 a1] rfl (by (try simp only [List.map_toArray, List.map_cons, List.map_nil]); first | done | rfl | (simp only [List.length_drop, List.length_take]; rfl)) ?_; (with_reducible refine (shift_Res.calls a0 a1 t133 _ A13.out).mono ?_); rintro e w' ⟨rfl, ⟨nd, rfl⟩⟩; refine ⟨_, rfl, ?_⟩))
          (try simp only [Act.put, List.setIfInBounds_toArray, List.set_cons_zero, List.set_cons_succ])
          go_cut [89] (fun v89 wc => ∃ (kq : Nat) (x89_13 : Bool), v89 = .bool x89_13 ∧ Aside0 (pendulumlaw06_ShiftBits.j1 kq a1 a2 a3 x89_13 = some r) ∧ Aside0 (kq ≤ kj6) ∧ Drawn0 w wc)
          case first =>
            have H := HC14.out
            clear HC14
            by_cases c15 : t132 = (Go.bits .or .u8 a1 (ji11))
            · rw [if_pos c15] at H
              have c15b0 : (t132 == (Go.bits .or .u8 a1 (ji11))) = true := beq_iff_eq.mpr c15
              have c15b1 : (t132 != (Go.bits .or .u8 a1 (ji11))) = false := bne_eq_false_iff_eq.mpr c15
              clear c15
              (first | rw [c15b0] | (simp only [i64_w, i32_w]; rw [c15b0]) | skip)
              by_cases c16 : t133 = (Go.bits .and .u8 a1 ((255 - (ji11)) % 256))
              · rw [if_pos c16] at H
                have c16b0 : (t133 == (Go.bits .and .u8 a1 ((255 - (ji11)) % 256))) = true := beq_iff_eq.mpr c16
                have c16b1 : (t133 != (Go.bits .and .u8 a1 ((255 - (ji11)) % 256))) = false := bne_eq_false_iff_eq.mpr c16
                clear c16
                replace H := Option.bind_eq_some_iff.mp H
                obtain ⟨t134, A170, H⟩ := H
                replace H : (if (((Go.bits .and .u8 t134 64) != 0) != ((Go.bits .and .u8 a1 (ji11)) == 0)) = true then (pendulumlaw06_ShiftBits.j1 kj6 a1 a2 a3 true) else ((shift_Bit.f x9_6 a1 a2 a3).bind fun t135 => ((shift_Bit.f a0 a1 a2 a3).bind fun t136 => (if t135 = t136 then ((shift_Bit.f a0 t132 a2 a3).bind fun t137 => (pendulumlaw06_ShiftBits.j1 kj6 a1 a2 a3 ((Go.bits .and .u8 t137 64) != 0))) else (pendulumlaw06_ShiftBits.j1 kj6 a1 a2 a3 true))))) = some r := H
                have A17 := Aside0.mk A170
                clear A170
                by_cases c18 : (((Go.bits .and .u8 t134 64) != 0) != ((Go.bits .and .u8 a1 (ji11)) == 0)) = true
                · rw [if_pos c18] at H
                  have c18b0 : (((Go.bits .and .u8 t134 64) != 0) != ((Go.bits .and .u8 a1 (ji11)) == 0)) = true := c18
                  (try (have c18b1 : decide (((Go.bits .and .u8 t134 64) != 0) = ((Go.bits .and .u8 a1 (ji11)) == 0)) = false := by simpa using c18))
                  (try (have c18b2 : (((Go.bits .and .u8 t134 64) != 0) == ((Go.bits .and .u8 a1 (ji11)) == 0)) = false := by simpa using c18))
                  (try (have c18b3 : ¬ (((Go.bits .and .u8 t134 64) != 0) = ((Go.bits .and .u8 a1 (ji11)) == 0)) := by simpa using c18))
                  clear c18
                  have H' := Aside0.mk H
                  clear H
                  go_wp2_with (first | (go_at_call 60; (with_reducible refine (shift_Bit.calls a0 a1 a2 a3 t134 _ A17.out).mono ?_); rintro e w' ⟨rfl, ⟨nd, rfl⟩⟩))
                  go_meet
                  case rel => exact ⟨_, (true), (by first | rfl | (simp; done) | (simp [*]; done)), H', ⟨by have := HJ6.out; first | omega | exact Nat.le_refl _⟩, by repeat (first | exact Drawn0.refl _ | apply Drawn0.step)⟩
                · rw [if_neg c18] at H
                  have c18b0 : (((Go.bits .and .u8 t134 64) != 0) != ((Go.bits .and .u8 a1 (ji11)) == 0)) = false := by simpa using c18
                  (try (have c18b1 : decide (((Go.bits .and .u8 t134 64) != 0) = ((Go.bits .and .u8 a1 (ji11)) == 0)) = true := by simpa using c18))
                  (try (have c18b2 : (((Go.bits .and .u8 t134 64) != 0) == ((Go.bits .and .u8 a1 (ji11)) == 0)) = true := by simpa using c18))
                  clear c18
                  replace H := Option.bind_eq_some_iff.mp H
                  obtain ⟨t135, A190, H⟩ := H
                  replace H : ((shift_Bit.f a0 a1 a2 a3).bind fun t136 => (if t135 = t136 then ((shift_Bit.f a0 t132 a2 a3).bind fun t137 => (pendulumlaw06_ShiftBits.j1 kj6 a1 a2 a3 ((Go.bits .and .u8 t137 64) != 0))) else (pendulumlaw06_ShiftBits.j1 kj6 a1 a2 a3 true))) = some r := H
                  have A19 := Aside0.mk A190
                  clear A190
                  replace H := Option.bind_eq_some_iff.mp H
                  obtain ⟨t136, A200, H⟩ := H
                  replace H : (if t135 = t136 then ((shift_Bit.f a0 t132 a2 a3).bind fun t137 => (pendulumlaw06_ShiftBits.j1 kj6 a1 a2 a3 ((Go.bits .and .u8 t137 64) != 0))) else (pendulumlaw06_ShiftBits.j1 kj6 a1 a2 a3 true)) = some r := H
                  have A20 := Aside0.mk A200
                  clear A200
                  by_cases c21 : t135 = t136
                  · rw [if_pos c21] at H
                    have c21b0 : (t135 == t136) = true := beq_iff_eq.mpr c21
                    have c21q0 : (t135 == t134) = true := by rw [show t134 = t136 from Option.some.inj (A17.out.symm.trans A20.out)]; exact c21b0
                    have c21b1 : (t135 != t136) = false := bne_eq_false_iff_eq.mpr c21
                    have c21q1 : (t135 != t134) = false := by rw [show t134 = t136 from Option.some.inj (A17.out.symm.trans A20.out)]; exact c21b1
                    clear c21
                    replace H := Option.bind_eq_some_iff.mp H
                    obtain ⟨t137, A220, H⟩ := H
                    replace H : (pendulumlaw06_ShiftBits.j1 kj6 a1 a2 a3 ((Go.bits .and .u8 t137 64) != 0)) = some r := H
                    have A22 := Aside0.mk A220
                    clear A220
                    have H' := Aside0.mk H
                    clear H
                    go_wp2_with (first | (go_at_call 60; (with_reducible refine (shift_Bit.calls a0 a1 a2 a3 t134 _ A17.out).mono ?_); rintro e w' ⟨rfl, ⟨nd, rfl⟩⟩) | (go_at_call 60; (with_reducible refine (shift_Bit.calls x9_6 a1 a2 a3 t135 _ A19.out).mono ?_); rintro e w' ⟨rfl, ⟨nd, rfl⟩⟩) | (go_at_call 60; (with_reducible refine (shift_Bit.calls a0 a1 a2 a3 t136 _ A20.out).mono ?_); rintro e w' ⟨rfl, ⟨nd, rfl⟩⟩) | (go_at_call 60; (with_reducible refine (shift_Bit.calls a0 t132 a2 a3 t137 _ A22.out).mono ?_); rintro e w' ⟨rfl, ⟨nd, rfl⟩⟩))
                    go_meet
                    case rel => exact ⟨_, (((Go.bits .and .u8 t137 64) != 0)), (by first | rfl | (simp; done) | (simp [*]; done)), H', ⟨by have := HJ6.out; first | omega | exact Nat.le_refl _⟩, by repeat (first | exact Drawn0.refl _ | apply Drawn0.step)⟩
                  · rw [if_neg c21] at H
                    have c21b0 : (t135 == t136) = false := beq_eq_false_iff_ne.mpr c21
                    have c21q0 : (t135 == t134) = false := by rw [show t134 = t136 from Option.some.inj (A17.out.symm.trans A20.out)]; exact c21b0
                    have c21b1 : (t135 != t136) = true := bne_iff_ne.mpr c21
                    have c21q1 : (t135 != t134) = true := by rw [show t134 = t136 from Option.some.inj (A17.out.symm.trans A20.out)]; exact c21b1
                    have H' := Aside0.mk H
                    clear H
                    go_wp2_with (first | (go_at_call 60; (with_reducible refine (shift_Bit.calls a0 a1 a2 a3 t134 _ A17.out).mono ?_); rintro e w' ⟨rfl, ⟨nd, rfl⟩⟩) | (go_at_call 60; (with_reducible refine (shift_Bit.calls x9_6 a1 a2 a3 t135 _ A19.out).mono ?_); rintro e w' ⟨rfl, ⟨nd, rfl⟩⟩) | (go_at_call 60; (with_reducible refine (shift_Bit.calls a0 a1 a2 a3 t136 _ A20.out).mono ?_); rintro e w' ⟨rfl, ⟨nd, rfl⟩⟩))
                    go_meet
                    case rel => exact ⟨_, (true), (by first | rfl | (simp; done) | (simp [*]; done)), H', ⟨by have := HJ6.out; first | omega | exact Nat.le_refl _⟩, by repeat (first | exact Drawn0.refl _ | apply Drawn0.step)⟩
              · rw [if_neg c16] at H
                have c16b0 : (t133 == (Go.bits .and .u8 a1 ((255 - (ji11)) % 256))) = false := beq_eq_false_iff_ne.mpr c16
                have c16b1 : (t133 != (Go.bits .and .u8 a1 ((255 - (ji11)) % 256))) = true := bne_iff_ne.mpr c16
                have H' := Aside0.mk H
                clear H
                go_wp2
                go_meet
                case rel => exact ⟨_, (true), (by first | rfl | (simp; done) | (simp [*]; done)), H', ⟨by have := HJ6.out; first | omega | exact Nat.le_refl _⟩, by repeat (first | exact Drawn0.refl _ | apply Drawn0.step)⟩
            · rw [if_neg c15] at H
              have c15b0 : (t132 == (Go.bits .or .u8 a1 (ji11))) = false := beq_eq_false_iff_ne.mpr c15
              have c15b1 : (t132 != (Go.bits .or .u8 a1 (ji11))) = true := bne_iff_ne.mpr c15
              (first | rw [c15b0] | (simp only [i64_w, i32_w]; rw [c15b0]) | skip)
              have H' := Aside0.mk H
              clear H
              go_wp2
              go_meet
              case rel => exact ⟨_, (true), (by first | rfl | (simp; done) | (simp [*]; done)), H', ⟨by have := HJ6.out; first | omega | exact Nat.le_refl _⟩, by repeat (first | exact Drawn0.refl _ | apply Drawn0.step)⟩
          case rest =>
            clear HC14
            try clear c1
            try clear c2
            try clear p2
            try clear c5
            try clear c6
            try clear p6
            try clear c8
            try clear c8b0
            try clear c10
            try clear c10b0
            try clear c10b1
            try clear c15
            try clear c15b0
            try clear c15b1
            try clear c16
            try clear c16b0
            try clear c16b1
            try clear c18
            try clear c18b0
            try clear c18b1
            try clear c18b2
            try clear c21
            try clear c21b0
            try clear c21b1
            try clear p2
            try clear p6
            obtain ⟨kq, x89_13, rfl, HA, HJ13, ⟨mc13, rfl⟩⟩ := hcut
            cases kq with
            | zero => exact absurd HA.out (by simp [pendulumlaw06_ShiftBits.j1])
            | succ kj13 =>
              have H := HA.out
              clear HA
              simp only [pendulumlaw06_ShiftBits.j1] at H
              by_cases c23 : x89_13 = true
              · subst c23
                have H1 : (some false) = some r := by rw [if_pos rfl] at H; exact H
                clear H
                have H := H1
                clear H1
                obtain rfl := Option.some.inj H
                go_wp2
                go_ret
                exact ⟨by first | rfl | (simp; done) | (simp only [← hji9, ← hji11] <;> (first | rfl | simp)) | (simp [*]; done), by repeat (first | exact Drawn0.refl _ | apply Drawn0.step)⟩
              · replace c23 := Bool.eq_false_iff.mpr c23
                subst c23
                have H1 : ((shift_Cpl.f a1 a3).bind fun bt138 => ((shift_Cpl.f bt138.1 bt138.2).bind fun bt140 => ((shift_Ccf.f a1 a3).bind fun t142 => ((shift_Ccf.f a1 t142).bind fun t143 => ((shift_Rld.f a1 a2 a3).bind fun bt144 => ((shift_Rrd.f bt144.1 bt144.2.1 bt144.2.2).bind fun bt147 => (if bt140.1 = a1 then (if bt138.1 = ((255 - a1) % 256) then (if (Go.bits .and .u8 t143 1) = (Go.bits .and .u8 a3 1) then (if bt147.1 = a1 then (if bt147.2.1 = a2 then ((shift_Scf.f a1 a3).bind fun t150 => (some ((Go.bits .and .u8 t150 1) != 0))) else (some false)) else (some false)) else (some false)) else (some false)) else (some false)))))))) = some r := by rw [if_neg (show ¬ (false = true) by decide)] at H; exact H
                clear H
                have H := H1
                clear H1
                replace H := Option.bind_eq_some_iff.mp H
                obtain ⟨⟨t138, t139⟩, A240, H⟩ := H
                replace H : ((shift_Cpl.f t138 t139).bind fun bt140 => ((shift_Ccf.f a1 a3).bind fun t142 => ((shift_Ccf.f a1 t142).bind fun t143 => ((shift_Rld.f a1 a2 a3).bind fun bt144 => ((shift_Rrd.f bt144.1 bt144.2.1 bt144.2.2).bind fun bt147 => (if bt140.1 = a1 then (if t138 = ((255 - a1) % 256) then (if (Go.bits .and .u8 t143 1) = (Go.bits .and .u8 a3 1) then (if bt147.1 = a1 then (if bt147.2.1 = a2 then ((shift_Scf.f a1 a3).bind fun t150 => (some ((Go.bits .and .u8 t150 1) != 0))) else (some false)) else (some false)) else (some false)) else (some false)) else (some false))))))) = some r := H
                have A24 := Aside0.mk A240
                clear A240
                replace H := Option.bind_eq_some_iff.mp H
                obtain ⟨⟨t140, t141⟩, A250, H⟩ := H
                replace H : ((shift_Ccf.f a1 a3).bind fun t142 => ((shift_Ccf.f a1 t142).bind fun t143 => ((shift_Rld.f a1 a2 a3).bind fun bt144 => ((shift_Rrd.f bt144.1 bt144.2.1 bt144.2.2).bind fun bt147 => (if t140 = a1 then (if t138 = ((255 - a1) % 256) then (if (Go.bits .and .u8 t143 1) = (Go.bits .and .u8 a3 1) then (if bt147.1 = a1 then (if bt147.2.1 = a2 then ((shift_Scf.f a1 a3).bind fun t150 => (some ((Go.bits .and .u8 t150 1) != 0))) else (some false)) else (some false)) else (some false)) else (some false)) else (some false)))))) = some r := H
                have A25 := Aside0.mk A250
                clear A250
                replace H := Option.bind_eq_some_iff.mp H
                obtain ⟨t142, A260, H⟩ := H
                replace H : ((shift_Ccf.f a1 t142).bind fun t143 => ((shift_Rld.f a1 a2 a3).bind fun bt144 => ((shift_Rrd.f bt144.1 bt144.2.1 bt144.2.2).bind fun bt147 => (if t140 = a1 then (if t138 = ((255 - a1) % 256) then (if (Go.bits .and .u8 t143 1) = (Go.bits .and .u8 a3 1) then (if bt147.1 = a1 then (if bt147.2.1 = a2 then ((shift_Scf.f a1 a3).bind fun t150 => (some ((Go.bits .and .u8 t150 1) != 0))) else (some false)) else (some false)) else (some false)) else (some false)) else (some false))))) = some r := H
                have A26 := Aside0.mk A260
                clear A260
                replace H := Option.bind_eq_some_iff.mp H
                obtain ⟨t143, A270, H⟩ := H
                replace H : ((shift_Rld.f a1 a2 a3).bind fun bt144 => ((shift_Rrd.f bt144.1 bt144.2.1 bt144.2.2).bind fun bt147 => (if t140 = a1 then (if t138 = ((255 - a1) % 256) then (if (Go.bits .and .u8 t143 1) = (Go.bits .and .u8 a3 1) then (if bt147.1 = a1 then (if bt147.2.1 = a2 then ((shift_Scf.f a1 a3).bind fun t150 => (some ((Go.bits .and .u8 t150 1) != 0))) else (some false)) else (some false)) else (some false)) else (some false)) else (some false)))) = some r := H
                have A27 := Aside0.mk A270
                clear A270
                replace H := Option.bind_eq_some_iff.mp H
                obtain ⟨⟨t144, t145, t146⟩, A280, H⟩ := H
                replace H : ((shift_Rrd.f t144 t145 t146).bind fun bt147 => (if t140 = a1 then (if t138 = ((255 - a1) % 256) then (if (Go.bits .and .u8 t143 1) = (Go.bits .and .u8 a3 1) then (if bt147.1 = a1 then (if bt147.2.1 = a2 then ((shift_Scf.f a1 a3).bind fun t150 => (some ((Go.bits .and .u8 t150 1) != 0))) else (some false)) else (some false)) else (some false)) else (some false)) else (some false))) = some r := H
                have A28 := Aside0.mk A280
                clear A280
                replace H := Option.bind_eq_some_iff.mp H
                obtain ⟨⟨t147, t148, t149⟩, A290, H⟩ := H
                replace H : (if t140 = a1 then (if t138 = ((255 - a1) % 256) then (if (Go.bits .and .u8 t143 1) = (Go.bits .and .u8 a3 1) then (if t147 = a1 then (if t148 = a2 then ((shift_Scf.f a1 a3).bind fun t150 => (some ((Go.bits .and .u8 t150 1) != 0))) else (some false)) else (some false)) else (some false)) else (some false)) else (some false)) = some r := H
                have A29 := Aside0.mk A290
                clear A290
                by_cases c30 : t140 = a1
                · rw [if_pos c30] at H
                  have c30b0 : (t140 == a1) = true := beq_iff_eq.mpr c30
                  have c30b1 : (t140 != a1) = false := bne_eq_false_iff_eq.mpr c30
                  clear c30
                  by_cases c31 : t138 = ((255 - a1) % 256)
                  · rw [if_pos c31] at H
                    have c31b0 : (t138 == ((255 - a1) % 256)) = true := beq_iff_eq.mpr c31
                    have c31b1 : (t138 != ((255 - a1) % 256)) = false := bne_eq_false_iff_eq.mpr c31
                    clear c31
                    by_cases c32 : (Go.bits .and .u8 t143 1) = (Go.bits .and .u8 a3 1)
                    · rw [if_pos c32] at H
                      have c32b0 : ((Go.bits .and .u8 t143 1) == (Go.bits .and .u8 a3 1)) = true := beq_iff_eq.mpr c32
                      have c32b1 : ((Go.bits .and .u8 t143 1) != (Go.bits .and .u8 a3 1)) = false := bne_eq_false_iff_eq.mpr c32
                      clear c32
                      by_cases c33 : t147 = a1
                      · rw [if_pos c33] at H
                        have c33b0 : (t147 == a1) = true := beq_iff_eq.mpr c33
                        have c33b1 : (t147 != a1) = false := bne_eq_false_iff_eq.mpr c33
                        clear c33
                        by_cases c34 : t148 = a2
                        · rw [if_pos c34] at H
                          have c34b0 : (t148 == a2) = true := beq_iff_eq.mpr c34
                          have c34b1 : (t148 != a2) = false := bne_eq_false_iff_eq.mpr c34
                          clear c34
                          replace H := Option.bind_eq_some_iff.mp H
                          obtain ⟨t150, A350, H⟩ := H
                          replace H : (some ((Go.bits .and .u8 t150 1) != 0)) = some r := H
                          have A35 := Aside0.mk A350
                          clear A350
                          obtain rfl := Option.some.inj H
                          go_wp2_with (first | ((with_reducible refine gate_callee (f := 70) rfl ?_); refine goesL_ (some 93) rfl rfl Try.func70 (by kernel_rfl) rfl #[.int .u8 a1, .int .u8 a3] rfl (by (try simp only [List.map_toArray, List.map_cons, List.map_nil]); first | done | rfl | (simp only [List.length_drop, List.length_take]; rfl)) ?_; (with_reducible refine (shift_Cpl.calls a1 a3 t138 t139 _ A24.out).mono ?_); rintro e w' ⟨rfl, ⟨nd, rfl⟩⟩; refine ⟨_, rfl, ?_⟩) | ((with_reducible refine gate_callee (f := 70) rfl ?_); refine goesL_ (some 99) rfl rfl Try.func70 (by kernel_rfl) rfl #[.int .u8 t138, .int .u8 t139] rfl (by (try simp only [List.map_toArray, List.map_cons, List.map_nil]); first | done | rfl | (simp only [List.length_drop, List.length_take]; rfl)) ?_; (with_reducible refine (shift_Cpl.calls t138 t139 t140 t141 _ A25.out).mono ?_); rintro e w' ⟨rfl, ⟨nd, rfl⟩⟩; refine ⟨_, rfl, ?_⟩) | ((with_reducible refine gate_callee (f := 74) rfl ?_); refine goesL_ (some 105) rfl rfl Try.func74 (by kernel_rfl) rfl #[.int .u8 a1, .int .u8 a3] rfl (by (try simp only [List.map_toArray, List.map_cons, List.map_nil]); first | done | rfl | (simp only [List.length_drop, List.length_take]; rfl)) ?_; (with_reducible refine (shift_Ccf.calls a1 a3 t142 _ A26.out).mono ?_); rintro e w' ⟨rfl, ⟨nd, rfl⟩⟩; refine ⟨_, rfl, ?_⟩) | ((with_reducible refine gate_callee (f := 74) rfl ?_); refine goesL_ (some 106) rfl rfl Try.func74 (by kernel_rfl) rfl #[.int .u8 a1, .int .u8 t142] rfl (by (try simp only [List.map_toArray, List.map_cons, List.map_nil]); first | done | rfl | (simp only [List.length_drop, List.length_take]; rfl)) ?_; (with_reducible refine (shift_Ccf.calls a1 t142 t143 _ A27.out).mono ?_); rintro e w' ⟨rfl, ⟨nd, rfl⟩⟩; refine ⟨_, rfl, ?_⟩) | ((with_reducible refine gate_callee (f := 76) rfl ?_); refine goesL_ (some 111) rfl rfl Try.func76 (by kernel_rfl) rfl #[.int .u8 a1, .int .u8 a2, .int .u8 a3] rfl (by (try simp only [List.map_toArray, List.map_cons, List.map_nil]); first | done | rfl | (simp only [List.length_drop, List.length_take]; rfl)) ?_; (with_reducible refine (shift_Rld.calls a1 a2 a3 t144 t145 t146 _ A28.out).mono ?_); rintro e w' ⟨rfl, ⟨nd, rfl⟩⟩; refine ⟨_, rfl, ?_⟩) | ((with_reducible refine gate_callee (f := 78) rfl ?_); refine goesL_ (some 119) rfl rfl Try.func78 (by kernel_rfl) rfl #[.int .u8 t144, .int .u8 t145, .int .u8 t146] rfl (by (try simp only [List.map_toArray, List.map_cons, List.map_nil]); first | done | rfl | (simp only [List.length_drop, List.length_take]; rfl)) ?_; (with_reducible refine (shift_Rrd.calls t144 t145 t146 t147 t148 t149 _ A29.out).mono ?_); rintro e w' ⟨rfl, ⟨nd, rfl⟩⟩; refine ⟨_, rfl, ?_⟩) | (go_at_call 72; (with_reducible refine (shift_Scf.calls a1 a3 t150 _ A35.out).mono ?_); rintro e w' ⟨rfl, ⟨nd, rfl⟩⟩))
                          go_ret
                          exact ⟨by first | rfl | (simp; done) | (simp only [← hji9, ← hji11] <;> (first | rfl | simp)) | (simp [*]; done), by repeat (first | exact Drawn0.refl _ | apply Drawn0.step)⟩
                        · rw [if_neg c34] at H
                          have c34b0 : (t148 == a2) = false := beq_eq_false_iff_ne.mpr c34
                          have c34b1 : (t148 != a2) = true := bne_iff_ne.mpr c34
                          obtain rfl := Option.some.inj H
                          go_wp2_with (first | ((with_reducible refine gate_callee (f := 70) rfl ?_); refine goesL_ (some 93) rfl rfl Try.func70 (by kernel_rfl) rfl #[.int .u8 a1, .int .u8 a3] rfl (by (try simp only [List.map_toArray, List.map_cons, List.map_nil]); first | done | rfl | (simp only [List.length_drop, List.length_take]; rfl)) ?_; (with_reducible refine (shift_Cpl.calls a1 a3 t138 t139 _ A24.out).mono ?_); rintro e w' ⟨rfl, ⟨nd, rfl⟩⟩; refine ⟨_, rfl, ?_⟩) | ((with_reducible refine gate_callee (f := 70) rfl ?_); refine goesL_ (some 99) rfl rfl Try.func70 (by kernel_rfl) rfl #[.int .u8 t138, .int .u8 t139] rfl (by (try simp only [List.map_toArray, List.map_cons, List.map_nil]); first | done | rfl | (simp only [List.length_drop, List.length_take]; rfl)) ?_; (with_reducible refine (shift_Cpl.calls t138 t139 t140 t141 _ A25.out).mono ?_); rintro e w' ⟨rfl, ⟨nd, rfl⟩⟩; refine ⟨_, rfl, ?_⟩) | ((with_reducible refine gate_callee (f := 74) rfl ?_); refine goesL_ (some 105) rfl rfl Try.func74 (by kernel_rfl) rfl #[.int .u8 a1, .int .u8 a3] rfl (by (try simp only [List.map_toArray, List.map_cons, List.map_nil]); first | done | rfl | (simp only [List.length_drop, List.length_take]; rfl)) ?_; (with_reducible refine (shift_Ccf.calls a1 a3 t142 _ A26.out).mono ?_); rintro e w' ⟨rfl, ⟨nd, rfl⟩⟩; refine ⟨_, rfl, ?_⟩) | ((with_reducible refine gate_callee (f := 74) rfl ?_); refine goesL_ (some 106) rfl rfl Try.func74 (by kernel_rfl) rfl #[.int .u8 a1, .int .u8 t142] rfl (by (try simp only [List.map_toArray, List.map_cons, List.map_nil]); first | done | rfl | (simp only [List.length_drop, List.length_take]; rfl)) ?_; (with_reducible refine (shift_Ccf.calls a1 t142 t143 _ A27.out).mono ?_); rintro e w' ⟨rfl, ⟨nd, rfl⟩⟩; refine ⟨_, rfl, ?_⟩) | ((with_reducible refine gate_callee (f := 76) rfl ?_); refine goesL_ (some 111) rfl rfl Try.func76 (by kernel_rfl) rfl #[.int .u8 a1, .int .u8 a2, .int .u8 a3] rfl (by (try simp only [List.map_toArray, List.map_cons, List.map_nil]); first | done | rfl | (simp only [List.length_drop, List.length_take]; rfl)) ?_; (with_reducible refine (shift_Rld.calls a1 a2 a3 t144 t145 t146 _ A28.out).mono ?_); rintro e w' ⟨rfl, ⟨nd, rfl⟩⟩; refine ⟨_, rfl, ?_⟩) | ((with_reducible refine gate_callee (f := 78) rfl ?_); refine goesL_ (some 119) rfl rfl Try.func78 (by kernel_rfl) rfl #[.int .u8 t144, .int .u8 t145, .int .u8 t146] rfl (by (try simp only [List.map_toArray, List.map_cons, List.map_nil]); first | done | rfl | (simp only [List.length_drop, List.length_take]; rfl)) ?_; (with_reducible refine (shift_Rrd.calls t144 t145 t146 t147 t148 t149 _ A29.out).mono ?_); rintro e w' ⟨rfl, ⟨nd, rfl⟩⟩; refine ⟨_, rfl, ?_⟩))
                          go_ret
                          exact ⟨by first | rfl | (simp; done) | (simp only [← hji9, ← hji11] <;> (first | rfl | simp)) | (simp [*]; done), by repeat (first | exact Drawn0.refl _ | apply Drawn0.step)⟩
                      · rw [if_neg c33] at H
                        have c33b0 : (t147 == a1) = false := beq_eq_false_iff_ne.mpr c33
                        have c33b1 : (t147 != a1) = true := bne_iff_ne.mpr c33
                        obtain rfl := Option.some.inj H
                        go_wp2_with (first | ((with_reducible refine gate_callee (f := 70) rfl ?_); refine goesL_ (some 93) rfl rfl Try.func70 (by kernel_rfl) rfl #[.int .u8 a1, .int .u8 a3] rfl (by (try simp only [List.map_toArray, List.map_cons, List.map_nil]); first | done | rfl | (simp only [List.length_drop, List.length_take]; rfl)) ?_; (with_reducible refine (shift_Cpl.calls a1 a3 t138 t139 _ A24.out).mono ?_); rintro e w' ⟨rfl, ⟨nd, rfl⟩⟩; refine ⟨_, rfl, ?_⟩) | ((with_reducible refine gate_callee (f := 70) rfl ?_); refine goesL_ (some 99) rfl rfl Try.func70 (by kernel_rfl) rfl #[.int .u8 t138, .int .u8 t139] rfl (by (try simp only [List.map_toArray, List.map_cons, List.map_nil]); first | done | rfl | (simp only [List.length_drop, List.length_take]; rfl)) ?_; (with_reducible refine (shift_Cpl.calls t138 t139 t140 t141 _ A25.out).mono ?_); rintro e w' ⟨rfl, ⟨nd, rfl⟩⟩; refine ⟨_, rfl, ?_⟩) | ((with_reducible refine gate_callee (f := 74) rfl ?_); refine goesL_ (some 105) rfl rfl Try.func74 (by kernel_rfl) rfl #[.int .u8 a1, .int .u8 a3] rfl (by (try simp only [List.map_toArray, List.map_cons, List.map_nil]); first | done | rfl | (simp only [List.length_drop, List.length_take]; rfl)) ?_; (with_reducible refine (shift_Ccf.calls a1 a3 t142 _ A26.out).mono ?_); rintro e w' ⟨rfl, ⟨nd, rfl⟩⟩; refine ⟨_, rfl, ?_⟩) | ((with_reducible refine gate_callee (f := 74) rfl ?_); refine goesL_ (some 106) rfl rfl Try.func74 (by kernel_rfl) rfl #[.int .u8 a1, .int .u8 t142] rfl (by (try simp only [List.map_toArray, List.map_cons, List.map_nil]); first | done | rfl | (simp only [List.length_drop, List.length_take]; rfl)) ?_; (with_reducible refine (shift_Ccf.calls a1 t142 t143 _ A27.out).mono ?_); rintro e w' ⟨rfl, ⟨nd, rfl⟩⟩; refine ⟨_, rfl, ?_⟩) | ((with_reducible refine gate_callee (f := 76) rfl ?_); refine goesL_ (some 111) rfl rfl Try.func76 (by kernel_rfl) rfl #[.int .u8 a1, .int .u8 a2, .int .u8 a3] rfl (by (try simp only [List.map_toArray, List.map_cons, List.map_nil]); first | done | rfl | (simp only [List.length_drop, List.length_take]; rfl)) ?_; (with_reducible refine (shift_Rld.calls a1 a2 a3 t144 t145 t146 _ A28.out).mono ?_); rintro e w' ⟨rfl, ⟨nd, rfl⟩⟩; refine ⟨_, rfl, ?_⟩) | ((with_reducible refine gate_callee (f := 78) rfl ?_); refine goesL_ (some 119) rfl rfl Try.func78 (by kernel_rfl) rfl #[.int .u8 t144, .int .u8 t145, .int .u8 t146] rfl (by (try simp only [List.map_toArray, List.map_cons, List.map_nil]); first | done | rfl | (simp only [List.length_drop, List.length_take]; rfl)) ?_; (with_reducible refine (shift_Rrd.calls t144 t145 t146 t147 t148 t149 _ A29.out).mono ?_); rintro e w' ⟨rfl, ⟨nd, rfl⟩⟩; refine ⟨_, rfl, ?_⟩))
                        go_ret
                        exact ⟨by first | rfl | (simp; done) | (simp only [← hji9, ← hji11] <;> (first | rfl | simp)) | (simp [*]; done), by repeat (first | exact Drawn0.refl _ | apply Drawn0.step)⟩
                    · rw [if_neg c32] at H
                      have c32b0 : ((Go.bits .and .u8 t143 1) == (Go.bits .and .u8 a3 1)) = false := beq_eq_false_iff_ne.mpr c32
                      have c32b1 : ((Go.bits .and .u8 t143 1) != (Go.bits .and .u8 a3 1)) = true := bne_iff_ne.mpr c32
                      obtain rfl := Option.some.inj H
                      go_wp2_with (first | ((with_reducible refine gate_callee (f := 70) rfl ?_); refine goesL_ (some 93) rfl rfl Try.func70 (by kernel_rfl) rfl #[.int .u8 a1, .int .u8 a3] rfl (by (try simp only [List.map_toArray, List.map_cons, List.map_nil]); first | done | rfl | (simp only [List.length_drop, List.length_take]; rfl)) ?_; (with_reducible refine (shift_Cpl.calls a1 a3 t138 t139 _ A24.out).mono ?_); rintro e w' ⟨rfl, ⟨nd, rfl⟩⟩; refine ⟨_, rfl, ?_⟩) | ((with_reducible refine gate_callee (f := 70) rfl ?_); refine goesL_ (some 99) rfl rfl Try.func70 (by kernel_rfl) rfl #[.int .u8 t138, .int .u8 t139] rfl (by (try simp only [List.map_toArray, List.map_cons, List.map_nil]); first | done | rfl | (simp only [List.length_drop, List.length_take]; rfl)) ?_; (with_reducible refine (shift_Cpl.calls t138 t139 t140 t141 _ A25.out).mono ?_); rintro e w' ⟨rfl, ⟨nd, rfl⟩⟩; refine ⟨_, rfl, ?_⟩) | ((with_reducible refine gate_callee (f := 74) rfl ?_); refine goesL_ (some 105) rfl rfl Try.func74 (by kernel_rfl) rfl #[.int .u8 a1, .int .u8 a3] rfl (by (try simp only [List.map_toArray, List.map_cons, List.map_nil]); first | done | rfl | (simp only [List.length_drop, List.length_take]; rfl)) ?_; (with_reducible refine (shift_Ccf.calls a1 a3 t142 _ A26.out).mono ?_); rintro e w' ⟨rfl, ⟨nd, rfl⟩⟩; refine ⟨_, rfl, ?_⟩) | ((with_reducible refine gate_callee (f := 74) rfl ?_); refine goesL_ (some 106) rfl rfl Try.func74 (by kernel_rfl) rfl #[.int .u8 a1, .int .u8 t142] rfl (by (try simp only [List.map_toArray, List.map_cons, List.map_nil]); first | done | rfl | (simp only [List.length_drop, List.length_take]; rfl)) ?_; (with_reducible refine (shift_Ccf.calls a1 t142 t143 _ A27.out).mono ?_); rintro e w' ⟨rfl, ⟨nd, rfl⟩⟩; refine ⟨_, rfl, ?_⟩) | ((with_reducible refine gate_callee (f := 76) rfl ?_); refine goesL_ (some 111) rfl rfl Try.func76 (by kernel_rfl) rfl #[.int .u8 a1, .int .u8 a2, .int .u8 a3] rfl (by (try simp only [List.map_toArray, List.map_cons, List.map_nil]); first | done | rfl | (simp only [List.length_drop, List.length_take]; rfl)) ?_; (with_reducible refine (shift_Rld.calls a1 a2 a3 t144 t145 t146 _ A28.out).mono ?_); rintro e w' ⟨rfl, ⟨nd, rfl⟩⟩; refine ⟨_, rfl, ?_⟩) | ((with_reducible refine gate_callee (f := 78) rfl ?_); refine goesL_ (some 119) rfl rfl Try.func78 (by kernel_rfl) rfl #[.int .u8 t144, .int .u8 t145, .int .u8 t146] rfl (by (try simp only [List.map_toArray, List.map_cons, List.map_nil]); first | done | rfl | (simp only [List.length_drop, List.length_take]; rfl)) ?_; (with_reducible refine (shift_Rrd.calls t144 t145 t146 t147 t148 t149 _ A29.out).mono ?_); rintro e w' ⟨rfl, ⟨nd, rfl⟩⟩; refine ⟨_, rfl, ?_⟩))
                      go_ret
                      exact ⟨by first | rfl | (simp; done) | (simp only [← hji9, ← hji11] <;> (first | rfl | simp)) | (simp [*]; done), by repeat (first | exact Drawn0.refl _ | apply Drawn0.step)⟩
                  · rw [if_neg c31] at H
                    have c31b0 : (t138 == ((255 - a1) % 256)) = false := beq_eq_false_iff_ne.mpr c31
                    have c31b1 : (t138 != ((255 - a1) % 256)) = true := bne_iff_ne.mpr c31
                    obtain rfl := Option.some.inj H
                    go_wp2_with (first | ((with_reducible refine gate_callee (f := 70) rfl ?_); refine goesL_ (some 93) rfl rfl Try.func70 (by kernel_rfl) rfl #[.int .u8 a1, .int .u8 a3] rfl (by (try simp only [List.map_toArray, List.map_cons, List.map_nil]); first | done | rfl | (simp only [List.length_drop, List.length_take]; rfl)) ?_; (with_reducible refine (shift_Cpl.calls a1 a3 t138 t139 _ A24.out).mono ?_); rintro e w' ⟨rfl, ⟨nd, rfl⟩⟩; refine ⟨_, rfl, ?_⟩) | ((with_reducible refine gate_callee (f := 70) rfl ?_); refine goesL_ (some 99) rfl rfl Try.func70 (by kernel_rfl) rfl #[.int .u8 t138, .int .u8 t139] rfl (by (try simp only [List.map_toArray, List.map_cons, List.map_nil]); first | done | rfl | (simp only [List.length_drop, List.length_take]; rfl)) ?_; (with_reducible refine (shift_Cpl.calls t138 t139 t140 t141 _ A25.out).mono ?_); rintro e w' ⟨rfl, ⟨nd, rfl⟩⟩; refine ⟨_, rfl, ?_⟩) | ((with_reducible refine gate_callee (f := 74) rfl ?_); refine goesL_ (some 105) rfl rfl Try.func74 (by kernel_rfl) rfl #[.int .u8 a1, .int .u8 a3] rfl (by (try simp only [List.map_toArray, List.map_cons, List.map_nil]); first | done | rfl | (simp only [List.length_drop, List.length_take]; rfl)) ?_; (with_reducible refine (shift_Ccf.calls a1 a3 t142 _ A26.out).mono ?_); rintro e w' ⟨rfl, ⟨nd, rfl⟩⟩; refine ⟨_, rfl, ?_⟩) | ((with_reducible refine gate_callee (f := 74) rfl ?_); refine goesL_ (some 106) rfl rfl Try.func74 (by kernel_rfl) rfl #[.int .u8 a1, .int .u8 t142] rfl (by (try simp only [List.map_toArray, List.map_cons, List.map_nil]); first | done | rfl | (simp only [List.length_drop, List.length_take]; rfl)) ?_; (with_reducible refine (shift_Ccf.calls a1 t142 t143 _ A27.out).mono ?_); rintro e w' ⟨rfl, ⟨nd, rfl⟩⟩; refine ⟨_, rfl, ?_⟩) | ((with_reducible refine gate_callee (f := 76) rfl ?_); refine goesL_ (some 111) rfl rfl Try.func76 (by kernel_rfl) rfl #[.int .u8 a1, .int .u8 a2, .int .u8 a3] rfl (by (try simp only [List.map_toArray, List.map_cons, List.map_nil]); first | done | rfl | (simp only [List.length_drop, List.length_take]; rfl)) ?_; (with_reducible refine (shift_Rld.calls a1 a2 a3 t144 t145 t146 _ A28.out).mono ?_); rintro e w' ⟨rfl, ⟨nd, rfl⟩⟩; refine ⟨_, rfl, ?_⟩) | ((with_reducible refine gate_callee (f := 78) rfl ?_); refine goesL_ (some 119) rfl rfl Try.func78 (by kernel_rfl) rfl #[.int .u8 t144, .int .u8 t145, .int .u8 t146] rfl (by (try simp only [List.map_toArray, List.map_cons, List.map_nil]); first | done | rfl | (simp only [List.length_drop, List.length_take]; rfl)) ?_; (with_reducible refine (shift_Rrd.calls t144 t145 t146 t147 t148 t149 _ A29.out).mono ?_); rintro e w' ⟨rfl, ⟨nd, rfl⟩⟩; refine ⟨_, rfl, ?_⟩))
                    go_ret
                    exact ⟨by first | rfl | (simp; done) | (simp only [← hji9, ← hji11] <;> (first | rfl | simp)) | (simp [*]; done), by repeat (first | exact Drawn0.refl _ | apply Drawn0.step)⟩
                · rw [if_neg c30] at H
                  have c30b0 : (t140 == a1) = false := beq_eq_false_iff_ne.mpr c30
                  have c30b1 : (t140 != a1) = true := bne_iff_ne.mpr c30
                  obtain rfl := Option.some.inj H
                  go_wp2_with (first | ((with_reducible refine gate_callee (f := 70) rfl ?_); refine goesL_ (some 93) rfl rfl Try.func70 (by kernel_rfl) rfl #[.int .u8 a1, .int .u8 a3] rfl (by (try simp only [List.map_toArray, List.map_cons, List.map_nil]); first | done | rfl | (simp only [List.length_drop, List.length_take]; rfl)) ?_; (with_reducible refine (shift_Cpl.calls a1 a3 t138 t139 _ A24.out).mono ?_); rintro e w' ⟨rfl, ⟨nd, rfl⟩⟩; refine ⟨_, rfl, ?_⟩) | ((with_reducible refine gate_callee (f := 70) rfl ?_); refine goesL_ (some 99) rfl rfl Try.func70 (by kernel_rfl) rfl #[.int .u8 t138, .int .u8 t139] rfl (by (try simp only [List.map_toArray, List.map_cons, List.map_nil]); first | done | rfl | (simp only [List.length_drop, List.length_take]; rfl)) ?_; (with_reducible refine (shift_Cpl.calls t138 t139 t140 t141 _ A25.out).mono ?_); rintro e w' ⟨rfl, ⟨nd, rfl⟩⟩; refine ⟨_, rfl, ?_⟩) | ((with_reducible refine gate_callee (f := 74) rfl ?_); refine goesL_ (some 105) rfl rfl Try.func74 (by kernel_rfl) rfl #[.int .u8 a1, .int .u8 a3] rfl (by (try simp only [List.map_toArray, List.map_cons, List.map_nil]); first | done | rfl | (simp only [List.length_drop, List.length_take]; rfl)) ?_; (with_reducible refine (shift_Ccf.calls a1 a3 t142 _ A26.out).mono ?_); rintro e w' ⟨rfl, ⟨nd, rfl⟩⟩; refine ⟨_, rfl, ?_⟩) | ((with_reducible refine gate_callee (f := 74) rfl ?_); refine goesL_ (some 106) rfl rfl Try.func74 (by kernel_rfl) rfl #[.int .u8 a1, .int .u8 t142] rfl (by (try simp only [List.map_toArray, List.map_cons, List.map_nil]); first | done | rfl | (simp only [List.length_drop, List.length_take]; rfl)) ?_; (with_reducible refine (shift_Ccf.calls a1 t142 t143 _ A27.out).mono ?_); rintro e w' ⟨rfl, ⟨nd, rfl⟩⟩; refine ⟨_, rfl, ?_⟩) | ((with_reducible refine gate_callee (f := 76) rfl ?_); refine goesL_ (some 111) rfl rfl Try.func76 (by kernel_rfl) rfl #[.int .u8 a1, .int .u8 a2, .int .u8 a3] rfl (by (try simp only [List.map_toArray, List.map_cons, List.map_nil]); first | done | rfl | (simp only [List.length_drop, List.length_take]; rfl)) ?_; (with_reducible refine (shift_Rld.calls a1 a2 a3 t144 t145 t146 _ A28.out).mono ?_); rintro e w' ⟨rfl, ⟨nd, rfl⟩⟩; refine ⟨_, rfl, ?_⟩) | ((with_reducible refine gate_callee (f := 78) rfl ?_); refine goesL_ (some 119) rfl rfl Try.func78 (by kernel_rfl) rfl #[.int .u8 t144, .int .u8 t145, .int .u8 t146] rfl (by (try simp only [List.map_toArray, List.map_cons, List.map_nil]); first | done | rfl | (simp only [List.length_drop, List.length_take]; rfl)) ?_; (with_reducible refine (shift_Rrd.calls t144 t145 t146 t147 t148 t149 _ A29.out).mono ?_); rintro e w' ⟨rfl, ⟨nd, rfl⟩⟩; refine ⟨_, rfl, ?_⟩))
                  go_ret
                  exact ⟨by first | rfl | (simp; done) | (simp only [← hji9, ← hji11] <;> (first | rfl | simp)) | (simp [*]; done), by repeat (first | exact Drawn0.refl _ | apply Drawn0.step)⟩
        · rw [if_neg c10] at H
          exact absurd H (by simp)
  · replace c6 := Bool.eq_false_iff.mpr c6
    subst c6
    have H1 : (some false) = some r := by rw [if_neg (show ¬ (false = true) by decide)] at H; exact H
    clear H
    have H := H1
    clear H1
    obtain rfl := Option.some.inj H
    go_enter Try.func18, Try.ntmps18
    go_wp2_with (first | ((with_reducible refine gate_callee (f := 51) rfl ?_); refine goesL_ (some 24) rfl rfl Try.func51 (by kernel_rfl) rfl #[] rfl (by (try simp only [List.map_toArray, List.map_cons, List.map_nil]); first | done | rfl | (simp only [List.length_drop, List.length_take]; rfl)) ?_; (with_reducible refine (pendulumlaw06_lives.calls k  false _ A5.out).mono ?_); rintro e w' ⟨rfl, ⟨nd, rfl⟩⟩; refine ⟨_, rfl, ?_⟩))
    go_ret
    exact ⟨by first | rfl | (simp; done) | (simp [*]; done), by repeat (first | exact Drawn0.refl _ | apply Drawn0.step)⟩

/-- THE ONE PURE STATEMENT of pendulumlaw06_ShiftBits: yours. -/
def pendulumlaw06_ShiftBits.Pure : Prop := ∀ (a0 : Int) (a1 : Int) (a2 : Int) (a3 : Int), (Lit.int .i64 a0).wf = true → (Lit.int .u8 a1).wf = true → (Lit.int .u8 a2).wf = true → (Lit.int .u8 a3).wf = true → ∃ k, pendulumlaw06_ShiftBits.f k a0 a1 a2 a3 = some true
theorem pendulumlaw06_ShiftBits.walk (P : pendulumlaw06_ShiftBits.Pure) (a0 : Int) (a1 : Int) (a2 : Int) (a3 : Int) (w : World) (w0 : (Lit.int .i64 a0).wf = true) (w1 : (Lit.int .u8 a1).wf = true) (w2 : (Lit.int .u8 a2).wf = true) (w3 : (Lit.int .u8 a3).wf = true) :
    Calls Try.prog 18 #[.int .i64 a0, .int .u8 a1, .int .u8 a2, .int .u8 a3] w fun e w' => e = .returned (.bool true) ∧ Below w.heap.size w w' := by
  obtain ⟨k, h⟩ := P a0 a1 a2 a3 w0 w1 w2 w3
  refine (pendulumlaw06_ShiftBits.calls k a0 a1 a2 a3 true w h).mono ?_
  rintro e w' ⟨rfl, hd⟩
  exact ⟨rfl, hd.below⟩

end Go.Proofs.Ytpmmneipfmbmlaa.HShiftBits
