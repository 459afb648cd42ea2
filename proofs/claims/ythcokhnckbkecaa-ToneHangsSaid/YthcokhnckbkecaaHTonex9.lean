-- Written by a program of this session out of Lean's print of the program (after the form of the kit's print.sh, with own turns); Lean checks it.
import Derived.Test.YthcokhnckbkecaaHTonex0
import Derived.Test.YthcokhnckbkecaaHTonex4
import Derived.Test.YthcokhnckbkecaaHTonex5
import Derived.Test.YthcokhnckbkecaaHTonex7
import Derived.Test.YthcokhnckbkecaaHTonex8
namespace Go.Proofs.Ythcokhnckbkecaa.HTone
open Go.RowKit Go.Proofs.YthcokhnckbkecaaW.PrintWords Go.Proofs.YthcokhnckbkecaaW.PrintLast Go.Proofs.YthcokhnckbkecaaW.PrintMore
attribute [local go_sem] max2_int min2_int max_two min_two max_three min_three max_four min_four   -- for this text's walks alone
set_option linter.unusedVariables false
set_option linter.unusedSimpArgs false

/-! ### pendulumlaw31_ToneHangs: function 3 -/
mutual
def pendulumlaw31_ToneHangs.j0 : Nat → List (S28) → Int → Int → Int → Bool → Option (Bool)
  | 0, _, _, _, _, _ => none
  | k + 1, x0, x1, x2, x3, x43 => if x43 = true then (some true) else (pendulumlaw31_ToneHangs.l0 k x0 x1 x2 x3 ([] : List (S28)) 0)
def pendulumlaw31_ToneHangs.l0 : Nat → List (S28) → Int → Int → Int → List (S28) → Int → Option (Bool)
  | 0, _, _, _, _, _, _ => none
  | k + 1, x0, x1, x2, x3, x9, x10 => if x10 < (x0.length : Int) then (if 0 ≤ x10 then (if ((rd_T28 x0 x10).f3) = 11 then (if x9.length < 2932031007402 then (pendulumlaw31_ToneHangs.l0 k x0 x1 x2 x3 (x9 ++ [(⟨(rd_T28 x0 x10).f0, (rd_T28 x0 x10).f1, (rd_T28 x0 x10).f2, (rd_T28 x0 x10).f3, (rd_T28 x0 x10).f4, (rd_T28 x0 x10).f5⟩ : S28)]) (wrap64 (x10 + 1))) else (none)) else (if ((rd_T28 x0 x10).f3) = 10 then (if x9.length < 2932031007402 then (pendulumlaw31_ToneHangs.l0 k x0 x1 x2 x3 (x9 ++ [(⟨(rd_T28 x0 x10).f0, (rd_T28 x0 x10).f1, (rd_T28 x0 x10).f2, (rd_T28 x0 x10).f3, (rd_T28 x0 x10).f4, (rd_T28 x0 x10).f5⟩ : S28)]) (wrap64 (x10 + 1))) else (none)) else (pendulumlaw31_ToneHangs.l0 k x0 x1 x2 x3 x9 (wrap64 (x10 + 1))))) else (none)) else ((tone_Samples.f x0 x1 x2).bind fun bt216 => ((tone_Samples.f x9 x1 x2).bind fun bt220 => ((tone_Samples.f x0 (wrap64 (2 * x1)) x2).bind fun bt224 => (if bt216.2 = 0 then (if bt220.2 = 0 then (if bt224.2 = 0 then ((tone_Same.f k bt216.1 bt220.1).bind fun t228 => (if t228 = true then (pendulumlaw31_ToneHangs.j2 k x0 x1 x2 x3 bt216.1 bt224.1 ((bt224.1.length : Int) != (wrap64 (Int.tdiv (wrap64 ((bt216.1.length : Int) + 1)) 2)))) else (pendulumlaw31_ToneHangs.j2 k x0 x1 x2 x3 bt216.1 bt224.1 true))) else (pendulumlaw31_ToneHangs.j2 k x0 x1 x2 x3 bt216.1 bt224.1 true)) else (pendulumlaw31_ToneHangs.j2 k x0 x1 x2 x3 bt216.1 bt224.1 true)) else (pendulumlaw31_ToneHangs.j2 k x0 x1 x2 x3 bt216.1 bt224.1 true)))))
def pendulumlaw31_ToneHangs.j2 : Nat → List (S28) → Int → Int → Int → List Int → List Int → Bool → Option (Bool)
  | 0, _, _, _, _, _, _, _ => none
  | k + 1, x0, x1, x2, x3, x11, x15, x117 => if x117 = true then (some false) else ((pendulumkit_Near.f x3 3000).bind fun t229 => ((pendulumref04_Cut.f k x0 t229).bind fun bt230 => ((pendulumkit_Near.f x3 3000).bind fun t236 => ((tone_Samples.f bt230.1 x1 (mn x2 t236)).bind fun bt237 => (if bt237.2 = 0 then (if (bt237.1.length : Int) > (x11.length : Int) then (pendulumlaw31_ToneHangs.j3 k x0 x1 x11 x15 true) else (if 0 ≤ (bt237.1.length : Int) then (if (bt237.1.length : Int) ≤ (x11.length : Int) then ((tone_Same.f k bt237.1 (x11.take ((bt237.1.length : Int) : Int).toNat)).bind fun t245 => (pendulumlaw31_ToneHangs.j3 k x0 x1 x11 x15 (!t245))) else (none)) else (none))) else (pendulumlaw31_ToneHangs.j3 k x0 x1 x11 x15 true))))))
def pendulumlaw31_ToneHangs.j3 : Nat → List (S28) → Int → List Int → List Int → Bool → Option (Bool)
  | 0, _, _, _, _, _ => none
  | k + 1, x0, x1, x11, x15, x152 => if x152 = true then (some false) else (pendulumlaw31_ToneHangs.l1 k x0 x1 x11 x15 0)
def pendulumlaw31_ToneHangs.l1 : Nat → List (S28) → Int → List Int → List Int → Int → Option (Bool)
  | 0, _, _, _, _, _ => none
  | k + 1, x0, x1, x11, x15, x20 => if x20 < (x11.length : Int) then ((tone_Heard.f x0 (wrap64 (x20 * x1))).bind fun bt246 => (if bt246.2 = 0 then (if 0 ≤ x20 then (if bt246.1 = (rd x11 x20) then (if bt246.1 < 0 then (some false) else (if (Int.tmod x20 2) = 0 then (if 0 ≤ (wrap64 (Int.tdiv x20 2)) then (if (wrap64 (Int.tdiv x20 2)) < (x15.length : Int) then (if (rd x15 (wrap64 (Int.tdiv x20 2))) = bt246.1 then (pendulumlaw31_ToneHangs.l1 k x0 x1 x11 x15 (wrap64 (x20 + 1))) else (some false)) else (none)) else (none)) else (pendulumlaw31_ToneHangs.l1 k x0 x1 x11 x15 (wrap64 (x20 + 1))))) else (some false)) else (none)) else (some false))) else (some true)
end
def pendulumlaw31_ToneHangs.f (k : Nat) (l0 : List (S28)) (a1 : Int) (a2 : Int) (a3 : Int) : Option (Bool) := (pendulumlaw31_lives.f k).bind fun t202 => (if t202 = true then ((pendulumkit_Near.f a1 500).bind fun t203 => ((pendulumkit_Near.f a2 3000).bind fun t204 => (if (l0.length : Int) > 300 then (pendulumlaw31_ToneHangs.j0 k l0 (wrap64 (1 + t203)) t204 a3 true) else ((pendulumref04_Check.f k l0).bind fun t205 => (if t205 = 0 then (if (wrap64 (1 + t203)) = 0 then (none) else (pendulumlaw31_ToneHangs.j0 k l0 (wrap64 (1 + t203)) t204 a3 (decide ((wrap64 (Int.tdiv t204 (wrap64 (1 + t203)))) > 300)))) else (pendulumlaw31_ToneHangs.j0 k l0 (wrap64 (1 + t203)) t204 a3 true)))))) else (some false))
theorem pendulumlaw31_ToneHangs.mono_l : ∀ k, (∀ y0 y1 y2 y3 y4, LeO (pendulumlaw31_ToneHangs.j0 k y0 y1 y2 y3 y4) (pendulumlaw31_ToneHangs.j0 (k + 1) y0 y1 y2 y3 y4)) ∧ (∀ y0 y1 y2 y3 y4 y5, LeO (pendulumlaw31_ToneHangs.l0 k y0 y1 y2 y3 y4 y5) (pendulumlaw31_ToneHangs.l0 (k + 1) y0 y1 y2 y3 y4 y5)) ∧ (∀ y0 y1 y2 y3 y4 y5 y6, LeO (pendulumlaw31_ToneHangs.j2 k y0 y1 y2 y3 y4 y5 y6) (pendulumlaw31_ToneHangs.j2 (k + 1) y0 y1 y2 y3 y4 y5 y6)) ∧ (∀ y0 y1 y2 y3 y4, LeO (pendulumlaw31_ToneHangs.j3 k y0 y1 y2 y3 y4) (pendulumlaw31_ToneHangs.j3 (k + 1) y0 y1 y2 y3 y4)) ∧ (∀ y0 y1 y2 y3 y4, LeO (pendulumlaw31_ToneHangs.l1 k y0 y1 y2 y3 y4) (pendulumlaw31_ToneHangs.l1 (k + 1) y0 y1 y2 y3 y4))
  | 0 => ⟨fun _ _ _ _ _ r h => by simp [pendulumlaw31_ToneHangs.j0] at h, fun _ _ _ _ _ _ r h => by simp [pendulumlaw31_ToneHangs.l0] at h, fun _ _ _ _ _ _ _ r h => by simp [pendulumlaw31_ToneHangs.j2] at h, fun _ _ _ _ _ r h => by simp [pendulumlaw31_ToneHangs.j3] at h, fun _ _ _ _ _ r h => by simp [pendulumlaw31_ToneHangs.l1] at h⟩
  | k + 1 => by
    obtain ⟨ih0, ih1, ih2, ih3, ih4⟩ := pendulumlaw31_ToneHangs.mono_l k
    refine ⟨?_, ?_, ?_, ?_, ?_⟩
    · intro y0 y1 y2 y3 y4
      unfold pendulumlaw31_ToneHangs.j0
      repeat' first
      | (with_reducible exact ih0 _ _ _ _ _)
      | (with_reducible exact ih1 _ _ _ _ _ _)
      | (with_reducible exact ih2 _ _ _ _ _ _ _)
      | (with_reducible exact ih3 _ _ _ _ _)
      | (with_reducible exact ih4 _ _ _ _ _)
      | (with_reducible exact pendulumlaw31_lives.mono _)
      | (with_reducible exact pendulumref04_Check.mono _ _)
      | (with_reducible exact pendulumref04_Cut.mono _ _ _)
      | (with_reducible exact tone_Same.mono _ _ _)
      | (with_reducible exact LeO.refl _)
      | (with_reducible exact LeO.none _)
      | (with_reducible refine LeO.ite ?_ ?_)
      | (with_reducible refine LeO.bind ?_ (fun _ => ?_))
      | exact ih0 _ _ _ _ _
      | exact ih1 _ _ _ _ _ _
      | exact ih2 _ _ _ _ _ _ _
      | exact ih3 _ _ _ _ _
      | exact ih4 _ _ _ _ _
      | exact pendulumlaw31_lives.mono _
      | exact pendulumref04_Check.mono _ _
      | exact pendulumref04_Cut.mono _ _ _
      | exact tone_Same.mono _ _ _
      | exact LeO.none _
      | refine LeO.ite ?_ ?_
      | refine LeO.bind ?_ (fun _ => ?_)
    · intro y0 y1 y2 y3 y4 y5
      unfold pendulumlaw31_ToneHangs.l0
      repeat' first
      | (with_reducible exact ih0 _ _ _ _ _)
      | (with_reducible exact ih1 _ _ _ _ _ _)
      | (with_reducible exact ih2 _ _ _ _ _ _ _)
      | (with_reducible exact ih3 _ _ _ _ _)
      | (with_reducible exact ih4 _ _ _ _ _)
      | (with_reducible exact pendulumlaw31_lives.mono _)
      | (with_reducible exact pendulumref04_Check.mono _ _)
      | (with_reducible exact pendulumref04_Cut.mono _ _ _)
      | (with_reducible exact tone_Same.mono _ _ _)
      | (with_reducible exact LeO.refl _)
      | (with_reducible exact LeO.none _)
      | (with_reducible refine LeO.ite ?_ ?_)
      | (with_reducible refine LeO.bind ?_ (fun _ => ?_))
      | exact ih0 _ _ _ _ _
      | exact ih1 _ _ _ _ _ _
      | exact ih2 _ _ _ _ _ _ _
      | exact ih3 _ _ _ _ _
      | exact ih4 _ _ _ _ _
      | exact pendulumlaw31_lives.mono _
      | exact pendulumref04_Check.mono _ _
      | exact pendulumref04_Cut.mono _ _ _
      | exact tone_Same.mono _ _ _
      | exact LeO.none _
      | refine LeO.ite ?_ ?_
      | refine LeO.bind ?_ (fun _ => ?_)
    · intro y0 y1 y2 y3 y4 y5 y6
      unfold pendulumlaw31_ToneHangs.j2
      repeat' first
      | (with_reducible exact ih0 _ _ _ _ _)
      | (with_reducible exact ih1 _ _ _ _ _ _)
      | (with_reducible exact ih2 _ _ _ _ _ _ _)
      | (with_reducible exact ih3 _ _ _ _ _)
      | (with_reducible exact ih4 _ _ _ _ _)
      | (with_reducible exact pendulumlaw31_lives.mono _)
      | (with_reducible exact pendulumref04_Check.mono _ _)
      | (with_reducible exact pendulumref04_Cut.mono _ _ _)
      | (with_reducible exact tone_Same.mono _ _ _)
      | (with_reducible exact LeO.refl _)
      | (with_reducible exact LeO.none _)
      | (with_reducible refine LeO.ite ?_ ?_)
      | (with_reducible refine LeO.bind ?_ (fun _ => ?_))
      | exact ih0 _ _ _ _ _
      | exact ih1 _ _ _ _ _ _
      | exact ih2 _ _ _ _ _ _ _
      | exact ih3 _ _ _ _ _
      | exact ih4 _ _ _ _ _
      | exact pendulumlaw31_lives.mono _
      | exact pendulumref04_Check.mono _ _
      | exact pendulumref04_Cut.mono _ _ _
      | exact tone_Same.mono _ _ _
      | exact LeO.none _
      | refine LeO.ite ?_ ?_
      | refine LeO.bind ?_ (fun _ => ?_)
    · intro y0 y1 y2 y3 y4
      unfold pendulumlaw31_ToneHangs.j3
      repeat' first
      | (with_reducible exact ih0 _ _ _ _ _)
      | (with_reducible exact ih1 _ _ _ _ _ _)
      | (with_reducible exact ih2 _ _ _ _ _ _ _)
      | (with_reducible exact ih3 _ _ _ _ _)
      | (with_reducible exact ih4 _ _ _ _ _)
      | (with_reducible exact pendulumlaw31_lives.mono _)
      | (with_reducible exact pendulumref04_Check.mono _ _)
      | (with_reducible exact pendulumref04_Cut.mono _ _ _)
      | (with_reducible exact tone_Same.mono _ _ _)
      | (with_reducible exact LeO.refl _)
      | (with_reducible exact LeO.none _)
      | (with_reducible refine LeO.ite ?_ ?_)
      | (with_reducible refine LeO.bind ?_ (fun _ => ?_))
      | exact ih0 _ _ _ _ _
      | exact ih1 _ _ _ _ _ _
      | exact ih2 _ _ _ _ _ _ _
      | exact ih3 _ _ _ _ _
      | exact ih4 _ _ _ _ _
      | exact pendulumlaw31_lives.mono _
      | exact pendulumref04_Check.mono _ _
      | exact pendulumref04_Cut.mono _ _ _
      | exact tone_Same.mono _ _ _
      | exact LeO.none _
      | refine LeO.ite ?_ ?_
      | refine LeO.bind ?_ (fun _ => ?_)
    · intro y0 y1 y2 y3 y4
      unfold pendulumlaw31_ToneHangs.l1
      repeat' first
      | (with_reducible exact ih0 _ _ _ _ _)
      | (with_reducible exact ih1 _ _ _ _ _ _)
      | (with_reducible exact ih2 _ _ _ _ _ _ _)
      | (with_reducible exact ih3 _ _ _ _ _)
      | (with_reducible exact ih4 _ _ _ _ _)
      | (with_reducible exact pendulumlaw31_lives.mono _)
      | (with_reducible exact pendulumref04_Check.mono _ _)
      | (with_reducible exact pendulumref04_Cut.mono _ _ _)
      | (with_reducible exact tone_Same.mono _ _ _)
      | (with_reducible exact LeO.refl _)
      | (with_reducible exact LeO.none _)
      | (with_reducible refine LeO.ite ?_ ?_)
      | (with_reducible refine LeO.bind ?_ (fun _ => ?_))
      | exact ih0 _ _ _ _ _
      | exact ih1 _ _ _ _ _ _
      | exact ih2 _ _ _ _ _ _ _
      | exact ih3 _ _ _ _ _
      | exact ih4 _ _ _ _ _
      | exact pendulumlaw31_lives.mono _
      | exact pendulumref04_Check.mono _ _
      | exact pendulumref04_Cut.mono _ _ _
      | exact tone_Same.mono _ _ _
      | exact LeO.none _
      | refine LeO.ite ?_ ?_
      | refine LeO.bind ?_ (fun _ => ?_)
theorem pendulumlaw31_ToneHangs.mono : ∀ a0 a1 a2 a3 k, LeO (pendulumlaw31_ToneHangs.f k a0 a1 a2 a3) (pendulumlaw31_ToneHangs.f (k + 1) a0 a1 a2 a3) := by
  intro a0 a1 a2 a3 k
  obtain ⟨ih0, ih1, ih2, ih3, ih4⟩ := pendulumlaw31_ToneHangs.mono_l k
  unfold pendulumlaw31_ToneHangs.f
  repeat' first
      | (with_reducible exact ih0 _ _ _ _ _)
      | (with_reducible exact ih1 _ _ _ _ _ _)
      | (with_reducible exact ih2 _ _ _ _ _ _ _)
      | (with_reducible exact ih3 _ _ _ _ _)
      | (with_reducible exact ih4 _ _ _ _ _)
      | (with_reducible exact pendulumlaw31_lives.mono _)
      | (with_reducible exact pendulumref04_Check.mono _ _)
      | (with_reducible exact pendulumref04_Cut.mono _ _ _)
      | (with_reducible exact tone_Same.mono _ _ _)
      | (with_reducible exact LeO.refl _)
      | (with_reducible exact LeO.none _)
      | (with_reducible refine LeO.ite ?_ ?_)
      | (with_reducible refine LeO.bind ?_ (fun _ => ?_))
      | exact ih0 _ _ _ _ _
      | exact ih1 _ _ _ _ _ _
      | exact ih2 _ _ _ _ _ _ _
      | exact ih3 _ _ _ _ _
      | exact ih4 _ _ _ _ _
      | exact pendulumlaw31_lives.mono _
      | exact pendulumref04_Check.mono _ _
      | exact pendulumref04_Cut.mono _ _ _
      | exact tone_Same.mono _ _ _
      | exact LeO.none _
      | refine LeO.ite ?_ ?_
      | refine LeO.bind ?_ (fun _ => ?_)
set_option maxHeartbeats 8000000 in
set_option maxRecDepth 100000 in
theorem pendulumlaw31_ToneHangs.calls (k : Nat) (A0 : Option Addr) (c0 : Nat) (l0 : List (S28)) (a1 : Int) (a2 : Int) (a3 : Int) (r : Bool) (w : World) (hr0 : Kd.C k28 w A0 l0.length l0) (hc0 : l0.length ≤ c0) (h : pendulumlaw31_ToneHangs.f k l0 a1 a2 a3 = some r) :
    Calls Try.prog 3 #[.slice A0 l0.length c0, .int .i64 a1, .int .i64 a2, .int .i64 a3] w fun e w' => e = .returned (.bool r) ∧ Below w.heap.size w w' := by
  have hu28 := Try.underlying28
  have HR0 := Aside0.mk hr0
  have HC0 := Aside0.mk hc0
  clear hr0 hc0
  have HB := Aside0.mk (Below.refl w.heap.size w)
  have H : ((pendulumlaw31_lives.f k).bind fun t202 => (if t202 = true then ((pendulumkit_Near.f a1 500).bind fun t203 => ((pendulumkit_Near.f a2 3000).bind fun t204 => (if (l0.length : Int) > 300 then (pendulumlaw31_ToneHangs.j0 k l0 (wrap64 (1 + t203)) t204 a3 true) else ((pendulumref04_Check.f k l0).bind fun t205 => (if t205 = 0 then (if (wrap64 (1 + t203)) = 0 then (none) else (pendulumlaw31_ToneHangs.j0 k l0 (wrap64 (1 + t203)) t204 a3 (decide ((wrap64 (Int.tdiv t204 (wrap64 (1 + t203)))) > 300)))) else (pendulumlaw31_ToneHangs.j0 k l0 (wrap64 (1 + t203)) t204 a3 true)))))) else (some false))) = some r := h
  clear h
  replace H := Option.bind_eq_some_iff.mp H
  obtain ⟨t202, A50, H⟩ := H
  replace H : (if t202 = true then ((pendulumkit_Near.f a1 500).bind fun t203 => ((pendulumkit_Near.f a2 3000).bind fun t204 => (if (l0.length : Int) > 300 then (pendulumlaw31_ToneHangs.j0 k l0 (wrap64 (1 + t203)) t204 a3 true) else ((pendulumref04_Check.f k l0).bind fun t205 => (if t205 = 0 then (if (wrap64 (1 + t203)) = 0 then (none) else (pendulumlaw31_ToneHangs.j0 k l0 (wrap64 (1 + t203)) t204 a3 (decide ((wrap64 (Int.tdiv t204 (wrap64 (1 + t203)))) > 300)))) else (pendulumlaw31_ToneHangs.j0 k l0 (wrap64 (1 + t203)) t204 a3 true)))))) else (some false)) = some r := H
  have A5 := Aside0.mk A50
  clear A50
  by_cases c6 : t202 = true
  · subst c6
    have H1 : ((pendulumkit_Near.f a1 500).bind fun t203 => ((pendulumkit_Near.f a2 3000).bind fun t204 => (if (l0.length : Int) > 300 then (pendulumlaw31_ToneHangs.j0 k l0 (wrap64 (1 + t203)) t204 a3 true) else ((pendulumref04_Check.f k l0).bind fun t205 => (if t205 = 0 then (if (wrap64 (1 + t203)) = 0 then (none) else (pendulumlaw31_ToneHangs.j0 k l0 (wrap64 (1 + t203)) t204 a3 (decide ((wrap64 (Int.tdiv t204 (wrap64 (1 + t203)))) > 300)))) else (pendulumlaw31_ToneHangs.j0 k l0 (wrap64 (1 + t203)) t204 a3 true)))))) = some r := by rw [if_pos rfl] at H; exact H
    clear H
    have H := H1
    clear H1
    replace H := Option.bind_eq_some_iff.mp H
    obtain ⟨t203, A70, H⟩ := H
    replace H : ((pendulumkit_Near.f a2 3000).bind fun t204 => (if (l0.length : Int) > 300 then (pendulumlaw31_ToneHangs.j0 k l0 (wrap64 (1 + t203)) t204 a3 true) else ((pendulumref04_Check.f k l0).bind fun t205 => (if t205 = 0 then (if (wrap64 (1 + t203)) = 0 then (none) else (pendulumlaw31_ToneHangs.j0 k l0 (wrap64 (1 + t203)) t204 a3 (decide ((wrap64 (Int.tdiv t204 (wrap64 (1 + t203)))) > 300)))) else (pendulumlaw31_ToneHangs.j0 k l0 (wrap64 (1 + t203)) t204 a3 true))))) = some r := H
    have A7 := Aside0.mk A70
    clear A70
    replace H := Option.bind_eq_some_iff.mp H
    obtain ⟨t204, A80, H⟩ := H
    replace H : (if (l0.length : Int) > 300 then (pendulumlaw31_ToneHangs.j0 k l0 (wrap64 (1 + t203)) t204 a3 true) else ((pendulumref04_Check.f k l0).bind fun t205 => (if t205 = 0 then (if (wrap64 (1 + t203)) = 0 then (none) else (pendulumlaw31_ToneHangs.j0 k l0 (wrap64 (1 + t203)) t204 a3 (decide ((wrap64 (Int.tdiv t204 (wrap64 (1 + t203)))) > 300)))) else (pendulumlaw31_ToneHangs.j0 k l0 (wrap64 (1 + t203)) t204 a3 true)))) = some r := H
    have A8 := Aside0.mk A80
    clear A80
    have HC9 := Aside0.mk H
    clear H
    go_enter Try.func3, Try.ntmps3
    go_upto_region 4 with (first | ((with_reducible refine gate_callee (f := 10) rfl ?_); refine goesL_ (some 23) rfl rfl Try.func10 (by kernel_rfl) rfl #[] rfl (by (try simp only [List.map_toArray, List.map_cons, List.map_nil]); first | done | rfl | (simp only [List.length_drop, List.length_take]; rfl)) ?_; (with_reducible refine (pendulumlaw31_lives.calls k  true _ A5.out).mono ?_); rintro e w10 ⟨rfl, hb⟩; refine ⟨_, rfl, ?_⟩; have n0_ := Aside0.mk (below_step (by repeat (first | (with_reducible first | exact HB.out | apply below_alloc | apply pw_below_drewN | apply below_drew1) | exact HB.out)) hb); clear HB; have HB := n0_; clear n0_; (try clear hb); (try clear hb2); (try clear hk); (try clear hi)) | ((with_reducible refine gate_callee (f := 11) rfl ?_); refine goesL_ (some 26) rfl rfl Try.func11 (by kernel_rfl) rfl #[.int .i64 a1, .int .i64 500] rfl (by (try simp only [List.map_toArray, List.map_cons, List.map_nil]); first | done | rfl | (simp only [List.length_drop, List.length_take]; rfl)) ?_; (with_reducible refine (pendulumkit_Near.calls a1 500 t203 _ A7.out).mono ?_); rintro e w11 ⟨rfl, hb⟩; refine ⟨_, rfl, ?_⟩; have n0_ := Aside0.mk (below_step (by repeat (first | (with_reducible first | exact HB.out | apply below_alloc | apply pw_below_drewN | apply below_drew1) | exact HB.out)) hb); clear HB; have HB := n0_; clear n0_; (try clear hb); (try clear hb2); (try clear hk); (try clear hi)) | ((with_reducible refine gate_callee (f := 11) rfl ?_); refine goesL_ (some 29) rfl rfl Try.func11 (by kernel_rfl) rfl #[.int .i64 a2, .int .i64 3000] rfl (by (try simp only [List.map_toArray, List.map_cons, List.map_nil]); first | done | rfl | (simp only [List.length_drop, List.length_take]; rfl)) ?_; (with_reducible refine (pendulumkit_Near.calls a2 3000 t204 _ A8.out).mono ?_); rintro e w12 ⟨rfl, hb⟩; refine ⟨_, rfl, ?_⟩; have n0_ := Aside0.mk (below_step (by repeat (first | (with_reducible first | exact HB.out | apply below_alloc | apply pw_below_drewN | apply below_drew1) | exact HB.out)) hb); clear HB; have HB := n0_; clear n0_; (try clear hb); (try clear hb2); (try clear hk); (try clear hi)))
    (try simp only [Act.put, List.setIfInBounds_toArray, List.set_cons_zero, List.set_cons_succ])
    go_cut [43] (fun v43 wc => ∃ (kq : Nat) (x43_8 : Bool), v43 = .bool x43_8 ∧ Aside0 (pendulumlaw31_ToneHangs.j0 kq l0 (wrap64 (1 + t203)) t204 a3 x43_8 = some r) ∧ Aside0 (kq ≤ k) ∧ Aside0 (Below w.heap.size w wc))
    case first =>
      have H := HC9.out
      clear HC9
      by_cases c13 : (l0.length : Int) > 300
      · rw [if_pos c13] at H
        have c13b0 : decide (300 < (l0.length : Int)) = true := decide_eq_true c13
        have c13b1 : decide (300 < l0.length) = true := decide_eq_true (by omega)
        clear c13
        (first | rw [c13b0] | (simp only [i64_w, i32_w]; rw [c13b0]) | skip)
        have H' := Aside0.mk H
        clear H
        go_wp2
        go_meet
        case rel => exact ⟨_, (true), (by first | rfl | (simp; done) | (simp [*]; done)), H', ⟨by first | omega | exact Nat.le_refl _⟩, ⟨by repeat (first | (with_reducible first | exact HB.out | apply below_alloc | apply pw_below_drewN | apply below_drew1) | exact HB.out)⟩⟩
      · rw [if_neg c13] at H
        have c13b0 : decide (300 < (l0.length : Int)) = false := decide_eq_false c13
        have c13b1 : decide (300 < l0.length) = false := decide_eq_false (by omega)
        clear c13
        (first | rw [c13b0] | (simp only [i64_w, i32_w]; rw [c13b0]) | skip)
        replace H := Option.bind_eq_some_iff.mp H
        obtain ⟨t205, A140, H⟩ := H
        replace H : (if t205 = 0 then (if (wrap64 (1 + t203)) = 0 then (none) else (pendulumlaw31_ToneHangs.j0 k l0 (wrap64 (1 + t203)) t204 a3 (decide ((wrap64 (Int.tdiv t204 (wrap64 (1 + t203)))) > 300)))) else (pendulumlaw31_ToneHangs.j0 k l0 (wrap64 (1 + t203)) t204 a3 true)) = some r := H
        have A14 := Aside0.mk A140
        clear A140
        by_cases c15 : t205 = 0
        · rw [if_pos c15] at H
          have c15b0 : (t205 == 0) = true := beq_iff_eq.mpr c15
          have c15b1 : (t205 != 0) = false := bne_eq_false_iff_eq.mpr c15
          clear c15
          by_cases c16 : (wrap64 (1 + t203)) = 0
          · rw [if_pos c16] at H
            exact absurd H (by simp)
          · rw [if_neg c16] at H
            have c16b0 : ((wrap64 (1 + t203)) == 0) = false := beq_eq_false_iff_ne.mpr c16
            have c16b1 : ((wrap64 (1 + t203)) != 0) = true := bne_iff_ne.mpr c16
            have H' := Aside0.mk H
            clear H
            go_wp2_with (first | (go_at_call 12; (with_reducible refine (pendulumref04_Check.calls k _ _ l0 t205 _ ?side1 ?side2 A14.out).mono ?_); (case side1 => repeat (first | exact (Kd.C_below HR0.out HB.out) | (with_reducible refine Kd.C_alloc ?_ _) | (with_reducible refine Kd.C_drewN ?_ _) | (with_reducible refine Kd.C_drew ?_))); (case side2 => exact HC0.out); rintro e w17 ⟨rfl, hb⟩; have n0_ := Aside0.mk (below_step (by repeat (first | (with_reducible first | exact HB.out | apply below_alloc | apply pw_below_drewN | apply below_drew1) | exact HB.out)) hb); clear HB; have HB := n0_; clear n0_; (try clear hb); (try clear hb2); (try clear hk); (try clear hi)))
            go_meet
            case rel => exact ⟨_, (decide ((wrap64 (Int.tdiv t204 (wrap64 (1 + t203)))) > 300)), (by first | rfl | (simp; done) | (simp [*]; done)), H', ⟨by first | omega | exact Nat.le_refl _⟩, ⟨by repeat (first | (with_reducible first | exact HB.out | apply below_alloc | apply pw_below_drewN | apply below_drew1) | exact HB.out)⟩⟩
        · rw [if_neg c15] at H
          have c15b0 : (t205 == 0) = false := beq_eq_false_iff_ne.mpr c15
          have c15b1 : (t205 != 0) = true := bne_iff_ne.mpr c15
          have H' := Aside0.mk H
          clear H
          go_wp2_with (first | (go_at_call 12; (with_reducible refine (pendulumref04_Check.calls k _ _ l0 t205 _ ?side1 ?side2 A14.out).mono ?_); (case side1 => repeat (first | exact (Kd.C_below HR0.out HB.out) | (with_reducible refine Kd.C_alloc ?_ _) | (with_reducible refine Kd.C_drewN ?_ _) | (with_reducible refine Kd.C_drew ?_))); (case side2 => exact HC0.out); rintro e w18 ⟨rfl, hb⟩; have n0_ := Aside0.mk (below_step (by repeat (first | (with_reducible first | exact HB.out | apply below_alloc | apply pw_below_drewN | apply below_drew1) | exact HB.out)) hb); clear HB; have HB := n0_; clear n0_; (try clear hb); (try clear hb2); (try clear hk); (try clear hi)))
          go_meet
          case rel => exact ⟨_, (true), (by first | rfl | (simp; done) | (simp [*]; done)), H', ⟨by first | omega | exact Nat.le_refl _⟩, ⟨by repeat (first | (with_reducible first | exact HB.out | apply below_alloc | apply pw_below_drewN | apply below_drew1) | exact HB.out)⟩⟩
    case rest =>
      clear HC9
      try clear c1
      try clear p2
      try clear c3
      try clear c6
      try clear p6
      try clear c10
      try clear c11
      try clear c13
      try clear c13b0
      try clear c13b1
      try clear c15
      try clear c15b0
      try clear c15b1
      try clear c16
      try clear c16b0
      try clear c16b1
      obtain ⟨kq, x43_8, rfl, HA, HJ8, HB⟩ := hcut
      cases kq with
      | zero => exact absurd HA.out (by simp [pendulumlaw31_ToneHangs.j0])
      | succ kj8 =>
        have H := HA.out
        clear HA
        simp only [pendulumlaw31_ToneHangs.j0] at H
        by_cases c19 : x43_8 = true
        · subst c19
          have H1 : (some true) = some r := by rw [if_pos rfl] at H; exact H
          clear H
          have H := H1
          clear H1
          obtain rfl := Option.some.inj H
          go_wp2
          go_ret
          exact ⟨by first | rfl | (simp [errW_none, errW_some] <;> rfl) | (simp [*, errW_none, errW_some] <;> rfl), by repeat (first | (with_reducible first | exact HB.out | apply below_alloc | apply pw_below_drewN | apply below_drew1) | exact HB.out)⟩
        · replace c19 := Bool.eq_false_iff.mpr c19
          subst c19
          have H1 : (pendulumlaw31_ToneHangs.l0 kj8 l0 (wrap64 (1 + t203)) t204 a3 ([] : List (S28)) 0) = some r := by rw [if_neg (show ¬ (false = true) by decide)] at H; exact H
          clear H
          have H := H1
          clear H1
          have H' := Aside0.mk H
          clear H
          go_wp2
          go_loopg [9, 10] kj8 (fun kq v9 v10 w' => ∃ (x9_2 : List (S28)) (x10_2 : Int), v10 = .int .i64 x10_2 ∧ Aside0 (pendulumlaw31_ToneHangs.l0 kq l0 (wrap64 (1 + t203)) t204 a3 x9_2 x10_2 = some r) ∧ Aside0 (kq ≤ kj8) ∧ Aside0 (Kd.R k28 28 w' w.heap.size (fun _ => True) v9 x9_2) ∧ Aside0 (Below w.heap.size w w'))
          case atStart => exact ⟨(([] : List (S28))), (0), (by first | rfl | (simp; done) | (simp [*]; done)), H', ⟨Nat.le_refl _⟩, ⟨by first | exact Kd.R_nil _ _ _ _ _ | exact Kd.N_nil _ _ _ _ _ | exact Kd.V_nil _ _ _ _ _ | exact Kd.Q_nil _ _ _ _ _ | exact Kd.S_nil _ _ _ _ _⟩, ⟨by repeat (first | (with_reducible first | exact HB.out | apply below_alloc | apply pw_below_drewN | apply below_drew1) | exact HB.out)⟩⟩
          case round =>
            clear H'
            try clear c1
            try clear p2
            try clear c3
            try clear c6
            try clear p6
            try clear c10
            try clear c11
            try clear c13
            try clear c13b0
            try clear c13b1
            try clear c15
            try clear c15b0
            try clear c15b1
            try clear c16
            try clear c16b0
            try clear c16b1
            try clear c19
            try clear p2
            try clear p6
            obtain ⟨x9_2, x10_2, rfl, HA, HK2, HO_9, HB⟩ := hrel
            cases gk with
            | zero => exact absurd HA.out (by simp [pendulumlaw31_ToneHangs.l0])
            | succ k2 =>
              have H := HA.out
              clear HA
              simp only [pendulumlaw31_ToneHangs.l0] at H
              by_cases c20 : x10_2 < (l0.length : Int)
              · rw [if_pos c20] at H
                have c20b0 : decide (x10_2 < (l0.length : Int)) = true := decide_eq_true c20
                clear c20
                by_cases c21 : 0 ≤ x10_2
                · rw [if_pos c21] at H
                  have c21b0 : decide (0 ≤ x10_2) = true := decide_eq_true c21
                  clear c21
                  by_cases c22 : ((rd_T28 l0 x10_2).f3) = 11
                  · rw [if_pos c22] at H
                    have c22b0 : (((rd_T28 l0 x10_2).f3) == 11) = true := beq_iff_eq.mpr c22
                    have c22b1 : (((rd_T28 l0 x10_2).f3) != 11) = false := bne_eq_false_iff_eq.mpr c22
                    clear c22
                    by_cases c23 : x9_2.length < 2932031007402
                    · rw [if_pos c23] at H
                      have LMc23 := Aside0.mk c23
                      clear c23
                      obtain ⟨y208, hy208⟩ : ∃ y_ : List (S28), y_ = (x9_2 ++ [(⟨(rd_T28 l0 x10_2).f0, (rd_T28 l0 x10_2).f1, (rd_T28 l0 x10_2).f2, (rd_T28 l0 x10_2).f3, (rd_T28 l0 x10_2).f4, (rd_T28 l0 x10_2).f5⟩ : S28)]) := ⟨_, rfl⟩
                      replace H : (pendulumlaw31_ToneHangs.l0 k2 l0 (wrap64 (1 + t203)) t204 a3 y208 (wrap64 (x10_2 + 1))) = some r := by first | (rw [hy208]; with_reducible exact H) | (have H2_ := (Option.bind_some _ _).symm.trans H; rw [hy208]; with_reducible exact H2_) | (have H2_ := (Option.bind_some _ _).symm.trans H; with_reducible exact H2_) | with_reducible exact H | (rw [hy208]; exact H) | exact H
                      have Ny208 := Aside0.mk hy208
                      clear hy208
                      have H' := Aside0.mk H
                      clear H
                      have p206 : 0 ≤ (x10_2 : Int) := of_decide_eq_true (by first | (with_reducible assumption) | assumption)
                      have q206 : x10_2 < (l0.length : Int) := of_decide_eq_true (by first | (with_reducible assumption) | assumption)
                      obtain ⟨ad206, e206, hx206_0, hx206_1, hx206_2, hx206_3, hx206_4, hx206_5⟩ := at_T28 HR0.out x10_2 p206 q206
                      cases e206
                      replace hx206_0 := (HB.out.cell (World.block_lt_of_cell? w _ hx206_0)).trans hx206_0
                      replace hx206_1 := (HB.out.cell (World.block_lt_of_cell? w _ hx206_1)).trans hx206_1
                      replace hx206_2 := (HB.out.cell (World.block_lt_of_cell? w _ hx206_2)).trans hx206_2
                      replace hx206_3 := (HB.out.cell (World.block_lt_of_cell? w _ hx206_3)).trans hx206_3
                      replace hx206_4 := (HB.out.cell (World.block_lt_of_cell? w _ hx206_4)).trans hx206_4
                      replace hx206_5 := (HB.out.cell (World.block_lt_of_cell? w _ hx206_5)).trans hx206_5
                      replace p206 := eq_true p206
                      replace q206 := eq_true q206
                      have p207 : 0 ≤ (x10_2 : Int) := of_decide_eq_true (by first | (with_reducible assumption) | assumption)
                      have q207 : x10_2 < (l0.length : Int) := of_decide_eq_true (by first | (with_reducible assumption) | assumption)
                      obtain ⟨ad207, e207, hx207_0, hx207_1, hx207_2, hx207_3, hx207_4, hx207_5⟩ := at_T28 HR0.out x10_2 p207 q207
                      obtain rfl : ad206 = ad207 := (by injection e207)
                      replace hx207_0 := (HB.out.cell (World.block_lt_of_cell? w _ hx207_0)).trans hx207_0
                      replace hx207_1 := (HB.out.cell (World.block_lt_of_cell? w _ hx207_1)).trans hx207_1
                      replace hx207_2 := (HB.out.cell (World.block_lt_of_cell? w _ hx207_2)).trans hx207_2
                      replace hx207_3 := (HB.out.cell (World.block_lt_of_cell? w _ hx207_3)).trans hx207_3
                      replace hx207_4 := (HB.out.cell (World.block_lt_of_cell? w _ hx207_4)).trans hx207_4
                      replace hx207_5 := (HB.out.cell (World.block_lt_of_cell? w _ hx207_5)).trans hx207_5
                      replace p207 := eq_true p207
                      replace q207 := eq_true q207
                      go_wp2_with (first | ((with_reducible refine gate_builtin (b := .append) (xs := #[.tmp 64, .tmp 69]) rfl ?_); (try (refine gate_guard (by rfl) ?_; dsimp only)); at_builtin; refine Kd.R_append k28 (w0 := w) w.heap.size rfl (.tmp 64) (.tmp 69) 22 28 (.agg #[(.int .i64 0), (.int .i64 0), (.int .i64 0), (.int .i64 0), (.int .i64 0), (.int .i64 0)]) 48 rfl Try.underlying22 info28 rfl (by decide) (by omega) u9 x9_2 (⟨(rd_T28 l0 x10_2).f0, (rd_T28 l0 x10_2).f1, (rd_T28 l0 x10_2).f2, (rd_T28 l0 x10_2).f3, (rd_T28 l0 x10_2).f4, (rd_T28 l0 x10_2).f5⟩ : S28) [.int .i64 ((rd_T28 l0 x10_2).f0), .int .i64 ((rd_T28 l0 x10_2).f1), .int .i64 ((rd_T28 l0 x10_2).f2), .int .i64 ((rd_T28 l0 x10_2).f3), .int .i64 ((rd_T28 l0 x10_2).f4), .int .i64 ((rd_T28 l0 x10_2).f5)] (fun _ => True) (fun _ => False) rfl rfl ?aP (fun _ hk => hk.elim) ?aF ?aO ?aB ?aS ?aL ?_; (case aP => exact k28_mkM _ _ _ (⟨(rd_T28 l0 x10_2).f0, (rd_T28 l0 x10_2).f1, (rd_T28 l0 x10_2).f2, (rd_T28 l0 x10_2).f3, (rd_T28 l0 x10_2).f4, (rd_T28 l0 x10_2).f5⟩ : S28)); (case aB => exact (by repeat (first | (with_reducible first | exact HB.out | apply below_alloc | apply pw_below_drewN | apply below_drew1) | exact HB.out))); (case aF => exact (fun _ _ => trivial)); (case aO => exact (by (with_reducible repeat (first | apply Kd.R_alloc | apply Kd.R_drewN | apply Kd.R_drew)); exact HO_9.out)); (case aS => exact (below_size (by repeat (first | (with_reducible first | exact HB.out | apply below_alloc | apply pw_below_drewN | apply below_drew1) | exact HB.out)))); (case aL => have := LMc23.out; omega); intro v209 w24 ho hb hg hat; rw [← Ny208.out] at ho; have n0_ := Aside0.mk (hb); have n1_ := Aside0.mk (ho); clear HB; clear HO_9; have HB := n0_; have HO210 := n1_; clear n0_ n1_; clear ho hb hg hat))
                      go_roundg k2
                      case measure => have := HJ8.out; have := HK2.out; omega
                      case rel => exact ⟨(y208), (wrap64 (x10_2 + 1)), (by first | rfl | (simp; done) | (simp [*]; done)), H', ⟨by have := HJ8.out; have := HK2.out; omega⟩, ⟨by (with_reducible repeat (first | apply Kd.R_alloc | apply Kd.R_drewN | apply Kd.R_drew)); exact HO210.out⟩, ⟨by repeat (first | (with_reducible first | exact HB.out | apply below_alloc | apply pw_below_drewN | apply below_drew1) | exact HB.out)⟩⟩
                    · rw [if_neg c23] at H
                      exact absurd H (by simp)
                  · rw [if_neg c22] at H
                    have c22b0 : (((rd_T28 l0 x10_2).f3) == 11) = false := beq_eq_false_iff_ne.mpr c22
                    have c22b1 : (((rd_T28 l0 x10_2).f3) != 11) = true := bne_iff_ne.mpr c22
                    by_cases c25 : ((rd_T28 l0 x10_2).f3) = 10
                    · rw [if_pos c25] at H
                      have c25b0 : (((rd_T28 l0 x10_2).f3) == 10) = true := beq_iff_eq.mpr c25
                      have c25b1 : (((rd_T28 l0 x10_2).f3) != 10) = false := bne_eq_false_iff_eq.mpr c25
                      clear c25
                      by_cases c26 : x9_2.length < 2932031007402
                      · rw [if_pos c26] at H
                        have LMc26 := Aside0.mk c26
                        clear c26
                        obtain ⟨y213, hy213⟩ : ∃ y_ : List (S28), y_ = (x9_2 ++ [(⟨(rd_T28 l0 x10_2).f0, (rd_T28 l0 x10_2).f1, (rd_T28 l0 x10_2).f2, (rd_T28 l0 x10_2).f3, (rd_T28 l0 x10_2).f4, (rd_T28 l0 x10_2).f5⟩ : S28)]) := ⟨_, rfl⟩
                        replace H : (pendulumlaw31_ToneHangs.l0 k2 l0 (wrap64 (1 + t203)) t204 a3 y213 (wrap64 (x10_2 + 1))) = some r := by first | (rw [hy213]; with_reducible exact H) | (have H2_ := (Option.bind_some _ _).symm.trans H; rw [hy213]; with_reducible exact H2_) | (have H2_ := (Option.bind_some _ _).symm.trans H; with_reducible exact H2_) | with_reducible exact H | (rw [hy213]; exact H) | exact H
                        have Ny213 := Aside0.mk hy213
                        clear hy213
                        have H' := Aside0.mk H
                        clear H
                        have p206 : 0 ≤ (x10_2 : Int) := of_decide_eq_true (by first | (with_reducible assumption) | assumption)
                        have q206 : x10_2 < (l0.length : Int) := of_decide_eq_true (by first | (with_reducible assumption) | assumption)
                        obtain ⟨ad206, e206, hx206_0, hx206_1, hx206_2, hx206_3, hx206_4, hx206_5⟩ := at_T28 HR0.out x10_2 p206 q206
                        cases e206
                        replace hx206_0 := (HB.out.cell (World.block_lt_of_cell? w _ hx206_0)).trans hx206_0
                        replace hx206_1 := (HB.out.cell (World.block_lt_of_cell? w _ hx206_1)).trans hx206_1
                        replace hx206_2 := (HB.out.cell (World.block_lt_of_cell? w _ hx206_2)).trans hx206_2
                        replace hx206_3 := (HB.out.cell (World.block_lt_of_cell? w _ hx206_3)).trans hx206_3
                        replace hx206_4 := (HB.out.cell (World.block_lt_of_cell? w _ hx206_4)).trans hx206_4
                        replace hx206_5 := (HB.out.cell (World.block_lt_of_cell? w _ hx206_5)).trans hx206_5
                        replace p206 := eq_true p206
                        replace q206 := eq_true q206
                        have p211 : 0 ≤ (x10_2 : Int) := of_decide_eq_true (by first | (with_reducible assumption) | assumption)
                        have q211 : x10_2 < (l0.length : Int) := of_decide_eq_true (by first | (with_reducible assumption) | assumption)
                        obtain ⟨ad211, e211, hx211_0, hx211_1, hx211_2, hx211_3, hx211_4, hx211_5⟩ := at_T28 HR0.out x10_2 p211 q211
                        obtain rfl : ad206 = ad211 := (by injection e211)
                        replace hx211_0 := (HB.out.cell (World.block_lt_of_cell? w _ hx211_0)).trans hx211_0
                        replace hx211_1 := (HB.out.cell (World.block_lt_of_cell? w _ hx211_1)).trans hx211_1
                        replace hx211_2 := (HB.out.cell (World.block_lt_of_cell? w _ hx211_2)).trans hx211_2
                        replace hx211_3 := (HB.out.cell (World.block_lt_of_cell? w _ hx211_3)).trans hx211_3
                        replace hx211_4 := (HB.out.cell (World.block_lt_of_cell? w _ hx211_4)).trans hx211_4
                        replace hx211_5 := (HB.out.cell (World.block_lt_of_cell? w _ hx211_5)).trans hx211_5
                        replace p211 := eq_true p211
                        replace q211 := eq_true q211
                        have p212 : 0 ≤ (x10_2 : Int) := of_decide_eq_true (by first | (with_reducible assumption) | assumption)
                        have q212 : x10_2 < (l0.length : Int) := of_decide_eq_true (by first | (with_reducible assumption) | assumption)
                        obtain ⟨ad212, e212, hx212_0, hx212_1, hx212_2, hx212_3, hx212_4, hx212_5⟩ := at_T28 HR0.out x10_2 p212 q212
                        obtain rfl : ad206 = ad212 := (by injection e212)
                        replace hx212_0 := (HB.out.cell (World.block_lt_of_cell? w _ hx212_0)).trans hx212_0
                        replace hx212_1 := (HB.out.cell (World.block_lt_of_cell? w _ hx212_1)).trans hx212_1
                        replace hx212_2 := (HB.out.cell (World.block_lt_of_cell? w _ hx212_2)).trans hx212_2
                        replace hx212_3 := (HB.out.cell (World.block_lt_of_cell? w _ hx212_3)).trans hx212_3
                        replace hx212_4 := (HB.out.cell (World.block_lt_of_cell? w _ hx212_4)).trans hx212_4
                        replace hx212_5 := (HB.out.cell (World.block_lt_of_cell? w _ hx212_5)).trans hx212_5
                        replace p212 := eq_true p212
                        replace q212 := eq_true q212
                        go_wp2_with (first | ((with_reducible refine gate_builtin (b := .append) (xs := #[.tmp 64, .tmp 69]) rfl ?_); (try (refine gate_guard (by rfl) ?_; dsimp only)); at_builtin; refine Kd.R_append k28 (w0 := w) w.heap.size rfl (.tmp 64) (.tmp 69) 22 28 (.agg #[(.int .i64 0), (.int .i64 0), (.int .i64 0), (.int .i64 0), (.int .i64 0), (.int .i64 0)]) 48 rfl Try.underlying22 info28 rfl (by decide) (by omega) u9 x9_2 (⟨(rd_T28 l0 x10_2).f0, (rd_T28 l0 x10_2).f1, (rd_T28 l0 x10_2).f2, (rd_T28 l0 x10_2).f3, (rd_T28 l0 x10_2).f4, (rd_T28 l0 x10_2).f5⟩ : S28) [.int .i64 ((rd_T28 l0 x10_2).f0), .int .i64 ((rd_T28 l0 x10_2).f1), .int .i64 ((rd_T28 l0 x10_2).f2), .int .i64 ((rd_T28 l0 x10_2).f3), .int .i64 ((rd_T28 l0 x10_2).f4), .int .i64 ((rd_T28 l0 x10_2).f5)] (fun _ => True) (fun _ => False) rfl rfl ?aP (fun _ hk => hk.elim) ?aF ?aO ?aB ?aS ?aL ?_; (case aP => exact k28_mkM _ _ _ (⟨(rd_T28 l0 x10_2).f0, (rd_T28 l0 x10_2).f1, (rd_T28 l0 x10_2).f2, (rd_T28 l0 x10_2).f3, (rd_T28 l0 x10_2).f4, (rd_T28 l0 x10_2).f5⟩ : S28)); (case aB => exact (by repeat (first | (with_reducible first | exact HB.out | apply below_alloc | apply pw_below_drewN | apply below_drew1) | exact HB.out))); (case aF => exact (fun _ _ => trivial)); (case aO => exact (by (with_reducible repeat (first | apply Kd.R_alloc | apply Kd.R_drewN | apply Kd.R_drew)); exact HO_9.out)); (case aS => exact (below_size (by repeat (first | (with_reducible first | exact HB.out | apply below_alloc | apply pw_below_drewN | apply below_drew1) | exact HB.out)))); (case aL => have := LMc26.out; omega); intro v214 w27 ho hb hg hat; rw [← Ny213.out] at ho; have n0_ := Aside0.mk (hb); have n1_ := Aside0.mk (ho); clear HB; clear HO_9; have HB := n0_; have HO215 := n1_; clear n0_ n1_; clear ho hb hg hat))
                        go_roundg k2
                        case measure => have := HJ8.out; have := HK2.out; omega
                        case rel => exact ⟨(y213), (wrap64 (x10_2 + 1)), (by first | rfl | (simp; done) | (simp [*]; done)), H', ⟨by have := HJ8.out; have := HK2.out; omega⟩, ⟨by (with_reducible repeat (first | apply Kd.R_alloc | apply Kd.R_drewN | apply Kd.R_drew)); exact HO215.out⟩, ⟨by repeat (first | (with_reducible first | exact HB.out | apply below_alloc | apply pw_below_drewN | apply below_drew1) | exact HB.out)⟩⟩
                      · rw [if_neg c26] at H
                        exact absurd H (by simp)
                    · rw [if_neg c25] at H
                      have c25b0 : (((rd_T28 l0 x10_2).f3) == 10) = false := beq_eq_false_iff_ne.mpr c25
                      have c25b1 : (((rd_T28 l0 x10_2).f3) != 10) = true := bne_iff_ne.mpr c25
                      have H' := Aside0.mk H
                      clear H
                      have p206 : 0 ≤ (x10_2 : Int) := of_decide_eq_true (by first | (with_reducible assumption) | assumption)
                      have q206 : x10_2 < (l0.length : Int) := of_decide_eq_true (by first | (with_reducible assumption) | assumption)
                      obtain ⟨ad206, e206, hx206_0, hx206_1, hx206_2, hx206_3, hx206_4, hx206_5⟩ := at_T28 HR0.out x10_2 p206 q206
                      cases e206
                      replace hx206_0 := (HB.out.cell (World.block_lt_of_cell? w _ hx206_0)).trans hx206_0
                      replace hx206_1 := (HB.out.cell (World.block_lt_of_cell? w _ hx206_1)).trans hx206_1
                      replace hx206_2 := (HB.out.cell (World.block_lt_of_cell? w _ hx206_2)).trans hx206_2
                      replace hx206_3 := (HB.out.cell (World.block_lt_of_cell? w _ hx206_3)).trans hx206_3
                      replace hx206_4 := (HB.out.cell (World.block_lt_of_cell? w _ hx206_4)).trans hx206_4
                      replace hx206_5 := (HB.out.cell (World.block_lt_of_cell? w _ hx206_5)).trans hx206_5
                      replace p206 := eq_true p206
                      replace q206 := eq_true q206
                      have p211 : 0 ≤ (x10_2 : Int) := of_decide_eq_true (by first | (with_reducible assumption) | assumption)
                      have q211 : x10_2 < (l0.length : Int) := of_decide_eq_true (by first | (with_reducible assumption) | assumption)
                      obtain ⟨ad211, e211, hx211_0, hx211_1, hx211_2, hx211_3, hx211_4, hx211_5⟩ := at_T28 HR0.out x10_2 p211 q211
                      obtain rfl : ad206 = ad211 := (by injection e211)
                      replace hx211_0 := (HB.out.cell (World.block_lt_of_cell? w _ hx211_0)).trans hx211_0
                      replace hx211_1 := (HB.out.cell (World.block_lt_of_cell? w _ hx211_1)).trans hx211_1
                      replace hx211_2 := (HB.out.cell (World.block_lt_of_cell? w _ hx211_2)).trans hx211_2
                      replace hx211_3 := (HB.out.cell (World.block_lt_of_cell? w _ hx211_3)).trans hx211_3
                      replace hx211_4 := (HB.out.cell (World.block_lt_of_cell? w _ hx211_4)).trans hx211_4
                      replace hx211_5 := (HB.out.cell (World.block_lt_of_cell? w _ hx211_5)).trans hx211_5
                      replace p211 := eq_true p211
                      replace q211 := eq_true q211
                      go_wp2
                      go_roundg k2
                      case measure => have := HJ8.out; have := HK2.out; omega
                      case rel => exact ⟨(x9_2), (wrap64 (x10_2 + 1)), (by first | rfl | (simp; done) | (simp [*]; done)), H', ⟨by have := HJ8.out; have := HK2.out; omega⟩, ⟨by (with_reducible repeat (first | apply Kd.R_alloc | apply Kd.R_drewN | apply Kd.R_drew)); exact HO_9.out⟩, ⟨by repeat (first | (with_reducible first | exact HB.out | apply below_alloc | apply pw_below_drewN | apply below_drew1) | exact HB.out)⟩⟩
                · rw [if_neg c21] at H
                  exact absurd H (by simp)
              · rw [if_neg c20] at H
                have c20b0 : decide (x10_2 < (l0.length : Int)) = false := decide_eq_false c20
                clear c20
                replace H := Option.bind_eq_some_iff.mp H
                obtain ⟨⟨t216, t217⟩, A280, H⟩ := H
                replace H : ((tone_Samples.f x9_2 (wrap64 (1 + t203)) t204).bind fun bt220 => ((tone_Samples.f l0 (wrap64 (2 * (wrap64 (1 + t203)))) t204).bind fun bt224 => (if t217 = 0 then (if bt220.2 = 0 then (if bt224.2 = 0 then ((tone_Same.f k2 t216 bt220.1).bind fun t228 => (if t228 = true then (pendulumlaw31_ToneHangs.j2 k2 l0 (wrap64 (1 + t203)) t204 a3 t216 bt224.1 ((bt224.1.length : Int) != (wrap64 (Int.tdiv (wrap64 ((t216.length : Int) + 1)) 2)))) else (pendulumlaw31_ToneHangs.j2 k2 l0 (wrap64 (1 + t203)) t204 a3 t216 bt224.1 true))) else (pendulumlaw31_ToneHangs.j2 k2 l0 (wrap64 (1 + t203)) t204 a3 t216 bt224.1 true)) else (pendulumlaw31_ToneHangs.j2 k2 l0 (wrap64 (1 + t203)) t204 a3 t216 bt224.1 true)) else (pendulumlaw31_ToneHangs.j2 k2 l0 (wrap64 (1 + t203)) t204 a3 t216 bt224.1 true)))) = some r := H
                have A28 := Aside0.mk A280
                clear A280
                replace H := Option.bind_eq_some_iff.mp H
                obtain ⟨⟨t220, t221⟩, A290, H⟩ := H
                replace H : ((tone_Samples.f l0 (wrap64 (2 * (wrap64 (1 + t203)))) t204).bind fun bt224 => (if t217 = 0 then (if t221 = 0 then (if bt224.2 = 0 then ((tone_Same.f k2 t216 t220).bind fun t228 => (if t228 = true then (pendulumlaw31_ToneHangs.j2 k2 l0 (wrap64 (1 + t203)) t204 a3 t216 bt224.1 ((bt224.1.length : Int) != (wrap64 (Int.tdiv (wrap64 ((t216.length : Int) + 1)) 2)))) else (pendulumlaw31_ToneHangs.j2 k2 l0 (wrap64 (1 + t203)) t204 a3 t216 bt224.1 true))) else (pendulumlaw31_ToneHangs.j2 k2 l0 (wrap64 (1 + t203)) t204 a3 t216 bt224.1 true)) else (pendulumlaw31_ToneHangs.j2 k2 l0 (wrap64 (1 + t203)) t204 a3 t216 bt224.1 true)) else (pendulumlaw31_ToneHangs.j2 k2 l0 (wrap64 (1 + t203)) t204 a3 t216 bt224.1 true))) = some r := H
                have A29 := Aside0.mk A290
                clear A290
                replace H := Option.bind_eq_some_iff.mp H
                obtain ⟨⟨t224, t225⟩, A300, H⟩ := H
                replace H : (if t217 = 0 then (if t221 = 0 then (if t225 = 0 then ((tone_Same.f k2 t216 t220).bind fun t228 => (if t228 = true then (pendulumlaw31_ToneHangs.j2 k2 l0 (wrap64 (1 + t203)) t204 a3 t216 t224 ((t224.length : Int) != (wrap64 (Int.tdiv (wrap64 ((t216.length : Int) + 1)) 2)))) else (pendulumlaw31_ToneHangs.j2 k2 l0 (wrap64 (1 + t203)) t204 a3 t216 t224 true))) else (pendulumlaw31_ToneHangs.j2 k2 l0 (wrap64 (1 + t203)) t204 a3 t216 t224 true)) else (pendulumlaw31_ToneHangs.j2 k2 l0 (wrap64 (1 + t203)) t204 a3 t216 t224 true)) else (pendulumlaw31_ToneHangs.j2 k2 l0 (wrap64 (1 + t203)) t204 a3 t216 t224 true)) = some r := H
                have A30 := Aside0.mk A300
                clear A300
                have HC31 := Aside0.mk H
                clear H
                go_upto_region 15 with (first | ((with_reducible refine gate_callee (f := 13) rfl ?_); refine goesL_ (some 75) rfl rfl Try.func13 (by kernel_rfl) rfl #[.slice A0 l0.length c0, .int .i64 (wrap64 (1 + t203)), .int .i64 t204] rfl (by (try simp only [List.map_toArray, List.map_cons, List.map_nil]); first | done | rfl | (simp only [List.length_drop, List.length_take]; rfl)) ?_; (with_reducible refine (tone_Samples.calls _ _ l0 (wrap64 (1 + t203)) t204 t216 t217 _ ?side1 ?side2 A28.out).mono ?_); (case side1 => repeat (first | exact (Kd.C_below HR0.out HB.out) | (with_reducible refine Kd.C_alloc ?_ _) | (with_reducible refine Kd.C_drewN ?_ _) | (with_reducible refine Kd.C_drew ?_))); (case side2 => exact HC0.out); rintro e w32 ⟨v218, rfl, ho0, hb⟩; refine ⟨_, rfl, ?_⟩; have n0_ := Aside0.mk (Kd.R_below (by (with_reducible repeat (first | apply Kd.R_alloc | apply Kd.R_drewN | apply Kd.R_drew)); exact HO_9.out) hb); have n1_ := Aside0.mk (Kd.R_lower ho0 (below_size (by repeat (first | (with_reducible first | exact HB.out | apply below_alloc | apply pw_below_drewN | apply below_drew1) | exact HB.out)))); have n2_ := Aside0.mk (below_step (by repeat (first | (with_reducible first | exact HB.out | apply below_alloc | apply pw_below_drewN | apply below_drew1) | exact HB.out)) hb); clear HO_9; clear HB; have HO_9 := n0_; have HO219 := n1_; have HB := n2_; clear n0_ n1_ n2_; (try clear hb); (try clear hb2); (try clear hk); (try clear hi); (try clear ho0); obtain ⟨Ao33, co33, eo33⟩ := Kd.R_slice HO_9.out; subst eo33) | ((with_reducible refine gate_callee (f := 13) rfl ?_); refine goesL_ (some 82) rfl rfl Try.func13 (by kernel_rfl) rfl #[.slice Ao33 x9_2.length co33, .int .i64 (wrap64 (1 + t203)), .int .i64 t204] rfl (by (try simp only [List.map_toArray, List.map_cons, List.map_nil]); first | done | rfl | (simp only [List.length_drop, List.length_take]; rfl)) ?_; (with_reducible refine (tone_Samples.calls _ _ x9_2 (wrap64 (1 + t203)) t204 t220 t221 _ ?side1 ?side2 A29.out).mono ?_); (case side1 => repeat (first | exact (Kd.R_reads' HO_9.out).2.2 | (with_reducible refine Kd.C_alloc ?_ _) | (with_reducible refine Kd.C_drewN ?_ _) | (with_reducible refine Kd.C_drew ?_))); (case side2 => exact (Kd.R_reads' HO_9.out).2.1); rintro e w34 ⟨v222, rfl, ho0, hb⟩; refine ⟨_, rfl, ?_⟩; have n0_ := Aside0.mk (Kd.R_below (by (with_reducible repeat (first | apply Kd.R_alloc | apply Kd.R_drewN | apply Kd.R_drew)); exact HO_9.out) hb); have n1_ := Aside0.mk (Kd.R_elder' (by (with_reducible repeat (first | apply Kd.R_alloc | apply Kd.R_drewN | apply Kd.R_drew)); exact HO219.out) (Kd.R_base ho0) hb); have n2_ := Aside0.mk (Kd.R_lower (Kd.R_new' ho0 (Kd.R_lt (by (with_reducible repeat (first | apply Kd.R_alloc | apply Kd.R_drewN | apply Kd.R_drew)); exact HO219.out))) (below_size (by repeat (first | (with_reducible first | exact HB.out | apply below_alloc | apply pw_below_drewN | apply below_drew1) | exact HB.out)))); have n3_ := Aside0.mk (below_step (by repeat (first | (with_reducible first | exact HB.out | apply below_alloc | apply pw_below_drewN | apply below_drew1) | exact HB.out)) hb); clear HO_9; clear HO219; clear HB; have HO_9 := n0_; have HO219 := n1_; have HO223 := n2_; have HB := n3_; clear n0_ n1_ n2_ n3_; (try clear hb); (try clear hb2); (try clear hk); (try clear hi); (try clear ho0)) | ((with_reducible refine gate_callee (f := 13) rfl ?_); refine goesL_ (some 90) rfl rfl Try.func13 (by kernel_rfl) rfl #[.slice A0 l0.length c0, .int .i64 (wrap64 (2 * (wrap64 (1 + t203)))), .int .i64 t204] rfl (by (try simp only [List.map_toArray, List.map_cons, List.map_nil]); first | done | rfl | (simp only [List.length_drop, List.length_take]; rfl)) ?_; (with_reducible refine (tone_Samples.calls _ _ l0 (wrap64 (2 * (wrap64 (1 + t203)))) t204 t224 t225 _ ?side1 ?side2 A30.out).mono ?_); (case side1 => repeat (first | exact (Kd.C_below HR0.out HB.out) | (with_reducible refine Kd.C_alloc ?_ _) | (with_reducible refine Kd.C_drewN ?_ _) | (with_reducible refine Kd.C_drew ?_))); (case side2 => exact HC0.out); rintro e w35 ⟨v226, rfl, ho0, hb⟩; refine ⟨_, rfl, ?_⟩; have n0_ := Aside0.mk (Kd.R_below (by (with_reducible repeat (first | apply Kd.R_alloc | apply Kd.R_drewN | apply Kd.R_drew)); exact HO_9.out) hb); have n1_ := Aside0.mk (Kd.R_elder' (by (with_reducible repeat (first | apply Kd.R_alloc | apply Kd.R_drewN | apply Kd.R_drew)); exact HO219.out) (Kd.R_base ho0) hb); have n2_ := Aside0.mk (Kd.R_elder' (by (with_reducible repeat (first | apply Kd.R_alloc | apply Kd.R_drewN | apply Kd.R_drew)); exact HO223.out) (Kd.R_base ho0) hb); have n3_ := Aside0.mk (Kd.R_lower (Kd.R_new' (Kd.R_new' ho0 (Kd.R_lt (by (with_reducible repeat (first | apply Kd.R_alloc | apply Kd.R_drewN | apply Kd.R_drew)); exact HO219.out))) (Kd.R_lt (by (with_reducible repeat (first | apply Kd.R_alloc | apply Kd.R_drewN | apply Kd.R_drew)); exact HO223.out))) (below_size (by repeat (first | (with_reducible first | exact HB.out | apply below_alloc | apply pw_below_drewN | apply below_drew1) | exact HB.out)))); have n4_ := Aside0.mk (below_step (by repeat (first | (with_reducible first | exact HB.out | apply below_alloc | apply pw_below_drewN | apply below_drew1) | exact HB.out)) hb); clear HO_9; clear HO219; clear HO223; clear HB; have HO_9 := n0_; have HO219 := n1_; have HO223 := n2_; have HO227 := n3_; have HB := n4_; clear n0_ n1_ n2_ n3_ n4_; (try clear hb); (try clear hb2); (try clear hk); (try clear hi); (try clear ho0)))
                (try simp only [Act.put, List.setIfInBounds_toArray, List.set_cons_zero, List.set_cons_succ])
                go_cut [117] (fun v117 wc => ∃ (kq : Nat) (x117_30 : Bool), v117 = .bool x117_30 ∧ Aside0 (pendulumlaw31_ToneHangs.j2 kq l0 (wrap64 (1 + t203)) t204 a3 t216 t224 x117_30 = some r) ∧ Aside0 (kq ≤ k2) ∧ Aside0 (Kd.R (Kd.int .i64) 3 wc w.heap.size (fun k_ => some k_ ≠ (v226 : Value).ownBlock) v218 t216) ∧ Aside0 (Kd.R (Kd.int .i64) 3 wc w.heap.size (fun k_ => some k_ ≠ (v218 : Value).ownBlock) v226 t224) ∧ Aside0 (Below w.heap.size w wc))
                case first =>
                  have H := HC31.out
                  clear HC31
                  by_cases c36 : t217 = 0
                  · rw [if_pos c36] at H
                    have c36b0 : (t217 == 0) = true := beq_iff_eq.mpr c36
                    have c36b1 : (t217 != 0) = false := bne_eq_false_iff_eq.mpr c36
                    clear c36
                    (first | rw [c36b0] | (simp only [i64_w, i32_w]; rw [c36b0]) | skip)
                    by_cases c37 : t221 = 0
                    · rw [if_pos c37] at H
                      have c37b0 : (t221 == 0) = true := beq_iff_eq.mpr c37
                      have c37b1 : (t221 != 0) = false := bne_eq_false_iff_eq.mpr c37
                      clear c37
                      by_cases c38 : t225 = 0
                      · rw [if_pos c38] at H
                        have c38b0 : (t225 == 0) = true := beq_iff_eq.mpr c38
                        have c38b1 : (t225 != 0) = false := bne_eq_false_iff_eq.mpr c38
                        clear c38
                        replace H := Option.bind_eq_some_iff.mp H
                        obtain ⟨t228, A390, H⟩ := H
                        replace H : (if t228 = true then (pendulumlaw31_ToneHangs.j2 k2 l0 (wrap64 (1 + t203)) t204 a3 t216 t224 ((t224.length : Int) != (wrap64 (Int.tdiv (wrap64 ((t216.length : Int) + 1)) 2)))) else (pendulumlaw31_ToneHangs.j2 k2 l0 (wrap64 (1 + t203)) t204 a3 t216 t224 true)) = some r := H
                        have A39 := Aside0.mk A390
                        clear A390
                        by_cases c40 : t228 = true
                        · subst c40
                          have H1 : (pendulumlaw31_ToneHangs.j2 k2 l0 (wrap64 (1 + t203)) t204 a3 t216 t224 ((t224.length : Int) != (wrap64 (Int.tdiv (wrap64 ((t216.length : Int) + 1)) 2)))) = some r := by rw [if_pos rfl] at H; exact H
                          clear H
                          have H := H1
                          clear H1
                          have H' := Aside0.mk H
                          clear H
                          obtain ⟨Ao41, co41, eo41⟩ := Kd.R_slice HO219.out
                          subst eo41
                          obtain ⟨Ao42, co42, eo42⟩ := Kd.R_slice HO223.out
                          subst eo42
                          go_wp2_with (first | (go_at_call 14; (with_reducible refine (tone_Same.calls k2 _ _ t216 _ _ t220 true _ ?side1 ?side2 ?side3 ?side4 A39.out).mono ?_); (case side1 => repeat (first | exact (Kd.R_reads' HO219.out).2.2 | (with_reducible refine Kd.C_alloc ?_ _) | (with_reducible refine Kd.C_drewN ?_ _) | (with_reducible refine Kd.C_drew ?_))); (case side2 => exact (Kd.R_reads' HO219.out).2.1); (case side3 => repeat (first | exact (Kd.R_reads' HO223.out).2.2 | (with_reducible refine Kd.C_alloc ?_ _) | (with_reducible refine Kd.C_drewN ?_ _) | (with_reducible refine Kd.C_drew ?_))); (case side4 => exact (Kd.R_reads' HO223.out).2.1); rintro e w' ⟨rfl, ⟨nd, rfl⟩⟩; obtain ⟨Ao43, co43, eo43⟩ := Kd.R_slice HO227.out; subst eo43))
                          go_meet
                          case rel => exact ⟨_, (((t224.length : Int) != (wrap64 (Int.tdiv (wrap64 ((t216.length : Int) + 1)) 2)))), (by first | rfl | (simp; done) | (simp [*]; done)), H', ⟨by have := HJ8.out; have := HK2.out; first | omega | exact Nat.le_refl _⟩, ⟨by (with_reducible repeat (first | apply Kd.R_alloc | apply Kd.R_drewN | apply Kd.R_drew)); exact Kd.R_mono HO219.out (fun _ hk => hk.2)⟩, ⟨by (with_reducible repeat (first | apply Kd.R_alloc | apply Kd.R_drewN | apply Kd.R_drew)); exact Kd.R_mono HO227.out (fun _ hk => hk.1.2)⟩, ⟨by repeat (first | (with_reducible first | exact HB.out | apply below_alloc | apply pw_below_drewN | apply below_drew1) | exact HB.out)⟩⟩
                        · replace c40 := Bool.eq_false_iff.mpr c40
                          subst c40
                          have H1 : (pendulumlaw31_ToneHangs.j2 k2 l0 (wrap64 (1 + t203)) t204 a3 t216 t224 true) = some r := by rw [if_neg (show ¬ (false = true) by decide)] at H; exact H
                          clear H
                          have H := H1
                          clear H1
                          have H' := Aside0.mk H
                          clear H
                          obtain ⟨Ao44, co44, eo44⟩ := Kd.R_slice HO219.out
                          subst eo44
                          obtain ⟨Ao45, co45, eo45⟩ := Kd.R_slice HO223.out
                          subst eo45
                          go_wp2_with (first | (go_at_call 14; (with_reducible refine (tone_Same.calls k2 _ _ t216 _ _ t220 false _ ?side1 ?side2 ?side3 ?side4 A39.out).mono ?_); (case side1 => repeat (first | exact (Kd.R_reads' HO219.out).2.2 | (with_reducible refine Kd.C_alloc ?_ _) | (with_reducible refine Kd.C_drewN ?_ _) | (with_reducible refine Kd.C_drew ?_))); (case side2 => exact (Kd.R_reads' HO219.out).2.1); (case side3 => repeat (first | exact (Kd.R_reads' HO223.out).2.2 | (with_reducible refine Kd.C_alloc ?_ _) | (with_reducible refine Kd.C_drewN ?_ _) | (with_reducible refine Kd.C_drew ?_))); (case side4 => exact (Kd.R_reads' HO223.out).2.1); rintro e w' ⟨rfl, ⟨nd, rfl⟩⟩))
                          go_meet
                          case rel => exact ⟨_, (true), (by first | rfl | (simp; done) | (simp [*]; done)), H', ⟨by have := HJ8.out; have := HK2.out; first | omega | exact Nat.le_refl _⟩, ⟨by (with_reducible repeat (first | apply Kd.R_alloc | apply Kd.R_drewN | apply Kd.R_drew)); exact Kd.R_mono HO219.out (fun _ hk => hk.2)⟩, ⟨by (with_reducible repeat (first | apply Kd.R_alloc | apply Kd.R_drewN | apply Kd.R_drew)); exact Kd.R_mono HO227.out (fun _ hk => hk.1.2)⟩, ⟨by repeat (first | (with_reducible first | exact HB.out | apply below_alloc | apply pw_below_drewN | apply below_drew1) | exact HB.out)⟩⟩
                      · rw [if_neg c38] at H
                        have c38b0 : (t225 == 0) = false := beq_eq_false_iff_ne.mpr c38
                        have c38b1 : (t225 != 0) = true := bne_iff_ne.mpr c38
                        have H' := Aside0.mk H
                        clear H
                        go_wp2
                        go_meet
                        case rel => exact ⟨_, (true), (by first | rfl | (simp; done) | (simp [*]; done)), H', ⟨by have := HJ8.out; have := HK2.out; first | omega | exact Nat.le_refl _⟩, ⟨by (with_reducible repeat (first | apply Kd.R_alloc | apply Kd.R_drewN | apply Kd.R_drew)); exact Kd.R_mono HO219.out (fun _ hk => hk.2)⟩, ⟨by (with_reducible repeat (first | apply Kd.R_alloc | apply Kd.R_drewN | apply Kd.R_drew)); exact Kd.R_mono HO227.out (fun _ hk => hk.1.2)⟩, ⟨by repeat (first | (with_reducible first | exact HB.out | apply below_alloc | apply pw_below_drewN | apply below_drew1) | exact HB.out)⟩⟩
                    · rw [if_neg c37] at H
                      have c37b0 : (t221 == 0) = false := beq_eq_false_iff_ne.mpr c37
                      have c37b1 : (t221 != 0) = true := bne_iff_ne.mpr c37
                      have H' := Aside0.mk H
                      clear H
                      go_wp2
                      go_meet
                      case rel => exact ⟨_, (true), (by first | rfl | (simp; done) | (simp [*]; done)), H', ⟨by have := HJ8.out; have := HK2.out; first | omega | exact Nat.le_refl _⟩, ⟨by (with_reducible repeat (first | apply Kd.R_alloc | apply Kd.R_drewN | apply Kd.R_drew)); exact Kd.R_mono HO219.out (fun _ hk => hk.2)⟩, ⟨by (with_reducible repeat (first | apply Kd.R_alloc | apply Kd.R_drewN | apply Kd.R_drew)); exact Kd.R_mono HO227.out (fun _ hk => hk.1.2)⟩, ⟨by repeat (first | (with_reducible first | exact HB.out | apply below_alloc | apply pw_below_drewN | apply below_drew1) | exact HB.out)⟩⟩
                  · rw [if_neg c36] at H
                    have c36b0 : (t217 == 0) = false := beq_eq_false_iff_ne.mpr c36
                    have c36b1 : (t217 != 0) = true := bne_iff_ne.mpr c36
                    (first | rw [c36b0] | (simp only [i64_w, i32_w]; rw [c36b0]) | skip)
                    have H' := Aside0.mk H
                    clear H
                    go_wp2
                    go_meet
                    case rel => exact ⟨_, (true), (by first | rfl | (simp; done) | (simp [*]; done)), H', ⟨by have := HJ8.out; have := HK2.out; first | omega | exact Nat.le_refl _⟩, ⟨by (with_reducible repeat (first | apply Kd.R_alloc | apply Kd.R_drewN | apply Kd.R_drew)); exact Kd.R_mono HO219.out (fun _ hk => hk.2)⟩, ⟨by (with_reducible repeat (first | apply Kd.R_alloc | apply Kd.R_drewN | apply Kd.R_drew)); exact Kd.R_mono HO227.out (fun _ hk => hk.1.2)⟩, ⟨by repeat (first | (with_reducible first | exact HB.out | apply below_alloc | apply pw_below_drewN | apply below_drew1) | exact HB.out)⟩⟩
                case rest =>
                  clear HC31
                  try clear c1
                  try clear c2
                  try clear p2
                  try clear q2
                  try clear hx2
                  try clear c3
                  try clear c4
                  try clear c6
                  try clear p6
                  try clear c10
                  try clear c11
                  try clear c13
                  try clear c13b0
                  try clear c13b1
                  try clear c15
                  try clear c15b0
                  try clear c15b1
                  try clear c16
                  try clear c16b0
                  try clear c16b1
                  try clear c19
                  try clear c20
                  try clear c20b0
                  try clear p20
                  try clear q20
                  try clear hx20
                  try clear c21
                  try clear c21b0
                  try clear p21
                  try clear q21
                  try clear hx21
                  try clear c22
                  try clear c22b0
                  try clear c22b1
                  try clear c23
                  try clear c25
                  try clear c25b0
                  try clear c25b1
                  try clear c26
                  try clear c36
                  try clear c36b0
                  try clear c36b1
                  try clear c37
                  try clear c37b0
                  try clear c37b1
                  try clear c38
                  try clear c38b0
                  try clear c38b1
                  try clear c40
                  try clear hx206_0
                  try clear hx206_1
                  try clear hx206_2
                  try clear hx206_3
                  try clear hx206_4
                  try clear hx206_5
                  try clear hx207_0
                  try clear hx207_1
                  try clear hx207_2
                  try clear hx207_3
                  try clear hx207_4
                  try clear hx207_5
                  try clear hx211_0
                  try clear hx211_1
                  try clear hx211_2
                  try clear hx211_3
                  try clear hx211_4
                  try clear hx211_5
                  try clear hx212_0
                  try clear hx212_1
                  try clear hx212_2
                  try clear hx212_3
                  try clear hx212_4
                  try clear hx212_5
                  try clear p2
                  try clear p206
                  try clear p207
                  try clear p211
                  try clear p212
                  try clear p6
                  try clear q206
                  try clear q207
                  try clear q211
                  try clear q212
                  obtain ⟨kq, x117_30, rfl, HA, HJ30, HO_11, HO_15, HB⟩ := hcut
                  cases kq with
                  | zero => exact absurd HA.out (by simp [pendulumlaw31_ToneHangs.j2])
                  | succ kj30 =>
                    have H := HA.out
                    clear HA
                    simp only [pendulumlaw31_ToneHangs.j2] at H
                    by_cases c46 : x117_30 = true
                    · subst c46
                      have H1 : (some false) = some r := by rw [if_pos rfl] at H; exact H
                      clear H
                      have H := H1
                      clear H1
                      obtain rfl := Option.some.inj H
                      go_wp2
                      go_ret
                      exact ⟨by first | rfl | (simp [errW_none, errW_some] <;> rfl) | (simp [*, errW_none, errW_some] <;> rfl), by repeat (first | (with_reducible first | exact HB.out | apply below_alloc | apply pw_below_drewN | apply below_drew1) | exact HB.out)⟩
                    · replace c46 := Bool.eq_false_iff.mpr c46
                      subst c46
                      have H1 : ((pendulumkit_Near.f a3 3000).bind fun t229 => ((pendulumref04_Cut.f kj30 l0 t229).bind fun bt230 => ((pendulumkit_Near.f a3 3000).bind fun t236 => ((tone_Samples.f bt230.1 (wrap64 (1 + t203)) (mn t204 t236)).bind fun bt237 => (if bt237.2 = 0 then (if (bt237.1.length : Int) > (t216.length : Int) then (pendulumlaw31_ToneHangs.j3 kj30 l0 (wrap64 (1 + t203)) t216 t224 true) else (if 0 ≤ (bt237.1.length : Int) then (if (bt237.1.length : Int) ≤ (t216.length : Int) then ((tone_Same.f kj30 bt237.1 (t216.take ((bt237.1.length : Int) : Int).toNat)).bind fun t245 => (pendulumlaw31_ToneHangs.j3 kj30 l0 (wrap64 (1 + t203)) t216 t224 (!t245))) else (none)) else (none))) else (pendulumlaw31_ToneHangs.j3 kj30 l0 (wrap64 (1 + t203)) t216 t224 true)))))) = some r := by rw [if_neg (show ¬ (false = true) by decide)] at H; exact H
                      clear H
                      have H := H1
                      clear H1
                      replace H := Option.bind_eq_some_iff.mp H
                      obtain ⟨t229, A470, H⟩ := H
                      replace H : ((pendulumref04_Cut.f kj30 l0 t229).bind fun bt230 => ((pendulumkit_Near.f a3 3000).bind fun t236 => ((tone_Samples.f bt230.1 (wrap64 (1 + t203)) (mn t204 t236)).bind fun bt237 => (if bt237.2 = 0 then (if (bt237.1.length : Int) > (t216.length : Int) then (pendulumlaw31_ToneHangs.j3 kj30 l0 (wrap64 (1 + t203)) t216 t224 true) else (if 0 ≤ (bt237.1.length : Int) then (if (bt237.1.length : Int) ≤ (t216.length : Int) then ((tone_Same.f kj30 bt237.1 (t216.take ((bt237.1.length : Int) : Int).toNat)).bind fun t245 => (pendulumlaw31_ToneHangs.j3 kj30 l0 (wrap64 (1 + t203)) t216 t224 (!t245))) else (none)) else (none))) else (pendulumlaw31_ToneHangs.j3 kj30 l0 (wrap64 (1 + t203)) t216 t224 true))))) = some r := H
                      have A47 := Aside0.mk A470
                      clear A470
                      replace H := Option.bind_eq_some_iff.mp H
                      obtain ⟨⟨t230, t231⟩, A480, H⟩ := H
                      replace H : ((pendulumkit_Near.f a3 3000).bind fun t236 => ((tone_Samples.f t230 (wrap64 (1 + t203)) (mn t204 t236)).bind fun bt237 => (if bt237.2 = 0 then (if (bt237.1.length : Int) > (t216.length : Int) then (pendulumlaw31_ToneHangs.j3 kj30 l0 (wrap64 (1 + t203)) t216 t224 true) else (if 0 ≤ (bt237.1.length : Int) then (if (bt237.1.length : Int) ≤ (t216.length : Int) then ((tone_Same.f kj30 bt237.1 (t216.take ((bt237.1.length : Int) : Int).toNat)).bind fun t245 => (pendulumlaw31_ToneHangs.j3 kj30 l0 (wrap64 (1 + t203)) t216 t224 (!t245))) else (none)) else (none))) else (pendulumlaw31_ToneHangs.j3 kj30 l0 (wrap64 (1 + t203)) t216 t224 true)))) = some r := H
                      have A48 := Aside0.mk A480
                      clear A480
                      replace H := Option.bind_eq_some_iff.mp H
                      obtain ⟨t236, A490, H⟩ := H
                      replace H : ((tone_Samples.f t230 (wrap64 (1 + t203)) (mn t204 t236)).bind fun bt237 => (if bt237.2 = 0 then (if (bt237.1.length : Int) > (t216.length : Int) then (pendulumlaw31_ToneHangs.j3 kj30 l0 (wrap64 (1 + t203)) t216 t224 true) else (if 0 ≤ (bt237.1.length : Int) then (if (bt237.1.length : Int) ≤ (t216.length : Int) then ((tone_Same.f kj30 bt237.1 (t216.take ((bt237.1.length : Int) : Int).toNat)).bind fun t245 => (pendulumlaw31_ToneHangs.j3 kj30 l0 (wrap64 (1 + t203)) t216 t224 (!t245))) else (none)) else (none))) else (pendulumlaw31_ToneHangs.j3 kj30 l0 (wrap64 (1 + t203)) t216 t224 true))) = some r := H
                      have A49 := Aside0.mk A490
                      clear A490
                      obtain ⟨ji50, hji50⟩ : ∃ j_ : Int, (mn t204 t236) = j_ := ⟨_, rfl⟩
                      replace H : ((tone_Samples.f t230 (wrap64 (1 + t203)) (ji50)).bind fun bt237 => (if bt237.2 = 0 then (if (bt237.1.length : Int) > (t216.length : Int) then (pendulumlaw31_ToneHangs.j3 kj30 l0 (wrap64 (1 + t203)) t216 t224 true) else (if 0 ≤ (bt237.1.length : Int) then (if (bt237.1.length : Int) ≤ (t216.length : Int) then ((tone_Same.f kj30 bt237.1 (t216.take ((bt237.1.length : Int) : Int).toNat)).bind fun t245 => (pendulumlaw31_ToneHangs.j3 kj30 l0 (wrap64 (1 + t203)) t216 t224 (!t245))) else (none)) else (none))) else (pendulumlaw31_ToneHangs.j3 kj30 l0 (wrap64 (1 + t203)) t216 t224 true))) = some r := by first | (rw [hji50] at H; exact H) | (simp only [hji50] at H ⊢; exact H)
                      (try rw [hji50] at A47)
                      (try rw [hji50] at A48)
                      (try rw [hji50] at A49)
                      have hji50_ : (if t236 < t204 then t236 else t204) = ji50 := hji50
                      replace H := Option.bind_eq_some_iff.mp H
                      obtain ⟨⟨t237, t238⟩, A510, H⟩ := H
                      replace H : (if t238 = 0 then (if (t237.length : Int) > (t216.length : Int) then (pendulumlaw31_ToneHangs.j3 kj30 l0 (wrap64 (1 + t203)) t216 t224 true) else (if 0 ≤ (t237.length : Int) then (if (t237.length : Int) ≤ (t216.length : Int) then ((tone_Same.f kj30 t237 (t216.take ((t237.length : Int) : Int).toNat)).bind fun t245 => (pendulumlaw31_ToneHangs.j3 kj30 l0 (wrap64 (1 + t203)) t216 t224 (!t245))) else (none)) else (none))) else (pendulumlaw31_ToneHangs.j3 kj30 l0 (wrap64 (1 + t203)) t216 t224 true)) = some r := H
                      have A51 := Aside0.mk A510
                      clear A510
                      have HC52 := Aside0.mk H
                      clear H
                      go_upto_region 19 with (first | ((with_reducible refine gate_callee (f := 11) rfl ?_); refine goesL_ (some 121) rfl rfl Try.func11 (by kernel_rfl) rfl #[.int .i64 a3, .int .i64 3000] rfl (by (try simp only [List.map_toArray, List.map_cons, List.map_nil]); first | done | rfl | (simp only [List.length_drop, List.length_take]; rfl)) ?_; (with_reducible refine (pendulumkit_Near.calls a3 3000 t229 _ A47.out).mono ?_); rintro e w53 ⟨rfl, hb⟩; refine ⟨_, rfl, ?_⟩; have n0_ := Aside0.mk (Kd.R_below (by (with_reducible repeat (first | apply Kd.R_alloc | apply Kd.R_drewN | apply Kd.R_drew)); exact HO_11.out) hb); have n1_ := Aside0.mk (Kd.R_below (by (with_reducible repeat (first | apply Kd.R_alloc | apply Kd.R_drewN | apply Kd.R_drew)); exact HO_15.out) hb); have n2_ := Aside0.mk (below_step (by repeat (first | (with_reducible first | exact HB.out | apply below_alloc | apply pw_below_drewN | apply below_drew1) | exact HB.out)) hb); clear HO_11; clear HO_15; clear HB; have HO_11 := n0_; have HO_15 := n1_; have HB := n2_; clear n0_ n1_ n2_; (try clear hb); (try clear hb2); (try clear hk); (try clear hi)) | ((with_reducible refine gate_callee (f := 15) rfl ?_); refine goesL_ (some 122) rfl rfl Try.func15 (by kernel_rfl) rfl #[.slice A0 l0.length c0, .int .i64 t229] rfl (by (try simp only [List.map_toArray, List.map_cons, List.map_nil]); first | done | rfl | (simp only [List.length_drop, List.length_take]; rfl)) ?_; (with_reducible refine (pendulumref04_Cut.calls kj30 _ _ l0 t229 t230 t231 _ ?side1 ?side2 A48.out).mono ?_); (case side1 => repeat (first | exact (Kd.C_below HR0.out HB.out) | (with_reducible refine Kd.C_alloc ?_ _) | (with_reducible refine Kd.C_drewN ?_ _) | (with_reducible refine Kd.C_drew ?_))); (case side2 => exact HC0.out); rintro e w54 ⟨v232, v234, rfl, ho0, ho1, hb⟩; refine ⟨_, rfl, ?_⟩; have n0_ := Aside0.mk (Kd.R_below (by (with_reducible repeat (first | apply Kd.R_alloc | apply Kd.R_drewN | apply Kd.R_drew)); exact HO_11.out) hb); have n1_ := Aside0.mk (Kd.R_below (by (with_reducible repeat (first | apply Kd.R_alloc | apply Kd.R_drewN | apply Kd.R_drew)); exact HO_15.out) hb); have n2_ := Aside0.mk (Kd.R_lower ho0 (below_size (by repeat (first | (with_reducible first | exact HB.out | apply below_alloc | apply pw_below_drewN | apply below_drew1) | exact HB.out)))); have n3_ := Aside0.mk (Kd.R_lower ho1 (below_size (by repeat (first | (with_reducible first | exact HB.out | apply below_alloc | apply pw_below_drewN | apply below_drew1) | exact HB.out)))); have n4_ := Aside0.mk (below_step (by repeat (first | (with_reducible first | exact HB.out | apply below_alloc | apply pw_below_drewN | apply below_drew1) | exact HB.out)) hb); clear HO_11; clear HO_15; clear HB; have HO_11 := n0_; have HO_15 := n1_; have HO233 := n2_; have HO235 := n3_; have HB := n4_; clear n0_ n1_ n2_ n3_ n4_; (try clear hb); (try clear hb2); (try clear hk); (try clear hi); (try clear ho0); (try clear ho1)) | ((with_reducible refine gate_callee (f := 11) rfl ?_); refine goesL_ (some 130) rfl rfl Try.func11 (by kernel_rfl) rfl #[.int .i64 a3, .int .i64 3000] rfl (by (try simp only [List.map_toArray, List.map_cons, List.map_nil]); first | done | rfl | (simp only [List.length_drop, List.length_take]; rfl)) ?_; (with_reducible refine (pendulumkit_Near.calls a3 3000 t236 _ A49.out).mono ?_); rintro e w55 ⟨rfl, hb⟩; refine ⟨_, rfl, ?_⟩; have n0_ := Aside0.mk (Kd.R_below (by (with_reducible repeat (first | apply Kd.R_alloc | apply Kd.R_drewN | apply Kd.R_drew)); exact HO_11.out) hb); have n1_ := Aside0.mk (Kd.R_below (by (with_reducible repeat (first | apply Kd.R_alloc | apply Kd.R_drewN | apply Kd.R_drew)); exact HO_15.out) hb); have n2_ := Aside0.mk (Kd.R_below (by (with_reducible repeat (first | apply Kd.R_alloc | apply Kd.R_drewN | apply Kd.R_drew)); exact HO233.out) hb); have n3_ := Aside0.mk (Kd.R_below (by (with_reducible repeat (first | apply Kd.R_alloc | apply Kd.R_drewN | apply Kd.R_drew)); exact HO235.out) hb); have n4_ := Aside0.mk (below_step (by repeat (first | (with_reducible first | exact HB.out | apply below_alloc | apply pw_below_drewN | apply below_drew1) | exact HB.out)) hb); clear HO_11; clear HO_15; clear HO233; clear HO235; clear HB; have HO_11 := n0_; have HO_15 := n1_; have HO233 := n2_; have HO235 := n3_; have HB := n4_; clear n0_ n1_ n2_ n3_ n4_; (try clear hb); (try clear hb2); (try clear hk); (try clear hi); obtain ⟨Ao56, co56, eo56⟩ := Kd.R_slice HO233.out; subst eo56) | ((with_reducible refine gate_callee (f := 13) rfl ?_); refine goesL_ (some 132) rfl rfl Try.func13 (by kernel_rfl) rfl #[.slice Ao56 t230.length co56, .int .i64 (wrap64 (1 + t203)), .int .i64 ji50] rfl (by (try simp only [List.map_toArray, List.map_cons, List.map_nil]); first | done | (simp only [hji50]; rfl) | rfl | (simp only [List.length_drop, List.length_take]; rfl)) ?_; (with_reducible refine (tone_Samples.calls _ _ t230 (wrap64 (1 + t203)) ji50 t237 t238 _ ?side1 ?side2 A51.out).mono ?_); (case side1 => repeat (first | exact (Kd.R_reads' HO233.out).2.2 | (with_reducible refine Kd.C_alloc ?_ _) | (with_reducible refine Kd.C_drewN ?_ _) | (with_reducible refine Kd.C_drew ?_))); (case side2 => exact (Kd.R_reads' HO233.out).2.1); rintro e w57 ⟨v239, rfl, ho0, hb⟩; refine ⟨_, rfl, ?_⟩; have n0_ := Aside0.mk (Kd.R_elder' (by (with_reducible repeat (first | apply Kd.R_alloc | apply Kd.R_drewN | apply Kd.R_drew)); exact HO_11.out) (Kd.R_base ho0) hb); have n1_ := Aside0.mk (Kd.R_elder' (by (with_reducible repeat (first | apply Kd.R_alloc | apply Kd.R_drewN | apply Kd.R_drew)); exact HO_15.out) (Kd.R_base ho0) hb); have n2_ := Aside0.mk (Kd.R_below (by (with_reducible repeat (first | apply Kd.R_alloc | apply Kd.R_drewN | apply Kd.R_drew)); exact HO233.out) hb); have n3_ := Aside0.mk (Kd.R_below (by (with_reducible repeat (first | apply Kd.R_alloc | apply Kd.R_drewN | apply Kd.R_drew)); exact HO235.out) hb); have n4_ := Aside0.mk (Kd.R_lower (Kd.R_new' (Kd.R_new' ho0 (Kd.R_lt (by (with_reducible repeat (first | apply Kd.R_alloc | apply Kd.R_drewN | apply Kd.R_drew)); exact HO_11.out))) (Kd.R_lt (by (with_reducible repeat (first | apply Kd.R_alloc | apply Kd.R_drewN | apply Kd.R_drew)); exact HO_15.out))) (below_size (by repeat (first | (with_reducible first | exact HB.out | apply below_alloc | apply pw_below_drewN | apply below_drew1) | exact HB.out)))); have n5_ := Aside0.mk (below_step (by repeat (first | (with_reducible first | exact HB.out | apply below_alloc | apply pw_below_drewN | apply below_drew1) | exact HB.out)) hb); clear HO_11; clear HO_15; clear HO233; clear HO235; clear HB; have HO_11 := n0_; have HO_15 := n1_; have HO233 := n2_; have HO235 := n3_; have HO240 := n4_; have HB := n5_; clear n0_ n1_ n2_ n3_ n4_ n5_; (try clear hb); (try clear hb2); (try clear hk); (try clear hi); (try clear ho0)))
                      (try simp only [Act.put, List.setIfInBounds_toArray, List.set_cons_zero, List.set_cons_succ])
                      go_cut [152] (fun v152 wc => ∃ (kq : Nat) (x152_51 : Bool), v152 = .bool x152_51 ∧ Aside0 (pendulumlaw31_ToneHangs.j3 kq l0 (wrap64 (1 + t203)) t216 t224 x152_51 = some r) ∧ Aside0 (kq ≤ kj30) ∧ Aside0 (Kd.R (Kd.int .i64) 3 wc w.heap.size (fun k_ => some k_ ≠ (v226 : Value).ownBlock) v218 t216) ∧ Aside0 (Kd.R (Kd.int .i64) 3 wc w.heap.size (fun k_ => some k_ ≠ (v218 : Value).ownBlock) v226 t224) ∧ Aside0 (Below w.heap.size w wc))
                      case first =>
                        have H := HC52.out
                        clear HC52
                        by_cases c58 : t238 = 0
                        · rw [if_pos c58] at H
                          have c58b0 : (t238 == 0) = true := beq_iff_eq.mpr c58
                          have c58b1 : (t238 != 0) = false := bne_eq_false_iff_eq.mpr c58
                          clear c58
                          (first | rw [c58b0] | (simp only [i64_w, i32_w]; rw [c58b0]) | skip)
                          by_cases c59 : (t237.length : Int) > (t216.length : Int)
                          · rw [if_pos c59] at H
                            have c59b0 : decide ((t216.length : Int) < (t237.length : Int)) = true := decide_eq_true c59
                            have c59b1 : decide (t216.length < t237.length) = true := decide_eq_true (Int.ofNat_lt.mp c59)
                            clear c59
                            have H' := Aside0.mk H
                            clear H
                            obtain ⟨Ao60, co60, eo60⟩ := Kd.R_slice HO240.out
                            subst eo60
                            obtain ⟨Ao61, co61, eo61⟩ := Kd.R_slice HO_11.out
                            subst eo61
                            go_wp2
                            go_meet
                            case rel => exact ⟨_, (true), (by first | rfl | (simp; done) | (simp [*]; done)), H', ⟨by have := HJ8.out; have := HK2.out; have := HJ30.out; first | omega | exact Nat.le_refl _⟩, ⟨by (with_reducible repeat (first | apply Kd.R_alloc | apply Kd.R_drewN | apply Kd.R_drew)); exact Kd.R_mono HO_11.out (fun _ hk => hk.1)⟩, ⟨by (with_reducible repeat (first | apply Kd.R_alloc | apply Kd.R_drewN | apply Kd.R_drew)); exact Kd.R_mono HO_15.out (fun _ hk => hk.1)⟩, ⟨by repeat (first | (with_reducible first | exact HB.out | apply below_alloc | apply pw_below_drewN | apply below_drew1) | exact HB.out)⟩⟩
                          · rw [if_neg c59] at H
                            have c59b0 : decide ((t216.length : Int) < (t237.length : Int)) = false := decide_eq_false c59
                            have c59b1 : decide (t216.length < t237.length) = false := decide_eq_false (fun h => c59 (Int.ofNat_lt.mpr h))
                            clear c59
                            by_cases c62 : 0 ≤ (t237.length : Int)
                            · rw [if_pos c62] at H
                              have c62b0 := eq_true c62
                              have c62b1 : decide (0 ≤ (t237.length : Int)) = true := decide_eq_true c62
                              clear c62
                              by_cases c63 : (t237.length : Int) ≤ (t216.length : Int)
                              · rw [if_pos c63] at H
                                have c63b0 := eq_true c63
                                have c63b1 : decide ((t237.length : Int) ≤ (t216.length : Int)) = true := decide_eq_true c63
                                clear c63
                                obtain ⟨y241, hy241⟩ : ∃ y_ : List Int, y_ = (t216.take ((t237.length : Int) : Int).toNat) := ⟨_, rfl⟩
                                replace H : ((tone_Same.f kj30 t237 y241).bind fun t245 => (pendulumlaw31_ToneHangs.j3 kj30 l0 (wrap64 (1 + t203)) t216 t224 (!t245))) = some r := by first | (rw [hy241]; with_reducible exact H) | (have H2_ := (Option.bind_some _ _).symm.trans H; rw [hy241]; with_reducible exact H2_) | (have H2_ := (Option.bind_some _ _).symm.trans H; with_reducible exact H2_) | with_reducible exact H | (rw [hy241]; exact H) | exact H
                                have Ny241 := Aside0.mk hy241
                                clear hy241
                                replace H := Option.bind_eq_some_iff.mp H
                                obtain ⟨t245, A640, H⟩ := H
                                replace H : (pendulumlaw31_ToneHangs.j3 kj30 l0 (wrap64 (1 + t203)) t216 t224 (!t245)) = some r := H
                                have A64 := Aside0.mk A640
                                clear A640
                                have H' := Aside0.mk H
                                clear H
                                obtain ⟨Ao65, co65, eo65⟩ := Kd.R_slice HO240.out
                                subst eo65
                                obtain ⟨Ao66, co66, eo66⟩ := Kd.R_slice HO_11.out
                                subst eo66
                                have q67 : ((t237.length : Int) : Int) ≤ ((t216.length : Int) : Int) := of_decide_eq_true (by first | (with_reducible assumption) | assumption)
                                obtain ⟨i067, hi067, _, hsz67, _⟩ := info_parts info3
                                have hroom67 : t216.length ≤ co66 := (Kd.R_reads' HO_11.out).2.1
                                have hC67 : Kd.C (Kd.int .i64) _ Ao66 t216.length t216 := (Kd.R_reads' HO_11.out).2.2
                                have hcut67 := cut_to (P := Try.prog) 29 3 .i64 Try.underlying29 hi067 Ao66 t216.length co66 (t237.length : Int) (of_decide_eq_true (by first | (with_reducible assumption) | assumption)) q67 hroom67
                                have hr67 := Kd.C_take (m := ((t237.length : Int) : Int).toNat) hC67 (by omega)
                                have hy67 : y241.length = ((t237.length : Int) : Int).toNat := (by rw [Ny241.out, List.length_take]; omega)
                                rw [← Ny241.out] at hr67
                                rw [← hy67] at hcut67
                                have HR244 := Aside0.mk hr67
                                have HC244 := Aside0.mk (show y241.length ≤ co66 from by omega)
                                clear hr67 hC67 hroom67 hi067 hsz67
                                have KY67 := Aside0.mk hy67
                                clear hy67
                                have KL67 := Aside0.mk (show ((t237.length : Int) : Int).toNat ≤ t216.length from by omega)
                                replace q67 := eq_true q67
                                go_wp2_with (first | (go_at_call 14; (with_reducible refine (tone_Same.calls kj30 _ _ t237 _ _ y241 t245 _ ?side1 ?side2 ?side3 ?side4 A64.out).mono ?_); (case side1 => repeat (first | exact (Kd.R_reads' HO240.out).2.2 | (with_reducible refine Kd.C_alloc ?_ _) | (with_reducible refine Kd.C_drewN ?_ _) | (with_reducible refine Kd.C_drew ?_))); (case side2 => exact (Kd.R_reads' HO240.out).2.1); (case side3 => repeat (first | exact (by repeat (first | (with_reducible exact HR244.out) | (with_reducible refine Kd.C_alloc ?_ _) | (with_reducible refine Kd.C_drewN ?_ _) | (with_reducible refine Kd.C_drew ?_) | exact HR244.out)) | (with_reducible refine Kd.C_alloc ?_ _) | (with_reducible refine Kd.C_drewN ?_ _) | (with_reducible refine Kd.C_drew ?_))); (case side4 => exact HC244.out); rintro e w' ⟨rfl, ⟨nd, rfl⟩⟩))
                                go_meet
                                case rel => exact ⟨_, (!t245), (by first | rfl | (simp; done) | (simp [*]; done)), H', ⟨by have := HJ8.out; have := HK2.out; have := HJ30.out; first | omega | exact Nat.le_refl _⟩, ⟨by (with_reducible repeat (first | apply Kd.R_alloc | apply Kd.R_drewN | apply Kd.R_drew)); exact Kd.R_mono HO_11.out (fun _ hk => hk.1)⟩, ⟨by (with_reducible repeat (first | apply Kd.R_alloc | apply Kd.R_drewN | apply Kd.R_drew)); exact Kd.R_mono HO_15.out (fun _ hk => hk.1)⟩, ⟨by repeat (first | (with_reducible first | exact HB.out | apply below_alloc | apply pw_below_drewN | apply below_drew1) | exact HB.out)⟩⟩
                              · rw [if_neg c63] at H
                                exact absurd H (by simp)
                            · rw [if_neg c62] at H
                              exact absurd H (by simp)
                        · rw [if_neg c58] at H
                          have c58b0 : (t238 == 0) = false := beq_eq_false_iff_ne.mpr c58
                          have c58b1 : (t238 != 0) = true := bne_iff_ne.mpr c58
                          (first | rw [c58b0] | (simp only [i64_w, i32_w]; rw [c58b0]) | skip)
                          have H' := Aside0.mk H
                          clear H
                          go_wp2
                          go_meet
                          case rel => exact ⟨_, (true), (by first | rfl | (simp; done) | (simp [*]; done)), H', ⟨by have := HJ8.out; have := HK2.out; have := HJ30.out; first | omega | exact Nat.le_refl _⟩, ⟨by (with_reducible repeat (first | apply Kd.R_alloc | apply Kd.R_drewN | apply Kd.R_drew)); exact Kd.R_mono HO_11.out (fun _ hk => hk.1)⟩, ⟨by (with_reducible repeat (first | apply Kd.R_alloc | apply Kd.R_drewN | apply Kd.R_drew)); exact Kd.R_mono HO_15.out (fun _ hk => hk.1)⟩, ⟨by repeat (first | (with_reducible first | exact HB.out | apply below_alloc | apply pw_below_drewN | apply below_drew1) | exact HB.out)⟩⟩
                      case rest =>
                        clear HC52
                        try clear c1
                        try clear c2
                        try clear p2
                        try clear q2
                        try clear hx2
                        try clear c3
                        try clear c4
                        try clear c5
                        try clear c6
                        try clear p6
                        try clear q6
                        try clear c10
                        try clear c11
                        try clear c13
                        try clear c13b0
                        try clear c13b1
                        try clear c15
                        try clear c15b0
                        try clear c15b1
                        try clear c16
                        try clear c16b0
                        try clear c16b1
                        try clear c19
                        try clear c20
                        try clear c20b0
                        try clear p20
                        try clear q20
                        try clear hx20
                        try clear c21
                        try clear c21b0
                        try clear p21
                        try clear q21
                        try clear hx21
                        try clear c22
                        try clear c22b0
                        try clear c22b1
                        try clear c23
                        try clear c25
                        try clear c25b0
                        try clear c25b1
                        try clear c26
                        try clear c36
                        try clear c36b0
                        try clear c36b1
                        try clear c37
                        try clear c37b0
                        try clear c37b1
                        try clear c38
                        try clear c38b0
                        try clear c38b1
                        try clear c40
                        try clear c46
                        try clear c58
                        try clear c58b0
                        try clear c58b1
                        try clear c59
                        try clear c59b0
                        try clear c59b1
                        try clear c62
                        try clear c62b0
                        try clear c62b1
                        try clear c63
                        try clear c63b0
                        try clear c63b1
                        try clear p64
                        try clear q67
                        try clear hx206_0
                        try clear hx206_1
                        try clear hx206_2
                        try clear hx206_3
                        try clear hx206_4
                        try clear hx206_5
                        try clear hx207_0
                        try clear hx207_1
                        try clear hx207_2
                        try clear hx207_3
                        try clear hx207_4
                        try clear hx207_5
                        try clear hx211_0
                        try clear hx211_1
                        try clear hx211_2
                        try clear hx211_3
                        try clear hx211_4
                        try clear hx211_5
                        try clear hx212_0
                        try clear hx212_1
                        try clear hx212_2
                        try clear hx212_3
                        try clear hx212_4
                        try clear hx212_5
                        try clear p2
                        try clear p20
                        try clear p206
                        try clear p207
                        try clear p21
                        try clear p211
                        try clear p212
                        try clear p6
                        try clear q2
                        try clear q20
                        try clear q206
                        try clear q207
                        try clear q21
                        try clear q211
                        try clear q212
                        try clear q67
                        obtain ⟨kq, x152_51, rfl, HA, HJ51, HO_11, HO_15, HB⟩ := hcut
                        cases kq with
                        | zero => exact absurd HA.out (by simp [pendulumlaw31_ToneHangs.j3])
                        | succ kj51 =>
                          have H := HA.out
                          clear HA
                          simp only [pendulumlaw31_ToneHangs.j3] at H
                          by_cases c68 : x152_51 = true
                          · subst c68
                            have H1 : (some false) = some r := by rw [if_pos rfl] at H; exact H
                            clear H
                            have H := H1
                            clear H1
                            obtain rfl := Option.some.inj H
                            go_wp2
                            go_ret
                            exact ⟨by first | rfl | (simp [errW_none, errW_some] <;> rfl) | (simp only [← hji50]; first | rfl | (simp [errW_none, errW_some] <;> rfl)) | (simp [*, errW_none, errW_some] <;> rfl), by repeat (first | (with_reducible first | exact HB.out | apply below_alloc | apply pw_below_drewN | apply below_drew1) | exact HB.out)⟩
                          · replace c68 := Bool.eq_false_iff.mpr c68
                            subst c68
                            have H1 : (pendulumlaw31_ToneHangs.l1 kj51 l0 (wrap64 (1 + t203)) t216 t224 0) = some r := by rw [if_neg (show ¬ (false = true) by decide)] at H; exact H
                            clear H
                            have H := H1
                            clear H1
                            have H' := Aside0.mk H
                            clear H
                            go_wp2
                            go_loopg [20] kj51 (fun kq v20 w' => ∃ (x20_5 : Int), v20 = .int .i64 x20_5 ∧ Aside0 (pendulumlaw31_ToneHangs.l1 kq l0 (wrap64 (1 + t203)) t216 t224 x20_5 = some r) ∧ Aside0 (kq ≤ kj51) ∧ Aside0 (Kd.R (Kd.int .i64) 3 w' w.heap.size (fun k_ => some k_ ≠ (v226 : Value).ownBlock) v218 t216) ∧ Aside0 (Kd.R (Kd.int .i64) 3 w' w.heap.size (fun k_ => some k_ ≠ (v218 : Value).ownBlock) v226 t224) ∧ Aside0 (Below w.heap.size w w'))
                            case atStart => exact ⟨(0), (by first | rfl | (simp; done) | (simp [*]; done)), H', ⟨Nat.le_refl _⟩, ⟨by (with_reducible repeat (first | apply Kd.R_alloc | apply Kd.R_drewN | apply Kd.R_drew)); exact HO_11.out⟩, ⟨by (with_reducible repeat (first | apply Kd.R_alloc | apply Kd.R_drewN | apply Kd.R_drew)); exact HO_15.out⟩, ⟨by repeat (first | (with_reducible first | exact HB.out | apply below_alloc | apply pw_below_drewN | apply below_drew1) | exact HB.out)⟩⟩
                            case round =>
                              clear H'
                              try clear c1
                              try clear c2
                              try clear p2
                              try clear q2
                              try clear hx2
                              try clear c3
                              try clear c4
                              try clear c5
                              try clear c6
                              try clear p6
                              try clear q6
                              try clear c10
                              try clear c11
                              try clear c13
                              try clear c13b0
                              try clear c13b1
                              try clear c15
                              try clear c15b0
                              try clear c15b1
                              try clear c16
                              try clear c16b0
                              try clear c16b1
                              try clear c19
                              try clear c20
                              try clear c20b0
                              try clear p20
                              try clear q20
                              try clear hx20
                              try clear c21
                              try clear c21b0
                              try clear p21
                              try clear q21
                              try clear hx21
                              try clear c22
                              try clear c22b0
                              try clear c22b1
                              try clear c23
                              try clear c25
                              try clear c25b0
                              try clear c25b1
                              try clear c26
                              try clear c36
                              try clear c36b0
                              try clear c36b1
                              try clear c37
                              try clear c37b0
                              try clear c37b1
                              try clear c38
                              try clear c38b0
                              try clear c38b1
                              try clear c40
                              try clear c46
                              try clear c58
                              try clear c58b0
                              try clear c58b1
                              try clear c59
                              try clear c59b0
                              try clear c59b1
                              try clear c62
                              try clear c62b0
                              try clear c62b1
                              try clear c63
                              try clear c63b0
                              try clear c63b1
                              try clear p64
                              try clear q67
                              try clear c68
                              try clear hx206_0
                              try clear hx206_1
                              try clear hx206_2
                              try clear hx206_3
                              try clear hx206_4
                              try clear hx206_5
                              try clear hx207_0
                              try clear hx207_1
                              try clear hx207_2
                              try clear hx207_3
                              try clear hx207_4
                              try clear hx207_5
                              try clear hx211_0
                              try clear hx211_1
                              try clear hx211_2
                              try clear hx211_3
                              try clear hx211_4
                              try clear hx211_5
                              try clear hx212_0
                              try clear hx212_1
                              try clear hx212_2
                              try clear hx212_3
                              try clear hx212_4
                              try clear hx212_5
                              try clear p2
                              try clear p20
                              try clear p206
                              try clear p207
                              try clear p21
                              try clear p211
                              try clear p212
                              try clear p6
                              try clear p64
                              try clear q2
                              try clear q20
                              try clear q206
                              try clear q207
                              try clear q21
                              try clear q211
                              try clear q212
                              try clear q6
                              try clear q67
                              obtain ⟨x20_5, rfl, HA, HK5, HO_11, HO_15, HB⟩ := hrel
                              cases gk with
                              | zero => exact absurd HA.out (by simp [pendulumlaw31_ToneHangs.l1])
                              | succ k5 =>
                                have H := HA.out
                                clear HA
                                simp only [pendulumlaw31_ToneHangs.l1] at H
                                by_cases c69 : x20_5 < (t216.length : Int)
                                · rw [if_pos c69] at H
                                  have c69b0 : decide (x20_5 < (t216.length : Int)) = true := decide_eq_true c69
                                  clear c69
                                  replace H := Option.bind_eq_some_iff.mp H
                                  obtain ⟨⟨t246, t247⟩, A700, H⟩ := H
                                  replace H : (if t247 = 0 then (if 0 ≤ x20_5 then (if t246 = (rd t216 x20_5) then (if t246 < 0 then (some false) else (if (Int.tmod x20_5 2) = 0 then (if 0 ≤ (wrap64 (Int.tdiv x20_5 2)) then (if (wrap64 (Int.tdiv x20_5 2)) < (t224.length : Int) then (if (rd t224 (wrap64 (Int.tdiv x20_5 2))) = t246 then (pendulumlaw31_ToneHangs.l1 k5 l0 (wrap64 (1 + t203)) t216 t224 (wrap64 (x20_5 + 1))) else (some false)) else (none)) else (none)) else (pendulumlaw31_ToneHangs.l1 k5 l0 (wrap64 (1 + t203)) t216 t224 (wrap64 (x20_5 + 1))))) else (some false)) else (none)) else (some false)) = some r := H
                                  have A70 := Aside0.mk A700
                                  clear A700
                                  by_cases c71 : t247 = 0
                                  · rw [if_pos c71] at H
                                    have c71b0 : (t247 == 0) = true := beq_iff_eq.mpr c71
                                    have c71b1 : (t247 != 0) = false := bne_eq_false_iff_eq.mpr c71
                                    clear c71
                                    by_cases c72 : 0 ≤ x20_5
                                    · rw [if_pos c72] at H
                                      have c72b0 : decide (0 ≤ x20_5) = true := decide_eq_true c72
                                      clear c72
                                      by_cases c73 : t246 = (rd t216 x20_5)
                                      · rw [if_pos c73] at H
                                        have c73b0 : (t246 == (rd t216 x20_5)) = true := beq_iff_eq.mpr c73
                                        have c73b1 : (t246 != (rd t216 x20_5)) = false := bne_eq_false_iff_eq.mpr c73
                                        clear c73
                                        by_cases c74 : t246 < 0
                                        · rw [if_pos c74] at H
                                          have c74b0 : decide (t246 < 0) = true := decide_eq_true c74
                                          clear c74
                                          obtain rfl := Option.some.inj H
                                          obtain ⟨Ao75, co75, eo75⟩ := Kd.R_slice HO_11.out
                                          subst eo75
                                          go_wp2_with (first | ((with_reducible refine gate_callee (f := 16) rfl ?_); refine goesL_ (some 164) rfl rfl Try.func16 (by kernel_rfl) rfl #[.slice A0 l0.length c0, .int .i64 (wrap64 (x20_5 * (wrap64 (1 + t203))))] rfl (by (try simp only [List.map_toArray, List.map_cons, List.map_nil]); first | done | rfl | (simp only [List.length_drop, List.length_take]; rfl)) ?_; (with_reducible refine (tone_Heard.calls _ _ l0 (wrap64 (x20_5 * (wrap64 (1 + t203)))) t246 t247 _ ?side1 ?side2 A70.out).mono ?_); (case side1 => repeat (first | exact (Kd.C_below HR0.out HB.out) | (with_reducible refine Kd.C_alloc ?_ _) | (with_reducible refine Kd.C_drewN ?_ _) | (with_reducible refine Kd.C_drew ?_))); (case side2 => exact HC0.out); rintro e w76 ⟨rfl, hb⟩; refine ⟨_, rfl, ?_⟩; have n0_ := Aside0.mk (Kd.R_below (by (with_reducible repeat (first | apply Kd.R_alloc | apply Kd.R_drewN | apply Kd.R_drew)); exact HO_11.out) hb); have n1_ := Aside0.mk (Kd.R_below (by (with_reducible repeat (first | apply Kd.R_alloc | apply Kd.R_drewN | apply Kd.R_drew)); exact HO_15.out) hb); have n2_ := Aside0.mk (below_step (by repeat (first | (with_reducible first | exact HB.out | apply below_alloc | apply pw_below_drewN | apply below_drew1) | exact HB.out)) hb); clear HO_11; clear HO_15; clear HB; have HO_11 := n0_; have HO_15 := n1_; have HB := n2_; clear n0_ n1_ n2_; (try clear hb); (try clear hb2); (try clear hk); (try clear hi); have p248 : 0 ≤ (x20_5 : Int) := of_decide_eq_true (by first | (with_reducible assumption) | assumption); have q248 : x20_5 < (t216.length : Int) := of_decide_eq_true (by first | (with_reducible assumption) | assumption); obtain ⟨ad248, e248, hx248_0⟩ := Kd.at_int (Kd.R_reads' HO_11.out).2.2 x20_5 p248 q248; cases e248; replace p248 := eq_true p248; replace q248 := eq_true q248))
                                          go_ret
                                          exact ⟨by first | rfl | (simp [errW_none, errW_some] <;> rfl) | (simp only [← hji50]; first | rfl | (simp [errW_none, errW_some] <;> rfl)) | (simp [*, errW_none, errW_some] <;> rfl), by repeat (first | (with_reducible first | exact HB.out | apply below_alloc | apply pw_below_drewN | apply below_drew1) | exact HB.out)⟩
                                        · rw [if_neg c74] at H
                                          have c74b0 : decide (t246 < 0) = false := decide_eq_false c74
                                          clear c74
                                          by_cases c77 : (Int.tmod x20_5 2) = 0
                                          · rw [if_pos c77] at H
                                            have c77b0 : ((Int.tmod x20_5 2) == 0) = true := beq_iff_eq.mpr c77
                                            have c77b1 : ((Int.tmod x20_5 2) != 0) = false := bne_eq_false_iff_eq.mpr c77
                                            clear c77
                                            obtain ⟨ji78, hji78⟩ : ∃ j_ : Int, (wrap64 (Int.tdiv x20_5 2)) = j_ := ⟨_, rfl⟩
                                            replace H : (if 0 ≤ (ji78) then (if (ji78) < (t224.length : Int) then (if (rd t224 (ji78)) = t246 then (pendulumlaw31_ToneHangs.l1 k5 l0 (wrap64 (1 + t203)) t216 t224 (wrap64 (x20_5 + 1))) else (some false)) else (none)) else (none)) = some r := by first | (rw [hji78] at H; exact H) | (simp only [hji78] at H ⊢; exact H)
                                            (try rw [hji78] at A70)
                                            have hji78w : (IntKind.i64.wrap (Int.tdiv x20_5 2)) = ji78 := (i64_w _).trans hji78
                                            by_cases c79 : 0 ≤ (ji78)
                                            · rw [if_pos c79] at H
                                              have c79b0 : decide (0 ≤ (ji78)) = true := decide_eq_true c79
                                              clear c79
                                              by_cases c80 : (ji78) < (t224.length : Int)
                                              · rw [if_pos c80] at H
                                                have c80b0 : decide ((ji78) < (t224.length : Int)) = true := decide_eq_true c80
                                                clear c80
                                                by_cases c81 : (rd t224 (ji78)) = t246
                                                · rw [if_pos c81] at H
                                                  have c81b0 : ((rd t224 (ji78)) == t246) = true := beq_iff_eq.mpr c81
                                                  have c81b1 : ((rd t224 (ji78)) != t246) = false := bne_eq_false_iff_eq.mpr c81
                                                  clear c81
                                                  have H' := Aside0.mk H
                                                  clear H
                                                  obtain ⟨Ao82, co82, eo82⟩ := Kd.R_slice HO_11.out
                                                  subst eo82
                                                  go_wp2_with (first | ((with_reducible refine gate_callee (f := 16) rfl ?_); refine goesL_ (some 164) rfl rfl Try.func16 (by kernel_rfl) rfl #[.slice A0 l0.length c0, .int .i64 (wrap64 (x20_5 * (wrap64 (1 + t203))))] rfl (by (try simp only [List.map_toArray, List.map_cons, List.map_nil]); first | done | rfl | (simp only [List.length_drop, List.length_take]; rfl)) ?_; (with_reducible refine (tone_Heard.calls _ _ l0 (wrap64 (x20_5 * (wrap64 (1 + t203)))) t246 t247 _ ?side1 ?side2 A70.out).mono ?_); (case side1 => repeat (first | exact (Kd.C_below HR0.out HB.out) | (with_reducible refine Kd.C_alloc ?_ _) | (with_reducible refine Kd.C_drewN ?_ _) | (with_reducible refine Kd.C_drew ?_))); (case side2 => exact HC0.out); rintro e w83 ⟨rfl, hb⟩; refine ⟨_, rfl, ?_⟩; have n0_ := Aside0.mk (Kd.R_below (by (with_reducible repeat (first | apply Kd.R_alloc | apply Kd.R_drewN | apply Kd.R_drew)); exact HO_11.out) hb); have n1_ := Aside0.mk (Kd.R_below (by (with_reducible repeat (first | apply Kd.R_alloc | apply Kd.R_drewN | apply Kd.R_drew)); exact HO_15.out) hb); have n2_ := Aside0.mk (below_step (by repeat (first | (with_reducible first | exact HB.out | apply below_alloc | apply pw_below_drewN | apply below_drew1) | exact HB.out)) hb); clear HO_11; clear HO_15; clear HB; have HO_11 := n0_; have HO_15 := n1_; have HB := n2_; clear n0_ n1_ n2_; (try clear hb); (try clear hb2); (try clear hk); (try clear hi); have p248 : 0 ≤ (x20_5 : Int) := of_decide_eq_true (by first | (with_reducible assumption) | assumption); have q248 : x20_5 < (t216.length : Int) := of_decide_eq_true (by first | (with_reducible assumption) | assumption); obtain ⟨ad248, e248, hx248_0⟩ := Kd.at_int (Kd.R_reads' HO_11.out).2.2 x20_5 p248 q248; cases e248; replace p248 := eq_true p248; replace q248 := eq_true q248; obtain ⟨Ao84, co84, eo84⟩ := Kd.R_slice HO_15.out; subst eo84; have p249 : 0 ≤ ((ji78) : Int) := of_decide_eq_true (by first | (with_reducible assumption) | assumption); have q249 : (ji78) < (t224.length : Int) := of_decide_eq_true (by first | (with_reducible assumption) | assumption); obtain ⟨ad249, e249, hx249_0⟩ := Kd.at_int (Kd.R_reads' HO_15.out).2.2 (ji78) p249 q249; cases e249; replace p249 := eq_true p249; replace q249 := eq_true q249))
                                                  go_roundg k5
                                                  case measure => have := HJ8.out; have := HK2.out; have := HJ30.out; have := HJ51.out; have := HK5.out; omega
                                                  case rel => exact ⟨(wrap64 (x20_5 + 1)), (by first | rfl | (simp; done) | (simp [*]; done)), H', ⟨by have := HJ8.out; have := HK2.out; have := HJ30.out; have := HJ51.out; have := HK5.out; omega⟩, ⟨by (with_reducible repeat (first | apply Kd.R_alloc | apply Kd.R_drewN | apply Kd.R_drew)); exact HO_11.out⟩, ⟨by (with_reducible repeat (first | apply Kd.R_alloc | apply Kd.R_drewN | apply Kd.R_drew)); exact HO_15.out⟩, ⟨by repeat (first | (with_reducible first | exact HB.out | apply below_alloc | apply pw_below_drewN | apply below_drew1) | exact HB.out)⟩⟩
                                                · rw [if_neg c81] at H
                                                  have c81b0 : ((rd t224 (ji78)) == t246) = false := beq_eq_false_iff_ne.mpr c81
                                                  have c81b1 : ((rd t224 (ji78)) != t246) = true := bne_iff_ne.mpr c81
                                                  obtain rfl := Option.some.inj H
                                                  obtain ⟨Ao85, co85, eo85⟩ := Kd.R_slice HO_11.out
                                                  subst eo85
                                                  go_wp2_with (first | ((with_reducible refine gate_callee (f := 16) rfl ?_); refine goesL_ (some 164) rfl rfl Try.func16 (by kernel_rfl) rfl #[.slice A0 l0.length c0, .int .i64 (wrap64 (x20_5 * (wrap64 (1 + t203))))] rfl (by (try simp only [List.map_toArray, List.map_cons, List.map_nil]); first | done | rfl | (simp only [List.length_drop, List.length_take]; rfl)) ?_; (with_reducible refine (tone_Heard.calls _ _ l0 (wrap64 (x20_5 * (wrap64 (1 + t203)))) t246 t247 _ ?side1 ?side2 A70.out).mono ?_); (case side1 => repeat (first | exact (Kd.C_below HR0.out HB.out) | (with_reducible refine Kd.C_alloc ?_ _) | (with_reducible refine Kd.C_drewN ?_ _) | (with_reducible refine Kd.C_drew ?_))); (case side2 => exact HC0.out); rintro e w86 ⟨rfl, hb⟩; refine ⟨_, rfl, ?_⟩; have n0_ := Aside0.mk (Kd.R_below (by (with_reducible repeat (first | apply Kd.R_alloc | apply Kd.R_drewN | apply Kd.R_drew)); exact HO_11.out) hb); have n1_ := Aside0.mk (Kd.R_below (by (with_reducible repeat (first | apply Kd.R_alloc | apply Kd.R_drewN | apply Kd.R_drew)); exact HO_15.out) hb); have n2_ := Aside0.mk (below_step (by repeat (first | (with_reducible first | exact HB.out | apply below_alloc | apply pw_below_drewN | apply below_drew1) | exact HB.out)) hb); clear HO_11; clear HO_15; clear HB; have HO_11 := n0_; have HO_15 := n1_; have HB := n2_; clear n0_ n1_ n2_; (try clear hb); (try clear hb2); (try clear hk); (try clear hi); have p248 : 0 ≤ (x20_5 : Int) := of_decide_eq_true (by first | (with_reducible assumption) | assumption); have q248 : x20_5 < (t216.length : Int) := of_decide_eq_true (by first | (with_reducible assumption) | assumption); obtain ⟨ad248, e248, hx248_0⟩ := Kd.at_int (Kd.R_reads' HO_11.out).2.2 x20_5 p248 q248; cases e248; replace p248 := eq_true p248; replace q248 := eq_true q248; obtain ⟨Ao87, co87, eo87⟩ := Kd.R_slice HO_15.out; subst eo87; have p249 : 0 ≤ ((ji78) : Int) := of_decide_eq_true (by first | (with_reducible assumption) | assumption); have q249 : (ji78) < (t224.length : Int) := of_decide_eq_true (by first | (with_reducible assumption) | assumption); obtain ⟨ad249, e249, hx249_0⟩ := Kd.at_int (Kd.R_reads' HO_15.out).2.2 (ji78) p249 q249; cases e249; replace p249 := eq_true p249; replace q249 := eq_true q249))
                                                  go_ret
                                                  exact ⟨by first | rfl | (simp [errW_none, errW_some] <;> rfl) | (simp only [← hji50, ← hji78]; first | rfl | (simp [errW_none, errW_some] <;> rfl)) | (simp [*, errW_none, errW_some] <;> rfl), by repeat (first | (with_reducible first | exact HB.out | apply below_alloc | apply pw_below_drewN | apply below_drew1) | exact HB.out)⟩
                                              · rw [if_neg c80] at H
                                                exact absurd H (by simp)
                                            · rw [if_neg c79] at H
                                              exact absurd H (by simp)
                                          · rw [if_neg c77] at H
                                            have c77b0 : ((Int.tmod x20_5 2) == 0) = false := beq_eq_false_iff_ne.mpr c77
                                            have c77b1 : ((Int.tmod x20_5 2) != 0) = true := bne_iff_ne.mpr c77
                                            have H' := Aside0.mk H
                                            clear H
                                            obtain ⟨Ao88, co88, eo88⟩ := Kd.R_slice HO_11.out
                                            subst eo88
                                            go_wp2_with (first | ((with_reducible refine gate_callee (f := 16) rfl ?_); refine goesL_ (some 164) rfl rfl Try.func16 (by kernel_rfl) rfl #[.slice A0 l0.length c0, .int .i64 (wrap64 (x20_5 * (wrap64 (1 + t203))))] rfl (by (try simp only [List.map_toArray, List.map_cons, List.map_nil]); first | done | rfl | (simp only [List.length_drop, List.length_take]; rfl)) ?_; (with_reducible refine (tone_Heard.calls _ _ l0 (wrap64 (x20_5 * (wrap64 (1 + t203)))) t246 t247 _ ?side1 ?side2 A70.out).mono ?_); (case side1 => repeat (first | exact (Kd.C_below HR0.out HB.out) | (with_reducible refine Kd.C_alloc ?_ _) | (with_reducible refine Kd.C_drewN ?_ _) | (with_reducible refine Kd.C_drew ?_))); (case side2 => exact HC0.out); rintro e w89 ⟨rfl, hb⟩; refine ⟨_, rfl, ?_⟩; have n0_ := Aside0.mk (Kd.R_below (by (with_reducible repeat (first | apply Kd.R_alloc | apply Kd.R_drewN | apply Kd.R_drew)); exact HO_11.out) hb); have n1_ := Aside0.mk (Kd.R_below (by (with_reducible repeat (first | apply Kd.R_alloc | apply Kd.R_drewN | apply Kd.R_drew)); exact HO_15.out) hb); have n2_ := Aside0.mk (below_step (by repeat (first | (with_reducible first | exact HB.out | apply below_alloc | apply pw_below_drewN | apply below_drew1) | exact HB.out)) hb); clear HO_11; clear HO_15; clear HB; have HO_11 := n0_; have HO_15 := n1_; have HB := n2_; clear n0_ n1_ n2_; (try clear hb); (try clear hb2); (try clear hk); (try clear hi); have p248 : 0 ≤ (x20_5 : Int) := of_decide_eq_true (by first | (with_reducible assumption) | assumption); have q248 : x20_5 < (t216.length : Int) := of_decide_eq_true (by first | (with_reducible assumption) | assumption); obtain ⟨ad248, e248, hx248_0⟩ := Kd.at_int (Kd.R_reads' HO_11.out).2.2 x20_5 p248 q248; cases e248; replace p248 := eq_true p248; replace q248 := eq_true q248))
                                            go_roundg k5
                                            case measure => have := HJ8.out; have := HK2.out; have := HJ30.out; have := HJ51.out; have := HK5.out; omega
                                            case rel => exact ⟨(wrap64 (x20_5 + 1)), (by first | rfl | (simp; done) | (simp [*]; done)), H', ⟨by have := HJ8.out; have := HK2.out; have := HJ30.out; have := HJ51.out; have := HK5.out; omega⟩, ⟨by (with_reducible repeat (first | apply Kd.R_alloc | apply Kd.R_drewN | apply Kd.R_drew)); exact HO_11.out⟩, ⟨by (with_reducible repeat (first | apply Kd.R_alloc | apply Kd.R_drewN | apply Kd.R_drew)); exact HO_15.out⟩, ⟨by repeat (first | (with_reducible first | exact HB.out | apply below_alloc | apply pw_below_drewN | apply below_drew1) | exact HB.out)⟩⟩
                                      · rw [if_neg c73] at H
                                        have c73b0 : (t246 == (rd t216 x20_5)) = false := beq_eq_false_iff_ne.mpr c73
                                        have c73b1 : (t246 != (rd t216 x20_5)) = true := bne_iff_ne.mpr c73
                                        obtain rfl := Option.some.inj H
                                        obtain ⟨Ao90, co90, eo90⟩ := Kd.R_slice HO_11.out
                                        subst eo90
                                        go_wp2_with (first | ((with_reducible refine gate_callee (f := 16) rfl ?_); refine goesL_ (some 164) rfl rfl Try.func16 (by kernel_rfl) rfl #[.slice A0 l0.length c0, .int .i64 (wrap64 (x20_5 * (wrap64 (1 + t203))))] rfl (by (try simp only [List.map_toArray, List.map_cons, List.map_nil]); first | done | rfl | (simp only [List.length_drop, List.length_take]; rfl)) ?_; (with_reducible refine (tone_Heard.calls _ _ l0 (wrap64 (x20_5 * (wrap64 (1 + t203)))) t246 t247 _ ?side1 ?side2 A70.out).mono ?_); (case side1 => repeat (first | exact (Kd.C_below HR0.out HB.out) | (with_reducible refine Kd.C_alloc ?_ _) | (with_reducible refine Kd.C_drewN ?_ _) | (with_reducible refine Kd.C_drew ?_))); (case side2 => exact HC0.out); rintro e w91 ⟨rfl, hb⟩; refine ⟨_, rfl, ?_⟩; have n0_ := Aside0.mk (Kd.R_below (by (with_reducible repeat (first | apply Kd.R_alloc | apply Kd.R_drewN | apply Kd.R_drew)); exact HO_11.out) hb); have n1_ := Aside0.mk (Kd.R_below (by (with_reducible repeat (first | apply Kd.R_alloc | apply Kd.R_drewN | apply Kd.R_drew)); exact HO_15.out) hb); have n2_ := Aside0.mk (below_step (by repeat (first | (with_reducible first | exact HB.out | apply below_alloc | apply pw_below_drewN | apply below_drew1) | exact HB.out)) hb); clear HO_11; clear HO_15; clear HB; have HO_11 := n0_; have HO_15 := n1_; have HB := n2_; clear n0_ n1_ n2_; (try clear hb); (try clear hb2); (try clear hk); (try clear hi); have p248 : 0 ≤ (x20_5 : Int) := of_decide_eq_true (by first | (with_reducible assumption) | assumption); have q248 : x20_5 < (t216.length : Int) := of_decide_eq_true (by first | (with_reducible assumption) | assumption); obtain ⟨ad248, e248, hx248_0⟩ := Kd.at_int (Kd.R_reads' HO_11.out).2.2 x20_5 p248 q248; cases e248; replace p248 := eq_true p248; replace q248 := eq_true q248))
                                        go_ret
                                        exact ⟨by first | rfl | (simp [errW_none, errW_some] <;> rfl) | (simp only [← hji50]; first | rfl | (simp [errW_none, errW_some] <;> rfl)) | (simp [*, errW_none, errW_some] <;> rfl), by repeat (first | (with_reducible first | exact HB.out | apply below_alloc | apply pw_below_drewN | apply below_drew1) | exact HB.out)⟩
                                    · rw [if_neg c72] at H
                                      exact absurd H (by simp)
                                  · rw [if_neg c71] at H
                                    have c71b0 : (t247 == 0) = false := beq_eq_false_iff_ne.mpr c71
                                    have c71b1 : (t247 != 0) = true := bne_iff_ne.mpr c71
                                    obtain rfl := Option.some.inj H
                                    obtain ⟨Ao92, co92, eo92⟩ := Kd.R_slice HO_11.out
                                    subst eo92
                                    go_wp2_with (first | ((with_reducible refine gate_callee (f := 16) rfl ?_); refine goesL_ (some 164) rfl rfl Try.func16 (by kernel_rfl) rfl #[.slice A0 l0.length c0, .int .i64 (wrap64 (x20_5 * (wrap64 (1 + t203))))] rfl (by (try simp only [List.map_toArray, List.map_cons, List.map_nil]); first | done | rfl | (simp only [List.length_drop, List.length_take]; rfl)) ?_; (with_reducible refine (tone_Heard.calls _ _ l0 (wrap64 (x20_5 * (wrap64 (1 + t203)))) t246 t247 _ ?side1 ?side2 A70.out).mono ?_); (case side1 => repeat (first | exact (Kd.C_below HR0.out HB.out) | (with_reducible refine Kd.C_alloc ?_ _) | (with_reducible refine Kd.C_drewN ?_ _) | (with_reducible refine Kd.C_drew ?_))); (case side2 => exact HC0.out); rintro e w93 ⟨rfl, hb⟩; refine ⟨_, rfl, ?_⟩; have n0_ := Aside0.mk (Kd.R_below (by (with_reducible repeat (first | apply Kd.R_alloc | apply Kd.R_drewN | apply Kd.R_drew)); exact HO_11.out) hb); have n1_ := Aside0.mk (Kd.R_below (by (with_reducible repeat (first | apply Kd.R_alloc | apply Kd.R_drewN | apply Kd.R_drew)); exact HO_15.out) hb); have n2_ := Aside0.mk (below_step (by repeat (first | (with_reducible first | exact HB.out | apply below_alloc | apply pw_below_drewN | apply below_drew1) | exact HB.out)) hb); clear HO_11; clear HO_15; clear HB; have HO_11 := n0_; have HO_15 := n1_; have HB := n2_; clear n0_ n1_ n2_; (try clear hb); (try clear hb2); (try clear hk); (try clear hi)))
                                    go_ret
                                    exact ⟨by first | rfl | (simp [errW_none, errW_some] <;> rfl) | (simp only [← hji50]; first | rfl | (simp [errW_none, errW_some] <;> rfl)) | (simp [*, errW_none, errW_some] <;> rfl), by repeat (first | (with_reducible first | exact HB.out | apply below_alloc | apply pw_below_drewN | apply below_drew1) | exact HB.out)⟩
                                · rw [if_neg c69] at H
                                  have c69b0 : decide (x20_5 < (t216.length : Int)) = false := decide_eq_false c69
                                  clear c69
                                  obtain rfl := Option.some.inj H
                                  obtain ⟨Ao94, co94, eo94⟩ := Kd.R_slice HO_11.out
                                  subst eo94
                                  go_wp2
                                  go_ret
                                  exact ⟨by first | rfl | (simp [errW_none, errW_some] <;> rfl) | (simp only [← hji50]; first | rfl | (simp [errW_none, errW_some] <;> rfl)) | (simp [*, errW_none, errW_some] <;> rfl), by repeat (first | (with_reducible first | exact HB.out | apply below_alloc | apply pw_below_drewN | apply below_drew1) | exact HB.out)⟩
  · replace c6 := Bool.eq_false_iff.mpr c6
    subst c6
    have H1 : (some false) = some r := by rw [if_neg (show ¬ (false = true) by decide)] at H; exact H
    clear H
    have H := H1
    clear H1
    obtain rfl := Option.some.inj H
    go_enter Try.func3, Try.ntmps3
    go_wp2_with (first | ((with_reducible refine gate_callee (f := 10) rfl ?_); refine goesL_ (some 23) rfl rfl Try.func10 (by kernel_rfl) rfl #[] rfl (by (try simp only [List.map_toArray, List.map_cons, List.map_nil]); first | done | rfl | (simp only [List.length_drop, List.length_take]; rfl)) ?_; (with_reducible refine (pendulumlaw31_lives.calls k  false _ A5.out).mono ?_); rintro e w95 ⟨rfl, hb⟩; refine ⟨_, rfl, ?_⟩; have n0_ := Aside0.mk (below_step (by repeat (first | (with_reducible first | exact HB.out | apply below_alloc | apply pw_below_drewN | apply below_drew1) | exact HB.out)) hb); clear HB; have HB := n0_; clear n0_; (try clear hb); (try clear hb2); (try clear hk); (try clear hi)))
    go_ret
    exact ⟨by first | rfl | (simp [errW_none, errW_some] <;> rfl) | (simp [*, errW_none, errW_some] <;> rfl), by repeat (first | (with_reducible first | exact HB.out | apply below_alloc | apply pw_below_drewN | apply below_drew1) | exact HB.out)⟩

end Go.Proofs.Ythcokhnckbkecaa.HTone
