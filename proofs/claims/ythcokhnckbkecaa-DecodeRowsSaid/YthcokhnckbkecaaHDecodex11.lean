-- Written by a program of this session out of Lean's print of the program (after the form of the kit's print.sh, with own turns); Lean checks it.
import Derived.Test.YthcokhnckbkecaaHDecodex0
import Derived.Test.YthcokhnckbkecaaHDecodex7
import Derived.Test.YthcokhnckbkecaaHDecodex8
import Derived.Test.YthcokhnckbkecaaHDecodex10
namespace Go.Proofs.Ythcokhnckbkecaa.HDecode
open Go.RowKit Go.Proofs.YthcokhnckbkecaaW.PrintWords Go.Proofs.YthcokhnckbkecaaW.PrintLast Go.Proofs.YthcokhnckbkecaaW.PrintMore
attribute [local go_sem] max2_int min2_int max_two min_two max_three min_three max_four min_four   -- for this text's walks alone
set_option linter.unusedVariables false
set_option linter.unusedSimpArgs false

/-! ### pendulumlaw09_DecodeRows: function 8 -/
mutual
def pendulumlaw09_DecodeRows.j0 : Nat → List Int → Int → List (S46) → Int → Bool → Option (Bool)
  | 0, _, _, _, _, _ => none
  | k + 1, x0, x1, x5, x6, x35 => if x35 = true then (some false) else ((pendulumkit_Pick.f x1 (wrap64 ((x5.length : Int) + 1))).bind fun t291 => (pendulumlaw09_DecodeRows.l0 k x0 x5 x6 t291 0 0))
def pendulumlaw09_DecodeRows.l0 : Nat → List Int → List (S46) → Int → Int → Int → Int → Option (Bool)
  | 0, _, _, _, _, _, _ => none
  | k + 1, x0, x5, x6, x7, x8, x9 => if x9 < (x5.length : Int) then (if x9 = x7 then (if 0 ≤ x8 then (if x8 ≤ (x0.length : Int) then ((pendulumkit_Own.f (x0.drop (x8 : Int).toNat)).bind fun t293 => ((decode_All.f k t293).bind fun bt296 => (if 0 ≤ x9 then (if x9 ≤ (x5.length : Int) then ((pendulumkit_Insn.f k bt296.1 (x5.drop (x9 : Int).toNat)).bind fun t304 => (if t304 = true then (pendulumlaw09_DecodeRows.j2 k x0 x5 x6 x7 x8 x9 (bt296.2 != (wrap64 (x6 - x8)))) else (pendulumlaw09_DecodeRows.j2 k x0 x5 x6 x7 x8 x9 true))) else (none)) else (none)))) else (none)) else (none)) else (if 0 ≤ x9 then ((decode_Bytes.f k ((rd_T46 x5 x9).f0) ((rd_T46 x5 x9).f1) ((rd_T46 x5 x9).f2) ((rd_T46 x5 x9).f3) ((rd_T46 x5 x9).f4) ((rd_T46 x5 x9).f5)).bind fun bt312 => (if bt312.2 = 0 then (if (bt312.1.length : Int) > 4 then (some false) else (if (wrap64 (x8 + (bt312.1.length : Int))) > x6 then (some false) else (if 0 ≤ x8 then (if x8 ≤ (wrap64 (x8 + (bt312.1.length : Int))) then (if (wrap64 (x8 + (bt312.1.length : Int))) ≤ (x0.length : Int) then (if (strOfNums bt312.1).toList = (strOfNums ((x0.take ((wrap64 (x8 + (bt312.1.length : Int))) : Int).toNat).drop (x8 : Int).toNat)).toList then (pendulumlaw09_DecodeRows.l0 k x0 x5 x6 x7 (wrap64 (x8 + (bt312.1.length : Int))) (wrap64 (x9 + 1))) else (some false)) else (none)) else (none)) else (none)))) else (some false))) else (none))) else (some (x8 == x6))
def pendulumlaw09_DecodeRows.j2 : Nat → List Int → List (S46) → Int → Int → Int → Int → Bool → Option (Bool)
  | 0, _, _, _, _, _, _, _ => none
  | k + 1, x0, x5, x6, x7, x8, x9, x70 => if x70 = true then (some false) else (if 0 ≤ x9 then (if x9 < (x5.length : Int) then ((decode_Bytes.f k ((rd_T46 x5 x9).f0) ((rd_T46 x5 x9).f1) ((rd_T46 x5 x9).f2) ((rd_T46 x5 x9).f3) ((rd_T46 x5 x9).f4) ((rd_T46 x5 x9).f5)).bind fun bt306 => (if bt306.2 = 0 then (if (bt306.1.length : Int) > 4 then (some false) else (if (wrap64 (x8 + (bt306.1.length : Int))) > x6 then (some false) else (if 0 ≤ x8 then (if x8 ≤ (wrap64 (x8 + (bt306.1.length : Int))) then (if (wrap64 (x8 + (bt306.1.length : Int))) ≤ (x0.length : Int) then (if (strOfNums bt306.1).toList = (strOfNums ((x0.take ((wrap64 (x8 + (bt306.1.length : Int))) : Int).toNat).drop (x8 : Int).toNat)).toList then (pendulumlaw09_DecodeRows.l0 k x0 x5 x6 x7 (wrap64 (x8 + (bt306.1.length : Int))) (wrap64 (x9 + 1))) else (some false)) else (none)) else (none)) else (none)))) else (some false))) else (none)) else (none))
end
def pendulumlaw09_DecodeRows.f (k : Nat) (l0 : List Int) (a1 : Int) : Option (Bool) := (pendulumlaw09_lives.f k).bind fun t283 => (if t283 = true then (if (l0.length : Int) > 500 then (some true) else ((pendulumkit_Own.f l0).bind fun t284 => ((decode_All.f k t284).bind fun bt287 => (if bt287.2 > (l0.length : Int) then (pendulumlaw09_DecodeRows.j0 k l0 a1 bt287.1 bt287.2 true) else (pendulumlaw09_DecodeRows.j0 k l0 a1 bt287.1 bt287.2 (decide ((wrap64 ((l0.length : Int) - bt287.2)) > 3))))))) else (some false))
theorem pendulumlaw09_DecodeRows.mono_l : ∀ k, (∀ y0 y1 y2 y3 y4, LeO (pendulumlaw09_DecodeRows.j0 k y0 y1 y2 y3 y4) (pendulumlaw09_DecodeRows.j0 (k + 1) y0 y1 y2 y3 y4)) ∧ (∀ y0 y1 y2 y3 y4 y5, LeO (pendulumlaw09_DecodeRows.l0 k y0 y1 y2 y3 y4 y5) (pendulumlaw09_DecodeRows.l0 (k + 1) y0 y1 y2 y3 y4 y5)) ∧ (∀ y0 y1 y2 y3 y4 y5 y6, LeO (pendulumlaw09_DecodeRows.j2 k y0 y1 y2 y3 y4 y5 y6) (pendulumlaw09_DecodeRows.j2 (k + 1) y0 y1 y2 y3 y4 y5 y6))
  | 0 => ⟨fun _ _ _ _ _ r h => by simp [pendulumlaw09_DecodeRows.j0] at h, fun _ _ _ _ _ _ r h => by simp [pendulumlaw09_DecodeRows.l0] at h, fun _ _ _ _ _ _ _ r h => by simp [pendulumlaw09_DecodeRows.j2] at h⟩
  | k + 1 => by
    obtain ⟨ih0, ih1, ih2⟩ := pendulumlaw09_DecodeRows.mono_l k
    refine ⟨?_, ?_, ?_⟩
    · intro y0 y1 y2 y3 y4
      unfold pendulumlaw09_DecodeRows.j0
      repeat' first
      | (with_reducible exact ih0 _ _ _ _ _)
      | (with_reducible exact ih1 _ _ _ _ _ _)
      | (with_reducible exact ih2 _ _ _ _ _ _ _)
      | (with_reducible exact decode_All.mono _ _)
      | (with_reducible exact decode_Bytes.mono _ _ _ _ _ _ _)
      | (with_reducible exact pendulumkit_Insn.mono _ _ _)
      | (with_reducible exact pendulumlaw09_lives.mono _)
      | (with_reducible exact LeO.refl _)
      | (with_reducible exact LeO.none _)
      | (with_reducible refine LeO.ite ?_ ?_)
      | (with_reducible refine LeO.bind ?_ (fun _ => ?_))
      | exact ih0 _ _ _ _ _
      | exact ih1 _ _ _ _ _ _
      | exact ih2 _ _ _ _ _ _ _
      | exact decode_All.mono _ _
      | exact decode_Bytes.mono _ _ _ _ _ _ _
      | exact pendulumkit_Insn.mono _ _ _
      | exact pendulumlaw09_lives.mono _
      | exact LeO.none _
      | refine LeO.ite ?_ ?_
      | refine LeO.bind ?_ (fun _ => ?_)
    · intro y0 y1 y2 y3 y4 y5
      unfold pendulumlaw09_DecodeRows.l0
      repeat' first
      | (with_reducible exact ih0 _ _ _ _ _)
      | (with_reducible exact ih1 _ _ _ _ _ _)
      | (with_reducible exact ih2 _ _ _ _ _ _ _)
      | (with_reducible exact decode_All.mono _ _)
      | (with_reducible exact decode_Bytes.mono _ _ _ _ _ _ _)
      | (with_reducible exact pendulumkit_Insn.mono _ _ _)
      | (with_reducible exact pendulumlaw09_lives.mono _)
      | (with_reducible exact LeO.refl _)
      | (with_reducible exact LeO.none _)
      | (with_reducible refine LeO.ite ?_ ?_)
      | (with_reducible refine LeO.bind ?_ (fun _ => ?_))
      | exact ih0 _ _ _ _ _
      | exact ih1 _ _ _ _ _ _
      | exact ih2 _ _ _ _ _ _ _
      | exact decode_All.mono _ _
      | exact decode_Bytes.mono _ _ _ _ _ _ _
      | exact pendulumkit_Insn.mono _ _ _
      | exact pendulumlaw09_lives.mono _
      | exact LeO.none _
      | refine LeO.ite ?_ ?_
      | refine LeO.bind ?_ (fun _ => ?_)
    · intro y0 y1 y2 y3 y4 y5 y6
      unfold pendulumlaw09_DecodeRows.j2
      repeat' first
      | (with_reducible exact ih0 _ _ _ _ _)
      | (with_reducible exact ih1 _ _ _ _ _ _)
      | (with_reducible exact ih2 _ _ _ _ _ _ _)
      | (with_reducible exact decode_All.mono _ _)
      | (with_reducible exact decode_Bytes.mono _ _ _ _ _ _ _)
      | (with_reducible exact pendulumkit_Insn.mono _ _ _)
      | (with_reducible exact pendulumlaw09_lives.mono _)
      | (with_reducible exact LeO.refl _)
      | (with_reducible exact LeO.none _)
      | (with_reducible refine LeO.ite ?_ ?_)
      | (with_reducible refine LeO.bind ?_ (fun _ => ?_))
      | exact ih0 _ _ _ _ _
      | exact ih1 _ _ _ _ _ _
      | exact ih2 _ _ _ _ _ _ _
      | exact decode_All.mono _ _
      | exact decode_Bytes.mono _ _ _ _ _ _ _
      | exact pendulumkit_Insn.mono _ _ _
      | exact pendulumlaw09_lives.mono _
      | exact LeO.none _
      | refine LeO.ite ?_ ?_
      | refine LeO.bind ?_ (fun _ => ?_)
theorem pendulumlaw09_DecodeRows.mono : ∀ a0 a1 k, LeO (pendulumlaw09_DecodeRows.f k a0 a1) (pendulumlaw09_DecodeRows.f (k + 1) a0 a1) := by
  intro a0 a1 k
  obtain ⟨ih0, ih1, ih2⟩ := pendulumlaw09_DecodeRows.mono_l k
  unfold pendulumlaw09_DecodeRows.f
  repeat' first
      | (with_reducible exact ih0 _ _ _ _ _)
      | (with_reducible exact ih1 _ _ _ _ _ _)
      | (with_reducible exact ih2 _ _ _ _ _ _ _)
      | (with_reducible exact decode_All.mono _ _)
      | (with_reducible exact decode_Bytes.mono _ _ _ _ _ _ _)
      | (with_reducible exact pendulumkit_Insn.mono _ _ _)
      | (with_reducible exact pendulumlaw09_lives.mono _)
      | (with_reducible exact LeO.refl _)
      | (with_reducible exact LeO.none _)
      | (with_reducible refine LeO.ite ?_ ?_)
      | (with_reducible refine LeO.bind ?_ (fun _ => ?_))
      | exact ih0 _ _ _ _ _
      | exact ih1 _ _ _ _ _ _
      | exact ih2 _ _ _ _ _ _ _
      | exact decode_All.mono _ _
      | exact decode_Bytes.mono _ _ _ _ _ _ _
      | exact pendulumkit_Insn.mono _ _ _
      | exact pendulumlaw09_lives.mono _
      | exact LeO.none _
      | refine LeO.ite ?_ ?_
      | refine LeO.bind ?_ (fun _ => ?_)
set_option maxHeartbeats 8000000 in
set_option maxRecDepth 100000 in
theorem pendulumlaw09_DecodeRows.calls (k : Nat) (A0 : Option Addr) (c0 : Nat) (l0 : List Int) (a1 : Int) (r : Bool) (w : World) (hr0 : Kd.C (Kd.int .u8) w A0 l0.length l0) (hc0 : l0.length ≤ c0) (h : pendulumlaw09_DecodeRows.f k l0 a1 = some r) :
    Calls Try.prog 8 #[.slice A0 l0.length c0, .int .i64 a1] w fun e w' => e = .returned (.bool r) ∧ Below w.heap.size w w' := by
  have hu46 := Try.underlying46
  have HR0 := Aside0.mk hr0
  have HC0 := Aside0.mk hc0
  clear hr0 hc0
  have HB := Aside0.mk (Below.refl w.heap.size w)
  have H : ((pendulumlaw09_lives.f k).bind fun t283 => (if t283 = true then (if (l0.length : Int) > 500 then (some true) else ((pendulumkit_Own.f l0).bind fun t284 => ((decode_All.f k t284).bind fun bt287 => (if bt287.2 > (l0.length : Int) then (pendulumlaw09_DecodeRows.j0 k l0 a1 bt287.1 bt287.2 true) else (pendulumlaw09_DecodeRows.j0 k l0 a1 bt287.1 bt287.2 (decide ((wrap64 ((l0.length : Int) - bt287.2)) > 3))))))) else (some false))) = some r := h
  clear h
  replace H := Option.bind_eq_some_iff.mp H
  obtain ⟨t283, A30, H⟩ := H
  replace H : (if t283 = true then (if (l0.length : Int) > 500 then (some true) else ((pendulumkit_Own.f l0).bind fun t284 => ((decode_All.f k t284).bind fun bt287 => (if bt287.2 > (l0.length : Int) then (pendulumlaw09_DecodeRows.j0 k l0 a1 bt287.1 bt287.2 true) else (pendulumlaw09_DecodeRows.j0 k l0 a1 bt287.1 bt287.2 (decide ((wrap64 ((l0.length : Int) - bt287.2)) > 3))))))) else (some false)) = some r := H
  have A3 := Aside0.mk A30
  clear A30
  by_cases c4 : t283 = true
  · subst c4
    have H1 : (if (l0.length : Int) > 500 then (some true) else ((pendulumkit_Own.f l0).bind fun t284 => ((decode_All.f k t284).bind fun bt287 => (if bt287.2 > (l0.length : Int) then (pendulumlaw09_DecodeRows.j0 k l0 a1 bt287.1 bt287.2 true) else (pendulumlaw09_DecodeRows.j0 k l0 a1 bt287.1 bt287.2 (decide ((wrap64 ((l0.length : Int) - bt287.2)) > 3))))))) = some r := by rw [if_pos rfl] at H; exact H
    clear H
    have H := H1
    clear H1
    by_cases c5 : (l0.length : Int) > 500
    · rw [if_pos c5] at H
      have c5b0 : decide (500 < (l0.length : Int)) = true := decide_eq_true c5
      have c5b1 : decide (500 < l0.length) = true := decide_eq_true (by omega)
      clear c5
      obtain rfl := Option.some.inj H
      go_enter Try.func8, Try.ntmps8
      go_wp2_with (first | (go_at_call 26; (with_reducible refine (pendulumlaw09_lives.calls k  true _ A3.out).mono ?_); rintro e w6 ⟨rfl, hb⟩; have n0_ := Aside0.mk (below_step (by repeat (first | (with_reducible first | exact HB.out | apply below_alloc | apply pw_below_drewN | apply below_drew1) | exact HB.out)) hb); clear HB; have HB := n0_; clear n0_; (try clear hb); (try clear hb2); (try clear hk); (try clear hi)))
      repeat (go_quiet (first | (go_at_call 26; (with_reducible refine (pendulumlaw09_lives.calls k  true _ A3.out).mono ?_); rintro e w6 ⟨rfl, hb⟩; have n0_ := Aside0.mk (below_step (by repeat (first | (with_reducible first | exact HB.out | apply below_alloc | apply pw_below_drewN | apply below_drew1) | exact HB.out)) hb); clear HB; have HB := n0_; clear n0_; (try clear hb); (try clear hb2); (try clear hk); (try clear hi))); try go_wp2_with (first | (go_at_call 26; (with_reducible refine (pendulumlaw09_lives.calls k  true _ A3.out).mono ?_); rintro e w6 ⟨rfl, hb⟩; have n0_ := Aside0.mk (below_step (by repeat (first | (with_reducible first | exact HB.out | apply below_alloc | apply pw_below_drewN | apply below_drew1) | exact HB.out)) hb); clear HB; have HB := n0_; clear n0_; (try clear hb); (try clear hb2); (try clear hk); (try clear hi))))
      go_ret
      exact ⟨by first | rfl | (simp [errW_none, errW_some] <;> rfl) | (simp [*, errW_none, errW_some] <;> rfl), by repeat (first | (with_reducible first | exact HB.out | apply below_alloc | apply pw_below_drewN | apply below_drew1) | exact HB.out)⟩
    · rw [if_neg c5] at H
      have c5b0 : decide (500 < (l0.length : Int)) = false := decide_eq_false c5
      have c5b1 : decide (500 < l0.length) = false := decide_eq_false (by omega)
      clear c5
      replace H := Option.bind_eq_some_iff.mp H
      obtain ⟨t284, A70, H⟩ := H
      replace H : ((decode_All.f k t284).bind fun bt287 => (if bt287.2 > (l0.length : Int) then (pendulumlaw09_DecodeRows.j0 k l0 a1 bt287.1 bt287.2 true) else (pendulumlaw09_DecodeRows.j0 k l0 a1 bt287.1 bt287.2 (decide ((wrap64 ((l0.length : Int) - bt287.2)) > 3))))) = some r := H
      have A7 := Aside0.mk A70
      clear A70
      replace H := Option.bind_eq_some_iff.mp H
      obtain ⟨⟨t287, t288⟩, A80, H⟩ := H
      replace H : (if t288 > (l0.length : Int) then (pendulumlaw09_DecodeRows.j0 k l0 a1 t287 t288 true) else (pendulumlaw09_DecodeRows.j0 k l0 a1 t287 t288 (decide ((wrap64 ((l0.length : Int) - t288)) > 3)))) = some r := H
      have A8 := Aside0.mk A80
      clear A80
      have HC9 := Aside0.mk H
      clear H
      go_enter Try.func8, Try.ntmps8
      go_upto_region 6 with (first | (go_at_call 26; (with_reducible refine (pendulumlaw09_lives.calls k  true _ A3.out).mono ?_); rintro e w10 ⟨rfl, hb⟩; have n0_ := Aside0.mk (below_step (by repeat (first | (with_reducible first | exact HB.out | apply below_alloc | apply pw_below_drewN | apply below_drew1) | exact HB.out)) hb); clear HB; have HB := n0_; clear n0_; (try clear hb); (try clear hb2); (try clear hk); (try clear hi)) | (go_at_call 28; (with_reducible refine (pendulumkit_Own.calls _ _ l0 t284 _ ?side1 ?side2 A7.out).mono ?_); (case side1 => repeat (first | exact (Kd.C_below HR0.out HB.out) | (with_reducible refine Kd.C_alloc ?_ _) | (with_reducible refine Kd.C_drewN ?_ _) | (with_reducible refine Kd.C_drew ?_))); (case side2 => exact HC0.out); rintro e w11 ⟨v285, rfl, ho0, hb⟩; have n0_ := Aside0.mk (Kd.R_lower ho0 (below_size (by repeat (first | (with_reducible first | exact HB.out | apply below_alloc | apply pw_below_drewN | apply below_drew1) | exact HB.out)))); have n1_ := Aside0.mk (below_step (by repeat (first | (with_reducible first | exact HB.out | apply below_alloc | apply pw_below_drewN | apply below_drew1) | exact HB.out)) hb); clear HB; have HO286 := n0_; have HB := n1_; clear n0_ n1_; (try clear hb); (try clear hb2); (try clear hk); (try clear hi); (try clear ho0); obtain ⟨Ao12, co12, eo12⟩ := Kd.R_slice HO286.out; subst eo12) | (go_at_call 31; (with_reducible refine (decode_All.calls k _ _ t284 t287 t288 _ ?side1 ?side2 A8.out).mono ?_); (case side1 => repeat (first | exact (Kd.R_reads' HO286.out).2.2 | (with_reducible refine Kd.C_alloc ?_ _) | (with_reducible refine Kd.C_drewN ?_ _) | (with_reducible refine Kd.C_drew ?_))); (case side2 => exact (Kd.R_reads' HO286.out).2.1); rintro e w13 ⟨v289, rfl, ho0, hb⟩; have n0_ := Aside0.mk (Kd.R_below (by (with_reducible repeat (first | apply Kd.R_alloc | apply Kd.R_drewN | apply Kd.R_drew)); exact HO286.out) hb); have n1_ := Aside0.mk (Kd.R_lower ho0 (below_size (by repeat (first | (with_reducible first | exact HB.out | apply below_alloc | apply pw_below_drewN | apply below_drew1) | exact HB.out)))); have n2_ := Aside0.mk (below_step (by repeat (first | (with_reducible first | exact HB.out | apply below_alloc | apply pw_below_drewN | apply below_drew1) | exact HB.out)) hb); clear HO286; clear HB; have HO286 := n0_; have HO290 := n1_; have HB := n2_; clear n0_ n1_ n2_; (try clear hb); (try clear hb2); (try clear hk); (try clear hi); (try clear ho0)))
      repeat (go_quiet (first | (go_at_call 26; (with_reducible refine (pendulumlaw09_lives.calls k  true _ A3.out).mono ?_); rintro e w10 ⟨rfl, hb⟩; have n0_ := Aside0.mk (below_step (by repeat (first | (with_reducible first | exact HB.out | apply below_alloc | apply pw_below_drewN | apply below_drew1) | exact HB.out)) hb); clear HB; have HB := n0_; clear n0_; (try clear hb); (try clear hb2); (try clear hk); (try clear hi)) | (go_at_call 28; (with_reducible refine (pendulumkit_Own.calls _ _ l0 t284 _ ?side1 ?side2 A7.out).mono ?_); (case side1 => repeat (first | exact (Kd.C_below HR0.out HB.out) | (with_reducible refine Kd.C_alloc ?_ _) | (with_reducible refine Kd.C_drewN ?_ _) | (with_reducible refine Kd.C_drew ?_))); (case side2 => exact HC0.out); rintro e w11 ⟨v285, rfl, ho0, hb⟩; have n0_ := Aside0.mk (Kd.R_lower ho0 (below_size (by repeat (first | (with_reducible first | exact HB.out | apply below_alloc | apply pw_below_drewN | apply below_drew1) | exact HB.out)))); have n1_ := Aside0.mk (below_step (by repeat (first | (with_reducible first | exact HB.out | apply below_alloc | apply pw_below_drewN | apply below_drew1) | exact HB.out)) hb); clear HB; have HO286 := n0_; have HB := n1_; clear n0_ n1_; (try clear hb); (try clear hb2); (try clear hk); (try clear hi); (try clear ho0); obtain ⟨Ao12, co12, eo12⟩ := Kd.R_slice HO286.out; subst eo12) | (go_at_call 31; (with_reducible refine (decode_All.calls k _ _ t284 t287 t288 _ ?side1 ?side2 A8.out).mono ?_); (case side1 => repeat (first | exact (Kd.R_reads' HO286.out).2.2 | (with_reducible refine Kd.C_alloc ?_ _) | (with_reducible refine Kd.C_drewN ?_ _) | (with_reducible refine Kd.C_drew ?_))); (case side2 => exact (Kd.R_reads' HO286.out).2.1); rintro e w13 ⟨v289, rfl, ho0, hb⟩; have n0_ := Aside0.mk (Kd.R_below (by (with_reducible repeat (first | apply Kd.R_alloc | apply Kd.R_drewN | apply Kd.R_drew)); exact HO286.out) hb); have n1_ := Aside0.mk (Kd.R_lower ho0 (below_size (by repeat (first | (with_reducible first | exact HB.out | apply below_alloc | apply pw_below_drewN | apply below_drew1) | exact HB.out)))); have n2_ := Aside0.mk (below_step (by repeat (first | (with_reducible first | exact HB.out | apply below_alloc | apply pw_below_drewN | apply below_drew1) | exact HB.out)) hb); clear HO286; clear HB; have HO286 := n0_; have HO290 := n1_; have HB := n2_; clear n0_ n1_ n2_; (try clear hb); (try clear hb2); (try clear hk); (try clear hi); (try clear ho0))); go_upto_region 6 with (first | (go_at_call 26; (with_reducible refine (pendulumlaw09_lives.calls k  true _ A3.out).mono ?_); rintro e w10 ⟨rfl, hb⟩; have n0_ := Aside0.mk (below_step (by repeat (first | (with_reducible first | exact HB.out | apply below_alloc | apply pw_below_drewN | apply below_drew1) | exact HB.out)) hb); clear HB; have HB := n0_; clear n0_; (try clear hb); (try clear hb2); (try clear hk); (try clear hi)) | (go_at_call 28; (with_reducible refine (pendulumkit_Own.calls _ _ l0 t284 _ ?side1 ?side2 A7.out).mono ?_); (case side1 => repeat (first | exact (Kd.C_below HR0.out HB.out) | (with_reducible refine Kd.C_alloc ?_ _) | (with_reducible refine Kd.C_drewN ?_ _) | (with_reducible refine Kd.C_drew ?_))); (case side2 => exact HC0.out); rintro e w11 ⟨v285, rfl, ho0, hb⟩; have n0_ := Aside0.mk (Kd.R_lower ho0 (below_size (by repeat (first | (with_reducible first | exact HB.out | apply below_alloc | apply pw_below_drewN | apply below_drew1) | exact HB.out)))); have n1_ := Aside0.mk (below_step (by repeat (first | (with_reducible first | exact HB.out | apply below_alloc | apply pw_below_drewN | apply below_drew1) | exact HB.out)) hb); clear HB; have HO286 := n0_; have HB := n1_; clear n0_ n1_; (try clear hb); (try clear hb2); (try clear hk); (try clear hi); (try clear ho0); obtain ⟨Ao12, co12, eo12⟩ := Kd.R_slice HO286.out; subst eo12) | (go_at_call 31; (with_reducible refine (decode_All.calls k _ _ t284 t287 t288 _ ?side1 ?side2 A8.out).mono ?_); (case side1 => repeat (first | exact (Kd.R_reads' HO286.out).2.2 | (with_reducible refine Kd.C_alloc ?_ _) | (with_reducible refine Kd.C_drewN ?_ _) | (with_reducible refine Kd.C_drew ?_))); (case side2 => exact (Kd.R_reads' HO286.out).2.1); rintro e w13 ⟨v289, rfl, ho0, hb⟩; have n0_ := Aside0.mk (Kd.R_below (by (with_reducible repeat (first | apply Kd.R_alloc | apply Kd.R_drewN | apply Kd.R_drew)); exact HO286.out) hb); have n1_ := Aside0.mk (Kd.R_lower ho0 (below_size (by repeat (first | (with_reducible first | exact HB.out | apply below_alloc | apply pw_below_drewN | apply below_drew1) | exact HB.out)))); have n2_ := Aside0.mk (below_step (by repeat (first | (with_reducible first | exact HB.out | apply below_alloc | apply pw_below_drewN | apply below_drew1) | exact HB.out)) hb); clear HO286; clear HB; have HO286 := n0_; have HO290 := n1_; have HB := n2_; clear n0_ n1_ n2_; (try clear hb); (try clear hb2); (try clear hk); (try clear hi); (try clear ho0))))
      (try simp only [Act.put, List.setIfInBounds_toArray, List.set_cons_zero, List.set_cons_succ])
      go_cut [35] (fun v35 wc => ∃ (kq : Nat) (x35_8 : Bool), v35 = .bool x35_8 ∧ Aside0 (pendulumlaw09_DecodeRows.j0 kq l0 a1 t287 t288 x35_8 = some r) ∧ Aside0 (kq ≤ k) ∧ Aside0 (Kd.R k46 46 wc w.heap.size (fun _ => True) v289 t287) ∧ Aside0 (Below w.heap.size w wc))
      case first =>
        have H := HC9.out
        clear HC9
        by_cases c14 : t288 > (l0.length : Int)
        · rw [if_pos c14] at H
          have c14b0 : decide ((l0.length : Int) < t288) = true := decide_eq_true c14
          clear c14
          (first | rw [c14b0] | (simp only [i64_w, i32_w]; rw [c14b0]) | skip)
          have H' := Aside0.mk H
          clear H
          go_wp2
          repeat (go_quiet (fail); try go_wp2)
          go_meet
          case rel => exact ⟨_, (true), (by first | rfl | (simp; done) | (simp [*]; done)), H', ⟨by first | omega | exact Nat.le_refl _⟩, ⟨by (with_reducible repeat (first | apply Kd.R_alloc | apply Kd.R_drewN | apply Kd.R_drew)); exact HO290.out⟩, ⟨by repeat (first | (with_reducible first | exact HB.out | apply below_alloc | apply pw_below_drewN | apply below_drew1) | exact HB.out)⟩⟩
        · rw [if_neg c14] at H
          have c14b0 : decide ((l0.length : Int) < t288) = false := decide_eq_false c14
          clear c14
          (first | rw [c14b0] | (simp only [i64_w, i32_w]; rw [c14b0]) | skip)
          have H' := Aside0.mk H
          clear H
          go_wp2
          repeat (go_quiet (fail); try go_wp2)
          go_meet
          case rel => exact ⟨_, (decide ((wrap64 ((l0.length : Int) - t288)) > 3)), (by first | rfl | (simp; done) | (simp [*]; done)), H', ⟨by first | omega | exact Nat.le_refl _⟩, ⟨by (with_reducible repeat (first | apply Kd.R_alloc | apply Kd.R_drewN | apply Kd.R_drew)); exact HO290.out⟩, ⟨by repeat (first | (with_reducible first | exact HB.out | apply below_alloc | apply pw_below_drewN | apply below_drew1) | exact HB.out)⟩⟩
      case rest =>
        clear HC9
        try clear c1
        try clear p2
        try clear c4
        try clear c5
        try clear c5b0
        try clear c5b1
        try clear p6
        try clear c8
        try clear c14
        try clear c14b0
        obtain ⟨kq, x35_8, rfl, HA, HJ8, HO_5, HB⟩ := hcut
        cases kq with
        | zero => exact absurd HA.out (by simp [pendulumlaw09_DecodeRows.j0])
        | succ kj8 =>
          have H := HA.out
          clear HA
          simp only [pendulumlaw09_DecodeRows.j0] at H
          by_cases c15 : x35_8 = true
          · subst c15
            have H1 : (some false) = some r := by rw [if_pos rfl] at H; exact H
            clear H
            have H := H1
            clear H1
            obtain rfl := Option.some.inj H
            go_wp2
            repeat (go_quiet (fail); try go_wp2)
            go_ret
            exact ⟨by first | rfl | (simp [errW_none, errW_some] <;> rfl) | (simp [*, errW_none, errW_some] <;> rfl), by repeat (first | (with_reducible first | exact HB.out | apply below_alloc | apply pw_below_drewN | apply below_drew1) | exact HB.out)⟩
          · replace c15 := Bool.eq_false_iff.mpr c15
            subst c15
            have H1 : ((pendulumkit_Pick.f a1 (wrap64 ((t287.length : Int) + 1))).bind fun t291 => (pendulumlaw09_DecodeRows.l0 kj8 l0 t287 t288 t291 0 0)) = some r := by rw [if_neg (show ¬ (false = true) by decide)] at H; exact H
            clear H
            have H := H1
            clear H1
            replace H := Option.bind_eq_some_iff.mp H
            obtain ⟨t291, A160, H⟩ := H
            replace H : (pendulumlaw09_DecodeRows.l0 kj8 l0 t287 t288 t291 0 0) = some r := H
            have A16 := Aside0.mk A160
            clear A160
            have H' := Aside0.mk H
            clear H
            obtain ⟨Ao17, co17, eo17⟩ := Kd.R_slice HO_5.out
            subst eo17
            go_wp2_with (first | (go_at_call 32; (with_reducible refine (pendulumkit_Pick.calls a1 (wrap64 ((t287.length : Int) + 1)) t291 _ A16.out).mono ?_); rintro e w' ⟨rfl, ⟨nd, rfl⟩⟩; (try first | exact ⟨rfl, _, World.drewN_drewN _ _ _⟩ | exact ⟨rfl, _, Eq.trans (World.drewN_drewN _ _ _) (congrArg (World.drewN _) (Nat.add_assoc _ _ _))⟩)))
            repeat (go_quiet (first | (go_at_call 32; (with_reducible refine (pendulumkit_Pick.calls a1 (wrap64 ((t287.length : Int) + 1)) t291 _ A16.out).mono ?_); rintro e w' ⟨rfl, ⟨nd, rfl⟩⟩; (try first | exact ⟨rfl, _, World.drewN_drewN _ _ _⟩ | exact ⟨rfl, _, Eq.trans (World.drewN_drewN _ _ _) (congrArg (World.drewN _) (Nat.add_assoc _ _ _))⟩))); try go_wp2_with (first | (go_at_call 32; (with_reducible refine (pendulumkit_Pick.calls a1 (wrap64 ((t287.length : Int) + 1)) t291 _ A16.out).mono ?_); rintro e w' ⟨rfl, ⟨nd, rfl⟩⟩; (try first | exact ⟨rfl, _, World.drewN_drewN _ _ _⟩ | exact ⟨rfl, _, Eq.trans (World.drewN_drewN _ _ _) (congrArg (World.drewN _) (Nat.add_assoc _ _ _))⟩))))
            go_loopg [8, 9] kj8 (fun kq v8 v9 w' => ∃ (x8_2 : Int) (x9_2 : Int), v8 = .int .i64 x8_2 ∧ v9 = .int .i64 x9_2 ∧ Aside0 (pendulumlaw09_DecodeRows.l0 kq l0 t287 t288 t291 x8_2 x9_2 = some r) ∧ Aside0 (kq ≤ kj8) ∧ Aside0 (Kd.R k46 46 w' w.heap.size (fun _ => True) (.slice Ao17 t287.length co17) t287) ∧ Aside0 (Below w.heap.size w w'))
            case atStart => exact ⟨(0), (0), (by first | rfl | (simp; done) | (simp [*]; done)), (by first | rfl | (simp; done) | (simp [*]; done)), H', ⟨Nat.le_refl _⟩, ⟨by (with_reducible repeat (first | apply Kd.R_alloc | apply Kd.R_drewN | apply Kd.R_drew)); exact HO_5.out⟩, ⟨by repeat (first | (with_reducible first | exact HB.out | apply below_alloc | apply pw_below_drewN | apply below_drew1) | exact HB.out)⟩⟩
            case round =>
              clear H'
              try clear c1
              try clear p2
              try clear c4
              try clear c5
              try clear c5b0
              try clear c5b1
              try clear p6
              try clear c8
              try clear c14
              try clear c14b0
              try clear c15
              try clear p2
              try clear p6
              obtain ⟨x8_2, x9_2, rfl, rfl, HA, HK2, HO_5, HB⟩ := hrel
              cases gk with
              | zero => exact absurd HA.out (by simp [pendulumlaw09_DecodeRows.l0])
              | succ k2 =>
                have H := HA.out
                clear HA
                simp only [pendulumlaw09_DecodeRows.l0] at H
                by_cases c18 : x9_2 < (t287.length : Int)
                · rw [if_pos c18] at H
                  have c18b0 : decide (x9_2 < (t287.length : Int)) = true := decide_eq_true c18
                  clear c18
                  by_cases c19 : x9_2 = t291
                  · rw [if_pos c19] at H
                    have c19b0 : (x9_2 == t291) = true := beq_iff_eq.mpr c19
                    have c19b1 : (x9_2 != t291) = false := bne_eq_false_iff_eq.mpr c19
                    clear c19
                    by_cases c20 : 0 ≤ x8_2
                    · rw [if_pos c20] at H
                      have c20b0 := eq_true c20
                      have c20b1 : decide (0 ≤ x8_2) = true := decide_eq_true c20
                      clear c20
                      by_cases c21 : x8_2 ≤ (l0.length : Int)
                      · rw [if_pos c21] at H
                        have c21b0 := eq_true c21
                        have c21b1 : decide (x8_2 ≤ (l0.length : Int)) = true := decide_eq_true c21
                        clear c21
                        replace H := Option.bind_eq_some_iff.mp H
                        obtain ⟨t293, A220, H⟩ := H
                        replace H : ((decode_All.f k2 t293).bind fun bt296 => (if 0 ≤ x9_2 then (if x9_2 ≤ (t287.length : Int) then ((pendulumkit_Insn.f k2 bt296.1 (t287.drop (x9_2 : Int).toNat)).bind fun t304 => (if t304 = true then (pendulumlaw09_DecodeRows.j2 k2 l0 t287 t288 t291 x8_2 x9_2 (bt296.2 != (wrap64 (t288 - x8_2)))) else (pendulumlaw09_DecodeRows.j2 k2 l0 t287 t288 t291 x8_2 x9_2 true))) else (none)) else (none))) = some r := H
                        have A22 := Aside0.mk A220
                        clear A220
                        replace H := Option.bind_eq_some_iff.mp H
                        obtain ⟨⟨t296, t297⟩, A230, H⟩ := H
                        replace H : (if 0 ≤ x9_2 then (if x9_2 ≤ (t287.length : Int) then ((pendulumkit_Insn.f k2 t296 (t287.drop (x9_2 : Int).toNat)).bind fun t304 => (if t304 = true then (pendulumlaw09_DecodeRows.j2 k2 l0 t287 t288 t291 x8_2 x9_2 (t297 != (wrap64 (t288 - x8_2)))) else (pendulumlaw09_DecodeRows.j2 k2 l0 t287 t288 t291 x8_2 x9_2 true))) else (none)) else (none)) = some r := H
                        have A23 := Aside0.mk A230
                        clear A230
                        have HC24 := Aside0.mk H
                        clear H
                        obtain ⟨i025, hi025, _, hsz25, _⟩ := info_parts info5
                        obtain ⟨A25, hcut25, hA25, hC25⟩ := print_drop_of (P := Try.prog) (Value.int .u8) 0 44 5 .i64 Try.underlying44 hi025 hsz25 A0 c0 l0 x8_2 (of_decide_eq_true (by first | (with_reducible assumption) | assumption)) (of_decide_eq_true (by first | (with_reducible assumption) | assumption)) HC0.out
                        have HR292 := Aside0.mk (Kd.C_of_reads (h1 := fun _ => rfl) (hA25 _ (Kd.reads_of_C HR0.out)))
                        have HC292 := Aside0.mk hC25
                        clear hA25 hC25 hi025 hsz25
                        go_upto_region 15 with (first | (go_at_call 28; (try rw [show (l0.length - x8_2.toNat) = (l0.drop (x8_2 : Int).toNat).length from List.length_drop.symm]); (with_reducible refine (pendulumkit_Own.calls _ _ (l0.drop (x8_2 : Int).toNat) t293 _ ?side1 ?side2 A22.out).mono ?_); (case side1 => repeat (first | exact (Kd.C_below HR292.out HB.out) | (with_reducible refine Kd.C_alloc ?_ _) | (with_reducible refine Kd.C_drewN ?_ _) | (with_reducible refine Kd.C_drew ?_))); (case side2 => exact HC292.out); rintro e w26 ⟨v294, rfl, ho0, hb⟩; have n0_ := Aside0.mk (Kd.R_below (by (with_reducible repeat (first | apply Kd.R_alloc | apply Kd.R_drewN | apply Kd.R_drew)); exact HO_5.out) hb); have n1_ := Aside0.mk (Kd.R_lower ho0 (below_size (by repeat (first | (with_reducible first | exact HB.out | apply below_alloc | apply pw_below_drewN | apply below_drew1) | exact HB.out)))); have n2_ := Aside0.mk (below_step (by repeat (first | (with_reducible first | exact HB.out | apply below_alloc | apply pw_below_drewN | apply below_drew1) | exact HB.out)) hb); clear HO_5; clear HB; have HO_5 := n0_; have HO295 := n1_; have HB := n2_; clear n0_ n1_ n2_; (try clear hb); (try clear hb2); (try clear hk); (try clear hi); (try clear ho0); obtain ⟨Ao27, co27, eo27⟩ := Kd.R_slice HO295.out; subst eo27) | (go_at_call 31; (with_reducible refine (decode_All.calls k2 _ _ t293 t296 t297 _ ?side1 ?side2 A23.out).mono ?_); (case side1 => repeat (first | exact (Kd.R_reads' HO295.out).2.2 | (with_reducible refine Kd.C_alloc ?_ _) | (with_reducible refine Kd.C_drewN ?_ _) | (with_reducible refine Kd.C_drew ?_))); (case side2 => exact (Kd.R_reads' HO295.out).2.1); rintro e w28 ⟨v298, rfl, ho0, hb⟩; have n0_ := Aside0.mk (Kd.R_elder' (by (with_reducible repeat (first | apply Kd.R_alloc | apply Kd.R_drewN | apply Kd.R_drew)); exact HO_5.out) (Kd.R_base ho0) hb); have n1_ := Aside0.mk (Kd.R_below (by (with_reducible repeat (first | apply Kd.R_alloc | apply Kd.R_drewN | apply Kd.R_drew)); exact HO295.out) hb); have n2_ := Aside0.mk (Kd.R_lower (Kd.R_new' ho0 (Kd.R_lt (by (with_reducible repeat (first | apply Kd.R_alloc | apply Kd.R_drewN | apply Kd.R_drew)); exact HO_5.out))) (below_size (by repeat (first | (with_reducible first | exact HB.out | apply below_alloc | apply pw_below_drewN | apply below_drew1) | exact HB.out)))); have n3_ := Aside0.mk (below_step (by repeat (first | (with_reducible first | exact HB.out | apply below_alloc | apply pw_below_drewN | apply below_drew1) | exact HB.out)) hb); clear HO_5; clear HO295; clear HB; have HO_5 := n0_; have HO295 := n1_; have HO299 := n2_; have HB := n3_; clear n0_ n1_ n2_ n3_; (try clear hb); (try clear hb2); (try clear hk); (try clear hi); (try clear ho0)))
                        repeat (go_quiet (first | (go_at_call 28; (try rw [show (l0.length - x8_2.toNat) = (l0.drop (x8_2 : Int).toNat).length from List.length_drop.symm]); (with_reducible refine (pendulumkit_Own.calls _ _ (l0.drop (x8_2 : Int).toNat) t293 _ ?side1 ?side2 A22.out).mono ?_); (case side1 => repeat (first | exact (Kd.C_below HR292.out HB.out) | (with_reducible refine Kd.C_alloc ?_ _) | (with_reducible refine Kd.C_drewN ?_ _) | (with_reducible refine Kd.C_drew ?_))); (case side2 => exact HC292.out); rintro e w26 ⟨v294, rfl, ho0, hb⟩; have n0_ := Aside0.mk (Kd.R_below (by (with_reducible repeat (first | apply Kd.R_alloc | apply Kd.R_drewN | apply Kd.R_drew)); exact HO_5.out) hb); have n1_ := Aside0.mk (Kd.R_lower ho0 (below_size (by repeat (first | (with_reducible first | exact HB.out | apply below_alloc | apply pw_below_drewN | apply below_drew1) | exact HB.out)))); have n2_ := Aside0.mk (below_step (by repeat (first | (with_reducible first | exact HB.out | apply below_alloc | apply pw_below_drewN | apply below_drew1) | exact HB.out)) hb); clear HO_5; clear HB; have HO_5 := n0_; have HO295 := n1_; have HB := n2_; clear n0_ n1_ n2_; (try clear hb); (try clear hb2); (try clear hk); (try clear hi); (try clear ho0); obtain ⟨Ao27, co27, eo27⟩ := Kd.R_slice HO295.out; subst eo27) | (go_at_call 31; (with_reducible refine (decode_All.calls k2 _ _ t293 t296 t297 _ ?side1 ?side2 A23.out).mono ?_); (case side1 => repeat (first | exact (Kd.R_reads' HO295.out).2.2 | (with_reducible refine Kd.C_alloc ?_ _) | (with_reducible refine Kd.C_drewN ?_ _) | (with_reducible refine Kd.C_drew ?_))); (case side2 => exact (Kd.R_reads' HO295.out).2.1); rintro e w28 ⟨v298, rfl, ho0, hb⟩; have n0_ := Aside0.mk (Kd.R_elder' (by (with_reducible repeat (first | apply Kd.R_alloc | apply Kd.R_drewN | apply Kd.R_drew)); exact HO_5.out) (Kd.R_base ho0) hb); have n1_ := Aside0.mk (Kd.R_below (by (with_reducible repeat (first | apply Kd.R_alloc | apply Kd.R_drewN | apply Kd.R_drew)); exact HO295.out) hb); have n2_ := Aside0.mk (Kd.R_lower (Kd.R_new' ho0 (Kd.R_lt (by (with_reducible repeat (first | apply Kd.R_alloc | apply Kd.R_drewN | apply Kd.R_drew)); exact HO_5.out))) (below_size (by repeat (first | (with_reducible first | exact HB.out | apply below_alloc | apply pw_below_drewN | apply below_drew1) | exact HB.out)))); have n3_ := Aside0.mk (below_step (by repeat (first | (with_reducible first | exact HB.out | apply below_alloc | apply pw_below_drewN | apply below_drew1) | exact HB.out)) hb); clear HO_5; clear HO295; clear HB; have HO_5 := n0_; have HO295 := n1_; have HO299 := n2_; have HB := n3_; clear n0_ n1_ n2_ n3_; (try clear hb); (try clear hb2); (try clear hk); (try clear hi); (try clear ho0))); go_upto_region 15 with (first | (go_at_call 28; (try rw [show (l0.length - x8_2.toNat) = (l0.drop (x8_2 : Int).toNat).length from List.length_drop.symm]); (with_reducible refine (pendulumkit_Own.calls _ _ (l0.drop (x8_2 : Int).toNat) t293 _ ?side1 ?side2 A22.out).mono ?_); (case side1 => repeat (first | exact (Kd.C_below HR292.out HB.out) | (with_reducible refine Kd.C_alloc ?_ _) | (with_reducible refine Kd.C_drewN ?_ _) | (with_reducible refine Kd.C_drew ?_))); (case side2 => exact HC292.out); rintro e w26 ⟨v294, rfl, ho0, hb⟩; have n0_ := Aside0.mk (Kd.R_below (by (with_reducible repeat (first | apply Kd.R_alloc | apply Kd.R_drewN | apply Kd.R_drew)); exact HO_5.out) hb); have n1_ := Aside0.mk (Kd.R_lower ho0 (below_size (by repeat (first | (with_reducible first | exact HB.out | apply below_alloc | apply pw_below_drewN | apply below_drew1) | exact HB.out)))); have n2_ := Aside0.mk (below_step (by repeat (first | (with_reducible first | exact HB.out | apply below_alloc | apply pw_below_drewN | apply below_drew1) | exact HB.out)) hb); clear HO_5; clear HB; have HO_5 := n0_; have HO295 := n1_; have HB := n2_; clear n0_ n1_ n2_; (try clear hb); (try clear hb2); (try clear hk); (try clear hi); (try clear ho0); obtain ⟨Ao27, co27, eo27⟩ := Kd.R_slice HO295.out; subst eo27) | (go_at_call 31; (with_reducible refine (decode_All.calls k2 _ _ t293 t296 t297 _ ?side1 ?side2 A23.out).mono ?_); (case side1 => repeat (first | exact (Kd.R_reads' HO295.out).2.2 | (with_reducible refine Kd.C_alloc ?_ _) | (with_reducible refine Kd.C_drewN ?_ _) | (with_reducible refine Kd.C_drew ?_))); (case side2 => exact (Kd.R_reads' HO295.out).2.1); rintro e w28 ⟨v298, rfl, ho0, hb⟩; have n0_ := Aside0.mk (Kd.R_elder' (by (with_reducible repeat (first | apply Kd.R_alloc | apply Kd.R_drewN | apply Kd.R_drew)); exact HO_5.out) (Kd.R_base ho0) hb); have n1_ := Aside0.mk (Kd.R_below (by (with_reducible repeat (first | apply Kd.R_alloc | apply Kd.R_drewN | apply Kd.R_drew)); exact HO295.out) hb); have n2_ := Aside0.mk (Kd.R_lower (Kd.R_new' ho0 (Kd.R_lt (by (with_reducible repeat (first | apply Kd.R_alloc | apply Kd.R_drewN | apply Kd.R_drew)); exact HO_5.out))) (below_size (by repeat (first | (with_reducible first | exact HB.out | apply below_alloc | apply pw_below_drewN | apply below_drew1) | exact HB.out)))); have n3_ := Aside0.mk (below_step (by repeat (first | (with_reducible first | exact HB.out | apply below_alloc | apply pw_below_drewN | apply below_drew1) | exact HB.out)) hb); clear HO_5; clear HO295; clear HB; have HO_5 := n0_; have HO295 := n1_; have HO299 := n2_; have HB := n3_; clear n0_ n1_ n2_ n3_; (try clear hb); (try clear hb2); (try clear hk); (try clear hi); (try clear ho0))))
                        (try simp only [Act.put, List.setIfInBounds_toArray, List.set_cons_zero, List.set_cons_succ])
                        go_cut [70] (fun v70 wc => ∃ (kq : Nat) (x70_23 : Bool), v70 = .bool x70_23 ∧ Aside0 (pendulumlaw09_DecodeRows.j2 kq l0 t287 t288 t291 x8_2 x9_2 x70_23 = some r) ∧ Aside0 (kq ≤ k2) ∧ Aside0 (Kd.R k46 46 wc w.heap.size (fun _ => True) (.slice Ao17 t287.length co17) t287) ∧ Aside0 (Below w.heap.size w wc))
                        case first =>
                          have H := HC24.out
                          clear HC24
                          by_cases c29 : 0 ≤ x9_2
                          · rw [if_pos c29] at H
                            have c29b0 := eq_true c29
                            have c29b1 : decide (0 ≤ x9_2) = true := decide_eq_true c29
                            clear c29
                            by_cases c30 : x9_2 ≤ (t287.length : Int)
                            · rw [if_pos c30] at H
                              have c30b0 := eq_true c30
                              have c30b1 : decide (x9_2 ≤ (t287.length : Int)) = true := decide_eq_true c30
                              clear c30
                              obtain ⟨y300, hy300⟩ : ∃ y_ : List (S46), y_ = (t287.drop (x9_2 : Int).toNat) := ⟨_, rfl⟩
                              replace H : ((pendulumkit_Insn.f k2 t296 y300).bind fun t304 => (if t304 = true then (pendulumlaw09_DecodeRows.j2 k2 l0 t287 t288 t291 x8_2 x9_2 (t297 != (wrap64 (t288 - x8_2)))) else (pendulumlaw09_DecodeRows.j2 k2 l0 t287 t288 t291 x8_2 x9_2 true))) = some r := by first | (rw [hy300]; with_reducible exact H) | (have H2_ := (Option.bind_some _ _).symm.trans H; rw [hy300]; with_reducible exact H2_) | (have H2_ := (Option.bind_some _ _).symm.trans H; with_reducible exact H2_) | with_reducible exact H | (rw [hy300]; exact H) | exact H
                              have Ny300 := Aside0.mk hy300
                              clear hy300
                              replace H := Option.bind_eq_some_iff.mp H
                              obtain ⟨t304, A310, H⟩ := H
                              replace H : (if t304 = true then (pendulumlaw09_DecodeRows.j2 k2 l0 t287 t288 t291 x8_2 x9_2 (t297 != (wrap64 (t288 - x8_2)))) else (pendulumlaw09_DecodeRows.j2 k2 l0 t287 t288 t291 x8_2 x9_2 true)) = some r := H
                              have A31 := Aside0.mk A310
                              clear A310
                              by_cases c32 : t304 = true
                              · subst c32
                                have H1 : (pendulumlaw09_DecodeRows.j2 k2 l0 t287 t288 t291 x8_2 x9_2 (t297 != (wrap64 (t288 - x8_2)))) = some r := by rw [if_pos rfl] at H; exact H
                                clear H
                                have H := H1
                                clear H1
                                have H' := Aside0.mk H
                                clear H
                                have q33 : (x9_2 : Int) ≤ ((t287.length : Int) : Int) := of_decide_eq_true (by first | (with_reducible assumption) | assumption)
                                obtain ⟨i033, hi033, _, hsz33, _⟩ := info_parts info46
                                have hroom33 : t287.length ≤ co17 := (Kd.R_reads' HO_5.out).2.1
                                have hC33 : Kd.C k46 _ Ao17 t287.length t287 := (Kd.R_reads' HO_5.out).2.2
                                have q033 : (0 : Int) ≤ (x9_2 : Int) := of_decide_eq_true (by first | (with_reducible assumption) | assumption)
                                have hcut33 := cut_from (P := Try.prog) 54 46 .i64 Try.underlying54 hi033 6 hsz33 Ao17 t287.length co17 x9_2 q033 q33
                                have hr33 := Kd.C_drop (m := (x9_2 : Int).toNat) (c := co17) hC33 (by omega) hroom33
                                obtain ⟨A33, hA33⟩ : ∃ A1, A1 = (if co17 = (x9_2 : Int).toNat then Ao17 else (Ao17 : Option Addr).map (·.add ((x9_2 : Int).toNat * 6))) := ⟨_, rfl⟩
                                obtain ⟨c33, hc33⟩ : ∃ c1, c1 = co17 - (x9_2 : Int).toNat := ⟨_, rfl⟩
                                have hy33 : y300.length = t287.length - (x9_2 : Int).toNat := (by rw [Ny300.out, List.length_drop] <;> omega)
                                rw [show (t287).drop (x9_2 : Int).toNat = y300 from Ny300.out.symm] at hr33
                                replace hr33 : Kd.C k46 _ A33 y300.length y300 := (by rw [hA33]; exact hr33)
                                rw [← hy33, ← hA33, ← hc33] at hcut33
                                have HR303 := Aside0.mk hr33
                                have HC303 := Aside0.mk (show y300.length ≤ c33 from by rw [hy33, hc33]; exact Nat.sub_le_sub_right hroom33 _)
                                clear hr33 hC33 hroom33 hi033 hsz33 hc33
                                have KY33 := Aside0.mk hy33
                                have KA33 := Aside0.mk hA33
                                clear hy33 hA33
                                have KL33 := Aside0.mk (show (x9_2 : Int).toNat ≤ t287.length from by omega)
                                replace q33 := eq_true q33
                                obtain ⟨Ao34, co34, eo34⟩ := Kd.R_slice HO299.out
                                subst eo34
                                go_wp2_with (first | (go_at_call 33; (with_reducible refine (pendulumkit_Insn.calls k2 _ _ t296 _ _ y300 true _ ?side1 ?side2 ?side3 ?side4 A31.out).mono ?_); (case side1 => repeat (first | exact (Kd.R_reads' HO299.out).2.2 | (with_reducible refine Kd.C_alloc ?_ _) | (with_reducible refine Kd.C_drewN ?_ _) | (with_reducible refine Kd.C_drew ?_))); (case side2 => exact (Kd.R_reads' HO299.out).2.1); (case side3 => repeat (first | exact (by repeat (first | (with_reducible exact HR303.out) | (with_reducible refine Kd.C_alloc ?_ _) | (with_reducible refine Kd.C_drewN ?_ _) | (with_reducible refine Kd.C_drew ?_) | exact HR303.out)) | (with_reducible refine Kd.C_alloc ?_ _) | (with_reducible refine Kd.C_drewN ?_ _) | (with_reducible refine Kd.C_drew ?_))); (case side4 => exact HC303.out); rintro e w' ⟨rfl, ⟨nd, rfl⟩⟩; (try first | exact ⟨rfl, _, World.drewN_drewN _ _ _⟩ | exact ⟨rfl, _, Eq.trans (World.drewN_drewN _ _ _) (congrArg (World.drewN _) (Nat.add_assoc _ _ _))⟩)))
                                repeat (go_quiet (first | (go_at_call 33; (with_reducible refine (pendulumkit_Insn.calls k2 _ _ t296 _ _ y300 true _ ?side1 ?side2 ?side3 ?side4 A31.out).mono ?_); (case side1 => repeat (first | exact (Kd.R_reads' HO299.out).2.2 | (with_reducible refine Kd.C_alloc ?_ _) | (with_reducible refine Kd.C_drewN ?_ _) | (with_reducible refine Kd.C_drew ?_))); (case side2 => exact (Kd.R_reads' HO299.out).2.1); (case side3 => repeat (first | exact (by repeat (first | (with_reducible exact HR303.out) | (with_reducible refine Kd.C_alloc ?_ _) | (with_reducible refine Kd.C_drewN ?_ _) | (with_reducible refine Kd.C_drew ?_) | exact HR303.out)) | (with_reducible refine Kd.C_alloc ?_ _) | (with_reducible refine Kd.C_drewN ?_ _) | (with_reducible refine Kd.C_drew ?_))); (case side4 => exact HC303.out); rintro e w' ⟨rfl, ⟨nd, rfl⟩⟩; (try first | exact ⟨rfl, _, World.drewN_drewN _ _ _⟩ | exact ⟨rfl, _, Eq.trans (World.drewN_drewN _ _ _) (congrArg (World.drewN _) (Nat.add_assoc _ _ _))⟩))); try go_wp2_with (first | (go_at_call 33; (with_reducible refine (pendulumkit_Insn.calls k2 _ _ t296 _ _ y300 true _ ?side1 ?side2 ?side3 ?side4 A31.out).mono ?_); (case side1 => repeat (first | exact (Kd.R_reads' HO299.out).2.2 | (with_reducible refine Kd.C_alloc ?_ _) | (with_reducible refine Kd.C_drewN ?_ _) | (with_reducible refine Kd.C_drew ?_))); (case side2 => exact (Kd.R_reads' HO299.out).2.1); (case side3 => repeat (first | exact (by repeat (first | (with_reducible exact HR303.out) | (with_reducible refine Kd.C_alloc ?_ _) | (with_reducible refine Kd.C_drewN ?_ _) | (with_reducible refine Kd.C_drew ?_) | exact HR303.out)) | (with_reducible refine Kd.C_alloc ?_ _) | (with_reducible refine Kd.C_drewN ?_ _) | (with_reducible refine Kd.C_drew ?_))); (case side4 => exact HC303.out); rintro e w' ⟨rfl, ⟨nd, rfl⟩⟩; (try first | exact ⟨rfl, _, World.drewN_drewN _ _ _⟩ | exact ⟨rfl, _, Eq.trans (World.drewN_drewN _ _ _) (congrArg (World.drewN _) (Nat.add_assoc _ _ _))⟩))))
                                go_meet
                                case rel => exact ⟨_, ((t297 != (wrap64 (t288 - x8_2)))), (by first | rfl | (simp; done) | (simp [*]; done)), H', ⟨by have := HJ8.out; have := HK2.out; first | omega | exact Nat.le_refl _⟩, ⟨by (with_reducible repeat (first | apply Kd.R_alloc | apply Kd.R_drewN | apply Kd.R_drew)); exact Kd.R_mono HO_5.out (fun _ hk => trivial)⟩, ⟨by repeat (first | (with_reducible first | exact HB.out | apply below_alloc | apply pw_below_drewN | apply below_drew1) | exact HB.out)⟩⟩
                              · replace c32 := Bool.eq_false_iff.mpr c32
                                subst c32
                                have H1 : (pendulumlaw09_DecodeRows.j2 k2 l0 t287 t288 t291 x8_2 x9_2 true) = some r := by rw [if_neg (show ¬ (false = true) by decide)] at H; exact H
                                clear H
                                have H := H1
                                clear H1
                                have H' := Aside0.mk H
                                clear H
                                have q35 : (x9_2 : Int) ≤ ((t287.length : Int) : Int) := of_decide_eq_true (by first | (with_reducible assumption) | assumption)
                                obtain ⟨i035, hi035, _, hsz35, _⟩ := info_parts info46
                                have hroom35 : t287.length ≤ co17 := (Kd.R_reads' HO_5.out).2.1
                                have hC35 : Kd.C k46 _ Ao17 t287.length t287 := (Kd.R_reads' HO_5.out).2.2
                                have q035 : (0 : Int) ≤ (x9_2 : Int) := of_decide_eq_true (by first | (with_reducible assumption) | assumption)
                                have hcut35 := cut_from (P := Try.prog) 54 46 .i64 Try.underlying54 hi035 6 hsz35 Ao17 t287.length co17 x9_2 q035 q35
                                have hr35 := Kd.C_drop (m := (x9_2 : Int).toNat) (c := co17) hC35 (by omega) hroom35
                                obtain ⟨A35, hA35⟩ : ∃ A1, A1 = (if co17 = (x9_2 : Int).toNat then Ao17 else (Ao17 : Option Addr).map (·.add ((x9_2 : Int).toNat * 6))) := ⟨_, rfl⟩
                                obtain ⟨c35, hc35⟩ : ∃ c1, c1 = co17 - (x9_2 : Int).toNat := ⟨_, rfl⟩
                                have hy35 : y300.length = t287.length - (x9_2 : Int).toNat := (by rw [Ny300.out, List.length_drop] <;> omega)
                                rw [show (t287).drop (x9_2 : Int).toNat = y300 from Ny300.out.symm] at hr35
                                replace hr35 : Kd.C k46 _ A35 y300.length y300 := (by rw [hA35]; exact hr35)
                                rw [← hy35, ← hA35, ← hc35] at hcut35
                                have HR303 := Aside0.mk hr35
                                have HC303 := Aside0.mk (show y300.length ≤ c35 from by rw [hy35, hc35]; exact Nat.sub_le_sub_right hroom35 _)
                                clear hr35 hC35 hroom35 hi035 hsz35 hc35
                                have KY35 := Aside0.mk hy35
                                have KA35 := Aside0.mk hA35
                                clear hy35 hA35
                                have KL35 := Aside0.mk (show (x9_2 : Int).toNat ≤ t287.length from by omega)
                                replace q35 := eq_true q35
                                obtain ⟨Ao36, co36, eo36⟩ := Kd.R_slice HO299.out
                                subst eo36
                                go_wp2_with (first | (go_at_call 33; (with_reducible refine (pendulumkit_Insn.calls k2 _ _ t296 _ _ y300 false _ ?side1 ?side2 ?side3 ?side4 A31.out).mono ?_); (case side1 => repeat (first | exact (Kd.R_reads' HO299.out).2.2 | (with_reducible refine Kd.C_alloc ?_ _) | (with_reducible refine Kd.C_drewN ?_ _) | (with_reducible refine Kd.C_drew ?_))); (case side2 => exact (Kd.R_reads' HO299.out).2.1); (case side3 => repeat (first | exact (by repeat (first | (with_reducible exact HR303.out) | (with_reducible refine Kd.C_alloc ?_ _) | (with_reducible refine Kd.C_drewN ?_ _) | (with_reducible refine Kd.C_drew ?_) | exact HR303.out)) | (with_reducible refine Kd.C_alloc ?_ _) | (with_reducible refine Kd.C_drewN ?_ _) | (with_reducible refine Kd.C_drew ?_))); (case side4 => exact HC303.out); rintro e w' ⟨rfl, ⟨nd, rfl⟩⟩; (try first | exact ⟨rfl, _, World.drewN_drewN _ _ _⟩ | exact ⟨rfl, _, Eq.trans (World.drewN_drewN _ _ _) (congrArg (World.drewN _) (Nat.add_assoc _ _ _))⟩)))
                                repeat (go_quiet (first | (go_at_call 33; (with_reducible refine (pendulumkit_Insn.calls k2 _ _ t296 _ _ y300 false _ ?side1 ?side2 ?side3 ?side4 A31.out).mono ?_); (case side1 => repeat (first | exact (Kd.R_reads' HO299.out).2.2 | (with_reducible refine Kd.C_alloc ?_ _) | (with_reducible refine Kd.C_drewN ?_ _) | (with_reducible refine Kd.C_drew ?_))); (case side2 => exact (Kd.R_reads' HO299.out).2.1); (case side3 => repeat (first | exact (by repeat (first | (with_reducible exact HR303.out) | (with_reducible refine Kd.C_alloc ?_ _) | (with_reducible refine Kd.C_drewN ?_ _) | (with_reducible refine Kd.C_drew ?_) | exact HR303.out)) | (with_reducible refine Kd.C_alloc ?_ _) | (with_reducible refine Kd.C_drewN ?_ _) | (with_reducible refine Kd.C_drew ?_))); (case side4 => exact HC303.out); rintro e w' ⟨rfl, ⟨nd, rfl⟩⟩; (try first | exact ⟨rfl, _, World.drewN_drewN _ _ _⟩ | exact ⟨rfl, _, Eq.trans (World.drewN_drewN _ _ _) (congrArg (World.drewN _) (Nat.add_assoc _ _ _))⟩))); try go_wp2_with (first | (go_at_call 33; (with_reducible refine (pendulumkit_Insn.calls k2 _ _ t296 _ _ y300 false _ ?side1 ?side2 ?side3 ?side4 A31.out).mono ?_); (case side1 => repeat (first | exact (Kd.R_reads' HO299.out).2.2 | (with_reducible refine Kd.C_alloc ?_ _) | (with_reducible refine Kd.C_drewN ?_ _) | (with_reducible refine Kd.C_drew ?_))); (case side2 => exact (Kd.R_reads' HO299.out).2.1); (case side3 => repeat (first | exact (by repeat (first | (with_reducible exact HR303.out) | (with_reducible refine Kd.C_alloc ?_ _) | (with_reducible refine Kd.C_drewN ?_ _) | (with_reducible refine Kd.C_drew ?_) | exact HR303.out)) | (with_reducible refine Kd.C_alloc ?_ _) | (with_reducible refine Kd.C_drewN ?_ _) | (with_reducible refine Kd.C_drew ?_))); (case side4 => exact HC303.out); rintro e w' ⟨rfl, ⟨nd, rfl⟩⟩; (try first | exact ⟨rfl, _, World.drewN_drewN _ _ _⟩ | exact ⟨rfl, _, Eq.trans (World.drewN_drewN _ _ _) (congrArg (World.drewN _) (Nat.add_assoc _ _ _))⟩))))
                                go_meet
                                case rel => exact ⟨_, (true), (by first | rfl | (simp; done) | (simp [*]; done)), H', ⟨by have := HJ8.out; have := HK2.out; first | omega | exact Nat.le_refl _⟩, ⟨by (with_reducible repeat (first | apply Kd.R_alloc | apply Kd.R_drewN | apply Kd.R_drew)); exact Kd.R_mono HO_5.out (fun _ hk => trivial)⟩, ⟨by repeat (first | (with_reducible first | exact HB.out | apply below_alloc | apply pw_below_drewN | apply below_drew1) | exact HB.out)⟩⟩
                            · rw [if_neg c30] at H
                              exact absurd H (by simp)
                          · rw [if_neg c29] at H
                            exact absurd H (by simp)
                        case rest =>
                          clear HC24
                          try clear c1
                          try clear c2
                          try clear p2
                          try clear c3
                          try clear q3
                          try clear c4
                          try clear c5
                          try clear c5b0
                          try clear c5b1
                          try clear p6
                          try clear c8
                          try clear c14
                          try clear c14b0
                          try clear c15
                          try clear c18
                          try clear c18b0
                          try clear c19
                          try clear c19b0
                          try clear c19b1
                          try clear c20
                          try clear c20b0
                          try clear c20b1
                          try clear c21
                          try clear c21b0
                          try clear c21b1
                          try clear c29
                          try clear c29b0
                          try clear c29b1
                          try clear c30
                          try clear c30b0
                          try clear c30b1
                          try clear c32
                          try clear c33
                          try clear q33
                          try clear c35
                          try clear q35
                          try clear p2
                          try clear p6
                          try clear q033
                          try clear q035
                          try clear q33
                          try clear q35
                          obtain ⟨kq, x70_23, rfl, HA, HJ23, HO_5, HB⟩ := hcut
                          cases kq with
                          | zero => exact absurd HA.out (by simp [pendulumlaw09_DecodeRows.j2])
                          | succ kj23 =>
                            have H := HA.out
                            clear HA
                            simp only [pendulumlaw09_DecodeRows.j2] at H
                            by_cases c37 : x70_23 = true
                            · subst c37
                              have H1 : (some false) = some r := by rw [if_pos rfl] at H; exact H
                              clear H
                              have H := H1
                              clear H1
                              obtain rfl := Option.some.inj H
                              go_wp2
                              repeat (go_quiet (fail); try go_wp2)
                              go_ret
                              exact ⟨by first | rfl | (simp [errW_none, errW_some] <;> rfl) | (simp [*, errW_none, errW_some] <;> rfl), by repeat (first | (with_reducible first | exact HB.out | apply below_alloc | apply pw_below_drewN | apply below_drew1) | exact HB.out)⟩
                            · replace c37 := Bool.eq_false_iff.mpr c37
                              subst c37
                              have H1 : (if 0 ≤ x9_2 then (if x9_2 < (t287.length : Int) then ((decode_Bytes.f kj23 ((rd_T46 t287 x9_2).f0) ((rd_T46 t287 x9_2).f1) ((rd_T46 t287 x9_2).f2) ((rd_T46 t287 x9_2).f3) ((rd_T46 t287 x9_2).f4) ((rd_T46 t287 x9_2).f5)).bind fun bt306 => (if bt306.2 = 0 then (if (bt306.1.length : Int) > 4 then (some false) else (if (wrap64 (x8_2 + (bt306.1.length : Int))) > t288 then (some false) else (if 0 ≤ x8_2 then (if x8_2 ≤ (wrap64 (x8_2 + (bt306.1.length : Int))) then (if (wrap64 (x8_2 + (bt306.1.length : Int))) ≤ (l0.length : Int) then (if (strOfNums bt306.1).toList = (strOfNums ((l0.take ((wrap64 (x8_2 + (bt306.1.length : Int))) : Int).toNat).drop (x8_2 : Int).toNat)).toList then (pendulumlaw09_DecodeRows.l0 kj23 l0 t287 t288 t291 (wrap64 (x8_2 + (bt306.1.length : Int))) (wrap64 (x9_2 + 1))) else (some false)) else (none)) else (none)) else (none)))) else (some false))) else (none)) else (none)) = some r := by rw [if_neg (show ¬ (false = true) by decide)] at H; exact H
                              clear H
                              have H := H1
                              clear H1
                              by_cases c38 : 0 ≤ x9_2
                              · rw [if_pos c38] at H
                                have c38b0 : decide (0 ≤ x9_2) = true := decide_eq_true c38
                                clear c38
                                by_cases c39 : x9_2 < (t287.length : Int)
                                · rw [if_pos c39] at H
                                  have c39b0 : decide (x9_2 < (t287.length : Int)) = true := decide_eq_true c39
                                  clear c39
                                  replace H := Option.bind_eq_some_iff.mp H
                                  obtain ⟨⟨t306, t309⟩, A400, H⟩ := H
                                  replace H : (if t309 = 0 then (if (t306.length : Int) > 4 then (some false) else (if (wrap64 (x8_2 + (t306.length : Int))) > t288 then (some false) else (if 0 ≤ x8_2 then (if x8_2 ≤ (wrap64 (x8_2 + (t306.length : Int))) then (if (wrap64 (x8_2 + (t306.length : Int))) ≤ (l0.length : Int) then (if (strOfNums t306).toList = (strOfNums ((l0.take ((wrap64 (x8_2 + (t306.length : Int))) : Int).toNat).drop (x8_2 : Int).toNat)).toList then (pendulumlaw09_DecodeRows.l0 kj23 l0 t287 t288 t291 (wrap64 (x8_2 + (t306.length : Int))) (wrap64 (x9_2 + 1))) else (some false)) else (none)) else (none)) else (none)))) else (some false)) = some r := H
                                  have A40 := Aside0.mk A400
                                  clear A400
                                  by_cases c41 : t309 = 0
                                  · rw [if_pos c41] at H
                                    have c41b0 : (t309 == 0) = true := beq_iff_eq.mpr c41
                                    have c41b1 : (t309 != 0) = false := bne_eq_false_iff_eq.mpr c41
                                    clear c41
                                    by_cases c42 : (t306.length : Int) > 4
                                    · rw [if_pos c42] at H
                                      have c42b0 : decide (4 < (t306.length : Int)) = true := decide_eq_true c42
                                      have c42b1 : decide (4 < t306.length) = true := decide_eq_true (by omega)
                                      clear c42
                                      obtain rfl := Option.some.inj H
                                      have p305 : 0 ≤ (x9_2 : Int) := of_decide_eq_true (by first | (with_reducible assumption) | assumption)
                                      have q305 : x9_2 < (t287.length : Int) := of_decide_eq_true (by first | (with_reducible assumption) | assumption)
                                      obtain ⟨ad305, e305, hx305_0, hx305_1, hx305_2, hx305_3, hx305_4, hx305_5⟩ := at_T46 (Kd.R_reads' HO_5.out).2.2 x9_2 p305 q305
                                      cases e305
                                      replace p305 := eq_true p305
                                      replace q305 := eq_true q305
                                      go_wp2_with (first | (go_at_call 29; (with_reducible refine (decode_Bytes.calls kj23 ((rd_T46 t287 x9_2).f0) ((rd_T46 t287 x9_2).f1) ((rd_T46 t287 x9_2).f2) ((rd_T46 t287 x9_2).f3) ((rd_T46 t287 x9_2).f4) ((rd_T46 t287 x9_2).f5) t306 t309 _ A40.out).mono ?_); rintro e w43 ⟨v307, rfl, ho0, hb⟩; have n0_ := Aside0.mk (Kd.R_below (by (with_reducible repeat (first | apply Kd.R_alloc | apply Kd.R_drewN | apply Kd.R_drew)); exact HO_5.out) hb); have n1_ := Aside0.mk (Kd.R_lower ho0 (below_size (by repeat (first | (with_reducible first | exact HB.out | apply below_alloc | apply pw_below_drewN | apply below_drew1) | exact HB.out)))); have n2_ := Aside0.mk (below_step (by repeat (first | (with_reducible first | exact HB.out | apply below_alloc | apply pw_below_drewN | apply below_drew1) | exact HB.out)) hb); clear HO_5; clear HB; have HO_5 := n0_; have HO308 := n1_; have HB := n2_; clear n0_ n1_ n2_; (try clear hb); (try clear hb2); (try clear hk); (try clear hi); (try clear ho0); obtain ⟨Ao44, co44, eo44⟩ := Kd.R_slice HO308.out; subst eo44))
                                      repeat (go_quiet (first | (go_at_call 29; (with_reducible refine (decode_Bytes.calls kj23 ((rd_T46 t287 x9_2).f0) ((rd_T46 t287 x9_2).f1) ((rd_T46 t287 x9_2).f2) ((rd_T46 t287 x9_2).f3) ((rd_T46 t287 x9_2).f4) ((rd_T46 t287 x9_2).f5) t306 t309 _ A40.out).mono ?_); rintro e w43 ⟨v307, rfl, ho0, hb⟩; have n0_ := Aside0.mk (Kd.R_below (by (with_reducible repeat (first | apply Kd.R_alloc | apply Kd.R_drewN | apply Kd.R_drew)); exact HO_5.out) hb); have n1_ := Aside0.mk (Kd.R_lower ho0 (below_size (by repeat (first | (with_reducible first | exact HB.out | apply below_alloc | apply pw_below_drewN | apply below_drew1) | exact HB.out)))); have n2_ := Aside0.mk (below_step (by repeat (first | (with_reducible first | exact HB.out | apply below_alloc | apply pw_below_drewN | apply below_drew1) | exact HB.out)) hb); clear HO_5; clear HB; have HO_5 := n0_; have HO308 := n1_; have HB := n2_; clear n0_ n1_ n2_; (try clear hb); (try clear hb2); (try clear hk); (try clear hi); (try clear ho0); obtain ⟨Ao44, co44, eo44⟩ := Kd.R_slice HO308.out; subst eo44)); try go_wp2_with (first | (go_at_call 29; (with_reducible refine (decode_Bytes.calls kj23 ((rd_T46 t287 x9_2).f0) ((rd_T46 t287 x9_2).f1) ((rd_T46 t287 x9_2).f2) ((rd_T46 t287 x9_2).f3) ((rd_T46 t287 x9_2).f4) ((rd_T46 t287 x9_2).f5) t306 t309 _ A40.out).mono ?_); rintro e w43 ⟨v307, rfl, ho0, hb⟩; have n0_ := Aside0.mk (Kd.R_below (by (with_reducible repeat (first | apply Kd.R_alloc | apply Kd.R_drewN | apply Kd.R_drew)); exact HO_5.out) hb); have n1_ := Aside0.mk (Kd.R_lower ho0 (below_size (by repeat (first | (with_reducible first | exact HB.out | apply below_alloc | apply pw_below_drewN | apply below_drew1) | exact HB.out)))); have n2_ := Aside0.mk (below_step (by repeat (first | (with_reducible first | exact HB.out | apply below_alloc | apply pw_below_drewN | apply below_drew1) | exact HB.out)) hb); clear HO_5; clear HB; have HO_5 := n0_; have HO308 := n1_; have HB := n2_; clear n0_ n1_ n2_; (try clear hb); (try clear hb2); (try clear hk); (try clear hi); (try clear ho0); obtain ⟨Ao44, co44, eo44⟩ := Kd.R_slice HO308.out; subst eo44)))
                                      go_ret
                                      exact ⟨by first | rfl | (simp [errW_none, errW_some] <;> rfl) | (simp [*, errW_none, errW_some] <;> rfl), by repeat (first | (with_reducible first | exact HB.out | apply below_alloc | apply pw_below_drewN | apply below_drew1) | exact HB.out)⟩
                                    · rw [if_neg c42] at H
                                      have c42b0 : decide (4 < (t306.length : Int)) = false := decide_eq_false c42
                                      have c42b1 : decide (4 < t306.length) = false := decide_eq_false (by omega)
                                      clear c42
                                      by_cases c45 : (wrap64 (x8_2 + (t306.length : Int))) > t288
                                      · rw [if_pos c45] at H
                                        have c45b0 : decide (t288 < (wrap64 (x8_2 + (t306.length : Int)))) = true := decide_eq_true c45
                                        clear c45
                                        obtain rfl := Option.some.inj H
                                        have p305 : 0 ≤ (x9_2 : Int) := of_decide_eq_true (by first | (with_reducible assumption) | assumption)
                                        have q305 : x9_2 < (t287.length : Int) := of_decide_eq_true (by first | (with_reducible assumption) | assumption)
                                        obtain ⟨ad305, e305, hx305_0, hx305_1, hx305_2, hx305_3, hx305_4, hx305_5⟩ := at_T46 (Kd.R_reads' HO_5.out).2.2 x9_2 p305 q305
                                        cases e305
                                        replace p305 := eq_true p305
                                        replace q305 := eq_true q305
                                        go_wp2_with (first | (go_at_call 29; (with_reducible refine (decode_Bytes.calls kj23 ((rd_T46 t287 x9_2).f0) ((rd_T46 t287 x9_2).f1) ((rd_T46 t287 x9_2).f2) ((rd_T46 t287 x9_2).f3) ((rd_T46 t287 x9_2).f4) ((rd_T46 t287 x9_2).f5) t306 t309 _ A40.out).mono ?_); rintro e w46 ⟨v307, rfl, ho0, hb⟩; have n0_ := Aside0.mk (Kd.R_below (by (with_reducible repeat (first | apply Kd.R_alloc | apply Kd.R_drewN | apply Kd.R_drew)); exact HO_5.out) hb); have n1_ := Aside0.mk (Kd.R_lower ho0 (below_size (by repeat (first | (with_reducible first | exact HB.out | apply below_alloc | apply pw_below_drewN | apply below_drew1) | exact HB.out)))); have n2_ := Aside0.mk (below_step (by repeat (first | (with_reducible first | exact HB.out | apply below_alloc | apply pw_below_drewN | apply below_drew1) | exact HB.out)) hb); clear HO_5; clear HB; have HO_5 := n0_; have HO308 := n1_; have HB := n2_; clear n0_ n1_ n2_; (try clear hb); (try clear hb2); (try clear hk); (try clear hi); (try clear ho0); obtain ⟨Ao47, co47, eo47⟩ := Kd.R_slice HO308.out; subst eo47))
                                        repeat (go_quiet (first | (go_at_call 29; (with_reducible refine (decode_Bytes.calls kj23 ((rd_T46 t287 x9_2).f0) ((rd_T46 t287 x9_2).f1) ((rd_T46 t287 x9_2).f2) ((rd_T46 t287 x9_2).f3) ((rd_T46 t287 x9_2).f4) ((rd_T46 t287 x9_2).f5) t306 t309 _ A40.out).mono ?_); rintro e w46 ⟨v307, rfl, ho0, hb⟩; have n0_ := Aside0.mk (Kd.R_below (by (with_reducible repeat (first | apply Kd.R_alloc | apply Kd.R_drewN | apply Kd.R_drew)); exact HO_5.out) hb); have n1_ := Aside0.mk (Kd.R_lower ho0 (below_size (by repeat (first | (with_reducible first | exact HB.out | apply below_alloc | apply pw_below_drewN | apply below_drew1) | exact HB.out)))); have n2_ := Aside0.mk (below_step (by repeat (first | (with_reducible first | exact HB.out | apply below_alloc | apply pw_below_drewN | apply below_drew1) | exact HB.out)) hb); clear HO_5; clear HB; have HO_5 := n0_; have HO308 := n1_; have HB := n2_; clear n0_ n1_ n2_; (try clear hb); (try clear hb2); (try clear hk); (try clear hi); (try clear ho0); obtain ⟨Ao47, co47, eo47⟩ := Kd.R_slice HO308.out; subst eo47)); try go_wp2_with (first | (go_at_call 29; (with_reducible refine (decode_Bytes.calls kj23 ((rd_T46 t287 x9_2).f0) ((rd_T46 t287 x9_2).f1) ((rd_T46 t287 x9_2).f2) ((rd_T46 t287 x9_2).f3) ((rd_T46 t287 x9_2).f4) ((rd_T46 t287 x9_2).f5) t306 t309 _ A40.out).mono ?_); rintro e w46 ⟨v307, rfl, ho0, hb⟩; have n0_ := Aside0.mk (Kd.R_below (by (with_reducible repeat (first | apply Kd.R_alloc | apply Kd.R_drewN | apply Kd.R_drew)); exact HO_5.out) hb); have n1_ := Aside0.mk (Kd.R_lower ho0 (below_size (by repeat (first | (with_reducible first | exact HB.out | apply below_alloc | apply pw_below_drewN | apply below_drew1) | exact HB.out)))); have n2_ := Aside0.mk (below_step (by repeat (first | (with_reducible first | exact HB.out | apply below_alloc | apply pw_below_drewN | apply below_drew1) | exact HB.out)) hb); clear HO_5; clear HB; have HO_5 := n0_; have HO308 := n1_; have HB := n2_; clear n0_ n1_ n2_; (try clear hb); (try clear hb2); (try clear hk); (try clear hi); (try clear ho0); obtain ⟨Ao47, co47, eo47⟩ := Kd.R_slice HO308.out; subst eo47)))
                                        go_ret
                                        exact ⟨by first | rfl | (simp [errW_none, errW_some] <;> rfl) | (simp [*, errW_none, errW_some] <;> rfl), by repeat (first | (with_reducible first | exact HB.out | apply below_alloc | apply pw_below_drewN | apply below_drew1) | exact HB.out)⟩
                                      · rw [if_neg c45] at H
                                        have c45q : (wrap64 (x8_2 + (t306.length : Int)) ≤ t288) = True := eq_true (Int.not_lt.mp c45)
                                        have c45b0 : decide (t288 < (wrap64 (x8_2 + (t306.length : Int)))) = false := decide_eq_false c45
                                        clear c45
                                        by_cases c48 : 0 ≤ x8_2
                                        · rw [if_pos c48] at H
                                          have c48b0 := eq_true c48
                                          have c48b1 : decide (0 ≤ x8_2) = true := decide_eq_true c48
                                          clear c48
                                          by_cases c49 : x8_2 ≤ (wrap64 (x8_2 + (t306.length : Int)))
                                          · rw [if_pos c49] at H
                                            have c49b0 := eq_true c49
                                            have c49b1 : decide (x8_2 ≤ (wrap64 (x8_2 + (t306.length : Int)))) = true := decide_eq_true c49
                                            by_cases c50 : (wrap64 (x8_2 + (t306.length : Int))) ≤ (l0.length : Int)
                                            · rw [if_pos c50] at H
                                              have c50b0 := eq_true c50
                                              have c50b1 : decide ((wrap64 (x8_2 + (t306.length : Int))) ≤ (l0.length : Int)) = true := decide_eq_true c50
                                              by_cases c51 : (strOfNums t306).toList = (strOfNums ((l0.take ((wrap64 (x8_2 + (t306.length : Int))) : Int).toNat).drop (x8_2 : Int).toNat)).toList
                                              · rw [if_pos c51] at H
                                                have c51b0 : ((strOfNums t306).toList == (strOfNums ((l0.take ((wrap64 (x8_2 + (t306.length : Int))) : Int).toNat).drop (x8_2 : Int).toNat)).toList) = true := beq_iff_eq.mpr c51
                                                have c51b1 : ((strOfNums t306).toList != (strOfNums ((l0.take ((wrap64 (x8_2 + (t306.length : Int))) : Int).toNat).drop (x8_2 : Int).toNat)).toList) = false := bne_eq_false_iff_eq.mpr c51
                                                clear c51
                                                have H' := Aside0.mk H
                                                clear H
                                                have p305 : 0 ≤ (x9_2 : Int) := of_decide_eq_true (by first | (with_reducible assumption) | assumption)
                                                have q305 : x9_2 < (t287.length : Int) := of_decide_eq_true (by first | (with_reducible assumption) | assumption)
                                                obtain ⟨ad305, e305, hx305_0, hx305_1, hx305_2, hx305_3, hx305_4, hx305_5⟩ := at_T46 (Kd.R_reads' HO_5.out).2.2 x9_2 p305 q305
                                                cases e305
                                                replace p305 := eq_true p305
                                                replace q305 := eq_true q305
                                                have hiw := i64_w
                                                go_wp2_with (first | (go_at_call 29; (with_reducible refine (decode_Bytes.calls kj23 ((rd_T46 t287 x9_2).f0) ((rd_T46 t287 x9_2).f1) ((rd_T46 t287 x9_2).f2) ((rd_T46 t287 x9_2).f3) ((rd_T46 t287 x9_2).f4) ((rd_T46 t287 x9_2).f5) t306 t309 _ A40.out).mono ?_); rintro e w52 ⟨v307, rfl, ho0, hb⟩; have n0_ := Aside0.mk (Kd.R_below (by (with_reducible repeat (first | apply Kd.R_alloc | apply Kd.R_drewN | apply Kd.R_drew)); exact HO_5.out) hb); have n1_ := Aside0.mk (Kd.R_lower ho0 (below_size (by repeat (first | (with_reducible first | exact HB.out | apply below_alloc | apply pw_below_drewN | apply below_drew1) | exact HB.out)))); have n2_ := Aside0.mk (below_step (by repeat (first | (with_reducible first | exact HB.out | apply below_alloc | apply pw_below_drewN | apply below_drew1) | exact HB.out)) hb); clear HO_5; clear HB; have HO_5 := n0_; have HO308 := n1_; have HB := n2_; clear n0_ n1_ n2_; (try clear hb); (try clear hb2); (try clear hk); (try clear hi); (try clear ho0); obtain ⟨Ao53, co53, eo53⟩ := Kd.R_slice HO308.out; subst eo53; have hcv54 := own_string (P := Try.prog) Try.underlying44 Try.underlying5 Try.underlying9 (Kd.own_of_R HO308.out); have hcvq54 := fun nq : Nat => own_string (P := Try.prog) Try.underlying44 Try.underlying5 Try.underlying9 (Kd.own_of_R (Kd.R_drewN HO308.out nq)); obtain ⟨i055, hi055, _, hsz55, _⟩ := info_parts info5; obtain ⟨A55, hcut55, hA55, hC55⟩ := print_mid_of (P := Try.prog) (Value.int .u8) 0 44 5 .i64 .i64 Try.underlying44 hi055 hsz55 A0 c0 l0 x8_2 (wrap64 (x8_2 + (t306.length : Int))) (of_decide_eq_true (by first | (with_reducible assumption) | assumption)) (by first | omega | exact of_decide_eq_true (by first | (with_reducible assumption) | assumption)) (of_decide_eq_true (by first | (with_reducible assumption) | assumption)) HC0.out; have HR310 := Aside0.mk (Kd.C_of_reads (h1 := fun _ => rfl) (hA55 _ (Kd.reads_of_C HR0.out))); have HC310 := Aside0.mk hC55; clear hA55 hC55 hi055 hsz55; have hcv56 := Kd.C_string (P := Try.prog) (A := A55) (c := (c0 - x8_2.toNat)) Try.underlying44 Try.underlying5 Try.underlying9 (Kd.C_below HR310.out HB.out); have hcvq56 := fun nq : Nat => Kd.C_string (P := Try.prog) (A := A55) (c := (c0 - x8_2.toNat)) Try.underlying44 Try.underlying5 Try.underlying9 (Kd.C_drewN (Kd.C_below HR310.out HB.out) nq); have hcvr56 := hcvq56; simp only [List.length_drop, List.length_take] at hcvr56; rw [Nat.min_eq_left (show (wrap64 (x8_2 + (t306.length : Int))).toNat ≤ l0.length from by have q : (wrap64 (x8_2 + (t306.length : Int))) ≤ (l0.length : Int) := of_decide_eq_true (by assumption); omega)] at hcvr56))
                                                repeat (go_quiet (first | (go_at_call 29; (with_reducible refine (decode_Bytes.calls kj23 ((rd_T46 t287 x9_2).f0) ((rd_T46 t287 x9_2).f1) ((rd_T46 t287 x9_2).f2) ((rd_T46 t287 x9_2).f3) ((rd_T46 t287 x9_2).f4) ((rd_T46 t287 x9_2).f5) t306 t309 _ A40.out).mono ?_); rintro e w52 ⟨v307, rfl, ho0, hb⟩; have n0_ := Aside0.mk (Kd.R_below (by (with_reducible repeat (first | apply Kd.R_alloc | apply Kd.R_drewN | apply Kd.R_drew)); exact HO_5.out) hb); have n1_ := Aside0.mk (Kd.R_lower ho0 (below_size (by repeat (first | (with_reducible first | exact HB.out | apply below_alloc | apply pw_below_drewN | apply below_drew1) | exact HB.out)))); have n2_ := Aside0.mk (below_step (by repeat (first | (with_reducible first | exact HB.out | apply below_alloc | apply pw_below_drewN | apply below_drew1) | exact HB.out)) hb); clear HO_5; clear HB; have HO_5 := n0_; have HO308 := n1_; have HB := n2_; clear n0_ n1_ n2_; (try clear hb); (try clear hb2); (try clear hk); (try clear hi); (try clear ho0); obtain ⟨Ao53, co53, eo53⟩ := Kd.R_slice HO308.out; subst eo53; have hcv54 := own_string (P := Try.prog) Try.underlying44 Try.underlying5 Try.underlying9 (Kd.own_of_R HO308.out); have hcvq54 := fun nq : Nat => own_string (P := Try.prog) Try.underlying44 Try.underlying5 Try.underlying9 (Kd.own_of_R (Kd.R_drewN HO308.out nq)); obtain ⟨i055, hi055, _, hsz55, _⟩ := info_parts info5; obtain ⟨A55, hcut55, hA55, hC55⟩ := print_mid_of (P := Try.prog) (Value.int .u8) 0 44 5 .i64 .i64 Try.underlying44 hi055 hsz55 A0 c0 l0 x8_2 (wrap64 (x8_2 + (t306.length : Int))) (of_decide_eq_true (by first | (with_reducible assumption) | assumption)) (by first | omega | exact of_decide_eq_true (by first | (with_reducible assumption) | assumption)) (of_decide_eq_true (by first | (with_reducible assumption) | assumption)) HC0.out; have HR310 := Aside0.mk (Kd.C_of_reads (h1 := fun _ => rfl) (hA55 _ (Kd.reads_of_C HR0.out))); have HC310 := Aside0.mk hC55; clear hA55 hC55 hi055 hsz55; have hcv56 := Kd.C_string (P := Try.prog) (A := A55) (c := (c0 - x8_2.toNat)) Try.underlying44 Try.underlying5 Try.underlying9 (Kd.C_below HR310.out HB.out); have hcvq56 := fun nq : Nat => Kd.C_string (P := Try.prog) (A := A55) (c := (c0 - x8_2.toNat)) Try.underlying44 Try.underlying5 Try.underlying9 (Kd.C_drewN (Kd.C_below HR310.out HB.out) nq); have hcvr56 := hcvq56; simp only [List.length_drop, List.length_take] at hcvr56; rw [Nat.min_eq_left (show (wrap64 (x8_2 + (t306.length : Int))).toNat ≤ l0.length from by have q : (wrap64 (x8_2 + (t306.length : Int))) ≤ (l0.length : Int) := of_decide_eq_true (by assumption); omega)] at hcvr56)); try go_wp2_with (first | (go_at_call 29; (with_reducible refine (decode_Bytes.calls kj23 ((rd_T46 t287 x9_2).f0) ((rd_T46 t287 x9_2).f1) ((rd_T46 t287 x9_2).f2) ((rd_T46 t287 x9_2).f3) ((rd_T46 t287 x9_2).f4) ((rd_T46 t287 x9_2).f5) t306 t309 _ A40.out).mono ?_); rintro e w52 ⟨v307, rfl, ho0, hb⟩; have n0_ := Aside0.mk (Kd.R_below (by (with_reducible repeat (first | apply Kd.R_alloc | apply Kd.R_drewN | apply Kd.R_drew)); exact HO_5.out) hb); have n1_ := Aside0.mk (Kd.R_lower ho0 (below_size (by repeat (first | (with_reducible first | exact HB.out | apply below_alloc | apply pw_below_drewN | apply below_drew1) | exact HB.out)))); have n2_ := Aside0.mk (below_step (by repeat (first | (with_reducible first | exact HB.out | apply below_alloc | apply pw_below_drewN | apply below_drew1) | exact HB.out)) hb); clear HO_5; clear HB; have HO_5 := n0_; have HO308 := n1_; have HB := n2_; clear n0_ n1_ n2_; (try clear hb); (try clear hb2); (try clear hk); (try clear hi); (try clear ho0); obtain ⟨Ao53, co53, eo53⟩ := Kd.R_slice HO308.out; subst eo53; have hcv54 := own_string (P := Try.prog) Try.underlying44 Try.underlying5 Try.underlying9 (Kd.own_of_R HO308.out); have hcvq54 := fun nq : Nat => own_string (P := Try.prog) Try.underlying44 Try.underlying5 Try.underlying9 (Kd.own_of_R (Kd.R_drewN HO308.out nq)); obtain ⟨i055, hi055, _, hsz55, _⟩ := info_parts info5; obtain ⟨A55, hcut55, hA55, hC55⟩ := print_mid_of (P := Try.prog) (Value.int .u8) 0 44 5 .i64 .i64 Try.underlying44 hi055 hsz55 A0 c0 l0 x8_2 (wrap64 (x8_2 + (t306.length : Int))) (of_decide_eq_true (by first | (with_reducible assumption) | assumption)) (by first | omega | exact of_decide_eq_true (by first | (with_reducible assumption) | assumption)) (of_decide_eq_true (by first | (with_reducible assumption) | assumption)) HC0.out; have HR310 := Aside0.mk (Kd.C_of_reads (h1 := fun _ => rfl) (hA55 _ (Kd.reads_of_C HR0.out))); have HC310 := Aside0.mk hC55; clear hA55 hC55 hi055 hsz55; have hcv56 := Kd.C_string (P := Try.prog) (A := A55) (c := (c0 - x8_2.toNat)) Try.underlying44 Try.underlying5 Try.underlying9 (Kd.C_below HR310.out HB.out); have hcvq56 := fun nq : Nat => Kd.C_string (P := Try.prog) (A := A55) (c := (c0 - x8_2.toNat)) Try.underlying44 Try.underlying5 Try.underlying9 (Kd.C_drewN (Kd.C_below HR310.out HB.out) nq); have hcvr56 := hcvq56; simp only [List.length_drop, List.length_take] at hcvr56; rw [Nat.min_eq_left (show (wrap64 (x8_2 + (t306.length : Int))).toNat ≤ l0.length from by have q : (wrap64 (x8_2 + (t306.length : Int))) ≤ (l0.length : Int) := of_decide_eq_true (by assumption); omega)] at hcvr56)))
                                                go_roundg kj23
                                                case measure => have := HJ8.out; have := HK2.out; have := HJ23.out; omega
                                                case rel => exact ⟨(wrap64 (x8_2 + (t306.length : Int))), (wrap64 (x9_2 + 1)), (by first | rfl | (simp; done) | (simp [*]; done)), (by first | rfl | (simp; done) | (simp [*]; done)), H', ⟨by have := HJ8.out; have := HK2.out; have := HJ23.out; omega⟩, ⟨by (with_reducible repeat (first | apply Kd.R_alloc | apply Kd.R_drewN | apply Kd.R_drew)); exact HO_5.out⟩, ⟨by repeat (first | (with_reducible first | exact HB.out | apply below_alloc | apply pw_below_drewN | apply below_drew1) | exact HB.out)⟩⟩
                                              · rw [if_neg c51] at H
                                                have c51b0 : ((strOfNums t306).toList == (strOfNums ((l0.take ((wrap64 (x8_2 + (t306.length : Int))) : Int).toNat).drop (x8_2 : Int).toNat)).toList) = false := beq_eq_false_iff_ne.mpr c51
                                                have c51b1 : ((strOfNums t306).toList != (strOfNums ((l0.take ((wrap64 (x8_2 + (t306.length : Int))) : Int).toNat).drop (x8_2 : Int).toNat)).toList) = true := bne_iff_ne.mpr c51
                                                obtain rfl := Option.some.inj H
                                                have p305 : 0 ≤ (x9_2 : Int) := of_decide_eq_true (by first | (with_reducible assumption) | assumption)
                                                have q305 : x9_2 < (t287.length : Int) := of_decide_eq_true (by first | (with_reducible assumption) | assumption)
                                                obtain ⟨ad305, e305, hx305_0, hx305_1, hx305_2, hx305_3, hx305_4, hx305_5⟩ := at_T46 (Kd.R_reads' HO_5.out).2.2 x9_2 p305 q305
                                                cases e305
                                                replace p305 := eq_true p305
                                                replace q305 := eq_true q305
                                                have hiw := i64_w
                                                go_wp2_with (first | (go_at_call 29; (with_reducible refine (decode_Bytes.calls kj23 ((rd_T46 t287 x9_2).f0) ((rd_T46 t287 x9_2).f1) ((rd_T46 t287 x9_2).f2) ((rd_T46 t287 x9_2).f3) ((rd_T46 t287 x9_2).f4) ((rd_T46 t287 x9_2).f5) t306 t309 _ A40.out).mono ?_); rintro e w57 ⟨v307, rfl, ho0, hb⟩; have n0_ := Aside0.mk (Kd.R_below (by (with_reducible repeat (first | apply Kd.R_alloc | apply Kd.R_drewN | apply Kd.R_drew)); exact HO_5.out) hb); have n1_ := Aside0.mk (Kd.R_lower ho0 (below_size (by repeat (first | (with_reducible first | exact HB.out | apply below_alloc | apply pw_below_drewN | apply below_drew1) | exact HB.out)))); have n2_ := Aside0.mk (below_step (by repeat (first | (with_reducible first | exact HB.out | apply below_alloc | apply pw_below_drewN | apply below_drew1) | exact HB.out)) hb); clear HO_5; clear HB; have HO_5 := n0_; have HO308 := n1_; have HB := n2_; clear n0_ n1_ n2_; (try clear hb); (try clear hb2); (try clear hk); (try clear hi); (try clear ho0); obtain ⟨Ao58, co58, eo58⟩ := Kd.R_slice HO308.out; subst eo58; have hcv59 := own_string (P := Try.prog) Try.underlying44 Try.underlying5 Try.underlying9 (Kd.own_of_R HO308.out); have hcvq59 := fun nq : Nat => own_string (P := Try.prog) Try.underlying44 Try.underlying5 Try.underlying9 (Kd.own_of_R (Kd.R_drewN HO308.out nq)); obtain ⟨i060, hi060, _, hsz60, _⟩ := info_parts info5; obtain ⟨A60, hcut60, hA60, hC60⟩ := print_mid_of (P := Try.prog) (Value.int .u8) 0 44 5 .i64 .i64 Try.underlying44 hi060 hsz60 A0 c0 l0 x8_2 (wrap64 (x8_2 + (t306.length : Int))) (of_decide_eq_true (by first | (with_reducible assumption) | assumption)) (by first | omega | exact of_decide_eq_true (by first | (with_reducible assumption) | assumption)) (of_decide_eq_true (by first | (with_reducible assumption) | assumption)) HC0.out; have HR310 := Aside0.mk (Kd.C_of_reads (h1 := fun _ => rfl) (hA60 _ (Kd.reads_of_C HR0.out))); have HC310 := Aside0.mk hC60; clear hA60 hC60 hi060 hsz60; have hcv61 := Kd.C_string (P := Try.prog) (A := A60) (c := (c0 - x8_2.toNat)) Try.underlying44 Try.underlying5 Try.underlying9 (Kd.C_below HR310.out HB.out); have hcvq61 := fun nq : Nat => Kd.C_string (P := Try.prog) (A := A60) (c := (c0 - x8_2.toNat)) Try.underlying44 Try.underlying5 Try.underlying9 (Kd.C_drewN (Kd.C_below HR310.out HB.out) nq); have hcvr61 := hcvq61; simp only [List.length_drop, List.length_take] at hcvr61; rw [Nat.min_eq_left (show (wrap64 (x8_2 + (t306.length : Int))).toNat ≤ l0.length from by have q : (wrap64 (x8_2 + (t306.length : Int))) ≤ (l0.length : Int) := of_decide_eq_true (by assumption); omega)] at hcvr61))
                                                repeat (go_quiet (first | (go_at_call 29; (with_reducible refine (decode_Bytes.calls kj23 ((rd_T46 t287 x9_2).f0) ((rd_T46 t287 x9_2).f1) ((rd_T46 t287 x9_2).f2) ((rd_T46 t287 x9_2).f3) ((rd_T46 t287 x9_2).f4) ((rd_T46 t287 x9_2).f5) t306 t309 _ A40.out).mono ?_); rintro e w57 ⟨v307, rfl, ho0, hb⟩; have n0_ := Aside0.mk (Kd.R_below (by (with_reducible repeat (first | apply Kd.R_alloc | apply Kd.R_drewN | apply Kd.R_drew)); exact HO_5.out) hb); have n1_ := Aside0.mk (Kd.R_lower ho0 (below_size (by repeat (first | (with_reducible first | exact HB.out | apply below_alloc | apply pw_below_drewN | apply below_drew1) | exact HB.out)))); have n2_ := Aside0.mk (below_step (by repeat (first | (with_reducible first | exact HB.out | apply below_alloc | apply pw_below_drewN | apply below_drew1) | exact HB.out)) hb); clear HO_5; clear HB; have HO_5 := n0_; have HO308 := n1_; have HB := n2_; clear n0_ n1_ n2_; (try clear hb); (try clear hb2); (try clear hk); (try clear hi); (try clear ho0); obtain ⟨Ao58, co58, eo58⟩ := Kd.R_slice HO308.out; subst eo58; have hcv59 := own_string (P := Try.prog) Try.underlying44 Try.underlying5 Try.underlying9 (Kd.own_of_R HO308.out); have hcvq59 := fun nq : Nat => own_string (P := Try.prog) Try.underlying44 Try.underlying5 Try.underlying9 (Kd.own_of_R (Kd.R_drewN HO308.out nq)); obtain ⟨i060, hi060, _, hsz60, _⟩ := info_parts info5; obtain ⟨A60, hcut60, hA60, hC60⟩ := print_mid_of (P := Try.prog) (Value.int .u8) 0 44 5 .i64 .i64 Try.underlying44 hi060 hsz60 A0 c0 l0 x8_2 (wrap64 (x8_2 + (t306.length : Int))) (of_decide_eq_true (by first | (with_reducible assumption) | assumption)) (by first | omega | exact of_decide_eq_true (by first | (with_reducible assumption) | assumption)) (of_decide_eq_true (by first | (with_reducible assumption) | assumption)) HC0.out; have HR310 := Aside0.mk (Kd.C_of_reads (h1 := fun _ => rfl) (hA60 _ (Kd.reads_of_C HR0.out))); have HC310 := Aside0.mk hC60; clear hA60 hC60 hi060 hsz60; have hcv61 := Kd.C_string (P := Try.prog) (A := A60) (c := (c0 - x8_2.toNat)) Try.underlying44 Try.underlying5 Try.underlying9 (Kd.C_below HR310.out HB.out); have hcvq61 := fun nq : Nat => Kd.C_string (P := Try.prog) (A := A60) (c := (c0 - x8_2.toNat)) Try.underlying44 Try.underlying5 Try.underlying9 (Kd.C_drewN (Kd.C_below HR310.out HB.out) nq); have hcvr61 := hcvq61; simp only [List.length_drop, List.length_take] at hcvr61; rw [Nat.min_eq_left (show (wrap64 (x8_2 + (t306.length : Int))).toNat ≤ l0.length from by have q : (wrap64 (x8_2 + (t306.length : Int))) ≤ (l0.length : Int) := of_decide_eq_true (by assumption); omega)] at hcvr61)); try go_wp2_with (first | (go_at_call 29; (with_reducible refine (decode_Bytes.calls kj23 ((rd_T46 t287 x9_2).f0) ((rd_T46 t287 x9_2).f1) ((rd_T46 t287 x9_2).f2) ((rd_T46 t287 x9_2).f3) ((rd_T46 t287 x9_2).f4) ((rd_T46 t287 x9_2).f5) t306 t309 _ A40.out).mono ?_); rintro e w57 ⟨v307, rfl, ho0, hb⟩; have n0_ := Aside0.mk (Kd.R_below (by (with_reducible repeat (first | apply Kd.R_alloc | apply Kd.R_drewN | apply Kd.R_drew)); exact HO_5.out) hb); have n1_ := Aside0.mk (Kd.R_lower ho0 (below_size (by repeat (first | (with_reducible first | exact HB.out | apply below_alloc | apply pw_below_drewN | apply below_drew1) | exact HB.out)))); have n2_ := Aside0.mk (below_step (by repeat (first | (with_reducible first | exact HB.out | apply below_alloc | apply pw_below_drewN | apply below_drew1) | exact HB.out)) hb); clear HO_5; clear HB; have HO_5 := n0_; have HO308 := n1_; have HB := n2_; clear n0_ n1_ n2_; (try clear hb); (try clear hb2); (try clear hk); (try clear hi); (try clear ho0); obtain ⟨Ao58, co58, eo58⟩ := Kd.R_slice HO308.out; subst eo58; have hcv59 := own_string (P := Try.prog) Try.underlying44 Try.underlying5 Try.underlying9 (Kd.own_of_R HO308.out); have hcvq59 := fun nq : Nat => own_string (P := Try.prog) Try.underlying44 Try.underlying5 Try.underlying9 (Kd.own_of_R (Kd.R_drewN HO308.out nq)); obtain ⟨i060, hi060, _, hsz60, _⟩ := info_parts info5; obtain ⟨A60, hcut60, hA60, hC60⟩ := print_mid_of (P := Try.prog) (Value.int .u8) 0 44 5 .i64 .i64 Try.underlying44 hi060 hsz60 A0 c0 l0 x8_2 (wrap64 (x8_2 + (t306.length : Int))) (of_decide_eq_true (by first | (with_reducible assumption) | assumption)) (by first | omega | exact of_decide_eq_true (by first | (with_reducible assumption) | assumption)) (of_decide_eq_true (by first | (with_reducible assumption) | assumption)) HC0.out; have HR310 := Aside0.mk (Kd.C_of_reads (h1 := fun _ => rfl) (hA60 _ (Kd.reads_of_C HR0.out))); have HC310 := Aside0.mk hC60; clear hA60 hC60 hi060 hsz60; have hcv61 := Kd.C_string (P := Try.prog) (A := A60) (c := (c0 - x8_2.toNat)) Try.underlying44 Try.underlying5 Try.underlying9 (Kd.C_below HR310.out HB.out); have hcvq61 := fun nq : Nat => Kd.C_string (P := Try.prog) (A := A60) (c := (c0 - x8_2.toNat)) Try.underlying44 Try.underlying5 Try.underlying9 (Kd.C_drewN (Kd.C_below HR310.out HB.out) nq); have hcvr61 := hcvq61; simp only [List.length_drop, List.length_take] at hcvr61; rw [Nat.min_eq_left (show (wrap64 (x8_2 + (t306.length : Int))).toNat ≤ l0.length from by have q : (wrap64 (x8_2 + (t306.length : Int))) ≤ (l0.length : Int) := of_decide_eq_true (by assumption); omega)] at hcvr61)))
                                                go_ret
                                                exact ⟨by first | rfl | (simp [errW_none, errW_some] <;> rfl) | (simp [*, errW_none, errW_some] <;> rfl), by repeat (first | (with_reducible first | exact HB.out | apply below_alloc | apply pw_below_drewN | apply below_drew1) | exact HB.out)⟩
                                            · rw [if_neg c50] at H
                                              exact absurd H (by simp)
                                          · rw [if_neg c49] at H
                                            exact absurd H (by simp)
                                        · rw [if_neg c48] at H
                                          exact absurd H (by simp)
                                  · rw [if_neg c41] at H
                                    have c41b0 : (t309 == 0) = false := beq_eq_false_iff_ne.mpr c41
                                    have c41b1 : (t309 != 0) = true := bne_iff_ne.mpr c41
                                    obtain rfl := Option.some.inj H
                                    have p305 : 0 ≤ (x9_2 : Int) := of_decide_eq_true (by first | (with_reducible assumption) | assumption)
                                    have q305 : x9_2 < (t287.length : Int) := of_decide_eq_true (by first | (with_reducible assumption) | assumption)
                                    obtain ⟨ad305, e305, hx305_0, hx305_1, hx305_2, hx305_3, hx305_4, hx305_5⟩ := at_T46 (Kd.R_reads' HO_5.out).2.2 x9_2 p305 q305
                                    cases e305
                                    replace p305 := eq_true p305
                                    replace q305 := eq_true q305
                                    go_wp2_with (first | (go_at_call 29; (with_reducible refine (decode_Bytes.calls kj23 ((rd_T46 t287 x9_2).f0) ((rd_T46 t287 x9_2).f1) ((rd_T46 t287 x9_2).f2) ((rd_T46 t287 x9_2).f3) ((rd_T46 t287 x9_2).f4) ((rd_T46 t287 x9_2).f5) t306 t309 _ A40.out).mono ?_); rintro e w62 ⟨v307, rfl, ho0, hb⟩; have n0_ := Aside0.mk (Kd.R_below (by (with_reducible repeat (first | apply Kd.R_alloc | apply Kd.R_drewN | apply Kd.R_drew)); exact HO_5.out) hb); have n1_ := Aside0.mk (Kd.R_lower ho0 (below_size (by repeat (first | (with_reducible first | exact HB.out | apply below_alloc | apply pw_below_drewN | apply below_drew1) | exact HB.out)))); have n2_ := Aside0.mk (below_step (by repeat (first | (with_reducible first | exact HB.out | apply below_alloc | apply pw_below_drewN | apply below_drew1) | exact HB.out)) hb); clear HO_5; clear HB; have HO_5 := n0_; have HO308 := n1_; have HB := n2_; clear n0_ n1_ n2_; (try clear hb); (try clear hb2); (try clear hk); (try clear hi); (try clear ho0)))
                                    repeat (go_quiet (first | (go_at_call 29; (with_reducible refine (decode_Bytes.calls kj23 ((rd_T46 t287 x9_2).f0) ((rd_T46 t287 x9_2).f1) ((rd_T46 t287 x9_2).f2) ((rd_T46 t287 x9_2).f3) ((rd_T46 t287 x9_2).f4) ((rd_T46 t287 x9_2).f5) t306 t309 _ A40.out).mono ?_); rintro e w62 ⟨v307, rfl, ho0, hb⟩; have n0_ := Aside0.mk (Kd.R_below (by (with_reducible repeat (first | apply Kd.R_alloc | apply Kd.R_drewN | apply Kd.R_drew)); exact HO_5.out) hb); have n1_ := Aside0.mk (Kd.R_lower ho0 (below_size (by repeat (first | (with_reducible first | exact HB.out | apply below_alloc | apply pw_below_drewN | apply below_drew1) | exact HB.out)))); have n2_ := Aside0.mk (below_step (by repeat (first | (with_reducible first | exact HB.out | apply below_alloc | apply pw_below_drewN | apply below_drew1) | exact HB.out)) hb); clear HO_5; clear HB; have HO_5 := n0_; have HO308 := n1_; have HB := n2_; clear n0_ n1_ n2_; (try clear hb); (try clear hb2); (try clear hk); (try clear hi); (try clear ho0))); try go_wp2_with (first | (go_at_call 29; (with_reducible refine (decode_Bytes.calls kj23 ((rd_T46 t287 x9_2).f0) ((rd_T46 t287 x9_2).f1) ((rd_T46 t287 x9_2).f2) ((rd_T46 t287 x9_2).f3) ((rd_T46 t287 x9_2).f4) ((rd_T46 t287 x9_2).f5) t306 t309 _ A40.out).mono ?_); rintro e w62 ⟨v307, rfl, ho0, hb⟩; have n0_ := Aside0.mk (Kd.R_below (by (with_reducible repeat (first | apply Kd.R_alloc | apply Kd.R_drewN | apply Kd.R_drew)); exact HO_5.out) hb); have n1_ := Aside0.mk (Kd.R_lower ho0 (below_size (by repeat (first | (with_reducible first | exact HB.out | apply below_alloc | apply pw_below_drewN | apply below_drew1) | exact HB.out)))); have n2_ := Aside0.mk (below_step (by repeat (first | (with_reducible first | exact HB.out | apply below_alloc | apply pw_below_drewN | apply below_drew1) | exact HB.out)) hb); clear HO_5; clear HB; have HO_5 := n0_; have HO308 := n1_; have HB := n2_; clear n0_ n1_ n2_; (try clear hb); (try clear hb2); (try clear hk); (try clear hi); (try clear ho0))))
                                    go_ret
                                    exact ⟨by first | rfl | (simp [errW_none, errW_some] <;> rfl) | (simp [*, errW_none, errW_some] <;> rfl), by repeat (first | (with_reducible first | exact HB.out | apply below_alloc | apply pw_below_drewN | apply below_drew1) | exact HB.out)⟩
                                · rw [if_neg c39] at H
                                  exact absurd H (by simp)
                              · rw [if_neg c38] at H
                                exact absurd H (by simp)
                      · rw [if_neg c21] at H
                        exact absurd H (by simp)
                    · rw [if_neg c20] at H
                      exact absurd H (by simp)
                  · rw [if_neg c19] at H
                    have c19b0 : (x9_2 == t291) = false := beq_eq_false_iff_ne.mpr c19
                    have c19b1 : (x9_2 != t291) = true := bne_iff_ne.mpr c19
                    by_cases c63 : 0 ≤ x9_2
                    · rw [if_pos c63] at H
                      have c63b0 : decide (0 ≤ x9_2) = true := decide_eq_true c63
                      clear c63
                      replace H := Option.bind_eq_some_iff.mp H
                      obtain ⟨⟨t312, t315⟩, A640, H⟩ := H
                      replace H : (if t315 = 0 then (if (t312.length : Int) > 4 then (some false) else (if (wrap64 (x8_2 + (t312.length : Int))) > t288 then (some false) else (if 0 ≤ x8_2 then (if x8_2 ≤ (wrap64 (x8_2 + (t312.length : Int))) then (if (wrap64 (x8_2 + (t312.length : Int))) ≤ (l0.length : Int) then (if (strOfNums t312).toList = (strOfNums ((l0.take ((wrap64 (x8_2 + (t312.length : Int))) : Int).toNat).drop (x8_2 : Int).toNat)).toList then (pendulumlaw09_DecodeRows.l0 k2 l0 t287 t288 t291 (wrap64 (x8_2 + (t312.length : Int))) (wrap64 (x9_2 + 1))) else (some false)) else (none)) else (none)) else (none)))) else (some false)) = some r := H
                      have A64 := Aside0.mk A640
                      clear A640
                      by_cases c65 : t315 = 0
                      · rw [if_pos c65] at H
                        have c65b0 : (t315 == 0) = true := beq_iff_eq.mpr c65
                        have c65b1 : (t315 != 0) = false := bne_eq_false_iff_eq.mpr c65
                        clear c65
                        by_cases c66 : (t312.length : Int) > 4
                        · rw [if_pos c66] at H
                          have c66b0 : decide (4 < (t312.length : Int)) = true := decide_eq_true c66
                          have c66b1 : decide (4 < t312.length) = true := decide_eq_true (by omega)
                          clear c66
                          obtain rfl := Option.some.inj H
                          have p311 : 0 ≤ (x9_2 : Int) := of_decide_eq_true (by first | (with_reducible assumption) | assumption)
                          have q311 : x9_2 < (t287.length : Int) := of_decide_eq_true (by first | (with_reducible assumption) | assumption)
                          obtain ⟨ad311, e311, hx311_0, hx311_1, hx311_2, hx311_3, hx311_4, hx311_5⟩ := at_T46 (Kd.R_reads' HO_5.out).2.2 x9_2 p311 q311
                          cases e311
                          replace p311 := eq_true p311
                          replace q311 := eq_true q311
                          go_wp2_with (first | (go_at_call 29; (with_reducible refine (decode_Bytes.calls k2 ((rd_T46 t287 x9_2).f0) ((rd_T46 t287 x9_2).f1) ((rd_T46 t287 x9_2).f2) ((rd_T46 t287 x9_2).f3) ((rd_T46 t287 x9_2).f4) ((rd_T46 t287 x9_2).f5) t312 t315 _ A64.out).mono ?_); rintro e w67 ⟨v313, rfl, ho0, hb⟩; have n0_ := Aside0.mk (Kd.R_below (by (with_reducible repeat (first | apply Kd.R_alloc | apply Kd.R_drewN | apply Kd.R_drew)); exact HO_5.out) hb); have n1_ := Aside0.mk (Kd.R_lower ho0 (below_size (by repeat (first | (with_reducible first | exact HB.out | apply below_alloc | apply pw_below_drewN | apply below_drew1) | exact HB.out)))); have n2_ := Aside0.mk (below_step (by repeat (first | (with_reducible first | exact HB.out | apply below_alloc | apply pw_below_drewN | apply below_drew1) | exact HB.out)) hb); clear HO_5; clear HB; have HO_5 := n0_; have HO314 := n1_; have HB := n2_; clear n0_ n1_ n2_; (try clear hb); (try clear hb2); (try clear hk); (try clear hi); (try clear ho0); obtain ⟨Ao68, co68, eo68⟩ := Kd.R_slice HO314.out; subst eo68))
                          repeat (go_quiet (first | (go_at_call 29; (with_reducible refine (decode_Bytes.calls k2 ((rd_T46 t287 x9_2).f0) ((rd_T46 t287 x9_2).f1) ((rd_T46 t287 x9_2).f2) ((rd_T46 t287 x9_2).f3) ((rd_T46 t287 x9_2).f4) ((rd_T46 t287 x9_2).f5) t312 t315 _ A64.out).mono ?_); rintro e w67 ⟨v313, rfl, ho0, hb⟩; have n0_ := Aside0.mk (Kd.R_below (by (with_reducible repeat (first | apply Kd.R_alloc | apply Kd.R_drewN | apply Kd.R_drew)); exact HO_5.out) hb); have n1_ := Aside0.mk (Kd.R_lower ho0 (below_size (by repeat (first | (with_reducible first | exact HB.out | apply below_alloc | apply pw_below_drewN | apply below_drew1) | exact HB.out)))); have n2_ := Aside0.mk (below_step (by repeat (first | (with_reducible first | exact HB.out | apply below_alloc | apply pw_below_drewN | apply below_drew1) | exact HB.out)) hb); clear HO_5; clear HB; have HO_5 := n0_; have HO314 := n1_; have HB := n2_; clear n0_ n1_ n2_; (try clear hb); (try clear hb2); (try clear hk); (try clear hi); (try clear ho0); obtain ⟨Ao68, co68, eo68⟩ := Kd.R_slice HO314.out; subst eo68)); try go_wp2_with (first | (go_at_call 29; (with_reducible refine (decode_Bytes.calls k2 ((rd_T46 t287 x9_2).f0) ((rd_T46 t287 x9_2).f1) ((rd_T46 t287 x9_2).f2) ((rd_T46 t287 x9_2).f3) ((rd_T46 t287 x9_2).f4) ((rd_T46 t287 x9_2).f5) t312 t315 _ A64.out).mono ?_); rintro e w67 ⟨v313, rfl, ho0, hb⟩; have n0_ := Aside0.mk (Kd.R_below (by (with_reducible repeat (first | apply Kd.R_alloc | apply Kd.R_drewN | apply Kd.R_drew)); exact HO_5.out) hb); have n1_ := Aside0.mk (Kd.R_lower ho0 (below_size (by repeat (first | (with_reducible first | exact HB.out | apply below_alloc | apply pw_below_drewN | apply below_drew1) | exact HB.out)))); have n2_ := Aside0.mk (below_step (by repeat (first | (with_reducible first | exact HB.out | apply below_alloc | apply pw_below_drewN | apply below_drew1) | exact HB.out)) hb); clear HO_5; clear HB; have HO_5 := n0_; have HO314 := n1_; have HB := n2_; clear n0_ n1_ n2_; (try clear hb); (try clear hb2); (try clear hk); (try clear hi); (try clear ho0); obtain ⟨Ao68, co68, eo68⟩ := Kd.R_slice HO314.out; subst eo68)))
                          go_ret
                          exact ⟨by first | rfl | (simp [errW_none, errW_some] <;> rfl) | (simp [*, errW_none, errW_some] <;> rfl), by repeat (first | (with_reducible first | exact HB.out | apply below_alloc | apply pw_below_drewN | apply below_drew1) | exact HB.out)⟩
                        · rw [if_neg c66] at H
                          have c66b0 : decide (4 < (t312.length : Int)) = false := decide_eq_false c66
                          have c66b1 : decide (4 < t312.length) = false := decide_eq_false (by omega)
                          clear c66
                          by_cases c69 : (wrap64 (x8_2 + (t312.length : Int))) > t288
                          · rw [if_pos c69] at H
                            have c69b0 : decide (t288 < (wrap64 (x8_2 + (t312.length : Int)))) = true := decide_eq_true c69
                            clear c69
                            obtain rfl := Option.some.inj H
                            have p311 : 0 ≤ (x9_2 : Int) := of_decide_eq_true (by first | (with_reducible assumption) | assumption)
                            have q311 : x9_2 < (t287.length : Int) := of_decide_eq_true (by first | (with_reducible assumption) | assumption)
                            obtain ⟨ad311, e311, hx311_0, hx311_1, hx311_2, hx311_3, hx311_4, hx311_5⟩ := at_T46 (Kd.R_reads' HO_5.out).2.2 x9_2 p311 q311
                            cases e311
                            replace p311 := eq_true p311
                            replace q311 := eq_true q311
                            go_wp2_with (first | (go_at_call 29; (with_reducible refine (decode_Bytes.calls k2 ((rd_T46 t287 x9_2).f0) ((rd_T46 t287 x9_2).f1) ((rd_T46 t287 x9_2).f2) ((rd_T46 t287 x9_2).f3) ((rd_T46 t287 x9_2).f4) ((rd_T46 t287 x9_2).f5) t312 t315 _ A64.out).mono ?_); rintro e w70 ⟨v313, rfl, ho0, hb⟩; have n0_ := Aside0.mk (Kd.R_below (by (with_reducible repeat (first | apply Kd.R_alloc | apply Kd.R_drewN | apply Kd.R_drew)); exact HO_5.out) hb); have n1_ := Aside0.mk (Kd.R_lower ho0 (below_size (by repeat (first | (with_reducible first | exact HB.out | apply below_alloc | apply pw_below_drewN | apply below_drew1) | exact HB.out)))); have n2_ := Aside0.mk (below_step (by repeat (first | (with_reducible first | exact HB.out | apply below_alloc | apply pw_below_drewN | apply below_drew1) | exact HB.out)) hb); clear HO_5; clear HB; have HO_5 := n0_; have HO314 := n1_; have HB := n2_; clear n0_ n1_ n2_; (try clear hb); (try clear hb2); (try clear hk); (try clear hi); (try clear ho0); obtain ⟨Ao71, co71, eo71⟩ := Kd.R_slice HO314.out; subst eo71))
                            repeat (go_quiet (first | (go_at_call 29; (with_reducible refine (decode_Bytes.calls k2 ((rd_T46 t287 x9_2).f0) ((rd_T46 t287 x9_2).f1) ((rd_T46 t287 x9_2).f2) ((rd_T46 t287 x9_2).f3) ((rd_T46 t287 x9_2).f4) ((rd_T46 t287 x9_2).f5) t312 t315 _ A64.out).mono ?_); rintro e w70 ⟨v313, rfl, ho0, hb⟩; have n0_ := Aside0.mk (Kd.R_below (by (with_reducible repeat (first | apply Kd.R_alloc | apply Kd.R_drewN | apply Kd.R_drew)); exact HO_5.out) hb); have n1_ := Aside0.mk (Kd.R_lower ho0 (below_size (by repeat (first | (with_reducible first | exact HB.out | apply below_alloc | apply pw_below_drewN | apply below_drew1) | exact HB.out)))); have n2_ := Aside0.mk (below_step (by repeat (first | (with_reducible first | exact HB.out | apply below_alloc | apply pw_below_drewN | apply below_drew1) | exact HB.out)) hb); clear HO_5; clear HB; have HO_5 := n0_; have HO314 := n1_; have HB := n2_; clear n0_ n1_ n2_; (try clear hb); (try clear hb2); (try clear hk); (try clear hi); (try clear ho0); obtain ⟨Ao71, co71, eo71⟩ := Kd.R_slice HO314.out; subst eo71)); try go_wp2_with (first | (go_at_call 29; (with_reducible refine (decode_Bytes.calls k2 ((rd_T46 t287 x9_2).f0) ((rd_T46 t287 x9_2).f1) ((rd_T46 t287 x9_2).f2) ((rd_T46 t287 x9_2).f3) ((rd_T46 t287 x9_2).f4) ((rd_T46 t287 x9_2).f5) t312 t315 _ A64.out).mono ?_); rintro e w70 ⟨v313, rfl, ho0, hb⟩; have n0_ := Aside0.mk (Kd.R_below (by (with_reducible repeat (first | apply Kd.R_alloc | apply Kd.R_drewN | apply Kd.R_drew)); exact HO_5.out) hb); have n1_ := Aside0.mk (Kd.R_lower ho0 (below_size (by repeat (first | (with_reducible first | exact HB.out | apply below_alloc | apply pw_below_drewN | apply below_drew1) | exact HB.out)))); have n2_ := Aside0.mk (below_step (by repeat (first | (with_reducible first | exact HB.out | apply below_alloc | apply pw_below_drewN | apply below_drew1) | exact HB.out)) hb); clear HO_5; clear HB; have HO_5 := n0_; have HO314 := n1_; have HB := n2_; clear n0_ n1_ n2_; (try clear hb); (try clear hb2); (try clear hk); (try clear hi); (try clear ho0); obtain ⟨Ao71, co71, eo71⟩ := Kd.R_slice HO314.out; subst eo71)))
                            go_ret
                            exact ⟨by first | rfl | (simp [errW_none, errW_some] <;> rfl) | (simp [*, errW_none, errW_some] <;> rfl), by repeat (first | (with_reducible first | exact HB.out | apply below_alloc | apply pw_below_drewN | apply below_drew1) | exact HB.out)⟩
                          · rw [if_neg c69] at H
                            have c69q : (wrap64 (x8_2 + (t312.length : Int)) ≤ t288) = True := eq_true (Int.not_lt.mp c69)
                            have c69b0 : decide (t288 < (wrap64 (x8_2 + (t312.length : Int)))) = false := decide_eq_false c69
                            clear c69
                            by_cases c72 : 0 ≤ x8_2
                            · rw [if_pos c72] at H
                              have c72b0 := eq_true c72
                              have c72b1 : decide (0 ≤ x8_2) = true := decide_eq_true c72
                              clear c72
                              by_cases c73 : x8_2 ≤ (wrap64 (x8_2 + (t312.length : Int)))
                              · rw [if_pos c73] at H
                                have c73b0 := eq_true c73
                                have c73b1 : decide (x8_2 ≤ (wrap64 (x8_2 + (t312.length : Int)))) = true := decide_eq_true c73
                                by_cases c74 : (wrap64 (x8_2 + (t312.length : Int))) ≤ (l0.length : Int)
                                · rw [if_pos c74] at H
                                  have c74b0 := eq_true c74
                                  have c74b1 : decide ((wrap64 (x8_2 + (t312.length : Int))) ≤ (l0.length : Int)) = true := decide_eq_true c74
                                  by_cases c75 : (strOfNums t312).toList = (strOfNums ((l0.take ((wrap64 (x8_2 + (t312.length : Int))) : Int).toNat).drop (x8_2 : Int).toNat)).toList
                                  · rw [if_pos c75] at H
                                    have c75b0 : ((strOfNums t312).toList == (strOfNums ((l0.take ((wrap64 (x8_2 + (t312.length : Int))) : Int).toNat).drop (x8_2 : Int).toNat)).toList) = true := beq_iff_eq.mpr c75
                                    have c75b1 : ((strOfNums t312).toList != (strOfNums ((l0.take ((wrap64 (x8_2 + (t312.length : Int))) : Int).toNat).drop (x8_2 : Int).toNat)).toList) = false := bne_eq_false_iff_eq.mpr c75
                                    clear c75
                                    have H' := Aside0.mk H
                                    clear H
                                    have p311 : 0 ≤ (x9_2 : Int) := of_decide_eq_true (by first | (with_reducible assumption) | assumption)
                                    have q311 : x9_2 < (t287.length : Int) := of_decide_eq_true (by first | (with_reducible assumption) | assumption)
                                    obtain ⟨ad311, e311, hx311_0, hx311_1, hx311_2, hx311_3, hx311_4, hx311_5⟩ := at_T46 (Kd.R_reads' HO_5.out).2.2 x9_2 p311 q311
                                    cases e311
                                    replace p311 := eq_true p311
                                    replace q311 := eq_true q311
                                    have hiw := i64_w
                                    go_wp2_with (first | (go_at_call 29; (with_reducible refine (decode_Bytes.calls k2 ((rd_T46 t287 x9_2).f0) ((rd_T46 t287 x9_2).f1) ((rd_T46 t287 x9_2).f2) ((rd_T46 t287 x9_2).f3) ((rd_T46 t287 x9_2).f4) ((rd_T46 t287 x9_2).f5) t312 t315 _ A64.out).mono ?_); rintro e w76 ⟨v313, rfl, ho0, hb⟩; have n0_ := Aside0.mk (Kd.R_below (by (with_reducible repeat (first | apply Kd.R_alloc | apply Kd.R_drewN | apply Kd.R_drew)); exact HO_5.out) hb); have n1_ := Aside0.mk (Kd.R_lower ho0 (below_size (by repeat (first | (with_reducible first | exact HB.out | apply below_alloc | apply pw_below_drewN | apply below_drew1) | exact HB.out)))); have n2_ := Aside0.mk (below_step (by repeat (first | (with_reducible first | exact HB.out | apply below_alloc | apply pw_below_drewN | apply below_drew1) | exact HB.out)) hb); clear HO_5; clear HB; have HO_5 := n0_; have HO314 := n1_; have HB := n2_; clear n0_ n1_ n2_; (try clear hb); (try clear hb2); (try clear hk); (try clear hi); (try clear ho0); obtain ⟨Ao77, co77, eo77⟩ := Kd.R_slice HO314.out; subst eo77; have hcv78 := own_string (P := Try.prog) Try.underlying44 Try.underlying5 Try.underlying9 (Kd.own_of_R HO314.out); have hcvq78 := fun nq : Nat => own_string (P := Try.prog) Try.underlying44 Try.underlying5 Try.underlying9 (Kd.own_of_R (Kd.R_drewN HO314.out nq)); obtain ⟨i079, hi079, _, hsz79, _⟩ := info_parts info5; obtain ⟨A79, hcut79, hA79, hC79⟩ := print_mid_of (P := Try.prog) (Value.int .u8) 0 44 5 .i64 .i64 Try.underlying44 hi079 hsz79 A0 c0 l0 x8_2 (wrap64 (x8_2 + (t312.length : Int))) (of_decide_eq_true (by first | (with_reducible assumption) | assumption)) (by first | omega | exact of_decide_eq_true (by first | (with_reducible assumption) | assumption)) (of_decide_eq_true (by first | (with_reducible assumption) | assumption)) HC0.out; have HR316 := Aside0.mk (Kd.C_of_reads (h1 := fun _ => rfl) (hA79 _ (Kd.reads_of_C HR0.out))); have HC316 := Aside0.mk hC79; clear hA79 hC79 hi079 hsz79; have hcv80 := Kd.C_string (P := Try.prog) (A := A79) (c := (c0 - x8_2.toNat)) Try.underlying44 Try.underlying5 Try.underlying9 (Kd.C_below HR316.out HB.out); have hcvq80 := fun nq : Nat => Kd.C_string (P := Try.prog) (A := A79) (c := (c0 - x8_2.toNat)) Try.underlying44 Try.underlying5 Try.underlying9 (Kd.C_drewN (Kd.C_below HR316.out HB.out) nq); have hcvr80 := hcvq80; simp only [List.length_drop, List.length_take] at hcvr80; rw [Nat.min_eq_left (show (wrap64 (x8_2 + (t312.length : Int))).toNat ≤ l0.length from by have q : (wrap64 (x8_2 + (t312.length : Int))) ≤ (l0.length : Int) := of_decide_eq_true (by assumption); omega)] at hcvr80))
                                    repeat (go_quiet (first | (go_at_call 29; (with_reducible refine (decode_Bytes.calls k2 ((rd_T46 t287 x9_2).f0) ((rd_T46 t287 x9_2).f1) ((rd_T46 t287 x9_2).f2) ((rd_T46 t287 x9_2).f3) ((rd_T46 t287 x9_2).f4) ((rd_T46 t287 x9_2).f5) t312 t315 _ A64.out).mono ?_); rintro e w76 ⟨v313, rfl, ho0, hb⟩; have n0_ := Aside0.mk (Kd.R_below (by (with_reducible repeat (first | apply Kd.R_alloc | apply Kd.R_drewN | apply Kd.R_drew)); exact HO_5.out) hb); have n1_ := Aside0.mk (Kd.R_lower ho0 (below_size (by repeat (first | (with_reducible first | exact HB.out | apply below_alloc | apply pw_below_drewN | apply below_drew1) | exact HB.out)))); have n2_ := Aside0.mk (below_step (by repeat (first | (with_reducible first | exact HB.out | apply below_alloc | apply pw_below_drewN | apply below_drew1) | exact HB.out)) hb); clear HO_5; clear HB; have HO_5 := n0_; have HO314 := n1_; have HB := n2_; clear n0_ n1_ n2_; (try clear hb); (try clear hb2); (try clear hk); (try clear hi); (try clear ho0); obtain ⟨Ao77, co77, eo77⟩ := Kd.R_slice HO314.out; subst eo77; have hcv78 := own_string (P := Try.prog) Try.underlying44 Try.underlying5 Try.underlying9 (Kd.own_of_R HO314.out); have hcvq78 := fun nq : Nat => own_string (P := Try.prog) Try.underlying44 Try.underlying5 Try.underlying9 (Kd.own_of_R (Kd.R_drewN HO314.out nq)); obtain ⟨i079, hi079, _, hsz79, _⟩ := info_parts info5; obtain ⟨A79, hcut79, hA79, hC79⟩ := print_mid_of (P := Try.prog) (Value.int .u8) 0 44 5 .i64 .i64 Try.underlying44 hi079 hsz79 A0 c0 l0 x8_2 (wrap64 (x8_2 + (t312.length : Int))) (of_decide_eq_true (by first | (with_reducible assumption) | assumption)) (by first | omega | exact of_decide_eq_true (by first | (with_reducible assumption) | assumption)) (of_decide_eq_true (by first | (with_reducible assumption) | assumption)) HC0.out; have HR316 := Aside0.mk (Kd.C_of_reads (h1 := fun _ => rfl) (hA79 _ (Kd.reads_of_C HR0.out))); have HC316 := Aside0.mk hC79; clear hA79 hC79 hi079 hsz79; have hcv80 := Kd.C_string (P := Try.prog) (A := A79) (c := (c0 - x8_2.toNat)) Try.underlying44 Try.underlying5 Try.underlying9 (Kd.C_below HR316.out HB.out); have hcvq80 := fun nq : Nat => Kd.C_string (P := Try.prog) (A := A79) (c := (c0 - x8_2.toNat)) Try.underlying44 Try.underlying5 Try.underlying9 (Kd.C_drewN (Kd.C_below HR316.out HB.out) nq); have hcvr80 := hcvq80; simp only [List.length_drop, List.length_take] at hcvr80; rw [Nat.min_eq_left (show (wrap64 (x8_2 + (t312.length : Int))).toNat ≤ l0.length from by have q : (wrap64 (x8_2 + (t312.length : Int))) ≤ (l0.length : Int) := of_decide_eq_true (by assumption); omega)] at hcvr80)); try go_wp2_with (first | (go_at_call 29; (with_reducible refine (decode_Bytes.calls k2 ((rd_T46 t287 x9_2).f0) ((rd_T46 t287 x9_2).f1) ((rd_T46 t287 x9_2).f2) ((rd_T46 t287 x9_2).f3) ((rd_T46 t287 x9_2).f4) ((rd_T46 t287 x9_2).f5) t312 t315 _ A64.out).mono ?_); rintro e w76 ⟨v313, rfl, ho0, hb⟩; have n0_ := Aside0.mk (Kd.R_below (by (with_reducible repeat (first | apply Kd.R_alloc | apply Kd.R_drewN | apply Kd.R_drew)); exact HO_5.out) hb); have n1_ := Aside0.mk (Kd.R_lower ho0 (below_size (by repeat (first | (with_reducible first | exact HB.out | apply below_alloc | apply pw_below_drewN | apply below_drew1) | exact HB.out)))); have n2_ := Aside0.mk (below_step (by repeat (first | (with_reducible first | exact HB.out | apply below_alloc | apply pw_below_drewN | apply below_drew1) | exact HB.out)) hb); clear HO_5; clear HB; have HO_5 := n0_; have HO314 := n1_; have HB := n2_; clear n0_ n1_ n2_; (try clear hb); (try clear hb2); (try clear hk); (try clear hi); (try clear ho0); obtain ⟨Ao77, co77, eo77⟩ := Kd.R_slice HO314.out; subst eo77; have hcv78 := own_string (P := Try.prog) Try.underlying44 Try.underlying5 Try.underlying9 (Kd.own_of_R HO314.out); have hcvq78 := fun nq : Nat => own_string (P := Try.prog) Try.underlying44 Try.underlying5 Try.underlying9 (Kd.own_of_R (Kd.R_drewN HO314.out nq)); obtain ⟨i079, hi079, _, hsz79, _⟩ := info_parts info5; obtain ⟨A79, hcut79, hA79, hC79⟩ := print_mid_of (P := Try.prog) (Value.int .u8) 0 44 5 .i64 .i64 Try.underlying44 hi079 hsz79 A0 c0 l0 x8_2 (wrap64 (x8_2 + (t312.length : Int))) (of_decide_eq_true (by first | (with_reducible assumption) | assumption)) (by first | omega | exact of_decide_eq_true (by first | (with_reducible assumption) | assumption)) (of_decide_eq_true (by first | (with_reducible assumption) | assumption)) HC0.out; have HR316 := Aside0.mk (Kd.C_of_reads (h1 := fun _ => rfl) (hA79 _ (Kd.reads_of_C HR0.out))); have HC316 := Aside0.mk hC79; clear hA79 hC79 hi079 hsz79; have hcv80 := Kd.C_string (P := Try.prog) (A := A79) (c := (c0 - x8_2.toNat)) Try.underlying44 Try.underlying5 Try.underlying9 (Kd.C_below HR316.out HB.out); have hcvq80 := fun nq : Nat => Kd.C_string (P := Try.prog) (A := A79) (c := (c0 - x8_2.toNat)) Try.underlying44 Try.underlying5 Try.underlying9 (Kd.C_drewN (Kd.C_below HR316.out HB.out) nq); have hcvr80 := hcvq80; simp only [List.length_drop, List.length_take] at hcvr80; rw [Nat.min_eq_left (show (wrap64 (x8_2 + (t312.length : Int))).toNat ≤ l0.length from by have q : (wrap64 (x8_2 + (t312.length : Int))) ≤ (l0.length : Int) := of_decide_eq_true (by assumption); omega)] at hcvr80)))
                                    go_roundg k2
                                    case measure => have := HJ8.out; have := HK2.out; omega
                                    case rel => exact ⟨(wrap64 (x8_2 + (t312.length : Int))), (wrap64 (x9_2 + 1)), (by first | rfl | (simp; done) | (simp [*]; done)), (by first | rfl | (simp; done) | (simp [*]; done)), H', ⟨by have := HJ8.out; have := HK2.out; omega⟩, ⟨by (with_reducible repeat (first | apply Kd.R_alloc | apply Kd.R_drewN | apply Kd.R_drew)); exact HO_5.out⟩, ⟨by repeat (first | (with_reducible first | exact HB.out | apply below_alloc | apply pw_below_drewN | apply below_drew1) | exact HB.out)⟩⟩
                                  · rw [if_neg c75] at H
                                    have c75b0 : ((strOfNums t312).toList == (strOfNums ((l0.take ((wrap64 (x8_2 + (t312.length : Int))) : Int).toNat).drop (x8_2 : Int).toNat)).toList) = false := beq_eq_false_iff_ne.mpr c75
                                    have c75b1 : ((strOfNums t312).toList != (strOfNums ((l0.take ((wrap64 (x8_2 + (t312.length : Int))) : Int).toNat).drop (x8_2 : Int).toNat)).toList) = true := bne_iff_ne.mpr c75
                                    obtain rfl := Option.some.inj H
                                    have p311 : 0 ≤ (x9_2 : Int) := of_decide_eq_true (by first | (with_reducible assumption) | assumption)
                                    have q311 : x9_2 < (t287.length : Int) := of_decide_eq_true (by first | (with_reducible assumption) | assumption)
                                    obtain ⟨ad311, e311, hx311_0, hx311_1, hx311_2, hx311_3, hx311_4, hx311_5⟩ := at_T46 (Kd.R_reads' HO_5.out).2.2 x9_2 p311 q311
                                    cases e311
                                    replace p311 := eq_true p311
                                    replace q311 := eq_true q311
                                    have hiw := i64_w
                                    go_wp2_with (first | (go_at_call 29; (with_reducible refine (decode_Bytes.calls k2 ((rd_T46 t287 x9_2).f0) ((rd_T46 t287 x9_2).f1) ((rd_T46 t287 x9_2).f2) ((rd_T46 t287 x9_2).f3) ((rd_T46 t287 x9_2).f4) ((rd_T46 t287 x9_2).f5) t312 t315 _ A64.out).mono ?_); rintro e w81 ⟨v313, rfl, ho0, hb⟩; have n0_ := Aside0.mk (Kd.R_below (by (with_reducible repeat (first | apply Kd.R_alloc | apply Kd.R_drewN | apply Kd.R_drew)); exact HO_5.out) hb); have n1_ := Aside0.mk (Kd.R_lower ho0 (below_size (by repeat (first | (with_reducible first | exact HB.out | apply below_alloc | apply pw_below_drewN | apply below_drew1) | exact HB.out)))); have n2_ := Aside0.mk (below_step (by repeat (first | (with_reducible first | exact HB.out | apply below_alloc | apply pw_below_drewN | apply below_drew1) | exact HB.out)) hb); clear HO_5; clear HB; have HO_5 := n0_; have HO314 := n1_; have HB := n2_; clear n0_ n1_ n2_; (try clear hb); (try clear hb2); (try clear hk); (try clear hi); (try clear ho0); obtain ⟨Ao82, co82, eo82⟩ := Kd.R_slice HO314.out; subst eo82; have hcv83 := own_string (P := Try.prog) Try.underlying44 Try.underlying5 Try.underlying9 (Kd.own_of_R HO314.out); have hcvq83 := fun nq : Nat => own_string (P := Try.prog) Try.underlying44 Try.underlying5 Try.underlying9 (Kd.own_of_R (Kd.R_drewN HO314.out nq)); obtain ⟨i084, hi084, _, hsz84, _⟩ := info_parts info5; obtain ⟨A84, hcut84, hA84, hC84⟩ := print_mid_of (P := Try.prog) (Value.int .u8) 0 44 5 .i64 .i64 Try.underlying44 hi084 hsz84 A0 c0 l0 x8_2 (wrap64 (x8_2 + (t312.length : Int))) (of_decide_eq_true (by first | (with_reducible assumption) | assumption)) (by first | omega | exact of_decide_eq_true (by first | (with_reducible assumption) | assumption)) (of_decide_eq_true (by first | (with_reducible assumption) | assumption)) HC0.out; have HR316 := Aside0.mk (Kd.C_of_reads (h1 := fun _ => rfl) (hA84 _ (Kd.reads_of_C HR0.out))); have HC316 := Aside0.mk hC84; clear hA84 hC84 hi084 hsz84; have hcv85 := Kd.C_string (P := Try.prog) (A := A84) (c := (c0 - x8_2.toNat)) Try.underlying44 Try.underlying5 Try.underlying9 (Kd.C_below HR316.out HB.out); have hcvq85 := fun nq : Nat => Kd.C_string (P := Try.prog) (A := A84) (c := (c0 - x8_2.toNat)) Try.underlying44 Try.underlying5 Try.underlying9 (Kd.C_drewN (Kd.C_below HR316.out HB.out) nq); have hcvr85 := hcvq85; simp only [List.length_drop, List.length_take] at hcvr85; rw [Nat.min_eq_left (show (wrap64 (x8_2 + (t312.length : Int))).toNat ≤ l0.length from by have q : (wrap64 (x8_2 + (t312.length : Int))) ≤ (l0.length : Int) := of_decide_eq_true (by assumption); omega)] at hcvr85))
                                    repeat (go_quiet (first | (go_at_call 29; (with_reducible refine (decode_Bytes.calls k2 ((rd_T46 t287 x9_2).f0) ((rd_T46 t287 x9_2).f1) ((rd_T46 t287 x9_2).f2) ((rd_T46 t287 x9_2).f3) ((rd_T46 t287 x9_2).f4) ((rd_T46 t287 x9_2).f5) t312 t315 _ A64.out).mono ?_); rintro e w81 ⟨v313, rfl, ho0, hb⟩; have n0_ := Aside0.mk (Kd.R_below (by (with_reducible repeat (first | apply Kd.R_alloc | apply Kd.R_drewN | apply Kd.R_drew)); exact HO_5.out) hb); have n1_ := Aside0.mk (Kd.R_lower ho0 (below_size (by repeat (first | (with_reducible first | exact HB.out | apply below_alloc | apply pw_below_drewN | apply below_drew1) | exact HB.out)))); have n2_ := Aside0.mk (below_step (by repeat (first | (with_reducible first | exact HB.out | apply below_alloc | apply pw_below_drewN | apply below_drew1) | exact HB.out)) hb); clear HO_5; clear HB; have HO_5 := n0_; have HO314 := n1_; have HB := n2_; clear n0_ n1_ n2_; (try clear hb); (try clear hb2); (try clear hk); (try clear hi); (try clear ho0); obtain ⟨Ao82, co82, eo82⟩ := Kd.R_slice HO314.out; subst eo82; have hcv83 := own_string (P := Try.prog) Try.underlying44 Try.underlying5 Try.underlying9 (Kd.own_of_R HO314.out); have hcvq83 := fun nq : Nat => own_string (P := Try.prog) Try.underlying44 Try.underlying5 Try.underlying9 (Kd.own_of_R (Kd.R_drewN HO314.out nq)); obtain ⟨i084, hi084, _, hsz84, _⟩ := info_parts info5; obtain ⟨A84, hcut84, hA84, hC84⟩ := print_mid_of (P := Try.prog) (Value.int .u8) 0 44 5 .i64 .i64 Try.underlying44 hi084 hsz84 A0 c0 l0 x8_2 (wrap64 (x8_2 + (t312.length : Int))) (of_decide_eq_true (by first | (with_reducible assumption) | assumption)) (by first | omega | exact of_decide_eq_true (by first | (with_reducible assumption) | assumption)) (of_decide_eq_true (by first | (with_reducible assumption) | assumption)) HC0.out; have HR316 := Aside0.mk (Kd.C_of_reads (h1 := fun _ => rfl) (hA84 _ (Kd.reads_of_C HR0.out))); have HC316 := Aside0.mk hC84; clear hA84 hC84 hi084 hsz84; have hcv85 := Kd.C_string (P := Try.prog) (A := A84) (c := (c0 - x8_2.toNat)) Try.underlying44 Try.underlying5 Try.underlying9 (Kd.C_below HR316.out HB.out); have hcvq85 := fun nq : Nat => Kd.C_string (P := Try.prog) (A := A84) (c := (c0 - x8_2.toNat)) Try.underlying44 Try.underlying5 Try.underlying9 (Kd.C_drewN (Kd.C_below HR316.out HB.out) nq); have hcvr85 := hcvq85; simp only [List.length_drop, List.length_take] at hcvr85; rw [Nat.min_eq_left (show (wrap64 (x8_2 + (t312.length : Int))).toNat ≤ l0.length from by have q : (wrap64 (x8_2 + (t312.length : Int))) ≤ (l0.length : Int) := of_decide_eq_true (by assumption); omega)] at hcvr85)); try go_wp2_with (first | (go_at_call 29; (with_reducible refine (decode_Bytes.calls k2 ((rd_T46 t287 x9_2).f0) ((rd_T46 t287 x9_2).f1) ((rd_T46 t287 x9_2).f2) ((rd_T46 t287 x9_2).f3) ((rd_T46 t287 x9_2).f4) ((rd_T46 t287 x9_2).f5) t312 t315 _ A64.out).mono ?_); rintro e w81 ⟨v313, rfl, ho0, hb⟩; have n0_ := Aside0.mk (Kd.R_below (by (with_reducible repeat (first | apply Kd.R_alloc | apply Kd.R_drewN | apply Kd.R_drew)); exact HO_5.out) hb); have n1_ := Aside0.mk (Kd.R_lower ho0 (below_size (by repeat (first | (with_reducible first | exact HB.out | apply below_alloc | apply pw_below_drewN | apply below_drew1) | exact HB.out)))); have n2_ := Aside0.mk (below_step (by repeat (first | (with_reducible first | exact HB.out | apply below_alloc | apply pw_below_drewN | apply below_drew1) | exact HB.out)) hb); clear HO_5; clear HB; have HO_5 := n0_; have HO314 := n1_; have HB := n2_; clear n0_ n1_ n2_; (try clear hb); (try clear hb2); (try clear hk); (try clear hi); (try clear ho0); obtain ⟨Ao82, co82, eo82⟩ := Kd.R_slice HO314.out; subst eo82; have hcv83 := own_string (P := Try.prog) Try.underlying44 Try.underlying5 Try.underlying9 (Kd.own_of_R HO314.out); have hcvq83 := fun nq : Nat => own_string (P := Try.prog) Try.underlying44 Try.underlying5 Try.underlying9 (Kd.own_of_R (Kd.R_drewN HO314.out nq)); obtain ⟨i084, hi084, _, hsz84, _⟩ := info_parts info5; obtain ⟨A84, hcut84, hA84, hC84⟩ := print_mid_of (P := Try.prog) (Value.int .u8) 0 44 5 .i64 .i64 Try.underlying44 hi084 hsz84 A0 c0 l0 x8_2 (wrap64 (x8_2 + (t312.length : Int))) (of_decide_eq_true (by first | (with_reducible assumption) | assumption)) (by first | omega | exact of_decide_eq_true (by first | (with_reducible assumption) | assumption)) (of_decide_eq_true (by first | (with_reducible assumption) | assumption)) HC0.out; have HR316 := Aside0.mk (Kd.C_of_reads (h1 := fun _ => rfl) (hA84 _ (Kd.reads_of_C HR0.out))); have HC316 := Aside0.mk hC84; clear hA84 hC84 hi084 hsz84; have hcv85 := Kd.C_string (P := Try.prog) (A := A84) (c := (c0 - x8_2.toNat)) Try.underlying44 Try.underlying5 Try.underlying9 (Kd.C_below HR316.out HB.out); have hcvq85 := fun nq : Nat => Kd.C_string (P := Try.prog) (A := A84) (c := (c0 - x8_2.toNat)) Try.underlying44 Try.underlying5 Try.underlying9 (Kd.C_drewN (Kd.C_below HR316.out HB.out) nq); have hcvr85 := hcvq85; simp only [List.length_drop, List.length_take] at hcvr85; rw [Nat.min_eq_left (show (wrap64 (x8_2 + (t312.length : Int))).toNat ≤ l0.length from by have q : (wrap64 (x8_2 + (t312.length : Int))) ≤ (l0.length : Int) := of_decide_eq_true (by assumption); omega)] at hcvr85)))
                                    go_ret
                                    exact ⟨by first | rfl | (simp [errW_none, errW_some] <;> rfl) | (simp [*, errW_none, errW_some] <;> rfl), by repeat (first | (with_reducible first | exact HB.out | apply below_alloc | apply pw_below_drewN | apply below_drew1) | exact HB.out)⟩
                                · rw [if_neg c74] at H
                                  exact absurd H (by simp)
                              · rw [if_neg c73] at H
                                exact absurd H (by simp)
                            · rw [if_neg c72] at H
                              exact absurd H (by simp)
                      · rw [if_neg c65] at H
                        have c65b0 : (t315 == 0) = false := beq_eq_false_iff_ne.mpr c65
                        have c65b1 : (t315 != 0) = true := bne_iff_ne.mpr c65
                        obtain rfl := Option.some.inj H
                        have p311 : 0 ≤ (x9_2 : Int) := of_decide_eq_true (by first | (with_reducible assumption) | assumption)
                        have q311 : x9_2 < (t287.length : Int) := of_decide_eq_true (by first | (with_reducible assumption) | assumption)
                        obtain ⟨ad311, e311, hx311_0, hx311_1, hx311_2, hx311_3, hx311_4, hx311_5⟩ := at_T46 (Kd.R_reads' HO_5.out).2.2 x9_2 p311 q311
                        cases e311
                        replace p311 := eq_true p311
                        replace q311 := eq_true q311
                        go_wp2_with (first | (go_at_call 29; (with_reducible refine (decode_Bytes.calls k2 ((rd_T46 t287 x9_2).f0) ((rd_T46 t287 x9_2).f1) ((rd_T46 t287 x9_2).f2) ((rd_T46 t287 x9_2).f3) ((rd_T46 t287 x9_2).f4) ((rd_T46 t287 x9_2).f5) t312 t315 _ A64.out).mono ?_); rintro e w86 ⟨v313, rfl, ho0, hb⟩; have n0_ := Aside0.mk (Kd.R_below (by (with_reducible repeat (first | apply Kd.R_alloc | apply Kd.R_drewN | apply Kd.R_drew)); exact HO_5.out) hb); have n1_ := Aside0.mk (Kd.R_lower ho0 (below_size (by repeat (first | (with_reducible first | exact HB.out | apply below_alloc | apply pw_below_drewN | apply below_drew1) | exact HB.out)))); have n2_ := Aside0.mk (below_step (by repeat (first | (with_reducible first | exact HB.out | apply below_alloc | apply pw_below_drewN | apply below_drew1) | exact HB.out)) hb); clear HO_5; clear HB; have HO_5 := n0_; have HO314 := n1_; have HB := n2_; clear n0_ n1_ n2_; (try clear hb); (try clear hb2); (try clear hk); (try clear hi); (try clear ho0)))
                        repeat (go_quiet (first | (go_at_call 29; (with_reducible refine (decode_Bytes.calls k2 ((rd_T46 t287 x9_2).f0) ((rd_T46 t287 x9_2).f1) ((rd_T46 t287 x9_2).f2) ((rd_T46 t287 x9_2).f3) ((rd_T46 t287 x9_2).f4) ((rd_T46 t287 x9_2).f5) t312 t315 _ A64.out).mono ?_); rintro e w86 ⟨v313, rfl, ho0, hb⟩; have n0_ := Aside0.mk (Kd.R_below (by (with_reducible repeat (first | apply Kd.R_alloc | apply Kd.R_drewN | apply Kd.R_drew)); exact HO_5.out) hb); have n1_ := Aside0.mk (Kd.R_lower ho0 (below_size (by repeat (first | (with_reducible first | exact HB.out | apply below_alloc | apply pw_below_drewN | apply below_drew1) | exact HB.out)))); have n2_ := Aside0.mk (below_step (by repeat (first | (with_reducible first | exact HB.out | apply below_alloc | apply pw_below_drewN | apply below_drew1) | exact HB.out)) hb); clear HO_5; clear HB; have HO_5 := n0_; have HO314 := n1_; have HB := n2_; clear n0_ n1_ n2_; (try clear hb); (try clear hb2); (try clear hk); (try clear hi); (try clear ho0))); try go_wp2_with (first | (go_at_call 29; (with_reducible refine (decode_Bytes.calls k2 ((rd_T46 t287 x9_2).f0) ((rd_T46 t287 x9_2).f1) ((rd_T46 t287 x9_2).f2) ((rd_T46 t287 x9_2).f3) ((rd_T46 t287 x9_2).f4) ((rd_T46 t287 x9_2).f5) t312 t315 _ A64.out).mono ?_); rintro e w86 ⟨v313, rfl, ho0, hb⟩; have n0_ := Aside0.mk (Kd.R_below (by (with_reducible repeat (first | apply Kd.R_alloc | apply Kd.R_drewN | apply Kd.R_drew)); exact HO_5.out) hb); have n1_ := Aside0.mk (Kd.R_lower ho0 (below_size (by repeat (first | (with_reducible first | exact HB.out | apply below_alloc | apply pw_below_drewN | apply below_drew1) | exact HB.out)))); have n2_ := Aside0.mk (below_step (by repeat (first | (with_reducible first | exact HB.out | apply below_alloc | apply pw_below_drewN | apply below_drew1) | exact HB.out)) hb); clear HO_5; clear HB; have HO_5 := n0_; have HO314 := n1_; have HB := n2_; clear n0_ n1_ n2_; (try clear hb); (try clear hb2); (try clear hk); (try clear hi); (try clear ho0))))
                        go_ret
                        exact ⟨by first | rfl | (simp [errW_none, errW_some] <;> rfl) | (simp [*, errW_none, errW_some] <;> rfl), by repeat (first | (with_reducible first | exact HB.out | apply below_alloc | apply pw_below_drewN | apply below_drew1) | exact HB.out)⟩
                    · rw [if_neg c63] at H
                      exact absurd H (by simp)
                · rw [if_neg c18] at H
                  have c18b0 : decide (x9_2 < (t287.length : Int)) = false := decide_eq_false c18
                  clear c18
                  obtain rfl := Option.some.inj H
                  go_wp2
                  repeat (go_quiet (fail); try go_wp2)
                  go_ret
                  exact ⟨by first | rfl | (simp [errW_none, errW_some] <;> rfl) | (simp [*, errW_none, errW_some] <;> rfl), by repeat (first | (with_reducible first | exact HB.out | apply below_alloc | apply pw_below_drewN | apply below_drew1) | exact HB.out)⟩
  · replace c4 := Bool.eq_false_iff.mpr c4
    subst c4
    have H1 : (some false) = some r := by rw [if_neg (show ¬ (false = true) by decide)] at H; exact H
    clear H
    have H := H1
    clear H1
    obtain rfl := Option.some.inj H
    go_enter Try.func8, Try.ntmps8
    go_wp2_with (first | (go_at_call 26; (with_reducible refine (pendulumlaw09_lives.calls k  false _ A3.out).mono ?_); rintro e w87 ⟨rfl, hb⟩; have n0_ := Aside0.mk (below_step (by repeat (first | (with_reducible first | exact HB.out | apply below_alloc | apply pw_below_drewN | apply below_drew1) | exact HB.out)) hb); clear HB; have HB := n0_; clear n0_; (try clear hb); (try clear hb2); (try clear hk); (try clear hi)))
    repeat (go_quiet (first | (go_at_call 26; (with_reducible refine (pendulumlaw09_lives.calls k  false _ A3.out).mono ?_); rintro e w87 ⟨rfl, hb⟩; have n0_ := Aside0.mk (below_step (by repeat (first | (with_reducible first | exact HB.out | apply below_alloc | apply pw_below_drewN | apply below_drew1) | exact HB.out)) hb); clear HB; have HB := n0_; clear n0_; (try clear hb); (try clear hb2); (try clear hk); (try clear hi))); try go_wp2_with (first | (go_at_call 26; (with_reducible refine (pendulumlaw09_lives.calls k  false _ A3.out).mono ?_); rintro e w87 ⟨rfl, hb⟩; have n0_ := Aside0.mk (below_step (by repeat (first | (with_reducible first | exact HB.out | apply below_alloc | apply pw_below_drewN | apply below_drew1) | exact HB.out)) hb); clear HB; have HB := n0_; clear n0_; (try clear hb); (try clear hb2); (try clear hk); (try clear hi))))
    go_ret
    exact ⟨by first | rfl | (simp [errW_none, errW_some] <;> rfl) | (simp [*, errW_none, errW_some] <;> rfl), by repeat (first | (with_reducible first | exact HB.out | apply below_alloc | apply pw_below_drewN | apply below_drew1) | exact HB.out)⟩

/-- THE ONE PURE STATEMENT of pendulumlaw09_DecodeRows: yours. -/
def pendulumlaw09_DecodeRows.Pure : Prop := ∀ (l0 : List Int) (a1 : Int), l0.length ≤ maxLen → l0.length * 1 ≤ 140737488351232 → (∀ x ∈ l0, (Lit.int .u8 x).wf = true) → (Lit.int .i64 a1).wf = true → ∃ k, pendulumlaw09_DecodeRows.f k l0 a1 = some true
theorem pendulumlaw09_DecodeRows.walk (P : pendulumlaw09_DecodeRows.Pure) (a0 : Option Addr) (len0 cap0 : Nat) (z0 : List Int) (a1 : Int) (w : World) (w0 : (a0 = none ∧ len0 = 0 ∧ cap0 = 0 ∧ z0 = []) ∨ ∃ x, a0 = some x ∧ len0 ≤ cap0 ∧ cap0 ≤ maxLen ∧ z0.length = cap0 ∧ (∀ i, i < z0.length → w.cell? (x.add i) = some (.int .u8 (z0.getD i 0))) ∧ ∀ n ∈ z0, (Lit.int .u8 n).wf = true) (y0 : len0 * 1 ≤ 140737488351232) (w1 : (Lit.int .i64 a1).wf = true) :
    Calls Try.prog 8 #[.slice a0 len0 cap0, .int .i64 a1] w fun e w' => e = .returned (.bool true) ∧ Below w.heap.size w w' := by
  obtain ⟨l0, rfl, hr0, hm0, hw0, hc0⟩ := ReadsInt.ofRowC w0
  obtain ⟨k, h⟩ := P l0 a1 hm0 y0 hw0 w1
  refine (pendulumlaw09_DecodeRows.calls k _ _ l0 a1 true w (Kd.C_of_reads (d := (0 : Int)) (h1 := fun _ => rfl) hr0) hc0 h).mono ?_
  rintro e w' ⟨rfl, hd⟩
  exact ⟨rfl, hd⟩

end Go.Proofs.Ythcokhnckbkecaa.HDecode
