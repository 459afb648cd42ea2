-- Written by a program of this session out of Lean's print of the program (after the form of the kit's print.sh, with own turns); Lean checks it.
import Derived.Test.YthcokhnckbkecaaHDecodex0
import Derived.Test.YthcokhnckbkecaaHDecodex1
import Derived.Test.YthcokhnckbkecaaHDecodex5
import Derived.Test.YthcokhnckbkecaaHDecodex6
import Derived.Test.YthcokhnckbkecaaHDecodex7
import Derived.Test.YthcokhnckbkecaaHDecodex8
namespace Go.Proofs.Ythcokhnckbkecaa.HDecode
open Go.RowKit Go.Proofs.YthcokhnckbkecaaW.PrintWords Go.Proofs.YthcokhnckbkecaaW.PrintLast Go.Proofs.YthcokhnckbkecaaW.PrintMore
attribute [local go_sem] max2_int min2_int max_two min_two max_three min_three max_four min_four   -- for this text's walks alone
set_option linter.unusedVariables false
set_option linter.unusedSimpArgs false

attribute [local go_sem high] eqA46
/-! ### pendulumlaw09_DecodeBack: function 7 -/
def pendulumlaw09_DecodeBack.j0 : Nat → Int → Int → Int → Int → Int → Int → Int → Option (Bool)
  | 0, _, _, _, _, _, _, _ => none
  | k + 1, x2, x198000, x198001, x198002, x198003, x198004, x198005 => (decode_Bytes.f k x198000 x198001 x198002 x198003 x198004 x198005).bind fun bt216 => (if bt216.2 = 0 then (if x198000 = 0 then (if x198002 = 221 then ((some (([221, 237, 253] : List Int) : List Int)).bind fun y220 => (if 0 ≤ (Int.tmod x2 3) then (if (Int.tmod x2 3) < (y220.length : Int) then (if bt216.1.length < 140737488355328 then ((decode_Of.f (bt216.1 ++ [rd y220 (Int.tmod x2 3)])).bind fun bt227 => (if bt227.2.2.2.2.2.2 = 0 then (some (bt227.1 == x198000 && (bt227.2.1 == x198001 && (bt227.2.2.1 == x198002 && (bt227.2.2.2.1 == x198003 && (bt227.2.2.2.2.1 == x198004 && (bt227.2.2.2.2.2.1 == x198005))))))) else (some false))) else (none)) else (none)) else (none))) else (if x198002 = 253 then ((some (([221, 237, 253] : List Int) : List Int)).bind fun y234 => (if 0 ≤ (Int.tmod x2 3) then (if (Int.tmod x2 3) < (y234.length : Int) then (if bt216.1.length < 140737488355328 then ((decode_Of.f (bt216.1 ++ [rd y234 (Int.tmod x2 3)])).bind fun bt241 => (if bt241.2.2.2.2.2.2 = 0 then (some (bt241.1 == x198000 && (bt241.2.1 == x198001 && (bt241.2.2.1 == x198002 && (bt241.2.2.2.1 == x198003 && (bt241.2.2.2.2.1 == x198004 && (bt241.2.2.2.2.2.1 == x198005))))))) else (some false))) else (none)) else (none)) else (none))) else (if bt216.1.length < 140737488355328 then ((decode_Of.f (bt216.1 ++ [x2])).bind fun bt251 => (if bt251.2.2.2.2.2.2 = 0 then (some (bt251.1 == x198000 && (bt251.2.1 == x198001 && (bt251.2.2.1 == x198002 && (bt251.2.2.2.1 == x198003 && (bt251.2.2.2.2.1 == x198004 && (bt251.2.2.2.2.2.1 == x198005))))))) else (some false))) else (none)))) else (if bt216.1.length < 140737488355328 then ((decode_Of.f (bt216.1 ++ [x2])).bind fun bt261 => (if bt261.2.2.2.2.2.2 = 0 then (some (bt261.1 == x198000 && (bt261.2.1 == x198001 && (bt261.2.2.1 == x198002 && (bt261.2.2.2.1 == x198003 && (bt261.2.2.2.2.1 == x198004 && (bt261.2.2.2.2.2.1 == x198005))))))) else (some false))) else (none))) else (if bt216.2 = 2 then ((decode_Check.f k x198000 x198001 x198002 x198003 x198004 x198005).bind fun t268 => (if t268 = bt216.2 then (some ((bt216.1.length : Int) == 0)) else (some false))) else (some false)))
def pendulumlaw09_DecodeBack.f (k : Nat) (l0 : List Int) (a1_0 : Int) (a1_1 : Int) (a1_2 : Int) (a1_3 : Int) (a1_4 : Int) (a1_5 : Int) (a2 : Int) : Option (Bool) := (pendulumlaw09_lives.f k).bind fun t198 => (if t198 = true then (if (l0.length : Int) > 500 then (some true) else ((pendulumkit_Own.f l0).bind fun t199 => ((decode_Of.f t199).bind fun bt202 => (if bt202.2.2.2.2.2.2 = 0 then ((decode_Bytes.f k bt202.1 bt202.2.1 bt202.2.2.1 bt202.2.2.2.1 bt202.2.2.2.2.1 bt202.2.2.2.2.2.1).bind fun bt210 => (if bt210.2 = 0 then ((decode_Check.f k bt202.1 bt202.2.1 bt202.2.2.1 bt202.2.2.2.1 bt202.2.2.2.2.1 bt202.2.2.2.2.2.1).bind fun t214 => (if t214 = 0 then (if (bt210.1.length : Int) = bt202.2.2.2.2.2.1 then (if (l0.length : Int) < bt202.2.2.2.2.2.1 then (some false) else (if 0 ≤ bt202.2.2.2.2.2.1 then (if bt202.2.2.2.2.2.1 ≤ (l0.length : Int) then (if (strOfNums bt210.1).toList = (strOfNums (l0.take (bt202.2.2.2.2.2.1 : Int).toNat)).toList then (pendulumlaw09_DecodeBack.j0 k a2 a1_0 a1_1 a1_2 a1_3 a1_4 a1_5) else (some false)) else (none)) else (none))) else (some false)) else (some false))) else (some false))) else (if bt202.2.2.2.2.2.2 = 5 then (pendulumlaw09_DecodeBack.j0 k a2 a1_0 a1_1 a1_2 a1_3 a1_4 a1_5) else (some false)))))) else (some false))
theorem pendulumlaw09_DecodeBack.mono_l : ∀ k, (∀ y0 y1 y2 y3 y4 y5 y6, LeO (pendulumlaw09_DecodeBack.j0 k y0 y1 y2 y3 y4 y5 y6) (pendulumlaw09_DecodeBack.j0 (k + 1) y0 y1 y2 y3 y4 y5 y6))
  | 0 => fun _ _ _ _ _ _ _ r h => by simp [pendulumlaw09_DecodeBack.j0] at h
  | k + 1 => by
    have ih0 := pendulumlaw09_DecodeBack.mono_l k
    · intro y0 y1 y2 y3 y4 y5 y6
      unfold pendulumlaw09_DecodeBack.j0
      repeat' first
      | (with_reducible exact ih0 _ _ _ _ _ _ _)
      | (with_reducible exact decode_Bytes.mono _ _ _ _ _ _ _)
      | (with_reducible exact decode_Check.mono _ _ _ _ _ _ _)
      | (with_reducible exact pendulumlaw09_lives.mono _)
      | (with_reducible exact LeO.refl _)
      | (with_reducible exact LeO.none _)
      | (with_reducible refine LeO.ite ?_ ?_)
      | (with_reducible refine LeO.bind ?_ (fun _ => ?_))
      | exact ih0 _ _ _ _ _ _ _
      | exact decode_Bytes.mono _ _ _ _ _ _ _
      | exact decode_Check.mono _ _ _ _ _ _ _
      | exact pendulumlaw09_lives.mono _
      | exact LeO.none _
      | refine LeO.ite ?_ ?_
      | refine LeO.bind ?_ (fun _ => ?_)
theorem pendulumlaw09_DecodeBack.mono : ∀ a0 a1 a2 a3 a4 a5 a6 a7 k, LeO (pendulumlaw09_DecodeBack.f k a0 a1 a2 a3 a4 a5 a6 a7) (pendulumlaw09_DecodeBack.f (k + 1) a0 a1 a2 a3 a4 a5 a6 a7) := by
  intro a0 a1 a2 a3 a4 a5 a6 a7 k
  have ih0 := pendulumlaw09_DecodeBack.mono_l k
  unfold pendulumlaw09_DecodeBack.f
  repeat' first
      | (with_reducible exact ih0 _ _ _ _ _ _ _)
      | (with_reducible exact decode_Bytes.mono _ _ _ _ _ _ _)
      | (with_reducible exact decode_Check.mono _ _ _ _ _ _ _)
      | (with_reducible exact pendulumlaw09_lives.mono _)
      | (with_reducible exact LeO.refl _)
      | (with_reducible exact LeO.none _)
      | (with_reducible refine LeO.ite ?_ ?_)
      | (with_reducible refine LeO.bind ?_ (fun _ => ?_))
      | exact ih0 _ _ _ _ _ _ _
      | exact decode_Bytes.mono _ _ _ _ _ _ _
      | exact decode_Check.mono _ _ _ _ _ _ _
      | exact pendulumlaw09_lives.mono _
      | exact LeO.none _
      | refine LeO.ite ?_ ?_
      | refine LeO.bind ?_ (fun _ => ?_)
def pendulumlaw09_DecodeBack.T8 : Bool × List (List Nat × List Nat) := (true, [([], []), ([0], [0]), ([1], [1]), ([2], [2]), ([3, 2, 2], [2, 3]), ([4, 2], [2, 4]), ([2, 5], [2, 5]), ([6, 4], [6]), ([7], [7]), ([8, 7], [7, 8]), ([7], [7]), ([10, 7], [7, 10]), ([9, 11, 7], [7, 9, 11]), ([7, 12], [7, 12]), ([13, 7], [13]), ([14], [14]), ([15, 14], [14, 15]), ([14], [14]), ([17, 14], [14, 17]), ([16, 18, 14], [14, 16, 18]), ([14, 19], [14, 19]), ([20, 14], [20]), ([21], [21]), ([22, 21], [21, 22]), ([21], [21]), ([21], [21]), ([25, 21], [21, 25]), ([24, 26, 21], [21, 24, 26]), ([27, 21], [21, 27]), ([23, 28, 21], [21, 23, 28]), ([21, 29], [21, 29])])
def pendulumlaw09_DecodeBack.B8 : List Nat := [0, 1, 3, 7, 15, 31, 63, 127, 255, 511, 255, 1279, 4095, 8191, 16383, 32767, 65535, 32767, 163839, 524287, 1048575, 2097151, 4194303, 8388607, 4194303, 4194303, 37748735, 121634815, 255852543, 536870911, 1073741823]
theorem pendulumlaw09_DecodeBack.tab8 : rtab .any (opsOf Try.f7 8) = pendulumlaw09_DecodeBack.T8 := by kernel_rfl
theorem pendulumlaw09_DecodeBack.bits8 : waitsOk pendulumlaw09_DecodeBack.T8.2 pendulumlaw09_DecodeBack.B8 = true := by kernel_rfl
set_option maxHeartbeats 8000000 in
set_option maxRecDepth 100000 in
theorem pendulumlaw09_DecodeBack.calls (k : Nat) (A0 : Option Addr) (c0 : Nat) (l0 : List Int) (a1_0 : Int) (a1_1 : Int) (a1_2 : Int) (a1_3 : Int) (a1_4 : Int) (a1_5 : Int) (a2 : Int) (r : Bool) (w : World) (hr0 : Kd.C (Kd.int .u8) w A0 l0.length l0) (hc0 : l0.length ≤ c0) (h : pendulumlaw09_DecodeBack.f k l0 a1_0 a1_1 a1_2 a1_3 a1_4 a1_5 a2 = some r) (hrt : r = true) :
    Calls Try.prog 7 #[.slice A0 l0.length c0, .agg #[.int .i64 a1_0, .int .i64 a1_1, .int .i64 a1_2, .int .i64 a1_3, .int .i64 a1_4, .int .i64 a1_5], .int .u8 a2] w fun e w' => e = .returned (.bool r) ∧ Below w.heap.size w w' := by
  have HRT := Aside0.mk hrt
  clear hrt
  have hu46 := Try.underlying46
  have HR0 := Aside0.mk hr0
  have HC0 := Aside0.mk hc0
  clear hr0 hc0
  have HB := Aside0.mk (Below.refl w.heap.size w)
  have H : ((pendulumlaw09_lives.f k).bind fun t198 => (if t198 = true then (if (l0.length : Int) > 500 then (some true) else ((pendulumkit_Own.f l0).bind fun t199 => ((decode_Of.f t199).bind fun bt202 => (if bt202.2.2.2.2.2.2 = 0 then ((decode_Bytes.f k bt202.1 bt202.2.1 bt202.2.2.1 bt202.2.2.2.1 bt202.2.2.2.2.1 bt202.2.2.2.2.2.1).bind fun bt210 => (if bt210.2 = 0 then ((decode_Check.f k bt202.1 bt202.2.1 bt202.2.2.1 bt202.2.2.2.1 bt202.2.2.2.2.1 bt202.2.2.2.2.2.1).bind fun t214 => (if t214 = 0 then (if (bt210.1.length : Int) = bt202.2.2.2.2.2.1 then (if (l0.length : Int) < bt202.2.2.2.2.2.1 then (some false) else (if 0 ≤ bt202.2.2.2.2.2.1 then (if bt202.2.2.2.2.2.1 ≤ (l0.length : Int) then (if (strOfNums bt210.1).toList = (strOfNums (l0.take (bt202.2.2.2.2.2.1 : Int).toNat)).toList then (pendulumlaw09_DecodeBack.j0 k a2 a1_0 a1_1 a1_2 a1_3 a1_4 a1_5) else (some false)) else (none)) else (none))) else (some false)) else (some false))) else (some false))) else (if bt202.2.2.2.2.2.2 = 5 then (pendulumlaw09_DecodeBack.j0 k a2 a1_0 a1_1 a1_2 a1_3 a1_4 a1_5) else (some false)))))) else (some false))) = some r := h
  clear h
  replace H := Option.bind_eq_some_iff.mp H
  obtain ⟨t198, A40, H⟩ := H
  replace H : (if t198 = true then (if (l0.length : Int) > 500 then (some true) else ((pendulumkit_Own.f l0).bind fun t199 => ((decode_Of.f t199).bind fun bt202 => (if bt202.2.2.2.2.2.2 = 0 then ((decode_Bytes.f k bt202.1 bt202.2.1 bt202.2.2.1 bt202.2.2.2.1 bt202.2.2.2.2.1 bt202.2.2.2.2.2.1).bind fun bt210 => (if bt210.2 = 0 then ((decode_Check.f k bt202.1 bt202.2.1 bt202.2.2.1 bt202.2.2.2.1 bt202.2.2.2.2.1 bt202.2.2.2.2.2.1).bind fun t214 => (if t214 = 0 then (if (bt210.1.length : Int) = bt202.2.2.2.2.2.1 then (if (l0.length : Int) < bt202.2.2.2.2.2.1 then (some false) else (if 0 ≤ bt202.2.2.2.2.2.1 then (if bt202.2.2.2.2.2.1 ≤ (l0.length : Int) then (if (strOfNums bt210.1).toList = (strOfNums (l0.take (bt202.2.2.2.2.2.1 : Int).toNat)).toList then (pendulumlaw09_DecodeBack.j0 k a2 a1_0 a1_1 a1_2 a1_3 a1_4 a1_5) else (some false)) else (none)) else (none))) else (some false)) else (some false))) else (some false))) else (if bt202.2.2.2.2.2.2 = 5 then (pendulumlaw09_DecodeBack.j0 k a2 a1_0 a1_1 a1_2 a1_3 a1_4 a1_5) else (some false)))))) else (some false)) = some r := H
  have A4 := Aside0.mk A40
  clear A40
  by_cases c5 : t198 = true
  · subst c5
    have H1 : (if (l0.length : Int) > 500 then (some true) else ((pendulumkit_Own.f l0).bind fun t199 => ((decode_Of.f t199).bind fun bt202 => (if bt202.2.2.2.2.2.2 = 0 then ((decode_Bytes.f k bt202.1 bt202.2.1 bt202.2.2.1 bt202.2.2.2.1 bt202.2.2.2.2.1 bt202.2.2.2.2.2.1).bind fun bt210 => (if bt210.2 = 0 then ((decode_Check.f k bt202.1 bt202.2.1 bt202.2.2.1 bt202.2.2.2.1 bt202.2.2.2.2.1 bt202.2.2.2.2.2.1).bind fun t214 => (if t214 = 0 then (if (bt210.1.length : Int) = bt202.2.2.2.2.2.1 then (if (l0.length : Int) < bt202.2.2.2.2.2.1 then (some false) else (if 0 ≤ bt202.2.2.2.2.2.1 then (if bt202.2.2.2.2.2.1 ≤ (l0.length : Int) then (if (strOfNums bt210.1).toList = (strOfNums (l0.take (bt202.2.2.2.2.2.1 : Int).toNat)).toList then (pendulumlaw09_DecodeBack.j0 k a2 a1_0 a1_1 a1_2 a1_3 a1_4 a1_5) else (some false)) else (none)) else (none))) else (some false)) else (some false))) else (some false))) else (if bt202.2.2.2.2.2.2 = 5 then (pendulumlaw09_DecodeBack.j0 k a2 a1_0 a1_1 a1_2 a1_3 a1_4 a1_5) else (some false)))))) = some r := by rw [if_pos rfl] at H; exact H
    clear H
    have H := H1
    clear H1
    by_cases c6 : (l0.length : Int) > 500
    · rw [if_pos c6] at H
      have c6b0 : decide (500 < (l0.length : Int)) = true := decide_eq_true c6
      have c6b1 : decide (500 < l0.length) = true := decide_eq_true (by omega)
      clear c6
      obtain rfl := Option.some.inj H
      go_enter Try.func7, Try.ntmps7
      go_wp2_with (first | ((with_reducible refine gate_dst (N := 4) rfl ?_); (try (refine gate_guard (by rfl) ?_; dsimp only)); refine box_event ?hg (N := 4) ?hd (cs := #[.int .i64 a1_0, .int .i64 a1_1, .int .i64 a1_2, .int .i64 a1_3, .int .i64 a1_4, .int .i64 a1_5]) (t := 46) ?hr ?_; (case hd => rfl); (case hg => rfl); (case hr => first | (go_simp; done) | (go_simp; rfl)); intro gb197 hg w7 hbox hb; have n0_ := Aside0.mk (below_step (by repeat (first | (with_reducible first | exact HB.out | apply below_alloc | apply pw_below_drewN | apply below_drew1) | exact HB.out)) hb); have n1_ := Aside0.mk (hbox); have n2_ := Aside0.mk ((by rw [hg]; exact (below_size (by repeat (first | (with_reducible first | exact HB.out | apply below_alloc | apply pw_below_drewN | apply below_drew1) | exact HB.out))) : w.heap.size ≤ gb197)); have n3_ := Aside0.mk ((by rw [hg]; exact (below_size (by repeat (first | (with_reducible first | exact HB.out | apply below_alloc | apply pw_below_drewN | apply below_drew1) | exact HB.out))) : w.heap.size ≤ gb197)); clear HB; have HB := n0_; have BK197 := n1_; have GW197 := n2_; have GE197 := n3_; clear n0_ n1_ n2_ n3_; clear hb hbox hg) | ((with_reducible refine gate_callee (f := 26) rfl ?_); refine goesL_ (some 13) rfl rfl Try.func26 (by kernel_rfl) rfl #[] rfl (by (try simp only [List.map_toArray, List.map_cons, List.map_nil]); first | done | rfl | (simp only [List.length_drop, List.length_take]; rfl)) ?_; (with_reducible refine (pendulumlaw09_lives.calls k  true _ A4.out).mono ?_); rintro e w8 ⟨rfl, hb⟩; refine ⟨_, rfl, ?_⟩; have n0_ := Aside0.mk (blk_below (g := gb197) (o := .cells #[.int .i64 a1_0, .int .i64 a1_1, .int .i64 a1_2, .int .i64 a1_3, .int .i64 a1_4, .int .i64 a1_5] 46 (0, 0)) (by (with_reducible repeat (first | refine blk_drewN ?_ _ | refine blk_drew ?_ | refine blk_alloc ?_ _)); exact BK197.out) hb); have n1_ := Aside0.mk (below_step (by repeat (first | (with_reducible first | exact HB.out | apply below_alloc | apply pw_below_drewN | apply below_drew1 | refine below_set ?_ GE197.out) | exact HB.out)) hb); clear BK197; clear HB; have BK197 := n0_; have HB := n1_; clear n0_ n1_; (try clear hb); (try clear hb2); (try clear hk); (try clear hi)))
      go_ret
      exact ⟨by first | rfl | (simp [errW_none, errW_some] <;> rfl) | (simp [*, errW_none, errW_some] <;> rfl), by repeat (first | (with_reducible first | exact HB.out | apply below_alloc | apply pw_below_drewN | apply below_drew1 | refine below_set ?_ GE197.out) | exact HB.out)⟩
    · rw [if_neg c6] at H
      have c6b0 : decide (500 < (l0.length : Int)) = false := decide_eq_false c6
      have c6b1 : decide (500 < l0.length) = false := decide_eq_false (by omega)
      clear c6
      replace H := Option.bind_eq_some_iff.mp H
      obtain ⟨t199, A90, H⟩ := H
      replace H : ((decode_Of.f t199).bind fun bt202 => (if bt202.2.2.2.2.2.2 = 0 then ((decode_Bytes.f k bt202.1 bt202.2.1 bt202.2.2.1 bt202.2.2.2.1 bt202.2.2.2.2.1 bt202.2.2.2.2.2.1).bind fun bt210 => (if bt210.2 = 0 then ((decode_Check.f k bt202.1 bt202.2.1 bt202.2.2.1 bt202.2.2.2.1 bt202.2.2.2.2.1 bt202.2.2.2.2.2.1).bind fun t214 => (if t214 = 0 then (if (bt210.1.length : Int) = bt202.2.2.2.2.2.1 then (if (l0.length : Int) < bt202.2.2.2.2.2.1 then (some false) else (if 0 ≤ bt202.2.2.2.2.2.1 then (if bt202.2.2.2.2.2.1 ≤ (l0.length : Int) then (if (strOfNums bt210.1).toList = (strOfNums (l0.take (bt202.2.2.2.2.2.1 : Int).toNat)).toList then (pendulumlaw09_DecodeBack.j0 k a2 a1_0 a1_1 a1_2 a1_3 a1_4 a1_5) else (some false)) else (none)) else (none))) else (some false)) else (some false))) else (some false))) else (if bt202.2.2.2.2.2.2 = 5 then (pendulumlaw09_DecodeBack.j0 k a2 a1_0 a1_1 a1_2 a1_3 a1_4 a1_5) else (some false)))) = some r := H
      have A9 := Aside0.mk A90
      clear A90
      replace H := Option.bind_eq_some_iff.mp H
      obtain ⟨⟨t202, t203, t204, t205, t206, t207, t208⟩, A100, H⟩ := H
      replace H : (if t208 = 0 then ((decode_Bytes.f k t202 t203 t204 t205 t206 t207).bind fun bt210 => (if bt210.2 = 0 then ((decode_Check.f k t202 t203 t204 t205 t206 t207).bind fun t214 => (if t214 = 0 then (if (bt210.1.length : Int) = t207 then (if (l0.length : Int) < t207 then (some false) else (if 0 ≤ t207 then (if t207 ≤ (l0.length : Int) then (if (strOfNums bt210.1).toList = (strOfNums (l0.take (t207 : Int).toNat)).toList then (pendulumlaw09_DecodeBack.j0 k a2 a1_0 a1_1 a1_2 a1_3 a1_4 a1_5) else (some false)) else (none)) else (none))) else (some false)) else (some false))) else (some false))) else (if t208 = 5 then (pendulumlaw09_DecodeBack.j0 k a2 a1_0 a1_1 a1_2 a1_3 a1_4 a1_5) else (some false))) = some r := H
      have A10 := Aside0.mk A100
      clear A100
      have HC11 := Aside0.mk H
      clear H
      go_enter Try.func7, Try.ntmps7
      go_upto_if 25 with (first | ((with_reducible refine gate_dst (N := 4) rfl ?_); (try (refine gate_guard (by rfl) ?_; dsimp only)); refine box_event ?hg (N := 4) ?hd (cs := #[.int .i64 a1_0, .int .i64 a1_1, .int .i64 a1_2, .int .i64 a1_3, .int .i64 a1_4, .int .i64 a1_5]) (t := 46) ?hr ?_; (case hd => rfl); (case hg => rfl); (case hr => first | (go_simp; done) | (go_simp; rfl)); intro gb197 hg w12 hbox hb; have n0_ := Aside0.mk (below_step (by repeat (first | (with_reducible first | exact HB.out | apply below_alloc | apply pw_below_drewN | apply below_drew1) | exact HB.out)) hb); have n1_ := Aside0.mk (hbox); have n2_ := Aside0.mk ((by rw [hg]; exact (below_size (by repeat (first | (with_reducible first | exact HB.out | apply below_alloc | apply pw_below_drewN | apply below_drew1) | exact HB.out))) : w.heap.size ≤ gb197)); have n3_ := Aside0.mk ((by rw [hg]; exact (below_size (by repeat (first | (with_reducible first | exact HB.out | apply below_alloc | apply pw_below_drewN | apply below_drew1) | exact HB.out))) : w.heap.size ≤ gb197)); clear HB; have HB := n0_; have BK197 := n1_; have GW197 := n2_; have GE197 := n3_; clear n0_ n1_ n2_ n3_; clear hb hbox hg) | ((with_reducible refine gate_callee (f := 26) rfl ?_); refine goesL_ (some 13) rfl rfl Try.func26 (by kernel_rfl) rfl #[] rfl (by (try simp only [List.map_toArray, List.map_cons, List.map_nil]); first | done | rfl | (simp only [List.length_drop, List.length_take]; rfl)) ?_; (with_reducible refine (pendulumlaw09_lives.calls k  true _ A4.out).mono ?_); rintro e w13 ⟨rfl, hb⟩; refine ⟨_, rfl, ?_⟩; have n0_ := Aside0.mk (blk_below (g := gb197) (o := .cells #[.int .i64 a1_0, .int .i64 a1_1, .int .i64 a1_2, .int .i64 a1_3, .int .i64 a1_4, .int .i64 a1_5] 46 (0, 0)) (by (with_reducible repeat (first | refine blk_drewN ?_ _ | refine blk_drew ?_ | refine blk_alloc ?_ _)); exact BK197.out) hb); have n1_ := Aside0.mk (below_step (by repeat (first | (with_reducible first | exact HB.out | apply below_alloc | apply pw_below_drewN | apply below_drew1 | refine below_set ?_ GE197.out) | exact HB.out)) hb); clear BK197; clear HB; have BK197 := n0_; have HB := n1_; clear n0_ n1_; (try clear hb); (try clear hb2); (try clear hk); (try clear hi)) | ((with_reducible refine gate_callee (f := 28) rfl ?_); refine goesL_ (some 20) rfl rfl Try.func28 (by kernel_rfl) rfl #[.slice A0 l0.length c0] rfl (by (try simp only [List.map_toArray, List.map_cons, List.map_nil]); first | done | rfl | (simp only [List.length_drop, List.length_take]; rfl)) ?_; (with_reducible refine (pendulumkit_Own.calls _ _ l0 t199 _ ?side1 ?side2 A9.out).mono ?_); (case side1 => repeat (first | exact (Kd.C_below HR0.out HB.out) | (with_reducible refine Kd.C_alloc ?_ _) | (with_reducible refine Kd.C_drewN ?_ _) | (with_reducible refine Kd.C_drew ?_))); (case side2 => exact HC0.out); rintro e w14 ⟨v200, rfl, ho0, hb⟩; refine ⟨_, rfl, ?_⟩; have n0_ := Aside0.mk (Kd.R_lower ho0 (below_size (by repeat (first | (with_reducible first | exact HB.out | apply below_alloc | apply pw_below_drewN | apply below_drew1 | refine below_set ?_ GE197.out) | exact HB.out)))); have n1_ := Aside0.mk (blk_below (g := gb197) (o := .cells #[.int .i64 a1_0, .int .i64 a1_1, .int .i64 a1_2, .int .i64 a1_3, .int .i64 a1_4, .int .i64 a1_5] 46 (0, 0)) (by (with_reducible repeat (first | refine blk_drewN ?_ _ | refine blk_drew ?_ | refine blk_alloc ?_ _)); exact BK197.out) hb); have n2_ := Aside0.mk (below_step (by repeat (first | (with_reducible first | exact HB.out | apply below_alloc | apply pw_below_drewN | apply below_drew1 | refine below_set ?_ GE197.out) | exact HB.out)) hb); clear BK197; clear HB; have HO201 := n0_; have BK197 := n1_; have HB := n2_; clear n0_ n1_ n2_; (try clear hb); (try clear hb2); (try clear hk); (try clear hi); (try clear ho0); obtain ⟨Ao15, co15, eo15⟩ := Kd.R_slice HO201.out; subst eo15) | ((with_reducible refine gate_callee (f := 27) rfl ?_); refine goesL_ (some 21) rfl rfl Try.func27 (by kernel_rfl) rfl #[.slice Ao15 t199.length co15] rfl (by (try simp only [List.map_toArray, List.map_cons, List.map_nil]); first | done | rfl | (simp only [List.length_drop, List.length_take]; rfl)) ?_; (with_reducible refine (decode_Of.calls _ _ t199 t202 t203 t204 t205 t206 t207 t208 _ ?side1 ?side2 A10.out).mono ?_); (case side1 => repeat (first | exact (Kd.R_reads' HO201.out).2.2 | (with_reducible refine Kd.C_alloc ?_ _) | (with_reducible refine Kd.C_drewN ?_ _) | (with_reducible refine Kd.C_drew ?_))); (case side2 => exact (Kd.R_reads' HO201.out).2.1); rintro e w16 ⟨rfl, hb⟩; refine ⟨_, rfl, ?_⟩; have n0_ := Aside0.mk (Kd.R_below (by (with_reducible repeat (first | apply Kd.R_alloc | apply Kd.R_drewN | apply Kd.R_drew)); exact HO201.out) hb); have n1_ := Aside0.mk (blk_below (g := gb197) (o := .cells #[.int .i64 a1_0, .int .i64 a1_1, .int .i64 a1_2, .int .i64 a1_3, .int .i64 a1_4, .int .i64 a1_5] 46 (0, 0)) (by (with_reducible repeat (first | refine blk_drewN ?_ _ | refine blk_drew ?_ | refine blk_alloc ?_ _)); exact BK197.out) hb); have n2_ := Aside0.mk (below_step (by repeat (first | (with_reducible first | exact HB.out | apply below_alloc | apply pw_below_drewN | apply below_drew1 | refine below_set ?_ GE197.out) | exact HB.out)) hb); clear HO201; clear BK197; clear HB; have HO201 := n0_; have BK197 := n1_; have HB := n2_; clear n0_ n1_ n2_; (try clear hb); (try clear hb2); (try clear hk); (try clear hi)) | ((with_reducible refine gate_dst (N := 7) rfl ?_); (try (refine gate_guard (by rfl) ?_; dsimp only)); refine box_event ?hg (N := 7) ?hd (cs := #[.int .i64 0, .int .i64 0, .int .i64 0, .int .i64 0, .int .i64 0, .int .i64 0]) (t := 46) ?hr ?_; (case hd => rfl); (case hg => rfl); (case hr => first | (go_simp; done) | (go_simp; rfl)); intro gb209 hg w17 hbox hb; have n0_ := Aside0.mk (Kd.R_below (by (with_reducible repeat (first | apply Kd.R_alloc | apply Kd.R_drewN | apply Kd.R_drew)); exact HO201.out) hb); have n1_ := Aside0.mk (blk_below (g := gb197) (o := .cells #[.int .i64 a1_0, .int .i64 a1_1, .int .i64 a1_2, .int .i64 a1_3, .int .i64 a1_4, .int .i64 a1_5] 46 (0, 0)) (by (with_reducible repeat (first | refine blk_drewN ?_ _ | refine blk_drew ?_ | refine blk_alloc ?_ _)); exact BK197.out) hb); have n2_ := Aside0.mk (below_step (by repeat (first | (with_reducible first | exact HB.out | apply below_alloc | apply pw_below_drewN | apply below_drew1 | refine below_set ?_ GE197.out) | exact HB.out)) hb); have n3_ := Aside0.mk (hbox); have n4_ := Aside0.mk ((by rw [hg]; exact (below_size (by repeat (first | (with_reducible first | exact HB.out | apply below_alloc | apply pw_below_drewN | apply below_drew1 | refine below_set ?_ GE197.out) | exact HB.out))) : w.heap.size ≤ gb209)); have n5_ := Aside0.mk ((by rw [hg]; exact (below_size (by repeat (first | (with_reducible first | exact HB.out | apply below_alloc | apply pw_below_drewN | apply below_drew1 | refine below_set ?_ GE197.out) | exact HB.out))) : w.heap.size ≤ gb209)); have n6_ := Aside0.mk ((by rw [hg]; exact Nat.ne_of_lt (blk_lt (g := gb197) (o := .cells #[.int .i64 a1_0, .int .i64 a1_1, .int .i64 a1_2, .int .i64 a1_3, .int .i64 a1_4, .int .i64 a1_5] 46 (0, 0)) (by (with_reducible repeat (first | refine blk_drewN ?_ _ | refine blk_drew ?_ | refine blk_alloc ?_ _)); exact BK197.out)) : gb197 ≠ gb209)); have n7_ := Aside0.mk ((by rw [hg]; exact Nat.ne_of_gt (blk_lt (g := gb197) (o := .cells #[.int .i64 a1_0, .int .i64 a1_1, .int .i64 a1_2, .int .i64 a1_3, .int .i64 a1_4, .int .i64 a1_5] 46 (0, 0)) (by (with_reducible repeat (first | refine blk_drewN ?_ _ | refine blk_drew ?_ | refine blk_alloc ?_ _)); exact BK197.out)) : gb209 ≠ gb197)); clear HO201; clear BK197; clear HB; have HO201 := n0_; have BK197 := n1_; have HB := n2_; have BK209 := n3_; have GW209 := n4_; have GE209 := n5_; have NB197_209 := n6_; have NB209_197 := n7_; clear n0_ n1_ n2_ n3_ n4_ n5_ n6_ n7_; clear hb hbox hg; have hnb18 := NB209_197.out; have hnc18 := NB197_209.out; have hcz19_0 : w17.cell? ⟨gb209, 0, none⟩ = some (.int .i64 0) := (blk_cell BK209.out 0).trans rfl; have hcz19_1 : w17.cell? ⟨gb209, 1, none⟩ = some (.int .i64 0) := (blk_cell BK209.out 1).trans rfl; have hcz19_2 : w17.cell? ⟨gb209, 2, none⟩ = some (.int .i64 0) := (blk_cell BK209.out 2).trans rfl; have hcz19_3 : w17.cell? ⟨gb209, 3, none⟩ = some (.int .i64 0) := (blk_cell BK209.out 3).trans rfl; have hcz19_4 : w17.cell? ⟨gb209, 4, none⟩ = some (.int .i64 0) := (blk_cell BK209.out 4).trans rfl; have hcz19_5 : w17.cell? ⟨gb209, 5, none⟩ = some (.int .i64 0) := (blk_cell BK209.out 5).trans rfl; have hfz19_0 := blk_frozen BK209.out 0; have hfz19_1 := blk_frozen BK209.out 1; have hfz19_2 := blk_frozen BK209.out 2; have hfz19_3 := blk_frozen BK209.out 3; have hfz19_4 := blk_frozen BK209.out 4; have hfz19_5 := blk_frozen BK209.out 5))
      (try simp only [Act.put, List.setIfInBounds_toArray, List.set_cons_zero, List.set_cons_succ])
      go_cut [] (fun wc => ∃ (kq : Nat), Aside0 (pendulumlaw09_DecodeBack.j0 kq a2 a1_0 a1_1 a1_2 a1_3 a1_4 a1_5 = some r) ∧ Aside0 (kq ≤ k) ∧ Aside0 (wc.heap[gb197]? = some (.cells #[.int .i64 a1_0, .int .i64 a1_1, .int .i64 a1_2, .int .i64 a1_3, .int .i64 a1_4, .int .i64 a1_5] 46 (0, 0))) ∧ Aside0 (wc.heap[gb209]? = some (.cells #[.int .i64 t202, .int .i64 t203, .int .i64 t204, .int .i64 t205, .int .i64 t206, .int .i64 t207] 46 (0, 0))) ∧ Aside0 (Below w.heap.size w wc))
      case first =>
        have H := HC11.out
        clear HC11
        by_cases c20 : t208 = 0
        · rw [if_pos c20] at H
          have c20b0 : (t208 == 0) = true := beq_iff_eq.mpr c20
          have c20b1 : (t208 != 0) = false := bne_eq_false_iff_eq.mpr c20
          clear c20
          (first | rw [c20b0] | (simp only [i64_w, i32_w]; rw [c20b0]) | skip)
          replace H := Option.bind_eq_some_iff.mp H
          obtain ⟨⟨t210, t213⟩, A210, H⟩ := H
          replace H : (if t213 = 0 then ((decode_Check.f k t202 t203 t204 t205 t206 t207).bind fun t214 => (if t214 = 0 then (if (t210.length : Int) = t207 then (if (l0.length : Int) < t207 then (some false) else (if 0 ≤ t207 then (if t207 ≤ (l0.length : Int) then (if (strOfNums t210).toList = (strOfNums (l0.take (t207 : Int).toNat)).toList then (pendulumlaw09_DecodeBack.j0 k a2 a1_0 a1_1 a1_2 a1_3 a1_4 a1_5) else (some false)) else (none)) else (none))) else (some false)) else (some false))) else (some false)) = some r := H
          have A21 := Aside0.mk A210
          clear A210
          by_cases c22 : t213 = 0
          · rw [if_pos c22] at H
            have c22b0 : (t213 == 0) = true := beq_iff_eq.mpr c22
            have c22b1 : (t213 != 0) = false := bne_eq_false_iff_eq.mpr c22
            clear c22
            replace H := Option.bind_eq_some_iff.mp H
            obtain ⟨t214, A230, H⟩ := H
            replace H : (if t214 = 0 then (if (t210.length : Int) = t207 then (if (l0.length : Int) < t207 then (some false) else (if 0 ≤ t207 then (if t207 ≤ (l0.length : Int) then (if (strOfNums t210).toList = (strOfNums (l0.take (t207 : Int).toNat)).toList then (pendulumlaw09_DecodeBack.j0 k a2 a1_0 a1_1 a1_2 a1_3 a1_4 a1_5) else (some false)) else (none)) else (none))) else (some false)) else (some false)) = some r := H
            have A23 := Aside0.mk A230
            clear A230
            by_cases c24 : t214 = 0
            · rw [if_pos c24] at H
              have c24b0 : (t214 == 0) = true := beq_iff_eq.mpr c24
              have c24b1 : (t214 != 0) = false := bne_eq_false_iff_eq.mpr c24
              clear c24
              by_cases c25 : (t210.length : Int) = t207
              · rw [if_pos c25] at H
                have c25b0 : ((t210.length : Int) == t207) = true := beq_iff_eq.mpr c25
                have c25b1 : ((t210.length : Int) != t207) = false := bne_eq_false_iff_eq.mpr c25
                clear c25
                by_cases c26 : (l0.length : Int) < t207
                · rw [if_pos c26] at H
                  have c26b0 : decide ((l0.length : Int) < t207) = true := decide_eq_true c26
                  clear c26
                  exact absurd ((Option.some.inj H).trans HRT.out) (by decide)
                · rw [if_neg c26] at H
                  have c26b0 : decide ((l0.length : Int) < t207) = false := decide_eq_false c26
                  clear c26
                  by_cases c33 : 0 ≤ t207
                  · rw [if_pos c33] at H
                    have c33b0 := eq_true c33
                    have c33b1 : decide (0 ≤ t207) = true := decide_eq_true c33
                    clear c33
                    by_cases c34 : t207 ≤ (l0.length : Int)
                    · rw [if_pos c34] at H
                      have c34b0 := eq_true c34
                      have c34b1 : decide (t207 ≤ (l0.length : Int)) = true := decide_eq_true c34
                      clear c34
                      by_cases c35 : (strOfNums t210).toList = (strOfNums (l0.take (t207 : Int).toNat)).toList
                      · rw [if_pos c35] at H
                        have c35b0 : ((strOfNums t210).toList == (strOfNums (l0.take (t207 : Int).toNat)).toList) = true := beq_iff_eq.mpr c35
                        have c35b1 : ((strOfNums t210).toList != (strOfNums (l0.take (t207 : Int).toNat)).toList) = false := bne_eq_false_iff_eq.mpr c35
                        clear c35
                        have H' := Aside0.mk H
                        clear H
                        have hnb36 := NB209_197.out
                        have hnc36 := NB197_209.out
                        have hcz37_0 : w17.cell? ⟨gb209, 0, none⟩ = some (.int .i64 0) := (blk_cell BK209.out 0).trans rfl
                        have hcz37_1 : w17.cell? ⟨gb209, 1, none⟩ = some (.int .i64 0) := (blk_cell BK209.out 1).trans rfl
                        have hcz37_2 : w17.cell? ⟨gb209, 2, none⟩ = some (.int .i64 0) := (blk_cell BK209.out 2).trans rfl
                        have hcz37_3 : w17.cell? ⟨gb209, 3, none⟩ = some (.int .i64 0) := (blk_cell BK209.out 3).trans rfl
                        have hcz37_4 : w17.cell? ⟨gb209, 4, none⟩ = some (.int .i64 0) := (blk_cell BK209.out 4).trans rfl
                        have hcz37_5 : w17.cell? ⟨gb209, 5, none⟩ = some (.int .i64 0) := (blk_cell BK209.out 5).trans rfl
                        have hfz37_0 := blk_frozen BK209.out 0
                        have hfz37_1 := blk_frozen BK209.out 1
                        have hfz37_2 := blk_frozen BK209.out 2
                        have hfz37_3 := blk_frozen BK209.out 3
                        have hfz37_4 := blk_frozen BK209.out 4
                        have hfz37_5 := blk_frozen BK209.out 5
                        try go_wp2_with (first | ((with_reducible refine gate_callee (f := 29) rfl ?_); refine goesL_ (some 28) rfl rfl Try.func29 (by kernel_rfl) rfl #[.agg #[.int .i64 t202, .int .i64 t203, .int .i64 t204, .int .i64 t205, .int .i64 t206, .int .i64 t207]] rfl (by (try simp only [List.map_toArray, List.map_cons, List.map_nil]); first | done | rfl | (simp only [List.length_drop, List.length_take]; rfl)) ?_; (with_reducible refine (decode_Bytes.calls k t202 t203 t204 t205 t206 t207 t210 t213 _ A21.out).mono ?_); rintro e w38 ⟨v211, rfl, ho0, hb⟩; refine ⟨_, rfl, ?_⟩; have n0_ := Aside0.mk (Kd.R_elder' (by (with_reducible repeat (first | apply Kd.R_alloc | apply Kd.R_drewN | apply Kd.R_drew)); exact (Kd.R_mono (Kd.R_far (p := ⟨gb209, 5, none⟩) (Kd.R_far (p := ⟨gb209, 4, none⟩) (Kd.R_far (p := ⟨gb209, 3, none⟩) (Kd.R_far (p := ⟨gb209, 2, none⟩) (Kd.R_far (p := ⟨gb209, 1, none⟩) (Kd.R_far (p := ⟨gb209, 0, none⟩) (Kd.R_types HO201.out BK209.out (by decide)) (fun _ hk => hk.2) (.int .i64 t202)) (fun _ hk => hk.2) (.int .i64 t203)) (fun _ hk => hk.2) (.int .i64 t204)) (fun _ hk => hk.2) (.int .i64 t205)) (fun _ hk => hk.2) (.int .i64 t206)) (fun _ hk => hk.2) (.int .i64 t207)) (fun _ h_ => h_.1))) (Kd.R_base ho0) hb); have n1_ := Aside0.mk (Kd.R_lower (Kd.R_new' ho0 (Kd.R_lt (by (with_reducible repeat (first | apply Kd.R_alloc | apply Kd.R_drewN | apply Kd.R_drew)); exact (Kd.R_mono (Kd.R_far (p := ⟨gb209, 5, none⟩) (Kd.R_far (p := ⟨gb209, 4, none⟩) (Kd.R_far (p := ⟨gb209, 3, none⟩) (Kd.R_far (p := ⟨gb209, 2, none⟩) (Kd.R_far (p := ⟨gb209, 1, none⟩) (Kd.R_far (p := ⟨gb209, 0, none⟩) (Kd.R_types HO201.out BK209.out (by decide)) (fun _ hk => hk.2) (.int .i64 t202)) (fun _ hk => hk.2) (.int .i64 t203)) (fun _ hk => hk.2) (.int .i64 t204)) (fun _ hk => hk.2) (.int .i64 t205)) (fun _ hk => hk.2) (.int .i64 t206)) (fun _ hk => hk.2) (.int .i64 t207)) (fun _ h_ => h_.1))))) (below_size (by repeat (first | (with_reducible first | exact HB.out | apply below_alloc | apply pw_below_drewN | apply below_drew1 | refine below_set ?_ GE197.out | refine below_set ?_ GE209.out) | exact HB.out)))); have n2_ := Aside0.mk (blk_below (g := gb197) (o := .cells #[.int .i64 a1_0, .int .i64 a1_1, .int .i64 a1_2, .int .i64 a1_3, .int .i64 a1_4, .int .i64 a1_5] 46 (0, 0)) (by (with_reducible repeat (first | refine blk_drewN ?_ _ | refine blk_drew ?_ | refine blk_alloc ?_ _)); refine blk_far ?_ NB197_209.out _; (with_reducible repeat (first | refine blk_drewN ?_ _ | refine blk_drew ?_ | refine blk_alloc ?_ _)); refine blk_far ?_ NB197_209.out _; (with_reducible repeat (first | refine blk_drewN ?_ _ | refine blk_drew ?_ | refine blk_alloc ?_ _)); refine blk_far ?_ NB197_209.out _; (with_reducible repeat (first | refine blk_drewN ?_ _ | refine blk_drew ?_ | refine blk_alloc ?_ _)); refine blk_far ?_ NB197_209.out _; (with_reducible repeat (first | refine blk_drewN ?_ _ | refine blk_drew ?_ | refine blk_alloc ?_ _)); refine blk_far ?_ NB197_209.out _; (with_reducible repeat (first | refine blk_drewN ?_ _ | refine blk_drew ?_ | refine blk_alloc ?_ _)); refine blk_far ?_ NB197_209.out _; (with_reducible repeat (first | refine blk_drewN ?_ _ | refine blk_drew ?_ | refine blk_alloc ?_ _)); exact BK197.out) hb); have n3_ := Aside0.mk (blk_below (g := gb209) (o := .cells #[.int .i64 t202, .int .i64 t203, .int .i64 t204, .int .i64 t205, .int .i64 t206, .int .i64 t207] 46 (0, 0)) (by (with_reducible repeat (first | refine blk_drewN ?_ _ | refine blk_drew ?_ | refine blk_alloc ?_ _)); refine blk_put (cs := #[.int .i64 t202, .int .i64 t203, .int .i64 t204, .int .i64 t205, .int .i64 t206, .int .i64 0]) ?_ 5 _ rfl; (with_reducible repeat (first | refine blk_drewN ?_ _ | refine blk_drew ?_ | refine blk_alloc ?_ _)); refine blk_put (cs := #[.int .i64 t202, .int .i64 t203, .int .i64 t204, .int .i64 t205, .int .i64 0, .int .i64 0]) ?_ 4 _ rfl; (with_reducible repeat (first | refine blk_drewN ?_ _ | refine blk_drew ?_ | refine blk_alloc ?_ _)); refine blk_put (cs := #[.int .i64 t202, .int .i64 t203, .int .i64 t204, .int .i64 0, .int .i64 0, .int .i64 0]) ?_ 3 _ rfl; (with_reducible repeat (first | refine blk_drewN ?_ _ | refine blk_drew ?_ | refine blk_alloc ?_ _)); refine blk_put (cs := #[.int .i64 t202, .int .i64 t203, .int .i64 0, .int .i64 0, .int .i64 0, .int .i64 0]) ?_ 2 _ rfl; (with_reducible repeat (first | refine blk_drewN ?_ _ | refine blk_drew ?_ | refine blk_alloc ?_ _)); refine blk_put (cs := #[.int .i64 t202, .int .i64 0, .int .i64 0, .int .i64 0, .int .i64 0, .int .i64 0]) ?_ 1 _ rfl; (with_reducible repeat (first | refine blk_drewN ?_ _ | refine blk_drew ?_ | refine blk_alloc ?_ _)); refine blk_put (cs := #[.int .i64 0, .int .i64 0, .int .i64 0, .int .i64 0, .int .i64 0, .int .i64 0]) ?_ 0 _ rfl; (with_reducible repeat (first | refine blk_drewN ?_ _ | refine blk_drew ?_ | refine blk_alloc ?_ _)); exact BK209.out) hb); have n4_ := Aside0.mk (below_step (by repeat (first | (with_reducible first | exact HB.out | apply below_alloc | apply pw_below_drewN | apply below_drew1 | refine below_set ?_ GE197.out | refine below_set ?_ GE209.out) | exact HB.out)) hb); clear HO201; clear BK197; clear BK209; clear HB; have HO201 := n0_; have HO212 := n1_; have BK197 := n2_; have BK209 := n3_; have HB := n4_; clear n0_ n1_ n2_ n3_ n4_; (try clear hb); (try clear hb2); (try clear hk); (try clear hi); (try clear ho0)))
                        have n0_ := Aside0.mk (Kd.R_drew HO201.out)
                        have n1_ := Aside0.mk (Kd.R_drew HO212.out)
                        have n2_ := Aside0.mk (blk_drew BK197.out)
                        have n3_ := Aside0.mk (blk_drew BK209.out)
                        have n4_ := Aside0.mk (below_drew1 HB.out)
                        clear HO201
                        clear HO212
                        clear BK197
                        clear BK209
                        clear HB
                        have HO201 := n0_
                        have HO212 := n1_
                        have BK197 := n2_
                        have BK209 := n3_
                        have HB := n4_
                        clear n0_ n1_ n2_ n3_ n4_
                        obtain ⟨iip, hip, _, hszp, _⟩ := info_parts info5
                        obtain ⟨hcutp, hAp, hCp⟩ := print_take_of (P := Try.prog) (Value.int .u8) 0 44 5 .i64 Try.underlying44 hip hszp A0 c0 l0 t207 (of_decide_eq_true (by first | (with_reducible assumption) | assumption)) (of_decide_eq_true (by first | (with_reducible assumption) | assumption)) HC0.out
                        have HRp := Aside0.mk (Kd.C_of_reads (h1 := fun _ => rfl) (hAp _ (Kd.reads_of_C HR0.out)))
                        have hlnp : (l0.take (t207 : Int).toNat).length = (t207 : Int).toNat := by rw [List.length_take]; exact Nat.min_eq_left (by have q0 : (0 : Int) ≤ t207 := of_decide_eq_true (by assumption); have q1 : t207 ≤ (l0.length : Int) := of_decide_eq_true (by assumption); omega)
                        have hFp : ∀ w', Below w.heap.size w w' → (convert 44 9 (.slice A0 (t207 : Int).toNat c0)).run Try.prog w' = .ok (.string (strOfNums (l0.take (t207 : Int).toNat))) w' := fun w' hb => by
                          have := Kd.C_string (P := Try.prog) (A := A0) (c := c0) Try.underlying44 Try.underlying5 Try.underlying9 (Kd.C_below HRp.out hb)
                          rwa [hlnp] at this
                        replace hFp := Aside0.mk hFp
                        clear hAp hCp hip hszp hcutp hlnp
                        refine start_ (n := 31) (S := fun w' => w'.cell? ⟨gb209, 0, none⟩ = some (.int .i64 t202) ∧ w'.cell? ⟨gb209, 1, none⟩ = some (.int .i64 t203) ∧ w'.cell? ⟨gb209, 2, none⟩ = some (.int .i64 t204) ∧ w'.cell? ⟨gb209, 3, none⟩ = some (.int .i64 t205) ∧ w'.cell? ⟨gb209, 4, none⟩ = some (.int .i64 t206) ∧ w'.cell? ⟨gb209, 5, none⟩ = some (.int .i64 t207) ∧ (convert 44 9 v211).run Try.prog w' = .ok (.string (strOfNums t210)) w' ∧ (convert 44 9 (.slice A0 (t207 : Int).toNat c0)).run Try.prog w' = .ok (.string (strOfNums (l0.take (t207 : Int).toNat))) w') (ds := []) #[false, false, false, false, false, false, false, false, false, false, false, false, false, false, false, false, false, false, false, false, false, false, false, false, false, false, false, false, false, false, false] (by kernel_rfl) rfl rfl ⟨(blk_cell BK209.out 0).trans rfl, (blk_cell BK209.out 1).trans rfl, (blk_cell BK209.out 2).trans rfl, (blk_cell BK209.out 3).trans rfl, (blk_cell BK209.out 4).trans rfl, (blk_cell BK209.out 5).trans rfl, own_string (P := Try.prog) Try.underlying44 Try.underlying5 Try.underlying9 (Kd.own_of_R HO212.out), hFp.out _ HB.out⟩ (fun hHeld => ?_); refine with_tabW pendulumlaw09_DecodeBack.tab8 pendulumlaw09_DecodeBack.bits8 (fun HT_ HW_ => ?_)
                        generalize w38.drew = w39 at HO201 HO212 BK197 BK209 HB hHeld ⊢
                        refine pure_ (i := 0) (N := some 31) (v := ?_) (a' := ?_) #[true, false, false, false, false, false, false, false, false, false, false, false, false, false, false, false, false, false, false, false, false, false, false, false, false, false, false, false, false, false, false] rfl rfl (any_of HT_.out (by kernel_rfl)) (fun _ _ _ h => h) (Or.inl ⟨by rfl, ?_⟩) ?_ ?_
                        rotate_left
                        · intro w'
                          go_simp
                          with_reducible rfl
                        rotate_left
                        · simp only [Act.put, List.setIfInBounds_toArray, List.set_cons_zero, List.set_cons_succ, i64_w, i32_w]
                          rfl
                        refine pure_ (i := 1) (N := some 32) (v := ?_) (a' := ?_) #[true, true, false, false, false, false, false, false, false, false, false, false, false, false, false, false, false, false, false, false, false, false, false, false, false, false, false, false, false, false, false] rfl rfl (any_of HT_.out (by kernel_rfl)) (fun _ _ _ h => h) (Or.inl ⟨by rfl, ?_⟩) ?_ ?_
                        rotate_left
                        · intro w'
                          go_simp
                          with_reducible rfl
                        rotate_left
                        · simp only [Act.put, List.setIfInBounds_toArray, List.set_cons_zero, List.set_cons_succ, i64_w, i32_w]
                          rfl
                        refine pure_ (i := 2) (N := some 33) (v := ?_) (a' := ?_) #[true, true, true, false, false, false, false, false, false, false, false, false, false, false, false, false, false, false, false, false, false, false, false, false, false, false, false, false, false, false, false] rfl rfl (any_of HT_.out (by kernel_rfl)) (fun _ _ _ h => h) (Or.inl ⟨by rfl, ?_⟩) ?_ ?_
                        rotate_left
                        · intro w'
                          go_simp
                          with_reducible rfl
                        rotate_left
                        · simp only [Act.put, List.setIfInBounds_toArray, List.set_cons_zero, List.set_cons_succ, i64_w, i32_w]
                          rfl
                        refine take_ (i := 3) (N := some 34) (v := ?_) (a' := ?_) #[true, true, true, true, false, false, false, false, false, false, false, false, false, false, false, false, false, false, false, false, false, false, false, false, false, false, false, false, false, false, false] rfl rfl (take_ofW HT_.out HW_.out (by kernel_rfl)) (fun _ _ _ h => h) (Or.inl ⟨by rfl, ?_⟩) hHeld ?_ ?_
                        rotate_left
                        · rintro w' ⟨s0, s1, s2, s3, s4, s5, s6, s7⟩
                          go_simp
                          with_reducible rfl
                        rotate_left
                        · simp only [Act.put, List.setIfInBounds_toArray, List.set_cons_zero, List.set_cons_succ, i64_w, i32_w]
                          rfl
                        refine one_ (i := 4) (N := some 35) #[true, true, true, true, true, false, false, false, false, false, false, false, false, false, false, false, false, false, false, false, false, false, false, false, false, false, false, false, false, false, false] rfl rfl (one_of HT_.out (by kernel_rfl)) (by decide) (fun K hK => ?_)
                        refine goes_ Try.func30 (by kernel_rfl) rfl #[.agg #[.int .i64 t202, .int .i64 t203, .int .i64 t204, .int .i64 t205, .int .i64 t206, .int .i64 t207]] (by rfl) rfl rfl (by (try simp only [List.map_toArray, List.map_cons, List.map_nil]); first | done | rfl | (simp only [List.length_drop, List.length_take]; rfl)) ?_
                        with_reducible refine (decode_Check.calls k t202 t203 t204 t205 t206 t207 t214 _ A23.out).mono ?_
                        rintro e w40 ⟨rfl, hb⟩
                        refine ⟨_, rfl, ?_⟩
                        have n0_ := Aside0.mk (Kd.R_below (by (with_reducible repeat (first | apply Kd.R_alloc | apply Kd.R_drewN | apply Kd.R_drew)); exact HO201.out) hb)
                        have n1_ := Aside0.mk (Kd.R_below (by (with_reducible repeat (first | apply Kd.R_alloc | apply Kd.R_drewN | apply Kd.R_drew)); exact HO212.out) hb)
                        have n2_ := Aside0.mk (blk_below (g := gb197) (o := .cells #[.int .i64 a1_0, .int .i64 a1_1, .int .i64 a1_2, .int .i64 a1_3, .int .i64 a1_4, .int .i64 a1_5] 46 (0, 0)) (by (with_reducible repeat (first | refine blk_drewN ?_ _ | refine blk_drew ?_ | refine blk_alloc ?_ _)); exact BK197.out) hb)
                        have n3_ := Aside0.mk (blk_below (g := gb209) (o := .cells #[.int .i64 t202, .int .i64 t203, .int .i64 t204, .int .i64 t205, .int .i64 t206, .int .i64 t207] 46 (0, 0)) (by (with_reducible repeat (first | refine blk_drewN ?_ _ | refine blk_drew ?_ | refine blk_alloc ?_ _)); exact BK209.out) hb)
                        have n4_ := Aside0.mk (below_step (by repeat (first | (with_reducible first | exact HB.out | apply below_alloc | apply pw_below_drewN | apply below_drew1 | refine below_set ?_ GE197.out | refine below_set ?_ GE209.out) | exact HB.out)) hb)
                        clear HO201
                        clear HO212
                        clear BK197
                        clear BK209
                        clear HB
                        have HO201 := n0_
                        have HO212 := n1_
                        have BK197 := n2_
                        have BK209 := n3_
                        have HB := n4_
                        clear n0_ n1_ n2_ n3_ n4_
                        (try clear hb)
                        (try clear hb2)
                        (try clear hk)
                        (try clear hi)
                        obtain ⟨Ao41, co41, eo41⟩ := Kd.R_slice HO212.out
                        (first | subst eo41 | (injection eo41 with f1_ f2_ f3_; have f4_ := f1_.symm; have f5_ := f3_.symm; clear f1_ f2_ f3_; subst f4_; subst f5_))
                        obtain ⟨i042, hi042, _, hsz42, _⟩ := info_parts info5
                        obtain ⟨hcut42, hA42, hC42⟩ := print_take_of (P := Try.prog) (Value.int .u8) 0 44 5 .i64 Try.underlying44 hi042 hsz42 A0 c0 l0 t207 (of_decide_eq_true (by first | (with_reducible assumption) | assumption)) (of_decide_eq_true (by first | (with_reducible assumption) | assumption)) HC0.out
                        have HR215 := Aside0.mk (Kd.C_of_reads (h1 := fun _ => rfl) (hA42 _ (Kd.reads_of_C HR0.out)))
                        have HC215 := Aside0.mk hC42
                        clear hA42 hC42 hi042 hsz42
                        have hcv43 := own_string (P := Try.prog) Try.underlying44 Try.underlying5 Try.underlying9 (Kd.own_of_R HO212.out)
                        have hcv44 := Kd.C_string (P := Try.prog) (A := A0) (c := c0) Try.underlying44 Try.underlying5 Try.underlying9 (Kd.C_below HR215.out HB.out)
                        refine hK.out _ _ ⟨(blk_cell BK209.out 0).trans rfl, (blk_cell BK209.out 1).trans rfl, (blk_cell BK209.out 2).trans rfl, (blk_cell BK209.out 3).trans rfl, (blk_cell BK209.out 4).trans rfl, (blk_cell BK209.out 5).trans rfl, hcv43, hFp.out _ HB.out⟩ (fun hHeld => ?_)
                        clear hK K
                        refine norm_ (a' := ?_) ?_ ?_
                        rotate_left
                        · show Act.put _ (some 35) _ = _
                          simp only [Act.put, List.setIfInBounds_toArray, List.set_cons_zero, List.set_cons_succ, i64_w, i32_w]
                          rfl
                        refine pure_ (i := 5) (N := some 36) (v := ?_) (a' := ?_) #[true, true, true, true, true, true, false, false, false, false, false, false, false, false, false, false, false, false, false, false, false, false, false, false, false, false, false, false, false, false, false] rfl rfl (any_of HT_.out (by kernel_rfl)) (fun _ _ _ h => h) (Or.inl ⟨by rfl, ?_⟩) ?_ ?_
                        rotate_left
                        · intro w'
                          go_simp
                          with_reducible rfl
                        rotate_left
                        · simp only [Act.put, List.setIfInBounds_toArray, List.set_cons_zero, List.set_cons_succ, i64_w, i32_w]
                          rfl
                        refine pure_ (i := 6) (N := some 37) (v := ?_) (a' := ?_) #[true, true, true, true, true, true, true, false, false, false, false, false, false, false, false, false, false, false, false, false, false, false, false, false, false, false, false, false, false, false, false] rfl rfl (any_of HT_.out (by kernel_rfl)) (fun _ _ _ h => h) (Or.inl ⟨by rfl, ?_⟩) ?_ ?_
                        rotate_left
                        · intro w'
                          go_simp
                          with_reducible rfl
                        rotate_left
                        · simp only [Act.put, List.setIfInBounds_toArray, List.set_cons_zero, List.set_cons_succ, i64_w, i32_w]
                          rfl
                        refine pure_ (i := 7) (N := some 38) (v := ?_) (a' := ?_) #[true, true, true, true, true, true, true, true, false, false, false, false, false, false, false, false, false, false, false, false, false, false, false, false, false, false, false, false, false, false, false] rfl rfl (any_of HT_.out (by kernel_rfl)) (fun _ _ _ h => h) (Or.inl ⟨by rfl, ?_⟩) ?_ ?_
                        rotate_left
                        · intro w'
                          go_simp
                          with_reducible rfl
                        rotate_left
                        · simp only [Act.put, List.setIfInBounds_toArray, List.set_cons_zero, List.set_cons_succ, i64_w, i32_w]
                          rfl
                        refine pure_ (i := 8) (N := some 39) (v := ?_) (a' := ?_) #[true, true, true, true, true, true, true, true, true, false, false, false, false, false, false, false, false, false, false, false, false, false, false, false, false, false, false, false, false, false, false] rfl rfl (any_of HT_.out (by kernel_rfl)) (fun _ _ _ h => h) (Or.inl ⟨by rfl, ?_⟩) ?_ ?_
                        rotate_left
                        · intro w'
                          go_simp
                          with_reducible rfl
                        rotate_left
                        · simp only [Act.put, List.setIfInBounds_toArray, List.set_cons_zero, List.set_cons_succ, i64_w, i32_w]
                          rfl
                        refine pure_ (i := 9) (N := some 40) (v := ?_) (a' := ?_) #[true, true, true, true, true, true, true, true, true, true, false, false, false, false, false, false, false, false, false, false, false, false, false, false, false, false, false, false, false, false, false] rfl rfl (any_of HT_.out (by kernel_rfl)) (fun _ _ _ h => h) (Or.inl ⟨by rfl, ?_⟩) ?_ ?_
                        rotate_left
                        · intro w'
                          go_simp
                          with_reducible rfl
                        rotate_left
                        · simp only [Act.put, List.setIfInBounds_toArray, List.set_cons_zero, List.set_cons_succ, i64_w, i32_w]
                          rfl
                        refine pure_ (i := 10) (N := some 41) (v := ?_) (a' := ?_) #[true, true, true, true, true, true, true, true, true, true, true, false, false, false, false, false, false, false, false, false, false, false, false, false, false, false, false, false, false, false, false] rfl rfl (any_of HT_.out (by kernel_rfl)) (fun _ _ _ h => h) (Or.inl ⟨by rfl, ?_⟩) ?_ ?_
                        rotate_left
                        · intro w'
                          go_simp
                          with_reducible rfl
                        rotate_left
                        · simp only [Act.put, List.setIfInBounds_toArray, List.set_cons_zero, List.set_cons_succ, i64_w, i32_w]
                          rfl
                        refine take_ (i := 11) (N := some 42) (v := ?_) (a' := ?_) #[true, true, true, true, true, true, true, true, true, true, true, true, false, false, false, false, false, false, false, false, false, false, false, false, false, false, false, false, false, false, false] rfl rfl (take_ofW HT_.out HW_.out (by kernel_rfl)) (fun _ _ _ h => h) (Or.inl ⟨by rfl, ?_⟩) hHeld ?_ ?_
                        rotate_left
                        · rintro w' ⟨s0, s1, s2, s3, s4, s5, s6, s7⟩
                          go_simp
                          with_reducible rfl
                        rotate_left
                        · simp only [Act.put, List.setIfInBounds_toArray, List.set_cons_zero, List.set_cons_succ, i64_w, i32_w]
                          rfl
                        refine pure_ (i := 12) (N := some 43) (v := ?_) (a' := ?_) #[true, true, true, true, true, true, true, true, true, true, true, true, true, false, false, false, false, false, false, false, false, false, false, false, false, false, false, false, false, false, false] rfl rfl (any_of HT_.out (by kernel_rfl)) (fun _ _ _ h => h) (Or.inl ⟨by rfl, ?_⟩) ?_ ?_
                        rotate_left
                        · intro w'
                          go_simp
                          with_reducible rfl
                        rotate_left
                        · simp only [Act.put, List.setIfInBounds_toArray, List.set_cons_zero, List.set_cons_succ, i64_w, i32_w]
                          rfl
                        refine pure_ (i := 13) (N := some 44) (v := ?_) (a' := ?_) #[true, true, true, true, true, true, true, true, true, true, true, true, true, true, false, false, false, false, false, false, false, false, false, false, false, false, false, false, false, false, false] rfl rfl (any_of HT_.out (by kernel_rfl)) (fun _ _ _ h => h) (Or.inl ⟨by rfl, ?_⟩) ?_ ?_
                        rotate_left
                        · intro w'
                          go_simp
                          with_reducible rfl
                        rotate_left
                        · simp only [Act.put, List.setIfInBounds_toArray, List.set_cons_zero, List.set_cons_succ, i64_w, i32_w]
                          rfl
                        refine pure_ (i := 14) (N := some 45) (v := ?_) (a' := ?_) #[true, true, true, true, true, true, true, true, true, true, true, true, true, true, true, false, false, false, false, false, false, false, false, false, false, false, false, false, false, false, false] rfl rfl (any_of HT_.out (by kernel_rfl)) (fun _ _ _ h => h) (Or.inl ⟨by rfl, ?_⟩) ?_ ?_
                        rotate_left
                        · intro w'
                          go_simp
                          with_reducible rfl
                        rotate_left
                        · simp only [Act.put, List.setIfInBounds_toArray, List.set_cons_zero, List.set_cons_succ, i64_w, i32_w]
                          rfl
                        refine pure_ (i := 15) (N := some 46) (v := ?_) (a' := ?_) #[true, true, true, true, true, true, true, true, true, true, true, true, true, true, true, true, false, false, false, false, false, false, false, false, false, false, false, false, false, false, false] rfl rfl (any_of HT_.out (by kernel_rfl)) (fun _ _ _ h => h) (Or.inl ⟨by rfl, ?_⟩) ?_ ?_
                        rotate_left
                        · intro w'
                          go_simp
                          with_reducible rfl
                        rotate_left
                        · simp only [Act.put, List.setIfInBounds_toArray, List.set_cons_zero, List.set_cons_succ, i64_w, i32_w]
                          rfl
                        refine pure_ (i := 16) (N := some 47) (v := ?_) (a' := ?_) #[true, true, true, true, true, true, true, true, true, true, true, true, true, true, true, true, true, false, false, false, false, false, false, false, false, false, false, false, false, false, false] rfl rfl (any_of HT_.out (by kernel_rfl)) (fun _ _ _ h => h) (Or.inl ⟨by rfl, ?_⟩) ?_ ?_
                        rotate_left
                        · intro w'
                          go_simp
                          with_reducible rfl
                        rotate_left
                        · simp only [Act.put, List.setIfInBounds_toArray, List.set_cons_zero, List.set_cons_succ, i64_w, i32_w]
                          rfl
                        refine pure_ (i := 17) (N := some 48) (v := ?_) (a' := ?_) #[true, true, true, true, true, true, true, true, true, true, true, true, true, true, true, true, true, true, false, false, false, false, false, false, false, false, false, false, false, false, false] rfl rfl (any_of HT_.out (by kernel_rfl)) (fun _ _ _ h => h) (Or.inl ⟨by rfl, ?_⟩) ?_ ?_
                        rotate_left
                        · intro w'
                          go_simp
                          with_reducible rfl
                        rotate_left
                        · simp only [Act.put, List.setIfInBounds_toArray, List.set_cons_zero, List.set_cons_succ, i64_w, i32_w]
                          rfl
                        refine take_ (i := 18) (N := some 49) (v := ?_) (a' := ?_) #[true, true, true, true, true, true, true, true, true, true, true, true, true, true, true, true, true, true, true, false, false, false, false, false, false, false, false, false, false, false, false] rfl rfl (take_ofW HT_.out HW_.out (by kernel_rfl)) (fun _ _ _ h => h) (Or.inl ⟨by rfl, ?_⟩) hHeld ?_ ?_
                        rotate_left
                        · rintro w' ⟨s0, s1, s2, s3, s4, s5, s6, s7⟩
                          go_simp
                          with_reducible rfl
                        rotate_left
                        · simp only [Act.put, List.setIfInBounds_toArray, List.set_cons_zero, List.set_cons_succ, i64_w, i32_w]
                          rfl
                        refine pure_ (i := 19) (N := some 50) (v := ?_) (a' := ?_) #[true, true, true, true, true, true, true, true, true, true, true, true, true, true, true, true, true, true, true, true, false, false, false, false, false, false, false, false, false, false, false] rfl rfl (any_of HT_.out (by kernel_rfl)) (fun _ _ _ h => h) (Or.inl ⟨by rfl, ?_⟩) ?_ ?_
                        rotate_left
                        · intro w'
                          go_simp
                          with_reducible rfl
                        rotate_left
                        · simp only [Act.put, List.setIfInBounds_toArray, List.set_cons_zero, List.set_cons_succ, i64_w, i32_w]
                          rfl
                        refine pure_ (i := 20) (N := some 51) (v := ?_) (a' := ?_) #[true, true, true, true, true, true, true, true, true, true, true, true, true, true, true, true, true, true, true, true, true, false, false, false, false, false, false, false, false, false, false] rfl rfl (any_of HT_.out (by kernel_rfl)) (fun _ _ _ h => h) (Or.inl ⟨by rfl, ?_⟩) ?_ ?_
                        rotate_left
                        · intro w'
                          go_simp
                          with_reducible rfl
                        rotate_left
                        · simp only [Act.put, List.setIfInBounds_toArray, List.set_cons_zero, List.set_cons_succ, i64_w, i32_w]
                          rfl
                        refine pure_ (i := 21) (N := some 52) (v := ?_) (a' := ?_) #[true, true, true, true, true, true, true, true, true, true, true, true, true, true, true, true, true, true, true, true, true, true, false, false, false, false, false, false, false, false, false] rfl rfl (any_of HT_.out (by kernel_rfl)) (fun _ _ _ h => h) (Or.inl ⟨by rfl, ?_⟩) ?_ ?_
                        rotate_left
                        · intro w'
                          go_simp
                          with_reducible rfl
                        rotate_left
                        · simp only [Act.put, List.setIfInBounds_toArray, List.set_cons_zero, List.set_cons_succ, i64_w, i32_w]
                          rfl
                        refine pure_ (i := 22) (N := some 53) (v := ?_) (a' := ?_) #[true, true, true, true, true, true, true, true, true, true, true, true, true, true, true, true, true, true, true, true, true, true, true, false, false, false, false, false, false, false, false] rfl rfl (any_of HT_.out (by kernel_rfl)) (fun _ _ _ h => h) (Or.inl ⟨by rfl, ?_⟩) ?_ ?_
                        rotate_left
                        · intro w'
                          go_simp
                          with_reducible rfl
                        rotate_left
                        · simp only [Act.put, List.setIfInBounds_toArray, List.set_cons_zero, List.set_cons_succ, i64_w, i32_w]
                          rfl
                        refine take_ (i := 23) (N := some 54) (v := ?_) (a' := ?_) #[true, true, true, true, true, true, true, true, true, true, true, true, true, true, true, true, true, true, true, true, true, true, true, true, false, false, false, false, false, false, false] rfl rfl (take_ofW HT_.out HW_.out (by kernel_rfl)) (fun _ _ _ h => h) (Or.inl ⟨by rfl, ?_⟩) hHeld ?_ ?_
                        rotate_left
                        · rintro w' ⟨s0, s1, s2, s3, s4, s5, s6, s7⟩
                          go_simp
                          with_reducible rfl
                        rotate_left
                        · simp only [Act.put, List.setIfInBounds_toArray, List.set_cons_zero, List.set_cons_succ, i64_w, i32_w]
                          rfl
                        refine pure_ (i := 24) (N := some 55) (v := ?_) (a' := ?_) #[true, true, true, true, true, true, true, true, true, true, true, true, true, true, true, true, true, true, true, true, true, true, true, true, true, false, false, false, false, false, false] rfl rfl (any_of HT_.out (by kernel_rfl)) (fun _ _ _ h => h) (Or.inl ⟨by rfl, ?_⟩) ?_ ?_
                        rotate_left
                        · intro w'
                          go_simp
                          with_reducible rfl
                        rotate_left
                        · simp only [Act.put, List.setIfInBounds_toArray, List.set_cons_zero, List.set_cons_succ, i64_w, i32_w]
                          rfl
                        refine pure_ (i := 25) (N := some 56) (v := ?_) (a' := ?_) #[true, true, true, true, true, true, true, true, true, true, true, true, true, true, true, true, true, true, true, true, true, true, true, true, true, true, false, false, false, false, false] rfl rfl (any_of HT_.out (by kernel_rfl)) (fun _ _ _ h => h) (Or.inl ⟨by rfl, ?_⟩) ?_ ?_
                        rotate_left
                        · intro w'
                          go_simp
                          with_reducible rfl
                        rotate_left
                        · simp only [Act.put, List.setIfInBounds_toArray, List.set_cons_zero, List.set_cons_succ, i64_w, i32_w]
                          rfl
                        refine take_ (i := 26) (N := some 57) (v := ?_) (a' := ?_) #[true, true, true, true, true, true, true, true, true, true, true, true, true, true, true, true, true, true, true, true, true, true, true, true, true, true, true, false, false, false, false] rfl rfl (take_ofW HT_.out HW_.out (by kernel_rfl)) (fun _ _ _ h => h) (Or.inl ⟨by rfl, ?_⟩) hHeld ?_ ?_
                        rotate_left
                        · rintro w' ⟨s0, s1, s2, s3, s4, s5, s6, s7⟩
                          go_simp
                          with_reducible rfl
                        rotate_left
                        · simp only [Act.put, List.setIfInBounds_toArray, List.set_cons_zero, List.set_cons_succ, i64_w, i32_w]
                          rfl
                        refine pure_ (i := 27) (N := some 58) (v := ?_) (a' := ?_) #[true, true, true, true, true, true, true, true, true, true, true, true, true, true, true, true, true, true, true, true, true, true, true, true, true, true, true, true, false, false, false] rfl rfl (any_of HT_.out (by kernel_rfl)) (fun _ _ _ h => h) (Or.inl ⟨by rfl, ?_⟩) ?_ ?_
                        rotate_left
                        · intro w'
                          go_simp
                          with_reducible rfl
                        rotate_left
                        · simp only [Act.put, List.setIfInBounds_toArray, List.set_cons_zero, List.set_cons_succ, i64_w, i32_w]
                          rfl
                        refine take_ (i := 28) (N := some 59) (v := ?_) (a' := ?_) #[true, true, true, true, true, true, true, true, true, true, true, true, true, true, true, true, true, true, true, true, true, true, true, true, true, true, true, true, true, false, false] rfl rfl (take_ofW HT_.out HW_.out (by kernel_rfl)) (fun _ _ _ h => h) (Or.inl ⟨by rfl, ?_⟩) hHeld ?_ ?_
                        rotate_left
                        · rintro w' ⟨s0, s1, s2, s3, s4, s5, s6, s7⟩
                          go_simp
                          with_reducible rfl
                        rotate_left
                        · simp only [Act.put, List.setIfInBounds_toArray, List.set_cons_zero, List.set_cons_succ, i64_w, i32_w]
                          rfl
                        refine pure_ (i := 29) (N := some 60) (v := ?_) (a' := ?_) #[true, true, true, true, true, true, true, true, true, true, true, true, true, true, true, true, true, true, true, true, true, true, true, true, true, true, true, true, true, true, false] rfl rfl (any_of HT_.out (by kernel_rfl)) (fun _ _ _ h => h) (Or.inl ⟨by rfl, ?_⟩) ?_ ?_
                        rotate_left
                        · intro w'
                          go_simp
                          with_reducible rfl
                        rotate_left
                        · simp only [Act.put, List.setIfInBounds_toArray, List.set_cons_zero, List.set_cons_succ, i64_w, i32_w]
                          rfl
                        refine pure_ (i := 30) (N := some 61) (v := ?_) (a' := ?_) #[true, true, true, true, true, true, true, true, true, true, true, true, true, true, true, true, true, true, true, true, true, true, true, true, true, true, true, true, true, true, true] rfl rfl (any_of HT_.out (by kernel_rfl)) (fun _ _ _ h => h) (Or.inl ⟨by rfl, ?_⟩) ?_ ?_
                        rotate_left
                        · intro w'
                          go_simp
                          with_reducible rfl
                        rotate_left
                        · simp only [Act.put, List.setIfInBounds_toArray, List.set_cons_zero, List.set_cons_succ, i64_w, i32_w]
                          rfl
                        refine done_ (done_of HT_.out (by kernel_rfl)) ?_
                        try go_wp2
                        go_meet
                        case rel => exact ⟨_, H', ⟨by first | omega | exact Nat.le_refl _⟩, ⟨by (with_reducible repeat (first | refine blk_drewN ?_ _ | refine blk_drew ?_ | refine blk_alloc ?_ _)); exact BK197.out⟩, ⟨by (with_reducible repeat (first | refine blk_drewN ?_ _ | refine blk_drew ?_ | refine blk_alloc ?_ _)); exact BK209.out⟩, ⟨by repeat (first | (with_reducible first | exact HB.out | apply below_alloc | apply pw_below_drewN | apply below_drew1 | refine below_set ?_ GE197.out | refine below_set ?_ GE209.out) | exact HB.out)⟩⟩
                      · rw [if_neg c35] at H
                        have c35b0 : ((strOfNums t210).toList == (strOfNums (l0.take (t207 : Int).toNat)).toList) = false := beq_eq_false_iff_ne.mpr c35
                        have c35b1 : ((strOfNums t210).toList != (strOfNums (l0.take (t207 : Int).toNat)).toList) = true := bne_iff_ne.mpr c35
                        exact absurd ((Option.some.inj H).trans HRT.out) (by decide)
                    · rw [if_neg c34] at H
                      exact absurd H (by simp)
                  · rw [if_neg c33] at H
                    exact absurd H (by simp)
              · rw [if_neg c25] at H
                have c25b0 : ((t210.length : Int) == t207) = false := beq_eq_false_iff_ne.mpr c25
                have c25b1 : ((t210.length : Int) != t207) = true := bne_iff_ne.mpr c25
                exact absurd ((Option.some.inj H).trans HRT.out) (by decide)
            · rw [if_neg c24] at H
              have c24b0 : (t214 == 0) = false := beq_eq_false_iff_ne.mpr c24
              have c24b1 : (t214 != 0) = true := bne_iff_ne.mpr c24
              exact absurd ((Option.some.inj H).trans HRT.out) (by decide)
          · rw [if_neg c22] at H
            have c22b0 : (t213 == 0) = false := beq_eq_false_iff_ne.mpr c22
            have c22b1 : (t213 != 0) = true := bne_iff_ne.mpr c22
            exact absurd ((Option.some.inj H).trans HRT.out) (by decide)
        · rw [if_neg c20] at H
          have c20b0 : (t208 == 0) = false := beq_eq_false_iff_ne.mpr c20
          have c20b1 : (t208 != 0) = true := bne_iff_ne.mpr c20
          (first | rw [c20b0] | (simp only [i64_w, i32_w]; rw [c20b0]) | skip)
          by_cases c71 : t208 = 5
          · rw [if_pos c71] at H
            have c71b0 : (t208 == 5) = true := beq_iff_eq.mpr c71
            have c71b1 : (t208 != 5) = false := bne_eq_false_iff_eq.mpr c71
            clear c71
            have H' := Aside0.mk H
            clear H
            go_wp2
            go_meet
            case rel => exact ⟨_, H', ⟨by first | omega | exact Nat.le_refl _⟩, ⟨by (with_reducible repeat (first | refine blk_drewN ?_ _ | refine blk_drew ?_ | refine blk_alloc ?_ _)); refine blk_far ?_ NB197_209.out _; (with_reducible repeat (first | refine blk_drewN ?_ _ | refine blk_drew ?_ | refine blk_alloc ?_ _)); refine blk_far ?_ NB197_209.out _; (with_reducible repeat (first | refine blk_drewN ?_ _ | refine blk_drew ?_ | refine blk_alloc ?_ _)); refine blk_far ?_ NB197_209.out _; (with_reducible repeat (first | refine blk_drewN ?_ _ | refine blk_drew ?_ | refine blk_alloc ?_ _)); refine blk_far ?_ NB197_209.out _; (with_reducible repeat (first | refine blk_drewN ?_ _ | refine blk_drew ?_ | refine blk_alloc ?_ _)); refine blk_far ?_ NB197_209.out _; (with_reducible repeat (first | refine blk_drewN ?_ _ | refine blk_drew ?_ | refine blk_alloc ?_ _)); refine blk_far ?_ NB197_209.out _; (with_reducible repeat (first | refine blk_drewN ?_ _ | refine blk_drew ?_ | refine blk_alloc ?_ _)); exact BK197.out⟩, ⟨by (with_reducible repeat (first | refine blk_drewN ?_ _ | refine blk_drew ?_ | refine blk_alloc ?_ _)); refine blk_put (cs := #[.int .i64 t202, .int .i64 t203, .int .i64 t204, .int .i64 t205, .int .i64 t206, .int .i64 0]) ?_ 5 _ rfl; (with_reducible repeat (first | refine blk_drewN ?_ _ | refine blk_drew ?_ | refine blk_alloc ?_ _)); refine blk_put (cs := #[.int .i64 t202, .int .i64 t203, .int .i64 t204, .int .i64 t205, .int .i64 0, .int .i64 0]) ?_ 4 _ rfl; (with_reducible repeat (first | refine blk_drewN ?_ _ | refine blk_drew ?_ | refine blk_alloc ?_ _)); refine blk_put (cs := #[.int .i64 t202, .int .i64 t203, .int .i64 t204, .int .i64 0, .int .i64 0, .int .i64 0]) ?_ 3 _ rfl; (with_reducible repeat (first | refine blk_drewN ?_ _ | refine blk_drew ?_ | refine blk_alloc ?_ _)); refine blk_put (cs := #[.int .i64 t202, .int .i64 t203, .int .i64 0, .int .i64 0, .int .i64 0, .int .i64 0]) ?_ 2 _ rfl; (with_reducible repeat (first | refine blk_drewN ?_ _ | refine blk_drew ?_ | refine blk_alloc ?_ _)); refine blk_put (cs := #[.int .i64 t202, .int .i64 0, .int .i64 0, .int .i64 0, .int .i64 0, .int .i64 0]) ?_ 1 _ rfl; (with_reducible repeat (first | refine blk_drewN ?_ _ | refine blk_drew ?_ | refine blk_alloc ?_ _)); refine blk_put (cs := #[.int .i64 0, .int .i64 0, .int .i64 0, .int .i64 0, .int .i64 0, .int .i64 0]) ?_ 0 _ rfl; (with_reducible repeat (first | refine blk_drewN ?_ _ | refine blk_drew ?_ | refine blk_alloc ?_ _)); exact BK209.out⟩, ⟨by repeat (first | (with_reducible first | exact HB.out | apply below_alloc | apply pw_below_drewN | apply below_drew1 | refine below_set ?_ GE197.out | refine below_set ?_ GE209.out) | exact HB.out)⟩⟩
          · rw [if_neg c71] at H
            have c71b0 : (t208 == 5) = false := beq_eq_false_iff_ne.mpr c71
            have c71b1 : (t208 != 5) = true := bne_iff_ne.mpr c71
            exact absurd ((Option.some.inj H).trans HRT.out) (by decide)
      case rest =>
        clear HC11
        try clear c2
        try clear p2
        try clear c3
        try clear c6
        try clear c7
        try clear c20
        try clear c20b0
        try clear c20b1
        try clear c22
        try clear c22b0
        try clear c22b1
        try clear c24
        try clear c24b0
        try clear c24b1
        try clear c29
        try clear c30
        try clear c62
        try clear c67
        try clear c71
        try clear c71b0
        try clear c71b1
        try clear hcz63_0
        try clear hcz63_1
        try clear hcz63_2
        try clear hcz63_3
        try clear hcz63_4
        try clear hcz63_5
        try clear hcz68_0
        try clear hcz68_1
        try clear hcz68_2
        try clear hcz68_3
        try clear hcz68_4
        try clear hcz68_5
        try clear hfz63_0
        try clear hfz63_1
        try clear hfz63_2
        try clear hfz63_3
        try clear hfz63_4
        try clear hfz63_5
        try clear hfz68_0
        try clear hfz68_1
        try clear hfz68_2
        try clear hfz68_3
        try clear hfz68_4
        try clear hfz68_5
        obtain ⟨kq, HA, HJ10, BK197, BK209, HB⟩ := hcut
        cases kq with
        | zero => exact absurd HA.out (by simp [pendulumlaw09_DecodeBack.j0])
        | succ kj10 =>
          have H := HA.out
          clear HA
          simp only [pendulumlaw09_DecodeBack.j0] at H
          replace H := Option.bind_eq_some_iff.mp H
          obtain ⟨⟨t216, t219⟩, A720, H⟩ := H
          replace H : (if t219 = 0 then (if a1_0 = 0 then (if a1_2 = 221 then ((some (([221, 237, 253] : List Int) : List Int)).bind fun y220 => (if 0 ≤ (Int.tmod a2 3) then (if (Int.tmod a2 3) < (y220.length : Int) then (if t216.length < 140737488355328 then ((decode_Of.f (t216 ++ [rd y220 (Int.tmod a2 3)])).bind fun bt227 => (if bt227.2.2.2.2.2.2 = 0 then (some (bt227.1 == a1_0 && (bt227.2.1 == a1_1 && (bt227.2.2.1 == a1_2 && (bt227.2.2.2.1 == a1_3 && (bt227.2.2.2.2.1 == a1_4 && (bt227.2.2.2.2.2.1 == a1_5))))))) else (some false))) else (none)) else (none)) else (none))) else (if a1_2 = 253 then ((some (([221, 237, 253] : List Int) : List Int)).bind fun y234 => (if 0 ≤ (Int.tmod a2 3) then (if (Int.tmod a2 3) < (y234.length : Int) then (if t216.length < 140737488355328 then ((decode_Of.f (t216 ++ [rd y234 (Int.tmod a2 3)])).bind fun bt241 => (if bt241.2.2.2.2.2.2 = 0 then (some (bt241.1 == a1_0 && (bt241.2.1 == a1_1 && (bt241.2.2.1 == a1_2 && (bt241.2.2.2.1 == a1_3 && (bt241.2.2.2.2.1 == a1_4 && (bt241.2.2.2.2.2.1 == a1_5))))))) else (some false))) else (none)) else (none)) else (none))) else (if t216.length < 140737488355328 then ((decode_Of.f (t216 ++ [a2])).bind fun bt251 => (if bt251.2.2.2.2.2.2 = 0 then (some (bt251.1 == a1_0 && (bt251.2.1 == a1_1 && (bt251.2.2.1 == a1_2 && (bt251.2.2.2.1 == a1_3 && (bt251.2.2.2.2.1 == a1_4 && (bt251.2.2.2.2.2.1 == a1_5))))))) else (some false))) else (none)))) else (if t216.length < 140737488355328 then ((decode_Of.f (t216 ++ [a2])).bind fun bt261 => (if bt261.2.2.2.2.2.2 = 0 then (some (bt261.1 == a1_0 && (bt261.2.1 == a1_1 && (bt261.2.2.1 == a1_2 && (bt261.2.2.2.1 == a1_3 && (bt261.2.2.2.2.1 == a1_4 && (bt261.2.2.2.2.2.1 == a1_5))))))) else (some false))) else (none))) else (if t219 = 2 then ((decode_Check.f kj10 a1_0 a1_1 a1_2 a1_3 a1_4 a1_5).bind fun t268 => (if t268 = t219 then (some ((t216.length : Int) == 0)) else (some false))) else (some false))) = some r := H
          have A72 := Aside0.mk A720
          clear A720
          by_cases c73 : t219 = 0
          · rw [if_pos c73] at H
            have c73b0 : (t219 == 0) = true := beq_iff_eq.mpr c73
            have c73b1 : (t219 != 0) = false := bne_eq_false_iff_eq.mpr c73
            clear c73
            by_cases c74 : a1_0 = 0
            · rw [if_pos c74] at H
              have c74b0 : (a1_0 == 0) = true := beq_iff_eq.mpr c74
              have c74b1 : (a1_0 != 0) = false := bne_eq_false_iff_eq.mpr c74
              clear c74
              by_cases c75 : a1_2 = 221
              · rw [if_pos c75] at H
                have c75b0 : (a1_2 == 221) = true := beq_iff_eq.mpr c75
                have c75b1 : (a1_2 != 221) = false := bne_eq_false_iff_eq.mpr c75
                clear c75
                obtain ⟨y220, hy220⟩ : ∃ y_ : List Int, y_ = (([221, 237, 253] : List Int)) := ⟨_, rfl⟩
                replace H : (if 0 ≤ (Int.tmod a2 3) then (if (Int.tmod a2 3) < (y220.length : Int) then (if t216.length < 140737488355328 then ((decode_Of.f (t216 ++ [rd y220 (Int.tmod a2 3)])).bind fun bt227 => (if bt227.2.2.2.2.2.2 = 0 then (some (bt227.1 == a1_0 && (bt227.2.1 == a1_1 && (bt227.2.2.1 == a1_2 && (bt227.2.2.2.1 == a1_3 && (bt227.2.2.2.2.1 == a1_4 && (bt227.2.2.2.2.2.1 == a1_5))))))) else (some false))) else (none)) else (none)) else (none)) = some r := by first | (rw [hy220]; with_reducible exact H) | (have H2_ := (Option.bind_some _ _).symm.trans H; rw [hy220]; with_reducible exact H2_) | (have H2_ := (Option.bind_some _ _).symm.trans H; with_reducible exact H2_) | with_reducible exact H | (rw [hy220]; exact H) | exact H
                have Ny220 := Aside0.mk hy220
                clear hy220
                obtain ⟨ji76, hji76⟩ : ∃ j_ : Int, (Int.tmod a2 3) = j_ := ⟨_, rfl⟩
                replace H : (if 0 ≤ (ji76) then (if (ji76) < (y220.length : Int) then (if t216.length < 140737488355328 then ((decode_Of.f (t216 ++ [rd y220 (ji76)])).bind fun bt227 => (if bt227.2.2.2.2.2.2 = 0 then (some (bt227.1 == a1_0 && (bt227.2.1 == a1_1 && (bt227.2.2.1 == a1_2 && (bt227.2.2.2.1 == a1_3 && (bt227.2.2.2.2.1 == a1_4 && (bt227.2.2.2.2.2.1 == a1_5))))))) else (some false))) else (none)) else (none)) else (none)) = some r := by first | (rw [hji76] at H; exact H) | (simp only [hji76] at H ⊢; exact H)
                (try rw [hji76] at A72)
                by_cases c77 : 0 ≤ (ji76)
                · rw [if_pos c77] at H
                  have c77b0 : decide (0 ≤ (ji76)) = true := decide_eq_true c77
                  clear c77
                  by_cases c78 : (ji76) < (y220.length : Int)
                  · rw [if_pos c78] at H
                    have c78b0 : decide ((ji76) < (y220.length : Int)) = true := decide_eq_true c78
                    clear c78
                    by_cases c79 : t216.length < 140737488355328
                    · rw [if_pos c79] at H
                      have LMc79 := Aside0.mk c79
                      clear c79
                      obtain ⟨y224, hy224⟩ : ∃ y_ : List Int, y_ = (t216 ++ [rd y220 (ji76)]) := ⟨_, rfl⟩
                      replace H : ((decode_Of.f y224).bind fun bt227 => (if bt227.2.2.2.2.2.2 = 0 then (some (bt227.1 == a1_0 && (bt227.2.1 == a1_1 && (bt227.2.2.1 == a1_2 && (bt227.2.2.2.1 == a1_3 && (bt227.2.2.2.2.1 == a1_4 && (bt227.2.2.2.2.2.1 == a1_5))))))) else (some false))) = some r := by first | (rw [hy224]; with_reducible exact H) | (have H2_ := (Option.bind_some _ _).symm.trans H; rw [hy224]; with_reducible exact H2_) | (have H2_ := (Option.bind_some _ _).symm.trans H; with_reducible exact H2_) | with_reducible exact H | (rw [hy224]; exact H) | exact H
                      have Ny224 := Aside0.mk hy224
                      clear hy224
                      replace H := Option.bind_eq_some_iff.mp H
                      obtain ⟨⟨t227, t228, t229, t230, t231, t232, t233⟩, A800, H⟩ := H
                      replace H : (if t233 = 0 then (some (t227 == a1_0 && (t228 == a1_1 && (t229 == a1_2 && (t230 == a1_3 && (t231 == a1_4 && (t232 == a1_5))))))) else (some false)) = some r := H
                      have A80 := Aside0.mk A800
                      clear A800
                      by_cases c81 : t233 = 0
                      · rw [if_pos c81] at H
                        have c81b0 : (t233 == 0) = true := beq_iff_eq.mpr c81
                        have c81b1 : (t233 != 0) = false := bne_eq_false_iff_eq.mpr c81
                        clear c81
                        obtain rfl := Option.some.inj H
                        have hnb82 := NB197_209.out
                        have hnc82 := NB209_197.out
                        have hcz83_0 : wc.cell? ⟨gb197, 0, none⟩ = some (.int .i64 a1_0) := (blk_cell BK197.out 0).trans rfl
                        have hcz83_1 : wc.cell? ⟨gb197, 1, none⟩ = some (.int .i64 a1_1) := (blk_cell BK197.out 1).trans rfl
                        have hcz83_2 : wc.cell? ⟨gb197, 2, none⟩ = some (.int .i64 a1_2) := (blk_cell BK197.out 2).trans rfl
                        have hcz83_3 : wc.cell? ⟨gb197, 3, none⟩ = some (.int .i64 a1_3) := (blk_cell BK197.out 3).trans rfl
                        have hcz83_4 : wc.cell? ⟨gb197, 4, none⟩ = some (.int .i64 a1_4) := (blk_cell BK197.out 4).trans rfl
                        have hcz83_5 : wc.cell? ⟨gb197, 5, none⟩ = some (.int .i64 a1_5) := (blk_cell BK197.out 5).trans rfl
                        have hfz83_0 := blk_frozen BK197.out 0
                        have hfz83_1 := blk_frozen BK197.out 1
                        have hfz83_2 := blk_frozen BK197.out 2
                        have hfz83_3 := blk_frozen BK197.out 3
                        have hfz83_4 := blk_frozen BK197.out 4
                        have hfz83_5 := blk_frozen BK197.out 5
                        go_wp2_with (first | ((with_reducible refine gate_callee (f := 29) rfl ?_); refine goesL_ (some 66) rfl rfl Try.func29 (by kernel_rfl) rfl #[.agg #[.int .i64 a1_0, .int .i64 a1_1, .int .i64 a1_2, .int .i64 a1_3, .int .i64 a1_4, .int .i64 a1_5]] rfl (by (try simp only [List.map_toArray, List.map_cons, List.map_nil]); first | done | rfl | (simp only [List.length_drop, List.length_take]; rfl)) ?_; (with_reducible refine (decode_Bytes.calls kj10 a1_0 a1_1 a1_2 a1_3 a1_4 a1_5 t216 t219 _ A72.out).mono ?_); rintro e w84 ⟨v217, rfl, ho0, hb⟩; refine ⟨_, rfl, ?_⟩; have n0_ := Aside0.mk (Kd.R_lower ho0 (below_size (by repeat (first | (with_reducible first | exact HB.out | apply below_alloc | apply pw_below_drewN | apply below_drew1 | refine below_set ?_ GE197.out | refine below_set ?_ GE209.out) | exact HB.out)))); have n1_ := Aside0.mk (blk_below (g := gb197) (o := .cells #[.int .i64 a1_0, .int .i64 a1_1, .int .i64 a1_2, .int .i64 a1_3, .int .i64 a1_4, .int .i64 a1_5] 46 (0, 0)) (by (with_reducible repeat (first | refine blk_drewN ?_ _ | refine blk_drew ?_ | refine blk_alloc ?_ _)); exact BK197.out) hb); have n2_ := Aside0.mk (blk_below (g := gb209) (o := .cells #[.int .i64 t202, .int .i64 t203, .int .i64 t204, .int .i64 t205, .int .i64 t206, .int .i64 t207] 46 (0, 0)) (by (with_reducible repeat (first | refine blk_drewN ?_ _ | refine blk_drew ?_ | refine blk_alloc ?_ _)); exact BK209.out) hb); have n3_ := Aside0.mk (below_step (by repeat (first | (with_reducible first | exact HB.out | apply below_alloc | apply pw_below_drewN | apply below_drew1 | refine below_set ?_ GE197.out | refine below_set ?_ GE209.out) | exact HB.out)) hb); clear BK197; clear BK209; clear HB; have HO218 := n0_; have BK197 := n1_; have BK209 := n2_; have HB := n3_; clear n0_ n1_ n2_ n3_; (try clear hb); (try clear hb2); (try clear hk); (try clear hi); (try clear ho0); have hcz85_0 : w84.cell? ⟨gb197, 0, none⟩ = some (.int .i64 a1_0) := (blk_cell BK197.out 0).trans rfl; have hcz85_1 : w84.cell? ⟨gb197, 1, none⟩ = some (.int .i64 a1_1) := (blk_cell BK197.out 1).trans rfl; have hcz85_2 : w84.cell? ⟨gb197, 2, none⟩ = some (.int .i64 a1_2) := (blk_cell BK197.out 2).trans rfl; have hcz85_3 : w84.cell? ⟨gb197, 3, none⟩ = some (.int .i64 a1_3) := (blk_cell BK197.out 3).trans rfl; have hcz85_4 : w84.cell? ⟨gb197, 4, none⟩ = some (.int .i64 a1_4) := (blk_cell BK197.out 4).trans rfl; have hcz85_5 : w84.cell? ⟨gb197, 5, none⟩ = some (.int .i64 a1_5) := (blk_cell BK197.out 5).trans rfl; have hfz85_0 := blk_frozen BK197.out 0; have hfz85_1 := blk_frozen BK197.out 1; have hfz85_2 := blk_frozen BK197.out 2; have hfz85_3 := blk_frozen BK197.out 3; have hfz85_4 := blk_frozen BK197.out 4; have hfz85_5 := blk_frozen BK197.out 5) | ((with_reducible refine gate_dst (N := 97) rfl ?_); (try (refine gate_guard (by rfl) ?_; dsimp only)); refine Kd.R_lit (Kd.int .u8) _ 5 ?hg (N := 97) ?hd (xs := ([221, 237, 253] : List Int)) (inner := [.int .u8 221, .int .u8 237, .int .u8 253]) (ok := fun _ => True) (okp := fun _ => True) ?hr ?hp (fun _ hk => hk) trivial (Below.refl _ _) (Nat.le_refl _) (by simp) ?_; (case hd => rfl); (case hg => rfl); (case hr => first | (go_simp; done) | (go_simp; rfl)); (case hp => exact (Reps.one (show Kd.M (Kd.int .u8) _ _ _ 221 [.int .u8 221] from rfl) (Reps.one (show Kd.M (Kd.int .u8) _ _ _ 237 [.int .u8 237] from rfl) (Reps.one (show Kd.M (Kd.int .u8) _ _ _ 253 [.int .u8 253] from rfl) (Reps.none _ _))))); intro v221 w86 ho87 hb hg_ hnew_; clear hg_ hnew_; (first | rw [← Ny220.out] at ho87 | (simp only [Int.reduceToNat] at ho87; rw [← Ny220.out] at ho87)); have n0_ := Aside0.mk (Kd.R_elder' (by (with_reducible repeat (first | apply Kd.R_alloc | apply Kd.R_drewN | apply Kd.R_drew)); exact HO218.out) (Kd.R_base ho87) hb); have n1_ := Aside0.mk (Kd.R_lower (Kd.R_new' ho87 (Kd.R_lt (by (with_reducible repeat (first | apply Kd.R_alloc | apply Kd.R_drewN | apply Kd.R_drew)); exact HO218.out))) (below_size (by repeat (first | (with_reducible first | exact HB.out | apply below_alloc | apply pw_below_drewN | apply below_drew1 | refine below_set ?_ GE197.out | refine below_set ?_ GE209.out) | exact HB.out)))); have n2_ := Aside0.mk (blk_below (g := gb197) (o := .cells #[.int .i64 a1_0, .int .i64 a1_1, .int .i64 a1_2, .int .i64 a1_3, .int .i64 a1_4, .int .i64 a1_5] 46 (0, 0)) (by (with_reducible repeat (first | refine blk_drewN ?_ _ | refine blk_drew ?_ | refine blk_alloc ?_ _)); exact BK197.out) hb); have n3_ := Aside0.mk (blk_below (g := gb209) (o := .cells #[.int .i64 t202, .int .i64 t203, .int .i64 t204, .int .i64 t205, .int .i64 t206, .int .i64 t207] 46 (0, 0)) (by (with_reducible repeat (first | refine blk_drewN ?_ _ | refine blk_drew ?_ | refine blk_alloc ?_ _)); exact BK209.out) hb); have n4_ := Aside0.mk (below_step (by repeat (first | (with_reducible first | exact HB.out | apply below_alloc | apply pw_below_drewN | apply below_drew1 | refine below_set ?_ GE197.out | refine below_set ?_ GE209.out) | exact HB.out)) hb); clear HO218; clear BK197; clear BK209; clear HB; have HO218 := n0_; have HO222 := n1_; have BK197 := n2_; have BK209 := n3_; have HB := n4_; clear n0_ n1_ n2_ n3_ n4_; clear hb ho87; obtain ⟨Ao88, co88, eo88⟩ := Kd.R_slice HO222.out; subst eo88; have p223 : 0 ≤ ((ji76) : Int) := of_decide_eq_true (by first | (with_reducible assumption) | assumption); have q223 : (ji76) < (y220.length : Int) := of_decide_eq_true (by first | (with_reducible assumption) | assumption); obtain ⟨ad223, e223, hx223_0⟩ := Kd.at_int (Kd.R_reads' HO222.out).2.2 (ji76) p223 q223; cases e223; replace p223 := eq_true p223; replace q223 := eq_true q223) | ((with_reducible refine gate_builtin (b := .append) (xs := #[.tmp 103, .tmp 105]) rfl ?_); (try (refine gate_guard (by rfl) ?_; dsimp only)); at_builtin; refine Kd.R_append (Kd.int .u8) (w0 := w) w.heap.size rfl (.tmp 103) (.tmp 105) 44 5 (.int .u8 0) 1 rfl Try.underlying44 info5 rfl (by decide) (by omega) v217 t216 (rd y220 (ji76)) [.int .u8 (rd y220 (ji76))] (fun k_ => some k_ ≠ (.slice (some ad223) y220.length co88 : Value).ownBlock) (fun _ => False) rfl rfl ?aP (fun _ hk => hk.elim) ?aF ?aO ?aB ?aS ?aL ?_; (case aP => exact rfl); (case aB => exact (by repeat (first | (with_reducible first | exact HB.out | apply below_alloc | apply pw_below_drewN | apply below_drew1 | refine below_set ?_ GE197.out | refine below_set ?_ GE209.out) | exact HB.out))); (case aF => exact (fun k_ hk => Kd.fresh' (Kd.R_lt (by (with_reducible repeat (first | apply Kd.R_alloc | apply Kd.R_drewN | apply Kd.R_drew)); exact HO222.out)) k_ hk)); (case aO => exact (by (with_reducible repeat (first | apply Kd.R_alloc | apply Kd.R_drewN | apply Kd.R_drew)); exact Kd.R_mono HO218.out (fun _ hk => hk.2))); (case aS => exact (below_size (by repeat (first | (with_reducible first | exact HB.out | apply below_alloc | apply pw_below_drewN | apply below_drew1 | refine below_set ?_ GE197.out | refine below_set ?_ GE209.out) | exact HB.out)))); (case aL => have := LMc79.out; omega); intro v225 w89 ho hb hg hat; rw [← Ny224.out] at ho; have n0_ := Aside0.mk (blk_grown (g := gb197) (o := .cells #[.int .i64 a1_0, .int .i64 a1_1, .int .i64 a1_2, .int .i64 a1_3, .int .i64 a1_4, .int .i64 a1_5] 46 (0, 0)) (by (with_reducible repeat (first | refine blk_drewN ?_ _ | refine blk_drew ?_ | refine blk_alloc ?_ _)); exact BK197.out) hg (Kd.R_ne HO218.out BK197.out (by decide))); have n1_ := Aside0.mk (blk_grown (g := gb209) (o := .cells #[.int .i64 t202, .int .i64 t203, .int .i64 t204, .int .i64 t205, .int .i64 t206, .int .i64 t207] 46 (0, 0)) (by (with_reducible repeat (first | refine blk_drewN ?_ _ | refine blk_drew ?_ | refine blk_alloc ?_ _)); exact BK209.out) hg (Kd.R_ne HO218.out BK209.out (by decide))); have n2_ := Aside0.mk (Kd.R_after (ok := (fun _ => True)) (by (with_reducible repeat (first | apply Kd.R_alloc | apply Kd.R_drewN | apply Kd.R_drew)); exact HO222.out) hg hat); have n3_ := Aside0.mk (hb); have n4_ := Aside0.mk (ho); clear BK197; clear BK209; clear HO222; clear HB; clear HO218; have BK197 := n0_; have BK209 := n1_; have HO222 := n2_; have HB := n3_; have HO226 := n4_; clear n0_ n1_ n2_ n3_ n4_; clear ho hb hg hat; obtain ⟨Ao90, co90, eo90⟩ := Kd.R_slice HO226.out; subst eo90) | ((with_reducible refine gate_callee (f := 27) rfl ?_); refine goesL_ (some 107) rfl rfl Try.func27 (by kernel_rfl) rfl #[.slice Ao90 y224.length co90] rfl (by (try simp only [List.map_toArray, List.map_cons, List.map_nil]); first | done | rfl | (simp only [List.length_drop, List.length_take]; rfl)) ?_; (with_reducible refine (decode_Of.calls _ _ y224 t227 t228 t229 t230 t231 t232 t233 _ ?side1 ?side2 A80.out).mono ?_); (case side1 => repeat (first | exact (Kd.R_reads' HO226.out).2.2 | (with_reducible refine Kd.C_alloc ?_ _) | (with_reducible refine Kd.C_drewN ?_ _) | (with_reducible refine Kd.C_drew ?_))); (case side2 => exact (Kd.R_reads' HO226.out).2.1); rintro e w91 ⟨rfl, hb⟩; refine ⟨_, rfl, ?_⟩; have n0_ := Aside0.mk (Kd.R_below (by (with_reducible repeat (first | apply Kd.R_alloc | apply Kd.R_drewN | apply Kd.R_drew)); exact HO222.out) hb); have n1_ := Aside0.mk (Kd.R_below (by (with_reducible repeat (first | apply Kd.R_alloc | apply Kd.R_drewN | apply Kd.R_drew)); exact HO226.out) hb); have n2_ := Aside0.mk (blk_below (g := gb197) (o := .cells #[.int .i64 a1_0, .int .i64 a1_1, .int .i64 a1_2, .int .i64 a1_3, .int .i64 a1_4, .int .i64 a1_5] 46 (0, 0)) (by (with_reducible repeat (first | refine blk_drewN ?_ _ | refine blk_drew ?_ | refine blk_alloc ?_ _)); exact BK197.out) hb); have n3_ := Aside0.mk (blk_below (g := gb209) (o := .cells #[.int .i64 t202, .int .i64 t203, .int .i64 t204, .int .i64 t205, .int .i64 t206, .int .i64 t207] 46 (0, 0)) (by (with_reducible repeat (first | refine blk_drewN ?_ _ | refine blk_drew ?_ | refine blk_alloc ?_ _)); exact BK209.out) hb); have n4_ := Aside0.mk (below_step (by repeat (first | (with_reducible first | exact HB.out | apply below_alloc | apply pw_below_drewN | apply below_drew1 | refine below_set ?_ GE197.out | refine below_set ?_ GE209.out) | exact HB.out)) hb); clear HO222; clear HO226; clear BK197; clear BK209; clear HB; have HO222 := n0_; have HO226 := n1_; have BK197 := n2_; have BK209 := n3_; have HB := n4_; clear n0_ n1_ n2_ n3_ n4_; (try clear hb); (try clear hb2); (try clear hk); (try clear hi); have hcz92_0 : w91.cell? ⟨gb209, 0, none⟩ = some (.int .i64 t202) := (blk_cell BK209.out 0).trans rfl; have hcz92_1 : w91.cell? ⟨gb209, 1, none⟩ = some (.int .i64 t203) := (blk_cell BK209.out 1).trans rfl; have hcz92_2 : w91.cell? ⟨gb209, 2, none⟩ = some (.int .i64 t204) := (blk_cell BK209.out 2).trans rfl; have hcz92_3 : w91.cell? ⟨gb209, 3, none⟩ = some (.int .i64 t205) := (blk_cell BK209.out 3).trans rfl; have hcz92_4 : w91.cell? ⟨gb209, 4, none⟩ = some (.int .i64 t206) := (blk_cell BK209.out 4).trans rfl; have hcz92_5 : w91.cell? ⟨gb209, 5, none⟩ = some (.int .i64 t207) := (blk_cell BK209.out 5).trans rfl; have hfz92_0 := blk_frozen BK209.out 0; have hfz92_1 := blk_frozen BK209.out 1; have hfz92_2 := blk_frozen BK209.out 2; have hfz92_3 := blk_frozen BK209.out 3; have hfz92_4 := blk_frozen BK209.out 4; have hfz92_5 := blk_frozen BK209.out 5; have hcz93_0 : w91.cell? ⟨gb197, 0, none⟩ = some (.int .i64 a1_0) := (blk_cell BK197.out 0).trans rfl; have hcz93_1 : w91.cell? ⟨gb197, 1, none⟩ = some (.int .i64 a1_1) := (blk_cell BK197.out 1).trans rfl; have hcz93_2 : w91.cell? ⟨gb197, 2, none⟩ = some (.int .i64 a1_2) := (blk_cell BK197.out 2).trans rfl; have hcz93_3 : w91.cell? ⟨gb197, 3, none⟩ = some (.int .i64 a1_3) := (blk_cell BK197.out 3).trans rfl; have hcz93_4 : w91.cell? ⟨gb197, 4, none⟩ = some (.int .i64 a1_4) := (blk_cell BK197.out 4).trans rfl; have hcz93_5 : w91.cell? ⟨gb197, 5, none⟩ = some (.int .i64 a1_5) := (blk_cell BK197.out 5).trans rfl; have hfz93_0 := blk_frozen BK197.out 0; have hfz93_1 := blk_frozen BK197.out 1; have hfz93_2 := blk_frozen BK197.out 2; have hfz93_3 := blk_frozen BK197.out 3; have hfz93_4 := blk_frozen BK197.out 4; have hfz93_5 := blk_frozen BK197.out 5))
                        go_ret
                        exact ⟨by first | rfl | (simp [errW_none, errW_some] <;> rfl) | (simp only [← hji76]; first | rfl | (simp [errW_none, errW_some] <;> rfl)) | (simp [*, errW_none, errW_some] <;> rfl), by repeat (first | (with_reducible first | exact HB.out | apply below_alloc | apply pw_below_drewN | apply below_drew1 | refine below_set ?_ GE197.out | refine below_set ?_ GE209.out) | exact HB.out)⟩
                      · rw [if_neg c81] at H
                        have c81b0 : (t233 == 0) = false := beq_eq_false_iff_ne.mpr c81
                        have c81b1 : (t233 != 0) = true := bne_iff_ne.mpr c81
                        exact absurd ((Option.some.inj H).trans HRT.out) (by decide)
                    · rw [if_neg c79] at H
                      exact absurd H (by simp)
                  · rw [if_neg c78] at H
                    exact absurd H (by simp)
                · rw [if_neg c77] at H
                  exact absurd H (by simp)
              · rw [if_neg c75] at H
                have c75b0 : (a1_2 == 221) = false := beq_eq_false_iff_ne.mpr c75
                have c75b1 : (a1_2 != 221) = true := bne_iff_ne.mpr c75
                by_cases c105 : a1_2 = 253
                · rw [if_pos c105] at H
                  have c105b0 : (a1_2 == 253) = true := beq_iff_eq.mpr c105
                  have c105b1 : (a1_2 != 253) = false := bne_eq_false_iff_eq.mpr c105
                  clear c105
                  obtain ⟨y234, hy234⟩ : ∃ y_ : List Int, y_ = (([221, 237, 253] : List Int)) := ⟨_, rfl⟩
                  replace H : (if 0 ≤ (Int.tmod a2 3) then (if (Int.tmod a2 3) < (y234.length : Int) then (if t216.length < 140737488355328 then ((decode_Of.f (t216 ++ [rd y234 (Int.tmod a2 3)])).bind fun bt241 => (if bt241.2.2.2.2.2.2 = 0 then (some (bt241.1 == a1_0 && (bt241.2.1 == a1_1 && (bt241.2.2.1 == a1_2 && (bt241.2.2.2.1 == a1_3 && (bt241.2.2.2.2.1 == a1_4 && (bt241.2.2.2.2.2.1 == a1_5))))))) else (some false))) else (none)) else (none)) else (none)) = some r := by first | (rw [hy234]; with_reducible exact H) | (have H2_ := (Option.bind_some _ _).symm.trans H; rw [hy234]; with_reducible exact H2_) | (have H2_ := (Option.bind_some _ _).symm.trans H; with_reducible exact H2_) | with_reducible exact H | (rw [hy234]; exact H) | exact H
                  have Ny234 := Aside0.mk hy234
                  clear hy234
                  obtain ⟨ji106, hji106⟩ : ∃ j_ : Int, (Int.tmod a2 3) = j_ := ⟨_, rfl⟩
                  replace H : (if 0 ≤ (ji106) then (if (ji106) < (y234.length : Int) then (if t216.length < 140737488355328 then ((decode_Of.f (t216 ++ [rd y234 (ji106)])).bind fun bt241 => (if bt241.2.2.2.2.2.2 = 0 then (some (bt241.1 == a1_0 && (bt241.2.1 == a1_1 && (bt241.2.2.1 == a1_2 && (bt241.2.2.2.1 == a1_3 && (bt241.2.2.2.2.1 == a1_4 && (bt241.2.2.2.2.2.1 == a1_5))))))) else (some false))) else (none)) else (none)) else (none)) = some r := by first | (rw [hji106] at H; exact H) | (simp only [hji106] at H ⊢; exact H)
                  (try rw [hji106] at A72)
                  by_cases c107 : 0 ≤ (ji106)
                  · rw [if_pos c107] at H
                    have c107b0 : decide (0 ≤ (ji106)) = true := decide_eq_true c107
                    clear c107
                    by_cases c108 : (ji106) < (y234.length : Int)
                    · rw [if_pos c108] at H
                      have c108b0 : decide ((ji106) < (y234.length : Int)) = true := decide_eq_true c108
                      clear c108
                      by_cases c109 : t216.length < 140737488355328
                      · rw [if_pos c109] at H
                        have LMc109 := Aside0.mk c109
                        clear c109
                        obtain ⟨y238, hy238⟩ : ∃ y_ : List Int, y_ = (t216 ++ [rd y234 (ji106)]) := ⟨_, rfl⟩
                        replace H : ((decode_Of.f y238).bind fun bt241 => (if bt241.2.2.2.2.2.2 = 0 then (some (bt241.1 == a1_0 && (bt241.2.1 == a1_1 && (bt241.2.2.1 == a1_2 && (bt241.2.2.2.1 == a1_3 && (bt241.2.2.2.2.1 == a1_4 && (bt241.2.2.2.2.2.1 == a1_5))))))) else (some false))) = some r := by first | (rw [hy238]; with_reducible exact H) | (have H2_ := (Option.bind_some _ _).symm.trans H; rw [hy238]; with_reducible exact H2_) | (have H2_ := (Option.bind_some _ _).symm.trans H; with_reducible exact H2_) | with_reducible exact H | (rw [hy238]; exact H) | exact H
                        have Ny238 := Aside0.mk hy238
                        clear hy238
                        replace H := Option.bind_eq_some_iff.mp H
                        obtain ⟨⟨t241, t242, t243, t244, t245, t246, t247⟩, A1100, H⟩ := H
                        replace H : (if t247 = 0 then (some (t241 == a1_0 && (t242 == a1_1 && (t243 == a1_2 && (t244 == a1_3 && (t245 == a1_4 && (t246 == a1_5))))))) else (some false)) = some r := H
                        have A110 := Aside0.mk A1100
                        clear A1100
                        by_cases c111 : t247 = 0
                        · rw [if_pos c111] at H
                          have c111b0 : (t247 == 0) = true := beq_iff_eq.mpr c111
                          have c111b1 : (t247 != 0) = false := bne_eq_false_iff_eq.mpr c111
                          clear c111
                          obtain rfl := Option.some.inj H
                          have hnb112 := NB197_209.out
                          have hnc112 := NB209_197.out
                          have hcz113_0 : wc.cell? ⟨gb197, 0, none⟩ = some (.int .i64 a1_0) := (blk_cell BK197.out 0).trans rfl
                          have hcz113_1 : wc.cell? ⟨gb197, 1, none⟩ = some (.int .i64 a1_1) := (blk_cell BK197.out 1).trans rfl
                          have hcz113_2 : wc.cell? ⟨gb197, 2, none⟩ = some (.int .i64 a1_2) := (blk_cell BK197.out 2).trans rfl
                          have hcz113_3 : wc.cell? ⟨gb197, 3, none⟩ = some (.int .i64 a1_3) := (blk_cell BK197.out 3).trans rfl
                          have hcz113_4 : wc.cell? ⟨gb197, 4, none⟩ = some (.int .i64 a1_4) := (blk_cell BK197.out 4).trans rfl
                          have hcz113_5 : wc.cell? ⟨gb197, 5, none⟩ = some (.int .i64 a1_5) := (blk_cell BK197.out 5).trans rfl
                          have hfz113_0 := blk_frozen BK197.out 0
                          have hfz113_1 := blk_frozen BK197.out 1
                          have hfz113_2 := blk_frozen BK197.out 2
                          have hfz113_3 := blk_frozen BK197.out 3
                          have hfz113_4 := blk_frozen BK197.out 4
                          have hfz113_5 := blk_frozen BK197.out 5
                          go_wp2_with (first | ((with_reducible refine gate_callee (f := 29) rfl ?_); refine goesL_ (some 66) rfl rfl Try.func29 (by kernel_rfl) rfl #[.agg #[.int .i64 a1_0, .int .i64 a1_1, .int .i64 a1_2, .int .i64 a1_3, .int .i64 a1_4, .int .i64 a1_5]] rfl (by (try simp only [List.map_toArray, List.map_cons, List.map_nil]); first | done | rfl | (simp only [List.length_drop, List.length_take]; rfl)) ?_; (with_reducible refine (decode_Bytes.calls kj10 a1_0 a1_1 a1_2 a1_3 a1_4 a1_5 t216 t219 _ A72.out).mono ?_); rintro e w114 ⟨v217, rfl, ho0, hb⟩; refine ⟨_, rfl, ?_⟩; have n0_ := Aside0.mk (Kd.R_lower ho0 (below_size (by repeat (first | (with_reducible first | exact HB.out | apply below_alloc | apply pw_below_drewN | apply below_drew1 | refine below_set ?_ GE197.out | refine below_set ?_ GE209.out) | exact HB.out)))); have n1_ := Aside0.mk (blk_below (g := gb197) (o := .cells #[.int .i64 a1_0, .int .i64 a1_1, .int .i64 a1_2, .int .i64 a1_3, .int .i64 a1_4, .int .i64 a1_5] 46 (0, 0)) (by (with_reducible repeat (first | refine blk_drewN ?_ _ | refine blk_drew ?_ | refine blk_alloc ?_ _)); exact BK197.out) hb); have n2_ := Aside0.mk (blk_below (g := gb209) (o := .cells #[.int .i64 t202, .int .i64 t203, .int .i64 t204, .int .i64 t205, .int .i64 t206, .int .i64 t207] 46 (0, 0)) (by (with_reducible repeat (first | refine blk_drewN ?_ _ | refine blk_drew ?_ | refine blk_alloc ?_ _)); exact BK209.out) hb); have n3_ := Aside0.mk (below_step (by repeat (first | (with_reducible first | exact HB.out | apply below_alloc | apply pw_below_drewN | apply below_drew1 | refine below_set ?_ GE197.out | refine below_set ?_ GE209.out) | exact HB.out)) hb); clear BK197; clear BK209; clear HB; have HO218 := n0_; have BK197 := n1_; have BK209 := n2_; have HB := n3_; clear n0_ n1_ n2_ n3_; (try clear hb); (try clear hb2); (try clear hk); (try clear hi); (try clear ho0); have hcz115_0 : w114.cell? ⟨gb197, 0, none⟩ = some (.int .i64 a1_0) := (blk_cell BK197.out 0).trans rfl; have hcz115_1 : w114.cell? ⟨gb197, 1, none⟩ = some (.int .i64 a1_1) := (blk_cell BK197.out 1).trans rfl; have hcz115_2 : w114.cell? ⟨gb197, 2, none⟩ = some (.int .i64 a1_2) := (blk_cell BK197.out 2).trans rfl; have hcz115_3 : w114.cell? ⟨gb197, 3, none⟩ = some (.int .i64 a1_3) := (blk_cell BK197.out 3).trans rfl; have hcz115_4 : w114.cell? ⟨gb197, 4, none⟩ = some (.int .i64 a1_4) := (blk_cell BK197.out 4).trans rfl; have hcz115_5 : w114.cell? ⟨gb197, 5, none⟩ = some (.int .i64 a1_5) := (blk_cell BK197.out 5).trans rfl; have hfz115_0 := blk_frozen BK197.out 0; have hfz115_1 := blk_frozen BK197.out 1; have hfz115_2 := blk_frozen BK197.out 2; have hfz115_3 := blk_frozen BK197.out 3; have hfz115_4 := blk_frozen BK197.out 4; have hfz115_5 := blk_frozen BK197.out 5) | ((with_reducible refine gate_dst (N := 97) rfl ?_); (try (refine gate_guard (by rfl) ?_; dsimp only)); refine Kd.R_lit (Kd.int .u8) _ 5 ?hg (N := 97) ?hd (xs := ([221, 237, 253] : List Int)) (inner := [.int .u8 221, .int .u8 237, .int .u8 253]) (ok := fun _ => True) (okp := fun _ => True) ?hr ?hp (fun _ hk => hk) trivial (Below.refl _ _) (Nat.le_refl _) (by simp) ?_; (case hd => rfl); (case hg => rfl); (case hr => first | (go_simp; done) | (go_simp; rfl)); (case hp => exact (Reps.one (show Kd.M (Kd.int .u8) _ _ _ 221 [.int .u8 221] from rfl) (Reps.one (show Kd.M (Kd.int .u8) _ _ _ 237 [.int .u8 237] from rfl) (Reps.one (show Kd.M (Kd.int .u8) _ _ _ 253 [.int .u8 253] from rfl) (Reps.none _ _))))); intro v235 w116 ho117 hb hg_ hnew_; clear hg_ hnew_; (first | rw [← Ny234.out] at ho117 | (simp only [Int.reduceToNat] at ho117; rw [← Ny234.out] at ho117)); have n0_ := Aside0.mk (Kd.R_elder' (by (with_reducible repeat (first | apply Kd.R_alloc | apply Kd.R_drewN | apply Kd.R_drew)); exact HO218.out) (Kd.R_base ho117) hb); have n1_ := Aside0.mk (Kd.R_lower (Kd.R_new' ho117 (Kd.R_lt (by (with_reducible repeat (first | apply Kd.R_alloc | apply Kd.R_drewN | apply Kd.R_drew)); exact HO218.out))) (below_size (by repeat (first | (with_reducible first | exact HB.out | apply below_alloc | apply pw_below_drewN | apply below_drew1 | refine below_set ?_ GE197.out | refine below_set ?_ GE209.out) | exact HB.out)))); have n2_ := Aside0.mk (blk_below (g := gb197) (o := .cells #[.int .i64 a1_0, .int .i64 a1_1, .int .i64 a1_2, .int .i64 a1_3, .int .i64 a1_4, .int .i64 a1_5] 46 (0, 0)) (by (with_reducible repeat (first | refine blk_drewN ?_ _ | refine blk_drew ?_ | refine blk_alloc ?_ _)); exact BK197.out) hb); have n3_ := Aside0.mk (blk_below (g := gb209) (o := .cells #[.int .i64 t202, .int .i64 t203, .int .i64 t204, .int .i64 t205, .int .i64 t206, .int .i64 t207] 46 (0, 0)) (by (with_reducible repeat (first | refine blk_drewN ?_ _ | refine blk_drew ?_ | refine blk_alloc ?_ _)); exact BK209.out) hb); have n4_ := Aside0.mk (below_step (by repeat (first | (with_reducible first | exact HB.out | apply below_alloc | apply pw_below_drewN | apply below_drew1 | refine below_set ?_ GE197.out | refine below_set ?_ GE209.out) | exact HB.out)) hb); clear HO218; clear BK197; clear BK209; clear HB; have HO218 := n0_; have HO236 := n1_; have BK197 := n2_; have BK209 := n3_; have HB := n4_; clear n0_ n1_ n2_ n3_ n4_; clear hb ho117; obtain ⟨Ao118, co118, eo118⟩ := Kd.R_slice HO236.out; subst eo118; have p237 : 0 ≤ ((ji106) : Int) := of_decide_eq_true (by first | (with_reducible assumption) | assumption); have q237 : (ji106) < (y234.length : Int) := of_decide_eq_true (by first | (with_reducible assumption) | assumption); obtain ⟨ad237, e237, hx237_0⟩ := Kd.at_int (Kd.R_reads' HO236.out).2.2 (ji106) p237 q237; cases e237; replace p237 := eq_true p237; replace q237 := eq_true q237) | ((with_reducible refine gate_builtin (b := .append) (xs := #[.tmp 103, .tmp 105]) rfl ?_); (try (refine gate_guard (by rfl) ?_; dsimp only)); at_builtin; refine Kd.R_append (Kd.int .u8) (w0 := w) w.heap.size rfl (.tmp 103) (.tmp 105) 44 5 (.int .u8 0) 1 rfl Try.underlying44 info5 rfl (by decide) (by omega) v217 t216 (rd y234 (ji106)) [.int .u8 (rd y234 (ji106))] (fun k_ => some k_ ≠ (.slice (some ad237) y234.length co118 : Value).ownBlock) (fun _ => False) rfl rfl ?aP (fun _ hk => hk.elim) ?aF ?aO ?aB ?aS ?aL ?_; (case aP => exact rfl); (case aB => exact (by repeat (first | (with_reducible first | exact HB.out | apply below_alloc | apply pw_below_drewN | apply below_drew1 | refine below_set ?_ GE197.out | refine below_set ?_ GE209.out) | exact HB.out))); (case aF => exact (fun k_ hk => Kd.fresh' (Kd.R_lt (by (with_reducible repeat (first | apply Kd.R_alloc | apply Kd.R_drewN | apply Kd.R_drew)); exact HO236.out)) k_ hk)); (case aO => exact (by (with_reducible repeat (first | apply Kd.R_alloc | apply Kd.R_drewN | apply Kd.R_drew)); exact Kd.R_mono HO218.out (fun _ hk => hk.2))); (case aS => exact (below_size (by repeat (first | (with_reducible first | exact HB.out | apply below_alloc | apply pw_below_drewN | apply below_drew1 | refine below_set ?_ GE197.out | refine below_set ?_ GE209.out) | exact HB.out)))); (case aL => have := LMc109.out; omega); intro v239 w119 ho hb hg hat; rw [← Ny238.out] at ho; have n0_ := Aside0.mk (blk_grown (g := gb197) (o := .cells #[.int .i64 a1_0, .int .i64 a1_1, .int .i64 a1_2, .int .i64 a1_3, .int .i64 a1_4, .int .i64 a1_5] 46 (0, 0)) (by (with_reducible repeat (first | refine blk_drewN ?_ _ | refine blk_drew ?_ | refine blk_alloc ?_ _)); exact BK197.out) hg (Kd.R_ne HO218.out BK197.out (by decide))); have n1_ := Aside0.mk (blk_grown (g := gb209) (o := .cells #[.int .i64 t202, .int .i64 t203, .int .i64 t204, .int .i64 t205, .int .i64 t206, .int .i64 t207] 46 (0, 0)) (by (with_reducible repeat (first | refine blk_drewN ?_ _ | refine blk_drew ?_ | refine blk_alloc ?_ _)); exact BK209.out) hg (Kd.R_ne HO218.out BK209.out (by decide))); have n2_ := Aside0.mk (Kd.R_after (ok := (fun _ => True)) (by (with_reducible repeat (first | apply Kd.R_alloc | apply Kd.R_drewN | apply Kd.R_drew)); exact HO236.out) hg hat); have n3_ := Aside0.mk (hb); have n4_ := Aside0.mk (ho); clear BK197; clear BK209; clear HO236; clear HB; clear HO218; have BK197 := n0_; have BK209 := n1_; have HO236 := n2_; have HB := n3_; have HO240 := n4_; clear n0_ n1_ n2_ n3_ n4_; clear ho hb hg hat; obtain ⟨Ao120, co120, eo120⟩ := Kd.R_slice HO240.out; subst eo120) | ((with_reducible refine gate_callee (f := 27) rfl ?_); refine goesL_ (some 107) rfl rfl Try.func27 (by kernel_rfl) rfl #[.slice Ao120 y238.length co120] rfl (by (try simp only [List.map_toArray, List.map_cons, List.map_nil]); first | done | rfl | (simp only [List.length_drop, List.length_take]; rfl)) ?_; (with_reducible refine (decode_Of.calls _ _ y238 t241 t242 t243 t244 t245 t246 t247 _ ?side1 ?side2 A110.out).mono ?_); (case side1 => repeat (first | exact (Kd.R_reads' HO240.out).2.2 | (with_reducible refine Kd.C_alloc ?_ _) | (with_reducible refine Kd.C_drewN ?_ _) | (with_reducible refine Kd.C_drew ?_))); (case side2 => exact (Kd.R_reads' HO240.out).2.1); rintro e w121 ⟨rfl, hb⟩; refine ⟨_, rfl, ?_⟩; have n0_ := Aside0.mk (Kd.R_below (by (with_reducible repeat (first | apply Kd.R_alloc | apply Kd.R_drewN | apply Kd.R_drew)); exact HO236.out) hb); have n1_ := Aside0.mk (Kd.R_below (by (with_reducible repeat (first | apply Kd.R_alloc | apply Kd.R_drewN | apply Kd.R_drew)); exact HO240.out) hb); have n2_ := Aside0.mk (blk_below (g := gb197) (o := .cells #[.int .i64 a1_0, .int .i64 a1_1, .int .i64 a1_2, .int .i64 a1_3, .int .i64 a1_4, .int .i64 a1_5] 46 (0, 0)) (by (with_reducible repeat (first | refine blk_drewN ?_ _ | refine blk_drew ?_ | refine blk_alloc ?_ _)); exact BK197.out) hb); have n3_ := Aside0.mk (blk_below (g := gb209) (o := .cells #[.int .i64 t202, .int .i64 t203, .int .i64 t204, .int .i64 t205, .int .i64 t206, .int .i64 t207] 46 (0, 0)) (by (with_reducible repeat (first | refine blk_drewN ?_ _ | refine blk_drew ?_ | refine blk_alloc ?_ _)); exact BK209.out) hb); have n4_ := Aside0.mk (below_step (by repeat (first | (with_reducible first | exact HB.out | apply below_alloc | apply pw_below_drewN | apply below_drew1 | refine below_set ?_ GE197.out | refine below_set ?_ GE209.out) | exact HB.out)) hb); clear HO236; clear HO240; clear BK197; clear BK209; clear HB; have HO236 := n0_; have HO240 := n1_; have BK197 := n2_; have BK209 := n3_; have HB := n4_; clear n0_ n1_ n2_ n3_ n4_; (try clear hb); (try clear hb2); (try clear hk); (try clear hi); have hcz122_0 : w121.cell? ⟨gb209, 0, none⟩ = some (.int .i64 t202) := (blk_cell BK209.out 0).trans rfl; have hcz122_1 : w121.cell? ⟨gb209, 1, none⟩ = some (.int .i64 t203) := (blk_cell BK209.out 1).trans rfl; have hcz122_2 : w121.cell? ⟨gb209, 2, none⟩ = some (.int .i64 t204) := (blk_cell BK209.out 2).trans rfl; have hcz122_3 : w121.cell? ⟨gb209, 3, none⟩ = some (.int .i64 t205) := (blk_cell BK209.out 3).trans rfl; have hcz122_4 : w121.cell? ⟨gb209, 4, none⟩ = some (.int .i64 t206) := (blk_cell BK209.out 4).trans rfl; have hcz122_5 : w121.cell? ⟨gb209, 5, none⟩ = some (.int .i64 t207) := (blk_cell BK209.out 5).trans rfl; have hfz122_0 := blk_frozen BK209.out 0; have hfz122_1 := blk_frozen BK209.out 1; have hfz122_2 := blk_frozen BK209.out 2; have hfz122_3 := blk_frozen BK209.out 3; have hfz122_4 := blk_frozen BK209.out 4; have hfz122_5 := blk_frozen BK209.out 5; have hcz123_0 : w121.cell? ⟨gb197, 0, none⟩ = some (.int .i64 a1_0) := (blk_cell BK197.out 0).trans rfl; have hcz123_1 : w121.cell? ⟨gb197, 1, none⟩ = some (.int .i64 a1_1) := (blk_cell BK197.out 1).trans rfl; have hcz123_2 : w121.cell? ⟨gb197, 2, none⟩ = some (.int .i64 a1_2) := (blk_cell BK197.out 2).trans rfl; have hcz123_3 : w121.cell? ⟨gb197, 3, none⟩ = some (.int .i64 a1_3) := (blk_cell BK197.out 3).trans rfl; have hcz123_4 : w121.cell? ⟨gb197, 4, none⟩ = some (.int .i64 a1_4) := (blk_cell BK197.out 4).trans rfl; have hcz123_5 : w121.cell? ⟨gb197, 5, none⟩ = some (.int .i64 a1_5) := (blk_cell BK197.out 5).trans rfl; have hfz123_0 := blk_frozen BK197.out 0; have hfz123_1 := blk_frozen BK197.out 1; have hfz123_2 := blk_frozen BK197.out 2; have hfz123_3 := blk_frozen BK197.out 3; have hfz123_4 := blk_frozen BK197.out 4; have hfz123_5 := blk_frozen BK197.out 5))
                          go_ret
                          exact ⟨by first | rfl | (simp [errW_none, errW_some] <;> rfl) | (simp only [← hji106]; first | rfl | (simp [errW_none, errW_some] <;> rfl)) | (simp [*, errW_none, errW_some] <;> rfl), by repeat (first | (with_reducible first | exact HB.out | apply below_alloc | apply pw_below_drewN | apply below_drew1 | refine below_set ?_ GE197.out | refine below_set ?_ GE209.out) | exact HB.out)⟩
                        · rw [if_neg c111] at H
                          have c111b0 : (t247 == 0) = false := beq_eq_false_iff_ne.mpr c111
                          have c111b1 : (t247 != 0) = true := bne_iff_ne.mpr c111
                          exact absurd ((Option.some.inj H).trans HRT.out) (by decide)
                      · rw [if_neg c109] at H
                        exact absurd H (by simp)
                    · rw [if_neg c108] at H
                      exact absurd H (by simp)
                  · rw [if_neg c107] at H
                    exact absurd H (by simp)
                · rw [if_neg c105] at H
                  have c105b0 : (a1_2 == 253) = false := beq_eq_false_iff_ne.mpr c105
                  have c105b1 : (a1_2 != 253) = true := bne_iff_ne.mpr c105
                  by_cases c135 : t216.length < 140737488355328
                  · rw [if_pos c135] at H
                    have LMc135 := Aside0.mk c135
                    clear c135
                    obtain ⟨y248, hy248⟩ : ∃ y_ : List Int, y_ = (t216 ++ [a2]) := ⟨_, rfl⟩
                    replace H : ((decode_Of.f y248).bind fun bt251 => (if bt251.2.2.2.2.2.2 = 0 then (some (bt251.1 == a1_0 && (bt251.2.1 == a1_1 && (bt251.2.2.1 == a1_2 && (bt251.2.2.2.1 == a1_3 && (bt251.2.2.2.2.1 == a1_4 && (bt251.2.2.2.2.2.1 == a1_5))))))) else (some false))) = some r := by first | (rw [hy248]; with_reducible exact H) | (have H2_ := (Option.bind_some _ _).symm.trans H; rw [hy248]; with_reducible exact H2_) | (have H2_ := (Option.bind_some _ _).symm.trans H; with_reducible exact H2_) | with_reducible exact H | (rw [hy248]; exact H) | exact H
                    have Ny248 := Aside0.mk hy248
                    clear hy248
                    replace H := Option.bind_eq_some_iff.mp H
                    obtain ⟨⟨t251, t252, t253, t254, t255, t256, t257⟩, A1360, H⟩ := H
                    replace H : (if t257 = 0 then (some (t251 == a1_0 && (t252 == a1_1 && (t253 == a1_2 && (t254 == a1_3 && (t255 == a1_4 && (t256 == a1_5))))))) else (some false)) = some r := H
                    have A136 := Aside0.mk A1360
                    clear A1360
                    by_cases c137 : t257 = 0
                    · rw [if_pos c137] at H
                      have c137b0 : (t257 == 0) = true := beq_iff_eq.mpr c137
                      have c137b1 : (t257 != 0) = false := bne_eq_false_iff_eq.mpr c137
                      clear c137
                      obtain rfl := Option.some.inj H
                      have hnb138 := NB197_209.out
                      have hnc138 := NB209_197.out
                      have hcz139_0 : wc.cell? ⟨gb197, 0, none⟩ = some (.int .i64 a1_0) := (blk_cell BK197.out 0).trans rfl
                      have hcz139_1 : wc.cell? ⟨gb197, 1, none⟩ = some (.int .i64 a1_1) := (blk_cell BK197.out 1).trans rfl
                      have hcz139_2 : wc.cell? ⟨gb197, 2, none⟩ = some (.int .i64 a1_2) := (blk_cell BK197.out 2).trans rfl
                      have hcz139_3 : wc.cell? ⟨gb197, 3, none⟩ = some (.int .i64 a1_3) := (blk_cell BK197.out 3).trans rfl
                      have hcz139_4 : wc.cell? ⟨gb197, 4, none⟩ = some (.int .i64 a1_4) := (blk_cell BK197.out 4).trans rfl
                      have hcz139_5 : wc.cell? ⟨gb197, 5, none⟩ = some (.int .i64 a1_5) := (blk_cell BK197.out 5).trans rfl
                      have hfz139_0 := blk_frozen BK197.out 0
                      have hfz139_1 := blk_frozen BK197.out 1
                      have hfz139_2 := blk_frozen BK197.out 2
                      have hfz139_3 := blk_frozen BK197.out 3
                      have hfz139_4 := blk_frozen BK197.out 4
                      have hfz139_5 := blk_frozen BK197.out 5
                      go_wp2_with (first | ((with_reducible refine gate_callee (f := 29) rfl ?_); refine goesL_ (some 66) rfl rfl Try.func29 (by kernel_rfl) rfl #[.agg #[.int .i64 a1_0, .int .i64 a1_1, .int .i64 a1_2, .int .i64 a1_3, .int .i64 a1_4, .int .i64 a1_5]] rfl (by (try simp only [List.map_toArray, List.map_cons, List.map_nil]); first | done | rfl | (simp only [List.length_drop, List.length_take]; rfl)) ?_; (with_reducible refine (decode_Bytes.calls kj10 a1_0 a1_1 a1_2 a1_3 a1_4 a1_5 t216 t219 _ A72.out).mono ?_); rintro e w140 ⟨v217, rfl, ho0, hb⟩; refine ⟨_, rfl, ?_⟩; have n0_ := Aside0.mk (Kd.R_lower ho0 (below_size (by repeat (first | (with_reducible first | exact HB.out | apply below_alloc | apply pw_below_drewN | apply below_drew1 | refine below_set ?_ GE197.out | refine below_set ?_ GE209.out) | exact HB.out)))); have n1_ := Aside0.mk (blk_below (g := gb197) (o := .cells #[.int .i64 a1_0, .int .i64 a1_1, .int .i64 a1_2, .int .i64 a1_3, .int .i64 a1_4, .int .i64 a1_5] 46 (0, 0)) (by (with_reducible repeat (first | refine blk_drewN ?_ _ | refine blk_drew ?_ | refine blk_alloc ?_ _)); exact BK197.out) hb); have n2_ := Aside0.mk (blk_below (g := gb209) (o := .cells #[.int .i64 t202, .int .i64 t203, .int .i64 t204, .int .i64 t205, .int .i64 t206, .int .i64 t207] 46 (0, 0)) (by (with_reducible repeat (first | refine blk_drewN ?_ _ | refine blk_drew ?_ | refine blk_alloc ?_ _)); exact BK209.out) hb); have n3_ := Aside0.mk (below_step (by repeat (first | (with_reducible first | exact HB.out | apply below_alloc | apply pw_below_drewN | apply below_drew1 | refine below_set ?_ GE197.out | refine below_set ?_ GE209.out) | exact HB.out)) hb); clear BK197; clear BK209; clear HB; have HO218 := n0_; have BK197 := n1_; have BK209 := n2_; have HB := n3_; clear n0_ n1_ n2_ n3_; (try clear hb); (try clear hb2); (try clear hk); (try clear hi); (try clear ho0); have hcz141_0 : w140.cell? ⟨gb197, 0, none⟩ = some (.int .i64 a1_0) := (blk_cell BK197.out 0).trans rfl; have hcz141_1 : w140.cell? ⟨gb197, 1, none⟩ = some (.int .i64 a1_1) := (blk_cell BK197.out 1).trans rfl; have hcz141_2 : w140.cell? ⟨gb197, 2, none⟩ = some (.int .i64 a1_2) := (blk_cell BK197.out 2).trans rfl; have hcz141_3 : w140.cell? ⟨gb197, 3, none⟩ = some (.int .i64 a1_3) := (blk_cell BK197.out 3).trans rfl; have hcz141_4 : w140.cell? ⟨gb197, 4, none⟩ = some (.int .i64 a1_4) := (blk_cell BK197.out 4).trans rfl; have hcz141_5 : w140.cell? ⟨gb197, 5, none⟩ = some (.int .i64 a1_5) := (blk_cell BK197.out 5).trans rfl; have hfz141_0 := blk_frozen BK197.out 0; have hfz141_1 := blk_frozen BK197.out 1; have hfz141_2 := blk_frozen BK197.out 2; have hfz141_3 := blk_frozen BK197.out 3; have hfz141_4 := blk_frozen BK197.out 4; have hfz141_5 := blk_frozen BK197.out 5) | ((with_reducible refine gate_builtin (b := .append) (xs := #[.tmp 103, .tmp 105]) rfl ?_); (try (refine gate_guard (by rfl) ?_; dsimp only)); at_builtin; refine Kd.R_append (Kd.int .u8) (w0 := w) w.heap.size rfl (.tmp 103) (.tmp 105) 44 5 (.int .u8 0) 1 rfl Try.underlying44 info5 rfl (by decide) (by omega) v217 t216 a2 [.int .u8 a2] (fun _ => True) (fun _ => False) rfl rfl ?aP (fun _ hk => hk.elim) ?aF ?aO ?aB ?aS ?aL ?_; (case aP => exact rfl); (case aB => exact (by repeat (first | (with_reducible first | exact HB.out | apply below_alloc | apply pw_below_drewN | apply below_drew1 | refine below_set ?_ GE197.out | refine below_set ?_ GE209.out) | exact HB.out))); (case aF => exact (fun _ _ => trivial)); (case aO => exact (by (with_reducible repeat (first | apply Kd.R_alloc | apply Kd.R_drewN | apply Kd.R_drew)); exact HO218.out)); (case aS => exact (below_size (by repeat (first | (with_reducible first | exact HB.out | apply below_alloc | apply pw_below_drewN | apply below_drew1 | refine below_set ?_ GE197.out | refine below_set ?_ GE209.out) | exact HB.out)))); (case aL => have := LMc135.out; omega); intro v249 w142 ho hb hg hat; rw [← Ny248.out] at ho; have n0_ := Aside0.mk (blk_grown (g := gb197) (o := .cells #[.int .i64 a1_0, .int .i64 a1_1, .int .i64 a1_2, .int .i64 a1_3, .int .i64 a1_4, .int .i64 a1_5] 46 (0, 0)) (by (with_reducible repeat (first | refine blk_drewN ?_ _ | refine blk_drew ?_ | refine blk_alloc ?_ _)); exact BK197.out) hg (Kd.R_ne HO218.out BK197.out (by decide))); have n1_ := Aside0.mk (blk_grown (g := gb209) (o := .cells #[.int .i64 t202, .int .i64 t203, .int .i64 t204, .int .i64 t205, .int .i64 t206, .int .i64 t207] 46 (0, 0)) (by (with_reducible repeat (first | refine blk_drewN ?_ _ | refine blk_drew ?_ | refine blk_alloc ?_ _)); exact BK209.out) hg (Kd.R_ne HO218.out BK209.out (by decide))); have n2_ := Aside0.mk (hb); have n3_ := Aside0.mk (ho); clear BK197; clear BK209; clear HB; clear HO218; have BK197 := n0_; have BK209 := n1_; have HB := n2_; have HO250 := n3_; clear n0_ n1_ n2_ n3_; clear ho hb hg hat; obtain ⟨Ao143, co143, eo143⟩ := Kd.R_slice HO250.out; subst eo143) | ((with_reducible refine gate_callee (f := 27) rfl ?_); refine goesL_ (some 107) rfl rfl Try.func27 (by kernel_rfl) rfl #[.slice Ao143 y248.length co143] rfl (by (try simp only [List.map_toArray, List.map_cons, List.map_nil]); first | done | rfl | (simp only [List.length_drop, List.length_take]; rfl)) ?_; (with_reducible refine (decode_Of.calls _ _ y248 t251 t252 t253 t254 t255 t256 t257 _ ?side1 ?side2 A136.out).mono ?_); (case side1 => repeat (first | exact (Kd.R_reads' HO250.out).2.2 | (with_reducible refine Kd.C_alloc ?_ _) | (with_reducible refine Kd.C_drewN ?_ _) | (with_reducible refine Kd.C_drew ?_))); (case side2 => exact (Kd.R_reads' HO250.out).2.1); rintro e w144 ⟨rfl, hb⟩; refine ⟨_, rfl, ?_⟩; have n0_ := Aside0.mk (Kd.R_below (by (with_reducible repeat (first | apply Kd.R_alloc | apply Kd.R_drewN | apply Kd.R_drew)); exact HO250.out) hb); have n1_ := Aside0.mk (blk_below (g := gb197) (o := .cells #[.int .i64 a1_0, .int .i64 a1_1, .int .i64 a1_2, .int .i64 a1_3, .int .i64 a1_4, .int .i64 a1_5] 46 (0, 0)) (by (with_reducible repeat (first | refine blk_drewN ?_ _ | refine blk_drew ?_ | refine blk_alloc ?_ _)); exact BK197.out) hb); have n2_ := Aside0.mk (blk_below (g := gb209) (o := .cells #[.int .i64 t202, .int .i64 t203, .int .i64 t204, .int .i64 t205, .int .i64 t206, .int .i64 t207] 46 (0, 0)) (by (with_reducible repeat (first | refine blk_drewN ?_ _ | refine blk_drew ?_ | refine blk_alloc ?_ _)); exact BK209.out) hb); have n3_ := Aside0.mk (below_step (by repeat (first | (with_reducible first | exact HB.out | apply below_alloc | apply pw_below_drewN | apply below_drew1 | refine below_set ?_ GE197.out | refine below_set ?_ GE209.out) | exact HB.out)) hb); clear HO250; clear BK197; clear BK209; clear HB; have HO250 := n0_; have BK197 := n1_; have BK209 := n2_; have HB := n3_; clear n0_ n1_ n2_ n3_; (try clear hb); (try clear hb2); (try clear hk); (try clear hi); have hcz145_0 : w144.cell? ⟨gb209, 0, none⟩ = some (.int .i64 t202) := (blk_cell BK209.out 0).trans rfl; have hcz145_1 : w144.cell? ⟨gb209, 1, none⟩ = some (.int .i64 t203) := (blk_cell BK209.out 1).trans rfl; have hcz145_2 : w144.cell? ⟨gb209, 2, none⟩ = some (.int .i64 t204) := (blk_cell BK209.out 2).trans rfl; have hcz145_3 : w144.cell? ⟨gb209, 3, none⟩ = some (.int .i64 t205) := (blk_cell BK209.out 3).trans rfl; have hcz145_4 : w144.cell? ⟨gb209, 4, none⟩ = some (.int .i64 t206) := (blk_cell BK209.out 4).trans rfl; have hcz145_5 : w144.cell? ⟨gb209, 5, none⟩ = some (.int .i64 t207) := (blk_cell BK209.out 5).trans rfl; have hfz145_0 := blk_frozen BK209.out 0; have hfz145_1 := blk_frozen BK209.out 1; have hfz145_2 := blk_frozen BK209.out 2; have hfz145_3 := blk_frozen BK209.out 3; have hfz145_4 := blk_frozen BK209.out 4; have hfz145_5 := blk_frozen BK209.out 5; have hcz146_0 : w144.cell? ⟨gb197, 0, none⟩ = some (.int .i64 a1_0) := (blk_cell BK197.out 0).trans rfl; have hcz146_1 : w144.cell? ⟨gb197, 1, none⟩ = some (.int .i64 a1_1) := (blk_cell BK197.out 1).trans rfl; have hcz146_2 : w144.cell? ⟨gb197, 2, none⟩ = some (.int .i64 a1_2) := (blk_cell BK197.out 2).trans rfl; have hcz146_3 : w144.cell? ⟨gb197, 3, none⟩ = some (.int .i64 a1_3) := (blk_cell BK197.out 3).trans rfl; have hcz146_4 : w144.cell? ⟨gb197, 4, none⟩ = some (.int .i64 a1_4) := (blk_cell BK197.out 4).trans rfl; have hcz146_5 : w144.cell? ⟨gb197, 5, none⟩ = some (.int .i64 a1_5) := (blk_cell BK197.out 5).trans rfl; have hfz146_0 := blk_frozen BK197.out 0; have hfz146_1 := blk_frozen BK197.out 1; have hfz146_2 := blk_frozen BK197.out 2; have hfz146_3 := blk_frozen BK197.out 3; have hfz146_4 := blk_frozen BK197.out 4; have hfz146_5 := blk_frozen BK197.out 5))
                      go_ret
                      exact ⟨by first | rfl | (simp [errW_none, errW_some] <;> rfl) | (simp [*, errW_none, errW_some] <;> rfl), by repeat (first | (with_reducible first | exact HB.out | apply below_alloc | apply pw_below_drewN | apply below_drew1 | refine below_set ?_ GE197.out | refine below_set ?_ GE209.out) | exact HB.out)⟩
                    · rw [if_neg c137] at H
                      have c137b0 : (t257 == 0) = false := beq_eq_false_iff_ne.mpr c137
                      have c137b1 : (t257 != 0) = true := bne_iff_ne.mpr c137
                      exact absurd ((Option.some.inj H).trans HRT.out) (by decide)
                  · rw [if_neg c135] at H
                    exact absurd H (by simp)
            · rw [if_neg c74] at H
              have c74b0 : (a1_0 == 0) = false := beq_eq_false_iff_ne.mpr c74
              have c74b1 : (a1_0 != 0) = true := bne_iff_ne.mpr c74
              by_cases c155 : t216.length < 140737488355328
              · rw [if_pos c155] at H
                have LMc155 := Aside0.mk c155
                clear c155
                obtain ⟨y258, hy258⟩ : ∃ y_ : List Int, y_ = (t216 ++ [a2]) := ⟨_, rfl⟩
                replace H : ((decode_Of.f y258).bind fun bt261 => (if bt261.2.2.2.2.2.2 = 0 then (some (bt261.1 == a1_0 && (bt261.2.1 == a1_1 && (bt261.2.2.1 == a1_2 && (bt261.2.2.2.1 == a1_3 && (bt261.2.2.2.2.1 == a1_4 && (bt261.2.2.2.2.2.1 == a1_5))))))) else (some false))) = some r := by first | (rw [hy258]; with_reducible exact H) | (have H2_ := (Option.bind_some _ _).symm.trans H; rw [hy258]; with_reducible exact H2_) | (have H2_ := (Option.bind_some _ _).symm.trans H; with_reducible exact H2_) | with_reducible exact H | (rw [hy258]; exact H) | exact H
                have Ny258 := Aside0.mk hy258
                clear hy258
                replace H := Option.bind_eq_some_iff.mp H
                obtain ⟨⟨t261, t262, t263, t264, t265, t266, t267⟩, A1560, H⟩ := H
                replace H : (if t267 = 0 then (some (t261 == a1_0 && (t262 == a1_1 && (t263 == a1_2 && (t264 == a1_3 && (t265 == a1_4 && (t266 == a1_5))))))) else (some false)) = some r := H
                have A156 := Aside0.mk A1560
                clear A1560
                by_cases c157 : t267 = 0
                · rw [if_pos c157] at H
                  have c157b0 : (t267 == 0) = true := beq_iff_eq.mpr c157
                  have c157b1 : (t267 != 0) = false := bne_eq_false_iff_eq.mpr c157
                  clear c157
                  obtain rfl := Option.some.inj H
                  have hnb158 := NB197_209.out
                  have hnc158 := NB209_197.out
                  have hcz159_0 : wc.cell? ⟨gb197, 0, none⟩ = some (.int .i64 a1_0) := (blk_cell BK197.out 0).trans rfl
                  have hcz159_1 : wc.cell? ⟨gb197, 1, none⟩ = some (.int .i64 a1_1) := (blk_cell BK197.out 1).trans rfl
                  have hcz159_2 : wc.cell? ⟨gb197, 2, none⟩ = some (.int .i64 a1_2) := (blk_cell BK197.out 2).trans rfl
                  have hcz159_3 : wc.cell? ⟨gb197, 3, none⟩ = some (.int .i64 a1_3) := (blk_cell BK197.out 3).trans rfl
                  have hcz159_4 : wc.cell? ⟨gb197, 4, none⟩ = some (.int .i64 a1_4) := (blk_cell BK197.out 4).trans rfl
                  have hcz159_5 : wc.cell? ⟨gb197, 5, none⟩ = some (.int .i64 a1_5) := (blk_cell BK197.out 5).trans rfl
                  have hfz159_0 := blk_frozen BK197.out 0
                  have hfz159_1 := blk_frozen BK197.out 1
                  have hfz159_2 := blk_frozen BK197.out 2
                  have hfz159_3 := blk_frozen BK197.out 3
                  have hfz159_4 := blk_frozen BK197.out 4
                  have hfz159_5 := blk_frozen BK197.out 5
                  go_wp2_with (first | ((with_reducible refine gate_callee (f := 29) rfl ?_); refine goesL_ (some 66) rfl rfl Try.func29 (by kernel_rfl) rfl #[.agg #[.int .i64 a1_0, .int .i64 a1_1, .int .i64 a1_2, .int .i64 a1_3, .int .i64 a1_4, .int .i64 a1_5]] rfl (by (try simp only [List.map_toArray, List.map_cons, List.map_nil]); first | done | rfl | (simp only [List.length_drop, List.length_take]; rfl)) ?_; (with_reducible refine (decode_Bytes.calls kj10 a1_0 a1_1 a1_2 a1_3 a1_4 a1_5 t216 t219 _ A72.out).mono ?_); rintro e w160 ⟨v217, rfl, ho0, hb⟩; refine ⟨_, rfl, ?_⟩; have n0_ := Aside0.mk (Kd.R_lower ho0 (below_size (by repeat (first | (with_reducible first | exact HB.out | apply below_alloc | apply pw_below_drewN | apply below_drew1 | refine below_set ?_ GE197.out | refine below_set ?_ GE209.out) | exact HB.out)))); have n1_ := Aside0.mk (blk_below (g := gb197) (o := .cells #[.int .i64 a1_0, .int .i64 a1_1, .int .i64 a1_2, .int .i64 a1_3, .int .i64 a1_4, .int .i64 a1_5] 46 (0, 0)) (by (with_reducible repeat (first | refine blk_drewN ?_ _ | refine blk_drew ?_ | refine blk_alloc ?_ _)); exact BK197.out) hb); have n2_ := Aside0.mk (blk_below (g := gb209) (o := .cells #[.int .i64 t202, .int .i64 t203, .int .i64 t204, .int .i64 t205, .int .i64 t206, .int .i64 t207] 46 (0, 0)) (by (with_reducible repeat (first | refine blk_drewN ?_ _ | refine blk_drew ?_ | refine blk_alloc ?_ _)); exact BK209.out) hb); have n3_ := Aside0.mk (below_step (by repeat (first | (with_reducible first | exact HB.out | apply below_alloc | apply pw_below_drewN | apply below_drew1 | refine below_set ?_ GE197.out | refine below_set ?_ GE209.out) | exact HB.out)) hb); clear BK197; clear BK209; clear HB; have HO218 := n0_; have BK197 := n1_; have BK209 := n2_; have HB := n3_; clear n0_ n1_ n2_ n3_; (try clear hb); (try clear hb2); (try clear hk); (try clear hi); (try clear ho0); have hcz161_0 : w160.cell? ⟨gb197, 0, none⟩ = some (.int .i64 a1_0) := (blk_cell BK197.out 0).trans rfl; have hcz161_1 : w160.cell? ⟨gb197, 1, none⟩ = some (.int .i64 a1_1) := (blk_cell BK197.out 1).trans rfl; have hcz161_2 : w160.cell? ⟨gb197, 2, none⟩ = some (.int .i64 a1_2) := (blk_cell BK197.out 2).trans rfl; have hcz161_3 : w160.cell? ⟨gb197, 3, none⟩ = some (.int .i64 a1_3) := (blk_cell BK197.out 3).trans rfl; have hcz161_4 : w160.cell? ⟨gb197, 4, none⟩ = some (.int .i64 a1_4) := (blk_cell BK197.out 4).trans rfl; have hcz161_5 : w160.cell? ⟨gb197, 5, none⟩ = some (.int .i64 a1_5) := (blk_cell BK197.out 5).trans rfl; have hfz161_0 := blk_frozen BK197.out 0; have hfz161_1 := blk_frozen BK197.out 1; have hfz161_2 := blk_frozen BK197.out 2; have hfz161_3 := blk_frozen BK197.out 3; have hfz161_4 := blk_frozen BK197.out 4; have hfz161_5 := blk_frozen BK197.out 5) | ((with_reducible refine gate_builtin (b := .append) (xs := #[.tmp 103, .tmp 105]) rfl ?_); (try (refine gate_guard (by rfl) ?_; dsimp only)); at_builtin; refine Kd.R_append (Kd.int .u8) (w0 := w) w.heap.size rfl (.tmp 103) (.tmp 105) 44 5 (.int .u8 0) 1 rfl Try.underlying44 info5 rfl (by decide) (by omega) v217 t216 a2 [.int .u8 a2] (fun _ => True) (fun _ => False) rfl rfl ?aP (fun _ hk => hk.elim) ?aF ?aO ?aB ?aS ?aL ?_; (case aP => exact rfl); (case aB => exact (by repeat (first | (with_reducible first | exact HB.out | apply below_alloc | apply pw_below_drewN | apply below_drew1 | refine below_set ?_ GE197.out | refine below_set ?_ GE209.out) | exact HB.out))); (case aF => exact (fun _ _ => trivial)); (case aO => exact (by (with_reducible repeat (first | apply Kd.R_alloc | apply Kd.R_drewN | apply Kd.R_drew)); exact HO218.out)); (case aS => exact (below_size (by repeat (first | (with_reducible first | exact HB.out | apply below_alloc | apply pw_below_drewN | apply below_drew1 | refine below_set ?_ GE197.out | refine below_set ?_ GE209.out) | exact HB.out)))); (case aL => have := LMc155.out; omega); intro v259 w162 ho hb hg hat; rw [← Ny258.out] at ho; have n0_ := Aside0.mk (blk_grown (g := gb197) (o := .cells #[.int .i64 a1_0, .int .i64 a1_1, .int .i64 a1_2, .int .i64 a1_3, .int .i64 a1_4, .int .i64 a1_5] 46 (0, 0)) (by (with_reducible repeat (first | refine blk_drewN ?_ _ | refine blk_drew ?_ | refine blk_alloc ?_ _)); exact BK197.out) hg (Kd.R_ne HO218.out BK197.out (by decide))); have n1_ := Aside0.mk (blk_grown (g := gb209) (o := .cells #[.int .i64 t202, .int .i64 t203, .int .i64 t204, .int .i64 t205, .int .i64 t206, .int .i64 t207] 46 (0, 0)) (by (with_reducible repeat (first | refine blk_drewN ?_ _ | refine blk_drew ?_ | refine blk_alloc ?_ _)); exact BK209.out) hg (Kd.R_ne HO218.out BK209.out (by decide))); have n2_ := Aside0.mk (hb); have n3_ := Aside0.mk (ho); clear BK197; clear BK209; clear HB; clear HO218; have BK197 := n0_; have BK209 := n1_; have HB := n2_; have HO260 := n3_; clear n0_ n1_ n2_ n3_; clear ho hb hg hat; obtain ⟨Ao163, co163, eo163⟩ := Kd.R_slice HO260.out; subst eo163) | ((with_reducible refine gate_callee (f := 27) rfl ?_); refine goesL_ (some 107) rfl rfl Try.func27 (by kernel_rfl) rfl #[.slice Ao163 y258.length co163] rfl (by (try simp only [List.map_toArray, List.map_cons, List.map_nil]); first | done | rfl | (simp only [List.length_drop, List.length_take]; rfl)) ?_; (with_reducible refine (decode_Of.calls _ _ y258 t261 t262 t263 t264 t265 t266 t267 _ ?side1 ?side2 A156.out).mono ?_); (case side1 => repeat (first | exact (Kd.R_reads' HO260.out).2.2 | (with_reducible refine Kd.C_alloc ?_ _) | (with_reducible refine Kd.C_drewN ?_ _) | (with_reducible refine Kd.C_drew ?_))); (case side2 => exact (Kd.R_reads' HO260.out).2.1); rintro e w164 ⟨rfl, hb⟩; refine ⟨_, rfl, ?_⟩; have n0_ := Aside0.mk (Kd.R_below (by (with_reducible repeat (first | apply Kd.R_alloc | apply Kd.R_drewN | apply Kd.R_drew)); exact HO260.out) hb); have n1_ := Aside0.mk (blk_below (g := gb197) (o := .cells #[.int .i64 a1_0, .int .i64 a1_1, .int .i64 a1_2, .int .i64 a1_3, .int .i64 a1_4, .int .i64 a1_5] 46 (0, 0)) (by (with_reducible repeat (first | refine blk_drewN ?_ _ | refine blk_drew ?_ | refine blk_alloc ?_ _)); exact BK197.out) hb); have n2_ := Aside0.mk (blk_below (g := gb209) (o := .cells #[.int .i64 t202, .int .i64 t203, .int .i64 t204, .int .i64 t205, .int .i64 t206, .int .i64 t207] 46 (0, 0)) (by (with_reducible repeat (first | refine blk_drewN ?_ _ | refine blk_drew ?_ | refine blk_alloc ?_ _)); exact BK209.out) hb); have n3_ := Aside0.mk (below_step (by repeat (first | (with_reducible first | exact HB.out | apply below_alloc | apply pw_below_drewN | apply below_drew1 | refine below_set ?_ GE197.out | refine below_set ?_ GE209.out) | exact HB.out)) hb); clear HO260; clear BK197; clear BK209; clear HB; have HO260 := n0_; have BK197 := n1_; have BK209 := n2_; have HB := n3_; clear n0_ n1_ n2_ n3_; (try clear hb); (try clear hb2); (try clear hk); (try clear hi); have hcz165_0 : w164.cell? ⟨gb209, 0, none⟩ = some (.int .i64 t202) := (blk_cell BK209.out 0).trans rfl; have hcz165_1 : w164.cell? ⟨gb209, 1, none⟩ = some (.int .i64 t203) := (blk_cell BK209.out 1).trans rfl; have hcz165_2 : w164.cell? ⟨gb209, 2, none⟩ = some (.int .i64 t204) := (blk_cell BK209.out 2).trans rfl; have hcz165_3 : w164.cell? ⟨gb209, 3, none⟩ = some (.int .i64 t205) := (blk_cell BK209.out 3).trans rfl; have hcz165_4 : w164.cell? ⟨gb209, 4, none⟩ = some (.int .i64 t206) := (blk_cell BK209.out 4).trans rfl; have hcz165_5 : w164.cell? ⟨gb209, 5, none⟩ = some (.int .i64 t207) := (blk_cell BK209.out 5).trans rfl; have hfz165_0 := blk_frozen BK209.out 0; have hfz165_1 := blk_frozen BK209.out 1; have hfz165_2 := blk_frozen BK209.out 2; have hfz165_3 := blk_frozen BK209.out 3; have hfz165_4 := blk_frozen BK209.out 4; have hfz165_5 := blk_frozen BK209.out 5; have hcz166_0 : w164.cell? ⟨gb197, 0, none⟩ = some (.int .i64 a1_0) := (blk_cell BK197.out 0).trans rfl; have hcz166_1 : w164.cell? ⟨gb197, 1, none⟩ = some (.int .i64 a1_1) := (blk_cell BK197.out 1).trans rfl; have hcz166_2 : w164.cell? ⟨gb197, 2, none⟩ = some (.int .i64 a1_2) := (blk_cell BK197.out 2).trans rfl; have hcz166_3 : w164.cell? ⟨gb197, 3, none⟩ = some (.int .i64 a1_3) := (blk_cell BK197.out 3).trans rfl; have hcz166_4 : w164.cell? ⟨gb197, 4, none⟩ = some (.int .i64 a1_4) := (blk_cell BK197.out 4).trans rfl; have hcz166_5 : w164.cell? ⟨gb197, 5, none⟩ = some (.int .i64 a1_5) := (blk_cell BK197.out 5).trans rfl; have hfz166_0 := blk_frozen BK197.out 0; have hfz166_1 := blk_frozen BK197.out 1; have hfz166_2 := blk_frozen BK197.out 2; have hfz166_3 := blk_frozen BK197.out 3; have hfz166_4 := blk_frozen BK197.out 4; have hfz166_5 := blk_frozen BK197.out 5))
                  go_ret
                  exact ⟨by first | rfl | (simp [errW_none, errW_some] <;> rfl) | (simp [*, errW_none, errW_some] <;> rfl), by repeat (first | (with_reducible first | exact HB.out | apply below_alloc | apply pw_below_drewN | apply below_drew1 | refine below_set ?_ GE197.out | refine below_set ?_ GE209.out) | exact HB.out)⟩
                · rw [if_neg c157] at H
                  have c157b0 : (t267 == 0) = false := beq_eq_false_iff_ne.mpr c157
                  have c157b1 : (t267 != 0) = true := bne_iff_ne.mpr c157
                  exact absurd ((Option.some.inj H).trans HRT.out) (by decide)
              · rw [if_neg c155] at H
                exact absurd H (by simp)
          · rw [if_neg c73] at H
            have c73b0 : (t219 == 0) = false := beq_eq_false_iff_ne.mpr c73
            have c73b1 : (t219 != 0) = true := bne_iff_ne.mpr c73
            by_cases c175 : t219 = 2
            · rw [if_pos c175] at H
              have c175b0 : (t219 == 2) = true := beq_iff_eq.mpr c175
              have c175b1 : (t219 != 2) = false := bne_eq_false_iff_eq.mpr c175
              clear c175
              replace H := Option.bind_eq_some_iff.mp H
              obtain ⟨t268, A1760, H⟩ := H
              replace H : (if t268 = t219 then (some ((t216.length : Int) == 0)) else (some false)) = some r := H
              have A176 := Aside0.mk A1760
              clear A1760
              by_cases c177 : t268 = t219
              · rw [if_pos c177] at H
                have c177b0 : (t268 == t219) = true := beq_iff_eq.mpr c177
                have c177b1 : (t268 != t219) = false := bne_eq_false_iff_eq.mpr c177
                clear c177
                obtain rfl := Option.some.inj H
                have hnb178 := NB197_209.out
                have hnc178 := NB209_197.out
                have hcz179_0 : wc.cell? ⟨gb197, 0, none⟩ = some (.int .i64 a1_0) := (blk_cell BK197.out 0).trans rfl
                have hcz179_1 : wc.cell? ⟨gb197, 1, none⟩ = some (.int .i64 a1_1) := (blk_cell BK197.out 1).trans rfl
                have hcz179_2 : wc.cell? ⟨gb197, 2, none⟩ = some (.int .i64 a1_2) := (blk_cell BK197.out 2).trans rfl
                have hcz179_3 : wc.cell? ⟨gb197, 3, none⟩ = some (.int .i64 a1_3) := (blk_cell BK197.out 3).trans rfl
                have hcz179_4 : wc.cell? ⟨gb197, 4, none⟩ = some (.int .i64 a1_4) := (blk_cell BK197.out 4).trans rfl
                have hcz179_5 : wc.cell? ⟨gb197, 5, none⟩ = some (.int .i64 a1_5) := (blk_cell BK197.out 5).trans rfl
                have hfz179_0 := blk_frozen BK197.out 0
                have hfz179_1 := blk_frozen BK197.out 1
                have hfz179_2 := blk_frozen BK197.out 2
                have hfz179_3 := blk_frozen BK197.out 3
                have hfz179_4 := blk_frozen BK197.out 4
                have hfz179_5 := blk_frozen BK197.out 5
                go_wp2_with (first | ((with_reducible refine gate_callee (f := 29) rfl ?_); refine goesL_ (some 66) rfl rfl Try.func29 (by kernel_rfl) rfl #[.agg #[.int .i64 a1_0, .int .i64 a1_1, .int .i64 a1_2, .int .i64 a1_3, .int .i64 a1_4, .int .i64 a1_5]] rfl (by (try simp only [List.map_toArray, List.map_cons, List.map_nil]); first | done | rfl | (simp only [List.length_drop, List.length_take]; rfl)) ?_; (with_reducible refine (decode_Bytes.calls kj10 a1_0 a1_1 a1_2 a1_3 a1_4 a1_5 t216 t219 _ A72.out).mono ?_); rintro e w180 ⟨v217, rfl, ho0, hb⟩; refine ⟨_, rfl, ?_⟩; have n0_ := Aside0.mk (Kd.R_lower ho0 (below_size (by repeat (first | (with_reducible first | exact HB.out | apply below_alloc | apply pw_below_drewN | apply below_drew1 | refine below_set ?_ GE197.out | refine below_set ?_ GE209.out) | exact HB.out)))); have n1_ := Aside0.mk (blk_below (g := gb197) (o := .cells #[.int .i64 a1_0, .int .i64 a1_1, .int .i64 a1_2, .int .i64 a1_3, .int .i64 a1_4, .int .i64 a1_5] 46 (0, 0)) (by (with_reducible repeat (first | refine blk_drewN ?_ _ | refine blk_drew ?_ | refine blk_alloc ?_ _)); exact BK197.out) hb); have n2_ := Aside0.mk (blk_below (g := gb209) (o := .cells #[.int .i64 t202, .int .i64 t203, .int .i64 t204, .int .i64 t205, .int .i64 t206, .int .i64 t207] 46 (0, 0)) (by (with_reducible repeat (first | refine blk_drewN ?_ _ | refine blk_drew ?_ | refine blk_alloc ?_ _)); exact BK209.out) hb); have n3_ := Aside0.mk (below_step (by repeat (first | (with_reducible first | exact HB.out | apply below_alloc | apply pw_below_drewN | apply below_drew1 | refine below_set ?_ GE197.out | refine below_set ?_ GE209.out) | exact HB.out)) hb); clear BK197; clear BK209; clear HB; have HO218 := n0_; have BK197 := n1_; have BK209 := n2_; have HB := n3_; clear n0_ n1_ n2_ n3_; (try clear hb); (try clear hb2); (try clear hk); (try clear hi); (try clear ho0); have hcz181_0 : w180.cell? ⟨gb197, 0, none⟩ = some (.int .i64 a1_0) := (blk_cell BK197.out 0).trans rfl; have hcz181_1 : w180.cell? ⟨gb197, 1, none⟩ = some (.int .i64 a1_1) := (blk_cell BK197.out 1).trans rfl; have hcz181_2 : w180.cell? ⟨gb197, 2, none⟩ = some (.int .i64 a1_2) := (blk_cell BK197.out 2).trans rfl; have hcz181_3 : w180.cell? ⟨gb197, 3, none⟩ = some (.int .i64 a1_3) := (blk_cell BK197.out 3).trans rfl; have hcz181_4 : w180.cell? ⟨gb197, 4, none⟩ = some (.int .i64 a1_4) := (blk_cell BK197.out 4).trans rfl; have hcz181_5 : w180.cell? ⟨gb197, 5, none⟩ = some (.int .i64 a1_5) := (blk_cell BK197.out 5).trans rfl; have hfz181_0 := blk_frozen BK197.out 0; have hfz181_1 := blk_frozen BK197.out 1; have hfz181_2 := blk_frozen BK197.out 2; have hfz181_3 := blk_frozen BK197.out 3; have hfz181_4 := blk_frozen BK197.out 4; have hfz181_5 := blk_frozen BK197.out 5) | (go_at_call 30; (with_reducible refine (decode_Check.calls kj10 a1_0 a1_1 a1_2 a1_3 a1_4 a1_5 t268 _ A176.out).mono ?_); rintro e w182 ⟨rfl, hb⟩; have n0_ := Aside0.mk (Kd.R_below (by (with_reducible repeat (first | apply Kd.R_alloc | apply Kd.R_drewN | apply Kd.R_drew)); exact HO218.out) hb); have n1_ := Aside0.mk (blk_below (g := gb197) (o := .cells #[.int .i64 a1_0, .int .i64 a1_1, .int .i64 a1_2, .int .i64 a1_3, .int .i64 a1_4, .int .i64 a1_5] 46 (0, 0)) (by (with_reducible repeat (first | refine blk_drewN ?_ _ | refine blk_drew ?_ | refine blk_alloc ?_ _)); exact BK197.out) hb); have n2_ := Aside0.mk (blk_below (g := gb209) (o := .cells #[.int .i64 t202, .int .i64 t203, .int .i64 t204, .int .i64 t205, .int .i64 t206, .int .i64 t207] 46 (0, 0)) (by (with_reducible repeat (first | refine blk_drewN ?_ _ | refine blk_drew ?_ | refine blk_alloc ?_ _)); exact BK209.out) hb); have n3_ := Aside0.mk (below_step (by repeat (first | (with_reducible first | exact HB.out | apply below_alloc | apply pw_below_drewN | apply below_drew1 | refine below_set ?_ GE197.out | refine below_set ?_ GE209.out) | exact HB.out)) hb); clear HO218; clear BK197; clear BK209; clear HB; have HO218 := n0_; have BK197 := n1_; have BK209 := n2_; have HB := n3_; clear n0_ n1_ n2_ n3_; (try clear hb); (try clear hb2); (try clear hk); (try clear hi); obtain ⟨Ao183, co183, eo183⟩ := Kd.R_slice HO218.out; subst eo183))
                go_ret
                exact ⟨by first | rfl | (simp [errW_none, errW_some] <;> rfl) | (simp [*, errW_none, errW_some] <;> rfl), by repeat (first | (with_reducible first | exact HB.out | apply below_alloc | apply pw_below_drewN | apply below_drew1 | refine below_set ?_ GE197.out | refine below_set ?_ GE209.out) | exact HB.out)⟩
              · rw [if_neg c177] at H
                have c177b0 : (t268 == t219) = false := beq_eq_false_iff_ne.mpr c177
                have c177b1 : (t268 != t219) = true := bne_iff_ne.mpr c177
                exact absurd ((Option.some.inj H).trans HRT.out) (by decide)
            · rw [if_neg c175] at H
              have c175b0 : (t219 == 2) = false := beq_eq_false_iff_ne.mpr c175
              have c175b1 : (t219 != 2) = true := bne_iff_ne.mpr c175
              exact absurd ((Option.some.inj H).trans HRT.out) (by decide)
  · replace c5 := Bool.eq_false_iff.mpr c5
    subst c5
    have H1 : (some false) = some r := by rw [if_neg (show ¬ (false = true) by decide)] at H; exact H
    clear H
    have H := H1
    clear H1
    exact absurd ((Option.some.inj H).trans HRT.out) (by decide)
end Go.Proofs.Ythcokhnckbkecaa.HDecode
