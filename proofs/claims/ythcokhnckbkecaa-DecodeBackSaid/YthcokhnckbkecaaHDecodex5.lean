-- Written by a program of this session out of Lean's print of the program (after the form of the kit's print.sh, with own turns); Lean checks it.
import Derived.Test.YthcokhnckbkecaaHDecodex0
import Derived.Test.YthcokhnckbkecaaHDecodex2
import Derived.Test.YthcokhnckbkecaaHDecodex3
import Derived.Test.YthcokhnckbkecaaHDecodex4
namespace Go.Proofs.Ythcokhnckbkecaa.HDecode
open Go.RowKit Go.Proofs.YthcokhnckbkecaaW.PrintWords Go.Proofs.YthcokhnckbkecaaW.PrintLast Go.Proofs.YthcokhnckbkecaaW.PrintMore
attribute [local go_sem] max2_int min2_int max_two min_two max_three min_three max_four min_four   -- for this text's walks alone
set_option linter.unusedVariables false
set_option linter.unusedSimpArgs false

/-! ### decode_Of: function 27, by hand -/
set_option maxHeartbeats 8000000 in
set_option maxRecDepth 100000 in
theorem Of_at (i : Int) (g : Nat) (ad : Addr) (n c0 : Nat) (b : Int) (w : World) (hbox : w.cell? ⟨g, 0, none⟩ = some (.slice (some ad) n c0)) (hcell : w.cell? (ad.add i.toNat) = some (.int .u8 b)) (h0 : 0 ≤ i) (h1 : i < n) :
    Calls Try.prog 46 #[.int .i64 i, .pointer (some ⟨g, 0, none⟩)] w fun e w' => e = .returned (.int .i64 (wrap64 b)) ∧ w = w' := by
  replace h0 := eq_true h0
  replace h1 := eq_true h1
  go_enter Try.func46, Try.ntmps46
  go_wp2
  go_ret
  exact ⟨rfl, rfl⟩
theorem of_old (W : World) (o : Obj) {a : Addr} {v : Value} (h : W.cell? a = some v) : (W.alloc o).cell? a = some v := (World.cell?_alloc_lt _ _ _ (World.block_lt_of_cell? W a h)).trans h
theorem of_far (W : World) (p : Addr) (x : Value) {a : Addr} {v : Value} (h : W.cell? a = some v) (hn : p.block ≠ a.block) : (W.setCell p x).cell? a = some v := (World.cell?_setCell_far _ _ _ _ hn).trans h
@[reducible] def ofW (w : World) (ad : Addr) (n c0 : Nat) (s i o : Int) : World := ((w.alloc (.cells #[.slice (some ad) n c0] 44)).alloc (.cells #[.int .i64 0, .int .i64 0, .int .i64 0, .int .i64 0, .int .i64 0, .int .i64 0] 46)).alloc (.cells #[.int .i64 s, .int .i64 i, .int .i64 o, .int .i64 0, .int .i64 0, .int .i64 0] 46)
theorem of_drewN {B : Nat} {a W : World} (n : Nat) (h : Below B a W) : Below B a (W.drewN n) := ⟨h.os, h.tape, h.output, h.size, h.block⟩
theorem of_base (w : World) (o1 o2 o3 : Obj) : Below w.heap.size w (((w.alloc o1).alloc o2).alloc o3) := (((Below.refl _ w).alloc (Nat.le_refl _) o1).alloc (by simp) o2).alloc (by simp <;> omega) o3
structure OfF (w : World) (ad : Addr) (n c0 : Nat) (s i o : Int) (W : World) : Prop where
  below : Below w.heap.size w W
  I0 : W.cell? ⟨w.heap.size + 1 + 1, 0, none⟩ = some (.int .i64 s)
  I1 : W.cell? ⟨w.heap.size + 1 + 1, 1, none⟩ = some (.int .i64 i)
  I2 : W.cell? ⟨w.heap.size + 1 + 1, 2, none⟩ = some (.int .i64 o)
  I3 : W.cell? ⟨w.heap.size + 1 + 1, 3, none⟩ = some (.int .i64 0)
  I4 : W.cell? ⟨w.heap.size + 1 + 1, 4, none⟩ = some (.int .i64 0)
  I5 : W.cell? ⟨w.heap.size + 1 + 1, 5, none⟩ = some (.int .i64 0)
  R0 : W.cell? ⟨w.heap.size + 1, 0, none⟩ = some (.int .i64 0)
  R1 : W.cell? ⟨w.heap.size + 1, 1, none⟩ = some (.int .i64 0)
  R2 : W.cell? ⟨w.heap.size + 1, 2, none⟩ = some (.int .i64 0)
  R3 : W.cell? ⟨w.heap.size + 1, 3, none⟩ = some (.int .i64 0)
  R4 : W.cell? ⟨w.heap.size + 1, 4, none⟩ = some (.int .i64 0)
  R5 : W.cell? ⟨w.heap.size + 1, 5, none⟩ = some (.int .i64 0)
  B0 : W.cell? ⟨w.heap.size, 0, none⟩ = some (.slice (some ad) n c0)
  F : ∀ g k, (g = w.heap.size + 1 ∨ g = w.heap.size + 1 + 1) → W.frozen? ⟨g, k, none⟩ = false
  old : ∀ a v, w.cell? a = some v → W.cell? a = some v
theorem ofF_ofW (w : World) (ad : Addr) (n c0 : Nat) (s i o : Int) : OfF w ad n c0 s i o (ofW w ad n c0 s i o) :=
  ⟨of_base w _ _ _, by simp [go_sem], by simp [go_sem], by simp [go_sem], by simp [go_sem], by simp [go_sem], by simp [go_sem], by simp [go_sem], by simp [go_sem], by simp [go_sem], by simp [go_sem], by simp [go_sem], by simp [go_sem], by simp [go_sem], fun g k h => by rcases h with rfl | rfl <;> simp [go_sem], fun _ _ h => of_old _ _ (of_old _ _ (of_old _ _ h))⟩
theorem of_same {V : World} {p : Addr} {x : Value} (h : (V.cell? p).isSome = true) : (V.setCell p x).cell? p = some x := by
  obtain ⟨y, h⟩ := Option.isSome_iff_exists.1 h
  exact World.cell?_setCell_same V p x h
theorem of_is {V : World} {p : Addr} {y : Value} (h : V.cell? p = some y) : (V.cell? p).isSome = true := by rw [h]; rfl
theorem of_is_set {V : World} {p q : Addr} {x : Value} (h : (V.cell? q).isSome = true) : ((V.setCell p x).cell? q).isSome = true := by
  by_cases e : p = q
  · subst e; rw [of_same h]; rfl
  · rw [World.cell?_setCell_other V p q x e]; exact h
theorem of_is_drew {V : World} {q : Addr} (h : (V.cell? q).isSome = true) : (V.drew.cell? q).isSome = true := h
theorem of_is_drewN {V : World} {q : Addr} {n : Nat} (h : (V.cell? q).isSome = true) : ((V.drewN n).cell? q).isSome = true := h
theorem of_other {V : World} {p q : Addr} {x v : Value} (h : V.cell? q = some v) (hn : p ≠ q) : (V.setCell p x).cell? q = some v := (World.cell?_setCell_other V p q x hn).trans h
theorem of_cdrew {V : World} {q : Addr} {v : Value} (h : V.cell? q = some v) : V.drew.cell? q = some v := h
theorem of_cdrewN {V : World} {q : Addr} {v : Value} {n : Nat} (h : V.cell? q = some v) : (V.drewN n).cell? q = some v := h
theorem of_gen {w W0 : World} {ad : Addr} {n c0 : Nat} {s i o : Int} {P : World → Prop} (h : OfF w ad n c0 s i o W0) (k : ∀ W, OfF w ad n c0 s i o W → P W) : P W0 := k _ h
theorem of_drew0 (W : World) : W.drewN 0 = W := rfl
theorem ofF_drewN {w W : World} {ad : Addr} {n c0 : Nat} {s i o : Int} (m : Nat) (h : OfF w ad n c0 s i o W) : OfF w ad n c0 s i o (W.drewN m) :=
  ⟨of_drewN _ h.below, h.I0, h.I1, h.I2, h.I3, h.I4, h.I5, h.R0, h.R1, h.R2, h.R3, h.R4, h.R5, h.B0, h.F, h.old⟩
theorem ofF_set0 {w W : World} {ad : Addr} {n c0 : Nat} {s i o : Int} (x : Int) (h : OfF w ad n c0 s i o W) : OfF w ad n c0 x i o (W.setCell ⟨w.heap.size + 1 + 1, 0, none⟩ (.int .i64 x)) :=
  ⟨h.below.setCell (by simp; omega) _, of_same (of_is h.I0), of_other h.I1 (by simp), of_other h.I2 (by simp), of_other h.I3 (by simp), of_other h.I4 (by simp), of_other h.I5 (by simp), of_other h.R0 (by simp), of_other h.R1 (by simp), of_other h.R2 (by simp), of_other h.R3 (by simp), of_other h.R4 (by simp), of_other h.R5 (by simp), of_other h.B0 (by simp), fun g k hg => (World.frozen?_setCell _ _ _ _).trans (h.F g k hg), fun a v ha => of_other (h.old a v ha) (fun e => absurd (World.block_lt_of_cell? w a ha) (by rw [← e]; simp; omega))⟩
theorem ofF_set1 {w W : World} {ad : Addr} {n c0 : Nat} {s i o : Int} (x : Int) (h : OfF w ad n c0 s i o W) : OfF w ad n c0 s x o (W.setCell ⟨w.heap.size + 1 + 1, 1, none⟩ (.int .i64 x)) :=
  ⟨h.below.setCell (by simp; omega) _, of_other h.I0 (by simp), of_same (of_is h.I1), of_other h.I2 (by simp), of_other h.I3 (by simp), of_other h.I4 (by simp), of_other h.I5 (by simp), of_other h.R0 (by simp), of_other h.R1 (by simp), of_other h.R2 (by simp), of_other h.R3 (by simp), of_other h.R4 (by simp), of_other h.R5 (by simp), of_other h.B0 (by simp), fun g k hg => (World.frozen?_setCell _ _ _ _).trans (h.F g k hg), fun a v ha => of_other (h.old a v ha) (fun e => absurd (World.block_lt_of_cell? w a ha) (by rw [← e]; simp; omega))⟩
theorem ofF_set2 {w W : World} {ad : Addr} {n c0 : Nat} {s i o : Int} (x : Int) (h : OfF w ad n c0 s i o W) : OfF w ad n c0 s i x (W.setCell ⟨w.heap.size + 1 + 1, 2, none⟩ (.int .i64 x)) :=
  ⟨h.below.setCell (by simp; omega) _, of_other h.I0 (by simp), of_other h.I1 (by simp), of_same (of_is h.I2), of_other h.I3 (by simp), of_other h.I4 (by simp), of_other h.I5 (by simp), of_other h.R0 (by simp), of_other h.R1 (by simp), of_other h.R2 (by simp), of_other h.R3 (by simp), of_other h.R4 (by simp), of_other h.R5 (by simp), of_other h.B0 (by simp), fun g k hg => (World.frozen?_setCell _ _ _ _).trans (h.F g k hg), fun a v ha => of_other (h.old a v ha) (fun e => absurd (World.block_lt_of_cell? w a ha) (by rw [← e]; simp; omega))⟩
theorem of_post {Q : Ending → World → Prop} {a : Act} {V : World} {g : Nat} {s i o x y z e : Int} (hd : a.defers = []) (h2 : a.tmps[2]? = some (.pointer (some ⟨g, 0, none⟩))) (h3 : a.tmps[3]? = some (.int .i64 e))
    (c0 : V.cell? ⟨g, 0, none⟩ = some (.int .i64 s)) (c1 : V.cell? ⟨g, 1, none⟩ = some (.int .i64 i)) (c2 : V.cell? ⟨g, 2, none⟩ = some (.int .i64 o)) (c3 : V.cell? ⟨g, 3, none⟩ = some (.int .i64 x)) (c4 : V.cell? ⟨g, 4, none⟩ = some (.int .i64 y)) (c5 : V.cell? ⟨g, 5, none⟩ = some (.int .i64 z))
    (hQ : Q (.returned (.tuple #[.agg #[.int .i64 s, .int .i64 i, .int .i64 o, .int .i64 x, .int .i64 y, .int .i64 z], .int .i64 e])) V) :
    bodyPost Try.prog Try.f27 Q .ret a V := by
  refine bodyPost_ret (v := .tuple #[.agg #[.int .i64 s, .int .i64 i, .int .i64 o, .int .i64 x, .int .i64 y, .int .i64 z], .int .i64 e]) ?_ hd hQ
  obtain ⟨tm, df⟩ := a
  simp only at h2 h3
  simp [results, Try.results27, go_sem, h2, h3, c0, c1, c2, c3, c4, c5]


def of_imm (l : List Int) (m len s i o disp im : Int) : Option (Int × Int × Int × Int × Int × Int × Int) :=
  if im = 2 then (if m + 1 < len then some (s, i, o, disp, bits .or .i64 (wrap64 (rd l m)) (wrap64 (wrap64 (rd l (m + 1)) * 256)), len, 0) else none)
  else if im = 1 then (if m < len then (if s = 0 then (decode_relative.f o).bind fun t => (if t = true then some (s, i, o, disp, wrap64 (IntKind.i8.wrap (rd l m)), len, 0) else some (s, i, o, disp, wrap64 (rd l m), len, 0)) else some (s, i, o, disp, wrap64 (rd l m), len, 0)) else none)
  else some (s, i, o, disp, 0, len, 0)
def of_tail (l : List Int) (k s i o : Int) : Option (Int × Int × Int × Int × Int × Int × Int) :=
  (decode_Needs.f 12 s i o).bind fun d => (decode_size.f 12 s i o).bind fun len =>
    if (l.length : Int) < len then some (0, 0, 0, 0, 0, 0, 5)
    else if k ≤ len then (if d.1 = true then (if k < len then of_imm l (k + 1) len s i o (wrap64 (IntKind.i8.wrap (rd l k))) d.2 else none) else of_imm l k len s i o 0 d.2) else none
def decode_Of.f (l : List Int) : Option (Int × Int × Int × Int × Int × Int × Int) :=
  if l.length = 0 then some (0, 0, 0, 0, 0, 0, 5)
  else (decode_lone.f (wrap64 (rd l 0))).bind fun p =>
    if p = true then
      (if (l.length : Int) < 2 then some (0, 0, 0, 0, 0, 0, 5)
      else (decode_lone.f (wrap64 (rd l 1))).bind fun q =>
        if q = true then some (0, 0, wrap64 (rd l 0), 0, 0, 1, 0)
        else if wrap64 (rd l 1) = 237 then some (0, 0, wrap64 (rd l 0), 0, 0, 1, 0)
        else if wrap64 (rd l 1) = 203 then (if (l.length : Int) < 4 then some (0, 0, 0, 0, 0, 0, 5) else some (3, (if wrap64 (rd l 0) = 253 then 2 else 1), wrap64 (rd l 3), wrap64 (IntKind.i8.wrap (rd l 2)), 0, 4, 0))
        else of_tail l 2 0 (if wrap64 (rd l 0) = 253 then 2 else 1) (wrap64 (rd l 1)))
    else if wrap64 (rd l 0) = 203 then (if (l.length : Int) < 2 then some (0, 0, 0, 0, 0, 0, 5) else of_tail l 2 1 0 (wrap64 (rd l 1)))
    else if wrap64 (rd l 0) = 237 then (if (l.length : Int) < 2 then some (0, 0, 0, 0, 0, 0, 5) else of_tail l 2 2 0 (wrap64 (rd l 1)))
    else of_tail l 1 0 0 (wrap64 (rd l 0))
theorem of_inj {a b c d e f g a' b' c' d' e' f' g' : Int} (h : some (a, b, c, d, e, f, g) = some (a', b', c', d', e', f', g')) : a = a' ∧ b = b' ∧ c = c' ∧ d = d' ∧ e = e' ∧ f = f' ∧ g = g' := by simpa using h

set_option maxHeartbeats 16000000 in
set_option maxRecDepth 100000 in
theorem of_main (ad : Addr) (c0 n : Nat) (l : List Int) (w : World) (r1 r2 r3 r4 r5 r6 r7 : Int) (hnl : l.length = n) (hn : 0 < n) (hcell : ∀ j : Nat, j < n → w.cell? (ad.add j) = some (.int .u8 (rd l j))) (hc0 : n ≤ c0) (h : decode_Of.f l = some (r1, r2, r3, r4, r5, r6, r7)) :
    Calls Try.prog 27 #[.slice (some ad) n c0] w fun e w' => e = .returned (.tuple #[.agg #[.int .i64 r1, .int .i64 r2, .int .i64 r3, .int .i64 r4, .int .i64 r5, .int .i64 r6], .int .i64 r7]) ∧ Below w.heap.size w w' := by
  have hmf : ∀ (fn : Fn) (first cap : Array Value) (w : World), (Instr.makeFunc fn first cap).run Try.prog w = .ok (.func fn first cap) w := fun _ _ _ _ => rfl
  have h0 : w.cell? (ad.add 0) = some (.int .u8 (rd l 0)) := hcell 0 hn
  have hn0 : ((n : Int) == 0) = false := by simp; omega
  have hne := World.new_ne w _ h0
  have hlt : ad.block < w.heap.size := World.block_lt_of_cell? w _ h0
  have hn1 : (0 : Int) < n := by omega
  have hd : Aside0 (decode_Of.f l = some (r1, r2, r3, r4, r5, r6, r7)) := ⟨h⟩
  clear h
  go_enter Try.func27, Try.ntmps27
  go_upto_block 0 with (go_at_call 46; refine (Of_at 0 _ ad n c0 (rd l 0) _ ?hb ?hc (Int.le_refl 0) hn1).mono ?_; (case hb => simp [go_sem]); (case hc => (repeat' first | assumption | refine of_old _ _ ?_ | refine of_far _ _ _ ?_ ?_)); rintro e w' ⟨rfl, rfl⟩)
  go_cut [6] (fun v6 wc => ∃ (k s i o : Int) (nd : Nat) (W : World), v6 = .int .i64 k ∧ wc = W.drewN nd ∧ OfF w ad n c0 s i o W ∧ (k = 1 ∨ k = 2) ∧ (k = 2 → 2 ≤ n) ∧ Aside0 (of_tail l k s i o = some (r1, r2, r3, r4, r5, r6, r7)))
  case first =>
    have hd := hd.out
    unfold decode_Of.f at hd
    rw [hnl, if_neg (by omega)] at hd
    obtain ⟨p, hl, hd⟩ := Option.bind_eq_some_iff.1 hd
    replace hl := Aside0.mk hl
    cases p
    case false =>
      rw [if_neg (by decide)] at hd
      by_cases g1 : wrap64 (rd l 0) = 203
      · rw [if_pos g1] at hd
        have g1b : (wrap64 (rd l 0) == 203) = true := by simp [g1]
        have g2b : (wrap64 (rd l 0) == 237) = false := by simp [g1]
        clear g1
        by_cases g3 : (n : Int) < 2
        · rw [if_pos g3] at hd
          obtain ⟨rfl, rfl, rfl, rfl, rfl, rfl, rfl⟩ := of_inj hd
          replace g3 := eq_true g3
          go_wp2_with (first
         | (go_at_call 47; refine (decode_lone.calls _ _ _ hl.out).mono ?_; rintro e w' ⟨rfl, ⟨nd1, rfl⟩⟩)
         | (go_at_call 47; refine (decode_lone.calls _ _ _ hl2.out).mono ?_; rintro e w' ⟨rfl, ⟨nd2, rfl⟩⟩)
         | (go_at_call 46; refine (Of_at 1 _ ad n c0 (rd l 1) _ ?hb ?hc (by decide) hn2).mono ?_; (case hb => simp [go_sem]); (case hc => (repeat' first | assumption | refine of_old _ _ ?_ | refine of_far _ _ _ ?_ ?_)); rintro e w' ⟨rfl, rfl⟩)
         | (go_at_call 46; refine (Of_at 3 _ ad n c0 (rd l 3) _ ?hb ?hc (by decide) hn4).mono ?_; (case hb => simp [go_sem]); (case hc => (repeat' first | assumption | refine of_old _ _ ?_ | refine of_far _ _ _ ?_ ?_)); rintro e w' ⟨rfl, rfl⟩))
          obtain ⟨hbel, hI0, hI1, hI2, hI3, hI4, hI5, hR0, hR1, hR2, hR3, hR4, hR5, hB0, hF, hold⟩ := ofF_ofW w ad n c0 0 0 (wrap64 (rd l 0))
          refine of_post rfl rfl rfl (by (repeat' with_reducible first | assumption | refine of_cdrew ?_ | refine of_cdrewN ?_ | refine of_same ?_ | refine of_is_set ?_ | refine of_is_drew ?_ | refine of_is_drewN ?_ | exact of_is (by assumption) | (refine of_other ?_ ?hn; case hn => simp))) (by (repeat' with_reducible first | assumption | refine of_cdrew ?_ | refine of_cdrewN ?_ | refine of_same ?_ | refine of_is_set ?_ | refine of_is_drew ?_ | refine of_is_drewN ?_ | exact of_is (by assumption) | (refine of_other ?_ ?hn; case hn => simp))) (by (repeat' with_reducible first | assumption | refine of_cdrew ?_ | refine of_cdrewN ?_ | refine of_same ?_ | refine of_is_set ?_ | refine of_is_drew ?_ | refine of_is_drewN ?_ | exact of_is (by assumption) | (refine of_other ?_ ?hn; case hn => simp))) (by (repeat' with_reducible first | assumption | refine of_cdrew ?_ | refine of_cdrewN ?_ | refine of_same ?_ | refine of_is_set ?_ | refine of_is_drew ?_ | refine of_is_drewN ?_ | exact of_is (by assumption) | (refine of_other ?_ ?hn; case hn => simp))) (by (repeat' with_reducible first | assumption | refine of_cdrew ?_ | refine of_cdrewN ?_ | refine of_same ?_ | refine of_is_set ?_ | refine of_is_drew ?_ | refine of_is_drewN ?_ | exact of_is (by assumption) | (refine of_other ?_ ?hn; case hn => simp))) (by (repeat' with_reducible first | assumption | refine of_cdrew ?_ | refine of_cdrewN ?_ | refine of_same ?_ | refine of_is_set ?_ | refine of_is_drew ?_ | refine of_is_drewN ?_ | exact of_is (by assumption) | (refine of_other ?_ ?hn; case hn => simp))) ⟨rfl, ?_⟩
          (repeat' with_reducible first | assumption | refine Below.drew ?_ | refine of_drewN _ ?_ | (refine Below.setCell ?_ ?hn _; case hn => (simp <;> omega)))
        rw [if_neg g3] at hd
        have h1 : w.cell? (ad.add 1) = some (.int .u8 (rd l 1)) := hcell 1 (by omega)
        have hn2 : (1 : Int) < n := by omega
        replace g3 := eq_false g3
        go_wp2_with (first
         | (go_at_call 47; refine (decode_lone.calls _ _ _ hl.out).mono ?_; rintro e w' ⟨rfl, ⟨nd1, rfl⟩⟩)
         | (go_at_call 47; refine (decode_lone.calls _ _ _ hl2.out).mono ?_; rintro e w' ⟨rfl, ⟨nd2, rfl⟩⟩)
         | (go_at_call 46; refine (Of_at 1 _ ad n c0 (rd l 1) _ ?hb ?hc (by decide) hn2).mono ?_; (case hb => simp [go_sem]); (case hc => (repeat' first | assumption | refine of_old _ _ ?_ | refine of_far _ _ _ ?_ ?_)); rintro e w' ⟨rfl, rfl⟩)
         | (go_at_call 46; refine (Of_at 3 _ ad n c0 (rd l 3) _ ?hb ?hc (by decide) hn4).mono ?_; (case hb => simp [go_sem]); (case hc => (repeat' first | assumption | refine of_old _ _ ?_ | refine of_far _ _ _ ?_ ?_)); rintro e w' ⟨rfl, rfl⟩))
        go_meet
        refine ⟨2, 1, 0, wrap64 (rd l 1), 0, _, rfl, (of_drew0 _).symm, ofF_set2 (wrap64 (rd l 1)) (ofF_set0 1 (ofF_drewN _ (ofF_ofW w ad n c0 0 0 (wrap64 (rd l 0))))), .inr rfl, fun _ => by omega, ⟨hd⟩⟩
      rw [if_neg g1] at hd
      have g1b : (wrap64 (rd l 0) == 203) = false := by simp [g1]
      by_cases g2 : wrap64 (rd l 0) = 237
      · rw [if_pos g2] at hd
        have g2b : (wrap64 (rd l 0) == 237) = true := by simp [g2]
        clear g1 g2
        by_cases g3 : (n : Int) < 2
        · rw [if_pos g3] at hd
          obtain ⟨rfl, rfl, rfl, rfl, rfl, rfl, rfl⟩ := of_inj hd
          replace g3 := eq_true g3
          go_wp2_with (first
         | (go_at_call 47; refine (decode_lone.calls _ _ _ hl.out).mono ?_; rintro e w' ⟨rfl, ⟨nd1, rfl⟩⟩)
         | (go_at_call 47; refine (decode_lone.calls _ _ _ hl2.out).mono ?_; rintro e w' ⟨rfl, ⟨nd2, rfl⟩⟩)
         | (go_at_call 46; refine (Of_at 1 _ ad n c0 (rd l 1) _ ?hb ?hc (by decide) hn2).mono ?_; (case hb => simp [go_sem]); (case hc => (repeat' first | assumption | refine of_old _ _ ?_ | refine of_far _ _ _ ?_ ?_)); rintro e w' ⟨rfl, rfl⟩)
         | (go_at_call 46; refine (Of_at 3 _ ad n c0 (rd l 3) _ ?hb ?hc (by decide) hn4).mono ?_; (case hb => simp [go_sem]); (case hc => (repeat' first | assumption | refine of_old _ _ ?_ | refine of_far _ _ _ ?_ ?_)); rintro e w' ⟨rfl, rfl⟩))
          obtain ⟨hbel, hI0, hI1, hI2, hI3, hI4, hI5, hR0, hR1, hR2, hR3, hR4, hR5, hB0, hF, hold⟩ := ofF_ofW w ad n c0 0 0 (wrap64 (rd l 0))
          refine of_post rfl rfl rfl (by (repeat' with_reducible first | assumption | refine of_cdrew ?_ | refine of_cdrewN ?_ | refine of_same ?_ | refine of_is_set ?_ | refine of_is_drew ?_ | refine of_is_drewN ?_ | exact of_is (by assumption) | (refine of_other ?_ ?hn; case hn => simp))) (by (repeat' with_reducible first | assumption | refine of_cdrew ?_ | refine of_cdrewN ?_ | refine of_same ?_ | refine of_is_set ?_ | refine of_is_drew ?_ | refine of_is_drewN ?_ | exact of_is (by assumption) | (refine of_other ?_ ?hn; case hn => simp))) (by (repeat' with_reducible first | assumption | refine of_cdrew ?_ | refine of_cdrewN ?_ | refine of_same ?_ | refine of_is_set ?_ | refine of_is_drew ?_ | refine of_is_drewN ?_ | exact of_is (by assumption) | (refine of_other ?_ ?hn; case hn => simp))) (by (repeat' with_reducible first | assumption | refine of_cdrew ?_ | refine of_cdrewN ?_ | refine of_same ?_ | refine of_is_set ?_ | refine of_is_drew ?_ | refine of_is_drewN ?_ | exact of_is (by assumption) | (refine of_other ?_ ?hn; case hn => simp))) (by (repeat' with_reducible first | assumption | refine of_cdrew ?_ | refine of_cdrewN ?_ | refine of_same ?_ | refine of_is_set ?_ | refine of_is_drew ?_ | refine of_is_drewN ?_ | exact of_is (by assumption) | (refine of_other ?_ ?hn; case hn => simp))) (by (repeat' with_reducible first | assumption | refine of_cdrew ?_ | refine of_cdrewN ?_ | refine of_same ?_ | refine of_is_set ?_ | refine of_is_drew ?_ | refine of_is_drewN ?_ | exact of_is (by assumption) | (refine of_other ?_ ?hn; case hn => simp))) ⟨rfl, ?_⟩
          (repeat' with_reducible first | assumption | refine Below.drew ?_ | refine of_drewN _ ?_ | (refine Below.setCell ?_ ?hn _; case hn => (simp <;> omega)))
        rw [if_neg g3] at hd
        have h1 : w.cell? (ad.add 1) = some (.int .u8 (rd l 1)) := hcell 1 (by omega)
        have hn2 : (1 : Int) < n := by omega
        replace g3 := eq_false g3
        go_wp2_with (first
         | (go_at_call 47; refine (decode_lone.calls _ _ _ hl.out).mono ?_; rintro e w' ⟨rfl, ⟨nd1, rfl⟩⟩)
         | (go_at_call 47; refine (decode_lone.calls _ _ _ hl2.out).mono ?_; rintro e w' ⟨rfl, ⟨nd2, rfl⟩⟩)
         | (go_at_call 46; refine (Of_at 1 _ ad n c0 (rd l 1) _ ?hb ?hc (by decide) hn2).mono ?_; (case hb => simp [go_sem]); (case hc => (repeat' first | assumption | refine of_old _ _ ?_ | refine of_far _ _ _ ?_ ?_)); rintro e w' ⟨rfl, rfl⟩)
         | (go_at_call 46; refine (Of_at 3 _ ad n c0 (rd l 3) _ ?hb ?hc (by decide) hn4).mono ?_; (case hb => simp [go_sem]); (case hc => (repeat' first | assumption | refine of_old _ _ ?_ | refine of_far _ _ _ ?_ ?_)); rintro e w' ⟨rfl, rfl⟩))
        go_meet
        refine ⟨2, 2, 0, wrap64 (rd l 1), 0, _, rfl, (of_drew0 _).symm, ofF_set0 2 (ofF_set2 (wrap64 (rd l 1)) (ofF_set0 1 (ofF_drewN _ (ofF_ofW w ad n c0 0 0 (wrap64 (rd l 0)))))), .inr rfl, fun _ => by omega, ⟨hd⟩⟩
      rw [if_neg g2] at hd
      have g2b : (wrap64 (rd l 0) == 237) = false := by simp [g2]
      clear g1 g2
      go_wp2_with (first
         | (go_at_call 47; refine (decode_lone.calls _ _ _ hl.out).mono ?_; rintro e w' ⟨rfl, ⟨nd1, rfl⟩⟩)
         | (go_at_call 47; refine (decode_lone.calls _ _ _ hl2.out).mono ?_; rintro e w' ⟨rfl, ⟨nd2, rfl⟩⟩)
         | (go_at_call 46; refine (Of_at 1 _ ad n c0 (rd l 1) _ ?hb ?hc (by decide) hn2).mono ?_; (case hb => simp [go_sem]); (case hc => (repeat' first | assumption | refine of_old _ _ ?_ | refine of_far _ _ _ ?_ ?_)); rintro e w' ⟨rfl, rfl⟩)
         | (go_at_call 46; refine (Of_at 3 _ ad n c0 (rd l 3) _ ?hb ?hc (by decide) hn4).mono ?_; (case hb => simp [go_sem]); (case hc => (repeat' first | assumption | refine of_old _ _ ?_ | refine of_far _ _ _ ?_ ?_)); rintro e w' ⟨rfl, rfl⟩))
      go_meet
      exact ⟨1, 0, 0, wrap64 (rd l 0), _, _, rfl, rfl, ofF_ofW w ad n c0 0 0 _, .inl rfl, fun h => absurd h (by decide), ⟨hd⟩⟩
    case true =>
      rw [if_pos rfl] at hd
      by_cases g3 : (n : Int) < 2
      · rw [if_pos g3] at hd
        obtain ⟨rfl, rfl, rfl, rfl, rfl, rfl, rfl⟩ := of_inj hd
        replace g3 := eq_true g3
        go_wp2_with (first
         | (go_at_call 47; refine (decode_lone.calls _ _ _ hl.out).mono ?_; rintro e w' ⟨rfl, ⟨nd1, rfl⟩⟩)
         | (go_at_call 47; refine (decode_lone.calls _ _ _ hl2.out).mono ?_; rintro e w' ⟨rfl, ⟨nd2, rfl⟩⟩)
         | (go_at_call 46; refine (Of_at 1 _ ad n c0 (rd l 1) _ ?hb ?hc (by decide) hn2).mono ?_; (case hb => simp [go_sem]); (case hc => (repeat' first | assumption | refine of_old _ _ ?_ | refine of_far _ _ _ ?_ ?_)); rintro e w' ⟨rfl, rfl⟩)
         | (go_at_call 46; refine (Of_at 3 _ ad n c0 (rd l 3) _ ?hb ?hc (by decide) hn4).mono ?_; (case hb => simp [go_sem]); (case hc => (repeat' first | assumption | refine of_old _ _ ?_ | refine of_far _ _ _ ?_ ?_)); rintro e w' ⟨rfl, rfl⟩))
        obtain ⟨hbel, hI0, hI1, hI2, hI3, hI4, hI5, hR0, hR1, hR2, hR3, hR4, hR5, hB0, hF, hold⟩ := ofF_ofW w ad n c0 0 0 (wrap64 (rd l 0))
        refine of_post rfl rfl rfl (by (repeat' with_reducible first | assumption | refine of_cdrew ?_ | refine of_cdrewN ?_ | refine of_same ?_ | refine of_is_set ?_ | refine of_is_drew ?_ | refine of_is_drewN ?_ | exact of_is (by assumption) | (refine of_other ?_ ?hn; case hn => simp))) (by (repeat' with_reducible first | assumption | refine of_cdrew ?_ | refine of_cdrewN ?_ | refine of_same ?_ | refine of_is_set ?_ | refine of_is_drew ?_ | refine of_is_drewN ?_ | exact of_is (by assumption) | (refine of_other ?_ ?hn; case hn => simp))) (by (repeat' with_reducible first | assumption | refine of_cdrew ?_ | refine of_cdrewN ?_ | refine of_same ?_ | refine of_is_set ?_ | refine of_is_drew ?_ | refine of_is_drewN ?_ | exact of_is (by assumption) | (refine of_other ?_ ?hn; case hn => simp))) (by (repeat' with_reducible first | assumption | refine of_cdrew ?_ | refine of_cdrewN ?_ | refine of_same ?_ | refine of_is_set ?_ | refine of_is_drew ?_ | refine of_is_drewN ?_ | exact of_is (by assumption) | (refine of_other ?_ ?hn; case hn => simp))) (by (repeat' with_reducible first | assumption | refine of_cdrew ?_ | refine of_cdrewN ?_ | refine of_same ?_ | refine of_is_set ?_ | refine of_is_drew ?_ | refine of_is_drewN ?_ | exact of_is (by assumption) | (refine of_other ?_ ?hn; case hn => simp))) (by (repeat' with_reducible first | assumption | refine of_cdrew ?_ | refine of_cdrewN ?_ | refine of_same ?_ | refine of_is_set ?_ | refine of_is_drew ?_ | refine of_is_drewN ?_ | exact of_is (by assumption) | (refine of_other ?_ ?hn; case hn => simp))) ⟨rfl, ?_⟩
        (repeat' with_reducible first | assumption | refine Below.drew ?_ | refine of_drewN _ ?_ | (refine Below.setCell ?_ ?hn _; case hn => (simp <;> omega)))
      rw [if_neg g3] at hd
      have h1 : w.cell? (ad.add 1) = some (.int .u8 (rd l 1)) := hcell 1 (by omega)
      have hn2 : (1 : Int) < n := by omega
      replace g3 := eq_false g3
      obtain ⟨q, hl2, hd⟩ := Option.bind_eq_some_iff.1 hd
      replace hl2 := Aside0.mk hl2
      cases q
      case true =>
        rw [if_pos rfl] at hd
        obtain ⟨rfl, rfl, rfl, rfl, rfl, rfl, rfl⟩ := of_inj hd
        go_wp2_with (first
         | (go_at_call 47; refine (decode_lone.calls _ _ _ hl.out).mono ?_; rintro e w' ⟨rfl, ⟨nd1, rfl⟩⟩)
         | (go_at_call 47; refine (decode_lone.calls _ _ _ hl2.out).mono ?_; rintro e w' ⟨rfl, ⟨nd2, rfl⟩⟩)
         | (go_at_call 46; refine (Of_at 1 _ ad n c0 (rd l 1) _ ?hb ?hc (by decide) hn2).mono ?_; (case hb => simp [go_sem]); (case hc => (repeat' first | assumption | refine of_old _ _ ?_ | refine of_far _ _ _ ?_ ?_)); rintro e w' ⟨rfl, rfl⟩)
         | (go_at_call 46; refine (Of_at 3 _ ad n c0 (rd l 3) _ ?hb ?hc (by decide) hn4).mono ?_; (case hb => simp [go_sem]); (case hc => (repeat' first | assumption | refine of_old _ _ ?_ | refine of_far _ _ _ ?_ ?_)); rintro e w' ⟨rfl, rfl⟩))
        obtain ⟨hbel, hI0, hI1, hI2, hI3, hI4, hI5, hR0, hR1, hR2, hR3, hR4, hR5, hB0, hF, hold⟩ := ofF_ofW w ad n c0 0 0 (wrap64 (rd l 0))
        refine of_post rfl rfl rfl (by (repeat' with_reducible first | assumption | refine of_cdrew ?_ | refine of_cdrewN ?_ | refine of_same ?_ | refine of_is_set ?_ | refine of_is_drew ?_ | refine of_is_drewN ?_ | exact of_is (by assumption) | (refine of_other ?_ ?hn; case hn => simp))) (by (repeat' with_reducible first | assumption | refine of_cdrew ?_ | refine of_cdrewN ?_ | refine of_same ?_ | refine of_is_set ?_ | refine of_is_drew ?_ | refine of_is_drewN ?_ | exact of_is (by assumption) | (refine of_other ?_ ?hn; case hn => simp))) (by (repeat' with_reducible first | assumption | refine of_cdrew ?_ | refine of_cdrewN ?_ | refine of_same ?_ | refine of_is_set ?_ | refine of_is_drew ?_ | refine of_is_drewN ?_ | exact of_is (by assumption) | (refine of_other ?_ ?hn; case hn => simp))) (by (repeat' with_reducible first | assumption | refine of_cdrew ?_ | refine of_cdrewN ?_ | refine of_same ?_ | refine of_is_set ?_ | refine of_is_drew ?_ | refine of_is_drewN ?_ | exact of_is (by assumption) | (refine of_other ?_ ?hn; case hn => simp))) (by (repeat' with_reducible first | assumption | refine of_cdrew ?_ | refine of_cdrewN ?_ | refine of_same ?_ | refine of_is_set ?_ | refine of_is_drew ?_ | refine of_is_drewN ?_ | exact of_is (by assumption) | (refine of_other ?_ ?hn; case hn => simp))) (by (repeat' with_reducible first | assumption | refine of_cdrew ?_ | refine of_cdrewN ?_ | refine of_same ?_ | refine of_is_set ?_ | refine of_is_drew ?_ | refine of_is_drewN ?_ | exact of_is (by assumption) | (refine of_other ?_ ?hn; case hn => simp))) ⟨rfl, ?_⟩
        (repeat' with_reducible first | assumption | refine Below.drew ?_ | refine of_drewN _ ?_ | (refine Below.setCell ?_ ?hn _; case hn => (simp <;> omega)))
      case false =>
        rw [if_neg (by decide)] at hd
        by_cases g4 : wrap64 (rd l 1) = 237
        · rw [if_pos g4] at hd
          obtain ⟨rfl, rfl, rfl, rfl, rfl, rfl, rfl⟩ := of_inj hd
          have g4b : (wrap64 (rd l 1) == 237) = true := by simp [g4]
          clear g4
          go_wp2_with (first
         | (go_at_call 47; refine (decode_lone.calls _ _ _ hl.out).mono ?_; rintro e w' ⟨rfl, ⟨nd1, rfl⟩⟩)
         | (go_at_call 47; refine (decode_lone.calls _ _ _ hl2.out).mono ?_; rintro e w' ⟨rfl, ⟨nd2, rfl⟩⟩)
         | (go_at_call 46; refine (Of_at 1 _ ad n c0 (rd l 1) _ ?hb ?hc (by decide) hn2).mono ?_; (case hb => simp [go_sem]); (case hc => (repeat' first | assumption | refine of_old _ _ ?_ | refine of_far _ _ _ ?_ ?_)); rintro e w' ⟨rfl, rfl⟩)
         | (go_at_call 46; refine (Of_at 3 _ ad n c0 (rd l 3) _ ?hb ?hc (by decide) hn4).mono ?_; (case hb => simp [go_sem]); (case hc => (repeat' first | assumption | refine of_old _ _ ?_ | refine of_far _ _ _ ?_ ?_)); rintro e w' ⟨rfl, rfl⟩))
          obtain ⟨hbel, hI0, hI1, hI2, hI3, hI4, hI5, hR0, hR1, hR2, hR3, hR4, hR5, hB0, hF, hold⟩ := ofF_ofW w ad n c0 0 0 (wrap64 (rd l 0))
          refine of_post rfl rfl rfl (by (repeat' with_reducible first | assumption | refine of_cdrew ?_ | refine of_cdrewN ?_ | refine of_same ?_ | refine of_is_set ?_ | refine of_is_drew ?_ | refine of_is_drewN ?_ | exact of_is (by assumption) | (refine of_other ?_ ?hn; case hn => simp))) (by (repeat' with_reducible first | assumption | refine of_cdrew ?_ | refine of_cdrewN ?_ | refine of_same ?_ | refine of_is_set ?_ | refine of_is_drew ?_ | refine of_is_drewN ?_ | exact of_is (by assumption) | (refine of_other ?_ ?hn; case hn => simp))) (by (repeat' with_reducible first | assumption | refine of_cdrew ?_ | refine of_cdrewN ?_ | refine of_same ?_ | refine of_is_set ?_ | refine of_is_drew ?_ | refine of_is_drewN ?_ | exact of_is (by assumption) | (refine of_other ?_ ?hn; case hn => simp))) (by (repeat' with_reducible first | assumption | refine of_cdrew ?_ | refine of_cdrewN ?_ | refine of_same ?_ | refine of_is_set ?_ | refine of_is_drew ?_ | refine of_is_drewN ?_ | exact of_is (by assumption) | (refine of_other ?_ ?hn; case hn => simp))) (by (repeat' with_reducible first | assumption | refine of_cdrew ?_ | refine of_cdrewN ?_ | refine of_same ?_ | refine of_is_set ?_ | refine of_is_drew ?_ | refine of_is_drewN ?_ | exact of_is (by assumption) | (refine of_other ?_ ?hn; case hn => simp))) (by (repeat' with_reducible first | assumption | refine of_cdrew ?_ | refine of_cdrewN ?_ | refine of_same ?_ | refine of_is_set ?_ | refine of_is_drew ?_ | refine of_is_drewN ?_ | exact of_is (by assumption) | (refine of_other ?_ ?hn; case hn => simp))) ⟨rfl, ?_⟩
          (repeat' with_reducible first | assumption | refine Below.drew ?_ | refine of_drewN _ ?_ | (refine Below.setCell ?_ ?hn _; case hn => (simp <;> omega)))
        rw [if_neg g4] at hd
        have g4b : (wrap64 (rd l 1) == 237) = false := by simp [g4]
        clear g4
        by_cases g5 : wrap64 (rd l 1) = 203
        · rw [if_pos g5] at hd
          have g5b : (wrap64 (rd l 1) == 203) = true := by simp [g5]
          clear g5
          by_cases g6 : (n : Int) < 4
          · rw [if_pos g6] at hd
            obtain ⟨rfl, rfl, rfl, rfl, rfl, rfl, rfl⟩ := of_inj hd
            replace g6 := eq_true g6
            by_cases g7 : wrap64 (rd l 0) = 253
            · have g7b : (wrap64 (rd l 0) == 253) = true := by simp [g7]
              clear g7
              go_wp2_with (first
         | (go_at_call 47; refine (decode_lone.calls _ _ _ hl.out).mono ?_; rintro e w' ⟨rfl, ⟨nd1, rfl⟩⟩)
         | (go_at_call 47; refine (decode_lone.calls _ _ _ hl2.out).mono ?_; rintro e w' ⟨rfl, ⟨nd2, rfl⟩⟩)
         | (go_at_call 46; refine (Of_at 1 _ ad n c0 (rd l 1) _ ?hb ?hc (by decide) hn2).mono ?_; (case hb => simp [go_sem]); (case hc => (repeat' first | assumption | refine of_old _ _ ?_ | refine of_far _ _ _ ?_ ?_)); rintro e w' ⟨rfl, rfl⟩)
         | (go_at_call 46; refine (Of_at 3 _ ad n c0 (rd l 3) _ ?hb ?hc (by decide) hn4).mono ?_; (case hb => simp [go_sem]); (case hc => (repeat' first | assumption | refine of_old _ _ ?_ | refine of_far _ _ _ ?_ ?_)); rintro e w' ⟨rfl, rfl⟩))
              obtain ⟨hbel, hI0, hI1, hI2, hI3, hI4, hI5, hR0, hR1, hR2, hR3, hR4, hR5, hB0, hF, hold⟩ := ofF_ofW w ad n c0 0 0 (wrap64 (rd l 0))
              refine of_post rfl rfl rfl (by (repeat' with_reducible first | assumption | refine of_cdrew ?_ | refine of_cdrewN ?_ | refine of_same ?_ | refine of_is_set ?_ | refine of_is_drew ?_ | refine of_is_drewN ?_ | exact of_is (by assumption) | (refine of_other ?_ ?hn; case hn => simp))) (by (repeat' with_reducible first | assumption | refine of_cdrew ?_ | refine of_cdrewN ?_ | refine of_same ?_ | refine of_is_set ?_ | refine of_is_drew ?_ | refine of_is_drewN ?_ | exact of_is (by assumption) | (refine of_other ?_ ?hn; case hn => simp))) (by (repeat' with_reducible first | assumption | refine of_cdrew ?_ | refine of_cdrewN ?_ | refine of_same ?_ | refine of_is_set ?_ | refine of_is_drew ?_ | refine of_is_drewN ?_ | exact of_is (by assumption) | (refine of_other ?_ ?hn; case hn => simp))) (by (repeat' with_reducible first | assumption | refine of_cdrew ?_ | refine of_cdrewN ?_ | refine of_same ?_ | refine of_is_set ?_ | refine of_is_drew ?_ | refine of_is_drewN ?_ | exact of_is (by assumption) | (refine of_other ?_ ?hn; case hn => simp))) (by (repeat' with_reducible first | assumption | refine of_cdrew ?_ | refine of_cdrewN ?_ | refine of_same ?_ | refine of_is_set ?_ | refine of_is_drew ?_ | refine of_is_drewN ?_ | exact of_is (by assumption) | (refine of_other ?_ ?hn; case hn => simp))) (by (repeat' with_reducible first | assumption | refine of_cdrew ?_ | refine of_cdrewN ?_ | refine of_same ?_ | refine of_is_set ?_ | refine of_is_drew ?_ | refine of_is_drewN ?_ | exact of_is (by assumption) | (refine of_other ?_ ?hn; case hn => simp))) ⟨rfl, ?_⟩
              (repeat' with_reducible first | assumption | refine Below.drew ?_ | refine of_drewN _ ?_ | (refine Below.setCell ?_ ?hn _; case hn => (simp <;> omega)))
            · have g7b : (wrap64 (rd l 0) == 253) = false := by simp [g7]
              clear g7
              go_wp2_with (first
         | (go_at_call 47; refine (decode_lone.calls _ _ _ hl.out).mono ?_; rintro e w' ⟨rfl, ⟨nd1, rfl⟩⟩)
         | (go_at_call 47; refine (decode_lone.calls _ _ _ hl2.out).mono ?_; rintro e w' ⟨rfl, ⟨nd2, rfl⟩⟩)
         | (go_at_call 46; refine (Of_at 1 _ ad n c0 (rd l 1) _ ?hb ?hc (by decide) hn2).mono ?_; (case hb => simp [go_sem]); (case hc => (repeat' first | assumption | refine of_old _ _ ?_ | refine of_far _ _ _ ?_ ?_)); rintro e w' ⟨rfl, rfl⟩)
         | (go_at_call 46; refine (Of_at 3 _ ad n c0 (rd l 3) _ ?hb ?hc (by decide) hn4).mono ?_; (case hb => simp [go_sem]); (case hc => (repeat' first | assumption | refine of_old _ _ ?_ | refine of_far _ _ _ ?_ ?_)); rintro e w' ⟨rfl, rfl⟩))
              obtain ⟨hbel, hI0, hI1, hI2, hI3, hI4, hI5, hR0, hR1, hR2, hR3, hR4, hR5, hB0, hF, hold⟩ := ofF_ofW w ad n c0 0 0 (wrap64 (rd l 0))
              refine of_post rfl rfl rfl (by (repeat' with_reducible first | assumption | refine of_cdrew ?_ | refine of_cdrewN ?_ | refine of_same ?_ | refine of_is_set ?_ | refine of_is_drew ?_ | refine of_is_drewN ?_ | exact of_is (by assumption) | (refine of_other ?_ ?hn; case hn => simp))) (by (repeat' with_reducible first | assumption | refine of_cdrew ?_ | refine of_cdrewN ?_ | refine of_same ?_ | refine of_is_set ?_ | refine of_is_drew ?_ | refine of_is_drewN ?_ | exact of_is (by assumption) | (refine of_other ?_ ?hn; case hn => simp))) (by (repeat' with_reducible first | assumption | refine of_cdrew ?_ | refine of_cdrewN ?_ | refine of_same ?_ | refine of_is_set ?_ | refine of_is_drew ?_ | refine of_is_drewN ?_ | exact of_is (by assumption) | (refine of_other ?_ ?hn; case hn => simp))) (by (repeat' with_reducible first | assumption | refine of_cdrew ?_ | refine of_cdrewN ?_ | refine of_same ?_ | refine of_is_set ?_ | refine of_is_drew ?_ | refine of_is_drewN ?_ | exact of_is (by assumption) | (refine of_other ?_ ?hn; case hn => simp))) (by (repeat' with_reducible first | assumption | refine of_cdrew ?_ | refine of_cdrewN ?_ | refine of_same ?_ | refine of_is_set ?_ | refine of_is_drew ?_ | refine of_is_drewN ?_ | exact of_is (by assumption) | (refine of_other ?_ ?hn; case hn => simp))) (by (repeat' with_reducible first | assumption | refine of_cdrew ?_ | refine of_cdrewN ?_ | refine of_same ?_ | refine of_is_set ?_ | refine of_is_drew ?_ | refine of_is_drewN ?_ | exact of_is (by assumption) | (refine of_other ?_ ?hn; case hn => simp))) ⟨rfl, ?_⟩
              (repeat' with_reducible first | assumption | refine Below.drew ?_ | refine of_drewN _ ?_ | (refine Below.setCell ?_ ?hn _; case hn => (simp <;> omega)))
          rw [if_neg g6] at hd
          have h2 : w.cell? (ad.add 2) = some (.int .u8 (rd l 2)) := hcell 2 (by omega)
          have h3 : w.cell? (ad.add 3) = some (.int .u8 (rd l 3)) := hcell 3 (by omega)
          have hn4 : (3 : Int) < n := by omega
          have hn3 : ((2 : Int) < n) = True := eq_true (by omega)
          replace g6 := eq_false g6
          by_cases g7 : wrap64 (rd l 0) = 253
          · rw [if_pos g7] at hd
            obtain ⟨rfl, rfl, rfl, rfl, rfl, rfl, rfl⟩ := of_inj hd
            have g7b : (wrap64 (rd l 0) == 253) = true := by simp [g7]
            clear g7
            go_upto_region 21 with (first
         | (go_at_call 47; refine (decode_lone.calls _ _ _ hl.out).mono ?_; rintro e w' ⟨rfl, ⟨nd1, rfl⟩⟩)
         | (go_at_call 47; refine (decode_lone.calls _ _ _ hl2.out).mono ?_; rintro e w' ⟨rfl, ⟨nd2, rfl⟩⟩)
         | (go_at_call 46; refine (Of_at 1 _ ad n c0 (rd l 1) _ ?hb ?hc (by decide) hn2).mono ?_; (case hb => simp [go_sem]); (case hc => (repeat' first | assumption | refine of_old _ _ ?_ | refine of_far _ _ _ ?_ ?_)); rintro e w' ⟨rfl, rfl⟩)
         | (go_at_call 46; refine (Of_at 3 _ ad n c0 (rd l 3) _ ?hb ?hc (by decide) hn4).mono ?_; (case hb => simp [go_sem]); (case hc => (repeat' first | assumption | refine of_old _ _ ?_ | refine of_far _ _ _ ?_ ?_)); rintro e w' ⟨rfl, rfl⟩))
            refine of_gen (P := fun V => Code.wp Try.prog _ _ _ V) (ofF_set1 2 (ofF_set1 1 (ofF_drewN _ (ofF_ofW w ad n c0 0 0 (wrap64 (rd l 0)))))) ?_
            intro W hW
            refine wp_region_still_tail 10 (by kernel_rfl) (by kernel_rfl) ?_
            refine of_gen (P := fun V => wpStill Try.prog _ V (fun a' => wpList Try.prog _ _ _ a' V) _ _) (ofF_drewN 1 hW) ?_
            clear hW W
            rintro W ⟨hbel, hI0, hI1, hI2, hI3, hI4, hI5, hR0, hR1, hR2, hR3, hR4, hR5, hB0, hF, hold⟩
            have hF0 := hF (w.heap.size + 1) 0 (.inl rfl)
            have hF1 := hF (w.heap.size + 1) 1 (.inl rfl)
            have hF2 := hF (w.heap.size + 1) 2 (.inl rfl)
            have hF3 := hF (w.heap.size + 1) 3 (.inl rfl)
            have hF4 := hF (w.heap.size + 1) 4 (.inl rfl)
            have hF5 := hF (w.heap.size + 1) 5 (.inl rfl)
            have hc2 : W.cell? ⟨ad.block, ad.off + 2, none⟩ = some (.int .u8 (rd l 2)) := hold _ _ h2
            have hc3 := hold _ _ h3
            clear hF
            simp only [List.take_succ_cons, List.take_zero, List.drop_succ_cons, List.drop_zero]
            repeat still_step
            still_call ((Of_at 3 _ ad n c0 (rd l 3) _ hB0 hc3 (by decide) hn4).mono (fun e w' h => ⟨h.1, h.2.symm⟩))
            repeat still_step
            refine wpStill_nil ?_
            go_wp2
            refine of_post rfl rfl rfl (by (repeat' with_reducible first | assumption | refine of_cdrew ?_ | refine of_cdrewN ?_ | refine of_same ?_ | refine of_is_set ?_ | refine of_is_drew ?_ | refine of_is_drewN ?_ | exact of_is (by assumption) | (refine of_other ?_ ?hn; case hn => simp))) (by (repeat' with_reducible first | assumption | refine of_cdrew ?_ | refine of_cdrewN ?_ | refine of_same ?_ | refine of_is_set ?_ | refine of_is_drew ?_ | refine of_is_drewN ?_ | exact of_is (by assumption) | (refine of_other ?_ ?hn; case hn => simp))) (by (repeat' with_reducible first | assumption | refine of_cdrew ?_ | refine of_cdrewN ?_ | refine of_same ?_ | refine of_is_set ?_ | refine of_is_drew ?_ | refine of_is_drewN ?_ | exact of_is (by assumption) | (refine of_other ?_ ?hn; case hn => simp))) (by (repeat' with_reducible first | assumption | refine of_cdrew ?_ | refine of_cdrewN ?_ | refine of_same ?_ | refine of_is_set ?_ | refine of_is_drew ?_ | refine of_is_drewN ?_ | exact of_is (by assumption) | (refine of_other ?_ ?hn; case hn => simp))) (by (repeat' with_reducible first | assumption | refine of_cdrew ?_ | refine of_cdrewN ?_ | refine of_same ?_ | refine of_is_set ?_ | refine of_is_drew ?_ | refine of_is_drewN ?_ | exact of_is (by assumption) | (refine of_other ?_ ?hn; case hn => simp))) (by (repeat' with_reducible first | assumption | refine of_cdrew ?_ | refine of_cdrewN ?_ | refine of_same ?_ | refine of_is_set ?_ | refine of_is_drew ?_ | refine of_is_drewN ?_ | exact of_is (by assumption) | (refine of_other ?_ ?hn; case hn => simp))) ⟨rfl, ?_⟩
            (repeat' with_reducible first | assumption | refine Below.drew ?_ | refine of_drewN _ ?_ | (refine Below.setCell ?_ ?hn _; case hn => (simp <;> omega)))
          · rw [if_neg g7] at hd
            obtain ⟨rfl, rfl, rfl, rfl, rfl, rfl, rfl⟩ := of_inj hd
            have g7b : (wrap64 (rd l 0) == 253) = false := by simp [g7]
            clear g7
            go_upto_region 21 with (first
         | (go_at_call 47; refine (decode_lone.calls _ _ _ hl.out).mono ?_; rintro e w' ⟨rfl, ⟨nd1, rfl⟩⟩)
         | (go_at_call 47; refine (decode_lone.calls _ _ _ hl2.out).mono ?_; rintro e w' ⟨rfl, ⟨nd2, rfl⟩⟩)
         | (go_at_call 46; refine (Of_at 1 _ ad n c0 (rd l 1) _ ?hb ?hc (by decide) hn2).mono ?_; (case hb => simp [go_sem]); (case hc => (repeat' first | assumption | refine of_old _ _ ?_ | refine of_far _ _ _ ?_ ?_)); rintro e w' ⟨rfl, rfl⟩)
         | (go_at_call 46; refine (Of_at 3 _ ad n c0 (rd l 3) _ ?hb ?hc (by decide) hn4).mono ?_; (case hb => simp [go_sem]); (case hc => (repeat' first | assumption | refine of_old _ _ ?_ | refine of_far _ _ _ ?_ ?_)); rintro e w' ⟨rfl, rfl⟩))
            refine of_gen (P := fun V => Code.wp Try.prog _ _ _ V) (ofF_set1 1 (ofF_drewN _ (ofF_ofW w ad n c0 0 0 (wrap64 (rd l 0))))) ?_
            intro W hW
            refine wp_region_still_tail 10 (by kernel_rfl) (by kernel_rfl) ?_
            refine of_gen (P := fun V => wpStill Try.prog _ V (fun a' => wpList Try.prog _ _ _ a' V) _ _) (ofF_drewN 1 hW) ?_
            clear hW W
            rintro W ⟨hbel, hI0, hI1, hI2, hI3, hI4, hI5, hR0, hR1, hR2, hR3, hR4, hR5, hB0, hF, hold⟩
            have hF0 := hF (w.heap.size + 1) 0 (.inl rfl)
            have hF1 := hF (w.heap.size + 1) 1 (.inl rfl)
            have hF2 := hF (w.heap.size + 1) 2 (.inl rfl)
            have hF3 := hF (w.heap.size + 1) 3 (.inl rfl)
            have hF4 := hF (w.heap.size + 1) 4 (.inl rfl)
            have hF5 := hF (w.heap.size + 1) 5 (.inl rfl)
            have hc2 : W.cell? ⟨ad.block, ad.off + 2, none⟩ = some (.int .u8 (rd l 2)) := hold _ _ h2
            have hc3 := hold _ _ h3
            clear hF
            simp only [List.take_succ_cons, List.take_zero, List.drop_succ_cons, List.drop_zero]
            repeat still_step
            still_call ((Of_at 3 _ ad n c0 (rd l 3) _ hB0 hc3 (by decide) hn4).mono (fun e w' h => ⟨h.1, h.2.symm⟩))
            repeat still_step
            refine wpStill_nil ?_
            go_wp2
            refine of_post rfl rfl rfl (by (repeat' with_reducible first | assumption | refine of_cdrew ?_ | refine of_cdrewN ?_ | refine of_same ?_ | refine of_is_set ?_ | refine of_is_drew ?_ | refine of_is_drewN ?_ | exact of_is (by assumption) | (refine of_other ?_ ?hn; case hn => simp))) (by (repeat' with_reducible first | assumption | refine of_cdrew ?_ | refine of_cdrewN ?_ | refine of_same ?_ | refine of_is_set ?_ | refine of_is_drew ?_ | refine of_is_drewN ?_ | exact of_is (by assumption) | (refine of_other ?_ ?hn; case hn => simp))) (by (repeat' with_reducible first | assumption | refine of_cdrew ?_ | refine of_cdrewN ?_ | refine of_same ?_ | refine of_is_set ?_ | refine of_is_drew ?_ | refine of_is_drewN ?_ | exact of_is (by assumption) | (refine of_other ?_ ?hn; case hn => simp))) (by (repeat' with_reducible first | assumption | refine of_cdrew ?_ | refine of_cdrewN ?_ | refine of_same ?_ | refine of_is_set ?_ | refine of_is_drew ?_ | refine of_is_drewN ?_ | exact of_is (by assumption) | (refine of_other ?_ ?hn; case hn => simp))) (by (repeat' with_reducible first | assumption | refine of_cdrew ?_ | refine of_cdrewN ?_ | refine of_same ?_ | refine of_is_set ?_ | refine of_is_drew ?_ | refine of_is_drewN ?_ | exact of_is (by assumption) | (refine of_other ?_ ?hn; case hn => simp))) (by (repeat' with_reducible first | assumption | refine of_cdrew ?_ | refine of_cdrewN ?_ | refine of_same ?_ | refine of_is_set ?_ | refine of_is_drew ?_ | refine of_is_drewN ?_ | exact of_is (by assumption) | (refine of_other ?_ ?hn; case hn => simp))) ⟨rfl, ?_⟩
            (repeat' with_reducible first | assumption | refine Below.drew ?_ | refine of_drewN _ ?_ | (refine Below.setCell ?_ ?hn _; case hn => (simp <;> omega)))
        rw [if_neg g5] at hd
        have g5b : (wrap64 (rd l 1) == 203) = false := by simp [g5]
        clear g5
        by_cases g7 : wrap64 (rd l 0) = 253
        · rw [if_pos g7] at hd
          have g7b : (wrap64 (rd l 0) == 253) = true := by simp [g7]
          clear g7
          go_wp2_with (first
         | (go_at_call 47; refine (decode_lone.calls _ _ _ hl.out).mono ?_; rintro e w' ⟨rfl, ⟨nd1, rfl⟩⟩)
         | (go_at_call 47; refine (decode_lone.calls _ _ _ hl2.out).mono ?_; rintro e w' ⟨rfl, ⟨nd2, rfl⟩⟩)
         | (go_at_call 46; refine (Of_at 1 _ ad n c0 (rd l 1) _ ?hb ?hc (by decide) hn2).mono ?_; (case hb => simp [go_sem]); (case hc => (repeat' first | assumption | refine of_old _ _ ?_ | refine of_far _ _ _ ?_ ?_)); rintro e w' ⟨rfl, rfl⟩)
         | (go_at_call 46; refine (Of_at 3 _ ad n c0 (rd l 3) _ ?hb ?hc (by decide) hn4).mono ?_; (case hb => simp [go_sem]); (case hc => (repeat' first | assumption | refine of_old _ _ ?_ | refine of_far _ _ _ ?_ ?_)); rintro e w' ⟨rfl, rfl⟩))
          go_meet
          refine ⟨2, 0, 2, wrap64 (rd l 1), 0, _, rfl, (of_drew0 _).symm, ofF_set2 (wrap64 (rd l 1)) (ofF_set1 2 (ofF_set1 1 (ofF_drewN _ (ofF_ofW w ad n c0 0 0 (wrap64 (rd l 0)))))), .inr rfl, fun _ => by omega, ⟨hd⟩⟩
        · rw [if_neg g7] at hd
          have g7b : (wrap64 (rd l 0) == 253) = false := by simp [g7]
          clear g7
          go_wp2_with (first
         | (go_at_call 47; refine (decode_lone.calls _ _ _ hl.out).mono ?_; rintro e w' ⟨rfl, ⟨nd1, rfl⟩⟩)
         | (go_at_call 47; refine (decode_lone.calls _ _ _ hl2.out).mono ?_; rintro e w' ⟨rfl, ⟨nd2, rfl⟩⟩)
         | (go_at_call 46; refine (Of_at 1 _ ad n c0 (rd l 1) _ ?hb ?hc (by decide) hn2).mono ?_; (case hb => simp [go_sem]); (case hc => (repeat' first | assumption | refine of_old _ _ ?_ | refine of_far _ _ _ ?_ ?_)); rintro e w' ⟨rfl, rfl⟩)
         | (go_at_call 46; refine (Of_at 3 _ ad n c0 (rd l 3) _ ?hb ?hc (by decide) hn4).mono ?_; (case hb => simp [go_sem]); (case hc => (repeat' first | assumption | refine of_old _ _ ?_ | refine of_far _ _ _ ?_ ?_)); rintro e w' ⟨rfl, rfl⟩))
          go_meet
          refine ⟨2, 0, 1, wrap64 (rd l 1), 0, _, rfl, (of_drew0 _).symm, ofF_set2 (wrap64 (rd l 1)) (ofF_set1 1 (ofF_drewN _ (ofF_ofW w ad n c0 0 0 (wrap64 (rd l 0))))), .inr rfl, fun _ => by omega, ⟨hd⟩⟩
  case rest =>
    obtain ⟨k, s, i, o, nd, W, rfl, rfl, ⟨hbel, hI0, hI1, hI2, hI3, hI4, hI5, hR0, hR1, hR2, hR3, hR4, hR5, hB0, hF, hold⟩, hk, hk2, ht⟩ := hcut
    have hF0 := hF (w.heap.size + 1) 0 (.inl rfl)
    have hF1 := hF (w.heap.size + 1) 1 (.inl rfl)
    have hF2 := hF (w.heap.size + 1) 2 (.inl rfl)
    have hF3 := hF (w.heap.size + 1) 3 (.inl rfl)
    have hF4 := hF (w.heap.size + 1) 4 (.inl rfl)
    have hF5 := hF (w.heap.size + 1) 5 (.inl rfl)
    have hG3 := hF (w.heap.size + 1 + 1) 3 (.inr rfl)
    have hG4 := hF (w.heap.size + 1 + 1) 4 (.inr rfl)
    have hG5 := hF (w.heap.size + 1 + 1) 5 (.inr rfl)
    clear hF hd
    have ht := ht.out
    unfold of_tail at ht
    obtain ⟨⟨d, im⟩, hN, ht⟩ := Option.bind_eq_some_iff.1 ht
    obtain ⟨len, hS, ht⟩ := Option.bind_eq_some_iff.1 ht
    rw [hnl] at ht
    simp only at ht
    replace hN := Aside0.mk hN
    replace hS := Aside0.mk hS
    by_cases hlen : (n : Int) < len
    · rw [if_pos hlen] at ht
      obtain ⟨rfl, rfl, rfl, rfl, rfl, rfl, rfl⟩ := of_inj ht
      replace hlen := eq_true hlen
      have hrel : Aside0 (decode_relative.f 0 = some false) := ⟨rfl⟩
      go_wp2_with (first
         | (go_at_call 48; refine (decode_Needs.calls _ _ _ _ _ _ _ hN.out).mono ?_; rintro e w' ⟨rfl, ⟨nd1, rfl⟩⟩)
         | (go_at_call 49; refine (decode_size.calls _ _ _ _ _ _ hS.out).mono ?_; rintro e w' ⟨rfl, ⟨nd2, rfl⟩⟩)
         | (go_at_call 50; refine (decode_relative.calls _ _ _ hrel.out).mono ?_; rintro e w' ⟨rfl, ⟨nd3, rfl⟩⟩))
      refine of_post rfl rfl rfl (by (repeat' with_reducible first | assumption | refine of_cdrew ?_ | refine of_cdrewN ?_ | refine of_same ?_ | refine of_is_set ?_ | refine of_is_drew ?_ | refine of_is_drewN ?_ | exact of_is (by assumption) | (refine of_other ?_ ?hn; case hn => simp))) (by (repeat' with_reducible first | assumption | refine of_cdrew ?_ | refine of_cdrewN ?_ | refine of_same ?_ | refine of_is_set ?_ | refine of_is_drew ?_ | refine of_is_drewN ?_ | exact of_is (by assumption) | (refine of_other ?_ ?hn; case hn => simp))) (by (repeat' with_reducible first | assumption | refine of_cdrew ?_ | refine of_cdrewN ?_ | refine of_same ?_ | refine of_is_set ?_ | refine of_is_drew ?_ | refine of_is_drewN ?_ | exact of_is (by assumption) | (refine of_other ?_ ?hn; case hn => simp))) (by (repeat' with_reducible first | assumption | refine of_cdrew ?_ | refine of_cdrewN ?_ | refine of_same ?_ | refine of_is_set ?_ | refine of_is_drew ?_ | refine of_is_drewN ?_ | exact of_is (by assumption) | (refine of_other ?_ ?hn; case hn => simp))) (by (repeat' with_reducible first | assumption | refine of_cdrew ?_ | refine of_cdrewN ?_ | refine of_same ?_ | refine of_is_set ?_ | refine of_is_drew ?_ | refine of_is_drewN ?_ | exact of_is (by assumption) | (refine of_other ?_ ?hn; case hn => simp))) (by (repeat' with_reducible first | assumption | refine of_cdrew ?_ | refine of_cdrewN ?_ | refine of_same ?_ | refine of_is_set ?_ | refine of_is_drew ?_ | refine of_is_drewN ?_ | exact of_is (by assumption) | (refine of_other ?_ ?hn; case hn => simp))) ⟨rfl, ?_⟩
      (repeat' with_reducible first | assumption | refine Below.drew ?_ | refine of_drewN _ ?_ | (refine Below.setCell ?_ ?hn _; case hn => (simp <;> omega)))
    rw [if_neg hlen] at ht
    have hnge : len ≤ (n : Int) := by omega
    replace hlen := eq_false hlen
    by_cases hkl : k ≤ len
    case neg => rw [if_neg hkl] at ht; cases ht
    rw [if_pos hkl] at ht
    have hl0 : (0 ≤ len) = True := eq_true (by rcases hk with rfl | rfl <;> omega)
    have hlc : (len ≤ (c0 : Int)) = True := eq_true (by omega)
    rcases hk with rfl | rfl
    · have hl2 : ((1 : Int) ≤ (len.toNat : Int)) = True := eq_true (by omega)
      cases d
      · rw [if_neg (by decide)] at ht
        unfold of_imm at ht
        try simp only [show (1 : Int) + 1 = 2 from rfl, show (2 : Int) + 1 = 3 from rfl, show (3 : Int) + 1 = 4 from rfl] at ht
        by_cases hi2 : im = 2
        · subst hi2
          rw [if_pos rfl] at ht
          by_cases hml : (2 : Int) < len
          case neg => rw [if_neg hml] at ht; cases ht
          rw [if_pos hml] at ht
          obtain ⟨rfl, rfl, rfl, rfl, rfl, rfl, rfl⟩ := of_inj ht
          have hq : (len.toNat = 1) = False := eq_false (by omega)
          have hy0 : ((0 : Int) < ((len.toNat - 1 : Nat) : Int)) = True := eq_true (by omega)
          have hy1 : ((1 : Int) < ((len.toNat - 1 : Nat) : Int)) = True := eq_true (by omega)
          have hm0 : W.cell? ⟨ad.block, ad.off + 1, none⟩ = some (.int .u8 (rd l 1)) := hold _ _ (hcell 1 (by omega))
          have hm1 : W.cell? ⟨ad.block, ad.off + 1 + 1, none⟩ = some (.int .u8 (rd l 2)) := hold _ _ (hcell 2 (by omega))
          have hrel0 : (1 : Int) = 1 := rfl
          have hrel : Aside0 (decode_relative.f 0 = some false) := ⟨rfl⟩
          go_upto_region 38 with (first
         | (go_at_call 48; refine (decode_Needs.calls _ _ _ _ _ _ _ hN.out).mono ?_; rintro e w' ⟨rfl, ⟨nd1, rfl⟩⟩)
         | (go_at_call 49; refine (decode_size.calls _ _ _ _ _ _ hS.out).mono ?_; rintro e w' ⟨rfl, ⟨nd2, rfl⟩⟩)
         | (go_at_call 50; refine (decode_relative.calls _ _ _ hrel.out).mono ?_; rintro e w' ⟨rfl, ⟨nd3, rfl⟩⟩))
          go_region
          go_wp2
          refine of_post rfl rfl rfl (by (repeat' with_reducible first | assumption | refine of_cdrew ?_ | refine of_cdrewN ?_ | refine of_same ?_ | refine of_is_set ?_ | refine of_is_drew ?_ | refine of_is_drewN ?_ | exact of_is (by assumption) | (refine of_other ?_ ?hn; case hn => simp))) (by (repeat' with_reducible first | assumption | refine of_cdrew ?_ | refine of_cdrewN ?_ | refine of_same ?_ | refine of_is_set ?_ | refine of_is_drew ?_ | refine of_is_drewN ?_ | exact of_is (by assumption) | (refine of_other ?_ ?hn; case hn => simp))) (by (repeat' with_reducible first | assumption | refine of_cdrew ?_ | refine of_cdrewN ?_ | refine of_same ?_ | refine of_is_set ?_ | refine of_is_drew ?_ | refine of_is_drewN ?_ | exact of_is (by assumption) | (refine of_other ?_ ?hn; case hn => simp))) (by (repeat' with_reducible first | assumption | refine of_cdrew ?_ | refine of_cdrewN ?_ | refine of_same ?_ | refine of_is_set ?_ | refine of_is_drew ?_ | refine of_is_drewN ?_ | exact of_is (by assumption) | (refine of_other ?_ ?hn; case hn => simp))) (by (repeat' with_reducible first | assumption | refine of_cdrew ?_ | refine of_cdrewN ?_ | refine of_same ?_ | refine of_is_set ?_ | refine of_is_drew ?_ | refine of_is_drewN ?_ | exact of_is (by assumption) | (refine of_other ?_ ?hn; case hn => simp))) (by (repeat' with_reducible first | assumption | refine of_cdrew ?_ | refine of_cdrewN ?_ | refine of_same ?_ | refine of_is_set ?_ | refine of_is_drew ?_ | refine of_is_drewN ?_ | exact of_is (by assumption) | (refine of_other ?_ ?hn; case hn => simp))) ⟨rfl, ?_⟩
          (repeat' with_reducible first | assumption | refine Below.drew ?_ | refine of_drewN _ ?_ | (refine Below.setCell ?_ ?hn _; case hn => (simp <;> omega)))
        rw [if_neg hi2] at ht
        by_cases hi1 : im = 1
        · subst hi1
          rw [if_pos rfl] at ht
          by_cases hml : (1 : Int) < len
          case neg => rw [if_neg hml] at ht; cases ht
          rw [if_pos hml] at ht
          have hq : (len.toNat = 1) = False := eq_false (by omega)
          have hy0 : ((0 : Int) < ((len.toNat - 1 : Nat) : Int)) = True := eq_true (by omega)
          have hm0 : W.cell? ⟨ad.block, ad.off + 1, none⟩ = some (.int .u8 (rd l 1)) := hold _ _ (hcell 1 (by omega))
          have hrel0 : (1 : Int) = 1 := rfl
          by_cases hs0 : s = 0
          · subst hs0
            rw [if_pos rfl] at ht
            obtain ⟨t, hrel, ht⟩ := Option.bind_eq_some_iff.1 ht
            replace hrel := Aside0.mk hrel
            cases t
            · rw [if_neg (by decide)] at ht
              obtain ⟨rfl, rfl, rfl, rfl, rfl, rfl, rfl⟩ := of_inj ht
              go_wp2_with (first
         | (go_at_call 48; refine (decode_Needs.calls _ _ _ _ _ _ _ hN.out).mono ?_; rintro e w' ⟨rfl, ⟨nd1, rfl⟩⟩)
         | (go_at_call 49; refine (decode_size.calls _ _ _ _ _ _ hS.out).mono ?_; rintro e w' ⟨rfl, ⟨nd2, rfl⟩⟩)
         | (go_at_call 50; refine (decode_relative.calls _ _ _ hrel.out).mono ?_; rintro e w' ⟨rfl, ⟨nd3, rfl⟩⟩))
              refine of_post rfl rfl rfl (by (repeat' with_reducible first | assumption | refine of_cdrew ?_ | refine of_cdrewN ?_ | refine of_same ?_ | refine of_is_set ?_ | refine of_is_drew ?_ | refine of_is_drewN ?_ | exact of_is (by assumption) | (refine of_other ?_ ?hn; case hn => simp))) (by (repeat' with_reducible first | assumption | refine of_cdrew ?_ | refine of_cdrewN ?_ | refine of_same ?_ | refine of_is_set ?_ | refine of_is_drew ?_ | refine of_is_drewN ?_ | exact of_is (by assumption) | (refine of_other ?_ ?hn; case hn => simp))) (by (repeat' with_reducible first | assumption | refine of_cdrew ?_ | refine of_cdrewN ?_ | refine of_same ?_ | refine of_is_set ?_ | refine of_is_drew ?_ | refine of_is_drewN ?_ | exact of_is (by assumption) | (refine of_other ?_ ?hn; case hn => simp))) (by (repeat' with_reducible first | assumption | refine of_cdrew ?_ | refine of_cdrewN ?_ | refine of_same ?_ | refine of_is_set ?_ | refine of_is_drew ?_ | refine of_is_drewN ?_ | exact of_is (by assumption) | (refine of_other ?_ ?hn; case hn => simp))) (by (repeat' with_reducible first | assumption | refine of_cdrew ?_ | refine of_cdrewN ?_ | refine of_same ?_ | refine of_is_set ?_ | refine of_is_drew ?_ | refine of_is_drewN ?_ | exact of_is (by assumption) | (refine of_other ?_ ?hn; case hn => simp))) (by (repeat' with_reducible first | assumption | refine of_cdrew ?_ | refine of_cdrewN ?_ | refine of_same ?_ | refine of_is_set ?_ | refine of_is_drew ?_ | refine of_is_drewN ?_ | exact of_is (by assumption) | (refine of_other ?_ ?hn; case hn => simp))) ⟨rfl, ?_⟩
              (repeat' with_reducible first | assumption | refine Below.drew ?_ | refine of_drewN _ ?_ | (refine Below.setCell ?_ ?hn _; case hn => (simp <;> omega)))
            · rw [if_pos rfl] at ht
              obtain ⟨rfl, rfl, rfl, rfl, rfl, rfl, rfl⟩ := of_inj ht
              go_wp2_with (first
         | (go_at_call 48; refine (decode_Needs.calls _ _ _ _ _ _ _ hN.out).mono ?_; rintro e w' ⟨rfl, ⟨nd1, rfl⟩⟩)
         | (go_at_call 49; refine (decode_size.calls _ _ _ _ _ _ hS.out).mono ?_; rintro e w' ⟨rfl, ⟨nd2, rfl⟩⟩)
         | (go_at_call 50; refine (decode_relative.calls _ _ _ hrel.out).mono ?_; rintro e w' ⟨rfl, ⟨nd3, rfl⟩⟩))
              refine of_post rfl rfl rfl (by (repeat' with_reducible first | assumption | refine of_cdrew ?_ | refine of_cdrewN ?_ | refine of_same ?_ | refine of_is_set ?_ | refine of_is_drew ?_ | refine of_is_drewN ?_ | exact of_is (by assumption) | (refine of_other ?_ ?hn; case hn => simp))) (by (repeat' with_reducible first | assumption | refine of_cdrew ?_ | refine of_cdrewN ?_ | refine of_same ?_ | refine of_is_set ?_ | refine of_is_drew ?_ | refine of_is_drewN ?_ | exact of_is (by assumption) | (refine of_other ?_ ?hn; case hn => simp))) (by (repeat' with_reducible first | assumption | refine of_cdrew ?_ | refine of_cdrewN ?_ | refine of_same ?_ | refine of_is_set ?_ | refine of_is_drew ?_ | refine of_is_drewN ?_ | exact of_is (by assumption) | (refine of_other ?_ ?hn; case hn => simp))) (by (repeat' with_reducible first | assumption | refine of_cdrew ?_ | refine of_cdrewN ?_ | refine of_same ?_ | refine of_is_set ?_ | refine of_is_drew ?_ | refine of_is_drewN ?_ | exact of_is (by assumption) | (refine of_other ?_ ?hn; case hn => simp))) (by (repeat' with_reducible first | assumption | refine of_cdrew ?_ | refine of_cdrewN ?_ | refine of_same ?_ | refine of_is_set ?_ | refine of_is_drew ?_ | refine of_is_drewN ?_ | exact of_is (by assumption) | (refine of_other ?_ ?hn; case hn => simp))) (by (repeat' with_reducible first | assumption | refine of_cdrew ?_ | refine of_cdrewN ?_ | refine of_same ?_ | refine of_is_set ?_ | refine of_is_drew ?_ | refine of_is_drewN ?_ | exact of_is (by assumption) | (refine of_other ?_ ?hn; case hn => simp))) ⟨rfl, ?_⟩
              (repeat' with_reducible first | assumption | refine Below.drew ?_ | refine of_drewN _ ?_ | (refine Below.setCell ?_ ?hn _; case hn => (simp <;> omega)))
          · rw [if_neg hs0] at ht
            obtain ⟨rfl, rfl, rfl, rfl, rfl, rfl, rfl⟩ := of_inj ht
            have hs0b : (s == 0) = false := by simp [hs0]
            have hrel : Aside0 (decode_relative.f 0 = some false) := ⟨rfl⟩
            go_wp2_with (first
         | (go_at_call 48; refine (decode_Needs.calls _ _ _ _ _ _ _ hN.out).mono ?_; rintro e w' ⟨rfl, ⟨nd1, rfl⟩⟩)
         | (go_at_call 49; refine (decode_size.calls _ _ _ _ _ _ hS.out).mono ?_; rintro e w' ⟨rfl, ⟨nd2, rfl⟩⟩)
         | (go_at_call 50; refine (decode_relative.calls _ _ _ hrel.out).mono ?_; rintro e w' ⟨rfl, ⟨nd3, rfl⟩⟩))
            refine of_post rfl rfl rfl (by (repeat' with_reducible first | assumption | refine of_cdrew ?_ | refine of_cdrewN ?_ | refine of_same ?_ | refine of_is_set ?_ | refine of_is_drew ?_ | refine of_is_drewN ?_ | exact of_is (by assumption) | (refine of_other ?_ ?hn; case hn => simp))) (by (repeat' with_reducible first | assumption | refine of_cdrew ?_ | refine of_cdrewN ?_ | refine of_same ?_ | refine of_is_set ?_ | refine of_is_drew ?_ | refine of_is_drewN ?_ | exact of_is (by assumption) | (refine of_other ?_ ?hn; case hn => simp))) (by (repeat' with_reducible first | assumption | refine of_cdrew ?_ | refine of_cdrewN ?_ | refine of_same ?_ | refine of_is_set ?_ | refine of_is_drew ?_ | refine of_is_drewN ?_ | exact of_is (by assumption) | (refine of_other ?_ ?hn; case hn => simp))) (by (repeat' with_reducible first | assumption | refine of_cdrew ?_ | refine of_cdrewN ?_ | refine of_same ?_ | refine of_is_set ?_ | refine of_is_drew ?_ | refine of_is_drewN ?_ | exact of_is (by assumption) | (refine of_other ?_ ?hn; case hn => simp))) (by (repeat' with_reducible first | assumption | refine of_cdrew ?_ | refine of_cdrewN ?_ | refine of_same ?_ | refine of_is_set ?_ | refine of_is_drew ?_ | refine of_is_drewN ?_ | exact of_is (by assumption) | (refine of_other ?_ ?hn; case hn => simp))) (by (repeat' with_reducible first | assumption | refine of_cdrew ?_ | refine of_cdrewN ?_ | refine of_same ?_ | refine of_is_set ?_ | refine of_is_drew ?_ | refine of_is_drewN ?_ | exact of_is (by assumption) | (refine of_other ?_ ?hn; case hn => simp))) ⟨rfl, ?_⟩
            (repeat' with_reducible first | assumption | refine Below.drew ?_ | refine of_drewN _ ?_ | (refine Below.setCell ?_ ?hn _; case hn => (simp <;> omega)))
        rw [if_neg hi1] at ht
        obtain ⟨rfl, rfl, rfl, rfl, rfl, rfl, rfl⟩ := of_inj ht
        have hi2b : (im == 2) = false := by simp [hi2]
        have hi1b : (im == 1) = false := by simp [hi1]
        have hrel : Aside0 (decode_relative.f 0 = some false) := ⟨rfl⟩
        by_cases hqq : len.toNat = 1
        · replace hqq := eq_true hqq
          go_wp2_with (first
         | (go_at_call 48; refine (decode_Needs.calls _ _ _ _ _ _ _ hN.out).mono ?_; rintro e w' ⟨rfl, ⟨nd1, rfl⟩⟩)
         | (go_at_call 49; refine (decode_size.calls _ _ _ _ _ _ hS.out).mono ?_; rintro e w' ⟨rfl, ⟨nd2, rfl⟩⟩)
         | (go_at_call 50; refine (decode_relative.calls _ _ _ hrel.out).mono ?_; rintro e w' ⟨rfl, ⟨nd3, rfl⟩⟩))
          refine of_post rfl rfl rfl (by (repeat' with_reducible first | assumption | refine of_cdrew ?_ | refine of_cdrewN ?_ | refine of_same ?_ | refine of_is_set ?_ | refine of_is_drew ?_ | refine of_is_drewN ?_ | exact of_is (by assumption) | (refine of_other ?_ ?hn; case hn => simp))) (by (repeat' with_reducible first | assumption | refine of_cdrew ?_ | refine of_cdrewN ?_ | refine of_same ?_ | refine of_is_set ?_ | refine of_is_drew ?_ | refine of_is_drewN ?_ | exact of_is (by assumption) | (refine of_other ?_ ?hn; case hn => simp))) (by (repeat' with_reducible first | assumption | refine of_cdrew ?_ | refine of_cdrewN ?_ | refine of_same ?_ | refine of_is_set ?_ | refine of_is_drew ?_ | refine of_is_drewN ?_ | exact of_is (by assumption) | (refine of_other ?_ ?hn; case hn => simp))) (by (repeat' with_reducible first | assumption | refine of_cdrew ?_ | refine of_cdrewN ?_ | refine of_same ?_ | refine of_is_set ?_ | refine of_is_drew ?_ | refine of_is_drewN ?_ | exact of_is (by assumption) | (refine of_other ?_ ?hn; case hn => simp))) (by (repeat' with_reducible first | assumption | refine of_cdrew ?_ | refine of_cdrewN ?_ | refine of_same ?_ | refine of_is_set ?_ | refine of_is_drew ?_ | refine of_is_drewN ?_ | exact of_is (by assumption) | (refine of_other ?_ ?hn; case hn => simp))) (by (repeat' with_reducible first | assumption | refine of_cdrew ?_ | refine of_cdrewN ?_ | refine of_same ?_ | refine of_is_set ?_ | refine of_is_drew ?_ | refine of_is_drewN ?_ | exact of_is (by assumption) | (refine of_other ?_ ?hn; case hn => simp))) ⟨rfl, ?_⟩
          (repeat' with_reducible first | assumption | refine Below.drew ?_ | refine of_drewN _ ?_ | (refine Below.setCell ?_ ?hn _; case hn => (simp <;> omega)))
        · replace hqq := eq_false hqq
          go_wp2_with (first
         | (go_at_call 48; refine (decode_Needs.calls _ _ _ _ _ _ _ hN.out).mono ?_; rintro e w' ⟨rfl, ⟨nd1, rfl⟩⟩)
         | (go_at_call 49; refine (decode_size.calls _ _ _ _ _ _ hS.out).mono ?_; rintro e w' ⟨rfl, ⟨nd2, rfl⟩⟩)
         | (go_at_call 50; refine (decode_relative.calls _ _ _ hrel.out).mono ?_; rintro e w' ⟨rfl, ⟨nd3, rfl⟩⟩))
          refine of_post rfl rfl rfl (by (repeat' with_reducible first | assumption | refine of_cdrew ?_ | refine of_cdrewN ?_ | refine of_same ?_ | refine of_is_set ?_ | refine of_is_drew ?_ | refine of_is_drewN ?_ | exact of_is (by assumption) | (refine of_other ?_ ?hn; case hn => simp))) (by (repeat' with_reducible first | assumption | refine of_cdrew ?_ | refine of_cdrewN ?_ | refine of_same ?_ | refine of_is_set ?_ | refine of_is_drew ?_ | refine of_is_drewN ?_ | exact of_is (by assumption) | (refine of_other ?_ ?hn; case hn => simp))) (by (repeat' with_reducible first | assumption | refine of_cdrew ?_ | refine of_cdrewN ?_ | refine of_same ?_ | refine of_is_set ?_ | refine of_is_drew ?_ | refine of_is_drewN ?_ | exact of_is (by assumption) | (refine of_other ?_ ?hn; case hn => simp))) (by (repeat' with_reducible first | assumption | refine of_cdrew ?_ | refine of_cdrewN ?_ | refine of_same ?_ | refine of_is_set ?_ | refine of_is_drew ?_ | refine of_is_drewN ?_ | exact of_is (by assumption) | (refine of_other ?_ ?hn; case hn => simp))) (by (repeat' with_reducible first | assumption | refine of_cdrew ?_ | refine of_cdrewN ?_ | refine of_same ?_ | refine of_is_set ?_ | refine of_is_drew ?_ | refine of_is_drewN ?_ | exact of_is (by assumption) | (refine of_other ?_ ?hn; case hn => simp))) (by (repeat' with_reducible first | assumption | refine of_cdrew ?_ | refine of_cdrewN ?_ | refine of_same ?_ | refine of_is_set ?_ | refine of_is_drew ?_ | refine of_is_drewN ?_ | exact of_is (by assumption) | (refine of_other ?_ ?hn; case hn => simp))) ⟨rfl, ?_⟩
          (repeat' with_reducible first | assumption | refine Below.drew ?_ | refine of_drewN _ ?_ | (refine Below.setCell ?_ ?hn _; case hn => (simp <;> omega)))
      · rw [if_pos rfl] at ht
        by_cases hkm : (1 : Int) < len
        case neg => rw [if_neg hkm] at ht; cases ht
        rw [if_pos hkm] at ht
        have hq0 : ((1 : Int) < (len.toNat : Int)) = True := eq_true (by omega)
        have hq : (len.toNat = 1) = False := eq_false (by omega)
        have hz : (0 < len.toNat - 1) = True := eq_true (by omega)
        have hz1 : ((0 : Int) < ((len.toNat - 1 : Nat) : Int)) = True := eq_true (by omega)
        have hz2 : ((1 : Int) ≤ ((len.toNat - 1 : Nat) : Int)) = True := eq_true (by omega)
        have hc1 : W.cell? ⟨ad.block, ad.off + 1, none⟩ = some (.int .u8 (rd l 1)) := hold _ _ (hcell 1 (by omega))
        unfold of_imm at ht
        try simp only [show (1 : Int) + 1 = 2 from rfl, show (2 : Int) + 1 = 3 from rfl, show (3 : Int) + 1 = 4 from rfl] at ht
        by_cases hi2 : im = 2
        · subst hi2
          rw [if_pos rfl] at ht
          by_cases hml : (3 : Int) < len
          case neg => rw [if_neg hml] at ht; cases ht
          rw [if_pos hml] at ht
          obtain ⟨rfl, rfl, rfl, rfl, rfl, rfl, rfl⟩ := of_inj ht
          have hqq : (len.toNat - 1 = 1) = False := eq_false (by omega)
          have hy0 : ((0 : Int) < ((len.toNat - 1 - 1 : Nat) : Int)) = True := eq_true (by omega)
          have hy1 : ((1 : Int) < ((len.toNat - 1 - 1 : Nat) : Int)) = True := eq_true (by omega)
          have hm0 : W.cell? ⟨ad.block, ad.off + 1 + 1, none⟩ = some (.int .u8 (rd l 2)) := hold _ _ (hcell 2 (by omega))
          have hm1 : W.cell? ⟨ad.block, ad.off + 1 + 1 + 1, none⟩ = some (.int .u8 (rd l 3)) := hold _ _ (hcell 3 (by omega))
          have hrel0 : (1 : Int) = 1 := rfl
          have hrel : Aside0 (decode_relative.f 0 = some false) := ⟨rfl⟩
          go_upto_region 36 with (first
         | (go_at_call 48; refine (decode_Needs.calls _ _ _ _ _ _ _ hN.out).mono ?_; rintro e w' ⟨rfl, ⟨nd1, rfl⟩⟩)
         | (go_at_call 49; refine (decode_size.calls _ _ _ _ _ _ hS.out).mono ?_; rintro e w' ⟨rfl, ⟨nd2, rfl⟩⟩)
         | (go_at_call 50; refine (decode_relative.calls _ _ _ hrel.out).mono ?_; rintro e w' ⟨rfl, ⟨nd3, rfl⟩⟩))
          go_region
          go_upto_region 38 with fail
          go_region
          go_wp2
          refine of_post rfl rfl rfl (by (repeat' with_reducible first | assumption | refine of_cdrew ?_ | refine of_cdrewN ?_ | refine of_same ?_ | refine of_is_set ?_ | refine of_is_drew ?_ | refine of_is_drewN ?_ | exact of_is (by assumption) | (refine of_other ?_ ?hn; case hn => simp))) (by (repeat' with_reducible first | assumption | refine of_cdrew ?_ | refine of_cdrewN ?_ | refine of_same ?_ | refine of_is_set ?_ | refine of_is_drew ?_ | refine of_is_drewN ?_ | exact of_is (by assumption) | (refine of_other ?_ ?hn; case hn => simp))) (by (repeat' with_reducible first | assumption | refine of_cdrew ?_ | refine of_cdrewN ?_ | refine of_same ?_ | refine of_is_set ?_ | refine of_is_drew ?_ | refine of_is_drewN ?_ | exact of_is (by assumption) | (refine of_other ?_ ?hn; case hn => simp))) (by (repeat' with_reducible first | assumption | refine of_cdrew ?_ | refine of_cdrewN ?_ | refine of_same ?_ | refine of_is_set ?_ | refine of_is_drew ?_ | refine of_is_drewN ?_ | exact of_is (by assumption) | (refine of_other ?_ ?hn; case hn => simp))) (by (repeat' with_reducible first | assumption | refine of_cdrew ?_ | refine of_cdrewN ?_ | refine of_same ?_ | refine of_is_set ?_ | refine of_is_drew ?_ | refine of_is_drewN ?_ | exact of_is (by assumption) | (refine of_other ?_ ?hn; case hn => simp))) (by (repeat' with_reducible first | assumption | refine of_cdrew ?_ | refine of_cdrewN ?_ | refine of_same ?_ | refine of_is_set ?_ | refine of_is_drew ?_ | refine of_is_drewN ?_ | exact of_is (by assumption) | (refine of_other ?_ ?hn; case hn => simp))) ⟨rfl, ?_⟩
          (repeat' with_reducible first | assumption | refine Below.drew ?_ | refine of_drewN _ ?_ | (refine Below.setCell ?_ ?hn _; case hn => (simp <;> omega)))
        rw [if_neg hi2] at ht
        by_cases hi1 : im = 1
        · subst hi1
          rw [if_pos rfl] at ht
          by_cases hml : (2 : Int) < len
          case neg => rw [if_neg hml] at ht; cases ht
          rw [if_pos hml] at ht
          have hqq : (len.toNat - 1 = 1) = False := eq_false (by omega)
          have hy0 : ((0 : Int) < ((len.toNat - 1 - 1 : Nat) : Int)) = True := eq_true (by omega)
          have hm0 : W.cell? ⟨ad.block, ad.off + 1 + 1, none⟩ = some (.int .u8 (rd l 2)) := hold _ _ (hcell 2 (by omega))
          have hrel0 : (1 : Int) = 1 := rfl
          by_cases hs0 : s = 0
          · subst hs0
            rw [if_pos rfl] at ht
            obtain ⟨t, hrel, ht⟩ := Option.bind_eq_some_iff.1 ht
            replace hrel := Aside0.mk hrel
            cases t
            · rw [if_neg (by decide)] at ht
              obtain ⟨rfl, rfl, rfl, rfl, rfl, rfl, rfl⟩ := of_inj ht
              go_upto_region 36 with (first
         | (go_at_call 48; refine (decode_Needs.calls _ _ _ _ _ _ _ hN.out).mono ?_; rintro e w' ⟨rfl, ⟨nd1, rfl⟩⟩)
         | (go_at_call 49; refine (decode_size.calls _ _ _ _ _ _ hS.out).mono ?_; rintro e w' ⟨rfl, ⟨nd2, rfl⟩⟩)
         | (go_at_call 50; refine (decode_relative.calls _ _ _ hrel.out).mono ?_; rintro e w' ⟨rfl, ⟨nd3, rfl⟩⟩))
              go_region
              go_wp2_with (first
         | (go_at_call 48; refine (decode_Needs.calls _ _ _ _ _ _ _ hN.out).mono ?_; rintro e w' ⟨rfl, ⟨nd1, rfl⟩⟩)
         | (go_at_call 49; refine (decode_size.calls _ _ _ _ _ _ hS.out).mono ?_; rintro e w' ⟨rfl, ⟨nd2, rfl⟩⟩)
         | (go_at_call 50; refine (decode_relative.calls _ _ _ hrel.out).mono ?_; rintro e w' ⟨rfl, ⟨nd3, rfl⟩⟩))
              refine of_post rfl rfl rfl (by (repeat' with_reducible first | assumption | refine of_cdrew ?_ | refine of_cdrewN ?_ | refine of_same ?_ | refine of_is_set ?_ | refine of_is_drew ?_ | refine of_is_drewN ?_ | exact of_is (by assumption) | (refine of_other ?_ ?hn; case hn => simp))) (by (repeat' with_reducible first | assumption | refine of_cdrew ?_ | refine of_cdrewN ?_ | refine of_same ?_ | refine of_is_set ?_ | refine of_is_drew ?_ | refine of_is_drewN ?_ | exact of_is (by assumption) | (refine of_other ?_ ?hn; case hn => simp))) (by (repeat' with_reducible first | assumption | refine of_cdrew ?_ | refine of_cdrewN ?_ | refine of_same ?_ | refine of_is_set ?_ | refine of_is_drew ?_ | refine of_is_drewN ?_ | exact of_is (by assumption) | (refine of_other ?_ ?hn; case hn => simp))) (by (repeat' with_reducible first | assumption | refine of_cdrew ?_ | refine of_cdrewN ?_ | refine of_same ?_ | refine of_is_set ?_ | refine of_is_drew ?_ | refine of_is_drewN ?_ | exact of_is (by assumption) | (refine of_other ?_ ?hn; case hn => simp))) (by (repeat' with_reducible first | assumption | refine of_cdrew ?_ | refine of_cdrewN ?_ | refine of_same ?_ | refine of_is_set ?_ | refine of_is_drew ?_ | refine of_is_drewN ?_ | exact of_is (by assumption) | (refine of_other ?_ ?hn; case hn => simp))) (by (repeat' with_reducible first | assumption | refine of_cdrew ?_ | refine of_cdrewN ?_ | refine of_same ?_ | refine of_is_set ?_ | refine of_is_drew ?_ | refine of_is_drewN ?_ | exact of_is (by assumption) | (refine of_other ?_ ?hn; case hn => simp))) ⟨rfl, ?_⟩
              (repeat' with_reducible first | assumption | refine Below.drew ?_ | refine of_drewN _ ?_ | (refine Below.setCell ?_ ?hn _; case hn => (simp <;> omega)))
            · rw [if_pos rfl] at ht
              obtain ⟨rfl, rfl, rfl, rfl, rfl, rfl, rfl⟩ := of_inj ht
              go_upto_region 36 with (first
         | (go_at_call 48; refine (decode_Needs.calls _ _ _ _ _ _ _ hN.out).mono ?_; rintro e w' ⟨rfl, ⟨nd1, rfl⟩⟩)
         | (go_at_call 49; refine (decode_size.calls _ _ _ _ _ _ hS.out).mono ?_; rintro e w' ⟨rfl, ⟨nd2, rfl⟩⟩)
         | (go_at_call 50; refine (decode_relative.calls _ _ _ hrel.out).mono ?_; rintro e w' ⟨rfl, ⟨nd3, rfl⟩⟩))
              go_region
              go_wp2_with (first
         | (go_at_call 48; refine (decode_Needs.calls _ _ _ _ _ _ _ hN.out).mono ?_; rintro e w' ⟨rfl, ⟨nd1, rfl⟩⟩)
         | (go_at_call 49; refine (decode_size.calls _ _ _ _ _ _ hS.out).mono ?_; rintro e w' ⟨rfl, ⟨nd2, rfl⟩⟩)
         | (go_at_call 50; refine (decode_relative.calls _ _ _ hrel.out).mono ?_; rintro e w' ⟨rfl, ⟨nd3, rfl⟩⟩))
              refine of_post rfl rfl rfl (by (repeat' with_reducible first | assumption | refine of_cdrew ?_ | refine of_cdrewN ?_ | refine of_same ?_ | refine of_is_set ?_ | refine of_is_drew ?_ | refine of_is_drewN ?_ | exact of_is (by assumption) | (refine of_other ?_ ?hn; case hn => simp))) (by (repeat' with_reducible first | assumption | refine of_cdrew ?_ | refine of_cdrewN ?_ | refine of_same ?_ | refine of_is_set ?_ | refine of_is_drew ?_ | refine of_is_drewN ?_ | exact of_is (by assumption) | (refine of_other ?_ ?hn; case hn => simp))) (by (repeat' with_reducible first | assumption | refine of_cdrew ?_ | refine of_cdrewN ?_ | refine of_same ?_ | refine of_is_set ?_ | refine of_is_drew ?_ | refine of_is_drewN ?_ | exact of_is (by assumption) | (refine of_other ?_ ?hn; case hn => simp))) (by (repeat' with_reducible first | assumption | refine of_cdrew ?_ | refine of_cdrewN ?_ | refine of_same ?_ | refine of_is_set ?_ | refine of_is_drew ?_ | refine of_is_drewN ?_ | exact of_is (by assumption) | (refine of_other ?_ ?hn; case hn => simp))) (by (repeat' with_reducible first | assumption | refine of_cdrew ?_ | refine of_cdrewN ?_ | refine of_same ?_ | refine of_is_set ?_ | refine of_is_drew ?_ | refine of_is_drewN ?_ | exact of_is (by assumption) | (refine of_other ?_ ?hn; case hn => simp))) (by (repeat' with_reducible first | assumption | refine of_cdrew ?_ | refine of_cdrewN ?_ | refine of_same ?_ | refine of_is_set ?_ | refine of_is_drew ?_ | refine of_is_drewN ?_ | exact of_is (by assumption) | (refine of_other ?_ ?hn; case hn => simp))) ⟨rfl, ?_⟩
              (repeat' with_reducible first | assumption | refine Below.drew ?_ | refine of_drewN _ ?_ | (refine Below.setCell ?_ ?hn _; case hn => (simp <;> omega)))
          · rw [if_neg hs0] at ht
            obtain ⟨rfl, rfl, rfl, rfl, rfl, rfl, rfl⟩ := of_inj ht
            have hs0b : (s == 0) = false := by simp [hs0]
            have hrel : Aside0 (decode_relative.f 0 = some false) := ⟨rfl⟩
            go_upto_region 36 with (first
         | (go_at_call 48; refine (decode_Needs.calls _ _ _ _ _ _ _ hN.out).mono ?_; rintro e w' ⟨rfl, ⟨nd1, rfl⟩⟩)
         | (go_at_call 49; refine (decode_size.calls _ _ _ _ _ _ hS.out).mono ?_; rintro e w' ⟨rfl, ⟨nd2, rfl⟩⟩)
         | (go_at_call 50; refine (decode_relative.calls _ _ _ hrel.out).mono ?_; rintro e w' ⟨rfl, ⟨nd3, rfl⟩⟩))
            go_region
            go_wp2_with (first
         | (go_at_call 48; refine (decode_Needs.calls _ _ _ _ _ _ _ hN.out).mono ?_; rintro e w' ⟨rfl, ⟨nd1, rfl⟩⟩)
         | (go_at_call 49; refine (decode_size.calls _ _ _ _ _ _ hS.out).mono ?_; rintro e w' ⟨rfl, ⟨nd2, rfl⟩⟩)
         | (go_at_call 50; refine (decode_relative.calls _ _ _ hrel.out).mono ?_; rintro e w' ⟨rfl, ⟨nd3, rfl⟩⟩))
            refine of_post rfl rfl rfl (by (repeat' with_reducible first | assumption | refine of_cdrew ?_ | refine of_cdrewN ?_ | refine of_same ?_ | refine of_is_set ?_ | refine of_is_drew ?_ | refine of_is_drewN ?_ | exact of_is (by assumption) | (refine of_other ?_ ?hn; case hn => simp))) (by (repeat' with_reducible first | assumption | refine of_cdrew ?_ | refine of_cdrewN ?_ | refine of_same ?_ | refine of_is_set ?_ | refine of_is_drew ?_ | refine of_is_drewN ?_ | exact of_is (by assumption) | (refine of_other ?_ ?hn; case hn => simp))) (by (repeat' with_reducible first | assumption | refine of_cdrew ?_ | refine of_cdrewN ?_ | refine of_same ?_ | refine of_is_set ?_ | refine of_is_drew ?_ | refine of_is_drewN ?_ | exact of_is (by assumption) | (refine of_other ?_ ?hn; case hn => simp))) (by (repeat' with_reducible first | assumption | refine of_cdrew ?_ | refine of_cdrewN ?_ | refine of_same ?_ | refine of_is_set ?_ | refine of_is_drew ?_ | refine of_is_drewN ?_ | exact of_is (by assumption) | (refine of_other ?_ ?hn; case hn => simp))) (by (repeat' with_reducible first | assumption | refine of_cdrew ?_ | refine of_cdrewN ?_ | refine of_same ?_ | refine of_is_set ?_ | refine of_is_drew ?_ | refine of_is_drewN ?_ | exact of_is (by assumption) | (refine of_other ?_ ?hn; case hn => simp))) (by (repeat' with_reducible first | assumption | refine of_cdrew ?_ | refine of_cdrewN ?_ | refine of_same ?_ | refine of_is_set ?_ | refine of_is_drew ?_ | refine of_is_drewN ?_ | exact of_is (by assumption) | (refine of_other ?_ ?hn; case hn => simp))) ⟨rfl, ?_⟩
            (repeat' with_reducible first | assumption | refine Below.drew ?_ | refine of_drewN _ ?_ | (refine Below.setCell ?_ ?hn _; case hn => (simp <;> omega)))
        rw [if_neg hi1] at ht
        obtain ⟨rfl, rfl, rfl, rfl, rfl, rfl, rfl⟩ := of_inj ht
        have hi2b : (im == 2) = false := by simp [hi2]
        have hi1b : (im == 1) = false := by simp [hi1]
        have hrel : Aside0 (decode_relative.f 0 = some false) := ⟨rfl⟩
        by_cases hqq : len.toNat - 1 = 1
        · replace hqq := eq_true hqq
          go_upto_region 36 with (first
         | (go_at_call 48; refine (decode_Needs.calls _ _ _ _ _ _ _ hN.out).mono ?_; rintro e w' ⟨rfl, ⟨nd1, rfl⟩⟩)
         | (go_at_call 49; refine (decode_size.calls _ _ _ _ _ _ hS.out).mono ?_; rintro e w' ⟨rfl, ⟨nd2, rfl⟩⟩)
         | (go_at_call 50; refine (decode_relative.calls _ _ _ hrel.out).mono ?_; rintro e w' ⟨rfl, ⟨nd3, rfl⟩⟩))
          go_region
          go_wp2_with (first
         | (go_at_call 48; refine (decode_Needs.calls _ _ _ _ _ _ _ hN.out).mono ?_; rintro e w' ⟨rfl, ⟨nd1, rfl⟩⟩)
         | (go_at_call 49; refine (decode_size.calls _ _ _ _ _ _ hS.out).mono ?_; rintro e w' ⟨rfl, ⟨nd2, rfl⟩⟩)
         | (go_at_call 50; refine (decode_relative.calls _ _ _ hrel.out).mono ?_; rintro e w' ⟨rfl, ⟨nd3, rfl⟩⟩))
          refine of_post rfl rfl rfl (by (repeat' with_reducible first | assumption | refine of_cdrew ?_ | refine of_cdrewN ?_ | refine of_same ?_ | refine of_is_set ?_ | refine of_is_drew ?_ | refine of_is_drewN ?_ | exact of_is (by assumption) | (refine of_other ?_ ?hn; case hn => simp))) (by (repeat' with_reducible first | assumption | refine of_cdrew ?_ | refine of_cdrewN ?_ | refine of_same ?_ | refine of_is_set ?_ | refine of_is_drew ?_ | refine of_is_drewN ?_ | exact of_is (by assumption) | (refine of_other ?_ ?hn; case hn => simp))) (by (repeat' with_reducible first | assumption | refine of_cdrew ?_ | refine of_cdrewN ?_ | refine of_same ?_ | refine of_is_set ?_ | refine of_is_drew ?_ | refine of_is_drewN ?_ | exact of_is (by assumption) | (refine of_other ?_ ?hn; case hn => simp))) (by (repeat' with_reducible first | assumption | refine of_cdrew ?_ | refine of_cdrewN ?_ | refine of_same ?_ | refine of_is_set ?_ | refine of_is_drew ?_ | refine of_is_drewN ?_ | exact of_is (by assumption) | (refine of_other ?_ ?hn; case hn => simp))) (by (repeat' with_reducible first | assumption | refine of_cdrew ?_ | refine of_cdrewN ?_ | refine of_same ?_ | refine of_is_set ?_ | refine of_is_drew ?_ | refine of_is_drewN ?_ | exact of_is (by assumption) | (refine of_other ?_ ?hn; case hn => simp))) (by (repeat' with_reducible first | assumption | refine of_cdrew ?_ | refine of_cdrewN ?_ | refine of_same ?_ | refine of_is_set ?_ | refine of_is_drew ?_ | refine of_is_drewN ?_ | exact of_is (by assumption) | (refine of_other ?_ ?hn; case hn => simp))) ⟨rfl, ?_⟩
          (repeat' with_reducible first | assumption | refine Below.drew ?_ | refine of_drewN _ ?_ | (refine Below.setCell ?_ ?hn _; case hn => (simp <;> omega)))
        · replace hqq := eq_false hqq
          go_upto_region 36 with (first
         | (go_at_call 48; refine (decode_Needs.calls _ _ _ _ _ _ _ hN.out).mono ?_; rintro e w' ⟨rfl, ⟨nd1, rfl⟩⟩)
         | (go_at_call 49; refine (decode_size.calls _ _ _ _ _ _ hS.out).mono ?_; rintro e w' ⟨rfl, ⟨nd2, rfl⟩⟩)
         | (go_at_call 50; refine (decode_relative.calls _ _ _ hrel.out).mono ?_; rintro e w' ⟨rfl, ⟨nd3, rfl⟩⟩))
          go_region
          go_wp2_with (first
         | (go_at_call 48; refine (decode_Needs.calls _ _ _ _ _ _ _ hN.out).mono ?_; rintro e w' ⟨rfl, ⟨nd1, rfl⟩⟩)
         | (go_at_call 49; refine (decode_size.calls _ _ _ _ _ _ hS.out).mono ?_; rintro e w' ⟨rfl, ⟨nd2, rfl⟩⟩)
         | (go_at_call 50; refine (decode_relative.calls _ _ _ hrel.out).mono ?_; rintro e w' ⟨rfl, ⟨nd3, rfl⟩⟩))
          refine of_post rfl rfl rfl (by (repeat' with_reducible first | assumption | refine of_cdrew ?_ | refine of_cdrewN ?_ | refine of_same ?_ | refine of_is_set ?_ | refine of_is_drew ?_ | refine of_is_drewN ?_ | exact of_is (by assumption) | (refine of_other ?_ ?hn; case hn => simp))) (by (repeat' with_reducible first | assumption | refine of_cdrew ?_ | refine of_cdrewN ?_ | refine of_same ?_ | refine of_is_set ?_ | refine of_is_drew ?_ | refine of_is_drewN ?_ | exact of_is (by assumption) | (refine of_other ?_ ?hn; case hn => simp))) (by (repeat' with_reducible first | assumption | refine of_cdrew ?_ | refine of_cdrewN ?_ | refine of_same ?_ | refine of_is_set ?_ | refine of_is_drew ?_ | refine of_is_drewN ?_ | exact of_is (by assumption) | (refine of_other ?_ ?hn; case hn => simp))) (by (repeat' with_reducible first | assumption | refine of_cdrew ?_ | refine of_cdrewN ?_ | refine of_same ?_ | refine of_is_set ?_ | refine of_is_drew ?_ | refine of_is_drewN ?_ | exact of_is (by assumption) | (refine of_other ?_ ?hn; case hn => simp))) (by (repeat' with_reducible first | assumption | refine of_cdrew ?_ | refine of_cdrewN ?_ | refine of_same ?_ | refine of_is_set ?_ | refine of_is_drew ?_ | refine of_is_drewN ?_ | exact of_is (by assumption) | (refine of_other ?_ ?hn; case hn => simp))) (by (repeat' with_reducible first | assumption | refine of_cdrew ?_ | refine of_cdrewN ?_ | refine of_same ?_ | refine of_is_set ?_ | refine of_is_drew ?_ | refine of_is_drewN ?_ | exact of_is (by assumption) | (refine of_other ?_ ?hn; case hn => simp))) ⟨rfl, ?_⟩
          (repeat' with_reducible first | assumption | refine Below.drew ?_ | refine of_drewN _ ?_ | (refine Below.setCell ?_ ?hn _; case hn => (simp <;> omega)))
    · have hl2 : ((2 : Int) ≤ (len.toNat : Int)) = True := eq_true (by omega)
      cases d
      · rw [if_neg (by decide)] at ht
        unfold of_imm at ht
        try simp only [show (1 : Int) + 1 = 2 from rfl, show (2 : Int) + 1 = 3 from rfl, show (3 : Int) + 1 = 4 from rfl] at ht
        by_cases hi2 : im = 2
        · subst hi2
          rw [if_pos rfl] at ht
          by_cases hml : (3 : Int) < len
          case neg => rw [if_neg hml] at ht; cases ht
          rw [if_pos hml] at ht
          obtain ⟨rfl, rfl, rfl, rfl, rfl, rfl, rfl⟩ := of_inj ht
          have hq : (len.toNat = 2) = False := eq_false (by omega)
          have hy0 : ((0 : Int) < ((len.toNat - 2 : Nat) : Int)) = True := eq_true (by omega)
          have hy1 : ((1 : Int) < ((len.toNat - 2 : Nat) : Int)) = True := eq_true (by omega)
          have hm0 : W.cell? ⟨ad.block, ad.off + 2, none⟩ = some (.int .u8 (rd l 2)) := hold _ _ (hcell 2 (by omega))
          have hm1 : W.cell? ⟨ad.block, ad.off + 2 + 1, none⟩ = some (.int .u8 (rd l 3)) := hold _ _ (hcell 3 (by omega))
          have hrel0 : (1 : Int) = 1 := rfl
          have hrel : Aside0 (decode_relative.f 0 = some false) := ⟨rfl⟩
          go_upto_region 38 with (first
         | (go_at_call 48; refine (decode_Needs.calls _ _ _ _ _ _ _ hN.out).mono ?_; rintro e w' ⟨rfl, ⟨nd1, rfl⟩⟩)
         | (go_at_call 49; refine (decode_size.calls _ _ _ _ _ _ hS.out).mono ?_; rintro e w' ⟨rfl, ⟨nd2, rfl⟩⟩)
         | (go_at_call 50; refine (decode_relative.calls _ _ _ hrel.out).mono ?_; rintro e w' ⟨rfl, ⟨nd3, rfl⟩⟩))
          go_region
          go_wp2
          refine of_post rfl rfl rfl (by (repeat' with_reducible first | assumption | refine of_cdrew ?_ | refine of_cdrewN ?_ | refine of_same ?_ | refine of_is_set ?_ | refine of_is_drew ?_ | refine of_is_drewN ?_ | exact of_is (by assumption) | (refine of_other ?_ ?hn; case hn => simp))) (by (repeat' with_reducible first | assumption | refine of_cdrew ?_ | refine of_cdrewN ?_ | refine of_same ?_ | refine of_is_set ?_ | refine of_is_drew ?_ | refine of_is_drewN ?_ | exact of_is (by assumption) | (refine of_other ?_ ?hn; case hn => simp))) (by (repeat' with_reducible first | assumption | refine of_cdrew ?_ | refine of_cdrewN ?_ | refine of_same ?_ | refine of_is_set ?_ | refine of_is_drew ?_ | refine of_is_drewN ?_ | exact of_is (by assumption) | (refine of_other ?_ ?hn; case hn => simp))) (by (repeat' with_reducible first | assumption | refine of_cdrew ?_ | refine of_cdrewN ?_ | refine of_same ?_ | refine of_is_set ?_ | refine of_is_drew ?_ | refine of_is_drewN ?_ | exact of_is (by assumption) | (refine of_other ?_ ?hn; case hn => simp))) (by (repeat' with_reducible first | assumption | refine of_cdrew ?_ | refine of_cdrewN ?_ | refine of_same ?_ | refine of_is_set ?_ | refine of_is_drew ?_ | refine of_is_drewN ?_ | exact of_is (by assumption) | (refine of_other ?_ ?hn; case hn => simp))) (by (repeat' with_reducible first | assumption | refine of_cdrew ?_ | refine of_cdrewN ?_ | refine of_same ?_ | refine of_is_set ?_ | refine of_is_drew ?_ | refine of_is_drewN ?_ | exact of_is (by assumption) | (refine of_other ?_ ?hn; case hn => simp))) ⟨rfl, ?_⟩
          (repeat' with_reducible first | assumption | refine Below.drew ?_ | refine of_drewN _ ?_ | (refine Below.setCell ?_ ?hn _; case hn => (simp <;> omega)))
        rw [if_neg hi2] at ht
        by_cases hi1 : im = 1
        · subst hi1
          rw [if_pos rfl] at ht
          by_cases hml : (2 : Int) < len
          case neg => rw [if_neg hml] at ht; cases ht
          rw [if_pos hml] at ht
          have hq : (len.toNat = 2) = False := eq_false (by omega)
          have hy0 : ((0 : Int) < ((len.toNat - 2 : Nat) : Int)) = True := eq_true (by omega)
          have hm0 : W.cell? ⟨ad.block, ad.off + 2, none⟩ = some (.int .u8 (rd l 2)) := hold _ _ (hcell 2 (by omega))
          have hrel0 : (1 : Int) = 1 := rfl
          by_cases hs0 : s = 0
          · subst hs0
            rw [if_pos rfl] at ht
            obtain ⟨t, hrel, ht⟩ := Option.bind_eq_some_iff.1 ht
            replace hrel := Aside0.mk hrel
            cases t
            · rw [if_neg (by decide)] at ht
              obtain ⟨rfl, rfl, rfl, rfl, rfl, rfl, rfl⟩ := of_inj ht
              go_wp2_with (first
         | (go_at_call 48; refine (decode_Needs.calls _ _ _ _ _ _ _ hN.out).mono ?_; rintro e w' ⟨rfl, ⟨nd1, rfl⟩⟩)
         | (go_at_call 49; refine (decode_size.calls _ _ _ _ _ _ hS.out).mono ?_; rintro e w' ⟨rfl, ⟨nd2, rfl⟩⟩)
         | (go_at_call 50; refine (decode_relative.calls _ _ _ hrel.out).mono ?_; rintro e w' ⟨rfl, ⟨nd3, rfl⟩⟩))
              refine of_post rfl rfl rfl (by (repeat' with_reducible first | assumption | refine of_cdrew ?_ | refine of_cdrewN ?_ | refine of_same ?_ | refine of_is_set ?_ | refine of_is_drew ?_ | refine of_is_drewN ?_ | exact of_is (by assumption) | (refine of_other ?_ ?hn; case hn => simp))) (by (repeat' with_reducible first | assumption | refine of_cdrew ?_ | refine of_cdrewN ?_ | refine of_same ?_ | refine of_is_set ?_ | refine of_is_drew ?_ | refine of_is_drewN ?_ | exact of_is (by assumption) | (refine of_other ?_ ?hn; case hn => simp))) (by (repeat' with_reducible first | assumption | refine of_cdrew ?_ | refine of_cdrewN ?_ | refine of_same ?_ | refine of_is_set ?_ | refine of_is_drew ?_ | refine of_is_drewN ?_ | exact of_is (by assumption) | (refine of_other ?_ ?hn; case hn => simp))) (by (repeat' with_reducible first | assumption | refine of_cdrew ?_ | refine of_cdrewN ?_ | refine of_same ?_ | refine of_is_set ?_ | refine of_is_drew ?_ | refine of_is_drewN ?_ | exact of_is (by assumption) | (refine of_other ?_ ?hn; case hn => simp))) (by (repeat' with_reducible first | assumption | refine of_cdrew ?_ | refine of_cdrewN ?_ | refine of_same ?_ | refine of_is_set ?_ | refine of_is_drew ?_ | refine of_is_drewN ?_ | exact of_is (by assumption) | (refine of_other ?_ ?hn; case hn => simp))) (by (repeat' with_reducible first | assumption | refine of_cdrew ?_ | refine of_cdrewN ?_ | refine of_same ?_ | refine of_is_set ?_ | refine of_is_drew ?_ | refine of_is_drewN ?_ | exact of_is (by assumption) | (refine of_other ?_ ?hn; case hn => simp))) ⟨rfl, ?_⟩
              (repeat' with_reducible first | assumption | refine Below.drew ?_ | refine of_drewN _ ?_ | (refine Below.setCell ?_ ?hn _; case hn => (simp <;> omega)))
            · rw [if_pos rfl] at ht
              obtain ⟨rfl, rfl, rfl, rfl, rfl, rfl, rfl⟩ := of_inj ht
              go_wp2_with (first
         | (go_at_call 48; refine (decode_Needs.calls _ _ _ _ _ _ _ hN.out).mono ?_; rintro e w' ⟨rfl, ⟨nd1, rfl⟩⟩)
         | (go_at_call 49; refine (decode_size.calls _ _ _ _ _ _ hS.out).mono ?_; rintro e w' ⟨rfl, ⟨nd2, rfl⟩⟩)
         | (go_at_call 50; refine (decode_relative.calls _ _ _ hrel.out).mono ?_; rintro e w' ⟨rfl, ⟨nd3, rfl⟩⟩))
              refine of_post rfl rfl rfl (by (repeat' with_reducible first | assumption | refine of_cdrew ?_ | refine of_cdrewN ?_ | refine of_same ?_ | refine of_is_set ?_ | refine of_is_drew ?_ | refine of_is_drewN ?_ | exact of_is (by assumption) | (refine of_other ?_ ?hn; case hn => simp))) (by (repeat' with_reducible first | assumption | refine of_cdrew ?_ | refine of_cdrewN ?_ | refine of_same ?_ | refine of_is_set ?_ | refine of_is_drew ?_ | refine of_is_drewN ?_ | exact of_is (by assumption) | (refine of_other ?_ ?hn; case hn => simp))) (by (repeat' with_reducible first | assumption | refine of_cdrew ?_ | refine of_cdrewN ?_ | refine of_same ?_ | refine of_is_set ?_ | refine of_is_drew ?_ | refine of_is_drewN ?_ | exact of_is (by assumption) | (refine of_other ?_ ?hn; case hn => simp))) (by (repeat' with_reducible first | assumption | refine of_cdrew ?_ | refine of_cdrewN ?_ | refine of_same ?_ | refine of_is_set ?_ | refine of_is_drew ?_ | refine of_is_drewN ?_ | exact of_is (by assumption) | (refine of_other ?_ ?hn; case hn => simp))) (by (repeat' with_reducible first | assumption | refine of_cdrew ?_ | refine of_cdrewN ?_ | refine of_same ?_ | refine of_is_set ?_ | refine of_is_drew ?_ | refine of_is_drewN ?_ | exact of_is (by assumption) | (refine of_other ?_ ?hn; case hn => simp))) (by (repeat' with_reducible first | assumption | refine of_cdrew ?_ | refine of_cdrewN ?_ | refine of_same ?_ | refine of_is_set ?_ | refine of_is_drew ?_ | refine of_is_drewN ?_ | exact of_is (by assumption) | (refine of_other ?_ ?hn; case hn => simp))) ⟨rfl, ?_⟩
              (repeat' with_reducible first | assumption | refine Below.drew ?_ | refine of_drewN _ ?_ | (refine Below.setCell ?_ ?hn _; case hn => (simp <;> omega)))
          · rw [if_neg hs0] at ht
            obtain ⟨rfl, rfl, rfl, rfl, rfl, rfl, rfl⟩ := of_inj ht
            have hs0b : (s == 0) = false := by simp [hs0]
            have hrel : Aside0 (decode_relative.f 0 = some false) := ⟨rfl⟩
            go_wp2_with (first
         | (go_at_call 48; refine (decode_Needs.calls _ _ _ _ _ _ _ hN.out).mono ?_; rintro e w' ⟨rfl, ⟨nd1, rfl⟩⟩)
         | (go_at_call 49; refine (decode_size.calls _ _ _ _ _ _ hS.out).mono ?_; rintro e w' ⟨rfl, ⟨nd2, rfl⟩⟩)
         | (go_at_call 50; refine (decode_relative.calls _ _ _ hrel.out).mono ?_; rintro e w' ⟨rfl, ⟨nd3, rfl⟩⟩))
            refine of_post rfl rfl rfl (by (repeat' with_reducible first | assumption | refine of_cdrew ?_ | refine of_cdrewN ?_ | refine of_same ?_ | refine of_is_set ?_ | refine of_is_drew ?_ | refine of_is_drewN ?_ | exact of_is (by assumption) | (refine of_other ?_ ?hn; case hn => simp))) (by (repeat' with_reducible first | assumption | refine of_cdrew ?_ | refine of_cdrewN ?_ | refine of_same ?_ | refine of_is_set ?_ | refine of_is_drew ?_ | refine of_is_drewN ?_ | exact of_is (by assumption) | (refine of_other ?_ ?hn; case hn => simp))) (by (repeat' with_reducible first | assumption | refine of_cdrew ?_ | refine of_cdrewN ?_ | refine of_same ?_ | refine of_is_set ?_ | refine of_is_drew ?_ | refine of_is_drewN ?_ | exact of_is (by assumption) | (refine of_other ?_ ?hn; case hn => simp))) (by (repeat' with_reducible first | assumption | refine of_cdrew ?_ | refine of_cdrewN ?_ | refine of_same ?_ | refine of_is_set ?_ | refine of_is_drew ?_ | refine of_is_drewN ?_ | exact of_is (by assumption) | (refine of_other ?_ ?hn; case hn => simp))) (by (repeat' with_reducible first | assumption | refine of_cdrew ?_ | refine of_cdrewN ?_ | refine of_same ?_ | refine of_is_set ?_ | refine of_is_drew ?_ | refine of_is_drewN ?_ | exact of_is (by assumption) | (refine of_other ?_ ?hn; case hn => simp))) (by (repeat' with_reducible first | assumption | refine of_cdrew ?_ | refine of_cdrewN ?_ | refine of_same ?_ | refine of_is_set ?_ | refine of_is_drew ?_ | refine of_is_drewN ?_ | exact of_is (by assumption) | (refine of_other ?_ ?hn; case hn => simp))) ⟨rfl, ?_⟩
            (repeat' with_reducible first | assumption | refine Below.drew ?_ | refine of_drewN _ ?_ | (refine Below.setCell ?_ ?hn _; case hn => (simp <;> omega)))
        rw [if_neg hi1] at ht
        obtain ⟨rfl, rfl, rfl, rfl, rfl, rfl, rfl⟩ := of_inj ht
        have hi2b : (im == 2) = false := by simp [hi2]
        have hi1b : (im == 1) = false := by simp [hi1]
        have hrel : Aside0 (decode_relative.f 0 = some false) := ⟨rfl⟩
        by_cases hqq : len.toNat = 2
        · replace hqq := eq_true hqq
          go_wp2_with (first
         | (go_at_call 48; refine (decode_Needs.calls _ _ _ _ _ _ _ hN.out).mono ?_; rintro e w' ⟨rfl, ⟨nd1, rfl⟩⟩)
         | (go_at_call 49; refine (decode_size.calls _ _ _ _ _ _ hS.out).mono ?_; rintro e w' ⟨rfl, ⟨nd2, rfl⟩⟩)
         | (go_at_call 50; refine (decode_relative.calls _ _ _ hrel.out).mono ?_; rintro e w' ⟨rfl, ⟨nd3, rfl⟩⟩))
          refine of_post rfl rfl rfl (by (repeat' with_reducible first | assumption | refine of_cdrew ?_ | refine of_cdrewN ?_ | refine of_same ?_ | refine of_is_set ?_ | refine of_is_drew ?_ | refine of_is_drewN ?_ | exact of_is (by assumption) | (refine of_other ?_ ?hn; case hn => simp))) (by (repeat' with_reducible first | assumption | refine of_cdrew ?_ | refine of_cdrewN ?_ | refine of_same ?_ | refine of_is_set ?_ | refine of_is_drew ?_ | refine of_is_drewN ?_ | exact of_is (by assumption) | (refine of_other ?_ ?hn; case hn => simp))) (by (repeat' with_reducible first | assumption | refine of_cdrew ?_ | refine of_cdrewN ?_ | refine of_same ?_ | refine of_is_set ?_ | refine of_is_drew ?_ | refine of_is_drewN ?_ | exact of_is (by assumption) | (refine of_other ?_ ?hn; case hn => simp))) (by (repeat' with_reducible first | assumption | refine of_cdrew ?_ | refine of_cdrewN ?_ | refine of_same ?_ | refine of_is_set ?_ | refine of_is_drew ?_ | refine of_is_drewN ?_ | exact of_is (by assumption) | (refine of_other ?_ ?hn; case hn => simp))) (by (repeat' with_reducible first | assumption | refine of_cdrew ?_ | refine of_cdrewN ?_ | refine of_same ?_ | refine of_is_set ?_ | refine of_is_drew ?_ | refine of_is_drewN ?_ | exact of_is (by assumption) | (refine of_other ?_ ?hn; case hn => simp))) (by (repeat' with_reducible first | assumption | refine of_cdrew ?_ | refine of_cdrewN ?_ | refine of_same ?_ | refine of_is_set ?_ | refine of_is_drew ?_ | refine of_is_drewN ?_ | exact of_is (by assumption) | (refine of_other ?_ ?hn; case hn => simp))) ⟨rfl, ?_⟩
          (repeat' with_reducible first | assumption | refine Below.drew ?_ | refine of_drewN _ ?_ | (refine Below.setCell ?_ ?hn _; case hn => (simp <;> omega)))
        · replace hqq := eq_false hqq
          go_wp2_with (first
         | (go_at_call 48; refine (decode_Needs.calls _ _ _ _ _ _ _ hN.out).mono ?_; rintro e w' ⟨rfl, ⟨nd1, rfl⟩⟩)
         | (go_at_call 49; refine (decode_size.calls _ _ _ _ _ _ hS.out).mono ?_; rintro e w' ⟨rfl, ⟨nd2, rfl⟩⟩)
         | (go_at_call 50; refine (decode_relative.calls _ _ _ hrel.out).mono ?_; rintro e w' ⟨rfl, ⟨nd3, rfl⟩⟩))
          refine of_post rfl rfl rfl (by (repeat' with_reducible first | assumption | refine of_cdrew ?_ | refine of_cdrewN ?_ | refine of_same ?_ | refine of_is_set ?_ | refine of_is_drew ?_ | refine of_is_drewN ?_ | exact of_is (by assumption) | (refine of_other ?_ ?hn; case hn => simp))) (by (repeat' with_reducible first | assumption | refine of_cdrew ?_ | refine of_cdrewN ?_ | refine of_same ?_ | refine of_is_set ?_ | refine of_is_drew ?_ | refine of_is_drewN ?_ | exact of_is (by assumption) | (refine of_other ?_ ?hn; case hn => simp))) (by (repeat' with_reducible first | assumption | refine of_cdrew ?_ | refine of_cdrewN ?_ | refine of_same ?_ | refine of_is_set ?_ | refine of_is_drew ?_ | refine of_is_drewN ?_ | exact of_is (by assumption) | (refine of_other ?_ ?hn; case hn => simp))) (by (repeat' with_reducible first | assumption | refine of_cdrew ?_ | refine of_cdrewN ?_ | refine of_same ?_ | refine of_is_set ?_ | refine of_is_drew ?_ | refine of_is_drewN ?_ | exact of_is (by assumption) | (refine of_other ?_ ?hn; case hn => simp))) (by (repeat' with_reducible first | assumption | refine of_cdrew ?_ | refine of_cdrewN ?_ | refine of_same ?_ | refine of_is_set ?_ | refine of_is_drew ?_ | refine of_is_drewN ?_ | exact of_is (by assumption) | (refine of_other ?_ ?hn; case hn => simp))) (by (repeat' with_reducible first | assumption | refine of_cdrew ?_ | refine of_cdrewN ?_ | refine of_same ?_ | refine of_is_set ?_ | refine of_is_drew ?_ | refine of_is_drewN ?_ | exact of_is (by assumption) | (refine of_other ?_ ?hn; case hn => simp))) ⟨rfl, ?_⟩
          (repeat' with_reducible first | assumption | refine Below.drew ?_ | refine of_drewN _ ?_ | (refine Below.setCell ?_ ?hn _; case hn => (simp <;> omega)))
      · rw [if_pos rfl] at ht
        by_cases hkm : (2 : Int) < len
        case neg => rw [if_neg hkm] at ht; cases ht
        rw [if_pos hkm] at ht
        have hq0 : ((2 : Int) < (len.toNat : Int)) = True := eq_true (by omega)
        have hq : (len.toNat = 2) = False := eq_false (by omega)
        have hz : (0 < len.toNat - 2) = True := eq_true (by omega)
        have hz1 : ((0 : Int) < ((len.toNat - 2 : Nat) : Int)) = True := eq_true (by omega)
        have hz2 : ((1 : Int) ≤ ((len.toNat - 2 : Nat) : Int)) = True := eq_true (by omega)
        have hc2 : W.cell? ⟨ad.block, ad.off + 2, none⟩ = some (.int .u8 (rd l 2)) := hold _ _ (hcell 2 (by omega))
        unfold of_imm at ht
        try simp only [show (1 : Int) + 1 = 2 from rfl, show (2 : Int) + 1 = 3 from rfl, show (3 : Int) + 1 = 4 from rfl] at ht
        by_cases hi2 : im = 2
        · subst hi2
          rw [if_pos rfl] at ht
          by_cases hml : (4 : Int) < len
          case neg => rw [if_neg hml] at ht; cases ht
          rw [if_pos hml] at ht
          obtain ⟨rfl, rfl, rfl, rfl, rfl, rfl, rfl⟩ := of_inj ht
          have hqq : (len.toNat - 2 = 1) = False := eq_false (by omega)
          have hy0 : ((0 : Int) < ((len.toNat - 2 - 1 : Nat) : Int)) = True := eq_true (by omega)
          have hy1 : ((1 : Int) < ((len.toNat - 2 - 1 : Nat) : Int)) = True := eq_true (by omega)
          have hm0 : W.cell? ⟨ad.block, ad.off + 2 + 1, none⟩ = some (.int .u8 (rd l 3)) := hold _ _ (hcell 3 (by omega))
          have hm1 : W.cell? ⟨ad.block, ad.off + 2 + 1 + 1, none⟩ = some (.int .u8 (rd l 4)) := hold _ _ (hcell 4 (by omega))
          have hrel0 : (1 : Int) = 1 := rfl
          have hrel : Aside0 (decode_relative.f 0 = some false) := ⟨rfl⟩
          go_upto_region 36 with (first
         | (go_at_call 48; refine (decode_Needs.calls _ _ _ _ _ _ _ hN.out).mono ?_; rintro e w' ⟨rfl, ⟨nd1, rfl⟩⟩)
         | (go_at_call 49; refine (decode_size.calls _ _ _ _ _ _ hS.out).mono ?_; rintro e w' ⟨rfl, ⟨nd2, rfl⟩⟩)
         | (go_at_call 50; refine (decode_relative.calls _ _ _ hrel.out).mono ?_; rintro e w' ⟨rfl, ⟨nd3, rfl⟩⟩))
          go_region
          go_upto_region 38 with fail
          go_region
          go_wp2
          refine of_post rfl rfl rfl (by (repeat' with_reducible first | assumption | refine of_cdrew ?_ | refine of_cdrewN ?_ | refine of_same ?_ | refine of_is_set ?_ | refine of_is_drew ?_ | refine of_is_drewN ?_ | exact of_is (by assumption) | (refine of_other ?_ ?hn; case hn => simp))) (by (repeat' with_reducible first | assumption | refine of_cdrew ?_ | refine of_cdrewN ?_ | refine of_same ?_ | refine of_is_set ?_ | refine of_is_drew ?_ | refine of_is_drewN ?_ | exact of_is (by assumption) | (refine of_other ?_ ?hn; case hn => simp))) (by (repeat' with_reducible first | assumption | refine of_cdrew ?_ | refine of_cdrewN ?_ | refine of_same ?_ | refine of_is_set ?_ | refine of_is_drew ?_ | refine of_is_drewN ?_ | exact of_is (by assumption) | (refine of_other ?_ ?hn; case hn => simp))) (by (repeat' with_reducible first | assumption | refine of_cdrew ?_ | refine of_cdrewN ?_ | refine of_same ?_ | refine of_is_set ?_ | refine of_is_drew ?_ | refine of_is_drewN ?_ | exact of_is (by assumption) | (refine of_other ?_ ?hn; case hn => simp))) (by (repeat' with_reducible first | assumption | refine of_cdrew ?_ | refine of_cdrewN ?_ | refine of_same ?_ | refine of_is_set ?_ | refine of_is_drew ?_ | refine of_is_drewN ?_ | exact of_is (by assumption) | (refine of_other ?_ ?hn; case hn => simp))) (by (repeat' with_reducible first | assumption | refine of_cdrew ?_ | refine of_cdrewN ?_ | refine of_same ?_ | refine of_is_set ?_ | refine of_is_drew ?_ | refine of_is_drewN ?_ | exact of_is (by assumption) | (refine of_other ?_ ?hn; case hn => simp))) ⟨rfl, ?_⟩
          (repeat' with_reducible first | assumption | refine Below.drew ?_ | refine of_drewN _ ?_ | (refine Below.setCell ?_ ?hn _; case hn => (simp <;> omega)))
        rw [if_neg hi2] at ht
        by_cases hi1 : im = 1
        · subst hi1
          rw [if_pos rfl] at ht
          by_cases hml : (3 : Int) < len
          case neg => rw [if_neg hml] at ht; cases ht
          rw [if_pos hml] at ht
          have hqq : (len.toNat - 2 = 1) = False := eq_false (by omega)
          have hy0 : ((0 : Int) < ((len.toNat - 2 - 1 : Nat) : Int)) = True := eq_true (by omega)
          have hm0 : W.cell? ⟨ad.block, ad.off + 2 + 1, none⟩ = some (.int .u8 (rd l 3)) := hold _ _ (hcell 3 (by omega))
          have hrel0 : (1 : Int) = 1 := rfl
          by_cases hs0 : s = 0
          · subst hs0
            rw [if_pos rfl] at ht
            obtain ⟨t, hrel, ht⟩ := Option.bind_eq_some_iff.1 ht
            replace hrel := Aside0.mk hrel
            cases t
            · rw [if_neg (by decide)] at ht
              obtain ⟨rfl, rfl, rfl, rfl, rfl, rfl, rfl⟩ := of_inj ht
              go_upto_region 36 with (first
         | (go_at_call 48; refine (decode_Needs.calls _ _ _ _ _ _ _ hN.out).mono ?_; rintro e w' ⟨rfl, ⟨nd1, rfl⟩⟩)
         | (go_at_call 49; refine (decode_size.calls _ _ _ _ _ _ hS.out).mono ?_; rintro e w' ⟨rfl, ⟨nd2, rfl⟩⟩)
         | (go_at_call 50; refine (decode_relative.calls _ _ _ hrel.out).mono ?_; rintro e w' ⟨rfl, ⟨nd3, rfl⟩⟩))
              go_region
              go_wp2_with (first
         | (go_at_call 48; refine (decode_Needs.calls _ _ _ _ _ _ _ hN.out).mono ?_; rintro e w' ⟨rfl, ⟨nd1, rfl⟩⟩)
         | (go_at_call 49; refine (decode_size.calls _ _ _ _ _ _ hS.out).mono ?_; rintro e w' ⟨rfl, ⟨nd2, rfl⟩⟩)
         | (go_at_call 50; refine (decode_relative.calls _ _ _ hrel.out).mono ?_; rintro e w' ⟨rfl, ⟨nd3, rfl⟩⟩))
              refine of_post rfl rfl rfl (by (repeat' with_reducible first | assumption | refine of_cdrew ?_ | refine of_cdrewN ?_ | refine of_same ?_ | refine of_is_set ?_ | refine of_is_drew ?_ | refine of_is_drewN ?_ | exact of_is (by assumption) | (refine of_other ?_ ?hn; case hn => simp))) (by (repeat' with_reducible first | assumption | refine of_cdrew ?_ | refine of_cdrewN ?_ | refine of_same ?_ | refine of_is_set ?_ | refine of_is_drew ?_ | refine of_is_drewN ?_ | exact of_is (by assumption) | (refine of_other ?_ ?hn; case hn => simp))) (by (repeat' with_reducible first | assumption | refine of_cdrew ?_ | refine of_cdrewN ?_ | refine of_same ?_ | refine of_is_set ?_ | refine of_is_drew ?_ | refine of_is_drewN ?_ | exact of_is (by assumption) | (refine of_other ?_ ?hn; case hn => simp))) (by (repeat' with_reducible first | assumption | refine of_cdrew ?_ | refine of_cdrewN ?_ | refine of_same ?_ | refine of_is_set ?_ | refine of_is_drew ?_ | refine of_is_drewN ?_ | exact of_is (by assumption) | (refine of_other ?_ ?hn; case hn => simp))) (by (repeat' with_reducible first | assumption | refine of_cdrew ?_ | refine of_cdrewN ?_ | refine of_same ?_ | refine of_is_set ?_ | refine of_is_drew ?_ | refine of_is_drewN ?_ | exact of_is (by assumption) | (refine of_other ?_ ?hn; case hn => simp))) (by (repeat' with_reducible first | assumption | refine of_cdrew ?_ | refine of_cdrewN ?_ | refine of_same ?_ | refine of_is_set ?_ | refine of_is_drew ?_ | refine of_is_drewN ?_ | exact of_is (by assumption) | (refine of_other ?_ ?hn; case hn => simp))) ⟨rfl, ?_⟩
              (repeat' with_reducible first | assumption | refine Below.drew ?_ | refine of_drewN _ ?_ | (refine Below.setCell ?_ ?hn _; case hn => (simp <;> omega)))
            · rw [if_pos rfl] at ht
              obtain ⟨rfl, rfl, rfl, rfl, rfl, rfl, rfl⟩ := of_inj ht
              go_upto_region 36 with (first
         | (go_at_call 48; refine (decode_Needs.calls _ _ _ _ _ _ _ hN.out).mono ?_; rintro e w' ⟨rfl, ⟨nd1, rfl⟩⟩)
         | (go_at_call 49; refine (decode_size.calls _ _ _ _ _ _ hS.out).mono ?_; rintro e w' ⟨rfl, ⟨nd2, rfl⟩⟩)
         | (go_at_call 50; refine (decode_relative.calls _ _ _ hrel.out).mono ?_; rintro e w' ⟨rfl, ⟨nd3, rfl⟩⟩))
              go_region
              go_wp2_with (first
         | (go_at_call 48; refine (decode_Needs.calls _ _ _ _ _ _ _ hN.out).mono ?_; rintro e w' ⟨rfl, ⟨nd1, rfl⟩⟩)
         | (go_at_call 49; refine (decode_size.calls _ _ _ _ _ _ hS.out).mono ?_; rintro e w' ⟨rfl, ⟨nd2, rfl⟩⟩)
         | (go_at_call 50; refine (decode_relative.calls _ _ _ hrel.out).mono ?_; rintro e w' ⟨rfl, ⟨nd3, rfl⟩⟩))
              refine of_post rfl rfl rfl (by (repeat' with_reducible first | assumption | refine of_cdrew ?_ | refine of_cdrewN ?_ | refine of_same ?_ | refine of_is_set ?_ | refine of_is_drew ?_ | refine of_is_drewN ?_ | exact of_is (by assumption) | (refine of_other ?_ ?hn; case hn => simp))) (by (repeat' with_reducible first | assumption | refine of_cdrew ?_ | refine of_cdrewN ?_ | refine of_same ?_ | refine of_is_set ?_ | refine of_is_drew ?_ | refine of_is_drewN ?_ | exact of_is (by assumption) | (refine of_other ?_ ?hn; case hn => simp))) (by (repeat' with_reducible first | assumption | refine of_cdrew ?_ | refine of_cdrewN ?_ | refine of_same ?_ | refine of_is_set ?_ | refine of_is_drew ?_ | refine of_is_drewN ?_ | exact of_is (by assumption) | (refine of_other ?_ ?hn; case hn => simp))) (by (repeat' with_reducible first | assumption | refine of_cdrew ?_ | refine of_cdrewN ?_ | refine of_same ?_ | refine of_is_set ?_ | refine of_is_drew ?_ | refine of_is_drewN ?_ | exact of_is (by assumption) | (refine of_other ?_ ?hn; case hn => simp))) (by (repeat' with_reducible first | assumption | refine of_cdrew ?_ | refine of_cdrewN ?_ | refine of_same ?_ | refine of_is_set ?_ | refine of_is_drew ?_ | refine of_is_drewN ?_ | exact of_is (by assumption) | (refine of_other ?_ ?hn; case hn => simp))) (by (repeat' with_reducible first | assumption | refine of_cdrew ?_ | refine of_cdrewN ?_ | refine of_same ?_ | refine of_is_set ?_ | refine of_is_drew ?_ | refine of_is_drewN ?_ | exact of_is (by assumption) | (refine of_other ?_ ?hn; case hn => simp))) ⟨rfl, ?_⟩
              (repeat' with_reducible first | assumption | refine Below.drew ?_ | refine of_drewN _ ?_ | (refine Below.setCell ?_ ?hn _; case hn => (simp <;> omega)))
          · rw [if_neg hs0] at ht
            obtain ⟨rfl, rfl, rfl, rfl, rfl, rfl, rfl⟩ := of_inj ht
            have hs0b : (s == 0) = false := by simp [hs0]
            have hrel : Aside0 (decode_relative.f 0 = some false) := ⟨rfl⟩
            go_upto_region 36 with (first
         | (go_at_call 48; refine (decode_Needs.calls _ _ _ _ _ _ _ hN.out).mono ?_; rintro e w' ⟨rfl, ⟨nd1, rfl⟩⟩)
         | (go_at_call 49; refine (decode_size.calls _ _ _ _ _ _ hS.out).mono ?_; rintro e w' ⟨rfl, ⟨nd2, rfl⟩⟩)
         | (go_at_call 50; refine (decode_relative.calls _ _ _ hrel.out).mono ?_; rintro e w' ⟨rfl, ⟨nd3, rfl⟩⟩))
            go_region
            go_wp2_with (first
         | (go_at_call 48; refine (decode_Needs.calls _ _ _ _ _ _ _ hN.out).mono ?_; rintro e w' ⟨rfl, ⟨nd1, rfl⟩⟩)
         | (go_at_call 49; refine (decode_size.calls _ _ _ _ _ _ hS.out).mono ?_; rintro e w' ⟨rfl, ⟨nd2, rfl⟩⟩)
         | (go_at_call 50; refine (decode_relative.calls _ _ _ hrel.out).mono ?_; rintro e w' ⟨rfl, ⟨nd3, rfl⟩⟩))
            refine of_post rfl rfl rfl (by (repeat' with_reducible first | assumption | refine of_cdrew ?_ | refine of_cdrewN ?_ | refine of_same ?_ | refine of_is_set ?_ | refine of_is_drew ?_ | refine of_is_drewN ?_ | exact of_is (by assumption) | (refine of_other ?_ ?hn; case hn => simp))) (by (repeat' with_reducible first | assumption | refine of_cdrew ?_ | refine of_cdrewN ?_ | refine of_same ?_ | refine of_is_set ?_ | refine of_is_drew ?_ | refine of_is_drewN ?_ | exact of_is (by assumption) | (refine of_other ?_ ?hn; case hn => simp))) (by (repeat' with_reducible first | assumption | refine of_cdrew ?_ | refine of_cdrewN ?_ | refine of_same ?_ | refine of_is_set ?_ | refine of_is_drew ?_ | refine of_is_drewN ?_ | exact of_is (by assumption) | (refine of_other ?_ ?hn; case hn => simp))) (by (repeat' with_reducible first | assumption | refine of_cdrew ?_ | refine of_cdrewN ?_ | refine of_same ?_ | refine of_is_set ?_ | refine of_is_drew ?_ | refine of_is_drewN ?_ | exact of_is (by assumption) | (refine of_other ?_ ?hn; case hn => simp))) (by (repeat' with_reducible first | assumption | refine of_cdrew ?_ | refine of_cdrewN ?_ | refine of_same ?_ | refine of_is_set ?_ | refine of_is_drew ?_ | refine of_is_drewN ?_ | exact of_is (by assumption) | (refine of_other ?_ ?hn; case hn => simp))) (by (repeat' with_reducible first | assumption | refine of_cdrew ?_ | refine of_cdrewN ?_ | refine of_same ?_ | refine of_is_set ?_ | refine of_is_drew ?_ | refine of_is_drewN ?_ | exact of_is (by assumption) | (refine of_other ?_ ?hn; case hn => simp))) ⟨rfl, ?_⟩
            (repeat' with_reducible first | assumption | refine Below.drew ?_ | refine of_drewN _ ?_ | (refine Below.setCell ?_ ?hn _; case hn => (simp <;> omega)))
        rw [if_neg hi1] at ht
        obtain ⟨rfl, rfl, rfl, rfl, rfl, rfl, rfl⟩ := of_inj ht
        have hi2b : (im == 2) = false := by simp [hi2]
        have hi1b : (im == 1) = false := by simp [hi1]
        have hrel : Aside0 (decode_relative.f 0 = some false) := ⟨rfl⟩
        by_cases hqq : len.toNat - 2 = 1
        · replace hqq := eq_true hqq
          go_upto_region 36 with (first
         | (go_at_call 48; refine (decode_Needs.calls _ _ _ _ _ _ _ hN.out).mono ?_; rintro e w' ⟨rfl, ⟨nd1, rfl⟩⟩)
         | (go_at_call 49; refine (decode_size.calls _ _ _ _ _ _ hS.out).mono ?_; rintro e w' ⟨rfl, ⟨nd2, rfl⟩⟩)
         | (go_at_call 50; refine (decode_relative.calls _ _ _ hrel.out).mono ?_; rintro e w' ⟨rfl, ⟨nd3, rfl⟩⟩))
          go_region
          go_wp2_with (first
         | (go_at_call 48; refine (decode_Needs.calls _ _ _ _ _ _ _ hN.out).mono ?_; rintro e w' ⟨rfl, ⟨nd1, rfl⟩⟩)
         | (go_at_call 49; refine (decode_size.calls _ _ _ _ _ _ hS.out).mono ?_; rintro e w' ⟨rfl, ⟨nd2, rfl⟩⟩)
         | (go_at_call 50; refine (decode_relative.calls _ _ _ hrel.out).mono ?_; rintro e w' ⟨rfl, ⟨nd3, rfl⟩⟩))
          refine of_post rfl rfl rfl (by (repeat' with_reducible first | assumption | refine of_cdrew ?_ | refine of_cdrewN ?_ | refine of_same ?_ | refine of_is_set ?_ | refine of_is_drew ?_ | refine of_is_drewN ?_ | exact of_is (by assumption) | (refine of_other ?_ ?hn; case hn => simp))) (by (repeat' with_reducible first | assumption | refine of_cdrew ?_ | refine of_cdrewN ?_ | refine of_same ?_ | refine of_is_set ?_ | refine of_is_drew ?_ | refine of_is_drewN ?_ | exact of_is (by assumption) | (refine of_other ?_ ?hn; case hn => simp))) (by (repeat' with_reducible first | assumption | refine of_cdrew ?_ | refine of_cdrewN ?_ | refine of_same ?_ | refine of_is_set ?_ | refine of_is_drew ?_ | refine of_is_drewN ?_ | exact of_is (by assumption) | (refine of_other ?_ ?hn; case hn => simp))) (by (repeat' with_reducible first | assumption | refine of_cdrew ?_ | refine of_cdrewN ?_ | refine of_same ?_ | refine of_is_set ?_ | refine of_is_drew ?_ | refine of_is_drewN ?_ | exact of_is (by assumption) | (refine of_other ?_ ?hn; case hn => simp))) (by (repeat' with_reducible first | assumption | refine of_cdrew ?_ | refine of_cdrewN ?_ | refine of_same ?_ | refine of_is_set ?_ | refine of_is_drew ?_ | refine of_is_drewN ?_ | exact of_is (by assumption) | (refine of_other ?_ ?hn; case hn => simp))) (by (repeat' with_reducible first | assumption | refine of_cdrew ?_ | refine of_cdrewN ?_ | refine of_same ?_ | refine of_is_set ?_ | refine of_is_drew ?_ | refine of_is_drewN ?_ | exact of_is (by assumption) | (refine of_other ?_ ?hn; case hn => simp))) ⟨rfl, ?_⟩
          (repeat' with_reducible first | assumption | refine Below.drew ?_ | refine of_drewN _ ?_ | (refine Below.setCell ?_ ?hn _; case hn => (simp <;> omega)))
        · replace hqq := eq_false hqq
          go_upto_region 36 with (first
         | (go_at_call 48; refine (decode_Needs.calls _ _ _ _ _ _ _ hN.out).mono ?_; rintro e w' ⟨rfl, ⟨nd1, rfl⟩⟩)
         | (go_at_call 49; refine (decode_size.calls _ _ _ _ _ _ hS.out).mono ?_; rintro e w' ⟨rfl, ⟨nd2, rfl⟩⟩)
         | (go_at_call 50; refine (decode_relative.calls _ _ _ hrel.out).mono ?_; rintro e w' ⟨rfl, ⟨nd3, rfl⟩⟩))
          go_region
          go_wp2_with (first
         | (go_at_call 48; refine (decode_Needs.calls _ _ _ _ _ _ _ hN.out).mono ?_; rintro e w' ⟨rfl, ⟨nd1, rfl⟩⟩)
         | (go_at_call 49; refine (decode_size.calls _ _ _ _ _ _ hS.out).mono ?_; rintro e w' ⟨rfl, ⟨nd2, rfl⟩⟩)
         | (go_at_call 50; refine (decode_relative.calls _ _ _ hrel.out).mono ?_; rintro e w' ⟨rfl, ⟨nd3, rfl⟩⟩))
          refine of_post rfl rfl rfl (by (repeat' with_reducible first | assumption | refine of_cdrew ?_ | refine of_cdrewN ?_ | refine of_same ?_ | refine of_is_set ?_ | refine of_is_drew ?_ | refine of_is_drewN ?_ | exact of_is (by assumption) | (refine of_other ?_ ?hn; case hn => simp))) (by (repeat' with_reducible first | assumption | refine of_cdrew ?_ | refine of_cdrewN ?_ | refine of_same ?_ | refine of_is_set ?_ | refine of_is_drew ?_ | refine of_is_drewN ?_ | exact of_is (by assumption) | (refine of_other ?_ ?hn; case hn => simp))) (by (repeat' with_reducible first | assumption | refine of_cdrew ?_ | refine of_cdrewN ?_ | refine of_same ?_ | refine of_is_set ?_ | refine of_is_drew ?_ | refine of_is_drewN ?_ | exact of_is (by assumption) | (refine of_other ?_ ?hn; case hn => simp))) (by (repeat' with_reducible first | assumption | refine of_cdrew ?_ | refine of_cdrewN ?_ | refine of_same ?_ | refine of_is_set ?_ | refine of_is_drew ?_ | refine of_is_drewN ?_ | exact of_is (by assumption) | (refine of_other ?_ ?hn; case hn => simp))) (by (repeat' with_reducible first | assumption | refine of_cdrew ?_ | refine of_cdrewN ?_ | refine of_same ?_ | refine of_is_set ?_ | refine of_is_drew ?_ | refine of_is_drewN ?_ | exact of_is (by assumption) | (refine of_other ?_ ?hn; case hn => simp))) (by (repeat' with_reducible first | assumption | refine of_cdrew ?_ | refine of_cdrewN ?_ | refine of_same ?_ | refine of_is_set ?_ | refine of_is_drew ?_ | refine of_is_drewN ?_ | exact of_is (by assumption) | (refine of_other ?_ ?hn; case hn => simp))) ⟨rfl, ?_⟩
          (repeat' with_reducible first | assumption | refine Below.drew ?_ | refine of_drewN _ ?_ | (refine Below.setCell ?_ ?hn _; case hn => (simp <;> omega)))

set_option maxHeartbeats 4000000 in
set_option maxRecDepth 100000 in
theorem of_empty (A0 : Option Addr) (c0 : Nat) (w : World) :
    Calls Try.prog 27 #[.slice A0 0 c0] w fun e w' => e = .returned (.tuple #[.agg #[.int .i64 0, .int .i64 0, .int .i64 0, .int .i64 0, .int .i64 0, .int .i64 0], .int .i64 5]) ∧ Below w.heap.size w w' := by
  have hmf : ∀ (fn : Fn) (first cap : Array Value) (w : World), (Instr.makeFunc fn first cap).run Try.prog w = .ok (.func fn first cap) w := fun _ _ _ _ => rfl
  go_enter Try.func27, Try.ntmps27
  go_wp2
  refine of_post rfl rfl rfl (by simp [go_sem]) (by simp [go_sem]) (by simp [go_sem]) (by simp [go_sem]) (by simp [go_sem]) (by simp [go_sem]) ⟨rfl, ?_⟩
  exact of_base w _ _ _
theorem decode_Of.calls (A0 : Option Addr) (c0 : Nat) (l0 : List Int) (r1 r2 r3 r4 r5 r6 r7 : Int) (w : World) (hr0 : Kd.C (Kd.int .u8) w A0 l0.length l0) (hc0 : l0.length ≤ c0) (h : decode_Of.f l0 = some (r1, r2, r3, r4, r5, r6, r7)) :
    Calls Try.prog 27 #[.slice A0 l0.length c0] w fun e w' => e = .returned (.tuple #[.agg #[.int .i64 r1, .int .i64 r2, .int .i64 r3, .int .i64 r4, .int .i64 r5, .int .i64 r6], .int .i64 r7]) ∧ Below w.heap.size w w' := by
  rcases Nat.eq_zero_or_pos l0.length with hz | hz
  · unfold decode_Of.f at h
    rw [if_pos hz] at h
    obtain ⟨rfl, rfl, rfl, rfl, rfl, rfl, rfl⟩ := of_inj h
    rw [hz]
    exact of_empty A0 c0 w
  · obtain ⟨ad, rfl, _⟩ := Kd.at_int hr0 0 (by decide) (by omega)
    refine of_main ad c0 l0.length l0 w r1 r2 r3 r4 r5 r6 r7 rfl hz (fun j hj => ?_) hc0 h
    obtain ⟨ad', he, hc⟩ := Kd.at_int hr0 j (by omega) (by omega)
    cases he
    simpa using hc

end Go.Proofs.Ythcokhnckbkecaa.HDecode
