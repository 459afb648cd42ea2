-- Written by a program of this session out of Lean's print of the program (after the form of the kit's print.sh, with own turns); Lean checks it.
import Derived.Test.YthcokhnckbkecaaHTonex0
import Derived.Test.YthcokhnckbkecaaHTonex3
namespace Go.Proofs.Ythcokhnckbkecaa.HTone
open Go.RowKit Go.Proofs.YthcokhnckbkecaaW.PrintWords Go.Proofs.YthcokhnckbkecaaW.PrintLast Go.Proofs.YthcokhnckbkecaaW.PrintMore
attribute [local go_sem] max2_int min2_int max_two min_two max_three min_three max_four min_four   -- for this text's walks alone
set_option linter.unusedVariables false
set_option linter.unusedSimpArgs false

/-! ### tone_Samples: function 13, by hand -/
def vol (a : Int) : Int := wrap64 ((wrap64 ((mn 15 (mx 0 a)) * (mn 15 (mx 0 a)))) * 30)
def hearV (a b c d : Int) : Int := wrap64 (wrap64 (wrap64 (vol a + vol b) + vol c) + wrap64 (2000 * d))
set_option maxHeartbeats 8000000 in
set_option maxRecDepth 100000 in
theorem vol_quiet (a0 : Int) (w : World) : Calls Try.prog 18 #[.int .i64 a0] w fun e w' => e = .returned (.int .i64 (vol a0)) ∧ w' = w := by
  unfold vol
  obtain ⟨ji2, hji2⟩ : ∃ j_ : Int, (mx 0 a0) = j_ := ⟨_, rfl⟩
  have hji2l : 0 ≤ ji2 := by (rw [← hji2]; unfold mx; (repeat' split) <;> omega)
  have hji2_ : (if 0 < a0 then a0 else 0) = ji2 := hji2
  rw [hji2]
  obtain ⟨ji3, hji3⟩ : ∃ j_ : Int, (mn 15 (ji2)) = j_ := ⟨_, rfl⟩
  have hji3_ : (if (ji2) < 15 then (ji2) else 15) = ji3 := hji3
  rw [hji3]
  go_enter Try.func18, Try.ntmps18
  go_wp2
  go_ret
  exact ⟨rfl, rfl⟩
/-- The history gone through up to a time: what is left, the levels, the bits. -/
def advW (t : Int) : List S28 → Int → Int → Int → Int → List S28 × Int × Int × Int × Int
  | [], a, b, c, d => ([], a, b, c, d)
  | e :: r, a, b, c, d =>
    if e.f0 ≤ t then
      (if e.f3 = 10 then advW t r a b c e.f5
      else if e.f3 = 11 then (if e.f4 < 3 then advW t r (if e.f4 = 0 then e.f5 else a) (if e.f4 = 1 then e.f5 else b) (if e.f4 = 2 then e.f5 else c) d else advW t r a b c d)
      else advW t r a b c d)
    else (e :: r, a, b, c, d)
/-- What the closure holds. -/
structure HSt (w0 : World) (gl gb gv : Nat) (l : List S28) (a b c d : Int) (W : World) : Prop where
  below : Below w0.heap.size w0 W
  L : ∃ A cp, W.cell? ⟨gl, 0, none⟩ = some (.slice A l.length cp) ∧ Kd.C k28 w0 A l.length l ∧ l.length ≤ cp
  B : W.cell? ⟨gb, 0, none⟩ = some (.int .i64 d)
  V0 : W.cell? ⟨gv, 0, none⟩ = some (.int .i64 a)
  V1 : W.cell? ⟨gv, 1, none⟩ = some (.int .i64 b)
  V2 : W.cell? ⟨gv, 2, none⟩ = some (.int .i64 c)
  F : ∀ g k, (g = gl ∨ g = gb ∨ g = gv) → W.frozen? ⟨g, k, none⟩ = false
theorem tk_old (W : World) (o : Obj) {a : Addr} {v : Value} (h : W.cell? a = some v) : (W.alloc o).cell? a = some v := (World.cell?_alloc_lt _ _ _ (World.block_lt_of_cell? W a h)).trans h
theorem tk_frozen (W : World) (o : Obj) {a : Addr} {v : Value} (h : W.cell? a = some v) (k : Nat) (hf : W.frozen? ⟨a.block, k, none⟩ = false) : (W.alloc o).frozen? ⟨a.block, k, none⟩ = false := by
  have hb := World.block_lt_of_cell? W a h
  exact (World.frozen?_of_block (w := W) (a := ⟨a.block, k, none⟩) (Below.heap_alloc W o a.block hb)).trans hf
theorem tk_same {V : World} {p : Addr} {x y : Value} (h : V.cell? p = some y) : (V.setCell p x).cell? p = some x := World.cell?_setCell_same V p x h
theorem tk_far {V : World} {p q : Addr} {x v : Value} (h : V.cell? q = some v) (hn : p ≠ q) : (V.setCell p x).cell? q = some v := (World.cell?_setCell_other V p q x hn).trans h
theorem HSt.alloc {w0 W : World} {gl gb gv : Nat} {l : List S28} {a b c d : Int} (h : HSt w0 gl gb gv l a b c d W) (o : Obj) : HSt w0 gl gb gv l a b c d (W.alloc o) := by
  obtain ⟨hb, ⟨A, cp, hL, hC, hcp⟩, hB, hV0, hV1, hV2, hF⟩ := h
  refine ⟨hb.alloc hb.size o, ⟨A, cp, tk_old _ _ hL, hC, hcp⟩, tk_old _ _ hB, tk_old _ _ hV0, tk_old _ _ hV1, tk_old _ _ hV2, fun g k hg => ?_⟩
  rcases hg with rfl | rfl | rfl
  · exact tk_frozen W o hL k (hF _ k (.inl rfl))
  · exact tk_frozen W o hB k (hF _ k (.inr (.inl rfl)))
  · exact tk_frozen W o hV0 k (hF _ k (.inr (.inr rfl)))
theorem HSt.drewN {w0 W : World} {gl gb gv : Nat} {l : List S28} {a b c d : Int} (h : HSt w0 gl gb gv l a b c d W) (n : Nat) : HSt w0 gl gb gv l a b c d (W.drewN n) :=
  ⟨⟨h.below.os, h.below.tape, h.below.output, h.below.size, h.below.block⟩, h.L, h.B, h.V0, h.V1, h.V2, h.F⟩
section
variable {w0 W : World} {gl gb gv : Nat} {l : List S28} {a b c d : Int} (h : HSt w0 gl gb gv l a b c d W) (d1 : gl ≠ gb) (d2 : gl ≠ gv) (d3 : gb ≠ gv)
include h d1 d2
theorem HSt.setL {l' : List S28} {A : Option Addr} {n cp : Nat} (hl : w0.heap.size ≤ gl) (hn : n = l'.length) (hC : Kd.C k28 w0 A l'.length l') (hcp : l'.length ≤ cp) : HSt w0 gl gb gv l' a b c d (W.setCell ⟨gl, 0, none⟩ (.slice A n cp)) := by
  subst hn
  obtain ⟨hb, ⟨A', cp', hL, _, _⟩, hB, hV0, hV1, hV2, hF⟩ := h
  exact ⟨hb.setCell hl _, ⟨A, cp, tk_same hL, hC, hcp⟩, tk_far hB (by simp [d1]), tk_far hV0 (by simp [d2]), tk_far hV1 (by simp), tk_far hV2 (by simp), fun g k hg => (World.frozen?_setCell _ _ _ _).trans (hF g k hg)⟩
end
section
variable {w0 W : World} {gl gb gv : Nat} {l : List S28} {a b c d : Int} (h : HSt w0 gl gb gv l a b c d W)
include h
theorem HSt.setB (d1 : gl ≠ gb) (d3 : gb ≠ gv) (hl : w0.heap.size ≤ gb) (x : Int) : HSt w0 gl gb gv l a b c x (W.setCell ⟨gb, 0, none⟩ (.int .i64 x)) := by
  obtain ⟨hb, ⟨A', cp', hL, hC, hcp⟩, hB, hV0, hV1, hV2, hF⟩ := h
  exact ⟨hb.setCell hl _, ⟨A', cp', tk_far hL (by simp [Ne.symm d1]), hC, hcp⟩, tk_same hB, tk_far hV0 (by simp [d3]), tk_far hV1 (by simp), tk_far hV2 (by simp), fun g k hg => (World.frozen?_setCell _ _ _ _).trans (hF g k hg)⟩
theorem HSt.setV0 (d2 : gl ≠ gv) (d3 : gb ≠ gv) (hl : w0.heap.size ≤ gv) (x : Int) : HSt w0 gl gb gv l x b c d (W.setCell ⟨gv, 0, none⟩ (.int .i64 x)) := by
  obtain ⟨hb, ⟨A', cp', hL, hC, hcp⟩, hB, hV0, hV1, hV2, hF⟩ := h
  exact ⟨hb.setCell hl _, ⟨A', cp', tk_far hL (by simp [Ne.symm d2]), hC, hcp⟩, tk_far hB (by simp [Ne.symm d3]), tk_same hV0, tk_far hV1 (by simp), tk_far hV2 (by simp), fun g k hg => (World.frozen?_setCell _ _ _ _).trans (hF g k hg)⟩
theorem HSt.setV1 (d2 : gl ≠ gv) (d3 : gb ≠ gv) (hl : w0.heap.size ≤ gv) (x : Int) : HSt w0 gl gb gv l a x c d (W.setCell ⟨gv, 1, none⟩ (.int .i64 x)) := by
  obtain ⟨hb, ⟨A', cp', hL, hC, hcp⟩, hB, hV0, hV1, hV2, hF⟩ := h
  exact ⟨hb.setCell hl _, ⟨A', cp', tk_far hL (by simp), hC, hcp⟩, tk_far hB (by simp), tk_far hV0 (by simp), tk_same hV1, tk_far hV2 (by simp), fun g k hg => (World.frozen?_setCell _ _ _ _).trans (hF g k hg)⟩
theorem HSt.setV2 (d2 : gl ≠ gv) (d3 : gb ≠ gv) (hl : w0.heap.size ≤ gv) (x : Int) : HSt w0 gl gb gv l a b x d (W.setCell ⟨gv, 2, none⟩ (.int .i64 x)) := by
  obtain ⟨hb, ⟨A', cp', hL, hC, hcp⟩, hB, hV0, hV1, hV2, hF⟩ := h
  exact ⟨hb.setCell hl _, ⟨A', cp', tk_far hL (by simp), hC, hcp⟩, tk_far hB (by simp), tk_far hV0 (by simp), tk_far hV1 (by simp), tk_same hV2, fun g k hg => (World.frozen?_setCell _ _ _ _).trans (hF g k hg)⟩
end
theorem HSt.fresh {w0 W : World} {gl gb gv : Nat} {l : List S28} {a b c d : Int} (h : HSt w0 gl gb gv l a b c d W) : ∀ k, W.heap.size ≤ k → k ≠ gl ∧ k ≠ gb ∧ k ≠ gv := by
  obtain ⟨A, cp, hL, _⟩ := h.L
  have h1 := World.block_lt_of_cell? W _ hL
  have h2 := World.block_lt_of_cell? W _ h.B
  have h3 := World.block_lt_of_cell? W _ h.V0
  intro k hk
  simp only at h1 h2 h3
  exact ⟨by omega, by omega, by omega⟩
set_option maxHeartbeats 16000000 in
set_option maxRecDepth 100000 in
theorem hears1 (w0 : World) (gl gb gv : Nat) (hl : w0.heap.size ≤ gl) (hb : w0.heap.size ≤ gb) (hv : w0.heap.size ≤ gv) (d1 : gl ≠ gb) (d2 : gl ≠ gv) (d3 : gb ≠ gv) (t : Int) (W : World) (l : List S28) (a b c d : Int) (l' : List S28) (a' b' c' d' : Int) (hadv : advW t l a b c d = (l', a', b', c', d')) (hA : ∀ e ∈ l, 0 ≤ e.f4) (h : HSt w0 gl gb gv l a b c d W) :
    Calls Try.prog 56 #[.int .i64 t, .pointer (some ⟨gl, 0, none⟩), .pointer (some ⟨gb, 0, none⟩), .pointer (some ⟨gv, 0, none⟩)] W fun e W' => e = .returned (.int .i64 (hearV a' b' c' d')) ∧ HSt w0 gl gb gv l' a' b' c' d' W' ∧ Kept W W' (fun k => k = gl ∨ k = gb ∨ k = gv) := by
  replace hadv := Aside0.mk hadv
  replace hA := Aside0.mk hA
  replace h := Aside0.mk h
  go_enter Try.func56, Try.ntmps56
  go_wp2
  go_loopg [6] l.length (fun kq v6 W1 => ∃ (l1 : List S28) (a1 b1 c1 d1 : Int), kq = l1.length ∧ Aside0 (advW t l1 a1 b1 c1 d1 = (l', a', b', c', d')) ∧ Aside0 (∀ e ∈ l1, 0 ≤ e.f4) ∧ Aside0 (HSt w0 gl gb gv l1 a1 b1 c1 d1 W1) ∧ Aside0 (Kept W W1 (fun k => k = gl ∨ k = gb ∨ k = gv)))
  case atStart => exact ⟨l, a, b, c, d, rfl, hadv, hA, h, ⟨Kept.refl _ _⟩⟩
  case round =>
    clear hadv hA h
    obtain ⟨l1, a1, b1, c1, d1_, hk, HV, HA, HS, HK⟩ := hrel
    obtain ⟨hbel, ⟨A, cp, hL, hC, hcp⟩, hB, hV0, hV1, hV2, hF⟩ := HS.out
    have hFl := hF gl 0 (.inl rfl)
    have hFb := hF gb 0 (.inr (.inl rfl))
    have hFv0 := hF gv 0 (.inr (.inr rfl))
    have hFv1 := hF gv 1 (.inr (.inr rfl))
    have hFv2 := hF gv 2 (.inr (.inr rfl))
    clear hF
    replace hbel := Aside0.mk hbel
    replace hC := Aside0.mk hC
    replace hcp := Aside0.mk hcp
    cases l1 with
    | nil =>
      have hx := HV.out
      simp only [advW, Prod.mk.injEq] at hx
      obtain ⟨rfl, rfl, rfl, rfl, rfl⟩ := hx
      go_wp2
      repeat (go_quiet (first | (go_at_call 18; refine Calls.quiet_of_same (vol_quiet _ _))); try go_wp2)
      go_ret
      exact ⟨rfl, HS.out.drewN _, HK.out.drewN _⟩
    | cons e r =>
      obtain ⟨f0, f1, f2, f3, f4, f5⟩ := e
      have hA4 : 0 ≤ f4 := HA.out _ (List.mem_cons_self ..)
      obtain ⟨ad, he, h0, h1, h2, h3, h4, h5⟩ := at_T28 (Kd.C_below hC.out hbel.out) 0 (by decide) (by simp)
      subst he
      rw [show rd_T28 (⟨f0, f1, f2, f3, f4, f5⟩ :: r) 0 = ⟨f0, f1, f2, f3, f4, f5⟩ from rfl] at h0 h1 h2 h3 h4 h5
      simp only [show (0 : Int).toNat * 6 = 0 from rfl, show ad.add 0 = ad from rfl] at h0 h1 h2 h3 h4 h5
      have hn1 : _ ≠ gl := World.new_ne _ _ hL
      have hn2 : _ ≠ gb := World.new_ne _ _ hB
      have hn3 : _ ≠ gv := World.new_ne _ _ hV0
      have hn1' := Ne.symm hn1
      have hn2' := Ne.symm hn2
      have hn3' := Ne.symm hn3
      have hLa := fun o => tk_old _ o hL
      have hBa := fun o => tk_old _ o hB
      have hV0a := fun o => tk_old _ o hV0
      have hV1a := fun o => tk_old _ o hV1
      have hV2a := fun o => tk_old _ o hV2
      have hFla := fun o => tk_frozen _ o hL 0 hFl
      have hFba := fun o => tk_frozen _ o hB 0 hFb
      have hF0a := fun o => tk_frozen _ o hV0 0 hFv0
      have hF1a := fun o => tk_frozen _ o hV0 1 hFv1
      have hF2a := fun o => tk_frozen _ o hV0 2 hFv2
      simp only [List.length_cons] at hLa
      have d1' := Ne.symm d1
      have d2' := Ne.symm d2
      have d3' := Ne.symm d3
      have hx := HV.out
      simp only [advW] at hx
      have hlen : (⟨f0, f1, f2, f3, f4, f5⟩ :: r : List S28).length = r.length + 1 := rfl
      obtain ⟨i0, hi0, _, hsz, _⟩ := info_parts info28
      have hcut := cut_from (P := Try.prog) 22 28 .i64 Try.underlying22 hi0 6 hsz (some ad) (r.length + 1) cp 1 (by decide) (by omega)
      have hr := Kd.C_drop (m := 1) (c := cp) hC.out (by simp) hcp.out
      simp only [show (1 : Int).toNat = 1 from rfl, Nat.add_sub_cancel, Nat.one_mul, Option.map_some] at hcut
      obtain ⟨A', hA'⟩ : ∃ A', A' = (if cp = 1 then some ad else some (ad.add 6)) := ⟨_, rfl⟩
      rw [← hA'] at hcut
      replace hr : Kd.C k28 w0 A' r.length r := by rw [hA']; exact hr
      have hcp' : r.length ≤ cp - 1 := by have := hcp.out; rw [hlen] at this; omega
      replace hr := Aside0.mk hr
      clear hi0 hsz hA'
      by_cases c1 : f0 ≤ t
      · rw [if_pos c1] at hx
        have c1b : decide (f0 ≤ t) = true := decide_eq_true c1
        have c1p := eq_true c1
        clear c1
        by_cases c2 : f3 = 10
        · rw [if_pos c2] at hx
          have c2b : (f3 == 10) = true := by simp [c2]
          clear c2
          skip
          go_wp2
          go_roundg r.length
          case measure => simp at hk; omega
          case rel => exact ⟨r, _, _, _, _, rfl, ⟨hx⟩, ⟨fun e he => HA.out e (List.mem_cons_of_mem _ he)⟩, ⟨((HS.out.alloc _).setL d1 d2 hl rfl hr.out hcp').setB d1 d3 hb f5⟩, ⟨((HK.out.alloc _).setCell (.inl (.inl rfl)) _).setCell (.inl (.inr (.inl rfl))) _⟩⟩
        rw [if_neg c2] at hx
        have c2b : (f3 == 10) = false := by simp [c2]
        clear c2
        by_cases c3 : f3 = 11
        · rw [if_pos c3] at hx
          have c3b : (f3 == 11) = true := by simp [c3]
          clear c3
          by_cases c4 : f4 < 3
          · rw [if_pos c4] at hx
            have c4b : decide (f4 < 3) = true := decide_eq_true c4
            rcases (show f4 = 0 ∨ f4 = 1 ∨ f4 = 2 by omega) with rfl | rfl | rfl
            · simp only [if_true, show ¬ ((0 : Int) = 1) by decide, show ¬ ((0 : Int) = 2) by decide, if_false] at hx
              skip
              go_wp2
              go_roundg r.length
              case measure => simp at hk; omega
              case rel => exact ⟨r, _, _, _, _, rfl, ⟨hx⟩, ⟨fun e he => HA.out e (List.mem_cons_of_mem _ he)⟩, ⟨((HS.out.alloc _).setL d1 d2 hl rfl hr.out hcp').setV0 d2 d3 hv f5⟩, ⟨((HK.out.alloc _).setCell (.inl (.inl rfl)) _).setCell (.inl (.inr (.inr rfl))) _⟩⟩
            · simp only [if_true, show ¬ ((1 : Int) = 0) by decide, show ¬ ((1 : Int) = 2) by decide, if_false] at hx
              skip
              go_wp2
              go_roundg r.length
              case measure => simp at hk; omega
              case rel => exact ⟨r, _, _, _, _, rfl, ⟨hx⟩, ⟨fun e he => HA.out e (List.mem_cons_of_mem _ he)⟩, ⟨((HS.out.alloc _).setL d1 d2 hl rfl hr.out hcp').setV1 d2 d3 hv f5⟩, ⟨((HK.out.alloc _).setCell (.inl (.inl rfl)) _).setCell (.inl (.inr (.inr rfl))) _⟩⟩
            · simp only [if_true, show ¬ ((2 : Int) = 0) by decide, show ¬ ((2 : Int) = 1) by decide, if_false] at hx
              skip
              go_wp2
              go_roundg r.length
              case measure => simp at hk; omega
              case rel => exact ⟨r, _, _, _, _, rfl, ⟨hx⟩, ⟨fun e he => HA.out e (List.mem_cons_of_mem _ he)⟩, ⟨((HS.out.alloc _).setL d1 d2 hl rfl hr.out hcp').setV2 d2 d3 hv f5⟩, ⟨((HK.out.alloc _).setCell (.inl (.inl rfl)) _).setCell (.inl (.inr (.inr rfl))) _⟩⟩
          rw [if_neg c4] at hx
          have c4b : decide (f4 < 3) = false := decide_eq_false c4
          clear c4
          skip
          go_wp2
          go_roundg r.length
          case measure => simp at hk; omega
          case rel => exact ⟨r, _, _, _, _, rfl, ⟨hx⟩, ⟨fun e he => HA.out e (List.mem_cons_of_mem _ he)⟩, ⟨((HS.out.alloc _).setL d1 d2 hl rfl hr.out hcp')⟩, ⟨((HK.out.alloc _).setCell (.inl (.inl rfl)) _)⟩⟩
        rw [if_neg c3] at hx
        have c3b : (f3 == 11) = false := by simp [c3]
        clear c3
        skip
        go_wp2
        go_roundg r.length
        case measure => simp at hk; omega
        case rel => exact ⟨r, _, _, _, _, rfl, ⟨hx⟩, ⟨fun e he => HA.out e (List.mem_cons_of_mem _ he)⟩, ⟨((HS.out.alloc _).setL d1 d2 hl rfl hr.out hcp')⟩, ⟨((HK.out.alloc _).setCell (.inl (.inl rfl)) _)⟩⟩
      · rw [if_neg c1] at hx
        have c1b : decide (f0 ≤ t) = false := decide_eq_false c1
        have c1p := eq_false c1
        clear c1
        simp only [Prod.mk.injEq] at hx
        obtain ⟨rfl, rfl, rfl, rfl, rfl⟩ := hx
        go_wp2
        repeat (go_quiet (first | (go_at_call 18; refine Calls.quiet_of_same (vol_quiet _ _))); try go_wp2)
        go_ret
        exact ⟨rfl, HS.out.drewN _, HK.out.drewN _⟩

theorem HSt.grown {w0 W W' : World} {gl gb gv : Nat} {l : List S28} {a b c d : Int} (h : HSt w0 gl gb gv l a b c d W) {row : Option Nat} (hg : W.grownBy W' row) (hb : Below w0.heap.size w0 W') (h1 : some gl ≠ row) (h2 : some gb ≠ row) (h3 : some gv ≠ row) : HSt w0 gl gb gv l a b c d W' := by
  obtain ⟨_, ⟨A, cp, hL, hC, hcp⟩, hB, hV0, hV1, hV2, hF⟩ := h
  have el := hg.block gl (World.block_lt_of_cell? W _ hL) (by simpa using h1)
  have eb := hg.block gb (World.block_lt_of_cell? W _ hB) (by simpa using h2)
  have ev := hg.block gv (World.block_lt_of_cell? W _ hV0) (by simpa using h3)
  refine ⟨hb, ⟨A, cp, (World.cell?_of_block (w := W) el).trans hL, hC, hcp⟩, (World.cell?_of_block (w := W) eb).trans hB, (World.cell?_of_block (w := W) ev).trans hV0, (World.cell?_of_block (w := W) ev).trans hV1, (World.cell?_of_block (w := W) ev).trans hV2, fun g k hk => ?_⟩
  rcases hk with rfl | rfl | rfl
  · exact (World.frozen?_of_block (w := W) el).trans (hF _ k (.inl rfl))
  · exact (World.frozen?_of_block (w := W) eb).trans (hF _ k (.inr (.inl rfl)))
  · exact (World.frozen?_of_block (w := W) ev).trans (hF _ k (.inr (.inr rfl)))
theorem HSt.start (w0 w : World) (A : Option Addr) (cp : Nat) (l : List S28) (hb : Below w0.heap.size w0 w) (hC : Kd.C k28 w0 A l.length l) (hcp : l.length ≤ cp) (t1 t2 t3 : TypeId) :
    HSt w0 w.heap.size (w.heap.size + 1 + 1) (w.heap.size + 1) l 0 0 0 0 (((w.alloc (.cells #[.slice A l.length cp] t1)).alloc (.cells #[.int .i64 0, .int .i64 0, .int .i64 0] t2)).alloc (.cells #[.int .i64 0] t3)) := by
  refine ⟨((hb.alloc hb.size _).alloc (by have := hb.size; simp; omega) _).alloc (by have := hb.size; simp; omega) _, ⟨A, cp, by simp [go_sem], hC, hcp⟩, by simp [go_sem], by simp [go_sem], by simp [go_sem], by simp [go_sem], fun g k hg => ?_⟩
  rcases hg with rfl | rfl | rfl <;> simp [go_sem]
set_option maxHeartbeats 4000000 in
set_option maxRecDepth 100000 in
theorem hears0 (A : Option Addr) (cp : Nat) (l : List S28) (w0 w : World) (hb : Below w0.heap.size w0 w) (hC : Kd.C k28 w0 A l.length l) (hcp : l.length ≤ cp) :
    Calls Try.prog 41 #[.slice A l.length cp] w fun e w' => e = .returned (.func (.func 56) #[] #[.pointer (some ⟨w.heap.size, 0, none⟩), .pointer (some ⟨w.heap.size + 1 + 1, 0, none⟩), .pointer (some ⟨w.heap.size + 1, 0, none⟩)]) ∧ HSt w0 w.heap.size (w.heap.size + 1 + 1) (w.heap.size + 1) l 0 0 0 0 w' := by
  replace hb := Aside0.mk hb
  replace hC := Aside0.mk hC
  replace hcp := Aside0.mk hcp
  have hmf : ∀ (fn : Fn) (first cap : Array Value) (w : World), (Instr.makeFunc fn first cap).run Try.prog w = .ok (.func fn first cap) w := fun _ _ _ _ => rfl
  go_enter Try.func41, Try.ntmps41
  go_wp2
  go_ret
  exact ⟨rfl, HSt.start w0 w A cp l hb.out hC.out hcp.out _ _ _⟩
/-- The samples from the i-th on, so many. -/
def samp (rate : Int) : Nat → Int → List S28 → Int → Int → Int → Int → List Int
  | 0, _, _, _, _, _, _ => []
  | k + 1, i, l, a, b, c, d =>
    hearV (advW (wrap64 (i * rate)) l a b c d).2.1 (advW (wrap64 (i * rate)) l a b c d).2.2.1 (advW (wrap64 (i * rate)) l a b c d).2.2.2.1 (advW (wrap64 (i * rate)) l a b c d).2.2.2.2 ::
      samp rate k (i + 1) (advW (wrap64 (i * rate)) l a b c d).1 (advW (wrap64 (i * rate)) l a b c d).2.1 (advW (wrap64 (i * rate)) l a b c d).2.2.1 (advW (wrap64 (i * rate)) l a b c d).2.2.2.1 (advW (wrap64 (i * rate)) l a b c d).2.2.2.2
def sampN (rate upto : Int) : Int := if Int.tmod upto rate = 0 then Int.tdiv upto rate else Int.tdiv upto rate + 1
def tone_Samples.f (l : List S28) (rate upto : Int) : Option (List Int × Int) := (merge_Check.f (l.length + 8) l).bind fun e => if e = 0 then (if rate < 1 then some ([], 2) else if upto < 0 then some ([], 2) else if upto > 1099511627776 then some ([], 2) else if sampN rate upto > 1048576 then some ([], 3) else if ∀ x ∈ l, 0 ≤ x.f4 then some (samp rate (sampN rate upto).toNat 0 l 0 0 0 0, 0) else none) else some ([], e)
theorem adv_mem (t : Int) : ∀ (l : List S28) (a b c d : Int), ∀ e ∈ (advW t l a b c d).1, e ∈ l
  | [], _, _, _, _, e, h => by simp [advW] at h
  | x :: r, a, b, c, d, e, h => by
    unfold advW at h
    split at h
    · split at h
      · exact List.mem_cons_of_mem _ (adv_mem t r _ _ _ _ e h)
      · split at h
        · split at h
          · exact List.mem_cons_of_mem _ (adv_mem t r _ _ _ _ e h)
          · exact List.mem_cons_of_mem _ (adv_mem t r _ _ _ _ e h)
        · exact List.mem_cons_of_mem _ (adv_mem t r _ _ _ _ e h)
    · exact h
set_option maxHeartbeats 16000000 in
set_option maxRecDepth 100000 in
theorem tone_Samples.calls (A0 : Option Addr) (c0 : Nat) (l0 : List S28) (a1 a2 : Int) (r1 : List Int) (r2 : Int) (w : World) (hr0 : Kd.C k28 w A0 l0.length l0) (hc0 : l0.length ≤ c0) (h : tone_Samples.f l0 a1 a2 = some (r1, r2)) :
    Calls Try.prog 13 #[.slice A0 l0.length c0, .int .i64 a1, .int .i64 a2] w fun e w' => ∃ v0_ : Value, e = .returned (.tuple #[v0_, .int .i64 r2]) ∧ Kd.R (Kd.int .i64) 3 w' w.heap.size (fun _ => True) v0_ r1 ∧ Below w.heap.size w w' := by
  unfold tone_Samples.f at h
  obtain ⟨ec, hM, h⟩ := Option.bind_eq_some_iff.1 h
  replace hr0 := Aside0.mk hr0
  replace hc0 := Aside0.mk hc0
  replace hM := Aside0.mk hM
  by_cases c1 : ec = 0
  case neg =>
    rw [if_neg c1] at h
    have c1b : (ec == 0) = false := by simp [c1]
    have c1c : (ec != 0) = true := by simp [c1]
    clear c1
    simp only [Option.some.injEq, Prod.mk.injEq] at h
    obtain ⟨rfl, rfl⟩ := h
    go_enter Try.func13, Try.ntmps13
    go_wp2_with (first | (go_at_call 40; refine (merge_Check.calls _ _ _ l0 _ _ hr0.out hc0.out hM.out).mono ?_; rintro e w1 ⟨rfl, hb⟩; replace hb := Aside0.mk hb))
    repeat (go_quiet (fail); try go_wp2)
    go_ret2
    exact ⟨_, rfl, Kd.R_nil _ _ _ _ _, by repeat (first | (with_reducible first | exact hb.out | apply below_alloc | apply pw_below_drewN | apply below_drew1) | exact hb.out)⟩
  subst c1
  rw [if_pos rfl] at h
  by_cases c2 : a1 < 1
  · rw [if_pos c2] at h
    have c2b := eq_true c2
    have c2c : decide (a1 < 1) = true := decide_eq_true c2
    clear c2
    simp only [Option.some.injEq, Prod.mk.injEq] at h
    obtain ⟨rfl, rfl⟩ := h
    go_enter Try.func13, Try.ntmps13
    go_wp2_with (first | (go_at_call 40; refine (merge_Check.calls _ _ _ l0 _ _ hr0.out hc0.out hM.out).mono ?_; rintro e w1 ⟨rfl, hb⟩; replace hb := Aside0.mk hb))
    repeat (go_quiet (fail); try go_wp2)
    go_ret2
    exact ⟨_, rfl, Kd.R_nil _ _ _ _ _, by repeat (first | (with_reducible first | exact hb.out | apply below_alloc | apply pw_below_drewN | apply below_drew1) | exact hb.out)⟩
  rw [if_neg c2] at h
  have c2b := eq_false c2
  have c2c : decide (a1 < 1) = false := decide_eq_false c2
  by_cases c3 : a2 < 0
  · rw [if_pos c3] at h
    have c3b := eq_true c3
    have c3c : decide (a2 < 0) = true := decide_eq_true c3
    clear c2 c3
    simp only [Option.some.injEq, Prod.mk.injEq] at h
    obtain ⟨rfl, rfl⟩ := h
    go_enter Try.func13, Try.ntmps13
    go_wp2_with (first | (go_at_call 40; refine (merge_Check.calls _ _ _ l0 _ _ hr0.out hc0.out hM.out).mono ?_; rintro e w1 ⟨rfl, hb⟩; replace hb := Aside0.mk hb))
    repeat (go_quiet (fail); try go_wp2)
    go_ret2
    exact ⟨_, rfl, Kd.R_nil _ _ _ _ _, by repeat (first | (with_reducible first | exact hb.out | apply below_alloc | apply pw_below_drewN | apply below_drew1) | exact hb.out)⟩
  rw [if_neg c3] at h
  have c3b := eq_false c3
  have c3c : decide (a2 < 0) = false := decide_eq_false c3
  by_cases c4 : a2 > 1099511627776
  · rw [if_pos c4] at h
    have c4b : (1099511627776 < a2) = True := eq_true c4
    have c4c : decide (1099511627776 < a2) = true := decide_eq_true c4
    clear c2 c3 c4
    simp only [Option.some.injEq, Prod.mk.injEq] at h
    obtain ⟨rfl, rfl⟩ := h
    go_enter Try.func13, Try.ntmps13
    go_wp2_with (first | (go_at_call 40; refine (merge_Check.calls _ _ _ l0 _ _ hr0.out hc0.out hM.out).mono ?_; rintro e w1 ⟨rfl, hb⟩; replace hb := Aside0.mk hb))
    repeat (go_quiet (fail); try go_wp2)
    go_ret2
    exact ⟨_, rfl, Kd.R_nil _ _ _ _ _, by repeat (first | (with_reducible first | exact hb.out | apply below_alloc | apply pw_below_drewN | apply below_drew1) | exact hb.out)⟩
  rw [if_neg c4] at h
  have c4b : (1099511627776 < a2) = False := eq_false c4
  have c4c : decide (1099511627776 < a2) = false := decide_eq_false c4
  have hq0 : 0 ≤ Int.tdiv a2 a1 := Int.tdiv_nonneg (by omega) (by omega)
  have hq1 : Int.tdiv a2 a1 ≤ 1099511627776 := by
    rw [Int.tdiv_eq_ediv_of_nonneg (by omega)]
    exact Int.le_trans (Int.ediv_le_self a1 (by omega)) (by omega)
  have hz : (a1 = 0) = False := eq_false (by omega)
  have hzb : (a1 == 0) = false := by simp; omega
  have hm1 : (a1 = -1) = False := eq_false (by omega)
  have hm1b : (a1 == -1) = false := by simp; omega
  have hn : ∃ n : Nat, sampN a1 a2 = n := ⟨(sampN a1 a2).toNat, by unfold sampN; split <;> omega⟩
  obtain ⟨n, hn⟩ := hn
  have hw : wrap64 (Int.tdiv a2 a1 + 1) = Int.tdiv a2 a1 + 1 := by unfold wrap64; omega
  have hw2 : wrap64 (Int.tdiv a2 a1) = Int.tdiv a2 a1 := by unfold wrap64; omega
  rw [hn] at h
  by_cases c5 : Int.tmod a2 a1 = 0
  · have c5b : (Int.tmod a2 a1 != 0) = false := by simp [c5]
    have c5c : (Int.tmod a2 a1 == 0) = true := by simp [c5]
    have hnv : Int.tdiv a2 a1 = n := by rw [← hn]; unfold sampN; rw [if_pos c5]
    rw [hnv] at hq1 hw2
    clear c2 c3 c4 c5 hw
    by_cases c6 : (n : Int) > 1048576
    · rw [if_pos c6] at h
      have c6b : decide (1048576 < (n : Int)) = true := decide_eq_true c6
      have c6c : (1048576 < (n : Int)) = True := eq_true c6
      clear c6
      simp only [Option.some.injEq, Prod.mk.injEq] at h
      obtain ⟨rfl, rfl⟩ := h
      go_enter Try.func13, Try.ntmps13
      go_wp2_with (first | (go_at_call 40; refine (merge_Check.calls _ _ _ l0 _ _ hr0.out hc0.out hM.out).mono ?_; rintro e w1 ⟨rfl, hb⟩; replace hb := Aside0.mk hb))
      repeat (go_quiet (fail); try go_wp2)
      go_ret2
      exact ⟨_, rfl, Kd.R_nil _ _ _ _ _, by repeat (first | (with_reducible first | exact hb.out | apply below_alloc | apply pw_below_drewN | apply below_drew1) | exact hb.out)⟩
    rw [if_neg c6] at h
    have c6b : decide (1048576 < (n : Int)) = false := decide_eq_false c6
    have c6c : (1048576 < (n : Int)) = False := eq_false c6
    by_cases hA : ∀ x ∈ l0, 0 ≤ x.f4
    case neg => rw [if_neg hA] at h; cases h
    rw [if_pos hA, Int.toNat_natCast] at h
    simp only [Option.some.injEq, Prod.mk.injEq] at h
    obtain ⟨hsa, rfl⟩ := h
    replace hsa := Aside0.mk hsa
    replace hA := Aside0.mk hA
    have hnmax : n ≤ 1048576 := by omega
    replace hnmax := Aside0.mk hnmax
    clear c6
    go_enter Try.func13, Try.ntmps13
    go_wp2_with (first | (go_at_call 40; refine (merge_Check.calls _ _ _ l0 _ _ hr0.out hc0.out hM.out).mono ?_; rintro e w1 ⟨rfl, hb⟩; replace hb := Aside0.mk hb) | (go_at_call 41; refine (hears0 _ _ l0 w _ hb.out hr0.out hc0.out).mono ?_; rintro e w2 ⟨rfl, hs⟩; replace hs := Aside0.mk hs))
    have hsz := hb.out.size
    obtain ⟨gl, hgl⟩ : ∃ g, g = w1.heap.size := ⟨_, rfl⟩
    obtain ⟨gb, hgb⟩ : ∃ g, g = gl + 1 + 1 := ⟨_, rfl⟩
    obtain ⟨gv, hgv⟩ : ∃ g, g = gl + 1 := ⟨_, rfl⟩
    rw [← hgl, ← hgb, ← hgv] at hs
    rw [← hgl, ← hgb, ← hgv]
    have e1 : w.heap.size ≤ gl := by omega
    have e2 : w.heap.size ≤ gb := by omega
    have e3 : w.heap.size ≤ gv := by omega
    have f1 : gl ≠ gb := by omega
    have f2 : gl ≠ gv := by omega
    have f3 : gb ≠ gv := by omega
    clear hgl hgb hgv hsz hb hM
    go_loopg [11, 42] n (fun kq v11 v42 W => ∃ (i : Nat) (l : List S28) (a b c d : Int) (out : List Int), v42 = .int .i64 (i : Int) ∧ i + kq = n ∧ Aside0 (r1 = out ++ samp a1 kq i l a b c d) ∧ Aside0 (∀ x ∈ l, 0 ≤ x.f4) ∧ Aside0 (HSt w gl gb gv l a b c d W) ∧ Aside0 (Kd.R (Kd.int .i64) 3 W w.heap.size (fun k => k ≠ gl ∧ k ≠ gb ∧ k ≠ gv) v11 out) ∧ Aside0 (out.length = i))
    case atStart => exact ⟨0, l0, 0, 0, 0, 0, [], rfl, by omega, ⟨hsa.out.symm⟩, hA, hs, ⟨Kd.R_nil _ _ _ _ _⟩, ⟨rfl⟩⟩
    case round =>
      clear hsa hA hs
      obtain ⟨i, l, a, b, c, d, out, rfl, hik, HR, HA, HS, HO, HL⟩ := hrel
      by_cases c7 : i < n
      · obtain ⟨k1, rfl⟩ : ∃ k1, gk = k1 + 1 := ⟨gk - 1, by omega⟩
        have c7b : decide ((i : Int) < (n : Int)) = true := decide_eq_true (by omega)
        have c7c := eq_true c7
        obtain ⟨⟨l', a', b', c', d'⟩, hadv⟩ : ∃ q, advW (wrap64 (i * a1)) l a b c d = q := ⟨_, rfl⟩
        have HR' := HR.out
        rw [samp] at HR'
        rw [hadv] at HR'
        have hmem := adv_mem (wrap64 (i * a1)) l a b c d
        rw [hadv] at hmem
        replace HR' := Aside0.mk HR'
        replace hmem := Aside0.mk hmem
        replace hadv := Aside0.mk hadv
        have hol : out.length < 17592186044416 := by have := HL.out; have := hnmax.out; omega
        replace hol := Aside0.mk hol
        have hnb : ∀ {W : World} {v : Value} {l' : List S28} {a' b' c' d' : Int}, Aside0 (HSt w gl gb gv l' a' b' c' d' W) → Aside0 (Kd.R (Kd.int .i64) 3 W w.heap.size (fun k => k ≠ gl ∧ k ≠ gb ∧ k ≠ gv) v out) → some gl ≠ v.ownBlock ∧ some gb ≠ v.ownBlock ∧ some gv ≠ v.ownBlock := fun _ ho => ⟨fun e => (ho.out.1 gl e.symm).1 rfl, fun e => (ho.out.1 gb e.symm).2.1 rfl, fun e => (ho.out.1 gv e.symm).2.2 rfl⟩
        go_wp2_with (first | (go_at_call 56; refine (hears1 w gl gb gv e1 e2 e3 f1 f2 f3 (wrap64 (i * a1)) _ l a b c d _ _ _ _ _ hadv.out HA.out HS.out).mono ?_; rintro e w3 ⟨rfl, hs3, hk3⟩; replace hs3 := Aside0.mk hs3; have ho3 := Aside0.mk (Kd.R_kept HO.out hk3 (fun k hk => by rintro (rfl | rfl | rfl); exact hk.1 rfl; exact hk.2.1 rfl; exact hk.2.2 rfl)); clear hk3; have hfr := hs3.out.fresh) | ((with_reducible refine gate_builtin (b := .append) (xs := #[.tmp 45, .tmp 51]) rfl ?_); at_builtin; refine Kd.R_append (Kd.int .i64) (w0 := w) w.heap.size rfl (.tmp 45) (.tmp 51) 29 3 (.int .i64 0) 8 rfl Try.underlying29 info3 rfl (by decide) (by omega) _ out (hearV a' b' c' d') [.int .i64 (hearV a' b' c' d')] (fun k => k ≠ gl ∧ k ≠ gb ∧ k ≠ gv) (fun _ => False) rfl rfl ?aP (fun _ hk => hk.elim) ?aF ?aO ?aB ?aS ?aL ?_; (case aP => exact rfl); (case aB => exact hs3.out.below); (case aF => exact hfr); (case aO => exact ho3.out); (case aS => exact hs3.out.below.size); (case aL => have := hol.out; omega); intro v1 w5 ho hb5 hg hat; replace ho := Aside0.mk ho; have hs5 := Aside0.mk (hs3.out.grown hg hb5 (hnb hs3 ho3).1 (hnb hs3 ho3).2.1 (hnb hs3 ho3).2.2); clear hb5 hg hat))
        go_roundg k1
        case measure => omega
        case rel => exact ⟨i + 1, _, _, _, _, _, _, by first | rfl | simp, by omega, ⟨by have := HR'.out; rw [this, List.append_assoc]; rfl⟩, ⟨fun x hx => HA.out x (hmem.out x hx)⟩, hs5, ho, ⟨by have := HL.out; simp; omega⟩⟩
      · have c7b : decide ((i : Int) < (n : Int)) = false := decide_eq_false (by omega)
        have c7c := eq_false c7
        have hk0 : gk = 0 := by omega
        subst hk0
        have HR' := HR.out
        simp only [samp, List.append_nil] at HR'
        subst HR'
        go_wp2
        go_ret2
        exact ⟨_, rfl, Kd.R_mono HO.out (fun _ _ => trivial), HS.out.below⟩
  · have c5b : (Int.tmod a2 a1 != 0) = true := by simp [c5]
    have c5c : (Int.tmod a2 a1 == 0) = false := by simp [c5]
    have hnv : Int.tdiv a2 a1 + 1 = n := by rw [← hn]; unfold sampN; rw [if_neg c5]
    have hwn : wrap64 (Int.tdiv a2 a1 + 1) = n := hw.trans hnv
    clear c2 c3 c4 c5 hw hw2
    by_cases c6 : (n : Int) > 1048576
    · rw [if_pos c6] at h
      have c6b : decide (1048576 < (n : Int)) = true := decide_eq_true c6
      have c6c : (1048576 < (n : Int)) = True := eq_true c6
      clear c6
      simp only [Option.some.injEq, Prod.mk.injEq] at h
      obtain ⟨rfl, rfl⟩ := h
      go_enter Try.func13, Try.ntmps13
      go_wp2_with (first | (go_at_call 40; refine (merge_Check.calls _ _ _ l0 _ _ hr0.out hc0.out hM.out).mono ?_; rintro e w1 ⟨rfl, hb⟩; replace hb := Aside0.mk hb))
      repeat (go_quiet (fail); try go_wp2)
      go_ret2
      exact ⟨_, rfl, Kd.R_nil _ _ _ _ _, by repeat (first | (with_reducible first | exact hb.out | apply below_alloc | apply pw_below_drewN | apply below_drew1) | exact hb.out)⟩
    rw [if_neg c6] at h
    have c6b : decide (1048576 < (n : Int)) = false := decide_eq_false c6
    have c6c : (1048576 < (n : Int)) = False := eq_false c6
    by_cases hA : ∀ x ∈ l0, 0 ≤ x.f4
    case neg => rw [if_neg hA] at h; cases h
    rw [if_pos hA, Int.toNat_natCast] at h
    simp only [Option.some.injEq, Prod.mk.injEq] at h
    obtain ⟨hsa, rfl⟩ := h
    replace hsa := Aside0.mk hsa
    replace hA := Aside0.mk hA
    have hnmax : n ≤ 1048576 := by omega
    replace hnmax := Aside0.mk hnmax
    clear c6
    go_enter Try.func13, Try.ntmps13
    go_wp2_with (first | (go_at_call 40; refine (merge_Check.calls _ _ _ l0 _ _ hr0.out hc0.out hM.out).mono ?_; rintro e w1 ⟨rfl, hb⟩; replace hb := Aside0.mk hb) | (go_at_call 41; refine (hears0 _ _ l0 w _ hb.out hr0.out hc0.out).mono ?_; rintro e w2 ⟨rfl, hs⟩; replace hs := Aside0.mk hs))
    have hsz := hb.out.size
    obtain ⟨gl, hgl⟩ : ∃ g, g = w1.heap.size := ⟨_, rfl⟩
    obtain ⟨gb, hgb⟩ : ∃ g, g = gl + 1 + 1 := ⟨_, rfl⟩
    obtain ⟨gv, hgv⟩ : ∃ g, g = gl + 1 := ⟨_, rfl⟩
    rw [← hgl, ← hgb, ← hgv] at hs
    rw [← hgl, ← hgb, ← hgv]
    have e1 : w.heap.size ≤ gl := by omega
    have e2 : w.heap.size ≤ gb := by omega
    have e3 : w.heap.size ≤ gv := by omega
    have f1 : gl ≠ gb := by omega
    have f2 : gl ≠ gv := by omega
    have f3 : gb ≠ gv := by omega
    clear hgl hgb hgv hsz hb hM
    go_loopg [11, 42] n (fun kq v11 v42 W => ∃ (i : Nat) (l : List S28) (a b c d : Int) (out : List Int), v42 = .int .i64 (i : Int) ∧ i + kq = n ∧ Aside0 (r1 = out ++ samp a1 kq i l a b c d) ∧ Aside0 (∀ x ∈ l, 0 ≤ x.f4) ∧ Aside0 (HSt w gl gb gv l a b c d W) ∧ Aside0 (Kd.R (Kd.int .i64) 3 W w.heap.size (fun k => k ≠ gl ∧ k ≠ gb ∧ k ≠ gv) v11 out) ∧ Aside0 (out.length = i))
    case atStart => exact ⟨0, l0, 0, 0, 0, 0, [], rfl, by omega, ⟨hsa.out.symm⟩, hA, hs, ⟨Kd.R_nil _ _ _ _ _⟩, ⟨rfl⟩⟩
    case round =>
      clear hsa hA hs
      obtain ⟨i, l, a, b, c, d, out, rfl, hik, HR, HA, HS, HO, HL⟩ := hrel
      by_cases c7 : i < n
      · obtain ⟨k1, rfl⟩ : ∃ k1, gk = k1 + 1 := ⟨gk - 1, by omega⟩
        have c7b : decide ((i : Int) < (n : Int)) = true := decide_eq_true (by omega)
        have c7c := eq_true c7
        obtain ⟨⟨l', a', b', c', d'⟩, hadv⟩ : ∃ q, advW (wrap64 (i * a1)) l a b c d = q := ⟨_, rfl⟩
        have HR' := HR.out
        rw [samp] at HR'
        rw [hadv] at HR'
        have hmem := adv_mem (wrap64 (i * a1)) l a b c d
        rw [hadv] at hmem
        replace HR' := Aside0.mk HR'
        replace hmem := Aside0.mk hmem
        replace hadv := Aside0.mk hadv
        have hol : out.length < 17592186044416 := by have := HL.out; have := hnmax.out; omega
        replace hol := Aside0.mk hol
        have hnb : ∀ {W : World} {v : Value} {l' : List S28} {a' b' c' d' : Int}, Aside0 (HSt w gl gb gv l' a' b' c' d' W) → Aside0 (Kd.R (Kd.int .i64) 3 W w.heap.size (fun k => k ≠ gl ∧ k ≠ gb ∧ k ≠ gv) v out) → some gl ≠ v.ownBlock ∧ some gb ≠ v.ownBlock ∧ some gv ≠ v.ownBlock := fun _ ho => ⟨fun e => (ho.out.1 gl e.symm).1 rfl, fun e => (ho.out.1 gb e.symm).2.1 rfl, fun e => (ho.out.1 gv e.symm).2.2 rfl⟩
        go_wp2_with (first | (go_at_call 56; refine (hears1 w gl gb gv e1 e2 e3 f1 f2 f3 (wrap64 (i * a1)) _ l a b c d _ _ _ _ _ hadv.out HA.out HS.out).mono ?_; rintro e w3 ⟨rfl, hs3, hk3⟩; replace hs3 := Aside0.mk hs3; have ho3 := Aside0.mk (Kd.R_kept HO.out hk3 (fun k hk => by rintro (rfl | rfl | rfl); exact hk.1 rfl; exact hk.2.1 rfl; exact hk.2.2 rfl)); clear hk3; have hfr := hs3.out.fresh) | ((with_reducible refine gate_builtin (b := .append) (xs := #[.tmp 45, .tmp 51]) rfl ?_); at_builtin; refine Kd.R_append (Kd.int .i64) (w0 := w) w.heap.size rfl (.tmp 45) (.tmp 51) 29 3 (.int .i64 0) 8 rfl Try.underlying29 info3 rfl (by decide) (by omega) _ out (hearV a' b' c' d') [.int .i64 (hearV a' b' c' d')] (fun k => k ≠ gl ∧ k ≠ gb ∧ k ≠ gv) (fun _ => False) rfl rfl ?aP (fun _ hk => hk.elim) ?aF ?aO ?aB ?aS ?aL ?_; (case aP => exact rfl); (case aB => exact hs3.out.below); (case aF => exact hfr); (case aO => exact ho3.out); (case aS => exact hs3.out.below.size); (case aL => have := hol.out; omega); intro v1 w5 ho hb5 hg hat; replace ho := Aside0.mk ho; have hs5 := Aside0.mk (hs3.out.grown hg hb5 (hnb hs3 ho3).1 (hnb hs3 ho3).2.1 (hnb hs3 ho3).2.2); clear hb5 hg hat))
        go_roundg k1
        case measure => omega
        case rel => exact ⟨i + 1, _, _, _, _, _, _, by first | rfl | simp, by omega, ⟨by have := HR'.out; rw [this, List.append_assoc]; rfl⟩, ⟨fun x hx => HA.out x (hmem.out x hx)⟩, hs5, ho, ⟨by have := HL.out; simp; omega⟩⟩
      · have c7b : decide ((i : Int) < (n : Int)) = false := decide_eq_false (by omega)
        have c7c := eq_false c7
        have hk0 : gk = 0 := by omega
        subst hk0
        have HR' := HR.out
        simp only [samp, List.append_nil] at HR'
        subst HR'
        go_wp2
        go_ret2
        exact ⟨_, rfl, Kd.R_mono HO.out (fun _ _ => trivial), HS.out.below⟩

/-! ### slices_Equal_int_int: function 42 -/
def slices_Equal_int_int.l0 : Nat → List Int → List Int → Int → Int → Option (Bool)
  | 0, _, _, _, _ => none
  | k + 1, x0, x1, x12, x13 => if x13 < x12 then (if 0 ≤ x13 then (if x13 < (x0.length : Int) then (if x13 < (x1.length : Int) then (if (rd x0 x13) = (rd x1 x13) then (slices_Equal_int_int.l0 k x0 x1 x12 (wrap64 (x13 + 1))) else (some false)) else (none)) else (none)) else (none)) else (some true)
def slices_Equal_int_int.f (k : Nat) (l0 : List Int) (l1 : List Int) : Option (Bool) := if (l0.length : Int) = (l1.length : Int) then (slices_Equal_int_int.l0 k l0 l1 (l0.length : Int) 0) else (some false)
theorem slices_Equal_int_int.mono_l : ∀ k, (∀ y0 y1 y2 y3, LeO (slices_Equal_int_int.l0 k y0 y1 y2 y3) (slices_Equal_int_int.l0 (k + 1) y0 y1 y2 y3))
  | 0 => fun _ _ _ _ r h => by simp [slices_Equal_int_int.l0] at h
  | k + 1 => by
    have ih0 := slices_Equal_int_int.mono_l k
    · intro y0 y1 y2 y3
      unfold slices_Equal_int_int.l0
      repeat' first
      | (with_reducible exact ih0 _ _ _ _)
      | (with_reducible exact LeO.refl _)
      | (with_reducible exact LeO.none _)
      | (with_reducible refine LeO.ite ?_ ?_)
      | (with_reducible refine LeO.bind ?_ (fun _ => ?_))
      | exact ih0 _ _ _ _
      | exact LeO.none _
      | refine LeO.ite ?_ ?_
      | refine LeO.bind ?_ (fun _ => ?_)
theorem slices_Equal_int_int.mono : ∀ a0 a1 k, LeO (slices_Equal_int_int.f k a0 a1) (slices_Equal_int_int.f (k + 1) a0 a1) := by
  intro a0 a1 k
  have ih0 := slices_Equal_int_int.mono_l k
  unfold slices_Equal_int_int.f
  repeat' first
      | (with_reducible exact ih0 _ _ _ _)
      | (with_reducible exact LeO.refl _)
      | (with_reducible exact LeO.none _)
      | (with_reducible refine LeO.ite ?_ ?_)
      | (with_reducible refine LeO.bind ?_ (fun _ => ?_))
      | exact ih0 _ _ _ _
      | exact LeO.none _
      | refine LeO.ite ?_ ?_
      | refine LeO.bind ?_ (fun _ => ?_)
set_option maxHeartbeats 8000000 in
set_option maxRecDepth 100000 in
theorem slices_Equal_int_int.calls (k : Nat) (A0 : Option Addr) (c0 : Nat) (l0 : List Int) (A1 : Option Addr) (c1 : Nat) (l1 : List Int) (r : Bool) (w : World) (hr0 : Kd.C (Kd.int .i64) w A0 l0.length l0) (hc0 : l0.length ≤ c0) (hr1 : Kd.C (Kd.int .i64) w A1 l1.length l1) (hc1 : l1.length ≤ c1) (h : slices_Equal_int_int.f k l0 l1 = some r) :
    Calls Try.prog 42 #[.slice A0 l0.length c0, .slice A1 l1.length c1] w fun e w' => e = .returned (.bool r) ∧ Drawn0 w w' := by
  have HR0 := Aside0.mk hr0
  have HC0 := Aside0.mk hc0
  clear hr0 hc0
  have HR1 := Aside0.mk hr1
  have HC1 := Aside0.mk hc1
  clear hr1 hc1
  have H : (if (l0.length : Int) = (l1.length : Int) then (slices_Equal_int_int.l0 k l0 l1 (l0.length : Int) 0) else (some false)) = some r := h
  clear h
  by_cases c3 : (l0.length : Int) = (l1.length : Int)
  · rw [if_pos c3] at H
    have c3b0 : ((l0.length : Int) == (l1.length : Int)) = true := beq_iff_eq.mpr c3
    have c3b1 : ((l0.length : Int) != (l1.length : Int)) = false := bne_eq_false_iff_eq.mpr c3
    have c3b2 : (l0.length == l1.length) = true := by first | simpa using c3 | (simp at c3 ⊢; omega)
    clear c3
    have H' := Aside0.mk H
    clear H
    go_enter Try.func42, Try.ntmps42
    go_wp2
    repeat (go_quiet (fail); try go_wp2)
    go_loopg [13] k (fun kq v13 w' => ∃ (x13_1 : Int), v13 = .int .i64 x13_1 ∧ Aside0 (slices_Equal_int_int.l0 kq l0 l1 (l0.length : Int) x13_1 = some r) ∧ Aside0 (kq ≤ k) ∧ Drawn0 w w')
    case atStart => exact ⟨(0), (by first | rfl | (simp; done) | (simp [*]; done)), H', ⟨Nat.le_refl _⟩, by repeat (first | exact Drawn0.refl _ | apply Drawn0.step)⟩
    case round =>
      clear H'
      try clear c1
      try clear p2
      try clear c3
      try clear c3b0
      try clear c3b1
      try clear c3b2
      obtain ⟨x13_1, rfl, HA, HK1, ⟨m1, rfl⟩⟩ := hrel
      cases gk with
      | zero => exact absurd HA.out (by simp [slices_Equal_int_int.l0])
      | succ k1 =>
        have H := HA.out
        clear HA
        simp only [slices_Equal_int_int.l0] at H
        by_cases c4 : x13_1 < (l0.length : Int)
        · rw [if_pos c4] at H
          have c4b0 : decide (x13_1 < (l0.length : Int)) = true := decide_eq_true c4
          clear c4
          by_cases c5 : 0 ≤ x13_1
          · rw [if_pos c5] at H
            have c5b0 : decide (0 ≤ x13_1) = true := decide_eq_true c5
            clear c5
            by_cases c6 : x13_1 < (l0.length : Int)
            · rw [if_pos c6] at H
              have c6b0 : decide (x13_1 < (l0.length : Int)) = true := decide_eq_true c6
              clear c6
              by_cases c7 : x13_1 < (l1.length : Int)
              · rw [if_pos c7] at H
                have c7b0 : decide (x13_1 < (l1.length : Int)) = true := decide_eq_true c7
                clear c7
                by_cases c8 : (rd l0 x13_1) = (rd l1 x13_1)
                · rw [if_pos c8] at H
                  have c8b0 : ((rd l0 x13_1) == (rd l1 x13_1)) = true := beq_iff_eq.mpr c8
                  have c8b1 : ((rd l0 x13_1) != (rd l1 x13_1)) = false := bne_eq_false_iff_eq.mpr c8
                  clear c8
                  have H' := Aside0.mk H
                  clear H
                  have p123 : 0 ≤ (x13_1 : Int) := of_decide_eq_true (by first | (with_reducible assumption) | assumption)
                  have q123 : x13_1 < (l0.length : Int) := of_decide_eq_true (by first | (with_reducible assumption) | assumption)
                  obtain ⟨ad123, e123, hx123_0⟩ := Kd.at_int HR0.out x13_1 p123 q123
                  cases e123
                  replace p123 := eq_true p123
                  replace q123 := eq_true q123
                  have p124 : 0 ≤ (x13_1 : Int) := of_decide_eq_true (by first | (with_reducible assumption) | assumption)
                  have q124 : x13_1 < (l1.length : Int) := of_decide_eq_true (by first | (with_reducible assumption) | assumption)
                  obtain ⟨ad124, e124, hx124_0⟩ := Kd.at_int HR1.out x13_1 p124 q124
                  cases e124
                  replace p124 := eq_true p124
                  replace q124 := eq_true q124
                  go_wp2
                  repeat (go_quiet (fail); try go_wp2)
                  go_roundg k1
                  case measure => have := HK1.out; omega
                  case rel => exact ⟨(wrap64 (x13_1 + 1)), (by first | rfl | (simp; done) | (simp [*]; done)), H', ⟨by have := HK1.out; omega⟩, by repeat (first | exact Drawn0.refl _ | apply Drawn0.step)⟩
                · rw [if_neg c8] at H
                  have c8b0 : ((rd l0 x13_1) == (rd l1 x13_1)) = false := beq_eq_false_iff_ne.mpr c8
                  have c8b1 : ((rd l0 x13_1) != (rd l1 x13_1)) = true := bne_iff_ne.mpr c8
                  obtain rfl := Option.some.inj H
                  have p123 : 0 ≤ (x13_1 : Int) := of_decide_eq_true (by first | (with_reducible assumption) | assumption)
                  have q123 : x13_1 < (l0.length : Int) := of_decide_eq_true (by first | (with_reducible assumption) | assumption)
                  obtain ⟨ad123, e123, hx123_0⟩ := Kd.at_int HR0.out x13_1 p123 q123
                  cases e123
                  replace p123 := eq_true p123
                  replace q123 := eq_true q123
                  have p124 : 0 ≤ (x13_1 : Int) := of_decide_eq_true (by first | (with_reducible assumption) | assumption)
                  have q124 : x13_1 < (l1.length : Int) := of_decide_eq_true (by first | (with_reducible assumption) | assumption)
                  obtain ⟨ad124, e124, hx124_0⟩ := Kd.at_int HR1.out x13_1 p124 q124
                  cases e124
                  replace p124 := eq_true p124
                  replace q124 := eq_true q124
                  go_wp2
                  repeat (go_quiet (fail); try go_wp2)
                  go_ret
                  exact ⟨by first | rfl | (simp; done) | (simp [*]; done), by repeat (first | exact Drawn0.refl _ | apply Drawn0.step)⟩
              · rw [if_neg c7] at H
                exact absurd H (by simp)
            · rw [if_neg c6] at H
              exact absurd H (by simp)
          · rw [if_neg c5] at H
            exact absurd H (by simp)
        · rw [if_neg c4] at H
          have c4b0 : decide (x13_1 < (l0.length : Int)) = false := decide_eq_false c4
          clear c4
          obtain rfl := Option.some.inj H
          go_wp2
          repeat (go_quiet (fail); try go_wp2)
          go_ret
          exact ⟨by first | rfl | (simp; done) | (simp [*]; done), by repeat (first | exact Drawn0.refl _ | apply Drawn0.step)⟩
  · rw [if_neg c3] at H
    have c3b0 : ((l0.length : Int) == (l1.length : Int)) = false := beq_eq_false_iff_ne.mpr c3
    have c3b1 : ((l0.length : Int) != (l1.length : Int)) = true := bne_iff_ne.mpr c3
    have c3b2 : (l0.length == l1.length) = false := by first | simpa using c3 | (simp at c3 ⊢; omega)
    obtain rfl := Option.some.inj H
    go_enter Try.func42, Try.ntmps42
    go_wp2
    repeat (go_quiet (fail); try go_wp2)
    go_ret
    exact ⟨by first | rfl | (simp; done) | (simp [*]; done), by repeat (first | exact Drawn0.refl _ | apply Drawn0.step)⟩

/-! ### tone_Same: function 14 -/
def tone_Same.f (k : Nat) (l0 : List Int) (l1 : List Int) : Option (Bool) := (slices_Equal_int_int.f k l0 l1).bind fun t125 => (some t125)
theorem tone_Same.mono : ∀ a0 a1 k, LeO (tone_Same.f k a0 a1) (tone_Same.f (k + 1) a0 a1) := by
  intro a0 a1 k
  unfold tone_Same.f
  repeat' first
      | (with_reducible exact slices_Equal_int_int.mono _ _ _)
      | (with_reducible exact LeO.refl _)
      | (with_reducible exact LeO.none _)
      | (with_reducible refine LeO.ite ?_ ?_)
      | (with_reducible refine LeO.bind ?_ (fun _ => ?_))
      | exact slices_Equal_int_int.mono _ _ _
      | exact LeO.none _
      | refine LeO.ite ?_ ?_
      | refine LeO.bind ?_ (fun _ => ?_)
set_option maxHeartbeats 8000000 in
set_option maxRecDepth 100000 in
theorem tone_Same.calls (k : Nat) (A0 : Option Addr) (c0 : Nat) (l0 : List Int) (A1 : Option Addr) (c1 : Nat) (l1 : List Int) (r : Bool) (w : World) (hr0 : Kd.C (Kd.int .i64) w A0 l0.length l0) (hc0 : l0.length ≤ c0) (hr1 : Kd.C (Kd.int .i64) w A1 l1.length l1) (hc1 : l1.length ≤ c1) (h : tone_Same.f k l0 l1 = some r) :
    Calls Try.prog 14 #[.slice A0 l0.length c0, .slice A1 l1.length c1] w fun e w' => e = .returned (.bool r) ∧ Drawn0 w w' := by
  have HR0 := Aside0.mk hr0
  have HC0 := Aside0.mk hc0
  clear hr0 hc0
  have HR1 := Aside0.mk hr1
  have HC1 := Aside0.mk hc1
  clear hr1 hc1
  have H : ((slices_Equal_int_int.f k l0 l1).bind fun t125 => (some t125)) = some r := h
  clear h
  replace H := Option.bind_eq_some_iff.mp H
  obtain ⟨t125, A30, H⟩ := H
  replace H : (some t125) = some r := H
  have A3 := Aside0.mk A30
  clear A30
  obtain rfl := Option.some.inj H
  go_enter Try.func14, Try.ntmps14
  go_wp2_with (first | ((with_reducible refine gate_callee (f := 42) rfl ?_); refine goesL_ (some 7) rfl rfl Try.func42 (by kernel_rfl) rfl #[.slice A0 l0.length c0, .slice A1 l1.length c1] rfl (by (try simp only [List.map_toArray, List.map_cons, List.map_nil]); first | done | rfl | (simp only [List.length_drop, List.length_take]; rfl)) ?_; (with_reducible refine (slices_Equal_int_int.calls k _ _ l0 _ _ l1 t125 _ ?side1 ?side2 ?side3 ?side4 A3.out).mono ?_); (case side1 => repeat (first | exact HR0.out | (with_reducible refine Kd.C_alloc ?_ _) | (with_reducible refine Kd.C_drewN ?_ _) | (with_reducible refine Kd.C_drew ?_))); (case side2 => exact HC0.out); (case side3 => repeat (first | exact HR1.out | (with_reducible refine Kd.C_alloc ?_ _) | (with_reducible refine Kd.C_drewN ?_ _) | (with_reducible refine Kd.C_drew ?_))); (case side4 => exact HC1.out); rintro e w' ⟨rfl, ⟨nd, rfl⟩⟩; refine ⟨_, rfl, ?_⟩))
  go_ret
  exact ⟨by first | rfl | (simp; done) | (simp [*]; done), by repeat (first | exact Drawn0.refl _ | apply Drawn0.step)⟩

end Go.Proofs.Ythcokhnckbkecaa.HTone
