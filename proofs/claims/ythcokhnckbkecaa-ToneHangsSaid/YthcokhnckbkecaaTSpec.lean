/- Plain laws of the sounds' functions, as the printed walk tells them: checks, what is heard, samples. -/
import Derived.Test.YthcokhnckbkecaaHTonex5
import Derived.Test.YthcokhnckbkecaaHTonex7
import Derived.Test.YthcokhnckbkecaaHTonex8
import Derived.Test.YthcokhnckbkecaaHTonex10
import Derived.Test.YthcokhnckbkecaaHTonex11
set_option linter.unusedVariables false
set_option linter.unusedSimpArgs false
namespace Go.Proofs.Ythcokhnckbkecaa.TSpec
open Go Go.RowKit Go.Proofs.Ythcokhnckbkecaa.HTone Go.Proofs.YthcokhnckbkecaaW.PrintWords Go.Proofs.YthcokhnckbkecaaW.PrintLast
theorem w64 {x : Int} (h0 : -9223372036854775808 ≤ x) (h1 : x < 9223372036854775808) : wrap64 x = x := by
  unfold wrap64; omega
theorem up {α : Type} {g : Nat → Option α} (h : ∀ k, LeO (g k) (g (k + 1))) {a : Nat} {r : α} (e : g a = some r) (b : Nat) (hb : a ≤ b) : g b = some r := by
  obtain ⟨j, rfl⟩ := Nat.exists_eq_add_of_le hb
  exact more_rounds h a j r e
def chip (a : Int) : Int := if a < 1 then 0 else if a > 12 then 0 else if a ≤ 6 then 1 else if a ≤ 10 then 2 else if a = 11 then 3 else 4
theorem chip1 (a : Int) : event_Chip.f 4 a = some (chip a) := by
  simp only [event_Chip.f, event_Chip.j0, chip]
  by_cases h1 : a < 1
  · simp [h1]
  · by_cases h2 : a > 12
    · simp [h1, h2]
    · simp only [h1, if_false, h2, decide_false, Bool.false_eq_true]
      split
      · rfl
      · split
        · rfl
        · split <;> rfl
theorem chip2 (a : Int) : pendulumref03_Chip.f 4 a = some (chip a) := by
  simp only [pendulumref03_Chip.f, pendulumref03_Chip.j0, pendulumref03_Chip.j1, chip]
  by_cases h1 : a < 1
  · have h2 : ¬ a ≥ 1 := by omega
    have h3 : ¬ a ≥ 7 := by omega
    have h4 : ¬ a = 11 := by omega
    have h5 : ¬ a = 12 := by omega
    simp [h1, h2, h3, h4, h5]
  · have h2 : a ≥ 1 := by omega
    rw [if_pos h2, if_neg h1]
    by_cases h3 : a ≤ 6
    · have h4 : ¬ a > 12 := by omega
      have h5 : a ≤ 12 := by omega
      simp [h3, h4, h5]
    · rw [if_neg (by simp [h3])]
      by_cases h4 : a ≥ 7
      · rw [if_pos h4]
        by_cases h5 : a ≤ 10
        · have h6 : ¬ a > 12 := by omega
          simp [h3, h5, h6]
        · rw [if_neg (by simp [h5])]
          by_cases h6 : a = 11
          · subst h6; rfl
          · rw [if_neg h6]
            by_cases h7 : a = 12
            · subst h7; rfl
            · rw [if_neg h7, if_pos (by omega)]
      · omega
/-- may an event be? -/
def okE (e : S28) : Prop := 0 ≤ e.f0 ∧ e.f0 ≤ 1099511627776 ∧ chip e.f3 ≠ 0 ∧ e.f1 = chip e.f3 ∧ 0 ≤ e.f2 ∧ e.f2 ≤ 4294967296 ∧ 0 ≤ e.f4 ∧ e.f4 ≤ 1048576 ∧ 0 ≤ e.f5 ∧ e.f5 ≤ 255
instance (e : S28) : Decidable (okE e) := by unfold okE; infer_instance
theorem ok1 (e : S28) : event_Check.f e.f0 e.f1 e.f2 e.f3 e.f4 e.f5 = some (if okE e then 0 else 2) := by
  unfold event_Check.f
  rw [chip1]
  simp only [Option.bind_some]
  congr 1
  by_cases h : okE e
  · rw [if_pos h]
    obtain ⟨a, b, c, d, f, g, i, j, k, l⟩ := h
    rw [if_neg (by omega), if_neg (by omega), if_neg c, if_neg (by simp [d]), if_neg (by omega), if_neg (by omega), if_neg (by omega), if_neg (by omega), if_neg (by omega), if_neg (by omega)]
  · rw [if_neg h]
    unfold okE at h
    repeat' split
    all_goals first | rfl | (exfalso; apply h; refine ⟨?_, ?_, ?_, ?_, ?_, ?_, ?_, ?_, ?_, ?_⟩ <;> first | assumption | omega | (apply Classical.not_not.1; assumption))
theorem ok2 (e : S28) : pendulumref03_Check.f e.f0 e.f1 e.f2 e.f3 e.f4 e.f5 = some (if okE e then 0 else 2) := by
  unfold pendulumref03_Check.f pendulumref02_May.f
  rw [chip2]
  have hm : (if e.f0 ≥ 0 then some (decide (e.f0 ≤ 1099511627776)) else some false) = some (decide (0 ≤ e.f0 ∧ e.f0 ≤ 1099511627776)) := by
    by_cases h : e.f0 ≥ 0
    · rw [if_pos h]; congr 1; rw [decide_eq_decide]; omega
    · rw [if_neg h]; congr 1; symm; rw [decide_eq_false_iff_not]; omega
  rw [hm]
  simp only [Option.bind_some, decide_eq_false_iff_not]
  congr 1
  by_cases h : okE e
  · rw [if_pos h]
    obtain ⟨a, b, c, d, f, g, i, j, k, l⟩ := h
    rw [if_neg (by omega), if_neg c, if_neg (by simp [d]), if_neg (by omega), if_neg (by omega), if_neg (by omega), if_neg (by omega), if_neg (by omega), if_neg (by omega)]
  · rw [if_neg h]
    unfold okE at h
    repeat' split
    all_goals first | rfl | (exfalso; apply h; refine ⟨?_, ?_, ?_, ?_, ?_, ?_, ?_, ?_, ?_, ?_⟩ <;> first | assumption | omega | (apply Classical.not_not.1; assumption))
def ordV (a b : S28) : Int :=
  if a.f0 < b.f0 then -1 else if a.f0 > b.f0 then 1 else if a.f1 < b.f1 then -1 else if a.f1 > b.f1 then 1 else if a.f2 < b.f2 then -1 else if a.f2 > b.f2 then 1 else
  if a.f3 < b.f3 then -1 else if a.f3 > b.f3 then 1 else if a.f4 < b.f4 then -1 else if a.f4 > b.f4 then 1 else if a.f5 < b.f5 then -1 else if a.f5 > b.f5 then 1 else 0
def cmp3 (x y : Int) : Int := if x < y then -1 else if x > y then 1 else 0
theorem cmpA (x y : Int) : cmp_Compare_int64.f x y = some (cmp3 x y) := by
  unfold cmp_Compare_int64.f cmp_isNaN_int64.f cmp3
  simp only [bne_self_eq_false, Option.bind_some, Bool.false_eq_true, if_false]
  split
  · rfl
  · split <;> rfl
theorem cmpB (x y : Int) : cmp_Compare_int.f x y = some (cmp3 x y) := by
  unfold cmp_Compare_int.f cmp_isNaN_int.f cmp3
  simp only [bne_self_eq_false, Option.bind_some, Bool.false_eq_true, if_false]
  split
  · rfl
  · split <;> rfl
theorem or6 (a b c d e f : Int) : cmp_Or_int.f 8 [a, b, c, d, e, f] = some (if a = 0 then if b = 0 then if c = 0 then if d = 0 then if e = 0 then if f = 0 then 0 else f else e else d else c else b else a) := by
  unfold cmp_Or_int.f
  simp only [cmp_Or_int.l0, List.length_cons, List.length_nil, rd, wrap64]
  simp
  repeat' split
  all_goals simp_all
theorem step3 (x y r : Int) : (if cmp3 x y = 0 then r else cmp3 x y) = (if x < y then -1 else if x > y then 1 else r) := by
  unfold cmp3
  by_cases h : x < y
  · simp [h]
  · by_cases h2 : x > y
    · simp [h, h2]
    · simp [h, h2]
theorem ord1 (a b : S28) (k : Nat) (hk : 8 ≤ k) : event_Order.f k a.f0 a.f1 a.f2 a.f3 a.f4 a.f5 b.f0 b.f1 b.f2 b.f3 b.f4 b.f5 = some (ordV a b) := by
  unfold event_Order.f
  simp only [cmpA, cmpB, Option.bind_some]
  rw [up (cmp_Or_int.mono _) (or6 _ _ _ _ _ _) k hk]
  simp only [Option.bind_some, step3]
  rfl
theorem isome (c : Prop) [Decidable c] (x y : Int) : (if c then some x else some y) = some (if c then x else y) := by split <;> rfl
theorem o2step (xs ys : List Int) (k i : Nat) (hi : i < xs.length) (hj : i < ys.length) (hl : xs.length ≤ 10) : pendulumref03_Order.l0 (k + 1) xs ys i = if rd xs i < rd ys i then some (-1) else if rd xs i > rd ys i then some 1 else pendulumref03_Order.l0 k xs ys ((i + 1 : Nat) : Int) := by
  rw [pendulumref03_Order.l0, if_pos (by omega), if_pos (by omega), if_pos (by omega), w64 (by omega) (by omega)]
  rfl
theorem ord2 (a b : S28) (k : Nat) (hk : 8 ≤ k) : pendulumref03_Order.f k a.f0 a.f1 a.f2 a.f3 a.f4 a.f5 b.f0 b.f1 b.f2 b.f3 b.f4 b.f5 = some (ordV a b) := by
  refine up (pendulumref03_Order.mono _ _ _ _ _ _ _ _ _ _ _ _) ?_ k hk
  unfold pendulumref03_Order.f ordV
  rw [show (0 : Int) = ((0 : Nat) : Int) from rfl, o2step _ _ 7 0 (by simp) (by simp) (by simp), o2step _ _ 6 1 (by simp) (by simp) (by simp), o2step _ _ 5 2 (by simp) (by simp) (by simp), o2step _ _ 4 3 (by simp) (by simp) (by simp), o2step _ _ 3 4 (by simp) (by simp) (by simp), o2step _ _ 2 5 (by simp) (by simp) (by simp)]
  rw [show pendulumref03_Order.l0 2 [a.f0, a.f1, a.f2, a.f3, a.f4, a.f5] [b.f0, b.f1, b.f2, b.f3, b.f4, b.f5] ((5 + 1 : Nat) : Int) = some 0 from by rw [pendulumref03_Order.l0, if_neg (by simp)]]
  simp only [show ∀ x0 x1 x2 x3 x4 x5 : Int, rd [x0, x1, x2, x3, x4, x5] ((0 : Nat) : Int) = x0 from fun _ _ _ _ _ _ => rfl, show ∀ x0 x1 x2 x3 x4 x5 : Int, rd [x0, x1, x2, x3, x4, x5] ((1 : Nat) : Int) = x1 from fun _ _ _ _ _ _ => rfl, show ∀ x0 x1 x2 x3 x4 x5 : Int, rd [x0, x1, x2, x3, x4, x5] ((2 : Nat) : Int) = x2 from fun _ _ _ _ _ _ => rfl, show ∀ x0 x1 x2 x3 x4 x5 : Int, rd [x0, x1, x2, x3, x4, x5] ((3 : Nat) : Int) = x3 from fun _ _ _ _ _ _ => rfl, show ∀ x0 x1 x2 x3 x4 x5 : Int, rd [x0, x1, x2, x3, x4, x5] ((4 : Nat) : Int) = x4 from fun _ _ _ _ _ _ => rfl, show ∀ x0 x1 x2 x3 x4 x5 : Int, rd [x0, x1, x2, x3, x4, x5] ((5 : Nat) : Int) = x5 from fun _ _ _ _ _ _ => rfl]
  simp only [isome]
  rfl
theorem rd28 (l : List S28) (i : Nat) (hi : i < l.length) : rd_T28 l (i : Int) = l[i] := by
  unfold rd_T28
  rw [Int.toNat_natCast, List.getD_eq_getElem?_getD, List.getElem?_eq_getElem hi]; rfl
/-- a history's check, from an event on -/
def chk : Option S28 → List S28 → Int
  | _, [] => 0
  | p, e :: r => if okE e then (match p with
      | none => chk (some e) r
      | some q => if ordV q e ≥ 0 then 2 else chk (some e) r) else 2
def prev (l : List S28) : Nat → Option S28
  | 0 => none
  | i + 1 => l[i]?
theorem mchk (l : List S28) (hl : l.length ≤ 4194304) : ∀ (k i : Nat), i ≤ l.length → l.length - i + 8 ≤ k → merge_Check.l0 k l l (l.length : Int) i = some (chk (prev l i) (l.drop i))
  | 0, i, _, h => by omega
  | k + 1, i, hi, hk => by
    rw [merge_Check.l0]
    by_cases h : i < l.length
    · rw [if_pos (by omega), if_pos (by omega), if_pos (by omega), List.drop_eq_getElem_cons h, rd28 l i h, ok1]
      simp only [Option.bind_some]
      have ih := mchk l hl k (i + 1) (by omega) (by omega)
      have hw : wrap64 ((i : Int) + 1) = ((i + 1 : Nat) : Int) := by rw [w64 (by omega) (by omega)]; rfl
      have hp : prev l (i + 1) = some l[i] := List.getElem?_eq_getElem h
      rw [hp] at ih
      by_cases ho : okE l[i]
      · rw [if_pos ho, if_pos rfl]
        cases i with
        | zero =>
          rw [if_neg (by simp), hw, ih]
          simp only [chk, prev]
          rw [if_pos ho]
        | succ j =>
          have hj : j < l.length := by omega
          have hw2 : wrap64 (((j + 1 : Nat) : Int) - 1) = (j : Int) := by rw [w64 (by omega) (by omega)]; omega
          rw [if_pos (by omega), hw2, if_pos (by omega), if_pos (by omega), rd28 l j hj, ord1 _ _ k (by omega)]
          simp only [Option.bind_some]
          have hpj : prev l (j + 1) = some l[j] := List.getElem?_eq_getElem hj
          rw [hpj]
          simp only [chk]
          rw [if_pos ho, hw, ih]
          split <;> rfl
      · rw [if_neg ho, if_neg (by decide)]
        simp only [chk]
        rw [if_neg ho]
    · rw [if_neg (by omega), List.drop_eq_nil_of_le (by omega)]
      rfl
theorem rchk (l : List S28) (hl : l.length ≤ 4194304) : ∀ (k i : Nat), i ≤ l.length → l.length - i + 9 ≤ k → pendulumref04_Check.l0 k l i = some (chk (prev l i) (l.drop i))
  | 0, i, _, h => by omega
  | k + 1, i, hi, hk => by
    rw [pendulumref04_Check.l0]
    by_cases h : i < l.length
    · rw [if_pos (by omega), if_pos (by omega), List.drop_eq_getElem_cons h, rd28 l i h, ok2]
      simp only [Option.bind_some]
      have ih := rchk l hl k (i + 1) (by omega) (by omega)
      have hw : wrap64 ((i : Int) + 1) = ((i + 1 : Nat) : Int) := by rw [w64 (by omega) (by omega)]; rfl
      have hp : prev l (i + 1) = some l[i] := List.getElem?_eq_getElem h
      rw [hp] at ih
      by_cases ho : okE l[i]
      · rw [if_pos ho, if_pos rfl]
        cases i with
        | zero =>
          rw [if_neg (by simp), hw, ih]
          simp only [chk, prev]
          rw [if_pos ho]
        | succ j =>
          have hj : j < l.length := by omega
          have hw2 : wrap64 (((j + 1 : Nat) : Int) - 1) = (j : Int) := by rw [w64 (by omega) (by omega)]; omega
          rw [if_pos (by omega), hw2, if_pos (by omega), if_pos (by omega), rd28 l j hj, ord2 _ _ k (by omega)]
          simp only [Option.bind_some]
          have hpj : prev l (j + 1) = some l[j] := List.getElem?_eq_getElem hj
          rw [hpj]
          simp only [chk]
          rw [if_pos ho, hw, ih]
          split <;> rfl
      · rw [if_neg ho, if_neg (by decide)]
        simp only [chk]
        rw [if_neg ho]
    · rw [if_neg (by omega), List.drop_eq_nil_of_le (by omega)]
      rfl
def check (l : List S28) : Int := if (l.length : Int) > 4194304 then 3 else chk none l
theorem check1 (l : List S28) (k : Nat) (hk : l.length + 8 ≤ k) : merge_Check.f k l = some (check l) := by
  unfold merge_Check.f check
  split
  · rfl
  · have := mchk l (by omega) k 0 (by omega) (by omega)
    simpa [prev] using this
theorem check2 (l : List S28) (k : Nat) (hk : l.length + 9 ≤ k) : pendulumref04_Check.f k l = some (check l) := by
  unfold pendulumref04_Check.f check
  split
  · rfl
  · have := rchk l (by omega) k 0 (by omega) (by omega)
    simpa [prev] using this
theorem chk_ok : ∀ (l : List S28) (p : Option S28), chk p l = 0 → ∀ e ∈ l, okE e
  | [], _, _, _, h => by cases h
  | x :: r, p, hc, e, he => by
    unfold chk at hc
    by_cases ho : okE x
    · rw [if_pos ho] at hc
      have hr : chk (some x) r = 0 := by
        cases p with
        | none => exact hc
        | some q =>
          simp only at hc
          split at hc
          · cases hc
          · exact hc
      rcases List.mem_cons.1 he with rfl | he
      · exact ho
      · exact chk_ok r (some x) hr e he
    · rw [if_neg ho] at hc; cases hc
theorem check_ok {l : List S28} (h : check l = 0) : (∀ e ∈ l, okE e) ∧ l.length ≤ 4194304 ∧ chk none l = 0 := by
  unfold check at h
  split at h
  · cases h
  · exact ⟨chk_ok l none h, by omega, h⟩
theorem check_A {l : List S28} (h : check l = 0) : ∀ e ∈ l, 0 ≤ e.f4 := fun e he => ((check_ok h).1 e he).2.2.2.2.2.2.1
theorem volEq (a : Int) : volR a = vol a := by
  unfold volR vol
  have h0 : 0 ≤ mn 15 (mx 0 a) ∧ mn 15 (mx 0 a) ≤ 15 := by unfold mn mx; split <;> split <;> omega
  generalize mn 15 (mx 0 a) = n at h0
  obtain ⟨h0, h1⟩ := h0
  rcases (show n = 0 ∨ n = 1 ∨ n = 2 ∨ n = 3 ∨ n = 4 ∨ n = 5 ∨ n = 6 ∨ n = 7 ∨ n = 8 ∨ n = 9 ∨ n = 10 ∨ n = 11 ∨ n = 12 ∨ n = 13 ∨ n = 14 ∨ n = 15 by omega) with rfl | rfl | rfl | rfl | rfl | rfl | rfl | rfl | rfl | rfl | rfl | rfl | rfl | rfl | rfl | rfl <;> decide +kernel
theorem vol_range (a : Int) : 0 ≤ vol a ∧ vol a ≤ 6750 := by
  unfold vol
  have h0 : 0 ≤ mn 15 (mx 0 a) ∧ mn 15 (mx 0 a) ≤ 15 := by unfold mn mx; split <;> split <;> omega
  generalize mn 15 (mx 0 a) = n at h0
  obtain ⟨h0, h1⟩ := h0
  rcases (show n = 0 ∨ n = 1 ∨ n = 2 ∨ n = 3 ∨ n = 4 ∨ n = 5 ∨ n = 6 ∨ n = 7 ∨ n = 8 ∨ n = 9 ∨ n = 10 ∨ n = 11 ∨ n = 12 ∨ n = 13 ∨ n = 14 ∨ n = 15 by omega) with rfl | rfl | rfl | rfl | rfl | rfl | rfl | rfl | rfl | rfl | rfl | rfl | rfl | rfl | rfl | rfl <;> decide +kernel
theorem hearEq (a b c d : Int) : hearR a b c d = hearV a b c d := by
  unfold hearR hearV
  rw [volEq, volEq, volEq]
/-- what is heard at a time -/
def hearAt (l : List S28) (t : Int) : Int := hearV (advW t l 0 0 0 0).2.1 (advW t l 0 0 0 0).2.2.1 (advW t l 0 0 0 0).2.2.2.1 (advW t l 0 0 0 0).2.2.2.2
theorem heard1 (l : List S28) (t : Int) : tone_Heard.f l t = some (if check l = 0 then (hearAt l t, 0) else (0, check l)) := by
  unfold tone_Heard.f
  rw [check1 l _ (by omega)]
  simp only [Option.bind_some]
  by_cases h : check l = 0
  · rw [if_pos h, if_pos h, if_pos (check_A h)]; rfl
  · rw [if_neg h, if_neg h]
theorem heardR (l : List S28) (t : Int) (h : check l = 0) : pendulumref31_heard.f l t = some (hearAt l t) := by
  unfold pendulumref31_heard.f
  have := (check_ok h).2.1
  rw [if_pos ⟨by omega, check_A h⟩, hearEq]; rfl
theorem heard2 (l : List S28) (t : Int) (k : Nat) (hk : l.length + 9 ≤ k) : pendulumref31_Heard.f k l t = some (if check l = 0 then (hearAt l t, 0) else (0, check l)) := by
  unfold pendulumref31_Heard.f
  rw [check2 l k hk]
  simp only [Option.bind_some]
  by_cases h : check l = 0
  · rw [if_pos h, if_pos h, heardR l t h]; rfl
  · rw [if_neg h, if_neg h]
theorem adv_comp (t t' : Int) (ht : t ≤ t') : ∀ (l : List S28) (a b c d : Int), advW t' (advW t l a b c d).1 (advW t l a b c d).2.1 (advW t l a b c d).2.2.1 (advW t l a b c d).2.2.2.1 (advW t l a b c d).2.2.2.2 = advW t' l a b c d
  | [], a, b, c, d => rfl
  | e :: r, a, b, c, d => by
    by_cases h : e.f0 ≤ t
    · have h' : e.f0 ≤ t' := by omega
      simp only [advW, if_pos h, if_pos h']
      split
      · exact adv_comp t t' ht r _ _ _ _
      · split
        · split
          · exact adv_comp t t' ht r _ _ _ _
          · exact adv_comp t t' ht r _ _ _ _
        · exact adv_comp t t' ht r _ _ _ _
    · simp only [advW, if_neg h]
def St (l : List S28) (t : Int) : List S28 × Int × Int × Int × Int := advW t l 0 0 0 0
/-- the samples' list -/
def sl (l : List S28) (rate : Int) (n i : Nat) : List Int := (List.range n).map fun j => hearAt l (((i + j : Nat) : Int) * rate)
theorem sl_succ (l : List S28) (rate : Int) (n i : Nat) : sl l rate (n + 1) i = hearAt l ((i : Int) * rate) :: sl l rate n (i + 1) := by
  unfold sl
  rw [List.range_succ_eq_map, List.map_cons, List.map_map]
  congr 1
  apply List.map_congr_left
  intro j _
  simp only [Function.comp]
  rw [show i + (j + 1) = i + 1 + j by omega]
theorem samp_eq (l : List S28) (rate : Int) (hr : 0 ≤ rate) : ∀ (n i : Nat) (q : List S28) (a b c d : Int), (∀ t, (i : Int) * rate ≤ t → advW t q a b c d = St l t) → (∀ j : Nat, j < n → ((i + j : Nat) : Int) * rate < 9223372036854775808) →
    samp rate n i q a b c d = sl l rate n i
  | 0, i, q, a, b, c, d, _, _ => rfl
  | n + 1, i, q, a, b, c, d, hq, hb => by
    have h0 : 0 ≤ (i : Int) * rate := Int.mul_nonneg (by omega) hr
    have hw : wrap64 ((i : Int) * rate) = (i : Int) * rate := by
      have := hb 0 (by omega)
      rw [Nat.add_zero] at this
      exact w64 (by omega) this
    have hS := hq _ (Int.le_refl _)
    rw [samp, sl_succ, hw, hS]
    have e : ((i : Int) + 1) * rate = (i : Int) * rate + rate := by rw [Int.add_mul, Int.one_mul]
    have := samp_eq l rate hr n (i + 1) (St l ((i : Int) * rate)).1 (St l ((i : Int) * rate)).2.1 (St l ((i : Int) * rate)).2.2.1 (St l ((i : Int) * rate)).2.2.2.1 (St l ((i : Int) * rate)).2.2.2.2 (fun t ht => by
      unfold St
      refine adv_comp _ t ?_ l 0 0 0 0
      have h2 : ((i + 1 : Nat) : Int) * rate = (i : Int) * rate + rate := by rw [← e]; rfl
      omega) (fun j hj => by
      have := hb (j + 1) (by omega)
      rw [show i + 1 + j = i + (j + 1) by omega]; exact this)
    rw [show ((i : Int) + 1) = ((i + 1 : Nat) : Int) from rfl, this]
    rfl
/-- how many samples -/
theorem sampN_spec {rate upto : Int} (hr : 1 ≤ rate) (ht : 0 ≤ upto) : ∃ n : Nat, sampN rate upto = n ∧ (∀ j : Nat, j < n ↔ (j : Int) * rate < upto) ∧ (n : Int) ≤ upto := by
  have h1 : 0 ≤ Int.tdiv upto rate := Int.tdiv_nonneg ht (by omega)
  have e := Int.mul_tdiv_add_tmod upto rate
  have m0 : 0 ≤ Int.tmod upto rate := Int.tmod_nonneg _ ht
  have m1 : Int.tmod upto rate < rate := Int.tmod_lt_of_pos _ (by omega)
  obtain ⟨q, hq⟩ := Int.eq_ofNat_of_zero_le h1
  have hqle : (q : Int) ≤ (q : Int) * rate := by
    have := Int.mul_le_mul_of_nonneg_left hr (show (0 : Int) ≤ q by omega)
    omega
  rw [hq, Int.mul_comm] at e
  have key : ∀ j : Nat, ((j : Int) * rate < (q : Int) * rate ↔ j < q) := fun j => by
    constructor
    · intro h; have := Int.lt_of_mul_lt_mul_right h (by omega); omega
    · intro h; exact Int.mul_lt_mul_of_pos_right (by omega) (by omega)
  have key2 : ∀ j : Nat, ((j : Int) * rate ≤ (q : Int) * rate ↔ j ≤ q) := fun j => by
    constructor
    · intro h; have := Int.le_of_mul_le_mul_right h (by omega); omega
    · intro h; exact Int.mul_le_mul_of_nonneg_right (by omega) (by omega)
  unfold sampN
  by_cases hm : Int.tmod upto rate = 0
  · rw [if_pos hm, hq]
    refine ⟨q, rfl, fun j => ?_, by omega⟩
    have := key j
    omega
  · rw [if_neg hm, hq]
    refine ⟨q + 1, by omega, fun j => ?_, by omega⟩
    have k2 := key2 j
    constructor
    · intro h
      have := k2.2 (by omega)
      omega
    · intro h
      by_cases hj : j ≤ q
      · omega
      · exfalso
        have h3 : ((q + 1 : Nat) : Int) * rate ≤ (j : Int) * rate := Int.mul_le_mul_of_nonneg_right (by omega) (by omega)
        have h4 : ((q + 1 : Nat) : Int) * rate = (q : Int) * rate + rate := by rw [Int.natCast_add, Int.add_mul]; simp
        omega
/-- what Samples tells -/
def sampR (l : List S28) (rate upto : Int) : List Int × Int :=
  if check l = 0 then (if rate < 1 then ([], 2) else if upto < 0 then ([], 2) else if upto > 1099511627776 then ([], 2) else if sampN rate upto > 1048576 then ([], 3) else (sl l rate (sampN rate upto).toNat 0, 0)) else ([], check l)
theorem samples1 (l : List S28) (rate upto : Int) : tone_Samples.f l rate upto = some (sampR l rate upto) := by
  unfold tone_Samples.f sampR
  rw [check1 l _ (by omega)]
  simp only [Option.bind_some]
  by_cases h : check l = 0
  · rw [if_pos h, if_pos h]
    by_cases h1 : rate < 1
    · rw [if_pos h1, if_pos h1]
    · rw [if_neg h1, if_neg h1]
      by_cases h2 : upto < 0
      · rw [if_pos h2, if_pos h2]
      · rw [if_neg h2, if_neg h2]
        by_cases h3 : upto > 1099511627776
        · rw [if_pos h3, if_pos h3]
        · rw [if_neg h3, if_neg h3]
          by_cases h4 : sampN rate upto > 1048576
          · rw [if_pos h4, if_pos h4]
          · rw [if_neg h4, if_neg h4, if_pos (check_A h)]
            obtain ⟨n, hn, hj, _⟩ := sampN_spec (rate := rate) (upto := upto) (by omega) (by omega)
            rw [hn, Int.toNat_natCast]
            have := samp_eq l rate (by omega) n 0 l 0 0 0 0 (fun t _ => rfl) (fun j hj' => by
              have := (hj j).1 hj'
              rw [Nat.zero_add]; omega)
            exact congrArg (fun x => some (x, (0 : Int))) this
  · rw [if_neg h, if_neg h]
theorem sl_snoc (l : List S28) (rate : Int) (n : Nat) : sl l rate (n + 1) 0 = sl l rate n 0 ++ [hearAt l ((n : Int) * rate)] := by
  unfold sl
  rw [List.range_succ, List.map_append]
  simp
theorem sl_len (l : List S28) (rate : Int) (n i : Nat) : (sl l rate n i).length = n := by simp [sl]
theorem rsamp (l : List S28) (rate upto : Int) (h : check l = 0) (hr : 1 ≤ rate) (hu0 : 0 ≤ upto) (hu : upto ≤ 1099511627776) (n : Nat) (hn : ∀ j : Nat, j < n ↔ (j : Int) * rate < upto) (hn2 : n ≤ 1048576) : ∀ (k j : Nat), j ≤ n → n - j < k → (j = 0 ∨ rate ≤ 1099511627776) →
    pendulumref31_Samples.l0 k l rate upto (sl l rate j 0) ((j : Int) * rate) = some (sl l rate n 0, 0)
  | 0, j, _, h, _ => by omega
  | k + 1, j, hj, hk, hor => by
    rw [pendulumref31_Samples.l0]
    have hjn := hn j
    by_cases hlt : j < n
    · rw [if_pos (hjn.1 hlt), heardR l _ h]
      simp only [Option.bind_some]
      rw [if_pos (by rw [sl_len]; omega), ← sl_snoc]
      by_cases hbig : rate > 1099511627776
      · rw [if_pos hbig]
        have hj0 : j = 0 := by omega
        subst hj0
        have h1 := hn 1
        have : n = 1 := by
          have : ¬ 1 < n := fun h => by have := h1.1 h; omega
          omega
        subst this; rfl
      · rw [if_neg hbig]
        have hlt2 := hjn.1 hlt
        have h0 : 0 ≤ (j : Int) * rate := Int.mul_nonneg (by omega) (by omega)
        have e : (j : Int) * rate + rate = ((j + 1 : Nat) : Int) * rate := by rw [Int.natCast_add, Int.add_mul]; simp
        rw [w64 (by omega) (by omega), e]
        exact rsamp l rate upto h hr hu0 hu n hn hn2 k (j + 1) (by omega) (by omega) (by omega)
    · rw [if_neg (fun hh => hlt (hjn.2 hh))]
      have : j = n := by omega
      rw [this]
theorem samples2 (l : List S28) (rate upto : Int) (k : Nat) (hk : l.length + 9 ≤ k) (hk2 : 1048580 ≤ k) : pendulumref31_Samples.f k l rate upto = some (sampR l rate upto) := by
  unfold pendulumref31_Samples.f sampR
  rw [check2 l k hk]
  simp only [Option.bind_some]
  obtain ⟨k, rfl⟩ := Nat.exists_eq_add_of_le' (show 3 ≤ k by omega)
  by_cases h : check l = 0
  · rw [if_pos h, if_pos h]
    by_cases h1 : rate < 1
    · rw [if_pos h1, if_pos h1, pendulumref31_Samples.j0, if_pos rfl]
    · rw [if_neg h1, if_neg h1]
      by_cases h2 : upto < 0
      · rw [if_pos h2, if_pos h2, pendulumref31_Samples.j0, if_pos rfl]
      · rw [if_neg h2, if_neg h2]
        by_cases h3 : upto > 1099511627776
        · rw [if_pos h3, pendulumref31_Samples.j0, if_pos (by simpa using h3)]
        · rw [if_neg h3, pendulumref31_Samples.j0, if_neg (by simpa using h3)]
          obtain ⟨n, hn, hj, hle⟩ := sampN_spec (rate := rate) (upto := upto) (by omega) (by omega)
          rw [hn, Int.toNat_natCast]
          have fin : ∀ k' : Nat, n ≤ 1048576 → n < k' → pendulumref31_Samples.l0 k' l rate upto [] 0 = some (sl l rate n 0, 0) := fun k' hn2 hk' => by
            have := rsamp l rate upto h (by omega) (by omega) (by omega) n hj hn2 k' 0 (by omega) (by omega) (.inl rfl)
            simpa [sl] using this
          by_cases hz : upto > 0
          · rw [if_pos hz, if_neg (by omega), pendulumref31_Samples.j1]
            have hq0 : 0 ≤ Int.tdiv (upto - 1) rate := Int.tdiv_nonneg (by omega) (by omega)
            have e := Int.mul_tdiv_add_tmod (upto - 1) rate
            have m0 : 0 ≤ Int.tmod (upto - 1) rate := Int.tmod_nonneg _ (by omega)
            have m1 : Int.tmod (upto - 1) rate < rate := Int.tmod_lt_of_pos _ (by omega)
            obtain ⟨q, hq⟩ := Int.eq_ofNat_of_zero_le hq0
            have hqle : (q : Int) ≤ (q : Int) * rate := by
              have := Int.mul_le_mul_of_nonneg_left (show 1 ≤ rate by omega) (show (0 : Int) ≤ q by omega)
              omega
            rw [hq, Int.mul_comm] at e
            have hnq : n = q + 1 := by
              have a1 := (hj q).2 (by omega)
              have a2 : ¬ q + 1 < n := fun hh => by
                have := (hj (q + 1)).1 hh
                rw [Int.natCast_add, Int.add_mul] at this
                simp at this
                omega
              omega
            rw [w64 (x := upto - 1) (by omega) (by omega), hq, w64 (x := (q : Int)) (by omega) (by omega), w64 (x := (q : Int) + 1) (by omega) (by omega)]
            by_cases hbig : (n : Int) > 1048576
            · rw [if_pos hbig, if_pos (by simp; omega)]
            · rw [if_neg hbig, if_neg (by simp; omega)]
              exact fin _ (by omega) (by omega)
          · have hn0 : n = 0 := by
              have := (hj 0).1
              rcases Nat.eq_zero_or_pos n with h | h
              · exact h
              · have := this h; simp at this; omega
            rw [if_neg hz, pendulumref31_Samples.j1, if_neg (by decide), if_neg (by omega), fin _ (by omega) (by omega)]
  · rw [if_neg h, if_neg h]
theorem rdI (l : List Int) (i : Nat) (hi : i < l.length) : rd l (i : Int) = l[i] := by
  unfold rd
  rw [Int.toNat_natCast, List.getD_eq_getElem?_getD, List.getElem?_eq_getElem hi]; rfl
theorem eq_l0 (a b : List Int) (hl : a.length = b.length) (hm : a.length < 4611686018427387904) : ∀ (k i : Nat), i ≤ a.length → a.length - i < k → slices_Equal_int_int.l0 k a b (a.length : Int) i = some (decide (a.drop i = b.drop i))
  | 0, i, _, h => by omega
  | k + 1, i, hi, hk => by
    rw [slices_Equal_int_int.l0]
    by_cases h : i < a.length
    · have hb : i < b.length := by omega
      rw [if_pos (by omega), if_pos (by omega), if_pos (by omega), if_pos (by omega), rdI a i h, rdI b i hb, List.drop_eq_getElem_cons h, List.drop_eq_getElem_cons hb, w64 (by omega) (by omega)]
      by_cases he : a[i] = b[i]
      · rw [if_pos he]
        have := eq_l0 a b hl hm k (i + 1) (by omega) (by omega)
        rw [show ((i : Int) + 1) = ((i + 1 : Nat) : Int) from rfl, this, he]
        congr 1; rw [decide_eq_decide]; exact ⟨fun e => by rw [e], fun e => (List.cons.inj e).2⟩
      · rw [if_neg he]; congr 1; symm; rw [decide_eq_false_iff_not]; intro hh; exact he (List.cons.inj hh).1
    · rw [if_neg (by omega), List.drop_eq_nil_of_le (by omega), List.drop_eq_nil_of_le (by omega)]; rfl
theorem same1 (a b : List Int) (hm : a.length < 4611686018427387904) (k : Nat) (hk : a.length + 1 ≤ k) : tone_Same.f k a b = some (decide (a = b)) := by
  unfold tone_Same.f slices_Equal_int_int.f
  by_cases h : a.length = b.length
  · rw [if_pos (by omega)]
    have := eq_l0 a b h hm k 0 (by omega) (by omega)
    rw [show ((0 : Nat) : Int) = 0 from rfl] at this
    rw [this]; rfl
  · rw [if_neg (by omega)]; simp only [Option.bind_some]; congr 1; symm; rw [decide_eq_false_iff_not]; rintro rfl; exact h rfl
theorem int_l0 (a b : List Int) (hl : a.length = b.length) (hm : a.length < 4611686018427387904) : ∀ (k i : Nat), i ≤ a.length → a.length - i < k → pendulumkit_Ints.l0 k a b i = some (decide (a.drop i = b.drop i))
  | 0, i, _, h => by omega
  | k + 1, i, hi, hk => by
    rw [pendulumkit_Ints.l0]
    by_cases h : i < a.length
    · have hb : i < b.length := by omega
      rw [if_pos (by omega), if_pos (by omega), if_pos (by omega), rdI a i h, rdI b i hb, List.drop_eq_getElem_cons h, List.drop_eq_getElem_cons hb, w64 (by omega) (by omega)]
      by_cases he : a[i] = b[i]
      · rw [if_pos he]
        have := int_l0 a b hl hm k (i + 1) (by omega) (by omega)
        rw [show ((i : Int) + 1) = ((i + 1 : Nat) : Int) from rfl, this, he]
        congr 1; rw [decide_eq_decide]; exact ⟨fun e => by rw [e], fun e => (List.cons.inj e).2⟩
      · rw [if_neg he]; congr 1; symm; rw [decide_eq_false_iff_not]; intro hh; exact he (List.cons.inj hh).1
    · rw [if_neg (by omega), List.drop_eq_nil_of_le (by omega), List.drop_eq_nil_of_le (by omega)]; rfl
theorem ints1 (a b : List Int) (hm : a.length < 4611686018427387904) (k : Nat) (hk : a.length + 1 ≤ k) : pendulumkit_Ints.f k a b = some (decide (a = b)) := by
  unfold pendulumkit_Ints.f
  by_cases h : a.length = b.length
  · rw [if_pos (by omega)]
    have := int_l0 a b h hm k 0 (by omega) (by omega)
    rw [show ((0 : Nat) : Int) = 0 from rfl] at this
    rw [this]; rfl
  · rw [if_neg (by omega)]; congr 1; symm; rw [decide_eq_false_iff_not]; rintro rfl; exact h rfl
theorem loud_l0 (l : List Int) (hm : l.length < 4611686018427387904) : ∀ (k i : Nat) (a b : Int), i ≤ l.length → l.length - i < k → pendulumref31_Loud.l0 k l a b i = some (minI a (l.drop i), maxI b (l.drop i))
  | 0, i, _, _, _, h => by omega
  | k + 1, i, a, b, hi, hk => by
    rw [pendulumref31_Loud.l0]
    by_cases h : i < l.length
    · rw [if_pos (by omega), if_pos (by omega), rdI l i h, List.drop_eq_getElem_cons h, w64 (by omega) (by omega)]
      have := loud_l0 l hm k (i + 1) (mn a l[i]) (mx b l[i]) (by omega) (by omega)
      rw [show ((i : Int) + 1) = ((i + 1 : Nat) : Int) from rfl, this]
      congr 2
      · simp only [minI, mn]; split <;> rfl
      · simp only [maxI, mx]; split <;> rfl
    · rw [if_neg (by omega), List.drop_eq_nil_of_le (by omega)]; rfl
/-- the least and the greatest -/
def loudV : List Int → Int × Int
  | [] => (0, 0)
  | x :: r => (minI x r, maxI x r)
theorem loud1 (l : List Int) (hm : l.length < 4611686018427387904) : tone_Loud.f l = some (loudV l) := by
  unfold tone_Loud.f slices_Min_int_int.f slices_Max_int_int.f
  cases l with
  | nil => rfl
  | cons x r =>
    rw [if_neg (by simp only [List.length_cons]; omega), if_pos hm, if_pos hm]; rfl
theorem loud2 (l : List Int) (hm : l.length < 4611686018427387904) (k : Nat) (hk : l.length + 1 ≤ k) : pendulumref31_Loud.f k l = some (loudV l) := by
  unfold pendulumref31_Loud.f
  cases l with
  | nil => rfl
  | cons x r =>
    have h := loud_l0 (x :: r) hm k 0 x x (by simp) (by omega)
    rw [if_neg (by simp only [List.length_cons]; omega), if_pos (by simp only [List.length_cons]; omega), show rd (x :: r) 0 = x from rfl]
    rw [show ((0 : Nat) : Int) = 0 from rfl] at h
    rw [h]
    simp only [List.drop_zero, loudV, minI, maxI, Int.lt_irrefl, if_false]
/-- how often a row turns: n so far, the way w, the last one p -/
def turnsV : Int → Int → Int → List Int → Int
  | n, _, _, [] => n
  | n, w, p, x :: r => if x > p then turnsV (if w = -1 then n + 1 else n) 1 x r else if x < p then turnsV (if w = 1 then n + 1 else n) (-1) x r else turnsV n w x r
theorem turn1 (l : List Int) (hm : l.length ≤ 1000) : ∀ (k i : Nat) (n w : Int), 1 ≤ i → i ≤ l.length → l.length - i < k → (w = 0 ∨ w = 1 ∨ w = -1) → 0 ≤ n → n ≤ i → tone_Turns.l0 k l n w i = some (turnsV n w (rd l ((i - 1 : Nat) : Int)) (l.drop i))
  | 0, i, _, _, _, _, h, _, _, _ => by omega
  | k + 1, i, n, w, h1, hi, hk, hw, hn, hn2 => by
    rw [tone_Turns.l0]
    by_cases h : i < l.length
    · rw [if_pos (by omega), if_pos (by omega), w64 (x := (i : Int) - 1) (by omega) (by omega), if_pos (by omega), if_pos (by omega), show (i : Int) - 1 = ((i - 1 : Nat) : Int) by omega, w64 (x := (i : Int) + 1) (by omega) (by omega), w64 (x := -w) (by omega) (by omega), w64 (x := n + 1) (by omega) (by omega)]
      rw [List.drop_eq_getElem_cons h, turnsV, rdI l i h]
      have ih := fun n w a b c => turn1 l hm k (i + 1) n w (by omega) (by omega) (by omega) a b c
      rw [show (((i + 1 - 1 : Nat)) : Int) = (i : Int) by omega, rdI l i h] at ih
      rw [show ((i : Int) + 1) = ((i + 1 : Nat) : Int) from rfl]
      by_cases g1 : l[i] > rd l ((i - 1 : Nat) : Int)
      · rw [if_pos g1, if_pos g1]
        by_cases g2 : w = -1
        · subst g2
          rw [if_pos (by decide), if_pos rfl]
          exact ih _ _ (by omega) (by omega) (by omega)
        · rw [if_neg (by omega), if_neg g2]
          exact ih _ _ (by omega) (by omega) (by omega)
      · rw [if_neg g1, if_neg g1]
        by_cases g3 : l[i] < rd l ((i - 1 : Nat) : Int)
        · rw [if_pos g3, if_pos g3]
          by_cases g2 : w = 1
          · subst g2
            rw [if_pos rfl, if_pos rfl]
            exact ih _ _ (by omega) (by omega) (by omega)
          · rw [if_neg (by omega), if_neg g2]
            exact ih _ _ (by omega) (by omega) (by omega)
        · rw [if_neg g3, if_neg g3]
          exact ih _ _ hw (by omega) (by omega)
    · rw [if_neg (by omega), List.drop_eq_nil_of_le (by omega)]; rfl
theorem turn2 (l : List Int) (hm : l.length ≤ 1000) : ∀ (k i : Nat) (n w : Int), 1 ≤ i → i ≤ l.length → 3 * (l.length - i) < k → (w = 0 ∨ w = 1 ∨ w = -1) → 0 ≤ n → n ≤ i → pendulumref31_Turns.l0 k l n w i = some (turnsV n w (rd l ((i - 1 : Nat) : Int)) (l.drop i)) := by
  intro k
  induction k using Nat.strongRecOn with
  | _ k ihk =>
  intro i n w h1 hi hk hw hn hn2
  by_cases h : i < l.length
  · obtain ⟨k, rfl⟩ := Nat.exists_eq_add_of_le' (show 3 ≤ k by omega)
    rw [pendulumref31_Turns.l0]
    have ih := fun n w a b c => ihk k (by omega) (i + 1) n w (by omega) (by omega) (by omega) a b c
    rw [show (((i + 1 - 1 : Nat)) : Int) = (i : Int) by omega, rdI l i h] at ih
    rw [if_pos (by omega), if_pos (by omega), w64 (x := (i : Int) - 1) (by omega) (by omega), if_pos (by omega), if_pos (by omega), show (i : Int) - 1 = ((i - 1 : Nat) : Int) by omega]
    rw [List.drop_eq_getElem_cons h, turnsV, rdI l i h]
    have hw1 : wrap64 ((i : Int) + 1) = ((i + 1 : Nat) : Int) := by rw [w64 (by omega) (by omega)]; rfl
    have hn1 : wrap64 (n + 1) = n + 1 := w64 (by omega) (by omega)
    by_cases g1 : l[i] > rd l ((i - 1 : Nat) : Int)
    · have g3 : ¬ l[i] < rd l ((i - 1 : Nat) : Int) := by omega
      rw [if_pos g1, if_pos g1, pendulumref31_Turns.j1, if_pos (by omega), if_pos (by omega), w64 (x := (i : Int) - 1) (by omega) (by omega), if_pos (by omega), if_pos (by omega), show (i : Int) - 1 = ((i - 1 : Nat) : Int) by omega, rdI l i h, if_neg g3, pendulumref31_Turns.j2, if_neg (by decide), hw1, hn1]
      by_cases g4 : w = 0
      · rw [if_pos g4, if_neg (by omega)]
        exact ih _ _ (by omega) (by omega) (by omega)
      · rw [if_neg g4]
        by_cases g5 : (1 : Int) = w
        · rw [if_pos g5, if_neg (by omega)]
          exact ih _ _ (by omega) (by omega) (by omega)
        · rw [if_neg g5, if_pos (by omega)]
          exact ih _ _ (by omega) (by omega) (by omega)
    · rw [if_neg g1, if_neg g1, pendulumref31_Turns.j1, if_pos (by omega), if_pos (by omega), w64 (x := (i : Int) - 1) (by omega) (by omega), if_pos (by omega), if_pos (by omega), show (i : Int) - 1 = ((i - 1 : Nat) : Int) by omega, rdI l i h]
      by_cases g3 : l[i] < rd l ((i - 1 : Nat) : Int)
      · rw [if_pos g3, if_pos g3, pendulumref31_Turns.j2, if_neg (by decide), hw1, hn1]
        by_cases g4 : w = 0
        · rw [if_pos g4, if_neg (by omega)]
          exact ih _ _ (by omega) (by omega) (by omega)
        · rw [if_neg g4]
          by_cases g5 : (-1 : Int) = w
          · rw [if_pos g5, if_neg (by omega)]
            exact ih _ _ (by omega) (by omega) (by omega)
          · rw [if_neg g5, if_pos (by omega)]
            exact ih _ _ (by omega) (by omega) (by omega)
      · rw [if_neg g3, if_neg g3, pendulumref31_Turns.j2, if_pos rfl, hw1]
        exact ih _ _ hw (by omega) (by omega)
  · obtain ⟨k, rfl⟩ := Nat.exists_eq_add_of_le' (show 1 ≤ k by omega)
    rw [pendulumref31_Turns.l0, if_neg (by omega), List.drop_eq_nil_of_le (by omega)]; rfl
def turns (l : List Int) : Int := turnsV 0 0 (rd l 0) (l.drop 1)
theorem turns1 (l : List Int) (hm : l.length ≤ 1000) (k : Nat) (hk : l.length + 1 ≤ k) : tone_Turns.f k l = some (turns l) := by
  unfold tone_Turns.f
  rcases Nat.eq_zero_or_pos l.length with h | h
  · obtain ⟨k, rfl⟩ := Nat.exists_eq_add_of_le' (show 1 ≤ k by omega)
    rw [tone_Turns.l0, if_neg (by omega)]
    rw [List.length_eq_zero_iff.1 h]; rfl
  · exact turn1 l hm k 1 0 0 (by omega) (by omega) (by omega) (.inl rfl) (by omega) (by omega)
theorem turns2 (l : List Int) (hm : l.length ≤ 1000) (k : Nat) (hk : 3 * l.length + 1 ≤ k) : pendulumref31_Turns.f k l = some (turns l) := by
  unfold pendulumref31_Turns.f
  rcases Nat.eq_zero_or_pos l.length with h | h
  · obtain ⟨k, rfl⟩ := Nat.exists_eq_add_of_le' (show 1 ≤ k by omega)
    rw [pendulumref31_Turns.l0, if_neg (by omega)]
    rw [List.length_eq_zero_iff.1 h]; rfl
  · exact turn2 l hm k 1 0 0 (by omega) (by omega) (by omega) (.inl rfl) (by omega) (by omega)
theorem lives_true (k : Nat) (hk : 16 ≤ k) : pendulumlaw31_lives.f k = some true := by
  have h : pendulumlaw31_lives.f 16 = some true := by decide +kernel
  exact up pendulumlaw31_lives.mono h k hk
end Go.Proofs.Ythcokhnckbkecaa.TSpec
