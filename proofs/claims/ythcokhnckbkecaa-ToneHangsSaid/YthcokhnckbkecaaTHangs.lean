/- What samples hang on: a plain law. -/
import Derived.Test.YthcokhnckbkecaaTSpec
import Derived.Test.YthcokhnckbkecaaHTonex9
set_option linter.unusedVariables false
set_option linter.unusedSimpArgs false
namespace Go.Proofs.Ythcokhnckbkecaa.TSpec
open Go Go.RowKit Go.Proofs.Ythcokhnckbkecaa.HTone Go.Proofs.YthcokhnckbkecaaW.PrintWords Go.Proofs.YthcokhnckbkecaaW.PrintLast
theorem st3 (x y r : Int) : ((if x < y then -1 else if x > y then 1 else r) < 0) ↔ (x < y ∨ (x = y ∧ r < 0)) := by
  split
  · omega
  · split <;> omega
theorem st0 (x y : Int) : ((if x < y then -1 else if x > y then 1 else (0 : Int)) < 0) ↔ x < y := by
  rw [st3]; omega
theorem ord_lt (a b : S28) : ordV a b < 0 ↔ (a.f0 < b.f0 ∨ (a.f0 = b.f0 ∧ (a.f1 < b.f1 ∨ (a.f1 = b.f1 ∧ (a.f2 < b.f2 ∨ (a.f2 = b.f2 ∧ (a.f3 < b.f3 ∨ (a.f3 = b.f3 ∧ (a.f4 < b.f4 ∨ (a.f4 = b.f4 ∧ a.f5 < b.f5)))))))))) := by
  unfold ordV
  rw [st3, st3, st3, st3, st3, st0]
theorem ord_trans (a b c : S28) (h : ordV a b < 0) (k : ordV b c < 0) : ordV a c < 0 := by
  rw [ord_lt] at h k ⊢
  omega
theorem chk_pw : ∀ (l : List S28) (p : Option S28), chk p l = 0 → l.Pairwise (fun x y => ordV x y < 0) ∧ (∀ q, p = some q → ∀ x ∈ l, ordV q x < 0)
  | [], p, _ => ⟨List.Pairwise.nil, fun _ _ _ h => by cases h⟩
  | e :: r, p, h => by
    unfold chk at h
    by_cases ho : okE e
    · rw [if_pos ho] at h
      have hr : chk (some e) r = 0 ∧ ∀ q, p = some q → ordV q e < 0 := by
        cases p with
        | none => exact ⟨h, fun _ hh => by cases hh⟩
        | some q =>
          simp only at h
          split at h
          · cases h
          · exact ⟨h, fun q' hq => by cases hq; omega⟩
      obtain ⟨pw, hx⟩ := chk_pw r (some e) hr.1
      refine ⟨List.Pairwise.cons (hx e rfl) pw, fun q hq x hxm => ?_⟩
      rcases List.mem_cons.1 hxm with rfl | hm
      · exact hr.2 q hq
      · exact ord_trans _ _ _ (hr.2 q hq) (hx e rfl x hm)
    · rw [if_neg ho] at h; cases h
theorem pw_chk : ∀ (l : List S28) (p : Option S28), (∀ e ∈ l, okE e) → l.Pairwise (fun x y => ordV x y < 0) → (∀ q, p = some q → ∀ x ∈ l, ordV q x < 0) → chk p l = 0
  | [], p, _, _, _ => by cases p <;> rfl
  | e :: r, p, ho, pw, hp => by
    unfold chk
    rw [if_pos (ho e (List.mem_cons_self ..))]
    have hc := List.pairwise_cons.1 pw
    have ih := pw_chk r (some e) (fun x hx => ho x (List.mem_cons_of_mem _ hx)) hc.2 (fun q hq x hx => by cases hq; exact hc.1 x hx)
    cases p with
    | none => exact ih
    | some q =>
      have := hp q rfl e (List.mem_cons_self ..)
      simp only
      rw [if_neg (by omega)]; exact ih
theorem check_filter {l : List S28} (h : check l = 0) (p : S28 → Bool) : check (l.filter p) = 0 := by
  obtain ⟨h1, h2, h3⟩ := check_ok h
  have hlen := List.length_filter_le p l
  unfold check
  rw [if_neg (by omega)]
  exact pw_chk _ none (fun e he => h1 e (List.mem_filter.1 he).1) ((chk_pw l none h3).1.filter p) (fun _ hq => by cases hq)
theorem times {l : List S28} (h : check l = 0) : l.Pairwise (fun x y => x.f0 ≤ y.f0) :=
  (chk_pw l none (check_ok h).2.2).1.imp (fun {a b} hh => by rw [ord_lt] at hh; omega)
theorem adv_late (t : Int) (l : List S28) (a b c d : Int) (h : ∀ e ∈ l, ¬ e.f0 ≤ t) : (advW t l a b c d).2 = (a, b, c, d) := by
  cases l with
  | nil => rfl
  | cons e r => unfold advW; rw [if_neg (h e (List.mem_cons_self ..))]
theorem adv_filter (t : Int) (p : S28 → Bool) : ∀ (l : List S28) (a b c d : Int), l.Pairwise (fun x y => x.f0 ≤ y.f0) → (∀ e ∈ l, e.f0 ≤ t → p e = false → e.f3 ≠ 10 ∧ e.f3 ≠ 11) → (advW t (l.filter p) a b c d).2 = (advW t l a b c d).2
  | [], a, b, c, d, _, _ => rfl
  | e :: r, a, b, c, d, pw, hp => by
    have hc := List.pairwise_cons.1 pw
    have ih := fun a b c d => adv_filter t p r a b c d hc.2 (fun x hx => hp x (List.mem_cons_of_mem _ hx))
    by_cases h : e.f0 ≤ t
    · cases hpe : p e with
      | true =>
        rw [List.filter_cons_of_pos hpe]
        simp only [advW, if_pos h]
        split
        · exact ih _ _ _ _
        · split
          · split
            · exact ih _ _ _ _
            · exact ih _ _ _ _
          · exact ih _ _ _ _
      | false =>
        obtain ⟨n1, n2⟩ := hp e (List.mem_cons_self ..) h hpe
        rw [List.filter_cons_of_neg (by rw [hpe]; decide)]
        simp only [advW, if_pos h, if_neg n1, if_neg n2]
        exact ih _ _ _ _
    · rw [adv_late t (e :: r) a b c d (fun x hx => by
        rcases List.mem_cons.1 hx with rfl | hx
        · exact h
        · have := hc.1 x hx; omega)]
      exact adv_late t _ a b c d (fun x hx => by
        have hx := (List.mem_filter.1 hx).1
        rcases List.mem_cons.1 hx with rfl | hx
        · exact h
        · have := hc.1 x hx; omega)
theorem hear_filter {l : List S28} (h : check l = 0) (t : Int) (p : S28 → Bool) (hp : ∀ e ∈ l, e.f0 ≤ t → p e = false → e.f3 ≠ 10 ∧ e.f3 ≠ 11) : hearAt (l.filter p) t = hearAt l t := by
  have := adv_filter t p l 0 0 0 0 (times h) hp
  unfold hearAt
  rw [this]
theorem adv_bits (t : Int) : ∀ (l : List S28) (a b c d : Int), (∀ e ∈ l, 0 ≤ e.f5 ∧ e.f5 ≤ 255) → 0 ≤ d ∧ d ≤ 255 → 0 ≤ (advW t l a b c d).2.2.2.2 ∧ (advW t l a b c d).2.2.2.2 ≤ 255
  | [], _, _, _, _, _, h => h
  | e :: r, a, b, c, d, hl, h => by
    have ih := fun a b c d h => adv_bits t r a b c d (fun x hx => hl x (List.mem_cons_of_mem _ hx)) h
    unfold advW
    split
    · split
      · exact ih _ _ _ _ (hl e (List.mem_cons_self ..))
      · split
        · split
          · exact ih _ _ _ _ h
          · exact ih _ _ _ _ h
        · exact ih _ _ _ _ h
    · exact h
theorem hear_nonneg {l : List S28} (h : check l = 0) (t : Int) : 0 ≤ hearAt l t := by
  have hb := adv_bits t l 0 0 0 0 (fun e he => by have := (check_ok h).1 e he; exact ⟨this.2.2.2.2.2.2.2.2.1, this.2.2.2.2.2.2.2.2.2⟩) (by decide)
  unfold hearAt hearV
  generalize (advW t l 0 0 0 0).2.2.2.2 = d at hb ⊢
  have v1 := vol_range (advW t l 0 0 0 0).2.1
  have v2 := vol_range (advW t l 0 0 0 0).2.2.1
  have v3 := vol_range (advW t l 0 0 0 0).2.2.2.1
  rw [w64 (x := 2000 * d) (by omega) (by omega), w64 (x := vol (advW t l 0 0 0 0).2.1 + vol (advW t l 0 0 0 0).2.2.1) (by omega) (by omega), w64 (x := vol (advW t l 0 0 0 0).2.1 + vol (advW t l 0 0 0 0).2.2.1 + vol (advW t l 0 0 0 0).2.2.2.1) (by omega) (by omega), w64 (by omega) (by omega)]
  omega
/-- an event that is heard -/
def aud (e : S28) : Bool := decide (e.f3 = 11 ∨ e.f3 = 10)
theorem only_l0 (x0 : List S28) (hl : x0.length ≤ 300) (r u c : Int) : ∀ (m k i : Nat) (acc : List S28), i + m = x0.length → acc.length ≤ i → pendulumlaw31_ToneHangs.l0 (k + m) x0 r u c acc i = pendulumlaw31_ToneHangs.l0 k x0 r u c (acc ++ (x0.drop i).filter aud) x0.length
  | 0, k, i, acc, hi, _ => by
    rw [List.drop_eq_nil_of_le (by omega), show i = x0.length by omega]; simp
  | m + 1, k, i, acc, hi, ha => by
    have h : i < x0.length := by omega
    have hw : wrap64 ((i : Int) + 1) = ((i + 1 : Nat) : Int) := by rw [w64 (by omega) (by omega)]; rfl
    have ih := fun acc ha => only_l0 x0 hl r u c m k (i + 1) acc (by omega) ha
    rw [← Nat.add_assoc, pendulumlaw31_ToneHangs.l0, if_pos (by omega), if_pos (by omega), rd28 x0 i h, hw, List.drop_eq_getElem_cons h]
    by_cases h1 : x0[i].f3 = 11
    · rw [if_pos h1, if_pos (by omega), List.filter_cons_of_pos (by unfold aud; simp [h1])]
      rw [ih _ (by simp; omega)]
      simp
    · rw [if_neg h1]
      by_cases h2 : x0[i].f3 = 10
      · rw [if_pos h2, if_pos (by omega), List.filter_cons_of_pos (by unfold aud; simp [h2])]
        rw [ih _ (by simp; omega)]
        simp
      · rw [if_neg h2, List.filter_cons_of_neg (by unfold aud; simp [h1, h2])]
        exact ih _ (by omega)
theorem cut_l0 (x0 : List S28) (hl : x0.length ≤ 300) (u : Int) : ∀ (m k i : Nat) (a b : List S28), i + m = x0.length → a.length ≤ i → b.length ≤ i → pendulumref04_Cut.l0 (k + m + 1) x0 u a b i = some (a ++ (x0.drop i).filter (fun e => decide (e.f0 < u)), b ++ (x0.drop i).filter (fun e => !decide (e.f0 < u)))
  | 0, k, i, a, b, hi, _, _ => by
    rw [pendulumref04_Cut.l0, if_neg (by omega), List.drop_eq_nil_of_le (by omega)]; simp
  | m + 1, k, i, a, b, hi, ha, hb => by
    have h : i < x0.length := by omega
    have hw : wrap64 ((i : Int) + 1) = ((i + 1 : Nat) : Int) := by rw [w64 (by omega) (by omega)]; rfl
    have ih := fun a b ha hb => cut_l0 x0 hl u m k (i + 1) a b (by omega) ha hb
    rw [show k + (m + 1) + 1 = (k + m + 1) + 1 by omega, pendulumref04_Cut.l0, if_pos (by omega), if_pos (by omega), rd28 x0 i h, hw, List.drop_eq_getElem_cons h]
    by_cases h1 : x0[i].f0 < u
    · rw [if_pos h1, if_pos (by omega), List.filter_cons_of_pos (by simp [h1]), List.filter_cons_of_neg (by simp [h1])]
      rw [ih _ _ (by simp; omega) (by omega)]
      simp
    · rw [if_neg h1, if_pos (by omega), List.filter_cons_of_neg (by simp [h1]), List.filter_cons_of_pos (by simp [h1])]
      rw [ih _ _ (by omega) (by simp; omega)]
      simp
theorem cut1 (x0 : List S28) (hl : x0.length ≤ 300) (u : Int) (k : Nat) (hk : 301 ≤ k) : pendulumref04_Cut.f k x0 u = some (x0.filter (fun e => decide (e.f0 < u)), x0.filter (fun e => !decide (e.f0 < u))) := by
  unfold pendulumref04_Cut.f
  obtain ⟨k', rfl⟩ := Nat.exists_eq_add_of_le' (show x0.length + 1 ≤ k by omega)
  have := cut_l0 x0 hl u x0.length k' 0 [] [] (by omega) (by simp) (by simp)
  simpa [Nat.add_assoc] using this
theorem sl_get (l : List S28) (rate : Int) (n j : Nat) (hj : j < n) : rd (sl l rate n 0) (j : Int) = hearAt l ((j : Int) * rate) := by
  rw [rdI _ j (by rw [sl_len]; exact hj)]
  unfold sl
  simp
theorem sl_take (l : List S28) (rate : Int) (n m : Nat) (h : m ≤ n) : (sl l rate n 0).take m = sl l rate m 0 := by
  unfold sl
  rw [← List.map_take, List.take_range, Nat.min_eq_left h]
theorem sl_congr (l l' : List S28) (rate : Int) (n : Nat) (h : ∀ j : Nat, j < n → hearAt l ((j : Int) * rate) = hearAt l' ((j : Int) * rate)) : sl l rate n 0 = sl l' rate n 0 := by
  unfold sl
  apply List.map_congr_left
  intro j hj
  have := h j (by simpa using hj)
  simpa using this
theorem loop1 (l : List S28) (h : check l = 0) (rate : Int) (hr : 1 ≤ rate) (hr2 : rate ≤ 1000) (n n2 : Nat) (hn : n ≤ 3000) (h2 : ∀ j : Nat, j < n2 ↔ 2 * j < n) : ∀ (k i : Nat), i ≤ n → n - i < k → pendulumlaw31_ToneHangs.l1 k l rate (sl l rate n 0) (sl l (2 * rate) n2 0) i = some true
  | 0, i, _, hk => by omega
  | k + 1, i, hi, hk => by
    rw [pendulumlaw31_ToneHangs.l1, sl_len]
    by_cases g : i < n
    · have b0 : 0 ≤ (i : Int) * rate := Int.mul_nonneg (by omega) (by omega)
      have b1 : (i : Int) * rate ≤ 3000 * 1000 := Int.mul_le_mul (by omega) hr2 (by omega) (by omega)
      have hw : wrap64 ((i : Int) + 1) = ((i + 1 : Nat) : Int) := by rw [w64 (by omega) (by omega)]; rfl
      have ih := loop1 l h rate hr hr2 n n2 hn h2 k (i + 1) (by omega) (by omega)
      rw [if_pos (by omega), w64 (x := (i : Int) * rate) (by omega) (by omega), heard1, if_pos h]
      simp only [Option.bind_some]
      rw [if_pos trivial, if_pos (by omega), sl_get l rate n i g, if_pos rfl, if_neg (by have := hear_nonneg h ((i : Int) * rate); omega), hw, Int.tmod_eq_emod_of_nonneg (by omega), Int.tdiv_eq_ediv_of_nonneg (by omega)]
      by_cases he : (i : Int) % 2 = 0
      · rw [if_pos he, w64 (x := (i : Int) / 2) (by omega) (by omega), if_pos (by omega), sl_len, if_pos (by have := (h2 (i / 2)).2 (by omega); omega), show (i : Int) / 2 = ((i / 2 : Nat) : Int) by omega, sl_get l (2 * rate) n2 (i / 2) ((h2 (i / 2)).2 (by omega))]
        rw [show ((i / 2 : Nat) : Int) * (2 * rate) = (i : Int) * rate by rw [← Int.mul_assoc, show ((i / 2 : Nat) : Int) * 2 = (i : Int) by omega], if_pos rfl]
        exact ih
      · rw [if_neg he]; exact ih
    · rw [if_neg (by omega)]
theorem same_refl (a : List Int) (hm : a.length < 4611686018427387904) (k : Nat) (hk : a.length + 1 ≤ k) : tone_Same.f k a a = some true := by
  rw [same1 a a hm k hk, decide_eq_true rfl]
theorem hangs (l0 : List S28) (a1 a2 a3 : Int) (K : Nat) (hK : 20000 ≤ K) : pendulumlaw31_ToneHangs.f (K + 1) l0 a1 a2 a3 = some true := by
  unfold pendulumlaw31_ToneHangs.f pendulumkit_Near.f
  rw [lives_true (K + 1) (by omega)]
  simp only [Option.bind_some, if_true]
  have hN : ∀ x m : Int, 0 ≤ m → 0 ≤ mn (mx 0 x) m ∧ mn (mx 0 x) m ≤ m := fun x m hm => by unfold mn mx; split <;> split <;> omega
  have r1 := hN a1 500 (by decide)
  have r2 := hN a2 3000 (by decide)
  have r3 := hN a3 3000 (by decide)
  rw [w64 (x := 1 + mn (mx 0 a1) 500) (by omega) (by omega)]
  generalize hrate : 1 + mn (mx 0 a1) 500 = rate
  generalize mn (mx 0 a2) 3000 = upto at r2
  have hr1 : 1 ≤ rate := by omega
  have hr2 : rate ≤ 501 := by omega
  have jt : pendulumlaw31_ToneHangs.j0 (K + 1) l0 rate upto a3 true = some true := by rw [pendulumlaw31_ToneHangs.j0, if_pos rfl]
  by_cases g0 : (l0.length : Int) > 300
  · rw [if_pos g0, jt]
  rw [if_neg g0, check2 l0 (K + 1) (by omega)]
  simp only [Option.bind_some]
  by_cases hc : check l0 = 0
  case neg => rw [if_neg hc, jt]
  rw [if_pos hc, if_neg (by omega)]
  by_cases g1 : wrap64 (Int.tdiv upto rate) > 300
  · rw [decide_eq_true g1, jt]
  rw [decide_eq_false g1, pendulumlaw31_ToneHangs.j0, if_neg (by decide)]
  obtain ⟨n, hn, hj, hle⟩ := sampN_spec hr1 r2.1
  obtain ⟨n2, hn2, hj2, hle2⟩ := sampN_spec (rate := 2 * rate) (upto := upto) (by omega) r2.1
  have h2 : ∀ j : Nat, j < n2 ↔ 2 * j < n := fun j => by
    have e : (j : Int) * (2 * rate) = ((2 * j : Nat) : Int) * rate := by rw [← Int.mul_assoc, Int.mul_comm (j : Int) 2]; rfl
    rw [hj2 j, e]
    exact (hj (2 * j)).symm
  have hn2v : n2 = (n + 1) / 2 := by
    have a := h2 n2
    have b := h2 ((n + 1) / 2)
    have c := h2 ((n + 1) / 2 - 1)
    omega
  obtain ⟨K', hK'⟩ := Nat.exists_eq_add_of_le' (show l0.length ≤ K by omega)
  have hon := only_l0 l0 (by omega) rate upto a3 l0.length K' 0 [] (by omega) (by simp)
  rw [List.drop_zero, List.nil_append, show ((0 : Nat) : Int) = 0 from rfl] at hon
  rw [hK', hon]
  obtain ⟨K2, rfl⟩ := Nat.exists_eq_add_of_le' (show 3 ≤ K' by omega)
  rw [pendulumlaw31_ToneHangs.l0, if_neg (by omega), samples1, samples1, samples1]
  have hco := check_filter hc aud
  have hs1 : sampR l0 rate upto = (sl l0 rate n 0, 0) := by unfold sampR; rw [if_pos hc, if_neg (by omega), if_neg (by omega), if_neg (by omega), hn, if_neg (by omega), Int.toNat_natCast]
  have hs2 : sampR (l0.filter aud) rate upto = (sl (l0.filter aud) rate n 0, 0) := by unfold sampR; rw [if_pos hco, if_neg (by omega), if_neg (by omega), if_neg (by omega), hn, if_neg (by omega), Int.toNat_natCast]
  have hs3 : sampR l0 (2 * rate) upto = (sl l0 (2 * rate) n2 0, 0) := by unfold sampR; rw [if_pos hc, if_neg (by omega), if_neg (by omega), if_neg (by omega), hn2, if_neg (by omega), Int.toNat_natCast]
  have hsl : sl (l0.filter aud) rate n 0 = sl l0 rate n 0 := sl_congr _ _ _ _ fun j _ => hear_filter hc _ aud (fun e _ _ hpe => by
    unfold aud at hpe
    rw [decide_eq_false_iff_not] at hpe
    omega)
  rw [w64 (x := 2 * rate) (by omega) (by omega), hs1, hs2, hs3, hsl]
  simp only [Option.bind_some]
  rw [if_pos trivial, if_pos trivial, if_pos trivial, same_refl _ (by rw [sl_len]; omega) (K2 + 2) (by rw [sl_len]; omega)]
  rw [Option.bind_some, if_pos rfl, sl_len, sl_len]
  rw [w64 (x := (n : Int) + 1) (by omega) (by omega), Int.tdiv_eq_ediv_of_nonneg (by omega), w64 (x := ((n : Int) + 1) / 2) (by omega) (by omega), show ((n2 : Int) != ((n : Int) + 1) / 2) = false from by rw [bne_eq_false_iff_eq]; omega]
  rw [pendulumlaw31_ToneHangs.j2, if_neg (by decide)]
  unfold pendulumkit_Near.f
  simp only [Option.bind_some]
  generalize mn (mx 0 a3) 3000 = cut at r3
  rw [cut1 l0 (by omega) cut (K2 + 1) (by omega)]
  simp only [Option.bind_some]
  have hmn : 0 ≤ mn upto cut ∧ mn upto cut ≤ upto ∧ mn upto cut ≤ cut := by unfold mn; split <;> omega
  generalize mn upto cut = u2 at hmn
  obtain ⟨m, hm, hjm, hlem⟩ := sampN_spec (rate := rate) (upto := u2) hr1 hmn.1
  have hmle : m ≤ n := by
    rcases Nat.lt_or_ge n m with h | h
    · have := (hjm n).1 h
      have := (hj n).2 (by omega)
      omega
    · exact h
  have hcb := check_filter hc (fun e => decide (e.f0 < cut))
  rw [samples1]
  have hs4 : sampR (l0.filter (fun e => decide (e.f0 < cut))) rate u2 = (sl l0 rate m 0, 0) := by
    unfold sampR
    rw [if_pos hcb, if_neg (by omega), if_neg (by omega), if_neg (by omega), hm, if_neg (by omega), Int.toNat_natCast]
    rw [sl_congr _ l0 rate m fun j hj' => hear_filter hc _ _ (fun e _ ht hpe => by
      rw [decide_eq_false_iff_not] at hpe
      have := (hjm j).1 hj'
      omega)]
  rw [hs4]
  simp only [Option.bind_some]
  rw [if_pos trivial, sl_len, sl_len, if_neg (by omega), if_pos (by omega), if_pos (by omega), Int.toNat_natCast, sl_take l0 rate n m hmle, same_refl _ (by rw [sl_len]; omega) (K2 + 1) (by rw [sl_len]; omega)]
  simp only [Option.bind_some, Bool.not_true]
  rw [pendulumlaw31_ToneHangs.j3, if_neg (by decide)]
  exact loop1 l0 hc rate hr1 (by omega) n n2 (by omega) h2 K2 0 (by omega) (by omega)
end Go.Proofs.Ythcokhnckbkecaa.TSpec
