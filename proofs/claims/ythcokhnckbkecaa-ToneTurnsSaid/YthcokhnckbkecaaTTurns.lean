/- How often a row turns, turned round, told the other way, told twice: a plain law. -/
import Derived.Test.YthcokhnckbkecaaHTonex6
set_option linter.unusedVariables false
set_option linter.unusedSimpArgs false
namespace Go.Proofs.Ythcokhnckbkecaa.TTurn
open Go Go.RowKit Go.Proofs.Ythcokhnckbkecaa.HTone Go.Proofs.YthcokhnckbkecaaW.PrintWords Go.Proofs.YthcokhnckbkecaaW.PrintLast
theorem w64 {x : Int} (h0 : -9223372036854775808 ≤ x) (h1 : x < 9223372036854775808) : wrap64 x = x := by
  unfold wrap64; omega
theorem up {α : Type} {g : Nat → Option α} (h : ∀ k, LeO (g k) (g (k + 1))) {a : Nat} {r : α} (e : g a = some r) (b : Nat) (hb : a ≤ b) : g b = some r := by
  obtain ⟨j, rfl⟩ := Nat.exists_eq_add_of_le hb
  exact more_rounds h a j r e
theorem rdI (l : List Int) (i : Nat) (hi : i < l.length) : rd l (i : Int) = l[i] := by
  unfold rd
  rw [Int.toNat_natCast, List.getD_eq_getElem?_getD, List.getElem?_eq_getElem hi]; rfl
/-- the least and the greatest -/
def loudV : List Int → Int × Int
  | [] => (0, 0)
  | x :: r => (minI x r, maxI x r)
theorem loud1 (l : List Int) (hm : l.length < 4611686018427387904) : tone_Loud.f l = some (loudV l) := by
  unfold tone_Loud.f slices_Min_int_int.f slices_Max_int_int.f
  cases l with
  | nil => rfl
  | cons x r =>
    rw [if_neg (by simp only [List.length_cons]; omega), if_pos hm, if_pos hm]; rfl
/-- how often a row turns: n so far, the way w, the last one p -/
def turnsV : Int → Int → Int → List Int → Int
  | n, _, _, [] => n
  | n, w, p, x :: r => if x > p then turnsV (if w = -1 then n + 1 else n) 1 x r else if x < p then turnsV (if w = 1 then n + 1 else n) (-1) x r else turnsV n w x r
theorem turn1 (l : List Int) (hm : l.length ≤ 1000) : ∀ (k i : Nat) (n w : Int), 1 ≤ i → i ≤ l.length → l.length - i < k → (w = 0 ∨ w = 1 ∨ w = -1) → 0 ≤ n → n ≤ i → tone_Turns.l0 k l n w i = some (turnsV n w (rd l ((i - 1 : Nat) : Int)) (l.drop i))
  | 0, i, _, _, _, _, h, _, _, _ => by omega
  | k + 1, i, n, w, h1, hi, hk, hw, hn, hn2 => by
    rw [tone_Turns.l0]
    by_cases h : i < l.length
    · rw [if_pos (by omega), if_pos (by omega), w64 (x := (i : Int) - 1) (by omega) (by omega), if_pos (by omega), if_pos (by omega), show (i : Int) - 1 = ((i - 1 : Nat) : Int) by omega, w64 (x := (i : Int) + 1) (by omega) (by omega), w64 (x := -w) (by omega) (by omega), w64 (x := n + 1) (by omega) (by omega)]
      rw [List.drop_eq_getElem_cons h, turnsV, rdI l i h]
      have ih := fun n w a b c => turn1 l hm k (i + 1) n w (by omega) (by omega) (by omega) a b c
      rw [show (((i + 1 - 1 : Nat)) : Int) = (i : Int) by omega, rdI l i h] at ih
      rw [show ((i : Int) + 1) = ((i + 1 : Nat) : Int) from rfl]
      by_cases g1 : l[i] > rd l ((i - 1 : Nat) : Int)
      · rw [if_pos g1, if_pos g1]
        by_cases g2 : w = -1
        · subst g2
          rw [if_pos (by decide), if_pos rfl]
          exact ih _ _ (by omega) (by omega) (by omega)
        · rw [if_neg (by omega), if_neg g2]
          exact ih _ _ (by omega) (by omega) (by omega)
      · rw [if_neg g1, if_neg g1]
        by_cases g3 : l[i] < rd l ((i - 1 : Nat) : Int)
        · rw [if_pos g3, if_pos g3]
          by_cases g2 : w = 1
          · subst g2
            rw [if_pos rfl, if_pos rfl]
            exact ih _ _ (by omega) (by omega) (by omega)
          · rw [if_neg (by omega), if_neg g2]
            exact ih _ _ (by omega) (by omega) (by omega)
        · rw [if_neg g3, if_neg g3]
          exact ih _ _ hw (by omega) (by omega)
    · rw [if_neg (by omega), List.drop_eq_nil_of_le (by omega)]; rfl
def turns (l : List Int) : Int := turnsV 0 0 (rd l 0) (l.drop 1)
theorem turns1 (l : List Int) (hm : l.length ≤ 1000) (k : Nat) (hk : l.length + 1 ≤ k) : tone_Turns.f k l = some (turns l) := by
  unfold tone_Turns.f
  rcases Nat.eq_zero_or_pos l.length with h | h
  · obtain ⟨k, rfl⟩ := Nat.exists_eq_add_of_le' (show 1 ≤ k by omega)
    rw [tone_Turns.l0, if_neg (by omega)]
    rw [List.length_eq_zero_iff.1 h]; rfl
  · exact turn1 l hm k 1 0 0 (by omega) (by omega) (by omega) (.inl rfl) (by omega) (by omega)
theorem lives_true (k : Nat) (hk : 16 ≤ k) : pendulumlaw31_lives.f k = some true := by
  have h : pendulumlaw31_lives.f 16 = some true := by decide +kernel
  exact up pendulumlaw31_lives.mono h k hk
def step (x y : Int) : List Bool := if y > x then [true] else if y < x then [false] else []
/-- the ways a row goes -/
def sg (p : Int) : List Int → List Bool
  | [] => []
  | x :: r => step p x ++ sg x r
def S : List Int → List Bool
  | [] => []
  | x :: r => sg x r
def altF : Option Bool → List Bool → Int
  | _, [] => 0
  | o, b :: r => (if o = some (!b) then 1 else 0) + altF (some b) r
def ow (w : Int) : Option Bool := if w = 1 then some true else if w = -1 then some false else none
theorem turnsV_alt : ∀ (l : List Int) (n w p : Int), (w = 0 ∨ w = 1 ∨ w = -1) → turnsV n w p l = n + altF (ow w) (sg p l)
  | [], n, w, p, _ => by simp [turnsV, sg, altF]
  | x :: r, n, w, p, hw => by
    have i1 := fun n => turnsV_alt r n 1 x (by omega)
    have i2 := fun n => turnsV_alt r n (-1) x (by omega)
    have i3 := fun n => turnsV_alt r n w x hw
    simp only [turnsV, sg, step]
    by_cases g1 : x > p
    · rw [if_pos g1, if_pos g1, i1]
      simp only [List.cons_append, List.nil_append, altF]
      rcases hw with rfl | rfl | rfl <;> simp [ow] <;> omega
    · rw [if_neg g1, if_neg g1]
      by_cases g2 : x < p
      · rw [if_pos g2, if_pos g2, i2]
        simp only [List.cons_append, List.nil_append, altF]
        rcases hw with rfl | rfl | rfl <;> simp [ow] <;> omega
      · rw [if_neg g2, if_neg g2, i3]
        have : x = p := by omega
        subst this; rfl
theorem turns_alt (l : List Int) : turns l = altF none (S l) := by
  unfold turns
  cases l with
  | nil => rfl
  | cons x r =>
    rw [turnsV_alt _ _ _ _ (.inl rfl)]
    simp [S, ow, rd]
theorem alt_not : ∀ (L : List Bool) (o : Option Bool), altF (o.map (!·)) (L.map (!·)) = altF o L
  | [], o => rfl
  | b :: r, o => by
    have := alt_not r (some b)
    simp only [List.map_cons, altF]
    rw [show (some (!b) : Option Bool) = (some b).map (!·) from rfl, this]
    cases o with
    | none => simp
    | some c => cases b <;> cases c <;> simp
theorem alt_nonneg : ∀ (L : List Bool) (o : Option Bool), 0 ≤ altF o L ∧ altF o L ≤ L.length
  | [], _ => by simp [altF]
  | b :: r, o => by
    have := alt_nonneg r (some b)
    simp only [altF, List.length_cons]
    split <;> omega
def lastO : Option Bool → List Bool → Option Bool
  | o, [] => o
  | _, b :: r => lastO (some b) r
theorem alt_snoc (b : Bool) : ∀ (L : List Bool) (o : Option Bool), altF o (L ++ [b]) = altF o L + (if lastO o L = some (!b) then 1 else 0)
  | [], o => Int.add_comm _ _
  | c :: r, o => by
    have := alt_snoc b r (some c)
    simp only [List.cons_append, altF, lastO]
    rw [this, Int.add_assoc]; rfl
theorem lastO_snoc (b : Bool) : ∀ (L : List Bool) (o : Option Bool), lastO o (L ++ [b]) = some b
  | [], o => rfl
  | c :: r, o => lastO_snoc b r (some c)
theorem alt_rev : ∀ (L : List Bool), altF none L.reverse = altF none L
  | [] => rfl
  | a :: L => by
    rw [List.reverse_cons, alt_snoc, alt_rev L]
    cases L with
    | nil => simp [altF, lastO]
    | cons b r =>
      rw [List.reverse_cons, lastO_snoc]
      simp only [altF]
      cases a <;> cases b <;> simp <;> omega
theorem step_not (x y : Int) : step y x = (step x y).map (!·) := by
  unfold step
  by_cases g1 : y > x
  · rw [if_neg (by omega : ¬ x > y), if_pos (by omega : x < y), if_pos g1]; rfl
  · by_cases g2 : y < x
    · rw [if_pos (by omega : x > y), if_neg g1, if_pos g2]; rfl
    · rw [if_neg (by omega : ¬ x > y), if_neg (by omega : ¬ x < y), if_neg g1, if_neg g2]; rfl
theorem step_rev (x y : Int) : (step x y).reverse = step x y := by
  unfold step; split
  · rfl
  · split <;> rfl
theorem step_neg (x y : Int) : step (-x) (-y) = (step x y).map (!·) := by
  rw [← step_not]
  unfold step
  by_cases g1 : -y > -x
  · have : x > y := by omega
    rw [if_pos g1, if_pos this]
  · have : ¬ x > y := by omega
    rw [if_neg g1, if_neg this]
    by_cases g2 : -y < -x
    · have : x < y := by omega
      rw [if_pos g2, if_pos this]
    · have : ¬ x < y := by omega
      rw [if_neg g2, if_neg this]
theorem sg_neg : ∀ (l : List Int) (p : Int), sg (-p) (l.map (fun x => -x)) = (sg p l).map (!·)
  | [], _ => rfl
  | x :: r, p => by
    simp only [List.map_cons, sg, List.map_append]
    rw [step_neg, sg_neg r x]
theorem S_neg (l : List Int) : S (l.map (fun x => -x)) = (S l).map (!·) := by
  cases l with
  | nil => rfl
  | cons x r => exact sg_neg r x
def twice (l : List Int) : List Int := l.flatMap fun x => [x, x]
theorem step_self (x : Int) : step x x = [] := by unfold step; rw [if_neg (by omega), if_neg (by omega)]
theorem sg_twice : ∀ (l : List Int) (p : Int), sg p (twice l) = sg p l
  | [], _ => rfl
  | x :: r, p => by
    have := sg_twice r x
    show sg p (x :: x :: twice r) = _
    simp only [sg, step_self, List.nil_append]
    rw [this]
theorem S_twice (l : List Int) : S (twice l) = S l := by
  cases l with
  | nil => rfl
  | cons x r =>
    show sg x (x :: twice r) = _
    simp only [sg, step_self, List.nil_append]
    exact sg_twice r x
theorem sg_snoc (y : Int) : ∀ (l : List Int) (p : Int), sg p (l ++ [y]) = sg p l ++ step (l.getLastD p) y
  | [], p => by simp [sg]
  | x :: r, p => by
    simp only [List.cons_append, sg]
    rw [sg_snoc y r x, List.append_assoc]
    congr 2
    cases r <;> rfl
theorem S_rev : ∀ (l : List Int), S l.reverse = (S l).reverse.map (!·)
  | [] => rfl
  | [x] => rfl
  | x :: y :: r => by
    have ih := S_rev (y :: r)
    rw [List.reverse_cons]
    have hne : ∃ z q, (y :: r).reverse = z :: q := by
      cases h : (y :: r).reverse with
      | nil => simp at h
      | cons z q => exact ⟨z, q, rfl⟩
    obtain ⟨z, q, hz⟩ := hne
    rw [hz] at ih ⊢
    have hl : q.getLastD z = y := by
      have h2 : (z :: q).getLast (by simp) = y := by
        have : (y :: r).reverse.getLast (by simp) = y := by simp
        simpa [hz] using this
      rw [← h2]
      cases q with
      | nil => rfl
      | cons a b => simp [List.getLastD]
    show sg z (q ++ [x]) = _
    rw [sg_snoc, hl]
    rw [show sg z q = S (z :: q) from rfl, ih]
    show _ = (step x y ++ sg y r).reverse.map (!·)
    rw [List.reverse_append, List.map_append, step_rev, ← step_not]
    rfl
theorem turns_rev (l : List Int) : turns l.reverse = turns l := by
  rw [turns_alt, turns_alt, S_rev]
  have := alt_not (S l).reverse none
  rw [Option.map_none] at this
  rw [this, alt_rev]
theorem turns_neg (l : List Int) : turns (l.map (fun x => -x)) = turns l := by
  rw [turns_alt, turns_alt, S_neg]
  exact alt_not (S l) none
theorem turns_twice (l : List Int) : turns (twice l) = turns l := by rw [turns_alt, turns_alt, S_twice]
theorem sg_len : ∀ (l : List Int) (p : Int), (sg p l).length ≤ l.length
  | [], _ => by simp [sg]
  | x :: r, p => by
    have := sg_len r x
    simp only [sg, List.length_append, List.length_cons]
    have h : (step p x).length ≤ 1 := by unfold step; split <;> (try split) <;> simp
    omega
theorem turns_le (l : List Int) : 0 ≤ turns l ∧ (turns l = 0 ∨ turns l ≤ (l.length : Int) - 2) := by
  rw [turns_alt]
  refine ⟨(alt_nonneg _ _).1, ?_⟩
  cases l with
  | nil => exact .inl rfl
  | cons x r =>
    have h1 := sg_len r x
    show altF none (sg x r) = 0 ∨ altF none (sg x r) ≤ ((x :: r).length : Int) - 2
    cases hs : sg x r with
    | nil => exact .inl rfl
    | cons b L =>
      right
      have h2 := (alt_nonneg L (some b)).2
      rw [hs] at h1
      simp only [altF, List.length_cons] at h1 ⊢
      simp
      omega
theorem minI_le : ∀ (r : List Int) (m : Int), minI m r ≤ m ∧ (∀ x ∈ r, minI m r ≤ x) ∧ (minI m r = m ∨ minI m r ∈ r)
  | [], m => by simp [minI]
  | x :: r, m => by
    unfold minI
    split
    · obtain ⟨a, b, c⟩ := minI_le r x
      refine ⟨by omega, fun y hy => ?_, ?_⟩
      · rcases List.mem_cons.1 hy with rfl | hy
        · exact a
        · exact b y hy
      · rcases c with c | c
        · exact .inr (by rw [c]; exact List.mem_cons_self ..)
        · exact .inr (List.mem_cons_of_mem _ c)
    · obtain ⟨a, b, c⟩ := minI_le r m
      refine ⟨a, fun y hy => ?_, ?_⟩
      · rcases List.mem_cons.1 hy with rfl | hy
        · omega
        · exact b y hy
      · rcases c with c | c
        · exact .inl c
        · exact .inr (List.mem_cons_of_mem _ c)
theorem maxI_ge : ∀ (r : List Int) (m : Int), m ≤ maxI m r ∧ (∀ x ∈ r, x ≤ maxI m r) ∧ (maxI m r = m ∨ maxI m r ∈ r)
  | [], m => by simp [maxI]
  | x :: r, m => by
    unfold maxI
    split
    · obtain ⟨a, b, c⟩ := maxI_ge r x
      refine ⟨by omega, fun y hy => ?_, ?_⟩
      · rcases List.mem_cons.1 hy with rfl | hy
        · exact a
        · exact b y hy
      · rcases c with c | c
        · exact .inr (by rw [c]; exact List.mem_cons_self ..)
        · exact .inr (List.mem_cons_of_mem _ c)
    · obtain ⟨a, b, c⟩ := maxI_ge r m
      refine ⟨a, fun y hy => ?_, ?_⟩
      · rcases List.mem_cons.1 hy with rfl | hy
        · omega
        · exact b y hy
      · rcases c with c | c
        · exact .inl c
        · exact .inr (List.mem_cons_of_mem _ c)
theorem loud_all (l : List Int) : ∀ x ∈ l, (loudV l).1 ≤ x ∧ x ≤ (loudV l).2 := by
  cases l with
  | nil => intro x h; cases h
  | cons y r =>
    obtain ⟨a, b, _⟩ := minI_le r y
    obtain ⟨c, d, _⟩ := maxI_ge r y
    intro x hx
    rcases List.mem_cons.1 hx with rfl | hx
    · exact ⟨a, c⟩
    · exact ⟨b x hx, d x hx⟩
theorem loud_mem (l : List Int) (h : 0 < l.length) : (loudV l).1 ∈ l ∧ (loudV l).2 ∈ l := by
  cases l with
  | nil => simp at h
  | cons y r =>
    obtain ⟨_, _, a⟩ := minI_le r y
    obtain ⟨_, _, b⟩ := maxI_ge r y
    exact ⟨List.mem_cons.2 a, List.mem_cons.2 b⟩
theorem twice_len (l : List Int) : (twice l).length = 2 * l.length := by
  induction l with
  | nil => rfl
  | cons x r ih =>
    show (x :: x :: twice r).length = _
    simp only [List.length_cons]; omega
theorem l1step (l : List Int) (hl : l.length ≤ 300) (A B C : List Int) (t a b : Int) (hab : ∀ x ∈ l, a ≤ x ∧ x ≤ b) (p q : Bool) (k i : Nat) (h : i < l.length) :
    pendulumlaw31_ToneTurns.l1 (k + 1) l (l.length : Int) A B C t a b p q i = pendulumlaw31_ToneTurns.l1 k l (l.length : Int) A B C t a b (p || (l[i] == a)) (q || (l[i] == b)) ((i + 1 : Nat) : Int) := by
  have hm := hab _ (List.getElem_mem h)
  have hw : wrap64 ((i : Int) + 1) = ((i + 1 : Nat) : Int) := by rw [w64 (by omega) (by omega)]; rfl
  rw [pendulumlaw31_ToneTurns.l1, if_pos (by omega), rdI l i h, hw]
  cases p <;> cases q
  · rw [if_neg (by decide), if_pos (by omega), if_pos (by omega), if_neg (by decide), if_neg (by omega), if_neg (by omega)]; rfl
  · rw [if_neg (by decide), if_pos (by omega), if_pos (by omega), if_pos rfl, if_neg (by omega), if_neg (by omega)]; rfl
  · rw [if_pos rfl, if_neg (by decide), if_pos (by omega), if_pos (by omega), if_neg (by omega), if_neg (by omega)]; rfl
  · rw [if_pos rfl, if_pos rfl, if_pos (by omega), if_pos (by omega), if_neg (by omega), if_neg (by omega)]; rfl
theorem l1all (l : List Int) (hl : l.length ≤ 300) (A B C : List Int) (t a b : Int) (hab : ∀ x ∈ l, a ≤ x ∧ x ≤ b) : ∀ (m k i : Nat) (p q : Bool), i + m = l.length →
    pendulumlaw31_ToneTurns.l1 (k + m) l (l.length : Int) A B C t a b p q i = pendulumlaw31_ToneTurns.l1 k l (l.length : Int) A B C t a b (p || (l.drop i).any (· == a)) (q || (l.drop i).any (· == b)) (l.length : Int)
  | 0, k, i, p, q, hi => by
    rw [List.drop_eq_nil_of_le (by omega), show i = l.length by omega]; simp
  | m + 1, k, i, p, q, hi => by
    have h : i < l.length := by omega
    rw [← Nat.add_assoc, l1step l hl A B C t a b hab p q (k + m) i h, l1all l hl A B C t a b hab m k (i + 1) _ _ (by omega), List.drop_eq_getElem_cons h]
    simp only [List.any_cons, Bool.or_assoc]
theorem l0all (l : List Int) (hl : l.length ≤ 300) : ∀ (m k i : Nat), i + m = l.length →
    pendulumlaw31_ToneTurns.l0 (k + m) l (l.length : Int) (List.replicate m 0 ++ (l.take i).reverse) ((l.take i).map (fun x => -x) ++ List.replicate m 0) (twice (l.take i)) i = some true ∨
    pendulumlaw31_ToneTurns.l0 (k + m) l (l.length : Int) (List.replicate m 0 ++ (l.take i).reverse) ((l.take i).map (fun x => -x) ++ List.replicate m 0) (twice (l.take i)) i = pendulumlaw31_ToneTurns.l0 k l (l.length : Int) l.reverse (l.map (fun x => -x)) (twice l) (l.length : Int)
  | 0, k, i, hi => by
    right
    have : i = l.length := by omega
    subst this
    rw [List.take_length]; simp
  | m + 1, k, i, hi => by
    have h : i < l.length := by omega
    have hw : wrap64 ((i : Int) + 1) = ((i + 1 : Nat) : Int) := by rw [w64 (by omega) (by omega)]; rfl
    have ht : l.take (i + 1) = l.take i ++ [l[i]] := by rw [List.take_add_one, List.getElem?_eq_getElem h]; rfl
    have hlen4 : (List.replicate (m + 1) (0 : Int) ++ (l.take i).reverse).length = l.length := by simp; omega
    have hlen5 : ((l.take i).map (fun x => -x) ++ List.replicate (m + 1) (0 : Int)).length = l.length := by simp; omega
    rw [← Nat.add_assoc, pendulumlaw31_ToneTurns.l0, if_pos (by omega), if_pos (by omega), if_pos (by omega), rdI l i h]
    by_cases g1 : l[i] > 1099511627776
    · left; rw [if_pos g1]
    rw [if_neg g1]
    by_cases g2 : l[i] < -1099511627776
    · left; rw [if_pos g2]
    rw [if_neg g2, w64 (x := (l.length : Int) - 1) (by omega) (by omega), w64 (x := (l.length : Int) - 1 - (i : Int)) (by omega) (by omega), if_pos (by omega), hlen4, if_pos (by omega), hlen5, if_pos (by omega)]
    simp only [Option.bind_some]
    rw [if_pos (by rw [twice_len]; simp; omega), w64 (x := -l[i]) (by omega) (by omega), hw, Int.toNat_natCast, show ((l.length : Int) - 1 - (i : Int)).toNat = m by omega]
    have e4 : (List.replicate (m + 1) (0 : Int) ++ (l.take i).reverse).set m l[i] = List.replicate m 0 ++ (l.take (i + 1)).reverse := by
      rw [ht, List.reverse_append, List.replicate_succ', List.append_assoc, List.set_append_right _ _ (by simp)]
      simp
    have e5 : ((l.take i).map (fun x => -x) ++ List.replicate (m + 1) (0 : Int)).set i (-l[i]) = (l.take (i + 1)).map (fun x => -x) ++ List.replicate m 0 := by
      rw [ht, List.map_append, List.replicate_succ, List.append_assoc, List.set_append_right _ _ (by simp; omega)]
      simp [Nat.min_eq_left (show i ≤ l.length by omega)]
    have e6 : twice (l.take i) ++ [l[i], l[i]] = twice (l.take (i + 1)) := by rw [ht]; unfold twice; rw [List.flatMap_append]; rfl
    rw [e4, e5, e6]
    exact l0all l hl m k (i + 1) (by omega)
theorem turnsLaw (l : List Int) (K : Nat) (hK : 3000 ≤ K) : pendulumlaw31_ToneTurns.f K l = some true := by
  unfold pendulumlaw31_ToneTurns.f
  rw [lives_true K (by omega)]
  simp only [Option.bind_some, if_true]
  by_cases g0 : (l.length : Int) > 300
  · rw [if_pos g0]
  rw [if_neg g0, if_pos (by omega), if_pos (by omega), w64 (x := 2 * (l.length : Int)) (by omega) (by omega), if_pos (by omega), if_pos (by omega), Int.toNat_natCast]
  obtain ⟨K1, rfl⟩ := Nat.exists_eq_add_of_le' (show l.length ≤ K by omega)
  have h0 := l0all l (by omega) l.length K1 0 (by omega)
  simp only [List.take_zero, List.reverse_nil, List.append_nil, List.map_nil, List.nil_append] at h0
  rw [show twice [] = List.replicate 0 (0 : Int) from rfl, show ((0 : Nat) : Int) = 0 from rfl] at h0
  rcases h0 with h0 | h0
  · exact h0
  rw [h0]
  obtain ⟨K2, rfl⟩ := Nat.exists_eq_add_of_le' (show 1 ≤ K1 by omega)
  rw [pendulumlaw31_ToneTurns.l0, if_neg (by omega), turns1 l (by omega) K2 (by omega), loud1 l (by omega)]
  simp only [Option.bind_some]
  obtain ⟨K3, rfl⟩ := Nat.exists_eq_add_of_le' (show l.length + 1 ≤ K2 by omega)
  have h1 := l1all l (by omega) l.reverse (l.map (fun x => -x)) (twice l) (turns l) (loudV l).1 (loudV l).2 (loud_all l) l.length (K3 + 1) 0 ((l.length : Int) == 0) ((l.length : Int) == 0) (by omega)
  rw [show ((0 : Nat) : Int) = 0 from rfl, List.drop_zero] at h1
  rw [show K3 + (l.length + 1) = K3 + 1 + l.length by omega, h1]
  have hp : ((l.length : Int) == 0 || l.any (· == (loudV l).1)) = true ∧ ((l.length : Int) == 0 || l.any (· == (loudV l).2)) = true := by
    rcases Nat.eq_zero_or_pos l.length with h | h
    · rw [h]; exact ⟨rfl, rfl⟩
    · obtain ⟨m1, m2⟩ := loud_mem l h
      constructor
      · rw [Bool.or_eq_true]; right; rw [List.any_eq_true]; exact ⟨_, m1, beq_self_eq_true _⟩
      · rw [Bool.or_eq_true]; right; rw [List.any_eq_true]; exact ⟨_, m2, beq_self_eq_true _⟩
  rw [hp.1, hp.2, pendulumlaw31_ToneTurns.l1, if_neg (by omega), turns1 l.reverse (by simp; omega) K3 (by simp; omega), turns_rev]
  simp only [Option.bind_some]
  rw [if_pos trivial, turns1 _ (by simp; omega) K3 (by simp; omega), turns_neg]
  simp only [Option.bind_some]
  rw [if_pos trivial, turns1 _ (by rw [twice_len]; omega) K3 (by rw [twice_len]; omega), turns_twice]
  simp only [Option.bind_some]
  obtain ⟨t0, t1⟩ := turns_le l
  rw [if_pos trivial]
  by_cases hz : turns l = 0
  · rw [if_pos hz, if_pos trivial]
  · rw [if_neg hz, w64 (x := (l.length : Int) - 2) (by omega) (by omega), if_pos (by omega), if_pos trivial]
end Go.Proofs.Ythcokhnckbkecaa.TTurn
