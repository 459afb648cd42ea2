/- All instructions of a row of bytes: a plain law. -/
import Derived.Test.YthcokhnckbkecaaDecSpec
import Derived.Test.YthcokhnckbkecaaHDecodex10
import Derived.Test.YthcokhnckbkecaaHDecodex11
set_option linter.unusedVariables false
set_option linter.unusedSimpArgs false
namespace Go.Proofs.Ythcokhnckbkecaa.DecSpec
open Go Go.RowKit Go.Proofs.Ythcokhnckbkecaa.HDecode Go.Proofs.YthcokhnckbkecaaW.PrintWords Go.Proofs.YthcokhnckbkecaaW.PrintLast
/-- the instructions of a row -/
def Run : List Int → List S46 → Int → Prop
  | l, [], c => c = 0 ∧ decode_Of.f l = some (0, 0, 0, 0, 0, 0, 5) ∧ l.length ≤ 3
  | l, i :: is, c => ∃ len dd im t, decode_Of.f l = some (i.f0, i.f1, i.f2, i.f3, i.f4, len, 0) ∧ i.f5 = len ∧ Shape i.f0 i.f1 i.f2 dd im len t ∧ Bnd dd im t i.f3 i.f4 ∧ len ≤ l.length ∧ l.take len.toNat = enc i.f0 i.f1 i.f2 i.f3 i.f4 dd im ∧ Run (l.drop len.toNat) is (c - len)
theorem run_le : ∀ (is : List S46) (l : List Int) (c : Int), Run l is c → 0 ≤ c ∧ c ≤ l.length ∧ l.length - c ≤ 3 ∧ is.length ≤ c
  | [], l, c, h => by obtain ⟨rfl, _, h⟩ := h; simp; omega
  | i :: is, l, c, h => by
    obtain ⟨len, dd, im, t, _, _, hs, _, hl, _, hr⟩ := h
    have := run_le is _ _ hr
    have := len_le hs
    simp only [List.length_drop, List.length_cons] at *
    omega
theorem run_one : ∀ (is is' : List S46) (l : List Int) (c c' : Int), Run l is c → Run l is' c' → is = is' ∧ c = c'
  | [], [], l, c, c', h, h' => ⟨rfl, h.1.trans h'.1.symm⟩
  | [], i :: is, l, c, c', h, h' => by
    obtain ⟨_, h, _⟩ := h
    obtain ⟨_, _, _, _, h', _⟩ := h'
    rw [h] at h'
    simp at h'
  | i :: is, [], l, c, c', h, h' => by
    obtain ⟨_, h', _⟩ := h'
    obtain ⟨_, _, _, _, h, _⟩ := h
    rw [h] at h'
    simp at h'
  | i :: is, j :: js, l, c, c', h, h' => by
    obtain ⟨len, dd, im, t, h, e, _, _, _, _, hr⟩ := h
    obtain ⟨len', dd', im', t', h', e', _, _, _, _, hr'⟩ := h'
    rw [h] at h'
    simp only [Option.some.injEq, Prod.mk.injEq, and_true] at h'
    obtain ⟨a0, a1, a2, a3, a4, rfl⟩ := h'
    obtain ⟨b, d⟩ := run_one is js _ _ _ hr hr'
    refine ⟨?_, by omega⟩
    cases i; cases j
    simp_all
theorem all_l0 (x0 : List Int) (hx : Byts x0) (hlen : x0.length ≤ 500) : ∀ (k p : Nat) (acc : List S46), p ≤ x0.length → x0.length - p < k → acc.length ≤ p →
    ∃ is n, decode_All.l0 k x0 acc p = some (acc ++ is, n) ∧ Run (x0.drop p) is (n - p)
  | 0, p, acc, _, h, _ => by omega
  | k + 1, p, acc, hp, hk, ha => by
    unfold decode_All.l0
    rw [if_pos (by omega), if_pos (by omega), Int.toNat_natCast]
    have hb : Byts (x0.drop p) := fun y hy => hx y (List.mem_of_mem_drop hy)
    rcases told _ (bytes_of hb) with ⟨e, h3⟩ | ⟨s, i, o, d, m, len, dd, im, t, e, hs, hbn, hl, ht⟩
    · refine ⟨[], p, by rw [e]; simp, by omega, e, h3⟩
    · rw [e]
      have hle := len_le hs
      simp only [List.length_drop] at hl
      simp only [Option.bind_some, if_true]
      rw [if_pos (by omega), w64 (by omega) (by omega), show (p : Int) + len = ((p + len.toNat : Nat) : Int) by omega]
      obtain ⟨is, n, e', hr⟩ := all_l0 x0 hx hlen k (p + len.toNat) (acc ++ [⟨s, i, o, d, m, len⟩]) (by omega) (by omega) (by simp; omega)
      refine ⟨⟨s, i, o, d, m, len⟩ :: is, n, by rw [e']; simp, len, dd, im, t, e, rfl, hs, hbn, by simp; omega, ht, ?_⟩
      rw [List.drop_drop]
      have : n - ((p + len.toNat : Nat) : Int) = n - (p : Int) - len := by omega
      rw [← this]; exact hr
theorem all_f (x0 : List Int) (hx : Byts x0) (hlen : x0.length ≤ 500) (k : Nat) (hk : 500 < k) : ∃ is n, decode_All.f k x0 = some (is, n) ∧ Run x0 is n := by
  obtain ⟨is, n, e, h⟩ := all_l0 x0 hx hlen k 0 [] (by omega) (by omega) (by simp)
  refine ⟨is, n, by unfold decode_All.f; simpa using e, by simpa using h⟩
theorem insn_l0 (l : List S46) (hl : l.length ≤ 500) : ∀ (k p : Nat), p ≤ l.length → l.length - p < k → pendulumkit_Insn.l0 k l l p = some true
  | 0, p, _, h => by omega
  | k + 1, p, hp, hk => by
    unfold pendulumkit_Insn.l0
    by_cases h : (p : Int) < (l.length : Int)
    · rw [if_pos h, if_pos (by omega), if_pos h]
      simp only [beq_self_eq_true, Bool.not_true, Bool.or_self, Bool.false_eq_true, if_false]
      rw [w64 (by omega) (by omega)]
      exact insn_l0 l hl k (p + 1) (by omega) (by omega)
    · rw [if_neg h]
theorem insn_f (l : List S46) (hl : l.length ≤ 500) (k : Nat) (hk : 500 < k) : pendulumkit_Insn.f k l l = some true := by
  unfold pendulumkit_Insn.f
  rw [if_pos rfl]
  exact insn_l0 l hl k 0 (by omega) (by omega)
theorem rd46 (l : List S46) (p : Nat) (i : S46) (is : List S46) (h : l.drop p = i :: is) : rd_T46 l p = i := by
  unfold rd_T46
  rw [Int.toNat_natCast, List.getD_eq_getElem?_getD]
  have : (l.drop p)[0]? = some i := by rw [h]; rfl
  rw [List.getElem?_drop] at this
  rw [show p = p + 0 from rfl, this]; rfl
theorem rows_l0 (x0 : List Int) (hx : Byts x0) (hlen : x0.length ≤ 500) (L : List S46) (hL : L.length ≤ 500) (n pk : Int) (hn : n ≤ x0.length) : ∀ (k q p : Nat), q ≤ L.length → p ≤ x0.length → 2 * (L.length - q) + 520 < k → Run (x0.drop p) (L.drop q) (n - p) →
    pendulumlaw09_DecodeRows.l0 k x0 L n pk p q = some true
  | 0, _, _, _, _, h, _ => by omega
  | 1, _, _, _, _, h, _ => by omega
  | k + 2, q, p, hq, hp, hk, hr => by
    have hrl := run_le _ _ _ hr
    unfold pendulumlaw09_DecodeRows.l0
    by_cases h : (q : Int) < (L.length : Int)
    · rw [if_pos h]
      obtain ⟨i, is, hd⟩ : ∃ i is, L.drop q = i :: is := by
        cases hd : L.drop q with
        | nil => have := congrArg List.length hd; simp at this; omega
        | cons i is => exact ⟨i, is, rfl⟩
      have hi := rd46 L q i is hd
      have hd1 : L.drop (q + 1) = is := by
        rw [← List.drop_drop, hd]; rfl
      have hr' := hr
      rw [hd] at hr'
      obtain ⟨len, dd, im, t, e, e5, hs, hbn, hl, ht, hrest⟩ := hr'
      have hle := len_le hs
      have hrr := run_le _ _ _ hrest
      simp only [List.length_drop] at hl hrr
      have hby : ∀ j, 8 ≤ j → decode_Bytes.f j i.f0 i.f1 i.f2 i.f3 i.f4 i.f5 = some (enc i.f0 i.f1 i.f2 i.f3 i.f4 dd im, 0) := fun j hj => by
        obtain ⟨j, rfl⟩ := Nat.exists_eq_add_of_le' hj
        rw [e5]; exact bytes_shape hs hbn j
      have hel := len_enc hs i.f3 i.f4
      have hrest' : Run (x0.drop (p + len.toNat)) (L.drop (q + 1)) (n - ((p + len.toNat : Nat) : Int)) := by
        rw [← List.drop_drop, hd1, show n - ((p + len.toNat : Nat) : Int) = n - (p : Int) - len by omega]; exact hrest
      have hcut : (x0.take (p + len.toNat)).drop p = enc i.f0 i.f1 i.f2 i.f3 i.f4 dd im := by
        rw [← ht, List.drop_take]
        congr 1; omega
      have goOn : ∀ j, 8 ≤ j → j < k + 2 → 2 * (L.length - (q + 1)) + 520 < j → ((decode_Bytes.f j i.f0 i.f1 i.f2 i.f3 i.f4 i.f5).bind fun bt240 => (if bt240.2 = 0 then (if (bt240.1.length : Int) > 4 then (some false) else (if (wrap64 ((p : Int) + (bt240.1.length : Int))) > n then (some false) else (if 0 ≤ (p : Int) then (if (p : Int) ≤ (wrap64 ((p : Int) + (bt240.1.length : Int))) then (if (wrap64 ((p : Int) + (bt240.1.length : Int))) ≤ (x0.length : Int) then (if (strOfNums bt240.1).toList = (strOfNums ((x0.take ((wrap64 ((p : Int) + (bt240.1.length : Int))) : Int).toNat).drop ((p : Int) : Int).toNat)).toList then (pendulumlaw09_DecodeRows.l0 j x0 L n pk (wrap64 ((p : Int) + (bt240.1.length : Int))) (wrap64 ((q : Int) + 1))) else (some false)) else (none)) else (none)) else (none)))) else (some false))) = some true := by
        intro j hj hj3 hj2
        rw [hby j hj]
        simp only [Option.bind_some, if_true]
        rw [hel, if_neg (by omega), w64 (x := (p : Int) + len) (by omega) (by omega), if_neg (by omega), if_pos (by omega), if_pos (by omega), if_pos (by omega), show (p : Int) + len = ((p + len.toNat : Nat) : Int) by omega, Int.toNat_natCast, Int.toNat_natCast, hcut, if_pos rfl, w64 (by omega) (by omega)]
        exact rows_l0 x0 hx hlen L hL n pk hn j (q + 1) (p + len.toNat) (by omega) (by omega) hj2 hrest'
      by_cases hpk : (q : Int) = pk
      · rw [if_pos hpk, if_pos (by omega), if_pos (by omega), Int.toNat_natCast, own_eq _ (by simp; omega)]
        simp only [Option.bind_some]
        obtain ⟨is', n', e1, hr1⟩ := all_f (x0.drop p) (fun y hy => hx y (List.mem_of_mem_drop hy)) (by simp; omega) (k + 1) (by omega)
        obtain ⟨rfl, rfl⟩ := run_one _ _ _ _ _ hr1 hr
        rw [e1]
        simp only [Option.bind_some]
        rw [if_pos (by omega), if_pos (by omega), Int.toNat_natCast, insn_f _ (by simp; omega) (k + 1) (by omega)]
        simp only [Option.bind_some, if_true]
        rw [w64 (x := n - (p : Int)) (by omega) (by omega)]
        unfold pendulumlaw09_DecodeRows.j2
        simp only [bne_self_eq_false, Bool.false_eq_true, if_false]
        rw [if_pos (by omega), if_pos h, hi]
        exact goOn k (by omega) (by omega) (by omega)
      · rw [if_neg hpk, if_pos (by omega), hi]
        exact goOn (k + 1) (by omega) (by omega) (by omega)
    · rw [if_neg h]
      have hq' : L.drop q = [] := List.drop_eq_nil_of_le (by omega)
      rw [hq'] at hr
      have := hr.1
      have : (p : Int) = n := by omega
      rw [this]; simp
  termination_by k => k
theorem pick (a m : Int) (hm : 1 ≤ m) (hm2 : m ≤ 1000) : ∃ r, pendulumkit_Pick.f a m = some r := by
  unfold pendulumkit_Pick.f
  rw [if_neg (by omega), if_neg (by omega)]
  split <;> exact ⟨_, rfl⟩
theorem rows (K : Nat) (hK : 1999 ≤ K) (l0 : List Int) (a1 : Int) (hb : Byts l0) (hlen : l0.length < 140737488355328) : pendulumlaw09_DecodeRows.f (K + 1) l0 a1 = some true := by
  unfold pendulumlaw09_DecodeRows.f
  rw [lives_true (K + 1) (by omega)]
  simp only [Option.bind_some, if_true]
  by_cases h5 : (l0.length : Int) > 500
  · rw [if_pos h5]
  rw [if_neg h5, own_eq l0 hlen]
  simp only [Option.bind_some]
  obtain ⟨is, n, e, hr⟩ := all_f l0 hb (by omega) (K + 1) (by omega)
  rw [e]
  have hle := run_le _ _ _ hr
  simp only [Option.bind_some]
  rw [if_neg (by omega), w64 (x := (l0.length : Int) - n) (by omega) (by omega), show decide ((l0.length : Int) - n > 3) = false from decide_eq_false (by omega)]
  rw [pendulumlaw09_DecodeRows.j0]
  rw [if_neg (by decide), w64 (x := (is.length : Int) + 1) (by omega) (by omega)]
  obtain ⟨pk, hp⟩ := pick a1 ((is.length : Int) + 1) (by omega) (by omega)
  rw [hp]
  simp only [Option.bind_some]
  exact rows_l0 l0 hb (by omega) is (by omega) n pk (by omega) K 0 0 (by omega) (by omega) (by omega) (by simpa using hr)
end Go.Proofs.Ythcokhnckbkecaa.DecSpec
