/- Plain laws of the decoder's own functions, as the printed walk tells them: what Of, Bytes, Check say of bytes and instructions. -/
import Derived.Test.YthcokhnckbkecaaHDecodex5
import Derived.Test.YthcokhnckbkecaaHDecodex6
import Derived.Test.YthcokhnckbkecaaHDecodex7
import Derived.Test.YthcokhnckbkecaaHDecodex8
set_option linter.unusedVariables false
set_option linter.unusedSimpArgs false
namespace Go.Proofs.Ythcokhnckbkecaa.DecSpec
open Go Go.RowKit Go.Proofs.Ythcokhnckbkecaa.HDecode Go.Proofs.YthcokhnckbkecaaW.PrintWords Go.Proofs.YthcokhnckbkecaaW.PrintLast
def good (s i o : Int) : Bool :=
  match decode_there.f 4 s i o, decode_Needs.f 4 s i o, decode_size.f 4 s i o, decode_relative.f o with
  | some true, some (dd, im), some len, some _ => decide (im = 0 ∨ im = 1 ∨ im = 2) && (decide (im = 1 → s = 0) && (decide (s = 3 → dd = true ∧ im = 0) && (decide (dd = true → im ≠ 2) && (decide (s = 1 ∨ s = 2 ∨ i = 0 → dd = false) && (decide (s = 0 → o = 221 ∨ o = 253 → dd = false ∧ im = 0) && decide (len = 1 + (if s = 0 then 0 else 1) + (if i = 0 then 0 else 1) + (if dd = true then 1 else 0) + im))))))
  | _, _, _, _ => false
theorem g00 : ∀ o : Fin 256, o.val ≠ 203 → o.val ≠ 237 → good 0 0 (o.val : Int) = true := by decide +kernel
theorem g01 : ∀ o : Fin 256, o.val ≠ 203 → o.val ≠ 237 → o.val ≠ 221 → o.val ≠ 253 → good 0 1 (o.val : Int) = true ∧ good 0 2 (o.val : Int) = true := by decide +kernel
theorem g10 : ∀ o : Fin 256, good 1 0 (o.val : Int) = true ∧ good 2 0 (o.val : Int) = true := by decide +kernel
theorem g30 : ∀ o : Fin 256, good 3 1 (o.val : Int) = true ∧ good 3 2 (o.val : Int) = true := by decide +kernel
/-- what sets, indices and operations there are -/
def Dom (s i o : Int) : Prop := 0 ≤ o ∧ o < 256 ∧ ((s = 0 ∧ (i = 0 ∨ i = 1 ∨ i = 2) ∧ o ≠ 203 ∧ o ≠ 237 ∧ (i ≠ 0 → o ≠ 221 ∧ o ≠ 253)) ∨ ((s = 1 ∨ s = 2) ∧ i = 0) ∨ (s = 3 ∧ (i = 1 ∨ i = 2)))
theorem dom_good {s i o : Int} (h : Dom s i o) : good s i o = true := by
  obtain ⟨h0, h1, h⟩ := h
  obtain ⟨n, rfl⟩ := Int.eq_ofNat_of_zero_le h0
  have hn : n < 256 := by omega
  rcases h with ⟨rfl, hi, a, b, c⟩ | ⟨hs, rfl⟩ | ⟨rfl, hi⟩
  · rcases hi with rfl | rfl | rfl
    · exact g00 ⟨n, hn⟩ (by simp; omega) (by simp; omega)
    · exact (g01 ⟨n, hn⟩ (by simp; omega) (by simp; omega) (by have := (c (by decide)).1; simp; omega) (by have := (c (by decide)).2; simp; omega)).1
    · exact (g01 ⟨n, hn⟩ (by simp; omega) (by simp; omega) (by have := (c (by decide)).1; simp; omega) (by have := (c (by decide)).2; simp; omega)).2
  · rcases hs with rfl | rfl
    · exact (g10 ⟨n, hn⟩).1
    · exact (g10 ⟨n, hn⟩).2
  · rcases hi with rfl | rfl
    · exact (g30 ⟨n, hn⟩).1
    · exact (g30 ⟨n, hn⟩).2
structure Shape (s i o : Int) (dd : Bool) (im len : Int) (t : Bool) : Prop where
  dom : Dom s i o
  there : decode_there.f 4 s i o = some true
  needs : decode_Needs.f 4 s i o = some (dd, im)
  size : decode_size.f 4 s i o = some len
  rel : decode_relative.f o = some t
  him : im = 0 ∨ im = 1 ∨ im = 2
  him1 : im = 1 → s = 0
  h3 : s = 3 → dd = true ∧ im = 0
  hdi : dd = true → im ≠ 2
  h12 : s = 1 ∨ s = 2 ∨ i = 0 → dd = false
  hlone : s = 0 → o = 221 ∨ o = 253 → dd = false ∧ im = 0
  hlen : len = 1 + (if s = 0 then 0 else 1) + (if i = 0 then 0 else 1) + (if dd = true then 1 else 0) + im
theorem shape {s i o : Int} (h : Dom s i o) : ∃ dd im len t, Shape s i o dd im len t := by
  have g := dom_good h
  unfold good at g
  split at g
  · rename_i dd im len t e1 e2 e3 e4
    simp only [Bool.and_eq_true, decide_eq_true_eq] at g
    obtain ⟨a, b, c, c', d, e, f⟩ := g
    exact ⟨dd, im, len, t, h, e1, e2, e3, e4, a, b, c, c', d, e, f⟩
  · cases g
theorem lone_eq (o : Int) : decode_lone.f o = some (decide (o = 221 ∨ o = 253)) := by
  unfold decode_lone.f
  by_cases h : o = 221
  · subst h; rfl
  · rw [if_neg h]; by_cases h2 : o = 253 <;> simp [h, h2]
theorem there_total (s i o : Int) : ∃ b, decode_there.f 4 s i o = some b ∧ (b = true → Dom s i o) := by
  unfold decode_there.f decode_there.j0 decode_there.j1
  simp only [lone_eq, Option.bind_some]
  by_cases h0 : o < 0
  · exact ⟨false, by simp [h0], fun h => by cases h⟩
  by_cases h1 : o > 255
  · exact ⟨false, by simp [h0, h1], fun h => by cases h⟩
  rw [if_neg h0]
  simp only [h1, decide_false]
  unfold Dom
  by_cases hs : s = 0
  · subst hs
    by_cases a : i ≥ 0
    · by_cases b : i ≤ 2
      · by_cases c : o = 203
        · exact ⟨false, by simp [a, b, c], fun h => by cases h⟩
        · by_cases d : o = 237
          · exact ⟨false, by simp [a, b, d], fun h => by cases h⟩
          · by_cases e : o = 221 ∨ o = 253
            · refine ⟨i == 0, by simp [a, b, c, d, e], fun h => ?_⟩
              have : i = 0 := by simpa using h
              omega
            · refine ⟨true, by simp [a, b, c, d, e], fun h => ?_⟩
              omega
      · exact ⟨false, by simp [a, b], fun h => by cases h⟩
    · exact ⟨false, by simp [a], fun h => by cases h⟩
  by_cases hs1 : s = 1
  · subst hs1
    refine ⟨i == 0, by simp, fun h => ?_⟩
    have : i = 0 := by simpa using h
    omega
  by_cases hs2 : s = 2
  · subst hs2
    refine ⟨i == 0, by simp, fun h => ?_⟩
    have : i = 0 := by simpa using h
    omega
  by_cases hs3 : s = 3
  · subst hs3
    by_cases a : i = 1
    · exact ⟨true, by simp [a], fun h => by omega⟩
    · refine ⟨i == 2, by simp [a], fun h => ?_⟩
      have : i = 2 := by simpa using h
      omega
  · exact ⟨false, by simp [hs, hs1, hs2, hs3], fun h => by cases h⟩
theorem up {α : Type} {g : Nat → Option α} (h : ∀ k, LeO (g k) (g (k + 1))) {a : Nat} {r : α} (e : g a = some r) (b : Nat) (hb : a ≤ b) : g b = some r := by
  obtain ⟨j, rfl⟩ := Nat.exists_eq_add_of_le hb
  exact more_rounds h a j r e
section
variable {s i o : Int} {dd t : Bool} {im len : Int} (h : Shape s i o dd im len t)
include h
theorem Shape.there' (k : Nat) (hk : 4 ≤ k) : decode_there.f k s i o = some true := up (decode_there.mono s i o) h.there k hk
theorem Shape.needs' (k : Nat) (hk : 4 ≤ k) : decode_Needs.f k s i o = some (dd, im) := up (decode_Needs.mono s i o) h.needs k hk
theorem Shape.size' (k : Nat) (hk : 4 ≤ k) : decode_size.f k s i o = some len := up (decode_size.mono s i o) h.size k hk
end
/-- bounds of what an instruction bears -/
def Bnd (dd : Bool) (im : Int) (t : Bool) (d m : Int) : Prop :=
  (dd = true → -128 ≤ d ∧ d ≤ 127) ∧ (dd = false → d = 0) ∧ (im = 2 → 0 ≤ m ∧ m ≤ 65535) ∧ (im = 1 → t = true → -128 ≤ m ∧ m ≤ 127) ∧ (im = 1 → t = false → 0 ≤ m ∧ m ≤ 255) ∧ (im = 0 → m = 0)
instance (dd : Bool) (im : Int) (t : Bool) (d m : Int) : Decidable (Bnd dd im t d m) := by unfold Bnd; infer_instance
theorem check_j0 {s i o : Int} {dd t : Bool} {im len : Int} (h : Shape s i o dd im len t) (b : Bool) (d m a5 : Int) (k : Nat) :
    ∃ e, decode_Check.j0 (k + 2) im b s i o d m a5 = some e ∧ (e = 0 ∨ e = 2) ∧ (e = 0 ↔ b = false ∧ (im = 2 → 0 ≤ m ∧ m ≤ 65535) ∧ (im = 1 → t = true → -128 ≤ m ∧ m ≤ 127) ∧ (im = 1 → t = false → 0 ≤ m ∧ m ≤ 255) ∧ (im = 0 → m = 0)) := by
  unfold decode_Check.j0 decode_Check.j1
  simp only [h.rel, Option.bind_some]
  cases b
  · rw [if_neg (by decide)]
    rcases h.him with rfl | rfl | rfl
    · simp only [show ¬ ((0 : Int) = 2) by decide, show ¬ ((0 : Int) = 1) by decide, if_false, Bool.false_eq_true]
      split
      · exact ⟨2, rfl, .inr rfl, by simp; omega⟩
      · split
        · exact ⟨2, rfl, .inr rfl, by simp; omega⟩
        · exact ⟨0, rfl, .inl rfl, by simp; omega⟩
    · simp only [show ¬ ((1 : Int) = 2) by decide, if_true, if_false]
      cases t
      · simp only [Bool.false_eq_true, if_false]
        split
        · exact ⟨2, rfl, .inr rfl, by simp; omega⟩
        · split
          · exact ⟨2, rfl, .inr rfl, by simp; omega⟩
          · exact ⟨0, rfl, .inl rfl, by simp; omega⟩
      · simp only [if_true]
        split
        · exact ⟨2, rfl, .inr rfl, by simp; omega⟩
        · split
          · exact ⟨2, rfl, .inr rfl, by simp; omega⟩
          · exact ⟨0, rfl, .inl rfl, by simp; omega⟩
    · simp only [if_true]
      split
      · exact ⟨2, rfl, .inr rfl, by simp; omega⟩
      · split
        · exact ⟨2, rfl, .inr rfl, by simp; omega⟩
        · exact ⟨0, rfl, .inl rfl, by simp; omega⟩
  · rw [if_pos rfl]
    exact ⟨2, rfl, .inr rfl, by simp⟩
theorem check_shape {s i o : Int} {dd t : Bool} {im len : Int} (h : Shape s i o dd im len t) (d m a5 : Int) (k : Nat) :
    ∃ e, decode_Check.f (k + 4) s i o d m a5 = some e ∧ (e = 0 ∨ e = 2) ∧ (e = 0 ↔ a5 = len ∧ Bnd dd im t d m) := by
  unfold decode_Check.f
  simp only [h.there' (k + 4) (by omega), h.needs' (k + 4) (by omega), h.size' (k + 4) (by omega), Option.bind_some, if_true]
  unfold Bnd
  by_cases ha : a5 = len
  · subst ha
    simp only [if_true, true_and]
    cases dd
    · simp only [Bool.false_eq_true, if_false]
      by_cases hd : d = 0
      · subst hd
        simp only [if_true, show ¬ ((0 : Int) < -128) by decide, if_false, show decide ((0 : Int) > 127) = false by decide]
        obtain ⟨e, h1, h2, h3⟩ := check_j0 h false 0 m a5 (k + 2)
        exact ⟨e, h1, h2, h3.trans (by simp)⟩
      · simp only [if_neg hd]
        obtain ⟨e, h1, h2, h3⟩ := check_j0 h true d m a5 (k + 2)
        exact ⟨e, h1, h2, h3.trans (by simp [hd])⟩
    · simp only [if_true]
      by_cases h1 : d < -128
      · simp only [if_pos h1]
        obtain ⟨e, h1, h2, h3⟩ := check_j0 h true d m a5 (k + 2)
        exact ⟨e, h1, h2, h3.trans (by simp; omega)⟩
      · simp only [if_neg h1]
        obtain ⟨e, h1, h2, h3⟩ := check_j0 h (decide (d > 127)) d m a5 (k + 2)
        refine ⟨e, h1, h2, h3.trans ?_⟩
        have : decide (d > 127) = false ↔ d ≤ 127 := by simp
        rw [this]
        constructor
        · rintro ⟨a, b⟩
          exact ⟨fun _ => ⟨by omega, a⟩, by simp, b⟩
        · rintro ⟨a, _, b⟩
          exact ⟨(a trivial).2, b⟩
  · simp only [if_neg ha]
    obtain ⟨e, h1, h2, h3⟩ := check_j0 h true d m a5 (k + 2)
    exact ⟨e, h1, h2, h3.trans (by simp [ha])⟩
theorem check_total (s i o d m a5 : Int) (k : Nat) : ∃ e, decode_Check.f (k + 4) s i o d m a5 = some e ∧ (e = 0 ∨ e = 2) ∧ (e = 0 → ∃ dd im len t, Shape s i o dd im len t ∧ a5 = len ∧ Bnd dd im t d m) := by
  obtain ⟨b, hb, hd⟩ := there_total s i o
  cases b
  · refine ⟨2, ?_, .inr rfl, fun h => by cases h⟩
    unfold decode_Check.f
    rw [up (decode_there.mono s i o) hb (k + 4) (by omega)]
    rfl
  · obtain ⟨dd, im, len, t, hs⟩ := shape (hd rfl)
    obtain ⟨e, h1, h2, h3⟩ := check_shape hs d m a5 k
    exact ⟨e, h1, h2, fun he => ⟨dd, im, len, t, hs, h3.1 he⟩⟩
/-- an instruction's bytes -/
def enc (s i o d m : Int) (dd : Bool) (im : Int) : List Int :=
  (if i = 1 then [221] else if i = 2 then [253] else []) ++ (if s = 3 then [203, d % 256, o % 256] else (if s = 1 then [203] else if s = 2 then [237] else []) ++ (o % 256 :: ((if dd = true then [d % 256] else []) ++ (if im > 0 then [m % 256] else []) ++ (if im > 1 then [m / 256 % 256] else []))))
theorem cons_big (x : Int) : ([x] : List Int).length < 140737488355328 := by simp
theorem bytes_shape {s i o : Int} {dd t : Bool} {im len d m : Int} (h : Shape s i o dd im len t) (hb : Bnd dd im t d m) (k : Nat) :
    decode_Bytes.f (k + 8) s i o d m len = some (enc s i o d m dd im, 0) := by
  obtain ⟨e, he, _, h0⟩ := check_shape h d m len (k + 4)
  have e0 : e = 0 := h0.2 ⟨rfl, hb⟩
  subst e0
  unfold decode_Bytes.f
  rw [show k + 4 + 4 = k + 8 by omega] at he
  rw [he]
  have hN := h.needs' (k + 6) (by omega)
  have him := h.him
  have hdm := h.dom.2.2
  have h3 := h.h3
  simp only [Option.bind_some, if_true, decode_Bytes.j0, decode_Bytes.j1, decode_Bytes.j2, hN]
  unfold enc
  rcases hdm with ⟨rfl, hi, -⟩ | ⟨hs, rfl⟩ | ⟨rfl, hi⟩
  · rcases hi with rfl | rfl | rfl <;> rcases him with rfl | rfl | rfl <;> cases dd <;> simp
  · rcases hs with rfl | rfl <;> rcases him with rfl | rfl | rfl <;> cases dd <;> simp
  · obtain ⟨rfl, rfl⟩ := h3 rfl
    rcases hi with rfl | rfl <;> simp
theorem len_enc {s i o : Int} {dd t : Bool} {im len : Int} (h : Shape s i o dd im len t) (d m : Int) : ((enc s i o d m dd im).length : Int) = len := by
  have him := h.him
  have hdm := h.dom.2.2
  have h3 := h.h3
  rw [h.hlen]
  unfold enc
  rcases hdm with ⟨rfl, hi, -⟩ | ⟨hs, rfl⟩ | ⟨rfl, hi⟩
  · rcases hi with rfl | rfl | rfl <;> rcases him with rfl | rfl | rfl <;> cases dd <;> simp
  · rcases hs with rfl | rfl <;> rcases him with rfl | rfl | rfl <;> cases dd <;> simp
  · obtain ⟨rfl, rfl⟩ := h3 rfl
    rcases hi with rfl | rfl <;> simp
theorem w64 {x : Int} (h0 : -9223372036854775808 ≤ x) (h1 : x < 9223372036854775808) : wrap64 x = x := by
  unfold wrap64; omega
theorem sx (x : Int) : IntKind.i8.wrap x = (x + 128) % 256 - 128 := by
  simp only [IntKind.wrap, IntKind.bits, IntKind.signed]; simp; split <;> omega
theorem or64 {x z : Int} (h0 : 0 ≤ x) (h1 : x < 256) (h2 : 0 ≤ z) (h3 : z < 256) : Go.bits .or .i64 x (z * 256) = x + z * 256 := by
  have ex : (BitVec.ofInt 64 x).toNat = x.toNat := by rw [BitVec.toNat_ofInt]; omega
  have ez : (BitVec.ofInt 64 (z * 256)).toNat = (z * 256).toNat := by rw [BitVec.toNat_ofInt]; omega
  change IntKind.i64.wrap (((BitVec.ofInt 64 x ||| BitVec.ofInt 64 (z * 256)).toNat : Nat) : Int) = _
  rw [BitVec.toNat_or, ex, ez, Nat.or_comm, nat_join 8 _ _ (by simp; omega) (by simp; omega), IntKind.wrap_i64]; omega
/-- the value of an operand's bytes -/
def immV (l : List Int) (q im : Int) (t : Bool) : Int :=
  if im = 2 then rd l q + rd l (q + 1) * 256 else if im = 1 then (if t = true then (rd l q + 128) % 256 - 128 else rd l q) else 0
def Bytes (l : List Int) : Prop := ∀ j, 0 ≤ rd l j ∧ rd l j < 256
theorem tail_shape {s i o : Int} {dd t : Bool} {im len : Int} (h : Shape s i o dd im len t) (l : List Int) (hl : Bytes l) (k : Int) (hkl : len = k + (if dd = true then 1 else 0) + im) :
    of_tail l k s i o = if (l.length : Int) < len then some (0, 0, 0, 0, 0, 0, 5) else some (s, i, o, (if dd = true then (rd l k + 128) % 256 - 128 else 0), immV l (k + (if dd = true then 1 else 0)) im t, len, 0) := by
  unfold of_tail
  rw [h.needs' 12 (by omega), h.size' 12 (by omega)]
  simp only [Option.bind_some]
  by_cases hs : (l.length : Int) < len
  · rw [if_pos hs, if_pos hs]
  rw [if_neg hs, if_neg hs]
  have him := h.him
  have him1 := h.him1
  have b0 := hl k
  have b1 := hl (k + 1)
  have b2 := hl (k + 1 + 1)
  rw [if_pos (by split at hkl <;> omega)]
  unfold of_imm immV
  cases dd
  · simp only [Bool.false_eq_true, if_false, Int.add_zero] at hkl ⊢
    rcases him with rfl | rfl | rfl
    · simp
    · have := him1 rfl; subst this
      rw [if_neg (by decide), if_pos rfl, if_pos (by omega), if_pos rfl, h.rel]
      cases t
      · simp; rw [w64 (by omega) (by omega)]
      · simp; rw [sx, w64 (by omega) (by omega)]
    · rw [if_pos rfl, if_pos (by omega), w64 (x := rd l k) (by omega) (by omega), w64 (x := rd l (k + 1)) (by omega) (by omega), w64 (by omega) (by omega), or64 (by omega) (by omega) (by omega) (by omega)]
      simp
  · simp only [if_true] at hkl ⊢
    rw [if_pos (by omega), sx, w64 (x := (rd l k + 128) % 256 - 128) (by omega) (by omega)]
    rcases him with rfl | rfl | rfl
    · simp
    · have := him1 rfl; subst this
      rw [if_neg (by decide), if_pos rfl, if_pos (by omega), if_pos rfl, h.rel]
      cases t
      · simp; rw [w64 (by omega) (by omega)]
      · simp; rw [sx, w64 (by omega) (by omega)]
    · rw [if_pos rfl, if_pos (by omega), w64 (x := rd l (k + 1)) (by omega) (by omega), w64 (x := rd l (k + 1 + 1)) (by omega) (by omega), w64 (by omega) (by omega), or64 (by omega) (by omega) (by omega) (by omega)]
      simp
theorem rd_cons0 (x : Int) (l : List Int) : rd (x :: l) 0 = x := rfl
theorem rd_cons1 (x y : Int) (l : List Int) : rd (x :: y :: l) 1 = y := rfl
theorem rd_cons2 (x y z : Int) (l : List Int) : rd (x :: y :: z :: l) 2 = z := rfl
theorem rd_cons3 (x y z u : Int) (l : List Int) : rd (x :: y :: z :: u :: l) 3 = u := rfl
/-- what Of tells of any bytes -/
def Told (l : List Int) : Prop :=
  (decode_Of.f l = some (0, 0, 0, 0, 0, 0, 5) ∧ l.length ≤ 3) ∨
  ∃ s i o d m len dd im t, decode_Of.f l = some (s, i, o, d, m, len, 0) ∧ Shape s i o dd im len t ∧ Bnd dd im t d m ∧ len ≤ l.length ∧ l.take len.toNat = enc s i o d m dd im
theorem len_le {s i o : Int} {dd t : Bool} {im len : Int} (h : Shape s i o dd im len t) : 1 ≤ len ∧ len ≤ 4 := by
  have := h.hlen
  have := h.him
  have h3 := h.h3
  have h1 := h.him1
  have h12 := h.h12
  have hdi := h.hdi
  have hd := h.dom.2.2
  rcases hd with ⟨rfl, hi, -⟩ | ⟨hs, rfl⟩ | ⟨rfl, hi⟩
  · have hl := h.hlen
    rcases hi with rfl | rfl | rfl <;> cases dd <;> simp at hl hdi <;> omega
  · have hdd : dd = false := h12 (.inr (.inr rfl))
    subst hdd
    have := h.hlen
    rcases hs with rfl | rfl <;> simp at this h1 <;> omega
  · obtain ⟨rfl, rfl⟩ := h3 rfl
    have hl := h.hlen
    rcases hi with rfl | rfl <;> simp at hl <;> omega
theorem told_tail {s i o : Int} (hd : Dom s i o) (hs3 : s ≠ 3) (l : List Int) (hl : Bytes l) (k : Int) (hk : k = 1 + (if s = 0 then 0 else 1) + (if i = 0 then 0 else 1)) (hkl : k ≤ l.length)
    (hof : decode_Of.f l = of_tail l k s i o) (hpre : l.take k.toNat = (if i = 1 then [221] else if i = 2 then [253] else []) ++ ((if s = 1 then [203] else if s = 2 then [237] else []) ++ [o])) : Told l := by
  obtain ⟨dd, im, len, t, h⟩ := shape hd
  have hlen := h.hlen
  have hle := len_le h
  have hkl' : len = k + (if dd = true then 1 else 0) + im := by omega
  have ht := tail_shape h l hl k hkl'
  by_cases hs : (l.length : Int) < len
  · left
    rw [if_pos hs] at ht
    exact ⟨hof.trans ht, by omega⟩
  · right
    rw [if_neg hs] at ht
    have him := h.him
    have him1 := h.him1
    have hk0 : 1 ≤ k := by omega
    refine ⟨s, i, o, _, _, len, dd, im, t, hof.trans ht, h, ?_, by omega, ?_⟩
    · unfold Bnd immV
      have b0 := hl k
      have b1 := hl (k + 1)
      have b2 := hl (k + 1 + 1)
      cases dd <;> rcases him with rfl | rfl | rfl <;> cases t <;> simp <;> omega
    · -- the row's own bytes
      have b0 := hl k
      have b1 := hl (k + 1)
      have b2 := hl (k + 1 + 1)
      have ho := hd.1
      have ho2 := hd.2.1
      have hom : o % 256 = o := by omega
      obtain ⟨n, rfl⟩ := Int.eq_ofNat_of_zero_le (show 0 ≤ k by omega)
      have e0 : ∀ j : Nat, n + j < l.length → l.take (n + j + 1) = l.take (n + j) ++ [rd l ((n : Int) + (j : Int))] := by
        intro j hj
        rw [List.take_add_one, List.getElem?_eq_getElem hj]
        unfold rd
        rw [show ((n : Int) + (j : Int)).toNat = n + j by omega, List.getD_eq_getElem?_getD, List.getElem?_eq_getElem hj]
        rfl
      have q0 : n < l.length → l.take (n + 1) = l.take n ++ [rd l n] := by simpa using e0 0
      have q1 : n + 1 < l.length → l.take (n + 2) = l.take (n + 1) ++ [rd l ((n : Int) + 1)] := by simpa using e0 1
      have q2 : n + 2 < l.length → l.take (n + 3) = l.take (n + 2) ++ [rd l ((n : Int) + 1 + 1)] := by
        rw [show (n : Int) + 1 + 1 = (n : Int) + (2 : Nat) by omega]; exact e0 2
      have h3 : (if s = 3 then [203, (if dd = true then (rd l n + 128) % 256 - 128 else 0) % 256, o % 256] else ((if s = 1 then [203] else if s = 2 then [237] else []) ++ (o % 256 :: ((if dd = true then [(if dd = true then (rd l n + 128) % 256 - 128 else 0) % 256] else []) ++ (if im > 0 then [immV l ((n : Int) + (if dd = true then 1 else 0)) im t % 256] else []) ++ (if im > 1 then [immV l ((n : Int) + (if dd = true then 1 else 0)) im t / 256 % 256] else []))) : List Int)) = ((if s = 1 then [203] else if s = 2 then [237] else []) ++ (o % 256 :: ((if dd = true then [(if dd = true then (rd l n + 128) % 256 - 128 else 0) % 256] else []) ++ (if im > 0 then [immV l ((n : Int) + (if dd = true then 1 else 0)) im t % 256] else []) ++ (if im > 1 then [immV l ((n : Int) + (if dd = true then 1 else 0)) im t / 256 % 256] else [])))) := if_neg hs3
      unfold enc
      rw [h3, hom]
      simp only [Int.toNat_natCast] at hpre
      unfold immV
      cases dd <;> rcases him with rfl | rfl | rfl
      · have e : len.toNat = n := by simp at hkl'; omega
        rw [e, hpre]
        simp
      · have e : len.toNat = n + 1 := by simp at hkl'; omega
        rw [e, q0 (by simp at hkl'; omega), hpre]
        cases t <;> simp <;> omega
      · have e : len.toNat = n + 2 := by simp at hkl'; omega
        rw [e, q1 (by simp at hkl'; omega), q0 (by simp at hkl'; omega), hpre]
        cases t <;> simp <;> omega
      · have e : len.toNat = n + 1 := by simp at hkl'; omega
        rw [e, q0 (by simp at hkl'; omega), hpre]
        cases t <;> simp <;> omega
      · have e : len.toNat = n + 2 := by simp at hkl'; omega
        rw [e, q1 (by simp at hkl'; omega), q0 (by simp at hkl'; omega), hpre]
        cases t <;> simp <;> omega
      · have e : len.toNat = n + 3 := by simp at hkl'; omega
        rw [e, q2 (by simp at hkl'; omega), q1 (by simp at hkl'; omega), q0 (by simp at hkl'; omega), hpre]
        cases t <;> simp <;> omega
theorem take1 (l : List Int) (h : 0 < l.length) : l.take 1 = [rd l 0] := by
  cases l with
  | nil => simp at h
  | cons x l => rfl
theorem take2 (l : List Int) (h : 1 < l.length) : l.take 2 = [rd l 0, rd l 1] := by
  match l, h with
  | x :: y :: l, _ => rfl
theorem take4 (l : List Int) (h : 3 < l.length) : l.take 4 = [rd l 0, rd l 1, rd l 2, rd l 3] := by
  match l, h with
  | x :: y :: z :: u :: l, _ => rfl
theorem told (l : List Int) (hl : Bytes l) : Told l := by
  have b0 := hl 0
  have b1 := hl 1
  have b2 := hl 2
  have b3 := hl 3
  obtain ⟨D, e⟩ : ∃ D, decode_Of.f l = D := ⟨_, rfl⟩
  have e0 := e
  unfold decode_Of.f at e
  rw [w64 (x := rd l 0) (by omega) (by omega), w64 (x := rd l 1) (by omega) (by omega), w64 (x := rd l 3) (by omega) (by omega), sx, w64 (x := (rd l 2 + 128) % 256 - 128) (by omega) (by omega)] at e
  simp only [lone_eq, Option.bind_some, decide_eq_true_eq] at e
  by_cases hz : l.length = 0
  · exact .inl ⟨by rw [if_pos hz] at e; exact e0.trans e.symm, by omega⟩
  rw [if_neg hz] at e
  by_cases h1 : rd l 0 = 221 ∨ rd l 0 = 253
  · rw [if_pos h1] at e
    by_cases h2 : (l.length : Int) < 2
    · rw [if_pos h2] at e
      exact .inl ⟨e0.trans e.symm, by omega⟩
    rw [if_neg h2] at e
    by_cases h3 : (rd l 1 = 221 ∨ rd l 1 = 253) ∨ rd l 1 = 237
    · have e' : decode_Of.f l = some (0, 0, rd l 0, 0, 0, 1, 0) := by
        by_cases h4 : rd l 1 = 221 ∨ rd l 1 = 253
        · rw [if_pos h4] at e; exact (e0.trans e.symm)
        · rw [if_neg h4, if_pos (by omega)] at e; exact (e0.trans e.symm)
      obtain ⟨dd, im, len, t, h⟩ := shape (s := 0) (i := 0) (o := rd l 0) ⟨by omega, by omega, .inl ⟨rfl, .inl rfl, by omega, by omega, fun h => absurd rfl h⟩⟩
      obtain ⟨rfl, rfl⟩ := h.hlone rfl h1
      have hlen : len = 1 := by have := h.hlen; simpa using this
      subst hlen
      refine .inr ⟨_, _, _, _, _, _, _, _, _, e', h, by unfold Bnd; simp, by omega, ?_⟩
      rw [show (1 : Int).toNat = 1 from rfl, take1 l (by omega)]
      unfold enc
      simp; omega
    have h4 : ¬ (rd l 1 = 221 ∨ rd l 1 = 253) := fun h => h3 (.inl h)
    have h5 : ¬ rd l 1 = 237 := fun h => h3 (.inr h)
    rw [if_neg h4, if_neg h5] at e
    by_cases h6 : rd l 1 = 203
    · rw [if_pos h6] at e
      by_cases h7 : (l.length : Int) < 4
      · rw [if_pos h7] at e
        exact .inl ⟨e0.trans e.symm, by omega⟩
      rw [if_neg h7] at e
      have hi : (if rd l 0 = 253 then (2 : Int) else 1) = 1 ∨ (if rd l 0 = 253 then (2 : Int) else 1) = 2 := by split <;> simp
      obtain ⟨dd, im, len, t, h⟩ := shape (s := 3) (i := if rd l 0 = 253 then 2 else 1) (o := rd l 3) ⟨by omega, by omega, .inr (.inr ⟨rfl, hi⟩)⟩
      obtain ⟨rfl, rfl⟩ := h.h3 rfl
      have hlen : len = 4 := by
        have := h.hlen
        rcases hi with hi | hi <;> rw [hi] at this <;> simpa using this
      subst hlen
      refine .inr ⟨_, _, _, _, _, _, _, _, _, e0.trans e.symm, h, ?_, by omega, ?_⟩
      · unfold Bnd; simp; omega
      · rw [show (4 : Int).toNat = 4 from rfl, take4 l (by omega)]
        unfold enc
        rcases h1 with h1 | h1 <;> rw [h1] <;> simp <;> omega
    rw [if_neg h6] at e
    refine told_tail (s := 0) (i := if rd l 0 = 253 then 2 else 1) (o := rd l 1) ?_ (by decide) l hl 2 ?_ (by omega) (e0.trans e.symm) ?_
    · refine ⟨by omega, by omega, .inl ⟨rfl, ?_, h6, h5, fun _ => by omega⟩⟩
      split <;> simp
    · by_cases h7 : rd l 0 = 253 <;> simp [h7]
    · rw [show (2 : Int).toNat = 2 from rfl, take2 l (by omega)]
      rcases h1 with h1 | h1 <;> rw [h1] <;> simp
  rw [if_neg h1] at e
  by_cases h2 : rd l 0 = 203
  · rw [if_pos h2] at e
    by_cases h3 : (l.length : Int) < 2
    · rw [if_pos h3] at e
      exact .inl ⟨e0.trans e.symm, by omega⟩
    rw [if_neg h3] at e
    refine told_tail (s := 1) (i := 0) (o := rd l 1) ⟨by omega, by omega, .inr (.inl ⟨.inl rfl, rfl⟩)⟩ (by decide) l hl 2 (by simp) (by omega) (e0.trans e.symm) ?_
    rw [show (2 : Int).toNat = 2 from rfl, take2 l (by omega), h2]; simp
  rw [if_neg h2] at e
  by_cases h2 : rd l 0 = 237
  · rw [if_pos h2] at e
    by_cases h3 : (l.length : Int) < 2
    · rw [if_pos h3] at e
      exact .inl ⟨e0.trans e.symm, by omega⟩
    rw [if_neg h3] at e
    refine told_tail (s := 2) (i := 0) (o := rd l 1) ⟨by omega, by omega, .inr (.inl ⟨.inr rfl, rfl⟩)⟩ (by decide) l hl 2 (by simp) (by omega) (e0.trans e.symm) ?_
    rw [show (2 : Int).toNat = 2 from rfl, take2 l (by omega), h2]; simp
  rw [if_neg h2] at e
  refine told_tail (s := 0) (i := 0) (o := rd l 0) ⟨by omega, by omega, .inl ⟨rfl, .inl rfl, by omega, by omega, fun h => absurd rfl h⟩⟩ (by decide) l hl 1 (by simp) (by omega) (e0.trans e.symm) ?_
  rw [show (1 : Int).toNat = 1 from rfl, take1 l (by omega)]; simp
theorem bytes_of {l : List Int} (h : ∀ y ∈ l, 0 ≤ y ∧ y < 256) : Bytes l := by
  intro j
  unfold rd
  rw [List.getD_eq_getElem?_getD]
  by_cases hj : j.toNat < l.length
  · rw [List.getElem?_eq_getElem hj]
    exact h _ (List.getElem_mem hj)
  · rw [List.getElem?_eq_none (by omega)]; simp
theorem enc_bytes (s i o d m : Int) (dd : Bool) (im : Int) : ∀ y ∈ enc s i o d m dd im, 0 ≤ y ∧ y < 256 := by
  unfold enc
  intro y hy
  simp only [List.mem_append, List.mem_cons] at hy
  rcases hy with hy | hy
  · split at hy
    · simp at hy; omega
    · split at hy
      · simp at hy; omega
      · simp at hy
  · split at hy
    · simp at hy; omega
    · simp only [List.mem_append, List.mem_cons] at hy
      rcases hy with hy | hy | (hy | hy) | hy
      · split at hy
        · simp at hy; omega
        · split at hy
          · simp at hy; omega
          · simp at hy
      · omega
      · split at hy
        · simp at hy; omega
        · simp at hy
      · split at hy
        · simp at hy; omega
        · simp at hy
      · split at hy
        · simp at hy; omega
        · simp at hy
theorem back_tail {s i o : Int} {dd t : Bool} {im len d m : Int} (h : Shape s i o dd im len t) (hb : Bnd dd im t d m) (L P : List Int) (x : Int) (hL : Bytes L) (k : Nat) (hk : P.length = k) (hkl : len = k + (if dd = true then 1 else 0) + im)
    (he : L = P ++ ((if dd = true then [d % 256] else []) ++ (if im > 0 then [m % 256] else []) ++ (if im > 1 then [m / 256 % 256] else []) ++ [x])) : of_tail L k s i o = some (s, i, o, d, m, len, 0) := by
  rw [tail_shape h L hL k hkl]
  have him := h.him
  have r : ∀ j : Nat, rd L ((k : Int) + (j : Int)) = rd ((if dd = true then [d % 256] else []) ++ (if im > 0 then [m % 256] else []) ++ (if im > 1 then [m / 256 % 256] else []) ++ [x]) j := by
    intro j
    subst hk
    rw [he]
    unfold rd
    rw [List.getD_eq_getElem?_getD, List.getElem?_append_right (by omega), show ((P.length : Int) + (j : Int)).toNat - P.length = j by omega, Int.toNat_natCast, List.getD_eq_getElem?_getD]
  have r0 := r 0
  have r1 := r 1
  have r2 := r 2
  have hlen : (L.length : Int) = len + 1 := by
    rw [he, hkl]
    cases dd <;> rcases him with rfl | rfl | rfl <;> simp <;> omega
  rw [if_neg (by omega)]
  unfold Bnd at hb
  unfold immV
  rw [show ((k : Int) + ((0 : Nat) : Int)) = k by omega] at r0
  rw [show ((k : Int) + ((1 : Nat) : Int)) = k + 1 by omega] at r1
  rw [show ((k : Int) + ((2 : Nat) : Int)) = k + 1 + 1 by omega] at r2
  cases dd <;> rcases him with rfl | rfl | rfl <;> cases t <;> simp only [Bool.false_eq_true, if_false, if_true, Int.add_zero] at r0 r1 r2 hb ⊢ <;> generalize rd L (k : Int) = y0 at r0 ⊢ <;> generalize rd L ((k : Int) + 1) = y1 at r1 ⊢ <;> generalize rd L ((k : Int) + 1 + 1) = y2 at r2 ⊢ <;> simp [rd] at r0 r1 r2 hb ⊢ <;> omega
theorem back {s i o : Int} {dd t : Bool} {im len d m : Int} (h : Shape s i o dd im len t) (hb : Bnd dd im t d m) (x : Int) (hx : 0 ≤ x ∧ x < 256) (hlx : s = 0 → o = 221 ∨ o = 253 → x = 221 ∨ x = 237 ∨ x = 253) :
    decode_Of.f (enc s i o d m dd im ++ [x]) = some (s, i, o, d, m, len, 0) := by
  have hL : Bytes (enc s i o d m dd im ++ [x]) := bytes_of fun y hy => by
    rcases List.mem_append.1 hy with hy | hy
    · exact enc_bytes _ _ _ _ _ _ _ y hy
    · rw [List.mem_singleton.1 hy]; exact hx
  generalize hE : enc s i o d m dd im ++ [x] = L at hL
  have b0 := hL 0
  have b1 := hL 1
  have b2 := hL 2
  have b3 := hL 3
  obtain ⟨D, e⟩ : ∃ D, decode_Of.f L = D := ⟨_, rfl⟩
  have e0 := e
  unfold decode_Of.f at e
  rw [w64 (x := rd L 0) (by omega) (by omega), w64 (x := rd L 1) (by omega) (by omega), w64 (x := rd L 3) (by omega) (by omega), sx, w64 (x := (rd L 2 + 128) % 256 - 128) (by omega) (by omega)] at e
  simp only [lone_eq, Option.bind_some, decide_eq_true_eq] at e
  rw [e0, ← e]
  have hdm := h.dom
  obtain ⟨o0, o1, hdm⟩ := hdm
  have hom : o % 256 = o := by omega
  have hlen := h.hlen
  rcases hdm with ⟨rfl, hi, c203, c237, cix⟩ | ⟨hs, rfl⟩ | ⟨rfl, hi⟩
  · rcases hi with rfl | rfl | rfl
    · have hE' : L = [o] ++ ((if dd = true then [d % 256] else []) ++ (if im > 0 then [m % 256] else []) ++ (if im > 1 then [m / 256 % 256] else []) ++ [x]) := by rw [← hE]; unfold enc; simp [hom]
      have r0 : rd L 0 = o := by rw [hE']; rfl
      have hn : ¬ L.length = 0 := by rw [hE']; simp
      rw [if_neg hn, r0]
      by_cases hl : o = 221 ∨ o = 253
      · obtain ⟨rfl, rfl⟩ := h.hlone rfl hl
        have hl1 : len = 1 := by simpa using hlen
        subst hl1
        have r1 : rd L 1 = x := by rw [hE']; rfl
        have hn2 : ¬ ((L.length : Int) < 2) := by rw [hE']; simp
        unfold Bnd at hb
        simp at hb
        obtain ⟨rfl, rfl⟩ := hb
        rw [if_pos hl, if_neg hn2, r1]
        rcases hlx rfl hl with rfl | rfl | rfl <;> simp
      · rw [if_neg hl, if_neg c203, if_neg c237]
        exact back_tail h hb L [o] x hL 1 rfl (by simpa using hlen) hE'
    · obtain ⟨cx1, cx2⟩ := cix (by decide)
      have hE' : L = [221, o] ++ ((if dd = true then [d % 256] else []) ++ (if im > 0 then [m % 256] else []) ++ (if im > 1 then [m / 256 % 256] else []) ++ [x]) := by rw [← hE]; unfold enc; simp [hom]
      have r0 : rd L 0 = 221 := by rw [hE']; rfl
      have r1 : rd L 1 = o := by rw [hE']; rfl
      have hn : ¬ L.length = 0 := by rw [hE']; simp
      have hn2 : ¬ ((L.length : Int) < 2) := by rw [hE']; simp; omega
      rw [if_neg hn, r0, r1, if_pos (by decide), if_neg hn2, if_neg (by omega), if_neg c237, if_neg c203, if_neg (by decide)]
      exact back_tail h hb L [221, o] x hL 2 rfl (by simpa using hlen) hE'
    · obtain ⟨cx1, cx2⟩ := cix (by decide)
      have hE' : L = [253, o] ++ ((if dd = true then [d % 256] else []) ++ (if im > 0 then [m % 256] else []) ++ (if im > 1 then [m / 256 % 256] else []) ++ [x]) := by rw [← hE]; unfold enc; simp [hom]
      have r0 : rd L 0 = 253 := by rw [hE']; rfl
      have r1 : rd L 1 = o := by rw [hE']; rfl
      have hn : ¬ L.length = 0 := by rw [hE']; simp
      have hn2 : ¬ ((L.length : Int) < 2) := by rw [hE']; simp; omega
      rw [if_neg hn, r0, r1, if_pos (by decide), if_neg hn2, if_neg (by omega), if_neg c237, if_neg c203, if_pos rfl]
      exact back_tail h hb L [253, o] x hL 2 rfl (by simpa using hlen) hE'
  · rcases hs with rfl | rfl
    · have hE' : L = [203, o] ++ ((if dd = true then [d % 256] else []) ++ (if im > 0 then [m % 256] else []) ++ (if im > 1 then [m / 256 % 256] else []) ++ [x]) := by rw [← hE]; unfold enc; simp [hom]
      have r0 : rd L 0 = 203 := by rw [hE']; rfl
      have r1 : rd L 1 = o := by rw [hE']; rfl
      have hn : ¬ L.length = 0 := by rw [hE']; simp
      have hn2 : ¬ ((L.length : Int) < 2) := by rw [hE']; simp; omega
      rw [if_neg hn, r0, r1, if_neg (by decide), if_pos rfl, if_neg hn2]
      exact back_tail h hb L [203, o] x hL 2 rfl (by simpa using hlen) hE'
    · have hE' : L = [237, o] ++ ((if dd = true then [d % 256] else []) ++ (if im > 0 then [m % 256] else []) ++ (if im > 1 then [m / 256 % 256] else []) ++ [x]) := by rw [← hE]; unfold enc; simp [hom]
      have r0 : rd L 0 = 237 := by rw [hE']; rfl
      have r1 : rd L 1 = o := by rw [hE']; rfl
      have hn : ¬ L.length = 0 := by rw [hE']; simp
      have hn2 : ¬ ((L.length : Int) < 2) := by rw [hE']; simp; omega
      rw [if_neg hn, r0, r1, if_neg (by decide), if_neg (by decide), if_pos rfl, if_neg hn2]
      exact back_tail h hb L [237, o] x hL 2 rfl (by simpa using hlen) hE'
  · obtain ⟨rfl, rfl⟩ := h.h3 rfl
    unfold Bnd at hb
    simp at hb
    obtain ⟨hd, rfl⟩ := hb
    rcases hi with rfl | rfl
    · have hE' : L = [221, 203, d % 256, o, x] := by rw [← hE]; unfold enc; simp [hom]
      have hl4 : len = 4 := by simpa using hlen
      subst hl4
      subst hE'
      simp [rd]; omega
    · have hE' : L = [253, 203, d % 256, o, x] := by rw [← hE]; unfold enc; simp [hom]
      have hl4 : len = 4 := by simpa using hlen
      subst hl4
      subst hE'
      simp [rd]; omega
def Byts (l : List Int) : Prop := ∀ y ∈ l, 0 ≤ y ∧ y < 256
theorem own_eq (l : List Int) (h : l.length < 140737488355328) : pendulumkit_Own.f l = some l := by
  unfold pendulumkit_Own.f
  simp [h]
theorem lives_true (k : Nat) (hk : 12 ≤ k) : pendulumlaw09_lives.f k = some true := by
  have h : pendulumlaw09_lives.f 12 = some true := by decide +kernel
  exact up pendulumlaw09_lives.mono h k hk
end Go.Proofs.Ythcokhnckbkecaa.DecSpec
