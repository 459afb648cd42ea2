/- What is read is an instruction's bytes, and back: a plain law. -/
import Derived.Test.YthcokhnckbkecaaDecSpec
import Derived.Test.YthcokhnckbkecaaHDecodex9
set_option linter.unusedVariables false
set_option linter.unusedSimpArgs false
namespace Go.Proofs.Ythcokhnckbkecaa.DecSpec
open Go Go.RowKit Go.Proofs.Ythcokhnckbkecaa.HDecode Go.Proofs.YthcokhnckbkecaaW.PrintWords Go.Proofs.YthcokhnckbkecaaW.PrintLast
theorem take_beq (a b : List Int) (h : a = b) : (strOfNums a).toList = (strOfNums b).toList := by rw [h]
theorem back_j0 (K : Nat) (hK : 12 ≤ K) (a2 a0 a1 a3 a4 a5 a6 : Int) (h2 : 0 ≤ a2 ∧ a2 < 256) : pendulumlaw09_DecodeBack.j0 (K + 1) a2 a0 a1 a3 a4 a5 a6 = some true := by
  rw [pendulumlaw09_DecodeBack.j0]
  obtain ⟨e, he, h02, h0⟩ := check_total a0 a1 a3 a4 a5 a6 (K - 4)
  rw [show K - 4 + 4 = K by omega] at he
  rcases h02 with rfl | rfl
  · obtain ⟨dd, im, len, t, hs, rfl, hb⟩ := h0 rfl
    have hby : decode_Bytes.f K a0 a1 a3 a4 a5 a6 = some (enc a0 a1 a3 a4 a5 dd im, 0) := by
      have := bytes_shape hs hb (K - 8)
      rwa [show K - 8 + 8 = K by omega] at this
    have hel := len_enc hs a4 a5
    have hle := len_le hs
    have fin : ∀ x, 0 ≤ x ∧ x < 256 → (a0 = 0 → a3 = 221 ∨ a3 = 253 → x = 221 ∨ x = 237 ∨ x = 253) → (decode_Of.f (enc a0 a1 a3 a4 a5 dd im ++ [x])) = some (a0, a1, a3, a4, a5, a6, 0) := fun x hx hlx => back hs hb x hx hlx
    have hy : ∀ j : Int, 0 ≤ j → j < 3 → (rd [221, 237, 253] j = 221 ∨ rd [221, 237, 253] j = 237 ∨ rd [221, 237, 253] j = 253) := by
      intro j j0 j1
      rcases (show j = 0 ∨ j = 1 ∨ j = 2 by omega) with rfl | rfl | rfl
      · exact .inl rfl
      · exact .inr (.inl rfl)
      · exact .inr (.inr rfl)
    have hm0 : 0 ≤ Int.tmod a2 3 := by rw [Int.tmod_eq_emod_of_nonneg h2.1]; omega
    have hm1 : Int.tmod a2 3 < 3 := by rw [Int.tmod_eq_emod_of_nonneg h2.1]; omega
    have hlist := hy _ hm0 hm1
    have hbig : (enc a0 a1 a3 a4 a5 dd im).length < 140737488355328 := by omega
    rw [hby]
    simp only [Option.bind_some, if_true]
    by_cases c0 : a0 = 0
    · rw [if_pos c0]
      by_cases c1 : a3 = 221
      · rw [if_pos c1, if_pos hm0, if_pos (by simpa using hm1), if_pos hbig, fin _ (by omega) (fun _ _ => hlist)]
        simp
      · rw [if_neg c1]
        by_cases c2 : a3 = 253
        · rw [if_pos c2, if_pos hm0, if_pos (by simpa using hm1), if_pos hbig, fin _ (by omega) (fun _ _ => hlist)]
          simp
        · rw [if_neg c2, if_pos hbig, fin a2 h2 (fun _ h => by omega)]
          simp
    · rw [if_neg c0, if_pos hbig, fin a2 h2 (fun h => absurd h c0)]
      simp
  · have hby : decode_Bytes.f K a0 a1 a3 a4 a5 a6 = some ([], 2) := by unfold decode_Bytes.f; rw [he]; rfl
    rw [hby]
    simp only [Option.bind_some]
    rw [if_neg (by decide), if_pos trivial, he]
    rfl
theorem back_all (K : Nat) (hK : 13 ≤ K) (l0 : List Int) (hb : Byts l0) (hlen : l0.length < 140737488355328) (a0 a1 a3 a4 a5 a6 a2 : Int) (h2 : 0 ≤ a2 ∧ a2 < 256) : pendulumlaw09_DecodeBack.f (K + 1) l0 a0 a1 a3 a4 a5 a6 a2 = some true := by
  unfold pendulumlaw09_DecodeBack.f
  have hj := back_j0 K (by omega) a2 a0 a1 a3 a4 a5 a6 h2
  rw [lives_true (K + 1) (by omega)]
  simp only [Option.bind_some, if_true]
  by_cases h5 : (l0.length : Int) > 500
  · rw [if_pos h5]
  rw [if_neg h5, own_eq l0 hlen]
  simp only [Option.bind_some]
  rcases told _ (bytes_of hb) with ⟨e, h3⟩ | ⟨s, i, o, d, m, len, dd, im, t, e, hs, hbn, hl, ht⟩
  · rw [e]
    simp only [Option.bind_some]
    rw [if_neg (by decide), if_pos trivial, hj]
  · rw [e]
    simp only [Option.bind_some]
    have hel := len_enc hs d m
    have hle := len_le hs
    have hby : decode_Bytes.f (K + 1) s i o d m len = some (enc s i o d m dd im, 0) := by
      have := bytes_shape hs hbn (K - 7)
      rwa [show K - 7 + 8 = K + 1 by omega] at this
    obtain ⟨e', he', _, h0⟩ := check_shape hs d m len (K - 3)
    rw [show K - 3 + 4 = K + 1 by omega, h0.2 ⟨rfl, hbn⟩] at he'
    rw [if_pos trivial, hby, he']
    simp only [Option.bind_some, if_true]
    rw [if_pos hel, if_neg (by omega), if_pos (by omega), if_pos (by omega), if_pos (take_beq _ _ ht.symm), hj]
end Go.Proofs.Ythcokhnckbkecaa.DecSpec
