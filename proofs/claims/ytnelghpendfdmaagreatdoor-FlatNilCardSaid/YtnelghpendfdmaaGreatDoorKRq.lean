/-
 PROVED: pendulumref09.Of as a function of a row of bytes, and what StepReads' loop answers of the bytes it takes.
-/
import Derived.Test.YtnelghpendfdmaaGreatDoorKBl
import Derived.Test.YtnelghpendfdmaaGreatDoorHRef9
namespace Go.Proofs.YtnelghpendfdmaaGreatDoor.KRow
open Go Go.RowKit Go.Proofs.YtnelghpendfdmaaGreatDoorW.PrintWords Go.Proofs.YtnelghpendfdmaaGreatDoor.HFun
set_option linter.unusedVariables false
structure Ins where
 s : Int
 x : Int
 o : Int
 d : Int
 i : Int
 n : Int
def Ins.zero : Ins :=⟨0,0,0,0,0,0⟩
noncomputable def sg (v : Int) : Int :=(pendulumref09_signed.f v).getD 0
noncomputable def refMain (l : List Int) (j : Nat) (s x : Int) : Ins × Int :=
 let p :=(pendulumref09_Needs.f 20 s x (rd l (j : Int))).getD (false,0)
 let D : Nat :=if p.1 = true then 1 else 0
 let L : Nat :=j + 1 + D + p.2.toNat
 if l.length < L then (Ins.zero,5) else
  (⟨s,x,rd l (j : Int),if p.1 = true then sg (rd l ((j + 1 : Nat) : Int)) else 0,
   if p.2 = 1 then (if s = 0 ∧ pendulumref09_Relative.f (rd l (j : Int)) = some true then sg (rd l ((j + 1 + D : Nat) : Int)) else rd l ((j + 1 + D : Nat) : Int))
   else if p.2 = 2 then rd l ((j + 1 + D : Nat) : Int) + 256 * rd l ((j + 2 + D : Nat) : Int) else 0,(L : Int)⟩,0)
noncomputable def refOf (l : List Int) : Ins × Int :=
 if l.length = 0 then (Ins.zero,5)
 else if rd l 0 = 221 ∨ rd l 0 = 253 then
  (if l.length < 2 then (Ins.zero,5)
  else if rd l 1 = 237 ∨ rd l 1 = 221 ∨ rd l 1 = 253 then (⟨0,0,rd l 0,0,0,1⟩,0)
  else if rd l 1 = 203 then (if l.length < 4 then (Ins.zero,5) else (⟨3,if rd l 0 = 253 then 2 else 1,rd l 3,sg (rd l 2),0,4⟩,0))
  else refMain l 1 0 (if rd l 0 = 253 then 2 else 1))
 else if rd l 0 = 203 then (if l.length < 2 then (Ins.zero,5) else refMain l 1 1 0)
 else if rd l 0 = 237 then (if l.length < 2 then (Ins.zero,5) else refMain l 1 2 0)
 else refMain l 0 0 0
def combos : List (Bool × Nat) :=[(false,0),(false,1),(false,2),(true,0),(true,1)]
def tabB (n x : Nat) : Bool :=combos.any fun p => (pendulumref09_Needs.f 20 0 (x : Int) (n : Int) == some (p.1,(p.2 : Int))) && (pendulumref09_length.f 20 0 (x : Int) (n : Int) == some (((if x = 0 then 0 else 1) + 1 + (if p.1 = true then 1 else 0) + p.2 : Nat) : Int)) &&
 (nMain (n : Int) (x : Int) == (if p.1 = true then 1 else 0) + p.2) && (!p.1 || (x != 0 && (p.2 != 1 || pendulumref09_Relative.f (n : Int) == some false)))
theorem tab_n : ∀ n : Nat,n < 256 → ∀ x : Nat,x < 3 → (tabB n x || n == 203 || n == 237 || n == 221 || n == 253) = true :=by decide +kernel
theorem tab_bits : ∀ n : Nat,n < 256 → pendulumref09_Needs.f 20 1 0 (n : Int) = some (false,0) ∧ pendulumref09_length.f 20 1 0 (n : Int) = some 2 :=by decide +kernel
theorem tab_more : ∀ n : Nat,n < 256 → ∃ k ∈ ([0,2] : List Nat),pendulumref09_Needs.f 20 2 0 (n : Int) = some (false,(k : Int)) ∧ pendulumref09_length.f 20 2 0 (n : Int) = some ((2 + k : Nat) : Int) ∧ nMore (n : Int) = k :=by decide +kernel
theorem byte_all {P : Int → Prop} (h : ∀ n : Nat,n < 256 → P (n : Int)) {b : Int} (h0 : 0 ≤ b) (h1 : b < 256) : P b :=by
 have :=h b.toNat (by omega)
 rwa [Int.toNat_of_nonneg h0] at this
theorem tab_main {o : Int} (h0 : 0 ≤ o) (h1 : o < 256) (hne : o ≠ 203 ∧ o ≠ 237 ∧ o ≠ 221 ∧ o ≠ 253) (x : Nat) (hx : x < 3) : ∃ p ∈ combos,pendulumref09_Needs.f 20 0 (x : Int) o = some (p.1,(p.2 : Int)) ∧
  pendulumref09_length.f 20 0 (x : Int) o = some (((if x = 0 then 0 else 1) + 1 + (if p.1 = true then 1 else 0) + p.2 : Nat) : Int) ∧ nMain o (x : Int) = (if p.1 = true then 1 else 0) + p.2 ∧ (p.1 = true → x ≠ 0 ∧ (p.2 = 1 → pendulumref09_Relative.f o = some false)) :=by
 obtain ⟨n,rfl⟩ : ∃ n : Nat,o = (n : Int) :=⟨o.toNat,(Int.toNat_of_nonneg h0).symm⟩
 have h :=tab_n n (by omega) x hx
 have e1 : (n == 203) = false :=by simp;omega
 have e2 : (n == 237) = false :=by simp;omega
 have e3 : (n == 221) = false :=by simp;omega
 have e4 : (n == 253) = false :=by simp;omega
 rw [e1,e2,e3,e4] at h
 simp only [Bool.or_false,tabB,List.any_eq_true,Bool.and_eq_true,beq_iff_eq] at h
 obtain ⟨p,hp,⟨⟨h1,h2⟩,h3⟩,h4⟩ :=h
 refine ⟨p,hp,h1,h2,h3,fun hp1 => ?_⟩
 rw [hp1] at h4
 simp only [Bool.not_true,Bool.false_or,Bool.and_eq_true,bne_iff_ne,Bool.or_eq_true,beq_iff_eq] at h4
 refine ⟨h4.1,fun h5 => ?_⟩
 rcases h4.2 with h6 | h6
 ·exact absurd h5 h6
 ·exact h6
theorem sg_some (v : Int) : pendulumref09_signed.f v = some (sg v) :=by
 unfold sg pendulumref09_signed.f
 split <;> rfl
theorem rel_some (o : Int) : pendulumref09_Relative.f o = some true ∨ pendulumref09_Relative.f o = some false :=by
 unfold pendulumref09_Relative.f
 split
 ·split
  ·cases (Int.tmod o 8 == 0) <;> simp
  ·exact .inr rfl
 ·exact .inr rfl
theorem rd_rng {l : List Int} (hl : ∀ x ∈ l,0 ≤ x ∧ x < 256) {j : Nat} (hj : j < l.length) : 0 ≤ rd l (j : Int) ∧ rd l (j : Int) < 256 :=by
 have : rd l (j : Int) = l[j] :=by simp [rd,hj]
 rw [this]
 exact hl _ (List.getElem_mem hj)
end Go.Proofs.YtnelghpendfdmaaGreatDoor.KRow
