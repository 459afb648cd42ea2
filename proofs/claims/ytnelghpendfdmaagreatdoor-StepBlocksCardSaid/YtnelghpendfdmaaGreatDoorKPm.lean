/-
  PROVED: what the tree of an operation asks of the bus (kinds and lengths), and that its bytes are asked first, from PC on.
-/
import Derived.Test.YtnelghpendfdmaaGreatDoorKMod3
import Derived.Test.YtnelghpendfdmaaGreatDoorBits
namespace Go.Proofs.YtnelghpendfdmaaGreatDoor.KRow
open Go Go.RowKit Go.Proofs.YtnelghpendfdmaaGreatDoorW.PrintWords
open Go.Proofs.YtnelghpendfdmaaGreatDoor.HFun
set_option linter.unusedVariables false
set_option linter.unusedSimpArgs false
theorem bind_unit (t : Tr Unit) : t.bind (fun _ ρ => .ret () ρ) = t := Tr.bind_ret t
theorem bind_assoc {α β γ : Type} (t : Tr α) (F : α → Rw → Tr β) (G : β → Rw → Tr γ) : (t.bind F).bind G = t.bind fun v ρ => (F v ρ).bind G := by
  induction t with
  | ret v ρ => rfl
  | ask k a v t f ih => simp only [Tr.bind, ih]
theorem len2 {c : List Int} (h : c.length = 2) : ∃ u v, c = [u, v] := by
  match c, h with | [u, v], _ => exact ⟨u, v, rfl⟩
end Go.Proofs.YtnelghpendfdmaaGreatDoor.KRow
/-
  PROVED: the play of a whole instruction's tree over its bytes; where a run of the tree stands behind answers.
-/
namespace Go.Proofs.YtnelghpendfdmaaGreatDoor.KRow
open Go Go.RowKit Go.Proofs.YtnelghpendfdmaaGreatDoorW.PrintWords
open Go.Proofs.YtnelghpendfdmaaGreatDoor.HFun
set_option linter.unusedVariables false
set_option linter.unusedSimpArgs false
def two (o : Int) : Prop := o = 221 ∨ o = 253 ∨ o = 203 ∨ o = 237
instance (o : Int) : Decidable (two o) := by unfold two; infer_instance
/-! where a run stands -/
def Tr.res {α : Type} (t : Tr α) (n : Nat) : Res α := match t with | .ret v ρ => .ok v ρ n | .ask k a v tt _ => .ask k a v tt
def Tr.dn {α : Type} : Tr α → List Int → Option (Tr α)
  | t, [] => some t
  | .ret _ _, _ :: _ => none
  | .ask _ _ _ _ f, x :: xs => (f x).dn xs
theorem Tr.dn_snoc {α : Type} {gl : List Int} {t : Tr α} {k a v tt : Int} {f : Int → Tr α} (h : t.dn gl = some (.ask k a v tt f)) (x : Int) : t.dn (gl ++ [x]) = some (f x) := by
  induction gl generalizing t with
  | nil => cases t <;> simp_all [Tr.dn]
  | cons y gl ih =>
    cases t with
    | ret v ρ => simp [Tr.dn] at h
    | ask k' a' v' t' f' => simp only [List.cons_append, Tr.dn] at h ⊢; exact ih h
theorem Tr.run_dn {α : Type} (pre gl : List Int) {t t' : Tr α} (h : t.dn gl = some t') : t.run (pre ++ gl) pre.length = t'.res (pre ++ gl).length := by
  induction gl generalizing t pre with
  | nil =>
    have : t = t' := by cases t <;> simp_all [Tr.dn]
    subst this
    cases t with
    | ret v ρ => simp [Tr.run, Tr.res]
    | ask k a v tt f => simp [Tr.run, Tr.res]
  | cons y gl ih =>
    cases t with
    | ret v ρ => simp [Tr.dn] at h
    | ask k a v tt f =>
      simp only [Tr.dn] at h
      have := ih (pre ++ [y]) h
      unfold Tr.run
      rw [if_pos (by simp)]
      have hrd : rd (pre ++ y :: gl) (pre.length : Nat) = y := by simp [rd]
      rw [hrd]
      simpa using this
end Go.Proofs.YtnelghpendfdmaaGreatDoor.KRow
