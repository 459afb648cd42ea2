/- AluSame: for every input the law returns true, and each argument reads as before; the table alu.does lies as the program's text lays it (tied). -/
import Derived.Test.YtpmmneipfmbmlaaDoorRows
import Derived.Test.YtpmmneipfmbmlaaDoorTie
import Derived.Test.YtpmmneipfmbmlaaDoorCards
import Derived.LaidMore
import Derived.Stop.Joined
import Derived.SevenTiedAt
import Derived.Test.YtpmmneipfmbmlaaDoorHAluSamex2
import Derived.Test.YtpmmneipfmbmlaaDoorHPureAluSame
import Derived.WalkKit
import Derived.ProofKit
import Derived.OpenShut
import Derived.ShutString
import Derived.ChangeOld
import Derived.Below
import Derived.SizedLaws
namespace Go.Proofs.YtpmmneipfmbmlaaDoor.aluSame
open Go.ChangeShapes Go.WideShapes Go.ChangeAt Go.RowKit
open Go.ChangeMaps (open_string shut_string)
set_option linter.unusedVariables false
theorem own : ownKnob Tryd.prog.godebug = none := by kernel_rfl
theorem gDoes : Tryd.prog.globalNamed "pendulum/alu.does" = some 0 := by kernel_rfl
theorem tDoes : (Tryd.prog.globals[0]?).map (·.type) = some 39 := by kernel_rfl
theorem cellsE : Tryd.prog.cellsOf 38 = 1 := by kernel_rfl
/-- The door's own heap meets the condition. -/
theorem door_met (os : Os) (args : Array Value) : laidMetH Tryd.prog Rows.aluSameRow.laid ((World.doorLaid Tryd.prog 14 os).forCall (fun _ _ => 0) ⟨#[], args, []⟩).memory :=
  laidMetH_of_parts3 (fuel := 8) (laidMet_of_run' 8 (by kernel_rfl) (by kernel_rfl)) (by kernel_rfl) (by kernel_rfl)
/-- What the condition gives the walks: the table's eight functions. -/
theorem of_laid {W : World} (h : laidMetH Tryd.prog Rows.aluSameRow.laid W) : HAluSame.Table W := by
  obtain ⟨g, t, cs, fuel, p, hg, ht, hv, hd⟩ := h.funcs (List.mem_singleton.2 rfl)
  obtain rfl := Option.some.inj (gDoes.symm.trans hg)
  obtain rfl := Option.some.inj (tDoes.symm.trans ht)
  have hd' : DataW.trod (funcToken Tryd.prog) Tryd.prog W 0 (fun _ => true) true fuel 39 cs.toList = some (.agg [.held [112, 101, 110, 100, 117, 108, 117, 109, 47, 97, 108, 117, 46, 100, 111, 101, 115, 36, 49], .held [112, 101, 110, 100, 117, 108, 117, 109, 47, 97, 108, 117, 46, 100, 111, 101, 115, 36, 50], .held [112, 101, 110, 100, 117, 108, 117, 109, 47, 97, 108, 117, 46, 100, 111, 101, 115, 36, 51], .held [112, 101, 110, 100, 117, 108, 117, 109, 47, 97, 108, 117, 46, 100, 111, 101, 115, 36, 52], .held [112, 101, 110, 100, 117, 108, 117, 109, 47, 97, 108, 117, 46, 100, 111, 101, 115, 36, 53], .held [112, 101, 110, 100, 117, 108, 117, 109, 47, 97, 108, 117, 46, 100, 111, 101, 115, 36, 54], .held [112, 101, 110, 100, 117, 108, 117, 109, 47, 97, 108, 117, 46, 100, 111, 101, 115, 36, 55], .held [112, 101, 110, 100, 117, 108, 117, 109, 47, 97, 108, 117, 46, 100, 111, 101, 115, 36, 56]], p) := hd
  obtain ⟨xs, m, _, hx, _, hn, hel⟩ := DataW.trod_array Tryd.underlying39 hd'
  simp only [Prod.mk.injEq, DataW.agg.injEq] at hx
  obtain ⟨hx, _⟩ := hx
  have hcell : ∀ (i : Nat) (f0 : FuncId) (b : UInt8) (r : List UInt8), i < 8 → (xs.map (·.1))[i]? = some (.held (b :: r)) → ((List.range Tryd.prog.funcs.size).filter fun f => (Tryd.prog.funcs[f]?).any (·.name.toUTF8.data.toList == b :: r)) = [f0] → W.cell? ⟨0, i, none⟩ = some (.func (.func f0) #[] #[]) := by
    intro i f0 b r hi hxi hf
    have e := hel i hi
    rw [cellsE, Nat.mul_one] at e
    rw [List.getElem?_map] at hxi
    obtain ⟨x, hxs, hx1⟩ := Option.map_eq_some_iff.1 hxi
    rw [hxs] at e
    obtain ⟨x1, x2⟩ := x
    simp only at hx1
    subst hx1
    have hone : ((cs.toList.drop i).take 1) = [] ∨ ∃ v, (cs.toList.drop i).take 1 = [v] := by
      cases cs.toList.drop i with
      | nil => exact .inl rfl
      | cons v l => exact .inr ⟨v, rfl⟩
    obtain ⟨v, hv1⟩ : ∃ v, (cs.toList.drop i).take 1 = [v] := by
      rcases hone with h0 | h0
      · rw [h0] at e
        cases m with
        | zero => simp [DataW.trod] at e
        | succ m => simp [DataW.trod, Tryd.underlying38] at e
      · exact h0
    rw [hv1] at e
    have hfn := func_of_trod (f0 := f0) Tryd.underlying38 hf e
    subst hfn
    have hcs : cs[i]? = some (.func (.func f0) #[] #[]) := by
      have : ((cs.toList.drop i).take 1)[0]? = some (Value.func (.func f0) #[] #[]) := by rw [hv1]; rfl
      simpa [List.getElem?_take, List.getElem?_drop] using this
    have := World.var?_cell hg hv i
    rw [this]; exact hcs
  refine ⟨fun i hi => ?_⟩
  rw [← hx] at hcell
  match i, hi with
  | 0, _ => exact hcell 0 51 _ _ (by decide) rfl (by kernel_rfl)
  | 1, _ => exact hcell 1 52 _ _ (by decide) rfl (by kernel_rfl)
  | 2, _ => exact hcell 2 53 _ _ (by decide) rfl (by kernel_rfl)
  | 3, _ => exact hcell 3 54 _ _ (by decide) rfl (by kernel_rfl)
  | 4, _ => exact hcell 4 55 _ _ (by decide) rfl (by kernel_rfl)
  | 5, _ => exact hcell 5 56 _ _ (by decide) rfl (by kernel_rfl)
  | 6, _ => exact hcell 6 57 _ _ (by decide) rfl (by kernel_rfl)
  | 7, _ => exact hcell 7 58 _ _ (by decide) rfl (by kernel_rfl)
set_option maxRecDepth 100000 in
theorem lifted (os : Os) (started : os.Started) (H : Type) (enc : TypeId × Value → H) :
    ReturnsInHanded {} Tryd.checked os 4 .any (fun w args => (Rows.aluSameSpec.pre enc Tryd.prog Tryd.f4 [] false w args ∧ laidMetH Tryd.prog Rows.aluSameRow.laid w) ∧ sizedMet enc Tryd.prog Tryd.f4 (OpenSpec.ofChange Rows.aluSameSpec) false w args)
      (Rows.aluSameSpec.post enc Tryd.prog Tryd.f4 false true false false) := by
  refine returnsInHanded_of_change_and (C := Tryd.checked) (X := fun w _ => laidMetH Tryd.prog Rows.aluSameRow.laid w) (fun _ _ _ hh h => h.of_heap hh) own started (by kernel_rfl) Tryd.func4
    (ChangeSpec.witness_shaped (enc := enc) (C := Tryd.checked) (os := os) (X := fun w _ => laidMetH Tryd.prog Rows.aluSameRow.laid w) false (World.doorLaid Tryd.prog 14 os) #[.int .u8 0, .int .u8 0, .int .u8 0, .int .i64 0] 8 rfl (World.shaped_of_RefB (by kernel_rfl) (by kernel_rfl)) (by kernel_rfl) (by kernel_rfl) (by kernel_rfl) (door_met os _)) ?_
  intro W base args ds gs before hval0 hW _ hsz0 hL _
  have hval : ∀ (j : Nat) t v, Tryd.f4.params[j]? = some t → args[j]? = some v → Value.okWide Tryd.prog W .any base t v := hval0
  have hW' := hW
  obtain ⟨p, q, hA0, hV, rfl, hfz, hnd⟩ := hW
  have hA : DataW.TrodAll enc Tryd.prog W 0 (fun _ => true) true Tryd.f4.params.toList args.toList ds p := hA0
  rw [Tryd.params4] at hA hval
  obtain ⟨v0, vs0, d0, ds0, p0, q0, hargs, rfl, rfl, h0, r0⟩ := trodAll_cons hA
  obtain ⟨v1, vs1, d1, ds1, p1, q1, rfl, rfl, rfl, h1, r1⟩ := trodAll_cons r0
  obtain ⟨v2, vs2, d2, ds2, p2, q2, rfl, rfl, rfl, h2, r2⟩ := trodAll_cons r1
  obtain ⟨v3, vs3, d3, ds3, p3, q3, rfl, rfl, rfl, h3, r3⟩ := trodAll_cons r2
  obtain ⟨rfl, rfl, rfl⟩ := trodAll_nil r3
  obtain rfl : args = #[v0, v1, v2, v3] := by cases args; simp_all
  obtain ⟨rfl, rfl⟩ := trodVars_none hV
  obtain ⟨a0, rfl, rfl, rfl, w0⟩ := open_int Tryd.underlying5 (hval 0 5 v0 rfl rfl) h0
  obtain ⟨a1, rfl, rfl, rfl, w1⟩ := open_int Tryd.underlying5 (hval 1 5 v1 rfl rfl) h1
  obtain ⟨a2, rfl, rfl, rfl, w2⟩ := open_int Tryd.underlying5 (hval 2 5 v2 rfl rfl) h2
  obtain ⟨a3, rfl, rfl, rfl, w3⟩ := open_int Tryd.underlying3 (hval 3 3 v3 rfl rfl) h3
  clear hA0 hval0 hsz0
  refine (HAluSame.pendulumlaw05_AluSame.walk Pure.AluSame a0 a1 a2 a3 W (of_laid hL) w0 w1 w2 w3).mono fun e W' ⟨he, bel⟩ => ?_
  subst he
  exact ⟨_, rfl, _, _, _, [], _, [], hW', trodAll_mk1 (shut_bool Tryd.underlying4 _), (trodAll_cons_mk (shut_int Tryd.underlying5 w0) (trodAll_cons_mk (shut_int Tryd.underlying5 w1) (trodAll_cons_mk (shut_int Tryd.underlying5 w2) (trodAll_cons_mk (shut_int Tryd.underlying3 w3) trodAll_mk0)))), rfl, bel.frame _, fun h => by cases h⟩
theorem over : Rows.aluSameRow.holds Tryd.pinned (OpenSpec.ofChange Rows.aluSameSpec) :=
  OpenClaim.holds_of_wide 4 Tryd.f4 rfl rfl rfl rfl rfl rfl rfl ⟨rfl, rfl, rfl, rfl, rfl⟩ rfl rfl rfl rfl rfl (by kernel_rfl) Tryd.func4 (by kernel_rfl)
    (of_decide_eq_true (by kernel_rfl)) (by unfold Func.isWrapper; first | (rw [if_pos (by decide +kernel)]; kernel_rfl) | (rw [if_neg (by decide +kernel)]; exact ⟨rfl, rfl⟩))
    (fun os started H enc _ => lifted os started H enc)
theorem proved : Rows.AluSameSaid := over
#print axioms proved

open Go in
theorem card_holds : Rows.AluSameCardSaid :=
  Claim7.holds_tied_plain_at .later [] [.funcs] true (true, "1a1ab1b604f713814d3fe9cbff00d9267e4205d967c2c1314fe25e26602522c8") false
    proved (fun _ h => by cases h) (by kernel_rfl) (fun _ h => by cases h) aluSame_row_tie rfl ⟨rfl, rfl⟩ (by kernel_rfl) rfl
    (fun f fn hf hfn => by
      obtain rfl : f = 4 := Option.some.inj ((show Tryd.prog.funcNamed "pendulum/pendulumlaw05.AluSame" = some 4 by kernel_rfl).symm.trans hf) |>.symm
      obtain rfl : fn = Tryd.f4 := (Option.some.inj (Tryd.func4.symm.trans hfn)).symm
      exact ⟨by kernel_rfl, fun j t ht => by
        rw [Tryd.params4] at ht
        have hm : t ∈ [5, 3] := by simpa using Array.mem_of_getElem? ht
        have hall : ([5, 3].all fun u => !Tryd.prog.wantsStandIn u) = true := by kernel_rfl
        exact (show Tryd.prog.wantsStandIn t = false by simpa using List.all_eq_true.1 hall t hm)⟩)
    (by kernel_rfl)
#print axioms card_holds
end Go.Proofs.YtpmmneipfmbmlaaDoor.aluSame
namespace Go.Proofs.YtpmmneipfmbmlaaDoor
/-- The card, under a short name, for the claim. -/
theorem aluSame_card_holds : Rows.AluSameCardSaid := aluSame.card_holds
end Go.Proofs.YtpmmneipfmbmlaaDoor
