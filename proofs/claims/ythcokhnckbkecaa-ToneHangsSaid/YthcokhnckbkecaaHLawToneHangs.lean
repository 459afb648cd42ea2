/- ToneHangs: samples hang on levels and bits alone, and a sample on none behind its time; each second one of half the rate is one of the rate. The row. -/
import Derived.Test.YthcokhnckbkecaaRows
import Derived.Test.YthcokhnckbkecaaHTonex9
import Derived.Test.YthcokhnckbkecaaTHangs
import Derived.WalkKit
import Derived.ProofKit
import Derived.OpenShut
import Derived.ShutString
import Derived.ChangeOld
import Derived.Below
import Derived.SizedLaws
import Derived.Test.YthcokhnckbkecaaWSized
namespace Go.Proofs.Ythcokhnckbkecaa.toneHangs
open Go.ChangeShapes Go.WideShapes Go.ChangeAt Go.RowKit
open Go.ChangeMaps (open_string shut_string)
open Go.Proofs.Ythcokhnckbkecaa.HTone Go.Proofs.YthcokhnckbkecaaW.PrintWords Go.Proofs.YthcokhnckbkecaaW.PrintLast
set_option linter.unusedVariables false
theorem own : ownKnob Try.prog.godebug = none := by kernel_rfl
theorem laidOut : laidOutB Try.prog = true := by kernel_rfl
def IsRow (k : IntKind) (w : World) (a : Option Addr) (len cap : Nat) (zs : List Int) : Prop :=
  (a = none ∧ len = 0 ∧ cap = 0 ∧ zs = []) ∨
  ∃ x, a = some x ∧ len ≤ cap ∧ cap ≤ maxLen ∧ zs.length = cap ∧ (∀ i, i < zs.length → w.cell? (x.add i) = some (.int k (zs.getD i 0))) ∧ ∀ n ∈ zs, (Lit.int k n).wf = true
/-- A history that comes in is a row of events. -/
theorem events {H : Type} {enc : TypeId × Value → H} {W : World} {base : Nat} {sp : Nat → Bool} {held : Bool} {v : Value} {d : DataW H} {ps : List MemPlace} {r : Reach} {b0 : Nat} (hv : Value.okWide Try.prog W r b0 22 v) (hd : DataW.Trod enc Try.prog W base sp held 22 v d ps) :
    ∃ (A : Option Addr) (c : Nat) (l : List S28), v = .slice A l.length c ∧ l.length ≤ c ∧ Kd.C k28 W A l.length l := by
  obtain ⟨A, n, c, rfl⟩ := okWide_slice Try.underlying22 hv
  obtain ⟨fuel, hf⟩ := hd
  have hc28 : Try.prog.cellsOf 28 = 6 := by kernel_rfl
  rcases DataW.trod_slice Try.underlying22 hf with ⟨hcs, _⟩ | ⟨a, len, cap, elems, rest, m, _, hcs, _, hb, hl, hm, hlen, hel, _, _⟩
  · simp [Value.cells] at hcs
    obtain ⟨rfl, rfl, rfl⟩ := hcs
    exact ⟨none, 0, [], rfl, Nat.le_refl _, Kd.C_nil _ _⟩
  · simp [Value.cells] at hcs
    obtain ⟨rfl, rfl, rfl⟩ := hcs
    have each : ∀ i, i < n → ∃ e : S28, ∀ j u, ([.int .i64 e.f0, .int .i64 e.f1, .int .i64 e.f2, .int .i64 e.f3, .int .i64 e.f4, .int .i64 e.f5] : List Value)[j]? = some u → W.cell? (a.add (i * 6 + j)) = some u := by
      intro i hi
      have h := hel i hi
      have hs : elems[i]? = some elems[i] := List.getElem?_eq_getElem (by omega)
      rw [hs, hc28] at h
      obtain ⟨cs, hcs, ht⟩ := Option.bind_eq_some_iff.1 h
      obtain ⟨xs, k, _, _, hl6, hx, hF⟩ := DataW.trod_struct Try.underlying28 ht
      rw [hc28] at hl6
      match cs, hl6, xs, hx with
      | [c0, c1, c2, c3, c4, c5], _, [y0, y1, y2, y3, y4, y5], _ =>
        have g0 := hF 0 _ rfl
        have g1 := hF 1 _ rfl
        have g2 := hF 2 _ rfl
        have g3 := hF 3 _ rfl
        have g4 := hF 4 _ rfl
        have g5 := hF 5 _ rfl
        obtain ⟨n0, e0, _⟩ := DataW.trod_int Try.underlying2 g0
        obtain ⟨n1, e1, _⟩ := DataW.trod_int Try.underlying3 g1
        obtain ⟨n2, e2, _⟩ := DataW.trod_int Try.underlying2 g2
        obtain ⟨n3, e3, _⟩ := DataW.trod_int Try.underlying3 g3
        obtain ⟨n4, e4, _⟩ := DataW.trod_int Try.underlying3 g4
        obtain ⟨n5, e5, _⟩ := DataW.trod_int Try.underlying3 g5
        cases e0; cases e1; cases e2; cases e3; cases e4; cases e5
        obtain ⟨_, _, hcell⟩ := World.cells?_some hcs
        refine ⟨⟨n0, n1, n2, n3, n4, n5⟩, fun j u hu => ?_⟩
        have hj : j < 6 := by have := (List.getElem?_eq_some_iff.1 hu).1; simpa using this
        have := hcell j hj
        rw [Go.Proofs.YthcokhnckbkecaaW.PrintWords.add_add] at this
        exact this.trans hu
    have hlist : ∃ l : List S28, l.length = n ∧ ∀ i (h : i < l.length), ∀ j u, ([.int .i64 l[i].f0, .int .i64 l[i].f1, .int .i64 l[i].f2, .int .i64 l[i].f3, .int .i64 l[i].f4, .int .i64 l[i].f5] : List Value)[j]? = some u → W.cell? (a.add (i * 6 + j)) = some u := by
      refine ⟨(List.range n).map fun i => if h : i < n then Classical.choose (each i h) else z28, by simp, fun i h => ?_⟩
      have hi : i < n := by simpa using h
      have := Classical.choose_spec (each i hi)
      simpa [hi] using this
    obtain ⟨l, rfl, hl2⟩ := hlist
    refine ⟨some a, c, l, rfl, hl, rfl, by have := hm; simp only [maxLen] at this; omega, fun _ => ⟨a, rfl, fun j p hp => ?_⟩⟩
    obtain ⟨hj, rfl⟩ := List.getElem?_eq_some_iff.1 hp
    exact ⟨_, rfl, k28_mk W l[j], hl2 j hj⟩
theorem walk (W : World) (A0 : Option Addr) (c0 : Nat) (l0 : List S28) (hr0 : Kd.C k28 W A0 l0.length l0) (hc0 : l0.length ≤ c0) (a1 : Int) (w1 : (Lit.int .i64 a1).wf = true) (a2 : Int) (w2 : (Lit.int .i64 a2).wf = true) (a3 : Int) (w3 : (Lit.int .i64 a3).wf = true) :
    Calls Try.prog 3 #[.slice A0 l0.length c0, .int .i64 a1, .int .i64 a2, .int .i64 a3] W fun e w' => e = .returned (.bool true) ∧ Below W.heap.size W w' := by
  skip
  have h := TSpec.hangs l0 a1 a2 a3 20000 (Nat.le_refl _)
  exact HTone.pendulumlaw31_ToneHangs.calls _ A0 c0 l0 a1 a2 a3 true W hr0 hc0 h
set_option maxRecDepth 100000 in
theorem lifted (os : Os) (started : os.Started) (H : Type) (enc : TypeId × Value → H) :
    ReturnsInHanded {} Try.checked os 3 .any (Rows.toneHangsSpec.pre6 enc Try.prog Try.f3 Rows.toneHangsRow.domain false) (Rows.toneHangsSpec.post enc Try.prog Try.f3 false true false false) := by
  refine returnsInHanded_of_change_sized (C := Try.checked) own started (by kernel_rfl) Try.func3
    (ChangeSpec.witness6 (enc := enc) (C := Try.checked) false ⟨#[], #[.slice none 0 0, .int .i64 0, .int .i64 0, .int .i64 0], []⟩ 8 (by kernel_rfl) (by kernel_rfl) (by kernel_rfl) (by kernel_rfl)) ?_
  intro W base args ds gs before hval0 hW hcnd hsz0 _
  have hsz : (DataW.weightsEach Try.prog (Try.f3.params.toList ++ Rows.toneHangsSpec.plain.varTypes Try.prog) (ds ++ gs)).all (· ≤ reachBytes) = true := hsz0
  have hval : ∀ (j : Nat) t v, Try.f3.params[j]? = some t → args[j]? = some v → Value.okWide Try.prog W .any base t v := hval0
  have hW' := hW
  obtain ⟨p, q, hA0, hV, rfl, hfz, hnd⟩ := hW
  have hA : DataW.TrodAll enc Try.prog W 0 (fun _ => true) true Try.f3.params.toList args.toList ds p := hA0
  rw [Try.params3] at hA hval hsz
  obtain ⟨v0, vs0, d0, ds0, p0, q0, hargs, rfl, rfl, h0, r0⟩ := trodAll_cons hA
  obtain ⟨v1, vs1, d1, ds1, p1, q1, rfl, rfl, rfl, h1, r1⟩ := trodAll_cons r0
  obtain ⟨v2, vs2, d2, ds2, p2, q2, rfl, rfl, rfl, h2, r2⟩ := trodAll_cons r1
  obtain ⟨v3, vs3, d3, ds3, p3, q3, rfl, rfl, rfl, h3, r3⟩ := trodAll_cons r2
  obtain ⟨rfl, rfl, rfl⟩ := trodAll_nil r3
  obtain rfl : args = #[v0, v1, v2, v3] := by cases args; simp_all
  obtain ⟨rfl, rfl⟩ := trodVars_none hV
  have lt0 : ∀ x ∈ p0, x.block < W.heap.size := by obtain ⟨m, hm⟩ := h0; exact DataW.trod_lt m _ _ _ hm
  obtain ⟨A0, c0, l0, rfl, hc0, hr0⟩ := events (hval 0 22 v0 rfl rfl) h0
  obtain ⟨a1, rfl, rfl, rfl, w1⟩ := open_int Try.underlying2 (hval 1 2 v1 rfl rfl) h1
  obtain ⟨a2, rfl, rfl, rfl, w2⟩ := open_int Try.underlying2 (hval 2 2 v2 rfl rfl) h2
  obtain ⟨a3, rfl, rfl, rfl, w3⟩ := open_int Try.underlying2 (hval 3 2 v3 rfl rfl) h3
  clear hA0 hval0 hsz0 hsz
  refine (walk W A0 c0 l0 hr0 hc0 a1 w1 a2 w2 a3 w3).mono fun e W' ⟨he, bel⟩ => ?_
  subst he
  exact ⟨_, rfl, _, _, _, [], _, [], hW', trodAll_mk1 (shut_bool Try.underlying4 _), (trodAll_cons_mk (Below.trod laidOut (by kernel_rfl) (of_decide_eq_true (by kernel_rfl)) h0 bel lt0) (trodAll_cons_mk (shut_int Try.underlying2 w1) (trodAll_cons_mk (shut_int Try.underlying2 w2) (trodAll_cons_mk (shut_int Try.underlying2 w3) trodAll_mk0)))), rfl, bel.frame _, fun h => by cases h⟩
theorem over : Rows.toneHangsRow.holds Try.pinned (OpenSpec.ofChange Rows.toneHangsSpec) :=
  OpenClaim.holds_of_wide 3 Try.f3 rfl rfl rfl rfl rfl rfl rfl ⟨rfl, rfl, rfl, rfl, rfl⟩ rfl rfl rfl rfl rfl (by kernel_rfl) Try.func3 (by kernel_rfl)
    (of_decide_eq_true (by kernel_rfl)) (by unfold Func.isWrapper; first | (rw [if_pos (by decide +kernel)]; kernel_rfl) | (rw [if_neg (by decide +kernel)]; exact ⟨rfl, rfl⟩))
    (fun os started H enc _ => lifted os started H enc)
theorem proved : Rows.ToneHangsSaid := over
#print axioms proved
end Go.Proofs.Ythcokhnckbkecaa.toneHangs
namespace Go.Proofs.Ythcokhnckbkecaa
/-- The row, under a short name, for the claim. -/
theorem toneHangs_holds : Rows.ToneHangsSaid := toneHangs.proved
end Go.Proofs.Ythcokhnckbkecaa
