/-
  PROVED: what the row of package step is in memory (a Lean record, thirty cells), what storing into it makes of it, and the contracts of request, Refresh, Check.
-/
import Derived.WalkLawsBesides
import Derived.Deep.MidRow
import Derived.StillTailTactics
import Derived.Recover
import Derived.Deep.DeepMust
import Derived.Test.YtnelghpendfdmaaGreatDoorKSch
namespace Go.Proofs.YtnelghpendfdmaaGreatDoor.KRow
set_option maxRecDepth 100000
set_option maxHeartbeats 16000000
open Go Go.RowKit Go.Proofs.YtnelghpendfdmaaGreatDoorW.PrintWords Go.Proofs.YtnelghpendfdmaaGreatDoorW.PrintLast Go.Proofs.YtnelghpendfdmaaGreatDoorW.PrintMore
set_option linter.unusedVariables false
set_option linter.unusedSimpArgs false

structure Rg where
  a : Int
  f : Int
  b : Int
  c : Int
  d : Int
  e : Int
  h : Int
  l : Int
  i : Int
  r : Int
  ix : Int
  iy : Int
  sp : Int
  pc : Int
  wz : Int
  af : Int
  bc : Int
  de : Int
  hl : Int
  ff1 : Bool
  ff2 : Bool
  im : Int
  halt : Bool
  late : Bool
deriving DecidableEq
structure Rw extends Rg where
  peek : Int
  x : Int
  disp : Bool
  adr : Int
def Rg.vals (ρ : Rg) : Array Value := #[.int .u8 ρ.a, .int .u8 ρ.f, .int .u8 ρ.b, .int .u8 ρ.c, .int .u8 ρ.d, .int .u8 ρ.e, .int .u8 ρ.h, .int .u8 ρ.l, .int .u8 ρ.i, .int .u8 ρ.r, .int .u16 ρ.ix, .int .u16 ρ.iy, .int .u16 ρ.sp, .int .u16 ρ.pc, .int .u16 ρ.wz, .int .u16 ρ.af, .int .u16 ρ.bc, .int .u16 ρ.de, .int .u16 ρ.hl, .bool ρ.ff1, .bool ρ.ff2, .int .i64 ρ.im, .bool ρ.halt, .bool ρ.late]
def Rw.tail (ρ : Rw) (A : Option Addr) (gl : List Int) (cp n : Nat) : List Value := [.slice A gl.length cp, .int .i64 (n : Int), .int .u8 ρ.peek, .int .i64 ρ.x, .bool ρ.disp, .int .u16 ρ.adr]
def Rw.cells (ρ : Rw) (A : Option Addr) (gl : List Int) (cp n : Nat) : List Value := [.int .u8 ρ.a, .int .u8 ρ.f, .int .u8 ρ.b, .int .u8 ρ.c, .int .u8 ρ.d, .int .u8 ρ.e, .int .u8 ρ.h, .int .u8 ρ.l, .int .u8 ρ.i, .int .u8 ρ.r, .int .u16 ρ.ix, .int .u16 ρ.iy, .int .u16 ρ.sp, .int .u16 ρ.pc, .int .u16 ρ.wz, .int .u16 ρ.af, .int .u16 ρ.bc, .int .u16 ρ.de, .int .u16 ρ.hl, .bool ρ.ff1, .bool ρ.ff2, .int .i64 ρ.im, .bool ρ.halt, .bool ρ.late, .slice A gl.length cp, .int .i64 (n : Int), .int .u8 ρ.peek, .int .i64 ρ.x, .bool ρ.disp, .int .u16 ρ.adr]
def Rw.regs (ρ : Rw) (r : Rg) : Rw := { ρ with toRg := r }
theorem info24 : (Tryz.prog.info? 24).map (·.size) = some 24 := by kernel_rfl
theorem zcb (r : Rg) : r.vals.all (·.oneCell') = true := by
  unfold Rg.vals
  simp [Value.oneCell']

/-- All but block g is as it was; the streams too. -/
structure Kp (g : Nat) (w W : World) : Prop where
  os : W.os = w.os
  tape : W.tape = w.tape
  output : W.output = w.output
  size : w.heap.size ≤ W.heap.size
  block : ∀ k, k < w.heap.size → k ≠ g → W.heap[k]? = w.heap[k]?
section
variable {g : Nat} {w W V : World}
theorem Kp.refl (g : Nat) (w : World) : Kp g w w := ⟨rfl, rfl, rfl, Nat.le_refl _, fun _ _ _ => rfl⟩
theorem Kp.trans (h : Kp g w W) (k : Kp g W V) : Kp g w V := ⟨k.os.trans h.os, k.tape.trans h.tape, k.output.trans h.output, Nat.le_trans h.size k.size, fun i hi hn => (k.block i (Nat.lt_of_lt_of_le hi h.size) hn).trans (h.block i hi hn)⟩
theorem Kp.of_below (h : Below w.heap.size w W) : Kp g w W := ⟨h.os, h.tape, h.output, h.size, fun k hk _ => h.block k hk⟩
theorem Kp.andBelow (h : Kp g w W) (k : Below W.heap.size W V) : Kp g w V := h.trans (Kp.of_below k)
theorem Kp.below {B : Nat} (h : Kp g w W) (hB : B ≤ w.heap.size) (hg : B ≤ g) : Below B w W := ⟨h.os, h.tape, h.output, h.size, fun k hk => h.block k (Nat.lt_of_lt_of_le hk hB) (by omega)⟩
theorem Kp.drewN (h : Kp g w W) (m : Nat) : Kp g w (W.drewN m) := h.andBelow (pw_below_drewN (Below.refl _ _) m)
theorem Kp.alloc (h : Kp g w W) (o : Obj) : Kp g w (W.alloc o) := h.andBelow (below_alloc (Below.refl _ _) o)
theorem Kp.setCell (h : Kp g w W) (k : Nat) (u : Value) : Kp g w (W.setCell ⟨g, k, none⟩ u) := h.trans ⟨rfl, rfl, rfl, by simp [World.setCell], fun i _ hn => Below.heap_setCell W ⟨g, k, none⟩ u i hn⟩
theorem Kp.setCells (o : Nat) (vs : List Value) : ∀ (W : World) (h : Kp g w W), Kp g w (W.setCells g o vs) := by
  induction vs generalizing o with
  | nil => exact fun W h => h
  | cons v r ih => exact fun W h => ih (o + 1) _ (h.setCell o v)
end

/-- The table of operators lies as the program's text lays it. -/
def doesF : List Nat := [179, 180, 181, 182, 183, 185, 187, 189]
structure Table (w : World) : Prop where out : ∀ i f, doesF[i]? = some f → w.cell? ⟨0, i, none⟩ = some (.func (.func f) #[] #[])
theorem Table.same {w W : World} (h : Table w) (hb : W.heap[0]? = w.heap[0]?) : Table W := ⟨fun i f hf => (World.cell?_of_block (w := w) (a := ⟨0, i, none⟩) hb).trans (h.out i f hf)⟩
theorem Table.lt {w : World} (h : Table w) : 0 < w.heap.size := World.block_lt_of_cell? w _ (h.out 0 179 rfl)
theorem Table.below {w W : World} {B : Nat} (h : Table w) (hb : Below B w W) (hB : 0 < B) : Table W := h.same (hb.block 0 hB)
theorem Table.kp {w W : World} {g : Nat} (h : Table w) (hk : Kp g w W) (hg : g ≠ 0) : Table W := h.same (hk.block 0 h.lt (Ne.symm hg))
structure RowAt (W : World) (g : Nat) (A : Option Addr) (gl : List Int) (cp n : Nat) (ρ : Rw) : Prop where
  cell : ∀ k v, (ρ.cells A gl cp n)[k]? = some v → W.cell? ⟨g, k, none⟩ = some v
  frz : ∀ k, W.frozen? ⟨g, k, none⟩ = false
  got : ∀ W', Kp g W W' → Kd.C (Kd.int .u8) W' A gl.length gl
  cap : gl.length ≤ cp
  rng : ∀ x ∈ gl, 0 ≤ x ∧ x < 256
  tab : Table W
  g0 : g ≠ 0
section
variable {W W' : World} {g : Nat} {A : Option Addr} {gl : List Int} {cp n : Nat} {ρ : Rw}
theorem RowAt.lt (h : RowAt W g A gl cp n ρ) : g < W.heap.size := World.block_lt_of_cell? W _ (h.cell 0 _ rfl)
theorem RowAt.under (h : RowAt W g A gl cp n ρ) (hk : Below W.heap.size W W') : RowAt W' g A gl cp n ρ := by
  have hb := hk.block g h.lt
  refine ⟨fun k v hv => (World.cell?_of_block (w := W) (a := ⟨g, k, none⟩) hb).trans (h.cell k v hv), fun k => ?_, fun V hV => h.got V ((Kp.of_below hk).trans hV), h.cap, h.rng, h.tab.below hk h.tab.lt, h.g0⟩
  have := h.frz k
  rw [World.frozen?_of_block (w := W) (a := ⟨g, k, none⟩) hb]
  exact this
theorem RowAt.drewN (h : RowAt W g A gl cp n ρ) (m : Nat) : RowAt (W.drewN m) g A gl cp n ρ := h.under (pw_below_drewN (Below.refl _ _) m)
theorem RowAt.set (h : RowAt W g A gl cp n ρ) (k0 : Nat) (v0 : Value) (ρ' : Rw) (n' : Nat) (hv : ρ'.cells A gl cp n' = (ρ.cells A gl cp n).set k0 v0) (hlt : k0 < 30) : RowAt (W.setCell ⟨g, k0, none⟩ v0) g A gl cp n' ρ' := by
  obtain ⟨old, hold⟩ : ∃ u, (ρ.cells A gl cp n)[k0]? = some u := ⟨_, List.getElem?_eq_getElem (by simpa [Rw.cells] using hlt)⟩
  refine ⟨fun k v hk => ?_, fun k => (World.frozen?_setCell _ _ _ _).trans (h.frz k), fun V hV => h.got V (((Kp.refl g W).setCell k0 v0).trans hV), h.cap, h.rng, h.tab.kp ((Kp.refl g W).setCell k0 v0) h.g0, h.g0⟩
  rw [hv, List.getElem?_set] at hk
  by_cases e : k0 = k
  · subst e
    simp only [if_true] at hk
    split at hk
    · cases hk
      exact World.cell?_setCell_same W _ _ (h.cell k0 _ hold)
    · cases hk
  · rw [if_neg e] at hk
    exact (World.cell?_setCell_other W _ _ _ (by simp [e])).trans (h.cell k v hk)
theorem RowAt.range (h : RowAt W g A gl cp n ρ) : W.rangeAt g 0 ρ.vals.toList := fun j v hj => by
  refine h.cell (0 + j) v ?_
  have hs : j < 24 := (List.getElem?_eq_some_iff.1 hj).1
  rw [Nat.zero_add, ← hj]
  exact List.getElem?_append_left (l₁ := ρ.vals.toList) (l₂ := ρ.tail A gl cp n) hs
theorem RowAt.there (h : RowAt W g A gl cp n ρ) : W.there g 0 24 := fun j hj => by
  obtain ⟨old, hold⟩ : ∃ u, (ρ.cells A gl cp n)[0 + j]? = some u := ⟨_, List.getElem?_eq_getElem (by simp [Rw.cells]; omega)⟩
  exact ⟨by rw [h.cell _ _ hold]; rfl, h.frz _⟩
theorem RowAt.setRegs (h : RowAt W g A gl cp n ρ) (r : Rg) : RowAt (W.setCells g 0 r.vals.toList) g A gl cp n (ρ.regs r) := by
  have hsz : r.vals.toList.length = 24 := rfl
  refine ⟨fun k v hk => ?_, fun k => (World.frozen?_setCells _ _ _ _ _).trans (h.frz k), fun V hV => h.got V ((Kp.setCells 0 _ W (Kp.refl g W)).trans hV), h.cap, h.rng, h.tab.kp (Kp.setCells 0 _ W (Kp.refl g W)) h.g0, h.g0⟩
  by_cases hlt : k < 24
  · have h1 := World.rangeAt_setCells_same W g 0 r.vals.toList h.there k v
    rw [Nat.zero_add] at h1
    refine h1 ?_
    rw [← hk]
    exact (List.getElem?_append_left (l₁ := r.vals.toList) (l₂ := ρ.tail A gl cp n) hlt).symm
  · rw [World.cell?_setCells_out g r.vals.toList 0 W ⟨g, k, none⟩ (fun _ _ => by right; show 0 + r.vals.toList.length ≤ k; omega)]
    refine h.cell k v ?_
    rw [← hk]
    exact (List.getElem?_append_right (l₁ := ρ.vals.toList) (l₂ := ρ.tail A gl cp n) (by show 24 ≤ k; omega)).trans (List.getElem?_append_right (l₁ := r.vals.toList) (l₂ := ρ.tail A gl cp n) (by show 24 ≤ k; omega)).symm
/-- The walk's step at a load of the registers out of the row. -/
theorem zay {ops : Array Oper} {rest : List Oper} {op : Oper} {a : Act} {Q : Exit → Act → World → Prop} (h : RowAt W g A gl cp n ρ) (hgd : op.guard = none) (x : Operand) (ho : op.op = .load 24 x)
    (hx : a.eval x = .pointer (some ⟨g, 0, none⟩)) (k : wpList Tryz.prog ops Q rest (a.put op.dst (.agg ρ.vals)) W) : wpList Tryz.prog ops Q (op :: rest) a W :=
  wpList_load_mid hgd 24 x ho g 0 hx ρ.vals.toList _ h.range Tryz.underlying24 rfl info24 k
/-- .. and at a store of registers into it: behind it the world is one of which the row and what is kept are known. -/
theorem zaz {ops : Array Oper} {rest : List Oper} {op : Oper} {a : Act} {Q : Exit → Act → World → Prop} (h : RowAt W g A gl cp n ρ) (hgd : op.guard = none) (x y : Operand) (ho : op.op = .store 24 x y)
    (r : Rg) (hx : a.eval x = .pointer (some ⟨g, 0, none⟩)) (hy : a.eval y = .agg r.vals)
    (k : ∀ V, Kp g W V → RowAt V g A gl cp n (ρ.regs r) → wpList Tryz.prog ops Q rest (a.put op.dst undef) V) : wpList Tryz.prog ops Q (op :: rest) a W :=
  wpList_store_mid hgd 24 x y ho g 0 r.vals hx hy h.there info24 (zcb r) (k _ (Kp.setCells 0 _ W (Kp.refl g W)) (h.setRegs r))
/-- .. at a store into one of the row's cells. -/
def Rw.put (ρ : Rw) : Nat → Value → Rw
  | 0, .int .u8 v => { ρ with a := v }
  | 1, .int .u8 v => { ρ with f := v }
  | 2, .int .u8 v => { ρ with b := v }
  | 3, .int .u8 v => { ρ with c := v }
  | 4, .int .u8 v => { ρ with d := v }
  | 5, .int .u8 v => { ρ with e := v }
  | 6, .int .u8 v => { ρ with h := v }
  | 7, .int .u8 v => { ρ with l := v }
  | 8, .int .u8 v => { ρ with i := v }
  | 9, .int .u8 v => { ρ with r := v }
  | 10, .int .u16 v => { ρ with ix := v }
  | 11, .int .u16 v => { ρ with iy := v }
  | 12, .int .u16 v => { ρ with sp := v }
  | 13, .int .u16 v => { ρ with pc := v }
  | 14, .int .u16 v => { ρ with wz := v }
  | 15, .int .u16 v => { ρ with af := v }
  | 16, .int .u16 v => { ρ with bc := v }
  | 17, .int .u16 v => { ρ with de := v }
  | 18, .int .u16 v => { ρ with hl := v }
  | 19, .bool v => { ρ with ff1 := v }
  | 20, .bool v => { ρ with ff2 := v }
  | 21, .int .i64 v => { ρ with im := v }
  | 22, .bool v => { ρ with halt := v }
  | 23, .bool v => { ρ with late := v }
  | 26, .int .u8 v => { ρ with peek := v }
  | 27, .int .i64 v => { ρ with x := v }
  | 28, .bool v => { ρ with disp := v }
  | 29, .int .u16 v => { ρ with adr := v }
  | _, _ => ρ
theorem zbf {ty : TypeId} (hi : (Tryz.prog.info? ty).map (·.size) = some 1) (v : Value) (k0 : Nat) (hvc : v.cells = #[v]) (h1 : v.oneCell' = true) (hc : (W.cell? ⟨g, k0, none⟩).isSome = true) (hf : W.frozen? ⟨g, k0, none⟩ = false) :
    (storeVar ty ⟨g, k0, none⟩ v).run Tryz.prog W = .ok () (W.setCell ⟨g, k0, none⟩ v) := by
  have hall : ∀ u ∈ [v], u.oneCell' = true := fun u hu => by
    have : u = v := by simpa using hu
    subst this
    exact h1
  have := run_storeCells_cells (P := Tryz.prog) g k0 [v] 0 W (fun j hj => by have : j = 0 := by simpa using hj
                                                                             subst this; exact hc) (fun j hj => by have : j = 0 := by simpa using hj
                                                                                                                   subst this; exact hf) hall
  cases hq : Tryz.prog.info? ty with
  | none => simp [hq] at hi
  | some i =>
    have hs : i.size = 1 := by simpa [hq] using hi
    simp only [Nat.add_zero] at this
    simp [storeVar, sizeOf, typeInfo, hq, hvc, hs, this, World.setCells]
theorem zbu {ops : Array Oper} {rest : List Oper} {op : Oper} {a : Act} {Q : Exit → Act → World → Prop} (h : RowAt W g A gl cp n ρ) (hgd : op.guard = none) (ty : TypeId) (x y : Operand) (ho : op.op = .store ty x y)
    (k0 : Nat) (v : Value) (hx : a.eval x = .pointer (some ⟨g, k0, none⟩)) (hy : a.eval y = v) (hi : (Tryz.prog.info? ty).map (·.size) = some 1) (hvc : v.cells = #[v]) (h1 : v.oneCell' = true) (hv : (ρ.put k0 v).cells A gl cp n = (ρ.cells A gl cp n).set k0 v) (hlt : k0 < 30)
    (k : ∀ V, Kp g W V → RowAt V g A gl cp n (ρ.put k0 v) → wpList Tryz.prog ops Q rest (a.put op.dst undef) V) : wpList Tryz.prog ops Q (op :: rest) a W := by
  refine wpList_plain hgd fun _ hK => ?_
  obtain ⟨old, hold⟩ : ∃ u, (ρ.cells A gl cp n)[k0]? = some u := ⟨_, List.getElem?_eq_getElem (by simpa [Rw.cells] using hlt)⟩
  have hrun := zbf (W := W) (g := g) hi v k0 hvc h1 (by rw [h.cell _ _ hold]; rfl) (h.frz _)
  unfold Oper.wp execOp
  simp only [ho, hx, hy, Instr.storeAt, Instr.sureAddr, Sem.run_bind, Sem.run_pure, Result.andThen_ok, hrun]
  exact hK _ _ (k _ ((Kp.refl g W).setCell k0 v) (h.set k0 v _ n hv hlt))
theorem infoU8 : (Tryz.prog.info? 5).map (·.size) = some 1 := by kernel_rfl
theorem zas {ops : Array Oper} {rest : List Oper} {op : Oper} {a : Act} {Q : Exit → Act → World → Prop} (h : RowAt W g A gl cp n ρ) (hgd : op.guard = none) (x y : Operand) (ho : op.op = .store 5 x y)
    (k0 : Nat) (v : Int) (hx : a.eval x = .pointer (some ⟨g, k0, none⟩)) (hy : a.eval y = .int .u8 v) (hv : (ρ.put k0 (.int .u8 v)).cells A gl cp n = (ρ.cells A gl cp n).set k0 (.int .u8 v)) (hlt : k0 < 30)
    (k : ∀ V, Kp g W V → RowAt V g A gl cp n (ρ.put k0 (.int .u8 v)) → wpList Tryz.prog ops Q rest (a.put op.dst undef) V) : wpList Tryz.prog ops Q (op :: rest) a W :=
  zbu h hgd 5 x y ho k0 _ hx hy (by kernel_rfl) rfl rfl hv hlt k
theorem zae {ops : Array Oper} {rest : List Oper} {op : Oper} {a : Act} {Q : Exit → Act → World → Prop} (h : RowAt W g A gl cp n ρ) (hgd : op.guard = none) (x y : Operand) (ho : op.op = .store 22 x y)
    (k0 : Nat) (v : Int) (hx : a.eval x = .pointer (some ⟨g, k0, none⟩)) (hy : a.eval y = .int .u16 v) (hv : (ρ.put k0 (.int .u16 v)).cells A gl cp n = (ρ.cells A gl cp n).set k0 (.int .u16 v)) (hlt : k0 < 30)
    (k : ∀ V, Kp g W V → RowAt V g A gl cp n (ρ.put k0 (.int .u16 v)) → wpList Tryz.prog ops Q rest (a.put op.dst undef) V) : wpList Tryz.prog ops Q (op :: rest) a W :=
  zbu h hgd 22 x y ho k0 _ hx hy (by kernel_rfl) rfl rfl hv hlt k
theorem wpList_store_int {ops : Array Oper} {rest : List Oper} {op : Oper} {a : Act} {Q : Exit → Act → World → Prop} (h : RowAt W g A gl cp n ρ) (hgd : op.guard = none) (x y : Operand) (ho : op.op = .store 3 x y)
    (k0 : Nat) (v : Int) (hx : a.eval x = .pointer (some ⟨g, k0, none⟩)) (hy : a.eval y = .int .i64 v) (hv : (ρ.put k0 (.int .i64 v)).cells A gl cp n = (ρ.cells A gl cp n).set k0 (.int .i64 v)) (hlt : k0 < 30)
    (k : ∀ V, Kp g W V → RowAt V g A gl cp n (ρ.put k0 (.int .i64 v)) → wpList Tryz.prog ops Q rest (a.put op.dst undef) V) : wpList Tryz.prog ops Q (op :: rest) a W :=
  zbu h hgd 3 x y ho k0 _ hx hy (by kernel_rfl) rfl rfl hv hlt k
theorem zbl {ops : Array Oper} {rest : List Oper} {op : Oper} {a : Act} {Q : Exit → Act → World → Prop} (h : RowAt W g A gl cp n ρ) (hgd : op.guard = none) (x y : Operand) (ho : op.op = .store 4 x y)
    (k0 : Nat) (v : Bool) (hx : a.eval x = .pointer (some ⟨g, k0, none⟩)) (hy : a.eval y = .bool v) (hv : (ρ.put k0 (.bool v)).cells A gl cp n = (ρ.cells A gl cp n).set k0 (.bool v)) (hlt : k0 < 30)
    (k : ∀ V, Kp g W V → RowAt V g A gl cp n (ρ.put k0 (.bool v)) → wpList Tryz.prog ops Q rest (a.put op.dst undef) V) : wpList Tryz.prog ops Q (op :: rest) a W :=
  zbu h hgd 4 x y ho k0 _ hx hy (by kernel_rfl) rfl rfl hv hlt k
theorem gate_store (ty : TypeId) {P : Program} {ops : Array Oper} {Q : Exit → Act → World → Prop} {rest : List Oper} {d x y t p af gd a} (h : wpList P ops Q ({ dst := d, op := .store ty x y, type := t, pos := p, after := af, guard := gd } :: rest) a W) : wpList P ops Q ({ dst := d, op := .store ty x y, type := t, pos := p, after := af, guard := gd } :: rest) a W := h
theorem gate_load (ty : TypeId) {P : Program} {ops : Array Oper} {Q : Exit → Act → World → Prop} {rest : List Oper} {d x t p af gd a} (h : wpList P ops Q ({ dst := d, op := .load ty x, type := t, pos := p, after := af, guard := gd } :: rest) a W) : wpList P ops Q ({ dst := d, op := .load ty x, type := t, pos := p, after := af, guard := gd } :: rest) a W := h
end

def reqV (k a v t : Int) : Value := .iface 102 (.agg #[.int .i64 k, .int .u16 a, .int .u8 v, .int .i64 t])
inductive Tr (α : Type) where
  | ret (v : α) (ρ : Rw)
  | ask (k a v t : Int) (f : Int → Tr α)
def Tr.bind {α β : Type} (t : Tr α) (F : α → Rw → Tr β) : Tr β := match t with
  | .ret v ρ => F v ρ
  | .ask k a v t f => .ask k a v t fun x => (f x).bind F
inductive Res (α : Type) where
  | ok (v : α) (ρ : Rw) (n : Nat)
  | ask (k a v t : Int)
def Tr.run {α : Type} (gl : List Int) (t : Tr α) (n : Nat) : Res α := match t with
  | .ret v ρ => .ok v ρ n
  | .ask k a v t f => if n < gl.length then (f (rd gl n)).run gl (n + 1) else .ask k a v t
theorem Tr.run_ok {α β : Type} {gl : List Int} {t : Tr α} {F : α → Rw → Tr β} {n n' : Nat} {v : α} {ρ : Rw} (h : t.run gl n = .ok v ρ n') : (t.bind F).run gl n = (F v ρ).run gl n' := by
  induction t generalizing n with
  | ret v ρ => simp only [Tr.run, Res.ok.injEq] at h; obtain ⟨rfl, rfl, rfl⟩ := h; rfl
  | ask k a v t f ih =>
    simp only [Tr.bind, Tr.run] at h ⊢
    by_cases hl : n < gl.length
    · rw [if_pos hl] at h ⊢; exact ih _ h
    · rw [if_neg hl] at h; cases h
theorem Tr.run_ask {α β : Type} {gl : List Int} {t : Tr α} {F : α → Rw → Tr β} {n : Nat} {k a v x : Int} (h : t.run gl n = .ask k a v x) : (t.bind F).run gl n = .ask k a v x := by
  induction t generalizing n with
  | ret v ρ => simp only [Tr.run] at h; cases h
  | ask k a v t f ih =>
    simp only [Tr.bind, Tr.run] at h ⊢
    by_cases hl : n < gl.length
    · rw [if_pos hl] at h ⊢; exact ih _ h
    · rw [if_neg hl] at h ⊢; simpa using h
theorem Tr.bind_ret {α : Type} (t : Tr α) : t.bind (fun v ρ => .ret v ρ) = t := by
  induction t with
  | ret v ρ => rfl
  | ask k a v t f ih => simp only [Tr.bind, ih]
def Post {α : Type} (W : World) (g : Nat) (A : Option Addr) (gl : List Int) (cp : Nat) (enc : α → Value) (o : Res α) (e : Ending) (W' : World) : Prop :=
  Kp g W W' ∧ match o with
    | .ok v ρ' n' => e = .returned (enc v) ∧ RowAt W' g A gl cp n' ρ'
    | .ask k a v t => e = .panicked [{ v := reqV k a v t, recovered := false }]
theorem Post.cps {α : Type} {f : FuncId} {args : Array Value} {W : World} {g : Nat} {A : Option Addr} {gl : List Int} {cp : Nat} {enc : α → Value} {o : Res α} {R : Ending → World → Prop} (hc : Calls Tryz.prog f args W (Post W g A gl cp enc o))
    (hok : ∀ v ρ' n' V, o = .ok v ρ' n' → Kp g W V → RowAt V g A gl cp n' ρ' → R (.returned (enc v)) V)
    (hask : ∀ k a v t V, o = .ask k a v t → Kp g W V → R (.panicked [{ v := reqV k a v t, recovered := false }]) V) : Calls Tryz.prog f args W R := by
  refine hc.mono ?_
  rintro e V ⟨hk, hr⟩
  cases o with
  | ok v ρ' n' => obtain ⟨rfl, hR⟩ := hr; exact hok v ρ' n' V rfl hk hR
  | ask k a v t => cases hr; exact hask k a v t V rfl hk
theorem Post.cpsA {α : Type} {f : FuncId} {args : Array Value} {W : World} {g : Nat} {A : Option Addr} {gl : List Int} {cp : Nat} {enc : α → Value} {o : Res α} {R : Ending → World → Prop} (hc : Calls Tryz.prog f args W (Post W g A gl cp enc o))
    (hask : ∀ k a v t V, o = .ask k a v t → Kp g W V → R (.panicked [{ v := reqV k a v t, recovered := false }]) V)
    (hok : ∀ v ρ' n' V, o = .ok v ρ' n' → Kp g W V → RowAt V g A gl cp n' ρ' → R (.returned (enc v)) V) : Calls Tryz.prog f args W R := Post.cps hc hok hask
theorem Post.done {α : Type} {W V : World} {g : Nat} {A : Option Addr} {gl : List Int} {cp n' : Nat} {enc : α → Value} {o : Res α} {v : α} {ρ' : Rw} (he : o = .ok v ρ' n') (hk : Kp g W V) (hr : RowAt V g A gl cp n' ρ') : Post W g A gl cp enc o (.returned (enc v)) V := by
  subst he
  exact ⟨hk, rfl, hr⟩
theorem Post.asks {α : Type} {W V : World} {g : Nat} {A : Option Addr} {gl : List Int} {cp : Nat} {enc : α → Value} {o : Res α} {k a v t : Int} (he : o = .ask k a v t) (hk : Kp g W V) : Post W g A gl cp enc o (.panicked [{ v := reqV k a v t, recovered := false }]) V := by
  subst he
  exact ⟨hk, rfl⟩

def Rw.req (ρ : Rw) (k a v t : Int) : Tr Int := .ask k a v t fun x => .ret x ρ
theorem request {W : World} {g : Nat} {A : Option Addr} {gl : List Int} {cp n : Nat} {ρ : Rw} (h : RowAt W g A gl cp n ρ) (k a v t : Int) :
    Calls Tryz.prog 79 #[.pointer (some ⟨g, 0, none⟩), .int .i64 k, .int .u16 a, .int .u8 v, .int .i64 t] W (Post W g A gl cp (.int .u8) ((ρ.req k a v t).run gl n)) := by
  have h25 := h.cell 25 _ rfl
  have h24 := h.cell 24 _ rfl
  have hf25 := h.frz 25
  have hC := h.got W (Kp.refl _ _)
  have hmax := Kd.C_max hC
  unfold Rw.req
  simp only [Tr.run]
  obtain ⟨m, hm⟩ : ∃ m : Int, m = (n : Int) := ⟨_, rfl⟩
  have hn : 0 ≤ m := by omega
  have hif : (n < gl.length) = (m < gl.length) := by rw [hm]; simp
  simp only [hif]
  rw [← hm] at h25 ⊢
  replace hm := Aside0.mk hm
  clear hif
  by_cases hl : m < gl.length
  · rw [if_pos hl]
    have hlb : decide ((gl.length : Int) ≤ m) = false := decide_eq_false (by omega)
    obtain ⟨ad, rfl, hb⟩ := Kd.at_int hC m hn (by omega)
    have hb2 : ∀ k u, ((W.drewN k).setCell ⟨g, 25, none⟩ u).cell? (ad.add m.toNat) = some (.int .u8 (rd gl m)) := fun k u => by
      obtain ⟨ad', he, hb'⟩ := Kd.at_int (h.got ((W.drewN k).setCell ⟨g, 25, none⟩ u) (((Kp.refl g W).drewN k).setCell 25 u)) m hn (by omega)
      cases he
      exact hb'
    replace h := Aside0.mk h
    replace hC := Aside0.mk hC
    go_enter Tryz.func79, Tryz.ntmps79
    go_wp2
    repeat (go_quiet (fail); try go_wp2)
    go_ret
    have h := h.out
    have hm := hm.out
    subst hm
    exact ⟨((((Kp.refl g W).drewN _).setCell 25 _).drewN _), rfl, ((h.drewN _).set 25 _ ρ (n + 1) rfl (by decide)).drewN _⟩
  · rw [if_neg hl]
    have hlb : decide ((gl.length : Int) ≤ m) = true := decide_eq_true (by omega)
    replace h := Aside0.mk h
    replace hC := Aside0.mk hC
    go_enter Tryz.func79, Tryz.ntmps79
    go_wp2
    repeat (go_quiet (fail); try go_wp2)
    exact ⟨rfl, (Kp.refl g W).drewN _, rfl⟩

def Rg.refresh (r : Rg) : Rg := { r with r := bits BinOp.or IntKind.u8 (bits BinOp.and IntKind.u8 r.r 128) (bits BinOp.and IntKind.u8 ((r.r + 1) % 256) 127) }
theorem below_setRow {w W : World} {B g : Nat} (h : Below B w W) (hB : B ≤ g) (cs : Array Value) : Below B w (W.setRow g cs) :=
  h.trans ⟨rfl, rfl, rfl, by simp, fun k hk => by
    simp only [World.setRow, Array.getElem?_modify]
    rw [if_neg (by omega)]⟩
theorem Refresh (r : Rg) (w : World) :
    Calls Tryz.prog 80 #[.agg r.vals] w fun e w' => e = .returned (.agg r.refresh.vals) ∧ Below w.heap.size w w' := by
  simp only [Rg.vals, Rg.refresh]
  go_enter Tryz.func80, Tryz.ntmps80
  go_upto_region 2 with (fail)
  go_wp2_with ((refine wpList_load_row rfl 24 _ rfl _ rfl 24 _ _ _ (heap_alloc2_old _ _ _) Tryz.underlying24 rfl info24 ?_; go_must (refine wpList_store_row rfl 24 _ _ rfl (w.heap.size + 1) _ rfl rfl 24 _ (heap_alloc2_new _ _ _) info24 rfl (zcb r.refresh) ?_)))
  refine bodyPost_ret (results_cell_row Tryz.results80 _ _ (w.heap.size + 1) 24 r.refresh.vals (0, 0) _ rfl ?_ Tryz.underlying24 rfl info24) rfl ?_
  · exact setRow_heap _ _ _ _ _ _ (heap_alloc2_new _ _ _)
  exact ⟨rfl, below_setRow (below_alloc (below_alloc (Below.refl _ _) _) _) (by omega) _⟩
theorem Check (r : Rg) (w : World) (h1 : 0 ≤ r.im) (h2 : r.im ≤ 2) :
    Calls Tryz.prog 41 #[.agg r.vals] w fun e w' => e = .returned (.int .i64 0) ∧ Below w.heap.size w w' := by
  simp only [Rg.vals]
  have hu24 := Tryz.underlying24
  have hd1 : decide (r.im < 0) = false := decide_eq_false (by omega)
  have hd2 : decide (2 < r.im) = false := decide_eq_false (by omega)
  go_enter Tryz.func41, Tryz.ntmps41
  go_wp2
  repeat (go_quiet (fail); try go_wp2)
  go_ret
  exact ⟨rfl, by repeat (first | exact Below.refl _ _ | apply below_alloc)⟩
end Go.Proofs.YtnelghpendfdmaaGreatDoor.KRow
