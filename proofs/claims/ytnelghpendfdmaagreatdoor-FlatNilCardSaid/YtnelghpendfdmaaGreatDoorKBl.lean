/-
 PROVED: the contract of pendulumlaw11.row.
-/
import Derived.Test.YtnelghpendfdmaaGreatDoorKRowE
import Derived.Test.YtnelghpendfdmaaGreatDoorKPm
import Derived.Test.YtnelghpendfdmaaGreatDoorHKit
import Derived.ProofKit
import Derived.ChangeOld
namespace Go.Proofs.YtnelghpendfdmaaGreatDoor.KRow
open Go Go.RowKit Go.Proofs.YtnelghpendfdmaaGreatDoorW.PrintWords Go.Proofs.YtnelghpendfdmaaGreatDoorW.PrintLast Go.Proofs.YtnelghpendfdmaaGreatDoorW.PrintMore
open Go.Proofs.YtnelghpendfdmaaGreatDoor.HFun
set_option linter.unusedVariables false
set_option linter.unusedSimpArgs false
theorem R_rd {α : Type} {d : Kd α} {e : Nat} {w : World} {base : Nat} {ok : Nat → Prop} {A : Option Addr} {n c : Nat} {xs : List α} (h : d.R e w base ok (.slice A n c) xs) : xs.length ≤ c ∧ d.C w A xs.length xs :=by
 obtain ⟨A',c',he,hl,hC⟩ :=Kd.R_reads h
 cases he
 exact ⟨hl,hC⟩
def reqsL (xs : List S56) : List Value :=xs.flatMap fun x => (s56c x).toList
def reqsC (xs : List S56) : Array Value :=(reqsL xs).toArray
theorem reps_flat {w : World} {base : Nat} {ok : Nat → Prop} : ∀ (xs : List S56) (inner : List Value),Reps (k56.M w base ok) 4 xs inner → inner = reqsL xs
 | [],inner,h => List.eq_nil_of_length_eq_zero (by simpa using h.1)
 | x :: xs,inner,h => by
  have h0 :=k56_openM (h.2 0 x rfl)
  rw [Nat.zero_mul,List.drop_zero] at h0
  have hl :=h.1
  rw [List.length_cons] at hl
  have ht :=reps_flat xs (inner.drop 4) ⟨by rw [List.length_drop];omega,fun j p hp => by
   have :=h.2 (j + 1) p (by simpa using hp)
   rw [List.drop_drop]
   rw [show 4 + j * 4 = (j + 1) * 4 by omega]
   exact this⟩
  rw [← List.take_append_drop 4 inner,h0,ht]
  rfl
theorem R_own {w : World} {base : Nat} {ok : Nat → Prop} {A : Option Addr} {n c : Nat} {xs : List S56} (h : k56.R 56 w base ok (.slice A n c) xs) (hne : xs ≠ []) : ∃ g : Nat,A = some ⟨g,0,none⟩ ∧ base ≤ g ∧ BlkAt w g (reqsC xs) :=by
 obtain ⟨_,inner,⟨h1,h2⟩,hr⟩ :=h
 rcases h2 with ⟨_,e2⟩ | ⟨g,cap,cur,e1,hb,hh,_,_,hsz,ht⟩
 ·exact absurd (List.eq_nil_of_length_eq_zero e2) hne
 ·cases e1
  have hin :=reps_flat xs inner hr
  refine ⟨g,rfl,hb,⟨(Array.getElem?_eq_some_iff.1 hh).1,fun k v hk => ?_,fun k => ?_⟩⟩
  ·have hk' : inner[k]? = some v :=by rw [hin];simpa [reqsC] using hk
   rw [← ht] at hk'
   have hk2 : cur[k]? = some v :=by
    rw [List.getElem?_take] at hk'
    split at hk'
    ·simpa using hk'
    ·cases hk'
   simp only [World.cell?,hh]
   simpa using hk2
  ·simp only [World.frozen?,hh]
   simp
theorem got_all {w0 V : World} {bs : List (Nat × Array Value)} {vo : Value} {out : List S56} {A : Option Addr} {c : Nat} {got : List Int} (h : EnvR w0 V bs vo out (.slice A got.length c) got) : got.length ≤ c ∧ ∀ V',Below V.heap.size V V' → Kd.C (Kd.int .u8) V' A got.length got :=
 ⟨(R_rd h.g).1,fun V' hb => Kd.C_below (R_rd h.g).2 hb⟩
section
variable {w0 V V' : World} {bs : List (Nat × Array Value)} {vo vg : Value} {out : List S56} {got : List Int} {ops : Array Oper} {rest : List Oper} {op : Oper} {a : Act} {Q : Exit → Act → World → Prop}
theorem wpList_newR (h : EnvR w0 V bs vo out vg got) (hgd : op.guard = none) (cs : Array Value) (ty : TypeId) (hb : (execOp a.eval op).run Tryz.prog V = .ok (.value (.pointer (some ⟨V.heap.size,0,none⟩))) (V.alloc (.cells cs ty)))
  (k : ∀ V' g,EnvR w0 V' ((g,cs) :: bs) vo out vg got → wpList Tryz.prog ops Q rest (a.put op.dst (.pointer (some ⟨g,0,none⟩))) V') : wpList Tryz.prog ops Q (op :: rest) a V :=by
 refine wpList_plain hgd fun _ hK => ?_
 unfold Oper.wp
 simp only [hb]
 exact hK _ _ (k _ _ (h.push cs ty))
theorem wpList_stR (h : EnvR w0 V bs vo out vg got) (hgd : op.guard = none) (i : Nat) {g : Nat} {cs : Array Value} (hi : bs[i]? = some (g,cs)) (ty : TypeId) (x y : Operand) (ho : op.op = .store ty x y) (cs' : Array Value)
  (hx : a.eval x = .pointer (some ⟨g,0,none⟩)) (hy : a.eval y = .agg cs') (hsz : cs'.size = cs.size) (hinf : (Tryz.prog.info? ty).map (·.size) = some cs'.size) (hall : cs'.all (·.oneCell') = true)
  (k : ∀ V',EnvR w0 V' (bs.set i (g,cs')) vo out vg got → wpList Tryz.prog ops Q rest (a.put op.dst undef) V') : wpList Tryz.prog ops Q (op :: rest) a V :=
 wpList_bagg (h.env.at_ i g cs hi).2 hgd ty x y ho cs' hx hy hsz hinf hall (fun V' hk hc => k V' (h.put hi hk hc))
theorem wpList_ld8 (hgd : op.guard = none) (x : Operand) (ho : op.op = .load 5 x) {p : Addr} {v : Int} (hx : a.eval x = .pointer (some p)) (hc : V.cell? p = some (.int .u8 v)) (k : wpList Tryz.prog ops Q rest (a.put op.dst (.int .u8 v)) V) : wpList Tryz.prog ops Q (op :: rest) a V :=by
 refine wpList_plain hgd fun _ hK => ?_
 have hrun : (execOp a.eval op).run Tryz.prog V = .ok (.value (.int .u8 v)) V :=by
  unfold execOp
  simp only [ho,hx]
  simp [go_sem,hc]
 unfold Oper.wp
 simp only [hrun]
 exact hK _ _ k
theorem wpList_bslA (hgd : op.guard = none) (cs : Array Value) (ty : TypeId) (n : Nat) (hb : (execOp a.eval op).run Tryz.prog V = .ok (.value (.slice (some ⟨V.heap.size,0,none⟩) n n)) (V.alloc (.cells cs ty)))
  (k : wpList Tryz.prog ops Q rest (a.put op.dst (.slice (some ⟨V.heap.size,0,none⟩) n n)) (V.alloc (.cells cs ty))) : wpList Tryz.prog ops Q (op :: rest) a V :=by
 refine wpList_plain hgd fun _ hK => ?_
 unfold Oper.wp
 simp only [hb]
 exact hK _ _ k
theorem Env.drop (h : Env w0 V bs) (n : Nat) : Env w0 V (bs.drop n) :=
 ⟨h.b,fun j g cs hj => h.at_ (n + j) g cs (by rw [← List.getElem?_drop];exact hj),fun i j g c1 c2 hi hj => by
  have :=h.ne (n + i) (n + j) g c1 c2 (by rw [← List.getElem?_drop];exact hi) (by rw [← List.getElem?_drop];exact hj)
  omega⟩
theorem EnvR.drop (h : EnvR w0 V bs vo out vg got) (n : Nat) : EnvR w0 V (bs.drop n) vo out vg got :=
 ⟨h.env.drop n,Kd.R_mono h.o (fun k hk j g cs hj => hk (n + j) g cs (by rw [← List.getElem?_drop];exact hj)),Kd.R_mono h.g (fun k hk j g cs hj => hk (n + j) g cs (by rw [← List.getElem?_drop];exact hj))⟩
end
end Go.Proofs.YtnelghpendfdmaaGreatDoor.KRow
/-
 PROVED: struct equality; the contracts of pendulumref08.Check and Refresh, step.May, pendulumkit.Reqs.
-/
namespace Go.Proofs.YtnelghpendfdmaaGreatDoor.KRow
open Go Go.RowKit Go.Proofs.YtnelghpendfdmaaGreatDoorW.PrintWords Go.Proofs.YtnelghpendfdmaaGreatDoorW.PrintLast Go.Proofs.YtnelghpendfdmaaGreatDoorW.PrintMore
open Go.Proofs.YtnelghpendfdmaaGreatDoor.HFun
set_option linter.unusedVariables false
set_option linter.unusedSimpArgs false
set_option maxHeartbeats 4000000 in
set_option maxRecDepth 100000 in
theorem run_eq24 (ρ : Rg) (ev : Operand → Value) (o : Oper) (x y : Operand) (ho : o.op = .binOp .eql 24 x y 24) (hx : ev x = .agg (ρ.vals)) (hy : ev y = .agg (ρ.vals)) (V : World) : (execOp ev o).run Tryz.prog V = .ok (.value (.bool true)) V :=by
 unfold execOp
 simp only [ho,hx,hy]
 simp [go_sem,Rg.vals]
theorem wpList_val' {ops : Array Oper} {rest : List Oper} {op : Oper} {a : Act} {Q : Exit → Act → World → Prop} {V : World} (hgd : op.guard = none) (v : Value) (hb : (execOp a.eval op).run Tryz.prog V = .ok (.value v) V)
  (k : wpList Tryz.prog ops Q rest (a.put op.dst v) V) : wpList Tryz.prog ops Q (op :: rest) a V :=by
 refine wpList_plain hgd fun _ hK => ?_
 unfold Oper.wp
 simp only [hb]
 exact hK _ _ k
theorem gate_bin' (b : BinOp) (ty : TypeId) {P : Program} {ops : Array Oper} {Q : Exit → Act → World → Prop} {W : World} {rest : List Oper} {d x y ty' t p af gd a} (h : wpList P ops Q ({ dst :=d,op :=.binOp b ty x y ty',type :=t,pos :=p,after :=af,guard :=gd } :: rest) a W) : wpList P ops Q ({ dst :=d,op :=.binOp b ty x y ty',type :=t,pos :=p,after :=af,guard :=gd } :: rest) a W :=h
end Go.Proofs.YtnelghpendfdmaaGreatDoor.KRow
/-
 PROVED: a row is a path of the instruction's tree; a block's row that repeats is that of its one step, and ReqIdle 5 if it goes on.
-/
namespace Go.Proofs.YtnelghpendfdmaaGreatDoor.KRow
open Go Go.RowKit Go.Proofs.YtnelghpendfdmaaGreatDoorW.PrintWords Go.Proofs.YtnelghpendfdmaaGreatDoor.HFun
set_option linter.unusedVariables false
/-! rows as paths of a tree -/
/-! a block's operation as one tree whose end may go on -/
end Go.Proofs.YtnelghpendfdmaaGreatDoor.KRow
/-
  PROVED: pendulumlaw11.StepBlocks answers true.
-/
namespace Go.Proofs.YtnelghpendfdmaaGreatDoor.KRow
open Go Go.RowKit Go.Proofs.YtnelghpendfdmaaGreatDoorW.PrintWords Go.Proofs.YtnelghpendfdmaaGreatDoorW.PrintLast Go.Proofs.YtnelghpendfdmaaGreatDoorW.PrintMore
open Go.Proofs.YtnelghpendfdmaaGreatDoor.HFun
set_option linter.unusedVariables false
set_option linter.unusedSimpArgs false
theorem Env.one {w0 V : World} {bs : List (Nat × Array Value)} (h : Env w0 V bs) {i : Nat} {x : Nat × Array Value} (hi : bs[i]? = some x) : Env w0 V [x] := by
  refine ⟨h.b, fun k g cs hk => ?_, fun a b g c1 c2 ha hb => ?_⟩
  · match k, hk with
    | 0, hk => obtain rfl : x = (g, cs) := by simpa using hk
               exact h.at_ i g cs hi
  · match a, b, ha, hb with
    | 0, 0, _, _ => rfl
theorem Sch.st1 {w0 V : World} {bs : List (Nat × Array Value)} {ops : Array Oper} {S : World → Prop} {Q : Exit → Act → World → Prop} {tl : List Nat} {i m : Nat} {o : Oper} {r : List (Nat × Nat)} {a : Act} (h : Env w0 V bs) (j : Nat) {g : Nat} {cs : Array Value} (hj : bs[j]? = some (g, cs)) (ho : ops[i]? = some o) (hN : o.dst = none) (hg : Region.wanted o (yielded ops a.tmps) = true)
    (ty : TypeId) (x y : Operand) (hop : o.op = .store ty x y) (k0 : Nat) (v : Value) (hx : a.eval x = .pointer (some ⟨g, k0, none⟩)) (hy : a.eval y = v) (hinf : (Tryz.prog.info? ty).map (·.size) = some 1) (hvc : v.cells = #[v]) (h1 : v.oneCell' = true) (hlt : k0 < cs.size)
    (k : ∀ V', Env w0 V' (bs.set j (g, cs.setIfInBounds k0 v)) → S V' ∧ Sch Tryz.prog ops S Q tl r a V') : Sch Tryz.prog ops S Q tl ((i, m + 2) :: r) a V := by
  have hB := (h.at_ j g cs hj).2
  obtain ⟨old, hold⟩ : ∃ u, cs.toList[k0]? = some u := ⟨_, List.getElem?_eq_getElem (by simpa using hlt)⟩
  have hrun := run_storeVar_one (W := V) (g := g) hinf v k0 hvc h1 (by rw [hB.cell _ _ hold]; rfl) (hB.frz _)
  have hkp := (Kp.refl g V).setCell k0 v
  have hk := k _ (h.put hj hkp ⟨Nat.lt_of_lt_of_le hB.lt hkp.size, fun k u hu => ?_, fun k => (World.frozen?_setCell _ _ _ _).trans (hB.frz k)⟩)
  · refine Sch.skip ho hN hg ?_ hk.1 hk.2
    unfold execOp
    simp only [hop, hx, hy, Instr.storeAt, Instr.sureAddr, Sem.run_bind, Sem.run_pure, Result.andThen_ok, hrun]
  · rw [Array.toList_setIfInBounds, List.getElem?_set] at hu
    by_cases e : k0 = k
    · subst e
      have hl : k0 < cs.toList.length := by simpa using hlt
      simp only [if_true, hl, Option.some.injEq] at hu
      subst hu
      exact World.cell?_setCell_same V _ _ (hB.cell k0 _ hold)
    · rw [if_neg e] at hu
      exact (World.cell?_setCell_other V _ _ _ (by simp [e])).trans (hB.cell k u hu)
end Go.Proofs.YtnelghpendfdmaaGreatDoor.KRow
