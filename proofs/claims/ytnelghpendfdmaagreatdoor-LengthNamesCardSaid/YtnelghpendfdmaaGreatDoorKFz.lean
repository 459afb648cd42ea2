/-
 PROVED: the contract of pendulumlaw11.row.
-/
import Derived.Test.YtnelghpendfdmaaGreatDoorKRowE
namespace Go.Proofs.YtnelghpendfdmaaGreatDoor.KRow
open Go Go.RowKit Go.Proofs.YtnelghpendfdmaaGreatDoorW.PrintWords Go.Proofs.YtnelghpendfdmaaGreatDoorW.PrintLast Go.Proofs.YtnelghpendfdmaaGreatDoorW.PrintMore
open Go.Proofs.YtnelghpendfdmaaGreatDoor.HFun
set_option linter.unusedVariables false
set_option linter.unusedSimpArgs false
theorem R_rd {α : Type} {d : Kd α} {e : Nat} {w : World} {base : Nat} {ok : Nat → Prop} {A : Option Addr} {n c : Nat} {xs : List α} (h : d.R e w base ok (.slice A n c) xs) : xs.length ≤ c ∧ d.C w A xs.length xs :=by
 obtain ⟨A',c',he,hl,hC⟩ :=Kd.R_reads h
 cases he
 exact ⟨hl,hC⟩
def reqsL (xs : List S56) : List Value :=xs.flatMap fun x => (s56c x).toList
def reqsC (xs : List S56) : Array Value :=(reqsL xs).toArray
theorem reps_flat {w : World} {base : Nat} {ok : Nat → Prop} : ∀ (xs : List S56) (inner : List Value),Reps (k56.M w base ok) 4 xs inner → inner = reqsL xs
 | [],inner,h => List.eq_nil_of_length_eq_zero (by simpa using h.1)
 | x :: xs,inner,h => by
  have h0 :=k56_openM (h.2 0 x rfl)
  rw [Nat.zero_mul,List.drop_zero] at h0
  have hl :=h.1
  rw [List.length_cons] at hl
  have ht :=reps_flat xs (inner.drop 4) ⟨by rw [List.length_drop];omega,fun j p hp => by
   have :=h.2 (j + 1) p (by simpa using hp)
   rw [List.drop_drop]
   rw [show 4 + j * 4 = (j + 1) * 4 by omega]
   exact this⟩
  rw [← List.take_append_drop 4 inner,h0,ht]
  rfl
theorem R_own {w : World} {base : Nat} {ok : Nat → Prop} {A : Option Addr} {n c : Nat} {xs : List S56} (h : k56.R 56 w base ok (.slice A n c) xs) (hne : xs ≠ []) : ∃ g : Nat,A = some ⟨g,0,none⟩ ∧ base ≤ g ∧ BlkAt w g (reqsC xs) :=by
 obtain ⟨_,inner,⟨h1,h2⟩,hr⟩ :=h
 rcases h2 with ⟨_,e2⟩ | ⟨g,cap,cur,e1,hb,hh,_,_,hsz,ht⟩
 ·exact absurd (List.eq_nil_of_length_eq_zero e2) hne
 ·cases e1
  have hin :=reps_flat xs inner hr
  refine ⟨g,rfl,hb,⟨(Array.getElem?_eq_some_iff.1 hh).1,fun k v hk => ?_,fun k => ?_⟩⟩
  ·have hk' : inner[k]? = some v :=by rw [hin];simpa [reqsC] using hk
   rw [← ht] at hk'
   have hk2 : cur[k]? = some v :=by
    rw [List.getElem?_take] at hk'
    split at hk'
    ·simpa using hk'
    ·cases hk'
   simp only [World.cell?,hh]
   simpa using hk2
  ·simp only [World.frozen?,hh]
   simp
theorem got_all {w0 V : World} {bs : List (Nat × Array Value)} {vo : Value} {out : List S56} {A : Option Addr} {c : Nat} {got : List Int} (h : EnvR w0 V bs vo out (.slice A got.length c) got) : got.length ≤ c ∧ ∀ V',Below V.heap.size V V' → Kd.C (Kd.int .u8) V' A got.length got :=
 ⟨(R_rd h.g).1,fun V' hb => Kd.C_below (R_rd h.g).2 hb⟩
section
variable {w0 V V' : World} {bs : List (Nat × Array Value)} {vo vg : Value} {out : List S56} {got : List Int} {ops : Array Oper} {rest : List Oper} {op : Oper} {a : Act} {Q : Exit → Act → World → Prop}
theorem wpList_newR (h : EnvR w0 V bs vo out vg got) (hgd : op.guard = none) (cs : Array Value) (ty : TypeId) (hb : (execOp a.eval op).run Tryz.prog V = .ok (.value (.pointer (some ⟨V.heap.size,0,none⟩))) (V.alloc (.cells cs ty)))
  (k : ∀ V' g,EnvR w0 V' ((g,cs) :: bs) vo out vg got → wpList Tryz.prog ops Q rest (a.put op.dst (.pointer (some ⟨g,0,none⟩))) V') : wpList Tryz.prog ops Q (op :: rest) a V :=by
 refine wpList_plain hgd fun _ hK => ?_
 unfold Oper.wp
 simp only [hb]
 exact hK _ _ (k _ _ (h.push cs ty))
theorem wpList_stR (h : EnvR w0 V bs vo out vg got) (hgd : op.guard = none) (i : Nat) {g : Nat} {cs : Array Value} (hi : bs[i]? = some (g,cs)) (ty : TypeId) (x y : Operand) (ho : op.op = .store ty x y) (cs' : Array Value)
  (hx : a.eval x = .pointer (some ⟨g,0,none⟩)) (hy : a.eval y = .agg cs') (hsz : cs'.size = cs.size) (hinf : (Tryz.prog.info? ty).map (·.size) = some cs'.size) (hall : cs'.all (·.oneCell') = true)
  (k : ∀ V',EnvR w0 V' (bs.set i (g,cs')) vo out vg got → wpList Tryz.prog ops Q rest (a.put op.dst undef) V') : wpList Tryz.prog ops Q (op :: rest) a V :=
 wpList_bagg (h.env.at_ i g cs hi).2 hgd ty x y ho cs' hx hy hsz hinf hall (fun V' hk hc => k V' (h.put hi hk hc))
theorem wpList_ld8 (hgd : op.guard = none) (x : Operand) (ho : op.op = .load 5 x) {p : Addr} {v : Int} (hx : a.eval x = .pointer (some p)) (hc : V.cell? p = some (.int .u8 v)) (k : wpList Tryz.prog ops Q rest (a.put op.dst (.int .u8 v)) V) : wpList Tryz.prog ops Q (op :: rest) a V :=by
 refine wpList_plain hgd fun _ hK => ?_
 have hrun : (execOp a.eval op).run Tryz.prog V = .ok (.value (.int .u8 v)) V :=by
  unfold execOp
  simp only [ho,hx]
  simp [go_sem,hc]
 unfold Oper.wp
 simp only [hrun]
 exact hK _ _ k
theorem wpList_bslA (hgd : op.guard = none) (cs : Array Value) (ty : TypeId) (n : Nat) (hb : (execOp a.eval op).run Tryz.prog V = .ok (.value (.slice (some ⟨V.heap.size,0,none⟩) n n)) (V.alloc (.cells cs ty)))
  (k : wpList Tryz.prog ops Q rest (a.put op.dst (.slice (some ⟨V.heap.size,0,none⟩) n n)) (V.alloc (.cells cs ty))) : wpList Tryz.prog ops Q (op :: rest) a V :=by
 refine wpList_plain hgd fun _ hK => ?_
 unfold Oper.wp
 simp only [hb]
 exact hK _ _ k
theorem Env.drop (h : Env w0 V bs) (n : Nat) : Env w0 V (bs.drop n) :=
 ⟨h.b,fun j g cs hj => h.at_ (n + j) g cs (by rw [← List.getElem?_drop];exact hj),fun i j g c1 c2 hi hj => by
  have :=h.ne (n + i) (n + j) g c1 c2 (by rw [← List.getElem?_drop];exact hi) (by rw [← List.getElem?_drop];exact hj)
  omega⟩
theorem EnvR.drop (h : EnvR w0 V bs vo out vg got) (n : Nat) : EnvR w0 V (bs.drop n) vo out vg got :=
 ⟨h.env.drop n,Kd.R_mono h.o (fun k hk j g cs hj => hk (n + j) g cs (by rw [← List.getElem?_drop];exact hj)),Kd.R_mono h.g (fun k hk j g cs hj => hk (n + j) g cs (by rw [← List.getElem?_drop];exact hj))⟩
end
end Go.Proofs.YtnelghpendfdmaaGreatDoor.KRow
/-
 PROVED: what the tree of an operation asks of the bus (kinds and lengths), and that its bytes are asked first, from PC on.
-/
namespace Go.Proofs.YtnelghpendfdmaaGreatDoor.KRow
open Go Go.RowKit Go.Proofs.YtnelghpendfdmaaGreatDoorW.PrintWords
open Go.Proofs.YtnelghpendfdmaaGreatDoor.HFun
set_option linter.unusedVariables false
set_option linter.unusedSimpArgs false
def nAddr (x : Int) : Nat :=if x = 0 then 0 else 1
def nGet (c x : Int) : Nat :=if c = 6 then nAddr x else 0
def nLow0 (y : Int) : Nat :=if y = 0 then 0 else if y = 1 then 0 else 1
def nLow1 (q : Int) : Nat :=if q = 0 then 2 else 0
def nMoves (op : Int) : Nat :=if op = 2 ∨ op = 18 then 0 else if op = 10 ∨ op = 26 then 0 else 2
def nLow45 (y x : Int) : Nat :=if y = 6 then nAddr x else 0
def nLow6 (y x : Int) : Nat :=if y = 6 then (if x = 0 then 1 else 2) else 1
def nLow (op y z q x : Int) : Nat :=if z = 0 then nLow0 y else if z = 1 then nLow1 q else if z = 2 then nMoves op else if z = 3 then 0 else if z = 4 ∨ z = 5 then nLow45 y x else if z = 6 then nLow6 y x else 0
def nOdd (op : Int) : Nat :=if op = 195 then 2 else if op = 211 then 1 else if op = 219 then 1 else 0
def nHigh5 (op q : Int) : Nat :=if q = 0 then 0 else if op = 205 then 2 else 0
def nHigh (op z q : Int) : Nat :=if z = 0 then 0 else if z = 1 then 0 else if z = 2 then 2 else if z = 3 then nOdd op else if z = 4 then 2 else if z = 5 then nHigh5 op q else if z = 6 then 1 else 0
def nMain (op x : Int) : Nat :=if px op = 0 then nLow op (py op) (pz op) (pq op) x else if px op = 1 then (if op = 118 then 0 else if py op = 6 then nAddr x else nGet (pz op) x) else if px op = 2 then nGet (pz op) x else nHigh op (pz op) (pq op)
def nMore1 (z : Int) : Nat :=if z = 3 then 2 else 0
def nMore (op : Int) : Nat :=if px op = 2 ∧ 4 ≤ py op ∧ pz op ≤ 3 then 0 else if px op = 1 then nMore1 (pz op) else 0
end Go.Proofs.YtnelghpendfdmaaGreatDoor.KRow
/-
 PROVED: the play of a whole instruction's tree over its bytes; where a run of the tree stands behind answers.
-/
namespace Go.Proofs.YtnelghpendfdmaaGreatDoor.KRow
open Go Go.RowKit Go.Proofs.YtnelghpendfdmaaGreatDoorW.PrintWords
open Go.Proofs.YtnelghpendfdmaaGreatDoor.HFun
set_option linter.unusedVariables false
set_option linter.unusedSimpArgs false
theorem w64b {b : Int} (h0 : 0 ≤ b) (h1 : b < 256) : wrap64 b = b :=B.w64 (by omega) (by omega)
/-! where a run stands -/
end Go.Proofs.YtnelghpendfdmaaGreatDoor.KRow
/-
 PROVED: struct equality; the contracts of pendulumref08.Check and Refresh, step.May, pendulumkit.Reqs.
-/
namespace Go.Proofs.YtnelghpendfdmaaGreatDoor.KRow
open Go Go.RowKit Go.Proofs.YtnelghpendfdmaaGreatDoorW.PrintWords Go.Proofs.YtnelghpendfdmaaGreatDoorW.PrintLast Go.Proofs.YtnelghpendfdmaaGreatDoorW.PrintMore
open Go.Proofs.YtnelghpendfdmaaGreatDoor.HFun
set_option linter.unusedVariables false
set_option linter.unusedSimpArgs false
theorem wpList_val' {ops : Array Oper} {rest : List Oper} {op : Oper} {a : Act} {Q : Exit → Act → World → Prop} {V : World} (hgd : op.guard = none) (v : Value) (hb : (execOp a.eval op).run Tryz.prog V = .ok (.value v) V)
  (k : wpList Tryz.prog ops Q rest (a.put op.dst v) V) : wpList Tryz.prog ops Q (op :: rest) a V :=by
 refine wpList_plain hgd fun _ hK => ?_
 unfold Oper.wp
 simp only [hb]
 exact hK _ _ k
end Go.Proofs.YtnelghpendfdmaaGreatDoor.KRow
-- Written by a program of this session out of Lean's print of the program (after the form of the kit's print.sh, with own turns); Lean checks it.
namespace Go.Proofs.YtnelghpendfdmaaGreatDoor.HFun
open Go.RowKit Go.Proofs.YtnelghpendfdmaaGreatDoorW.PrintWords Go.Proofs.YtnelghpendfdmaaGreatDoorW.PrintLast Go.Proofs.YtnelghpendfdmaaGreatDoorW.PrintMore
attribute [local go_sem] max2_int min2_int max_two min_two max_three min_three max_four min_four   -- for this text's walks alone
set_option linter.unusedVariables false
set_option linter.unusedSimpArgs false

theorem eqA56 (d : Nat) (w : World) (x0 y0 : Int) (x1 y1 : Int) (x2 y2 : Int) (x3 y3 : Int) :
  (Op.equalIn (d + 2) 56 (.agg #[.int .i64 x0,.int .u16 x1,.int .u8 x2,.int .i64 x3]) (.agg #[.int .i64 y0,.int .u16 y1,.int .u8 y2,.int .i64 y3])).run Tryz.prog w = .ok (x0 == y0 && (x1 == y1 && (x2 == y2 && (x3 == y3)))) w :=by
 refine eqA_of Tryz.underlying56 (by kernel_rfl) ?_
 refine eqf_cons (by rfl) (by go_simp;rfl) (by go_simp;rfl) (by go_simp) ?_
 refine eqf_cons (by rfl) (by go_simp;rfl) (by go_simp;rfl) (by go_simp) ?_
 refine eqf_cons (by rfl) (by go_simp;rfl) (by go_simp;rfl) (by go_simp) ?_
 exact eqf_last (by rfl) (by go_simp;rfl) (by go_simp;rfl) (by go_simp)
end Go.Proofs.YtnelghpendfdmaaGreatDoor.HFun
/-
 PROVED: a row is a path of the instruction's tree; a block's row that repeats is that of its one step, and ReqIdle 5 if it goes on.
-/
namespace Go.Proofs.YtnelghpendfdmaaGreatDoor.KRow
open Go Go.RowKit Go.Proofs.YtnelghpendfdmaaGreatDoorW.PrintWords Go.Proofs.YtnelghpendfdmaaGreatDoor.HFun
set_option linter.unusedVariables false
/-! rows as paths of a tree -/
def Tr.le {α : Type} : Nat → Tr α → Prop
 | _,.ret _ _ => True
 | 0,.ask _ _ _ _ _ => False
 | n + 1,.ask _ _ _ _ f => ∀ x,(f x).le n
/-! a block's operation as one tree whose end may go on -/
end Go.Proofs.YtnelghpendfdmaaGreatDoor.KRow
namespace Go.Proofs.YtnelghpendfdmaaGreatDoor.KRow
open Go Go.RowKit Go.Proofs.YtnelghpendfdmaaGreatDoorW.PrintWords Go.Proofs.YtnelghpendfdmaaGreatDoorW.PrintLast Go.Proofs.YtnelghpendfdmaaGreatDoorW.PrintMore
open Go.Proofs.YtnelghpendfdmaaGreatDoor.HFun
set_option linter.unusedVariables false
def isZ : Value → Bool
 | .int .u8 n => n == 0
 | _ => false
def chkZ : Nat → List Value → Bool
 | 0,[.bool b] => !b
 | n + 1,v :: l => isZ v && chkZ n l
 | _,_ => false
noncomputable def zl80 : List Value :=match Tryz.t80.zero with | some (.agg a) => a.toList | _ => []
set_option maxRecDepth 1000000 in
theorem zl80_chk : chkZ 65536 (zl80.drop 24) = true :=by decide +kernel
theorem chkZ_spec : ∀ (n : Nat) (l : List Value),chkZ n l = true → l.length = n + 1 ∧ (∀ k,k < n → l[k]? = some (.int .u8 0)) ∧ l[n]? = some (.bool false) :=by
 intro n
 induction n with
 | zero =>
  intro l h
  match l,h with
  | [.bool b],h =>
   simp [chkZ] at h
   subst h
   exact ⟨rfl,fun k hk => absurd hk (by omega),rfl⟩
 | succ n ih =>
  intro l h
  match l,h with
  | v :: l,h =>
   simp only [chkZ,Bool.and_eq_true] at h
   obtain ⟨h1,h2,h3⟩ :=ih l h.2
   have hv : v = .int .u8 0 :=by
    have h4 :=h.1
    unfold isZ at h4
    split at h4
    ·simp at h4;subst h4;rfl
    ·cases h4
   refine ⟨by simp [h1],fun k hk => ?_,by simpa using h3⟩
   match k with
   | 0 => simp [hv]
   | k + 1 => simpa using h2 k (by omega)
theorem zl80_len : zl80.length = 65561 :=by
 have :=(chkZ_spec _ _ zl80_chk).1
 rw [List.length_drop] at this
 omega
theorem zl80_get (k : Nat) (hk : k < 65536) : zl80[24 + k]? = some (.int .u8 0) :=by
 have :=(chkZ_spec _ _ zl80_chk).2.1 k hk
 rwa [List.getElem?_drop] at this
theorem info80 : Tryz.prog.info? 80 = some Tryz.t80 :=by kernel_rfl
theorem zero80 : Tryz.t80.zero = some (.agg zl80.toArray) :=by kernel_rfl
theorem foldl_set : ∀ (vs : List Value) (o : Nat) (cs : Array Value) (k : Nat),((vs.zipIdx o).foldl (fun (cs : Array Value) (x : Value × Nat) => cs.setIfInBounds x.2 x.1) cs)[k]? = if o ≤ k ∧ k < o + vs.length ∧ k < cs.size then vs[k - o]? else cs[k]? :=by
 intro vs
 induction vs with
 | nil => intro o cs k;simp;omega
 | cons v r ih =>
  intro o cs k
  simp only [List.zipIdx_cons,List.foldl_cons]
  rw [ih]
  simp only [Array.size_setIfInBounds,List.length_cons]
  by_cases h1 : k = o
  ·subst h1
   rw [if_neg (by omega)]
   by_cases h2 : k < cs.size
   ·rw [if_pos ⟨Nat.le_refl _,by omega,h2⟩]
    simp [h2]
   ·rw [if_neg (by omega)]
    rw [Array.getElem?_eq_none (by simpa using h2),Array.getElem?_eq_none (by omega)]
  ·by_cases h2 : o + 1 ≤ k ∧ k < o + 1 + r.length ∧ k < cs.size
   ·rw [if_pos h2,if_pos (by omega)]
    have : k - o = (k - (o + 1)) + 1 :=by omega
    rw [this]
    simp
   ·rw [if_neg h2,if_neg (by omega)]
    exact Array.getElem?_setIfInBounds_ne (Ne.symm h1)
end Go.Proofs.YtnelghpendfdmaaGreatDoor.KRow
