/-
 PROVED: what the tree of an operation asks of the bus (kinds and lengths), and that its bytes are asked first, from PC on.
-/
import Derived.Test.YtnelghpendfdmaaGreatDoorKMod3
namespace Go.Proofs.YtnelghpendfdmaaGreatDoor.KRow
set_option maxHeartbeats 16000000
open Go Go.RowKit Go.Proofs.YtnelghpendfdmaaGreatDoorW.PrintWords
open Go.Proofs.YtnelghpendfdmaaGreatDoor.HFun
set_option linter.unusedVariables false
set_option linter.unusedSimpArgs false
abbrev Ts :=List (Int × Int)
def Tr.pl {α : Type} : Tr α → Int → List Int → Ts → (α → Rw → Int → List Int → Ts → Prop) → Prop
 | .ret v ρ,p,c,ts,Q => Q v ρ p c ts
 | .ask k a v t f,p,c,ts,Q => ts.length < 10 ∧ match c with
  | [] => k ≠ 1 ∧ ∀ x,0 ≤ x → x < 256 → (f x).pl p [] (ts ++ [(k,t)]) Q
  | y :: c' => if k = 1 ∨ k = 2 then a = p ∧ (f y).pl (inc16 p) c' (ts ++ [(k,t)]) Q else k ≠ 3 ∧ ∀ x,0 ≤ x → x < 256 → (f x).pl p (y :: c') (ts ++ [(k,t)]) Q
theorem pl_ite {α : Type} {P : Prop} [Decidable P] {A B : Tr α} {p : Int} {c : List Int} {ts : Ts} {Q : α → Rw → Int → List Int → Ts → Prop} : (if P then A else B).pl p c ts Q ↔ (P → A.pl p c ts Q) ∧ (¬ P → B.pl p c ts Q) :=by
 by_cases h : P
 ·rw [if_pos h];exact ⟨fun k => ⟨fun _ => k,fun n => absurd h n⟩,fun k => k.1 h⟩
 ·rw [if_neg h];exact ⟨fun k => ⟨fun n => absurd n h,fun _ => k⟩,fun k => k.2 h⟩
theorem bind_ite {α β : Type} {P : Prop} [Decidable P] {A B : Tr α} {F : α → Rw → Tr β} : (if P then A else B).bind F = if P then A.bind F else B.bind F :=by
 by_cases h : P
 ·simp only [if_pos h]
 ·simp only [if_neg h]
theorem bind_unit (t : Tr Unit) : t.bind (fun _ ρ => .ret () ρ) = t :=Tr.bind_ret t
theorem len1 {c : List Int} (h : c.length = 1) : ∃ u,c = [u] :=by
 match c,h with | [u],_ => exact ⟨u,rfl⟩
theorem len2 {c : List Int} (h : c.length = 2) : ∃ u v,c = [u,v] :=by
 match c,h with | [u,v],_ => exact ⟨u,v,rfl⟩
theorem put1_r (g : Rg) (i c v : Int) : (g.put1 i c v).r = g.r :=by
 unfold Rg.put1
 repeat' (first | rfl | split)
theorem putPair_r (g : Rg) (i c : Int) (s : Bool) (v : Int) : (g.putPair i c s v).r = g.r :=by
 unfold Rg.putPair
 repeat' (first | rfl | split)
theorem swap_r (g : Rg) (w : Int) : (g.swap w).r = g.r :=by
 unfold Rg.swap
 repeat' (first | rfl | split)
abbrev qF : Int × Int :=(1,4)
abbrev qN : Int × Int :=(2,3)
abbrev qW : Int × Int :=(3,3)
abbrev qI : Int × Int :=(4,4)
abbrev qO : Int × Int :=(5,4)
abbrev q1 : Int × Int :=(6,1)
abbrev q2 : Int × Int :=(6,2)
abbrev q4 : Int × Int :=(6,4)
abbrev q5 : Int × Int :=(6,5)
abbrev q7 : Int × Int :=(6,7)
def nAddr (x : Int) : Nat :=if x = 0 then 0 else 1
def sAddr (x : Int) : Ts :=if x = 0 then [] else [qN,q5]
def nGet (c x : Int) : Nat :=if c = 6 then nAddr x else 0
def sGet (c x : Int) : Ts :=if c = 6 then sAddr x ++ [qN] else []
def nLow0 (y : Int) : Nat :=if y = 0 then 0 else if y = 1 then 0 else 1
def sLow0 (y : Int) : List Ts :=if y = 0 then [[]] else if y = 1 then [[]] else if y = 2 then [[q1,qN],[q1,qN,q5]] else if y = 3 then [[qN,q5]] else [[qN],[qN,q5]]
def nLow1 (q : Int) : Nat :=if q = 0 then 2 else 0
def sLow1 (q : Int) : List Ts :=if q = 0 then [[qN,qN]] else [[q7]]
def nMoves (op : Int) : Nat :=if op = 2 ∨ op = 18 then 0 else if op = 10 ∨ op = 26 then 0 else 2
def sMoves (op : Int) : List Ts :=if op = 2 ∨ op = 18 then [[qW]] else if op = 10 ∨ op = 26 then [[qN]] else if op = 34 then [[qN,qN,qW,qW]] else if op = 42 then [[qN,qN,qN,qN]] else if op = 50 then [[qN,qN,qW]] else [[qN,qN,qN]]
def nLow45 (y x : Int) : Nat :=if y = 6 then nAddr x else 0
def sLow45 (y x : Int) : List Ts :=if y = 6 then [sAddr x ++ [qN,q1,qW]] else [[]]
def nLow6 (y x : Int) : Nat :=if y = 6 then (if x = 0 then 1 else 2) else 1
def sLow6 (y x : Int) : List Ts :=if y = 6 then (if x = 0 then [[qN,qW]] else [[qN,qN,q2,qW]]) else [[qN]]
def nLow (op y z q x : Int) : Nat :=if z = 0 then nLow0 y else if z = 1 then nLow1 q else if z = 2 then nMoves op else if z = 3 then 0 else if z = 4 ∨ z = 5 then nLow45 y x else if z = 6 then nLow6 y x else 0
def sLow (op y z q x : Int) : List Ts :=if z = 0 then sLow0 y else if z = 1 then sLow1 q else if z = 2 then sMoves op else if z = 3 then [[q2]] else if z = 4 ∨ z = 5 then sLow45 y x else if z = 6 then sLow6 y x else [[]]
def nOdd (op : Int) : Nat :=if op = 195 then 2 else if op = 211 then 1 else if op = 219 then 1 else 0
def sOdd (op : Int) : List Ts :=if op = 195 then [[qN,qN]] else if op = 211 then [[qN,qO]] else if op = 219 then [[qN,qI]] else if op = 227 then [[qN,qN,q1,qW,qW,q2]] else [[]]
def sHigh1 (p q : Int) : List Ts :=if q = 0 then [[qN,qN]] else if p = 0 then [[qN,qN]] else if p = 1 then [[]] else if p = 2 then [[]] else [[q2]]
def nHigh5 (op q : Int) : Nat :=if q = 0 then 0 else if op = 205 then 2 else 0
def sHigh5 (op q : Int) : List Ts :=if q = 0 then [[q1,qW,qW]] else if op = 205 then [[qN,qN,q1,qW,qW]] else [[]]
def nHigh (op z q : Int) : Nat :=if z = 0 then 0 else if z = 1 then 0 else if z = 2 then 2 else if z = 3 then nOdd op else if z = 4 then 2 else if z = 5 then nHigh5 op q else if z = 6 then 1 else 0
def sHigh (op z p q : Int) : List Ts :=if z = 0 then [[q1],[q1,qN,qN]] else if z = 1 then sHigh1 p q else if z = 2 then [[qN,qN]] else if z = 3 then sOdd op else if z = 4 then [[qN,qN],[qN,qN,q1,qW,qW]] else if z = 5 then sHigh5 op q else if z = 6 then [[qN]] else [[q1,qW,qW]]
def nMain (op x : Int) : Nat :=if px op = 0 then nLow op (py op) (pz op) (pq op) x else if px op = 1 then (if op = 118 then 0 else if py op = 6 then nAddr x else nGet (pz op) x) else if px op = 2 then nGet (pz op) x else nHigh op (pz op) (pq op)
def sMain (op x : Int) : List Ts :=if px op = 0 then sLow op (py op) (pz op) (pq op) x else if px op = 1 then (if op = 118 then [[]] else if py op = 6 then [sAddr x ++ [qW]] else [sGet (pz op) x]) else if px op = 2 then [sGet (pz op) x] else sHigh op (pz op) (pp op) (pq op)
def sBits (op : Int) : List Ts :=if m7 op = 6 then (if px op = 1 then [[qN,q1]] else [[qN,q1,qW]]) else [[]]
def sBoth (op : Int) : List Ts :=if px op = 1 then [[qN,qN,q2,qN,q1]] else [[qN,qN,q2,qN,q1,qW]]
def sRep (b : Bool) (s : Ts) : List Ts :=if b = true then [s,s ++ [q5]] else [s]
def sBlock (y z : Int) : List Ts :=if z = 0 then sRep (decide (6 ≤ y)) [qN,qW,q2] else if z = 1 then sRep (decide (6 ≤ y)) [qN,q5] else if z = 2 then sRep (decide (6 ≤ y)) [q1,qI,qW] else sRep (decide (6 ≤ y)) [q1,qN,qO]
def nMore1 (z : Int) : Nat :=if z = 3 then 2 else 0
def sAcc (y : Int) : List Ts :=if y = 0 ∨ y = 1 ∨ y = 2 ∨ y = 3 then [[q1]] else if y = 4 ∨ y = 5 then [[qN,q4,qW]] else [[]]
def sMore1 (y z q : Int) : List Ts :=if z = 0 then [[qI]] else if z = 1 then [[qO]] else if z = 2 then [[q7]] else if z = 3 then (if q = 0 then [[qN,qN,qW,qW]] else [[qN,qN,qN,qN]]) else if z = 4 then [[]] else if z = 5 then [[qN,qN]] else if z = 6 then [[]] else sAcc y
def nMore (op : Int) : Nat :=if px op = 2 ∧ 4 ≤ py op ∧ pz op ≤ 3 then 0 else if px op = 1 then nMore1 (pz op) else 0
def sMore (op : Int) : List Ts :=if px op = 2 ∧ 4 ≤ py op ∧ pz op ≤ 3 then sBlock (py op) (pz op) else if px op = 1 then sMore1 (py op) (pz op) (pq op) else [[]]
theorem kk1 : ((1 : Int) = 1 ∨ (1 : Int) = 2) = True :=by simp
theorem kk2 : ((2 : Int) = 1 ∨ (2 : Int) = 2) = True :=by simp
theorem kk3 : ((3 : Int) = 1 ∨ (3 : Int) = 2) = False :=by simp
theorem kk4 : ((4 : Int) = 1 ∨ (4 : Int) = 2) = False :=by simp
theorem kk5 : ((5 : Int) = 1 ∨ (5 : Int) = 2) = False :=by simp
theorem kk6 : ((6 : Int) = 1 ∨ (6 : Int) = 2) = False :=by simp
theorem kk7 : ((7 : Int) = 1 ∨ (7 : Int) = 2) = False :=by simp
theorem unfE : type_of% @Rw.next.eq_1 ∧ type_of% @Rw.read.eq_1 ∧ type_of% @Rw.write.eq_1 ∧ type_of% @Rw.idle.eq_1 ∧ type_of% @Rw.inp.eq_1 ∧ type_of% @Rw.out.eq_1 ∧ type_of% @Rw.req.eq_1 ∧ type_of% @Rw.word.eq_1 ∧ type_of% @Rw.push.eq_1 ∧ type_of% @Rw.pop.eq_1 ∧ type_of% @Rw.rets.eq_1 ∧ type_of% @Rw.call.eq_1 ∧ type_of% @Rw.store.eq_1 ∧ type_of% @Rw.load.eq_1 ∧ type_of% @Rw.jump.eq_1 ∧ type_of% @Rw.address.eq_1 ∧ type_of% @Rw.get.eq_1 ∧ type_of% @Rw.putPair.eq_1 ∧ type_of% @Rw.put8.eq_1 ∧ type_of% @Rw.again.eq_1 ∧ type_of% @Rw.bitsOp.eq_1 ∧ type_of% @Rw.regs.eq_1 ∧ type_of% @kk1 ∧ type_of% @kk2 ∧ type_of% @kk3 ∧ type_of% @kk4 ∧ type_of% @kk5 ∧ type_of% @kk6 ∧ type_of% @kk7 ∧ type_of% @true_and ∧ type_of% @and_true ∧ type_of% @nAddr.eq_1 ∧ type_of% @sAddr.eq_1 ∧ type_of% @nGet.eq_1 ∧ type_of% @sGet.eq_1 ∧ type_of% @sRep.eq_1 :=⟨@Rw.next.eq_1,@Rw.read.eq_1,@Rw.write.eq_1,@Rw.idle.eq_1,@Rw.inp.eq_1,@Rw.out.eq_1,@Rw.req.eq_1,@Rw.word.eq_1,@Rw.push.eq_1,@Rw.pop.eq_1,@Rw.rets.eq_1,@Rw.call.eq_1,@Rw.store.eq_1,@Rw.load.eq_1,@Rw.jump.eq_1,@Rw.address.eq_1,@Rw.get.eq_1,@Rw.putPair.eq_1,@Rw.put8.eq_1,@Rw.again.eq_1,@Rw.bitsOp.eq_1,@Rw.regs.eq_1,@kk1,@kk2,@kk3,@kk4,@kk5,@kk6,@kk7,@true_and,@and_true,@nAddr.eq_1,@sAddr.eq_1,@nGet.eq_1,@sGet.eq_1,@sRep.eq_1⟩
theorem low0_pl {ρ : Rw} {y : Int} {pc0 : Int} {c : List Int} {ts : Ts} {Q : Unit → Rw → Int → List Int → Ts → Prop} (hp : pc0 = ρ.pc) (hc : c.length = nLow0 y) (ht : ts.length ≤ 2) (hQ : ∀ ρ' p' ts',(∃ s ∈ sLow0 y,ts' = ts ++ s) → (ρ'.r = ρ.r) → Q () ρ' p' [] ts') : (ρ.low0 y).pl pc0 c ts Q :=by
 subst hp
 unfold Rw.low0
 unfold nLow0 at hc
 unfold sLow0 at hQ
 ·by_cases h1 : y = 0
  ·have hc :=hc;(try simp only [nAddr,nGet,if_pos h1] at hc);(try rw [if_neg (by omega)] at hc)
   obtain rfl :=List.eq_nil_of_length_eq_zero hc
   (try rw [if_pos h1] at hQ)
   simp only [if_pos h1,unfE,Tr.bind,bind_ite,pl_ite,Tr.pl,if_true,if_false,List.append_assoc,List.cons_append,List.nil_append]
   repeat' (first | (refine hQ _ _ _ ⟨_,?_,rfl⟩ ?_) | (refine And.intro ?_ ?_) | (intro _))
   all_goals (first | rfl | omega | (simp only [List.length_append,List.length_cons,List.length_nil];omega) | (exfalso;omega) | decide | (simp;done) | (simp_all [put1_r,putPair_r,swap_r,Rw.regs,sAddr,sGet,sRep];done))
  ·by_cases h2 : y = 1
   ·have hc :=hc;(try simp only [nAddr,nGet,if_neg h1,if_pos h2] at hc);(try rw [if_neg (by omega)] at hc)
    obtain rfl :=List.eq_nil_of_length_eq_zero hc
    (try rw [if_neg h1] at hQ)
    (try rw [if_pos h2] at hQ)
    simp only [if_neg h1,if_pos h2,unfE,Tr.bind,bind_ite,pl_ite,Tr.pl,if_true,if_false,List.append_assoc,List.cons_append,List.nil_append]
    repeat' (first | (refine hQ _ _ _ ⟨_,?_,rfl⟩ ?_) | (refine And.intro ?_ ?_) | (intro _))
    all_goals (first | rfl | omega | (simp only [List.length_append,List.length_cons,List.length_nil];omega) | (exfalso;omega) | decide | (simp;done) | (simp_all [put1_r,putPair_r,swap_r,Rw.regs,sAddr,sGet,sRep];done))
   ·by_cases h3 : y = 2
    ·have hc :=hc;(try simp only [nAddr,nGet,if_neg h1,if_neg h2,if_pos h3] at hc);(try rw [if_neg (by omega)] at hc)
     obtain ⟨u,rfl⟩ :=len1 hc
     (try rw [if_neg h1] at hQ)
     (try rw [if_neg h2] at hQ)
     (try rw [if_pos h3] at hQ)
     simp only [if_neg h1,if_neg h2,if_pos h3,unfE,Tr.bind,bind_ite,pl_ite,Tr.pl,if_true,if_false,List.append_assoc,List.cons_append,List.nil_append]
     repeat' (first | (refine hQ _ _ _ ⟨_,?_,rfl⟩ ?_) | (refine And.intro ?_ ?_) | (intro _))
     all_goals (first | rfl | omega | (simp only [List.length_append,List.length_cons,List.length_nil];omega) | (exfalso;omega) | decide | (simp;done) | (simp_all [put1_r,putPair_r,swap_r,Rw.regs,sAddr,sGet,sRep];done))
    ·by_cases h4 : y = 3
     ·have hc :=hc;(try simp only [nAddr,nGet,if_neg h1,if_neg h2,if_neg h3,if_pos h4] at hc);(try rw [if_neg (by omega)] at hc)
      obtain ⟨u,rfl⟩ :=len1 hc
      (try rw [if_neg h1] at hQ)
      (try rw [if_neg h2] at hQ)
      (try rw [if_neg h3] at hQ)
      (try rw [if_pos h4] at hQ)
      simp only [if_neg h1,if_neg h2,if_neg h3,if_pos h4,unfE,Tr.bind,bind_ite,pl_ite,Tr.pl,if_true,if_false,List.append_assoc,List.cons_append,List.nil_append]
      repeat' (first | (refine hQ _ _ _ ⟨_,?_,rfl⟩ ?_) | (refine And.intro ?_ ?_) | (intro _))
      all_goals (first | rfl | omega | (simp only [List.length_append,List.length_cons,List.length_nil];omega) | (exfalso;omega) | decide | (simp;done) | (simp_all [put1_r,putPair_r,swap_r,Rw.regs,sAddr,sGet,sRep];done))
     ·have hc :=hc;(try simp only [nAddr,nGet,if_neg h1,if_neg h2,if_neg h3,if_neg h4] at hc);(try rw [if_neg (by omega)] at hc)
      obtain ⟨u,rfl⟩ :=len1 hc
      (try rw [if_neg h1] at hQ)
      (try rw [if_neg h2] at hQ)
      (try rw [if_neg h3] at hQ)
      (try rw [if_neg h4] at hQ)
      simp only [if_neg h1,if_neg h2,if_neg h3,if_neg h4,unfE,Tr.bind,bind_ite,pl_ite,Tr.pl,if_true,if_false,List.append_assoc,List.cons_append,List.nil_append]
      repeat' (first | (refine hQ _ _ _ ⟨_,?_,rfl⟩ ?_) | (refine And.intro ?_ ?_) | (intro _))
      all_goals (first | rfl | omega | (simp only [List.length_append,List.length_cons,List.length_nil];omega) | (exfalso;omega) | decide | (simp;done) | (simp_all [put1_r,putPair_r,swap_r,Rw.regs,sAddr,sGet,sRep];done))
theorem low1_pl {ρ : Rw} {p q : Int} {pc0 : Int} {c : List Int} {ts : Ts} {Q : Unit → Rw → Int → List Int → Ts → Prop} (hp : pc0 = ρ.pc) (hc : c.length = nLow1 q) (ht : ts.length ≤ 2) (hQ : ∀ ρ' p' ts',(∃ s ∈ sLow1 q,ts' = ts ++ s) → (ρ'.r = ρ.r) → Q () ρ' p' [] ts') : (ρ.low1 p q).pl pc0 c ts Q :=by
 subst hp
 unfold Rw.low1
 unfold nLow1 at hc
 unfold sLow1 at hQ
 ·by_cases h5 : q = 0
  ·have hc :=hc;(try simp only [nAddr,nGet,if_pos h5] at hc);(try rw [if_neg (by omega)] at hc)
   obtain ⟨u,v,rfl⟩ :=len2 hc
   (try rw [if_pos h5] at hQ)
   simp only [if_pos h5,unfE,Tr.bind,bind_ite,pl_ite,Tr.pl,if_true,if_false,List.append_assoc,List.cons_append,List.nil_append]
   repeat' (first | (refine hQ _ _ _ ⟨_,?_,rfl⟩ ?_) | (refine And.intro ?_ ?_) | (intro _))
   all_goals (first | rfl | omega | (simp only [List.length_append,List.length_cons,List.length_nil];omega) | (exfalso;omega) | decide | (simp;done) | (simp_all [put1_r,putPair_r,swap_r,Rw.regs,sAddr,sGet,sRep];done))
  ·have hc :=hc;(try simp only [nAddr,nGet,if_neg h5] at hc);(try rw [if_neg (by omega)] at hc)
   obtain rfl :=List.eq_nil_of_length_eq_zero hc
   (try rw [if_neg h5] at hQ)
   simp only [if_neg h5,unfE,Tr.bind,bind_ite,pl_ite,Tr.pl,if_true,if_false,List.append_assoc,List.cons_append,List.nil_append]
   repeat' (first | (refine hQ _ _ _ ⟨_,?_,rfl⟩ ?_) | (refine And.intro ?_ ?_) | (intro _))
   all_goals (first | rfl | omega | (simp only [List.length_append,List.length_cons,List.length_nil];omega) | (exfalso;omega) | decide | (simp;done) | (simp_all [put1_r,putPair_r,swap_r,Rw.regs,sAddr,sGet,sRep];done))
theorem moves_pl {ρ : Rw} {op p : Int} {pc0 : Int} {c : List Int} {ts : Ts} {Q : Unit → Rw → Int → List Int → Ts → Prop} (hp : pc0 = ρ.pc) (hc : c.length = nMoves op) (ht : ts.length ≤ 2) (hQ : ∀ ρ' p' ts',(∃ s ∈ sMoves op,ts' = ts ++ s) → (ρ'.r = ρ.r) → Q () ρ' p' [] ts') : (ρ.moves op p).pl pc0 c ts Q :=by
 subst hp
 unfold Rw.moves
 unfold nMoves at hc
 unfold sMoves at hQ
 ·by_cases h6 : op = 2 ∨ op = 18
  ·have hc :=hc;(try simp only [nAddr,nGet,if_pos h6] at hc);(try rw [if_neg (by omega)] at hc)
   obtain rfl :=List.eq_nil_of_length_eq_zero hc
   (try rw [if_pos h6] at hQ)
   simp only [if_pos h6,unfE,Tr.bind,bind_ite,pl_ite,Tr.pl,if_true,if_false,List.append_assoc,List.cons_append,List.nil_append]
   repeat' (first | (refine hQ _ _ _ ⟨_,?_,rfl⟩ ?_) | (refine And.intro ?_ ?_) | (intro _))
   all_goals (first | rfl | omega | (simp only [List.length_append,List.length_cons,List.length_nil];omega) | (exfalso;omega) | decide | (simp;done) | (simp_all [put1_r,putPair_r,swap_r,Rw.regs,sAddr,sGet,sRep];done))
  ·by_cases h7 : op = 10 ∨ op = 26
   ·have hc :=hc;(try simp only [nAddr,nGet,if_neg h6,if_pos h7] at hc);(try rw [if_neg (by omega)] at hc)
    obtain rfl :=List.eq_nil_of_length_eq_zero hc
    (try rw [if_neg h6] at hQ)
    (try rw [if_pos h7] at hQ)
    simp only [if_neg h6,if_pos h7,unfE,Tr.bind,bind_ite,pl_ite,Tr.pl,if_true,if_false,List.append_assoc,List.cons_append,List.nil_append]
    repeat' (first | (refine hQ _ _ _ ⟨_,?_,rfl⟩ ?_) | (refine And.intro ?_ ?_) | (intro _))
    all_goals (first | rfl | omega | (simp only [List.length_append,List.length_cons,List.length_nil];omega) | (exfalso;omega) | decide | (simp;done) | (simp_all [put1_r,putPair_r,swap_r,Rw.regs,sAddr,sGet,sRep];done))
   ·by_cases h8 : op = 34
    ·have hc :=hc;(try simp only [nAddr,nGet,if_neg h6,if_neg h7,if_pos h8] at hc);(try rw [if_neg (by omega)] at hc)
     obtain ⟨u,v,rfl⟩ :=len2 hc
     (try rw [if_neg h6] at hQ)
     (try rw [if_neg h7] at hQ)
     (try rw [if_pos h8] at hQ)
     simp only [if_neg h6,if_neg h7,if_pos h8,unfE,Tr.bind,bind_ite,pl_ite,Tr.pl,if_true,if_false,List.append_assoc,List.cons_append,List.nil_append]
     repeat' (first | (refine hQ _ _ _ ⟨_,?_,rfl⟩ ?_) | (refine And.intro ?_ ?_) | (intro _))
     all_goals (first | rfl | omega | (simp only [List.length_append,List.length_cons,List.length_nil];omega) | (exfalso;omega) | decide | (simp;done) | (simp_all [put1_r,putPair_r,swap_r,Rw.regs,sAddr,sGet,sRep];done))
    ·by_cases h9 : op = 42
     ·have hc :=hc;(try simp only [nAddr,nGet,if_neg h6,if_neg h7,if_neg h8,if_pos h9] at hc);(try rw [if_neg (by omega)] at hc)
      obtain ⟨u,v,rfl⟩ :=len2 hc
      (try rw [if_neg h6] at hQ)
      (try rw [if_neg h7] at hQ)
      (try rw [if_neg h8] at hQ)
      (try rw [if_pos h9] at hQ)
      simp only [if_neg h6,if_neg h7,if_neg h8,if_pos h9,unfE,Tr.bind,bind_ite,pl_ite,Tr.pl,if_true,if_false,List.append_assoc,List.cons_append,List.nil_append]
      repeat' (first | (refine hQ _ _ _ ⟨_,?_,rfl⟩ ?_) | (refine And.intro ?_ ?_) | (intro _))
      all_goals (first | rfl | omega | (simp only [List.length_append,List.length_cons,List.length_nil];omega) | (exfalso;omega) | decide | (simp;done) | (simp_all [put1_r,putPair_r,swap_r,Rw.regs,sAddr,sGet,sRep];done))
     ·by_cases h10 : op = 50
      ·have hc :=hc;(try simp only [nAddr,nGet,if_neg h6,if_neg h7,if_neg h8,if_neg h9,if_pos h10] at hc);(try rw [if_neg (by omega)] at hc)
       obtain ⟨u,v,rfl⟩ :=len2 hc
       (try rw [if_neg h6] at hQ)
       (try rw [if_neg h7] at hQ)
       (try rw [if_neg h8] at hQ)
       (try rw [if_neg h9] at hQ)
       (try rw [if_pos h10] at hQ)
       simp only [if_neg h6,if_neg h7,if_neg h8,if_neg h9,if_pos h10,unfE,Tr.bind,bind_ite,pl_ite,Tr.pl,if_true,if_false,List.append_assoc,List.cons_append,List.nil_append]
       repeat' (first | (refine hQ _ _ _ ⟨_,?_,rfl⟩ ?_) | (refine And.intro ?_ ?_) | (intro _))
       all_goals (first | rfl | omega | (simp only [List.length_append,List.length_cons,List.length_nil];omega) | (exfalso;omega) | decide | (simp;done) | (simp_all [put1_r,putPair_r,swap_r,Rw.regs,sAddr,sGet,sRep];done))
      ·have hc :=hc;(try simp only [nAddr,nGet,if_neg h6,if_neg h7,if_neg h8,if_neg h9,if_neg h10] at hc);(try rw [if_neg (by omega)] at hc)
       obtain ⟨u,v,rfl⟩ :=len2 hc
       (try rw [if_neg h6] at hQ)
       (try rw [if_neg h7] at hQ)
       (try rw [if_neg h8] at hQ)
       (try rw [if_neg h9] at hQ)
       (try rw [if_neg h10] at hQ)
       simp only [if_neg h6,if_neg h7,if_neg h8,if_neg h9,if_neg h10,unfE,Tr.bind,bind_ite,pl_ite,Tr.pl,if_true,if_false,List.append_assoc,List.cons_append,List.nil_append]
       repeat' (first | (refine hQ _ _ _ ⟨_,?_,rfl⟩ ?_) | (refine And.intro ?_ ?_) | (intro _))
       all_goals (first | rfl | omega | (simp only [List.length_append,List.length_cons,List.length_nil];omega) | (exfalso;omega) | decide | (simp;done) | (simp_all [put1_r,putPair_r,swap_r,Rw.regs,sAddr,sGet,sRep];done))
theorem low3_pl {ρ : Rw} {p q : Int} {pc0 : Int} {c : List Int} {ts : Ts} {Q : Unit → Rw → Int → List Int → Ts → Prop} (hp : pc0 = ρ.pc) (hc : c.length = 0) (ht : ts.length ≤ 2) (hQ : ∀ ρ' p' ts',(∃ s ∈ [[q2]],ts' = ts ++ s) → (ρ'.r = ρ.r) → Q () ρ' p' [] ts') : (ρ.low3 p q).pl pc0 c ts Q :=by
 subst hp
 unfold Rw.low3
 ·skip
  obtain rfl :=List.eq_nil_of_length_eq_zero hc
  simp only [unfE,Tr.bind,bind_ite,pl_ite,Tr.pl,if_true,if_false,List.append_assoc,List.cons_append,List.nil_append]
  repeat' (first | (refine hQ _ _ _ ⟨_,?_,rfl⟩ ?_) | (refine And.intro ?_ ?_) | (intro _))
  all_goals (first | rfl | omega | (simp only [List.length_append,List.length_cons,List.length_nil];omega) | (exfalso;omega) | decide | (simp;done) | (simp_all [put1_r,putPair_r,swap_r,Rw.regs,sAddr,sGet,sRep];done))
theorem low45_pl {ρ : Rw} {y z : Int} {pc0 : Int} {c : List Int} {ts : Ts} {Q : Unit → Rw → Int → List Int → Ts → Prop} (hp : pc0 = ρ.pc) (hc : c.length = nLow45 y ρ.x) (ht : ts.length ≤ 2) (hQ : ∀ ρ' p' ts',(∃ s ∈ sLow45 y ρ.x,ts' = ts ++ s) → (ρ'.r = ρ.r) → Q () ρ' p' [] ts') : (ρ.low45 y z).pl pc0 c ts Q :=by
 subst hp
 unfold Rw.low45
 unfold nLow45 at hc
 unfold sLow45 at hQ
 ·by_cases h11 : y = 6
  ·by_cases h12 : ρ.x = 0
   ·have hc :=hc;(try simp only [nAddr,nGet,if_pos h11,if_pos h12] at hc);(try rw [if_neg (by omega)] at hc)
    obtain rfl :=List.eq_nil_of_length_eq_zero hc
    (try rw [if_pos h11] at hQ)
    (try rw [if_pos h12] at hQ)
    simp only [if_pos h11,if_pos h12,unfE,Tr.bind,bind_ite,pl_ite,Tr.pl,if_true,if_false,List.append_assoc,List.cons_append,List.nil_append]
    repeat' (first | (refine hQ _ _ _ ⟨_,?_,rfl⟩ ?_) | (refine And.intro ?_ ?_) | (intro _))
    all_goals (first | rfl | omega | (simp only [List.length_append,List.length_cons,List.length_nil];omega) | (exfalso;omega) | decide | (simp;done) | (simp_all [put1_r,putPair_r,swap_r,Rw.regs,sAddr,sGet,sRep];done))
   ·have hc :=hc;(try simp only [nAddr,nGet,if_pos h11,if_neg h12] at hc);(try rw [if_neg (by omega)] at hc)
    obtain ⟨u,rfl⟩ :=len1 hc
    (try rw [if_pos h11] at hQ)
    (try rw [if_neg h12] at hQ)
    simp only [if_pos h11,if_neg h12,unfE,Tr.bind,bind_ite,pl_ite,Tr.pl,if_true,if_false,List.append_assoc,List.cons_append,List.nil_append]
    repeat' (first | (refine hQ _ _ _ ⟨_,?_,rfl⟩ ?_) | (refine And.intro ?_ ?_) | (intro _))
    all_goals (first | rfl | omega | (simp only [List.length_append,List.length_cons,List.length_nil];omega) | (exfalso;omega) | decide | (simp;done) | (simp_all [put1_r,putPair_r,swap_r,Rw.regs,sAddr,sGet,sRep];done))
  ·have hc :=hc;(try simp only [nAddr,nGet,if_neg h11] at hc);(try rw [if_neg (by omega)] at hc)
   obtain rfl :=List.eq_nil_of_length_eq_zero hc
   (try rw [if_neg h11] at hQ)
   simp only [if_neg h11,unfE,Tr.bind,bind_ite,pl_ite,Tr.pl,if_true,if_false,List.append_assoc,List.cons_append,List.nil_append]
   repeat' (first | (refine hQ _ _ _ ⟨_,?_,rfl⟩ ?_) | (refine And.intro ?_ ?_) | (intro _))
   all_goals (first | rfl | omega | (simp only [List.length_append,List.length_cons,List.length_nil];omega) | (exfalso;omega) | decide | (simp;done) | (simp_all [put1_r,putPair_r,swap_r,Rw.regs,sAddr,sGet,sRep];done))
theorem low6_pl {ρ : Rw} {y : Int} {pc0 : Int} {c : List Int} {ts : Ts} {Q : Unit → Rw → Int → List Int → Ts → Prop} (hp : pc0 = ρ.pc) (hc : c.length = nLow6 y ρ.x) (ht : ts.length ≤ 2) (hQ : ∀ ρ' p' ts',(∃ s ∈ sLow6 y ρ.x,ts' = ts ++ s) → (ρ'.r = ρ.r) → Q () ρ' p' [] ts') : (ρ.low6 y).pl pc0 c ts Q :=by
 subst hp
 unfold Rw.low6
 unfold nLow6 at hc
 unfold sLow6 at hQ
 ·by_cases h13 : y = 6
  ·by_cases h14 : ρ.x = 0
   ·have hc :=hc;(try simp only [nAddr,nGet,if_pos h13,if_pos h14] at hc);(try rw [if_neg (by omega)] at hc)
    obtain ⟨u,rfl⟩ :=len1 hc
    (try rw [if_pos h13] at hQ)
    (try rw [if_pos h14] at hQ)
    simp only [if_pos h13,if_pos h14,unfE,Tr.bind,bind_ite,pl_ite,Tr.pl,if_true,if_false,List.append_assoc,List.cons_append,List.nil_append]
    repeat' (first | (refine hQ _ _ _ ⟨_,?_,rfl⟩ ?_) | (refine And.intro ?_ ?_) | (intro _))
    all_goals (first | rfl | omega | (simp only [List.length_append,List.length_cons,List.length_nil];omega) | (exfalso;omega) | decide | (simp;done) | (simp_all [put1_r,putPair_r,swap_r,Rw.regs,sAddr,sGet,sRep];done))
   ·have hc :=hc;(try simp only [nAddr,nGet,if_pos h13,if_neg h14] at hc);(try rw [if_neg (by omega)] at hc)
    obtain ⟨u,v,rfl⟩ :=len2 hc
    (try rw [if_pos h13] at hQ)
    (try rw [if_neg h14] at hQ)
    simp only [if_pos h13,if_neg h14,unfE,Tr.bind,bind_ite,pl_ite,Tr.pl,if_true,if_false,List.append_assoc,List.cons_append,List.nil_append]
    repeat' (first | (refine hQ _ _ _ ⟨_,?_,rfl⟩ ?_) | (refine And.intro ?_ ?_) | (intro _))
    all_goals (first | rfl | omega | (simp only [List.length_append,List.length_cons,List.length_nil];omega) | (exfalso;omega) | decide | (simp;done) | (simp_all [put1_r,putPair_r,swap_r,Rw.regs,sAddr,sGet,sRep];done))
  ·have hc :=hc;(try simp only [nAddr,nGet,if_neg h13] at hc);(try rw [if_neg (by omega)] at hc)
   obtain ⟨u,rfl⟩ :=len1 hc
   (try rw [if_neg h13] at hQ)
   simp only [if_neg h13,unfE,Tr.bind,bind_ite,pl_ite,Tr.pl,if_true,if_false,List.append_assoc,List.cons_append,List.nil_append]
   repeat' (first | (refine hQ _ _ _ ⟨_,?_,rfl⟩ ?_) | (refine And.intro ?_ ?_) | (intro _))
   all_goals (first | rfl | omega | (simp only [List.length_append,List.length_cons,List.length_nil];omega) | (exfalso;omega) | decide | (simp;done) | (simp_all [put1_r,putPair_r,swap_r,Rw.regs,sAddr,sGet,sRep];done))
theorem low7_pl {ρ : Rw} {y : Int} {pc0 : Int} {c : List Int} {ts : Ts} {Q : Unit → Rw → Int → List Int → Ts → Prop} (hp : pc0 = ρ.pc) (hc : c.length = 0) (ht : ts.length ≤ 2) (hQ : ∀ ρ' p' ts',(∃ s ∈ [[]],ts' = ts ++ s) → (ρ'.r = ρ.r) → Q () ρ' p' [] ts') : (ρ.low7 y).pl pc0 c ts Q :=by
 subst hp
 unfold Rw.low7
 ·skip
  obtain rfl :=List.eq_nil_of_length_eq_zero hc
  simp only [unfE,Tr.bind,bind_ite,pl_ite,Tr.pl,if_true,if_false,List.append_assoc,List.cons_append,List.nil_append]
  repeat' (first | (refine hQ _ _ _ ⟨_,?_,rfl⟩ ?_) | (refine And.intro ?_ ?_) | (intro _))
  all_goals (first | rfl | omega | (simp only [List.length_append,List.length_cons,List.length_nil];omega) | (exfalso;omega) | decide | (simp;done) | (simp_all [put1_r,putPair_r,swap_r,Rw.regs,sAddr,sGet,sRep];done))
theorem low_pl {ρ : Rw} {op y z p q : Int} {pc0 : Int} {c : List Int} {ts : Ts} {Q : Unit → Rw → Int → List Int → Ts → Prop} (hp : pc0 = ρ.pc) (hc : c.length = nLow op y z q ρ.x) (ht : ts.length ≤ 2) (hQ : ∀ ρ' p' ts',(∃ s ∈ sLow op y z q ρ.x,ts' = ts ++ s) → (ρ'.r = ρ.r) → Q () ρ' p' [] ts') : (ρ.low op y z p q).pl pc0 c ts Q :=by
 subst hp
 unfold Rw.low
 unfold nLow at hc
 unfold sLow at hQ
 ·by_cases h15 : z = 0
  ·(try simp only [if_pos h15] at hc)
   simp only [if_pos h15]
   (try rw [if_pos h15] at hQ)
   exact low0_pl rfl hc ht hQ
  ·by_cases h16 : z = 1
   ·(try simp only [if_neg h15,if_pos h16] at hc)
    simp only [if_neg h15,if_pos h16]
    (try rw [if_neg h15] at hQ)
    (try rw [if_pos h16] at hQ)
    exact low1_pl rfl hc ht hQ
   ·by_cases h17 : z = 2
    ·(try simp only [if_neg h15,if_neg h16,if_pos h17] at hc)
     simp only [if_neg h15,if_neg h16,if_pos h17]
     (try rw [if_neg h15] at hQ)
     (try rw [if_neg h16] at hQ)
     (try rw [if_pos h17] at hQ)
     exact moves_pl rfl hc ht hQ
    ·by_cases h18 : z = 3
     ·(try simp only [if_neg h15,if_neg h16,if_neg h17,if_pos h18] at hc)
      simp only [if_neg h15,if_neg h16,if_neg h17,if_pos h18]
      (try rw [if_neg h15] at hQ)
      (try rw [if_neg h16] at hQ)
      (try rw [if_neg h17] at hQ)
      (try rw [if_pos h18] at hQ)
      exact low3_pl rfl hc ht hQ
     ·by_cases h19 : z = 4 ∨ z = 5
      ·(try simp only [if_neg h15,if_neg h16,if_neg h17,if_neg h18,if_pos h19] at hc)
       simp only [if_neg h15,if_neg h16,if_neg h17,if_neg h18,if_pos h19]
       (try rw [if_neg h15] at hQ)
       (try rw [if_neg h16] at hQ)
       (try rw [if_neg h17] at hQ)
       (try rw [if_neg h18] at hQ)
       (try rw [if_pos h19] at hQ)
       exact low45_pl rfl hc ht hQ
      ·by_cases h20 : z = 6
       ·(try simp only [if_neg h15,if_neg h16,if_neg h17,if_neg h18,if_neg h19,if_pos h20] at hc)
        simp only [if_neg h15,if_neg h16,if_neg h17,if_neg h18,if_neg h19,if_pos h20]
        (try rw [if_neg h15] at hQ)
        (try rw [if_neg h16] at hQ)
        (try rw [if_neg h17] at hQ)
        (try rw [if_neg h18] at hQ)
        (try rw [if_neg h19] at hQ)
        (try rw [if_pos h20] at hQ)
        exact low6_pl rfl hc ht hQ
       ·(try simp only [if_neg h15,if_neg h16,if_neg h17,if_neg h18,if_neg h19,if_neg h20] at hc)
        simp only [if_neg h15,if_neg h16,if_neg h17,if_neg h18,if_neg h19,if_neg h20]
        (try rw [if_neg h15] at hQ)
        (try rw [if_neg h16] at hQ)
        (try rw [if_neg h17] at hQ)
        (try rw [if_neg h18] at hQ)
        (try rw [if_neg h19] at hQ)
        (try rw [if_neg h20] at hQ)
        exact low7_pl rfl hc ht hQ
theorem high1_pl {ρ : Rw} {p q : Int} {pc0 : Int} {c : List Int} {ts : Ts} {Q : Unit → Rw → Int → List Int → Ts → Prop} (hp : pc0 = ρ.pc) (hc : c.length = 0) (ht : ts.length ≤ 2) (hQ : ∀ ρ' p' ts',(∃ s ∈ sHigh1 p q,ts' = ts ++ s) → (ρ'.r = ρ.r) → Q () ρ' p' [] ts') : (ρ.high1 p q).pl pc0 c ts Q :=by
 subst hp
 unfold Rw.high1
 unfold sHigh1 at hQ
 ·by_cases h21 : q = 0
  ·have hc :=hc;(try simp only [nAddr,nGet,if_pos h21] at hc);(try rw [if_neg (by omega)] at hc)
   obtain rfl :=List.eq_nil_of_length_eq_zero hc
   (try rw [if_pos h21] at hQ)
   simp only [if_pos h21,unfE,Tr.bind,bind_ite,pl_ite,Tr.pl,if_true,if_false,List.append_assoc,List.cons_append,List.nil_append]
   repeat' (first | (refine hQ _ _ _ ⟨_,?_,rfl⟩ ?_) | (refine And.intro ?_ ?_) | (intro _))
   all_goals (first | rfl | omega | (simp only [List.length_append,List.length_cons,List.length_nil];omega) | (exfalso;omega) | decide | (simp;done) | (simp_all [put1_r,putPair_r,swap_r,Rw.regs,sAddr,sGet,sRep];done))
  ·by_cases h22 : p = 0
   ·have hc :=hc;(try simp only [nAddr,nGet,if_neg h21,if_pos h22] at hc);(try rw [if_neg (by omega)] at hc)
    obtain rfl :=List.eq_nil_of_length_eq_zero hc
    (try rw [if_neg h21] at hQ)
    (try rw [if_pos h22] at hQ)
    simp only [if_neg h21,if_pos h22,unfE,Tr.bind,bind_ite,pl_ite,Tr.pl,if_true,if_false,List.append_assoc,List.cons_append,List.nil_append]
    repeat' (first | (refine hQ _ _ _ ⟨_,?_,rfl⟩ ?_) | (refine And.intro ?_ ?_) | (intro _))
    all_goals (first | rfl | omega | (simp only [List.length_append,List.length_cons,List.length_nil];omega) | (exfalso;omega) | decide | (simp;done) | (simp_all [put1_r,putPair_r,swap_r,Rw.regs,sAddr,sGet,sRep];done))
   ·by_cases h23 : p = 1
    ·have hc :=hc;(try simp only [nAddr,nGet,if_neg h21,if_neg h22,if_pos h23] at hc);(try rw [if_neg (by omega)] at hc)
     obtain rfl :=List.eq_nil_of_length_eq_zero hc
     (try rw [if_neg h21] at hQ)
     (try rw [if_neg h22] at hQ)
     (try rw [if_pos h23] at hQ)
     simp only [if_neg h21,if_neg h22,if_pos h23,unfE,Tr.bind,bind_ite,pl_ite,Tr.pl,if_true,if_false,List.append_assoc,List.cons_append,List.nil_append]
     repeat' (first | (refine hQ _ _ _ ⟨_,?_,rfl⟩ ?_) | (refine And.intro ?_ ?_) | (intro _))
     all_goals (first | rfl | omega | (simp only [List.length_append,List.length_cons,List.length_nil];omega) | (exfalso;omega) | decide | (simp;done) | (simp_all [put1_r,putPair_r,swap_r,Rw.regs,sAddr,sGet,sRep];done))
    ·by_cases h24 : p = 2
     ·have hc :=hc;(try simp only [nAddr,nGet,if_neg h21,if_neg h22,if_neg h23,if_pos h24] at hc);(try rw [if_neg (by omega)] at hc)
      obtain rfl :=List.eq_nil_of_length_eq_zero hc
      (try rw [if_neg h21] at hQ)
      (try rw [if_neg h22] at hQ)
      (try rw [if_neg h23] at hQ)
      (try rw [if_pos h24] at hQ)
      simp only [if_neg h21,if_neg h22,if_neg h23,if_pos h24,unfE,Tr.bind,bind_ite,pl_ite,Tr.pl,if_true,if_false,List.append_assoc,List.cons_append,List.nil_append]
      repeat' (first | (refine hQ _ _ _ ⟨_,?_,rfl⟩ ?_) | (refine And.intro ?_ ?_) | (intro _))
      all_goals (first | rfl | omega | (simp only [List.length_append,List.length_cons,List.length_nil];omega) | (exfalso;omega) | decide | (simp;done) | (simp_all [put1_r,putPair_r,swap_r,Rw.regs,sAddr,sGet,sRep];done))
     ·have hc :=hc;(try simp only [nAddr,nGet,if_neg h21,if_neg h22,if_neg h23,if_neg h24] at hc);(try rw [if_neg (by omega)] at hc)
      obtain rfl :=List.eq_nil_of_length_eq_zero hc
      (try rw [if_neg h21] at hQ)
      (try rw [if_neg h22] at hQ)
      (try rw [if_neg h23] at hQ)
      (try rw [if_neg h24] at hQ)
      simp only [if_neg h21,if_neg h22,if_neg h23,if_neg h24,unfE,Tr.bind,bind_ite,pl_ite,Tr.pl,if_true,if_false,List.append_assoc,List.cons_append,List.nil_append]
      repeat' (first | (refine hQ _ _ _ ⟨_,?_,rfl⟩ ?_) | (refine And.intro ?_ ?_) | (intro _))
      all_goals (first | rfl | omega | (simp only [List.length_append,List.length_cons,List.length_nil];omega) | (exfalso;omega) | decide | (simp;done) | (simp_all [put1_r,putPair_r,swap_r,Rw.regs,sAddr,sGet,sRep];done))
theorem odd_pl {ρ : Rw} {op : Int} {pc0 : Int} {c : List Int} {ts : Ts} {Q : Unit → Rw → Int → List Int → Ts → Prop} (hp : pc0 = ρ.pc) (hc : c.length = nOdd op) (ht : ts.length ≤ 2) (hQ : ∀ ρ' p' ts',(∃ s ∈ sOdd op,ts' = ts ++ s) → (ρ'.r = ρ.r) → Q () ρ' p' [] ts') : (ρ.odd op).pl pc0 c ts Q :=by
 subst hp
 unfold Rw.odd
 unfold nOdd at hc
 unfold sOdd at hQ
 ·by_cases h25 : op = 195
  ·have hc :=hc;(try simp only [nAddr,nGet,if_pos h25] at hc);(try rw [if_neg (by omega)] at hc)
   obtain ⟨u,v,rfl⟩ :=len2 hc
   (try rw [if_pos h25] at hQ)
   simp only [if_pos h25,unfE,Tr.bind,bind_ite,pl_ite,Tr.pl,if_true,if_false,List.append_assoc,List.cons_append,List.nil_append]
   repeat' (first | (refine hQ _ _ _ ⟨_,?_,rfl⟩ ?_) | (refine And.intro ?_ ?_) | (intro _))
   all_goals (first | rfl | omega | (simp only [List.length_append,List.length_cons,List.length_nil];omega) | (exfalso;omega) | decide | (simp;done) | (simp_all [put1_r,putPair_r,swap_r,Rw.regs,sAddr,sGet,sRep];done))
  ·by_cases h26 : op = 211
   ·have hc :=hc;(try simp only [nAddr,nGet,if_neg h25,if_pos h26] at hc);(try rw [if_neg (by omega)] at hc)
    obtain ⟨u,rfl⟩ :=len1 hc
    (try rw [if_neg h25] at hQ)
    (try rw [if_pos h26] at hQ)
    simp only [if_neg h25,if_pos h26,unfE,Tr.bind,bind_ite,pl_ite,Tr.pl,if_true,if_false,List.append_assoc,List.cons_append,List.nil_append]
    repeat' (first | (refine hQ _ _ _ ⟨_,?_,rfl⟩ ?_) | (refine And.intro ?_ ?_) | (intro _))
    all_goals (first | rfl | omega | (simp only [List.length_append,List.length_cons,List.length_nil];omega) | (exfalso;omega) | decide | (simp;done) | (simp_all [put1_r,putPair_r,swap_r,Rw.regs,sAddr,sGet,sRep];done))
   ·by_cases h27 : op = 219
    ·have hc :=hc;(try simp only [nAddr,nGet,if_neg h25,if_neg h26,if_pos h27] at hc);(try rw [if_neg (by omega)] at hc)
     obtain ⟨u,rfl⟩ :=len1 hc
     (try rw [if_neg h25] at hQ)
     (try rw [if_neg h26] at hQ)
     (try rw [if_pos h27] at hQ)
     simp only [if_neg h25,if_neg h26,if_pos h27,unfE,Tr.bind,bind_ite,pl_ite,Tr.pl,if_true,if_false,List.append_assoc,List.cons_append,List.nil_append]
     repeat' (first | (refine hQ _ _ _ ⟨_,?_,rfl⟩ ?_) | (refine And.intro ?_ ?_) | (intro _))
     all_goals (first | rfl | omega | (simp only [List.length_append,List.length_cons,List.length_nil];omega) | (exfalso;omega) | decide | (simp;done) | (simp_all [put1_r,putPair_r,swap_r,Rw.regs,sAddr,sGet,sRep];done))
    ·by_cases h28 : op = 227
     ·have hc :=hc;(try simp only [nAddr,nGet,if_neg h25,if_neg h26,if_neg h27,if_pos h28] at hc);(try rw [if_neg (by omega)] at hc)
      obtain rfl :=List.eq_nil_of_length_eq_zero hc
      (try rw [if_neg h25] at hQ)
      (try rw [if_neg h26] at hQ)
      (try rw [if_neg h27] at hQ)
      (try rw [if_pos h28] at hQ)
      simp only [if_neg h25,if_neg h26,if_neg h27,if_pos h28,unfE,Tr.bind,bind_ite,pl_ite,Tr.pl,if_true,if_false,List.append_assoc,List.cons_append,List.nil_append]
      repeat' (first | (refine hQ _ _ _ ⟨_,?_,rfl⟩ ?_) | (refine And.intro ?_ ?_) | (intro _))
      all_goals (first | rfl | omega | (simp only [List.length_append,List.length_cons,List.length_nil];omega) | (exfalso;omega) | decide | (simp;done) | (simp_all [put1_r,putPair_r,swap_r,Rw.regs,sAddr,sGet,sRep];done))
     ·by_cases h29 : op = 235
      ·have hc :=hc;(try simp only [nAddr,nGet,if_neg h25,if_neg h26,if_neg h27,if_neg h28,if_pos h29] at hc);(try rw [if_neg (by omega)] at hc)
       obtain rfl :=List.eq_nil_of_length_eq_zero hc
       (try rw [if_neg h25] at hQ)
       (try rw [if_neg h26] at hQ)
       (try rw [if_neg h27] at hQ)
       (try rw [if_neg h28] at hQ)
       (try rw [if_pos h29] at hQ)
       simp only [if_neg h25,if_neg h26,if_neg h27,if_neg h28,if_pos h29,unfE,Tr.bind,bind_ite,pl_ite,Tr.pl,if_true,if_false,List.append_assoc,List.cons_append,List.nil_append]
       repeat' (first | (refine hQ _ _ _ ⟨_,?_,rfl⟩ ?_) | (refine And.intro ?_ ?_) | (intro _))
       all_goals (first | rfl | omega | (simp only [List.length_append,List.length_cons,List.length_nil];omega) | (exfalso;omega) | decide | (simp;done) | (simp_all [put1_r,putPair_r,swap_r,Rw.regs,sAddr,sGet,sRep];done))
      ·by_cases h30 : op = 243
       ·have hc :=hc;(try simp only [nAddr,nGet,if_neg h25,if_neg h26,if_neg h27,if_neg h28,if_neg h29,if_pos h30] at hc);(try rw [if_neg (by omega)] at hc)
        obtain rfl :=List.eq_nil_of_length_eq_zero hc
        (try rw [if_neg h25] at hQ)
        (try rw [if_neg h26] at hQ)
        (try rw [if_neg h27] at hQ)
        (try rw [if_neg h28] at hQ)
        (try rw [if_neg h29] at hQ)
        (try rw [if_pos h30] at hQ)
        simp only [if_neg h25,if_neg h26,if_neg h27,if_neg h28,if_neg h29,if_pos h30,unfE,Tr.bind,bind_ite,pl_ite,Tr.pl,if_true,if_false,List.append_assoc,List.cons_append,List.nil_append]
        repeat' (first | (refine hQ _ _ _ ⟨_,?_,rfl⟩ ?_) | (refine And.intro ?_ ?_) | (intro _))
        all_goals (first | rfl | omega | (simp only [List.length_append,List.length_cons,List.length_nil];omega) | (exfalso;omega) | decide | (simp;done) | (simp_all [put1_r,putPair_r,swap_r,Rw.regs,sAddr,sGet,sRep];done))
       ·by_cases h31 : op = 251
        ·have hc :=hc;(try simp only [nAddr,nGet,if_neg h25,if_neg h26,if_neg h27,if_neg h28,if_neg h29,if_neg h30,if_pos h31] at hc);(try rw [if_neg (by omega)] at hc)
         obtain rfl :=List.eq_nil_of_length_eq_zero hc
         (try rw [if_neg h25] at hQ)
         (try rw [if_neg h26] at hQ)
         (try rw [if_neg h27] at hQ)
         (try rw [if_neg h28] at hQ)
         (try rw [if_neg h29] at hQ)
         (try rw [if_neg h30] at hQ)
         (try rw [if_pos h31] at hQ)
         simp only [if_neg h25,if_neg h26,if_neg h27,if_neg h28,if_neg h29,if_neg h30,if_pos h31,unfE,Tr.bind,bind_ite,pl_ite,Tr.pl,if_true,if_false,List.append_assoc,List.cons_append,List.nil_append]
         repeat' (first | (refine hQ _ _ _ ⟨_,?_,rfl⟩ ?_) | (refine And.intro ?_ ?_) | (intro _))
         all_goals (first | rfl | omega | (simp only [List.length_append,List.length_cons,List.length_nil];omega) | (exfalso;omega) | decide | (simp;done) | (simp_all [put1_r,putPair_r,swap_r,Rw.regs,sAddr,sGet,sRep];done))
        ·have hc :=hc;(try simp only [nAddr,nGet,if_neg h25,if_neg h26,if_neg h27,if_neg h28,if_neg h29,if_neg h30,if_neg h31] at hc);(try rw [if_neg (by omega)] at hc)
         obtain rfl :=List.eq_nil_of_length_eq_zero hc
         (try rw [if_neg h25] at hQ)
         (try rw [if_neg h26] at hQ)
         (try rw [if_neg h27] at hQ)
         (try rw [if_neg h28] at hQ)
         (try rw [if_neg h29] at hQ)
         (try rw [if_neg h30] at hQ)
         (try rw [if_neg h31] at hQ)
         simp only [if_neg h25,if_neg h26,if_neg h27,if_neg h28,if_neg h29,if_neg h30,if_neg h31,unfE,Tr.bind,bind_ite,pl_ite,Tr.pl,if_true,if_false,List.append_assoc,List.cons_append,List.nil_append]
         repeat' (first | (refine hQ _ _ _ ⟨_,?_,rfl⟩ ?_) | (refine And.intro ?_ ?_) | (intro _))
         all_goals (first | rfl | omega | (simp only [List.length_append,List.length_cons,List.length_nil];omega) | (exfalso;omega) | decide | (simp;done) | (simp_all [put1_r,putPair_r,swap_r,Rw.regs,sAddr,sGet,sRep];done))
theorem high5_pl {ρ : Rw} {op p q : Int} {pc0 : Int} {c : List Int} {ts : Ts} {Q : Unit → Rw → Int → List Int → Ts → Prop} (hp : pc0 = ρ.pc) (hc : c.length = nHigh5 op q) (ht : ts.length ≤ 2) (hQ : ∀ ρ' p' ts',(∃ s ∈ sHigh5 op q,ts' = ts ++ s) → (ρ'.r = ρ.r) → Q () ρ' p' [] ts') : (ρ.high5 op p q).pl pc0 c ts Q :=by
 subst hp
 unfold Rw.high5
 unfold nHigh5 at hc
 unfold sHigh5 at hQ
 ·by_cases h32 : q = 0
  ·have hc :=hc;(try simp only [nAddr,nGet,if_pos h32] at hc);(try rw [if_neg (by omega)] at hc)
   obtain rfl :=List.eq_nil_of_length_eq_zero hc
   (try rw [if_pos h32] at hQ)
   simp only [if_pos h32,unfE,Tr.bind,bind_ite,pl_ite,Tr.pl,if_true,if_false,List.append_assoc,List.cons_append,List.nil_append]
   repeat' (first | (refine hQ _ _ _ ⟨_,?_,rfl⟩ ?_) | (refine And.intro ?_ ?_) | (intro _))
   all_goals (first | rfl | omega | (simp only [List.length_append,List.length_cons,List.length_nil];omega) | (exfalso;omega) | decide | (simp;done) | (simp_all [put1_r,putPair_r,swap_r,Rw.regs,sAddr,sGet,sRep];done))
  ·by_cases h33 : op = 205
   ·have hc :=hc;(try simp only [nAddr,nGet,if_neg h32,if_pos h33] at hc);(try rw [if_neg (by omega)] at hc)
    obtain ⟨u,v,rfl⟩ :=len2 hc
    (try rw [if_neg h32] at hQ)
    (try rw [if_pos h33] at hQ)
    simp only [if_neg h32,if_pos h33,unfE,Tr.bind,bind_ite,pl_ite,Tr.pl,if_true,if_false,List.append_assoc,List.cons_append,List.nil_append]
    repeat' (first | (refine hQ _ _ _ ⟨_,?_,rfl⟩ ?_) | (refine And.intro ?_ ?_) | (intro _))
    all_goals (first | rfl | omega | (simp only [List.length_append,List.length_cons,List.length_nil];omega) | (exfalso;omega) | decide | (simp;done) | (simp_all [put1_r,putPair_r,swap_r,Rw.regs,sAddr,sGet,sRep];done))
   ·have hc :=hc;(try simp only [nAddr,nGet,if_neg h32,if_neg h33] at hc);(try rw [if_neg (by omega)] at hc)
    obtain rfl :=List.eq_nil_of_length_eq_zero hc
    (try rw [if_neg h32] at hQ)
    (try rw [if_neg h33] at hQ)
    simp only [if_neg h32,if_neg h33,unfE,Tr.bind,bind_ite,pl_ite,Tr.pl,if_true,if_false,List.append_assoc,List.cons_append,List.nil_append]
    repeat' (first | (refine hQ _ _ _ ⟨_,?_,rfl⟩ ?_) | (refine And.intro ?_ ?_) | (intro _))
    all_goals (first | rfl | omega | (simp only [List.length_append,List.length_cons,List.length_nil];omega) | (exfalso;omega) | decide | (simp;done) | (simp_all [put1_r,putPair_r,swap_r,Rw.regs,sAddr,sGet,sRep];done))
theorem high_pl {ρ : Rw} {op y z p q : Int} {pc0 : Int} {c : List Int} {ts : Ts} {Q : Unit → Rw → Int → List Int → Ts → Prop} (hp : pc0 = ρ.pc) (hc : c.length = nHigh op z q) (ht : ts.length ≤ 2) (hQ : ∀ ρ' p' ts',(∃ s ∈ sHigh op z p q,ts' = ts ++ s) → (ρ'.r = ρ.r) → Q () ρ' p' [] ts') : (ρ.high op y z p q).pl pc0 c ts Q :=by
 subst hp
 unfold Rw.high
 unfold nHigh at hc
 unfold sHigh at hQ
 ·by_cases h34 : z = 0
  ·have hc :=hc;(try simp only [nAddr,nGet,if_pos h34] at hc);(try rw [if_neg (by omega)] at hc)
   obtain rfl :=List.eq_nil_of_length_eq_zero hc
   (try rw [if_pos h34] at hQ)
   simp only [if_pos h34,unfE,Tr.bind,bind_ite,pl_ite,Tr.pl,if_true,if_false,List.append_assoc,List.cons_append,List.nil_append]
   repeat' (first | (refine hQ _ _ _ ⟨_,?_,rfl⟩ ?_) | (refine And.intro ?_ ?_) | (intro _))
   all_goals (first | rfl | omega | (simp only [List.length_append,List.length_cons,List.length_nil];omega) | (exfalso;omega) | decide | (simp;done) | (simp_all [put1_r,putPair_r,swap_r,Rw.regs,sAddr,sGet,sRep];done))
  ·by_cases h35 : z = 1
   ·(try simp only [if_neg h34,if_pos h35] at hc)
    simp only [if_neg h34,if_pos h35]
    (try rw [if_neg h34] at hQ)
    (try rw [if_pos h35] at hQ)
    exact high1_pl rfl hc ht hQ
   ·by_cases h36 : z = 2
    ·have hc :=hc;(try simp only [nAddr,nGet,if_neg h34,if_neg h35,if_pos h36] at hc);(try rw [if_neg (by omega)] at hc)
     obtain ⟨u,v,rfl⟩ :=len2 hc
     (try rw [if_neg h34] at hQ)
     (try rw [if_neg h35] at hQ)
     (try rw [if_pos h36] at hQ)
     simp only [if_neg h34,if_neg h35,if_pos h36,unfE,Tr.bind,bind_ite,pl_ite,Tr.pl,if_true,if_false,List.append_assoc,List.cons_append,List.nil_append]
     repeat' (first | (refine hQ _ _ _ ⟨_,?_,rfl⟩ ?_) | (refine And.intro ?_ ?_) | (intro _))
     all_goals (first | rfl | omega | (simp only [List.length_append,List.length_cons,List.length_nil];omega) | (exfalso;omega) | decide | (simp;done) | (simp_all [put1_r,putPair_r,swap_r,Rw.regs,sAddr,sGet,sRep];done))
    ·by_cases h37 : z = 3
     ·(try simp only [if_neg h34,if_neg h35,if_neg h36,if_pos h37] at hc)
      simp only [if_neg h34,if_neg h35,if_neg h36,if_pos h37]
      (try rw [if_neg h34] at hQ)
      (try rw [if_neg h35] at hQ)
      (try rw [if_neg h36] at hQ)
      (try rw [if_pos h37] at hQ)
      rw [bind_unit];exact odd_pl rfl hc ht hQ
     ·by_cases h38 : z = 4
      ·have hc :=hc;(try simp only [nAddr,nGet,if_neg h34,if_neg h35,if_neg h36,if_neg h37,if_pos h38] at hc);(try rw [if_neg (by omega)] at hc)
       obtain ⟨u,v,rfl⟩ :=len2 hc
       (try rw [if_neg h34] at hQ)
       (try rw [if_neg h35] at hQ)
       (try rw [if_neg h36] at hQ)
       (try rw [if_neg h37] at hQ)
       (try rw [if_pos h38] at hQ)
       simp only [if_neg h34,if_neg h35,if_neg h36,if_neg h37,if_pos h38,unfE,Tr.bind,bind_ite,pl_ite,Tr.pl,if_true,if_false,List.append_assoc,List.cons_append,List.nil_append]
       repeat' (first | (refine hQ _ _ _ ⟨_,?_,rfl⟩ ?_) | (refine And.intro ?_ ?_) | (intro _))
       all_goals (first | rfl | omega | (simp only [List.length_append,List.length_cons,List.length_nil];omega) | (exfalso;omega) | decide | (simp;done) | (simp_all [put1_r,putPair_r,swap_r,Rw.regs,sAddr,sGet,sRep];done))
      ·by_cases h39 : z = 5
       ·(try simp only [if_neg h34,if_neg h35,if_neg h36,if_neg h37,if_neg h38,if_pos h39] at hc)
        simp only [if_neg h34,if_neg h35,if_neg h36,if_neg h37,if_neg h38,if_pos h39]
        (try rw [if_neg h34] at hQ)
        (try rw [if_neg h35] at hQ)
        (try rw [if_neg h36] at hQ)
        (try rw [if_neg h37] at hQ)
        (try rw [if_neg h38] at hQ)
        (try rw [if_pos h39] at hQ)
        exact high5_pl rfl hc ht hQ
       ·by_cases h40 : z = 6
        ·have hc :=hc;(try simp only [nAddr,nGet,if_neg h34,if_neg h35,if_neg h36,if_neg h37,if_neg h38,if_neg h39,if_pos h40] at hc);(try rw [if_neg (by omega)] at hc)
         obtain ⟨u,rfl⟩ :=len1 hc
         (try rw [if_neg h34] at hQ)
         (try rw [if_neg h35] at hQ)
         (try rw [if_neg h36] at hQ)
         (try rw [if_neg h37] at hQ)
         (try rw [if_neg h38] at hQ)
         (try rw [if_neg h39] at hQ)
         (try rw [if_pos h40] at hQ)
         simp only [if_neg h34,if_neg h35,if_neg h36,if_neg h37,if_neg h38,if_neg h39,if_pos h40,unfE,Tr.bind,bind_ite,pl_ite,Tr.pl,if_true,if_false,List.append_assoc,List.cons_append,List.nil_append]
         repeat' (first | (refine hQ _ _ _ ⟨_,?_,rfl⟩ ?_) | (refine And.intro ?_ ?_) | (intro _))
         all_goals (first | rfl | omega | (simp only [List.length_append,List.length_cons,List.length_nil];omega) | (exfalso;omega) | decide | (simp;done) | (simp_all [put1_r,putPair_r,swap_r,Rw.regs,sAddr,sGet,sRep];done))
        ·have hc :=hc;(try simp only [nAddr,nGet,if_neg h34,if_neg h35,if_neg h36,if_neg h37,if_neg h38,if_neg h39,if_neg h40] at hc);(try rw [if_neg (by omega)] at hc)
         obtain rfl :=List.eq_nil_of_length_eq_zero hc
         (try rw [if_neg h34] at hQ)
         (try rw [if_neg h35] at hQ)
         (try rw [if_neg h36] at hQ)
         (try rw [if_neg h37] at hQ)
         (try rw [if_neg h38] at hQ)
         (try rw [if_neg h39] at hQ)
         (try rw [if_neg h40] at hQ)
         simp only [if_neg h34,if_neg h35,if_neg h36,if_neg h37,if_neg h38,if_neg h39,if_neg h40,unfE,Tr.bind,bind_ite,pl_ite,Tr.pl,if_true,if_false,List.append_assoc,List.cons_append,List.nil_append]
         repeat' (first | (refine hQ _ _ _ ⟨_,?_,rfl⟩ ?_) | (refine And.intro ?_ ?_) | (intro _))
         all_goals (first | rfl | omega | (simp only [List.length_append,List.length_cons,List.length_nil];omega) | (exfalso;omega) | decide | (simp;done) | (simp_all [put1_r,putPair_r,swap_r,Rw.regs,sAddr,sGet,sRep];done))
theorem main_pl {ρ : Rw} {op : Int} {pc0 : Int} {c : List Int} {ts : Ts} {Q : Unit → Rw → Int → List Int → Ts → Prop} (hp : pc0 = ρ.pc) (hc : c.length = nMain op ρ.x) (ht : ts.length ≤ 2) (hQ : ∀ ρ' p' ts',(∃ s ∈ sMain op ρ.x,ts' = ts ++ s) → (ρ'.r = ρ.r) → Q () ρ' p' [] ts') : (ρ.main op).pl pc0 c ts Q :=by
 subst hp
 unfold Rw.main
 unfold nMain at hc
 unfold sMain at hQ
 ·by_cases h41 : px op = 0
  ·(try simp only [if_pos h41] at hc)
   simp only [if_pos h41]
   (try rw [if_pos h41] at hQ)
   rw [bind_unit];exact low_pl (ρ :={ρ with disp :=vNeeds1 0 ρ.x op}) rfl hc ht hQ
  ·by_cases h42 : px op = 1
   ·by_cases h43 : op = 118
    ·have hc :=hc;(try simp only [nAddr,nGet,if_neg h41,if_pos h42,if_pos h43] at hc);(try rw [if_neg (by omega)] at hc)
     obtain rfl :=List.eq_nil_of_length_eq_zero hc
     (try rw [if_neg h41] at hQ)
     (try rw [if_pos h42] at hQ)
     (try rw [if_pos h43] at hQ)
     simp only [if_neg h41,if_pos h42,if_pos h43,unfE,Tr.bind,bind_ite,pl_ite,Tr.pl,if_true,if_false,List.append_assoc,List.cons_append,List.nil_append]
     repeat' (first | (refine hQ _ _ _ ⟨_,?_,rfl⟩ ?_) | (refine And.intro ?_ ?_) | (intro _))
     all_goals (first | rfl | omega | (simp only [List.length_append,List.length_cons,List.length_nil];omega) | (exfalso;omega) | decide | (simp;done) | (simp_all [put1_r,putPair_r,swap_r,Rw.regs,sAddr,sGet,sRep];done))
    ·by_cases h44 : py op = 6
     ·by_cases h45 : ρ.x = 0
      ·have hc :=hc;(try simp only [nAddr,nGet,if_neg h41,if_pos h42,if_neg h43,if_pos h44,if_pos h45] at hc);(try rw [if_neg (by omega)] at hc)
       obtain rfl :=List.eq_nil_of_length_eq_zero hc
       (try rw [if_neg h41] at hQ)
       (try rw [if_pos h42] at hQ)
       (try rw [if_neg h43] at hQ)
       (try rw [if_pos h44] at hQ)
       (try rw [if_pos h45] at hQ)
       simp only [if_neg h41,if_pos h42,if_neg h43,if_pos h44,if_pos h45,unfE,Tr.bind,bind_ite,pl_ite,Tr.pl,if_true,if_false,List.append_assoc,List.cons_append,List.nil_append]
       repeat' (first | (refine hQ _ _ _ ⟨_,?_,rfl⟩ ?_) | (refine And.intro ?_ ?_) | (intro _))
       all_goals (first | rfl | omega | (simp only [List.length_append,List.length_cons,List.length_nil];omega) | (exfalso;omega) | decide | (simp;done) | (simp_all [put1_r,putPair_r,swap_r,Rw.regs,sAddr,sGet,sRep];done))
      ·have hc :=hc;(try simp only [nAddr,nGet,if_neg h41,if_pos h42,if_neg h43,if_pos h44,if_neg h45] at hc);(try rw [if_neg (by omega)] at hc)
       obtain ⟨u,rfl⟩ :=len1 hc
       (try rw [if_neg h41] at hQ)
       (try rw [if_pos h42] at hQ)
       (try rw [if_neg h43] at hQ)
       (try rw [if_pos h44] at hQ)
       (try rw [if_neg h45] at hQ)
       simp only [if_neg h41,if_pos h42,if_neg h43,if_pos h44,if_neg h45,unfE,Tr.bind,bind_ite,pl_ite,Tr.pl,if_true,if_false,List.append_assoc,List.cons_append,List.nil_append]
       repeat' (first | (refine hQ _ _ _ ⟨_,?_,rfl⟩ ?_) | (refine And.intro ?_ ?_) | (intro _))
       all_goals (first | rfl | omega | (simp only [List.length_append,List.length_cons,List.length_nil];omega) | (exfalso;omega) | decide | (simp;done) | (simp_all [put1_r,putPair_r,swap_r,Rw.regs,sAddr,sGet,sRep];done))
     ·by_cases h46 : pz op = 6
      ·by_cases h47 : ρ.x = 0
       ·have hc :=hc;(try simp only [nAddr,nGet,if_neg h41,if_pos h42,if_neg h43,if_neg h44,if_pos h46,if_pos h47] at hc);(try rw [if_neg (by omega)] at hc)
        obtain rfl :=List.eq_nil_of_length_eq_zero hc
        (try rw [if_neg h41] at hQ)
        (try rw [if_pos h42] at hQ)
        (try rw [if_neg h43] at hQ)
        (try rw [if_neg h44] at hQ)
        (try rw [if_pos h46] at hQ)
        (try rw [if_pos h47] at hQ)
        simp only [if_neg h41,if_pos h42,if_neg h43,if_neg h44,if_pos h46,if_pos h47,unfE,Tr.bind,bind_ite,pl_ite,Tr.pl,if_true,if_false,List.append_assoc,List.cons_append,List.nil_append]
        repeat' (first | (refine hQ _ _ _ ⟨_,?_,rfl⟩ ?_) | (refine And.intro ?_ ?_) | (intro _))
        all_goals (first | rfl | omega | (simp only [List.length_append,List.length_cons,List.length_nil];omega) | (exfalso;omega) | decide | (simp;done) | (simp_all [put1_r,putPair_r,swap_r,Rw.regs,sAddr,sGet,sRep];done))
       ·have hc :=hc;(try simp only [nAddr,nGet,if_neg h41,if_pos h42,if_neg h43,if_neg h44,if_pos h46,if_neg h47] at hc);(try rw [if_neg (by omega)] at hc)
        obtain ⟨u,rfl⟩ :=len1 hc
        (try rw [if_neg h41] at hQ)
        (try rw [if_pos h42] at hQ)
        (try rw [if_neg h43] at hQ)
        (try rw [if_neg h44] at hQ)
        (try rw [if_pos h46] at hQ)
        (try rw [if_neg h47] at hQ)
        simp only [if_neg h41,if_pos h42,if_neg h43,if_neg h44,if_pos h46,if_neg h47,unfE,Tr.bind,bind_ite,pl_ite,Tr.pl,if_true,if_false,List.append_assoc,List.cons_append,List.nil_append]
        repeat' (first | (refine hQ _ _ _ ⟨_,?_,rfl⟩ ?_) | (refine And.intro ?_ ?_) | (intro _))
        all_goals (first | rfl | omega | (simp only [List.length_append,List.length_cons,List.length_nil];omega) | (exfalso;omega) | decide | (simp;done) | (simp_all [put1_r,putPair_r,swap_r,Rw.regs,sAddr,sGet,sRep];done))
      ·have hc :=hc;(try simp only [nAddr,nGet,if_neg h41,if_pos h42,if_neg h43,if_neg h44,if_neg h46] at hc);(try rw [if_neg (by omega)] at hc)
       obtain rfl :=List.eq_nil_of_length_eq_zero hc
       (try rw [if_neg h41] at hQ)
       (try rw [if_pos h42] at hQ)
       (try rw [if_neg h43] at hQ)
       (try rw [if_neg h44] at hQ)
       (try rw [if_neg h46] at hQ)
       simp only [if_neg h41,if_pos h42,if_neg h43,if_neg h44,if_neg h46,unfE,Tr.bind,bind_ite,pl_ite,Tr.pl,if_true,if_false,List.append_assoc,List.cons_append,List.nil_append]
       repeat' (first | (refine hQ _ _ _ ⟨_,?_,rfl⟩ ?_) | (refine And.intro ?_ ?_) | (intro _))
       all_goals (first | rfl | omega | (simp only [List.length_append,List.length_cons,List.length_nil];omega) | (exfalso;omega) | decide | (simp;done) | (simp_all [put1_r,putPair_r,swap_r,Rw.regs,sAddr,sGet,sRep];done))
   ·by_cases h48 : px op = 2
    ·by_cases h49 : pz op = 6
     ·by_cases h50 : ρ.x = 0
      ·have hc :=hc;(try simp only [nAddr,nGet,if_neg h41,if_neg h42,if_pos h48,if_pos h49,if_pos h50] at hc);(try rw [if_neg (by omega)] at hc)
       obtain rfl :=List.eq_nil_of_length_eq_zero hc
       (try rw [if_neg h41] at hQ)
       (try rw [if_neg h42] at hQ)
       (try rw [if_pos h48] at hQ)
       (try rw [if_pos h49] at hQ)
       (try rw [if_pos h50] at hQ)
       simp only [if_neg h41,if_neg h42,if_pos h48,if_pos h49,if_pos h50,unfE,Tr.bind,bind_ite,pl_ite,Tr.pl,if_true,if_false,List.append_assoc,List.cons_append,List.nil_append]
       repeat' (first | (refine hQ _ _ _ ⟨_,?_,rfl⟩ ?_) | (refine And.intro ?_ ?_) | (intro _))
       all_goals (first | rfl | omega | (simp only [List.length_append,List.length_cons,List.length_nil];omega) | (exfalso;omega) | decide | (simp;done) | (simp_all [put1_r,putPair_r,swap_r,Rw.regs,sAddr,sGet,sRep];done))
      ·have hc :=hc;(try simp only [nAddr,nGet,if_neg h41,if_neg h42,if_pos h48,if_pos h49,if_neg h50] at hc);(try rw [if_neg (by omega)] at hc)
       obtain ⟨u,rfl⟩ :=len1 hc
       (try rw [if_neg h41] at hQ)
       (try rw [if_neg h42] at hQ)
       (try rw [if_pos h48] at hQ)
       (try rw [if_pos h49] at hQ)
       (try rw [if_neg h50] at hQ)
       simp only [if_neg h41,if_neg h42,if_pos h48,if_pos h49,if_neg h50,unfE,Tr.bind,bind_ite,pl_ite,Tr.pl,if_true,if_false,List.append_assoc,List.cons_append,List.nil_append]
       repeat' (first | (refine hQ _ _ _ ⟨_,?_,rfl⟩ ?_) | (refine And.intro ?_ ?_) | (intro _))
       all_goals (first | rfl | omega | (simp only [List.length_append,List.length_cons,List.length_nil];omega) | (exfalso;omega) | decide | (simp;done) | (simp_all [put1_r,putPair_r,swap_r,Rw.regs,sAddr,sGet,sRep];done))
     ·have hc :=hc;(try simp only [nAddr,nGet,if_neg h41,if_neg h42,if_pos h48,if_neg h49] at hc);(try rw [if_neg (by omega)] at hc)
      obtain rfl :=List.eq_nil_of_length_eq_zero hc
      (try rw [if_neg h41] at hQ)
      (try rw [if_neg h42] at hQ)
      (try rw [if_pos h48] at hQ)
      (try rw [if_neg h49] at hQ)
      simp only [if_neg h41,if_neg h42,if_pos h48,if_neg h49,unfE,Tr.bind,bind_ite,pl_ite,Tr.pl,if_true,if_false,List.append_assoc,List.cons_append,List.nil_append]
      repeat' (first | (refine hQ _ _ _ ⟨_,?_,rfl⟩ ?_) | (refine And.intro ?_ ?_) | (intro _))
      all_goals (first | rfl | omega | (simp only [List.length_append,List.length_cons,List.length_nil];omega) | (exfalso;omega) | decide | (simp;done) | (simp_all [put1_r,putPair_r,swap_r,Rw.regs,sAddr,sGet,sRep];done))
    ·(try simp only [if_neg h41,if_neg h42,if_neg h48] at hc)
     simp only [if_neg h41,if_neg h42,if_neg h48]
     (try rw [if_neg h41] at hQ)
     (try rw [if_neg h42] at hQ)
     (try rw [if_neg h48] at hQ)
     rw [bind_unit];exact high_pl (ρ :={ρ with disp :=vNeeds1 0 ρ.x op}) rfl hc ht hQ
theorem setBits_pl {ρ : Rw} {op : Int} {pc0 : Int} {c : List Int} {ts : Ts} {Q : Unit → Rw → Int → List Int → Ts → Prop} (hp : pc0 = ρ.pc) (hc : c.length = 0) (ht : ts.length ≤ 2) (hQ : ∀ ρ' p' ts',(∃ s ∈ sBits op,ts' = ts ++ s) → (ρ'.r = ρ.r) → Q () ρ' p' [] ts') : (ρ.setBits op).pl pc0 c ts Q :=by
 subst hp
 unfold Rw.setBits
 unfold sBits at hQ
 ·by_cases h51 : m7 op = 6
  ·by_cases h52 : px op = 1
   ·have hc :=hc;(try simp only [nAddr,nGet,if_pos h51,if_pos h52] at hc);(try rw [if_neg (by omega)] at hc)
    obtain rfl :=List.eq_nil_of_length_eq_zero hc
    (try rw [if_pos h51] at hQ)
    (try rw [if_pos h52] at hQ)
    simp only [if_pos h51,if_pos h52,unfE,Tr.bind,bind_ite,pl_ite,Tr.pl,if_true,if_false,List.append_assoc,List.cons_append,List.nil_append]
    repeat' (first | (refine hQ _ _ _ ⟨_,?_,rfl⟩ ?_) | (refine And.intro ?_ ?_) | (intro _))
    all_goals (first | rfl | omega | (simp only [List.length_append,List.length_cons,List.length_nil];omega) | (exfalso;omega) | decide | (simp;done) | (simp_all [put1_r,putPair_r,swap_r,Rw.regs,sAddr,sGet,sRep];done))
   ·have hc :=hc;(try simp only [nAddr,nGet,if_pos h51,if_neg h52] at hc);(try rw [if_neg (by omega)] at hc)
    obtain rfl :=List.eq_nil_of_length_eq_zero hc
    (try rw [if_pos h51] at hQ)
    (try rw [if_neg h52] at hQ)
    simp only [if_pos h51,if_neg h52,unfE,Tr.bind,bind_ite,pl_ite,Tr.pl,if_true,if_false,List.append_assoc,List.cons_append,List.nil_append]
    repeat' (first | (refine hQ _ _ _ ⟨_,?_,rfl⟩ ?_) | (refine And.intro ?_ ?_) | (intro _))
    all_goals (first | rfl | omega | (simp only [List.length_append,List.length_cons,List.length_nil];omega) | (exfalso;omega) | decide | (simp;done) | (simp_all [put1_r,putPair_r,swap_r,Rw.regs,sAddr,sGet,sRep];done))
  ·have hc :=hc;(try simp only [nAddr,nGet,if_neg h51] at hc);(try rw [if_neg (by omega)] at hc)
   obtain rfl :=List.eq_nil_of_length_eq_zero hc
   (try rw [if_neg h51] at hQ)
   simp only [if_neg h51,unfE,Tr.bind,bind_ite,pl_ite,Tr.pl,if_true,if_false,List.append_assoc,List.cons_append,List.nil_append]
   repeat' (first | (refine hQ _ _ _ ⟨_,?_,rfl⟩ ?_) | (refine And.intro ?_ ?_) | (intro _))
   all_goals (first | rfl | omega | (simp only [List.length_append,List.length_cons,List.length_nil];omega) | (exfalso;omega) | decide | (simp;done) | (simp_all [put1_r,putPair_r,swap_r,Rw.regs,sAddr,sGet,sRep];done))
theorem accumulator_pl {ρ : Rw} {y hl : Int} {pc0 : Int} {c : List Int} {ts : Ts} {Q : Unit → Rw → Int → List Int → Ts → Prop} (hp : pc0 = ρ.pc) (hc : c.length = 0) (ht : ts.length ≤ 2) (hQ : ∀ ρ' p' ts',(∃ s ∈ sAcc y,ts' = ts ++ s) → (y ≠ 1 → ρ'.r = ρ.r) → Q () ρ' p' [] ts') : (ρ.accumulator y hl).pl pc0 c ts Q :=by
 subst hp
 unfold Rw.accumulator
 unfold sAcc at hQ
 ·by_cases h53 : y = 0 ∨ y = 1 ∨ y = 2 ∨ y = 3
  ·have hc :=hc;(try simp only [nAddr,nGet,if_pos h53] at hc);(try rw [if_neg (by omega)] at hc)
   obtain rfl :=List.eq_nil_of_length_eq_zero hc
   (try rw [if_pos h53] at hQ)
   simp only [if_pos h53,unfE,Tr.bind,bind_ite,pl_ite,Tr.pl,if_true,if_false,List.append_assoc,List.cons_append,List.nil_append]
   repeat' (first | (refine hQ _ _ _ ⟨_,?_,rfl⟩ ?_) | (refine And.intro ?_ ?_) | (intro _))
   all_goals (first | rfl | omega | (simp only [List.length_append,List.length_cons,List.length_nil];omega) | (exfalso;omega) | decide | (simp;done) | (simp_all [put1_r,putPair_r,swap_r,Rw.regs,sAddr,sGet,sRep];done))
  ·by_cases h54 : y = 4 ∨ y = 5
   ·have hc :=hc;(try simp only [nAddr,nGet,if_neg h53,if_pos h54] at hc);(try rw [if_neg (by omega)] at hc)
    obtain rfl :=List.eq_nil_of_length_eq_zero hc
    (try rw [if_neg h53] at hQ)
    (try rw [if_pos h54] at hQ)
    simp only [if_neg h53,if_pos h54,unfE,Tr.bind,bind_ite,pl_ite,Tr.pl,if_true,if_false,List.append_assoc,List.cons_append,List.nil_append]
    repeat' (first | (refine hQ _ _ _ ⟨_,?_,rfl⟩ ?_) | (refine And.intro ?_ ?_) | (intro _))
    all_goals (first | rfl | omega | (simp only [List.length_append,List.length_cons,List.length_nil];omega) | (exfalso;omega) | decide | (simp;done) | (simp_all [put1_r,putPair_r,swap_r,Rw.regs,sAddr,sGet,sRep];done))
   ·have hc :=hc;(try simp only [nAddr,nGet,if_neg h53,if_neg h54] at hc);(try rw [if_neg (by omega)] at hc)
    obtain rfl :=List.eq_nil_of_length_eq_zero hc
    (try rw [if_neg h53] at hQ)
    (try rw [if_neg h54] at hQ)
    simp only [if_neg h53,if_neg h54,unfE,Tr.bind,bind_ite,pl_ite,Tr.pl,if_true,if_false,List.append_assoc,List.cons_append,List.nil_append]
    repeat' (first | (refine hQ _ _ _ ⟨_,?_,rfl⟩ ?_) | (refine And.intro ?_ ?_) | (intro _))
    all_goals (first | rfl | omega | (simp only [List.length_append,List.length_cons,List.length_nil];omega) | (exfalso;omega) | decide | (simp;done) | (simp_all [put1_r,putPair_r,swap_r,Rw.regs,sAddr,sGet,sRep];done))
theorem more1_pl {ρ : Rw} {y z p q : Int} {pc0 : Int} {c : List Int} {ts : Ts} {Q : Unit → Rw → Int → List Int → Ts → Prop} (hp : pc0 = ρ.pc) (hc : c.length = nMore1 z) (ht : ts.length ≤ 2) (h8 : z < 8) (h8' : 0 ≤ z) (hQ : ∀ ρ' p' ts',(∃ s ∈ sMore1 y z q,ts' = ts ++ s) → (¬(y = 1 ∧ z = 7) → ρ'.r = ρ.r) → Q () ρ' p' [] ts') : (ρ.more1 y z p q).pl pc0 c ts Q :=by
 subst hp
 unfold Rw.more1
 unfold nMore1 at hc
 unfold sMore1 at hQ
 ·by_cases h55 : z = 0
  ·have hc :=hc;(try simp only [nAddr,nGet,if_pos h55] at hc);(try rw [if_neg (by omega)] at hc)
   obtain rfl :=List.eq_nil_of_length_eq_zero hc
   (try rw [if_pos h55] at hQ)
   simp only [if_pos h55,unfE,Tr.bind,bind_ite,pl_ite,Tr.pl,if_true,if_false,List.append_assoc,List.cons_append,List.nil_append]
   repeat' (first | (refine hQ _ _ _ ⟨_,?_,rfl⟩ ?_) | (refine And.intro ?_ ?_) | (intro _))
   all_goals (first | rfl | omega | (simp only [List.length_append,List.length_cons,List.length_nil];omega) | (exfalso;omega) | decide | (simp;done) | (simp_all [put1_r,putPair_r,swap_r,Rw.regs,sAddr,sGet,sRep];done))
  ·by_cases h56 : z = 1
   ·have hc :=hc;(try simp only [nAddr,nGet,if_neg h55,if_pos h56] at hc);(try rw [if_neg (by omega)] at hc)
    obtain rfl :=List.eq_nil_of_length_eq_zero hc
    (try rw [if_neg h55] at hQ)
    (try rw [if_pos h56] at hQ)
    simp only [if_neg h55,if_pos h56,unfE,Tr.bind,bind_ite,pl_ite,Tr.pl,if_true,if_false,List.append_assoc,List.cons_append,List.nil_append]
    repeat' (first | (refine hQ _ _ _ ⟨_,?_,rfl⟩ ?_) | (refine And.intro ?_ ?_) | (intro _))
    all_goals (first | rfl | omega | (simp only [List.length_append,List.length_cons,List.length_nil];omega) | (exfalso;omega) | decide | (simp;done) | (simp_all [put1_r,putPair_r,swap_r,Rw.regs,sAddr,sGet,sRep];done))
   ·by_cases h57 : z = 2
    ·have hc :=hc;(try simp only [nAddr,nGet,if_neg h55,if_neg h56,if_pos h57] at hc);(try rw [if_neg (by omega)] at hc)
     obtain rfl :=List.eq_nil_of_length_eq_zero hc
     (try rw [if_neg h55] at hQ)
     (try rw [if_neg h56] at hQ)
     (try rw [if_pos h57] at hQ)
     simp only [if_neg h55,if_neg h56,if_pos h57,unfE,Tr.bind,bind_ite,pl_ite,Tr.pl,if_true,if_false,List.append_assoc,List.cons_append,List.nil_append]
     repeat' (first | (refine hQ _ _ _ ⟨_,?_,rfl⟩ ?_) | (refine And.intro ?_ ?_) | (intro _))
     all_goals (first | rfl | omega | (simp only [List.length_append,List.length_cons,List.length_nil];omega) | (exfalso;omega) | decide | (simp;done) | (simp_all [put1_r,putPair_r,swap_r,Rw.regs,sAddr,sGet,sRep];done))
    ·by_cases h58 : z = 3
     ·by_cases h59 : q = 0
      ·have hc :=hc;(try simp only [nAddr,nGet,if_neg h55,if_neg h56,if_neg h57,if_pos h58,if_pos h59] at hc);(try rw [if_neg (by omega)] at hc)
       obtain ⟨u,v,rfl⟩ :=len2 hc
       (try rw [if_neg h55] at hQ)
       (try rw [if_neg h56] at hQ)
       (try rw [if_neg h57] at hQ)
       (try rw [if_pos h58] at hQ)
       (try rw [if_pos h59] at hQ)
       simp only [if_neg h55,if_neg h56,if_neg h57,if_pos h58,if_pos h59,unfE,Tr.bind,bind_ite,pl_ite,Tr.pl,if_true,if_false,List.append_assoc,List.cons_append,List.nil_append]
       repeat' (first | (refine hQ _ _ _ ⟨_,?_,rfl⟩ ?_) | (refine And.intro ?_ ?_) | (intro _))
       all_goals (first | rfl | omega | (simp only [List.length_append,List.length_cons,List.length_nil];omega) | (exfalso;omega) | decide | (simp;done) | (simp_all [put1_r,putPair_r,swap_r,Rw.regs,sAddr,sGet,sRep];done))
      ·have hc :=hc;(try simp only [nAddr,nGet,if_neg h55,if_neg h56,if_neg h57,if_pos h58,if_neg h59] at hc);(try rw [if_neg (by omega)] at hc)
       obtain ⟨u,v,rfl⟩ :=len2 hc
       (try rw [if_neg h55] at hQ)
       (try rw [if_neg h56] at hQ)
       (try rw [if_neg h57] at hQ)
       (try rw [if_pos h58] at hQ)
       (try rw [if_neg h59] at hQ)
       simp only [if_neg h55,if_neg h56,if_neg h57,if_pos h58,if_neg h59,unfE,Tr.bind,bind_ite,pl_ite,Tr.pl,if_true,if_false,List.append_assoc,List.cons_append,List.nil_append]
       repeat' (first | (refine hQ _ _ _ ⟨_,?_,rfl⟩ ?_) | (refine And.intro ?_ ?_) | (intro _))
       all_goals (first | rfl | omega | (simp only [List.length_append,List.length_cons,List.length_nil];omega) | (exfalso;omega) | decide | (simp;done) | (simp_all [put1_r,putPair_r,swap_r,Rw.regs,sAddr,sGet,sRep];done))
     ·by_cases h60 : z = 4
      ·have hc :=hc;(try simp only [nAddr,nGet,if_neg h55,if_neg h56,if_neg h57,if_neg h58,if_pos h60] at hc);(try rw [if_neg (by omega)] at hc)
       obtain rfl :=List.eq_nil_of_length_eq_zero hc
       (try rw [if_neg h55] at hQ)
       (try rw [if_neg h56] at hQ)
       (try rw [if_neg h57] at hQ)
       (try rw [if_neg h58] at hQ)
       (try rw [if_pos h60] at hQ)
       simp only [if_neg h55,if_neg h56,if_neg h57,if_neg h58,if_pos h60,unfE,Tr.bind,bind_ite,pl_ite,Tr.pl,if_true,if_false,List.append_assoc,List.cons_append,List.nil_append]
       repeat' (first | (refine hQ _ _ _ ⟨_,?_,rfl⟩ ?_) | (refine And.intro ?_ ?_) | (intro _))
       all_goals (first | rfl | omega | (simp only [List.length_append,List.length_cons,List.length_nil];omega) | (exfalso;omega) | decide | (simp;done) | (simp_all [put1_r,putPair_r,swap_r,Rw.regs,sAddr,sGet,sRep];done))
      ·by_cases h61 : z = 5
       ·have hc :=hc;(try simp only [nAddr,nGet,if_neg h55,if_neg h56,if_neg h57,if_neg h58,if_neg h60,if_pos h61] at hc);(try rw [if_neg (by omega)] at hc)
        obtain rfl :=List.eq_nil_of_length_eq_zero hc
        (try rw [if_neg h55] at hQ)
        (try rw [if_neg h56] at hQ)
        (try rw [if_neg h57] at hQ)
        (try rw [if_neg h58] at hQ)
        (try rw [if_neg h60] at hQ)
        (try rw [if_pos h61] at hQ)
        simp only [if_neg h55,if_neg h56,if_neg h57,if_neg h58,if_neg h60,if_pos h61,unfE,Tr.bind,bind_ite,pl_ite,Tr.pl,if_true,if_false,List.append_assoc,List.cons_append,List.nil_append]
        repeat' (first | (refine hQ _ _ _ ⟨_,?_,rfl⟩ ?_) | (refine And.intro ?_ ?_) | (intro _))
        all_goals (first | rfl | omega | (simp only [List.length_append,List.length_cons,List.length_nil];omega) | (exfalso;omega) | decide | (simp;done) | (simp_all [put1_r,putPair_r,swap_r,Rw.regs,sAddr,sGet,sRep];done))
       ·by_cases h62 : z = 6
        ·have hc :=hc;(try simp only [nAddr,nGet,if_neg h55,if_neg h56,if_neg h57,if_neg h58,if_neg h60,if_neg h61,if_pos h62] at hc);(try rw [if_neg (by omega)] at hc)
         obtain rfl :=List.eq_nil_of_length_eq_zero hc
         (try rw [if_neg h55] at hQ)
         (try rw [if_neg h56] at hQ)
         (try rw [if_neg h57] at hQ)
         (try rw [if_neg h58] at hQ)
         (try rw [if_neg h60] at hQ)
         (try rw [if_neg h61] at hQ)
         (try rw [if_pos h62] at hQ)
         simp only [if_neg h55,if_neg h56,if_neg h57,if_neg h58,if_neg h60,if_neg h61,if_pos h62,unfE,Tr.bind,bind_ite,pl_ite,Tr.pl,if_true,if_false,List.append_assoc,List.cons_append,List.nil_append]
         repeat' (first | (refine hQ _ _ _ ⟨_,?_,rfl⟩ ?_) | (refine And.intro ?_ ?_) | (intro _))
         all_goals (first | rfl | omega | (simp only [List.length_append,List.length_cons,List.length_nil];omega) | (exfalso;omega) | decide | (simp;done) | (simp_all [put1_r,putPair_r,swap_r,Rw.regs,sAddr,sGet,sRep];done))
        ·(try simp only [if_neg h55,if_neg h56,if_neg h57,if_neg h58,if_neg h60,if_neg h61,if_neg h62] at hc)
         simp only [if_neg h55,if_neg h56,if_neg h57,if_neg h58,if_neg h60,if_neg h61,if_neg h62]
         (try rw [if_neg h55] at hQ)
         (try rw [if_neg h56] at hQ)
         (try rw [if_neg h57] at hQ)
         (try rw [if_neg h58] at hQ)
         (try rw [if_neg h60] at hQ)
         (try rw [if_neg h61] at hQ)
         (try rw [if_neg h62] at hQ)
         rw [bind_unit];exact accumulator_pl rfl hc ht (fun ρ' p' ts' h1 h2 => hQ ρ' p' ts' h1 (fun hh => h2 (fun h3 => hh ⟨h3,by omega⟩)))
theorem block0_pl {ρ : Rw} {s : Int} {rep : Bool} {pc0 : Int} {c : List Int} {ts : Ts} {Q : Unit → Rw → Int → List Int → Ts → Prop} (hp : pc0 = ρ.pc) (hc : c.length = 0) (ht : ts.length ≤ 2) (hQ : ∀ ρ' p' ts',(∃ s ∈ sRep rep [qN,qW,q2],ts' = ts ++ s) → (ρ'.r = ρ.r) → Q () ρ' p' [] ts') : (ρ.block0 s rep).pl pc0 c ts Q :=by
 subst hp
 unfold Rw.block0
 unfold Rw.blockTail0
 ·by_cases h63 : rep = true
  ·have hc :=hc;(try simp only [nAddr,nGet,if_pos h63] at hc);(try rw [if_neg (by omega)] at hc)
   obtain rfl :=List.eq_nil_of_length_eq_zero hc
   (try rw [if_pos h63] at hQ)
   simp only [if_pos h63,unfE,Tr.bind,bind_ite,pl_ite,Tr.pl,if_true,if_false,List.append_assoc,List.cons_append,List.nil_append]
   repeat' (first | (refine hQ _ _ _ ⟨_,?_,rfl⟩ ?_) | (refine And.intro ?_ ?_) | (intro _))
   all_goals (first | rfl | omega | (simp only [List.length_append,List.length_cons,List.length_nil];omega) | (exfalso;omega) | decide | (simp;done) | (simp_all [put1_r,putPair_r,swap_r,Rw.regs,sAddr,sGet,sRep];done))
  ·have hc :=hc;(try simp only [nAddr,nGet,if_neg h63] at hc);(try rw [if_neg (by omega)] at hc)
   obtain rfl :=List.eq_nil_of_length_eq_zero hc
   (try rw [if_neg h63] at hQ)
   simp only [if_neg h63,unfE,Tr.bind,bind_ite,pl_ite,Tr.pl,if_true,if_false,List.append_assoc,List.cons_append,List.nil_append]
   repeat' (first | (refine hQ _ _ _ ⟨_,?_,rfl⟩ ?_) | (refine And.intro ?_ ?_) | (intro _))
   all_goals (first | rfl | omega | (simp only [List.length_append,List.length_cons,List.length_nil];omega) | (exfalso;omega) | decide | (simp;done) | (simp_all [put1_r,putPair_r,swap_r,Rw.regs,sAddr,sGet,sRep];done))
theorem block1_pl {ρ : Rw} {s : Int} {rep : Bool} {pc0 : Int} {c : List Int} {ts : Ts} {Q : Unit → Rw → Int → List Int → Ts → Prop} (hp : pc0 = ρ.pc) (hc : c.length = 0) (ht : ts.length ≤ 2) (hQ : ∀ ρ' p' ts',(∃ s ∈ sRep rep [qN,q5],ts' = ts ++ s) → (ρ'.r = ρ.r) → Q () ρ' p' [] ts') : (ρ.block1 s rep).pl pc0 c ts Q :=by
 subst hp
 unfold Rw.block1
 unfold Rw.blockTail1
 ·by_cases h64 : rep = true
  ·have hc :=hc;(try simp only [nAddr,nGet,if_pos h64] at hc);(try rw [if_neg (by omega)] at hc)
   obtain rfl :=List.eq_nil_of_length_eq_zero hc
   (try rw [if_pos h64] at hQ)
   simp only [if_pos h64,unfE,Tr.bind,bind_ite,pl_ite,Tr.pl,if_true,if_false,List.append_assoc,List.cons_append,List.nil_append]
   repeat' (first | (refine hQ _ _ _ ⟨_,?_,rfl⟩ ?_) | (refine And.intro ?_ ?_) | (intro _))
   all_goals (first | rfl | omega | (simp only [List.length_append,List.length_cons,List.length_nil];omega) | (exfalso;omega) | decide | (simp;done) | (simp_all [put1_r,putPair_r,swap_r,Rw.regs,sAddr,sGet,sRep];done))
  ·have hc :=hc;(try simp only [nAddr,nGet,if_neg h64] at hc);(try rw [if_neg (by omega)] at hc)
   obtain rfl :=List.eq_nil_of_length_eq_zero hc
   (try rw [if_neg h64] at hQ)
   simp only [if_neg h64,unfE,Tr.bind,bind_ite,pl_ite,Tr.pl,if_true,if_false,List.append_assoc,List.cons_append,List.nil_append]
   repeat' (first | (refine hQ _ _ _ ⟨_,?_,rfl⟩ ?_) | (refine And.intro ?_ ?_) | (intro _))
   all_goals (first | rfl | omega | (simp only [List.length_append,List.length_cons,List.length_nil];omega) | (exfalso;omega) | decide | (simp;done) | (simp_all [put1_r,putPair_r,swap_r,Rw.regs,sAddr,sGet,sRep];done))
theorem block2_pl {ρ : Rw} {s s8 : Int} {rep : Bool} {pc0 : Int} {c : List Int} {ts : Ts} {Q : Unit → Rw → Int → List Int → Ts → Prop} (hp : pc0 = ρ.pc) (hc : c.length = 0) (ht : ts.length ≤ 2) (hQ : ∀ ρ' p' ts',(∃ s ∈ sRep rep [q1,qI,qW],ts' = ts ++ s) → (ρ'.r = ρ.r) → Q () ρ' p' [] ts') : (ρ.block2 s s8 rep).pl pc0 c ts Q :=by
 subst hp
 unfold Rw.block2
 ·by_cases h65 : rep = true
  ·have hc :=hc;(try simp only [nAddr,nGet,if_pos h65] at hc);(try rw [if_neg (by omega)] at hc)
   obtain rfl :=List.eq_nil_of_length_eq_zero hc
   (try rw [if_pos h65] at hQ)
   simp only [if_pos h65,unfE,Tr.bind,bind_ite,pl_ite,Tr.pl,if_true,if_false,List.append_assoc,List.cons_append,List.nil_append]
   repeat' (first | (refine hQ _ _ _ ⟨_,?_,rfl⟩ ?_) | (refine And.intro ?_ ?_) | (intro _))
   all_goals (first | rfl | omega | (simp only [List.length_append,List.length_cons,List.length_nil];omega) | (exfalso;omega) | decide | (simp;done) | (simp_all [put1_r,putPair_r,swap_r,Rw.regs,sAddr,sGet,sRep];done))
  ·have hc :=hc;(try simp only [nAddr,nGet,if_neg h65] at hc);(try rw [if_neg (by omega)] at hc)
   obtain rfl :=List.eq_nil_of_length_eq_zero hc
   (try rw [if_neg h65] at hQ)
   simp only [if_neg h65,unfE,Tr.bind,bind_ite,pl_ite,Tr.pl,if_true,if_false,List.append_assoc,List.cons_append,List.nil_append]
   repeat' (first | (refine hQ _ _ _ ⟨_,?_,rfl⟩ ?_) | (refine And.intro ?_ ?_) | (intro _))
   all_goals (first | rfl | omega | (simp only [List.length_append,List.length_cons,List.length_nil];omega) | (exfalso;omega) | decide | (simp;done) | (simp_all [put1_r,putPair_r,swap_r,Rw.regs,sAddr,sGet,sRep];done))
theorem block3_pl {ρ : Rw} {s : Int} {rep : Bool} {pc0 : Int} {c : List Int} {ts : Ts} {Q : Unit → Rw → Int → List Int → Ts → Prop} (hp : pc0 = ρ.pc) (hc : c.length = 0) (ht : ts.length ≤ 2) (hQ : ∀ ρ' p' ts',(∃ s ∈ sRep rep [q1,qN,qO],ts' = ts ++ s) → (ρ'.r = ρ.r) → Q () ρ' p' [] ts') : (ρ.block3 s rep).pl pc0 c ts Q :=by
 subst hp
 unfold Rw.block3
 ·by_cases h66 : rep = true
  ·have hc :=hc;(try simp only [nAddr,nGet,if_pos h66] at hc);(try rw [if_neg (by omega)] at hc)
   obtain rfl :=List.eq_nil_of_length_eq_zero hc
   (try rw [if_pos h66] at hQ)
   simp only [if_pos h66,unfE,Tr.bind,bind_ite,pl_ite,Tr.pl,if_true,if_false,List.append_assoc,List.cons_append,List.nil_append]
   repeat' (first | (refine hQ _ _ _ ⟨_,?_,rfl⟩ ?_) | (refine And.intro ?_ ?_) | (intro _))
   all_goals (first | rfl | omega | (simp only [List.length_append,List.length_cons,List.length_nil];omega) | (exfalso;omega) | decide | (simp;done) | (simp_all [put1_r,putPair_r,swap_r,Rw.regs,sAddr,sGet,sRep];done))
  ·have hc :=hc;(try simp only [nAddr,nGet,if_neg h66] at hc);(try rw [if_neg (by omega)] at hc)
   obtain rfl :=List.eq_nil_of_length_eq_zero hc
   (try rw [if_neg h66] at hQ)
   simp only [if_neg h66,unfE,Tr.bind,bind_ite,pl_ite,Tr.pl,if_true,if_false,List.append_assoc,List.cons_append,List.nil_append]
   repeat' (first | (refine hQ _ _ _ ⟨_,?_,rfl⟩ ?_) | (refine And.intro ?_ ?_) | (intro _))
   all_goals (first | rfl | omega | (simp only [List.length_append,List.length_cons,List.length_nil];omega) | (exfalso;omega) | decide | (simp;done) | (simp_all [put1_r,putPair_r,swap_r,Rw.regs,sAddr,sGet,sRep];done))
theorem block_pl {ρ : Rw} {y z : Int} {pc0 : Int} {c : List Int} {ts : Ts} {Q : Unit → Rw → Int → List Int → Ts → Prop} (hp : pc0 = ρ.pc) (hc : c.length = 0) (ht : ts.length ≤ 2) (hQ : ∀ ρ' p' ts',(∃ s ∈ sBlock y z,ts' = ts ++ s) → (ρ'.r = ρ.r) → Q () ρ' p' [] ts') : (ρ.block y z).pl pc0 c ts Q :=by
 subst hp
 unfold Rw.block
 unfold sBlock at hQ
 ·by_cases h67 : Go.bits .and .i64 y 1 = 1
  ·by_cases h68 : z = 0
   ·(try simp only [if_pos h67,if_pos h68] at hc)
    simp only [if_pos h67,if_pos h68]
    (try rw [if_pos h67] at hQ)
    (try rw [if_pos h68] at hQ)
    exact block0_pl rfl hc ht hQ
   ·by_cases h69 : z = 1
    ·(try simp only [if_pos h67,if_neg h68,if_pos h69] at hc)
     simp only [if_pos h67,if_neg h68,if_pos h69]
     (try rw [if_pos h67] at hQ)
     (try rw [if_neg h68] at hQ)
     (try rw [if_pos h69] at hQ)
     exact block1_pl rfl hc ht hQ
    ·by_cases h70 : z = 2
     ·(try simp only [if_pos h67,if_neg h68,if_neg h69,if_pos h70] at hc)
      simp only [if_pos h67,if_neg h68,if_neg h69,if_pos h70]
      (try rw [if_pos h67] at hQ)
      (try rw [if_neg h68] at hQ)
      (try rw [if_neg h69] at hQ)
      (try rw [if_pos h70] at hQ)
      exact block2_pl rfl hc ht hQ
     ·(try simp only [if_pos h67,if_neg h68,if_neg h69,if_neg h70] at hc)
      simp only [if_pos h67,if_neg h68,if_neg h69,if_neg h70]
      (try rw [if_pos h67] at hQ)
      (try rw [if_neg h68] at hQ)
      (try rw [if_neg h69] at hQ)
      (try rw [if_neg h70] at hQ)
      exact block3_pl rfl hc ht hQ
  ·by_cases h71 : z = 0
   ·(try simp only [if_neg h67,if_pos h71] at hc)
    simp only [if_neg h67,if_pos h71]
    (try rw [if_neg h67] at hQ)
    (try rw [if_pos h71] at hQ)
    exact block0_pl rfl hc ht hQ
   ·by_cases h72 : z = 1
    ·(try simp only [if_neg h67,if_neg h71,if_pos h72] at hc)
     simp only [if_neg h67,if_neg h71,if_pos h72]
     (try rw [if_neg h67] at hQ)
     (try rw [if_neg h71] at hQ)
     (try rw [if_pos h72] at hQ)
     exact block1_pl rfl hc ht hQ
    ·by_cases h73 : z = 2
     ·(try simp only [if_neg h67,if_neg h71,if_neg h72,if_pos h73] at hc)
      simp only [if_neg h67,if_neg h71,if_neg h72,if_pos h73]
      (try rw [if_neg h67] at hQ)
      (try rw [if_neg h71] at hQ)
      (try rw [if_neg h72] at hQ)
      (try rw [if_pos h73] at hQ)
      exact block2_pl rfl hc ht hQ
     ·(try simp only [if_neg h67,if_neg h71,if_neg h72,if_neg h73] at hc)
      simp only [if_neg h67,if_neg h71,if_neg h72,if_neg h73]
      (try rw [if_neg h67] at hQ)
      (try rw [if_neg h71] at hQ)
      (try rw [if_neg h72] at hQ)
      (try rw [if_neg h73] at hQ)
      exact block3_pl rfl hc ht hQ
theorem setMore_pl {ρ : Rw} {op : Int} {pc0 : Int} {c : List Int} {ts : Ts} {Q : Unit → Rw → Int → List Int → Ts → Prop} (hp : pc0 = ρ.pc) (hc : c.length = nMore op) (ht : ts.length ≤ 2) (h8 : pz op < 8) (h8' : 0 ≤ pz op) (hQ : ∀ ρ' p' ts',(∃ s ∈ sMore op,ts' = ts ++ s) → (¬(py op = 1 ∧ pz op = 7) → ρ'.r = ρ.r) → Q () ρ' p' [] ts') : (ρ.setMore op).pl pc0 c ts Q :=by
 subst hp
 unfold Rw.setMore
 unfold nMore at hc
 unfold sMore at hQ
 ·by_cases h74 : px op = 2 ∧ 4 ≤ py op ∧ pz op ≤ 3
  ·(try simp only [if_pos h74] at hc)
   simp only [if_pos h74]
   (try rw [if_pos h74] at hQ)
   rw [bind_unit];exact block_pl rfl hc ht (fun ρ' p' ts' h1 h2 => hQ ρ' p' ts' h1 (fun _ => h2))
  ·by_cases h75 : px op = 1
   ·(try simp only [if_neg h74,if_pos h75] at hc)
    simp only [if_neg h74,if_pos h75]
    (try rw [if_neg h74] at hQ)
    (try rw [if_pos h75] at hQ)
    exact more1_pl rfl hc ht h8 h8' hQ
   ·have hc :=hc;(try simp only [nAddr,nGet,if_neg h74,if_neg h75] at hc);(try rw [if_neg (by omega)] at hc)
    obtain rfl :=List.eq_nil_of_length_eq_zero hc
    (try rw [if_neg h74] at hQ)
    (try rw [if_neg h75] at hQ)
    simp only [if_neg h74,if_neg h75,unfE,Tr.bind,bind_ite,pl_ite,Tr.pl,if_true,if_false,List.append_assoc,List.cons_append,List.nil_append]
    repeat' (first | (refine hQ _ _ _ ⟨_,?_,rfl⟩ ?_) | (refine And.intro ?_ ?_) | (intro _))
    all_goals (first | rfl | omega | (simp only [List.length_append,List.length_cons,List.length_nil];omega) | (exfalso;omega) | decide | (simp;done) | (simp_all [put1_r,putPair_r,swap_r,Rw.regs,sAddr,sGet,sRep];done))
end Go.Proofs.YtnelghpendfdmaaGreatDoor.KRow
/-
 PROVED: the play of a whole instruction's tree over its bytes; where a run of the tree stands behind answers.
-/
namespace Go.Proofs.YtnelghpendfdmaaGreatDoor.KRow
set_option maxHeartbeats 16000000
open Go Go.RowKit Go.Proofs.YtnelghpendfdmaaGreatDoorW.PrintWords
open Go.Proofs.YtnelghpendfdmaaGreatDoor.HFun
set_option linter.unusedVariables false
set_option linter.unusedSimpArgs false
def refR (r : Int) : Int :=bits BinOp.or IntKind.u8 (bits BinOp.and IntKind.u8 r 128) (bits BinOp.and IntKind.u8 ((r + 1) % 256) 127)
def skInstr : List Int → List Ts
 | [] => []
 | o :: rest =>
  if o = 221 ∨ o = 253 then
   match rest with
   | [] => [[qF]]
   | o2 :: rest2 => if o2 = 203 then (match rest2 with | [_,b] => (sBoth (wrap64 b)).map ([qF,qF] ++ ·) | _ => []) else (sMain (wrap64 o2) (if o = 253 then 2 else 1)).map ([qF,qF] ++ ·)
  else if o = 203 then (match rest with | [b] => (sBits (wrap64 b)).map ([qF,qF] ++ ·) | _ => [])
  else if o = 237 then (match rest with | b :: _ => (sMore (wrap64 b)).map ([qF,qF] ++ ·) | _ => [])
  else (sMain (wrap64 o) 0).map ([qF] ++ ·)
def codeOK : List Int → Prop
 | [] => False
 | o :: rest =>
  if o = 221 ∨ o = 253 then
   match rest with
   | [] => False
   | o2 :: rest2 => if o2 = 203 then rest2.length = 2 else o2 ≠ 221 ∧ o2 ≠ 237 ∧ o2 ≠ 253 ∧ rest2.length = nMain (wrap64 o2) (if o = 253 then 2 else 1)
  else if o = 203 then rest.length = 1
  else if o = 237 then (match rest with | b :: r2 => r2.length = nMore (wrap64 b) | _ => False)
  else rest.length = nMain (wrap64 o) 0
def two (o : Int) : Prop :=o = 221 ∨ o = 253 ∨ o = 203 ∨ o = 237
instance (o : Int) : Decidable (two o) :=by unfold two;infer_instance
def odd4f : List Int → Prop
 | o :: b :: _ => o = 237 ∧ py (wrap64 b) = 1 ∧ pz (wrap64 b) = 7
 | _ => False
def rAft (o r : Int) : Int :=if two o then refR (refR r) else refR r
theorem rAft2 {o : Int} (r : Int) (h : o = 221 ∨ o = 253 ∨ o = 203 ∨ o = 237) : rAft o r = refR (refR r) :=if_pos h
theorem rAft1 {o : Int} (r : Int) (h : ¬ (o = 221 ∨ o = 253 ∨ o = 203 ∨ o = 237)) : rAft o r = refR r :=if_neg h
theorem setBoth_pl {ρ : Rw} {d b : Int} {pc0 : Int} {ts : Ts} {Q : Unit → Rw → Int → List Int → Ts → Prop} (hp : pc0 = ρ.pc) (ht : ts.length ≤ 2) (hQ : ∀ ρ' p' ts',(∃ s ∈ sBoth (wrap64 b),ts' = ts ++ s) → ρ'.r = ρ.r → Q () ρ' p' [] ts') : (ρ.setBoth).pl pc0 [d,b] ts Q :=by
 subst hp
 unfold Rw.setBoth
 unfold sBoth at hQ
 by_cases h1 : px (wrap64 b) = 1
 ·rw [if_pos h1] at hQ
  simp only [if_pos h1,Rw.next,Rw.read,Rw.write,Rw.idle,Rw.inp,Rw.out,Rw.req,Rw.word,Rw.push,Rw.pop,Rw.rets,Rw.call,Rw.store,Rw.load,Rw.jump,Rw.address,Rw.get,Rw.putPair,Rw.put8,Rw.again,Rw.bitsOp,Rw.regs,Tr.bind,bind_ite,pl_ite,Tr.pl,kk1,kk2,kk3,kk4,kk5,kk6,kk7,if_true,if_false,true_and,and_true,nAddr,sAddr,nGet,sGet,sRep,List.append_assoc,List.cons_append,List.nil_append]
  repeat' (first | (refine hQ _ _ _ ⟨_,?_,rfl⟩ ?_) | (refine And.intro ?_ ?_) | (intro _))
  all_goals (first | rfl | omega | (simp only [List.length_append,List.length_cons,List.length_nil];omega) | (exfalso;omega) | decide | (simp;done) | (simp_all [put1_r,putPair_r,swap_r,Rw.regs];done))
 ·rw [if_neg h1] at hQ
  simp only [if_neg h1,Rw.next,Rw.read,Rw.write,Rw.idle,Rw.inp,Rw.out,Rw.req,Rw.word,Rw.push,Rw.pop,Rw.rets,Rw.call,Rw.store,Rw.load,Rw.jump,Rw.address,Rw.get,Rw.putPair,Rw.put8,Rw.again,Rw.bitsOp,Rw.regs,Tr.bind,bind_ite,pl_ite,Tr.pl,kk1,kk2,kk3,kk4,kk5,kk6,kk7,if_true,if_false,true_and,and_true,nAddr,sAddr,nGet,sGet,sRep,List.append_assoc,List.cons_append,List.nil_append]
  repeat' (first | (refine hQ _ _ _ ⟨_,?_,rfl⟩ ?_) | (refine And.intro ?_ ?_) | (intro _))
  all_goals (first | rfl | omega | (simp only [List.length_append,List.length_cons,List.length_nil];omega) | (exfalso;omega) | decide | (simp;done) | (simp_all [put1_r,putPair_r,swap_r,Rw.regs];done))
theorem pz_n : ∀ n : Nat,n < 256 → 0 ≤ pz (n : Int) ∧ pz (n : Int) < 8 :=by decide +kernel
theorem w64b {b : Int} (h0 : 0 ≤ b) (h1 : b < 256) : wrap64 b = b :=B.w64 (by omega) (by omega)
theorem pz_rng {b : Int} (h0 : 0 ≤ b) (h1 : b < 256) : 0 ≤ pz (wrap64 b) ∧ pz (wrap64 b) < 8 :=by
 rw [w64b h0 h1]
 have :=pz_n b.toNat (by omega)
 rwa [Int.toNat_of_nonneg h0] at this
theorem second_pl {ρ : Rw} {o2 : Int} {rest2 : List Int} {pc0 : Int} {ts : Ts} {Q : Unit → Rw → Int → List Int → Ts → Prop} (hp : pc0 = ρ.pc) (ht : ts.length ≤ 1)
  (hc : if o2 = 203 then rest2.length = 2 else o2 ≠ 221 ∧ o2 ≠ 237 ∧ o2 ≠ 253 ∧ rest2.length = nMain (wrap64 o2) ρ.x)
  (hQ : ∀ ρ' p' ts',(∃ s ∈ (if o2 = 203 then (match rest2 with | [_,b] => (sBoth (wrap64 b)).map ([qF] ++ ·) | _ => []) else (sMain (wrap64 o2) ρ.x).map ([qF] ++ ·)),ts' = ts ++ s) → ρ'.r = refR ρ.r → Q () ρ' p' [] ts') : (ρ.second).pl pc0 (o2 :: rest2) ts Q :=by
 subst hp
 unfold Rw.second Rw.fetch Rw.req
 simp only [Tr.bind,Tr.pl,true_or,if_true,true_and]
 refine ⟨by omega,?_⟩
 by_cases h3 : o2 = 203
 ·simp only [if_pos h3] at hc hQ ⊢
  obtain ⟨d,b,rfl⟩ :=len2 hc
  rw [bind_unit]
  refine setBoth_pl rfl (by simp;omega) (fun ρ' p' ts' h1 h2 => hQ ρ' p' ts' ?_ h2)
  obtain ⟨s,hs,rfl⟩ :=h1
  exact ⟨_,List.mem_map.2 ⟨s,hs,rfl⟩,by simp⟩
 ·simp only [if_neg h3] at hc hQ ⊢
  obtain ⟨n1,n2,n3,hl⟩ :=hc
  rw [if_neg (by omega),bind_unit]
  refine main_pl (ρ :=ρ.fetched) rfl hl (by simp;omega) (fun ρ' p' ts' h1 h2 => hQ ρ' p' ts' ?_ h2)
  obtain ⟨s,hs,rfl⟩ :=h1
  exact ⟨_,List.mem_map.2 ⟨s,hs,rfl⟩,by simp⟩
theorem instr_pl {ρ : Rw} {one : Bool} {code : List Int} {Q : Unit → Rw → Int → List Int → Ts → Prop} (hh : ρ.halt = false) (hx : ρ.x = 0) (hl : ¬ (one = true ∧ (ρ.peek = 221 ∨ ρ.peek = 237 ∨ ρ.peek = 253)) ∨ (∀ o,code.head? = some o → ¬ (o = 221 ∨ o = 253))) (hc : codeOK code) (hby : ∀ x ∈ code,0 ≤ x ∧ x < 256)
  (hQ : ∀ ρ' p' ts',ts' ∈ skInstr code → (∀ o,code.head? = some o → ¬ odd4f code → ρ'.r = rAft o ρ.r) → Q () ρ' p' [] ts') : (ρ.instr one).pl ρ.pc code [] Q :=by
 match code,hc,hl,hby,hQ with
 | o :: rest,hc,hl,hby,hQ =>
  have hl : (o = 221 ∨ o = 253) → ¬ (one = true ∧ (ρ.peek = 221 ∨ ρ.peek = 237 ∨ ρ.peek = 253)) :=fun ho => by
   rcases hl with h | h
   ·exact h
   ·exact absurd ho (h o rfl)
  have hQ : ∀ ρ' p' ts',ts' ∈ skInstr (o :: rest) → (¬ odd4f (o :: rest) → ρ'.r = rAft o ρ.r) → Q () ρ' p' [] ts' :=fun ρ' p' ts' h1 h2 => hQ ρ' p' ts' h1 (fun o' ho' => by cases ho';exact h2)
  unfold Rw.instr Rw.fetch Rw.req
  rw [if_neg (by rw [hh];exact Bool.false_ne_true)]
  simp only [Tr.bind,Tr.pl,true_or,if_true,true_and]
  refine ⟨by simp,?_⟩
  unfold codeOK at hc
  unfold skInstr at hQ
  by_cases h1 : o = 221 ∨ o = 253
  ·have hl1 :=hl h1
   simp only [if_pos h1] at hc hQ ⊢
   have hp1 : o = 221 ∨ o = 253 ∨ o = 203 ∨ o = 237 :=by omega
   match rest,hc,hQ with
   | o2 :: rest2,hc,hQ =>
    rw [if_neg (by exact hl1)]
    by_cases h2 : o = 253
    ·simp only [if_pos h2] at hc hQ ⊢
     refine second_pl (ρ :={ ({ ρ with late :=false } : Rw).fetched with x :=2 }) rfl (by simp) hc (fun ρ' p' ts' g1 g2 => hQ ρ' p' ts' ?_ (fun _ => g2.trans (rAft2 _ hp1).symm))
     obtain ⟨s,hs,rfl⟩ :=g1
     by_cases h3 : o2 = 203
     ·simp only [if_pos h3] at hc hs ⊢
      obtain ⟨d,b,rfl⟩ :=len2 hc
      obtain ⟨s',hs',rfl⟩ :=List.mem_map.1 hs
      exact List.mem_map.2 ⟨s',hs',rfl⟩
     ·simp only [if_neg h3] at hc hs ⊢
      obtain ⟨s',hs',rfl⟩ :=List.mem_map.1 hs
      exact List.mem_map.2 ⟨s',hs',rfl⟩
    ·simp only [if_neg h2] at hc hQ ⊢
     refine second_pl (ρ :={ ({ ρ with late :=false } : Rw).fetched with x :=1 }) rfl (by simp) hc (fun ρ' p' ts' g1 g2 => hQ ρ' p' ts' ?_ (fun _ => g2.trans (rAft2 _ hp1).symm))
     obtain ⟨s,hs,rfl⟩ :=g1
     by_cases h3 : o2 = 203
     ·simp only [if_pos h3] at hc hs ⊢
      obtain ⟨d,b,rfl⟩ :=len2 hc
      obtain ⟨s',hs',rfl⟩ :=List.mem_map.1 hs
      exact List.mem_map.2 ⟨s',hs',rfl⟩
     ·simp only [if_neg h3] at hc hs ⊢
      obtain ⟨s',hs',rfl⟩ :=List.mem_map.1 hs
      exact List.mem_map.2 ⟨s',hs',rfl⟩
  ·simp only [if_neg h1] at hc hQ ⊢
   by_cases h2 : o = 203
   ·simp only [if_pos h2] at hc hQ ⊢
    obtain ⟨b,rfl⟩ :=len1 hc
    have hp1 : o = 221 ∨ o = 253 ∨ o = 203 ∨ o = 237 :=by omega
    simp only [Tr.bind,Tr.pl,true_or,if_true,true_and,bind_unit]
    refine ⟨by simp,rfl,?_⟩
    refine setBits_pl (ρ :=(({ ρ with late :=false } : Rw).fetched).fetched) (c :=[]) rfl rfl ?_ (fun ρ' p' ts' g1 g2 => hQ ρ' p' ts' ?_ (fun _ => g2.trans (rAft2 _ hp1).symm))
    ·simp
    obtain ⟨s,hs,rfl⟩ :=g1
    exact List.mem_map.2 ⟨s,hs,rfl⟩
   ·simp only [if_neg h2] at hc hQ ⊢
    by_cases h3 : o = 237
    ·simp only [if_pos h3] at hc hQ ⊢
     have hp1 : o = 221 ∨ o = 253 ∨ o = 203 ∨ o = 237 :=by omega
     match rest,hc,hby,hQ with
     | b :: r2,hc,hby,hQ =>
      have hb :=hby b (by simp)
      simp only [Tr.bind,Tr.pl,true_or,if_true,true_and,bind_unit]
      refine ⟨by simp,rfl,?_⟩
      refine setMore_pl (ρ :=(({ ρ with late :=false } : Rw).fetched).fetched) rfl hc ?_ (pz_rng hb.1 hb.2).2 (pz_rng hb.1 hb.2).1 (fun ρ' p' ts' g1 g2 => hQ ρ' p' ts' ?_ (fun hh => (g2 (fun hk => hh ⟨h3,hk⟩)).trans (rAft2 _ hp1).symm))
      ·simp
      obtain ⟨s,hs,rfl⟩ :=g1
      exact List.mem_map.2 ⟨s,hs,rfl⟩
    ·simp only [if_neg h3] at hc hQ ⊢
     have hp1 : ¬ (o = 221 ∨ o = 253 ∨ o = 203 ∨ o = 237) :=by omega
     rw [bind_unit]
     refine main_pl (ρ :=({ ρ with late :=false } : Rw).fetched) rfl (by show rest.length = nMain (wrap64 o) ρ.x;rw [hx];exact hc) (by simp) (fun ρ' p' ts' g1 g2 => hQ ρ' p' ts' ?_ (fun _ => g2.trans (rAft1 _ hp1).symm))
     obtain ⟨s,hs,rfl⟩ :=g1
     exact List.mem_map.2 ⟨s,by rw [← hx];exact hs,rfl⟩

/-! where a run stands -/
def Tr.res {α : Type} (t : Tr α) (n : Nat) : Res α :=match t with | .ret v ρ => .ok v ρ n | .ask k a v tt _ => .ask k a v tt
def Tr.dn {α : Type} : Tr α → List Int → Option (Tr α)
 | t,[] => some t
 | .ret _ _,_ :: _ => none
 | .ask _ _ _ _ f,x :: xs => (f x).dn xs
theorem Tr.dn_snoc {α : Type} {gl : List Int} {t : Tr α} {k a v tt : Int} {f : Int → Tr α} (h : t.dn gl = some (.ask k a v tt f)) (x : Int) : t.dn (gl ++ [x]) = some (f x) :=by
 induction gl generalizing t with
 | nil => cases t <;> simp_all [Tr.dn]
 | cons y gl ih =>
  cases t with
  | ret v ρ => simp [Tr.dn] at h
  | ask k' a' v' t' f' => simp only [List.cons_append,Tr.dn] at h ⊢;exact ih h
theorem Tr.run_dn {α : Type} (pre gl : List Int) {t t' : Tr α} (h : t.dn gl = some t') : t.run (pre ++ gl) pre.length = t'.res (pre ++ gl).length :=by
 induction gl generalizing t pre with
 | nil =>
  have : t = t' :=by cases t <;> simp_all [Tr.dn]
  subst this
  cases t with
  | ret v ρ => simp [Tr.run,Tr.res]
  | ask k a v tt f => simp [Tr.run,Tr.res]
 | cons y gl ih =>
  cases t with
  | ret v ρ => simp [Tr.dn] at h
  | ask k a v tt f =>
   simp only [Tr.dn] at h
   have :=ih (pre ++ [y]) h
   unfold Tr.run
   rw [if_pos (by simp)]
   have hrd : rd (pre ++ y :: gl) (pre.length : Nat) = y :=by simp [rd]
   rw [hrd]
   simpa using this
end Go.Proofs.YtnelghpendfdmaaGreatDoor.KRow
