/-
 PROVED: what the tree of an operation asks of the bus: its bytes first, from PC on; then which kinds and lengths, at addresses that are words.
-/
import Derived.Test.YtnelghpendfdmaaGreatDoorKPl
namespace Go.Proofs.YtnelghpendfdmaaGreatDoor.KRow
open Go Go.RowKit Go.Proofs.YtnelghpendfdmaaGreatDoorW.PrintWords
open Go.Proofs.YtnelghpendfdmaaGreatDoor.HFun
set_option linter.unusedVariables false
set_option linter.unusedSimpArgs false
set_option maxHeartbeats 4000000
abbrev Ks :=Nat × List Ts
def InU (a : Int) : Prop :=0 ≤ a ∧ a < 65536
def IxOk (ρ : Rw) : Prop :=InU ρ.ix ∧ InU ρ.iy ∧ InU ρ.sp
def Tr.pq {α : Type} : Tr α → Int → List Int → Ts → (Ts → Prop) → Prop
 | .ret v ρ,p,c,ts,Q => c = [] ∧ Q ts
 | .ask k a v t f,p,c,ts,Q => ts.length < 10 ∧ match c with
  | [] => (2 ≤ k ∧ k ≤ 6) ∧ (k < 4 → InU a) ∧ ∀ x,(f x).pq p [] (ts ++ [(k,t)]) Q
  | y :: c' => if k = 1 ∨ k = 2 then a = p ∧ (f y).pq (zbk p) c' (ts ++ [(k,t)]) Q else (4 ≤ k ∧ k ≤ 6) ∧ ∀ x,(f x).pq p (y :: c') (ts ++ [(k,t)]) Q
theorem pq_ite {α : Type} {P : Prop} [Decidable P] {A B : Tr α} {p : Int} {c : List Int} {ts : Ts} {Q : Ts → Prop} : (if P then A else B).pq p c ts Q ↔ (P → A.pq p c ts Q) ∧ (¬ P → B.pq p c ts Q) :=by
 by_cases h : P
 ·rw [if_pos h];exact ⟨fun k => ⟨fun _ => k,fun n => absurd h n⟩,fun k => k.1 h⟩
 ·rw [if_neg h];exact ⟨fun k => ⟨fun n => absurd n h,fun _ => k⟩,fun k => k.2 h⟩
theorem inU_w (x : Int) : InU (IntKind.u16.wrap x) :=by rw [B.wu16];exact ⟨by omega,by omega⟩
theorem inU_plus (x y : Int) : InU (vWPlus x y) :=inU_w _
theorem inU_wp (h l : Int) : InU (zbg h l) :=by unfold zbg Go.bits;exact inU_w _
theorem inU_pr {r : Rg} (hx : InU r.ix) (hy : InU r.iy) (hs : InU r.sp) (i c : Int) (s : Bool) : InU (r.pair i c s) :=by
 unfold Rg.pair
 repeat' split
 all_goals first | exact inU_wp _ _ | assumption
theorem inU_pair {ρ : Rw} (h : IxOk ρ) (c : Int) (s : Bool) : InU (ρ.pair c s) :=inU_pr h.1 h.2.1 h.2.2 _ _ _
def Lf (P : Rw → Prop) (M : Rw → Tr Unit) (n : Nat) (S : List Ts) : Prop :=∀ ρ,P ρ → IxOk ρ → ∀ (c : List Int) (ts : Ts) (Q : Ts → Prop),c.length = n → ts.length ≤ 2 → (∀ s ∈ S,Q (ts ++ s)) → (M ρ).pq ρ.pc c ts Q
def L0 (P : Rw → Prop) (M : Rw → Tr Unit) (S : List Ts) : Prop :=∀ ρ,P ρ → IxOk ρ → ∀ (ts : Ts) (Q : Ts → Prop),ts.length ≤ 2 → (∀ s ∈ S,Q (ts ++ s)) → (M ρ).pq ρ.pc [] ts Q
def L1 (P : Rw → Prop) (M : Rw → Tr Unit) (S : List Ts) : Prop :=∀ ρ,P ρ → IxOk ρ → ∀ (ts : Ts) (Q : Ts → Prop),ts.length ≤ 2 → (∀ s ∈ S,Q (ts ++ s)) → ∀ u,(M ρ).pq ρ.pc [u] ts Q
def L2 (P : Rw → Prop) (M : Rw → Tr Unit) (S : List Ts) : Prop :=∀ ρ,P ρ → IxOk ρ → ∀ (ts : Ts) (Q : Ts → Prop),ts.length ≤ 2 → (∀ s ∈ S,Q (ts ++ s)) → ∀ u v,(M ρ).pq ρ.pc [u,v] ts Q
section
variable {P : Rw → Prop} {M : Rw → Tr Unit} {S : List Ts}
theorem Lf.c0 (h : L0 P M S) : Lf P M 0 S :=fun ρ a b c ts Q d e f => by
 obtain rfl :=List.eq_nil_of_length_eq_zero d
 exact h ρ a b ts Q e f
theorem Lf.c1 (h : L1 P M S) : Lf P M 1 S :=fun ρ a b c ts Q d e f => by
 obtain ⟨u,rfl⟩ :=len1 d
 exact h ρ a b ts Q e f u
theorem Lf.c2 (h : L2 P M S) : Lf P M 2 S :=fun ρ a b c ts Q d e f => by
 obtain ⟨u,v,rfl⟩ :=len2 d
 exact h ρ a b ts Q e f u v
end
def Pq (M : Rw → Tr Unit) (K : Int → Ks) : Prop :=∀ ρ : Rw,IxOk ρ → ∀ (c : List Int) (ts : Ts) (Q : Ts → Prop),c.length = (K ρ.x).1 → ts.length ≤ 2 → (∀ s ∈ (K ρ.x).2,Q (ts ++ s)) → (M ρ).pq ρ.pc c ts Q
section
variable {M M1 M2 : Rw → Tr Unit} {K K1 K2 : Int → Ks} {n m : Nat} {S R : List Ts}
theorem Pq.c (h : Lf (fun _ => True) M n S) : Pq M (fun _ => (n,S)) :=fun ρ hI c ts Q a b d => h ρ trivial hI c ts Q a b d
theorem Pq.x (h1 : Lf (fun ρ => ρ.x = 0) M n S) (h2 : Lf (fun ρ => ρ.x ≠ 0) M m R) : Pq M (fun x => if x = 0 then (n,S) else (m,R)) :=fun ρ hI c ts Q a b d => by
 dsimp only at a d
 by_cases h : ρ.x = 0
 ·rw [if_pos h] at a d;exact h1 ρ h hI c ts Q a b d
 ·rw [if_neg h] at a d;exact h2 ρ h hI c ts Q a b d
theorem Pq.split {P : Prop} [Decidable P] (h1 : P → Pq M K1) (h2 : ¬ P → Pq M K2) : Pq M (fun x => if P then K1 x else K2 x) :=by
 by_cases h : P
 ·simp only [if_pos h];exact h1 h
 ·simp only [if_neg h];exact h2 h
theorem Pq.ite {P : Prop} [Decidable P] (h1 : Pq M1 K1) (h2 : Pq M2 K2) : Pq (fun ρ => if P then M1 ρ else M2 ρ) (fun x => if P then K1 x else K2 x) :=by
 by_cases h : P
 ·simp only [if_pos h];exact h1
 ·simp only [if_neg h];exact h2
theorem Pq.two {P : Prop} [Decidable P] (h1 : Pq M1 K) (h2 : Pq M2 K) : Pq (fun ρ => if P then M1 ρ else M2 ρ) K :=by
 by_cases h : P
 ·simp only [if_pos h];exact h1
 ·simp only [if_neg h];exact h2
theorem Pq.ret (h : Pq M K) : Pq (fun ρ => (M ρ).bind fun _ ρ => .ret () ρ) K :=fun ρ hI c ts Q a b d => by
 dsimp only;rw [bind_unit];exact h ρ hI c ts Q a b d
theorem Pq.dsp (h : Pq M K) (d : Rw → Bool) : Pq (fun ρ => (M { ρ with disp :=d ρ }).bind fun _ ρ => .ret () ρ) K :=fun ρ hI c ts Q a b e => by
 dsimp only;rw [bind_unit];exact h { ρ with disp :=d ρ } hI c ts Q a b e
end
theorem unfE : type_of% @Rw.next.eq_1 ∧ type_of% @Rw.read.eq_1 ∧ type_of% @Rw.write.eq_1 ∧ type_of% @Rw.idle.eq_1 ∧ type_of% @Rw.inp.eq_1 ∧ type_of% @Rw.out.eq_1 ∧ type_of% @Rw.req.eq_1 ∧ type_of% @Rw.word.eq_1 ∧ type_of% @Rw.push.eq_1 ∧ type_of% @Rw.pop.eq_1 ∧ type_of% @Rw.rets.eq_1 ∧ type_of% @Rw.call.eq_1 ∧ type_of% @Rw.store.eq_1 ∧ type_of% @Rw.load.eq_1 ∧ type_of% @Rw.jump.eq_1 ∧ type_of% @Rw.address.eq_1 ∧ type_of% @Rw.get.eq_1 ∧ type_of% @Rw.putPair.eq_1 ∧ type_of% @Rw.put8.eq_1 ∧ type_of% @Rw.again.eq_1 ∧ type_of% @Rw.bitsOp.eq_1 ∧ type_of% @Rw.regs.eq_1 :=⟨@Rw.next.eq_1,@Rw.read.eq_1,@Rw.write.eq_1,@Rw.idle.eq_1,@Rw.inp.eq_1,@Rw.out.eq_1,@Rw.req.eq_1,@Rw.word.eq_1,@Rw.push.eq_1,@Rw.pop.eq_1,@Rw.rets.eq_1,@Rw.call.eq_1,@Rw.store.eq_1,@Rw.load.eq_1,@Rw.jump.eq_1,@Rw.address.eq_1,@Rw.get.eq_1,@Rw.putPair.eq_1,@Rw.put8.eq_1,@Rw.again.eq_1,@Rw.bitsOp.eq_1,@Rw.regs.eq_1⟩
def kLow0 (y : Int) : Ks :=if y = 0 then (0,[[]]) else if y = 1 then (0,[[]]) else if y = 2 then (1,[[q1,qN],[q1,qN,q5]]) else if y = 3 then (1,[[qN,q5]]) else (1,[[qN],[qN,q5]])
def kLow1 (q : Int) : Ks :=if q = 0 then (2,[[qN,qN]]) else (0,[[q7]])
def kMoves (op : Int) : Ks :=if op = 2 ∨ op = 18 then (0,[[qW]]) else if op = 10 ∨ op = 26 then (0,[[qN]]) else if op = 34 then (2,[[qN,qN,qW,qW]]) else if op = 42 then (2,[[qN,qN,qN,qN]]) else if op = 50 then (2,[[qN,qN,qW]]) else (2,[[qN,qN,qN]])
def kLow45 (y : Int) (x : Int) : Ks :=if y = 6 then if x = 0 then (0,[[qN,q1,qW]]) else (1,[[qN,q5,qN,q1,qW]]) else (0,[[]])
def kLow6 (y : Int) (x : Int) : Ks :=if y = 6 then if x = 0 then (1,[[qN,qW]]) else (2,[[qN,qN,q2,qW]]) else (1,[[qN]])
def kHigh1 (p q : Int) : Ks :=if q = 0 then (0,[[qN,qN]]) else if p = 0 then (0,[[qN,qN]]) else if p = 1 then (0,[[]]) else if p = 2 then (0,[[]]) else (0,[[q2]])
def kOdd (op : Int) : Ks :=if op = 195 then (2,[[qN,qN]]) else if op = 211 then (1,[[qN,qO]]) else if op = 219 then (1,[[qN,qI]]) else if op = 227 then (0,[[qN,qN,q1,qW,qW,q2]]) else if op = 235 then (0,[[]]) else if op = 243 then (0,[[]]) else if op = 251 then (0,[[]]) else (0,[[]])
def kHigh5 (op q : Int) : Ks :=if q = 0 then (0,[[q1,qW,qW]]) else if op = 205 then (2,[[qN,qN,q1,qW,qW]]) else (0,[[]])
def kBits (op : Int) : Ks :=if m7 op = 6 then if px op = 1 then (0,[[qN,q1]]) else (0,[[qN,q1,qW]]) else (0,[[]])
def kAcc (y : Int) : Ks :=if y = 0 ∨ y = 1 ∨ y = 2 ∨ y = 3 then (0,[[q1]]) else if y = 4 ∨ y = 5 then (0,[[qN,q4,qW]]) else (0,[[]])
def kBlock0 (rep : Bool) : Ks :=if rep = true then (0,[[qN,qW,q2],[qN,qW,q2,q5]]) else (0,[[qN,qW,q2]])
def kBlock1 (rep : Bool) : Ks :=if rep = true then (0,[[qN,q5],[qN,q5,q5]]) else (0,[[qN,q5]])
def kBlock2 (rep : Bool) : Ks :=if rep = true then (0,[[q1,qI,qW],[q1,qI,qW,q5]]) else (0,[[q1,qI,qW]])
def kBlock3 (rep : Bool) : Ks :=if rep = true then (0,[[q1,qN,qO],[q1,qN,qO,q5]]) else (0,[[q1,qN,qO]])
theorem gp : (∀ y : Int,Pq (fun ρ => ρ.low0 y) (fun _ => kLow0 y)) ∧
 (∀ p q : Int,Pq (fun ρ => ρ.low1 p q) (fun _ => kLow1 q)) ∧
 (∀ op p : Int,Pq (fun ρ => ρ.moves op p) (fun _ => kMoves op)) ∧
 (∀ p q : Int,Pq (fun ρ => ρ.low3 p q) (fun _ => (0,[[q2]]))) ∧
 (∀ y z : Int,Pq (fun ρ => ρ.low45 y z) (fun x => kLow45 y x)) ∧
 (∀ y : Int,Pq (fun ρ => ρ.low6 y) (fun x => kLow6 y x)) ∧
 (∀ y : Int,Pq (fun ρ => ρ.low7 y) (fun _ => (0,[[]]))) ∧
 (∀ p q : Int,Pq (fun ρ => ρ.high1 p q) (fun _ => kHigh1 p q)) ∧
 (∀ op : Int,Pq (fun ρ => ρ.odd op) (fun _ => kOdd op)) ∧
 (∀ op p q : Int,Pq (fun ρ => ρ.high5 op p q) (fun _ => kHigh5 op q)) ∧
 (∀ op : Int,Pq (fun ρ => ρ.setBits op) (fun _ => kBits op)) ∧
 (∀ y hl : Int,InU hl → Pq (fun ρ => ρ.accumulator y hl) (fun _ => kAcc y)) ∧
 (∀ (s : Int) (rep : Bool),Pq (fun ρ => ρ.block0 s rep) (fun _ => kBlock0 rep)) ∧
 (∀ (s : Int) (rep : Bool),Pq (fun ρ => ρ.block1 s rep) (fun _ => kBlock1 rep)) ∧
 (∀ (s s8 : Int) (rep : Bool),Pq (fun ρ => ρ.block2 s s8 rep) (fun _ => kBlock2 rep)) ∧
 (∀ (s : Int) (rep : Bool),Pq (fun ρ => ρ.block3 s rep) (fun _ => kBlock3 rep)) :=by
 refine ⟨fun y => ?_,fun p q => ?_,fun op p => ?_,fun p q => ?_,fun y z => ?_,fun y => ?_,fun y => ?_,fun p q => ?_,fun op => ?_,fun op p q => ?_,fun op => ?_,fun y hl hh => ?_,fun s rep => ?_,fun s rep => ?_,fun s s8 rep => ?_,fun s rep => ?_⟩
 any_goals (unfold Rw.low0 kLow0;refine (.ite (.c (.c0 ?_)) (.ite (.c (.c0 ?_)) (.ite (.c (.c1 ?_)) (.split (fun h => (.c (.c1 ?_))) (fun h => (.c (.c1 ?_))))))))
 any_goals (unfold Rw.low1 kLow1;refine (.ite (.c (.c2 ?_)) (.c (.c0 ?_))))
 any_goals (unfold Rw.moves kMoves;refine (.ite (.c (.c0 ?_)) (.ite (.c (.c0 ?_)) (.ite (.c (.c2 ?_)) (.ite (.c (.c2 ?_)) (.ite (.c (.c2 ?_)) (.c (.c2 ?_))))))))
 any_goals (unfold Rw.low3;refine (.c (.c0 ?_)))
 any_goals (unfold Rw.low45 kLow45;refine (.split (fun h => (.x (.c0 ?_) (.c1 ?_))) (fun h => (.c (.c0 ?_)))))
 any_goals (unfold Rw.low6 kLow6;refine (.ite (.x (.c1 ?_) (.c2 ?_)) (.c (.c1 ?_))))
 any_goals (unfold Rw.low7;refine (.c (.c0 ?_)))
 any_goals (unfold Rw.high1 kHigh1;refine (.ite (.c (.c0 ?_)) (.ite (.c (.c0 ?_)) (.ite (.c (.c0 ?_)) (.ite (.c (.c0 ?_)) (.c (.c0 ?_)))))))
 any_goals (unfold Rw.odd kOdd;refine (.ite (.c (.c2 ?_)) (.ite (.c (.c1 ?_)) (.ite (.c (.c1 ?_)) (.ite (.c (.c0 ?_)) (.ite (.c (.c0 ?_)) (.ite (.c (.c0 ?_)) (.ite (.c (.c0 ?_)) (.c (.c0 ?_))))))))))
 any_goals (unfold Rw.high5 kHigh5;refine (.ite (.c (.c0 ?_)) (.ite (.c (.c2 ?_)) (.c (.c0 ?_)))))
 any_goals (unfold Rw.setBits kBits;refine (.ite (.split (fun h => (.c (.c0 ?_))) (fun h => (.c (.c0 ?_)))) (.c (.c0 ?_))))
 any_goals (unfold Rw.accumulator kAcc;refine (.ite (.c (.c0 ?_)) (.ite (.c (.c0 ?_)) (.c (.c0 ?_)))))
 any_goals (unfold Rw.block0 Rw.blockTail0 kBlock0;refine (.split (fun h => (.c (.c0 ?_))) (fun h => (.c (.c0 ?_)))))
 any_goals (unfold Rw.block1 Rw.blockTail1 kBlock1;refine (.split (fun h => (.c (.c0 ?_))) (fun h => (.c (.c0 ?_)))))
 any_goals (unfold Rw.block2 kBlock2;refine (.split (fun h => (.c (.c0 ?_))) (fun h => (.c (.c0 ?_)))))
 any_goals (unfold Rw.block3 kBlock3;refine (.split (fun h => (.c (.c0 ?_))) (fun h => (.c (.c0 ?_)))))
 all_goals
  intro ρ hx hI ts Q ht hQ
  (try intro u)
  (try intro v)
  have hQ0 :=hQ []
  rw [List.append_nil] at hQ0
  simp only [unfE,Tr.bind,bind_ite,pq_ite,Tr.pq,kk1,kk2,kk3,kk4,kk5,kk6,if_true,if_false,true_and,and_true,or_true,true_or,List.append_assoc,List.cons_append,List.nil_append]
  repeat' (first | (with_reducible refine And.intro ?_ ?_) | (intro _))
  all_goals first | contradiction | (refine hQ0 ?_;simp;done) | (refine hQ _ ?_;simp;done) | omega | (simp only [List.length_append,List.length_cons,List.length_nil];omega) | exact inU_wp _ _ | exact inU_w _ | exact hI.2.2 | exact inU_pair hI _ _ | exact inU_pr hI.1 hI.2.1 hI.2.2 _ _ _ | (exfalso;simp_all;done)
def kLow (op y z q : Int) (x : Int) : Ks :=if z = 0 then kLow0 y else if z = 1 then kLow1 q else if z = 2 then kMoves op else if z = 3 then (0,[[q2]]) else if z = 4 ∨ z = 5 then kLow45 y x else if z = 6 then kLow6 y x else (0,[[]])
theorem low_pq {op y z p q : Int} : Pq (fun ρ => ρ.low op y z p q) (fun x => kLow op y z q x) :=by
 unfold Rw.low kLow
 refine (.ite (gp.1 _) (.ite (gp.2.1 _ _) (.ite (gp.2.2.1 _ _) (.ite (gp.2.2.2.1 _ _) (.ite (gp.2.2.2.2.1 _ _) (.ite (gp.2.2.2.2.2.1 _) (gp.2.2.2.2.2.2.1 _)))))))
def kHigh (op z p q : Int) : Ks :=if z = 0 then (0,[[q1],[q1,qN,qN]]) else if z = 1 then kHigh1 p q else if z = 2 then (2,[[qN,qN]]) else if z = 3 then kOdd op else if z = 4 then (2,[[qN,qN],[qN,qN,q1,qW,qW]]) else if z = 5 then kHigh5 op q else if z = 6 then (1,[[qN]]) else (0,[[q1,qW,qW]])
theorem high_pq {op y z p q : Int} : Pq (fun ρ => ρ.high op y z p q) (fun _ => kHigh op z p q) :=by
 unfold Rw.high kHigh
 refine (.ite (.c (.c0 ?_)) (.ite (gp.2.2.2.2.2.2.2.1 _ _) (.ite (.c (.c2 ?_)) (.ite (.ret (gp.2.2.2.2.2.2.2.2.1 _)) (.ite (.c (.c2 ?_)) (.ite (gp.2.2.2.2.2.2.2.2.2.1 _ _ _) (.ite (.c (.c1 ?_)) (.c (.c0 ?_)))))))))
 all_goals
  intro ρ hx hI ts Q ht hQ
  (try intro u)
  (try intro v)
  have hQ0 :=hQ []
  rw [List.append_nil] at hQ0
  simp only [unfE,Tr.bind,bind_ite,pq_ite,Tr.pq,kk1,kk2,kk3,kk4,kk5,kk6,if_true,if_false,true_and,and_true,or_true,true_or,List.append_assoc,List.cons_append,List.nil_append]
  repeat' (first | (with_reducible refine And.intro ?_ ?_) | (intro _))
  all_goals first | contradiction | (refine hQ _ ?_;simp;done) | omega | (simp only [List.length_append,List.length_cons,List.length_nil];omega) | exact inU_w _ | exact hI.2.2
def kMain (op : Int) (x : Int) : Ks :=if px op = 0 then kLow op (py op) (pz op) (pq op) x else if px op = 1 then if op = 118 then (0,[[]]) else if py op = 6 then if x = 0 then (0,[[qW]]) else (1,[[qN,q5,qW]]) else if pz op = 6 then if x = 0 then (0,[[qN]]) else (1,[[qN,q5,qN]]) else (0,[[]]) else if px op = 2 then if pz op = 6 then if x = 0 then (0,[[qN]]) else (1,[[qN,q5,qN]]) else (0,[[]]) else kHigh op (pz op) (pp op) (pq op)
theorem main_pq {op : Int} : Pq (fun ρ => ρ.main op) (fun x => kMain op x) :=by
 unfold Rw.main kMain
 refine (.ite (.dsp low_pq _) (.ite (.ite (.c (.c0 ?_)) (.ite (.x (.c0 ?_) (.c1 ?_)) (.split (fun h => (.x (.c0 ?_) (.c1 ?_))) (fun h => (.c (.c0 ?_)))))) (.ite (.split (fun h => (.x (.c0 ?_) (.c1 ?_))) (fun h => (.c (.c0 ?_)))) (.dsp high_pq _))))
 all_goals
  intro ρ hx hI ts Q ht hQ
  (try intro u)
  (try intro v)
  have hQ0 :=hQ []
  rw [List.append_nil] at hQ0
  simp only [unfE,Tr.bind,bind_ite,pq_ite,Tr.pq,kk1,kk2,kk3,kk4,kk5,kk6,if_true,if_false,true_and,and_true,or_true,true_or,List.append_assoc,List.cons_append,List.nil_append]
  repeat' (first | (with_reducible refine And.intro ?_ ?_) | (intro _))
  all_goals first | contradiction | (refine hQ0 ?_;simp;done) | (refine hQ _ ?_;simp;done) | omega | (simp only [List.length_append,List.length_cons,List.length_nil];omega) | exact inU_w _ | exact inU_pair hI _ _
def kBlock (y z : Int) : Ks :=if z = 0 then kBlock0 (decide (6 ≤ y)) else if z = 1 then kBlock1 (decide (6 ≤ y)) else if z = 2 then kBlock2 (decide (6 ≤ y)) else kBlock3 (decide (6 ≤ y))
theorem block_pq {y z : Int} : Pq (fun ρ => ρ.block y z) (fun _ => kBlock y z) :=by
 unfold Rw.block kBlock
 exact .two (.ite (gp.2.2.2.2.2.2.2.2.2.2.2.2.1 _ _) (.ite (gp.2.2.2.2.2.2.2.2.2.2.2.2.2.1 _ _) (.ite (gp.2.2.2.2.2.2.2.2.2.2.2.2.2.2.1 _ _ _) (gp.2.2.2.2.2.2.2.2.2.2.2.2.2.2.2 _ _)))) (.ite (gp.2.2.2.2.2.2.2.2.2.2.2.2.1 _ _) (.ite (gp.2.2.2.2.2.2.2.2.2.2.2.2.2.1 _ _) (.ite (gp.2.2.2.2.2.2.2.2.2.2.2.2.2.2.1 _ _ _) (gp.2.2.2.2.2.2.2.2.2.2.2.2.2.2.2 _ _))))
def kMore1 (y z q : Int) : Ks :=if z = 0 then (0,[[qI]]) else if z = 1 then (0,[[qO]]) else if z = 2 then (0,[[q7]]) else if z = 3 then if q = 0 then (2,[[qN,qN,qW,qW]]) else (2,[[qN,qN,qN,qN]]) else if z = 4 then (0,[[]]) else if z = 5 then (0,[[qN,qN]]) else if z = 6 then (0,[[]]) else kAcc y
theorem accM_pq {y : Int} : Pq (fun ρ => (ρ.accumulator y ρ.hl0).bind fun _ ρ => .ret () ρ) (fun _ => kAcc y) :=fun ρ hI c ts Q a b d => by
 dsimp only;rw [bind_unit];exact (gp.2.2.2.2.2.2.2.2.2.2.2.1 _ _) (inU_wp _ _) ρ hI c ts Q a b d
theorem more1_pq {y z p q : Int} : Pq (fun ρ => ρ.more1 y z p q) (fun _ => kMore1 y z q) :=by
 unfold Rw.more1 kMore1
 refine (.ite (.c (.c0 ?_)) (.ite (.c (.c0 ?_)) (.ite (.c (.c0 ?_)) (.ite (.ite (.c (.c2 ?_)) (.c (.c2 ?_))) (.ite (.c (.c0 ?_)) (.ite (.c (.c0 ?_)) (.ite (.c (.c0 ?_)) accM_pq)))))))
 all_goals
  intro ρ hx hI ts Q ht hQ
  (try intro u)
  (try intro v)
  have hQ0 :=hQ []
  rw [List.append_nil] at hQ0
  simp only [unfE,Tr.bind,bind_ite,pq_ite,Tr.pq,kk1,kk2,kk3,kk4,kk5,kk6,if_true,if_false,true_and,and_true,or_true,true_or,List.append_assoc,List.cons_append,List.nil_append]
  repeat' (first | (with_reducible refine And.intro ?_ ?_) | (intro _))
  all_goals first | contradiction | (refine hQ0 ?_;simp;done) | (refine hQ _ ?_;simp;done) | omega | (simp only [List.length_append,List.length_cons,List.length_nil];omega) | exact inU_wp _ _ | exact inU_w _ | exact hI.2.2
def kMore (op : Int) : Ks :=if px op = 2 ∧ 4 ≤ py op ∧ pz op ≤ 3 then kBlock (py op) (pz op) else if px op = 1 then kMore1 (py op) (pz op) (pq op) else (0,[[]])
theorem setMore_pq {op : Int} : Pq (fun ρ => ρ.setMore op) (fun _ => kMore op) :=by
 unfold Rw.setMore kMore
 refine (.ite (.ret block_pq) (.ite more1_pq (.c (.c0 ?_))))
 all_goals
  intro ρ hx hI ts Q ht hQ
  (try intro u)
  (try intro v)
  have hQ0 :=hQ []
  rw [List.append_nil] at hQ0
  simp only [unfE,Tr.bind,bind_ite,pq_ite,Tr.pq,kk1,kk2,kk3,kk4,kk5,kk6,if_true,if_false,true_and,and_true,or_true,true_or,List.append_assoc,List.cons_append,List.nil_append]
  repeat' (fail)
  all_goals (refine hQ0 ?_;simp;done)
def kBoth (op : Int) : List Ts :=if px op = 1 then [[qN,qN,q2,qN,q1]] else [[qN,qN,q2,qN,q1,qW]]
/-! a whole instruction -/
section
variable {ρ : Rw} {o o2 : Int} {c : List Int} {Q : Ts → Prop} (hh : ρ.halt = false) (hI : IxOk ρ)
include hh hI
theorem main_i (hx : ρ.x = 0) (h1 : ¬ (o = 221 ∨ o = 253)) (h2 : o ≠ 203) (h3 : o ≠ 237) (hc : c.length = (kMain (wrap64 o) 0).1) (hQ : ∀ s ∈ (kMain (wrap64 o) 0).2,Q (qF :: s)) : (ρ.instr false).pq ρ.pc (o :: c) [] Q :=by
 unfold Rw.instr Rw.fetch Rw.req
 rw [if_neg (by rw [hh];exact Bool.false_ne_true)]
 simp only [Tr.bind,Tr.pq,true_or,if_true,true_and]
 refine ⟨by simp,?_⟩
 rw [if_neg h1,if_neg h2,if_neg h3,bind_unit]
 exact main_pq (({ ρ with late :=false } : Rw).fetched) hI c [qF] Q (by show c.length = (kMain (wrap64 o) ρ.x).1;rw [hx];exact hc) (by simp) (fun s hs => hQ s (by rw [← hx];exact hs))
theorem bits_i (hQ : ∀ s ∈ (kBits (wrap64 o)).2,Q (qF :: qF :: s)) (hz : (kBits (wrap64 o)).1 = 0) : (ρ.instr false).pq ρ.pc [203,o] [] Q :=by
 unfold Rw.instr Rw.fetch Rw.req
 rw [if_neg (by rw [hh];exact Bool.false_ne_true)]
 simp only [Tr.bind,Tr.pq,true_or,if_true,true_and]
 refine ⟨by simp,?_⟩
 rw [if_neg (by decide)]
 simp only [if_true,Tr.bind,Tr.pq,true_or,true_and,bind_unit]
 exact ⟨by simp,rfl,(gp.2.2.2.2.2.2.2.2.2.2.1 _) ((({ ρ with late :=false } : Rw).fetched).fetched) hI [] [qF,qF] Q hz.symm (by simp) hQ⟩
theorem more_i (hc : c.length = (kMore (wrap64 o)).1) (hQ : ∀ s ∈ (kMore (wrap64 o)).2,Q (qF :: qF :: s)) : (ρ.instr false).pq ρ.pc (237 :: o :: c) [] Q :=by
 unfold Rw.instr Rw.fetch Rw.req
 rw [if_neg (by rw [hh];exact Bool.false_ne_true)]
 simp only [Tr.bind,Tr.pq,true_or,if_true,true_and]
 refine ⟨by simp,?_⟩
 rw [if_neg (by decide),if_neg (by decide)]
 simp only [if_true,Tr.bind,Tr.pq,true_or,true_and,bind_unit]
 exact ⟨by simp,rfl,setMore_pq ((({ ρ with late :=false } : Rw).fetched).fetched) hI c [qF,qF] Q hc (by simp) hQ⟩
theorem second_i (h1 : o = 221 ∨ o = 253) (hT : ∀ x ρ',IxOk ρ' → x = (if o = 253 then 2 else 1) → ρ'.x = x → ρ'.pc = zbk ρ.pc → (ρ'.second).pq ρ'.pc c [qF] Q) : (ρ.instr false).pq ρ.pc (o :: c) [] Q :=by
 unfold Rw.instr Rw.fetch Rw.req
 rw [if_neg (by rw [hh];exact Bool.false_ne_true)]
 simp only [Tr.bind,Tr.pq,true_or,if_true,true_and]
 refine ⟨by simp,?_⟩
 rw [if_pos h1,if_neg (by simp)]
 by_cases h2 : o = 253
 ·rw [if_pos h2];exact hT 2 ({ ({ ρ with late :=false } : Rw).fetched with x :=2 }) hI (if_pos h2).symm rfl rfl
 ·rw [if_neg h2];exact hT 1 ({ ({ ρ with late :=false } : Rw).fetched with x :=1 }) hI (if_neg h2).symm rfl rfl
theorem index_i (h1 : o = 221 ∨ o = 253) (h2 : ¬ (o2 = 221 ∨ o2 = 237 ∨ o2 = 253)) (h3 : o2 ≠ 203) {x : Int} (hxx : x = (if o = 253 then 2 else 1)) (hc : c.length = (kMain (wrap64 o2) x).1) (hQ : ∀ s ∈ (kMain (wrap64 o2) x).2,Q (qF :: qF :: s)) : (ρ.instr false).pq ρ.pc (o :: o2 :: c) [] Q :=by
 refine second_i hh hI h1 fun y ρ' hI' hy hy' _ => ?_
 obtain rfl : x = y :=hxx.trans hy.symm
 unfold Rw.second Rw.fetch Rw.req
 simp only [Tr.bind,Tr.pq,true_or,if_true,true_and]
 refine ⟨by simp,?_⟩
 rw [if_neg h3,if_neg h2,bind_unit]
 exact main_pq ρ'.fetched hI' c [qF,qF] Q (by show c.length = (kMain (wrap64 o2) ρ'.x).1;rw [hy'];exact hc) (by simp) (fun s hs => hQ s (by rw [← hy'];exact hs))
theorem both_i (h1 : o = 221 ∨ o = 253) {d b : Int} (hQ : ∀ s ∈ kBoth (wrap64 b),Q (qF :: qF :: s)) : (ρ.instr false).pq ρ.pc [o,203,d,b] [] Q :=by
 refine second_i hh hI h1 fun y ρ' hI' hy hy' _ => ?_
 unfold Rw.second Rw.fetch Rw.req
 simp only [Tr.bind,Tr.pq,true_or,if_true,true_and]
 refine ⟨by simp,?_⟩
 rw [bind_unit]
 unfold Rw.setBoth
 unfold kBoth at hQ
 by_cases h : px (wrap64 b) = 1
 ·rw [if_pos h] at hQ
  have hQ0 :=trivial
  have ht : ([(1,4),(1,4)] : Ts).length ≤ 2 :=by decide
  have hI :=hI'
  simp only [Rw.fetched,unfE,Tr.bind,bind_ite,pq_ite,Tr.pq,kk1,kk2,kk3,kk4,kk5,kk6,if_true,if_false,true_and,and_true,or_true,true_or,List.append_assoc,List.cons_append,List.nil_append]
  repeat' (first | (with_reducible refine And.intro ?_ ?_) | (intro _))
  all_goals first | contradiction | (refine hQ _ ?_;simp;done) | omega | (simp only [List.length_append,List.length_cons,List.length_nil];omega) | exact inU_w _
 ·rw [if_neg h] at hQ
  have hQ0 :=trivial
  have ht : ([(1,4),(1,4)] : Ts).length ≤ 2 :=by decide
  have hI :=hI'
  simp only [Rw.fetched,unfE,Tr.bind,bind_ite,pq_ite,Tr.pq,kk1,kk2,kk3,kk4,kk5,kk6,if_true,if_false,true_and,and_true,or_true,true_or,List.append_assoc,List.cons_append,List.nil_append]
  repeat' (first | (with_reducible refine And.intro ?_ ?_) | (intro _))
  all_goals first | contradiction | (refine hQ _ ?_;simp;done) | omega | (simp only [List.length_append,List.length_cons,List.length_nil];omega) | exact inU_w _
end
end Go.Proofs.YtnelghpendfdmaaGreatDoor.KRow
