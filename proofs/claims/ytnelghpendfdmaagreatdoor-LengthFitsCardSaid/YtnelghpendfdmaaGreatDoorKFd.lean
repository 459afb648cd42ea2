/-
 PROVED: the cycles of what a flat machine's step asks are those of the plan: tables over the operations.
-/
import Derived.Test.YtnelghpendfdmaaGreatDoorKFc
import Derived.Test.YtnelghpendfdmaaGreatDoorKFl
import Derived.Test.YtnelghpendfdmaaGreatDoorHFunx11
namespace Go.Proofs.YtnelghpendfdmaaGreatDoor.KRow
open Go Go.RowKit Go.Proofs.YtnelghpendfdmaaGreatDoorW.PrintWords
open Go.Proofs.YtnelghpendfdmaaGreatDoor.HFun
set_option linter.unusedVariables false
set_option maxRecDepth 100000
def digs (s : ByteArray) : List Int :=s.data.toList.map fun c => if 97 ≤ c.toNat then (c.toNat : Int) - 87 else (c.toNat : Int) - 48
def psi (q : Int × Int) : S56 :=⟨q.1,0,0,q.2⟩
def cyk (ts : Ts) : Option (List Int) :=ycj.f 12 (ts.map psi)
def okT (P : ByteArray × ByteArray) (ts : Ts) : Bool :=(cyk ts == some (digs P.1) || cyk ts == some (digs P.2)) && nrw ts
def wfS (s : ByteArray) : Bool :=s.data.toList.all fun c => (decide (48 ≤ c.toNat) && decide (c.toNat ≤ 57)) || (decide (97 ≤ c.toNat) && decide (c.toNat ≤ 122))
def goodP (P : ByteArray × ByteArray) : Bool :=wfS P.1 && wfS P.2 && decide (P.1.size ≤ 9) && decide (P.2.size ≤ 9) && decide (4 ≤ (digs P.2).sum) && decide ((digs P.2).sum ≤ 23)
/-! the cycles hang on kinds and lengths alone -/
theorem rd_psi (l : List S56) (i : Int) : zaw ((l.map kt).map psi) i = psi (kt (zaw l i)) :=by
 unfold zaw
 simp only [List.getD_eq_getElem?_getD,List.map_map,List.getElem?_map]
 cases l[i.toNat]? <;> rfl
theorem cyk_l (l : List S56) : ∀ (k : Nat) (y : List Int) (i : Int),ycj.l0 k ((l.map kt).map psi) y i = ycj.l0 k l y i
 | 0,_,_ => rfl
 | k + 1,y,i => by
  unfold ycj.l0
  simp only [rd_psi,cyk_l l k,List.length_map]
  rfl
theorem cyk_f (l : List S56) : ycj.f 12 l = cyk (l.map kt) :=(cyk_l l 12 [] 0).symm
/-! the tables -/
def tabC (s x n j : Nat) (p : Bool) (k : Nat) : Bool :=yce.f 20 (s : Int) (x : Int) (n : Int) == some (p,(k : Int)) && ycm.f 20 (s : Int) (x : Int) (n : Int) == some true && ycw.f 20 (s : Int) (x : Int) (n : Int) == some (p,(k : Int)) && ycq.f 20 (s : Int) (x : Int) (n : Int) == some ((j + 1 + (if p = true then 1 else 0) + k : Nat) : Int) && (k != 1 || s == 0 && ydd.f (n : Int) == ycp.f (n : Int)) && (!p || k != 1 || ydd.f (n : Int) == some false)
def tabF (n x : Nat) : Bool :=(combos.any fun p => tabC 0 x n (if x = 0 then 0 else 1) p.1 p.2 && (kMain (n : Int) (x : Int)).1 == (if p.1 = true then 1 else 0) + p.2) && goodP (ofP 0 (x : Int) (n : Int)) && (kMain (n : Int) (x : Int)).2.all fun s => okT (ofP 0 (x : Int) (n : Int)) (if x = 0 then qF :: s else qF :: qF :: s)
theorem tabF_n : ∀ n : Nat,n < 256 → ∀ x : Nat,x < 3 → (tabF n x || n == 203 || n == 237 || (x != 0 && (n == 221 || n == 253)) || (x == 0 && (n == 221 || n == 253))) = true :=by decide +kernel
theorem tabL_n : ∀ n : Nat,(n = 221 ∨ n = 253) → goodP (ofP 0 0 (n : Int)) = true ∧ okT (ofP 0 0 (n : Int)) [qF] = true ∧ yci.f 20 0 0 (n : Int) 0 0 1 = some 0 :=by
 rintro n (rfl | rfl) <;> decide +kernel
theorem tabB_n : ∀ n : Nat,n < 256 → (goodP (ofP 1 0 (n : Int)) && tabC 1 0 n 1 false 0 && (kBits (n : Int)).1 == 0 && (kBits (n : Int)).2.all fun s => okT (ofP 1 0 (n : Int)) (qF :: qF :: s)) = true :=by decide +kernel
theorem tabM_n : ∀ n : Nat,n < 256 → (([0,2] : List Nat).any (fun k => tabC 2 0 n 1 false k && (kMore (n : Int)).1 == k) && goodP (ofP 2 0 (n : Int)) && (kMore (n : Int)).2.all fun s => okT (ofP 2 0 (n : Int)) (qF :: qF :: s)) = true :=by decide +kernel
theorem tabO_n : ∀ n : Nat,n < 256 → (goodP (ofP 3 1 (n : Int)) && ycm.f 20 3 1 (n : Int) == some true && ycm.f 20 3 2 (n : Int) == some true && ycw.f 20 3 1 (n : Int) == some (true,0) && ycw.f 20 3 2 (n : Int) == some (true,0) && ycq.f 20 3 1 (n : Int) == some 4 && ycq.f 20 3 2 (n : Int) == some 4 && (kBoth (n : Int)).all fun s => okT (ofP 3 1 (n : Int)) (qF :: qF :: s)) = true :=by decide +kernel
/-! which instructions may be -/
theorem chk_ok {s x o d i n imm : Int} {p rel : Bool} (h1 : ycm.f 20 s x o = some true) (h2 : ycw.f 20 s x o = some (p,imm)) (h3 : ycq.f 20 s x o = some n) (hd : if p = true then -128 ≤ d ∧ d ≤ 127 else d = 0)
  (hi : (imm = 0 ∧ i = 0) ∨ (imm = 1 ∧ ydd.f o = some rel ∧ if rel = true then -128 ≤ i ∧ i ≤ 127 else 0 ≤ i ∧ i ≤ 255) ∨ (imm = 2 ∧ 0 ≤ i ∧ i ≤ 65535)) : yci.f 20 s x o d i n = some 0 :=by
 have e : yci.j0 20 imm false s x o d i n = some 0 :=by
  rcases hi with ⟨rfl,rfl⟩ | ⟨rfl,hr,hi⟩ | ⟨rfl,h4,h5⟩
  ·rfl
  ·cases rel
   ·rw [if_neg Bool.false_ne_true] at hi
    simp only [yci.j0,yci.j1,hr,Option.bind_some,Bool.false_eq_true,if_false,if_true]
    rw [if_neg (by decide),if_neg (by omega),if_neg (by omega)]
   ·rw [if_pos rfl] at hi
    simp only [yci.j0,yci.j1,hr,Option.bind_some,Bool.false_eq_true,if_false,if_true]
    rw [if_neg (by decide),if_neg (by omega),if_neg (by omega)]
  ·simp only [yci.j0,Bool.false_eq_true,if_false,if_true]
   rw [if_neg (by omega),if_neg (by omega)]
 have e1 : decide (d > 127) = false :=decide_eq_false (by cases p <;> simp only [Bool.false_eq_true,if_false,if_true] at hd <;> omega)
 have e2 : ¬ d < -128 :=by cases p <;> simp only [Bool.false_eq_true,if_false,if_true] at hd <;> omega
 unfold yci.f
 rw [h1,h2,h3]
 simp only [Option.bind_some,if_true]
 cases p
 ·simp only [Bool.false_eq_true,if_false] at hd ⊢
  rw [if_pos hd,if_neg e2,e1,e]
 ·simp only [if_true]
  rw [if_neg e2,e1,e]
theorem tabR_n : ∀ n : Nat,n < 256 → ycl.f 20 (n : Int) = some (reB (n : Int)) :=by decide +kernel
theorem sg_rng {v : Int} (h0 : 0 ≤ v) (h1 : v < 256) : -128 ≤ sg v ∧ sg v ≤ 127 :=by
 have h : ∀ n : Nat,n < 256 → -128 ≤ sg (n : Int) ∧ sg (n : Int) ≤ 127 :=by decide +kernel
 have :=h v.toNat (by omega)
 rwa [Int.toNat_of_nonneg h0] at this
def InsOk (v : Ins) : Prop :=goodP (ofP v.s v.x v.o) = true ∧ yci.f 20 v.s v.x v.o v.d v.i v.n = some 0 ∧ (v.s = 0 → ydc.f 20 0 v.x v.o v.d v.i v.n = some (reB v.o)) ∧ (0 ≤ v.o ∧ v.o < 256) ∧ 0 ≤ v.x ∧ (v.s = 0 ∨ v.s = 1 ∨ v.s = 2 ∨ v.s = 3)
theorem reach_ok {x o d i n : Int} (h : yci.f 20 0 x o d i n = some 0) (h0 : 0 ≤ o) (h1 : o < 256) : ydc.f 20 0 x o d i n = some (reB o) :=by
 have :=byte_all (P :=fun n => ycl.f 20 n = some (reB n)) tabR_n h0 h1
 unfold ydc.f
 rw [h]
 simp only [Option.bind_some,if_true,this]
theorem main_v {l : List Int} (hl : ∀ x ∈ l,0 ≤ x ∧ x < 256) {j s x n : Nat} {p : Bool} {k : Nat} (hp : k ≤ 2) (hpk : ¬ (p = true ∧ k = 2)) (hj : j < l.length) (ho : rd l (j : Int) = (n : Int)) (hC : tabC s x n j p k = true) {v : Ins} (hv : refMain l j (s : Int) (x : Int) = (v,0)) :
  j + 1 + (if p = true then 1 else 0) + k ≤ l.length ∧ v.s = (s : Int) ∧ v.x = (x : Int) ∧ v.o = (n : Int) ∧ v.n = ((j + 1 + (if p = true then 1 else 0) + k : Nat) : Int) ∧ yci.f 20 v.s v.x v.o v.d v.i v.n = some 0 :=by
 simp only [tabC,Bool.and_eq_true,beq_iff_eq] at hC
 obtain ⟨⟨⟨⟨⟨c1,c2⟩,c3⟩,c4⟩,c5⟩,_⟩ :=hC
 unfold refMain at hv
 rw [ho,c1] at hv
 simp only [Option.getD_some,Int.toNat_natCast] at hv
 by_cases hL : l.length < j + 1 + (if p = true then 1 else 0) + k
 ·rw [if_pos hL] at hv;cases hv
 rw [if_neg hL] at hv
 cases hv
 have hr : ∀ q : Nat,q < l.length → 0 ≤ rd l (q : Int) ∧ rd l (q : Int) < 256 :=fun q hq => rd_rng hl hq
 refine ⟨by omega,rfl,rfl,rfl,rfl,?_⟩
 obtain ⟨rel,hrel⟩ : ∃ rel,ycp.f (n : Int) = some rel :=by
  rcases rel_some (n : Int) with h | h
  ·exact ⟨_,h⟩
  ·exact ⟨_,h⟩
 refine chk_ok (rel :=rel) c2 c3 c4 ?_ ?_
 ·cases p
  ·rfl
  ·simp only [if_true] at hL ⊢
   have :=hr (j + 1) (by omega)
   exact sg_rng this.1 this.2
 ·rcases (by omega : k = 0 ∨ k = 1 ∨ k = 2) with rfl | rfl | rfl
  ·exact .inl ⟨rfl,rfl⟩
  ·have hy :=hr (j + 1 + (if p = true then 1 else 0)) (by omega)
   have c6 : s = 0 ∧ ydd.f (n : Int) = ycp.f (n : Int) :=by simpa using c5
   obtain ⟨rfl,c6⟩ :=c6
   refine .inr (.inl ⟨rfl,c6.trans hrel,?_⟩)
   rw [hrel]
   cases rel
   ·simp only [Option.some.injEq,Bool.false_eq_true,and_false,if_false]
    exact ⟨hy.1,by have :=hy.2;omega⟩
   ·simp only [and_true,if_true]
    exact sg_rng hy.1 hy.2
  ·have hp1 : p = false :=by cases p <;> simp_all
   subst hp1
   simp only [Bool.false_eq_true,if_false] at hL ⊢
   have hy :=hr (j + 1 + 0) (by omega)
   have hz :=hr (j + 2 + 0) (by omega)
   refine .inr (.inr ⟨rfl,?_⟩)
   rw [if_neg (by decide),if_pos (show ((2 : Nat) : Int) = 2 from rfl)]
   exact ⟨by omega,by omega⟩
theorem okT_nrw {P : ByteArray × ByteArray} {ts : Ts} (h : okT P ts = true) : nrw ts = true :=by
 unfold okT at h
 rw [Bool.and_eq_true] at h
 exact h.2
theorem combo_ok {p : Bool × Nat} (h : p ∈ combos) : p.2 ≤ 2 ∧ ¬ (p.1 = true ∧ p.2 = 2) :=by
 simp only [combos,List.mem_cons,List.not_mem_nil,or_false] at h
 rcases h with rfl | rfl | rfl | rfl | rfl <;> decide
theorem insOk_of {v : Ins} {s x n : Nat} (v2 : v.s = (s : Int)) (v3 : v.x = (x : Int)) (v4 : v.o = (n : Int)) (hn : n < 256) (hs : s ≤ 3) (g : goodP (ofP (s : Int) (x : Int) (n : Int)) = true) (c : yci.f 20 v.s v.x v.o v.d v.i v.n = some 0) : InsOk v :=by
 refine ⟨by rw [v2,v3,v4];exact g,c,fun h => ?_,⟨by omega,by omega⟩,by omega,by omega⟩
 rw [h] at c
 exact reach_ok c (by omega) (by omega)
/-- What a flat machine's step asks, of an instruction's bytes at PC. -/
theorem fits_ref {ρ : Rg} (hh : ρ.halt = false) (p0 : 0 ≤ ρ.pc) (p1 : ρ.pc < 65536) (hI : InU ρ.ix ∧ InU ρ.iy ∧ InU ρ.sp) {b : List Int} (hb : ∀ x ∈ b,0 ≤ x ∧ x < 256) {m0 : Nat → Int} (hm0 : ∀ k,0 ≤ m0 k ∧ m0 k < 256) (hmem : ∀ i : Nat,i < b.length → m0 ((ρ.pc + (i : Int)) % 65536).toNat = rd b (i : Int)) {v : Ins} (hv : refOf b = (v,0)) {pp : Nat} (hpp : pp = ((ρ.pc + 1) % 65536).toNat) :
  InsOk v ∧ ∃ out s m',okT (ofP v.s v.x v.o) (out.map kt) = true ∧ frw (nx ρ) pp 11 m0 [] [] = some (out,s,m') :=by
 have hIw : IxOk (rwP ρ (m0 pp)) :=hI
 have hh' : (rwP ρ (m0 pp)).halt = false :=hh
 have key : ∀ n : Nat,1 ≤ n → n ≤ b.length → ((rd b 0 = 221 ∨ rd b 0 = 253) → ¬ (m0 pp = 221 ∨ m0 pp = 237 ∨ m0 pp = 253)) → ∀ {P : ByteArray × ByteArray},((rwP ρ (m0 pp)).instr false).pq ρ.pc (b.take n) [] (fun ts => okT P ts = true) → ∃ out s m',okT P (out.map kt) = true ∧ frw (nx ρ) pp 11 m0 [] [] = some (out,s,m') :=by
  intro n h1 hn hp P hT
  have e :=take_rd1 h1 hn
  rw [e] at hT
  refine fr_all hh p0 p1 hm0 (fun i hi => ?_) hp (fun ts h => okT_nrw h) hT
  rw [← e,List.length_take] at hi
  rw [← e,hmem i (by omega)]
  simp [rd,show i < n by omega]
 have nat : ∀ i : Nat,i < b.length → ∃ n : Nat,rd b (i : Int) = (n : Int) ∧ n < 256 :=fun i hi => by
  have :=rd_rng hb hi
  exact ⟨(rd b (i : Int)).toNat,by omega,by omega⟩
 have w64n : ∀ n : Nat,n < 256 → wrap64 (n : Int) = (n : Int) :=fun n hn => w64b (by omega) (by omega)
 unfold refOf at hv
 by_cases h0 : b.length = 0
 ·rw [if_pos h0] at hv;cases hv
 rw [if_neg h0] at hv
 obtain ⟨o,eo,ho⟩ :=nat 0 (by omega)
 have eo' : rd b 0 = (o : Int) :=eo
 have epc : m0 ρ.pc.toNat = rd b 0 :=by
  have :=hmem 0 (by omega)
  rwa [show (ρ.pc + ((0 : Nat) : Int)) % 65536 = ρ.pc by omega] at this
 by_cases hpre : rd b 0 = 221 ∨ rd b 0 = 253
 ·rw [if_pos hpre] at hv
  by_cases h2 : b.length < 2
  ·rw [if_pos h2] at hv;cases hv
  rw [if_neg h2] at hv
  have hpk : m0 pp = rd b 1 :=by rw [hpp];exact hmem 1 (by omega)
  by_cases hlone : rd b 1 = 237 ∨ rd b 1 = 221 ∨ rd b 1 = 253
  ·rw [if_pos hlone] at hv
   cases hv
   rw [eo'] at hpre ⊢
   obtain ⟨t1,t2,t3⟩ :=tabL_n o (by omega)
   refine ⟨insOk_of (s :=0) (x :=0) (n :=o) rfl rfl rfl ho (by decide) t1 t3,?_⟩
   obtain ⟨s,hs⟩ :=fr_lone hh p0 p1 hm0 (pp :=pp) epc (by rw [eo'];exact hpre) (by rw [hpk];omega)
   exact ⟨[⟨1,ρ.pc,0,4⟩],s,m0,t2,hs⟩
  rw [if_neg hlone] at hv
  have hnp : ¬ (m0 pp = 221 ∨ m0 pp = 237 ∨ m0 pp = 253) :=by rw [hpk];omega
  obtain ⟨x,hx,hx0,ex⟩ : ∃ x : Nat,x < 3 ∧ x ≠ 0 ∧ (if rd b 0 = 253 then 2 else 1 : Int) = (x : Int) :=by
   by_cases h3 : rd b 0 = 253
   ·exact ⟨2,by decide,by decide,if_pos h3⟩
   ·exact ⟨1,by decide,by decide,if_neg h3⟩
  rw [ex] at hv
  obtain ⟨o2,eo2,ho2⟩ :=nat 1 (by omega)
  have eo2' : rd b 1 = (o2 : Int) :=eo2
  by_cases h203 : rd b 1 = 203
  ·rw [if_pos h203] at hv
   by_cases h4 : b.length < 4
   ·rw [if_pos h4] at hv;cases hv
   rw [if_neg h4] at hv
   cases hv
   obtain ⟨q,eq,hq⟩ :=nat 3 (by omega)
   have eq' : rd b 3 = (q : Int) :=eq
   obtain ⟨d,ed,hd⟩ :=nat 2 (by omega)
   have ed' : rd b 2 = (d : Int) :=ed
   have t :=tabO_n q hq
   simp only [Bool.and_eq_true,beq_iff_eq,List.all_eq_true] at t
   obtain ⟨⟨⟨⟨⟨⟨⟨t1,t2⟩,t3⟩,t4⟩,t5⟩,t6⟩,t7⟩,t8⟩ :=t
   rw [eq',ed']
   have hsg :=sg_rng (v :=(d : Int)) (by omega) (by omega)
   have e3 : ofP 3 (x : Int) (q : Int) = ofP 3 1 (q : Int) :=rfl
   refine ⟨insOk_of (s :=3) (x :=x) (n :=q) rfl rfl rfl hq (by decide) (by rw [← e3] at t1;exact t1) ?_,?_⟩
   ·rcases (by omega : x = 1 ∨ x = 2) with rfl | rfl
    ·exact chk_ok (rel :=false) t2 t4 t6 (by rw [if_pos rfl];exact hsg) (.inl ⟨rfl,rfl⟩)
    ·exact chk_ok (rel :=false) t3 t5 t7 (by rw [if_pos rfl];exact hsg) (.inl ⟨rfl,rfl⟩)
   ·refine key 4 (by omega) (by omega) (fun _ => hnp) ?_
    have e4 : b.take 4 = [rd b 0,203,rd b 2,rd b 3] :=by
     rw [take_rd2 (by omega) (by omega),h203]
     match b,h4 with
     | [_,_,_,_],_ => rfl
     | _ :: _ :: _ :: _ :: _ :: _,_ => rfl
     | [],h => simp at h
     | [_],h => simp at h
     | [_,_],h => simp at h
     | [_,_,_],h => simp at h
    rw [e4,eq']
    exact both_i hh' hIw hpre (fun s hs => by rw [w64n q hq] at hs;exact t8 s hs)
  rw [if_neg h203] at hv
  have t :=tabF_n o2 ho2 x hx
  have e1 : (o2 == 203) = false :=by simp;omega
  have e2 : (o2 == 237) = false :=by simp;omega
  have e3 : (o2 == 221) = false :=by simp;omega
  have e4 : (o2 == 253) = false :=by simp;omega
  rw [e1,e2,e3,e4] at t
  simp only [Bool.or_false,Bool.and_false,tabF,List.any_eq_true,List.all_eq_true,Bool.and_eq_true,beq_iff_eq,if_neg hx0] at t
  obtain ⟨⟨⟨p,hp,t1,t2⟩,t3⟩,t4⟩ :=t
  obtain ⟨k1,k2⟩ :=combo_ok hp
  obtain ⟨v1,v2,v3,v4,v5,v6⟩ :=main_v hb (j :=1) (s :=0) k1 k2 (by omega) eo2 t1 hv
  refine ⟨insOk_of v2 v3 v4 ho2 (by decide) t3 v6,?_⟩
  rw [v2,v3,v4]
  refine key (1 + 1 + (if p.1 = true then 1 else 0) + p.2) (by omega) v1 (fun _ => hnp) ?_
  rw [take_rd2 (by omega) v1,eo2']
  refine index_i hh' hIw hpre (by omega) (by omega) ex.symm ?_ (fun s hs => by rw [w64n o2 ho2] at hs;exact t4 s hs)
  rw [w64n o2 ho2,t2,List.length_take,List.length_drop]
  omega
 rw [if_neg hpre] at hv
 have hnopre : (rd b 0 = 221 ∨ rd b 0 = 253) → ¬ (m0 pp = 221 ∨ m0 pp = 237 ∨ m0 pp = 253) :=fun h => absurd h hpre
 by_cases h203 : rd b 0 = 203
 ·rw [if_pos h203] at hv
  by_cases h2 : b.length < 2
  ·rw [if_pos h2] at hv;cases hv
  rw [if_neg h2] at hv
  obtain ⟨o2,eo2,ho2⟩ :=nat 1 (by omega)
  have eo2' : rd b 1 = (o2 : Int) :=eo2
  have t :=tabB_n o2 ho2
  simp only [Bool.and_eq_true,beq_iff_eq,List.all_eq_true] at t
  obtain ⟨⟨⟨t1,t2⟩,t3⟩,t4⟩ :=t
  obtain ⟨v1,v2,v3,v4,v5,v6⟩ :=main_v hb (j :=1) (s :=1) (x :=0) (by decide) (by decide) (by omega) eo2 t2 hv
  refine ⟨insOk_of v2 v3 v4 ho2 (by decide) t1 v6,?_⟩
  rw [v2,v3,v4]
  refine key 2 (by omega) (by omega) hnopre ?_
  rw [take_rd2 (by omega) (by omega),eo2',h203]
  exact bits_i hh' hIw (fun s hs => by rw [w64n o2 ho2] at hs;exact t4 s hs) (by rw [w64n o2 ho2];exact t3)
 rw [if_neg h203] at hv
 by_cases h237 : rd b 0 = 237
 ·rw [if_pos h237] at hv
  by_cases h2 : b.length < 2
  ·rw [if_pos h2] at hv;cases hv
  rw [if_neg h2] at hv
  obtain ⟨o2,eo2,ho2⟩ :=nat 1 (by omega)
  have eo2' : rd b 1 = (o2 : Int) :=eo2
  have t :=tabM_n o2 ho2
  simp only [Bool.and_eq_true,beq_iff_eq,List.any_eq_true,List.all_eq_true] at t
  obtain ⟨⟨⟨k,hk,t2,t3⟩,t1⟩,t4⟩ :=t
  have hk2 : k ≤ 2 :=by simp at hk;omega
  obtain ⟨v1,v2,v3,v4,v5,v6⟩ :=main_v hb (j :=1) (s :=2) (x :=0) hk2 (by simp) (by omega) eo2 t2 hv
  refine ⟨insOk_of v2 v3 v4 ho2 (by decide) t1 v6,?_⟩
  rw [v2,v3,v4]
  refine key _ (by omega) v1 hnopre ?_
  rw [take_rd2 (by omega) v1,eo2',h237]
  refine more_i hh' hIw ?_ (fun s hs => by rw [w64n o2 ho2] at hs;exact t4 s hs)
  rw [w64n o2 ho2,t3,List.length_take,List.length_drop]
  simp only [Bool.false_eq_true,if_false] at v1 ⊢
  omega
 rw [if_neg h237] at hv
 have t :=tabF_n o ho 0 (by decide)
 have e1 : (o == 203) = false :=by simp;omega
 have e2 : (o == 237) = false :=by simp;omega
 have e3 : (o == 221) = false :=by simp;omega
 have e4 : (o == 253) = false :=by simp;omega
 rw [e1,e2,e3,e4] at t
 simp only [Bool.or_false,Bool.and_false,tabF,List.any_eq_true,List.all_eq_true,Bool.and_eq_true,beq_iff_eq,if_true] at t
 obtain ⟨⟨⟨p,hp,t1,t2⟩,t3⟩,t4⟩ :=t
 obtain ⟨k1,k2⟩ :=combo_ok hp
 obtain ⟨v1,v2,v3,v4,v5,v6⟩ :=main_v hb (j :=0) (s :=0) (x :=0) k1 k2 (by omega) eo t1 hv
 refine ⟨insOk_of v2 v3 v4 ho (by decide) t3 v6,?_⟩
 rw [v2,v3,v4]
 refine key _ (by omega) v1 hnopre ?_
 rw [take_rd1 (by omega) v1,eo']
 rw [eo'] at hpre h203 h237
 refine main_i hh' hIw rfl hpre h203 h237 ?_ (fun s hs => by rw [w64n o ho] at hs;exact t4 s hs)
 rw [w64n o ho,List.length_take,List.length_drop]
 have t2' : (kMain (o : Int) 0).1 = (if p.1 = true then 1 else 0) + p.2 :=t2
 rw [t2']
 omega
end Go.Proofs.YtnelghpendfdmaaGreatDoor.KRow
