/-
 PROVED: the five bytes at PC are read as the instruction that the document's answer reads; LengthFits' law, joined.
-/
import Derived.Test.YtnelghpendfdmaaGreatDoorKFm
namespace Go.Proofs.YtnelghpendfdmaaGreatDoor.KRow
open Go Go.RowKit Go.Proofs.YtnelghpendfdmaaGreatDoorW.PrintWords
open Go.Proofs.YtnelghpendfdmaaGreatDoor.HFun
set_option linter.unusedVariables false
set_option linter.unusedSimpArgs false
theorem i8_sg {y : Int} (h0 : 0 ≤ y) (h1 : y < 256) : sg y = i8 y :=byte_all (P :=fun y => sg y = i8 y) (by decide +kernel) h0 h1
theorem iw2_ok {y z : Int} (h0 : 0 ≤ y) (h1 : y < 256) (h2 : 0 ≤ z) (h3 : z < 256) : y + 256 * z = iw2 y z :=by
 unfold iw2
 rw [B.w64 (x :=y) (by omega) (by omega),B.w64 (x :=z) (by omega) (by omega),B.w64 (by omega) (by omega)]
 have ex : (BitVec.ofInt 64 y).toNat = y.toNat :=by rw [BitVec.toNat_ofInt];omega
 have ez : (BitVec.ofInt 64 (z * 256)).toNat = 2 ^ 8 * z.toNat :=by rw [BitVec.toNat_ofInt];omega
 have e : Go.bits .or .i64 y (z * 256) = IntKind.i64.wrap (((BitVec.ofInt 64 y ||| BitVec.ofInt 64 (z * 256)).toNat : Nat) : Int) :=rfl
 rw [e,BitVec.toNat_or,ex,ez,Nat.or_comm,← Nat.two_pow_add_eq_or_of_lt (by omega),IntKind.wrap_i64]
 omega
theorem rel_tot (o : Int) : ∃ rel,ydd.f o = some rel :=by
 unfold ydd.f
 repeat' (first | exact ⟨_,rfl⟩ | split)
theorem lone_f {o : Int} (h : ¬ (o = 221 ∨ o = 253)) : ydf.f o = some false :=by
 unfold ydf.f
 rw [if_neg (by omega),beq_eq_false_iff_ne.2 (by omega)]
def Tl (s : Int) (J y0 y1 : Int) (p rel : Bool) (k n d i : Int) : Prop :=(p = false ∧ k = 0 ∧ n = J ∧ d = 0 ∧ i = 0) ∨ (p = false ∧ k = 1 ∧ n = J + 1 ∧ d = 0 ∧ s = 0 ∧ ((rel = true ∧ i = i8 y0) ∨ (rel = false ∧ i = wrap64 y0))) ∨ (p = false ∧ k = 2 ∧ n = J + 2 ∧ d = 0 ∧ i = iw2 y0 y1) ∨ (p = true ∧ k = 0 ∧ n = J + 1 ∧ d = i8 y0 ∧ i = 0) ∨ (p = true ∧ k = 1 ∧ n = J + 2 ∧ d = i8 y0 ∧ s = 0 ∧ rel = false ∧ i = wrap64 y1)
theorem main_t {l : List Int} (hl : ∀ x ∈ l,0 ≤ x ∧ x < 256) {j s x n : Nat} {p : Bool} {k : Nat} (hp : k ≤ 2) (hpk : ¬ (p = true ∧ k = 2)) (ho : rd l (j : Int) = (n : Int)) (hC : tabC s x n j p k = true) {v : Ins} (hv : refMain l j (s : Int) (x : Int) = (v,0)) {y0 y1 : Int} (e0 : j + 1 < l.length → y0 = rd l ((j + 1 : Nat) : Int)) (e1 : j + 2 < l.length → y1 = rd l ((j + 2 : Nat) : Int)) :
  ∃ rel,ycw.f 20 (s : Int) (x : Int) (n : Int) = some (p,(k : Int)) ∧ ycq.f 20 (s : Int) (x : Int) (n : Int) = some v.n ∧ ydd.f (n : Int) = some rel ∧ Tl (s : Int) ((j + 1 : Nat) : Int) y0 y1 p rel (k : Int) v.n v.d v.i :=by
 simp only [tabC,Bool.and_eq_true,beq_iff_eq] at hC
 obtain ⟨⟨⟨⟨⟨c1,c2⟩,c3⟩,c4⟩,c5⟩,c6⟩ :=hC
 obtain ⟨rel,hrel⟩ :=rel_tot (n : Int)
 unfold refMain at hv
 rw [ho,c1] at hv
 simp only [Option.getD_some,Int.toNat_natCast] at hv
 by_cases hL : l.length < j + 1 + (if p = true then 1 else 0) + k
 ·rw [if_pos hL] at hv;cases hv
 rw [if_neg hL] at hv
 cases hv
 have hr : ∀ q : Nat,q < l.length → 0 ≤ rd l (q : Int) ∧ rd l (q : Int) < 256 :=fun q hq => rd_rng hl hq
 have hw : ∀ q : Nat,q < l.length → rd l (q : Int) = wrap64 (rd l (q : Int)) :=fun q hq => by
  have :=hr q hq
  exact (B.w64 (by omega) (by omega)).symm
 refine ⟨rel,c3,c4,hrel,?_⟩
 rcases (by omega : k = 0 ∨ k = 1 ∨ k = 2) with rfl | rfl | rfl
 ·cases p
  ·exact .inl ⟨rfl,rfl,rfl,rfl,rfl⟩
  ·simp only [if_true] at hL ⊢
   have h1 :=hr (j + 1) (by omega)
   exact .inr (.inr (.inr (.inl ⟨rfl,rfl,rfl,by rw [e0 (by omega)];exact i8_sg h1.1 h1.2,rfl⟩)))
 ·have c7 : s = 0 ∧ ydd.f (n : Int) = ycp.f (n : Int) :=by simpa using c5
  obtain ⟨rfl,c7⟩ :=c7
  rw [← c7,hrel]
  cases p
  ·simp only [Bool.false_eq_true,if_false] at hL ⊢
   have h1 :=hr (j + 1) (by omega)
   refine .inr (.inl ⟨rfl,rfl,rfl,rfl,rfl,?_⟩)
   rw [e0 (by omega)]
   cases rel
   ·refine .inr ⟨rfl,?_⟩
    simp only [Option.some.injEq,Bool.false_eq_true,and_false,if_false]
    exact hw (j + 1) (by omega)
   ·refine .inl ⟨rfl,?_⟩
    simp only [and_true,if_true]
    exact i8_sg h1.1 h1.2
  ·have c8 : ydd.f (n : Int) = some false :=by simpa using c6
   rw [hrel] at c8
   cases c8
   simp only [if_true] at hL ⊢
   have h1 :=hr (j + 1) (by omega)
   refine .inr (.inr (.inr (.inr ⟨rfl,rfl,rfl,by rw [e0 (by omega)];exact i8_sg h1.1 h1.2,rfl,rfl,?_⟩)))
   rw [e1 (by omega)]
   simp only [Option.some.injEq,Bool.false_eq_true,and_false,if_false]
   exact hw (j + 2) (by omega)
 ·have hp1 : p = false :=by
   cases p
   ·rfl
   ·exact absurd ⟨rfl,rfl⟩ hpk
  subst hp1
  simp only [Bool.false_eq_true,if_false] at hL ⊢
  have h1 :=hr (j + 1) (by omega)
  have h2 :=hr (j + 2) (by omega)
  refine .inr (.inr (.inl ⟨rfl,rfl,rfl,rfl,?_⟩))
  rw [e0 (by omega),e1 (by omega),if_neg (by decide),if_pos (show ((2 : Nat) : Int) = 2 from rfl)]
  exact iw2_ok h1.1 h1.2 h2.1 h2.2
theorem needs0 : ∀ n : Nat,n < 256 → (ycw.f 20 0 0 (n : Int)).map (·.1) = some false :=by decide +kernel
theorem of_at {ρ : Rg} {m : Nat → Int} (hm : ∀ k,0 ≤ m k ∧ m k < 256) {b : List Int} (hb : ∀ x ∈ b,0 ≤ x ∧ x < 256) (hmem : ∀ i : Nat,i < b.length → m (pcA ρ i).toNat = rd b (i : Int)) {v : Ins} (hv : refOf b = (v,0)) {W : World} : OfAt m ρ W (insC v.s v.x v.o v.d v.i v.n) :=by
 intro V g cp _ hcp hcell
 have h0 :=hcell 0 (by decide)
 have h1 :=hcell 1 (by decide)
 have h2 :=hcell 2 (by decide)
 have h3 :=hcell 3 (by decide)
 have h4 :=hcell 4 (by decide)
 have w : ∀ i,wrap64 (m (pcA ρ i).toNat) = m (pcA ρ i).toNat :=fun i => by
  have :=hm (pcA ρ i).toNat
  exact B.w64 (by omega) (by omega)
 have nat : ∀ i : Nat,i < b.length → ∃ n : Nat,rd b (i : Int) = (n : Int) ∧ n < 256 :=fun i hi => by
  have :=rd_rng hb hi
  exact ⟨(rd b (i : Int)).toNat,by omega,by omega⟩
 unfold refOf at hv
 by_cases hl0 : b.length = 0
 ·rw [if_pos hl0] at hv;cases hv
 rw [if_neg hl0] at hv
 have m0 : m (pcA ρ 0).toNat = rd b 0 :=hmem 0 (by omega)
 obtain ⟨o,eo,ho⟩ :=nat 0 (by omega)
 have eo' : rd b 0 = (o : Int) :=eo
 by_cases hpre : rd b 0 = 221 ∨ rd b 0 = 253
 ·rw [if_pos hpre] at hv
  by_cases hl2 : b.length < 2
  ·rw [if_pos hl2] at hv;cases hv
  rw [if_neg hl2] at hv
  have m1 : m (pcA ρ 1).toNat = rd b 1 :=hmem 1 (by omega)
  by_cases hlone : rd b 1 = 237 ∨ rd b 1 = 221 ∨ rd b 1 = 253
  ·rw [if_pos hlone] at hv
   cases hv
   have h :=dofL h0 h1 h2 h3 h4 (w 0) (w 1) (w 2) (w 3) (w 4) hcp ⟨by rw [m0];exact hpre,by rw [m1];exact hlone⟩
   rw [m0] at h
   exact h
  rw [if_neg hlone] at hv
  obtain ⟨x,hx,hx0,ex⟩ : ∃ x : Nat,x < 3 ∧ x ≠ 0 ∧ (if rd b 0 = 253 then 2 else 1 : Int) = (x : Int) :=by
   by_cases h3 : rd b 0 = 253
   ·exact ⟨2,by decide,by decide,if_pos h3⟩
   ·exact ⟨1,by decide,by decide,if_neg h3⟩
  have hxb : (rd b 0 = 221 ∧ (x : Int) = 1) ∨ (rd b 0 = 253 ∧ (x : Int) = 2) :=by
   rcases hpre with h | h
   ·rw [h,if_neg (by decide)] at ex;exact .inl ⟨h,ex.symm⟩
   ·rw [if_pos h] at ex;exact .inr ⟨h,ex.symm⟩
  rw [ex] at hv
  obtain ⟨o2,eo2,ho2⟩ :=nat 1 (by omega)
  have eo2' : rd b 1 = (o2 : Int) :=eo2
  by_cases h203 : rd b 1 = 203
  ·rw [if_pos h203] at hv
   by_cases hl4 : b.length < 4
   ·rw [if_pos hl4] at hv;cases hv
   rw [if_neg hl4] at hv
   cases hv
   have m2 : m (pcA ρ 2).toNat = rd b 2 :=hmem 2 (by omega)
   have m3 : m (pcA ρ 3).toNat = rd b 3 :=hmem 3 (by omega)
   have h :=dofB h0 h1 h2 h3 h4 (w 0) (w 1) (w 2) (w 3) (w 4) hcp (x :=(x : Int)) (by rw [m0];exact hxb) (by rw [m1];exact h203)
   have hy :=hm (pcA ρ 2).toNat
   rw [← i8_sg hy.1 hy.2,m2,m3] at h
   exact h
  rw [if_neg h203] at hv
  have t :=tabF_n o2 ho2 x hx
  have e1 : (o2 == 203) = false :=by simp;omega
  have e2 : (o2 == 237) = false :=by simp;omega
  have e3 : (o2 == 221) = false :=by simp;omega
  have e4 : (o2 == 253) = false :=by simp;omega
  rw [e1,e2,e3,e4] at t
  simp only [Bool.or_false,Bool.and_false,tabF,List.any_eq_true,Bool.and_eq_true,if_neg hx0] at t
  obtain ⟨⟨⟨p,hp,t1,_⟩,_⟩,_⟩ :=t
  obtain ⟨k1,k2⟩ :=combo_ok hp
  obtain ⟨_,v2,v3,v4,_,_⟩ :=main_v hb (j :=1) (s :=0) k1 k2 (by omega) eo2 t1 hv
  obtain ⟨rel,n1,n2,n3,n4⟩ :=main_t hb k1 k2 eo2 t1 hv (y0 :=m (pcA ρ 2).toNat) (y1 :=m (pcA ρ 3).toNat) (fun h => hmem 2 h) (fun h => hmem 3 h)
  rw [v2,v3,v4]
  refine dof h0 h1 h2 h3 h4 (w 0) (w 1) (w 2) (w 3) (w 4) hcp n1 n2 n3 (.inr (.inr (.inr ⟨?_,by rw [m1,eo2'],?_,?_,?_,rfl,rfl,rfl,trivial⟩))) n4
  ·rw [m0]
   rcases hxb with ⟨h,h'⟩ | ⟨h,h'⟩
   ·exact .inl ⟨rfl,h',h⟩
   ·exact .inr ⟨rfl,h',h⟩
  ·rw [m1];exact lone_f (by omega)
  ·rw [m1];exact beq_eq_false_iff_ne.2 h203
  ·rw [m1];exact beq_eq_false_iff_ne.2 (by omega)
 rw [if_neg hpre] at hv
 by_cases h203 : rd b 0 = 203
 ·rw [if_pos h203] at hv
  by_cases hl2 : b.length < 2
  ·rw [if_pos hl2] at hv;cases hv
  rw [if_neg hl2] at hv
  have m1 : m (pcA ρ 1).toNat = rd b 1 :=hmem 1 (by omega)
  obtain ⟨o2,eo2,ho2⟩ :=nat 1 (by omega)
  have eo2' : rd b 1 = (o2 : Int) :=eo2
  have t :=tabB_n o2 ho2
  simp only [Bool.and_eq_true] at t
  obtain ⟨⟨⟨_,t2⟩,_⟩,_⟩ :=t
  obtain ⟨_,v2,v3,v4,_,_⟩ :=main_v hb (j :=1) (s :=1) (x :=0) (by decide) (by decide) (by omega) eo2 t2 hv
  obtain ⟨rel,n1,n2,n3,n4⟩ :=main_t hb (by decide) (by decide) eo2 t2 hv (y0 :=m (pcA ρ 2).toNat) (y1 :=m (pcA ρ 3).toNat) (fun h => hmem 2 h) (fun h => hmem 3 h)
  rw [v2,v3,v4]
  exact dof h0 h1 h2 h3 h4 (w 0) (w 1) (w 2) (w 3) (w 4) hcp n1 n2 n3 (.inr (.inl ⟨rfl,rfl,by rw [m1,eo2'],by rw [m0];exact h203,trivial,trivial,rfl,rfl,rfl,rfl,rfl⟩)) n4
 rw [if_neg h203] at hv
 by_cases h237 : rd b 0 = 237
 ·rw [if_pos h237] at hv
  by_cases hl2 : b.length < 2
  ·rw [if_pos hl2] at hv;cases hv
  rw [if_neg hl2] at hv
  have m1 : m (pcA ρ 1).toNat = rd b 1 :=hmem 1 (by omega)
  obtain ⟨o2,eo2,ho2⟩ :=nat 1 (by omega)
  have eo2' : rd b 1 = (o2 : Int) :=eo2
  have t :=tabM_n o2 ho2
  simp only [Bool.and_eq_true,List.any_eq_true] at t
  obtain ⟨⟨⟨k,hk,t2,_⟩,_⟩,_⟩ :=t
  have hk2 : k = 0 ∨ k = 2 :=by simpa using hk
  obtain ⟨_,v2,v3,v4,_,_⟩ :=main_v hb (j :=1) (s :=2) (x :=0) (by omega) (by simp) (by omega) eo2 t2 hv
  obtain ⟨rel,n1,n2,n3,n4⟩ :=main_t hb (by omega) (by simp) eo2 t2 hv (y0 :=m (pcA ρ 2).toNat) (y1 :=m (pcA ρ 3).toNat) (fun h => hmem 2 h) (fun h => hmem 3 h)
  rw [v2,v3,v4]
  exact dof h0 h1 h2 h3 h4 (w 0) (w 1) (w 2) (w 3) (w 4) hcp n1 n2 n3 (.inr (.inr (.inl ⟨rfl,rfl,by rw [m1,eo2'],by rw [m0];exact h237,trivial,trivial,rfl,rfl,rfl,rfl,by omega⟩))) n4
 rw [if_neg h237] at hv
 have t :=tabF_n o ho 0 (by decide)
 have e1 : (o == 203) = false :=by simp;omega
 have e2 : (o == 237) = false :=by simp;omega
 have e3 : (o == 221) = false :=by simp;omega
 have e4 : (o == 253) = false :=by simp;omega
 rw [e1,e2,e3,e4] at t
 simp only [Bool.or_false,Bool.and_false,tabF,List.any_eq_true,Bool.and_eq_true,if_true] at t
 obtain ⟨⟨⟨p,hp,t1,t2⟩,_⟩,_⟩ :=t
 obtain ⟨k1,k2⟩ :=combo_ok hp
 obtain ⟨_,v2,v3,v4,_,_⟩ :=main_v hb (j :=0) (s :=0) (x :=0) k1 k2 (by omega) eo t1 hv
 obtain ⟨rel,n1,n2,n3,n4⟩ :=main_t hb k1 k2 eo t1 hv (y0 :=m (pcA ρ 1).toNat) (y1 :=m (pcA ρ 2).toNat) (fun h => hmem 1 h) (fun h => hmem 2 h)
 have hpf : p.1 = false :=by
  have n1' : ycw.f 20 0 0 (o : Int) = some (p.1,(p.2 : Int)) :=n1
  have :=needs0 o ho
  rw [n1'] at this
  simpa using this
 rw [v2,v3,v4]
 exact dof h0 h1 h2 h3 h4 (w 0) (w 1) (w 2) (w 3) (w 4) hcp n1 n2 n3 (.inl ⟨rfl,rfl,by rw [m0,eo'],by rw [m0];exact lone_f hpre,by rw [m0];exact beq_eq_false_iff_ne.2 h203,by rw [m0];exact beq_eq_false_iff_ne.2 h237,rfl,rfl,rfl,hpf⟩) n4
/-! the law, joined -/
theorem good_split {P : ByteArray × ByteArray} (h : goodP P = true) : wfS P.1 = true ∧ wfS P.2 = true ∧ P.1.size ≤ 9 ∧ P.2.size ≤ 9 ∧ 4 ≤ (digs P.2).sum ∧ (digs P.2).sum ≤ 23 :=by simpa [goodP,and_assoc] using h
theorem digs_len (s : ByteArray) : (digs s).length = s.size :=by unfold digs;rw [List.length_map];rfl
theorem wf_c {s : ByteArray} (h : wfS s = true) {c : UInt8} (hc : c ∈ s.data.toList) : (48 ≤ c.toNat ∧ c.toNat ≤ 57) ∨ (97 ≤ c.toNat ∧ c.toNat ≤ 122) :=by
 have :=List.all_eq_true.1 h c hc
 simpa using this
theorem digs_rng {s : ByteArray} (h : wfS s = true) : ∀ x ∈ digs s,0 ≤ x ∧ x ≤ 35 :=fun x hx => by
 obtain ⟨c,hc,rfl⟩ :=List.mem_map.1 hx
 have :=wf_c h hc
 split <;> omega
theorem digs_at {s : ByteArray} (h : wfS s = true) (j : Nat) (hj : j < (digs s).length) : (((s.data.toList.getD j 0).toNat : Int) = 48 + rd (digs s) (j : Int) ∧ 0 ≤ rd (digs s) (j : Int) ∧ rd (digs s) (j : Int) ≤ 9) ∨ (((s.data.toList.getD j 0).toNat : Int) = 87 + rd (digs s) (j : Int) ∧ 10 ≤ rd (digs s) (j : Int) ∧ rd (digs s) (j : Int) ≤ 35) :=by
 have hj2 : j < s.data.toList.length :=by unfold digs at hj;rwa [List.length_map] at hj
 have e1 : s.data.toList.getD j 0 = s.data.toList[j] :=by rw [List.getD_eq_getElem?_getD,List.getElem?_eq_getElem hj2];rfl
 have e2 : rd (digs s) (j : Int) = if 97 ≤ s.data.toList[j].toNat then (s.data.toList[j].toNat : Int) - 87 else (s.data.toList[j].toNat : Int) - 48 :=by simp only [rd,digs,List.getD_eq_getElem?_getD,List.getElem?_map,Int.toNat_natCast,List.getElem?_eq_getElem hj2];rfl
 have h3 :=wf_c h (List.getElem_mem hj2)
 rw [e1,e2]
 split <;> omega
theorem h17 {W : World} {v : Ins} (h : InsOk v) (mo : Bool) : OfP (insC v.s v.x v.o v.d v.i v.n) mo W (digs (if mo = true then (ofP v.s v.x v.o).2 else (ofP v.s v.x v.o).1)) :=fun V _ => by
 obtain ⟨hg,hc,hr,ho,hx,hs⟩ :=h
 obtain ⟨g1,g2,g3,g4,_,_⟩ :=good_split hg
 have h47 : ∀ V,Calls Tryz.prog 47 #[.agg (insC v.s v.x v.o v.d v.i v.n)] V fun e V' => e = .returned (.agg (plC (ofP v.s v.x v.o).1 (ofP v.s v.x v.o).2)) ∧ Below V.heap.size V V' :=fun V => lofG ho.1 ho.2 hx hs hr
 have hw : wfS (if mo = true then (ofP v.s v.x v.o).2 else (ofP v.s v.x v.o).1) = true :=by split <;> assumption
 have h9 : (digs (if mo = true then (ofP v.s v.x v.o).2 else (ofP v.s v.x v.o).1)).length ≤ 900 :=by rw [digs_len];split <;> omega
 exact lOfL rfl hc h47 (digs_len _) h9 (fun j hj => digs_at hw j hj)
theorem ints_l {a b : List Int} (hn : a.length = b.length) (hl : a.length ≤ 11) : ∀ (k i : Nat),i ≤ a.length → a.length < k + i → ∃ t,ycr.l0 k a b (i : Int) = some t ∧ (a = b → t = true)
 | 0,i,h1,h2 => by omega
 | k + 1,i,h1,h2 => by
  unfold ycr.l0
  by_cases hi : i < a.length
  ·rw [if_pos (by omega),if_pos (by omega),if_pos (by omega)]
   by_cases he : rd a (i : Int) = rd b (i : Int)
   ·rw [if_pos he,show wrap64 ((i : Int) + 1) = ((i + 1 : Nat) : Int) by rw [B.w64 (by omega) (by omega)];omega]
    exact ints_l hn hl k (i + 1) hi (by omega)
   ·rw [if_neg he]
    exact ⟨false,rfl,fun h => absurd (by rw [h]) he⟩
  ·rw [if_neg (by omega)]
   exact ⟨true,rfl,fun _ => rfl⟩
theorem ints_tot {a b : List Int} (hl : a.length ≤ 11) : ∃ t,ycr.f 12 a b = some t ∧ (a = b → t = true) :=by
 unfold ycr.f
 by_cases hn : a.length = b.length
 ·rw [if_pos (by omega)]
  exact ints_l hn hl 12 0 (by omega) (by omega)
 ·rw [if_neg (by omega)]
  exact ⟨false,rfl,fun h => absurd (by rw [h]) hn⟩
theorem wrUp_at {a : Int} {b : List Int} : ∀ (n : Nat),n ≤ 300 → ∀ i : Nat,i < n → wrUp a b n ((a + (i : Int)) % 65536).toNat = rd b (i : Int)
 | 0,_,i,h => by omega
 | n + 1,hn,i,h => by
  unfold wrUp wrM
  by_cases e : i = n
  ·subst e;rw [if_pos rfl]
  ·rw [if_neg (by omega)]
   exact wrUp_at n (by omega) i (by omega)
theorem fitsRow {W : World} {ρ : Rg} (w0 : RgOk ρ) {b1 : Option Addr} {len1 cap1 : Nat} {z1 : List Int} (w1 : IsRow .u8 W b1 len1 cap1 z1) (_y1 : len1 * 1 ≤ 140737488351232) (ht : Table W) :
  Calls Tryz.prog 3 #[.agg ρ.vals,.slice b1 len1 cap1] W fun e V => e = .returned (.bool true) ∧ Below W.heap.size W V :=by
 obtain ⟨b,rfl,hGb,hcb,hbr⟩ :=row_bytes w1
 obtain ⟨r,hv⟩ : ∃ r,refOf b = r :=⟨_,rfl⟩
 obtain ⟨⟨vs,vx,vo,vd,vi,vn⟩,er⟩ :=r
 by_cases e1 : er = 0
 case neg => exact lfEarly hGb hcb hbr ht hv (.inl (bne_iff_ne.2 e1))
 subst e1
 by_cases h300 : b.length ≤ 300
 case neg => exact lfEarly hGb hcb hbr ht hv (.inr (.inl ⟨rfl,decide_eq_true (by omega)⟩))
 have d1 : decide (300 < (b.length : Int)) = false :=decide_eq_false (by omega)
 cases hh : ρ.halt with
 | true => exact lfEarly hGb hcb hbr ht hv (.inr (.inr (.inl ⟨rfl,d1,hh⟩)))
 | false =>
  cases hok : (decide (ρ.im < 0) || decide (ρ.im > 2)) with
  | true => exact lfEarly hGb hcb hbr ht hv (.inr (.inr (.inr ⟨rfl,d1,hh,hok⟩)))
  | false =>
   have him : 0 ≤ ρ.im ∧ ρ.im ≤ 2 :=by
    simp only [Bool.or_eq_false_iff,decide_eq_false_iff_not] at hok
    omega
   obtain ⟨m0,hm⟩ : ∃ m0,wrUp ρ.pc b b.length = m0 :=⟨_,rfl⟩
   have hm0 : ∀ k,0 ≤ m0 k ∧ m0 k < 256 :=by rw [← hm];exact wrUp_rng hbr ρ.pc b.length (Nat.le_refl _)
   have hmem : ∀ i : Nat,i < b.length → m0 ((ρ.pc + (i : Int)) % 65536).toNat = rd b (i : Int) :=by rw [← hm];exact wrUp_at b.length h300
   obtain ⟨hI,o,sg,mo,hT,H⟩ :=fits_ref hh w0.pc.1 w0.pc.2 ⟨w0.ix,w0.iy,w0.sp⟩ hbr hm0 hmem hv (pp :=(IntKind.u16.wrap (ρ.pc + 1)).toNat) (by rw [B.wu16])
   have hO : ∀ V,OfAt m0 ρ V (insC vs vx vo vd vi vn) :=fun V => of_at hm0 hbr (fun i hi => by unfold pcA;rw [B.wu16];exact hmem i hi) hv
   have ha :=h17 (W :=W) hI false
   have hb :=h17 (W :=W) hI true
   obtain ⟨hg,hc,hr,ho,hx,hs⟩ :=hI
   replace hg : goodP (ofP vs vx vo) = true :=hg
   obtain ⟨g1,g2,g3,g4,g5,g6⟩ :=good_split hg
   have h47 : ∀ V,Calls Tryz.prog 47 #[.agg (insC vs vx vo vd vi vn)] V fun e V' => e = .returned (.agg (plC (ofP vs vx vo).1 (ofP vs vx vo).2)) ∧ Below V.heap.size V V' :=fun V => lofG ho.1 ho.2 hx hs hr
   unfold okT at hT
   rw [Bool.and_eq_true,Bool.or_eq_true,beq_iff_eq,beq_iff_eq,← cyk_f] at hT
   obtain ⟨cs,hcyc,hcs⟩ : ∃ cs,ycj.f 12 o = some cs ∧ (cs = digs (ofP vs vx vo).1 ∨ cs = digs (ofP vs vx vo).2) :=by
    rcases hT.1 with h | h
    ·exact ⟨_,h,.inl rfl⟩
    ·exact ⟨_,h,.inr rfl⟩
   have hcl : cs.length ≤ 11 :=by rcases hcs with rfl | rfl <;> rw [digs_len] <;> omega
   obtain ⟨t1,ht1,hc1⟩ :=ints_tot (b :=digs (ofP vs vx vo).1) hcl
   obtain ⟨t2,ht2,hc2⟩ :=ints_tot (b :=digs (ofP vs vx vo).2) hcl
   refine lfMain (m0 :=m0) (o :=o) (xs :=digs (ofP vs vx vo).1) (ys :=digs (ofP vs vx vo).2) hGb hcb hbr ht hv hok h300 hh him.1 him.2 w0.pc.1 w0.pc.2 hm H (fun V _ => hO V) ha hb hcyc hc h47 rfl ?_ ht1 ht2 (hcs.imp hc1 hc2) (by rw [digs_len];omega) (digs_rng g2) (decide_eq_true g5) (decide_eq_true g6)
   cases hq : ((ofP vs vx vo).1.toList == (ofP vs vx vo).2.toList) with
   | false => exact .inl rfl
   | true =>
    have e :=beq_iff_eq.1 hq
    rw [ByteArray.toList_eq,ByteArray.toList_eq] at e
    have e2 : digs (ofP vs vx vo).1 = digs (ofP vs vx vo).2 :=by unfold digs;rw [e]
    obtain ⟨t,ht,h⟩ :=ints_tot (a :=digs (ofP vs vx vo).1) (b :=digs (ofP vs vx vo).2) (by rw [digs_len];omega)
    rw [h e2] at ht
    exact .inr ht
end Go.Proofs.YtnelghpendfdmaaGreatDoor.KRow
