/-
 PROVED: the contract of pendulumref09.Of: what refOf says, of any row of bytes.
-/
import Derived.Test.YtnelghpendfdmaaGreatDoorKOg
namespace Go.Proofs.YtnelghpendfdmaaGreatDoor.KRow
open Go Go.RowKit Go.Proofs.YtnelghpendfdmaaGreatDoorW.PrintWords Go.Proofs.YtnelghpendfdmaaGreatDoorW.PrintLast Go.Proofs.YtnelghpendfdmaaGreatDoorW.PrintMore
open Go.Proofs.YtnelghpendfdmaaGreatDoor.HFun
set_option linter.unusedVariables false
set_option linter.unusedSimpArgs false
def Ins.vals (v : Ins) : Array Value :=insC v.s v.x v.o v.d v.i v.n
def ofV (r : Ins × Int) : Value :=.tuple #[.agg r.1.vals,.int .i64 r.2]
theorem refMain_eq {l : List Int} {j : Nat} {s x : Int} {p : Bool × Nat} (t1 : yce.f 20 s x (rd l (j : Int)) = some (p.1,(p.2 : Int))) : refMain l j s x =
  if l.length < j + 1 + (if p.1 = true then 1 else 0) + p.2 then (Ins.zero,5) else
   (⟨s,x,rd l (j : Int),if p.1 = true then sg (rd l ((j + 1 : Nat) : Int)) else 0,
    if (p.2 : Int) = 1 then (if s = 0 ∧ ycp.f (rd l (j : Int)) = some true then sg (rd l ((j + 1 + (if p.1 = true then 1 else 0) : Nat) : Int)) else rd l ((j + 1 + (if p.1 = true then 1 else 0) : Nat) : Int))
    else if (p.2 : Int) = 2 then rd l ((j + 1 + (if p.1 = true then 1 else 0) : Nat) : Int) + 256 * rd l ((j + 2 + (if p.1 = true then 1 else 0) : Nat) : Int) else 0,((j + 1 + (if p.1 = true then 1 else 0) + p.2 : Nat) : Int)⟩,0) :=by
 unfold refMain
 rw [t1]
 simp only [Option.getD_some,Int.toNat_natCast]
theorem pre_false {o : Int} (h1 : o ≠ 221) (h2 : o ≠ 253) : yct.f o = some false :=by
 unfold yct.f
 rw [if_neg h1,beq_eq_false_iff_ne.2 h2]
theorem pre_true {o : Int} (h : o = 221 ∨ o = 253) : yct.f o = some true :=by
 rcases h with rfl | rfl <;> rfl
section
variable {W : World} {ad : Addr} {l : List Int} {cp : Nat}
structure OfIn (W : World) (ad : Addr) (l : List Int) (cp : Nat) : Prop where
 c : ∀ j : Nat,j < l.length → ∀ V,Below W.heap.size W V → V.cell? (ad.add j) = some (.int .u8 (rd l (j : Int)))
 r : ∀ x ∈ l,0 ≤ x ∧ x < 256
 m : l.length ≤ cp
theorem OfIn.c0 (h : OfIn W ad l cp) (hj : 0 < l.length) : ∀ V,Below W.heap.size W V → V.cell? ad = some (.int .u8 (rd l 0)) :=fun V hb => h.c 0 hj V hb
theorem OfIn.cs (h : OfIn W ad l cp) (j : Nat) (hj : j + 1 < l.length) : ∀ V,Below W.heap.size W V → V.cell? ⟨ad.block,ad.off + (j + 1),none⟩ = some (.int .u8 (rd l ((j + 1 : Nat) : Int))) :=fun V hb => by
 have :=h.c (j + 1) hj V hb
 simpa [Addr.add] using this
theorem OfIn.b (h : OfIn W ad l cp) (j : Nat) (hj : j < l.length) : 0 ≤ rd l (j : Int) ∧ rd l (j : Int) < 256 :=rd_rng h.r hj
theorem OfIn.w (h : OfIn W ad l cp) (j : Nat) (hj : j < l.length) : wrap64 (rd l (j : Int)) = rd l (j : Int) :=w64b (h.b j hj).1 (h.b j hj).2
theorem OfIn.zm (h : OfIn W ad l cp) (j : Nat) (hj : j < l.length) : wrap64 (256 * rd l (j : Int)) = 256 * rd l (j : Int) :=by
 have :=h.b j hj
 exact B.w64 (by omega) (by omega)
theorem OfIn.za (h : OfIn W ad l cp) (i j : Nat) (hi : i < l.length) (hj : j < l.length) : wrap64 (rd l (i : Int) + 256 * rd l (j : Int)) = rd l (i : Int) + 256 * rd l (j : Int) :=by
 have :=h.b j hj
 have :=h.b i hi
 exact B.w64 (by omega) (by omega)
theorem of_mainH (h : OfIn W ad l cp) (h0 : 0 < l.length) (hne : rd l 0 ≠ 203 ∧ rd l 0 ≠ 237 ∧ rd l 0 ≠ 221 ∧ rd l 0 ≠ 253) :
  Calls Tryz.prog 11 #[.slice (some ad) l.length cp] W fun e V => e = .returned (ofV (refMain l 0 0 0)) ∧ Below W.heap.size W V :=by
 have hb :=h.b 0 h0
 have hm :=h.m
 obtain ⟨p,hp,t1,t2,t3,t4⟩ :=tab_main (o :=rd l 0) hb.1 hb.2 hne 0 (by decide)
 rw [refMain_eq (j :=0) (s :=0) (x :=0) (p :=p) t1]
 refine of_H (h.c0 h0) (pre_false hne.2.2.1 hne.2.2.2) (by rw [if_neg hne.1,if_neg hne.2.1]) (h.w 0 h0) h0 h.m ?_
 by_cases hL : l.length < 0 + 1 + (if p.1 = true then 1 else 0) + p.2
 ·rw [if_pos hL]
  exact .inl ⟨_,trivial,t2,decide_eq_true (by simp only [if_true];omega),rfl⟩
 rw [if_neg hL]
 simp only [combos,List.mem_cons,List.not_mem_nil,or_false] at hp
 have e : rd l ((0 : Nat) : Int) = rd l 0 :=rfl
 rcases hp with rfl | rfl | rfl | rfl | rfl
 ·rcases Classical.em (cp = 1) with hq | hq
  ·exact .inr (.inl ⟨t2,t1,decide_eq_false (by omega),eq_true hq,rfl⟩)
  ·exact .inr (.inr (.inl ⟨t2,t1,decide_eq_false (by omega),eq_false hq,rfl⟩))
 ·have hL' : 2 ≤ l.length :=by simpa using hL
  rcases rel_some (rd l 0) with hR | hR
  ·simp only [e,hR]
   exact .inr (.inr (.inr (.inr (.inl ⟨rd l 1,_,t2,t1,decide_eq_false (by omega),trivial,h.cs 0 (by omega),h.w 1 (by omega),trivial,sg_some _,eq_false (by omega),by omega,by omega,by omega,rfl⟩))))
  ·simp only [e,hR]
   exact .inr (.inr (.inr (.inl ⟨rd l 1,t2,t1,decide_eq_false (by omega),trivial,h.cs 0 (by omega),h.w 1 (by omega),trivial,eq_false (by omega),by omega,by omega,by omega,rfl⟩)))
 ·have hL' : 3 ≤ l.length :=by simpa using hL
  exact .inr (.inr (.inr (.inr (.inr ⟨rd l 1,rd l 2,t2,t1,decide_eq_false (by omega),trivial,h.cs 0 (by omega),h.cs 1 (by omega),h.w 1 (by omega),h.w 2 (by omega),h.zm 2 (by omega),h.za 1 2 (by omega) (by omega),by omega,eq_false (by omega),by omega,by omega,by omega,rfl⟩))))
 ·exact absurd rfl (t4 rfl).1
 ·exact absurd rfl (t4 rfl).1
theorem of_mainE (h : OfIn W ad l cp) (h1 : 1 < l.length) (hpre : rd l 0 = 221 ∨ rd l 0 = 253) (hne : rd l 1 ≠ 203 ∧ rd l 1 ≠ 237 ∧ rd l 1 ≠ 221 ∧ rd l 1 ≠ 253) :
  Calls Tryz.prog 11 #[.slice (some ad) l.length cp] W fun e V => e = .returned (ofV (refMain l 1 0 (if rd l 0 = 253 then 2 else 1))) ∧ Below W.heap.size W V :=by
 have hb :=h.b 1 h1
 have hm :=h.m
 obtain ⟨x,hx,hx0,ex,hxx⟩ : ∃ x : Nat,x < 3 ∧ x ≠ 0 ∧ (if rd l 0 = 253 then 2 else 1 : Int) = (x : Int) ∧ ((rd l 0 = 221 ∧ (x : Int) = 1) ∨ (rd l 0 = 253 ∧ (x : Int) = 2)) :=by
  by_cases h3 : rd l 0 = 253
  ·exact ⟨2,by decide,by decide,if_pos h3,.inr ⟨h3,rfl⟩⟩
  ·exact ⟨1,by decide,by decide,if_neg h3,.inl ⟨by omega,rfl⟩⟩
 rw [ex]
 obtain ⟨p,hp,t1,t2,t3,t4⟩ :=tab_main (o :=rd l 1) hb.1 hb.2 hne x hx
 rw [if_neg hx0] at t2
 rw [refMain_eq (j :=1) (s :=0) (x :=x) (p :=p) t1]
 refine of_E (h.c0 (by omega)) (h.cs 0 h1) hxx (beq_eq_false_iff_ne.2 hne.2.1) (pre_false hne.2.2.1 hne.2.2.2) (by
  show (if rd l 1 = 203 then (1 : Int) else if rd l 1 = 237 then 2 else 0) = 0
  rw [if_neg hne.1,if_neg hne.2.1]) (h.w 1 h1) h1 h.m ?_
 by_cases hL : l.length < 1 + 1 + (if p.1 = true then 1 else 0) + p.2
 ·rw [if_pos hL]
  exact .inl ⟨_,trivial,t2,decide_eq_true (by omega),rfl⟩
 rw [if_neg hL]
 simp only [combos,List.mem_cons,List.not_mem_nil,or_false] at hp
 have e : rd l ((1 : Nat) : Int) = rd l 1 :=rfl
 rcases hp with rfl | rfl | rfl | rfl | rfl
 ·rcases Classical.em (cp = 2) with hq | hq
  ·exact .inr (.inl ⟨t2,t1,decide_eq_false (by omega),eq_true hq,rfl⟩)
  ·exact .inr (.inr (.inl ⟨t2,t1,decide_eq_false (by omega),eq_false hq,rfl⟩))
 ·have hL' : 3 ≤ l.length :=by simpa using hL
  rcases rel_some (rd l 1) with hR | hR
  ·simp only [e,hR]
   exact .inr (.inr (.inr (.inr (.inl ⟨rd l 2,_,t2,t1,decide_eq_false (by omega),trivial,h.cs 1 (by omega),h.w 2 (by omega),trivial,sg_some _,eq_false (by omega),by omega,by omega,by omega,rfl⟩))))
  ·simp only [e,hR]
   exact .inr (.inr (.inr (.inl ⟨rd l 2,t2,t1,decide_eq_false (by omega),trivial,h.cs 1 (by omega),h.w 2 (by omega),trivial,eq_false (by omega),by omega,by omega,by omega,rfl⟩)))
 ·have hL' : 4 ≤ l.length :=by simpa using hL
  exact .inr (.inr (.inr (.inr (.inr (.inl ⟨rd l 2,rd l 3,t2,t1,decide_eq_false (by omega),trivial,h.cs 1 (by omega),h.cs 2 (by omega),h.w 2 (by omega),h.w 3 (by omega),h.zm 3 (by omega),h.za 2 3 (by omega) (by omega),by omega,eq_false (by omega),by omega,by omega,by omega,rfl⟩)))))
 ·have hL' : 3 ≤ l.length :=by simpa using hL
  rcases Classical.em (cp - 2 = 1) with hq | hq
  ·exact .inr (.inr (.inr (.inr (.inr (.inr (.inl ⟨rd l 2,_,t2,t1,decide_eq_false (by omega),trivial,h.cs 1 (by omega),sg_some _,eq_false (by omega),by omega,by omega,by omega,eq_true hq,rfl⟩))))))
  ·exact .inr (.inr (.inr (.inr (.inr (.inr (.inr (.inl ⟨rd l 2,_,t2,t1,decide_eq_false (by omega),trivial,h.cs 1 (by omega),sg_some _,eq_false (by omega),by omega,by omega,by omega,eq_false hq,rfl⟩)))))))
 ·have hL' : 4 ≤ l.length :=by simpa using hL
  have hR :=(t4 rfl).2 rfl
  simp only [e,hR]
  exact .inr (.inr (.inr (.inr (.inr (.inr (.inr (.inr ⟨rd l 2,_,rd l 3,t2,t1,decide_eq_false (by omega),trivial,h.cs 1 (by omega),sg_some _,trivial,h.cs 2 (by omega),h.w 3 (by omega),trivial,eq_false (by omega),by omega,by omega,by omega,eq_false (by omega),by omega,rfl⟩)))))))
theorem of_mainG (h : OfIn W ad l cp) (h1 : 1 < l.length) {s : Int} (hs : (rd l 0 = 203 ∧ s = 1) ∨ (rd l 0 = 237 ∧ s = 2)) {k : Nat} (hk : k = 0 ∨ k = 2) (t1 : yce.f 20 s 0 (rd l 1) = some (false,(k : Int))) (t2 : ych.f 20 s 0 (rd l 1) = some ((2 + k : Nat) : Int)) :
  Calls Tryz.prog 11 #[.slice (some ad) l.length cp] W fun e V => e = .returned (ofV (refMain l 1 s 0)) ∧ Below W.heap.size W V :=by
 have hm :=h.m
 rw [refMain_eq (j :=1) (s :=s) (x :=0) (p :=(false,k)) t1]
 refine of_G (h.c0 (by omega)) (h.cs 0 h1) hs (h.w 1 h1) h1 h.m ?_
 by_cases hL : l.length < 1 + 1 + (if (false,k).1 = true then 1 else 0) + (false,k).2
 ·rw [if_pos hL]
  exact .inl ⟨_,trivial,t2,decide_eq_true (by simp at hL;omega),rfl⟩
 rw [if_neg hL]
 rcases hk with rfl | rfl
 ·rcases Classical.em (cp = 2) with hq | hq
  ·exact .inr (.inl ⟨t2,t1,decide_eq_false (by omega),eq_true hq,rfl⟩)
  ·exact .inr (.inr (.inl ⟨t2,t1,decide_eq_false (by omega),eq_false hq,rfl⟩))
 ·have hL' : 4 ≤ l.length :=by simpa using hL
  exact .inr (.inr (.inr ⟨rd l 2,rd l 3,t2,t1,decide_eq_false (by omega),trivial,h.cs 1 (by omega),h.cs 2 (by omega),h.w 2 (by omega),h.w 3 (by omega),h.zm 3 (by omega),h.za 2 3 (by omega) (by omega),by omega,eq_false (by omega),by omega,by omega,by omega,rfl⟩))
end
theorem of_calls {W : World} {A : Option Addr} {l : List Int} {cp : Nat} (hG : ∀ V,Below W.heap.size W V → Kd.C (Kd.int .u8) V A l.length l) (hcp : l.length ≤ cp) (hlr : ∀ x ∈ l,0 ≤ x ∧ x < 256) :
  Calls Tryz.prog 11 #[.slice A l.length cp] W fun e V => e = .returned (ofV (refOf l)) ∧ Below W.heap.size W V :=by
 unfold refOf
 by_cases h0 : l.length = 0
 ·rw [if_pos h0,h0]
  exact of_empty
 rw [if_neg h0]
 obtain ⟨ad,eA,_⟩ :=Kd.at_int (hG W (Below.refl _ _)) 0 (by omega) (by omega)
 subst eA
 have h : OfIn W ad l cp :=⟨fun j hj V hb => by
  obtain ⟨ad',e',h'⟩ :=Kd.at_int (hG V hb) (j : Int) (by omega) (by omega)
  cases e'
  simpa using h',hlr,hcp⟩
 have h00 : 0 < l.length :=by omega
 have c0 :=h.c0 h00
 have b0 :=h.b 0 h00
 by_cases hpre : rd l 0 = 221 ∨ rd l 0 = 253
 ·rw [if_pos hpre]
  have hxx : (rd l 0 = 221 ∧ (if rd l 0 = 253 then 2 else 1 : Int) = 1) ∨ (rd l 0 = 253 ∧ (if rd l 0 = 253 then 2 else 1 : Int) = 2) :=by
   by_cases h3 : rd l 0 = 253
   ·exact .inr ⟨h3,if_pos h3⟩
   ·exact .inl ⟨by omega,if_neg h3⟩
  by_cases h2 : l.length < 2
  ·rw [if_pos h2]
   exact of_e_one c0 hxx (by omega) hcp
  rw [if_neg h2]
  have c1 :=h.cs 0 (by omega)
  by_cases hl : rd l 1 = 237 ∨ rd l 1 = 221 ∨ rd l 1 = 253
  ·rw [if_pos hl]
   by_cases h7 : rd l 1 = 237
   ·have c1' : ∀ V,Below W.heap.size W V → V.cell? ⟨ad.block,ad.off + 1,none⟩ = some (.int .u8 237) :=fun V hb => (c1 V hb).trans (by rw [show rd l ((0 + 1 : Nat) : Int) = 237 from h7])
    exact of_e_l237 c0 c1' hxx (by omega) hcp
   ·exact of_e_l c0 c1 hxx (by omega) hcp (h.w 1 (by omega)) (beq_eq_false_iff_ne.2 h7) (pre_true (by
     show rd l 1 = 221 ∨ rd l 1 = 253
     omega))
  rw [if_neg hl]
  by_cases h3 : rd l 1 = 203
  ·rw [if_pos h3]
   have c1' : ∀ V,Below W.heap.size W V → V.cell? ⟨ad.block,ad.off + 1,none⟩ = some (.int .u8 203) :=fun V hb => (c1 V hb).trans (by rw [show rd l ((0 + 1 : Nat) : Int) = 203 from h3])
   by_cases h4 : l.length < 4
   ·rw [if_pos h4]
    exact of_e_bsh c0 c1' hxx (by omega) hcp
   rw [if_neg h4]
   exact of_e_both c0 c1' (h.cs 1 (by omega)) (h.cs 2 (by omega)) hxx (by omega) hcp (h.w 3 (by omega)) (sg_some _)
  rw [if_neg h3]
  exact of_mainE h (by omega) hpre (by omega)
 rw [if_neg hpre]
 by_cases h3 : rd l 0 = 203
 ·rw [if_pos h3]
  have c0' : ∀ V,Below W.heap.size W V → V.cell? ad = some (.int .u8 203) :=fun V hb => (c0 V hb).trans (by rw [h3])
  by_cases h2 : l.length < 2
  ·rw [if_pos h2]
   exact of_b1 c0' (by omega) hcp
  rw [if_neg h2]
  have b1 :=h.b 1 (by omega)
  obtain ⟨t1,t2⟩ :=byte_all (P :=fun n => yce.f 20 1 0 n = some (false,0) ∧ ych.f 20 1 0 n = some 2) tab_bits b1.1 b1.2
  exact of_mainG h (by omega) (.inl ⟨h3,rfl⟩) (k :=0) (.inl rfl) t1 t2
 rw [if_neg h3]
 by_cases h7 : rd l 0 = 237
 ·rw [if_pos h7]
  have c0' : ∀ V,Below W.heap.size W V → V.cell? ad = some (.int .u8 237) :=fun V hb => (c0 V hb).trans (by rw [h7])
  by_cases h2 : l.length < 2
  ·rw [if_pos h2]
   exact of_m1 c0' (by omega) hcp
  rw [if_neg h2]
  have b1 :=h.b 1 (by omega)
  have c1 :=h.cs 0 (by omega)
  obtain ⟨k,hk,t1,t2,t3⟩ :=byte_all (P :=fun n => ∃ k ∈ ([0,2] : List Nat),yce.f 20 2 0 n = some (false,((k : Nat) : Int)) ∧ ych.f 20 2 0 n = some ((2 + k : Nat) : Int) ∧ nMore n = k) tab_more b1.1 b1.2
  simp only [List.mem_cons,List.not_mem_nil,or_false] at hk
  exact of_mainG h (by omega) (.inr ⟨h7,rfl⟩) hk t1 t2
 rw [if_neg h7]
 exact of_mainH h h00 (by omega)
end Go.Proofs.YtnelghpendfdmaaGreatDoor.KRow
