/-
 PROVED: what a law's arguments are that the row of the claim hands it: registers (a struct of 24 fields), rows of bytes.
-/
import Derived.ProofKit
import Derived.ChangeOld
import Derived.Test.YtnelghpendfdmaaGreatDoorKRowE
namespace Go.Proofs.YtnelghpendfdmaaGreatDoor.KRow
open Go Go.RowKit Go.Proofs.YtnelghpendfdmaaGreatDoorW.PrintWords Go.Proofs.YtnelghpendfdmaaGreatDoorW.PrintLast Go.Proofs.YtnelghpendfdmaaGreatDoorW.PrintMore
open Go.ChangeShapes Go.WideShapes Go.ChangeAt
set_option linter.unusedVariables false
set_option linter.unusedSimpArgs false
def IsRow (k : IntKind) (w : World) (a : Option Addr) (len cap : Nat) (zs : List Int) : Prop :=
 (a = none ∧ len = 0 ∧ cap = 0 ∧ zs = []) ∨
 ∃ x,a = some x ∧ len ≤ cap ∧ cap ≤ maxLen ∧ zs.length = cap ∧ (∀ i,i < zs.length → w.cell? (x.add i) = some (.int k (zs.getD i 0))) ∧ ∀ n ∈ zs,(Lit.int k n).wf = true
theorem wf8 {n : Int} (h : (Lit.int .u8 n).wf = true) : 0 ≤ n ∧ n < 256 :=by
 simp [Lit.wf,IntKind.min,IntKind.max,IntKind.signed,IntKind.bits] at h
 omega
theorem wf16 {n : Int} (h : (Lit.int .u16 n).wf = true) : 0 ≤ n ∧ n < 65536 :=by
 simp [Lit.wf,IntKind.min,IntKind.max,IntKind.signed,IntKind.bits] at h
 omega
theorem row_bytes {W : World} {b : Option Addr} {len cap : Nat} {z : List Int} (h : IsRow .u8 W b len cap z) : ∃ l : List Int,len = l.length ∧ (∀ V,Below W.heap.size W V → Kd.C (Kd.int .u8) V b l.length l) ∧ l.length ≤ cap ∧ ∀ x ∈ l,0 ≤ x ∧ x < 256 :=by
 obtain ⟨l,rfl,hr,hm,hw,hc⟩ :=ReadsInt.ofRowC h
 exact ⟨l,rfl,fun V hb => Kd.C_below (Kd.C_of_reads (d :=(0 : Int)) (h1 :=fun _ => rfl) hr) hb,hc,fun x hx => wf8 (hw x hx)⟩
structure RgOk (ρ : Rg) : Prop where
 r : 0 ≤ ρ.r ∧ ρ.r < 256
 i : 0 ≤ ρ.i ∧ ρ.i < 256
 b : 0 ≤ ρ.b ∧ ρ.b < 256
 c : 0 ≤ ρ.c ∧ ρ.c < 256
 pc : 0 ≤ ρ.pc ∧ ρ.pc < 65536
 sp : 0 ≤ ρ.sp ∧ ρ.sp < 65536
 ix : 0 ≤ ρ.ix ∧ ρ.ix < 65536
 iy : 0 ≤ ρ.iy ∧ ρ.iy < 65536
theorem cells5 : Tryz.prog.cellsOf 5 = 1 :=by kernel_rfl
theorem cells22 : Tryz.prog.cellsOf 22 = 1 :=by kernel_rfl
theorem cells3 : Tryz.prog.cellsOf 3 = 1 :=by kernel_rfl
theorem cells4 : Tryz.prog.cellsOf 4 = 1 :=by kernel_rfl
theorem cells24 : Tryz.prog.cellsOf 24 = 24 :=by kernel_rfl
theorem getx {α : Type} {xs : List α} {n i : Nat} (h : xs.length = n) (hi : i < n) : ∃ y,xs[i]? = some y :=⟨xs[i]'(by omega),List.getElem?_eq_getElem (by omega)⟩
set_option maxHeartbeats 4000000 in
set_option maxRecDepth 100000 in
theorem open_regs {H : Type} {enc : TypeId × Value → H} {W : World} {r : Reach} {b0 base : Nat} {sp : Nat → Bool} {held : Bool} {v : Value} {d : DataW H} {ps : List MemPlace} (hval : Value.okWide Tryz.prog W r b0 24 v) (hd : DataW.Trod enc Tryz.prog W base sp held 24 v d ps) :
  ∃ ρ : Rg,v = .agg ρ.vals ∧ RgOk ρ :=by
 obtain ⟨cs,rfl,hsz⟩ : ∃ cs,v = .agg cs ∧ cs.size = 24 :=by
  unfold Value.okWide at hval
  rw [Tryz.underlying24] at hval
  obtain ⟨cs,e,hs,_⟩ :=hval
  exact ⟨cs,e,hs.trans cells24⟩
 obtain ⟨fuel,h⟩ :=hd
 obtain ⟨xs,n,_,_,hlen,hxl,hf⟩ :=DataW.trod_struct Tryz.underlying24 h
 have hxl : xs.length = 24 :=hxl
 obtain ⟨l⟩ :=cs
 have h0 : l.length = 24 :=by simpa using hsz
 have hcs : (Value.agg (Array.mk l)).cells.toList = l :=by simp [Value.cells]
 rw [hcs] at hf
 match l,h0,hf with
 | [c0,c1,c2,c3,c4,c5,c6,c7,c8,c9,c10,c11,c12,c13,c14,c15,c16,c17,c18,c19,c20,c21,c22,c23],_,hf =>
  obtain ⟨y0,hy0⟩ :=getx (i :=0) hxl (by decide)
  have g0 :=(hf 0 _ rfl).trans hy0
  simp only [List.getElem_toArray,List.getElem_cons_zero,List.getElem_cons_succ,cells5,List.drop_succ_cons,List.drop_zero,List.take_succ_cons,List.take_zero] at g0
  obtain ⟨n0,e0,_,w0⟩ :=DataW.trod_int Tryz.underlying5 g0
  cases e0
  obtain ⟨y1,hy1⟩ :=getx (i :=1) hxl (by decide)
  have g1 :=(hf 1 _ rfl).trans hy1
  simp only [List.getElem_toArray,List.getElem_cons_zero,List.getElem_cons_succ,cells5,List.drop_succ_cons,List.drop_zero,List.take_succ_cons,List.take_zero] at g1
  obtain ⟨n1,e1,_,w1⟩ :=DataW.trod_int Tryz.underlying5 g1
  cases e1
  obtain ⟨y2,hy2⟩ :=getx (i :=2) hxl (by decide)
  have g2 :=(hf 2 _ rfl).trans hy2
  simp only [List.getElem_toArray,List.getElem_cons_zero,List.getElem_cons_succ,cells5,List.drop_succ_cons,List.drop_zero,List.take_succ_cons,List.take_zero] at g2
  obtain ⟨n2,e2,_,w2⟩ :=DataW.trod_int Tryz.underlying5 g2
  cases e2
  obtain ⟨y3,hy3⟩ :=getx (i :=3) hxl (by decide)
  have g3 :=(hf 3 _ rfl).trans hy3
  simp only [List.getElem_toArray,List.getElem_cons_zero,List.getElem_cons_succ,cells5,List.drop_succ_cons,List.drop_zero,List.take_succ_cons,List.take_zero] at g3
  obtain ⟨n3,e3,_,w3⟩ :=DataW.trod_int Tryz.underlying5 g3
  cases e3
  obtain ⟨y4,hy4⟩ :=getx (i :=4) hxl (by decide)
  have g4 :=(hf 4 _ rfl).trans hy4
  simp only [List.getElem_toArray,List.getElem_cons_zero,List.getElem_cons_succ,cells5,List.drop_succ_cons,List.drop_zero,List.take_succ_cons,List.take_zero] at g4
  obtain ⟨n4,e4,_,w4⟩ :=DataW.trod_int Tryz.underlying5 g4
  cases e4
  obtain ⟨y5,hy5⟩ :=getx (i :=5) hxl (by decide)
  have g5 :=(hf 5 _ rfl).trans hy5
  simp only [List.getElem_toArray,List.getElem_cons_zero,List.getElem_cons_succ,cells5,List.drop_succ_cons,List.drop_zero,List.take_succ_cons,List.take_zero] at g5
  obtain ⟨n5,e5,_,w5⟩ :=DataW.trod_int Tryz.underlying5 g5
  cases e5
  obtain ⟨y6,hy6⟩ :=getx (i :=6) hxl (by decide)
  have g6 :=(hf 6 _ rfl).trans hy6
  simp only [List.getElem_toArray,List.getElem_cons_zero,List.getElem_cons_succ,cells5,List.drop_succ_cons,List.drop_zero,List.take_succ_cons,List.take_zero] at g6
  obtain ⟨n6,e6,_,w6⟩ :=DataW.trod_int Tryz.underlying5 g6
  cases e6
  obtain ⟨y7,hy7⟩ :=getx (i :=7) hxl (by decide)
  have g7 :=(hf 7 _ rfl).trans hy7
  simp only [List.getElem_toArray,List.getElem_cons_zero,List.getElem_cons_succ,cells5,List.drop_succ_cons,List.drop_zero,List.take_succ_cons,List.take_zero] at g7
  obtain ⟨n7,e7,_,w7⟩ :=DataW.trod_int Tryz.underlying5 g7
  cases e7
  obtain ⟨y8,hy8⟩ :=getx (i :=8) hxl (by decide)
  have g8 :=(hf 8 _ rfl).trans hy8
  simp only [List.getElem_toArray,List.getElem_cons_zero,List.getElem_cons_succ,cells5,List.drop_succ_cons,List.drop_zero,List.take_succ_cons,List.take_zero] at g8
  obtain ⟨n8,e8,_,w8⟩ :=DataW.trod_int Tryz.underlying5 g8
  cases e8
  obtain ⟨y9,hy9⟩ :=getx (i :=9) hxl (by decide)
  have g9 :=(hf 9 _ rfl).trans hy9
  simp only [List.getElem_toArray,List.getElem_cons_zero,List.getElem_cons_succ,cells5,List.drop_succ_cons,List.drop_zero,List.take_succ_cons,List.take_zero] at g9
  obtain ⟨n9,e9,_,w9⟩ :=DataW.trod_int Tryz.underlying5 g9
  cases e9
  obtain ⟨y10,hy10⟩ :=getx (i :=10) hxl (by decide)
  have g10 :=(hf 10 _ rfl).trans hy10
  simp only [List.getElem_toArray,List.getElem_cons_zero,List.getElem_cons_succ,cells22,List.drop_succ_cons,List.drop_zero,List.take_succ_cons,List.take_zero] at g10
  obtain ⟨n10,e10,_,w10⟩ :=DataW.trod_int Tryz.underlying22 g10
  cases e10
  obtain ⟨y11,hy11⟩ :=getx (i :=11) hxl (by decide)
  have g11 :=(hf 11 _ rfl).trans hy11
  simp only [List.getElem_toArray,List.getElem_cons_zero,List.getElem_cons_succ,cells22,List.drop_succ_cons,List.drop_zero,List.take_succ_cons,List.take_zero] at g11
  obtain ⟨n11,e11,_,w11⟩ :=DataW.trod_int Tryz.underlying22 g11
  cases e11
  obtain ⟨y12,hy12⟩ :=getx (i :=12) hxl (by decide)
  have g12 :=(hf 12 _ rfl).trans hy12
  simp only [List.getElem_toArray,List.getElem_cons_zero,List.getElem_cons_succ,cells22,List.drop_succ_cons,List.drop_zero,List.take_succ_cons,List.take_zero] at g12
  obtain ⟨n12,e12,_,w12⟩ :=DataW.trod_int Tryz.underlying22 g12
  cases e12
  obtain ⟨y13,hy13⟩ :=getx (i :=13) hxl (by decide)
  have g13 :=(hf 13 _ rfl).trans hy13
  simp only [List.getElem_toArray,List.getElem_cons_zero,List.getElem_cons_succ,cells22,List.drop_succ_cons,List.drop_zero,List.take_succ_cons,List.take_zero] at g13
  obtain ⟨n13,e13,_,w13⟩ :=DataW.trod_int Tryz.underlying22 g13
  cases e13
  obtain ⟨y14,hy14⟩ :=getx (i :=14) hxl (by decide)
  have g14 :=(hf 14 _ rfl).trans hy14
  simp only [List.getElem_toArray,List.getElem_cons_zero,List.getElem_cons_succ,cells22,List.drop_succ_cons,List.drop_zero,List.take_succ_cons,List.take_zero] at g14
  obtain ⟨n14,e14,_,w14⟩ :=DataW.trod_int Tryz.underlying22 g14
  cases e14
  obtain ⟨y15,hy15⟩ :=getx (i :=15) hxl (by decide)
  have g15 :=(hf 15 _ rfl).trans hy15
  simp only [List.getElem_toArray,List.getElem_cons_zero,List.getElem_cons_succ,cells22,List.drop_succ_cons,List.drop_zero,List.take_succ_cons,List.take_zero] at g15
  obtain ⟨n15,e15,_,w15⟩ :=DataW.trod_int Tryz.underlying22 g15
  cases e15
  obtain ⟨y16,hy16⟩ :=getx (i :=16) hxl (by decide)
  have g16 :=(hf 16 _ rfl).trans hy16
  simp only [List.getElem_toArray,List.getElem_cons_zero,List.getElem_cons_succ,cells22,List.drop_succ_cons,List.drop_zero,List.take_succ_cons,List.take_zero] at g16
  obtain ⟨n16,e16,_,w16⟩ :=DataW.trod_int Tryz.underlying22 g16
  cases e16
  obtain ⟨y17,hy17⟩ :=getx (i :=17) hxl (by decide)
  have g17 :=(hf 17 _ rfl).trans hy17
  simp only [List.getElem_toArray,List.getElem_cons_zero,List.getElem_cons_succ,cells22,List.drop_succ_cons,List.drop_zero,List.take_succ_cons,List.take_zero] at g17
  obtain ⟨n17,e17,_,w17⟩ :=DataW.trod_int Tryz.underlying22 g17
  cases e17
  obtain ⟨y18,hy18⟩ :=getx (i :=18) hxl (by decide)
  have g18 :=(hf 18 _ rfl).trans hy18
  simp only [List.getElem_toArray,List.getElem_cons_zero,List.getElem_cons_succ,cells22,List.drop_succ_cons,List.drop_zero,List.take_succ_cons,List.take_zero] at g18
  obtain ⟨n18,e18,_,w18⟩ :=DataW.trod_int Tryz.underlying22 g18
  cases e18
  obtain ⟨y19,hy19⟩ :=getx (i :=19) hxl (by decide)
  have g19 :=(hf 19 _ rfl).trans hy19
  simp only [List.getElem_toArray,List.getElem_cons_zero,List.getElem_cons_succ,cells4,List.drop_succ_cons,List.drop_zero,List.take_succ_cons,List.take_zero] at g19
  obtain ⟨n19,e19,_⟩ :=DataW.trod_bool Tryz.underlying4 g19
  cases e19
  obtain ⟨y20,hy20⟩ :=getx (i :=20) hxl (by decide)
  have g20 :=(hf 20 _ rfl).trans hy20
  simp only [List.getElem_toArray,List.getElem_cons_zero,List.getElem_cons_succ,cells4,List.drop_succ_cons,List.drop_zero,List.take_succ_cons,List.take_zero] at g20
  obtain ⟨n20,e20,_⟩ :=DataW.trod_bool Tryz.underlying4 g20
  cases e20
  obtain ⟨y21,hy21⟩ :=getx (i :=21) hxl (by decide)
  have g21 :=(hf 21 _ rfl).trans hy21
  simp only [List.getElem_toArray,List.getElem_cons_zero,List.getElem_cons_succ,cells3,List.drop_succ_cons,List.drop_zero,List.take_succ_cons,List.take_zero] at g21
  obtain ⟨n21,e21,_,w21⟩ :=DataW.trod_int Tryz.underlying3 g21
  cases e21
  obtain ⟨y22,hy22⟩ :=getx (i :=22) hxl (by decide)
  have g22 :=(hf 22 _ rfl).trans hy22
  simp only [List.getElem_toArray,List.getElem_cons_zero,List.getElem_cons_succ,cells4,List.drop_succ_cons,List.drop_zero,List.take_succ_cons,List.take_zero] at g22
  obtain ⟨n22,e22,_⟩ :=DataW.trod_bool Tryz.underlying4 g22
  cases e22
  obtain ⟨y23,hy23⟩ :=getx (i :=23) hxl (by decide)
  have g23 :=(hf 23 _ rfl).trans hy23
  simp only [List.getElem_toArray,List.getElem_cons_zero,List.getElem_cons_succ,cells4,List.drop_succ_cons,List.drop_zero,List.take_succ_cons,List.take_zero] at g23
  obtain ⟨n23,e23,_⟩ :=DataW.trod_bool Tryz.underlying4 g23
  cases e23
  exact ⟨⟨n0,n1,n2,n3,n4,n5,n6,n7,n8,n9,n10,n11,n12,n13,n14,n15,n16,n17,n18,n19,n20,n21,n22,n23⟩,rfl,⟨wf8 w9,wf8 w8,wf8 w2,wf8 w3,wf16 w13,wf16 w12,wf16 w10,wf16 w11⟩⟩
open Go.Proofs.YtnelghpendfdmaaGreatDoor.HFun
theorem R_rd {α : Type} {d : Kd α} {e : Nat} {w : World} {base : Nat} {ok : Nat → Prop} {A : Option Addr} {n c : Nat} {xs : List α} (h : d.R e w base ok (.slice A n c) xs) : xs.length ≤ c ∧ d.C w A xs.length xs :=by
 obtain ⟨A',c',he,hl,hC⟩ :=Kd.R_reads h
 cases he
 exact ⟨hl,hC⟩
def reqsL (xs : List S56) : List Value :=xs.flatMap fun x => (s56c x).toList
def reqsC (xs : List S56) : Array Value :=(reqsL xs).toArray
theorem reps_flat {w : World} {base : Nat} {ok : Nat → Prop} : ∀ (xs : List S56) (inner : List Value),Reps (k56.M w base ok) 4 xs inner → inner = reqsL xs
 | [],inner,h => List.eq_nil_of_length_eq_zero (by simpa using h.1)
 | x :: xs,inner,h => by
  have h0 :=k56_openM (h.2 0 x rfl)
  rw [Nat.zero_mul,List.drop_zero] at h0
  have hl :=h.1
  rw [List.length_cons] at hl
  have ht :=reps_flat xs (inner.drop 4) ⟨by rw [List.length_drop];omega,fun j p hp => by
   have :=h.2 (j + 1) p (by simpa using hp)
   rw [List.drop_drop]
   rw [show 4 + j * 4 = (j + 1) * 4 by omega]
   exact this⟩
  rw [← List.take_append_drop 4 inner,h0,ht]
  rfl
theorem R_own {w : World} {base : Nat} {ok : Nat → Prop} {A : Option Addr} {n c : Nat} {xs : List S56} (h : k56.R 56 w base ok (.slice A n c) xs) (hne : xs ≠ []) : ∃ g : Nat,A = some ⟨g,0,none⟩ ∧ base ≤ g ∧ BlkAt w g (reqsC xs) :=by
 obtain ⟨_,inner,⟨h1,h2⟩,hr⟩ :=h
 rcases h2 with ⟨_,e2⟩ | ⟨g,cap,cur,e1,hb,hh,_,_,hsz,ht⟩
 ·exact absurd (List.eq_nil_of_length_eq_zero e2) hne
 ·cases e1
  have hin :=reps_flat xs inner hr
  refine ⟨g,rfl,hb,⟨(Array.getElem?_eq_some_iff.1 hh).1,fun k v hk => ?_,fun k => ?_⟩⟩
  ·have hk' : inner[k]? = some v :=by rw [hin];simpa [reqsC] using hk
   rw [← ht] at hk'
   have hk2 : cur[k]? = some v :=by
    rw [List.getElem?_take] at hk'
    split at hk'
    ·simpa using hk'
    ·cases hk'
   simp only [World.cell?,hh]
   simpa using hk2
  ·simp only [World.frozen?,hh]
   simp
theorem got_all {w0 V : World} {bs : List (Nat × Array Value)} {vo : Value} {out : List S56} {A : Option Addr} {c : Nat} {got : List Int} (h : EnvR w0 V bs vo out (.slice A got.length c) got) : got.length ≤ c ∧ ∀ V',Below V.heap.size V V' → Kd.C (Kd.int .u8) V' A got.length got :=
 ⟨(R_rd h.g).1,fun V' hb => Kd.C_below (R_rd h.g).2 hb⟩
section
variable {w0 V V' : World} {bs : List (Nat × Array Value)} {vo vg : Value} {out : List S56} {got : List Int} {ops : Array Oper} {rest : List Oper} {op : Oper} {a : Act} {Q : Exit → Act → World → Prop}
theorem wpList_newR (h : EnvR w0 V bs vo out vg got) (hgd : op.guard = none) (cs : Array Value) (ty : TypeId) (hb : (execOp a.eval op).run Tryz.prog V = .ok (.value (.pointer (some ⟨V.heap.size,0,none⟩))) (V.alloc (.cells cs ty)))
  (k : ∀ V' g,EnvR w0 V' ((g,cs) :: bs) vo out vg got → wpList Tryz.prog ops Q rest (a.put op.dst (.pointer (some ⟨g,0,none⟩))) V') : wpList Tryz.prog ops Q (op :: rest) a V :=by
 refine wpList_plain hgd fun _ hK => ?_
 unfold Oper.wp
 simp only [hb]
 exact hK _ _ (k _ _ (h.push cs ty))
theorem wpList_stR (h : EnvR w0 V bs vo out vg got) (hgd : op.guard = none) (i : Nat) {g : Nat} {cs : Array Value} (hi : bs[i]? = some (g,cs)) (ty : TypeId) (x y : Operand) (ho : op.op = .store ty x y) (cs' : Array Value)
  (hx : a.eval x = .pointer (some ⟨g,0,none⟩)) (hy : a.eval y = .agg cs') (hsz : cs'.size = cs.size) (hinf : (Tryz.prog.info? ty).map (·.size) = some cs'.size) (hall : cs'.all (·.oneCell') = true)
  (k : ∀ V',EnvR w0 V' (bs.set i (g,cs')) vo out vg got → wpList Tryz.prog ops Q rest (a.put op.dst undef) V') : wpList Tryz.prog ops Q (op :: rest) a V :=
 zbn (h.env.at_ i g cs hi).2 hgd ty x y ho cs' hx hy hsz hinf hall (fun V' hk hc => k V' (h.put hi hk hc))
theorem zam (hgd : op.guard = none) (x : Operand) (ho : op.op = .load 5 x) {p : Addr} {v : Int} (hx : a.eval x = .pointer (some p)) (hc : V.cell? p = some (.int .u8 v)) (k : wpList Tryz.prog ops Q rest (a.put op.dst (.int .u8 v)) V) : wpList Tryz.prog ops Q (op :: rest) a V :=by
 refine wpList_plain hgd fun _ hK => ?_
 have hrun : (execOp a.eval op).run Tryz.prog V = .ok (.value (.int .u8 v)) V :=by
  unfold execOp
  simp only [ho,hx]
  simp [go_sem,hc]
 unfold Oper.wp
 simp only [hrun]
 exact hK _ _ k
theorem zbj (hgd : op.guard = none) (cs : Array Value) (ty : TypeId) (n : Nat) (hb : (execOp a.eval op).run Tryz.prog V = .ok (.value (.slice (some ⟨V.heap.size,0,none⟩) n n)) (V.alloc (.cells cs ty)))
  (k : wpList Tryz.prog ops Q rest (a.put op.dst (.slice (some ⟨V.heap.size,0,none⟩) n n)) (V.alloc (.cells cs ty))) : wpList Tryz.prog ops Q (op :: rest) a V :=by
 refine wpList_plain hgd fun _ hK => ?_
 unfold Oper.wp
 simp only [hb]
 exact hK _ _ k
theorem Env.drop (h : Env w0 V bs) (n : Nat) : Env w0 V (bs.drop n) :=
 ⟨h.b,fun j g cs hj => h.at_ (n + j) g cs (by rw [← List.getElem?_drop];exact hj),fun i j g c1 c2 hi hj => by
  have :=h.ne (n + i) (n + j) g c1 c2 (by rw [← List.getElem?_drop];exact hi) (by rw [← List.getElem?_drop];exact hj)
  omega⟩
theorem EnvR.drop (h : EnvR w0 V bs vo out vg got) (n : Nat) : EnvR w0 V (bs.drop n) vo out vg got :=
 ⟨h.env.drop n,Kd.R_mono h.o (fun k hk j g cs hj => hk (n + j) g cs (by rw [← List.getElem?_drop];exact hj)),Kd.R_mono h.g (fun k hk j g cs hj => hk (n + j) g cs (by rw [← List.getElem?_drop];exact hj))⟩
end
open Go Go.RowKit Go.Proofs.YtnelghpendfdmaaGreatDoorW.PrintWords
def two (o : Int) : Prop :=o = 221 ∨ o = 253 ∨ o = 203 ∨ o = 237
instance (o : Int) : Decidable (two o) :=by unfold two;infer_instance
theorem w64b {b : Int} (h0 : 0 ≤ b) (h1 : b < 256) : wrap64 b = b :=B.w64 (by omega) (by omega)
/-! where a run stands -/
def Tr.res {α : Type} (t : Tr α) (n : Nat) : Res α :=match t with | .ret v ρ => .ok v ρ n | .ask k a v tt _ => .ask k a v tt
def Tr.dn {α : Type} : Tr α → List Int → Option (Tr α)
 | t,[] => some t
 | .ret _ _,_ :: _ => none
 | .ask _ _ _ _ f,x :: xs => (f x).dn xs
theorem Tr.dn_snoc {α : Type} {gl : List Int} {t : Tr α} {k a v tt : Int} {f : Int → Tr α} (h : t.dn gl = some (.ask k a v tt f)) (x : Int) : t.dn (gl ++ [x]) = some (f x) :=by
 induction gl generalizing t with
 | nil => cases t <;> simp_all [Tr.dn]
 | cons y gl ih =>
  cases t with
  | ret v ρ => simp [Tr.dn] at h
  | ask k' a' v' t' f' => simp only [List.cons_append,Tr.dn] at h ⊢;exact ih h
theorem Tr.run_dn {α : Type} (pre gl : List Int) {t t' : Tr α} (h : t.dn gl = some t') : t.run (pre ++ gl) pre.length = t'.res (pre ++ gl).length :=by
 induction gl generalizing t pre with
 | nil =>
  have : t = t' :=by cases t <;> simp_all [Tr.dn]
  subst this
  cases t with
  | ret v ρ => simp [Tr.run,Tr.res]
  | ask k a v tt f => simp [Tr.run,Tr.res]
 | cons y gl ih =>
  cases t with
  | ret v ρ => simp [Tr.dn] at h
  | ask k a v tt f =>
   simp only [Tr.dn] at h
   have :=ih (pre ++ [y]) h
   unfold Tr.run
   rw [if_pos (by simp)]
   have hrd : rd (pre ++ y :: gl) (pre.length : Nat) = y :=by simp [rd]
   rw [hrd]
   simpa using this
theorem zap {ops : Array Oper} {rest : List Oper} {op : Oper} {a : Act} {Q : Exit → Act → World → Prop} {V : World} (hgd : op.guard = none) (v : Value) (hb : (execOp a.eval op).run Tryz.prog V = .ok (.value v) V)
  (k : wpList Tryz.prog ops Q rest (a.put op.dst v) V) : wpList Tryz.prog ops Q (op :: rest) a V :=by
 refine wpList_plain hgd fun _ hK => ?_
 unfold Oper.wp
 simp only [hb]
 exact hK _ _ k
theorem gate_bin' (b : BinOp) (ty : TypeId) {P : Program} {ops : Array Oper} {Q : Exit → Act → World → Prop} {W : World} {rest : List Oper} {d x y ty' t p af gd a} (h : wpList P ops Q ({ dst :=d,op :=.binOp b ty x y ty',type :=t,pos :=p,after :=af,guard :=gd } :: rest) a W) : wpList P ops Q ({ dst :=d,op :=.binOp b ty x y ty',type :=t,pos :=p,after :=af,guard :=gd } :: rest) a W :=h
set_option maxHeartbeats 16000000 in
set_option maxRecDepth 100000 in
theorem lcheck8 (ρ : Rg) (W : World) (c1 : Bool) (hc : (decide (ρ.im < 0) || decide (ρ.im > 2)) = c1) :
  Calls Tryz.prog 12 #[.agg ρ.vals] W fun e V => e = .returned (.int .i64 (if c1 = true then 2 else 0)) ∧ Below W.heap.size W V :=by
 have hE :=Aside0.mk (Env.nil W)
 by_cases h1 : ρ.im < 0
 ·have d1 : decide (ρ.im < 0) = true :=decide_eq_true h1
  have d2 : c1 = true :=by rw [← hc,d1];rfl
  subst d2
  clear hc h1
  go_enter Tryz.func12,Tryz.ntmps12
  go_upto_region 1 with (first | ((with_reducible refine gate_box 24 ?_);refine zab hE.out rfl (Rg.vals _) 24 rfl ?_;intro V g hE';replace hE :=Aside0.mk hE';clear hE'))
  have q0_21 :=(hE.out.at_ 0 _ _ rfl).2.cell 21 _ rfl
  go_wp2_with fail
  go_ret
  exact ⟨rfl,hE.out.b⟩
 ·have d1 : decide (ρ.im < 0) = false :=decide_eq_false h1
  rw [d1,Bool.false_or] at hc
  clear h1
  go_enter Tryz.func12,Tryz.ntmps12
  go_upto_region 1 with (first | ((with_reducible refine gate_box 24 ?_);refine zab hE.out rfl (Rg.vals _) 24 rfl ?_;intro V g hE';replace hE :=Aside0.mk hE';clear hE'))
  have q0_21 :=(hE.out.at_ 0 _ _ rfl).2.cell 21 _ rfl
  cases c1
  ·have hc' : decide (2 < ρ.im) = false :=hc
   clear hc
   go_wp2_with fail
   go_ret
   exact ⟨rfl,hE.out.b⟩
  ·have hc' : decide (2 < ρ.im) = true :=hc
   clear hc
   go_wp2_with fail
   go_ret
   exact ⟨rfl,hE.out.b⟩
end Go.Proofs.YtnelghpendfdmaaGreatDoor.KRow
