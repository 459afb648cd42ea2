/-
 PROVED: what a law's arguments are that the row of the claim hands it: registers (a struct of 24 fields), rows of bytes.
-/
import Derived.Test.YtnelghpendfdmaaGreatDoorKRow
import Derived.ProofKit
import Derived.ChangeOld
namespace Go.Proofs.YtnelghpendfdmaaGreatDoor.KRow
open Go Go.RowKit Go.Proofs.YtnelghpendfdmaaGreatDoorW.PrintWords Go.Proofs.YtnelghpendfdmaaGreatDoorW.PrintLast Go.Proofs.YtnelghpendfdmaaGreatDoorW.PrintMore
open Go.ChangeShapes Go.WideShapes Go.ChangeAt
set_option linter.unusedVariables false
set_option linter.unusedSimpArgs false
def IsRow (k : IntKind) (w : World) (a : Option Addr) (len cap : Nat) (zs : List Int) : Prop :=
 (a = none ∧ len = 0 ∧ cap = 0 ∧ zs = []) ∨
 ∃ x,a = some x ∧ len ≤ cap ∧ cap ≤ maxLen ∧ zs.length = cap ∧ (∀ i,i < zs.length → w.cell? (x.add i) = some (.int k (zs.getD i 0))) ∧ ∀ n ∈ zs,(Lit.int k n).wf = true
theorem wf8 {n : Int} (h : (Lit.int .u8 n).wf = true) : 0 ≤ n ∧ n < 256 :=by
 simp [Lit.wf,IntKind.min,IntKind.max,IntKind.signed,IntKind.bits] at h
 omega
theorem wf16 {n : Int} (h : (Lit.int .u16 n).wf = true) : 0 ≤ n ∧ n < 65536 :=by
 simp [Lit.wf,IntKind.min,IntKind.max,IntKind.signed,IntKind.bits] at h
 omega
theorem row_bytes {W : World} {b : Option Addr} {len cap : Nat} {z : List Int} (h : IsRow .u8 W b len cap z) : ∃ l : List Int,len = l.length ∧ (∀ V,Below W.heap.size W V → Kd.C (Kd.int .u8) V b l.length l) ∧ l.length ≤ cap ∧ ∀ x ∈ l,0 ≤ x ∧ x < 256 :=by
 obtain ⟨l,rfl,hr,hm,hw,hc⟩ :=ReadsInt.ofRowC h
 exact ⟨l,rfl,fun V hb => Kd.C_below (Kd.C_of_reads (d :=(0 : Int)) (h1 :=fun _ => rfl) hr) hb,hc,fun x hx => wf8 (hw x hx)⟩
structure RgOk (ρ : Rg) : Prop where
 r : 0 ≤ ρ.r ∧ ρ.r < 256
 i : 0 ≤ ρ.i ∧ ρ.i < 256
 b : 0 ≤ ρ.b ∧ ρ.b < 256
 c : 0 ≤ ρ.c ∧ ρ.c < 256
 pc : 0 ≤ ρ.pc ∧ ρ.pc < 65536
 sp : 0 ≤ ρ.sp ∧ ρ.sp < 65536
theorem cells5 : Tryz.prog.cellsOf 5 = 1 :=by kernel_rfl
theorem cells22 : Tryz.prog.cellsOf 22 = 1 :=by kernel_rfl
theorem cells3 : Tryz.prog.cellsOf 3 = 1 :=by kernel_rfl
theorem cells4 : Tryz.prog.cellsOf 4 = 1 :=by kernel_rfl
theorem cells24 : Tryz.prog.cellsOf 24 = 24 :=by kernel_rfl
theorem getx {α : Type} {xs : List α} {n i : Nat} (h : xs.length = n) (hi : i < n) : ∃ y,xs[i]? = some y :=⟨xs[i]'(by omega),List.getElem?_eq_getElem (by omega)⟩
set_option maxHeartbeats 4000000 in
set_option maxRecDepth 100000 in
theorem open_regs {H : Type} {enc : TypeId × Value → H} {W : World} {r : Reach} {b0 base : Nat} {sp : Nat → Bool} {held : Bool} {v : Value} {d : DataW H} {ps : List MemPlace} (hval : Value.okWide Tryz.prog W r b0 24 v) (hd : DataW.Trod enc Tryz.prog W base sp held 24 v d ps) :
  ∃ ρ : Rg,v = .agg ρ.vals ∧ RgOk ρ :=by
 obtain ⟨cs,rfl,hsz⟩ : ∃ cs,v = .agg cs ∧ cs.size = 24 :=by
  unfold Value.okWide at hval
  rw [Tryz.underlying24] at hval
  obtain ⟨cs,e,hs,_⟩ :=hval
  exact ⟨cs,e,hs.trans cells24⟩
 obtain ⟨fuel,h⟩ :=hd
 obtain ⟨xs,n,_,_,hlen,hxl,hf⟩ :=DataW.trod_struct Tryz.underlying24 h
 have hxl : xs.length = 24 :=hxl
 obtain ⟨l⟩ :=cs
 have h0 : l.length = 24 :=by simpa using hsz
 have hcs : (Value.agg (Array.mk l)).cells.toList = l :=by simp [Value.cells]
 rw [hcs] at hf
 match l,h0,hf with
 | [c0,c1,c2,c3,c4,c5,c6,c7,c8,c9,c10,c11,c12,c13,c14,c15,c16,c17,c18,c19,c20,c21,c22,c23],_,hf =>
  obtain ⟨y0,hy0⟩ :=getx (i :=0) hxl (by decide)
  have g0 :=(hf 0 _ rfl).trans hy0
  simp only [List.getElem_toArray,List.getElem_cons_zero,List.getElem_cons_succ,cells5,List.drop_succ_cons,List.drop_zero,List.take_succ_cons,List.take_zero] at g0
  obtain ⟨n0,e0,_,w0⟩ :=DataW.trod_int Tryz.underlying5 g0
  cases e0
  obtain ⟨y1,hy1⟩ :=getx (i :=1) hxl (by decide)
  have g1 :=(hf 1 _ rfl).trans hy1
  simp only [List.getElem_toArray,List.getElem_cons_zero,List.getElem_cons_succ,cells5,List.drop_succ_cons,List.drop_zero,List.take_succ_cons,List.take_zero] at g1
  obtain ⟨n1,e1,_,w1⟩ :=DataW.trod_int Tryz.underlying5 g1
  cases e1
  obtain ⟨y2,hy2⟩ :=getx (i :=2) hxl (by decide)
  have g2 :=(hf 2 _ rfl).trans hy2
  simp only [List.getElem_toArray,List.getElem_cons_zero,List.getElem_cons_succ,cells5,List.drop_succ_cons,List.drop_zero,List.take_succ_cons,List.take_zero] at g2
  obtain ⟨n2,e2,_,w2⟩ :=DataW.trod_int Tryz.underlying5 g2
  cases e2
  obtain ⟨y3,hy3⟩ :=getx (i :=3) hxl (by decide)
  have g3 :=(hf 3 _ rfl).trans hy3
  simp only [List.getElem_toArray,List.getElem_cons_zero,List.getElem_cons_succ,cells5,List.drop_succ_cons,List.drop_zero,List.take_succ_cons,List.take_zero] at g3
  obtain ⟨n3,e3,_,w3⟩ :=DataW.trod_int Tryz.underlying5 g3
  cases e3
  obtain ⟨y4,hy4⟩ :=getx (i :=4) hxl (by decide)
  have g4 :=(hf 4 _ rfl).trans hy4
  simp only [List.getElem_toArray,List.getElem_cons_zero,List.getElem_cons_succ,cells5,List.drop_succ_cons,List.drop_zero,List.take_succ_cons,List.take_zero] at g4
  obtain ⟨n4,e4,_,w4⟩ :=DataW.trod_int Tryz.underlying5 g4
  cases e4
  obtain ⟨y5,hy5⟩ :=getx (i :=5) hxl (by decide)
  have g5 :=(hf 5 _ rfl).trans hy5
  simp only [List.getElem_toArray,List.getElem_cons_zero,List.getElem_cons_succ,cells5,List.drop_succ_cons,List.drop_zero,List.take_succ_cons,List.take_zero] at g5
  obtain ⟨n5,e5,_,w5⟩ :=DataW.trod_int Tryz.underlying5 g5
  cases e5
  obtain ⟨y6,hy6⟩ :=getx (i :=6) hxl (by decide)
  have g6 :=(hf 6 _ rfl).trans hy6
  simp only [List.getElem_toArray,List.getElem_cons_zero,List.getElem_cons_succ,cells5,List.drop_succ_cons,List.drop_zero,List.take_succ_cons,List.take_zero] at g6
  obtain ⟨n6,e6,_,w6⟩ :=DataW.trod_int Tryz.underlying5 g6
  cases e6
  obtain ⟨y7,hy7⟩ :=getx (i :=7) hxl (by decide)
  have g7 :=(hf 7 _ rfl).trans hy7
  simp only [List.getElem_toArray,List.getElem_cons_zero,List.getElem_cons_succ,cells5,List.drop_succ_cons,List.drop_zero,List.take_succ_cons,List.take_zero] at g7
  obtain ⟨n7,e7,_,w7⟩ :=DataW.trod_int Tryz.underlying5 g7
  cases e7
  obtain ⟨y8,hy8⟩ :=getx (i :=8) hxl (by decide)
  have g8 :=(hf 8 _ rfl).trans hy8
  simp only [List.getElem_toArray,List.getElem_cons_zero,List.getElem_cons_succ,cells5,List.drop_succ_cons,List.drop_zero,List.take_succ_cons,List.take_zero] at g8
  obtain ⟨n8,e8,_,w8⟩ :=DataW.trod_int Tryz.underlying5 g8
  cases e8
  obtain ⟨y9,hy9⟩ :=getx (i :=9) hxl (by decide)
  have g9 :=(hf 9 _ rfl).trans hy9
  simp only [List.getElem_toArray,List.getElem_cons_zero,List.getElem_cons_succ,cells5,List.drop_succ_cons,List.drop_zero,List.take_succ_cons,List.take_zero] at g9
  obtain ⟨n9,e9,_,w9⟩ :=DataW.trod_int Tryz.underlying5 g9
  cases e9
  obtain ⟨y10,hy10⟩ :=getx (i :=10) hxl (by decide)
  have g10 :=(hf 10 _ rfl).trans hy10
  simp only [List.getElem_toArray,List.getElem_cons_zero,List.getElem_cons_succ,cells22,List.drop_succ_cons,List.drop_zero,List.take_succ_cons,List.take_zero] at g10
  obtain ⟨n10,e10,_,w10⟩ :=DataW.trod_int Tryz.underlying22 g10
  cases e10
  obtain ⟨y11,hy11⟩ :=getx (i :=11) hxl (by decide)
  have g11 :=(hf 11 _ rfl).trans hy11
  simp only [List.getElem_toArray,List.getElem_cons_zero,List.getElem_cons_succ,cells22,List.drop_succ_cons,List.drop_zero,List.take_succ_cons,List.take_zero] at g11
  obtain ⟨n11,e11,_,w11⟩ :=DataW.trod_int Tryz.underlying22 g11
  cases e11
  obtain ⟨y12,hy12⟩ :=getx (i :=12) hxl (by decide)
  have g12 :=(hf 12 _ rfl).trans hy12
  simp only [List.getElem_toArray,List.getElem_cons_zero,List.getElem_cons_succ,cells22,List.drop_succ_cons,List.drop_zero,List.take_succ_cons,List.take_zero] at g12
  obtain ⟨n12,e12,_,w12⟩ :=DataW.trod_int Tryz.underlying22 g12
  cases e12
  obtain ⟨y13,hy13⟩ :=getx (i :=13) hxl (by decide)
  have g13 :=(hf 13 _ rfl).trans hy13
  simp only [List.getElem_toArray,List.getElem_cons_zero,List.getElem_cons_succ,cells22,List.drop_succ_cons,List.drop_zero,List.take_succ_cons,List.take_zero] at g13
  obtain ⟨n13,e13,_,w13⟩ :=DataW.trod_int Tryz.underlying22 g13
  cases e13
  obtain ⟨y14,hy14⟩ :=getx (i :=14) hxl (by decide)
  have g14 :=(hf 14 _ rfl).trans hy14
  simp only [List.getElem_toArray,List.getElem_cons_zero,List.getElem_cons_succ,cells22,List.drop_succ_cons,List.drop_zero,List.take_succ_cons,List.take_zero] at g14
  obtain ⟨n14,e14,_,w14⟩ :=DataW.trod_int Tryz.underlying22 g14
  cases e14
  obtain ⟨y15,hy15⟩ :=getx (i :=15) hxl (by decide)
  have g15 :=(hf 15 _ rfl).trans hy15
  simp only [List.getElem_toArray,List.getElem_cons_zero,List.getElem_cons_succ,cells22,List.drop_succ_cons,List.drop_zero,List.take_succ_cons,List.take_zero] at g15
  obtain ⟨n15,e15,_,w15⟩ :=DataW.trod_int Tryz.underlying22 g15
  cases e15
  obtain ⟨y16,hy16⟩ :=getx (i :=16) hxl (by decide)
  have g16 :=(hf 16 _ rfl).trans hy16
  simp only [List.getElem_toArray,List.getElem_cons_zero,List.getElem_cons_succ,cells22,List.drop_succ_cons,List.drop_zero,List.take_succ_cons,List.take_zero] at g16
  obtain ⟨n16,e16,_,w16⟩ :=DataW.trod_int Tryz.underlying22 g16
  cases e16
  obtain ⟨y17,hy17⟩ :=getx (i :=17) hxl (by decide)
  have g17 :=(hf 17 _ rfl).trans hy17
  simp only [List.getElem_toArray,List.getElem_cons_zero,List.getElem_cons_succ,cells22,List.drop_succ_cons,List.drop_zero,List.take_succ_cons,List.take_zero] at g17
  obtain ⟨n17,e17,_,w17⟩ :=DataW.trod_int Tryz.underlying22 g17
  cases e17
  obtain ⟨y18,hy18⟩ :=getx (i :=18) hxl (by decide)
  have g18 :=(hf 18 _ rfl).trans hy18
  simp only [List.getElem_toArray,List.getElem_cons_zero,List.getElem_cons_succ,cells22,List.drop_succ_cons,List.drop_zero,List.take_succ_cons,List.take_zero] at g18
  obtain ⟨n18,e18,_,w18⟩ :=DataW.trod_int Tryz.underlying22 g18
  cases e18
  obtain ⟨y19,hy19⟩ :=getx (i :=19) hxl (by decide)
  have g19 :=(hf 19 _ rfl).trans hy19
  simp only [List.getElem_toArray,List.getElem_cons_zero,List.getElem_cons_succ,cells4,List.drop_succ_cons,List.drop_zero,List.take_succ_cons,List.take_zero] at g19
  obtain ⟨n19,e19,_⟩ :=DataW.trod_bool Tryz.underlying4 g19
  cases e19
  obtain ⟨y20,hy20⟩ :=getx (i :=20) hxl (by decide)
  have g20 :=(hf 20 _ rfl).trans hy20
  simp only [List.getElem_toArray,List.getElem_cons_zero,List.getElem_cons_succ,cells4,List.drop_succ_cons,List.drop_zero,List.take_succ_cons,List.take_zero] at g20
  obtain ⟨n20,e20,_⟩ :=DataW.trod_bool Tryz.underlying4 g20
  cases e20
  obtain ⟨y21,hy21⟩ :=getx (i :=21) hxl (by decide)
  have g21 :=(hf 21 _ rfl).trans hy21
  simp only [List.getElem_toArray,List.getElem_cons_zero,List.getElem_cons_succ,cells3,List.drop_succ_cons,List.drop_zero,List.take_succ_cons,List.take_zero] at g21
  obtain ⟨n21,e21,_,w21⟩ :=DataW.trod_int Tryz.underlying3 g21
  cases e21
  obtain ⟨y22,hy22⟩ :=getx (i :=22) hxl (by decide)
  have g22 :=(hf 22 _ rfl).trans hy22
  simp only [List.getElem_toArray,List.getElem_cons_zero,List.getElem_cons_succ,cells4,List.drop_succ_cons,List.drop_zero,List.take_succ_cons,List.take_zero] at g22
  obtain ⟨n22,e22,_⟩ :=DataW.trod_bool Tryz.underlying4 g22
  cases e22
  obtain ⟨y23,hy23⟩ :=getx (i :=23) hxl (by decide)
  have g23 :=(hf 23 _ rfl).trans hy23
  simp only [List.getElem_toArray,List.getElem_cons_zero,List.getElem_cons_succ,cells4,List.drop_succ_cons,List.drop_zero,List.take_succ_cons,List.take_zero] at g23
  obtain ⟨n23,e23,_⟩ :=DataW.trod_bool Tryz.underlying4 g23
  cases e23
  exact ⟨⟨n0,n1,n2,n3,n4,n5,n6,n7,n8,n9,n10,n11,n12,n13,n14,n15,n16,n17,n18,n19,n20,n21,n22,n23⟩,rfl,⟨wf8 w9,wf8 w8,wf8 w2,wf8 w3,wf16 w13,wf16 w12⟩⟩
end Go.Proofs.YtnelghpendfdmaaGreatDoor.KRow
