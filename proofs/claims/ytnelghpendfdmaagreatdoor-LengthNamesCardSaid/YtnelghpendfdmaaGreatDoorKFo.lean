/-
 PROVED: length.Total, Hangs and LengthNames.
-/
import Derived.Test.YtnelghpendfdmaaGreatDoorKFn
namespace Go.Proofs.YtnelghpendfdmaaGreatDoor.KRow
set_option maxRecDepth 100000
set_option maxHeartbeats 16000000
open Go Go.RowKit Go.Proofs.YtnelghpendfdmaaGreatDoorW.PrintWords Go.Proofs.YtnelghpendfdmaaGreatDoorW.PrintLast Go.Proofs.YtnelghpendfdmaaGreatDoorW.PrintMore
open Go.Proofs.YtnelghpendfdmaaGreatDoor.HFun
set_option linter.unusedVariables false
set_option linter.unusedSimpArgs false
theorem C_cell {V : World} {A : Option Addr} {l : List Int} (h : Kd.C (Kd.int .i64) V A l.length l) (h0 : 0 < l.length) : ∃ ad : Addr,A = some ad ∧ ∀ i : Nat,i < l.length → V.cell? (ad.add i) = some (.int .i64 (rd l (i : Int))) :=by
 obtain ⟨_,_,h3⟩ :=h
 obtain ⟨ad,ha,hr⟩ :=h3 (by omega)
 refine ⟨ad,ha,fun i hi => ?_⟩
 obtain ⟨vs,h5,h6,h7⟩ :=hr i _ (List.getElem?_eq_getElem hi)
 have h6 : vs = [.int .i64 l[i]] :=h6
 subst h6
 have :=h7 0 _ rfl
 have hs : (Kd.int .i64).sz = 1 :=rfl
 rw [hs,Nat.mul_one,Nat.add_zero] at this
 simpa [rd,hi] using this
theorem wpList_ldI {V : World} {ops : Array Oper} {rest : List Oper} {op : Oper} {a : Act} {Q : Exit → Act → World → Prop} (hgd : op.guard = none) (x : Operand) (ho : op.op = .load 3 x) {p : Addr} {v : Int} (hx : a.eval x = .pointer (some p)) (hc : V.cell? p = some (.int .i64 v)) (k : wpList Tryz.prog ops Q rest (a.put op.dst (.int .i64 v)) V) : wpList Tryz.prog ops Q (op :: rest) a V :=by
 refine wpList_plain hgd fun _ hK => ?_
 have hrun : (execOp a.eval op).run Tryz.prog V = .ok (.value (.int .i64 v)) V :=by
  unfold execOp
  simp only [ho,hx]
  simp [go_sem,hc]
 unfold Oper.wp
 simp only [hrun]
 exact hK _ _ k
theorem sum_rng : ∀ (l : List Int),(∀ x ∈ l,0 ≤ x ∧ x ≤ 35) → 0 ≤ l.sum ∧ l.sum ≤ 35 * (l.length : Int)
 | [],_ => by simp
 | x :: l,h => by
  have h1 :=sum_rng l fun y hy => h y (List.mem_cons_of_mem _ hy)
  have h2 :=h x (List.mem_cons_self ..)
  rw [List.sum_cons,List.length_cons]
  omega
def OfP (i : Array Value) (more : Bool) (W : World) (ds : List Int) : Prop :=∀ V,Below W.heap.size W V → Calls Tryz.prog 17 #[.agg i,.bool more] V fun e V' => ∃ A c,e = .returned (.tuple #[.slice A ds.length c,.int .i64 0]) ∧ Below V.heap.size V V' ∧ ds.length ≤ c ∧ ∀ V2,Below V'.heap.size V' V2 → Kd.C (Kd.int .i64) V2 A ds.length ds
theorem lOfBad {W : World} {m : Bool} {i0 i1 i2 i3 i4 i5 r : Int} (hr : r ≠ 0) (hchk : decode_Check.f 20 i0 i1 i2 i3 i4 i5 = some r) : Calls Tryz.prog 17 #[.agg (insC i0 i1 i2 i3 i4 i5),.bool m] W fun e V => e = .returned (.tuple #[.slice none 0 0,.int .i64 r]) ∧ Below W.heap.size W V :=by
 have hE :=Aside0.mk (Env.nil W)
 have hrb : (r != 0) = true :=bne_iff_ne.mpr hr
 replace hchk :=Aside0.mk hchk
 go_enter Tryz.func17,Tryz.ntmps17
 go_wp2_with (first | ((with_reducible refine gate_box 28 ?_);refine wpList_new hE.out rfl (insC i0 i1 i2 i3 i4 i5) 28 rfl ?_;intro V gi hE';replace hE :=Aside0.mk hE';clear hE') | ((with_reducible refine gate_load 28 ?_);refine wpList_ld hE.out rfl 0 rfl 28 _ rfl rfl (ld28 _ _ _ _ _ _ _) ?_) | (go_at_call 46;refine (decode_Check.calls 20 i0 i1 i2 i3 i4 i5 r _ hchk.out).mono ?_;rintro e V3 ⟨rfl,hb⟩;replace hE :=Aside0.mk (hE.out.under hb);clear hb))
 go_ret2
 exact ⟨rfl,hE.out.b⟩
theorem lHangs {W : World} {i0 i1 i2 i3 i4 i5 : Int} {s0 s1 : ByteArray} (hchk : decode_Check.f 20 i0 i1 i2 i3 i4 i5 = some 0) (h47 : ∀ V,Calls Tryz.prog 47 #[.agg (insC i0 i1 i2 i3 i4 i5)] V fun e V' => e = .returned (.agg (plC s0 s1)) ∧ Below V.heap.size V V') : Calls Tryz.prog 19 #[.agg (insC i0 i1 i2 i3 i4 i5)] W fun e V => e = .returned (.bool (!(s0.toList == s1.toList))) ∧ Below W.heap.size W V :=by
 have hE :=Aside0.mk (Env.nil W)
 replace hchk :=Aside0.mk hchk
 replace h47 :=Aside0.mk h47
 go_enter Tryz.func19,Tryz.ntmps19
 go_wp2_with (first | ((with_reducible refine gate_box 28 ?_);refine wpList_new hE.out rfl (insC i0 i1 i2 i3 i4 i5) 28 rfl ?_;intro V gi hE';replace hE :=Aside0.mk hE';clear hE') | ((with_reducible refine gate_load 28 ?_);refine wpList_ld hE.out rfl 0 rfl 28 _ rfl rfl (ld28 _ _ _ _ _ _ _) ?_) | (go_at_call 46;refine (decode_Check.calls 20 i0 i1 i2 i3 i4 i5 0 _ hchk.out).mono ?_;rintro e V3 ⟨rfl,hb⟩;replace hE :=Aside0.mk (hE.out.under hb);clear hb) | (go_at_call 47;refine (h47.out _).mono ?_;rintro e V3 ⟨rfl,hb⟩;replace hE :=Aside0.mk (hE.out.under hb);clear hb) | ((with_reducible refine gate_alloc 85 ?_);refine wpList_new hE.out rfl (plC ByteArray.empty ByteArray.empty) 85 (by kernel_rfl) ?_;intro V g hE';replace hE :=Aside0.mk hE';clear hE') | ((with_reducible refine gate_store 85 ?_);(refine wpList_st hE.out rfl 0 rfl 85 _ _ rfl _ rfl rfl rfl (by kernel_rfl) (plC_one _ _) ?_);intro V hE';(try dsimp only [List.set_cons_zero,List.set_cons_succ] at hE');replace hE :=Aside0.mk hE';clear hE') | ((with_reducible refine gate_load 9 ?_);refine wpList_ld9 hE.out rfl 0 rfl _ rfl _ _ rfl rfl ?_))
 go_ret
 exact ⟨rfl,hE.out.b⟩
theorem lTotal {W : World} {i0 i1 i2 i3 i4 i5 : Int} {more : Bool} {ds : List Int} (hOf : OfP (insC i0 i1 i2 i3 i4 i5) more W ds) (h9 : ds.length ≤ 900) (hd : ∀ x ∈ ds,0 ≤ x ∧ x ≤ 35) : Calls Tryz.prog 21 #[.agg (insC i0 i1 i2 i3 i4 i5),.bool more] W fun e V => e = .returned (.tuple #[.int .i64 ds.sum,.int .i64 0]) ∧ Below W.heap.size W V :=by
 have hE :=Aside0.mk (Env.nil W)
 replace hOf :=Aside0.mk hOf
 replace hd :=Aside0.mk hd
 replace h9 :=Aside0.mk h9
 obtain ⟨k,hk⟩ : ∃ k,k = ds.length :=⟨_,rfl⟩
 replace hk :=Aside0.mk hk
 go_enter Tryz.func21,Tryz.ntmps21
 go_wp2_with (first | ((with_reducible refine gate_box 28 ?_);refine wpList_new hE.out rfl (insC i0 i1 i2 i3 i4 i5) 28 rfl ?_;intro V gi hE';replace hE :=Aside0.mk hE';clear hE') | ((with_reducible refine gate_load 28 ?_);refine wpList_ld hE.out rfl 0 rfl 28 _ rfl rfl (ld28 _ _ _ _ _ _ _) ?_) | (go_at_call 17;refine (hOf.out _ hE.out.b).mono ?_;rintro e V3 ⟨A0,c0,rfl,hb,hc0,hC0⟩;replace hE :=Aside0.mk (hE.out.under hb);replace hC0 :=Aside0.mk hC0;replace hc0 :=Aside0.mk hc0;clear hb))
 go_loopg [19,8,10] k (fun kq v19 v8 v10 w' => ∃ (i : Nat),w' = V3 ∧ Aside0 (kq + i = ds.length) ∧ v8 = .int .i64 (ds.take i).sum ∧ v19 = .int .i64 (i : Int))
 case atStart => exact ⟨0,rfl,⟨by have :=hk.out;omega⟩,rfl,rfl⟩
 case round =>
  obtain ⟨i,rfl,hi,rfl,rfl⟩ :=hrel
  cases gk with
  | zero =>
   have hi' : i = ds.length :=by have :=hi.out;omega
   subst hi'
   have ht : ds.take ds.length = ds :=List.take_length
   rw [ht]
   clear ht
   go_wp2_with fail
   go_ret2
   exact ⟨rfl,hE.out.b⟩
  | succ k1 =>
   have hlt : i < ds.length :=by have :=hi.out;omega
   obtain ⟨ad,rfl,hcell⟩ :=C_cell (hC0.out _ (Below.refl _ _)) (by omega)
   replace hcell :=Aside0.mk hcell
   have e6 : wrap64 ((i : Int) + 1) = ((i + 1 : Nat) : Int) :=by rw [B.w64 (by omega) (by have :=h9.out;omega)];omega
   have htk : (ds.take (i + 1)).sum = (ds.take i).sum + rd ds (i : Int) :=by
    rw [List.take_add_one,List.sum_append]
    simp [rd,hlt]
   have e7 : wrap64 ((ds.take i).sum + rd ds (i : Int)) = (ds.take (i + 1)).sum :=by
    have h1 :=sum_rng (ds.take (i + 1)) fun x hx => hd.out x (List.mem_of_mem_take hx)
    have h2 : (ds.take (i + 1)).length ≤ 900 :=by have :=h9.out;rw [List.length_take];omega
    rw [← htk,B.w64 (by omega) (by omega)]
   clear htk
   go_wp2_with (((with_reducible refine gate_load 3 ?_);refine wpList_ldI rfl _ rfl rfl (hcell.out _ hlt) ?_))
   go_roundg k1
   case measure => omega
   case rel => exact ⟨i + 1,rfl,⟨by have :=hi.out;omega⟩,by rw [e7],by rw [e6]⟩
theorem lisG {W : World} {A B C : Option Addr} {b : List Int} {cb c2 c3 : Nat} {i0 i1 i2 i3 i4 i5 : Int} {ds0 ds1 : List Int} (hGb : ∀ V,Below W.heap.size W V → Kd.C (Kd.int .u8) V A b.length b) (hcb : b.length ≤ cb) (hbr : ∀ x ∈ b,0 ≤ x ∧ x < 256) (hv : refOf b = (⟨i0,i1,i2,i3,i4,i5⟩,0))
  (h17a : OfP (insC i0 i1 i2 i3 i4 i5) false W ds0) (h17b : OfP (insC i0 i1 i2 i3 i4 i5) true W ds1) (hB : ∀ V,Below W.heap.size W V → Kd.C (Kd.int .i64) V B ds0.length ds0) (hc2 : ds0.length ≤ c2) (hC : ∀ V,Below W.heap.size W V → Kd.C (Kd.int .i64) V C ds1.length ds1) (hc3 : ds1.length ≤ c3) (hi0 : pendulumkit_Ints.f 8 ds0 ds0 = some true) (hi1 : pendulumkit_Ints.f 8 ds1 ds1 = some true) :
  Calls Tryz.prog 35 #[.slice A b.length cb,.slice B ds0.length c2,.slice C ds1.length c3] W fun e V => e = .returned (.bool true) ∧ Below W.heap.size W V :=by
 have hE :=Aside0.mk (Env.nil W)
 replace hGb :=Aside0.mk hGb
 replace hcb :=Aside0.mk hcb
 replace hbr :=Aside0.mk hbr
 replace hv :=Aside0.mk hv
 replace h17a :=Aside0.mk h17a
 replace h17b :=Aside0.mk h17b
 replace hB :=Aside0.mk hB
 replace hc2 :=Aside0.mk hc2
 replace hC :=Aside0.mk hC
 replace hc3 :=Aside0.mk hc3
 replace hi0 :=Aside0.mk hi0
 replace hi1 :=Aside0.mk hi1
 go_enter Tryz.func35,Tryz.ntmps35
 go_upto_region 2 with (first | (go_at_call 11;refine (of_calls (fun V hb => hGb.out V (hE.out.b.trans (hb.mono hE.out.size))) hcb.out hbr.out).mono ?_;rintro e V2 ⟨rfl,hb⟩;rw [hv.out];replace hE :=Aside0.mk (hE.out.under hb);clear hb;dsimp only [ofV,Ins.vals]) | ((with_reducible refine gate_alloc 28 ?_);refine wpList_new hE.out rfl (insC 0 0 0 0 0 0) 28 (by kernel_rfl) ?_;intro V g hE';replace hE :=Aside0.mk hE';clear hE') | ((with_reducible refine gate_store 28 ?_);refine wpList_st hE.out rfl 0 rfl 28 _ _ rfl _ rfl rfl rfl (by kernel_rfl) (insC_one _ _ _ _ _ _) ?_;intro V hE';(try dsimp only [List.set_cons_zero,List.set_cons_succ] at hE');replace hE :=Aside0.mk hE';clear hE'))
 replace hE : Aside0 (Env W _ [(_,insC i0 i1 i2 i3 i4 i5)]) :=⟨hE.out⟩
 go_upto_region 3 with (first | ((with_reducible refine gate_load 28 ?_);refine wpList_ld hE.out rfl 0 rfl 28 _ rfl rfl (ld28 _ _ _ _ _ _ _) ?_) | (go_at_call 17;refine (h17a.out _ hE.out.b).mono ?_;rintro e V2 ⟨A0,c0,rfl,hb,hc0,hC0⟩;replace hE :=Aside0.mk (hE.out.under hb);replace hC0 :=Aside0.mk hC0;replace hc0 :=Aside0.mk hc0;clear hb))
 go_upto_region 4 with (first | ((with_reducible refine gate_load 28 ?_);refine wpList_ld hE.out rfl 0 rfl 28 _ rfl rfl (ld28 _ _ _ _ _ _ _) ?_) | (go_at_call 17;refine (h17b.out _ hE.out.b).mono ?_;rintro e V2 ⟨A1,c1,rfl,hb,hc1,hC1⟩;replace hE :=Aside0.mk (hE.out.under hb);have hq : ∀ V',Below V2.heap.size V2 V' → Kd.C (Kd.int .i64) V' A0 ds0.length ds0 :=fun V' h' => hC0.out V' (hb.trans (h'.mono hb.size));replace hC0 :=Aside0.mk hq;clear hq;replace hC1 :=Aside0.mk hC1;replace hc1 :=Aside0.mk hc1;clear hb))
 go_wp2_with (first | (go_at_call 20;(try refine gate_guard (by rfl) ?_);refine (pendulumkit_Ints.calls 8 A0 c0 ds0 B c2 ds0 true _ (hC0.out _ (Below.refl _ _)) hc0.out (hB.out _ hE.out.b) hc2.out hi0.out).mono ?_;rintro e V3 ⟨rfl,hd5⟩;have hb :=d0_below hd5;replace hE :=Aside0.mk (hE.out.under hb);have hq : ∀ V',Below V3.heap.size V3 V' → Kd.C (Kd.int .i64) V' A1 ds1.length ds1 :=fun V' h' => hC1.out V' (hb.trans (h'.mono hb.size));replace hC1 :=Aside0.mk hq;clear hq;clear hd5 hb hC0) | (go_at_call 20;(try refine gate_guard (by rfl) ?_);refine (pendulumkit_Ints.calls 8 A1 c1 ds1 C c3 ds1 true _ (hC1.out _ (Below.refl _ _)) hc1.out (hC.out _ hE.out.b) hc3.out hi1.out).mono ?_;rintro e V3 ⟨rfl,hd5⟩;have hb :=d0_below hd5;replace hE :=Aside0.mk (hE.out.under hb);clear hd5 hb hC1))
 go_ret
 exact ⟨rfl,hE.out.b⟩
theorem op201 {W : World} : OfP (insC (0) (0) (201) (0) (0) (1)) false W [4,3,3] :=fun V _ => (lOf0 (by decide +kernel) (fun V => lof201) rfl (by decide) (by decide +kernel)).mono fun _ _ h => h
theorem op176 {W : World} : OfP (insC (2) (0) (176) (0) (0) (2)) false W [4,4,3,5] :=fun V _ => (lOf0 (by decide +kernel) (fun V => lof176) rfl (by decide) (by decide +kernel)).mono fun _ _ h => h
theorem op176m {W : World} : OfP (insC (2) (0) (176) (0) (0) (2)) true W [4,4,3,10] :=fun V _ => (lOfL1 (by decide +kernel) (fun V => lof176) rfl (by decide) (by decide +kernel)).mono fun _ _ h => h
theorem op205 {W : World} : OfP (insC (0) (0) (205) (0) (4096) (3)) false W [4,3,4,3,3] :=fun V _ => (lOf0 (by decide +kernel) (fun V => lof205) rfl (by decide) (by decide +kernel)).mono fun _ _ h => h
theorem op205m {W : World} : OfP (insC (0) (0) (205) (0) (4096) (3)) true W [4,3,4,3,3] :=fun V _ => (lOf1 (by decide +kernel) (fun V => lof205) rfl (by decide) (by decide +kernel)).mono fun _ _ h => h
theorem rf176 : refOf [237,176] = (⟨2,0,176,0,0,2⟩,0) :=by kernel_rfl
theorem rf205 : refOf [205,0,16] = (⟨0,0,205,0,4096,3⟩,0) :=by kernel_rfl
theorem lLengthNames {W : World} (ht : Table W) : Calls Tryz.prog 9 #[] W fun e V => e = .returned (.bool true) ∧ Below W.heap.size W V :=by
 have hE :=Aside0.mk (Env.nil W)
 have ht :=Aside0.mk ht
 have g1 : True :=trivial
 have g2 : True :=trivial
 go_enter Tryz.func9,Tryz.ntmps9
 go_upto_region 2 with (first | ((with_reducible refine gate_dst (N :=6) rfl ?_);(try refine gate_guard (by rfl) ?_);refine wpList_bld24 rfl rfl (.agg (insC (0) (0) (0) (0) (0) (0))) (by kernel_rfl) ?_) | (go_at_call 17;refine (lOfBad (by decide) (by decide +kernel : decode_Check.f 20 0 0 0 0 0 0 = some 2)).mono ?_;rintro e V3 ⟨rfl,hb⟩;replace hE :=Aside0.mk (hE.out.under hb);clear hb))
 go_upto_region 3 with (first | ((with_reducible refine gate_dst (N :=11) rfl ?_);(try refine gate_guard (by rfl) ?_);refine wpList_bld24 rfl rfl (.agg (insC (0) (0) (201) (0) (0) (1))) (by kernel_rfl) ?_) | (go_at_call 21;refine (lTotal op201 (by decide) (by decide)).mono ?_;rintro e V3 ⟨rfl,hb⟩;replace hE :=Aside0.mk (hE.out.under hb);clear hb))
 go_wp2_with (first | (go_at_call 10;refine (llives12 (env_tab hE.out ht.out)).mono ?_;rintro e V2 ⟨rfl,hb⟩;replace hE :=Aside0.mk (hE.out.under hb);clear hb) | ((with_reducible refine gate_dst (N :=18) rfl ?_);(try refine gate_guard (by rfl) ?_);refine wpList_val' rfl (.bool true) (by kernel_rfl) ?_) | ((with_reducible refine gate_dst (N :=22) rfl ?_);(try refine gate_guard (by rfl) ?_);refine wpList_val' rfl (.bool true) (by kernel_rfl) ?_) | ((with_reducible refine gate_dst (N :=26) rfl ?_);(try refine gate_guard (by rfl) ?_);refine wpList_val' rfl (.bool true) (by kernel_rfl) ?_) | ((with_reducible refine gate_dst (N :=29) rfl ?_);(try refine gate_guard (by rfl) ?_);refine wpList_bsl hE.out rfl (bytesC [237,176]) 5 2 (by kernel_rfl) ?_;intro V g29 hE';replace hE :=Aside0.mk hE';clear hE') | ((with_reducible refine gate_dst (N :=30) rfl ?_);(try refine gate_guard (by rfl) ?_);refine wpList_bsl hE.out rfl (intsC [4,4,3,5]) 3 4 (by kernel_rfl) ?_;intro V g30 hE';replace hE :=Aside0.mk hE';clear hE') | ((with_reducible refine gate_dst (N :=31) rfl ?_);(try refine gate_guard (by rfl) ?_);refine wpList_bsl hE.out rfl (intsC [4,4,3,10]) 3 4 (by kernel_rfl) ?_;intro V g31 hE';replace hE :=Aside0.mk hE';clear hE') | ((with_reducible refine gate_dst (N :=35) rfl ?_);(try refine gate_guard (by rfl) ?_);refine wpList_bsl hE.out rfl (bytesC [205,0,16]) 5 3 (by kernel_rfl) ?_;intro V g35 hE';replace hE :=Aside0.mk hE';clear hE') | ((with_reducible refine gate_dst (N :=36) rfl ?_);(try refine gate_guard (by rfl) ?_);refine wpList_bsl hE.out rfl (intsC [4,3,4,3,3]) 3 5 (by kernel_rfl) ?_;intro V g36 hE';replace hE :=Aside0.mk hE';clear hE') | ((with_reducible refine gate_dst (N :=37) rfl ?_);(try refine gate_guard (by rfl) ?_);refine wpList_bsl hE.out rfl (intsC [4,3,4,3,3]) 3 5 (by kernel_rfl) ?_;intro V g37 hE';replace hE :=Aside0.mk hE';clear hE') | ((with_reducible refine gate_dst (N :=41) rfl ?_);(try refine gate_guard (by rfl) ?_);refine wpList_bld24 rfl rfl (.agg (insC (0) (0) (16) (0) (0) (2))) (by kernel_rfl) ?_) | (go_at_call 35;(try refine gate_guard (by rfl) ?_);have h9 :=g1;refine (lisG (b :=[237,176]) (cb :=2) (c2 :=4) (c3 :=4) (ds0 :=[4,4,3,5]) (ds1 :=[4,4,3,10]) (fun V' hb' => blk_bytes ((hE.out.under hb').at_ 2 _ _ rfl).2 (by decide)) (by decide) (by decide +kernel) rf176 op176 op176m (fun V' hb' => blk_ints ((hE.out.under hb').at_ 1 _ _ rfl).2 (by decide)) (by decide) (fun V' hb' => blk_ints ((hE.out.under hb').at_ 0 _ _ rfl).2 (by decide)) (by decide) (by decide +kernel) (by decide +kernel)).mono ?_;rintro e V2 ⟨rfl,hb⟩;replace hE :=Aside0.mk (hE.out.under hb);clear hb h9 g1) | (go_at_call 35;(try refine gate_guard (by rfl) ?_);have h9 :=g2;refine (lisG (b :=[205,0,16]) (cb :=3) (c2 :=5) (c3 :=5) (ds0 :=[4,3,4,3,3]) (ds1 :=[4,3,4,3,3]) (fun V' hb' => blk_bytes ((hE.out.under hb').at_ 2 _ _ rfl).2 (by decide)) (by decide) (by decide +kernel) rf205 op205 op205m (fun V' hb' => blk_ints ((hE.out.under hb').at_ 1 _ _ rfl).2 (by decide)) (by decide) (fun V' hb' => blk_ints ((hE.out.under hb').at_ 0 _ _ rfl).2 (by decide)) (by decide) (by decide +kernel) (by decide +kernel)).mono ?_;rintro e V2 ⟨rfl,hb⟩;replace hE :=Aside0.mk (hE.out.under hb);clear hb h9 g2) | (go_at_call 19;(try refine gate_guard (by rfl) ?_);refine (lHangs (by decide +kernel) (fun V => lof16b)).mono ?_;rintro e V3 ⟨rfl,hb⟩;replace hE :=Aside0.mk (hE.out.under hb);clear hb))
 go_ret
 exact ⟨rfl,hE.out.b⟩
end Go.Proofs.YtnelghpendfdmaaGreatDoor.KRow
