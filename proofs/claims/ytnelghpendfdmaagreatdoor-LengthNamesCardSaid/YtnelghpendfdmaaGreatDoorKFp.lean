/-
 PROVED: pendulumlaw12.is, lives and FlatNil.
-/
import Derived.Test.YtnelghpendfdmaaGreatDoorKFq
namespace Go.Proofs.YtnelghpendfdmaaGreatDoor.KRow
set_option maxRecDepth 100000
set_option maxHeartbeats 16000000
open Go Go.RowKit Go.Proofs.YtnelghpendfdmaaGreatDoorW.PrintWords Go.Proofs.YtnelghpendfdmaaGreatDoorW.PrintLast Go.Proofs.YtnelghpendfdmaaGreatDoorW.PrintMore
open Go.Proofs.YtnelghpendfdmaaGreatDoor.HFun
set_option linter.unusedVariables false
set_option linter.unusedSimpArgs false
theorem lis {W : World} {A B C : Option Addr} {b : List Int} {cb c2 c3 : Nat} {i0 i1 i2 i3 i4 i5 : Int} {s0 s1 : ByteArray} {ds0 ds1 : List Int} (hGb : ∀ V,Below W.heap.size W V → Kd.C (Kd.int .u8) V A b.length b) (hcb : b.length ≤ cb) (hbr : ∀ x ∈ b,0 ≤ x ∧ x < 256) (hv : refOf b = (⟨i0,i1,i2,i3,i4,i5⟩,0))
  (hchk : decode_Check.f 20 i0 i1 i2 i3 i4 i5 = some 0) (h47 : ∀ V,Calls Tryz.prog 47 #[.agg (insC i0 i1 i2 i3 i4 i5)] V fun e V' => e = .returned (.agg (plC s0 s1)) ∧ Below V.heap.size V V')
  (hn0 : ds0.length = s0.size) (hm0 : ds0.length ≤ 7) (hd0 : ∀ j : Nat,j < ds0.length → ((s0.data.toList.getD j 0).toNat : Int) = 48 + rd ds0 (j : Int) ∧ 0 ≤ rd ds0 (j : Int) ∧ rd ds0 (j : Int) ≤ 9)
  (hn1 : ds1.length = s1.size) (hm1 : ds1.length ≤ 7) (hd1 : ∀ j : Nat,j < ds1.length → ((s1.data.toList.getD j 0).toNat : Int) = 48 + rd ds1 (j : Int) ∧ 0 ≤ rd ds1 (j : Int) ∧ rd ds1 (j : Int) ≤ 9)
  (hB : ∀ V,Below W.heap.size W V → Kd.C (Kd.int .i64) V B ds0.length ds0) (hc2 : ds0.length ≤ c2) (hC : ∀ V,Below W.heap.size W V → Kd.C (Kd.int .i64) V C ds1.length ds1) (hc3 : ds1.length ≤ c3) (hi0 : pendulumkit_Ints.f 8 ds0 ds0 = some true) (hi1 : pendulumkit_Ints.f 8 ds1 ds1 = some true) :
  Calls Tryz.prog 35 #[.slice A b.length cb,.slice B ds0.length c2,.slice C ds1.length c3] W fun e V => e = .returned (.bool true) ∧ Below W.heap.size W V :=by
 have hE :=Aside0.mk (Env.nil W)
 replace hGb :=Aside0.mk hGb
 replace hcb :=Aside0.mk hcb
 replace hbr :=Aside0.mk hbr
 replace hv :=Aside0.mk hv
 replace hchk :=Aside0.mk hchk
 replace h47 :=Aside0.mk h47
 replace hn0 :=Aside0.mk hn0
 replace hm0 :=Aside0.mk hm0
 replace hd0 :=Aside0.mk hd0
 replace hn1 :=Aside0.mk hn1
 replace hm1 :=Aside0.mk hm1
 replace hd1 :=Aside0.mk hd1
 replace hB :=Aside0.mk hB
 replace hc2 :=Aside0.mk hc2
 replace hC :=Aside0.mk hC
 replace hc3 :=Aside0.mk hc3
 replace hi0 :=Aside0.mk hi0
 replace hi1 :=Aside0.mk hi1
 go_enter Tryz.func35,Tryz.ntmps35
 go_upto_region 2 with (first | (go_at_call 11;refine (of_calls (fun V hb => hGb.out V (hE.out.b.trans (hb.mono hE.out.size))) hcb.out hbr.out).mono ?_;rintro e V2 ⟨rfl,hb⟩;rw [hv.out];replace hE :=Aside0.mk (hE.out.under hb);clear hb;dsimp only [ofV,Ins.vals]) | ((with_reducible refine gate_alloc 28 ?_);refine wpList_new hE.out rfl (insC 0 0 0 0 0 0) 28 (by kernel_rfl) ?_;intro V g hE';replace hE :=Aside0.mk hE';clear hE') | ((with_reducible refine gate_store 28 ?_);refine wpList_st hE.out rfl 0 rfl 28 _ _ rfl _ rfl rfl rfl (by kernel_rfl) (insC_one _ _ _ _ _ _) ?_;intro V hE';(try dsimp only [List.set_cons_zero,List.set_cons_succ] at hE');replace hE :=Aside0.mk hE';clear hE'))
 replace hE : Aside0 (Env W _ [(_,insC i0 i1 i2 i3 i4 i5)]) :=⟨hE.out⟩
 go_upto_region 3 with (first | ((with_reducible refine gate_load 28 ?_);refine wpList_ld hE.out rfl 0 rfl 28 _ rfl rfl (ld28 _ _ _ _ _ _ _) ?_) | (go_at_call 17;refine (lOf0 hchk.out h47.out hn0.out (by have :=hm0.out;omega) hd0.out).mono ?_;rintro e V2 ⟨A0,c0,rfl,hb,hc0,hC0⟩;replace hE :=Aside0.mk (hE.out.under hb);replace hC0 :=Aside0.mk hC0;replace hc0 :=Aside0.mk hc0;clear hb))
 go_upto_region 4 with (first | ((with_reducible refine gate_load 28 ?_);refine wpList_ld hE.out rfl 0 rfl 28 _ rfl rfl (ld28 _ _ _ _ _ _ _) ?_) | (go_at_call 17;refine (lOf1 hchk.out h47.out hn1.out (by have :=hm1.out;omega) hd1.out).mono ?_;rintro e V2 ⟨A1,c1,rfl,hb,hc1,hC1⟩;replace hE :=Aside0.mk (hE.out.under hb);have hq : ∀ V',Below V2.heap.size V2 V' → Kd.C (Kd.int .i64) V' A0 ds0.length ds0 :=fun V' h' => hC0.out V' (hb.trans (h'.mono hb.size));replace hC0 :=Aside0.mk hq;clear hq;replace hC1 :=Aside0.mk hC1;replace hc1 :=Aside0.mk hc1;clear hb))
 go_wp2_with (first | (go_at_call 20;(try refine gate_guard (by rfl) ?_);refine (pendulumkit_Ints.calls 8 A0 c0 ds0 B c2 ds0 true _ (hC0.out _ (Below.refl _ _)) hc0.out (hB.out _ hE.out.b) hc2.out hi0.out).mono ?_;rintro e V3 ⟨rfl,hd5⟩;have hb :=d0_below hd5;replace hE :=Aside0.mk (hE.out.under hb);have hq : ∀ V',Below V3.heap.size V3 V' → Kd.C (Kd.int .i64) V' A1 ds1.length ds1 :=fun V' h' => hC1.out V' (hb.trans (h'.mono hb.size));replace hC1 :=Aside0.mk hq;clear hq;clear hd5 hb hC0) | (go_at_call 20;(try refine gate_guard (by rfl) ?_);refine (pendulumkit_Ints.calls 8 A1 c1 ds1 C c3 ds1 true _ (hC1.out _ (Below.refl _ _)) hc1.out (hC.out _ hE.out.b) hc3.out hi1.out).mono ?_;rintro e V3 ⟨rfl,hd5⟩;have hb :=d0_below hd5;replace hE :=Aside0.mk (hE.out.under hb);clear hd5 hb hC1))
 go_ret
 exact ⟨rfl,hE.out.b⟩
theorem wpList_bslF {w0 V : World} {bs : List (Nat × Array Value)} {gF : Nat} {ρ : Rg} {m : Nat → Int} {ops : Array Oper} {rest : List Oper} {op : Oper} {a : Act} {Q : Exit → Act → World → Prop} (h : Env w0 V bs) (hF : FlatB V gF ρ m) (hgd : op.guard = none) (cs : Array Value) (ty : TypeId) (n : Nat) (hb : (execOp a.eval op).run Tryz.prog V = .ok (.value (.slice (some ⟨V.heap.size,0,none⟩) n n)) (V.alloc (.cells cs ty)))
  (k : ∀ V' g,Env w0 V' ((g,cs) :: bs) → FlatB V' gF ρ m → wpList Tryz.prog ops Q rest (a.put op.dst (.slice (some ⟨g,0,none⟩) n n)) V') : wpList Tryz.prog ops Q (op :: rest) a V :=by
 refine wpList_plain hgd fun _ hK => ?_
 unfold Oper.wp
 simp only [hb]
 exact hK _ _ (k _ _ (h.push cs ty) (hF.under (below_alloc (Below.refl _ _) _)))
def intsC (l : List Int) : Array Value :=(l.map (Value.int .i64)).toArray
theorem blk_ints {V : World} {g : Nat} {l : List Int} (h : BlkAt V g (intsC l)) (hm : l.length ≤ 9223372036854775807) : Kd.C (Kd.int .i64) V (some ⟨g,0,none⟩) l.length l :=by
 refine ⟨rfl,hm,fun _ => ⟨⟨g,0,none⟩,rfl,fun j p hp => ⟨[.int .i64 p],rfl,rfl,fun i u hu => ?_⟩⟩⟩
 have hi : i = 0 :=by
  cases i with
  | zero => rfl
  | succ i => simp at hu
 subst hi
 have hu : Value.int .i64 p = u :=by simpa using hu
 subst hu
 have :=h.cell j (.int .i64 p) (by simp [intsC,hp])
 show V.cell? ((⟨g,0,none⟩ : Addr).add (j * 1 + 0)) = _
 rw [Nat.mul_one,Nat.add_zero]
 have hz : (⟨g,0,none⟩ : Addr).add j = ⟨g,j,none⟩ :=by
  by_cases h0 : j = 0
  ·subst h0;rfl
  ·simp [Addr.add];omega
 rw [hz]
 exact this
theorem Env.apart {w0 V : World} {bs : List (Nat × Array Value)} (h : Env w0 V bs) {gF : Nat} (hg : V.heap.size ≤ gF) : ∀ (j g : Nat) (cs : Array Value),bs[j]? = some (g,cs) → g ≠ gF :=fun j g cs hj he => by
 have :=h.lt hj
 omega
theorem wrUp_rng {b : List Int} (hb : ∀ x ∈ b,0 ≤ x ∧ x < 256) (a : Int) : ∀ (n : Nat),n ≤ b.length → ∀ k,0 ≤ wrUp a b n k ∧ wrUp a b n k < 256
 | 0,_,k => by unfold wrUp;decide
 | n + 1,h,k => by
  unfold wrUp wrM
  split
  ·exact rd_rng hb (by omega)
  ·exact wrUp_rng hb a n (by omega) k
def lvB : List Int :=[62,5,211,254]
def lvR : Rg :={ resetR with a :=5,pc :=2,r :=1 }
theorem lvH : frow (nx resetR (wrUp 0 lvB lvB.length (IntKind.u16.wrap (resetR.pc + 1)).toNat)) (wrUp 0 lvB lvB.length) 3 [] [] = some ([⟨1,0,0,4⟩,⟨2,1,0,3⟩],lvR) :=by kernel_rfl
theorem lv16 : refOf [16,254] = (⟨0,0,16,0,-2,2⟩,0) :=by kernel_rfl
theorem lv52 : refOf [221,52,1] = (⟨0,1,52,1,0,3⟩,0) :=by kernel_rfl
theorem llives12 {W : World} (ht : Table W) : Calls Tryz.prog 10 #[] W fun e V => e = .returned (.bool true) ∧ Below W.heap.size W V :=by
 have hE :=Aside0.mk (Env.nil W)
 have ht :=Aside0.mk ht
 have g1 : True :=trivial
 have g2 : True :=trivial
 go_enter Tryz.func10,Tryz.ntmps10
 go_upto_region 2 with (first | (go_at_call 26;refine (lreset _).mono ?_;rintro e V2 ⟨rfl,hb⟩;replace hE :=Aside0.mk (hE.out.under hb);clear hb) | ((with_reducible refine gate_bsl 25 ?_);refine wpList_bsl hE.out rfl (bytesC lvB) 5 4 (by kernel_rfl) ?_;intro V g hE';replace hE :=Aside0.mk hE';clear hE') | (go_at_call 13;refine (lnew (b :=lvB) (cp :=4) (ρ :=resetR) (a :=0) (fun V' hb' => blk_bytes ((hE.out.under hb').at_ 0 _ _ rfl).2 (by decide)) (by decide) (by decide) (by decide) (by decide) (by decide) (by decide)).mono ?_;rintro e V2 ⟨gF,rfl,hb,hgF,hF0⟩;have hne :=Aside0.mk (hE.out.apart hgF);have hle :=Aside0.mk (Nat.le_trans hE.out.size hgF);have hF :=Aside0.mk hF0;replace hE :=Aside0.mk (hE.out.under hb);clear hb hgF hF0))
 go_upto_region 5 with (((go_at_call 16;refine (lstep12 hF.out (wrUp_rng (by decide) 0 lvB.length (Nat.le_refl _)) (env_tab hE.out ht.out) (by decide) (by decide) (by decide) (by decide) (k :=3) (by decide) lvH).mono ?_;rintro e V2 ⟨Aq,cq,rfl,hkp,hF2⟩;replace hE :=Aside0.mk (hE.out.kpf hkp hle.out hne.out);replace hF :=Aside0.mk hF2;clear hF2 hkp;dsimp only [List.length_cons,List.length_nil])))
 go_wp2_with (first | (go_at_call 23;(try refine gate_guard (by rfl) ?_);refine (lregs hF.out).mono ?_;rintro e V2 ⟨rfl,hb⟩;replace hE :=Aside0.mk (hE.out.under hb);replace hF :=Aside0.mk (hF.out.under hb);clear hb) | ((with_reducible refine gate_dst (N :=31) rfl ?_);(try refine gate_guard (by rfl) ?_);refine wpList_val' rfl (.int .u8 5) (by kernel_rfl) ?_) | ((with_reducible refine gate_dst (N :=37) rfl ?_);(try refine gate_guard (by rfl) ?_);refine wpList_val' rfl (.int .u16 2) (by kernel_rfl) ?_) | ((with_reducible refine gate_dst (N :=41) rfl ?_);(try refine gate_guard (by rfl) ?_);refine wpList_bslF hE.out hF.out rfl (bytesC [16,254]) 5 2 (by kernel_rfl) ?_;intro V g41 hE' hF';replace hE :=Aside0.mk hE';replace hF :=Aside0.mk hF';clear hE' hF') | ((with_reducible refine gate_dst (N :=42) rfl ?_);(try refine gate_guard (by rfl) ?_);refine wpList_bslF hE.out hF.out rfl (intsC [5,3]) 3 2 (by kernel_rfl) ?_;intro V g42 hE' hF';replace hE :=Aside0.mk hE';replace hF :=Aside0.mk hF';clear hE' hF') | ((with_reducible refine gate_dst (N :=43) rfl ?_);(try refine gate_guard (by rfl) ?_);refine wpList_bslF hE.out hF.out rfl (intsC [5,8]) 3 2 (by kernel_rfl) ?_;intro V g43 hE' hF';replace hE :=Aside0.mk hE';replace hF :=Aside0.mk hF';clear hE' hF') | ((with_reducible refine gate_dst (N :=47) rfl ?_);(try refine gate_guard (by rfl) ?_);refine wpList_bslF hE.out hF.out rfl (bytesC [221,52,1]) 5 3 (by kernel_rfl) ?_;intro V g47 hE' hF';replace hE :=Aside0.mk hE';replace hF :=Aside0.mk hF';clear hE' hF') | ((with_reducible refine gate_dst (N :=48) rfl ?_);(try refine gate_guard (by rfl) ?_);refine wpList_bslF hE.out hF.out rfl (intsC [4,4,8,4,3]) 3 5 (by kernel_rfl) ?_;intro V g48 hE' hF';replace hE :=Aside0.mk hE';replace hF :=Aside0.mk hF';clear hE' hF') | ((with_reducible refine gate_dst (N :=49) rfl ?_);(try refine gate_guard (by rfl) ?_);refine wpList_bslF hE.out hF.out rfl (intsC [4,4,8,4,3]) 3 5 (by kernel_rfl) ?_;intro V g49 hE' hF';replace hE :=Aside0.mk hE';replace hF :=Aside0.mk hF';clear hE' hF') | (go_at_call 35;(try refine gate_guard (by rfl) ?_);have h9 :=g1;refine (lis (b :=[16,254]) (cb :=2) (c2 :=2) (c3 :=2) (s0 :=(ByteArray.mk #[53,51])) (s1 :=(ByteArray.mk #[53,56])) (ds0 :=[5,3]) (ds1 :=[5,8]) (fun V' hb' => blk_bytes ((hE.out.under hb').at_ 2 _ _ rfl).2 (by decide)) (by decide) (by decide +kernel) lv16 (by decide +kernel) (fun V => lof16) rfl (by decide) (by decide +kernel) rfl (by decide) (by decide +kernel) (fun V' hb' => blk_ints ((hE.out.under hb').at_ 1 _ _ rfl).2 (by decide)) (by decide) (fun V' hb' => blk_ints ((hE.out.under hb').at_ 0 _ _ rfl).2 (by decide)) (by decide) (by decide +kernel) (by decide +kernel)).mono ?_;rintro e V2 ⟨rfl,hb⟩;replace hE :=Aside0.mk (hE.out.under hb);replace hF :=Aside0.mk (hF.out.under hb);clear hb h9 g1) | (go_at_call 35;(try refine gate_guard (by rfl) ?_);have h9 :=g2;refine (lis (b :=[221,52,1]) (cb :=3) (c2 :=5) (c3 :=5) (s0 :=(ByteArray.mk #[52,52,56,52,51])) (s1 :=(ByteArray.mk #[52,52,56,52,51])) (ds0 :=[4,4,8,4,3]) (ds1 :=[4,4,8,4,3]) (fun V' hb' => blk_bytes ((hE.out.under hb').at_ 2 _ _ rfl).2 (by decide)) (by decide) (by decide +kernel) lv52 (by decide +kernel) (fun V => lof52) rfl (by decide) (by decide +kernel) rfl (by decide) (by decide +kernel) (fun V' hb' => blk_ints ((hE.out.under hb').at_ 1 _ _ rfl).2 (by decide)) (by decide) (fun V' hb' => blk_ints ((hE.out.under hb').at_ 0 _ _ rfl).2 (by decide)) (by decide) (by decide +kernel) (by decide +kernel)).mono ?_;rintro e V2 ⟨rfl,hb⟩;replace hE :=Aside0.mk (hE.out.under hb);replace hF :=Aside0.mk (hF.out.under hb);clear hb h9 g2))
 go_ret
 exact ⟨rfl,hE.out.b⟩
end Go.Proofs.YtnelghpendfdmaaGreatDoor.KRow
