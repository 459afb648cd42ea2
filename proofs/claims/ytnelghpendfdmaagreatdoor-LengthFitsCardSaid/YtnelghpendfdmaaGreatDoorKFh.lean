/-
 PROVED: pendulumlaw12.is, lives and FlatNil.
-/
import Derived.Test.YtnelghpendfdmaaGreatDoorKFg
import Derived.Test.YtnelghpendfdmaaGreatDoorKFq
import Derived.Test.YtnelghpendfdmaaGreatDoorKDe
namespace Go.Proofs.YtnelghpendfdmaaGreatDoor.KRow
set_option maxRecDepth 100000
set_option maxHeartbeats 16000000
open Go Go.RowKit Go.Proofs.YtnelghpendfdmaaGreatDoorW.PrintWords Go.Proofs.YtnelghpendfdmaaGreatDoorW.PrintLast Go.Proofs.YtnelghpendfdmaaGreatDoorW.PrintMore
open Go.Proofs.YtnelghpendfdmaaGreatDoor.HFun
set_option linter.unusedVariables false
set_option linter.unusedSimpArgs false
theorem lis {W : World} {A B C : Option Addr} {b : List Int} {cb c2 c3 : Nat} {i0 i1 i2 i3 i4 i5 : Int} {s0 s1 : ByteArray} {ds0 ds1 : List Int} (hGb : ∀ V,Below W.heap.size W V → Kd.C (Kd.int .u8) V A b.length b) (hcb : b.length ≤ cb) (hbr : ∀ x ∈ b,0 ≤ x ∧ x < 256) (hv : refOf b = (⟨i0,i1,i2,i3,i4,i5⟩,0))
  (hchk : yci.f 20 i0 i1 i2 i3 i4 i5 = some 0) (h47 : ∀ V,Calls Tryz.prog 47 #[.agg (insC i0 i1 i2 i3 i4 i5)] V fun e V' => e = .returned (.agg (plC s0 s1)) ∧ Below V.heap.size V V')
  (hn0 : ds0.length = s0.size) (hm0 : ds0.length ≤ 7) (hd0 : ∀ j : Nat,j < ds0.length → ((s0.data.toList.getD j 0).toNat : Int) = 48 + rd ds0 (j : Int) ∧ 0 ≤ rd ds0 (j : Int) ∧ rd ds0 (j : Int) ≤ 9)
  (hn1 : ds1.length = s1.size) (hm1 : ds1.length ≤ 7) (hd1 : ∀ j : Nat,j < ds1.length → ((s1.data.toList.getD j 0).toNat : Int) = 48 + rd ds1 (j : Int) ∧ 0 ≤ rd ds1 (j : Int) ∧ rd ds1 (j : Int) ≤ 9)
  (hB : ∀ V,Below W.heap.size W V → Kd.C (Kd.int .i64) V B ds0.length ds0) (hc2 : ds0.length ≤ c2) (hC : ∀ V,Below W.heap.size W V → Kd.C (Kd.int .i64) V C ds1.length ds1) (hc3 : ds1.length ≤ c3) (hi0 : ycr.f 8 ds0 ds0 = some true) (hi1 : ycr.f 8 ds1 ds1 = some true) :
  Calls Tryz.prog 35 #[.slice A b.length cb,.slice B ds0.length c2,.slice C ds1.length c3] W fun e V => e = .returned (.bool true) ∧ Below W.heap.size W V :=by
 have hE :=Aside0.mk (Env.nil W)
 replace hGb :=Aside0.mk hGb
 replace hcb :=Aside0.mk hcb
 replace hbr :=Aside0.mk hbr
 replace hv :=Aside0.mk hv
 replace hchk :=Aside0.mk hchk
 replace h47 :=Aside0.mk h47
 replace hn0 :=Aside0.mk hn0
 replace hm0 :=Aside0.mk hm0
 replace hd0 :=Aside0.mk hd0
 replace hn1 :=Aside0.mk hn1
 replace hm1 :=Aside0.mk hm1
 replace hd1 :=Aside0.mk hd1
 replace hB :=Aside0.mk hB
 replace hc2 :=Aside0.mk hc2
 replace hC :=Aside0.mk hC
 replace hc3 :=Aside0.mk hc3
 replace hi0 :=Aside0.mk hi0
 replace hi1 :=Aside0.mk hi1
 go_enter Tryz.func35,Tryz.ntmps35
 go_upto_region 2 with (first | (go_at_call 11;refine (of_calls (fun V hb => hGb.out V (hE.out.b.trans (hb.mono hE.out.size))) hcb.out hbr.out).mono ?_;rintro e V2 ⟨rfl,hb⟩;rw [hv.out];replace hE :=Aside0.mk (hE.out.under hb);clear hb;dsimp only [ofV,Ins.vals]) | ((with_reducible refine gate_alloc 28 ?_);refine zab hE.out rfl (insC 0 0 0 0 0 0) 28 (by kernel_rfl) ?_;intro V g hE';replace hE :=Aside0.mk hE';clear hE') | ((with_reducible refine gate_store 28 ?_);refine zac hE.out rfl 0 rfl 28 _ _ rfl _ rfl rfl rfl (by kernel_rfl) (zbc _ _ _ _ _ _) ?_;intro V hE';(try dsimp only [List.set_cons_zero,List.set_cons_succ] at hE');replace hE :=Aside0.mk hE';clear hE'))
 replace hE : Aside0 (Env W _ [(_,insC i0 i1 i2 i3 i4 i5)]) :=⟨hE.out⟩
 go_upto_region 3 with (first | ((with_reducible refine gate_load 28 ?_);refine zaf hE.out rfl 0 rfl 28 _ rfl rfl (ld28 _ _ _ _ _ _ _) ?_) | (go_at_call 17;refine (lOf0 hchk.out h47.out hn0.out (by have :=hm0.out;omega) hd0.out).mono ?_;rintro e V2 ⟨A0,c0,rfl,hb,hc0,hC0⟩;replace hE :=Aside0.mk (hE.out.under hb);replace hC0 :=Aside0.mk hC0;replace hc0 :=Aside0.mk hc0;clear hb))
 go_upto_region 4 with (first | ((with_reducible refine gate_load 28 ?_);refine zaf hE.out rfl 0 rfl 28 _ rfl rfl (ld28 _ _ _ _ _ _ _) ?_) | (go_at_call 17;refine (lOf1 hchk.out h47.out hn1.out (by have :=hm1.out;omega) hd1.out).mono ?_;rintro e V2 ⟨A1,c1,rfl,hb,hc1,hC1⟩;replace hE :=Aside0.mk (hE.out.under hb);have hq : ∀ V',Below V2.heap.size V2 V' → Kd.C (Kd.int .i64) V' A0 ds0.length ds0 :=fun V' h' => hC0.out V' (hb.trans (h'.mono hb.size));replace hC0 :=Aside0.mk hq;clear hq;replace hC1 :=Aside0.mk hC1;replace hc1 :=Aside0.mk hc1;clear hb))
 go_wp2_with (first | (go_at_call 20;(try refine gate_guard (by rfl) ?_);refine (ycr.calls 8 A0 c0 ds0 B c2 ds0 true _ (hC0.out _ (Below.refl _ _)) hc0.out (hB.out _ hE.out.b) hc2.out hi0.out).mono ?_;rintro e V3 ⟨rfl,hd5⟩;have hb :=zai hd5;replace hE :=Aside0.mk (hE.out.under hb);have hq : ∀ V',Below V3.heap.size V3 V' → Kd.C (Kd.int .i64) V' A1 ds1.length ds1 :=fun V' h' => hC1.out V' (hb.trans (h'.mono hb.size));replace hC1 :=Aside0.mk hq;clear hq;clear hd5 hb hC0) | (go_at_call 20;(try refine gate_guard (by rfl) ?_);refine (ycr.calls 8 A1 c1 ds1 C c3 ds1 true _ (hC1.out _ (Below.refl _ _)) hc1.out (hC.out _ hE.out.b) hc3.out hi1.out).mono ?_;rintro e V3 ⟨rfl,hd5⟩;have hb :=zai hd5;replace hE :=Aside0.mk (hE.out.under hb);clear hd5 hb hC1))
 go_ret
 exact ⟨rfl,hE.out.b⟩
theorem wpList_bslF {w0 V : World} {bs : List (Nat × Array Value)} {gF : Nat} {ρ : Rg} {m : Nat → Int} {ops : Array Oper} {rest : List Oper} {op : Oper} {a : Act} {Q : Exit → Act → World → Prop} (h : Env w0 V bs) (hF : FlatB V gF ρ m) (hgd : op.guard = none) (cs : Array Value) (ty : TypeId) (n : Nat) (hb : (execOp a.eval op).run Tryz.prog V = .ok (.value (.slice (some ⟨V.heap.size,0,none⟩) n n)) (V.alloc (.cells cs ty)))
  (k : ∀ V' g,Env w0 V' ((g,cs) :: bs) → FlatB V' gF ρ m → wpList Tryz.prog ops Q rest (a.put op.dst (.slice (some ⟨g,0,none⟩) n n)) V') : wpList Tryz.prog ops Q (op :: rest) a V :=by
 refine wpList_plain hgd fun _ hK => ?_
 unfold Oper.wp
 simp only [hb]
 exact hK _ _ (k _ _ (h.push cs ty) (hF.under (below_alloc (Below.refl _ _) _)))
def intsC (l : List Int) : Array Value :=(l.map (Value.int .i64)).toArray
theorem blk_ints {V : World} {g : Nat} {l : List Int} (h : BlkAt V g (intsC l)) (hm : l.length ≤ 9223372036854775807) : Kd.C (Kd.int .i64) V (some ⟨g,0,none⟩) l.length l :=by
 refine ⟨rfl,hm,fun _ => ⟨⟨g,0,none⟩,rfl,fun j p hp => ⟨[.int .i64 p],rfl,rfl,fun i u hu => ?_⟩⟩⟩
 have hi : i = 0 :=by
  cases i with
  | zero => rfl
  | succ i => simp at hu
 subst hi
 have hu : Value.int .i64 p = u :=by simpa using hu
 subst hu
 have :=h.cell j (.int .i64 p) (by simp [intsC,hp])
 show V.cell? ((⟨g,0,none⟩ : Addr).add (j * 1 + 0)) = _
 rw [Nat.mul_one,Nat.add_zero]
 have hz : (⟨g,0,none⟩ : Addr).add j = ⟨g,j,none⟩ :=by
  by_cases h0 : j = 0
  ·subst h0;rfl
  ·simp [Addr.add];omega
 rw [hz]
 exact this
theorem Env.apart {w0 V : World} {bs : List (Nat × Array Value)} (h : Env w0 V bs) {gF : Nat} (hg : V.heap.size ≤ gF) : ∀ (j g : Nat) (cs : Array Value),bs[j]? = some (g,cs) → g ≠ gF :=fun j g cs hj he => by
 have :=h.lt hj
 omega
theorem wrUp_rng {b : List Int} (hb : ∀ x ∈ b,0 ≤ x ∧ x < 256) (a : Int) : ∀ (n : Nat),n ≤ b.length → ∀ k,0 ≤ wrUp a b n k ∧ wrUp a b n k < 256
 | 0,_,k => by unfold wrUp;decide
 | n + 1,h,k => by
  unfold wrUp wrM
  split
  ·exact rd_rng hb (by omega)
  ·exact wrUp_rng hb a n (by omega) k
def lvB : List Int :=[62,5,211,254]
def lvR : Rg :={ resetR with a :=5,pc :=2,r :=1 }
theorem lvH : frw (nx resetR) (IntKind.u16.wrap (resetR.pc + 1)).toNat 3 (wrUp 0 lvB lvB.length) [] [] = some ([⟨1,0,0,4⟩,⟨2,1,0,3⟩],lvR,wrUp 0 lvB lvB.length) :=by kernel_rfl
theorem lv16 : refOf [16,254] = (⟨0,0,16,0,-2,2⟩,0) :=by kernel_rfl
theorem lv52 : refOf [221,52,1] = (⟨0,1,52,1,0,3⟩,0) :=by kernel_rfl
theorem llives12 {W : World} (ht : Table W) : Calls Tryz.prog 10 #[] W fun e V => e = .returned (.bool true) ∧ Below W.heap.size W V :=by
 have hE :=Aside0.mk (Env.nil W)
 have ht :=Aside0.mk ht
 have g1 : True :=trivial
 have g2 : True :=trivial
 go_enter Tryz.func10,Tryz.ntmps10
 go_upto_region 2 with (first | (go_at_call 26;refine (lreset _).mono ?_;rintro e V2 ⟨rfl,hb⟩;replace hE :=Aside0.mk (hE.out.under hb);clear hb) | ((with_reducible refine gate_bsl 25 ?_);refine wpList_bsl hE.out rfl (bytesC lvB) 5 4 (by kernel_rfl) ?_;intro V g hE';replace hE :=Aside0.mk hE';clear hE') | (go_at_call 13;refine (lnew (b :=lvB) (cp :=4) (ρ :=resetR) (a :=0) (fun V' hb' => blk_bytes ((hE.out.under hb').at_ 0 _ _ rfl).2 (by decide)) (by decide) (by decide) (by decide) (by decide) (by decide) (by decide)).mono ?_;rintro e V2 ⟨gF,rfl,hb,hgF,hF0⟩;have hne :=Aside0.mk (hE.out.apart hgF);have hle :=Aside0.mk (Nat.le_trans hE.out.size hgF);have hF :=Aside0.mk hF0;replace hE :=Aside0.mk (hE.out.under hb);clear hb hgF hF0))
 go_upto_region 5 with (first | (go_at_call 16;refine (lstepG hF.out (by have h1 :=hle.out;have h2 :=ht.out.lt;omega) (env_tab hE.out ht.out) (by decide) (by decide) (by decide) (by decide) (k :=3) (by decide) lvH).mono ?_;rintro e V2 ⟨Aq,cq,rfl,hkp,hF2,_,_⟩;replace hE :=Aside0.mk (hE.out.kpf hkp hle.out hne.out);replace hF :=Aside0.mk hF2;clear hF2 hkp;dsimp only [List.length_cons,List.length_nil]))
 go_wp2_with (first | (go_at_call 23;(try refine gate_guard (by rfl) ?_);refine (lregs hF.out).mono ?_;rintro e V2 ⟨rfl,hb⟩;replace hE :=Aside0.mk (hE.out.under hb);replace hF :=Aside0.mk (hF.out.under hb);clear hb) | ((with_reducible refine gate_dst (N :=31) rfl ?_);(try refine gate_guard (by rfl) ?_);refine zap rfl (.int .u8 5) (by kernel_rfl) ?_) | ((with_reducible refine gate_dst (N :=37) rfl ?_);(try refine gate_guard (by rfl) ?_);refine zap rfl (.int .u16 2) (by kernel_rfl) ?_) | ((with_reducible refine gate_dst (N :=41) rfl ?_);(try refine gate_guard (by rfl) ?_);refine wpList_bslF hE.out hF.out rfl (bytesC [16,254]) 5 2 (by kernel_rfl) ?_;intro V g41 hE' hF';replace hE :=Aside0.mk hE';replace hF :=Aside0.mk hF';clear hE' hF') | ((with_reducible refine gate_dst (N :=42) rfl ?_);(try refine gate_guard (by rfl) ?_);refine wpList_bslF hE.out hF.out rfl (intsC [5,3]) 3 2 (by kernel_rfl) ?_;intro V g42 hE' hF';replace hE :=Aside0.mk hE';replace hF :=Aside0.mk hF';clear hE' hF') | ((with_reducible refine gate_dst (N :=43) rfl ?_);(try refine gate_guard (by rfl) ?_);refine wpList_bslF hE.out hF.out rfl (intsC [5,8]) 3 2 (by kernel_rfl) ?_;intro V g43 hE' hF';replace hE :=Aside0.mk hE';replace hF :=Aside0.mk hF';clear hE' hF') | ((with_reducible refine gate_dst (N :=47) rfl ?_);(try refine gate_guard (by rfl) ?_);refine wpList_bslF hE.out hF.out rfl (bytesC [221,52,1]) 5 3 (by kernel_rfl) ?_;intro V g47 hE' hF';replace hE :=Aside0.mk hE';replace hF :=Aside0.mk hF';clear hE' hF') | ((with_reducible refine gate_dst (N :=48) rfl ?_);(try refine gate_guard (by rfl) ?_);refine wpList_bslF hE.out hF.out rfl (intsC [4,4,8,4,3]) 3 5 (by kernel_rfl) ?_;intro V g48 hE' hF';replace hE :=Aside0.mk hE';replace hF :=Aside0.mk hF';clear hE' hF') | ((with_reducible refine gate_dst (N :=49) rfl ?_);(try refine gate_guard (by rfl) ?_);refine wpList_bslF hE.out hF.out rfl (intsC [4,4,8,4,3]) 3 5 (by kernel_rfl) ?_;intro V g49 hE' hF';replace hE :=Aside0.mk hE';replace hF :=Aside0.mk hF';clear hE' hF') | (go_at_call 35;(try refine gate_guard (by rfl) ?_);have h9 :=g1;refine (lis (b :=[16,254]) (cb :=2) (c2 :=2) (c3 :=2) (s0 :=(ByteArray.mk #[53,51])) (s1 :=(ByteArray.mk #[53,56])) (ds0 :=[5,3]) (ds1 :=[5,8]) (fun V' hb' => blk_bytes ((hE.out.under hb').at_ 2 _ _ rfl).2 (by decide)) (by decide) (by decide +kernel) lv16 (by decide +kernel) (fun V => lof16) rfl (by decide) (by decide +kernel) rfl (by decide) (by decide +kernel) (fun V' hb' => blk_ints ((hE.out.under hb').at_ 1 _ _ rfl).2 (by decide)) (by decide) (fun V' hb' => blk_ints ((hE.out.under hb').at_ 0 _ _ rfl).2 (by decide)) (by decide) (by decide +kernel) (by decide +kernel)).mono ?_;rintro e V2 ⟨rfl,hb⟩;replace hE :=Aside0.mk (hE.out.under hb);replace hF :=Aside0.mk (hF.out.under hb);clear hb h9 g1) | (go_at_call 35;(try refine gate_guard (by rfl) ?_);have h9 :=g2;refine (lis (b :=[221,52,1]) (cb :=3) (c2 :=5) (c3 :=5) (s0 :=(ByteArray.mk #[52,52,56,52,51])) (s1 :=(ByteArray.mk #[52,52,56,52,51])) (ds0 :=[4,4,8,4,3]) (ds1 :=[4,4,8,4,3]) (fun V' hb' => blk_bytes ((hE.out.under hb').at_ 2 _ _ rfl).2 (by decide)) (by decide) (by decide +kernel) lv52 (by decide +kernel) (fun V => lof52) rfl (by decide) (by decide +kernel) rfl (by decide) (by decide +kernel) (fun V' hb' => blk_ints ((hE.out.under hb').at_ 1 _ _ rfl).2 (by decide)) (by decide) (fun V' hb' => blk_ints ((hE.out.under hb').at_ 0 _ _ rfl).2 (by decide)) (by decide) (by decide +kernel) (by decide +kernel)).mono ?_;rintro e V2 ⟨rfl,hb⟩;replace hE :=Aside0.mk (hE.out.under hb);replace hF :=Aside0.mk (hF.out.under hb);clear hb h9 g2))
 go_ret
 exact ⟨rfl,hE.out.b⟩
theorem R_at0 {α : Type} {d : Kd α} {e : Nat} {w : World} {base : Nat} {ok : Nat → Prop} {A : Option Addr} {n c : Nat} {xs : List α} (h : d.R e w base ok (.slice A n c) xs) (hne : xs ≠ []) : ∃ g : Nat,A = some ⟨g,0,none⟩ :=by
 obtain ⟨_,inner,⟨h1,h2⟩,hr⟩ :=h
 rcases h2 with ⟨_,e2⟩ | ⟨g,cap,cur,e1,_⟩
 ·exact absurd (List.eq_nil_of_length_eq_zero e2) hne
 ·cases e1
  exact ⟨g,rfl⟩
def pcA (ρ : Rg) (i : Nat) : Int :=IntKind.u16.wrap (ρ.pc + (i : Int))
def OfAt (m : Nat → Int) (ρ : Rg) (W : World) (c : Array Value) : Prop :=∀ (V : World) (g cp : Nat),Below W.heap.size W V → 5 ≤ cp → (∀ i : Nat,i < 5 → ∀ V',Below V.heap.size V V' → V'.cell? ⟨g,i,none⟩ = some (.int .u8 (m (pcA ρ i).toNat))) → Calls Tryz.prog 43 #[.slice (some ⟨g,0,none⟩) 5 cp] V fun e V' => e = .returned (.tuple #[.agg c,.int .i64 0]) ∧ Below V.heap.size V V'
set_option maxHeartbeats 16000000 in
set_option maxRecDepth 100000 in
theorem lins {W : World} {ρ : Rg} {m : Nat → Int} {gF : Nat} {s x o d i n : Int} (hF : FlatB W gF ρ m) (hOf : OfAt m ρ W (insC s x o d i n)) : Calls Tryz.prog 15 #[.pointer (some ⟨gF,0,none⟩)] W fun e V => e = .returned (.tuple #[.agg (insC s x o d i n),.int .i64 0]) ∧ Below W.heap.size W V :=by
 have hE :=Aside0.mk (Env.nil W)
 replace hF :=Aside0.mk hF
 replace hOf :=Aside0.mk hOf
 obtain ⟨k,hk⟩ : ∃ k,k = 5 :=⟨_,rfl⟩
 replace hk :=Aside0.mk hk
 go_enter Tryz.func15,Tryz.ntmps15
 go_wp2_with (first | ((with_reducible refine gate_alloc 28 ?_);refine zab hE.out rfl (insC 0 0 0 0 0 0) 28 (by kernel_rfl) ?_;intro V g hE';replace hE :=Aside0.mk hE';clear hE') | (go_at_call 42;refine (lok (hF.out.under hE.out.b)).mono ?_;rintro e V2 ⟨rfl,rfl⟩))
 go_loopg [4,10] k (fun kq v4 v10 w' => ∃ (y : List Int),Aside0 (kq + y.length = 5) ∧ Aside0 (∀ j : Nat,j < y.length → rd y (j : Int) = m (pcA ρ j).toNat) ∧ Aside0 (EnvR W w' [(g,insC 0 0 0 0 0 0)] (.slice none 0 0) [] v4 y) ∧ v10 = .int .u16 (y.length : Int))
 case atStart => exact ⟨[],⟨by have :=hk.out;simpa using this⟩,⟨fun j hj => by cases hj⟩,⟨EnvR.start hE.out⟩,rfl⟩
 case round =>
  obtain ⟨y,hy,hm,hE,rfl⟩ :=hrel
  obtain ⟨Ag,cg,eg,_,_⟩ :=Kd.R_reads hE.out.g
  subst eg
  cases gk with
  | zero =>
   have h5 : y.length = 5 :=by have :=hy.out;omega
   have hR :=hE.out.g
   obtain ⟨gs,rfl⟩ :=R_at0 hR (by intro h;rw [h] at h5;cases h5)
   have hall :=got_all hE.out
   have hc5 : Aside0 (5 ≤ cg) :=⟨by rw [← h5];exact hall.1⟩
   have hcell : Aside0 (∀ i : Nat,i < 5 → ∀ V',Below wr.heap.size wr V' → V'.cell? ⟨gs,i,none⟩ = some (.int .u8 (m (pcA ρ i).toNat))) :=⟨fun i hi V' hb => by
    obtain ⟨ad',e',h'⟩ :=Kd.at_int (hall.2 V' hb) (i : Int) (by omega) (by omega)
    cases e'
    rw [hm.out i (by omega)] at h'
    have hz : (⟨gs,0,none⟩ : Addr).add i = ⟨gs,i,none⟩ :=by
     by_cases h0 : i = 0
     ·rw [h0];rfl
     ·simp [Addr.add,h0]
    simpa [hz] using h'⟩
   clear hR hall
   replace hE :=Aside0.mk hE.out.env
   rw [h5]
   go_wp2_with (first | (go_at_call 43;refine (hOf.out _ _ _ hE.out.b hc5.out hcell.out).mono ?_;rintro e V3 ⟨rfl,hb⟩;replace hE :=Aside0.mk (hE.out.under hb);clear hb) | ((with_reducible refine gate_store 28 ?_);refine zac hE.out rfl 0 rfl 28 _ _ rfl _ rfl rfl rfl (by kernel_rfl) (zbc _ _ _ _ _ _) ?_;intro V hE';(try dsimp only [List.set_cons_zero,List.set_cons_succ] at hE');replace hE :=Aside0.mk hE';clear hE'))
   have r1 :=run_loadVar_mid (P :=Tryz.prog) _ _ 0 28 (insC s x o d i n).toList _ (hE.out.at_ 0 _ _ rfl).2.range Tryz.underlying28 rfl zca
   refine bodyPost_ret (v :=.tuple #[.agg (insC s x o d i n),.int .i64 0]) ?_ rfl ⟨rfl,hE.out.b⟩
   simp [results,Tryz.results15,asAddr,r1,Act.put]
  | succ k1 =>
   have hlt : y.length < 5 :=by have :=hy.out;omega
   have d1 : decide ((y.length : Int) < 5) = true :=decide_eq_true (by omega)
   obtain ⟨A,hA⟩ : ∃ A,IntKind.u16.wrap (ρ.pc + (y.length : Int)) = A :=⟨_,rfl⟩
   have hAr : 0 ≤ A ∧ A < 65536 :=by rw [← hA,B.wu16];omega
   have hA0 :=hAr.1
   have hA1 :=hAr.2
   have hpa : Aside0 (A.toNat < 65536) :=⟨by omega⟩
   have e6 : IntKind.u16.wrap ((y.length : Int) + 1) = ((y.length + 1 : Nat) : Int) :=by rw [B.wu16];omega
   clear hAr
   go_wp2_with (first | ((with_reducible refine gate_region 7 ?_);go_must ((refine zak (fun V => Env W V [_]) [(0,0),(1,0),(2,0),(3,0),(4,0),(5,0),(7,0),(9,0),(10,0),(6,1),(8,0),(11,0),(12,1)] [13,14,15] [13,14,15] 16 (by kernel_rfl) rfl rfl (by kernel_rfl) (by intro c a d v w h;cases d <;> exact h) ((hE.out.env.drewN 1).one (i :=0) rfl) ?_);replace hE :=Aside0.mk (hE.out.drewN 1);have hS0 :=hE.out.env.one (i :=0) rfl;(repeat (first | (refine Sch.pureN (v :=?_) (a' :=?_) rfl rfl (by rfl) ?_ ?_ ?_;rotate_left 2;(· (intro w';go_simp <;> (repeat (fail)) <;> with_reducible rfl));(· (simp only [aput] <;> rfl))) | (refine Sch.takeN (v :=?_) (a' :=?_) rfl rfl (by rfl) hS0 ?_ ?_ ?_;rotate_left 2;(· (intro w' hS';have qq :=(hF.out.under hS'.b).regs 13 _ rfl;go_simp <;> with_reducible rfl));(· (simp only [aput] <;> rfl))) | (refine Sch.takeN (v :=?_) (a' :=?_) rfl rfl (by rfl) hS0 ?_ ?_ ?_;rotate_left 2;(· (intro w' hS';have qq :=(hF.out.under hS'.b).mem _ hpa.out;go_simp <;> with_reducible rfl));(· (simp only [aput] <;> rfl)))));(refine Sch.tail 13 3 rfl rfl ?_;simp only [List.drop_succ_cons,List.drop_zero,List.drop_nil]))) | ((with_reducible refine gate_bsl 25 ?_);refine zbj rfl #[.int .u8 (m A.toNat)] 5 1 (by kernel_rfl) ?_) | ((with_reducible refine gate_builtin (b :=.append) (xs :=#[.tmp 13,.tmp 26]) rfl ?_);at_builtin;refine wpList_app8 hE.out (m A.toNat) rfl (.tmp 13) (.tmp 26) rfl rfl rfl (by omega) ?_;intro v2 V3 hE';replace hE :=Aside0.mk hE';clear hE'))
   go_roundg k1
   case measure => omega
   case rel => exact ⟨y ++ [m A.toNat],⟨by have :=hy.out;simp;omega⟩,⟨fun j hj => by
    rw [List.length_append] at hj
    by_cases h : j < y.length
    ·rw [← hm.out j h];simp [rd,List.getElem?_append_left h]
    ·have e : j = y.length :=by simp at hj;omega
     rw [e,← hA]
     simp [rd,pcA]⟩,hE,by simp⟩
theorem C_cell {V : World} {A : Option Addr} {l : List Int} (h : Kd.C (Kd.int .i64) V A l.length l) (h0 : 0 < l.length) : ∃ ad : Addr,A = some ad ∧ ∀ i : Nat,i < l.length → V.cell? (ad.add i) = some (.int .i64 (rd l (i : Int))) :=by
 obtain ⟨_,_,h3⟩ :=h
 obtain ⟨ad,ha,hr⟩ :=h3 (by omega)
 refine ⟨ad,ha,fun i hi => ?_⟩
 obtain ⟨vs,h5,h6,h7⟩ :=hr i _ (List.getElem?_eq_getElem hi)
 have h6 : vs = [.int .i64 l[i]] :=h6
 subst h6
 have :=h7 0 _ rfl
 have hs : (Kd.int .i64).sz = 1 :=rfl
 rw [hs,Nat.mul_one,Nat.add_zero] at this
 simpa [rd,hi] using this
theorem wpList_ldI {V : World} {ops : Array Oper} {rest : List Oper} {op : Oper} {a : Act} {Q : Exit → Act → World → Prop} (hgd : op.guard = none) (x : Operand) (ho : op.op = .load 3 x) {p : Addr} {v : Int} (hx : a.eval x = .pointer (some p)) (hc : V.cell? p = some (.int .i64 v)) (k : wpList Tryz.prog ops Q rest (a.put op.dst (.int .i64 v)) V) : wpList Tryz.prog ops Q (op :: rest) a V :=by
 refine wpList_plain hgd fun _ hK => ?_
 have hrun : (execOp a.eval op).run Tryz.prog V = .ok (.value (.int .i64 v)) V :=by
  unfold execOp
  simp only [ho,hx]
  simp [go_sem,hc]
 unfold Oper.wp
 simp only [hrun]
 exact hK _ _ k
theorem sum_rng : ∀ (l : List Int),(∀ x ∈ l,0 ≤ x ∧ x ≤ 35) → 0 ≤ l.sum ∧ l.sum ≤ 35 * (l.length : Int)
 | [],_ => by simp
 | x :: l,h => by
  have h1 :=sum_rng l fun y hy => h y (List.mem_cons_of_mem _ hy)
  have h2 :=h x (List.mem_cons_self ..)
  rw [List.sum_cons,List.length_cons]
  omega
def OfP (i : Array Value) (more : Bool) (W : World) (ds : List Int) : Prop :=∀ V,Below W.heap.size W V → Calls Tryz.prog 17 #[.agg i,.bool more] V fun e V' => ∃ A c,e = .returned (.tuple #[.slice A ds.length c,.int .i64 0]) ∧ Below V.heap.size V V' ∧ ds.length ≤ c ∧ ∀ V2,Below V'.heap.size V' V2 → Kd.C (Kd.int .i64) V2 A ds.length ds
theorem lHangs {W : World} {i0 i1 i2 i3 i4 i5 : Int} {s0 s1 : ByteArray} (hchk : yci.f 20 i0 i1 i2 i3 i4 i5 = some 0) (h47 : ∀ V,Calls Tryz.prog 47 #[.agg (insC i0 i1 i2 i3 i4 i5)] V fun e V' => e = .returned (.agg (plC s0 s1)) ∧ Below V.heap.size V V') : Calls Tryz.prog 19 #[.agg (insC i0 i1 i2 i3 i4 i5)] W fun e V => e = .returned (.bool (!(s0.toList == s1.toList))) ∧ Below W.heap.size W V :=by
 have hE :=Aside0.mk (Env.nil W)
 replace hchk :=Aside0.mk hchk
 replace h47 :=Aside0.mk h47
 go_enter Tryz.func19,Tryz.ntmps19
 go_wp2_with (first | ((with_reducible refine gate_box 28 ?_);refine zab hE.out rfl (insC i0 i1 i2 i3 i4 i5) 28 rfl ?_;intro V gi hE';replace hE :=Aside0.mk hE';clear hE') | ((with_reducible refine gate_load 28 ?_);refine zaf hE.out rfl 0 rfl 28 _ rfl rfl (ld28 _ _ _ _ _ _ _) ?_) | (go_at_call 46;refine (yci.calls 20 i0 i1 i2 i3 i4 i5 0 _ hchk.out).mono ?_;rintro e V3 ⟨rfl,hb⟩;replace hE :=Aside0.mk (hE.out.under hb);clear hb) | (go_at_call 47;refine (h47.out _).mono ?_;rintro e V3 ⟨rfl,hb⟩;replace hE :=Aside0.mk (hE.out.under hb);clear hb) | ((with_reducible refine gate_alloc 85 ?_);refine zab hE.out rfl (plC ByteArray.empty ByteArray.empty) 85 (by kernel_rfl) ?_;intro V g hE';replace hE :=Aside0.mk hE';clear hE') | ((with_reducible refine gate_store 85 ?_);(refine zac hE.out rfl 0 rfl 85 _ _ rfl _ rfl rfl rfl (by kernel_rfl) (zav _ _) ?_);intro V hE';(try dsimp only [List.set_cons_zero,List.set_cons_succ] at hE');replace hE :=Aside0.mk hE';clear hE') | ((with_reducible refine gate_load 9 ?_);refine zax hE.out rfl 0 rfl _ rfl _ _ rfl rfl ?_))
 go_ret
 exact ⟨rfl,hE.out.b⟩
theorem lTotal {W : World} {i0 i1 i2 i3 i4 i5 : Int} {more : Bool} {ds : List Int} (hOf : OfP (insC i0 i1 i2 i3 i4 i5) more W ds) (h9 : ds.length ≤ 900) (hd : ∀ x ∈ ds,0 ≤ x ∧ x ≤ 35) : Calls Tryz.prog 21 #[.agg (insC i0 i1 i2 i3 i4 i5),.bool more] W fun e V => e = .returned (.tuple #[.int .i64 ds.sum,.int .i64 0]) ∧ Below W.heap.size W V :=by
 have hE :=Aside0.mk (Env.nil W)
 replace hOf :=Aside0.mk hOf
 replace hd :=Aside0.mk hd
 replace h9 :=Aside0.mk h9
 obtain ⟨k,hk⟩ : ∃ k,k = ds.length :=⟨_,rfl⟩
 replace hk :=Aside0.mk hk
 go_enter Tryz.func21,Tryz.ntmps21
 go_wp2_with (first | ((with_reducible refine gate_box 28 ?_);refine zab hE.out rfl (insC i0 i1 i2 i3 i4 i5) 28 rfl ?_;intro V gi hE';replace hE :=Aside0.mk hE';clear hE') | ((with_reducible refine gate_load 28 ?_);refine zaf hE.out rfl 0 rfl 28 _ rfl rfl (ld28 _ _ _ _ _ _ _) ?_) | (go_at_call 17;refine (hOf.out _ hE.out.b).mono ?_;rintro e V3 ⟨A0,c0,rfl,hb,hc0,hC0⟩;replace hE :=Aside0.mk (hE.out.under hb);replace hC0 :=Aside0.mk hC0;replace hc0 :=Aside0.mk hc0;clear hb))
 go_loopg [19,8,10] k (fun kq v19 v8 v10 w' => ∃ (i : Nat),w' = V3 ∧ Aside0 (kq + i = ds.length) ∧ v8 = .int .i64 (ds.take i).sum ∧ v19 = .int .i64 (i : Int))
 case atStart => exact ⟨0,rfl,⟨by have :=hk.out;omega⟩,rfl,rfl⟩
 case round =>
  obtain ⟨i,rfl,hi,rfl,rfl⟩ :=hrel
  cases gk with
  | zero =>
   have hi' : i = ds.length :=by have :=hi.out;omega
   subst hi'
   have ht : ds.take ds.length = ds :=List.take_length
   rw [ht]
   clear ht
   go_wp2_with fail
   go_ret2
   exact ⟨rfl,hE.out.b⟩
  | succ k1 =>
   have hlt : i < ds.length :=by have :=hi.out;omega
   obtain ⟨ad,rfl,hcell⟩ :=C_cell (hC0.out _ (Below.refl _ _)) (by omega)
   replace hcell :=Aside0.mk hcell
   have e6 : wrap64 ((i : Int) + 1) = ((i + 1 : Nat) : Int) :=by rw [B.w64 (by omega) (by have :=h9.out;omega)];omega
   have htk : (ds.take (i + 1)).sum = (ds.take i).sum + rd ds (i : Int) :=by
    rw [List.take_add_one,List.sum_append]
    simp [rd,hlt]
   have e7 : wrap64 ((ds.take i).sum + rd ds (i : Int)) = (ds.take (i + 1)).sum :=by
    have h1 :=sum_rng (ds.take (i + 1)) fun x hx => hd.out x (List.mem_of_mem_take hx)
    have h2 : (ds.take (i + 1)).length ≤ 900 :=by have :=h9.out;rw [List.length_take];omega
    rw [← htk,B.w64 (by omega) (by omega)]
   clear htk
   go_wp2_with (((with_reducible refine gate_load 3 ?_);refine wpList_ldI rfl _ rfl rfl (hcell.out _ hlt) ?_))
   go_roundg k1
   case measure => omega
   case rel => exact ⟨i + 1,rfl,⟨by have :=hi.out;omega⟩,by rw [e7],by rw [e6]⟩
end Go.Proofs.YtnelghpendfdmaaGreatDoor.KRow
