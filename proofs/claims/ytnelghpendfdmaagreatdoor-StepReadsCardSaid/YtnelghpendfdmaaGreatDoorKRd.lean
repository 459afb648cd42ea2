/-
  PROVED: pendulumlaw11.StepReads answers true.
-/
import Derived.Test.YtnelghpendfdmaaGreatDoorKOi
namespace Go.Proofs.YtnelghpendfdmaaGreatDoor.KRow
set_option maxRecDepth 100000
set_option maxHeartbeats 16000000
open Go Go.RowKit Go.Proofs.YtnelghpendfdmaaGreatDoorW.PrintWords Go.Proofs.YtnelghpendfdmaaGreatDoorW.PrintLast Go.Proofs.YtnelghpendfdmaaGreatDoorW.PrintMore
open Go.Proofs.YtnelghpendfdmaaGreatDoor.HFun
set_option linter.unusedVariables false
set_option linter.unusedSimpArgs false
theorem run_cut25 {ev : Operand → Value} {op : Oper} {x y : Operand} {ad : Addr} {n c m : Nat} (ho : op.op = .slice 25 x none (some y) none) (hx : ev x = .slice (some ad) n c) (hy : ev y = .int .i64 (m : Nat)) (hm : m ≤ c) (V : World) :
    (execOp ev op).run Tryz.prog V = .ok (.value (.slice (some ad) m c)) V :=by
  have hu :=Tryz.underlying25
  have h1 : ((m : Nat) : Int) ≤ (c : Int) :=by omega
  unfold execOp
  simp only [ho,hx,hy,Option.map_none,Option.map_some]
  simp [go_sem,hu,hx,hy,hm,h1]
theorem rds_inv {F : List Int → To} {code l : List Int} {pc : Int} {m i fe n fF : Nat} {y : List Int} {sF : Rg} (H : rdsL F code l pc (m + 1) i fe y = some (n,fF,sF)) :
    ∃ (ck ca cv ct : Int) (cs : Rg) (cd : Bool),F y = ⟨ck,ca,cv,ct,cs,cd,0⟩ ∧ ((cd = true ∧ i = n ∧ fe = fF ∧ cs = sF) ∨
      (cd = false ∧ ck = 1 ∧ i < code.length ∧ ca = (pc + (i : Int)) % 65536 ∧ rdsL F code l pc m (i + 1) (fe + 1) (y ++ [rd code (i : Int)]) = some (n,fF,sF)) ∨
      (cd = false ∧ ck = 2 ∧ i < code.length ∧ ca = (pc + (i : Int)) % 65536 ∧ rdsL F code l pc m (i + 1) fe (y ++ [rd code (i : Int)]) = some (n,fF,sF)) ∨
      (cd = false ∧ ck ≠ 1 ∧ ck ≠ 2 ∧ rdsL F code l pc m i fe (y ++ [ansOf l y.length]) = some (n,fF,sF)) ∨
      (cd = false ∧ ck = 2 ∧ ¬ i < code.length ∧ rdsL F code l pc m i fe (y ++ [ansOf l y.length]) = some (n,fF,sF))) :=by
  obtain ⟨c,hc⟩ : ∃ c,F y = c :=⟨_,rfl⟩
  obtain ⟨ck,ca,cv,ct,cs,cd,ce⟩ :=c
  unfold rdsL at H
  rw [hc] at H
  by_cases he : ce = 0
  case neg => rw [if_neg he] at H;cases H
  subst he
  refine ⟨ck,ca,cv,ct,cs,cd,hc,?_⟩
  rw [if_pos rfl] at H
  cases cd with
  | true =>
    rw [if_pos rfl] at H
    simp only [Option.some.injEq,Prod.mk.injEq] at H
    exact .inl ⟨rfl,H⟩
  | false =>
    rw [if_neg Bool.false_ne_true] at H
    simp only at H
    by_cases h1 : ck = 1
    · rw [if_pos (.inl h1)] at H
      by_cases h2 : i < code.length ∧ ca = (pc + (i : Int)) % 65536
      · rw [if_pos h2,if_pos h1] at H
        exact .inr (.inl ⟨rfl,h1,h2.1,h2.2,H⟩)
      · rw [if_neg h2] at H;cases H
    · by_cases h3 : ck = 2
      · by_cases h4 : i < code.length
        · rw [if_pos (.inr ⟨h3,h4⟩)] at H
          by_cases h2 : i < code.length ∧ ca = (pc + (i : Int)) % 65536
          · rw [if_pos h2,if_neg h1] at H
            exact .inr (.inr (.inl ⟨rfl,h3,h2.1,h2.2,H⟩))
          · rw [if_neg h2] at H;cases H
        · rw [if_neg (by omega)] at H
          exact .inr (.inr (.inr (.inr ⟨rfl,h3,h4,H⟩)))
      · rw [if_neg (by omega)] at H
        exact .inr (.inr (.inr (.inl ⟨rfl,h1,h3,H⟩)))
theorem lrd_b {W : World} {A B : Option Addr} {l b : List Int} {cp cb : Nat} {ρ : Rg} {vs vx vo vd vi vn er : Int} (hGb : ∀ V,Below W.heap.size W V → Kd.C (Kd.int .u8) V B b.length b) (hcb : b.length ≤ cb) (hbr : ∀ x ∈ b,0 ≤ x ∧ x < 256) (ht : Table W) (hv : refOf b = (⟨vs,vx,vo,vd,vi,vn⟩,er)) (h1 : 40 < b.length) :
    Calls Tryz.prog 6 #[.agg ρ.vals,.slice B b.length cb,.slice A l.length cp] W fun e V => e = .returned (.bool true) ∧ Below W.heap.size W V :=by
  have hE :=Aside0.mk (Env.nil W)
  replace hGb :=Aside0.mk hGb
  replace hcb :=Aside0.mk hcb
  replace hbr :=Aside0.mk hbr
  replace ht :=Aside0.mk ht
  replace hv :=Aside0.mk hv
  have d1 : decide (40 < (b.length : Int)) = true :=decide_eq_true (by omega)
  clear h1
  go_enter Tryz.func6,Tryz.ntmps6
  go_wp2_with (first | ((with_reducible refine gate_box 24 ?_);refine wpList_new hE.out rfl (Rg.vals _) 24 rfl ?_;intro V g hE';replace hE :=Aside0.mk hE';clear hE') | (go_at_call 28;refine (llives (env_tab hE.out ht.out)).mono ?_;rintro e V2 ⟨rfl,hb⟩;replace hE :=Aside0.mk (hE.out.under hb);clear hb) | (go_at_call 11;refine (of_calls (fun V hb => hGb.out V (hE.out.b.trans (hb.mono hE.out.size))) hcb.out hbr.out).mono ?_;rintro e V2 ⟨rfl,hb⟩;rw [hv.out];replace hE :=Aside0.mk (hE.out.under hb);clear hb;dsimp only [ofV,Ins.vals]) | ((with_reducible refine gate_alloc 28 ?_);refine wpList_new hE.out rfl (insC 0 0 0 0 0 0) 28 (by kernel_rfl) ?_;intro V g hE';replace hE :=Aside0.mk hE';clear hE') | ((with_reducible refine gate_store 28 ?_);refine wpList_st hE.out rfl 0 rfl 28 _ _ rfl _ rfl rfl rfl (by kernel_rfl) (insC_one _ _ _ _ _ _) ?_;intro V hE';(try dsimp only [List.set_cons_zero,List.set_cons_succ] at hE');replace hE :=Aside0.mk hE';clear hE'))
  go_ret
  exact ⟨rfl,hE.out.b⟩
theorem lrd_l {W : World} {A B : Option Addr} {l b : List Int} {cp cb : Nat} {ρ : Rg} {vs vx vo vd vi vn er : Int} (hGb : ∀ V,Below W.heap.size W V → Kd.C (Kd.int .u8) V B b.length b) (hcb : b.length ≤ cb) (hbr : ∀ x ∈ b,0 ≤ x ∧ x < 256) (ht : Table W) (hv : refOf b = (⟨vs,vx,vo,vd,vi,vn⟩,er)) (h1 : b.length ≤ 40) (h2 : 40 < l.length) :
    Calls Tryz.prog 6 #[.agg ρ.vals,.slice B b.length cb,.slice A l.length cp] W fun e V => e = .returned (.bool true) ∧ Below W.heap.size W V :=by
  have hE :=Aside0.mk (Env.nil W)
  replace hGb :=Aside0.mk hGb
  replace hcb :=Aside0.mk hcb
  replace hbr :=Aside0.mk hbr
  replace ht :=Aside0.mk ht
  replace hv :=Aside0.mk hv
  have d1 : decide (40 < (b.length : Int)) = false :=decide_eq_false (by omega)
  clear h1
  have d2 : decide (40 < (l.length : Int)) = true :=decide_eq_true (by omega)
  clear h2
  go_enter Tryz.func6,Tryz.ntmps6
  go_wp2_with (first | ((with_reducible refine gate_box 24 ?_);refine wpList_new hE.out rfl (Rg.vals _) 24 rfl ?_;intro V g hE';replace hE :=Aside0.mk hE';clear hE') | (go_at_call 28;refine (llives (env_tab hE.out ht.out)).mono ?_;rintro e V2 ⟨rfl,hb⟩;replace hE :=Aside0.mk (hE.out.under hb);clear hb) | (go_at_call 11;refine (of_calls (fun V hb => hGb.out V (hE.out.b.trans (hb.mono hE.out.size))) hcb.out hbr.out).mono ?_;rintro e V2 ⟨rfl,hb⟩;rw [hv.out];replace hE :=Aside0.mk (hE.out.under hb);clear hb;dsimp only [ofV,Ins.vals]) | ((with_reducible refine gate_alloc 28 ?_);refine wpList_new hE.out rfl (insC 0 0 0 0 0 0) 28 (by kernel_rfl) ?_;intro V g hE';replace hE :=Aside0.mk hE';clear hE') | ((with_reducible refine gate_store 28 ?_);refine wpList_st hE.out rfl 0 rfl 28 _ _ rfl _ rfl rfl rfl (by kernel_rfl) (insC_one _ _ _ _ _ _) ?_;intro V hE';(try dsimp only [List.set_cons_zero,List.set_cons_succ] at hE');replace hE :=Aside0.mk hE';clear hE'))
  go_ret
  exact ⟨rfl,hE.out.b⟩
theorem lrd_e {W : World} {A B : Option Addr} {l b : List Int} {cp cb : Nat} {ρ : Rg} {vs vx vo vd vi vn er : Int} (hGb : ∀ V,Below W.heap.size W V → Kd.C (Kd.int .u8) V B b.length b) (hcb : b.length ≤ cb) (hbr : ∀ x ∈ b,0 ≤ x ∧ x < 256) (ht : Table W) (hv : refOf b = (⟨vs,vx,vo,vd,vi,vn⟩,er)) (h1 : b.length ≤ 40) (h2 : l.length ≤ 40) (h3 : (er != 0) = true) :
    Calls Tryz.prog 6 #[.agg ρ.vals,.slice B b.length cb,.slice A l.length cp] W fun e V => e = .returned (.bool true) ∧ Below W.heap.size W V :=by
  have hE :=Aside0.mk (Env.nil W)
  replace hGb :=Aside0.mk hGb
  replace hcb :=Aside0.mk hcb
  replace hbr :=Aside0.mk hbr
  replace ht :=Aside0.mk ht
  replace hv :=Aside0.mk hv
  have d1 : decide (40 < (b.length : Int)) = false :=decide_eq_false (by omega)
  clear h1
  have d2 : decide (40 < (l.length : Int)) = false :=decide_eq_false (by omega)
  clear h2
  go_enter Tryz.func6,Tryz.ntmps6
  go_wp2_with (first | ((with_reducible refine gate_box 24 ?_);refine wpList_new hE.out rfl (Rg.vals _) 24 rfl ?_;intro V g hE';replace hE :=Aside0.mk hE';clear hE') | (go_at_call 28;refine (llives (env_tab hE.out ht.out)).mono ?_;rintro e V2 ⟨rfl,hb⟩;replace hE :=Aside0.mk (hE.out.under hb);clear hb) | (go_at_call 11;refine (of_calls (fun V hb => hGb.out V (hE.out.b.trans (hb.mono hE.out.size))) hcb.out hbr.out).mono ?_;rintro e V2 ⟨rfl,hb⟩;rw [hv.out];replace hE :=Aside0.mk (hE.out.under hb);clear hb;dsimp only [ofV,Ins.vals]) | ((with_reducible refine gate_alloc 28 ?_);refine wpList_new hE.out rfl (insC 0 0 0 0 0 0) 28 (by kernel_rfl) ?_;intro V g hE';replace hE :=Aside0.mk hE';clear hE') | ((with_reducible refine gate_store 28 ?_);refine wpList_st hE.out rfl 0 rfl 28 _ _ rfl _ rfl rfl rfl (by kernel_rfl) (insC_one _ _ _ _ _ _) ?_;intro V hE';(try dsimp only [List.set_cons_zero,List.set_cons_succ] at hE');replace hE :=Aside0.mk hE';clear hE'))
  go_ret
  exact ⟨rfl,hE.out.b⟩
theorem lrd_bad {W : World} {A B : Option Addr} {l b : List Int} {cp cb : Nat} {ρ : Rg} {vs vx vo vd vi vn er : Int} (hGb : ∀ V,Below W.heap.size W V → Kd.C (Kd.int .u8) V B b.length b) (hcb : b.length ≤ cb) (hbr : ∀ x ∈ b,0 ≤ x ∧ x < 256) (ht : Table W) (hv : refOf b = (⟨vs,vx,vo,vd,vi,vn⟩,er)) (h1 : b.length ≤ 40) (h2 : l.length ≤ 40) (h3 : (er != 0) = false) (hok : (decide (ρ.im < 0) || decide (ρ.im > 2)) = true) :
    Calls Tryz.prog 6 #[.agg ρ.vals,.slice B b.length cb,.slice A l.length cp] W fun e V => e = .returned (.bool true) ∧ Below W.heap.size W V :=by
  have hE :=Aside0.mk (Env.nil W)
  replace hGb :=Aside0.mk hGb
  replace hcb :=Aside0.mk hcb
  replace hbr :=Aside0.mk hbr
  replace ht :=Aside0.mk ht
  replace hv :=Aside0.mk hv
  have d1 : decide (40 < (b.length : Int)) = false :=decide_eq_false (by omega)
  clear h1
  have d2 : decide (40 < (l.length : Int)) = false :=decide_eq_false (by omega)
  clear h2
  have hc1 :=Aside0.mk hok
  clear hok
  go_enter Tryz.func6,Tryz.ntmps6
  go_wp2_with (first | ((with_reducible refine gate_box 24 ?_);refine wpList_new hE.out rfl (Rg.vals _) 24 rfl ?_;intro V g hE';replace hE :=Aside0.mk hE';clear hE') | (go_at_call 28;refine (llives (env_tab hE.out ht.out)).mono ?_;rintro e V2 ⟨rfl,hb⟩;replace hE :=Aside0.mk (hE.out.under hb);clear hb) | (go_at_call 11;refine (of_calls (fun V hb => hGb.out V (hE.out.b.trans (hb.mono hE.out.size))) hcb.out hbr.out).mono ?_;rintro e V2 ⟨rfl,hb⟩;rw [hv.out];replace hE :=Aside0.mk (hE.out.under hb);clear hb;dsimp only [ofV,Ins.vals]) | ((with_reducible refine gate_alloc 28 ?_);refine wpList_new hE.out rfl (insC 0 0 0 0 0 0) 28 (by kernel_rfl) ?_;intro V g hE';replace hE :=Aside0.mk hE';clear hE') | ((with_reducible refine gate_store 28 ?_);refine wpList_st hE.out rfl 0 rfl 28 _ _ rfl _ rfl rfl rfl (by kernel_rfl) (insC_one _ _ _ _ _ _) ?_;intro V hE';(try dsimp only [List.set_cons_zero,List.set_cons_succ] at hE');replace hE :=Aside0.mk hE';clear hE') | (go_at_call 12;(try refine gate_guard (by rfl) ?_);refine (lcheck8_bad ρ _ hc1.out).mono ?_;rintro e V2 ⟨rfl,hb⟩;replace hE :=Aside0.mk (hE.out.under hb);clear hb) | ((with_reducible refine gate_load 24 ?_);(try refine gate_guard (by rfl) ?_);(first | refine wpList_ld hE.out rfl 0 rfl 24 _ rfl rfl (ld24 _ _) ?_ | refine wpList_ld hE.out rfl 1 rfl 24 _ rfl rfl (ld24 _ _) ?_)))
  go_ret
  exact ⟨rfl,hE.out.b⟩
theorem lrd_halt {W : World} {A B : Option Addr} {l b : List Int} {cp cb : Nat} {ρ : Rg} {vs vx vo vd vi vn er : Int} (hGb : ∀ V,Below W.heap.size W V → Kd.C (Kd.int .u8) V B b.length b) (hcb : b.length ≤ cb) (hbr : ∀ x ∈ b,0 ≤ x ∧ x < 256) (ht : Table W) (hv : refOf b = (⟨vs,vx,vo,vd,vi,vn⟩,er)) (h1 : b.length ≤ 40) (h2 : l.length ≤ 40) (h3 : (er != 0) = false) (hh : ρ.halt = true) (hok : (decide (ρ.im < 0) || decide (ρ.im > 2)) = false) :
    Calls Tryz.prog 6 #[.agg ρ.vals,.slice B b.length cb,.slice A l.length cp] W fun e V => e = .returned (.bool true) ∧ Below W.heap.size W V :=by
  have hE :=Aside0.mk (Env.nil W)
  replace hGb :=Aside0.mk hGb
  replace hcb :=Aside0.mk hcb
  replace hbr :=Aside0.mk hbr
  replace ht :=Aside0.mk ht
  replace hv :=Aside0.mk hv
  have d1 : decide (40 < (b.length : Int)) = false :=decide_eq_false (by omega)
  clear h1
  have d2 : decide (40 < (l.length : Int)) = false :=decide_eq_false (by omega)
  clear h2
  have hc1 :=Aside0.mk hok
  clear hok
  replace hh :=Aside0.mk hh
  go_enter Tryz.func6,Tryz.ntmps6
  go_wp2_with (first | ((with_reducible refine gate_box 24 ?_);refine wpList_new hE.out rfl (Rg.vals _) 24 rfl ?_;intro V g hE';replace hE :=Aside0.mk hE';clear hE') | (go_at_call 28;refine (llives (env_tab hE.out ht.out)).mono ?_;rintro e V2 ⟨rfl,hb⟩;replace hE :=Aside0.mk (hE.out.under hb);clear hb) | (go_at_call 11;refine (of_calls (fun V hb => hGb.out V (hE.out.b.trans (hb.mono hE.out.size))) hcb.out hbr.out).mono ?_;rintro e V2 ⟨rfl,hb⟩;rw [hv.out];replace hE :=Aside0.mk (hE.out.under hb);clear hb;dsimp only [ofV,Ins.vals]) | ((with_reducible refine gate_alloc 28 ?_);refine wpList_new hE.out rfl (insC 0 0 0 0 0 0) 28 (by kernel_rfl) ?_;intro V g hE';replace hE :=Aside0.mk hE';clear hE') | ((with_reducible refine gate_store 28 ?_);refine wpList_st hE.out rfl 0 rfl 28 _ _ rfl _ rfl rfl rfl (by kernel_rfl) (insC_one _ _ _ _ _ _) ?_;intro V hE';(try dsimp only [List.set_cons_zero,List.set_cons_succ] at hE');replace hE :=Aside0.mk hE';clear hE') | (go_at_call 12;(try refine gate_guard (by rfl) ?_);refine (lcheck8_ok ρ _ hc1.out).mono ?_;rintro e V2 ⟨rfl,hb⟩;replace hE :=Aside0.mk (hE.out.under hb);clear hb;have q22 :=(hE.out.at_ 1 _ _ rfl).2.cell 22 _ rfl;rw [hh.out] at q22) | ((with_reducible refine gate_load 24 ?_);(try refine gate_guard (by rfl) ?_);(first | refine wpList_ld hE.out rfl 0 rfl 24 _ rfl rfl (ld24 _ _) ?_ | refine wpList_ld hE.out rfl 1 rfl 24 _ rfl rfl (ld24 _ _) ?_)))
  go_ret
  exact ⟨rfl,hE.out.b⟩
theorem lrd_main {W : World} {A : Option Addr} {ad : Addr} {l b : List Int} {cp cb n fF : Nat} {ρ sF : Rg} {vs vx vo vd vi pk : Int} (hGb : ∀ V,Below W.heap.size W V → Kd.C (Kd.int .u8) V (some ad) b.length b) (hcb : b.length ≤ cb) (hbr : ∀ x ∈ b,0 ≤ x ∧ x < 256) (hG : ∀ V,Below W.heap.size W V → Kd.C (Kd.int .u8) V A l.length l) (hcp : l.length ≤ cp) (hlr : ∀ x ∈ l,0 ≤ x ∧ x < 256) (ht : Table W) (i0 : 0 ≤ ρ.im) (i2 : ρ.im ≤ 2) (hok : (decide (ρ.im < 0) || decide (ρ.im > 2)) = false) (h1 : b.length ≤ 40) (h2 : l.length ≤ 40) (hh : ρ.halt = false) (p0 : 0 ≤ ρ.pc) (p1 : ρ.pc < 65536) (r0 : 0 ≤ ρ.r) (r1 : ρ.r < 256) (hv : refOf b = (⟨vs,vx,vo,vd,vi,(n : Int)⟩,0)) (hn1 : 1 ≤ n) (hnb : n ≤ b.length) (hpk : (1 < b.length ∧ (∀ V,Below W.heap.size W V → V.cell? ⟨ad.block,ad.off + 1,none⟩ = some (.int .u8 pk))) ∨ (b.length ≤ 1 ∧ pk = 0)) (H : rdsL (nx ρ pk) (b.take n) l ρ.pc 11 0 0 [] = some (n,fF,sF)) (hF2 : fF ≤ 2) (hfin : (vs = 2 ∧ vo = 79) ∨ sF.r = ρ.r / 128 * 128 + (ρ.r % 128 + (fF : Int)) % 128) :
    Calls Tryz.prog 6 #[.agg ρ.vals,.slice (some ad) b.length cb,.slice A l.length cp] W fun e V => e = .returned (.bool true) ∧ Below W.heap.size W V :=by
  have hncb : n ≤ cb :=Nat.le_trans hnb hcb
  obtain ⟨k,hk⟩ : ∃ k,k = 11 :=⟨11,rfl⟩
  rw [← hk] at H
  obtain ⟨Fn,hFn⟩ : ∃ F,nx ρ pk = F :=⟨_,rfl⟩
  rw [hFn] at H
  have hE :=Aside0.mk (Env.nil W)
  replace hFn :=Aside0.mk hFn
  replace hGb :=Aside0.mk hGb
  replace hcb :=Aside0.mk hcb
  replace hbr :=Aside0.mk hbr
  replace hG :=Aside0.mk hG
  replace hcp :=Aside0.mk hcp
  replace hlr :=Aside0.mk hlr
  replace ht :=Aside0.mk ht
  replace i0 :=Aside0.mk i0
  replace i2 :=Aside0.mk i2
  replace p0 :=Aside0.mk p0
  replace p1 :=Aside0.mk p1
  replace r0 :=Aside0.mk r0
  replace r1 :=Aside0.mk r1
  replace hv :=Aside0.mk hv
  replace hn1 :=Aside0.mk hn1
  replace hnb :=Aside0.mk hnb
  replace hncb :=Aside0.mk hncb
  replace H :=Aside0.mk H
  replace hF2 :=Aside0.mk hF2
  replace hfin :=Aside0.mk hfin
  replace hk :=Aside0.mk hk
  replace hh :=Aside0.mk hh
  have d1 : decide (40 < (b.length : Int)) = false :=decide_eq_false (by omega)
  have d2 : decide (40 < (l.length : Int)) = false :=decide_eq_false (by omega)
  have hc1 :=Aside0.mk hok
  clear hok
  replace h1 :=Aside0.mk h1
  replace h2 :=Aside0.mk h2
  go_enter Tryz.func6,Tryz.ntmps6
  go_upto_region 6 with (first | ((with_reducible refine gate_box 24 ?_);refine wpList_new hE.out rfl (Rg.vals _) 24 rfl ?_;intro V g3 hE';replace hE :=Aside0.mk hE';clear hE') | (go_at_call 28;refine (llives (env_tab hE.out ht.out)).mono ?_;rintro e V2 ⟨rfl,hb⟩;replace hE :=Aside0.mk (hE.out.under hb);clear hb) | (go_at_call 11;refine (of_calls (fun V hb => hGb.out V (hE.out.b.trans (hb.mono hE.out.size))) hcb.out hbr.out).mono ?_;rintro e V2 ⟨rfl,hb⟩;rw [hv.out];replace hE :=Aside0.mk (hE.out.under hb);clear hb;dsimp only [ofV,Ins.vals]) | ((with_reducible refine gate_alloc 28 ?_);refine wpList_new hE.out rfl (insC 0 0 0 0 0 0) 28 (by kernel_rfl) ?_;intro V g7 hE';replace hE :=Aside0.mk hE';clear hE') | ((with_reducible refine gate_store 28 ?_);refine wpList_st hE.out rfl 0 rfl 28 _ _ rfl _ rfl rfl rfl (by kernel_rfl) (insC_one _ _ _ _ _ _) ?_;intro V hE';(try dsimp only [List.set_cons_zero,List.set_cons_succ] at hE');replace hE :=Aside0.mk hE';clear hE') | (go_at_call 12;(try refine gate_guard (by rfl) ?_);refine (lcheck8_ok ρ _ hc1.out).mono ?_;rintro e V2 ⟨rfl,hb⟩;replace hE :=Aside0.mk (hE.out.under hb);clear hb;have q22 :=(hE.out.at_ 1 _ _ rfl).2.cell 22 _ rfl;rw [hh.out] at q22) | ((with_reducible refine gate_load 24 ?_);(try refine gate_guard (by rfl) ?_);(first | refine wpList_ld hE.out rfl 0 rfl 24 _ rfl rfl (ld24 _ _) ?_ | refine wpList_ld hE.out rfl 1 rfl 24 _ rfl rfl (ld24 _ _) ?_)))
  replace hE : Aside0 (Env W _ [(_,insC vs vx vo vd vi (n : Int)),(_,ρ.vals)]) :=⟨hE.out⟩
  go_upto_region 8 with (first | ((with_reducible refine gate_load 3 ?_);(try refine gate_guard (by rfl) ?_);refine wpList_ld3 hE.out rfl 0 rfl _ rfl _ _ rfl rfl ?_) | ((with_reducible refine gate_dst (N :=52) rfl ?_);refine wpList_val' rfl (.slice (some ad) n cb) (run_cut25 rfl rfl rfl hncb.out _) ?_))
  rcases hpk with ⟨g1,hpk1⟩ | ⟨g1,hpk1⟩
  all_goals (
    first
      | (have d3 : decide (1 < (b.length : Int)) = true :=decide_eq_true (by omega)
         replace hpk1 :=Aside0.mk hpk1)
      | (have d3 : decide (1 < (b.length : Int)) = false :=decide_eq_false (by omega)
         subst hpk1
         clear g1)
    go_wp2_with (first | ((with_reducible refine gate_load 5 ?_);refine wpList_ld8 rfl _ rfl rfl (hpk1.out _ hE.out.b) ?_))
    (try clear g1)
    go_loopg [11,12,13,14] k (fun kq v11 v12 v13 v14 w' => ∃ (i fe : Nat) (y : List Int),Aside0 (rdsL Fn (b.take n) l ρ.pc kq i fe y = some (n,fF,sF)) ∧ Aside0 (kq + y.length = 11 ∧ (∀ z ∈ y,0 ≤ z ∧ z < 256) ∧ fe ≤ y.length) ∧ Aside0 (EnvR W w' [(g7,insC vs vx vo vd vi (n : Int)),(g3,ρ.vals)] (.slice none 0 0) [] v11 y) ∧ v12 = .int .i64 (i : Int) ∧ v13 = .int .i64 (fe : Int) ∧ v14 = .int .i64 (y.length : Int))
    case atStart => exact ⟨0,0,[],H,⟨by have :=hk.out;simp [this]⟩,⟨EnvR.start hE.out⟩,rfl,rfl,rfl⟩
    case round =>
      obtain ⟨i,fe,y,HA,HL,hE,rfl,rfl,rfl⟩ :=hrel
      cases gk with
      | zero => exact absurd HA.out (by simp [rdsL])
      | succ k1 =>
        have hx10 : decide ((y.length : Int) ≤ 10) = true :=decide_eq_true (by have :=HL.out;omega)
        obtain ⟨ck,ca,cv,ct,cs,cd,hc,hcase⟩ :=rds_inv HA.out
        obtain ⟨Ag,cg,eg,_,_⟩ :=Kd.R_reads hE.out.g
        subst eg
        replace hc :=Aside0.mk hc
        replace hcase :=Aside0.mk hcase
        clear HA
        go_upto_region 16 with (first | (go_at_call 29;refine (nextAll (gl :=y) (A :=Ag) (cp :=cg) (ρ :=ρ) (peek :=_) (got_all hE.out).2 (got_all hE.out).1 HL.out.2.1 (env_tab hE.out.env ht.out) i0.out i2.out).mono ?_;rintro e V2 ⟨rfl,hb⟩;have hc2 :=hc.out;rw [← hFn.out] at hc2;unfold nx at hc2;rw [hc2];clear hc2;replace hE :=Aside0.mk (hE.out.under hb);clear hb;dsimp only [To.val]) | ((with_reducible refine gate_alloc 56 ?_);refine wpList_newR hE.out rfl (reqC 0 0 0 0) 56 (by kernel_rfl) ?_;intro V g hE';replace hE :=Aside0.mk hE';clear hE') | ((with_reducible refine gate_alloc 24 ?_);refine wpList_newR hE.out rfl (zeroRg.vals) 24 (by kernel_rfl) ?_;intro V g hE';replace hE :=Aside0.mk hE';clear hE') | ((with_reducible refine gate_load 24 ?_);(try refine gate_guard (by rfl) ?_);(first | refine wpList_ld hE.out.env rfl 0 rfl 24 _ rfl rfl (ld24 _ _) ?_ | refine wpList_ld hE.out.env rfl 1 rfl 24 _ rfl rfl (ld24 _ _) ?_ | refine wpList_ld hE.out.env rfl 2 rfl 24 _ rfl rfl (ld24 _ _) ?_ | refine wpList_ld hE.out.env rfl 3 rfl 24 _ rfl rfl (ld24 _ _) ?_)) | ((with_reducible refine gate_store 56 ?_);(first | refine wpList_stR hE.out rfl 0 rfl 56 _ _ rfl _ rfl rfl rfl (by kernel_rfl) (reqC_one _ _ _ _) ?_ | refine wpList_stR hE.out rfl 1 rfl 56 _ _ rfl _ rfl rfl rfl (by kernel_rfl) (reqC_one _ _ _ _) ?_);intro V hE';(try dsimp only [List.set_cons_zero,List.set_cons_succ] at hE');replace hE :=Aside0.mk hE';clear hE') | ((with_reducible refine gate_store 24 ?_);(first | refine wpList_stR hE.out rfl 0 rfl 24 _ _ rfl _ rfl rfl rfl (by kernel_rfl) (vals_one _) ?_ | refine wpList_stR hE.out rfl 1 rfl 24 _ _ rfl _ rfl rfl rfl (by kernel_rfl) (vals_one _) ?_);intro V hE';(try dsimp only [List.set_cons_zero,List.set_cons_succ] at hE');replace hE :=Aside0.mk hE';clear hE'))
        have hlen : (b.take n).length = n :=by rw [List.length_take];have :=hnb.out;omega
        have hcase2 :=hcase.out
        clear hcase
        rw [hlen] at hcase2
        clear hlen
        have q30 :=(hE.out.env.at_ 1 _ _ rfl).2.cell 0 _ rfl
        rcases hcase2 with ⟨rfl,rfl,rfl,rfl⟩ | ⟨rfl,rfl,hi,rfl,H2⟩ | ⟨rfl,rfl,hi,rfl,H2⟩ | ⟨rfl,n1,n2,H2⟩ | ⟨rfl,rfl,hi,H2⟩
        · clear q30
          have q0 :=(hE.out.env.at_ 2 _ _ rfl).2.cell 0 _ rfl
          have q1 :=(hE.out.env.at_ 2 _ _ rfl).2.cell 2 _ rfl
          have q2 :=(hE.out.env.at_ 0 _ _ rfl).2.cell 9 _ rfl
          have q3 :=(hE.out.env.at_ 3 _ _ rfl).2.cell 9 _ rfl
          have h3 : (vs = 2 ∧ vo = 79) ∨ (vs = 2 ∧ (vo == 79) = false ∧ Aside0 (cs.r = ρ.r / 128 * 128 + (ρ.r % 128 + (fe : Int)) % 128)) ∨ ((vs == 2) = false ∧ True ∧ Aside0 (cs.r = ρ.r / 128 * 128 + (ρ.r % 128 + (fe : Int)) % 128)) :=by
            rcases hfin.out with h | h
            · exact .inl h
            · by_cases h4 : vs = 2
              · by_cases h5 : vo = 79
                · exact .inl ⟨h4,h5⟩
                · exact .inr (.inl ⟨h4,beq_eq_false_iff_ne.2 h5,⟨h⟩⟩)
              · exact .inr (.inr ⟨beq_eq_false_iff_ne.2 h4,trivial,⟨h⟩⟩)
          rcases h3 with ⟨rfl,rfl⟩ | ⟨rfl,e0,hr⟩ | ⟨e0,_,hr⟩
          · go_wp2_with fail
            go_ret
            exact ⟨rfl,hE.out.env.b⟩
          all_goals (
            go_wp2_with fail
            go_ret
            refine ⟨congrArg (fun z => Ending.returned (Value.bool z)) (beq_iff_eq.2 ?_),hE.out.env.b⟩
            have :=r0.out
            have :=r1.out
            have :=hF2.out
            rw [hr.out,Int.tdiv_eq_ediv_of_nonneg r0.out,Int.tmod_eq_emod_of_nonneg r0.out]
            omega)
        · have q31 :=(hE.out.env.at_ 1 _ _ rfl).2.cell 1 _ rfl
          have q32 :=(hE.out.env.at_ 3 _ _ rfl).2.cell 13 _ rfl
          have hn40 : n ≤ 40 :=by have :=hnb.out;have :=h1.out;omega
          have hb0 : ∀ V,Below W.heap.size W V → V.cell? (ad.add i) = some (.int .u8 (rd b (i : Int))) :=fun V hb => by
            obtain ⟨ad',e',h'⟩ :=Kd.at_int (hGb.out V hb) (i : Int) (by omega) (by have :=hnb.out;omega)
            cases e'
            simpa using h'
          have hrd : rd (b.take n) (i : Int) = rd b (i : Int) :=by simp [rd,List.getElem?_take,hi]
          have hbb : 0 ≤ rd b (i : Int) ∧ rd b (i : Int) < 256 :=rd_rng hbr.out (by have :=hnb.out;omega)
          rw [hrd] at H2
          clear hrd
          have e1 : (n ≤ i) = False :=eq_false (by omega)
          have e2 : decide ((i : Int) < (n : Int)) = true :=decide_eq_true (by omega)
          have e3 : ((ρ.pc + (i : Int)) % 65536 != IntKind.u16.wrap (ρ.pc + IntKind.u16.wrap (i : Int))) = false :=by simp only [B.wu16,bne_eq_false_iff_eq];omega
          have e4 : wrap64 ((i : Int) + 1) = ((i + 1 : Nat) : Int) :=by rw [B.w64 (by omega) (by omega)];omega
          replace hb0 :=Aside0.mk hb0
          replace hbb :=Aside0.mk hbb
          replace hn40 :=Aside0.mk hn40
          have e5 : wrap64 ((fe : Int) + 1) = ((fe + 1 : Nat) : Int) :=by rw [B.w64 (by omega) (by have :=HL.out;omega)];omega
          have e6 : wrap64 ((y.length : Int) + 1) = ((y.length + 1 : Nat) : Int) :=by rw [B.w64 (by omega) (by have :=HL.out;omega)];omega
          by_cases hlt : y.length < l.length
          · obtain ⟨ad2,ea,_⟩ :=Kd.at_int (hG.out _ (Below.refl _ _)) (y.length : Int) (by omega) (by omega)
            subst ea
            have hb1 : ∀ V,Below W.heap.size W V → V.cell? (ad2.add y.length) = some (.int .u8 (rd l y.length)) :=fun V hb => by
              obtain ⟨ad',e',h'⟩ :=Kd.at_int (hG.out V hb) (y.length : Int) (by omega) (by omega)
              cases e'
              simpa using h'
            have hdl : decide ((y.length : Int) < l.length) = true :=decide_eq_true (by omega)
            replace hb1 :=Aside0.mk hb1
            replace H2 :=Aside0.mk H2
            go_wp2_with (first | ((with_reducible refine gate_bsl 25 ?_);refine wpList_bslA rfl #[.int .u8 (rd b i)] 5 1 (by kernel_rfl) ?_) | ((with_reducible refine gate_builtin (b :=.append) (xs :=#[.tmp 154,.tmp 156]) rfl ?_);at_builtin;refine wpList_app8 hE.out (rd b i) rfl (.tmp 154) (.tmp 156) rfl rfl rfl (by have :=HL.out;omega) ?_;intro v2 V3 hE';replace hE :=Aside0.mk hE';clear hE') | ((with_reducible refine gate_load 5 ?_);first | refine wpList_ld8 rfl _ rfl rfl (hb1.out _ hE.out.env.b) ?_ | refine wpList_ld8 rfl _ rfl rfl (hb0.out _ hE.out.env.b) ?_))
            go_roundg k1
            case measure => omega
            case rel => exact ⟨_,_,_,H2,⟨by have h3 :=HL.out;refine ⟨by simp;omega,fun z hz => ?_,by simp;omega⟩;rcases List.mem_append.1 hz with h | h;exact h3.2.1 z h;rw [List.mem_singleton.1 h];exact hbb.out⟩,⟨hE.out.drop 2⟩,rfl,rfl,by rw [e6];simp⟩
          · have hdl : decide ((y.length : Int) < l.length) = false :=decide_eq_false (by omega)
            replace H2 :=Aside0.mk H2
            go_wp2_with (first | ((with_reducible refine gate_bsl 25 ?_);refine wpList_bslA rfl #[.int .u8 (rd b i)] 5 1 (by kernel_rfl) ?_) | ((with_reducible refine gate_builtin (b :=.append) (xs :=#[.tmp 154,.tmp 156]) rfl ?_);at_builtin;refine wpList_app8 hE.out (rd b i) rfl (.tmp 154) (.tmp 156) rfl rfl rfl (by have :=HL.out;omega) ?_;intro v2 V3 hE';replace hE :=Aside0.mk hE';clear hE') | ((with_reducible refine gate_load 5 ?_);refine wpList_ld8 rfl _ rfl rfl (hb0.out _ hE.out.env.b) ?_))
            go_roundg k1
            case measure => omega
            case rel => exact ⟨_,_,_,H2,⟨by have h3 :=HL.out;refine ⟨by simp;omega,fun z hz => ?_,by simp;omega⟩;rcases List.mem_append.1 hz with h | h;exact h3.2.1 z h;rw [List.mem_singleton.1 h];exact hbb.out⟩,⟨hE.out.drop 2⟩,rfl,rfl,by rw [e6];simp⟩
        · have q31 :=(hE.out.env.at_ 1 _ _ rfl).2.cell 1 _ rfl
          have q32 :=(hE.out.env.at_ 3 _ _ rfl).2.cell 13 _ rfl
          have hn40 : n ≤ 40 :=by have :=hnb.out;have :=h1.out;omega
          have hb0 : ∀ V,Below W.heap.size W V → V.cell? (ad.add i) = some (.int .u8 (rd b (i : Int))) :=fun V hb => by
            obtain ⟨ad',e',h'⟩ :=Kd.at_int (hGb.out V hb) (i : Int) (by omega) (by have :=hnb.out;omega)
            cases e'
            simpa using h'
          have hrd : rd (b.take n) (i : Int) = rd b (i : Int) :=by simp [rd,List.getElem?_take,hi]
          have hbb : 0 ≤ rd b (i : Int) ∧ rd b (i : Int) < 256 :=rd_rng hbr.out (by have :=hnb.out;omega)
          rw [hrd] at H2
          clear hrd
          have e1 : (n ≤ i) = False :=eq_false (by omega)
          have e2 : decide ((i : Int) < (n : Int)) = true :=decide_eq_true (by omega)
          have e3 : ((ρ.pc + (i : Int)) % 65536 != IntKind.u16.wrap (ρ.pc + IntKind.u16.wrap (i : Int))) = false :=by simp only [B.wu16,bne_eq_false_iff_eq];omega
          have e4 : wrap64 ((i : Int) + 1) = ((i + 1 : Nat) : Int) :=by rw [B.w64 (by omega) (by omega)];omega
          replace hb0 :=Aside0.mk hb0
          replace hbb :=Aside0.mk hbb
          replace hn40 :=Aside0.mk hn40
          have e6 : wrap64 ((y.length : Int) + 1) = ((y.length + 1 : Nat) : Int) :=by rw [B.w64 (by omega) (by have :=HL.out;omega)];omega
          by_cases hlt : y.length < l.length
          · obtain ⟨ad2,ea,_⟩ :=Kd.at_int (hG.out _ (Below.refl _ _)) (y.length : Int) (by omega) (by omega)
            subst ea
            have hb1 : ∀ V,Below W.heap.size W V → V.cell? (ad2.add y.length) = some (.int .u8 (rd l y.length)) :=fun V hb => by
              obtain ⟨ad',e',h'⟩ :=Kd.at_int (hG.out V hb) (y.length : Int) (by omega) (by omega)
              cases e'
              simpa using h'
            have hdl : decide ((y.length : Int) < l.length) = true :=decide_eq_true (by omega)
            replace hb1 :=Aside0.mk hb1
            replace H2 :=Aside0.mk H2
            go_wp2_with (first | ((with_reducible refine gate_bsl 25 ?_);refine wpList_bslA rfl #[.int .u8 (rd b i)] 5 1 (by kernel_rfl) ?_) | ((with_reducible refine gate_builtin (b :=.append) (xs :=#[.tmp 154,.tmp 156]) rfl ?_);at_builtin;refine wpList_app8 hE.out (rd b i) rfl (.tmp 154) (.tmp 156) rfl rfl rfl (by have :=HL.out;omega) ?_;intro v2 V3 hE';replace hE :=Aside0.mk hE';clear hE') | ((with_reducible refine gate_load 5 ?_);first | refine wpList_ld8 rfl _ rfl rfl (hb1.out _ hE.out.env.b) ?_ | refine wpList_ld8 rfl _ rfl rfl (hb0.out _ hE.out.env.b) ?_))
            go_roundg k1
            case measure => omega
            case rel => exact ⟨_,_,_,H2,⟨by have h3 :=HL.out;refine ⟨by simp;omega,fun z hz => ?_,by simp;omega⟩;rcases List.mem_append.1 hz with h | h;exact h3.2.1 z h;rw [List.mem_singleton.1 h];exact hbb.out⟩,⟨hE.out.drop 2⟩,rfl,rfl,by rw [e6];simp⟩
          · have hdl : decide ((y.length : Int) < l.length) = false :=decide_eq_false (by omega)
            replace H2 :=Aside0.mk H2
            go_wp2_with (first | ((with_reducible refine gate_bsl 25 ?_);refine wpList_bslA rfl #[.int .u8 (rd b i)] 5 1 (by kernel_rfl) ?_) | ((with_reducible refine gate_builtin (b :=.append) (xs :=#[.tmp 154,.tmp 156]) rfl ?_);at_builtin;refine wpList_app8 hE.out (rd b i) rfl (.tmp 154) (.tmp 156) rfl rfl rfl (by have :=HL.out;omega) ?_;intro v2 V3 hE';replace hE :=Aside0.mk hE';clear hE') | ((with_reducible refine gate_load 5 ?_);refine wpList_ld8 rfl _ rfl rfl (hb0.out _ hE.out.env.b) ?_))
            go_roundg k1
            case measure => omega
            case rel => exact ⟨_,_,_,H2,⟨by have h3 :=HL.out;refine ⟨by simp;omega,fun z hz => ?_,by simp;omega⟩;rcases List.mem_append.1 hz with h | h;exact h3.2.1 z h;rw [List.mem_singleton.1 h];exact hbb.out⟩,⟨hE.out.drop 2⟩,rfl,rfl,by rw [e6];simp⟩
        · have q31 :=(hE.out.env.at_ 1 _ _ rfl).2.cell 1 _ rfl
          have q32 :=(hE.out.env.at_ 3 _ _ rfl).2.cell 13 _ rfl
          have e1 : (ck == 1) = false :=beq_eq_false_iff_ne.2 n1
          have e2 : (ck == 2) = false :=beq_eq_false_iff_ne.2 n2
          clear n1 n2
          have e6 : wrap64 ((y.length : Int) + 1) = ((y.length + 1 : Nat) : Int) :=by rw [B.w64 (by omega) (by have :=HL.out;omega)];omega
          by_cases hlt : y.length < l.length
          · obtain ⟨ad2,ea,_⟩ :=Kd.at_int (hG.out _ (Below.refl _ _)) (y.length : Int) (by omega) (by omega)
            subst ea
            have hb1 : ∀ V,Below W.heap.size W V → V.cell? (ad2.add y.length) = some (.int .u8 (rd l y.length)) :=fun V hb => by
              obtain ⟨ad',e',h'⟩ :=Kd.at_int (hG.out V hb) (y.length : Int) (by omega) (by omega)
              cases e'
              simpa using h'
            have hbb : 0 ≤ rd l (y.length : Int) ∧ rd l (y.length : Int) < 256 :=rd_rng hlr.out hlt
            rw [show ansOf l y.length = rd l (y.length : Int) from if_pos hlt] at H2
            replace hbb :=Aside0.mk hbb
            have hdl : decide ((y.length : Int) < l.length) = true :=decide_eq_true (by omega)
            replace hb1 :=Aside0.mk hb1
            replace H2 :=Aside0.mk H2
            go_wp2_with (first | ((with_reducible refine gate_bsl 25 ?_);refine wpList_bslA rfl #[.int .u8 (rd l y.length)] 5 1 (by kernel_rfl) ?_) | ((with_reducible refine gate_builtin (b :=.append) (xs :=#[.tmp 154,.tmp 156]) rfl ?_);at_builtin;refine wpList_app8 hE.out (rd l y.length) rfl (.tmp 154) (.tmp 156) rfl rfl rfl (by have :=HL.out;omega) ?_;intro v2 V3 hE';replace hE :=Aside0.mk hE';clear hE') | ((with_reducible refine gate_load 5 ?_);refine wpList_ld8 rfl _ rfl rfl (hb1.out _ hE.out.env.b) ?_))
            go_roundg k1
            case measure => omega
            case rel => exact ⟨_,_,_,H2,⟨by have h3 :=HL.out;refine ⟨by simp;omega,fun z hz => ?_,by simp;omega⟩;rcases List.mem_append.1 hz with h | h;exact h3.2.1 z h;rw [List.mem_singleton.1 h];exact hbb.out⟩,⟨hE.out.drop 2⟩,rfl,rfl,by rw [e6];simp⟩
          · rw [show ansOf l y.length = 0 from if_neg hlt] at H2
            have hbb : Aside0 ((0 : Int) ≤ 0 ∧ (0 : Int) < 256) :=⟨by decide⟩
            have hdl : decide ((y.length : Int) < l.length) = false :=decide_eq_false (by omega)
            replace H2 :=Aside0.mk H2
            go_wp2_with (first | ((with_reducible refine gate_bsl 25 ?_);refine wpList_bslA rfl #[.int .u8 (0)] 5 1 (by kernel_rfl) ?_) | ((with_reducible refine gate_builtin (b :=.append) (xs :=#[.tmp 154,.tmp 156]) rfl ?_);at_builtin;refine wpList_app8 hE.out (0) rfl (.tmp 154) (.tmp 156) rfl rfl rfl (by have :=HL.out;omega) ?_;intro v2 V3 hE';replace hE :=Aside0.mk hE';clear hE'))
            go_roundg k1
            case measure => omega
            case rel => exact ⟨_,_,_,H2,⟨by have h3 :=HL.out;refine ⟨by simp;omega,fun z hz => ?_,by simp;omega⟩;rcases List.mem_append.1 hz with h | h;exact h3.2.1 z h;rw [List.mem_singleton.1 h];exact hbb.out⟩,⟨hE.out.drop 2⟩,rfl,rfl,by rw [e6];simp⟩
        · have q31 :=(hE.out.env.at_ 1 _ _ rfl).2.cell 1 _ rfl
          have q32 :=(hE.out.env.at_ 3 _ _ rfl).2.cell 13 _ rfl
          have e2 : decide ((i : Int) < (n : Int)) = false :=decide_eq_false (by omega)
          have e6 : wrap64 ((y.length : Int) + 1) = ((y.length + 1 : Nat) : Int) :=by rw [B.w64 (by omega) (by have :=HL.out;omega)];omega
          by_cases hlt : y.length < l.length
          · obtain ⟨ad2,ea,_⟩ :=Kd.at_int (hG.out _ (Below.refl _ _)) (y.length : Int) (by omega) (by omega)
            subst ea
            have hb1 : ∀ V,Below W.heap.size W V → V.cell? (ad2.add y.length) = some (.int .u8 (rd l y.length)) :=fun V hb => by
              obtain ⟨ad',e',h'⟩ :=Kd.at_int (hG.out V hb) (y.length : Int) (by omega) (by omega)
              cases e'
              simpa using h'
            have hbb : 0 ≤ rd l (y.length : Int) ∧ rd l (y.length : Int) < 256 :=rd_rng hlr.out hlt
            rw [show ansOf l y.length = rd l (y.length : Int) from if_pos hlt] at H2
            replace hbb :=Aside0.mk hbb
            have hdl : decide ((y.length : Int) < l.length) = true :=decide_eq_true (by omega)
            replace hb1 :=Aside0.mk hb1
            replace H2 :=Aside0.mk H2
            go_wp2_with (first | ((with_reducible refine gate_bsl 25 ?_);refine wpList_bslA rfl #[.int .u8 (rd l y.length)] 5 1 (by kernel_rfl) ?_) | ((with_reducible refine gate_builtin (b :=.append) (xs :=#[.tmp 154,.tmp 156]) rfl ?_);at_builtin;refine wpList_app8 hE.out (rd l y.length) rfl (.tmp 154) (.tmp 156) rfl rfl rfl (by have :=HL.out;omega) ?_;intro v2 V3 hE';replace hE :=Aside0.mk hE';clear hE') | ((with_reducible refine gate_load 5 ?_);refine wpList_ld8 rfl _ rfl rfl (hb1.out _ hE.out.env.b) ?_))
            go_roundg k1
            case measure => omega
            case rel => exact ⟨_,_,_,H2,⟨by have h3 :=HL.out;refine ⟨by simp;omega,fun z hz => ?_,by simp;omega⟩;rcases List.mem_append.1 hz with h | h;exact h3.2.1 z h;rw [List.mem_singleton.1 h];exact hbb.out⟩,⟨hE.out.drop 2⟩,rfl,rfl,by rw [e6];simp⟩
          · rw [show ansOf l y.length = 0 from if_neg hlt] at H2
            have hbb : Aside0 ((0 : Int) ≤ 0 ∧ (0 : Int) < 256) :=⟨by decide⟩
            have hdl : decide ((y.length : Int) < l.length) = false :=decide_eq_false (by omega)
            replace H2 :=Aside0.mk H2
            go_wp2_with (first | ((with_reducible refine gate_bsl 25 ?_);refine wpList_bslA rfl #[.int .u8 (0)] 5 1 (by kernel_rfl) ?_) | ((with_reducible refine gate_builtin (b :=.append) (xs :=#[.tmp 154,.tmp 156]) rfl ?_);at_builtin;refine wpList_app8 hE.out (0) rfl (.tmp 154) (.tmp 156) rfl rfl rfl (by have :=HL.out;omega) ?_;intro v2 V3 hE';replace hE :=Aside0.mk hE';clear hE'))
            go_roundg k1
            case measure => omega
            case rel => exact ⟨_,_,_,H2,⟨by have h3 :=HL.out;refine ⟨by simp;omega,fun z hz => ?_,by simp;omega⟩;rcases List.mem_append.1 hz with h | h;exact h3.2.1 z h;rw [List.mem_singleton.1 h];exact hbb.out⟩,⟨hE.out.drop 2⟩,rfl,rfl,by rw [e6];simp⟩
)
theorem readsRow {W : World} {ρ : Rg} (w0 : RgOk ρ) {b1 : Option Addr} {len1 cap1 : Nat} {z1 : List Int} (w1 : IsRow .u8 W b1 len1 cap1 z1) (_y1 : len1 * 1 ≤ 140737488351232) {b2 : Option Addr} {len2 cap2 : Nat} {z2 : List Int} (w2 : IsRow .u8 W b2 len2 cap2 z2) (_y2 : len2 * 1 ≤ 140737488351232) (ht : Table W) :
    Calls Tryz.prog 6 #[.agg ρ.vals,.slice b1 len1 cap1,.slice b2 len2 cap2] W fun e V => e = .returned (.bool true) ∧ Below W.heap.size W V :=by
  obtain ⟨b,rfl,hGb,hcb,hbr⟩ :=row_bytes w1
  obtain ⟨l,rfl,hG,hcp,hlr⟩ :=row_bytes w2
  obtain ⟨r,hv⟩ : ∃ r,refOf b = r :=⟨_,rfl⟩
  obtain ⟨⟨vs,vx,vo,vd,vi,vn⟩,er⟩ :=r
  by_cases h1 : b.length ≤ 40
  case neg => exact lrd_b hGb hcb hbr ht hv (by omega)
  by_cases h2 : l.length ≤ 40
  case neg => exact lrd_l hGb hcb hbr ht hv h1 (by omega)
  by_cases h3 : er = 0
  case neg => exact lrd_e hGb hcb hbr ht hv h1 h2 (bne_iff_ne.2 h3)
  subst h3
  cases hok : (decide (ρ.im < 0) || decide (ρ.im > 2)) with
  | true => exact lrd_bad hGb hcb hbr ht hv h1 h2 rfl hok
  | false =>
    have him : 0 ≤ ρ.im ∧ ρ.im ≤ 2 :=by
      simp only [Bool.or_eq_false_iff,decide_eq_false_iff_not] at hok
      omega
    cases hh : ρ.halt with
    | true => exact lrd_halt hGb hcb hbr ht hv h1 h2 rfl hh hok
    | false =>
      obtain ⟨n,fe,s,hn,hn1,hnb,H,hF2,hfin⟩ :=reads_ref hh w0.pc.1 w0.pc.2 w0.r.1 w0.r.2 hbr hlr hv
      have hn' : vn = (n : Int) :=hn
      subst hn'
      obtain ⟨ad,eA,_⟩ :=Kd.at_int (hGb W (Below.refl _ _)) 0 (by omega) (by omega)
      subst eA
      refine lrd_main (pk :=peekOf b) hGb hcb hbr hG hcp hlr ht him.1 him.2 hok h1 h2 hh w0.pc.1 w0.pc.2 w0.r.1 w0.r.2 hv hn1 hnb ?_ H hF2 hfin
      by_cases hb : 1 < b.length
      · refine .inl ⟨hb,fun V hbl => ?_⟩
        obtain ⟨ad',e',h'⟩ :=Kd.at_int (hGb V hbl) 1 (by omega) (by omega)
        cases e'
        rw [show peekOf b = rd b 1 from if_pos hb]
        simpa [Addr.add] using h'
      · exact .inr ⟨by omega,if_neg hb⟩
end Go.Proofs.YtnelghpendfdmaaGreatDoor.KRow
