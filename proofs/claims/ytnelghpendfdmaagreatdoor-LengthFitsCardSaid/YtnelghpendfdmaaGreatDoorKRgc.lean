/-
 PROVED: the contracts of package regs: Get, Put.
-/
import Derived.Test.YtnelghpendfdmaaGreatDoorKRgb
namespace Go.Proofs.YtnelghpendfdmaaGreatDoor.KRow
set_option maxRecDepth 100000
set_option maxHeartbeats 16000000
open Go Go.RowKit Go.Proofs.YtnelghpendfdmaaGreatDoorW.PrintWords Go.Proofs.YtnelghpendfdmaaGreatDoorW.PrintLast Go.Proofs.YtnelghpendfdmaaGreatDoorW.PrintMore
open Go.Proofs.YtnelghpendfdmaaGreatDoor.HFun
set_option linter.unusedVariables false
set_option linter.unusedSimpArgs false
theorem get_0_4 (r : Rg) (i code : Int) (w : World) (hi : Aside0 (ycg.f i 3 = some 0)) (hc : Aside0 (ycg.f code 8 = some 4)) :
  Calls Tryz.prog 93 #[.agg r.vals,.int .i64 i,.int .i64 code] w fun e w' => e = .returned (.int .u8 (r.h)) ∧ Below w.heap.size w w' :=by
 go_enter Tryz.func93,Tryz.ntmps93
 go_upto_region 1 with (fail)
 refine gen1r (P :=fun V => Code.wp _ _ _ _ V) w r (fun V hB hlt h => ?_)
 go_wp2_with (first | (go_at_call 115;refine (ycg.calls _ _ _ _ (by first | exact hi.out | exact hc.out)).mono ?_;rintro e w' ⟨rfl,hd⟩;have hb :=zaa hd;replace h :=h.under hb;replace hB :=below_then hB hB.size hb;clear hb;(try clear c6);have c6 :=h.cell 6 _ rfl;(try dsimp only [Rg.put] at c6);clear hd) | (go_at_call 121;refine (jo5.2.2.2.2.1 _ _).mono ?_;rintro e w' ⟨rfl,hb⟩;replace h :=h.under hb;replace hB :=below_then hB hB.size hb;clear hb;(try clear c6);have c6 :=h.cell 6 _ rfl;(try dsimp only [Rg.put] at c6)))
 go_ret
 exact ⟨rfl,hB⟩
theorem get_0_5 (r : Rg) (i code : Int) (w : World) (hi : Aside0 (ycg.f i 3 = some 0)) (hc : Aside0 (ycg.f code 8 = some 5)) :
  Calls Tryz.prog 93 #[.agg r.vals,.int .i64 i,.int .i64 code] w fun e w' => e = .returned (.int .u8 (r.l)) ∧ Below w.heap.size w w' :=by
 go_enter Tryz.func93,Tryz.ntmps93
 go_upto_region 1 with (fail)
 refine gen1r (P :=fun V => Code.wp _ _ _ _ V) w r (fun V hB hlt h => ?_)
 go_wp2_with (first | (go_at_call 115;refine (ycg.calls _ _ _ _ (by first | exact hi.out | exact hc.out)).mono ?_;rintro e w' ⟨rfl,hd⟩;have hb :=zaa hd;replace h :=h.under hb;replace hB :=below_then hB hB.size hb;clear hb;(try clear c7);have c7 :=h.cell 7 _ rfl;(try dsimp only [Rg.put] at c7);clear hd) | (go_at_call 121;refine (jo5.2.2.2.2.2.1 _ _).mono ?_;rintro e w' ⟨rfl,hb⟩;replace h :=h.under hb;replace hB :=below_then hB hB.size hb;clear hb;(try clear c7);have c7 :=h.cell 7 _ rfl;(try dsimp only [Rg.put] at c7)))
 go_ret
 exact ⟨rfl,hB⟩
theorem jo12 : (∀ (r : Rg) (i code : Int) (w : World) (hi : Aside0 (ycg.f i 3 = some 1)) (hc : Aside0 (ycg.f code 8 = some 4)), Calls Tryz.prog 93 #[.agg r.vals,.int .i64 i,.int .i64 code] w fun e w' => e = .returned (.int .u8 (r.ix / 256 % 256)) ∧ Below w.heap.size w w') ∧ (∀ (r : Rg) (i code : Int) (w : World) (hi : Aside0 (ycg.f i 3 = some 1)) (hc : Aside0 (ycg.f code 8 = some 5)), Calls Tryz.prog 93 #[.agg r.vals,.int .i64 i,.int .i64 code] w fun e w' => e = .returned (.int .u8 (r.ix % 256)) ∧ Below w.heap.size w w') :=by
 refine ⟨?_,?_⟩
 all_goals
  intro r i code w hi hc
  go_enter Tryz.func93,Tryz.ntmps93
  go_upto_region 1 with (fail)
  refine gen1r (P :=fun V => Code.wp _ _ _ _ V) w r (fun V hB hlt h => ?_)
  go_wp2_with (first | ((first | (go_at_call 115;refine (ycg.calls _ _ _ _ (by first | exact hi.out | exact hc.out)).mono ?_) | (go_at_call 107;refine (ydr.calls _ _ _ _ (zby _)).mono ?_));rintro e w' ⟨rfl,hd⟩;have hb :=zaa hd;replace h :=h.under hb;replace hB :=below_then hB hB.size hb;clear hb;(try clear c10);have c10 :=h.cell 10 _ rfl;(try dsimp only [Rg.put] at c10);clear hd) | (go_at_call 120;refine (jo4.2.1 _ _).mono ?_;rintro e w' ⟨rfl,hb⟩;replace h :=h.under hb;replace hB :=below_then hB hB.size hb;clear hb;(try clear c10);have c10 :=h.cell 10 _ rfl;(try dsimp only [Rg.put] at c10)))
  go_ret
  exact ⟨rfl,hB⟩
theorem jo6 : (∀ (r : Rg) (i code : Int) (w : World) (hi : Aside0 (ycg.f i 3 = some 0)) (hc : Aside0 (ycg.f code 8 = some 0)), Calls Tryz.prog 93 #[.agg r.vals,.int .i64 i,.int .i64 code] w fun e w' => e = .returned (.int .u8 (r.b)) ∧ Below w.heap.size w w') ∧ (∀ (r : Rg) (i code : Int) (w : World) (hi : Aside0 (ycg.f i 3 = some 1)) (hc : Aside0 (ycg.f code 8 = some 0)), Calls Tryz.prog 93 #[.agg r.vals,.int .i64 i,.int .i64 code] w fun e w' => e = .returned (.int .u8 (r.b)) ∧ Below w.heap.size w w') ∧ (∀ (r : Rg) (i code : Int) (w : World) (hi : Aside0 (ycg.f i 3 = some 2)) (hc : Aside0 (ycg.f code 8 = some 0)), Calls Tryz.prog 93 #[.agg r.vals,.int .i64 i,.int .i64 code] w fun e w' => e = .returned (.int .u8 (r.b)) ∧ Below w.heap.size w w') :=by
 refine ⟨?_,?_,?_⟩
 all_goals
  intro r i code w hi hc
  go_enter Tryz.func93,Tryz.ntmps93
  go_upto_region 1 with (fail)
  refine gen1r (P :=fun V => Code.wp _ _ _ _ V) w r (fun V hB hlt h => ?_)
  go_wp2_with (first | (go_at_call 115;refine (ycg.calls _ _ _ _ (by first | exact hi.out | exact hc.out)).mono ?_;rintro e w' ⟨rfl,hd⟩;have hb :=zaa hd;replace h :=h.under hb;replace hB :=below_then hB hB.size hb;clear hb;(try clear c2);have c2 :=h.cell 2 _ rfl;(try dsimp only [Rg.put] at c2);clear hd) | (go_at_call 121;refine (jo5.1 _ _).mono ?_;rintro e w' ⟨rfl,hb⟩;replace h :=h.under hb;replace hB :=below_then hB hB.size hb;clear hb;(try clear c2);have c2 :=h.cell 2 _ rfl;(try dsimp only [Rg.put] at c2)))
  go_ret
  exact ⟨rfl,hB⟩
theorem jo7 : (∀ (r : Rg) (i code : Int) (w : World) (hi : Aside0 (ycg.f i 3 = some 0)) (hc : Aside0 (ycg.f code 8 = some 1)), Calls Tryz.prog 93 #[.agg r.vals,.int .i64 i,.int .i64 code] w fun e w' => e = .returned (.int .u8 (r.c)) ∧ Below w.heap.size w w') ∧ (∀ (r : Rg) (i code : Int) (w : World) (hi : Aside0 (ycg.f i 3 = some 1)) (hc : Aside0 (ycg.f code 8 = some 1)), Calls Tryz.prog 93 #[.agg r.vals,.int .i64 i,.int .i64 code] w fun e w' => e = .returned (.int .u8 (r.c)) ∧ Below w.heap.size w w') ∧ (∀ (r : Rg) (i code : Int) (w : World) (hi : Aside0 (ycg.f i 3 = some 2)) (hc : Aside0 (ycg.f code 8 = some 1)), Calls Tryz.prog 93 #[.agg r.vals,.int .i64 i,.int .i64 code] w fun e w' => e = .returned (.int .u8 (r.c)) ∧ Below w.heap.size w w') :=by
 refine ⟨?_,?_,?_⟩
 all_goals
  intro r i code w hi hc
  go_enter Tryz.func93,Tryz.ntmps93
  go_upto_region 1 with (fail)
  refine gen1r (P :=fun V => Code.wp _ _ _ _ V) w r (fun V hB hlt h => ?_)
  go_wp2_with (first | (go_at_call 115;refine (ycg.calls _ _ _ _ (by first | exact hi.out | exact hc.out)).mono ?_;rintro e w' ⟨rfl,hd⟩;have hb :=zaa hd;replace h :=h.under hb;replace hB :=below_then hB hB.size hb;clear hb;(try clear c3);have c3 :=h.cell 3 _ rfl;(try dsimp only [Rg.put] at c3);clear hd) | (go_at_call 121;refine (jo5.2.1 _ _).mono ?_;rintro e w' ⟨rfl,hb⟩;replace h :=h.under hb;replace hB :=below_then hB hB.size hb;clear hb;(try clear c3);have c3 :=h.cell 3 _ rfl;(try dsimp only [Rg.put] at c3)))
  go_ret
  exact ⟨rfl,hB⟩
theorem jo8 : (∀ (r : Rg) (i code : Int) (w : World) (hi : Aside0 (ycg.f i 3 = some 0)) (hc : Aside0 (ycg.f code 8 = some 2)), Calls Tryz.prog 93 #[.agg r.vals,.int .i64 i,.int .i64 code] w fun e w' => e = .returned (.int .u8 (r.d)) ∧ Below w.heap.size w w') ∧ (∀ (r : Rg) (i code : Int) (w : World) (hi : Aside0 (ycg.f i 3 = some 1)) (hc : Aside0 (ycg.f code 8 = some 2)), Calls Tryz.prog 93 #[.agg r.vals,.int .i64 i,.int .i64 code] w fun e w' => e = .returned (.int .u8 (r.d)) ∧ Below w.heap.size w w') ∧ (∀ (r : Rg) (i code : Int) (w : World) (hi : Aside0 (ycg.f i 3 = some 2)) (hc : Aside0 (ycg.f code 8 = some 2)), Calls Tryz.prog 93 #[.agg r.vals,.int .i64 i,.int .i64 code] w fun e w' => e = .returned (.int .u8 (r.d)) ∧ Below w.heap.size w w') :=by
 refine ⟨?_,?_,?_⟩
 all_goals
  intro r i code w hi hc
  go_enter Tryz.func93,Tryz.ntmps93
  go_upto_region 1 with (fail)
  refine gen1r (P :=fun V => Code.wp _ _ _ _ V) w r (fun V hB hlt h => ?_)
  go_wp2_with (first | (go_at_call 115;refine (ycg.calls _ _ _ _ (by first | exact hi.out | exact hc.out)).mono ?_;rintro e w' ⟨rfl,hd⟩;have hb :=zaa hd;replace h :=h.under hb;replace hB :=below_then hB hB.size hb;clear hb;(try clear c4);have c4 :=h.cell 4 _ rfl;(try dsimp only [Rg.put] at c4);clear hd) | (go_at_call 121;refine (jo5.2.2.1 _ _).mono ?_;rintro e w' ⟨rfl,hb⟩;replace h :=h.under hb;replace hB :=below_then hB hB.size hb;clear hb;(try clear c4);have c4 :=h.cell 4 _ rfl;(try dsimp only [Rg.put] at c4)))
  go_ret
  exact ⟨rfl,hB⟩
theorem jo9 : (∀ (r : Rg) (i code : Int) (w : World) (hi : Aside0 (ycg.f i 3 = some 0)) (hc : Aside0 (ycg.f code 8 = some 3)), Calls Tryz.prog 93 #[.agg r.vals,.int .i64 i,.int .i64 code] w fun e w' => e = .returned (.int .u8 (r.e)) ∧ Below w.heap.size w w') ∧ (∀ (r : Rg) (i code : Int) (w : World) (hi : Aside0 (ycg.f i 3 = some 1)) (hc : Aside0 (ycg.f code 8 = some 3)), Calls Tryz.prog 93 #[.agg r.vals,.int .i64 i,.int .i64 code] w fun e w' => e = .returned (.int .u8 (r.e)) ∧ Below w.heap.size w w') ∧ (∀ (r : Rg) (i code : Int) (w : World) (hi : Aside0 (ycg.f i 3 = some 2)) (hc : Aside0 (ycg.f code 8 = some 3)), Calls Tryz.prog 93 #[.agg r.vals,.int .i64 i,.int .i64 code] w fun e w' => e = .returned (.int .u8 (r.e)) ∧ Below w.heap.size w w') :=by
 refine ⟨?_,?_,?_⟩
 all_goals
  intro r i code w hi hc
  go_enter Tryz.func93,Tryz.ntmps93
  go_upto_region 1 with (fail)
  refine gen1r (P :=fun V => Code.wp _ _ _ _ V) w r (fun V hB hlt h => ?_)
  go_wp2_with (first | (go_at_call 115;refine (ycg.calls _ _ _ _ (by first | exact hi.out | exact hc.out)).mono ?_;rintro e w' ⟨rfl,hd⟩;have hb :=zaa hd;replace h :=h.under hb;replace hB :=below_then hB hB.size hb;clear hb;(try clear c5);have c5 :=h.cell 5 _ rfl;(try dsimp only [Rg.put] at c5);clear hd) | (go_at_call 121;refine (jo5.2.2.2.1 _ _).mono ?_;rintro e w' ⟨rfl,hb⟩;replace h :=h.under hb;replace hB :=below_then hB hB.size hb;clear hb;(try clear c5);have c5 :=h.cell 5 _ rfl;(try dsimp only [Rg.put] at c5)))
  go_ret
  exact ⟨rfl,hB⟩
theorem jo13 : (∀ (r : Rg) (i code : Int) (w : World) (hi : Aside0 (ycg.f i 3 = some 2)) (hc : Aside0 (ycg.f code 8 = some 4)), Calls Tryz.prog 93 #[.agg r.vals,.int .i64 i,.int .i64 code] w fun e w' => e = .returned (.int .u8 (r.iy / 256 % 256)) ∧ Below w.heap.size w w') ∧ (∀ (r : Rg) (i code : Int) (w : World) (hi : Aside0 (ycg.f i 3 = some 2)) (hc : Aside0 (ycg.f code 8 = some 5)), Calls Tryz.prog 93 #[.agg r.vals,.int .i64 i,.int .i64 code] w fun e w' => e = .returned (.int .u8 (r.iy % 256)) ∧ Below w.heap.size w w') :=by
 refine ⟨?_,?_⟩
 all_goals
  intro r i code w hi hc
  go_enter Tryz.func93,Tryz.ntmps93
  go_upto_region 1 with (fail)
  refine gen1r (P :=fun V => Code.wp _ _ _ _ V) w r (fun V hB hlt h => ?_)
  go_wp2_with (first | ((first | (go_at_call 115;refine (ycg.calls _ _ _ _ (by first | exact hi.out | exact hc.out)).mono ?_) | (go_at_call 107;refine (ydr.calls _ _ _ _ (zby _)).mono ?_));rintro e w' ⟨rfl,hd⟩;have hb :=zaa hd;replace h :=h.under hb;replace hB :=below_then hB hB.size hb;clear hb;(try clear c11);have c11 :=h.cell 11 _ rfl;(try dsimp only [Rg.put] at c11);clear hd) | (go_at_call 120;refine (jo4.2.2 _ _).mono ?_;rintro e w' ⟨rfl,hb⟩;replace h :=h.under hb;replace hB :=below_then hB hB.size hb;clear hb;(try clear c11);have c11 :=h.cell 11 _ rfl;(try dsimp only [Rg.put] at c11)))
  go_ret
  exact ⟨rfl,hB⟩
theorem jo10 : (∀ (r : Rg) (i code : Int) (w : World) (hi : Aside0 (ycg.f i 3 = some 0)) (hc : Aside0 (ycg.f code 8 = some 6)), Calls Tryz.prog 93 #[.agg r.vals,.int .i64 i,.int .i64 code] w fun e w' => e = .returned (.int .u8 (0)) ∧ Below w.heap.size w w') ∧ (∀ (r : Rg) (i code : Int) (w : World) (hi : Aside0 (ycg.f i 3 = some 1)) (hc : Aside0 (ycg.f code 8 = some 6)), Calls Tryz.prog 93 #[.agg r.vals,.int .i64 i,.int .i64 code] w fun e w' => e = .returned (.int .u8 (0)) ∧ Below w.heap.size w w') ∧ (∀ (r : Rg) (i code : Int) (w : World) (hi : Aside0 (ycg.f i 3 = some 2)) (hc : Aside0 (ycg.f code 8 = some 6)), Calls Tryz.prog 93 #[.agg r.vals,.int .i64 i,.int .i64 code] w fun e w' => e = .returned (.int .u8 (0)) ∧ Below w.heap.size w w') :=by
 refine ⟨?_,?_,?_⟩
 all_goals
  intro r i code w hi hc
  go_enter Tryz.func93,Tryz.ntmps93
  go_upto_region 1 with (fail)
  refine gen1r (P :=fun V => Code.wp _ _ _ _ V) w r (fun V hB hlt h => ?_)
  go_wp2_with (go_at_call 115;refine (ycg.calls _ _ _ _ (by first | exact hi.out | exact hc.out)).mono ?_;rintro e w' ⟨rfl,hd⟩;have hb :=zaa hd;replace h :=h.under hb;replace hB :=below_then hB hB.size hb;clear hb;skip;clear hd)
  go_ret
  exact ⟨rfl,hB⟩
theorem jo11 : (∀ (r : Rg) (i code : Int) (w : World) (hi : Aside0 (ycg.f i 3 = some 0)) (hc : Aside0 (ycg.f code 8 = some 7)), Calls Tryz.prog 93 #[.agg r.vals,.int .i64 i,.int .i64 code] w fun e w' => e = .returned (.int .u8 (r.a)) ∧ Below w.heap.size w w') ∧ (∀ (r : Rg) (i code : Int) (w : World) (hi : Aside0 (ycg.f i 3 = some 1)) (hc : Aside0 (ycg.f code 8 = some 7)), Calls Tryz.prog 93 #[.agg r.vals,.int .i64 i,.int .i64 code] w fun e w' => e = .returned (.int .u8 (r.a)) ∧ Below w.heap.size w w') ∧ (∀ (r : Rg) (i code : Int) (w : World) (hi : Aside0 (ycg.f i 3 = some 2)) (hc : Aside0 (ycg.f code 8 = some 7)), Calls Tryz.prog 93 #[.agg r.vals,.int .i64 i,.int .i64 code] w fun e w' => e = .returned (.int .u8 (r.a)) ∧ Below w.heap.size w w') :=by
 refine ⟨?_,?_,?_⟩
 all_goals
  intro r i code w hi hc
  go_enter Tryz.func93,Tryz.ntmps93
  go_upto_region 1 with (fail)
  refine gen1r (P :=fun V => Code.wp _ _ _ _ V) w r (fun V hB hlt h => ?_)
  go_wp2_with (first | (go_at_call 115;refine (ycg.calls _ _ _ _ (by first | exact hi.out | exact hc.out)).mono ?_;rintro e w' ⟨rfl,hd⟩;have hb :=zaa hd;replace h :=h.under hb;replace hB :=below_then hB hB.size hb;clear hb;(try clear c0);have c0 :=h.cell 0 _ rfl;(try dsimp only [Rg.put] at c0);clear hd) | (go_at_call 121;refine (jo5.2.2.2.2.2.2 _ _).mono ?_;rintro e w' ⟨rfl,hb⟩;replace h :=h.under hb;replace hB :=below_then hB hB.size hb;clear hb;(try clear c0);have c0 :=h.cell 0 _ rfl;(try dsimp only [Rg.put] at c0)))
  go_ret
  exact ⟨rfl,hB⟩
theorem put_0_0 (r : Rg) (i code v : Int) (w : World) (hi : Aside0 (ycg.f i 3 = some 0)) (hc : Aside0 (ycg.f code 8 = some 0)) :
  Calls Tryz.prog 90 #[.agg r.vals,.int .i64 i,.int .i64 code,.int .u8 v] w fun e w' => e = .returned (.agg ({ r with b :=v } : Rg).vals) ∧ Below w.heap.size w w' :=by
 go_enter Tryz.func90,Tryz.ntmps90
 go_upto_region 1 with (fail)
 refine zbs (P :=fun V => Code.wp _ _ _ _ V) w r (fun V hB hlt h h1 => ?_)
 go_wp2_with (first | (go_at_call 115;refine (ycg.calls _ _ _ _ (by first | exact hi.out | exact hc.out)).mono ?_;rintro e w' ⟨rfl,hd⟩;have hb :=zaa hd;replace h :=h.under hb;replace h1 :=h1.under hb;replace hB :=below_then hB hB.size hb;clear hb;skip;clear hd) | ((first | ((first | (go_at_call 120;refine (jo4.1 _ _).mono ?_) | (go_at_call 121;refine (jo5.1 _ _).mono ?_));rintro e w' ⟨rfl,hb⟩;replace h :=h.under hb;replace h1 :=h1.under hb;replace hB :=below_then hB hB.size hb;clear hb) | ((with_reducible refine gate_store 5 ?_);refine zar h rfl _ _ rfl _ _ rfl rfl rfl (by decide) ?_;intro V' hk hr;replace hB :=zaj hB hk (Nat.le_refl _) hB.size;replace h1 :=h1.kp hk (by omega);replace h :=hr;clear hk hr));skip) | ((with_reducible refine gate_load 24 ?_);refine zal h rfl _ rfl rfl ?_) | ((with_reducible refine gate_store 24 ?_);refine zah h1 rfl _ _ rfl _ rfl rfl ?_;intro V' hk hr;replace hB :=zaj hB hk (Nat.le_succ _) hB.size;replace h1 :=hr;clear hk hr))
 refine bodyPost_ret (zaq Tryz.results90 _ h1 rfl) rfl ?_
 exact ⟨rfl,hB⟩
theorem put_0_1 (r : Rg) (i code v : Int) (w : World) (hi : Aside0 (ycg.f i 3 = some 0)) (hc : Aside0 (ycg.f code 8 = some 1)) :
  Calls Tryz.prog 90 #[.agg r.vals,.int .i64 i,.int .i64 code,.int .u8 v] w fun e w' => e = .returned (.agg ({ r with c :=v } : Rg).vals) ∧ Below w.heap.size w w' :=by
 go_enter Tryz.func90,Tryz.ntmps90
 go_upto_region 1 with (fail)
 refine zbs (P :=fun V => Code.wp _ _ _ _ V) w r (fun V hB hlt h h1 => ?_)
 go_wp2_with (first | (go_at_call 115;refine (ycg.calls _ _ _ _ (by first | exact hi.out | exact hc.out)).mono ?_;rintro e w' ⟨rfl,hd⟩;have hb :=zaa hd;replace h :=h.under hb;replace h1 :=h1.under hb;replace hB :=below_then hB hB.size hb;clear hb;skip;clear hd) | ((first | ((first | (go_at_call 120;refine (jo4.1 _ _).mono ?_) | (go_at_call 121;refine (jo5.2.1 _ _).mono ?_));rintro e w' ⟨rfl,hb⟩;replace h :=h.under hb;replace h1 :=h1.under hb;replace hB :=below_then hB hB.size hb;clear hb) | ((with_reducible refine gate_store 5 ?_);refine zar h rfl _ _ rfl _ _ rfl rfl rfl (by decide) ?_;intro V' hk hr;replace hB :=zaj hB hk (Nat.le_refl _) hB.size;replace h1 :=h1.kp hk (by omega);replace h :=hr;clear hk hr));skip) | ((with_reducible refine gate_load 24 ?_);refine zal h rfl _ rfl rfl ?_) | ((with_reducible refine gate_store 24 ?_);refine zah h1 rfl _ _ rfl _ rfl rfl ?_;intro V' hk hr;replace hB :=zaj hB hk (Nat.le_succ _) hB.size;replace h1 :=hr;clear hk hr))
 refine bodyPost_ret (zaq Tryz.results90 _ h1 rfl) rfl ?_
 exact ⟨rfl,hB⟩
theorem put_0_2 (r : Rg) (i code v : Int) (w : World) (hi : Aside0 (ycg.f i 3 = some 0)) (hc : Aside0 (ycg.f code 8 = some 2)) :
  Calls Tryz.prog 90 #[.agg r.vals,.int .i64 i,.int .i64 code,.int .u8 v] w fun e w' => e = .returned (.agg ({ r with d :=v } : Rg).vals) ∧ Below w.heap.size w w' :=by
 go_enter Tryz.func90,Tryz.ntmps90
 go_upto_region 1 with (fail)
 refine zbs (P :=fun V => Code.wp _ _ _ _ V) w r (fun V hB hlt h h1 => ?_)
 go_wp2_with (first | (go_at_call 115;refine (ycg.calls _ _ _ _ (by first | exact hi.out | exact hc.out)).mono ?_;rintro e w' ⟨rfl,hd⟩;have hb :=zaa hd;replace h :=h.under hb;replace h1 :=h1.under hb;replace hB :=below_then hB hB.size hb;clear hb;skip;clear hd) | ((first | ((first | (go_at_call 120;refine (jo4.1 _ _).mono ?_) | (go_at_call 121;refine (jo5.2.2.1 _ _).mono ?_));rintro e w' ⟨rfl,hb⟩;replace h :=h.under hb;replace h1 :=h1.under hb;replace hB :=below_then hB hB.size hb;clear hb) | ((with_reducible refine gate_store 5 ?_);refine zar h rfl _ _ rfl _ _ rfl rfl rfl (by decide) ?_;intro V' hk hr;replace hB :=zaj hB hk (Nat.le_refl _) hB.size;replace h1 :=h1.kp hk (by omega);replace h :=hr;clear hk hr));skip) | ((with_reducible refine gate_load 24 ?_);refine zal h rfl _ rfl rfl ?_) | ((with_reducible refine gate_store 24 ?_);refine zah h1 rfl _ _ rfl _ rfl rfl ?_;intro V' hk hr;replace hB :=zaj hB hk (Nat.le_succ _) hB.size;replace h1 :=hr;clear hk hr))
 refine bodyPost_ret (zaq Tryz.results90 _ h1 rfl) rfl ?_
 exact ⟨rfl,hB⟩
theorem put_0_3 (r : Rg) (i code v : Int) (w : World) (hi : Aside0 (ycg.f i 3 = some 0)) (hc : Aside0 (ycg.f code 8 = some 3)) :
  Calls Tryz.prog 90 #[.agg r.vals,.int .i64 i,.int .i64 code,.int .u8 v] w fun e w' => e = .returned (.agg ({ r with e :=v } : Rg).vals) ∧ Below w.heap.size w w' :=by
 go_enter Tryz.func90,Tryz.ntmps90
 go_upto_region 1 with (fail)
 refine zbs (P :=fun V => Code.wp _ _ _ _ V) w r (fun V hB hlt h h1 => ?_)
 go_wp2_with (first | (go_at_call 115;refine (ycg.calls _ _ _ _ (by first | exact hi.out | exact hc.out)).mono ?_;rintro e w' ⟨rfl,hd⟩;have hb :=zaa hd;replace h :=h.under hb;replace h1 :=h1.under hb;replace hB :=below_then hB hB.size hb;clear hb;skip;clear hd) | ((first | ((first | (go_at_call 120;refine (jo4.1 _ _).mono ?_) | (go_at_call 121;refine (jo5.2.2.2.1 _ _).mono ?_));rintro e w' ⟨rfl,hb⟩;replace h :=h.under hb;replace h1 :=h1.under hb;replace hB :=below_then hB hB.size hb;clear hb) | ((with_reducible refine gate_store 5 ?_);refine zar h rfl _ _ rfl _ _ rfl rfl rfl (by decide) ?_;intro V' hk hr;replace hB :=zaj hB hk (Nat.le_refl _) hB.size;replace h1 :=h1.kp hk (by omega);replace h :=hr;clear hk hr));skip) | ((with_reducible refine gate_load 24 ?_);refine zal h rfl _ rfl rfl ?_) | ((with_reducible refine gate_store 24 ?_);refine zah h1 rfl _ _ rfl _ rfl rfl ?_;intro V' hk hr;replace hB :=zaj hB hk (Nat.le_succ _) hB.size;replace h1 :=hr;clear hk hr))
 refine bodyPost_ret (zaq Tryz.results90 _ h1 rfl) rfl ?_
 exact ⟨rfl,hB⟩
theorem put_0_4 (r : Rg) (i code v : Int) (w : World) (hi : Aside0 (ycg.f i 3 = some 0)) (hc : Aside0 (ycg.f code 8 = some 4)) :
  Calls Tryz.prog 90 #[.agg r.vals,.int .i64 i,.int .i64 code,.int .u8 v] w fun e w' => e = .returned (.agg ({ r with h :=v } : Rg).vals) ∧ Below w.heap.size w w' :=by
 go_enter Tryz.func90,Tryz.ntmps90
 go_upto_region 1 with (fail)
 refine zbs (P :=fun V => Code.wp _ _ _ _ V) w r (fun V hB hlt h h1 => ?_)
 go_wp2_with (first | (go_at_call 115;refine (ycg.calls _ _ _ _ (by first | exact hi.out | exact hc.out)).mono ?_;rintro e w' ⟨rfl,hd⟩;have hb :=zaa hd;replace h :=h.under hb;replace h1 :=h1.under hb;replace hB :=below_then hB hB.size hb;clear hb;skip;clear hd) | ((first | ((first | (go_at_call 120;refine (jo4.1 _ _).mono ?_) | (go_at_call 121;refine (jo5.2.2.2.2.1 _ _).mono ?_));rintro e w' ⟨rfl,hb⟩;replace h :=h.under hb;replace h1 :=h1.under hb;replace hB :=below_then hB hB.size hb;clear hb) | ((with_reducible refine gate_store 5 ?_);refine zar h rfl _ _ rfl _ _ rfl rfl rfl (by decide) ?_;intro V' hk hr;replace hB :=zaj hB hk (Nat.le_refl _) hB.size;replace h1 :=h1.kp hk (by omega);replace h :=hr;clear hk hr));skip) | ((with_reducible refine gate_load 24 ?_);refine zal h rfl _ rfl rfl ?_) | ((with_reducible refine gate_store 24 ?_);refine zah h1 rfl _ _ rfl _ rfl rfl ?_;intro V' hk hr;replace hB :=zaj hB hk (Nat.le_succ _) hB.size;replace h1 :=hr;clear hk hr))
 refine bodyPost_ret (zaq Tryz.results90 _ h1 rfl) rfl ?_
 exact ⟨rfl,hB⟩
theorem put_0_5 (r : Rg) (i code v : Int) (w : World) (hi : Aside0 (ycg.f i 3 = some 0)) (hc : Aside0 (ycg.f code 8 = some 5)) :
  Calls Tryz.prog 90 #[.agg r.vals,.int .i64 i,.int .i64 code,.int .u8 v] w fun e w' => e = .returned (.agg ({ r with l :=v } : Rg).vals) ∧ Below w.heap.size w w' :=by
 go_enter Tryz.func90,Tryz.ntmps90
 go_upto_region 1 with (fail)
 refine zbs (P :=fun V => Code.wp _ _ _ _ V) w r (fun V hB hlt h h1 => ?_)
 go_wp2_with (first | (go_at_call 115;refine (ycg.calls _ _ _ _ (by first | exact hi.out | exact hc.out)).mono ?_;rintro e w' ⟨rfl,hd⟩;have hb :=zaa hd;replace h :=h.under hb;replace h1 :=h1.under hb;replace hB :=below_then hB hB.size hb;clear hb;skip;clear hd) | ((first | ((first | (go_at_call 120;refine (jo4.1 _ _).mono ?_) | (go_at_call 121;refine (jo5.2.2.2.2.2.1 _ _).mono ?_));rintro e w' ⟨rfl,hb⟩;replace h :=h.under hb;replace h1 :=h1.under hb;replace hB :=below_then hB hB.size hb;clear hb) | ((with_reducible refine gate_store 5 ?_);refine zar h rfl _ _ rfl _ _ rfl rfl rfl (by decide) ?_;intro V' hk hr;replace hB :=zaj hB hk (Nat.le_refl _) hB.size;replace h1 :=h1.kp hk (by omega);replace h :=hr;clear hk hr));skip) | ((with_reducible refine gate_load 24 ?_);refine zal h rfl _ rfl rfl ?_) | ((with_reducible refine gate_store 24 ?_);refine zah h1 rfl _ _ rfl _ rfl rfl ?_;intro V' hk hr;replace hB :=zaj hB hk (Nat.le_succ _) hB.size;replace h1 :=hr;clear hk hr))
 refine bodyPost_ret (zaq Tryz.results90 _ h1 rfl) rfl ?_
 exact ⟨rfl,hB⟩
theorem put_0_6 (r : Rg) (i code v : Int) (w : World) (hi : Aside0 (ycg.f i 3 = some 0)) (hc : Aside0 (ycg.f code 8 = some 6)) :
  Calls Tryz.prog 90 #[.agg r.vals,.int .i64 i,.int .i64 code,.int .u8 v] w fun e w' => e = .returned (.agg r.vals) ∧ Below w.heap.size w w' :=by
 go_enter Tryz.func90,Tryz.ntmps90
 go_upto_region 1 with (fail)
 refine zbs (P :=fun V => Code.wp _ _ _ _ V) w r (fun V hB hlt h h1 => ?_)
 go_wp2_with (first | (go_at_call 115;refine (ycg.calls _ _ _ _ (by first | exact hi.out | exact hc.out)).mono ?_;rintro e w' ⟨rfl,hd⟩;have hb :=zaa hd;replace h :=h.under hb;replace h1 :=h1.under hb;replace hB :=below_then hB hB.size hb;clear hb;skip;clear hd) | (go_at_call 120;refine (jo4.1 _ _).mono ?_;rintro e w' ⟨rfl,hb⟩;replace h :=h.under hb;replace h1 :=h1.under hb;replace hB :=below_then hB hB.size hb;clear hb;skip) | ((with_reducible refine gate_load 24 ?_);refine zal h rfl _ rfl rfl ?_) | ((with_reducible refine gate_store 24 ?_);refine zah h1 rfl _ _ rfl _ rfl rfl ?_;intro V' hk hr;replace hB :=zaj hB hk (Nat.le_succ _) hB.size;replace h1 :=hr;clear hk hr))
 refine bodyPost_ret (zaq Tryz.results90 _ h1 rfl) rfl ?_
 exact ⟨rfl,hB⟩
theorem put_0_7 (r : Rg) (i code v : Int) (w : World) (hi : Aside0 (ycg.f i 3 = some 0)) (hc : Aside0 (ycg.f code 8 = some 7)) :
  Calls Tryz.prog 90 #[.agg r.vals,.int .i64 i,.int .i64 code,.int .u8 v] w fun e w' => e = .returned (.agg ({ r with a :=v } : Rg).vals) ∧ Below w.heap.size w w' :=by
 go_enter Tryz.func90,Tryz.ntmps90
 go_upto_region 1 with (fail)
 refine zbs (P :=fun V => Code.wp _ _ _ _ V) w r (fun V hB hlt h h1 => ?_)
 go_wp2_with (first | (go_at_call 115;refine (ycg.calls _ _ _ _ (by first | exact hi.out | exact hc.out)).mono ?_;rintro e w' ⟨rfl,hd⟩;have hb :=zaa hd;replace h :=h.under hb;replace h1 :=h1.under hb;replace hB :=below_then hB hB.size hb;clear hb;skip;clear hd) | ((first | ((first | (go_at_call 120;refine (jo4.1 _ _).mono ?_) | (go_at_call 121;refine (jo5.2.2.2.2.2.2 _ _).mono ?_));rintro e w' ⟨rfl,hb⟩;replace h :=h.under hb;replace h1 :=h1.under hb;replace hB :=below_then hB hB.size hb;clear hb) | ((with_reducible refine gate_store 5 ?_);refine zar h rfl _ _ rfl _ _ rfl rfl rfl (by decide) ?_;intro V' hk hr;replace hB :=zaj hB hk (Nat.le_refl _) hB.size;replace h1 :=h1.kp hk (by omega);replace h :=hr;clear hk hr));skip) | ((with_reducible refine gate_load 24 ?_);refine zal h rfl _ rfl rfl ?_) | ((with_reducible refine gate_store 24 ?_);refine zah h1 rfl _ _ rfl _ rfl rfl ?_;intro V' hk hr;replace hB :=zaj hB hk (Nat.le_succ _) hB.size;replace h1 :=hr;clear hk hr))
 refine bodyPost_ret (zaq Tryz.results90 _ h1 rfl) rfl ?_
 exact ⟨rfl,hB⟩
theorem put_1_0 (r : Rg) (i code v : Int) (w : World) (hi : Aside0 (ycg.f i 3 = some 1)) (hc : Aside0 (ycg.f code 8 = some 0)) :
  Calls Tryz.prog 90 #[.agg r.vals,.int .i64 i,.int .i64 code,.int .u8 v] w fun e w' => e = .returned (.agg ({ r with b :=v } : Rg).vals) ∧ Below w.heap.size w w' :=by
 go_enter Tryz.func90,Tryz.ntmps90
 go_upto_region 1 with (fail)
 refine zbs (P :=fun V => Code.wp _ _ _ _ V) w r (fun V hB hlt h h1 => ?_)
 go_wp2_with (first | (go_at_call 115;refine (ycg.calls _ _ _ _ (by first | exact hi.out | exact hc.out)).mono ?_;rintro e w' ⟨rfl,hd⟩;have hb :=zaa hd;replace h :=h.under hb;replace h1 :=h1.under hb;replace hB :=below_then hB hB.size hb;clear hb;skip;clear hd) | ((first | ((first | (go_at_call 120;refine (jo4.2.1 _ _).mono ?_) | (go_at_call 121;refine (jo5.1 _ _).mono ?_));rintro e w' ⟨rfl,hb⟩;replace h :=h.under hb;replace h1 :=h1.under hb;replace hB :=below_then hB hB.size hb;clear hb) | ((with_reducible refine gate_store 5 ?_);refine zar h rfl _ _ rfl _ _ rfl rfl rfl (by decide) ?_;intro V' hk hr;replace hB :=zaj hB hk (Nat.le_refl _) hB.size;replace h1 :=h1.kp hk (by omega);replace h :=hr;clear hk hr));skip) | ((with_reducible refine gate_load 24 ?_);refine zal h rfl _ rfl rfl ?_) | ((with_reducible refine gate_store 24 ?_);refine zah h1 rfl _ _ rfl _ rfl rfl ?_;intro V' hk hr;replace hB :=zaj hB hk (Nat.le_succ _) hB.size;replace h1 :=hr;clear hk hr))
 refine bodyPost_ret (zaq Tryz.results90 _ h1 rfl) rfl ?_
 exact ⟨rfl,hB⟩
theorem put_1_1 (r : Rg) (i code v : Int) (w : World) (hi : Aside0 (ycg.f i 3 = some 1)) (hc : Aside0 (ycg.f code 8 = some 1)) :
  Calls Tryz.prog 90 #[.agg r.vals,.int .i64 i,.int .i64 code,.int .u8 v] w fun e w' => e = .returned (.agg ({ r with c :=v } : Rg).vals) ∧ Below w.heap.size w w' :=by
 go_enter Tryz.func90,Tryz.ntmps90
 go_upto_region 1 with (fail)
 refine zbs (P :=fun V => Code.wp _ _ _ _ V) w r (fun V hB hlt h h1 => ?_)
 go_wp2_with (first | (go_at_call 115;refine (ycg.calls _ _ _ _ (by first | exact hi.out | exact hc.out)).mono ?_;rintro e w' ⟨rfl,hd⟩;have hb :=zaa hd;replace h :=h.under hb;replace h1 :=h1.under hb;replace hB :=below_then hB hB.size hb;clear hb;skip;clear hd) | ((first | ((first | (go_at_call 120;refine (jo4.2.1 _ _).mono ?_) | (go_at_call 121;refine (jo5.2.1 _ _).mono ?_));rintro e w' ⟨rfl,hb⟩;replace h :=h.under hb;replace h1 :=h1.under hb;replace hB :=below_then hB hB.size hb;clear hb) | ((with_reducible refine gate_store 5 ?_);refine zar h rfl _ _ rfl _ _ rfl rfl rfl (by decide) ?_;intro V' hk hr;replace hB :=zaj hB hk (Nat.le_refl _) hB.size;replace h1 :=h1.kp hk (by omega);replace h :=hr;clear hk hr));skip) | ((with_reducible refine gate_load 24 ?_);refine zal h rfl _ rfl rfl ?_) | ((with_reducible refine gate_store 24 ?_);refine zah h1 rfl _ _ rfl _ rfl rfl ?_;intro V' hk hr;replace hB :=zaj hB hk (Nat.le_succ _) hB.size;replace h1 :=hr;clear hk hr))
 refine bodyPost_ret (zaq Tryz.results90 _ h1 rfl) rfl ?_
 exact ⟨rfl,hB⟩
theorem put_1_2 (r : Rg) (i code v : Int) (w : World) (hi : Aside0 (ycg.f i 3 = some 1)) (hc : Aside0 (ycg.f code 8 = some 2)) :
  Calls Tryz.prog 90 #[.agg r.vals,.int .i64 i,.int .i64 code,.int .u8 v] w fun e w' => e = .returned (.agg ({ r with d :=v } : Rg).vals) ∧ Below w.heap.size w w' :=by
 go_enter Tryz.func90,Tryz.ntmps90
 go_upto_region 1 with (fail)
 refine zbs (P :=fun V => Code.wp _ _ _ _ V) w r (fun V hB hlt h h1 => ?_)
 go_wp2_with (first | (go_at_call 115;refine (ycg.calls _ _ _ _ (by first | exact hi.out | exact hc.out)).mono ?_;rintro e w' ⟨rfl,hd⟩;have hb :=zaa hd;replace h :=h.under hb;replace h1 :=h1.under hb;replace hB :=below_then hB hB.size hb;clear hb;skip;clear hd) | ((first | ((first | (go_at_call 120;refine (jo4.2.1 _ _).mono ?_) | (go_at_call 121;refine (jo5.2.2.1 _ _).mono ?_));rintro e w' ⟨rfl,hb⟩;replace h :=h.under hb;replace h1 :=h1.under hb;replace hB :=below_then hB hB.size hb;clear hb) | ((with_reducible refine gate_store 5 ?_);refine zar h rfl _ _ rfl _ _ rfl rfl rfl (by decide) ?_;intro V' hk hr;replace hB :=zaj hB hk (Nat.le_refl _) hB.size;replace h1 :=h1.kp hk (by omega);replace h :=hr;clear hk hr));skip) | ((with_reducible refine gate_load 24 ?_);refine zal h rfl _ rfl rfl ?_) | ((with_reducible refine gate_store 24 ?_);refine zah h1 rfl _ _ rfl _ rfl rfl ?_;intro V' hk hr;replace hB :=zaj hB hk (Nat.le_succ _) hB.size;replace h1 :=hr;clear hk hr))
 refine bodyPost_ret (zaq Tryz.results90 _ h1 rfl) rfl ?_
 exact ⟨rfl,hB⟩
theorem put_1_3 (r : Rg) (i code v : Int) (w : World) (hi : Aside0 (ycg.f i 3 = some 1)) (hc : Aside0 (ycg.f code 8 = some 3)) :
  Calls Tryz.prog 90 #[.agg r.vals,.int .i64 i,.int .i64 code,.int .u8 v] w fun e w' => e = .returned (.agg ({ r with e :=v } : Rg).vals) ∧ Below w.heap.size w w' :=by
 go_enter Tryz.func90,Tryz.ntmps90
 go_upto_region 1 with (fail)
 refine zbs (P :=fun V => Code.wp _ _ _ _ V) w r (fun V hB hlt h h1 => ?_)
 go_wp2_with (first | (go_at_call 115;refine (ycg.calls _ _ _ _ (by first | exact hi.out | exact hc.out)).mono ?_;rintro e w' ⟨rfl,hd⟩;have hb :=zaa hd;replace h :=h.under hb;replace h1 :=h1.under hb;replace hB :=below_then hB hB.size hb;clear hb;skip;clear hd) | ((first | ((first | (go_at_call 120;refine (jo4.2.1 _ _).mono ?_) | (go_at_call 121;refine (jo5.2.2.2.1 _ _).mono ?_));rintro e w' ⟨rfl,hb⟩;replace h :=h.under hb;replace h1 :=h1.under hb;replace hB :=below_then hB hB.size hb;clear hb) | ((with_reducible refine gate_store 5 ?_);refine zar h rfl _ _ rfl _ _ rfl rfl rfl (by decide) ?_;intro V' hk hr;replace hB :=zaj hB hk (Nat.le_refl _) hB.size;replace h1 :=h1.kp hk (by omega);replace h :=hr;clear hk hr));skip) | ((with_reducible refine gate_load 24 ?_);refine zal h rfl _ rfl rfl ?_) | ((with_reducible refine gate_store 24 ?_);refine zah h1 rfl _ _ rfl _ rfl rfl ?_;intro V' hk hr;replace hB :=zaj hB hk (Nat.le_succ _) hB.size;replace h1 :=hr;clear hk hr))
 refine bodyPost_ret (zaq Tryz.results90 _ h1 rfl) rfl ?_
 exact ⟨rfl,hB⟩
theorem jo14 : (∀ (r : Rg) (i code v : Int) (w : World) (hi : Aside0 (ycg.f i 3 = some 1)) (hc : Aside0 (ycg.f code 8 = some 4)), Calls Tryz.prog 90 #[.agg r.vals,.int .i64 i,.int .i64 code,.int .u8 v] w fun e w' => e = .returned (.agg ({ r with ix :=zbg v (r.ix % 256) } : Rg).vals) ∧ Below w.heap.size w w') ∧ (∀ (r : Rg) (i code v : Int) (w : World) (hi : Aside0 (ycg.f i 3 = some 1)) (hc : Aside0 (ycg.f code 8 = some 5)), Calls Tryz.prog 90 #[.agg r.vals,.int .i64 i,.int .i64 code,.int .u8 v] w fun e w' => e = .returned (.agg ({ r with ix :=zbg (r.ix / 256 % 256) v } : Rg).vals) ∧ Below w.heap.size w w') :=by
 refine ⟨?_,?_⟩
 all_goals
  intro r i code v w hi hc
  go_enter Tryz.func90,Tryz.ntmps90
  go_upto_region 1 with (fail)
  refine zbs (P :=fun V => Code.wp _ _ _ _ V) w r (fun V hB hlt h h1 => ?_)
  go_wp2_with (first | ((first | (go_at_call 115;refine (ycg.calls _ _ _ _ (by first | exact hi.out | exact hc.out)).mono ?_) | (go_at_call 82;refine (ydh.calls _ _ _ _ (zba _ _)).mono ?_));rintro e w' ⟨rfl,hd⟩;have hb :=zaa hd;replace h :=h.under hb;replace h1 :=h1.under hb;replace hB :=below_then hB hB.size hb;clear hb;(try clear c10);have c10 :=h.cell 10 _ rfl;(try dsimp only [Rg.put] at c10);clear hd) | ((first | (go_at_call 120;refine (jo4.2.1 _ _).mono ?_;rintro e w' ⟨rfl,hb⟩;replace h :=h.under hb;replace h1 :=h1.under hb;replace hB :=below_then hB hB.size hb;clear hb) | ((with_reducible refine gate_store 22 ?_);refine zcd h rfl _ _ rfl _ _ rfl rfl rfl (by decide) ?_;intro V' hk hr;replace hB :=zaj hB hk (Nat.le_refl _) hB.size;replace h1 :=h1.kp hk (by omega);replace h :=hr;clear hk hr));(try clear c10);have c10 :=h.cell 10 _ rfl;(try dsimp only [Rg.put] at c10)) | ((with_reducible refine gate_load 24 ?_);refine zal h rfl _ rfl rfl ?_) | ((with_reducible refine gate_store 24 ?_);refine zah h1 rfl _ _ rfl _ rfl rfl ?_;intro V' hk hr;replace hB :=zaj hB hk (Nat.le_succ _) hB.size;replace h1 :=hr;clear hk hr))
  refine bodyPost_ret (zaq Tryz.results90 _ h1 rfl) rfl ?_
  exact ⟨rfl,hB⟩
theorem put_1_6 (r : Rg) (i code v : Int) (w : World) (hi : Aside0 (ycg.f i 3 = some 1)) (hc : Aside0 (ycg.f code 8 = some 6)) :
  Calls Tryz.prog 90 #[.agg r.vals,.int .i64 i,.int .i64 code,.int .u8 v] w fun e w' => e = .returned (.agg r.vals) ∧ Below w.heap.size w w' :=by
 go_enter Tryz.func90,Tryz.ntmps90
 go_upto_region 1 with (fail)
 refine zbs (P :=fun V => Code.wp _ _ _ _ V) w r (fun V hB hlt h h1 => ?_)
 go_wp2_with (first | (go_at_call 115;refine (ycg.calls _ _ _ _ (by first | exact hi.out | exact hc.out)).mono ?_;rintro e w' ⟨rfl,hd⟩;have hb :=zaa hd;replace h :=h.under hb;replace h1 :=h1.under hb;replace hB :=below_then hB hB.size hb;clear hb;skip;clear hd) | (go_at_call 120;refine (jo4.2.1 _ _).mono ?_;rintro e w' ⟨rfl,hb⟩;replace h :=h.under hb;replace h1 :=h1.under hb;replace hB :=below_then hB hB.size hb;clear hb;skip) | ((with_reducible refine gate_load 24 ?_);refine zal h rfl _ rfl rfl ?_) | ((with_reducible refine gate_store 24 ?_);refine zah h1 rfl _ _ rfl _ rfl rfl ?_;intro V' hk hr;replace hB :=zaj hB hk (Nat.le_succ _) hB.size;replace h1 :=hr;clear hk hr))
 refine bodyPost_ret (zaq Tryz.results90 _ h1 rfl) rfl ?_
 exact ⟨rfl,hB⟩
theorem put_1_7 (r : Rg) (i code v : Int) (w : World) (hi : Aside0 (ycg.f i 3 = some 1)) (hc : Aside0 (ycg.f code 8 = some 7)) :
  Calls Tryz.prog 90 #[.agg r.vals,.int .i64 i,.int .i64 code,.int .u8 v] w fun e w' => e = .returned (.agg ({ r with a :=v } : Rg).vals) ∧ Below w.heap.size w w' :=by
 go_enter Tryz.func90,Tryz.ntmps90
 go_upto_region 1 with (fail)
 refine zbs (P :=fun V => Code.wp _ _ _ _ V) w r (fun V hB hlt h h1 => ?_)
 go_wp2_with (first | (go_at_call 115;refine (ycg.calls _ _ _ _ (by first | exact hi.out | exact hc.out)).mono ?_;rintro e w' ⟨rfl,hd⟩;have hb :=zaa hd;replace h :=h.under hb;replace h1 :=h1.under hb;replace hB :=below_then hB hB.size hb;clear hb;skip;clear hd) | ((first | ((first | (go_at_call 120;refine (jo4.2.1 _ _).mono ?_) | (go_at_call 121;refine (jo5.2.2.2.2.2.2 _ _).mono ?_));rintro e w' ⟨rfl,hb⟩;replace h :=h.under hb;replace h1 :=h1.under hb;replace hB :=below_then hB hB.size hb;clear hb) | ((with_reducible refine gate_store 5 ?_);refine zar h rfl _ _ rfl _ _ rfl rfl rfl (by decide) ?_;intro V' hk hr;replace hB :=zaj hB hk (Nat.le_refl _) hB.size;replace h1 :=h1.kp hk (by omega);replace h :=hr;clear hk hr));skip) | ((with_reducible refine gate_load 24 ?_);refine zal h rfl _ rfl rfl ?_) | ((with_reducible refine gate_store 24 ?_);refine zah h1 rfl _ _ rfl _ rfl rfl ?_;intro V' hk hr;replace hB :=zaj hB hk (Nat.le_succ _) hB.size;replace h1 :=hr;clear hk hr))
 refine bodyPost_ret (zaq Tryz.results90 _ h1 rfl) rfl ?_
 exact ⟨rfl,hB⟩
theorem put_2_0 (r : Rg) (i code v : Int) (w : World) (hi : Aside0 (ycg.f i 3 = some 2)) (hc : Aside0 (ycg.f code 8 = some 0)) :
  Calls Tryz.prog 90 #[.agg r.vals,.int .i64 i,.int .i64 code,.int .u8 v] w fun e w' => e = .returned (.agg ({ r with b :=v } : Rg).vals) ∧ Below w.heap.size w w' :=by
 go_enter Tryz.func90,Tryz.ntmps90
 go_upto_region 1 with (fail)
 refine zbs (P :=fun V => Code.wp _ _ _ _ V) w r (fun V hB hlt h h1 => ?_)
 go_wp2_with (first | (go_at_call 115;refine (ycg.calls _ _ _ _ (by first | exact hi.out | exact hc.out)).mono ?_;rintro e w' ⟨rfl,hd⟩;have hb :=zaa hd;replace h :=h.under hb;replace h1 :=h1.under hb;replace hB :=below_then hB hB.size hb;clear hb;skip;clear hd) | ((first | ((first | (go_at_call 120;refine (jo4.2.2 _ _).mono ?_) | (go_at_call 121;refine (jo5.1 _ _).mono ?_));rintro e w' ⟨rfl,hb⟩;replace h :=h.under hb;replace h1 :=h1.under hb;replace hB :=below_then hB hB.size hb;clear hb) | ((with_reducible refine gate_store 5 ?_);refine zar h rfl _ _ rfl _ _ rfl rfl rfl (by decide) ?_;intro V' hk hr;replace hB :=zaj hB hk (Nat.le_refl _) hB.size;replace h1 :=h1.kp hk (by omega);replace h :=hr;clear hk hr));skip) | ((with_reducible refine gate_load 24 ?_);refine zal h rfl _ rfl rfl ?_) | ((with_reducible refine gate_store 24 ?_);refine zah h1 rfl _ _ rfl _ rfl rfl ?_;intro V' hk hr;replace hB :=zaj hB hk (Nat.le_succ _) hB.size;replace h1 :=hr;clear hk hr))
 refine bodyPost_ret (zaq Tryz.results90 _ h1 rfl) rfl ?_
 exact ⟨rfl,hB⟩
theorem put_2_1 (r : Rg) (i code v : Int) (w : World) (hi : Aside0 (ycg.f i 3 = some 2)) (hc : Aside0 (ycg.f code 8 = some 1)) :
  Calls Tryz.prog 90 #[.agg r.vals,.int .i64 i,.int .i64 code,.int .u8 v] w fun e w' => e = .returned (.agg ({ r with c :=v } : Rg).vals) ∧ Below w.heap.size w w' :=by
 go_enter Tryz.func90,Tryz.ntmps90
 go_upto_region 1 with (fail)
 refine zbs (P :=fun V => Code.wp _ _ _ _ V) w r (fun V hB hlt h h1 => ?_)
 go_wp2_with (first | (go_at_call 115;refine (ycg.calls _ _ _ _ (by first | exact hi.out | exact hc.out)).mono ?_;rintro e w' ⟨rfl,hd⟩;have hb :=zaa hd;replace h :=h.under hb;replace h1 :=h1.under hb;replace hB :=below_then hB hB.size hb;clear hb;skip;clear hd) | ((first | ((first | (go_at_call 120;refine (jo4.2.2 _ _).mono ?_) | (go_at_call 121;refine (jo5.2.1 _ _).mono ?_));rintro e w' ⟨rfl,hb⟩;replace h :=h.under hb;replace h1 :=h1.under hb;replace hB :=below_then hB hB.size hb;clear hb) | ((with_reducible refine gate_store 5 ?_);refine zar h rfl _ _ rfl _ _ rfl rfl rfl (by decide) ?_;intro V' hk hr;replace hB :=zaj hB hk (Nat.le_refl _) hB.size;replace h1 :=h1.kp hk (by omega);replace h :=hr;clear hk hr));skip) | ((with_reducible refine gate_load 24 ?_);refine zal h rfl _ rfl rfl ?_) | ((with_reducible refine gate_store 24 ?_);refine zah h1 rfl _ _ rfl _ rfl rfl ?_;intro V' hk hr;replace hB :=zaj hB hk (Nat.le_succ _) hB.size;replace h1 :=hr;clear hk hr))
 refine bodyPost_ret (zaq Tryz.results90 _ h1 rfl) rfl ?_
 exact ⟨rfl,hB⟩
theorem put_2_2 (r : Rg) (i code v : Int) (w : World) (hi : Aside0 (ycg.f i 3 = some 2)) (hc : Aside0 (ycg.f code 8 = some 2)) :
  Calls Tryz.prog 90 #[.agg r.vals,.int .i64 i,.int .i64 code,.int .u8 v] w fun e w' => e = .returned (.agg ({ r with d :=v } : Rg).vals) ∧ Below w.heap.size w w' :=by
 go_enter Tryz.func90,Tryz.ntmps90
 go_upto_region 1 with (fail)
 refine zbs (P :=fun V => Code.wp _ _ _ _ V) w r (fun V hB hlt h h1 => ?_)
 go_wp2_with (first | (go_at_call 115;refine (ycg.calls _ _ _ _ (by first | exact hi.out | exact hc.out)).mono ?_;rintro e w' ⟨rfl,hd⟩;have hb :=zaa hd;replace h :=h.under hb;replace h1 :=h1.under hb;replace hB :=below_then hB hB.size hb;clear hb;skip;clear hd) | ((first | ((first | (go_at_call 120;refine (jo4.2.2 _ _).mono ?_) | (go_at_call 121;refine (jo5.2.2.1 _ _).mono ?_));rintro e w' ⟨rfl,hb⟩;replace h :=h.under hb;replace h1 :=h1.under hb;replace hB :=below_then hB hB.size hb;clear hb) | ((with_reducible refine gate_store 5 ?_);refine zar h rfl _ _ rfl _ _ rfl rfl rfl (by decide) ?_;intro V' hk hr;replace hB :=zaj hB hk (Nat.le_refl _) hB.size;replace h1 :=h1.kp hk (by omega);replace h :=hr;clear hk hr));skip) | ((with_reducible refine gate_load 24 ?_);refine zal h rfl _ rfl rfl ?_) | ((with_reducible refine gate_store 24 ?_);refine zah h1 rfl _ _ rfl _ rfl rfl ?_;intro V' hk hr;replace hB :=zaj hB hk (Nat.le_succ _) hB.size;replace h1 :=hr;clear hk hr))
 refine bodyPost_ret (zaq Tryz.results90 _ h1 rfl) rfl ?_
 exact ⟨rfl,hB⟩
theorem put_2_3 (r : Rg) (i code v : Int) (w : World) (hi : Aside0 (ycg.f i 3 = some 2)) (hc : Aside0 (ycg.f code 8 = some 3)) :
  Calls Tryz.prog 90 #[.agg r.vals,.int .i64 i,.int .i64 code,.int .u8 v] w fun e w' => e = .returned (.agg ({ r with e :=v } : Rg).vals) ∧ Below w.heap.size w w' :=by
 go_enter Tryz.func90,Tryz.ntmps90
 go_upto_region 1 with (fail)
 refine zbs (P :=fun V => Code.wp _ _ _ _ V) w r (fun V hB hlt h h1 => ?_)
 go_wp2_with (first | (go_at_call 115;refine (ycg.calls _ _ _ _ (by first | exact hi.out | exact hc.out)).mono ?_;rintro e w' ⟨rfl,hd⟩;have hb :=zaa hd;replace h :=h.under hb;replace h1 :=h1.under hb;replace hB :=below_then hB hB.size hb;clear hb;skip;clear hd) | ((first | ((first | (go_at_call 120;refine (jo4.2.2 _ _).mono ?_) | (go_at_call 121;refine (jo5.2.2.2.1 _ _).mono ?_));rintro e w' ⟨rfl,hb⟩;replace h :=h.under hb;replace h1 :=h1.under hb;replace hB :=below_then hB hB.size hb;clear hb) | ((with_reducible refine gate_store 5 ?_);refine zar h rfl _ _ rfl _ _ rfl rfl rfl (by decide) ?_;intro V' hk hr;replace hB :=zaj hB hk (Nat.le_refl _) hB.size;replace h1 :=h1.kp hk (by omega);replace h :=hr;clear hk hr));skip) | ((with_reducible refine gate_load 24 ?_);refine zal h rfl _ rfl rfl ?_) | ((with_reducible refine gate_store 24 ?_);refine zah h1 rfl _ _ rfl _ rfl rfl ?_;intro V' hk hr;replace hB :=zaj hB hk (Nat.le_succ _) hB.size;replace h1 :=hr;clear hk hr))
 refine bodyPost_ret (zaq Tryz.results90 _ h1 rfl) rfl ?_
 exact ⟨rfl,hB⟩
theorem jo15 : (∀ (r : Rg) (i code v : Int) (w : World) (hi : Aside0 (ycg.f i 3 = some 2)) (hc : Aside0 (ycg.f code 8 = some 4)), Calls Tryz.prog 90 #[.agg r.vals,.int .i64 i,.int .i64 code,.int .u8 v] w fun e w' => e = .returned (.agg ({ r with iy :=zbg v (r.iy % 256) } : Rg).vals) ∧ Below w.heap.size w w') ∧ (∀ (r : Rg) (i code v : Int) (w : World) (hi : Aside0 (ycg.f i 3 = some 2)) (hc : Aside0 (ycg.f code 8 = some 5)), Calls Tryz.prog 90 #[.agg r.vals,.int .i64 i,.int .i64 code,.int .u8 v] w fun e w' => e = .returned (.agg ({ r with iy :=zbg (r.iy / 256 % 256) v } : Rg).vals) ∧ Below w.heap.size w w') :=by
 refine ⟨?_,?_⟩
 all_goals
  intro r i code v w hi hc
  go_enter Tryz.func90,Tryz.ntmps90
  go_upto_region 1 with (fail)
  refine zbs (P :=fun V => Code.wp _ _ _ _ V) w r (fun V hB hlt h h1 => ?_)
  go_wp2_with (first | ((first | (go_at_call 115;refine (ycg.calls _ _ _ _ (by first | exact hi.out | exact hc.out)).mono ?_) | (go_at_call 82;refine (ydh.calls _ _ _ _ (zba _ _)).mono ?_));rintro e w' ⟨rfl,hd⟩;have hb :=zaa hd;replace h :=h.under hb;replace h1 :=h1.under hb;replace hB :=below_then hB hB.size hb;clear hb;(try clear c11);have c11 :=h.cell 11 _ rfl;(try dsimp only [Rg.put] at c11);clear hd) | ((first | (go_at_call 120;refine (jo4.2.2 _ _).mono ?_;rintro e w' ⟨rfl,hb⟩;replace h :=h.under hb;replace h1 :=h1.under hb;replace hB :=below_then hB hB.size hb;clear hb) | ((with_reducible refine gate_store 22 ?_);refine zcd h rfl _ _ rfl _ _ rfl rfl rfl (by decide) ?_;intro V' hk hr;replace hB :=zaj hB hk (Nat.le_refl _) hB.size;replace h1 :=h1.kp hk (by omega);replace h :=hr;clear hk hr));(try clear c11);have c11 :=h.cell 11 _ rfl;(try dsimp only [Rg.put] at c11)) | ((with_reducible refine gate_load 24 ?_);refine zal h rfl _ rfl rfl ?_) | ((with_reducible refine gate_store 24 ?_);refine zah h1 rfl _ _ rfl _ rfl rfl ?_;intro V' hk hr;replace hB :=zaj hB hk (Nat.le_succ _) hB.size;replace h1 :=hr;clear hk hr))
  refine bodyPost_ret (zaq Tryz.results90 _ h1 rfl) rfl ?_
  exact ⟨rfl,hB⟩
theorem put_2_6 (r : Rg) (i code v : Int) (w : World) (hi : Aside0 (ycg.f i 3 = some 2)) (hc : Aside0 (ycg.f code 8 = some 6)) :
  Calls Tryz.prog 90 #[.agg r.vals,.int .i64 i,.int .i64 code,.int .u8 v] w fun e w' => e = .returned (.agg r.vals) ∧ Below w.heap.size w w' :=by
 go_enter Tryz.func90,Tryz.ntmps90
 go_upto_region 1 with (fail)
 refine zbs (P :=fun V => Code.wp _ _ _ _ V) w r (fun V hB hlt h h1 => ?_)
 go_wp2_with (first | (go_at_call 115;refine (ycg.calls _ _ _ _ (by first | exact hi.out | exact hc.out)).mono ?_;rintro e w' ⟨rfl,hd⟩;have hb :=zaa hd;replace h :=h.under hb;replace h1 :=h1.under hb;replace hB :=below_then hB hB.size hb;clear hb;skip;clear hd) | (go_at_call 120;refine (jo4.2.2 _ _).mono ?_;rintro e w' ⟨rfl,hb⟩;replace h :=h.under hb;replace h1 :=h1.under hb;replace hB :=below_then hB hB.size hb;clear hb;skip) | ((with_reducible refine gate_load 24 ?_);refine zal h rfl _ rfl rfl ?_) | ((with_reducible refine gate_store 24 ?_);refine zah h1 rfl _ _ rfl _ rfl rfl ?_;intro V' hk hr;replace hB :=zaj hB hk (Nat.le_succ _) hB.size;replace h1 :=hr;clear hk hr))
 refine bodyPost_ret (zaq Tryz.results90 _ h1 rfl) rfl ?_
 exact ⟨rfl,hB⟩
theorem put_2_7 (r : Rg) (i code v : Int) (w : World) (hi : Aside0 (ycg.f i 3 = some 2)) (hc : Aside0 (ycg.f code 8 = some 7)) :
  Calls Tryz.prog 90 #[.agg r.vals,.int .i64 i,.int .i64 code,.int .u8 v] w fun e w' => e = .returned (.agg ({ r with a :=v } : Rg).vals) ∧ Below w.heap.size w w' :=by
 go_enter Tryz.func90,Tryz.ntmps90
 go_upto_region 1 with (fail)
 refine zbs (P :=fun V => Code.wp _ _ _ _ V) w r (fun V hB hlt h h1 => ?_)
 go_wp2_with (first | (go_at_call 115;refine (ycg.calls _ _ _ _ (by first | exact hi.out | exact hc.out)).mono ?_;rintro e w' ⟨rfl,hd⟩;have hb :=zaa hd;replace h :=h.under hb;replace h1 :=h1.under hb;replace hB :=below_then hB hB.size hb;clear hb;skip;clear hd) | ((first | ((first | (go_at_call 120;refine (jo4.2.2 _ _).mono ?_) | (go_at_call 121;refine (jo5.2.2.2.2.2.2 _ _).mono ?_));rintro e w' ⟨rfl,hb⟩;replace h :=h.under hb;replace h1 :=h1.under hb;replace hB :=below_then hB hB.size hb;clear hb) | ((with_reducible refine gate_store 5 ?_);refine zar h rfl _ _ rfl _ _ rfl rfl rfl (by decide) ?_;intro V' hk hr;replace hB :=zaj hB hk (Nat.le_refl _) hB.size;replace h1 :=h1.kp hk (by omega);replace h :=hr;clear hk hr));skip) | ((with_reducible refine gate_load 24 ?_);refine zal h rfl _ rfl rfl ?_) | ((with_reducible refine gate_store 24 ?_);refine zah h1 rfl _ _ rfl _ rfl rfl ?_;intro V' hk hr;replace hB :=zaj hB hk (Nat.le_succ _) hB.size;replace h1 :=hr;clear hk hr))
 refine bodyPost_ret (zaq Tryz.results90 _ h1 rfl) rfl ?_
 exact ⟨rfl,hB⟩
def Rg.get (r : Rg) (i c : Int) : Int :=
 if c = 6 then 0 else if 0 < i ∧ c = 4 then (if i = 1 then r.ix / 256 % 256 else r.iy / 256 % 256) else if 0 < i ∧ c = 5 then (if i = 1 then r.ix % 256 else r.iy % 256)
 else if c = 0 then r.b else if c = 1 then r.c else if c = 2 then r.d else if c = 3 then r.e else if c = 4 then r.h else if c = 5 then r.l else r.a
def Rg.put1 (r : Rg) (i c v : Int) : Rg :=
 if c = 6 then r else if 0 < i ∧ c = 4 then (if i = 1 then { r with ix :=zbg v (r.ix % 256) } else { r with iy :=zbg v (r.iy % 256) }) else if 0 < i ∧ c = 5 then (if i = 1 then { r with ix :=zbg (r.ix / 256 % 256) v } else { r with iy :=zbg (r.iy / 256 % 256) v })
 else if c = 0 then { r with b :=v } else if c = 1 then { r with c :=v } else if c = 2 then { r with d :=v } else if c = 3 then { r with e :=v } else if c = 4 then { r with h :=v } else if c = 5 then { r with l :=v } else { r with a :=v }
theorem Get (r : Rg) (i code : Int) (w : World) :
  Calls Tryz.prog 93 #[.agg r.vals,.int .i64 i,.int .i64 code] w fun e w' => e = .returned (.int .u8 (r.get (rmod i 3) (rmod code 8))) ∧ Below w.heap.size w w' :=by
 have hi :=zbp i 3 (by decide) (by decide)
 have hc :=zbp code 8 (by decide) (by decide)
 have fi :=zbq i 3 (by decide)
 have fc :=zbq code 8 (by decide)
 generalize rmod i 3 = x at hi fi ⊢
 generalize rmod code 8 = y at hc fc ⊢
 by_cases x0 : x = 0
 ·subst x0;(
  by_cases y0 : y = 0
  ·subst y0;exact jo6.1 r i code w ⟨fi⟩ ⟨fc⟩
  by_cases y1 : y = 1
  ·subst y1;exact jo7.1 r i code w ⟨fi⟩ ⟨fc⟩
  by_cases y2 : y = 2
  ·subst y2;exact jo8.1 r i code w ⟨fi⟩ ⟨fc⟩
  by_cases y3 : y = 3
  ·subst y3;exact jo9.1 r i code w ⟨fi⟩ ⟨fc⟩
  by_cases y4 : y = 4
  ·subst y4;exact get_0_4 r i code w ⟨fi⟩ ⟨fc⟩
  by_cases y5 : y = 5
  ·subst y5;exact get_0_5 r i code w ⟨fi⟩ ⟨fc⟩
  by_cases y6 : y = 6
  ·subst y6;exact jo10.1 r i code w ⟨fi⟩ ⟨fc⟩
  obtain rfl : y = 7 :=by omega
  exact jo11.1 r i code w ⟨fi⟩ ⟨fc⟩
  )
 by_cases x1 : x = 1
 ·subst x1;(
  by_cases y0 : y = 0
  ·subst y0;exact jo6.2.1 r i code w ⟨fi⟩ ⟨fc⟩
  by_cases y1 : y = 1
  ·subst y1;exact jo7.2.1 r i code w ⟨fi⟩ ⟨fc⟩
  by_cases y2 : y = 2
  ·subst y2;exact jo8.2.1 r i code w ⟨fi⟩ ⟨fc⟩
  by_cases y3 : y = 3
  ·subst y3;exact jo9.2.1 r i code w ⟨fi⟩ ⟨fc⟩
  by_cases y4 : y = 4
  ·subst y4;exact jo12.1 r i code w ⟨fi⟩ ⟨fc⟩
  by_cases y5 : y = 5
  ·subst y5;exact jo12.2 r i code w ⟨fi⟩ ⟨fc⟩
  by_cases y6 : y = 6
  ·subst y6;exact jo10.2.1 r i code w ⟨fi⟩ ⟨fc⟩
  obtain rfl : y = 7 :=by omega
  exact jo11.2.1 r i code w ⟨fi⟩ ⟨fc⟩
  )
 obtain rfl : x = 2 :=by omega
 (
  by_cases y0 : y = 0
  ·subst y0;exact jo6.2.2 r i code w ⟨fi⟩ ⟨fc⟩
  by_cases y1 : y = 1
  ·subst y1;exact jo7.2.2 r i code w ⟨fi⟩ ⟨fc⟩
  by_cases y2 : y = 2
  ·subst y2;exact jo8.2.2 r i code w ⟨fi⟩ ⟨fc⟩
  by_cases y3 : y = 3
  ·subst y3;exact jo9.2.2 r i code w ⟨fi⟩ ⟨fc⟩
  by_cases y4 : y = 4
  ·subst y4;exact jo13.1 r i code w ⟨fi⟩ ⟨fc⟩
  by_cases y5 : y = 5
  ·subst y5;exact jo13.2 r i code w ⟨fi⟩ ⟨fc⟩
  by_cases y6 : y = 6
  ·subst y6;exact jo10.2.2 r i code w ⟨fi⟩ ⟨fc⟩
  obtain rfl : y = 7 :=by omega
  exact jo11.2.2 r i code w ⟨fi⟩ ⟨fc⟩
  )
theorem Put (r : Rg) (i code : Int) (v : Int) (w : World) :
  Calls Tryz.prog 90 #[.agg r.vals,.int .i64 i,.int .i64 code,.int .u8 v] w fun e w' => e = .returned (.agg (r.put1 (rmod i 3) (rmod code 8) v).vals) ∧ Below w.heap.size w w' :=by
 have hi :=zbp i 3 (by decide) (by decide)
 have hc :=zbp code 8 (by decide) (by decide)
 have fi :=zbq i 3 (by decide)
 have fc :=zbq code 8 (by decide)
 generalize rmod i 3 = x at hi fi ⊢
 generalize rmod code 8 = y at hc fc ⊢
 by_cases x0 : x = 0
 ·subst x0;(
  by_cases y0 : y = 0
  ·subst y0;exact put_0_0 r i code v w ⟨fi⟩ ⟨fc⟩
  by_cases y1 : y = 1
  ·subst y1;exact put_0_1 r i code v w ⟨fi⟩ ⟨fc⟩
  by_cases y2 : y = 2
  ·subst y2;exact put_0_2 r i code v w ⟨fi⟩ ⟨fc⟩
  by_cases y3 : y = 3
  ·subst y3;exact put_0_3 r i code v w ⟨fi⟩ ⟨fc⟩
  by_cases y4 : y = 4
  ·subst y4;exact put_0_4 r i code v w ⟨fi⟩ ⟨fc⟩
  by_cases y5 : y = 5
  ·subst y5;exact put_0_5 r i code v w ⟨fi⟩ ⟨fc⟩
  by_cases y6 : y = 6
  ·subst y6;exact put_0_6 r i code v w ⟨fi⟩ ⟨fc⟩
  obtain rfl : y = 7 :=by omega
  exact put_0_7 r i code v w ⟨fi⟩ ⟨fc⟩
  )
 by_cases x1 : x = 1
 ·subst x1;(
  by_cases y0 : y = 0
  ·subst y0;exact put_1_0 r i code v w ⟨fi⟩ ⟨fc⟩
  by_cases y1 : y = 1
  ·subst y1;exact put_1_1 r i code v w ⟨fi⟩ ⟨fc⟩
  by_cases y2 : y = 2
  ·subst y2;exact put_1_2 r i code v w ⟨fi⟩ ⟨fc⟩
  by_cases y3 : y = 3
  ·subst y3;exact put_1_3 r i code v w ⟨fi⟩ ⟨fc⟩
  by_cases y4 : y = 4
  ·subst y4;exact jo14.1 r i code v w ⟨fi⟩ ⟨fc⟩
  by_cases y5 : y = 5
  ·subst y5;exact jo14.2 r i code v w ⟨fi⟩ ⟨fc⟩
  by_cases y6 : y = 6
  ·subst y6;exact put_1_6 r i code v w ⟨fi⟩ ⟨fc⟩
  obtain rfl : y = 7 :=by omega
  exact put_1_7 r i code v w ⟨fi⟩ ⟨fc⟩
  )
 obtain rfl : x = 2 :=by omega
 (
  by_cases y0 : y = 0
  ·subst y0;exact put_2_0 r i code v w ⟨fi⟩ ⟨fc⟩
  by_cases y1 : y = 1
  ·subst y1;exact put_2_1 r i code v w ⟨fi⟩ ⟨fc⟩
  by_cases y2 : y = 2
  ·subst y2;exact put_2_2 r i code v w ⟨fi⟩ ⟨fc⟩
  by_cases y3 : y = 3
  ·subst y3;exact put_2_3 r i code v w ⟨fi⟩ ⟨fc⟩
  by_cases y4 : y = 4
  ·subst y4;exact jo15.1 r i code v w ⟨fi⟩ ⟨fc⟩
  by_cases y5 : y = 5
  ·subst y5;exact jo15.2 r i code v w ⟨fi⟩ ⟨fc⟩
  by_cases y6 : y = 6
  ·subst y6;exact put_2_6 r i code v w ⟨fi⟩ ⟨fc⟩
  obtain rfl : y = 7 :=by omega
  exact put_2_7 r i code v w ⟨fi⟩ ⟨fc⟩
  )
end Go.Proofs.YtnelghpendfdmaaGreatDoor.KRow
